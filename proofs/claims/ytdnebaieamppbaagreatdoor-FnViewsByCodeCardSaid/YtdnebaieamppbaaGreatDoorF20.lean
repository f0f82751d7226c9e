import Derived.Test.YtdnebaieamppbaaGreatDoorF19
set_option linter.unusedSimpArgs false
set_option linter.unusedVariables false
set_option maxRecDepth 100000
set_option maxHeartbeats 4000000

section
namespace Go.Hm
open Go Go.RowKit
section
variable {p:YU} {m:Y2} {f:YZ} {b i n:Nat} {x:Int} {k:Y4}
theorem M0 (hh:zD p) (hk:p[b]?=some k) (hk1:k.kind=1) (hb0:0<b) (hl:qr b k x=true) {o:Int} (h0:0<o):∀ c:Nat,qy p c b=true->zX p x p.length c=o->(b:Int)<=o:=by
 intro c
 induction c using Nat.strongRecOn with
 | ind c ih =>
  intro hi h;have hbc:=yD hi;have hc0:0<c:=qA
  cases hq:p[c]? with
  | none =>
   have:p.length=0\/∃ n,p.length=n+1:=by
    cases p.length<;>grind
   grind[zX]
  | some q =>
   rw [jh hh hq hc0] at h;obtain⟨g1,g2,g3⟩:=hh c q hq;have g4:=g3 hc0;obtain⟨j,hj⟩:∃ j:Nat,q.parent=j:=⟨q.parent.toNat,qA⟩;by_cases e:c=b
   .subst e;obtain rfl:k=q:=by simpa [hk] using hq
    simp only [qr,uR,decide_eq_true_eq,sO,decide_eq_false_iff_not] at hl
    simp_all [qr]
   .have hs:=zZ hh (b:=(b:Int)) qA hq qA;rw [hi,hj] at hs;rw [hj] at h;have key:=ih j qA hs.symm
    split at h
    .exact key h
    .split at h
     .omega
     .split at h
      .omega
      .exact key h
theorem lN (hh:zD p) (hk:p[b]?=some k) (hk1:k.kind=1) (hx:x∈qN p b):qr b k x=false:=by
 rw [GW];intro hl;have hb0:=fN hx;obtain⟨o,c,q,h0,hob,e,hi,hq,hu,hw,hc⟩:=aN hh hk hx;have hbc:=yD hc;have hw':=hw;simp only [qh,hq] at hw'
 split at hw'
 .omega
 .split at hw'
  .omega
  .rw [jQ hh hq] at hw';obtain⟨g1,g2,g3⟩:=hh c q hq;have g4:=g3 qA;obtain⟨j,hj⟩:∃ j:Nat,q.parent=j:=⟨q.parent.toNat,qA⟩;by_cases e:c=b
   .subst e;obtain rfl:k=q:=by simpa [hk] using hq
    simp_all
   .have hs:=zZ hh (b:=(b:Int)) qA hq qA;rw [hc,hj] at hs;rw [hj] at hw';have:=M0 hh hk hk1 hb0 hl (o:=o) qA j hs.symm hw';omega
def lH (p:YU) (b:Nat):List Int:=if qV p b=1 then qG p b++(qC p b++qN p b) else oA
theorem MN (h:qV p b=1):∃ k,p[b]?=some k/\k.kind=1:=by
 unfold qV at h
 split at h
 .exact⟨_,by assumption,h⟩
 .omega
theorem tw (hx:x∈qG p b):x∉qC p b:=by
 grind[qG,j6,yI]
theorem tv (hh:zD p) (hx:x∈qG p b):x∉qN p b:=by
 intro h;unfold qG at hx
 split at hx
 .rename_i h1;obtain⟨k,hk,hk1⟩:=MN h1;have:=lN hh hk hk1 h
  grind[j6,yI]
 .simp at hx
theorem xD (hh:zD p) (hx:x∈qC p b):x∉qN p b:=by
 intro h;have hx':=hx;unfold qC at hx'
 split at hx'
 .rename_i h1;obtain⟨k,hk,hk1⟩:=MN h1;have:=lN hh hk hk1 h
  grind[mF]
 .simp at hx'
theorem fI {l:List Int} (h:l.Pairwise (·<·)):l.Nodup:=h.imp λh=>qA
theorem pe:(qG p b).Nodup:=by
 by_cases h:qV p b=1
 .rw [qG,if_pos h];exact fI (ir 8)
 .rw [qG,if_neg h];exact List.nodup_nil
theorem pN (hh:zD p):(lH p b).Nodup:=by
 unfold lH
 split
 .have h1:=pe (p:=p) (b:=b);have h2:(qC p b).Nodup:=fI pp;have h3:(qN p b).Nodup:=fI (kW 8);rw [List.nodup_append,List.nodup_append];refine⟨h1,⟨h2,h3,λa ha c hc e=>?_⟩,λa ha c hc e=>?_⟩
  .subst e;exact xD hh ha hc
  .subst e;rcases cK.1 hc with hc|hc
   .exact tw ha hc
   .exact tv hh ha hc
 .decide
theorem pM (hx:x∈lH p b):0<=x/\x<=7:=by
 unfold lH at hx
 split at hx
 .have h1:x∈qG p b->0<=x/\x<=7:=by grind[qG,j6]
  have h2:x∈qC p b->0<=x/\x<=7:=by grind[qC,mem_sorted]
  have h3:x∈qN p b->0<=x/\x<=7:=by grind[qN,mem_sorted]
  grind
 .simp only [oA,wH,Jg,or_false] at hx;omega
theorem tg (hh:zD p):(lH p b).Perm (yp p b):=by
 refine (List.perm_ext_iff_of_nodup (pN hh) (fI xf)).2 λx=>?_;have:=pM (p:=p) (b:=b) (x:=x);unfold lH at this ⊢;unfold yp
 split
 .rw [mem_sorted,nS]
  simp_all
 .exact Iff.rfl
theorem DD (hh:zD p):(lH p b).length<=8:=(tg hh).length_eq ▸ il
structure FrV (p:YU) (m:Y2) (f:YZ):Prop where
 YS:f.YS<p.length
 YV:f.YV.length=(qG p f.YS).length
 names:qV p f.YS=2->f.names.length=8
 qBw:f.cells.length=(qC p f.YS).length+(qN p f.YS).length
 cells:∀ c∈f.cells,c<m.cells.length
theorem lq {l:List Int} (hn:l.Nodup) (h:l[i]?=some x):qq l x=i:=by
 obtain⟨j,h1,h2,h3⟩:=zQ (gM h);have:=(List.getElem?_inj h2 hn).1 (h3.trans h.symm);rw [h1,this]
theorem tF (hk:qV p f.YS=1) (hb:0<f.YS) (h:(qG p f.YS)[i]?=some x):vW p m f x=ju f.YV i:=by
 have hx:=gM h;have hn:=pe (p:=p) (b:=f.YS);have h2:¬ qV p f.YS=2:=qA;have h0:¬ f.YS=0:=qA;simp [vW,h0,h2,hx,lq hn h]
theorem I1 (hk:qV p f.YS=1) (hb:0<f.YS) (h:(qC p f.YS)[i]?=some x):vW p m f x=ju m.cells (f.cells.getD i 0):=by
 have hx:=gM h;have hf:x∉qG p f.YS:=λhf=>tw hf hx;have h2:¬ qV p f.YS=2:=qA;have h0:¬ f.YS=0:=qA;simp [vW,h0,h2,hf,vM,hx,lq (fI pp) h]
theorem I0 (hh:zD p) (hk:qV p f.YS=1) (hb:0<f.YS) (h:(qN p f.YS)[i]?=some x):vW p m f x=ju m.cells (f.cells.getD ((qC p f.YS).length+i) 0):=by
 have hx:=gM h;have hf:x∉qG p f.YS:=λhf=>tv hh hf hx;have hc:x∉qC p f.YS:=λhc=>xD hh hc hx;have h2:¬ qV p f.YS=2:=qA;have h0:¬ f.YS=0:=qA;have e:(((qC p f.YS).length:Int)+(i:Int)).toNat=(qC p f.YS).length+i:=qA;simp [vW,h0,h2,hf,vM,hc,lq (fI (l:=qN p f.YS) (kW 8)) h,e]
theorem Mp (h:x∈qC p b\/x∈qN p b):∃ q:Nat,vM p b x=q/\q<(qC p b).length+(qN p b).length:=by
 unfold vM
 split
 .rename_i hc;obtain⟨q,h1,h2,_⟩:=zQ hc;exact⟨q,h1,qA⟩
 .rename_i hc;obtain⟨q,h1,h2,_⟩:=zQ (h.resolve_left hc);exact⟨(qC p b).length+q,qA,qA⟩
theorem Ra (hk:qV p b=1) (hx:x∈yp p b):x∈qG p b\/x∈qC p b\/x∈qN p b:=by
 rw [yp,if_pos hk,mem_sorted,nS] at hx
 simpa using hx.1
theorem P8 {G:List Yj} (h:G.length=8):oA.zip G=oA.map λx=>(x,ju G x.toNat):=by
 match G,h with
 | [_,_,_,_,_,_,_,_],_=>rfl
theorem Pu {tr:List (Nat×Nat)}:sV p 4 tr+sV p 5 tr<=tr.length:=by
 unfold sV
 induction tr with
 | nil=>simp
 | cons t tr ih =>
  simp only [List.countP_cons,GY]
  split <;> split <;> simp_all <;> omega
theorem pX (hp:Yl p) (hn:n<=150):(aY p n).globals.length=8/\(aY p n).YO.length<=151/\(∀ f∈(aY p n).YO,FrV p (aY p n) f)/\((aY p n).en≠0->(aY p n).YO≠[]):=by
 obtain⟨_,hC⟩:=LH hp hn;have hA:=iy hp.sh hn;have hb:=UI hp hn;refine⟨hb.2.2,?_,?_,?_⟩
 .have hI:=Rl (n:=n) (t:=8) hp hn λb=>zn;have h1:=hI.fr;have h2:=hI.dm;have h3:=hC.made;have h4:=SQ hp.sh hn;have h5:=(Es hp.sh hn).tr;have h6:=Pu (p:=p) (tr:=(ji p n).trace);unfold c45 at h4;omega
 .intro f hf;by_cases he:(ji p n).en=0
  .rw [hC.fin he] at hf;simp at hf
  .obtain⟨B,hR⟩:=hC.err he;obtain⟨i,hi⟩:=ab hf;have hil:=(gS hi).1;have hfl:=hR.frl;obtain⟨a,ha⟩:∃ a,(ji p n).stack[i]?=some a:=⟨_,gE qA⟩;have hal:=hA.ok.Z7 a (gM ha);obtain⟨c,hc⟩:=gX hal;have hF:=hR.frs i a c f ha hc hi;have Ym:=hA.ok.Zs a c hc;obtain⟨k,hk⟩:=gX Ym;refine⟨by rw [hF.YS];exact Ym,by rw [hF.YV,hF.YS];simp,λh2=>?_,by rw [hF.cells,hF.YS];simp [vf,aP],λq hq=>?_⟩
   .rw [hF.names (by rw [<- hF.YS];exact h2)];exact (hA.ok.vars a c hc).1
   .rw [hF.cells,vf] at hq;rcases cK.1 hq with hq|hq
    .have:=hR.top a c hc;simp only [eg,BW] at hq;obtain⟨j,hj,rfl⟩:=hq;omega
    .simp only [aP,eg] at hq;obtain⟨x,hx,rfl⟩:=hq;obtain⟨o,d,e,j,g0,hou,hi',hne,hd,hq',hqb,hcl',hj,hcn⟩:=A5 (B:=B) hp.sh.Y9 hA.ok hc hk hx;have:=hR.top d e hq';have hjl:=(gS hj).1;rw [hou,a6,hcn,<- hqb] at *;rw [hqb] at this;omega
 .intro he e;rw [hC.en] at he;obtain⟨B,hR⟩:=hC.err he;obtain⟨tl,htl⟩:=(tY hp.sh hn).pre;have hfl:=hR.frl;rw [e,<- htl] at hfl;simp at hfl
theorem OQ (hp:Yl p) {fr:List YZ} (h:(fr=m.YO/\m.YO≠[])\/(m.YO=[]/\∃ f,fr=[f]/\f.YS=0)):fr.map (dP p m)=kO p m:=by
 have hk0:qV p 0≠1:=by
  obtain⟨k,hk⟩:∃ k,p[0]?=some k:=⟨_,gE (by have:=hp.sh.len;omega)⟩;have:=(hp.sh.Ze hk).2 rfl;simp [qV,hk,this]
 rcases h with⟨rfl,hne⟩|⟨e,f,rfl,hf⟩
 .unfold kO
  split
  .simp_all
  .rfl
 .unfold kO;rw [e];simp only [dT,sH,dP,hf,yp,if_neg hk0,vW,if_true]
  rfl
end
section
variable {hp:Nm->Option AO} {p:YU} {m:Y2} {i:Nat} {f:YZ}
theorem YQ.qDP (h:YQ hp p m):∃ R,hp Yn=some (.row 4415 [R])/\R.length=4415/\R[0]?=some (csl (qg p p.length))/\(R.drop 6).take 24=kI m.globals/\R[4411]?=some (iv m.YO.length):=by
 obtain⟨J,hJ,e⟩:=h.top;exact⟨_,e,ae (wP hJ),Gc,KD,dY (wP hJ)⟩
theorem YQ.qBh (h:YQ hp p m) (hf:m.YO[i]?=some f) (hi:i<151):∃ R,hp Yn=some (.row 4415 [R])/\R.length=4415/\R[0]?=some (csl (qg p p.length))/\(R.drop 6).take 24=kI m.globals/\R[yo i]?=some (iv f.YS)/\R[yo i+2]?=some (.hs (.c Yn 0 (yo i+2)) 3 0 f.YV.length)/\R[yo i+3]?=some (.hs (.c Yn 0 (yo i+3)) 1 0 f.cells.length)/\(R.drop (yo i+4)).take 24=kI f.names:=by
 obtain⟨J,hJ,e⟩:=h.top;have hc:=wP (fs:=m.YO) hJ
 have key:∀ j,j<29->(zJ p m m.YO.length (Hm.yc m.YO J))[yo i+j]?=(Zy i f)[j]?:=λj hj=>by
  have:=Xl (p:=p) (m:=m) (h:=m.YO.length) hc hi hj;rw [Bi hf] at this;rw [<- this]
  congr 1
  simp only [yo];omega
 refine⟨_,e,ae hc,Gc,KD,?_,?_,?_,?_⟩
 .have:=key 0 qA
  rwa [so,OC] at this
 .rw [key 2 qA,OB]
 .rw [key 3 qA,OA]
 .have:=T9 (p:=p) (m:=m) (h:=m.YO.length) (j:=4) (k:=24) hc hi qA;rw [Bi hf,Bg] at this;rw [<- this]
  congr 2
theorem Hz {x:Nat} (h:x<8):oA[x]?=some (x:Int):=by
 match x,h with
 | 0,_|1,_|2,_|3,_|4,_|5,_|6,_|7,_=>rfl
theorem br {K:List Int} {gs:Int->Yj} {pos:Nat} {y:Int} {s:Yj} (hn:K.Nodup) (h:K[pos]?=some y) (hs:gs y=s):Er .i64 y (.agg (jJ s)) (vR gs (K.take pos))=vR gs (K.take (pos+1)):=by
 have hno:y∉K.take pos:=by
  intro hm;obtain⟨q,hq⟩:=ab hm;rw [Jk] at hq
  split at hq
  .have:=(List.getElem?_inj (by have:=(gS h).1;omega) hn).1 (hq.trans h.symm);omega
  .cases hq
 rw [<- hs,DN hno,dN,h]
 rfl
end
section
variable {p:YU} {m:Y2} {st:St} {d:Nat} {D:Nm->Bool} {H H':Nm->Option AO} {a b:Nm}
theorem Jt (h:YQ H' p m):YQ (st.call d DM H H').hp p m :=
 h.Yq (f:=some) (λ_ _=>rfl) λk hk=>by
  simp only [Sv,hk,BS,if_true]
  cases H' k <;> simp [AO.Yg]
theorem Qs (hD:∀ k,DM k=true->D k=false) (h:YQ st.hp p m):YQ (st.call d D H H').hp p m :=
 h.Yq (f:=cf d D H) (λk hk=>by simp [hD k hk,xL hk]) λk hk=>by simp [hD k hk,xL hk]
theorem QW:∀ k,DM k=true->Nm.under (.u 2 0 0) k=false
 | .s d,h=>by simp [Nm.under]
 | .u a b c,h=>by
  simp only [YL] at h;simp only [Nm.under,decide_eq_false_iff_not];intro e
  injection e with e1
  subst e1;exact absurd h qL
 | .c q i j,h=>by
  rw [YM] at h;simp [Nm.under,QW q h]
theorem TQ (ha:a.Y3=true) (h:YQ st.hp p m):YQ (st.move a (.u 2 0 0)).hp p m :=
 h.Yq (f:=mv a (.u 2 0 0)) (λk hk=>by simp [mv,jZ ha k hk,QW k hk]) λk hk=>by
  have h1:=jZ ha k hk;have h2:=QW k hk
  simp_all
theorem Va (ha:a.Y3=true) (hb:b.Y3=true) (h:YQ st.hp p m):YQ (st.move a b).hp p m :=
 h.Yq (f:=mv a b) (λk hk=>by simp [mv,jZ ha k hk,jZ hb k hk]) λk hk=>by
  have h1:=jZ ha k hk;have h2:=jZ hb k hk
  simp_all
theorem TP (ha:a.Y3=true) (hb:b.Y3=true) (h:YQ st.hp p m):YQ (st.mvc a b).hp p m :=
 h.Yq (f:=mvc a b) (λk hk=>by simp [mvc,jZ ha k hk,jZ hb k hk]) λk hk=>by
  have h1:=jZ ha k hk;have h2:=jZ hb k hk;have h3:k≠a:=λe=>by subst e;grind[B8]
  have h4:k≠b:=λe=>by subst e;grind[B8]
  simp_all
end
end Go.Hm
end
