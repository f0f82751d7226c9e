import Derived.Test.YtdnebaieamppbaaGreatDoorF39
import Derived.Test.YtdnebaieamppbaaGreatDoorF35
set_option linter.unusedSimpArgs false
set_option linter.unusedVariables false
set_option maxRecDepth 100000
set_option maxHeartbeats 4000000

section
namespace Go.Proofs.YtdnebaieamppbaaGreatDoor
open Go Go.Hm Go.Proofs Tryz
abbrev Vs:Y8:=yq<|.l 11 []<|.done
theorem fM9:fM 9=false:=rfl
theorem uG {A G G2:Prop} (k:G2) (x:A) (h:A->Yr G2->G:=by
 intro fx kk;refine qI ?_
 repeat ((first|refine Y7 (id:=2) Vs mixed ?_);refine qW ?_;refine qI ?_)
 exact kk.h):G:=h x ⟨k⟩
theorem Qt (gl) (H:Nm->Option AO) (p:YU) (n:Nat) (hP:Yl p) (hn:n<=150) (h9:H (.u 9 0 0)=none) (hO:YQ H p (zR n)) :
  Yc prog gl 94 DM [.pt Yn 0] H (λ_ _ H'=>∃ fr,((fr=(aY p n).YO/\(aY p n).en≠0)\/((aY p n).YO=[]/\∃ f,fr=[f]/\f.YS=0))/\YQ H' p { aY p n with YO:=fr }) Yz:=by
 have h0:=hO;have hp7:=hP.sh.len;obtain⟨N,n1,n2,n3⟩:=iq hP hn
 have hN0:0<N:=by
  refine Nat.pos_of_ne_zero λe=>?_;subst e;exact Od hP n2
 have hh0:(qd p 0).params=[]:=Kb hP;refine Yc.Yb func94 [] ntmps94 (λ_=>qJ) λC w g root hroot=>?_;refine OL 0 rfl (λk s=>∃ i:Nat,k=N - i/\i<N/\s.tm 0=.pt Yn 0/\s.hp (.u 9 0 0)=none/\YQ s.hp p (yf p i (qb p n))) ?_ ?_
 .obtain⟨J,hJ,hT⟩:=hO.top;refine uG ?_<| hT;intro K hK;have fx:=hT;refine q7 h0 (have h:=hO;YQ.re h) eK (hF:=λhO=>(oH gl _ p (zR n) 0 [] [] qA qA qB qB eK eK eK eK (.inl hh0) (by rw [hh0];rfl) eK eK hO).qCp) (h:=?_);rintro y H1 hO1;clear fx;replace hO1:YQ H1 p (yf p 0 (qb p n)):=hO1;refine uG ?_<| hT;exact⟨N,0,qA,hN0,zB,rQ,(have h:=hO1;YQ.re h)⟩
 rintro k s - - ⟨i,rfl,hi,t0,h9,hO⟩;have hne:=n1 i hi;obtain⟨fs,f,hfr,hM⟩:=(CQ hP hn i).resolve_left hne
 have hen:(yf p i (qb p n)).en=0:=by
  by_cases h:(yf p i (qb p n)).en=0
  .exact h
  .exact absurd (.inr h) hne
 have hsn:=og i hne;have hc0:∀ i,(zR n).cells.length<=i:=λi=>eK;generalize hmm:yf p i (qb p n)=m at *;have hmt:m=m.top fs f:=by cases m;simp only [Y2.top] at hfr ⊢;rw [hfr]
 have hol:=cW (p:=p) (b:=f.YS) hP.sh;have hpc:=hM.top.pc;have hdp:=hM.deep;have hmd:=hM.made;have hp:=hM.top.YS;have hfl:fs.length<=150:=qA;obtain⟨kk,hk⟩:=gX hp;have hcd:(qg p p.length)[f.YS]?=some (qd p f.YS):=rj;obtain⟨hcdl,hcdE⟩:=gS hcd;have hco:(qd p f.YS).ops=yg p f.YS:=kR
 have hnx:(yf p (i+1) (qb p n)).en=0->(yf p (i+1) (qb p n)).YO≠[]->i+1<N:=λh1 h2=>by
  rcases dS (i+1) N with h|h
  .exact h
  .have e:i+1=N:=qA;rw [e] at h1 h2;rcases n2 with h|h
   .exact absurd h h2
   .exact absurd h1 h
 obtain⟨R,j,hT,tr,-⟩:=hO.ZH hfr qA;refine uG ?_<| t0;intro K hK;have fx:=t0;refine q7 h0 (have h:=hO;YQ.re h) (hc0 _) (hF:=λ_=>xM gl DM (λ_=>qJ) rfl _ R fs.length zB tr.h qA) (h:=?_);intro y H1 hw;clear fx;have hO1:=YQ.smp hO hw;obtain⟨rfl,-⟩:=hw;refine qD ?_<|aI t0<|hT;refine uk (λs=>s.tm 0=.pt Yn 0/\s.tm 2=.pt Yn (yo fs.length)/\s.hp (.u 9 0 0)=none/\YQ s.hp p m) ⟨wF,zB,rQ,(have h:=hO1;YQ.re h)⟩ ?_;clear t0 h9 hO hT tr hO1;rintro s ⟨t0,t2,h9,hO⟩;obtain⟨R,j,hT,tr,h2,h3,h28⟩:=hO.ZH hfr qA;have hRl:=tr.len;have r0:=tr.r0;have f0:=tr.f0;have f1:=tr.f1;have rh:=tr.h;obtain⟨_,r0E⟩:=gS r0;obtain⟨_,rhE⟩:=gS rh;obtain⟨f0l,f0E⟩:=gS f0;obtain⟨f1l,f1E⟩:=gS f1
 cases ho:(yg p f.YS)[f.pc]? with
 | none =>
  have hpe:f.pc=(yg p f.YS).length:=by have:=List.getElem?_eq_none_iff.1 ho;omega
  have hres:wZ p m=D5 p m fs f:=Hm.step_end hfr ho;by_cases hfs:fs=[]
  .subst hfs;have hb0:f.YS=0:=hM.b0 f qB
   have hk0:qV p f.YS=0:=by
    have:=(hP.sh.Ze hk).2 hb0;simp [qV,hk,this]
   have hend:D5 p m [] f={ m with YO:=[] }:=by
    simp only [D5,hk0]
    rfl
   simp only [Dy] at t2 f0 f0E f0l f1 f1E f1l rh rhE;have e1:(yf p (i+1) (qb p n)).ended:=.inl (by rw [hsn,hres,hend]);have hnil:(aY p n).YO=[]:=by rw [<- lp e1,hsn,hres,hend]
   have hlast:{ aY p n with YO:=[f] }=m:=by
    rw [<- lp e1,hsn,hres,hend]
    cases m
    simp only at hfr;simp [hfr]
   refine uG ?_<|qQ t0 t2 hT hRl r0 r0E f0 f0E f0l f1 f1E f1l<|kG rh rhE hcd hcdl hcdE hco<|hpe;refine JJ (jS [] .nil qF ⟨[f],.inr ⟨hnil,f,rfl,hb0⟩,?_⟩);rw [hlast];exact YQ.fin (have h:=hO;YQ.re h)
  .obtain⟨gs,g0,rfl⟩:∃ gs g0,fs=gs++[g0]:=⟨fs.dropLast,fs.getLast hfs,(QR hfs).symm⟩;simp only [wk,bS] at t2 f0 f0E f0l f1 f1E f1l rh rhE hfl;have hlow:=hM.low g0 qB;have hlo1:=hlow.sl;have hlo2:=hlow.pc;have hlo3:=cW (p:=p) (b:=g0.YS) hP.sh;have hnk:=hM.nk;have hyf:=λH hO=>sr gl H p m gs g0 f (0,0) hp qA qA qA hO;have hee:(if qV p f.YS=2 then zd { m with YP:=m.YP++[f.names] } (gs++[g0]) (3,m.YP.length) else zd m (gs++[g0]) (0,0))=yf p (i+1) (qb p n):=by rw [hsn,hres];rfl
   rw [hee] at hyf;have hgt:((gs.length:Int)+1+1 > 1):=qA;refine uG ?_<|qQ t0 t2 hT hRl r0 r0E f0 f0E f0l f1 f1E f1l<|ko rh rhE hcd hcdl hcdE hco hpe<|hgt;intro K hK;have fx:=aI t0 t2;refine q7 h0 (have h:=hO;YQ.re h) (hc0 _) (hF:=λhO=>hyf _ (by rw [<- hmt];exact hO)) (h:=?_);intro y H1 hO1;clear fx;have hlt:=hnx (by rw [hsn,hres,<- hen];simp only [D5];split <;> exact HU) (by rw [hsn,hres];simp only [D5];split <;> exact HT hfs);refine uG ?_<|jD t0 t2<|hT;refine Q2 ?_
   repeat' (first|refine Bv ?_|refine HW ?_)
   exact⟨N - (i+1),qA,i+1,rfl,hlt,wF,rQ,(have h:=hO1;YQ.re h)⟩
 | some o =>
  obtain⟨hol2,hoE⟩:=gS ho;have hres:wZ p m=uq p m fs f.next o:=Hm.Zz hfr ho;have hpl:(f.pc:Int)<((yg p f.YS).length:Int):=qA;have hwp:IntKind.i64.wrap ((f.pc:Int)+1)=((f.pc+1:Nat):Int):=Yi qA qA;refine uG ?_<|qQ t0 t2 hT hRl r0 r0E f0 f0E f0l f1 f1E f1l<|er hcd hcdl hcdE hco hpl hwp ho hoE<|hol2;intro K hK;have hpc1:(f.pc:Int)+1=((f.pc+1:Nat):Int):=qA;refine uD (λs=>s.tm 0=.pt Yn 0/\s.tm 33=.pt Yn 0/\s.tm 34=.pt Yn (yo fs.length)/\s.tm 35=osl (yg p f.YS)/\s.tm 38=.pt Yn (yo fs.length+1)/\s.hp (.u 9 0 0)=none/\YQ s.hp p (m.top fs f.next)) ⟨vr,vr,uQ,qB,uQ,v8,?_⟩ ?_
  .refine YQ.wrR hO hfr (m':=m.top fs f.next) (g:=f.next) rfl hT (g3:=⟨[],by simp [YZ.next]⟩) (λJ hJ e=>?_);rw [ig,e,hpc1];exact Ga (fs:=fs++[f]) (i:=fs.length) (f:=f) (g:=f.next) (j:=1) hJ qB qA qB TR |>.trans qF
  clear t0 t2 h9 hO hT tr h2 h3 h28 hRl r0 f0 f1 rh r0E rhE f0l f0E f1l f1E;rintro s ⟨t0,t33,t34,t35,t38,h9,hO⟩;obtain⟨R,j,hT,tr,-⟩:=hO.ZH rfl qA;have f1:R[yo fs.length+1]?=some (iv ((f.pc:Int)+1)):=by rw [tr.f1];rfl
  have yoh:yo fs.length+29<=4415:=yX;obtain⟨f1l,f1E⟩:=gS f1;have hwq:IntKind.i64.wrap (f.pc:Int)=f.pc:=Yi qA qA;rw [hres] at hsn;have hOr:=HJ hP.sh hk o (gM ho)
  have hne20:o.1=20->fs≠[]:=λh e=>by
   subst e;have h1:=hM.b0 f qB;have h2:=hOr.ret h;have h3:=(hP.sh.Ze hk).2 h1;simp [qV,hk,h3] at h2
  refine uG ?_<|qQ t0 t33 t34 t35 t38 hT f1 f1E f1l ho hoE hol2<|aI hwq<|yoh;have fx:=aI t0 (aI t33 t34);refine q7 h0 (have h:=hO;YQ.re h) (hc0 _) (hF:=λhO=>Ny gl _ p m fs f o hP hM ho hen rQ hO) (h:=?_);rintro y H1 ⟨rfl,hO1⟩;clear fx;rw [<- hsn] at hO1;by_cases he:(uq p m fs f.next o).en=0
  .have hlt:=hnx (by rw [hsn];exact he) (by rw [hsn];exact Uo hOr.code hne20);refine uG ?_<|jD t0 hT<|he;refine Q2 ?_
   repeat' (first|refine Bv ?_|refine HW ?_)
   exact⟨N - (i+1),qA,i+1,rfl,hlt,wF,rQ,(have h:=hO1;YQ.re h)⟩
  .have e1:(yf p (i+1) (qb p n)).ended:=.inr (by rw [hsn];exact he);rw [lp e1] at hO1;refine uG ?_<|jD t0 hT<|he;refine Sb (qE [] .nil qF ⟨(aY p n).YO,.inl ⟨rfl,by rw [<- lp e1,hsn];exact he⟩,?_⟩);exact YQ.fin (have h:=hO1;YQ.re h)
theorem sf (gl) (p:YU) (b:Nat) (k:Y4) (hk:p[b]?=some k) (hP:Y1 p):qX prog gl 93 [Zc p,fp p,iv b] (λr y H'=>y=.hs r 1 0 (z8 p b).length/\H' r=some (.row 1 (qS (z8 p b)))):=by
 have Ym:=(gS hk).1;obtain⟨_,hkE⟩:=gS hk;have hlen:=hP.len;have hf8:=j7 (p:=p) (b:=b);have hcl:=cB (p:=p) (b:=b);have hcl2:(z8 p b).length=(qN p b).length:=by simp [z8]
 have hfr:=fL gl p hP b Ym;refine qX.Yb func93 [.tmp 6] ntmps93 λC w g root=>?_;have fx:=Ya;have d1:=hfr;refine qI ?_;clear fx d1;refine qR (λn st=>∃ i:Nat,n=(qN p b).length - i/\i<=(qN p b).length/\st.tm 1=fp p/\st.tm 2=iv b/\st.tm 3=.pt (.s 3) 0/\st.hp (.s 3)=some (.row 1 [[ZY p]])/\st.tm 7=.hs (.s 7) 1 0 i/\st.hp (.s 7)=some (.row 1 (qS ((z8 p b).take i)))/\st.tm 12=.hs (.s 12) 1 0 (qN p b).length/\st.hp (.s 12)=some (.row 1 (qS (qN p b)))/\st.tm 13=iv (qN p b).length/\st.tm 14=iv i) (qN p b).length ?_ ?_
 .exact⟨0,qA,qA,qB,qB,qB,qB,qB,qB,qB,qB,qB,qB⟩
 rintro n st - - ⟨i,rfl,hi,t1,t2,t3,p3,t7,p7,t12,p12,t13,t14⟩;by_cases hil:i<(qN p b).length
 .obtain⟨x,hx⟩:=gX hil;obtain⟨_,hxE⟩:=gS hx;have hb0:=fN (gM hx);obtain⟨h1,h2,h3⟩:=hP.Y9 b k hk;have h4:=h3 hb0;obtain⟨c,hc⟩:∃ c:Nat,k.parent=c:=⟨k.parent.toNat,qA⟩;obtain⟨kc,hkc⟩:∃ kc,p[c]?=some kc:=⟨_,gE qA⟩;have hpa:w8 p b=c:=by simp [w8,hk,hc]
  have hx8:∃ a:Nat,x=a/\a<8:=by
   have hm:=gM hx;obtain⟨-,hm0,hm7⟩:=Hm.mem_sorted.1 (show x∈Hm.sorted (jL p b (p.length - b)) from hm);exact⟨x.toNat,qA,qA⟩
  obtain⟨a,rfl,ha8⟩:=hx8;have hcp:=kf gl p hP c kc hkc a ha8;have htl:((z8 p b).take i).length=i:=by simp [z8];omega
  have hi8:i<=8:=qA;have fx:=qQ t1 t2 t3 p3 t7 p7 t12 p12 t13 t14 hil hk<|kG hkE Ym hc hx hxE htl<|hi8;have c1:=hcp;refine qI ?_;clear fx c1
  have e1:(z8 p b).take (i+1)=(z8 p b).take i++[vM p c a]:=by
   rw [dN];simp [z8,hx,hpa]
  have e2:qS ((z8 p b).take i)++[[iv (vM p c a)]]=qS ((z8 p b).take (i+1)):=by rw [e1];simp [qS]
  refine⟨(qN p b).length - (i+1),qA,i+1,rfl,qA,ap,uQ,eO,by simp [p3],qB,?_,by simp [t12],by simp [p12],by simp [t13],by simp [t14];exact Yi qA qA⟩;simp [<- e2];rw [bC qv]
 .obtain rfl:i=(qN p b).length:=qA;have htk:(z8 p b).take (qN p b).length=z8 p b:=bC qA;rw [htk] at p7;refine qD ?_<|gJ t1 t2 t3 p3 t7 p7 t12 p12 t13<|t14;exact zq (t:=6) NN NN qB
theorem Ag (gl) (p:YU) (b:Nat) (k:Y4) (hk:p[b]?=some k) (hP:Y1 p):qX prog gl 93 [Zc p,fp p,iv b] (λ_ y _=>y=ZD (z8 p b)) :=
 (sf gl p b k hk hP).settle λr y H' hr=>⟨ZD (z8 p b),by rw [hr.1];exact ya hr.2 rfl,rfl⟩
abbrev LI:Y8:=kr<|.l 8 [4,3,2,1,0]<|.l 9 [4,3,2,1,0]<|.l 10 [0]<|.q 11<|.q 12<|.l 13 []<|.done
theorem Lr:∃ l,yP prog 77=some l/\l.length=4415/\(l.map AV.sc).take 32=[.sc (.slice none 0 0),.sc (.slice none 0 0),iv 0,iv 0,.sc (.slice none 0 0),.sc (.slice none 0 0)]++(kI qc++[.sc (.slice none 0 0),.sc (.slice none 0 0)])/\(l.map AV.sc).drop 4411=[iv 0,iv 0,iv 0,iv 0]/\l.all Value.oneCell'=true:=by
 have h:(yP prog 77).isSome=true:=qM;have h1:(yP prog 77).map List.length=some 4415:=qM;have h2:(yP prog 77).map (λl=>(l.map AV.sc).take 32)=some ([.sc (.slice none 0 0),.sc (.slice none 0 0),iv 0,iv 0,.sc (.slice none 0 0),.sc (.slice none 0 0)]++(kI qc++[.sc (.slice none 0 0),.sc (.slice none 0 0)])):=qM;have h3:(yP prog 77).map (λl=>(l.map AV.sc).drop 4411)=some [iv 0,iv 0,iv 0,iv 0]:=qM;have h4:(yP prog 77).map (λl=>l.all Value.oneCell')=some true:=qM;obtain⟨l,hl⟩:=Nc.1 h;rw [hl] at h1 h2 h3 h4;exact⟨l,hl,sI h1,sI h2,sI h3,sI h4⟩
theorem SU:∀ k,(k=1\/k=4)->(ZR prog 77).getD k 0=1:=by
 rintro k (rfl|rfl) <;> kernel_rfl
theorem SS:∀ k,(k=5\/k=30)->(ZR prog 77).getD k 0=2:=by
 rintro k (rfl|rfl) <;> kernel_rfl
theorem PX:(ZR prog 77).getD 31 0=24:=qM
theorem SR:vd prog 77=true:=qM
theorem Kx (gl) (p:YU) (hP:Y1 p):qX prog gl 72 [Zc p] (λ_ y _=>y=fp p) :=
 (gU gl p hP.sml hP.Y9 hP.names).settle λr y H' hr=>⟨fp p,by rw [hr.1];exact ee hr.2 hP.Y9 rfl,rfl⟩
theorem Ad (gl:Nat->Option (List AV)) (hgl:gl 0=some lT) (p:YU) (hP:Y1 p):qX prog gl 92 [Zc p,fp p] (λ_ y _=>y=csl (qg p p.length)) :=
 (lK gl hgl p hP).settle λr y H' hr=>⟨csl (qg p p.length),by rw [hr.1];exact kB hr.2 rfl,rfl⟩
theorem Cy (gl:Nat->Option (List AV)) (hgl:gl 0=some lT) (H:Nm->Option AO) (p:YU) (n:Nat) (hP:Yl p) (hn:n<=150) (hN:∀ k i j,H (.u k i j)=none) :
  Yc prog gl 43 DM [Zc p,iv n] H (λ_ y H'=>y=.pt Yn 0/\∃ fr,((fr=(aY p n).YO/\(aY p n).en≠0)\/((aY p n).YO=[]/\∃ f,fr=[f]/\f.YS=0))/\YQ H' p { aY p n with YO:=fr }) Yz:=by
 have hp7:=hP.sh.len;have hsc:=Kx gl p hP.sh;have hca:=Ad gl hgl p hP.sh;obtain⟨l,z1,z2,z3,z4,z5⟩:=Lr;have Ym:=N2 (a:=csl (qg p p.length)) (b:=iv n) (c:=iv 0) SR z1 z2 KZ KY KX Tj Vf Vf rfl rfl rfl;have hzl:(l.map AV.sc).length=4415:=by simpa using z2
 refine Yc.Yb func43 [.tmp 4] ntmps43 (λ_=>qJ) λC w g root hroot=>?_;have fx:=Ya;have p1:=hsc;have p2:=hca;refine mz ?_
 repeat ((first|refine Y7 (id:=6) LI mixed ?_);refine AY ?_;refine mz ?_)
 clear fx p1 p2;intro K hK;obtain⟨Cs,hCs⟩:∃ Cs,Cs=Yo (Yo (Yo (l.map AV.sc) 0 [csl (qg p p.length)]) 2 [iv n]) 3 [iv 0]:=⟨_,rfl⟩;rw [<- hCs] at Ym
 have hCl:Cs.length=4415:=by
  rw [hCs];simp [Yo,hzl]
 have hCm:∀ y∈Cs,(∃ v,y=.sc v/\v.oneCell'=true)\/y=csl (qg p p.length):=by
  intro y hy;rw [hCs] at hy
  have hz:∀ y∈l.map AV.sc,∃ v,y=.sc v/\v.oneCell'=true:=λy hy=>by
   obtain⟨v,hv,rfl⟩:=eg.1 hy;exact⟨v,rfl,uB.1 z5 v hv⟩
  have key:∀ (L:List AV) (k:Nat) (a y:AV),y∈Yo L k [a]->y=a\/y∈L:=λL k a y h=>by
   simp only [Yo,nS,cK,kg] at h;rcases h with h|h|h
   .exact .inr (G0 h)
   .exact .inl h
   .exact .inr (List.mem_of_mem_drop h)
  rcases key _ _ _ _ hy with rfl|hy
  .exact .inl ⟨_,rfl,rfl⟩
  .rcases key _ _ _ _ hy with rfl|hy
   .exact .inl ⟨_,rfl,rfl⟩
   .rcases key _ _ _ _ hy with rfl|hy
    .exact .inr rfl
    .exact .inl (hz y hy)
 have hCo:Cs.all AV.one=true:=uB.2 λy hy=>by
  rcases hCm y hy with⟨v,rfl,hv⟩|rfl
  .exact hv
  .rfl
 have hCk:∀ y∈Cs,(∃ v,y=.sc v)\/∃ z rows,y=.sl z rows/\y.tr (kl (.s 15))=y:=λy hy=>by
  rcases hCm y hy with⟨v,rfl,hv⟩|rfl
  .exact .inl ⟨v,rfl⟩
  .exact .inr ⟨_,_,rfl,qB⟩
 have hns:∀ st:St,(St.Yp (zY (Nm.c (.s 15) 0) (ZR prog 77) 0 Cs) st).hp (.s 2)=st.hp (.s 2):=λst=>by rw [gT,pC λa e=>uN]
 refine x_q (z:=.agg Cs) qB Ym ?_;refine jg ?_;refine yu (.s 15) Yn (.inl rfl) (.inr (by simp [bz,hN])) ?_;refine Td (cs:=Cs) qB (by simp [AV.cells,hCo]) 4415 hCl Ti hCk ?_;refine Ol (λs=>s.tm 2=.pt (.s 2) 0/\s.hp (.s 2)=some (.row 1 [[ZY p]])/\s.tm 5=fp p/\s.tm 15=.pt Yn 0/\qAo s.hp p n 0) ⟨by simp [lj],by simp [hns],by simp [lj],qB,?_⟩ ?_
 .rw [hCs];exact LO hzl z3 z4 SU SS PX λk i j hk=>by simp [hN]
 rintro s ⟨t2,p2,t5,t15,hX⟩;have fx:=j4 t2 p2 t5<|t15;refine qI ?_
 repeat ((first|refine Y7 (id:=6) LI mixed ?_);refine qW ?_;refine qI ?_)
 clear fx;refine qR (λk s=>∃ b:Nat,k=p.length - b/\b<=p.length/\s.tm 2=.pt (.s 2) 0/\s.hp (.s 2)=some (.row 1 [[ZY p]])/\s.tm 5=fp p/\s.tm 6=.pt Yn 0/\s.tm 18=iv p.length/\s.tm 19=iv b/\qAo s.hp p n b) p.length ?_ ?_
 .exact⟨0,qA,qA,uQ,mM,wG,by simp [t15],qB,qB,hX⟩
 clear t2 p2 t5 t15 hX;rintro k s - - ⟨b,rfl,hb,t2,p2,t5,t6,t18,t19,hX⟩;obtain⟨R,hT,hRl,r1⟩:=hX.row;obtain⟨_,r1E⟩:=gS r1;have hcp:=hX.ZP;by_cases hil:b<p.length
 .obtain⟨kk,hk⟩:=gX hil;have hcf:=Ag gl p b kk hk hP.sh;have hb7:b<=7:=qA;have fx:=qQ t2 p2 t5 t6 t18 t19 hil hT hRl r1 r1E hcp<|hb7;have p1:=hcf;refine mz ?_
  repeat ((first|refine Y7 (id:=6) LI mixed ?_);refine AY ?_;refine mz ?_)
  clear fx p1;have htk:(vD p b).take b=vD p b:=bC qB;have hap:vD p b++[[ZD (z8 p b)]]=vD p (b+1):=J1;exact⟨p.length - (b+1),qA,b+1,rfl,qA,uQ,mM,wG,aT,by simp [t18],by simp [t19];exact Yi qA qA,(have h:=hX;qAo.step h hT qF (by simp only [bR];exact⟨_,λj hj=>by simp [hj],rfl⟩) (by simp [<- hap,htk]))⟩
 .obtain rfl:b=p.length:=qA;have hO:=hX.own;have fx:=kH t2 p2 t5 t6 t18<|t19;refine qI ?_
  repeat ((first|refine Y7 (id:=6) LI mixed ?_);refine qW ?_;refine qI ?_)
  clear fx;intro K hK;have fx:=t6;refine sx (λk i j he=>by simp [bz,hN] at he) (hF:=Qt gl _ p n hP hn (by simp [fM9]) hO.sub) (h:=?_);rintro y H1 ⟨fr,hfr,hO1⟩;clear fx;have fx:=aI t6<|hT;refine qI ?_
  repeat ((first|refine Y7 (id:=6) LI mixed ?_);refine qW ?_;refine qI ?_)
  clear fx;refine qE [] .nil qF ⟨qB,fr,hfr,YQ.fin (have h:=hO1;YQ.re h)⟩
abbrev Ws:Y8:=ai<|.l 7 [4,3,2,1,0]<|.l 8 [0]<|.l 9 [0]<|.l 10 []<|.l 11 []<|.done
attribute [local simp] oN
theorem dy {A G G2:Prop} (k:G2) (x:A) (h:A->Yr G2->G:=by
 intro fx kk;refine qI ?_
 repeat ((first|refine Y7 (id:=6) Ws mixed ?_);refine qW ?_;refine qI ?_)
 exact kk.h):G:=h x ⟨k⟩
theorem Js (gl) (H:Nm->Option AO) (p:YU) (m:Y2) (hP:Y1 p) (hg8:m.globals.length=8) (hfl:m.YO.length<=151) (hv:∀ f∈m.YO,f.YS<p.length/\(f.YS=0\/FrV p m f)) (hno:H (.u 2 0 0)=none) (hO0:YQ H p m) :
  Yc prog gl 58 DM [.pt Yn 0] H (λr y H'=>y=.hs r 3 0 (m.YO.map (dP p m)).length/\ZE H' r (m.YO.map (dP p m))) Yz:=by
 obtain⟨R,hT,hRl,r0,rtb,rh⟩:=hO0.qDP;obtain⟨rhl,rhE⟩:=gS rh;refine Yc.Yb func58 [.tmp 2] ntmps58 (λ_=>qJ) λC w g root hroot=>?_;have hr0:DM root=false:=hroot root (Nm.Y0 _);refine dy ?_<|yl hT hRl rh rhE<|rhl;refine qR (λn st=>∃ (i:Nat) (vs:List Vw),n=m.YO.length - i/\i<=m.YO.length/\vs=(m.YO.take i).map (dP p m)/\vs.length=i/\st.tm 0=.pt Yn 0/\YQ st.hp p m/\st.tm 3=.hs (.s 3) 3 0 vs.length/\ZE st.hp (.s 3) vs/\st.tm 9=iv m.YO.length/\st.tm 10=iv i) m.YO.length ?_ ?_
 .exact⟨0,[],qA,qA,qB,rfl,qB,(by repeat (first|(with_reducible exact hO0)|refine Be ?_|refine oD dD ?_|refine oF ?_|refine oC ?_|refine oE ?_|refine Bf ?_|exact (have h:=hO0;YQ.re h))),qB,⟨qB,λi c h=>gA⟩,qB,qB⟩
 clear hT hRl r0 rtb rh rhl rhE;rintro n0 st - - ⟨i,vs,rfl,hi,hvs,hvl,h0,hO,h3,⟨ht,he⟩,h9,h10⟩;by_cases hil:i<m.YO.length
 .obtain⟨f,hf⟩:=gX hil;have hfv:=hv f (gM hf);have hi151:i<151:=qA;have hi2:(i:Int)<151:=qA;have hi3:(0:Int)<=i:=qA;have hil':(i:Int)<m.YO.length:=qA;obtain⟨R,hT,hRl,r0,rtb,rb,r2,r3,rnm⟩:=hO.qBh hf hi151;obtain⟨rbl,rbE⟩:=gS rb;have hyo:yo i+29<=4415:=yX;have hym:32+i * 29=yo i:=yX;have hvl2:vs.length<=1000:=qA;refine dy ?_<|qQ h0 h9 h10 hil' hi2 hi3 hi151 hym hT hRl hyo rb<|aI rbE<|rbl;intro K hK;have fx:=aI h0 hym;refine yu (.s 25) (.u 2 0 0) (.inl rfl) (.inr eS) ?_;refine q7 hO0 vt (qp _) (hF:=λhO=>Ek gl _ p m i f hP hi151 hf hg8 hfv.1 hfv.2 hO) (h:=?_);rintro y H1 ⟨rfl,hm,hO1⟩;clear fx;have hve:dP p m f=⟨f.YS,uc ((yp p f.YS).map λx=>(x,vW p m f x)),bZ ((yp p f.YS).map λx=>(x,vW p m f x))⟩:=rfl;obtain⟨R1,hT1,hRl1,-,-,rb1,-⟩:=hO1.qBh hf hi151;obtain⟨rb1l,rb1E⟩:=gS rb1;refine dy ?_<|jP h0 h3 hm hT hT1 hRl1 rb1 rb1E rb1l hyo<|hym;have fx:=aI h3 hm;refine xN (.u 2 0 0) rfl cF (hF:=Br gl f.YS (vW p m f) (lH p f.YS) (yp p f.YS) (tg hP.Y9) xf (λx hx=>pM hx) (DD hP.Y9) _ (by simp [nO,hm])) (h:=?_);rw [<- hve];generalize dP p m f=v at hve;rintro y H2 ⟨rfl,hVv⟩;have o1:=hVv.names;have o2:=hVv.vals;clear fx;refine dy ?_<|kH h3 ht h10 hvl2 o1<|o2
  refine⟨m.YO.length - (i+1),qA,i+1,vs++[v],rfl,qA,by rw [dN,hf,sQ,hvs];simp [hve,dP],by simp [hvl],by simp [h0,hT],(by repeat (first|(with_reducible exact hO1)|refine Be ?_|refine oD dD ?_|refine oF ?_|refine oC ?_|refine oE ?_|refine Bf ?_|refine Va rfl rfl ?_|refine TQ rfl ?_|refine TP rfl rfl ?_|refine Jt ?_|refine Qs QW ?_)),qB,⟨?_,λq d hq=>?_⟩,v8,by simp [h10];exact Yi qA qA⟩
  .simp [ht,la]
  .rcases dS q vs.length with hlq|hgq
   .rw [dX hlq] at hq;have hne:¬ q=vs.length:=qA;obtain⟨e1,e2⟩:=he q d hq;exact⟨rO,r9⟩
   .rw [kh hgq] at hq
    obtain rfl:q=vs.length:=by
     have:=(gS hq).1;simp at this;omega
    simp at hq;subst hq;exact⟨mY,mH⟩
 .obtain rfl:i=m.YO.length:=qA;rw [kM] at hvs;have hvs':m.YO.map (dP p m)=vs:=hvs.symm;rw [hvs'];refine dy ?_<|yl h3 ht h9 h10<|hil;refine qE [(.s 2,root)] (.one rfl) qF ⟨qB,⟨by simp [ht,hr0,jb (n:=.s 2) (m:=root) (f:=jY DM [(.s 2,root)]) qB],λq v hq=>⟨by simp [(he q v hq).names,hr0],by simp [(he q v hq).vals,hr0]⟩⟩⟩
theorem u7 (gl:Nat->Option (List AV)) (hgl:gl 0=some lT) (p:YU) (f:Int) (hs:Zm p):qX prog gl 22 [Zc p,iv f] (λr y H'=>y=.hs r 3 0 (vh p f).length/\ZE H' r (vh p f)):=by
 rw [<- Gi hs];refine qX.Yb func22 [.tmp 4] ntmps22 λC w g root=>?_
 cases hv0:vL p
 .have hv:wR p f=false:=by simp [wR,hv0]
  have hG:iZ p f=[]:=rt;rw [hG];have fx:= hv0;have c1:=hv0 ▸ zx gl p hs;refine qI ?_;clear fx c1;refine qE [(.s 4,root)] (.one rfl) qF ⟨qB,⟨qB,λi c h=>gA⟩⟩
 cases hv:wR p f
 .have hf:(decide (0<=f)&&decide (f<=150))=false:=Aq;have hG:iZ p f=[]:=rt;rw [hG];have fx:=aI hv0<|hf;have c1:=hv0 ▸ zx gl p hs;have c2:=hf ▸ lJ gl f;refine qI ?_;clear fx c1 c2;refine qE [(.s 4,root)] (.one rfl) qF ⟨qB,⟨qB,λi c h=>gA⟩⟩
 .obtain⟨hpo,n,rfl,hn⟩:=eF hv;have hP:=Yl.of hs hpo;have hp7:=hP.sh.len;have hf:(decide (0<=(n:Int))&&decide ((n:Int)<=150))=true:=Aq;obtain⟨hg8,hf151,hfrv,hfne⟩:=pX hP hn;have hG:iZ p n=kO p (aY p n):=rt;rw [hG];have fx:=aI hv0<|hf;have c1:=hv0 ▸ zx gl p hs;have c2:=hf ▸ lJ gl n;refine qI ?_;clear fx c1 c2;intro K hK;have fx:=Ya;refine sx (λk i j he=>BJ) (hF:=Cy gl hgl _ p n hP hn (by simp [noH])) (h:=?_);rintro y H1 ⟨rfl,fr,hfr,hO1⟩;clear fx;generalize aY p n=M at *;have hVM:fr.map (dP p M)=kO p M:=OQ hP (hfr.imp (λh=>⟨h.1,hfne h.2⟩) id)
  have hfv:∀ f∈fr,f.YS<p.length/\(f.YS=0\/FrV p { M with YO:=fr } f):=by
   intro f hff;rcases hfr with⟨rfl,-⟩|⟨e,g,rfl,hg⟩
   .have h:=hfrv f hff;exact⟨h.YS,.inr ⟨h.YS,h.YV,h.names,h.qBw,h.cells⟩⟩
   .obtain rfl:f=g:=by simpa using hff
    exact⟨qA,.inl hg⟩
  have hfl:fr.length<=151:=by
   rcases hfr with⟨rfl,-⟩|⟨e,g,rfl,hg⟩
   .exact hf151
   .simp
  refine qD ?_<|Ya;have fx:=Ya;refine sx (λk i j he=>BJ) (hF:=Js gl _ p { M with YO:=fr } hP.sh hg8 hfl hfv (by simp [bQ]) (YQ.sub (have h:=hO1;YQ.re h))) (h:=?_);rintro y H2 ⟨rfl,hV2⟩;clear fx;have hV3:fr.map (dP p { M with YO:=fr })=kO p M:=hVM;rw [show ({ M with YO:=fr }:Y2).YO=fr from rfl,hV3] at hV2;obtain⟨ht,he⟩:=hV2;refine qD ?_<| ht;refine qE [(.s 4,root)] (.one rfl) qF ⟨by simp [<- hVM],⟨FU,λq v hq=>⟨ax,aw⟩⟩⟩
end Go.Proofs.YtdnebaieamppbaaGreatDoor
end
section

end
