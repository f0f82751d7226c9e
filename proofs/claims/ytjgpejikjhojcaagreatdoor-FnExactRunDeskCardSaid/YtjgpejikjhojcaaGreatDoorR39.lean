import Derived.Test.YtjgpejikjhojcaaGreatDoorR38
import Derived.Test.YtjgpejikjhojcaaGreatDoorR20
import Derived.Test.YtjgpejikjhojcaaGreatDoorR33
set_option linter.unusedSimpArgs false
set_option linter.unusedVariables false
set_option maxRecDepth 100000
set_option maxHeartbeats 4000000

section
namespace Go.Proofs.YtjgpejikjhojcaaGreatDoor
open Go Go.Hm Go.Proofs Tryz
abbrev XS:qV:=kf<|.l 11 []<|.done
theorem JG:fM 9=false:=rfl
theorem iB {A G G2:Prop} (k:G2) (x:A) (h:A->jL G2->G:=by
 intro fx kk;refine qK ?_
 repeat ((first|refine qQ (id:=2) XS mixed ?_);refine zK ?_;refine qK ?_)
 exact kk.h):G:=h x ⟨k⟩
theorem qCR (gl) (H:Nm->Option AO) (p:qC) (n:Nat) (hP:zk p) (hn:n<=150) (h9:H (.u 9 0 0)=none) (hO:qD H p (jQ n)) :
  qZ prog gl 76 DM [.pt Yn 0] H (λ_ _ H'=>∃ fr,((fr=(yY p n).qN/\(yY p n).en≠0)\/((yY p n).qN=[]/\∃ f,fr=[f]/\f.qG=0))/\qD H' p { yY p n with qN:=fr }) zG:=by
 have h0:=hO;have hp7:=hP.sh.len;obtain⟨N,n1,n2,n3⟩:=AX hP hn
 have hN0:0<N:=by
  refine Nat.pos_of_ne_zero λe=>?_;subst e;exact Zp hP n2
 have hh0:(zO p 0).params=[]:=Zq hP;refine qZ.q9 func76 [] ntmps76 (λ_=>zC) λC w g root hroot=>?_;refine qBS 0 rfl (λk s=>∃ i:Nat,k=N - i/\i<N/\s.tm 0=.pt Yn 0/\s.hp (.u 9 0 0)=none/\qD s.hp p (zS p i (zU p n))) ?_ ?_
 .obtain⟨J,hJ,hT⟩:=hO.top;refine iB ?_<| hT;intro K hK;have fx:=hT;refine jC h0 (have h:=hO;qD.re h) fU (hF:=λhO=>(Gz gl _ p (jQ n) 0 [] [] qA qA qB qB fU fU fU fU (.inl hh0) (by rw [hh0];rfl) fU fU hO).UC) (h:=?_);rintro y H1 hO1;clear fx;replace hO1:qD H1 p (zS p 0 (zU p n)):=hO1;refine iB ?_<| hT;exact⟨N,0,qA,hN0,zE,xW,(have h:=hO1;qD.re h)⟩
 rintro k s - - ⟨i,rfl,hi,t0,h9,hO⟩;have hne:=n1 i hi;obtain⟨fs,f,hfr,hM⟩:=(pY hP hn i).resolve_left hne
 have hen:(zS p i (zU p n)).en=0:=by
  by_cases h:(zS p i (zU p n)).en=0
  .exact h
  .exact absurd (.inr h) hne
 have hsn:=GG i hne;have hc0:∀ i,(jQ n).cells.length<=i:=λi=>fU;generalize hmm:zS p i (zU p n)=m at *;have hmt:m=m.top fs f:=by cases m;simp only [qR.top] at hfr ⊢;rw [hfr]
 have hol:=pT (p:=p) (b:=f.qG) hP.sh;have hpc:=hM.top.pc;have hdp:=hM.deep;have hmd:=hM.made;have hp:=hM.top.qG;have hfl:fs.length<=150:=qA;obtain⟨kk,hk⟩:=gX hp;have hcd:(jb p p.length)[f.qG]?=some (zO p f.qG):=xH;obtain⟨hcdl,hcdE⟩:=gS hcd;have hco:(zO p f.qG).ops=zR p f.qG:=fT
 have hnx:(zS p (i+1) (zU p n)).en=0->(zS p (i+1) (zU p n)).qN≠[]->i+1<N:=λh1 h2=>by
  rcases du (i+1) N with h|h
  .exact h
  .have e:i+1=N:=qA;rw [e] at h1 h2;rcases n2 with h|h
   .exact absurd h h2
   .exact absurd h1 h
 obtain⟨R,j,hT,tr,-⟩:=hO.yM hfr qA;refine iB ?_<| t0;intro K hK;have fx:=t0;refine jC h0 (have h:=hO;qD.re h) (hc0 _) (hF:=λ_=>DG gl DM (λ_=>zC) rfl _ R fs.length zE tr.h qA) (h:=?_);intro y H1 hw;clear fx;have hO1:=qD.Cg hO hw;obtain⟨rfl,-⟩:=hw;refine qJ ?_<|aI t0<|hT;refine uZ (λs=>s.tm 0=.pt Yn 0/\s.tm 2=.pt Yn (yo fs.length)/\s.hp (.u 9 0 0)=none/\qD s.hp p m) ⟨kr,zE,xW,(have h:=hO1;qD.re h)⟩ ?_;clear t0 h9 hO hT tr hO1;rintro s ⟨t0,t2,h9,hO⟩;obtain⟨R,j,hT,tr,h2,h3,h28⟩:=hO.yM hfr qA;have hRl:=tr.len;have r0:=tr.r0;have f0:=tr.f0;have f1:=tr.f1;have rh:=tr.h;obtain⟨_,r0E⟩:=gS r0;obtain⟨_,rhE⟩:=gS rh;obtain⟨f0l,f0E⟩:=gS f0;obtain⟨f1l,f1E⟩:=gS f1
 cases ho:(zR p f.qG)[f.pc]? with
 | none =>
  have hpe:f.pc=(zR p f.qG).length:=by have:=List.getElem?_eq_none_iff.1 ho;omega
  have hres:kh p m=aC p m fs f:=Hm.step_end hfr ho;by_cases hfs:fs=[]
  .subst hfs;have hb0:f.qG=0:=hM.b0 f qB
   have hk0:j9 p f.qG=0:=by
    have:=(hP.sh.dW hk).2 hb0;simp [j9,hk,this]
   have hend:aC p m [] f={ m with qN:=[] }:=by
    simp only [aC,hk0]
    rfl
   simp only [il] at t2 f0 f0E f0l f1 f1E f1l rh rhE;have e1:(zS p (i+1) (zU p n)).ended:=.inl (by rw [hsn,hres,hend]);have hnil:(yY p n).qN=[]:=by rw [<- AU e1,hsn,hres,hend]
   have hlast:{ yY p n with qN:=[f] }=m:=by
    rw [<- AU e1,hsn,hres,hend]
    cases m
    simp only at hfr;simp [hfr]
   refine iB ?_<|qh t0 t2 hT hRl r0 r0E f0 f0E f0l f1 f1E f1l<|jI rh rhE hcd hcdl hcdE hco<|hpe;refine S3 (yb [] .nil qE ⟨[f],.inr ⟨hnil,f,rfl,hb0⟩,?_⟩);rw [hlast];exact qD.fin (have h:=hO;qD.re h)
  .obtain⟨gs,g0,rfl⟩:∃ gs g0,fs=gs++[g0]:=⟨fs.dropLast,fs.getLast hfs,(ip hfs).symm⟩;simp only [ua,wm] at t2 f0 f0E f0l f1 f1E f1l rh rhE hfl;have hlow:=hM.low g0 qB;have hlo1:=hlow.sl;have hlo2:=hlow.pc;have hlo3:=pT (p:=p) (b:=g0.qG) hP.sh;have hnk:=hM.nk;have hyf:=λH hO=>OA gl H p m gs g0 f (0,0) hp qA qA qA hO;have hee:(if j9 p f.qG=2 then yq { m with qT:=m.qT++[f.names] } (gs++[g0]) (3,m.qT.length) else yq m (gs++[g0]) (0,0))=zS p (i+1) (zU p n):=by rw [hsn,hres];rfl
   rw [hee] at hyf;have hgt:((gs.length:Int)+1+1 > 1):=qA;refine iB ?_<|qh t0 t2 hT hRl r0 r0E f0 f0E f0l f1 f1E f1l<|jN rh rhE hcd hcdl hcdE hco hpe<|hgt;intro K hK;have fx:=aI t0 t2;refine jC h0 (have h:=hO;qD.re h) (hc0 _) (hF:=λhO=>hyf _ (by rw [<- hmt];exact hO)) (h:=?_);intro y H1 hO1;clear fx;have hlt:=hnx (by rw [hsn,hres,<- hen];simp only [aC];split <;> exact KV) (by rw [hsn,hres];simp only [aC];split <;> exact KW hfs);refine iB ?_<|qk t0 t2<|hT;refine N5 ?_
   repeat' (first|refine NU ?_|refine Jy ?_)
   exact⟨N - (i+1),qA,i+1,rfl,hlt,kr,xW,(have h:=hO1;qD.re h)⟩
 | some o =>
  obtain⟨hol2,hoE⟩:=gS ho;have hres:kh p m=jp p m fs f.next o:=Hm.Ah hfr ho;have hpl:(f.pc:Int)<((zR p f.qG).length:Int):=qA;have hwp:IntKind.i64.wrap ((f.pc:Int)+1)=((f.pc+1:Nat):Int):=qm qA qA;refine iB ?_<|qh t0 t2 hT hRl r0 r0E f0 f0E f0l f1 f1E f1l<|vI hcd hcdl hcdE hco hpl hwp ho hoE<|hol2;intro K hK;have hpc1:(f.pc:Int)+1=((f.pc+1:Nat):Int):=qA;refine kJ (λs=>s.tm 0=.pt Yn 0/\s.tm 33=.pt Yn 0/\s.tm 34=.pt Yn (yo fs.length)/\s.tm 35=AL (zR p f.qG)/\s.tm 38=.pt Yn (yo fs.length+1)/\s.hp (.u 9 0 0)=none/\qD s.hp p (m.top fs f.next)) ⟨uv,uv,kS,qB,kS,cO,?_⟩ ?_
  .refine qD.Nf hO hfr (m':=m.top fs f.next) (g:=f.next) rfl hT (g3:=⟨[],by simp [qO.next]⟩) (λJ hJ e=>?_);rw [Af,e,hpc1];exact DE (fs:=fs++[f]) (i:=fs.length) (f:=f) (g:=f.next) (j:=1) hJ qB qA qB qCN |>.trans qE
  clear t0 t2 h9 hO hT tr h2 h3 h28 hRl r0 f0 f1 rh r0E rhE f0l f0E f1l f1E;rintro s ⟨t0,t33,t34,t35,t38,h9,hO⟩;obtain⟨R,j,hT,tr,-⟩:=hO.yM rfl qA;have f1:R[yo fs.length+1]?=some (iv ((f.pc:Int)+1)):=by rw [tr.f1];rfl
  have yoh:yo fs.length+29<=4415:=uu;obtain⟨f1l,f1E⟩:=gS f1;have hwq:IntKind.i64.wrap (f.pc:Int)=f.pc:=qm qA qA;rw [hres] at hsn;have hOr:=CV hP.sh hk o (gM ho)
  have hne20:o.1=20->fs≠[]:=λh e=>by
   subst e;have h1:=hM.b0 f qB;have h2:=hOr.ret h;have h3:=(hP.sh.dW hk).2 h1;simp [j9,hk,h3] at h2
  refine iB ?_<|qh t0 t33 t34 t35 t38 hT f1 f1E f1l ho hoE hol2<|aI hwq<|yoh;have fx:=aI t0 (aI t33 t34);refine jC h0 (have h:=hO;qD.re h) (hc0 _) (hF:=λhO=>qCS gl _ p m fs f o hP hM ho hen xW hO) (h:=?_);rintro y H1 ⟨rfl,hO1⟩;clear fx;rw [<- hsn] at hO1;by_cases he:(jp p m fs f.next o).en=0
  .have hlt:=hnx (by rw [hsn];exact he) (by rw [hsn];exact U9 hOr.code hne20);refine iB ?_<|qk t0 hT<|he;refine N5 ?_
   repeat' (first|refine NU ?_|refine Jy ?_)
   exact⟨N - (i+1),qA,i+1,rfl,hlt,kr,xW,(have h:=hO1;qD.re h)⟩
  .have e1:(zS p (i+1) (zU p n)).ended:=.inr (by rw [hsn];exact he);rw [AU e1] at hO1;refine iB ?_<|qk t0 hT<|he;refine S4 (qF [] .nil qE ⟨(yY p n).qN,.inl ⟨rfl,by rw [<- AU e1,hsn];exact he⟩,?_⟩);exact qD.fin (have h:=hO1;qD.re h)
theorem Pc (gl) (p:qC) (b:Nat) (k:qX) (hk:p[b]?=some k) (hP:zr p):qM prog gl 75 [jB p,vq p,iv b] (λr y H'=>y=.hs r 1 0 (zw p b).length/\H' r=some (.row 1 (qj (zw p b)))):=by
 have qy:=(gS hk).1;obtain⟨_,hkE⟩:=gS hk;have hlen:=hP.len;have hf8:=fg (p:=p) (b:=b);have hcl:=sH (p:=p) (b:=b);have hcl2:(zw p b).length=(zZ p b).length:=by simp [zw]
 have hfr:=Ej gl p hP b qy;refine qM.q9 func75 [.tmp 6] ntmps75 λC w g root=>?_;have fx:=qd;have d1:=hfr;refine qK ?_;clear fx d1;refine zQ (λn st=>∃ i:Nat,n=(zZ p b).length - i/\i<=(zZ p b).length/\st.tm 1=vq p/\st.tm 2=iv b/\st.tm 3=.pt (.s 3) 0/\st.hp (.s 3)=some (.row 1 [[jc p]])/\st.tm 7=.hs (.s 7) 1 0 i/\st.hp (.s 7)=some (.row 1 (qj ((zw p b).take i)))/\st.tm 12=.hs (.s 12) 1 0 (zZ p b).length/\st.hp (.s 12)=some (.row 1 (qj (zZ p b)))/\st.tm 13=iv (zZ p b).length/\st.tm 14=iv i) (zZ p b).length ?_ ?_
 .exact⟨0,qA,qA,qB,qB,qB,qB,qB,qB,qB,qB,qB,qB⟩
 rintro n st - - ⟨i,rfl,hi,t1,t2,t3,p3,t7,p7,t12,p12,t13,t14⟩;by_cases hil:i<(zZ p b).length
 .obtain⟨x,hx⟩:=gX hil;obtain⟨_,hxE⟩:=gS hx;have hb0:=xk (gM hx);obtain⟨h1,h2,h3⟩:=hP.jj b k hk;have h4:=h3 hb0;obtain⟨c,hc⟩:∃ c:Nat,k.parent=c:=⟨k.parent.toNat,qA⟩;obtain⟨kc,hkc⟩:∃ kc,p[c]?=some kc:=⟨_,gE qA⟩;have hpa:kZ p b=c:=by simp [kZ,hk,hc]
  have hx8:∃ a:Nat,x=a/\a<8:=by
   have hm:=gM hx;obtain⟨-,hm0,hm7⟩:=Hm.mem_sorted.1 (show x∈Hm.sorted (wL p b (p.length - b)) from hm);exact⟨x.toNat,qA,qA⟩
  obtain⟨a,rfl,ha8⟩:=hx8;have hcp:=Es gl p hP c kc hkc a ha8;have htl:((zw p b).take i).length=i:=by simp [zw];omega
  have hi8:i<=8:=qA;have fx:=qh t1 t2 t3 p3 t7 p7 t12 p12 t13 t14 hil hk<|jI hkE qy hc hx hxE htl<|hi8;have c1:=hcp;refine qK ?_;clear fx c1
  have e1:(zw p b).take (i+1)=(zw p b).take i++[bb p c a]:=by
   rw [uG];simp [zw,hx,hpa]
  have e2:qj ((zw p b).take i)++[[iv (bb p c a)]]=qj ((zw p b).take (i+1)):=by rw [e1];simp [qj]
  refine⟨(zZ p b).length - (i+1),qA,i+1,rfl,qA,lG,kS,cS,by simp [p3],qB,?_,by simp [t12],by simp [p12],by simp [t13],by simp [t14];exact qm qA qA⟩;simp [<- e2];rw [yG qu]
 .obtain rfl:i=(zZ p b).length:=qA;have htk:(zw p b).take (zZ p b).length=zw p b:=yG qA;rw [htk] at p7;refine qJ ?_<|y8 t1 t2 t3 p3 t7 p7 t12 p12 t13<|t14;exact y7 (t:=6) IP IP qB
theorem Pb (gl) (p:qC) (b:Nat) (k:qX) (hk:p[b]?=some k) (hP:zr p):qM prog gl 75 [jB p,vq p,iv b] (λ_ y _=>y=jG (zw p b)) :=
 (Pc gl p b k hk hP).settle λr y H' hr=>⟨jG (zw p b),by rw [hr.1];exact dR hr.2 rfl,rfl⟩
abbrev AT:qV:=bF<|.l 8 [4,3,2,1,0]<|.l 9 [4,3,2,1,0]<|.l 10 [0]<|.q 11<|.q 12<|.l 13 []<|.done
theorem Tc:∃ l,yC prog 145=some l/\l.length=4415/\(l.map AV.sc).take 32=[.sc (.slice none 0 0),.sc (.slice none 0 0),iv 0,iv 0,.sc (.slice none 0 0),.sc (.slice none 0 0)]++(jn jR++[.sc (.slice none 0 0),.sc (.slice none 0 0)])/\(l.map AV.sc).drop 4411=[iv 0,iv 0,iv 0,iv 0]/\l.all Value.oneCell'=true:=by
 have h:(yC prog 145).isSome=true:=qc;have h1:(yC prog 145).map List.length=some 4415:=qc;have h2:(yC prog 145).map (λl=>(l.map AV.sc).take 32)=some ([.sc (.slice none 0 0),.sc (.slice none 0 0),iv 0,iv 0,.sc (.slice none 0 0),.sc (.slice none 0 0)]++(jn jR++[.sc (.slice none 0 0),.sc (.slice none 0 0)])):=qc;have h3:(yC prog 145).map (λl=>(l.map AV.sc).drop 4411)=some [iv 0,iv 0,iv 0,iv 0]:=qc;have h4:(yC prog 145).map (λl=>l.all Value.oneCell')=some true:=qc;obtain⟨l,hl⟩:=Aw.1 h;rw [hl] at h1 h2 h3 h4;exact⟨l,hl,sI h1,sI h2,sI h3,sI h4⟩
theorem T8:∀ k,(k=1\/k=4)->(z8 prog 145).getD k 0=1:=by
 rintro k (rfl|rfl) <;> kernel_rfl
theorem T9:∀ k,(k=5\/k=30)->(z8 prog 145).getD k 0=2:=by
 rintro k (rfl|rfl) <;> kernel_rfl
theorem Ta:(z8 prog 145).getD 31 0=24:=qc
theorem Tb:yt prog 145=true:=qc
theorem Ys (gl) (p:qC) (hP:zr p):qM prog gl 60 [jB p] (λ_ y _=>y=vq p) :=
 (Cc gl p hP.br hP.jj hP.names).settle λr y H' hr=>⟨vq p,by rw [hr.1];exact BJ hr.2 hP.jj rfl,rfl⟩
theorem QK (gl:Nat->Option (List AV)) (hgl:gl 4=some fb) (p:qC) (hP:zr p):qM prog gl 74 [jB p,vq p] (λ_ y _=>y=uw (jb p p.length)) :=
 (SI gl hgl p hP).settle λr y H' hr=>⟨uw (jb p p.length),by rw [hr.1];exact fO hr.2 rfl,rfl⟩
theorem K9 (gl:Nat->Option (List AV)) (hgl:gl 4=some fb) (H:Nm->Option AO) (p:qC) (n:Nat) (hP:zk p) (hn:n<=150) (hN:∀ k i j,H (.u k i j)=none) :
  qZ prog gl 38 DM [jB p,iv n] H (λ_ y H'=>y=.pt Yn 0/\∃ fr,((fr=(yY p n).qN/\(yY p n).en≠0)\/((yY p n).qN=[]/\∃ f,fr=[f]/\f.qG=0))/\qD H' p { yY p n with qN:=fr }) zG:=by
 have hp7:=hP.sh.len;have hsc:=Ys gl p hP.sh;have hca:=QK gl hgl p hP.sh;obtain⟨l,z1,z2,z3,z4,z5⟩:=Tc;have qy:=PL (a:=uw (jb p p.length)) (b:=iv n) (c:=iv 0) Tb z1 z2 NQ NR NS NZ Gi Gi rfl rfl rfl;have hzl:(l.map AV.sc).length=4415:=by simpa using z2
 refine qZ.q9 func38 [.tmp 4] ntmps38 (λ_=>zC) λC w g root hroot=>?_;have fx:=qd;have p1:=hsc;have p2:=hca;refine zf ?_
 repeat ((first|refine qQ (id:=6) AT mixed ?_);refine vU ?_;refine zf ?_)
 clear fx p1 p2;intro K hK;obtain⟨Cs,hCs⟩:∃ Cs,Cs=qp (qp (qp (l.map AV.sc) 0 [uw (jb p p.length)]) 2 [iv n]) 3 [iv 0]:=⟨_,rfl⟩;rw [<- hCs] at qy
 have hCl:Cs.length=4415:=by
  rw [hCs];simp [qp,hzl]
 have hCm:∀ y∈Cs,(∃ v,y=.sc v/\v.oneCell'=true)\/y=uw (jb p p.length):=by
  intro y hy;rw [hCs] at hy
  have hz:∀ y∈l.map AV.sc,∃ v,y=.sc v/\v.oneCell'=true:=λy hy=>by
   obtain⟨v,hv,rfl⟩:=bV.1 hy;exact⟨v,rfl,y5.1 z5 v hv⟩
  have key:∀ (L:List AV) (k:Nat) (a y:AV),y∈qp L k [a]->y=a\/y∈L:=λL k a y h=>by
   simp only [qp,iq,y9,vD] at h;rcases h with h|h|h
   .exact .inr (List.mem_of_mem_take h)
   .exact .inl h
   .exact .inr (List.mem_of_mem_drop h)
  rcases key _ _ _ _ hy with rfl|hy
  .exact .inl ⟨_,rfl,rfl⟩
  .rcases key _ _ _ _ hy with rfl|hy
   .exact .inl ⟨_,rfl,rfl⟩
   .rcases key _ _ _ _ hy with rfl|hy
    .exact .inr rfl
    .exact .inl (hz y hy)
 have hCo:Cs.all AV.one=true:=y5.2 λy hy=>by
  rcases hCm y hy with⟨v,rfl,hv⟩|rfl
  .exact hv
  .rfl
 have hCk:∀ y∈Cs,(∃ v,y=.sc v)\/∃ z rows,y=.sl z rows/\y.tr (kl (.s 15))=y:=λy hy=>by
  rcases hCm y hy with⟨v,rfl,hv⟩|rfl
  .exact .inl ⟨v,rfl⟩
  .exact .inr ⟨_,_,rfl,qB⟩
 have hns:∀ st:St,(St.kL (vG (Nm.c (.s 15) 0) (z8 prog 145) 0 Cs) st).hp (.s 2)=st.hp (.s 2):=λst=>by rw [GS,Kv λa e=>vS]
 refine we (z:=.agg Cs) qB qy ?_;refine wB ?_;refine bn (.s 15) Yn (.inl rfl) (.inr (by simp [yR,hN])) ?_;refine qB4 (cs:=Cs) qB (by simp [AV.cells,hCo]) 4415 hCl N0 hCk ?_;refine Yh (λs=>s.tm 2=.pt (.s 2) 0/\s.hp (.s 2)=some (.row 1 [[jc p]])/\s.tm 5=vq p/\s.tm 15=.pt Yn 0/\fA s.hp p n 0) ⟨by simp [GT],by simp [hns],by simp [GT],qB,?_⟩ ?_
 .rw [hCs];exact VR hzl z3 z4 T8 T9 Ta λk i j hk=>by simp [hN]
 rintro s ⟨t2,p2,t5,t15,hX⟩;have fx:=zD t2 p2 t5<|t15;refine qK ?_
 repeat ((first|refine qQ (id:=6) AT mixed ?_);refine zK ?_;refine qK ?_)
 clear fx;refine zQ (λk s=>∃ b:Nat,k=p.length - b/\b<=p.length/\s.tm 2=.pt (.s 2) 0/\s.hp (.s 2)=some (.row 1 [[jc p]])/\s.tm 5=vq p/\s.tm 6=.pt Yn 0/\s.tm 18=iv p.length/\s.tm 19=iv b/\fA s.hp p n b) p.length ?_ ?_
 .exact⟨0,qA,qA,kS,by simp [p2],fX,by simp [t15],qB,qB,hX⟩
 clear t2 p2 t5 t15 hX;rintro k s - - ⟨b,rfl,hb,t2,p2,t5,t6,t18,t19,hX⟩;obtain⟨R,hT,hRl,r1⟩:=hX.row;obtain⟨_,r1E⟩:=gS r1;have hcp:=hX.yn;by_cases hil:b<p.length
 .obtain⟨kk,hk⟩:=gX hil;have hcf:=Pb gl p b kk hk hP.sh;have hb7:b<=7:=qA;have fx:=qh t2 p2 t5 t6 t18 t19 hil hT hRl r1 r1E hcp<|hb7;have p1:=hcf;refine zf ?_
  repeat ((first|refine qQ (id:=6) AT mixed ?_);refine vU ?_;refine zf ?_)
  clear fx p1;have htk:(uc p b).take b=uc p b:=yG qB;have hap:uc p b++[[jG (zw p b)]]=uc p (b+1):=QM;exact⟨p.length - (b+1),qA,b+1,rfl,qA,kS,by simp [p2],fX,iy,by simp [t18],by simp [t19];exact qm qA qA,(have h:=hX;fA.step h hT qE (by simp only [mn];exact⟨_,λj hj=>by simp [hj],rfl⟩) (by simp [<- hap,htk]))⟩
 .obtain rfl:b=p.length:=qA;have hO:=hX.own;have fx:=jH t2 p2 t5 t6 t18<|t19;refine qK ?_
  repeat ((first|refine qQ (id:=6) AT mixed ?_);refine zK ?_;refine qK ?_)
  clear fx;intro K hK;have fx:=t6;refine pp (λk i j he=>by simp [yR,hN] at he) (hF:=qCR gl _ p n hP hn (by simp [JG]) hO.sub) (h:=?_);rintro y H1 ⟨fr,hfr,hO1⟩;clear fx;have fx:=aI t6<|hT;refine qK ?_
  repeat ((first|refine qQ (id:=6) AT mixed ?_);refine zK ?_;refine qK ?_)
  clear fx;refine qF [] .nil qE ⟨qB,fr,hfr,qD.fin (have h:=hO1;qD.re h)⟩
end Go.Proofs.YtjgpejikjhojcaaGreatDoor
end
section

end
section
namespace Go.Proofs.YtjgpejikjhojcaaGreatDoor
open Go Go.Hm Go.Proofs Tryz
abbrev XO:qV:=bF<|.l 8 [7,6,5,4]<|.l 9 []<|.done
theorem SC (gl:Nat->Option (List AV)) (hgl:gl 4=some fb) (p:qC) (f:Int) (hs:jt p):qM prog gl 52 [jB p,iv f] (λ_ y _=>y=iv (Bj p f)):=by
 refine qM.q9 func52 [.tmp 4] ntmps52 λC w g root=>?_
 cases hv0:jq p
 .have hv:kF p f=false:=by simp [kF,hv0]
  have fx:= hv0;have c1:=hv0 ▸ cW gl p hs;refine qK ?_;clear fx c1;refine qF [] .nil qE sA
 cases hv:kF p f
 .have hf:(decide (0<=f)&&decide (f<=150))=false:=ro;have fx:=aI hv0<|hf;have c1:=hv0 ▸ cW gl p hs;have c2:=hf ▸ sU gl f;refine qK ?_;clear fx c1 c2;refine qF [] .nil qE sA
 .obtain⟨hpo,n,rfl,hn⟩:=xl hv;have hP:=zk.of hs hpo;have hf:(decide (0<=(n:Int))&&decide ((n:Int)<=150))=true:=ro;obtain⟨hb1,hb2,hgl8⟩:=AW (n:=n) hP hn;have fx:=aI hv0<|hf;have c1:=hv0 ▸ cW gl p hs;have c2:=hf ▸ sU gl n;refine qK ?_;clear fx c1 c2;intro K hK;have fx:=qd;refine pp (λk i j he=>xL) (hF:=K9 gl hgl _ p n hP hn lD) (h:=?_);rintro y H1 ⟨rfl,fr,-,hO1⟩;clear fx
  obtain⟨R,hT,hRl,r5⟩:∃ R,H1 Yn=some (.row 4415 [R])/\R.length=4415/\R[4414]?=some (iv (yY p n).cells.length):=by
   obtain⟨J,hJ,e⟩:=hO1.top;exact⟨_,e,oA (aO hJ),Nr (aO hJ)⟩
  obtain⟨_,r5E⟩:=gS r5;refine qJ ?_<|zD hT hRl r5<|r5E;refine qF [] .nil qE sA
theorem CE {A G G2:Prop} (k:G2) (x:A) (h:A->jL G2->G:=by
 intro fx kk;refine qK ?_
 repeat ((first|refine qQ (id:=4) XO mixed ?_);refine zK ?_;refine qK ?_)
 exact kk.h):G:=h x ⟨k⟩
theorem SD (gl:Nat->Option (List AV)) (hgl:gl 4=some fb) (p:qC) (f:Int) (hs:jt p):qM prog gl 53 [jB p,iv f] (λ_ y _=>y=.zX [iv (sQ p f).1,iv (sQ p f).2]):=by
 refine qM.q9 func53 [.tmp 4,.tmp 5] ntmps53 λC w g root=>?_
 cases hv0:jq p
 .have hv:kF p f=false:=by simp [kF,hv0]
  have fx:= hv0;have c1:=hv0 ▸ cW gl p hs;refine CE ?_<|@fx;clear fx c1;refine qF [] .nil qE rj
 cases hv:kF p f
 .have hf:(decide (0<=f)&&decide (f<=150))=false:=ro;have fx:=aI hv0<|hf;have c1:=hv0 ▸ cW gl p hs;have c2:=hf ▸ sU gl f;refine CE ?_<|@fx;clear fx c1 c2;refine qF [] .nil qE rj
 .obtain⟨hpo,n,rfl,hn⟩:=xl hv;have hP:=zk.of hs hpo;have hf:(decide (0<=(n:Int))&&decide ((n:Int)<=150))=true:=ro;obtain⟨hb1,hb2,hgl8⟩:=AW (n:=n) hP hn;have fx:=aI hv0<|hf;have c1:=hv0 ▸ cW gl p hs;have c2:=hf ▸ sU gl n;refine CE ?_<|@fx;clear fx c1 c2;intro K hK;have fx:=qd;refine pp (λk i j he=>xL) (hF:=K9 gl hgl _ p n hP hn lD) (h:=?_);rintro y H1 ⟨rfl,fr,-,hO1⟩;clear fx
  obtain⟨R,hT,hRl,r5,r6⟩:∃ R,H1 Yn=some (.row 4415 [R])/\R.length=4415/\R[4413]?=some (iv (yY p n).made)/\R[4412]?=some (iv (yY p n).deep):=by
   obtain⟨J,hJ,e⟩:=hO1.top;exact⟨_,e,oA (aO hJ),Nq (aO hJ),Np (aO hJ)⟩
  obtain⟨_,r5E⟩:=gS r5;obtain⟨_,r6E⟩:=gS r6;refine CE ?_<|jH hT hRl r5 r5E r6<|r6E;refine qF [] .nil qE rj
end Go.Proofs.YtjgpejikjhojcaaGreatDoor
end
