import Derived.Test.YtdnebaieamppbaaGreatDoorE39
import Derived.Test.YtdnebaieamppbaaGreatDoorE21
import Derived.Test.YtdnebaieamppbaaGreatDoorE34
set_option linter.unusedSimpArgs false
set_option linter.unusedVariables false
set_option maxRecDepth 100000
set_option maxHeartbeats 4000000

section
namespace Go.Proofs.YtdnebaieamppbaaGreatDoor
open Go Go.Hm Go.Proofs Tryz
abbrev Wu:Zh:=yz<|.l 11 []<|.done
theorem fM9:fM 9=false:=rfl
theorem uf {A G G2:Prop} (k:G2) (x:A) (h:A->Zx G2->G:=by
 intro fx kk;refine qG ?_
 repeat ((first|refine Ze (id:=2) Wu mixed ?_);refine qZ ?_;refine qG ?_)
 exact kk.h):G:=h x ⟨k⟩
theorem SK (gl) (H:Nm->Option AO) (p:Z0) (n:Nat) (hP:Zm p) (hn:n<=150) (h9:H (.u 9 0 0)=none) (hO:ZY H p (z6 n)) :
  Zj prog gl 94 DM [.pt Yn 0] H (λ_ _ H'=>∃ fr,((fr=(wB p n).ZW/\(wB p n).en≠0)\/((wB p n).ZW=[]/\∃ f,fr=[f]/\f.Z1=0))/\ZY H' p { wB p n with ZW:=fr }) noE:=by
 have h0:=hO;have hp7:=hP.sh.len;obtain⟨N,n1,n2,n3⟩:=co hP hn
 have hN0:0<N:=by
  refine Nat.pos_of_ne_zero λe=>?_;subst e;exact P8 hP n2
 have hh0:(zC p 0).params=[]:=Lf hP;refine Zj.Zl func94 [] ntmps94 (λ_=>qN) λC w g root hroot=>?_;refine PH 0 rfl (λk s=>∃ i:Nat,k=N - i/\i<N/\s.tm 0=.pt Yn 0/\s.hp (.u 9 0 0)=none/\ZY s.hp p (j7 p i (q8 p n))) ?_ ?_
 .obtain⟨J,hJ,hT⟩:=hO.top;refine uf ?_<| hT;intro K hK;have fx:=hT;refine qe h0 (have h:=hO;ZY.re h) gD (hF:=λhO=>(ph gl _ p (z6 n) 0 [] [] qA qA qB qB gD gD gD gD (.inl hh0) (by rw [hh0];rfl) gD gD hO).qEP) (h:=?_);rintro y H1 hO1;clear fx;replace hO1:ZY H1 p (j7 p 0 (q8 p n)):=hO1;refine uf ?_<| hT;exact⟨N,0,qA,hN0,qu,tq,(have h:=hO1;ZY.re h)⟩
 rintro k s - - ⟨i,rfl,hi,t0,h9,hO⟩;have hne:=n1 i hi;obtain⟨fs,f,hfr,hM⟩:=(DL hP hn i).resolve_left hne
 have hen:(j7 p i (q8 p n)).en=0:=by
  by_cases h:(j7 p i (q8 p n)).en=0
  .exact h
  .exact absurd (.inr h) hne
 have hsn:=rT i hne;have hc0:∀ i,(z6 n).cells.length<=i:=λi=>gD;generalize hmm:j7 p i (q8 p n)=m at *;have hmt:m=m.top fs f:=by cases m;simp only [Zb.top] at hfr ⊢;rw [hfr]
 have hol:=dl (p:=p) (b:=f.Z1) hP.sh;have hpc:=hM.top.pc;have hdp:=hM.deep;have hmd:=hM.made;have hp:=hM.top.Z1;have hfl:fs.length<=150:=qA;obtain⟨kk,hk⟩:=gX hp;have hcd:(qw p p.length)[f.Z1]?=some (zC p f.Z1):=tu;obtain⟨hcdl,hcdE⟩:=gS hcd;have hco:(zC p f.Z1).ops=vI p f.Z1:=em
 have hnx:(j7 p (i+1) (q8 p n)).en=0->(j7 p (i+1) (q8 p n)).ZW≠[]->i+1<N:=λh1 h2=>by
  rcases fF (i+1) N with h|h
  .exact h
  .have e:i+1=N:=qA;rw [e] at h1 h2;rcases n2 with h|h
   .exact absurd h h2
   .exact absurd h1 h
 obtain⟨R,j,hT,tr,-⟩:=hO.qAO hfr qA;refine uf ?_<| t0;intro K hK;have fx:=t0;refine qe h0 (have h:=hO;ZY.re h) (hc0 _) (hF:=λ_=>A3 gl DM (λ_=>qN) rfl _ R fs.length qu tr.h qA) (h:=?_);intro y H1 hw;clear fx;have hO1:=ZY.smp hO hw;obtain⟨rfl,-⟩:=hw;refine qC ?_<|aI t0<|hT;refine uu (λs=>s.tm 0=.pt Yn 0/\s.tm 2=.pt Yn (yo fs.length)/\s.hp (.u 9 0 0)=none/\ZY s.hp p m) ⟨un,qu,tq,(have h:=hO1;ZY.re h)⟩ ?_;clear t0 h9 hO hT tr hO1;rintro s ⟨t0,t2,h9,hO⟩;obtain⟨R,j,hT,tr,h2,h3,h28⟩:=hO.qAO hfr qA;have hRl:=tr.len;have r0:=tr.r0;have f0:=tr.f0;have f1:=tr.f1;have rh:=tr.h;obtain⟨_,r0E⟩:=gS r0;obtain⟨_,rhE⟩:=gS rh;obtain⟨f0l,f0E⟩:=gS f0;obtain⟨f1l,f1E⟩:=gS f1
 cases ho:(vI p f.Z1)[f.pc]? with
 | none =>
  have hpe:f.pc=(vI p f.Z1).length:=by have:=RM.1 ho;omega
  have hres:uS p m=Bb p m fs f:=Hm.step_end hfr ho;by_cases hfs:fs=[]
  .subst hfs;have hb0:f.Z1=0:=hM.b0 f qB
   have hk0:qg p f.Z1=0:=by
    have:=(hP.sh.qAx hk).2 hb0;simp [qg,hk,this]
   have hend:Bb p m [] f={ m with ZW:=[] }:=by
    simp only [Bb,hk0]
    rfl
   simp only [Ek] at t2 f0 f0E f0l f1 f1E f1l rh rhE;have e1:(j7 p (i+1) (q8 p n)).ended:=.inl (by rw [hsn,hres,hend]);have hnil:(wB p n).ZW=[]:=by rw [<- nR e1,hsn,hres,hend]
   have hlast:{ wB p n with ZW:=[f] }=m:=by
    rw [<- nR e1,hsn,hres,hend]
    cases m
    simp only at hfr;simp [hfr]
   refine uf ?_<|qU t0 t2 hT hRl r0 r0E f0 f0E f0l f1 f1E f1l<|u4 rh rhE hcd hcdl hcdE hco<|hpe;refine KI (zy [] .nil qE ⟨[f],.inr ⟨hnil,f,rfl,hb0⟩,?_⟩);rw [hlast];exact ZY.fin (have h:=hO;ZY.re h)
  .obtain⟨gs,g0,rfl⟩:∃ gs g0,fs=gs++[g0]:=⟨fs.dropLast,fs.getLast hfs,(RL hfs).symm⟩;simp only [am,dU] at t2 f0 f0E f0l f1 f1E f1l rh rhE hfl;have hlow:=hM.low g0 qB;have hlo1:=hlow.sl;have hlo2:=hlow.pc;have hlo3:=dl (p:=p) (b:=g0.Z1) hP.sh;have hnk:=hM.nk;have hyf:=λH hO=>xb gl H p m gs g0 f (0,0) hp qA qA qA hO;have hee:(if qg p f.Z1=2 then zW { m with ZV:=m.ZV++[f.names] } (gs++[g0]) (3,m.ZV.length) else zW m (gs++[g0]) (0,0))=j7 p (i+1) (q8 p n):=by rw [hsn,hres];rfl
   rw [hee] at hyf;have hgt:((gs.length:Int)+1+1 > 1):=qA;refine uf ?_<|qU t0 t2 hT hRl r0 r0E f0 f0E f0l f1 f1E f1l<|kO rh rhE hcd hcdl hcdE hco hpe<|hgt;intro K hK;have fx:=aI t0 t2;refine qe h0 (have h:=hO;ZY.re h) (hc0 _) (hF:=λhO=>hyf _ (by rw [<- hmt];exact hO)) (h:=?_);intro y H1 hO1;clear fx;have hlt:=hnx (by rw [hsn,hres,<- hen];simp only [Bb];split <;> exact IW) (by rw [hsn,hres];simp only [Bb];split <;> exact IV hfs);refine uf ?_<|jI t0 t2<|hT;refine Rb ?_
   repeat' (first|refine Cp ?_|refine I0 ?_)
   exact⟨N - (i+1),qA,i+1,rfl,hlt,un,tq,(have h:=hO1;ZY.re h)⟩
 | some o =>
  obtain⟨hol2,hoE⟩:=gS ho;have hres:uS p m=kM p m fs f.next o:=Hm.qBM hfr ho;have hpl:(f.pc:Int)<((vI p f.Z1).length:Int):=qA;have hwp:IntKind.i64.wrap ((f.pc:Int)+1)=((f.pc+1:Nat):Int):=Zv qA qA;refine uf ?_<|qU t0 t2 hT hRl r0 r0E f0 f0E f0l f1 f1E f1l<|bA hcd hcdl hcdE hco hpl hwp ho hoE<|hol2;intro K hK;have hpc1:(f.pc:Int)+1=((f.pc+1:Nat):Int):=qA;refine uJ (λs=>s.tm 0=.pt Yn 0/\s.tm 33=.pt Yn 0/\s.tm 34=.pt Yn (yo fs.length)/\s.tm 35=osl (vI p f.Z1)/\s.tm 38=.pt Yn (yo fs.length+1)/\s.hp (.u 9 0 0)=none/\ZY s.hp p (m.top fs f.next)) ⟨vv,vv,yt,qB,yt,b5,?_⟩ ?_
  .refine ZY.wrR hO hfr (m':=m.top fs f.next) (g:=f.next) rfl hT (g3:=⟨[],by simp [Z8.next]⟩) (λJ hJ e=>?_);rw [mD,e,hpc1];exact Hb (fs:=fs++[f]) (i:=fs.length) (f:=f) (g:=f.next) (j:=1) hJ qB qA qB UX |>.trans qE
  clear t0 t2 h9 hO hT tr h2 h3 h28 hRl r0 f0 f1 rh r0E rhE f0l f0E f1l f1E;rintro s ⟨t0,t33,t34,t35,t38,h9,hO⟩;obtain⟨R,j,hT,tr,-⟩:=hO.qAO rfl qA;have f1:R[yo fs.length+1]?=some (iv ((f.pc:Int)+1)):=by rw [tr.f1];rfl
  have yoh:yo fs.length+29<=4415:=vq;obtain⟨f1l,f1E⟩:=gS f1;have hwq:IntKind.i64.wrap (f.pc:Int)=f.pc:=Zv qA qA;rw [hres] at hsn;have hOr:=IK hP.sh hk o (gM ho)
  have hne20:o.1=20->fs≠[]:=λh e=>by
   subst e;have h1:=hM.b0 f qB;have h2:=hOr.ret h;have h3:=(hP.sh.qAx hk).2 h1;simp [qg,hk,h3] at h2
  refine uf ?_<|qU t0 t33 t34 t35 t38 hT f1 f1E f1l ho hoE hol2<|aI hwq<|yoh;have fx:=aI t0 (aI t33 t34);refine qe h0 (have h:=hO;ZY.re h) (hc0 _) (hF:=λhO=>Ou gl _ p m fs f o hP hM ho hen tq hO) (h:=?_);rintro y H1 ⟨rfl,hO1⟩;clear fx;rw [<- hsn] at hO1;by_cases he:(kM p m fs f.next o).en=0
  .have hlt:=hnx (by rw [hsn];exact he) (by rw [hsn];exact Vq hOr.code hne20);refine uf ?_<|jI t0 hT<|he;refine Rb ?_
   repeat' (first|refine Cp ?_|refine I0 ?_)
   exact⟨N - (i+1),qA,i+1,rfl,hlt,un,tq,(have h:=hO1;ZY.re h)⟩
  .have e1:(j7 p (i+1) (q8 p n)).ended:=.inr (by rw [hsn];exact he);rw [nR e1] at hO1;refine uf ?_<|jI t0 hT<|he;refine Tf (qD [] .nil qE ⟨(wB p n).ZW,.inl ⟨rfl,by rw [<- nR e1,hsn];exact he⟩,?_⟩);exact ZY.fin (have h:=hO1;ZY.re h)
theorem xU (gl) (p:Z0) (b:Nat) (k:Za) (hk:p[b]?=some k) (hP:Z7 p):qb prog gl 93 [pav p,gx p,iv b] (λr y H'=>y=.hs r 1 0 (zt p b).length/\H' r=some (.row 1 (qT (zt p b)))):=by
 have Zs:=(gS hk).1;obtain⟨_,hkE⟩:=gS hk;have hlen:=hP.len;have hf8:=yY (p:=p) (b:=b);have hcl:=dJ (p:=p) (b:=b);have hcl2:(zt p b).length=(qd p b).length:=by simp [zt]
 have hfr:=iJ gl p hP b Zs;refine qb.Zl func93 [.tmp 6] ntmps93 λC w g root=>?_;have fx:=Zk;have d1:=hfr;refine qG ?_;clear fx d1;refine qX (λn st=>∃ i:Nat,n=(qd p b).length - i/\i<=(qd p b).length/\st.tm 1=gx p/\st.tm 2=iv b/\st.tm 3=.pt (.s 3) 0/\st.hp (.s 3)=some (.row 1 [[ksl p]])/\st.tm 7=.hs (.s 7) 1 0 i/\st.hp (.s 7)=some (.row 1 (qT ((zt p b).take i)))/\st.tm 12=.hs (.s 12) 1 0 (qd p b).length/\st.hp (.s 12)=some (.row 1 (qT (qd p b)))/\st.tm 13=iv (qd p b).length/\st.tm 14=iv i) (qd p b).length ?_ ?_
 .exact⟨0,qA,qA,qB,qB,qB,qB,qB,qB,qB,qB,qB,qB⟩
 rintro n st - - ⟨i,rfl,hi,t1,t2,t3,p3,t7,p7,t12,p12,t13,t14⟩;by_cases hil:i<(qd p b).length
 .obtain⟨x,hx⟩:=gX hil;obtain⟨_,hxE⟩:=gS hx;have hb0:=mj (gM hx);obtain⟨h1,h2,h3⟩:=hP.Zc b k hk;have h4:=h3 hb0;obtain⟨c,hc⟩:∃ c:Nat,k.parent=c:=⟨k.parent.toNat,qA⟩;obtain⟨kc,hkc⟩:∃ kc,p[c]?=some kc:=⟨_,gE qA⟩;have hpa:ac p b=c:=by simp [ac,hk,hc]
  have hx8:∃ a:Nat,x=a/\a<8:=by
   have hm:=gM hx;obtain⟨-,hm0,hm7⟩:=Hm.mem_sorted.1 (show x∈Hm.sorted (jb p b (p.length - b)) from hm);exact⟨x.toNat,qA,qA⟩
  obtain⟨a,rfl,ha8⟩:=hx8;have hcp:=wZ gl p hP c kc hkc a ha8;have htl:((zt p b).take i).length=i:=by simp [zt];omega
  have hi8:i<=8:=qA;have fx:=qU t1 t2 t3 p3 t7 p7 t12 p12 t13 t14 hil hk<|u4 hkE Zs hc hx hxE htl<|hi8;have c1:=hcp;refine qG ?_;clear fx c1
  have e1:(zt p b).take (i+1)=(zt p b).take i++[aE p c a]:=by
   rw [uQ];simp [zt,hx,hpa]
  have e2:qT ((zt p b).take i)++[[iv (aE p c a)]]=qT ((zt p b).take (i+1)):=by rw [e1];simp [qT]
  refine⟨(qd p b).length - (i+1),qA,i+1,rfl,qA,gH,yt,aY,by simp [p3],qB,?_,by simp [t12],by simp [p12],by simp [t13],by simp [t14];exact Zv qA qA⟩;simp [<- e2];rw [b9 qc]
 .obtain rfl:i=(qd p b).length:=qA;have htk:(zt p b).take (qd p b).length=zt p b:=b9 qA;rw [htk] at p7;refine qC ?_<|aJ t1 t2 t3 p3 t7 p7 t12 p12 t13<|t14;exact jU (t:=6) OB OB qB
theorem Bi (gl) (p:Z0) (b:Nat) (k:Za) (hk:p[b]?=some k) (hP:Z7 p):qb prog gl 93 [pav p,gx p,iv b] (λ_ y _=>y=isl (zt p b)) :=
 (xU gl p b k hk hP).settle λr y H' hr=>⟨isl (zt p b),by rw [hr.1];exact vF hr.2 rfl,rfl⟩
abbrev MP:Zh:=aS<|.l 8 [4,3,2,1,0]<|.l 9 [4,3,2,1,0]<|.l 10 [0]<|.q 11<|.q 12<|.l 13 []<|.done
theorem Mp:∃ l,yb prog 77=some l/\l.length=4415/\(l.map AV.sc).take 32=[.sc (.slice none 0 0),.sc (.slice none 0 0),iv 0,iv 0,.sc (.slice none 0 0),.sc (.slice none 0 0)]++(aK q9++[.sc (.slice none 0 0),.sc (.slice none 0 0)])/\(l.map AV.sc).drop 4411=[iv 0,iv 0,iv 0,iv 0]/\l.all Value.oneCell'=true:=by
 have h:(yb prog 77).isSome=true:=qI;have h1:(yb prog 77).map List.length=some 4415:=qI;have h2:(yb prog 77).map (λl=>(l.map AV.sc).take 32)=some ([.sc (.slice none 0 0),.sc (.slice none 0 0),iv 0,iv 0,.sc (.slice none 0 0),.sc (.slice none 0 0)]++(aK q9++[.sc (.slice none 0 0),.sc (.slice none 0 0)])):=qI;have h3:(yb prog 77).map (λl=>(l.map AV.sc).drop 4411)=some [iv 0,iv 0,iv 0,iv 0]:=qI;have h4:(yb prog 77).map (λl=>l.all Value.oneCell')=some true:=qI;obtain⟨l,hl⟩:=O9.1 h;rw [hl] at h1 h2 h3 h4;exact⟨l,hl,sI h1,sI h2,sI h3,sI h4⟩
theorem T8:∀ k,(k=1\/k=4)->(tce prog 77).getD k 0=1:=by
 rintro k (rfl|rfl) <;> kernel_rfl
theorem T7:∀ k,(k=5\/k=30)->(tce prog 77).getD k 0=2:=by
 rintro k (rfl|rfl) <;> kernel_rfl
theorem QZ:(tce prog 77).getD 31 0=24:=qI
theorem T6:vh prog 77=true:=qI
theorem MB (gl) (p:Z0) (hP:Z7 p):qb prog gl 72 [pav p] (λ_ y _=>y=gx p) :=
 (dh gl p hP.sml hP.Zc hP.names).settle λr y H' hr=>⟨gx p,by rw [hr.1];exact dS hr.2 hP.Zc rfl,rfl⟩
theorem Bf (gl:Nat->Option (List AV)) (hgl:gl 0=some dH) (p:Z0) (hP:Z7 p):qb prog gl 92 [pav p,gx p] (λ_ y _=>y=csl (qw p p.length)) :=
 (mf gl hgl p hP).settle λr y H' hr=>⟨csl (qw p p.length),by rw [hr.1];exact kn hr.2 rfl,rfl⟩
theorem fi (gl:Nat->Option (List AV)) (hgl:gl 0=some dH) (H:Nm->Option AO) (p:Z0) (n:Nat) (hP:Zm p) (hn:n<=150) (hN:∀ k i j,H (.u k i j)=none) :
  Zj prog gl 43 DM [pav p,iv n] H (λ_ y H'=>y=.pt Yn 0/\∃ fr,((fr=(wB p n).ZW/\(wB p n).en≠0)\/((wB p n).ZW=[]/\∃ f,fr=[f]/\f.Z1=0))/\ZY H' p { wB p n with ZW:=fr }) noE:=by
 have hp7:=hP.sh.len;have hsc:=MB gl p hP.sh;have hca:=Bf gl hgl p hP.sh;obtain⟨l,z1,z2,z3,z4,z5⟩:=Mp;have Zs:=OY (a:=csl (qw p p.length)) (b:=iv n) (c:=iv 0) T6 z1 z2 LX LW LU Ui Wg Wg rfl rfl rfl;have hzl:(l.map AV.sc).length=4415:=by simpa using z2
 refine Zj.Zl func43 [.tmp 4] ntmps43 (λ_=>qN) λC w g root hroot=>?_;have fx:=Zk;have p1:=hsc;have p2:=hca;refine ol ?_
 repeat ((first|refine Ze (id:=6) MP mixed ?_);refine BU ?_;refine ol ?_)
 clear fx p1 p2;intro K hK;obtain⟨Cs,hCs⟩:∃ Cs,Cs=Zz (Zz (Zz (l.map AV.sc) 0 [csl (qw p p.length)]) 2 [iv n]) 3 [iv 0]:=⟨_,rfl⟩;rw [<- hCs] at Zs
 have hCl:Cs.length=4415:=by
  rw [hCs];simp [Zz,hzl]
 have hCm:∀ y∈Cs,(∃ v,y=.sc v/\v.oneCell'=true)\/y=csl (qw p p.length):=by
  intro y hy;rw [hCs] at hy
  have hz:∀ y∈l.map AV.sc,∃ v,y=.sc v/\v.oneCell'=true:=λy hy=>by
   obtain⟨v,hv,rfl⟩:=fG.1 hy;exact⟨v,rfl,dT.1 z5 v hv⟩
  have key:∀ (L:List AV) (k:Nat) (a y:AV),y∈Zz L k [a]->y=a\/y∈L:=λL k a y h=>by
   simp only [Zz,xW,dY,w6] at h;rcases h with h|h|h
   .exact .inr (Ki h)
   .exact .inl h
   .exact .inr (List.mem_of_mem_drop h)
  rcases key _ _ _ _ hy with rfl|hy
  .exact .inl ⟨_,rfl,rfl⟩
  .rcases key _ _ _ _ hy with rfl|hy
   .exact .inl ⟨_,rfl,rfl⟩
   .rcases key _ _ _ _ hy with rfl|hy
    .exact .inr rfl
    .exact .inl (hz y hy)
 have hCo:Cs.all AV.one=true:=dT.2 λy hy=>by
  rcases hCm y hy with⟨v,rfl,hv⟩|rfl
  .exact hv
  .rfl
 have hCk:∀ y∈Cs,(∃ v,y=.sc v)\/∃ z rows,y=.sl z rows/\y.tr (kl (.s 15))=y:=λy hy=>by
  rcases hCm y hy with⟨v,rfl,hv⟩|rfl
  .exact .inl ⟨v,rfl⟩
  .exact .inr ⟨_,_,rfl,qB⟩
 have hns:∀ st:St,(St.qAA (zj (Nm.c (.s 15) 0) (tce prog 77) 0 Cs) st).hp (.s 2)=st.hp (.s 2):=λst=>by rw [iq,ru λa e=>um]
 refine x_q (z:=.agg Cs) qB Zs ?_;refine jL ?_;refine yP (.s 15) Yn (.inl rfl) (.inr (by simp [dz,hN])) ?_;refine Ud (cs:=Cs) qB (by simp [AV.cells,hCo]) 4415 hCl Uh hCk ?_;refine Sn (λs=>s.tm 2=.pt (.s 2) 0/\s.hp (.s 2)=some (.row 1 [[ksl p]])/\s.tm 5=gx p/\s.tm 15=.pt Yn 0/\qCM s.hp p n 0) ⟨by simp [nN],by simp [hns],by simp [nN],qB,?_⟩ ?_
 .rw [hCs];exact MR hzl z3 z4 T8 T7 QZ λk i j hk=>by simp [hN]
 rintro s ⟨t2,p2,t5,t15,hX⟩;have fx:=yE t2 p2 t5<|t15;refine qG ?_
 repeat ((first|refine Ze (id:=6) MP mixed ?_);refine qZ ?_;refine qG ?_)
 clear fx;refine qX (λk s=>∃ b:Nat,k=p.length - b/\b<=p.length/\s.tm 2=.pt (.s 2) 0/\s.hp (.s 2)=some (.row 1 [[ksl p]])/\s.tm 5=gx p/\s.tm 6=.pt Yn 0/\s.tm 18=iv p.length/\s.tm 19=iv b/\qCM s.hp p n b) p.length ?_ ?_
 .exact⟨0,qA,qA,yt,by simp [p2],gG,by simp [t15],qB,qB,hX⟩
 clear t2 p2 t5 t15 hX;rintro k s - - ⟨b,rfl,hb,t2,p2,t5,t6,t18,t19,hX⟩;obtain⟨R,hT,hRl,r1⟩:=hX.row;obtain⟨_,r1E⟩:=gS r1;have hcp:=hX.qAZ;by_cases hil:b<p.length
 .obtain⟨kk,hk⟩:=gX hil;have hcf:=Bi gl p b kk hk hP.sh;have hb7:b<=7:=qA;have fx:=qU t2 p2 t5 t6 t18 t19 hil hT hRl r1 r1E hcp<|hb7;have p1:=hcf;refine ol ?_
  repeat ((first|refine Ze (id:=6) MP mixed ?_);refine BU ?_;refine ol ?_)
  clear fx p1;have htk:(ve p b).take b=ve p b:=b9 qB;have hap:ve p b++[[isl (zt p b)]]=ve p (b+1):=KY;exact⟨p.length - (b+1),qA,b+1,rfl,qA,yt,by simp [p2],gG,cR,by simp [t18],by simp [t19];exact Zv qA qA,(have h:=hX;qCM.step h hT qE (by simp only [eC];exact⟨_,λj hj=>by simp [hj],rfl⟩) (by simp [<- hap,htk]))⟩
 .obtain rfl:b=p.length:=qA;have hO:=hX.own;have fx:=uD t2 p2 t5 t6 t18<|t19;refine qG ?_
  repeat ((first|refine Ze (id:=6) MP mixed ?_);refine qZ ?_;refine qG ?_)
  clear fx;intro K hK;have fx:=t6;refine eZ (λk i j he=>by simp [dz,hN] at he) (hF:=SK gl _ p n hP hn (by simp [fM9]) hO.sub) (h:=?_);rintro y H1 ⟨fr,hfr,hO1⟩;clear fx;have fx:=aI t6<|hT;refine qG ?_
  repeat ((first|refine Ze (id:=6) MP mixed ?_);refine qZ ?_;refine qG ?_)
  clear fx;refine qD [] .nil qE ⟨qB,fr,hfr,ZY.fin (have h:=hO1;ZY.re h)⟩
abbrev XP:Zh:=wP<|.l 14 []<|.done
theorem mA {xs:List Int} {i:Nat} {v:Int} (h:i<xs.length):(xs.set i v).take (i+1)=xs.take i++[v]:=by
 rw [uQ,List.take_set_of_le (qf _)];simp [h]
theorem mb {A G G2:Prop} (k:G2) (x:A) (h:A->Zx G2->G:=by
 intro fx kk;refine qG ?_
 repeat ((first|refine Ze (id:=9) XP mixed ?_);refine qZ ?_;refine qG ?_)
 exact kk.h):G:=h x ⟨k⟩
theorem JB (gl) (H:Nm->Option AO) (p:Z0) (m:Zb) (hg8:m.globals.length=8) (hol:m.out.length<=1000) (hO:ZY H p m) :
  Zj prog gl 47 DM [.pt Yn 0] H (λr y H'=>y=.agg ((⟨m.out,m.en,m.left,yd m.globals⟩:Rsl).own r)/\qBf H' r ⟨m.out,m.en,m.left,yd m.globals⟩) noE:=by
 have hrow:∃ R:List AV,H Yn=some (.row 4415 [R])/\R.length=4415/\(R.drop 6).take 24=aK m.globals:=by
  obtain⟨J,hJ,e⟩:=hO.top;exact⟨_,e,w8 (kQ hJ),SO⟩
 obtain⟨R,hT,hRl,rtb⟩:=hrow;refine Zj.Zl func47 [.cell 2 34] ntmps47 (λ_=>qN) λC w g root hroot=>?_;have hr0:DM root=false:=hroot root (Nm.Z6 _);refine mb ?_<|jI hT hRl<|rtb;have hmt:∀ F,((R.map (AV.tr F)).drop 6).take 24=aK m.globals:=λF=>by rw [<- List.map_drop,<- HQ,rtb,B7]
 refine qX (λn st=>∃ (i:Nat) (xs:List Int),n=8 - i/\i<=8/\xs.length=8/\xs.take i=yd (m.globals.take i)/\st.tm 0=.pt Yn 0/\st.tm 2=.pt (.s 2) 0/\st.hp (.s 2)=some (.row 4 [[.hs (.c (.s 2) 0 0) 1 0 0,iv 0,iv 0,.hs (.c (.s 2) 0 3) 1 0 0]])/\st.tm 3=.hs (.s 3) 1 0 8/\st.hp (.s 3)=some (.row 1 (qT xs))/\st.tm 10=.agg (aK m.globals)/\st.tm 11=iv i/\ZY st.hp p m) 8 ?_ ?_
 .exact⟨0,List.replicate 8 0,qA,qA,qB,by simp [yd],qB,qB,qB,qB,zd,by simp [eC,hmt],qB,gB⟩
 clear hT hRl rtb hmt hO;rintro n st - - ⟨i,xs,rfl,hi,hxl,hxs,t0,t2,hp2,t3,hp3,t10,t11,hO⟩;by_cases hil:i<8
 .obtain⟨s,hs⟩:∃ s,m.globals[i]?=some s:=⟨_,gE qA⟩;have hsa:uE m.globals i=s:=by simp [uE,hs]
  have hfl:((aK m.globals).drop (i * 3)).take 3=jm s:=by rw [Eh,<- hsa];exact Ic hil
  have htk:yd (m.globals.take (i+1))=yd (m.globals.take i)++[match s with|some v=>Hm.shown v|none=>-9]:=by
   rw [uQ,hs]
   cases s <;> simp [yd]
  have hi8:(i:Int)<8:=qA;have hi24:i * 3+3<=24:=qA;have hfn8:(aK m.globals).length=24:=Ia
  cases s with
  | none =>
   simp only [wN] at hfl;refine mb ?_<|qU t0 t2 hp2 t3 hp3 t10 t11 hi8 hil hxl hfl hi24<|hfn8;exact⟨8 - (i+1),qA,i+1,xs.set i (-9),rfl,qA,oM,by rw [htk,<- hxs,mA qA],vv,yt,zF,aY,jv,by simp [t10],GN,gB⟩
  | some v =>
   have hsh:=uN gl v;obtain⟨v1,v2⟩:=v;simp only [kC] at hfl;have fx:=qU t0 t2 hp2 t3 hp3 t10 t11 hi8 hil hxl hfl hi24<|hfn8;have c1:=hsh;refine mb ?_<|fx;clear fx c1;exact⟨8 - (i+1),qA,i+1,xs.set i (Hm.shown (v1,v2)),rfl,qA,oM,by rw [htk,<- hxs,mA qA],vv,yt,zF,aY,jv,by simp [t10],GN,gB⟩
 .have hge:i=8:=qA;subst hge
  have hxe:xs=yd m.globals:=by
   rw [b9 qA,b9 qA] at hxs;exact hxs
  have hrow:∃ R:List AV,st.hp Yn=some (.row 4415 [R])/\R.length=4415/\R[2]?=some (iv m.left)/\R[3]?=some (iv m.en)/\R[4]?=some (.hs (.c Yn 0 4) 1 0 m.out.length):=by
   obtain⟨J,hJ,e⟩:=hO.top;exact⟨_,e,w8 (kQ hJ),R8,R7,R6⟩
  obtain⟨R,hT,hRl,r2,r3,r4⟩:=hrow;obtain⟨_,r2E⟩:=gS r2;obtain⟨_,r3E⟩:=gS r3;obtain⟨_,r4E⟩:=gS r4;have hU:=hO.out;have hsl:(yd m.globals).length=8:=by rw [<- hxe];exact hxl
  have h88:¬ (8:Int)<8:=qA;refine Cl (.c Yn 0 4) (.s 1) (.inl rfl) (.inl rfl) ?_;refine mb ?_<|qU t0 t2 hp2 t3 hp3 t10 t11 h88 hT hU hRl r2<|yS r3 r4 r2E r3E<|r4E;refine qD [(.s 2,root)] (.one rfl) (by simp [t2];rfl) ⟨by simp [hsl],⟨by simp [hU,hr0],by simp [hp3,hxe,hr0]⟩⟩
abbrev Wy:Zh:=aS<|.l 8 [7,6,5,4]<|.l 9 []<|.done
theorem fq (gl:Nat->Option (List AV)) (hgl:gl 0=some dH) (p:Z0) (f:Int) (hs:Sml p):qb prog gl 15 [pav p,iv f] (λr y H'=>y=.agg ((C9 p f).own r)/\qBf H' r (C9 p f)):=by
 refine qb.Zl func15 [.cell 4 34] ntmps15 λC w g root=>?_
 cases hv0:jF p
 .have hv:jT p f=false:=lZ;have hG:C9 p f=⟨[],0,0,[]⟩:=tX;rw [hG];have fx:= hv0;have c1:=hv0 ▸ qM gl p hs;refine qG ?_;clear fx c1;refine qD [(.s 4,root)] (.one rfl) qE ⟨qB,⟨qB,qB⟩⟩
 cases hv:jT p f
 .have hf:(decide (0<=f)&&decide (f<=150))=false:=bz;have hG:C9 p f=⟨[],0,0,[]⟩:=tX;rw [hG];have fx:=aI hv0<|hf;have c1:=hv0 ▸ qM gl p hs;have c2:=hf ▸ yl gl f;refine qG ?_;clear fx c1 c2;refine qD [(.s 4,root)] (.one rfl) qE ⟨qB,⟨qB,qB⟩⟩
 .obtain⟨hpo,n,rfl,hn⟩:=jl hv;have hP:=Zm.of hs hpo;have hf:(decide (0<=(n:Int))&&decide ((n:Int)<=150))=true:=bz;obtain⟨hb1,hb2,hgl8⟩:=og (n:=n) hP hn;have hG:C9 p n=Oo (wB p n):=tX;rw [hG];have hrs:(⟨(wB p n).out,(wB p n).en,(wB p n).left,yd (wB p n).globals⟩:Rsl)=Oo (wB p n):=rfl;have fx:=aI hv0<|hf;have c1:=hv0 ▸ qM gl p hs;have c2:=hf ▸ yl gl n;refine qG ?_;clear fx c1 c2;intro K hK;have fx:=Zk;refine eZ (λk i j he=>cO) (hF:=fi gl hgl _ p n hP hn cN) (h:=?_);rintro y H1 ⟨rfl,fr,-,hO1⟩;clear fx;have hrf:=λH hO=>JB gl H p { wB p n with ZW:=fr } hgl8 (by simp only;omega) hO;simp only [hrs] at hrf;refine qC ?_<|Zk;have fx:=Zk;refine yP (.c (.s 17) 0 0) (.s 1) (.inl rfl) (.inl rfl) ?_;refine yP (.c (.s 17) 0 3) (.s 3) (.inl rfl) (.inl rfl) ?_;refine eZ (λk i j he=>cO) (hF:=hrf _ (have h:=hO1;ZY.re h)) (h:=?_);rintro y H2 ⟨rfl,hR2⟩;clear fx;have r1:=hR2.out;have r2:=hR2.gl;refine qC ?_<|aI r1<|r2;refine qD [(.s 4,root)] (.one rfl) qE ⟨qB,⟨eN,eI⟩⟩
theorem lK (gl:Nat->Option (List AV)) (hgl:gl 0=some dH) (p:Z0) (f:Int) (hs:Sml p):qb prog gl 10 [pav p,iv f] (λr y H'=>y=.hs r 2 0 (JK p f).length/\H' r=some (.row 2 (yw (JK p f)))):=by
 refine qb.Zl func10 [.tmp 4] ntmps10 λC w g root=>?_
 cases hv0:jF p
 .have hv:jT p f=false:=lZ;have fx:= hv0;have c1:=hv0 ▸ qM gl p hs;refine qG ?_;clear fx c1;refine qD [(.s 4,root)] (.one rfl) qE tU
 cases hv:jT p f
 .have hf:(decide (0<=f)&&decide (f<=150))=false:=bz;have fx:=aI hv0<|hf;have c1:=hv0 ▸ qM gl p hs;have c2:=hf ▸ yl gl f;refine qG ?_;clear fx c1 c2;refine qD [(.s 4,root)] (.one rfl) qE tU
 .obtain⟨hpo,n,rfl,hn⟩:=jl hv;have hP:=Zm.of hs hpo;have hf:(decide (0<=(n:Int))&&decide ((n:Int)<=150))=true:=bz;obtain⟨hb1,hb2,hgl8⟩:=og (n:=n) hP hn;have hol':(wB p n).trace.length<=1000:=qA;have hG:JK p n=(wB p n).trace:=tU;rw [hG];have fx:=aI hv0<|hf;have c1:=hv0 ▸ qM gl p hs;have c2:=hf ▸ yl gl n;refine qG ?_;clear fx c1 c2;intro K hK;have fx:=Zk;refine yP (.c Yn 0 5) (.s 15) (.inl rfl) (.inl rfl) ?_;refine eZ (λk i j he=>cO) (hF:=fi gl hgl _ p n hP hn cN) (h:=?_);rintro y H1 ⟨rfl,fr,-,hO1⟩;clear fx
  obtain⟨R,hT,hRl,r5⟩:∃ R,H1 Yn=some (.row 4415 [R])/\R.length=4415/\R[5]?=some (.hs (.c Yn 0 5) 2 0 (wB p n).trace.length):=by
   obtain⟨J,hJ,e⟩:=hO1.top;exact⟨_,e,w8 (kQ hJ),R5⟩
  obtain⟨_,r5E⟩:=gS r5;have hTr:H1 (.c Yn 0 5)=some (.row 2 (yw (wB p n).trace)):=hO1.trc;refine qC ?_<|uD hT hRl r5 r5E hTr<|hol';refine qD [(.s 4,root)] (.one rfl) qE ⟨qB,by simp [hTr]⟩
theorem ma {A G G2:Prop} (k:G2) (x:A) (h:A->Zx G2->G:=by
 intro fx kk;refine qG ?_
 repeat ((first|refine Ze (id:=4) Wy mixed ?_);refine qZ ?_;refine qG ?_)
 exact kk.h):G:=h x ⟨k⟩
theorem mh (gl:Nat->Option (List AV)) (hgl:gl 0=some dH) (p:Z0) (f:Int) (hs:Sml p):qb prog gl 34 [pav p,iv f] (λ_ y _=>y=.tup [iv (B6 p f).1,iv (B6 p f).2]):=by
 refine qb.Zl func34 [.tmp 4,.tmp 5] ntmps34 λC w g root=>?_
 cases hv0:jF p
 .have hv:jT p f=false:=lZ;have fx:= hv0;have c1:=hv0 ▸ qM gl p hs;refine ma ?_<|fx;clear fx c1;refine qD [] .nil qE CO
 cases hv:jT p f
 .have hf:(decide (0<=f)&&decide (f<=150))=false:=bz;have fx:=aI hv0<|hf;have c1:=hv0 ▸ qM gl p hs;have c2:=hf ▸ yl gl f;refine ma ?_<|fx;clear fx c1 c2;refine qD [] .nil qE CO
 .obtain⟨hpo,n,rfl,hn⟩:=jl hv;have hP:=Zm.of hs hpo;have hf:(decide (0<=(n:Int))&&decide ((n:Int)<=150))=true:=bz;obtain⟨hb1,hb2,hgl8⟩:=og (n:=n) hP hn;have fx:=aI hv0<|hf;have c1:=hv0 ▸ qM gl p hs;have c2:=hf ▸ yl gl n;refine ma ?_<|fx;clear fx c1 c2;intro K hK;have fx:=Zk;refine eZ (λk i j he=>cO) (hF:=fi gl hgl _ p n hP hn cN) (h:=?_);rintro y H1 ⟨rfl,fr,-,hO1⟩;clear fx
  obtain⟨R,hT,hRl,r5,r6⟩:∃ R,H1 Yn=some (.row 4415 [R])/\R.length=4415/\R[4413]?=some (iv (wB p n).made)/\R[4412]?=some (iv (wB p n).deep):=by
   obtain⟨J,hJ,e⟩:=hO1.top;exact⟨_,e,w8 (kQ hJ),Ch (kQ hJ),Ci (kQ hJ)⟩
  obtain⟨_,r5E⟩:=gS r5;obtain⟨_,r6E⟩:=gS r6;refine ma ?_<|uD hT hRl r5 r5E r6<|r6E;refine qD [] .nil qE CO
end Go.Proofs.YtdnebaieamppbaaGreatDoor
end
