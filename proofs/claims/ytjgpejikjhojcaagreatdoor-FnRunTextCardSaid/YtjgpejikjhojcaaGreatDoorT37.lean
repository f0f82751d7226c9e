import Derived.Test.YtjgpejikjhojcaaGreatDoorT36
import Derived.Test.YtjgpejikjhojcaaGreatDoorT31
set_option linter.unusedSimpArgs false
set_option linter.unusedVariables false
set_option maxRecDepth 100000
set_option maxHeartbeats 4000000

section
namespace Go.Proofs.YtjgpejikjhojcaaGreatDoor
open Go Go.Hm Go.Proofs Tryz
abbrev WU:qb:=bQ<|.l 11 []<|.done
theorem Ii:fM 9=false:=rfl
theorem gq {A G G2:Prop} (k:G2) (x:A) (h:A->jP G2->G:=by
 intro fx kk;refine qQ ?_
 repeat ((first|refine qf (id:=2) WU mixed ?_);refine zQ ?_;refine qQ ?_)
 exact kk.h):G:=h x ⟨k⟩
theorem qBK (gl) (H:Nm->Option AO) (p:qC) (n:Nat) (hP:zq p) (hn:n<=150) (h9:H (.u 9 0 0)=none) (hO:qE H p (uj n)) :
  qV prog gl 76 DM [.pt Yn 0] H (λ_ _ H'=>∃ fr,((fr=(uP p n).qW/\(uP p n).en≠0)\/((uP p n).qW=[]/\∃ f,fr=[f]/\f.qD=0))/\qE H' p { uP p n with qW:=fr }) qy:=by
 have h0:=hO;have hp7:=hP.sh.len;obtain⟨N,n1,n2,n3⟩:=LZ hP hn
 have hN0:0<N:=by
  refine Nat.pos_of_ne_zero λe=>?_;subst e;exact Yu hP n2
 have hh0:(zr p 0).params=[]:=Yv hP;refine qV.qa func76 [] ntmps76 (λ_=>qv) λC w g root hroot=>?_;refine qAE 0 rfl (λk s=>∃ i:Nat,k=N - i/\i<N/\s.tm 0=.pt Yn 0/\s.hp (.u 9 0 0)=none/\qE s.hp p (jH p i (j7 p n))) ?_ ?_
 .obtain⟨J,hJ,hT⟩:=hO.top;refine gq ?_<| hT;intro K hK;have fx:=hT;refine zk h0 (have h:=hO;qE.re h) mP (hF:=λhO=>(Gm gl _ p (uj n) 0 [] [] qA qA qB qB mP mP mP mP (.inl hh0) (by rw [hh0];rfl) mP mP hO).Tl) (h:=?_);rintro y H1 hO1;clear fx;replace hO1:qE H1 p (jH p 0 (j7 p n)):=hO1;refine gq ?_<| hT;exact⟨N,0,qA,hN0,zG,tS,(have h:=hO1;qE.re h)⟩
 rintro k s - - ⟨i,rfl,hi,t0,h9,hO⟩;have hne:=n1 i hi;obtain⟨fs,f,hfr,hM⟩:=(CI hP hn i).resolve_left hne
 have hen:(jH p i (j7 p n)).en=0:=by
  by_cases h:(jH p i (j7 p n)).en=0
  .exact h
  .exact absurd (.inr h) hne
 have hsn:=XH i hne;have hc0:∀ i,(uj n).cells.length<=i:=λi=>mP;generalize hmm:jH p i (j7 p n)=m at *;have hmt:m=m.top fs f:=by cases m;simp only [qU.top] at hfr ⊢;rw [hfr]
 have hol:=xg (p:=p) (b:=f.qD) hP.sh;have hpc:=hM.top.pc;have hdp:=hM.deep;have hmd:=hM.made;have hp:=hM.top.qD;have hfl:fs.length<=150:=qA;obtain⟨kk,hk⟩:=gX hp;have hcd:(yl p p.length)[f.qD]?=some (zr p f.qD):=by simp [yl,hp]
 obtain⟨hcdl,hcdE⟩:=gS hcd;have hco:(zr p f.qD).ops=zm p f.qD:=mS
 have hnx:(jH p (i+1) (j7 p n)).en=0->(jH p (i+1) (j7 p n)).qW≠[]->i+1<N:=λh1 h2=>by
  rcases aC (i+1) N with h|h
  .exact h
  .have e:i+1=N:=qA;rw [e] at h1 h2;rcases n2 with h|h
   .exact absurd h h2
   .exact absurd h1 h
 obtain⟨R,j,hT,tr,-⟩:=hO.jz hfr qA;refine gq ?_<| t0;intro K hK;have fx:=t0;refine zk h0 (have h:=hO;qE.re h) (hc0 _) (hF:=λ_=>Cj gl DM (λ_=>qv) rfl _ R fs.length zG tr.h qA) (h:=?_);intro y H1 hw;clear fx;have hO1:=qE.CR hO hw;obtain⟨rfl,-⟩:=hw;refine qI ?_<|aI t0<|hT;refine aS (λs=>s.tm 0=.pt Yn 0/\s.tm 2=.pt Yn (yo fs.length)/\s.hp (.u 9 0 0)=none/\qE s.hp p m) ⟨eC,zG,tS,(have h:=hO1;qE.re h)⟩ ?_;clear t0 h9 hO hT tr hO1;rintro s ⟨t0,t2,h9,hO⟩;obtain⟨R,j,hT,tr,h2,h3,h28⟩:=hO.jz hfr qA;have hRl:=tr.len;have r0:=tr.r0;have f0:=tr.f0;have f1:=tr.f1;have rh:=tr.h;obtain⟨_,r0E⟩:=gS r0;obtain⟨_,rhE⟩:=gS rh;obtain⟨f0l,f0E⟩:=gS f0;obtain⟨f1l,f1E⟩:=gS f1
 cases ho:(zm p f.qD)[f.pc]? with
 | none =>
  have hpe:f.pc=(zm p f.qD).length:=by have:=List.getElem?_eq_none_iff.1 ho;omega
  have hres:cD p m=iz p m fs f:=Hm.step_end hfr ho;by_cases hfs:fs=[]
  .subst hfs;have hb0:f.qD=0:=hM.b0 f qB
   have hk0:zt p f.qD=0:=by
    have:=(hP.sh.dS hk).2 hb0;simp [zt,hk,this]
   have hend:iz p m [] f={ m with qW:=[] }:=by
    simp only [iz,hk0]
    rfl
   simp only [gH] at t2 f0 f0E f0l f1 f1E f1l rh rhE;have e1:(jH p (i+1) (j7 p n)).ended:=.inl (by rw [hsn,hres,hend]);have hnil:(uP p n).qW=[]:=by rw [<- sZ e1,hsn,hres,hend]
   have hlast:{ uP p n with qW:=[f] }=m:=by
    rw [<- sZ e1,hsn,hres,hend]
    cases m
    simp only at hfr;simp [hfr]
   refine gq ?_<|qr t0 t2 hT hRl r0 r0E f0 f0E f0l f1 f1E f1l<|jQ rh rhE hcd hcdl hcdE hco<|hpe;refine SE (iy [] .nil qH ⟨[f],.inr ⟨hnil,f,rfl,hb0⟩,?_⟩);rw [hlast];exact qE.fin (have h:=hO;qE.re h)
  .obtain⟨gs,g0,rfl⟩:∃ gs g0,fs=gs++[g0]:=⟨fs.dropLast,fs.getLast hfs,(mH hfs).symm⟩;simp only [kC,b8] at t2 f0 f0E f0l f1 f1E f1l rh rhE hfl;have hlow:=hM.low g0 qB;have hlo1:=hlow.sl;have hlo2:=hlow.pc;have hlo3:=xg (p:=p) (b:=g0.qD) hP.sh;have hnk:=hM.nk;have hyf:=λH hO=>Nc gl H p m gs g0 f (0,0) hp qA qA qA hO;have hee:(if zt p f.qD=2 then vr { m with qO:=m.qO++[f.names] } (gs++[g0]) (3,m.qO.length) else vr m (gs++[g0]) (0,0))=jH p (i+1) (j7 p n):=by rw [hsn,hres];rfl
   rw [hee] at hyf;have hgt:((gs.length:Int)+1+1 > 1):=qA;refine gq ?_<|qr t0 t2 hT hRl r0 r0E f0 f0E f0l f1 f1E f1l<|jJ rh rhE hcd hcdl hcdE hco hpe<|hgt;intro K hK;have fx:=aI t0 t2;refine zk h0 (have h:=hO;qE.re h) (hc0 _) (hF:=λhO=>hyf _ (by rw [<- hmt];exact hO)) (h:=?_);intro y H1 hO1;clear fx;have hlt:=hnx (by rw [hsn,hres,<- hen];simp only [iz];split <;> exact Jp) (by rw [hsn,hres];simp only [iz];split <;> exact Jq hfs);refine gq ?_<|qk t0 t2<|hT;refine NK ?_
   repeat' (first|refine Mx ?_|refine J3 ?_)
   exact⟨N - (i+1),qA,i+1,rfl,hlt,eC,tS,(have h:=hO1;qE.re h)⟩
 | some o =>
  obtain⟨hol2,hoE⟩:=gS ho;have hres:cD p m=jW p m fs f.next o:=Hm.AL hfr ho;have hpl:(f.pc:Int)<((zm p f.qD).length:Int):=qA;have hwp:IntKind.i64.wrap ((f.pc:Int)+1)=((f.pc+1:Nat):Int):=qi qA qA;refine gq ?_<|qr t0 t2 hT hRl r0 r0E f0 f0E f0l f1 f1E f1l<|yz hcd hcdl hcdE hco hpl hwp ho hoE<|hol2;intro K hK;have hpc1:(f.pc:Int)+1=((f.pc+1:Nat):Int):=qA;refine ua (λs=>s.tm 0=.pt Yn 0/\s.tm 33=.pt Yn 0/\s.tm 34=.pt Yn (yo fs.length)/\s.tm 35=xh (zm p f.qD)/\s.tm 38=.pt Yn (yo fs.length+1)/\s.hp (.u 9 0 0)=none/\qE s.hp p (m.top fs f.next)) ⟨kg,kg,bh,qB,bh,cX,?_⟩ ?_
  .refine qE.NS hO hfr (m':=m.top fs f.next) (g:=f.next) rfl hT (g3:=⟨[],by simp [qN.next]⟩) (λJ hJ e=>?_);rw [AH,e,hpc1];exact Ch (fs:=fs++[f]) (i:=fs.length) (f:=f) (g:=f.next) (j:=1) hJ qB qA qB qBF |>.trans qH
  clear t0 t2 h9 hO hT tr h2 h3 h28 hRl r0 f0 f1 rh r0E rhE f0l f0E f1l f1E;rintro s ⟨t0,t33,t34,t35,t38,h9,hO⟩;obtain⟨R,j,hT,tr,-⟩:=hO.jz rfl qA;have f1:R[yo fs.length+1]?=some (iv ((f.pc:Int)+1)):=by rw [tr.f1];rfl
  have yoh:yo fs.length+29<=4415:=uv;obtain⟨f1l,f1E⟩:=gS f1;have hwq:IntKind.i64.wrap (f.pc:Int)=f.pc:=qi qA qA;rw [hres] at hsn;have hOr:=FD hP.sh hk o (gM ho)
  have hne20:o.1=20->fs≠[]:=λh e=>by
   subst e;have h1:=hM.b0 f qB;have h2:=hOr.ret h;have h3:=(hP.sh.dS hk).2 h1;simp [zt,hk,h3] at h2
  refine gq ?_<|qr t0 t33 t34 t35 t38 hT f1 f1E f1l ho hoE hol2<|aI hwq<|yoh;have fx:=aI t0 (aI t33 t34);refine zk h0 (have h:=hO;qE.re h) (hc0 _) (hF:=λhO=>qBL gl _ p m fs f o hP hM ho hen tS hO) (h:=?_);rintro y H1 ⟨rfl,hO1⟩;clear fx;rw [<- hsn] at hO1;by_cases he:(jW p m fs f.next o).en=0
  .have hlt:=hnx (by rw [hsn];exact he) (by rw [hsn];exact UW hOr.code hne20);refine gq ?_<|qk t0 hT<|he;refine NK ?_
   repeat' (first|refine Mx ?_|refine J3 ?_)
   exact⟨N - (i+1),qA,i+1,rfl,hlt,eC,tS,(have h:=hO1;qE.re h)⟩
  .have e1:(jH p (i+1) (j7 p n)).ended:=.inr (by rw [hsn];exact he);rw [sZ e1] at hO1;refine gq ?_<|qk t0 hT<|he;refine SF (qG [] .nil qH ⟨(uP p n).qW,.inl ⟨rfl,by rw [<- sZ e1,hsn];exact he⟩,?_⟩);exact qE.fin (have h:=hO1;qE.re h)
theorem PV (gl) (p:qC) (b:Nat) (k:qT) (hk:p[b]?=some k) (hP:z6 p):qM prog gl 75 [yu p,vi p,iv b] (λr y H'=>y=.hs r 1 0 (jr p b).length/\H' r=some (.row 1 (qm (jr p b)))):=by
 have zF:=(gS hk).1;obtain⟨_,hkE⟩:=gS hk;have hlen:=hP.len;have hf8:=oh (p:=p) (b:=b);have hcl:=EE (p:=p) (b:=b);have hcl2:(jr p b).length=(jF p b).length:=by simp [jr]
 have hfr:=EX gl p hP b zF;refine qM.qa func75 [.tmp 6] ntmps75 λC w g root=>?_;have fx:=qS;have d1:=hfr;refine qQ ?_;clear fx d1;refine zU (λn st=>∃ i:Nat,n=(jF p b).length - i/\i<=(jF p b).length/\st.tm 1=vi p/\st.tm 2=iv b/\st.tm 3=.pt (.s 3) 0/\st.hp (.s 3)=some (.row 1 [[vK p]])/\st.tm 7=.hs (.s 7) 1 0 i/\st.hp (.s 7)=some (.row 1 (qm ((jr p b).take i)))/\st.tm 12=.hs (.s 12) 1 0 (jF p b).length/\st.hp (.s 12)=some (.row 1 (qm (jF p b)))/\st.tm 13=iv (jF p b).length/\st.tm 14=iv i) (jF p b).length ?_ ?_
 .exact⟨0,qA,qA,qB,qB,qB,qB,qB,qB,qB,qB,qB,qB⟩
 rintro n st - - ⟨i,rfl,hi,t1,t2,t3,p3,t7,p7,t12,p12,t13,t14⟩;by_cases hil:i<(jF p b).length
 .obtain⟨x,hx⟩:=gX hil;obtain⟨_,hxE⟩:=gS hx;have hb0:=BT (gM hx);obtain⟨h1,h2,h3⟩:=hP.jR b k hk;have h4:=h3 hb0;obtain⟨c,hc⟩:∃ c:Nat,k.parent=c:=⟨k.parent.toNat,qA⟩;obtain⟨kc,hkc⟩:∃ kc,p[c]?=some kc:=⟨_,gE qA⟩;have hpa:kU p b=c:=by simp [kU,hk,hc]
  have hx8:∃ a:Nat,x=a/\a<8:=by
   have hm:=gM hx;obtain⟨-,hm0,hm7⟩:=Hm.mem_sorted.1 (show x∈Hm.sorted (oi p b (p.length - b)) from hm);exact⟨x.toNat,qA,qA⟩
  obtain⟨a,rfl,ha8⟩:=hx8;have hcp:=E3 gl p hP c kc hkc a ha8;have htl:((jr p b).take i).length=i:=by simp [jr];omega
  have hi8:i<=8:=qA;have fx:=qr t1 t2 t3 p3 t7 p7 t12 p12 t13 t14 hil hk<|jQ hkE zF hc hx hxE htl<|hi8;have c1:=hcp;refine qQ ?_;clear fx c1
  have e1:(jr p b).take (i+1)=(jr p b).take i++[eG p c a]:=by
   rw [vM];simp [jr,hx,hpa]
  have e2:qm ((jr p b).take i)++[[iv (eG p c a)]]=qm ((jr p b).take (i+1)):=by rw [e1];simp [qm]
  refine⟨(jF p b).length - (i+1),qA,i+1,rfl,qA,by simp [t1],bh,bG,by simp [p3],qB,?_,by simp [t12],by simp [p12],by simp [t13],by simp [t14];exact qi qA qA⟩;simp [<- e2];rw [yU qn]
 .obtain rfl:i=(jF p b).length:=qA;have htk:(jr p b).take (jF p b).length=jr p b:=yU qA;rw [htk] at p7;refine qI ?_<|vA t1 t2 t3 p3 t7 p7 t12 p12 t13<|t14;exact vo (t:=6) Hw Hw qB
theorem PU (gl) (p:qC) (b:Nat) (k:qT) (hk:p[b]?=some k) (hP:z6 p):qM prog gl 75 [yu p,vi p,iv b] (λ_ y _=>y=vJ (jr p b)) :=
 (PV gl p b k hk hP).settle λr y H' hr=>⟨vJ (jr p b),by rw [hr.1];exact dl hr.2 rfl,rfl⟩
abbrev xq:qb:=iI<|.l 8 [4,3,2,1,0]<|.l 9 [4,3,2,1,0]<|.l 10 [0]<|.q 11<|.q 12<|.l 13 []<|.done
theorem TN:∃ l,yI prog 145=some l/\l.length=4415/\(l.map AV.sc).take 32=[.sc (.slice none 0 0),.sc (.slice none 0 0),iv 0,iv 0,.sc (.slice none 0 0),.sc (.slice none 0 0)]++(jN j3++[.sc (.slice none 0 0),.sc (.slice none 0 0)])/\(l.map AV.sc).drop 4411=[iv 0,iv 0,iv 0,iv 0]/\l.all Value.oneCell'=true:=by
 have h:(yI prog 145).isSome=true:=qY;have h1:(yI prog 145).map List.length=some 4415:=qY;have h2:(yI prog 145).map (λl=>(l.map AV.sc).take 32)=some ([.sc (.slice none 0 0),.sc (.slice none 0 0),iv 0,iv 0,.sc (.slice none 0 0),.sc (.slice none 0 0)]++(jN j3++[.sc (.slice none 0 0),.sc (.slice none 0 0)])):=qY;have h3:(yI prog 145).map (λl=>(l.map AV.sc).drop 4411)=some [iv 0,iv 0,iv 0,iv 0]:=qY;have h4:(yI prog 145).map (λl=>l.all Value.oneCell')=some true:=qY;obtain⟨l,hl⟩:=A7.1 h;rw [hl] at h1 h2 h3 h4;exact⟨l,hl,sI h1,sI h2,sI h3,sI h4⟩
theorem TJ:∀ k,(k=1\/k=4)->(zY prog 145).getD k 0=1:=by
 rintro k (rfl|rfl) <;> kernel_rfl
theorem TK:∀ k,(k=5\/k=30)->(zY prog 145).getD k 0=2:=by
 rintro k (rfl|rfl) <;> kernel_rfl
theorem TL:(zY prog 145).getD 31 0=24:=qY
theorem TM:yw prog 145=true:=qY
theorem Xy (gl) (p:qC) (hP:z6 p):qM prog gl 60 [yu p] (λ_ y _=>y=vi p) :=
 (Fx gl p hP.ft hP.jR hP.names).settle λr y H' hr=>⟨vi p,by rw [hr.1];exact Ag hr.2 hP.jR rfl,rfl⟩
theorem Pm (gl:Nat->Option (List AV)) (hgl:gl 4=some mZ) (p:qC) (hP:z6 p):qM prog gl 74 [yu p,vi p] (λ_ y _=>y=bL (yl p p.length)) :=
 (Rf gl hgl p hP).settle λr y H' hr=>⟨bL (yl p p.length),by rw [hr.1];exact gT hr.2 rfl,rfl⟩
theorem TO (gl:Nat->Option (List AV)) (hgl:gl 4=some mZ) (H:Nm->Option AO) (p:qC) (n:Nat) (hP:zq p) (hn:n<=150) (hN:∀ k i j,H (.u k i j)=none) :
  qV prog gl 38 DM [yu p,iv n] H (λ_ y H'=>y=.pt Yn 0/\∃ fr,((fr=(uP p n).qW/\(uP p n).en≠0)\/((uP p n).qW=[]/\∃ f,fr=[f]/\f.qD=0))/\qE H' p { uP p n with qW:=fr }) qy:=by
 have hp7:=hP.sh.len;have hsc:=Xy gl p hP.sh;have hca:=Pm gl hgl p hP.sh;obtain⟨l,z1,z2,z3,z4,z5⟩:=TN;have zF:=Ow (a:=bL (yl p p.length)) (b:=iv n) (c:=iv 0) TM z1 z2 Mt Mu Mv NE G1 G1 rfl rfl rfl;have hzl:(l.map AV.sc).length=4415:=by simpa using z2
 refine qV.qa func38 [.tmp 4] ntmps38 (λ_=>qv) λC w g root hroot=>?_;have fx:=qS;have p1:=hsc;have p2:=hca;refine j5 ?_
 repeat ((first|refine qf (id:=6) xq mixed ?_);refine kn ?_;refine j5 ?_)
 clear fx p1 p2;intro K hK;obtain⟨Cs,hCs⟩:∃ Cs,Cs=ql (ql (ql (l.map AV.sc) 0 [bL (yl p p.length)]) 2 [iv n]) 3 [iv 0]:=⟨_,rfl⟩;rw [<- hCs] at zF
 have hCl:Cs.length=4415:=by
  rw [hCs];simp [ql,hzl]
 have hCm:∀ y∈Cs,(∃ v,y=.sc v/\v.oneCell'=true)\/y=bL (yl p p.length):=by
  intro y hy;rw [hCs] at hy
  have hz:∀ y∈l.map AV.sc,∃ v,y=.sc v/\v.oneCell'=true:=λy hy=>by
   obtain⟨v,hv,rfl⟩:=wU.1 hy;exact⟨v,rfl,yS.1 z5 v hv⟩
  have key:∀ (L:List AV) (k:Nat) (a y:AV),y∈ql L k [a]->y=a\/y∈L:=λL k a y h=>by
   simp only [ql,ig,jo,yj] at h;rcases h with h|h|h
   .exact .inr (gJ h)
   .exact .inl h
   .exact .inr (List.mem_of_mem_drop h)
  rcases key _ _ _ _ hy with rfl|hy
  .exact .inl ⟨_,rfl,rfl⟩
  .rcases key _ _ _ _ hy with rfl|hy
   .exact .inl ⟨_,rfl,rfl⟩
   .rcases key _ _ _ _ hy with rfl|hy
    .exact .inr rfl
    .exact .inl (hz y hy)
 have hCo:Cs.all AV.one=true:=yS.2 λy hy=>by
  rcases hCm y hy with⟨v,rfl,hv⟩|rfl
  .exact hv
  .rfl
 have hCk:∀ y∈Cs,(∃ v,y=.sc v)\/∃ z rows,y=.sl z rows/\y.tr (kl (.s 15))=y:=λy hy=>by
  rcases hCm y hy with⟨v,rfl,hv⟩|rfl
  .exact .inl ⟨v,rfl⟩
  .exact .inr ⟨_,_,rfl,qB⟩
 have hns:∀ st:St,(St.kK (yt (Nm.c (.s 15) 0) (zY prog 145) 0 Cs) st).hp (.s 2)=st.hp (.s 2):=λst=>by rw [Fz,KZ λa e=>vQ]
 refine ww (z:=.agg Cs) qB zF ?_;refine wQ ?_;refine oz (.s 15) Yn (.inl rfl) (.inr (by simp [jb,hN])) ?_;refine qAV (cs:=Cs) qB (by simp [AV.cells,hCo]) 4415 hCl NF hCk ?_;refine Xo (λs=>s.tm 2=.pt (.s 2) 0/\s.hp (.s 2)=some (.row 1 [[vK p]])/\s.tm 5=vi p/\s.tm 15=.pt Yn 0/\er s.hp p n 0) ⟨by simp [GA],by simp [hns],by simp [GA],qB,?_⟩ ?_
 .rw [hCs];exact VG hzl z3 z4 TJ TK TL λk i j hk=>by simp [hN]
 rintro s ⟨t2,p2,t5,t15,hX⟩;have fx:=zC t2 p2 t5<|t15;refine qQ ?_
 repeat ((first|refine qf (id:=6) xq mixed ?_);refine zQ ?_;refine qQ ?_)
 clear fx;refine zU (λk s=>∃ b:Nat,k=p.length - b/\b<=p.length/\s.tm 2=.pt (.s 2) 0/\s.hp (.s 2)=some (.row 1 [[vK p]])/\s.tm 5=vi p/\s.tm 6=.pt Yn 0/\s.tm 18=iv p.length/\s.tm 19=iv b/\er s.hp p n b) p.length ?_ ?_
 .exact⟨0,qA,qA,bh,by simp [p2],rK,by simp [t15],qB,qB,hX⟩
 clear t2 p2 t5 t15 hX;rintro k s - - ⟨b,rfl,hb,t2,p2,t5,t6,t18,t19,hX⟩;obtain⟨R,hT,hRl,r1⟩:=hX.row;obtain⟨_,r1E⟩:=gS r1;have hcp:=hX.aK;by_cases hil:b<p.length
 .obtain⟨kk,hk⟩:=gX hil;have hcf:=PU gl p b kk hk hP.sh;have hb7:b<=7:=qA;have fx:=qr t2 p2 t5 t6 t18 t19 hil hT hRl r1 r1E hcp<|hb7;have p1:=hcf;refine j5 ?_
  repeat ((first|refine qf (id:=6) xq mixed ?_);refine kn ?_;refine j5 ?_)
  clear fx p1;have htk:(ui p b).take b=ui p b:=yU qB;have hap:ui p b++[[vJ (jr p b)]]=ui p (b+1):=Pq;exact⟨p.length - (b+1),qA,b+1,rfl,qA,bh,by simp [p2],rK,by simp [t6],by simp [t18],by simp [t19];exact qi qA qA,(have h:=hX;er.step h hT qH (by simp only [ix];exact⟨_,λj hj=>by simp [hj],rfl⟩) (by simp [<- hap,htk]))⟩
 .obtain rfl:b=p.length:=qA;have hO:=hX.own;have fx:=j2 t2 p2 t5 t6 t18<|t19;refine qQ ?_
  repeat ((first|refine qf (id:=6) xq mixed ?_);refine zQ ?_;refine qQ ?_)
  clear fx;intro K hK;have fx:=t6;refine tA (λk i j he=>by simp [jb,hN] at he) (hF:=qBK gl _ p n hP hn (by simp [Ii]) hO.sub) (h:=?_);rintro y H1 ⟨fr,hfr,hO1⟩;clear fx;have fx:=aI t6<|hT;refine qQ ?_
  repeat ((first|refine qf (id:=6) xq mixed ?_);refine zQ ?_;refine qQ ?_)
  clear fx;refine qG [] .nil qH ⟨qB,fr,hfr,qE.fin (have h:=hO1;qE.re h)⟩
abbrev Vw:qb:=pJ<|.l 14 []<|.done
theorem Mq {xs:List Int} {i:Nat} {v:Int} (h:i<xs.length):(xs.set i v).take (i+1)=xs.take i++[v]:=by
 rw [vM,List.take_set_of_le (qX _)];simp [h]
theorem B9 {A G G2:Prop} (k:G2) (x:A) (h:A->jP G2->G:=by
 intro fx kk;refine qQ ?_
 repeat ((first|refine qf (id:=9) Vw mixed ?_);refine zQ ?_;refine qQ ?_)
 exact kk.h):G:=h x ⟨k⟩
theorem qBJ (gl) (H:Nm->Option AO) (p:qC) (m:qU) (hg8:m.globals.length=8) (hol:m.out.length<=1000) (hO:qE H p m) :
  qV prog gl 39 DM [.pt Yn 0] H (λr y H'=>y=.agg ((⟨m.out,m.en,m.left,kx m.globals⟩:eu).own r)/\Co H' r ⟨m.out,m.en,m.left,kx m.globals⟩) qy:=by
 have hrow:∃ R:List AV,H Yn=some (.row 4415 [R])/\R.length=4415/\(R.drop 6).take 24=jN m.globals:=by
  obtain⟨J,hJ,e⟩:=hO.top;exact⟨_,e,nW (cJ hJ),qAv⟩
 obtain⟨R,hT,hRl,rtb⟩:=hrow;refine qV.qa func39 [.cell 2 40] ntmps39 (λ_=>qv) λC w g root hroot=>?_;have hr0:DM root=false:=hroot root (Nm.uH _);refine B9 ?_<|qk hT hRl<|rtb;have hmt:∀ F,((R.map (AV.tr F)).drop 6).take 24=jN m.globals:=λF=>by rw [<- List.map_drop,<- List.map_take,rtb,BQ]
 refine zU (λn st=>∃ (i:Nat) (xs:List Int),n=8 - i/\i<=8/\xs.length=8/\xs.take i=kx (m.globals.take i)/\st.tm 0=.pt Yn 0/\st.tm 2=.pt (.s 2) 0/\st.hp (.s 2)=some (.row 4 [[.hs (.c (.s 2) 0 0) 1 0 0,iv 0,iv 0,.hs (.c (.s 2) 0 3) 1 0 0]])/\st.tm 3=.hs (.s 3) 1 0 8/\st.hp (.s 3)=some (.row 1 (qm xs))/\st.tm 10=.agg (jN m.globals)/\st.tm 11=iv i/\qE st.hp p m) 8 ?_ ?_
 .exact⟨0,List.replicate 8 0,qA,qA,qB,by simp [kx],qB,qB,qB,qB,yO,by simp [ix,hmt],qB,fK⟩
 clear hT hRl rtb hmt hO;rintro n st - - ⟨i,xs,rfl,hi,hxl,hxs,t0,t2,hp2,t3,hp3,t10,t11,hO⟩;by_cases hil:i<8
 .obtain⟨s,hs⟩:∃ s,m.globals[i]?=some s:=⟨_,gE qA⟩;have hsa:zn m.globals i=s:=by simp [zn,hs]
  have hfl:((jN m.globals).drop (i * 3)).take 3=j6 s:=by rw [mC,<- hsa];exact Is hil
  have htk:kx (m.globals.take (i+1))=kx (m.globals.take i)++[match s with|some v=>Hm.shown v|none=>-9]:=by
   rw [vM,hs]
   cases s <;> simp [kx]
  have hi8:(i:Int)<8:=qA;have hi24:i * 3+3<=24:=qA;have hfn8:(jN m.globals).length=24:=Iu
  cases s with
  | none =>
   simp only [si] at hfl;refine B9 ?_<|qr t0 t2 hp2 t3 hp3 t10 t11 hi8 hil hxl hfl hi24<|hfn8;exact⟨8 - (i+1),qA,i+1,xs.set i (-9),rfl,qA,by simp [hxl],by rw [htk,<- hxs,Mq qA],kg,bh,jq,bG,uJ,by simp [t10],DZ,fK⟩
  | some v =>
   have hsh:=BY gl v;obtain⟨v1,v2⟩:=v;simp only [sj] at hfl;have fx:=qr t0 t2 hp2 t3 hp3 t10 t11 hi8 hil hxl hfl hi24<|hfn8;have c1:=hsh;refine B9 ?_<|@fx;clear fx c1;exact⟨8 - (i+1),qA,i+1,xs.set i (Hm.shown (v1,v2)),rfl,qA,by simp [hxl],by rw [htk,<- hxs,Mq qA],kg,bh,jq,bG,uJ,by simp [t10],DZ,fK⟩
 .have hge:i=8:=qA;subst hge
  have hxe:xs=kx m.globals:=by
   rw [yU qA,yU qA] at hxs;exact hxs
  have hrow:∃ R:List AV,st.hp Yn=some (.row 4415 [R])/\R.length=4415/\R[2]?=some (iv m.left)/\R[3]?=some (iv m.en)/\R[4]?=some (.hs (.c Yn 0 4) 1 0 m.out.length):=by
   obtain⟨J,hJ,e⟩:=hO.top;exact⟨_,e,nW (cJ hJ),N1,N2,N3⟩
  obtain⟨R,hT,hRl,r2,r3,r4⟩:=hrow;obtain⟨_,r2E⟩:=gS r2;obtain⟨_,r3E⟩:=gS r3;obtain⟨_,r4E⟩:=gS r4;have hU:=hO.out;have hsl:(kx m.globals).length=8:=by rw [<- hxe];exact hxl
  have h88:¬ (8:Int)<8:=qA;refine G7 (.c Yn 0 4) (.s 1) (.inl rfl) (.inl rfl) ?_;refine B9 ?_<|qr t0 t2 hp2 t3 hp3 t10 t11 h88 hT hU hRl r2<|zM r3 r4 r2E r3E<|r4E;refine qG [(.s 2,root)] (.one rfl) (by simp [t2];rfl) ⟨by simp [hsl],⟨by simp [hU,hr0],by simp [hp3,hxe,hr0]⟩⟩
theorem Rd (gl:Nat->Option (List AV)) (hgl:gl 4=some mZ) (p:qC) (f:Int) (hs:uA p):qM prog gl 16 [yu p,iv f] (λr y H'=>y=.agg ((iD p f).own r)/\Co H' r (iD p f)):=by
 refine qM.qa func16 [.cell 4 40] ntmps16 λC w g root=>?_
 cases hv0:ye p
 .have hv:fX p f=false:=by simp [fX,hv0]
  have hG:iD p f=⟨[],0,0,[]⟩:=by simp [iD,hv]
  rw [hG];have fx:= hv0;have c1:=hv0 ▸ BZ gl p hs;refine qQ ?_;clear fx c1;refine qG [(.s 4,root)] (.one rfl) qH ⟨qB,⟨qB,qB⟩⟩
 cases hv:fX p f
 .have hf:(decide (0<=f)&&decide (f<=150))=false:=by simpa [fX,hv0] using hv
  have hG:iD p f=⟨[],0,0,[]⟩:=by simp [iD,hv]
  rw [hG];have fx:=aI hv0<|hf;have c1:=hv0 ▸ BZ gl p hs;have c2:=hf ▸ xS gl f;refine qQ ?_;clear fx c1 c2;refine qG [(.s 4,root)] (.one rfl) qH ⟨qB,⟨qB,qB⟩⟩
 .obtain⟨hpo,n,rfl,hn⟩:=JE hv;have hP:=zq.of hs hpo;have hf:(decide (0<=(n:Int))&&decide ((n:Int)<=150))=true:=by simpa [fX,hv0] using hv
  obtain⟨hb1,hb2,hgl8⟩:=WZ (n:=n) hP hn;have hG:iD p n=CE (uP p n):=by simp [iD,hv]
  rw [hG];have hrs:(⟨(uP p n).out,(uP p n).en,(uP p n).left,kx (uP p n).globals⟩:eu)=CE (uP p n):=rfl;have fx:=aI hv0<|hf;have c1:=hv0 ▸ BZ gl p hs;have c2:=hf ▸ xS gl n;refine qQ ?_;clear fx c1 c2;intro K hK;have fx:=qS;refine tA (λk i j he=>BC) (hF:=TO gl hgl _ p n hP hn (by simp [jv])) (h:=?_);rintro y H1 ⟨rfl,fr,-,hO1⟩;clear fx;have hrf:=λH hO=>qBJ gl H p { uP p n with qW:=fr } hgl8 (by simp only;omega) hO;simp only [hrs] at hrf;refine qI ?_<|qS;have fx:=qS;refine oz (.c (.s 17) 0 0) (.s 1) (.inl rfl) (.inl rfl) ?_;refine oz (.c (.s 17) 0 3) (.s 3) (.inl rfl) (.inl rfl) ?_;refine tA (λk i j he=>BC) (hF:=hrf _ (have h:=hO1;qE.re h)) (h:=?_);rintro y H2 ⟨rfl,hR2⟩;clear fx;have r1:=hR2.out;have r2:=hR2.gl;refine qI ?_<|aI r1<|r2;refine qG [(.s 4,root)] (.one rfl) qH ⟨qB,⟨by simp [r1],by simp [r2]⟩⟩
end Go.Proofs.YtjgpejikjhojcaaGreatDoor
end
