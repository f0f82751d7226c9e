import Derived.Test.YtjgpejikjhojcaaGreatDoorD42
import Derived.Test.YtjgpejikjhojcaaGreatDoorD37
set_option linter.all false
set_option maxRecDepth 100000
set_option maxHeartbeats 4000000
open Option renaming some->Z,none->Y
open Bool renaming true->B,false->M
open List renaming length->O

section
namespace Go.Proofs.YtjgpejikjhojcaaGreatDoor
open Go Go.Hm Go.Proofs Tryz
abbrev Zs:qV:=wG<|.l 11 []<|.done
def LG:fM 9=M:=rfl
def lY{A G G2:Prop}(k:G2)(x:A)(h:A->jH G2->G:=by
 intro fx kk;refine qK ?_
 repeat((first|refine qP (id:=2) Zs mixed ?_);refine zC ?_;refine qK ?_)
 exact kk.h):G:=h x ⟨k⟩
def qFC(gl)(H:Nm->Option AO)(p:qC)(n:Nat)(hP:zi p)(hn:n<=150)(h9:H (.u 9 0 0)=Y)(hO:qF H p (jY n)):
  qX prog gl 76 DM [.pt Yn 0] H (λ_ _ H'=>∃fr,((fr=(yj p n).qN/\(yj p n).en≠0)\/((yj p n).qN=[]/\∃f,fr=[f]/\f.qG=0))/\qF H' p {yj p n with qN:=fr}) qw:=by
 have h0:=hO;have hp7:=hP.sh.len;obtain⟨N,n1,n2,n3⟩:=Bg hP hn
 have hN0:0<N:=by
  refine Nat.pos_of_ne_zero λe=>?_;subst e;exact qCJ hP n2
 have hh0:(zQ p 0).params=[]:=qCK hP;refine qX.q9 func76 [] ntmps76 (λ_=>zF) λC w g root hroot=>?_;refine qDz 0 rfl (λk s=>∃i:Nat,k=N-i/\i<N/\s.tm 0=.pt Yn 0/\s.hp (.u 9 0 0)=Y/\qF s.hp p (zV p i (zX p n))) ?_ ?_
 .obtain⟨J,hJ,hT⟩:=hO.top;refine lY ?_<| hT;intro K hK;have fx:=hT;refine jI h0 (have h:=hO;qF.re h) iA (hF:=λhO=>(JA gl _ p (jY n) 0 [] [] qA qA qB qB iA iA iA iA (.inl hh0) (by rw[hh0];rfl) iA iA hO).W8) (h:=?_);rintro y H1 hO1;clear fx;replace hO1:qF H1 p (zV p 0 (zX p n)):=hO1;refine lY ?_<| hT;exact⟨N,0,qA,hN0,zG,Aq,(have h:=hO1;qF.re h)⟩
 rintro k s - - ⟨i,rfl,hi,t0,h9,hO⟩;have hne:=n1 i hi;obtain⟨fs,f,hfr,hM⟩:=(sE hP hn i).resolve_left hne
 have hen:(zV p i (zX p n)).en=0:=by
  by_cases h:(zV p i (zX p n)).en=0
  .exact h
  .exact absurd (.inr h) hne
 have hsn:=IE i hne;have hc0:∀i,O (jY n).cells<=i:=λi=>iA;generalize hmm:zV p i (zX p n)=m at *;have hmt:m=m.top fs f:=by cases m;simp only[qR.top]at hfr ⊢;rw[hfr]
 have hol:=sA (p:=p) (b:=f.qG) hP.sh;have hpc:=hM.top.pc;have hdp:=hM.deep;have hmd:=hM.made;have hp:=hM.top.qG;have hfl:O fs<=150:=qA;obtain⟨kk,hk⟩:=gX hp;have hcd:(jo p (O p))[f.qG]?=Z (zQ p f.qG):=Av;obtain⟨hcdl,hcdE⟩:=gS hcd;have hco:(zQ p f.qG).ops=zS p f.qG:=gz
 have hnx:(zV p (i+1) (zX p n)).en=0->(zV p (i+1) (zX p n)).qN≠[]->i+1<N:=λh1 h2=>by
  rcases dN (i+1) N with h|h
  .exact h
  .have e:i+1=N:=qA;rw[e]at h1 h2;rcases n2 with h|h
   .exact absurd h h2
   .exact absurd h1 h
 obtain⟨R,j,hT,tr,-⟩:=hO.yX hfr qA;refine lY ?_<| t0;intro K hK;have fx:=t0;refine jI h0 (have h:=hO;qF.re h) (hc0 _) (hF:=λ_=>Eo gl DM (λ_=>zF) rfl _ R (O fs) zG tr.h qA) (h:=?_);intro y H1 hw;clear fx;have hO1:=qF.EU hO hw;obtain⟨rfl,-⟩:=hw;refine qH ?_<|aI t0<|hT;refine uR (λs=>s.tm 0=.pt Yn 0/\s.tm 2=.pt Yn (yo (O fs))/\s.hp (.u 9 0 0)=Y/\qF s.hp p m) ⟨wP,zG,Aq,(have h:=hO1;qF.re h)⟩ ?_;clear t0 h9 hO hT tr hO1;rintro s ⟨t0,t2,h9,hO⟩;obtain⟨R,j,hT,tr,h2,h3,h28⟩:=hO.yX hfr qA;have hRl:=tr.len;have r0:=tr.r0;have f0:=tr.f0;have f1:=tr.f1;have rh:=tr.h;obtain⟨_,r0E⟩:=gS r0;obtain⟨_,rhE⟩:=gS rh;obtain⟨f0l,f0E⟩:=gS f0;obtain⟨f1l,f1E⟩:=gS f1
 cases ho:(zS p f.qG)[f.pc]? with
 |none=>
  have hpe:f.pc=O (zS p f.qG):=by have:=List.getElem?_eq_none_iff.1 ho;omega
  have hres:wI p m=an p m fs f:=Hm.step_end hfr ho;by_cases hfs:fs=[]
  .subst hfs;have hb0:f.qG=0:=hM.b0 f qB
   have hk0:jk p f.qG=0:=by
    have:=(hP.sh.ei hk).2 hb0;simp[jk,hk,this]
   have hend:an p m [] f={m with qN:=[]}:=by
    simp only[an,hk0]
    rfl
   simp only[mG]at t2 f0 f0E f0l f1 f1E f1l rh rhE;have e1:(zV p (i+1) (zX p n)).ended:=.inl (by rw[hsn,hres,hend]);have hnil:(yj p n).qN=[]:=by rw[<- Be e1,hsn,hres,hend]
   have hlast:{yj p n with qN:=[f]}=m:=by
    rw[<- Be e1,hsn,hres,hend]
    cases m
    simp only at hfr;simp[hfr]
   refine lY ?_<|qg t0 t2 hT hRl r0 r0E f0 f0E f0l f1 f1E f1l<|zy rh rhE hcd hcdl hcdE hco<|hpe;refine Us (yu [] .nil qD ⟨[f],.inr ⟨hnil,f,rfl,hb0⟩,?_⟩);rw[hlast];exact qF.fin (have h:=hO;qF.re h)
  .obtain⟨gs,g0,rfl⟩:∃gs g0,fs=gs++[g0]:=⟨fs.dropLast,fs.getLast hfs,(mJ hfs).symm⟩;simp only[u7,aG]at t2 f0 f0E f0l f1 f1E f1l rh rhE hfl;have hlow:=hM.low g0 qB;have hlo1:=hlow.sl;have hlo2:=hlow.pc;have hlo3:=sA (p:=p) (b:=g0.qG) hP.sh;have hnk:=hM.nk;have hyf:=λH hO=>QM gl H p m gs g0 f (0,0) hp qA qA qA hO;have hee:(if jk p f.qG=2 then vK {m with qU:=m.qU++[f.names]} (gs++[g0]) (3,O m.qU)else vK m (gs++[g0]) (0,0))=zV p (i+1) (zX p n):=by rw[hsn,hres];rfl
   rw[hee]at hyf;have hgt:((O gs:Int)+1+1 > 1):=qA;refine lY ?_<|qg t0 t2 hT hRl r0 r0E f0 f0E f0l f1 f1E f1l<|jA rh rhE hcd hcdl hcdE hco hpe<|hgt;intro K hK;have fx:=aI t0 t2;refine jI h0 (have h:=hO;qF.re h) (hc0 _) (hF:=λhO=>hyf _ (by rw[<- hmt];exact hO)) (h:=?_);intro y H1 hO1;clear fx;have hlt:=hnx (by rw[hsn,hres,<- hen];simp only[an];split<;>exact M0) (by rw[hsn,hres];simp only[an];split<;>exact M1 hfs);refine lY ?_<|ql t0 t2<|hT;refine Pi ?_
   repeat'(first|refine P6 ?_|refine MB ?_)
   exact⟨N-(i+1),qA,i+1,rfl,hlt,wP,Aq,(have h:=hO1;qF.re h)⟩
 |some o=>
  obtain⟨hol2,hoE⟩:=gS ho;have hres:wI p m=yD p m fs f.next o:=Hm.CE hfr ho;have hpl:(f.pc:Int)<(O (zS p f.qG):Int):=qA;have hwp:IntKind.i64.wrap ((f.pc:Int)+1)=((f.pc+1:Nat):Int):=qk qA qA;refine lY ?_<|qg t0 t2 hT hRl r0 r0E f0 f0E f0l f1 f1E f1l<|y9 hcd hcdl hcdE hco hpl hwp ho hoE<|hol2;intro K hK;have hpc1:(f.pc:Int)+1=((f.pc+1:Nat):Int):=qA;refine uM (λs=>s.tm 0=.pt Yn 0/\s.tm 33=.pt Yn 0/\s.tm 34=.pt Yn (yo (O fs))/\s.tm 35=B5 (zS p f.qG)/\s.tm 38=.pt Yn (yo (O fs)+1)/\s.hp (.u 9 0 0)=Y/\qF s.hp p (m.top fs f.next)) ⟨ku,ku,kx,qB,kx,dV,?_⟩ ?_
  .refine qF.Ps hO hfr (m':=m.top fs f.next) (g:=f.next) rfl hT (g3:=⟨[],by simp[qO.next]⟩) (λJ hJ e=>?_);rw[CC,e,hpc1];exact El (fs:=fs++[f]) (i:=O fs) (f:=f) (g:=f.next) (j:=1) hJ qB qA qB qEy |>.trans qD
  clear t0 t2 h9 hO hT tr h2 h3 h28 hRl r0 f0 f1 rh r0E rhE f0l f0E f1l f1E;rintro s ⟨t0,t33,t34,t35,t38,h9,hO⟩;obtain⟨R,j,hT,tr,-⟩:=hO.yX rfl qA;have f1:R[yo (O fs)+1]?=Z (iv ((f.pc:Int)+1)):=by rw[tr.f1];rfl
  have yoh:yo (O fs)+29<=4415:=kP;obtain⟨f1l,f1E⟩:=gS f1;have hwq:IntKind.i64.wrap (f.pc:Int)=f.pc:=qk qA qA;rw[hres]at hsn;have hOr:=Dx hP.sh hk o (gM ho)
  have hne20:o.1=20->fs≠[]:=λh e=>by
   subst e;have h1:=hM.b0 f qB;have h2:=hOr.ret h;have h3:=(hP.sh.ei hk).2 h1;simp[jk,hk,h3]at h2
  refine lY ?_<|qg t0 t33 t34 t35 t38 hT f1 f1E f1l ho hoE hol2<|aI hwq<|yoh;have fx:=aI t0 (aI t33 t34);refine jI h0 (have h:=hO;qF.re h) (hc0 _) (hF:=λhO=>qFD gl _ p m fs f o hP hM ho hen Aq hO) (h:=?_);rintro y H1 ⟨rfl,hO1⟩;clear fx;rw[<- hsn]at hO1;by_cases he:(yD p m fs f.next o).en=0
  .have hlt:=hnx (by rw[hsn];exact he) (by rw[hsn];exact XI hOr.code hne20);refine lY ?_<|ql t0 hT<|he;refine Pi ?_
   repeat'(first|refine P6 ?_|refine MB ?_)
   exact⟨N-(i+1),qA,i+1,rfl,hlt,wP,Aq,(have h:=hO1;qF.re h)⟩
  .have e1:(zV p (i+1) (zX p n)).ended:=.inr (by rw[hsn];exact he);rw[Be e1]at hO1;refine lY ?_<|ql t0 hT<|he;refine Ut (qE [] .nil qD ⟨(yj p n).qN,.inl ⟨rfl,by rw[<- Be e1,hsn];exact he⟩,?_⟩);exact qF.fin (have h:=hO1;qF.re h)
def SC(gl)(p:qC)(b:Nat)(k:qY)(hk:p[b]?=Z k)(hP:zw p):qL prog gl 75 [jB p,uI p,iv b] (λr y H'=>y=.hs r 1 0 (O (jD p b))/\H' r=Z (.row 1 (qh (jD p b)))):=by
 have qv:=(gS hk).1;obtain⟨_,hkE⟩:=gS hk;have hlen:=hP.len;have hf8:=iL (p:=p) (b:=b);have hcl:=xA (p:=p) (b:=b);have hcl2:O (jD p b)=O (za p b):=by simp[jD]
 have hfr:=G6 gl p hP b qv;refine qL.q9 func75 [.tmp 6] ntmps75 λC w g root=>?_;have fx:=qW;have d1:=hfr;refine qK ?_;clear fx d1;refine zK (λn st=>∃i:Nat,n=O (za p b)-i/\i<=O (za p b)/\st.tm 1=uI p/\st.tm 2=iv b/\st.tm 3=.pt (.s 3) 0/\st.hp (.s 3)=Z (.row 1 [[j6 p]])/\st.tm 7=.hs (.s 7) 1 0 i/\st.hp (.s 7)=Z (.row 1 (qh ((jD p b).take i)))/\st.tm 12=.hs (.s 12) 1 0 (O (za p b))/\st.hp (.s 12)=Z (.row 1 (qh (za p b)))/\st.tm 13=iv (O (za p b))/\st.tm 14=iv i) (O (za p b)) ?_ ?_
 .exact⟨0,qA,qA,qB,qB,qB,qB,qB,qB,qB,qB,qB,qB⟩
 rintro n st - - ⟨i,rfl,hi,t1,t2,t3,p3,t7,p7,t12,p12,t13,t14⟩;by_cases hil:i<O (za p b)
 .obtain⟨x,hx⟩:=gX hil;obtain⟨_,hxE⟩:=gS hx;have hb0:=BH (gM hx);obtain⟨h1,h2,h3⟩:=hP.jK b k hk;have h4:=h3 hb0;obtain⟨c,hc⟩:∃c:Nat,k.parent=c:=⟨k.parent.toNat,qA⟩;obtain⟨kc,hkc⟩:∃kc,p[c]?=Z kc:=⟨_,gE qA⟩;have hpa:wE p b=c:=by simp[wE,hk,hc]
  have hx8:∃a:Nat,x=a/\a<8:=by
   have hm:=gM hx;obtain⟨-,hm0,hm7⟩:=Hm.mem_sorted.1 (show x∈Hm.sorted (wt p b (O p - b))from hm);exact⟨x.toNat,qA,qA⟩
  obtain⟨a,rfl,ha8⟩:=hx8;have hcp:=Gc gl p hP c kc hkc a ha8;have htl:O ((jD p b).take i)=i:=by simp[jD];omega
  have hi8:i<=8:=qA;have fx:=qg t1 t2 t3 p3 t7 p7 t12 p12 t13 t14 hil hk<|zy hkE qv hc hx hxE htl<|hi8;have c1:=hcp;refine qK ?_;clear fx c1
  have e1:(jD p b).take (i+1)=(jD p b).take i++[cn p c a]:=by
   rw[vd];simp[jD,hx,hpa]
  have e2:qh ((jD p b).take i)++[[iv (cn p c a)]]=qh ((jD p b).take (i+1)):=by rw[e1];simp[qh]
  refine⟨O (za p b)-(i+1),qA,i+1,rfl,qA,oX,kx,cg,by simp[p3],qB,?_,by simp[t12],by simp[p12],by simp[t13],by simp[t14];exact qk qA qA⟩;simp[<- e2];rw[jg qp]
 .obtain rfl:i=O (za p b):=qA;have htk:(jD p b).take (O (za p b))=jD p b:=jg qA;rw[htk]at p7;refine qH ?_<|ya t1 t2 t3 p3 t7 p7 t12 p12 t13<|t14;exact yg (t:=6) KN KN qB
def SB(gl)(p:qC)(b:Nat)(k:qY)(hk:p[b]?=Z k)(hP:zw p):qL prog gl 75 [jB p,uI p,iv b] (λ_ y _=>y=jO (jD p b)):=
 (SC gl p b k hk hP).settle λr y H' hr=>⟨jO (jD p b),by rw[hr.1];exact ea hr.2 rfl,rfl⟩
abbrev Bd:qV:=bB<|.l 8 [4,3,2,1,0]<|.l 9 [4,3,2,1,0]<|.l 10 [0]<|.q 11<|.q 12<|.l 13 []<|.done
def WB:∃l,yH prog 145=Z l/\O l=4415/\(l.map AV.sc).take 32=[.sc (.slice Y 0 0),.sc (.slice Y 0 0),iv 0,iv 0,.sc (.slice Y 0 0),.sc (.slice Y 0 0)]++(jy jZ++[.sc (.slice Y 0 0),.sc (.slice Y 0 0)])/\(l.map AV.sc).drop 4411=[iv 0,iv 0,iv 0,iv 0]/\l.all Value.oneCell'=B:=by
 have h:(yH prog 145).isSome=B:=qc;have h1:(yH prog 145).map List.length=Z 4415:=qc;have h2:(yH prog 145).map (λl=>(l.map AV.sc).take 32)=Z ([.sc (.slice Y 0 0),.sc (.slice Y 0 0),iv 0,iv 0,.sc (.slice Y 0 0),.sc (.slice Y 0 0)]++(jy jZ++[.sc (.slice Y 0 0),.sc (.slice Y 0 0)])):=qc;have h3:(yH prog 145).map (λl=>(l.map AV.sc).drop 4411)=Z [iv 0,iv 0,iv 0,iv 0]:=qc;have h4:(yH prog 145).map (λl=>l.all Value.oneCell')=Z B:=qc;obtain⟨l,hl⟩:=CU.1 h;rw[hl]at h1 h2 h3 h4;exact⟨l,hl,sI h1,sI h2,sI h3,sI h4⟩
def Vx:∀k,(k=1\/k=4)->(zb prog 145).getD k 0=1:=by
 rintro k (rfl|rfl)<;>kernel_rfl
def Vy:∀k,(k=5\/k=30)->(zb prog 145).getD k 0=2:=by
 rintro k (rfl|rfl)<;>kernel_rfl
def Vz:(zb prog 145).getD 31 0=24:=qc
def WA:vC prog 145=B:=qc
def qBE(gl)(p:qC)(hP:zw p):qL prog gl 60 [jB p] (λ_ y _=>y=uI p):=
 (EQ gl p hP.bc hP.jK hP.names).settle λr y H' hr=>⟨uI p,by rw[hr.1];exact C9 hr.2 hP.jK rfl,rfl⟩
def S8(gl:Nat->Option (List AV))(hgl:gl 4=Z iJ)(p:qC)(hP:zw p):qL prog gl 74 [jB p,uI p] (λ_ y _=>y=kS (jo p (O p))):=
 (U7 gl hgl p hP).settle λr y H' hr=>⟨kS (jo p (O p)),by rw[hr.1];exact gt hr.2 rfl,rfl⟩
def Mc(gl:Nat->Option (List AV))(hgl:gl 4=Z iJ)(H:Nm->Option AO)(p:qC)(n:Nat)(hP:zi p)(hn:n<=150)(hN:∀k i j,H (.u k i j)=Y):
  qX prog gl 38 DM [jB p,iv n] H (λ_ y H'=>y=.pt Yn 0/\∃fr,((fr=(yj p n).qN/\(yj p n).en≠0)\/((yj p n).qN=[]/\∃f,fr=[f]/\f.qG=0))/\qF H' p {yj p n with qN:=fr}) qw:=by
 have hp7:=hP.sh.len;have hsc:=qBE gl p hP.sh;have hca:=S8 gl hgl p hP.sh;obtain⟨l,z1,z2,z3,z4,z5⟩:=WB;have qv:=R7 (a:=kS (jo p (O p))) (b:=iv n) (c:=iv 0) WA z1 z2 P2 P3 P4 Pb Ii Ii rfl rfl rfl;have hzl:O (l.map AV.sc)=4415:=by simpa using z2
 refine qX.q9 func38 [.tmp 4] ntmps38 (λ_=>zF) λC w g root hroot=>?_;have fx:=qW;have p1:=hsc;have p2:=hca;refine zk ?_
 repeat((first|refine qP (id:=6) Bd mixed ?_);refine vk ?_;refine zk ?_)
 clear fx p1 p2;intro K hK;obtain⟨Cs,hCs⟩:∃Cs,Cs=qq (qq (qq (l.map AV.sc) 0 [kS (jo p (O p))]) 2 [iv n]) 3 [iv 0]:=⟨_,rfl⟩;rw[<- hCs]at qv
 have hCl:O Cs=4415:=by
  rw[hCs];simp[qq,hzl]
 have hCm:∀y∈Cs,(∃v,y=.sc v/\v.oneCell'=B)\/y=kS (jo p (O p)):=by
  intro y hy;rw[hCs]at hy
  have hz:∀y∈l.map AV.sc,∃v,y=.sc v/\v.oneCell'=B:=λy hy=>by
   obtain⟨v,hv,rfl⟩:=wi.1 hy;exact⟨v,rfl,yn.1 z5 v hv⟩
  have key:∀(L:List AV)(k:Nat)(a y:AV),y∈qq L k [a]->y=a\/y∈L:=λL k a y h=>by
   simp only[qq,gm,yI,vG]at h;rcases h with h|h|h
   .exact .inr (mH h)
   .exact .inl h
   .exact .inr (List.mem_of_mem_drop h)
  rcases key _ _ _ _ hy with rfl|hy
  .exact .inl ⟨_,rfl,rfl⟩
  .rcases key _ _ _ _ hy with rfl|hy
   .exact .inl ⟨_,rfl,rfl⟩
   .rcases key _ _ _ _ hy with rfl|hy
    .exact .inr rfl
    .exact .inl (hz y hy)
 have hCo:Cs.all AV.one=B:=yn.2 λy hy=>by
  rcases hCm y hy with⟨v,rfl,hv⟩|rfl
  .exact hv
  .rfl
 have hCk:∀y∈Cs,(∃v,y=.sc v)\/∃z rows,y=.sl z rows/\y.tr (kl (.s 15))=y:=λy hy=>by
  rcases hCm y hy with⟨v,rfl,hv⟩|rfl
  .exact .inl ⟨v,rfl⟩
  .exact .inr ⟨_,_,rfl,qB⟩
 have hns:∀st:St,(St.ki (vX (Nm.c (.s 15) 0) (zb prog 145) 0 Cs) st).hp (.s 2)=st.hp (.s 2):=λst=>by rw[IQ,NB λa e=>vi]
 refine wc (z:=.agg Cs) qB qv ?_;refine kh ?_;refine dC (.s 15) Yn (.inl rfl) (.inr (by simp[jt,hN])) ?_;refine qEP (cs:=Cs) qB (by simp[AV.cells,hCo]) 4415 hCl Pc hCk ?_;refine qAu (λs=>s.tm 2=.pt (.s 2) 0/\s.hp (.s 2)=Z (.row 1 [[j6 p]])/\s.tm 5=uI p/\s.tm 15=.pt Yn 0/\gV s.hp p n 0) ⟨by simp[IR],by simp[hns],by simp[IR],qB,?_⟩ ?_
 .rw [hCs];exact Xs hzl z3 z4 Vx Vy Vz λk i j hk=>by simp[hN]
 rintro s ⟨t2,p2,t5,t15,hX⟩;have fx:=qz t2 p2 t5<|t15;refine qK ?_
 repeat((first|refine qP (id:=6) Bd mixed ?_);refine zC ?_;refine qK ?_)
 clear fx;refine zK (λk s=>∃b:Nat,k=O p-b/\b<=O p/\s.tm 2=.pt (.s 2) 0/\s.hp (.s 2)=Z (.row 1 [[j6 p]])/\s.tm 5=uI p/\s.tm 6=.pt Yn 0/\s.tm 18=iv (O p)/\s.tm 19=iv b/\gV s.hp p n b) (O p) ?_ ?_
 .exact⟨0,qA,qA,kx,by simp[p2],ee,by simp[t15],qB,qB,hX⟩
 clear t2 p2 t5 t15 hX;rintro k s - - ⟨b,rfl,hb,t2,p2,t5,t6,t18,t19,hX⟩;obtain⟨R,hT,hRl,r1⟩:=hX.row;obtain⟨_,r1E⟩:=gS r1;have hcp:=hX.vI;by_cases hil:b<O p
 .obtain⟨kk,hk⟩:=gX hil;have hcf:=SB gl p b kk hk hP.sh;have hb7:b<=7:=qA;have fx:=qg t2 p2 t5 t6 t18 t19 hil hT hRl r1 r1E hcp<|hb7;have p1:=hcf;refine zk ?_
  repeat((first|refine qP (id:=6) Bd mixed ?_);refine vk ?_;refine zk ?_)
  clear fx p1;have htk:(kE p b).take b=kE p b:=jg qB;have hap:kE p b++[[jO (jD p b)]]=kE p (b+1):=Sc;exact⟨O p-(b+1),qA,b+1,rfl,qA,kx,by simp[p2],ee,mR,by simp[t18],by simp[t19];exact qk qA qA,(have h:=hX;gV.step h hT qD (by simp only[o8];exact⟨_,λj hj=>by simp[hj],rfl⟩) (by simp[<- hap,htk]))⟩
 .obtain rfl:b=O p:=qA;have hO:=hX.own;have fx:=zx t2 p2 t5 t6 t18<|t19;refine qK ?_
  repeat((first|refine qP (id:=6) Bd mixed ?_);refine zC ?_;refine qK ?_)
  clear fx;intro K hK;have fx:=t6;refine sR (λk i j he=>by simp[jt,hN]at he) (hF:=qFC gl _ p n hP hn (by simp[LG]) hO.sub) (h:=?_);rintro y H1 ⟨fr,hfr,hO1⟩;clear fx;have fx:=aI t6<|hT;refine qK ?_
  repeat((first|refine qP (id:=6) Bd mixed ?_);refine zC ?_;refine qK ?_)
  clear fx;refine qE [] .nil qD ⟨qB,fr,hfr,qF.fin (have h:=hO1;qF.re h)⟩
end Go.Proofs.YtjgpejikjhojcaaGreatDoor
end
section

end
section
namespace Go.Proofs.YtjgpejikjhojcaaGreatDoor
open Go Go.Hm Go.Proofs Tryz
abbrev Zo:qV:=bB<|.l 8 [7,6,5,4]<|.l 9 []<|.done
def U2(gl:Nat->Option (List AV))(hgl:gl 4=Z iJ)(p:qC)(f:Int)(hs:jm p):qL prog gl 52 [jB p,iv f] (λ_ y _=>y=iv (DN p f)):=by
 refine qL.q9 func52 [.tmp 4] ntmps52 λC w g root=>?_
 cases hv0:j2 p
 .have hv:kZ p f=M:=by simp[kZ,hv0]
  have fx:=hv0;have c1:=hv0 ▸ df gl p hs;refine qK ?_;clear fx c1;refine qE [] .nil qD tu
 cases hv:kZ p f
 .have hf:(decide (0<=f)&&decide (f<=150))=M:=tT;have fx:=aI hv0<|hf;have c1:=hv0 ▸ df gl p hs;have c2:=hf ▸ xL gl f;refine qK ?_;clear fx c1 c2;refine qE [] .nil qD tu
 .obtain⟨hpo,n,rfl,hn⟩:=BI hv;have hP:=zi.of hs hpo;have hf:(decide (0<=(n:Int))&&decide ((n:Int)<=150))=B:=tT;obtain⟨hb1,hb2,hgl8⟩:=Bf (n:=n) hP hn;have fx:=aI hv0<|hf;have c1:=hv0 ▸ df gl p hs;have c2:=hf ▸ xL gl n;refine qK ?_;clear fx c1 c2;intro K hK;have fx:=qW;refine sR (λk i j he=>A6) (hF:=Mc gl hgl _ p n hP hn mP) (h:=?_);rintro y H1 ⟨rfl,fr,-,hO1⟩;clear fx
  obtain⟨R,hT,hRl,r5⟩:∃R,H1 Yn=Z (.row 4415 [R])/\O R=4415/\R[4414]?=Z (iv (O (yj p n).cells)):=by
   obtain⟨J,hJ,e⟩:=hO1.top;exact⟨_,e,pW (bI hJ),QB (bI hJ)⟩
  obtain⟨_,r5E⟩:=gS r5;refine qH ?_<|qz hT hRl r5<|r5E;refine qE [] .nil qD tu
def De{A G G2:Prop}(k:G2)(x:A)(h:A->jH G2->G:=by
 intro fx kk;refine qK ?_
 repeat((first|refine qP (id:=4) Zo mixed ?_);refine zC ?_;refine qK ?_)
 exact kk.h):G:=h x ⟨k⟩
def U3(gl:Nat->Option (List AV))(hgl:gl 4=Z iJ)(p:qC)(f:Int)(hs:jm p):qL prog gl 53 [jB p,iv f] (λ_ y _=>y=.zT [iv (xH p f).1,iv (xH p f).2]):=by
 refine qL.q9 func53 [.tmp 4,.tmp 5] ntmps53 λC w g root=>?_
 cases hv0:j2 p
 .have hv:kZ p f=M:=by simp[kZ,hv0]
  have fx:=hv0;have c1:=hv0 ▸ df gl p hs;refine De ?_<|@fx;clear fx c1;refine qE [] .nil qD tg
 cases hv:kZ p f
 .have hf:(decide (0<=f)&&decide (f<=150))=M:=tT;have fx:=aI hv0<|hf;have c1:=hv0 ▸ df gl p hs;have c2:=hf ▸ xL gl f;refine De ?_<|@fx;clear fx c1 c2;refine qE [] .nil qD tg
 .obtain⟨hpo,n,rfl,hn⟩:=BI hv;have hP:=zi.of hs hpo;have hf:(decide (0<=(n:Int))&&decide ((n:Int)<=150))=B:=tT;obtain⟨hb1,hb2,hgl8⟩:=Bf (n:=n) hP hn;have fx:=aI hv0<|hf;have c1:=hv0 ▸ df gl p hs;have c2:=hf ▸ xL gl n;refine De ?_<|@fx;clear fx c1 c2;intro K hK;have fx:=qW;refine sR (λk i j he=>A6) (hF:=Mc gl hgl _ p n hP hn mP) (h:=?_);rintro y H1 ⟨rfl,fr,-,hO1⟩;clear fx
  obtain⟨R,hT,hRl,r5,r6⟩:∃R,H1 Yn=Z (.row 4415 [R])/\O R=4415/\R[4413]?=Z (iv (yj p n).made)/\R[4412]?=Z (iv (yj p n).deep):=by
   obtain⟨J,hJ,e⟩:=hO1.top;exact⟨_,e,pW (bI hJ),QA (bI hJ),Pz (bI hJ)⟩
  obtain⟨_,r5E⟩:=gS r5;obtain⟨_,r6E⟩:=gS r6;refine De ?_<|zx hT hRl r5 r5E r6<|r6E;refine qE [] .nil qD tg
end Go.Proofs.YtjgpejikjhojcaaGreatDoor
end
