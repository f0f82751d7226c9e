import Derived.Test.YtjgpejikjhojcaaGreatDoorD19
set_option linter.all false
set_option maxRecDepth 100000
set_option maxHeartbeats 4000000
open Option renaming some->Z,none->Y
open Bool renaming true->B,false->M
open List renaming length->O

section
namespace Go.Hm
open Go Go.RowKit
variable{F:Nm->Option Nm}{T:TypeId}{cs:List Nat}{st:St}{vs:List q8}{z:Nat}
def qDz{X:Ctx}{Q:Ex->St->Prop}{A B':Code}(l:Nat)(hA:findLabel A l=Y)(I:Nat->St->Prop)(h0:jJ X A (thenS (λs=>∃n,I n s) (rp l (λ_=>False) Q)) st)
  (hpass:∀n s,s.n=X.n->s.gl=X.gl->I n s->jJ X B' (rp l (λs'=>∃m,m<n/\I m s') Q) s):jJ X (.scope (.seq A (.seq (.label l) B'))) Q st:=by
 refine qDy l (rest:=.seq .skip B') (by simp[findLabel,hA]) I ?_ λn s h1 h2 hI=>wL (aZ (wK (hpass n s h1 h2 hI)));refine wL (h0.mono λe s he=>?_)
 cases e with
 |normal=>
  obtain⟨n,hI⟩:=he;intro a w hR;have hR1:=hR;obtain⟨C,g,x1,x2,x3,x4,x5,x6⟩:=hR1;refine wL (pS (wK ((hpass n s x3 x4 hI).mono λe s he=>?_))) a w hR
  cases e with
  |goto l'=>
   obtain⟨e1,m,_,hm⟩:=he;exact⟨e1,m,hm⟩
  |normal=>exact he
  |exit id=>exact he
  |ret=>exact he
  |b9 x=>exact he
 |goto l'=>exact he.2.elim
 |exit id=>exact he
 |ret=>exact he
 |b9 x=>exact he
theorem IJ{g:Gh}{w:World}{v:Value}(h:RV g w v (.sc (.slice Y 0 0))):RV g w v (.sl z []):=by
 rw[h.jF];exact .yV _ _ _
theorem qX.args{P:Program}{gl:Nat->Option (List AV)}{f:FuncId}{D:Nm->Bool}{az az':List AV}{H:Nm->Option AO}{R E:Nm->AV->(Nm->Option AO)->Prop}(h:qX P gl f D az H R E)
  (hl:O az'=O az)(ha:∀(j:Nat)x',az[j]?=Z x'->∃x,az'[j]?=Z x/\∀g w v,RV g w v x->RV g w v x'):qX P gl f D az' H R E:=by
 refine⟨h.1,λroot C w g args h1 h2 h3 h4 h5 h6 h7=>h.2 root C w g args h1 h2 h3 h4 h5 (by rw[h6,hl]) λj v x' hv hx=>?_⟩
 grind
section
variable{p:qC}{f:qO}{nf nk nc e b:Nat}{k:qY}{P:Program}{gl:Nat->Option (List AV)}{c:FuncId}{D:Nm->Bool}{x y:AV}{cs:List (List AV)}{z z':Nat}{H:Nm->Option AO}{R E:Nm->AV->(Nm->Option AO)->Prop}
theorem Rz(hh:ze p)(h:mB p nf nk nc f e)(hk:p[b]?=Z k)(hpar:k.parent=f.qG):∀y∈jD p b,∃q:Nat,y=q/\q<O f.cells:=by
 grind[ko,GG,jQ]
theorem qX.W9(h:qX P gl c D [x,y,.sl z cs,.sl z' []] H R E):qX P gl c D [x,y,.sl z cs,.sc (.slice Y 0 0)] H R E:=
 h.args rfl λj a ha=>match j,ha with
  |0,ha=>⟨_,rfl,λ_ _ _ hv=>qQ⟩
  |1,ha=>⟨_,rfl,λ_ _ _ hv=>qQ⟩
  |2,ha=>⟨_,rfl,λ_ _ _ hv=>qQ⟩
  |3,ha=>⟨_,rfl,λ_ _ _ hv=>by grind[IJ]⟩
  |j+4,ha=>by simp at ha
theorem qX.W8(h:qX P gl c D [x,y,.sl z [],.sl z' []] H R E):qX P gl c D [x,y,.sc (.slice Y 0 0),.sc (.slice Y 0 0)] H R E:=
 h.args rfl λj a ha=>match j,ha with
  |0,ha=>⟨_,rfl,λ_ _ _ hv=>qQ⟩
  |1,ha=>⟨_,rfl,λ_ _ _ hv=>qQ⟩
  |2,ha=>⟨_,rfl,λ_ _ _ hv=>by grind[IJ]⟩
  |3,ha=>⟨_,rfl,λ_ _ _ hv=>by grind[IJ]⟩
  |j+4,ha=>by simp at ha
end
section
variable{st:St}{N V m n:Nm}{d t:Nat}{D:Nm->Bool}{hp hp' H':Nm->Option AO}
theorem W1{y:AV}(hV:V.z6=B)(hNV:Nm.under V N=M)(hDN:∀k,Nm.under N k=B->D k=B)(hDV:∀k,Nm.under V k=B->D k=M)(hF:∀k,(D k||Nm.under V k)=B->F k=Z k)
  (hR:∀k,(D k||Nm.under V k)=B->H' k=(zU (λk=>D k||Nm.under V k) (jP N V st.hp) k).map (AO.tr F)):
  u6 D ((((st.move N V).call d (λk=>D k||Nm.under V k) (zU (λk=>D k||Nm.under V k) (st.move N V).hp) H').put (Z d) y).move V N).hp st.hp:=by
 refine⟨λk=>((mv N V k).bind F).bind (mv V N),λk hk=>?_,λk hk=>?_⟩
 .grind[Nm.fG,mv,Nm.EH]
 .have e2:∀o:AO,((o.tr (mv N V)).tr F).tr (mv V N)=o.tr (λk=>((mv N V k).bind F).bind (mv V N)):=by
   grind[AO.ui]
  by_cases hx:Nm.under N k=B
  .have hu:Nm.under V (Nm.qy N V k)=B:=Nm.fG k hx;have hb:=Nm.EH (k1:=V) hx;have hb2:mv V N (Nm.qy N V k)=Z k:=qQ;have hb3:mv N V k=Z (Nm.qy N V k):=qQ;have hR1:=hR (Nm.qy N V k) Ar;simp only[zU,hu,Bool.or_true,if_true,jP,hb,hb3]at hR1;simp only[St.move,St.nm,St.put,St.call];simp only[jP,hx,if_true,hb2,hu,Bool.or_true,se,hR1]
   cases st.hp k<;>grind
  .simp only[kr]at hx
   have hv:Nm.under V k=M:=by
    grind
   have hR1:=hR k (by simp[hk]);simp only[zU,hk,se,if_true,jP,hx,hv,aF,if_false]at hR1;simp only[St.move,St.nm,St.put,St.call];simp only[jP,hx,hv,hk,aF,if_false,se,if_true,hR1]
   cases st.hp k<;>grind
section
variable{H:Nm->Option AO}{i j:Nat}{o:AO}{a:AV}{c:Option Nat}{sbs:List (Nm×Nm)}
theorem u6.step(h:u6 D hp H)(hF:∀k,D k=B->F k=Z k)(hh:∀k,D k=B->hp' k=(hp k).map (AO.tr F)):u6 D hp' H:=by
 obtain⟨G,h1,h2⟩:=h;refine⟨λk=>(G k).bind F,λk hk=>qQ,λk hk=>?_⟩;rw[hh k hk,h2 k hk]
 cases H k<;>grind[AO.ui]
def qBb:u6 D H H:=⟨Z,λ_ _=>rfl,λk _=>by cases H k<;>simp[AO.uO]⟩
def Ow(h:u6 D st.hp H):u6 D (st.put c a).hp H:=by cases c<;>exact h
def Ox(hD:∀k,D k=B->k.zj=M)(h:u6 D st.hp H):u6 D (st.zW (.s i) o).hp H:=
 h.step (F:=Z) (λ_ _=>rfl) λk hk=>by
  rw[IS,if_neg (jp hD hk i).1]
  cases st.hp k<;>simp[AO.uO]
def Ou(hD:∀k,D k=B->k.zj=M)(h:u6 D st.hp H):u6 D (st.kill (.s i)).hp H:=
 h.step (F:=kl (.s i)) (λk hk=>by simp[kl,(jp hD hk i).2]) λk hk=>by simp[(jp hD hk i).2]
def Ov(hD:∀k,D k=B->k.zj=M)(h:u6 D st.hp H):u6 D (st.move (.s i) (.s j)).hp H:=
 h.step (F:=mv (.s i) (.s j)) (λk hk=>by simp[mv,(jp hD hk i).2,(jp hD hk j).2]) λk hk=>by
  rw[WW,(jp hD hk i).2,(jp hD hk j).2];simp
def Ot(hD:∀k,D k=B->k.zj=M)(h:u6 D st.hp H):u6 D (st.gn i (Z (.s j))).hp H:=
 h.step (F:=kl (.s i)) (λk hk=>by simp[kl,(jp hD hk i).2]) λk hk=>by
  have h1:=(jp hD hk i).2;have h2:=(jp hD hk j).1;rw[FB,if_neg (λe=>h2 (sI e).symm)];simp[h1]
theorem qBa(hD:∀k,D k=B->k.zj=M)(hs:∀q∈sbs,q.1.zj=B)(h:u6 D hp H):u6 D (vW D sbs hp) H:=
 h.step (F:=zH D sbs) (λk hk=>mb hD hk hs) λk hk=>qQ
end
end
section
variable{X:Ctx}{st:St}{K:St->Prop}{E:AV->St->Prop}{d f:Nat}{ty:TypeId}{pos:String}{aft:Array Edge}{g:Option (Nat×Bool)}{args:Array Operand}{Ts:Array TypeId}{az:List AV}
theorem qET(D:Nm->Bool)(N V:Nm){len:Nat}{rows:List (List AV)}(hV:V.z6=B:=by rfl)(hN:N.z6=M:=by rfl)(hVe:X.ext V=M)(hDr:∀k,D k=B->k.zj=M)(hNV:Nm.under V N=M)(hDN:∀k,Nm.under N k=B->D k=B)(hDV:∀k,Nm.under V k=B->D k=M)(hs:(st.hp N).isSome=B)
  (hext:∀k i j,X.ext (.u k i j)=B->D (.u k i j)=M\/st.hp (.u k i j)≠Y)(hNd:Nm.under N (.s d)=M)(hrow:rows.map (λr=>r.map (AV.tr (mv V N)))=rows)(hd:d<X.n:=by first|(simp;done)|fail)
  (ha:args.toList.map (ev (st.move N V))=az:=by simp[fx];first|done|rfl)
  (hF:qX X.P X.gl f (λk=>D k||Nm.under V k) az (zU (λk=>D k||Nm.under V k) (jP N V st.hp)) (λr y H'=>(y=.hs r z 0 len/\H' r=Z (.row z rows))/\u6 (λk=>D k||Nm.under V k) H' (zU (λk=>D k||Nm.under V k) (jP N V st.hp))) qw)
  (h:∀hp',u6 D hp' st.hp->hp' (.s d)=Z (.row z rows)->K ((st.ft N V d D hp').put (Z d) (.hs (.s d) z 0 len))):
  qe X ⟨Z d,.call ⟨.value (.func f),args,Ts⟩,ty,pos,aft,g⟩ K E st:=by
 refine kU N V (.inl hN) (.inr hVe) (dC V N (.inr hVe) (.inl hN) ?_);refine nT (λk=>D k||Nm.under V k) (λk hk=>?_) (λk i j he=>?_) hd ha hF ?_
 .grind[y8]
 .by_cases hD:D (.u k i j)=B
  .right;rcases hext k i j he with h|h
   .simp_all
   .have hn:Nm.under N (.u k i j)=M:=by grind[Nm.z6,Nm.under]
    have hv:Nm.under V (.u k i j)=M:=by
     grind
    simp_all
  grind[Nm.under]
 .rintro y H' ⟨⟨rfl,hr⟩,F,hF1,hF2⟩;have hVd:Nm.under V (.s d)=M:=by cases V<;>simp[Nm.z6]at *
  obtain⟨q,hq,e⟩:=Mu (d:=d) (H':=H') (st:=st) (y:=.hs (.s d) z 0 len) hV hNV hDN hDV hDr hs qQ;have hS:=W1 (d:=d) (y:=.hs (.s d) z 0 len) (st:=st) hV hNV hDN hDV hF1 hF2
  have hq2:q.hp (.s d)=Z (.row z rows):=by
   rw[hq];simp[jP,hVd,hNd,hr,AO.tr,hrow]
  grind
end
section
variable{p:qC}{m:qR}{fs:List qO}{f:qO}{o:Int×Int}
theorem X9(hM:yf p m fs f)(ho:(zS p f.qG)[f.pc]?=Z o)(h:o.1=16\/o.1=17):m.made<=150:=by
 have h1:=hM.made
 have h2:1<=vS p f:=by
  unfold vS;rw[oa ho]
  grind[yy]
 omega
variable{c x:Int}{w:Nat}
theorem HO(h1:2<=c)(h2:c<=4)(hw:((c-2)%3).toNat=w):yD p m fs f (c,x)=uN m fs f (c,x) w 2:=by
 grind[HP,u0]
theorem NS(h1:5<=c)(h2:c<=7)(hw:((c-2)%3).toNat=w):yD p m fs f (c,x)=uN m fs f (c,x) w (if x<O (qa p f.qG)then 2 else 3):=by
 grind[HP,u0]
theorem Dw(h1:9<=c)(h2:c<=13)(h3:c≠11)(hw:((c-2)%3).toNat=w):yD p m fs f (c,x)=uN m fs f (c,x) w 4:=by
 grind[HP,u0]
end
section
variable{p:qC}{m:qR}{fs:List qO}{f:qO}{o:Int×Int}{b n:Nat}{v:q8}{k:qY}
theorem qCK(hP:zi p):(zQ p 0).params=[]:=by
 have hl:=hP.sh.len;obtain⟨k,hk⟩:∃k,p[0]?=Z k:=⟨_,gE qA⟩;have:=hP.sh.head 0 k hk
 grind[zQ]
theorem Ji:(yG p m b cs vs).qN≠[]:=by
 unfold yG
 split
 .split<;>simp
 .simp
def qCJ(hP:zi p):¬(zX p n).ended:=by
 rintro(h|h)
 .exact Ji h
 .exact h FF
theorem M1(h:fs≠[]):(vK m fs v).qN≠[]:=by
 unfold vK
 split<;>simp_all
theorem Og{s:qr}:(yE m fs f o s).qN≠[]:=by
 unfold yE
 repeat' split<;>simp_all
theorem XI(hc:0<=o.1/\o.1<=20)(h:o.1=20->fs≠[]):(yD p m fs f o).qN≠[]:=by
 have hT:∀g:qO,(m.top fs g).qN≠[]:=λg=>qB;have hS:∀(g:qO)(e:Int),(m.stop fs g e).qN≠[]:=λg e=>qB;unfold yD
 split
 .grind[aD]
 .split
  .split
   .grind[uE]
   .split
    .exact Og
    grind[cp,Og]
  grind[yl,Ji,fI,ck,dO,M1]
end
section
variable{key:Nat->Nm}{es:List Nat}{l l':List AV}{i j z n:Nat}{x:AV}{m:Nm}
theorem qFF:vM key es j (l++l')=vM key es j l++vM key es (j+O l) l':=by
 induction l generalizing j<;>grind[vM]
theorem qFH:O (vM key es j l)=O l:=by
 induction l generalizing j<;>simp_all
theorem Wa(hk:∀a b,key a=key b->a=b)(h:l[i]?=Z x)(hx:j5 x=B):(vX key es j l).find? (λp=>decide (p.1=key (j+i)))=Z (key (j+i),es.getD (j+i) 0):=by
 induction l generalizing i j with
 |nil=>cases h
 |cons y l ih=>
  cases i<;>grind[vX]
theorem NB(h:∀a,m≠key a):(vX key es j l).find? (λp=>decide (p.1=m))=Y:=by
 induction l generalizing j<;>grind[vX]
def SF:vQ (λi=>(l.drop (z*i)).take z) n=l.take (z*n):=by
 induction n with
 |zero=>simp[vQ]
 |succ n ih=>rw[rZ,ih,Nat.mul_succ,List.take_add]
end
structure gV(hp:Nm->Option AO)(p:qC)(n b:Nat):Prop where
 top:∃J:Nat->List AV,(∀i,O (J i)=29)/\hp Yn=Z (.row 4415 [qq (qj p (jY n) 0 J) 1 [.hs (.c Yn 0 1) 1 0 b]])
 vI:hp (.c Yn 0 1)=Z (.row 1 (kE p b))
 out:hp (.c Yn 0 4)=Z (.row 1 [])
 zt:hp (.c Yn 0 5)=Z (.row 2 [])
 qI:hp (.c Yn 0 30)=Z (.row 2 [])
 jG:hp (.c Yn 0 31)=Z (.row 24 [])
 only:∀k i j,fM k=B->hp (.u k i j)≠Y->k=1/\i=0/\j=0
section
variable{hp hp':Nm->Option AO}{p:qC}{n b:Nat}{R:List AV}
theorem gV.own(h:gV hp p n (O p)):qF hp p (jY n):=by
 obtain⟨J,hJ,e⟩:=h.top;refine⟨⟨J,hJ,?_⟩,h.vI,by grind[jY,qh,out],by grind[jY,vR,zt],by simpa[jY]using h.qI,by simpa[jY]using h.jG,λi f hf=>rU,λi f hf=>rU,λi f hf=>rU,λc s hs=>rU,λk i j hk hn=>.inl (h.only k i j hk hn)⟩;rw[e]
 rfl
theorem gV.row(h:gV hp p n b):∃R,hp Yn=Z (.row 4415 [R])/\O R=4415/\R[1]?=Z (.hs (.c Yn 0 1) 1 0 b):=by
 obtain⟨J,hJ,e⟩:=h.top;exact⟨_,e,by grind[qBy,pW],rfl⟩
theorem gV.step{b':Nat}{R':List AV}(h:gV hp p n b)(hr:hp Yn=Z (.row 4415 [R]))(h0:hp' Yn=Z (.row 4415 [R']))(hR:∃F:Nm->Option Nm,(∀j,j≠1->F (.c Yn 0 j)=Z (.c Yn 0 j))/\R'=(R.map (AV.tr F)).take 1++.hs (.c Yn 0 1) 1 0 b'::(R.map (AV.tr F)).drop 2)
  (h1:hp' (.c Yn 0 1)=Z (.row 1 (kE p b')))
  (h2:hp' (.c Yn 0 4)=Z (.row 1 []):=by simp[h.out])(h3:hp' (.c Yn 0 5)=Z (.row 2 []):=by simp[h.zt])
  (h4:hp' (.c Yn 0 30)=Z (.row 2 []):=by simp[h.qI])(h5:hp' (.c Yn 0 31)=Z (.row 24 []):=by simp[h.jG])
  (hA:∀k i j,fM k=B->¬(k=1/\i=0/\j=0)->hp' (.u k i j)≠Y->hp (.u k i j)≠Y:=by intro k i j hk e hn;simpa[hk,e]using hn):gV hp' p n b':=by
 obtain⟨J,hJ,e⟩:=h.top;obtain⟨F,hF,rfl⟩:=hR;refine⟨⟨λi=>(J i).map (AV.tr F),λi=>iG,?_⟩,h1,h2,h3,h4,h5,λk i j hk hn=>?_⟩
 .rw [h0,<- qAJ hr e]
  have hm:(qj p (jY n) 0 J).map (AV.tr F)=(yA p (jY n)).map (AV.tr F)++(jy jZ++(yB (jY n)++(vQ (λi=>(J i).map (AV.tr F)) 151++yZ (jY n) 0))):=by
   simp_all[pZ,yB,jY]
  simp only[qq,rF,sf,List.map_drop,hm]
  simp_all[qj,yA,jY]
 .by_cases e:k=1/\i=0/\j=0
  .exact e
  .exact h.only k i j hk (hA k i j hk e hn)
theorem Xs{P:Program}{Z':List AV}{d:Nat}(hz:O Z'=4415)(hz1:Z'.take 32=[.sc (.slice Y 0 0),.sc (.slice Y 0 0),iv 0,iv 0,.sc (.slice Y 0 0),.sc (.slice Y 0 0)]++(jy jZ++[.sc (.slice Y 0 0),.sc (.slice Y 0 0)]))(hz2:Z'.drop 4411=[iv 0,iv 0,iv 0,iv 0])
  (he:∀k,(k=1\/k=4)->(zb P T).getD k 0=1)(he2:∀k,(k=5\/k=30)->(zb P T).getD k 0=2)(he31:(zb P T).getD 31 0=24)
  (hD:∀k i j,fM k=B->st.hp (.u k i j)=Y):
  gV ((((St.ki (vX (Nm.c (.s d) 0) (zb P T) 0 (qq (qq (qq Z' 0 [kS (jo p (O p))]) 2 [iv n]) 3 [iv 0])) (st.kill (.s d))).zW (.s d) (.row 4415 [vM (Nm.c (.s d) 0) (zb P T) 0 (qq (qq (qq Z' 0 [kS (jo p (O p))]) 2 [iv n]) 3 [iv 0])])).move (.s d) Yn).hp) p n 0:=by
 obtain⟨mid,hmid,hml⟩:∃mid,Z'.drop 32=mid++[iv 0,iv 0,iv 0,iv 0]/\O mid=29 * 151:=by
  refine⟨(Z'.drop 32).take 4379,?_,by simp[hz]⟩
  grind[s9,List.drop_drop]
 have hZ:Z'=([.sc (.slice Y 0 0),.sc (.slice Y 0 0),iv 0,iv 0,.sc (.slice Y 0 0),.sc (.slice Y 0 0)]++(jy jZ++[.sc (.slice Y 0 0),.sc (.slice Y 0 0)]))++(mid++[iv 0,iv 0,iv 0,iv 0]):=by
  grind[s9]
 obtain⟨C,hC⟩:∃C,C=qq (qq (qq Z' 0 [kS (jo p (O p))]) 2 [iv n]) 3 [iv 0]:=⟨_,rfl⟩
 have hC2:C=([kS (jo p (O p)),.sc (.slice Y 0 0),iv n,iv 0,.sc (.slice Y 0 0),.sc (.slice Y 0 0)]++(jy jZ++[.sc (.slice Y 0 0),.sc (.slice Y 0 0)]))++(mid++[iv 0,iv 0,iv 0,iv 0]):=by
  simp_all[qq]
 have e1:=he 1 (.inl rfl);have e4:=he 4 (.inr rfl);have e5:=he2 5 (.inl rfl);have e30:=he2 30 (.inr rfl);rw[<- hC];generalize zb P T=es at *
 have hrow:vM (Nm.c (.s d) 0) es 0 C=([kS (jo p (O p)),.hs (.c (.s d) 0 1) 1 0 0,iv n,iv 0,.hs (.c (.s d) 0 4) 1 0 0,.hs (.c (.s d) 0 5) 2 0 0]++(jy jZ++[.hs (.c (.s d) 0 30) 2 0 0,.hs (.c (.s d) 0 31) 24 0 0]))++(vM (Nm.c (.s d) 0) es 32 mid++[iv 0,iv 0,iv 0,iv 0]):=by
  rw[hC2];simp only[bO]at e1 e4 e5 e30 he31;simp[DY,qFF,vM,zc,j5,e1,e4,e5,e30,he31]
 have hk:∀k z,C[k]?=Z (.sc (.slice Y 0 0))->es.getD k 0=z->(St.ki (vX (Nm.c (.s d) 0) es 0 C) (st.kill (.s d))).hp (.c (.s d) 0 k)=Z (.row z []):=by
  intro k z h1 h2;have:=Wa (es:=es) (j:=0) (key:=Nm.c (.s d) 0) (λa b e=>by injection e) h1 rfl
  grind[IQ]
 have hc:∀k,k<32->C[k]?=([kS (jo p (O p)),.sc (.slice Y 0 0),iv n,iv 0,.sc (.slice Y 0 0),.sc (.slice Y 0 0)]++(jy jZ++[.sc (.slice Y 0 0),.sc (.slice Y 0 0)]))[k]?:=λk hk=>by
  grind
 have g1:=hk 1 1 qQ e1;have g4:=hk 4 1 qQ e4;have g5:=hk 5 2 qQ e5;have g30:=hk 30 2 qQ e30;have g31:=hk 31 24 qQ he31;rw[hrow];obtain⟨mm,hmm⟩:∃mm,mm=(vM (Nm.c (.s d) 0) es 32 mid).map (AV.tr (mv (.s d) Yn)):=⟨_,rfl⟩;have hmml:O mm=29*151:=by grind[qFH]
 obtain⟨J,hJ1,hJ2⟩:∃J:Nat->List AV,(∀i,O (J i)=29)/\vQ J 151=mm:=by
  refine⟨λi=>if i<151 then(mm.drop (29*i)).take 29 else List.replicate 29 .bot,λi=>?_,?_⟩
  .dsimp only
   split
   .simp [hmml];omega
   .simp
  simp_all[K9,SF,jg]
 refine⟨⟨J,hJ1,?_⟩,qQ,qQ,qQ,qQ,qQ,λk i j hk hn=>?_⟩
 .simp_all[qj,yA,yB,yZ,qq,jY]
 .by_cases e:k=1/\i=0/\j=0
  .exact e
  .refine absurd ?_ hn
   have hno:(St.ki (vX (Nm.c (.s d) 0) es 0 C) (st.kill (.s d))).hp (.u k i j)=Y:=by
    rw[IQ,NB λa e=>vi]
    simp_all
   simp_all
end
section
variable{P:Program}{T:TypeId}{l:List Value}{a b c:AV}{e0 e2 e3:TypeId}{key:Nat->Nm}{es:List Nat}{j:Nat}{L:List AV}{x:AV}
theorem R7(h1:vC P T=B)(h2:yH P T=Z l)(hl:O l=4415)(f0:qn P T 0=Z (0,e0))(f2:qn P T 2=Z (2,e2))(f3:qn P T 3=Z (3,e3))(s0:qi P e0=1)(s2:qi P e2=1)(s3:qi P e3=1)
  (ha:a.cells=Z [a])(hb:b.cells=Z [b])(hc:c.cells=Z [c]):sp P T [(0,a),(2,b),(3,c)]=Z (.agg (qq (qq (qq (l.map .sc) 0 [a]) 2 [b]) 3 [c])):=by
 simp_all[qq]
theorem qFI(h:x∈vM key es j L):(∃k z,x=.hs (key k) z 0 0)\/x∈L:=by
 induction L generalizing j<;>grind[vM,zc]
end
section
variable{X:Ctx}{st:St}{K:St->Prop}{E:AV->St->Prop}{d:Nat}{ty:TypeId}{pos:String}{aft:Array Edge}{g:Option (Nat×Bool)}
theorem qEP{x:Operand}{cs:List AV}(hd:d<X.n)(hq:(ev st x).cells=Z cs)(z:Nat)(hz:O cs=z)(hsz:qi X.P T=z)(hs:∀y∈cs,(∃v,y=.sc v)\/∃z rows,y=.sl z rows/\y.tr (kl (.s d))=y)
  (h:K (((St.ki (vX (Nm.c (.s d) 0) (zb X.P T) 0 cs) (st.kill (.s d))).zW (.s d) (.row z [vM (Nm.c (.s d) 0) (zb X.P T) 0 cs])).put (Z d) (.pt (.s d) 0))):
  qe X ⟨Z d,.box T x,ty,pos,aft,g⟩ K E st:=by
 subst hsz;refine eQ hd hq hz ?_ h
 have jN:cs.map (AV.tr (kl (.s d)))=cs:=by
  rw[oD (g:=id) λy hy=>?_,List.map_id];rcases hs y hy with⟨v,rfl⟩|⟨z,rows,_,e⟩<;>simp_all
 unfold ce;simp only[jN];rw[Nc λy hy=>?_]
 .rfl
 .rcases qFI hy with⟨k,z,rfl⟩|hy
  .rfl
  .rcases hs y hy with⟨v,rfl⟩|⟨z,rows,rfl,_⟩<;>rfl
end
section
variable{p:qC}{m m':qR}{b n:Nat}{fs:List qO}{f g:qO}{o:Int×Int}{v:q8}{s:qr}{l:List (Int×Int)}{S:qT}{x w:Int}
def ca:List (Int×Int)->Nat
 |[]=>0
 |o::l=>if o.1=0 then 0 else(if o.1=16\/o.1=17 then 1 else 0)+ca l
def BN(S:qT):Nat:=if S.kind=4\/S.kind=5 then 1 else 0
theorem FD(hw:0<=w/\w<=2):ca (yM p b x w::l)=ca l:=by
 grind[ca,yM]
theorem FC:∀ss:List qT,ca (uK p b ss)=0
 |[]=>rfl
 |s::ss=>by simp[uK,kj,ca]
theorem RX(hk:0<=S.kind/\S.kind<=11)(hl:ca l=0):ca (kJ p b S++(vg S++(vq p b S++l)))<=BN S:=by
 obtain⟨kd,to,a,c⟩:=S;simp only at hk;have p0:=λx l=>FD (p:=p) (b:=b) (x:=x) (l:=l) (w:=0) qA;have p1:=λx l=>FD (p:=p) (b:=b) (x:=x) (l:=l) (w:=1) qA;have p2:=λx l=>FD (p:=p) (b:=b) (x:=x) (l:=l) (w:=2) qA;have q:∀(c a:Int)(l:List (Int×Int)),c≠0->ca ((c,a)::l)=(if c=16\/c=17 then 1 else 0)+ca l:=λc a l h=>by simp[ca,h]
 have hd:kd=0\/kd=1\/kd=2\/kd=3\/kd=4\/kd=5\/kd=6\/kd=7\/kd=8\/kd=9\/kd=10\/kd=11:=qA;rcases hd with rfl|rfl|rfl|rfl|rfl|rfl|rfl|rfl|rfl|rfl|rfl|rfl<;>grind[kJ,qT.reads,vg,vq,BN]
theorem RY(ss:List qT)(hk:∀s∈ss,0<=s.kind/\s.kind<=11):∀i o,(uK p b ss)[i]?=Z o->o.1=0->∃s,ss[vU ((uK p b ss).take i)]?=Z s/\ca ((uK p b ss).drop (i+1))<=BN s:=by
 induction ss with
 |nil=>grind[uK]
 |cons s ss ih=>
  intro i o h h0;have e:uK p b (s::ss)=kj p b s++uK p b ss:=by simp[uK]
  rw[e]at h ⊢;by_cases hi:i<O (kj p b s)
  .have hi0:i=0:=by
    rw[ua hi]at h
    cases i with
    |zero=>rfl
    |succ j=>
     have hm:o∈kJ p b s++(vg s++vq p b s):=by
      grind[kj]
     have:=PT o hm;omega
   grind[vU,RX,FC,kj]
  .have hi:O (kj p b s)<=i:=qA;rw[bn hi]at h;obtain⟨s',h1,h2⟩:=ih (λt ht=>hk t tZ) _ o h h0;refine⟨s',?_,?_⟩
   .rw [lA,jg hi,qDL,qDM,Nat.add_comm,gi];exact h1
   grind[AU,CX]
def gp(p:qC)(f:qO):Nat:=ca ((zS p f.qG).drop f.pc)
def lD(p:qC)(fs:List qO):Nat:=(fs.map (gp p)).sum
def oZ(p:qC)(tr:List (Nat×Nat)):Nat:=tr.countP λt=>AA p t==4||AA p t==5
structure ae(p:qC)(m:qR):Prop where
 le:m.made<=1+oZ p m.trace
 pe:m.en=0->m.made+lD p m.qN<=1+oZ p m.trace
 tr:∀t∈m.trace,∃s,sL p t=Z s
def FE(ho:(zS p f.qG)[f.pc]?=Z o):gp p f=if o.1=0 then 0 else(if o.1=16\/o.1=17 then 1 else 0)+ca ((zS p f.qG).drop (f.pc+1)):=by
 unfold gp;rw[oa ho]
 rfl
theorem mL:lD p (fs++[f])=lD p fs+gp p f:=by simp[lD]
theorem Rn(h:ae p m)(hm:m.qN=fs++[f])(h0:m.en=0)(ho:(zS p f.qG)[f.pc]?=Z o)(hn:o.1≠0)(hf:∃g,m'.qN=fs++[g]/\g.qG=f.qG/\g.pc=f.pc+1)(h1:m'.made=m.made)(h2:m'.trace=m.trace):ae p m':=by
 obtain⟨g,hg,e1,e2⟩:=hf;have h3:=h.pe h0;rw[hm,mL,FE ho,if_neg hn]at h3;refine⟨qx,λ_=>?_,by grind[ae.tr]⟩
 grind[mL,gp]
theorem K0(hp:zi p)(h:ae p m)(hm:m.qN=fs++[f])(h0:m.en=0)(ho:(zS p f.qG)[f.pc]?=Z o)(hn:o.1=16\/o.1=17)(e1:g.qG=f.qG)(e2:g.pc=f.pc+1):ae p (yG p (m.top fs g) b cs vs):=by
 have h3:=h.pe h0;rw[hm,mL,FE ho,if_neg qA,if_pos hn]at h3
 have key:∀(C:List qr)(F:qO),F.qG=b->F.pc=0->ae p {m.top fs g with cells:=C,made:=m.made+1,deep:=max m.deep (O fs+1+1),qN:=fs++[g]++[F]}:=λC F a1 a2=>by
  have hF:gp p F=0:=by
   unfold gp;rw[a1,a2,List.drop_zero];unfold zS
   split
   .exact FC _
   .rfl
  have hG:gp p g=ca ((zS p f.qG).drop (f.pc+1)):=by grind[gp]
  refine⟨?_,λ_=>?_,h.tr⟩<;>grind[qR.top,mL]
 unfold yG;have hl:O (m.top fs g).qN=O fs+1:=dY;rw[hl]
 split
 .split
  .exact key _ _ rfl rfl
  .exact key _ _ rfl rfl
 .exact key _ _ rfl rfl
theorem K3(h:ae p m)(hm:m.qN=fs++[f])(h0:m.en=0)(h1:m'.made=m.made)(h2:m'.trace=m.trace):ae p (vK m' fs v):=by
 have h3:=h.pe h0;rw[hm,mL]at h3;unfold vK
 split
 .rename_i g hl
  have hs:lD p (fs.dropLast++[g.push v])=lD p fs:=by
   have e:fs=fs.dropLast++[g]:=by
    have hne:fs≠[]:=λe=>qQ
    grind[mJ]
   conv=>rhs;rw[e]
   rw[mL,mL]
   rfl
  refine⟨qx,λ_=>?_,by grind[ae.tr]⟩
  grind
 .refine⟨qx,λ_=>?_,by grind[ae.tr]⟩
  grind[lD]
theorem Rm(hp:zi p)(h:ae p m)(hm:m.qN=fs++[f])(h0:m.en=0)(hM:yf p m fs f):ae p (wI p m):=by
 cases ho:(zS p f.qG)[f.pc]? with
 |none=>
  rw[Hm.step_end hm ho]
  grind[an,K3]
 |some o=>
  rw[Hm.CE hm ho];unfold yD
  split
  .rename_i hz;unfold aD
   split
   .exact⟨h.le,λe=>absurd e (show ¬(1:Int)=0 by decide),h.tr⟩
   .obtain⟨k,hk⟩:=gX hM.top.qG;have hops:zS p f.qG=uK p f.qG k.body:=by simp[zS,hk]
    obtain⟨s,e1,e2⟩:=RY (p:=p) (b:=f.qG) k.body (λs hs=>(hp.sh.names k (gM hk)).kinds s hs) f.pc o qQ hz;have hst:sL p (f.qG,vU ((zS p f.qG).take (f.pc+1-1)))=Z s:=by grind[sL]
    have h3:=h.pe h0;rw[hm,mL,FE ho,if_pos hz]at h3
    have hc:oZ p (m.trace++[(f.qG,vU ((zS p f.qG).take (f.pc+1-1)))])=oZ p m.trace+BN s:=by
     grind[oZ,AA,BN]
    have hle:=h.le;refine⟨?_,λ_=>?_,?_⟩
    .show m.made<=1+oZ p (m.trace++[(f.qG,vU ((zS p f.qG).take (f.pc+1-1)))])
     omega
    .show m.made+lD p (fs++[f.next])<=1+oZ p (m.trace++[(f.qG,vU ((zS p f.qG).take (f.pc+1-1)))])
     grind[mL,gp,qO.next]
    .intro t ht;simp only[qR.top,yI,vG]at ht;rcases ht with ht|rfl
     .exact h.tr t ht
     simp_all
  .rename_i hz;have hG:∀m':qR,(∃g,m'.qN=fs++[g]/\g.qG=f.qG/\g.pc=f.pc+1)->m'.made=m.made->m'.trace=m.trace->ae p m':=λm' a b c=>Rn h hm h0 ho hz a b c;have hT:∀g:qO,g.qG=f.qG->g.pc=f.pc+1->ae p (m.top fs g):=λg a b=>hG _ ⟨g,rfl,a,b⟩ rfl rfl;have hS:∀(g:qO)(e:Int),g.qG=f.qG->g.pc=f.pc+1->ae p (m.stop fs g e):=λg e a b=>hG _ ⟨g,rfl,a,b⟩ rfl rfl
   have hR:∀(g:qO)(s:qr),g.qG=f.qG->g.pc=f.pc+1->ae p (yE m fs g o s):=λg s a b=>by
    unfold yE
    repeat' split
    all_goals exact hG _ ⟨_,rfl,a,b⟩ rfl rfl
   split
   .split
    .unfold uE
     repeat' split
     all_goals first|exact hT _ rfl rfl|simp_all
    .split
     .exact hR _ _ rfl rfl
     grind[cp]
   .unfold yl
    split
    .exact hT _ rfl rfl
    split
    .unfold fI;dsimp only
     split
     .exact hS _ _ rfl rfl
     .exact hT _ rfl rfl
    split
    .exact hG _ ⟨_,rfl,rfl,rfl⟩ rfl rfl
    split
    .grind[K0]
    split
    .grind[ck,K0]
    split
    .unfold dO;dsimp only
     split
     .exact hS _ _ rfl rfl
     .split
      .exact hT _ rfl rfl
      .exact hS _ _ rfl rfl
    split
    .exact hG _ ⟨_,rfl,rfl,rfl⟩ rfl rfl
    grind[K3]
theorem Rl(hp:zi p)(hn:n<=150):ae p (yj p n):=by
 have key:∀i,ae p (zV p i (zX p n)):=by
  intro i
  induction i with
  |zero=>
   have e:zV p 0 (zX p n)=yG p (jY n) 0 [] []:=rfl;obtain⟨⟨g,h1⟩,h2,h3,h4,h5⟩:=G9 (p:=p) (m:=jY n) (b:=0) (cs:=[]) (vs:=[])
   obtain⟨fs,f,hfr,hM⟩:=(sE hp hn 0).resolve_left (by
    rintro(e1|e1)
    .simp_all
    .exact e1 (by rw[e];unfold yG;split<;>(try split)<;>rfl))
   rw[e]at hfr;refine⟨rU,λ_=>?_,rU⟩
   have hb:lD p (yG p (jY n) 0 [] []).qN=0:=by
    have hpc:∀x∈(yG p (jY n) 0 [] []).qN,x.pc=0:=by
     unfold yG
     grind[jY]
    rw[h1]at hpc ⊢;have hg:=hpc g qB;simp only[jY,lD,s7,cX,rE,List.sum_cons,List.sum_nil,gp,hg,List.drop_zero];unfold zS
    split
    .simp [FC]
    .rfl
   grind[jY]
  |succ i ih=>
   by_cases he:(zV p i (zX p n)).ended
   .grind[nL]
   .rw [nL,if_neg he];obtain⟨fs,f,h1,h2⟩:=(sE hp hn i).resolve_left he
    have hen:(zV p i (zX p n)).en=0:=by
     by_cases h:(zV p i (zX p n)).en=0
     .exact h
     .exact absurd (.inr h) he
    grind[Rm]
 grind[Bg]
end
section
variable{p:qC}{l:List (Nat×Nat)}{i:Nat}{t:Nat×Nat}{f:Int}
def Rk:oZ p l<=O l:=List.countP_le_length
end
section
variable{p:qC}
def Wh(n:Nat):O (yx n)<=n+1:=by
 induction n using Nat.strongRecOn with
 |_ n ih=>
  rw[yx]
  split
  .simp
  .have:=ih (n/10) qA;simp;omega
def GR(hs:jm p)(hpo:j2 p=B):∃c n d:Nat,DN p 150=(c:Int)/\O (yj p 150).cells=c/\xH p 150=((n:Int),(d:Int))/\(yj p 150).made=n/\c<=1300/\n<=152:=by
 have hP:=zi.of hs hpo;have hc:=Rl (n:=150) hP qA;have hI:=Zx (n:=150) (t:=8) hP qA λb=>da;have hb:=Bf (n:=150) hP qA;have h45:=Rk (p:=p) (l:=(yj p 150).trace);have hv:kZ p 150=B:=by simp[kZ,hpo]
 have hcl:=hc.le;have h3:=hI.cells;exact⟨_,_,(yj p 150).deep,tu,rfl,tg,rfl,qA,qA⟩
def HU{b x:Nat}(hh:ze p)(hl:O p<=7):-2<=b8 p b x/\b8 p b x<=7:=by
 unfold b8
 split
 .rename_i h;obtain⟨k,hk⟩:=gX h.1;have h1:=Dy (p:=p) (x:=(x:Int)) hh b k.parent;have h2:=hh b k hk;have h3:=NU (p:=p) (x:=(x:Int)) b k.parent;simp only[zN,hk,outer]
  split
  .omega
  .split<;>omega
 .omega
def C2{l:qZ}(hs:jm p)(hpo:j2 p=B):O (aH p l)<=2000:=by
 have hP:=zi.of hs hpo;have hl:=hP.sh.len;have hm:=(mq hP.sh (f:=150) qA);obtain⟨c,n,d,_,e2,_,e4,h1,h2⟩:=GR hs hpo
 have hn:∀x:Int,0<=x->x<=1300->O (vL x)<=1302:=by
  intro x h0 h1;have:=Wh x.natAbs;unfold vL
  split
  .omega
  .omega
 have hw:O (uj p l)<=2000:=by
  unfold uj;rw[e2,e4];have hen:=hm.ok.eg;have htr:=hm.tr
  have hee:∀i,O (aN.getD i [])<=10:=by
   intro i
   match i with
   |0|1|2|3|4|5|6|7=>decide
   |i+8=>simp[aN]
  have:=hn (O p:Int) qA qA;have:=hn (150-((v7 p 150).left:Int)) qA qA;have:=hn (c:Int) qA qA;have:=hn (n:Int) qA qA;have:=hee (v7 p 150).en.toNat
  repeat' split
  all_goals first|omega|decide
 have ho:∀b x:Nat,O (iS (b8 p b x))<=2000:=by
  intro b x;obtain⟨r1,r2⟩:=HU (b:=b) (x:=x) hP.sh.jK hl.2;unfold iS
  split
  .decide
  .split
   .decide
   .have:=hn (b8 p b x) qA qA;omega
 unfold aH
 repeat' split
 all_goals first|exact hw|exact ho _ _
end
end Go.Hm
end
section
namespace Go.Hm
open Go Go.RowKit Go.ChangeShapes Go.WideShapes Go.Deep
theorem qDJ{H:Type}{enc:TypeId×Value->H}{P:Program}{w:World}{spare:Nat->Bool}{n m k:String}{gs:List (DataW H)}{ps:List MemPlace}(h:DataW.TrodVars enc P w spare [n,m,k] gs ps):∃d e f,gs=[d,e,f]:=by
 cases gs with
 |nil=>simp[DataW.TrodVars]at h
 |cons d gs=>
  have key:∃q,DataW.TrodVars enc P w spare [m,k] gs q:=by
   grind[DataW.TrodVars]
  obtain⟨q,hq⟩:=key;obtain⟨e,f,rfl⟩:=qD9 hq;exact⟨d,e,f,rfl⟩
end Go.Hm
end
