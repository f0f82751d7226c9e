import Derived.Test.YtdnebaieamppbaaGreatDoorE29
set_option linter.unusedSimpArgs false
set_option linter.unusedVariables false
set_option maxRecDepth 100000
set_option maxHeartbeats 4000000

section
namespace Go.Proofs.YtdnebaieamppbaaGreatDoor
open Go Go.Hm Go.Proofs Tryz
theorem JL (gl) (p:Z0) (b:Nat) (x:Int) (hs:Sml p) (hh:zS p):qb prog gl 86 [pav p,iv b,iv x] (λr y H'=>y=.hs r 1 0 (zi p b x).length/\H' r=some (.row 1 (qT (zi p b x)))):=by
 have hpl:=hs.len;refine qb.Zl func86 [.tmp 6] ntmps86 λC w g root=>?_
 all_goals have fx:=Zk
 repeat' (first|refine qK ?_|refine λ(K:St->Prop) hK=>?_)
 all_goals try clear fx
 refine qX (λn st=>∃ i:Nat,n=p.length - i/\i<=p.length/\st.tm 1=iv b/\st.tm 2=iv x/\st.tm 3=.pt (.s 3) 0/\st.hp (.s 3)=some (.row 1 [[ksl p]])/\st.tm 8=iv i/\st.tm 7=.hs (.s 7) 1 0 (yW p b x i).length/\st.hp (.s 7)=some (.row 1 (qT (yW p b x i)))) p.length ?_ ?_
 .exact⟨0,by simp [yW]⟩
 rintro n st - - ⟨i,rfl,hi,h1,h2,h3,hp3,h8,h7,hp7⟩;have htl:=pp (p:=p) (b:=b) (x:=x) i
 all_goals have fx:=u4 h1 h2 h3 hp3 h8 h7<|hp7
 repeat' (first|refine qK ?_|refine λ(K:St->Prop) hK=>?_)
 all_goals try clear fx
 refine w9 zU (λht=>?_) (λhf=>?_)
 .have hlt:i<p.length:=zJ;obtain⟨k,hk⟩:=gX hlt
  cases hm:decide (x∈k.us)
  .skip
   all_goals have fx:=bA h1 h2 h3 hp3 h8 h7 hp7 hk<|hm
   repeat' (first|refine qK ?_|refine λ(K:St->Prop) hK=>?_|refine jP (hF:=db _ p i k hk (hs.bsm hk)) (h:=?_)|refine qJ (hF:=vM _ _ _ (vk (Za.qBH _) qO)) (h:=?_))
   all_goals try clear fx
   have hn:qQ p b x i=false:=by simp [qQ,hk,hm]
   refine⟨p.length - (i+1),qA,i+1,rfl,qA,?_⟩;simp [h1,h2,h3,hp3,h7,hp7,yW,hn];exact Zv qA qA
  .cases ho:(q7 p i x==(b:Int))
   .skip
    all_goals have fx:=aJ h1 h2 h3 hp3 h8 h7 hp7 hk hm<|ho
    repeat' (first|refine qK ?_|refine λ(K:St->Prop) hK=>?_|refine jP (hF:=db _ p i k hk (hs.bsm hk)) (h:=?_)|refine qJ (hF:=vM _ _ _ (vk (Za.qBH _) qO)) (h:=?_)|refine qJ (hF:=uT _ p i k x hk hs hh) (h:=?_))
    all_goals try clear fx
    have ho':¬ q7 p i x=(b:Int):=oE;have hn:qQ p b x i=false:=by simp [qQ,hk,ho']
    refine⟨p.length - (i+1),qA,i+1,rfl,qA,?_⟩;simp [h1,h2,h3,hp3,h7,hp7,yW,hn];exact Zv qA qA
   .skip
    all_goals have fx:=aJ h1 h2 h3 hp3 h8 h7 hp7 hk hm<|ho
    repeat' (first
     | refine vH ?_|refine jd ?_|refine yH ?_|refine kL λK hK=>?_
     | ((with_reducible refine vA hK ?_);clear hK K)
     | (with_reducible first|refine qV ?_)
     | (with_reducible refine jL ?_)
     | ((with_reducible refine NO ?_);refine bC (h:=?_))
     | (with_reducible first|refine sW ?_|refine zL (h:=?_)|refine jw (T:=32) (h:=?_)|refine yV (h:=?_))
     | ((with_reducible refine rr 84 rfl ?_);refine jP (hF:=db _ p i k hk (hs.bsm hk)) (h:=?_))
     | ((with_reducible refine rr 83 rfl ?_);refine qJ (hF:=vM _ _ _ (vk (Za.qBH _) qO)) (h:=?_))
     | ((with_reducible refine rr 137 rfl ?_);refine qJ (hF:=uT _ p i k x hk hs hh) (h:=?_))
     | (with_reducible refine x_q (h:=?_))
     | refine jr (h1:=?_)
     | fail)
    all_goals try clear fx
    have ho':q7 p i x=(b:Int):=oE;have hm':x∈k.us:=by simpa using hm
    have hn:qQ p b x i=true:=by simp [qQ,hk,ho',hm']
    refine⟨p.length - (i+1),qA,i+1,rfl,qA,?_⟩;simp [h1,h2,h3,hp3,h7,hp7,yW,hn];exact Zv qA qA
 .have hge:i=p.length:=by
   have:¬ i<p.length:=ze;omega
  subst hge
  all_goals have fx:=u4 h1 h2 h3 hp3 h8 h7<|hp7
  repeat' (first|refine qK ?_|refine λ(K:St->Prop) hK=>?_)
  all_goals try clear fx
  exact jU (t:=6) OI OI qB
abbrev Pu:Zh:=ir<|.l 10 [2,1,0]<|.q 11<|.l 12 []<|.done
theorem pG (gl) (p:Z0) (b x y:Int) (hs:Sml p):qb prog gl 37 [pav p,iv b,iv x,iv y] (λr z H'=>z=.tup [.agg [.hs r 4 0 (ef p b x y).length],bv (ye p b x y)]/\qAb H' r (ef p b x y)):=by
 have hpl:=hs.len;refine qb.Zl func37 [.cell 8 25,.tmp 9] ntmps37 λC w g root=>?_
 cases hv:jF p
 .have hno:ye p b x y=false:=by simp [ye,hv]
  all_goals have fx:= hv
  repeat' (first|refine qK ?_|refine λ(K:St->Prop) hK=>?_|refine qJ (hF:=qr _ p hs) (h:=?_))
  all_goals try clear fx
  simp only [ef,hno];refine qD [(.c (.s 8) 0 0,root)] (.one rfl) qE ?_;refine⟨qB,⟨qB,λj k hk=>vQ,λj k hk=>vQ⟩⟩
 have hsh:jh p=true:=by
  simp only [jF,ba] at hv;exact hv.1
 have hP:=Z7.of hs hsh;obtain⟨hh,hl1,hl7,hbo,_⟩:=a7 hsh;by_cases hu:((0<=b/\b<p.length)/\0<=x/\x<=7)
 rotate_left
 .have hno:ye p b x y=false:=by
   apply tz.2;intro h;simp only [ye,ba,decide_eq_true_eq] at h;exact hu ⟨h.1.1.1.1.2,h.1.1.1.2⟩
  have hu':((jh p&&(decide (0<=b)&&decide (b<=(p.length:Int) - 1)))&&(decide (0<=x)&&decide (x<=7)))=false:=by
   apply tz.2;intro h;simp only [ba,decide_eq_true_eq] at h;exact hu ⟨⟨h.1.2.1,qA⟩,h.2⟩
  all_goals have fx:=aI hv<|hu'
  repeat' (first|refine qK ?_|refine λ(K:St->Prop) hK=>?_|refine qJ (hF:=qr _ p hs) (h:=?_)|refine qJ (hF:=wM _ p b x hs) (h:=?_))
  all_goals try clear fx
  simp only [ef,hno];refine qD [(.c (.s 8) 0 0,root)] (.one rfl) qE ?_;refine⟨qB,⟨qB,λj k hk=>vQ,λj k hk=>vQ⟩⟩
 obtain⟨⟨hb0,Zs⟩,hx0,hx7⟩:=hu;obtain⟨B,rfl⟩:∃ i:Nat,b=i:=⟨b.toNat,qA⟩;have hBl:B<p.length:=qA;obtain⟨k,hk⟩:=gX hBl;have hbm:(B:Int)<=(p.length:Int) - 1:=qA
 cases hy:(decide (0<=y)&&decide (y<=7))
 .have hno:ye p B x y=false:=by simp only [ye,hy];simp
  all_goals have fx:=uD hv hsh hbm hx0 hx7<|hy
  repeat' (first|refine qK ?_|refine λ(K:St->Prop) hK=>?_|refine qJ (hF:=qr _ p hs) (h:=?_)|refine qJ (hF:=wM _ p B x hs) (h:=?_)|refine qJ (hF:=jO _ _) (h:=?_))
  all_goals try clear fx
  simp only [ef,hno];refine qD [(.c (.s 8) 0 0,root)] (.one rfl) qE ?_;refine⟨qB,⟨qB,λj k hk=>vQ,λj k hk=>vQ⟩⟩
 cases hxy:(x==y)
 rotate_left
 .have hno:ye p B x y=false:=by simp only [ye,bne,hxy];simp
  all_goals have fx:=u4 hv hsh hbm hx0 hx7 hy<|hxy
  repeat' (first|refine qK ?_|refine λ(K:St->Prop) hK=>?_|refine qJ (hF:=qr _ p hs) (h:=?_)|refine qJ (hF:=wM _ p B x hs) (h:=?_)|refine qJ (hF:=jO _ _) (h:=?_))
  all_goals try clear fx
  simp only [ef,hno];refine qD [(.c (.s 8) 0 0,root)] (.one rfl) qE ?_;refine⟨qB,⟨qB,λj k hk=>vQ,λj k hk=>vQ⟩⟩
 cases hkd:(k.kind==1)
 .have hno:ye p B x y=false:=by simp [ye,DW,hk,hkd]
  all_goals have fx:=aJ hv hsh hbm hx0 hx7 hy hxy hk hkd<|@qL
  repeat' (first|refine qK ?_|refine λ(K:St->Prop) hK=>?_|refine qJ (hF:=qr _ p hs) (h:=?_)|refine qJ (hF:=wM _ p B x hs) (h:=?_)|refine qJ (hF:=jO _ _) (h:=?_))
  all_goals try clear fx
  simp only [ef,hno];refine qD [(.c (.s 8) 0 0,root)] (.one rfl) qE ?_;refine⟨qB,⟨qB,λj k hk=>vQ,λj k hk=>vQ⟩⟩
 cases hlo:qa B k x
 .have hno:ye p B x y=false:=by simp [ye,DW,hk,hlo]
  all_goals have fx:=jJ hv hsh hbm hx0 hx7 hy hxy hk hkd hlo<|@qL
  repeat' (first|refine qK ?_|refine λ(K:St->Prop) hK=>?_|refine qJ (hF:=qr _ p hs) (h:=?_)|refine qJ (hF:=wM _ p B x hs) (h:=?_)|refine qJ (hF:=jO _ _) (h:=?_)|refine qJ (hF:=wV _ p B k x hk (hs.bsm hk)) (h:=?_))
  all_goals try clear fx
  simp only [ef,hno];refine qD [(.c (.s 8) 0 0,root)] (.one rfl) qE ?_;refine⟨qB,⟨qB,λj k hk=>vQ,λj k hk=>vQ⟩⟩
 all_goals have fx:=jJ hv hsh hbm hx0 hx7 hy hxy hk hkd hlo<|@qL
 repeat' (first|refine qK ?_|refine λ(K:St->Prop) hK=>?_|refine qJ (hF:=qr _ p hs) (h:=?_)|refine qJ (hF:=wM _ p B x hs) (h:=?_)|refine qJ (hF:=jO _ _) (h:=?_)|refine qJ (hF:=wV _ p B k x hk (hs.bsm hk)) (h:=?_))
 all_goals try clear fx
 refine qX (λn st=>∃ c:Nat,n=p.length - c/\c<=p.length/\st.tm 1=iv B/\st.tm 2=iv x/\st.tm 3=iv y/\st.tm 4=.pt (.s 4) 0/\st.hp (.s 4)=some (.row 1 [[ksl p]])/\st.tm 10=iv c/\st.tm 8=.pt (.s 8) 0/\st.hp (.s 8)=some (.row 1 [[.hs (.c (.s 8) 0 0) 4 0 0]])/\st.hp (.c (.s 8) 0 0)=some (.row 4 [])/\B<=c/\∀ d,d<c->uO p B y d=false) (p.length - B) ?_ ?_
 .refine⟨B,rfl,qA,qB,qB,qB,qB,qB,qB,qB,qB,qB,qf _,λd hd=>?_⟩;simp only [uO];rw [decide_eq_false qA]
  rfl
 rintro n st - - ⟨c,rfl,hc,h1,h2,h3,h4,hp4,h10,h8,hp8,hp8',hBc,hcl⟩
 all_goals have fx:=uD h1 h2 h3 h4 hp4<|h10
 repeat' (first|refine qK ?_|refine λ(K:St->Prop) hK=>?_)
 all_goals try clear fx
 refine w9 zU (λht=>?_) (λhf=>?_)
 .have hlt:c<p.length:=zJ;obtain⟨q,hq⟩:=gX hlt;clear ht
  have next:∀ {d:Nat},uO p B y c=false->d<c+1->uO p B y d=false:=by
   intro d h0 hd;rcases E5.1 hd with h|rfl
   .exact hcl d h
   .exact h0
  cases hin:qi p c B
  .have h0:uO p B y c=false:=by simp [uO,hq,hin]
   all_goals have fx:=u4 h1 h2 h3 h4 hp4 h10<|hin
   repeat' (first|refine qK ?_|refine λ(K:St->Prop) hK=>?_|refine qJ (hF:=ka _ p c B hs hh hlt) (h:=?_))
   all_goals try clear fx
   exact⟨p.length - (c+1),qA,c+1,rfl,qA,qy,ql,qt,jp,kj,zD,kK,wG,aW,qA,λd hd=>next h0 hd⟩
  .cases hm:decide (y∈q.us)
   .have h0:uO p B y c=false:=by simp [uO,hq,hm]
    all_goals have fx:=bA h1 h2 h3 h4 hp4 h10 hin hq<|hm
    repeat' (first|refine qK ?_|refine λ(K:St->Prop) hK=>?_|refine qJ (hF:=ka _ p c B hs hh hlt) (h:=?_)|refine jP (hF:=db _ p c q hq (hs.bsm hq)) (h:=?_)|refine qJ (hF:=vM _ _ _ (vk (Za.qBH _) qO)) (h:=?_))
    all_goals try clear fx
    exact⟨p.length - (c+1),qA,c+1,rfl,qA,qy,ql,qt,jp,kj,zD,kK,wG,aW,qA,λd hd=>next h0 hd⟩
   .have hm':y∈q.us:=by simpa using hm
    have hno:ye p B x y=false:=by
     have hc1:ni p B y=true:=O6.2 ⟨c,gh.2 hlt,by simp [uO,hq,hin,hm',hBc]⟩;simp [ye,DW,hk,hc1]
    all_goals have fx:=jJ h1 h2 h3 h4 hp4 h10 h8 hp8 hp8' hin<|aI hq<|hm
    repeat' (first|refine qK ?_|refine λ(K:St->Prop) hK=>?_|refine qJ (hF:=ka _ p c B hs hh hlt) (h:=?_)|refine jP (hF:=db _ p c q hq (hs.bsm hq)) (h:=?_)|refine qJ (hF:=vM _ _ _ (vk (Za.qBH _) qO)) (h:=?_))
    all_goals try clear fx
    simp only [ef,hno];refine qD [(.c (.s 8) 0 0,root)] (.one rfl) (by simp [h8];rfl) ?_;refine⟨qB,⟨qB,λj k hk=>vQ,λj k hk=>vQ⟩⟩
 have hge:c=p.length:=by
  have:¬ c<p.length:=ze;omega
 have hyes:ye p B x y=true:=by
  have hc0:ni p B y=false:=by
   apply tz.2;intro h;obtain⟨d,hd,hd'⟩:=O6.1 h;rw [hcl d (by have:=gh.1 hd;omega)] at hd'
   cases hd'
  simp only [ye,hv,hy,bne,hxy,b6,DW,hk,hkd,hlo,hc0];simp [hx0,hx7];omega
 have hg:ef p B x y=uI (qQ p B x) x y p:=by simp only [ef,hyes,if_true]
 rw [hg,hyes];clear hf hcl
 all_goals have fx:=yS h1 h2 h3 h4<|hp4
 repeat' (first|refine qK ?_|refine λ(K:St->Prop) hK=>?_|refine FC (hF:=ig _ p hs) (h:=?_))
 all_goals try clear fx
 rintro z H' ⟨rfl,hO⟩;obtain⟨ho1,ho2,ho3⟩:=hO.qAH;refine⟨qB,?_⟩
 all_goals have fx:=uD h1 h2 h3 h4 hp4<|ho1
 repeat' (first|refine qK ?_|refine λ(K:St->Prop) hK=>?_|refine jP (hF:=JL _ p B x hs hh) (h:=?_))
 all_goals try clear fx
 have hTl:(zi p B x).length<=p.length:=pp p.length
 refine qX (λn st=>∃ i:Nat,n=(zi p B x).length - i/\i<=(zi p B x).length/\st.tm 2=iv x/\st.tm 3=iv y/\st.tm 8=.pt (.s 8) 0/\st.hp (.s 8)=some (.row 1 [[.hs (.c (.s 8) 0 0) 4 0 0]])/\st.hp (.c (.s 8) 0 0)=some (.row 4 []) /\
  st.tm 11=.pt (.s 11) 0/\st.hp (.s 11)=some (.row 1 [[.hs (.c (.s 11) 0 0) 4 0 p.length]])/\st.tm 12=.hs (.s 12) 1 0 (zi p B x).length/\st.hp (.s 12)=some (.row 1 (qT (zi p B x)))/\st.tm 13=iv i /\
  qAb st.hp (.c (.s 11) 0 0) (uI (λc=>decide ((c:Int)∈(zi p B x).take i)) x y p)) (zi p B x).length ?_ ?_
 .have e0:uI (λc=>decide ((c:Int)∈(zi p B x).take 0)) x y p=p:=by
   simp only [List.take_zero,HS,decide_false];exact DV
  refine⟨0,qA,qA,ql,qt,kK,wG,aW,qB,qB,qB,qB,qB,?_⟩;rw [e0];exact⟨zp,λj k hk=>CH,λj k hk=>CP⟩
 rintro n st - - ⟨i,rfl,hi,h2,h3,h8,hp8,hp8',h11,hp11,h12,hp12,h13,⟨ho1,ho2,ho3⟩⟩
 all_goals have fx:=u4 h2 h3 h11 hp11 h12 hp12<|h13
 repeat' (first|refine qK ?_|refine λ(K:St->Prop) hK=>?_)
 all_goals try clear fx
 refine w9 zU (λht=>?_) (λhf=>?_)
 .have hlt:i<(zi p B x).length:=zJ;obtain⟨z,hz⟩:=gX hlt;obtain⟨c,rfl,hcp,_⟩:=JM hz;have hcT:=hz;obtain⟨k,hk⟩:=gX hcp;have hkR:=Su (x:=x) (y:=y) hcT hk;have hcl:c<p.length:=(gS hk).1;obtain⟨_,hcT'⟩:=gS hcT;obtain⟨_,hkR'⟩:=gS hkR;clear ht;obtain⟨hkp,hkb⟩:=hs.bsm hk;have hpar:=ho2 c k hkR;have hbod:=ho3 c k hkR
  all_goals have fx:=qU h2 h3 h11 hp11 h12 hp12 h13 hlt hcT hcT' ho1 hcl<|aI hkR<|hkR'
  repeat' (first
   | refine vH ?_|refine jd ?_|refine yH ?_|refine kL λK hK=>?_
   | ((with_reducible refine vA hK ?_);clear hK K)
   | (with_reducible first|refine kz ?_)
   | (with_reducible refine jL ?_)
   | (with_reducible first|refine zL (h:=?_)|refine u5 (h:=?_)|refine jA (h:=?_))
   | (refine Ze (id:=13) (.q 0<|.q 1<|.q 2<|.q 3<|.q 4<|.q 5<|.q 6<|.q 7<|.l 8 [7,6,5,4,3,2,1,0]<|.l 9 []<|.done) mixed λK hK=>?_)
   | ((with_reducible refine u7 hK ?_);clear hK K)
   | ((with_reducible refine dZ ?_);first|refine nC (h:=?_))
   | refine a_l rfl ?_|(with_reducible refine aI ?_ ?_)|exact vL|refine wj (h2:=?_)
   | fail)
  all_goals try clear fx
  refine qX (λn st=>∃ j:Nat,n=k.params.length - j/\j<=k.params.length/\st.tm 2=iv x/\st.tm 3=iv y/\st.tm 8=.pt (.s 8) 0/\st.hp (.s 8)=some (.row 1 [[.hs (.c (.s 8) 0 0) 4 0 0]])/\st.hp (.c (.s 8) 0 0)=some (.row 4 []) /\
   st.tm 11=.pt (.s 11) 0/\st.hp (.s 11)=some (.row 1 [[.hs (.c (.s 11) 0 0) 4 0 p.length]])/\st.tm 12=.hs (.s 12) 1 0 (zi p B x).length/\st.hp (.s 12)=some (.row 1 (qT (zi p B x)))/\st.tm 13=iv i /\
   st.tm 14=.pt (.s 14) 0/\st.hp (.s 14)=some (.row 4 [[iv k.kind,iv k.parent,.hs (.c (.c (.s 11) 0 0) c 2) 1 0 k.params.length,.hs (.c (.c (.s 11) 0 0) c 3) 4 0 k.body.length]])/\st.tm 15=iv j /\
   st.hp (.c (.s 11) 0 0)=some (.row 4 (yR (.c (.s 11) 0 0) (uI (λc=>decide ((c:Int)∈(zi p B x).take i)) x y p))) /\
   st.hp (.c (.c (.s 11) 0 0) c 2)=some (.row 1 (qT (bN (λn=>jC n x y) k.params j)))/\st.hp (.c (.c (.s 11) 0 0) c 3)=some (.row 4 (jg k.body)) /\
   (∀ (d:Nat) q,(uI (λc=>decide ((c:Int)∈(zi p B x).take i)) x y p)[d]?=some q->d≠c->st.hp (.c (.c (.s 11) 0 0) d 2)=some (.row 1 (qT q.params))/\st.hp (.c (.c (.s 11) 0 0) d 3)=some (.row 4 (jg q.body)))) k.params.length ?_ ?_
  .refine⟨0,qA,qA,ql,qt,kK,wG,aW,vr,dQ,aZ,tZ,gQ,qB,qB,qB,zp,?_,ti,λd q hq hd=>⟨by simp [ho2 d q hq],by simp [ho3 d q hq]⟩⟩;rw [ct];simp [hpar]
  clear h2 h3 h8 hp8 hp8' h11 hp11 h12 hp12 h13 ho1 ho2 ho3 hpar hbod;rintro n st - - ⟨j,rfl,hj,h2,h3,h8,hp8,hp8',h11,hp11,h12,hp12,h13,h14,hp14,h15,ho1,hpar,hbod,hoth⟩
  all_goals have fx:=jI h14 hp14<|h15
  repeat' (first|refine qK ?_|refine λ(K:St->Prop) hK=>?_)
  all_goals try clear fx
  refine w9 zU (λht=>?_) (λhf=>?_)
  .have hjl:j<k.params.length:=zJ;obtain⟨u,hu⟩:=gX hjl;have hm:=bM (f:=λn=>jC n x y) hu;obtain⟨_,hm'⟩:=gS hm;clear ht
   all_goals have fx:=bA h2 h3 h14 hp14 h15 hpar hjl hm<|hm'
   repeat' (first
    | refine vH ?_|refine jd ?_|refine yH ?_|refine kL λK hK=>?_
    | ((with_reducible refine vA hK ?_);clear hK K)
    | (with_reducible first|refine qV ?_|refine kz ?_)
    | (with_reducible refine jL ?_)
    | (with_reducible first|refine zL (h:=?_)|refine jA (h:=?_))
    | ((with_reducible refine rr 87 rfl ?_);refine qJ (hF:=L1 _ _ x y) (h:=?_))
    | (with_reducible refine x_q (h:=?_))
    | (refine Ze (id:=17) Pu mixed λK hK=>?_)
    | (refine Ze (id:=21) Pu mixed λK hK=>?_)
    | ((with_reducible refine u7 hK ?_);clear hK K)
    | ((with_reducible refine dZ ?_);first|refine nC (h:=?_))
    | refine a_l rfl ?_|(with_reducible refine aI ?_ ?_)|exact vL|refine wj (h2:=?_)
    | fail)
   all_goals try clear fx
   refine⟨k.params.length - (j+1),qA,j+1,rfl,qA,ql,qt,kK,wG,aW,vr,dQ,aZ,tZ,gQ,cA,gV,zD,zp,?_,ti,λd q hq hd=>⟨by simp [(hoth d q hq hd).1,hd],by simp [(hoth d q hq hd).2]⟩⟩;rw [<- cu (f:=λn=>jC n x y) hu];simp [qT]
  have hge:j=k.params.length:=by
   have:¬ j<k.params.length:=ze;omega
  subst hge;rw [fg] at hpar;clear hf
  all_goals have fx:=jI h14 hp14<|h15
  repeat' (first|refine qK ?_|refine λ(K:St->Prop) hK=>?_)
  all_goals try clear fx
  refine qX (λn st=>∃ j:Nat,n=k.body.length - j/\j<=k.body.length/\st.tm 2=iv x/\st.tm 3=iv y/\st.tm 8=.pt (.s 8) 0/\st.hp (.s 8)=some (.row 1 [[.hs (.c (.s 8) 0 0) 4 0 0]])/\st.hp (.c (.s 8) 0 0)=some (.row 4 []) /\
   st.tm 11=.pt (.s 11) 0/\st.hp (.s 11)=some (.row 1 [[.hs (.c (.s 11) 0 0) 4 0 p.length]])/\st.tm 12=.hs (.s 12) 1 0 (zi p B x).length/\st.hp (.s 12)=some (.row 1 (qT (zi p B x)))/\st.tm 13=iv i /\
   st.tm 14=.pt (.s 14) 0/\st.hp (.s 14)=some (.row 4 [[iv k.kind,iv k.parent,.hs (.c (.c (.s 11) 0 0) c 2) 1 0 k.params.length,.hs (.c (.c (.s 11) 0 0) c 3) 4 0 k.body.length]])/\st.tm 16=iv j /\
   st.hp (.c (.s 11) 0 0)=some (.row 4 (yR (.c (.s 11) 0 0) (uI (λc=>decide ((c:Int)∈(zi p B x).take i)) x y p))) /\
   st.hp (.c (.c (.s 11) 0 0) c 2)=some (.row 1 (qT (k.params.map (λn=>jC n x y))))/\st.hp (.c (.c (.s 11) 0 0) c 3)=some (.row 4 (jg (bN (λs=>s.Zn x y) k.body j))) /\
   (∀ (d:Nat) q,(uI (λc=>decide ((c:Int)∈(zi p B x).take i)) x y p)[d]?=some q->d≠c->st.hp (.c (.c (.s 11) 0 0) d 2)=some (.row 1 (qT q.params))/\st.hp (.c (.c (.s 11) 0 0) d 3)=some (.row 4 (jg q.body)))) k.body.length ?_ ?_
  .refine⟨0,qA,qA,ql,qt,kK,wG,aW,vr,dQ,aZ,tZ,gQ,cA,gV,qB,zp,by simp [hpar],?_,λd q hq hd=>⟨by simp [(hoth d q hq hd).1],by simp [(hoth d q hq hd).2]⟩⟩;rw [ct];simp [hbod]
  clear h2 h3 h8 hp8 hp8' h11 hp11 h12 hp12 h13 h14 hp14 h15 ho1 hpar hbod hoth;rintro n st - - ⟨j,rfl,hj,h2,h3,h8,hp8,hp8',h11,hp11,h12,hp12,h13,h14,hp14,h16,ho1,hpar,hbod,hoth⟩
  all_goals have fx:=jI h14 hp14<|h16
  repeat' (first|refine qK ?_|refine λ(K:St->Prop) hK=>?_)
  all_goals try clear fx
  refine w9 zU (λht=>?_) (λhf=>?_)
  .have hjl:j<k.body.length:=zJ;obtain⟨u,hu⟩:=gX hjl;have hm:=bM (f:=λs=>s.Zn x y) hu;obtain⟨_,hm'⟩:=gS hm;clear ht
   all_goals have fx:=bA h2 h3 h14 hp14 h16 hbod hjl hm<|hm'
   repeat' (first
    | refine vH ?_|refine jd ?_|refine yH ?_|refine kL λK hK=>?_
    | ((with_reducible refine vA hK ?_);clear hK K)
    | (with_reducible first|refine qV ?_|refine kz ?_)
    | (with_reducible refine jL ?_)
    | (with_reducible first|refine zL (h:=?_)|refine jA (h:=?_))
    | ((with_reducible refine rr 88 rfl ?_);refine qJ (hF:=rG _ u x y) (h:=?_))
    | (with_reducible refine x_q (h:=?_))
    | (refine Ze (id:=17) Pu mixed λK hK=>?_)
    | (refine Ze (id:=21) Pu mixed λK hK=>?_)
    | ((with_reducible refine u7 hK ?_);clear hK K)
    | ((with_reducible refine dZ ?_);first|refine nC (h:=?_))
    | refine a_l rfl ?_|(with_reducible refine aI ?_ ?_)|exact vL|refine wj (h2:=?_)
    | fail)
   all_goals try clear fx
   refine⟨k.body.length - (j+1),qA,j+1,rfl,qA,ql,qt,kK,wG,aW,vr,dQ,aZ,tZ,gQ,cA,gV,zD,zp,by simp [hpar],?_,λd q hq hd=>⟨by simp [(hoth d q hq hd).1],by simp [(hoth d q hq hd).2,hd]⟩⟩;rw [<- cu (f:=λs=>s.Zn x y) hu];simp [Cz]
  have hge:j=k.body.length:=by
   have:¬ j<k.body.length:=ze;omega
  subst hge;rw [fg] at hbod;clear hf
  all_goals have fx:= h13
  repeat' (first|refine qK ?_|refine λ(K:St->Prop) hK=>?_)
  all_goals try clear fx
  refine⟨(zi p B x).length - (i+1),qA,i+1,rfl,qA,ql,qt,kK,wG,aW,vr,dQ,aZ,tZ,zD,?_⟩;rw [<- Pk hcT hk];refine⟨?_,λd q hq=>?_,λd q hq=>?_⟩
  .rw [D7 hkR];simp [ho1]
  all_goals
   rw [eV] at hq;by_cases e:c=d
   .subst e;rw [if_pos rfl,if_pos (gS hkR).1] at hq;obtain rfl:=sI hq;simp [hpar,hbod,Za.Zn]
   .rw [if_neg e] at hq;simp [(hoth d q hq (Ne.symm e)).1,(hoth d q hq (Ne.symm e)).2]
 have hge:i=(zi p B x).length:=by
  have:¬ i<(zi p B x).length:=ze;omega
 subst hge;simp only [Sw] at ho1 ho2 ho3;clear hf
 all_goals have fx:=yS h8 hp8 hp8' h11<|hp11
 repeat' (first|refine qK ?_|refine λ(K:St->Prop) hK=>?_)
 all_goals try clear fx
 refine qD [(.c (.s 11) 0 0,root)] (.one rfl) (by simp [h8];rfl) ⟨qB,⟨?_,λj r hj=>?_,λj r hj=>?_⟩⟩
 .simp [ho1,zA (n:=.c (.s 11) 0 0) (m:=root) (f:=jc noD [(.c (.s 11) 0 0,root)]) (p:=uI (qQ p B x) x y p) qB]
 .simp [ho2 j r hj]
 .simp [ho3 j r hj]
end Go.Proofs.YtdnebaieamppbaaGreatDoor
end
