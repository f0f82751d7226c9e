import Derived.Test.YtdnebaieamppbaaGreatDoorE60
import Derived.Test.YtdnebaieamppbaaGreatDoorE44
import Derived.Test.YtdnebaieamppbaaGreatDoorE59
import Derived.Test.YtdnebaieamppbaaGreatDoorE46
import Derived.Test.YtdnebaieamppbaaGreatDoorE50
import Derived.Test.YtdnebaieamppbaaGreatDoorE40
import Derived.Test.YtdnebaieamppbaaGreatDoorE22
import Derived.Test.YtdnebaieamppbaaGreatDoorE23
set_option linter.unusedSimpArgs false
set_option linter.unusedVariables false
set_option maxRecDepth 100000
set_option maxHeartbeats 4000000

section
namespace Go.Proofs.YtdnebaieamppbaaGreatDoor
open Go Go.Hm Go.Proofs Tryz
theorem pL (gl) (p:Z0) (b x y:Int) (hs:Sml p):qb prog gl 36 [pav p,iv b,iv x,iv y] (λr z H'=>z=.tup [.agg [.hs r 4 0 (ef p b x y).length],bv (ye p b x y)]/\qAb H' r (ef p b x y)):=by
 have hpl:=hs.len;refine qb.Zl func36 [.cell 8 25,.tmp 9] ntmps36 λC w g root=>?_
 cases hv:jF p
 .have hno:ye p b x y=false:=by simp [ye,hv]
  all_goals have fx:= hv
  repeat' (first|refine qK ?_|refine λ(K:St->Prop) hK=>?_|refine qJ (hF:=qM _ p hs) (h:=?_))
  all_goals try clear fx
  simp only [ef,hno];refine qD [(.c (.s 8) 0 0,root)] (.one rfl) qE ?_;refine⟨qB,⟨qB,λj k hk=>vQ,λj k hk=>vQ⟩⟩
 have hsh:jh p=true:=by
  simp only [jF,ba] at hv;exact hv.1
 have hp:=Z7.of hs hsh;have hh:=hp.Zc;have hl7:=hp.len
 cases hb:decide (0<=b/\b<p.length)
 .have hb':¬ (0<=b/\b<p.length):=ny
  have hno:ye p b x y=false:=by
   apply tz.2;intro h;simp only [ye,ba,decide_eq_true_eq] at h;exact hb' h.1.1.1.1.2
  all_goals have fx:=aI hv<|hb
  repeat' (first|refine qK ?_|refine λ(K:St->Prop) hK=>?_|refine qJ (hF:=qM _ p hs) (h:=?_)|refine qJ (hF:=jk _ p b) (h:=?_))
  all_goals try clear fx
  simp only [ef,hno];refine qD [(.c (.s 8) 0 0,root)] (.one rfl) qE ?_;refine⟨qB,⟨qB,λj k hk=>vQ,λj k hk=>vQ⟩⟩
 cases hx:(decide (0<=x)&&decide (x<=7))
 .have hno:ye p b x y=false:=by simp only [ye,hx];simp
  all_goals have fx:=jI hv hb<|hx
  repeat' (first|refine qK ?_|refine λ(K:St->Prop) hK=>?_|refine qJ (hF:=qM _ p hs) (h:=?_)|refine qJ (hF:=jk _ p b) (h:=?_)|refine qJ (hF:=zx _ _) (h:=?_))
  all_goals try clear fx
  simp only [ef,hno];refine qD [(.c (.s 8) 0 0,root)] (.one rfl) qE ?_;refine⟨qB,⟨qB,λj k hk=>vQ,λj k hk=>vQ⟩⟩
 cases hy:(decide (0<=y)&&decide (y<=7))
 .have hno:ye p b x y=false:=by simp only [ye,hy];simp
  all_goals have fx:=yE hv hb hx<|hy
  repeat' (first|refine qK ?_|refine λ(K:St->Prop) hK=>?_|refine qJ (hF:=qM _ p hs) (h:=?_)|refine qJ (hF:=jk _ p b) (h:=?_)|refine qJ (hF:=zx _ _) (h:=?_))
  all_goals try clear fx
  simp only [ef,hno];refine qD [(.c (.s 8) 0 0,root)] (.one rfl) qE ?_;refine⟨qB,⟨qB,λj k hk=>vQ,λj k hk=>vQ⟩⟩
 obtain⟨hb0,Zs⟩:0<=b/\b<p.length:=ny;obtain⟨hx0,hx7⟩:0<=x/\x<=7:=la;obtain⟨hy0,hy7⟩:0<=y/\y<=7:=by simpa using hy
 obtain⟨B,rfl⟩:∃ i:Nat,b=i:=⟨b.toNat,qA⟩;obtain⟨X,rfl⟩:∃ i:Nat,x=i:=⟨x.toNat,qA⟩;obtain⟨Y,rfl⟩:∃ i:Nat,y=i:=⟨y.toNat,qA⟩;have hX:X<8:=qA;have hY:Y<8:=qA;have hBl:B<p.length:=qA;obtain⟨k,hk⟩:=gX hBl
 have hro:ye p B X Y=((k.kind==1)&&qa B k X&&((X:Int) != Y)&&!ni p B Y):=by
  have h1:decide (0<=(B:Int))=true:=decide_eq_true hb0;have h2:decide ((B:Int)<p.length)=true:=decide_eq_true Zs;simp only [ye,hv,hx,hy,h1,h2,b6,DW,hk]
  cases (k.kind==1) <;> cases qa B k X <;> cases ((X:Int) != Y) <;> cases ni p B Y <;> rfl
 all_goals have fx:=u4 hv hb hx hy hBl hx7<|hy7
 repeat' (first|refine qK ?_|refine λ(K:St->Prop) hK=>?_|refine qJ (hF:=qM _ p hs) (h:=?_)|refine qJ (hF:=jk _ p B) (h:=?_)|refine qJ (hF:=zx _ _) (h:=?_)|refine FC (hF:=dh _ p hs hh hp.names) (h:=?_))
 all_goals try clear fx
 rintro z H' ⟨rfl,hO⟩;obtain⟨hc1,hc2⟩:=hO.qAH;refine⟨qB,?_⟩
 all_goals have fx:=Zk
 repeat' (first|refine qK ?_|refine λ(K:St->Prop) hK=>?_|refine qJ (hB:=(by first|((repeat' (first|exact .nil|refine .cons ?_ ?_|exact .refl _|exact vF vt vw|exact km vt vw eL|exact dS (n:=.s 10) (p:=p) ⟨bW,λj k hj hk=>gA⟩ hh rfl));done)|fail)) (hF:=EU _ p hp B k hk X Y hX hY) (h:=?_))
 all_goals try clear fx
 refine w9 zU (λht=>?_) (λhf=>?_)
 .have hno:ye p B X Y=false:=by
   rw [hro];revert ht
   cases (k.kind==1) <;> cases qa B k X <;> cases ((X:Int) != Y) <;> cases ni p B Y <;> simp
  clear ht
  all_goals have fx:=Zk
  repeat' (first|refine qK ?_|refine λ(K:St->Prop) hK=>?_)
  all_goals try clear fx
  simp only [ef,hno];refine qD [(.c (.s 8) 0 0,root)] (.one rfl) qE ?_;refine⟨qB,⟨qB,λj k hk=>vQ,λj k hk=>vQ⟩⟩
 have hyes:ye p B X Y=true:=by
  rw [hro];revert hf
  cases (k.kind==1) <;> cases qa B k X <;> cases ((X:Int) != Y) <;> cases ni p B Y <;> simp
 have hg:ef p B X Y=uI (qQ p B X) X Y p:=by simp only [ef,hyes,if_true]
 rw [hg,hyes];clear hf hro
 all_goals have fx:=Zk
 repeat' (first|refine qK ?_|refine λ(K:St->Prop) hK=>?_|refine FC (hF:=N9 _ p hs) (h:=?_))
 all_goals try clear fx
 rintro z H2 ⟨rfl,hP⟩;obtain⟨ho1,ho2,ho3⟩:=hP.qAH;refine⟨qB,?_⟩
 all_goals have fx:= ho1
 repeat' (first|refine qK ?_|refine λ(K:St->Prop) hK=>?_)
 all_goals try clear fx
 refine qX (λn st=>∃ i:Nat,n=p.length - i/\i<=p.length/\st.tm 1=iv B/\st.tm 2=iv X/\st.tm 3=iv Y/\st.tm 8=.pt (.s 8) 0/\st.hp (.s 8)=some (.row 1 [[.hs (.c (.s 8) 0 0) 4 0 0]])/\st.hp (.c (.s 8) 0 0)=some (.row 4 [])/\st.tm 11=.pt (.s 11) 0/\st.hp (.s 11)=some (.row 1 [[.hs (.c (.s 11) 0 0) 4 0 p.length]])/\st.tm 50=.hs (.s 10) 1 0 p.length/\qBc st.hp (.s 10) p p.length/\st.tm 51=iv p.length/\st.tm 52=iv i/\qAb st.hp (.c (.s 11) 0 0) (uI (fB p B X i) X Y p)) p.length ?_ ?_
 .refine⟨0,qA,qA,qB,qB,qB,qB,qB,qB,qB,qB,qB,⟨bW,λj k hj hk=>gA⟩,qB,qB,?_⟩;rw [LL];exact⟨zp,λj k hk=>CH,λj k hk=>CP⟩
 clear ho1 ho2 ho3 hP hc1 hc2 hO;rintro n st - - ⟨i,rfl,hi,h1,h2,h3,h8,hp8,hp8',h11,hp11,h50,⟨hc1,hc2⟩,h51,h52,⟨ho1,ho2,ho3⟩⟩
 all_goals have fx:=aI h51<|h52
 repeat' (first|refine qK ?_|refine λ(K:St->Prop) hK=>?_)
 all_goals try clear fx
 refine w9 zU (λht=>?_) (λhf=>?_)
 .have hlt:i<p.length:=zJ;obtain⟨q,hq⟩:=gX hlt;have hsg:=Hx (n:=.s 10) hlt;obtain⟨_,hse⟩:=gS hsg;clear ht;have hth:qQ p B X i=(decide ((X:Int)∈q.us)&&decide (q7 p i X=B)):=by simp only [qQ,hq]
  cases hu:decide ((X:Int)∈q.us)
  .have hto:qQ p B X i=false:=by rw [hth,hu];rfl
   all_goals have fx:=jJ h1 h2 h3 h50 hc1 h51 h52 hsg hse hlt<|hu
   repeat' (first|refine qK ?_|refine λ(K:St->Prop) hK=>?_|refine qJ (hB:=tc) (hF:=uR _ p i q X hX) (h:=?_))
   all_goals try clear fx
   refine⟨p.length - (i+1),qA,i+1,rfl,qA,qy,ql,qt,kK,wG,aW,vr,dQ,gR,⟨bW,λj k hj hk=>gA⟩,ij,zD,?_⟩;rw [<- Cn hto];exact⟨zp,λj k hk=>CH,λj k hk=>CP⟩
  cases hw:(q7 p i X==B)
  .have hto:qQ p B X i=false:=by
    rw [hth];have:¬ q7 p i X=B:=by simpa using hw
    simp [this]
   all_goals have fx:=qU h1 h2 h3 h50 hc1 h51 h52 hsg hse hlt hu hw<|@qL
   repeat' (first|refine qK ?_|refine λ(K:St->Prop) hK=>?_|refine qJ (hB:=tc) (hF:=uR _ p i q X hX) (h:=?_)|refine qJ (hB:=tc) (hF:=zH _ p hp i q hq X hX) (h:=?_))
   all_goals try clear fx
   refine⟨p.length - (i+1),qA,i+1,rfl,qA,qy,ql,qt,kK,wG,aW,vr,dQ,gR,⟨bW,λj k hj hk=>gA⟩,ij,zD,?_⟩;rw [<- Cn hto];exact⟨zp,λj k hk=>CH,λj k hk=>CP⟩
  have hto:qQ p B X i=true:=by
   rw [hth,hu];have:q7 p i X=B:=by simpa using hw
   simp [this]
  have hkR:=PN (b:=B) (x:=X) (y:=Y) hq;obtain⟨_,hkR'⟩:=gS hkR;obtain⟨hkp,hkb⟩:=hs.bsm hq;have hpar:=ho2 i q hkR;have hbod:=ho3 i q hkR
  all_goals have fx:=qU h1 h2 h3 h50 hc1 h51 h52 hsg hse hlt hu hw<|uD @qL h11 hp11 ho1 hkR<|hkR'
  repeat' (first|refine qK ?_|refine λ(K:St->Prop) hK=>?_|refine qJ (hB:=tc) (hF:=uR _ p i q X hX) (h:=?_)|refine qJ (hB:=tc) (hF:=zH _ p hp i q hq X hX) (h:=?_))
  all_goals try clear fx
  refine qX (λn st=>∃ j:Nat,n=q.params.length - j/\j<=q.params.length/\st.tm 1=iv B/\st.tm 2=iv X/\st.tm 3=iv Y/\st.tm 8=.pt (.s 8) 0/\st.hp (.s 8)=some (.row 1 [[.hs (.c (.s 8) 0 0) 4 0 0]])/\st.hp (.c (.s 8) 0 0)=some (.row 4 [])/\st.tm 11=.pt (.s 11) 0/\st.hp (.s 11)=some (.row 1 [[.hs (.c (.s 11) 0 0) 4 0 p.length]])/\st.tm 50=.hs (.s 10) 1 0 p.length/\qBc st.hp (.s 10) p p.length/\st.tm 51=iv p.length/\st.tm 52=iv i /\
   st.tm 14=.pt (.s 14) 0/\st.hp (.s 14)=some (.row 4 [[iv q.kind,iv q.parent,.hs (.c (.c (.s 11) 0 0) i 2) 1 0 q.params.length,.hs (.c (.c (.s 11) 0 0) i 3) 4 0 q.body.length]])/\st.tm 74=.hs (.c (.c (.s 11) 0 0) i 2) 1 0 q.params.length/\st.tm 75=iv q.params.length/\st.tm 76=iv j/\st.hp (.c (.s 11) 0 0)=some (.row 4 (yR (.c (.s 11) 0 0) (uI (fB p B X i) X Y p))) /\
   st.hp (.c (.c (.s 11) 0 0) i 2)=some (.row 1 (qT (bN (λn=>jC n X Y) q.params j)))/\st.hp (.c (.c (.s 11) 0 0) i 3)=some (.row 4 (jg q.body))/\(∀ (d:Nat) k,(uI (fB p B X i) X Y p)[d]?=some k->d≠i->st.hp (.c (.c (.s 11) 0 0) d 2)=some (.row 1 (qT k.params))/\st.hp (.c (.c (.s 11) 0 0) d 3)=some (.row 4 (jg k.body)))) q.params.length ?_ ?_
  .refine⟨0,qA,qA,qy,ql,qt,kK,wG,aW,vr,dQ,gR,⟨bW,λj k hj hk=>gA⟩,ij,ld,qB,qB,qB,qB,qB,zp,?_,ti,λd k hq hd=>⟨by simp [ho2 d k hq],by simp [ho3 d k hq]⟩⟩;rw [ct];simp [hpar]
  clear h1 h2 h3 h8 hp8 hp8' h11 hp11 h50 hc1 hc2 h51 h52 ho1 ho2 ho3 hpar hbod hsg hse;rintro n st - - ⟨j,rfl,hj,h1,h2,h3,h8,hp8,hp8',h11,hp11,h50,⟨hc1,hc2⟩,h51,h52,h14,hp14,h74,h75,h76,ho1,hpar,hbod,hoth⟩
  all_goals have fx:=aI h75<|h76
  repeat' (first|refine qK ?_|refine λ(K:St->Prop) hK=>?_)
  all_goals try clear fx
  refine w9 zU (λht=>?_) (λhf=>?_)
  .have hjl:j<q.params.length:=zJ;obtain⟨u,hpu⟩:=gX hjl;have hm:=bM (f:=λn=>jC n X Y) hpu;obtain⟨_,hm'⟩:=gS hm;clear ht
   cases hux:(u==(X:Int))
   .have hsw:jC u X Y=u:=by
     have:¬ u=X:=by simpa using hux
     simp [jC,this]
    all_goals have fx:=jJ h2 h3 h14 hp14 h74 h75 h76 hpar hjl hm<|aI hm'<|hux
    repeat' (first|refine qK ?_|refine λ(K:St->Prop) hK=>?_)
    all_goals try clear fx
    refine⟨q.params.length - (j+1),qA,j+1,rfl,qA,qy,ql,qt,kK,wG,aW,vr,dQ,gR,⟨bW,λj k hj hk=>gA⟩,ij,ld,cA,gV,by simp [h74],by simp [h75],zD,zp,?_,ti,λd k hq hd=>⟨G9,GG⟩⟩;rw [Ju (f:=λn=>jC n X Y) hpu hsw];simp [hpar]
   .have hsw:jC u X Y=Y:=by
     have:u=X:=by simpa using hux
     simp [jC,this]
    all_goals have fx:=jJ h2 h3 h14 hp14 h74 h75 h76 hpar hjl hm<|aI hm'<|hux
    repeat' (first|refine qK ?_|refine λ(K:St->Prop) hK=>?_)
    all_goals try clear fx
    refine⟨q.params.length - (j+1),qA,j+1,rfl,qA,qy,ql,qt,kK,wG,aW,vr,dQ,gR,⟨bW,λj k hj hk=>gA⟩,ij,ld,cA,gV,by simp [h74],by simp [h75],zD,zp,?_,ti,λd k hq hd=>⟨by simp [(hoth d k hq hd).1,hd],GG⟩⟩;rw [<- cu (f:=λn=>jC n X Y) hpu];simp [qT,hsw]
  have hge:j=q.params.length:=by
   have:¬ j<q.params.length:=ze;omega
  subst hge;rw [fg] at hpar;clear hf
  all_goals have fx:=aI h14<|hp14
  repeat' (first|refine qK ?_|refine λ(K:St->Prop) hK=>?_)
  all_goals try clear fx
  refine qX (λn st=>∃ j:Nat,n=q.body.length - j/\j<=q.body.length/\st.tm 1=iv B/\st.tm 2=iv X/\st.tm 3=iv Y/\st.tm 8=.pt (.s 8) 0/\st.hp (.s 8)=some (.row 1 [[.hs (.c (.s 8) 0 0) 4 0 0]])/\st.hp (.c (.s 8) 0 0)=some (.row 4 [])/\st.tm 11=.pt (.s 11) 0/\st.hp (.s 11)=some (.row 1 [[.hs (.c (.s 11) 0 0) 4 0 p.length]])/\st.tm 50=.hs (.s 10) 1 0 p.length/\qBc st.hp (.s 10) p p.length/\st.tm 51=iv p.length/\st.tm 52=iv i /\
   st.tm 14=.pt (.s 14) 0/\st.hp (.s 14)=some (.row 4 [[iv q.kind,iv q.parent,.hs (.c (.c (.s 11) 0 0) i 2) 1 0 q.params.length,.hs (.c (.c (.s 11) 0 0) i 3) 4 0 q.body.length]])/\st.tm 91=.hs (.c (.c (.s 11) 0 0) i 3) 4 0 q.body.length/\st.tm 92=iv q.body.length/\st.tm 93=iv j/\st.hp (.c (.s 11) 0 0)=some (.row 4 (yR (.c (.s 11) 0 0) (uI (fB p B X i) X Y p))) /\
   st.hp (.c (.c (.s 11) 0 0) i 2)=some (.row 1 (qT (q.params.map (λn=>jC n X Y))))/\st.hp (.c (.c (.s 11) 0 0) i 3)=some (.row 4 (jg (bN (λs=>s.Zn X Y) q.body j)))/\(∀ (d:Nat) k,(uI (fB p B X i) X Y p)[d]?=some k->d≠i->st.hp (.c (.c (.s 11) 0 0) d 2)=some (.row 1 (qT k.params))/\st.hp (.c (.c (.s 11) 0 0) d 3)=some (.row 4 (jg k.body)))) q.body.length ?_ ?_
  .refine⟨0,qA,qA,qy,ql,qt,kK,wG,aW,vr,dQ,gR,⟨bW,λj k hj hk=>gA⟩,ij,ld,cA,gV,qB,qB,qB,zp,by simp [hpar],?_,λd k hq hd=>⟨G9,GG⟩⟩;rw [ct];simp [hbod]
  clear h1 h2 h3 h8 hp8 hp8' h11 hp11 h50 hc1 hc2 h51 h52 ho1 hpar hbod hoth h14 hp14 h74 h75 h76;rintro n st - - ⟨j,rfl,hj,h1,h2,h3,h8,hp8,hp8',h11,hp11,h50,⟨hc1,hc2⟩,h51,h52,h14,hp14,h91,h92,h93,ho1,hpar,hbod,hoth⟩
  all_goals have fx:=aI h92<|h93
  repeat' (first|refine qK ?_|refine λ(K:St->Prop) hK=>?_)
  all_goals try clear fx
  refine w9 zU (λht=>?_) (λhf=>?_)
  .have hjl:j<q.body.length:=zJ;obtain⟨u,hpu⟩:=gX hjl;have hm:=bM (f:=λs=>s.Zn X Y) hpu;obtain⟨_,hm'⟩:=gS hm;have huk:=(hp.names q (gM hq)).kinds u (gM hpu);clear ht
   all_goals have fx:=jJ h2 h3 h14 hp14 h91 h92 h93 hbod hjl hm<|hm'
   repeat' (first
    | refine vH ?_|refine jd ?_|refine yH ?_|refine kL λK hK=>?_
    | ((with_reducible refine vA hK ?_);clear hK K)
    | (with_reducible first|refine qV ?_|refine kz ?_)
    | (with_reducible refine jL ?_)
    | (with_reducible first|refine zL (h:=?_)|refine u5 (h:=?_)|refine jA (h:=?_))
    | ((with_reducible refine rr 77 rfl ?_);refine qJ (hF:=sT _ u X Y huk) (h:=?_))
    | (with_reducible refine x_q (h:=?_))
    | (refine Ze (id:=21) (.q 0<|.q 1<|.q 2<|.q 3<|.q 4<|.q 5<|.l 6 [2,1,0]<|.q 7<|.l 8 []<|.done) mixed λK hK=>?_)
    | ((with_reducible refine u7 hK ?_);clear hK K)
    | ((with_reducible refine dZ ?_);first|refine nC (h:=?_))
    | refine a_l rfl ?_|(with_reducible refine aI ?_ ?_)|exact vL|refine wj (h2:=?_)
    | fail)
   all_goals try clear fx
   refine⟨q.body.length - (j+1),qA,j+1,rfl,qA,qy,ql,qt,kK,wG,aW,vr,dQ,gR,⟨bW,λj k hj hk=>gA⟩,ij,ld,cA,gV,by simp [h91],by simp [h92],zD,zp,by simp [hpar],?_,λd k hq hd=>⟨G9,by simp [(hoth d k hq hd).2,hd]⟩⟩;rw [<- cu (f:=λs=>s.Zn X Y) hpu];simp [Cz]
  have hge:j=q.body.length:=by
   have:¬ j<q.body.length:=ze;omega
  subst hge;rw [fg] at hbod;clear hf
  all_goals have fx:= h52
  repeat' (first|refine qK ?_|refine λ(K:St->Prop) hK=>?_)
  all_goals try clear fx
  refine⟨p.length - (i+1),qA,i+1,rfl,qA,qy,ql,qt,kK,wG,aW,vr,dQ,gR,⟨bW,λj k hj hk=>gA⟩,ij,zD,?_⟩;rw [<- LM hq hto];refine⟨?_,λd k hq=>?_,λd k hq=>?_⟩
  .rw [D7 hkR];simp [ho1]
  all_goals
   rw [eV] at hq;by_cases e:i=d
   .subst e;rw [if_pos rfl,if_pos (gS hkR).1] at hq;obtain rfl:=sI hq;simp [hpar,hbod,Za.Zn]
   .rw [if_neg e] at hq;simp [(hoth d k hq (Ne.symm e)).1,(hoth d k hq (Ne.symm e)).2]
 have hge:i=p.length:=by
  have:¬ i<p.length:=ze;omega
 subst hge;simp only [PO] at ho1 ho2 ho3;clear hf
 all_goals have fx:=yS h8 hp8 hp8' h11<|hp11
 repeat' (first|refine qK ?_|refine λ(K:St->Prop) hK=>?_)
 all_goals try clear fx
 refine qD [(.c (.s 11) 0 0,root)] (.one rfl) (by simp [h8];rfl) ⟨qB,⟨?_,λj r hj=>?_,λj r hj=>?_⟩⟩
 .simp [ho1,zA (n:=.c (.s 11) 0 0) (m:=root) (f:=jc noD [(.c (.s 11) 0 0,root)]) (p:=uI (qQ p B X) X Y p) qB]
 .simp [ho2 j r hj]
 .simp [ho3 j r hj]
abbrev Xt:Zh:=.q 0<|.l 1 []<|.q 2<|.q 3<|.q 5<|.l 4 [5]<|.l 6 []<|.q 7<|.q 8<|.q 9<|.q 11<|.l 10 [11]<|.l 12 []<|.q 13<|.l 14 []<|.done
theorem yK {A G G2:Prop} (k:G2) (x:A) (h:A->Zx G2->G:=by
 intro fx kk;refine qG ?_
 repeat ((first|refine Ze (id:=9) Xt mixed ?_);refine qZ ?_;refine qG ?_)
 exact kk.h):G:=h x ⟨k⟩
theorem C7 (gl:Nat->Option (List AV)) (hgl:gl 0=some dH) (code:List Int) (hcode:∀ v∈code,0<=v/\v<=255) (hbig:code.length<=1152921504606846976) :
  qb prog gl 8 [bsl code] (λ_ z _=>z=bv true):=by
 refine qb.Zl func8 [.tmp 2] ntmps8 λC w g root=>?_;by_cases hlen:1048576<code.length
 .have hl1:(1048576:Int)<code.length:=qA;refine yK ?_<| hl1;refine qD [] .nil qE qB
 have hl1:¬ (1048576:Int)<code.length:=qA;have hc:qBK code:=⟨qA,hcode⟩;have fx:= hl1;have e1:=xL gl code hc;refine yK ?_<|fx;clear fx e1;rintro K hK z H1 ⟨p,b,x,y,rfl,hO,hs⟩;obtain⟨ho1,ho2,ho3⟩:=hO.qAH;refine⟨qB,?_⟩;have hpl:=hs.len;have hG:=Pp (b:=b) (x:=x) (y:=y) hs;have hsf:=pG gl p b x y hs;have hif:=pL gl p b x y hs
 have hlaw:ye p b x y=true->jF (ef p b x y)=true/\Ay (ef p b x y) 150=Ay p 150:=λh=>by
  obtain⟨B,rfl⟩:∃ B:Nat,b=B:=by
   simp only [ye,ba,decide_eq_true_eq] at h;exact⟨b.toNat,qA⟩
  exact Ji hs h
 generalize ye p b x y=ok at hsf hif hlaw;generalize ef p b x y=G at hsf hif hG hlaw;have hGl:=hG.len;refine yK ?_<| ho1;intro K hK;refine uJ (λst=>qCW st 3 p/\st.tm 4=iv b/\st.tm 5=iv x/\st.tm 6=iv y/\st.tm 23=.agg [.hs (.c (.s 3) 0 0) 4 0 p.length]/\st.tm 24=iv b/\st.tm 25=iv x/\st.tm 26=iv y) ⟨⟨qB,qB,⟨zp,λj r hj=>yu,λj r hj=>yv⟩⟩,qB,qB,qB,qB,qB,qB,qB⟩ ?_;clear hO ho1 ho2 ho3;rintro st ⟨⟨h3,hp3,⟨a1,a2,a3⟩⟩,h4,h5,h6,h23,h24,h25,h26⟩;have fx:=bA h3 hp3 h4 h5 h6 h23 h24 h25<|h26;have e1:=hif;refine yK ?_<|fx;clear fx e1;rintro z H2 ⟨rfl,hO⟩;obtain⟨ho1,ho2,ho3⟩:=hO.qAH;refine⟨qB,?_⟩;refine yK ?_<|uD ho1 h3 hp3 h4 h5<|h6;intro K hK;refine uJ (λst=>qCW st 3 p/\qCW st 7 G/\st.tm 8=bv ok/\st.tm 31=.agg [.hs (.c (.s 3) 0 0) 4 0 p.length]/\st.tm 32=iv b/\st.tm 33=iv x/\st.tm 34=iv y) ⟨⟨qt,jv,⟨by simp [a1],λj r hj=>by simp [a2 j r hj],λj r hj=>by simp [a3 j r hj]⟩⟩,⟨qB,qB,⟨zp,λj r hj=>yu,λj r hj=>yv⟩⟩,qB,by simp [h3,hp3],jp,z7,j3⟩ ?_;clear hO ho1 ho2 ho3 h3 hp3 a1 a2 a3 h4 h5 h6 h23 h24 h25 h26;rintro st ⟨⟨h3,hp3,⟨a1,a2,a3⟩⟩,⟨h7,hp7,⟨b1,b2,b3⟩⟩,h8,h31,h32,h33,h34⟩;have fx:=bA h3 hp3 h7 hp7 h8 h31 h32 h33<|h34;have e1:=hsf;refine yK ?_<|fx;clear fx e1;rintro z H3 ⟨rfl,hO⟩;obtain⟨ho1,ho2,ho3⟩:=hO.qAH;refine⟨qB,?_⟩;refine yK ?_<|yS ho1 h3 hp3 h7<|hp7;intro K hK
 refine uJ (λst=>qCW st 3 p/\qCW st 7 G/\st.tm 8=bv ok/\qCW st 9 G/\st.tm 10=bv ok/\st.tm 38=.agg [.hs (.c (.s 7) 0 0) 4 0 G.length]/\st.tm 39=.agg [.hs (.c (.s 9) 0 0) 4 0 G.length]) ⟨⟨qt,jv,⟨by simp [a1],λj r hj=>by simp [a2 j r hj],λj r hj=>by simp [a3 j r hj]⟩⟩,⟨wI,cQ,⟨by simp [b1],λj r hj=>by simp [b2 j r hj],λj r hj=>by simp [b3 j r hj]⟩⟩,kK,⟨qB,qB,⟨zp,λj r hj=>yu,λj r hj=>yv⟩⟩,qB,by simp [h7,hp7],qB⟩ ?_;clear hO ho1 ho2 ho3 h3 hp3 a1 a2 a3 h7 hp7 b1 b2 b3 h8 h31 h32 h33 h34;rintro st ⟨⟨h3,hp3,⟨a1,a2,a3⟩⟩,⟨h7,hp7,⟨b1,b2,b3⟩⟩,h8,⟨h9,hp9,⟨ho1,ho2,ho3⟩⟩,h10,h38,h39⟩;have heq:=se gl G G hG hG;simp only [decide_true] at heq
 cases ok
 .skip
  have fx:=bA h38 h39 h8 h10 h7 hp7 h9 hp9<|@qL;have c1:=heq;refine yK ?_<|fx;clear fx c1;refine qD [] .nil qE qB
 obtain⟨hvG,hres⟩:=hlaw rfl;have hib:=kf gl p 150 hs;have hib2:=kf gl G 150 hG;have hic:=fq gl hgl G 150 hG;have hvp:=qM gl G hG;rw [hvG] at hvp;rw [Rj hG] at hic;rw [hres] at hib2 hic;obtain⟨hq1,hq2⟩:=Pi (f:=150) hs;clear hlaw hres hsf hif;generalize Ay p 150=R at *;have heqR:=ie gl R qA qA;have fx:=jJ h38 h39 h8 h10 h7 hp7 h9 hp9 h3 hp3<|@qL;have c1:=heq;have e1:=hib;refine yK ?_<|fx;clear fx c1 e1;rintro K hK y H4 ⟨rfl,hR⟩;obtain⟨r1,r2⟩:=hR.qAH;refine⟨qB,?_⟩;refine yK ?_<|yE r1 r2 h7<|hp7;intro K hK;refine uJ (λst=>qCW st 7 G/\st.tm 11=.pt (.s 11) 0/\st.hp (.s 11)=some (.row 4 [R.own (.s 60)])/\qBf st.hp (.s 60) R/\st.tm 61=.agg [.hs (.c (.s 7) 0 0) 4 0 G.length]) ⟨⟨wI,cQ,⟨by simp [b1],λj r hj=>by simp [b2 j r hj],λj r hj=>by simp [b3 j r hj]⟩⟩,qB,qB,⟨eN,eI⟩,by simp [h7,hp7]⟩ ?_;clear h3 hp3 a1 a2 a3 h7 hp7 b1 b2 b3 h8 h9 hp9 ho1 ho2 ho3 h10 h38 h39 hR r1 r2 hib heq;rintro st ⟨⟨h7,hp7,⟨b1,b2,b3⟩⟩,h11,hp11,⟨r1,r2⟩,h61⟩;rw [Rsl.qB1] at hp11;have fx:=u4 h7 hp7 h11 hp11 h61 r1<|r2;have c1:=hvp;have e1:=hib2;refine yK ?_<|fx;clear fx c1 e1;rintro y H5 ⟨rfl,hR5⟩;obtain⟨s1,s2⟩:=hR5.qAH;refine⟨qB,?_⟩;refine yK ?_<|kO h7 hp7 h11 hp11 r1 r2 s1<|s2;have fx:=aI hp11 h11
 refine zl (hB:=.cons (ik (n:=.s 65) (r:=R) ⟨by simp [s1],by simp [s2]⟩) (.cons (ik (n:=.s 60) (r:=R) ⟨eN,eI⟩) .nil)) (hF:=heqR) (h:=?_);clear fx;have fx:=yE h7 hp7 h11<|hp11;have e1:=hic;refine yK ?_<|fx;clear fx e1;rintro y H6 ⟨rfl,hR6⟩;obtain⟨t1,t2⟩:=hR6.qAH;refine⟨qB,?_⟩;refine yK ?_<|kO h7 hp7 h11 hp11 r1 r2 t1<|t2;have fx:=aI hp11 h11;refine zl (hB:=.cons (ik (n:=.s 71) (r:=R) ⟨gH,yt⟩) (.cons (ik (n:=.s 60) (r:=R) ⟨eN,eI⟩) .nil)) (hF:=heqR) (h:=?_);clear fx;refine yK ?_<| h11;refine qD [] .nil qE qB
end Go.Proofs.YtdnebaieamppbaaGreatDoor
end
