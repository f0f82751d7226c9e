import Derived.Test.YtdnebaieamppbaaGreatDoorF30
import Derived.RangeFuncFrom
import Derived.RangeFuncNested
import Derived.RangeFuncBound
import Derived.RangeFuncCalls
import Derived.RangeFuncLeaves
import Derived.Shelf.Abstract
import Derived.Shelf.RegionOpen
import Derived.OwnWalkIn
import Derived.TacticsInMore
import Derived.LoopNIn
import Derived.LoopIn
set_option linter.unusedSimpArgs false
set_option linter.unusedVariables false
set_option maxRecDepth 100000
set_option maxHeartbeats 4000000

section
namespace Go.Proofs.YtdnebaieamppbaaGreatDoor
open Go Go.Hm Go.Proofs Tryz
theorem L4 (gl) (a:Int):qX prog gl 278 [.agg [iv a]] (λr y H'=>y=.hs r 1 0 0/\H' r=some (.row 1 [])):=by
 refine qX.Yb func278 [.tmp 2] ntmps278 λC w g root=>?_;refine qD ?_<|Ya;exact zq (t:=2) zT zT qB
theorem J2 (gl) (a:Int):qX prog gl 272 [.agg [iv a]] (λr y H'=>y=.hs r 1 0 1/\H' r=some (.row 1 [[iv a]])):=by
 refine qX.Yb func272 [.tmp 2] ntmps272 λC w g root=>?_;refine qD ?_<|Ya;exact zq (t:=2) zT zT qB
theorem Nf (gl) (a b:Int):qX prog gl 274 [.agg [iv a,iv b]] (λr y H'=>y=.hs r 1 0 2/\H' r=some (.row 1 [[iv a],[iv b]])):=by
 refine qX.Yb func274 [.tmp 2] ntmps274 λC w g root=>?_;refine qD ?_<|Ya;exact zq (t:=2) zT zT qB
theorem tZ (gl) (a b:Int):qX prog gl 277 [.agg [iv a,iv b]] (λr y H'=>y=.hs r 1 0 0/\H' r=some (.row 1 [])):=by
 refine qX.Yb func277 [.tmp 2] ntmps277 λC w g root=>?_;refine qD ?_<|Ya;exact zq (t:=2) zT zT qB
theorem xF (gl) (a b:Int):qX prog gl 233 [.agg [iv a,iv b]] (λr y H'=>y=.hs r 1 0 (if b=-1 then [a] else [a,b]).length/\H' r=some (.row 1 (qS (if b=-1 then [a] else [a,b])))):=by
 refine qX.Yb func233 [.tmp 2] ntmps233 λC w g root=>?_;by_cases hb:b=-1
 .subst hb;refine qD ?_<|Ya;exact zq (t:=2) zT zT qB
 .have h1:(b == -1)=false:=by simp [hb]
  rw [if_neg hb];refine qD ?_<| h1;exact zq (t:=2) zT zT qB
theorem MU (gl) (a b:Int):qX prog gl 273 [.agg [iv a,iv b]] (λr y H'=>y=.hs r 1 0 1/\H' r=some (.row 1 [[iv a]])):=by
 refine qX.Yb func273 [.tmp 2] ntmps273 λC w g root=>?_;refine qD ?_<|Ya;exact zq (t:=2) zT zT qB
theorem Ei (gl) (a:Int):qX prog gl 275 [.agg [iv a]] (λr y H'=>y=.hs r 1 0 1/\H' r=some (.row 1 [[iv a]])):=by
 refine qX.Yb func275 [.tmp 2] ntmps275 λC w g root=>?_;refine qD ?_<|Ya;exact zq (t:=2) zT zT qB
theorem CY (gl) (a:Int):qX prog gl 276 [.agg [iv a]] (λr y H'=>y=.hs r 1 0 1/\H' r=some (.row 1 [[iv a]])):=by
 refine qX.Yb func276 [.tmp 2] ntmps276 λC w g root=>?_;refine qD ?_<|Ya;exact zq (t:=2) zT zT qB
theorem lR (gl):qX prog gl 279 [.agg []] (λr y H'=>y=.hs r 1 0 0/\H' r=some (.row 1 [])):=by
 refine qX.Yb func279 [.tmp 2] ntmps279 λC w g root=>?_;refine qD ?_<|Ya;exact zq (t:=2) zT zT qB
theorem JZ (gl):qX prog gl 280 [.agg []] (λr y H'=>y=.hs r 1 0 0/\H' r=some (.row 1 [])):=by
 refine qX.Yb func280 [.tmp 2] ntmps280 λC w g root=>?_;refine qD ?_<|Ya;exact zq (t:=2) zT zT qB
noncomputable def HB (nm:String):Bool:=decide (HO prog 241 nm=some 278)&&decide (HO prog 190 nm=some 272)&&decide (HO prog 194 nm=some 274)&&decide (HO prog 205 nm=some 277)&&decide (HO prog 196 nm=some 233)&&decide (HO prog 192 nm=some 273)&&decide (HO prog 198 nm=some 275)&&decide (HO prog 199 nm=some 276)&&decide (HO prog 243 nm=some 279)&&decide (HO prog 244 nm=some 280)
theorem oj (gl) {nm:String} (hm:HB nm=true) (s:Y5) (h:0<=s.kind/\s.kind<=11):VU prog gl nm (vC s) (λr y H'=>y=.hs r 1 0 s.reads.length/\H' r=some (.row 1 (qS s.reads))):=by
 simp only [HB,uR,decide_eq_true_eq] at hm;obtain⟨⟨⟨⟨⟨⟨⟨⟨⟨m_num,m_copy⟩,m_add⟩,m_make⟩,m_call⟩,m_get⟩,m_print⟩,m_return⟩,m_declare⟩,m_drop⟩:=hm;obtain⟨n,to,a,b⟩:=s;rcases fK n with rfl|rfl|rfl|rfl|rfl|rfl|rfl|rfl|rfl|rfl|rfl|rfl|hn
 case inr.inr.inr.inr.inr.inr.inr.inr.inr.inr.inr.inr=>exact absurd h hn
 .exact⟨_,_,_,Pk,m_num,L4 _ _⟩
 .exact⟨_,_,_,Pj,m_copy,J2 _ _⟩
 .exact⟨_,_,_,Pi,m_add,Nf _ _ _⟩
 .exact⟨_,_,_,Ph,m_make,tZ _ _ _⟩
 .exact⟨_,_,_,Pg,m_make,tZ _ _ _⟩
 .exact⟨_,_,_,Pf,m_call,xF _ _ _⟩
 .exact⟨_,_,_,Pe,m_get,MU _ _ _⟩
 .exact⟨_,_,_,Pd,m_print,Ei _ _⟩
 .exact⟨_,_,_,Pc,m_return,CY _ _⟩
 .exact⟨_,_,_,Pb,m_declare,lR _⟩
 .exact⟨_,_,_,M2,m_declare,lR _⟩
 .exact⟨_,_,_,M1,m_drop,JZ _⟩
theorem sd (gl) (k:Y4) (d:Int) (hn:qBW k) (hs:BSm k):qX prog gl 123 [k.av,iv d] (λ_ y _=>y=.agg (ye (k.dc d))):=by
 have Ym:=hs.body;refine qX.Yb func123 [.cell 4 179] ntmps123 λC w g root=>?_;refine qD ?_<|Ya;refine qR (λn st=>∃ i:Nat,n=k.body.length - i/\i<=k.body.length/\st.tm 1=iv d/\st.tm 4=.pt (.s 4) 0/\st.hp (.s 4)=some (.row 8 [ye []])/\st.tm 5=.pt (.s 5) 0/\st.hp (.s 5)=some (.row 8 [ye (((k.body.take i).filter (λs=>decide (s.kind=d))).map Y5.to)])/\st.tm 9=ssl k.body/\st.tm 10=iv k.body.length/\st.tm 11=iv i) k.body.length ?_ ?_
 .exact⟨0,qB,qB,qB,qB,qF,qB,qF,qB,qB,qB⟩
 rintro n st - - ⟨i,rfl,hi,h1,h4,hp4,h5,hp5,h9,h10,h11⟩;refine qD ?_<|jD h9 h10<|h11;refine wJ zK (λht=>?_) (λhf=>?_)
 .have hlt:i<k.body.length:=zE;obtain⟨s,hsi⟩:=gX hlt;have hto:=hn.Yw s (gM hsi);obtain⟨x,hx⟩:∃ x:Nat,s.to=x:=⟨s.to.toNat,qA⟩;have hx8:(x:Int)<8:=qA;clear ht;refine qD ?_<|yl h9 h10 h11 hsi<|h1;refine wJ zK (λht=>?_) (λhf=>?_)
  .have hkd:s.kind=d:=zE;refine qD ?_<|kG h9 h10 h11 h5 hp5 hx<|hx8;refine⟨k.body.length - (i+1),qA,i+1,qB,qA,qz,jW,wU,zA,?_,v8,vo,q8⟩;rw [z6 hsi];simp [hkd,<- wi hx qA]
  .have hkd:¬ s.kind=d:=zS;refine qD ?_<|jD h9 h10<|h11;refine⟨k.body.length - (i+1),qA,i+1,qB,qA,qz,jW,wU,zA,?_,v8,vo,q8⟩;rw [z6 hsi];simp [hkd,hp5]
 .have hge:i=k.body.length:=by
   have:¬ i<k.body.length:=zS;omega
  subst hge;rw [kM] at hp5;refine qD ?_<|j4 h4 hp4 h5<|hp5;refine qE [] .nil BI ?_;simp [Y4.dc,cz,eG]
theorem GQ (gl) (k:Y4) (hn:qBW k) (hs:BSm k):qX prog gl 122 [k.av] (λ_ y _=>y=.agg (ye k.bd)):=by
 have Ym:=hs.body;have hpl:=hs.params;refine qX.Yb func122 [.cell 2 179] ntmps122 λC w g root=>?_;refine qD ?_<|Ya;refine qR (λn st=>∃ i:Nat,n=k.params.length - i/\i<=k.params.length/\st.tm 1=.pt (.s 1) 0/\st.hp (.s 1)=some (.row 4 [k.cells])/\st.tm 2=.pt (.s 2) 0/\st.hp (.s 2)=some (.row 8 [ye []])/\st.tm 3=.pt (.s 3) 0/\st.hp (.s 3)=some (.row 8 [ye (k.params.take i)])/\st.tm 9=ZD k.params/\st.tm 10=iv k.params.length/\st.tm 11=iv i) k.params.length ?_ ?_
 .exact⟨0,qB,qB,qB,qB,qB,qF,qB,qF,qB,qB,qB⟩
 .rintro n st - - ⟨i,rfl,hi,h1,hp1,h2,hp2,h3,hp3,h9,h10,h11⟩;refine qD ?_<|jD h9 h10<|h11;refine wJ zK (λht=>?_) (λhf=>?_)
  .have hlt:i<k.params.length:=zE;obtain⟨y,hy⟩:=gX hlt;have hto:=hn.params y (gM hy);obtain⟨x,rfl⟩:∃ x:Nat,y=x:=⟨y.toNat,qA⟩;have hx8:(x:Int)<8:=qA;clear ht;refine qD ?_<|kG h9 h10 h11 hy h3 hp3<|hx8;refine⟨k.params.length - (i+1),qA,i+1,qB,qA,qz,jp,qj,qn,zN,?_,v8,vo,q8⟩;rw [dN,hy];simp [<- wi (y:=(x:Int)) rfl (by omega:x<8)]
  .have hge:i=k.params.length:=by
    have:¬ i<k.params.length:=zS;omega
   subst hge;rw [kM] at hp3;refine qD ?_<|aI h1<|hp1;refine qR (λn st=>∃ i:Nat,n=k.body.length - i/\i<=k.body.length/\st.tm 2=.pt (.s 2) 0/\st.hp (.s 2)=some (.row 8 [ye []])/\st.tm 3=.pt (.s 3) 0/\st.hp (.s 3)=some (.row 8 [ye (k.params++((k.body.take i).filter (λs=>decide (s.qAX\/s.kind=11))).map Y5.to)])/\st.tm 19=ssl k.body/\st.tm 20=iv k.body.length/\st.tm 21=iv i) k.body.length ?_ ?_
   .exact⟨0,qB,qB,qj,qn,zN,yJ,qB,qB,qB⟩
   clear h1 hp1 h2 hp2 h3 hp3 h9 h10 h11 hf hi;rintro n st - - ⟨i,rfl,hi,h2,hp2,h3,hp3,h19,h20,h21⟩;refine qD ?_<|jD h19 h20<|h21;refine wJ zK (λht=>?_) (λhf=>?_)
   .have hlt:i<k.body.length:=zE;obtain⟨s,hsi⟩:=gX hlt;have hto:=hn.Yw s (gM hsi);obtain⟨x,hx⟩:∃ x:Nat,s.to=x:=⟨s.to.toNat,qA⟩;have hx8:(x:Int)<8:=qA;clear ht;have fx:=j4 h19 h20 h21<|hsi;have c1:=BP gl s;refine qI ?_;clear fx c1;refine wJ zK (λht=>?_) (λhf=>?_)
    .skip
     refine qD ?_<|kG h19 h20 h21 h3 hp3 hx<|hx8;refine⟨k.body.length - (i+1),qA,i+1,qB,qA,qj,qn,zN,?_,eU,mL,q8⟩;have hc:decide (s.qAX\/s.kind=11)=true:=zE;have hadd:=wi (l:=k.params++((k.body.take i).filter (λs=>decide (s.qAX\/s.kind=11))).map Y5.to) hx qA;rw [z6 hsi,if_pos hc,sQ];simp at hadd ⊢;exact hadd
    .skip
     refine qD ?_<|jD h19 h20<|h21;refine⟨k.body.length - (i+1),qA,i+1,qB,qA,qj,qn,zN,?_,eU,mL,q8⟩;have hc:¬ decide (s.qAX\/s.kind=11)=true:=zS;rw [z6 hsi,if_neg hc];simp [hp3]
   .have hge:i=k.body.length:=by
     have:¬ i<k.body.length:=zS;omega
    subst hge;rw [kM] at hp3;refine qD ?_<|j4 h2 hp2 h3<|hp3;refine qE [] .nil aR ?_;simp [Y4.bd,cz,bB]
theorem Il (gl) (k:Y4) (hn:qBW k) (hs:BSm k):qX prog gl 121 [k.av] (λ_ y _=>y=.agg (ye k.rd)):=by
 have Ym:=hs.body;refine qX.Yb func121 [.cell 2 179] ntmps121 λC w g root=>?_;refine qD ?_<|Ya;refine qR (λn st=>∃ i:Nat,n=k.body.length - i/\i<=k.body.length/\st.tm 2=.pt (.s 2) 0/\st.hp (.s 2)=some (.row 8 [ye []])/\st.tm 3=.pt (.s 3) 0/\st.hp (.s 3)=some (.row 8 [ye (jn (k.body.take i))])/\st.tm 9=ssl k.body/\st.tm 10=iv k.body.length/\st.tm 11=iv i) k.body.length ?_ ?_
 .exact⟨0,qB,qB,qB,qF,qB,qF,qB,qB,qB⟩
 rintro n st - - ⟨i,rfl,hi,h2,hp2,h3,hp3,h9,h10,h11⟩;refine qD ?_<|jD h9 h10<|h11;refine wJ zK (λht=>?_) (λhf=>?_)
 .have hlt:i<k.body.length:=zE;obtain⟨s,hsi⟩:=gX hlt;have hsm:=gM hsi;have hrl:=s.ZT;clear ht
  all_goals have fx:=j4 h9 h10 h11<|hsi
  repeat' (first|refine qK ?_|refine λ(K:St->Prop) hK=>?_|refine qP (hF:=jk _ s) (h:=?_)|(refine KI (hF:=oj _ qM s (hn.kinds s hsm)) (h:=?_)))
  all_goals try clear fx
  refine qR (λn st=>∃ j:Nat,n=s.reads.length - j/\j<=s.reads.length/\st.tm 2=.pt (.s 2) 0/\st.hp (.s 2)=some (.row 8 [ye []])/\st.tm 3=.pt (.s 3) 0/\st.hp (.s 3)=some (.row 8 [ye (jn (k.body.take i)++s.reads.take j)])/\st.tm 9=ssl k.body/\st.tm 10=iv k.body.length/\st.tm 11=iv i/\st.tm 17=.hs (.s 17) 1 0 s.reads.length/\st.hp (.s 17)=some (.row 1 (qS s.reads))/\st.tm 18=iv s.reads.length/\st.tm 19=iv j) s.reads.length ?_ ?_
  .exact⟨0,qB,qB,qj,qn,zN,yJ,v8,vo,eM,qB,qB,qB,qB⟩
  clear h2 hp2 h3 hp3 h9 h10 h11;rintro n st - - ⟨j,rfl,hj,h2,hp2,h3,hp3,h9,h10,h11,h17,hp17,h18,h19⟩;refine qD ?_<|jD h17 h18<|h19;refine wJ zK (λht=>?_) (λhf=>?_)
  .have hlj:j<s.reads.length:=zE;obtain⟨y,hy⟩:=gX hlj;have hto:=hn.reads s hsm y (gM hy);obtain⟨x,rfl⟩:∃ x:Nat,y=x:=⟨y.toNat,qA⟩;obtain⟨_,hye⟩:=gS hy;have hx8:(x:Int)<8:=qA;clear ht;refine qD ?_<|gJ h17 hp17 h18 h19 hy hye hlj h3 hp3<|hx8;refine⟨s.reads.length - (j+1),qA,j+1,qB,qA,qj,qn,zN,?_,v8,vo,eM,by simp [h17],by simp [hp17],iH,q8⟩;have hadd:=wi (l:=jn (k.body.take i)++s.reads.take j) (y:=(x:Int)) rfl (by omega:x<8);rw [dN,hy];simp at hadd ⊢;exact hadd
  .have hge:j=s.reads.length:=by
    have:¬ j<s.reads.length:=zS;omega
   subst hge;rw [kM] at hp3;refine qD ?_<| h11;refine⟨k.body.length - (i+1),qA,i+1,qB,qA,qj,qn,zN,?_,v8,vo,q8⟩;rw [dN,hsi];simp [jn,hp3]
 .have hge:i=k.body.length:=by
   have:¬ i<k.body.length:=zS;omega
  subst hge;rw [kM] at hp3;refine qD ?_<|j4 h2 hp2 h3<|hp3;refine qE [] .nil aR ?_;simp [Y4.rd,cz]
abbrev Uj:Y8:=CN<|.q 5<|.q 7<|.q 9<|.l 4 [9,7,5,2,1,0]<|.l 6 [9,7,2,1,0]<|.l 8 [9,2,1,0]<|.l 10 [2,1,0]<|.q 11<|.l 12 []<|.l 13 []<|.done
theorem wB {A G G2:Prop} (k:G2) (x:A) (h:A->Yr G2->G:=by
 intro fx kk;refine qI ?_
 repeat ((first|refine Y7 (id:=5) Uj mixed ?_);refine qW ?_;refine qI ?_)
 exact kk.h):G:=h x ⟨k⟩
theorem gU (gl) (p:YU) (hs:Zm p) (hh:zD p) (hn:∀ k∈p,qBW k):qX prog gl 72 [Zc p] (λr y H'=>y=.hs r 1 0 p.length/\qAf H' r p p.length):=by
 have hpl:=hs.len;refine qX.Yb func72 [.tmp 2] ntmps72 λC w g root=>?_;refine wB ?_<|Ya;refine qR (λn st=>∃ i:Nat,n=p.length - i/\i<=p.length/\st.tm 1=.pt (.s 1) 0/\st.hp (.s 1)=some (.row 1 [[ZY p]])/\st.tm 3=.hs (.s 3) 1 0 p.length/\st.tm 14=ZY p/\st.tm 15=iv p.length/\st.tm 16=iv i/\qAf st.hp (.s 3) p i) p.length ?_ ?_
 .refine⟨0,qB,qB,qB,qB,qB,qB,qB,qB,⟨?_,λj k hj=>qA⟩⟩;rw [<- I8];simp [Bb]
 rintro n st - - ⟨i,rfl,hi,h1,hp1,h3,h14,h15,h16,⟨ho1,ho2⟩⟩;refine wB ?_<|jD h14 h15<|h16;refine wJ zK (λht=>?_) (λhf=>?_)
 .have hlt:i<p.length:=zE;obtain⟨k,hk⟩:=gX hlt;have hkm:=gM hk;obtain⟨hkp,hkb⟩:=hs.bsm hk;clear ht
  all_goals have fx:=j4 h14 h15 h16<|hk
  repeat' (first
   | refine uZ ?_|refine ja ?_|refine yH ?_|refine kJ λK hK=>?_
   | ((with_reducible refine vX hK ?_);clear hK K)
   | (with_reducible first|refine q9 ?_|refine jC ?_|refine jB ?_|refine vI ?_|refine za ?_|refine vk ?_|refine w5 ?_|refine jo qL ?_)
   | refine kN ?_
   | refine kV ?_
   | (with_reducible first|refine jg ?_|refine zO (h:=?_)|refine dO (h:=?_)|refine vu (h:=?_)|refine yM (h:=?_)|refine uY (h:=?_)|refine iW (h:=?_))
   | ((with_reducible refine nI 121 rfl ?_);refine qP (hF:=Il _ k (hn k hkm) (hs.bsm hk)) (h:=?_))
   | ((with_reducible refine nI 122 rfl ?_);refine qP (hF:=GQ _ k (hn k hkm) (hs.bsm hk)) (h:=?_))
   | ((with_reducible refine nI 123 rfl ?_);refine qP (hF:=sd _ k _ (hn k hkm) (hs.bsm hk)) (h:=?_))
   | (with_reducible refine x_q (h:=?_))
   | refine j8 (h1:=?_)|refine jr (h1:=?_)
   | (refine Y7 (id:=5) Uj mixed λK hK=>?_)
   | ((with_reducible refine wI hK ?_);clear hK K)
   | ((with_reducible refine em ?_);first|refine su (h:=?_)|refine gL (h:=?_)|refine gN (h:=?_)|refine gK (h:=?_))
   | ((with_reducible refine em ?_);refine gO (h1:=λht=>?_) (h2:=λht=>?_))
   | refine a_l rfl ?_|refine G3 ?_ ?_|refine G1 ?_ ?_ ?_|(with_reducible refine aI ?_ ?_)|exact vi|refine cM (h2:=?_)
   | fail)
  all_goals try clear fx
  refine qR (λn st=>∃ j:Nat,n=k.params.length - j/\j<=k.params.length/\st.tm 1=.pt (.s 1) 0/\st.hp (.s 1)=some (.row 1 [[ZY p]])/\st.tm 3=.hs (.s 3) 1 0 p.length/\st.tm 14=ZY p/\st.tm 15=iv p.length/\st.tm 16=iv i/\qAf st.hp (.s 3) p i/\st.tm 4=iv i/\st.tm 5=.pt (.s 5) 0/\st.hp (.s 5)=some (.row 4 [k.cells])/\st.tm 6=.pt (.s 6) 0/\st.hp (.s 6)=some (.row 43 [qi i k Bb (k.params.take j)])/\st.tm 35=ZD k.params/\st.tm 36=iv k.params.length/\st.tm 37=iv j) k.params.length ?_ ?_
  .refine⟨0,qB,qB,qz,jp,zN,iC,mN,by simp [h16],⟨?_,λj q hj hq=>?_⟩,qB,qB,qB,qB,?_,qB,qB,qB⟩
   .simp [ho1]
   .simp [ho2 j q hj hq]
   .simp [qi,Bb]
    rfl
  clear h1 hp1 h3 h14 h15 h16 ho1 ho2;rintro n st - - ⟨j,rfl,hj,h1,hp1,h3,h14,h15,h16,⟨ho1,ho2⟩,h4,h5,hp5,h6,hp6,h35,h36,h37⟩;refine wB ?_<|jD h35 h36<|h37;refine wJ zK (λht=>?_) (λhf=>?_)
  .have hlj:j<k.params.length:=zE;obtain⟨y,hy⟩:=gX hlj;have hto:=(hn k hkm).params y (gM hy);obtain⟨x,rfl⟩:∃ x:Nat,y=x:=⟨y.toNat,qA⟩;have hx8:(x:Int)<8:=qA;clear ht;refine wB ?_<|kG h35 h36 h37 hy h6 hp6<|hx8;refine⟨k.params.length - (j+1),qA,j+1,qB,qA,qz,jp,zN,iC,mN,by simp [h16],⟨?_,λj q hj hq=>?_⟩,jW,zA,uz,zL,?_,by simp [h35],by simp [h36],q8⟩
   .simp [ho1]
   .simp [ho2 j q hj hq]
   .rw [dN,hy];simp [<- xh (y:=(x:Int)) rfl (by omega:x<8)]
  .have hge:j=k.params.length:=by
    have:¬ j<k.params.length:=zS;omega
   subst hge;rw [kM] at hp6;clear hf hj;obtain⟨hq1,hq2,hq3⟩:=hh i k hk;refine wB ?_<| h4;refine wJ zK (λht=>?_) (λhf=>?_)
   .have hi0:0<i:=zE;obtain⟨q,hq⟩:∃ q:Nat,k.parent=q:=⟨k.parent.toNat,qA⟩;have hqi:q<i:=qA;have hqp:q<p.length:=qA;have hsg:=b8 (n:=.s 3) (i:=i) hqp;rw [if_pos hqi] at hsg;obtain⟨_,hse⟩:=gS hsg;refine wB ?_<|qQ h3 ho1 h4 h5 hp5 h6 hp6 hq hsg hse hlt hqp<|aI hqi<|h16;refine⟨p.length - (i+1),qA,i+1,rfl,qA,qz,jp,zN,iC,mN,by simp [h16];exact Yi qA qA,⟨?_,λj r hj hr=>?_⟩⟩
    .simp [ho1,CO]
    .rcases Jd.1 hj with hlj|rfl
     .have hne:¬ j=i:=qA;have hrp:=(hh j r hr).2.1;have ho:=PK (n:=.s 3) (a:=6) (i:=i) (q:=r.parent) qB qB qA;simp [ho2 j r hlj hr,hne,ho]
     .rw [hk] at hr;obtain rfl:=sI hr;have hne:¬ q=j:=qA;have hso:=xg (i:=j) (k:=k) (o:=Bb) (o':=.pt (.c (.s 3) q 0) 0) (ps:=k.params);simp [hq,PJ,hp6,hne,hso]
   .have hi0:i=0:=by
     have:¬ 0<i:=zS;omega
    refine wB ?_<|kG h3 ho1 h4 h6 hp6 hlt<|h16;refine⟨p.length - (i+1),qA,i+1,rfl,qA,qz,jp,zN,iC,mN,by simp [h16];exact Yi qA qA,⟨?_,λj r hj hr=>?_⟩⟩
    .simp [ho1,CO]
    .obtain rfl:j=i:=qA;rw [hk] at hr;obtain rfl:=sI hr;rw [PI qA];simp [hp6]
 .have hge:i=p.length:=by
   have:¬ i<p.length:=zS;omega
  subst hge;refine wB ?_<| h3;refine qE [(.s 2,root)] (.one rfl) qF ⟨qB,⟨?_,λj r hj hr=>?_⟩⟩
  .simp [ho1,im (n:=.s 2) (m:=root) (f:=jY Z5 [(.s 2,root)]) qB]
  .simp [ho2 j r hj hr,lv (n:=.s 2) (m:=root) (f:=jY Z5 [(.s 2,root)]) qB]
theorem gx (gl) (i:Nat) (k:Y4) (o:AV) (ps:List Int) (x:Nat) (hx:x<8):qX prog gl 126 [.el (qi i k o ps) 0,iv x] (λ_ y _=>y=bv (decide ((x:Int)∈k.dc 9)||decide ((x:Int)∈k.dc 10))):=by
 have h8:(x:Int)<8:=qA;have hg:=fE (i:=i) (k:=k) (o:=o) (ps:=ps) hx;have hn:=tH (i:=i) (k:=k) (o:=o) (ps:=ps) hx;refine qX.Yb func126 [.tmp 4] ntmps126 λC w g root=>?_
 all_goals have fx:=jD h8 hg<|hn
 repeat' (first|refine qK ?_|refine λ(K:St->Prop) hK=>?_|(with_reducible refine bq (λht=>?_) (λht=>?_)))
 all_goals try clear fx
 all_goals refine qE [] .nil qF ?_
 all_goals simp_all
theorem yz (gl) (i:Nat) (k:Y4) (o:AV) (ps:List Int) (x:Nat) (hx:x<8):qX prog gl 124 [.el (qi i k o ps) 0,iv x] (λ_ y _=>y=bv (k.kind != 0&&decide ((x:Int)∈k.bd)&&!(decide ((x:Int)∈k.dc 9)||decide ((x:Int)∈k.dc 10)))):=by
 have h8:(x:Int)<8:=qA;have hb:=tJ (i:=i) (k:=k) (o:=o) (ps:=ps) hx;refine qX.Yb func124 [.tmp 4] ntmps124 λC w g root=>?_
 all_goals have fx:=aI h8<|hb
 repeat' (first|refine qK ?_|refine λ(K:St->Prop) hK=>?_|refine qP (hF:=gx _ _ _ _ _ _ hx) (h:=?_)|(with_reducible refine bq (λht=>?_) (λht=>?_)))
 all_goals try clear fx
 all_goals refine qE [] .nil qF ?_
 all_goals simp_all
theorem RK (gl) (i:Nat) (k:Y4) (o:AV) (ps:List Int) (x:Nat) (hx:x<8):qX prog gl 75 [.el (qi i k o ps) 0,iv x] (λ_ y _=>y=bv (decide ((x:Int)∈k.rd)||decide ((x:Int)∈k.bd)||(decide ((x:Int)∈k.dc 9)||decide ((x:Int)∈k.dc 10)))):=by
 have h8:(x:Int)<8:=qA;have hb:=tJ (i:=i) (k:=k) (o:=o) (ps:=ps) hx;have hr:=I6 (i:=i) (k:=k) (o:=o) (ps:=ps) hx;refine qX.Yb func75 [.tmp 4] ntmps75 λC w g root=>?_
 all_goals have fx:=jD h8 hb<|hr
 repeat' (first|refine qK ?_|refine λ(K:St->Prop) hK=>?_|refine qP (hF:=gx _ _ _ _ _ _ hx) (h:=?_)|(with_reducible refine bq (λht=>?_) (λht=>?_)))
 all_goals try clear fx
 all_goals refine qE [] .nil qF ?_
 all_goals simp_all
end Go.Proofs.YtdnebaieamppbaaGreatDoor
end
section
namespace Go.Proofs.YtdnebaieamppbaaGreatDoor
open Go Go.Hm Go.Proofs Go.RowKit Go.Shelf Tryz
attribute [local go_sem] Oper.semAt_some
abbrev Qo (g:Gh) (w0:World) (p:YU):={ a:Option Addr×Nat // ∃ q,p[a.2]?=some q/\q.kind=1/\RV g w0 (.pointer a.1) (zp p a.2) }
def lft (v:Value) (W:World):Nat:=match v with
 | .pointer (some a)=>(match W.cell? a with|some (.int _ j)=>j.toNat+1|_=>0)
 | _=>0
theorem Sd (n l Bn:Nat) (p:YU) (hh:zD p) (g:Gh) (w0:World) (hC:∀ b,g.C b->b<w0.heap.size) (j0:Nat) (k0:Y4) (hk0:p[j0]?=some k0) (a0:Option Addr) (ha0:RV g w0 (.pointer a0) (zp p j0)) (J Jx:List (Qo g w0 p)->World->Prop) (hn:1<=n)
  (hY:∀ pre x W,J pre W->pre.length<p.length->YieldAt Fence.wide (n - 1) prog l #[.pointer x.1.1] W λe W' =>
    (e=.returned (.bool true)/\J (pre++[x]) W'/\Below w0.heap.size W W')\/(e=.returned (.bool false)/\Jx (pre++[x]) W'))
  (W:World) (hW:Below w0.heap.size w0 W) (hBn:W.cell? ⟨Bn,0,none⟩=some (.pointer a0)) (h0:J [] W) :
  CallsIn Fence.wide n prog 208 #[.func (.yield l) #[] #[],.pointer (some ⟨Bn,0,none⟩)] W λe W'=>(∃ v,e=.returned v) /\
   ((∃ ys,(∃ j,j<0/\Path p k0.parent (ys.map (λy:Qo g w0 p=>y.1.2)) j)/\J ys W')\/(∃ pre,(∃ j,Path p k0.parent (pre.map (λy:Qo g w0 p=>y.1.2)) j)/\Jx pre W')):=by
 obtain⟨b0,o0,hb0,hs0⟩:=ha0.qCI hh hk0;obtain rfl:a0=some ⟨b0,o0,none⟩:=by simpa using hb0
 obtain⟨a1,hc1,hr1⟩:=hs0.out;have hc1':W.cell? ⟨b0,o0+2,none⟩=some (.pointer a1):=(hW.cell (p:=⟨b0,o0+2,none⟩) (hC b0 hs0.C)).trans hc1;refine callsIn_of_wp func208 rfl trivial ?_ rfl;simp only [ntmps208,List.size_toArray,GY,Dy,Nat.reduceAdd,Nat.reduceSub,Array.replicate_succ,Array.replicate_zero,List.push_toArray,List.append_toArray,List.nil_append,sk]
 gi_wp2
 gi_loopw [3] (λv wr=>∃ (pre:List (Qo g w0 p)) (j:Int),RV g w0 v (zp p j)/\(-1<=j/\j<p.length)/\Path p k0.parent (pre.map (λy:Qo g w0 p=>y.1.2)) j/\J pre wr/\Below w0.heap.size w0 wr) (λv wr=>lft v wr)
 case atStart =>
  have h1:=hh j0 k0 hk0;have h2:=(gS hk0).1;exact⟨[],k0.parent,hr1,qA,.nil _,h0,hW⟩
 case round =>
  obtain⟨pre,j,hr,hj,hpath,hJ,hB⟩:=hrel;by_cases hneg:j<0
  .obtain rfl:=hr.qCT hneg
   gi_wp2
   go_end0
   exact⟨⟨_,rfl⟩,.inl ⟨pre,⟨j,hneg,hpath⟩,hJ⟩⟩
  .obtain⟨j,rfl⟩:∃ i:Nat,j=i:=⟨j.toNat,qA⟩;obtain⟨k,hk⟩:∃ k,p[j]?=some k:=⟨_,gE qA⟩;obtain⟨b,o,rfl,hs⟩:=hr.qCI hh hk;have hb:=hC b hs.C;obtain⟨a2,hc2,hr2⟩:=hs.out;obtain⟨hp1,hp2,_⟩:=hh j k hk;have hv1:wr.cell? ⟨b,o+1,none⟩=some (.int .i64 k.kind):=(hB.cell (p:=⟨b,o+1,none⟩) hb).trans hs.kind;have hv0:wr.cell? ⟨b,o,none⟩=some (.int .i64 j):=(hB.cell (p:=⟨b,o,none⟩) hb).trans hs.idx;have hv2:wr.cell? ⟨b,o+2,none⟩=some (.pointer a2):=(hB.cell (p:=⟨b,o+2,none⟩) hb).trans hc2
   have hlf:∀ W',Below w0.heap.size w0 W'->lft (.pointer a2) W'<lft (.pointer (some ⟨b,o,none⟩)) wr:=by
    intro W' hB';have e:lft (.pointer (some ⟨b,o,none⟩)) wr=j+1:=by simp [lft,hv0]
    rw [e];by_cases hn:k.parent<0
    .have:(Value.pointer a2)=.pointer none:=hr2.qCT hn;obtain rfl:a2=none:=by simpa using this
     simp [lft]
    .obtain⟨q,hq⟩:∃ q:Nat,k.parent=q:=⟨k.parent.toNat,qA⟩;obtain⟨r,hqr⟩:∃ r,p[q]?=some r:=⟨_,gE qA⟩;rw [hq] at hr2;obtain⟨b',o',e',hs'⟩:=hr2.qCI hh hqr;obtain rfl:a2=some ⟨b',o',none⟩:=by simpa using e'
     have hb':=hC b' hs'.C;have:W'.cell? ⟨b',o',none⟩=some (.int .i64 q):=(hB'.cell (p:=⟨b',o',none⟩) hb').trans hs'.idx;simp [lft,this];omega
   by_cases hk1:k.kind=1
   .rw [hk1] at hv1;have hlen:=hpath.len hh;have hjj:=(gS hk0).1;have hpp:=(hh j0 k0 hk0).2.1;simp only [GZ] at hlen;obtain⟨fn,tmps,assign,body,hy,hR⟩:=hY pre ⟨(some ⟨b,o,none⟩,j),k,hk,hk1,hr⟩ wr hJ qA;dsimp only at hy
    gi_wp2
    refine hR.mono ?_;rintro e W3 (⟨rfl,hJ3,hk3⟩|⟨rfl,hJx3⟩)
    .have hB3:=hB.trans hk3;have hq3:W3.cell? ⟨b,o+2,none⟩=some (.pointer a2):=(hB3.cell (p:=⟨b,o+2,none⟩) hb).trans hc2
     gi_wp2
     go_roundw
     case rel=>exact⟨_,k.parent,hr2,qA,by simpa using hpath.qCQ hk hk1,hJ3,hB3⟩
     case measure=>exact hlf _ hB3
    .gi_wp2
     refine bodyPost_ret (results_none rfl _ _ _) rfl ?_;exact⟨⟨_,rfl⟩,.inr ⟨_,⟨k.parent,by simpa using hpath.qCQ hk hk1⟩,hJx3⟩⟩
   .have hk2:(k.kind==1)=false:=ri
    gi_wp2
    refine⟨λ_ h=>kT,?_⟩
    gi_wp2
    go_roundw
    case rel=>exact⟨_,k.parent,hr2,qA,hpath.qCj hk hk1,hJ,hB⟩
    case measure=>exact hlf _ hB
theorem JK (n Bn:Nat) (p:YU) (hh:zD p) (g:Gh) (w0 w:World) (hC:∀ b,g.C b->b<w0.heap.size) (j0:Nat) (k0:Y4) (hk0:p[j0]?=some k0) (a0:Option Addr) (ha0:RV g w0 (.pointer a0) (zp p j0)) (hn:1<=n)
  (hw:Below w0.heap.size w0 w) (hBl:Bn<w.heap.size) (hc:w.cell? ⟨Bn,0,none⟩=some (.pointer a0)) :
  SeqStopsK Fence.wide n prog 208 #[.pointer (some ⟨Bn,0,none⟩)] (λx:Qo g w0 p=>#[Value.pointer x.1.1]) (Below w0.heap.size)
   (λys=>∃ j,j<0/\Path p k0.parent (ys.map (λy:Qo g w0 p=>y.1.2)) j) (λpre=>∃ j,Path p k0.parent (pre.map (λy:Qo g w0 p=>y.1.2)) j) p.length w:=λl J Jx W hW _ _ hY h0 =>
 Sd n l Bn p hh g w0 hC j0 k0 hk0 a0 ha0 J Jx hn hY W (hw.trans (hW.mono hw.size)) ((hW.cell (p:=⟨Bn,0,none⟩) hBl).trans hc) h0
theorem gt (n:Nat) (a0:Option Addr) (w:World) :
  CallsIn Fence.wide n prog 174 #[.pointer a0] w λe w'=>e=.returned (.func (.func 208) #[] #[.pointer (some ⟨w.heap.size,0,none⟩)])/\w'=w.alloc (.cells #[.pointer a0] 133):=by
 refine callsIn_of_wp func174 rfl trivial ?_ rfl;simp only [ntmps174,List.size_toArray,GY,Dy,Nat.reduceAdd,Nat.reduceSub,Array.replicate_succ,Array.replicate_zero,List.push_toArray,List.append_toArray,List.nil_append,sk]
 gi_wp2
 go_ret
 exact⟨rfl,rfl⟩
end Go.Proofs.YtdnebaieamppbaaGreatDoor
end
section
namespace Go.Proofs.YtdnebaieamppbaaGreatDoor
open Go Go.Hm Go.Proofs Go.RowKit Go.Shelf Tryz
attribute [local go_sem] Oper.semAt_some
theorem FO {W:World} {B:Nat} {v:Value} {t:TypeId} (h:W.heap[B]?=some (.cells #[v] t (0,0))):W.cell? ⟨B,0,none⟩=some v/\W.frozen? ⟨B,0,none⟩=false:=by
 constructor <;> simp [World.cell?,World.frozen?,h]
theorem pz (W:World) (v:Value) (t:TypeId):(W.alloc (.cells #[v] t)).cell? ⟨W.heap.size,0,none⟩=some v/\(W.alloc (.cells #[v] t)).frozen? ⟨W.heap.size,0,none⟩=false:=FO (World.alloc_heap_new W _)
theorem gz {W:World} {a:Addr} {v:Value} (o:Obj) (h:W.cell? a=some v):(W.alloc o).cell? a=some v:=cell_kept h (World.grownBy_alloc W o none) (λr e=>uN)
theorem A2 {W:World} {a:Addr} {v:Value} (o:Obj) (h:W.cell? a=some v) (hf:W.frozen? a=false):(W.alloc o).frozen? a=false:=(frozen_kept h (World.grownBy_alloc W o none) (λr e=>uN)).trans hf
theorem xz (n:Nat) (hn:3<=n) (p:YU) (hh:zD p) (hb0:∀ k,p[0]?=some k->k.kind≠1) (g:Gh) (w:World) (hC:∀ b,g.C b->b<w.heap.size) (i:Nat) (k:Y4) (hk:p[i]?=some k) (a0:Option Addr) (ha:RV g w (.pointer a0) (zp p i)) (x:Nat) (hx:x<8) :
  CallsIn Fence.wide n prog 127 #[.pointer a0,.int .i64 x] w λe W'=>e=.returned (.int .i64 (zX p x p.length k.parent))/\Below w.heap.size w W':=by
 have h1:1<=n:=qA;refine callsIn_of_wp_marks func127 rfl trivial ?_ rfl;simp only [ntmps127,List.size_toArray,GY,Dy,Nat.reduceAdd,Nat.reduceSub,Array.replicate_succ,Array.replicate_zero,List.push_toArray,List.append_toArray,List.nil_append,sk]
 gi_wp2_with (refine⟨trivial,?_⟩;gi_at_call 174;refine (gt (n - 1) _ _).mono ?_;rintro e w' ⟨rfl,rfl⟩)
 have c0:=pz w (.int .i64 x) 3;have c1:=pz (w.alloc (.cells #[.int .i64 x] 3)) (.int .i64 0) 3;have c2:=pz ((w.alloc (.cells #[.int .i64 x] 3)).alloc (.cells #[.int .i64 0] 3)) (.pointer a0) 133;simp only [World.size_alloc] at c1 c2;have hB0:Below w.heap.size w (((w.alloc (.cells #[.int .i64 x] 3)).alloc (.cells #[.int .i64 0] 3)).alloc (.cells #[.pointer a0] 133)):=(((Below.refl _ w).alloc (qp _) _).alloc qB _).alloc qv _
 refine wpIn_rangeFunc_ownF rfl h1 (gf:=208) (lb:=#[.pointer (some ⟨w.heap.size+1+1,0,none⟩)]) rfl trivial (enters_of func208 qM rfl)
  (JK (n - 1) (w.heap.size+1+1) p hh g w _ hC i k hk a0 ha qA hB0 qB c2.1) belowK_t (belowK_b qv) (Below.refl _ _) (λ_=>rfl)
  (λpre W=>((∀ y∈pre,found p x y.1.2=none)/\W.cell? ⟨w.heap.size,0,none⟩=some (.int .i64 x)/\W.cell? ⟨w.heap.size+1,0,none⟩=some (.int .i64 0)/\W.frozen? ⟨w.heap.size+1,0,none⟩=false)/\Below w.heap.size w W)
  (λc pre W=>(c=.ret/\(∃ l y r,pre=l++[y]/\(∀ y∈l,found p x y.1.2=none)/\found p x y.1.2=some r/\W.cell? ⟨w.heap.size+1,0,none⟩=some (.int .i64 r)))/\Below w.heap.size w W)
  (OwnFrom.and (Own.from (λs A B row hs hg hr=>⟨hs.1,cell_kept hs.2.1 hg hr,cell_kept hs.2.2.1 hg hr,(frozen_kept hs.2.2.1 hg hr).trans hs.2.2.2⟩) _) (ownFrom_below (qp _) qv))
  (λc=>OwnFrom.and (Own.from (λs A B row hs hg hr=>⟨hs.1,by obtain⟨l,y,r,e1,e2,e3,e4⟩:=hs.2;exact⟨l,y,r,e1,e2,e3,cell_kept e4 hg hr⟩⟩) _) (ownFrom_below (qp _) qv))
  ⟨⟨qB,gz _ (gz _ c0.1),gz _ c1.1,A2 _ c1.1 c1.2⟩,hB0⟩
  (λy=>{ tmps:=#[.pointer a0,.int .i64 x,undef,.pointer (some ⟨w.heap.size,0,none⟩),.pointer (some ⟨w.heap.size+1,0,none⟩),.pointer y.1.1,.pointer a0,.func (.func 208) #[] #[.pointer (some ⟨w.heap.size+1+1,0,none⟩)],.pointer y.1.1,undef,undef,undef,undef,undef,undef,undef,undef,undef,undef,undef,undef,undef],defers:=[] }) ?assign ?body ?done ?stop
 case assign =>
  intro l y W K hK
  gi_wp2
  exact hK
 case body =>
  rintro l pre ⟨⟨ay,j⟩,q,hq,hq1,hr⟩ W ⟨⟨hp,hcx,hcr,hfr⟩,hB⟩ _;dsimp only at hq hr ⊢
  obtain⟨b,o,rfl,hs⟩:∃ b o,ay=some ⟨b,o,none⟩/\qDA g w p j q b o:=by
   obtain⟨b,o,e,h⟩:=hr.qCI hh hq;exact⟨b,o,by simpa using e,h⟩
  have hb:=hC b hs.C;have hg:W.cell? ⟨b,o+(27+x),none⟩=some (.bool (decide ((x:Int)∈q.dc 9))):=(hB.cell (p:=⟨b,o+(27+x),none⟩) hb).trans (hs.Yd x hx);have hidx:W.cell? ⟨b,o,none⟩=some (.int .i64 j):=(hB.cell (p:=⟨b,o,none⟩) hb).trans hs.idx;have h8:(x:Int)<8:=qA;have hg2:W.cell? ⟨b,o+27+x,none⟩=some (.bool (decide ((x:Int)∈q.dc 9))):=by rw [dU];exact hg
  have hmx:prog.follows .mixedOrders=true:=qM
  have hj0:0<j:=by
   rcases iR j with rfl|h
   .exact absurd hq1 (hb0 q hq)
   .exact h
  have hcall:∀ W',Below w.heap.size w W'->Calls prog 124 #[.pointer (some ⟨b,o,none⟩),.int .i64 x] W' λe W''=>e=.returned (.bool (qr j q x))/\Below W'.heap.size W' W'':=by
   intro W' hB';have hF:=yz (λ_=>none) j q (zp p q.parent) q.params x hx
   have e:(q.kind != 0&&decide ((x:Int)∈q.bd)&&!(decide ((x:Int)∈q.dc 9)||decide ((x:Int)∈q.dc 10)))=qr j q x:=by
    simp [qr,hq1,hj0,Bool.and_assoc]
   rw [e] at hF;refine qX.raw hF (g:=g) (λb hb=>ac (hC b hb) hB'.size) rfl ?_;intro a v y hv hy
   match a,hv,hy with
   | 0,hv,hy =>
    obtain rfl:=sI hv;obtain rfl:=sI hy;have:=hr.qCs hC hB'
    rwa [jd hh hq] at this
   | 1,hv,hy =>
    obtain rfl:=sI hv;obtain rfl:=sI hy;exact .sc _
   | a+2,hv,_=>simp at hv
  have hBd:Below w.heap.size w W.drew:=⟨hB.os,hB.tape,hB.output,hB.size,hB.block⟩;have hbW:b<W.drew.heap.size:=ac hb hB.size
  have hrW:w.heap.size+1<W.drew.heap.size:=by
   refine Nat.lt_of_not_le λhge=>?_;have:W.heap[w.heap.size+1]?=none:=Array.getElem?_eq_none hge;simp [World.cell?,this] at hcr
  have hko:∀ w3,Below W.drew.heap.size W.drew w3->KeepsOthers W w3:=λw3 h=>⟨h.size,λk o hk _=>(h.block k (B0.1 hk).1).trans hk⟩;have hfd:found p x j=if (x:Int)∈q.dc 9 then some (-1) else if qr j q x then some (j:Int) else none:=by simp only [found,hq]
  by_cases hm:(x:Int)∈q.dc 9
  .rw [decide_eq_true hm] at hg hg2;rw [if_pos hm] at hfd
   gi_wp2
   gi_region_o
   all_goals gi_wp2
   all_goals exact⟨(KeepsOthers.drew W).trans (KeepsOthers.setCell _ _ _),⟨rfl,pre,⟨(some ⟨b,o,none⟩,j),q,hq,hq1,hr⟩,-1,rfl,hp,hfd,World.cell?_setCell_same' _ _ _ (by rw [hcr];rfl)⟩,hBd.setCell (p:=⟨w.heap.size+1,0,none⟩) qB _⟩
  .rw [decide_eq_false hm] at hg hg2;rw [if_neg hm] at hfd
   cases hl:qr j q x with
   | true =>
    rw [hl] at hcall;rw [if_pos hl] at hfd
    gi_wp2
    gi_region_o
    all_goals gi_wp2_with (refine⟨trivial,λ_=>qA,?_⟩;refine (CallsIn.inRound l (callsIn_wide.2 (hcall _ hBd))).mono ?_;rintro e w3 ⟨rfl,hbw⟩;have hi3:=(hbw.cell (p:=⟨b,o,none⟩) hbW).trans hidx;have hc3:=(hbw.cell (p:=⟨w.heap.size+1,0,none⟩) hrW).trans hcr;have hf3:=(hbw.frozen (p:=⟨w.heap.size+1,0,none⟩) hrW).trans hfr)
    all_goals exact⟨(hko _ (by assumption)).trans (KeepsOthers.setCell _ _ _),⟨rfl,pre,⟨(some ⟨b,o,none⟩,j),q,hq,hq1,hr⟩,(j:Int),rfl,hp,hfd,World.cell?_setCell_same' _ _ _ (by rw [hc3];rfl)⟩,(hBd.trans (Below.mono (by assumption) hBd.size)).setCell (p:=⟨w.heap.size+1,0,none⟩) qB _⟩
   | false =>
    rw [hl] at hcall;rw [if_neg (by rw [hl];decide)] at hfd
    gi_wp2
    gi_region_o
    all_goals gi_wp2_with (refine⟨trivial,λ_=>qA,?_⟩;refine (CallsIn.inRound l (callsIn_wide.2 (hcall _ hBd))).mono ?_;rintro e w3 ⟨rfl,hbw⟩)
    all_goals
     have hWw:Below W.drew.heap.size W.drew w3:=by assumption
     have hB3:Below w.heap.size W.drew w3:=hWw.mono hBd.size;have hBW:Below w.heap.size W w3:=⟨hB3.os,hB3.tape,hB3.output,hB3.size,hB3.block⟩;have hsW:w.heap.size<W.drew.heap.size:=Nat.lt_of_succ_lt hrW;refine⟨hko _ hWw,hBW,⟨λy hy=>?_,(hWw.cell (p:=⟨w.heap.size,0,none⟩) hsW).trans hcx,(hWw.cell (p:=⟨w.heap.size+1,0,none⟩) hrW).trans hcr,(hWw.frozen (p:=⟨w.heap.size+1,0,none⟩) hrW).trans hfr⟩,hB.trans hBW⟩;rcases cK.1 hy with hy|hy
     .exact hp y hy
     .obtain rfl:=kg.1 hy;exact hfd
 case done =>
  rintro D ys W hD ⟨je,hneg,hpath⟩ ⟨⟨hne,_,hcr,hfr⟩,hB⟩ hK
  gi_wp2
  have hK':=(KeepsOthers.setCell W ⟨w.heap.size+1,0,none⟩ (.int .i64 (-1))).same D _ hK rfl;refine⟨qB,.inl ⟨_,_,rfl,run_takeDeferred hK',?_⟩⟩;have hc5:=cell_kept (World.cell?_setCell_same' W ⟨w.heap.size+1,0,none⟩ (.int .i64 (-1)) (by rw [hcr];rfl)) (grownBy_putObj' _ D (.deferred none)) (λr e=>by cases e;exact⟨_,hK',rfl⟩)
  have hout:zX p x p.length k.parent=-1:=by
   rw [hpath.outer hh hb0 (x:=x) (λy hy=>by obtain⟨z,hz,rfl⟩:=eg.1 hy;exact hne z hz),ba qA]
  refine⟨.int .i64 (-1),?_,by rw [hout],(hB.setCell (p:=⟨w.heap.size+1,0,none⟩) qB _).trans (belowK_b (w:=w) (qp _) _ D _ _ (by simp at hD;omega) hK' rfl rfl)⟩;simp [results,Tryz.f127,go_sem,hc5]
 case stop =>
  rintro D c pre W hD ⟨je,hpath⟩ ⟨⟨rfl,l,y,r,rfl,hno,hf,hcr⟩,hB⟩ hK
  gi_wp2
  refine⟨qB,.inl ⟨_,_,rfl,run_takeDeferred hK,?_⟩⟩;have hc5:=cell_kept hcr (grownBy_putObj' _ D (.deferred none)) (λr e=>by cases e;exact⟨_,hK,rfl⟩)
  have hout:zX p x p.length k.parent=r:=by
   rw [sQ,List.map_singleton] at hpath;exact Path.found hh hpath hb0 (λy hy=>by obtain⟨z,hz,rfl⟩:=eg.1 hy;exact hno z hz) hf
  refine⟨.int .i64 r,?_,by rw [hout],hB.trans (belowK_b (w:=w) (qp _) W D _ _ (by simp at hD;omega) hK rfl rfl)⟩;simp [results,Tryz.f127,go_sem,hc5]
theorem AA (gl) (p:YU) (hh:zD p) (hb0:∀ k,p[0]?=some k->k.kind≠1) (i:Nat) (k:Y4) (hk:p[i]?=some k) (x:Nat) (hx:x<8) :
  qX prog gl 127 [zp p i,iv x] (λ_ y _=>y=iv (outer p i x)):=by
 refine qX.qC0 ⟨_,func127,qM,qM⟩ λw g args hC hsz hargs=>?_;rw [jQ hh hk]
 obtain⟨v0,v1,rfl⟩:∃ v0 v1,args=#[v0,v1]:=by
  refine⟨args[0]'(by simp at hsz;omega),args[1]'(by simp at hsz;omega),?_⟩;apply Array.ext
  .simpa using hsz
  .intro i h1 h2
   match i with
   | 0=>rfl
   | 1=>rfl
   | i+2=>simp at hsz;omega
 have h0:=hargs 0 v0 _ rfl rfl;have h1:=hargs 1 v1 _ rfl rfl;obtain⟨a0,rfl⟩:=h0.ptr;obtain rfl:=h1.Ye;exact callsIn_wide.1 (xz 3 (qp _) p hh hb0 g w hC i k hk a0 h0 x hx)
end Go.Proofs.YtdnebaieamppbaaGreatDoor
end
section
namespace Go.Proofs.YtdnebaieamppbaaGreatDoor
open Go Go.Hm Go.Proofs Tryz
abbrev Ns (p:YU) (i:Nat) (k:Y4):AV:=.el (qi i k (zp p k.parent) k.params) 0
theorem bM (gl) (p:YU) (hp:Y1 p) (i:Nat) (k:Y4) (hk:p[i]?=some k) (x:Nat) (hx:x<8):qX prog gl 127 [Ns p i k,iv x] (λ_ y _=>y=iv (outer p i x)):=by
 have:=AA gl p hp.Y9 hp.qDR i k hk x hx
 rwa [jd hp.Y9 hk] at this
theorem zM (gl) (p:YU) (hp:Y1 p) (i:Nat) (k:Y4) (hk:p[i]?=some k) (x:Nat) (hx:x<8):qX prog gl 76 [Ns p i k,iv x] (λ_ y _=>y=iv (qh p i x)):=by
 have h8:(x:Int)<8:=qA;have hg:=fE (i:=i) (k:=k) (o:=zp p k.parent) (ps:=k.params) hx;have hk0:=hp.Ze hk;refine qX.Yb func76 [.tmp 4] ntmps76 λC w g root=>?_
 all_goals have fx:=aI h8<|hg
 repeat' (first|refine qK ?_|refine λ(K:St->Prop) hK=>?_|refine qP (hF:=yz _ _ _ _ _ _ hx) (h:=?_)|refine qP (hF:=bM _ p hp i k hk x hx) (h:=?_)|(with_reducible refine bq (λht=>?_) (λht=>?_))|refine cJ (h1:=λht=>?_) (h2:=λht=>?_))
 all_goals try clear fx
 all_goals refine qE [] .nil qF ?_
 all_goals simp_all [qh,qr]
 all_goals grind
theorem fY (gl) (p:YU) (hp:Y1 p) (i:Nat) (k:Y4) (hk:p[i]?=some k):qX prog gl 91 [Ns p i k] (λ_ y _=>y=bv (vJ p i)):=by
 have hdo:vJ p i=(List.range 8).all (λx=>ux p i k (x:Int)):=by simp only [vJ,hk]
 rw [hdo];refine qX.Yb func91 [.tmp 2] ntmps91 λC w g root=>?_;refine qD ?_<|Ya;refine qR (λn st=>∃ x:Nat,n=8 - x/\x<=8/\st.tm 0=Ns p i k/\st.tm 4=iv x/\(List.range x).all (λx=>ux p i k (x:Int))=true) 8 ⟨0,qB⟩ ?_;rintro n st - - ⟨x,rfl,hx,h0,h4,hal⟩;refine qD ?_<|aI h0<|h4;refine wJ zK (λht=>?_) (λhf=>?_)
 .have h8:(x:Int)<8:=zE;have hx8:x<8:=qA;have hg:=fE (i:=i) (k:=k) (o:=zp p k.parent) (ps:=k.params) hx8;have hn:=tH (i:=i) (k:=k) (o:=zp p k.parent) (ps:=k.params) hx8;have hq:=I7 (i:=i) (k:=k) (o:=zp p k.parent) (ps:=k.params) hx8;have hge:=PH (p:=p) (b:=i) (x:=x);have fin:ux p i k x=false->(List.range 8).all (λx=>ux p i k (x:Int))=false:=λh=>yt hx8 h;have nxt:ux p i k x=true->(List.range (x+1)).all (λx=>ux p i k (x:Int))=true:=λh=>by rw [j3,hal,h];rfl
  clear ht hal
  all_goals have fx:=kH h0 h4 h8 hg hn<|hq
  repeat' (first|refine qK ?_|refine λ(K:St->Prop) hK=>?_|refine qP (hF:=gx _ _ _ _ _ _ hx8) (h:=?_)|refine qP (hF:=bM _ p hp i k hk x hx8) (h:=?_)|(with_reducible refine bq (λht=>?_) (λht=>?_))|refine cJ (h1:=λht=>?_) (h2:=λht=>?_))
  all_goals try clear fx
  all_goals clear hg hn hq
  all_goals first
   | (refine qE [] .nil qF ?_
      rw [fin (by simp only [ux];simp_all;done)]
      rfl)
   | (refine⟨8 - (x+1),qA,x+1,rfl,qA,qu,q8,nxt ?_⟩
      simp only [ux]
      simp_all
      try omega)
 .have hge:x=8:=by
   have:¬ (x:Int)<8:=zS;omega
  subst hge;refine qD ?_<|Ya;refine qE [] .nil aS (by simp [hal])
end Go.Proofs.YtdnebaieamppbaaGreatDoor
end
