import Derived.Test.YtjgpejikjhojcaaGreatDoorT24
import Derived.RangeFuncFrom
import Derived.RangeFuncNested
import Derived.RangeFuncBound
import Derived.RangeFuncCalls
import Derived.RangeFuncLeaves
import Derived.Shelf.Abstract
import Derived.Shelf.RegionOpen
import Derived.OwnWalkIn
import Derived.TacticsInMore
import Derived.LoopNIn
import Derived.LoopIn
set_option linter.unusedSimpArgs false
set_option linter.unusedVariables false
set_option maxRecDepth 100000
set_option maxHeartbeats 4000000

section
namespace Go.Proofs.YtjgpejikjhojcaaGreatDoor
open Go Go.Hm Go.Proofs Tryz
theorem Tw (gl) (a:Int):qM prog gl 259 [.agg [iv a]] (λr y H'=>y=.hs r 1 0 0/\H' r=some (.row 1 [])):=by
 refine qM.qa func259 [.tmp 2] ntmps259 λC w g root=>?_;refine qI ?_<|qS;exact vo (t:=2) y3 y3 qB
theorem Po (gl) (a:Int):qM prog gl 260 [.agg [iv a]] (λr y H'=>y=.hs r 1 0 1/\H' r=some (.row 1 [[iv a]])):=by
 refine qM.qa func260 [.tmp 2] ntmps260 λC w g root=>?_;refine qI ?_<|qS;exact vo (t:=2) y3 y3 qB
theorem OS (gl) (a b:Int):qM prog gl 261 [.agg [iv a,iv b]] (λr y H'=>y=.hs r 1 0 2/\H' r=some (.row 1 [[iv a],[iv b]])):=by
 refine qM.qa func261 [.tmp 2] ntmps261 λC w g root=>?_;refine qI ?_<|qS;exact vo (t:=2) y3 y3 qB
theorem KH (gl) (a b:Int):qM prog gl 258 [.agg [iv a,iv b]] (λr y H'=>y=.hs r 1 0 0/\H' r=some (.row 1 [])):=by
 refine qM.qa func258 [.tmp 2] ntmps258 λC w g root=>?_;refine qI ?_<|qS;exact vo (t:=2) y3 y3 qB
theorem IH (gl) (a b:Int):qM prog gl 235 [.agg [iv a,iv b]] (λr y H'=>y=.hs r 1 0 (if b=-1 then [a] else [a,b]).length/\H' r=some (.row 1 (qm (if b=-1 then [a] else [a,b])))):=by
 refine qM.qa func235 [.tmp 2] ntmps235 λC w g root=>?_;by_cases hb:b=-1
 .subst hb;refine qI ?_<|qS;exact vo (t:=2) y3 y3 qB
 .have h1:(b == -1)=false:=by simp [hb]
  rw [if_neg hb];refine qI ?_<| h1;exact vo (t:=2) y3 y3 qB
theorem RM (gl) (a b:Int):qM prog gl 262 [.agg [iv a,iv b]] (λr y H'=>y=.hs r 1 0 1/\H' r=some (.row 1 [[iv a]])):=by
 refine qM.qa func262 [.tmp 2] ntmps262 λC w g root=>?_;refine qI ?_<|qS;exact vo (t:=2) y3 y3 qB
theorem VH (gl) (a:Int):qM prog gl 263 [.agg [iv a]] (λr y H'=>y=.hs r 1 0 1/\H' r=some (.row 1 [[iv a]])):=by
 refine qM.qa func263 [.tmp 2] ntmps263 λC w g root=>?_;refine qI ?_<|qS;exact vo (t:=2) y3 y3 qB
theorem Wq (gl) (a:Int):qM prog gl 264 [.agg [iv a]] (λr y H'=>y=.hs r 1 0 1/\H' r=some (.row 1 [[iv a]])):=by
 refine qM.qa func264 [.tmp 2] ntmps264 λC w g root=>?_;refine qI ?_<|qS;exact vo (t:=2) y3 y3 qB
theorem I4 (gl):qM prog gl 265 [.agg []] (λr y H'=>y=.hs r 1 0 0/\H' r=some (.row 1 [])):=by
 refine qM.qa func265 [.tmp 2] ntmps265 λC w g root=>?_;refine qI ?_<|qS;exact vo (t:=2) y3 y3 qB
theorem QH (gl):qM prog gl 266 [.agg []] (λr y H'=>y=.hs r 1 0 0/\H' r=some (.row 1 [])):=by
 refine qM.qa func266 [.tmp 2] ntmps266 λC w g root=>?_;refine qI ?_<|qS;exact vo (t:=2) y3 y3 qB
noncomputable def L9 (nm:String):Bool:=decide (cj prog 245 nm=some 259)&&decide (cj prog 247 nm=some 260)&&decide (cj prog 249 nm=some 261)&&decide (cj prog 191 nm=some 258)&&decide (cj prog 251 nm=some 235)&&decide (cj prog 253 nm=some 262)&&decide (cj prog 255 nm=some 263)&&decide (cj prog 256 nm=some 264)&&decide (cj prog 257 nm=some 265)&&decide (cj prog 258 nm=some 266)
theorem Fe (gl) {nm:String} (hm:L9 nm=true) (s:qP) (h:0<=s.kind/\s.kind<=11):HE prog gl nm (ul s) (λr y H'=>y=.hs r 1 0 s.reads.length/\H' r=some (.row 1 (qm s.reads))):=by
 simp only [L9,jh,decide_eq_true_eq] at hm;obtain⟨⟨⟨⟨⟨⟨⟨⟨⟨m_num,m_copy⟩,m_add⟩,m_make⟩,m_call⟩,m_get⟩,m_print⟩,m_return⟩,m_declare⟩,m_drop⟩:=hm;obtain⟨n,to,a,b⟩:=s;rcases B6 n with rfl|rfl|rfl|rfl|rfl|rfl|rfl|rfl|rfl|rfl|rfl|rfl|hn
 case inr.inr.inr.inr.inr.inr.inr.inr.inr.inr.inr.inr=>exact absurd h hn
 .exact⟨_,_,_,Qg,m_num,Tw _ _⟩
 .exact⟨_,_,_,Qh,m_copy,Po _ _⟩
 .exact⟨_,_,_,Qk,m_add,OS _ _ _⟩
 .exact⟨_,_,_,Ql,m_make,KH _ _ _⟩
 .exact⟨_,_,_,Qm,m_make,KH _ _ _⟩
 .exact⟨_,_,_,Qn,m_call,IH _ _ _⟩
 .exact⟨_,_,_,Qo,m_get,RM _ _ _⟩
 .exact⟨_,_,_,Qp,m_print,VH _ _⟩
 .exact⟨_,_,_,Qq,m_return,Wq _ _⟩
 .exact⟨_,_,_,Qr,m_declare,I4 _⟩
 .exact⟨_,_,_,Qi,m_declare,I4 _⟩
 .exact⟨_,_,_,Qj,m_drop,QH _⟩
theorem Px (gl) (k:qT) (d:Int) (hn:lu k) (hs:n4 k):qM prog gl 98 [k.av,iv d] (λ_ y _=>y=.agg (zP (k.dc d))):=by
 have zF:=hs.body;refine qM.qa func98 [.cell 4 169] ntmps98 λC w g root=>?_;refine qI ?_<|qS;refine zU (λn st=>∃ i:Nat,n=k.body.length - i/\i<=k.body.length/\st.tm 1=iv d/\st.tm 4=.pt (.s 4) 0/\st.hp (.s 4)=some (.row 8 [zP []])/\st.tm 5=.pt (.s 5) 0/\st.hp (.s 5)=some (.row 8 [zP (((k.body.take i).filter (λs=>decide (s.kind=d))).map qP.to)])/\st.tm 9=eZ k.body/\st.tm 10=iv k.body.length/\st.tm 11=iv i) k.body.length ?_ ?_
 .exact⟨0,qB,qB,qB,qB,qH,qB,qH,qB,qB,qB⟩
 rintro n st - - ⟨i,rfl,hi,h1,h4,hp4,h5,hp5,h9,h10,h11⟩;refine qI ?_<|qk h9 h10<|h11;refine y8 ya (λht=>?_) (λhf=>?_)
 .have hlt:i<k.body.length:=yE;obtain⟨s,hsi⟩:=gX hlt;have hto:=hn.zN s (gM hsi);obtain⟨x,hx⟩:∃ x:Nat,s.to=x:=⟨s.to.toNat,qA⟩;have hx8:(x:Int)<8:=qA;clear ht;refine qI ?_<|zM h9 h10 h11 hsi<|h1;refine y8 ya (λht=>?_) (λhf=>?_)
  .have hkd:s.kind=d:=yE;refine qI ?_<|jQ h9 h10 h11 h5 hp5 hx<|hx8;refine⟨k.body.length - (i+1),qA,i+1,qB,qA,zx,yr,aG,yV,?_,cX,cV,zw⟩;rw [nJ hsi];simp [hkd,<- mN hx qA]
  .have hkd:¬ s.kind=d:=vH;refine qI ?_<|qk h9 h10<|h11;refine⟨k.body.length - (i+1),qA,i+1,qB,qA,zx,yr,aG,yV,?_,cX,cV,zw⟩;rw [nJ hsi];simp [hkd,hp5]
 .have hge:i=k.body.length:=by
   have:¬ i<k.body.length:=vH;omega
  subst hge;rw [wD] at hp5;refine qI ?_<|zC h4 hp4 h5<|hp5;refine qG [] .nil (by simp [h4];rfl) ?_;simp [qT.dc,Ad,ma]
theorem PF (gl) (k:qT) (hn:lu k) (hs:n4 k):qM prog gl 97 [k.av] (λ_ y _=>y=.agg (zP k.bd)):=by
 have zF:=hs.body;have hpl:=hs.params;refine qM.qa func97 [.cell 2 169] ntmps97 λC w g root=>?_;refine qI ?_<|qS;refine zU (λn st=>∃ i:Nat,n=k.params.length - i/\i<=k.params.length/\st.tm 1=.pt (.s 1) 0/\st.hp (.s 1)=some (.row 4 [k.cells])/\st.tm 2=.pt (.s 2) 0/\st.hp (.s 2)=some (.row 8 [zP []])/\st.tm 3=.pt (.s 3) 0/\st.hp (.s 3)=some (.row 8 [zP (k.params.take i)])/\st.tm 9=vJ k.params/\st.tm 10=iv k.params.length/\st.tm 11=iv i) k.params.length ?_ ?_
 .exact⟨0,qB,qB,qB,qB,qB,qH,qB,qH,qB,qB,qB⟩
 .rintro n st - - ⟨i,rfl,hi,h1,hp1,h2,hp2,h3,hp3,h9,h10,h11⟩;refine qI ?_<|qk h9 h10<|h11;refine y8 ya (λht=>?_) (λhf=>?_)
  .have hlt:i<k.params.length:=yE;obtain⟨y,hy⟩:=gX hlt;have hto:=hn.params y (gM hy);obtain⟨x,rfl⟩:∃ x:Nat,y=x:=⟨y.toNat,qA⟩;have hx8:(x:Int)<8:=qA;clear ht;refine qI ?_<|jQ h9 h10 h11 hy h3 hp3<|hx8;refine⟨k.params.length - (i+1),qA,i+1,qB,qA,zx,vI,jp,jq,jj,?_,cX,cV,zw⟩;rw [vM,hy];simp [<- mN (y:=(x:Int)) rfl (by omega:x<8)]
  .have hge:i=k.params.length:=by
    have:¬ i<k.params.length:=vH;omega
   subst hge;rw [wD] at hp3;refine qI ?_<|aI h1<|hp1;refine zU (λn st=>∃ i:Nat,n=k.body.length - i/\i<=k.body.length/\st.tm 2=.pt (.s 2) 0/\st.hp (.s 2)=some (.row 8 [zP []])/\st.tm 3=.pt (.s 3) 0/\st.hp (.s 3)=some (.row 8 [zP (k.params++((k.body.take i).filter (λs=>decide (s.cu\/s.kind=11))).map qP.to)])/\st.tm 19=eZ k.body/\st.tm 20=iv k.body.length/\st.tm 21=iv i) k.body.length ?_ ?_
   .exact⟨0,qB,qB,jp,jq,jj,uJ,qB,qB,qB⟩
   clear h1 hp1 h2 hp2 h3 hp3 h9 h10 h11 hf hi;rintro n st - - ⟨i,rfl,hi,h2,hp2,h3,hp3,h19,h20,h21⟩;refine qI ?_<|qk h19 h20<|h21;refine y8 ya (λht=>?_) (λhf=>?_)
   .have hlt:i<k.body.length:=yE;obtain⟨s,hsi⟩:=gX hlt;have hto:=hn.zN s (gM hsi);obtain⟨x,hx⟩:∃ x:Nat,s.to=x:=⟨s.to.toNat,qA⟩;have hx8:(x:Int)<8:=qA;clear ht;have fx:=zC h19 h20 h21<|hsi;have c1:=DC gl s;refine qQ ?_;clear fx c1;refine y8 ya (λht=>?_) (λhf=>?_)
    .skip
     refine qI ?_<|jQ h19 h20 h21 h3 hp3 hx<|hx8;refine⟨k.body.length - (i+1),qA,i+1,qB,qA,jp,jq,jj,?_,mQ,r9,zw⟩;have hc:decide (s.cu\/s.kind=11)=true:=yE;have hadd:=mN (l:=k.params++((k.body.take i).filter (λs=>decide (s.cu\/s.kind=11))).map qP.to) hx qA;rw [nJ hsi,if_pos hc,oB];simp at hadd ⊢;exact hadd
    .skip
     refine qI ?_<|qk h19 h20<|h21;refine⟨k.body.length - (i+1),qA,i+1,qB,qA,jp,jq,jj,?_,mQ,r9,zw⟩;have hc:¬ decide (s.cu\/s.kind=11)=true:=vH;rw [nJ hsi,if_neg hc];simp [hp3]
   .have hge:i=k.body.length:=by
     have:¬ i<k.body.length:=vH;omega
    subst hge;rw [wD] at hp3;refine qI ?_<|zC h2 hp2 h3<|hp3;refine qG [] .nil bI ?_;simp [qT.bd,Ad,mM]
theorem Wl (gl) (k:qT) (hn:lu k) (hs:n4 k):qM prog gl 96 [k.av] (λ_ y _=>y=.agg (zP k.rd)):=by
 have zF:=hs.body;refine qM.qa func96 [.cell 2 169] ntmps96 λC w g root=>?_;refine qI ?_<|qS;refine zU (λn st=>∃ i:Nat,n=k.body.length - i/\i<=k.body.length/\st.tm 2=.pt (.s 2) 0/\st.hp (.s 2)=some (.row 8 [zP []])/\st.tm 3=.pt (.s 3) 0/\st.hp (.s 3)=some (.row 8 [zP (pF (k.body.take i))])/\st.tm 9=eZ k.body/\st.tm 10=iv k.body.length/\st.tm 11=iv i) k.body.length ?_ ?_
 .exact⟨0,qB,qB,qB,qH,qB,qH,qB,qB,qB⟩
 rintro n st - - ⟨i,rfl,hi,h2,hp2,h3,hp3,h9,h10,h11⟩;refine qI ?_<|qk h9 h10<|h11;refine y8 ya (λht=>?_) (λhf=>?_)
 .have hlt:i<k.body.length:=yE;obtain⟨s,hsi⟩:=gX hlt;have hsm:=gM hsi;have hrl:=s.pG;clear ht
  all_goals have fx:=zC h9 h10 h11<|hsi
  repeat' (first|refine zl ?_|refine λ(K:St->Prop) hK=>?_|refine zL (hF:=bj _ s) (h:=?_)|(refine Gg (hF:=Fe _ qY s (hn.kinds s hsm)) (h:=?_)))
  all_goals try clear fx
  refine zU (λn st=>∃ j:Nat,n=s.reads.length - j/\j<=s.reads.length/\st.tm 2=.pt (.s 2) 0/\st.hp (.s 2)=some (.row 8 [zP []])/\st.tm 3=.pt (.s 3) 0/\st.hp (.s 3)=some (.row 8 [zP (pF (k.body.take i)++s.reads.take j)])/\st.tm 9=eZ k.body/\st.tm 10=iv k.body.length/\st.tm 11=iv i/\st.tm 17=.hs (.s 17) 1 0 s.reads.length/\st.hp (.s 17)=some (.row 1 (qm s.reads))/\st.tm 18=iv s.reads.length/\st.tm 19=iv j) s.reads.length ?_ ?_
  .exact⟨0,qB,qB,jp,jq,jj,uJ,cX,cV,fL,qB,qB,qB,qB⟩
  clear h2 hp2 h3 hp3 h9 h10 h11;rintro n st - - ⟨j,rfl,hj,h2,hp2,h3,hp3,h9,h10,h11,h17,hp17,h18,h19⟩;refine qI ?_<|qk h17 h18<|h19;refine y8 ya (λht=>?_) (λhf=>?_)
  .have hlj:j<s.reads.length:=yE;obtain⟨y,hy⟩:=gX hlj;have hto:=hn.reads s hsm y (gM hy);obtain⟨x,rfl⟩:∃ x:Nat,y=x:=⟨y.toNat,qA⟩;obtain⟨_,hye⟩:=gS hy;have hx8:(x:Int)<8:=qA;clear ht;refine qI ?_<|vA h17 hp17 h18 h19 hy hye hlj h3 hp3<|hx8;refine⟨s.reads.length - (j+1),qA,j+1,qB,qA,jp,jq,jj,?_,cX,cV,fL,by simp [h17],by simp [hp17],oE,zw⟩;have hadd:=mN (l:=pF (k.body.take i)++s.reads.take j) (y:=(x:Int)) rfl (by omega:x<8);rw [vM,hy];simp at hadd ⊢;exact hadd
  .have hge:j=s.reads.length:=by
    have:¬ j<s.reads.length:=vH;omega
   subst hge;rw [wD] at hp3;refine qI ?_<| h11;refine⟨k.body.length - (i+1),qA,i+1,qB,qA,jp,jq,jj,?_,cX,cV,zw⟩;rw [vM,hsi];simp [pF,hp3]
 .have hge:i=k.body.length:=by
   have:¬ i<k.body.length:=vH;omega
  subst hge;rw [wD] at hp3;refine qI ?_<|zC h2 hp2 h3<|hp3;refine qG [] .nil bI ?_;simp [qT.rd,Ad]
abbrev LJ:qb:=AA<|.q 5<|.q 7<|.q 9<|.l 4 [9,7,5,2,1,0]<|.l 6 [9,7,2,1,0]<|.l 8 [9,2,1,0]<|.l 10 [2,1,0]<|.q 11<|.l 12 []<|.l 13 []<|.done
theorem mq {A G G2:Prop} (k:G2) (x:A) (h:A->jP G2->G:=by
 intro fx kk;refine qQ ?_
 repeat ((first|refine qf (id:=5) LJ mixed ?_);refine zQ ?_;refine qQ ?_)
 exact kk.h):G:=h x ⟨k⟩
theorem Fx (gl) (p:qC) (hs:uA p) (hh:zZ p) (hn:∀ k∈p,lu k):qM prog gl 60 [yu p] (λr y H'=>y=.hs r 1 0 p.length/\eh H' r p p.length):=by
 have hpl:=hs.len;refine qM.qa func60 [.tmp 2] ntmps60 λC w g root=>?_;refine mq ?_<|qS;refine zU (λn st=>∃ i:Nat,n=p.length - i/\i<=p.length/\st.tm 1=.pt (.s 1) 0/\st.hp (.s 1)=some (.row 1 [[vK p]])/\st.tm 3=.hs (.s 3) 1 0 p.length/\st.tm 14=vK p/\st.tm 15=iv p.length/\st.tm 16=iv i/\eh st.hp (.s 3) p i) p.length ?_ ?_
 .refine⟨0,qB,qB,qB,qB,qB,qB,qB,qB,⟨?_,λj k hj=>qA⟩⟩;rw [<- Xm];simp [aR]
 rintro n st - - ⟨i,rfl,hi,h1,hp1,h3,h14,h15,h16,⟨ho1,ho2⟩⟩;refine mq ?_<|qk h14 h15<|h16;refine y8 ya (λht=>?_) (λhf=>?_)
 .have hlt:i<p.length:=yE;obtain⟨k,hk⟩:=gX hlt;have hkm:=gM hk;obtain⟨hkp,hkb⟩:=hs.uu hk;clear ht
  all_goals have fx:=zC h14 h15 h16<|hk
  repeat' (first
   | refine wu ?_|refine bV ?_|refine au ?_|refine bW λK hK=>?_
   | ((with_reducible refine kJ hK ?_);clear hK K)
   | (with_reducible first|refine wt ?_|refine bm ?_|refine cE ?_|refine bl ?_|refine aq ?_|refine bN ?_|refine fp ?_|refine bn qc ?_)
   | refine cF ?_
   | refine bX ?_
   | (with_reducible first|refine wQ ?_|refine bY (h:=?_)|refine dh (h:=?_)|refine fw (h:=?_)|refine fz (h:=?_)|refine iP (h:=?_)|refine nP (h:=?_))
   | ((with_reducible refine nA 96 rfl ?_);refine zL (hF:=Wl _ k (hn k hkm) (hs.uu hk)) (h:=?_))
   | ((with_reducible refine nA 97 rfl ?_);refine zL (hF:=PF _ k (hn k hkm) (hs.uu hk)) (h:=?_))
   | ((with_reducible refine nA 98 rfl ?_);refine zL (hF:=Px _ k _ (hn k hkm) (hs.uu hk)) (h:=?_))
   | (with_reducible refine ww (h:=?_))
   | refine cI (h1:=?_)|refine cH (h1:=?_)
   | (refine qf (id:=5) LJ mixed λK hK=>?_)
   | ((with_reducible refine cO hK ?_);clear hK K)
   | ((with_reducible refine aV ?_);first|refine ll (h:=?_)|refine nT (h:=?_)|refine nS (h:=?_)|refine nU (h:=?_))
   | ((with_reducible refine aV ?_);refine nR (h1:=λht=>?_) (h2:=λht=>?_))
   | refine iY rfl ?_|refine lw ?_ ?_|refine lz ?_ ?_ ?_|(with_reducible refine aI ?_ ?_)|exact iK|refine iQ (h2:=?_)
   | fail)
  all_goals try clear fx
  refine zU (λn st=>∃ j:Nat,n=k.params.length - j/\j<=k.params.length/\st.tm 1=.pt (.s 1) 0/\st.hp (.s 1)=some (.row 1 [[vK p]])/\st.tm 3=.hs (.s 3) 1 0 p.length/\st.tm 14=vK p/\st.tm 15=iv p.length/\st.tm 16=iv i/\eh st.hp (.s 3) p i/\st.tm 4=iv i/\st.tm 5=.pt (.s 5) 0/\st.hp (.s 5)=some (.row 4 [k.cells])/\st.tm 6=.pt (.s 6) 0/\st.hp (.s 6)=some (.row 43 [yK i k aR (k.params.take j)])/\st.tm 35=vJ k.params/\st.tm 36=iv k.params.length/\st.tm 37=iv j) k.params.length ?_ ?_
  .refine⟨0,qB,qB,zx,vI,jj,by simp [h14],rL,by simp [h16],⟨?_,λj q hj hq=>?_⟩,qB,qB,qB,qB,?_,qB,qB,qB⟩
   .simp [ho1]
   .simp [ho2 j q hj hq]
   .simp [yK,aR]
    rfl
  clear h1 hp1 h3 h14 h15 h16 ho1 ho2;rintro n st - - ⟨j,rfl,hj,h1,hp1,h3,h14,h15,h16,⟨ho1,ho2⟩,h4,h5,hp5,h6,hp6,h35,h36,h37⟩;refine mq ?_<|qk h35 h36<|h37;refine y8 ya (λht=>?_) (λhf=>?_)
  .have hlj:j<k.params.length:=yE;obtain⟨y,hy⟩:=gX hlj;have hto:=(hn k hkm).params y (gM hy);obtain⟨x,rfl⟩:∃ x:Nat,y=x:=⟨y.toNat,qA⟩;have hx8:(x:Int)<8:=qA;clear ht;refine mq ?_<|jQ h35 h36 h37 hy h6 hp6<|hx8;refine⟨k.params.length - (j+1),qA,j+1,qB,qA,zx,vI,jj,by simp [h14],rL,by simp [h16],⟨?_,λj q hj hq=>?_⟩,yr,yV,be,aY,?_,by simp [h35],by simp [h36],zw⟩
   .simp [ho1]
   .simp [ho2 j q hj hq]
   .rw [vM,hy];simp [<- Xs (y:=(x:Int)) rfl (by omega:x<8)]
  .have hge:j=k.params.length:=by
    have:¬ j<k.params.length:=vH;omega
   subst hge;rw [wD] at hp6;clear hf hj;obtain⟨hq1,hq2,hq3⟩:=hh i k hk;refine mq ?_<| h4;refine y8 ya (λht=>?_) (λhf=>?_)
   .have hi0:0<i:=yE;obtain⟨q,hq⟩:∃ q:Nat,k.parent=q:=⟨k.parent.toNat,qA⟩;have hqi:q<i:=qA;have hqp:q<p.length:=qA;have hsg:=xy (n:=.s 3) (i:=i) hqp;rw [if_pos hqi] at hsg;obtain⟨_,hse⟩:=gS hsg;refine mq ?_<|qr h3 ho1 h4 h5 hp5 h6 hp6 hq hsg hse hlt hqp<|aI hqi<|h16;refine⟨p.length - (i+1),qA,i+1,rfl,qA,zx,vI,jj,by simp [h14],rL,by simp [h16];exact qi qA qA,⟨?_,λj r hj hr=>?_⟩⟩
    .simp [ho1,Lu]
    .rcases A9.1 hj with hlj|rfl
     .have hne:¬ j=i:=qA;have hrp:=(hh j r hr).2.1;have ho:=U0 (n:=.s 3) (a:=6) (i:=i) (q:=r.parent) qB qB qA;simp [ho2 j r hlj hr,hne,ho]
     .rw [hk] at hr;obtain rfl:=sI hr;have hne:¬ q=j:=qA;have hso:=Xw (i:=j) (k:=k) (o:=aR) (o':=.pt (.c (.s 3) q 0) 0) (ps:=k.params);simp [hq,U1,hp6,hne,hso]
   .have hi0:i=0:=by
     have:¬ 0<i:=vH;omega
    refine mq ?_<|jQ h3 ho1 h4 h6 hp6 hlt<|h16;refine⟨p.length - (i+1),qA,i+1,rfl,qA,zx,vI,jj,by simp [h14],rL,by simp [h16];exact qi qA qA,⟨?_,λj r hj hr=>?_⟩⟩
    .simp [ho1,Lu]
    .obtain rfl:j=i:=qA;rw [hk] at hr;obtain rfl:=sI hr;rw [U2 qA];simp [hp6]
 .have hge:i=p.length:=by
   have:¬ i<p.length:=vH;omega
  subst hge;refine mq ?_<| h3;refine qG [(.s 2,root)] (.one rfl) qH ⟨qB,⟨?_,λj r hj hr=>?_⟩⟩
  .simp [ho1,xz (n:=.s 2) (m:=root) (f:=zE zf [(.s 2,root)]) qB]
  .simp [ho2 j r hj hr,sV (n:=.s 2) (m:=root) (f:=zE zf [(.s 2,root)]) qB]
theorem EL (gl) (i:Nat) (k:qT) (o:AV) (ps:List Int) (x:Nat) (hx:x<8):qM prog gl 111 [.el (yK i k o ps) 0,iv x] (λ_ y _=>y=bv (decide ((x:Int)∈k.dc 9)||decide ((x:Int)∈k.dc 10))):=by
 have h8:(x:Int)<8:=qA;have hg:=CO (i:=i) (k:=k) (o:=o) (ps:=ps) hx;have hn:=MC (i:=i) (k:=k) (o:=o) (ps:=ps) hx;refine qM.qa func111 [.tmp 4] ntmps111 λC w g root=>?_
 all_goals have fx:=qk h8 hg<|hn
 repeat' (first|refine zl ?_|refine λ(K:St->Prop) hK=>?_|(with_reducible refine yd (λht=>?_) (λht=>?_)))
 all_goals try clear fx
 all_goals refine qG [] .nil qH ?_
 all_goals simp_all
theorem Fw (gl) (i:Nat) (k:qT) (o:AV) (ps:List Int) (x:Nat) (hx:x<8):qM prog gl 159 [.el (yK i k o ps) 0,iv x] (λ_ y _=>y=bv (k.kind != 0&&decide ((x:Int)∈k.bd)&&!(decide ((x:Int)∈k.dc 9)||decide ((x:Int)∈k.dc 10)))):=by
 have h8:(x:Int)<8:=qA;have hb:=MB (i:=i) (k:=k) (o:=o) (ps:=ps) hx;refine qM.qa func159 [.tmp 4] ntmps159 λC w g root=>?_
 all_goals have fx:=aI h8<|hb
 repeat' (first|refine zl ?_|refine λ(K:St->Prop) hK=>?_|refine zL (hF:=EL _ _ _ _ _ _ hx) (h:=?_)|(with_reducible refine yd (λht=>?_) (λht=>?_)))
 all_goals try clear fx
 all_goals refine qG [] .nil qH ?_
 all_goals simp_all
theorem σ (gl) (i:Nat) (k:qT) (o:AV) (ps:List Int) (x:Nat) (hx:x<8):qM prog gl 165 [.el (yK i k o ps) 0,iv x] (λ_ y _=>y=bv (decide ((x:Int)∈k.rd)||decide ((x:Int)∈k.bd)||(decide ((x:Int)∈k.dc 9)||decide ((x:Int)∈k.dc 10)))):=by
 have h8:(x:Int)<8:=qA;have hb:=MB (i:=i) (k:=k) (o:=o) (ps:=ps) hx;have hr:=Xv (i:=i) (k:=k) (o:=o) (ps:=ps) hx;refine qM.qa func165 [.tmp 4] ntmps165 λC w g root=>?_
 all_goals have fx:=qk h8 hb<|hr
 repeat' (first|refine zl ?_|refine λ(K:St->Prop) hK=>?_|refine zL (hF:=EL _ _ _ _ _ _ hx) (h:=?_)|(with_reducible refine yd (λht=>?_) (λht=>?_)))
 all_goals try clear fx
 all_goals refine qG [] .nil qH ?_
 all_goals simp_all
end Go.Proofs.YtjgpejikjhojcaaGreatDoor
end
section
namespace Go.Proofs.YtjgpejikjhojcaaGreatDoor
open Go Go.Hm Go.Proofs Go.RowKit Go.Shelf Tryz
attribute [local go_sem] Oper.semAt_some
abbrev lq (g:Gh) (w0:World) (p:qC):={ a:Option Addr×Nat // ∃ q,p[a.2]?=some q/\q.kind=1/\RV g w0 (.pointer a.1) (y6 p a.2) }
def oq (v:Value) (W:World):Nat:=match v with
 | .pointer (some a)=>(match W.cell? a with|some (.int _ j)=>j.toNat+1|_=>0)
 | _=>0
theorem Rz (n l Bn:Nat) (p:qC) (hh:zZ p) (g:Gh) (w0:World) (hC:∀ b,g.C b->b<w0.heap.size) (j0:Nat) (k0:qT) (hk0:p[j0]?=some k0) (a0:Option Addr) (ha0:RV g w0 (.pointer a0) (y6 p j0)) (J Jx:List (lq g w0 p)->World->Prop) (hn:1<=n)
  (hY:∀ pre x W,J pre W->pre.length<p.length->YieldAt Fence.wide (n - 1) prog l #[.pointer x.1.1] W λe W' =>
    (e=.returned (.bool true)/\J (pre++[x]) W'/\Below w0.heap.size W W')\/(e=.returned (.bool false)/\Jx (pre++[x]) W'))
  (W:World) (hW:Below w0.heap.size w0 W) (hBn:W.cell? ⟨Bn,0,none⟩=some (.pointer a0)) (h0:J [] W) :
  CallsIn Fence.wide n prog 206 #[.func (.yield l) #[] #[],.pointer (some ⟨Bn,0,none⟩)] W λe W'=>(∃ v,e=.returned v) /\
   ((∃ ys,(∃ j,j<0/\Path p k0.parent (ys.map (λy:lq g w0 p=>y.1.2)) j)/\J ys W')\/(∃ pre,(∃ j,Path p k0.parent (pre.map (λy:lq g w0 p=>y.1.2)) j)/\Jx pre W')):=by
 obtain⟨b0,o0,hb0,hs0⟩:=ha0.CM hh hk0;obtain rfl:a0=some ⟨b0,o0,none⟩:=by simpa using hb0
 obtain⟨a1,hc1,hr1⟩:=hs0.out;have hc1':W.cell? ⟨b0,o0+2,none⟩=some (.pointer a1):=(hW.cell (p:=⟨b0,o0+2,none⟩) (hC b0 hs0.C)).trans hc1;refine callsIn_of_wp func206 rfl trivial ?_ rfl;simp only [ntmps206,List.size_toArray,cQ,gH,Nat.reduceAdd,Nat.reduceSub,Array.replicate_succ,Array.replicate_zero,List.push_toArray,List.append_toArray,List.nil_append,fF]
 gi_wp2
 gi_loopw [3] (λv wr=>∃ (pre:List (lq g w0 p)) (j:Int),RV g w0 v (y6 p j)/\(-1<=j/\j<p.length)/\Path p k0.parent (pre.map (λy:lq g w0 p=>y.1.2)) j/\J pre wr/\Below w0.heap.size w0 wr) (λv wr=>oq v wr)
 case atStart =>
  have h1:=hh j0 k0 hk0;have h2:=(gS hk0).1;exact⟨[],k0.parent,hr1,qA,.nil _,h0,hW⟩
 case round =>
  obtain⟨pre,j,hr,hj,hpath,hJ,hB⟩:=hrel;by_cases hneg:j<0
  .obtain rfl:=hr.Lv hneg
   gi_wp2
   go_end0
   exact⟨⟨_,rfl⟩,.inl ⟨pre,⟨j,hneg,hpath⟩,hJ⟩⟩
  .obtain⟨j,rfl⟩:∃ i:Nat,j=i:=⟨j.toNat,qA⟩;obtain⟨k,hk⟩:∃ k,p[j]?=some k:=⟨_,gE qA⟩;obtain⟨b,o,rfl,hs⟩:=hr.CM hh hk;have hb:=hC b hs.C;obtain⟨a2,hc2,hr2⟩:=hs.out;obtain⟨hp1,hp2,_⟩:=hh j k hk;have hv1:wr.cell? ⟨b,o+1,none⟩=some (.int .i64 k.kind):=(hB.cell (p:=⟨b,o+1,none⟩) hb).trans hs.kind;have hv0:wr.cell? ⟨b,o,none⟩=some (.int .i64 j):=(hB.cell (p:=⟨b,o,none⟩) hb).trans hs.idx;have hv2:wr.cell? ⟨b,o+2,none⟩=some (.pointer a2):=(hB.cell (p:=⟨b,o+2,none⟩) hb).trans hc2
   have hlf:∀ W',Below w0.heap.size w0 W'->oq (.pointer a2) W'<oq (.pointer (some ⟨b,o,none⟩)) wr:=by
    intro W' hB';have e:oq (.pointer (some ⟨b,o,none⟩)) wr=j+1:=by simp [oq,hv0]
    rw [e];by_cases hn:k.parent<0
    .have:(Value.pointer a2)=.pointer none:=hr2.Lv hn;obtain rfl:a2=none:=by simpa using this
     simp [oq]
    .obtain⟨q,hq⟩:∃ q:Nat,k.parent=q:=⟨k.parent.toNat,qA⟩;obtain⟨r,hqr⟩:∃ r,p[q]?=some r:=⟨_,gE qA⟩;rw [hq] at hr2;obtain⟨b',o',e',hs'⟩:=hr2.CM hh hqr;obtain rfl:a2=some ⟨b',o',none⟩:=by simpa using e'
     have hb':=hC b' hs'.C;have:W'.cell? ⟨b',o',none⟩=some (.int .i64 q):=(hB'.cell (p:=⟨b',o',none⟩) hb').trans hs'.idx;simp [oq,this];omega
   by_cases hk1:k.kind=1
   .rw [hk1] at hv1;have hlen:=hpath.len hh;have hjj:=(gS hk0).1;have hpp:=(hh j0 k0 hk0).2.1;simp only [List.length_map] at hlen;obtain⟨fn,tmps,assign,body,hy,hR⟩:=hY pre ⟨(some ⟨b,o,none⟩,j),k,hk,hk1,hr⟩ wr hJ qA;dsimp only at hy
    gi_wp2
    refine hR.mono ?_;rintro e W3 (⟨rfl,hJ3,hk3⟩|⟨rfl,hJx3⟩)
    .have hB3:=hB.trans hk3;have hq3:W3.cell? ⟨b,o+2,none⟩=some (.pointer a2):=(hB3.cell (p:=⟨b,o+2,none⟩) hb).trans hc2
     gi_wp2
     go_roundw
     case rel=>exact⟨_,k.parent,hr2,qA,by simpa using hpath.Mf hk hk1,hJ3,hB3⟩
     case measure=>exact hlf _ hB3
    .gi_wp2
     refine bodyPost_ret (results_none rfl _ _ _) rfl ?_;exact⟨⟨_,rfl⟩,.inr ⟨_,⟨k.parent,by simpa using hpath.Mf hk hk1⟩,hJx3⟩⟩
   .have hk2:(k.kind==1)=false:=Ar
    gi_wp2
    refine⟨λ_ h=>wH,?_⟩
    gi_wp2
    go_roundw
    case rel=>exact⟨_,k.parent,hr2,qA,hpath.YX hk hk1,hJ,hB⟩
    case measure=>exact hlf _ hB
theorem SA (n Bn:Nat) (p:qC) (hh:zZ p) (g:Gh) (w0 w:World) (hC:∀ b,g.C b->b<w0.heap.size) (j0:Nat) (k0:qT) (hk0:p[j0]?=some k0) (a0:Option Addr) (ha0:RV g w0 (.pointer a0) (y6 p j0)) (hn:1<=n)
  (hw:Below w0.heap.size w0 w) (hBl:Bn<w.heap.size) (hc:w.cell? ⟨Bn,0,none⟩=some (.pointer a0)) :
  SeqStopsK Fence.wide n prog 206 #[.pointer (some ⟨Bn,0,none⟩)] (λx:lq g w0 p=>#[Value.pointer x.1.1]) (Below w0.heap.size)
   (λys=>∃ j,j<0/\Path p k0.parent (ys.map (λy:lq g w0 p=>y.1.2)) j) (λpre=>∃ j,Path p k0.parent (pre.map (λy:lq g w0 p=>y.1.2)) j) p.length w:=λl J Jx W hW _ _ hY h0 =>
 Rz n l Bn p hh g w0 hC j0 k0 hk0 a0 ha0 J Jx hn hY W (hw.trans (hW.mono hw.size)) ((hW.cell (p:=⟨Bn,0,none⟩) hBl).trans hc) h0
theorem RB (n:Nat) (a0:Option Addr) (w:World) :
  CallsIn Fence.wide n prog 158 #[.pointer a0] w λe w'=>e=.returned (.func (.func 206) #[] #[.pointer (some ⟨w.heap.size,0,none⟩)])/\w'=w.alloc (.cells #[.pointer a0] 129):=by
 refine callsIn_of_wp func158 rfl trivial ?_ rfl;simp only [ntmps158,List.size_toArray,cQ,gH,Nat.reduceAdd,Nat.reduceSub,Array.replicate_succ,Array.replicate_zero,List.push_toArray,List.append_toArray,List.nil_append,fF]
 gi_wp2
 go_ret
 exact⟨rfl,rfl⟩
end Go.Proofs.YtjgpejikjhojcaaGreatDoor
end
section
namespace Go.Proofs.YtjgpejikjhojcaaGreatDoor
open Go Go.Hm Go.Proofs Go.RowKit Go.Shelf Tryz
attribute [local go_sem] Oper.semAt_some
theorem PZ {W:World} {B:Nat} {v:Value} {t:TypeId} (h:W.heap[B]?=some (.cells #[v] t (0,0))):W.cell? ⟨B,0,none⟩=some v/\W.frozen? ⟨B,0,none⟩=false:=by
 constructor <;> simp [World.cell?,World.frozen?,h]
theorem EG (W:World) (v:Value) (t:TypeId):(W.alloc (.cells #[v] t)).cell? ⟨W.heap.size,0,none⟩=some v/\(W.alloc (.cells #[v] t)).frozen? ⟨W.heap.size,0,none⟩=false:=PZ (World.alloc_heap_new W _)
theorem EF {W:World} {a:Addr} {v:Value} (o:Obj) (h:W.cell? a=some v):(W.alloc o).cell? a=some v:=cell_kept h (World.grownBy_alloc W o none) (λr e=>vQ)
theorem Qw {W:World} {a:Addr} {v:Value} (o:Obj) (h:W.cell? a=some v) (hf:W.frozen? a=false):(W.alloc o).frozen? a=false:=(frozen_kept h (World.grownBy_alloc W o none) (λr e=>vQ)).trans hf
theorem U7 (n:Nat) (hn:3<=n) (p:qC) (hh:zZ p) (hb0:∀ k,p[0]?=some k->k.kind≠1) (g:Gh) (w:World) (hC:∀ b,g.C b->b<w.heap.size) (i:Nat) (k:qT) (hk:p[i]?=some k) (a0:Option Addr) (ha:RV g w (.pointer a0) (y6 p i)) (x:Nat) (hx:x<8) :
  CallsIn Fence.wide n prog 112 #[.pointer a0,.int .i64 x] w λe W'=>e=.returned (.int .i64 (jx p x p.length k.parent))/\Below w.heap.size w W':=by
 have h1:1<=n:=qA;refine callsIn_of_wp_marks func112 rfl trivial ?_ rfl;simp only [ntmps112,List.size_toArray,cQ,gH,Nat.reduceAdd,Nat.reduceSub,Array.replicate_succ,Array.replicate_zero,List.push_toArray,List.append_toArray,List.nil_append,fF]
 gi_wp2_with (refine⟨trivial,?_⟩;gi_at_call 158;refine (RB (n - 1) _ _).mono ?_;rintro e w' ⟨rfl,rfl⟩)
 have c0:=EG w (.int .i64 x) 3;have c1:=EG (w.alloc (.cells #[.int .i64 x] 3)) (.int .i64 0) 3;have c2:=EG ((w.alloc (.cells #[.int .i64 x] 3)).alloc (.cells #[.int .i64 0] 3)) (.pointer a0) 129;simp only [World.size_alloc] at c1 c2;have hB0:Below w.heap.size w (((w.alloc (.cells #[.int .i64 x] 3)).alloc (.cells #[.int .i64 0] 3)).alloc (.cells #[.pointer a0] 129)):=(((Below.refl _ w).alloc (qX _) _).alloc qB _).alloc qn _
 refine wpIn_rangeFunc_ownF rfl h1 (gf:=206) (lb:=#[.pointer (some ⟨w.heap.size+1+1,0,none⟩)]) rfl trivial (enters_of func206 qY rfl)
  (SA (n - 1) (w.heap.size+1+1) p hh g w _ hC i k hk a0 ha qA hB0 qB c2.1) belowK_t (belowK_b qn) (Below.refl _ _) (λ_=>rfl)
  (λpre W=>((∀ y∈pre,found p x y.1.2=none)/\W.cell? ⟨w.heap.size,0,none⟩=some (.int .i64 x)/\W.cell? ⟨w.heap.size+1,0,none⟩=some (.int .i64 0)/\W.frozen? ⟨w.heap.size+1,0,none⟩=false)/\Below w.heap.size w W)
  (λc pre W=>(c=.ret/\(∃ l y r,pre=l++[y]/\(∀ y∈l,found p x y.1.2=none)/\found p x y.1.2=some r/\W.cell? ⟨w.heap.size+1,0,none⟩=some (.int .i64 r)))/\Below w.heap.size w W)
  (OwnFrom.and (Own.from (λs A B row hs hg hr=>⟨hs.1,cell_kept hs.2.1 hg hr,cell_kept hs.2.2.1 hg hr,(frozen_kept hs.2.2.1 hg hr).trans hs.2.2.2⟩) _) (ownFrom_below (qX _) qn))
  (λc=>OwnFrom.and (Own.from (λs A B row hs hg hr=>⟨hs.1,by obtain⟨l,y,r,e1,e2,e3,e4⟩:=hs.2;exact⟨l,y,r,e1,e2,e3,cell_kept e4 hg hr⟩⟩) _) (ownFrom_below (qX _) qn))
  ⟨⟨qB,EF _ (EF _ c0.1),EF _ c1.1,Qw _ c1.1 c1.2⟩,hB0⟩
  (λy=>{ tmps:=#[.pointer a0,.int .i64 x,undef,.pointer (some ⟨w.heap.size,0,none⟩),.pointer (some ⟨w.heap.size+1,0,none⟩),.pointer y.1.1,.pointer a0,.func (.func 206) #[] #[.pointer (some ⟨w.heap.size+1+1,0,none⟩)],.pointer y.1.1,undef,undef,undef,undef,undef,undef,undef,undef,undef,undef,undef,undef,undef],defers:=[] }) ?assign ?body ?done ?stop
 case assign =>
  intro l y W K hK
  gi_wp2
  exact hK
 case body =>
  rintro l pre ⟨⟨ay,j⟩,q,hq,hq1,hr⟩ W ⟨⟨hp,hcx,hcr,hfr⟩,hB⟩ _;dsimp only at hq hr ⊢
  obtain⟨b,o,rfl,hs⟩:∃ b o,ay=some ⟨b,o,none⟩/\HO g w p j q b o:=by
   obtain⟨b,o,e,h⟩:=hr.CM hh hq;exact⟨b,o,by simpa using e,h⟩
  have hb:=hC b hs.C;have hg:W.cell? ⟨b,o+(27+x),none⟩=some (.bool (decide ((x:Int)∈q.dc 9))):=(hB.cell (p:=⟨b,o+(27+x),none⟩) hb).trans (hs.zJ x hx);have hidx:W.cell? ⟨b,o,none⟩=some (.int .i64 j):=(hB.cell (p:=⟨b,o,none⟩) hb).trans hs.idx;have h8:(x:Int)<8:=qA;have hg2:W.cell? ⟨b,o+27+x,none⟩=some (.bool (decide ((x:Int)∈q.dc 9))):=by rw [cP];exact hg
  have hmx:prog.follows .mixedOrders=true:=qY
  have hj0:0<j:=by
   rcases dJ j with rfl|h
   .exact absurd hq1 (hb0 q hq)
   .exact h
  have hcall:∀ W',Below w.heap.size w W'->Calls prog 159 #[.pointer (some ⟨b,o,none⟩),.int .i64 x] W' λe W''=>e=.returned (.bool (u7 j q x))/\Below W'.heap.size W' W'':=by
   intro W' hB';have hF:=Fw (λ_=>none) j q (y6 p q.parent) q.params x hx
   have e:(q.kind != 0&&decide ((x:Int)∈q.bd)&&!(decide ((x:Int)∈q.dc 9)||decide ((x:Int)∈q.dc 10)))=u7 j q x:=by
    simp [u7,hq1,hj0,Bool.and_assoc]
   rw [e] at hF;refine qM.W1 hF (g:=g) (λb hb=>uW (hC b hb) hB'.size) rfl ?_;intro a v y hv hy
   match a,hv,hy with
   | 0,hv,hy =>
    obtain rfl:=sI hv;obtain rfl:=sI hy;have:=hr.SL hC hB'
    rwa [cq hh hq] at this
   | 1,hv,hy =>
    obtain rfl:=sI hv;obtain rfl:=sI hy;exact .sc _
   | a+2,hv,_=>simp at hv
  have hBd:Below w.heap.size w W.drew:=⟨hB.os,hB.tape,hB.output,hB.size,hB.block⟩;have hbW:b<W.drew.heap.size:=uW hb hB.size
  have hrW:w.heap.size+1<W.drew.heap.size:=by
   refine Nat.lt_of_not_le λhge=>?_;have:W.heap[w.heap.size+1]?=none:=Array.getElem?_eq_none hge;simp [World.cell?,this] at hcr
  have hko:∀ w3,Below W.drew.heap.size W.drew w3->KeepsOthers W w3:=λw3 h=>⟨h.size,λk o hk _=>(h.block k (mD.1 hk).1).trans hk⟩;have hfd:found p x j=if (x:Int)∈q.dc 9 then some (-1) else if u7 j q x then some (j:Int) else none:=by simp only [found,hq]
  by_cases hm:(x:Int)∈q.dc 9
  .rw [decide_eq_true hm] at hg hg2;rw [if_pos hm] at hfd
   gi_wp2
   gi_region_o
   all_goals gi_wp2
   all_goals exact⟨(KeepsOthers.drew W).trans (KeepsOthers.setCell _ _ _),⟨rfl,pre,⟨(some ⟨b,o,none⟩,j),q,hq,hq1,hr⟩,-1,rfl,hp,hfd,World.cell?_setCell_same' _ _ _ (by rw [hcr];rfl)⟩,hBd.setCell (p:=⟨w.heap.size+1,0,none⟩) qB _⟩
  .rw [decide_eq_false hm] at hg hg2;rw [if_neg hm] at hfd
   cases hl:u7 j q x with
   | true =>
    rw [hl] at hcall;rw [if_pos hl] at hfd
    gi_wp2
    gi_region_o
    all_goals gi_wp2_with (refine⟨trivial,λ_=>qA,?_⟩;refine (CallsIn.inRound l (callsIn_wide.2 (hcall _ hBd))).mono ?_;rintro e w3 ⟨rfl,hbw⟩;have hi3:=(hbw.cell (p:=⟨b,o,none⟩) hbW).trans hidx;have hc3:=(hbw.cell (p:=⟨w.heap.size+1,0,none⟩) hrW).trans hcr;have hf3:=(hbw.frozen (p:=⟨w.heap.size+1,0,none⟩) hrW).trans hfr)
    all_goals exact⟨(hko _ (by assumption)).trans (KeepsOthers.setCell _ _ _),⟨rfl,pre,⟨(some ⟨b,o,none⟩,j),q,hq,hq1,hr⟩,(j:Int),rfl,hp,hfd,World.cell?_setCell_same' _ _ _ (by rw [hc3];rfl)⟩,(hBd.trans (Below.mono (by assumption) hBd.size)).setCell (p:=⟨w.heap.size+1,0,none⟩) qB _⟩
   | false =>
    rw [hl] at hcall;rw [if_neg (by rw [hl];decide)] at hfd
    gi_wp2
    gi_region_o
    all_goals gi_wp2_with (refine⟨trivial,λ_=>qA,?_⟩;refine (CallsIn.inRound l (callsIn_wide.2 (hcall _ hBd))).mono ?_;rintro e w3 ⟨rfl,hbw⟩)
    all_goals
     have hWw:Below W.drew.heap.size W.drew w3:=by assumption
     have hB3:Below w.heap.size W.drew w3:=hWw.mono hBd.size;have hBW:Below w.heap.size W w3:=⟨hB3.os,hB3.tape,hB3.output,hB3.size,hB3.block⟩;have hsW:w.heap.size<W.drew.heap.size:=Nat.lt_of_succ_lt hrW;refine⟨hko _ hWw,hBW,⟨λy hy=>?_,(hWw.cell (p:=⟨w.heap.size,0,none⟩) hsW).trans hcx,(hWw.cell (p:=⟨w.heap.size+1,0,none⟩) hrW).trans hcr,(hWw.frozen (p:=⟨w.heap.size+1,0,none⟩) hrW).trans hfr⟩,hB.trans hBW⟩;rcases jo.1 hy with hy|hy
     .exact hp y hy
     .obtain rfl:=yj.1 hy;exact hfd
 case done =>
  rintro D ys W hD ⟨je,hneg,hpath⟩ ⟨⟨hne,_,hcr,hfr⟩,hB⟩ hK
  gi_wp2
  have hK':=(KeepsOthers.setCell W ⟨w.heap.size+1,0,none⟩ (.int .i64 (-1))).same D _ hK rfl;refine⟨qB,.inl ⟨_,_,rfl,run_takeDeferred hK',?_⟩⟩;have hc5:=cell_kept (World.cell?_setCell_same' W ⟨w.heap.size+1,0,none⟩ (.int .i64 (-1)) (by rw [hcr];rfl)) (grownBy_putObj' _ D (.deferred none)) (λr e=>by cases e;exact⟨_,hK',rfl⟩)
  have hout:jx p x p.length k.parent=-1:=by
   rw [hpath.outer hh hb0 (x:=x) (λy hy=>by obtain⟨z,hz,rfl⟩:=wU.1 hy;exact hne z hz),xj qA]
  refine⟨.int .i64 (-1),?_,by rw [hout],(hB.setCell (p:=⟨w.heap.size+1,0,none⟩) qB _).trans (belowK_b (w:=w) (qX _) _ D _ _ (by simp at hD;omega) hK' rfl rfl)⟩;simp [results,Tryz.f112,go_sem,hc5]
 case stop =>
  rintro D c pre W hD ⟨je,hpath⟩ ⟨⟨rfl,l,y,r,rfl,hno,hf,hcr⟩,hB⟩ hK
  gi_wp2
  refine⟨qB,.inl ⟨_,_,rfl,run_takeDeferred hK,?_⟩⟩;have hc5:=cell_kept hcr (grownBy_putObj' _ D (.deferred none)) (λr e=>by cases e;exact⟨_,hK,rfl⟩)
  have hout:jx p x p.length k.parent=r:=by
   rw [oB,List.map_singleton] at hpath;exact Path.found hh hpath hb0 (λy hy=>by obtain⟨z,hz,rfl⟩:=wU.1 hy;exact hno z hz) hf
  refine⟨.int .i64 r,?_,by rw [hout],hB.trans (belowK_b (w:=w) (qX _) W D _ _ (by simp at hD;omega) hK rfl rfl)⟩;simp [results,Tryz.f112,go_sem,hc5]
theorem U6 (gl) (p:qC) (hh:zZ p) (hb0:∀ k,p[0]?=some k->k.kind≠1) (i:Nat) (k:qT) (hk:p[i]?=some k) (x:Nat) (hx:x<8) :
  qM prog gl 112 [y6 p i,iv x] (λ_ y _=>y=iv (outer p i x)):=by
 refine qM.UN ⟨_,func112,qY,qY⟩ λw g args hC hsz hargs=>?_;rw [lT hh hk]
 obtain⟨v0,v1,rfl⟩:∃ v0 v1,args=#[v0,v1]:=by
  refine⟨args[0]'(by simp at hsz;omega),args[1]'(by simp at hsz;omega),?_⟩;apply Array.ext
  .simpa using hsz
  .intro i h1 h2
   match i with
   | 0=>rfl
   | 1=>rfl
   | i+2=>simp at hsz;omega
 have h0:=hargs 0 v0 _ rfl rfl;have h1:=hargs 1 v1 _ rfl rfl;obtain⟨a0,rfl⟩:=h0.ptr;obtain rfl:=h1.zi;exact callsIn_wide.1 (U7 3 (qX _) p hh hb0 g w hC i k hk a0 h0 x hx)
end Go.Proofs.YtjgpejikjhojcaaGreatDoor
end
section
namespace Go.Proofs.YtjgpejikjhojcaaGreatDoor
open Go Go.Hm Go.Proofs Tryz
abbrev iH (p:qC) (i:Nat) (k:qT):AV:=.el (yK i k (y6 p k.parent) k.params) 0
theorem Kg (gl) (p:qC) (hp:z6 p) (i:Nat) (k:qT) (hk:p[i]?=some k) (x:Nat) (hx:x<8):qM prog gl 112 [iH p i k,iv x] (λ_ y _=>y=iv (outer p i x)):=by
 have:=U6 gl p hp.jR hp.Qx i k hk x hx
 rwa [cq hp.jR hk] at this
theorem db (gl) (p:qC) (hp:z6 p) (i:Nat) (k:qT) (hk:p[i]?=some k) (x:Nat) (hx:x<8):qM prog gl 137 [iH p i k,iv x] (λ_ y _=>y=iv (zA p i x)):=by
 have h8:(x:Int)<8:=qA;have hg:=CO (i:=i) (k:=k) (o:=y6 p k.parent) (ps:=k.params) hx;have hk0:=hp.dS hk;refine qM.qa func137 [.tmp 4] ntmps137 λC w g root=>?_
 all_goals have fx:=aI h8<|hg
 repeat' (first|refine zl ?_|refine λ(K:St->Prop) hK=>?_|refine zL (hF:=Fw _ _ _ _ _ _ hx) (h:=?_)|refine zL (hF:=Kg _ p hp i k hk x hx) (h:=?_)|(with_reducible refine yd (λht=>?_) (λht=>?_))|refine vj (h1:=λht=>?_) (h2:=λht=>?_))
 all_goals try clear fx
 all_goals refine qG [] .nil qH ?_
 all_goals simp_all [zA,u7]
 all_goals grind
theorem χ (gl) (p:qC) (hp:z6 p) (i:Nat) (k:qT) (hk:p[i]?=some k):qM prog gl 73 [iH p i k] (λ_ y _=>y=bv (aL p i)):=by
 have hdo:aL p i=(List.range 8).all (λx=>w6 p i k (x:Int)):=by simp only [aL,hk]
 rw [hdo];refine qM.qa func73 [.tmp 2] ntmps73 λC w g root=>?_;refine qI ?_<|qS;refine zU (λn st=>∃ x:Nat,n=8 - x/\x<=8/\st.tm 0=iH p i k/\st.tm 4=iv x/\(List.range x).all (λx=>w6 p i k (x:Int))=true) 8 ⟨0,qB⟩ ?_;rintro n st - - ⟨x,rfl,hx,h0,h4,hal⟩;refine qI ?_<|aI h0<|h4;refine y8 ya (λht=>?_) (λhf=>?_)
 .have h8:(x:Int)<8:=yE;have hx8:x<8:=qA;have hg:=CO (i:=i) (k:=k) (o:=y6 p k.parent) (ps:=k.params) hx8;have hn:=MC (i:=i) (k:=k) (o:=y6 p k.parent) (ps:=k.params) hx8;have hq:=Xu (i:=i) (k:=k) (o:=y6 p k.parent) (ps:=k.params) hx8;have hge:=U8 (p:=p) (b:=i) (x:=x);have fin:w6 p i k x=false->(List.range 8).all (λx=>w6 p i k (x:Int))=false:=λh=>l0 hx8 h;have nxt:w6 p i k x=true->(List.range (x+1)).all (λx=>w6 p i k (x:Int))=true:=λh=>by rw [mI,hal,h];rfl
  clear ht hal
  all_goals have fx:=j2 h0 h4 h8 hg hn<|hq
  repeat' (first|refine zl ?_|refine λ(K:St->Prop) hK=>?_|refine zL (hF:=EL _ _ _ _ _ _ hx8) (h:=?_)|refine zL (hF:=Kg _ p hp i k hk x hx8) (h:=?_)|(with_reducible refine yd (λht=>?_) (λht=>?_))|refine vj (h1:=λht=>?_) (h2:=λht=>?_))
  all_goals try clear fx
  all_goals clear hg hn hq
  all_goals first
   | (refine qG [] .nil qH ?_
      rw [fin (by simp only [w6];simp_all;done)]
      rfl)
   | (refine⟨8 - (x+1),qA,x+1,rfl,qA,ji,zw,nxt ?_⟩
      simp only [w6]
      simp_all
      try omega)
 .have hge:x=8:=by
   have:¬ (x:Int)<8:=vH;omega
  subst hge;refine qI ?_<|qS;refine qG [] .nil fJ (by simp [hal])
end Go.Proofs.YtjgpejikjhojcaaGreatDoor
end
