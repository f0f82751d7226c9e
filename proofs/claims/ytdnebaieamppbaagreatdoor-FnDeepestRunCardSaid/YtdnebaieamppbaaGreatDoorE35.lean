import Derived.Test.YtdnebaieamppbaaGreatDoorE19
import Derived.Test.YtdnebaieamppbaaGreatDoorE32
set_option linter.unusedSimpArgs false
set_option linter.unusedVariables false
set_option maxRecDepth 100000
set_option maxHeartbeats 4000000

section
namespace Go.Proofs.YtdnebaieamppbaaGreatDoor
open Go Go.Hm Go.Proofs Tryz
theorem da (gl) (D:Nm->Bool) (hD:∀ k,D k=true->k.Zi=false) (H:Nm->Option AO) (R:List AV) (off k:Nat) (vs:List Zd) (v:Zd) (hr:H Yn=some (.row 4415 [R])) (hi:R[off+28]?=some (.hs (.c Yn 0 (off+28)) 2 0 (k+1))) (hs:H (.c Yn 0 (off+28))=some (.row 2 (zn vs))) (hv:vs[k]?=some v) (hk:k<=1000) (ho:off+29<=4415) :
  Zj prog gl 214 D [.pt Yn off] H (AZ D (Zd.av v) Yn (.row 4415 [Zz R (off+28) [.hs (.c Yn 0 (off+28)) 2 0 k]]) H) noE:=by
 obtain⟨hil,hiE⟩:=gS hi;obtain⟨hvl,hvE⟩:=gS hv;obtain⟨v1,v2⟩:=v;have hw1:IntKind.i64.wrap (k:Int)=k:=Zv qA qA;have hl1:(k:Int)<(k:Int)+1:=qA;have hl2:(k:Int)<=(k:Int)+1:=qA;have hl0:(0:Int)<=(k:Int):=qA;refine Zj.Zl func214 [.cell 2 63] ntmps214 hD λC w g root hroot=>?_;have ho2:off+28+1<=4415:=ho;have fx:=qU hr hi hiE hil ho2 hs hv hvE hvl hw1 hl0 hl1<|hl2;refine qG ?_
 repeat ((first|refine Ze (id:=1) (.q 0<|.q 1<|.q 2<|.q 3<|.q 4<|.q 5<|.q 6<|.q 7<|.q 8<|.q 9<|.q 10<|.q 11<|.l 12 [11,10,9,8,7,6,5,4,3,2,1,0]<|.l 13 []<|.done) mixed ?_|refine Ze (id:=2) (.q 0<|.q 1<|.q 2<|.q 3<|.q 4<|.q 5<|.q 6<|.q 7<|.q 8<|.q 9<|.q 10<|.q 11<|.q 12<|.q 13<|.l 14 []<|.done) mixed ?_);refine qZ ?_;refine qG ?_)
 clear fx;refine qD [] .nil qE ⟨qB,λq hq=>?_⟩;have hq2:=λd=>(D_s hD hq d).1;have hq3:=λd=>(D_s hD hq d).2;by_cases e:q=Yn
 .subst e;simp only [lQ,hq,if_true];simp [AO.tr,Zz,HQ,List.map_drop,Qm hD,-List.map_map]
 .simp [lQ,hq,hq2,hq3,e,NW hD,-Option.map_map]
theorem vl (gl) (D:Nm->Bool) (hD:∀ k,D k=true->k.Zi=false) (H:Nm->Option AO) (R:List AV) (off:Nat) (vs js:List Zd) (v:Zd) (hDY:D Yn=true) (hDS:D (.c Yn 0 (off+28))=true) (hr:H Yn=some (.row 4415 [R])) (hi:R[off+28]?=some (.hs (.c Yn 0 (off+28)) 2 0 vs.length)) (hs:H (.c Yn 0 (off+28))=some (.row 2 (zn (vs++js)))) (hk:vs.length<=1000) (ho:off+29<=4415) :
  Zj prog gl 186 D [.pt Yn off,Zd.av v] H (SD D (.c Yn 0 (off+28)) (off+28) R (vs++[v]) H) noE:=by
 obtain⟨hil,hiE⟩:=gS hi;obtain⟨v1,v2⟩:=v;have ho2:off+28+1<=4415:=ho;refine Zj.Zl func186 [] ntmps186 hD λC w g root hroot=>?_;have fx:=u4 hr hi hiE hil ho2 hs<|hk;refine qG ?_
 repeat ((first|refine Ze (id:=1) (.q 0<|.q 1<|.q 2<|.q 3<|.q 4<|.q 5<|.l 6 [4,3,2,1,0]<|.l 7 [0]<|.q 8<|.q 9<|.l 10 []<|.done) mixed ?_);refine qZ ?_;refine qG ?_)
 clear fx;refine zy [] .nil qE ⟨?_,?_,λq hq h1 h2=>?_⟩
 .have e:=ZL (a:=3) (b:=10) (c:=11) (l:=R) hD hDS;simp only [xA] at e;simp only [lQ,hDY,if_true];simp [e,hDS,Zz]
 .simp only [lQ,hDS,if_true];simp [zn]
 .have hq2:=λd=>(D_s hD hq d).1;have hq3:=λd=>(D_s hD hq d).2;have h3:¬ Nm.c Yn 0 (off+28)=q:=by rintro rfl;simp at h2
  have e:=ZK (a:=3) (b:=10) (c:=11) (o:=H q) hD hDS;simp only [Option.map_map] at e;simp only [lQ,hq,if_true];simp [hq2,hq3,h1,h2,h3,-Option.map_map,e];simp [e]
theorem uo (gl) (D:Nm->Bool) (hD:∀ k,D k=true->k.Zi=false) (H:Nm->Option AO) (R:List AV) (e:Int) (hr:H Yn=some (.row 4415 [R])) (hl:R.length=4415) :
  Zj prog gl 212 D [.pt Yn 0,iv e] H (AZ D (bv false) Yn (.row 4415 [Zz R 3 [iv e]]) H) noE:=by
 refine Zj.Zl func212 [.tmp 4] ntmps212 hD λC w g root hroot=>?_;refine qC ?_<|aI hr<|hl;refine qD [] .nil qE ⟨qB,λq hq=>?_⟩;have hq2:=λd=>(D_s hD hq d).1;have hq3:=λd=>(D_s hD hq d).2;by_cases e:q=Yn
 .subst e;simp only [lQ,hq,if_true];simp [AO.tr,Zz,HQ,List.map_drop]
 .simp [lQ,hq,hq2,hq3,e]
theorem A3 (gl) (D:Nm->Bool) (hD:∀ k,D k=true->k.Zi=false) (hDY:D Yn=true) (H:Nm->Option AO) (R:List AV) (i:Nat) (hr:H Yn=some (.row 4415 [R])) (h:R[4411]?=some (iv ((i:Int)+1))) (hi:i<151) :
  Zj prog gl 145 D [.pt Yn 0] H (SB D (.pt Yn (yo i)) H) noE:=by
 obtain⟨hil,hiE⟩:=gS h;have hw1:IntKind.i64.wrap (i:Int)=i:=Zv qA qA;have hl0:(0:Int)<=(i:Int):=qA;have hl1:(i:Int)<151:=qA;refine Zj.Zl func145 [.tmp 2] ntmps145 hD λC w g root hroot=>?_;have fx:=kO hr h hil hiE hw1 hl0 hl1<|hi;refine qG ?_
 repeat ((first|refine Ze (id:=1) (.q 0<|.q 1<|.q 2<|.q 3<|.q 4<|.q 5<|.q 6<|.q 7<|.q 8<|.l 9 []<|.done) mixed ?_);refine qZ ?_;refine qG ?_)
 clear fx;refine qD [] .nil qE ⟨by simp [hDY,yo,Eh],λq hq=>?_⟩;have hq2:=λd=>(D_s hD hq d).1;have hq3:=λd=>(D_s hD hq d).2;simp [lQ,hq,hq2,hq3]
@[simp] theorem scRows_tr {p:Z0} {f:Nm->Option Nm}:(fT p).map (λr=>r.map (AV.tr f))=fT p:=by simp [fT]
theorem oc (p:Z0) (j:Int):jK p j=Ca\/∃ r,jK p j=.el r 0:=by
 unfold jK
 cases p.length with
 | zero=>exact .inl rfl
 | succ n =>
  rw [bf]
  split
  .exact .inl rfl
  .split
   .exact .inl rfl
   .exact .inr ⟨_,rfl⟩
@[simp] theorem scopeA_isNil {p:Z0} {j:Int}:zT (jK p j)=false:=by
 rcases oc p j with h|⟨r,h⟩ <;> rw [h] <;> rfl
@[simp] theorem scopeA_sNm {p:Z0} {j:Int}:sNm (jK p j)=none:=by
 rcases oc p j with h|⟨r,h⟩ <;> rw [h] <;> rfl
theorem uz (gl) (p:Z0) (hh:zS p) (i:Nat) (k:Za) (hk:p[i]?=some k) (b:Nat):qb prog gl 125 [Om p i k,iv b] (λ_ y _=>y=bv (qi p i b)):=by
 have hil:=(gS hk).1;refine qb.Zl func125 [.tmp 4] ntmps125 λC w g root=>?_;refine qC ?_<|Zk;refine qX (λn st=>∃ j:Int,n=(j+1).toNat /\ -1<=j/\j<p.length/\st.tm 1=iv b/\st.tm 5=jK p j/\qi p i b=qi p j b) (i+1) ?_ ?_
 .exact⟨i,qA,qA,qA,qB,by simp [ji hh hk],rfl⟩
 rintro n st - - ⟨j,rfl,hj1,hj,h1,h5,hin⟩;rcases Int.lt_or_le j 0 with hn|hn
 .rw [nO hn,Ca] at h5
  have hfa:qi p i b=false:=by
   rw [hin,zf qA];exact decide_eq_false qA
  refine qC ?_<|aI h1<|h5;refine qD [] .nil qE ?_;simp [hfa]
 .obtain⟨J,rfl⟩:∃ J:Nat,j=J:=⟨j.toNat,qA⟩;obtain⟨q,hq⟩:∃ q,p[J]?=some q:=⟨_,gE qA⟩;obtain⟨hq1,hq2,_⟩:=hh J q hq;rw [ji hh hq] at h5
  cases hjb:((J:Int)==b)
  .have hne:¬ (J:Int)=b:=by simpa using hjb
   have hin2:qi p i b=qi p q.parent b:=by
    rw [hin];rcases Int.lt_or_le b J with h|h
    .exact zr hh qA hq h
    .rw [zf h,zf qA,decide_eq_false hne,decide_eq_false qA]
   refine qC ?_<|jI h1 h5<|hjb;exact⟨(q.parent+1).toNat,qA,q.parent,rfl,hq1,qA,qy,qB,hin2⟩
  .have he:(J:Int)=b:=by simpa using hjb
   have htr:qi p i b=true:=by
    rw [hin,zf qA];exact decide_eq_true he
   refine qC ?_<|jI h1 h5<|hjb;refine qD [] .nil qE ?_;simp [htr]
theorem Uf {k:Za} {y:Nat} (hy:y<8):(decide ((y:Int)∈k.rd)||decide ((y:Int)∈k.bd)||(decide ((y:Int)∈k.dc 9)||decide ((y:Int)∈k.dc 10)))=decide ((y:Int)∈k.us):=by
 have e:=Di (xs:=k.rd++k.bd++k.dc 9++k.dc 10) hy;simp only [Za.us,e,dY];by_cases h1:(y:Int)∈k.rd <;> by_cases h2:(y:Int)∈k.bd <;> by_cases h3:(y:Int)∈k.dc 9 <;> by_cases h4:(y:Int)∈k.dc 10 <;> simp [h1,h2,h3,h4]
theorem uR (gl) (p:Z0) (i:Nat) (k:Za) (x:Nat) (hx:x<8):qb prog gl 75 [Om p i k,iv x] (λ_ y _=>y=bv (decide ((x:Int)∈k.us))):=by
 have:=S2 gl i k (jK p k.parent) k.params x hx
 rwa [Uf hx] at this
theorem cx (gl) (p:Z0) (hp:Z7 p) (i:Nat) (k:Za) (hk:p[i]?=some k) (x:Nat) (hx:x<8):qb prog gl 124 [Om p i k,iv x] (λ_ y _=>y=bv (qa i k x)):=by
 have h:=vZ gl i k (jK p k.parent) k.params x hx;have hk0:=hp.qAx hk
 have e:(k.kind != 0&&decide ((x:Int)∈k.bd)&&!(decide ((x:Int)∈k.dc 9)||decide ((x:Int)∈k.dc 10)))=qa i k x:=by
  by_cases h0:i=0
  .have:(k.kind != 0)=false:=by simp [hk0,h0]
   rw [this];simp [qa,h0]
  .have:(k.kind != 0)=true:=by simp [hk0,h0]
   rw [this];have h1:decide (0<i)=true:=decide_eq_true qA;simp only [qa,h1];simp [Bool.and_assoc]
 rwa [e] at h
theorem AR {p:Z0} {b:Nat} {y:Int} {c:Nat} {q:Za} (hq:p[c]?=some q):uO p b y c=(qi p c b&&decide (y∈q.us)):=by
 simp only [uO,hq];by_cases h:b<=c
 .simp [h]
 .rw [zf qA,decide_eq_false (show ¬ (c:Int)=b by omega)];simp
theorem EU (gl) (p:Z0) (hp:Z7 p) (B:Nat) (k:Za) (hk:p[B]?=some k) (x y:Nat) (hx:x<8) (hy:y<8):qb prog gl 73 [gx p,iv B,iv x,iv y] (λ_ z _=>z=bv ((k.kind==1)&&qa B k x&&((x:Int) != y)&&!ni p B y)):=by
 have hh:=hp.Zc;have hl7:=hp.len;have hBl:=(gS hk).1;have hsg:=vf (p:=p) hBl;rw [ji hh hk] at hsg;obtain⟨_,hse⟩:=gS hsg;refine qb.Zl func73 [.tmp 8] ntmps73 λC w g root=>?_
 cases hkd:(k.kind==1)
 .skip
  refine qC ?_<|yS hsg hse hkd @qL<|hBl;refine qD [] .nil qE ?_;simp
 cases hlo:qa B k x
 .skip
  have fx:=uD hsg hse hkd @qL hlo<|hBl;have c1:=cx gl p hp B k hk x hx;refine qG ?_;clear fx c1;refine qD [] .nil qE ?_;simp
 cases hxy:((x:Int)==y)
 rotate_left
 .skip
  have fx:=u4 hsg hse hkd @qL hlo hxy<|hBl;have c1:=cx gl p hp B k hk x hx;refine qG ?_;clear fx c1;refine qD [] .nil qE ?_;simp [bne,hxy]
 have fx:=u4 hsg hse hkd @qL hlo hxy<|hBl;have c1:=cx gl p hp B k hk x hx;refine qG ?_;clear fx c1;refine qX (λn st=>∃ i:Nat,n=p.length - i/\i<=p.length/\st.tm 1=iv B/\st.tm 3=iv y/\st.tm 33=gx p/\st.tm 34=iv p.length/\st.tm 35=iv i/\∀ d,d<i->uO p B y d=false) p.length ?_ ?_
 .exact⟨0,qB,qB,qB,qB,qB,qB,qB,λd hd=>qA⟩
 rintro n st - - ⟨i,rfl,hi,h1,h3,h33,h34,h35,hcl⟩;refine qC ?_<|aI h34<|h35;refine w9 zU (λht=>?_) (λhf=>?_)
 .have hlt:i<p.length:=zJ;obtain⟨q,hq⟩:=gX hlt;have hsg:=vf (p:=p) hlt;rw [ji hh hq] at hsg;obtain⟨_,hse⟩:=gS hsg;clear ht
  cases hc:uO p B y i
  .have hc':=hc;rw [AR hq] at hc'
   have nxt:∀ d,d<i+1->uO p B y d=false:=by
    intro d hd;rcases E5.1 hd with h|rfl
    .exact hcl d h
    .exact hc
   cases hin:qi p i B
   .skip
    have fx:=bA h1 h3 h33 h34 h35 hsg hse hlt<|hin;have c1:=uz gl p hh i q hq B;have c2:=uR gl p i q y hy;refine qG ?_;clear fx c1 c2;exact⟨p.length - (i+1),qA,i+1,rfl,qA,qy,qt,by simp [h33],by simp [h34],zD,nxt⟩
   .have hu:decide ((y:Int)∈q.us)=false:=by simpa [hin] using hc'
    have fx:=aJ h1 h3 h33 h34 h35 hsg hse hlt hin<|hu;have c1:=uz gl p hh i q hq B;have c2:=uR gl p i q y hy;refine qG ?_;clear fx c1 c2;exact⟨p.length - (i+1),qA,i+1,rfl,qA,qy,qt,by simp [h33],by simp [h34],zD,nxt⟩
  .have hc':=hc;rw [AR hq,ba] at hc';have hin:=hc'.1;have hu:=hc'.2;have hca:ni p B y=true:=O6.2 ⟨i,gh.2 hlt,hc⟩;have fx:=aJ h1 h3 h33 h34 h35 hsg hse hlt hin<|hu;have c1:=uz gl p hh i q hq B;have c2:=uR gl p i q y hy;refine qG ?_;clear fx c1 c2;refine qD [] .nil qE ?_;simp [hca]
 .have hge:i=p.length:=by
   have:¬ i<p.length:=ze;omega
  have hca:ni p B y=false:=by
   apply tz.2;intro h;obtain⟨d,hd,hd'⟩:=O6.1 h;rw [hcl d (by have:=gh.1 hd;omega)] at hd'
   cases hd'
  refine qC ?_<|Zk;refine qD [] .nil qE ?_;simp [hca,bne,hxy]
abbrev TJ:Zh:=wo<|.done
theorem aD {A G G2:Prop} (k:G2) (x:A) (h:A->Zx G2->G:=by
 intro fx kk;refine qG ?_
 repeat ((first|refine Ze (id:=6) TJ mixed ?_);refine qZ ?_;refine qG ?_)
 exact kk.h):G:=h x ⟨k⟩
theorem fu (gl) (xs ys:List Int) (hx:xs.length<=1048576) (hy:ys.length<=1048576):qb prog gl 48 [isl xs,isl ys] (λ_ z _=>z=bv (decide (xs=ys))):=by
 refine qb.Zl func48 [.tmp 4] ntmps48 λC w g root=>?_;by_cases hl:xs.length=ys.length
 case neg =>
  have h1:((xs.length:Int)==ys.length)=false:=qc;refine aD ?_<|aI h1<|@qL;refine qD [] .nil qE ?_;have:¬ xs=ys:=λe=>hl (by rw [e]);simp [this]
 refine aD ?_<|aI hl<|@qL;refine qX (λn st=>∃ i:Nat,n=xs.length - i/\i<=xs.length/\st.tm 0=isl xs/\st.tm 1=isl ys/\st.tm 5=iv i/\xs.take i=ys.take i) xs.length ?_ ?_
 .exact⟨0,qB⟩
 rintro n st - - ⟨i,rfl,hi,h0,h1,h5,heq⟩;refine aD ?_<|aI h0<|h5;refine w9 zU (λht=>?_) (λhf=>?_)
 .have hlt:i<xs.length:=zJ;obtain⟨x,hxi⟩:∃ x,xs[i]?=some x:=⟨_,gE qA⟩;obtain⟨y,hyi⟩:∃ y,ys[i]?=some y:=⟨_,gE qA⟩;clear ht
  all_goals have fx:=uD h0 h1 h5 hxi hyi<|@qL
  repeat' (first
   | refine vH ?_|refine jd ?_|refine yH ?_|refine kL λK hK=>?_
   | ((with_reducible refine vA hK ?_);clear hK K)
   | (with_reducible first|refine qV ?_|refine jS ?_|refine jQ ?_|refine vW ?_|refine j6 ?_|refine kH ?_|refine kz ?_|refine jx qO ?_)
   | refine kR ?_
   | refine aM ?_
   | (with_reducible first|refine jL ?_|refine zL (h:=?_))
   | (with_reducible refine x_q (h:=?_))
   | refine jr (h1:=?_)|refine yF (h1:=?_)
   | (refine Ze (id:=6) TJ mixed λK hK=>?_)
   | ((with_reducible refine u7 hK ?_);clear hK K)
   | ((with_reducible refine dZ ?_);first|refine nC (h:=?_)|refine pC (h:=?_)|refine pD (h:=?_)|refine pB (h:=?_))
   | ((with_reducible refine dZ ?_);refine pE (h1:=λht=>?_) (h2:=λht=>?_))
   | refine a_l rfl ?_|refine Kq ?_ ?_|refine Kp ?_ ?_ ?_|(with_reducible refine aI ?_ ?_)|exact vL|refine wj (h2:=?_)
   | refine gn (h1:=λht=>?_) (h2:=λht=>?_)
   | fail)
  all_goals try clear fx
  all_goals first
   | (refine qD [] .nil qE ?_
      have hne:¬ xs=ys:=λe=>OK;simp [hne])
   | (have hxy:x=y:=by simpa using ht
      refine⟨xs.length - (i+1),qA,i+1,rfl,qA,zR,qy,zD,?_⟩;rw [uQ,uQ,heq,hxi,hyi,hxy])
 .have hge:i=xs.length:=by
   have:¬ i<xs.length:=ze;omega
  have:xs=ys:=GQ;refine aD ?_<|Zk;refine qD [] .nil bu (by simp [this])
theorem B9 (gl) (xs ys:List Z9) (hx:xs.length<=1048576) (hy:ys.length<=1048576):qb prog gl 89 [ssl xs,ssl ys] (λ_ z _=>z=bv (decide (xs=ys))):=by
 refine qb.Zl func89 [.tmp 4] ntmps89 λC w g root=>?_;by_cases hl:xs.length=ys.length
 case neg =>
  have h1:((xs.length:Int)==ys.length)=false:=qc;refine aD ?_<|aI h1<|@qL;refine qD [] .nil qE ?_;have:¬ xs=ys:=λe=>hl (by rw [e]);simp [this]
 refine aD ?_<|aI hl<|@qL;refine qX (λn st=>∃ i:Nat,n=xs.length - i/\i<=xs.length/\st.tm 0=ssl xs/\st.tm 1=ssl ys/\st.tm 5=iv i/\xs.take i=ys.take i) xs.length ?_ ?_
 .exact⟨0,qB⟩
 rintro n st - - ⟨i,rfl,hi,h0,h1,h5,heq⟩;refine aD ?_<|aI h0<|h5;refine w9 zU (λht=>?_) (λhf=>?_)
 .have hlt:i<xs.length:=zJ;obtain⟨x,hxi⟩:∃ x,xs[i]?=some x:=⟨_,gE qA⟩;obtain⟨y,hyi⟩:∃ y,ys[i]?=some y:=⟨_,gE qA⟩;clear ht
  all_goals have fx:=yS h0 h1 h5 hxi<|hyi
  repeat' (first
   | refine vH ?_|refine jd ?_|refine yH ?_|refine kL λK hK=>?_
   | ((with_reducible refine vA hK ?_);clear hK K)
   | (with_reducible first|refine qV ?_|refine jS ?_|refine jQ ?_|refine vW ?_|refine j6 ?_|refine kH ?_|refine kz ?_|refine jx qO ?_)
   | refine kR ?_
   | refine aM ?_
   | (with_reducible first|refine jL ?_|refine zL (h:=?_))
   | ((with_reducible refine rr 199 rfl ?_);refine qJ (hF:=eqStmt_fn _ x y) (h:=?_))
   | (with_reducible refine x_q (h:=?_))
   | refine jr (h1:=?_)|refine yF (h1:=?_)
   | (refine Ze (id:=6) TJ mixed λK hK=>?_)
   | ((with_reducible refine u7 hK ?_);clear hK K)
   | ((with_reducible refine dZ ?_);first|refine nC (h:=?_)|refine pC (h:=?_)|refine pD (h:=?_)|refine pB (h:=?_))
   | ((with_reducible refine dZ ?_);refine pE (h1:=λht=>?_) (h2:=λht=>?_))
   | refine a_l rfl ?_|refine Kq ?_ ?_|refine Kp ?_ ?_ ?_|(with_reducible refine aI ?_ ?_)|exact vL|refine wj (h2:=?_)
   | refine gn (h1:=λht=>?_) (h2:=λht=>?_)
   | fail)
  all_goals try clear fx
  all_goals first
   | (refine qD [] .nil qE ?_
      have hne:¬ xs=ys:=λe=>OK;simp [hne])
   | (have hxy:x=y:=by cases x;cases y;simpa using ht
      refine⟨xs.length - (i+1),qA,i+1,rfl,qA,zR,qy,zD,?_⟩;rw [uQ,uQ,heq,hxi,hyi,hxy])
 .have hge:i=xs.length:=by
   have:¬ i<xs.length:=ze;omega
  have:xs=ys:=GQ;refine aD ?_<|Zk;refine qD [] .nil bu (by simp [this])
theorem se (gl) (xs ys:Z0) (hx:Sml xs) (hy:Sml ys):qb prog gl 38 [pav xs,pav ys] (λ_ z _=>z=bv (decide (xs=ys))):=by
 have hxl:=hx.len;have hyl:=hy.len;refine qb.Zl func38 [.tmp 4] ntmps38 λC w g root=>?_;by_cases hl:xs.length=ys.length
 case neg =>
  have h1:((xs.length:Int)==ys.length)=false:=qc;refine qC ?_<|aI h1<|@qL;refine qD [] .nil qE ?_;have:¬ xs=ys:=λe=>hl (by rw [e]);simp [this]
 refine qC ?_<|aI hl<|@qL;refine qX (λn st=>∃ i:Nat,n=xs.length - i/\i<=xs.length/\st.tm 2=.pt (.s 2) 0/\st.hp (.s 2)=some (.row 1 [[ksl xs]])/\st.tm 3=.pt (.s 3) 0/\st.hp (.s 3)=some (.row 1 [[ksl ys]])/\st.tm 5=iv i/\xs.take i=ys.take i) xs.length ?_ ?_
 .exact⟨0,qB⟩
 rintro n st - - ⟨i,rfl,hi,h2,hp2,h3,hp3,h5,heq⟩;refine qC ?_<|jI h2 hp2<|h5;refine w9 zU (λht=>?_) (λhf=>?_)
 .have hlt:i<xs.length:=zJ;obtain⟨x,hxi⟩:∃ x,xs[i]?=some x:=⟨_,gE qA⟩;obtain⟨y,hyi⟩:∃ y,ys[i]?=some y:=⟨_,gE qA⟩;obtain⟨hxl',hxE⟩:=gS hxi;obtain⟨hyl',hyE⟩:=gS hyi;have hne:∀ (P:Prop),¬ P->(x=y->P)->decide (xs=ys)=false:=λP hP h=>decide_eq_false λe=>hP (h (by rw [e,hyi] at hxi;exact (sI hxi).symm));have h1:=fu gl x.params y.params (hx.bsm hxi).params (hy.bsm hyi).params;have h2':=B9 gl x.body y.body (hx.bsm hxi).body (hy.bsm hyi).body;clear ht
  cases hk:(x.kind==y.kind)
  .skip
   refine qC ?_<|qU h2 hp2 h3 hp3 h5 hxi hyi hxE hyE hxl' hyl' hk<|@qL;refine qD [] .nil qE ?_;rw [hne (x.kind=y.kind) (by simpa using hk) (λe=>by rw [e])]
   rfl
  cases hpa:(x.parent==y.parent)
  .skip
   refine qC ?_<|qU h2 hp2 h3 hp3 h5 hxi hyi hxE hyE hxl' hyl' hk<|aI hpa<|@qL;refine qD [] .nil qE ?_;rw [hne (x.parent=y.parent) (by simpa using hpa) (λe=>by rw [e])]
   rfl
  cases hps:decide (x.params=y.params)
  .skip
   have fx:=qU h2 hp2 h3 hp3 h5 hxi hyi hxE hyE hxl' hyl' hk<|jI hpa hps<|@qL;have c1:=h1;refine qG ?_;clear fx c1;refine qD [] .nil qE ?_;rw [hne (x.params=y.params) (by simpa using hps) (λe=>by rw [e])]
   rfl
  cases hbo:decide (x.body=y.body)
  .skip
   have fx:=qU h2 hp2 h3 hp3 h5 hxi hyi hxE hyE hxl' hyl' hk<|yE hpa hps hbo<|@qL;have c1:=h1;have c2:=h2';refine qG ?_;clear fx c1 c2;refine qD [] .nil qE ?_;rw [hne (x.body=y.body) (by simpa using hbo) (λe=>by rw [e])]
   rfl
  have hxy:x=y:=by
   obtain⟨a,b,c,d⟩:=x;obtain⟨a',b',c',d'⟩:=y;simp at hk hpa hps hbo;simp [hk,hpa,hps,hbo]
  have fx:=qU h2 hp2 h3 hp3 h5 hxi hyi hxE hyE hxl' hyl' hk<|yE hpa hps hbo<|@qL;have c1:=h1;have c2:=h2';refine qG ?_;clear fx c1 c2;refine⟨xs.length - (i+1),qA,i+1,rfl,qA,ql,zF,qt,jv,zD,?_⟩;rw [uQ,uQ,heq,hxi,hyi,hxy]
 .have hge:i=xs.length:=by
   have:¬ i<xs.length:=ze;omega
  have:xs=ys:=GQ;refine qC ?_<|Zk;refine qD [] .nil bu (by simp [this])
theorem iW {l l':List Int} (h:∀ x:Int,0<=x->x<=7->(x∈l↔x∈l')):∀ n:Nat,n<=8->zM l n=zM l' n
 | 0,_=>rfl
 | n+1,hn=>by
  simp only [zM];rw [iW h n qA];have:=h n qA qA;by_cases e:(n:Int)∈l
  .rw [if_pos e,if_pos (this.1 e)]
  .rw [if_neg e,if_neg (λe'=>e (this.2 e'))]
theorem fO {l l':List Int} (h:∀ x:Int,0<=x->x<=7->(x∈l↔x∈l')):sorted l=sorted l':=iW h 8 (qf _)
theorem EW {l:List Int} {x:Nat} (h:x<8) (hx:(x:Int)∉l):(vJ l).take x++bv false::(vJ l).drop (x+1)=vJ l:=by
 have hl:x<(vJ l).length:=qc;have wF:=List.set_eq_take_append_cons_drop (l:=vJ l) (i:=x) (a:=bv false);rw [if_pos hl] at wF;rw [<- wF];apply wK;intro i;rw [eV];by_cases e:x=i
 .subst e;rw [if_pos rfl,if_pos hl,mw h];simp [hx]
 .rw [if_neg e]
theorem sC (gl) (l:List Int):qb prog gl 166 [.agg (vJ l)] (λr z H'=>z=.hs r 1 0 (sorted l).length/\H' r=some (.row 1 (qT (sorted l)))):=by
 refine qb.Zl func166 [.tmp 2] ntmps166 λC w g root=>?_;refine qC ?_<|Zk;refine qX (λn st=>∃ x:Nat,n=8 - x/\x<=8/\st.tm 6=.agg (vJ l)/\st.tm 7=iv x/\st.tm 3=.hs (.s 3) 1 0 (zM l x).length/\st.hp (.s 3)=some (.row 1 (qT (zM l x)))/\(zM l x).length<=x) 8 ?_ ?_
 .exact⟨0,qA,qA,qB,qB,CD,CD,CD⟩
 rintro n st - - ⟨x,rfl,hx,h6,h7,h3,hp3,hle⟩;refine qC ?_<| h7;refine w9 zU (λht=>?_) (λhf=>?_)
 .have hx8':(x:Int)<8:=zJ;have hx8:x<8:=qA;have hbg:=mw (l:=l) hx8;obtain⟨Zs,hbE⟩:=gS hbg;clear ht;by_cases hm:(x:Int)∈l
  .have he:zM l (x+1)=zM l x++[(x:Int)]:=by simp [zM,hm]
   generalize hL:zM l x=L at h3 hp3 he hle;refine qC ?_<|bA h6 h7 hbg hbE hx8 hx8' hm h3<|hp3;refine⟨8 - (x+1),qA,x+1,rfl,qA,j3,zD,by simp [he],?_,by simp [he];omega⟩;rw [he];simp [hp3,qT]
  .have he:zM l (x+1)=zM l x:=by simp [zM,hm]
   refine qC ?_<|u4 h6 h7 hbg hbE hx8 hx8'<|hm;exact⟨8 - (x+1),qA,x+1,rfl,qA,j3,zD,by simp [he,h3],by simp [he,hp3],by rw [he];omega⟩
 .have hge:x=8:=by
   have:¬ (x:Int)<8:=ze;omega
  subst hge;refine qC ?_<|aI h3<|hp3;exact jU (t:=2) CQ CQ qB
theorem iu {f:Nat->Bool}:∀ {n:Nat},(∀ x,x<n->f x=false)->zB f n=[]
 | 0,_=>rfl
 | n+1,h=>by
  rw [zB,if_neg (by rw [h n qA];decide),iu (n:=n) λx hx=>h x qA]
theorem it {f:Nat->Bool} {n:Nat}:zB f (n+1)=if f n=true then zB f n++[(n:Int)] else zB f n:=rfl
theorem wR (gl) (xs:List Int) (x:Int) (hlen:xs.length<=1048576):qb prog gl 165 [isl xs,iv x] (λ_ z _=>z=iv (zI xs x)):=by
 refine qb.Zl func165 [.tmp 4] ntmps165 λC w g root=>?_;refine qC ?_<|Zk;refine qX (λn st=>∃ i:Nat,n=xs.length - i/\i<=xs.length/\st.tm 7=isl xs/\st.tm 8=iv xs.length/\st.tm 1=iv x/\st.tm 9=iv i/\∀ j<i,xs[j]?≠some x) xs.length ⟨0,qB⟩ ?_;rintro n st - - ⟨i,rfl,hi,h7,h8,h1,h9,hno⟩;by_cases hlt:i<xs.length
 .obtain⟨y,hy⟩:∃ y,xs[i]?=some y:=⟨xs[i],gE hlt⟩;obtain⟨_,hyE⟩:=gS hy
  cases hyx:(y==x)
  rotate_left
  .skip
   refine qC ?_<|kO h7 h8 h1 h9 hy hyE hlt<|hyx;refine qD [] .nil qE ?_;have hyx:y=x:=by simpa using hyx
   subst hyx
   have:xs.findIdx? (·==y)=some i:=by
    rw [List.findIdx?_eq_some_iff_getElem];refine⟨hlt,by simp [hyE],λj hj=>?_⟩;have:=hno j hj;rw [gE qA] at this
    simpa using this
   simp [zI,this]
  .skip
   refine qC ?_<|kO h7 h8 h1 h9 hy hyE hlt<|hyx;refine⟨xs.length - (i+1),qA,i+1,rfl,qA,wI,kK,qy,zD,λj hj=>?_⟩;rcases E5.1 hj with h|rfl
   .exact hno j h
   .rw [hy];simpa using hyx
 .skip
  refine qC ?_<|yS h7 h8 h1 h9<|hlt;refine qD [] .nil qE ?_
  have:xs.findIdx? (·==x)=none:=by
   rw [List.findIdx?_eq_none_iff];intro y hy;obtain⟨j,hj,rfl⟩:=List.getElem_of_mem hy;have:=hno j qA;rw [gE hj] at this
   simpa using this
  simp [zI,this]
theorem dI (gl) (p:Z0) (hp:Z7 p) (b:Nat) (k:Za) (hk:p[b]?=some k):qb prog gl 180 [gx p,iv b] (λ_ y _=>y=.agg (vJ (qF p b))):=by
 have hh:=hp.Zc;have hl7:=hp.len;obtain⟨Zs,hbE⟩:=gS hk;have hka:qg p b=k.kind:=bY;have hsg:=vf (p:=p) Zs;rw [ji hh hk] at hsg;obtain⟨_,hse⟩:=gS hsg;refine qb.Zl func180 [.cell 4 179] ntmps180 λC w g root=>?_
 cases hkd:(k.kind==1)
 .have hc:qF p b=[]:=by
   have:¬ k.kind=1:=cV;simp [qF,hka,this]
  rw [hc];refine qC ?_<|yS hsg hse hkd Zs<|@qL;refine qD [] .nil qE ?_
  rfl
 have hk1:k.kind=1:=cV
 have h0:0<b:=by
  rcases dV b with e|e
  .have:=(hp.qAx hk).2 e;omega
  .exact e
 have hc:vJ (qF p b)=vJ (sq p b p.length):=by
  simp only [qF,hka,hk1,if_true];rw [<- Qu hh h0 Zs,eT]
 rw [hc];refine qC ?_<|yS hsg hse hkd Zs<|@qL;refine qX (λn st=>∃ c:Nat,n=p.length - c/\c<=p.length/\st.tm 1=iv b/\st.tm 4=.pt (.s 4) 0/\st.hp (.s 4)=some (.row 8 [vJ []])/\st.tm 5=.pt (.s 5) 0/\st.hp (.s 5)=some (.row 8 [vJ (sq p b c)])/\st.tm 18=gx p/\st.tm 19=iv p.length/\st.tm 20=iv c) p.length ?_ ?_
 .exact⟨0,qA,qA,qB,qB,qE,qB,qE,qB,qB,qB⟩
 clear hsg hse;rintro n st - - ⟨c,rfl,hc2,h1,h4,hp4,h5,hp5,h18,h19,h20⟩;by_cases hlt:c<p.length
 .obtain⟨q,hq⟩:=gX hlt;have hsg:=vf (p:=p) hlt;rw [ji hh hq] at hsg;obtain⟨_,hse⟩:=gS hsg;have hnext:sq p b (c+1)=sq p b c++zB (pN p b c) 8:=rfl;generalize hR:sq p b c=R at hp5 hnext
  cases hcb:((c:Int)==b)
  rotate_left
  .have hcb':c=b:=by
    have:(c:Int)=b:=by simpa using hcb
    omega
   rw [iu (λx _=>by simp only [pN,hq];simp [hcb']),Kd] at hnext;refine qC ?_<|jJ h1 h4 hp4 h5 hp5 h18 h19 h20 hlt hsg<|aI hse<|hcb;exact⟨p.length - (c+1),qA,c+1,rfl,qA,qy,jp,kj,z7,by simp [hp5,hnext],lY,gP,zD⟩
  have hcb':(c != b)=true:=by
   have:¬ (c:Int)=b:=by simpa using hcb
   simp;omega
  refine qC ?_<|jJ h1 h4 hp4 h5 hp5 h18 h19 h20 hlt hsg<|aI hse<|hcb;refine qX (λn st=>∃ x:Nat,n=8 - x/\x<=8/\st.tm 1=iv b/\st.tm 4=.pt (.s 4) 0/\st.hp (.s 4)=some (.row 8 [vJ []])/\st.tm 5=.pt (.s 5) 0/\st.hp (.s 5)=some (.row 8 [vJ (R++zB (pN p b c) x)])/\st.tm 7=Om p c q/\st.tm 18=gx p/\st.tm 19=iv p.length/\st.tm 20=iv c/\st.tm 30=iv x) 8 ?_ ?_
  .exact⟨0,qA,qA,qy,jp,kj,z7,by simp [hp5,zB],qB,lY,gP,oP,qB⟩
  clear h1 h4 hp4 h5 hp5 h18 h19 h20;rintro n st - - ⟨x,rfl,hx,h1,h4,hp4,h5,hp5,h7,h18,h19,h20,h30⟩;by_cases hx8:x<8
  .have hx8':(x:Int)<8:=qA;have hfi:pN p b c x=(decide ((x:Int)∈q.us)&&(q7 p c x==b)):=by simp only [pN,hq,hcb',pP]
   have hn2:=it (f:=pN p b c) (n:=x)
   cases hus:decide ((x:Int)∈q.us)
   .rw [if_neg (by rw [hfi,hus];simp)] at hn2
    all_goals have fx:=kO h1 h5 hp5 h7 h30 hx8 hx8'<|hus
    repeat' (first|refine qK ?_|refine λ(K:St->Prop) hK=>?_|refine qJ (hF:=uR _ p c q x hx8) (h:=?_))
    all_goals try clear fx
    exact⟨8 - (x+1),qA,x+1,rfl,qA,qy,jp,kj,z7,tO,wI,lY,gP,oP,zD⟩
   cases ho:(q7 p c x==(b:Int))
   .rw [if_neg (by rw [hfi,ho];simp)] at hn2
    all_goals have fx:=bA h1 h5 hp5 h7 h30 hx8 hx8' hus<|ho
    repeat' (first|refine qK ?_|refine λ(K:St->Prop) hK=>?_|refine qJ (hF:=uR _ p c q x hx8) (h:=?_)|refine qJ (hF:=zH _ p hp c q hq x hx8) (h:=?_))
    all_goals try clear fx
    exact⟨8 - (x+1),qA,x+1,rfl,qA,qy,jp,kj,z7,tO,wI,lY,gP,oP,zD⟩
   .rw [if_pos (by rw [hfi,hus,ho];rfl)] at hn2;have hnM:R++zB (pN p b c) (x+1)=R++zB (pN p b c) x++[(x:Int)]:=by rw [hn2,xW]
    generalize R++zB (pN p b c) x=M at hp5 hnM
    all_goals have fx:=bA h1 h5 hp5 h7 h30 hx8 hx8' hus<|ho
    repeat' (first|refine qK ?_|refine λ(K:St->Prop) hK=>?_|refine qJ (hF:=uR _ p c q x hx8) (h:=?_)|refine qJ (hF:=zH _ p hp c q hq x hx8) (h:=?_))
    all_goals try clear fx
    refine⟨8 - (x+1),qA,x+1,rfl,qA,qy,jp,kj,z7,?_,wI,lY,gP,oP,zD⟩;rw [hnM];simp [<- aj (l:=M) (y:=(x:Int)) rfl hx8]
  .have hge:x=8:=qA;subst hge;rw [<- hnext] at hp5;refine qC ?_<|u4 h1 h5 hp5 h18 h19 h20<|h30;exact⟨p.length - (c+1),qA,c+1,rfl,qA,qy,jp,kj,z7,kh,lY,gP,by simp [h20];exact Zv qA qA⟩
 .have hge:c=p.length:=qA;subst hge;refine qC ?_<|uD h4 hp4 h5 hp5 h19<|h20;refine qD [] .nil CN ?_;simp
theorem iJ (gl) (p:Z0) (hp:Z7 p) (b:Nat) (Zs:b<p.length):qb prog gl 142 [gx p,iv b] (λr y H'=>y=.hs r 1 0 (qd p b).length/\H' r=some (.row 1 (qT (qd p b)))):=by
 have hh:=hp.Zc;have hl7:=hp.len;rw [<- Q9 hh Zs];refine qb.Zl func142 [.tmp 4] ntmps142 λC w g root=>?_;refine qC ?_<|Zk;refine qX (λn st=>∃ c:Nat,n=p.length - c/\c<=p.length/\st.tm 0=gx p/\st.tm 1=iv b/\st.tm 5=.pt (.s 5) 0/\st.hp (.s 5)=some (.row 8 [vJ (s8 p b c)])/\st.tm 10=gx p/\st.tm 11=iv p.length/\st.tm 12=iv c) p.length ?_ ?_
 .exact⟨0,qA,qA,qB,qB,qB,qE,qB,qB,qB⟩
 rintro n st - - ⟨c,rfl,hc2,h0,h1,h5,hp5,h10,h11,h12⟩;by_cases hlt:c<p.length
 .obtain⟨q,hq⟩:=gX hlt;have hsg:=vf (p:=p) hlt;rw [ji hh hq] at hsg;obtain⟨_,hse⟩:=gS hsg;have hnext:s8 p b (c+1)=s8 p b c++zB (pM p b c) 8:=rfl;generalize hR:s8 p b c=R at hp5 hnext
  cases hin:qi p c b
  .rw [iu (λx _=>by simp only [pM,hq,hin];simp),Kd] at hnext;have fx:=jJ h0 h1 h5 hp5 h10 h11 h12 hlt hsg hse<|hin;have c1:=uz gl p hh c q hq b;refine qG ?_;clear fx c1;exact⟨p.length - (c+1),qA,c+1,rfl,qA,zR,qy,z7,by simp [hp5,hnext],bV,vr,zD⟩
  have fx:=jJ h0 h1 h5 hp5 h10 h11 h12 hlt hsg hse<|hin;have c1:=uz gl p hh c q hq b;refine qG ?_;clear fx c1;refine qX (λn st=>∃ x:Nat,n=8 - x/\x<=8/\st.tm 0=gx p/\st.tm 1=iv b/\st.tm 5=.pt (.s 5) 0/\st.hp (.s 5)=some (.row 8 [vJ (R++zB (pM p b c) x)])/\st.tm 7=Om p c q/\st.tm 10=gx p/\st.tm 11=iv p.length/\st.tm 12=iv c/\st.tm 20=iv x) 8 ?_ ?_
  .exact⟨0,qA,qA,zR,qy,z7,by simp [hp5,zB],qB,bV,vr,aZ,qB⟩
  clear h0 h1 h5 hp5 h10 h11 h12 hsg hse;rintro n st - - ⟨x,rfl,hx,h0,h1,h5,hp5,h7,h10,h11,h12,h20⟩;by_cases hx8:x<8
  .have hx8':(x:Int)<8:=qA;have hfi:pM p b c x=(decide ((x:Int)∈q.us)&&(q7 p c x != -1)&&!qi p (q7 p c x) b):=by simp only [pM,hq,hin,pP]
   have hn2:=it (f:=pM p b c) (n:=x)
   cases hus:decide ((x:Int)∈q.us)
   .rw [if_neg (by rw [hfi,hus];simp)] at hn2
    all_goals have fx:=kO h1 h5 hp5 h7 h20 hx8 hx8'<|hus
    repeat' (first|refine qK ?_|refine λ(K:St->Prop) hK=>?_|refine qJ (hF:=uR _ p c q x hx8) (h:=?_))
    all_goals try clear fx
    exact⟨8 - (x+1),qA,x+1,rfl,qA,zR,qy,z7,tO,wI,bV,vr,aZ,zD⟩
   cases hno:(q7 p c x == -1)
   rotate_left
   .rw [if_neg (by rw [hfi,bne,hno];simp)] at hn2
    all_goals have fx:=aJ h1 h5 hp5 h7 h20 hx8 hx8' hus hno<|@qL
    repeat' (first|refine qK ?_|refine λ(K:St->Prop) hK=>?_|refine qJ (hF:=uR _ p c q x hx8) (h:=?_)|refine qJ (hF:=zH _ p hp c q hq x hx8) (h:=?_))
    all_goals try clear fx
    exact⟨8 - (x+1),qA,x+1,rfl,qA,zR,qy,z7,tO,wI,bV,vr,aZ,zD⟩
   have hno':¬ q7 p c x=-1:=by simpa using hno
   obtain⟨o,hO⟩:∃ o:Nat,q7 p c x=o:=⟨(q7 p c x).toNat,by rcases kV (p:=p) (c:=c) (x:=(x:Int)) with h|h <;> omega⟩
   have hol:o<p.length:=by
    have h1:=kV (p:=p) (c:=c) (x:=(x:Int));have h2:=ym (uM hh qA hq hO);omega
   obtain⟨qo,hqo⟩:=gX hol;have hsg:=vf (p:=p) hol;rw [ji hh hqo] at hsg;obtain⟨_,hse⟩:=gS hsg;rw [hO] at hno hfi
   cases hio:qi p o b
   rotate_left
   .rw [if_neg (by rw [hfi,hio];simp)] at hn2
    all_goals have fx:=qU h0 h1 h5 hp5 h7 h20 hx8 hx8' hus hO hno hol<|yE hsg hse hio<|@qL
    repeat' (first|refine qK ?_|refine λ(K:St->Prop) hK=>?_|refine qJ (hF:=uR _ p c q x hx8) (h:=?_)|refine qJ (hF:=zH _ p hp c q hq x hx8) (h:=?_)|refine qJ (hF:=uz _ p hh o qo hqo b) (h:=?_))
    all_goals try clear fx
    exact⟨8 - (x+1),qA,x+1,rfl,qA,zR,qy,z7,tO,wI,bV,vr,aZ,zD⟩
   .rw [if_pos (by rw [hfi,hus,bne,hno,hio];rfl)] at hn2;have hnM:R++zB (pM p b c) (x+1)=R++zB (pM p b c) x++[(x:Int)]:=by rw [hn2,xW]
    generalize R++zB (pM p b c) x=M at hp5 hnM
    all_goals have fx:=qU h0 h1 h5 hp5 h7 h20 hx8 hx8' hus hO hno hol<|yE hsg hse hio<|@qL
    repeat' (first|refine qK ?_|refine λ(K:St->Prop) hK=>?_|refine qJ (hF:=uR _ p c q x hx8) (h:=?_)|refine qJ (hF:=zH _ p hp c q hq x hx8) (h:=?_)|refine qJ (hF:=uz _ p hh o qo hqo b) (h:=?_))
    all_goals try clear fx
    refine⟨8 - (x+1),qA,x+1,rfl,qA,zR,qy,z7,?_,wI,bV,vr,aZ,zD⟩;rw [hnM];simp [<- aj (l:=M) (y:=(x:Int)) rfl hx8]
  .have hge:x=8:=qA;subst hge;rw [<- hnext] at hp5;refine qC ?_<|u4 h1 h5 hp5 h10 h11 h12<|h20;exact⟨p.length - (c+1),qA,c+1,rfl,qA,zR,qy,z7,kh,bV,vr,by simp [h12];exact Zv qA qA⟩
 .have hge:c=p.length:=qA;subst hge;have fx:=yE h5 hp5 h11<|h12;have d1:=sC gl (s8 p b p.length);refine qG ?_;clear fx d1;exact jU (t:=4) zg zg qB
end Go.Proofs.YtdnebaieamppbaaGreatDoor
end
