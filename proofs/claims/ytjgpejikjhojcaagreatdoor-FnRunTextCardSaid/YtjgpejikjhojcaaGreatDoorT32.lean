import Derived.Test.YtjgpejikjhojcaaGreatDoorT19
import Derived.Test.YtjgpejikjhojcaaGreatDoorT26
set_option linter.unusedSimpArgs false
set_option linter.unusedVariables false
set_option maxRecDepth 100000
set_option maxHeartbeats 4000000

section
namespace Go.Proofs.YtjgpejikjhojcaaGreatDoor
open Go Go.Hm Go.Proofs Tryz
theorem lp (gl) (D:Nm->Bool) (hD:∀ k,D k=true->k.zo=false) (H:Nm->Option AO) (R:List AV) (off k:Nat) (vs:List qR) (v:qR) (hr:H Yn=some (.row 4415 [R])) (hi:R[off+28]?=some (.hs (.c Yn 0 (off+28)) 2 0 (k+1))) (hs:H (.c Yn 0 (off+28))=some (.row 2 (jZ vs))) (hv:vs[k]?=some v) (hk:k<=1000) (ho:off+29<=4415) :
  qV prog gl 211 D [.pt Yn off] H (A5 D (qR.av v) Yn (.row 4415 [ql R (off+28) [.hs (.c Yn 0 (off+28)) 2 0 k]]) H) qy:=by
 obtain⟨hil,hiE⟩:=gS hi;obtain⟨hvl,hvE⟩:=gS hv;obtain⟨v1,v2⟩:=v;have hw1:IntKind.i64.wrap (k:Int)=k:=qi qA qA;have hl1:(k:Int)<(k:Int)+1:=qA;have hl2:(k:Int)<=(k:Int)+1:=qA;have hl0:(0:Int)<=(k:Int):=qA;refine qV.qa func211 [.cell 2 115] ntmps211 hD λC w g root hroot=>?_;have ho2:off+28+1<=4415:=ho;have fx:=qr hr hi hiE hil ho2 hs hv hvE hvl hw1 hl0 hl1<|hl2;refine qQ ?_
 repeat ((first|refine qf (id:=1) (.q 0<|.q 1<|.q 2<|.q 3<|.q 4<|.q 5<|.q 6<|.q 7<|.q 8<|.q 9<|.q 10<|.q 11<|.l 12 [11,10,9,8,7,6,5,4,3,2,1,0]<|.l 13 []<|.done) mixed ?_|refine qf (id:=2) (.q 0<|.q 1<|.q 2<|.q 3<|.q 4<|.q 5<|.q 6<|.q 7<|.q 8<|.q 9<|.q 10<|.q 11<|.q 12<|.q 13<|.l 14 []<|.done) mixed ?_);refine zQ ?_;refine qQ ?_)
 clear fx;refine qG [] .nil qH ⟨qB,λq hq=>?_⟩;have hq2:=λd=>(yC hD hq d).1;have hq3:=λd=>(yC hD hq d).2;by_cases e:q=Yn
 .subst e;simp only [vd,hq,if_true];simp [AO.tr,ql,List.map_take,List.map_drop,Q8 hD,-List.map_map]
 .simp [vd,hq,hq2,hq3,e,Q9 hD,-Option.map_map]
theorem dE (gl) (D:Nm->Bool) (hD:∀ k,D k=true->k.zo=false) (H:Nm->Option AO) (R:List AV) (off:Nat) (vs js:List qR) (v:qR) (hDY:D Yn=true) (hDS:D (.c Yn 0 (off+28))=true) (hr:H Yn=some (.row 4415 [R])) (hi:R[off+28]?=some (.hs (.c Yn 0 (off+28)) 2 0 vs.length)) (hs:H (.c Yn 0 (off+28))=some (.row 2 (jZ (vs++js)))) (hk:vs.length<=1000) (ho:off+29<=4415) :
  qV prog gl 171 D [.pt Yn off,qR.av v] H (HM D (.c Yn 0 (off+28)) (off+28) R (vs++[v]) H) qy:=by
 obtain⟨hil,hiE⟩:=gS hi;obtain⟨v1,v2⟩:=v;have ho2:off+28+1<=4415:=ho;refine qV.qa func171 [] ntmps171 hD λC w g root hroot=>?_;have fx:=jQ hr hi hiE hil ho2 hs<|hk;refine qQ ?_
 repeat ((first|refine qf (id:=1) (.q 0<|.q 1<|.q 2<|.q 3<|.q 4<|.q 5<|.l 6 [4,3,2,1,0]<|.l 7 [0]<|.q 8<|.q 9<|.l 10 []<|.done) mixed ?_);refine zQ ?_;refine qQ ?_)
 clear fx;refine iy [] .nil qH ⟨?_,?_,λq hq h1 h2=>?_⟩
 .have e:=QY (a:=3) (b:=10) (c:=11) (l:=R) hD hDS;simp only [ie] at e;simp only [vd,hDY,if_true];simp [e,hDS,ql]
 .simp only [vd,hDS,if_true];simp [jZ]
 .have hq2:=λd=>(yC hD hq d).1;have hq3:=λd=>(yC hD hq d).2;have h3:¬ Nm.c Yn 0 (off+28)=q:=by rintro rfl;simp at h2
  have e:=QZ (a:=3) (b:=10) (c:=11) (o:=H q) hD hDS;simp only [Option.map_map] at e;simp only [vd,hq,if_true];simp [hq2,hq3,h1,h2,h3,-Option.map_map,e];simp [e]
theorem ef (gl) (D:Nm->Bool) (hD:∀ k,D k=true->k.zo=false) (H:Nm->Option AO) (R:List AV) (e:Int) (hr:H Yn=some (.row 4415 [R])) (hl:R.length=4415) :
  qV prog gl 209 D [.pt Yn 0,iv e] H (A5 D (bv false) Yn (.row 4415 [ql R 3 [iv e]]) H) qy:=by
 refine qV.qa func209 [.tmp 4] ntmps209 hD λC w g root hroot=>?_;refine qI ?_<|aI hr<|hl;refine qG [] .nil qH ⟨qB,λq hq=>?_⟩;have hq2:=λd=>(yC hD hq d).1;have hq3:=λd=>(yC hD hq d).2;by_cases e:q=Yn
 .subst e;simp only [vd,hq,if_true];simp [AO.tr,ql,List.map_take,List.map_drop]
 .simp [vd,hq,hq2,hq3,e]
theorem Cj (gl) (D:Nm->Bool) (hD:∀ k,D k=true->k.zo=false) (hDY:D Yn=true) (H:Nm->Option AO) (R:List AV) (i:Nat) (hr:H Yn=some (.row 4415 [R])) (h:R[4411]?=some (iv ((i:Int)+1))) (hi:i<151) :
  qV prog gl 117 D [.pt Yn 0] H (HP D (.pt Yn (yo i)) H) qy:=by
 obtain⟨hil,hiE⟩:=gS h;have hw1:IntKind.i64.wrap (i:Int)=i:=qi qA qA;have hl0:(0:Int)<=(i:Int):=qA;have hl1:(i:Int)<151:=qA;refine qV.qa func117 [.tmp 2] ntmps117 hD λC w g root hroot=>?_;have fx:=jJ hr h hil hiE hw1 hl0 hl1<|hi;refine qQ ?_
 repeat ((first|refine qf (id:=1) (.q 0<|.q 1<|.q 2<|.q 3<|.q 4<|.q 5<|.q 6<|.q 7<|.q 8<|.l 9 []<|.done) mixed ?_);refine zQ ?_;refine qQ ?_)
 clear fx;refine qG [] .nil qH ⟨by simp [hDY,yo,mC],λq hq=>?_⟩;have hq2:=λd=>(yC hD hq d).1;have hq3:=λd=>(yC hD hq d).2;simp [vd,hq,hq2,hq3]
@[simp] theorem scRows_tr {p:qC} {f:Nm->Option Nm}:(fq p).map (λr=>r.map (AV.tr f))=fq p:=by simp [fq]
theorem Ly (p:qC) (j:Int):y6 p j=aR\/∃ r,y6 p j=.el r 0:=by
 unfold y6
 cases p.length with
 | zero=>exact .inl rfl
 | succ n =>
  rw [ct]
  split
  .exact .inl rfl
  .split
   .exact .inl rfl
   .exact .inr ⟨_,rfl⟩
@[simp] theorem scopeA_isNil {p:qC} {j:Int}:jK (y6 p j)=false:=by
 rcases Ly p j with h|⟨r,h⟩ <;> rw [h] <;> rfl
@[simp] theorem scopeA_sNm {p:qC} {j:Int}:uQ (y6 p j)=none:=by
 rcases Ly p j with h|⟨r,h⟩ <;> rw [h] <;> rfl
theorem B4 (gl) (p:qC) (hh:zZ p) (i:Nat) (k:qT) (hk:p[i]?=some k) (b:Nat):qM prog gl 164 [iH p i k,iv b] (λ_ y _=>y=bv (jS p i b)):=by
 have hil:=(gS hk).1;refine qM.qa func164 [.tmp 4] ntmps164 λC w g root=>?_;refine qI ?_<|qS;refine zU (λn st=>∃ j:Int,n=(j+1).toNat /\ -1<=j/\j<p.length/\st.tm 1=iv b/\st.tm 5=y6 p j/\jS p i b=jS p j b) (i+1) ?_ ?_
 .exact⟨i,qA,qA,qA,qB,by simp [cq hh hk],rfl⟩
 rintro n st - - ⟨j,rfl,hj1,hj,h1,h5,hin⟩;rcases Int.lt_or_le j 0 with hn|hn
 .rw [Fv hn,aR] at h5
  have hfa:jS p i b=false:=by
   rw [hin,bo qA];exact decide_eq_false qA
  refine qI ?_<|aI h1<|h5;refine qG [] .nil qH ?_;simp [hfa]
 .obtain⟨J,rfl⟩:∃ J:Nat,j=J:=⟨j.toNat,qA⟩;obtain⟨q,hq⟩:∃ q,p[J]?=some q:=⟨_,gE qA⟩;obtain⟨hq1,hq2,_⟩:=hh J q hq;rw [cq hh hq] at h5
  cases hjb:((J:Int)==b)
  .have hne:¬ (J:Int)=b:=by simpa using hjb
   have hin2:jS p i b=jS p q.parent b:=by
    rw [hin];rcases Int.lt_or_le b J with h|h
    .exact eK hh qA hq h
    .rw [bo h,bo qA,decide_eq_false hne,decide_eq_false qA]
   refine qI ?_<|qk h1 h5<|hjb;exact⟨(q.parent+1).toNat,qA,q.parent,rfl,hq1,qA,zx,qB,hin2⟩
  .have he:(J:Int)=b:=by simpa using hjb
   have htr:jS p i b=true:=by
    rw [hin,bo qA];exact decide_eq_true he
   refine qI ?_<|qk h1 h5<|hjb;refine qG [] .nil qH ?_;simp [htr]
theorem π {k:qT} {y:Nat} (hy:y<8):(decide ((y:Int)∈k.rd)||decide ((y:Int)∈k.bd)||(decide ((y:Int)∈k.dc 9)||decide ((y:Int)∈k.dc 10)))=decide ((y:Int)∈k.us):=by
 have e:=T7 (xs:=k.rd++k.bd++k.dc 9++k.dc 10) hy;simp only [qT.us,e,jo];by_cases h1:(y:Int)∈k.rd <;> by_cases h2:(y:Int)∈k.bd <;> by_cases h3:(y:Int)∈k.dc 9 <;> by_cases h4:(y:Int)∈k.dc 10 <;> simp [h1,h2,h3,h4]
theorem pN (gl) (p:qC) (i:Nat) (k:qT) (x:Nat) (hx:x<8):qM prog gl 165 [iH p i k,iv x] (λ_ y _=>y=bv (decide ((x:Int)∈k.us))):=by
 have:=σ gl i k (y6 p k.parent) k.params x hx
 rwa [π hx] at this
theorem Ei (gl) (p:qC) (hp:z6 p) (i:Nat) (k:qT) (hk:p[i]?=some k) (x:Nat) (hx:x<8):qM prog gl 159 [iH p i k,iv x] (λ_ y _=>y=bv (u7 i k x)):=by
 have h:=Fw gl i k (y6 p k.parent) k.params x hx;have hk0:=hp.dS hk
 have e:(k.kind != 0&&decide ((x:Int)∈k.bd)&&!(decide ((x:Int)∈k.dc 9)||decide ((x:Int)∈k.dc 10)))=u7 i k x:=by
  by_cases h0:i=0
  .have:(k.kind != 0)=false:=by simp [hk0,h0]
   rw [this];simp [u7,h0]
  .have:(k.kind != 0)=true:=by simp [hk0,h0]
   rw [this];have h1:decide (0<i)=true:=decide_eq_true qA;simp only [u7,h1];simp [Bool.and_assoc]
 rwa [e] at h
theorem Ho {l:List Int} {x:Nat} (h:x<8) (hx:(x:Int)∉l):(zP l).take x++bv false::(zP l).drop (x+1)=zP l:=by
 have hl:x<(zP l).length:=qn;have yG:=List.set_eq_take_append_cons_drop (l:=zP l) (i:=x) (a:=bv false);rw [if_pos hl] at yG;rw [<- yG];apply vl;intro i;rw [ic];by_cases e:x=i
 .subst e;rw [if_pos rfl,if_pos hl,tQ h];simp [hx]
 .rw [if_neg e]
theorem Bk (gl) (l:List Int):qM prog gl 162 [.agg (zP l)] (λr z H'=>z=.hs r 1 0 (sorted l).length/\H' r=some (.row 1 (qm (sorted l)))):=by
 refine qM.qa func162 [.tmp 2] ntmps162 λC w g root=>?_;refine qI ?_<|qS;refine zU (λn st=>∃ x:Nat,n=8 - x/\x<=8/\st.tm 6=.agg (zP l)/\st.tm 7=iv x/\st.tm 3=.hs (.s 3) 1 0 (uR l x).length/\st.hp (.s 3)=some (.row 1 (qm (uR l x)))/\(uR l x).length<=x) 8 ?_ ?_
 .exact⟨0,qA,qA,qB,qB,Aq,Aq,Aq⟩
 rintro n st - - ⟨x,rfl,hx,h6,h7,h3,hp3,hle⟩;refine qI ?_<| h7;refine y8 ya (λht=>?_) (λhf=>?_)
 .have hx8':(x:Int)<8:=yE;have hx8:x<8:=qA;have hbg:=tQ (l:=l) hx8;obtain⟨zF,hbE⟩:=gS hbg;clear ht;by_cases hm:(x:Int)∈l
  .have he:uR l (x+1)=uR l x++[(x:Int)]:=by simp [uR,hm]
   generalize hL:uR l x=L at h3 hp3 he hle;refine qI ?_<|yz h6 h7 hbg hbE hx8 hx8' hm h3<|hp3;refine⟨8 - (x+1),qA,x+1,rfl,qA,aY,zw,by simp [he],?_,by simp [he];omega⟩;rw [he];simp [hp3,qm]
  .have he:uR l (x+1)=uR l x:=by simp [uR,hm]
   refine qI ?_<|jQ h6 h7 hbg hbE hx8 hx8'<|hm;exact⟨8 - (x+1),qA,x+1,rfl,qA,aY,zw,by simp [he,h3],by simp [he,hp3],by rw [he];omega⟩
 .have hge:x=8:=by
   have:¬ (x:Int)<8:=vH;omega
  subst hge;refine qI ?_<|aI h3<|hp3;exact vo (t:=2) BF BF qB
theorem FU {f:Nat->Bool}:∀ {n:Nat},(∀ x,x<n->f x=false)->jy f n=[]
 | 0,_=>rfl
 | n+1,h=>by
  rw [jy,if_neg (by rw [h n qA];decide),FU (n:=n) λx hx=>h x qA]
theorem FW {f:Nat->Bool} {n:Nat}:jy f (n+1)=if f n=true then jy f n++[(n:Int)] else jy f n:=rfl
theorem sX (gl) (xs:List Int) (x:Int) (hlen:xs.length<=1048576):qM prog gl 166 [vJ xs,iv x] (λ_ z _=>z=iv (vg xs x)):=by
 refine qM.qa func166 [.tmp 4] ntmps166 λC w g root=>?_;refine qI ?_<|qS;refine zU (λn st=>∃ i:Nat,n=xs.length - i/\i<=xs.length/\st.tm 7=vJ xs/\st.tm 8=iv xs.length/\st.tm 1=iv x/\st.tm 9=iv i/\∀ j<i,xs[j]?≠some x) xs.length ⟨0,qB⟩ ?_;rintro n st - - ⟨i,rfl,hi,h7,h8,h1,h9,hno⟩;by_cases hlt:i<xs.length
 .obtain⟨y,hy⟩:∃ y,xs[i]?=some y:=⟨xs[i],gE hlt⟩;obtain⟨_,hyE⟩:=gS hy
  cases hyx:(y==x)
  rotate_left
  .skip
   refine qI ?_<|jJ h7 h8 h1 h9 hy hyE hlt<|hyx;refine qG [] .nil qH ?_;have hyx:y=x:=by simpa using hyx
   subst hyx
   have:xs.findIdx? (·==y)=some i:=by
    rw [pW];refine⟨hlt,by simp [hyE],λj hj=>?_⟩;have:=hno j hj;rw [gE qA] at this
    simpa using this
   simp [vg,this]
  .skip
   refine qI ?_<|jJ h7 h8 h1 h9 hy hyE hlt<|hyx;refine⟨xs.length - (i+1),qA,i+1,rfl,qA,du,by simp [h8],zx,zw,λj hj=>?_⟩;rcases A9.1 hj with h|rfl
   .exact hno j h
   .rw [hy];simpa using hyx
 .skip
  refine qI ?_<|zM h7 h8 h1 h9<|hlt;refine qG [] .nil qH ?_
  have:xs.findIdx? (·==x)=none:=by
   rw [List.findIdx?_eq_none_iff];intro y hy;obtain⟨j,hj,rfl⟩:=List.getElem_of_mem hy;have:=hno j qA;rw [gE hj] at this
   simpa using this
  simp [vg,this]
theorem xG (gl) (p:qC) (hp:z6 p) (b:Nat) (k:qT) (hk:p[b]?=some k):qM prog gl 161 [vi p,iv b] (λ_ y _=>y=.agg (zP (qh p b))):=by
 have hh:=hp.jR;have hl7:=hp.len;obtain⟨zF,hbE⟩:=gS hk;have hka:zt p b=k.kind:=ge;have hsg:=pI (p:=p) zF;rw [cq hh hk] at hsg;obtain⟨_,hse⟩:=gS hsg;refine qM.qa func161 [.cell 4 169] ntmps161 λC w g root=>?_
 cases hkd:(k.kind==1)
 .have hc:qh p b=[]:=by
   have:¬ k.kind=1:=Am;simp [qh,hka,this]
  rw [hc];refine qI ?_<|zM hsg hse hkd zF<|@qx;refine qG [] .nil qH ?_
  rfl
 have hk1:k.kind=1:=Am
 have h0:0<b:=by
  rcases dJ b with e|e
  .have:=(hp.dS hk).2 e;omega
  .exact e
 have hc:zP (qh p b)=zP (oW p b p.length):=by
  simp only [qh,hka,hk1,if_true];rw [<- P2 hh h0 zF,Ad]
 rw [hc];refine qI ?_<|zM hsg hse hkd zF<|@qx;refine zU (λn st=>∃ c:Nat,n=p.length - c/\c<=p.length/\st.tm 1=iv b/\st.tm 4=.pt (.s 4) 0/\st.hp (.s 4)=some (.row 8 [zP []])/\st.tm 5=.pt (.s 5) 0/\st.hp (.s 5)=some (.row 8 [zP (oW p b c)])/\st.tm 18=vi p/\st.tm 19=iv p.length/\st.tm 20=iv c) p.length ?_ ?_
 .exact⟨0,qA,qA,qB,qB,qH,qB,qH,qB,qB,qB⟩
 clear hsg hse;rintro n st - - ⟨c,rfl,hc2,h1,h4,hp4,h5,hp5,h18,h19,h20⟩;by_cases hlt:c<p.length
 .obtain⟨q,hq⟩:=gX hlt;have hsg:=pI (p:=p) hlt;rw [cq hh hq] at hsg;obtain⟨_,hse⟩:=gS hsg;have hnext:oW p b (c+1)=oW p b c++jy (eF p b c) 8:=rfl;generalize hR:oW p b c=R at hp5 hnext
  cases hcb:((c:Int)==b)
  rotate_left
  .have hcb':c=b:=by
    have:(c:Int)=b:=by simpa using hcb
    omega
   rw [FU (λx _=>by simp only [eF,hq];simp [hcb']),pf] at hnext;refine qI ?_<|yD h1 h4 hp4 h5 hp5 h18 h19 h20 hlt hsg<|aI hse<|hcb;exact⟨p.length - (c+1),qA,c+1,rfl,qA,zx,yr,aG,yV,by simp [hp5,hnext],oE,mQ,zw⟩
  have hcb':(c != b)=true:=by
   have:¬ (c:Int)=b:=by simpa using hcb
   simp;omega
  refine qI ?_<|yD h1 h4 hp4 h5 hp5 h18 h19 h20 hlt hsg<|aI hse<|hcb;refine zU (λn st=>∃ x:Nat,n=8 - x/\x<=8/\st.tm 1=iv b/\st.tm 4=.pt (.s 4) 0/\st.hp (.s 4)=some (.row 8 [zP []])/\st.tm 5=.pt (.s 5) 0/\st.hp (.s 5)=some (.row 8 [zP (R++jy (eF p b c) x)])/\st.tm 7=iH p c q/\st.tm 18=vi p/\st.tm 19=iv p.length/\st.tm 20=iv c/\st.tm 30=iv x) 8 ?_ ?_
  .exact⟨0,qA,qA,zx,yr,aG,yV,by simp [hp5,jy],qB,oE,mQ,r9,qB⟩
  clear h1 h4 hp4 h5 hp5 h18 h19 h20;rintro n st - - ⟨x,rfl,hx,h1,h4,hp4,h5,hp5,h7,h18,h19,h20,h30⟩;by_cases hx8:x<8
  .have hx8':(x:Int)<8:=qA;have hfi:eF p b c x=(decide ((x:Int)∈q.us)&&(zA p c x==b)):=by simp only [eF,hq,hcb',dk]
   have hn2:=FW (f:=eF p b c) (n:=x)
   cases hus:decide ((x:Int)∈q.us)
   .rw [if_neg (by rw [hfi,hus];simp)] at hn2
    all_goals have fx:=jJ h1 h5 hp5 h7 h30 hx8 hx8'<|hus
    repeat' (first|refine zl ?_|refine λ(K:St->Prop) hK=>?_|refine zL (hF:=pN _ p c q x hx8) (h:=?_))
    all_goals try clear fx
    exact⟨8 - (x+1),qA,x+1,rfl,qA,zx,yr,aG,yV,tX,du,oE,mQ,r9,zw⟩
   cases ho:(zA p c x==(b:Int))
   .rw [if_neg (by rw [hfi,ho];simp)] at hn2
    all_goals have fx:=yz h1 h5 hp5 h7 h30 hx8 hx8' hus<|ho
    repeat' (first|refine zl ?_|refine λ(K:St->Prop) hK=>?_|refine zL (hF:=pN _ p c q x hx8) (h:=?_)|refine zL (hF:=db _ p hp c q hq x hx8) (h:=?_))
    all_goals try clear fx
    exact⟨8 - (x+1),qA,x+1,rfl,qA,zx,yr,aG,yV,tX,du,oE,mQ,r9,zw⟩
   .rw [if_pos (by rw [hfi,hus,ho];rfl)] at hn2;have hnM:R++jy (eF p b c) (x+1)=R++jy (eF p b c) x++[(x:Int)]:=by rw [hn2,ig]
    generalize R++jy (eF p b c) x=M at hp5 hnM
    all_goals have fx:=yz h1 h5 hp5 h7 h30 hx8 hx8' hus<|ho
    repeat' (first|refine zl ?_|refine λ(K:St->Prop) hK=>?_|refine zL (hF:=pN _ p c q x hx8) (h:=?_)|refine zL (hF:=db _ p hp c q hq x hx8) (h:=?_))
    all_goals try clear fx
    refine⟨8 - (x+1),qA,x+1,rfl,qA,zx,yr,aG,yV,?_,du,oE,mQ,r9,zw⟩;rw [hnM];simp [<- mN (l:=M) (y:=(x:Int)) rfl hx8]
  .have hge:x=8:=qA;subst hge;rw [<- hnext] at hp5;refine qI ?_<|jQ h1 h5 hp5 h18 h19 h20<|h30;exact⟨p.length - (c+1),qA,c+1,rfl,qA,zx,yr,aG,yV,be,oE,mQ,by simp [h20];exact qi qA qA⟩
 .have hge:c=p.length:=qA;subst hge;refine qI ?_<|j2 h4 hp4 h5 hp5 h19<|h20;refine qG [] .nil (by simp [h4];rfl) ?_;simp
theorem EX (gl) (p:qC) (hp:z6 p) (b:Nat) (zF:b<p.length):qM prog gl 114 [vi p,iv b] (λr y H'=>y=.hs r 1 0 (jF p b).length/\H' r=some (.row 1 (qm (jF p b)))):=by
 have hh:=hp.jR;have hl7:=hp.len;rw [<- Qv hh zF];refine qM.qa func114 [.tmp 4] ntmps114 λC w g root=>?_;refine qI ?_<|qS;refine zU (λn st=>∃ c:Nat,n=p.length - c/\c<=p.length/\st.tm 0=vi p/\st.tm 1=iv b/\st.tm 5=.pt (.s 5) 0/\st.hp (.s 5)=some (.row 8 [zP (og p b c)])/\st.tm 10=vi p/\st.tm 11=iv p.length/\st.tm 12=iv c) p.length ?_ ?_
 .exact⟨0,qA,qA,qB,qB,qB,qH,qB,qB,qB⟩
 rintro n st - - ⟨c,rfl,hc2,h0,h1,h5,hp5,h10,h11,h12⟩;by_cases hlt:c<p.length
 .obtain⟨q,hq⟩:=gX hlt;have hsg:=pI (p:=p) hlt;rw [cq hh hq] at hsg;obtain⟨_,hse⟩:=gS hsg;have hnext:og p b (c+1)=og p b c++jy (eJ p b c) 8:=rfl;generalize hR:og p b c=R at hp5 hnext
  cases hin:jS p c b
  .rw [FU (λx _=>by simp only [eJ,hq,hin];simp),pf] at hnext;have fx:=yD h0 h1 h5 hp5 h10 h11 h12 hlt hsg hse<|hin;have c1:=B4 gl p hh c q hq b;refine qQ ?_;clear fx c1;exact⟨p.length - (c+1),qA,c+1,rfl,qA,ji,zx,yV,by simp [hp5,hnext],cV,fL,zw⟩
  have fx:=yD h0 h1 h5 hp5 h10 h11 h12 hlt hsg hse<|hin;have c1:=B4 gl p hh c q hq b;refine qQ ?_;clear fx c1;refine zU (λn st=>∃ x:Nat,n=8 - x/\x<=8/\st.tm 0=vi p/\st.tm 1=iv b/\st.tm 5=.pt (.s 5) 0/\st.hp (.s 5)=some (.row 8 [zP (R++jy (eJ p b c) x)])/\st.tm 7=iH p c q/\st.tm 10=vi p/\st.tm 11=iv p.length/\st.tm 12=iv c/\st.tm 20=iv x) 8 ?_ ?_
  .exact⟨0,qA,qA,ji,zx,yV,by simp [hp5,jy],qB,cV,fL,oL,qB⟩
  clear h0 h1 h5 hp5 h10 h11 h12 hsg hse;rintro n st - - ⟨x,rfl,hx,h0,h1,h5,hp5,h7,h10,h11,h12,h20⟩;by_cases hx8:x<8
  .have hx8':(x:Int)<8:=qA;have hfi:eJ p b c x=(decide ((x:Int)∈q.us)&&(zA p c x != -1)&&!jS p (zA p c x) b):=by simp only [eJ,hq,hin,dk]
   have hn2:=FW (f:=eJ p b c) (n:=x)
   cases hus:decide ((x:Int)∈q.us)
   .rw [if_neg (by rw [hfi,hus];simp)] at hn2
    all_goals have fx:=jJ h1 h5 hp5 h7 h20 hx8 hx8'<|hus
    repeat' (first|refine zl ?_|refine λ(K:St->Prop) hK=>?_|refine zL (hF:=pN _ p c q x hx8) (h:=?_))
    all_goals try clear fx
    exact⟨8 - (x+1),qA,x+1,rfl,qA,ji,zx,yV,tX,du,cV,fL,oL,zw⟩
   cases hno:(zA p c x == -1)
   rotate_left
   .rw [if_neg (by rw [hfi,bne,hno];simp)] at hn2
    all_goals have fx:=vA h1 h5 hp5 h7 h20 hx8 hx8' hus hno<|@qx
    repeat' (first|refine zl ?_|refine λ(K:St->Prop) hK=>?_|refine zL (hF:=pN _ p c q x hx8) (h:=?_)|refine zL (hF:=db _ p hp c q hq x hx8) (h:=?_))
    all_goals try clear fx
    exact⟨8 - (x+1),qA,x+1,rfl,qA,ji,zx,yV,tX,du,cV,fL,oL,zw⟩
   have hno':¬ zA p c x=-1:=by simpa using hno
   obtain⟨o,hO⟩:∃ o:Nat,zA p c x=o:=⟨(zA p c x).toNat,by rcases lU (p:=p) (c:=c) (x:=(x:Int)) with h|h <;> omega⟩
   have hol:o<p.length:=by
    have h1:=lU (p:=p) (c:=c) (x:=(x:Int));have h2:=fZ (E4 hh qA hq hO);omega
   obtain⟨qo,hqo⟩:=gX hol;have hsg:=pI (p:=p) hol;rw [cq hh hqo] at hsg;obtain⟨_,hse⟩:=gS hsg;rw [hO] at hno hfi
   cases hio:jS p o b
   rotate_left
   .rw [if_neg (by rw [hfi,hio];simp)] at hn2
    all_goals have fx:=qr h0 h1 h5 hp5 h7 h20 hx8 hx8' hus hO hno hol<|zC hsg hse hio<|@qx
    repeat' (first|refine zl ?_|refine λ(K:St->Prop) hK=>?_|refine zL (hF:=pN _ p c q x hx8) (h:=?_)|refine zL (hF:=db _ p hp c q hq x hx8) (h:=?_)|refine zL (hF:=B4 _ p hh o qo hqo b) (h:=?_))
    all_goals try clear fx
    exact⟨8 - (x+1),qA,x+1,rfl,qA,ji,zx,yV,tX,du,cV,fL,oL,zw⟩
   .rw [if_pos (by rw [hfi,hus,bne,hno,hio];rfl)] at hn2;have hnM:R++jy (eJ p b c) (x+1)=R++jy (eJ p b c) x++[(x:Int)]:=by rw [hn2,ig]
    generalize R++jy (eJ p b c) x=M at hp5 hnM
    all_goals have fx:=qr h0 h1 h5 hp5 h7 h20 hx8 hx8' hus hO hno hol<|zC hsg hse hio<|@qx
    repeat' (first|refine zl ?_|refine λ(K:St->Prop) hK=>?_|refine zL (hF:=pN _ p c q x hx8) (h:=?_)|refine zL (hF:=db _ p hp c q hq x hx8) (h:=?_)|refine zL (hF:=B4 _ p hh o qo hqo b) (h:=?_))
    all_goals try clear fx
    refine⟨8 - (x+1),qA,x+1,rfl,qA,ji,zx,yV,?_,du,cV,fL,oL,zw⟩;rw [hnM];simp [<- mN (l:=M) (y:=(x:Int)) rfl hx8]
  .have hge:x=8:=qA;subst hge;rw [<- hnext] at hp5;refine qI ?_<|jQ h1 h5 hp5 h10 h11 h12<|h20;exact⟨p.length - (c+1),qA,c+1,rfl,qA,ji,zx,yV,be,cV,fL,by simp [h12];exact qi qA qA⟩
 .have hge:c=p.length:=qA;subst hge;have fx:=zC h5 hp5 h11<|h12;have d1:=Bk gl (og p b p.length);refine qQ ?_;clear fx d1;exact vo (t:=4) y3 y3 qB
end Go.Proofs.YtjgpejikjhojcaaGreatDoor
end
