import Derived.Test.YtjgpejikjhojcaaGreatDoorR31
import Derived.Test.YtjgpejikjhojcaaGreatDoorR18
set_option linter.unusedSimpArgs false
set_option linter.unusedVariables false
set_option maxRecDepth 100000
set_option maxHeartbeats 4000000

section
namespace Go.Proofs.YtjgpejikjhojcaaGreatDoor
open Go Go.Hm Go.Proofs Tryz
@[simp] theorem scRows_tr {p:qC} {f:Nm->Option Nm}:(gB p).map (λr=>r.map (AV.tr f))=gB p:=by simp [gB]
theorem M4 (p:qC) (j:Int):yl p j=aH\/∃ r,yl p j=.el r 0:=by
 unfold yl
 cases p.length with
 | zero=>exact .inl rfl
 | succ n =>
  rw [cw]
  split
  .exact .inl rfl
  .split
   .exact .inl rfl
   .exact .inr ⟨_,rfl⟩
@[simp] theorem scopeA_isNil {p:qC} {j:Int}:jV (yl p j)=false:=by
 rcases M4 p j with h|⟨r,h⟩ <;> rw [h] <;> rfl
@[simp] theorem scopeA_sNm {p:qC} {j:Int}:uO (yl p j)=none:=by
 rcases M4 p j with h|⟨r,h⟩ <;> rw [h] <;> rfl
theorem By (gl) (p:qC) (hh:zj p) (i:Nat) (k:qX) (hk:p[i]?=some k) (b:Nat):qM prog gl 164 [iP p i k,iv b] (λ_ y _=>y=bv (jX p i b)):=by
 have hil:=(gS hk).1;refine qM.q9 func164 [.tmp 4] ntmps164 λC w g root=>?_;refine qJ ?_<|qd;refine zQ (λn st=>∃ j:Int,n=(j+1).toNat /\ -1<=j/\j<p.length/\st.tm 1=iv b/\st.tm 5=yl p j/\jX p i b=jX p j b) (i+1) ?_ ?_
 .exact⟨i,qA,qA,qA,qB,by simp [cu hh hk],rfl⟩
 rintro n st - - ⟨j,rfl,hj1,hj,h1,h5,hin⟩;rcases Int.lt_or_le j 0 with hn|hn
 .rw [GO hn,aH] at h5
  have hfa:jX p i b=false:=by
   rw [hin,bA qA];exact decide_eq_false qA
  refine qJ ?_<|aI h1<|h5;refine qF [] .nil qE ?_;simp [hfa]
 .obtain⟨J,rfl⟩:∃ J:Nat,j=J:=⟨j.toNat,qA⟩;obtain⟨q,hq⟩:∃ q,p[J]?=some q:=⟨_,gE qA⟩;obtain⟨hq1,hq2,_⟩:=hh J q hq;rw [cu hh hq] at h5
  cases hjb:((J:Int)==b)
  .have hne:¬ (J:Int)=b:=by simpa using hjb
   have hin2:jX p i b=jX p q.parent b:=by
    rw [hin];rcases Int.lt_or_le b J with h|h
    .exact dV hh qA hq h
    .rw [bA h,bA qA,decide_eq_false hne,decide_eq_false qA]
   refine qJ ?_<|qk h1 h5<|hjb;exact⟨(q.parent+1).toNat,qA,q.parent,rfl,hq1,qA,zl,qB,hin2⟩
  .have he:(J:Int)=b:=by simpa using hjb
   have htr:jX p i b=true:=by
    rw [hin,bA qA];exact decide_eq_true he
   refine qJ ?_<|qk h1 h5<|hjb;refine qF [] .nil qE ?_;simp [htr]
theorem qAy {k:qX} {y:Nat} (hy:y<8):(decide ((y:Int)∈k.rd)||decide ((y:Int)∈k.bd)||(decide ((y:Int)∈k.dc 9)||decide ((y:Int)∈k.dc 10)))=decide ((y:Int)∈k.us):=by
 have e:=To (xs:=k.rd++k.bd++k.dc 9++k.dc 10) hy;simp only [qX.us,e,y9];by_cases h1:(y:Int)∈k.rd <;> by_cases h2:(y:Int)∈k.bd <;> by_cases h3:(y:Int)∈k.dc 9 <;> by_cases h4:(y:Int)∈k.dc 10 <;> simp [h1,h2,h3,h4]
theorem pj (gl) (p:qC) (i:Nat) (k:qX) (x:Nat) (hx:x<8):qM prog gl 165 [iP p i k,iv x] (λ_ y _=>y=bv (decide ((x:Int)∈k.us))):=by
 have:=qAz gl i k (yl p k.parent) k.params x hx
 rwa [qAy hx] at this
theorem FJ (gl) (p:qC) (hp:zr p) (i:Nat) (k:qX) (hk:p[i]?=some k) (x:Nat) (hx:x<8):qM prog gl 159 [iP p i k,iv x] (λ_ y _=>y=bv (uA i k x)):=by
 have h:=GP gl i k (yl p k.parent) k.params x hx;have hk0:=hp.dW hk
 have e:(k.kind != 0&&decide ((x:Int)∈k.bd)&&!(decide ((x:Int)∈k.dc 9)||decide ((x:Int)∈k.dc 10)))=uA i k x:=by
  by_cases h0:i=0
  .have:(k.kind != 0)=false:=by simp [hk0,h0]
   rw [this];simp [uA,h0]
  .have:(k.kind != 0)=true:=by simp [hk0,h0]
   rw [this];have h1:decide (0<i)=true:=decide_eq_true qA;simp only [uA,h1];simp [Bool.and_assoc]
 rwa [e] at h
end Go.Proofs.YtjgpejikjhojcaaGreatDoor
end
section

end
section
namespace Go.Proofs.YtjgpejikjhojcaaGreatDoor
open Go Go.Hm Go.Proofs Tryz
theorem Hz {l:List Int} {x:Nat} (h:x<8) (hx:(x:Int)∉l):(zY l).take x++bv false::(zY l).drop (x+1)=zY l:=by
 have hl:x<(zY l).length:=qu;have yX:=List.set_eq_take_append_cons_drop (l:=zY l) (i:=x) (a:=bv false);rw [if_pos hl] at yX;rw [<- yX];apply y6;intro i;rw [dt];by_cases e:x=i
 .subst e;rw [if_pos rfl,if_pos hl,tq h];simp [hx]
 .rw [if_neg e]
theorem CM (gl) (l:List Int):qM prog gl 162 [.agg (zY l)] (λr z H'=>z=.hs r 1 0 (sorted l).length/\H' r=some (.row 1 (qj (sorted l)))):=by
 refine qM.q9 func162 [.tmp 2] ntmps162 λC w g root=>?_;refine qJ ?_<|qd;refine zQ (λn st=>∃ x:Nat,n=8 - x/\x<=8/\st.tm 6=.agg (zY l)/\st.tm 7=iv x/\st.tm 3=.hs (.s 3) 1 0 (ul l x).length/\st.hp (.s 3)=some (.row 1 (qj (ul l x)))/\(ul l x).length<=x) 8 ?_ ?_
 .exact⟨0,qA,qA,qB,qB,Ba,Ba,Ba⟩
 rintro n st - - ⟨x,rfl,hx,h6,h7,h3,hp3,hle⟩;refine qJ ?_<| h7;refine vC vE (λht=>?_) (λhf=>?_)
 .have hx8':(x:Int)<8:=yW;have hx8:x<8:=qA;have hbg:=tq (l:=l) hx8;obtain⟨qy,hbE⟩:=gS hbg;clear ht;by_cases hm:(x:Int)∈l
  .have he:ul l (x+1)=ul l x++[(x:Int)]:=by simp [ul,hm]
   generalize hL:ul l x=L at h3 hp3 he hle;refine qJ ?_<|vI h6 h7 hbg hbE hx8 hx8' hm h3<|hp3;refine⟨8 - (x+1),qA,x+1,rfl,qA,vt,jM,by simp [he],?_,by simp [he];omega⟩;rw [he];simp [hp3,qj]
  .have he:ul l (x+1)=ul l x:=by simp [ul,hm]
   refine qJ ?_<|jI h6 h7 hbg hbE hx8 hx8'<|hm;exact⟨8 - (x+1),qA,x+1,rfl,qA,vt,jM,by simp [he,h3],by simp [he,hp3],by rw [he];omega⟩
 .have hge:x=8:=by
   have:¬ (x:Int)<8:=vT;omega
  subst hge;refine qJ ?_<|aI h3<|hp3;exact y7 (t:=2) B1 B1 qB
theorem lw (gl) (D:Nm->Bool) (hD:∀ k,D k=true->k.zg=false) (H:Nm->Option AO) (R:List AV) (off k:Nat) (vs:List qW) (v:qW) (hr:H Yn=some (.row 4415 [R])) (hi:R[off+28]?=some (.hs (.c Yn 0 (off+28)) 2 0 (k+1))) (hs:H (.c Yn 0 (off+28))=some (.row 2 (zh vs))) (hv:vs[k]?=some v) (hk:k<=1000) (ho:off+29<=4415) :
  qZ prog gl 211 D [.pt Yn off] H (rC D (qW.av v) Yn (.row 4415 [qp R (off+28) [.hs (.c Yn 0 (off+28)) 2 0 k]]) H) zG:=by
 obtain⟨hil,hiE⟩:=gS hi;obtain⟨hvl,hvE⟩:=gS hv;obtain⟨v1,v2⟩:=v;have hw1:IntKind.i64.wrap (k:Int)=k:=qm qA qA;have hl1:(k:Int)<(k:Int)+1:=qA;have hl2:(k:Int)<=(k:Int)+1:=qA;have hl0:(0:Int)<=(k:Int):=qA;refine qZ.q9 func211 [.cell 2 115] ntmps211 hD λC w g root hroot=>?_;have ho2:off+28+1<=4415:=ho;have fx:=qh hr hi hiE hil ho2 hs hv hvE hvl hw1 hl0 hl1<|hl2;refine qK ?_
 repeat ((first|refine qQ (id:=1) (.q 0<|.q 1<|.q 2<|.q 3<|.q 4<|.q 5<|.q 6<|.q 7<|.q 8<|.q 9<|.q 10<|.q 11<|.l 12 [11,10,9,8,7,6,5,4,3,2,1,0]<|.l 13 []<|.done) mixed ?_|refine qQ (id:=2) (.q 0<|.q 1<|.q 2<|.q 3<|.q 4<|.q 5<|.q 6<|.q 7<|.q 8<|.q 9<|.q 10<|.q 11<|.q 12<|.q 13<|.l 14 []<|.done) mixed ?_);refine zK ?_;refine qK ?_)
 clear fx;refine qF [] .nil qE ⟨qB,λq hq=>?_⟩;have hq2:=λd=>(jg hD hq d).1;have hq3:=λd=>(jg hD hq d).2;by_cases e:q=Yn
 .subst e;simp only [vF,hq,if_true];simp [AO.tr,qp,rL,List.map_drop,Qo hD,-List.map_map]
 .simp [vF,hq,hq2,hq3,e,JQ hD,-Option.map_map]
theorem dK (gl) (D:Nm->Bool) (hD:∀ k,D k=true->k.zg=false) (H:Nm->Option AO) (R:List AV) (off:Nat) (vs js:List qW) (v:qW) (hDY:D Yn=true) (hDS:D (.c Yn 0 (off+28))=true) (hr:H Yn=some (.row 4415 [R])) (hi:R[off+28]?=some (.hs (.c Yn 0 (off+28)) 2 0 vs.length)) (hs:H (.c Yn 0 (off+28))=some (.row 2 (zh (vs++js)))) (hk:vs.length<=1000) (ho:off+29<=4415) :
  qZ prog gl 171 D [.pt Yn off,qW.av v] H (HV D (.c Yn 0 (off+28)) (off+28) R (vs++[v]) H) zG:=by
 obtain⟨hil,hiE⟩:=gS hi;obtain⟨v1,v2⟩:=v;have ho2:off+28+1<=4415:=ho;refine qZ.q9 func171 [] ntmps171 hD λC w g root hroot=>?_;have fx:=jI hr hi hiE hil ho2 hs<|hk;refine qK ?_
 repeat ((first|refine qQ (id:=1) (.q 0<|.q 1<|.q 2<|.q 3<|.q 4<|.q 5<|.l 6 [4,3,2,1,0]<|.l 7 [0]<|.q 8<|.q 9<|.l 10 []<|.done) mixed ?_);refine zK ?_;refine qK ?_)
 clear fx;refine yb [] .nil qE ⟨?_,?_,λq hq h1 h2=>?_⟩
 .have e:=Qg (a:=3) (b:=10) (c:=11) (l:=R) hD hDS;simp only [gU] at e;simp only [vF,hDY,if_true];simp [e,hDS,qp]
 .simp only [vF,hDS,if_true];simp [zh]
 .have hq2:=λd=>(jg hD hq d).1;have hq3:=λd=>(jg hD hq d).2;have h3:¬ Nm.c Yn 0 (off+28)=q:=by rintro rfl;simp at h2
  have e:=Qh (a:=3) (b:=10) (c:=11) (o:=H q) hD hDS;simp only [Option.map_map] at e;simp only [vF,hq,if_true];simp [hq2,hq3,h1,h2,h3,-Option.map_map,e];simp [e]
theorem em (gl) (D:Nm->Bool) (hD:∀ k,D k=true->k.zg=false) (H:Nm->Option AO) (R:List AV) (e:Int) (hr:H Yn=some (.row 4415 [R])) (hl:R.length=4415) :
  qZ prog gl 209 D [.pt Yn 0,iv e] H (rC D (bv false) Yn (.row 4415 [qp R 3 [iv e]]) H) zG:=by
 refine qZ.q9 func209 [.tmp 4] ntmps209 hD λC w g root hroot=>?_;refine qJ ?_<|aI hr<|hl;refine qF [] .nil qE ⟨qB,λq hq=>?_⟩;have hq2:=λd=>(jg hD hq d).1;have hq3:=λd=>(jg hD hq d).2;by_cases e:q=Yn
 .subst e;simp only [vF,hq,if_true];simp [AO.tr,qp,rL,List.map_drop]
 .simp [vF,hq,hq2,hq3,e]
theorem DG (gl) (D:Nm->Bool) (hD:∀ k,D k=true->k.zg=false) (hDY:D Yn=true) (H:Nm->Option AO) (R:List AV) (i:Nat) (hr:H Yn=some (.row 4415 [R])) (h:R[4411]?=some (iv ((i:Int)+1))) (hi:i<151) :
  qZ prog gl 117 D [.pt Yn 0] H (HZ D (.pt Yn (yo i)) H) zG:=by
 obtain⟨hil,hiE⟩:=gS h;have hw1:IntKind.i64.wrap (i:Int)=i:=qm qA qA;have hl0:(0:Int)<=(i:Int):=qA;have hl1:(i:Int)<151:=qA;refine qZ.q9 func117 [.tmp 2] ntmps117 hD λC w g root hroot=>?_;have fx:=jN hr h hil hiE hw1 hl0 hl1<|hi;refine qK ?_
 repeat ((first|refine qQ (id:=1) (.q 0<|.q 1<|.q 2<|.q 3<|.q 4<|.q 5<|.q 6<|.q 7<|.q 8<|.l 9 []<|.done) mixed ?_);refine zK ?_;refine qK ?_)
 clear fx;refine qF [] .nil qE ⟨by simp [hDY,yo,oR],λq hq=>?_⟩;have hq2:=λd=>(jg hD hq d).1;have hq3:=λd=>(jg hD hq d).2;simp [vF,hq,hq2,hq3]
theorem Fc {f:Nat->Bool}:∀ {n:Nat},(∀ x,x<n->f x=false)->ja f n=[]
 | 0,_=>rfl
 | n+1,h=>by
  rw [ja,if_neg (by rw [h n qA];decide),Fc (n:=n) λx hx=>h x qA]
theorem Fe {f:Nat->Bool} {n:Nat}:ja f (n+1)=if f n=true then ja f n++[(n:Int)] else ja f n:=rfl
theorem sy (gl) (xs:List Int) (x:Int) (hlen:xs.length<=1048576):qM prog gl 166 [jG xs,iv x] (λ_ z _=>z=iv (yj xs x)):=by
 refine qM.q9 func166 [.tmp 4] ntmps166 λC w g root=>?_;refine qJ ?_<|qd;refine zQ (λn st=>∃ i:Nat,n=xs.length - i/\i<=xs.length/\st.tm 7=jG xs/\st.tm 8=iv xs.length/\st.tm 1=iv x/\st.tm 9=iv i/\∀ j<i,xs[j]?≠some x) xs.length ⟨0,qB⟩ ?_;rintro n st - - ⟨i,rfl,hi,h7,h8,h1,h9,hno⟩;by_cases hlt:i<xs.length
 .obtain⟨y,hy⟩:∃ y,xs[i]?=some y:=⟨xs[i],gE hlt⟩;obtain⟨_,hyE⟩:=gS hy
  cases hyx:(y==x)
  rotate_left
  .skip
   refine qJ ?_<|jN h7 h8 h1 h9 hy hyE hlt<|hyx;refine qF [] .nil qE ?_;have hyx:y=x:=by simpa using hyx
   subst hyx
   have:xs.findIdx? (·==y)=some i:=by
    rw [rH];refine⟨hlt,by simp [hyE],λj hj=>?_⟩;have:=hno j hj;rw [gE qA] at this
    simpa using this
   simp [yj,this]
  .skip
   refine qJ ?_<|jN h7 h8 h1 h9 hy hyE hlt<|hyx;refine⟨xs.length - (i+1),qA,i+1,rfl,qA,b7,by simp [h8],zl,jM,λj hj=>?_⟩;rcases BA.1 hj with h|rfl
   .exact hno j h
   .rw [hy];simpa using hyx
 .skip
  refine qJ ?_<|zN h7 h8 h1 h9<|hlt;refine qF [] .nil qE ?_
  have:xs.findIdx? (·==x)=none:=by
   rw [List.findIdx?_eq_none_iff];intro y hy;obtain⟨j,hj,rfl⟩:=List.getElem_of_mem hy;have:=hno j qA;rw [gE hj] at this
   simpa using this
  simp [yj,this]
theorem xb (gl) (p:qC) (hp:zr p) (b:Nat) (k:qX) (hk:p[b]?=some k):qM prog gl 161 [vq p,iv b] (λ_ y _=>y=.agg (zY (qY p b))):=by
 have hh:=hp.jj;have hl7:=hp.len;obtain⟨qy,hbE⟩:=gS hk;have hka:j9 p b=k.kind:=fP;have hsg:=pZ (p:=p) qy;rw [cu hh hk] at hsg;obtain⟨_,hse⟩:=gS hsg;refine qM.q9 func161 [.cell 4 169] ntmps161 λC w g root=>?_
 cases hkd:(k.kind==1)
 .have hc:qY p b=[]:=by
   have:¬ k.kind=1:=gh;simp [qY,hka,this]
  rw [hc];refine qJ ?_<|zN hsg hse hkd qy<|@qz;refine qF [] .nil qE ?_
  rfl
 have hk1:k.kind=1:=gh
 have h0:0<b:=by
  rcases tj b with e|e
  .have:=(hp.dW hk).2 e;omega
  .exact e
 have hc:zY (qY p b)=zY (oz p b p.length):=by
  simp only [qY,hka,hk1,if_true];rw [<- Pq hh h0 qy,BG]
 rw [hc];refine qJ ?_<|zN hsg hse hkd qy<|@qz;refine zQ (λn st=>∃ c:Nat,n=p.length - c/\c<=p.length/\st.tm 1=iv b/\st.tm 4=.pt (.s 4) 0/\st.hp (.s 4)=some (.row 8 [zY []])/\st.tm 5=.pt (.s 5) 0/\st.hp (.s 5)=some (.row 8 [zY (oz p b c)])/\st.tm 18=vq p/\st.tm 19=iv p.length/\st.tm 20=iv c) p.length ?_ ?_
 .exact⟨0,qA,qA,qB,qB,qE,qB,qE,qB,qB,qB⟩
 clear hsg hse;rintro n st - - ⟨c,rfl,hc2,h1,h4,hp4,h5,hp5,h18,h19,h20⟩;by_cases hlt:c<p.length
 .obtain⟨q,hq⟩:=gX hlt;have hsg:=pZ (p:=p) hlt;rw [cu hh hq] at hsg;obtain⟨_,hse⟩:=gS hsg;have hnext:oz p b (c+1)=oz p b c++ja (eJ p b c) 8:=rfl;generalize hR:oz p b c=R at hp5 hnext
  cases hcb:((c:Int)==b)
  rotate_left
  .have hcb':c=b:=by
    have:(c:Int)=b:=by simpa using hcb
    omega
   rw [Fc (λx _=>by simp only [eJ,hq];simp [hcb']),ir] at hnext;refine qJ ?_<|jS h1 h4 hp4 h5 hp5 h18 h19 h20 hlt hsg<|aI hse<|hcb;exact⟨p.length - (c+1),qA,c+1,rfl,qA,zl,wv,wu,yH,by simp [hp5,hnext],oj,mX,jM⟩
  have hcb':(c != b)=true:=by
   have:¬ (c:Int)=b:=by simpa using hcb
   simp;omega
  refine qJ ?_<|jS h1 h4 hp4 h5 hp5 h18 h19 h20 hlt hsg<|aI hse<|hcb;refine zQ (λn st=>∃ x:Nat,n=8 - x/\x<=8/\st.tm 1=iv b/\st.tm 4=.pt (.s 4) 0/\st.hp (.s 4)=some (.row 8 [zY []])/\st.tm 5=.pt (.s 5) 0/\st.hp (.s 5)=some (.row 8 [zY (R++ja (eJ p b c) x)])/\st.tm 7=iP p c q/\st.tm 18=vq p/\st.tm 19=iv p.length/\st.tm 20=iv c/\st.tm 30=iv x) 8 ?_ ?_
  .exact⟨0,qA,qA,zl,wv,wu,yH,by simp [hp5,ja],qB,oj,mX,rx,qB⟩
  clear h1 h4 hp4 h5 hp5 h18 h19 h20;rintro n st - - ⟨x,rfl,hx,h1,h4,hp4,h5,hp5,h7,h18,h19,h20,h30⟩;by_cases hx8:x<8
  .have hx8':(x:Int)<8:=qA;have hfi:eJ p b c x=(decide ((x:Int)∈q.us)&&(zI p c x==b)):=by simp only [eJ,hq,hcb',fJ]
   have hn2:=Fe (f:=eJ p b c) (n:=x)
   cases hus:decide ((x:Int)∈q.us)
   .rw [if_neg (by rw [hfi,hus];simp)] at hn2
    all_goals have fx:=jN h1 h5 hp5 h7 h30 hx8 hx8'<|hus
    repeat' (first|refine zm ?_|refine λ(K:St->Prop) hK=>?_|refine zH (hF:=pj _ p c q x hx8) (h:=?_))
    all_goals try clear fx
    exact⟨8 - (x+1),qA,x+1,rfl,qA,zl,wv,wu,yH,xU,b7,oj,mX,rx,jM⟩
   cases ho:(zI p c x==(b:Int))
   .rw [if_neg (by rw [hfi,ho];simp)] at hn2
    all_goals have fx:=vI h1 h5 hp5 h7 h30 hx8 hx8' hus<|ho
    repeat' (first|refine zm ?_|refine λ(K:St->Prop) hK=>?_|refine zH (hF:=pj _ p c q x hx8) (h:=?_)|refine zH (hF:=cx _ p hp c q hq x hx8) (h:=?_))
    all_goals try clear fx
    exact⟨8 - (x+1),qA,x+1,rfl,qA,zl,wv,wu,yH,xU,b7,oj,mX,rx,jM⟩
   .rw [if_pos (by rw [hfi,hus,ho];rfl)] at hn2;have hnM:R++ja (eJ p b c) (x+1)=R++ja (eJ p b c) x++[(x:Int)]:=by rw [hn2,iq]
    generalize R++ja (eJ p b c) x=M at hp5 hnM
    all_goals have fx:=vI h1 h5 hp5 h7 h30 hx8 hx8' hus<|ho
    repeat' (first|refine zm ?_|refine λ(K:St->Prop) hK=>?_|refine zH (hF:=pj _ p c q x hx8) (h:=?_)|refine zH (hF:=cx _ p hp c q hq x hx8) (h:=?_))
    all_goals try clear fx
    refine⟨8 - (x+1),qA,x+1,rfl,qA,zl,wv,wu,yH,?_,b7,oj,mX,rx,jM⟩;rw [hnM];simp [<- mQ (l:=M) (y:=(x:Int)) rfl hx8]
  .have hge:x=8:=qA;subst hge;rw [<- hnext] at hp5;refine qJ ?_<|jI h1 h5 hp5 h18 h19 h20<|h30;exact⟨p.length - (c+1),qA,c+1,rfl,qA,zl,wv,wu,yH,wt,oj,mX,by simp [h20];exact qm qA qA⟩
 .have hge:c=p.length:=qA;subst hge;refine qJ ?_<|jH h4 hp4 h5 hp5 h19<|h20;refine qF [] .nil BP ?_;simp
theorem Ej (gl) (p:qC) (hp:zr p) (b:Nat) (qy:b<p.length):qM prog gl 114 [vq p,iv b] (λr y H'=>y=.hs r 1 0 (zZ p b).length/\H' r=some (.row 1 (qj (zZ p b)))):=by
 have hh:=hp.jj;have hl7:=hp.len;rw [<- RP hh qy];refine qM.q9 func114 [.tmp 4] ntmps114 λC w g root=>?_;refine qJ ?_<|qd;refine zQ (λn st=>∃ c:Nat,n=p.length - c/\c<=p.length/\st.tm 0=vq p/\st.tm 1=iv b/\st.tm 5=.pt (.s 5) 0/\st.hp (.s 5)=some (.row 8 [zY (pJ p b c)])/\st.tm 10=vq p/\st.tm 11=iv p.length/\st.tm 12=iv c) p.length ?_ ?_
 .exact⟨0,qA,qA,qB,qB,qB,qE,qB,qB,qB⟩
 rintro n st - - ⟨c,rfl,hc2,h0,h1,h5,hp5,h10,h11,h12⟩;by_cases hlt:c<p.length
 .obtain⟨q,hq⟩:=gX hlt;have hsg:=pZ (p:=p) hlt;rw [cu hh hq] at hsg;obtain⟨_,hse⟩:=gS hsg;have hnext:pJ p b (c+1)=pJ p b c++ja (eM p b c) 8:=rfl;generalize hR:pJ p b c=R at hp5 hnext
  cases hin:jX p c b
  .rw [Fc (λx _=>by simp only [eM,hq,hin];simp),ir] at hnext;have fx:=jS h0 h1 h5 hp5 h10 h11 h12 hlt hsg hse<|hin;have c1:=By gl p hh c q hq b;refine qK ?_;clear fx c1;exact⟨p.length - (c+1),qA,c+1,rfl,qA,vg,zl,yH,by simp [hp5,hnext],cN,fR,jM⟩
  have fx:=jS h0 h1 h5 hp5 h10 h11 h12 hlt hsg hse<|hin;have c1:=By gl p hh c q hq b;refine qK ?_;clear fx c1;refine zQ (λn st=>∃ x:Nat,n=8 - x/\x<=8/\st.tm 0=vq p/\st.tm 1=iv b/\st.tm 5=.pt (.s 5) 0/\st.hp (.s 5)=some (.row 8 [zY (R++ja (eM p b c) x)])/\st.tm 7=iP p c q/\st.tm 10=vq p/\st.tm 11=iv p.length/\st.tm 12=iv c/\st.tm 20=iv x) 8 ?_ ?_
  .exact⟨0,qA,qA,vg,zl,yH,by simp [hp5,ja],qB,cN,fR,oZ,qB⟩
  clear h0 h1 h5 hp5 h10 h11 h12 hsg hse;rintro n st - - ⟨x,rfl,hx,h0,h1,h5,hp5,h7,h10,h11,h12,h20⟩;by_cases hx8:x<8
  .have hx8':(x:Int)<8:=qA;have hfi:eM p b c x=(decide ((x:Int)∈q.us)&&(zI p c x != -1)&&!jX p (zI p c x) b):=by simp only [eM,hq,hin,fJ]
   have hn2:=Fe (f:=eM p b c) (n:=x)
   cases hus:decide ((x:Int)∈q.us)
   .rw [if_neg (by rw [hfi,hus];simp)] at hn2
    all_goals have fx:=jN h1 h5 hp5 h7 h20 hx8 hx8'<|hus
    repeat' (first|refine zm ?_|refine λ(K:St->Prop) hK=>?_|refine zH (hF:=pj _ p c q x hx8) (h:=?_))
    all_goals try clear fx
    exact⟨8 - (x+1),qA,x+1,rfl,qA,vg,zl,yH,xU,b7,cN,fR,oZ,jM⟩
   cases hno:(zI p c x == -1)
   rotate_left
   .rw [if_neg (by rw [hfi,bne,hno];simp)] at hn2
    all_goals have fx:=y8 h1 h5 hp5 h7 h20 hx8 hx8' hus hno<|@qz
    repeat' (first|refine zm ?_|refine λ(K:St->Prop) hK=>?_|refine zH (hF:=pj _ p c q x hx8) (h:=?_)|refine zH (hF:=cx _ p hp c q hq x hx8) (h:=?_))
    all_goals try clear fx
    exact⟨8 - (x+1),qA,x+1,rfl,qA,vg,zl,yH,xU,b7,cN,fR,oZ,jM⟩
   have hno':¬ zI p c x=-1:=by simpa using hno
   obtain⟨o,hO⟩:∃ o:Nat,zI p c x=o:=⟨(zI p c x).toNat,by rcases l5 (p:=p) (c:=c) (x:=(x:Int)) with h|h <;> omega⟩
   have hol:o<p.length:=by
    have h1:=l5 (p:=p) (c:=c) (x:=(x:Int));have h2:=fh (Et hh qA hq hO);omega
   obtain⟨qo,hqo⟩:=gX hol;have hsg:=pZ (p:=p) hol;rw [cu hh hqo] at hsg;obtain⟨_,hse⟩:=gS hsg;rw [hO] at hno hfi
   cases hio:jX p o b
   rotate_left
   .rw [if_neg (by rw [hfi,hio];simp)] at hn2
    all_goals have fx:=qh h0 h1 h5 hp5 h7 h20 hx8 hx8' hus hO hno hol<|zD hsg hse hio<|@qz
    repeat' (first|refine zm ?_|refine λ(K:St->Prop) hK=>?_|refine zH (hF:=pj _ p c q x hx8) (h:=?_)|refine zH (hF:=cx _ p hp c q hq x hx8) (h:=?_)|refine zH (hF:=By _ p hh o qo hqo b) (h:=?_))
    all_goals try clear fx
    exact⟨8 - (x+1),qA,x+1,rfl,qA,vg,zl,yH,xU,b7,cN,fR,oZ,jM⟩
   .rw [if_pos (by rw [hfi,hus,bne,hno,hio];rfl)] at hn2;have hnM:R++ja (eM p b c) (x+1)=R++ja (eM p b c) x++[(x:Int)]:=by rw [hn2,iq]
    generalize R++ja (eM p b c) x=M at hp5 hnM
    all_goals have fx:=qh h0 h1 h5 hp5 h7 h20 hx8 hx8' hus hO hno hol<|zD hsg hse hio<|@qz
    repeat' (first|refine zm ?_|refine λ(K:St->Prop) hK=>?_|refine zH (hF:=pj _ p c q x hx8) (h:=?_)|refine zH (hF:=cx _ p hp c q hq x hx8) (h:=?_)|refine zH (hF:=By _ p hh o qo hqo b) (h:=?_))
    all_goals try clear fx
    refine⟨8 - (x+1),qA,x+1,rfl,qA,vg,zl,yH,?_,b7,cN,fR,oZ,jM⟩;rw [hnM];simp [<- mQ (l:=M) (y:=(x:Int)) rfl hx8]
  .have hge:x=8:=qA;subst hge;rw [<- hnext] at hp5;refine qJ ?_<|jI h1 h5 hp5 h10 h11 h12<|h20;exact⟨p.length - (c+1),qA,c+1,rfl,qA,vg,zl,yH,wt,cN,fR,by simp [h12];exact qm qA qA⟩
 .have hge:c=p.length:=qA;subst hge;have fx:=zD h5 hp5 h11<|h12;have d1:=CM gl (pJ p b p.length);refine qK ?_;clear fx d1;exact y7 (t:=4) j7 j7 qB
end Go.Proofs.YtjgpejikjhojcaaGreatDoor
end
