import Derived.Test.YtdnebaieamppbaaGreatDoorE43
import Derived.Test.YtdnebaieamppbaaGreatDoorE29
set_option linter.unusedSimpArgs false
set_option linter.unusedVariables false
set_option maxRecDepth 100000
set_option maxHeartbeats 4000000

section
namespace Go.Proofs.YtdnebaieamppbaaGreatDoor
open Go Go.Hm Go.Proofs Tryz
abbrev Xz:Zh:=Hw<|.l 5 [3,2,1,0]<|.l 6 [2,1,0]<|.q 7<|.q 8<|.l 9 []<|.done
abbrev Xy:Zh:=ir<|.q 12<|.l 10 [12,9,8,7,6,5,4,3,2,1,0]<|.l 11 [12,8,7,6,5,4,3,2,1,0]<|.q 13<|.l 14 [8,7,6,5,4,3,2,1,0]<|.l 15 [3,2,1,0]<|.q 16<|.q 17<|.l 18 []<|.done
abbrev Xx:Zh:=ir<|.l 10 [9,8,7,6,5,4,3,2,1,0]<|.l 11 [8,7,6,5,4,3,2,1,0]<|.q 12<|.l 13 [8,7,6,5,4,3,2,1,0]<|.l 14 [3,2,1,0]<|.q 15<|.q 16<|.l 17 []<|.done
abbrev Xw:Zh:=DH<|.l 4 [3,2,1,0]<|.l 5 [2,1,0]<|.l 6 [2,1,0]<|.q 7<|.q 8<|.l 9 []<|.done
theorem yg {A G G2:Prop} (k:G2) (x:A) (h:A->Zx G2->G:=by
 intro fx kk;refine qG ?_
 repeat ((first|refine Ze (id:=7) Xz mixed ?_|refine Ze (id:=9) Xy mixed ?_|refine Ze (id:=11) Xx mixed ?_|refine Ze (id:=13) Xw mixed ?_);refine qZ ?_;refine qG ?_)
 exact kk.h):G:=h x ⟨k⟩
theorem eU (gl) (H:Nm->Option AO) (bs:List Int) (pos:Nat) (hb:qAL bs) (hpos:pos<=600000) (hH:H (.u 1 0 0)=some (rdO bs pos)) (hV:H (.u 2 0 0)=none) (hV4:H (.u 4 0 0)=none) (hV5:H (.u 5 0 0)=none) :
  Zj prog gl 65 (Nm.under (.u 1 0 0)) [.pt (.u 1 0 0) 0] H (HZ bs (λp pos'=>Sml p/\(1<=p.length/\p.length<=8)/\pos'<=pos+3000)) noE:=by
 refine Zj.Zl func65 [.cell 2 25] ntmps65 (λ_=>qR rfl) λC w g root hroot=>?_;have hr0:=hroot root (Nm.Z6 _);refine yg ?_<|Zk
 first|show qS _ _ _ _ _|intro K hK
 refine fI (bs:=bs) (hs:=jM) (ha:=j2) (hF:=xR _ _ bs pos hb qA jM qB qB qB) (h:=?_);rintro z H1 ⟨p,q,rfl,⟨ho1,ho2,ho3⟩,⟨hg,hq⟩,hU⟩;refine⟨q,hU,?_⟩;have hgl:=hg.len;have hs:=hg.sml;refine yg ?_<| ho1
 first|show qS _ _ _ _ _|intro K hK
 refine iV (hs:=qB) (ha:=j2) (hF:=vU _ _ bs q p.length hb qA qA qB) (h:=?_);rintro x px ⟨hx,rfl⟩;have hxl:x<p.length:=qA;refine yg ?_<|Zk
 first|show qS _ _ _ _ _|intro K hK
 refine iV (hs:=qB) (ha:=j2) (hF:=vU _ _ bs (q+1) 24 hb qA qA qB) (h:=?_);rintro y py ⟨hy,rfl⟩;have hy24:y<24:=qA
 refine Sn (λst=>st.tm 0=.pt (.u 1 0 0) 0/\st.hp (.u 1 0 0)=some (rdO bs (q+1+1))/\st.tm 2=.pt (.s 2) 0/\st.hp (.s 2)=some (.row 1 [[.hs (.c (.s 2) 0 0) 4 0 0]])/\st.hp (.c (.s 2) 0 0)=some (.row 4 [])/\st.tm 3=.pt (.s 3) 0/\st.hp (.s 3)=some (.row 1 [[.hs (.c (.s 3) 0 0) 4 0 p.length]])/\qAb st.hp (.c (.s 3) 0 0) p/\st.tm 4=iv x/\st.tm 13=iv y)
  ⟨qB,qB,qB,qB,qB,qB,qB,⟨zp,λj r hj=>yu,λj r hj=>yv⟩,qB,qB⟩ ?_
 clear ho1 ho2 ho3 hU;rintro st ⟨h0,hU,h2,hp2,hp2',h3,hp3,⟨ho1,ho2,ho3⟩,h4,h13⟩;obtain⟨k,hk⟩:=gX hxl;obtain⟨_,hkE⟩:=gS hk;have hkp:=hg.params k (gM hk);have hkb:=hg.body k (gM hk);have hob:=ho3 x k hk;have hyc:y=0\/y=1\/y=2\/y=3\/y=4\/5<=y:=qA;clear hy hx;rcases hyc with rfl|rfl|rfl|rfl|rfl|hy5
 .skip
  refine yg ?_<|aI h0<|h13
  first|show qS _ _ _ _ _|intro K hK
  refine fI (bs:=bs) (hs:=zb) (ha:=ii) (hF:=ec _ _ bs (q+1+1) hb qA zb qB qB qB) (h:=?_);rintro z H2 ⟨p2,q2,rfl,⟨hc1,hc2,hc3⟩,⟨hg2,hq2⟩,hU2⟩;refine⟨q2,hU2,?_⟩;refine yg ?_<|yE h2 hp2 hp2'<|hc1;refine qD [(.c (.s 2) 0 0,root)] (.one rfl) wJ ⟨p2,q2,qB,⟨?_,λj r hj=>?_,λj r hj=>?_⟩,⟨hg2.sml,hg2.len,qA⟩,qB⟩
  .simp [hc1,hr0,zA (n:=.c (.s 2) 0 0) (m:=root) (f:=jc (Nm.under (.u 1 0 0)) [(.c (.s 2) 0 0,root)]) (p:=p2) ki]
  .simp [hc2 j r hj,hr0]
  .simp [hc3 j r hj,hr0]
 .skip
  refine yg ?_<|aJ h0 h13 h3 hp3 h4 ho1 hxl hk hkE<|hob
  first|show qS _ _ _ _ _|intro K hK
  refine wk (wu _) 25 [-2,(x:Int),7] (bs:=bs) (pos:=q+1+1) hb qA (hV:=hV) (h0:=zR) (h1:=qB) (hH:=zb) (hL:=zd) (h:=?_);intro v hv;have wF:=D6 (n:=.c (.s 3) 0 0) (v:=v) hk;refine yg ?_<|qU h0 h13 h3 hp3 h4 ho1 hxl hk hkE hob wF h2<|aI hp2<|hp2';refine qD [(.c (.s 3) 0 0,root)] (.one rfl) wJ ⟨p.set x { k with parent:=v },q+1+1+1,qB,⟨?_,λj r hj=>?_,λj r hj=>?_⟩,⟨hs.set (by show k.params.length<=_;omega) (by show k.body.length<=_;omega),qc,qA⟩,qB⟩
  .simp [wF,hr0,zA (n:=.c (.s 3) 0 0) (m:=root) (f:=jc (Nm.under (.u 1 0 0)) [(.c (.s 3) 0 0,root)]) (p:=p.set x { k with parent:=v }) ki]
  all_goals
   rw [eV] at hj;by_cases e:x=j
   .subst e;rw [if_pos rfl,if_pos hxl] at hj;obtain rfl:=sI hj;simp [ho2 x k hk,ho3 x k hk,hr0]
   .rw [if_neg e] at hj;simp [ho2 j r hj,ho3 j r hj,hr0,e,show ¬ j=x from λh=>e h.symm]
 .skip
  refine yg ?_<|aJ h0 h13 h3 hp3 h4 ho1 hxl hk hkE<|hob
  first|show qS _ _ _ _ _|intro K hK
  refine wk (wu _) 41 [-1,12,3] (bs:=bs) (pos:=q+1+1) hb qA (hV:=hV) (h0:=zR) (h1:=qB) (hH:=zb) (hL:=zd) (h:=?_);intro v hv;have wF:=fZ (n:=.c (.s 3) 0 0) (a:=46) (i:=x) (len:=k.body.length+1) (p:=p) (L:=k.body++[⟨v,0,x,0⟩]) qB qB qB;refine yg ?_<|qU h0 h13 h3 hp3 h4 ho1 hxl hk hkE hob wF h2<|aI hp2<|hp2';refine qD [(.c (.s 3) 0 0,root)] (.one rfl) wJ ⟨setBody p x (k.body++[⟨v,0,x,0⟩]),q+1+1+1,qB,⟨?_,λj r hj=>?_,λj r hj=>?_⟩,⟨rL hs qc,qc,qA⟩,qB⟩
  .simp [wF,hr0,zA (n:=.c (.s 3) 0 0) (m:=root) (f:=jc (Nm.under (.u 1 0 0)) [(.c (.s 3) 0 0,root)]) (p:=setBody p x (k.body++[⟨v,0,x,0⟩])) ki]
  all_goals
   have hjl:j<p.length:=by
    have:=(gS hj).1
    rwa [uv] at this
   obtain⟨r0,hr0'⟩:∃ r0,p[j]?=some r0:=⟨_,gE hjl⟩;rw [wO hr0'] at hj;obtain rfl:=sI hj;by_cases e:x=j
   .subst e;rw [hk] at hr0';obtain rfl:=sI hr0';simp [ho2 x k hk,hob,hr0]
   .simp [ho2 j r0 hr0',ho3 j r0 hr0',hr0,e,show ¬ j=x from λh=>e h.symm]
 .skip
  refine yg ?_<|aJ h0 h13 h3 hp3 h4 ho1 hxl hk hkE<|hob
  first|show qS _ _ _ _ _|intro K hK
  refine wk (wu _) 61 [8,-1] (bs:=bs) (pos:=q+1+1) hb qA (hV:=hV) (h0:=zR) (h1:=qB) (hH:=zb) (hL:=zd) (h:=?_);intro v hv;have wF:=fZ (n:=.c (.s 3) 0 0) (a:=65) (i:=x) (len:=k.body.length+1) (p:=p) (L:=k.body++[⟨1,v,0,0⟩]) qB qB qB;refine yg ?_<|qU h0 h13 h3 hp3 h4 ho1 hxl hk hkE hob wF h2<|aI hp2<|hp2';refine qD [(.c (.s 3) 0 0,root)] (.one rfl) wJ ⟨setBody p x (k.body++[⟨1,v,0,0⟩]),q+1+1+1,qB,⟨?_,λj r hj=>?_,λj r hj=>?_⟩,⟨rL hs qc,qc,qA⟩,qB⟩
  .simp [wF,hr0,zA (n:=.c (.s 3) 0 0) (m:=root) (f:=jc (Nm.under (.u 1 0 0)) [(.c (.s 3) 0 0,root)]) (p:=setBody p x (k.body++[⟨1,v,0,0⟩])) ki]
  all_goals
   have hjl:j<p.length:=by
    have:=(gS hj).1
    rwa [uv] at this
   obtain⟨r0,hr0'⟩:∃ r0,p[j]?=some r0:=⟨_,gE hjl⟩;rw [wO hr0'] at hj;obtain rfl:=sI hj;by_cases e:x=j
   .subst e;rw [hk] at hr0';obtain rfl:=sI hr0';simp [ho2 x k hk,hob,hr0]
   .simp [ho2 j r0 hr0',ho3 j r0 hr0',hr0,e,show ¬ j=x from λh=>e h.symm]
 .skip
  refine yg ?_<|aJ h0 h13 h3 hp3 h4 ho1 hxl hk hkE<|hob
  first|show qS _ _ _ _ _|intro K hK
  refine wk (wu _) 74 [8,1] (bs:=bs) (pos:=q+1+1) hb qA (hV:=hV) (h0:=zR) (h1:=qB) (hH:=zb) (hL:=zd) (h:=?_);intro v hv;have wF:=ri (n:=.c (.s 3) 0 0) (a:=76) (len:=2) (L:=[v,2]) hk rfl qB qB;refine yg ?_<|qU h0 h13 h3 hp3 h4 ho1 hxl hk hkE hob wF h2<|aI hp2<|hp2';refine qD [(.c (.s 3) 0 0,root)] (.one rfl) wJ ⟨p.set x { k with params:=[v,2] },q+1+1+1,qB,⟨?_,λj r hj=>?_,λj r hj=>?_⟩,⟨hs.set (by show ([v,2]:List Int).length<=_;simp) (by show k.body.length<=_;omega),qc,qA⟩,qB⟩
  .simp [wF,hr0,zA (n:=.c (.s 3) 0 0) (m:=root) (f:=jc (Nm.under (.u 1 0 0)) [(.c (.s 3) 0 0,root)]) (p:=p.set x { k with params:=[v,2] }) ki]
  all_goals
   rw [eV] at hj;by_cases e:x=j
   .subst e;rw [if_pos rfl,if_pos hxl] at hj;obtain rfl:=sI hj;simp [ho3 x k hk,qT,hr0]
   .rw [if_neg e] at hj;simp [ho2 j r hj,ho3 j r hj,hr0,e,show ¬ j=x from λh=>e h.symm]
 .have hy0:¬ y=0:=qA;have hy1:¬ y=1:=qA;have hy2:¬ y=2:=qA;have hy3:¬ y=3:=qA;have hy4:¬ y=4:=qA;have e0:((y:Int)==0)=false:=vP;have e1:((y:Int)==1)=false:=vP;have e2:((y:Int)==2)=false:=vP;have e3:((y:Int)==3)=false:=vP;have e4:((y:Int)==4)=false:=vP;refine yg ?_<|jJ h2 hp2 hp2' h3 hp3 h13 hy0 e1 e2 e3<|e4;refine qD [(.c (.s 3) 0 0,root)] (.one rfl) wJ ⟨p,q+1+1,qB,⟨?_,λj r hj=>?_,λj r hj=>?_⟩,⟨hs,hgl,qA⟩,zb⟩
  .simp [ho1,hr0,zA (n:=.c (.s 3) 0 0) (m:=root) (f:=jc (Nm.under (.u 1 0 0)) [(.c (.s 3) 0 0,root)]) (p:=p) ki]
  .simp [ho2 j r hj,hr0]
  .simp [ho3 j r hj,hr0]
attribute [local simp] mF bg
def Et (bs:List Int) (m:Nat):Nm->AV->(Nm->Option AO)->Prop:=λr z H'=>∃ (p:Z0) (b:Int) (pos':Nat),z=.tup [.agg [.hs r 4 0 p.length],iv b]/\qAb H' r p/\Sml p/\(1<=p.length/\p.length<=8)/\pos'<=m/\H' (.u 1 0 0)=some (rdO bs pos')
def Eo (bs:List Int) (m:Nat):Nm->AV->(Nm->Option AO)->Prop:=λr z H'=>∃ (p:Z0) (b x:Int) (pos':Nat),z=.tup [.agg [.hs r 4 0 p.length],iv b,iv x]/\qAb H' r p/\Sml p/\(1<=p.length/\p.length<=8)/\pos'<=m/\H' (.u 1 0 0)=some (rdO bs pos')
theorem Ka (gl) (H:Nm->Option AO) (bs:List Int) (pos:Nat) (hb:qAL bs) (hpos:pos<=500000) (hH:H (.u 1 0 0)=some (rdO bs pos)) (hV:H (.u 2 0 0)=none) (hV4:H (.u 4 0 0)=none) (hV5:H (.u 5 0 0)=none) :
  Zj prog gl 172 (Nm.under (.u 1 0 0)) [.pt (.u 1 0 0) 0] H (Et bs (pos+4000)) noE:=by
 refine Zj.Zl func172 [.cell 2 25,.tmp 3] ntmps172 (λ_=>qR rfl) λC w g root hroot=>?_;have hr0:=hroot root (Nm.Z6 _)
 all_goals have fx:=Zk
 repeat' (first|refine qK ?_|refine λ(K:St->Prop) hK=>?_)
 all_goals try clear fx
 refine fI (bs:=bs) (hs:=jM) (ha:=j2) (hF:=eU _ _ bs pos hb qA jM qB qB qB) (h:=?_);rintro z H1 ⟨p,q,rfl,⟨ho1,ho2,ho3⟩,⟨hs,hpl,hq⟩,hU⟩;refine⟨q,hU,?_⟩
 all_goals have fx:= ho1
 repeat' (first|refine qK ?_|refine λ(K:St->Prop) hK=>?_)
 all_goals try clear fx
 refine iV (hs:=qB) (ha:=j2) (hF:=vU _ _ bs q 16 hb qA qA qB) (h:=?_);rintro x px ⟨hx,rfl⟩
 refine Sn (λst=>st.tm 0=.pt (.u 1 0 0) 0/\st.hp (.u 1 0 0)=some (rdO bs (q+1))/\st.tm 2=.pt (.s 2) 0/\st.hp (.s 2)=some (.row 1 [[.hs (.c (.s 2) 0 0) 4 0 0]])/\st.hp (.c (.s 2) 0 0)=some (.row 4 [])/\st.tm 4=.pt (.s 4) 0/\st.hp (.s 4)=some (.row 1 [[.hs (.c (.s 4) 0 0) 4 0 p.length]])/\qAb st.hp (.c (.s 4) 0 0) p/\st.tm 8=iv x)
  ⟨qB,qB,qB,qB,qB,qB,qB,⟨zp,λj r hj=>yu,λj r hj=>yv⟩,qB⟩ ?_
 clear ho1 ho2 ho3 hU;rintro st ⟨h0,hU,h2,hp2,hp2',h4,hp4,⟨ho1,ho2,ho3⟩,h8⟩;have hwl:IntKind.i64.wrap ((p.length:Int) - 1)=((p.length - 1:Nat):Int):=eM;have hxc:x=0\/¬ x=0:=qA;rcases hxc with rfl|hx0
 .skip
  all_goals have fx:=u4 h0 h2 hp2 hp2' h4 hp4<|h8
  repeat' (first
   | refine vH ?_
   | ((with_reducible refine vA hK ?_);clear hK K)
   | (with_reducible first|refine qV ?_|refine kz ?_)
   | (with_reducible first|refine jL ?_|refine yV (h:=?_))
   | (with_reducible refine x_q (h:=?_))
   | refine jr (h1:=?_)
   | (refine Ze (id:=3) (.q 0<|.q 1<|.l 2 [1,0]<|.l 3 [0]<|.l 4 []<|.l 5 []<|.done) mixed λK hK=>?_)
   | ((with_reducible refine dZ ?_);first|refine nC (h:=?_))
   | refine a_l rfl ?_|(with_reducible refine aI ?_ ?_)|exact vL|refine wj (h2:=?_)
   | fail)
  all_goals try clear fx
  refine wk (wu _) 12 [-1,7] (bs:=bs) (pos:=q+1) hb qA (hV:=hV) (h0:=zR) (h1:=qB) (hH:=zb) (hL:=zd) (h:=?_);intro v hv
  all_goals have fx:=u4 h0 h2 hp2 hp2' h4 hp4<|h8
  repeat' (first
   | (with_reducible first|refine qV ?_|refine j6 ?_|refine kz ?_)
   | refine aM ?_
   | (with_reducible first|refine jL ?_|refine zL (h:=?_)|refine jA (h:=?_))
   | ((with_reducible refine u7 hK ?_);clear hK K)
   | refine a_l rfl ?_|(with_reducible refine aI ?_ ?_)|exact vL|refine wj (h2:=?_)
   | fail)
  all_goals try clear fx
  refine qD [(.c (.s 4) 0 0,root)] (.one rfl) wJ ⟨p,v,q+1+1,qB,⟨?_,λj r hj=>?_,λj r hj=>?_⟩,hs,hpl,qA,qB⟩
  .simp [ho1,hr0,zA (n:=.c (.s 4) 0 0) (m:=root) (f:=jc (Nm.under (.u 1 0 0)) [(.c (.s 4) 0 0,root)]) (p:=p) ki]
  .simp [ho2 j r hj,hr0]
  .simp [ho3 j r hj,hr0]
 .skip
  all_goals have fx:=bA h0 h2 hp2 hp2' h4 hp4 h8 hx0<|hwl
  repeat' (first
   | refine vH ?_|refine yH ?_
   | ((with_reducible refine vA hK ?_);clear hK K)
   | (with_reducible first|refine qV ?_)
   | (with_reducible first|refine jL ?_)
   | (with_reducible refine x_q (h:=?_))
   | refine yF (h1:=?_)
   | (refine Ze (id:=4) (.q 0<|.q 1<|.q 2<|.q 3<|.q 4<|.q 5<|.q 6<|.q 7<|.q 8<|.q 9<|.l 10 [5,4,3,2,1,0]<|.l 11 [1,0]<|.l 12 [0]<|.l 13 []<|.l 14 []<|.done) mixed λK hK=>?_)
   | ((with_reducible refine dZ ?_);first|refine nC (h:=?_))
   | refine a_l rfl ?_
   | fail)
  all_goals try clear fx
  refine iV (hs:=zb) (ha:=ii) (hF:=vU _ _ bs (q+1) p.length hb qA qA zb) (h:=?_);rintro y py ⟨hy,rfl⟩
  all_goals have fx:=bA h0 h2 hp2 hp2' h4 hp4 h8 hx0<|hwl
  repeat' (first
   | (with_reducible first|refine kz ?_)
   | (with_reducible first|refine jL ?_|refine yV (h:=?_))
   | refine a_l rfl ?_|(with_reducible refine aI ?_ ?_)|exact vL|refine wj (h2:=?_)
   | fail)
  all_goals try clear fx
  refine wk (wu _) 25 [((p.length - 1:Nat):Int),(y:Int)] (bs:=bs) (pos:=q+1+1) hb qA (hV:=hV) (h0:=zR) (h1:=qB) (hH:=qB) (hL:=zd) (h:=?_);intro v hv
  all_goals have fx:=bA h0 h2 hp2 hp2' h4 hp4 h8 hx0<|hwl
  repeat' (first
   | (with_reducible first|refine qV ?_|refine kz ?_)
   | refine aM ?_
   | (with_reducible first|refine jL ?_|refine zL (h:=?_)|refine jA (h:=?_))
   | ((with_reducible refine u7 hK ?_);clear hK K)
   | refine a_l rfl ?_|(with_reducible refine aI ?_ ?_)|exact vL|refine wj (h2:=?_)
   | fail)
  all_goals try clear fx
  refine qD [(.c (.s 4) 0 0,root)] (.one rfl) wJ ⟨p,v,q+1+1+1,qB,⟨?_,λj r hj=>?_,λj r hj=>?_⟩,hs,hpl,qA,qB⟩
  .simp [ho1,hr0,zA (n:=.c (.s 4) 0 0) (m:=root) (f:=jc (Nm.under (.u 1 0 0)) [(.c (.s 4) 0 0,root)]) (p:=p) ki]
  .simp [ho2 j r hj,hr0]
  .simp [ho3 j r hj,hr0]
theorem PM (gl) (H:Nm->Option AO) (bs:List Int) (pos:Nat) (hb:qAL bs) (hpos:pos<=400000) (hH:H (.u 1 0 0)=some (rdO bs pos)) (hV:H (.u 2 0 0)=none) (hV4:H (.u 4 0 0)=none) (hV5:H (.u 5 0 0)=none) :
  Zj prog gl 120 (Nm.under (.u 1 0 0)) [.pt (.u 1 0 0) 0] H (Eo bs (pos+5000)) noE:=by
 refine Zj.Zl func120 [.cell 2 25,.tmp 3,.tmp 4] ntmps120 (λ_=>qR rfl) λC w g root hroot=>?_;have hr0:=hroot root (Nm.Z6 _)
 all_goals have fx:=Zk
 repeat' (first|refine qK ?_|refine λ(K:St->Prop) hK=>?_)
 all_goals try clear fx
 refine fI (bs:=bs) (hs:=jM) (ha:=j2) (hF:=Ka _ _ bs pos hb qA jM qB qB qB) (h:=?_);rintro z H1 ⟨p,b,q,rfl,⟨ho1,ho2,ho3⟩,hs,hpl,hq,hU⟩;refine⟨q,hU,?_⟩
 all_goals have fx:= ho1
 repeat' (first
  | refine vH ?_
  | ((with_reducible refine vA hK ?_);clear hK K)
  | (with_reducible first|refine kz ?_)
  | (with_reducible first|refine jL ?_|refine zL (h:=?_)|refine u5 (h:=?_)|refine jA (h:=?_)|refine yV (h:=?_))
  | (with_reducible refine x_q (h:=?_))
  | (refine Ze (id:=2) (.q 0<|.q 1<|.q 2<|.l 3 [2,1,0]<|.l 4 [1,0]<|.l 5 [1]<|.l 6 []<|.l 7 []<|.done) mixed λK hK=>?_)
  | ((with_reducible refine dZ ?_);first|refine nC (h:=?_))
  | refine a_l rfl ?_|(with_reducible refine aI ?_ ?_)|exact vL|refine wj (h2:=?_)
  | fail)
 all_goals try clear fx
 refine wk (wu _) 15 [0,1,2,3,4,5,6,7,0,1,8,-1] (bs:=bs) (pos:=q) hb qA (hV:=hV) (h0:=qB) (h1:=qB) (hH:=qB) (hL:=zd) (h:=?_);intro x hx;have h2:True:=trivial
 all_goals have fx:= ho1
 repeat' (first
  | (with_reducible first|refine qV ?_|refine kz ?_)
  | refine aM ?_
  | (with_reducible first|refine jL ?_|refine zL (h:=?_)|refine jA (h:=?_))
  | ((with_reducible refine u7 hK ?_);clear hK K)
  | refine a_l rfl ?_|(with_reducible refine aI ?_ ?_)|exact vL|refine wj (h2:=?_)
  | fail)
 all_goals try clear fx
 refine qD [(.c (.s 5) 0 0,root)] (.one rfl) wJ ⟨p,b,x,q+1,qB,⟨?_,λj r hj=>?_,λj r hj=>?_⟩,hs,hpl,qA,qB⟩
 .simp [ho1,hr0,zA (n:=.c (.s 5) 0 0) (m:=root) (f:=jc (Nm.under (.u 1 0 0)) [(.c (.s 5) 0 0,root)]) (p:=p) ki]
 .simp [ho2 j r hj,hr0]
 .simp [ho3 j r hj,hr0]
theorem LK (gl) (H:Nm->Option AO) (bs:List Int) (pos:Nat) (hb:qAL bs) (hpos:pos<=300000) (hH:H (.u 1 0 0)=some (rdO bs pos)) (hV:H (.u 2 0 0)=none) (hV4:H (.u 4 0 0)=none) (hV5:H (.u 5 0 0)=none) :
  Zj prog gl 69 (Nm.under (.u 1 0 0)) [.pt (.u 1 0 0) 0] H (Eo bs (pos+6000)) noE:=by
 refine Zj.Zl func69 [.cell 2 25,.tmp 3,.tmp 4] ntmps69 (λ_=>qR rfl) λC w g root hroot=>?_;have hr0:=hroot root (Nm.Z6 _)
 all_goals have fx:=Zk
 repeat' (first|refine qK ?_|refine λ(K:St->Prop) hK=>?_)
 all_goals try clear fx
 refine fI (bs:=bs) (hs:=jM) (ha:=j2) (hF:=PM _ _ bs pos hb qA jM qB qB qB) (h:=?_);rintro z H1 ⟨p,b,x,q,rfl,⟨ho1,ho2,ho3⟩,hs,hpl,hq,hU⟩;refine⟨q,hU,?_⟩
 all_goals have fx:= ho1
 repeat' (first|refine qK ?_|refine λ(K:St->Prop) hK=>?_)
 all_goals try clear fx
 refine uJ (λst=>st.tm 0=.pt (.u 1 0 0) 0/\st.hp (.u 1 0 0)=some (rdO bs q)/\st.tm 2=.pt (.s 2) 0/\st.hp (.s 2)=some (.row 1 [[.hs (.c (.s 2) 0 0) 4 0 0]])/\st.hp (.c (.s 2) 0 0)=some (.row 4 [])/\st.tm 5=.pt (.s 5) 0/\st.hp (.s 5)=some (.row 1 [[.hs (.c (.s 5) 0 0) 4 0 p.length]])/\qAb st.hp (.c (.s 5) 0 0) p/\st.tm 6=iv b/\st.tm 7=iv x/\st.tm 15=.agg [.hs (.c (.s 5) 0 0) 4 0 p.length])
  ⟨qB,qB,qB,qB,qB,qB,qB,⟨zp,λj r hj=>yu,λj r hj=>yv⟩,qB,qB,qB⟩ ?_
 clear ho1 ho2 ho3 hU;rintro st ⟨h0,hU,h2,hp2,hp2',h5,hp5,⟨ho1,ho2,ho3⟩,h6,h7,h15⟩;have h3r:True:=trivial;have h4r:True:=trivial;have hwl:IntKind.i64.wrap ((p.length:Int) - 1)=(p.length:Int) - 1:=Zv qA qA
 cases hv:jF p
 .skip
  all_goals have fx:=aJ h0 h2 hp2 hp2' h5 hp5 h6 h7 h15<|hv
  repeat' (first|refine qK ?_|refine λ(K:St->Prop) hK=>?_|refine qJ (hB:=oA) (hF:=qr _ p hs) (h:=?_))
  all_goals try clear fx
  refine qD [(.c (.s 5) 0 0,root)] (.one rfl) tp ⟨p,b,x,q,qB,⟨?_,λj r hj=>?_,λj r hj=>?_⟩,hs,hpl,qA,zb⟩
  .simp [ho1,hr0,zA (n:=.c (.s 5) 0 0) (m:=root) (f:=jc (Nm.under (.u 1 0 0)) [(.c (.s 5) 0 0,root)]) (p:=p) ki]
  .simp [ho2 j r hj,hr0]
  .simp [ho3 j r hj,hr0]
 cases hin:(decide (0<=b)&&decide (b<=(p.length:Int) - 1))
 .skip
  all_goals have fx:=jJ h0 h2 hp2 hp2' h5 hp5 h6 h7 h15 hv<|aI hwl<|hin
  repeat' (first|refine qK ?_|refine λ(K:St->Prop) hK=>?_|refine qJ (hB:=oA) (hF:=qr _ p hs) (h:=?_)|refine qJ (hB:=oA) (hF:=jH _ _ _ _) (h:=?_))
  all_goals try clear fx
  refine qD [(.c (.s 5) 0 0,root)] (.one rfl) tp ⟨p,b,x,q,qB,⟨?_,λj r hj=>?_,λj r hj=>?_⟩,hs,hpl,qA,zb⟩
  .simp [ho1,hr0,zA (n:=.c (.s 5) 0 0) (m:=root) (f:=jc (Nm.under (.u 1 0 0)) [(.c (.s 5) 0 0,root)]) (p:=p) ki]
  .simp [ho2 j r hj,hr0]
  .simp [ho3 j r hj,hr0]
 obtain⟨hb0,hb1⟩:0<=b/\b<=(p.length:Int) - 1:=by simpa using hin
 obtain⟨B,rfl⟩:∃ B:Nat,b=B:=⟨b.toNat,qA⟩;obtain⟨k,hk⟩:∃ k,p[B]?=some k:=⟨_,gE qA⟩;have hul:k.us.length<=8:=k.qBH
 all_goals have fx:=qU h0 h2 hp2 hp2' h5 hp5 h6 h7 h15 hv hwl hin<|hb1
 repeat' (first|refine qK ?_|refine λ(K:St->Prop) hK=>?_|refine qJ (hB:=oA) (hF:=qr _ p hs) (h:=?_)|refine qJ (hB:=oA) (hF:=jH _ _ _ _) (h:=?_))
 all_goals try clear fx
 refine iV (hs:=zb) (ha:=ii) (hF:=vU _ _ bs q 6 hb qA qA zb) (h:=?_);rintro y py ⟨hy,rfl⟩;have hyc:y=0\/0<y:=qA;rcases hyc with rfl|hy0
 .skip
  all_goals have fx:=bA h0 h2 hp2 hp2' h5 hp5 h6 h7<|h15
  repeat' (first|refine qK ?_|refine λ(K:St->Prop) hK=>?_)
  all_goals try clear fx
  refine qD [(.c (.s 5) 0 0,root)] (.one rfl) tp ⟨p,B,x,q+1,qB,⟨?_,λj r hj=>?_,λj r hj=>?_⟩,hs,hpl,qA,qB⟩
  .simp [ho1,hr0,zA (n:=.c (.s 5) 0 0) (m:=root) (f:=jc (Nm.under (.u 1 0 0)) [(.c (.s 5) 0 0,root)]) (p:=p) ki]
  .simp [ho2 j r hj,hr0]
  .simp [ho3 j r hj,hr0]
 all_goals have fx:=aJ h0 h2 hp2 hp2' h5 hp5 h6 h7 h15<|hy0
 repeat' (first|refine qK ?_|refine λ(K:St->Prop) hK=>?_|refine jP (hB:=oA) (hF:=db _ p B k hk (hs.bsm hk)) (h:=?_))
 all_goals try clear fx
 have huc:k.us.length=0\/0<k.us.length:=qA;rcases huc with hu0|hu0
 .skip
  all_goals have fx:=aJ h0 h2 hp2 hp2' h5 hp5 h6 h7 h15<|hu0
  repeat' (first|refine qK ?_|refine λ(K:St->Prop) hK=>?_)
  all_goals try clear fx
  refine qD [(.c (.s 5) 0 0,root)] (.one rfl) tp ⟨p,B,x,q+1,qB,⟨?_,λj r hj=>?_,λj r hj=>?_⟩,hs,hpl,qA,qB⟩
  .simp [ho1,hr0,zA (n:=.c (.s 5) 0 0) (m:=root) (f:=jc (Nm.under (.u 1 0 0)) [(.c (.s 5) 0 0,root)]) (p:=p) ki]
  .simp [ho2 j r hj,hr0]
  .simp [ho3 j r hj,hr0]
 all_goals have fx:=aJ h0 h2 hp2 hp2' h5 hp5 h6 h7 h15<|hu0
 repeat' (first|refine qK ?_|refine λ(K:St->Prop) hK=>?_)
 all_goals try clear fx
 refine iV (hs:=qB) (ha:=ii) (hF:=vU _ _ bs (q+1) k.us.length hb qA qA qB) (h:=?_);rintro z pz ⟨hz,rfl⟩;have hzl:z<k.us.length:=qA;obtain⟨v,hv⟩:=gX hzl;obtain⟨_,hvE⟩:=gS hv
 all_goals have fx:=jJ h0 h2 hp2 hp2' h5 hp5 h6 h7 h15 hzl<|aI hv<|hvE
 repeat' (first|refine qK ?_|refine λ(K:St->Prop) hK=>?_)
 all_goals try clear fx
 refine qD [(.c (.s 5) 0 0,root)] (.one rfl) tp ⟨p,B,v,q+1+1,qB,⟨?_,λj r hj=>?_,λj r hj=>?_⟩,hs,hpl,qA,qB⟩
 .simp [ho1,hr0,zA (n:=.c (.s 5) 0 0) (m:=root) (f:=jc (Nm.under (.u 1 0 0)) [(.c (.s 5) 0 0,root)]) (p:=p) ki]
 .simp [ho2 j r hj,hr0]
 .simp [ho3 j r hj,hr0]
end Go.Proofs.YtdnebaieamppbaaGreatDoor
end
section
namespace Go.Proofs.YtdnebaieamppbaaGreatDoor
open Go Go.Hm Go.Proofs Tryz
attribute [local simp] mF bg
theorem bh (gl) (code:List Int) (hc:code.length<=1048576):qb prog gl 41 [bsl code] (λr z H'=>z=.pt r 0/\H' r=some (rdO (code.take 2000) 0)):=by
 refine qb.Zl func41 [.tmp 2] ntmps41 λC w g root=>?_;by_cases hl:2000<code.length
 .have hl1:(2000:Int)<code.length:=qA;have hl2:(2000:Int)<=code.length:=qA
  all_goals have fx:=aI hl1<|hl2
  repeat' (first|refine qK ?_|refine λ(K:St->Prop) hK=>?_)
  all_goals try clear fx
  refine qD [(.s 2,root)] (.one rfl) qE ⟨qB,qB⟩
 .have ht:code.take 2000=code:=b9 qA;have hl1:¬ (2000:Int)<code.length:=qA;rw [ht]
  all_goals have fx:= hl1
  repeat' (first|refine qK ?_|refine λ(K:St->Prop) hK=>?_)
  all_goals try clear fx
  refine qD [(.s 2,root)] (.one rfl) qE ⟨qB,qB⟩
structure qBK (code:List Int):Prop where
 len:code.length<=1048576
 rng:∀ v∈code,0<=v/\v<=255
theorem qBK.bytes {code:List Int} (h:qBK code):qAL (code.take 2000):=⟨qc,λv hv=>h.rng v (Ki hv)⟩
theorem xL (gl) (code:List Int) (hc:qBK code):qb prog gl 35 [bsl code] (λr z H'=>∃ (p:Z0) (b x y:Int),z=.tup [.agg [.hs r 4 0 p.length],iv b,iv x,iv y]/\qAb H' r p/\Sml p):=by
 have hb:=hc.bytes;refine qb.Zl func35 [.cell 2 25,.tmp 3,.tmp 4,.tmp 5] ntmps35 λC w g root=>?_
 all_goals have fx:=Zk
 repeat' (first|refine qK ?_|refine λ(K:St->Prop) hK=>?_)
 all_goals try clear fx
 refine LF (ha:=qB) (hF:=bh _ code hc.len) (h:=?_);rintro z H1 ⟨rfl,hR⟩
 all_goals have fx:= hR
 repeat' (first|refine qK ?_|refine λ(K:St->Prop) hK=>?_)
 all_goals try clear fx
 refine pI (.s 6) (.u 1 0 0) (.inl rfl) (.inr rfl) ?_;refine fI (bs:=code.take 2000) (hs:=eK) (ha:=j2) (hF:=LK _ _ (code.take 2000) 0 hb qA eK qB qB qB) (h:=?_);rintro z H2 ⟨p,b,x,q,rfl,⟨ho1,ho2,ho3⟩,hs,hpl,hq,hU⟩;refine⟨q,hU,?_⟩
 all_goals have fx:= ho1
 repeat' (first
  | refine vH ?_
  | ((with_reducible refine vA hK ?_);clear hK K)
  | (with_reducible first|refine kz ?_)
  | (with_reducible first|refine jL ?_|refine zL (h:=?_)|refine u5 (h:=?_)|refine jA (h:=?_)|refine yV (h:=?_))
  | (with_reducible refine x_q (h:=?_))
  | (refine Ze (id:=3) (.q 0<|.q 1<|.q 2<|.q 3<|.q 4<|.l 5 [3,2,1,0]<|.l 6 [2,1,0]<|.l 7 [2,1]<|.l 8 [2]<|.l 9 []<|.l 10 []<|.done) mixed λK hK=>?_)
  | ((with_reducible refine dZ ?_);first|refine nC (h:=?_))
  | refine a_l rfl ?_|(with_reducible refine aI ?_ ?_)|exact vL|refine wj (h2:=?_)
  | fail)
 all_goals try clear fx
 refine wk (wu _) 23 [3,6,7,2,x,8,6] (bs:=code.take 2000) (pos:=q) hb qA (hV:=rfl) (h0:=qB) (h1:=qB) (hH:=qB) (hL:=zd) (h:=?_);intro y hy
 all_goals have fx:= ho1
 repeat' (first
  | (with_reducible first|refine qV ?_|refine kz ?_)
  | refine aM ?_
  | (with_reducible first|refine jL ?_|refine zL (h:=?_)|refine jA (h:=?_))
  | ((with_reducible refine u7 hK ?_);clear hK K)
  | refine a_l rfl ?_|(with_reducible refine aI ?_ ?_)|exact vL|refine wj (h2:=?_)
  | fail)
 all_goals try clear fx
 refine qD [(.c (.s 7) 0 0,root)] (.one rfl) qE ⟨p,b,x,y,qB,⟨?_,λj r hj=>?_,λj r hj=>?_⟩,hs⟩
 .simp [ho1,zA (n:=.c (.s 7) 0 0) (m:=root) (f:=jc noD [(.c (.s 7) 0 0,root)]) (p:=p) qB]
 .simp [ho2 j r hj]
 .simp [ho3 j r hj]
end Go.Proofs.YtdnebaieamppbaaGreatDoor
end
