import Derived.Test.YtdnebaieamppbaaGreatDoorF47
set_option linter.unusedSimpArgs false
set_option linter.unusedVariables false
set_option maxRecDepth 100000
set_option maxHeartbeats 4000000

section
namespace Go.Proofs.YtdnebaieamppbaaGreatDoor
open Go Go.Hm Go.Proofs Tryz
abbrev XJ:Y8:=.q 0<|.q 1<|.q 2<|.q 3<|.q 4<|.l 5 [3,2,1,0]<|.l 6 [2,1,0]<|.q 7<|.q 8<|.l 9 []<|.done
abbrev XI:Y8:=gV<|.q 12<|.l 10 [12,9,8,7,6,5,4,3,2,1,0]<|.l 11 [12,8,7,6,5,4,3,2,1,0]<|.q 13<|.l 14 [8,7,6,5,4,3,2,1,0]<|.l 15 [3,2,1,0]<|.q 16<|.q 17<|.l 18 []<|.done
abbrev XH:Y8:=gV<|.l 10 [9,8,7,6,5,4,3,2,1,0]<|.l 11 [8,7,6,5,4,3,2,1,0]<|.q 12<|.l 13 [8,7,6,5,4,3,2,1,0]<|.l 14 [3,2,1,0]<|.q 15<|.q 16<|.l 17 []<|.done
abbrev XG:Y8:=CN<|.l 4 [3,2,1,0]<|.l 5 [2,1,0]<|.l 6 [2,1,0]<|.q 7<|.q 8<|.l 9 []<|.done
theorem jy {A G G2:Prop} (k:G2) (x:A) (h:A->Yr G2->G:=by
 intro fx kk;refine qI ?_
 repeat ((first|refine Y7 (id:=7) XJ mixed ?_|refine Y7 (id:=9) XI mixed ?_|refine Y7 (id:=11) XH mixed ?_|refine Y7 (id:=13) XG mixed ?_);refine qW ?_;refine qI ?_)
 exact kk.h):G:=h x ⟨k⟩
theorem BR (gl) (H:Nm->Option AO) (bs:List Int) (pos:Nat) (hb:ZL bs) (hpos:pos<=600000) (hH:H (.u 1 0 0)=some (Zo bs pos)) (hV:H (.u 2 0 0)=none) (hV4:H (.u 4 0 0)=none) (hV5:H (.u 5 0 0)=none) :
  Yc prog gl 65 (Nm.under (.u 1 0 0)) [.pt (.u 1 0 0) 0] H (G5 bs (λp pos'=>Zm p/\(1<=p.length/\p.length<=8)/\pos'<=pos+3000)) Yz:=by
 refine Yc.Yb func65 [.cell 2 25] ntmps65 (λ_=>qZ rfl) λC w g root hroot=>?_;have hr0:=hroot root (Nm.Y0 _);refine jy ?_<|Ya
 first|show qO _ _ _ _ _|intro K hK
 refine oK (bs:=bs) (hs:=jU) (ha:=yK) (hF:=s9 _ _ bs pos hb qA jU qB qB qB) (h:=?_);rintro z H1 ⟨p,q,rfl,⟨ho1,ho2,ho3⟩,⟨hg,hq⟩,hU⟩;refine⟨q,hU,?_⟩;have hgl:=hg.len;have hs:=hg.sml;refine jy ?_<| ho1
 first|show qO _ _ _ _ _|intro K hK
 refine l7 (hs:=qB) (ha:=yK) (hF:=un _ _ bs q p.length hb qA qA qB) (h:=?_);rintro x px ⟨hx,rfl⟩;have hxl:x<p.length:=qA;refine jy ?_<|Ya
 first|show qO _ _ _ _ _|intro K hK
 refine l7 (hs:=qB) (ha:=yK) (hF:=un _ _ bs (q+1) 24 hb qA qA qB) (h:=?_);rintro y py ⟨hy,rfl⟩;have hy24:y<24:=qA
 refine Ol (λst=>st.tm 0=.pt (.u 1 0 0) 0/\st.hp (.u 1 0 0)=some (Zo bs (q+1+1))/\st.tm 2=.pt (.s 2) 0/\st.hp (.s 2)=some (.row 1 [[.hs (.c (.s 2) 0 0) 4 0 0]])/\st.hp (.c (.s 2) 0 0)=some (.row 4 [])/\st.tm 3=.pt (.s 3) 0/\st.hp (.s 3)=some (.row 1 [[.hs (.c (.s 3) 0 0) 4 0 p.length]])/\Z3 st.hp (.c (.s 3) 0 0) p/\st.tm 4=iv x/\st.tm 13=iv y)
  ⟨qB,qB,qB,qB,qB,qB,qB,⟨vE,λj r hj=>uP,λj r hj=>uO⟩,qB,qB⟩ ?_
 clear ho1 ho2 ho3 hU;rintro st ⟨h0,hU,h2,hp2,hp2',h3,hp3,⟨ho1,ho2,ho3⟩,h4,h13⟩;obtain⟨k,hk⟩:=gX hxl;obtain⟨_,hkE⟩:=gS hk;have hkp:=hg.params k (gM hk);have hkb:=hg.body k (gM hk);have hob:=ho3 x k hk;have hyc:y=0\/y=1\/y=2\/y=3\/y=4\/5<=y:=qA;clear hy hx;rcases hyc with rfl|rfl|rfl|rfl|rfl|hy5
 .skip
  refine jy ?_<|aI h0<|h13
  first|show qO _ _ _ _ _|intro K hK
  refine oK (bs:=bs) (hs:=zo) (ha:=iG) (hF:=dA _ _ bs (q+1+1) hb qA zo qB qB qB) (h:=?_);rintro z H2 ⟨p2,q2,rfl,⟨hc1,hc2,hc3⟩,⟨hg2,hq2⟩,hU2⟩;refine⟨q2,hU2,?_⟩;refine jy ?_<|j4 h2 hp2 hp2'<|hc1;refine qE [(.c (.s 2) 0 0,root)] (.one rfl) aR ⟨p2,q2,qB,⟨?_,λj r hj=>?_,λj r hj=>?_⟩,⟨hg2.sml,hg2.len,qA⟩,qB⟩
  .simp [hc1,hr0,zW (n:=.c (.s 2) 0 0) (m:=root) (f:=jY (Nm.under (.u 1 0 0)) [(.c (.s 2) 0 0,root)]) (p:=p2) eP]
  .simp [hc2 j r hj,hr0]
  .simp [hc3 j r hj,hr0]
 .skip
  refine jy ?_<|gJ h0 h13 h3 hp3 h4 ho1 hxl hk hkE<|hob
  first|show qO _ _ _ _ _|intro K hK
  refine bG (bN _) 25 [-2,(x:Int),7] (bs:=bs) (pos:=q+1+1) hb qA (hV:=hV) (h0:=qu) (h1:=qB) (hH:=zo) (hL:=zU) (h:=?_);intro v hv;have yF:=C9 (n:=.c (.s 3) 0 0) (v:=v) hk;refine jy ?_<|qQ h0 h13 h3 hp3 h4 ho1 hxl hk hkE hob yF h2<|aI hp2<|hp2';refine qE [(.c (.s 3) 0 0,root)] (.one rfl) aR ⟨p.set x { k with parent:=v },q+1+1+1,qB,⟨?_,λj r hj=>?_,λj r hj=>?_⟩,⟨hs.set (by show k.params.length<=_;omega) (by show k.body.length<=_;omega),qv,qA⟩,qB⟩
  .simp [yF,hr0,zW (n:=.c (.s 3) 0 0) (m:=root) (f:=jY (Nm.under (.u 1 0 0)) [(.c (.s 3) 0 0,root)]) (p:=p.set x { k with parent:=v }) eP]
  all_goals
   rw [bT] at hj;by_cases e:x=j
   .subst e;rw [if_pos rfl,if_pos hxl] at hj;obtain rfl:=sI hj;simp [ho2 x k hk,ho3 x k hk,hr0]
   .rw [if_neg e] at hj;simp [ho2 j r hj,ho3 j r hj,hr0,e,show ¬ j=x from λh=>e h.symm]
 .skip
  refine jy ?_<|gJ h0 h13 h3 hp3 h4 ho1 hxl hk hkE<|hob
  first|show qO _ _ _ _ _|intro K hK
  refine bG (bN _) 41 [-1,12,3] (bs:=bs) (pos:=q+1+1) hb qA (hV:=hV) (h0:=qu) (h1:=qB) (hH:=zo) (hL:=zU) (h:=?_);intro v hv;have yF:=dn (n:=.c (.s 3) 0 0) (a:=46) (i:=x) (len:=k.body.length+1) (p:=p) (L:=k.body++[⟨v,0,x,0⟩]) qB qB qB;refine jy ?_<|qQ h0 h13 h3 hp3 h4 ho1 hxl hk hkE hob yF h2<|aI hp2<|hp2';refine qE [(.c (.s 3) 0 0,root)] (.one rfl) aR ⟨setBody p x (k.body++[⟨v,0,x,0⟩]),q+1+1+1,qB,⟨?_,λj r hj=>?_,λj r hj=>?_⟩,⟨oZ hs qv,qv,qA⟩,qB⟩
  .simp [yF,hr0,zW (n:=.c (.s 3) 0 0) (m:=root) (f:=jY (Nm.under (.u 1 0 0)) [(.c (.s 3) 0 0,root)]) (p:=setBody p x (k.body++[⟨v,0,x,0⟩])) eP]
  all_goals
   have hjl:j<p.length:=by
    have:=(gS hj).1
    rwa [u4] at this
   obtain⟨r0,hr0'⟩:∃ r0,p[j]?=some r0:=⟨_,gE hjl⟩;rw [kX hr0'] at hj;obtain rfl:=sI hj;by_cases e:x=j
   .subst e;rw [hk] at hr0';obtain rfl:=sI hr0';simp [ho2 x k hk,hob,hr0]
   .simp [ho2 j r0 hr0',ho3 j r0 hr0',hr0,e,show ¬ j=x from λh=>e h.symm]
 .skip
  refine jy ?_<|gJ h0 h13 h3 hp3 h4 ho1 hxl hk hkE<|hob
  first|show qO _ _ _ _ _|intro K hK
  refine bG (bN _) 61 [8,-1] (bs:=bs) (pos:=q+1+1) hb qA (hV:=hV) (h0:=qu) (h1:=qB) (hH:=zo) (hL:=zU) (h:=?_);intro v hv;have yF:=dn (n:=.c (.s 3) 0 0) (a:=65) (i:=x) (len:=k.body.length+1) (p:=p) (L:=k.body++[⟨1,v,0,0⟩]) qB qB qB;refine jy ?_<|qQ h0 h13 h3 hp3 h4 ho1 hxl hk hkE hob yF h2<|aI hp2<|hp2';refine qE [(.c (.s 3) 0 0,root)] (.one rfl) aR ⟨setBody p x (k.body++[⟨1,v,0,0⟩]),q+1+1+1,qB,⟨?_,λj r hj=>?_,λj r hj=>?_⟩,⟨oZ hs qv,qv,qA⟩,qB⟩
  .simp [yF,hr0,zW (n:=.c (.s 3) 0 0) (m:=root) (f:=jY (Nm.under (.u 1 0 0)) [(.c (.s 3) 0 0,root)]) (p:=setBody p x (k.body++[⟨1,v,0,0⟩])) eP]
  all_goals
   have hjl:j<p.length:=by
    have:=(gS hj).1
    rwa [u4] at this
   obtain⟨r0,hr0'⟩:∃ r0,p[j]?=some r0:=⟨_,gE hjl⟩;rw [kX hr0'] at hj;obtain rfl:=sI hj;by_cases e:x=j
   .subst e;rw [hk] at hr0';obtain rfl:=sI hr0';simp [ho2 x k hk,hob,hr0]
   .simp [ho2 j r0 hr0',ho3 j r0 hr0',hr0,e,show ¬ j=x from λh=>e h.symm]
 .skip
  refine jy ?_<|gJ h0 h13 h3 hp3 h4 ho1 hxl hk hkE<|hob
  first|show qO _ _ _ _ _|intro K hK
  refine bG (bN _) 74 [8,1] (bs:=bs) (pos:=q+1+1) hb qA (hV:=hV) (h0:=qu) (h1:=qB) (hH:=zo) (hL:=zU) (h:=?_);intro v hv;have yF:=ou (n:=.c (.s 3) 0 0) (a:=76) (len:=2) (L:=[v,2]) hk rfl qB qB;refine jy ?_<|qQ h0 h13 h3 hp3 h4 ho1 hxl hk hkE hob yF h2<|aI hp2<|hp2';refine qE [(.c (.s 3) 0 0,root)] (.one rfl) aR ⟨p.set x { k with params:=[v,2] },q+1+1+1,qB,⟨?_,λj r hj=>?_,λj r hj=>?_⟩,⟨hs.set (by show ([v,2]:List Int).length<=_;simp) (by show k.body.length<=_;omega),qv,qA⟩,qB⟩
  .simp [yF,hr0,zW (n:=.c (.s 3) 0 0) (m:=root) (f:=jY (Nm.under (.u 1 0 0)) [(.c (.s 3) 0 0,root)]) (p:=p.set x { k with params:=[v,2] }) eP]
  all_goals
   rw [bT] at hj;by_cases e:x=j
   .subst e;rw [if_pos rfl,if_pos hxl] at hj;obtain rfl:=sI hj;simp [ho3 x k hk,qS,hr0]
   .rw [if_neg e] at hj;simp [ho2 j r hj,ho3 j r hj,hr0,e,show ¬ j=x from λh=>e h.symm]
 .have hy0:¬ y=0:=qA;have hy1:¬ y=1:=qA;have hy2:¬ y=2:=qA;have hy3:¬ y=3:=qA;have hy4:¬ y=4:=qA;have e0:((y:Int)==0)=false:=yY;have e1:((y:Int)==1)=false:=yY;have e2:((y:Int)==2)=false:=yY;have e3:((y:Int)==3)=false:=yY;have e4:((y:Int)==4)=false:=yY;refine jy ?_<|jP h2 hp2 hp2' h3 hp3 h13 hy0 e1 e2 e3<|e4;refine qE [(.c (.s 3) 0 0,root)] (.one rfl) aR ⟨p,q+1+1,qB,⟨?_,λj r hj=>?_,λj r hj=>?_⟩,⟨hs,hgl,qA⟩,zo⟩
  .simp [ho1,hr0,zW (n:=.c (.s 3) 0 0) (m:=root) (f:=jY (Nm.under (.u 1 0 0)) [(.c (.s 3) 0 0,root)]) (p:=p) eP]
  .simp [ho2 j r hj,hr0]
  .simp [ho3 j r hj,hr0]
end Go.Proofs.YtdnebaieamppbaaGreatDoor
end
section

end
section
namespace Go.Proofs.YtdnebaieamppbaaGreatDoor
open Go Go.Hm Go.Proofs Tryz
attribute [local simp] sY ft
theorem Cg (gl) (code:List Int) (hc:code.length<=1048576):qX prog gl 41 [bsl code] (λr z H'=>z=.pt r 0/\H' r=some (Zo (code.take 2000) 0)):=by
 refine qX.Yb func41 [.tmp 2] ntmps41 λC w g root=>?_;by_cases hl:2000<code.length
 .have hl1:(2000:Int)<code.length:=qA;have hl2:(2000:Int)<=code.length:=qA
  all_goals have fx:=aI hl1<|hl2
  repeat' (first|refine qK ?_|refine λ(K:St->Prop) hK=>?_)
  all_goals try clear fx
  refine qE [(.s 2,root)] (.one rfl) qF ⟨qB,qB⟩
 .have ht:code.take 2000=code:=bC qA;have hl1:¬ (2000:Int)<code.length:=qA;rw [ht]
  all_goals have fx:= hl1
  repeat' (first|refine qK ?_|refine λ(K:St->Prop) hK=>?_)
  all_goals try clear fx
  refine qE [(.s 2,root)] (.one rfl) qF ⟨qB,qB⟩
structure qBI (code:List Int):Prop where
 len:code.length<=1048576
 rng:∀ v∈code,0<=v/\v<=255
theorem qBI.bytes {code:List Int} (h:qBI code):ZL (code.take 2000):=⟨qv,λv hv=>h.rng v (G0 hv)⟩
end Go.Proofs.YtdnebaieamppbaaGreatDoor
end
section

end
