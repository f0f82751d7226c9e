import Derived.Test.YtdnebaieamppbaaGreatDoorE24
import Derived.Test.YtdnebaieamppbaaGreatDoorE32
set_option linter.unusedSimpArgs false
set_option linter.unusedVariables false
set_option maxRecDepth 100000
set_option maxHeartbeats 4000000

section
namespace Go.Proofs.YtdnebaieamppbaaGreatDoor
open Go Go.Hm Go.Proofs Tryz
abbrev Jn:Zh:=Hw<|.done
def chg (s:Z9) (j:Nat) (x y:Int):Z9:=match j with
 | 1=>⟨s.kind,jC s.to x y,s.a,s.b⟩
 | 2=>⟨s.kind,s.to,jC s.a x y,s.b⟩
 | _=>⟨s.kind,s.to,s.a,jC s.b x y⟩
theorem za (gl) (H:Nm->Option AO) (n to a b x y:Int) (j:Nat) (hj:j=1\/j=2\/j=3) (hH:H (.u 1 0 0)=some (.row 4 [[iv n,iv to,iv a,iv b]])) :
  Zj prog gl 128 (Nm.under (.u 1 0 0)) [.pt (.u 1 0 0) j,.el [iv x] 0,.el [iv y] 0] H (λ_ z H'=>H' (.u 1 0 0)=some (.row 4 [(chg ⟨n,to,a,b⟩ j x y).cells])) noE:=by
 refine Zj.Zl func128 [] ntmps128 (λ_=>qR rfl) λC w g root hroot=>?_;rcases hj with rfl|rfl|rfl
 .cases hx:(to==x)
  .have hne:¬ to=x:=la
   all_goals have fx:=aI hH<|hx
   repeat' (first
    | refine vH ?_|refine yH ?_
    | (with_reducible first|refine qV ?_)
    | refine yF (h1:=?_)
    | (refine Ze (id:=0) Jn mixed λK hK=>?_)
    | ((with_reducible refine u7 hK ?_);clear hK K)
    | ((with_reducible refine dZ ?_);first|refine nC (h:=?_))
    | fail)
   all_goals try clear fx
   refine zy [] .nil rfl ?_;simp [chg,jC,hne,hH,Z9.cells]
  .have he:to=x:=la
   all_goals have fx:=aI hH<|hx
   repeat' (first
    | refine vH ?_|refine kL λK hK=>?_
    | ((with_reducible refine vA hK ?_);clear hK K)
    | (with_reducible first|refine qV ?_)
    | (with_reducible first|refine jL ?_|refine jA (h:=?_))
    | (with_reducible refine x_q (h:=?_))
    | refine jr (h1:=?_)
    | (refine Ze (id:=0) Jn mixed λK hK=>?_)
    | ((with_reducible refine u7 hK ?_);clear hK K)
    | ((with_reducible refine dZ ?_);first|refine nC (h:=?_))
    | fail)
   all_goals try clear fx
   refine zy [] .nil rfl ?_;simp [chg,jC,he,hH,Z9.cells]
 .cases hx:(a==x)
  .have hne:¬ a=x:=la
   all_goals have fx:=aI hH<|hx
   repeat' (first
    | refine vH ?_|refine yH ?_
    | (with_reducible first|refine qV ?_)
    | refine yF (h1:=?_)
    | (refine Ze (id:=0) Jn mixed λK hK=>?_)
    | ((with_reducible refine u7 hK ?_);clear hK K)
    | ((with_reducible refine dZ ?_);first|refine nC (h:=?_))
    | fail)
   all_goals try clear fx
   refine zy [] .nil rfl ?_;simp [chg,jC,hne,hH,Z9.cells]
  .have he:a=x:=la
   all_goals have fx:=aI hH<|hx
   repeat' (first
    | refine vH ?_|refine kL λK hK=>?_
    | ((with_reducible refine vA hK ?_);clear hK K)
    | (with_reducible first|refine qV ?_)
    | (with_reducible first|refine jL ?_|refine jA (h:=?_))
    | (with_reducible refine x_q (h:=?_))
    | refine jr (h1:=?_)
    | (refine Ze (id:=0) Jn mixed λK hK=>?_)
    | ((with_reducible refine u7 hK ?_);clear hK K)
    | ((with_reducible refine dZ ?_);first|refine nC (h:=?_))
    | fail)
   all_goals try clear fx
   refine zy [] .nil rfl ?_;simp [chg,jC,he,hH,Z9.cells]
 .cases hx:(b==x)
  .have hne:¬ b=x:=la
   all_goals have fx:=aI hH<|hx
   repeat' (first
    | refine vH ?_|refine yH ?_
    | (with_reducible first|refine qV ?_)
    | refine yF (h1:=?_)
    | (refine Ze (id:=0) Jn mixed λK hK=>?_)
    | ((with_reducible refine u7 hK ?_);clear hK K)
    | ((with_reducible refine dZ ?_);first|refine nC (h:=?_))
    | fail)
   all_goals try clear fx
   refine zy [] .nil rfl ?_;simp [chg,jC,hne,hH,Z9.cells]
  .have he:b=x:=la
   all_goals have fx:=aI hH<|hx
   repeat' (first
    | refine vH ?_|refine kL λK hK=>?_
    | ((with_reducible refine vA hK ?_);clear hK K)
    | (with_reducible first|refine qV ?_)
    | (with_reducible first|refine jL ?_|refine jA (h:=?_))
    | (with_reducible refine x_q (h:=?_))
    | refine jr (h1:=?_)
    | (refine Ze (id:=0) Jn mixed λK hK=>?_)
    | ((with_reducible refine u7 hK ?_);clear hK K)
    | ((with_reducible refine dZ ?_);first|refine nC (h:=?_))
    | fail)
   all_goals try clear fx
   refine zy [] .nil rfl ?_;simp [chg,jC,he,hH,Z9.cells]
theorem sT (gl) (s:Z9) (x y:Int) (hk:0<=s.kind/\s.kind<=11):qb prog gl 77 [s.av,iv x,iv y] (λ_ z _=>z=(s.Zn x y).av):=by
 obtain⟨n,to,a,b⟩:=s;refine qb.Zl func77 [.cell 6 138] ntmps77 λC w g root=>?_;rcases dC n with rfl|rfl|rfl|rfl|rfl|rfl|rfl|rfl|rfl|rfl|rfl|rfl|hn
 case inr.inr.inr.inr.inr.inr.inr.inr.inr.inr.inr.inr=>exact absurd hk hn
 .skip
  all_goals have fx:=Zk
  repeat' (first|refine qK ?_|refine λ(K:St->Prop) hK=>?_|refine qJ (hF:=zP _ ⟨0,to,a,b⟩) (h:=?_))
  all_goals try clear fx
  refine vg (f:=128) (.s 3) (.u 1 0 0) (hext:=rfl) (hs:=qB) (xs:=[]) (ys:=[.pt (.s 4) 0,.pt (.s 5) 0]) (avs:=[.pt (.u 1 0 0) 1,.pt (.s 4) 0,.pt (.s 5) 0]) (hv:=qB) (ha:=qB) (hB:=.cons (.refl _) (.cons (j4 qB) (.cons (j4 qB) .nil))) (hF:=za _ _ 0 to a b x y 1 qO qB) (h:=?_);rintro z H0 hy0;have hc0:=zX hy0 qB;simp only [chg,Z9.cells] at hc0;clear hy0
  all_goals have fx:= hc0
  repeat' (first|refine qK ?_|refine λ(K:St->Prop) hK=>?_)
  all_goals try clear fx
  refine qD [] .nil gN ?_;simp [Z9.Zn,Z9.av]
 .skip
  all_goals have fx:=Zk
  repeat' (first|refine qK ?_|refine λ(K:St->Prop) hK=>?_|refine qJ (hF:=zP _ ⟨1,to,a,b⟩) (h:=?_))
  all_goals try clear fx
  refine vg (f:=128) (.s 3) (.u 1 0 0) (hext:=rfl) (hs:=qB) (xs:=[]) (ys:=[.pt (.s 4) 0,.pt (.s 5) 0]) (avs:=[.pt (.u 1 0 0) 2,.pt (.s 4) 0,.pt (.s 5) 0]) (hv:=qB) (ha:=qB) (hB:=.cons (.refl _) (.cons (j4 qB) (.cons (j4 qB) .nil))) (hF:=za _ _ 1 to a b x y 2 qO qB) (h:=?_);rintro z H0 hy0;have hc0:=zX hy0 qB;simp only [chg,Z9.cells] at hc0;clear hy0
  all_goals have fx:= hc0
  repeat' (first|refine qK ?_|refine λ(K:St->Prop) hK=>?_)
  all_goals try clear fx
  refine vg (f:=128) (.s 3) (.u 1 0 0) (hext:=rfl) (hs:=gU) (xs:=[]) (ys:=[.pt (.s 4) 0,.pt (.s 5) 0]) (avs:=[.pt (.u 1 0 0) 1,.pt (.s 4) 0,.pt (.s 5) 0]) (hv:=qB) (ha:=qB) (hB:=.cons (.refl _) (.cons (j4 qB) (.cons (j4 qB) .nil))) (hF:=za _ _ 1 to (jC a x y) b x y 1 qO gU) (h:=?_);rintro z H1 hy1;have hc1:=zX hy1 qB;simp only [chg,Z9.cells] at hc1;clear hy1
  all_goals have fx:= hc1
  repeat' (first|refine qK ?_|refine λ(K:St->Prop) hK=>?_)
  all_goals try clear fx
  refine qD [] .nil (by simp [hc1];rfl) ?_;simp [Z9.Zn,Z9.av]
 .skip
  all_goals have fx:=Zk
  repeat' (first|refine qK ?_|refine λ(K:St->Prop) hK=>?_|refine qJ (hF:=zP _ ⟨2,to,a,b⟩) (h:=?_))
  all_goals try clear fx
  refine vg (f:=128) (.s 3) (.u 1 0 0) (hext:=rfl) (hs:=qB) (xs:=[]) (ys:=[.pt (.s 4) 0,.pt (.s 5) 0]) (avs:=[.pt (.u 1 0 0) 2,.pt (.s 4) 0,.pt (.s 5) 0]) (hv:=qB) (ha:=qB) (hB:=.cons (.refl _) (.cons (j4 qB) (.cons (j4 qB) .nil))) (hF:=za _ _ 2 to a b x y 2 qO qB) (h:=?_);rintro z H0 hy0;have hc0:=zX hy0 qB;simp only [chg,Z9.cells] at hc0;clear hy0
  all_goals have fx:= hc0
  repeat' (first|refine qK ?_|refine λ(K:St->Prop) hK=>?_)
  all_goals try clear fx
  refine vg (f:=128) (.s 3) (.u 1 0 0) (hext:=rfl) (hs:=gU) (xs:=[]) (ys:=[.pt (.s 4) 0,.pt (.s 5) 0]) (avs:=[.pt (.u 1 0 0) 3,.pt (.s 4) 0,.pt (.s 5) 0]) (hv:=qB) (ha:=qB) (hB:=.cons (.refl _) (.cons (j4 qB) (.cons (j4 qB) .nil))) (hF:=za _ _ 2 to (jC a x y) b x y 3 qO gU) (h:=?_);rintro z H1 hy1;have hc1:=zX hy1 qB;simp only [chg,Z9.cells] at hc1;clear hy1
  all_goals have fx:= hc1
  repeat' (first|refine qK ?_|refine λ(K:St->Prop) hK=>?_)
  all_goals try clear fx
  refine vg (f:=128) (.s 3) (.u 1 0 0) (hext:=rfl) (hs:=bW) (xs:=[]) (ys:=[.pt (.s 4) 0,.pt (.s 5) 0]) (avs:=[.pt (.u 1 0 0) 1,.pt (.s 4) 0,.pt (.s 5) 0]) (hv:=qB) (ha:=qB) (hB:=.cons (.refl _) (.cons (j4 qB) (.cons (j4 qB) .nil))) (hF:=za _ _ 2 to (jC a x y) (jC b x y) x y 1 qO bW) (h:=?_);rintro z H2 hy2;have hc2:=zX hy2 qB;simp only [chg,Z9.cells] at hc2;clear hy2
  all_goals have fx:= hc2
  repeat' (first|refine qK ?_|refine λ(K:St->Prop) hK=>?_)
  all_goals try clear fx
  refine qD [] .nil (by simp [hc2];rfl) ?_;simp [Z9.Zn,Z9.av]
 .skip
  all_goals have fx:=Zk
  repeat' (first|refine qK ?_|refine λ(K:St->Prop) hK=>?_|refine qJ (hF:=zP _ ⟨3,to,a,b⟩) (h:=?_))
  all_goals try clear fx
  refine vg (f:=128) (.s 3) (.u 1 0 0) (hext:=rfl) (hs:=qB) (xs:=[]) (ys:=[.pt (.s 4) 0,.pt (.s 5) 0]) (avs:=[.pt (.u 1 0 0) 1,.pt (.s 4) 0,.pt (.s 5) 0]) (hv:=qB) (ha:=qB) (hB:=.cons (.refl _) (.cons (j4 qB) (.cons (j4 qB) .nil))) (hF:=za _ _ 3 to a b x y 1 qO qB) (h:=?_);rintro z H0 hy0;have hc0:=zX hy0 qB;simp only [chg,Z9.cells] at hc0;clear hy0
  all_goals have fx:= hc0
  repeat' (first|refine qK ?_|refine λ(K:St->Prop) hK=>?_)
  all_goals try clear fx
  refine qD [] .nil gN ?_;simp [Z9.Zn,Z9.av]
 .skip
  all_goals have fx:=Zk
  repeat' (first|refine qK ?_|refine λ(K:St->Prop) hK=>?_|refine qJ (hF:=zP _ ⟨4,to,a,b⟩) (h:=?_))
  all_goals try clear fx
  refine vg (f:=128) (.s 3) (.u 1 0 0) (hext:=rfl) (hs:=qB) (xs:=[]) (ys:=[.pt (.s 4) 0,.pt (.s 5) 0]) (avs:=[.pt (.u 1 0 0) 1,.pt (.s 4) 0,.pt (.s 5) 0]) (hv:=qB) (ha:=qB) (hB:=.cons (.refl _) (.cons (j4 qB) (.cons (j4 qB) .nil))) (hF:=za _ _ 4 to a b x y 1 qO qB) (h:=?_);rintro z H0 hy0;have hc0:=zX hy0 qB;simp only [chg,Z9.cells] at hc0;clear hy0
  all_goals have fx:= hc0
  repeat' (first|refine qK ?_|refine λ(K:St->Prop) hK=>?_)
  all_goals try clear fx
  refine qD [] .nil gN ?_;simp [Z9.Zn,Z9.av]
 .skip
  all_goals have fx:=Zk
  repeat' (first|refine qK ?_|refine λ(K:St->Prop) hK=>?_|refine qJ (hF:=zP _ ⟨5,to,a,b⟩) (h:=?_))
  all_goals try clear fx
  refine vg (f:=128) (.s 3) (.u 1 0 0) (hext:=rfl) (hs:=qB) (xs:=[]) (ys:=[.pt (.s 4) 0,.pt (.s 5) 0]) (avs:=[.pt (.u 1 0 0) 2,.pt (.s 4) 0,.pt (.s 5) 0]) (hv:=qB) (ha:=qB) (hB:=.cons (.refl _) (.cons (j4 qB) (.cons (j4 qB) .nil))) (hF:=za _ _ 5 to a b x y 2 qO qB) (h:=?_);rintro z H0 hy0;have hc0:=zX hy0 qB;simp only [chg,Z9.cells] at hc0;clear hy0
  all_goals have fx:= hc0
  repeat' (first|refine qK ?_|refine λ(K:St->Prop) hK=>?_)
  all_goals try clear fx
  refine vg (f:=128) (.s 3) (.u 1 0 0) (hext:=rfl) (hs:=gU) (xs:=[]) (ys:=[.pt (.s 4) 0,.pt (.s 5) 0]) (avs:=[.pt (.u 1 0 0) 3,.pt (.s 4) 0,.pt (.s 5) 0]) (hv:=qB) (ha:=qB) (hB:=.cons (.refl _) (.cons (j4 qB) (.cons (j4 qB) .nil))) (hF:=za _ _ 5 to (jC a x y) b x y 3 qO gU) (h:=?_);rintro z H1 hy1;have hc1:=zX hy1 qB;simp only [chg,Z9.cells] at hc1;clear hy1
  all_goals have fx:= hc1
  repeat' (first|refine qK ?_|refine λ(K:St->Prop) hK=>?_)
  all_goals try clear fx
  refine vg (f:=128) (.s 3) (.u 1 0 0) (hext:=rfl) (hs:=bW) (xs:=[]) (ys:=[.pt (.s 4) 0,.pt (.s 5) 0]) (avs:=[.pt (.u 1 0 0) 1,.pt (.s 4) 0,.pt (.s 5) 0]) (hv:=qB) (ha:=qB) (hB:=.cons (.refl _) (.cons (j4 qB) (.cons (j4 qB) .nil))) (hF:=za _ _ 5 to (jC a x y) (jC b x y) x y 1 qO bW) (h:=?_);rintro z H2 hy2;have hc2:=zX hy2 qB;simp only [chg,Z9.cells] at hc2;clear hy2
  all_goals have fx:= hc2
  repeat' (first|refine qK ?_|refine λ(K:St->Prop) hK=>?_)
  all_goals try clear fx
  refine qD [] .nil (by simp [hc2];rfl) ?_;simp [Z9.Zn,Z9.av]
 .skip
  all_goals have fx:=Zk
  repeat' (first|refine qK ?_|refine λ(K:St->Prop) hK=>?_|refine qJ (hF:=zP _ ⟨6,to,a,b⟩) (h:=?_))
  all_goals try clear fx
  refine vg (f:=128) (.s 3) (.u 1 0 0) (hext:=rfl) (hs:=qB) (xs:=[]) (ys:=[.pt (.s 4) 0,.pt (.s 5) 0]) (avs:=[.pt (.u 1 0 0) 2,.pt (.s 4) 0,.pt (.s 5) 0]) (hv:=qB) (ha:=qB) (hB:=.cons (.refl _) (.cons (j4 qB) (.cons (j4 qB) .nil))) (hF:=za _ _ 6 to a b x y 2 qO qB) (h:=?_);rintro z H0 hy0;have hc0:=zX hy0 qB;simp only [chg,Z9.cells] at hc0;clear hy0
  all_goals have fx:= hc0
  repeat' (first|refine qK ?_|refine λ(K:St->Prop) hK=>?_)
  all_goals try clear fx
  refine vg (f:=128) (.s 3) (.u 1 0 0) (hext:=rfl) (hs:=gU) (xs:=[]) (ys:=[.pt (.s 4) 0,.pt (.s 5) 0]) (avs:=[.pt (.u 1 0 0) 1,.pt (.s 4) 0,.pt (.s 5) 0]) (hv:=qB) (ha:=qB) (hB:=.cons (.refl _) (.cons (j4 qB) (.cons (j4 qB) .nil))) (hF:=za _ _ 6 to (jC a x y) b x y 1 qO gU) (h:=?_);rintro z H1 hy1;have hc1:=zX hy1 qB;simp only [chg,Z9.cells] at hc1;clear hy1
  all_goals have fx:= hc1
  repeat' (first|refine qK ?_|refine λ(K:St->Prop) hK=>?_)
  all_goals try clear fx
  refine qD [] .nil (by simp [hc1];rfl) ?_;simp [Z9.Zn,Z9.av]
 .skip
  all_goals have fx:=Zk
  repeat' (first|refine qK ?_|refine λ(K:St->Prop) hK=>?_|refine qJ (hF:=zP _ ⟨7,to,a,b⟩) (h:=?_))
  all_goals try clear fx
  refine vg (f:=128) (.s 3) (.u 1 0 0) (hext:=rfl) (hs:=qB) (xs:=[]) (ys:=[.pt (.s 4) 0,.pt (.s 5) 0]) (avs:=[.pt (.u 1 0 0) 2,.pt (.s 4) 0,.pt (.s 5) 0]) (hv:=qB) (ha:=qB) (hB:=.cons (.refl _) (.cons (j4 qB) (.cons (j4 qB) .nil))) (hF:=za _ _ 7 to a b x y 2 qO qB) (h:=?_);rintro z H0 hy0;have hc0:=zX hy0 qB;simp only [chg,Z9.cells] at hc0;clear hy0
  all_goals have fx:= hc0
  repeat' (first|refine qK ?_|refine λ(K:St->Prop) hK=>?_)
  all_goals try clear fx
  refine qD [] .nil gN ?_;simp [Z9.Zn,Z9.av]
 .skip
  all_goals have fx:=Zk
  repeat' (first|refine qK ?_|refine λ(K:St->Prop) hK=>?_|refine qJ (hF:=zP _ ⟨8,to,a,b⟩) (h:=?_))
  all_goals try clear fx
  refine vg (f:=128) (.s 3) (.u 1 0 0) (hext:=rfl) (hs:=qB) (xs:=[]) (ys:=[.pt (.s 4) 0,.pt (.s 5) 0]) (avs:=[.pt (.u 1 0 0) 2,.pt (.s 4) 0,.pt (.s 5) 0]) (hv:=qB) (ha:=qB) (hB:=.cons (.refl _) (.cons (j4 qB) (.cons (j4 qB) .nil))) (hF:=za _ _ 8 to a b x y 2 qO qB) (h:=?_);rintro z H0 hy0;have hc0:=zX hy0 qB;simp only [chg,Z9.cells] at hc0;clear hy0
  all_goals have fx:= hc0
  repeat' (first|refine qK ?_|refine λ(K:St->Prop) hK=>?_)
  all_goals try clear fx
  refine qD [] .nil gN ?_;simp [Z9.Zn,Z9.av]
 .skip
  all_goals have fx:=Zk
  repeat' (first|refine qK ?_|refine λ(K:St->Prop) hK=>?_|refine qJ (hF:=zP _ ⟨9,to,a,b⟩) (h:=?_))
  all_goals try clear fx
  refine vg (f:=128) (.s 3) (.u 1 0 0) (hext:=rfl) (hs:=qB) (xs:=[]) (ys:=[.pt (.s 4) 0,.pt (.s 5) 0]) (avs:=[.pt (.u 1 0 0) 1,.pt (.s 4) 0,.pt (.s 5) 0]) (hv:=qB) (ha:=qB) (hB:=.cons (.refl _) (.cons (j4 qB) (.cons (j4 qB) .nil))) (hF:=za _ _ 9 to a b x y 1 qO qB) (h:=?_);rintro z H0 hy0;have hc0:=zX hy0 qB;simp only [chg,Z9.cells] at hc0;clear hy0
  all_goals have fx:= hc0
  repeat' (first|refine qK ?_|refine λ(K:St->Prop) hK=>?_)
  all_goals try clear fx
  refine qD [] .nil gN ?_;simp [Z9.Zn,Z9.av]
 .skip
  all_goals have fx:=Zk
  repeat' (first|refine qK ?_|refine λ(K:St->Prop) hK=>?_|refine qJ (hF:=zP _ ⟨10,to,a,b⟩) (h:=?_))
  all_goals try clear fx
  refine vg (f:=128) (.s 3) (.u 1 0 0) (hext:=rfl) (hs:=qB) (xs:=[]) (ys:=[.pt (.s 4) 0,.pt (.s 5) 0]) (avs:=[.pt (.u 1 0 0) 1,.pt (.s 4) 0,.pt (.s 5) 0]) (hv:=qB) (ha:=qB) (hB:=.cons (.refl _) (.cons (j4 qB) (.cons (j4 qB) .nil))) (hF:=za _ _ 10 to a b x y 1 qO qB) (h:=?_);rintro z H0 hy0;have hc0:=zX hy0 qB;simp only [chg,Z9.cells] at hc0;clear hy0
  all_goals have fx:= hc0
  repeat' (first|refine qK ?_|refine λ(K:St->Prop) hK=>?_)
  all_goals try clear fx
  refine qD [] .nil gN ?_;simp [Z9.Zn,Z9.av]
 .skip
  all_goals have fx:=Zk
  repeat' (first|refine qK ?_|refine λ(K:St->Prop) hK=>?_|refine qJ (hF:=zP _ ⟨11,to,a,b⟩) (h:=?_))
  all_goals try clear fx
  refine vg (f:=128) (.s 3) (.u 1 0 0) (hext:=rfl) (hs:=qB) (xs:=[]) (ys:=[.pt (.s 4) 0,.pt (.s 5) 0]) (avs:=[.pt (.u 1 0 0) 1,.pt (.s 4) 0,.pt (.s 5) 0]) (hv:=qB) (ha:=qB) (hB:=.cons (.refl _) (.cons (j4 qB) (.cons (j4 qB) .nil))) (hF:=za _ _ 11 to a b x y 1 qO qB) (h:=?_);rintro z H0 hy0;have hc0:=zX hy0 qB;simp only [chg,Z9.cells] at hc0;clear hy0
  all_goals have fx:= hc0
  repeat' (first|refine qK ?_|refine λ(K:St->Prop) hK=>?_)
  all_goals try clear fx
  refine qD [] .nil gN ?_;simp [Z9.Zn,Z9.av]
abbrev Y5:Zh:=wo<|.q 10<|.q 11<|.l 9 [11,10,6,5,4,3,2,1,0]<|.l 12 [6,5,4,3,2,1,0]<|.q 13<|.q 14<|.l 15 []<|.done
theorem mT {A G G2:Prop} (k:G2) (x:A) (h:A->Zx G2->G:=by
 intro fx kk;refine qG ?_
 repeat ((first|refine Ze (id:=5) Y5 mixed ?_);refine qZ ?_;refine qG ?_)
 exact kk.h):G:=h x ⟨k⟩
theorem N9 (gl) (p:Z0) (hs:Sml p):qb prog gl 74 [pav p] (λr y H'=>y=.agg [.hs r 4 0 p.length]/\qAb H' r p):=by
 have hpl:=hs.len;refine qb.Zl func74 [.cell 2 25] ntmps74 λC w g root=>?_;refine mT ?_<|Zk;refine qX (λn st=>∃ i:Nat,n=p.length - i/\i<=p.length/\st.tm 1=.pt (.s 1) 0/\st.hp (.s 1)=some (.row 1 [[ksl p]])/\st.tm 2=.pt (.s 2) 0/\st.hp (.s 2)=some (.row 1 [[.hs (.c (.s 2) 0 0) 4 0 0]])/\st.hp (.c (.s 2) 0 0)=some (.row 4 [])/\st.tm 3=.pt (.s 3) 0/\st.hp (.s 3)=some (.row 1 [[.hs (.c (.s 3) 0 0) 4 0 p.length]])/\st.tm 12=ksl p/\st.tm 13=iv p.length/\st.tm 14=iv i/\qEl st.hp (.c (.s 3) 0 0) p i) p.length ?_ ?_
 .refine⟨0,qB,qB,qB,qB,qB,qB,qB,qB,qB,qB,qB,qB,⟨?_,λj k hj=>qA,λj k hj=>qA⟩⟩;rw [<- K8];simp [SJ,Vv]
 rintro n st - - ⟨i,rfl,hi,h1,hp1,h2,hp2,hp2',h3,hp3,h12,h13,h14,⟨ho1,ho2,ho3⟩⟩;refine mT ?_<|jI h12 h13<|h14;refine w9 zU (λht=>?_) (λhf=>?_)
 .have hlt:i<p.length:=zJ;obtain⟨k,hk⟩:=gX hlt;obtain⟨hkp,hkb⟩:=hs.bsm hk;have hcg:=dL (n:=.c (.s 3) 0 0) (i:=i) hk;rw [if_neg qA] at hcg;obtain⟨_,hke⟩:=gS hk;obtain⟨_,hcge⟩:=gS hcg;clear ht;refine mT ?_<|jJ h12 h13 h14 h3 hp3 ho1 hk hke hcg hcge<|hlt
  all_goals
   refine⟨p.length - (i+1),qA,i+1,rfl,qA,qy,jy,ql,zF,ul,qt,jv,aZ,gQ,zD,⟨?_,λj r hj hr=>?_,λj r hj hr=>?_⟩⟩
   .rw [<- Ns (n:=.c (.s 3) 0 0) (d:=28) (e:=31) hk qB qB qO qB qB];simp [ho1]
   .rcases E5.1 hj with hlj|rfl
    .have hne:¬ j=i:=qA;simp [ho2 j r hlj hr,hne]
    .rw [hk] at hr;obtain rfl:=sI hr;simp
   .rcases E5.1 hj with hlj|rfl
    .have hne:¬ j=i:=qA;simp [ho3 j r hlj hr,hne]
    .rw [hk] at hr;obtain rfl:=sI hr;simp
 .have hge:i=p.length:=by
   have:¬ i<p.length:=ze;omega
  subst hge;rw [Nt] at ho1;refine mT ?_<|yS h2 hp2 hp2' h3<|hp3;refine qD [(.c (.s 3) 0 0,root)] (.one rfl) wJ ⟨qB,⟨?_,λj r hj=>?_,λj r hj=>?_⟩⟩
  .simp [ho1,zA (n:=.c (.s 3) 0 0) (m:=root) (f:=jc noD [(.c (.s 3) 0 0,root)]) (p:=p) qB]
  .simp [ho2 j r (gS hj).1 hj]
  .simp [ho3 j r (gS hj).1 hj]
end Go.Proofs.YtdnebaieamppbaaGreatDoor
end
