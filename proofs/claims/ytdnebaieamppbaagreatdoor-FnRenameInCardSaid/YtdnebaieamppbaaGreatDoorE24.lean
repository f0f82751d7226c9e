import Derived.Test.YtdnebaieamppbaaGreatDoorE09
set_option linter.unusedSimpArgs false
set_option linter.unusedVariables false
set_option maxRecDepth 100000
set_option maxHeartbeats 4000000

section
namespace Go.Hm
open Go Go.RowKit
theorem j4 {hp:Nm->Option AO} {D:Nm->Bool} {n:Nm} {a:AV} (h:hp n=some (.row 1 [[a]])) (hD:D n=false:=by first|(simp;done)|fail):Bw hp D (.pt n 0) (.el [a] 0):=by
 refine .pt n 1 0 [a] [a] [] hD h rfl λj x y hx hy=>?_;rw [hx] at hy;obtain rfl:=sI hy;exact .refl _
section
variable {X:Ctx} {st:St} {K:St->Prop} {E:AV->St->Prop} {d f:Nat} {ty:TypeId} {pos:String} {aft:Array Edge} {g:Option (Nat×Bool)} {c:Operand} {args:Array Operand} {Ts:Array TypeId} {xs ys avs az:List AV} {R:Nm->AV->(Nm->Option AO)->Prop}
theorem Uc (U:Nm) (hU:U.isU=true) (hext:X.ext U=true->st.hp U≠none) (hd:d<X.n) (hv:ev st c=.fn (.func f) xs ys) (ha:xs++args.toList.map (ev st)++ys=avs) (hB:BwL st.hp (Nm.under U) avs az)
  (hF:Zj X.P X.gl f (Nm.under U) az (nD U st.hp) R noE) (h:∀ y H',R (.s d) y H'->K ((st.call d (Nm.under U) (nD U st.hp) (qAH H')).put (some d) (LE y))) :
  qS X ⟨some d,.call ⟨.value c,args,Ts⟩,ty,pos,aft,g⟩ K E st:=by
 subst ha;refine eF (D:=Nm.under U) (H:=nD U st.hp) (R:=R) (E0:=noE) hF (N4 hF.1 rfl hv) true hB (λn hn=>?_) (λn hn=>?_) (λn hn=>?_) (λk i j he=>?_) (λe he=>qH) (λx H' hR=>?_) (λ_ _ h=>h.elim)
 .cases hx:Nm.under U n with
  | false=>rfl
  | true =>
   have h1:=qR hU hx;have h2:=Nm.qAM (a:=.s d) rfl hn
   simp_all
 .simp_all
 .simp_all
 .grind[Nm.under,nD]
 simp_all
theorem vg (N V:Nm) (hV:V.isU=true:=by rfl) (hN:N.isU=false:=by rfl) (hNV:Nm.under V N=false:=by first|(simp;done)|fail) (hext:X.ext V=false) (hs:(nD V (st.move N V).hp V).isSome=true) (hd:d<X.n:=by first|(simp;done)|fail)
  (hv:ev (st.move N V) c=.fn (.func f) xs ys) (ha:xs++args.toList.map (ev (st.move N V))++ys=avs) (hB:BwL (st.move N V).hp (Nm.under V) avs az)
  (hF:Zj X.P X.gl f (Nm.under V) az (nD V (st.move N V).hp) R noE) (h:∀ y H',R (.s d) y H'->K ((st.qDE N V d (qAH H')).put (some d) ((LE y).tr (mv V N)))) :
  qS X ⟨some d,.call ⟨.value c,args,Ts⟩,ty,pos,aft,g⟩ K E st:=by
 refine pI N V (.inl hN) (.inr hext) (yP V N (.inr hext) (.inl hN) ?_)
 grind[Uc,T4]
end
end Go.Hm
end
