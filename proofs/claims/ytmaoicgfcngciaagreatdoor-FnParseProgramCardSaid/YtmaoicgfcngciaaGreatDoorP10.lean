/-
  Own texts, joined by mkclaim.py: Hm34, Hm35, Hm36, Hm37, Hm38, Hm39, Hm40, Hm41, Hm42, Hm43, Hm44, Hm46, Hm47, Hm48, Hm49, Hm50, Hm51, Hm52, Hm53.
-/
import Derived.Test.YtmaoicgfcngciaaGreatDoorP09
import Derived.Deep.Slices
import Derived.Deep.Fields
import Derived.ChangeSame
import Derived.SizedLaws
import Derived.Test.YtmaoicgfcngciaaGreatDoorP08
set_option linter.unusedSimpArgs false
set_option linter.unusedVariables false
set_option maxRecDepth 100000
set_option maxHeartbeats 4000000

section
namespace Go.Hm
open Go Go.RowKit
structure NmOk (k : Blk) : Prop where
  kinds : ∀ s ∈ k.body, 0 ≤ s.kind ∧ s.kind ≤ 11
  reads : ∀ s ∈ k.body, ∀ x ∈ s.reads, 0 ≤ x ∧ x ≤ 7
  tos : ∀ s ∈ k.body, 0 ≤ s.to ∧ s.to ≤ 7
  params : ∀ x ∈ k.params, 0 ≤ x ∧ x ≤ 7
structure ShapeP (p : Prg) : Prop where
  sml : Sml p
  heads : Heads p
  head : ∀ (i : Nat) k, p[i]? = some k → HeadOk i k
  stm : ∀ (i : Nat) k, p[i]? = some k → ∀ s ∈ k.body, StmOk p i k s = true
  len : 1 ≤ p.length ∧ p.length ≤ 7
  body : ∀ k ∈ p, k.body.length ≤ 12
theorem ShapeP.of {p : Prg} (hs : Sml p) (h : shapeOk p = true) : ShapeP p := by
  obtain ⟨h1, h2, h3, h4, _⟩ := shapeOk_heads h
  have key : ∀ (i : Nat) k, p[i]? = some k → HeadOk i k ∧ k.body.length ≤ 12 ∧ k.body.all (StmOk p i k) = true := fun i k hk =>
    blkOk_head hk (List.all_eq_true.1 h4 i (List.mem_range.2 (gS hk).1))
  refine ⟨hs, h1, fun i k hk => (key i k hk).1, fun i k hk s hm => List.all_eq_true.1 (key i k hk).2.2 s hm, ⟨h2, h3⟩, fun k hk => ?_⟩
  obtain ⟨i, hi⟩ := List.getElem?_of_mem hk
  exact (key i k hi).2.1
theorem StmOk.kind {p : Prg} {i : Nat} {k : Blk} {s : Stm} (h : StmOk p i k s = true) : 0 ≤ s.kind ∧ s.kind ≤ 11 := by
  by_cases hk : 0 ≤ s.kind ∧ s.kind ≤ 11
  · exact hk
  · have h2 : ¬ (s.kind = 0 ∨ s.kind = 1 ∨ s.kind = 2 ∨ s.kind = 3 ∨ s.kind = 4 ∨ s.kind = 5 ∨ s.kind = 6 ∨ s.kind = 7 ∨ s.kind = 8 ∨ s.kind = 9 ∨ s.kind = 10 ∨ s.kind = 11) := by omega
    simp only [not_or] at h2
    simp [StmOk, h2] at h
theorem ShapeP.names {p : Prg} (h : ShapeP p) : ∀ k ∈ p, NmOk k := by
  intro k hk
  obtain ⟨i, hi⟩ := List.getElem?_of_mem hk
  have hst := h.stm i k hi
  have hhd := h.head i k hi
  refine ⟨fun s hs => StmOk.kind (hst s hs), fun s hs x hx => ?_, fun s hs => ?_, fun x hx => ?_⟩
  · have := hst s hs
    simp only [StmOk, Bool.and_eq_true] at this
    have := List.all_eq_true.1 this.1.2 x hx
    simpa using this
  · have := hst s hs
    simp only [StmOk, Bool.and_eq_true] at this
    simpa using this.1.1
  · unfold HeadOk at hhd
    split at hhd
    · have := List.eq_nil_of_length_eq_zero hhd.2.2
      rw [this] at hx
      cases hx
    · rcases hhd.2.2.2.2 with h0 | ⟨h1, _, h3, h4⟩
      · rw [List.eq_nil_of_length_eq_zero h0] at hx
        cases hx
      · match hp : k.params, h1, hx with
        | [y], _, hx =>
          obtain rfl := List.mem_singleton.1 hx
          rw [hp] at h3 h4
          exact ⟨h3, h4⟩
theorem ShapeP.kind0 {p : Prg} (h : ShapeP p) {i : Nat} {k : Blk} (hk : p[i]? = some k) : k.kind = 0 ↔ i = 0 := by
  have := h.head i k hk
  unfold HeadOk at this
  split at this <;> omega
theorem ShapeP.fun0 {p : Prg} (h : ShapeP p) : ∀ k, p[0]? = some k → k.kind ≠ 1 := by
  intro k hk
  have := (h.kind0 hk).2 rfl
  omega
theorem ShapeP.decl0 {p : Prg} (h : ShapeP p) {k : Blk} (hk : p[0]? = some k) {d : Int} (hd : d = 9 ∨ d = 10) : k.dc d = [] := by
  have hnil : declAll k d = [] := by
    simp only [declAll, List.map_eq_nil_iff, List.filter_eq_nil_iff]
    intro s hs hsd
    have hst := h.stm 0 k hk s hs
    have hk0 := (h.kind0 hk).2 rfl
    simp only [decide_eq_true_eq] at hsd
    rcases hd with rfl | rfl
    · simp [StmOk, hsd, hk0] at hst
    · simp [StmOk, hsd, hk0] at hst
  simp only [Blk.dc, hnil, sorted]
  decide
theorem outerF_ge {p : Prg} {x : Int} : ∀ (n : Nat) (j : Int), -1 ≤ outerF p x n j
  | 0, _ => by simp [outerF]
  | n + 1, j => by
    simp only [outerF]
    repeat' split
    all_goals first | omega | exact outerF_ge n _
theorem outer_ge {p : Prg} {b : Nat} {x : Int} : -1 ≤ outer p b x := by
  unfold outer
  split
  · exact outerF_ge _ _
  · omega
section
variable {O : List Int} {x : Nat}
end
section
variable {p : Prg} {i j a b : Nat} {n m k1 : Nm} {k : Blk} {f : Nm → Option Nm}
end
end Go.Hm
end
section
namespace Go.Hm
open Go Go.RowKit
def pre {α : Type} (z : α) (l : List α) (i : Nat) : List α := l.take i ++ List.replicate (l.length - i) z
section
variable {α : Type} {z x : α} {l : List α} {i : Nat}
end
end Go.Hm
end
section
namespace Go.Hm
open Go Go.RowKit
section
variable {X : Ctx} {st : St} {K : St → Prop} {E : AV → St → Prop} {ds : List (Option Nat)} {l : List Oper} {o : Oper}
theorem o_mv (n0 n1 : Nm) (h0 : n0.isU = false ∨ X.ext n0 = false) (h1 : n1.isU = false ∨ X.ext n1 = false) (h : SemOp X o K E (st.move n0 n1)) : SemOp X o K E st :=
  fun a w Q hR hE => h a w Q (hR.move n0 n1 h0 h1) hE
theorem o_mvPost (n0 n1 : Nm) (h0 : n0.isU = false ∨ X.ext n0 = false) (h1 : n1.isU = false ∨ X.ext n1 = false) (h : SemOp X o (fun s => K (s.move n0 n1)) E st) : SemOp X o K E st := by
  refine SemOp.post h ?_
  intro s a w hR hK
  exact ⟨_, hR.move n0 n1 h0 h1, hK⟩
end
section
variable {p : Prg} {i a b l j : Nat} {n q k1 : Nm} {k : Blk}
end
theorem under_usroot {U : Nm} (hU : U.isU = true) : ∀ {n : Nm}, Nm.under U n = true → n.sroot = false := by
  intro n
  induction n with
  | s d => intro h; cases U <;> simp [Nm.isU, Nm.under] at *
  | u k i j => intro _; rfl
  | c q i j ih =>
    intro h
    simp only [Nm.under, Bool.or_eq_true, decide_eq_true_eq] at h
    rcases h with h | h
    · rw [← h] at hU; cases hU
    · exact ih h
def hsub (U : Nm) (hp : Nm → Option AO) : Nm → Option AO := fun m => if Nm.under U m then hp m else none
section
variable {X : Ctx} {st : St} {K : St → Prop} {E : AV → St → Prop} {d f : Nat} {ty : TypeId} {pos : String} {aft : Array Edge} {g : Option (Nat × Bool)} {args : Array Operand} {Ts : Array TypeId} {az : List AV} {R : Nm → AV → (Nm → Option AO) → Prop}
theorem x_mut (U : Nm) (hU : U.isU = true) (hext : X.ext U = true → st.hp U ≠ none) (hd : d < X.n := by first | (simp; done) | fail) (ha : args.toList.map (ev st) = az := by simp [fx]; first | done | rfl)
    (hF : FnE X.P X.gl f (Nm.under U) az (hsub U st.hp) R noE) (h : ∀ y H', R (.s d) y H' → K ((st.call d (Nm.under U) (hsub U st.hp) H').put (some d) y)) :
    SemOp X ⟨some d, .call ⟨.value (.func f), args, Ts⟩, ty, pos, aft, g⟩ K E st := by
  subst ha
  refine call_sem (D := Nm.under U) (H := hsub U st.hp) (R := R) (E0 := noE) hF (ent_func hF.1 rfl) false ⟨rfl, fun j a a' h h' => ?_⟩ (fun n hn => ?_) (fun n hn => ?_) (fun n hn => ?_) (fun k i j he => ?_) (fun e he => by obtain rfl := Option.some.inj he; exact hd) (fun x H' hR => ?_) (fun _ _ h => h.elim)
  · rw [h] at h'
    obtain rfl := Option.some.inj h'
    exact .refl _
  · cases hx : Nm.under U n with
    | false => rfl
    | true =>
      have h1 := under_usroot hU hx
      have h2 := Nm.sroot_under (a := .s d) rfl hn
      rw [h1] at h2
      cases h2
  · simp [hsub, hn]
  · simp only [hsub] at hn
    split at hn
    · assumption
    · exact absurd rfl hn
  · cases hx : Nm.under U (.u k i j) with
    | false => exact .inl rfl
    | true =>
      right
      have : Nm.u k i j = U := by cases U <;> simp [Nm.isU, Nm.under] at * <;> exact ⟨hx.1, hx.2.1, hx.2.2⟩
      simp only [hsub, hx, if_true]
      rw [this] at he ⊢
      exact hext he
  · exact h x H' hR
end
section
variable {st : St} {d t : Nat} {D : Nm → Bool} {H H' : Nm → Option AO} {m : Nm}
@[simp] theorem call_tm : (st.call d D H H').tm t = (st.tm t).tr (cf d D H) := rfl
@[simp] theorem call_gl : (st.call d D H H').gl = st.gl := rfl
@[simp] theorem call_hp : (st.call d D H H').hp m = if D m || Nm.under (.s d) m then H' m else (st.hp m).map (AO.tr (cf d D H)) := rfl
@[simp] theorem cf_eq : cf d D H m = if Nm.under (.s d) m then none else if D m then (if m.isU && (H m).isSome then some m else none) else some m := rfl
@[simp] theorem hsub_eq {U : Nm} {hp : Nm → Option AO} : hsub U hp m = if Nm.under U m then hp m else none := rfl
end
theorem AV.tr_tr (f g : Nm → Option Nm) (a : AV) : (a.tr f).tr g = a.tr (fun m => (f m).bind g) := by
  refine AV.rec (motive_1 := fun a => (a.tr f).tr g = a.tr (fun m => (f m).bind g)) (motive_2 := fun l => trLL g (trLL f l) = trLL (fun m => (f m).bind g) l) (motive_3 := fun l => trL g (trL f l) = trL (fun m => (f m).bind g) l) ?_ ?_ ?_ ?_ ?_ ?_ ?_ ?_ ?_ ?_ ?_ ?_ ?_ ?_ ?_ ?_ a
  all_goals intros
  all_goals simp only [AV.tr, trL, trLL, *]
  all_goals (split <;> simp_all [AV.tr])
theorem AO.tr_tr (f g : Nm → Option Nm) (o : AO) : (o.tr f).tr g = o.tr (fun m => (f m).bind g) := by
  have h : AV.tr g ∘ AV.tr f = AV.tr (fun m => (f m).bind g) := funext fun a => AV.tr_tr f g a
  cases o with
  | row z rows => simp [AO.tr, h]
  | map es => simp [AO.tr, AV.tr_tr]
  | trow T z ex rows => simp [AO.tr, h]
def rtf (N V : Nm) (d : Nat) (m : Nm) : Option Nm := if Nm.under N m then (if m = N then some N else none) else if Nm.under V m then none else if Nm.under (.s d) m then none else some m
def St.mutc (st : St) (N V : Nm) (d : Nat) (H' : Nm → Option AO) : St :=
  { tm := fun t => (st.tm t).tr (rtf N V d),
    hp := fun m => if Nm.under N m then (if mv V N (Nm.ren N V m) = some m then (H' (Nm.ren N V m)).map (AO.tr (mv V N)) else none) else if Nm.under V m then none else if Nm.under (.s d) m then (H' m).map (AO.tr (mv V N)) else (st.hp m).map (AO.tr (rtf N V d)),
    n := st.n, gl := st.gl }
section
variable {st : St} {N V m : Nm} {d t : Nat} {H' : Nm → Option AO}
@[simp] theorem rtf_eq : rtf N V d m = if Nm.under N m then (if m = N then some N else none) else if Nm.under V m then none else if Nm.under (.s d) m then none else some m := rfl
@[simp] theorem mutc_tm : (st.mutc N V d H').tm t = (st.tm t).tr (rtf N V d) := rfl
@[simp] theorem mutc_gl : (st.mutc N V d H').gl = st.gl := rfl
@[simp] theorem mutc_hp : (st.mutc N V d H').hp m = if Nm.under N m then (if mv V N (Nm.ren N V m) = some m then (H' (Nm.ren N V m)).map (AO.tr (mv V N)) else none) else if Nm.under V m then none else if Nm.under (.s d) m then (H' m).map (AO.tr (mv V N)) else (st.hp m).map (AO.tr (rtf N V d)) := rfl
end
theorem ren_isU {N V : Nm} {x : Nm} (h : Nm.under N x = true) (hne : x ≠ N) : (Nm.ren N V x).isU = false := by
  cases x with
  | s d => simp [Nm.under] at h; exact absurd h hne
  | u a b c => simp [Nm.under] at h; exact absurd h hne
  | c q i j => simp [Nm.ren, hne]
theorem under_s_u {V n : Nm} {d : Nat} (hV : V.isU = true) (h : Nm.under V n = true) : Nm.under (.s d) n = false := by
  cases hx : Nm.under (.s d) n with
  | false => rfl
  | true =>
    have h1 := under_usroot hV h
    have h2 := Nm.sroot_under (a := .s d) rfl hx
    rw [h1] at h2
    cases h2
theorem rtf_comp {N V : Nm} {d : Nat} {Hs : Nm → Option AO} (hV : V.isU = true) (hNV : Nm.under V N = false) (hs : (Hs V).isSome = true) : (fun m => ((mv N V m).bind (cf d (Nm.under V) Hs)).bind (mv V N)) = rtf N V d := by
  funext x
  by_cases hx : Nm.under N x = true
  · have hu : Nm.under V (Nm.ren N V x) = true := Nm.under_ren x hx
    have hsd := under_s_u (d := d) hV hu
    by_cases e : x = N
    · subst e
      simp [hV, hs, Nm.under_self, hsd] at hsd ⊢
      simp [hsd]
    · have := ren_isU (V := V) hx e
      simp [hx, hu, hsd, this, e]
  · simp only [Bool.not_eq_true] at hx
    by_cases hv : Nm.under V x = true
    · simp [hx, hv]
    · simp only [Bool.not_eq_true] at hv
      by_cases hd : Nm.under (.s d) x = true
      · simp [hx, hv, hd]
      · simp only [Bool.not_eq_true] at hd
        simp [hx, hv, hd]
theorem mutc_eq {st : St} {N V : Nm} {d : Nat} {H' : Nm → Option AO} {y : AV} (hV : V.isU = true) (hNV : Nm.under V N = false) (hs : (hsub V (st.move N V).hp V).isSome = true) :
    (((st.move N V).call d (Nm.under V) (hsub V (st.move N V).hp) H').put (some d) y).move V N = (st.mutc N V d H').put (some d) (y.tr (mv V N)) := by
  have hc := rtf_comp (N := N) (d := d) hV hNV hs
  have e1 : ∀ a : AV, ((a.tr (mv N V)).tr (cf d (Nm.under V) (hsub V (st.move N V).hp))).tr (mv V N) = a.tr (rtf N V d) := by
    intro a
    rw [AV.tr_tr (mv N V), AV.tr_tr, ← hc]
  have e2 : ∀ o : AO, ((o.tr (mv N V)).tr (cf d (Nm.under V) (hsub V (st.move N V).hp))).tr (mv V N) = o.tr (rtf N V d) := by
    intro o
    rw [AO.tr_tr (mv N V), AO.tr_tr, ← hc]
  unfold St.move
  simp only [St.nm, St.put, St.mutc]
  congr 1
  · funext t
    by_cases h : t = d
    · simp [h]
    · simp only [h, if_false]
      exact e1 _
  · funext m
    simp only [hmv]
    by_cases h1 : Nm.under N m = true
    · rw [if_pos h1, if_pos h1]
      have hu : Nm.under V (Nm.ren N V m) = true := Nm.under_ren m h1
      simp only [St.call, St.nm, hu, Bool.true_or, if_true]
    · simp only [Bool.not_eq_true] at h1
      simp only [h1, Bool.false_eq_true, if_false]
      by_cases h2 : Nm.under V m = true
      · simp only [h2, if_true]
      · simp only [Bool.not_eq_true] at h2
        simp only [h2, Bool.false_eq_true, if_false, St.call, St.nm, Bool.false_or]
        by_cases h3 : Nm.under (.s d) m = true
        · simp only [h3, if_true]
        · simp only [Bool.not_eq_true] at h3
          simp only [h3, Bool.false_eq_true, if_false, St.nm, St.move, hmv, h2, h1]
          cases st.hp m with
          | none => rfl
          | some o => simp only [Option.map_some]; exact congrArg some (e2 o)
section
variable {X : Ctx} {st : St} {K : St → Prop} {E : AV → St → Prop} {d f : Nat} {ty : TypeId} {pos : String} {aft : Array Edge} {g : Option (Nat × Bool)} {args : Array Operand} {Ts : Array TypeId} {az : List AV} {R : Nm → AV → (Nm → Option AO) → Prop}
theorem x_mutc (N V : Nm) (hV : V.isU = true := by rfl) (hN : N.isU = false := by rfl) (hNV : Nm.under V N = false := by first | (simp; done) | fail) (hext : X.ext V = false) (hs : (hsub V (st.move N V).hp V).isSome = true) (hd : d < X.n := by first | (simp; done) | fail)
    (ha : args.toList.map (ev (st.move N V)) = az := by simp [fx]; first | done | rfl)
    (hF : FnE X.P X.gl f (Nm.under V) az (hsub V (st.move N V).hp) R noE) (h : ∀ y H', R (.s d) y H' → K ((st.mutc N V d H').put (some d) (y.tr (mv V N)))) :
    SemOp X ⟨some d, .call ⟨.value (.func f), args, Ts⟩, ty, pos, aft, g⟩ K E st := by
  refine o_mv N V (.inl hN) (.inr hext) (o_mvPost V N (.inr hext) (.inl hN) ?_)
  refine x_mut V hV (fun e => by rw [hext] at e; cases e) hd ha hF fun y H' hR => ?_
  rw [mutc_eq hV hNV hs]
  exact h y H' hR
end
section
variable {p : Prg} {n : Nm} {i l d a b e : Nat}
@[simp] theorem pRows_rtf (hV : Nm.under (.u a b e) n = false) (hd : Nm.under (.s d) n = false) : (pRows n p).map (fun r => r.map (AV.tr (rtf (.c n i l) (.u a b e) d))) = pRows n p := by
  have hN : Nm.under (.c n i l) n = false := by
    cases h : Nm.under (.c n i l) n with
    | false => rfl
    | true => exact absurd rfl (Nm.under_not_c h).2
  refine pRows_tr fun i' j' _ => ?_
  by_cases h : i' = i ∧ j' = l
  · simp [h.1, h.2]
  · simp [hN, hV, hd, h]
@[simp] theorem pRows_mvself {m : Nm} : (pRows n p).map (fun r => r.map (AV.tr (mv n m))) = pRows m p := pRows_tr (by simp)
@[simp] theorem pRows_rtf2 {N : Nm} (hN : Nm.under N n = false) (hN2 : Nm.under n N = false) (hV : Nm.under (.u a b e) n = false) (hd : Nm.under (.s d) n = false) : (pRows n p).map (fun r => r.map (AV.tr (rtf N (.u a b e) d))) = pRows n p := by
  refine pRows_tr fun i' j' _ => ?_
  have h : ¬ Nm.c n i' j' = N := fun h => by rw [← h] at hN2; simp at hN2
  have h2 : Nm.under N (.c n i' j') = false := by
    simp only [Nm.under, Bool.or_eq_false_iff, decide_eq_false_iff_not]
    exact ⟨h, hN⟩
  simp only [rtf_eq, h2, Bool.false_eq_true, if_false, under_uc, hV, under_sc, hd]
end
def markI (n : Nat) (c : Int) : List Int := (List.range n).map (fun i : Nat => c + i)
def markS (n : Nat) (c : Int) : List Stm := (List.range n).map (fun i : Nat => ⟨c + 4 * i, c + 4 * i + 1, c + 4 * i + 2, c + 4 * i + 3⟩)
def cntB (k : Blk) : Nat := 2 + k.params.length + 4 * k.body.length
def cntTo (p : Prg) : Nat → Nat
  | 0 => 0
  | i + 1 => cntTo p i + (match p[i]? with | some k => cntB k | none => 0)
def cnt (p : Prg) : Nat := cntTo p p.length
def markBlk (k : Blk) (c : Int) : Blk := ⟨c, c + 1, markI k.params.length (c + 2), markS k.body.length (c + 2 + k.params.length)⟩
def markTo (p : Prg) (c : Int) (i : Nat) : Prg := p.mapIdx (fun j k => if j < i then markBlk k (c + cntTo p j) else k)
def markP (p : Prg) (c : Int) : Prg := markTo p c p.length
section
variable {p : Prg} {c : Int} {i j : Nat} {k : Blk} {n : Nm}
@[simp] theorem markI_len {n : Nat} : (markI n c).length = n := by simp [markI]
@[simp] theorem markS_len {n : Nat} : (markS n c).length = n := by simp [markS]
theorem cntTo_get (h : p[i]? = some k) : cntTo p (i + 1) = cntTo p i + cntB k := by simp only [cntTo, h]
theorem cntTo_le (hs : Sml p) (i : Nat) : cntTo p i ≤ 5242882 * i := by
  induction i with
  | zero => exact Nat.zero_le _
  | succ i ih =>
    have h1 : cntTo p (i + 1) ≤ cntTo p i + 5242882 := by
      simp only [cntTo]
      cases h : p[i]? with
      | none => simp only; omega
      | some k =>
        have h1 := (hs.bsm h).params
        have h2 := (hs.bsm h).body
        simp only [cntB]
        omega
    omega
@[simp] theorem markTo_len : (markTo p c i).length = p.length := by simp [markTo]
theorem markTo_get (h : p[j]? = some k) : (markTo p c i)[j]? = some (if j < i then markBlk k (c + cntTo p j) else k) := by simp [markTo, h]
theorem markTo_zero : markTo p c 0 = p := by
  apply List.ext_getElem?
  intro j
  cases h : p[j]? with
  | none =>
    rw [List.getElem?_eq_none_iff] at h ⊢
    simpa using h
  | some k => rw [markTo_get h]; simp
theorem markI_set {xs : List Int} (h : i < xs.length) : (markI i c ++ xs.drop i).set i (c + i) = markI (i + 1) c ++ xs.drop (i + 1) := by
  rw [List.set_append_right _ _ (by simp)]
  simp only [markI_len, Nat.sub_self]
  rw [List.drop_eq_getElem_cons h, List.set_cons_zero]
  simp [markI, List.range_succ]
theorem markS_set {xs : List Stm} (h : i < xs.length) : (markS i c ++ xs.drop i).set i ⟨c + 4 * i, c + 4 * i + 1, c + 4 * i + 2, c + 4 * i + 3⟩ = markS (i + 1) c ++ xs.drop (i + 1) := by
  rw [List.set_append_right _ _ (by simp)]
  simp only [markS_len, Nat.sub_self]
  rw [List.drop_eq_getElem_cons h, List.set_cons_zero]
  simp [markS, List.range_succ]
@[simp] theorem rowsSet_len {rows : List (List AV)} {off : Nat} {vals : List AV} : (rowsSet rows i off vals).length = rows.length := by simp [rowsSet]
theorem srows_set4 {L : List Stm} {a b d e : Int} (h : i < L.length) : rowsSet (rowsSet (rowsSet (rowsSet (srows L) i 0 [iv a]) i 1 [iv b]) i 2 [iv d]) i 3 [iv e] = srows (L.set i ⟨a, b, d, e⟩) := by
  apply List.ext_getElem?
  intro j
  simp only [rowsSet, List.getElem?_modify, srows_get, List.getElem?_set]
  by_cases e1 : i = j
  · subst e1
    have : L[i]? = some L[i] := gE h
    simp [h]
  · simp [e1]
def setKP (q : Prg) (i : Nat) (a b : Int) : Prg := q.modify i (fun k => { k with kind := a, parent := b })
theorem pRows_setKP {q : Prg} {a b : Int} : rowsSet (rowsSet (pRows n q) i 0 [iv a]) i 1 [iv b] = pRows n (setKP q i a b) := by
  apply List.ext_getElem?
  intro j
  simp only [rowsSet, List.getElem?_modify, pRows_get, setKP]
  cases h : q[j]? with
  | none => simp
  | some k =>
    by_cases e1 : i = j <;> simp [e1]
theorem setKP_get {q : Prg} {a b : Int} (h : q[j]? = some k) : (setKP q i a b)[j]? = some (if i = j then { k with kind := a, parent := b } else k) := by
  simp only [setKP, List.getElem?_modify, h]
  by_cases e : i = j <;> simp [e]
@[simp] theorem setKP_len {q : Prg} {a b : Int} : (setKP q i a b).length = q.length := by simp [setKP]
theorem pRows_congr {q q' : Prg} (hl : q.length = q'.length) (h : ∀ (j : Nat) k k', q[j]? = some k → q'[j]? = some k' → k.kind = k'.kind ∧ k.parent = k'.parent ∧ k.params.length = k'.params.length ∧ k.body.length = k'.body.length) : pRows n q = pRows n q' := by
  apply List.ext_getElem?
  intro j
  rw [pRows_get, pRows_get]
  cases hj : q[j]? with
  | none =>
    have : q'[j]? = none := by
      rw [List.getElem?_eq_none_iff] at hj ⊢
      omega
    rw [this]
  | some k =>
    obtain ⟨k', hk'⟩ : ∃ k', q'[j]? = some k' := ⟨_, gE (by rw [← hl]; exact (gS hj).1)⟩
    rw [hk']
    obtain ⟨h1, h2, h3, h4⟩ := h j k k' hj hk'
    simp [h1, h2, h3, h4]
theorem pRows_mark (hk : p[i]? = some k) : pRows n (setKP (markTo p c i) i (c + cntTo p i) (c + cntTo p i + 1)) = pRows n (markTo p c (i + 1)) := by
  refine pRows_congr (by simp) fun j a b ha hb => ?_
  have hj : j < p.length := by have := (gS hb).1; simpa using this
  obtain ⟨q, hq⟩ : ∃ q, p[j]? = some q := ⟨_, gE hj⟩
  rw [setKP_get (markTo_get hq)] at ha
  rw [markTo_get hq] at hb
  obtain rfl := Option.some.inj ha
  obtain rfl := Option.some.inj hb
  by_cases e : i = j
  · subst e
    simp [markBlk]
  · by_cases e2 : j < i
    · have e3 : j < i + 1 := by omega
      simp [e, e2, e3]
    · have e3 : ¬ j < i + 1 := by omega
      simp [e, e2, e3]
end
theorem markTo_params {p : Prg} {c : Int} {i j : Nat} {r : Blk} (h : (markTo p c i)[j]? = some r) : ∃ k, p[j]? = some k ∧ r = if j < i then markBlk k (c + cntTo p j) else k := by
  have hj : j < p.length := by have := (gS h).1; simpa using this
  obtain ⟨q, hq⟩ : ∃ q, p[j]? = some q := ⟨_, gE hj⟩
  rw [markTo_get hq] at h
  exact ⟨q, hq, (Option.some.inj h).symm⟩
end Go.Hm
end
section
namespace Go.Hm
open Go Go.RowKit
section
variable {X : Ctx} {st : St} {K : St → Prop} {E : AV → St → Prop}
theorem o_abs {o : Oper} (F : St → Prop) (h : F st) (k : ∀ s, F s → SemOp X o K E s) : SemOp X o K E st := k st h
theorem s_abs {ds : List (Option Nat)} {l : List Oper} (F : St → Prop) (h : F st) (k : ∀ s, F s → SemL X ds K E l s) : SemL X ds K E l st := k st h
theorem w_abs {c : Code} {Q : Ex → St → Prop} (F : St → Prop) (h : F st) (k : ∀ s, F s → SemCode X c Q s) : SemCode X c Q st := k st h
end
structure BoxP (st : St) (d : Nat) (p : Prg) : Prop where
  tm : st.tm d = .pt (.s d) 0
  hp : st.hp (.s d) = some (.row 1 [[.hs (.c (.s d) 0 0) 4 0 p.length]])
  own : OwnP st.hp (.c (.s d) 0 0) p
end Go.Hm
end
section
namespace Go.Hm
open Go Go.RowKit Go.ChangeShapes Go.WideShapes Go.Deep
def g0 (w : World) : Gh := { C := fun b => b < w.heap.size, φ := fun _ => none, κ := fun _ => 0 }
def ReadsAs {H : Type} (enc : TypeId × Value → H) (P : Program) (w : World) {α : Type} (t : TypeId) (cells : α → List AV) (Ok : α → Prop) : Prop :=
  ∀ (n : Nat) (cs : List Value) (y : DataW H × List MemPlace), DataW.trod enc P w 0 (fun _ => true) true n t cs = some y → (∀ m ∈ y.1.weights P t, m ≤ reachBytes) →
    ∃ x : α, Ok x ∧ (cells x).length = cs.length ∧ ∀ (j : Nat) v a, cs[j]? = some v → (cells x)[j]? = some a → RV (g0 w) w v a ∧ v.oneCell' = true
theorem weightsAll_in {H : Type} {P : Program} {e : TypeId} {d : DataW H} : ∀ {l : List (DataW H)}, d ∈ l → ∀ m ∈ d.weights P e, m ∈ DataW.weightsAll P e l
  | x :: l, h, m, hm => by
    simp only [DataW.weightsAll, List.mem_append]
    rcases List.mem_cons.1 h with rfl | h
    · exact .inl hm
    · exact .inr (weightsAll_in h m hm)
theorem cell_lt {w : World} {a : Addr} {v : Value} (h : w.cell? a = some v) : a.block < w.heap.size ∧ a.spot = none := by
  unfold World.cell? at h
  split at h
  · rename_i c t fr hb
    refine ⟨(Array.getElem?_eq_some_iff.1 hb).1, ?_⟩
    split at h
    · cases h
    · rename_i hs
      cases hsp : a.spot with
      | none => rfl
      | some _ => simp [hsp] at hs
  · cases h
theorem add_plain {a : Addr} (h : a.spot = none) (n : Nat) : a.add n = ⟨a.block, a.off + n, none⟩ := by
  obtain ⟨b, o, s⟩ := a
  obtain rfl : s = none := h
  unfold Addr.add
  split
  · simp_all
  · rfl
section
variable {H : Type} {enc : TypeId × Value → H} {P : Program} {w : World}
theorem rd_slice {t e : TypeId} {z : Nat} {α : Type} [Inhabited α] {cells : α → List AV} {Ok : α → Prop} (ht : P.underlying t = some (.slice e)) (hc : P.cellsOf e = z) (hz : 0 < z) (hby : 0 < P.bytesOf e) (hlen : ∀ x, (cells x).length = z)
    (hr : ReadsAs enc P w e cells Ok) : ReadsAs enc P w t (fun xs : List α => [.sl z (xs.map cells)]) (fun xs => xs.length ≤ 1152921504606846976 ∧ ∀ x ∈ xs, Ok x) := by
  intro n cs y h hw
  rcases open_slice ht h with ⟨rfl, rfl⟩ | ⟨a, len, cap, m, n', D, Pl, rfl, _, hl, _, hm, rfl, hi⟩
  · refine ⟨[], ⟨by simp, by simp⟩, rfl, fun j v x hv hx => ?_⟩
    cases j with
    | zero =>
      simp at hv hx
      subst hv; subst hx
      exact ⟨.slN _ _ _, rfl⟩
    | succ j => simp at hv
  · simp only [if_true] at hm
    subst hm
    have hw0 := hw (((List.map D (List.range len)).length + (List.map (fun j => D (len + j)) (List.range (m - len))).length) * P.bytesOf e) (by simp [DataW.weights, ht])
    have hll : len ≤ 1152921504606846976 := by
      simp only [List.length_map, List.length_range, reachBytes] at hw0
      have : len * 1 ≤ (len + (m - len)) * P.bytesOf e := Nat.mul_le_mul (by omega) hby
      omega
    have hel : ∀ i, i < len → ∃ x : α, Ok x ∧ ∀ j, j < z → ∃ v aa, w.cell? ((a.add (i * z)).add j) = some v ∧ (cells x)[j]? = some aa ∧ RV (g0 w) w v aa ∧ v.oneCell' = true := by
      intro i hil
      obtain ⟨cs', h1, h2⟩ := hi i (by omega)
      rw [hc] at h1
      obtain ⟨_, hcl, hat⟩ := World.cells?_some h1
      obtain ⟨x, hx, hxl, hxr⟩ := hr n' cs' _ h2 (fun q hq => hw q (by
        simp only [DataW.weights, ht, List.mem_cons, List.mem_append]
        exact .inr (.inl (weightsAll_in (List.mem_map.2 ⟨i, List.mem_range.2 hil, rfl⟩) q hq))))
      refine ⟨x, hx, fun j hj => ?_⟩
      have e1 := hat j hj
      have e2 : cs'[j]? = some (cs'[j]'(by omega)) := gE (by omega)
      have e3 : (cells x)[j]? = some ((cells x)[j]'(by rw [hlen]; exact hj)) := gE (by rw [hlen]; exact hj)
      obtain ⟨r1, r2⟩ := hxr j _ _ e2 e3
      exact ⟨_, _, e1.trans e2, e3, r1, r2⟩
    obtain ⟨X, hX⟩ := choose_lt hel
    have hav : ∀ i, i < len → (List.map X (List.range len))[i]? = some (X i) := by
      intro i hi
      simp [hi]
    refine ⟨(List.range len).map X, ⟨by simpa using hll, ?_⟩, rfl, fun j v x hv hx => ?_⟩
    · intro x hx
      obtain ⟨i, hi, rfl⟩ := List.mem_map.1 hx
      exact (hX i (List.mem_range.1 hi)).1
    · cases j with
      | succ j => simp at hv
      | zero =>
        simp only [List.getElem?_cons_zero, Option.some.injEq] at hv hx
        subst hv; subst hx
        refine ⟨?_, rfl⟩
        rcases Nat.eq_zero_or_pos len with rfl | hpos
        · exact .slN _ _ _
        · obtain ⟨v0, _, hc0, _⟩ := (hX 0 hpos).2 0 hz
          obtain ⟨hb, hsp⟩ := cell_lt hc0
          rw [Nat.zero_mul] at hb hsp
          have ha0 : (a.add 0).add 0 = a := by simp [Addr.add]
          rw [ha0] at hb hsp
          obtain ⟨b, off, s⟩ := a
          obtain rfl : s = none := hsp
          have hcell : ∀ i j, (((⟨b, off, none⟩ : Addr).add (i * z)).add j) = ⟨b, off + i * z + j, none⟩ := by
            intro i j
            rw [add_plain (a := ⟨b, off, none⟩) rfl, add_plain rfl]
          refine .slC b off m len z _ (fun i j => (w.cell? ⟨b, off + i * z + j, none⟩).getD undef) hb (by simp) hl ?_ ?_ ?_ ?_
          · intro r hr'
            obtain ⟨x, hx, rfl⟩ := List.mem_map.1 hr'
            exact hlen x
          · intro i j hi hj
            obtain ⟨v, _, h1, _⟩ := (hX i hi).2 j hj
            rw [hcell] at h1
            simp [h1]
          · intro i j hi hj
            obtain ⟨v, _, h1, _, _, h2⟩ := (hX i hi).2 j hj
            rw [hcell] at h1
            simpa [h1] using h2
          · intro i row hrow j aa haa
            have hil : i < len := by
              have := (gS hrow).1
              simpa using this
            simp [hil] at hrow
            subst hrow
            have hjz : j < z := by
              have := (gS haa).1
              rwa [hlen] at this
            obtain ⟨v, a', h1, h2, h3, _⟩ := (hX i hil).2 j hjz
            rw [hcell] at h1
            rw [haa] at h2
            cases h2
            simpa [h1] using h3
end
section
variable {H : Type} {enc : TypeId × Value → H} {P : Program} {w : World}
end
end Go.Hm
end
section
namespace Go.Hm
open Go Go.RowKit
def swapI (n x y : Int) : Int := if n = x then y else n
def Stm.ren (s : Stm) (x y : Int) : Stm :=
  ⟨s.kind, if s.sets ∨ 9 ≤ s.kind then swapI s.to x y else s.to,
    if s.kind = 1 ∨ s.kind = 6 ∨ s.kind = 7 ∨ s.kind = 8 ∨ s.kind = 2 ∨ s.kind = 5 then swapI s.a x y else s.a, if s.kind = 2 ∨ s.kind = 5 then swapI s.b x y else s.b⟩
def Blk.ren (k : Blk) (x y : Int) : Blk := ⟨k.kind, k.parent, k.params.map (fun n => swapI n x y), k.body.map (fun s => s.ren x y)⟩
def insideF (p : Prg) (b : Int) : Nat → Int → Bool
  | 0, j => decide (j = b)
  | n + 1, j => if b < j then (match p[j.toNat]? with | some q => insideF p b n q.parent | none => false) else decide (j = b)
def inside (p : Prg) (c b : Int) : Bool := insideF p b p.length c
theorem inside_end {p : Prg} {c b : Int} (h : c ≤ b) : inside p c b = decide (c = b) := by
  unfold inside
  generalize p.length = n
  cases n with
  | zero => rfl
  | succ n => simp only [insideF]; rw [if_neg (by omega)]
def Blk.us (k : Blk) : List Int := sorted (k.rd ++ k.bd ++ k.dc 9 ++ k.dc 10)
def touches (p : Prg) (b x : Int) (c : Nat) : Bool := match p[c]? with | some k => decide (x ∈ k.us) && decide (owner p c x = b) | none => false
def touchTo (p : Prg) (b x : Int) : Nat → List Int
  | 0 => []
  | n + 1 => if touches p b x n = true then touchTo p b x n ++ [(n : Int)] else touchTo p b x n
def touched (p : Prg) (b x : Int) : List Int := touchTo p b x p.length
def renIf (c : Bool) (x y : Int) (k : Blk) : Blk := if c then k.ren x y else k
def renS (S : Nat → Bool) (x y : Int) (p : Prg) : Prg := p.mapIdx fun c k => renIf (S c) x y k
theorem renS_get {S : Nat → Bool} {x y : Int} {p : Prg} {c : Nat} : (renS S x y p)[c]? = (p[c]?).map (renIf (S c) x y) := by
  simp [renS, List.getElem?_mapIdx]
@[simp] theorem renS_len {S : Nat → Bool} {x y : Int} {p : Prg} : (renS S x y p).length = p.length := by simp [renS]
def clashAt (p : Prg) (b : Nat) (y : Int) (c : Nat) : Bool := decide (b ≤ c) && match p[c]? with | some k => inside p c b && decide (y ∈ k.us) | none => false
def clash (p : Prg) (b : Nat) (y : Int) : Bool := (List.range p.length).any (clashAt p b y)
def renAt (p : Prg) (b : Nat) (x y : Int) : Bool := match p[b]? with | some k => (k.kind == 1) && isLocal b k x && !clash p b y | none => false
def renOk (p : Prg) (b x y : Int) : Bool := progOk p && (decide (0 ≤ b) && decide (b < p.length)) && (decide (0 ≤ x) && decide (x ≤ 7)) && (decide (0 ≤ y) && decide (y ≤ 7)) && (x != y) && renAt p b.toNat x y
def mapTo {α : Type} (f : α → α) (l : List α) (i : Nat) : List α := (l.take i).map f ++ l.drop i
section
variable {α : Type} {f : α → α} {l : List α} {i : Nat} {x : α}
@[simp] theorem mapTo_len (h : i ≤ l.length) : (mapTo f l i).length = l.length := by simp [mapTo]; omega
theorem mapTo_zero : mapTo f l 0 = l := by simp [mapTo]
theorem mapTo_all : mapTo f l l.length = l.map f := by simp [mapTo]
theorem mapTo_get (h : l[i]? = some x) : (mapTo f l i)[i]? = some x := by
  have hi := (gS h).1
  have e : (List.map f (List.take i l)).length = i := by simp; omega
  rw [mapTo, List.getElem?_append_right (by omega), e, Nat.sub_self, List.getElem?_drop]
  simpa using h
theorem mapTo_set (h : l[i]? = some x) : (mapTo f l i).set i (f x) = mapTo f l (i + 1) := by
  obtain ⟨hi, hx⟩ := gS h
  apply List.ext_getElem?
  intro j
  rw [List.getElem?_set, mapTo_len (by omega)]
  by_cases e : i = j
  · subst e
    rw [if_pos rfl, if_pos hi]
    have e1 : (List.map f (List.take (i + 1) l)).length = i + 1 := by simp; omega
    rw [mapTo, List.getElem?_append_left (by omega)]
    simp [h]
  · rw [if_neg e]
    simp only [mapTo]
    rcases Nat.lt_or_ge j i with h1 | h1
    · rw [List.getElem?_append_left (by simp; omega), List.getElem?_append_left (by simp; omega)]
      simp [h1, show j < i + 1 by omega]
    · rw [List.getElem?_append_right (by simp; omega), List.getElem?_append_right (by simp; omega)]
      simp only [List.length_map, List.length_take, List.getElem?_drop]
      congr 1
      omega
end
end Go.Hm
end
section
namespace Go.Hm
open Go Go.RowKit
section
variable {p : Prg} {b x y : Int} {i : Nat} {k : Blk}
end
end Go.Hm
end
section
namespace Go.Hm
open Go Go.RowKit
section
variable {P : Program} {own : Nat → Prop} {C : Nat → Prop} {w0 : World} {g : Gh} {st : St} {a : Go.Act} {w : World}
end
section
variable {X : Ctx} {st : St} {K : St → Prop} {E : AV → St → Prop} {ds : List (Option Nat)} {l : List Oper} {o : Oper} {ty : TypeId} {pos : String} {aft : Array Edge} {g : Option (Nat × Bool)}
end
def cutL (L : List Stm) (i : Nat) : List Stm := L.take i ++ L.drop (i + 1)
def cutP (p : Prg) (b i : Nat) : Prg := match p[b]? with | some k => setBody p b (cutL k.body i) | none => p
def idleAt (p : Prg) (b i : Nat) : Bool := match p[b]? with
  | some k => match k.body[i]? with
    | some s => ((s.kind == 9) || (s.kind == 10)) && (progOk (cutP p b i) && decide (ownersOf p = ownersOf (cutP p b i)))
    | none => false
  | none => false
end Go.Hm
end
section
namespace Go.Hm
open Go Go.RowKit
abbrev byt (v : Int) : AV := .sc (.int .u8 v)
def brows (bs : List Int) : List (List AV) := bs.map fun v => [byt v]
abbrev bsl (bs : List Int) : AV := .sl 1 (brows bs)
section
variable {bs : List Int} {i : Nat} {f : Nm → Option Nm}
@[simp] theorem brows_len : (brows bs).length = bs.length := by simp [brows]
@[simp] theorem brows_getE {h : i < (brows bs).length} : (brows bs)[i] = [byt (bs[i]'(by simpa using h))] := by simp [brows]
@[simp] theorem brows_tr : (brows bs).map (fun r => r.map (AV.tr f)) = brows bs := by simp [brows]
@[simp] theorem brows_take {n : Nat} : (brows bs).take n = brows (bs.take n) := by simp [brows]
@[simp] theorem brows_drop {n : Nat} : (brows bs).drop n = brows (bs.drop n) := by simp [brows]
end
structure BytesOk (bs : List Int) : Prop where
  len : bs.length ≤ 2000
  rng : ∀ v ∈ bs, 0 ≤ v ∧ v ≤ 255
abbrev rdO (bs : List Int) (pos : Nat) : AO := .row 2 [[bsl bs, iv pos]]
def dsub (D : Nm → Bool) (hp : Nm → Option AO) : Nm → Option AO := fun m => if D m then hp m else none
@[simp] theorem dsub_eq {D : Nm → Bool} {hp : Nm → Option AO} {m : Nm} : dsub D hp m = if D m then hp m else none := rfl
def D12 : Nm → Bool := fun n => Nm.under (.u 1 0 0) n || Nm.under (.u 2 0 0) n
@[simp] theorem D12_eq {n : Nm} : D12 n = (Nm.under (.u 1 0 0) n || Nm.under (.u 2 0 0) n) := rfl
theorem D12_root {n : Nm} (h : D12 n = true) : n.sroot = false := by
  simp only [D12, Bool.or_eq_true] at h
  rcases h with h | h <;> exact under_usroot rfl h
section
variable {X : Ctx} {st : St} {K : St → Prop} {E : AV → St → Prop} {d f : Nat} {ty : TypeId} {pos : String} {aft : Array Edge} {g : Option (Nat × Bool)} {args : Array Operand} {Ts : Array TypeId} {az : List AV} {R : Nm → AV → (Nm → Option AO) → Prop}
theorem x_mutD (D : Nm → Bool) (hD : ∀ n, D n = true → n.sroot = false) (hext : ∀ k i j, X.ext (.u k i j) = true → D (.u k i j) = false ∨ (dsub D st.hp) (.u k i j) ≠ none) (hd : d < X.n := by first | (simp; done) | fail) (ha : args.toList.map (ev st) = az := by simp [fx]; first | done | rfl)
    (hF : FnE X.P X.gl f D az (dsub D st.hp) R noE) (h : ∀ y H', R (.s d) y H' → K ((st.call d D (dsub D st.hp) H').put (some d) y)) :
    SemOp X ⟨some d, .call ⟨.value (.func f), args, Ts⟩, ty, pos, aft, g⟩ K E st := by
  subst ha
  refine call_sem (D := D) (H := dsub D st.hp) (R := R) (E0 := noE) hF (ent_func hF.1 rfl) false ⟨rfl, fun j a a' h h' => ?_⟩ (fun n hn => ?_) (fun n hn => ?_) (fun n hn => ?_) hext (fun e he => by obtain rfl := Option.some.inj he; exact hd) (fun x H' hR => ?_) (fun _ _ h => h.elim)
  · rw [h] at h'
    obtain rfl := Option.some.inj h'
    exact .refl _
  · cases hx : D n with
    | false => rfl
    | true =>
      have h1 := hD n hx
      have h2 := Nm.sroot_under (a := .s d) rfl hn
      rw [h1] at h2
      cases h2
  · simp [hn]
  · simp only [dsub] at hn
    split at hn
    · assumption
    · exact absurd rfl hn
  · exact h x H' hR
theorem x_own (hd : d < X.n := by first | (simp; done) | fail) (ha : args.toList.map (ev st) = az := by simp [fx]; first | done | rfl) (hF : FnOk X.P X.gl f az R) (h : ∀ y H', R (.s d) y H' → K ((st.call d noD noH H').put (some d) y)) :
    SemOp X ⟨some d, .call ⟨.value (.func f), args, Ts⟩, ty, pos, aft, g⟩ K E st := by
  subst ha
  refine call_sem (D := noD) (H := noH) (R := R) (E0 := noE) hF (ent_func hF.1 rfl) false ⟨rfl, fun j a a' h h' => ?_⟩ (fun _ _ => rfl) (fun n hn => by cases hn) (fun n hn => absurd rfl hn) (fun k i j _ => .inl rfl) (fun e he => by obtain rfl := Option.some.inj he; exact hd) (fun x H' hR => ?_) (fun _ _ h => h.elim)
  · rw [h] at h'
    obtain rfl := Option.some.inj h'
    exact .refl _
  · exact h x H' hR
end
def rk (a d : Nat) (m : Nm) : Option Nm :=
  if Nm.under (.s a) m then (if m = .s a then some (.u 2 0 0) else none) else if Nm.under (.u 2 0 0) m then none else if Nm.under (.s d) m then none else if Nm.under (.u 1 0 0) m then (if m = .u 1 0 0 then some (.u 1 0 0) else none) else some m
def St.rdr (st : St) (a d : Nat) (R : AO) : St :=
  { tm := fun t => (st.tm t).tr (rk a d),
    hp := fun m => if m = .u 1 0 0 then some R else if D12 m || Nm.under (.s d) m || Nm.under (.s a) m then none else (st.hp m).map (AO.tr (rk a d)),
    n := st.n, gl := st.gl }
section
variable {st : St} {a d t : Nat} {m : Nm} {R : AO}
@[simp] theorem rk_eq : rk a d m = if Nm.under (.s a) m then (if m = .s a then some (.u 2 0 0) else none) else if Nm.under (.u 2 0 0) m then none else if Nm.under (.s d) m then none else if Nm.under (.u 1 0 0) m then (if m = .u 1 0 0 then some (.u 1 0 0) else none) else some m := rfl
@[simp] theorem rdr_tm : (st.rdr a d R).tm t = (st.tm t).tr (rk a d) := rfl
@[simp] theorem rdr_gl : (st.rdr a d R).gl = st.gl := rfl
@[simp] theorem rdr_hp : (st.rdr a d R).hp m = if m = .u 1 0 0 then some R else if D12 m || Nm.under (.s d) m || Nm.under (.s a) m then none else (st.hp m).map (AO.tr (rk a d)) := rfl
end
theorem rk_comp {a d : Nat} {Hs : Nm → Option AO} (h1 : (Hs (.u 1 0 0)).isSome = true) (h2 : (Hs (.u 2 0 0)).isSome = true) : (fun m => (mv (.s a) (.u 2 0 0) m).bind (cf d D12 Hs)) = rk a d := by
  funext x
  by_cases hx : Nm.under (.s a) x = true
  · have hu : Nm.under (.u 2 0 0) (Nm.ren (.s a) (.u 2 0 0) x) = true := Nm.under_ren x hx
    have hsd := under_s_u (d := d) (V := .u 2 0 0) rfl hu
    by_cases e : x = .s a
    · subst e
      simp [h2, Nm.isU]
    · have := ren_isU (V := .u 2 0 0) hx e
      simp [hx, hu, hsd, this, e]
  · simp only [Bool.not_eq_true] at hx
    by_cases hv : Nm.under (.u 2 0 0) x = true
    · simp [hx, hv]
    · simp only [Bool.not_eq_true] at hv
      by_cases hd : Nm.under (.s d) x = true
      · simp [hx, hv, hd]
      · simp only [Bool.not_eq_true] at hd
        by_cases hw : Nm.under (.u 1 0 0) x = true
        · by_cases e : x = .u 1 0 0
          · subst e
            simp [hx, hv, hd, h1, Nm.isU]
          · have hi : x.isU = false := by
              cases x with
              | s d => simp [Nm.under] at hw
              | u a b c => simp [Nm.under] at hw; exact absurd (by simp [hw]) e
              | c q i j => rfl
            simp [hx, hv, hd, hw, e, hi]
        · simp only [Bool.not_eq_true] at hw
          simp [hx, hv, hd, hw]
section
variable {P : Program} {C : Nat → Prop} {w : World} {g0 : Gh} {H : Nm → Option AO} {n : Nat} {gl : Nat → Option (List AV)} {st : St} {K : St → Prop} {E : AV → St → Prop} {d f : Nat} {ty : TypeId} {ps : String} {aft : Array Edge} {gd : Option (Nat × Bool)} {a0 a1 : Operand} {Ts : Array TypeId} {bs xs : List Int} {pos : Nat}
def OneOk (P : Program) (gl : Nat → Option (List AV)) (f : FuncId) : Prop := ∀ (H : Nm → Option AO) (bs : List Int) (pos : Nat) (xs : List Int), BytesOk bs → pos ≤ 1000000 → (0 < xs.length ∧ xs.length ≤ 1000) → H (.u 1 0 0) = some (rdO bs pos) → H (.u 2 0 0) = some (.row 1 (irows xs)) →
    FnE P gl f D12 [.pt (.u 1 0 0) 0, .hs (.u 2 0 0) 1 0 xs.length] H (fun _ z H' => ∃ v, z = iv v ∧ v ∈ xs ∧ H' (.u 1 0 0) = some (rdO bs (pos + 1))) noE
theorem x_one {t0 t1 : Nat} (hF : OneOk P gl f) (a : Nat) (xs : List Int) (hb : BytesOk bs) (hpos : pos ≤ 1000000) (hx : 0 < xs.length ∧ xs.length ≤ 1000 := by first | (simp; done) | fail) (hV : H (.u 2 0 0) = none) (hd : d < n := by first | (simp; done) | fail)
    (h0 : st.tm t0 = .pt (.u 1 0 0) 0) (h1 : st.tm t1 = .hs (.s a) 1 0 xs.length) (hH : st.hp (.u 1 0 0) = some (rdO bs pos)) (hL : st.hp (.s a) = some (.row 1 (irows xs)))
    (h : ∀ v, v ∈ xs → K ((st.rdr a d (rdO bs (pos + 1))).put (some d) (iv v))) :
    SemOp (ctx0 P C w g0 H n gl) ⟨some d, .call ⟨.value (.func f), #[.tmp t0, .tmp t1], Ts⟩, ty, ps, aft, gd⟩ K E st := by
  have e1 : (st.move (.s a) (.u 2 0 0)).hp (.u 1 0 0) = some (rdO bs pos) := by simp [hH]
  have e2 : (st.move (.s a) (.u 2 0 0)).hp (.u 2 0 0) = some (.row 1 (irows xs)) := by simp [hL]
  have hc := rk_comp (a := a) (d := d) (Hs := dsub D12 (st.move (.s a) (.u 2 0 0)).hp) (by simp [hH]) (by simp [hL])
  refine o_mv (.s a) (.u 2 0 0) (.inl rfl) (.inr (by simp [ctx0, hV])) ?_
  refine SemOp.weak (K' := fun s => ∃ v H1, v ∈ xs ∧ H1 (.u 1 0 0) = some (rdO bs (pos + 1)) ∧ s = (((st.move (.s a) (.u 2 0 0)).call d D12 (dsub D12 (st.move (.s a) (.u 2 0 0)).hp) H1).put (some d) (iv v))) ?_ ?_
  · refine x_mutD (az := [.pt (.u 1 0 0) 0, .hs (.u 2 0 0) 1 0 xs.length]) D12 (fun n h => D12_root h) (fun k i j he => ?_) hd ?_ (hF _ bs pos xs hb hpos hx (by simp [hH]) (by simp [hL])) ?_
    · by_cases hu : Nm.u k i j = .u 1 0 0
      · right
        rw [hu]
        simp [hH]
      · by_cases hu2 : Nm.u k i j = .u 2 0 0
        · right
          rw [hu2]
          simp [hL]
        · left
          simp at hu hu2
          simp only [D12_eq, Nm.under, Bool.or_eq_false_iff, decide_eq_false_iff_not]
          refine ⟨fun e => ?_, fun e => ?_⟩
          · injection e with e1 e2 e3
            exact hu e1 e2 e3
          · injection e with e1 e2 e3
            exact hu2 e1 e2 e3
    · simp [h0, h1]
    · rintro y H1 ⟨v, rfl, hv, hH1⟩
      exact ⟨v, H1, hv, hH1, rfl⟩
  · rintro s ⟨v, H1, hv, hH1, rfl⟩
    refine ⟨((st.rdr a d (rdO bs (pos + 1))).put (some d) (iv v)).hp, fun m ob e => ?_, ?_⟩
    · simp only [put_hp, rdr_hp] at e
      split at e
      · rename_i hm
        subst hm
        simp only [put_hp, St.call, St.nm]
        simp [hH1]
        exact Option.some.inj e
      · split at e
        · cases e
        · rename_i hm1 hm2
          simp only [Bool.or_eq_true, not_or, Bool.not_eq_true] at hm2
          obtain ⟨⟨h12, hsd⟩, hsa⟩ := hm2
          have hu2 : Nm.under (.u 2 0 0) m = false := by
            simp only [D12_eq, Bool.or_eq_false_iff] at h12
            exact h12.2
          obtain ⟨o, ho, rfl⟩ := Option.map_eq_some_iff.1 e
          simp only [put_hp, St.call, St.nm, h12, hsd, Bool.or_false, Bool.false_eq_true, if_false, St.move, hmv, hu2, hsa, ho, Option.map_some, Option.some.injEq]
          rw [AO.tr_tr, ← hc]
          rfl
    · have ht : (((st.move (.s a) (.u 2 0 0)).call d D12 (dsub D12 (st.move (.s a) (.u 2 0 0)).hp) H1).put (some d) (iv v)).tm = ((st.rdr a d (rdO bs (pos + 1))).put (some d) (iv v)).tm := by
        funext t
        by_cases e : t = d
        · simp [St.put, e]
        · simp only [St.put, e, if_false]
          show (((st.tm t).tr (mv (.s a) (.u 2 0 0))).tr (cf d D12 (dsub D12 (st.move (.s a) (.u 2 0 0)).hp))) = (st.tm t).tr (rk a d)
          rw [AV.tr_tr, ← hc]
      rw [ht]
      exact h v hv
end
end Go.Hm
end
section
namespace Go.Hm
open Go Go.RowKit
def rn (d : Nat) (m : Nm) : Option Nm := if Nm.under (.s d) m then none else if Nm.under (.u 1 0 0) m then (if m = .u 1 0 0 then some (.u 1 0 0) else none) else some m
def St.rdn (st : St) (d : Nat) (R : AO) (Hn : Nm → Option AO) : St :=
  { tm := fun t => (st.tm t).tr (rn d),
    hp := fun m => if m = .u 1 0 0 then some R else if Nm.under (.u 1 0 0) m then none else if Nm.under (.s d) m then Hn m else (st.hp m).map (AO.tr (rn d)),
    n := st.n, gl := st.gl }
section
variable {st : St} {d t : Nat} {m : Nm} {R : AO} {Hn : Nm → Option AO}
@[simp] theorem rn_eq : rn d m = if Nm.under (.s d) m then none else if Nm.under (.u 1 0 0) m then (if m = .u 1 0 0 then some (.u 1 0 0) else none) else some m := rfl
@[simp] theorem rdn_tm : (st.rdn d R Hn).tm t = (st.tm t).tr (rn d) := rfl
@[simp] theorem rdn_gl : (st.rdn d R Hn).gl = st.gl := rfl
@[simp] theorem rdn_hp : (st.rdn d R Hn).hp m = if m = .u 1 0 0 then some R else if Nm.under (.u 1 0 0) m then none else if Nm.under (.s d) m then Hn m else (st.hp m).map (AO.tr (rn d)) := rfl
end
theorem rn_comp {d : Nat} {Hs : Nm → Option AO} (h1 : (Hs (.u 1 0 0)).isSome = true) : cf d (Nm.under (.u 1 0 0)) Hs = rn d := by
  funext x
  by_cases hd : Nm.under (.s d) x = true
  · simp [hd]
  · simp only [Bool.not_eq_true] at hd
    by_cases hw : Nm.under (.u 1 0 0) x = true
    · by_cases e : x = .u 1 0 0
      · subst e
        simp [hd, h1, Nm.isU]
      · have hi : x.isU = false := by
          cases x with
          | s d => simp [Nm.under] at hw
          | u a b c => simp [Nm.under] at hw; exact absurd (by simp [hw]) e
          | c q i j => rfl
        simp [hd, hw, e, hi]
    · simp only [Bool.not_eq_true] at hw
      simp [hd, hw]
section
variable {X : Ctx} {st : St} {K : St → Prop} {E : AV → St → Prop} {d f : Nat} {ty : TypeId} {ps : String} {aft : Array Edge} {gd : Option (Nat × Bool)} {args : Array Operand} {Ts : Array TypeId} {az : List AV} {R : Nm → AV → (Nm → Option AO) → Prop} {bs : List Int}
theorem x_rdo (hd : d < X.n := by first | (simp; done) | fail) (hs : (st.hp (.u 1 0 0)).isSome = true) (ha : args.toList.map (ev st) = az) (hF : FnE X.P X.gl f (Nm.under (.u 1 0 0)) az (hsub (.u 1 0 0) st.hp) R noE)
    (h : ∀ z H', R (.s d) z H' → ∃ pos', H' (.u 1 0 0) = some (rdO bs pos') ∧ K ((st.rdn d (rdO bs pos') H').put (some d) z)) :
    SemOp X ⟨some d, .call ⟨.value (.func f), args, Ts⟩, ty, ps, aft, gd⟩ K E st := by
  have hc := rn_comp (d := d) (Hs := hsub (.u 1 0 0) st.hp) (by simpa using hs)
  refine SemOp.weak (K' := fun s => ∃ z H', R (.s d) z H' ∧ s = ((st.call d (Nm.under (.u 1 0 0)) (hsub (.u 1 0 0) st.hp) H').put (some d) z)) ?_ ?_
  · refine x_mut (.u 1 0 0) rfl (fun _ => by rw [← Option.isSome_iff_ne_none]; exact hs) hd ha hF fun z H' hR => ⟨z, H', hR, rfl⟩
  · rintro s ⟨z, H', hR, rfl⟩
    obtain ⟨pos', hH, hK⟩ := h z H' hR
    refine ⟨((st.rdn d (rdO bs pos') H').put (some d) z).hp, fun m ob e => ?_, ?_⟩
    · simp only [put_hp, rdn_hp] at e
      simp only [put_hp, St.call, St.nm]
      split at e
      · rename_i hm
        subst hm
        simp [hH]
        exact Option.some.inj e
      · split at e
        · cases e
        · rename_i hw
          split at e
          · rename_i hsd
            simp [hsd, e]
          · rename_i hsd
            simp only [Bool.not_eq_true] at hw hsd
            simp only [hw, hsd, Bool.or_false, Bool.false_eq_true, if_false]
            rw [hc]
            exact e
    · have ht : ((st.call d (Nm.under (.u 1 0 0)) (hsub (.u 1 0 0) st.hp) H').put (some d) z).tm = ((st.rdn d (rdO bs pos') H').put (some d) z).tm := by
        funext t
        by_cases e : t = d
        · simp [St.put, e]
        · simp only [St.put, e, if_false]
          show (st.tm t).tr (cf d (Nm.under (.u 1 0 0)) (hsub (.u 1 0 0) st.hp)) = (st.tm t).tr (rn d)
          rw [hc]
      rw [ht]
      exact hK
def RdPost {α : Type} (bs : List Int) (V : α → AV) (Q : α → Nat → Prop) : Nm → AV → (Nm → Option AO) → Prop := fun _ z H' => ∃ v pos', z = V v ∧ Q v pos' ∧ H' (.u 1 0 0) = some (rdO bs pos')
theorem x_rd {α : Type} {V : α → AV} {Q : α → Nat → Prop} (hd : d < X.n := by first | (simp; done) | fail) (hs : (st.hp (.u 1 0 0)).isSome = true) (ha : args.toList.map (ev st) = az) (hF : FnE X.P X.gl f (Nm.under (.u 1 0 0)) az (hsub (.u 1 0 0) st.hp) (RdPost bs V Q) noE)
    (h : ∀ v pos', Q v pos' → K ((st.rdn d (rdO bs pos') (fun _ => none)).put (some d) (V v))) :
    SemOp X ⟨some d, .call ⟨.value (.func f), args, Ts⟩, ty, ps, aft, gd⟩ K E st := by
  refine SemOp.weak (K' := fun s => ∃ v pos' H', Q v pos' ∧ s = ((st.rdn d (rdO bs pos') H').put (some d) (V v))) ?_ ?_
  · refine x_rdo (bs := bs) hd hs ha hF ?_
    rintro z H' ⟨v, pos', rfl, hQ, hH⟩
    exact ⟨pos', hH, v, pos', H', hQ, rfl⟩
  · rintro s ⟨v, pos', H', hQ, rfl⟩
    refine ⟨((st.rdn d (rdO bs pos') (fun _ => none)).put (some d) (V v)).hp, fun m ob e => ?_, h v pos' hQ⟩
    simp only [put_hp, rdn_hp] at e ⊢
    split at e
    · rename_i hm; simp only [hm, if_true]; exact e
    · rename_i hm
      rw [if_neg hm]
      split at e
      · cases e
      · rename_i hw
        rw [if_neg hw]
        split at e
        · cases e
        · rename_i hsd
          rw [if_neg hsd]
          exact e
end
def bareS (L : List Stm) : List Stm := L.filter fun s => !((s.kind == 9) || (s.kind == 10))
def bareB (k : Blk) : Blk := { k with body := bareS k.body }
def bareP (p : Prg) : Prg := p.map bareB
theorem bareS_len {L : List Stm} : (bareS L).length ≤ L.length := List.length_filter_le _ _
theorem bareS_step {L : List Stm} {i : Nat} {s : Stm} (h : L[i]? = some s) : bareS (L.take (i + 1)) = if ((s.kind == 9) || (s.kind == 10)) = true then bareS (L.take i) else bareS (L.take i) ++ [s] := by
  rw [List.take_add_one, h]
  simp only [bareS, List.filter_append, Option.toList_some]
  cases e : ((s.kind == 9) || (s.kind == 10))
  · rw [if_neg (by simp)]
    simp only [List.filter_cons, e, Bool.not_false, if_true, List.filter_nil]
  · rw [if_pos rfl]
    simp only [List.filter_cons, e, Bool.not_true, Bool.false_eq_true, if_false, List.filter_nil, List.append_nil]
theorem bareTo_step {p : Prg} {i : Nat} {k : Blk} (h : p[i]? = some k) : setBody (mapTo bareB p i) i (bareS k.body) = mapTo bareB p (i + 1) := by
  rw [← mapTo_set (f := bareB) h]
  have hg := mapTo_get (f := bareB) h
  apply List.ext_getElem?
  intro j
  rw [List.getElem?_set]
  cases hj : (mapTo bareB p i)[j]? with
  | none =>
    have h1 : (setBody (mapTo bareB p i) i (bareS k.body))[j]? = none := by
      rw [List.getElem?_eq_none_iff, setBody_len]
      exact List.getElem?_eq_none_iff.1 hj
    rw [h1]
    by_cases e : i = j
    · subst e; rw [hg] at hj; cases hj
    · rw [if_neg e]
  | some q =>
    rw [setBody_get hj]
    by_cases e : i = j
    · subst e
      rw [hg] at hj
      obtain rfl := Option.some.inj hj
      rw [if_pos rfl, if_pos rfl, if_pos (gS hg).1]
      rfl
    · rw [if_neg e, if_neg e]
end Go.Hm
end
section
namespace Go.Hm
open Go Go.RowKit
def al (N V m : Nm) : Option Nm := if m = N then some V else if Nm.under V m then none else some m
def St.alias (st : St) (N V : Nm) (t : Nat) : St := { tm := fun t' => if t' = t then (st.tm t).tr (al N V) else (st.tm t').tr (kl V), hp := hkl V st.hp, n := st.n, gl := st.gl }
section
variable {st : St} {N V m : Nm} {t t' : Nat}
@[simp] theorem al_eq : al N V m = if m = N then some V else if Nm.under V m then none else some m := rfl
@[simp] theorem alias_tm : (st.alias N V t).tm t' = if t' = t then (st.tm t).tr (al N V) else (st.tm t').tr (kl V) := rfl
@[simp] theorem alias_gl : (st.alias N V t).gl = st.gl := rfl
@[simp] theorem alias_hp : (st.alias N V t).hp m = if Nm.under V m then none else (st.hp m).map (AO.tr (kl V)) := rfl
end
theorem Rw.alias {X : Ctx} {st : St} {a : Go.Act} {w : World} (h : Rw X st a w) (N V : Nm) (t : Nat) (hV : X.ext V = false) : Rw X (st.alias N V t) a w := by
  obtain ⟨C, g, h1, h2, h3, h4, h5, hg⟩ := h
  let g' : Gh := { C := g.C, φ := fun m => if m = V then g.φ N else g.φ m, κ := fun m => if m = V then g.κ N else g.κ m }
  have hs := hg.step (g' := g') (w' := w) (f := kl V) (hp' := hkl V st.hp) rfl (fun n n' e => by
    obtain ⟨rfl, hu⟩ := kl_spec e
    have : ¬ n = V := fun e => by rw [e, Nm.under_self] at hu; cases hu
    simp [g', this]) rfl rfl rfl (Nat.le_refl _) (fun _ _ => rfl) (fun _ _ _ => rfl) (fun m o e => by
    obtain ⟨o', e1, e2, e3⟩ := hkl_old e
    exact .inl ⟨m, o', e1, e2, e3, fun _ _ => rfl⟩)
  refine ⟨C, g', h1, h2, h3, h4, fun k i j he => ?_, ⟨hs.inv, hs.defers, hs.size, fun t' => ?_, hs.glob⟩⟩
  · have : ¬ Nm.u k i j = V := fun e => by rw [e, hV] at he; cases he
    simp only [g', this, if_false]
    exact h5 k i j he
  · by_cases e : t' = t
    · subst e
      simp only [St.alias, if_true]
      refine (hg.slots t').tr (g' := g') (fun _ h => h) (fun _ _ => rfl) (fun n n' e => ?_)
      unfold al at e
      split at e
      · rename_i hn
        subst hn
        obtain rfl := Option.some.inj e
        simp [g']
      · split at e
        · cases e
        · rename_i hu
          obtain rfl := Option.some.inj e
          have : ¬ n = V := fun e => by rw [e, Nm.under_self] at hu; exact hu rfl
          simp [g', this]
    · simp only [St.alias, e, if_false]
      exact hs.slots t'
section
variable {X : Ctx} {st : St} {K : St → Prop} {E : AV → St → Prop} {o : Oper}
theorem o_alias (N V : Nm) (t : Nat) (hV : X.ext V = false) (h : SemOp X o K E (st.alias N V t)) : SemOp X o K E st :=
  fun a w Q hR hE => h a w Q (hR.alias N V t hV) hE
end
section
variable {n : Nm} {p : Prg} {a d i j k : Nat}
@[simp] theorem pRows_rk (h1 : Nm.under (.s a) n = false) (h2 : Nm.under (.s d) n = false) (h3 : Nm.under (.u 2 0 0) n = false) (h4 : Nm.under (.u 1 0 0) n = false) : (pRows n p).map (fun r => r.map (AV.tr (rk a d))) = pRows n p := pRows_tr (by simp [h1, h2, h3, h4])
@[simp] theorem pRows_rn (h2 : Nm.under (.s d) n = false) (h4 : Nm.under (.u 1 0 0) n = false) : (pRows n p).map (fun r => r.map (AV.tr (rn d))) = pRows n p := pRows_tr (by simp [h2, h4])
@[simp] theorem pRows_klu (h : Nm.under (.u i j k) n = false) : (pRows n p).map (fun r => r.map (AV.tr (kl (.u i j k)))) = pRows n p := pRows_tr (by simp [h])
end
end Go.Hm
end
