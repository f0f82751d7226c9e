/-
  Own texts, joined by merge.py: Hm42, Hm43, Hm44, Hm45, Hm46.
-/
import Derived.Test.YtopgafhjmbfaoaaA5
import Derived.Test.YtopgafhjmbfaoaaA6
import Derived.Test.YtopgafhjmbfaoaaA4

section
/-
  The heap machine, part 42: another name, as the reference and the program give it. Own work.
-/
namespace Go.Hm
open Go Go.RowKit

def swapI (n x y : Int) : Int := if n = x then y else n
/-- a statement with y in the place of x -/
def Stm.ren (s : Stm) (x y : Int) : Stm :=
  ⟨s.kind, if s.sets ∨ 9 ≤ s.kind then swapI s.to x y else s.to,
    if s.kind = 1 ∨ s.kind = 6 ∨ s.kind = 7 ∨ s.kind = 8 ∨ s.kind = 2 ∨ s.kind = 5 then swapI s.a x y else s.a, if s.kind = 2 ∨ s.kind = 5 then swapI s.b x y else s.b⟩
def Blk.ren (k : Blk) (x y : Int) : Blk := ⟨k.kind, k.parent, k.params.map (fun n => swapI n x y), k.body.map (fun s => s.ren x y)⟩

/-! ### Inside -/
def insideF (p : Prg) (b : Int) : Nat → Int → Bool
  | 0, j => decide (j = b)
  | n + 1, j => if b < j then (match p[j.toNat]? with | some q => insideF p b n q.parent | none => false) else decide (j = b)
def inside (p : Prg) (c b : Int) : Bool := insideF p b p.length c
theorem insideF_fuel {p : Prg} {b : Int} (hh : Heads p) (hb : 0 ≤ b) : ∀ (n m : Nat) (j : Int), j ≤ n → j ≤ m → insideF p b n j = insideF p b m j
  | 0, 0, _, _, _ => rfl
  | 0, m + 1, j, h, _ => by
    have h : j ≤ 0 := h
    simp only [insideF]
    rw [if_neg (by omega)]
  | n + 1, 0, j, _, h => by
    have h : j ≤ 0 := h
    simp only [insideF]
    rw [if_neg (by omega)]
  | n + 1, m + 1, j, h1, h2 => by
    simp only [insideF]
    split
    · cases hq : p[j.toNat]? with
      | none => rfl
      | some q =>
        have := (hh _ q hq).2.1
        exact insideF_fuel hh hb n m _ (by omega) (by omega)
    · rfl
theorem inside_end {p : Prg} {c b : Int} (h : c ≤ b) : inside p c b = decide (c = b) := by
  unfold inside
  generalize p.length = n
  cases n with
  | zero => rfl
  | succ n => simp only [insideF]; rw [if_neg (by omega)]
theorem inside_step {p : Prg} {c : Nat} {b : Int} {q : Blk} (hh : Heads p) (hb : 0 ≤ b) (hq : p[c]? = some q) (h : b < c) : inside p c b = inside p q.parent b := by
  have hl : c < p.length := (List.getElem?_eq_some_iff.1 hq).1
  have hp := (hh c q hq).2.1
  unfold inside
  obtain ⟨n, hn⟩ : ∃ n, p.length = n + 1 := ⟨p.length - 1, by omega⟩
  rw [insideF_fuel hh hb p.length n q.parent (by omega) (by omega), hn]
  simp only [insideF]
  rw [if_pos h]
  simp [hq]

/-! ### What is used -/
def Blk.us (k : Blk) : List Int := sorted (k.rd ++ k.bd ++ k.dc 9 ++ k.dc 10)
theorem Blk.us_len (k : Blk) : k.us.length ≤ 8 := sorted_len
def touches (p : Prg) (b x : Int) (c : Nat) : Bool := match p[c]? with | some k => decide (x ∈ k.us) && decide (owner p c x = b) | none => false
def touchTo (p : Prg) (b x : Int) : Nat → List Int
  | 0 => []
  | n + 1 => if touches p b x n = true then touchTo p b x n ++ [(n : Int)] else touchTo p b x n
def touched (p : Prg) (b x : Int) : List Int := touchTo p b x p.length
theorem mem_touchTo {p : Prg} {b x : Int} {c : Nat} : ∀ {n : Nat}, (c : Int) ∈ touchTo p b x n ↔ c < n ∧ touches p b x c = true
  | 0 => by simp [touchTo]
  | n + 1 => by
    simp only [touchTo]
    split
    · rename_i h
      simp only [List.mem_append, mem_touchTo (n := n), List.mem_singleton]
      constructor
      · rintro (h' | h')
        · exact ⟨by omega, h'.2⟩
        · obtain rfl : c = n := by omega
          exact ⟨by omega, h⟩
      · rintro ⟨h1, h2⟩
        by_cases e : c = n
        · exact .inr (by omega)
        · exact .inl ⟨by omega, h2⟩
    · rename_i h
      rw [mem_touchTo (n := n)]
      constructor
      · rintro ⟨h1, h2⟩; exact ⟨by omega, h2⟩
      · rintro ⟨h1, h2⟩
        by_cases e : c = n
        · subst e; exact absurd h2 h
        · exact ⟨by omega, h2⟩
theorem touchTo_len {p : Prg} {b x : Int} : ∀ n : Nat, (touchTo p b x n).length ≤ n
  | 0 => by simp [touchTo]
  | n + 1 => by
    have := touchTo_len (p := p) (b := b) (x := x) n
    simp only [touchTo]
    split <;> simp <;> omega
theorem touchTo_lt {p : Prg} {b x z : Int} : ∀ {n : Nat}, z ∈ touchTo p b x n → 0 ≤ z ∧ z < n
  | 0, h => by simp [touchTo] at h
  | n + 1, h => by
    simp only [touchTo] at h
    split at h
    · rcases List.mem_append.1 h with h | h
      · have := touchTo_lt h; omega
      · simp at h; omega
    · have := touchTo_lt h; omega

/-! ### The program with another name -/
def renIf (c : Bool) (x y : Int) (k : Blk) : Blk := if c then k.ren x y else k
/-- the blocks of S are renamed -/
def renS (S : Nat → Bool) (x y : Int) (p : Prg) : Prg := p.mapIdx fun c k => renIf (S c) x y k
theorem renS_get {S : Nat → Bool} {x y : Int} {p : Prg} {c : Nat} : (renS S x y p)[c]? = (p[c]?).map (renIf (S c) x y) := by
  simp [renS, List.getElem?_mapIdx]
@[simp] theorem renS_len {S : Nat → Bool} {x y : Int} {p : Prg} : (renS S x y p).length = p.length := by simp [renS]
theorem renS_congr {S T : Nat → Bool} {x y : Int} {p : Prg} (h : ∀ c, c < p.length → S c = T c) : renS S x y p = renS T x y p := by
  apply List.ext_getElem?
  intro c
  rw [renS_get, renS_get]
  cases hc : p[c]? with
  | none => rfl
  | some k => rw [h c (List.getElem?_eq_some_iff.1 hc).1]
theorem renS_none {x y : Int} {p : Prg} : renS (fun _ => false) x y p = p := by
  apply List.ext_getElem?
  intro c
  rw [renS_get]
  cases p[c]? <;> simp [renIf]
theorem renS_set {S : Nat → Bool} {x y : Int} {p : Prg} {c : Nat} {k : Blk} (hk : p[c]? = some k) (hc : S c = false) : (renS S x y p).set c (k.ren x y) = renS (fun d => S d || d == c) x y p := by
  apply List.ext_getElem?
  intro d
  rw [List.getElem?_set, renS_get, renS_get, renS_len]
  by_cases e : c = d
  · subst e
    have := (List.getElem?_eq_some_iff.1 hk).1
    rw [if_pos rfl, if_pos this, hk]
    simp [renIf]
  · have e' : (d == c) = false := by simpa using fun h => e h.symm
    rw [if_neg e, e', Bool.or_false]
end Go.Hm
end

section
/-
  The heap machine, part 43: when a name may be another one, and a block half renamed. Own work.
-/
namespace Go.Hm
open Go Go.RowKit

def clashAt (p : Prg) (b : Nat) (y : Int) (c : Nat) : Bool := decide (b ≤ c) && match p[c]? with | some k => inside p c b && decide (y ∈ k.us) | none => false
def clash (p : Prg) (b : Nat) (y : Int) : Bool := (List.range p.length).any (clashAt p b y)
def renAt (p : Prg) (b : Nat) (x y : Int) : Bool := match p[b]? with | some k => (k.kind == 1) && isLocal b k x && !clash p b y | none => false
def renOk (p : Prg) (b x y : Int) : Bool := progOk p && (decide (0 ≤ b) && decide (b < p.length)) && (decide (0 ≤ x) && decide (x ≤ 7)) && (decide (0 ≤ y) && decide (y ≤ 7)) && (x != y) && renAt p b.toNat x y
/-- what RenameIn returns -/
def renG (p : Prg) (b x y : Int) : Prg := if renOk p b x y = true then renS (touches p b x) x y p else []
theorem renG_sml {p : Prg} {b x y : Int} (hs : Sml p) : Sml (renG p b x y) := by
  unfold renG
  split
  · have key : ∀ k ∈ renS (touches p b x) x y p, ∃ q ∈ p, k.params.length = q.params.length ∧ k.body.length = q.body.length := by
      intro k hk
      obtain ⟨c, hc⟩ := List.getElem?_of_mem hk
      rw [renS_get] at hc
      cases hq : p[c]? with
      | none => rw [hq] at hc; cases hc
      | some q =>
        rw [hq] at hc
        simp only [Option.map_some, Option.some.injEq] at hc
        subst hc
        refine ⟨q, List.mem_of_getElem? hq, ?_⟩
        unfold renIf
        split <;> simp [Blk.ren]
    refine ⟨by simpa using hs.len, fun k hk => ?_, fun k hk => ?_⟩
    · obtain ⟨q, hq, h1, _⟩ := key k hk
      rw [h1]; exact hs.params q hq
    · obtain ⟨q, hq, _, h2⟩ := key k hk
      rw [h2]; exact hs.body q hq
  · exact ⟨by simp, fun k hk => by simp at hk, fun k hk => by simp at hk⟩

/-- the first i of a list are changed -/
def mapTo {α : Type} (f : α → α) (l : List α) (i : Nat) : List α := (l.take i).map f ++ l.drop i
section
variable {α : Type} {f : α → α} {l : List α} {i : Nat} {x : α}
@[simp] theorem mapTo_len (h : i ≤ l.length) : (mapTo f l i).length = l.length := by simp [mapTo]; omega
theorem mapTo_zero : mapTo f l 0 = l := by simp [mapTo]
theorem mapTo_all : mapTo f l l.length = l.map f := by simp [mapTo]
theorem mapTo_get (h : l[i]? = some x) : (mapTo f l i)[i]? = some x := by
  have hi := (List.getElem?_eq_some_iff.1 h).1
  have e : (List.map f (List.take i l)).length = i := by simp; omega
  rw [mapTo, List.getElem?_append_right (by omega), e, Nat.sub_self, List.getElem?_drop]
  simpa using h
theorem mapTo_set (h : l[i]? = some x) : (mapTo f l i).set i (f x) = mapTo f l (i + 1) := by
  obtain ⟨hi, hx⟩ := List.getElem?_eq_some_iff.1 h
  apply List.ext_getElem?
  intro j
  rw [List.getElem?_set, mapTo_len (by omega)]
  by_cases e : i = j
  · subst e
    rw [if_pos rfl, if_pos hi]
    have e1 : (List.map f (List.take (i + 1) l)).length = i + 1 := by simp; omega
    rw [mapTo, List.getElem?_append_left (by omega)]
    simp [h]
  · rw [if_neg e]
    simp only [mapTo]
    rcases Nat.lt_or_ge j i with h1 | h1
    · rw [List.getElem?_append_left (by simp; omega), List.getElem?_append_left (by simp; omega)]
      simp [h1, show j < i + 1 by omega]
    · rw [List.getElem?_append_right (by simp; omega), List.getElem?_append_right (by simp; omega)]
      simp only [List.length_map, List.length_take, List.getElem?_drop]
      congr 1
      omega
end
/-- block c has other lists -/
def setBlk (p : Prg) (c : Nat) (ps : List Int) (ss : List Stm) : Prg := match p[c]? with | some k => p.set c ⟨k.kind, k.parent, ps, ss⟩ | none => p
end Go.Hm
end

section
/-
  The heap machine, part 44: a program's rows, one block renamed. Own work.
-/
namespace Go.Hm
open Go Go.RowKit

theorem touchTo_asc {p : Prg} {b x : Int} : ∀ n : Nat, (touchTo p b x n).Pairwise (· < ·)
  | 0 => by simp [touchTo]
  | n + 1 => by
    have ih := touchTo_asc (p := p) (b := b) (x := x) n
    simp only [touchTo]
    split
    · rw [List.pairwise_append]
      refine ⟨ih, by simp, fun u hu v hv => ?_⟩
      have := touchTo_lt hu
      simp at hv
      omega
    · exact ih
theorem touched_fresh {p : Prg} {b x z : Int} {i : Nat} (h : (touched p b x)[i]? = some z) : z ∉ (touched p b x).take i := by
  intro hm
  obtain ⟨j, hj, he⟩ := List.getElem_of_mem hm
  obtain ⟨hi, hz⟩ := List.getElem?_eq_some_iff.1 h
  have hji : j < i := by
    rw [List.length_take] at hj
    omega
  have := List.pairwise_iff_getElem.1 (touchTo_asc (p := p) (b := b) (x := x) p.length) j i (by exact Nat.lt_trans hji hi) hi hji
  rw [List.getElem_take] at he
  have e1 : (touchTo p b x p.length)[j]'(Nat.lt_trans hji hi) = z := he
  have e2 : (touchTo p b x p.length)[i]'hi = z := hz
  omega
theorem touched_at {p : Prg} {b x z : Int} {i : Nat} (h : (touched p b x)[i]? = some z) : ∃ c : Nat, z = c ∧ c < p.length ∧ touches p b x c = true := by
  have hm := List.mem_of_getElem? h
  have h1 := touchTo_lt hm
  obtain ⟨c, rfl⟩ : ∃ c : Nat, z = c := ⟨z.toNat, by omega⟩
  have h2 := mem_touchTo.1 hm
  exact ⟨c, rfl, h2.1, h2.2⟩
theorem pRows_ren {n : Nm} {p : Prg} {c : Nat} {k : Blk} {x y : Int} (h : p[c]? = some k) : pRows n (p.set c (k.ren x y)) = pRows n p := by
  apply List.ext_getElem?
  intro d
  rw [pRows_get, pRows_get, List.getElem?_set]
  by_cases e : c = d
  · subst e
    rw [if_pos rfl, if_pos (List.getElem?_eq_some_iff.1 h).1, h]
    simp [Blk.ren]
  · rw [if_neg e]
theorem ren_step {p : Prg} {b x y : Int} {i c : Nat} {k : Blk} (hi : (touched p b x)[i]? = some (c : Int)) (hk : p[c]? = some k) :
    (renS (fun d => decide ((d : Int) ∈ (touched p b x).take i)) x y p).set c (k.ren x y) = renS (fun d => decide ((d : Int) ∈ (touched p b x).take (i + 1))) x y p := by
  rw [renS_set hk (by simpa using touched_fresh hi)]
  congr 1
  funext d
  rw [List.take_add_one, hi]
  have e : (d == c) = decide ((d : Int) = c) := by
    by_cases h : d = c
    · subst h; simp
    · have h' : ¬ (d : Int) = c := by omega
      simp [h, h']
  simp [e]
theorem ren_get {p : Prg} {b x y : Int} {i c : Nat} {k : Blk} (hi : (touched p b x)[i]? = some (c : Int)) (hk : p[c]? = some k) : (renS (fun d => decide ((d : Int) ∈ (touched p b x).take i)) x y p)[c]? = some k := by
  rw [renS_get, hk]
  have : decide ((c : Int) ∈ (touched p b x).take i) = false := by simpa using touched_fresh hi
  simp only [this, Option.map_some]
  rfl
theorem ren_all {p : Prg} {b x y : Int} : renS (fun d => decide ((d : Int) ∈ (touched p b x).take (touched p b x).length)) x y p = renS (touches p b x) x y p := by
  apply renS_congr
  intro c hc
  rw [List.take_length]
  by_cases h : touches p b x c = true
  · rw [h]
    exact decide_eq_true (mem_touchTo.2 ⟨hc, h⟩)
  · have h' : touches p b x c = false := by simpa using h
    rw [h']
    simp only [decide_eq_false_iff_not]
    intro hm
    exact h (mem_touchTo.1 hm).2
end Go.Hm
end

section
/-
  The heap machine, part 45: a function value is called, which writes an object. Own work; generic in the program.
-/
namespace Go.Hm
open Go Go.RowKit

theorem bw_box {hp : Nm → Option AO} {D : Nm → Bool} {n : Nm} {a : AV} (h : hp n = some (.row 1 [[a]])) (hD : D n = false := by first | (simp; done) | fail) : Bw hp D (.pt n 0) (.el [a] 0) := by
  refine .pt n 1 0 [a] [a] [] hD h rfl fun j x y hx hy => ?_
  rw [hx] at hy
  obtain rfl := Option.some.inj hy
  exact .refl _

section
variable {X : Ctx} {st : St} {K : St → Prop} {E : AV → St → Prop} {d f : Nat} {ty : TypeId} {pos : String} {aft : Array Edge} {g : Option (Nat × Bool)} {c : Operand} {args : Array Operand} {Ts : Array TypeId} {xs ys avs as : List AV} {R : Nm → AV → (Nm → Option AO) → Prop}
theorem x_mutv (U : Nm) (hU : U.isU = true) (hext : X.ext U = true → st.hp U ≠ none) (hd : d < X.n) (hv : ev st c = .fn (.func f) xs ys) (ha : xs ++ args.toList.map (ev st) ++ ys = avs) (hB : BwL st.hp (Nm.under U) avs as)
    (hF : FnE X.P X.gl f (Nm.under U) as (hsub U st.hp) R noE) (h : ∀ y H', R (.s d) y H' → K ((st.call d (Nm.under U) (hsub U st.hp) (hcln H')).put (some d) (xcln y))) :
    SemOp X ⟨some d, .call ⟨.value c, args, Ts⟩, ty, pos, aft, g⟩ K E st := by
  subst ha
  refine call_sem (D := Nm.under U) (H := hsub U st.hp) (R := R) (E0 := noE) hF (ent_val hF.1 rfl hv) true hB (fun n hn => ?_) (fun n hn => ?_) (fun n hn => ?_) (fun k i j he => ?_) (fun e he => by obtain rfl := Option.some.inj he; exact hd) (fun x H' hR => ?_) (fun _ _ h => h.elim)
  · cases hx : Nm.under U n with
    | false => rfl
    | true =>
      have h1 := under_usroot hU hx
      have h2 := Nm.sroot_under (a := .s d) rfl hn
      rw [h1] at h2
      cases h2
  · simp [hsub, hn]
  · simp only [hsub] at hn
    split at hn
    · assumption
    · exact absurd rfl hn
  · cases hx : Nm.under U (.u k i j) with
    | false => exact .inl rfl
    | true =>
      right
      have : Nm.u k i j = U := by cases U <;> simp [Nm.isU, Nm.under] at * <;> exact ⟨hx.1, hx.2.1, hx.2.2⟩
      simp only [hsub, hx, if_true]
      rw [this] at he ⊢
      exact hext he
  · exact h x H' hR
/-- a call of a function value that writes the object N, which is called V in it; the rest is read -/
theorem x_mutvc (N V : Nm) (hV : V.isU = true := by rfl) (hN : N.isU = false := by rfl) (hNV : Nm.under V N = false := by first | (simp; done) | fail) (hext : X.ext V = false) (hs : (hsub V (st.move N V).hp V).isSome = true) (hd : d < X.n := by first | (simp; done) | fail)
    (hv : ev (st.move N V) c = .fn (.func f) xs ys) (ha : xs ++ args.toList.map (ev (st.move N V)) ++ ys = avs) (hB : BwL (st.move N V).hp (Nm.under V) avs as)
    (hF : FnE X.P X.gl f (Nm.under V) as (hsub V (st.move N V).hp) R noE) (h : ∀ y H', R (.s d) y H' → K ((st.mutc N V d (hcln H')).put (some d) ((xcln y).tr (mv V N)))) :
    SemOp X ⟨some d, .call ⟨.value c, args, Ts⟩, ty, pos, aft, g⟩ K E st := by
  refine o_mv N V (.inl hN) (.inr hext) (o_mvPost V N (.inr hext) (.inl hN) ?_)
  refine x_mutv V hV (fun e => by rw [hext] at e; cases e) hd hv ha hB hF fun y H' hR => ?_
  rw [mutc_eq hV hNV hs]
  exact h y H' hR
end
end Go.Hm
end

section
/-
  The heap machine, part 46: a program of which the blocks ahead of i have another name. Own work.
-/
namespace Go.Hm
open Go Go.RowKit

def tUpto (p : Prg) (b x : Int) (i : Nat) (c : Nat) : Bool := decide (c < i) && touches p b x c
section
variable {p : Prg} {b x y : Int} {i : Nat} {k : Blk}
theorem upto_zero : renS (tUpto p b x 0) x y p = p := by
  have : tUpto p b x 0 = fun _ => false := by funext c; simp [tUpto]
  rw [this]
  exact renS_none
theorem upto_all : renS (tUpto p b x p.length) x y p = renS (touches p b x) x y p := by
  apply renS_congr
  intro c hc
  simp [tUpto, hc]
theorem upto_get (hk : p[i]? = some k) : (renS (tUpto p b x i) x y p)[i]? = some k := by
  rw [renS_get, hk]
  have : tUpto p b x i i = false := by simp [tUpto]
  simp [this, renIf]
theorem upto_skip (h : touches p b x i = false) : renS (tUpto p b x i) x y p = renS (tUpto p b x (i + 1)) x y p := by
  apply renS_congr
  intro c _
  simp only [tUpto]
  by_cases e : c = i
  · subst e; simp [h]
  · have : (c < i) ↔ (c < i + 1) := by omega
    simp [this]
theorem upto_step (hk : p[i]? = some k) (h : touches p b x i = true) : (renS (tUpto p b x i) x y p).set i (k.ren x y) = renS (tUpto p b x (i + 1)) x y p := by
  rw [renS_set hk (by simp [tUpto])]
  apply renS_congr
  intro c _
  simp only [tUpto]
  by_cases e : c = i
  · subst e; simp [h]
  · have : (c < i) ↔ (c < i + 1) := by omega
    have e' : (c == i) = false := by simpa using e
    simp [this, e']
end
theorem mapTo_same {α : Type} {f : α → α} {l : List α} {i : Nat} {x : α} (h : l[i]? = some x) (hx : f x = x) : mapTo f l (i + 1) = mapTo f l i := by
  rw [← mapTo_set h, hx]
  have hg := mapTo_get (f := f) h
  obtain ⟨hi, he⟩ := List.getElem?_eq_some_iff.1 hg
  apply List.ext_getElem?
  intro j
  rw [List.getElem?_set]
  by_cases e : i = j
  · subst e
    rw [if_pos rfl, if_pos hi, hg]
  · rw [if_neg e]
end Go.Hm
end
