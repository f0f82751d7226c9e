/-
  Own texts, joined by mkclaim.py: Hm33, Hm34, Hm35, Hm36, Hm37, Hm38, Hm39, Hm40, Hm41, Hm42, Hm43, Hm44, Hm45, Hm46, Hm47.
-/
import Derived.Test.YtopgafhjmbfaoaaM09
import Derived.Below
import Derived.Deep.Slices
import Derived.Deep.Fields
import Derived.ChangeSame
import Derived.SizedLaws

section
/-
  The heap machine, part 33: pure functions and walks by hand; blocks with their names in memory. Own work; generic in the program.
-/
namespace Go.Hm
open Go Go.RowKit

theorem FnOk.raw {P : Program} {f : FuncId} {as : List AV} {v0 : Value} (h : FnOk P (fun _ => none) f as (fun _ y _ => y = .sc v0)) {W : World} {g : Gh} {args : Array Value} (hC : ∀ b, g.C b → b < W.heap.size) (hsz : args.size = as.length)
    (hargs : ∀ (j : Nat) v x, args[j]? = some v → as[j]? = some x → RV g W v x) : Calls P f args W fun e W' => e = .returned v0 ∧ Below W.heap.size W W' := by
  have hinv : Inv (ownH g noH) g.C W g noH W := ⟨rfl, rfl, rfl, Nat.le_refl _, fun _ _ _ => rfl, rfl, hC, fun _ _ e => (by cases e), fun _ _ _ e => (by cases e), fun _ _ _ _ _ e => (by cases e)⟩
  refine (h.2 (.s 0) g.C W g args (fun _ _ => rfl) rfl (fun _ e => absurd rfl e) hinv (fun _ _ e => (by cases e)) hsz hargs).mono fun e w' he => ?_
  cases e with
  | returned v =>
    obtain ⟨C', g', H', x, hA, hv, rfl⟩ := he
    refine ⟨by rw [hv.sc_eq], hA.inv.os, hA.inv.tape, hA.inv.output, hA.inv.size, fun b hb => hA.inv.keep b hb ?_⟩
    rintro ⟨n, hn, _⟩
    exact hn rfl
  | panicked ch => obtain ⟨_, _, _, _, _, _, _, _, e⟩ := he; exact e.elim
  | outgrown => exact he.elim
theorem FnOk.of_raw {P : Program} {gl : Nat → Option (List AV)} {f : FuncId} {as : List AV} {v0 : Value} (hc : Callable P f)
    (h : ∀ (w : World) (g : Gh) (args : Array Value), (∀ b, g.C b → b < w.heap.size) → args.size = as.length → (∀ (j : Nat) v x, args[j]? = some v → as[j]? = some x → RV g w v x) → Calls P f args w fun e w' => e = .returned v0 ∧ Below w.heap.size w w') :
    FnOk P gl f as (fun _ y _ => y = .sc v0) := by
  refine ⟨hc, fun root C w g args _ _ _ hinv _ hsz hargs => ?_⟩
  refine (h w g args (fun b hb => hinv.clt b (hinv.hC ▸ hb)) hsz hargs).mono fun e w' he => ?_
  obtain ⟨rfl, hb⟩ := he
  exact ⟨C, g, noH, .sc v0, ⟨fun _ h => h, fun _ h => .inl h, ⟨hb.os, hb.tape, hb.output, hb.size, fun b hl _ => hb.block b hl, hinv.hC, fun b hb' => Nat.lt_of_lt_of_le (hinv.clt b hb') hb.size, fun _ _ e => (by cases e), fun _ _ _ e => (by cases e), fun _ _ _ _ _ e => (by cases e)⟩,
    fun _ e => absurd rfl e, fun _ _ _ => ⟨rfl, rfl⟩, fun _ _ _ _ => ⟨rfl, rfl⟩⟩, .sc v0, rfl⟩

theorem RV.keepB {g : Gh} {w W : World} {v : Value} {x : AV} {n : Nat} (h : RV g w v x) (hC : ∀ b, g.C b → b < n) (hb : Below n w W) : RV g W v x := h.same (fun _ h => h) (fun b hb' => hb.block b (hC b hb')) fun _ => ⟨rfl, rfl⟩

/-- what memory holds where a block with its names is -/
structure ScAt (g : Gh) (w : World) (p : Prg) (j : Nat) (k : Blk) (b o : Nat) : Prop where
  C : g.C b
  idx : w.cell? ⟨b, o, none⟩ = some (.int .i64 j)
  kind : w.cell? ⟨b, o + 1, none⟩ = some (.int .i64 k.kind)
  out : ∃ a, w.cell? ⟨b, o + 2, none⟩ = some (.pointer a) ∧ RV g w (.pointer a) (scopeA p k.parent)
  glob : ∀ x : Nat, x < 8 → w.cell? ⟨b, o + (27 + x), none⟩ = some (.bool (decide ((x : Int) ∈ k.dc 9)))

theorem RV.ptr {g : Gh} {w : World} {v : Value} {p : Prg} {j : Int} (h : RV g w v (scopeA p j)) : ∃ a, v = .pointer a := by
  unfold scopeA at h
  generalize p.length = n at h
  cases n with
  | zero => exact ⟨none, h.sc_eq⟩
  | succ n =>
    simp only [scopeF] at h
    split at h
    · exact ⟨none, h.sc_eq⟩
    · split at h
      · exact ⟨none, h.sc_eq⟩
      · cases h with
        | el b o off row f hC hcell ho hr => exact ⟨_, rfl⟩
theorem RV.scNil {g : Gh} {w : World} {v : Value} {p : Prg} {j : Int} (h : RV g w v (scopeA p j)) (hj : j < 0) : v = .pointer none := by
  rw [scopeA_neg hj] at h
  exact h.sc_eq
theorem RV.scAt {g : Gh} {w : World} {v : Value} {p : Prg} {j : Nat} {k : Blk} (hh : Heads p) (hk : p[j]? = some k) (h : RV g w v (scopeA p j)) : ∃ b o, v = .pointer (some ⟨b, o, none⟩) ∧ ScAt g w p j k b o := by
  rw [scopeA_eq hh hk] at h
  cases h with
  | el b o off row f hC hcell ho hr =>
    have get : ∀ (i : Nat) (u : Value), (scopeRow j k (scopeA p k.parent) k.params)[i]? = some (.sc u) → w.cell? ⟨b, o + i, none⟩ = some u := by
      intro i u hu
      have hi := (List.getElem?_eq_some_iff.1 hu).1
      rw [hcell i hi, (hr i _ hu).sc_eq]
    refine ⟨b, o, rfl, hC, get 0 _ rfl, get 1 _ rfl, ?_, fun x hx => get _ _ (scopeRow_g hx)⟩
    have h2 := hr 2 _ (show (scopeRow j k (scopeA p k.parent) k.params)[2]? = some (scopeA p k.parent) from rfl)
    obtain ⟨a, ha⟩ := h2.ptr
    exact ⟨a, by rw [← ha]; exact hcell 2 (by simp), ha ▸ h2⟩

/-! ### Outwards, from function to function -/
inductive Path (p : Prg) : Int → List Nat → Int → Prop
  | nil (j : Int) : Path p j [] j
  | skip (j : Nat) (k : Blk) (l : List Nat) (j' : Int) (hk : p[j]? = some k) (hn : k.kind ≠ 1) (h : Path p k.parent l j') : Path p j l j'
  | step (j : Nat) (k : Blk) (l : List Nat) (j' : Int) (hk : p[j]? = some k) (hn : k.kind = 1) (h : Path p k.parent l j') : Path p j (j :: l) j'
theorem Path.skipR {p : Prg} {i : Int} {l : List Nat} {j : Nat} {k : Blk} (h : Path p i l j) (hk : p[j]? = some k) (hn : k.kind ≠ 1) : Path p i l k.parent := by
  generalize hj : (j : Int) = j' at h
  induction h with
  | nil _ => subst hj; exact .skip j k [] _ hk hn (.nil _)
  | skip a q l j' ha hq _ ih => exact .skip a q l _ ha hq (ih hj)
  | step a q l j' ha hq _ ih => exact .step a q l _ ha hq (ih hj)
theorem Path.stepR {p : Prg} {i : Int} {l : List Nat} {j : Nat} {k : Blk} (h : Path p i l j) (hk : p[j]? = some k) (hn : k.kind = 1) : Path p i (l ++ [j]) k.parent := by
  generalize hj : (j : Int) = j' at h
  induction h with
  | nil _ => subst hj; exact .step j k [] _ hk hn (.nil _)
  | skip a q l j' ha hq _ ih => exact .skip a q _ _ ha hq (ih hj)
  | step a q l j' ha hq _ ih => exact .step a q _ _ ha hq (ih hj)
theorem Path.len {p : Prg} (hh : Heads p) {i j : Int} {l : List Nat} (h : Path p i l j) : (l.length : Int) + j ≤ i := by
  induction h with
  | nil _ => simp
  | skip a q l j' ha hq _ ih => have := (hh a q ha).2.1; omega
  | step a q l j' ha hq _ ih => have := (hh a q ha).2.1; simp; omega
/-- the name is found at a function -/
def found (p : Prg) (x : Int) (j : Nat) : Option Int := match p[j]? with
  | some q => if x ∈ q.dc 9 then some (-1) else if isLocal j q x then some (j : Int) else none
  | none => none
theorem Path.outer {p : Prg} (hh : Heads p) {x : Int} {i j : Int} {l : List Nat} (h : Path p i l j) (hb : ∀ (k : Blk), p[0]? = some k → k.kind ≠ 1) (hno : ∀ y ∈ l, found p x y = none) : outerF p x p.length i = outerF p x p.length j := by
  induction h with
  | nil _ => rfl
  | skip a q l j' ha hq _ ih =>
    by_cases h0 : 0 < a
    · rw [outerF_step hh ha h0, if_pos hq]
      exact ih hno
    · obtain rfl : a = 0 := by omega
      have := (hh 0 q ha).2.1
      rw [← ih hno, outerF_end (by simp), outerF_end (by omega)]
  | step a q l j' ha hq _ ih =>
    have h0 : 0 < a := by
      rcases Nat.eq_zero_or_pos a with rfl | h
      · exact absurd hq (hb q ha)
      · exact h
    rw [outerF_step hh ha h0, if_neg (by simp [hq])]
    have hf := hno a (by simp)
    simp only [found, ha] at hf
    split at hf
    · cases hf
    · split at hf
      · cases hf
      · rename_i h1 h2
        rw [if_neg h1, if_neg h2]
        exact ih fun y hy => hno y (by simp [hy])
/-- the first function at which the name is found -/
theorem Path.found {p : Prg} (hh : Heads p) {x r : Int} {i j : Int} {l : List Nat} {y : Nat} (h : Path p i (l ++ [y]) j) (hb : ∀ (k : Blk), p[0]? = some k → k.kind ≠ 1) (hno : ∀ y ∈ l, Hm.found p x y = none) (hf : Hm.found p x y = some r) : outerF p x p.length i = r := by
  generalize hl : l ++ [y] = l' at h
  induction h generalizing l with
  | nil _ => simp at hl
  | skip a q l' j' ha hq _ ih =>
    by_cases h0 : 0 < a
    · rw [outerF_step hh ha h0, if_pos hq]
      exact ih hno hl
    · obtain rfl : a = 0 := by omega
      have := (hh 0 q ha).2.1
      have h2 := ih hno hl
      rw [outerF_end (by omega)] at h2
      rw [← h2, outerF_end (by simp)]
  | step a q l' j' ha hq _ ih =>
    have h0 : 0 < a := by
      rcases Nat.eq_zero_or_pos a with rfl | h
      · exact absurd hq (hb q ha)
      · exact h
    rw [outerF_step hh ha h0, if_neg (by simp [hq])]
    cases l with
    | nil =>
      simp only [List.nil_append, List.cons.injEq] at hl
      obtain ⟨rfl, _⟩ := hl
      simp only [Hm.found, ha] at hf
      split at hf
      · rename_i h1; rw [if_pos h1]; exact Option.some.inj hf
      · rename_i h1
        rw [if_neg h1]
        split at hf
        · rename_i h2; rw [if_pos h2]; exact Option.some.inj hf
        · cases hf
    | cons z l =>
      simp only [List.cons_append, List.cons.injEq] at hl
      obtain ⟨rfl, hl⟩ := hl
      have hf1 := hno z (by simp)
      simp only [Hm.found, ha] at hf1
      split at hf1
      · cases hf1
      · split at hf1
        · cases hf1
        · rename_i h1 h2
          rw [if_neg h1, if_neg h2]
          exact ih (fun y hy => hno y (by simp [hy])) hl

end Go.Hm
end

section
/-
  The heap machine, part 34: what is known of programs of valid shape; declarations. Own work.
-/
namespace Go.Hm
open Go Go.RowKit

/-- the names of a block are names -/
structure NmOk (k : Blk) : Prop where
  kinds : ∀ s ∈ k.body, 0 ≤ s.kind ∧ s.kind ≤ 11
  reads : ∀ s ∈ k.body, ∀ x ∈ s.reads, 0 ≤ x ∧ x ≤ 7
  tos : ∀ s ∈ k.body, 0 ≤ s.to ∧ s.to ≤ 7
  params : ∀ x ∈ k.params, 0 ≤ x ∧ x ≤ 7
/-- a program of valid shape -/
structure ShapeP (p : Prg) : Prop where
  sml : Sml p
  heads : Heads p
  head : ∀ (i : Nat) k, p[i]? = some k → HeadOk i k
  stm : ∀ (i : Nat) k, p[i]? = some k → ∀ s ∈ k.body, StmOk p i k s = true
  len : 1 ≤ p.length ∧ p.length ≤ 7
  body : ∀ k ∈ p, k.body.length ≤ 12
theorem ShapeP.of {p : Prg} (hs : Sml p) (h : shapeOk p = true) : ShapeP p := by
  obtain ⟨h1, h2, h3, h4, _⟩ := shapeOk_heads h
  have key : ∀ (i : Nat) k, p[i]? = some k → HeadOk i k ∧ k.body.length ≤ 12 ∧ k.body.all (StmOk p i k) = true := fun i k hk =>
    blkOk_head hk (List.all_eq_true.1 h4 i (List.mem_range.2 (List.getElem?_eq_some_iff.1 hk).1))
  refine ⟨hs, h1, fun i k hk => (key i k hk).1, fun i k hk s hm => List.all_eq_true.1 (key i k hk).2.2 s hm, ⟨h2, h3⟩, fun k hk => ?_⟩
  obtain ⟨i, hi⟩ := List.getElem?_of_mem hk
  exact (key i k hi).2.1
theorem StmOk.kind {p : Prg} {i : Nat} {k : Blk} {s : Stm} (h : StmOk p i k s = true) : 0 ≤ s.kind ∧ s.kind ≤ 11 := by
  by_cases hk : 0 ≤ s.kind ∧ s.kind ≤ 11
  · exact hk
  · have h2 : ¬ (s.kind = 0 ∨ s.kind = 1 ∨ s.kind = 2 ∨ s.kind = 3 ∨ s.kind = 4 ∨ s.kind = 5 ∨ s.kind = 6 ∨ s.kind = 7 ∨ s.kind = 8 ∨ s.kind = 9 ∨ s.kind = 10 ∨ s.kind = 11) := by omega
    simp only [not_or] at h2
    simp [StmOk, h2] at h
theorem ShapeP.names {p : Prg} (h : ShapeP p) : ∀ k ∈ p, NmOk k := by
  intro k hk
  obtain ⟨i, hi⟩ := List.getElem?_of_mem hk
  have hst := h.stm i k hi
  have hhd := h.head i k hi
  refine ⟨fun s hs => StmOk.kind (hst s hs), fun s hs x hx => ?_, fun s hs => ?_, fun x hx => ?_⟩
  · have := hst s hs
    simp only [StmOk, Bool.and_eq_true] at this
    have := List.all_eq_true.1 this.1.2 x hx
    simpa using this
  · have := hst s hs
    simp only [StmOk, Bool.and_eq_true] at this
    simpa using this.1.1
  · unfold HeadOk at hhd
    split at hhd
    · have := List.eq_nil_of_length_eq_zero hhd.2.2
      rw [this] at hx
      cases hx
    · rcases hhd.2.2.2.2 with h0 | ⟨h1, _, h3, h4⟩
      · rw [List.eq_nil_of_length_eq_zero h0] at hx
        cases hx
      · match hp : k.params, h1, hx with
        | [y], _, hx =>
          obtain rfl := List.mem_singleton.1 hx
          rw [hp] at h3 h4
          exact ⟨h3, h4⟩
theorem ShapeP.kind0 {p : Prg} (h : ShapeP p) {i : Nat} {k : Blk} (hk : p[i]? = some k) : k.kind = 0 ↔ i = 0 := by
  have := h.head i k hk
  unfold HeadOk at this
  split at this <;> omega
theorem ShapeP.fun0 {p : Prg} (h : ShapeP p) : ∀ k, p[0]? = some k → k.kind ≠ 1 := by
  intro k hk
  have := (h.kind0 hk).2 rfl
  omega
/-- the whole program declares nothing -/
theorem ShapeP.decl0 {p : Prg} (h : ShapeP p) {k : Blk} (hk : p[0]? = some k) {d : Int} (hd : d = 9 ∨ d = 10) : k.dc d = [] := by
  have hnil : declAll k d = [] := by
    simp only [declAll, List.map_eq_nil_iff, List.filter_eq_nil_iff]
    intro s hs hsd
    have hst := h.stm 0 k hk s hs
    have hk0 := (h.kind0 hk).2 rfl
    simp only [decide_eq_true_eq] at hsd
    rcases hd with rfl | rfl
    · simp [StmOk, hsd, hk0] at hst
    · simp [StmOk, hsd, hk0] at hst
  simp only [Blk.dc, hnil, sorted]
  decide

theorem outerF_ge {p : Prg} {x : Int} : ∀ (n : Nat) (j : Int), -1 ≤ outerF p x n j
  | 0, _ => by simp [outerF]
  | n + 1, j => by
    simp only [outerF]
    repeat' split
    all_goals first | omega | exact outerF_ge n _
theorem outer_ge {p : Prg} {b : Nat} {x : Int} : -1 ≤ outer p b x := by
  unfold outer
  split
  · exact outerF_ge _ _
  · omega
theorem mem_sortedAt {xs : List Int} {n : Nat} (h : n < 8) : (n : Int) ∈ sorted xs ↔ (n : Int) ∈ xs := by
  rw [mem_sorted]
  exact ⟨fun h => h.1, fun h' => ⟨h', by omega, by omega⟩⟩

end Go.Hm
end

section
/-
  The heap machine, part 35: rows that are filled from the left; copies of programs. Own work.
-/
namespace Go.Hm
open Go Go.RowKit

/-- the first x of eight -/
def rowTo (O : List Int) (x : Nat) : List Int := O.take x ++ List.replicate (8 - x) 0
section
variable {O : List Int} {x : Nat}
@[simp] theorem rowTo_len (hO : O.length = 8) (hx : x ≤ 8) : (rowTo O x).length = 8 := by simp [rowTo]; omega
end
/-! ### A program that is copied block by block -/
def nilS : AV := .sc (.slice none 0 0)
def zblk : List AV := [iv 0, iv 0, nilS, nilS]
def pRow (n : Nm) (j : Nat) (k : Blk) : List AV := [iv k.kind, iv k.parent, .hs (.c n j 2) 1 0 k.params.length, .hs (.c n j 3) 4 0 k.body.length]
/-- the rows of which the first i are there -/
def cRows (n : Nm) (p : Prg) (i : Nat) : List (List AV) := p.mapIdx (fun j k => if j < i then pRow n j k else zblk)
structure CopP (hp : Nm → Option AO) (n : Nm) (p : Prg) (i : Nat) : Prop where
  top : hp n = some (.row 4 (cRows n p i))
  params : ∀ (j : Nat) k, j < i → p[j]? = some k → hp (.c n j 2) = some (.row 1 (irows k.params))
  body : ∀ (j : Nat) k, j < i → p[j]? = some k → hp (.c n j 3) = some (.row 4 (srows k.body))
section
variable {p : Prg} {i j a b : Nat} {n m k1 : Nm} {k : Blk} {f : Nm → Option Nm}
@[simp] theorem cRows_len : (cRows n p i).length = p.length := by simp [cRows]
theorem cRows_get (hk : p[j]? = some k) : (cRows n p i)[j]? = some (if j < i then pRow n j k else zblk) := by simp [cRows, hk]
theorem cRows_zero : List.replicate p.length zblk = cRows n p 0 := by
  apply List.ext_getElem?
  intro j
  cases hk : p[j]? with
  | none =>
    have := List.getElem?_eq_none_iff.1 hk
    rw [List.getElem?_eq_none (by simp; omega), List.getElem?_eq_none (by simp; omega)]
  | some k =>
    have := (List.getElem?_eq_some_iff.1 hk).1
    rw [cRows_get hk]
    simp [this]
theorem cRows_all : cRows n p p.length = pRows n p := by
  apply List.ext_getElem?
  intro j
  cases hk : p[j]? with
  | none =>
    have := List.getElem?_eq_none_iff.1 hk
    rw [List.getElem?_eq_none (by simp; omega), List.getElem?_eq_none (by simp; omega)]
  | some k =>
    rw [cRows_get hk, if_pos (List.getElem?_eq_some_iff.1 hk).1, pRows_get, hk]
    rfl
theorem cRows_tr (h : ∀ j l, j < i → f (.c n j l) = some (.c m j l)) : (cRows n p i).map (fun r => r.map (AV.tr f)) = cRows m p i := by
  apply List.ext_getElem?
  intro j
  rw [List.getElem?_map]
  cases hk : p[j]? with
  | none =>
    have := List.getElem?_eq_none_iff.1 hk
    rw [List.getElem?_eq_none (by simp; omega), List.getElem?_eq_none (by simp; omega)]
    rfl
  | some k =>
    rw [cRows_get hk, cRows_get hk]
    by_cases e : j < i
    · simp [e, pRow, h j _ e]
    · simp [e, zblk, nilS]
@[simp] theorem cRows_kl {d : Nat} (h : Nm.under (.s d) n = false) : (cRows n p i).map (fun r => r.map (AV.tr (kl (.s d)))) = cRows n p i := cRows_tr (by simp [h])
@[simp] theorem cRows_mv1 (h : Nm.under (.s a) n = true) : (cRows n p i).map (fun r => r.map (AV.tr (mv (.s a) k1))) = cRows (Nm.ren (.s a) k1 n) p i := cRows_tr (by simp [h])
@[simp] theorem cRows_mv2 (h : Nm.under (.s a) n = false) (h' : Nm.under (.s b) n = false) : (cRows n p i).map (fun r => r.map (AV.tr (mv (.s a) (.s b)))) = cRows n p i := cRows_tr (by simp [h, h'])
@[simp] theorem cRows_mv3 {q : Nm} {l : Nat} (h : Nm.under (.s a) n = false) (hq : (q = n) = False) (hq' : Nm.under (.c q b l) n = false) : (cRows n p i).map (fun r => r.map (AV.tr (mv (.s a) (.c q b l)))) = cRows n p i := by
  have : ¬ n = q := fun e => by simp [e] at hq
  exact cRows_tr (by simp [h, hq', this])
/-- a block is stored -/
theorem cRows_set {d e : Nat} (hk : p[i]? = some k) (hd : Nm.under (.s d) n = false) (he : Nm.under (.s e) n = false) (hde : d ≠ e) (h2 : Nm.under (.c n i 2) n = false) (h3 : Nm.under (.c n i 3) n = false) :
    ((rowsSet (cRows n p i) i 0 [iv k.kind, iv k.parent, .hs (.s d) 1 0 k.params.length, .hs (.s e) 4 0 k.body.length]).map (fun r => r.map (AV.tr (mv (.s d) (.c n i 2))))).map (fun r => r.map (AV.tr (mv (.s e) (.c n i 3)))) = cRows n p (i + 1) := by
  apply List.ext_getElem?
  intro j
  simp only [rowsSet, List.getElem?_map, List.getElem?_modify]
  have hed : ¬ e = d := fun h => hde h.symm
  cases hj : p[j]? with
  | none =>
    have := List.getElem?_eq_none_iff.1 hj
    rw [List.getElem?_eq_none (by simp; omega), List.getElem?_eq_none (by simp; omega)]
    rfl
  | some q =>
    rw [cRows_get hj, cRows_get hj]
    by_cases e1 : i = j
    · subst e1
      rw [hk] at hj
      obtain rfl := Option.some.inj hj
      simp [pRow, zblk, hd, he, hed, h2, h3]
    · by_cases e2 : j < i
      · have e3 : j < i + 1 := by omega
        have e4 : ¬ j = i := by omega
        simp [e1, e2, e3, e4, pRow, hd, he, h2, h3]
      · have e3 : ¬ j < i + 1 := by omega
        simp [e1, e2, e3, zblk, nilS]
end

end Go.Hm
end

section
/-
  The heap machine, part 36: full programs again. Own work.
-/
namespace Go.Hm
open Go Go.RowKit

end Go.Hm
end

section
/-
  The heap machine, part 37: sizes and copies, as the laws make them. Own work.
-/
namespace Go.Hm
open Go Go.RowKit

/-- no list is longer than memory -/
structure Big (p : Prg) : Prop where
  len : p.length ≤ 1152921504606846976
  params : ∀ k ∈ p, k.params.length ≤ 1152921504606846976
  body : ∀ k ∈ p, k.body.length ≤ 1152921504606846976
/-- the first i of a list, and nothing behind -/
def pre {α : Type} (z : α) (l : List α) (i : Nat) : List α := l.take i ++ List.replicate (l.length - i) z
section
variable {α : Type} {z x : α} {l : List α} {i : Nat}
@[simp] theorem pre_len (h : i ≤ l.length) : (pre z l i).length = l.length := by simp [pre]; omega
end
theorem srows_set {ss : List Stm} {i : Nat} {s : Stm} : rowsSet (srows ss) i 0 s.cells = srows (ss.set i s) := by
  simp only [rowsSet, srows]
  apply List.ext_getElem?
  intro j
  simp only [List.getElem?_modify, List.getElem?_map, List.getElem?_set]
  by_cases h : i = j
  · subst h
    cases hx : ss[i]? with
    | none =>
      have : ¬ i < ss.length := fun hl => by rw [List.getElem?_eq_getElem hl] at hx; cases hx
      simp [this]
    | some y =>
      have : i < ss.length := (List.getElem?_eq_some_iff.1 hx).1
      simp [this]
  · simp [h]

end Go.Hm
end

section
/-
  The heap machine, part 38: names that are changed between operations; calls that write. Own work; generic in the program.
-/
namespace Go.Hm
open Go Go.RowKit

section
variable {X : Ctx} {st : St} {K : St → Prop} {E : AV → St → Prop} {ds : List (Option Nat)} {l : List Oper} {o : Oper}
theorem o_mv (n0 n1 : Nm) (h0 : n0.isU = false ∨ X.ext n0 = false) (h1 : n1.isU = false ∨ X.ext n1 = false) (h : SemOp X o K E (st.move n0 n1)) : SemOp X o K E st :=
  fun a w Q hR hE => h a w Q (hR.move n0 n1 h0 h1) hE
theorem o_mvPost (n0 n1 : Nm) (h0 : n0.isU = false ∨ X.ext n0 = false) (h1 : n1.isU = false ∨ X.ext n1 = false) (h : SemOp X o (fun s => K (s.move n0 n1)) E st) : SemOp X o K E st := by
  refine SemOp.post h ?_
  intro s a w hR hK
  exact ⟨_, hR.move n0 n1 h0 h1, hK⟩
end
section
variable {p : Prg} {i a b l j : Nat} {n q k1 : Nm} {k : Blk}
@[simp] theorem cRows_mv4 (hq : (q = n) = False) (hq' : Nm.under (.c q a b) n = false) (hl : i ≤ l) : (cRows n p i).map (fun r => r.map (AV.tr (mv (.c q a b) (.c n l j)))) = cRows n p i := by
  have h1 : ¬ n = q := fun e => by simp [e] at hq
  have h2 : Nm.under (.c n l j) n = false := by
    cases h : Nm.under (.c n l j) n with
    | false => rfl
    | true => exact absurd rfl (Nm.under_not_c h).2
  refine cRows_tr fun i' j' hi => ?_
  have h3 : ¬ i' = l := by omega
  simp [h1, hq', h2, h3]
end

/-! ### Calls that write what has the name U -/
theorem under_usroot {U : Nm} (hU : U.isU = true) : ∀ {n : Nm}, Nm.under U n = true → n.sroot = false := by
  intro n
  induction n with
  | s d => intro h; cases U <;> simp [Nm.isU, Nm.under] at *
  | u k i j => intro _; rfl
  | c q i j ih =>
    intro h
    simp only [Nm.under, Bool.or_eq_true, decide_eq_true_eq] at h
    rcases h with h | h
    · rw [← h] at hU; cases hU
    · exact ih h
/-- the objects that have names under U -/
def hsub (U : Nm) (hp : Nm → Option AO) : Nm → Option AO := fun m => if Nm.under U m then hp m else none
section
variable {X : Ctx} {st : St} {K : St → Prop} {E : AV → St → Prop} {d f : Nat} {ty : TypeId} {pos : String} {aft : Array Edge} {g : Option (Nat × Bool)} {args : Array Operand} {Ts : Array TypeId} {as : List AV} {R : Nm → AV → (Nm → Option AO) → Prop}
theorem x_mut (U : Nm) (hU : U.isU = true) (hext : X.ext U = true → st.hp U ≠ none) (hd : d < X.n := by first | (simp; done) | fail) (ha : args.toList.map (ev st) = as := by simp [fx]; first | done | rfl)
    (hF : FnE X.P X.gl f (Nm.under U) as (hsub U st.hp) R noE) (h : ∀ y H', R (.s d) y H' → K ((st.call d (Nm.under U) (hsub U st.hp) H').put (some d) y)) :
    SemOp X ⟨some d, .call ⟨.value (.func f), args, Ts⟩, ty, pos, aft, g⟩ K E st := by
  subst ha
  refine call_sem (D := Nm.under U) (H := hsub U st.hp) (R := R) (E0 := noE) hF (ent_func hF.1 rfl) false ⟨rfl, fun j a a' h h' => ?_⟩ (fun n hn => ?_) (fun n hn => ?_) (fun n hn => ?_) (fun k i j he => ?_) (fun e he => by obtain rfl := Option.some.inj he; exact hd) (fun x H' hR => ?_) (fun _ _ h => h.elim)
  · rw [h] at h'
    obtain rfl := Option.some.inj h'
    exact .refl _
  · cases hx : Nm.under U n with
    | false => rfl
    | true =>
      have h1 := under_usroot hU hx
      have h2 := Nm.sroot_under (a := .s d) rfl hn
      rw [h1] at h2
      cases h2
  · simp [hsub, hn]
  · simp only [hsub] at hn
    split at hn
    · assumption
    · exact absurd rfl hn
  · cases hx : Nm.under U (.u k i j) with
    | false => exact .inl rfl
    | true =>
      right
      have : Nm.u k i j = U := by cases U <;> simp [Nm.isU, Nm.under] at * <;> exact ⟨hx.1, hx.2.1, hx.2.2⟩
      simp only [hsub, hx, if_true]
      rw [this] at he ⊢
      exact hext he
  · exact h x H' hR
end
section
variable {st : St} {d t : Nat} {D : Nm → Bool} {H H' : Nm → Option AO} {m : Nm}
@[simp] theorem call_tm : (st.call d D H H').tm t = (st.tm t).tr (cf d D H) := rfl
@[simp] theorem call_gl : (st.call d D H H').gl = st.gl := rfl
@[simp] theorem call_hp : (st.call d D H H').hp m = if D m || Nm.under (.s d) m then H' m else (st.hp m).map (AO.tr (cf d D H)) := rfl
@[simp] theorem cf_eq : cf d D H m = if Nm.under (.s d) m then none else if D m then (if m.isU && (H m).isSome then some m else none) else some m := rfl
@[simp] theorem hsub_eq {U : Nm} {hp : Nm → Option AO} : hsub U hp m = if Nm.under U m then hp m else none := rfl
end

end Go.Hm
end

section
/-
  The heap machine, part 39: a call that writes an object of many. Own work; generic in the program.
-/
namespace Go.Hm
open Go Go.RowKit

theorem AV.tr_tr (f g : Nm → Option Nm) (a : AV) : (a.tr f).tr g = a.tr (fun m => (f m).bind g) := by
  refine AV.rec (motive_1 := fun a => (a.tr f).tr g = a.tr (fun m => (f m).bind g)) (motive_2 := fun l => trLL g (trLL f l) = trLL (fun m => (f m).bind g) l) (motive_3 := fun l => trL g (trL f l) = trL (fun m => (f m).bind g) l) ?_ ?_ ?_ ?_ ?_ ?_ ?_ ?_ ?_ ?_ ?_ ?_ ?_ ?_ ?_ ?_ a
  all_goals intros
  all_goals simp only [AV.tr, trL, trLL, *]
  all_goals (split <;> simp_all [AV.tr])
theorem AO.tr_tr (f g : Nm → Option Nm) (o : AO) : (o.tr f).tr g = o.tr (fun m => (f m).bind g) := by
  have h : AV.tr g ∘ AV.tr f = AV.tr (fun m => (f m).bind g) := funext fun a => AV.tr_tr f g a
  cases o with
  | row z rows => simp [AO.tr, h]
  | map es => simp [AO.tr, AV.tr_tr]

/-- names behind a call that writes N, which is called V meanwhile -/
def rtf (N V : Nm) (d : Nat) (m : Nm) : Option Nm := if Nm.under N m then (if m = N then some N else none) else if Nm.under V m then none else if Nm.under (.s d) m then none else some m
def St.mutc (st : St) (N V : Nm) (d : Nat) (H' : Nm → Option AO) : St :=
  { tm := fun t => (st.tm t).tr (rtf N V d),
    hp := fun m => if Nm.under N m then (if mv V N (Nm.ren N V m) = some m then (H' (Nm.ren N V m)).map (AO.tr (mv V N)) else none) else if Nm.under V m then none else if Nm.under (.s d) m then (H' m).map (AO.tr (mv V N)) else (st.hp m).map (AO.tr (rtf N V d)),
    n := st.n, gl := st.gl }
section
variable {st : St} {N V m : Nm} {d t : Nat} {H' : Nm → Option AO}
@[simp] theorem rtf_eq : rtf N V d m = if Nm.under N m then (if m = N then some N else none) else if Nm.under V m then none else if Nm.under (.s d) m then none else some m := rfl
@[simp] theorem mutc_tm : (st.mutc N V d H').tm t = (st.tm t).tr (rtf N V d) := rfl
@[simp] theorem mutc_gl : (st.mutc N V d H').gl = st.gl := rfl
@[simp] theorem mutc_hp : (st.mutc N V d H').hp m = if Nm.under N m then (if mv V N (Nm.ren N V m) = some m then (H' (Nm.ren N V m)).map (AO.tr (mv V N)) else none) else if Nm.under V m then none else if Nm.under (.s d) m then (H' m).map (AO.tr (mv V N)) else (st.hp m).map (AO.tr (rtf N V d)) := rfl
end
theorem ren_isU {N V : Nm} {x : Nm} (h : Nm.under N x = true) (hne : x ≠ N) : (Nm.ren N V x).isU = false := by
  cases x with
  | s d => simp [Nm.under] at h; exact absurd h hne
  | u a b c => simp [Nm.under] at h; exact absurd h hne
  | c q i j => simp [Nm.ren, hne]
theorem under_s_u {V n : Nm} {d : Nat} (hV : V.isU = true) (h : Nm.under V n = true) : Nm.under (.s d) n = false := by
  cases hx : Nm.under (.s d) n with
  | false => rfl
  | true =>
    have h1 := under_usroot hV h
    have h2 := Nm.sroot_under (a := .s d) rfl hx
    rw [h1] at h2
    cases h2
theorem rtf_comp {N V : Nm} {d : Nat} {Hs : Nm → Option AO} (hV : V.isU = true) (hNV : Nm.under V N = false) (hs : (Hs V).isSome = true) : (fun m => ((mv N V m).bind (cf d (Nm.under V) Hs)).bind (mv V N)) = rtf N V d := by
  funext x
  by_cases hx : Nm.under N x = true
  · have hu : Nm.under V (Nm.ren N V x) = true := Nm.under_ren x hx
    have hsd := under_s_u (d := d) hV hu
    by_cases e : x = N
    · subst e
      simp [hV, hs, Nm.under_self, hsd] at hsd ⊢
      simp [hsd]
    · have := ren_isU (V := V) hx e
      simp [hx, hu, hsd, this, e]
  · simp only [Bool.not_eq_true] at hx
    by_cases hv : Nm.under V x = true
    · simp [hx, hv]
    · simp only [Bool.not_eq_true] at hv
      by_cases hd : Nm.under (.s d) x = true
      · simp [hx, hv, hd]
      · simp only [Bool.not_eq_true] at hd
        simp [hx, hv, hd]
theorem mutc_eq {st : St} {N V : Nm} {d : Nat} {H' : Nm → Option AO} {y : AV} (hV : V.isU = true) (hNV : Nm.under V N = false) (hs : (hsub V (st.move N V).hp V).isSome = true) :
    (((st.move N V).call d (Nm.under V) (hsub V (st.move N V).hp) H').put (some d) y).move V N = (st.mutc N V d H').put (some d) (y.tr (mv V N)) := by
  have hc := rtf_comp (N := N) (d := d) hV hNV hs
  have e1 : ∀ a : AV, ((a.tr (mv N V)).tr (cf d (Nm.under V) (hsub V (st.move N V).hp))).tr (mv V N) = a.tr (rtf N V d) := by
    intro a
    rw [AV.tr_tr (mv N V), AV.tr_tr, ← hc]
  have e2 : ∀ o : AO, ((o.tr (mv N V)).tr (cf d (Nm.under V) (hsub V (st.move N V).hp))).tr (mv V N) = o.tr (rtf N V d) := by
    intro o
    rw [AO.tr_tr (mv N V), AO.tr_tr, ← hc]
  unfold St.move
  simp only [St.nm, St.put, St.mutc]
  congr 1
  · funext t
    by_cases h : t = d
    · simp [h]
    · simp only [h, if_false]
      exact e1 _
  · funext m
    simp only [hmv]
    by_cases h1 : Nm.under N m = true
    · rw [if_pos h1, if_pos h1]
      have hu : Nm.under V (Nm.ren N V m) = true := Nm.under_ren m h1
      simp only [St.call, St.nm, hu, Bool.true_or, if_true]
    · simp only [Bool.not_eq_true] at h1
      simp only [h1, Bool.false_eq_true, if_false]
      by_cases h2 : Nm.under V m = true
      · simp only [h2, if_true]
      · simp only [Bool.not_eq_true] at h2
        simp only [h2, Bool.false_eq_true, if_false, St.call, St.nm, Bool.false_or]
        by_cases h3 : Nm.under (.s d) m = true
        · simp only [h3, if_true]
        · simp only [Bool.not_eq_true] at h3
          simp only [h3, Bool.false_eq_true, if_false, St.nm, St.move, hmv, h2, h1]
          cases st.hp m with
          | none => rfl
          | some o => simp only [Option.map_some]; exact congrArg some (e2 o)
section
variable {X : Ctx} {st : St} {K : St → Prop} {E : AV → St → Prop} {d f : Nat} {ty : TypeId} {pos : String} {aft : Array Edge} {g : Option (Nat × Bool)} {args : Array Operand} {Ts : Array TypeId} {as : List AV} {R : Nm → AV → (Nm → Option AO) → Prop}
end

section
variable {p : Prg} {n : Nm} {i l d a b e : Nat}
@[simp] theorem pRows_rtf (hV : Nm.under (.u a b e) n = false) (hd : Nm.under (.s d) n = false) : (pRows n p).map (fun r => r.map (AV.tr (rtf (.c n i l) (.u a b e) d))) = pRows n p := by
  have hN : Nm.under (.c n i l) n = false := by
    cases h : Nm.under (.c n i l) n with
    | false => rfl
    | true => exact absurd rfl (Nm.under_not_c h).2
  refine pRows_tr fun i' j' _ => ?_
  by_cases h : i' = i ∧ j' = l
  · simp [h.1, h.2]
  · simp [hN, hV, hd, h]
@[simp] theorem pRows_mvself {m : Nm} : (pRows n p).map (fun r => r.map (AV.tr (mv n m))) = pRows m p := pRows_tr (by simp)
/-- what is not touched -/
@[simp] theorem pRows_rtf2 {N : Nm} (hN : Nm.under N n = false) (hN2 : Nm.under n N = false) (hV : Nm.under (.u a b e) n = false) (hd : Nm.under (.s d) n = false) : (pRows n p).map (fun r => r.map (AV.tr (rtf N (.u a b e) d))) = pRows n p := by
  refine pRows_tr fun i' j' _ => ?_
  have h : ¬ Nm.c n i' j' = N := fun h => by rw [← h] at hN2; simp at hN2
  have h2 : Nm.under N (.c n i' j') = false := by
    simp only [Nm.under, Bool.or_eq_false_iff, decide_eq_false_iff_not]
    exact ⟨h, hN⟩
  simp only [rtf_eq, h2, Bool.false_eq_true, if_false, under_uc, hV, under_sc, hd]
end
/-! ### Marks -/
def markI (n : Nat) (c : Int) : List Int := (List.range n).map (fun i : Nat => c + i)
def markS (n : Nat) (c : Int) : List Stm := (List.range n).map (fun i : Nat => ⟨c + 4 * i, c + 4 * i + 1, c + 4 * i + 2, c + 4 * i + 3⟩)
def cntB (k : Blk) : Nat := 2 + k.params.length + 4 * k.body.length
def cntTo (p : Prg) : Nat → Nat
  | 0 => 0
  | i + 1 => cntTo p i + (match p[i]? with | some k => cntB k | none => 0)
def markBlk (k : Blk) (c : Int) : Blk := ⟨c, c + 1, markI k.params.length (c + 2), markS k.body.length (c + 2 + k.params.length)⟩
def markTo (p : Prg) (c : Int) (i : Nat) : Prg := p.mapIdx (fun j k => if j < i then markBlk k (c + cntTo p j) else k)
section
variable {p : Prg} {c : Int} {i j : Nat} {k : Blk} {n : Nm}
@[simp] theorem markI_len {n : Nat} : (markI n c).length = n := by simp [markI]
@[simp] theorem markS_len {n : Nat} : (markS n c).length = n := by simp [markS]
@[simp] theorem markTo_len : (markTo p c i).length = p.length := by simp [markTo]
@[simp] theorem rowsSet_len {rows : List (List AV)} {off : Nat} {vals : List AV} : (rowsSet rows i off vals).length = rows.length := by simp [rowsSet]
/-- the kind and the parent of a block are written -/
def setKP (q : Prg) (i : Nat) (a b : Int) : Prg := q.modify i (fun k => { k with kind := a, parent := b })
@[simp] theorem setKP_len {q : Prg} {a b : Int} : (setKP q i a b).length = q.length := by simp [setKP]
end
end Go.Hm
end

section
/-
  The heap machine, part 40: states that are told by facts; the law of full programs. Own work.
-/
namespace Go.Hm
open Go Go.RowKit

section
variable {X : Ctx} {st : St} {K : St → Prop} {E : AV → St → Prop}
theorem o_abs {o : Oper} (F : St → Prop) (h : F st) (k : ∀ s, F s → SemOp X o K E s) : SemOp X o K E st := k st h
theorem s_abs {ds : List (Option Nat)} {l : List Oper} (F : St → Prop) (h : F st) (k : ∀ s, F s → SemL X ds K E l s) : SemL X ds K E l st := k st h
theorem w_abs {c : Code} {Q : Ex → St → Prop} (F : St → Prop) (h : F st) (k : ∀ s, F s → SemCode X c Q s) : SemCode X c Q st := k st h
end
/-- a program in a box -/
structure BoxP (st : St) (d : Nat) (p : Prg) : Prop where
  tm : st.tm d = .pt (.s d) 0
  hp : st.hp (.s d) = some (.row 1 [[.hs (.c (.s d) 0 0) 4 0 p.length]])
  own : OwnP st.hp (.c (.s d) 0 0) p

end Go.Hm
end

section
/-
  The heap machine, part 41: what an argument's reading says of it. Own work; generic in the program.
-/
namespace Go.Hm
open Go Go.RowKit Go.ChangeShapes Go.WideShapes Go.Deep

/-- nothing is the call's own; all that there is is settled -/
def g0 (w : World) : Gh := { C := fun b => b < w.heap.size, φ := fun _ => none, κ := fun _ => 0 }
/-- what is read at a type -/
def ReadsAs {H : Type} (enc : TypeId × Value → H) (P : Program) (w : World) {α : Type} (t : TypeId) (cells : α → List AV) (Ok : α → Prop) : Prop :=
  ∀ (n : Nat) (cs : List Value) (y : DataW H × List MemPlace), DataW.trod enc P w 0 (fun _ => true) true n t cs = some y → (∀ m ∈ y.1.weights P t, m ≤ reachBytes) →
    ∃ x : α, Ok x ∧ (cells x).length = cs.length ∧ ∀ (j : Nat) v a, cs[j]? = some v → (cells x)[j]? = some a → RV (g0 w) w v a ∧ v.oneCell' = true
theorem weightsAll_in {H : Type} {P : Program} {e : TypeId} {d : DataW H} : ∀ {l : List (DataW H)}, d ∈ l → ∀ m ∈ d.weights P e, m ∈ DataW.weightsAll P e l
  | x :: l, h, m, hm => by
    simp only [DataW.weightsAll, List.mem_append]
    rcases List.mem_cons.1 h with rfl | h
    · exact .inl hm
    · exact .inr (weightsAll_in h m hm)
theorem cell_lt {w : World} {a : Addr} {v : Value} (h : w.cell? a = some v) : a.block < w.heap.size ∧ a.spot = none := by
  unfold World.cell? at h
  split at h
  · rename_i c t fr hb
    refine ⟨(Array.getElem?_eq_some_iff.1 hb).1, ?_⟩
    split at h
    · cases h
    · rename_i hs
      cases hsp : a.spot with
      | none => rfl
      | some _ => simp [hsp] at hs
  · cases h
theorem add_plain {a : Addr} (h : a.spot = none) (n : Nat) : a.add n = ⟨a.block, a.off + n, none⟩ := by
  obtain ⟨b, o, s⟩ := a
  obtain rfl : s = none := h
  unfold Addr.add
  split
  · simp_all
  · rfl
section
variable {H : Type} {enc : TypeId × Value → H} {P : Program} {w : World}
theorem rd_slice {t e : TypeId} {z : Nat} {α : Type} [Inhabited α] {cells : α → List AV} {Ok : α → Prop} (ht : P.underlying t = some (.slice e)) (hc : P.cellsOf e = z) (hz : 0 < z) (hby : 0 < P.bytesOf e) (hlen : ∀ x, (cells x).length = z)
    (hr : ReadsAs enc P w e cells Ok) : ReadsAs enc P w t (fun xs : List α => [.sl z (xs.map cells)]) (fun xs => xs.length ≤ 1152921504606846976 ∧ ∀ x ∈ xs, Ok x) := by
  intro n cs y h hw
  rcases open_slice ht h with ⟨rfl, rfl⟩ | ⟨a, len, cap, m, n', D, Pl, rfl, _, hl, _, hm, rfl, hi⟩
  · refine ⟨[], ⟨by simp, by simp⟩, rfl, fun j v x hv hx => ?_⟩
    cases j with
    | zero =>
      simp at hv hx
      subst hv; subst hx
      exact ⟨.slN _ _ _, rfl⟩
    | succ j => simp at hv
  · simp only [if_true] at hm
    subst hm
    have hw0 := hw (((List.map D (List.range len)).length + (List.map (fun j => D (len + j)) (List.range (m - len))).length) * P.bytesOf e) (by simp [DataW.weights, ht])
    have hll : len ≤ 1152921504606846976 := by
      simp only [List.length_map, List.length_range, reachBytes] at hw0
      have : len * 1 ≤ (len + (m - len)) * P.bytesOf e := Nat.mul_le_mul (by omega) hby
      omega
    have hel : ∀ i, i < len → ∃ x : α, Ok x ∧ ∀ j, j < z → ∃ v aa, w.cell? ((a.add (i * z)).add j) = some v ∧ (cells x)[j]? = some aa ∧ RV (g0 w) w v aa ∧ v.oneCell' = true := by
      intro i hil
      obtain ⟨cs', h1, h2⟩ := hi i (by omega)
      rw [hc] at h1
      obtain ⟨_, hcl, hat⟩ := World.cells?_some h1
      obtain ⟨x, hx, hxl, hxr⟩ := hr n' cs' _ h2 (fun q hq => hw q (by
        simp only [DataW.weights, ht, List.mem_cons, List.mem_append]
        exact .inr (.inl (weightsAll_in (List.mem_map.2 ⟨i, List.mem_range.2 hil, rfl⟩) q hq))))
      refine ⟨x, hx, fun j hj => ?_⟩
      have e1 := hat j hj
      have e2 : cs'[j]? = some (cs'[j]'(by omega)) := List.getElem?_eq_getElem (by omega)
      have e3 : (cells x)[j]? = some ((cells x)[j]'(by rw [hlen]; exact hj)) := List.getElem?_eq_getElem (by rw [hlen]; exact hj)
      obtain ⟨r1, r2⟩ := hxr j _ _ e2 e3
      exact ⟨_, _, e1.trans e2, e3, r1, r2⟩
    obtain ⟨X, hX⟩ := choose_lt hel
    have hav : ∀ i, i < len → (List.map X (List.range len))[i]? = some (X i) := by
      intro i hi
      simp [hi]
    refine ⟨(List.range len).map X, ⟨by simpa using hll, ?_⟩, rfl, fun j v x hv hx => ?_⟩
    · intro x hx
      obtain ⟨i, hi, rfl⟩ := List.mem_map.1 hx
      exact (hX i (List.mem_range.1 hi)).1
    · cases j with
      | succ j => simp at hv
      | zero =>
        simp only [List.getElem?_cons_zero, Option.some.injEq] at hv hx
        subst hv; subst hx
        refine ⟨?_, rfl⟩
        rcases Nat.eq_zero_or_pos len with rfl | hpos
        · exact .slN _ _ _
        · obtain ⟨v0, _, hc0, _⟩ := (hX 0 hpos).2 0 hz
          obtain ⟨hb, hsp⟩ := cell_lt hc0
          rw [Nat.zero_mul] at hb hsp
          have ha0 : (a.add 0).add 0 = a := by simp [Addr.add]
          rw [ha0] at hb hsp
          obtain ⟨b, off, s⟩ := a
          obtain rfl : s = none := hsp
          have hcell : ∀ i j, (((⟨b, off, none⟩ : Addr).add (i * z)).add j) = ⟨b, off + i * z + j, none⟩ := by
            intro i j
            rw [add_plain (a := ⟨b, off, none⟩) rfl, add_plain rfl]
          refine .slC b off m len z _ (fun i j => (w.cell? ⟨b, off + i * z + j, none⟩).getD undef) hb (by simp) hl ?_ ?_ ?_ ?_
          · intro r hr'
            obtain ⟨x, hx, rfl⟩ := List.mem_map.1 hr'
            exact hlen x
          · intro i j hi hj
            obtain ⟨v, _, h1, _⟩ := (hX i hi).2 j hj
            rw [hcell] at h1
            simp [h1]
          · intro i j hi hj
            obtain ⟨v, _, h1, _, _, h2⟩ := (hX i hi).2 j hj
            rw [hcell] at h1
            simpa [h1] using h2
          · intro i row hrow j aa haa
            have hil : i < len := by
              have := (List.getElem?_eq_some_iff.1 hrow).1
              simpa using this
            simp [hil] at hrow
            subst hrow
            have hjz : j < z := by
              have := (List.getElem?_eq_some_iff.1 haa).1
              rwa [hlen] at this
            obtain ⟨v, a', h1, h2, h3, _⟩ := (hX i hil).2 j hjz
            rw [hcell] at h1
            rw [haa] at h2
            cases h2
            simpa [h1] using h3
end

/-! ### Programs -/
section
variable {H : Type} {enc : TypeId × Value → H} {P : Program} {w : World}
end
end Go.Hm
end

section
/-
  The heap machine, part 42: another name, as the reference and the program give it. Own work.
-/
namespace Go.Hm
open Go Go.RowKit

def swapI (n x y : Int) : Int := if n = x then y else n
/-- a statement with y in the place of x -/
def Stm.ren (s : Stm) (x y : Int) : Stm :=
  ⟨s.kind, if s.sets ∨ 9 ≤ s.kind then swapI s.to x y else s.to,
    if s.kind = 1 ∨ s.kind = 6 ∨ s.kind = 7 ∨ s.kind = 8 ∨ s.kind = 2 ∨ s.kind = 5 then swapI s.a x y else s.a, if s.kind = 2 ∨ s.kind = 5 then swapI s.b x y else s.b⟩
def Blk.ren (k : Blk) (x y : Int) : Blk := ⟨k.kind, k.parent, k.params.map (fun n => swapI n x y), k.body.map (fun s => s.ren x y)⟩

/-! ### Inside -/
def insideF (p : Prg) (b : Int) : Nat → Int → Bool
  | 0, j => decide (j = b)
  | n + 1, j => if b < j then (match p[j.toNat]? with | some q => insideF p b n q.parent | none => false) else decide (j = b)
def inside (p : Prg) (c b : Int) : Bool := insideF p b p.length c
theorem insideF_fuel {p : Prg} {b : Int} (hh : Heads p) (hb : 0 ≤ b) : ∀ (n m : Nat) (j : Int), j ≤ n → j ≤ m → insideF p b n j = insideF p b m j
  | 0, 0, _, _, _ => rfl
  | 0, m + 1, j, h, _ => by
    have h : j ≤ 0 := h
    simp only [insideF]
    rw [if_neg (by omega)]
  | n + 1, 0, j, _, h => by
    have h : j ≤ 0 := h
    simp only [insideF]
    rw [if_neg (by omega)]
  | n + 1, m + 1, j, h1, h2 => by
    simp only [insideF]
    split
    · cases hq : p[j.toNat]? with
      | none => rfl
      | some q =>
        have := (hh _ q hq).2.1
        exact insideF_fuel hh hb n m _ (by omega) (by omega)
    · rfl
theorem inside_end {p : Prg} {c b : Int} (h : c ≤ b) : inside p c b = decide (c = b) := by
  unfold inside
  generalize p.length = n
  cases n with
  | zero => rfl
  | succ n => simp only [insideF]; rw [if_neg (by omega)]
theorem inside_step {p : Prg} {c : Nat} {b : Int} {q : Blk} (hh : Heads p) (hb : 0 ≤ b) (hq : p[c]? = some q) (h : b < c) : inside p c b = inside p q.parent b := by
  have hl : c < p.length := (List.getElem?_eq_some_iff.1 hq).1
  have hp := (hh c q hq).2.1
  unfold inside
  obtain ⟨n, hn⟩ : ∃ n, p.length = n + 1 := ⟨p.length - 1, by omega⟩
  rw [insideF_fuel hh hb p.length n q.parent (by omega) (by omega), hn]
  simp only [insideF]
  rw [if_pos h]
  simp [hq]

/-! ### What is used -/
def Blk.us (k : Blk) : List Int := sorted (k.rd ++ k.bd ++ k.dc 9 ++ k.dc 10)
theorem Blk.us_len (k : Blk) : k.us.length ≤ 8 := sorted_len
def touches (p : Prg) (b x : Int) (c : Nat) : Bool := match p[c]? with | some k => decide (x ∈ k.us) && decide (owner p c x = b) | none => false
def touchTo (p : Prg) (b x : Int) : Nat → List Int
  | 0 => []
  | n + 1 => if touches p b x n = true then touchTo p b x n ++ [(n : Int)] else touchTo p b x n
def touched (p : Prg) (b x : Int) : List Int := touchTo p b x p.length
theorem mem_touchTo {p : Prg} {b x : Int} {c : Nat} : ∀ {n : Nat}, (c : Int) ∈ touchTo p b x n ↔ c < n ∧ touches p b x c = true
  | 0 => by simp [touchTo]
  | n + 1 => by
    simp only [touchTo]
    split
    · rename_i h
      simp only [List.mem_append, mem_touchTo (n := n), List.mem_singleton]
      constructor
      · rintro (h' | h')
        · exact ⟨by omega, h'.2⟩
        · obtain rfl : c = n := by omega
          exact ⟨by omega, h⟩
      · rintro ⟨h1, h2⟩
        by_cases e : c = n
        · exact .inr (by omega)
        · exact .inl ⟨by omega, h2⟩
    · rename_i h
      rw [mem_touchTo (n := n)]
      constructor
      · rintro ⟨h1, h2⟩; exact ⟨by omega, h2⟩
      · rintro ⟨h1, h2⟩
        by_cases e : c = n
        · subst e; exact absurd h2 h
        · exact ⟨by omega, h2⟩
theorem touchTo_len {p : Prg} {b x : Int} : ∀ n : Nat, (touchTo p b x n).length ≤ n
  | 0 => by simp [touchTo]
  | n + 1 => by
    have := touchTo_len (p := p) (b := b) (x := x) n
    simp only [touchTo]
    split <;> simp <;> omega
theorem touchTo_lt {p : Prg} {b x z : Int} : ∀ {n : Nat}, z ∈ touchTo p b x n → 0 ≤ z ∧ z < n
  | 0, h => by simp [touchTo] at h
  | n + 1, h => by
    simp only [touchTo] at h
    split at h
    · rcases List.mem_append.1 h with h | h
      · have := touchTo_lt h; omega
      · simp at h; omega
    · have := touchTo_lt h; omega

/-! ### The program with another name -/
def renIf (c : Bool) (x y : Int) (k : Blk) : Blk := if c then k.ren x y else k
/-- the blocks of S are renamed -/
def renS (S : Nat → Bool) (x y : Int) (p : Prg) : Prg := p.mapIdx fun c k => renIf (S c) x y k
theorem renS_get {S : Nat → Bool} {x y : Int} {p : Prg} {c : Nat} : (renS S x y p)[c]? = (p[c]?).map (renIf (S c) x y) := by
  simp [renS, List.getElem?_mapIdx]
@[simp] theorem renS_len {S : Nat → Bool} {x y : Int} {p : Prg} : (renS S x y p).length = p.length := by simp [renS]
theorem renS_congr {S T : Nat → Bool} {x y : Int} {p : Prg} (h : ∀ c, c < p.length → S c = T c) : renS S x y p = renS T x y p := by
  apply List.ext_getElem?
  intro c
  rw [renS_get, renS_get]
  cases hc : p[c]? with
  | none => rfl
  | some k => rw [h c (List.getElem?_eq_some_iff.1 hc).1]
theorem renS_none {x y : Int} {p : Prg} : renS (fun _ => false) x y p = p := by
  apply List.ext_getElem?
  intro c
  rw [renS_get]
  cases p[c]? <;> simp [renIf]
theorem renS_set {S : Nat → Bool} {x y : Int} {p : Prg} {c : Nat} {k : Blk} (hk : p[c]? = some k) (hc : S c = false) : (renS S x y p).set c (k.ren x y) = renS (fun d => S d || d == c) x y p := by
  apply List.ext_getElem?
  intro d
  rw [List.getElem?_set, renS_get, renS_get, renS_len]
  by_cases e : c = d
  · subst e
    have := (List.getElem?_eq_some_iff.1 hk).1
    rw [if_pos rfl, if_pos this, hk]
    simp [renIf]
  · have e' : (d == c) = false := by simpa using fun h => e h.symm
    rw [if_neg e, e', Bool.or_false]
end Go.Hm
end

section
/-
  The heap machine, part 43: when a name may be another one, and a block half renamed. Own work.
-/
namespace Go.Hm
open Go Go.RowKit

def clashAt (p : Prg) (b : Nat) (y : Int) (c : Nat) : Bool := decide (b ≤ c) && match p[c]? with | some k => inside p c b && decide (y ∈ k.us) | none => false
def clash (p : Prg) (b : Nat) (y : Int) : Bool := (List.range p.length).any (clashAt p b y)
def renAt (p : Prg) (b : Nat) (x y : Int) : Bool := match p[b]? with | some k => (k.kind == 1) && isLocal b k x && !clash p b y | none => false
def renOk (p : Prg) (b x y : Int) : Bool := progOk p && (decide (0 ≤ b) && decide (b < p.length)) && (decide (0 ≤ x) && decide (x ≤ 7)) && (decide (0 ≤ y) && decide (y ≤ 7)) && (x != y) && renAt p b.toNat x y
/-- what RenameIn returns -/
def renG (p : Prg) (b x y : Int) : Prg := if renOk p b x y = true then renS (touches p b x) x y p else []
theorem renG_sml {p : Prg} {b x y : Int} (hs : Sml p) : Sml (renG p b x y) := by
  unfold renG
  split
  · have key : ∀ k ∈ renS (touches p b x) x y p, ∃ q ∈ p, k.params.length = q.params.length ∧ k.body.length = q.body.length := by
      intro k hk
      obtain ⟨c, hc⟩ := List.getElem?_of_mem hk
      rw [renS_get] at hc
      cases hq : p[c]? with
      | none => rw [hq] at hc; cases hc
      | some q =>
        rw [hq] at hc
        simp only [Option.map_some, Option.some.injEq] at hc
        subst hc
        refine ⟨q, List.mem_of_getElem? hq, ?_⟩
        unfold renIf
        split <;> simp [Blk.ren]
    refine ⟨by simpa using hs.len, fun k hk => ?_, fun k hk => ?_⟩
    · obtain ⟨q, hq, h1, _⟩ := key k hk
      rw [h1]; exact hs.params q hq
    · obtain ⟨q, hq, _, h2⟩ := key k hk
      rw [h2]; exact hs.body q hq
  · exact ⟨by simp, fun k hk => by simp at hk, fun k hk => by simp at hk⟩

/-- the first i of a list are changed -/
def mapTo {α : Type} (f : α → α) (l : List α) (i : Nat) : List α := (l.take i).map f ++ l.drop i
section
variable {α : Type} {f : α → α} {l : List α} {i : Nat} {x : α}
@[simp] theorem mapTo_len (h : i ≤ l.length) : (mapTo f l i).length = l.length := by simp [mapTo]; omega
theorem mapTo_zero : mapTo f l 0 = l := by simp [mapTo]
theorem mapTo_all : mapTo f l l.length = l.map f := by simp [mapTo]
theorem mapTo_get (h : l[i]? = some x) : (mapTo f l i)[i]? = some x := by
  have hi := (List.getElem?_eq_some_iff.1 h).1
  have e : (List.map f (List.take i l)).length = i := by simp; omega
  rw [mapTo, List.getElem?_append_right (by omega), e, Nat.sub_self, List.getElem?_drop]
  simpa using h
theorem mapTo_set (h : l[i]? = some x) : (mapTo f l i).set i (f x) = mapTo f l (i + 1) := by
  obtain ⟨hi, hx⟩ := List.getElem?_eq_some_iff.1 h
  apply List.ext_getElem?
  intro j
  rw [List.getElem?_set, mapTo_len (by omega)]
  by_cases e : i = j
  · subst e
    rw [if_pos rfl, if_pos hi]
    have e1 : (List.map f (List.take (i + 1) l)).length = i + 1 := by simp; omega
    rw [mapTo, List.getElem?_append_left (by omega)]
    simp [h]
  · rw [if_neg e]
    simp only [mapTo]
    rcases Nat.lt_or_ge j i with h1 | h1
    · rw [List.getElem?_append_left (by simp; omega), List.getElem?_append_left (by simp; omega)]
      simp [h1, show j < i + 1 by omega]
    · rw [List.getElem?_append_right (by simp; omega), List.getElem?_append_right (by simp; omega)]
      simp only [List.length_map, List.length_take, List.getElem?_drop]
      congr 1
      omega
end
end Go.Hm
end

section
/-
  The heap machine, part 44: a program's rows, one block renamed. Own work.
-/
namespace Go.Hm
open Go Go.RowKit

theorem touchTo_asc {p : Prg} {b x : Int} : ∀ n : Nat, (touchTo p b x n).Pairwise (· < ·)
  | 0 => by simp [touchTo]
  | n + 1 => by
    have ih := touchTo_asc (p := p) (b := b) (x := x) n
    simp only [touchTo]
    split
    · rw [List.pairwise_append]
      refine ⟨ih, by simp, fun u hu v hv => ?_⟩
      have := touchTo_lt hu
      simp at hv
      omega
    · exact ih
theorem touched_fresh {p : Prg} {b x z : Int} {i : Nat} (h : (touched p b x)[i]? = some z) : z ∉ (touched p b x).take i := by
  intro hm
  obtain ⟨j, hj, he⟩ := List.getElem_of_mem hm
  obtain ⟨hi, hz⟩ := List.getElem?_eq_some_iff.1 h
  have hji : j < i := by
    rw [List.length_take] at hj
    omega
  have := List.pairwise_iff_getElem.1 (touchTo_asc (p := p) (b := b) (x := x) p.length) j i (by exact Nat.lt_trans hji hi) hi hji
  rw [List.getElem_take] at he
  have e1 : (touchTo p b x p.length)[j]'(Nat.lt_trans hji hi) = z := he
  have e2 : (touchTo p b x p.length)[i]'hi = z := hz
  omega
theorem touched_at {p : Prg} {b x z : Int} {i : Nat} (h : (touched p b x)[i]? = some z) : ∃ c : Nat, z = c ∧ c < p.length ∧ touches p b x c = true := by
  have hm := List.mem_of_getElem? h
  have h1 := touchTo_lt hm
  obtain ⟨c, rfl⟩ : ∃ c : Nat, z = c := ⟨z.toNat, by omega⟩
  have h2 := mem_touchTo.1 hm
  exact ⟨c, rfl, h2.1, h2.2⟩
theorem pRows_ren {n : Nm} {p : Prg} {c : Nat} {k : Blk} {x y : Int} (h : p[c]? = some k) : pRows n (p.set c (k.ren x y)) = pRows n p := by
  apply List.ext_getElem?
  intro d
  rw [pRows_get, pRows_get, List.getElem?_set]
  by_cases e : c = d
  · subst e
    rw [if_pos rfl, if_pos (List.getElem?_eq_some_iff.1 h).1, h]
    simp [Blk.ren]
  · rw [if_neg e]
theorem ren_step {p : Prg} {b x y : Int} {i c : Nat} {k : Blk} (hi : (touched p b x)[i]? = some (c : Int)) (hk : p[c]? = some k) :
    (renS (fun d => decide ((d : Int) ∈ (touched p b x).take i)) x y p).set c (k.ren x y) = renS (fun d => decide ((d : Int) ∈ (touched p b x).take (i + 1))) x y p := by
  rw [renS_set hk (by simpa using touched_fresh hi)]
  congr 1
  funext d
  rw [List.take_add_one, hi]
  have e : (d == c) = decide ((d : Int) = c) := by
    by_cases h : d = c
    · subst h; simp
    · have h' : ¬ (d : Int) = c := by omega
      simp [h, h']
  simp [e]
theorem ren_get {p : Prg} {b x y : Int} {i c : Nat} {k : Blk} (hi : (touched p b x)[i]? = some (c : Int)) (hk : p[c]? = some k) : (renS (fun d => decide ((d : Int) ∈ (touched p b x).take i)) x y p)[c]? = some k := by
  rw [renS_get, hk]
  have : decide ((c : Int) ∈ (touched p b x).take i) = false := by simpa using touched_fresh hi
  simp only [this, Option.map_some]
  rfl
theorem ren_all {p : Prg} {b x y : Int} : renS (fun d => decide ((d : Int) ∈ (touched p b x).take (touched p b x).length)) x y p = renS (touches p b x) x y p := by
  apply renS_congr
  intro c hc
  rw [List.take_length]
  by_cases h : touches p b x c = true
  · rw [h]
    exact decide_eq_true (mem_touchTo.2 ⟨hc, h⟩)
  · have h' : touches p b x c = false := by simpa using h
    rw [h']
    simp only [decide_eq_false_iff_not]
    intro hm
    exact h (mem_touchTo.1 hm).2
end Go.Hm
end

section
/-
  The heap machine, part 45: a function value is called, which writes an object. Own work; generic in the program.
-/
namespace Go.Hm
open Go Go.RowKit

theorem bw_box {hp : Nm → Option AO} {D : Nm → Bool} {n : Nm} {a : AV} (h : hp n = some (.row 1 [[a]])) (hD : D n = false := by first | (simp; done) | fail) : Bw hp D (.pt n 0) (.el [a] 0) := by
  refine .pt n 1 0 [a] [a] [] hD h rfl fun j x y hx hy => ?_
  rw [hx] at hy
  obtain rfl := Option.some.inj hy
  exact .refl _

section
variable {X : Ctx} {st : St} {K : St → Prop} {E : AV → St → Prop} {d f : Nat} {ty : TypeId} {pos : String} {aft : Array Edge} {g : Option (Nat × Bool)} {c : Operand} {args : Array Operand} {Ts : Array TypeId} {xs ys avs as : List AV} {R : Nm → AV → (Nm → Option AO) → Prop}
theorem x_mutv (U : Nm) (hU : U.isU = true) (hext : X.ext U = true → st.hp U ≠ none) (hd : d < X.n) (hv : ev st c = .fn (.func f) xs ys) (ha : xs ++ args.toList.map (ev st) ++ ys = avs) (hB : BwL st.hp (Nm.under U) avs as)
    (hF : FnE X.P X.gl f (Nm.under U) as (hsub U st.hp) R noE) (h : ∀ y H', R (.s d) y H' → K ((st.call d (Nm.under U) (hsub U st.hp) (hcln H')).put (some d) (xcln y))) :
    SemOp X ⟨some d, .call ⟨.value c, args, Ts⟩, ty, pos, aft, g⟩ K E st := by
  subst ha
  refine call_sem (D := Nm.under U) (H := hsub U st.hp) (R := R) (E0 := noE) hF (ent_val hF.1 rfl hv) true hB (fun n hn => ?_) (fun n hn => ?_) (fun n hn => ?_) (fun k i j he => ?_) (fun e he => by obtain rfl := Option.some.inj he; exact hd) (fun x H' hR => ?_) (fun _ _ h => h.elim)
  · cases hx : Nm.under U n with
    | false => rfl
    | true =>
      have h1 := under_usroot hU hx
      have h2 := Nm.sroot_under (a := .s d) rfl hn
      rw [h1] at h2
      cases h2
  · simp [hsub, hn]
  · simp only [hsub] at hn
    split at hn
    · assumption
    · exact absurd rfl hn
  · cases hx : Nm.under U (.u k i j) with
    | false => exact .inl rfl
    | true =>
      right
      have : Nm.u k i j = U := by cases U <;> simp [Nm.isU, Nm.under] at * <;> exact ⟨hx.1, hx.2.1, hx.2.2⟩
      simp only [hsub, hx, if_true]
      rw [this] at he ⊢
      exact hext he
  · exact h x H' hR
/-- a call of a function value that writes the object N, which is called V in it; the rest is read -/
theorem x_mutvc (N V : Nm) (hV : V.isU = true := by rfl) (hN : N.isU = false := by rfl) (hNV : Nm.under V N = false := by first | (simp; done) | fail) (hext : X.ext V = false) (hs : (hsub V (st.move N V).hp V).isSome = true) (hd : d < X.n := by first | (simp; done) | fail)
    (hv : ev (st.move N V) c = .fn (.func f) xs ys) (ha : xs ++ args.toList.map (ev (st.move N V)) ++ ys = avs) (hB : BwL (st.move N V).hp (Nm.under V) avs as)
    (hF : FnE X.P X.gl f (Nm.under V) as (hsub V (st.move N V).hp) R noE) (h : ∀ y H', R (.s d) y H' → K ((st.mutc N V d (hcln H')).put (some d) ((xcln y).tr (mv V N)))) :
    SemOp X ⟨some d, .call ⟨.value c, args, Ts⟩, ty, pos, aft, g⟩ K E st := by
  refine o_mv N V (.inl hN) (.inr hext) (o_mvPost V N (.inr hext) (.inl hN) ?_)
  refine x_mutv V hV (fun e => by rw [hext] at e; cases e) hd hv ha hB hF fun y H' hR => ?_
  rw [mutc_eq hV hNV hs]
  exact h y H' hR
end
end Go.Hm
end

section
/-
  The heap machine, part 46: a program of which the blocks ahead of i have another name. Own work.
-/
namespace Go.Hm
open Go Go.RowKit

def tUpto (p : Prg) (b x : Int) (i : Nat) (c : Nat) : Bool := decide (c < i) && touches p b x c
section
variable {p : Prg} {b x y : Int} {i : Nat} {k : Blk}
theorem upto_zero : renS (tUpto p b x 0) x y p = p := by
  have : tUpto p b x 0 = fun _ => false := by funext c; simp [tUpto]
  rw [this]
  exact renS_none
theorem upto_all : renS (tUpto p b x p.length) x y p = renS (touches p b x) x y p := by
  apply renS_congr
  intro c hc
  simp [tUpto, hc]
theorem upto_get (hk : p[i]? = some k) : (renS (tUpto p b x i) x y p)[i]? = some k := by
  rw [renS_get, hk]
  have : tUpto p b x i i = false := by simp [tUpto]
  simp [this, renIf]
theorem upto_skip (h : touches p b x i = false) : renS (tUpto p b x i) x y p = renS (tUpto p b x (i + 1)) x y p := by
  apply renS_congr
  intro c _
  simp only [tUpto]
  by_cases e : c = i
  · subst e; simp [h]
  · have : (c < i) ↔ (c < i + 1) := by omega
    simp [this]
theorem upto_step (hk : p[i]? = some k) (h : touches p b x i = true) : (renS (tUpto p b x i) x y p).set i (k.ren x y) = renS (tUpto p b x (i + 1)) x y p := by
  rw [renS_set hk (by simp [tUpto])]
  apply renS_congr
  intro c _
  simp only [tUpto]
  by_cases e : c = i
  · subst e; simp [h]
  · have : (c < i) ↔ (c < i + 1) := by omega
    have e' : (c == i) = false := by simpa using e
    simp [this, e']
end
theorem mapTo_same {α : Type} {f : α → α} {l : List α} {i : Nat} {x : α} (h : l[i]? = some x) (hx : f x = x) : mapTo f l (i + 1) = mapTo f l i := by
  rw [← mapTo_set h, hx]
  have hg := mapTo_get (f := f) h
  obtain ⟨hi, he⟩ := List.getElem?_eq_some_iff.1 hg
  apply List.ext_getElem?
  intro j
  rw [List.getElem?_set]
  by_cases e : i = j
  · subst e
    rw [if_pos rfl, if_pos hi, hg]
  · rw [if_neg e]
end Go.Hm
end

section
/-
  The heap machine, part 47: elements that are forgotten; clear where nothing is known; slices with three bounds. Own work; generic in the program.
-/
namespace Go.Hm
open Go Go.RowKit

section
variable {P : Program} {own : Nat → Prop} {C : Nat → Prop} {w0 : World} {g : Gh} {st : St} {a : Act} {w : World}

end

section
variable {X : Ctx} {st : St} {K : St → Prop} {E : AV → St → Prop} {ds : List (Option Nat)} {l : List Oper} {o : Oper} {ty : TypeId} {pos : String} {aft : Array Edge} {g : Option (Nat × Bool)}
end
end Go.Hm
end
