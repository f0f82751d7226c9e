/-
  Own texts, joined by mkclaim.py: Hm61, Hm62, Hm63, Hm64, Hm65.
-/
import Derived.Test.YtmpbjmihjelhgaaDoorM11
import Derived.Test.YtmpbjmihjelhgaaDoorM10
import Derived.OpenShut
import Derived.FnData
set_option linter.unusedSimpArgs false
set_option linter.unusedVariables false

section
/-
  The heap machine, part 61: how names are found, and the orders on them. Own work.
-/
set_option linter.unusedSimpArgs false
namespace Go.Hm
open Go Go.RowKit

/-- the numbers ahead of n of which f is true -/
def picked (f : Nat → Bool) : Nat → List Int
  | 0 => []
  | n + 1 => if f n = true then picked f n ++ [(n : Int)] else picked f n
theorem mem_picked {f : Nat → Bool} {x : Int} : ∀ {n : Nat}, x ∈ picked f n ↔ ∃ m : Nat, m < n ∧ f m = true ∧ x = m
  | 0 => by simp [picked]
  | n + 1 => by
    simp only [picked]
    split
    · rename_i h
      rw [List.mem_append, mem_picked (n := n), List.mem_singleton]
      constructor
      · rintro (⟨m, h1, h2, h3⟩ | h')
        · exact ⟨m, by omega, h2, h3⟩
        · exact ⟨n, by omega, h, h'⟩
      · rintro ⟨m, h1, h2, h3⟩
        rcases Nat.lt_succ_iff_lt_or_eq.1 h1 with e | rfl
        · exact .inl ⟨m, e, h2, h3⟩
        · exact .inr h3
    · rename_i h
      rw [mem_picked (n := n)]
      constructor
      · rintro ⟨m, h1, h2, h3⟩; exact ⟨m, by omega, h2, h3⟩
      · rintro ⟨m, h1, h2, h3⟩
        rcases Nat.lt_succ_iff_lt_or_eq.1 h1 with e | rfl
        · exact ⟨m, e, h2, h3⟩
        · exact absurd h2 h
theorem mem_picked_nat {f : Nat → Bool} {x n : Nat} : (x : Int) ∈ picked f n ↔ x < n ∧ f x = true := by
  rw [mem_picked]
  constructor
  · rintro ⟨m, h1, h2, h3⟩
    obtain rfl : x = m := by omega
    exact ⟨h1, h2⟩
  · rintro ⟨h1, h2⟩; exact ⟨x, h1, h2, rfl⟩
theorem picked_len {f : Nat → Bool} : ∀ n : Nat, (picked f n).length ≤ n
  | 0 => by simp [picked]
  | n + 1 => by
    have := picked_len (f := f) n
    simp only [picked]
    split <;> simp <;> omega
theorem picked_congr {f g : Nat → Bool} : ∀ {n : Nat}, (∀ x, x < n → f x = g x) → picked f n = picked g n
  | 0, _ => rfl
  | n + 1, h => by
    simp only [picked]
    rw [h n (by omega), picked_congr (n := n) fun x hx => h x (by omega)]
theorem sortedTo_picked {l : List Int} : ∀ n : Nat, sortedTo l n = picked (fun x => decide ((x : Int) ∈ l)) n
  | 0 => rfl
  | n + 1 => by
    simp only [sortedTo, picked, sortedTo_picked n, decide_eq_true_eq]
theorem sorted_picked {f : Nat → Bool} : sorted (picked f 8) = picked f 8 := by
  rw [sorted, sortedTo_picked]
  exact picked_congr fun x hx => by
    rw [Bool.eq_iff_iff, decide_eq_true_eq, mem_picked_nat]
    simp [hx]
theorem sorted_same {l l' : List Int} (h : ∀ x : Nat, x < 8 → ((x : Int) ∈ l ↔ (x : Int) ∈ l')) : sorted l = sorted l' := by
  rw [sorted, sorted, sortedTo_picked, sortedTo_picked]
  exact picked_congr fun x hx => by
    rw [Bool.eq_iff_iff, decide_eq_true_eq, decide_eq_true_eq, h x hx]

/-- lists one behind the other -/
def joined (g : Nat → List Int) : Nat → List Int
  | 0 => []
  | n + 1 => joined g n ++ g n
theorem mem_joined {g : Nat → List Int} {x : Int} : ∀ {n : Nat}, x ∈ joined g n ↔ ∃ m : Nat, m < n ∧ x ∈ g m
  | 0 => by simp [joined]
  | n + 1 => by
    simp only [joined, List.mem_append, mem_joined (n := n)]
    constructor
    · rintro (⟨m, h1, h2⟩ | h)
      · exact ⟨m, by omega, h2⟩
      · exact ⟨n, by omega, h⟩
    · rintro ⟨m, h1, h2⟩
      rcases Nat.lt_succ_iff_lt_or_eq.1 h1 with e | rfl
      · exact .inl ⟨m, e, h2⟩
      · exact .inr h2
theorem joined_len {g : Nat → List Int} (h : ∀ i, (g i).length ≤ 8) : ∀ n : Nat, (joined g n).length ≤ 8 * n
  | 0 => by simp [joined]
  | n + 1 => by
    have := joined_len h n
    have := h n
    simp only [joined, List.length_append]
    omega

theorem outerF_pos {p : Prg} {x : Int} : ∀ (n : Nat) (j : Int), outerF p x n j = -1 ∨ 0 < outerF p x n j
  | 0, _ => .inl rfl
  | n + 1, j => by
    simp only [outerF]
    split
    · exact .inl rfl
    · rename_i hj
      split
      · exact .inl rfl
      · split
        · exact outerF_pos n _
        · split
          · exact .inl rfl
          · split
            · exact .inr (by omega)
            · exact outerF_pos n _
theorem owner_pos {p : Prg} {c : Nat} {x : Int} : owner p c x = -1 ∨ 0 < owner p c x := by
  unfold owner
  split
  · split
    · exact .inl rfl
    · rename_i h
      split
      · exact .inr (by omega)
      · unfold outer
        split
        · exact outerF_pos _ _
        · exact .inl rfl
  · exact .inl rfl

/-! ### The reference's -/
def freeIn (p : Prg) (b c : Nat) (x : Int) : Bool := decide (0 < owner p c x) && decide (owner p c x < b)
def freeAt (p : Prg) (b c : Nat) : List Int := match p[c]? with
  | some k => if inside p c b = true then k.us.filter (freeIn p b c) else []
  | none => []
def freesRaw (p : Prg) (b : Nat) : Nat → List Int := joined fun i => freeAt p b (b + i)
def freesL (p : Prg) (b : Nat) : List Int := sorted (freesRaw p b (p.length - b))
def cellIn (p : Prg) (b c : Nat) (x : Int) : Bool := owner p c x == b
def cellAt (p : Prg) (b c : Nat) : List Int := match p[c]? with
  | some k => k.us.filter (cellIn p b c)
  | none => []
def cellsRaw (p : Prg) (b : Nat) : Nat → List Int := joined fun i => cellAt p b (b + 1 + i)
def kindAt (p : Prg) (b : Nat) : Int := match p[b]? with | some k => k.kind | none => -1
def cellsL (p : Prg) (b : Nat) : List Int := if kindAt p b = 1 then sorted (cellsRaw p b (p.length - (b + 1))) else []
def fastIn (p : Prg) (b : Nat) (x : Nat) : Bool := match p[b]? with
  | some k => isLocal b k x && !decide ((x : Int) ∈ cellsL p b)
  | none => false
def fastsL (p : Prg) (b : Nat) : List Int := if kindAt p b = 1 then picked (fastIn p b) 8 else []
def symOf (p : Prg) (b : Nat) (x : Int) : Int :=
  if owner p b x < 0 then 0 else if owner p b x ≠ b then 1 else if kindAt p b = 2 then 2 else if x ∈ cellsL p b then 3 else 4
def cellPl (p : Prg) (b : Nat) (x : Int) : Int := if x ∈ cellsL p b then placeIn (cellsL p b) x else (cellsL p b).length + placeIn (freesL p b) x
def nameOp (p : Prg) (b : Nat) (x w : Int) : Int × Int :=
  if symOf p b x = 0 then (8 + w, x) else if symOf p b x = 2 then (11 + w, x) else if symOf p b x = 4 then (2 + w, placeIn (fastsL p b) x) else (5 + w, cellPl p b x)
/-- a block of a valid program uses a name -/
def usedOk (p : Prg) (b x : Int) : Bool := progOk p && (decide (0 ≤ b) && decide (b < p.length)) && (decide (0 ≤ x) && decide (x ≤ 7)) && match p[b.toNat]? with | some k => decide (x ∈ k.us) | none => false
def opG (p : Prg) (b x w : Int) : Int × Int := if usedOk p b x = true then nameOp p b.toNat x w else (0, 0)

theorem filter_len8 {l : List Int} {f : Int → Bool} (h : l.length ≤ 8) : (l.filter f).length ≤ 8 := Nat.le_trans (List.length_filter_le _ _) h
theorem freeAt_len {p : Prg} {b c : Nat} : (freeAt p b c).length ≤ 8 := by
  unfold freeAt
  split
  · split
    · exact filter_len8 (Blk.us_len _)
    · simp
  · simp
theorem cellAt_len {p : Prg} {b c : Nat} : (cellAt p b c).length ≤ 8 := by
  unfold cellAt
  split
  · exact filter_len8 (Blk.us_len _)
  · simp
theorem freesRaw_len {p : Prg} {b n : Nat} : (freesRaw p b n).length ≤ 8 * n := joined_len (fun _ => freeAt_len) n
theorem cellsRaw_len {p : Prg} {b n : Nat} : (cellsRaw p b n).length ≤ 8 * n := joined_len (fun _ => cellAt_len) n
theorem freesL_len {p : Prg} {b : Nat} : (freesL p b).length ≤ 8 := sorted_len
theorem cellsL_len {p : Prg} {b : Nat} : (cellsL p b).length ≤ 8 := by
  unfold cellsL
  split
  · exact sorted_len
  · simp
theorem fastsL_len {p : Prg} {b : Nat} : (fastsL p b).length ≤ 8 := by
  unfold fastsL
  split
  · exact picked_len 8
  · simp
theorem freesRaw_succ {p : Prg} {b n : Nat} : freesRaw p b (n + 1) = freesRaw p b n ++ freeAt p b (b + n) := rfl
theorem cellsRaw_succ {p : Prg} {b n : Nat} : cellsRaw p b (n + 1) = cellsRaw p b n ++ cellAt p b (b + 1 + n) := rfl

theorem placeIn_bd {xs : List Int} {x : Int} : -1 ≤ placeIn xs x ∧ placeIn xs x ≤ xs.length := by
  unfold placeIn
  split
  · rename_i i h
    have := (List.findIdx?_eq_some_iff_findIdx_eq.1 h).1
    constructor <;> omega
  · constructor <;> omega
theorem nameOp_arg {p : Prg} {b : Nat} {x w v : Int} : (nameOp p b x w).2 = (nameOp p b x v).2 := by
  unfold nameOp
  split
  · rfl
  · split
    · rfl
    · split <;> rfl
theorem nameOp_code {p : Prg} {b : Nat} {x w : Int} : (nameOp p b x (w + 1)).1 = (nameOp p b x w).1 + 1 := by
  unfold nameOp
  split
  · simp; omega
  · split
    · simp; omega
    · split <;> simp <;> omega
theorem nameOp_le {p : Prg} {b : Nat} {x w : Int} (h0 : 0 ≤ w) (h2 : w ≤ 2) : 0 ≤ (nameOp p b x w).1 ∧ (nameOp p b x w).1 ≤ 13 := by
  unfold nameOp
  split
  · simp; omega
  · split
    · simp; omega
    · split <;> simp <;> omega
theorem symOf_fast {p : Prg} {b : Nat} {k : Blk} {x : Int} (hk : p[b]? = some k) (hk0 : b = 0 ↔ k.kind = 0) (hk2 : k.kind = 0 ∨ k.kind = 1 ∨ k.kind = 2) (h : symOf p b x = 3 ∨ symOf p b x = 4) : k.kind = 1 := by
  have hka : kindAt p b = k.kind := by simp [kindAt, hk]
  unfold symOf at h
  rw [hka] at h
  split at h
  · omega
  · rename_i ho
    split at h
    · omega
    · rename_i hb
      split at h
      · omega
      · rename_i h2
        rcases owner_pos (p := p) (c := b) (x := x) with e | e
        · omega
        · have : b ≠ 0 := by omega
          omega

/-! ### The program's -/
def freeI (p : Prg) (b c : Nat) (x : Nat) : Bool := match p[c]? with
  | some k => inside p c b && decide ((x : Int) ∈ k.us) && (owner p c x != -1) && !inside p (owner p c x) b
  | none => false
def freesI (p : Prg) (b : Nat) : Nat → List Int := joined fun c => picked (freeI p b c) 8
def cellI (p : Prg) (b c : Nat) (x : Nat) : Bool := match p[c]? with
  | some k => (c != b) && decide ((x : Int) ∈ k.us) && (owner p c x == b)
  | none => false
def cellsI (p : Prg) (b : Nat) : Nat → List Int := joined fun c => picked (cellI p b c) 8

theorem inside_chain {p : Prg} (hh : Heads p) {b o : Nat} : ∀ c : Nat, c < p.length → inside p c b = true → inside p c o = true → b ≤ o → inside p o b = true := by
  intro c
  induction c using Nat.strongRecOn with
  | ind c ih =>
    intro hc h1 h2 hbo
    have g2 := inside_ge h2
    by_cases e : o = c
    · subst e; exact h1
    · obtain ⟨q, hq⟩ : ∃ q, p[c]? = some q := ⟨_, List.getElem?_eq_getElem hc⟩
      obtain ⟨a1, a2, a3⟩ := hh c q hq
      have a4 := a3 (by omega)
      obtain ⟨m, hm⟩ : ∃ m : Nat, q.parent = m := ⟨q.parent.toNat, by omega⟩
      rw [inside_step hh (by omega) hq (by omega), hm] at h1 h2
      exact ih m (by omega) (by omega) h1 h2 hbo
theorem inside_owner {p : Prg} (hh : Heads p) {b c : Nat} {k : Blk} {x : Int} (hk : p[c]? = some k) (hi : inside p c b = true) (ho : owner p c x ≠ -1) : inside p (owner p c x) b = !decide (owner p c x < b) := by
  rcases owner_pos (p := p) (c := c) (x := x) with h | h
  · exact absurd h ho
  · obtain ⟨o, e⟩ : ∃ o : Nat, owner p c x = o := ⟨(owner p c x).toNat, by omega⟩
    have h2 : inside p c o = true := inside_of_owner hh (by omega) hk e
    rw [e]
    by_cases hb : o < b
    · rw [inside_end (by omega), decide_eq_false (by omega), decide_eq_true (by omega)]
      rfl
    · rw [inside_chain hh c (List.getElem?_eq_some_iff.1 hk).1 hi h2 (by omega), decide_eq_false (by omega)]
      rfl
theorem frees_eq {p : Prg} (hh : Heads p) {b : Nat} (hb : b < p.length) : sorted (freesI p b p.length) = freesL p b := by
  unfold freesL
  apply sorted_same
  intro x hx
  unfold freesI freesRaw
  rw [mem_joined, mem_joined]
  constructor
  · rintro ⟨c, hc, hm⟩
    obtain ⟨k, hk⟩ : ∃ k, p[c]? = some k := ⟨_, List.getElem?_eq_getElem hc⟩
    rw [mem_picked_nat] at hm
    obtain ⟨_, hm⟩ := hm
    simp only [freeI, hk, Bool.and_eq_true, decide_eq_true_eq, bne_iff_ne, ne_eq, Bool.not_eq_true'] at hm
    obtain ⟨⟨⟨h1, h2⟩, h3⟩, h4⟩ := hm
    have hge := inside_ge h1
    rw [inside_owner hh hk h1 h3] at h4
    refine ⟨c - b, by omega, ?_⟩
    rw [show b + (c - b) = c by omega]
    simp only [freeAt, hk, h1, if_true, List.mem_filter, freeIn, Bool.and_eq_true, decide_eq_true_eq]
    refine ⟨h2, ?_, by simpa using h4⟩
    rcases owner_pos (p := p) (c := c) (x := (x : Int)) with h | h
    · exact absurd h h3
    · exact h
  · rintro ⟨n, hn, hm⟩
    have hc : b + n < p.length := by omega
    obtain ⟨k, hk⟩ : ∃ k, p[b + n]? = some k := ⟨_, List.getElem?_eq_getElem hc⟩
    simp only [freeAt, hk] at hm
    split at hm
    · rename_i hi
      simp only [List.mem_filter, freeIn, Bool.and_eq_true, decide_eq_true_eq] at hm
      obtain ⟨h2, h3, h4⟩ := hm
      refine ⟨b + n, hc, mem_picked_nat.2 ⟨hx, ?_⟩⟩
      have h5 : owner p (b + n) x ≠ -1 := by omega
      simp only [freeI, hk, hi, Bool.true_and, inside_owner hh hk hi h5, Bool.and_eq_true, decide_eq_true_eq, bne_iff_ne, ne_eq, Bool.not_not]
      exact ⟨⟨h2, h5⟩, h4⟩
    · simp at hm
theorem cells_eq {p : Prg} (hh : Heads p) {b : Nat} (h0 : 0 < b) (hb : b < p.length) : sorted (cellsI p b p.length) = sorted (cellsRaw p b (p.length - (b + 1))) := by
  apply sorted_same
  intro x hx
  unfold cellsI cellsRaw
  rw [mem_joined, mem_joined]
  constructor
  · rintro ⟨c, hc, hm⟩
    obtain ⟨k, hk⟩ : ∃ k, p[c]? = some k := ⟨_, List.getElem?_eq_getElem hc⟩
    rw [mem_picked_nat] at hm
    obtain ⟨_, hm⟩ := hm
    simp only [cellI, hk, Bool.and_eq_true, decide_eq_true_eq, bne_iff_ne, ne_eq, beq_iff_eq] at hm
    obtain ⟨⟨h1, h2⟩, h3⟩ := hm
    have hge := inside_ge (inside_of_owner hh h0 hk h3)
    refine ⟨c - (b + 1), by omega, ?_⟩
    rw [show b + 1 + (c - (b + 1)) = c by omega]
    simp only [cellAt, hk, List.mem_filter, cellIn, beq_iff_eq]
    exact ⟨h2, h3⟩
  · rintro ⟨n, hn, hm⟩
    have hc : b + 1 + n < p.length := by omega
    obtain ⟨k, hk⟩ : ∃ k, p[b + 1 + n]? = some k := ⟨_, List.getElem?_eq_getElem hc⟩
    simp only [cellAt, hk, List.mem_filter, cellIn, beq_iff_eq] at hm
    refine ⟨b + 1 + n, hc, mem_picked_nat.2 ⟨hx, ?_⟩⟩
    simp only [cellI, hk, Bool.and_eq_true, decide_eq_true_eq, bne_iff_ne, ne_eq, beq_iff_eq]
    exact ⟨⟨by omega, hm.1⟩, hm.2⟩
end Go.Hm
end

section
/-
  The heap machine, part 62: contracts that read variables of a package, told of a world. Own work; generic in the program.
-/
set_option linter.unusedSimpArgs false
namespace Go.Hm
open Go Go.RowKit Go.ChangeShapes Go.WideShapes Go.Deep

theorem FnOk.rawG {P : Program} {gl : Nat → Option (List AV)} {f : FuncId} {as : List AV} {v0 : Value} (h : FnOk P gl f as (fun _ y _ => y = .sc v0)) {W : World} {g : Gh} {args : Array Value} (hC : ∀ b, g.C b → b < W.heap.size)
    (hgl : ∀ i row, gl i = some row → RV g W (.pointer (some ⟨i, 0, none⟩)) (.el row 0) ∧ ∀ f : Nm → Option Nm, row.map (AV.tr f) = row) (hsz : args.size = as.length)
    (hargs : ∀ (j : Nat) v x, args[j]? = some v → as[j]? = some x → RV g W v x) : Calls P f args W fun e W' => e = .returned v0 ∧ Below W.heap.size W W' := by
  have hinv : Inv (ownH g noH) g.C W g noH W := ⟨rfl, rfl, rfl, Nat.le_refl _, fun _ _ _ => rfl, rfl, hC, fun _ _ e => (by cases e), fun _ _ _ e => (by cases e), fun _ _ _ _ _ e => (by cases e)⟩
  refine (h.2 (.s 0) g.C W g args (fun _ _ => rfl) rfl (fun _ e => absurd rfl e) hinv hgl hsz hargs).mono fun e w' he => ?_
  cases e with
  | returned v =>
    obtain ⟨C', g', H', x, hA, hv, rfl⟩ := he
    refine ⟨by rw [hv.sc_eq], hA.inv.os, hA.inv.tape, hA.inv.output, hA.inv.size, fun b hb => hA.inv.keep b hb ?_⟩
    rintro ⟨n, hn, _⟩
    exact hn rfl
  | panicked ch => obtain ⟨_, _, _, _, _, _, _, _, e⟩ := he; exact e.elim
  | outgrown => exact he.elim

/-- a table of integers as a row -/
abbrev glI (g : Nat) (l : List Int) : Nat → Option (List AV) := fun i => if i = g then some (l.map iv) else none
theorem glI_met {W : World} {g : Nat} {l : List Int} (hl : 0 < l.length) (h : ∀ i k, l[i]? = some k → W.cell? ⟨g, i, none⟩ = some (.int .i64 k)) :
    ∀ i row, glI g l i = some row → RV (g0 W) W (.pointer (some ⟨i, 0, none⟩)) (.el row 0) ∧ ∀ f : Nm → Option Nm, row.map (AV.tr f) = row := by
  intro i row hr
  by_cases hi : i = g
  · subst hi
    simp only [glI, if_true, Option.some.injEq] at hr
    subst hr
    have hat : ∀ j, j < (l.map iv).length → ∃ k, l[j]? = some k ∧ (l.map iv)[j]? = some (iv k) ∧ W.cell? ⟨i, j, none⟩ = some (.int .i64 k) := by
      intro j hj
      have hj' : j < l.length := by simpa using hj
      exact ⟨l[j], List.getElem?_eq_getElem hj', by simp [hj'], h j _ (List.getElem?_eq_getElem hj')⟩
    refine ⟨?_, fun f => ?_⟩
    · obtain ⟨k0, _, _, hc0⟩ := hat 0 (by simpa using hl)
      have := RV.el (g := g0 W) (w := W) i 0 0 (l.map iv) (fun j => (W.cell? ⟨i, 0 + j, none⟩).getD undef) (cell_lt hc0).1 (fun j hj => ?_) (fun j hj => ?_) (fun j a ha => ?_)
      · simpa using this
      · obtain ⟨k, _, _, hc⟩ := hat j hj
        simp [hc]
      · obtain ⟨k, _, _, hc⟩ := hat j hj
        simp [hc, Value.oneCell']
      · have hj : j < (l.map iv).length := (List.getElem?_eq_some_iff.1 ha).1
        obtain ⟨k, _, h2, hc⟩ := hat j hj
        rw [h2] at ha
        cases ha
        simp only [Nat.zero_add, hc, Option.getD_some]
        exact .sc _
    · simp [AV.tr, Function.comp_def]
  · simp [glI, hi] at hr

/-- what a reading of a table of integers says of its cells -/
theorem rd_table {H : Type} {enc : TypeId × Value → H} {P : Program} {w : World} {base : Nat} {spare : Nat → Bool} {held : Bool} {m n g : Nat} {t e : TypeId} {s : String} {cs : Array Value} {l : List Int} {x : List MemPlace}
    (ht : P.underlying t = some (.array n e)) (he : P.underlying e = some (.int .i64)) (hc : P.cellsOf e = 1) (hg : P.globalNamed s = some g) (hv : w.var? P s = some cs)
    (h : DataW.trod enc P w base spare held m t cs.toList = some (.agg (l.map fun k => .lit (.int .i64 k)), x)) : ∀ i k, l[i]? = some k → w.cell? ⟨g, i, none⟩ = some (.int .i64 k) := by
  intro i k hk
  obtain ⟨xs, m1, rfl, hx, hlen, hn, hel⟩ := DataW.trod_array ht h
  simp only [Prod.mk.injEq, DataW.agg.injEq] at hx
  have hil : i < l.length := (List.getElem?_eq_some_iff.1 hk).1
  have hxl : l.length = xs.length := by simpa using congrArg List.length hx.1
  obtain ⟨y, hy⟩ : ∃ y, xs[i]? = some y := ⟨_, List.getElem?_eq_getElem (by omega)⟩
  have h0 := hel i (by omega)
  rw [hy, hc] at h0
  obtain ⟨k', e1, e2, _⟩ := DataW.trod_int he h0
  have h3 := congrArg (fun z => z[i]?) hx.1
  simp only [List.getElem?_map, hk, hy, Option.map_some, Option.some.injEq] at h3
  rw [e2] at h3
  have hkk : k' = k := by simpa using h3.symm
  subst hkk
  rw [World.var?_cell hg hv i]
  have e3 := congrArg (fun z => z[0]?) e1
  simp [List.getElem?_take, List.getElem?_drop] at e3
  simpa using e3
end Go.Hm
end

section
/-
  The heap machine, part 63: the orders of a block. Own work.
-/
set_option linter.unusedSimpArgs false
namespace Go.Hm
open Go Go.RowKit

/-- orders in memory -/
def orows (l : List (Int × Int)) : List (List AV) := l.map fun o => [iv o.1, iv o.2]
section
variable {l m : List (Int × Int)} {o : Int × Int} {i : Nat} {f : Nm → Option Nm}
@[simp] theorem orows_len : (orows l).length = l.length := by simp [orows]
@[simp] theorem orows_get : (orows l)[i]? = (l[i]?).map fun o => [iv o.1, iv o.2] := by simp [orows]
@[simp] theorem orows_getE {h : i < (orows l).length} : (orows l)[i] = [iv (l[i]'(by simpa using h)).1, iv (l[i]'(by simpa using h)).2] := by simp [orows]
@[simp] theorem orows_tr : (orows l).map (fun r => r.map (AV.tr f)) = orows l := by simp [orows]
@[simp] theorem orows_take : (orows l).take i = orows (l.take i) := by simp [orows]
@[simp] theorem orows_drop : (orows l).drop i = orows (l.drop i) := by simp [orows]
@[simp] theorem orows_app : orows l ++ orows m = orows (l ++ m) := by simp [orows]
@[simp] theorem orows_nil : orows [] = [] := rfl
@[simp] theorem orows_cln : (orows l).all (fun r => r.all AV.cln) = true := by simp [orows]
theorem orows_uni : ∀ r ∈ orows l, r.length = 2 := by
  intro r hr
  obtain ⟨o, _, rfl⟩ := List.mem_map.1 hr
  rfl
abbrev osl (l : List (Int × Int)) : AV := .sl 2 (orows l)
theorem bw_ords {hp : Nm → Option AO} {n : Nm} {len : Nat} (hn : hp n = some (.row 2 (orows l))) (hl : len = l.length) : Bw hp noD (.hs n 2 0 len) (osl l) := bw_list hn (by simp [hl]) orows_uni
end

/-- what loads the names that a statement reads -/
def readL (p : Prg) (b : Nat) (s : Stm) : List (Int × Int) := s.reads.map fun x => nameOp p b x 0
/-- what works -/
def workL (s : Stm) : List (Int × Int) :=
  if s.kind = 0 then [(1, s.a)] else if s.kind = 2 then [(14, 0)] else if s.kind = 3 then [(15, s.a)] else if s.kind = 4 then [(16, s.a)] else if s.kind = 5 then [(17, (s.reads.length : Int) - 1)]
  else if s.kind = 6 then [(18, s.b)] else if s.kind = 7 then [(19, 0)] else if s.kind = 8 then [(20, 0)] else []
/-- what sets a name or takes it away -/
def setL (p : Prg) (b : Nat) (s : Stm) : List (Int × Int) := if s.kind = 11 then [nameOp p b s.to 2] else if 0 ≤ s.kind ∧ s.kind ≤ 6 then [nameOp p b s.to 1] else []
def stmtL (p : Prg) (b : Nat) (s : Stm) : List (Int × Int) := (0, 0) :: (readL p b s ++ (workL s ++ setL p b s))
def bodyL (p : Prg) (b : Nat) (ss : List Stm) : List (Int × Int) := ss.flatMap (stmtL p b)
def opsL (p : Prg) (b : Nat) : List (Int × Int) := match p[b]? with | some k => bodyL p b k.body | none => []

theorem workL_len (s : Stm) : (workL s).length ≤ 1 := by
  unfold workL
  repeat' split
  all_goals simp
theorem setL_len {p : Prg} {b : Nat} {s : Stm} : (setL p b s).length ≤ 1 := by
  unfold setL
  repeat' split
  all_goals simp
theorem readL_len {p : Prg} {b : Nat} {s : Stm} : (readL p b s).length ≤ 2 := by
  have := s.reads_len
  simpa [readL] using this
theorem stmtL_len {p : Prg} {b : Nat} {s : Stm} : (stmtL p b s).length ≤ 5 := by
  have h1 := workL_len s
  have h2 := setL_len (p := p) (b := b) (s := s)
  have h3 := readL_len (p := p) (b := b) (s := s)
  simp only [stmtL, List.length_cons, List.length_append]
  omega
theorem bodyL_len {p : Prg} {b : Nat} : ∀ ss : List Stm, (bodyL p b ss).length ≤ 5 * ss.length
  | [] => by simp [bodyL]
  | s :: l => by
    have h1 := stmtL_len (p := p) (b := b) (s := s)
    have h2 := bodyL_len (p := p) (b := b) l
    simp only [bodyL, List.flatMap_cons, List.length_append, List.length_cons] at h2 ⊢
    omega
theorem bodyL_snoc {p : Prg} {b : Nat} {ss : List Stm} {s : Stm} : bodyL p b (ss ++ [s]) = bodyL p b ss ++ stmtL p b s := by simp [bodyL]
theorem bodyL_take {p : Prg} {b : Nat} {ss : List Stm} {i : Nat} {s : Stm} (h : ss[i]? = some s) : bodyL p b (ss.take (i + 1)) = bodyL p b (ss.take i) ++ stmtL p b s := by
  rw [← bodyL_snoc, List.take_add_one, h]
  rfl

/-- by how much an order changes the stack -/
def effO (o : Int × Int) : Int :=
  if o.1 = 1 ∨ o.1 = 2 ∨ o.1 = 5 ∨ o.1 = 8 ∨ o.1 = 11 ∨ o.1 = 15 ∨ o.1 = 16 then 1 else
  if o.1 = 3 ∨ o.1 = 6 ∨ o.1 = 9 ∨ o.1 = 12 ∨ o.1 = 14 ∨ o.1 = 19 ∨ o.1 = 20 then -1 else if o.1 = 17 then -o.2 else 0
/-- how high the stack is behind orders -/
def sumO (l : List (Int × Int)) : Int := (l.map effO).sum
def heightsL (l : List (Int × Int)) : List Int := (List.range l.length).map fun i => sumO (l.take (i + 1))
/-- how many ticks there are -/
def ticks (l : List (Int × Int)) : Nat := l.countP fun o => o.1 == 0
theorem ticks_app {l m : List (Int × Int)} : ticks (l ++ m) = ticks l + ticks m := by simp [ticks]
theorem sumO_app {l m : List (Int × Int)} : sumO (l ++ m) = sumO l + sumO m := by simp [sumO]
def lineL (l : List (Int × Int)) (at' : Int) : Int := if 0 ≤ at' ∧ at' < l.length then (ticks (l.take (at'.toNat + 1)) : Int) - 1 else -1
/-- a block of a valid program -/
def blkAt (p : Prg) (b : Int) : Bool := progOk p && (decide (0 ≤ b) && decide (b < p.length))
def lineG (p : Prg) (b at' : Int) : Int := if blkAt p b = true then lineL (opsL p b.toNat) at' else -1
def heightsG (p : Prg) (b : Int) : List Int := if blkAt p b = true then heightsL (opsL p b.toNat) else []
end Go.Hm
end

section
/-
  The heap machine, part 64: names lie where the orders say; what the orders of a block do to the stack. Own work.
-/
set_option linter.unusedSimpArgs false
namespace Go.Hm
open Go Go.RowKit

theorem placeIn_at {xs : List Int} {x : Int} (h : x ∈ xs) : ∃ i : Nat, placeIn xs x = i ∧ i < xs.length ∧ xs[i]? = some x := by
  have h0 := placeIn_nonneg.2 h
  unfold placeIn at h0 ⊢
  cases hf : xs.findIdx? (· == x) with
  | none => rw [hf] at h0; simp at h0
  | some i =>
    obtain ⟨h1, h2, _⟩ := List.findIdx?_eq_some_iff_getElem.1 hf
    refine ⟨i, rfl, h1, ?_⟩
    rw [List.getElem?_eq_getElem h1]
    simpa using h2

/-! ### Owners -/
theorem outerF_local {p : Prg} {x : Int} {b : Nat} : ∀ (n : Nat) (j : Int), outerF p x n j = b → ∃ k, p[b]? = some k ∧ isLocal b k x = true ∧ x ∉ k.dc 9
  | 0, _, h => by simp only [outerF] at h; omega
  | n + 1, j, h => by
    simp only [outerF] at h
    split at h
    · omega
    · split at h
      · omega
      · rename_i q hq
        split at h
        · exact outerF_local n _ h
        · split at h
          · omega
          · rename_i hd
            split at h
            · rename_i hl
              have hj : j.toNat = b := by omega
              rw [hj] at hq hl
              exact ⟨q, hq, hl, hd⟩
            · exact outerF_local n _ h
theorem owner_local {p : Prg} {x : Int} {b c : Nat} (h : owner p c x = b) : ∃ k, p[b]? = some k ∧ isLocal b k x = true ∧ x ∉ k.dc 9 := by
  unfold owner at h
  split at h
  · rename_i k hk
    split at h
    · omega
    · rename_i h0
      split at h
      · rename_i hl
        obtain rfl : c = b := by omega
        exact ⟨k, hk, hl, fun hd => h0 (.inr hd)⟩
      · unfold outer at h
        split at h
        · exact outerF_local _ _ h
        · omega
  · omega
theorem owner_self {p : Prg} {x : Int} {b : Nat} {k : Blk} (hk : p[b]? = some k) (hl : isLocal b k x = true) (hd : x ∉ k.dc 9) : owner p b x = b := by
  have hb : b ≠ 0 := by
    rintro rfl
    simp [isLocal] at hl
  simp [owner, hk, hl, hd, hb]
theorem outerF_le {p : Prg} {x : Int} (hh : Heads p) : ∀ (n : Nat) (j : Int), outerF p x n j = -1 ∨ outerF p x n j ≤ j
  | 0, _ => .inl rfl
  | n + 1, j => by
    simp only [outerF]
    split
    · exact .inl rfl
    · split
      · exact .inl rfl
      · rename_i q hq
        have h1 := (hh _ q hq).2.1
        have ih := outerF_le hh (x := x) n q.parent
        split
        · rcases ih with e | e
          · exact .inl e
          · exact .inr (by omega)
        · split
          · exact .inl rfl
          · split
            · exact .inr (Int.le_refl _)
            · rcases ih with e | e
              · exact .inl e
              · exact .inr (by omega)
theorem owner_lt {p : Prg} {x : Int} {b : Nat} {k : Blk} (hh : Heads p) (hk : p[b]? = some k) (h : owner p b x ≠ b) : owner p b x < b := by
  unfold owner at h ⊢
  rw [hk] at h ⊢
  simp only at h ⊢
  split at h <;> rename_i h0
  · rw [if_pos h0]; omega
  · rw [if_neg h0]
    split at h <;> rename_i h1
    · exact absurd rfl h
    · rw [if_neg h1]
      simp only [outer, hk]
      have h2 := (hh _ k hk).2.1
      rcases outerF_le hh (x := x) b k.parent with e | e <;> omega

/-! ### Where names lie -/
theorem symOf_bd {p : Prg} {b : Nat} {x : Int} : 0 ≤ symOf p b x ∧ symOf p b x ≤ 4 := by
  unfold symOf
  repeat' split
  all_goals decide
theorem sym_cell {p : Prg} {b : Nat} {x : Int} (h : symOf p b x = 3) : x ∈ cellsL p b := by
  unfold symOf at h
  split at h
  · omega
  · split at h
    · omega
    · split at h
      · omega
      · split at h
        · assumption
        · omega
theorem sym_fast {p : Prg} {b : Nat} {k : Blk} {x : Int} (hp : ShapeP p) (hk : p[b]? = some k) (hx : 0 ≤ x ∧ x ≤ 7) (h : symOf p b x = 4) : x ∈ fastsL p b := by
  have hka : kindAt p b = k.kind := by simp [kindAt, hk]
  unfold symOf at h
  split at h
  · omega
  · rename_i h1
    split at h
    · omega
    · rename_i h2
      split at h
      · omega
      · rename_i h3
        split at h
        · omega
        · rename_i h4
          have ho : owner p b x = b := by omega
          have hb : 0 < b := by
            rcases owner_pos (p := p) (c := b) (x := x) with e | e <;> omega
          obtain ⟨k', hk', hl, _⟩ := owner_local ho
          obtain rfl : k = k' := Option.some.inj (hk.symm.trans hk')
          have hhd := hp.head b k hk
          unfold HeadOk at hhd
          rw [if_neg (by omega)] at hhd
          have hk1 : kindAt p b = 1 := by omega
          unfold fastsL
          rw [if_pos hk1, mem_picked]
          refine ⟨x.toNat, by omega, ?_, by omega⟩
          have e : ((x.toNat : Nat) : Int) = x := by omega
          simp only [fastIn, hk, e, hl, h4, decide_false, Bool.not_false, Bool.and_self]
theorem sym_free {p : Prg} {b : Nat} {k : Blk} {x : Int} (hp : ShapeP p) (hk : p[b]? = some k) (hu : x ∈ k.us) (h : symOf p b x = 1) : x ∈ freesL p b ∧ x ∉ cellsL p b := by
  have hbl := (List.getElem?_eq_some_iff.1 hk).1
  have hx : 0 ≤ x ∧ x ≤ 7 := by
    rw [Blk.us, mem_sorted] at hu
    exact hu.2
  unfold symOf at h
  split at h
  · omega
  · rename_i h1
    split at h
    rotate_left
    · split at h
      · omega
      · split at h <;> omega
    · rename_i h2
      have hpos : 0 < owner p b x := by
        rcases owner_pos (p := p) (c := b) (x := x) with e | e <;> omega
      have hlt := owner_lt hp.heads hk h2
      refine ⟨?_, fun hc => h2 ?_⟩
      · unfold freesL freesRaw
        rw [mem_sorted, mem_joined]
        refine ⟨⟨0, by omega, ?_⟩, hx⟩
        simp only [Nat.add_zero, freeAt, hk, inside_end (Int.le_refl _), decide_true, if_true, List.mem_filter, freeIn, Bool.and_eq_true, decide_eq_true_eq]
        exact ⟨hu, hpos, hlt⟩
      · unfold cellsL at hc
        split at hc
        · unfold cellsRaw at hc
          rw [mem_sorted, mem_joined] at hc
          obtain ⟨⟨m, _, hm⟩, _⟩ := hc
          unfold cellAt at hm
          split at hm
          · rw [List.mem_filter] at hm
            have ho : owner p (b + 1 + m) x = b := by simpa [cellIn] using hm.2
            obtain ⟨k', hk', hl, hd⟩ := owner_local ho
            exact owner_self hk' hl hd
          · cases hm
        · cases hc

/-- what an order on a name is -/
theorem nameOp_sym {p : Prg} {b : Nat} {k : Blk} {x w : Int} (hp : ShapeP p) (hk : p[b]? = some k) (hu : x ∈ k.us) :
    (symOf p b x = 0 ∧ nameOp p b x w = (8 + w, x)) ∨ (symOf p b x = 2 ∧ nameOp p b x w = (11 + w, x)) ∨
    (symOf p b x = 4 ∧ ∃ i : Nat, nameOp p b x w = (2 + w, (i : Int)) ∧ i < (fastsL p b).length ∧ (fastsL p b)[i]? = some x) ∨
    (symOf p b x = 3 ∧ ∃ i : Nat, nameOp p b x w = (5 + w, (i : Int)) ∧ i < (cellsL p b).length ∧ (cellsL p b ++ freesL p b)[i]? = some x) ∨
    (symOf p b x = 1 ∧ ∃ i : Nat, nameOp p b x w = (5 + w, (((cellsL p b).length + i : Nat) : Int)) ∧ i < (freesL p b).length ∧ (cellsL p b ++ freesL p b)[(cellsL p b).length + i]? = some x) := by
  have hx : 0 ≤ x ∧ x ≤ 7 := by
    rw [Blk.us, mem_sorted] at hu
    exact hu.2
  obtain ⟨s0, s4⟩ := symOf_bd (p := p) (b := b) (x := x)
  by_cases e0 : symOf p b x = 0
  · exact .inl ⟨e0, by simp [nameOp, e0]⟩
  by_cases e2 : symOf p b x = 2
  · exact .inr (.inl ⟨e2, by simp [nameOp, e2]⟩)
  by_cases e4 : symOf p b x = 4
  · obtain ⟨i, h1, h2, h3⟩ := placeIn_at (sym_fast hp hk hx e4)
    exact .inr (.inr (.inl ⟨e4, i, by simp [nameOp, e4, h1], h2, h3⟩))
  by_cases e3 : symOf p b x = 3
  · have hc := sym_cell e3
    obtain ⟨i, h1, h2, h3⟩ := placeIn_at hc
    exact .inr (.inr (.inr (.inl ⟨e3, i, by simp [nameOp, e3, cellPl, hc, h1], h2, by rw [List.getElem?_append_left h2]; exact h3⟩)))
  have e1 : symOf p b x = 1 := by omega
  obtain ⟨hf, hc⟩ := sym_free hp hk hu e1
  obtain ⟨i, h1, h2, h3⟩ := placeIn_at hf
  exact .inr (.inr (.inr (.inr ⟨e1, i, by simp [nameOp, e1, cellPl, hc, h1], h2, by rw [List.getElem?_append_right (by omega)]; simpa using h3⟩)))

theorem nameOp_ge {p : Prg} {b : Nat} {x w : Int} (hw : 0 ≤ w) : 2 ≤ (nameOp p b x w).1 := by
  unfold nameOp
  split
  · simp only []; omega
  · split
    · simp only []; omega
    · split <;> simp only [] <;> omega
theorem nameOp_eff {p : Prg} {b : Nat} {x : Int} : effO (nameOp p b x 0) = 1 ∧ effO (nameOp p b x 1) = -1 ∧ effO (nameOp p b x 2) = 0 := by
  unfold nameOp
  split
  · simp [effO]
  · split
    · simp [effO]
    · split <;> simp [effO]
theorem reads_us {k : Blk} {s : Stm} {x : Int} (hn : NmOk k) (hs : s ∈ k.body) (hx : x ∈ s.reads) : x ∈ k.us := by
  have h1 := hn.reads s hs x hx
  simp only [Blk.us, mem_sorted, List.mem_append, Blk.rd, readsAll, List.mem_flatMap]
  exact ⟨.inl (.inl (.inl ⟨⟨s, hs, hx⟩, h1⟩)), h1⟩
theorem to_us {k : Blk} {s : Stm} (hn : NmOk k) (hs : s ∈ k.body) (h : s.sets ∨ s.kind = 11) : s.to ∈ k.us := by
  have h1 := hn.tos s hs
  simp only [Blk.us, mem_sorted, List.mem_append, Blk.bd, boundAll, List.mem_map, List.mem_filter, decide_eq_true_eq]
  exact ⟨.inl (.inl (.inr ⟨.inr ⟨s, ⟨hs, h⟩, rfl⟩, h1⟩)), h1⟩

/-! ### Orders of statements -/
/-- an order's place is one that there is -/
def ordIn (p : Prg) (b : Nat) (o : Int × Int) : Prop :=
  0 ≤ o.2 ∧ (2 ≤ o.1 → o.1 ≤ 4 → o.2 < (fastsL p b).length) ∧ (5 ≤ o.1 → o.1 ≤ 7 → o.2 < ((cellsL p b).length : Int) + (freesL p b).length)
theorem nameOp_in {p : Prg} {b : Nat} {k : Blk} {x w : Int} (hp : ShapeP p) (hk : p[b]? = some k) (hu : x ∈ k.us) (h0 : 0 ≤ w) (h2 : w ≤ 2) : ordIn p b (nameOp p b x w) := by
  have hx : 0 ≤ x ∧ x ≤ 7 := by
    rw [Blk.us, mem_sorted] at hu
    exact hu.2
  rcases nameOp_sym (w := w) hp hk hu with ⟨_, e⟩ | ⟨_, e⟩ | ⟨_, i, e, hi, _⟩ | ⟨_, i, e, hi, _⟩ | ⟨_, i, e, hi, _⟩ <;> rw [e] <;> refine ⟨?_, ?_, ?_⟩ <;> simp only [] <;> omega
theorem stmtL_in {p : Prg} {b : Nat} {k : Blk} {s : Stm} (hp : ShapeP p) (hk : p[b]? = some k) (hs : s ∈ k.body) : ∀ o ∈ stmtL p b s, ordIn p b o := by
  have hn := hp.names k (List.mem_of_getElem? hk)
  have hst := hp.stm b k hk s hs
  intro o ho
  simp only [stmtL, List.mem_cons, List.mem_append] at ho
  rcases ho with rfl | ho | ho | ho
  · refine ⟨by decide, ?_, ?_⟩ <;> simp only [] <;> omega
  · simp only [readL, List.mem_map] at ho
    obtain ⟨x, hx, rfl⟩ := ho
    exact nameOp_in hp hk (reads_us hn hs hx) (by decide) (by decide)
  · have key : o.1 = 1 ∨ 14 ≤ o.1 → 0 ≤ o.2 → ordIn p b o := fun h h' => ⟨h', fun _ _ => by omega, fun _ _ => by omega⟩
    have hkd := hn.kinds s hs
    simp only [StmOk, Bool.and_eq_true] at hst
    obtain ⟨⟨ht, hr⟩, hst⟩ := hst
    unfold workL at ho
    split at ho
    · rename_i e
      obtain rfl := List.mem_singleton.1 ho
      simp [e] at hst
      exact key (by simp) (by simp; omega)
    · split at ho
      · obtain rfl := List.mem_singleton.1 ho
        exact key (by simp) (by simp)
      · split at ho
        · rename_i e
          obtain rfl := List.mem_singleton.1 ho
          simp [e, madeAs] at hst
          exact key (by simp) (by simp; omega)
        · split at ho
          · rename_i e
            obtain rfl := List.mem_singleton.1 ho
            simp [e, madeAs] at hst
            exact key (by simp) (by simp; omega)
          · split at ho
            · rename_i e
              obtain rfl := List.mem_singleton.1 ho
              refine key (by simp) ?_
              simp only [Stm.reads, e]
              by_cases hb : s.b = -1 <;> simp [hb]
            · split at ho
              · rename_i e
                obtain rfl := List.mem_singleton.1 ho
                simp [e] at hst
                exact key (by simp) (by simp; omega)
              · split at ho
                · obtain rfl := List.mem_singleton.1 ho
                  exact key (by simp) (by simp)
                · split at ho
                  · obtain rfl := List.mem_singleton.1 ho
                    exact key (by simp) (by simp)
                  · cases ho
  · unfold setL at ho
    split at ho
    · rename_i e
      obtain rfl := List.mem_singleton.1 ho
      exact nameOp_in hp hk (to_us hn hs (.inr e)) (by decide) (by decide)
    · split at ho
      · rename_i e
        obtain rfl := List.mem_singleton.1 ho
        exact nameOp_in hp hk (to_us hn hs (.inl e)) (by decide) (by decide)
      · cases ho
theorem opsL_in {p : Prg} {b : Nat} {k : Blk} (hp : ShapeP p) (hk : p[b]? = some k) : ∀ o ∈ opsL p b, ordIn p b o := by
  intro o ho
  simp only [opsL, hk, bodyL, List.mem_flatMap] at ho
  obtain ⟨s, hs, ho⟩ := ho
  exact stmtL_in hp hk hs o ho

/-! ### Ticks -/
theorem ticks_zero {l : List (Int × Int)} (h : ∀ o ∈ l, 0 < o.1) : ticks l = 0 := by
  simp only [ticks, List.countP_eq_zero, beq_iff_eq]
  intro o ho
  have := h o ho
  omega
theorem stmtL_tail {p : Prg} {b : Nat} {s : Stm} : ∀ o ∈ readL p b s ++ (workL s ++ setL p b s), 0 < o.1 := by
  intro o ho
  simp only [List.mem_append] at ho
  rcases ho with ho | ho | ho
  · simp only [readL, List.mem_map] at ho
    obtain ⟨x, _, rfl⟩ := ho
    have := nameOp_ge (p := p) (b := b) (x := x) (w := 0) (by decide)
    omega
  · unfold workL at ho
    repeat' split at ho
    all_goals first | (obtain rfl := List.mem_singleton.1 ho; simp; done) | (simp at ho; done)
  · unfold setL at ho
    split at ho
    · obtain rfl := List.mem_singleton.1 ho
      have := nameOp_ge (p := p) (b := b) (x := s.to) (w := 2) (by decide)
      omega
    · split at ho
      · obtain rfl := List.mem_singleton.1 ho
        have := nameOp_ge (p := p) (b := b) (x := s.to) (w := 1) (by decide)
        omega
      · cases ho
theorem ticks_stmt {p : Prg} {b : Nat} {s : Stm} : ticks (stmtL p b s) = 1 := by
  have h := ticks_zero (stmtL_tail (p := p) (b := b) (s := s))
  have h1 : ticks (stmtL p b s) = ticks [((0 : Int), (0 : Int))] + ticks (readL p b s ++ (workL s ++ setL p b s)) := by rw [← ticks_app]; rfl
  rw [h1, h]
  rfl
theorem ticks_body {p : Prg} {b : Nat} : ∀ ss : List Stm, ticks (bodyL p b ss) = ss.length
  | [] => rfl
  | s :: l => by
    have h := ticks_body (p := p) (b := b) l
    have h1 : bodyL p b (s :: l) = stmtL p b s ++ bodyL p b l := by simp [bodyL]
    rw [h1, ticks_app, ticks_stmt, h, List.length_cons]
    omega

/-! ### Heights -/
structure Lev (l : List (Int × Int)) : Prop where
  sum : sumO l = 0
  at' : ∀ (i : Nat) o, l[i]? = some o → 0 ≤ sumO (l.take (i + 1)) ∧ sumO (l.take (i + 1)) ≤ 2 ∧ (o.1 = 0 → sumO (l.take (i + 1)) = 0)
theorem Lev.nil : Lev [] := ⟨rfl, fun i o h => by simp at h⟩
theorem Lev.app {l m : List (Int × Int)} (hl : Lev l) (hm : Lev m) : Lev (l ++ m) := by
  refine ⟨by rw [sumO_app, hl.sum, hm.sum]; rfl, fun i o ho => ?_⟩
  by_cases h : i < l.length
  · rw [List.getElem?_append_left h] at ho
    rw [List.take_append_of_le_length (by omega)]
    exact hl.at' i o ho
  · rw [List.getElem?_append_right (by omega)] at ho
    have e : (l ++ m).take (i + 1) = l ++ m.take (i - l.length + 1) := by
      rw [List.take_append, List.take_of_length_le (by omega)]
      congr 2
      omega
    rw [e, sumO_app, hl.sum, Int.zero_add]
    exact hm.at' _ o ho
theorem Lev.of {l : List (Int × Int)} {t : List Int} (h : l.map effO = 0 :: t) (h1 : ∀ o ∈ l.tail, 0 < o.1) (h2 : (0 :: t).sum = 0) (h3 : ∀ i, i ≤ t.length → 0 ≤ ((0 :: t).take (i + 1)).sum ∧ ((0 :: t).take (i + 1)).sum ≤ 2) : Lev l := by
  refine ⟨by rw [sumO, h]; exact h2, fun i o ho => ?_⟩
  have hil := (List.getElem?_eq_some_iff.1 ho).1
  have hlen : l.length = t.length + 1 := by simpa using congrArg List.length h
  have e : sumO (l.take (i + 1)) = ((0 :: t).take (i + 1)).sum := by rw [sumO, List.map_take, h]
  rw [e]
  refine ⟨(h3 i (by omega)).1, (h3 i (by omega)).2, fun h0 => ?_⟩
  cases i with
  | zero => simp
  | succ i =>
    exfalso
    have : l.tail[i]? = some o := by simpa using ho
    have := h1 o (List.mem_of_getElem? this)
    omega
theorem stmtL_lev {p : Prg} {b : Nat} {s : Stm} (hk : 0 ≤ s.kind ∧ s.kind ≤ 11) : Lev (stmtL p b s) := by
  have ht := stmtL_tail (p := p) (b := b) (s := s)
  have n0 := fun x => (nameOp_eff (p := p) (b := b) (x := x)).1
  have n1 := fun x => (nameOp_eff (p := p) (b := b) (x := x)).2.1
  have n2 := fun x => (nameOp_eff (p := p) (b := b) (x := x)).2.2
  obtain ⟨kd, to, a, c⟩ := s
  simp only at hk
  have key : ∀ t : List Int, (stmtL p b ⟨kd, to, a, c⟩).map effO = 0 :: t → (0 :: t).sum = 0 → (∀ i, i ≤ t.length → 0 ≤ ((0 :: t).take (i + 1)).sum ∧ ((0 :: t).take (i + 1)).sum ≤ 2) → Lev (stmtL p b ⟨kd, to, a, c⟩) := fun t h => Lev.of h ht
  have hd : kd = 0 ∨ kd = 1 ∨ kd = 2 ∨ kd = 3 ∨ kd = 4 ∨ kd = 5 ∨ kd = 6 ∨ kd = 7 ∨ kd = 8 ∨ kd = 9 ∨ kd = 10 ∨ kd = 11 := by omega
  have f0 : effO (0, 0) = 0 := rfl
  have g1 : ∀ x, effO (1, x) = 1 := fun x => by simp [effO]
  have g14 : ∀ x, effO (14, x) = -1 := fun x => by simp [effO]
  have g15 : ∀ x, effO (15, x) = 1 := fun x => by simp [effO]
  have g16 : ∀ x, effO (16, x) = 1 := fun x => by simp [effO]
  have g17 : ∀ x, effO (17, x) = -x := fun x => by simp [effO]
  have g18 : ∀ x, effO (18, x) = 0 := fun x => by simp [effO]
  have g19 : ∀ x, effO (19, x) = -1 := fun x => by simp [effO]
  have g20 : ∀ x, effO (20, x) = -1 := fun x => by simp [effO]
  rcases hd with rfl | rfl | rfl | rfl | rfl | rfl | rfl | rfl | rfl | rfl | rfl | rfl
  · exact key [1, -1] (by simp [stmtL, readL, Stm.reads, workL, setL, n1, f0, g1]) (by decide) (by decide)
  · exact key [1, -1] (by simp [stmtL, readL, Stm.reads, workL, setL, n0, n1, f0]) (by decide) (by decide)
  · exact key [1, 1, -1, -1] (by simp [stmtL, readL, Stm.reads, workL, setL, n0, n1, f0, g14]) (by decide) (by decide)
  · exact key [1, -1] (by simp [stmtL, readL, Stm.reads, workL, setL, n1, f0, g15]) (by decide) (by decide)
  · exact key [1, -1] (by simp [stmtL, readL, Stm.reads, workL, setL, n1, f0, g16]) (by decide) (by decide)
  · by_cases hc : c = -1
    · exact key [1, 0, -1] (by simp [stmtL, readL, Stm.reads, workL, setL, n0, n1, f0, g17, hc]) (by decide) (by decide)
    · exact key [1, 1, -1, -1] (by simp [stmtL, readL, Stm.reads, workL, setL, n0, n1, f0, g17, hc]) (by decide) (by decide)
  · exact key [1, 0, -1] (by simp [stmtL, readL, Stm.reads, workL, setL, n0, n1, f0, g18]) (by decide) (by decide)
  · exact key [1, -1] (by simp [stmtL, readL, Stm.reads, workL, setL, n0, f0, g19]) (by decide) (by decide)
  · exact key [1, -1] (by simp [stmtL, readL, Stm.reads, workL, setL, n0, f0, g20]) (by decide) (by decide)
  · exact key [] (by simp [stmtL, readL, Stm.reads, workL, setL, f0]) (by decide) (by decide)
  · exact key [] (by simp [stmtL, readL, Stm.reads, workL, setL, f0]) (by decide) (by decide)
  · exact key [0] (by simp [stmtL, readL, Stm.reads, workL, setL, n2, f0]) (by decide) (by decide)
theorem bodyL_lev {p : Prg} {b : Nat} : ∀ ss : List Stm, (∀ s ∈ ss, 0 ≤ s.kind ∧ s.kind ≤ 11) → Lev (bodyL p b ss)
  | [], _ => Lev.nil
  | s :: l, h => by
    have h1 : bodyL p b (s :: l) = stmtL p b s ++ bodyL p b l := by simp [bodyL]
    rw [h1]
    exact (stmtL_lev (h s (by simp))).app (bodyL_lev l fun t ht => h t (by simp [ht]))
end Go.Hm
end

section
/-
  The heap machine, part 65: the code of a block in memory. Own work.
-/
set_option linter.unusedSimpArgs false
namespace Go.Hm
open Go Go.RowKit

theorem orows_snoc {l : List (Int × Int)} {x y : Int} : orows l ++ [[iv x, iv y]] = orows (l ++ [(x, y)]) := by simp [orows]
/-- the code of a block -/
structure Cod where
  kind : Int
  params : List Int
  fasts : List Int
  cells : List Int
  frees : List Int
  ops : List (Int × Int)
  deriving DecidableEq, Inhabited
def noCode : Cod := ⟨0, [], [], [], [], []⟩
@[simp] theorem noCode_kind : noCode.kind = 0 := rfl
@[simp] theorem noCode_params : noCode.params = [] := rfl
@[simp] theorem noCode_fasts : noCode.fasts = [] := rfl
@[simp] theorem noCode_cells : noCode.cells = [] := rfl
@[simp] theorem noCode_frees : noCode.frees = [] := rfl
@[simp] theorem noCode_ops : noCode.ops = [] := rfl
def codeL (p : Prg) (b : Nat) : Cod := match p[b]? with | some k => ⟨k.kind, k.params, fastsL p b, cellsL p b, freesL p b, opsL p b⟩ | none => noCode
def codeG (p : Prg) (b : Int) : Cod := if blkAt p b = true then codeL p b.toNat else noCode
def codesTo (p : Prg) (n : Nat) : List Cod := (List.range n).map (codeL p)
def codesG (p : Prg) : List Cod := if progOk p = true then codesTo p p.length else []
theorem codesTo_succ {p : Prg} {n : Nat} : codesTo p (n + 1) = codesTo p n ++ [codeL p n] := by simp [codesTo, List.range_succ]
@[simp] theorem codesTo_len {p : Prg} {n : Nat} : (codesTo p n).length = n := by simp [codesTo]
@[simp] theorem codesTo_zero {p : Prg} : codesTo p 0 = [] := rfl

/-- settled -/
abbrev Cod.row (c : Cod) : List AV := [iv c.kind, isl c.params, isl c.fasts, isl c.cells, isl c.frees, osl c.ops]
abbrev Cod.av (c : Cod) : AV := .agg c.row
def kcrows (cs : List Cod) : List (List AV) := cs.map Cod.row
abbrev csl (cs : List Cod) : AV := .sl 6 (kcrows cs)
/-- a function's own, the i-th of n -/
def Cod.own (n : Nm) (i : Nat) (c : Cod) : List AV :=
  [iv c.kind, .hs (.c n i 1) 1 0 c.params.length, .hs (.c n i 2) 1 0 c.fasts.length, .hs (.c n i 3) 1 0 c.cells.length, .hs (.c n i 4) 1 0 c.frees.length, .hs (.c n i 5) 2 0 c.ops.length]
@[simp] theorem Cod.own_eq {n : Nm} {i : Nat} {c : Cod} : c.own n i = [iv c.kind, .hs (.c n i 1) 1 0 c.params.length, .hs (.c n i 2) 1 0 c.fasts.length, .hs (.c n i 3) 1 0 c.cells.length, .hs (.c n i 4) 1 0 c.frees.length, .hs (.c n i 5) 2 0 c.ops.length] := rfl
structure OwnK (hp : Nm → Option AO) (n : Nm) (i : Nat) (c : Cod) : Prop where
  params : hp (.c n i 1) = some (.row 1 (irows c.params))
  fasts : hp (.c n i 2) = some (.row 1 (irows c.fasts))
  cells : hp (.c n i 3) = some (.row 1 (irows c.cells))
  frees : hp (.c n i 4) = some (.row 1 (irows c.frees))
  ops : hp (.c n i 5) = some (.row 2 (orows c.ops))
def kdRows (n : Nm) (cs : List Cod) : List (List AV) := cs.mapIdx fun i c => c.own n i
structure OwnC (hp : Nm → Option AO) (n : Nm) (cs : List Cod) : Prop where
  top : hp n = some (.row 6 (kdRows n cs))
  each : ∀ (i : Nat) c, cs[i]? = some c → OwnK hp n i c
section
variable {cs : List Cod} {i a b d l : Nat} {n q k1 : Nm} {c : Cod}
@[simp] theorem kcrows_len : (kcrows cs).length = cs.length := by simp [kcrows]
@[simp] theorem kcrows_get : (kcrows cs)[i]? = (cs[i]?).map Cod.row := by simp [kcrows]
@[simp] theorem kcrows_getE {h : i < (kcrows cs).length} : (kcrows cs)[i] = (cs[i]'(by simpa using h)).row := by simp [kcrows]
@[simp] theorem kcrows_tr {f : Nm → Option Nm} : (kcrows cs).map (fun r => r.map (AV.tr f)) = kcrows cs := by simp [kcrows]
@[simp] theorem kdRows_len : (kdRows n cs).length = cs.length := by simp [kdRows]
@[simp] theorem kdRows_get : (kdRows n cs)[i]? = (cs[i]?).map (fun c => c.own n i) := by simp [kdRows]
@[simp] theorem kdRows_getE {h : i < (kdRows n cs).length} : (kdRows n cs)[i] = (cs[i]'(by simpa using h)).own n i := by simp [kdRows]
@[simp] theorem kdRows_nil : kdRows n [] = [] := rfl
@[simp] theorem kdRows_take : (kdRows n cs).take cs.length = kdRows n cs := List.take_of_length_le (by simp)
theorem kdRows_app : kdRows n (cs ++ [c]) = kdRows n cs ++ [c.own n cs.length] := by simp [kdRows]
theorem kdRows_tr {f : Nm → Option Nm} {m : Nm} (h : ∀ i j, i < cs.length → f (.c n i j) = some (.c m i j)) : (kdRows n cs).map (fun r => r.map (AV.tr f)) = kdRows m cs := by
  apply List.ext_getElem?
  intro i
  simp only [List.getElem?_map, kdRows_get, Option.map_map]
  cases hx : cs[i]? with
  | none => rfl
  | some x => simp [Cod.own, h i _ (List.getElem?_eq_some_iff.1 hx).1]
@[simp] theorem kdRows_kl (h : Nm.under (.s d) n = false) : (kdRows n cs).map (fun r => r.map (AV.tr (kl (.s d)))) = kdRows n cs := kdRows_tr (by simp [h])
@[simp] theorem kdRows_mv1 (h : Nm.under (.s a) n = true) : (kdRows n cs).map (fun r => r.map (AV.tr (mv (.s a) k1))) = kdRows (Nm.ren (.s a) k1 n) cs := kdRows_tr (by simp [h])
@[simp] theorem kdRows_mv2 (h : Nm.under (.s a) n = false) (h' : Nm.under (.s b) n = false) : (kdRows n cs).map (fun r => r.map (AV.tr (mv (.s a) (.s b)))) = kdRows n cs := kdRows_tr (by simp [h, h'])
@[simp] theorem kdRows_mv3 (h : Nm.under (.s a) n = false) (hq : (q = n) = False) (hq' : Nm.under (.c q b l) n = false) : (kdRows n cs).map (fun r => r.map (AV.tr (mv (.s a) (.c q b l)))) = kdRows n cs := by
  have : ¬ n = q := fun e => by simp [e] at hq
  exact kdRows_tr (by simp [h, hq', this])
@[simp] theorem kdRows_mvc : (kdRows n cs).map (fun r => r.map (AV.tr (mvc n k1))) = kdRows k1 cs := by
  refine kdRows_tr fun i j _ => ?_
  have : Nm.c n i j ≠ n := Nm.not_under_c (Nm.under_self n)
  simp [this]
@[simp] theorem kdRows_mv4 {j : Nat} (hq : (q = n) = False) (hq' : Nm.under (.c q a b) n = false) (hl : cs.length ≤ l) : (kdRows n cs).map (fun r => r.map (AV.tr (mv (.c q a b) (.c n l j)))) = kdRows n cs := by
  have h1 : ¬ n = q := fun e => by simp [e] at hq
  have h2 : Nm.under (.c n l j) n = false := by
    cases h : Nm.under (.c n l j) n with
    | false => rfl
    | true => exact absurd rfl (Nm.under_not_c h).2
  refine kdRows_tr fun i j hi => ?_
  have h3 : ¬ i = l := by omega
  simp [h1, hq', h2, h3]
end

theorem bw_code {hp : Nm → Option AO} {n : Nm} {i : Nat} {c : Cod} (h : OwnK hp n i c) : ∀ (j : Nat) a a', (c.own n i)[j]? = some a → c.row[j]? = some a' → Bw hp noD a a'
  | 0, a, a', ha, ha' => by obtain rfl := Option.some.inj ha; obtain rfl := Option.some.inj ha'; exact .refl _
  | 1, a, a', ha, ha' => by obtain rfl := Option.some.inj ha; obtain rfl := Option.some.inj ha'; exact bw_ints h.params rfl
  | 2, a, a', ha, ha' => by obtain rfl := Option.some.inj ha; obtain rfl := Option.some.inj ha'; exact bw_ints h.fasts rfl
  | 3, a, a', ha, ha' => by obtain rfl := Option.some.inj ha; obtain rfl := Option.some.inj ha'; exact bw_ints h.cells rfl
  | 4, a, a', ha, ha' => by obtain rfl := Option.some.inj ha; obtain rfl := Option.some.inj ha'; exact bw_ints h.frees rfl
  | 5, a, a', ha, ha' => by obtain rfl := Option.some.inj ha; obtain rfl := Option.some.inj ha'; exact bw_ords h.ops rfl
  | j + 6, a, a', ha, _ => by simp [Cod.own] at ha
theorem bw_codeA {hp : Nm → Option AO} {n : Nm} {i : Nat} {c : Cod} (h : OwnK hp n i c) : Bw hp noD (.agg (c.own n i)) c.av := .agg _ _ rfl (bw_code h)
theorem bw_codes {hp : Nm → Option AO} {n : Nm} {len : Nat} {cs : List Cod} (h : OwnC hp n cs) (hl : len = cs.length) : Bw hp noD (.hs n 6 0 len) (csl cs) := by
  subst hl
  refine .hs n 6 0 cs.length (kdRows n cs) (kcrows cs) rfl h.top (by simp) (by simp) (by simp [kcrows]) fun i r r' hr hr' j a a' ha ha' => ?_
  rw [Nat.zero_add, kdRows_get] at hr
  rw [kcrows_get] at hr'
  obtain ⟨x, hx, rfl⟩ := Option.map_eq_some_iff.1 hr
  rw [hx] at hr'
  obtain rfl := Option.some.inj hr'
  exact bw_code (h.each i x hx) j a a' ha ha'
theorem OwnK.hcln {H' : Nm → Option AO} {n : Nm} {i : Nat} {c : Cod} (h : OwnK H' n i c) : OwnK (hcln H') n i c :=
  ⟨hcln_row h.params (by simp), hcln_row h.fasts (by simp), hcln_row h.cells (by simp), hcln_row h.frees (by simp), hcln_row h.ops (by simp)⟩
theorem OwnC.hcln {H' : Nm → Option AO} {n : Nm} {cs : List Cod} (h : OwnC H' n cs) : OwnC (hcln H') n cs := by
  refine ⟨hcln_row h.top ?_, fun i c hc => (h.each i c hc).hcln⟩
  simp only [kdRows, List.all_eq_true]
  intro r hr
  obtain ⟨i, hi⟩ := List.getElem?_of_mem hr
  rw [List.getElem?_mapIdx] at hi
  obtain ⟨x, _, rfl⟩ := Option.map_eq_some_iff.1 hi
  simp [Cod.own]

/-! ### Heights -/
def heightsTo (l : List (Int × Int)) (n : Nat) : List Int := (List.range n).map fun i => sumO (l.take (i + 1))
theorem heightsTo_succ {l : List (Int × Int)} {n : Nat} : heightsTo l (n + 1) = heightsTo l n ++ [sumO (l.take (n + 1))] := by simp [heightsTo, List.range_succ]
@[simp] theorem heightsTo_len {l : List (Int × Int)} {n : Nat} : (heightsTo l n).length = n := by simp [heightsTo]
theorem heightsTo_all {l : List (Int × Int)} : heightsTo l l.length = heightsL l := rfl
theorem sumO_take {l : List (Int × Int)} {i : Nat} {o : Int × Int} (h : l[i]? = some o) : sumO (l.take (i + 1)) = sumO (l.take i) + effO o := by
  rw [List.take_add_one, h, sumO_app]
  simp [sumO]
theorem ticks_take {l : List (Int × Int)} {i : Nat} {o : Int × Int} (h : l[i]? = some o) : ticks (l.take (i + 1)) = ticks (l.take i) + (if o.1 = 0 then 1 else 0) := by
  rw [List.take_add_one, h, ticks_app]
  by_cases e : o.1 = 0 <;> simp [ticks, e]
theorem ticks_le {l : List (Int × Int)} : ticks l ≤ l.length := List.countP_le_length
/-- a call has at most one argument -/
theorem stmtL_call {p : Prg} {b : Nat} {s : Stm} {o : Int × Int} (ho : o ∈ stmtL p b s) (h : o.1 = 17) : 0 ≤ o.2 ∧ o.2 ≤ 1 := by
  have nc : ∀ x w, 0 ≤ w → w ≤ 2 → (nameOp p b x w).1 ≠ 17 := fun x w h1 h2 e => by
    have := (nameOp_le (p := p) (b := b) (x := x) h1 h2).2
    omega
  simp only [stmtL, List.mem_cons, List.mem_append] at ho
  rcases ho with rfl | ho | ho | ho
  · cases h
  · simp only [readL, List.mem_map] at ho
    obtain ⟨x, _, rfl⟩ := ho
    exact absurd h (nc x 0 (by decide) (by decide))
  · unfold workL at ho
    have hr := s.reads_len
    repeat' split at ho
    all_goals first | (obtain rfl := List.mem_singleton.1 ho; simp at h; done) | (simp at ho; done) | skip
    rename_i e
    obtain rfl := List.mem_singleton.1 ho
    have : 1 ≤ s.reads.length := by
      simp only [Stm.reads, e]
      by_cases hb : s.b = -1 <;> simp [hb]
    simp only
    omega
  · unfold setL at ho
    split at ho
    · obtain rfl := List.mem_singleton.1 ho
      exact absurd h (nc _ 2 (by decide) (by decide))
    · split at ho
      · obtain rfl := List.mem_singleton.1 ho
        exact absurd h (nc _ 1 (by decide) (by decide))
      · cases ho
theorem opsL_call {p : Prg} {b : Nat} {o : Int × Int} (ho : o ∈ opsL p b) (h : o.1 = 17) : 0 ≤ o.2 ∧ o.2 ≤ 1 := by
  unfold opsL at ho
  split at ho
  · simp only [bodyL, List.mem_flatMap] at ho
    obtain ⟨s, _, ho⟩ := ho
    exact stmtL_call ho h
  · cases ho
theorem opsL_len {p : Prg} {b : Nat} (hp : ShapeP p) : (opsL p b).length ≤ 60 := by
  unfold opsL
  split
  · rename_i k hk
    have h1 := bodyL_len (p := p) (b := b) k.body
    have h2 := hp.body k (List.mem_of_getElem? hk)
    omega
  · simp
theorem opsL_lev {p : Prg} {b : Nat} (hp : ShapeP p) : Lev (opsL p b) := by
  unfold opsL
  split
  · rename_i k hk
    exact bodyL_lev k.body (hp.names k (List.mem_of_getElem? hk)).kinds
  · exact .nil
/-- a code of which all is small -/
structure KSm (c : Cod) : Prop where
  params : c.params.length ≤ 1048576
  fasts : c.fasts.length ≤ 1048576
  cells : c.cells.length ≤ 1048576
  frees : c.frees.length ≤ 1048576
  ops : c.ops.length ≤ 1048576
theorem codeL_sm {p : Prg} {b : Nat} (hp : ShapeP p) : KSm (codeL p b) := by
  have h1 := opsL_len (b := b) hp
  have h2 := fastsL_len (p := p) (b := b)
  have h3 := cellsL_len (p := p) (b := b)
  have h4 := freesL_len (p := p) (b := b)
  unfold codeL
  split
  · rename_i k hk
    have h5 := (hp.sml.bsm hk).params
    exact ⟨h5, by simp only; omega, by simp only; omega, by simp only; omega, by simp only; omega⟩
  · exact ⟨by decide, by decide, by decide, by decide, by decide⟩
theorem noCode_sm : KSm noCode := ⟨by decide, by decide, by decide, by decide, by decide⟩
end Go.Hm
end
