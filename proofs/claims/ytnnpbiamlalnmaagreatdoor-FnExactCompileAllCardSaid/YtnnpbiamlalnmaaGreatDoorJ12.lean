/-
  Own texts, joined by mkclaim.py: Hm71, Hm72, Hm81, Hm93, Hm104.
-/
import Derived.Test.YtnnpbiamlalnmaaGreatDoorJ11
import Derived.Test.YtnnpbiamlalnmaaGreatDoorJ10
set_option linter.unusedSimpArgs false
set_option linter.unusedVariables false
set_option maxRecDepth 100000
set_option maxHeartbeats 4000000

section
namespace Go.Hm
open Go Go.RowKit
theorem StmOk.made {p : Prg} {b : Nat} {k : Blk} {s : Stm} (h : StmOk p b k s = true) (hk : s.kind = 3 ∨ s.kind = 4) : ∃ q, p[s.a.toNat]? = some q ∧ q.parent = b ∧ 0 < s.a ∧ q.kind = s.kind - 2 := by
  have key : ∀ d, madeAs p b s.a d = true → ∃ q, p[s.a.toNat]? = some q ∧ q.parent = b ∧ 0 < s.a ∧ q.kind = d := by
    intro d hm
    simp only [madeAs, Bool.and_eq_true, decide_eq_true_eq] at hm
    obtain ⟨⟨h1, h2⟩, h3⟩ := hm
    split at h3
    · rename_i q hq
      simp only [Bool.and_eq_true, beq_iff_eq] at h3
      exact ⟨q, hq, h3.2, by omega, h3.1⟩
    · cases h3
  rcases hk with e | e
  · simp only [StmOk, e] at h
    simp at h
    obtain ⟨q, h1, h2, h3, h4⟩ := key 1 h.2.2
    exact ⟨q, h1, h2, h3, by rw [h4, e]; rfl⟩
  · simp only [StmOk, e] at h
    simp at h
    obtain ⟨q, h1, h2, h3, h4⟩ := key 2 h.2.2
    exact ⟨q, h1, h2, h3, by rw [h4, e]; rfl⟩
theorem StmOk.num {p : Prg} {b : Nat} {k : Blk} {s : Stm} (h : StmOk p b k s = true) (hk : s.kind = 0) : 0 ≤ s.a ∧ s.a ≤ 99 := by
  simp only [StmOk, hk] at h
  simp at h
  omega
theorem StmOk.print {p : Prg} {R : Wld → Nat → Wld × Val} {w : Wld} {a : Nat} {s : Stm} (h : s.kind = 7) : valueW p R w a s = if (loadsW p w a s.reads).1.en ≠ 0 then ((loadsW p w a s.reads).1, (0, 0)) else ((loadsW p w a s.reads).1, (loadsW p w a s.reads).2.getD 0 (0, 0)) := by
  simp [valueW, workW, h]
def slotC (s : Slt) : List AV := match s with | some v => [bv true, iv v.1, iv v.2] | none => [bv false, iv 0, iv 0]
@[simp] theorem slotC_none : slotC none = [bv false, iv 0, iv 0] := rfl
@[simp] theorem slotC_some {v : Val} : slotC (some v) = [bv true, iv v.1, iv v.2] := rfl
def slrows (l : List Slt) : List (List AV) := l.map slotC
section
variable {l : List Slt} {i : Nat} {f : Nm → Option Nm} {s : Slt}
@[simp] theorem slrows_nil : slrows [] = [] := rfl
end
def vrows (l : List Val) : List (List AV) := l.map fun v => [iv v.1, iv v.2]
section
variable {l m : List Val} {i : Nat} {f : Nm → Option Nm} {v : Val}
@[simp] theorem vrows_nil : vrows [] = [] := rfl
end
def nrows (l : List (Nat × Nat)) : List (List AV) := l.map fun v => [iv v.1, iv v.2]
section
variable {l m : List (Nat × Nat)} {i : Nat} {f : Nm → Option Nm}
@[simp] theorem nrows_nil : nrows [] = [] := rfl
end
section
variable {as : List Act} {cs : List (List Slt)} {fs : List (Nat × Nat)} {n m : Nm} {i : Nat} {f : Nm → Option Nm}
end
section
variable {l : Option Nat} {d : Nat}
end
def markO (n : Nat) (c : Int) : List (Int × Int) := (List.range n).map (fun i : Nat => (c + 2 * i, c + 2 * i + 1))
section
variable {l : List (Nat × Nat)} {c : Int} {i : Nat}
@[simp] theorem markO_len {n : Nat} : (markO n c).length = n := by simp [markO]
theorem markO_set {xs : List (Int × Int)} (h : i < xs.length) : (markO i c ++ xs.drop i).set i (c + 2 * i, c + 2 * i + 1) = markO (i + 1) c ++ xs.drop (i + 1) := by
  rw [List.set_append_right _ _ (by simp)]
  simp only [markO_len, Nat.sub_self]
  rw [List.drop_eq_getElem_cons h, List.set_cons_zero]
  simp [markO, List.range_succ]
theorem orows_set2 {L : List (Int × Int)} {a b : Int} (h : i < L.length) : rowsSet (rowsSet (orows L) i 0 [iv a]) i 1 [iv b] = orows (L.set i (a, b)) := by
  apply List.ext_getElem?
  intro j
  simp only [rowsSet, List.getElem?_modify, orows_get, List.getElem?_set]
  by_cases e1 : i = j
  · subst e1
    have : L[i]? = some L[i] := gE h
    simp [h]
  · simp [e1]
end
def Cod.cnt (k : Cod) : Nat := k.params.length + k.fasts.length + k.cells.length + k.frees.length + 2 * k.ops.length
def Cod.mark (k : Cod) (c : Int) : Cod := ⟨k.kind, markI k.params.length c, markI k.fasts.length (c + k.params.length), markI k.cells.length (c + k.params.length + k.fasts.length), markI k.frees.length (c + k.params.length + k.fasts.length + k.cells.length), markO k.ops.length (c + k.params.length + k.fasts.length + k.cells.length + k.frees.length)⟩
structure CodSm (k : Cod) : Prop where
  params : k.params.length ≤ 100000
  fasts : k.fasts.length ≤ 100000
  cells : k.cells.length ≤ 100000
  frees : k.frees.length ≤ 100000
  ops : k.ops.length ≤ 100000
section
variable {k : Cod} {c : Int}
@[simp] theorem Cod.mark_kind : (k.mark c).kind = k.kind := rfl
@[simp] theorem Cod.mark_params : (k.mark c).params.length = k.params.length := by simp [Cod.mark]
@[simp] theorem Cod.mark_fasts : (k.mark c).fasts.length = k.fasts.length := by simp [Cod.mark]
@[simp] theorem Cod.mark_cells : (k.mark c).cells.length = k.cells.length := by simp [Cod.mark]
@[simp] theorem Cod.mark_frees : (k.mark c).frees.length = k.frees.length := by simp [Cod.mark]
@[simp] theorem Cod.mark_ops : (k.mark c).ops.length = k.ops.length := by simp [Cod.mark]
theorem CodSm.cnt (h : CodSm k) : k.cnt ≤ 600000 := by
  have := h.params; have := h.fasts; have := h.cells; have := h.frees; have := h.ops
  simp only [Cod.cnt]
  omega
def Cod.markK (k : Cod) (c : Int) : Cod := { k.mark (c + 1) with kind := c }
end
def cntC : List Cod → Nat
  | [] => 0
  | k :: l => 1 + k.cnt + cntC l
def markC : List Cod → Int → List Cod
  | [], _ => []
  | k :: l, c => k.markK c :: markC l (c + 1 + k.cnt)
theorem markC_len : ∀ {l : List Cod} {c : Int}, (markC l c).length = l.length
  | [], _ => rfl
  | k :: l, c => by simp [markC, markC_len]
theorem cntC_app : ∀ {l m : List Cod}, cntC (l ++ m) = cntC l + cntC m
  | [], m => by simp [cntC]
  | k :: l, m => by simp only [List.cons_append, cntC, cntC_app (l := l)]; omega
theorem markC_app : ∀ {l m : List Cod} {c : Int}, markC (l ++ m) c = markC l c ++ markC m (c + cntC l)
  | [], m, c => by simp [markC, cntC]
  | k :: l, m, c => by
    simp only [List.cons_append, markC, cntC, markC_app (l := l)]
    congr 3
    omega
def markCTo (l : List Cod) (c : Int) (i : Nat) : List Cod := markC (l.take i) c ++ l.drop i
section
variable {l : List Cod} {c : Int} {i j : Nat} {k : Cod}
@[simp] theorem markCTo_zero : markCTo l c 0 = l := by simp [markCTo, markC]
theorem markCTo_all : markCTo l c l.length = markC l c := by simp [markCTo]
@[simp] theorem markCTo_len (h : i ≤ l.length) : (markCTo l c i).length = l.length := by simp [markCTo, markC_len]; omega
theorem cntC_step (h : l[i]? = some k) : cntC (l.take (i + 1)) = cntC (l.take i) + 1 + k.cnt := by
  rw [List.take_add_one, h, cntC_app]
  simp [cntC]
  omega
theorem markCTo_at (h : l[i]? = some k) : (markCTo l c i)[i]? = some k := by
  have hi := (gS h).1
  rw [markCTo, List.getElem?_append_right (by rw [markC_len]; simp; omega), markC_len]
  simp [show min i l.length = i by omega, h]
theorem markCTo_step (h : l[i]? = some k) : (markCTo l c i).set i (k.markK (c + cntC (l.take i))) = markCTo l c (i + 1) := by
  obtain ⟨hi, hE⟩ := gS h
  have hd : l.drop i = k :: l.drop (i + 1) := by rw [← hE]; exact List.drop_eq_getElem_cons hi
  have ht : markC (l.take (i + 1)) c = markC (l.take i) c ++ [k.markK (c + cntC (l.take i))] := by
    rw [List.take_add_one, h, markC_app]
    rfl
  have hl : (markC (l.take i) c).length = i := by rw [markC_len]; simp; omega
  rw [markCTo, markCTo, ht, hd, List.set_append_right _ _ (by omega), hl, Nat.sub_self]
  simp
theorem markCTo_other (hne : j ≠ i) (h : l[i]? = some k) : (markCTo l c (i + 1))[j]? = (markCTo l c i)[j]? := by
  rw [← markCTo_step h, List.getElem?_set, if_neg (fun e => hne e.symm)]
theorem markCTo_next (h : l[i]? = some k) : (markCTo l c (i + 1))[i]? = some (k.markK (c + cntC (l.take i))) := by
  have hi := (gS h).1
  rw [← markCTo_step h, List.getElem?_set, if_pos rfl, if_pos (by rw [markCTo_len (by omega)]; exact hi)]
end
section
variable {k : Cod} {c : Int} {l : List Cod} {i : Nat} {n : Nm}
theorem Cod.mark_own : (k.mark c).own n i = k.own n i := by simp [Cod.own]
theorem bw_codeM {hp : Nm → Option AO} (h : OwnK hp n i (k.mark c)) : Bw hp noD (.agg (k.own n i)) (k.mark c).av := by
  have := bw_codeA h
  rwa [Cod.mark_own] at this
@[simp] theorem Cod.markK_params : (k.markK c).params.length = k.params.length := by simp [Cod.markK]
@[simp] theorem Cod.markK_fasts : (k.markK c).fasts.length = k.fasts.length := by simp [Cod.markK]
@[simp] theorem Cod.markK_cells : (k.markK c).cells.length = k.cells.length := by simp [Cod.markK]
@[simp] theorem Cod.markK_frees : (k.markK c).frees.length = k.frees.length := by simp [Cod.markK]
@[simp] theorem Cod.markK_ops : (k.markK c).ops.length = k.ops.length := by simp [Cod.markK]
@[simp] theorem Cod.markK_kind : (k.markK c).kind = c := rfl
theorem markC_at : ∀ {l : List Cod} {i : Nat} {c : Int} {k : Cod}, l[i]? = some k → (markC l c)[i]? = some (k.markK (c + cntC (l.take i)))
  | [], i, c, k, h => by simp at h
  | a :: l, 0, c, k, h => by
    obtain rfl : a = k := by simpa using h
    simp [markC, cntC]
  | a :: l, i + 1, c, k, h => by
    have h' : l[i]? = some k := by simpa using h
    simp only [markC, List.getElem?_cons_succ, List.take_succ_cons, cntC]
    rw [markC_at h']
    congr 2
    omega
@[simp] theorem kdRows_rtf {n : Nm} {i l d a b e : Nat} {cs : List Cod} (hV : Nm.under (.u a b e) n = false) (hd : Nm.under (.s d) n = false) : (kdRows n cs).map (fun r => r.map (AV.tr (rtf (.c n i l) (.u a b e) d))) = kdRows n cs := by
  have hN : Nm.under (.c n i l) n = false := by
    cases h : Nm.under (.c n i l) n with
    | false => rfl
    | true => exact absurd rfl (Nm.under_not_c h).2
  refine kdRows_tr fun i' j' _ => ?_
  by_cases h : i' = i ∧ j' = l
  · simp [h.1, h.2]
  · simp [hN, hV, hd, h]
@[simp] theorem kdRows_mvself {n m : Nm} {cs : List Cod} : (kdRows n cs).map (fun r => r.map (AV.tr (mv n m))) = kdRows m cs := kdRows_tr (by simp)
@[simp] theorem kdRows_rtf2 {n N : Nm} {d a b e : Nat} {cs : List Cod} (hN : Nm.under N n = false) (hN2 : Nm.under n N = false) (hV : Nm.under (.u a b e) n = false) (hd : Nm.under (.s d) n = false) : (kdRows n cs).map (fun r => r.map (AV.tr (rtf N (.u a b e) d))) = kdRows n cs := by
  refine kdRows_tr fun i' j' _ => ?_
  have h : ¬ Nm.c n i' j' = N := fun h => by rw [← h] at hN2; simp at hN2
  have h2 : Nm.under N (.c n i' j') = false := by
    simp only [Nm.under, Bool.or_eq_false_iff, decide_eq_false_iff_not]
    exact ⟨h, hN⟩
  simp only [rtf_eq, h2, Bool.false_eq_true, if_false, under_uc, hV, under_sc, hd]
theorem kdRows_set {q : List Cod} {w : Cod} {b : Int} (h : q[i]? = some k) (h1 : w.params.length = k.params.length) (h2 : w.fasts.length = k.fasts.length) (h3 : w.cells.length = k.cells.length) (h4 : w.frees.length = k.frees.length) (h5 : w.ops.length = k.ops.length) (h6 : w.kind = b) :
    rowsSet (kdRows n q) i 0 [iv b] = kdRows n (q.set i w) := by
  have hi := (gS h).1
  apply List.ext_getElem?
  intro j
  simp only [rowsSet, List.getElem?_modify, kdRows_get, List.getElem?_set]
  by_cases e : i = j
  · subst e
    rw [h]
    simp [hi, h1, h2, h3, h4, h5, h6]
  · simp [e]
theorem cntC_le {a : Nat} : ∀ {l : List Cod}, (∀ v ∈ l, v.cnt ≤ a) → cntC l ≤ l.length * (a + 1)
  | [], _ => by simp [cntC]
  | v :: l, h => by
    have h1 := h v (by simp)
    have h2 := cntC_le (l := l) fun v hv => h v (by simp [hv])
    simp only [cntC, List.length_cons, Nat.add_mul]
    omega
end
structure CodT (k : Cod) : Prop where
  params : k.params.length ≤ 1000
  fasts : k.fasts.length ≤ 1000
  cells : k.cells.length ≤ 1000
  frees : k.frees.length ≤ 1000
  ops : k.ops.length ≤ 1000
theorem CodT.sm {k : Cod} (h : CodT k) : CodSm k := ⟨by have := h.params; omega, by have := h.fasts; omega, by have := h.cells; omega, by have := h.frees; omega, by have := h.ops; omega⟩
theorem CodT.cnt {k : Cod} (h : CodT k) : k.cnt ≤ 6000 := by
  have := h.params; have := h.fasts; have := h.cells; have := h.frees; have := h.ops
  simp only [Cod.cnt]
  omega
theorem codeL_t {p : Prg} {b : Nat} (hp : ShapeP p) : CodT (codeL p b) := by
  unfold codeL
  cases hk : p[b]? with
  | none => exact ⟨by simp, by simp, by simp, by simp, by simp⟩
  | some k =>
    have hh := hp.head b k hk
    have hpl : k.params.length ≤ 1 := by
      unfold HeadOk at hh
      split at hh <;> omega
    have h1 := fastsL_len (p := p) (b := b)
    have h2 := cellsL_len (p := p) (b := b)
    have h3 := freesL_len (p := p) (b := b)
    have h4 : (opsL p b).length ≤ 60 := by
      have := bodyL_len (p := p) (b := b) k.body
      have := hp.body k (List.mem_of_getElem? hk)
      simp only [opsL, hk]
      omega
    exact ⟨by simp only []; omega, by simp only []; omega, by simp only []; omega, by simp only []; omega, by simp only []; omega⟩
structure CodsT (l : List Cod) : Prop where
  len : l.length ≤ 7
  each : ∀ k ∈ l, CodT k
theorem CodsT.cnt {l : List Cod} (h : CodsT l) (i : Nat) : cntC (l.take i) ≤ 42007 := by
  have h1 := cntC_le (l := l.take i) (a := 6000) fun v hv => (h.each v (List.mem_of_mem_take hv)).cnt
  have h2 : (l.take i).length ≤ 7 := by have := h.len; simp; omega
  have := Nat.mul_le_mul_right 6001 h2
  omega
end Go.Hm
end
