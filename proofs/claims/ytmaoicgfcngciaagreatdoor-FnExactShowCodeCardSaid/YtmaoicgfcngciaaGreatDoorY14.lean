/-
  Own texts, joined by mkclaim.py: Hm148, Hm149.
-/
import Derived.Test.YtmaoicgfcngciaaGreatDoorY13
set_option linter.unusedSimpArgs false
set_option linter.unusedVariables false
set_option maxRecDepth 100000
set_option maxHeartbeats 4000000

section
namespace Go.Hm
open Go Go.RowKit
section
variable {P : Program} {own : Nat → Prop} {C : Nat → Prop} {w0 : World} {g : Gh} {st : St} {a : Go.Act} {w : World}
theorem Rg.reO (h : Rg P own C w0 g st a w) {n : Nm} {o o' : AO} (hn : st.hp n = some o) (ho : OAt g w n o') : Rg P own C w0 g (st.setO n o') a w := by
  obtain ⟨i, hd, hs, hsl, hgl⟩ := h
  have key : ∀ k q, (st.setO n o').hp k = some q → ∃ q', st.hp k = some q' ∧ ((k = n ∧ q = o') ∨ (k ≠ n ∧ q = q')) := by
    intro k q e
    simp only [St.setO] at e
    split at e
    · rename_i e'; subst e'; exact ⟨o, hn, .inl ⟨rfl, (Option.some.inj e).symm⟩⟩
    · rename_i hne; exact ⟨q, e, .inr ⟨hne, rfl⟩⟩
  refine ⟨⟨i.os, i.tape, i.output, i.size, i.keep, i.hC, i.clt, ?_, ?_, ?_⟩, hd, hs, hsl, hgl⟩
  · intro k q e
    obtain ⟨q', e1, h1 | h1⟩ := key k q e
    · obtain ⟨rfl, rfl⟩ := h1; exact ho
    · obtain ⟨_, rfl⟩ := h1; exact i.obj k q e1
  · intro k q b e hk
    obtain ⟨q', e1, _⟩ := key k q e
    exact i.blk k q' b e1 hk
  · intro k k' q q' b e e' hk hk'
    obtain ⟨p, e1, _⟩ := key k q e
    obtain ⟨p', e1', _⟩ := key k' q' e'
    exact i.inj k k' p p' b e1 e1' hk hk'
def St.cellN (st : St) (n : Nm) (z : Nat) (rows : List (List AV)) (i j : Nat) (m : Nm) (z' : Nat) : St :=
  ((st.kill m).setO m (.row z' [])).setO n (.row z (rowsSet (rows.map fun r => r.map (AV.tr (kl m))) i j [.hs m z' 0 0]))
theorem Rg.cellN (h : Rg P own C w0 g st a w) {n m : Nm} {z z' i j : Nat} {rows : List (List AV)} {r : List AV} (hn : st.hp n = some (.row z rows)) (hi : rows[i]? = some r) (hj : r[j]? = some (.sc (.slice none 0 0))) (hne : n ≠ m) (hnm : Nm.under m n = false) (hu : m.isU = false) :
    ∃ g', Rg P own C w0 g' (st.cellN n z rows i j m z') a w ∧ Ust g g' := by
  obtain ⟨g', h1, h2, h3, h4⟩ := h.nilO m z'
  have hn' : ((st.kill m).setO m (.row z' [])).hp n = some (.row z (rows.map fun r => r.map (AV.tr (kl m)))) := by
    simp [St.setO, St.kill, St.nm, hkl, hne, hnm, hn, AO.tr]
  have ho := h1.inv.obj n _ hn'
  have hil := (gS hi).1
  have hjl := (gS hj).1
  refine ⟨g', h1.reO hn' ?_, h3 hu⟩
  simp only [OAt] at ho ⊢
  cases hφ : g'.φ n with
  | none =>
    rw [hφ] at ho
    simp only at ho
    have : rows = [] := by simpa using ho
    subst this
    simp at hil
  | some b =>
    rw [hφ] at ho
    obtain ⟨cur, T, c1, c2, c3, c4, c5, c6, c7⟩ := ho
    have hrow : (rows.map fun r => r.map (AV.tr (kl m)))[i]? = some (r.map (AV.tr (kl m))) := by simp [hi]
    have hrl : (r.map (AV.tr (kl m))).length = z := c5 _ (List.mem_of_getElem? hrow)
    have hz : r.length = z := by simpa using hrl
    have hcell : cur.getD (i * z + j) undef = .slice none 0 0 := by
      have := c7 i _ hrow j (.sc (.slice none 0 0)) (by simp [hj, AV.tr])
      exact this.sc_eq
    refine ⟨cur, T, c1, c2, c3, by simpa [rowsSet] using c4, ?_, ?_, ?_⟩
    · intro q hq
      obtain ⟨k, hk⟩ := List.getElem?_of_mem hq
      simp only [rowsSet, List.getElem?_modify] at hk
      obtain ⟨q0, e0, e1⟩ := Option.map_eq_some_iff.1 hk
      have hq0 : q0.length = z := c5 _ (List.mem_of_getElem? e0)
      by_cases e : i = k
      · simp only [e, if_true] at e1
        subst e1
        simp
        omega
      · simp only [e, if_false] at e1
        subst e1
        exact hq0
    · simpa [rowsSet] using c6
    · intro k q hq j' x hx
      simp only [rowsSet, List.getElem?_modify] at hq
      obtain ⟨q0, e0, e1⟩ := Option.map_eq_some_iff.1 hq
      by_cases e : i = k
      · subst e
        simp only [if_true] at e1
        rw [hrow] at e0
        obtain rfl := Option.some.inj e0
        subst e1
        have hset : (r.map (AV.tr (kl m))).take j ++ [AV.hs m z' 0 0] ++ (r.map (AV.tr (kl m))).drop (j + [AV.hs m z' 0 0].length) = (r.map (AV.tr (kl m))).set j (.hs m z' 0 0) := by
          rw [List.set_eq_take_append_cons_drop, if_pos (by simpa using hjl)]
          simp
        rw [hset, List.getElem?_set] at hx
        by_cases ej : j = j'
        · subst ej
          rw [if_pos rfl, if_pos (by simpa using hjl)] at hx
          obtain rfl := Option.some.inj hx
          rw [hcell]
          exact h2
        · rw [if_neg ej] at hx
          exact c7 i _ hrow j' x hx
      · simp only [e, if_false] at e1
        subst e1
        exact c7 k _ e0 j' x hx
end
section
variable {X : Ctx} {st : St} {a : Go.Act} {w : World} {K : St → Prop} {E : AV → St → Prop} {ds : List (Option Nat)} {l : List Oper} {o : Oper} {c : Code} {Q : Ex → St → Prop} {n : Nm} {z : Nat} {rows : List (List AV)} {r : List AV}
theorem Rw.cellN (h : Rw X st a w) (i j : Nat) (m : Nm) (z' : Nat) (hn : st.hp n = some (.row z rows)) (hi : rows[i]? = some r) (hj : r[j]? = some (.sc (.slice none 0 0))) (hne : n ≠ m) (hnm : Nm.under m n = false) (hu : m.isU = false) : Rw X (st.cellN n z rows i j m z') a w := by
  obtain ⟨C, g, e1, e2, e3, e4, e5, hr⟩ := h
  obtain ⟨g', h1, h2⟩ := hr.cellN (z' := z') hn hi hj hne hnm hu
  exact ⟨C, g', e1, e2, e3, e4, e5.step h2, h1⟩
end
@[simp] theorem xrows_cln {ws : List Txt} : (xrows ws).all (fun r => r.all AV.cln) = true := by simp [xrows, AV.cln]
@[simp] theorem bldSt_eq {T : TypeId} {d : Nat} {st : St} : bldSt T d st = ((st.kill (.s d)).setO (.s d) (.trow T 2 true [[.sc (.pointer none), .sc (.slice none 0 0)]])).put (some d) (.pt (.s d) 0) := rfl
section
variable {n : Int} {ns : List Int} {s : Stm} {k : Blk} {p : Prg} {w : Txt} {ls : List Txt} {b i : Nat}
theorem numI_len (h : 0 ≤ n ∧ n ≤ 99) : (numI n).length ≤ 2 := by
  obtain ⟨m, rfl⟩ : ∃ m : Nat, n = m := ⟨n.toNat, by omega⟩
  rw [numI_nat]
  by_cases h1 : m < 10
  · rw [numN_small h1]; simp
  · rw [numN_two (by omega) (by omega)]; simp
theorem wordsL_snoc : wordsL w (ns ++ [n]) = wordsL w ns ++ 32 :: numI n := by simp [wordsL]
theorem wordsL_take (hi : ns[i]? = some n) : wordsL w (ns.take (i + 1)) = wordsL w (ns.take i) ++ 32 :: numI n := by
  rw [List.take_add_one, hi]
  exact wordsL_snoc
theorem wordsL_len (h : Small ns) : (wordsL w ns).length ≤ w.length + 3 * ns.length := by
  induction ns with
  | nil => simp [wordsL]
  | cons n ns ih =>
    have h1 := ih fun x hx => h x (by simp [hx])
    have h2 := numI_len (h n (by simp))
    simp only [wordsL, List.flatMap_cons, List.length_append, List.length_cons] at h1 ⊢
    omega
theorem wordsL_ge : w.length ≤ (wordsL w ns).length := by simp [wordsL]
theorem small_take (h : Small ns) : Small (ns.take i) := fun x hx => h x (List.mem_of_mem_take hx)
theorem linesL_snoc : linesL 10 (ls ++ [w]) = linesL 10 ls ++ (w ++ [10]) := by simp [linesL]
theorem linesL_len (h : ∀ w ∈ ls, w.length ≤ 100) : (linesL 10 ls).length ≤ 101 * ls.length := by
  induction ls with
  | nil => simp [linesL]
  | cons w ls ih =>
    have h1 := ih fun x hx => h x (by simp [hx])
    have h2 := h w (by simp)
    rw [linesL_cons]
    simp only [List.length_append, List.length_cons] at h1 ⊢
    omega
end
section
variable {os : List (Int × Int)} {o : Int × Int} {i : Nat}
theorem opW_len : ∀ i, i < 21 → 0 < (opW.getD i []).length ∧ (opW.getD i []).length ≤ 9 := by decide
theorem showO_len (h : TxtO o) : 0 < (showO o).length ∧ (showO o).length ≤ 12 := by
  have h1 := opW_len o.1.toNat (by have := h.code; omega)
  have h2 := wordsL_len (w := opW.getD o.1.toNat []) h.small
  have h3 := wordsL_ge (w := opW.getD o.1.toNat []) (ns := if loneO o.1 = true then [] else [o.2])
  have h4 : (if loneO o.1 = true then ([] : List Int) else [o.2]).length ≤ 1 := by split <;> simp
  unfold showO
  omega
theorem fmtO_succ (hi : os[i]? = some o) : fmtO (os.take (i + 1)) = fmtO (os.take i) ++ (showO o ++ [10]) := by
  unfold fmtO
  rw [List.take_add_one, hi, List.map_append]
  exact linesL_snoc
theorem fmtO_len (h : ∀ o ∈ os, TxtO o) : (fmtO (os.take i)).length ≤ 101 * os.length := by
  refine Nat.le_trans (linesL_len fun w hw => ?_) ?_
  · obtain ⟨o, ho, rfl⟩ := List.mem_map.1 hw
    have := (showO_len (h o (List.mem_of_mem_take ho))).2
    omega
  · rw [List.length_map, List.length_take]
    omega
theorem showO_lone {J : Nat} {a : Int} {v : Txt} (h : loneO (J : Int) = true) (hv : opW.getD J [] = v) : showO ((J : Int), a) = v := by
  rw [List.getD_eq_getElem?_getD] at hv
  simp [showO, h, hv, wordsL]
theorem showO_arg {J : Nat} {a : Int} {v : Txt} (h : loneO (J : Int) = false) (hv : opW.getD J [] = v) : showO ((J : Int), a) = v ++ 32 :: numI a := by
  rw [List.getD_eq_getElem?_getD] at hv
  simp [showO, h, hv, wordsL]
end
end Go.Hm
end
