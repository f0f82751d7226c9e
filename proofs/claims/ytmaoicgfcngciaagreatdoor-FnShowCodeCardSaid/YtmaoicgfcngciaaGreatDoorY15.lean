/-
  Own texts, joined by mkclaim.py: Hm148, Hm149, Hm150, Hm151, Hm152.
-/
import Derived.Test.YtmaoicgfcngciaaGreatDoorY14
import Derived.Handed
import Derived.HandedShaped
import Derived.Shelf.Vars
set_option linter.unusedSimpArgs false
set_option linter.unusedVariables false
set_option maxRecDepth 100000
set_option maxHeartbeats 4000000

section
namespace Go.Hm
open Go Go.RowKit
section
variable {P : Program} {own : Nat → Prop} {C : Nat → Prop} {w0 : World} {g : Gh} {st : St} {a : Go.Act} {w : World}
theorem Rg.reO (h : Rg P own C w0 g st a w) {n : Nm} {o o' : AO} (hn : st.hp n = some o) (ho : OAt g w n o') : Rg P own C w0 g (st.setO n o') a w := by
  obtain ⟨i, hd, hs, hsl, hgl⟩ := h
  have key : ∀ k q, (st.setO n o').hp k = some q → ∃ q', st.hp k = some q' ∧ ((k = n ∧ q = o') ∨ (k ≠ n ∧ q = q')) := by
    intro k q e
    simp only [St.setO] at e
    split at e
    · rename_i e'; subst e'; exact ⟨o, hn, .inl ⟨rfl, (Option.some.inj e).symm⟩⟩
    · rename_i hne; exact ⟨q, e, .inr ⟨hne, rfl⟩⟩
  refine ⟨⟨i.os, i.tape, i.output, i.size, i.keep, i.hC, i.clt, ?_, ?_, ?_⟩, hd, hs, hsl, hgl⟩
  · intro k q e
    obtain ⟨q', e1, h1 | h1⟩ := key k q e
    · obtain ⟨rfl, rfl⟩ := h1; exact ho
    · obtain ⟨_, rfl⟩ := h1; exact i.obj k q e1
  · intro k q b e hk
    obtain ⟨q', e1, _⟩ := key k q e
    exact i.blk k q' b e1 hk
  · intro k k' q q' b e e' hk hk'
    obtain ⟨p, e1, _⟩ := key k q e
    obtain ⟨p', e1', _⟩ := key k' q' e'
    exact i.inj k k' p p' b e1 e1' hk hk'
def St.cellN (st : St) (n : Nm) (z : Nat) (rows : List (List AV)) (i j : Nat) (m : Nm) (z' : Nat) : St :=
  ((st.kill m).setO m (.row z' [])).setO n (.row z (rowsSet (rows.map fun r => r.map (AV.tr (kl m))) i j [.hs m z' 0 0]))
theorem Rg.cellN (h : Rg P own C w0 g st a w) {n m : Nm} {z z' i j : Nat} {rows : List (List AV)} {r : List AV} (hn : st.hp n = some (.row z rows)) (hi : rows[i]? = some r) (hj : r[j]? = some (.sc (.slice none 0 0))) (hne : n ≠ m) (hnm : Nm.under m n = false) (hu : m.isU = false) :
    ∃ g', Rg P own C w0 g' (st.cellN n z rows i j m z') a w ∧ Ust g g' := by
  obtain ⟨g', h1, h2, h3, h4⟩ := h.nilO m z'
  have hn' : ((st.kill m).setO m (.row z' [])).hp n = some (.row z (rows.map fun r => r.map (AV.tr (kl m)))) := by
    simp [St.setO, St.kill, St.nm, hkl, hne, hnm, hn, AO.tr]
  have ho := h1.inv.obj n _ hn'
  have hil := (gS hi).1
  have hjl := (gS hj).1
  refine ⟨g', h1.reO hn' ?_, h3 hu⟩
  simp only [OAt] at ho ⊢
  cases hφ : g'.φ n with
  | none =>
    rw [hφ] at ho
    simp only at ho
    have : rows = [] := by simpa using ho
    subst this
    simp at hil
  | some b =>
    rw [hφ] at ho
    obtain ⟨cur, T, c1, c2, c3, c4, c5, c6, c7⟩ := ho
    have hrow : (rows.map fun r => r.map (AV.tr (kl m)))[i]? = some (r.map (AV.tr (kl m))) := by simp [hi]
    have hrl : (r.map (AV.tr (kl m))).length = z := c5 _ (List.mem_of_getElem? hrow)
    have hz : r.length = z := by simpa using hrl
    have hcell : cur.getD (i * z + j) undef = .slice none 0 0 := by
      have := c7 i _ hrow j (.sc (.slice none 0 0)) (by simp [hj, AV.tr])
      exact this.sc_eq
    refine ⟨cur, T, c1, c2, c3, by simpa [rowsSet] using c4, ?_, ?_, ?_⟩
    · intro q hq
      obtain ⟨k, hk⟩ := List.getElem?_of_mem hq
      simp only [rowsSet, List.getElem?_modify] at hk
      obtain ⟨q0, e0, e1⟩ := Option.map_eq_some_iff.1 hk
      have hq0 : q0.length = z := c5 _ (List.mem_of_getElem? e0)
      by_cases e : i = k
      · simp only [e, if_true] at e1
        subst e1
        simp
        omega
      · simp only [e, if_false] at e1
        subst e1
        exact hq0
    · simpa [rowsSet] using c6
    · intro k q hq j' x hx
      simp only [rowsSet, List.getElem?_modify] at hq
      obtain ⟨q0, e0, e1⟩ := Option.map_eq_some_iff.1 hq
      by_cases e : i = k
      · subst e
        simp only [if_true] at e1
        rw [hrow] at e0
        obtain rfl := Option.some.inj e0
        subst e1
        have hset : (r.map (AV.tr (kl m))).take j ++ [AV.hs m z' 0 0] ++ (r.map (AV.tr (kl m))).drop (j + [AV.hs m z' 0 0].length) = (r.map (AV.tr (kl m))).set j (.hs m z' 0 0) := by
          rw [List.set_eq_take_append_cons_drop, if_pos (by simpa using hjl)]
          simp
        rw [hset, List.getElem?_set] at hx
        by_cases ej : j = j'
        · subst ej
          rw [if_pos rfl, if_pos (by simpa using hjl)] at hx
          obtain rfl := Option.some.inj hx
          rw [hcell]
          exact h2
        · rw [if_neg ej] at hx
          exact c7 i _ hrow j' x hx
      · simp only [e, if_false] at e1
        subst e1
        exact c7 k _ e0 j' x hx
end
section
variable {X : Ctx} {st : St} {a : Go.Act} {w : World} {K : St → Prop} {E : AV → St → Prop} {ds : List (Option Nat)} {l : List Oper} {o : Oper} {c : Code} {Q : Ex → St → Prop} {n : Nm} {z : Nat} {rows : List (List AV)} {r : List AV}
theorem Rw.cellN (h : Rw X st a w) (i j : Nat) (m : Nm) (z' : Nat) (hn : st.hp n = some (.row z rows)) (hi : rows[i]? = some r) (hj : r[j]? = some (.sc (.slice none 0 0))) (hne : n ≠ m) (hnm : Nm.under m n = false) (hu : m.isU = false) : Rw X (st.cellN n z rows i j m z') a w := by
  obtain ⟨C, g, e1, e2, e3, e4, e5, hr⟩ := h
  obtain ⟨g', h1, h2⟩ := hr.cellN (z' := z') hn hi hj hne hnm hu
  exact ⟨C, g', e1, e2, e3, e4, e5.step h2, h1⟩
end
@[simp] theorem xrows_cln {ws : List Txt} : (xrows ws).all (fun r => r.all AV.cln) = true := by simp [xrows, AV.cln]
@[simp] theorem bldSt_eq {T : TypeId} {d : Nat} {st : St} : bldSt T d st = ((st.kill (.s d)).setO (.s d) (.trow T 2 true [[.sc (.pointer none), .sc (.slice none 0 0)]])).put (some d) (.pt (.s d) 0) := rfl
section
variable {n : Int} {ns : List Int} {s : Stm} {k : Blk} {p : Prg} {w : Txt} {ls : List Txt} {b i : Nat}
theorem numI_len (h : 0 ≤ n ∧ n ≤ 99) : (numI n).length ≤ 2 := by
  obtain ⟨m, rfl⟩ : ∃ m : Nat, n = m := ⟨n.toNat, by omega⟩
  rw [numI_nat]
  by_cases h1 : m < 10
  · rw [numN_small h1]; simp
  · rw [numN_two (by omega) (by omega)]; simp
theorem wordsL_snoc : wordsL w (ns ++ [n]) = wordsL w ns ++ 32 :: numI n := by simp [wordsL]
theorem wordsL_take (hi : ns[i]? = some n) : wordsL w (ns.take (i + 1)) = wordsL w (ns.take i) ++ 32 :: numI n := by
  rw [List.take_add_one, hi]
  exact wordsL_snoc
theorem wordsL_len (h : Small ns) : (wordsL w ns).length ≤ w.length + 3 * ns.length := by
  induction ns with
  | nil => simp [wordsL]
  | cons n ns ih =>
    have h1 := ih fun x hx => h x (by simp [hx])
    have h2 := numI_len (h n (by simp))
    simp only [wordsL, List.flatMap_cons, List.length_append, List.length_cons] at h1 ⊢
    omega
theorem wordsL_ge : w.length ≤ (wordsL w ns).length := by simp [wordsL]
theorem small_take (h : Small ns) : Small (ns.take i) := fun x hx => h x (List.mem_of_mem_take hx)
theorem linesL_snoc : linesL 10 (ls ++ [w]) = linesL 10 ls ++ (w ++ [10]) := by simp [linesL]
theorem linesL_len (h : ∀ w ∈ ls, w.length ≤ 100) : (linesL 10 ls).length ≤ 101 * ls.length := by
  induction ls with
  | nil => simp [linesL]
  | cons w ls ih =>
    have h1 := ih fun x hx => h x (by simp [hx])
    have h2 := h w (by simp)
    rw [linesL_cons]
    simp only [List.length_append, List.length_cons] at h1 ⊢
    omega
end
section
variable {os : List (Int × Int)} {o : Int × Int} {i : Nat}
theorem opW_len : ∀ i, i < 21 → 0 < (opW.getD i []).length ∧ (opW.getD i []).length ≤ 9 := by decide
theorem showO_len (h : TxtO o) : 0 < (showO o).length ∧ (showO o).length ≤ 12 := by
  have h1 := opW_len o.1.toNat (by have := h.code; omega)
  have h2 := wordsL_len (w := opW.getD o.1.toNat []) h.small
  have h3 := wordsL_ge (w := opW.getD o.1.toNat []) (ns := if loneO o.1 = true then [] else [o.2])
  have h4 : (if loneO o.1 = true then ([] : List Int) else [o.2]).length ≤ 1 := by split <;> simp
  unfold showO
  omega
theorem fmtO_succ (hi : os[i]? = some o) : fmtO (os.take (i + 1)) = fmtO (os.take i) ++ (showO o ++ [10]) := by
  unfold fmtO
  rw [List.take_add_one, hi, List.map_append]
  exact linesL_snoc
theorem fmtO_len (h : ∀ o ∈ os, TxtO o) : (fmtO (os.take i)).length ≤ 101 * os.length := by
  refine Nat.le_trans (linesL_len fun w hw => ?_) ?_
  · obtain ⟨o, ho, rfl⟩ := List.mem_map.1 hw
    have := (showO_len (h o (List.mem_of_mem_take ho))).2
    omega
  · rw [List.length_map, List.length_take]
    omega
theorem showO_lone {J : Nat} {a : Int} {v : Txt} (h : loneO (J : Int) = true) (hv : opW.getD J [] = v) : showO ((J : Int), a) = v := by
  rw [List.getD_eq_getElem?_getD] at hv
  simp [showO, h, hv, wordsL]
theorem showO_arg {J : Nat} {a : Int} {v : Txt} (h : loneO (J : Int) = false) (hv : opW.getD J [] = v) : showO ((J : Int), a) = v ++ 32 :: numI a := by
  rw [List.getD_eq_getElem?_getD] at hv
  simp [showO, h, hv, wordsL]
end
end Go.Hm
end
section
namespace Go.Hm
open Go Go.RowKit
section
variable {X : Ctx} {st : St} {K : St → Prop} {E : AV → St → Prop} {ty : TypeId} {pos : String} {aft : Array Edge} {g : Option (Nat × Bool)} {dst : Option Nat} {x : Operand} {t : TypeId} {y : AV}
theorem x_pan (hx : ev st x = .ifc t y := by simp [fx]; first | done | rfl) (h : E (.ifc t y) st) : SemOp X ⟨dst, .panic x, ty, pos, aft, g⟩ K E st := by
  intro a w Q hR hQ
  have hR' := hR
  obtain ⟨C, g1, h1, h2, h3, h4, h5, hg⟩ := hR
  have hv := hg.ev x
  rw [hx] at hv
  have hv' := hv
  generalize hu : a.eval x = u at hv
  cases hv with
  | ifc _ v _ hv1 =>
    have hrun : (execOp a.eval (⟨dst, .panic x, ty, pos, aft, g⟩ : Oper)).run X.P w = .halt (.panic (.iface t v)) w := by
      simp [execOp, hu, run_panic_iface]
    unfold Oper.wp
    rw [hrun, Oper.upon_panic]
    refine hQ _ w st (.ifc t y) ⟨C, g1, h1, h2, h3, h4, h5, hg, ?_⟩ h
    rw [hu] at hv'
    exact hv'
end
theorem dval_le {s : Txt} (hl : s.length ≤ 1) (h : ∀ c ∈ s, 48 ≤ c.toNat ∧ c.toNat ≤ 57) : dval s ≤ 9 := by
  rcases s with _ | ⟨a, _ | ⟨b, l⟩⟩
  · simp [dval]
  · have := h a (by simp)
    simp only [dval, List.foldl_cons, List.foldl_nil]
    omega
  · simp at hl
theorem split_len {c : UInt8} {s : Txt} : (splitL c s).length ≤ s.length + 1 := by
  induction s with
  | nil => simp [splitL]
  | cons x l ih =>
    rw [splitL]
    split
    · simp; omega
    · split
      · rename_i w ws e
        rw [e] at ih
        simp at ih ⊢
        omega
      · simp
theorem split_part {c : UInt8} {s : Txt} : ∀ w ∈ splitL c s, w.length ≤ s.length := by
  induction s with
  | nil => simp [splitL]
  | cons x l ih =>
    intro w hw
    rw [splitL] at hw
    split at hw
    · rw [List.mem_cons] at hw
      rcases hw with rfl | hw
      · simp
      · have := ih w hw; simp; omega
    · split at hw
      · rename_i u us e
        rw [List.mem_cons] at hw
        rcases hw with rfl | hw
        · have := ih u (by rw [e]; simp)
          simp; omega
        · have := ih w (by rw [e]; simp [hw])
          simp; omega
      · rw [List.mem_singleton] at hw
        subst hw
        simp
theorem readL1_cons {l : Txt} {ls : List Txt} : readL1 (l :: ls) = match readO l, readL1 ls with | some o, some os => some (o :: os) | _, _ => none := by
  unfold readL1
  rw [List.mapM_cons]
  cases readO l with
  | none => rfl
  | some o =>
    cases ls.mapM readO <;> rfl
theorem readL1_app {a b : List Txt} : readL1 (a ++ b) = match readL1 a, readL1 b with | some x, some y => some (x ++ y) | _, _ => none := by
  induction a with
  | nil =>
    cases h : readL1 b <;> simp [readL1] <;> simpa [readL1] using h
  | cons l a ih =>
    rw [List.cons_append, readL1_cons, readL1_cons, ih]
    cases readO l with
    | none => rfl
    | some o =>
      cases readL1 a with
      | none => rfl
      | some x =>
        cases readL1 b <;> rfl
theorem readL1_snoc {a : List Txt} {l : Txt} {os : List (Int × Int)} {o : Int × Int} (h : readL1 a = some os) (ho : readO l = some o) : readL1 (a ++ [l]) = some (os ++ [o]) := by
  rw [readL1_app, h, readL1_cons, ho]
  rfl
theorem readL1_bad {a b : List Txt} {l : Txt} (ho : readO l = none) : readL1 (a ++ l :: b) = none := by
  rw [readL1_app, readL1_cons, ho]
  cases readL1 a <;> rfl
theorem readL1_len {a : List Txt} {os : List (Int × Int)} (h : readL1 a = some os) : os.length = a.length := by
  induction a generalizing os with
  | nil => simp [readL1] at h; subst h; rfl
  | cons l a ih =>
    rw [readL1_cons] at h
    cases ho : readO l with
    | none => rw [ho] at h; cases h
    | some o =>
      cases ha : readL1 a with
      | none => rw [ho, ha] at h; cases h
      | some x =>
        rw [ho, ha] at h
        obtain rfl := Option.some.inj h
        simp [ih ha]
section
variable {l v : Txt} {ws ws' : List Txt} {c n : Nat}
theorem readO_lone (hs : splitL 32 l = [v]) (hc : codeW v = some c) (hl : loneO (c : Int) = true) : readO l = some ((c : Int), 0) := by simp [readO, hs, hc, hl]
theorem readO_arg (hs : splitL 32 l = v :: ws) (hc : codeW v = some c) (hl : loneO (c : Int) = false) (hn : rNum ws = some (n, [])) : readO l = some ((c : Int), (n : Int)) := by
  rcases ws with _ | ⟨x, _ | ⟨y, r⟩⟩
  · cases hn
  · simp only [rNum] at hn
    cases hx : smallN x with
    | none => rw [hx] at hn; cases hn
    | some k =>
      rw [hx] at hn
      simp at hn
      subst hn
      simp [readO, hs, hc, hl, hx]
  · simp only [rNum] at hn
    cases hx : smallN x with
    | none => rw [hx] at hn; cases hn
    | some k => rw [hx] at hn; simp at hn
theorem readO_no1 (hs : splitL 32 l = v :: ws) (hc : codeW v = none) : readO l = none := by simp [readO, hs, hc]
theorem readO_no2 (hs : splitL 32 l = v :: ws) (hc : codeW v = some c) (hl : loneO (c : Int) = true) (hw : ws ≠ []) : readO l = none := by simp [readO, hs, hc, hl, hw]
theorem readO_no3 (hs : splitL 32 l = v :: ws) (hc : codeW v = some c) (hl : loneO (c : Int) = false) (hn : rNum ws = none) : readO l = none := by
  rcases ws with _ | ⟨x, _ | ⟨y, r⟩⟩
  · simp [readO, hs, hc, hl]
  · simp only [rNum] at hn
    cases hx : smallN x with
    | none => simp [readO, hs, hc, hl, hx]
    | some k => rw [hx] at hn; cases hn
  · simp [readO, hs, hc, hl]
theorem readO_no4 (hs : splitL 32 l = v :: ws) (hc : codeW v = some c) (hl : loneO (c : Int) = false) (hn : rNum ws = some (n, ws')) (hw : ws' ≠ []) : readO l = none := by
  rcases ws with _ | ⟨x, _ | ⟨y, r⟩⟩
  · simp [readO, hs, hc, hl]
  · simp only [rNum] at hn
    cases hx : smallN x with
    | none => rw [hx] at hn; cases hn
    | some k => rw [hx] at hn; simp at hn; exact absurd hn.2.symm (by simpa using hw)
  · simp [readO, hs, hc, hl]
theorem readO_no0 (hs : splitL 32 l = []) : readO l = none := by simp [readO, hs]
end
def onN (K : St → Prop) : Ex → St → Prop
  | .normal, s => K s
  | _, _ => False
section
variable {X : Ctx} {st : St} {K : St → Prop} {E : AV → St → Prop} {d f : Nat} {ty : TypeId} {pos : String} {aft : Array Edge} {g : Option (Nat × Bool)} {args : Array Operand} {Ts : Array TypeId} {bs : List AV} {R : Nm → AV → (Nm → Option AO) → Prop} {Q : Prop}
theorem w_pre {x y : Code} {Q : Exit → Go.Act → World → Prop} (h : SemCode X x (onN fun s => ∀ a w, Rw X s a w → y.wp X.P Q a w) st) {a : Go.Act} {w : World} (hR : Rw X st a w) : (Code.seq x y).wp X.P Q a w := by
  refine wp_seq (wp_mono (h a w hR) fun e a' w' he => ?_)
  cases e with
  | normal => obtain ⟨st', hR', hQ⟩ := he; exact hQ a' w' hR'
  | exit id => obtain ⟨_, _, hQ⟩ := he; exact hQ.elim
  | goto l => obtain ⟨_, _, hQ⟩ := he; exact hQ.elim
  | ret => obtain ⟨_, _, hQ⟩ := he; exact hQ.elim
  | panic ch => obtain ⟨_, _, _, _, _, hQ⟩ := he; exact hQ.elim
  | outgrown => exact he.elim
theorem x_ownP (hd : d < X.n := by first | (simp; done) | fail) (ha : args.toList.map (ev st) = bs := by simp [fx]; first | done | rfl) (hF : FnE X.P X.gl f noD bs noH R (badQ Q)) (hE : ∀ x H', BadX x → Q → E x (st.call d noD noH H')) (h : ∀ y H', R (.s d) y H' → K ((st.call d noD noH H').put (some d) y)) :
    SemOp X ⟨some d, .call ⟨.value (.func f), args, Ts⟩, ty, pos, aft, g⟩ K E st := by
  subst ha
  refine call_sem (D := noD) (H := noH) (R := R) (E0 := badQ Q) hF (ent_func hF.1 rfl) false ⟨rfl, fun j a a' h h' => ?_⟩ (fun _ _ => rfl) (fun n hn => by cases hn) (fun n hn => absurd rfl hn) (fun k i j _ => .inl rfl) (fun e he => by obtain rfl := Option.some.inj he; exact hd) (fun x H' hR => ?_) (fun x H' hx => ?_)
  · rw [h] at h'
    obtain rfl := Option.some.inj h'
    exact .refl _
  · exact h x H' hR
  · exact hE x H' hx.1 hx.2
end
end Go.Hm
end
section
namespace Go.Hm
open Go
theorem handed_laid_shaped {H : Type} {enc : TypeId × Value → H} {a : Assume} {C : Checked} {os : Os} {f : FuncId} {fn : Func} {s : ChangeSpec} {conds : List PathCond} {apart fresh handsOn again : Bool} {X : World → Array Value → Prop}
    (hX : ∀ (w w' : World) (args : Array Value), w.heap = w'.heap → X w args → X w' args)
    (own : ownKnob C.prog.godebug = none) (started : os.Started) (noInit : C.prog.inits.idxOf? f = none) (hfn : C.prog.funcs[f]? = some fn)
    (witness : ∃ (w : World) (tape : Tape) (i : Input), w.os = os ∧ (w.forCall tape i).Shaped C.prog ∧ i.vars = [] ∧ Input.okWide C.prog (w.forCall tape i) .any w.heap.size f i ∧
      ((s.pre enc C.prog fn conds apart (w.forCall tape i).memory i.args ∧ X (w.forCall tape i).memory i.args) ∧ sizedMet enc C.prog fn (OpenSpec.ofChange s) apart (w.forCall tape i).memory i.args) ∧ a.holds C.prog (lone (Frame.enter C.prog f i.args .normal) [] (w.forCall tape i)))
    (contract : ∀ (W : World) (base : Nat) (args : Array Value) (ds gs : List (DataW H)) (before : List MemPlace), W.ShapedOpen C.prog →
      (∀ (j : Nat) t v, fn.params[j]? = some t → args[j]? = some v → Value.okWide C.prog W .any base t v) →
      DataW.Whole enc C.prog fn.params.toList s.vars apart W args.toList ds gs before →
      conds.all (PathCond.test C.prog ⟨fn.params.toList, ds, s.plain.varTypes C.prog, gs⟩) = true →
      (DataW.weightsEach C.prog (fn.params.toList ++ s.plain.varTypes C.prog) (ds ++ gs)).all (· ≤ reachBytes) = true → X W args →
      a.holds C.prog (lone (Frame.enter C.prog f args .normal) [] W) →
      Calls C.prog f args W fun e W' => ∃ v, e = .returned v ∧ s.post enc C.prog fn apart fresh handsOn again W args v W') :
    ReturnsInHanded a C os f .any (fun w args => (s.pre enc C.prog fn conds apart w args ∧ X w args) ∧ sizedMet enc C.prog fn (OpenSpec.ofChange s) apart w args) (s.post enc C.prog fn apart fresh handsOn again) := by
  refine returnsInHanded_of_calls own started noInit witness ?_
  intro w tape i _ hsh _ hok hpre hholds
  obtain ⟨_, _, _, fn', hfn', _, _, _, _, hval⟩ := hok
  have e : fn' = fn := Option.some.inj (hfn'.symm.trans hfn)
  subst e
  obtain ⟨⟨⟨ds, gs, before, hw, hc⟩, hx⟩, hz⟩ := hpre
  have hw' := DataW.Whole.of_heap (w' := w.forCall tape i) (by rfl) hw
  refine (contract (w.forCall tape i) w.heap.size i.args ds gs before hsh hval hw' hc (hz.weights hw) (hX _ _ _ (by rfl) hx) hholds).mono fun e W' ⟨v, he, hp⟩ => ?_
  subst he
  exact ChangeSpec.post_blind hp
end Go.Hm
end
