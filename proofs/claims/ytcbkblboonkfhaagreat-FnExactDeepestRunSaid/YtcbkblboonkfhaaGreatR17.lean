/-
  Own texts, joined by mkclaim.py: Hm86, Hm87, Hm88, Hm89.
-/
import Derived.Test.YtcbkblboonkfhaaGreatR16
import Derived.Test.YtcbkblboonkfhaaGreatR15
import Derived.Test.YtcbkblboonkfhaaGreatR12
import Derived.Test.YtcbkblboonkfhaaGreatR11
set_option linter.unusedSimpArgs false
set_option linter.unusedVariables false

section
set_option linter.unusedSectionVars false
namespace Go.Hm
open Go Go.RowKit
structure KB (w w' : Wld) : Prop where
  len : w.acts.length ≤ w'.acts.length
  blk : ∀ i, i < w.acts.length → w'.blk i = w.blk i
theorem KB.refl (w : Wld) : KB w w := ⟨Nat.le_refl _, fun _ _ => rfl⟩
theorem KB.trans {w w' w'' : Wld} (h : KB w w') (h' : KB w' w'') : KB w w'' := ⟨Nat.le_trans h.len h'.len, fun i hi => (h'.blk i (Nat.lt_of_lt_of_le hi h.len)).trans (h.blk i hi)⟩
theorem KB.same {w w' : Wld} (h : w'.acts = w.acts) : KB w w' := ⟨by rw [h]; exact Nat.le_refl _, fun i _ => by simp only [Wld.blk, h]⟩
theorem KB.set {w : Wld} {l : Option Nat} {x : Int} {s : Slt} : KB w (w.set l x s) := by
  cases l with
  | none => exact .same rfl
  | some i =>
    refine ⟨by simp [Wld.set], fun j _ => ?_⟩
    simp only [Wld.set, Wld.blk, List.getElem?_modify]
    by_cases e : i = j
    · subst e
      cases h : w.acts[i]? <;> simp
    · simp [e]
section
variable {p : Prg} {R : Wld → Nat → Wld × Val} {w : Wld} {a b i : Nat} {x : Int} {vs : List Val} {s : Stm} {v : Val}
theorem loadW_kb : KB w (loadW p w a x).1 := by
  unfold loadW
  repeat' split
  all_goals exact .same rfl
theorem loadsW_kb {l : List Int} : ∀ {w : Wld}, KB w (loadsW p w a l).1 := by
  induction l with
  | nil => exact fun {w} => .refl w
  | cons x l ih =>
    intro w
    simp only [loadsW]
    split
    · exact .refl w
    · exact loadW_kb.trans ih
theorem takeW_kb : KB w (takeW p w a x) := by
  unfold takeW
  split
  · exact .set
  · exact .same rfl
theorem endW_kb : KB w (endW w) := by
  unfold endW
  split
  · exact .same rfl
  · exact .refl w
theorem beginW_kb : KB w (beginW p w b a vs) := by
  refine ⟨by simp [beginW], fun i hi => ?_⟩
  simp only [Wld.blk, beginW, List.getElem?_append_left hi]
variable (hR : ∀ w a, a < w.acts.length → KB w (R w a).1)
include hR
theorem enterW_kb : KB w (enterW p R w b a vs).1 := (beginW_kb.trans (hR (beginW p w b a vs) w.acts.length (by simp [beginW]))).trans endW_kb
theorem callW_kb : KB w (callW p R w v vs).1 := by
  unfold callW
  split
  · exact .same rfl
  · split
    · split
      · exact .same rfl
      · exact enterW_kb hR
    · exact .refl w
theorem classW_kb : KB w (classW p R w b a).1 := by
  unfold classW
  split
  · exact enterW_kb hR
  · exact (enterW_kb (p := p) (b := b) (a := a) (vs := []) hR).trans (.same rfl)
theorem workW_kb : KB w (workW p R w a s vs).1 := by
  unfold workW
  split
  · exact .refl w
  · split
    · unfold plusW
      split
      · exact .same rfl
      · exact .refl w
    · split
      · exact .same rfl
      · split
        · exact classW_kb hR
        · split
          · exact callW_kb hR
          · split
            · unfold attrW
              repeat' split
              all_goals exact .same rfl
            · exact .refl w
theorem valueW_kb : KB w (valueW p R w a s).1 := by
  unfold valueW
  split
  · exact loadsW_kb
  · exact loadsW_kb.trans (workW_kb hR)
theorem stmW_kb : KB w (stmW p R w a s) := by
  unfold stmW
  split
  · exact .refl w
  · split
    · exact takeW_kb
    · split
      · exact valueW_kb hR
      · split
        · exact (valueW_kb hR).trans (.same rfl)
        · exact (valueW_kb hR).trans .set
theorem bodyW_kb {l : List Stm} : ∀ {w : Wld} {i : Nat}, KB w (bodyW p R a w i l).1 := by
  induction l with
  | nil => exact fun {w i} => .refl w
  | cons s l ih =>
    intro w i
    have ht : KB w (tickW w a i) := .same rfl
    simp only [bodyW]
    split
    · exact .same rfl
    · split
      · exact ht.trans loadW_kb
      · split
        · exact ht.trans (stmW_kb hR)
        · exact (ht.trans (stmW_kb hR)).trans ih
end
theorem runG_kb {p : Prg} {bod : Nat → List Stm} : ∀ (n : Nat) (w : Wld) (a : Nat), a < w.acts.length → KB w (runG p bod n w a).1
  | 0, w, _, _ => .refl w
  | n + 1, w, a, _ => bodyW_kb (runG_kb n)
structure Alike (p q : Prg) : Prop where
  kind : ∀ b, kindAt p b = kindAt q b
  par : ∀ b : Nat, (match p[b]? with | some k => k.params | none => []) = (match q[b]? with | some k => k.params | none => [])
theorem Alike.parN {p q : Prg} (h : Alike p q) (b : Nat) : parN p b = parN q b := by
  have := congrArg List.length (h.par b)
  unfold Hm.parN
  cases h1 : p[b]? <;> cases h2 : q[b]? <;> simp [h1, h2] at this ⊢ <;> omega
def nmsOk (p q : Prg) (b : Nat) (s : Stm) : Prop := (∀ x ∈ s.reads, owner p b x = owner q b x) ∧ (s.kind = 8 → owner p b s.a = owner q b s.a) ∧ ((s.kind ≠ 7 ∧ s.kind ≠ 8 ∧ s.kind ≠ 9 ∧ s.kind ≠ 10) → owner p b s.to = owner q b s.to)
section
variable {p q : Prg} {R S : Wld → Nat → Wld × Val} {w : Wld} {a b i : Nat} {x : Int} {vs : List Val} {s : Stm} {v : Val}
variable (hA : Alike p q)
include hA
theorem loc_alike (h : owner p (w.blk a) x = owner q (w.blk a) x) : w.loc p a x = w.loc q a x := by simp only [Wld.loc, h]
theorem lack_alike {o : Int} : lack p b o = lack q b o := by simp only [lack, hA.kind]
theorem loadW_alike (h : owner p (w.blk a) x = owner q (w.blk a) x) : loadW p w a x = loadW q w a x := by
  simp only [loadW, loc_alike hA h, h, lack_alike hA]
theorem loadsW_alike {l : List Int} : ∀ {w : Wld}, (∀ x ∈ l, owner p (w.blk a) x = owner q (w.blk a) x) → a < w.acts.length → loadsW p w a l = loadsW q w a l := by
  induction l with
  | nil => exact fun {w} _ _ => rfl
  | cons x l ih =>
    intro w h ha
    have hk := loadW_kb (p := q) (w := w) (a := a) (x := x)
    simp only [loadsW, loadW_alike hA (h x (by simp))]
    split
    · rfl
    · rw [ih (fun y hy => by rw [hk.blk a ha]; exact h y (by simp [hy])) (Nat.lt_of_lt_of_le ha hk.len)]
theorem takeW_alike (h : owner p (w.blk a) x = owner q (w.blk a) x) : takeW p w a x = takeW q w a x := by
  simp only [takeW, loc_alike hA h, h, lack_alike hA]
theorem beginW_alike : beginW p w b a vs = beginW q w b a vs := by
  have e := hA.par b
  unfold beginW
  cases h1 : p[b]? <;> cases h2 : q[b]? <;> simp only [h1, h2] at e ⊢ <;> rw [e]
variable (hR : ∀ w a, a < w.acts.length → R w a = S w a)
include hR
theorem enterW_alike : enterW p R w b a vs = enterW q S w b a vs := by
  have e : R (beginW q w b a vs) w.acts.length = S (beginW q w b a vs) w.acts.length := hR _ _ (by simp [beginW])
  simp only [enterW, beginW_alike hA, e]
theorem callW_alike : callW p R w v vs = callW q S w v vs := by
  simp only [callW, hA.parN, enterW_alike hA hR]
theorem classW_alike : classW p R w b a = classW q S w b a := by
  simp only [classW, enterW_alike hA hR]
theorem workW_alike : workW p R w a s vs = workW q S w a s vs := by
  simp only [workW, classW_alike hA hR, callW_alike hA hR]
theorem valueW_alike (h : nmsOk p q (w.blk a) s) (ha : a < w.acts.length) : valueW p R w a s = valueW q S w a s := by
  simp only [valueW, loadsW_alike hA h.1 ha, workW_alike hA hR]
theorem stmW_alike (hS : ∀ w a, a < w.acts.length → KB w (S w a).1) (h : nmsOk p q (w.blk a) s) (h8 : s.kind ≠ 8) (ha : a < w.acts.length) : stmW p R w a s = stmW q S w a s := by
  have hv := valueW_kb (p := q) (w := w) (a := a) (s := s) hS
  by_cases h9 : s.kind = 9 ∨ s.kind = 10
  · simp only [stmW, h9, if_true]
  by_cases h11 : s.kind = 11
  · have ht := h.2.2 ⟨by omega, by omega, by omega, by omega⟩
    simp only [stmW, h9, h11, if_false, if_true, takeW_alike hA ht]
  simp only [stmW, h9, h11, if_false, valueW_alike hA hR h ha]
  split
  · rfl
  · split
    · rfl
    · rename_i h7
      have ht := h.2.2 ⟨h7, h8, by omega, by omega⟩
      simp only [storeW]
      rw [loc_alike hA (by rw [hv.blk a ha]; exact ht)]
theorem bodyW_alike (hS : ∀ w a, a < w.acts.length → KB w (S w a).1) {l : List Stm} : ∀ {w : Wld} {i : Nat}, (∀ s ∈ l, nmsOk p q (w.blk a) s) → a < w.acts.length → bodyW p R a w i l = bodyW q S a w i l := by
  induction l with
  | nil => exact fun {w i} _ _ => rfl
  | cons s l ih =>
    intro w i h ha
    have hs := h s (by simp)
    have hb : (tickW w a i).blk a = w.blk a := rfl
    have hta : a < (tickW w a i).acts.length := ha
    by_cases hl : w.left = 0
    · simp only [bodyW, hl, if_true]
    by_cases h8 : s.kind = 8
    · simp only [bodyW, hl, h8, if_true, if_false]
      exact loadW_alike hA (by rw [hb]; exact hs.2.1 h8)
    have hst : stmW p R (tickW w a i) a s = stmW q S (tickW w a i) a s := stmW_alike hA hR hS (by rw [hb]; exact hs) h8 hta
    simp only [bodyW, hl, h8, if_false, hst]
    split
    · rfl
    · have hk := stmW_kb (p := q) (w := tickW w a i) (a := a) (s := s) hS
      exact ih (fun s' hs' => by rw [hk.blk a hta, hb]; exact h s' (by simp [hs'])) (Nat.lt_of_lt_of_le hta hk.len)
end
theorem runG_alike {p q : Prg} {bod : Nat → List Stm} (hA : Alike p q) (h : ∀ b, ∀ s ∈ bod b, nmsOk p q b s) : ∀ (n : Nat) (w : Wld) (a : Nat), a < w.acts.length → runG p bod n w a = runG q bod n w a
  | 0, _, _, _ => rfl
  | n + 1, w, a, ha => by
    simp only [runG]
    exact bodyW_alike hA (runG_alike hA h n) (runG_kb n) (h (w.blk a)) ha
theorem runG_pre {p : Prg} {bod : Nat → List Stm} {q : Bool} : ∀ (n : Nat) (w : Wld) (a : Nat), Pre q w (runG p bod n w a).1
  | 0, w, _ => .refl w
  | n + 1, w, a => bodyW_pre (runG_pre n)
theorem runG_lock {p : Prg} {bod : Nat → List Stm} {k : Nat} : ∀ (n : Nat) (w : Wld) (a : Nat), w.left + k < n → w.en = 0 → Lock k (runG p bod n w a) (runG p bod n (addF k w) a)
  | 0, _, _, h, _ => absurd h (by omega)
  | n + 1, w, a, h, h0 => by
    simp only [runG, addF_blk]
    exact bodyW_lock (runG_pre n) (fun w a => runG_lock n w a) h h0
structure SameB (p q : Prg) : Prop where
  alike : Alike p q
  bare : ∃ bod : Nat → List Stm, (∀ b, Del (bodOf p b) (bod b)) ∧ (∀ b, Del (bodOf q b) (bod b)) ∧ ∀ b, ∀ s ∈ bod b, nmsOk p q b s
theorem start_stl {k f : Nat} : startW k = stl [] k (startW f) := rfl
structure SameR (w w' : Wld) : Prop where
  fuel : w.out <+: w'.out ∨ w'.out <+: w.out
  done : w.en ≠ 1 → w'.en ≠ 1 → w.out = w'.out ∧ w.en = w'.en ∧ w.globals = w'.globals
theorem sim_out {m : Nat} {r r' : Wld × Val} (h : Sim m r r') (hm : m = 0) : r'.1.out = r.1.out := by
  rcases h with ⟨_, t, h⟩ | ⟨_, h⟩
  · rw [h]; rfl
  · exact (h hm).1
theorem same_run {p q : Prg} (h : SameB p q) : SameR (meantW p 150) (meantW q 150) := by
  obtain ⟨bod, hp, hq, hn⟩ := h.bare
  have s0 : (startW 150).en = 0 := rfl
  obtain ⟨g1, l1, r1⟩ := runG_sim hp 151 (startW 150) 0 (by simp [startW]) s0
  obtain ⟨g2, l2, r2⟩ := runG_sim hq 151 (startW 150) 0 (by simp [startW]) s0
  have e1 : runG p (bodOf p) 151 (startW 150) 0 = runW p 151 (startW 150) 0 := by rw [runW_runG]
  have e2 : runG q (bodOf q) 151 (startW 150) 0 = runW q 151 (startW 150) 0 := by rw [runW_runG]
  rw [e1] at r1 l1
  rw [e2] at r2 l2
  have f1 : g1 ≤ 150 := Nat.le_trans (Nat.le_add_right _ _) l1
  have f2 : g2 ≤ 150 := Nat.le_trans (Nat.le_add_right _ _) l2
  have hB : ∀ N k, runG q bod N (startW k) 0 = runG p bod N (startW k) 0 := fun N k => (runG_alike h.alike hn N (startW k) 0 (by simp [startW])).symm
  have a1 : ∀ m, g1 + m < 400 → Sim m (runW p 151 (startW 150) 0) (runG p bod 400 (startW (g1 + m)) 0) := fun m hm => r1 400 [] m hm
  have a2 : ∀ m, g2 + m < 400 → Sim m (runW q 151 (startW 150) 0) (runG p bod 400 (startW (g2 + m)) 0) := fun m hm => by rw [← hB]; exact r2 400 [] m hm
  have mono : ∀ i j, i ≤ j → j < 400 → (runG p bod 400 (startW i) 0).1.out <+: (runG p bod 400 (startW j) 0).1.out := by
    intro i j hij hj
    have hl := runG_lock (p := p) (bod := bod) (k := j - i) 400 (startW i) 0 (by simp only [startW]; omega) rfl
    have e : addF (j - i) (startW i) = startW j := by simp only [addF, startW]; congr 1; omega
    rw [e] at hl
    rcases hl with ⟨_, h2⟩ | h2
    · rw [h2]; exact List.prefix_refl _
    · exact h2.pre.out
  have o1 : (runG p bod 400 (startW g1) 0).1.out = (meantW p 150).out := sim_out (a1 0 (by omega)) rfl
  have o2 : (runG p bod 400 (startW g2) 0).1.out = (meantW q 150).out := sim_out (a2 0 (by omega)) rfl
  refine ⟨?_, fun n1 n2 => ?_⟩
  · rw [← o1, ← o2]
    rcases Nat.le_total g1 g2 with hg | hg
    · exact .inl (mono g1 g2 hg (by omega))
    · exact .inr (mono g2 g1 hg (by omega))
  · have b1 := a1 g2 (by omega)
    have b2 := a2 g1 (by omega)
    rw [Nat.add_comm g2 g1] at b2
    rcases b1 with ⟨_, t1, b1⟩ | ⟨b1, _⟩
    · rcases b2 with ⟨_, t2, b2⟩ | ⟨b2, _⟩
      · rw [b1] at b2
        have e := congrArg Prod.fst b2
        simp only at e
        have x1 := congrArg Wld.out e
        have x2 := congrArg Wld.en e
        have x3 := congrArg Wld.globals e
        exact ⟨x1, x2, x3⟩
      · exact absurd b2 n2
    · exact absurd b1 n1
theorem less_steps {p q : Prg} (hA : Alike p q) (hd : ∀ b, Del (bodOf p b) (bodOf q b)) (hn : ∀ b, ∀ s ∈ bodOf q b, nmsOk p q b s) : (meantW p 150).left ≤ (meantW q 150).left := by
  obtain ⟨g, l1, r1⟩ := runG_sim hd 151 (startW 150) 0 (by simp [startW]) rfl
  have e1 : runG p (bodOf p) 151 (startW 150) 0 = runW p 151 (startW 150) 0 := by rw [runW_runG]
  have e2 : runG p (bodOf q) 151 (startW 150) 0 = runW q 151 (startW 150) 0 := by rw [runW_runG (p := q), runG_alike hA hn 151 (startW 150) 0 (by simp [startW])]
  rw [e1] at r1 l1
  have f1 : g + (meantW p 150).left ≤ 150 := l1
  have := r1 151 [] (150 - g) (by omega)
  rw [show g + (150 - g) = 150 by omega, ← start_stl, e2] at this
  rcases this with ⟨_, t, h⟩ | ⟨h, _⟩
  · have e : (meantW q 150).left = 150 - g := by
      show (runW q 151 (startW 150) 0).1.left = _
      rw [h]
      rfl
    omega
  · have : (meantW p 150).left = 0 := by
      rcases meantW_lock (p := p) (f := 150) (k := 0) (by omega) with ⟨h1, _⟩ | h2
      · exact absurd h h1
      · exact h2.left
    omega
end Go.Hm
end

section
namespace Go.Hm
open Go Go.RowKit
def isDecl (s : Stm) : Bool := (s.kind == 9) || (s.kind == 10)
theorem del_bare : ∀ l : List Stm, Del l (bareS l)
  | [] => .nil
  | s :: l => by
    by_cases h : s.kind = 9 ∨ s.kind = 10
    · have e : bareS (s :: l) = bareS l := by
        rcases h with h | h <;> simp [bareS, h]
      rw [e]
      exact .drop s h (del_bare l)
    · have e : bareS (s :: l) = s :: bareS l := by
        simp only [not_or] at h
        simp [bareS, h.1, h.2]
      rw [e]
      exact .keep s (del_bare l)
theorem Del.trans {l l' l'' : List Stm} (h : Del l l') (h' : Del l' l'') : Del l l'' := by
  induction h generalizing l'' with
  | nil => exact h'
  | drop s hs _ ih => exact .drop s hs (ih h')
  | keep s _ ih =>
    cases h' with
    | keep _ h' => exact .keep s (ih h')
    | drop _ hs h' => exact .drop s hs (ih h')
theorem Del.bare {l l' : List Stm} (h : Del l l') : bareS l = bareS l' := by
  induction h with
  | nil => rfl
  | drop s hs _ ih =>
    rw [← ih]
    rcases hs with h | h <;> simp [bareS, h]
  | keep s _ ih => simp only [bareS, List.filter_cons] at ih ⊢; rw [ih]
theorem del_cut : ∀ {l : List Stm} {i : Nat} {s : Stm}, l[i]? = some s → (s.kind = 9 ∨ s.kind = 10) → Del l (l.eraseIdx i)
  | [], _, _, h, _ => by simp at h
  | s :: l, 0, _, h, hs => by
    obtain rfl : s = _ := by simpa using h
    exact .drop _ hs (Del.refl l)
  | s :: l, i + 1, _, h, hs => by
    exact .keep s (del_cut (by simpa using h) hs)
theorem mem_bare {l : List Stm} {s : Stm} : s ∈ bareS l ↔ s ∈ l ∧ ¬ (s.kind = 9 ∨ s.kind = 10) := by
  simp only [bareS, List.mem_filter, Bool.not_eq_true', Bool.or_eq_false_iff, beq_eq_false_iff_ne, ne_eq, not_or]
section
variable {p q : Prg} {b : Nat} {k k' : Blk} {x : Int} {s : Stm}
theorem bareP_get (h : bareP p = bareP q) (hk : p[b]? = some k) : ∃ k', q[b]? = some k' ∧ bareB k = bareB k' := by
  have h1 := congrArg (fun l => l[b]?) h
  simp only [bareP, List.getElem?_map, hk, Option.map_some] at h1
  cases hq : q[b]? with
  | none => simp [hq] at h1
  | some k' =>
    rw [hq] at h1
    exact ⟨k', rfl, by simpa using h1⟩
theorem bareP_len (h : bareP p = bareP q) : p.length = q.length := by
  have := congrArg List.length h
  simpa [bareP] using this
theorem alike_of (h : bareP p = bareP q) : Alike p q := by
  refine ⟨fun b => ?_, fun b => ?_⟩
  · unfold kindAt
    cases hp : p[b]? with
    | some k =>
      obtain ⟨k', hk', e⟩ := bareP_get h hp
      rw [hk']
      have x1 := congrArg Blk.kind e
      exact x1
    | none =>
      have : q[b]? = none := by
        rw [List.getElem?_eq_none_iff] at hp ⊢
        rw [← bareP_len h]
        exact hp
      rw [this]
  · cases hp : p[b]? with
    | some k =>
      obtain ⟨k', hk', e⟩ := bareP_get h hp
      rw [hk']
      have x1 := congrArg Blk.params e
      exact x1
    | none =>
      have : q[b]? = none := by
        rw [List.getElem?_eq_none_iff] at hp ⊢
        rw [← bareP_len h]
        exact hp
      rw [this]
theorem bare_bod (h : bareP p = bareP q) (b : Nat) : bareS (bodOf p b) = bareS (bodOf q b) := by
  unfold bodOf
  cases hp : p[b]? with
  | some k =>
    obtain ⟨k', hk', e⟩ := bareP_get h hp
    rw [hk']
    have x1 := congrArg Blk.body e
    exact x1
  | none =>
    have : q[b]? = none := by
      rw [List.getElem?_eq_none_iff] at hp ⊢
      rw [← bareP_len h]
      exact hp
    rw [this]
theorem own_agree (ho : ownersOf p = ownersOf q) (hk : p[b]? = some k) (hk' : q[b]? = some k') (h0 : 0 ≤ x ∧ x ≤ 7) (hx : x ∈ k.rd ++ k.bd) (hx' : x ∈ k'.rd ++ k'.bd) : owner p b x = owner q b x := by
  have hbp : b < p.length := (List.getElem?_eq_some_iff.1 hk).1
  have hbq : b < q.length := (List.getElem?_eq_some_iff.1 hk').1
  have h1 := congrArg (fun l => l[b]?) ho
  simp only [ownersOf, List.getElem?_map, List.getElem?_range hbp, List.getElem?_range hbq, Option.map_some, Option.some.injEq, ownersAt, hk, hk'] at h1
  obtain ⟨n, rfl⟩ : ∃ n : Nat, x = n := ⟨x.toNat, by omega⟩
  have hn : n < 8 := by omega
  have h2 := congrArg (fun l => l[n]?) h1
  simp only [ownersRow, List.getElem?_map, List.getElem?_range hn, Option.map_some, Option.some.injEq] at h2
  rw [if_pos hx, if_pos hx'] at h2
  exact h2
theorem reads_rd (hn : NmOk k) (hs : s ∈ k.body) (hx : x ∈ s.reads) : x ∈ k.rd := by
  have h1 := hn.reads s hs x hx
  simp only [Blk.rd, mem_sorted, readsAll, List.mem_flatMap]
  exact ⟨⟨s, hs, hx⟩, h1⟩
theorem nms_of (hp : ShapeP p) (hq : ShapeP q) (ho : ownersOf p = ownersOf q) (hk : p[b]? = some k) (hk' : q[b]? = some k') (hs : s ∈ k.body) (hs' : s ∈ k'.body) : nmsOk p q b s := by
  have n1 := hp.names k (List.mem_of_getElem? hk)
  have n2 := hq.names k' (List.mem_of_getElem? hk')
  have hkd := n1.kinds s hs
  have key : ∀ x ∈ s.reads, owner p b x = owner q b x := fun x hx => own_agree ho hk hk' (n1.reads s hs x hx) (List.mem_append_left _ (reads_rd n1 hs hx)) (List.mem_append_left _ (reads_rd n2 hs' hx))
  refine ⟨key, fun h8 => key s.a (by simp [Stm.reads, h8]), fun h => ?_⟩
  have hst : s.sets ∨ s.kind = 11 := by
    simp only [Stm.sets]
    omega
  exact own_agree ho hk hk' (n1.tos s hs) (List.mem_append_right _ (to_bd n1 hs hst)) (List.mem_append_right _ (to_bd n2 hs' hst))
theorem sameB_of (hp : ShapeP p) (hq : ShapeP q) (hb : bareP p = bareP q) (ho : ownersOf p = ownersOf q) : SameB p q := by
  refine ⟨alike_of hb, fun b => bareS (bodOf p b), fun b => del_bare _, fun b => by
    show Del (bodOf q b) (bareS (bodOf p b))
    rw [bare_bod hb]
    exact del_bare _, fun b s hs => ?_⟩
  have hs0 : s ∈ bareS (bodOf p b) := hs
  have hs' := hs0
  rw [bare_bod hb] at hs'
  have m1 := (mem_bare.1 hs0).1
  have m2 := (mem_bare.1 hs').1
  unfold bodOf at m1 m2
  cases hk : p[b]? with
  | none => rw [hk] at m1; cases m1
  | some k =>
    cases hk' : q[b]? with
    | none => rw [hk'] at m2; cases m2
    | some k' =>
      rw [hk] at m1
      rw [hk'] at m2
      exact nms_of hp hq ho hk hk' m1 m2
theorem steps_le (hp : ShapeP p) (hq : ShapeP q) (hd : ∀ b, Del (bodOf p b) (bodOf q b)) (hb : bareP p = bareP q) (ho : ownersOf p = ownersOf q) : (meantW p 150).left ≤ (meantW q 150).left := by
  refine less_steps (alike_of hb) hd fun b s hs => ?_
  by_cases h : s.kind = 9 ∨ s.kind = 10
  · refine ⟨fun x hx => ?_, fun h8 => ?_, fun h3 => ?_⟩
    · have : s.reads = [] := by
        rcases h with h | h <;> simp [Stm.reads, h]
      rw [this] at hx
      cases hx
    · omega
    · omega
  · have h1 : s ∈ bareS (bodOf q b) := mem_bare.2 ⟨hs, h⟩
    rw [← bare_bod hb] at h1
    have m1 := (mem_bare.1 h1).1
    unfold bodOf at m1 hs
    cases hk : p[b]? with
    | none => rw [hk] at m1; cases m1
    | some k =>
      cases hk' : q[b]? with
      | none => rw [hk'] at hs; cases hs
      | some k' =>
        rw [hk] at m1
        rw [hk'] at hs
        exact nms_of hp hq ho hk hk' m1 hs
end
def sameG (p q : Prg) : Bool := (progOk p && progOk q) && (decide (bareP p = bareP q) && decide (ownersOf p = ownersOf q))
theorem sameG_parts {p q : Prg} (h : sameG p q = true) : progOk p = true ∧ progOk q = true ∧ bareP p = bareP q ∧ ownersOf p = ownersOf q := by
  simp only [sameG, Bool.and_eq_true, decide_eq_true_eq] at h
  exact ⟨h.1.1, h.1.2, h.2.1, h.2.2⟩
theorem sameG_symm {p q : Prg} (h : sameG p q = true) : sameG q p = true := by
  obtain ⟨h1, h2, h3, h4⟩ := sameG_parts h
  simp [sameG, h1, h2, h3, h4]
theorem sameG_self {p : Prg} (h : progOk p = true) : sameG p p = true := by simp [sameG, h]
theorem shape_ok {p : Prg} (hs : Sml p) (h : progOk p = true) : ShapeP p := by
  simp only [progOk, Bool.and_eq_true] at h
  exact ShapeP.of hs h.1
theorem sameG_run {p q : Prg} (hp : Sml p) (hq : Sml q) (h : sameG p q = true) : SameR (meantW p 150) (meantW q 150) := by
  obtain ⟨h1, h2, h3, h4⟩ := sameG_parts h
  exact same_run (sameB_of (shape_ok hp h1) (shape_ok hq h2) h3 h4)
end Go.Hm
end

section
namespace Go.Hm
open Go Go.RowKit
theorem cutL_erase {L : List Stm} {i : Nat} : cutL L i = L.eraseIdx i := by simp [cutL, List.eraseIdx_eq_take_drop_succ]
theorem setBody_bod {p : Prg} {b c : Nat} {L : List Stm} : bodOf (setBody p b L) c = if b = c ∧ c < p.length then L else bodOf p c := by
  unfold bodOf
  cases hc : p[c]? with
  | none =>
    have : (setBody p b L)[c]? = none := by
      rw [List.getElem?_eq_none_iff, setBody_len]
      exact List.getElem?_eq_none_iff.1 hc
    rw [this]
    have hl := List.getElem?_eq_none_iff.1 hc
    rw [if_neg (by omega)]
  | some k =>
    have hl := (List.getElem?_eq_some_iff.1 hc).1
    rw [setBody_get hc]
    by_cases e : b = c
    · simp [e, hl]
    · simp [e]
theorem bareP_set {p : Prg} {b : Nat} {L : List Stm} {k : Blk} (hk : p[b]? = some k) (h : bareS L = bareS k.body) : bareP (setBody p b L) = bareP p := by
  apply List.ext_getElem?
  intro c
  simp only [bareP, List.getElem?_map]
  cases hc : p[c]? with
  | none =>
    have : (setBody p b L)[c]? = none := by
      rw [List.getElem?_eq_none_iff, setBody_len]
      exact List.getElem?_eq_none_iff.1 hc
    rw [this]
  | some k' =>
    rw [setBody_get hc]
    by_cases e : b = c
    · subst e
      rw [hk] at hc
      obtain rfl := Option.some.inj hc
      simp [bareB, h]
    · simp [e]
section
variable {p : Prg} {b i : Nat} {k : Blk} {s : Stm}
theorem idle_cut (h : idleAt p b i = true) : progOk (cutP p b i) = true ∧ bareP (cutP p b i) = bareP p ∧ ownersOf p = ownersOf (cutP p b i) ∧ ∀ c, Del (bodOf p c) (bodOf (cutP p b i) c) := by
  unfold idleAt at h
  split at h
  case h_2 => cases h
  rename_i k hk
  split at h
  case h_2 => cases h
  rename_i s hs
  simp only [Bool.and_eq_true, Bool.or_eq_true, beq_iff_eq, decide_eq_true_eq] at h
  have hd : Del k.body (cutL k.body i) := by rw [cutL_erase]; exact del_cut hs h.1
  refine ⟨h.2.1, ?_, h.2.2, fun c => ?_⟩
  · rw [cutP_eq hk]
    exact bareP_set hk hd.bare.symm
  · rw [cutP_eq hk, setBody_bod]
    split
    · rename_i e
      obtain ⟨rfl, _⟩ := e
      simp only [bodOf, hk]
      exact hd
    · exact Del.refl _
end
structure LeanOk (p r : Prg) : Prop where
  ok : progOk r = true
  bare : bareP r = bareP p
  own : ownersOf p = ownersOf r
  del : ∀ c, Del (bodOf p c) (bodOf r c)
  none : NoIdle r
theorem LeanTo.leanOk {p r : Prg} (h : LeanTo p r) (hp : progOk p = true) : LeanOk p r := by
  induction h with
  | stop p h => exact ⟨hp, rfl, rfl, fun _ => Del.refl _, h⟩
  | step p r b i h _ ih =>
    obtain ⟨h1, h2, h3, h4⟩ := idle_cut h.idle
    have h5 := ih h1
    exact ⟨h5.ok, h5.bare.trans h2, h3.trans h5.own, fun c => (h4 c).trans (h5.del c), h5.none⟩
theorem lean_ok {p : Prg} (hp : progOk p = true) : LeanOk p (leanP p) := (leanP_to p).leanOk hp
theorem lean_same {p : Prg} (hp : progOk p = true) : sameG (leanP p) p = true := by
  have h := lean_ok hp
  simp [sameG, hp, h.ok, h.bare, h.own]
theorem lean_twice {p : Prg} (hp : progOk p = true) : leanP (leanP p) = leanP p := leanP_stop (lean_ok hp).none
theorem lean_steps {p : Prg} (hs : Sml p) (hp : progOk p = true) : (meantW p 150).left ≤ (meantW (leanP p) 150).left := by
  have h := lean_ok hp
  exact steps_le (shape_ok hs hp) (shape_ok ((leanP_to p).sml hs) h.ok) h.del h.bare.symm h.own
theorem explicit_bare {p : Prg} {b : Nat} {k : Blk} : bareS (explicitL p b k) = [] := by
  unfold explicitL
  split
  · rfl
  · simp only [bareS, List.filter_eq_nil_iff, List.mem_flatMap]
    rintro s ⟨x, _, hx⟩
    unfold explicitOf at hx
    split at hx
    · cases hx
    · obtain rfl := List.mem_singleton.1 hx
      simp only [Bool.not_eq_true', Bool.or_eq_false_iff]
      split <;> simp
theorem full_bare {p : Prg} : bareP (fullP p) = bareP p := by
  apply List.ext_getElem?
  intro c
  simp only [bareP, List.getElem?_map]
  cases hc : p[c]? with
  | none =>
    have : (fullP p)[c]? = none := by
      rw [List.getElem?_eq_none_iff, fullP, fullTo_len]
      exact List.getElem?_eq_none_iff.1 hc
    rw [this]
  | some k =>
    rw [fullP_get hc]
    have : bareS (explicitL p c k ++ k.body) = bareS k.body := by
      have := explicit_bare (p := p) (b := c) (k := k)
      simp only [bareS, List.filter_append] at this ⊢
      rw [this, List.nil_append]
    simp [bareB, fullBlk, this]
theorem full_same {p : Prg} (h : fullOk p = true) : sameG (fullP p) p = true := by
  simp only [fullOk, Bool.and_eq_true, decide_eq_true_eq] at h
  simp [sameG, h.1, h.2.1, h.2.2, full_bare]
theorem full_reads {p : Prg} (h : fullOk p = true) {b : Nat} {k : Blk} (hk : (fullP p)[b]? = some k) (hb : 0 < b) {x : Int} (hx : x ∈ k.rd) : owner (fullP p) b x = b ∨ x ∈ k.dc 9 ∨ x ∈ k.dc 10 := by
  simp only [fullOk, Bool.and_eq_true, decide_eq_true_eq] at h
  have hbl : b < p.length := by
    have := (List.getElem?_eq_some_iff.1 hk).1
    simpa [fullP] using this
  obtain ⟨k0, hk0⟩ : ∃ k, p[b]? = some k := ⟨_, List.getElem?_eq_getElem hbl⟩
  have e := fullP_get hk0
  rw [hk] at e
  obtain rfl := Option.some.inj e
  have hrd : readsAll (explicitL p b k0) = [] := by
    unfold explicitL readsAll
    split
    · rfl
    · simp only [List.flatMap_eq_nil_iff, List.mem_flatMap]
      rintro s ⟨y, _, hy⟩
      unfold explicitOf at hy
      split at hy
      · cases hy
      · obtain rfl := List.mem_singleton.1 hy
        simp only [Stm.reads]
        split <;> simp
  have hx0 : x ∈ k0.rd := by
    simp only [Blk.rd, mem_sorted] at hx ⊢
    refine ⟨?_, hx.2⟩
    have h1 := hx.1
    simp only [fullBlk, readsAll, List.flatMap_append, List.mem_append] at h1
    rcases h1 with h1 | h1
    · simp only [readsAll] at hrd
      rw [hrd] at h1
      cases h1
    · exact h1
  have hx7 : 0 ≤ x ∧ x ≤ 7 := by
    simp only [Blk.rd, mem_sorted] at hx0
    exact hx0.2
  have ho : owner p b x = owner (fullP p) b x := own_agree h.2.2 hk0 hk hx7 (List.mem_append_left _ hx0) (List.mem_append_left _ hx)
  rw [← ho]
  by_cases h1 : owner p b x = b
  · exact .inl h1
  right
  have up : ∀ d, x ∈ k0.dc d → x ∈ (fullBlk p b k0).dc d := by
    intro d hd
    simp only [Blk.dc, mem_sorted, declAll, fullBlk, List.filter_append, List.map_append, List.mem_append] at hd ⊢
    exact ⟨.inr hd.1, hd.2⟩
  by_cases h9 : x ∈ k0.dc 9
  · exact .inl (up 9 h9)
  by_cases h10 : x ∈ k0.dc 10
  · exact .inr (up 10 h10)
  have hb0 : ¬ b = 0 := by omega
  have hin : (⟨if owner p b x < 0 then 9 else 10, x, 0, 0⟩ : Stm) ∈ explicitL p b k0 := by
    unfold explicitL
    rw [if_neg hb0]
    refine List.mem_flatMap.2 ⟨x, hx0, ?_⟩
    unfold explicitOf
    rw [if_neg (by simp [h9, h10, h1])]
    simp
  by_cases hneg : owner p b x < 0
  · left
    rw [if_pos hneg] at hin
    simp only [Blk.dc, mem_sorted, declAll, fullBlk, List.filter_append, List.map_append, List.mem_append, List.mem_map, List.mem_filter]
    exact ⟨.inl ⟨_, ⟨hin, by simp⟩, rfl⟩, hx7⟩
  · right
    rw [if_neg hneg] at hin
    simp only [Blk.dc, mem_sorted, declAll, fullBlk, List.filter_append, List.map_append, List.mem_append, List.mem_map, List.mem_filter]
    exact ⟨.inl ⟨_, ⟨hin, by simp⟩, rfl⟩, hx7⟩
end Go.Hm
end

section
namespace Go.Hm
open Go Go.RowKit
section
variable {X : Ctx} {st : St} {K : St → Prop} {E : AV → St → Prop}
def dfree (D : Nm → Bool) (hp : Nm → Option AO) : Nm → Option AO := fun m => if D m then none else hp m
def St.forget (D : Nm → Bool) (st : St) : St := { tm := st.tm, hp := dfree D st.hp, n := st.n, gl := st.gl }
@[simp] theorem forget_tm {D : Nm → Bool} {t : Nat} : (st.forget D).tm t = st.tm t := rfl
@[simp] theorem forget_hp {D : Nm → Bool} {m : Nm} : (st.forget D).hp m = if D m then none else st.hp m := rfl
theorem dfree_sub {D : Nm → Bool} : ∀ m o, dfree D st.hp m = some o → st.hp m = some o := by
  intro m o h
  unfold dfree at h
  split at h
  · cases h
  · exact h
theorem w_forget {c : Code} {Q : Ex → St → Prop} (D : Nm → Bool) (h : SemCode X c Q (st.forget D)) : SemCode X c Q st := fun a w hR => h a w (hR.weaken _ dfree_sub)
end
section
variable {X : Ctx} {st : St} {K : St → Prop} {E : AV → St → Prop} {d f : Nat} {ty : TypeId} {pos : String} {aft : Array Edge} {g : Option (Nat × Bool)} {c : Operand} {args : Array Operand} {Ts : Array TypeId} {xs ys as : List AV}
end
section
variable {P : Program} {own : Nat → Prop} {C : Nat → Prop} {w0 : World} {g : Gh} {st : St} {a : Go.Act} {w : World}
theorem max_sound {o : Oper} {x y : Operand} {ts : Array TypeId} {i j : Int} (h : Rg P own C w0 g st a w) (ho : o.op = .call { callee := .builtin .max, args := #[x, y], argTypes := ts }) (hdn : ∀ t, o.dst = some t → t < st.n)
    (hx : ev st x = iv i) (hy : ev st y = iv j) : Does P o a w fun a' w' => Rel P own C w0 g (st.put o.dst (iv (if j > i then j else i))) a' w' := by
  have hxv := h.ev x
  rw [hx] at hxv
  have hxv := hxv.sc_eq
  have hyv := h.ev y
  rw [hy] at hyv
  have hyv := hyv.sc_eq
  refine .inl ⟨.int .i64 (if j > i then j else i), w, ?_, g, .refl g, h.put hdn (.sc _)⟩
  simp only [execOp, ho, resolve, invoke, builtin, Sem.run_bind, Sem.run_pure, Result.andThen_ok, List.map_toArray, List.map_cons, List.map_nil, hxv, hyv, Builtin.max_, List.foldlM, Builtin.max2]
end
section
variable {X : Ctx} {st : St} {K : St → Prop} {E : AV → St → Prop} {d : Nat} {ty : TypeId} {pos : String} {aft : Array Edge} {g : Option (Nat × Bool)}
theorem x_max {x y : Operand} {ts : Array TypeId} {i j : Int} (m : Int) (hm : m = max i j) (hd : d < X.n := by first | (simp; done) | fail) (hx : ev st x = iv i := by simp [fx]; first | done | rfl) (hy : ev st y = iv j := by simp [fx]; first | done | rfl)
    (h : K (st.put (some d) (iv m))) : SemOp X ⟨some d, .call ⟨.builtin .max, #[x, y], ts⟩, ty, pos, aft, g⟩ K E st := by
  have e : (if j > i then j else i) = m := by rw [hm]; split <;> omega
  refine .of_rel (st' := st.put (some d) (iv m)) (fun _ _ _ _ e' h' => ?_) ⟨put_n _ _ _, put_gl _ _ _⟩ h
  rw [← e]
  exact max_sound (o := ⟨some d, .call ⟨.builtin .max, #[x, y], ts⟩, ty, pos, aft, g⟩) h' rfl (fun t et => by obtain rfl := Option.some.inj et; rw [e']; exact hd) hx hy
end
theorem OkS.two {D : Nm → Bool} {root n m : Nm} {i j i' j' : Nat} (h : n.sroot = true) (h' : m.sroot = true) (hne : ¬ (i = i' ∧ j = j')) : OkS D root [(n, .c root i j), (m, .c root i' j')] := by
  refine ⟨by simp [h, h'], by simp, ?_⟩
  refine .cons (fun q hq => ?_) (.cons (fun q hq => by simp at hq) .nil)
  obtain rfl := by simpa using hq
  exact fun k hk => Nm.c_disj hne hk
def deepN (p : Prg) : Nat → Nat
  | 0 => 0
  | n + 1 => max (deepN p n) (meantW p n).stack.length
def deepG (p : Prg) (f : Int) : Int := if fuelOk p f then (deepN p (f.toNat + 1) : Nat) else -1
def idleRow (p : Prg) (b : Nat) : List Int := match p[b]? with
  | some k => ((List.range k.body.length).filter fun i => idleAt p b i).map fun i : Nat => (i : Int)
  | none => []
def idleTo (p : Prg) (b i : Nat) : List Int := ((List.range i).filter fun j => idleAt p b j).map fun j : Nat => (j : Int)
def idleT (p : Prg) : List (List Int) := (List.range p.length).map (idleRow p)
def idleG (p : Prg) : List (List Int) := if progOk p then idleT p else []
section
variable {p : Prg} {b i : Nat} {k : Blk}
theorem idleRow_eq (hk : p[b]? = some k) : idleRow p b = idleTo p b k.body.length := by simp only [idleRow, hk, idleTo]
@[simp] theorem idleTo_zero : idleTo p b 0 = [] := rfl
theorem idleTo_succ : idleTo p b (i + 1) = if idleAt p b i then idleTo p b i ++ [(i : Int)] else idleTo p b i := by
  simp only [idleTo, List.range_succ, List.filter_append, List.map_append]
  cases h : idleAt p b i <;> simp [h]
theorem idleTo_len : (idleTo p b i).length ≤ i := by
  simp only [idleTo, List.length_map]
  exact Nat.le_trans (List.length_filter_le _ _) (by simp)
@[simp] theorem idleT_len : (idleT p).length = p.length := by simp [idleT]
theorem idleT_none (h : ∀ b i, idleAt p b i = false) : idleT p = p.map fun _ => [] := by
  apply List.ext_getElem
  · simp
  intro j h1 h2
  simp only [idleT, List.getElem_map, List.getElem_range, idleRow]
  split
  · simp [h]
  · rfl
end
theorem blk_ext {x y : Blk} (h1 : x.kind = y.kind) (h2 : x.parent = y.parent) (h3 : x.params = y.params) (h4 : x.body = y.body) : x = y := by
  cases x; cases y; simp_all
theorem ne_of_get {α : Type} {l m : List α} {i : Nat} {x y : α} (hx : l[i]? = some x) (hy : m[i]? = some y) (h : x ≠ y) : l ≠ m := by
  rintro rfl
  rw [hx] at hy
  exact h (Option.some.inj hy)
theorem take_next {α : Type} {l m : List α} {i : Nat} {x : α} (h : l.take i = m.take i) (hx : l[i]? = some x) (hy : m[i]? = some x) : l.take (i + 1) = m.take (i + 1) := by
  rw [List.take_add_one, List.take_add_one, h, hx, hy]
end Go.Hm
end
