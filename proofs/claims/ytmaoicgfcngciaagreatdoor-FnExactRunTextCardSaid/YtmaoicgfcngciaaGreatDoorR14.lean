/-
  Own texts, joined by mkclaim.py: Hm73, Hm74, Hm75, Hm76, Hm77, Hm78, Hm79, Hm81, Hm82, Hm83.
-/
import Derived.Test.YtmaoicgfcngciaaGreatDoorR13
import Derived.Test.YtmaoicgfcngciaaGreatDoorR11
import Derived.Stop.Joined
set_option linter.unusedSimpArgs false
set_option linter.unusedVariables false
set_option maxRecDepth 100000
set_option maxHeartbeats 4000000

section
namespace Go.Hm
open Go Go.RowKit
abbrev NMap := List (Int × Val)
def lk (n : Int) : NMap → Slt
  | [] => none
  | q :: l => if q.1 = n then some q.2 else lk n l
def lkS (n : Int) (v : Val) : NMap → NMap
  | [] => [(n, v)]
  | q :: l => if q.1 = n then (n, v) :: l else q :: lkS n v l
def lkD (n : Int) : NMap → NMap
  | [] => []
  | q :: l => if q.1 = n then l else q :: lkD n l
abbrev Val.av (v : Val) : AV := .agg [iv v.1, iv v.2]
def mrows (ms : NMap) : List (AV × AV) := ms.map fun q => (iv q.1, Val.av q.2)
section
variable {ms : NMap} {n m : Int} {v : Val} {f : Nm → Option Nm}
@[simp] theorem mrows_nil : mrows [] = [] := rfl
@[simp] theorem mrows_keys : mkeys .i64 (mrows ms) = true := by
  induction ms with
  | nil => rfl
  | cons q l ih => simp only [mrows, List.map_cons, mkeys] at ih ⊢; simpa using ih
@[simp] theorem mrows_get : mget .i64 n (mrows ms) = (lk n ms).map Val.av := by
  induction ms with
  | nil => rfl
  | cons q l ih =>
    simp only [mrows, List.map_cons, mget, lk, if_true] at ih ⊢
    split
    · rfl
    · exact ih
@[simp] theorem mrows_set {a b : Int} : mset .i64 n (.agg [iv a, iv b]) (mrows ms) = mrows (lkS n (a, b) ms) := by
  induction ms with
  | nil => rfl
  | cons q l ih =>
    simp only [mrows, List.map_cons, mset, lkS, true_and] at ih ⊢
    split
    · rfl
    · rw [ih]; rfl
@[simp] theorem mrows_del : mdel .i64 n (mrows ms) = mrows (lkD n ms) := by
  induction ms with
  | nil => rfl
  | cons q l ih =>
    simp only [mrows, List.map_cons, mdel, lkD, true_and] at ih ⊢
    split
    · rfl
    · rw [ih]; rfl
@[simp] theorem mrows_tr : (mrows ms).map (fun e => (e.1.tr f, e.2.tr f)) = mrows ms := by simp [mrows]
theorem lk_set : lk m (lkS n v ms) = if m = n then some v else lk m ms := by
  induction ms with
  | nil =>
    by_cases hm : m = n
    · subst hm; simp [lkS, lk]
    · have h1 : ¬ n = m := fun x => hm x.symm
      simp [lkS, lk, hm, h1]
  | cons q l ih =>
    simp only [lkS]
    split
    · rename_i e
      by_cases hm : m = n
      · subst hm; simp [lk]
      · have h1 : ¬ n = m := fun x => hm x.symm
        have h2 : ¬ q.1 = m := by rw [e]; exact h1
        simp [lk, hm, h1, h2]
    · rename_i e
      simp only [lk, ih]
      by_cases hq : q.1 = m
      · have h1 : ¬ m = n := by rw [← hq]; exact e
        simp [hq, h1]
      · simp [hq]
theorem lk_mem : (lk m ms).isSome = true ↔ m ∈ ms.map (·.1) := by
  induction ms with
  | nil => simp [lk]
  | cons q l ih =>
    simp only [lk, List.map_cons, List.mem_cons]
    split
    · rename_i e; simp [e]
    · rename_i e
      rw [ih]
      constructor
      · exact fun h => .inr h
      · rintro (h | h)
        · exact absurd h.symm e
        · exact h
theorem lk_none (h : m ∉ ms.map (·.1)) : lk m ms = none := by
  cases e : lk m ms with
  | none => rfl
  | some v => exact absurd (lk_mem.1 (by simp [e])) h
theorem lk_del (h : (ms.map (·.1)).Nodup) : lk m (lkD n ms) = if m = n then none else lk m ms := by
  induction ms with
  | nil => simp [lkD, lk]
  | cons q l ih =>
    simp only [List.map_cons, List.nodup_cons] at h
    simp only [lkD]
    split
    · rename_i e
      simp only [lk]
      by_cases hm : m = n
      · subst hm
        rw [if_pos rfl]
        exact lk_none (by rw [← e]; exact h.1)
      · rw [if_neg hm, if_neg (by rw [e]; exact fun x => hm x.symm)]
    · rename_i e
      simp only [lk, ih h.2]
      by_cases hq : q.1 = m
      · have h1 : ¬ m = n := by rw [← hq]; exact e
        simp [hq, h1]
      · simp [hq]
theorem lkS_keys : ∀ x, x ∈ (lkS n v ms).map (·.1) ↔ x = n ∨ x ∈ ms.map (·.1) := by
  intro x
  rw [← lk_mem, lk_set, ← lk_mem]
  by_cases hx : x = n
  · simp [hx]
  · simp [hx]
theorem lkS_nodup (h : (ms.map (·.1)).Nodup) : ((lkS n v ms).map (·.1)).Nodup := by
  induction ms with
  | nil => simp [lkS]
  | cons q l ih =>
    simp only [List.map_cons, List.nodup_cons] at h
    simp only [lkS]
    split
    · rename_i e
      simp only [List.map_cons, List.nodup_cons]
      exact ⟨by rw [← e]; exact h.1, h.2⟩
    · rename_i e
      simp only [List.map_cons, List.nodup_cons]
      refine ⟨fun hx => ?_, ih h.2⟩
      rcases (lkS_keys _).1 hx with h1 | h1
      · exact e h1
      · exact h.1 h1
theorem lkD_sub : ∀ x, x ∈ (lkD n ms).map (·.1) → x ∈ ms.map (·.1) := by
  induction ms with
  | nil => intro x h; exact h
  | cons q l ih =>
    intro x h
    simp only [lkD] at h
    split at h
    · simp only [List.map_cons, List.mem_cons]; exact .inr h
    · simp only [List.map_cons, List.mem_cons] at h ⊢
      rcases h with h | h
      · exact .inl h
      · exact .inr (ih x h)
theorem lkD_nodup (h : (ms.map (·.1)).Nodup) : ((lkD n ms).map (·.1)).Nodup := by
  induction ms with
  | nil => exact h
  | cons q l ih =>
    simp only [List.map_cons, List.nodup_cons] at h
    simp only [lkD]
    split
    · exact h.2
    · simp only [List.map_cons, List.nodup_cons]
      exact ⟨fun hx => h.1 (lkD_sub _ hx), ih h.2⟩
end
structure MapOk (ms : NMap) (l : List Slt) : Prop where
  nd : (ms.map (·.1)).Nodup
  get : ∀ x : Nat, x < 8 → lk x ms = (match l[x]? with | some s => s | none => none)
  len : l.length = 8
theorem MapOk.nil : MapOk [] noSlots := ⟨by simp, fun x hx => by simp [lk, hx], by simp⟩
theorem MapOk.set {ms : NMap} {l : List Slt} (h : MapOk ms l) {x : Int} {v : Val} (hx : 0 ≤ x ∧ x ≤ 7) : MapOk (lkS x v ms) (l.set x.toNat (some v)) := by
  refine ⟨lkS_nodup h.nd, fun y hy => ?_, by simp [h.len]⟩
  rw [lk_set, List.getElem?_set]
  have hl := h.len
  by_cases e : (y : Int) = x
  · have e' : x.toNat = y := by omega
    rw [if_pos e, if_pos e', if_pos (by omega)]
  · have e' : ¬ x.toNat = y := by omega
    rw [if_neg e, if_neg e']
    exact h.get y hy
theorem MapOk.del {ms : NMap} {l : List Slt} (h : MapOk ms l) {x : Int} (hx : 0 ≤ x ∧ x ≤ 7) : MapOk (lkD x ms) (l.set x.toNat none) := by
  refine ⟨lkD_nodup h.nd, fun y hy => ?_, by simp [h.len]⟩
  rw [lk_del h.nd, List.getElem?_set]
  have hl := h.len
  by_cases e : (y : Int) = x
  · have e' : x.toNat = y := by omega
    rw [if_pos e, if_pos e', if_pos (by omega)]
  · have e' : ¬ x.toNat = y := by omega
    rw [if_neg e, if_neg e']
    exact h.get y hy
theorem MapOk.at {ms : NMap} {l : List Slt} (h : MapOk ms l) {x : Int} (hx : 0 ≤ x ∧ x ≤ 7) : lk x ms = (match l[x.toNat]? with | some s => s | none => none) := by
  have := h.get x.toNat (by omega)
  rwa [show ((x.toNat : Nat) : Int) = x from by omega] at this
section
variable {X : Ctx} {st : St} {K : St → Prop} {E : AV → St → Prop} {d : Nat} {ty : TypeId} {pos : String} {aft : Array Edge} {g : Option (Nat × Bool)}
theorem x_map {T : TypeId} {st' : St} (hd : d < X.n := by first | (simp; done) | fail) (hs : mpSt d st = st' := by simp [fx, mpSt]; first | done | rfl) (h : K st') : SemOp X ⟨some d, .makeMap T none, ty, pos, aft, g⟩ K E st := by
  subst hs
  exact sem_map rfl rfl hd h
theorem x_mapUpdate {T e : TypeId} {m key x : Operand} {k : IntKind} {i : Int} {n : Nm} {es : List (AV × AV)} {st' : St} (ht : tmapI X.P T = some (k, e) := by simp [fx]; first | done | rfl | exact ⟨rfl, rfl⟩)
    (hm : ev st m = .mp n := by simp [fx]; first | done | rfl) (hk : ev st key = .sc (.int k i) := by simp [fx]; first | done | rfl) (hn : st.hp n = some (.map es) := by simp [fx]; first | done | rfl) (hks : mkeys k es = true := by simp [fx]; first | done | rfl)
    (hs : st.setO n (.map (mset k i (ev st x) es)) = st' := by simp [fx]; first | done | rfl) (h : K st') : SemOp X ⟨none, .mapUpdate T m key x, ty, pos, aft, g⟩ K E st := by
  subst hs
  exact sem_mapUpdate (.inl rfl) rfl ht hm hk hn hks h
end
abbrev Mn : Nm := .u 1 0 0
abbrev En (i : Nat) : Nm := .u 7 i 0
abbrev ptE (i : Nat) : AV := .pt (En i) 0
def erows (l : List Nat) : List (List AV) := l.map fun i => [ptE i]
def Du (f : Nat → Bool) : Nm → Bool
  | .s _ => false
  | .u k _ _ => f k
  | .c n _ _ => Du f n
section
variable {f : Nat → Bool} {n : Nm} {k i j d : Nat}
@[simp] theorem Du_s : Du f (.s d) = false := rfl
@[simp] theorem Du_u : Du f (.u k i j) = f k := rfl
@[simp] theorem Du_c : Du f (.c n i j) = Du f n := rfl
theorem Du_root : ∀ {n : Nm}, Du f n = true → n.sroot = false := by
  intro n
  induction n with
  | s d => intro h; cases h
  | u a b c => intro _; rfl
  | c q i j ih => intro h; exact ih h
end
section
variable {X : Ctx} {st : St} {K : St → Prop} {E : AV → St → Prop} {d f : Nat} {ty : TypeId} {pos : String} {aft : Array Edge} {g : Option (Nat × Bool)} {c : Operand} {args : Array Operand} {Ts : Array TypeId} {xs ys az : List AV} {R : Nm → AV → (Nm → Option AO) → Prop}
theorem x_mutDv (D : Nm → Bool) (hD : ∀ n, D n = true → n.sroot = false) (hext : ∀ k i j, X.ext (.u k i j) = true → D (.u k i j) = false ∨ (dsub D st.hp) (.u k i j) ≠ none) (hd : d < X.n := by first | (simp; done) | fail)
    (hv : ev st c = .fn (.func f) xs ys) (ha : xs ++ args.toList.map (ev st) ++ ys = az)
    (hF : FnE X.P X.gl f D az (dsub D st.hp) R noE) (h : ∀ y H', R (.s d) y H' → K ((st.call d D (dsub D st.hp) H').put (some d) y)) :
    SemOp X ⟨some d, .call ⟨.value c, args, Ts⟩, ty, pos, aft, g⟩ K E st := by
  subst ha
  refine call_sem (D := D) (H := dsub D st.hp) (R := R) (E0 := noE) hF (ent_val hF.1 rfl hv) false ⟨rfl, fun j a a' h h' => ?_⟩ (fun n hn => ?_) (fun n hn => ?_) (fun n hn => ?_) hext (fun e he => by obtain rfl := Option.some.inj he; exact hd) (fun x H' hR => ?_) (fun _ _ h => h.elim)
  · rw [h] at h'
    obtain rfl := Option.some.inj h'
    exact .refl _
  · cases hx : D n with
    | false => rfl
    | true =>
      have h1 := hD n hx
      have h2 := Nm.sroot_under (a := .s d) rfl hn
      rw [h1] at h2
      cases h2
  · simp [hn]
  · simp only [dsub] at hn
    split at hn
    · assumption
    · exact absurd rfl hn
  · exact h x H' hR
end
end Go.Hm
end
section
set_option linter.unusedSectionVars false
namespace Go.Hm
open Go Go.RowKit
structure Pre (q : Bool) (w w' : Wld) : Prop where
  funs : w.funs <+: w'.funs
  cls : w.classes <+: w'.classes
  out : w.out <+: w'.out
  tr : w.trace <+: w'.trace
  left : q = true → w'.left ≤ w.left
theorem Pre.refl {q : Bool} (w : Wld) : Pre q w w := ⟨List.prefix_refl _, List.prefix_refl _, List.prefix_refl _, List.prefix_refl _, fun _ => Nat.le_refl _⟩
theorem Pre.trans {q : Bool} {w w' w'' : Wld} (h : Pre q w w') (h' : Pre q w' w'') : Pre q w w'' := ⟨h.funs.trans h'.funs, h.cls.trans h'.cls, h.out.trans h'.out, h.tr.trans h'.tr, fun e => Nat.le_trans (h'.left e) (h.left e)⟩
theorem Pre.weak {q : Bool} {w w' : Wld} (h : Pre q w w') : Pre false w w' := ⟨h.funs, h.cls, h.out, h.tr, fun e => by cases e⟩
theorem Pre.en {q : Bool} {w w' : Wld} (h : Pre q w w') {e : Int} : Pre q w { w' with en := e } := ⟨h.funs, h.cls, h.out, h.tr, h.left⟩
theorem Pre.set {q : Bool} {w : Wld} {l : Option Nat} {x : Int} {s : Slt} : Pre q w (w.set l x s) := by cases l <;> exact ⟨List.prefix_refl _, List.prefix_refl _, List.prefix_refl _, List.prefix_refl _, fun _ => Nat.le_refl _⟩
section
variable {p : Prg} {R : Wld → Nat → Wld × Val} {w : Wld} {a b i : Nat} {x : Int} {vs : List Val} {s : Stm} {v : Val} {q : Bool}
variable (hR : ∀ w a, Pre q w (R w a).1)
include hR
end
def addF (k : Nat) (w : Wld) : Wld := { w with left := w.left + k }
structure Lock2 (k : Nat) (w w' : Wld) : Prop where
  en : w.en = 1
  left : w.left = 0
  pre : Pre false w w'
  more : 0 < k → w.trace.length < w'.trace.length
theorem Lock2.trans {k : Nat} {w w' w'' : Wld} (h : Lock2 k w w') {q : Bool} (h' : Pre q w' w'') : Lock2 k w w'' := ⟨h.en, h.left, h.pre.trans h'.weak, fun hk => Nat.lt_of_lt_of_le (h.more hk) h'.tr.length_le⟩
def Lock (k : Nat) (r r' : Wld × Val) : Prop := (r.1.en ≠ 1 ∧ r' = (addF k r.1, r.2)) ∨ Lock2 k r.1 r'.1
section
variable {p : Prg} {R : Wld → Nat → Wld × Val} {k n : Nat} {w : Wld} {a b i : Nat} {x : Int} {l : Option Nat} {vs : List Val} {s : Stm} {v : Val}
@[simp] theorem addF_loc : (addF k w).loc p a x = w.loc p a x := rfl
@[simp] theorem addF_blk : (addF k w).blk a = w.blk a := rfl
@[simp] theorem addF_en : (addF k w).en = w.en := rfl
variable (hP : ∀ w a, Pre true w (R w a).1) (hR : ∀ w a, w.left + k < n → w.en = 0 → Lock k (R w a) (R (addF k w) a))
include hP hR
end
end Go.Hm
end
section
namespace Go.Hm
open Go Go.RowKit
def stpAt (p : Prg) (t : Nat × Nat) : Option Stm := match p[t.1]? with | some k => k.body[t.2]? | none => none
def stpK (p : Prg) (t : Nat × Nat) : Int := match stpAt p t with | some s => s.kind | none => -1
def cntK (p : Prg) (d : Int) (tr : List (Nat × Nat)) : Nat := tr.countP fun t => stpK p t == d
def bndG (p : Prg) (x : Int) : Prop := ∃ (b : Nat) (k : Blk), p[b]? = some k ∧ x ∈ k.bd ∧ owner p b x = -1
theorem cntK_app {p : Prg} {d : Int} {l m : List (Nat × Nat)} : cntK p d (l ++ m) = cntK p d l + cntK p d m := by simp [cntK]
theorem cntK_one {p : Prg} {d : Int} {t : Nat × Nat} : cntK p d [t] = if stpK p t = d then 1 else 0 := by
  by_cases h : stpK p t = d <;> simp [cntK, h]
structure Led (p : Prg) (a b c : Nat) (w w' : Wld) : Prop where
  fns : w'.funs.length + cntK p 3 w.trace = w.funs.length + cntK p 3 w'.trace + a
  cls : w'.classes.length + cntK p 4 w.trace ≤ w.classes.length + cntK p 4 w'.trace + b
  out : w'.out.length + cntK p 7 w.trace = w.out.length + cntK p 7 w'.trace + c ∨ (w'.out.length + 1 + cntK p 7 w.trace = w.out.length + cntK p 7 w'.trace + c ∧ 2 ≤ w'.en ∧ w'.en ≤ 4)
  tr : ∀ t ∈ w'.trace, t ∈ w.trace ∨ (stpAt p t).isSome = true
  glob : ∀ (x : Nat) v, w'.globals[x]? = some (some v) → (∃ u, w.globals[x]? = some (some u)) ∨ bndG p x
theorem Led.refl {p : Prg} (w : Wld) : Led p 0 0 0 w w := ⟨rfl, Nat.le_refl _, .inl rfl, fun _ h => .inl h, fun _ v h => .inl ⟨v, h⟩⟩
theorem Led.en {p : Prg} {c : Nat} {w : Wld} {e : Int} (h : c = 0 ∨ (c = 1 ∧ 2 ≤ e ∧ e ≤ 4)) : Led p 0 0 c w { w with en := e } := by
  refine ⟨rfl, Nat.le_refl _, ?_, fun _ h => .inl h, fun _ v h => .inl ⟨v, h⟩⟩
  rcases h with rfl | ⟨rfl, h1, h2⟩
  · exact .inl rfl
  · refine .inr ⟨?_, h1, h2⟩
    show w.out.length + 1 + cntK p 7 w.trace = w.out.length + cntK p 7 w.trace + 1
    omega
theorem Led.trans {p : Prg} {a b c a' b' c' : Nat} {w w' w'' : Wld} (h : Led p a b c w w') (h0 : w'.en = 0) (h' : Led p a' b' c' w' w'') : Led p (a + a') (b + b') (c + c') w w'' := by
  refine ⟨?_, ?_, ?_, fun t ht => ?_, fun x v hx => ?_⟩
  · have := h.fns; have := h'.fns; omega
  · have := h.cls; have := h'.cls; omega
  · rcases h.out with e | ⟨_, e, _⟩
    · rcases h'.out with e' | ⟨e', e2⟩
      · left; omega
      · right; exact ⟨by omega, e2⟩
    · rw [h0] at e; exact absurd e (by decide)
  · rcases h'.tr t ht with e | e
    · exact h.tr t e
    · exact .inr e
  · rcases h'.glob x v hx with ⟨u, e⟩ | e
    · exact h.glob x u e
    · exact .inr e
theorem Led.zero {p : Prg} {a b c : Nat} {w w' : Wld} (h : Led p (a + 0) (b + 0) (c + 0) w w') : Led p a b c w w' := h
theorem lack_rng {p : Prg} {b : Nat} {o : Int} : 2 ≤ lack p b o ∧ lack p b o ≤ 4 := by unfold lack; (repeat' split) <;> decide
theorem loadW_end {p : Prg} {w : Wld} {a : Nat} {x : Int} : (loadW p w a x).1 = w ∨ ∃ e, 2 ≤ e ∧ e ≤ 4 ∧ (loadW p w a x).1 = { w with en := e } := by
  unfold loadW
  repeat' split
  all_goals first | exact .inl rfl | exact .inr ⟨4, by decide, by decide, rfl⟩ | exact .inr ⟨_, lack_rng.1, lack_rng.2, rfl⟩
theorem loadsW_end {p : Prg} {a : Nat} : ∀ {l : List Int} {w : Wld}, (loadsW p w a l).1 = w ∨ ∃ e, 2 ≤ e ∧ e ≤ 4 ∧ (loadsW p w a l).1 = { w with en := e }
  | [], w => .inl rfl
  | x :: l, w => by
    simp only [loadsW]
    split
    · exact .inl rfl
    · rcases loadW_end (p := p) (w := w) (a := a) (x := x) with h | ⟨e, h1, h2, h⟩
      · rw [h]
        exact loadsW_end
      · rw [h]
        have : (loadsW p { w with en := e } a l).1 = { w with en := e } := by
          cases l with
          | nil => rfl
          | cons y l =>
            simp only [loadsW]
            rw [if_pos (show e ≠ 0 from by omega)]
        rw [this]
        exact .inr ⟨e, h1, h2, rfl⟩
section
variable {p : Prg} {R : Wld → Nat → Wld × Val} {n : Nat} {w : Wld} {a b i : Nat} {x : Int} {vs : List Val} {s : Stm} {v : Val} {k : Blk}
theorem plusW_led {u : Val} : Led p 0 0 0 w (plusW w v u).1 := by
  unfold plusW
  split
  · exact .en (.inl rfl)
  · exact .refl w
theorem attrW_led : Led p 0 0 0 w (attrW w v x).1 := by
  unfold attrW
  repeat' split
  all_goals first | exact .refl w | exact .en (.inl rfl)
theorem setW_led {sl : Slt} (hx : 0 ≤ x) (hn : w.loc p a x = none → sl ≠ none → bndG p x) : Led p 0 0 0 w (w.set (w.loc p a x) x sl) := by
  obtain ⟨e1, e2, e3, e4, e5, e6, e7⟩ := set_same (w := w) (l := w.loc p a x) (x := x) (s := sl)
  refine ⟨by rw [e1, e4]; rfl, by rw [e2, e4]; exact Nat.le_refl _, .inl (by rw [e3, e4]; rfl), fun t ht => .inl (by rwa [e4] at ht), fun y v hy => ?_⟩
  cases hl : w.loc p a x with
  | some j =>
    rw [hl] at hy
    exact .inl ⟨v, hy⟩
  | none =>
    rw [hl] at hy
    simp only [Wld.set, List.getElem?_set] at hy
    split at hy
    · rename_i e
      split at hy
      · have hs' : sl = some v := by simpa using hy
        right
        rw [show ((y : Nat) : Int) = x from by omega]
        exact hn hl (by rw [hs']; simp)
      · cases hy
    · exact .inl ⟨v, hy⟩
def RunLed (p : Prg) (n : Nat) (R : Wld → Nat → Wld × Val) : Prop := ∀ (w : Wld) (a : Nat), WOk p w → w.left < n → a < w.acts.length → w.en = 0 → Led p 0 0 0 w (R w a).1
theorem endW_led {w' : Wld} (h : Led p 0 0 0 w w') : Led p 0 0 0 w (endW w') := by
  unfold endW
  split
  · exact ⟨h.fns, h.cls, h.out, h.tr, h.glob⟩
  · exact h
theorem enterW_led (hL : RunLed p n R) (h : WOk p w) (hn : w.left < n) (h0 : w.en = 0) (hm : madeAt p w.acts b a) (hv : ∀ v ∈ vs, VOk w.funs.length w.classes.length v) (hr : Room 1 w) : Led p 0 0 0 w (enterW p R w b a vs).1 := by
  have h1 := hL (beginW p w b a vs) w.acts.length (beginW_ok h hm hv hr).1 hn (by simp [beginW]) h0
  have h2 : Led p 0 0 0 w (R (beginW p w b a vs) w.acts.length).1 := ⟨h1.fns, h1.cls, h1.out, h1.tr, h1.glob⟩
  exact endW_led h2
theorem callW_led (hL : RunLed p n R) (h : WOk p w) (hn : w.left < n) (h0 : w.en = 0) (hv : ∀ v ∈ vs, VOk w.funs.length w.classes.length v) (hr : Room 1 w) : Led p 0 0 0 w (callW p R w v vs).1 := by
  unfold callW
  split
  · exact .en (.inl rfl)
  · split
    · rename_i g hg
      split
      · exact .en (.inl rfl)
      · exact enterW_led hL h hn h0 (h.funs _ g hg) hv hr
    · exact .refl w
theorem classW_led (hL : RunLed p n R) (h : WOk p w) (hn : w.left < n) (h0 : w.en = 0) (hm : madeAt p w.acts b a) (hr : Room 1 w) : Led p 0 1 0 w (classW p R w b a).1 := by
  have h1 := enterW_led (vs := []) hL h hn h0 hm (fun v hv => by simp at hv) hr
  have hc := h1.cls
  unfold classW
  split
  · exact ⟨h1.fns, by simp only; omega, h1.out, h1.tr, h1.glob⟩
  · exact ⟨h1.fns, by simp only [List.length_append, List.length_singleton]; omega, h1.out, h1.tr, h1.glob⟩
theorem stm_made (h : StmOk p (w.blk a) k s = true) (ha : a < w.acts.length) (e : s.kind = 3 ∨ s.kind = 4) : madeAt p w.acts s.a.toNat a := by
  obtain ⟨c, hc⟩ : ∃ c, w.acts[a]? = some c := ⟨_, gE ha⟩
  obtain ⟨q, h1, h2, h3, _⟩ := StmOk.made h e
  exact ⟨c, q, hc, h1, by rw [h2, blk_at hc], by omega⟩
def one (b : Prop) [Decidable b] : Nat := if b then 1 else 0
theorem workW_led (hL : RunLed p n R) (h : WOk p w) (hn : w.left < n) (h0 : w.en = 0) (ha : a < w.acts.length) (hs : StmOk p (w.blk a) k s = true) (hv : ∀ v ∈ vs, VOk w.funs.length w.classes.length v) (hr : Room 2 w) :
    Led p (one (s.kind = 3)) (one (s.kind = 4)) 0 w (workW p R w a s vs).1 := by
  unfold workW
  split
  · rename_i e; simp only [one, e]; exact .refl w
  · split
    · rename_i e; simp only [one, e]; exact plusW_led
    · split
      · rename_i e
        simp only [one, e]
        exact ⟨by simp only [List.length_append, List.length_singleton]; simp; omega, by simp, .inl rfl, fun _ h => .inl h, fun _ v h => .inl ⟨v, h⟩⟩
      · rename_i e3
        split
        · rename_i e
          simp only [one, e]
          exact classW_led hL h hn h0 (stm_made hs ha (.inr e)) (hr.mono (by omega))
        · rename_i e4
          simp only [one, e3, e4, if_false]
          split
          · exact callW_led hL h hn h0 (fun v hv' => hv v (List.mem_of_mem_tail hv')) (hr.mono (by omega))
          · split
            · exact attrW_led
            · exact .refl w
theorem loc_none (hh : Heads p) (h : WOk p w) (ha : a < w.acts.length) (e : w.loc p a x = none) : owner p (w.blk a) x = -1 := by
  rcases loc_spec (x := x) hh h ha with h1 | ⟨o, i, c, _, _, h2, _⟩
  · exact h1.1
  · rw [h2] at e; cases e
theorem to_bd (hn : NmOk k) (hs : s ∈ k.body) (h : s.sets ∨ s.kind = 11) : s.to ∈ k.bd := by
  have h1 := hn.tos s hs
  simp only [mem_sorted, Blk.bd, boundAll, List.mem_append, List.mem_map, List.mem_filter, decide_eq_true_eq]
  exact ⟨.inr ⟨s, ⟨hs, h⟩, rfl⟩, h1⟩
theorem stmW_led (hp : ShapeP p) (hR : RunOk p n R) (hL : RunLed p n R) (h : WOk p w) (hn : w.left < n) (h0 : w.en = 0) (ha : a < w.acts.length) (hk : p[w.blk a]? = some k) (hsk : s ∈ k.body) (h8 : ¬ s.kind = 8) (hr : Room 2 w) :
    Led p (one (s.kind = 3)) (one (s.kind = 4)) (one (s.kind = 7)) w (stmW p R w a s) := by
  have hs := hp.stm _ k hk s hsk
  have hnm := hp.names k (List.mem_of_getElem? hk)
  have hx := hnm.tos s hsk
  have hkd := StmOk.kind hs
  unfold stmW
  split
  · rename_i e
    have e3 : ¬ s.kind = 3 := by omega
    have e4 : ¬ s.kind = 4 := by omega
    have e7 : ¬ s.kind = 7 := by omega
    simp only [one, e3, e4, e7, if_false]
    exact .refl w
  · split
    · rename_i e
      have e3 : ¬ s.kind = 3 := by omega
      have e4 : ¬ s.kind = 4 := by omega
      have e7 : ¬ s.kind = 7 := by omega
      simp only [one, e3, e4, e7, if_false]
      unfold takeW
      split
      · exact setW_led hx.1 (fun _ hne => absurd rfl hne)
      · exact .en (.inl rfl)
    · rename_i e9 e11
      obtain ⟨hl1, hl2, _⟩ := loadsW_ok (a := a) (l := s.reads) h
      obtain ⟨_, hvv⟩ := valueW_ok hR h hn h0 ha hs hr
      unfold valueW at hvv ⊢
      have hne0 : ¬ w.en ≠ 0 := by rw [h0]; decide
      rcases loadsW_end (p := p) (w := w) (a := a) (l := s.reads) with hl | ⟨e, he1, he2, hl⟩
      · rw [hl] at hvv ⊢
        rw [if_neg hne0] at hvv ⊢
        have hw := workW_led (s := s) (vs := (loadsW p w a s.reads).2) hL h hn h0 ha hs hl2 hr
        by_cases e7 : s.kind = 7
        · have e3 : ¬ s.kind = 3 := by omega
          have e4 : ¬ s.kind = 4 := by omega
          have hid : workW p R w a s (loadsW p w a s.reads).2 = (w, (loadsW p w a s.reads).2.getD 0 (0, 0)) := by simp [workW, e7]
          rw [hid]
          simp only [one, e7]
          rw [if_neg hne0]
          exact ⟨rfl, Nat.le_refl _, .inl (by simp; omega), fun _ h => .inl h, fun _ v h => .inl ⟨v, h⟩⟩
        · have o7 : one (s.kind = 7) = 0 := by simp [one, e7]
          rw [o7]
          split
          · exact hw
          · rename_i he
            have he0 : (workW p R w a s (loadsW p w a s.reads).2).1.en = 0 := by simpa using he
            try rw [if_neg e7]
            obtain ⟨w1, hw1⟩ : ∃ w1, (workW p R w a s (loadsW p w a s.reads).2).1 = w1 := ⟨_, rfl⟩
            have hok := workW_ok hR h hn h0 ha hs hl2 hr
            rw [hw1] at hw he0 hok ⊢
            obtain ⟨c, hc⟩ : ∃ c, w.acts[a]? = some c := ⟨_, gE ha⟩
            have hb1 := hok.1.grow.blk hc
            have ha1 : a < w1.acts.length := Nat.lt_of_lt_of_le ha hok.1.grow.lacts
            have hset : s.sets := ⟨hkd.1, by omega⟩
            refine hw.trans he0 (setW_led (p := p) (w := w1) (a := a) hx.1 (fun hl _ => ?_))
            have := loc_none hp.heads hok.1.ok ha1 hl
            rw [hb1] at this
            exact ⟨w.blk a, k, hk, to_bd hnm hsk (.inl hset), this⟩
      · have hne : ¬ e = 0 := by omega
        rw [hl]
        rw [if_pos (show ({ w with en := e } : Wld).en ≠ 0 from hne)]
        rw [if_pos (show (({ w with en := e }, ((0, 0) : Val)) : Wld × Val).1.en ≠ 0 from hne)]
        have hrd : s.reads ≠ [] := by
          intro hnil
          rw [hnil] at hl
          have := congrArg Wld.en hl
          simp only [loadsW] at this
          omega
        have e3 : ¬ s.kind = 3 := fun e => hrd (by simp [Stm.reads, e])
        have e4 : ¬ s.kind = 4 := fun e => hrd (by simp [Stm.reads, e])
        simp only [one, e3, e4, if_false]
        refine .en ?_
        by_cases e7 : s.kind = 7
        · right; rw [if_pos e7]; exact ⟨rfl, he1, he2⟩
        · left; rw [if_neg e7]
theorem tick_led {w' : Wld} {i : Nat} (hk : p[w.blk a]? = some k) (hi : k.body[i]? = some s) {x3 x4 x7 : Nat} (h : Led p x3 x4 x7 (tickW w a i) w') (h3 : x3 = one (s.kind = 3)) (h4 : x4 ≤ one (s.kind = 4)) (h7 : x7 = one (s.kind = 7)) : Led p 0 0 0 w w' := by
  have hst : stpAt p (w.blk a, i) = some s := by simp [stpAt, hk, hi]
  have hsk : stpK p (w.blk a, i) = s.kind := by simp [stpK, hst]
  have key : ∀ d, cntK p d (tickW w a i).trace = cntK p d w.trace + one (s.kind = d) := fun d => by
    simp only [tickW, cntK_app, cntK_one, hsk, one]
  have k3 := key 3
  have k4 := key 4
  have k7 := key 7
  obtain ⟨f1, f2, f3, f4, f5⟩ := h
  have g1 : (tickW w a i).funs = w.funs := rfl
  have g2 : (tickW w a i).classes = w.classes := rfl
  have g3 : (tickW w a i).out = w.out := rfl
  rw [g1] at f1
  rw [g2] at f2
  rw [g3] at f3
  refine ⟨by omega, by omega, ?_, fun t ht => ?_, f5⟩
  · rcases f3 with f3 | ⟨f3, f6⟩
    · left; omega
    · right; exact ⟨by omega, f6⟩
  · rcases f4 t ht with e | e
    · simp only [tickW, List.mem_append, List.mem_singleton] at e
      rcases e with e | e
      · exact .inl e
      · right; rw [e, hst]; rfl
    · exact .inr e
theorem bodyW_led (hp : ShapeP p) (hR : RunOk p n R) (hL : RunLed p n R) {l : List Stm} : ∀ {w : Wld} {i : Nat}, WOk p w → w.left < n + 1 → w.en = 0 → a < w.acts.length → p[w.blk a]? = some k → k.body.drop i = l → Led p 0 0 0 w (bodyW p R a w i l).1 := by
  induction l with
  | nil => intro w i _ _ _ _ _ _; exact .refl w
  | cons s l ih =>
    intro w i h hn h0 ha hk hd
    have hi : k.body[i]? = some s := by
      have := congrArg (·[0]?) hd
      simpa using this
    have hd2 : k.body.drop (i + 1) = l := by
      have := congrArg (List.drop 1) hd
      simpa [List.drop_drop, Nat.add_comm] using this
    have hsk := List.mem_of_getElem? hi
    simp only [bodyW]
    split
    · exact .en (.inl rfl)
    · rename_i hl
      obtain ⟨t1, t2⟩ := tickW_ok (a := a) (i := i) h hl
      have tn : (tickW w a i).left < n := by simp only [tickW]; omega
      split
      · rename_i e8
        have e3 : ¬ s.kind = 3 := by omega
        have e7 : ¬ s.kind = 7 := by omega
        refine tick_led hk hi (x3 := 0) (x4 := 0) (x7 := 0) ?_ (by simp [one, e3]) (by omega) (by simp [one, e7])
        rcases loadW_end (p := p) (w := tickW w a i) (a := a) (x := s.a) with e | ⟨e, _, _, e'⟩
        · rw [e]; exact .refl _
        · rw [e']; exact .en (.inl rfl)
      · rename_i e8
        have hst := stmW_led hp hR hL t1 tn h0 ha hk hsk e8 t2
        have hok := stmW_ok hR t1 tn h0 ha (hp.stm _ k hk s hsk) t2
        have hT := tick_led hk hi hst rfl (Nat.le_refl _) rfl
        split
        · exact hT
        · rename_i he
          have he0 : (stmW p R (tickW w a i) a s).en = 0 := by simpa using he
          have hA := hok.tick hl
          obtain ⟨c, hc⟩ : ∃ c, w.acts[a]? = some c := ⟨_, gE ha⟩
          have hb := hA.grow.blk hc
          exact hT.trans he0 (ih hA.ok (by have := hA.grow.left; omega) he0 (Nat.lt_of_lt_of_le ha hA.grow.lacts) (by rw [hb]; exact hk) hd2)
end
theorem runW_led {p : Prg} (hp : ShapeP p) : ∀ n, RunLed p n (runW p n)
  | 0 => fun w a _ h => absurd h (by omega)
  | n + 1 => by
    intro w a h hn ha h0
    obtain ⟨c, hc⟩ : ∃ c, w.acts[a]? = some c := ⟨_, gE ha⟩
    have hb := h.blks a c hc
    obtain ⟨k, hk⟩ : ∃ k, p[c.blk]? = some k := ⟨_, gE hb⟩
    simp only [runW]
    rw [blk_at hc, hk]
    exact bodyW_led hp (runW_ok hp n) (runW_led hp n) (k := k) h hn h0 ha (by rw [blk_at hc]; exact hk) rfl
theorem meantW_led {p : Prg} (hp : ShapeP p) {f : Nat} (hf : f ≤ 150) : Led p 0 0 0 (startW f) (meantW p f) :=
  runW_led hp 151 (startW f) 0 (startW_ok hp hf) (by simp [startW]; omega) (by simp [startW]) rfl
section
variable {X : Ctx} {st : St} {K : St → Prop} {E : AV → St → Prop} {d f : Nat} {ty : TypeId} {pos : String} {aft : Array Edge} {g : Option (Nat × Bool)} {args : Array Operand} {Ts : Array TypeId} {az : List AV} {R : Nm → AV → (Nm → Option AO) → Prop}
theorem x_mut12 (h1 : (st.hp (.u 1 0 0)).isSome = true) (h2 : (st.hp (.u 2 0 0)).isSome = true) (hd : d < X.n := by first | (simp; done) | fail) (ha : args.toList.map (ev st) = az := by simp [fx]; first | done | rfl)
    (hF : FnE X.P X.gl f D12 az (dsub D12 st.hp) R noE) (h : ∀ y H', R (.s d) y H' → K ((st.call d D12 (dsub D12 st.hp) H').put (some d) y)) :
    SemOp X ⟨some d, .call ⟨.value (.func f), args, Ts⟩, ty, pos, aft, g⟩ K E st := by
  refine x_mutD (az := az) D12 (fun n h => D12_root h) (fun k i j he => ?_) hd ha hF h
  by_cases hu : Nm.u k i j = .u 1 0 0
  · right
    rw [hu]
    simp
    exact Option.isSome_iff_ne_none.1 h1
  · by_cases hu2 : Nm.u k i j = .u 2 0 0
    · right
      rw [hu2]
      simp
      exact Option.isSome_iff_ne_none.1 h2
    · left
      simp at hu hu2
      simp only [D12_eq, Nm.under, Bool.or_eq_false_iff, decide_eq_false_iff_not]
      refine ⟨fun e => ?_, fun e => ?_⟩
      · injection e with e1 e2 e3
        exact hu e1 e2 e3
      · injection e with e1 e2 e3
        exact hu2 e1 e2 e3
end
structure ValP (p : Prg) : Prop where
  sh : ShapeP p
  pm : ∀ (b : Nat) k, p[b]? = some k → ∀ x ∈ k.params, owner p b x = b
theorem ValP.of {p : Prg} (hs : Sml p) (h : progOk p = true) : ValP p := by
  simp only [progOk, Bool.and_eq_true] at h
  have hp := ShapeP.of hs h.1
  refine ⟨hp, fun b k hk x hx => ?_⟩
  have hkm := List.mem_of_getElem? hk
  have hxr := (hp.names k hkm).params x hx
  have hb0 : 0 < b := by
    cases b with
    | zero =>
      have := hp.head 0 k hk
      simp only [HeadOk, if_true] at this
      rw [List.eq_nil_of_length_eq_zero this.2.2] at hx
      cases hx
    | succ b => omega
  have hd := List.all_eq_true.1 h.2 b (List.mem_range.2 (gS hk).1)
  have hbn : (b == 0) = false := by simp; omega
  rw [hbn, Bool.false_or] at hd
  simp only [declsOk, hk] at hd
  have hdx := List.all_eq_true.1 hd x.toNat (List.mem_range.2 (by omega))
  rw [show ((x.toNat : Nat) : Int) = x from by omega] at hdx
  have h9 : x ∉ k.dc 9 := fun e => by simp [declOk, e, hx] at hdx
  have h10 : x ∉ k.dc 10 := fun e => by simp [declOk, e, hx] at hdx
  have hbd : x ∈ k.bd := by
    simp only [mem_sorted, Blk.bd, boundAll, List.mem_append]
    exact ⟨.inl hx, hxr⟩
  exact owner_self hk (by simp [isLocal, hb0, hbd, h9, h10]) h9
def begI (p : Prg) (w : Wld) (b up : Nat) (vs : List Val) (i : Nat) : Wld :=
  { w with acts := w.acts ++ [⟨b, up, bindP ((match p[b]? with | some k => k.params | none => []).take i) (vs.take i)⟩], stack := w.stack ++ [w.acts.length] }
theorem begI_all {p : Prg} {w : Wld} {b up i : Nat} {vs : List Val} (hi : parN p b ≤ i) (hv : vs.length ≤ i) : begI p w b up vs i = beginW p w b up vs := by
  unfold begI beginW parN at *
  rw [List.take_of_length_le hv]
  cases hk : p[b]? with
  | none => simp
  | some k => rw [hk] at hi; simp only at hi ⊢; rw [List.take_of_length_le hi]
theorem begI_ok {p : Prg} {w : Wld} {b up i : Nat} {vs : List Val} (h : WOk p w) (hm : madeAt p w.acts b up) (hv : ∀ v ∈ vs, VOk w.funs.length w.classes.length v) (hr : Room 1 w) : WOk p (begI p w b up vs i) := by
  have h0 := (beginW_ok h hm hv hr).1
  have key : ∀ (j : Nat) a, (begI p w b up vs i).acts[j]? = some a → ∃ a', (beginW p w b up vs).acts[j]? = some a' ∧ a'.blk = a.blk ∧ a'.up = a.up ∧ (a.vars = a'.vars ∨ SOk w.funs.length w.classes.length a.vars) := by
    intro j a ha
    simp only [begI] at ha
    simp only [beginW]
    rcases Nat.lt_or_ge j w.acts.length with hlt | hge
    · rw [List.getElem?_append_left hlt] at ha ⊢
      exact ⟨a, ha, rfl, rfl, .inl rfl⟩
    · rw [List.getElem?_append_right hge] at ha ⊢
      have : j = w.acts.length := by
        have := (gS ha).1
        simp at this
        omega
      subst this
      simp at ha
      subst ha
      refine ⟨⟨b, up, bindP (match p[b]? with | some k => k.params | none => []) vs⟩, (by simp; rfl), rfl, rfl, .inr (bindP_ok fun v hv' => hv v (List.mem_of_mem_take hv'))⟩
  have mk : ∀ {c j : Nat}, madeAt p (beginW p w b up vs).acts c j → madeAt p (begI p w b up vs i).acts c j := by
    rintro c j ⟨a, k, h1, h2, h3, h4⟩
    have hj := (gS h1).1
    obtain ⟨a', ha'⟩ : ∃ a', (begI p w b up vs i).acts[j]? = some a' := ⟨_, gE (by simpa [begI, beginW] using hj)⟩
    obtain ⟨a2, e1, e2, _⟩ := key j a' ha'
    rw [h1] at e1
    obtain rfl := Option.some.inj e1
    exact ⟨a', k, ha', h2, by rw [← e2]; exact h3, h4⟩
  refine ⟨?_, fun j a ha => ?_, fun j a ha => ?_, fun j a ha hj => ?_, h0.glob, fun j g hg => mk (h0.funs j g hg), h0.cls, fun j hj => by simpa [begI, beginW] using h0.stk j hj, by simpa [begI, beginW] using h0.nacts, h0.nfuns, h0.ncls, h0.nout, h0.ntr, by simpa [begI, beginW] using h0.nstk, h0.outr, h0.enr⟩
  · obtain ⟨a, ha, hb⟩ := h.a0
    have hl := (gS ha).1
    exact ⟨a, by simp only [begI]; rw [List.getElem?_append_left hl]; exact ha, hb⟩
  · obtain ⟨a', e1, e2, e3, e4⟩ := key j a ha
    rcases e4 with e4 | e4
    · rw [e4]; exact h0.vars j a' e1
    · exact e4
  · obtain ⟨a', e1, e2, e3, e4⟩ := key j a ha
    rw [← e2]; exact h0.blks j a' e1
  · obtain ⟨a', e1, e2, e3, e4⟩ := key j a ha
    obtain ⟨f1, f2⟩ := h0.up j a' e1 hj
    rw [← e2, ← e3]
    exact ⟨f1, mk f2⟩
theorem begI_store {p : Prg} {w : Wld} {b up i : Nat} {k : Blk} {x : Int} {v : Val} {vs : List Val} (hp : ValP p) (hk : p[b]? = some k) (hx : k.params[i]? = some x) (hv : vs[i]? = some v) : storeW p (begI p w b up vs i) w.acts.length x v = begI p w b up vs (i + 1) := by
  have hat : (begI p w b up vs i).acts[w.acts.length]? = some ⟨b, up, bindP (k.params.take i) (vs.take i)⟩ := by simp [begI, hk]
  have ho := hp.pm b k hk x (List.mem_of_getElem? hx)
  have hloc : (begI p w b up vs i).loc p w.acts.length x = some w.acts.length := by
    have hnl : ¬ (b : Int) < 0 := by omega
    simp only [Wld.loc, blk_at hat, ho, hnl, if_false, Int.toNat_natCast]
    rw [climb_here hat rfl]
  have hi := (gS hx).1
  have hj := (gS hv).1
  have ht : bindP (k.params.take (i + 1)) (vs.take (i + 1)) = (bindP (k.params.take i) (vs.take i)).set x.toNat (some v) := by
    unfold bindP
    rw [List.take_add_one, List.take_add_one, hx, hv]
    simp only [Option.toList_some]
    rw [List.zip_append (by simp; omega)]
    simp
  unfold storeW
  rw [hloc]
  simp only [Wld.set, begI, hk]
  rw [ht]
  congr 1
  apply List.ext_getElem?
  intro j
  simp only [List.getElem?_modify]
  rcases Nat.lt_or_ge j w.acts.length with hlt | hge
  · have : ¬ w.acts.length = j := by omega
    rw [List.getElem?_append_left hlt, List.getElem?_append_left hlt]
    simp [this]
  · rw [List.getElem?_append_right hge, List.getElem?_append_right hge]
    by_cases e : w.acts.length = j
    · subst e; simp
    · have : [({ blk := b, up := up, vars := bindP (k.params.take i) (vs.take i) } : Act)][j - w.acts.length]? = none := List.getElem?_eq_none (by simp; omega)
      have h2 : [({ blk := b, up := up, vars := (bindP (k.params.take i) (vs.take i)).set x.toNat (some v) } : Act)][j - w.acts.length]? = none := List.getElem?_eq_none (by simp; omega)
      rw [this, h2]; rfl
theorem madeAt.shape {p : Prg} {acts : List Act} {b i : Nat} (h : madeAt p acts b i) : ∃ k, p[b]? = some k ∧ parN p b = k.params.length := by
  obtain ⟨c, k, _, h2, _⟩ := h
  exact ⟨k, h2, by simp [parN, h2]⟩
end Go.Hm
end
section
namespace Go.Hm
open Go Go.RowKit
structure Rsl where
  out : List Int
  en : Int
  left : Int
  gl : List Int
def resW (w : Wld) : Rsl := ⟨w.out, w.en, w.left, shownS w.globals⟩
def Rsl.own (n : Nm) (r : Rsl) : List AV := [.hs (.c n 0 0) 1 0 r.out.length, iv r.en, iv r.left, .hs (.c n 0 3) 1 0 r.gl.length]
@[simp] theorem Rsl.own_eq {n : Nm} {r : Rsl} : r.own n = [.hs (.c n 0 0) 1 0 r.out.length, iv r.en, iv r.left, .hs (.c n 0 3) 1 0 r.gl.length] := rfl
structure OwnR (hp : Nm → Option AO) (n : Nm) (r : Rsl) : Prop where
  out : hp (.c n 0 0) = some (.row 1 (irows r.out))
  gl : hp (.c n 0 3) = some (.row 1 (irows r.gl))
structure MeantOk (p : Prg) (f : Nat) (w : Wld) : Prop where
  ok : WOk p w
  led : Led p 0 0 0 (startW f) w
  grow : Grow 0 (startW f) w
theorem meantOk {p : Prg} (hp : ShapeP p) {f : Nat} (hf : f ≤ 150) : MeantOk p f (meantW p f) :=
  ⟨(meantW_ok hp hf).ok, meantW_led hp hf, (meantW_ok hp hf).grow⟩
theorem MeantOk.left {p : Prg} {f : Nat} {w : Wld} (h : MeantOk p f w) : w.left ≤ f := h.grow.left
theorem MeantOk.tr {p : Prg} {f : Nat} {w : Wld} (h : MeantOk p f w) : w.trace.length + w.left = f := by
  have := h.grow.ntr
  simpa [startW] using this
section
variable {n : Nm} {len i j : Nat} {f : Nm → Option Nm} {q : Int}
@[simp] theorem sRows_fix (h : ∀ j, f (.c n j 0) = some (.c n j 0)) : (sRows n len i).map (fun r => r.map (AV.tr f)) = sRows n len i := sRows_tr fun j _ => h j
@[simp] theorem outP_fix (h : ∀ j, f (.c n j 0) = some (.c n j 0)) : (outP n q).tr f = outP n q := outP_tr fun _ => h _
end
@[simp] theorem slc_hs {P : Program} {T : TypeId} {hp : Nm → Option AO} {n : Nm} {z q len : Nat} {lo hi : Option Int} : slcAV P T hp (.hs n z q len) lo hi = match tel P T with
    | some e => if z = tsz P e ∧ 0 ≤ lo.getD 0 ∧ lo.getD 0 ≤ hi.getD len ∧ (hi.getD len ≤ len ∨ q + (hi.getD len).toNat ≤ rowsIn hp n z) then some (.hs n z (q + (lo.getD 0).toNat) ((hi.getD len).toNat - (lo.getD 0).toNat)) else none
    | none => none := rfl
def fM (k : Nat) : Bool := k == 1 || k == 7 || k == 8
def DM : Nm → Bool := Du fM
def DM2 (n : Nm) : Bool := DM n || Nm.under (.u 2 0 0) n
section
variable {n : Nm} {k i j d : Nat}
@[simp] theorem DM_s : DM (.s d) = false := rfl
@[simp] theorem DM_u : DM (.u k i j) = fM k := rfl
@[simp] theorem DM_c : DM (.c n i j) = DM n := rfl
@[simp] theorem fM_1 : fM 1 = true := rfl
@[simp] theorem fM_2 : fM 2 = false := rfl
@[simp] theorem fM_7 : fM 7 = true := rfl
@[simp] theorem fM_8 : fM 8 = true := rfl
@[simp] theorem DM2_eq : DM2 n = (DM n || Nm.under (.u 2 0 0) n) := rfl
theorem DM_root {n : Nm} (h : DM n = true) : n.sroot = false := Du_root h
theorem DM2_root {n : Nm} (h : DM2 n = true) : n.sroot = false := by
  simp only [DM2, Bool.or_eq_true] at h
  rcases h with h | h
  · exact DM_root h
  · exact under_usroot rfl h
end
section
variable {l m : List Nat} {i : Nat} {f : Nm → Option Nm}
@[simp] theorem erows_len : (erows l).length = l.length := by simp [erows]
theorem erows_app1 : erows l ++ [[ptE i]] = erows (l ++ [i]) := by simp [erows]
@[simp] theorem erows_take {n : Nat} : (erows l).take n = erows (l.take n) := by simp [erows]
@[simp] theorem erows_fix (h : ∀ i, f (En i) = some (En i)) : (erows l).map (fun r => r.map (AV.tr f)) = erows l := by
  simp only [erows, List.map_map]
  apply List.map_congr_left
  intro j _
  simp [ptE, h j]
end
theorem erows_lt {l : List Nat} {f : Nm → Option Nm} (h : ∀ i ∈ l, f (En i) = some (En i)) : (erows l).map (fun r => r.map (AV.tr f)) = erows l := by
  simp only [erows, List.map_map]
  apply List.map_congr_left
  intro j hj
  simp [ptE, h j hj]
def cloC (F : Nat) (p : Prg) (k : Nat) (g : Nat × Nat) : List AV := [iv (parN p g.1), .fn (.func F) [] [.pt (.u 8 k 0) 0, .pt (.u 8 k 1) 0, .pt (.u 8 k 2) 0, .pt (.u 8 k 3) 0]]
def cloRows (F : Nat) (p : Prg) (gs : List (Nat × Nat)) : List (List AV) := gs.mapIdx fun k g => cloC F p k g
def cmpRows (n : Nm) (cs : List (List Slt)) : List (List AV) := cs.mapIdx fun k _ => [.mp (.c n (k + 1) 9)]
section
variable {F : Nat} {p : Prg} {gs : List (Nat × Nat)} {g : Nat × Nat} {cs : List (List Slt)} {c : List Slt} {n m : Nm} {i : Nat} {f : Nm → Option Nm}
@[simp] theorem cloRows_len : (cloRows F p gs).length = gs.length := by simp [cloRows]
@[simp] theorem cloRows_get : (cloRows F p gs)[i]? = (gs[i]?).map fun g => cloC F p i g := by simp [cloRows]
@[simp] theorem cloRows_getE {h : i < (cloRows F p gs).length} : (cloRows F p gs)[i] = cloC F p i (gs[i]'(by simpa using h)) := by simp [cloRows]
theorem cloRows_app : cloRows F p gs ++ [cloC F p gs.length g] = cloRows F p (gs ++ [g]) := by simp [cloRows]
@[simp] theorem cloRows_fix (h : ∀ k j, f (.u 8 k j) = some (.u 8 k j)) : (cloRows F p gs).map (fun r => r.map (AV.tr f)) = cloRows F p gs := by
  apply List.ext_getElem?
  intro j
  rw [List.getElem?_map, cloRows_get]
  cases hj : gs[j]? with
  | none => rfl
  | some a => simp [cloC, trL, h]
@[simp] theorem cmpRows_len : (cmpRows n cs).length = cs.length := by simp [cmpRows]
@[simp] theorem cmpRows_get : (cmpRows n cs)[i]? = (cs[i]?).map fun _ => [AV.mp (.c n (i + 1) 9)] := by simp [cmpRows]
@[simp] theorem cmpRows_getE {h : i < (cmpRows n cs).length} : (cmpRows n cs)[i] = [AV.mp (.c n (i + 1) 9)] := by simp [cmpRows]
theorem cmpRows_app : cmpRows n cs ++ [[.mp (.c n (cs.length + 1) 9)]] = cmpRows n (cs ++ [c]) := by simp [cmpRows]
theorem cmpRows_map {g : List AV → List AV} (h : ∀ (i : Nat) c, cs[i]? = some c → g [.mp (.c n (i + 1) 9)] = [.mp (.c m (i + 1) 9)]) : (cmpRows n cs).map g = cmpRows m cs := by
  apply List.ext_getElem?
  intro j
  rw [List.getElem?_map, cmpRows_get, cmpRows_get]
  cases hj : cs[j]? with
  | none => rfl
  | some a => simp only [Option.map_some]; rw [h j a hj]
@[simp] theorem cmpRows_fix (h : ∀ i, f (.c n (i + 1) 9) = some (.c n (i + 1) 9)) : (cmpRows n cs).map (fun r => r.map (AV.tr f)) = cmpRows n cs := cmpRows_map fun i c _ => by simp [h i]
end
def mRow (p : Prg) (w : Wld) : List AV := [ksl p, .hs (.c Mn 0 1) 1 0 p.length, iv w.left, iv w.en, .hs (.c Mn 0 4) 1 0 w.out.length, .hs (.c Mn 0 5) 2 0 w.trace.length, ptE 0, .hs (.c Mn 0 7) 1 0 w.stack.length, .hs (.c Mn 0 8) 2 0 w.funs.length, .hs (.c Mn 0 9) 1 0 w.classes.length]
def envRow (i : Nat) (a : Act) : List AV := [iv a.blk, .mp (.c (En i) 0 1), if i = 0 then nilP else ptE a.up]
@[simp] theorem envRow_len {i : Nat} {a : Act} : (envRow i a).length = 3 := rfl
@[simp] theorem envRow_fix {i : Nat} {a : Act} {f : Nm → Option Nm} (h1 : f (.c (En i) 0 1) = some (.c (En i) 0 1)) (h2 : ∀ j, f (En j) = some (En j)) : (envRow i a).map (AV.tr f) = envRow i a := by
  by_cases e : i = 0
  · subst e; simp [envRow, h1]
  · simp [envRow, h1, e, h2]
def Wld.nms (w : Wld) (i : Nat) : List Slt := if i = 0 then w.globals else match w.acts[i]? with | some a => a.vars | none => []
structure OwnM (hp : Nm → Option AO) (F : Nat) (p : Prg) (w : Wld) : Prop where
  top : hp Mn = some (.row 10 [mRow p w])
  scs : OwnS hp (.c Mn 0 1) p p.length
  out : hp (.c Mn 0 4) = some (.row 1 (irows w.out))
  trc : hp (.c Mn 0 5) = some (.row 2 (nrows w.trace))
  run : ∃ l, (∀ i ∈ l, i < w.acts.length) ∧ hp (.c Mn 0 7) = some (.row 1 (erows (w.stack ++ l)))
  funs : hp (.c Mn 0 8) = some (.row 2 (cloRows F p w.funs))
  bx : ∀ (k : Nat) g, w.funs[k]? = some g → hp (.u 8 k 0) = some (.row 1 [[iv g.1]]) ∧ hp (.u 8 k 1) = some (.row 1 [[ptE g.2]]) ∧ hp (.u 8 k 2) = some (.row 1 [[isl (match p[g.1]? with | some b => b.params | none => [])]]) ∧ hp (.u 8 k 3) = some (.row 1 [[.pt Mn 0]])
  clss : hp (.c Mn 0 9) = some (.row 1 (cmpRows Mn w.classes))
  cls : ∀ (k : Nat) c, w.classes[k]? = some c → ∃ ms, hp (.c Mn (k + 1) 9) = some (.map (mrows ms)) ∧ MapOk ms c
  env : ∀ (i : Nat) a, w.acts[i]? = some a → hp (En i) = some (.row 3 [envRow i a])
  nms : ∀ (i : Nat), i < w.acts.length → ∃ ms, hp (.c (En i) 0 1) = some (.map (mrows ms)) ∧ MapOk ms (w.nms i)
  only : ∀ k i j, fM k = true → hp (.u k i j) ≠ none → (k = 1 ∧ i = 0 ∧ j = 0) ∨ (k = 7 ∧ i < w.acts.length ∧ j = 0) ∨ (k = 8 ∧ i < w.funs.length ∧ j < 4)
def hIdx : Option Nat → Nat
  | none => 0
  | some i => i
theorem nms_loc {p : Prg} {w : Wld} {a : Nat} {x : Int} (hh : Heads p) (hw : WOk p w) (ha : a < w.acts.length) : w.nms (hIdx (w.loc p a x)) = w.vars (w.loc p a x) ∧ hIdx (w.loc p a x) < w.acts.length := by
  obtain ⟨a0, h0, hb0⟩ := hw.a0
  have hl0 := (gS h0).1
  rcases loc_spec (x := x) hh hw ha with ⟨h1, h2⟩ | ⟨o, i, c, ho, h1, h2, h3, h4, h5, _⟩
  · rw [h2]
    exact ⟨by simp [Wld.nms, hIdx, Wld.vars], hl0⟩
  · rw [h2]
    have hi : i ≠ 0 := by
      rintro rfl
      rw [h0] at h4
      obtain rfl := Option.some.inj h4
      omega
    exact ⟨by simp [Wld.nms, hIdx, Wld.vars, hi, h4], (gS h4).1⟩
theorem OwnM.hp' {hp hp' : Nm → Option AO} {F : Nat} {p : Prg} {w : Wld} (h : OwnM hp F p w) {f : Nm → Option Nm} (hf : ∀ m, DM m = true → f m = some m) (hh : ∀ m, DM m = true → hp' m = (hp m).map (AO.tr f)) : OwnM hp' F p w := by
  have hE : ∀ i, f (En i) = some (En i) := fun i => hf _ rfl
  have h8 : ∀ k j, f (.u 8 k j) = some (.u 8 k j) := fun k j => hf _ rfl
  have hc : ∀ j, f (.c Mn 0 j) = some (.c Mn 0 j) := fun j => hf _ rfl
  refine ⟨?_, ⟨?_, fun j k hj hk => ?_⟩, ?_, ?_, h.run.imp fun l hl => ⟨hl.1, ?_⟩, ?_, fun k g hg => ?_, ?_, fun k c hc' => ?_, fun i a ha => ?_, fun i hi => ?_, fun k i j hk hn => ?_⟩
  · rw [hh _ rfl, h.top]; simp [mRow, AO.tr, hc, hE]
  · rw [hh _ rfl, h.scs.top]
    simp only [Option.map_some, AO.tr]
    rw [sRows_fix fun j => hf _ rfl]
  · rw [hh _ rfl, h.scs.sc j k hj hk]
    simp only [Option.map_some, AO.tr, List.map_cons, List.map_nil, scopeRow_tr]
    rw [outP_fix fun j => hf _ rfl]
  · rw [hh _ rfl, h.out]; simp [AO.tr]
  · rw [hh _ rfl, h.trc]; simp [AO.tr]
  · rw [hh _ rfl, hl.2]
    simp only [Option.map_some, AO.tr]
    rw [erows_fix hE]
  · rw [hh _ rfl, h.funs]
    simp only [Option.map_some, AO.tr]
    rw [cloRows_fix h8]
  · obtain ⟨a1, a2, a3, a4⟩ := h.bx k g hg
    refine ⟨?_, ?_, ?_, ?_⟩
    · rw [hh _ rfl, a1]; simp [AO.tr]
    · rw [hh _ rfl, a2]; simp [AO.tr, hE]
    · rw [hh _ rfl, a3]; simp [AO.tr]
    · rw [hh _ rfl, a4]; simp [AO.tr, hf Mn rfl]
  · rw [hh _ rfl, h.clss]
    simp only [Option.map_some, AO.tr]
    rw [cmpRows_fix fun i => hf _ rfl]
  · obtain ⟨ms, a1, a2⟩ := h.cls k c hc'
    exact ⟨ms, by rw [hh _ rfl, a1]; simp [AO.tr], a2⟩
  · rw [hh _ rfl, h.env i a ha]
    have h1 := hf (.c (En i) 0 1) rfl
    by_cases e : i = 0 <;> simp [AO.tr, envRow, h1, e, hE]
    subst e
    simp [h1]
  · obtain ⟨ms, a1, a2⟩ := h.nms i hi
    exact ⟨ms, by rw [hh _ rfl, a1]; simp [AO.tr], a2⟩
  · refine h.only k i j hk fun e => hn ?_
    rw [hh (.u k i j) hk, e]; rfl
theorem OwnM.fin {hp : Nm → Option AO} {F : Nat} {p : Prg} {w : Wld} {D : Nm → Bool} {sbs : List (Nm × Nm)} (h : OwnM hp F p w) (hD : ∀ m, D m = true → m.sroot = false := by first | exact fun _ => DM_root | exact fun _ => DM2_root) (hW : ∀ m, DM m = true → D m = true := by intro m hm; first | exact hm | simp [hm]) (hs : ∀ q ∈ sbs, q.1.sroot = true := by simp [Nm.sroot]) : OwnM (finH D sbs hp) F p w :=
  h.hp' (f := finf D sbs) (fun m hm => finf_D hD (hW m hm) hs) (fun m hm => by simp only [finH, hW m hm, if_true])
theorem OwnM.re {hp hp' : Nm → Option AO} {F : Nat} {p : Prg} {w : Wld} (om : OwnM hp F p w)
    (h0 : hp' Mn = some (.row 10 [mRow p w]) := by simp [om.top, mRow])
    (h1 : hp' (.c Mn 0 1) = some (.row 1 (sRows (.c Mn 0 1) p.length p.length)) := by simp [om.scs.top])
    (h2 : ∀ (j : Nat) k, j < p.length → p[j]? = some k → hp' (.c (.c Mn 0 1) j 0) = some (.row 43 [scopeRow j k (outP (.c Mn 0 1) k.parent) k.params]) := by intro j k hj hk; simp [om.scs.sc j k hj hk])
    (h3 : hp' (.c Mn 0 4) = some (.row 1 (irows w.out)) := by simp [om.out])
    (h4 : hp' (.c Mn 0 5) = some (.row 2 (nrows w.trace)) := by simp [om.trc])
    (h5 : ∀ l, hp (.c Mn 0 7) = some (.row 1 (erows (w.stack ++ l))) → hp' (.c Mn 0 7) = some (.row 1 (erows (w.stack ++ l))) := by intro l hl; simp [hl])
    (h6 : hp' (.c Mn 0 8) = some (.row 2 (cloRows F p w.funs)) := by simp [om.funs])
    (h7 : ∀ (k : Nat) g, w.funs[k]? = some g → hp' (.u 8 k 0) = some (.row 1 [[iv g.1]]) ∧ hp' (.u 8 k 1) = some (.row 1 [[ptE g.2]]) ∧ hp' (.u 8 k 2) = some (.row 1 [[isl (match p[g.1]? with | some b => b.params | none => [])]]) ∧ hp' (.u 8 k 3) = some (.row 1 [[.pt Mn 0]]) := by intro k g hg; simp [om.bx k g hg])
    (h8 : hp' (.c Mn 0 9) = some (.row 1 (cmpRows Mn w.classes)) := by simp [om.clss])
    (h9 : ∀ (k : Nat) ms, hp (.c Mn (k + 1) 9) = some (.map (mrows ms)) → hp' (.c Mn (k + 1) 9) = some (.map (mrows ms)) := by intro k ms hm; simp [hm])
    (hA : ∀ (i : Nat) a, w.acts[i]? = some a → hp' (En i) = some (.row 3 [envRow i a]) := by intro i a ha; simp [om.env i a ha])
    (hB : ∀ (i : Nat) ms, i < w.acts.length → hp (.c (En i) 0 1) = some (.map (mrows ms)) → hp' (.c (En i) 0 1) = some (.map (mrows ms)) := by intro i ms hi hm; simp [hm])
    (hC : ∀ k i j, fM k = true → ¬ (k = 1 ∧ i = 0 ∧ j = 0) → hp' (.u k i j) ≠ none → hp (.u k i j) ≠ none := by intro k i j hk e hn; simpa [hk, e] using hn) : OwnM hp' F p w :=
  ⟨h0, ⟨h1, h2⟩, h3, h4, om.run.imp fun l hl => ⟨hl.1, h5 l hl.2⟩, h6, h7, h8, fun k c hc => (om.cls k c hc).imp fun ms hm => ⟨h9 k ms hm.1, hm.2⟩, hA, fun i hi => (om.nms i hi).imp fun ms hm => ⟨hB i ms hi hm.1, hm.2⟩, fun k i j hk hn => if e : k = 1 ∧ i = 0 ∧ j = 0 then .inl e else om.only k i j hk (hC k i j hk e hn)⟩
theorem OwnM.ext {H hp : Nm → Option AO} {F : Nat} {p : Prg} {w0 w : Wld} (h0 : OwnM H F p w0) (h : OwnM hp F p w) (ha : w0.acts.length ≤ w.acts.length) (hf : w0.funs.length ≤ w.funs.length) : ∀ k i j, (H (.u k i j)).isSome = true → DM (.u k i j) = false ∨ (dsub DM hp) (.u k i j) ≠ none := by
  intro k i j hs
  cases hD : fM k with
  | false => exact .inl hD
  | true =>
    right
    have hd : DM (.u k i j) = true := hD
    rw [dsub_eq, if_pos hd]
    rcases h0.only k i j hD (by intro e; rw [e] at hs; cases hs) with ⟨rfl, rfl, rfl⟩ | ⟨rfl, hi, rfl⟩ | ⟨rfl, hi, hj⟩
    · rw [h.top]; simp
    · obtain ⟨a, ha'⟩ : ∃ a, w.acts[i]? = some a := ⟨_, gE (by omega)⟩
      rw [h.env i a ha']; simp
    · obtain ⟨g, hg⟩ : ∃ g, w.funs[i]? = some g := ⟨_, gE (by omega)⟩
      obtain ⟨a1, a2, a3, a4⟩ := h.bx i g hg
      have : j = 0 ∨ j = 1 ∨ j = 2 ∨ j = 3 := by omega
      rcases this with rfl | rfl | rfl | rfl
      · rw [a1]; simp
      · rw [a2]; simp
      · rw [a3]; simp
      · rw [a4]; simp
theorem OwnM.ext2 {H hp : Nm → Option AO} {F : Nat} {p : Prg} {w0 w : Wld} (h0 : OwnM H F p w0) (h : OwnM hp F p w) (ha : w0.acts.length ≤ w.acts.length) (hf : w0.funs.length ≤ w.funs.length) (h2 : (hp (.u 2 0 0)).isSome = true) : ∀ k i j, (H (.u k i j)).isSome = true → DM2 (.u k i j) = false ∨ (dsub DM2 hp) (.u k i j) ≠ none := by
  intro k i j hs
  by_cases e : Nm.under (.u 2 0 0) (.u k i j) = true
  · right
    have e2 : k = 2 ∧ i = 0 ∧ j = 0 := by
      simp [Nm.under] at e
      exact ⟨e.1, e.2.1, e.2.2⟩
    obtain ⟨rfl, rfl, rfl⟩ := e2
    rw [dsub_eq, if_pos (by simp [Nm.under])]
    exact Option.isSome_iff_ne_none.1 h2
  · simp only [Bool.not_eq_true] at e
    rcases h0.ext h ha hf k i j hs with h1 | h1
    · left; simp only [DM2_eq, h1, e, Bool.or_self]
    · right
      rw [dsub_eq] at h1 ⊢
      split at h1
      · rename_i hd
        rw [if_pos (by simp [hd] : DM2 (.u k i j) = true)]
        exact h1
      · exact absurd rfl h1
section
variable {X : Ctx} {st : St} {K : St → Prop} {E : AV → St → Prop} {d f : Nat} {ty : TypeId} {pos : String} {aft : Array Edge} {g : Option (Nat × Bool)} {args : Array Operand} {Ts : Array TypeId} {az : List AV} {R : Nm → AV → (Nm → Option AO) → Prop}
theorem x_mutM (hext : ∀ k i j, X.ext (.u k i j) = true → DM (.u k i j) = false ∨ (dsub DM st.hp) (.u k i j) ≠ none) (hd : d < X.n := by first | (simp; done) | fail) (ha : args.toList.map (ev st) = az := by simp [fx]; first | done | rfl)
    (hF : FnE X.P X.gl f DM az (dsub DM st.hp) R noE) (h : ∀ y H', R (.s d) y H' → K ((st.call d DM (dsub DM st.hp) H').put (some d) y)) :
    SemOp X ⟨some d, .call ⟨.value (.func f), args, Ts⟩, ty, pos, aft, g⟩ K E st := x_mutD DM (fun _ => DM_root) hext hd ha hF h
end
end Go.Hm
end
section
namespace Go.Hm
open Go Go.RowKit
def Rsl.av (r : Rsl) : AV := .agg [isl r.out, iv r.en, iv r.left, isl r.gl]
@[simp] theorem Rsl.av_eq {r : Rsl} : r.av = .agg [isl r.out, iv r.en, iv r.left, isl r.gl] := rfl
def Rsl.mark (r : Rsl) (c : Int) : Rsl := ⟨markI r.out.length c, r.en, r.left, markI r.gl.length (c + r.out.length)⟩
section
variable {hp : Nm → Option AO} {n : Nm} {r : Rsl} {c : Int}
theorem OwnR.hcln {H' : Nm → Option AO} (h : OwnR H' n r) : OwnR (Hm.hcln H') n r := ⟨hcln_row h.out (by simp), hcln_row h.gl (by simp)⟩
@[simp] theorem Rsl.mark_en : (r.mark c).en = r.en := rfl
@[simp] theorem Rsl.mark_left : (r.mark c).left = r.left := rfl
@[simp] theorem Rsl.mark_out : (r.mark c).out.length = r.out.length := by simp [Rsl.mark]
@[simp] theorem Rsl.mark_gl : (r.mark c).gl.length = r.gl.length := by simp [Rsl.mark]
end
end Go.Hm
end
section
namespace Go.Hm
open Go
structure ProgFacts (P : Program) : Prop where
  laid : laidOutB P = true
  maps : mapsRowed P = true
  stops : (P.stops == []) = true
  knobs : (P.stopKnobs == []) = true
  keys : P.plainKeys = true
  heard : P.stopsHeard = true
  may : P.mayEnter = true
  lifts : P.liftsFinal = false
  make : (P.make == some .cut) = true
theorem joined_of {P : Program} {f : FuncId} {fn : Func} {s : ChangeSpec} {c : OpenClaim} (hp : ProgFacts P)
    (h1 : c.wf (OpenSpec.ofChange s) = true) (h2 : fn.params.all (P.readableRec ·) = true) (h3 : namedTie P c.named s.vars = true) (h4 : (c.stops == []) = true) (h5 : (c.knobs == []) = true)
    (h6 : (c.inPlace == P.inPlace f) = true) (h7 : (c.unfollowed == P.unfollowed f) = true) (h8 : (c.recurses == P.recurses f) = true) (h9 : (c.named == P.varsNamed f) = true)
    (h10 : (c.maps == (fn.params.toList ++ s.plain.varTypes P).any (P.mapsRec ·)) = true) (h11 : (c.ifaces == (fn.params.toList ++ s.plain.varTypes P).any (P.ifacesRec ·)) = true) (h12 : (c.mapsOut == P.mapsAmong fn.resultTypes.toList) = true)
    (h13 : (c.loops == (fn.params.toList ++ s.plain.varTypes P).any (P.loopsFrom ·)) = true) (h14 : (c.wideKeys == (fn.params.toList ++ s.plain.varTypes P ++ fn.resultTypes.toList).any (P.wideKeysFrom ·)) = true)
    (h15 : s.vars.all (P.varReadable ·) = true) (h16 : fn.resultTypes.all (fun t => P.readableRec t && decide (t < P.types.size)) = true) (h17 : (c.ifacesOut == fn.resultTypes.toList.any (P.ifacesRec ·)) = true) (h18 : (c.loopsOut == fn.resultTypes.toList.any (P.loopsFrom ·)) = true)
    (h19 : c.plainKeys = true) (h20 : c.shortTexts.isNone = true) (h21 : c.lifted = false) (h22 : c.make = .cut)
    (h23 : (c.kinds == (if c.domain.isEmpty then [] else fn.params.toList.map fun t => match P.underlying t with | some (.int k) => some k | _ => none)) = true) (h24 : (c.pinned == c.pinnedBy) = true)
    (h25 : (c.veiled == (fn.params.toList ++ s.plain.varTypes P ++ fn.resultTypes.toList).any (P.veiledRec ·)) = true) (h26 : c.veiledFits P fn.params.toList (fn.params.toList ++ s.plain.varTypes P ++ fn.resultTypes.toList) = true) : joinedFacts P f fn s c = true := by
  have e1 : (c.plainKeys == P.plainKeys) = true := by rw [h19, hp.keys]; rfl
  have e2 : (c.lifted == P.liftsFinal) = true := by rw [h21, hp.lifts]; rfl
  have e3 : (P.make == some c.make) = true := by rw [h22]; exact hp.make
  unfold joinedFacts
  simp only [hp.laid, hp.maps, hp.stops, hp.knobs, hp.heard, hp.may, h1, h2, h3, h4, h5, h6, h7, h8, h9, h10, h11, h12, h13, h14, h15, h16, h17, h18, h20, h24, h25, h26, e1, e2, e3, Bool.and_true, Bool.true_and]
  exact h23
end Go.Hm
end
