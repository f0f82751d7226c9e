/-
  Own texts, joined by mkclaim.py: Hm143, Hm144, Hm145, Hm146, Hm147, Hm148, Hm149, Hm150, Hm151, Hm152.
-/
import Derived.Test.YtmaoicgfcngciaaGreatDoorR16
import Derived.Recover
import Derived.Test.YtmaoicgfcngciaaGreatDoorR12
import Derived.Handed
import Derived.HandedShaped
import Derived.Shelf.Vars
set_option linter.unusedSimpArgs false
set_option linter.unusedVariables false
set_option maxRecDepth 100000
set_option maxHeartbeats 4000000

section
namespace Go.Hm
open Go Go.RowKit
def wd (a : Go.Act) : Go.Act := { a with defers := [] }
def dfr (v : Value) : List Deferred := match v with
  | .func fn first cap => [{ target := .fn fn cap, args := first ++ #[] }]
  | _ => []
def DW (X : Ctx) (t : Nat) (st : St) (a : Go.Act) (w : World) : Prop := a.defers = dfr (a.tmps.getD t undef) ∧ Rw X st (wd a) w
def DWV (X : Ctx) (t : Nat) (st : St) (a : Go.Act) (w : World) (v : Value) (x : AV) : Prop := a.defers = dfr (a.tmps.getD t undef) ∧ RwV X st (wd a) w v x
section
variable {X : Ctx} {st : St} {a : Go.Act} {w : World} {K : St → Prop} {E : AV → St → Prop} {ds : List (Option Nat)} {o : Oper} {t : Nat}
theorem put_other {d : Option Nat} {v : Value} (h : d ≠ some t) : (a.put d v).tmps.getD t undef = a.tmps.getD t undef := by
  cases d with
  | none => rfl
  | some d =>
    simp only [Go.Act.put, Array.getD_eq_getD_getElem?]
    rw [Array.getElem?_setIfInBounds_ne (fun e => h (by rw [e]))]
theorem wd_put {d : Option Nat} {v : Value} : wd (a.put d v) = (wd a).put d v := by cases d <;> rfl
theorem put_defers {d : Option Nat} {v : Value} : (a.put d v).defers = a.defers := by cases d <;> rfl
theorem dw_next {d : Option Nat} {v : Value} {w' : World} (hd : a.defers = dfr (a.tmps.getD t undef)) (ht : d ≠ some t) (h : ∃ st', Rw X st' ((wd a).put d v) w' ∧ K st') : ∃ st', DW X t st' (a.put d v) w' ∧ K st' := by
  obtain ⟨st', h2, h3⟩ := h
  exact ⟨st', ⟨by rw [put_defers, put_other ht, hd], by rw [wd_put]; exact h2⟩, h3⟩
theorem wp_wd {Q : Exit → Go.Act → World → Prop} (hd : a.defers = dfr (a.tmps.getD t undef)) (ht : o.dst ≠ some t)
    (h : o.wp X.P (wd a) w (fun a' w' => ∃ st', Rw X st' a' w' ∧ K st') (fun e _ w' => Q e a w')) : o.wp X.P a w (fun a' w' => ∃ st', DW X t st' a' w' ∧ K st') Q := by
  unfold Oper.wp at h ⊢
  have e : (wd a).eval = a.eval := rfl
  rw [e] at h
  generalize (execOp a.eval o).run X.P w = r at h ⊢
  have out : LetsOut (fun e (_ : Go.Act) w' => Q e a w') → LetsOut Q := fun ⟨_, w1, h1⟩ => ⟨a, w1, h1⟩
  cases r with
  | ok n w' =>
    cases n with
    | value v => exact dw_next hd ht h
    | skip => exact dw_next hd ht h
    | defer d =>
      obtain ⟨st', h2, _⟩ := h
      obtain ⟨C, g, _, _, _, _, _, hg⟩ := h2
      have := hg.defers
      rw [put_defers] at this
      cases this
    | enter f args =>
      refine Calls.mono (show Calls X.P f args w' _ from h) fun e w'' he => ?_
      cases e with
      | returned v => exact dw_next hd ht he
      | panicked ch => exact he
      | outgrown => exact out he
    | row row args => exact Rows.mono (show Rows X.P row args w' _ from h) fun v w'' he => dw_next hd ht he
    | _ => exact (show False from h).elim
  | halt s w' =>
    cases s with
    | panic v => exact h
    | _ => exact (show False from h).elim
theorem wpOp_wd {ops : Array Oper} {i : Nat} {Q : Exit → Go.Act → World → Prop} (hd : a.defers = dfr (a.tmps.getD t undef)) (hi : ops[i]? = some o) (ht : o.dst ≠ some t)
    (h : wpOp X.P ops (fun e _ w' => Q e a w') i (fun a' w' => ∃ st', Rw X st' a' w' ∧ K st') (wd a) w) : wpOp X.P ops Q i (fun a' w' => ∃ st', DW X t st' a' w' ∧ K st') a w := by
  unfold wpOp at h ⊢
  simp only [hi] at h ⊢
  have ey : yielded ops (wd a).tmps = yielded ops a.tmps := rfl
  rw [ey] at h
  split at h
  · rename_i hw
    rw [if_pos hw]
    rcases h with h | ⟨h1, _, w1, h2⟩
    · exact .inl (wp_wd hd ht h)
    · exact .inr ⟨h1, a, w1, h2⟩
  · rename_i hw
    rw [if_neg hw]
    exact dw_next hd ht h
theorem SemL.wd {ops : Array Oper} {Q : Exit → Go.Act → World → Prop} (hQ : ∀ a' w' st', DW X t st' a' w' → K st' → Q .normal a' w') (hE : ∀ a' v w' st' x, DWV X t st' a' w' v x → E x st' → Q (.panic [{ v := v, recovered := false }]) a' w') :
    ∀ (l : List Oper) (k : Nat), ops.toList.drop k = l → (∀ o ∈ l, o.dst ≠ some t) → ∀ st, SemL X (ops.toList.map (·.dst)) K E l st → ∀ a w, DW X t st a w → wpOps X.P ops Q (List.range' k l.length) a w
  | [], k, _, _, st, h, a, w, hR => hQ a w st hR h
  | o :: l, k, hl, ht, st, h, a, w, hR => by
    have hk : ops[k]? = some o := by
      rw [← Array.getElem?_toList, ← Nat.add_zero k, ← List.getElem?_drop, hl]; rfl
    rw [List.length_cons, List.range'_succ, wpOps_cons]
    have h1 := h ops k rfl hk (Go.Hm.wd a) w (fun e _ w' => Q e a w') hR.2 (fun v w' st' x h1 h2 => hE a v w' st' x ⟨hR.1, h1⟩ h2)
    refine wpOp_mono (fun a' w' he => ?_) (wpOp_wd hR.1 hk (ht o (by simp)) h1)
    obtain ⟨st', hR', hK'⟩ := he
    refine SemL.wd hQ hE l (k + 1) ?_ (fun o' ho => ht o' (by simp [ho])) st' hK' a' w' hR'
    rw [← List.drop_drop, hl]
    rfl
end
section
variable {X : Ctx} {st : St} {t : Nat} {Q : Ex → St → Prop}
def postSD (X : Ctx) (t : Nat) (Q : Ex → St → Prop) : Exit → Go.Act → World → Prop
  | .normal, a, w => ∃ st, DW X t st a w ∧ Q .normal st
  | .exit id, a, w => ∃ st, DW X t st a w ∧ Q (.exit id) st
  | .goto l, a, w => ∃ st, DW X t st a w ∧ Q (.goto l) st
  | .ret, a, w => ∃ st, DW X t st a w ∧ Q .ret st
  | .panic ch, a, w => ∃ st v x, DWV X t st a w v x ∧ ch = [{ v := v, recovered := false }] ∧ Q (.pan x) st
  | .outgrown, _, _ => False
def SemCodeD (X : Ctx) (t : Nat) (c : Code) (Q : Ex → St → Prop) (st : St) : Prop := ∀ a w, DW X t st a w → c.wp X.P (postSD X t Q) a w
theorem wd_skip (h : Q .normal st) : SemCodeD X t .skip Q st := fun _ _ hR => wp_skip ⟨st, hR, h⟩
theorem wd_ret (h : Q .ret st) : SemCodeD X t .ret Q st := fun _ _ hR => wp_ret ⟨st, hR, h⟩
theorem wd_seq {c d : Code} (h : SemCodeD X t c (thenS (SemCodeD X t d Q) Q) st) : SemCodeD X t (.seq c d) Q st := by
  intro a w hR
  refine wp_seq (wp_mono (h a w hR) fun e a' w' he => ?_)
  cases e with
  | normal => obtain ⟨st', hR', hQ⟩ := he; exact hQ a' w' hR'
  | exit id => exact he
  | goto l => exact he
  | ret => exact he
  | panic ch => exact he
  | outgrown => exact he
theorem wd_cond {c : Operand} {x y : Code} {b : Bool} (hb : ev st c = .sc (.bool b)) (h1 : b = true → SemCodeD X t x Q st) (h2 : b = false → SemCodeD X t y Q st) : SemCodeD X t (.cond c x y) Q st := by
  intro a w hR
  have hv : a.eval c = .bool b := by
    obtain ⟨C, g, _, _, _, _, _, hr⟩ := hR.2
    exact (hb ▸ hr.ev c).sc_eq
  exact wp_cond_split hv (fun e => h1 e a w hR) (fun e => h2 e a w hR)
theorem wd_region {id : Nat} {ops : Array Oper} (ht : ∀ o ∈ ops.toList, o.dst ≠ some t) (h : ∀ K : St → Prop, (∀ s, Q .normal s → K s) → SemL X (ops.toList.map (·.dst)) K (fun x => Q (.pan x)) ops.toList st) : SemCodeD X t (.region id ops false) Q st := by
  intro a w hR
  refine wp_region ?_
  rw [List.range_eq_range']
  have := SemL.wd (ops := ops) (t := t) (Q := postSD X t Q) (fun a' w' st' h1 h2 => ⟨st', h1, h2⟩) (fun a' v w' st' x h1 h2 => ⟨st', v, x, h1, rfl, h2⟩) ops.toList 0 rfl ht st (h _ (fun _ h => h)) a w hR
  simpa using this
theorem w_defer {id : Nat} {ops : Array Oper} {l1 l2 : List Oper} {od : Oper} {ats : Array TypeId} {c : Code} (hops : ops.toList = l1 ++ od :: l2) (hod : od.op = .defer ⟨.value (.tmp t), #[], ats⟩) (hdst : od.dst = none) (hg : od.guard = none)
    (ht : ∀ o ∈ l2, o.dst ≠ some t)
    (h : SemL X (ops.toList.map (·.dst)) (fun s1 => (∃ f xs ys, s1.tm t = .fn f xs ys) ∧ SemL X (ops.toList.map (·.dst)) (SemCodeD X t c Q) (fun x => Q (.pan x)) l2 s1) (fun _ _ => False) l1 st) {a : Go.Act} {w : World} (hR : Rw X st a w) :
    (Code.seq (.region id ops false) c).wp X.P (postSD X t Q) a w := by
  refine wp_seq (wp_region ?_)
  rw [List.range_eq_range']
  have hsz : ops.size = l1.length + (1 + l2.length) := by rw [← Array.length_toList, hops]; simp; omega
  have key : ∀ a' w' st', Rw X st' a' w' → ((∃ f xs ys, st'.tm t = .fn f xs ys) ∧ SemL X (ops.toList.map (·.dst)) (SemCodeD X t c Q) (fun x => Q (.pan x)) l2 st') →
      wpOps X.P ops (Exit.then (c.wp X.P (postSD X t Q)) (postSD X t Q)) (List.range' l1.length (1 + l2.length)) a' w' := by
    rintro a' w' st' hR' ⟨⟨f, xs, ys, hv⟩, hl⟩
    have hk : ops[l1.length]? = some od := by
      rw [← Array.getElem?_toList, hops, List.getElem?_append_right (Nat.le_refl _)]; simp
    rw [Nat.add_comm 1, List.range'_succ, wpOps_cons]
    obtain ⟨C, g, e1, e2, e3, e4, e5, hg'⟩ := hR'
    have hr := hg'.slots t
    rw [hv] at hr
    generalize hcv : a'.tmps.getD t undef = cv at hr
    have hdf : a'.defers = [] := hg'.defers
    unfold wpOp
    simp only [hk]
    rw [if_pos (by simp [Region.wanted, hg])]
    left
    cases hr with
    | fn _ vs us _ _ l1' l2' r1 r2 =>
      have hev : a'.eval (.tmp t) = .func f vs.toArray us.toArray := hcv
      have hx : (execOp a'.eval od).run X.P w' = .ok (.defer { target := .fn f us.toArray, args := vs.toArray ++ #[] }) w' := by
        simp [execOp, hod, resolve, hev, Deferred.ofValue]
      unfold Oper.wp
      rw [hx, Oper.upon_defer, hdst]
      have hDW : DW X t st' ({ a' with defers := { target := .fn f us.toArray, args := vs.toArray ++ #[] } :: a'.defers } : Go.Act) w' := by
        refine ⟨?_, ⟨C, g, e1, e2, e3, e4, e5, ?_⟩⟩
        · show _ :: a'.defers = dfr (a'.tmps.getD t undef)
          rw [hdf, hcv]
          rfl
        · have : wd ({ a' with defers := { target := .fn f us.toArray, args := vs.toArray ++ #[] } :: a'.defers } : Go.Act) = a' := by
            obtain ⟨tm, dd⟩ := a'
            simp only at hdf
            subst hdf
            rfl
          rw [this]
          exact hg'
      refine SemL.wd (ops := ops) (t := t) (K := SemCodeD X t c Q) (E := fun x => Q (.pan x)) (fun a1 w1 s1 h1 h2 => h2 a1 w1 h1) (fun a1 v w1 s1 x h1 h2 => ⟨s1, v, x, h1, rfl, h2⟩) l2 (l1.length + 1) ?_ ht st' hl _ w' hDW
      rw [hops, ← List.drop_drop]
      simp
  have main : ∀ (l : List Oper) (k : Nat), k + l.length = l1.length → (∀ j o, l[j]? = some o → ops[k + j]? = some o) → ∀ s, SemL X (ops.toList.map (·.dst)) (fun s1 => (∃ f xs ys, s1.tm t = .fn f xs ys) ∧ SemL X (ops.toList.map (·.dst)) (SemCodeD X t c Q) (fun x => Q (.pan x)) l2 s1) (fun _ _ => False) l s →
      ∀ a' w', Rw X s a' w' → wpOps X.P ops (Exit.then (c.wp X.P (postSD X t Q)) (postSD X t Q)) (List.range' k (l.length + (1 + l2.length))) a' w' := by
    intro l
    induction l with
    | nil =>
      intro k hk hl s hs a' w' hR'
      simp only [List.length_nil, Nat.add_zero] at hk
      subst hk
      simpa using key a' w' s hR' hs
    | cons o l ih =>
      intro k hk hl s hs a' w' hR'
      have hko : ops[k]? = some o := hl 0 o rfl
      rw [List.length_cons, show l.length + 1 + (1 + l2.length) = (l.length + (1 + l2.length)) + 1 by omega, List.range'_succ, wpOps_cons]
      refine wpOp_mono (fun a1 w1 he => ?_) (hs ops k rfl hko a' w' _ hR' (fun _ _ _ _ _ h => h.elim))
      obtain ⟨s1, hR1, hK1⟩ := he
      exact ih (k + 1) (by simp at hk; omega) (fun j o' ho => by have := hl (j + 1) o' ho; rwa [show k + (j + 1) = k + 1 + j by omega] at this) s1 hK1 a1 w1 hR1
  have := main l1 0 (by simp) (fun j o ho => by
    rw [Nat.zero_add, ← Array.getElem?_toList, hops, List.getElem?_append_left (gS ho).1]
    exact ho) st h a w hR
  rw [hsz]
  exact this
end
section
variable {c x : UInt8} {s l : Txt} {i j n : Nat}
theorem split_at (hi : s[i]? = some c) (hj : j ≤ i) (hno : c ∉ (s.drop j).take (i - j)) : splitL c (s.drop j) = (s.drop j).take (i - j) :: splitL c (s.drop (i + 1)) := by
  have e : s.drop j = (s.drop j).take (i - j) ++ c :: s.drop (i + 1) := by
    conv => lhs; rw [← List.take_append_drop (i - j) (s.drop j)]
    rw [List.drop_drop, show j + (i - j) = i by omega]
    congr 1
    obtain ⟨h, hE⟩ := gS hi
    rw [List.drop_eq_getElem_cons h, hE]
  conv => lhs; rw [e]
  exact splitL_app hno
theorem no_next (hi : s[i]? = some x) (hx : x ≠ c) (hj : j ≤ i) (hno : c ∉ (s.drop j).take (i - j)) : c ∉ (s.drop j).take (i + 1 - j) := by
  rw [show i + 1 - j = (i - j) + 1 by omega, List.take_add_one, List.getElem?_drop, show j + (i - j) = i by omega, hi]
  simp [hno, Ne.symm hx]
def dval (l : Txt) : Nat := l.foldl (fun n c => 10 * n + (c.toNat - 48)) 0
theorem dval_snoc : dval (l ++ [c]) = 10 * dval l + (c.toNat - 48) := by simp [dval]
theorem dval_take (hi : s[i]? = some c) : dval (s.take (i + 1)) = 10 * dval (s.take i) + (c.toNat - 48) := by
  rw [List.take_add_one, hi]
  exact dval_snoc
theorem dval_num : ∀ n : Nat, dval (numN n) = n
  | n => by
    rw [numN]
    split
    · rename_i h
      simp [dval, dg_val h]
    · rename_i h
      rw [dval_snoc, dval_num (n / 10), dg_val (by omega)]
      omega
theorem small_end (h : dval s ≤ 99) : smallN s = if s = numN (dval s) then some (dval s) else none := by
  split
  · rename_i e
    exact small_iff.2 ⟨h, e⟩
  · rename_i e
    cases hs : smallN s with
    | none => rfl
    | some n =>
      obtain ⟨_, rfl⟩ := small_iff.1 hs
      rw [dval_num] at e
      exact absurd rfl e
theorem small_bad1 (hi : s[i]? = some c) (h : ¬ (48 ≤ c.toNat ∧ c.toNat ≤ 57)) : smallN s = none := by
  cases hs : smallN s with
  | none => rfl
  | some n =>
    obtain ⟨_, rfl⟩ := small_iff.1 hs
    exact absurd (numN_dig n c (List.mem_of_getElem? hi)) h
theorem small_bad2 (hi : i < s.length) (h : 9 < dval (s.take i)) : smallN s = none := by
  cases hs : smallN s with
  | none => rfl
  | some n =>
    obtain ⟨hn, rfl⟩ := small_iff.1 hs
    by_cases h10 : n < 10
    · rw [numN_small h10] at hi h
      obtain rfl : i = 0 := by simpa using hi
      simp [dval] at h
    · rw [numN_two (by omega) (by omega)] at hi h
      simp only [List.length_cons, List.length_nil] at hi
      rcases (by omega : i = 0 ∨ i = 1) with rfl | rfl
      · simp [dval] at h
      · simp [dval, dg_val (show n / 10 < 10 by omega)] at h
        omega
end
section
variable {s : Txt} {c : UInt8}
theorem small_len (h : s.length < 1 ∨ 2 < s.length) : smallN s = none := by
  rcases s with _ | ⟨a, _ | ⟨b, _ | ⟨d, l⟩⟩⟩
  · rfl
  · simp at h
  · simp at h
  · rfl
theorem small_zero (hl : s.length = 2) (h : s[0]? = some 48) : smallN s = none := by
  rcases s with _ | ⟨a, _ | ⟨b, _ | ⟨d, l⟩⟩⟩
  · simp at hl
  · simp at hl
  · obtain rfl := Option.some.inj h
    simp [smallN]
  · simp at hl
theorem small_digits (h1 : 1 ≤ s.length) (h2 : s.length ≤ 2) (hz : s.length = 2 → s[0]? ≠ some 48) (hd : ∀ c ∈ s, 48 ≤ c.toNat ∧ c.toNat ≤ 57) : smallN s = some (dval s) := by
  rcases s with _ | ⟨a, _ | ⟨b, _ | ⟨d, l⟩⟩⟩
  · simp at h1
  · have h := hd a (by simp)
    have hi : isDg a = true := by simp only [isDg, Bool.and_eq_true, decide_eq_true_eq]; exact h
    simp only [smallN, hi, if_true, dval, List.foldl_cons, List.foldl_nil]
    congr 1
    omega
  · have ha := hd a (by simp)
    have hb := hd b (by simp)
    have hi : isDg a = true := by simp only [isDg, Bool.and_eq_true, decide_eq_true_eq]; exact ha
    have hj : isDg b = true := by simp only [isDg, Bool.and_eq_true, decide_eq_true_eq]; exact hb
    have hz' : a ≠ 48 := fun e => hz rfl (by simp [e])
    simp only [smallN, hi, hj, true_and, hz', ne_eq, not_false_eq_true, and_self, if_true, dval, List.foldl_cons, List.foldl_nil]
    congr 1
    omega
  · simp at h2
end
def smallI (s : Txt) : Int := match smallN s with | some n => n | none => -1
theorem smallI_some {s : Txt} {n : Nat} (h : smallN s = some n) : smallI s = n := by simp [smallI, h]
theorem smallI_none {s : Txt} (h : smallN s = none) : smallI s = -1 := by simp [smallI, h]
end Go.Hm
end
section
namespace Go.Hm
open Go Go.RowKit Go.Proofs Go.Shelf
section
variable {st : St} {H' hp : Nm → Option AO} {T e : TypeId} {l : Txt} {k a b c d : Nat}
@[simp] theorem byrows_tr {f : Nm → Option Nm} : (byrows l).map (fun r => r.map (AV.tr f)) = byrows l := by simp [byrows]
theorem bld_mutc (h : BldAt H' (.u a b c) T e l) : BldAt (st.mutc (.s k) (.u a b c) d H').hp (.s k) T e l := by
  rcases h with ⟨rfl, h⟩ | ⟨hl, h1, h2⟩
  · exact .inl ⟨rfl, by simp [Nm.under, Nm.ren, mv, h, AO.tr, AV.tr]⟩
  · refine .inr ⟨hl, ?_, ?_⟩
    · simp [Nm.under, Nm.ren, mv, h1, AO.tr, AV.tr]
    · have : (byrows l).map (List.map (AV.tr (mv (.u a b c) (.s k)))) = byrows l := byrows_tr
      simp [Nm.under, Nm.ren, mv]
      exact ⟨_, h2, by simp only [AO.tr]; rw [this]⟩
theorem bld_move (h : BldAt st.hp (.s k) T e l) : BldAt (hsub (.u a b c) (st.move (.s k) (.u a b c)).hp) (.u a b c) T e l := by
  rcases h with ⟨rfl, h⟩ | ⟨hl, h1, h2⟩
  · exact .inl ⟨rfl, by simp [Nm.under, Nm.ren, mv, h, AO.tr, AV.tr]⟩
  · refine .inr ⟨hl, ?_, ?_⟩
    · simp [Nm.under, Nm.ren, mv, h1, AO.tr, AV.tr]
    · have : (byrows l).map (List.map (AV.tr (mv (.s k) (.u a b c)))) = byrows l := byrows_tr
      simp [Nm.under, Nm.ren, mv]
      exact ⟨_, h2, by simp only [AO.tr]; rw [this]⟩
theorem bld_isSome (h : BldAt hp (.u a b c) T e l) : (hp (.u a b c)).isSome = true := by
  rcases h with ⟨_, h⟩ | ⟨_, h, _⟩ <;> simp [h]
end
section
variable {X : Ctx} {st : St} {K : St → Prop} {E : AV → St → Prop} {d k : Nat} {ty : TypeId} {pos : String} {aft : Array Edge} {g : Option (Nat × Bool)} {args : Array Operand} {Ts : Array TypeId} {P : Program} {ρ : Ren} {l s : Txt} {f : FuncId}
abbrev Vn : Nm := .u 3 0 0
theorem x_wstr (k : Nat) (L : Lays.n166 X.P ρ) (Y : Builder.Extra X.P ρ) (hf : ρ.f 166 = f) (hext : X.ext Vn = false) (hB : BldAt st.hp (.s k) (ρ.t 72) (ρ.t 5) l) (hd : d < X.n := by first | (simp; done) | fail)
    (ha : args.toList.map (ev (st.move (.s k) Vn)) = [.pt Vn 0, tx s] := by simp [fx]; first | done | rfl) (hs : s ≠ [] := by first | (simp; done) | assumption) (hlen : l.length + s.length ≤ 140737488355328 := by first | (simp; omega) | omega)
    (h : ∀ st' : St, st'.n = st.n → st'.gl = st.gl → (∀ t, st'.tm t = if t = d then .tup [.sc (.int .i64 s.length), .sc .nilIface] else (st.tm t).tr (rtf (.s k) Vn d)) →
      (∀ m, Nm.under (.s k) m = false → Nm.under Vn m = false → Nm.under (.s d) m = false → st'.hp m = (st.hp m).map (AO.tr (rtf (.s k) Vn d))) →
      st'.hp (.s k) = some (.trow (ρ.t 72) 2 true [[.pt (.s k) 0, .hs (.c (.s k) 0 1) 1 0 (l.length + s.length)]]) → st'.hp (.c (.s k) 0 1) = some (.trow (ρ.t 5) 1 false (byrows (l ++ s))) → K st') :
    SemOp X ⟨some d, .call ⟨.value (.func f), args, Ts⟩, ty, pos, aft, g⟩ K E st := by
  subst hf
  have hB' := bld_move (a := 3) (b := 0) (c := 0) hB
  refine x_mutc (.s k) Vn (hext := hext) (hs := (bld_isSome hB')) (hd := hd) (ha := ha) (hF := wstr_fn L Y X.gl Vn l s hs hlen _ hB') (h := ?_)
  rintro y H' ⟨rfl, hH⟩
  rcases bld_mutc (st := st) (k := k) (d := d) hH with ⟨e, _⟩ | ⟨_, e1, e2⟩
  · exact absurd e (by simp [hs])
  refine h _ rfl rfl (fun t => ?_) (fun m h1 h2 h3 => ?_) (by simpa using e1) e2
  · by_cases e : t = d
    · simp [St.put, e, AV.tr, trLL_eq, trL_eq]
    · simp [St.put, e]
  · show (st.mutc (.s k) Vn d H').hp m = _
    simp only [mutc_hp, h1, h2, h3, Bool.false_eq_true, if_false]
theorem BldAt.go {hp0 hp : Nm → Option AO} {V : Nm} {T e : TypeId} {l : Txt} (h : BldAt hp0 V T e l)
    (h1 : hp0 V = some (.trow T 2 true [[.sc (.pointer none), .sc (.slice none 0 0)]]) → hp V = some (.trow T 2 true [[.sc (.pointer none), .sc (.slice none 0 0)]]) := by intro e; simp [e, fx])
    (h2 : hp0 V = some (.trow T 2 true [[.pt V 0, .hs (.c V 0 1) 1 0 l.length]]) → hp V = some (.trow T 2 true [[.pt V 0, .hs (.c V 0 1) 1 0 l.length]]) := by intro e; simp [e, fx])
    (h3 : hp0 (.c V 0 1) = some (.trow e 1 false (byrows l)) → hp (.c V 0 1) = some (.trow e 1 false (byrows l)) := by intro e; simp [e, fx]) : BldAt hp V T e l := by
  rcases h with ⟨rfl, h⟩ | ⟨hl, e1, e2⟩
  · exact .inl ⟨rfl, h1 h⟩
  · exact .inr ⟨hl, h2 e1, h3 e2⟩
theorem x_str (k : Nat) (L : Lays.n169 X.P ρ) (Y : Builder.Extra X.P ρ) (hf : ρ.f 169 = f) (hext : X.ext Vn = false) (hB : BldAt st.hp (.s k) (ρ.t 72) (ρ.t 5) l) (hd : d < X.n := by first | (simp; done) | fail)
    (ha : args.toList.map (ev (st.move (.s k) Vn)) = [.pt Vn 0] := by simp [fx]; first | done | rfl)
    (h : K ((st.mutc (.s k) Vn d noH).put (some d) (tx l))) :
    SemOp X ⟨some d, .call ⟨.value (.func f), args, Ts⟩, ty, pos, aft, g⟩ K E st := by
  subst hf
  have hB' := bld_move (a := 3) (b := 0) (c := 0) hB
  refine x_mutc (.s k) Vn (hext := hext) (hs := (bld_isSome hB')) (hd := hd) (ha := ha) (hF := str_fn L Y X.gl Vn l _ hB') (h := ?_)
  rintro y H' ⟨rfl, rfl⟩
  simpa [AV.tr] using h
end
def BadX (x : AV) : Prop := ∃ t y, x = .ifc t y ∧ (y = .agg [] ∨ ∃ v, y = .sc v)
def badQ (Q : Prop) : Nm → AV → (Nm → Option AO) → Prop := fun _ x _ => BadX x ∧ Q
theorem BadX.tr {x : AV} (h : BadX x) {f : Nm → Option Nm} : BadX (x.tr f) := by
  obtain ⟨t, y, rfl, h⟩ := h
  refine ⟨t, y.tr f, rfl, ?_⟩
  rcases h with rfl | ⟨v, rfl⟩
  · exact .inl rfl
  · exact .inr ⟨v, rfl⟩
theorem BadX.cln {x : AV} (h : BadX x) : x.cln = true := by
  obtain ⟨t, y, rfl, h⟩ := h
  rcases h with rfl | ⟨v, rfl⟩ <;> rfl
section
variable {X : Ctx} {st : St} {K : St → Prop} {E : AV → St → Prop} {d f : Nat} {ty : TypeId} {pos : String} {aft : Array Edge} {g : Option (Nat × Bool)} {args : Array Operand} {Ts : Array TypeId} {bs : List AV} {R : Nm → AV → (Nm → Option AO) → Prop} {Q : Prop}
theorem x_mutE (U : Nm) (hU : U.isU = true) (hext : X.ext U = true → st.hp U ≠ none) (hd : d < X.n := by first | (simp; done) | fail) (ha : args.toList.map (ev st) = bs := by simp [fx]; first | done | rfl)
    (hF : FnE X.P X.gl f (Nm.under U) bs (hsub U st.hp) R (badQ Q)) (hE : ∀ x s, BadX x → Q → E x s) (h : ∀ y H', R (.s d) y H' → K ((st.call d (Nm.under U) (hsub U st.hp) H').put (some d) y)) :
    SemOp X ⟨some d, .call ⟨.value (.func f), args, Ts⟩, ty, pos, aft, g⟩ K E st := by
  subst ha
  refine call_sem (D := Nm.under U) (H := hsub U st.hp) (R := R) (E0 := badQ Q) hF (ent_func hF.1 rfl) false ⟨rfl, fun j a a' h h' => ?_⟩ (fun n hn => ?_) (fun n hn => ?_) (fun n hn => ?_) (fun k i j he => ?_) (fun e he => by obtain rfl := Option.some.inj he; exact hd) (fun x H' hR => ?_) (fun x H' hx => hE _ _ hx.1 hx.2)
  · rw [h] at h'
    obtain rfl := Option.some.inj h'
    exact .refl _
  · cases hx : Nm.under U n with
    | false => rfl
    | true =>
      have h1 := under_usroot hU hx
      have h2 := Nm.sroot_under (a := .s d) rfl hn
      rw [h1] at h2
      cases h2
  · simp [hsub, hn]
  · simp only [hsub] at hn
    split at hn
    · assumption
    · exact absurd rfl hn
  · cases hx : Nm.under U (.u k i j) with
    | false => exact .inl rfl
    | true =>
      right
      have : Nm.u k i j = U := by cases U <;> simp [Nm.isU, Nm.under] at * <;> exact ⟨hx.1, hx.2.1, hx.2.2⟩
      simp only [hsub, hx, if_true]
      rw [this] at he ⊢
      exact hext he
  · exact h x H' hR
theorem x_mutcE (N V : Nm) (hV : V.isU = true := by rfl) (hN : N.isU = false := by rfl) (hNV : Nm.under V N = false := by first | (simp; done) | fail) (hext : X.ext V = false) (hs : (hsub V (st.move N V).hp V).isSome = true) (hd : d < X.n := by first | (simp; done) | fail)
    (ha : args.toList.map (ev (st.move N V)) = bs := by simp [fx]; first | done | rfl)
    (hF : FnE X.P X.gl f (Nm.under V) bs (hsub V (st.move N V).hp) R (badQ Q)) (hE : ∀ x s, BadX x → Q → E x s) (h : ∀ y H', R (.s d) y H' → K ((st.mutc N V d H').put (some d) (y.tr (mv V N)))) :
    SemOp X ⟨some d, .call ⟨.value (.func f), args, Ts⟩, ty, pos, aft, g⟩ K E st := by
  refine o_mv N V (.inl hN) (.inr hext) (o_mvPost V N (.inr hext) (.inl hN) ?_)
  refine x_mutE V hV (fun e => by rw [hext] at e; cases e) hd ha hF hE fun y H' hR => ?_
  rw [mutc_eq hV hNV hs]
  exact h y H' hR
theorem x_ownE (hd : d < X.n := by first | (simp; done) | fail) (ha : args.toList.map (ev st) = bs := by simp [fx]; first | done | rfl) (hF : FnE X.P X.gl f noD bs noH R (badQ Q)) (hE : ∀ x s, BadX x → Q → E x s) (h : ∀ y H', R (.s d) y H' → K ((st.call d noD noH H').put (some d) y)) :
    SemOp X ⟨some d, .call ⟨.value (.func f), args, Ts⟩, ty, pos, aft, g⟩ K E st := by
  subst ha
  refine call_sem (D := noD) (H := noH) (R := R) (E0 := badQ Q) hF (ent_func hF.1 rfl) false ⟨rfl, fun j a a' h h' => ?_⟩ (fun _ _ => rfl) (fun n hn => by cases hn) (fun n hn => absurd rfl hn) (fun k i j _ => .inl rfl) (fun e he => by obtain rfl := Option.some.inj he; exact hd) (fun x H' hR => ?_) (fun x H' hx => hE _ _ hx.1 hx.2)
  · rw [h] at h'
    obtain rfl := Option.some.inj h'
    exact .refl _
  · exact h x H' hR
end
end Go.Hm
end
section
namespace Go.Hm
open Go Go.RowKit
section
variable {X : Ctx} {st : St} {K : St → Prop} {E : AV → St → Prop} {d : Nat} {ty : TypeId} {pos : String} {aft : Array Edge} {g : Option (Nat × Bool)} {f : Nat} {args : Array Operand} {Ts : Array TypeId} {bs : List AV}
theorem kx_plain {x : AV} (hd : d < X.n := by first | (simp; done) | fail) (ha : args.toList.map (ev st) = bs := by simp [fx]; first | done | rfl | exact (Bool.not_not _).symm)
    (hF : FnOk X.P X.gl f bs (fun _ y _ => y = x)) (h : K ((st.kill (.s d)).put (some d) x)) : SemOp X ⟨some d, .call ⟨.value (.func f), args, Ts⟩, ty, pos, aft, g⟩ K E st := by
  refine SemOp.weak (x_own (K := fun s => ∃ H', s = (st.call d noD noH H').put (some d) x) hd ha hF ?_) ?_
  · rintro y H' rfl
    exact ⟨H', rfl⟩
  · rintro s ⟨H', rfl⟩
    refine ⟨(st.kill (.s d)).hp, fun m ob e => ?_, ?_⟩
    · simp only [St.kill, St.nm, hkl] at e
      simp only [St.put, St.call, St.nm]
      split at e
      · cases e
      · rename_i hu
        simp [hu, noD, cf_noD, e]
    · simpa only [St.put, St.call, St.nm, St.kill, cf_noD] using h
theorem b_id {P : Program} {T : TypeId} {zs : List AV} (_hq : zvals P T = some zs) (h : SemOp X ⟨some d, .alloc T, ty, pos, aft, g⟩ K E st) : SemOp X ⟨some d, .alloc T, ty, pos, aft, g⟩ K E st := h
end
theorem k_runp {G G' : Prop} (k : G') (h : KTag G' → G := by
  intro kk
  repeat' (first
    | refine w_seq ?_ | refine w_block ?_ | refine w_skip ?_ | refine w_label ?_ | refine w_reg fun K hK => ?_
    | ((with_reducible refine s_end hK ?_); clear hK K) | (with_reducible refine s_end hK ?_)
    | (with_reducible first | refine then_normal ?_ | refine in_normal ?_ | refine then_exit ?_ | refine in_exit ?_ | refine then_ret ?_ | refine in_ret ?_ | refine s_nil ?_ | refine in_other (by decide) ?_)
    | refine w_exit ?_
    | refine w_ret ?_
    | (with_reducible refine s_none ?_)
    | ((with_reducible refine g_id ?_); refine x_guard (h := ?_))
    | (with_reducible first | refine gx_tt ?_ | refine gx_ff ?_ | refine x_tf (h := ?_) | refine x_ft (h := ?_) | refine x_u (h := ?_) | refine x_assign (h := ?_) | refine x_box (h := ?_) | refine x_store0 (h := ?_) | refine x_append0 (h := ?_) | refine x_appendM (h := ?_) | refine x_append (h := ?_) | refine x_store (h := ?_) | refine x_make (h := ?_) | refine x_build (h := ?_))
    | ((with_reducible refine b_id b1 ?_); refine x_allocB (hq := b1) (h := ?_)) | (with_reducible refine x_alloc (h := ?_))
    | ((with_reducible refine o_idc c1 rfl ?_); refine kx_call (hF := c1) (h := ?_))
    | ((with_reducible refine o_idc c2 rfl ?_); refine kx_call (hF := c2) (h := ?_))
    | ((with_reducible refine o_idc c3 rfl ?_); refine kx_call (hF := c3) (h := ?_))
    | ((with_reducible refine o_idc c4 rfl ?_); refine kx_call (hF := c4) (h := ?_))
    | ((with_reducible refine o_idc c5 rfl ?_); refine kx_call (hF := c5) (h := ?_))
    | ((with_reducible refine o_idc c6 rfl ?_); refine kx_call (hF := c6) (h := ?_))
    | ((with_reducible refine o_idc d1 rfl ?_); refine kx_callh (hF := d1) (h := ?_))
    | ((with_reducible refine o_idc d2 rfl ?_); refine kx_callh (hF := d2) (h := ?_))
    | ((with_reducible refine o_idc d3 rfl ?_); refine kx_callh (hF := d3) (h := ?_))
    | ((with_reducible refine o_idc d4 rfl ?_); refine kx_callh (hF := d4) (h := ?_))
    | ((with_reducible refine o_idc e1 rfl ?_); refine kx_callg (hF := e1) (h := ?_))
    | ((with_reducible refine o_idc e2 rfl ?_); refine kx_callg (hF := e2) (h := ?_))
    | ((with_reducible refine o_idc p1 rfl ?_); refine kx_plain (hF := p1) (h := ?_))
    | ((with_reducible refine o_idc p2 rfl ?_); refine kx_plain (hF := p2) (h := ?_))
    | ((with_reducible refine o_idc p3 rfl ?_); refine kx_plain (hF := p3) (h := ?_))
    | ((with_reducible refine o_idc p4 rfl ?_); refine kx_plain (hF := p4) (h := ?_))
    | ((with_reducible refine o_idc p5 rfl ?_); refine kx_plain (hF := p5) (h := ?_))
    | ((with_reducible refine o_idc p6 rfl ?_); refine kx_plain (hF := p6) (h := ?_))
    | (with_reducible refine x_q (h := ?_))
    | (with_reducible refine gx_s (fun ht => ?_) (fun ht => ?_))
    | refine x_condt (h1 := ?_) | refine x_condf (h1 := ?_)
    | ((with_reducible refine a_end hK ?_); clear hK K) | (with_reducible refine a_end hK ?_)
    | ((with_reducible refine a_id ?_); first | refine xa_q (h := ?_) | refine xa_qt (h := ?_) | refine xa_qf (h := ?_) | refine xa_qu (h := ?_))
    | ((with_reducible refine a_id ?_); refine xa_gq (h1 := fun ht => ?_) (h2 := fun ht => ?_))
    | refine a_l rfl ?_ | refine a_l2 ?_ ?_ | (with_reducible refine And.intro ?_ ?_) | exact st_nil | refine xa_st (h2 := ?_)
    | fail)
  first | exact kk.h | (revert hK; revert K; exact kk.h)) : G := h ⟨k⟩
theorem k_rundp {G G' : Prop} (k : G') (h : KTag G' → G := by
  intro kk K hK
  repeat' (first
    | refine w_seq ?_ | refine w_block ?_ | refine w_skip ?_ | refine w_label ?_ | refine w_reg fun K hK => ?_
    | ((with_reducible refine s_end hK ?_); clear hK K) | (with_reducible refine s_end hK ?_)
    | (with_reducible first | refine then_normal ?_ | refine in_normal ?_ | refine then_exit ?_ | refine in_exit ?_ | refine then_ret ?_ | refine in_ret ?_ | refine s_nil ?_ | refine in_other (by decide) ?_)
    | refine w_exit ?_
    | refine w_ret ?_
    | (with_reducible refine s_none ?_)
    | ((with_reducible refine g_id ?_); refine x_guard (h := ?_))
    | (with_reducible first | refine gx_tt ?_ | refine gx_ff ?_ | refine x_tf (h := ?_) | refine x_ft (h := ?_) | refine x_u (h := ?_) | refine x_assign (h := ?_) | refine x_box (h := ?_) | refine x_store0 (h := ?_) | refine x_append0 (h := ?_) | refine x_appendM (h := ?_) | refine x_append (h := ?_) | refine x_store (h := ?_) | refine x_make (h := ?_) | refine x_build (h := ?_))
    | ((with_reducible refine b_id b1 ?_); refine x_allocB (hq := b1) (h := ?_)) | (with_reducible refine x_alloc (h := ?_))
    | ((with_reducible refine o_idc c1 rfl ?_); refine kx_call (hF := c1) (h := ?_))
    | ((with_reducible refine o_idc c2 rfl ?_); refine kx_call (hF := c2) (h := ?_))
    | ((with_reducible refine o_idc c3 rfl ?_); refine kx_call (hF := c3) (h := ?_))
    | ((with_reducible refine o_idc c4 rfl ?_); refine kx_call (hF := c4) (h := ?_))
    | ((with_reducible refine o_idc c5 rfl ?_); refine kx_call (hF := c5) (h := ?_))
    | ((with_reducible refine o_idc c6 rfl ?_); refine kx_call (hF := c6) (h := ?_))
    | ((with_reducible refine o_idc d1 rfl ?_); refine kx_callh (hF := d1) (h := ?_))
    | ((with_reducible refine o_idc d2 rfl ?_); refine kx_callh (hF := d2) (h := ?_))
    | ((with_reducible refine o_idc d3 rfl ?_); refine kx_callh (hF := d3) (h := ?_))
    | ((with_reducible refine o_idc d4 rfl ?_); refine kx_callh (hF := d4) (h := ?_))
    | ((with_reducible refine o_idc e1 rfl ?_); refine kx_callg (hF := e1) (h := ?_))
    | ((with_reducible refine o_idc e2 rfl ?_); refine kx_callg (hF := e2) (h := ?_))
    | ((with_reducible refine o_idc p1 rfl ?_); refine kx_plain (hF := p1) (h := ?_))
    | ((with_reducible refine o_idc p2 rfl ?_); refine kx_plain (hF := p2) (h := ?_))
    | ((with_reducible refine o_idc p3 rfl ?_); refine kx_plain (hF := p3) (h := ?_))
    | ((with_reducible refine o_idc p4 rfl ?_); refine kx_plain (hF := p4) (h := ?_))
    | ((with_reducible refine o_idc p5 rfl ?_); refine kx_plain (hF := p5) (h := ?_))
    | ((with_reducible refine o_idc p6 rfl ?_); refine kx_plain (hF := p6) (h := ?_))
    | (with_reducible refine x_q (h := ?_))
    | (with_reducible refine gx_s (fun ht => ?_) (fun ht => ?_))
    | refine x_condt (h1 := ?_) | refine x_condf (h1 := ?_)
    | ((with_reducible refine a_end hK ?_); clear hK K) | (with_reducible refine a_end hK ?_)
    | ((with_reducible refine a_id ?_); first | refine xa_q (h := ?_) | refine xa_qt (h := ?_) | refine xa_qf (h := ?_) | refine xa_qu (h := ?_))
    | ((with_reducible refine a_id ?_); refine xa_gq (h1 := fun ht => ?_) (h2 := fun ht => ?_))
    | refine a_l rfl ?_ | refine a_l2 ?_ ?_ | (with_reducible refine And.intro ?_ ?_) | exact st_nil | refine xa_st (h2 := ?_)
    | fail)
  first | exact kk.h | (revert hK; revert K; exact kk.h)) : G := h ⟨k⟩
section
variable {P : Program} {gl : Nat → Option (List AV)} {f : FuncId} {D : Nm → Bool} {bs : List AV} {H : Nm → Option AO} {R : Nm → AV → (Nm → Option AO) → Prop}
theorem store_run {o : Oper} {a : Go.Act} {w : World} {N : Go.Act → World → Prop} {T : TypeId} {x y : Operand} (h : o.wp P a w N (fun _ _ _ => False)) (ho : o.op = .store T x y) (hd : o.dst = none) : ∃ w1, (Instr.storeAt T (a.eval x) (a.eval y)).run P w = .ok () w1 ∧ N a w1 := by
  unfold Oper.wp at h
  simp only [execOp, ho, Sem.run_bind] at h
  cases hr : (Instr.storeAt T (a.eval x) (a.eval y)).run P w with
  | ok u w1 =>
    rw [hr] at h
    refine ⟨w1, rfl, ?_⟩
    simp only [Result.andThen_ok, Sem.run_pure, Oper.upon_skip, hd] at h
    exact h
  | halt s w1 =>
    rw [hr] at h
    cases s <;> exact (show False from h).elim
def retPost (P : Program) (D : Nm → Bool) (root : Nm) (rs : List ResultVar) (R : Nm → AV → (Nm → Option AO) → Prop) (st : St) : Prop := ∃ sbs xs, OkS D root sbs ∧ resL P st rs = some xs ∧ R root ((res1 xs).tr (finf D sbs)) (finH D sbs st.hp)
def doorPost (X : Ctx) (P : Program) (D : Nm → Bool) (root : Nm) (rs : List ResultVar) (R : Nm → AV → (Nm → Option AO) → Prop) (t F s1 s2 : Nat) (n1 n2 : Nm) (o1 o2 : Oper) : Ex → St → Prop
  | .ret, st => st.tm t = .fn (.func F) [] [.pt n1 0, .pt n2 0] ∧ retPost P D root rs R st
  | .pan x, st => st.tm t = .fn (.func F) [] [.pt n1 0, .pt n2 0] ∧ st.tm s1 = .pt n1 0 ∧ st.tm s2 = .pt n2 0 ∧ BadX x ∧ SemOp X o1 (SemOp X o2 (retPost P D root rs R) (fun _ _ => False)) (fun _ _ => False) st
  | _, _ => False
theorem rw_ret {C : Nat → Prop} {w : World} {g : Gh} {n : Nat} {root : Nm} {fn : Func} {rs : List ResultVar} {st : St} {a : Go.Act} {w' : World} (hrs : fn.results.toList = rs) (hroot : ∀ m, Nm.under root m = true → D m = false) (hHD : ∀ m, H m ≠ none → D m = true) (hD : ∀ m, D m = true → m.sroot = false)
    (hR : Rw (ctx0 P C w g H n gl) st a w') (hq : retPost P D root rs R st) :
    a.defers = [] ∧ ∃ v, (results fn a.tmps).run P w' = .ok v w' ∧ ∃ C' g' H' x, After (ownH g H) C w g D root H H' C' g' w' ∧ RV g' w' v x ∧ R root x H' := by
  have key : ∀ {st : St} {a : Go.Act} {w' : World} {C' : Nat → Prop} {g1 : Gh} (sbs : List (Nm × Nm)), OkS D root sbs → (∀ b, C b → C' b) → (∀ b, C' b → C b ∨ w.heap.size ≤ b ∨ ownH g H b) → Ext (ctx0 P C w g H n gl) g1 → Rg P (ownH g H) C' w g1 st a w' →
      ∃ g', After (ownH g H) C w g D root H (finH D sbs st.hp) C' g' w' ∧ ∀ v x, RV g1 w' v x → RV g' w' v (x.tr (finf D sbs)) := by
    intro st a w' C' g1 sbs hok hC1 hC2 hext hr
    have hinj := finf_inj (D := D) hroot hok.tgt hok.dis
    let g' : Gh := { C := g1.C, φ := fun m => if D m || Nm.under root m then (g1.tr (finf D sbs)).φ m else g.φ m, κ := fun m => if D m || Nm.under root m then (g1.tr (finf D sbs)).κ m else g.κ m }
    have img : ∀ m m', finf D sbs m = some m' → (D m' || Nm.under root m') = true := by
      intro m m' e
      rcases finf_img hok.tgt e with ⟨h1, rfl⟩ | ⟨p, hp, hp2⟩
      · simp [h1]
      · simp [Nm.under_trans (hok.tgt p hp) hp2]
    have gf : ∀ m m', finf D sbs m = some m' → g'.φ m' = g1.φ m ∧ g'.κ m' = g1.κ m := by
      intro m m' e
      simp only [g', img m m' e, if_true]
      exact Gh.tr_spec hinj e
    have old : ∀ m' o', finH D sbs st.hp m' = some o' → ∃ m o, finf D sbs m = some m' ∧ st.hp m = some o ∧ o' = o.tr (finf D sbs) := by
      intro m' o' e
      unfold finH at e
      split at e
      · rename_i hm
        obtain ⟨o, e1, rfl⟩ := Option.map_eq_some_iff.1 e
        exact ⟨m', o, finf_D hD hm hok.src, e1, rfl⟩
      · split at e
        · rename_i q hq
          split at e
          · rename_i hc
            obtain ⟨o, e1, rfl⟩ := Option.map_eq_some_iff.1 e
            exact ⟨q, o, hc, e1, rfl⟩
          · cases e
        · cases e
    have hs := hr.step (g' := g') (w' := w') (f := finf D sbs) (hp' := finH D sbs st.hp) rfl gf rfl rfl rfl (Nat.le_refl _) (fun _ _ => rfl) (fun _ _ _ => rfl) (fun m' o' e => by
      obtain ⟨m, o, e1, e2, e3⟩ := old m' o' e
      exact .inl ⟨m, o, e1, e2, e3, fun _ _ => rfl⟩)
    refine ⟨g', ⟨hC1, hC2, hs.inv, fun m hm => ?_, fun m h1 h2 => by simp [g', h1, h2], fun k i j hk => ?_⟩, fun v x hv => hr.rv (g' := g') rfl (fun _ _ => rfl) gf hv⟩
    · obtain ⟨o', ho'⟩ := Option.ne_none_iff_exists'.1 hm
      obtain ⟨m0, o, e1, _, _⟩ := old m o' ho'
      have := img m0 m e1
      simpa using this
    · have hd := hHD _ hk
      obtain ⟨x1, x2⟩ := gf _ _ (finf_D hD hd hok.src)
      have he : (ctx0 P C w g H n gl).ext (.u k i j) = true := by
        obtain ⟨o', ho'⟩ := Option.ne_none_iff_exists'.1 hk
        simp [ctx0, ho']
      obtain ⟨y1, y2⟩ := hext k i j he
      exact ⟨x1.trans y1, x2.trans y2⟩
  obtain ⟨C', g1, h1, h2, _, _, h5, hr⟩ := hR
  obtain ⟨sbs, xs, hok, hx, hRx⟩ := hq
  obtain ⟨g', k1, k2⟩ := key sbs hok h1 h2 h5 hr
  obtain ⟨v, hrun, hv⟩ := run_results (fn := fn) hr (by rw [hrs]; exact hx)
  exact ⟨hr.defers, v, hrun, C', g', _, _, k1, k2 v _ hv, hRx⟩
theorem rv_clo {g : Gh} {w : World} {v : Value} {F : FuncId} {n1 n2 : Nm} (h : RV g w v (.fn (.func F) [] [.pt n1 0, .pt n2 0])) :
    ∃ b1 b2, v = .func (.func F) #[] #[.pointer (some ⟨b1, 0, none⟩), .pointer (some ⟨b2, 0, none⟩)] ∧ g.φ n1 = some b1 ∧ g.φ n2 = some b2 := by
  cases h with
  | fn _ vs us _ _ l1 l2 r1 r2 =>
    obtain rfl := List.eq_nil_of_length_eq_zero (by simpa using l1)
    rcases us with _ | ⟨u1, _ | ⟨u2, _ | ⟨u3, tl⟩⟩⟩
    · simp at l2
    · simp at l2
    · have q1 := r2 0 u1 _ rfl rfl
      have q2 := r2 1 u2 _ rfl rfl
      cases q1 with
      | pt _ _ b1 k1 =>
      cases q2 with
      | pt _ _ b2 k2 => exact ⟨b1, b2, rfl, k1, k2⟩
    · simp at l2
theorem rv_pt {g : Gh} {w : World} {v : Value} {n : Nm} (h : RV g w v (.pt n 0)) : ∃ b, v = .pointer (some ⟨b, 0, none⟩) ∧ g.φ n = some b := by
  cases h with
  | pt _ _ b k => exact ⟨b, rfl, k⟩
theorem FnE.of_door {fn : Func} {c : Code} {rs : List ResultVar} {n t F s1 s2 : Nat} {T1 T2 : TypeId} {v1 v2 : Value} {n1 n2 : Nm} {o1 o2 : Oper}
    (hf : P.funcs[f]? = some fn) (hb : fn.body = some c) (hname : (fn.name == "runtime.NumGoroutine") = false) (hrs : fn.results.toList = rs) (hn : fn.ntmps = n) (hle : bs.length ≤ n) (hD : ∀ m, D m = true → m.sroot = false) (hF : Callable P F)
    (ho1 : o1.op = .store T1 (.tmp s1) (.const v1)) (hd1 : o1.dst = none) (ho2 : o2.op = .store T2 (.tmp s2) (.const v2)) (hd2 : o2.dst = none)
    (idle : ∀ (b1 b2 : Nat) (w : World), CallsD P F #[.pointer (some ⟨b1, 0, none⟩), .pointer (some ⟨b2, 0, none⟩)] .returning w fun e u' w' => e = .returned (.tuple #[]) ∧ u' = .returning ∧ w' = w)
    (catch_ : ∀ (b1 b2 : Nat) (ty : TypeId) (pv : Value) (w w1 w2 : World), (Instr.storeAt T1 (.pointer (some ⟨b1, 0, none⟩)) v1).run P w = .ok () w1 → (Instr.storeAt T2 (.pointer (some ⟨b2, 0, none⟩)) v2).run P w1 = .ok () w2 →
      CallsD P F #[.pointer (some ⟨b1, 0, none⟩), .pointer (some ⟨b2, 0, none⟩)] (.panicking [{ v := .iface ty pv, recovered := false }]) w fun e u' w' => e = .returned (.tuple #[]) ∧ u' = .panicking [{ v := .iface ty pv, recovered := true }] ∧ w' = w2)
    (h : ∀ C w g root, (∀ m, Nm.under root m = true → D m = false) → ∀ a w', Rw (ctx0 P C w g H n gl) (st0 bs H n gl) a w' → c.wp P (postSD (ctx0 P C w g H n gl) t (doorPost (ctx0 P C w g H n gl) P D root rs R t F s1 s2 n1 n2 o1 o2)) a w') : FnE P gl f D bs H R noE := by
  refine ⟨⟨fn, hf, hname, by rw [hb]; rfl⟩, fun root C w g args hroot hru hHD hinv hgl hsz hargs => ?_⟩
  have hstart : Rw (ctx0 P C w g H n gl) (st0 bs H n gl) { tmps := args ++ Array.replicate (fn.ntmps - args.size) undef, defers := [] } w := by
    refine ⟨C, g, fun _ h => h, fun _ h => .inl h, rfl, rfl, fun _ _ _ _ => ⟨rfl, rfl⟩, hinv, rfl, ?_, ?_, hgl⟩
    · simp [st0]
      omega
    · intro t
      simp only [st0]
      by_cases ht : t < args.size
      · have h1 : bs[t]? = some (bs[t]'(by omega)) := gE _
        have h2 : (args ++ Array.replicate (fn.ntmps - args.size) undef).getD t undef = args[t] := by
          rw [Array.getD_eq_getD_getElem?, Array.getElem?_append_left ht, Array.getElem?_eq_getElem ht]; rfl
        rw [h2, List.getD_eq_getElem?_getD, h1]
        exact hargs t _ _ (Array.getElem?_eq_getElem ht) h1
      · have h1 : bs[t]? = none := List.getElem?_eq_none (by omega)
        have h2 : (args ++ Array.replicate (fn.ntmps - args.size) undef).getD t undef = undef := by
          rw [Array.getD_eq_getD_getElem?, Array.getElem?_append_right (by omega), Array.getElem?_replicate]
          split <;> rfl
        rw [h2, List.getD_eq_getElem?_getD, h1]
        exact RV.sc _
  refine calls_of_wp_defers hf hb (wp_mono (h C w g root hroot _ _ hstart) fun e a w' he => ?_)
  have inv : ∀ b1 b2 : Nat, ∀ w0 : World, (invoke (.fn (.func F) #[.pointer (some ⟨b1, 0, none⟩), .pointer (some ⟨b2, 0, none⟩)]) (#[] ++ #[])).run P w0 = .ok (.enter F #[.pointer (some ⟨b1, 0, none⟩), .pointer (some ⟨b2, 0, none⟩)]) w0 := by
    intro b1 b2 w0
    simp [invoke, run_callFunc hF]
  cases e with
  | ret =>
    obtain ⟨st, ⟨hdf, hR⟩, hfn, hq⟩ := he
    obtain ⟨hd0, v, hrun, hrest⟩ := rw_ret hrs hroot hHD hD hR hq
    have hv : ∃ b1 b2, a.tmps.getD t undef = .func (.func F) #[] #[.pointer (some ⟨b1, 0, none⟩), .pointer (some ⟨b2, 0, none⟩)] := by
      obtain ⟨C', g1, _, _, _, _, _, hr⟩ := hR
      have hs := hr.slots t
      rw [hfn] at hs
      obtain ⟨b1, b2, e, _⟩ := rv_clo hs
      exact ⟨b1, b2, e⟩
    obtain ⟨b1, b2, hv⟩ := hv
    rw [hv] at hdf
    show Leaves P fn a.tmps _ a.defers .returning w'
    rw [hdf]
    refine leaves_cons (by simp) (inv b1 b2 w') ((idle b1 b2 w').mono ?_)
    rintro e u' w'' ⟨rfl, rfl, rfl⟩
    exact ⟨v, hrun, hrest⟩
  | panic ch =>
    obtain ⟨st, v, x, ⟨hdf, hRV⟩, rfl, hfn, hs1, hs2, hbad, hop⟩ := he
    obtain ⟨C', g1, q1, q2, q3, q4, q5, hr, hvx⟩ := hRV
    have hR : Rw (ctx0 P C w g H n gl) st (wd a) w' := ⟨C', g1, q1, q2, q3, q4, q5, hr⟩
    obtain ⟨b1, b2, hv, k1, k2⟩ := rv_clo (by have := hr.slots t; rwa [hfn] at this)
    have e1 : (wd a).eval (.tmp s1) = .pointer (some ⟨b1, 0, none⟩) := by
      have := hr.slots s1
      rw [hs1] at this
      obtain ⟨b, e, hb⟩ := rv_pt this
      rw [k1] at hb
      obtain rfl := Option.some.inj hb
      exact e
    have e2 : (wd a).eval (.tmp s2) = .pointer (some ⟨b2, 0, none⟩) := by
      have := hr.slots s2
      rw [hs2] at this
      obtain ⟨b, e, hb⟩ := rv_pt this
      rw [k2] at hb
      obtain rfl := Option.some.inj hb
      exact e
    obtain ⟨w1, r1, st1, hR1, hop2⟩ := store_run (hop (wd a) w' (fun _ _ _ => False) hR (fun _ _ _ _ _ h => h.elim)) ho1 hd1
    obtain ⟨w2, r2, st2, hR2, hq⟩ := store_run (hop2 (wd a) w1 (fun _ _ _ => False) hR1 (fun _ _ _ _ _ h => h.elim)) ho2 hd2
    rw [e1] at r1
    rw [e2] at r2
    obtain ⟨hd0, u, hrun, hrest⟩ := rw_ret hrs hroot hHD hD hR2 hq
    obtain ⟨ty, y, rfl, _⟩ := hbad
    cases hvx with
    | ifc _ pv _ hpv =>
      have hv' : a.tmps.getD t undef = .func (.func F) #[] #[.pointer (some ⟨b1, 0, none⟩), .pointer (some ⟨b2, 0, none⟩)] := hv
      rw [hv'] at hdf
      show Leaves P fn a.tmps _ a.defers (.panicking _) w'
      rw [hdf]
      refine leaves_cons (by simp) (inv b1 b2 w') ((catch_ b1 b2 ty pv w' w1 w2 r1 r2).mono ?_)
      rintro e u' w'' ⟨rfl, rfl, rfl⟩
      exact ⟨u, hrun, hrest⟩
  | normal => obtain ⟨_, _, hQ⟩ := he; exact hQ.elim
  | exit id => obtain ⟨_, _, hQ⟩ := he; exact hQ.elim
  | goto l => obtain ⟨_, _, hQ⟩ := he; exact hQ.elim
  | outgrown => exact he.elim
end
end Go.Hm
end
section
namespace Go.Hm
open Go Go.RowKit
section
variable {P : Program} {own : Nat → Prop} {C : Nat → Prop} {w0 : World} {g : Gh} {st : St} {a : Go.Act} {w : World}
theorem Rg.reO (h : Rg P own C w0 g st a w) {n : Nm} {o o' : AO} (hn : st.hp n = some o) (ho : OAt g w n o') : Rg P own C w0 g (st.setO n o') a w := by
  obtain ⟨i, hd, hs, hsl, hgl⟩ := h
  have key : ∀ k q, (st.setO n o').hp k = some q → ∃ q', st.hp k = some q' ∧ ((k = n ∧ q = o') ∨ (k ≠ n ∧ q = q')) := by
    intro k q e
    simp only [St.setO] at e
    split at e
    · rename_i e'; subst e'; exact ⟨o, hn, .inl ⟨rfl, (Option.some.inj e).symm⟩⟩
    · rename_i hne; exact ⟨q, e, .inr ⟨hne, rfl⟩⟩
  refine ⟨⟨i.os, i.tape, i.output, i.size, i.keep, i.hC, i.clt, ?_, ?_, ?_⟩, hd, hs, hsl, hgl⟩
  · intro k q e
    obtain ⟨q', e1, h1 | h1⟩ := key k q e
    · obtain ⟨rfl, rfl⟩ := h1; exact ho
    · obtain ⟨_, rfl⟩ := h1; exact i.obj k q e1
  · intro k q b e hk
    obtain ⟨q', e1, _⟩ := key k q e
    exact i.blk k q' b e1 hk
  · intro k k' q q' b e e' hk hk'
    obtain ⟨p, e1, _⟩ := key k q e
    obtain ⟨p', e1', _⟩ := key k' q' e'
    exact i.inj k k' p p' b e1 e1' hk hk'
def St.cellN (st : St) (n : Nm) (z : Nat) (rows : List (List AV)) (i j : Nat) (m : Nm) (z' : Nat) : St :=
  ((st.kill m).setO m (.row z' [])).setO n (.row z (rowsSet (rows.map fun r => r.map (AV.tr (kl m))) i j [.hs m z' 0 0]))
theorem Rg.cellN (h : Rg P own C w0 g st a w) {n m : Nm} {z z' i j : Nat} {rows : List (List AV)} {r : List AV} (hn : st.hp n = some (.row z rows)) (hi : rows[i]? = some r) (hj : r[j]? = some (.sc (.slice none 0 0))) (hne : n ≠ m) (hnm : Nm.under m n = false) (hu : m.isU = false) :
    ∃ g', Rg P own C w0 g' (st.cellN n z rows i j m z') a w ∧ Ust g g' := by
  obtain ⟨g', h1, h2, h3, h4⟩ := h.nilO m z'
  have hn' : ((st.kill m).setO m (.row z' [])).hp n = some (.row z (rows.map fun r => r.map (AV.tr (kl m)))) := by
    simp [St.setO, St.kill, St.nm, hkl, hne, hnm, hn, AO.tr]
  have ho := h1.inv.obj n _ hn'
  have hil := (gS hi).1
  have hjl := (gS hj).1
  refine ⟨g', h1.reO hn' ?_, h3 hu⟩
  simp only [OAt] at ho ⊢
  cases hφ : g'.φ n with
  | none =>
    rw [hφ] at ho
    simp only at ho
    have : rows = [] := by simpa using ho
    subst this
    simp at hil
  | some b =>
    rw [hφ] at ho
    obtain ⟨cur, T, c1, c2, c3, c4, c5, c6, c7⟩ := ho
    have hrow : (rows.map fun r => r.map (AV.tr (kl m)))[i]? = some (r.map (AV.tr (kl m))) := by simp [hi]
    have hrl : (r.map (AV.tr (kl m))).length = z := c5 _ (List.mem_of_getElem? hrow)
    have hz : r.length = z := by simpa using hrl
    have hcell : cur.getD (i * z + j) undef = .slice none 0 0 := by
      have := c7 i _ hrow j (.sc (.slice none 0 0)) (by simp [hj, AV.tr])
      exact this.sc_eq
    refine ⟨cur, T, c1, c2, c3, by simpa [rowsSet] using c4, ?_, ?_, ?_⟩
    · intro q hq
      obtain ⟨k, hk⟩ := List.getElem?_of_mem hq
      simp only [rowsSet, List.getElem?_modify] at hk
      obtain ⟨q0, e0, e1⟩ := Option.map_eq_some_iff.1 hk
      have hq0 : q0.length = z := c5 _ (List.mem_of_getElem? e0)
      by_cases e : i = k
      · simp only [e, if_true] at e1
        subst e1
        simp
        omega
      · simp only [e, if_false] at e1
        subst e1
        exact hq0
    · simpa [rowsSet] using c6
    · intro k q hq j' x hx
      simp only [rowsSet, List.getElem?_modify] at hq
      obtain ⟨q0, e0, e1⟩ := Option.map_eq_some_iff.1 hq
      by_cases e : i = k
      · subst e
        simp only [if_true] at e1
        rw [hrow] at e0
        obtain rfl := Option.some.inj e0
        subst e1
        have hset : (r.map (AV.tr (kl m))).take j ++ [AV.hs m z' 0 0] ++ (r.map (AV.tr (kl m))).drop (j + [AV.hs m z' 0 0].length) = (r.map (AV.tr (kl m))).set j (.hs m z' 0 0) := by
          rw [List.set_eq_take_append_cons_drop, if_pos (by simpa using hjl)]
          simp
        rw [hset, List.getElem?_set] at hx
        by_cases ej : j = j'
        · subst ej
          rw [if_pos rfl, if_pos (by simpa using hjl)] at hx
          obtain rfl := Option.some.inj hx
          rw [hcell]
          exact h2
        · rw [if_neg ej] at hx
          exact c7 i _ hrow j' x hx
      · simp only [e, if_false] at e1
        subst e1
        exact c7 k _ e0 j' x hx
end
section
variable {X : Ctx} {st : St} {a : Go.Act} {w : World} {K : St → Prop} {E : AV → St → Prop} {ds : List (Option Nat)} {l : List Oper} {o : Oper} {c : Code} {Q : Ex → St → Prop} {n : Nm} {z : Nat} {rows : List (List AV)} {r : List AV}
theorem Rw.cellN (h : Rw X st a w) (i j : Nat) (m : Nm) (z' : Nat) (hn : st.hp n = some (.row z rows)) (hi : rows[i]? = some r) (hj : r[j]? = some (.sc (.slice none 0 0))) (hne : n ≠ m) (hnm : Nm.under m n = false) (hu : m.isU = false) : Rw X (st.cellN n z rows i j m z') a w := by
  obtain ⟨C, g, e1, e2, e3, e4, e5, hr⟩ := h
  obtain ⟨g', h1, h2⟩ := hr.cellN (z' := z') hn hi hj hne hnm hu
  exact ⟨C, g', e1, e2, e3, e4, e5.step h2, h1⟩
end
@[simp] theorem bldSt_eq {T : TypeId} {d : Nat} {st : St} : bldSt T d st = ((st.kill (.s d)).setO (.s d) (.trow T 2 true [[.sc (.pointer none), .sc (.slice none 0 0)]])).put (some d) (.pt (.s d) 0) := rfl
section
variable {n : Int} {ns : List Int} {s : Stm} {k : Blk} {p : Prg} {w : Txt} {ls : List Txt} {b i : Nat}
theorem linesL_snoc : linesL 10 (ls ++ [w]) = linesL 10 ls ++ (w ++ [10]) := by simp [linesL]
end
end Go.Hm
end
section
namespace Go.Hm
open Go Go.RowKit
section
variable {X : Ctx} {st : St} {K : St → Prop} {E : AV → St → Prop} {ty : TypeId} {pos : String} {aft : Array Edge} {g : Option (Nat × Bool)} {dst : Option Nat} {x : Operand} {t : TypeId} {y : AV}
theorem x_pan (hx : ev st x = .ifc t y := by simp [fx]; first | done | rfl) (h : E (.ifc t y) st) : SemOp X ⟨dst, .panic x, ty, pos, aft, g⟩ K E st := by
  intro a w Q hR hQ
  have hR' := hR
  obtain ⟨C, g1, h1, h2, h3, h4, h5, hg⟩ := hR
  have hv := hg.ev x
  rw [hx] at hv
  have hv' := hv
  generalize hu : a.eval x = u at hv
  cases hv with
  | ifc _ v _ hv1 =>
    have hrun : (execOp a.eval (⟨dst, .panic x, ty, pos, aft, g⟩ : Oper)).run X.P w = .halt (.panic (.iface t v)) w := by
      simp [execOp, hu, run_panic_iface]
    unfold Oper.wp
    rw [hrun, Oper.upon_panic]
    refine hQ _ w st (.ifc t y) ⟨C, g1, h1, h2, h3, h4, h5, hg, ?_⟩ h
    rw [hu] at hv'
    exact hv'
end
theorem dval_le {s : Txt} (hl : s.length ≤ 1) (h : ∀ c ∈ s, 48 ≤ c.toNat ∧ c.toNat ≤ 57) : dval s ≤ 9 := by
  rcases s with _ | ⟨a, _ | ⟨b, l⟩⟩
  · simp [dval]
  · have := h a (by simp)
    simp only [dval, List.foldl_cons, List.foldl_nil]
    omega
  · simp at hl
theorem split_len {c : UInt8} {s : Txt} : (splitL c s).length ≤ s.length + 1 := by
  induction s with
  | nil => simp [splitL]
  | cons x l ih =>
    rw [splitL]
    split
    · simp; omega
    · split
      · rename_i w ws e
        rw [e] at ih
        simp at ih ⊢
        omega
      · simp
theorem split_part {c : UInt8} {s : Txt} : ∀ w ∈ splitL c s, w.length ≤ s.length := by
  induction s with
  | nil => simp [splitL]
  | cons x l ih =>
    intro w hw
    rw [splitL] at hw
    split at hw
    · rw [List.mem_cons] at hw
      rcases hw with rfl | hw
      · simp
      · have := ih w hw; simp; omega
    · split at hw
      · rename_i u us e
        rw [List.mem_cons] at hw
        rcases hw with rfl | hw
        · have := ih u (by rw [e]; simp)
          simp; omega
        · have := ih w (by rw [e]; simp [hw])
          simp; omega
      · rw [List.mem_singleton] at hw
        subst hw
        simp
def onN (K : St → Prop) : Ex → St → Prop
  | .normal, s => K s
  | _, _ => False
section
variable {X : Ctx} {st : St} {K : St → Prop} {E : AV → St → Prop} {d f : Nat} {ty : TypeId} {pos : String} {aft : Array Edge} {g : Option (Nat × Bool)} {args : Array Operand} {Ts : Array TypeId} {bs : List AV} {R : Nm → AV → (Nm → Option AO) → Prop} {Q : Prop}
theorem w_pre {x y : Code} {Q : Exit → Go.Act → World → Prop} (h : SemCode X x (onN fun s => ∀ a w, Rw X s a w → y.wp X.P Q a w) st) {a : Go.Act} {w : World} (hR : Rw X st a w) : (Code.seq x y).wp X.P Q a w := by
  refine wp_seq (wp_mono (h a w hR) fun e a' w' he => ?_)
  cases e with
  | normal => obtain ⟨st', hR', hQ⟩ := he; exact hQ a' w' hR'
  | exit id => obtain ⟨_, _, hQ⟩ := he; exact hQ.elim
  | goto l => obtain ⟨_, _, hQ⟩ := he; exact hQ.elim
  | ret => obtain ⟨_, _, hQ⟩ := he; exact hQ.elim
  | panic ch => obtain ⟨_, _, _, _, _, hQ⟩ := he; exact hQ.elim
  | outgrown => exact he.elim
theorem x_ownP (hd : d < X.n := by first | (simp; done) | fail) (ha : args.toList.map (ev st) = bs := by simp [fx]; first | done | rfl) (hF : FnE X.P X.gl f noD bs noH R (badQ Q)) (hE : ∀ x H', BadX x → Q → E x (st.call d noD noH H')) (h : ∀ y H', R (.s d) y H' → K ((st.call d noD noH H').put (some d) y)) :
    SemOp X ⟨some d, .call ⟨.value (.func f), args, Ts⟩, ty, pos, aft, g⟩ K E st := by
  subst ha
  refine call_sem (D := noD) (H := noH) (R := R) (E0 := badQ Q) hF (ent_func hF.1 rfl) false ⟨rfl, fun j a a' h h' => ?_⟩ (fun _ _ => rfl) (fun n hn => by cases hn) (fun n hn => absurd rfl hn) (fun k i j _ => .inl rfl) (fun e he => by obtain rfl := Option.some.inj he; exact hd) (fun x H' hR => ?_) (fun x H' hx => ?_)
  · rw [h] at h'
    obtain rfl := Option.some.inj h'
    exact .refl _
  · exact h x H' hR
  · exact hE x H' hx.1 hx.2
end
end Go.Hm
end
section
namespace Go.Hm
open Go
theorem handed_laid_shaped {H : Type} {enc : TypeId × Value → H} {a : Assume} {C : Checked} {os : Os} {f : FuncId} {fn : Func} {s : ChangeSpec} {conds : List PathCond} {apart fresh handsOn again : Bool} {X : World → Array Value → Prop}
    (hX : ∀ (w w' : World) (args : Array Value), w.heap = w'.heap → X w args → X w' args)
    (own : ownKnob C.prog.godebug = none) (started : os.Started) (noInit : C.prog.inits.idxOf? f = none) (hfn : C.prog.funcs[f]? = some fn)
    (witness : ∃ (w : World) (tape : Tape) (i : Input), w.os = os ∧ (w.forCall tape i).Shaped C.prog ∧ i.vars = [] ∧ Input.okWide C.prog (w.forCall tape i) .any w.heap.size f i ∧
      ((s.pre enc C.prog fn conds apart (w.forCall tape i).memory i.args ∧ X (w.forCall tape i).memory i.args) ∧ sizedMet enc C.prog fn (OpenSpec.ofChange s) apart (w.forCall tape i).memory i.args) ∧ a.holds C.prog (lone (Frame.enter C.prog f i.args .normal) [] (w.forCall tape i)))
    (contract : ∀ (W : World) (base : Nat) (args : Array Value) (ds gs : List (DataW H)) (before : List MemPlace), W.ShapedOpen C.prog →
      (∀ (j : Nat) t v, fn.params[j]? = some t → args[j]? = some v → Value.okWide C.prog W .any base t v) →
      DataW.Whole enc C.prog fn.params.toList s.vars apart W args.toList ds gs before →
      conds.all (PathCond.test C.prog ⟨fn.params.toList, ds, s.plain.varTypes C.prog, gs⟩) = true →
      (DataW.weightsEach C.prog (fn.params.toList ++ s.plain.varTypes C.prog) (ds ++ gs)).all (· ≤ reachBytes) = true → X W args →
      a.holds C.prog (lone (Frame.enter C.prog f args .normal) [] W) →
      Calls C.prog f args W fun e W' => ∃ v, e = .returned v ∧ s.post enc C.prog fn apart fresh handsOn again W args v W') :
    ReturnsInHanded a C os f .any (fun w args => (s.pre enc C.prog fn conds apart w args ∧ X w args) ∧ sizedMet enc C.prog fn (OpenSpec.ofChange s) apart w args) (s.post enc C.prog fn apart fresh handsOn again) := by
  refine returnsInHanded_of_calls own started noInit witness ?_
  intro w tape i _ hsh _ hok hpre hholds
  obtain ⟨_, _, _, fn', hfn', _, _, _, _, hval⟩ := hok
  have e : fn' = fn := Option.some.inj (hfn'.symm.trans hfn)
  subst e
  obtain ⟨⟨⟨ds, gs, before, hw, hc⟩, hx⟩, hz⟩ := hpre
  have hw' := DataW.Whole.of_heap (w' := w.forCall tape i) (by rfl) hw
  refine (contract (w.forCall tape i) w.heap.size i.args ds gs before hsh hval hw' hc (hz.weights hw) (hX _ _ _ (by rfl) hx) hholds).mono fun e W' ⟨v, he, hp⟩ => ?_
  subst he
  exact ChangeSpec.post_blind hp
end Go.Hm
end
