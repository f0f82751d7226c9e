/-
  Own texts, joined by merge.py: Hp, Hq.
-/
import Derived.Test.YtopgafhjmbfaoaaBL
import Derived.Test.YtopgafhjmbfaoaaA7
import Derived.Test.YtopgafhjmbfaoaaBG

section
/-
  The program's functions that tell whether a name may be another one: what they return.
-/
set_option maxRecDepth 100000
set_option maxHeartbeats 1000000
set_option linter.unusedSimpArgs false
namespace Go.Proofs.Ytopgafhjmbfaoaa
open Go Go.Hm Go.Proofs

@[simp] theorem scRows_tr {p : Prg} {f : Nm → Option Nm} : (scRows p).map (fun r => r.map (AV.tr f)) = scRows p := by simp [scRows]
theorem scopeA_shape (p : Prg) (j : Int) : scopeA p j = nilP ∨ ∃ r, scopeA p j = .el r 0 := by
  unfold scopeA
  cases p.length with
  | zero => exact .inl rfl
  | succ n =>
    rw [scopeF]
    split
    · exact .inl rfl
    · split
      · exact .inl rfl
      · exact .inr ⟨_, rfl⟩
@[simp] theorem scopeA_isNil {p : Prg} {j : Int} : isNilS (scopeA p j) = false := by
  rcases scopeA_shape p j with h | ⟨r, h⟩ <;> rw [h] <;> rfl
@[simp] theorem scopeA_sNm {p : Prg} {j : Int} : sNm (scopeA p j) = none := by
  rcases scopeA_shape p j with h | ⟨r, h⟩ <;> rw [h] <;> rfl
theorem isWithin_fn (gl) (p : Prg) (hh : Heads p) (i : Nat) (k : Blk) (hk : p[i]? = some k) (b : Nat) : FnOk Try.prog gl 92 [scEl p i k, iv b] (fun _ y _ => y = bv (inside p i b)) := by
  have hil := (List.getElem?_eq_some_iff.1 hk).1
  refine FnOk.of_sem Try.func92 rfl (by kernel_rfl) (rs := [.tmp 4]) rfl Try.ntmps92 (Nat.le_of_ble_eq_true rfl) fun C w g root => ?_
  all_goals have fx := fx0
  repeat' (first
   | refine w_seq ?_ | refine w_block ?_ | refine w_skip ?_ | refine w_reg fun K hK => ?_
   | ((with_reducible refine s_end hK ?_); clear hK K)
   | (with_reducible first | refine then_normal ?_ | refine in_normal ?_ | refine then_exit ?_ | refine in_exit ?_ | refine then_ret ?_ | refine in_ret ?_ | refine in_other (by decide) ?_)
   | refine w_exit ?_
   | refine w_ret ?_
   | (with_reducible first | refine s_none ?_ | refine x_assign (h := ?_))
   | (with_reducible refine x_q (h := ?_))
   | refine x_condt (h1 := ?_) | refine x_condf (h1 := ?_)
   | fail)
  all_goals try clear fx
  refine w_loop (fun n st => ∃ j : Int, n = (j + 1).toNat ∧ -1 ≤ j ∧ j < p.length ∧ st.tm 1 = iv b ∧ st.tm 5 = scopeA p j ∧ inside p i b = inside p j b) (i + 1) ?_ ?_
  · exact ⟨i, by omega, by omega, by omega, by simp, by simp [scopeA_eq hh hk], rfl⟩
  rintro n st - - ⟨j, rfl, hj1, hj, h1, h5, hin⟩
  rcases Int.lt_or_le j 0 with hn | hn
  · rw [scopeA_neg hn, nilP] at h5
    have hfa : inside p i b = false := by
      rw [hin, inside_end (by omega)]
      exact decide_eq_false (by omega)
    all_goals have fx := And.intro h1 <| h5
    repeat' (first
     | refine w_seq ?_ | refine w_block ?_ | refine w_skip ?_ | refine w_reg fun K hK => ?_
     | ((with_reducible refine s_end hK ?_); clear hK K)
     | (with_reducible first | refine then_normal ?_ | refine in_normal ?_ | refine then_exit ?_ | refine in_exit ?_ | refine then_ret ?_ | refine in_ret ?_ | refine in_other (by decide) ?_)
     | refine w_exit ?_
     | refine w_ret ?_
     | (with_reducible first | refine s_none ?_ | refine x_assign (h := ?_))
     | (with_reducible refine x_q (h := ?_))
     | refine x_condt (h1 := ?_) | refine x_condf (h1 := ?_)
     | fail)
    all_goals try clear fx
    refine e_ret [] .nil (by simp; rfl) ?_
    simp [hfa]
  · obtain ⟨J, rfl⟩ : ∃ J : Nat, j = J := ⟨j.toNat, by omega⟩
    obtain ⟨q, hq⟩ : ∃ q, p[J]? = some q := ⟨_, List.getElem?_eq_getElem (by omega)⟩
    obtain ⟨hq1, hq2, _⟩ := hh J q hq
    rw [scopeA_eq hh hq] at h5
    cases hjb : ((J : Int) == b)
    · have hne : ¬ (J : Int) = b := by simpa using hjb
      have hin2 : inside p i b = inside p q.parent b := by
        rw [hin]
        rcases Int.lt_or_le b J with h | h
        · exact inside_step hh (by omega) hq h
        · rw [inside_end h, inside_end (by omega), decide_eq_false hne, decide_eq_false (by omega)]
      all_goals have fx := And.intro h1 <| And.intro h5 <| hjb
      repeat' (first
       | refine w_seq ?_ | refine w_block ?_ | refine w_skip ?_ | refine w_reg fun K hK => ?_
       | ((with_reducible refine s_end hK ?_); clear hK K)
       | (with_reducible first | refine then_normal ?_ | refine in_normal ?_ | refine then_exit ?_ | refine in_exit ?_ | refine then_ret ?_ | refine in_ret ?_ | refine in_other (by decide) ?_)
       | refine w_exit ?_
       | refine w_ret ?_
       | (with_reducible first | refine s_none ?_ | refine x_assign (h := ?_))
       | (with_reducible refine x_q (h := ?_))
       | refine x_condt (h1 := ?_) | refine x_condf (h1 := ?_)
       | fail)
      all_goals try clear fx
      exact ⟨(q.parent + 1).toNat, by omega, q.parent, rfl, hq1, by omega, by simp [h1], by simp, hin2⟩
    · have he : (J : Int) = b := by simpa using hjb
      have htr : inside p i b = true := by
        rw [hin, inside_end (by omega)]
        exact decide_eq_true he
      all_goals have fx := And.intro h1 <| And.intro h5 <| hjb
      repeat' (first
       | refine w_seq ?_ | refine w_block ?_ | refine w_skip ?_ | refine w_reg fun K hK => ?_
       | ((with_reducible refine s_end hK ?_); clear hK K)
       | (with_reducible first | refine then_normal ?_ | refine in_normal ?_ | refine then_exit ?_ | refine in_exit ?_ | refine then_ret ?_ | refine in_ret ?_ | refine in_other (by decide) ?_)
       | refine w_exit ?_
       | refine w_ret ?_
       | (with_reducible first | refine s_none ?_ | refine x_assign (h := ?_))
       | (with_reducible refine x_q (h := ?_))
       | refine x_condt (h1 := ?_) | refine x_condf (h1 := ?_)
       | fail)
      all_goals try clear fx
      refine e_ret [] .nil (by simp; rfl) ?_
      simp [htr]

theorem us_mem {k : Blk} {y : Nat} (hy : y < 8) : (decide ((y : Int) ∈ k.rd) || decide ((y : Int) ∈ k.bd) || (decide ((y : Int) ∈ k.dc 9) || decide ((y : Int) ∈ k.dc 10))) = decide ((y : Int) ∈ k.us) := by
  have e := mem_sortedAt (xs := k.rd ++ k.bd ++ k.dc 9 ++ k.dc 10) hy
  simp only [Blk.us, e, List.mem_append]
  by_cases h1 : (y : Int) ∈ k.rd <;> by_cases h2 : (y : Int) ∈ k.bd <;> by_cases h3 : (y : Int) ∈ k.dc 9 <;> by_cases h4 : (y : Int) ∈ k.dc 10 <;> simp [h1, h2, h3, h4]
theorem uses_fn' (gl) (p : Prg) (i : Nat) (k : Blk) (x : Nat) (hx : x < 8) : FnOk Try.prog gl 51 [scEl p i k, iv x] (fun _ y _ => y = bv (decide ((x : Int) ∈ k.us))) := by
  have := uses_fn gl i k (scopeA p k.parent) k.params x hx
  rwa [us_mem hx] at this
theorem local_fn' (gl) (p : Prg) (hp : ShapeP p) (i : Nat) (k : Blk) (hk : p[i]? = some k) (x : Nat) (hx : x < 8) : FnOk Try.prog gl 91 [scEl p i k, iv x] (fun _ y _ => y = bv (isLocal i k x)) := by
  have h := scope_isLocal_fn gl i k (scopeA p k.parent) k.params x hx
  have hk0 := hp.kind0 hk
  have e : (k.kind != 0 && decide ((x : Int) ∈ k.bd) && !(decide ((x : Int) ∈ k.dc 9) || decide ((x : Int) ∈ k.dc 10))) = isLocal i k x := by
    by_cases h0 : i = 0
    · have : (k.kind != 0) = false := by simp [hk0, h0]
      rw [this]
      simp [isLocal, h0]
    · have : (k.kind != 0) = true := by simp [hk0, h0]
      rw [this]
      have h1 : decide (0 < i) = true := decide_eq_true (by omega)
      simp only [isLocal, h1]
      simp [Bool.and_assoc]
  rwa [e] at h
theorem clashAt_eq {p : Prg} {b : Nat} {y : Int} {c : Nat} {q : Blk} (hq : p[c]? = some q) : clashAt p b y c = (inside p c b && decide (y ∈ q.us)) := by
  simp only [clashAt, hq]
  by_cases h : b ≤ c
  · simp [h]
  · rw [inside_end (by omega), decide_eq_false (show ¬ (c : Int) = b by omega)]
    simp

theorem canRename_fn (gl) (p : Prg) (hp : ShapeP p) (B : Nat) (k : Blk) (hk : p[B]? = some k) (x y : Nat) (hx : x < 8) (hy : y < 8) : FnOk Try.prog gl 50 [scsl p, iv B, iv x, iv y] (fun _ z _ => z = bv ((k.kind == 1) && isLocal B k x && ((x : Int) != y) && !clash p B y)) := by
  have hh := hp.heads
  have hl7 := hp.len
  have hBl := (List.getElem?_eq_some_iff.1 hk).1
  have hsg := scRows_get (p := p) hBl
  rw [scopeA_eq hh hk] at hsg
  obtain ⟨_, hse⟩ := List.getElem?_eq_some_iff.1 hsg
  refine FnOk.of_sem Try.func50 rfl (by kernel_rfl) (rs := [.tmp 8]) rfl Try.ntmps50 (Nat.le_of_ble_eq_true rfl) fun C w g root => ?_
  cases hkd : (k.kind == 1)
  · skip
    all_goals have fx := And.intro hsg <| And.intro hse <| And.intro hkd <| And.intro @bne_def <| hBl
    repeat' (first
     | refine w_seq ?_ | refine w_block ?_ | refine w_skip ?_ | refine w_reg fun K hK => ?_
     | ((with_reducible refine s_end hK ?_); clear hK K)
     | (with_reducible first | refine then_normal ?_ | refine in_normal ?_ | refine then_exit ?_ | refine in_exit ?_ | refine then_ret ?_ | refine in_ret ?_ | refine in_other (by decide) ?_)
     | refine w_exit ?_
     | refine w_ret ?_
     | (with_reducible refine s_none ?_)
     | ((with_reducible refine g_id ?_); refine x_guard (h := ?_))
     | (with_reducible first | refine gx_tt ?_ | refine gx_ff ?_ | refine x_tf (h := ?_) | refine x_ft (h := ?_) | refine x_u (h := ?_) | refine x_assign (h := ?_))
     | (with_reducible refine x_q (h := ?_))
     | (with_reducible refine gx_s (fun ht => ?_) (fun ht => ?_))
     | refine x_condt (h1 := ?_) | refine x_condf (h1 := ?_)
     | fail)
    all_goals try clear fx
    refine e_ret [] .nil (by simp; rfl) ?_
    simp
  cases hlo : isLocal B k x
  · skip
    all_goals have fx := And.intro hsg <| And.intro hse <| And.intro hkd <| And.intro @bne_def <| And.intro hlo <| hBl
    repeat' (first
     | refine w_seq ?_ | refine w_block ?_ | refine w_skip ?_ | refine w_reg fun K hK => ?_
     | ((with_reducible refine s_end hK ?_); clear hK K)
     | (with_reducible first | refine then_normal ?_ | refine in_normal ?_ | refine then_exit ?_ | refine in_exit ?_ | refine then_ret ?_ | refine in_ret ?_ | refine in_other (by decide) ?_)
     | refine w_exit ?_
     | refine w_ret ?_
     | (with_reducible refine s_none ?_)
     | ((with_reducible refine g_id ?_); refine x_guard (h := ?_))
     | (with_reducible first | refine gx_tt ?_ | refine gx_ff ?_ | refine x_tf (h := ?_) | refine x_ft (h := ?_) | refine x_u (h := ?_) | refine x_assign (h := ?_))
     | ((with_reducible refine o_id 91 rfl ?_); refine x_call (hF := local_fn' _ p hp B k hk x hx) (h := ?_))
     | (with_reducible refine x_q (h := ?_))
     | (with_reducible refine gx_s (fun ht => ?_) (fun ht => ?_))
     | refine x_condt (h1 := ?_) | refine x_condf (h1 := ?_)
     | fail)
    all_goals try clear fx
    refine e_ret [] .nil (by simp; rfl) ?_
    simp
  cases hxy : ((x : Int) == y)
  rotate_left
  · skip
    all_goals have fx := And.intro hsg <| And.intro hse <| And.intro hkd <| And.intro @bne_def <| And.intro hlo <| And.intro hxy <| hBl
    repeat' (first
     | refine w_seq ?_ | refine w_block ?_ | refine w_skip ?_ | refine w_reg fun K hK => ?_
     | ((with_reducible refine s_end hK ?_); clear hK K)
     | (with_reducible first | refine then_normal ?_ | refine in_normal ?_ | refine then_exit ?_ | refine in_exit ?_ | refine then_ret ?_ | refine in_ret ?_ | refine in_other (by decide) ?_)
     | refine w_exit ?_
     | refine w_ret ?_
     | (with_reducible refine s_none ?_)
     | ((with_reducible refine g_id ?_); refine x_guard (h := ?_))
     | (with_reducible first | refine gx_tt ?_ | refine gx_ff ?_ | refine x_tf (h := ?_) | refine x_ft (h := ?_) | refine x_u (h := ?_) | refine x_assign (h := ?_))
     | ((with_reducible refine o_id 91 rfl ?_); refine x_call (hF := local_fn' _ p hp B k hk x hx) (h := ?_))
     | (with_reducible refine x_q (h := ?_))
     | (with_reducible refine gx_s (fun ht => ?_) (fun ht => ?_))
     | refine x_condt (h1 := ?_) | refine x_condf (h1 := ?_)
     | fail)
    all_goals try clear fx
    refine e_ret [] .nil (by simp; rfl) ?_
    simp [bne, hxy]
  all_goals have fx := And.intro hsg <| And.intro hse <| And.intro hkd <| And.intro @bne_def <| And.intro hlo <| And.intro hxy <| hBl
  repeat' (first
   | refine w_seq ?_ | refine w_block ?_ | refine w_skip ?_ | refine w_reg fun K hK => ?_
   | ((with_reducible refine s_end hK ?_); clear hK K)
   | (with_reducible first | refine then_normal ?_ | refine in_normal ?_ | refine then_exit ?_ | refine in_exit ?_ | refine then_ret ?_ | refine in_ret ?_ | refine in_other (by decide) ?_)
   | refine w_exit ?_
   | refine w_ret ?_
   | (with_reducible refine s_none ?_)
   | ((with_reducible refine g_id ?_); refine x_guard (h := ?_))
   | (with_reducible first | refine gx_tt ?_ | refine gx_ff ?_ | refine x_tf (h := ?_) | refine x_ft (h := ?_) | refine x_u (h := ?_) | refine x_assign (h := ?_))
   | ((with_reducible refine o_id 91 rfl ?_); refine x_call (hF := local_fn' _ p hp B k hk x hx) (h := ?_))
   | (with_reducible refine x_q (h := ?_))
   | (with_reducible refine gx_s (fun ht => ?_) (fun ht => ?_))
   | refine x_condt (h1 := ?_) | refine x_condf (h1 := ?_)
   | fail)
  all_goals try clear fx
  refine w_loop (fun n st => ∃ i : Nat, n = p.length - i ∧ i ≤ p.length ∧ st.tm 1 = iv B ∧ st.tm 3 = iv y ∧ st.tm 33 = scsl p ∧ st.tm 34 = iv p.length ∧ st.tm 35 = iv i ∧ ∀ d, d < i → clashAt p B y d = false) p.length ?_ ?_
  · exact ⟨0, by simp, by simp, by simp, by simp, by simp, by simp, by simp, fun d hd => by omega⟩
  rintro n st - - ⟨i, rfl, hi, h1, h3, h33, h34, h35, hcl⟩
  all_goals have fx := And.intro h34 <| h35
  repeat' (first
   | refine w_seq ?_ | refine w_block ?_ | refine w_skip ?_ | refine w_reg fun K hK => ?_
   | ((with_reducible refine s_end hK ?_); clear hK K)
   | (with_reducible first | refine then_normal ?_ | refine in_normal ?_ | refine then_exit ?_ | refine in_exit ?_ | refine then_ret ?_ | refine in_ret ?_ | refine in_other (by decide) ?_)
   | refine w_exit ?_
   | refine w_ret ?_
   | (with_reducible refine s_none ?_)
   | ((with_reducible refine g_id ?_); refine x_guard (h := ?_))
   | (with_reducible first | refine gx_tt ?_ | refine gx_ff ?_ | refine x_tf (h := ?_) | refine x_ft (h := ?_) | refine x_u (h := ?_) | refine x_assign (h := ?_))
   | (with_reducible refine x_q (h := ?_))
   | (with_reducible refine gx_s (fun ht => ?_) (fun ht => ?_))
   | refine x_condt (h1 := ?_) | refine x_condf (h1 := ?_)
   | fail)
  all_goals try clear fx
  refine w_if (by simp []; first | done | rfl | exact (Bool.not_not _).symm) (fun ht => ?_) (fun hf => ?_)
  · have hlt : i < p.length := by simpa using ht
    obtain ⟨q, hq⟩ : ∃ q, p[i]? = some q := ⟨_, List.getElem?_eq_getElem hlt⟩
    have hsg := scRows_get (p := p) hlt
    rw [scopeA_eq hh hq] at hsg
    obtain ⟨_, hse⟩ := List.getElem?_eq_some_iff.1 hsg
    clear ht
    cases hc : clashAt p B y i
    · have hc' := hc
      rw [clashAt_eq hq] at hc'
      have nxt : ∀ d, d < i + 1 → clashAt p B y d = false := by
        intro d hd
        rcases Nat.lt_succ_iff_lt_or_eq.1 hd with h | rfl
        · exact hcl d h
        · exact hc
      cases hin : inside p i B
      · skip
        all_goals have fx := And.intro h1 <| And.intro h3 <| And.intro h33 <| And.intro h34 <| And.intro h35 <| And.intro hsg <| And.intro hse <| And.intro hlt <| hin
        repeat' (first
         | refine w_seq ?_ | refine w_block ?_ | refine w_skip ?_ | refine w_reg fun K hK => ?_
         | ((with_reducible refine s_end hK ?_); clear hK K)
         | (with_reducible first | refine then_normal ?_ | refine in_normal ?_ | refine then_exit ?_ | refine in_exit ?_ | refine then_ret ?_ | refine in_ret ?_ | refine in_other (by decide) ?_)
         | refine w_exit ?_
         | refine w_ret ?_
         | (with_reducible refine s_none ?_)
         | ((with_reducible refine g_id ?_); refine x_guard (h := ?_))
         | (with_reducible first | refine gx_tt ?_ | refine gx_ff ?_ | refine x_tf (h := ?_) | refine x_ft (h := ?_) | refine x_u (h := ?_) | refine x_assign (h := ?_))
         | ((with_reducible refine o_id 92 rfl ?_); refine x_call (hF := isWithin_fn _ p hh i q hq B) (h := ?_))
         | ((with_reducible refine o_id 51 rfl ?_); refine x_call (hF := uses_fn' _ p i q y hy) (h := ?_))
         | (with_reducible refine x_q (h := ?_))
         | (with_reducible refine gx_s (fun ht => ?_) (fun ht => ?_))
         | refine x_condt (h1 := ?_) | refine x_condf (h1 := ?_)
         | fail)
        all_goals try clear fx
        exact ⟨p.length - (i + 1), by omega, i + 1, rfl, by omega, by simp [h1], by simp [h3], by simp [h33], by simp [h34], by simp; exact wrp (by omega) (by omega), nxt⟩
      · have hu : decide ((y : Int) ∈ q.us) = false := by simpa [hin] using hc'
        all_goals have fx := And.intro h1 <| And.intro h3 <| And.intro h33 <| And.intro h34 <| And.intro h35 <| And.intro hsg <| And.intro hse <| And.intro hlt <| And.intro hin <| hu
        repeat' (first
         | refine w_seq ?_ | refine w_block ?_ | refine w_skip ?_ | refine w_reg fun K hK => ?_
         | ((with_reducible refine s_end hK ?_); clear hK K)
         | (with_reducible first | refine then_normal ?_ | refine in_normal ?_ | refine then_exit ?_ | refine in_exit ?_ | refine then_ret ?_ | refine in_ret ?_ | refine in_other (by decide) ?_)
         | refine w_exit ?_
         | refine w_ret ?_
         | (with_reducible refine s_none ?_)
         | ((with_reducible refine g_id ?_); refine x_guard (h := ?_))
         | (with_reducible first | refine gx_tt ?_ | refine gx_ff ?_ | refine x_tf (h := ?_) | refine x_ft (h := ?_) | refine x_u (h := ?_) | refine x_assign (h := ?_))
         | ((with_reducible refine o_id 92 rfl ?_); refine x_call (hF := isWithin_fn _ p hh i q hq B) (h := ?_))
         | ((with_reducible refine o_id 51 rfl ?_); refine x_call (hF := uses_fn' _ p i q y hy) (h := ?_))
         | (with_reducible refine x_q (h := ?_))
         | (with_reducible refine gx_s (fun ht => ?_) (fun ht => ?_))
         | refine x_condt (h1 := ?_) | refine x_condf (h1 := ?_)
         | fail)
        all_goals try clear fx
        exact ⟨p.length - (i + 1), by omega, i + 1, rfl, by omega, by simp [h1], by simp [h3], by simp [h33], by simp [h34], by simp; exact wrp (by omega) (by omega), nxt⟩
    · have hc' := hc
      rw [clashAt_eq hq, Bool.and_eq_true] at hc'
      have hin := hc'.1
      have hu := hc'.2
      have hca : clash p B y = true := List.any_eq_true.2 ⟨i, List.mem_range.2 hlt, hc⟩
      all_goals have fx := And.intro h1 <| And.intro h3 <| And.intro h33 <| And.intro h34 <| And.intro h35 <| And.intro hsg <| And.intro hse <| And.intro hlt <| And.intro hin <| hu
      repeat' (first
       | refine w_seq ?_ | refine w_block ?_ | refine w_skip ?_ | refine w_reg fun K hK => ?_
       | ((with_reducible refine s_end hK ?_); clear hK K)
       | (with_reducible first | refine then_normal ?_ | refine in_normal ?_ | refine then_exit ?_ | refine in_exit ?_ | refine then_ret ?_ | refine in_ret ?_ | refine in_other (by decide) ?_)
       | refine w_exit ?_
       | refine w_ret ?_
       | (with_reducible refine s_none ?_)
       | ((with_reducible refine g_id ?_); refine x_guard (h := ?_))
       | (with_reducible first | refine gx_tt ?_ | refine gx_ff ?_ | refine x_tf (h := ?_) | refine x_ft (h := ?_) | refine x_u (h := ?_) | refine x_assign (h := ?_))
       | ((with_reducible refine o_id 92 rfl ?_); refine x_call (hF := isWithin_fn _ p hh i q hq B) (h := ?_))
       | ((with_reducible refine o_id 51 rfl ?_); refine x_call (hF := uses_fn' _ p i q y hy) (h := ?_))
       | (with_reducible refine x_q (h := ?_))
       | (with_reducible refine gx_s (fun ht => ?_) (fun ht => ?_))
       | refine x_condt (h1 := ?_) | refine x_condf (h1 := ?_)
       | fail)
      all_goals try clear fx
      refine e_ret [] .nil (by simp; rfl) ?_
      simp [hca]
  · have hge : i = p.length := by
      have : ¬ i < p.length := by simpa using hf
      omega
    have hca : clash p B y = false := by
      apply Bool.eq_false_iff.2
      intro h
      obtain ⟨d, hd, hd'⟩ := List.any_eq_true.1 h
      rw [hcl d (by have := List.mem_range.1 hd; omega)] at hd'
      cases hd'
    all_goals have fx := fx0
    repeat' (first
     | refine w_seq ?_ | refine w_block ?_ | refine w_skip ?_ | refine w_reg fun K hK => ?_
     | ((with_reducible refine s_end hK ?_); clear hK K)
     | (with_reducible first | refine then_normal ?_ | refine in_normal ?_ | refine then_exit ?_ | refine in_exit ?_ | refine then_ret ?_ | refine in_ret ?_ | refine in_other (by decide) ?_)
     | refine w_exit ?_
     | refine w_ret ?_
     | (with_reducible refine s_none ?_)
     | ((with_reducible refine g_id ?_); refine x_guard (h := ?_))
     | (with_reducible first | refine gx_tt ?_ | refine gx_ff ?_ | refine x_tf (h := ?_) | refine x_ft (h := ?_) | refine x_u (h := ?_) | refine x_assign (h := ?_))
     | (with_reducible refine x_q (h := ?_))
     | (with_reducible refine gx_s (fun ht => ?_) (fun ht => ?_))
     | refine x_condt (h1 := ?_) | refine x_condf (h1 := ?_)
     | fail)
    all_goals try clear fx
    refine e_ret [] .nil (by simp; rfl) ?_
    simp [hca, bne, hxy]
end Go.Proofs.Ytopgafhjmbfaoaa
end

section
/-
  The program's function that gives a statement another name: what it returns.
-/
set_option maxRecDepth 100000
set_option maxHeartbeats 1000000
set_option linter.unusedSimpArgs false
namespace Go.Proofs.Ytopgafhjmbfaoaa
open Go Go.Hm Go.Proofs

def chg (s : Stm) (j : Nat) (x y : Int) : Stm := match j with
  | 1 => ⟨s.kind, swapI s.to x y, s.a, s.b⟩
  | 2 => ⟨s.kind, s.to, swapI s.a x y, s.b⟩
  | _ => ⟨s.kind, s.to, s.a, swapI s.b x y⟩

theorem renamed1_fn (gl) (H : Nm → Option AO) (n to a b x y : Int) (j : Nat) (hj : j = 1 ∨ j = 2 ∨ j = 3) (hH : H (.u 1 0 0) = some (.row 4 [[iv n, iv to, iv a, iv b]])) :
    FnE Try.prog gl 94 (Nm.under (.u 1 0 0)) [.pt (.u 1 0 0) j, .el [iv x] 0, .el [iv y] 0] H (fun _ z H' => H' (.u 1 0 0) = some (.row 4 [(chg ⟨n, to, a, b⟩ j x y).cells])) noE := by
  refine FnE.of_sem Try.func94 rfl (by kernel_rfl) (rs := []) rfl Try.ntmps94 (Nat.le_of_ble_eq_true rfl) (fun _ => under_usroot rfl) fun C w g root hroot => ?_
  rcases hj with rfl | rfl | rfl
  · cases hx : (to == x)
    · have hne : ¬ to = x := by simpa using hx
      all_goals have fx := And.intro hH <| hx
      repeat' (first
       | refine w_seq ?_ | refine w_skip ?_ | refine w_reg fun K hK => ?_
       | ((with_reducible refine s_end hK ?_); clear hK K)
       | (with_reducible first | refine then_normal ?_ | refine s_nil ?_)
       | (with_reducible first | refine s_none ?_ | refine x_store0 (h := ?_))
       | (with_reducible refine x_q (h := ?_))
       | refine x_condt (h1 := ?_) | refine x_condf (h1 := ?_)
       | (refine w_sch (id := 0) (.q 0 <| .q 1 <| .q 2 <| .q 3 <| .q 4 <| .done) mixed (by kernel_rfl) (by kernel_rfl) fun K hK => ?_)
       | ((with_reducible refine a_end hK ?_); clear hK K)
       | ((with_reducible refine a_id ?_); first | refine xa_q (h := ?_) | refine xa_qt (h := ?_) | refine xa_qf (h := ?_))
       | ((with_reducible refine a_id ?_); refine xa_gq (h1 := fun ht => ?_) (h2 := fun ht => ?_))
       | refine a_l rfl ?_ | refine a_l2 ?_ ?_ | (with_reducible refine And.intro ?_ ?_) | exact st_nil | refine xa_st (h2 := ?_)
       | fail)
      all_goals try clear fx
      refine e_norm [] .nil rfl ?_
      simp [chg, swapI, hne, hH, Stm.cells]
    · have he : to = x := by simpa using hx
      all_goals have fx := And.intro hH <| hx
      repeat' (first
       | refine w_seq ?_ | refine w_skip ?_ | refine w_reg fun K hK => ?_
       | ((with_reducible refine s_end hK ?_); clear hK K)
       | (with_reducible first | refine then_normal ?_ | refine s_nil ?_)
       | (with_reducible first | refine s_none ?_ | refine x_store0 (h := ?_))
       | (with_reducible refine x_q (h := ?_))
       | refine x_condt (h1 := ?_) | refine x_condf (h1 := ?_)
       | (refine w_sch (id := 0) (.q 0 <| .q 1 <| .q 2 <| .q 3 <| .q 4 <| .done) mixed (by kernel_rfl) (by kernel_rfl) fun K hK => ?_)
       | ((with_reducible refine a_end hK ?_); clear hK K)
       | ((with_reducible refine a_id ?_); first | refine xa_q (h := ?_) | refine xa_qt (h := ?_) | refine xa_qf (h := ?_))
       | ((with_reducible refine a_id ?_); refine xa_gq (h1 := fun ht => ?_) (h2 := fun ht => ?_))
       | refine a_l rfl ?_ | refine a_l2 ?_ ?_ | (with_reducible refine And.intro ?_ ?_) | exact st_nil | refine xa_st (h2 := ?_)
       | fail)
      all_goals try clear fx
      refine e_norm [] .nil rfl ?_
      simp [chg, swapI, he, hH, Stm.cells]
  · cases hx : (a == x)
    · have hne : ¬ a = x := by simpa using hx
      all_goals have fx := And.intro hH <| hx
      repeat' (first
       | refine w_seq ?_ | refine w_skip ?_ | refine w_reg fun K hK => ?_
       | ((with_reducible refine s_end hK ?_); clear hK K)
       | (with_reducible first | refine then_normal ?_ | refine s_nil ?_)
       | (with_reducible first | refine s_none ?_ | refine x_store0 (h := ?_))
       | (with_reducible refine x_q (h := ?_))
       | refine x_condt (h1 := ?_) | refine x_condf (h1 := ?_)
       | (refine w_sch (id := 0) (.q 0 <| .q 1 <| .q 2 <| .q 3 <| .q 4 <| .done) mixed (by kernel_rfl) (by kernel_rfl) fun K hK => ?_)
       | ((with_reducible refine a_end hK ?_); clear hK K)
       | ((with_reducible refine a_id ?_); first | refine xa_q (h := ?_) | refine xa_qt (h := ?_) | refine xa_qf (h := ?_))
       | ((with_reducible refine a_id ?_); refine xa_gq (h1 := fun ht => ?_) (h2 := fun ht => ?_))
       | refine a_l rfl ?_ | refine a_l2 ?_ ?_ | (with_reducible refine And.intro ?_ ?_) | exact st_nil | refine xa_st (h2 := ?_)
       | fail)
      all_goals try clear fx
      refine e_norm [] .nil rfl ?_
      simp [chg, swapI, hne, hH, Stm.cells]
    · have he : a = x := by simpa using hx
      all_goals have fx := And.intro hH <| hx
      repeat' (first
       | refine w_seq ?_ | refine w_skip ?_ | refine w_reg fun K hK => ?_
       | ((with_reducible refine s_end hK ?_); clear hK K)
       | (with_reducible first | refine then_normal ?_ | refine s_nil ?_)
       | (with_reducible first | refine s_none ?_ | refine x_store0 (h := ?_))
       | (with_reducible refine x_q (h := ?_))
       | refine x_condt (h1 := ?_) | refine x_condf (h1 := ?_)
       | (refine w_sch (id := 0) (.q 0 <| .q 1 <| .q 2 <| .q 3 <| .q 4 <| .done) mixed (by kernel_rfl) (by kernel_rfl) fun K hK => ?_)
       | ((with_reducible refine a_end hK ?_); clear hK K)
       | ((with_reducible refine a_id ?_); first | refine xa_q (h := ?_) | refine xa_qt (h := ?_) | refine xa_qf (h := ?_))
       | ((with_reducible refine a_id ?_); refine xa_gq (h1 := fun ht => ?_) (h2 := fun ht => ?_))
       | refine a_l rfl ?_ | refine a_l2 ?_ ?_ | (with_reducible refine And.intro ?_ ?_) | exact st_nil | refine xa_st (h2 := ?_)
       | fail)
      all_goals try clear fx
      refine e_norm [] .nil rfl ?_
      simp [chg, swapI, he, hH, Stm.cells]
  · cases hx : (b == x)
    · have hne : ¬ b = x := by simpa using hx
      all_goals have fx := And.intro hH <| hx
      repeat' (first
       | refine w_seq ?_ | refine w_skip ?_ | refine w_reg fun K hK => ?_
       | ((with_reducible refine s_end hK ?_); clear hK K)
       | (with_reducible first | refine then_normal ?_ | refine s_nil ?_)
       | (with_reducible first | refine s_none ?_ | refine x_store0 (h := ?_))
       | (with_reducible refine x_q (h := ?_))
       | refine x_condt (h1 := ?_) | refine x_condf (h1 := ?_)
       | (refine w_sch (id := 0) (.q 0 <| .q 1 <| .q 2 <| .q 3 <| .q 4 <| .done) mixed (by kernel_rfl) (by kernel_rfl) fun K hK => ?_)
       | ((with_reducible refine a_end hK ?_); clear hK K)
       | ((with_reducible refine a_id ?_); first | refine xa_q (h := ?_) | refine xa_qt (h := ?_) | refine xa_qf (h := ?_))
       | ((with_reducible refine a_id ?_); refine xa_gq (h1 := fun ht => ?_) (h2 := fun ht => ?_))
       | refine a_l rfl ?_ | refine a_l2 ?_ ?_ | (with_reducible refine And.intro ?_ ?_) | exact st_nil | refine xa_st (h2 := ?_)
       | fail)
      all_goals try clear fx
      refine e_norm [] .nil rfl ?_
      simp [chg, swapI, hne, hH, Stm.cells]
    · have he : b = x := by simpa using hx
      all_goals have fx := And.intro hH <| hx
      repeat' (first
       | refine w_seq ?_ | refine w_skip ?_ | refine w_reg fun K hK => ?_
       | ((with_reducible refine s_end hK ?_); clear hK K)
       | (with_reducible first | refine then_normal ?_ | refine s_nil ?_)
       | (with_reducible first | refine s_none ?_ | refine x_store0 (h := ?_))
       | (with_reducible refine x_q (h := ?_))
       | refine x_condt (h1 := ?_) | refine x_condf (h1 := ?_)
       | (refine w_sch (id := 0) (.q 0 <| .q 1 <| .q 2 <| .q 3 <| .q 4 <| .done) mixed (by kernel_rfl) (by kernel_rfl) fun K hK => ?_)
       | ((with_reducible refine a_end hK ?_); clear hK K)
       | ((with_reducible refine a_id ?_); first | refine xa_q (h := ?_) | refine xa_qt (h := ?_) | refine xa_qf (h := ?_))
       | ((with_reducible refine a_id ?_); refine xa_gq (h1 := fun ht => ?_) (h2 := fun ht => ?_))
       | refine a_l rfl ?_ | refine a_l2 ?_ ?_ | (with_reducible refine And.intro ?_ ?_) | exact st_nil | refine xa_st (h2 := ?_)
       | fail)
      all_goals try clear fx
      refine e_norm [] .nil rfl ?_
      simp [chg, swapI, he, hH, Stm.cells]

theorem impl_renamed_fn (gl) (s : Stm) (x y : Int) (hk : 0 ≤ s.kind ∧ s.kind ≤ 11) : FnOk Try.prog gl 53 [s.av, iv x, iv y] (fun _ z _ => z = (s.ren x y).av) := by
  obtain ⟨n, to, a, b⟩ := s
  refine FnOk.of_sem Try.func53 rfl (by kernel_rfl) (rs := [.cell 6 69]) rfl Try.ntmps53 (Nat.le_of_ble_eq_true rfl) fun C w g root => ?_
  rcases kind_cases n with rfl | rfl | rfl | rfl | rfl | rfl | rfl | rfl | rfl | rfl | rfl | rfl | hn
  case inr.inr.inr.inr.inr.inr.inr.inr.inr.inr.inr.inr => exact absurd hk hn
  · skip
    all_goals have fx := fx0
    repeat' (first
     | refine w_seq ?_ | refine w_block ?_ | refine w_skip ?_ | refine w_reg fun K hK => ?_
     | ((with_reducible refine s_end hK ?_); clear hK K)
     | (with_reducible first | refine then_normal ?_ | refine in_normal ?_ | refine then_ret ?_ | refine in_ret ?_)
     | refine w_ret ?_
     | (with_reducible first | refine s_none ?_ | refine x_assign (h := ?_) | refine x_box (h := ?_) | refine x_alloc (h := ?_) | refine x_store0 (h := ?_))
     | ((with_reducible refine o_id 95 rfl ?_); refine x_call (hF := formOf_fn _ ⟨0, to, a, b⟩) (h := ?_))
     | (with_reducible refine x_q (h := ?_))
     | refine x_condt (h1 := ?_) | refine x_condf (h1 := ?_)
     | fail)
    all_goals try clear fx
    refine x_mutvc (f := 94) (.s 3) (.u 1 0 0) (hext := rfl) (hs := by simp) (xs := []) (ys := [.pt (.s 4) 0, .pt (.s 5) 0]) (avs := [.pt (.u 1 0 0) 1, .pt (.s 4) 0, .pt (.s 5) 0]) (hv := by simp) (ha := by simp) (hB := .cons (.refl _) (.cons (bw_box (by simp)) (.cons (bw_box (by simp)) .nil))) (hF := renamed1_fn _ _ 0 to a b x y 1 (by decide) (by simp)) (h := ?_)
    rintro z H0 hy0
    have hc0 := hcln_row hy0 (by simp)
    simp only [chg, Stm.cells] at hc0
    clear hy0
    all_goals have fx :=  hc0
    repeat' (first
     | refine w_seq ?_ | refine w_block ?_ | refine w_skip ?_ | refine w_reg fun K hK => ?_
     | ((with_reducible refine s_end hK ?_); clear hK K)
     | (with_reducible first | refine then_normal ?_ | refine in_normal ?_ | refine then_ret ?_ | refine in_ret ?_)
     | refine w_ret ?_
     | (with_reducible first | refine s_none ?_ | refine x_assign (h := ?_) | refine x_box (h := ?_) | refine x_alloc (h := ?_) | refine x_store0 (h := ?_))
     | (with_reducible refine x_q (h := ?_))
     | refine x_condt (h1 := ?_) | refine x_condf (h1 := ?_)
     | fail)
    all_goals try clear fx
    refine e_ret [] .nil (by simp [hc0]; rfl) ?_
    simp [Stm.ren, Stm.av]
  · skip
    all_goals have fx := fx0
    repeat' (first
     | refine w_seq ?_ | refine w_block ?_ | refine w_skip ?_ | refine w_reg fun K hK => ?_
     | ((with_reducible refine s_end hK ?_); clear hK K)
     | (with_reducible first | refine then_normal ?_ | refine in_normal ?_ | refine then_ret ?_ | refine in_ret ?_)
     | refine w_ret ?_
     | (with_reducible first | refine s_none ?_ | refine x_assign (h := ?_) | refine x_box (h := ?_) | refine x_alloc (h := ?_) | refine x_store0 (h := ?_))
     | ((with_reducible refine o_id 95 rfl ?_); refine x_call (hF := formOf_fn _ ⟨1, to, a, b⟩) (h := ?_))
     | (with_reducible refine x_q (h := ?_))
     | refine x_condt (h1 := ?_) | refine x_condf (h1 := ?_)
     | fail)
    all_goals try clear fx
    refine x_mutvc (f := 94) (.s 3) (.u 1 0 0) (hext := rfl) (hs := by simp) (xs := []) (ys := [.pt (.s 4) 0, .pt (.s 5) 0]) (avs := [.pt (.u 1 0 0) 2, .pt (.s 4) 0, .pt (.s 5) 0]) (hv := by simp) (ha := by simp) (hB := .cons (.refl _) (.cons (bw_box (by simp)) (.cons (bw_box (by simp)) .nil))) (hF := renamed1_fn _ _ 1 to a b x y 2 (by decide) (by simp)) (h := ?_)
    rintro z H0 hy0
    have hc0 := hcln_row hy0 (by simp)
    simp only [chg, Stm.cells] at hc0
    clear hy0
    all_goals have fx :=  hc0
    repeat' (first
     | refine w_seq ?_ | refine w_block ?_ | refine w_skip ?_ | refine w_reg fun K hK => ?_
     | ((with_reducible refine s_end hK ?_); clear hK K)
     | (with_reducible first | refine then_normal ?_ | refine in_normal ?_ | refine then_ret ?_ | refine in_ret ?_)
     | refine w_ret ?_
     | (with_reducible first | refine s_none ?_ | refine x_assign (h := ?_) | refine x_box (h := ?_) | refine x_alloc (h := ?_) | refine x_store0 (h := ?_))
     | (with_reducible refine x_q (h := ?_))
     | refine x_condt (h1 := ?_) | refine x_condf (h1 := ?_)
     | fail)
    all_goals try clear fx
    refine x_mutvc (f := 94) (.s 3) (.u 1 0 0) (hext := rfl) (hs := by simp [hc0]) (xs := []) (ys := [.pt (.s 4) 0, .pt (.s 5) 0]) (avs := [.pt (.u 1 0 0) 1, .pt (.s 4) 0, .pt (.s 5) 0]) (hv := by simp) (ha := by simp) (hB := .cons (.refl _) (.cons (bw_box (by simp)) (.cons (bw_box (by simp)) .nil))) (hF := renamed1_fn _ _ 1 to (swapI a x y) b x y 1 (by decide) (by simp [hc0])) (h := ?_)
    rintro z H1 hy1
    have hc1 := hcln_row hy1 (by simp)
    simp only [chg, Stm.cells] at hc1
    clear hy1
    all_goals have fx :=  hc1
    repeat' (first
     | refine w_seq ?_ | refine w_block ?_ | refine w_skip ?_ | refine w_reg fun K hK => ?_
     | ((with_reducible refine s_end hK ?_); clear hK K)
     | (with_reducible first | refine then_normal ?_ | refine in_normal ?_ | refine then_ret ?_ | refine in_ret ?_)
     | refine w_ret ?_
     | (with_reducible first | refine s_none ?_ | refine x_assign (h := ?_) | refine x_box (h := ?_) | refine x_alloc (h := ?_) | refine x_store0 (h := ?_))
     | (with_reducible refine x_q (h := ?_))
     | refine x_condt (h1 := ?_) | refine x_condf (h1 := ?_)
     | fail)
    all_goals try clear fx
    refine e_ret [] .nil (by simp [hc1]; rfl) ?_
    simp [Stm.ren, Stm.av]
  · skip
    all_goals have fx := fx0
    repeat' (first
     | refine w_seq ?_ | refine w_block ?_ | refine w_skip ?_ | refine w_reg fun K hK => ?_
     | ((with_reducible refine s_end hK ?_); clear hK K)
     | (with_reducible first | refine then_normal ?_ | refine in_normal ?_ | refine then_ret ?_ | refine in_ret ?_)
     | refine w_ret ?_
     | (with_reducible first | refine s_none ?_ | refine x_assign (h := ?_) | refine x_box (h := ?_) | refine x_alloc (h := ?_) | refine x_store0 (h := ?_))
     | ((with_reducible refine o_id 95 rfl ?_); refine x_call (hF := formOf_fn _ ⟨2, to, a, b⟩) (h := ?_))
     | (with_reducible refine x_q (h := ?_))
     | refine x_condt (h1 := ?_) | refine x_condf (h1 := ?_)
     | fail)
    all_goals try clear fx
    refine x_mutvc (f := 94) (.s 3) (.u 1 0 0) (hext := rfl) (hs := by simp) (xs := []) (ys := [.pt (.s 4) 0, .pt (.s 5) 0]) (avs := [.pt (.u 1 0 0) 2, .pt (.s 4) 0, .pt (.s 5) 0]) (hv := by simp) (ha := by simp) (hB := .cons (.refl _) (.cons (bw_box (by simp)) (.cons (bw_box (by simp)) .nil))) (hF := renamed1_fn _ _ 2 to a b x y 2 (by decide) (by simp)) (h := ?_)
    rintro z H0 hy0
    have hc0 := hcln_row hy0 (by simp)
    simp only [chg, Stm.cells] at hc0
    clear hy0
    all_goals have fx :=  hc0
    repeat' (first
     | refine w_seq ?_ | refine w_block ?_ | refine w_skip ?_ | refine w_reg fun K hK => ?_
     | ((with_reducible refine s_end hK ?_); clear hK K)
     | (with_reducible first | refine then_normal ?_ | refine in_normal ?_ | refine then_ret ?_ | refine in_ret ?_)
     | refine w_ret ?_
     | (with_reducible first | refine s_none ?_ | refine x_assign (h := ?_) | refine x_box (h := ?_) | refine x_alloc (h := ?_) | refine x_store0 (h := ?_))
     | (with_reducible refine x_q (h := ?_))
     | refine x_condt (h1 := ?_) | refine x_condf (h1 := ?_)
     | fail)
    all_goals try clear fx
    refine x_mutvc (f := 94) (.s 3) (.u 1 0 0) (hext := rfl) (hs := by simp [hc0]) (xs := []) (ys := [.pt (.s 4) 0, .pt (.s 5) 0]) (avs := [.pt (.u 1 0 0) 3, .pt (.s 4) 0, .pt (.s 5) 0]) (hv := by simp) (ha := by simp) (hB := .cons (.refl _) (.cons (bw_box (by simp)) (.cons (bw_box (by simp)) .nil))) (hF := renamed1_fn _ _ 2 to (swapI a x y) b x y 3 (by decide) (by simp [hc0])) (h := ?_)
    rintro z H1 hy1
    have hc1 := hcln_row hy1 (by simp)
    simp only [chg, Stm.cells] at hc1
    clear hy1
    all_goals have fx :=  hc1
    repeat' (first
     | refine w_seq ?_ | refine w_block ?_ | refine w_skip ?_ | refine w_reg fun K hK => ?_
     | ((with_reducible refine s_end hK ?_); clear hK K)
     | (with_reducible first | refine then_normal ?_ | refine in_normal ?_ | refine then_ret ?_ | refine in_ret ?_)
     | refine w_ret ?_
     | (with_reducible first | refine s_none ?_ | refine x_assign (h := ?_) | refine x_box (h := ?_) | refine x_alloc (h := ?_) | refine x_store0 (h := ?_))
     | (with_reducible refine x_q (h := ?_))
     | refine x_condt (h1 := ?_) | refine x_condf (h1 := ?_)
     | fail)
    all_goals try clear fx
    refine x_mutvc (f := 94) (.s 3) (.u 1 0 0) (hext := rfl) (hs := by simp [hc1]) (xs := []) (ys := [.pt (.s 4) 0, .pt (.s 5) 0]) (avs := [.pt (.u 1 0 0) 1, .pt (.s 4) 0, .pt (.s 5) 0]) (hv := by simp) (ha := by simp) (hB := .cons (.refl _) (.cons (bw_box (by simp)) (.cons (bw_box (by simp)) .nil))) (hF := renamed1_fn _ _ 2 to (swapI a x y) (swapI b x y) x y 1 (by decide) (by simp [hc1])) (h := ?_)
    rintro z H2 hy2
    have hc2 := hcln_row hy2 (by simp)
    simp only [chg, Stm.cells] at hc2
    clear hy2
    all_goals have fx :=  hc2
    repeat' (first
     | refine w_seq ?_ | refine w_block ?_ | refine w_skip ?_ | refine w_reg fun K hK => ?_
     | ((with_reducible refine s_end hK ?_); clear hK K)
     | (with_reducible first | refine then_normal ?_ | refine in_normal ?_ | refine then_ret ?_ | refine in_ret ?_)
     | refine w_ret ?_
     | (with_reducible first | refine s_none ?_ | refine x_assign (h := ?_) | refine x_box (h := ?_) | refine x_alloc (h := ?_) | refine x_store0 (h := ?_))
     | (with_reducible refine x_q (h := ?_))
     | refine x_condt (h1 := ?_) | refine x_condf (h1 := ?_)
     | fail)
    all_goals try clear fx
    refine e_ret [] .nil (by simp [hc2]; rfl) ?_
    simp [Stm.ren, Stm.av]
  · skip
    all_goals have fx := fx0
    repeat' (first
     | refine w_seq ?_ | refine w_block ?_ | refine w_skip ?_ | refine w_reg fun K hK => ?_
     | ((with_reducible refine s_end hK ?_); clear hK K)
     | (with_reducible first | refine then_normal ?_ | refine in_normal ?_ | refine then_ret ?_ | refine in_ret ?_)
     | refine w_ret ?_
     | (with_reducible first | refine s_none ?_ | refine x_assign (h := ?_) | refine x_box (h := ?_) | refine x_alloc (h := ?_) | refine x_store0 (h := ?_))
     | ((with_reducible refine o_id 95 rfl ?_); refine x_call (hF := formOf_fn _ ⟨3, to, a, b⟩) (h := ?_))
     | (with_reducible refine x_q (h := ?_))
     | refine x_condt (h1 := ?_) | refine x_condf (h1 := ?_)
     | fail)
    all_goals try clear fx
    refine x_mutvc (f := 94) (.s 3) (.u 1 0 0) (hext := rfl) (hs := by simp) (xs := []) (ys := [.pt (.s 4) 0, .pt (.s 5) 0]) (avs := [.pt (.u 1 0 0) 1, .pt (.s 4) 0, .pt (.s 5) 0]) (hv := by simp) (ha := by simp) (hB := .cons (.refl _) (.cons (bw_box (by simp)) (.cons (bw_box (by simp)) .nil))) (hF := renamed1_fn _ _ 3 to a b x y 1 (by decide) (by simp)) (h := ?_)
    rintro z H0 hy0
    have hc0 := hcln_row hy0 (by simp)
    simp only [chg, Stm.cells] at hc0
    clear hy0
    all_goals have fx :=  hc0
    repeat' (first
     | refine w_seq ?_ | refine w_block ?_ | refine w_skip ?_ | refine w_reg fun K hK => ?_
     | ((with_reducible refine s_end hK ?_); clear hK K)
     | (with_reducible first | refine then_normal ?_ | refine in_normal ?_ | refine then_ret ?_ | refine in_ret ?_)
     | refine w_ret ?_
     | (with_reducible first | refine s_none ?_ | refine x_assign (h := ?_) | refine x_box (h := ?_) | refine x_alloc (h := ?_) | refine x_store0 (h := ?_))
     | (with_reducible refine x_q (h := ?_))
     | refine x_condt (h1 := ?_) | refine x_condf (h1 := ?_)
     | fail)
    all_goals try clear fx
    refine e_ret [] .nil (by simp [hc0]; rfl) ?_
    simp [Stm.ren, Stm.av]
  · skip
    all_goals have fx := fx0
    repeat' (first
     | refine w_seq ?_ | refine w_block ?_ | refine w_skip ?_ | refine w_reg fun K hK => ?_
     | ((with_reducible refine s_end hK ?_); clear hK K)
     | (with_reducible first | refine then_normal ?_ | refine in_normal ?_ | refine then_ret ?_ | refine in_ret ?_)
     | refine w_ret ?_
     | (with_reducible first | refine s_none ?_ | refine x_assign (h := ?_) | refine x_box (h := ?_) | refine x_alloc (h := ?_) | refine x_store0 (h := ?_))
     | ((with_reducible refine o_id 95 rfl ?_); refine x_call (hF := formOf_fn _ ⟨4, to, a, b⟩) (h := ?_))
     | (with_reducible refine x_q (h := ?_))
     | refine x_condt (h1 := ?_) | refine x_condf (h1 := ?_)
     | fail)
    all_goals try clear fx
    refine x_mutvc (f := 94) (.s 3) (.u 1 0 0) (hext := rfl) (hs := by simp) (xs := []) (ys := [.pt (.s 4) 0, .pt (.s 5) 0]) (avs := [.pt (.u 1 0 0) 1, .pt (.s 4) 0, .pt (.s 5) 0]) (hv := by simp) (ha := by simp) (hB := .cons (.refl _) (.cons (bw_box (by simp)) (.cons (bw_box (by simp)) .nil))) (hF := renamed1_fn _ _ 4 to a b x y 1 (by decide) (by simp)) (h := ?_)
    rintro z H0 hy0
    have hc0 := hcln_row hy0 (by simp)
    simp only [chg, Stm.cells] at hc0
    clear hy0
    all_goals have fx :=  hc0
    repeat' (first
     | refine w_seq ?_ | refine w_block ?_ | refine w_skip ?_ | refine w_reg fun K hK => ?_
     | ((with_reducible refine s_end hK ?_); clear hK K)
     | (with_reducible first | refine then_normal ?_ | refine in_normal ?_ | refine then_ret ?_ | refine in_ret ?_)
     | refine w_ret ?_
     | (with_reducible first | refine s_none ?_ | refine x_assign (h := ?_) | refine x_box (h := ?_) | refine x_alloc (h := ?_) | refine x_store0 (h := ?_))
     | (with_reducible refine x_q (h := ?_))
     | refine x_condt (h1 := ?_) | refine x_condf (h1 := ?_)
     | fail)
    all_goals try clear fx
    refine e_ret [] .nil (by simp [hc0]; rfl) ?_
    simp [Stm.ren, Stm.av]
  · skip
    all_goals have fx := fx0
    repeat' (first
     | refine w_seq ?_ | refine w_block ?_ | refine w_skip ?_ | refine w_reg fun K hK => ?_
     | ((with_reducible refine s_end hK ?_); clear hK K)
     | (with_reducible first | refine then_normal ?_ | refine in_normal ?_ | refine then_ret ?_ | refine in_ret ?_)
     | refine w_ret ?_
     | (with_reducible first | refine s_none ?_ | refine x_assign (h := ?_) | refine x_box (h := ?_) | refine x_alloc (h := ?_) | refine x_store0 (h := ?_))
     | ((with_reducible refine o_id 95 rfl ?_); refine x_call (hF := formOf_fn _ ⟨5, to, a, b⟩) (h := ?_))
     | (with_reducible refine x_q (h := ?_))
     | refine x_condt (h1 := ?_) | refine x_condf (h1 := ?_)
     | fail)
    all_goals try clear fx
    refine x_mutvc (f := 94) (.s 3) (.u 1 0 0) (hext := rfl) (hs := by simp) (xs := []) (ys := [.pt (.s 4) 0, .pt (.s 5) 0]) (avs := [.pt (.u 1 0 0) 2, .pt (.s 4) 0, .pt (.s 5) 0]) (hv := by simp) (ha := by simp) (hB := .cons (.refl _) (.cons (bw_box (by simp)) (.cons (bw_box (by simp)) .nil))) (hF := renamed1_fn _ _ 5 to a b x y 2 (by decide) (by simp)) (h := ?_)
    rintro z H0 hy0
    have hc0 := hcln_row hy0 (by simp)
    simp only [chg, Stm.cells] at hc0
    clear hy0
    all_goals have fx :=  hc0
    repeat' (first
     | refine w_seq ?_ | refine w_block ?_ | refine w_skip ?_ | refine w_reg fun K hK => ?_
     | ((with_reducible refine s_end hK ?_); clear hK K)
     | (with_reducible first | refine then_normal ?_ | refine in_normal ?_ | refine then_ret ?_ | refine in_ret ?_)
     | refine w_ret ?_
     | (with_reducible first | refine s_none ?_ | refine x_assign (h := ?_) | refine x_box (h := ?_) | refine x_alloc (h := ?_) | refine x_store0 (h := ?_))
     | (with_reducible refine x_q (h := ?_))
     | refine x_condt (h1 := ?_) | refine x_condf (h1 := ?_)
     | fail)
    all_goals try clear fx
    refine x_mutvc (f := 94) (.s 3) (.u 1 0 0) (hext := rfl) (hs := by simp [hc0]) (xs := []) (ys := [.pt (.s 4) 0, .pt (.s 5) 0]) (avs := [.pt (.u 1 0 0) 3, .pt (.s 4) 0, .pt (.s 5) 0]) (hv := by simp) (ha := by simp) (hB := .cons (.refl _) (.cons (bw_box (by simp)) (.cons (bw_box (by simp)) .nil))) (hF := renamed1_fn _ _ 5 to (swapI a x y) b x y 3 (by decide) (by simp [hc0])) (h := ?_)
    rintro z H1 hy1
    have hc1 := hcln_row hy1 (by simp)
    simp only [chg, Stm.cells] at hc1
    clear hy1
    all_goals have fx :=  hc1
    repeat' (first
     | refine w_seq ?_ | refine w_block ?_ | refine w_skip ?_ | refine w_reg fun K hK => ?_
     | ((with_reducible refine s_end hK ?_); clear hK K)
     | (with_reducible first | refine then_normal ?_ | refine in_normal ?_ | refine then_ret ?_ | refine in_ret ?_)
     | refine w_ret ?_
     | (with_reducible first | refine s_none ?_ | refine x_assign (h := ?_) | refine x_box (h := ?_) | refine x_alloc (h := ?_) | refine x_store0 (h := ?_))
     | (with_reducible refine x_q (h := ?_))
     | refine x_condt (h1 := ?_) | refine x_condf (h1 := ?_)
     | fail)
    all_goals try clear fx
    refine x_mutvc (f := 94) (.s 3) (.u 1 0 0) (hext := rfl) (hs := by simp [hc1]) (xs := []) (ys := [.pt (.s 4) 0, .pt (.s 5) 0]) (avs := [.pt (.u 1 0 0) 1, .pt (.s 4) 0, .pt (.s 5) 0]) (hv := by simp) (ha := by simp) (hB := .cons (.refl _) (.cons (bw_box (by simp)) (.cons (bw_box (by simp)) .nil))) (hF := renamed1_fn _ _ 5 to (swapI a x y) (swapI b x y) x y 1 (by decide) (by simp [hc1])) (h := ?_)
    rintro z H2 hy2
    have hc2 := hcln_row hy2 (by simp)
    simp only [chg, Stm.cells] at hc2
    clear hy2
    all_goals have fx :=  hc2
    repeat' (first
     | refine w_seq ?_ | refine w_block ?_ | refine w_skip ?_ | refine w_reg fun K hK => ?_
     | ((with_reducible refine s_end hK ?_); clear hK K)
     | (with_reducible first | refine then_normal ?_ | refine in_normal ?_ | refine then_ret ?_ | refine in_ret ?_)
     | refine w_ret ?_
     | (with_reducible first | refine s_none ?_ | refine x_assign (h := ?_) | refine x_box (h := ?_) | refine x_alloc (h := ?_) | refine x_store0 (h := ?_))
     | (with_reducible refine x_q (h := ?_))
     | refine x_condt (h1 := ?_) | refine x_condf (h1 := ?_)
     | fail)
    all_goals try clear fx
    refine e_ret [] .nil (by simp [hc2]; rfl) ?_
    simp [Stm.ren, Stm.av]
  · skip
    all_goals have fx := fx0
    repeat' (first
     | refine w_seq ?_ | refine w_block ?_ | refine w_skip ?_ | refine w_reg fun K hK => ?_
     | ((with_reducible refine s_end hK ?_); clear hK K)
     | (with_reducible first | refine then_normal ?_ | refine in_normal ?_ | refine then_ret ?_ | refine in_ret ?_)
     | refine w_ret ?_
     | (with_reducible first | refine s_none ?_ | refine x_assign (h := ?_) | refine x_box (h := ?_) | refine x_alloc (h := ?_) | refine x_store0 (h := ?_))
     | ((with_reducible refine o_id 95 rfl ?_); refine x_call (hF := formOf_fn _ ⟨6, to, a, b⟩) (h := ?_))
     | (with_reducible refine x_q (h := ?_))
     | refine x_condt (h1 := ?_) | refine x_condf (h1 := ?_)
     | fail)
    all_goals try clear fx
    refine x_mutvc (f := 94) (.s 3) (.u 1 0 0) (hext := rfl) (hs := by simp) (xs := []) (ys := [.pt (.s 4) 0, .pt (.s 5) 0]) (avs := [.pt (.u 1 0 0) 2, .pt (.s 4) 0, .pt (.s 5) 0]) (hv := by simp) (ha := by simp) (hB := .cons (.refl _) (.cons (bw_box (by simp)) (.cons (bw_box (by simp)) .nil))) (hF := renamed1_fn _ _ 6 to a b x y 2 (by decide) (by simp)) (h := ?_)
    rintro z H0 hy0
    have hc0 := hcln_row hy0 (by simp)
    simp only [chg, Stm.cells] at hc0
    clear hy0
    all_goals have fx :=  hc0
    repeat' (first
     | refine w_seq ?_ | refine w_block ?_ | refine w_skip ?_ | refine w_reg fun K hK => ?_
     | ((with_reducible refine s_end hK ?_); clear hK K)
     | (with_reducible first | refine then_normal ?_ | refine in_normal ?_ | refine then_ret ?_ | refine in_ret ?_)
     | refine w_ret ?_
     | (with_reducible first | refine s_none ?_ | refine x_assign (h := ?_) | refine x_box (h := ?_) | refine x_alloc (h := ?_) | refine x_store0 (h := ?_))
     | (with_reducible refine x_q (h := ?_))
     | refine x_condt (h1 := ?_) | refine x_condf (h1 := ?_)
     | fail)
    all_goals try clear fx
    refine x_mutvc (f := 94) (.s 3) (.u 1 0 0) (hext := rfl) (hs := by simp [hc0]) (xs := []) (ys := [.pt (.s 4) 0, .pt (.s 5) 0]) (avs := [.pt (.u 1 0 0) 1, .pt (.s 4) 0, .pt (.s 5) 0]) (hv := by simp) (ha := by simp) (hB := .cons (.refl _) (.cons (bw_box (by simp)) (.cons (bw_box (by simp)) .nil))) (hF := renamed1_fn _ _ 6 to (swapI a x y) b x y 1 (by decide) (by simp [hc0])) (h := ?_)
    rintro z H1 hy1
    have hc1 := hcln_row hy1 (by simp)
    simp only [chg, Stm.cells] at hc1
    clear hy1
    all_goals have fx :=  hc1
    repeat' (first
     | refine w_seq ?_ | refine w_block ?_ | refine w_skip ?_ | refine w_reg fun K hK => ?_
     | ((with_reducible refine s_end hK ?_); clear hK K)
     | (with_reducible first | refine then_normal ?_ | refine in_normal ?_ | refine then_ret ?_ | refine in_ret ?_)
     | refine w_ret ?_
     | (with_reducible first | refine s_none ?_ | refine x_assign (h := ?_) | refine x_box (h := ?_) | refine x_alloc (h := ?_) | refine x_store0 (h := ?_))
     | (with_reducible refine x_q (h := ?_))
     | refine x_condt (h1 := ?_) | refine x_condf (h1 := ?_)
     | fail)
    all_goals try clear fx
    refine e_ret [] .nil (by simp [hc1]; rfl) ?_
    simp [Stm.ren, Stm.av]
  · skip
    all_goals have fx := fx0
    repeat' (first
     | refine w_seq ?_ | refine w_block ?_ | refine w_skip ?_ | refine w_reg fun K hK => ?_
     | ((with_reducible refine s_end hK ?_); clear hK K)
     | (with_reducible first | refine then_normal ?_ | refine in_normal ?_ | refine then_ret ?_ | refine in_ret ?_)
     | refine w_ret ?_
     | (with_reducible first | refine s_none ?_ | refine x_assign (h := ?_) | refine x_box (h := ?_) | refine x_alloc (h := ?_) | refine x_store0 (h := ?_))
     | ((with_reducible refine o_id 95 rfl ?_); refine x_call (hF := formOf_fn _ ⟨7, to, a, b⟩) (h := ?_))
     | (with_reducible refine x_q (h := ?_))
     | refine x_condt (h1 := ?_) | refine x_condf (h1 := ?_)
     | fail)
    all_goals try clear fx
    refine x_mutvc (f := 94) (.s 3) (.u 1 0 0) (hext := rfl) (hs := by simp) (xs := []) (ys := [.pt (.s 4) 0, .pt (.s 5) 0]) (avs := [.pt (.u 1 0 0) 2, .pt (.s 4) 0, .pt (.s 5) 0]) (hv := by simp) (ha := by simp) (hB := .cons (.refl _) (.cons (bw_box (by simp)) (.cons (bw_box (by simp)) .nil))) (hF := renamed1_fn _ _ 7 to a b x y 2 (by decide) (by simp)) (h := ?_)
    rintro z H0 hy0
    have hc0 := hcln_row hy0 (by simp)
    simp only [chg, Stm.cells] at hc0
    clear hy0
    all_goals have fx :=  hc0
    repeat' (first
     | refine w_seq ?_ | refine w_block ?_ | refine w_skip ?_ | refine w_reg fun K hK => ?_
     | ((with_reducible refine s_end hK ?_); clear hK K)
     | (with_reducible first | refine then_normal ?_ | refine in_normal ?_ | refine then_ret ?_ | refine in_ret ?_)
     | refine w_ret ?_
     | (with_reducible first | refine s_none ?_ | refine x_assign (h := ?_) | refine x_box (h := ?_) | refine x_alloc (h := ?_) | refine x_store0 (h := ?_))
     | (with_reducible refine x_q (h := ?_))
     | refine x_condt (h1 := ?_) | refine x_condf (h1 := ?_)
     | fail)
    all_goals try clear fx
    refine e_ret [] .nil (by simp [hc0]; rfl) ?_
    simp [Stm.ren, Stm.av]
  · skip
    all_goals have fx := fx0
    repeat' (first
     | refine w_seq ?_ | refine w_block ?_ | refine w_skip ?_ | refine w_reg fun K hK => ?_
     | ((with_reducible refine s_end hK ?_); clear hK K)
     | (with_reducible first | refine then_normal ?_ | refine in_normal ?_ | refine then_ret ?_ | refine in_ret ?_)
     | refine w_ret ?_
     | (with_reducible first | refine s_none ?_ | refine x_assign (h := ?_) | refine x_box (h := ?_) | refine x_alloc (h := ?_) | refine x_store0 (h := ?_))
     | ((with_reducible refine o_id 95 rfl ?_); refine x_call (hF := formOf_fn _ ⟨8, to, a, b⟩) (h := ?_))
     | (with_reducible refine x_q (h := ?_))
     | refine x_condt (h1 := ?_) | refine x_condf (h1 := ?_)
     | fail)
    all_goals try clear fx
    refine x_mutvc (f := 94) (.s 3) (.u 1 0 0) (hext := rfl) (hs := by simp) (xs := []) (ys := [.pt (.s 4) 0, .pt (.s 5) 0]) (avs := [.pt (.u 1 0 0) 2, .pt (.s 4) 0, .pt (.s 5) 0]) (hv := by simp) (ha := by simp) (hB := .cons (.refl _) (.cons (bw_box (by simp)) (.cons (bw_box (by simp)) .nil))) (hF := renamed1_fn _ _ 8 to a b x y 2 (by decide) (by simp)) (h := ?_)
    rintro z H0 hy0
    have hc0 := hcln_row hy0 (by simp)
    simp only [chg, Stm.cells] at hc0
    clear hy0
    all_goals have fx :=  hc0
    repeat' (first
     | refine w_seq ?_ | refine w_block ?_ | refine w_skip ?_ | refine w_reg fun K hK => ?_
     | ((with_reducible refine s_end hK ?_); clear hK K)
     | (with_reducible first | refine then_normal ?_ | refine in_normal ?_ | refine then_ret ?_ | refine in_ret ?_)
     | refine w_ret ?_
     | (with_reducible first | refine s_none ?_ | refine x_assign (h := ?_) | refine x_box (h := ?_) | refine x_alloc (h := ?_) | refine x_store0 (h := ?_))
     | (with_reducible refine x_q (h := ?_))
     | refine x_condt (h1 := ?_) | refine x_condf (h1 := ?_)
     | fail)
    all_goals try clear fx
    refine e_ret [] .nil (by simp [hc0]; rfl) ?_
    simp [Stm.ren, Stm.av]
  · skip
    all_goals have fx := fx0
    repeat' (first
     | refine w_seq ?_ | refine w_block ?_ | refine w_skip ?_ | refine w_reg fun K hK => ?_
     | ((with_reducible refine s_end hK ?_); clear hK K)
     | (with_reducible first | refine then_normal ?_ | refine in_normal ?_ | refine then_ret ?_ | refine in_ret ?_)
     | refine w_ret ?_
     | (with_reducible first | refine s_none ?_ | refine x_assign (h := ?_) | refine x_box (h := ?_) | refine x_alloc (h := ?_) | refine x_store0 (h := ?_))
     | ((with_reducible refine o_id 95 rfl ?_); refine x_call (hF := formOf_fn _ ⟨9, to, a, b⟩) (h := ?_))
     | (with_reducible refine x_q (h := ?_))
     | refine x_condt (h1 := ?_) | refine x_condf (h1 := ?_)
     | fail)
    all_goals try clear fx
    refine x_mutvc (f := 94) (.s 3) (.u 1 0 0) (hext := rfl) (hs := by simp) (xs := []) (ys := [.pt (.s 4) 0, .pt (.s 5) 0]) (avs := [.pt (.u 1 0 0) 1, .pt (.s 4) 0, .pt (.s 5) 0]) (hv := by simp) (ha := by simp) (hB := .cons (.refl _) (.cons (bw_box (by simp)) (.cons (bw_box (by simp)) .nil))) (hF := renamed1_fn _ _ 9 to a b x y 1 (by decide) (by simp)) (h := ?_)
    rintro z H0 hy0
    have hc0 := hcln_row hy0 (by simp)
    simp only [chg, Stm.cells] at hc0
    clear hy0
    all_goals have fx :=  hc0
    repeat' (first
     | refine w_seq ?_ | refine w_block ?_ | refine w_skip ?_ | refine w_reg fun K hK => ?_
     | ((with_reducible refine s_end hK ?_); clear hK K)
     | (with_reducible first | refine then_normal ?_ | refine in_normal ?_ | refine then_ret ?_ | refine in_ret ?_)
     | refine w_ret ?_
     | (with_reducible first | refine s_none ?_ | refine x_assign (h := ?_) | refine x_box (h := ?_) | refine x_alloc (h := ?_) | refine x_store0 (h := ?_))
     | (with_reducible refine x_q (h := ?_))
     | refine x_condt (h1 := ?_) | refine x_condf (h1 := ?_)
     | fail)
    all_goals try clear fx
    refine e_ret [] .nil (by simp [hc0]; rfl) ?_
    simp [Stm.ren, Stm.av]
  · skip
    all_goals have fx := fx0
    repeat' (first
     | refine w_seq ?_ | refine w_block ?_ | refine w_skip ?_ | refine w_reg fun K hK => ?_
     | ((with_reducible refine s_end hK ?_); clear hK K)
     | (with_reducible first | refine then_normal ?_ | refine in_normal ?_ | refine then_ret ?_ | refine in_ret ?_)
     | refine w_ret ?_
     | (with_reducible first | refine s_none ?_ | refine x_assign (h := ?_) | refine x_box (h := ?_) | refine x_alloc (h := ?_) | refine x_store0 (h := ?_))
     | ((with_reducible refine o_id 95 rfl ?_); refine x_call (hF := formOf_fn _ ⟨10, to, a, b⟩) (h := ?_))
     | (with_reducible refine x_q (h := ?_))
     | refine x_condt (h1 := ?_) | refine x_condf (h1 := ?_)
     | fail)
    all_goals try clear fx
    refine x_mutvc (f := 94) (.s 3) (.u 1 0 0) (hext := rfl) (hs := by simp) (xs := []) (ys := [.pt (.s 4) 0, .pt (.s 5) 0]) (avs := [.pt (.u 1 0 0) 1, .pt (.s 4) 0, .pt (.s 5) 0]) (hv := by simp) (ha := by simp) (hB := .cons (.refl _) (.cons (bw_box (by simp)) (.cons (bw_box (by simp)) .nil))) (hF := renamed1_fn _ _ 10 to a b x y 1 (by decide) (by simp)) (h := ?_)
    rintro z H0 hy0
    have hc0 := hcln_row hy0 (by simp)
    simp only [chg, Stm.cells] at hc0
    clear hy0
    all_goals have fx :=  hc0
    repeat' (first
     | refine w_seq ?_ | refine w_block ?_ | refine w_skip ?_ | refine w_reg fun K hK => ?_
     | ((with_reducible refine s_end hK ?_); clear hK K)
     | (with_reducible first | refine then_normal ?_ | refine in_normal ?_ | refine then_ret ?_ | refine in_ret ?_)
     | refine w_ret ?_
     | (with_reducible first | refine s_none ?_ | refine x_assign (h := ?_) | refine x_box (h := ?_) | refine x_alloc (h := ?_) | refine x_store0 (h := ?_))
     | (with_reducible refine x_q (h := ?_))
     | refine x_condt (h1 := ?_) | refine x_condf (h1 := ?_)
     | fail)
    all_goals try clear fx
    refine e_ret [] .nil (by simp [hc0]; rfl) ?_
    simp [Stm.ren, Stm.av]
  · skip
    all_goals have fx := fx0
    repeat' (first
     | refine w_seq ?_ | refine w_block ?_ | refine w_skip ?_ | refine w_reg fun K hK => ?_
     | ((with_reducible refine s_end hK ?_); clear hK K)
     | (with_reducible first | refine then_normal ?_ | refine in_normal ?_ | refine then_ret ?_ | refine in_ret ?_)
     | refine w_ret ?_
     | (with_reducible first | refine s_none ?_ | refine x_assign (h := ?_) | refine x_box (h := ?_) | refine x_alloc (h := ?_) | refine x_store0 (h := ?_))
     | ((with_reducible refine o_id 95 rfl ?_); refine x_call (hF := formOf_fn _ ⟨11, to, a, b⟩) (h := ?_))
     | (with_reducible refine x_q (h := ?_))
     | refine x_condt (h1 := ?_) | refine x_condf (h1 := ?_)
     | fail)
    all_goals try clear fx
    refine x_mutvc (f := 94) (.s 3) (.u 1 0 0) (hext := rfl) (hs := by simp) (xs := []) (ys := [.pt (.s 4) 0, .pt (.s 5) 0]) (avs := [.pt (.u 1 0 0) 1, .pt (.s 4) 0, .pt (.s 5) 0]) (hv := by simp) (ha := by simp) (hB := .cons (.refl _) (.cons (bw_box (by simp)) (.cons (bw_box (by simp)) .nil))) (hF := renamed1_fn _ _ 11 to a b x y 1 (by decide) (by simp)) (h := ?_)
    rintro z H0 hy0
    have hc0 := hcln_row hy0 (by simp)
    simp only [chg, Stm.cells] at hc0
    clear hy0
    all_goals have fx :=  hc0
    repeat' (first
     | refine w_seq ?_ | refine w_block ?_ | refine w_skip ?_ | refine w_reg fun K hK => ?_
     | ((with_reducible refine s_end hK ?_); clear hK K)
     | (with_reducible first | refine then_normal ?_ | refine in_normal ?_ | refine then_ret ?_ | refine in_ret ?_)
     | refine w_ret ?_
     | (with_reducible first | refine s_none ?_ | refine x_assign (h := ?_) | refine x_box (h := ?_) | refine x_alloc (h := ?_) | refine x_store0 (h := ?_))
     | (with_reducible refine x_q (h := ?_))
     | refine x_condt (h1 := ?_) | refine x_condf (h1 := ?_)
     | fail)
    all_goals try clear fx
    refine e_ret [] .nil (by simp [hc0]; rfl) ?_
    simp [Stm.ren, Stm.av]
end Go.Proofs.Ytopgafhjmbfaoaa
end
