/-
  Own texts, joined by mkclaim.py: Gg, Gh, Gi, Ph, Gl, Ha, Hb, Hc.
-/
import Derived.Test.YtpckgioefpkmoaaGreatE18
import Derived.Test.YtpckgioefpkmoaaGreatE09
import Derived.Test.YtpckgioefpkmoaaGreatE20
import Derived.Test.YtpckgioefpkmoaaGreatE14
import Derived.Test.YtpckgioefpkmoaaGreatE10
set_option linter.unusedSimpArgs false
set_option linter.unusedVariables false

section
set_option maxRecDepth 100000
set_option maxHeartbeats 1000000
set_option linter.unusedSimpArgs false
namespace Go.Proofs.YtpckgioefpkmoaaGreat
open Go Go.Hm Go.Proofs
theorem validStmt_fn (gl) (p : Prg) (b : Nat) (k : Blk) (s : Stm) (hk : p[b]? = some k) (hs : Sml p) (hb : b < p.length) : FnOk Tryz.prog gl 104 [pav p, iv b, Stm.av s] (fun _ y _ => y = bv (StmOk p b k s)) := by
  refine FnOk.of_sem Tryz.func104 rfl (by kernel_rfl) (rs := [.tmp 6]) rfl Tryz.ntmps104 (Nat.le_of_ble_eq_true rfl) fun C w g root => ?_
  obtain ⟨kind, to, a, c⟩ := s
  all_goals have fx :=  hk
  repeat' (first
   | refine w_seq ?_ | refine w_block ?_ | refine w_skip ?_ | refine w_reg fun K hK => ?_
   | ((with_reducible refine s_end hK ?_); clear hK K)
   | (with_reducible first | refine then_normal ?_ | refine then_ret ?_)
   | refine w_ret ?_
   | (with_reducible refine s_none ?_)
   | (with_reducible first | refine x_assign (h := ?_) | refine x_box (h := ?_))
   | ((with_reducible refine o_id 122 rfl ?_); refine x_callh (hF := readsOf_fn _ ⟨kind, to, a, c⟩) (h := ?_))
   | ((with_reducible refine o_id 121 rfl ?_); refine x_call (hF := spec_isName_fn _ _) (h := ?_))
   | (with_reducible refine x_q (h := ?_))
   | refine x_if (h1 := fun ht => ?_) (h2 := fun ht => ?_)
   | fail)
  all_goals try clear fx
  · have hto : isNm to = false := by
      rw [Bool.eq_false_iff]
      intro h
      simp at h ht
      omega
    refine e_ret [] .nil (by simp; rfl) ?_
    simp only [StmOk, hto]
    rfl
  have hto : isNm to = true := by simpa using ht
  generalize hr : Stm.reads ⟨kind, to, a, c⟩ = rs
  have hrl : rs.length ≤ 2 := hr ▸ Stm.reads_len _
  refine w_loop (fun n st => ∃ i : Nat, n = rs.length - i ∧ i ≤ rs.length ∧ st.tm 1 = iv b ∧ st.tm 3 = .pt (.s 3) 0 ∧ st.hp (.s 3) = some (.row 1 [[ksl p]]) ∧ st.tm 5 = .pt (.s 5) 0 ∧ st.hp (.s 5) = some (.row 4 [[iv kind, iv to, iv a, iv c]]) ∧ st.tm 8 = iv i ∧ st.tm 7 = .hs (.s 7) 1 0 rs.length ∧ st.hp (.s 7) = some (.row 1 (irows rs)) ∧ (rs.take i).all isNm = true) rs.length ?_ ?_
  · exact ⟨0, by simp [hr]⟩
  rintro n st - - ⟨i, rfl, hi, h1, h3, hp3, h5, hp5, h8, h7, hp7, hal⟩
  all_goals have fx := And.intro h1 <| And.intro h3 <| And.intro hp3 <| And.intro h5 <| And.intro hp5 <| And.intro h8 <| And.intro h7 <| hp7
  repeat' (first
   | refine w_seq ?_ | refine w_reg fun K hK => ?_
   | ((with_reducible refine s_end hK ?_); clear hK K)
   | (with_reducible first | refine then_normal ?_)
   | (with_reducible refine s_none ?_)
   | (with_reducible refine x_q (h := ?_))
   | fail)
  all_goals try clear fx
  refine w_if (by simp []; first | done | rfl | exact (Bool.not_not _).symm) (fun ht => ?_) (fun hf => ?_)
  · have hlt : i < rs.length := by simpa using ht
    obtain ⟨y, hy⟩ : ∃ y, rs[i]? = some y := ⟨_, List.getElem?_eq_getElem hlt⟩
    obtain ⟨_, hy'⟩ := List.getElem?_eq_some_iff.1 hy
    all_goals have fx := And.intro h1 <| And.intro h3 <| And.intro hp3 <| And.intro h5 <| And.intro hp5 <| And.intro h8 <| And.intro h7 <| And.intro hp7 <| And.intro hy' <| hlt
    repeat' (first
     | refine w_seq ?_ | refine w_block ?_ | refine w_skip ?_ | refine w_reg fun K hK => ?_
     | ((with_reducible refine s_end hK ?_); clear hK K)
     | (with_reducible first | refine then_normal ?_ | refine then_ret ?_ | refine in_ret ?_)
     | refine w_ret ?_
     | (with_reducible refine s_none ?_)
     | (with_reducible first | refine x_assign (h := ?_))
     | ((with_reducible refine o_id 121 rfl ?_); refine x_call (hF := spec_isName_fn _ _) (h := ?_))
     | (with_reducible refine x_q (h := ?_))
     | refine x_if (h1 := fun ht => ?_) (h2 := fun ht => ?_)
     | fail)
    all_goals try clear fx
    · have hno : isNm y = false := by
        rw [Bool.eq_false_iff]
        intro h
        simp at h ht
        omega
      refine e_ret [] .nil (by simp; rfl) ?_
      have hall : rs.all isNm = false := by
        rw [Bool.eq_false_iff]
        intro h
        have := List.all_eq_true.1 h y (List.mem_of_getElem? hy)
        rw [hno] at this
        cases this
      simp only [StmOk, hr, hall]
      simp
    · have hyes : isNm y = true := by simpa using ht
      refine ⟨rs.length - (i + 1), by omega, i + 1, rfl, by omega, by simp [h1], by simp [h3], by simp [hp3], by simp [h5], by simp [hp5], by simp; exact wrp (by omega) (by omega), by simp [h7], by simp [hp7], ?_⟩
      rw [List.take_add_one, hy, List.all_append, hal]
      simp only [Option.toList_some, List.all_cons, List.all_nil, hyes]
      rfl
  · have hge : i = rs.length := by
      have : ¬ i < rs.length := by simpa using hf
      omega
    subst hge
    rw [List.take_length] at hal
    have hok : StmOk p b k ⟨kind, to, a, c⟩ = (if kind = 0 then decide (0 ≤ a) && decide (a ≤ 99) && c == 0 else if kind = 1 then c == 0 else if kind = 2 ∨ kind = 5 then true
      else if kind = 3 then c == 0 && madeAs p b a 1 else if kind = 4 then c == 0 && madeAs p b a 2 else if kind = 6 then isNm c
      else if kind = 7 then to == 0 && c == 0 else if kind = 8 then to == 0 && c == 0 && k.kind == 1
      else if kind = 9 ∨ kind = 10 then a == 0 && c == 0 && k.kind != 0 else if kind = 11 then a == 0 && c == 0 else false) := by
      simp only [StmOk, hr, hal, hto, Bool.true_and]
    rw [hok]
    clear hok
    all_goals have fx := And.intro h1 <| And.intro h3 <| And.intro hp3 <| And.intro h5 <| And.intro hp5 <| hk
    repeat' (first
     | refine w_seq ?_ | refine w_block ?_ | refine w_skip ?_ | refine w_reg fun K hK => ?_
     | ((with_reducible refine s_end hK ?_); clear hK K)
     | (with_reducible first | refine then_normal ?_ | refine then_ret ?_ | refine in_ret ?_)
     | refine w_exit ?_
     | refine w_ret ?_
     | (with_reducible refine s_none ?_)
     | ((with_reducible refine g_id ?_); refine x_guard (h := ?_))
     | (with_reducible first | refine gx_tt ?_ | refine x_tf (h := ?_) | refine x_assign (h := ?_))
     | ((with_reducible refine o_id 121 rfl ?_); refine x_call (hF := spec_isName_fn _ _) (h := ?_))
     | ((with_reducible refine o_id 84 rfl ?_); refine x_call (hF := inRange_fn _ _ _ _) (h := ?_))
     | ((with_reducible refine o_id 123 rfl ?_); refine x_call (hF := madeAs_fn _ p b _ _ hs hb) (h := ?_))
     | (with_reducible refine x_q (h := ?_))
     | (with_reducible refine gx_s (fun ht => ?_) (fun ht => ?_))
     | refine x_condt (h1 := ?_)
     | refine x_if (h1 := fun ht => ?_) (h2 := fun ht => ?_)
     | fail)
    all_goals try clear fx
    all_goals refine e_ret [] .nil (by simp; rfl) ?_
    all_goals simp_all
    all_goals (intros; omega)
end Go.Proofs.YtpckgioefpkmoaaGreat
end

section
set_option maxRecDepth 100000
set_option maxHeartbeats 1000000
set_option linter.unusedSimpArgs false
namespace Go.Proofs.YtpckgioefpkmoaaGreat
open Go Go.Hm Go.Proofs
theorem madeIn_fn (gl) (p : Prg) (b : Nat) (k : Blk) (hk : p[b]? = some k) (h0 : 0 < b) (hh : Heads p) (hs : Sml p) : FnOk Tryz.prog gl 105 [pav p, iv b] (fun _ y _ => y = iv (madeIn p b)) := by
  refine FnOk.of_sem Tryz.func105 rfl (by kernel_rfl) (rs := [.tmp 4]) rfl Tryz.ntmps105 (Nat.le_of_ble_eq_true rfl) fun C w g root => ?_
  obtain ⟨hp1, hp2, hp3⟩ := hh b k hk
  have hbl : b < p.length := (List.getElem?_eq_some_iff.1 hk).1
  have hkp := hp3 h0
  obtain ⟨q, hq⟩ : ∃ q, p[k.parent.toNat]? = some q := ⟨_, List.getElem?_eq_getElem (by omega)⟩
  have hmi : madeIn p b = ((q.body.filter (fun s => makes s b)).length : Int) := by simp only [madeIn, hk, hq]
  rw [hmi]
  have hql := (hs.bsm hq).body
  all_goals have fx := And.intro hk <| And.intro hq <| hkp
  repeat' (first
   | refine w_seq ?_ | refine w_block ?_ | refine w_reg fun K hK => ?_
   | ((with_reducible refine s_end hK ?_); clear hK K)
   | (with_reducible first | refine s_nil ?_)
   | (with_reducible refine s_none ?_)
   | (with_reducible first | refine x_assign (h := ?_) | refine x_box (h := ?_))
   | (refine w_sch (id := 2) (.q 0 <| .q 1 <| .q 2 <| .q 3 <| .q 4 <| .q 5 <| .q 6 <| .q 7 <| .q 8 <| .q 9 <| .q 10 <| .l 11 [] <| .done) mixed (by kernel_rfl) (by kernel_rfl) fun K hK => ?_)
   | ((with_reducible refine a_end hK ?_); clear hK K)
   | ((with_reducible refine a_id ?_); first | refine xa_q (h := ?_))
   | refine a_l rfl ?_ | (with_reducible refine And.intro ?_ ?_) | exact st_nil
   | fail)
  all_goals try clear fx
  refine w_loop (fun n st => ∃ i : Nat, n = q.body.length - i ∧ i ≤ q.body.length ∧ st.tm 1 = iv b ∧ st.tm 6 = ssl q.body ∧ st.tm 7 = iv i ∧ ∃ c : Nat, c = ((q.body.take i).filter (fun s => makes s b)).length ∧ c ≤ i ∧ st.tm 5 = iv c) q.body.length ?_ ?_
  · exact ⟨0, by simp⟩
  rintro n st - - ⟨i, rfl, hi, h1, h6, h7, c, hc, hci, h5⟩
  all_goals have fx := And.intro h1 <| And.intro h6 <| And.intro h7 <| h5
  repeat' (first
   | refine w_seq ?_ | refine w_reg fun K hK => ?_
   | ((with_reducible refine s_end hK ?_); clear hK K)
   | (with_reducible first | refine then_normal ?_)
   | (with_reducible refine s_none ?_)
   | (with_reducible refine x_q (h := ?_))
   | fail)
  all_goals try clear fx
  refine w_if (by simp []; first | done | rfl | exact (Bool.not_not _).symm) (fun ht => ?_) (fun hf => ?_)
  · have hlt : i < q.body.length := by simpa using ht
    obtain ⟨s, hs⟩ : ∃ s, q.body[i]? = some s := ⟨_, List.getElem?_eq_getElem hlt⟩
    all_goals have fx := And.intro h1 <| And.intro h6 <| And.intro h7 <| And.intro h5 <| hs
    repeat' (first
     | refine w_seq ?_ | refine w_block ?_ | refine w_skip ?_ | refine w_reg fun K hK => ?_
     | ((with_reducible refine s_end hK ?_); clear hK K)
     | (with_reducible first | refine then_normal ?_)
     | (with_reducible refine s_none ?_)
     | ((with_reducible refine g_id ?_); refine x_guard (h := ?_))
     | (with_reducible first | refine gx_tt ?_ | refine gx_ff ?_ | refine x_tf (h := ?_) | refine x_ft (h := ?_) | refine x_assign (h := ?_))
     | (with_reducible refine x_q (h := ?_))
     | (with_reducible refine gx_s (fun ht => ?_) (fun ht => ?_))
     | refine x_condf (h1 := ?_)
     | refine x_if (h1 := fun ht => ?_) (h2 := fun ht => ?_)
     | fail)
    all_goals try clear fx
    all_goals refine ⟨q.body.length - (i + 1), by omega, i + 1, rfl, by omega, by simp [h1], by simp [h6], by simp; exact wrp (by omega) (by omega), ?_⟩
    all_goals refine ⟨_, rfl, ?_⟩
    all_goals simp only [take_succ_filter hs, List.length_append]
    all_goals simp_all [makes]
    all_goals first | exact wrp (by omega) (by omega) | omega
  · have hge : i = q.body.length := by
      have : ¬ i < q.body.length := by simpa using hf
      omega
    subst hge
    rw [List.take_length] at hc
    all_goals have fx :=  h5
    repeat' (first
     | refine w_seq ?_ | refine w_reg fun K hK => ?_
     | ((with_reducible refine s_end hK ?_); clear hK K)
     | (with_reducible first | refine then_normal ?_)
     | refine w_exit ?_
     | refine w_ret ?_
     | (with_reducible refine s_none ?_)
     | (with_reducible first | refine x_assign (h := ?_))
     | (with_reducible refine x_q (h := ?_))
     | fail)
    all_goals try clear fx
    refine e_ret [] .nil (by simp []; rfl) (by simp [hc])
theorem validBlock_fn' (gl) (p : Prg) (b : Nat) (k : Blk) (hk : p[b]? = some k) (hb : b < p.length) (hs : Sml p) : FnOk Tryz.prog gl 103 [pav p, iv b] (fun _ y _ => y = bv (headOk b k)) := validBlock_fn gl p b k hk hb hs
theorem validShape_fn (gl) (p : Prg) (hs : Sml p) : FnOk Tryz.prog gl 75 [pav p] (fun _ y _ => y = bv (shapeOk p)) := by
  have hpl := hs.len
  refine FnOk.of_sem Tryz.func75 rfl (by kernel_rfl) (rs := [.tmp 2]) rfl Tryz.ntmps75 (Nat.le_of_ble_eq_true rfl) fun C w g root => ?_
  all_goals have fx := fx0
  repeat' (first
   | refine w_seq ?_ | refine w_block ?_ | refine w_skip ?_ | refine w_reg fun K hK => ?_
   | ((with_reducible refine s_end hK ?_); clear hK K)
   | (with_reducible first | refine then_normal ?_ | refine then_ret ?_)
   | refine w_ret ?_
   | (with_reducible refine s_none ?_)
   | (with_reducible first | refine x_assign (h := ?_) | refine x_box (h := ?_))
   | ((with_reducible refine o_id 84 rfl ?_); refine x_call (hF := inRange_fn _ _ _ _) (h := ?_))
   | (with_reducible refine x_q (h := ?_))
   | refine x_if (h1 := fun ht => ?_) (h2 := fun ht => ?_)
   | fail)
  all_goals try clear fx
  · refine e_ret [] .nil (by simp; rfl) ?_
    have hno : (decide (1 ≤ p.length) && decide (p.length ≤ 7)) = false := by
      rw [Bool.eq_false_iff]
      intro h
      simp at h ht
      omega
    simp only [shapeOk, hno]
    rfl
  have hyes : (decide (1 ≤ p.length) && decide (p.length ≤ 7)) = true := by
    simp at ht ⊢
    omega
  have hsh : shapeOk p = ((List.range p.length).all (blkOk p) && (List.range p.length).all (fun i => i == 0 || madeIn p i == 1)) := by
    simp only [shapeOk, hyes, Bool.true_and]
  rw [hsh]
  clear hsh
  refine w_loop (fun n st => ∃ i : Nat, n = p.length - i ∧ i ≤ p.length ∧ st.tm 1 = .pt (.s 1) 0 ∧ st.hp (.s 1) = some (.row 1 [[ksl p]]) ∧ st.tm 3 = iv i ∧ (List.range i).all (blkOk p) = true) p.length ?_ ?_
  · exact ⟨0, by simp⟩
  rintro n st - - ⟨i, rfl, hi, h1, hp1, h3, hal⟩
  all_goals have fx := And.intro h1 <| And.intro hp1 <| h3
  repeat' (first
   | refine w_seq ?_ | refine w_reg fun K hK => ?_
   | ((with_reducible refine s_end hK ?_); clear hK K)
   | (with_reducible first | refine then_normal ?_)
   | (with_reducible refine s_none ?_)
   | (with_reducible refine x_q (h := ?_))
   | fail)
  all_goals try clear fx
  refine w_if (by simp []; first | done | rfl | exact (Bool.not_not _).symm) (fun ht => ?_) (fun hf => ?_)
  · have hlt : i < p.length := by simpa using ht
    obtain ⟨k, hk⟩ : ∃ k, p[i]? = some k := ⟨_, List.getElem?_eq_getElem hlt⟩
    have hbf : blkOk p i = (headOk i k && decide (k.body.length ≤ 12) && k.body.all (StmOk p i k)) := by simp only [blkOk, hk]
    have fin : ∀ R : Bool, blkOk p i = false → ((List.range p.length).all (blkOk p) && R) = false := fun R h => by rw [range_false hlt h]; rfl
    have hbl := (hs.bsm hk).body
    all_goals have fx := And.intro h1 <| And.intro hp1 <| And.intro h3 <| hk
    repeat' (first
     | refine w_seq ?_ | refine w_block ?_ | refine w_skip ?_ | refine w_reg fun K hK => ?_
     | ((with_reducible refine s_end hK ?_); clear hK K)
     | (with_reducible first | refine then_normal ?_ | refine then_ret ?_ | refine in_ret ?_)
     | refine w_ret ?_
     | (with_reducible refine s_none ?_)
     | ((with_reducible refine g_id ?_); refine x_guard (h := ?_))
     | (with_reducible first | refine gx_ff ?_ | refine x_ft (h := ?_) | refine x_assign (h := ?_))
     | ((with_reducible refine o_id 103 rfl ?_); refine x_call (hF := validBlock_fn' _ p i k hk hlt hs) (h := ?_))
     | (with_reducible refine x_q (h := ?_))
     | (with_reducible refine gx_s (fun ht => ?_) (fun ht => ?_))
     | refine x_condt (h1 := ?_)
     | refine x_if (h1 := fun ht => ?_) (h2 := fun ht => ?_)
     | fail)
    all_goals try clear fx
    · refine e_ret [] .nil (by simp; rfl) ?_
      rw [fin _ (by rw [hbf, show headOk i k = false by simpa using ht]; rfl)]
      rfl
    · refine e_ret [] .nil (by simp; rfl) ?_
      rw [fin _ (by rw [hbf, show decide (k.body.length ≤ 12) = false by simp at ht ⊢; omega]; simp)]
      rfl
    rename_i ht1
    have hhd : headOk i k = true := by simpa using ht1
    have hbd : k.body.length ≤ 12 := by simp at ht; omega
    refine w_loop (fun n st => ∃ j : Nat, n = k.body.length - j ∧ j ≤ k.body.length ∧ st.tm 1 = .pt (.s 1) 0 ∧ st.hp (.s 1) = some (.row 1 [[ksl p]]) ∧ st.tm 3 = iv i ∧ st.tm 4 = iv j ∧ (k.body.take j).all (StmOk p i k) = true) k.body.length ?_ ?_
    · exact ⟨0, by simp [h1, hp1, h3]⟩
    clear h1 hp1 h3 ht ht1
    rintro n st - - ⟨j, rfl, hj, h1, hp1, h3, h4, haj⟩
    all_goals have fx := And.intro h1 <| And.intro hp1 <| And.intro h3 <| And.intro h4 <| hk
    repeat' (first
     | refine w_seq ?_ | refine w_reg fun K hK => ?_
     | ((with_reducible refine s_end hK ?_); clear hK K)
     | (with_reducible first | refine then_normal ?_)
     | (with_reducible refine s_none ?_)
     | (with_reducible refine x_q (h := ?_))
     | fail)
    all_goals try clear fx
    refine w_if (by simp []; first | done | rfl | exact (Bool.not_not _).symm) (fun ht => ?_) (fun hf => ?_)
    · have hlj : j < k.body.length := by simpa using ht
      obtain ⟨s, hsj⟩ : ∃ s, k.body[j]? = some s := ⟨_, List.getElem?_eq_getElem hlj⟩
      all_goals have fx := And.intro h1 <| And.intro hp1 <| And.intro h3 <| And.intro h4 <| And.intro hk <| hsj
      repeat' (first
       | refine w_seq ?_ | refine w_block ?_ | refine w_skip ?_ | refine w_reg fun K hK => ?_
       | ((with_reducible refine s_end hK ?_); clear hK K)
       | (with_reducible first | refine then_normal ?_ | refine then_ret ?_ | refine in_ret ?_ | refine s_nil ?_)
       | refine w_ret ?_
       | (with_reducible refine s_none ?_)
       | (with_reducible first | refine x_assign (h := ?_))
       | ((with_reducible refine o_id 104 rfl ?_); refine x_call (hF := validStmt_fn _ p i k s hk hs hlt) (h := ?_))
       | (with_reducible refine x_q (h := ?_))
       | (refine w_sch (id := 11) (.q 0 <| .q 1 <| .q 2 <| .q 3 <| .q 4 <| .q 5 <| .q 6 <| .q 7 <| .q 8 <| .q 9 <| .q 10 <| .l 11 [9, 8, 7, 6, 5, 4, 3, 2] <| .q 12 <| .done) mixed (by kernel_rfl) (by kernel_rfl) fun K hK => ?_)
       | ((with_reducible refine a_end hK ?_); clear hK K)
       | ((with_reducible refine a_id ?_); first | refine xa_q (h := ?_))
       | refine a_l rfl ?_ | (with_reducible refine And.intro ?_ ?_) | exact st_nil | refine xa_st (h2 := ?_)
       | refine x_if (h1 := fun ht => ?_) (h2 := fun ht => ?_)
       | fail)
      all_goals try clear fx
      · refine e_ret [] .nil (by simp; rfl) ?_
        rw [fin _ (by rw [hbf, all_false (List.mem_of_getElem? hsj) (show StmOk p i k s = false by simpa using ht)]; simp)]
        rfl
      · refine ⟨k.body.length - (j + 1), by omega, j + 1, rfl, by omega, by simp [h1], by simp [hp1], by simp [h3], by simp; exact wrp (by omega) (by omega), ?_⟩
        rw [List.take_add_one, hsj, List.all_append, haj]
        simpa using ht
    · have hge : j = k.body.length := by
        have : ¬ j < k.body.length := by simpa using hf
        omega
      subst hge
      rw [List.take_length] at haj
      all_goals have fx := And.intro h1 <| And.intro hp1 <| And.intro h3 <| And.intro h4 <| hk
      repeat' (first
       | refine w_reg fun K hK => ?_
       | ((with_reducible refine s_end hK ?_); clear hK K)
       | (with_reducible first | refine then_normal ?_)
       | refine w_exit ?_
       | (with_reducible refine s_none ?_)
       | (with_reducible first | refine x_assign (h := ?_))
       | (with_reducible refine x_q (h := ?_))
       | fail)
      all_goals try clear fx
      refine ⟨p.length - (i + 1), by omega, i + 1, rfl, by omega, by simp [h1], by simp [hp1], by simp; exact wrp (by omega) (by omega), ?_⟩
      rw [all_range_succ, hal, hbf, hhd, haj]
      simpa using hbd
  · have hge : i = p.length := by
      have : ¬ i < p.length := by simpa using hf
      omega
    subst hge
    have hh := heads_of hal
    rw [hal, Bool.true_and]
    all_goals have fx := And.intro h1 <| hp1
    repeat' (first
     | refine w_seq ?_ | refine w_block ?_ | refine w_reg fun K hK => ?_
     | ((with_reducible refine s_end hK ?_); clear hK K)
     | refine w_exit ?_
     | (with_reducible refine s_none ?_)
     | (with_reducible first | refine x_assign (h := ?_))
     | fail)
    all_goals try clear fx
    refine w_loop (fun n st => ∃ i : Nat, n = p.length - i ∧ i ≤ p.length ∧ 1 ≤ i ∧ st.tm 1 = .pt (.s 1) 0 ∧ st.hp (.s 1) = some (.row 1 [[ksl p]]) ∧ st.tm 5 = iv i ∧ (List.range i).all (fun i => i == 0 || madeIn p i == 1) = true) (p.length - 1) ?_ ?_
    · refine ⟨1, by omega, ?_, by omega, by simp [h1, hp1]⟩
      simp at hyes
      omega
    clear h1 hp1 h3 hi
    rintro n st - - ⟨i, rfl, hi, hi1, h1, hp1, h5, hmi⟩
    all_goals have fx := And.intro h1 <| And.intro hp1 <| h5
    repeat' (first
     | refine w_seq ?_ | refine w_reg fun K hK => ?_
     | ((with_reducible refine s_end hK ?_); clear hK K)
     | (with_reducible first | refine then_normal ?_)
     | (with_reducible refine s_none ?_)
     | (with_reducible refine x_q (h := ?_))
     | fail)
    all_goals try clear fx
    refine w_if (by simp []; first | done | rfl | exact (Bool.not_not _).symm) (fun ht => ?_) (fun hf => ?_)
    · have hlt : i < p.length := by simpa using ht
      obtain ⟨k, hk⟩ : ∃ k, p[i]? = some k := ⟨_, List.getElem?_eq_getElem hlt⟩
      all_goals have fx := And.intro h1 <| And.intro hp1 <| And.intro h5 <| @bne_def
      repeat' (first
       | refine w_seq ?_ | refine w_block ?_ | refine w_skip ?_ | refine w_reg fun K hK => ?_
       | ((with_reducible refine s_end hK ?_); clear hK K)
       | (with_reducible first | refine then_normal ?_ | refine then_ret ?_ | refine in_ret ?_)
       | refine w_ret ?_
       | (with_reducible refine s_none ?_)
       | (with_reducible first | refine x_assign (h := ?_))
       | ((with_reducible refine o_id 105 rfl ?_); refine x_call (hF := madeIn_fn _ p i k hk hi1 hh hs) (h := ?_))
       | (with_reducible refine x_q (h := ?_))
       | refine x_if (h1 := fun ht => ?_) (h2 := fun ht => ?_)
       | fail)
      all_goals try clear fx
      · refine e_ret [] .nil (by simp; rfl) ?_
        rw [range_false hlt (show (i == 0 || madeIn p i == 1) = false by simp at ht ⊢; exact ⟨by omega, ht⟩)]
        rfl
      · refine ⟨p.length - (i + 1), by omega, i + 1, rfl, by omega, by omega, by simp [h1], by simp [hp1], by simp; exact wrp (by omega) (by omega), ?_⟩
        rw [all_range_succ, hmi]
        simp at ht ⊢
        exact .inr ht
    · have hge : i = p.length := by
        have : ¬ i < p.length := by simpa using hf
        omega
      subst hge
      all_goals have fx := fx0
      repeat' (first
       | refine w_seq ?_ | refine w_reg fun K hK => ?_
       | ((with_reducible refine s_end hK ?_); clear hK K)
       | (with_reducible first | refine then_normal ?_)
       | refine w_exit ?_
       | refine w_ret ?_
       | (with_reducible refine s_none ?_)
       | (with_reducible first | refine x_assign (h := ?_))
       | fail)
      all_goals try clear fx
      refine e_ret [] .nil (by simp []; rfl) (by simp [hmi])
end Go.Proofs.YtpckgioefpkmoaaGreat
end

section
set_option maxRecDepth 100000
set_option maxHeartbeats 1000000
set_option linter.unusedSimpArgs false
namespace Go.Proofs.YtpckgioefpkmoaaGreat
open Go Go.Hm Go.Proofs
theorem validProgram_fn (gl) (p : Prg) (hs : Sml p) : FnOk Tryz.prog gl 52 [pav p] (fun _ y _ => y = bv (progOk p)) := by
  have hpl := hs.len
  refine FnOk.of_sem Tryz.func52 rfl (by kernel_rfl) (rs := [.tmp 2]) rfl Tryz.ntmps52 (Nat.le_of_ble_eq_true rfl) fun C w g root => ?_
  all_goals have fx := fx0
  repeat' (first
   | refine w_seq ?_ | refine w_block ?_ | refine w_skip ?_ | refine w_reg fun K hK => ?_
   | ((with_reducible refine s_end hK ?_); clear hK K)
   | (with_reducible first | refine then_normal ?_ | refine then_ret ?_)
   | refine w_ret ?_
   | (with_reducible refine s_none ?_)
   | (with_reducible first | refine x_assign (h := ?_) | refine x_box (h := ?_))
   | ((with_reducible refine o_id 75 rfl ?_); refine x_call (hF := validShape_fn _ p hs) (h := ?_))
   | (with_reducible refine x_q (h := ?_))
   | refine x_if (h1 := fun ht => ?_) (h2 := fun ht => ?_)
   | fail)
  all_goals try clear fx
  · refine e_ret [] .nil (by simp; rfl) ?_
    have : shapeOk p = false := by simpa using ht
    simp only [progOk, this]
    rfl
  have hsh : shapeOk p = true := by simpa using ht
  obtain ⟨hh, hl1, hl7, _, _⟩ := shapeOk_heads hsh
  have hpo : progOk p = (List.range p.length).all (fun b => b == 0 || declsOk p b) := by simp only [progOk, hsh, Bool.true_and]
  rw [hpo]
  clear hpo ht
  refine w_loop (fun n st => ∃ i : Nat, n = p.length - i ∧ i ≤ p.length ∧ 1 ≤ i ∧ st.tm 1 = .pt (.s 1) 0 ∧ st.hp (.s 1) = some (.row 1 [[ksl p]]) ∧ st.tm 3 = iv i ∧ (List.range i).all (fun b => b == 0 || declsOk p b) = true) (p.length - 1) ?_ ?_
  · exact ⟨1, rfl, hl1, by omega, by simp⟩
  rintro n st - - ⟨i, rfl, hi, hi1, h1, hp1, h3, hal⟩
  all_goals have fx := And.intro h1 <| And.intro hp1 <| h3
  repeat' (first
   | refine w_seq ?_ | refine w_reg fun K hK => ?_
   | ((with_reducible refine s_end hK ?_); clear hK K)
   | (with_reducible first | refine then_normal ?_)
   | (with_reducible refine s_none ?_)
   | (with_reducible refine x_q (h := ?_))
   | fail)
  all_goals try clear fx
  refine w_if (by simp []; first | done | rfl | exact (Bool.not_not _).symm) (fun ht => ?_) (fun hf => ?_)
  · have hlt : i < p.length := by simpa using ht
    obtain ⟨k, hk⟩ : ∃ k, p[i]? = some k := ⟨_, List.getElem?_eq_getElem hlt⟩
    have hpar := (hs.bsm hk).params
    have hdo : declsOk p i = (List.range 8).all (fun x => declOk p i k (x : Int)) := by simp only [declsOk, hk]
    all_goals have fx := And.intro h1 <| And.intro hp1 <| And.intro h3 <| hk
    repeat' (first
     | refine w_seq ?_ | refine w_block ?_ | refine w_skip ?_ | refine w_reg fun K hK => ?_
     | ((with_reducible refine s_end hK ?_); clear hK K)
     | (with_reducible refine s_none ?_)
     | (with_reducible first | refine x_assign (h := ?_))
     | ((with_reducible refine o_id 76 rfl ?_); refine x_callh (hF := declared_fn _ p i k _ hk (hs.bsm hk)) (h := ?_))
     | (with_reducible refine x_q (h := ?_))
     | fail)
    all_goals try clear fx
    refine w_loop (fun n st => ∃ x : Nat, n = 8 - x ∧ x ≤ 8 ∧ st.tm 1 = .pt (.s 1) 0 ∧ st.hp (.s 1) = some (.row 1 [[ksl p]]) ∧ st.tm 3 = iv i ∧ st.tm 4 = .hs (.s 4) 1 0 (k.dc 9).length ∧ st.hp (.s 4) = some (.row 1 (irows (k.dc 9))) ∧ st.tm 5 = .hs (.s 5) 1 0 (k.dc 10).length ∧ st.hp (.s 5) = some (.row 1 (irows (k.dc 10))) ∧ st.tm 6 = iv x ∧ (List.range x).all (fun x => declOk p i k (x : Int)) = true) 8 ?_ ?_
    · exact ⟨0, by simp [h1, hp1, h3]⟩
    clear h1 hp1 h3 ht
    rintro n st - - ⟨x, rfl, hx, h1, hp1, h3, h4, hp4, h5, hp5, h6, hax⟩
    all_goals have fx := And.intro h1 <| And.intro hp1 <| And.intro h3 <| And.intro h4 <| And.intro hp4 <| And.intro h5 <| And.intro hp5 <| h6
    repeat' (first
     | refine w_seq ?_ | refine w_reg fun K hK => ?_
     | ((with_reducible refine s_end hK ?_); clear hK K)
     | (with_reducible first | refine then_normal ?_)
     | (with_reducible refine s_none ?_)
     | (with_reducible refine x_q (h := ?_))
     | fail)
    all_goals try clear fx
    refine w_if (by simp []; first | done | rfl | exact (Bool.not_not _).symm) (fun ht => ?_) (fun hf => ?_)
    · have hx7 : (x : Int) ≤ 7 := by simpa using ht
      have hx8 : x < 8 := by omega
      all_goals have fx := And.intro h1 <| And.intro hp1 <| And.intro h3 <| And.intro h4 <| And.intro hp4 <| And.intro h5 <| And.intro hp5 <| And.intro h6 <| hk
      repeat' (first
       | refine w_seq ?_ | refine w_block ?_ | refine w_skip ?_ | refine w_reg fun K hK => ?_
       | ((with_reducible refine s_end hK ?_); clear hK K)
       | (with_reducible first | refine then_normal ?_ | refine then_ret ?_ | refine in_ret ?_)
       | refine w_ret ?_
       | (with_reducible refine s_none ?_)
       | ((with_reducible refine g_id ?_); refine x_guard (h := ?_))
       | (with_reducible first | refine gx_tt ?_ | refine gx_ff ?_ | refine x_tf (h := ?_) | refine x_ft (h := ?_) | refine x_u (h := ?_) | refine x_assign (h := ?_))
       | ((with_reducible refine o_id 77 rfl ?_); refine x_call (hF := has_fn _ _ _ (by first | exact Nat.le_trans (Blk.dc_len _ _) (by decide) | omega)) (h := ?_))
       | ((with_reducible refine o_id 78 rfl ?_); refine x_call (hF := outer_fn _ p i k _ hk hs hh) (h := ?_))
       | (with_reducible refine x_q (h := ?_))
       | (with_reducible refine gx_s (fun ht => ?_) (fun ht => ?_))
       | refine x_condt (h1 := ?_) | refine x_condf (h1 := ?_)
       | refine x_if (h1 := fun ht => ?_) (h2 := fun ht => ?_)
       | fail)
      all_goals try clear fx
      all_goals first
        | (have hd : declOk p i k x = false := by
             simp only [declOk]
             clear hal hax hpar hs hh h1 hp1 h3 h4 hp4 h5 hp5 h6 hdo hsh hk
             simp_all
           refine e_ret [] .nil (by simp; rfl) ?_
           rw [range_false hlt (show (i == 0 || declsOk p i) = false by rw [hdo, range_false hx8 hd]; simp; omega)]
           rfl)
        | (have hd : declOk p i k x = true := by
             simp only [declOk]
             clear hal hax hpar hs hh h1 hp1 h3 h4 hp4 h5 hp5 h6 hdo hsh hk
             simp_all
           refine ⟨8 - (x + 1), by omega, x + 1, rfl, by omega, by simp [h1], by simp [hp1], by simp [h3], by simp [h4], by simp [hp4], by simp [h5], by simp [hp5], by simp; exact wrp (by omega) (by omega), ?_⟩
           rw [all_range_succ, hax, hd]
           rfl)
    · have hge : x = 8 := by
        have : ¬ (x : Int) ≤ 7 := by simpa using hf
        omega
      subst hge
      all_goals have fx := And.intro h1 <| And.intro hp1 <| h3
      repeat' (first
       | refine w_reg fun K hK => ?_
       | ((with_reducible refine s_end hK ?_); clear hK K)
       | (with_reducible first | refine then_normal ?_)
       | refine w_exit ?_
       | (with_reducible refine s_none ?_)
       | (with_reducible first | refine x_assign (h := ?_))
       | (with_reducible refine x_q (h := ?_))
       | fail)
      all_goals try clear fx
      refine ⟨p.length - (i + 1), by omega, i + 1, rfl, by omega, by omega, by simp [h1], by simp [hp1], by simp; exact wrp (by omega) (by omega), ?_⟩
      rw [all_range_succ, hal, hdo, hax]
      simp
  · have hge : i = p.length := by
      have : ¬ i < p.length := by simpa using hf
      omega
    subst hge
    all_goals have fx := fx0
    repeat' (first
     | refine w_seq ?_ | refine w_reg fun K hK => ?_
     | ((with_reducible refine s_end hK ?_); clear hK K)
     | (with_reducible first | refine then_normal ?_)
     | refine w_exit ?_
     | refine w_ret ?_
     | (with_reducible refine s_none ?_)
     | (with_reducible first | refine x_assign (h := ?_))
     | fail)
    all_goals try clear fx
    refine e_ret [] .nil (by simp []; rfl) (by simp [hal])
end Go.Proofs.YtpckgioefpkmoaaGreat
end

section
set_option maxRecDepth 100000
set_option maxHeartbeats 4000000
set_option linter.unusedSimpArgs false
namespace Go.Proofs.YtpckgioefpkmoaaGreat
open Go Go.Hm Go.Proofs
theorem validFuel_fn (gl) (p : Prg) (f : Int) (hs : Sml p) : FnOk Tryz.prog gl 57 [pav p, iv f] (fun _ y _ => y = bv (fuelOk p f)) := by
  refine FnOk.of_sem Tryz.func57 rfl (by kernel_rfl) (rs := [.tmp 4]) rfl Tryz.ntmps57 (Nat.le_of_ble_eq_true rfl) fun C w g root => ?_
  cases hv : progOk p
  · skip
    have fx :=  hv
    have c1 := hv ▸ validProgram_fn gl p hs
    refine k_run ?_
    clear fx c1
    refine e_ret [] .nil (by simp; rfl) (by simp [fuelOk, hv])
  · skip
    have fx :=  hv
    have c1 := hv ▸ validProgram_fn gl p hs
    have c2 := inRange_fn gl f 0 150
    refine k_run ?_
    clear fx c1 c2
    refine e_ret [] .nil (by simp; rfl) (by simp [fuelOk, hv])
theorem meant_fn (gl) (H : Nm → Option AO) (p : Prg) (f : Nat) (hP : ValP p) (hf : f ≤ 150) (h1 : H (.u 1 0 0) = none) :
    FnE Tryz.prog gl 53 (Nm.under Wn) [pav p, iv f] H (fun _ y H' => y = .pt Wn 0 ∧ OwnW H' p (meantW p f)) noE := by
  have hw := startW_ok hP.sh hf
  refine FnE.of_sem Tryz.func53 rfl (by kernel_rfl) (rs := [.tmp 4]) rfl Tryz.ntmps53 (Nat.le_of_ble_eq_true rfl) (fun _ => under_usroot rfl) fun C w g root hroot => ?_
  have fx := fx0
  have d1 := emptySlots_fn gl
  refine k_run ?_
  repeat ((first | refine w_sch (id := 1) (.q 0 <| .q 2 <| .l 1 [2, 0] <| .q 3 <| .l 4 [2, 0] <| .l 5 [] <| .done) mixed (by kernel_rfl) (by kernel_rfl) ?_); refine k_rund ?_; refine k_run ?_)
  clear fx d1
  intro K hK
  refine o_mv (.s 5) (.u 1 0 0) (.inl rfl) (.inr (by simp [ctx0, h1])) ?_
  have fx := fx0
  refine x_mut Wn rfl (by simp) (hF := runBlock_fn gl p hP 151 _ (startW f) 0 ?_ hw (by simp only [startW]; omega) (by simp [startW]) rfl (by simp)) (h := ?_)
  · have e1 : irows (nints [0] ++ []) = [[iv 0]] := rfl
    have hsl : slrows noSlots = slrows (startW f).globals := rfl
    refine ⟨by simp [wRow, startW], by simp [startW, actRows, outI], fun i a ha => ?_, ⟨[], by simp [startW, nints, irows]⟩, by simp [startW], by simp [startW, funRows], by simp [startW, clsRows], fun i c hc => by simp [startW] at hc, by simp [startW], by simp [startW]⟩
    have hi : i = 0 := by
      have := (List.getElem?_eq_some_iff.1 ha).1
      simp [startW] at this
      omega
    subst hi
    have ha' : a = ⟨0, 0, noSlots⟩ := by simpa [startW] using ha.symm
    subst ha'
    simp
  rintro y H1 ⟨rfl, hO1⟩
  clear fx
  have hT1 := hO1.top
  simp only [wRow] at hT1
  have hme : (runW p 151 (startW f) 0).1 = meantW p f := rfl
  rw [hme] at hO1 hT1
  have fx :=  hT1
  refine k_run ?_
  repeat ((first | refine w_sch (id := 1) (.q 0 <| .q 2 <| .l 1 [2, 0] <| .q 3 <| .l 4 [2, 0] <| .l 5 [] <| .done) mixed (by kernel_rfl) (by kernel_rfl) ?_); refine k_rund ?_; refine k_run ?_)
  clear fx
  refine e_ret [] .nil (by simp; rfl) ⟨by simp, ⟨by simp [hO1.top, wRow], by simp [hO1.acts], fun i a ha => by simp [hO1.act i a ha], hO1.stk.imp fun l hl => by simp [hl], by simp [hO1.glob], by simp [hO1.funs], by simp [hO1.clss], fun i c hc => by simp [hO1.cls i c hc], by simp [hO1.out], by simp [hO1.trc]⟩⟩
end Go.Proofs.YtpckgioefpkmoaaGreat
end

section
set_option maxRecDepth 100000
set_option maxHeartbeats 1000000
set_option linter.unusedSimpArgs false
namespace Go.Proofs.YtpckgioefpkmoaaGreat
open Go Go.Hm Go.Proofs
end Go.Proofs.YtpckgioefpkmoaaGreat
end

section
set_option maxRecDepth 100000
set_option maxHeartbeats 1000000
set_option linter.unusedSimpArgs false
namespace Go.Proofs.YtpckgioefpkmoaaGreat
open Go Go.Hm Go.Proofs
def formAV (s : Stm) : AV :=
  if s.kind = 0 then .ifc 156 (.agg [iv s.a]) else if s.kind = 1 then .ifc 158 (.agg [iv s.a]) else if s.kind = 2 then .ifc 160 (.agg [iv s.a, iv s.b])
  else if s.kind = 3 then .ifc 132 (.agg [iv 1, iv s.a]) else if s.kind = 4 then .ifc 132 (.agg [iv 2, iv s.a]) else if s.kind = 5 then .ifc 162 (.agg [iv s.a, iv s.b])
  else if s.kind = 6 then .ifc 164 (.agg [iv s.a, iv s.b]) else if s.kind = 7 then .ifc 166 (.agg [iv s.a]) else if s.kind = 8 then .ifc 167 (.agg [iv s.a])
  else if s.kind = 9 ∨ s.kind = 10 then .ifc 169 (.agg []) else if s.kind = 11 then .ifc 170 (.agg []) else .sc .nilIface
@[simp] theorem formAV_cln (s : Stm) : (formAV s).cln = true := by
  unfold formAV
  repeat' split
  all_goals simp
section
variable {n : Int} {to a b : Int}
@[simp] theorem formAV_0 : formAV ⟨0, to, a, b⟩ = .ifc 156 (.agg [iv a]) := by simp [formAV]
@[simp] theorem formAV_1 : formAV ⟨1, to, a, b⟩ = .ifc 158 (.agg [iv a]) := by simp [formAV]
@[simp] theorem formAV_2 : formAV ⟨2, to, a, b⟩ = .ifc 160 (.agg [iv a, iv b]) := by simp [formAV]
@[simp] theorem formAV_3 : formAV ⟨3, to, a, b⟩ = .ifc 132 (.agg [iv 1, iv a]) := by simp [formAV]
@[simp] theorem formAV_4 : formAV ⟨4, to, a, b⟩ = .ifc 132 (.agg [iv 2, iv a]) := by simp [formAV]
@[simp] theorem formAV_5 : formAV ⟨5, to, a, b⟩ = .ifc 162 (.agg [iv a, iv b]) := by simp [formAV]
@[simp] theorem formAV_6 : formAV ⟨6, to, a, b⟩ = .ifc 164 (.agg [iv a, iv b]) := by simp [formAV]
@[simp] theorem formAV_7 : formAV ⟨7, to, a, b⟩ = .ifc 166 (.agg [iv a]) := by simp [formAV]
@[simp] theorem formAV_8 : formAV ⟨8, to, a, b⟩ = .ifc 167 (.agg [iv a]) := by simp [formAV]
@[simp] theorem formAV_9 : formAV ⟨9, to, a, b⟩ = .ifc 169 (.agg []) := by simp [formAV]
@[simp] theorem formAV_10 : formAV ⟨10, to, a, b⟩ = .ifc 169 (.agg []) := by simp [formAV]
@[simp] theorem formAV_11 : formAV ⟨11, to, a, b⟩ = .ifc 170 (.agg []) := by simp [formAV]
theorem formAV_no {s : Stm} (h : ¬ (0 ≤ s.kind ∧ s.kind ≤ 11)) : formAV s = .sc .nilIface := by
  unfold formAV
  repeat' split
  all_goals first | rfl | omega
theorem kind_cases (n : Int) : n = 0 ∨ n = 1 ∨ n = 2 ∨ n = 3 ∨ n = 4 ∨ n = 5 ∨ n = 6 ∨ n = 7 ∨ n = 8 ∨ n = 9 ∨ n = 10 ∨ n = 11 ∨ ¬ (0 ≤ n ∧ n ≤ 11) := by omega
end
theorem formOf_fn (gl) (s : Stm) : FnOk Tryz.prog gl 94 [s.av] (fun _ x _ => x = formAV s) := by
  refine FnOk.of_sem Tryz.func94 rfl (by kernel_rfl) (rs := [.tmp 2]) rfl Tryz.ntmps94 (Nat.le_of_ble_eq_true rfl) fun C w g root => ?_
  all_goals have fx := fx0
  repeat' (first
   | refine w_seq ?_ | refine w_block ?_ | refine w_skip ?_ | refine w_reg fun K hK => ?_
   | ((with_reducible refine s_end hK ?_); clear hK K)
   | (with_reducible first | refine then_normal ?_ | refine then_ret ?_ | refine in_ret ?_)
   | refine w_ret ?_
   | (with_reducible first | refine s_none ?_ | refine x_assign (h := ?_) | refine x_box (h := ?_))
   | (with_reducible refine x_q (h := ?_))
   | refine x_condt (h1 := ?_)
   | refine x_if (h1 := fun ht => ?_) (h2 := fun ht => ?_)
   | fail)
  all_goals try clear fx
  all_goals refine e_ret [] .nil (by simp; rfl) ?_
  all_goals simp_all [formAV]
theorem binds_fn (gl) (s : Stm) : FnOk Tryz.prog gl 99 [s.av] (fun _ x _ => x = bv (decide (s.sets ∨ s.kind = 11))) := by
  obtain ⟨n, to, a, b⟩ := s
  refine FnOk.of_sem Tryz.func99 rfl (by kernel_rfl) (rs := [.tmp 2]) rfl Tryz.ntmps99 (Nat.le_of_ble_eq_true rfl) fun C w g root => ?_
  rcases kind_cases n with rfl | rfl | rfl | rfl | rfl | rfl | rfl | rfl | rfl | rfl | rfl | rfl | hn
  case inr.inr.inr.inr.inr.inr.inr.inr.inr.inr.inr.inr =>
    have hf : formAV ⟨n, to, a, b⟩ = .sc .nilIface := formAV_no hn
    all_goals have fx :=  hf
    repeat' (first
     | refine w_seq ?_ | refine w_block ?_ | refine w_skip ?_ | refine w_reg fun K hK => ?_
     | ((with_reducible refine s_end hK ?_); clear hK K)
     | (with_reducible first | refine then_normal ?_)
     | refine w_ret ?_
     | (with_reducible first | refine s_none ?_ | refine x_assign (h := ?_) | refine x_box (h := ?_))
     | ((with_reducible refine o_id 94 rfl ?_); refine x_call (hF := formOf_fn _ ⟨n, to, a, b⟩) (h := ?_))
     | (with_reducible refine x_q (h := ?_))
     | refine x_condf (h1 := ?_)
     | fail)
    all_goals try clear fx
    refine e_ret [] .nil (by simp; rfl) ?_
    have h1 : ¬ (0 ≤ n ∧ n ≤ 6 ∨ n = 11) := by omega
    simp [h1]
  all_goals
    all_goals have fx := fx0
    repeat' (first
     | refine w_seq ?_ | refine w_block ?_ | refine w_skip ?_ | refine w_reg fun K hK => ?_
     | ((with_reducible refine s_end hK ?_); clear hK K)
     | (with_reducible first | refine then_normal ?_ | refine then_ret ?_ | refine in_ret ?_)
     | refine w_ret ?_
     | (with_reducible first | refine s_none ?_ | refine x_assign (h := ?_) | refine x_box (h := ?_))
     | ((with_reducible refine o_id 94 rfl ?_); refine x_call (hF := formOf_fn _ ⟨_, to, a, b⟩) (h := ?_))
     | (with_reducible refine x_q (h := ?_))
     | refine x_condt (h1 := ?_) | refine x_condf (h1 := ?_)
     | fail)
    all_goals try clear fx
  all_goals refine e_ret [] .nil (by simp; rfl) ?_
  all_goals simp
theorem impl_isBlock_fn (gl) (p : Prg) (b : Int) : FnOk Tryz.prog gl 69 [pav p, iv b] (fun _ x _ => x = bv (decide (0 ≤ b ∧ b < p.length))) := by
  refine FnOk.of_sem Tryz.func69 rfl (by kernel_rfl) (rs := [.tmp 4]) rfl Tryz.ntmps69 (Nat.le_of_ble_eq_true rfl) fun C w g root => ?_
  all_goals have fx := fx0
  repeat' (first
   | refine w_seq ?_ | refine w_reg fun K hK => ?_
   | ((with_reducible refine s_end hK ?_); clear hK K)
   | (with_reducible first | refine then_normal ?_)
   | refine w_ret ?_
   | (with_reducible refine s_none ?_)
   | ((with_reducible refine g_id ?_); refine x_guard (h := ?_))
   | (with_reducible first | refine gx_tt ?_ | refine x_tf (h := ?_) | refine x_assign (h := ?_) | refine x_box (h := ?_))
   | (with_reducible refine x_q (h := ?_))
   | (with_reducible refine gx_s (fun ht => ?_) (fun ht => ?_))
   | fail)
  all_goals try clear fx
  all_goals refine e_ret [] .nil (by simp; rfl) ?_
  all_goals simp_all
  all_goals omega
end Go.Proofs.YtpckgioefpkmoaaGreat
end

section
set_option maxRecDepth 100000
set_option maxHeartbeats 1000000
set_option linter.unusedSimpArgs false
namespace Go.Proofs.YtpckgioefpkmoaaGreat
open Go Go.Hm Go.Proofs
theorem fitsHead_fn (gl) (i : Nat) (k : Blk) : FnOk Tryz.prog gl 92 [iv i, k.av] (fun _ x _ => x = bv (headOk i k)) := by
  obtain ⟨kind, parent, params, body⟩ := k
  refine FnOk.of_sem Tryz.func92 rfl (by kernel_rfl) (rs := [.tmp 4]) rfl Tryz.ntmps92 (Nat.le_of_ble_eq_true rfl) fun C w g root => ?_
  rcases params with _ | ⟨x, _ | ⟨y, l⟩⟩
  · skip
    all_goals have fx := fx0
    repeat' (first
     | refine w_seq ?_ | refine w_block ?_ | refine w_skip ?_ | refine w_reg fun K hK => ?_
     | ((with_reducible refine s_end hK ?_); clear hK K)
     | (with_reducible first | refine then_normal ?_ | refine then_ret ?_ | refine in_ret ?_)
     | refine w_ret ?_
     | (with_reducible refine s_none ?_)
     | ((with_reducible refine g_id ?_); refine x_guard (h := ?_))
     | (with_reducible first | refine gx_tt ?_ | refine gx_ff ?_ | refine x_tf (h := ?_) | refine x_ft (h := ?_) | refine x_u (h := ?_) | refine x_assign (h := ?_) | refine x_box (h := ?_))
     | (with_reducible refine x_q (h := ?_))
     | (with_reducible refine gx_s (fun ht => ?_) (fun ht => ?_))
     | refine x_condt (h1 := ?_)
     | refine x_if (h1 := fun ht => ?_) (h2 := fun ht => ?_)
     | fail)
    all_goals try clear fx
    all_goals refine e_ret [] .nil (by simp; rfl) ?_
    all_goals simp_all [headOk, HeadOk]
    all_goals grind
  · skip
    all_goals have fx := fx0
    repeat' (first
     | refine w_seq ?_ | refine w_block ?_ | refine w_skip ?_ | refine w_reg fun K hK => ?_
     | ((with_reducible refine s_end hK ?_); clear hK K)
     | (with_reducible first | refine then_normal ?_ | refine then_ret ?_ | refine in_ret ?_)
     | refine w_ret ?_
     | (with_reducible refine s_none ?_)
     | ((with_reducible refine g_id ?_); refine x_guard (h := ?_))
     | (with_reducible first | refine gx_tt ?_ | refine gx_ff ?_ | refine x_tf (h := ?_) | refine x_ft (h := ?_) | refine x_assign (h := ?_) | refine x_box (h := ?_))
     | ((with_reducible refine o_id 72 rfl ?_); refine x_call (hF := impl_isName_fn _ x) (h := ?_))
     | (with_reducible refine x_q (h := ?_))
     | (with_reducible refine gx_s (fun ht => ?_) (fun ht => ?_))
     | refine x_condt (h1 := ?_)
     | refine x_if (h1 := fun ht => ?_) (h2 := fun ht => ?_)
     | fail)
    all_goals try clear fx
    all_goals refine e_ret [] .nil (by simp; rfl) ?_
    all_goals simp_all [headOk, HeadOk]
    all_goals grind
  · have h1 : ((l.length : Int) + 1 + 1 == 1) = false := by simp; omega
    have h0 : ((l.length : Int) + 1 + 1 == 0) = false := by simp; omega
    all_goals have fx := And.intro h0 <| h1
    repeat' (first
     | refine w_seq ?_ | refine w_block ?_ | refine w_skip ?_ | refine w_reg fun K hK => ?_
     | ((with_reducible refine s_end hK ?_); clear hK K)
     | (with_reducible first | refine then_normal ?_ | refine then_ret ?_ | refine in_ret ?_)
     | refine w_ret ?_
     | (with_reducible refine s_none ?_)
     | ((with_reducible refine g_id ?_); refine x_guard (h := ?_))
     | (with_reducible first | refine gx_tt ?_ | refine gx_ff ?_ | refine x_tf (h := ?_) | refine x_ft (h := ?_) | refine x_assign (h := ?_) | refine x_box (h := ?_))
     | (with_reducible refine x_q (h := ?_))
     | (with_reducible refine gx_s (fun ht => ?_) (fun ht => ?_))
     | refine x_condt (h1 := ?_)
     | refine x_if (h1 := fun ht => ?_) (h2 := fun ht => ?_)
     | fail)
    all_goals try clear fx
    all_goals refine e_ret [] .nil (by simp; rfl) ?_
    all_goals simp_all [headOk, HeadOk]
    all_goals grind
end Go.Proofs.YtpckgioefpkmoaaGreat
end

section
set_option maxRecDepth 100000
set_option maxHeartbeats 1000000
set_option linter.unusedSimpArgs false
namespace Go.Proofs.YtpckgioefpkmoaaGreat
open Go Go.Hm Go.Proofs
theorem madeAs_at {p : Prg} {b j : Nat} {q : Blk} {d : Int} (hh : Heads p) (hq : p[j]? = some q) : madeAs p b j d = ((q.kind == d) && (q.parent == b)) := by
  have hj : j < p.length := (List.getElem?_eq_some_iff.1 hq).1
  obtain ⟨_, h2, _⟩ := hh j q hq
  simp only [madeAs, Int.toNat_natCast, hq]
  by_cases h : q.parent = b
  · have : (b : Int) + 1 ≤ j ∧ (j : Int) ≤ p.length - 1 := by omega
    simp [this]
  · simp [h]
theorem madeAs_no {p : Prg} {b : Nat} {j d : Int} (h : ¬ (0 ≤ j ∧ j < p.length)) : madeAs p b j d = false := by
  have : ¬ ((b : Int) + 1 ≤ j ∧ j ≤ (p.length : Int) - 1) := by omega
  simp [madeAs, this]
theorem fitsStmt_fn (gl) (p : Prg) (b : Nat) (k : Blk) (s : Stm) (hk : p[b]? = some k) (hh : Heads p) (hd : HeadOk b k) : FnOk Tryz.prog gl 93 [pav p, iv b, s.av] (fun _ x _ => x = bv (StmOk p b k s)) := by
  obtain ⟨n, to, a, c⟩ := s
  have hb0 : (k.kind = 0) ↔ b = 0 := by
    unfold HeadOk at hd
    split at hd <;> omega
  refine FnOk.of_sem Tryz.func93 rfl (by kernel_rfl) (rs := [.tmp 6]) rfl Tryz.ntmps93 (Nat.le_of_ble_eq_true rfl) fun C w g root => ?_
  by_cases hto : 0 ≤ to ∧ to ≤ 7
  case neg =>
    have h1 : (decide (0 ≤ to) && decide (to ≤ 7)) = false := by simp; omega
    all_goals have fx :=  h1
    repeat' (first
     | refine w_seq ?_ | refine w_reg fun K hK => ?_
     | ((with_reducible refine s_end hK ?_); clear hK K)
     | (with_reducible first | refine then_normal ?_ | refine then_ret ?_)
     | refine w_ret ?_
     | (with_reducible refine s_none ?_)
     | (with_reducible first | refine x_assign (h := ?_) | refine x_box (h := ?_))
     | ((with_reducible refine o_id 72 rfl ?_); refine x_call (hF := impl_isName_fn _ to) (h := ?_))
     | (with_reducible refine x_q (h := ?_))
     | refine x_condt (h1 := ?_)
     | fail)
    all_goals try clear fx
    refine e_ret [] .nil (by simp; rfl) ?_
    simp [StmOk, h1]
  have h1 : (decide (0 ≤ to) && decide (to ≤ 7)) = true := by simp; omega
  rcases kind_cases n with rfl | rfl | rfl | rfl | rfl | rfl | rfl | rfl | rfl | rfl | rfl | rfl | hn
  case inr.inr.inr.inr.inr.inr.inr.inr.inr.inr.inr.inr =>
    have hf : formAV ⟨n, to, a, c⟩ = .sc .nilIface := formAV_no hn
    all_goals have fx := And.intro h1 <| hf
    repeat' (first
     | refine w_seq ?_ | refine w_block ?_ | refine w_skip ?_ | refine w_reg fun K hK => ?_
     | ((with_reducible refine s_end hK ?_); clear hK K)
     | (with_reducible first | refine then_normal ?_)
     | refine w_ret ?_
     | (with_reducible refine s_none ?_)
     | (with_reducible first | refine x_assign (h := ?_) | refine x_box (h := ?_))
     | ((with_reducible refine o_id 72 rfl ?_); refine x_call (hF := impl_isName_fn _ to) (h := ?_))
     | ((with_reducible refine o_id 94 rfl ?_); refine x_call (hF := formOf_fn _ ⟨n, to, a, c⟩) (h := ?_))
     | (with_reducible refine x_q (h := ?_))
     | refine x_condf (h1 := ?_)
     | fail)
    all_goals try clear fx
    refine e_ret [] .nil (by simp; rfl) ?_
    have h2 : ¬ (n = 0 ∨ n = 1 ∨ n = 2 ∨ n = 3 ∨ n = 4 ∨ n = 5 ∨ n = 6 ∨ n = 7 ∨ n = 8 ∨ n = 9 ∨ n = 10 ∨ n = 11) := by omega
    simp only [not_or] at h2
    simp [StmOk, h2]
  case inr.inr.inr.inl =>
    by_cases ha : 0 ≤ a ∧ a < p.length
    · obtain ⟨j, rfl⟩ : ∃ j : Nat, a = j := ⟨a.toNat, by omega⟩
      obtain ⟨q, hq⟩ : ∃ q, p[j]? = some q := ⟨_, List.getElem?_eq_getElem (by omega)⟩
      obtain ⟨h2, h3⟩ := List.getElem?_eq_some_iff.1 hq
      all_goals have fx := And.intro h1 <| And.intro hq <| And.intro h2 <| h3
      repeat' (first
       | refine w_seq ?_ | refine w_block ?_ | refine w_skip ?_ | refine w_reg fun K hK => ?_
       | ((with_reducible refine s_end hK ?_); clear hK K)
       | (with_reducible first | refine then_normal ?_ | refine then_ret ?_ | refine in_ret ?_)
       | refine w_ret ?_
       | (with_reducible refine s_none ?_)
       | ((with_reducible refine g_id ?_); refine x_guard (h := ?_))
       | (with_reducible first | refine gx_tt ?_ | refine gx_ff ?_ | refine x_tf (h := ?_) | refine x_assign (h := ?_) | refine x_box (h := ?_) | refine x_alloc (h := ?_) | refine x_store0 (h := ?_))
       | ((with_reducible refine o_id 72 rfl ?_); refine x_call (hF := impl_isName_fn _ to) (h := ?_))
       | ((with_reducible refine o_id 94 rfl ?_); refine x_call (hF := formOf_fn _ ⟨_, to, _, c⟩) (h := ?_))
       | ((with_reducible refine o_id 69 rfl ?_); refine x_call (hF := impl_isBlock_fn _ p _) (h := ?_))
       | (with_reducible refine x_q (h := ?_))
       | (with_reducible refine gx_s (fun ht => ?_) (fun ht => ?_))
       | refine x_condt (h1 := ?_) | refine x_condf (h1 := ?_)
       | refine x_if (h1 := fun ht => ?_) (h2 := fun ht => ?_)
       | fail)
      all_goals try clear fx
      all_goals refine e_ret [] .nil (by simp; rfl) ?_
      all_goals simp_all [StmOk, madeAs_at, Stm.reads]
    · have h2 : ¬ (0 ≤ a ∧ a < p.length) := ha
      all_goals have fx := And.intro h1 <| h2
      repeat' (first
       | refine w_seq ?_ | refine w_block ?_ | refine w_skip ?_ | refine w_reg fun K hK => ?_
       | ((with_reducible refine s_end hK ?_); clear hK K)
       | (with_reducible first | refine then_normal ?_ | refine then_ret ?_ | refine in_ret ?_)
       | refine w_ret ?_
       | (with_reducible refine s_none ?_)
       | ((with_reducible refine g_id ?_); refine x_guard (h := ?_))
       | (with_reducible first | refine x_ft (h := ?_) | refine x_assign (h := ?_) | refine x_box (h := ?_) | refine x_alloc (h := ?_) | refine x_store0 (h := ?_))
       | ((with_reducible refine o_id 72 rfl ?_); refine x_call (hF := impl_isName_fn _ to) (h := ?_))
       | ((with_reducible refine o_id 94 rfl ?_); refine x_call (hF := formOf_fn _ ⟨_, to, _, c⟩) (h := ?_))
       | ((with_reducible refine o_id 69 rfl ?_); refine x_call (hF := impl_isBlock_fn _ p _) (h := ?_))
       | (with_reducible refine x_q (h := ?_))
       | refine x_condt (h1 := ?_) | refine x_condf (h1 := ?_)
       | fail)
      all_goals try clear fx
      all_goals refine e_ret [] .nil (by simp; rfl) ?_
      all_goals simp [StmOk, madeAs_no h2]
  case inr.inr.inr.inr.inl =>
    by_cases ha : 0 ≤ a ∧ a < p.length
    · obtain ⟨j, rfl⟩ : ∃ j : Nat, a = j := ⟨a.toNat, by omega⟩
      obtain ⟨q, hq⟩ : ∃ q, p[j]? = some q := ⟨_, List.getElem?_eq_getElem (by omega)⟩
      obtain ⟨h2, h3⟩ := List.getElem?_eq_some_iff.1 hq
      all_goals have fx := And.intro h1 <| And.intro hq <| And.intro h2 <| h3
      repeat' (first
       | refine w_seq ?_ | refine w_block ?_ | refine w_skip ?_ | refine w_reg fun K hK => ?_
       | ((with_reducible refine s_end hK ?_); clear hK K)
       | (with_reducible first | refine then_normal ?_ | refine then_ret ?_ | refine in_ret ?_)
       | refine w_ret ?_
       | (with_reducible refine s_none ?_)
       | ((with_reducible refine g_id ?_); refine x_guard (h := ?_))
       | (with_reducible first | refine gx_tt ?_ | refine gx_ff ?_ | refine x_tf (h := ?_) | refine x_assign (h := ?_) | refine x_box (h := ?_) | refine x_alloc (h := ?_) | refine x_store0 (h := ?_))
       | ((with_reducible refine o_id 72 rfl ?_); refine x_call (hF := impl_isName_fn _ to) (h := ?_))
       | ((with_reducible refine o_id 94 rfl ?_); refine x_call (hF := formOf_fn _ ⟨_, to, _, c⟩) (h := ?_))
       | ((with_reducible refine o_id 69 rfl ?_); refine x_call (hF := impl_isBlock_fn _ p _) (h := ?_))
       | (with_reducible refine x_q (h := ?_))
       | (with_reducible refine gx_s (fun ht => ?_) (fun ht => ?_))
       | refine x_condt (h1 := ?_) | refine x_condf (h1 := ?_)
       | refine x_if (h1 := fun ht => ?_) (h2 := fun ht => ?_)
       | fail)
      all_goals try clear fx
      all_goals refine e_ret [] .nil (by simp; rfl) ?_
      all_goals simp_all [StmOk, madeAs_at, Stm.reads]
    · have h2 : ¬ (0 ≤ a ∧ a < p.length) := ha
      all_goals have fx := And.intro h1 <| h2
      repeat' (first
       | refine w_seq ?_ | refine w_block ?_ | refine w_skip ?_ | refine w_reg fun K hK => ?_
       | ((with_reducible refine s_end hK ?_); clear hK K)
       | (with_reducible first | refine then_normal ?_ | refine then_ret ?_ | refine in_ret ?_)
       | refine w_ret ?_
       | (with_reducible refine s_none ?_)
       | ((with_reducible refine g_id ?_); refine x_guard (h := ?_))
       | (with_reducible first | refine x_ft (h := ?_) | refine x_assign (h := ?_) | refine x_box (h := ?_) | refine x_alloc (h := ?_) | refine x_store0 (h := ?_))
       | ((with_reducible refine o_id 72 rfl ?_); refine x_call (hF := impl_isName_fn _ to) (h := ?_))
       | ((with_reducible refine o_id 94 rfl ?_); refine x_call (hF := formOf_fn _ ⟨_, to, _, c⟩) (h := ?_))
       | ((with_reducible refine o_id 69 rfl ?_); refine x_call (hF := impl_isBlock_fn _ p _) (h := ?_))
       | (with_reducible refine x_q (h := ?_))
       | refine x_condt (h1 := ?_) | refine x_condf (h1 := ?_)
       | fail)
      all_goals try clear fx
      all_goals refine e_ret [] .nil (by simp; rfl) ?_
      all_goals simp [StmOk, madeAs_no h2]
  all_goals
    all_goals have fx := And.intro h1 <| hk
    repeat' (first
     | refine w_seq ?_ | refine w_block ?_ | refine w_skip ?_ | refine w_reg fun K hK => ?_
     | ((with_reducible refine s_end hK ?_); clear hK K)
     | (with_reducible first | refine then_normal ?_ | refine then_ret ?_ | refine in_ret ?_)
     | refine w_ret ?_
     | (with_reducible refine s_none ?_)
     | ((with_reducible refine g_id ?_); refine x_guard (h := ?_))
     | (with_reducible first | refine gx_tt ?_ | refine gx_ff ?_ | refine x_tf (h := ?_) | refine x_ft (h := ?_) | refine x_u (h := ?_) | refine x_assign (h := ?_) | refine x_box (h := ?_) | refine x_alloc (h := ?_) | refine x_store0 (h := ?_))
     | ((with_reducible refine o_id 72 rfl ?_); refine x_call (hF := impl_isName_fn _ _) (h := ?_))
     | ((with_reducible refine o_id 94 rfl ?_); refine x_call (hF := formOf_fn _ ⟨_, to, a, c⟩) (h := ?_))
     | (with_reducible refine x_q (h := ?_))
     | (with_reducible refine gx_s (fun ht => ?_) (fun ht => ?_))
     | refine x_condt (h1 := ?_) | refine x_condf (h1 := ?_)
     | fail)
    all_goals try clear fx
  all_goals refine e_ret [] .nil (by simp [hk]; rfl) ?_
  all_goals simp_all [StmOk, Stm.reads]
  all_goals first | omega | grind
end Go.Proofs.YtpckgioefpkmoaaGreat
end
