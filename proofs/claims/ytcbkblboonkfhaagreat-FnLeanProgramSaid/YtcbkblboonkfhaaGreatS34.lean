/-
  Own texts, joined by mkclaim.py: Gs.
-/
import Derived.Test.YtcbkblboonkfhaaGreatS32
import Derived.Test.YtcbkblboonkfhaaGreatS13
set_option linter.unusedSimpArgs false
set_option linter.unusedVariables false
set_option maxRecDepth 100000
set_option maxHeartbeats 4000000

section
namespace Go.Proofs.YtcbkblboonkfhaaGreat
open Go Go.Hm Go.Proofs
theorem spec_LeanProgram_fn (gl) (p : Prg) (hs : Sml p) : FnOk Tryz.prog gl 26 [pav p] (fun r z H' => z = .agg [.hs r 4 0 (leanG p).length] ∧ OwnP H' r (leanG p)) := by
  have hpl := hs.len
  refine FnOk.of_sem Tryz.func26 rfl (by kernel_rfl) (rs := [.cell 2 29]) rfl Tryz.ntmps26 (Nat.le_of_ble_eq_true rfl) fun C w g root => ?_
  cases hv : progOk p
  · have hg : leanG p = [] := by simp [leanG, hv]
    have fx :=  hv
    have c1 := validProgram_fn gl p hs
    refine k_run ?_
    clear fx c1
    rw [hg]
    refine e_ret [(.c (.s 2) 0 0, root)] (.one rfl) (by simp; rfl) ?_
    refine ⟨by simp, ⟨by simp, fun j k hk => by simp at hk, fun j k hk => by simp at hk⟩⟩
  have hg : leanG p = leanP p := by simp [leanG, hv]
  rw [hg]
  have fx :=  hv
  have c1 := validProgram_fn gl p hs
  have e1 := copyProgram_fn gl p hs
  refine k_run ?_
  clear fx c1 e1
  first | rintro K hK z H' ⟨rfl, hO⟩ | rintro z H' ⟨rfl, hO⟩
  obtain ⟨ho1, ho2, ho3⟩ := hO.hcln
  refine ⟨by simp, ?_⟩
  have fx :=  ho1
  refine k_run ?_
  clear fx
  refine w_loop (fun n st => ∃ (q : Prg) (b : Nat), n = stmts q * (p.length + 1) + (p.length - b) ∧ b ≤ p.length ∧ q.length = p.length ∧ progOk q = true ∧ Sml q ∧ leanP q = leanP p ∧ (∀ b' i', b' < b → idleAt q b' i' = false) ∧
    st.tm 2 = .pt (.s 2) 0 ∧ st.hp (.s 2) = some (.row 1 [[.hs (.c (.s 2) 0 0) 4 0 0]]) ∧ st.hp (.c (.s 2) 0 0) = some (.row 4 []) ∧ st.tm 3 = .pt (.s 3) 0 ∧ st.hp (.s 3) = some (.row 1 [[.hs (.c (.s 3) 0 0) 4 0 p.length]]) ∧ st.tm 4 = iv b ∧ OwnP st.hp (.c (.s 3) 0 0) q) (stmts p * (p.length + 1) + p.length) ?_ ?_
  · exact ⟨p, 0, by simp, by omega, rfl, hv, hs, rfl, fun b' i' h => by omega, by simp, by simp, by simp, by simp, by simp, by simp, ⟨by simp [ho1], fun j r hj => by simp [ho2 j r hj], fun j r hj => by simp [ho3 j r hj]⟩⟩
  clear ho1 ho2 ho3 hO
  rintro n st - - ⟨q, b, rfl, hb, hql, hqv, hqs, hqp, hno, h2, hp2, hp2', h3, hp3, h4, ⟨ho1, ho2, ho3⟩⟩
  have fx := And.intro h3 <| And.intro hp3 <| h4
  refine k_run ?_
  clear fx
  refine w_if (by simp []; first | done | rfl | exact (Bool.not_not _).symm) (fun ht => ?_) (fun hf => ?_)
  · have hlt : b < p.length := by simpa using ht
    clear ht
    have fx := fx0
    refine k_run ?_
    clear fx
    refine w_loop (fun m st => ∃ (q' : Prg) (b' i : Nat) (k : Blk), m = stmts q' * 13 + (k.body.length - i) ∧ q'[b']? = some k ∧ i ≤ k.body.length ∧ (q' = q ∧ b' = b ∨ stmts q' < stmts q ∧ b' = 0) ∧ q'.length = p.length ∧ progOk q' = true ∧ Sml q' ∧ leanP q' = leanP p ∧ (∀ c j, c < b' → idleAt q' c j = false) ∧ (∀ j, j < i → idleAt q' b' j = false) ∧
      st.tm 2 = .pt (.s 2) 0 ∧ st.hp (.s 2) = some (.row 1 [[.hs (.c (.s 2) 0 0) 4 0 0]]) ∧ st.hp (.c (.s 2) 0 0) = some (.row 4 []) ∧ st.tm 3 = .pt (.s 3) 0 ∧ st.hp (.s 3) = some (.row 1 [[.hs (.c (.s 3) 0 0) 4 0 p.length]]) ∧ st.tm 4 = iv b' ∧ st.tm 5 = iv i ∧ OwnP st.hp (.c (.s 3) 0 0) q') (stmts q * 13 + ((q[b]?).map (fun k => k.body.length)).getD 0) ?_ ?_
    · obtain ⟨k, hk⟩ : ∃ k, q[b]? = some k := ⟨_, gE (by omega)⟩
      exact ⟨q, b, 0, k, by simp [hk], hk, by omega, .inl ⟨rfl, rfl⟩, hql, hqv, hqs, hqp, hno, fun j h => by omega, by simp [h2], by simp [hp2], by simp [hp2'], by simp [h3], by simp [hp3], by simp [h4], by simp, ⟨by simp [ho1], fun j r hj => by simp [ho2 j r hj], fun j r hj => by simp [ho3 j r hj]⟩⟩
    clear h2 hp2 hp2' h3 hp3 h4 ho1 ho2 ho3
    rintro m st - - ⟨q', b', i, k, rfl, hk, hi, hor, hql', hqv', hqs', hqp', hno', hno2, h2, hp2, hp2', h3, hp3, h4, h5, ⟨ho1, ho2, ho3⟩⟩
    obtain ⟨hbl, hkE⟩ := gS hk
    have hbl' : b' < p.length := by omega
    have hqsh : shapeOk q' = true := by
      simp only [progOk, Bool.and_eq_true] at hqv'
      exact hqv'.1
    have hqP := ShapeP.of hqs' hqsh
    have hb12 := hqP.body k (List.mem_of_getElem? hk)
    have fx := And.intro h3 <| And.intro hp3 <| And.intro h4 <| And.intro h5 <| And.intro ho1 <| And.intro hk <| And.intro hkE <| And.intro hbl <| hbl'
    refine k_run ?_
    clear fx
    refine w_if (by simp []; first | done | rfl | exact (Bool.not_not _).symm) (fun ht => ?_) (fun hf => ?_)
    · have hil : i < k.body.length := by simpa using ht
      obtain ⟨s, hsi⟩ : ∃ s, k.body[i]? = some s := ⟨_, gE hil⟩
      clear ht
      cases hid : idleAt q' b' i
      · skip
        all_goals have fx := And.intro h3 <| And.intro hp3 <| And.intro h4 <| And.intro h5 <| hid
        repeat' (first
         | refine w_seq ?_ | refine w_block ?_ | refine w_skip ?_ | refine w_reg fun K hK => ?_
         | ((with_reducible refine s_end hK ?_); clear hK K)
         | (with_reducible first | refine then_normal ?_ | refine in_normal ?_ | refine then_exit ?_ | refine in_exit ?_ | refine then_ret ?_ | refine in_ret ?_ | refine in_other (by decide) ?_)
         | refine w_exit ?_
         | refine w_ret ?_
         | (with_reducible first | refine s_none ?_ | refine x_assign (h := ?_) | refine x_box (h := ?_) | refine x_alloc (h := ?_) | refine x_store0 (h := ?_) | refine x_store (h := ?_))
         | ((with_reducible refine o_id 71 rfl ?_); refine x_call (hB := (by first | ((repeat' (first | exact .nil | refine .cons ?_ ?_ | exact .refl _ | exact bw_ints (by simp [fx]; first | done | rfl) (by first | (simp [fx]; done) | (simp [fx]; omega) | omega) | exact bw_list (by simp [fx]; first | done | rfl) (by first | (simp [fx]; done) | (simp [fx]; omega) | omega) (by first | (simp; done) | fail) | exact bw_agg1 (bw_prog (p := q') (n := .c (.s 3) 0 0) ⟨by simp [ho1], fun j r hj => by simp [ho2 j r hj], fun j r hj => by simp [ho3 j r hj]⟩ (by simp [hql'])))); done) | fail)) (hF := idle_fn _ q' b' i k s hk hsi hqs' hqP) (h := ?_))
         | (with_reducible refine x_q (h := ?_))
         | refine x_condt (h1 := ?_) | refine x_condf (h1 := ?_)
         | fail)
        all_goals try clear fx
        refine ⟨stmts q' * 13 + (k.body.length - (i + 1)), by omega, q', b', i + 1, k, rfl, hk, by omega, hor, hql', hqv', hqs', hqp', hno', fun j hj => ?_, by simp [h2], by simp [hp2], by simp [hp2'], by simp [h3], by simp [hp3], by simp [h4], by simp; exact wrp (by omega) (by omega), ⟨by simp [ho1], fun j r hj => by simp [ho2 j r hj], fun j r hj => by simp [ho3 j r hj]⟩⟩
        rcases Nat.lt_succ_iff_lt_or_eq.1 hj with h | rfl
        · exact hno2 j h
        · exact hid
      · have hfst : IsFirst q' b' i := ⟨hid, fun c j h => hno' c j h, fun j h => hno2 j h⟩
        have hsc := stmts_cut hk hil
        have hcv : progOk (cutP q' b' i) = true := by
          obtain ⟨_, _, _, _, h⟩ := idleAt_in hid
          exact h
        have hcl := leanP_step hfst
        all_goals have fx := And.intro h3 <| And.intro hp3 <| And.intro h4 <| And.intro h5 <| hid
        repeat' (first
         | refine w_seq ?_ | refine w_block ?_ | refine w_skip ?_ | refine w_reg fun K hK => ?_
         | ((with_reducible refine s_end hK ?_); clear hK K)
         | (with_reducible first | refine then_normal ?_ | refine in_normal ?_ | refine then_exit ?_ | refine in_exit ?_ | refine then_ret ?_ | refine in_ret ?_ | refine in_other (by decide) ?_)
         | refine w_exit ?_
         | refine w_ret ?_
         | (with_reducible first | refine s_none ?_ | refine x_assign (h := ?_) | refine x_box (h := ?_) | refine x_alloc (h := ?_) | refine x_store0 (h := ?_) | refine x_store (h := ?_))
         | ((with_reducible refine o_id 71 rfl ?_); refine x_call (hB := (by first | ((repeat' (first | exact .nil | refine .cons ?_ ?_ | exact .refl _ | exact bw_ints (by simp [fx]; first | done | rfl) (by first | (simp [fx]; done) | (simp [fx]; omega) | omega) | exact bw_list (by simp [fx]; first | done | rfl) (by first | (simp [fx]; done) | (simp [fx]; omega) | omega) (by first | (simp; done) | fail) | exact bw_agg1 (bw_prog (p := q') (n := .c (.s 3) 0 0) ⟨by simp [ho1], fun j r hj => by simp [ho2 j r hj], fun j r hj => by simp [ho3 j r hj]⟩ (by simp [hql'])))); done) | fail)) (hF := idle_fn _ q' b' i k s hk hsi hqs' hqP) (h := ?_))
         | ((with_reducible refine o_id 77 rfl ?_); refine x_callg (hB := (by first | ((repeat' (first | exact .nil | refine .cons ?_ ?_ | exact .refl _ | exact bw_ints (by simp [fx]; first | done | rfl) (by first | (simp [fx]; done) | (simp [fx]; omega) | omega) | exact bw_list (by simp [fx]; first | done | rfl) (by first | (simp [fx]; done) | (simp [fx]; omega) | omega) (by first | (simp; done) | fail) | exact bw_agg1 (bw_prog (p := q') (n := .c (.s 3) 0 0) ⟨by simp [ho1], fun j r hj => by simp [ho2 j r hj], fun j r hj => by simp [ho3 j r hj]⟩ (by simp [hql'])))); done) | fail)) (hF := cut_fn _ q' b' i k hk hil hqs') (h := ?_))
         | (with_reducible refine x_q (h := ?_))
         | refine x_condt (h1 := ?_) | refine x_condf (h1 := ?_)
         | fail)
        all_goals try clear fx
        rintro z H1 ⟨rfl, hC⟩
        obtain ⟨hc1, hc2, hc3⟩ := hC.hcln
        refine ⟨by simp, ?_⟩
        have fx := And.intro hc1 <| And.intro h3 <| hp3
        refine k_run ?_
        clear fx
        obtain ⟨k0, hk0⟩ : ∃ k0, (cutP q' b' i)[0]? = some k0 := ⟨_, gE (by rw [cutP_len]; omega)⟩
        have hk0b : k0.body.length ≤ 12 := by
          have hsh2 : shapeOk (cutP q' b' i) = true := by
            simp only [progOk, Bool.and_eq_true] at hcv
            exact hcv.1
          exact (ShapeP.of (cutP_sml hqs') hsh2).body k0 (List.mem_of_getElem? hk0)
        refine ⟨stmts (cutP q' b' i) * 13 + (k0.body.length - 0), by omega, cutP q' b' i, 0, 0, k0, rfl, hk0, by omega, .inr ⟨?_, rfl⟩, by simp [hql'], hcv, cutP_sml hqs', by rw [← hcl, hqp'], fun c j h => by omega, fun j h => by omega, by simp [h2], by simp [hp2], by simp [hp2'], by simp [h3], by simp [hql'], by simp, by simp; exact wrp (by omega) (by omega), ⟨by simp [hc1], fun j r hj => by simp [hc2 j r hj], fun j r hj => by simp [hc3 j r hj]⟩⟩
        rcases hor with ⟨rfl, _⟩ | ⟨h, _⟩ <;> omega
    · have hge : i = k.body.length := by
        have : ¬ i < k.body.length := by simpa using hf
        omega
      subst hge
      clear hf
      have fx :=  h4
      refine k_run ?_
      clear fx
      have hmul : stmts q' < stmts q → (stmts q' + 1) * (p.length + 1) ≤ stmts q * (p.length + 1) := fun h => Nat.mul_le_mul_right _ h
      refine ⟨stmts q' * (p.length + 1) + (p.length - (b' + 1)), ?_, q', b' + 1, rfl, by omega, hql', hqv', hqs', hqp', fun c j hc => ?_, by simp [h2], by simp [hp2], by simp [hp2'], by simp [h3], by simp [hp3], by simp; exact wrp (by omega) (by omega), ⟨by simp [ho1], fun j r hj => by simp [ho2 j r hj], fun j r hj => by simp [ho3 j r hj]⟩⟩
      · rcases hor with ⟨rfl, rfl⟩ | ⟨h, rfl⟩
        · omega
        · have := hmul h
          rw [Nat.add_mul, Nat.one_mul] at this
          omega
      · rcases Nat.lt_succ_iff_lt_or_eq.1 hc with h | rfl
        · exact hno' c j h
        · rcases Nat.lt_or_ge j k.body.length with hj | hj
          · exact hno2 j hj
          · have : k.body[j]? = none := List.getElem?_eq_none hj
            simp [idleAt, hk, this]
  · have hge : b = p.length := by
      have : ¬ b < p.length := by simpa using hf
      omega
    subst hge
    have hni : NoIdle q := by
      intro c j
      rcases Nat.lt_or_ge c p.length with hc | hc
      · exact hno c j hc
      · have : q[c]? = none := List.getElem?_eq_none (by omega)
        simp [idleAt, this]
    rw [← hqp, leanP_stop hni]
    have fx := And.intro h2 <| And.intro hp2 <| And.intro hp2' <| And.intro h3 <| hp3
    refine k_run ?_
    clear fx
    refine e_ret [(.c (.s 3) 0 0, root)] (.one rfl) (by simp [h2]; rfl) ⟨by simp [hql], ⟨?_, fun j r hj => ?_, fun j r hj => ?_⟩⟩
    · simp [ho1, pRows_tr (n := .c (.s 3) 0 0) (m := root) (f := finf noD [(.c (.s 3) 0 0, root)]) (p := q) (by simp)]
    · simp [ho2 j r hj]
    · simp [ho3 j r hj]
end Go.Proofs.YtcbkblboonkfhaaGreat
end
