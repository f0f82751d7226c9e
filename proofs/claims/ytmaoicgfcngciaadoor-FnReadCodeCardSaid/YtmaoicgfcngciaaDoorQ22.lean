/-
  Own texts, joined by mkclaim.py: Rc.
-/
import Derived.Test.YtmaoicgfcngciaaDoorQ21
import Derived.Test.YtmaoicgfcngciaaDoorQ17
set_option linter.unusedSimpArgs false
set_option linter.unusedVariables false
set_option maxRecDepth 100000
set_option maxHeartbeats 4000000

section
set_option maxHeartbeats 20000000
namespace Go.Proofs.YtmaoicgfcngciaaDoor
open Go Go.Hm Go.Proofs
abbrev qsRc0 : Sch := .q 0 <| .q 1 <| .q 2 <| .q 3 <| .q 4 <| .q 5 <| .q 6 <| .q 7 <| .l 8 [6, 2, 1, 0] <| .q 9 <| .q 10 <| .q 11 <| .q 12 <| .q 13 <| .q 14 <| .q 15 <| .q 16 <| .q 17 <| .q 18 <| .l 19 [17, 15, 14, 13, 12, 11, 9, 6, 2, 1, 0] <| .q 20 <| .q 21 <| .q 22 <| .q 23 <| .q 24 <| .q 25 <| .q 26 <| .q 27 <| .q 28 <| .q 29 <| .q 30 <| .q 31 <| .q 32 <| .q 33 <| .q 34 <| .l 35 [33, 31, 30, 29, 28, 27, 25, 24, 23, 22, 21, 20, 17, 15, 14, 13, 12, 11, 9, 6, 2, 1, 0] <| .q 36 <| .q 37 <| .q 38 <| .q 40 <| .q 41 <| .l 39 [41, 40, 33, 31, 30, 29, 28, 27, 25, 24, 23, 22, 21, 20, 17, 15, 14, 13, 12, 11, 9, 6, 2, 1, 0] <| .l 42 [40, 33, 31, 30, 29, 28, 27, 25, 24, 23, 22, 21, 20, 17, 15, 14, 13, 12, 11, 9, 6, 2, 1, 0] <| .q 43 <| .q 44 <| .q 45 <| .l 46 [] <| .done
theorem goodProgram_fn (gl) (H : Nm → Option AO) (bs : List Int) (pos : Nat) (hb : BytesOk bs) (hpos : pos ≤ 700000) (hH : H (.u 1 0 0) = some (rdO bs pos)) (hV : H (.u 2 0 0) = none) (hV4 : H (.u 4 0 0) = none) (hV5 : H (.u 5 0 0) = none) :
    FnE Tryd.prog gl 89 (Nm.under (.u 1 0 0)) [.pt (.u 1 0 0) 0] H (PrgPost bs (fun p pos' => GenT p ∧ pos' ≤ pos + 1000)) noE := by
  refine FnE.of_sem Tryd.func89 rfl (by kernel_rfl) (rs := [.cell 2 29]) rfl Tryd.ntmps89 (Nat.le_of_ble_eq_true rfl) (fun _ => under_usroot rfl) fun C w g root hroot => ?_
  have hr0 := hroot root (Nm.under_self _)
  all_goals have fx := fx0
  repeat' (first
   | refine w_seq ?_ | refine w_block ?_ | refine w_skip ?_ | refine w_reg fun K hK => ?_
   | ((with_reducible refine s_end hK ?_); clear hK K)
   | (with_reducible first | refine then_normal ?_ | refine in_normal ?_ | refine then_exit ?_ | refine in_exit ?_ | refine then_ret ?_ | refine in_ret ?_ | refine s_nil ?_ | refine in_other (by decide) ?_)
   | refine w_exit ?_
   | refine w_ret ?_
   | (with_reducible refine s_none ?_)
   | ((with_reducible refine g_id ?_); refine x_guard (h := ?_))
   | (with_reducible first | refine gx_tt ?_ | refine gx_ff ?_ | refine x_tf (h := ?_) | refine x_ft (h := ?_) | refine x_u (h := ?_) | refine x_assign (h := ?_) | refine x_alloc (h := ?_) | refine x_store0 (h := ?_) | refine x_append0 (T := 48) (h := ?_) | refine x_append (T := 48) (h := ?_) | refine x_store (h := ?_) | refine x_build (h := ?_))
   | (with_reducible refine x_q (h := ?_))
   | (with_reducible refine gx_s (fun ht => ?_) (fun ht => ?_))
   | refine x_condt (h1 := ?_) | refine x_condf (h1 := ?_)
   | (refine wSc (id := 10) qsRc0 mixed fun K hK => ?_)
   | ((with_reducible refine a_end hK ?_); clear hK K)
   | ((with_reducible refine a_id ?_); first | refine xa_q (h := ?_) | refine xa_qt (h := ?_) | refine xa_qf (h := ?_) | refine xa_qu (h := ?_))
   | ((with_reducible refine a_id ?_); refine xa_gq (h1 := fun ht => ?_) (h2 := fun ht => ?_))
   | refine a_l rfl ?_ | refine a_l2 ?_ ?_ | (with_reducible refine And.intro ?_ ?_) | exact st_nil | refine xa_st (h2 := ?_)
   | fail)
  all_goals try clear fx
  refine x_rdo (bs := bs) (hs := by simp [hH]) (ha := by first | (simp; done) | (simp; rfl)) (hF := shapedProgram_fn _ _ bs pos hb hpos (by simp [hH]) (by simp) (by simp) (by simp)) (h := ?_)
  rintro z H1 ⟨p0, q, rfl, ⟨ho1, ho2, ho3⟩, ⟨hg0, hq⟩, hU⟩
  refine ⟨q, hU, ?_⟩
  all_goals have fx :=  ho1
  repeat' (first
   | refine w_seq ?_ | refine w_block ?_ | refine w_skip ?_ | refine w_reg fun K hK => ?_
   | ((with_reducible refine s_end hK ?_); clear hK K)
   | (with_reducible first | refine then_normal ?_ | refine in_normal ?_ | refine then_exit ?_ | refine in_exit ?_ | refine then_ret ?_ | refine in_ret ?_ | refine s_nil ?_ | refine in_other (by decide) ?_)
   | refine w_exit ?_
   | refine w_ret ?_
   | (with_reducible refine s_none ?_)
   | ((with_reducible refine g_id ?_); refine x_guard (h := ?_))
   | (with_reducible first | refine gx_tt ?_ | refine gx_ff ?_ | refine x_tf (h := ?_) | refine x_ft (h := ?_) | refine x_u (h := ?_) | refine x_assign (h := ?_) | refine x_alloc (h := ?_) | refine x_store0 (h := ?_) | refine x_append0 (T := 48) (h := ?_) | refine x_append (T := 48) (h := ?_) | refine x_store (h := ?_) | refine x_build (h := ?_))
   | (with_reducible refine x_q (h := ?_))
   | (with_reducible refine gx_s (fun ht => ?_) (fun ht => ?_))
   | refine x_condt (h1 := ?_) | refine x_condf (h1 := ?_)
   | (refine wSc (id := 10) qsRc0 mixed fun K hK => ?_)
   | ((with_reducible refine a_end hK ?_); clear hK K)
   | ((with_reducible refine a_id ?_); first | refine xa_q (h := ?_) | refine xa_qt (h := ?_) | refine xa_qf (h := ?_) | refine xa_qu (h := ?_))
   | ((with_reducible refine a_id ?_); refine xa_gq (h1 := fun ht => ?_) (h2 := fun ht => ?_))
   | refine a_l rfl ?_ | refine a_l2 ?_ ?_ | (with_reducible refine And.intro ?_ ?_) | exact st_nil | refine xa_st (h2 := ?_)
   | fail)
  all_goals try clear fx
  refine w_loop (fun n st => ∃ (p : Prg) (b : Nat), n = p.length - b ∧ 1 ≤ b ∧ b ≤ p.length ∧ GenT p ∧ st.hp (.u 1 0 0) = some (rdO bs q) ∧ st.tm 2 = .pt (.s 2) 0 ∧ st.hp (.s 2) = some (.row 1 [[.hs (.c (.s 2) 0 0) 4 0 0]]) ∧ st.hp (.c (.s 2) 0 0) = some (.row 4 []) ∧
    st.tm 3 = .pt (.s 3) 0 ∧ st.hp (.s 3) = some (.row 1 [[.hs (.c (.s 3) 0 0) 4 0 p.length]]) ∧ st.tm 4 = iv b ∧ OwnP st.hp (.c (.s 3) 0 0) p) (p0.length - 1) ?_ ?_
  · have := hg0.len
    refine ⟨p0, 1, rfl, Nat.le_refl _, by omega, hg0, by simp, by simp, by simp, by simp, by simp, by simp, by simp, ⟨by simp [ho1], fun j r hj => by simp [ho2 j r hj], fun j r hj => by simp [ho3 j r hj]⟩⟩
  clear ho1 ho2 ho3 hU
  rintro n st - - ⟨p, b, rfl, hb1, hbl, hg, hU, h2, hp2, hp2', h3, hp3, h4, ⟨ho1, ho2, ho3⟩⟩
  have hs := hg.sml
  have hgl := hg.len
  have hbr : (b < p.length ∧ progOk p = false) ∨ ¬ (b < p.length ∧ progOk p = false) := by
    by_cases h : b < p.length ∧ progOk p = false
    · exact .inl h
    · exact .inr h
  rcases hbr with ⟨hbp, hpo⟩ | hstop
  · obtain ⟨k, hk⟩ : ∃ k, p[b]? = some k := ⟨_, gE hbp⟩
    obtain ⟨_, hkE⟩ := gS hk
    have hkp := hg.params k (List.mem_of_getElem? hk)
    have hkb := hg.body k (List.mem_of_getElem? hk)
    have hdcl := k.dc_len 10
    all_goals have fx := And.intro h3 <| And.intro hp3 <| And.intro h4 <| And.intro hbp <| hpo
    repeat' (first
     | refine w_seq ?_ | refine w_block ?_ | refine w_skip ?_ | refine w_reg fun K hK => ?_
     | ((with_reducible refine s_end hK ?_); clear hK K)
     | (with_reducible first | refine then_normal ?_ | refine in_normal ?_ | refine then_exit ?_ | refine in_exit ?_ | refine then_ret ?_ | refine in_ret ?_ | refine s_nil ?_ | refine in_other (by decide) ?_)
     | refine w_exit ?_
     | refine w_ret ?_
     | (with_reducible refine s_none ?_)
     | ((with_reducible refine g_id ?_); refine x_guard (h := ?_))
     | (with_reducible first | refine gx_tt ?_ | refine gx_ff ?_ | refine x_tf (h := ?_) | refine x_ft (h := ?_) | refine x_u (h := ?_) | refine x_assign (h := ?_) | refine x_alloc (h := ?_) | refine x_store0 (h := ?_) | refine x_append0 (T := 48) (h := ?_) | refine x_append (T := 48) (h := ?_) | refine x_store (h := ?_) | refine x_build (h := ?_))
     | ((with_reducible refine o_id 16 rfl ?_); refine x_call (hB := (by first | ((repeat' (first | exact .nil | refine .cons ?_ ?_ | exact .refl _ | exact bw_ints (by simp [fx]; first | done | rfl) (by first | (simp [fx]; done) | (simp [fx]; omega) | omega) | exact bw_list (by simp [fx]; first | done | rfl) (by first | (simp [fx]; done) | (simp [fx]; omega) | omega) (by first | (simp; done) | fail) | exact bw_agg1 (bw_prog (p := p) (n := .c (.s 3) 0 0) ⟨by simp [ho1], fun j r hj => by simp [ho2 j r hj], fun j r hj => by simp [ho3 j r hj]⟩ rfl))); done) | fail)) (hF := validProgram_fn _ p hs) (h := ?_))
     | (with_reducible refine x_q (h := ?_))
     | (with_reducible refine gx_s (fun ht => ?_) (fun ht => ?_))
     | refine x_condt (h1 := ?_) | refine x_condf (h1 := ?_)
     | (refine wSc (id := 10) qsRc0 mixed fun K hK => ?_)
     | ((with_reducible refine a_end hK ?_); clear hK K)
     | ((with_reducible refine a_id ?_); first | refine xa_q (h := ?_) | refine xa_qt (h := ?_) | refine xa_qf (h := ?_) | refine xa_qu (h := ?_))
     | ((with_reducible refine a_id ?_); refine xa_gq (h1 := fun ht => ?_) (h2 := fun ht => ?_))
     | refine a_l rfl ?_ | refine a_l2 ?_ ?_ | (with_reducible refine And.intro ?_ ?_) | exact st_nil | refine xa_st (h2 := ?_)
     | fail)
    all_goals try clear fx
    refine w_loop (fun n st => ∃ (j : Nat) (L : List Stm), n = k.body.length - j ∧ j ≤ k.body.length ∧ L.length ≤ j ∧ (∀ s ∈ L, TxtS s) ∧ st.hp (.u 1 0 0) = some (rdO bs q) ∧ st.tm 2 = .pt (.s 2) 0 ∧ st.hp (.s 2) = some (.row 1 [[.hs (.c (.s 2) 0 0) 4 0 0]]) ∧ st.hp (.c (.s 2) 0 0) = some (.row 4 []) ∧
    st.tm 3 = .pt (.s 3) 0 ∧ st.hp (.s 3) = some (.row 1 [[.hs (.c (.s 3) 0 0) 4 0 p.length]]) ∧ st.tm 4 = iv b ∧ OwnP st.hp (.c (.s 3) 0 0) p ∧ st.tm 6 = iv j ∧ st.tm 5 = .hs (.s 5) 4 0 L.length ∧ st.hp (.s 5) = some (.row 4 (srows L))) k.body.length ?_ ?_
    · exact ⟨0, [], by omega, by omega, by simp, by simp, by simp [hU], by simp [h2], by simp [hp2], by simp [hp2'], by simp [h3], by simp [hp3], by simp [h4], ⟨by simp [ho1], fun j r hj => by simp [ho2 j r hj], fun j r hj => by simp [ho3 j r hj]⟩, by simp, by simp, by simp⟩
    clear hU h2 hp2 hp2' h3 hp3 h4 ho1 ho2 ho3
    rintro n st - - ⟨j, L, rfl, hj, hL, hLT, hU, h2, hp2, hp2', h3, hp3, h4, ⟨ho1, ho2, ho3⟩, h6, h5, hp5⟩
    have hob := ho3 b k hk
    have hpa := ho2 b k hk
    all_goals have fx := And.intro h3 <| And.intro hp3 <| And.intro h4 <| And.intro h6 <| And.intro ho1 <| And.intro hk <| And.intro hkE <| hbp
    repeat' (first
     | refine w_seq ?_ | refine w_block ?_ | refine w_skip ?_ | refine w_reg fun K hK => ?_
     | ((with_reducible refine s_end hK ?_); clear hK K)
     | (with_reducible first | refine then_normal ?_ | refine in_normal ?_ | refine then_exit ?_ | refine in_exit ?_ | refine then_ret ?_ | refine in_ret ?_ | refine s_nil ?_ | refine in_other (by decide) ?_)
     | refine w_exit ?_
     | refine w_ret ?_
     | (with_reducible refine s_none ?_)
     | ((with_reducible refine g_id ?_); refine x_guard (h := ?_))
     | (with_reducible first | refine gx_tt ?_ | refine gx_ff ?_ | refine x_tf (h := ?_) | refine x_ft (h := ?_) | refine x_u (h := ?_) | refine x_assign (h := ?_) | refine x_alloc (h := ?_) | refine x_store0 (h := ?_) | refine x_append0 (T := 48) (h := ?_) | refine x_append (T := 48) (h := ?_) | refine x_store (h := ?_) | refine x_build (h := ?_))
     | (with_reducible refine x_q (h := ?_))
     | (with_reducible refine gx_s (fun ht => ?_) (fun ht => ?_))
     | refine x_condt (h1 := ?_) | refine x_condf (h1 := ?_)
     | (refine wSc (id := 10) qsRc0 mixed fun K hK => ?_)
     | ((with_reducible refine a_end hK ?_); clear hK K)
     | ((with_reducible refine a_id ?_); first | refine xa_q (h := ?_) | refine xa_qt (h := ?_) | refine xa_qf (h := ?_) | refine xa_qu (h := ?_))
     | ((with_reducible refine a_id ?_); refine xa_gq (h1 := fun ht => ?_) (h2 := fun ht => ?_))
     | refine a_l rfl ?_ | refine a_l2 ?_ ?_ | (with_reducible refine And.intro ?_ ?_) | exact st_nil | refine xa_st (h2 := ?_)
     | fail)
    all_goals try clear fx
    refine w_if (by simp []; first | done | rfl | exact (Bool.not_not _).symm) (fun ht => ?_) (fun hf => ?_)
    · have hjl : j < k.body.length := by simpa using ht
      obtain ⟨s, hsi⟩ : ∃ s, k.body[j]? = some s := ⟨_, gE hjl⟩
      obtain ⟨_, hsE⟩ := gS hsi
      clear ht
      cases h10 : (s.kind == 10)
      · cases h9 : (s.kind == 9)
        · skip
          all_goals have fx := And.intro h3 <| And.intro hp3 <| And.intro h4 <| And.intro h6 <| And.intro ho1 <| And.intro hk <| And.intro hkE <| And.intro hbp <| And.intro hob <| And.intro hpa <| And.intro hsi <| And.intro hsE <| And.intro hjl <| And.intro h10 <| And.intro h9 <| And.intro h5 <| hp5
          repeat' (first
           | refine w_seq ?_ | refine w_block ?_ | refine w_skip ?_ | refine w_reg fun K hK => ?_
           | ((with_reducible refine s_end hK ?_); clear hK K)
           | (with_reducible first | refine then_normal ?_ | refine in_normal ?_ | refine then_exit ?_ | refine in_exit ?_ | refine then_ret ?_ | refine in_ret ?_ | refine s_nil ?_ | refine in_other (by decide) ?_)
           | refine w_exit ?_
           | refine w_ret ?_
           | (with_reducible refine s_none ?_)
           | ((with_reducible refine g_id ?_); refine x_guard (h := ?_))
           | (with_reducible first | refine gx_tt ?_ | refine gx_ff ?_ | refine x_tf (h := ?_) | refine x_ft (h := ?_) | refine x_u (h := ?_) | refine x_assign (h := ?_) | refine x_alloc (h := ?_) | refine x_store0 (h := ?_) | refine x_append0 (T := 48) (h := ?_) | refine x_append (T := 48) (h := ?_) | refine x_store (h := ?_) | refine x_build (h := ?_))
           | ((with_reducible refine o_id 39 rfl ?_); refine x_call (hB := (by first | ((repeat' (first | exact .nil | refine .cons ?_ ?_ | exact .refl _ | exact bw_ints (by simp [fx]; first | done | rfl) (by first | (simp [fx]; done) | (simp [fx]; omega) | omega) | exact bw_list (by simp [fx]; first | done | rfl) (by first | (simp [fx]; done) | (simp [fx]; omega) | omega) (by first | (simp; done) | fail) | exact bw_agg1 (bw_prog (p := p) (n := .c (.s 3) 0 0) ⟨by simp [ho1], fun j r hj => by simp [ho2 j r hj], fun j r hj => by simp [ho3 j r hj]⟩ rfl))); done) | fail)) (hF := outer_fn _ p b k s.to hk hs hg.heads) (h := ?_))
           | ((with_reducible refine o_id 38 rfl ?_); refine x_call (hB := (by first | ((repeat' (first | exact .nil | refine .cons ?_ ?_ | exact .refl _ | exact bw_ints (by simp [fx]; first | done | rfl) (by first | (simp [fx]; done) | (simp [fx]; omega) | omega) | exact bw_list (by simp [fx]; first | done | rfl) (by first | (simp [fx]; done) | (simp [fx]; omega) | omega) (by first | (simp; done) | fail) | exact bw_agg1 (bw_prog (p := p) (n := .c (.s 3) 0 0) ⟨by simp [ho1], fun j r hj => by simp [ho2 j r hj], fun j r hj => by simp [ho3 j r hj]⟩ rfl))); done) | fail)) (hF := has_fn _ _ _ (by first | omega | (simp; omega))) (h := ?_))
           | ((with_reducible refine o_id 37 rfl ?_); refine x_callh (hB := (by first | ((repeat' (first | exact .nil | refine .cons ?_ ?_ | exact .refl _ | exact bw_ints (by simp [fx]; first | done | rfl) (by first | (simp [fx]; done) | (simp [fx]; omega) | omega) | exact bw_list (by simp [fx]; first | done | rfl) (by first | (simp [fx]; done) | (simp [fx]; omega) | omega) (by first | (simp; done) | fail) | exact bw_agg1 (bw_prog (p := p) (n := .c (.s 3) 0 0) ⟨by simp [ho1], fun j r hj => by simp [ho2 j r hj], fun j r hj => by simp [ho3 j r hj]⟩ rfl))); done) | fail)) (hF := declared_fn _ p b k 10 hk (hs.bsm hk)) (h := ?_))
           | (with_reducible refine x_q (h := ?_))
           | (with_reducible refine gx_s (fun ht => ?_) (fun ht => ?_))
           | refine x_condt (h1 := ?_) | refine x_condf (h1 := ?_)
           | (refine wSc (id := 10) qsRc0 mixed fun K hK => ?_)
           | ((with_reducible refine a_end hK ?_); clear hK K)
           | ((with_reducible refine a_id ?_); first | refine xa_q (h := ?_) | refine xa_qt (h := ?_) | refine xa_qf (h := ?_) | refine xa_qu (h := ?_))
           | ((with_reducible refine a_id ?_); refine xa_gq (h1 := fun ht => ?_) (h2 := fun ht => ?_))
           | refine a_l rfl ?_ | refine a_l2 ?_ ?_ | (with_reducible refine And.intro ?_ ?_) | exact st_nil | refine xa_st (h2 := ?_)
           | fail)
          all_goals try clear fx
          refine ⟨k.body.length - (j + 1), by omega, j + 1, L ++ [s], rfl, by omega, by simp; omega, stmSnoc hLT (hg.txt.stms k (List.mem_of_getElem? hk) s (List.mem_of_getElem? hsi)), by simp [hU], by simp [h2], by simp [hp2], by simp [hp2'], by simp [h3], by simp [hp3], by simp [h4], ⟨by simp [ho1], fun j r hj => by simp [ho2 j r hj], fun j r hj => by simp [ho3 j r hj]⟩, by simp; exact wrp (by omega) (by omega), by simp, ?_⟩
          rw [← srows_app1]
          simp [hp5]
        · by_cases hin : s.to ∈ k.params
          · skip
            all_goals have fx := And.intro h3 <| And.intro hp3 <| And.intro h4 <| And.intro h6 <| And.intro ho1 <| And.intro hk <| And.intro hkE <| And.intro hbp <| And.intro hob <| And.intro hpa <| And.intro hsi <| And.intro hsE <| And.intro hjl <| And.intro h10 <| And.intro h9 <| hin
            repeat' (first
             | refine w_seq ?_ | refine w_block ?_ | refine w_skip ?_ | refine w_reg fun K hK => ?_
             | ((with_reducible refine s_end hK ?_); clear hK K)
             | (with_reducible first | refine then_normal ?_ | refine in_normal ?_ | refine then_exit ?_ | refine in_exit ?_ | refine then_ret ?_ | refine in_ret ?_ | refine s_nil ?_ | refine in_other (by decide) ?_)
             | refine w_exit ?_
             | refine w_ret ?_
             | (with_reducible refine s_none ?_)
             | ((with_reducible refine g_id ?_); refine x_guard (h := ?_))
             | (with_reducible first | refine gx_tt ?_ | refine gx_ff ?_ | refine x_tf (h := ?_) | refine x_ft (h := ?_) | refine x_u (h := ?_) | refine x_assign (h := ?_) | refine x_alloc (h := ?_) | refine x_store0 (h := ?_) | refine x_append0 (T := 48) (h := ?_) | refine x_append (T := 48) (h := ?_) | refine x_store (h := ?_) | refine x_build (h := ?_))
             | ((with_reducible refine o_id 39 rfl ?_); refine x_call (hB := (by first | ((repeat' (first | exact .nil | refine .cons ?_ ?_ | exact .refl _ | exact bw_ints (by simp [fx]; first | done | rfl) (by first | (simp [fx]; done) | (simp [fx]; omega) | omega) | exact bw_list (by simp [fx]; first | done | rfl) (by first | (simp [fx]; done) | (simp [fx]; omega) | omega) (by first | (simp; done) | fail) | exact bw_agg1 (bw_prog (p := p) (n := .c (.s 3) 0 0) ⟨by simp [ho1], fun j r hj => by simp [ho2 j r hj], fun j r hj => by simp [ho3 j r hj]⟩ rfl))); done) | fail)) (hF := outer_fn _ p b k s.to hk hs hg.heads) (h := ?_))
             | ((with_reducible refine o_id 38 rfl ?_); refine x_call (hB := (by first | ((repeat' (first | exact .nil | refine .cons ?_ ?_ | exact .refl _ | exact bw_ints (by simp [fx]; first | done | rfl) (by first | (simp [fx]; done) | (simp [fx]; omega) | omega) | exact bw_list (by simp [fx]; first | done | rfl) (by first | (simp [fx]; done) | (simp [fx]; omega) | omega) (by first | (simp; done) | fail) | exact bw_agg1 (bw_prog (p := p) (n := .c (.s 3) 0 0) ⟨by simp [ho1], fun j r hj => by simp [ho2 j r hj], fun j r hj => by simp [ho3 j r hj]⟩ rfl))); done) | fail)) (hF := has_fn _ _ _ (by first | omega | (simp; omega))) (h := ?_))
             | ((with_reducible refine o_id 37 rfl ?_); refine x_callh (hB := (by first | ((repeat' (first | exact .nil | refine .cons ?_ ?_ | exact .refl _ | exact bw_ints (by simp [fx]; first | done | rfl) (by first | (simp [fx]; done) | (simp [fx]; omega) | omega) | exact bw_list (by simp [fx]; first | done | rfl) (by first | (simp [fx]; done) | (simp [fx]; omega) | omega) (by first | (simp; done) | fail) | exact bw_agg1 (bw_prog (p := p) (n := .c (.s 3) 0 0) ⟨by simp [ho1], fun j r hj => by simp [ho2 j r hj], fun j r hj => by simp [ho3 j r hj]⟩ rfl))); done) | fail)) (hF := declared_fn _ p b k 10 hk (hs.bsm hk)) (h := ?_))
             | (with_reducible refine x_q (h := ?_))
             | (with_reducible refine gx_s (fun ht => ?_) (fun ht => ?_))
             | refine x_condt (h1 := ?_) | refine x_condf (h1 := ?_)
             | (refine wSc (id := 10) qsRc0 mixed fun K hK => ?_)
             | ((with_reducible refine a_end hK ?_); clear hK K)
             | ((with_reducible refine a_id ?_); first | refine xa_q (h := ?_) | refine xa_qt (h := ?_) | refine xa_qf (h := ?_) | refine xa_qu (h := ?_))
             | ((with_reducible refine a_id ?_); refine xa_gq (h1 := fun ht => ?_) (h2 := fun ht => ?_))
             | refine a_l rfl ?_ | refine a_l2 ?_ ?_ | (with_reducible refine And.intro ?_ ?_) | exact st_nil | refine xa_st (h2 := ?_)
             | fail)
            all_goals try clear fx
            exact ⟨k.body.length - (j + 1), by omega, j + 1, L, rfl, by omega, by omega, hLT, by simp [hU], by simp [h2], by simp [hp2], by simp [hp2'], by simp [h3], by simp [hp3], by simp [h4], ⟨by simp [ho1], fun j r hj => by simp [ho2 j r hj], fun j r hj => by simp [ho3 j r hj]⟩, by simp; exact wrp (by omega) (by omega), by simp [h5], by simp [hp5]⟩
          · by_cases hdc : s.to ∈ k.dc 10
            · skip
              all_goals have fx := And.intro h3 <| And.intro hp3 <| And.intro h4 <| And.intro h6 <| And.intro ho1 <| And.intro hk <| And.intro hkE <| And.intro hbp <| And.intro hob <| And.intro hpa <| And.intro hsi <| And.intro hsE <| And.intro hjl <| And.intro h10 <| And.intro h9 <| And.intro hin <| hdc
              repeat' (first
               | refine w_seq ?_ | refine w_block ?_ | refine w_skip ?_ | refine w_reg fun K hK => ?_
               | ((with_reducible refine s_end hK ?_); clear hK K)
               | (with_reducible first | refine then_normal ?_ | refine in_normal ?_ | refine then_exit ?_ | refine in_exit ?_ | refine then_ret ?_ | refine in_ret ?_ | refine s_nil ?_ | refine in_other (by decide) ?_)
               | refine w_exit ?_
               | refine w_ret ?_
               | (with_reducible refine s_none ?_)
               | ((with_reducible refine g_id ?_); refine x_guard (h := ?_))
               | (with_reducible first | refine gx_tt ?_ | refine gx_ff ?_ | refine x_tf (h := ?_) | refine x_ft (h := ?_) | refine x_u (h := ?_) | refine x_assign (h := ?_) | refine x_alloc (h := ?_) | refine x_store0 (h := ?_) | refine x_append0 (T := 48) (h := ?_) | refine x_append (T := 48) (h := ?_) | refine x_store (h := ?_) | refine x_build (h := ?_))
               | ((with_reducible refine o_id 39 rfl ?_); refine x_call (hB := (by first | ((repeat' (first | exact .nil | refine .cons ?_ ?_ | exact .refl _ | exact bw_ints (by simp [fx]; first | done | rfl) (by first | (simp [fx]; done) | (simp [fx]; omega) | omega) | exact bw_list (by simp [fx]; first | done | rfl) (by first | (simp [fx]; done) | (simp [fx]; omega) | omega) (by first | (simp; done) | fail) | exact bw_agg1 (bw_prog (p := p) (n := .c (.s 3) 0 0) ⟨by simp [ho1], fun j r hj => by simp [ho2 j r hj], fun j r hj => by simp [ho3 j r hj]⟩ rfl))); done) | fail)) (hF := outer_fn _ p b k s.to hk hs hg.heads) (h := ?_))
               | ((with_reducible refine o_id 38 rfl ?_); refine x_call (hB := (by first | ((repeat' (first | exact .nil | refine .cons ?_ ?_ | exact .refl _ | exact bw_ints (by simp [fx]; first | done | rfl) (by first | (simp [fx]; done) | (simp [fx]; omega) | omega) | exact bw_list (by simp [fx]; first | done | rfl) (by first | (simp [fx]; done) | (simp [fx]; omega) | omega) (by first | (simp; done) | fail) | exact bw_agg1 (bw_prog (p := p) (n := .c (.s 3) 0 0) ⟨by simp [ho1], fun j r hj => by simp [ho2 j r hj], fun j r hj => by simp [ho3 j r hj]⟩ rfl))); done) | fail)) (hF := has_fn _ _ _ (by first | omega | (simp; omega))) (h := ?_))
               | ((with_reducible refine o_id 37 rfl ?_); refine x_callh (hB := (by first | ((repeat' (first | exact .nil | refine .cons ?_ ?_ | exact .refl _ | exact bw_ints (by simp [fx]; first | done | rfl) (by first | (simp [fx]; done) | (simp [fx]; omega) | omega) | exact bw_list (by simp [fx]; first | done | rfl) (by first | (simp [fx]; done) | (simp [fx]; omega) | omega) (by first | (simp; done) | fail) | exact bw_agg1 (bw_prog (p := p) (n := .c (.s 3) 0 0) ⟨by simp [ho1], fun j r hj => by simp [ho2 j r hj], fun j r hj => by simp [ho3 j r hj]⟩ rfl))); done) | fail)) (hF := declared_fn _ p b k 10 hk (hs.bsm hk)) (h := ?_))
               | (with_reducible refine x_q (h := ?_))
               | (with_reducible refine gx_s (fun ht => ?_) (fun ht => ?_))
               | refine x_condt (h1 := ?_) | refine x_condf (h1 := ?_)
               | (refine wSc (id := 10) qsRc0 mixed fun K hK => ?_)
               | ((with_reducible refine a_end hK ?_); clear hK K)
               | ((with_reducible refine a_id ?_); first | refine xa_q (h := ?_) | refine xa_qt (h := ?_) | refine xa_qf (h := ?_) | refine xa_qu (h := ?_))
               | ((with_reducible refine a_id ?_); refine xa_gq (h1 := fun ht => ?_) (h2 := fun ht => ?_))
               | refine a_l rfl ?_ | refine a_l2 ?_ ?_ | (with_reducible refine And.intro ?_ ?_) | exact st_nil | refine xa_st (h2 := ?_)
               | fail)
              all_goals try clear fx
              exact ⟨k.body.length - (j + 1), by omega, j + 1, L, rfl, by omega, by omega, hLT, by simp [hU], by simp [h2], by simp [hp2], by simp [hp2'], by simp [h3], by simp [hp3], by simp [h4], ⟨by simp [ho1], fun j r hj => by simp [ho2 j r hj], fun j r hj => by simp [ho3 j r hj]⟩, by simp; exact wrp (by omega) (by omega), by simp [h5], by simp [hp5]⟩
            · skip
              all_goals have fx := And.intro h3 <| And.intro hp3 <| And.intro h4 <| And.intro h6 <| And.intro ho1 <| And.intro hk <| And.intro hkE <| And.intro hbp <| And.intro hob <| And.intro hpa <| And.intro hsi <| And.intro hsE <| And.intro hjl <| And.intro h10 <| And.intro h9 <| And.intro hin <| And.intro hdc <| And.intro h5 <| hp5
              repeat' (first
               | refine w_seq ?_ | refine w_block ?_ | refine w_skip ?_ | refine w_reg fun K hK => ?_
               | ((with_reducible refine s_end hK ?_); clear hK K)
               | (with_reducible first | refine then_normal ?_ | refine in_normal ?_ | refine then_exit ?_ | refine in_exit ?_ | refine then_ret ?_ | refine in_ret ?_ | refine s_nil ?_ | refine in_other (by decide) ?_)
               | refine w_exit ?_
               | refine w_ret ?_
               | (with_reducible refine s_none ?_)
               | ((with_reducible refine g_id ?_); refine x_guard (h := ?_))
               | (with_reducible first | refine gx_tt ?_ | refine gx_ff ?_ | refine x_tf (h := ?_) | refine x_ft (h := ?_) | refine x_u (h := ?_) | refine x_assign (h := ?_) | refine x_alloc (h := ?_) | refine x_store0 (h := ?_) | refine x_append0 (T := 48) (h := ?_) | refine x_append (T := 48) (h := ?_) | refine x_store (h := ?_) | refine x_build (h := ?_))
               | ((with_reducible refine o_id 39 rfl ?_); refine x_call (hB := (by first | ((repeat' (first | exact .nil | refine .cons ?_ ?_ | exact .refl _ | exact bw_ints (by simp [fx]; first | done | rfl) (by first | (simp [fx]; done) | (simp [fx]; omega) | omega) | exact bw_list (by simp [fx]; first | done | rfl) (by first | (simp [fx]; done) | (simp [fx]; omega) | omega) (by first | (simp; done) | fail) | exact bw_agg1 (bw_prog (p := p) (n := .c (.s 3) 0 0) ⟨by simp [ho1], fun j r hj => by simp [ho2 j r hj], fun j r hj => by simp [ho3 j r hj]⟩ rfl))); done) | fail)) (hF := outer_fn _ p b k s.to hk hs hg.heads) (h := ?_))
               | ((with_reducible refine o_id 38 rfl ?_); refine x_call (hB := (by first | ((repeat' (first | exact .nil | refine .cons ?_ ?_ | exact .refl _ | exact bw_ints (by simp [fx]; first | done | rfl) (by first | (simp [fx]; done) | (simp [fx]; omega) | omega) | exact bw_list (by simp [fx]; first | done | rfl) (by first | (simp [fx]; done) | (simp [fx]; omega) | omega) (by first | (simp; done) | fail) | exact bw_agg1 (bw_prog (p := p) (n := .c (.s 3) 0 0) ⟨by simp [ho1], fun j r hj => by simp [ho2 j r hj], fun j r hj => by simp [ho3 j r hj]⟩ rfl))); done) | fail)) (hF := has_fn _ _ _ (by first | omega | (simp; omega))) (h := ?_))
               | ((with_reducible refine o_id 37 rfl ?_); refine x_callh (hB := (by first | ((repeat' (first | exact .nil | refine .cons ?_ ?_ | exact .refl _ | exact bw_ints (by simp [fx]; first | done | rfl) (by first | (simp [fx]; done) | (simp [fx]; omega) | omega) | exact bw_list (by simp [fx]; first | done | rfl) (by first | (simp [fx]; done) | (simp [fx]; omega) | omega) (by first | (simp; done) | fail) | exact bw_agg1 (bw_prog (p := p) (n := .c (.s 3) 0 0) ⟨by simp [ho1], fun j r hj => by simp [ho2 j r hj], fun j r hj => by simp [ho3 j r hj]⟩ rfl))); done) | fail)) (hF := declared_fn _ p b k 10 hk (hs.bsm hk)) (h := ?_))
               | (with_reducible refine x_q (h := ?_))
               | (with_reducible refine gx_s (fun ht => ?_) (fun ht => ?_))
               | refine x_condt (h1 := ?_) | refine x_condf (h1 := ?_)
               | (refine wSc (id := 10) qsRc0 mixed fun K hK => ?_)
               | ((with_reducible refine a_end hK ?_); clear hK K)
               | ((with_reducible refine a_id ?_); first | refine xa_q (h := ?_) | refine xa_qt (h := ?_) | refine xa_qf (h := ?_) | refine xa_qu (h := ?_))
               | ((with_reducible refine a_id ?_); refine xa_gq (h1 := fun ht => ?_) (h2 := fun ht => ?_))
               | refine a_l rfl ?_ | refine a_l2 ?_ ?_ | (with_reducible refine And.intro ?_ ?_) | exact st_nil | refine xa_st (h2 := ?_)
               | fail)
              all_goals try clear fx
              refine ⟨k.body.length - (j + 1), by omega, j + 1, L ++ [s], rfl, by omega, by simp; omega, stmSnoc hLT (hg.txt.stms k (List.mem_of_getElem? hk) s (List.mem_of_getElem? hsi)), by simp [hU], by simp [h2], by simp [hp2], by simp [hp2'], by simp [h3], by simp [hp3], by simp [h4], ⟨by simp [ho1], fun j r hj => by simp [ho2 j r hj], fun j r hj => by simp [ho3 j r hj]⟩, by simp; exact wrp (by omega) (by omega), by simp, ?_⟩
              rw [← srows_app1]
              simp [hp5]
      · have h9 : (s.kind == 9) = false := by
          have : s.kind = 10 := by simpa using h10
          simp [this]
        by_cases hou : outer p b s.to < 0
        · skip
          all_goals have fx := And.intro h3 <| And.intro hp3 <| And.intro h4 <| And.intro h6 <| And.intro ho1 <| And.intro hk <| And.intro hkE <| And.intro hbp <| And.intro hob <| And.intro hpa <| And.intro hsi <| And.intro hsE <| And.intro hjl <| And.intro h10 <| And.intro h9 <| hou
          repeat' (first
           | refine w_seq ?_ | refine w_block ?_ | refine w_skip ?_ | refine w_reg fun K hK => ?_
           | ((with_reducible refine s_end hK ?_); clear hK K)
           | (with_reducible first | refine then_normal ?_ | refine in_normal ?_ | refine then_exit ?_ | refine in_exit ?_ | refine then_ret ?_ | refine in_ret ?_ | refine s_nil ?_ | refine in_other (by decide) ?_)
           | refine w_exit ?_
           | refine w_ret ?_
           | (with_reducible refine s_none ?_)
           | ((with_reducible refine g_id ?_); refine x_guard (h := ?_))
           | (with_reducible first | refine gx_tt ?_ | refine gx_ff ?_ | refine x_tf (h := ?_) | refine x_ft (h := ?_) | refine x_u (h := ?_) | refine x_assign (h := ?_) | refine x_alloc (h := ?_) | refine x_store0 (h := ?_) | refine x_append0 (T := 48) (h := ?_) | refine x_append (T := 48) (h := ?_) | refine x_store (h := ?_) | refine x_build (h := ?_))
           | ((with_reducible refine o_id 39 rfl ?_); refine x_call (hB := (by first | ((repeat' (first | exact .nil | refine .cons ?_ ?_ | exact .refl _ | exact bw_ints (by simp [fx]; first | done | rfl) (by first | (simp [fx]; done) | (simp [fx]; omega) | omega) | exact bw_list (by simp [fx]; first | done | rfl) (by first | (simp [fx]; done) | (simp [fx]; omega) | omega) (by first | (simp; done) | fail) | exact bw_agg1 (bw_prog (p := p) (n := .c (.s 3) 0 0) ⟨by simp [ho1], fun j r hj => by simp [ho2 j r hj], fun j r hj => by simp [ho3 j r hj]⟩ rfl))); done) | fail)) (hF := outer_fn _ p b k s.to hk hs hg.heads) (h := ?_))
           | ((with_reducible refine o_id 38 rfl ?_); refine x_call (hB := (by first | ((repeat' (first | exact .nil | refine .cons ?_ ?_ | exact .refl _ | exact bw_ints (by simp [fx]; first | done | rfl) (by first | (simp [fx]; done) | (simp [fx]; omega) | omega) | exact bw_list (by simp [fx]; first | done | rfl) (by first | (simp [fx]; done) | (simp [fx]; omega) | omega) (by first | (simp; done) | fail) | exact bw_agg1 (bw_prog (p := p) (n := .c (.s 3) 0 0) ⟨by simp [ho1], fun j r hj => by simp [ho2 j r hj], fun j r hj => by simp [ho3 j r hj]⟩ rfl))); done) | fail)) (hF := has_fn _ _ _ (by first | omega | (simp; omega))) (h := ?_))
           | ((with_reducible refine o_id 37 rfl ?_); refine x_callh (hB := (by first | ((repeat' (first | exact .nil | refine .cons ?_ ?_ | exact .refl _ | exact bw_ints (by simp [fx]; first | done | rfl) (by first | (simp [fx]; done) | (simp [fx]; omega) | omega) | exact bw_list (by simp [fx]; first | done | rfl) (by first | (simp [fx]; done) | (simp [fx]; omega) | omega) (by first | (simp; done) | fail) | exact bw_agg1 (bw_prog (p := p) (n := .c (.s 3) 0 0) ⟨by simp [ho1], fun j r hj => by simp [ho2 j r hj], fun j r hj => by simp [ho3 j r hj]⟩ rfl))); done) | fail)) (hF := declared_fn _ p b k 10 hk (hs.bsm hk)) (h := ?_))
           | (with_reducible refine x_q (h := ?_))
           | (with_reducible refine gx_s (fun ht => ?_) (fun ht => ?_))
           | refine x_condt (h1 := ?_) | refine x_condf (h1 := ?_)
           | (refine wSc (id := 10) qsRc0 mixed fun K hK => ?_)
           | ((with_reducible refine a_end hK ?_); clear hK K)
           | ((with_reducible refine a_id ?_); first | refine xa_q (h := ?_) | refine xa_qt (h := ?_) | refine xa_qf (h := ?_) | refine xa_qu (h := ?_))
           | ((with_reducible refine a_id ?_); refine xa_gq (h1 := fun ht => ?_) (h2 := fun ht => ?_))
           | refine a_l rfl ?_ | refine a_l2 ?_ ?_ | (with_reducible refine And.intro ?_ ?_) | exact st_nil | refine xa_st (h2 := ?_)
           | fail)
          all_goals try clear fx
          exact ⟨k.body.length - (j + 1), by omega, j + 1, L, rfl, by omega, by omega, hLT, by simp [hU], by simp [h2], by simp [hp2], by simp [hp2'], by simp [h3], by simp [hp3], by simp [h4], ⟨by simp [ho1], fun j r hj => by simp [ho2 j r hj], fun j r hj => by simp [ho3 j r hj]⟩, by simp; exact wrp (by omega) (by omega), by simp [h5], by simp [hp5]⟩
        · by_cases hin : s.to ∈ k.params
          · skip
            all_goals have fx := And.intro h3 <| And.intro hp3 <| And.intro h4 <| And.intro h6 <| And.intro ho1 <| And.intro hk <| And.intro hkE <| And.intro hbp <| And.intro hob <| And.intro hpa <| And.intro hsi <| And.intro hsE <| And.intro hjl <| And.intro h10 <| And.intro h9 <| And.intro hou <| hin
            repeat' (first
             | refine w_seq ?_ | refine w_block ?_ | refine w_skip ?_ | refine w_reg fun K hK => ?_
             | ((with_reducible refine s_end hK ?_); clear hK K)
             | (with_reducible first | refine then_normal ?_ | refine in_normal ?_ | refine then_exit ?_ | refine in_exit ?_ | refine then_ret ?_ | refine in_ret ?_ | refine s_nil ?_ | refine in_other (by decide) ?_)
             | refine w_exit ?_
             | refine w_ret ?_
             | (with_reducible refine s_none ?_)
             | ((with_reducible refine g_id ?_); refine x_guard (h := ?_))
             | (with_reducible first | refine gx_tt ?_ | refine gx_ff ?_ | refine x_tf (h := ?_) | refine x_ft (h := ?_) | refine x_u (h := ?_) | refine x_assign (h := ?_) | refine x_alloc (h := ?_) | refine x_store0 (h := ?_) | refine x_append0 (T := 48) (h := ?_) | refine x_append (T := 48) (h := ?_) | refine x_store (h := ?_) | refine x_build (h := ?_))
             | ((with_reducible refine o_id 39 rfl ?_); refine x_call (hB := (by first | ((repeat' (first | exact .nil | refine .cons ?_ ?_ | exact .refl _ | exact bw_ints (by simp [fx]; first | done | rfl) (by first | (simp [fx]; done) | (simp [fx]; omega) | omega) | exact bw_list (by simp [fx]; first | done | rfl) (by first | (simp [fx]; done) | (simp [fx]; omega) | omega) (by first | (simp; done) | fail) | exact bw_agg1 (bw_prog (p := p) (n := .c (.s 3) 0 0) ⟨by simp [ho1], fun j r hj => by simp [ho2 j r hj], fun j r hj => by simp [ho3 j r hj]⟩ rfl))); done) | fail)) (hF := outer_fn _ p b k s.to hk hs hg.heads) (h := ?_))
             | ((with_reducible refine o_id 38 rfl ?_); refine x_call (hB := (by first | ((repeat' (first | exact .nil | refine .cons ?_ ?_ | exact .refl _ | exact bw_ints (by simp [fx]; first | done | rfl) (by first | (simp [fx]; done) | (simp [fx]; omega) | omega) | exact bw_list (by simp [fx]; first | done | rfl) (by first | (simp [fx]; done) | (simp [fx]; omega) | omega) (by first | (simp; done) | fail) | exact bw_agg1 (bw_prog (p := p) (n := .c (.s 3) 0 0) ⟨by simp [ho1], fun j r hj => by simp [ho2 j r hj], fun j r hj => by simp [ho3 j r hj]⟩ rfl))); done) | fail)) (hF := has_fn _ _ _ (by first | omega | (simp; omega))) (h := ?_))
             | ((with_reducible refine o_id 37 rfl ?_); refine x_callh (hB := (by first | ((repeat' (first | exact .nil | refine .cons ?_ ?_ | exact .refl _ | exact bw_ints (by simp [fx]; first | done | rfl) (by first | (simp [fx]; done) | (simp [fx]; omega) | omega) | exact bw_list (by simp [fx]; first | done | rfl) (by first | (simp [fx]; done) | (simp [fx]; omega) | omega) (by first | (simp; done) | fail) | exact bw_agg1 (bw_prog (p := p) (n := .c (.s 3) 0 0) ⟨by simp [ho1], fun j r hj => by simp [ho2 j r hj], fun j r hj => by simp [ho3 j r hj]⟩ rfl))); done) | fail)) (hF := declared_fn _ p b k 10 hk (hs.bsm hk)) (h := ?_))
             | (with_reducible refine x_q (h := ?_))
             | (with_reducible refine gx_s (fun ht => ?_) (fun ht => ?_))
             | refine x_condt (h1 := ?_) | refine x_condf (h1 := ?_)
             | (refine wSc (id := 10) qsRc0 mixed fun K hK => ?_)
             | ((with_reducible refine a_end hK ?_); clear hK K)
             | ((with_reducible refine a_id ?_); first | refine xa_q (h := ?_) | refine xa_qt (h := ?_) | refine xa_qf (h := ?_) | refine xa_qu (h := ?_))
             | ((with_reducible refine a_id ?_); refine xa_gq (h1 := fun ht => ?_) (h2 := fun ht => ?_))
             | refine a_l rfl ?_ | refine a_l2 ?_ ?_ | (with_reducible refine And.intro ?_ ?_) | exact st_nil | refine xa_st (h2 := ?_)
             | fail)
            all_goals try clear fx
            exact ⟨k.body.length - (j + 1), by omega, j + 1, L, rfl, by omega, by omega, hLT, by simp [hU], by simp [h2], by simp [hp2], by simp [hp2'], by simp [h3], by simp [hp3], by simp [h4], ⟨by simp [ho1], fun j r hj => by simp [ho2 j r hj], fun j r hj => by simp [ho3 j r hj]⟩, by simp; exact wrp (by omega) (by omega), by simp [h5], by simp [hp5]⟩
          · skip
            all_goals have fx := And.intro h3 <| And.intro hp3 <| And.intro h4 <| And.intro h6 <| And.intro ho1 <| And.intro hk <| And.intro hkE <| And.intro hbp <| And.intro hob <| And.intro hpa <| And.intro hsi <| And.intro hsE <| And.intro hjl <| And.intro h10 <| And.intro h9 <| And.intro hou <| And.intro hin <| And.intro h5 <| hp5
            repeat' (first
             | refine w_seq ?_ | refine w_block ?_ | refine w_skip ?_ | refine w_reg fun K hK => ?_
             | ((with_reducible refine s_end hK ?_); clear hK K)
             | (with_reducible first | refine then_normal ?_ | refine in_normal ?_ | refine then_exit ?_ | refine in_exit ?_ | refine then_ret ?_ | refine in_ret ?_ | refine s_nil ?_ | refine in_other (by decide) ?_)
             | refine w_exit ?_
             | refine w_ret ?_
             | (with_reducible refine s_none ?_)
             | ((with_reducible refine g_id ?_); refine x_guard (h := ?_))
             | (with_reducible first | refine gx_tt ?_ | refine gx_ff ?_ | refine x_tf (h := ?_) | refine x_ft (h := ?_) | refine x_u (h := ?_) | refine x_assign (h := ?_) | refine x_alloc (h := ?_) | refine x_store0 (h := ?_) | refine x_append0 (T := 48) (h := ?_) | refine x_append (T := 48) (h := ?_) | refine x_store (h := ?_) | refine x_build (h := ?_))
             | ((with_reducible refine o_id 39 rfl ?_); refine x_call (hB := (by first | ((repeat' (first | exact .nil | refine .cons ?_ ?_ | exact .refl _ | exact bw_ints (by simp [fx]; first | done | rfl) (by first | (simp [fx]; done) | (simp [fx]; omega) | omega) | exact bw_list (by simp [fx]; first | done | rfl) (by first | (simp [fx]; done) | (simp [fx]; omega) | omega) (by first | (simp; done) | fail) | exact bw_agg1 (bw_prog (p := p) (n := .c (.s 3) 0 0) ⟨by simp [ho1], fun j r hj => by simp [ho2 j r hj], fun j r hj => by simp [ho3 j r hj]⟩ rfl))); done) | fail)) (hF := outer_fn _ p b k s.to hk hs hg.heads) (h := ?_))
             | ((with_reducible refine o_id 38 rfl ?_); refine x_call (hB := (by first | ((repeat' (first | exact .nil | refine .cons ?_ ?_ | exact .refl _ | exact bw_ints (by simp [fx]; first | done | rfl) (by first | (simp [fx]; done) | (simp [fx]; omega) | omega) | exact bw_list (by simp [fx]; first | done | rfl) (by first | (simp [fx]; done) | (simp [fx]; omega) | omega) (by first | (simp; done) | fail) | exact bw_agg1 (bw_prog (p := p) (n := .c (.s 3) 0 0) ⟨by simp [ho1], fun j r hj => by simp [ho2 j r hj], fun j r hj => by simp [ho3 j r hj]⟩ rfl))); done) | fail)) (hF := has_fn _ _ _ (by first | omega | (simp; omega))) (h := ?_))
             | ((with_reducible refine o_id 37 rfl ?_); refine x_callh (hB := (by first | ((repeat' (first | exact .nil | refine .cons ?_ ?_ | exact .refl _ | exact bw_ints (by simp [fx]; first | done | rfl) (by first | (simp [fx]; done) | (simp [fx]; omega) | omega) | exact bw_list (by simp [fx]; first | done | rfl) (by first | (simp [fx]; done) | (simp [fx]; omega) | omega) (by first | (simp; done) | fail) | exact bw_agg1 (bw_prog (p := p) (n := .c (.s 3) 0 0) ⟨by simp [ho1], fun j r hj => by simp [ho2 j r hj], fun j r hj => by simp [ho3 j r hj]⟩ rfl))); done) | fail)) (hF := declared_fn _ p b k 10 hk (hs.bsm hk)) (h := ?_))
             | (with_reducible refine x_q (h := ?_))
             | (with_reducible refine gx_s (fun ht => ?_) (fun ht => ?_))
             | refine x_condt (h1 := ?_) | refine x_condf (h1 := ?_)
             | (refine wSc (id := 10) qsRc0 mixed fun K hK => ?_)
             | ((with_reducible refine a_end hK ?_); clear hK K)
             | ((with_reducible refine a_id ?_); first | refine xa_q (h := ?_) | refine xa_qt (h := ?_) | refine xa_qf (h := ?_) | refine xa_qu (h := ?_))
             | ((with_reducible refine a_id ?_); refine xa_gq (h1 := fun ht => ?_) (h2 := fun ht => ?_))
             | refine a_l rfl ?_ | refine a_l2 ?_ ?_ | (with_reducible refine And.intro ?_ ?_) | exact st_nil | refine xa_st (h2 := ?_)
             | fail)
            all_goals try clear fx
            refine ⟨k.body.length - (j + 1), by omega, j + 1, L ++ [s], rfl, by omega, by simp; omega, stmSnoc hLT (hg.txt.stms k (List.mem_of_getElem? hk) s (List.mem_of_getElem? hsi)), by simp [hU], by simp [h2], by simp [hp2], by simp [hp2'], by simp [h3], by simp [hp3], by simp [h4], ⟨by simp [ho1], fun j r hj => by simp [ho2 j r hj], fun j r hj => by simp [ho3 j r hj]⟩, by simp; exact wrp (by omega) (by omega), by simp, ?_⟩
            rw [← srows_app1]
            simp [hp5]
    · have hge : j = k.body.length := by
        have : ¬ j < k.body.length := by simpa using hf
        omega
      subst hge
      clear hf
      have hset := pRows_set (n := .c (.s 3) 0 0) (a := 5) (i := b) (len := L.length) (p := p) (L := L) rfl (by simp) (by simp)
      have hsl : (setBody p b L).length = p.length := setBody_len
      all_goals have fx := And.intro h3 <| And.intro hp3 <| And.intro h4 <| And.intro h5 <| And.intro hp5 <| And.intro ho1 <| And.intro hk <| And.intro hkE <| And.intro hbp <| hset
      repeat' (first
       | refine w_seq ?_ | refine w_block ?_ | refine w_skip ?_ | refine w_reg fun K hK => ?_
       | ((with_reducible refine s_end hK ?_); clear hK K)
       | (with_reducible first | refine then_normal ?_ | refine in_normal ?_ | refine then_exit ?_ | refine in_exit ?_ | refine then_ret ?_ | refine in_ret ?_ | refine s_nil ?_ | refine in_other (by decide) ?_)
       | refine w_exit ?_
       | refine w_ret ?_
       | (with_reducible refine s_none ?_)
       | ((with_reducible refine g_id ?_); refine x_guard (h := ?_))
       | (with_reducible first | refine gx_tt ?_ | refine gx_ff ?_ | refine x_tf (h := ?_) | refine x_ft (h := ?_) | refine x_u (h := ?_) | refine x_assign (h := ?_) | refine x_alloc (h := ?_) | refine x_store0 (h := ?_) | refine x_append0 (T := 48) (h := ?_) | refine x_append (T := 48) (h := ?_) | refine x_store (h := ?_) | refine x_build (h := ?_))
       | (with_reducible refine x_q (h := ?_))
       | (with_reducible refine gx_s (fun ht => ?_) (fun ht => ?_))
       | refine x_condt (h1 := ?_) | refine x_condf (h1 := ?_)
       | (refine wSc (id := 10) qsRc0 mixed fun K hK => ?_)
       | ((with_reducible refine a_end hK ?_); clear hK K)
       | ((with_reducible refine a_id ?_); first | refine xa_q (h := ?_) | refine xa_qt (h := ?_) | refine xa_qf (h := ?_) | refine xa_qu (h := ?_))
       | ((with_reducible refine a_id ?_); refine xa_gq (h1 := fun ht => ?_) (h2 := fun ht => ?_))
       | refine a_l rfl ?_ | refine a_l2 ?_ ?_ | (with_reducible refine And.intro ?_ ?_) | exact st_nil | refine xa_st (h2 := ?_)
       | fail)
      all_goals try clear fx
      refine ⟨p.length - (b + 1), by omega, setBody p b L, b + 1, by rw [hsl], by omega, by rw [hsl]; omega, hg.setBody (by omega) hLT, by simp [hU], by simp [h2], by simp [hp2], by simp [hp2'], by simp [h3], by simp [hp3], by simp; exact wrp (by omega) (by omega), ⟨by simp [hset], fun d r hd => ?_, fun d r hd => ?_⟩⟩
      all_goals
        have hl : d < p.length := by
          have := (gS hd).1
          rwa [setBody_len] at this
        obtain ⟨r0, hr0'⟩ : ∃ r0, p[d]? = some r0 := ⟨_, gE hl⟩
        rw [setBody_get hr0'] at hd
        obtain rfl := Option.some.inj hd
        by_cases hbd : b = d
      · subst hbd
        simp [ho2 b r0 hr0']
      · simp [ho2 d r0 hr0', hbd, show ¬ d = b from fun e => hbd e.symm]
      · subst hbd
        simp [hp5]
      · simp [ho3 d r0 hr0', hbd, show ¬ d = b from fun e => hbd e.symm]
  · by_cases hbp : b < p.length
    · have hpo : progOk p = true := by
        cases h : progOk p
        · exact absurd ⟨hbp, h⟩ hstop
        · rfl
      all_goals have fx := And.intro h2 <| And.intro hp2 <| And.intro hp2' <| And.intro h3 <| And.intro hp3 <| And.intro h4 <| And.intro hbp <| hpo
      repeat' (first
       | refine w_seq ?_ | refine w_block ?_ | refine w_skip ?_ | refine w_reg fun K hK => ?_
       | ((with_reducible refine s_end hK ?_); clear hK K)
       | (with_reducible first | refine then_normal ?_ | refine in_normal ?_ | refine then_exit ?_ | refine in_exit ?_ | refine then_ret ?_ | refine in_ret ?_ | refine s_nil ?_ | refine in_other (by decide) ?_)
       | refine w_exit ?_
       | refine w_ret ?_
       | (with_reducible refine s_none ?_)
       | ((with_reducible refine g_id ?_); refine x_guard (h := ?_))
       | (with_reducible first | refine gx_tt ?_ | refine gx_ff ?_ | refine x_tf (h := ?_) | refine x_ft (h := ?_) | refine x_u (h := ?_) | refine x_assign (h := ?_) | refine x_alloc (h := ?_) | refine x_store0 (h := ?_) | refine x_append0 (T := 48) (h := ?_) | refine x_append (T := 48) (h := ?_) | refine x_store (h := ?_) | refine x_build (h := ?_))
       | ((with_reducible refine o_id 16 rfl ?_); refine x_call (hB := (by first | ((repeat' (first | exact .nil | refine .cons ?_ ?_ | exact .refl _ | exact bw_ints (by simp [fx]; first | done | rfl) (by first | (simp [fx]; done) | (simp [fx]; omega) | omega) | exact bw_list (by simp [fx]; first | done | rfl) (by first | (simp [fx]; done) | (simp [fx]; omega) | omega) (by first | (simp; done) | fail) | exact bw_agg1 (bw_prog (p := p) (n := .c (.s 3) 0 0) ⟨by simp [ho1], fun j r hj => by simp [ho2 j r hj], fun j r hj => by simp [ho3 j r hj]⟩ rfl))); done) | fail)) (hF := validProgram_fn _ p hs) (h := ?_))
       | (with_reducible refine x_q (h := ?_))
       | (with_reducible refine gx_s (fun ht => ?_) (fun ht => ?_))
       | refine x_condt (h1 := ?_) | refine x_condf (h1 := ?_)
       | (refine wSc (id := 10) qsRc0 mixed fun K hK => ?_)
       | ((with_reducible refine a_end hK ?_); clear hK K)
       | ((with_reducible refine a_id ?_); first | refine xa_q (h := ?_) | refine xa_qt (h := ?_) | refine xa_qf (h := ?_) | refine xa_qu (h := ?_))
       | ((with_reducible refine a_id ?_); refine xa_gq (h1 := fun ht => ?_) (h2 := fun ht => ?_))
       | refine a_l rfl ?_ | refine a_l2 ?_ ?_ | (with_reducible refine And.intro ?_ ?_) | exact st_nil | refine xa_st (h2 := ?_)
       | fail)
      all_goals try clear fx
      refine e_ret [(.c (.s 3) 0 0, root)] (.one rfl) (by simp [h2]; rfl) ⟨p, q, by simp, ⟨?_, fun j r hj => ?_, fun j r hj => ?_⟩, ⟨hg, by omega⟩, by simp [hU]⟩
      · simp [ho1, hr0, pRows_tr (n := .c (.s 3) 0 0) (m := root) (f := finf (Nm.under (.u 1 0 0)) [(.c (.s 3) 0 0, root)]) (p := p) (by simp [hr0])]
      · simp [ho2 j r hj, hr0]
      · simp [ho3 j r hj, hr0]
    · cases hpo : progOk p
      · skip
        all_goals have fx := And.intro h2 <| And.intro hp2 <| And.intro hp2' <| And.intro h3 <| And.intro hp3 <| And.intro h4 <| And.intro hbp <| hpo
        repeat' (first
         | refine w_seq ?_ | refine w_block ?_ | refine w_skip ?_ | refine w_reg fun K hK => ?_
         | ((with_reducible refine s_end hK ?_); clear hK K)
         | (with_reducible first | refine then_normal ?_ | refine in_normal ?_ | refine then_exit ?_ | refine in_exit ?_ | refine then_ret ?_ | refine in_ret ?_ | refine s_nil ?_ | refine in_other (by decide) ?_)
         | refine w_exit ?_
         | refine w_ret ?_
         | (with_reducible refine s_none ?_)
         | ((with_reducible refine g_id ?_); refine x_guard (h := ?_))
         | (with_reducible first | refine gx_tt ?_ | refine gx_ff ?_ | refine x_tf (h := ?_) | refine x_ft (h := ?_) | refine x_u (h := ?_) | refine x_assign (h := ?_) | refine x_alloc (h := ?_) | refine x_store0 (h := ?_) | refine x_append0 (T := 48) (h := ?_) | refine x_append (T := 48) (h := ?_) | refine x_store (h := ?_) | refine x_build (h := ?_))
         | ((with_reducible refine o_id 16 rfl ?_); refine x_call (hB := (by first | ((repeat' (first | exact .nil | refine .cons ?_ ?_ | exact .refl _ | exact bw_ints (by simp [fx]; first | done | rfl) (by first | (simp [fx]; done) | (simp [fx]; omega) | omega) | exact bw_list (by simp [fx]; first | done | rfl) (by first | (simp [fx]; done) | (simp [fx]; omega) | omega) (by first | (simp; done) | fail) | exact bw_agg1 (bw_prog (p := p) (n := .c (.s 3) 0 0) ⟨by simp [ho1], fun j r hj => by simp [ho2 j r hj], fun j r hj => by simp [ho3 j r hj]⟩ rfl))); done) | fail)) (hF := validProgram_fn _ p hs) (h := ?_))
         | ((with_reducible refine o_id 111 rfl ?_); refine x_callg (hB := (by first | ((repeat' (first | exact .nil | refine .cons ?_ ?_ | exact .refl _ | exact bw_ints (by simp [fx]; first | done | rfl) (by first | (simp [fx]; done) | (simp [fx]; omega) | omega) | exact bw_list (by simp [fx]; first | done | rfl) (by first | (simp [fx]; done) | (simp [fx]; omega) | omega) (by first | (simp; done) | fail) | exact bw_agg1 (bw_prog (p := p) (n := .c (.s 3) 0 0) ⟨by simp [ho1], fun j r hj => by simp [ho2 j r hj], fun j r hj => by simp [ho3 j r hj]⟩ rfl))); done) | fail)) (hF := bare_fn _ p hs) (h := ?_))
         | (with_reducible refine x_q (h := ?_))
         | (with_reducible refine gx_s (fun ht => ?_) (fun ht => ?_))
         | refine x_condt (h1 := ?_) | refine x_condf (h1 := ?_)
         | (refine wSc (id := 10) qsRc0 mixed fun K hK => ?_)
         | ((with_reducible refine a_end hK ?_); clear hK K)
         | ((with_reducible refine a_id ?_); first | refine xa_q (h := ?_) | refine xa_qt (h := ?_) | refine xa_qf (h := ?_) | refine xa_qu (h := ?_))
         | ((with_reducible refine a_id ?_); refine xa_gq (h1 := fun ht => ?_) (h2 := fun ht => ?_))
         | refine a_l rfl ?_ | refine a_l2 ?_ ?_ | (with_reducible refine And.intro ?_ ?_) | exact st_nil | refine xa_st (h2 := ?_)
         | fail)
        all_goals try clear fx
        rintro z H2 ⟨rfl, hB⟩
        obtain ⟨hc1, hc2, hc3⟩ := hB.hcln
        refine ⟨by simp, ?_⟩
        all_goals have fx := And.intro h2 <| And.intro hp2 <| And.intro hp2' <| hc1
        repeat' (first
         | refine w_seq ?_ | refine w_block ?_ | refine w_skip ?_ | refine w_reg fun K hK => ?_
         | ((with_reducible refine s_end hK ?_); clear hK K)
         | (with_reducible first | refine then_normal ?_ | refine in_normal ?_ | refine then_exit ?_ | refine in_exit ?_ | refine then_ret ?_ | refine in_ret ?_ | refine s_nil ?_ | refine in_other (by decide) ?_)
         | refine w_exit ?_
         | refine w_ret ?_
         | (with_reducible refine s_none ?_)
         | ((with_reducible refine g_id ?_); refine x_guard (h := ?_))
         | (with_reducible first | refine gx_tt ?_ | refine gx_ff ?_ | refine x_tf (h := ?_) | refine x_ft (h := ?_) | refine x_u (h := ?_) | refine x_assign (h := ?_) | refine x_alloc (h := ?_) | refine x_store0 (h := ?_) | refine x_append0 (T := 48) (h := ?_) | refine x_append (T := 48) (h := ?_) | refine x_store (h := ?_) | refine x_build (h := ?_))
         | (with_reducible refine x_q (h := ?_))
         | (with_reducible refine gx_s (fun ht => ?_) (fun ht => ?_))
         | refine x_condt (h1 := ?_) | refine x_condf (h1 := ?_)
         | (refine wSc (id := 10) qsRc0 mixed fun K hK => ?_)
         | ((with_reducible refine a_end hK ?_); clear hK K)
         | ((with_reducible refine a_id ?_); first | refine xa_q (h := ?_) | refine xa_qt (h := ?_) | refine xa_qf (h := ?_) | refine xa_qu (h := ?_))
         | ((with_reducible refine a_id ?_); refine xa_gq (h1 := fun ht => ?_) (h2 := fun ht => ?_))
         | refine a_l rfl ?_ | refine a_l2 ?_ ?_ | (with_reducible refine And.intro ?_ ?_) | exact st_nil | refine xa_st (h2 := ?_)
         | fail)
        all_goals try clear fx
        have hbl2 : (bareP p).length = p.length := by simp [bareP]
        refine e_ret [(.c (.s 2) 0 0, root)] (.one rfl) (by simp [h2]; rfl) ⟨bareP p, q, by simp [hbl2], ⟨?_, fun j r hj => ?_, fun j r hj => ?_⟩, ⟨hg.bare, by omega⟩, by simp [hU]⟩
        · simp [hc1, hr0, pRows_tr (n := .c (.s 2) 0 0) (m := root) (f := finf (Nm.under (.u 1 0 0)) [(.c (.s 2) 0 0, root)]) (p := bareP p) (by simp [hr0])]
        · simp [hc2 j r hj, hr0]
        · simp [hc3 j r hj, hr0]
      · skip
        all_goals have fx := And.intro h2 <| And.intro hp2 <| And.intro hp2' <| And.intro h3 <| And.intro hp3 <| And.intro h4 <| And.intro hbp <| hpo
        repeat' (first
         | refine w_seq ?_ | refine w_block ?_ | refine w_skip ?_ | refine w_reg fun K hK => ?_
         | ((with_reducible refine s_end hK ?_); clear hK K)
         | (with_reducible first | refine then_normal ?_ | refine in_normal ?_ | refine then_exit ?_ | refine in_exit ?_ | refine then_ret ?_ | refine in_ret ?_ | refine s_nil ?_ | refine in_other (by decide) ?_)
         | refine w_exit ?_
         | refine w_ret ?_
         | (with_reducible refine s_none ?_)
         | ((with_reducible refine g_id ?_); refine x_guard (h := ?_))
         | (with_reducible first | refine gx_tt ?_ | refine gx_ff ?_ | refine x_tf (h := ?_) | refine x_ft (h := ?_) | refine x_u (h := ?_) | refine x_assign (h := ?_) | refine x_alloc (h := ?_) | refine x_store0 (h := ?_) | refine x_append0 (T := 48) (h := ?_) | refine x_append (T := 48) (h := ?_) | refine x_store (h := ?_) | refine x_build (h := ?_))
         | ((with_reducible refine o_id 16 rfl ?_); refine x_call (hB := (by first | ((repeat' (first | exact .nil | refine .cons ?_ ?_ | exact .refl _ | exact bw_ints (by simp [fx]; first | done | rfl) (by first | (simp [fx]; done) | (simp [fx]; omega) | omega) | exact bw_list (by simp [fx]; first | done | rfl) (by first | (simp [fx]; done) | (simp [fx]; omega) | omega) (by first | (simp; done) | fail) | exact bw_agg1 (bw_prog (p := p) (n := .c (.s 3) 0 0) ⟨by simp [ho1], fun j r hj => by simp [ho2 j r hj], fun j r hj => by simp [ho3 j r hj]⟩ rfl))); done) | fail)) (hF := validProgram_fn _ p hs) (h := ?_))
         | (with_reducible refine x_q (h := ?_))
         | (with_reducible refine gx_s (fun ht => ?_) (fun ht => ?_))
         | refine x_condt (h1 := ?_) | refine x_condf (h1 := ?_)
         | (refine wSc (id := 10) qsRc0 mixed fun K hK => ?_)
         | ((with_reducible refine a_end hK ?_); clear hK K)
         | ((with_reducible refine a_id ?_); first | refine xa_q (h := ?_) | refine xa_qt (h := ?_) | refine xa_qf (h := ?_) | refine xa_qu (h := ?_))
         | ((with_reducible refine a_id ?_); refine xa_gq (h1 := fun ht => ?_) (h2 := fun ht => ?_))
         | refine a_l rfl ?_ | refine a_l2 ?_ ?_ | (with_reducible refine And.intro ?_ ?_) | exact st_nil | refine xa_st (h2 := ?_)
         | fail)
        all_goals try clear fx
        refine e_ret [(.c (.s 3) 0 0, root)] (.one rfl) (by simp [h2]; rfl) ⟨p, q, by simp, ⟨?_, fun j r hj => ?_, fun j r hj => ?_⟩, ⟨hg, by omega⟩, by simp [hU]⟩
        · simp [ho1, hr0, pRows_tr (n := .c (.s 3) 0 0) (m := root) (f := finf (Nm.under (.u 1 0 0)) [(.c (.s 3) 0 0, root)]) (p := p) (by simp [hr0])]
        · simp [ho2 j r hj, hr0]
        · simp [ho3 j r hj, hr0]
end Go.Proofs.YtmaoicgfcngciaaDoor
end
