/-
  Own texts, joined by mkclaim.py: Gv, Gw, Rb.
-/
import Derived.Test.YtmpbjmihjelhgaaDoorM15
import Derived.Test.YtmpbjmihjelhgaaDoorM10
import Derived.Test.YtmpbjmihjelhgaaDoorM11
set_option linter.unusedSimpArgs false
set_option linter.unusedVariables false

section
/-
  The generator's blocks: what they are.
-/
set_option maxRecDepth 100000
set_option maxHeartbeats 1000000
set_option linter.unusedSimpArgs false
namespace Go.Proofs.YtmpbjmihjelhgaaDoor
open Go Go.Hm Go.Proofs

/-- a block that is the function's own -/
def BlkPost (bs : List Int) (Q : Blk → Nat → Prop) : Nm → AV → (Nm → Option AO) → Prop := fun r z H' => ∃ (k : Blk) (pos' : Nat), z = .agg [iv k.kind, iv k.parent, .hs (.c r 0 2) 1 0 k.params.length, .hs (.c r 0 3) 4 0 k.body.length] ∧
  H' (.c r 0 2) = some (.row 1 (irows k.params)) ∧ H' (.c r 0 3) = some (.row 4 (srows k.body)) ∧ Q k pos' ∧ H' (.u 1 0 0) = some (rdO bs pos')

theorem someBlock_fn (gl) (H : Nm → Option AO) (bs : List Int) (pos : Nat) (kind parent : Int) (hb : BytesOk bs) (hpos : pos ≤ 800000) (hH : H (.u 1 0 0) = some (rdO bs pos)) (hV : H (.u 2 0 0) = none) :
    FnE Tryd.prog gl 143 (Nm.under (.u 1 0 0)) [.pt (.u 1 0 0) 0, iv kind, iv parent] H (BlkPost bs (fun k pos' => k.kind = kind ∧ k.parent = parent ∧ k.params.length ≤ 1 ∧ k.body.length ≤ 6 ∧ pos' ≤ pos + 60)) noE := by
  refine FnE.of_sem Tryd.func143 rfl (by kernel_rfl) (rs := [.cell 6 52]) rfl Tryd.ntmps143 (Nat.le_of_ble_eq_true rfl) (fun _ => under_usroot rfl) fun C w g root hroot => ?_
  have hr0 := hroot root (Nm.under_self _)
  rcases (by cases hk : (kind == 1) <;> simp : (kind == 1) = false ∨ (kind == 1) = true) with hk1 | hk1
  case' inl =>
    all_goals have fx :=  hk1
    repeat' (first
     | refine w_seq ?_ | refine w_skip ?_ | refine w_reg fun K hK => ?_
     | ((with_reducible refine s_end hK ?_); clear hK K)
     | (with_reducible first | refine then_normal ?_)
     | (with_reducible refine s_none ?_)
     | ((with_reducible refine g_id ?_); refine x_guard (h := ?_))
     | (with_reducible first | refine x_tf (h := ?_) | refine x_alloc (h := ?_) | refine x_store (h := ?_) | refine x_build (h := ?_))
     | (with_reducible refine x_q (h := ?_))
     | refine x_condf (h1 := ?_)
     | fail)
    all_goals try clear fx
    refine o_abs (fun st => ∃ (ps : List Int) (q : Nat), ps.length ≤ 1 ∧ q ≤ pos + 2 ∧ st.tm 0 = .pt (.u 1 0 0) 0 ∧ st.hp (.u 1 0 0) = some (rdO bs q) ∧ st.tm 1 = iv kind ∧ st.tm 6 = .pt (.s 6) 0 ∧ st.hp (.s 6) = some (.row 4 [[iv 0, iv 0, .hs (.c (.s 6) 0 2) 1 0 0, .hs (.c (.s 6) 0 3) 4 0 0]]) ∧ st.hp (.c (.s 6) 0 2) = some (.row 1 []) ∧ st.hp (.c (.s 6) 0 3) = some (.row 4 []) ∧
    st.tm 7 = .pt (.s 7) 0 ∧ st.hp (.s 7) = some (.row 4 [[iv kind, iv parent, .hs (.c (.s 7) 0 2) 1 0 ps.length, .hs (.c (.s 7) 0 3) 4 0 ([] : List Stm).length]]) ∧ st.hp (.c (.s 7) 0 2) = some (.row 1 (irows ps)) ∧ st.hp (.c (.s 7) 0 3) = some (.row 4 (srows ([] : List Stm))) ∧ st.tm 23 = .pt (.u 1 0 0) 0 ∧ st.tm 24 = .hs (.s 24) 1 0 5 ∧ st.hp (.s 24) = some (.row 1 (irows [3, 2, 4, 1, 5]))) ⟨[], pos, by simp, by omega, by simp [hH], by simp [hH], by simp [hH], by simp [hH], by simp [hH], by simp [hH], by simp [hH], by simp [hH], by simp [hH], by simp [irows], by simp [hH], by simp, by simp, by simp [irows]⟩ ?_
  case' inr =>
    all_goals have fx :=  hk1
    repeat' (first
     | refine w_seq ?_ | refine w_reg fun K hK => ?_
     | ((with_reducible refine s_end hK ?_); clear hK K)
     | (with_reducible refine s_none ?_)
     | ((with_reducible refine g_id ?_); refine x_guard (h := ?_))
     | (with_reducible first | refine gx_tt ?_ | refine x_alloc (h := ?_) | refine x_store (h := ?_))
     | (with_reducible refine x_q (h := ?_))
     | fail)
    all_goals try clear fx
    refine x_rd (hs := by simp [hH]) (ha := by first | (simp; done) | (simp; rfl)) (hF := pick_rd _ _ bs pos 3 hb (by omega) (by omega) (by simp [hH])) (h := ?_)
    rintro x px ⟨hx, rfl⟩
    have hx0 : x = 0 ∨ ¬ x = 0 := by omega
    rcases hx0 with rfl | hx0
    case' inl =>
      all_goals have fx :=  hk1
      repeat' (first
       | refine w_reg fun K hK => ?_
       | ((with_reducible refine s_end hK ?_); clear hK K)
       | (with_reducible first | refine then_normal ?_)
       | (with_reducible refine s_none ?_)
       | ((with_reducible refine g_id ?_); refine x_guard (h := ?_))
       | (with_reducible first | refine gx_tt ?_)
       | (with_reducible refine x_q (h := ?_))
       | refine x_condt (h1 := ?_)
       | fail)
      all_goals try clear fx
      refine x_rd (hs := by simp) (ha := by first | (simp; done) | (simp; rfl)) (hF := pick_rd _ _ bs (pos + 1) 3 hb (by omega) (by omega) (by simp)) (h := ?_)
      rintro y py ⟨hy, rfl⟩
      all_goals have fx := fx0
      repeat' (first
       | refine w_seq ?_ | refine w_reg fun K hK => ?_
       | ((with_reducible refine s_end hK ?_); clear hK K)
       | (with_reducible refine s_none ?_)
       | (with_reducible first | refine x_store0 (h := ?_) | refine x_build (h := ?_))
       | (with_reducible refine x_q (h := ?_))
       | fail)
      all_goals try clear fx
      refine o_abs (fun st => ∃ (ps : List Int) (q : Nat), ps.length ≤ 1 ∧ q ≤ pos + 2 ∧ st.tm 0 = .pt (.u 1 0 0) 0 ∧ st.hp (.u 1 0 0) = some (rdO bs q) ∧ st.tm 1 = iv kind ∧ st.tm 6 = .pt (.s 6) 0 ∧ st.hp (.s 6) = some (.row 4 [[iv 0, iv 0, .hs (.c (.s 6) 0 2) 1 0 0, .hs (.c (.s 6) 0 3) 4 0 0]]) ∧ st.hp (.c (.s 6) 0 2) = some (.row 1 []) ∧ st.hp (.c (.s 6) 0 3) = some (.row 4 []) ∧
    st.tm 7 = .pt (.s 7) 0 ∧ st.hp (.s 7) = some (.row 4 [[iv kind, iv parent, .hs (.c (.s 7) 0 2) 1 0 ps.length, .hs (.c (.s 7) 0 3) 4 0 ([] : List Stm).length]]) ∧ st.hp (.c (.s 7) 0 2) = some (.row 1 (irows ps)) ∧ st.hp (.c (.s 7) 0 3) = some (.row 4 (srows ([] : List Stm))) ∧ st.tm 23 = .pt (.u 1 0 0) 0 ∧ st.tm 24 = .hs (.s 24) 1 0 5 ∧ st.hp (.s 24) = some (.row 1 (irows [3, 2, 4, 1, 5]))) ⟨[(y : Int)], pos + 1 + 1, by simp, by omega, by simp, by simp, by simp, by simp, by simp, by simp, by simp, by simp, by simp, by simp [irows], by simp, by simp, by simp, by simp [irows]⟩ ?_
    case' inr =>
      all_goals have fx := And.intro hk1 <| hx0
      repeat' (first
       | refine w_seq ?_ | refine w_skip ?_ | refine w_reg fun K hK => ?_
       | ((with_reducible refine s_end hK ?_); clear hK K)
       | (with_reducible first | refine then_normal ?_)
       | (with_reducible refine s_none ?_)
       | ((with_reducible refine g_id ?_); refine x_guard (h := ?_))
       | (with_reducible first | refine gx_tt ?_ | refine x_build (h := ?_))
       | (with_reducible refine x_q (h := ?_))
       | refine x_condf (h1 := ?_)
       | fail)
      all_goals try clear fx
      refine o_abs (fun st => ∃ (ps : List Int) (q : Nat), ps.length ≤ 1 ∧ q ≤ pos + 2 ∧ st.tm 0 = .pt (.u 1 0 0) 0 ∧ st.hp (.u 1 0 0) = some (rdO bs q) ∧ st.tm 1 = iv kind ∧ st.tm 6 = .pt (.s 6) 0 ∧ st.hp (.s 6) = some (.row 4 [[iv 0, iv 0, .hs (.c (.s 6) 0 2) 1 0 0, .hs (.c (.s 6) 0 3) 4 0 0]]) ∧ st.hp (.c (.s 6) 0 2) = some (.row 1 []) ∧ st.hp (.c (.s 6) 0 3) = some (.row 4 []) ∧
    st.tm 7 = .pt (.s 7) 0 ∧ st.hp (.s 7) = some (.row 4 [[iv kind, iv parent, .hs (.c (.s 7) 0 2) 1 0 ps.length, .hs (.c (.s 7) 0 3) 4 0 ([] : List Stm).length]]) ∧ st.hp (.c (.s 7) 0 2) = some (.row 1 (irows ps)) ∧ st.hp (.c (.s 7) 0 3) = some (.row 4 (srows ([] : List Stm))) ∧ st.tm 23 = .pt (.u 1 0 0) 0 ∧ st.tm 24 = .hs (.s 24) 1 0 5 ∧ st.hp (.s 24) = some (.row 1 (irows [3, 2, 4, 1, 5]))) ⟨[], pos + 1, by simp, by omega, by simp, by simp, by simp, by simp, by simp, by simp, by simp, by simp, by simp, by simp [irows], by simp, by simp, by simp, by simp [irows]⟩ ?_
  all_goals
    rintro st ⟨ps, q, hps, hq, h0, hU, h1, h6, hp6, hp62, hp63, h7, hp7, hp72, hp73, h23, h24, hp24⟩
    refine x_one (oneOk _) 24 [3, 2, 4, 1, 5] (bs := bs) (pos := q) hb (by omega) (hV := hV) (h0 := h23) (h1 := by simp [h24]) (hH := hU) (hL := by simp [hp24]) (h := ?_)
    intro v hv
    have hvr : 1 ≤ v ∧ v ≤ 5 := by simp at hv; omega
    obtain ⟨V, rfl⟩ : ∃ V : Nat, v = V := ⟨v.toNat, by omega⟩
    all_goals have fx := fx0
    repeat' (first
     | refine w_block ?_
     | ((with_reducible refine s_end hK ?_); clear hK K)
     | (with_reducible refine s_none ?_)
     | (with_reducible first | refine x_assign (h := ?_))
     | fail)
    all_goals try clear fx
    refine w_loop (fun n st => ∃ (L : List Stm) (q : Nat), n + L.length = V ∧ q + 8 * n ≤ pos + 50 ∧ st.tm 0 = .pt (.u 1 0 0) 0 ∧ st.hp (.u 1 0 0) = some (rdO bs q) ∧ st.tm 1 = iv kind ∧ st.tm 6 = .pt (.s 6) 0 ∧ st.hp (.s 6) = some (.row 4 [[iv 0, iv 0, .hs (.c (.s 6) 0 2) 1 0 0, .hs (.c (.s 6) 0 3) 4 0 0]]) ∧ st.hp (.c (.s 6) 0 2) = some (.row 1 []) ∧ st.hp (.c (.s 6) 0 3) = some (.row 4 []) ∧
    st.tm 7 = .pt (.s 7) 0 ∧ st.hp (.s 7) = some (.row 4 [[iv kind, iv parent, .hs (.c (.s 7) 0 2) 1 0 ps.length, .hs (.c (.s 7) 0 3) 4 0 L.length]]) ∧ st.hp (.c (.s 7) 0 2) = some (.row 1 (irows ps)) ∧ st.hp (.c (.s 7) 0 3) = some (.row 4 (srows L)) ∧ st.tm 8 = iv n) V ?_ ?_
    · exact ⟨[], q + 1, by simp, by omega, by simp [h0], by simp, by simp [h1], by simp [h6], by simp [hp6], by simp [hp62], by simp [hp63], by simp [h7], by simp [hp7], by simp [hp72], by simp [hp73], by simp⟩
    clear h0 hU h1 h6 hp6 hp62 hp63 h7 hp7 hp72 hp73 h23 h24 hp24
    rintro n st - - ⟨L, q, hL, hq, h0, hU, h1, h6, hp6, hp62, hp63, h7, hp7, hp72, hp73, h8⟩
    all_goals have fx :=  h8
    repeat' (first
     | refine w_seq ?_ | refine w_reg fun K hK => ?_
     | ((with_reducible refine s_end hK ?_); clear hK K)
     | (with_reducible first | refine then_normal ?_)
     | (with_reducible refine s_none ?_)
     | (with_reducible refine x_q (h := ?_))
     | fail)
    all_goals try clear fx
    rcases Nat.eq_zero_or_pos n with rfl | hn0
    · have hL5 : L.length ≤ 5 := by omega
      cases hkk : (kind == 1)
      · skip
        all_goals have fx := And.intro h0 <| And.intro h1 <| And.intro h6 <| And.intro hp6 <| And.intro h7 <| And.intro hp7 <| hkk
        repeat' (first
         | refine w_seq ?_ | refine w_skip ?_ | refine w_reg fun K hK => ?_
         | ((with_reducible refine s_end hK ?_); clear hK K)
         | (with_reducible first | refine then_normal ?_)
         | refine w_exit ?_
         | refine w_ret ?_
         | (with_reducible refine s_none ?_)
         | ((with_reducible refine g_id ?_); refine x_guard (h := ?_))
         | (with_reducible first | refine x_tf (h := ?_) | refine x_store0 (h := ?_))
         | (with_reducible refine x_q (h := ?_))
         | refine x_condf (h1 := ?_)
         | fail)
        all_goals try clear fx
        exact e_ret [(.s 7, root)] (.one rfl) (by simp [h6]; rfl) ⟨⟨kind, parent, ps, L⟩, q, by simp, by simp [hp72, hr0], by simp [hp73, hr0], ⟨rfl, rfl, hps, by simp; omega, by omega⟩, by simp [hU]⟩
      · skip
        all_goals have fx := And.intro h0 <| And.intro h1 <| And.intro h6 <| And.intro hp6 <| And.intro h7 <| And.intro hp7 <| hkk
        repeat' (first
         | refine w_seq ?_ | refine w_reg fun K hK => ?_
         | refine w_exit ?_
         | (with_reducible refine s_none ?_)
         | ((with_reducible refine g_id ?_); refine x_guard (h := ?_))
         | (with_reducible first | refine gx_tt ?_)
         | (with_reducible refine x_q (h := ?_))
         | refine x_condf (h1 := ?_)
         | fail)
        all_goals try clear fx
        refine x_rd (hs := by simp [hU]) (ha := by first | (simp [h0]; done) | (simp [h0]; rfl)) (hF := pick_rd _ _ bs q 2 hb (by omega) (by omega) (by simp [hU])) (h := ?_)
        rintro x px ⟨hx, rfl⟩
        have hx0 : x = 0 ∨ ¬ x = 0 := by omega
        rcases hx0 with rfl | hx0
        · skip
          all_goals have fx := And.intro h0 <| And.intro h1 <| And.intro h6 <| And.intro hp6 <| And.intro h7 <| And.intro hp7 <| And.intro hp73 <| hkk
          repeat' (first
           | ((with_reducible refine s_end hK ?_); clear hK K)
           | (with_reducible first | refine then_normal ?_ | refine s_nil ?_)
           | (with_reducible refine s_none ?_)
           | ((with_reducible refine g_id ?_); refine x_guard (h := ?_))
           | (with_reducible first | refine gx_tt ?_ | refine x_build (h := ?_))
           | (with_reducible refine x_q (h := ?_))
           | refine x_condt (h1 := ?_)
           | (refine w_sch (id := 9) (.q 0 <| .q 1 <| .q 2 <| .l 3 [2, 1, 0] <| .l 4 [1, 0] <| .q 5 <| .l 6 [1, 0] <| .l 7 [0] <| .q 8 <| .l 9 [] <| .done) mixed (by kernel_rfl) (by kernel_rfl) fun K hK => ?_)
           | ((with_reducible refine a_id ?_); first | refine xa_q (h := ?_))
           | refine a_l rfl ?_ | (with_reducible refine And.intro ?_ ?_) | exact st_nil | refine xa_st (h2 := ?_)
           | fail)
          all_goals try clear fx
          refine x_one (oneOk _) 48 [0, 1, 4, 5] (bs := bs) (pos := q + 1) hb (by omega) (hV := hV) (h0 := by simp [h0]) (h1 := by simp) (hH := by simp) (hL := by simp [irows]) (h := ?_)
          intro v2 hv2
          all_goals have fx := And.intro h0 <| And.intro h1 <| And.intro h6 <| And.intro hp6 <| And.intro h7 <| And.intro hp7 <| And.intro hp73 <| hkk
          repeat' (first
           | refine w_seq ?_ | refine w_reg fun K hK => ?_
           | ((with_reducible refine s_end hK ?_); clear hK K)
           | (with_reducible first | refine then_normal ?_ | refine s_nil ?_)
           | refine w_ret ?_
           | (with_reducible refine s_none ?_)
           | (with_reducible first | refine x_store0 (h := ?_) | refine x_append (T := 50) (h := ?_) | refine x_build (h := ?_))
           | (with_reducible refine x_q (h := ?_))
           | ((with_reducible refine a_end hK ?_); clear hK K)
           | ((with_reducible refine a_id ?_); first | refine xa_q (h := ?_))
           | refine a_l rfl ?_ | (with_reducible refine And.intro ?_ ?_) | exact st_nil | refine xa_st (h2 := ?_)
           | fail)
          all_goals try clear fx
          exact e_ret [(.s 7, root)] (.one rfl) (by simp [h6]; rfl) ⟨⟨kind, parent, ps, L ++ [⟨8, 0, v2, 0⟩]⟩, q + 1 + 1, by simp, by simp [hp72, hr0], by show _ = some (AO.row 4 (srows (L ++ [⟨8, 0, v2, 0⟩]))); rw [← srows_app1]; simp [hp73, hr0], ⟨rfl, rfl, hps, by simp; omega, by omega⟩, by simp [hU]⟩
        · skip
          all_goals have fx := And.intro h0 <| And.intro h1 <| And.intro h6 <| And.intro hp6 <| And.intro h7 <| And.intro hp7 <| And.intro hp73 <| And.intro hkk <| hx0
          repeat' (first
           | refine w_seq ?_ | refine w_skip ?_ | refine w_reg fun K hK => ?_
           | ((with_reducible refine s_end hK ?_); clear hK K)
           | (with_reducible first | refine then_normal ?_)
           | refine w_ret ?_
           | (with_reducible refine s_none ?_)
           | ((with_reducible refine g_id ?_); refine x_guard (h := ?_))
           | (with_reducible first | refine gx_tt ?_ | refine x_store0 (h := ?_))
           | (with_reducible refine x_q (h := ?_))
           | refine x_condf (h1 := ?_)
           | fail)
          all_goals try clear fx
          exact e_ret [(.s 7, root)] (.one rfl) (by simp [h6]; rfl) ⟨⟨kind, parent, ps, L⟩, q + 1, by simp, by simp [hp72, hr0], by simp [hp73, hr0], ⟨rfl, rfl, hps, by simp; omega, by omega⟩, by simp [hU]⟩
    · have hL5 : L.length ≤ 4 := by omega
      all_goals have fx := And.intro h0 <| And.intro h1 <| And.intro h7 <| And.intro hp7 <| And.intro hp73 <| hn0
      repeat' (first
       | refine w_seq ?_ | refine w_block ?_ | refine w_skip ?_
       | (with_reducible refine s_none ?_)
       | refine x_condt (h1 := ?_)
       | (refine w_sch (id := 7) (.q 0 <| .q 1 <| .q 2 <| .q 3 <| .l 4 [1, 0] <| .l 5 [1, 0] <| .l 6 [0] <| .q 7 <| .l 8 [] <| .done) mixed (by kernel_rfl) (by kernel_rfl) fun K hK => ?_)
       | ((with_reducible refine a_id ?_); first | refine xa_q (h := ?_))
       | refine a_l rfl ?_
       | fail)
      all_goals try clear fx
      refine x_rd (hs := by simp [hU]) (ha := by first | (simp [h0, h1]; done) | (simp [h0, h1]; rfl)) (hF := someStmt_fn _ _ bs q kind hb (by omega) (by simp [hU]) (by simp)) (h := ?_)
      rintro s p2 ⟨hp2a, hp2b⟩
      all_goals have fx := And.intro h0 <| And.intro h1 <| And.intro h7 <| And.intro hp7 <| And.intro hp73 <| And.intro h8 <| hn0
      repeat' (first
       | refine w_reg fun K hK => ?_
       | ((with_reducible refine s_end hK ?_); clear hK K)
       | (with_reducible first | refine then_normal ?_ | refine s_nil ?_)
       | (with_reducible refine s_none ?_)
       | (with_reducible first | refine x_assign (h := ?_) | refine x_store0 (h := ?_) | refine x_append (T := 50) (h := ?_) | refine x_build (h := ?_))
       | (with_reducible refine x_q (h := ?_))
       | ((with_reducible refine a_end hK ?_); clear hK K)
       | ((with_reducible refine a_id ?_); first | refine xa_q (h := ?_))
       | refine a_l rfl ?_ | (with_reducible refine And.intro ?_ ?_) | exact st_nil | refine xa_st (h2 := ?_)
       | fail)
      all_goals try clear fx
      refine ⟨n - 1, by omega, L ++ [s], p2, by simp; omega, by omega, by simp [h0], by simp, by simp [h1], by simp [h6], by simp [hp6], by simp [hp62], by simp [hp63], by simp [h7], by simp [hp7], by simp [hp72], by rw [← srows_app1]; simp [hp73], ?_⟩
      simp
      rw [wrp (by omega) (by omega)]
      omega
end Go.Proofs.YtmpbjmihjelhgaaDoor
end

section
/-
  The generator's statements that make a block: what they are.
-/
set_option maxRecDepth 100000
set_option maxHeartbeats 1000000
set_option linter.unusedSimpArgs false
namespace Go.Proofs.YtmpbjmihjelhgaaDoor
open Go Go.Hm Go.Proofs

/-- a list of statements that is the function's own -/
def StmPost (bs : List Int) (Q : List Stm → Nat → Prop) : Nm → AV → (Nm → Option AO) → Prop := fun r z H' => ∃ (L : List Stm) (pos' : Nat), z = .hs r 4 0 L.length ∧ H' r = some (.row 4 (srows L)) ∧ Q L pos' ∧ H' (.u 1 0 0) = some (rdO bs pos')

theorem making_fn (gl) (H : Nm → Option AO) (bs : List Int) (pos : Nat) (kind parent b : Int) (np nb : Nat) (hb : BytesOk bs) (hpos : pos ≤ 800000) (hH : H (.u 1 0 0) = some (rdO bs pos)) (hV : H (.u 2 0 0) = none) :
    FnE Tryd.prog gl 144 (Nm.under (.u 1 0 0)) [.pt (.u 1 0 0) 0, .agg [iv kind, iv parent, .hs (.u 4 0 0) 1 0 np, .hs (.u 5 0 0) 4 0 nb], iv b] H (StmPost bs (fun L pos' => L.length ≤ 2 ∧ pos' ≤ pos + 5)) noE := by
  refine FnE.of_sem Tryd.func144 rfl (by kernel_rfl) (rs := [.tmp 6]) rfl Tryd.ntmps144 (Nat.le_of_ble_eq_true rfl) (fun _ => under_usroot rfl) fun C w g root hroot => ?_
  have hr0 := hroot root (Nm.under_self _)
  cases hk2 : (kind == 2)
  rotate_left
  · skip
    all_goals have fx :=  hk2
    repeat' (first
     | refine w_seq ?_ | refine w_reg fun K hK => ?_
     | ((with_reducible refine s_end hK ?_); clear hK K)
     | (with_reducible first | refine then_normal ?_ | refine then_ret ?_)
     | refine w_ret ?_
     | (with_reducible first | refine s_none ?_ | refine x_assign (h := ?_) | refine x_box (h := ?_) | refine x_build (h := ?_))
     | (with_reducible refine x_q (h := ?_))
     | refine x_condt (h1 := ?_)
     | fail)
    all_goals try clear fx
    exact e_ret [(.s 6, root)] (.one rfl) (by simp; rfl) ⟨[⟨4, 6, b, 0⟩], pos, by simp, by simp [srows, hr0], ⟨by simp, by omega⟩, by simp [hH]⟩
  all_goals have fx :=  hk2
  repeat' (first
   | refine w_seq ?_ | refine w_skip ?_ | refine w_reg fun K hK => ?_
   | ((with_reducible refine s_end hK ?_); clear hK K)
   | (with_reducible first | refine then_normal ?_)
   | (with_reducible first | refine s_none ?_ | refine x_assign (h := ?_) | refine x_box (h := ?_) | refine x_build (h := ?_))
   | (with_reducible refine x_q (h := ?_))
   | refine x_condf (h1 := ?_)
   | fail)
  all_goals try clear fx
  refine x_one (oneOk _) 17 [4, 5] (bs := bs) (pos := pos) hb (by omega) (hV := hV) (h0 := by simp) (h1 := by simp) (hH := by simp [hH]) (hL := by simp [irows]) (h := ?_)
  intro f hf
  all_goals have fx := fx0
  repeat' (first
   | refine w_seq ?_ | refine w_reg fun K hK => ?_
   | ((with_reducible refine s_end hK ?_); clear hK K)
   | (with_reducible first | refine s_none ?_ | refine x_assign (h := ?_) | refine x_build (h := ?_))
   | (with_reducible refine x_q (h := ?_))
   | fail)
  all_goals try clear fx
  refine x_rd (hs := by simp) (ha := by first | (simp; done) | (simp; rfl)) (hF := pick_rd _ _ bs (pos + 1) 3 hb (by omega) (by omega) (by simp)) (h := ?_)
  rintro x px ⟨hx, rfl⟩
  have hx0 : x = 0 ∨ ¬ x = 0 := by omega
  rcases hx0 with rfl | hx0
  · skip
    all_goals have fx := fx0
    repeat' (first
     | refine w_seq ?_ | refine w_skip ?_ | refine w_reg fun K hK => ?_
     | ((with_reducible refine s_end hK ?_); clear hK K)
     | (with_reducible first | refine then_normal ?_)
     | refine w_ret ?_
     | (with_reducible first | refine s_none ?_ | refine x_assign (h := ?_))
     | (with_reducible refine x_q (h := ?_))
     | refine x_condf (h1 := ?_)
     | fail)
    all_goals try clear fx
    exact e_ret [(.s 6, root)] (.one rfl) (by simp; rfl) ⟨[⟨3, f, b, 0⟩], pos + 1 + 1, by simp, by simp [srows, hr0], ⟨by simp, by omega⟩, by simp⟩
  have hxp : 0 < x := by omega
  cases hn1 : ((np : Int) == 1)
  · skip
    all_goals have fx := And.intro hxp <| hn1
    repeat' (first
     | refine w_seq ?_ | refine w_skip ?_ | refine w_reg fun K hK => ?_
     | ((with_reducible refine s_end hK ?_); clear hK K)
     | (with_reducible first | refine then_normal ?_)
     | (with_reducible first | refine s_none ?_ | refine x_assign (h := ?_) | refine x_build (h := ?_))
     | (with_reducible refine x_q (h := ?_))
     | refine x_condt (h1 := ?_) | refine x_condf (h1 := ?_)
     | fail)
    all_goals try clear fx
    refine x_one (oneOk _) 34 [0, 1, 5] (bs := bs) (pos := pos + 1 + 1) hb (by omega) (hV := hV) (h0 := by simp) (h1 := by simp) (hH := by simp) (hL := by simp [irows]) (h := ?_)
    intro v hv
    all_goals have fx := fx0
    repeat' (first
     | refine w_seq ?_ | refine w_reg fun K hK => ?_
     | ((with_reducible refine s_end hK ?_); clear hK K)
     | (with_reducible first | refine then_normal ?_)
     | refine w_ret ?_
     | (with_reducible first | refine s_none ?_ | refine x_assign (h := ?_) | refine x_append (T := 50) (h := ?_) | refine x_build (h := ?_))
     | (with_reducible refine x_q (h := ?_))
     | fail)
    all_goals try clear fx
    exact e_ret [(.s 6, root)] (.one rfl) (by simp; rfl) ⟨[⟨3, f, b, 0⟩, ⟨5, v, f, -1⟩], pos + 1 + 1 + 1, by simp, by simp [srows, hr0], ⟨by simp, by omega⟩, by simp⟩
  · skip
    all_goals have fx := And.intro hxp <| hn1
    repeat' (first
     | refine w_seq ?_ | refine w_reg fun K hK => ?_
     | ((with_reducible refine s_end hK ?_); clear hK K)
     | (with_reducible first | refine then_normal ?_)
     | (with_reducible first | refine s_none ?_ | refine x_assign (h := ?_))
     | (with_reducible refine x_q (h := ?_))
     | refine x_condt (h1 := ?_)
     | fail)
    all_goals try clear fx
    refine x_rd (hs := by simp) (ha := by first | (simp; done) | (simp; rfl)) (hF := aName_rd _ _ bs (pos + 1 + 1) hb (by omega) (by simp) (by simp)) (h := ?_)
    rintro u pu rfl
    all_goals have fx := fx0
    repeat' (first
     | refine w_reg fun K hK => ?_
     | ((with_reducible refine s_end hK ?_); clear hK K)
     | (with_reducible first | refine s_none ?_ | refine x_assign (h := ?_) | refine x_build (h := ?_))
     | (with_reducible refine x_q (h := ?_))
     | fail)
    all_goals try clear fx
    refine x_one (oneOk _) 34 [0, 1, 5] (bs := bs) (pos := pos + 1 + 1 + 1) hb (by omega) (hV := hV) (h0 := by simp) (h1 := by simp) (hH := by simp) (hL := by simp [irows]) (h := ?_)
    intro v hv
    all_goals have fx := fx0
    repeat' (first
     | refine w_seq ?_ | refine w_reg fun K hK => ?_
     | ((with_reducible refine s_end hK ?_); clear hK K)
     | (with_reducible first | refine then_normal ?_)
     | refine w_ret ?_
     | (with_reducible first | refine s_none ?_ | refine x_assign (h := ?_) | refine x_append (T := 50) (h := ?_) | refine x_build (h := ?_))
     | (with_reducible refine x_q (h := ?_))
     | fail)
    all_goals try clear fx
    exact e_ret [(.s 6, root)] (.one rfl) (by simp; rfl) ⟨[⟨3, f, b, 0⟩, ⟨5, v, f, u⟩], pos + 1 + 1 + 1 + 1, by simp, by simp [srows, hr0], ⟨by simp, by omega⟩, by simp⟩
end Go.Proofs.YtmpbjmihjelhgaaDoor
end

section
/-
  The generator's shaped programs: what they are.
-/
set_option maxRecDepth 100000
set_option maxHeartbeats 2000000
set_option linter.unusedSimpArgs false
namespace Go.Proofs.YtmpbjmihjelhgaaDoor
open Go Go.Hm Go.Proofs
attribute [local simp] slcAV rowsIn

theorem ins_norm {l L2 : List Stm} {A : Nat} (h : A ≤ l.length) : List.take (A + L2.length) (List.take A (List.take A l) ++ L2) ++ List.take (l.length - A) (List.take (l.length - A) (List.drop A l)) = List.take A l ++ (L2 ++ List.drop A l) := by
  have e1 : List.take A (List.take A l) = List.take A l := by rw [List.take_take, Nat.min_self]
  have e2 : List.take (A + L2.length) (List.take A l ++ L2) = List.take A l ++ L2 := List.take_of_length_le (by simp; omega)
  have e3 : List.take (l.length - A) (List.drop A l) = List.drop A l := List.take_of_length_le (by simp)
  rw [e1, e2, e3, e3, List.append_assoc]

theorem shapedProgram_fn (gl) (H : Nm → Option AO) (bs : List Int) (pos : Nat) (hb : BytesOk bs) (hpos : pos ≤ 700000) (hH : H (.u 1 0 0) = some (rdO bs pos)) (hV : H (.u 2 0 0) = none) (hV4 : H (.u 4 0 0) = none) (hV5 : H (.u 5 0 0) = none) :
    FnE Tryd.prog gl 118 (Nm.under (.u 1 0 0)) [.pt (.u 1 0 0) 0] H (PrgPost bs (fun p pos' => GenP p ∧ pos' ≤ pos + 1000)) noE := by
  refine FnE.of_sem Tryd.func118 rfl (by kernel_rfl) (rs := [.cell 2 25]) rfl Tryd.ntmps118 (Nat.le_of_ble_eq_true rfl) (fun _ => under_usroot rfl) fun C w g root hroot => ?_
  have hr0 := hroot root (Nm.under_self _)
  all_goals have fx := fx0
  repeat' (first
   | refine w_seq ?_ | refine w_reg fun K hK => ?_
   | ((with_reducible refine s_end hK ?_); clear hK K)
   | (with_reducible refine s_none ?_)
   | (with_reducible first | refine x_alloc (h := ?_))
   | (with_reducible refine x_q (h := ?_))
   | fail)
  all_goals try clear fx
  refine x_rdo (bs := bs) (hs := by simp [hH]) (ha := by first | (simp; done) | (simp; rfl)) (hF := someBlock_fn _ _ bs pos 0 (-1) hb (by omega) (by simp [hH]) (by simp)) (h := ?_)
  rintro z H1 ⟨k0, p0, rfl, hk2, hk3, ⟨hkk, hkpar, hkp, hkb, hp0⟩, hU⟩
  refine ⟨p0, hU, ?_⟩
  all_goals have fx := fx0
  repeat' (first
   | refine w_seq ?_ | refine w_reg fun K hK => ?_
   | ((with_reducible refine s_end hK ?_); clear hK K)
   | (with_reducible refine s_none ?_)
   | (with_reducible first | refine x_alloc (h := ?_) | refine x_store0 (h := ?_) | refine x_build (h := ?_))
   | (with_reducible refine x_q (h := ?_))
   | fail)
  all_goals try clear fx
  refine o_mv (.c (.s 11) 0 2) (.c (.c (.s 3) 0 0) 0 2) (.inl rfl) (.inl rfl) ?_
  refine o_mv (.c (.s 11) 0 3) (.c (.c (.s 3) 0 0) 0 3) (.inl rfl) (.inl rfl) ?_
  refine o_abs (fun st => st.tm 0 = .pt (.u 1 0 0) 0 ∧ st.hp (.u 1 0 0) = some (rdO bs p0) ∧ st.tm 2 = .pt (.s 2) 0 ∧ st.hp (.s 2) = some (.row 1 [[.hs (.c (.s 2) 0 0) 4 0 0]]) ∧ st.hp (.c (.s 2) 0 0) = some (.row 4 []) ∧ st.tm 3 = .pt (.s 3) 0 ∧ st.hp (.s 3) = some (.row 1 [[.hs (.c (.s 3) 0 0) 4 0 1]]) ∧ OwnP st.hp (.c (.s 3) 0 0) [k0] ∧
    st.tm 14 = .pt (.u 1 0 0) 0 ∧ st.tm 15 = .hs (.s 15) 1 0 6 ∧ st.hp (.s 15) = some (.row 1 (irows [3, 2, 4, 1, 5, 0]))) ⟨by simp, by simp, by simp, by simp, by simp, by simp, by simp, ⟨by simp [pRows], fun j k hk => ?_, fun j k hk => ?_⟩, by simp, by simp, by simp [irows]⟩ ?_
  · cases j with
    | zero => simp at hk; subst hk; simp [hk2]
    | succ j => simp at hk
  · cases j with
    | zero => simp at hk; subst hk; simp [hk3]
    | succ j => simp at hk
  clear hU hk2 hk3
  rintro st ⟨h0, hU, h2, hp2, hp2', h3, hp3, ⟨ho1, ho2, ho3⟩, h14, h15, hp15⟩
  refine x_one (oneOk _) 15 [3, 2, 4, 1, 5, 0] (bs := bs) (pos := p0) hb (by omega) (hV := hV) (h0 := h14) (h1 := by simp [h15]) (hH := hU) (hL := by simp [hp15]) (h := ?_)
  intro v hv
  have hvr : 0 ≤ v ∧ v ≤ 5 := by simp at hv; omega
  obtain ⟨V, rfl⟩ : ∃ V : Nat, v = V := ⟨v.toNat, by omega⟩
  all_goals have fx := fx0
  repeat' (first
   | refine w_block ?_
   | ((with_reducible refine s_end hK ?_); clear hK K)
   | (with_reducible refine s_none ?_)
   | (with_reducible first | refine x_assign (h := ?_))
   | fail)
  all_goals try clear fx
  refine w_loop (fun n st => ∃ (p : Prg) (q : Nat), n + p.length ≤ 6 ∧ GenP p ∧ q + 100 * n ≤ pos + 700 ∧ st.tm 0 = .pt (.u 1 0 0) 0 ∧ st.hp (.u 1 0 0) = some (rdO bs q) ∧ st.tm 2 = .pt (.s 2) 0 ∧ st.hp (.s 2) = some (.row 1 [[.hs (.c (.s 2) 0 0) 4 0 0]]) ∧ st.hp (.c (.s 2) 0 0) = some (.row 4 []) ∧ st.tm 3 = .pt (.s 3) 0 ∧ st.hp (.s 3) = some (.row 1 [[.hs (.c (.s 3) 0 0) 4 0 p.length]]) ∧ st.tm 4 = iv n ∧ OwnP st.hp (.c (.s 3) 0 0) p) V ?_ ?_
  · exact ⟨[k0], p0 + 1, by simp; omega, GenP.one hkpar (by omega) (by omega), by omega, by simp [h0], by simp, by simp [h2], by simp [hp2], by simp [hp2'], by simp [h3], by simp [hp3], by simp, ⟨by simp [ho1], fun j r hj => by simp [ho2 j r hj], fun j r hj => by simp [ho3 j r hj]⟩⟩
  clear h0 hU h2 hp2 hp2' h3 hp3 ho1 ho2 ho3 h14 h15 hp15
  rintro n st - - ⟨p, q, hn, hg, hq, h0, hU, h2, hp2, hp2', h3, hp3, h4, ⟨ho1, ho2, ho3⟩⟩
  have hgl := hg.len
  rcases Nat.eq_zero_or_pos n with rfl | hn0
  · skip
    all_goals have fx := And.intro h4 <| And.intro h2 <| And.intro hp2 <| And.intro hp2' <| And.intro h3 <| hp3
    repeat' (first
     | refine w_seq ?_ | refine w_reg fun K hK => ?_
     | ((with_reducible refine s_end hK ?_); clear hK K)
     | (with_reducible first | refine then_normal ?_)
     | refine w_exit ?_
     | refine w_ret ?_
     | (with_reducible refine s_none ?_)
     | (with_reducible first | refine x_store0 (h := ?_))
     | (with_reducible refine x_q (h := ?_))
     | refine x_condf (h1 := ?_)
     | fail)
    all_goals try clear fx
    refine e_ret [(.c (.s 3) 0 0, root)] (.one rfl) (by simp [h2]; rfl) ⟨p, q, by simp, ⟨?_, fun j r hj => ?_, fun j r hj => ?_⟩, ⟨hg, by omega⟩, by simp [hU]⟩
    · simp [ho1, hr0, pRows_tr (n := .c (.s 3) 0 0) (m := root) (f := finf (Nm.under (.u 1 0 0)) [(.c (.s 3) 0 0, root)]) (p := p) (by simp [hr0])]
    · simp [ho2 j r hj, hr0]
    · simp [ho3 j r hj, hr0]
  have hl1 : 0 < p.length := by omega
  have hwl : IntKind.i64.wrap ((p.length : Int) - 1) = ((p.length - 1 : Nat) : Int) := by rw [wrp (by omega) (by omega)]; omega
  all_goals have fx := And.intro h0 <| And.intro h3 <| And.intro hp3 <| And.intro h4 <| And.intro hn0 <| hwl
  repeat' (first
   | refine w_seq ?_ | refine w_block ?_ | refine w_skip ?_ | refine w_reg fun K hK => ?_
   | ((with_reducible refine s_end hK ?_); clear hK K)
   | (with_reducible first | refine then_normal ?_)
   | (with_reducible refine s_none ?_)
   | (with_reducible refine x_q (h := ?_))
   | refine x_condt (h1 := ?_)
   | (refine w_sch (id := 5) (.q 0 <| .q 1 <| .q 2 <| .q 3 <| .q 4 <| .q 5 <| .q 6 <| .q 7 <| .q 8 <| .l 9 [7, 6, 4, 3, 2, 1, 0] <| .l 10 [7, 6, 3, 2, 1, 0] <| .l 11 [7, 6, 3, 2, 1] <| .l 12 [] <| .done) mixed (by kernel_rfl) (by kernel_rfl) fun K hK => ?_)
   | ((with_reducible refine a_id ?_); first | refine xa_q (h := ?_))
   | refine a_l rfl ?_
   | fail)
  all_goals try clear fx
  refine x_rd (hs := by simp [hU]) (ha := by first | (simp [h0]; done) | (simp [h0]; rfl)) (hF := pick_rd _ _ bs q p.length hb (by omega) (by omega) (by simp [hU])) (h := ?_)
  rintro x px ⟨hx, rfl⟩
  have hxl : x < p.length := by omega
  all_goals have fx := And.intro h0 <| And.intro h3 <| And.intro hp3 <| hwl
  repeat' (first
   | (with_reducible first | refine s_nil ?_)
   | (with_reducible refine s_none ?_)
   | (with_reducible first | refine x_build (h := ?_))
   | refine a_l rfl ?_ | (with_reducible refine And.intro ?_ ?_) | exact st_nil | refine xa_st (h2 := ?_)
   | fail)
  all_goals try clear fx
  refine x_one (oneOk _) 31 [((p.length - 1 : Nat) : Int), (x : Int)] (bs := bs) (pos := q + 1) hb (by omega) (hV := hV) (h0 := by simp [h0]) (h1 := by simp) (hH := by simp) (hL := by simp [irows]) (h := ?_)
  intro par hpar
  obtain ⟨par, rfl, hparl⟩ : ∃ r : Nat, par = r ∧ r < p.length := by
    simp at hpar
    rcases hpar with rfl | rfl
    · exact ⟨_, rfl, by omega⟩
    · exact ⟨_, rfl, hxl⟩
  clear hpar hx
  all_goals have fx := And.intro h0 <| And.intro h3 <| And.intro hp3 <| hwl
  repeat' (first
   | refine w_seq ?_ | refine w_reg fun K hK => ?_
   | (with_reducible first | refine s_nil ?_)
   | (with_reducible refine s_none ?_)
   | (with_reducible first | refine x_assign (h := ?_) | refine x_build (h := ?_))
   | (with_reducible refine x_q (h := ?_))
   | ((with_reducible refine a_end hK ?_); clear hK K)
   | refine a_l rfl ?_ | (with_reducible refine And.intro ?_ ?_) | exact st_nil | refine xa_st (h2 := ?_)
   | fail)
  all_goals try clear fx
  refine x_one (oneOk _) 35 [1, 1, 1, 2] (bs := bs) (pos := q + 1 + 1) hb (by omega) (hV := hV) (h0 := by simp [h0]) (h1 := by simp) (hH := by simp) (hL := by simp [irows]) (h := ?_)
  intro kd hkd
  all_goals have fx := And.intro h0 <| And.intro h3 <| And.intro hp3 <| hwl
  repeat' (first
   | (with_reducible refine s_none ?_)
   | (with_reducible refine x_q (h := ?_))
   | fail)
  all_goals try clear fx
  refine x_rdo (bs := bs) (hs := by simp) (ha := by first | (simp [h0]; done) | (simp [h0]; rfl)) (hF := someBlock_fn _ _ bs (q + 1 + 1 + 1) kd par hb (by omega) (by simp) (by simp)) (h := ?_)
  rintro z H1 ⟨k1, q1, rfl, hk2, hk3, ⟨hkk1, hkpar1, hkp1, hkb1, hq1⟩, hU1⟩
  refine ⟨q1, hU1, ?_⟩
  obtain ⟨kp, hkp'⟩ : ∃ k, p[par]? = some k := ⟨_, List.getElem?_eq_getElem hparl⟩
  obtain ⟨_, hkpE⟩ := List.getElem?_eq_some_iff.1 hkp'
  have hbb : kp.body.length ≤ 14 := hg.body kp (List.mem_of_getElem? hkp')
  have hwk : IntKind.i64.wrap ((kp.body.length : Int) + 1) = ((kp.body.length + 1 : Nat) : Int) := by rw [wrp (by omega) (by omega)]; omega
  all_goals have fx := And.intro h0 <| And.intro h3 <| And.intro hp3 <| And.intro ho1 <| And.intro hkp' <| And.intro hkpE <| And.intro hparl <| hwk
  repeat' (first
   | refine w_seq ?_ | refine w_reg fun K hK => ?_
   | ((with_reducible refine s_end hK ?_); clear hK K)
   | (with_reducible refine s_none ?_)
   | (with_reducible first | refine x_assign (h := ?_) | refine x_alloc (h := ?_) | refine x_store0 (h := ?_))
   | (with_reducible refine x_q (h := ?_))
   | fail)
  all_goals try clear fx
  refine o_abs (fun st => st.tm 0 = .pt (.u 1 0 0) 0 ∧ st.hp (.u 1 0 0) = some (rdO bs q1) ∧ st.tm 2 = .pt (.s 2) 0 ∧ st.hp (.s 2) = some (.row 1 [[.hs (.c (.s 2) 0 0) 4 0 0]]) ∧ st.hp (.c (.s 2) 0 0) = some (.row 4 []) ∧ st.tm 3 = .pt (.s 3) 0 ∧ st.hp (.s 3) = some (.row 1 [[.hs (.c (.s 3) 0 0) 4 0 p.length]]) ∧ st.tm 4 = iv n ∧ OwnP st.hp (.c (.s 3) 0 0) p ∧ st.tm 5 = iv par ∧ st.tm 6 = .pt (.s 6) 0 ∧ st.hp (.s 6) = some (.row 4 [[iv k1.kind, iv k1.parent, .hs (.c (.s 38) 0 2) 1 0 k1.params.length, .hs (.c (.s 38) 0 3) 4 0 k1.body.length]]) ∧ st.hp (.c (.s 38) 0 2) = some (.row 1 (irows k1.params)) ∧ st.hp (.c (.s 38) 0 3) = some (.row 4 (srows k1.body)) ∧
    st.tm 7 = .hs (.c (.c (.s 3) 0 0) par 3) 4 0 kp.body.length ∧ st.tm 45 = .pt (.u 1 0 0) 0 ∧ st.tm 48 = iv ((kp.body.length + 1 : Nat) : Int)) ⟨by simp [h0], by simp, by simp [h2], by simp [hp2], by simp [hp2'], by simp [h3], by simp [hp3], by simp [h4], ⟨by simp [ho1], fun j r hj => by simp [ho2 j r hj], fun j r hj => by simp [ho3 j r hj]⟩, by simp, by simp, by simp, by simp [hk2], by simp [hk3], by simp, by simp [h0], by simp⟩ ?_
  clear h0 hU h2 hp2 hp2' h3 hp3 h4 ho1 ho2 ho3 hU1 hk2 hk3
  rintro st ⟨h0, hU, h2, hp2, hp2', h3, hp3, h4, ⟨ho1, ho2, ho3⟩, h5, h6, hp6, hp62, hp63, h7, h45, h48⟩
  have hob := ho3 par kp hkp'
  refine x_rd (hs := by simp [hU]) (ha := by first | (simp [h45, h48]; done) | (simp [h45, h48]; rfl)) (hF := pick_rd _ _ bs q1 (kp.body.length + 1) hb (by omega) (by omega) (by simp [hU])) (h := ?_)
  rintro at0 px ⟨hx, rfl⟩
  have hat : at0 ≤ kp.body.length := by omega
  clear hx
  have hV4' : (ctx0 Tryd.prog C w g H Tryd.f118.ntmps gl).ext (.u 4 0 0) = false := by simp [ctx0, hV4]
  have hV5' : (ctx0 Tryd.prog C w g H Tryd.f118.ntmps gl).ext (.u 5 0 0) = false := by simp [ctx0, hV5]
  have hbr : at0 = 0 ∨ 0 < at0 := Nat.eq_zero_or_pos at0
  rcases hbr with rfl | hat0
  case' inl =>
    all_goals have fx := And.intro h0 <| And.intro h3 <| And.intro hp3 <| And.intro h5 <| And.intro h6 <| And.intro hp6 <| And.intro h7 <| hob
    repeat' (first
     | refine w_seq ?_ | refine w_skip ?_ | refine w_reg fun K hK => ?_
     | ((with_reducible refine s_end hK ?_); clear hK K)
     | (with_reducible first | refine then_normal ?_ | refine s_nil ?_)
     | (with_reducible refine s_none ?_)
     | ((with_reducible refine g_id ?_); refine x_guard (h := ?_))
     | (with_reducible first | refine x_tf (h := ?_) | refine x_assign (h := ?_) | refine x_append (T := 50) (h := ?_) | refine x_build (h := ?_))
     | (with_reducible refine x_q (h := ?_))
     | refine x_condf (h1 := ?_)
     | (refine w_sch (id := 12) (.q 1 <| .q 2 <| .q 3 <| .q 5 <| .q 6 <| .q 7 <| .q 8 <| .q 9 <| .q 12 <| .l 0 [12, 9, 8, 7, 6, 5, 3, 2, 1] <| .l 4 [12, 9, 8, 7, 6, 5, 2, 1] <| .l 10 [12, 8, 7, 2, 1] <| .l 11 [12, 8, 7, 2, 1] <| .l 13 [8, 7, 2, 1] <| .l 14 [] <| .done) mixed (by kernel_rfl) (by kernel_rfl) fun K hK => ?_)
     | ((with_reducible refine a_id ?_); first | refine xa_q (h := ?_))
     | refine a_l rfl ?_ | (with_reducible refine And.intro ?_ ?_) | exact st_nil | refine xa_st (h2 := ?_)
     | fail)
    all_goals try clear fx
    refine o_alias (.c (.s 38) 0 2) (.u 4 0 0) 74 hV4' ?_
    refine o_alias (.c (.s 38) 0 3) (.u 5 0 0) 74 hV5' ?_
    refine x_rdo (bs := bs) (hs := by simp [hU]) (ha := by first | (simp [h0]; done) | (simp [h0]; rfl)) (hF := making_fn _ _ bs (q1 + 1) k1.kind k1.parent p.length k1.params.length k1.body.length hb (by omega) (by simp [hU]) (by simp)) (h := ?_)
    rintro y H2 ⟨L2, q2, rfl, hL2, ⟨hL2l, hq2⟩, hU2⟩
    refine ⟨q2, hU2, ?_⟩
    all_goals have fx := And.intro h0 <| And.intro h3 <| And.intro hp3 <| And.intro h5 <| And.intro h6 <| And.intro hp6 <| And.intro h7 <| And.intro hob <| hL2
    repeat' (first
     | refine w_seq ?_ | refine w_reg fun K hK => ?_
     | ((with_reducible refine s_end hK ?_); clear hK K)
     | (with_reducible first | refine then_normal ?_ | refine s_nil ?_)
     | (with_reducible refine s_none ?_)
     | (with_reducible first | refine x_assign (h := ?_) | refine x_append (T := 50) (h := ?_))
     | (with_reducible refine x_q (h := ?_))
     | ((with_reducible refine a_end hK ?_); clear hK K)
     | refine a_l rfl ?_ | (with_reducible refine And.intro ?_ ?_) | exact st_nil | refine xa_st (h2 := ?_)
     | fail)
    all_goals try clear fx
    refine w_abs (fun st => ∃ (X : List Stm) (q2 : Nat), X.length ≤ 16 ∧ q2 ≤ q1 + 6 ∧ st.tm 0 = .pt (.u 1 0 0) 0 ∧ st.hp (.u 1 0 0) = some (rdO bs q2) ∧ st.tm 2 = .pt (.s 2) 0 ∧ st.hp (.s 2) = some (.row 1 [[.hs (.c (.s 2) 0 0) 4 0 0]]) ∧ st.hp (.c (.s 2) 0 0) = some (.row 4 []) ∧ st.tm 3 = .pt (.s 3) 0 ∧ st.hp (.s 3) = some (.row 1 [[.hs (.c (.s 3) 0 0) 4 0 p.length]]) ∧ st.tm 4 = iv n ∧ OwnP st.hp (.c (.s 3) 0 0) p ∧ st.tm 5 = iv par ∧ st.tm 6 = .pt (.s 6) 0 ∧ st.hp (.s 6) = some (.row 4 [[iv k1.kind, iv k1.parent, .hs (.c (.s 38) 0 2) 1 0 k1.params.length, .hs (.c (.s 38) 0 3) 4 0 k1.body.length]]) ∧ st.hp (.c (.s 38) 0 2) = some (.row 1 (irows k1.params)) ∧ st.hp (.c (.s 38) 0 3) = some (.row 4 (srows k1.body)) ∧
    st.tm 7 = .hs (.s 7) 4 0 X.length ∧ st.hp (.s 7) = some (.row 4 (srows X)) ∧ st.tm 84 = bv (decide (X.length ≤ 12))) ⟨(kp.body.take (0) ++ L2 ++ kp.body.drop (0)), q2, by simp; omega, by omega, by simp [h0], by simp, by simp [h2], by simp [hp2], by simp [hp2'], by simp [h3], by simp [hp3], by simp [h4], ⟨by simp [ho1], fun j r hj => by simp [ho2 j r hj], fun j r hj => by simp [ho3 j r hj]⟩, by simp [h5], by simp [h6], by simp [hp6], by simp [hp62], by simp [hp63], by simp; try omega, by first | (simp; done) | (simp; rw [ins_norm (by omega)]), by simp; try omega⟩ ?_
    clear hU2 hL2

  case' inr =>
    obtain ⟨s1, hs1⟩ : ∃ s1, kp.body[at0 - 1]? = some s1 := ⟨_, List.getElem?_eq_getElem (by omega)⟩
    obtain ⟨hs1l, hs1E⟩ := List.getElem?_eq_some_iff.1 hs1
    have hwa : IntKind.i64.wrap ((at0 : Int) - 1) = ((at0 - 1 : Nat) : Int) := by rw [wrp (by omega) (by omega)]; omega
    have hle1 : at0 - 1 ≤ kp.body.length := by omega
    rcases (by cases hk : (s1.kind == 8) <;> simp : (s1.kind == 8) = false ∨ (s1.kind == 8) = true) with hk8 | hk8
    case' inl =>
      all_goals have fx := And.intro h0 <| And.intro h3 <| And.intro hp3 <| And.intro h5 <| And.intro h6 <| And.intro hp6 <| And.intro h7 <| And.intro hob <| And.intro hat0 <| And.intro hs1 <| And.intro hs1E <| And.intro hs1l <| And.intro hwa <| And.intro hat <| hk8
      repeat' (first
       | refine w_seq ?_ | refine w_skip ?_ | refine w_reg fun K hK => ?_
       | ((with_reducible refine s_end hK ?_); clear hK K)
       | (with_reducible first | refine then_normal ?_ | refine s_nil ?_)
       | (with_reducible refine s_none ?_)
       | ((with_reducible refine g_id ?_); refine x_guard (h := ?_))
       | (with_reducible first | refine gx_tt ?_ | refine x_assign (h := ?_) | refine x_append (T := 50) (h := ?_) | refine x_build (h := ?_))
       | (with_reducible refine x_q (h := ?_))
       | refine x_condf (h1 := ?_)
       | (refine w_sch (id := 12) (.q 1 <| .q 2 <| .q 3 <| .q 5 <| .q 6 <| .q 7 <| .q 8 <| .q 9 <| .q 12 <| .l 0 [12, 9, 8, 7, 6, 5, 3, 2, 1] <| .l 4 [12, 9, 8, 7, 6, 5, 2, 1] <| .l 10 [12, 8, 7, 2, 1] <| .l 11 [12, 8, 7, 2, 1] <| .l 13 [8, 7, 2, 1] <| .l 14 [] <| .done) mixed (by kernel_rfl) (by kernel_rfl) fun K hK => ?_)
       | ((with_reducible refine a_id ?_); first | refine xa_q (h := ?_))
       | refine a_l rfl ?_ | (with_reducible refine And.intro ?_ ?_) | exact st_nil | refine xa_st (h2 := ?_)
       | fail)
      all_goals try clear fx
      refine o_alias (.c (.s 38) 0 2) (.u 4 0 0) 74 hV4' ?_
      refine o_alias (.c (.s 38) 0 3) (.u 5 0 0) 74 hV5' ?_
      refine x_rdo (bs := bs) (hs := by simp [hU]) (ha := by first | (simp [h0]; done) | (simp [h0]; rfl)) (hF := making_fn _ _ bs (q1 + 1) k1.kind k1.parent p.length k1.params.length k1.body.length hb (by omega) (by simp [hU]) (by simp)) (h := ?_)
      rintro y H2 ⟨L2, q2, rfl, hL2, ⟨hL2l, hq2⟩, hU2⟩
      refine ⟨q2, hU2, ?_⟩
      all_goals have fx := And.intro h0 <| And.intro h3 <| And.intro hp3 <| And.intro h5 <| And.intro h6 <| And.intro hp6 <| And.intro h7 <| And.intro hob <| hL2
      repeat' (first
       | refine w_seq ?_ | refine w_reg fun K hK => ?_
       | ((with_reducible refine s_end hK ?_); clear hK K)
       | (with_reducible first | refine then_normal ?_ | refine s_nil ?_)
       | (with_reducible refine s_none ?_)
       | (with_reducible first | refine x_assign (h := ?_) | refine x_append (T := 50) (h := ?_))
       | (with_reducible refine x_q (h := ?_))
       | ((with_reducible refine a_end hK ?_); clear hK K)
       | refine a_l rfl ?_ | (with_reducible refine And.intro ?_ ?_) | exact st_nil | refine xa_st (h2 := ?_)
       | fail)
      all_goals try clear fx
      refine w_abs (fun st => ∃ (X : List Stm) (q2 : Nat), X.length ≤ 16 ∧ q2 ≤ q1 + 6 ∧ st.tm 0 = .pt (.u 1 0 0) 0 ∧ st.hp (.u 1 0 0) = some (rdO bs q2) ∧ st.tm 2 = .pt (.s 2) 0 ∧ st.hp (.s 2) = some (.row 1 [[.hs (.c (.s 2) 0 0) 4 0 0]]) ∧ st.hp (.c (.s 2) 0 0) = some (.row 4 []) ∧ st.tm 3 = .pt (.s 3) 0 ∧ st.hp (.s 3) = some (.row 1 [[.hs (.c (.s 3) 0 0) 4 0 p.length]]) ∧ st.tm 4 = iv n ∧ OwnP st.hp (.c (.s 3) 0 0) p ∧ st.tm 5 = iv par ∧ st.tm 6 = .pt (.s 6) 0 ∧ st.hp (.s 6) = some (.row 4 [[iv k1.kind, iv k1.parent, .hs (.c (.s 38) 0 2) 1 0 k1.params.length, .hs (.c (.s 38) 0 3) 4 0 k1.body.length]]) ∧ st.hp (.c (.s 38) 0 2) = some (.row 1 (irows k1.params)) ∧ st.hp (.c (.s 38) 0 3) = some (.row 4 (srows k1.body)) ∧
    st.tm 7 = .hs (.s 7) 4 0 X.length ∧ st.hp (.s 7) = some (.row 4 (srows X)) ∧ st.tm 84 = bv (decide (X.length ≤ 12))) ⟨(kp.body.take (at0) ++ L2 ++ kp.body.drop (at0)), q2, by simp; omega, by omega, by simp [h0], by simp, by simp [h2], by simp [hp2], by simp [hp2'], by simp [h3], by simp [hp3], by simp [h4], ⟨by simp [ho1], fun j r hj => by simp [ho2 j r hj], fun j r hj => by simp [ho3 j r hj]⟩, by simp [h5], by simp [h6], by simp [hp6], by simp [hp62], by simp [hp63], by simp; try omega, by first | (simp; done) | (simp; rw [ins_norm (by omega)]), by simp; try omega⟩ ?_
      clear hU2 hL2

    case' inr =>
      all_goals have fx := And.intro h0 <| And.intro h3 <| And.intro hp3 <| And.intro h5 <| And.intro h6 <| And.intro hp6 <| And.intro h7 <| And.intro hob <| And.intro hat0 <| And.intro hs1 <| And.intro hs1E <| And.intro hs1l <| And.intro hwa <| And.intro hle1 <| hk8
      repeat' (first
       | refine w_seq ?_ | refine w_reg fun K hK => ?_
       | ((with_reducible refine s_end hK ?_); clear hK K)
       | (with_reducible first | refine then_normal ?_ | refine s_nil ?_)
       | (with_reducible refine s_none ?_)
       | ((with_reducible refine g_id ?_); refine x_guard (h := ?_))
       | (with_reducible first | refine gx_tt ?_ | refine x_assign (h := ?_) | refine x_append (T := 50) (h := ?_) | refine x_build (h := ?_))
       | (with_reducible refine x_q (h := ?_))
       | refine x_condt (h1 := ?_)
       | (refine w_sch (id := 12) (.q 1 <| .q 2 <| .q 3 <| .q 5 <| .q 6 <| .q 7 <| .q 8 <| .q 9 <| .q 12 <| .l 0 [12, 9, 8, 7, 6, 5, 3, 2, 1] <| .l 4 [12, 9, 8, 7, 6, 5, 2, 1] <| .l 10 [12, 8, 7, 2, 1] <| .l 11 [12, 8, 7, 2, 1] <| .l 13 [8, 7, 2, 1] <| .l 14 [] <| .done) mixed (by kernel_rfl) (by kernel_rfl) fun K hK => ?_)
       | ((with_reducible refine a_id ?_); first | refine xa_q (h := ?_))
       | refine a_l rfl ?_ | (with_reducible refine And.intro ?_ ?_) | exact st_nil | refine xa_st (h2 := ?_)
       | fail)
      all_goals try clear fx
      refine o_alias (.c (.s 38) 0 2) (.u 4 0 0) 74 hV4' ?_
      refine o_alias (.c (.s 38) 0 3) (.u 5 0 0) 74 hV5' ?_
      refine x_rdo (bs := bs) (hs := by simp [hU]) (ha := by first | (simp [h0]; done) | (simp [h0]; rfl)) (hF := making_fn _ _ bs (q1 + 1) k1.kind k1.parent p.length k1.params.length k1.body.length hb (by omega) (by simp [hU]) (by simp)) (h := ?_)
      rintro y H2 ⟨L2, q2, rfl, hL2, ⟨hL2l, hq2⟩, hU2⟩
      refine ⟨q2, hU2, ?_⟩
      all_goals have fx := And.intro h0 <| And.intro h3 <| And.intro hp3 <| And.intro h5 <| And.intro h6 <| And.intro hp6 <| And.intro h7 <| And.intro hob <| hL2
      repeat' (first
       | refine w_seq ?_ | refine w_reg fun K hK => ?_
       | ((with_reducible refine s_end hK ?_); clear hK K)
       | (with_reducible first | refine then_normal ?_ | refine s_nil ?_)
       | (with_reducible refine s_none ?_)
       | (with_reducible first | refine x_assign (h := ?_) | refine x_append (T := 50) (h := ?_))
       | (with_reducible refine x_q (h := ?_))
       | ((with_reducible refine a_end hK ?_); clear hK K)
       | refine a_l rfl ?_ | (with_reducible refine And.intro ?_ ?_) | exact st_nil | refine xa_st (h2 := ?_)
       | fail)
      all_goals try clear fx
      refine w_abs (fun st => ∃ (X : List Stm) (q2 : Nat), X.length ≤ 16 ∧ q2 ≤ q1 + 6 ∧ st.tm 0 = .pt (.u 1 0 0) 0 ∧ st.hp (.u 1 0 0) = some (rdO bs q2) ∧ st.tm 2 = .pt (.s 2) 0 ∧ st.hp (.s 2) = some (.row 1 [[.hs (.c (.s 2) 0 0) 4 0 0]]) ∧ st.hp (.c (.s 2) 0 0) = some (.row 4 []) ∧ st.tm 3 = .pt (.s 3) 0 ∧ st.hp (.s 3) = some (.row 1 [[.hs (.c (.s 3) 0 0) 4 0 p.length]]) ∧ st.tm 4 = iv n ∧ OwnP st.hp (.c (.s 3) 0 0) p ∧ st.tm 5 = iv par ∧ st.tm 6 = .pt (.s 6) 0 ∧ st.hp (.s 6) = some (.row 4 [[iv k1.kind, iv k1.parent, .hs (.c (.s 38) 0 2) 1 0 k1.params.length, .hs (.c (.s 38) 0 3) 4 0 k1.body.length]]) ∧ st.hp (.c (.s 38) 0 2) = some (.row 1 (irows k1.params)) ∧ st.hp (.c (.s 38) 0 3) = some (.row 4 (srows k1.body)) ∧
    st.tm 7 = .hs (.s 7) 4 0 X.length ∧ st.hp (.s 7) = some (.row 4 (srows X)) ∧ st.tm 84 = bv (decide (X.length ≤ 12))) ⟨(kp.body.take (at0 - 1) ++ L2 ++ kp.body.drop (at0 - 1)), q2, by simp; omega, by omega, by simp [h0], by simp, by simp [h2], by simp [hp2], by simp [hp2'], by simp [h3], by simp [hp3], by simp [h4], ⟨by simp [ho1], fun j r hj => by simp [ho2 j r hj], fun j r hj => by simp [ho3 j r hj]⟩, by simp [h5], by simp [h6], by simp [hp6], by simp [hp62], by simp [hp63], by simp; try omega, by first | (simp; done) | (simp; rw [ins_norm (by omega)]), by simp; try omega⟩ ?_
      clear hU2 hL2

  all_goals
    rintro st ⟨X, q2, hXl, hq2, h0, hU, h2, hp2, hp2', h3, hp3, h4, ⟨ho1, ho2, ho3⟩, h5, h6, hp6, hp62, hp63, h7, hp7, h84⟩
    have hwn : IntKind.i64.wrap ((n : Int) - 1) = ((n - 1 : Nat) : Int) := by rw [wrp (by omega) (by omega)]; omega
    by_cases hx12 : X.length ≤ 12
    · have hset := pRows_set (n := .c (.s 3) 0 0) (a := 7) (i := par) (len := X.length) (p := p) (L := X) rfl (by simp) (by simp)
      have hsl : (setBody p par X).length = p.length := setBody_len
      all_goals have fx := And.intro h0 <| And.intro h3 <| And.intro hp3 <| And.intro h4 <| And.intro h5 <| And.intro h6 <| And.intro hp6 <| And.intro h7 <| And.intro hp7 <| And.intro h84 <| And.intro ho1 <| And.intro hkp' <| And.intro hkpE <| And.intro hparl <| And.intro hx12 <| And.intro hset <| And.intro hsl <| hwn
      repeat' (first
       | refine w_seq ?_ | refine w_reg fun K hK => ?_
       | ((with_reducible refine s_end hK ?_); clear hK K)
       | (with_reducible first | refine then_normal ?_)
       | (with_reducible refine s_none ?_)
       | (with_reducible first | refine x_assign (h := ?_) | refine x_store0 (h := ?_) | refine x_appendC (T := 23) (h := ?_) | refine x_build (h := ?_))
       | (with_reducible refine x_q (h := ?_))
       | refine x_condt (h1 := ?_)
       | fail)
      all_goals try clear fx
      have hg' : GenP (setBody p par X ++ [k1]) := (hg.setBody (by omega)).add (by rw [hsl]; omega) (by rw [hkpar1, hsl]; omega) (by omega) (by omega)
      refine ⟨n - 1, by omega, setBody p par X ++ [k1], q2, by simp; omega, hg', by omega, by simp [h0], by simp [hU], by simp [h2], by simp [hp2], by simp [hp2'], by simp [h3], by simp, by simp, ⟨?_, fun d r hd => ?_, fun d r hd => ?_⟩⟩
      · rw [pRows_app]
        simp
        exact List.take_of_length_le (by simp)
      all_goals
        rw [List.getElem?_append] at hd
        split at hd
        · rename_i hdl
          have hdp : d < p.length := by rwa [hsl] at hdl
          obtain ⟨r0, hr0'⟩ : ∃ r0, p[d]? = some r0 := ⟨_, List.getElem?_eq_getElem hdp⟩
          rw [setBody_get hr0'] at hd
          obtain rfl := Option.some.inj hd
          have hdn : ¬ p.length = d := by omega
          have hdn' : ¬ d = p.length := by omega
          by_cases hpd : par = d
          · subst hpd
            simp [ho2 par r0 hr0', hp7, hdn, hdn']
          · simp [ho2 d r0 hr0', ho3 d r0 hr0', hpd, show ¬ d = par from fun e => hpd e.symm, hdn, hdn']
        · rename_i hdl
          have hde : d = p.length := by
            have h1 := (List.getElem?_eq_some_iff.1 hd).1
            simp at h1
            omega
          subst hde
          rw [hsl, Nat.sub_self] at hd
          simp at hd
          subst hd
          simp [hp62, hp63]
    · skip
      all_goals have fx := And.intro h4 <| And.intro h84 <| And.intro hx12 <| hwn
      repeat' (first
       | refine w_skip ?_ | refine w_reg fun K hK => ?_
       | ((with_reducible refine s_end hK ?_); clear hK K)
       | (with_reducible first | refine then_normal ?_)
       | (with_reducible refine s_none ?_)
       | (with_reducible first | refine x_assign (h := ?_))
       | (with_reducible refine x_q (h := ?_))
       | refine x_condf (h1 := ?_)
       | fail)
      all_goals try clear fx
      exact ⟨n - 1, by omega, p, q2, by omega, hg, by omega, by simp [h0], by simp [hU], by simp [h2], by simp [hp2], by simp [hp2'], by simp [h3], by simp [hp3], by simp, ⟨by simp [ho1], fun j r hj => by simp [ho2 j r hj], fun j r hj => by simp [ho3 j r hj]⟩⟩
end Go.Proofs.YtmpbjmihjelhgaaDoor
end
