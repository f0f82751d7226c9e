/-
  Own texts, joined by mkclaim.py: Hr, Tc.
-/
import Derived.Test.YtopgafhjmbfaoaaM22
import Derived.Test.YtopgafhjmbfaoaaM25
import Derived.Test.YtopgafhjmbfaoaaM10
import Derived.Test.YtopgafhjmbfaoaaM20
import Derived.Test.YtopgafhjmbfaoaaM23
import Derived.Test.YtopgafhjmbfaoaaM24
import Derived.Test.YtopgafhjmbfaoaaM11

section
/-
  The program's RenameIn: what it returns.
-/
set_option maxRecDepth 100000
set_option maxHeartbeats 1000000
set_option linter.unusedSimpArgs false
namespace Go.Proofs.Ytopgafhjmbfaoaa
open Go Go.Hm Go.Proofs

theorem impl_RenameIn_fn (gl) (p : Prg) (b x y : Int) (hs : Sml p) : FnOk Try.prog gl 15 [pav p, iv b, iv x, iv y] (fun r z H' => z = .tup [.agg [.hs r 4 0 (renG p b x y).length], bv (renOk p b x y)] ∧ OwnP H' r (renG p b x y)) := by
  have hpl := hs.len
  refine FnOk.of_sem Try.func15 rfl (by kernel_rfl) (rs := [.cell 8 28, .tmp 9]) rfl Try.ntmps15 (Nat.le_of_ble_eq_true rfl) fun C w g root => ?_
  cases hv : progOk p
  · have hno : renOk p b x y = false := by simp [renOk, hv]
    all_goals have fx :=  hv
    repeat' (first
     | refine w_seq ?_ | refine w_reg fun K hK => ?_
     | ((with_reducible refine s_end hK ?_); clear hK K)
     | (with_reducible first | refine then_normal ?_ | refine then_ret ?_)
     | refine w_ret ?_
     | (with_reducible refine s_none ?_)
     | ((with_reducible refine g_id ?_); refine x_guard (h := ?_))
     | (with_reducible first | refine x_ft (h := ?_) | refine x_assign (h := ?_) | refine x_box (h := ?_) | refine x_alloc (h := ?_) | refine x_store (h := ?_))
     | ((with_reducible refine o_id 30 rfl ?_); refine x_call (hF := impl_ValidProgram_fn _ p hs) (h := ?_))
     | (with_reducible refine x_q (h := ?_))
     | refine x_condt (h1 := ?_)
     | fail)
    all_goals try clear fx
    simp only [renG, hno]
    refine e_ret [(.c (.s 8) 0 0, root)] (.one rfl) (by simp; rfl) ?_
    refine ⟨by simp, ⟨by simp, fun j k hk => by simp at hk, fun j k hk => by simp at hk⟩⟩
  have hsh : shapeOk p = true := by
    simp only [progOk, Bool.and_eq_true] at hv
    exact hv.1
  have hp := ShapeP.of hs hsh
  have hh := hp.heads
  have hl7 := hp.len
  cases hb : decide (0 ≤ b ∧ b < p.length)
  · have hb' : ¬ (0 ≤ b ∧ b < p.length) := by simpa using hb
    have hno : renOk p b x y = false := by
      apply Bool.eq_false_iff.2
      intro h
      simp only [renOk, Bool.and_eq_true, decide_eq_true_eq] at h
      exact hb' h.1.1.1.1.2
    all_goals have fx := And.intro hv <| hb
    repeat' (first
     | refine w_seq ?_ | refine w_reg fun K hK => ?_
     | ((with_reducible refine s_end hK ?_); clear hK K)
     | (with_reducible first | refine then_normal ?_ | refine then_ret ?_)
     | refine w_ret ?_
     | (with_reducible refine s_none ?_)
     | ((with_reducible refine g_id ?_); refine x_guard (h := ?_))
     | (with_reducible first | refine gx_ff ?_ | refine x_ft (h := ?_) | refine x_assign (h := ?_) | refine x_box (h := ?_) | refine x_alloc (h := ?_) | refine x_store (h := ?_))
     | ((with_reducible refine o_id 30 rfl ?_); refine x_call (hF := impl_ValidProgram_fn _ p hs) (h := ?_))
     | ((with_reducible refine o_id 48 rfl ?_); refine x_call (hF := impl_isBlock_fn _ p b) (h := ?_))
     | (with_reducible refine x_q (h := ?_))
     | refine x_condt (h1 := ?_)
     | fail)
    all_goals try clear fx
    simp only [renG, hno]
    refine e_ret [(.c (.s 8) 0 0, root)] (.one rfl) (by simp; rfl) ?_
    refine ⟨by simp, ⟨by simp, fun j k hk => by simp at hk, fun j k hk => by simp at hk⟩⟩
  cases hx : (decide (0 ≤ x) && decide (x ≤ 7))
  · have hno : renOk p b x y = false := by simp only [renOk, hx]; simp
    all_goals have fx := And.intro hv <| And.intro hb <| hx
    repeat' (first
     | refine w_seq ?_ | refine w_reg fun K hK => ?_
     | ((with_reducible refine s_end hK ?_); clear hK K)
     | (with_reducible first | refine then_normal ?_ | refine then_ret ?_)
     | refine w_ret ?_
     | (with_reducible refine s_none ?_)
     | ((with_reducible refine g_id ?_); refine x_guard (h := ?_))
     | (with_reducible first | refine gx_ff ?_ | refine x_ft (h := ?_) | refine x_assign (h := ?_) | refine x_box (h := ?_) | refine x_alloc (h := ?_) | refine x_store (h := ?_))
     | ((with_reducible refine o_id 30 rfl ?_); refine x_call (hF := impl_ValidProgram_fn _ p hs) (h := ?_))
     | ((with_reducible refine o_id 48 rfl ?_); refine x_call (hF := impl_isBlock_fn _ p b) (h := ?_))
     | ((with_reducible refine o_id 49 rfl ?_); refine x_call (hF := impl_isName_fn _ _) (h := ?_))
     | (with_reducible refine x_q (h := ?_))
     | refine x_condt (h1 := ?_)
     | fail)
    all_goals try clear fx
    simp only [renG, hno]
    refine e_ret [(.c (.s 8) 0 0, root)] (.one rfl) (by simp; rfl) ?_
    refine ⟨by simp, ⟨by simp, fun j k hk => by simp at hk, fun j k hk => by simp at hk⟩⟩
  cases hy : (decide (0 ≤ y) && decide (y ≤ 7))
  · have hno : renOk p b x y = false := by simp only [renOk, hy]; simp
    all_goals have fx := And.intro hv <| And.intro hb <| And.intro hx <| hy
    repeat' (first
     | refine w_seq ?_ | refine w_reg fun K hK => ?_
     | ((with_reducible refine s_end hK ?_); clear hK K)
     | (with_reducible first | refine then_normal ?_ | refine then_ret ?_)
     | refine w_ret ?_
     | (with_reducible refine s_none ?_)
     | ((with_reducible refine g_id ?_); refine x_guard (h := ?_))
     | (with_reducible first | refine gx_ff ?_ | refine x_assign (h := ?_) | refine x_box (h := ?_) | refine x_alloc (h := ?_) | refine x_store (h := ?_))
     | ((with_reducible refine o_id 30 rfl ?_); refine x_call (hF := impl_ValidProgram_fn _ p hs) (h := ?_))
     | ((with_reducible refine o_id 48 rfl ?_); refine x_call (hF := impl_isBlock_fn _ p b) (h := ?_))
     | ((with_reducible refine o_id 49 rfl ?_); refine x_call (hF := impl_isName_fn _ _) (h := ?_))
     | (with_reducible refine x_q (h := ?_))
     | refine x_condt (h1 := ?_)
     | fail)
    all_goals try clear fx
    simp only [renG, hno]
    refine e_ret [(.c (.s 8) 0 0, root)] (.one rfl) (by simp; rfl) ?_
    refine ⟨by simp, ⟨by simp, fun j k hk => by simp at hk, fun j k hk => by simp at hk⟩⟩
  obtain ⟨hb0, hbl⟩ : 0 ≤ b ∧ b < p.length := by simpa using hb
  obtain ⟨hx0, hx7⟩ : 0 ≤ x ∧ x ≤ 7 := by simpa using hx
  obtain ⟨hy0, hy7⟩ : 0 ≤ y ∧ y ≤ 7 := by simpa using hy
  obtain ⟨B, rfl⟩ : ∃ i : Nat, b = i := ⟨b.toNat, by omega⟩
  obtain ⟨X, rfl⟩ : ∃ i : Nat, x = i := ⟨x.toNat, by omega⟩
  obtain ⟨Y, rfl⟩ : ∃ i : Nat, y = i := ⟨y.toNat, by omega⟩
  have hX : X < 8 := by omega
  have hY : Y < 8 := by omega
  have hBl : B < p.length := by omega
  obtain ⟨k, hk⟩ : ∃ k, p[B]? = some k := ⟨_, List.getElem?_eq_getElem hBl⟩
  have hro : renOk p B X Y = ((k.kind == 1) && isLocal B k X && ((X : Int) != Y) && !clash p B Y) := by
    have h1 : decide (0 ≤ (B : Int)) = true := decide_eq_true hb0
    have h2 : decide ((B : Int) < p.length) = true := decide_eq_true hbl
    simp only [renOk, hv, hx, hy, h1, h2, Int.toNat_natCast, renAt, hk]
    cases (k.kind == 1) <;> cases isLocal B k X <;> cases ((X : Int) != Y) <;> cases clash p B Y <;> rfl
  all_goals have fx := And.intro hv <| And.intro hb <| And.intro hx <| And.intro hy <| And.intro hBl <| And.intro hx7 <| hy7
  repeat' (first
   | refine w_seq ?_ | refine w_skip ?_ | refine w_reg fun K hK => ?_
   | ((with_reducible refine s_end hK ?_); clear hK K)
   | (with_reducible first | refine then_normal ?_)
   | (with_reducible refine s_none ?_)
   | ((with_reducible refine g_id ?_); refine x_guard (h := ?_))
   | (with_reducible first | refine gx_ff ?_ | refine x_assign (h := ?_) | refine x_box (h := ?_) | refine x_alloc (h := ?_))
   | ((with_reducible refine o_id 30 rfl ?_); refine x_call (hF := impl_ValidProgram_fn _ p hs) (h := ?_))
   | ((with_reducible refine o_id 48 rfl ?_); refine x_call (hF := impl_isBlock_fn _ p B) (h := ?_))
   | ((with_reducible refine o_id 49 rfl ?_); refine x_call (hF := impl_isName_fn _ _) (h := ?_))
   | ((with_reducible refine o_id 32 rfl ?_); refine x_callg (hF := scopesOf_fn _ p hs hh hp.names) (h := ?_))
   | (with_reducible refine x_q (h := ?_))
   | refine x_condf (h1 := ?_)
   | fail)
  all_goals try clear fx
  rintro z H' ⟨rfl, hO⟩
  obtain ⟨hc1, hc2⟩ := hO.hcln
  refine ⟨by simp, ?_⟩
  all_goals have fx := fx0
  repeat' (first
   | refine w_seq ?_ | refine w_reg fun K hK => ?_
   | ((with_reducible refine s_end hK ?_); clear hK K)
   | (with_reducible first | refine then_normal ?_)
   | (with_reducible refine s_none ?_)
   | (with_reducible first | refine x_assign (h := ?_))
   | ((with_reducible refine o_id 50 rfl ?_); refine x_call (hB := (by first | ((repeat' (first | exact .nil | refine .cons ?_ ?_ | exact .refl _ | exact bw_ints (by simp [fx]; first | done | rfl) (by first | (simp [fx]; done) | (simp [fx]; omega) | omega) | exact bw_list (by simp [fx]; first | done | rfl) (by first | (simp [fx]; done) | (simp [fx]; omega) | omega) (by first | (simp; done) | fail) | exact bw_scopes (n := .s 10) (p := p) ⟨by simp [hc1], fun j k hj hk => by simp [hc2 j k hj hk]⟩ hh rfl)); done) | fail)) (hF := canRename_fn _ p hp B k hk X Y hX hY) (h := ?_))
   | (with_reducible refine x_q (h := ?_))
   | fail)
  all_goals try clear fx
  refine w_if (by simp []; first | done | rfl | exact (Bool.not_not _).symm) (fun ht => ?_) (fun hf => ?_)
  · have hno : renOk p B X Y = false := by
      rw [hro]
      revert ht
      cases (k.kind == 1) <;> cases isLocal B k X <;> cases ((X : Int) != Y) <;> cases clash p B Y <;> simp
    clear ht
    all_goals have fx := fx0
    repeat' (first
     | refine w_seq ?_ | refine w_reg fun K hK => ?_
     | ((with_reducible refine s_end hK ?_); clear hK K)
     | (with_reducible first | refine then_normal ?_ | refine then_ret ?_)
     | refine w_ret ?_
     | (with_reducible refine s_none ?_)
     | (with_reducible first | refine x_assign (h := ?_) | refine x_store (h := ?_))
     | (with_reducible refine x_q (h := ?_))
     | fail)
    all_goals try clear fx
    simp only [renG, hno]
    refine e_ret [(.c (.s 8) 0 0, root)] (.one rfl) (by simp; rfl) ?_
    refine ⟨by simp, ⟨by simp, fun j k hk => by simp at hk, fun j k hk => by simp at hk⟩⟩
  have hyes : renOk p B X Y = true := by
    rw [hro]
    revert hf
    cases (k.kind == 1) <;> cases isLocal B k X <;> cases ((X : Int) != Y) <;> cases clash p B Y <;> simp
  have hg : renG p B X Y = renS (touches p B X) X Y p := by simp only [renG, hyes, if_true]
  rw [hg, hyes]
  clear hf hro
  all_goals have fx := fx0
  repeat' (first
   | refine w_seq ?_ | refine w_skip ?_ | refine w_reg fun K hK => ?_
   | (with_reducible refine s_none ?_)
   | ((with_reducible refine o_id 31 rfl ?_); refine x_callg (hF := copyOf_fn _ p hs) (h := ?_))
   | (with_reducible refine x_q (h := ?_))
   | fail)
  all_goals try clear fx
  rintro z H2 ⟨rfl, hP⟩
  obtain ⟨ho1, ho2, ho3⟩ := hP.hcln
  refine ⟨by simp, ?_⟩
  all_goals have fx :=  ho1
  repeat' (first
   | refine w_seq ?_ | refine w_block ?_ | refine w_reg fun K hK => ?_
   | ((with_reducible refine s_end hK ?_); clear hK K)
   | (with_reducible refine s_none ?_)
   | (with_reducible first | refine x_alloc (h := ?_) | refine x_store0 (h := ?_))
   | (with_reducible refine x_q (h := ?_))
   | fail)
  all_goals try clear fx
  refine w_loop (fun n st => ∃ i : Nat, n = p.length - i ∧ i ≤ p.length ∧ st.tm 1 = iv B ∧ st.tm 2 = iv X ∧ st.tm 3 = iv Y ∧ st.tm 8 = .pt (.s 8) 0 ∧ st.hp (.s 8) = some (.row 1 [[.hs (.c (.s 8) 0 0) 4 0 0]]) ∧ st.hp (.c (.s 8) 0 0) = some (.row 4 []) ∧ st.tm 11 = .pt (.s 11) 0 ∧ st.hp (.s 11) = some (.row 1 [[.hs (.c (.s 11) 0 0) 4 0 p.length]]) ∧ st.tm 50 = .hs (.s 10) 1 0 p.length ∧ OwnS st.hp (.s 10) p p.length ∧ st.tm 51 = iv p.length ∧ st.tm 52 = iv i ∧ OwnP st.hp (.c (.s 11) 0 0) (renS (tUpto p B X i) X Y p)) p.length ?_ ?_
  · refine ⟨0, by omega, by omega, by simp, by simp, by simp, by simp, by simp, by simp, by simp, by simp, by simp, ⟨by simp [hc1], fun j k hj hk => by simp [hc2 j k hj hk]⟩, by simp, by simp, ?_⟩
    rw [upto_zero]
    exact ⟨by simp [ho1], fun j k hk => by simp [ho2 j k hk], fun j k hk => by simp [ho3 j k hk]⟩
  clear ho1 ho2 ho3 hP hc1 hc2 hO
  rintro n st - - ⟨i, rfl, hi, h1, h2, h3, h8, hp8, hp8', h11, hp11, h50, ⟨hc1, hc2⟩, h51, h52, ⟨ho1, ho2, ho3⟩⟩
  all_goals have fx := And.intro h51 <| h52
  repeat' (first
   | refine w_seq ?_ | refine w_reg fun K hK => ?_
   | ((with_reducible refine s_end hK ?_); clear hK K)
   | (with_reducible refine s_none ?_)
   | (with_reducible refine x_q (h := ?_))
   | fail)
  all_goals try clear fx
  refine w_if (by simp []; first | done | rfl | exact (Bool.not_not _).symm) (fun ht => ?_) (fun hf => ?_)
  · have hlt : i < p.length := by simpa using ht
    obtain ⟨q, hq⟩ : ∃ q, p[i]? = some q := ⟨_, List.getElem?_eq_getElem hlt⟩
    have hsg := sRows_at (n := .s 10) hlt
    obtain ⟨_, hse⟩ := List.getElem?_eq_some_iff.1 hsg
    clear ht
    have hth : touches p B X i = (decide ((X : Int) ∈ q.us) && decide (owner p i X = B)) := by simp only [touches, hq]
    cases hu : decide ((X : Int) ∈ q.us)
    · have hto : touches p B X i = false := by rw [hth, hu]; rfl
      all_goals have fx := And.intro h1 <| And.intro h2 <| And.intro h3 <| And.intro h50 <| And.intro hc1 <| And.intro h51 <| And.intro h52 <| And.intro hsg <| And.intro hse <| And.intro hlt <| hu
      repeat' (first
       | refine w_seq ?_ | refine w_block ?_ | refine w_skip ?_ | refine w_reg fun K hK => ?_
       | ((with_reducible refine s_end hK ?_); clear hK K)
       | (with_reducible first | refine then_normal ?_)
       | refine w_exit ?_
       | (with_reducible refine s_none ?_)
       | ((with_reducible refine g_id ?_); refine x_guard (h := ?_))
       | (with_reducible first | refine x_ft (h := ?_) | refine x_assign (h := ?_))
       | ((with_reducible refine o_id 51 rfl ?_); refine x_call (hB := (by first | ((repeat' (first | exact .nil | refine .cons ?_ ?_ | exact .refl _ | exact bw_ints (by simp [fx]; first | done | rfl) (by first | (simp [fx]; done) | (simp [fx]; omega) | omega) | exact bw_list (by simp [fx]; first | done | rfl) (by first | (simp [fx]; done) | (simp [fx]; omega) | omega) (by first | (simp; done) | fail) | exact bw_sc (n := .s 10) (p := p) (k := q) ⟨by simp [hc1], fun j k hj hk => by simp [hc2 j k hj hk]⟩ hh hq)); done) | fail)) (hF := uses_fn' _ p i q X hX) (h := ?_))
       | (with_reducible refine x_q (h := ?_))
       | refine x_condt (h1 := ?_)
       | fail)
      all_goals try clear fx
      refine ⟨p.length - (i + 1), by omega, i + 1, rfl, by omega, by simp [h1], by simp [h2], by simp [h3], by simp [h8], by simp [hp8], by simp [hp8'], by simp [h11], by simp [hp11], by simp [h50], ⟨by simp [hc1], fun j k hj hk => by simp [hc2 j k hj hk]⟩, by simp [h51], by simp; exact wrp (by omega) (by omega), ?_⟩
      rw [← upto_skip hto]
      exact ⟨by simp [ho1], fun j k hk => by simp [ho2 j k hk], fun j k hk => by simp [ho3 j k hk]⟩
    cases hw : (owner p i X == B)
    · have hto : touches p B X i = false := by
        rw [hth]
        have : ¬ owner p i X = B := by simpa using hw
        simp [this]
      all_goals have fx := And.intro h1 <| And.intro h2 <| And.intro h3 <| And.intro h50 <| And.intro hc1 <| And.intro h51 <| And.intro h52 <| And.intro hsg <| And.intro hse <| And.intro hlt <| And.intro hu <| And.intro hw <| @bne_def
      repeat' (first
       | refine w_seq ?_ | refine w_block ?_ | refine w_skip ?_ | refine w_reg fun K hK => ?_
       | ((with_reducible refine s_end hK ?_); clear hK K)
       | (with_reducible first | refine then_normal ?_)
       | refine w_exit ?_
       | (with_reducible refine s_none ?_)
       | ((with_reducible refine g_id ?_); refine x_guard (h := ?_))
       | (with_reducible first | refine gx_ff ?_ | refine x_assign (h := ?_))
       | ((with_reducible refine o_id 51 rfl ?_); refine x_call (hB := (by first | ((repeat' (first | exact .nil | refine .cons ?_ ?_ | exact .refl _ | exact bw_ints (by simp [fx]; first | done | rfl) (by first | (simp [fx]; done) | (simp [fx]; omega) | omega) | exact bw_list (by simp [fx]; first | done | rfl) (by first | (simp [fx]; done) | (simp [fx]; omega) | omega) (by first | (simp; done) | fail) | exact bw_sc (n := .s 10) (p := p) (k := q) ⟨by simp [hc1], fun j k hj hk => by simp [hc2 j k hj hk]⟩ hh hq)); done) | fail)) (hF := uses_fn' _ p i q X hX) (h := ?_))
       | ((with_reducible refine o_id 52 rfl ?_); refine x_call (hB := (by first | ((repeat' (first | exact .nil | refine .cons ?_ ?_ | exact .refl _ | exact bw_ints (by simp [fx]; first | done | rfl) (by first | (simp [fx]; done) | (simp [fx]; omega) | omega) | exact bw_list (by simp [fx]; first | done | rfl) (by first | (simp [fx]; done) | (simp [fx]; omega) | omega) (by first | (simp; done) | fail) | exact bw_sc (n := .s 10) (p := p) (k := q) ⟨by simp [hc1], fun j k hj hk => by simp [hc2 j k hj hk]⟩ hh hq)); done) | fail)) (hF := scope_owner_fn _ p hp i q hq X hX) (h := ?_))
       | (with_reducible refine x_q (h := ?_))
       | refine x_condt (h1 := ?_)
       | fail)
      all_goals try clear fx
      refine ⟨p.length - (i + 1), by omega, i + 1, rfl, by omega, by simp [h1], by simp [h2], by simp [h3], by simp [h8], by simp [hp8], by simp [hp8'], by simp [h11], by simp [hp11], by simp [h50], ⟨by simp [hc1], fun j k hj hk => by simp [hc2 j k hj hk]⟩, by simp [h51], by simp; exact wrp (by omega) (by omega), ?_⟩
      rw [← upto_skip hto]
      exact ⟨by simp [ho1], fun j k hk => by simp [ho2 j k hk], fun j k hk => by simp [ho3 j k hk]⟩
    have hto : touches p B X i = true := by
      rw [hth, hu]
      have : owner p i X = B := by simpa using hw
      simp [this]
    have hkR := upto_get (b := B) (x := X) (y := Y) hq
    obtain ⟨_, hkR'⟩ := List.getElem?_eq_some_iff.1 hkR
    obtain ⟨hkp, hkb⟩ := hs.bsm hq
    have hpar := ho2 i q hkR
    have hbod := ho3 i q hkR
    all_goals have fx := And.intro h1 <| And.intro h2 <| And.intro h3 <| And.intro h50 <| And.intro hc1 <| And.intro h51 <| And.intro h52 <| And.intro hsg <| And.intro hse <| And.intro hlt <| And.intro hu <| And.intro hw <| And.intro @bne_def <| And.intro h11 <| And.intro hp11 <| And.intro ho1 <| And.intro hkR <| hkR'
    repeat' (first
     | refine w_seq ?_ | refine w_block ?_ | refine w_skip ?_ | refine w_reg fun K hK => ?_
     | ((with_reducible refine s_end hK ?_); clear hK K)
     | (with_reducible first | refine then_normal ?_)
     | (with_reducible refine s_none ?_)
     | ((with_reducible refine g_id ?_); refine x_guard (h := ?_))
     | (with_reducible first | refine gx_ff ?_ | refine x_assign (h := ?_) | refine x_alloc (h := ?_) | refine x_store0 (h := ?_))
     | ((with_reducible refine o_id 51 rfl ?_); refine x_call (hB := (by first | ((repeat' (first | exact .nil | refine .cons ?_ ?_ | exact .refl _ | exact bw_ints (by simp [fx]; first | done | rfl) (by first | (simp [fx]; done) | (simp [fx]; omega) | omega) | exact bw_list (by simp [fx]; first | done | rfl) (by first | (simp [fx]; done) | (simp [fx]; omega) | omega) (by first | (simp; done) | fail) | exact bw_sc (n := .s 10) (p := p) (k := q) ⟨by simp [hc1], fun j k hj hk => by simp [hc2 j k hj hk]⟩ hh hq)); done) | fail)) (hF := uses_fn' _ p i q X hX) (h := ?_))
     | ((with_reducible refine o_id 52 rfl ?_); refine x_call (hB := (by first | ((repeat' (first | exact .nil | refine .cons ?_ ?_ | exact .refl _ | exact bw_ints (by simp [fx]; first | done | rfl) (by first | (simp [fx]; done) | (simp [fx]; omega) | omega) | exact bw_list (by simp [fx]; first | done | rfl) (by first | (simp [fx]; done) | (simp [fx]; omega) | omega) (by first | (simp; done) | fail) | exact bw_sc (n := .s 10) (p := p) (k := q) ⟨by simp [hc1], fun j k hj hk => by simp [hc2 j k hj hk]⟩ hh hq)); done) | fail)) (hF := scope_owner_fn _ p hp i q hq X hX) (h := ?_))
     | (with_reducible refine x_q (h := ?_))
     | refine x_condf (h1 := ?_)
     | fail)
    all_goals try clear fx
    refine w_loop (fun n st => ∃ j : Nat, n = q.params.length - j ∧ j ≤ q.params.length ∧ st.tm 1 = iv B ∧ st.tm 2 = iv X ∧ st.tm 3 = iv Y ∧ st.tm 8 = .pt (.s 8) 0 ∧ st.hp (.s 8) = some (.row 1 [[.hs (.c (.s 8) 0 0) 4 0 0]]) ∧ st.hp (.c (.s 8) 0 0) = some (.row 4 []) ∧ st.tm 11 = .pt (.s 11) 0 ∧ st.hp (.s 11) = some (.row 1 [[.hs (.c (.s 11) 0 0) 4 0 p.length]]) ∧ st.tm 50 = .hs (.s 10) 1 0 p.length ∧ OwnS st.hp (.s 10) p p.length ∧ st.tm 51 = iv p.length ∧ st.tm 52 = iv i ∧
      st.tm 14 = .pt (.s 14) 0 ∧ st.hp (.s 14) = some (.row 4 [[iv q.kind, iv q.parent, .hs (.c (.c (.s 11) 0 0) i 2) 1 0 q.params.length, .hs (.c (.c (.s 11) 0 0) i 3) 4 0 q.body.length]]) ∧ st.tm 74 = .hs (.c (.c (.s 11) 0 0) i 2) 1 0 q.params.length ∧ st.tm 75 = iv q.params.length ∧ st.tm 76 = iv j ∧ st.hp (.c (.s 11) 0 0) = some (.row 4 (pRows (.c (.s 11) 0 0) (renS (tUpto p B X i) X Y p))) ∧
      st.hp (.c (.c (.s 11) 0 0) i 2) = some (.row 1 (irows (mapTo (fun n => swapI n X Y) q.params j))) ∧ st.hp (.c (.c (.s 11) 0 0) i 3) = some (.row 4 (srows q.body)) ∧ (∀ (d : Nat) k, (renS (tUpto p B X i) X Y p)[d]? = some k → d ≠ i → st.hp (.c (.c (.s 11) 0 0) d 2) = some (.row 1 (irows k.params)) ∧ st.hp (.c (.c (.s 11) 0 0) d 3) = some (.row 4 (srows k.body)))) q.params.length ?_ ?_
    · refine ⟨0, by omega, by omega, by simp [h1], by simp [h2], by simp [h3], by simp [h8], by simp [hp8], by simp [hp8'], by simp [h11], by simp [hp11], by simp [h50], ⟨by simp [hc1], fun j k hj hk => by simp [hc2 j k hj hk]⟩, by simp [h51], by simp [h52], by simp, by simp, by simp, by simp, by simp, by simp [ho1], ?_, by simp [hbod], fun d k hq hd => ⟨by simp [ho2 d k hq], by simp [ho3 d k hq]⟩⟩
      rw [mapTo_zero]
      simp [hpar]
    clear h1 h2 h3 h8 hp8 hp8' h11 hp11 h50 hc1 hc2 h51 h52 ho1 ho2 ho3 hpar hbod hsg hse
    rintro n st - - ⟨j, rfl, hj, h1, h2, h3, h8, hp8, hp8', h11, hp11, h50, ⟨hc1, hc2⟩, h51, h52, h14, hp14, h74, h75, h76, ho1, hpar, hbod, hoth⟩
    all_goals have fx := And.intro h75 <| h76
    repeat' (first
     | refine w_seq ?_ | refine w_reg fun K hK => ?_
     | ((with_reducible refine s_end hK ?_); clear hK K)
     | (with_reducible refine s_none ?_)
     | (with_reducible refine x_q (h := ?_))
     | fail)
    all_goals try clear fx
    refine w_if (by simp []; first | done | rfl | exact (Bool.not_not _).symm) (fun ht => ?_) (fun hf => ?_)
    · have hjl : j < q.params.length := by simpa using ht
      obtain ⟨u, hpu⟩ : ∃ u, q.params[j]? = some u := ⟨_, List.getElem?_eq_getElem hjl⟩
      have hm := mapTo_get (f := fun n => swapI n X Y) hpu
      obtain ⟨_, hm'⟩ := List.getElem?_eq_some_iff.1 hm
      clear ht
      cases hux : (u == (X : Int))
      · have hsw : swapI u X Y = u := by
          have : ¬ u = X := by simpa using hux
          simp [swapI, this]
        all_goals have fx := And.intro h2 <| And.intro h3 <| And.intro h14 <| And.intro hp14 <| And.intro h74 <| And.intro h75 <| And.intro h76 <| And.intro hpar <| And.intro hjl <| And.intro hm <| And.intro hm' <| hux
        repeat' (first
         | refine w_seq ?_ | refine w_block ?_ | refine w_skip ?_ | refine w_reg fun K hK => ?_
         | ((with_reducible refine s_end hK ?_); clear hK K)
         | (with_reducible first | refine then_normal ?_)
         | (with_reducible refine s_none ?_)
         | (with_reducible first | refine x_assign (h := ?_))
         | (with_reducible refine x_q (h := ?_))
         | refine x_condf (h1 := ?_)
         | fail)
        all_goals try clear fx
        refine ⟨q.params.length - (j + 1), by omega, j + 1, rfl, by omega, by simp [h1], by simp [h2], by simp [h3], by simp [h8], by simp [hp8], by simp [hp8'], by simp [h11], by simp [hp11], by simp [h50], ⟨by simp [hc1], fun j k hj hk => by simp [hc2 j k hj hk]⟩, by simp [h51], by simp [h52], by simp [h14], by simp [hp14], by simp [h74], by simp [h75], by simp; exact wrp (by omega) (by omega), by simp [ho1], ?_, by simp [hbod], fun d k hq hd => ⟨by simp [(hoth d k hq hd).1], by simp [(hoth d k hq hd).2]⟩⟩
        rw [mapTo_same (f := fun n => swapI n X Y) hpu hsw]
        simp [hpar]
      · have hsw : swapI u X Y = Y := by
          have : u = X := by simpa using hux
          simp [swapI, this]
        all_goals have fx := And.intro h2 <| And.intro h3 <| And.intro h14 <| And.intro hp14 <| And.intro h74 <| And.intro h75 <| And.intro h76 <| And.intro hpar <| And.intro hjl <| And.intro hm <| And.intro hm' <| hux
        repeat' (first
         | refine w_seq ?_ | refine w_block ?_ | refine w_skip ?_ | refine w_reg fun K hK => ?_
         | ((with_reducible refine s_end hK ?_); clear hK K)
         | (with_reducible first | refine then_normal ?_)
         | (with_reducible refine s_none ?_)
         | (with_reducible first | refine x_assign (h := ?_) | refine x_store0 (h := ?_))
         | (with_reducible refine x_q (h := ?_))
         | refine x_condt (h1 := ?_)
         | fail)
        all_goals try clear fx
        refine ⟨q.params.length - (j + 1), by omega, j + 1, rfl, by omega, by simp [h1], by simp [h2], by simp [h3], by simp [h8], by simp [hp8], by simp [hp8'], by simp [h11], by simp [hp11], by simp [h50], ⟨by simp [hc1], fun j k hj hk => by simp [hc2 j k hj hk]⟩, by simp [h51], by simp [h52], by simp [h14], by simp [hp14], by simp [h74], by simp [h75], by simp; exact wrp (by omega) (by omega), by simp [ho1], ?_, by simp [hbod], fun d k hq hd => ⟨by simp [(hoth d k hq hd).1, hd], by simp [(hoth d k hq hd).2]⟩⟩
        rw [← mapTo_set (f := fun n => swapI n X Y) hpu]
        simp [irows, hsw]
    have hge : j = q.params.length := by
      have : ¬ j < q.params.length := by simpa using hf
      omega
    subst hge
    rw [mapTo_all] at hpar
    clear hf
    all_goals have fx := And.intro h14 <| hp14
    repeat' (first
     | refine w_seq ?_ | refine w_block ?_ | refine w_reg fun K hK => ?_
     | ((with_reducible refine s_end hK ?_); clear hK K)
     | refine w_exit ?_
     | (with_reducible refine s_none ?_)
     | (with_reducible refine x_q (h := ?_))
     | fail)
    all_goals try clear fx
    refine w_loop (fun n st => ∃ j : Nat, n = q.body.length - j ∧ j ≤ q.body.length ∧ st.tm 1 = iv B ∧ st.tm 2 = iv X ∧ st.tm 3 = iv Y ∧ st.tm 8 = .pt (.s 8) 0 ∧ st.hp (.s 8) = some (.row 1 [[.hs (.c (.s 8) 0 0) 4 0 0]]) ∧ st.hp (.c (.s 8) 0 0) = some (.row 4 []) ∧ st.tm 11 = .pt (.s 11) 0 ∧ st.hp (.s 11) = some (.row 1 [[.hs (.c (.s 11) 0 0) 4 0 p.length]]) ∧ st.tm 50 = .hs (.s 10) 1 0 p.length ∧ OwnS st.hp (.s 10) p p.length ∧ st.tm 51 = iv p.length ∧ st.tm 52 = iv i ∧
      st.tm 14 = .pt (.s 14) 0 ∧ st.hp (.s 14) = some (.row 4 [[iv q.kind, iv q.parent, .hs (.c (.c (.s 11) 0 0) i 2) 1 0 q.params.length, .hs (.c (.c (.s 11) 0 0) i 3) 4 0 q.body.length]]) ∧ st.tm 91 = .hs (.c (.c (.s 11) 0 0) i 3) 4 0 q.body.length ∧ st.tm 92 = iv q.body.length ∧ st.tm 93 = iv j ∧ st.hp (.c (.s 11) 0 0) = some (.row 4 (pRows (.c (.s 11) 0 0) (renS (tUpto p B X i) X Y p))) ∧
      st.hp (.c (.c (.s 11) 0 0) i 2) = some (.row 1 (irows (q.params.map (fun n => swapI n X Y)))) ∧ st.hp (.c (.c (.s 11) 0 0) i 3) = some (.row 4 (srows (mapTo (fun s => s.ren X Y) q.body j))) ∧ (∀ (d : Nat) k, (renS (tUpto p B X i) X Y p)[d]? = some k → d ≠ i → st.hp (.c (.c (.s 11) 0 0) d 2) = some (.row 1 (irows k.params)) ∧ st.hp (.c (.c (.s 11) 0 0) d 3) = some (.row 4 (srows k.body)))) q.body.length ?_ ?_
    · refine ⟨0, by omega, by omega, by simp [h1], by simp [h2], by simp [h3], by simp [h8], by simp [hp8], by simp [hp8'], by simp [h11], by simp [hp11], by simp [h50], ⟨by simp [hc1], fun j k hj hk => by simp [hc2 j k hj hk]⟩, by simp [h51], by simp [h52], by simp [h14], by simp [hp14], by simp, by simp, by simp, by simp [ho1], by simp [hpar], ?_, fun d k hq hd => ⟨by simp [(hoth d k hq hd).1], by simp [(hoth d k hq hd).2]⟩⟩
      rw [mapTo_zero]
      simp [hbod]
    clear h1 h2 h3 h8 hp8 hp8' h11 hp11 h50 hc1 hc2 h51 h52 ho1 hpar hbod hoth h14 hp14 h74 h75 h76
    rintro n st - - ⟨j, rfl, hj, h1, h2, h3, h8, hp8, hp8', h11, hp11, h50, ⟨hc1, hc2⟩, h51, h52, h14, hp14, h91, h92, h93, ho1, hpar, hbod, hoth⟩
    all_goals have fx := And.intro h92 <| h93
    repeat' (first
     | refine w_seq ?_ | refine w_reg fun K hK => ?_
     | ((with_reducible refine s_end hK ?_); clear hK K)
     | (with_reducible refine s_none ?_)
     | (with_reducible refine x_q (h := ?_))
     | fail)
    all_goals try clear fx
    refine w_if (by simp []; first | done | rfl | exact (Bool.not_not _).symm) (fun ht => ?_) (fun hf => ?_)
    · have hjl : j < q.body.length := by simpa using ht
      obtain ⟨u, hpu⟩ : ∃ u, q.body[j]? = some u := ⟨_, List.getElem?_eq_getElem hjl⟩
      have hm := mapTo_get (f := fun s => s.ren X Y) hpu
      obtain ⟨_, hm'⟩ := List.getElem?_eq_some_iff.1 hm
      have huk := (hp.names q (List.mem_of_getElem? hq)).kinds u (List.mem_of_getElem? hpu)
      clear ht
      all_goals have fx := And.intro h2 <| And.intro h3 <| And.intro h14 <| And.intro hp14 <| And.intro h91 <| And.intro h92 <| And.intro h93 <| And.intro hbod <| And.intro hjl <| And.intro hm <| hm'
      repeat' (first
       | refine w_seq ?_ | refine w_block ?_ | refine w_skip ?_ | refine w_reg fun K hK => ?_
       | ((with_reducible refine s_end hK ?_); clear hK K)
       | (with_reducible first | refine then_normal ?_ | refine s_nil ?_)
       | (with_reducible refine s_none ?_)
       | (with_reducible first | refine x_assign (h := ?_) | refine x_alloc (h := ?_) | refine x_store0 (h := ?_))
       | ((with_reducible refine o_id 53 rfl ?_); refine x_call (hF := impl_renamed_fn _ u X Y huk) (h := ?_))
       | (with_reducible refine x_q (h := ?_))
       | (refine w_sch (id := 21) (.q 0 <| .q 1 <| .q 2 <| .q 3 <| .q 4 <| .q 5 <| .l 6 [2, 1, 0] <| .q 7 <| .l 8 [] <| .done) mixed (by kernel_rfl) (by kernel_rfl) fun K hK => ?_)
       | ((with_reducible refine a_end hK ?_); clear hK K)
       | ((with_reducible refine a_id ?_); first | refine xa_q (h := ?_))
       | refine a_l rfl ?_ | (with_reducible refine And.intro ?_ ?_) | exact st_nil | refine xa_st (h2 := ?_)
       | fail)
      all_goals try clear fx
      refine ⟨q.body.length - (j + 1), by omega, j + 1, rfl, by omega, by simp [h1], by simp [h2], by simp [h3], by simp [h8], by simp [hp8], by simp [hp8'], by simp [h11], by simp [hp11], by simp [h50], ⟨by simp [hc1], fun j k hj hk => by simp [hc2 j k hj hk]⟩, by simp [h51], by simp [h52], by simp [h14], by simp [hp14], by simp [h91], by simp [h92], by simp; exact wrp (by omega) (by omega), by simp [ho1], by simp [hpar], ?_, fun d k hq hd => ⟨by simp [(hoth d k hq hd).1], by simp [(hoth d k hq hd).2, hd]⟩⟩
      rw [← mapTo_set (f := fun s => s.ren X Y) hpu]
      simp [srows_set]
    have hge : j = q.body.length := by
      have : ¬ j < q.body.length := by simpa using hf
      omega
    subst hge
    rw [mapTo_all] at hbod
    clear hf
    all_goals have fx :=  h52
    repeat' (first
     | refine w_reg fun K hK => ?_
     | ((with_reducible refine s_end hK ?_); clear hK K)
     | (with_reducible first | refine then_normal ?_)
     | refine w_exit ?_
     | (with_reducible refine s_none ?_)
     | (with_reducible refine x_q (h := ?_))
     | fail)
    all_goals try clear fx
    refine ⟨p.length - (i + 1), by omega, i + 1, rfl, by omega, by simp [h1], by simp [h2], by simp [h3], by simp [h8], by simp [hp8], by simp [hp8'], by simp [h11], by simp [hp11], by simp [h50], ⟨by simp [hc1], fun j k hj hk => by simp [hc2 j k hj hk]⟩, by simp [h51], by simp; exact wrp (by omega) (by omega), ?_⟩
    rw [← upto_step hq hto]
    refine ⟨?_, fun d k hq => ?_, fun d k hq => ?_⟩
    · rw [pRows_ren hkR]
      simp [ho1]
    all_goals
      rw [List.getElem?_set] at hq
      by_cases e : i = d
      · subst e
        rw [if_pos rfl, if_pos (List.getElem?_eq_some_iff.1 hkR).1] at hq
        obtain rfl := Option.some.inj hq
        simp [hpar, hbod, Blk.ren]
      · rw [if_neg e] at hq
        simp [(hoth d k hq (Ne.symm e)).1, (hoth d k hq (Ne.symm e)).2]
  have hge : i = p.length := by
    have : ¬ i < p.length := by simpa using hf
    omega
  subst hge
  simp only [upto_all] at ho1 ho2 ho3
  clear hf
  all_goals have fx := And.intro h8 <| And.intro hp8 <| And.intro hp8' <| And.intro h11 <| hp11
  repeat' (first
   | refine w_seq ?_ | refine w_reg fun K hK => ?_
   | ((with_reducible refine s_end hK ?_); clear hK K)
   | (with_reducible first | refine then_normal ?_)
   | refine w_exit ?_
   | refine w_ret ?_
   | (with_reducible refine s_none ?_)
   | (with_reducible first | refine x_assign (h := ?_) | refine x_store0 (h := ?_))
   | (with_reducible refine x_q (h := ?_))
   | fail)
  all_goals try clear fx
  refine e_ret [(.c (.s 11) 0 0, root)] (.one rfl) (by simp [h8]; rfl) ⟨by simp, ⟨?_, fun j r hj => ?_, fun j r hj => ?_⟩⟩
  · simp [ho1, pRows_tr (n := .c (.s 11) 0 0) (m := root) (f := finf noD [(.c (.s 11) 0 0, root)]) (p := renS (touches p B X) X Y p) (by simp)]
  · simp [ho2 j r hj]
  · simp [ho3 j r hj]
end Go.Proofs.Ytopgafhjmbfaoaa
end

section
/-
  The law on renaming back: what it returns, if the plain law holds.
-/
set_option maxRecDepth 100000
set_option maxHeartbeats 4000000
set_option linter.unusedSimpArgs false
namespace Go.Proofs.Ytopgafhjmbfaoaa
open Go Go.Hm Go.Proofs

theorem FnRenameInBack_fn (gl) (code : List Int) (hcode : ∀ v ∈ code, 0 ≤ v ∧ v ≤ 255) (hbig : code.length ≤ 1152921504606846976) (law : ∀ (p : Prg) (b : Nat) (x y : Int), Sml p → renOk p b x y = true → BackOk p b x y) :
    FnOk Try.prog gl 5 [bsl code] (fun _ z _ => z = bv true) := by
  refine FnOk.of_sem Try.func5 rfl (by kernel_rfl) (rs := [.tmp 2]) rfl Try.ntmps5 (Nat.le_of_ble_eq_true rfl) fun C w g root => ?_
  by_cases hlen : 1048576 < code.length
  · have hl1 : (1048576 : Int) < code.length := by omega
    all_goals have fx :=  hl1
    repeat' (first
     | refine w_seq ?_ | refine w_reg fun K hK => ?_
     | ((with_reducible refine s_end hK ?_); clear hK K)
     | (with_reducible first | refine then_normal ?_ | refine then_ret ?_)
     | refine w_ret ?_
     | (with_reducible refine s_none ?_)
     | (with_reducible first | refine x_assign (h := ?_))
     | (with_reducible refine x_q (h := ?_))
     | refine x_condt (h1 := ?_)
     | fail)
    all_goals try clear fx
    refine e_ret [] .nil (by simp; rfl) ?_
    simp
  have hl1 : ¬ (1048576 : Int) < code.length := by omega
  have hc : CodeOk code := ⟨by omega, hcode⟩
  all_goals have fx :=  hl1
  repeat' (first
   | refine w_seq ?_ | refine w_skip ?_ | refine w_reg fun K hK => ?_
   | ((with_reducible refine s_end hK ?_); clear hK K)
   | (with_reducible first | refine then_normal ?_)
   | (with_reducible refine s_none ?_)
   | (with_reducible first | refine x_assign (h := ?_))
   | ((with_reducible refine o_id 16 rfl ?_); refine x_callg (hF := DrawRenameIn_fn _ code hc) (h := ?_))
   | (with_reducible refine x_q (h := ?_))
   | refine x_condf (h1 := ?_)
   | fail)
  all_goals try clear fx
  rintro z H1 ⟨p, b, x, y, rfl, hO, hs⟩
  obtain ⟨ho1, ho2, ho3⟩ := hO.hcln
  refine ⟨by simp, ?_⟩
  have hpl := hs.len
  have hG := renG_sml (b := b) (x := x) (y := y) hs
  have hsf := spec_RenameIn_fn gl p b x y hs
  have hif := impl_RenameIn_fn gl p b x y hs
  generalize hok : renOk p b x y = ok at hsf hif
  generalize hg : renG p b x y = G at hsf hif hG
  have hGl := hG.len
  all_goals have fx :=  ho1
  repeat' (first
   | refine w_seq ?_ | refine w_reg fun K hK => ?_
   | ((with_reducible refine s_end hK ?_); clear hK K)
   | (with_reducible refine s_none ?_)
   | (with_reducible first | refine x_assign (h := ?_) | refine x_alloc (h := ?_) | refine x_store0 (h := ?_))
   | (with_reducible refine x_q (h := ?_))
   | fail)
  all_goals try clear fx
  refine o_abs (fun st => BoxP st 3 p ∧ st.tm 4 = iv b ∧ st.tm 5 = iv x ∧ st.tm 6 = iv y ∧ st.tm 26 = .agg [.hs (.c (.s 3) 0 0) 4 0 p.length] ∧ st.tm 27 = iv b ∧ st.tm 28 = iv x ∧ st.tm 29 = iv y) ⟨⟨by simp, by simp, ⟨by simp [ho1], fun j r hj => by simp [ho2 j r hj], fun j r hj => by simp [ho3 j r hj]⟩⟩, by simp, by simp, by simp, by simp, by simp, by simp, by simp⟩ ?_
  clear hO ho1 ho2 ho3
  rintro st ⟨⟨h3, hp3, ⟨a1, a2, a3⟩⟩, h4, h5, h6, h26, h27, h28, h29⟩
  all_goals have fx := And.intro h26 <| And.intro h27 <| And.intro h28 <| h29
  repeat' (first
   | ((with_reducible refine o_id 15 rfl ?_); refine x_callg (hB := (by first | ((repeat' (first | exact .nil | refine .cons ?_ ?_ | exact .refl _ | exact bw_ints (by simp [fx]; first | done | rfl) (by first | (simp [fx]; done) | (simp [fx]; omega) | omega) | exact bw_list (by simp [fx]; first | done | rfl) (by first | (simp [fx]; done) | (simp [fx]; omega) | omega) (by first | (simp; done) | fail) | exact bw_agg1 (bw_prog (p := p) (n := .c (.s 3) 0 0) ⟨by simp [a1], fun j r hj => by simp [a2 j r hj], fun j r hj => by simp [a3 j r hj]⟩ rfl))); done) | fail)) (hF := hif) (h := ?_))
   | fail)
  all_goals try clear fx
  rintro z H2 ⟨rfl, hO⟩
  obtain ⟨ho1, ho2, ho3⟩ := hO.hcln
  refine ⟨by simp, ?_⟩
  all_goals have fx := And.intro ho1 <| And.intro h3 <| And.intro hp3 <| And.intro h4 <| And.intro h5 <| h6
  repeat' (first
   | refine w_seq ?_ | refine w_reg fun K hK => ?_
   | ((with_reducible refine s_end hK ?_); clear hK K)
   | (with_reducible refine s_none ?_)
   | (with_reducible first | refine x_assign (h := ?_) | refine x_alloc (h := ?_) | refine x_store0 (h := ?_))
   | (with_reducible refine x_q (h := ?_))
   | fail)
  all_goals try clear fx
  refine o_abs (fun st => BoxP st 3 p ∧ st.tm 4 = iv b ∧ st.tm 5 = iv x ∧ st.tm 6 = iv y ∧ BoxP st 7 G ∧ st.tm 8 = bv ok ∧ st.tm 34 = .agg [.hs (.c (.s 3) 0 0) 4 0 p.length] ∧ st.tm 35 = iv b ∧ st.tm 36 = iv x ∧ st.tm 37 = iv y) ⟨⟨by simp [h3], by simp [hp3], ⟨by simp [a1], fun j r hj => by simp [a2 j r hj], fun j r hj => by simp [a3 j r hj]⟩⟩, by simp [h4], by simp [h5], by simp [h6], ⟨by simp, by simp, ⟨by simp [ho1], fun j r hj => by simp [ho2 j r hj], fun j r hj => by simp [ho3 j r hj]⟩⟩, by simp, by simp [h3, hp3], by simp [h4], by simp [h5], by simp [h6]⟩ ?_
  clear hO ho1 ho2 ho3 h3 hp3 a1 a2 a3 h4 h5 h6 h26 h27 h28 h29
  rintro st ⟨⟨h3, hp3, ⟨a1, a2, a3⟩⟩, h4, h5, h6, ⟨h7, hp7, ⟨b1, b2, b3⟩⟩, h8, h34, h35, h36, h37⟩
  all_goals have fx := And.intro h34 <| And.intro h35 <| And.intro h36 <| h37
  repeat' (first
   | ((with_reducible refine o_id 14 rfl ?_); refine x_callg (hB := (by first | ((repeat' (first | exact .nil | refine .cons ?_ ?_ | exact .refl _ | exact bw_ints (by simp [fx]; first | done | rfl) (by first | (simp [fx]; done) | (simp [fx]; omega) | omega) | exact bw_list (by simp [fx]; first | done | rfl) (by first | (simp [fx]; done) | (simp [fx]; omega) | omega) (by first | (simp; done) | fail) | exact bw_agg1 (bw_prog (p := p) (n := .c (.s 3) 0 0) ⟨by simp [a1], fun j r hj => by simp [a2 j r hj], fun j r hj => by simp [a3 j r hj]⟩ rfl))); done) | fail)) (hF := hsf) (h := ?_))
   | fail)
  all_goals try clear fx
  rintro z H3 ⟨rfl, hO⟩
  obtain ⟨ho1, ho2, ho3⟩ := hO.hcln
  refine ⟨by simp, ?_⟩
  all_goals have fx := And.intro ho1 <| And.intro h7 <| hp7
  repeat' (first
   | refine w_seq ?_ | refine w_reg fun K hK => ?_
   | ((with_reducible refine s_end hK ?_); clear hK K)
   | (with_reducible refine s_none ?_)
   | (with_reducible first | refine x_assign (h := ?_) | refine x_alloc (h := ?_) | refine x_store0 (h := ?_))
   | (with_reducible refine x_q (h := ?_))
   | fail)
  all_goals try clear fx
  refine o_abs (fun st => BoxP st 3 p ∧ st.tm 4 = iv b ∧ st.tm 5 = iv x ∧ st.tm 6 = iv y ∧ BoxP st 7 G ∧ st.tm 8 = bv ok ∧ BoxP st 9 G ∧ st.tm 10 = bv ok ∧ st.tm 41 = .agg [.hs (.c (.s 7) 0 0) 4 0 G.length] ∧ st.tm 42 = .agg [.hs (.c (.s 9) 0 0) 4 0 G.length]) ⟨⟨by simp [h3], by simp [hp3], ⟨by simp [a1], fun j r hj => by simp [a2 j r hj], fun j r hj => by simp [a3 j r hj]⟩⟩, by simp [h4], by simp [h5], by simp [h6], ⟨by simp [h7], by simp [hp7], ⟨by simp [b1], fun j r hj => by simp [b2 j r hj], fun j r hj => by simp [b3 j r hj]⟩⟩, by simp [h8], ⟨by simp, by simp, ⟨by simp [ho1], fun j r hj => by simp [ho2 j r hj], fun j r hj => by simp [ho3 j r hj]⟩⟩, by simp, by simp [h7, hp7], by simp⟩ ?_
  clear hO ho1 ho2 ho3 h3 hp3 a1 a2 a3 h4 h5 h6 h7 hp7 b1 b2 b3 h8 h34 h35 h36 h37
  rintro st ⟨⟨h3, hp3, ⟨a1, a2, a3⟩⟩, h4, h5, h6, ⟨h7, hp7, ⟨b1, b2, b3⟩⟩, h8, ⟨h9, hp9, ⟨c1, c2, c3⟩⟩, h10, h41, h42⟩
  cases ok
  · skip
    all_goals have fx := And.intro h41 <| And.intro h42 <| And.intro h8 <| And.intro h10 <| And.intro h7 <| And.intro hp7 <| And.intro h9 <| And.intro hp9 <| @bne_def
    repeat' (first
     | refine w_seq ?_ | refine w_reg fun K hK => ?_
     | ((with_reducible refine s_end hK ?_); clear hK K)
     | (with_reducible first | refine then_normal ?_ | refine then_ret ?_)
     | refine w_ret ?_
     | (with_reducible refine s_none ?_)
     | ((with_reducible refine g_id ?_); refine x_guard (h := ?_))
     | (with_reducible first | refine gx_tt ?_ | refine gx_ff ?_ | refine x_assign (h := ?_))
     | ((with_reducible refine o_id 17 rfl ?_); refine x_call (hB := (by first | ((repeat' (first | exact .nil | refine .cons ?_ ?_ | exact .refl _ | exact bw_ints (by simp [fx]; first | done | rfl) (by first | (simp [fx]; done) | (simp [fx]; omega) | omega) | exact bw_list (by simp [fx]; first | done | rfl) (by first | (simp [fx]; done) | (simp [fx]; omega) | omega) (by first | (simp; done) | fail) | exact bw_agg1 (bw_prog (p := G) (n := .c (.s 7) 0 0) ⟨by simp [b1], fun j r hj => by simp [b2 j r hj], fun j r hj => by simp [b3 j r hj]⟩ rfl) | exact bw_agg1 (bw_prog (p := G) (n := .c (.s 9) 0 0) ⟨by simp [c1], fun j r hj => by simp [c2 j r hj], fun j r hj => by simp [c3 j r hj]⟩ rfl))); done) | fail)) (hF := equalProgram_fn _ G G hG hG) (h := ?_))
     | (with_reducible refine x_q (h := ?_))
     | refine x_condt (h1 := ?_)
     | fail)
    all_goals try clear fx
    refine e_ret [] .nil (by simp; rfl) ?_
    simp
  obtain ⟨B, rfl⟩ : ∃ B : Nat, b = B := by
    simp only [renOk, Bool.and_eq_true, decide_eq_true_eq] at hok
    exact ⟨b.toNat, by omega⟩
  have hl := law p B x y hs hok
  obtain ⟨hvG, hfine, hbk⟩ := hl
  rw [hg] at hvG hfine hbk
  have hGlen : G.length = p.length := by rw [← hg]; simp [renG, hok]
  have hv : progOk p = true := by
    simp only [renOk, Bool.and_eq_true] at hok
    exact hok.1.1.1.1.1
  have hsh : shapeOk p = true := by
    simp only [progOk, Bool.and_eq_true] at hv
    exact hv.1
  have hP := ShapeP.of hs hsh
  have hBl : B < p.length := by
    simp only [renOk, Bool.and_eq_true, decide_eq_true_eq] at hok
    omega
  have hBk := renG_sml (b := B) (x := y) (y := x) hG
  have hif2 := impl_RenameIn_fn gl G B y x hG
  generalize renOk G B y x = fine at hif2 hfine hbk
  generalize renG G B y x = Bk at hif2 hbk hBk
  have hBkl := hBk.len
  all_goals have fx := And.intro h41 <| And.intro h42 <| And.intro h8 <| And.intro h10 <| And.intro h7 <| And.intro hp7 <| And.intro h9 <| And.intro hp9 <| And.intro @bne_def <| And.intro h4 <| And.intro h5 <| h6
  repeat' (first
   | refine w_seq ?_ | refine w_skip ?_ | refine w_reg fun K hK => ?_
   | ((with_reducible refine s_end hK ?_); clear hK K)
   | (with_reducible first | refine then_normal ?_)
   | (with_reducible refine s_none ?_)
   | ((with_reducible refine g_id ?_); refine x_guard (h := ?_))
   | (with_reducible first | refine gx_ff ?_)
   | ((with_reducible refine o_id 17 rfl ?_); refine x_call (hB := (by first | ((repeat' (first | exact .nil | refine .cons ?_ ?_ | exact .refl _ | exact bw_ints (by simp [fx]; first | done | rfl) (by first | (simp [fx]; done) | (simp [fx]; omega) | omega) | exact bw_list (by simp [fx]; first | done | rfl) (by first | (simp [fx]; done) | (simp [fx]; omega) | omega) (by first | (simp; done) | fail) | exact bw_agg1 (bw_prog (p := G) (n := .c (.s 7) 0 0) ⟨by simp [b1], fun j r hj => by simp [b2 j r hj], fun j r hj => by simp [b3 j r hj]⟩ rfl) | exact bw_agg1 (bw_prog (p := G) (n := .c (.s 9) 0 0) ⟨by simp [c1], fun j r hj => by simp [c2 j r hj], fun j r hj => by simp [c3 j r hj]⟩ rfl))); done) | fail)) (hF := equalProgram_fn _ G G hG hG) (h := ?_))
   | ((with_reducible refine o_id 15 rfl ?_); refine x_callg (hB := (by first | ((repeat' (first | exact .nil | refine .cons ?_ ?_ | exact .refl _ | exact bw_ints (by simp [fx]; first | done | rfl) (by first | (simp [fx]; done) | (simp [fx]; omega) | omega) | exact bw_list (by simp [fx]; first | done | rfl) (by first | (simp [fx]; done) | (simp [fx]; omega) | omega) (by first | (simp; done) | fail) | exact bw_agg1 (bw_prog (p := G) (n := .c (.s 7) 0 0) ⟨by simp [b1], fun j r hj => by simp [b2 j r hj], fun j r hj => by simp [b3 j r hj]⟩ rfl) | exact bw_agg1 (bw_prog (p := G) (n := .c (.s 9) 0 0) ⟨by simp [c1], fun j r hj => by simp [c2 j r hj], fun j r hj => by simp [c3 j r hj]⟩ rfl))); done) | fail)) (hF := hif2) (h := ?_))
   | (with_reducible refine x_q (h := ?_))
   | refine x_condf (h1 := ?_)
   | fail)
  all_goals try clear fx
  rintro z H4 ⟨rfl, hO⟩
  obtain ⟨ho1, ho2, ho3⟩ := hO.hcln
  refine ⟨by simp, ?_⟩
  all_goals have fx :=  ho1
  repeat' (first
   | refine w_seq ?_ | refine w_block ?_ | refine w_reg fun K hK => ?_
   | ((with_reducible refine s_end hK ?_); clear hK K)
   | (with_reducible refine s_none ?_)
   | (with_reducible first | refine x_assign (h := ?_) | refine x_alloc (h := ?_) | refine x_store0 (h := ?_))
   | (with_reducible refine x_q (h := ?_))
   | fail)
  all_goals try clear fx
  have hil := insTo_len (p := p) (b := (B : Int)) p.length
  have hl7 := hP.len
  refine w_loop (fun n st => ∃ c : Nat, n = p.length - c ∧ c ≤ p.length ∧ BoxP st 3 p ∧ st.tm 4 = iv B ∧ st.tm 5 = iv x ∧ BoxP st 7 G ∧ BoxP st 11 Bk ∧ st.tm 12 = bv fine ∧ st.tm 13 = bv (otherTo p G B x c) ∧ st.tm 14 = iv c) p.length ?_ ?_
  · exact ⟨0, by omega, by omega, ⟨by simp [h3], by simp [hp3], ⟨by simp [a1], fun j r hj => by simp [a2 j r hj], fun j r hj => by simp [a3 j r hj]⟩⟩, by simp [h4], by simp [h5], ⟨by simp [h7], by simp [hp7], ⟨by simp [b1], fun j r hj => by simp [b2 j r hj], fun j r hj => by simp [b3 j r hj]⟩⟩, ⟨by simp, by simp, ⟨by simp [ho1], fun j r hj => by simp [ho2 j r hj], fun j r hj => by simp [ho3 j r hj]⟩⟩, by simp, by simp [otherTo], by simp⟩
  clear hO ho1 ho2 ho3 h3 hp3 a1 a2 a3 h4 h5 h6 h7 hp7 b1 b2 b3 h8 h9 hp9 c1 c2 c3 h10 h41 h42
  rintro n st - - ⟨c, rfl, hcl, ⟨h3, hp3, ⟨a1, a2, a3⟩⟩, h4, h5, ⟨h7, hp7, ⟨b1, b2, b3⟩⟩, ⟨h11, hp11, ⟨c1, c2, c3⟩⟩, h12, h13, h14⟩
  all_goals have fx := And.intro h3 <| And.intro hp3 <| h14
  repeat' (first
   | refine w_seq ?_ | refine w_reg fun K hK => ?_
   | ((with_reducible refine s_end hK ?_); clear hK K)
   | (with_reducible first | refine then_normal ?_)
   | (with_reducible refine s_none ?_)
   | (with_reducible refine x_q (h := ?_))
   | fail)
  all_goals try clear fx
  refine w_if (by simp []; first | done | rfl | exact (Bool.not_not _).symm) (fun ht => ?_) (fun hf => ?_)
  · have hlt : c < p.length := by simpa using ht
    clear ht
    obtain ⟨kG, hkG⟩ : ∃ k, G[c]? = some k := ⟨_, List.getElem?_eq_getElem (by omega)⟩
    have husl : kG.us.length ≤ 8 := kG.us_len
    have hus : usAt G c = kG.us := by simp only [usAt, hkG]
    have hst := otherTo_succ (p := p) (q := G) (b := B) (x := x) (n := c)
    rw [hus] at hst
    have hmi : (c : Int) ∈ insTo p B p.length ↔ inside p c B = true := by
      rw [mem_insTo]
      exact ⟨fun h => h.2, fun h => ⟨hlt, h⟩⟩
    cases hoc : otherTo p G B x c
    rotate_left
    · rw [hoc, Bool.true_or] at hst
      all_goals have fx := And.intro h3 <| And.intro hp3 <| And.intro h4 <| And.intro h5 <| And.intro h7 <| And.intro hp7 <| And.intro h13 <| And.intro h14 <| hoc
      repeat' (first
       | refine w_seq ?_ | refine w_block ?_ | refine w_skip ?_ | refine w_reg fun K hK => ?_
       | ((with_reducible refine s_end hK ?_); clear hK K)
       | (with_reducible first | refine then_normal ?_)
       | (with_reducible refine s_none ?_)
       | ((with_reducible refine g_id ?_); refine x_guard (h := ?_))
       | (with_reducible first | refine x_ft (h := ?_) | refine x_u (h := ?_) | refine x_assign (h := ?_))
       | (with_reducible refine x_q (h := ?_))
       | fail)
      all_goals try clear fx
      exact ⟨p.length - (c + 1), by omega, c + 1, rfl, by omega, ⟨by simp [h3], by simp [hp3], ⟨by simp [a1], fun j r hj => by simp [a2 j r hj], fun j r hj => by simp [a3 j r hj]⟩⟩, by simp [h4], by simp [h5], ⟨by simp [h7], by simp [hp7], ⟨by simp [b1], fun j r hj => by simp [b2 j r hj], fun j r hj => by simp [b3 j r hj]⟩⟩, ⟨by simp [h11], by simp [hp11], ⟨by simp [c1], fun j r hj => by simp [c2 j r hj], fun j r hj => by simp [c3 j r hj]⟩⟩, by simp [h12], by simp [hst], by simp; exact wrp (by omega) (by omega)⟩
    rw [hoc, Bool.false_or] at hst
    cases hin : inside p c B
    · have hni : (c : Int) ∉ insTo p B p.length := fun h => by rw [hmi.1 h] at hin; cases hin
      rw [hin, Bool.false_and] at hst
      all_goals have fx := And.intro h3 <| And.intro hp3 <| And.intro h4 <| And.intro h5 <| And.intro h7 <| And.intro hp7 <| And.intro h13 <| And.intro h14 <| And.intro hoc <| hni
      repeat' (first
       | refine w_seq ?_ | refine w_block ?_ | refine w_skip ?_ | refine w_reg fun K hK => ?_
       | ((with_reducible refine s_end hK ?_); clear hK K)
       | (with_reducible first | refine then_normal ?_)
       | (with_reducible refine s_none ?_)
       | ((with_reducible refine g_id ?_); refine x_guard (h := ?_))
       | (with_reducible first | refine gx_ff ?_ | refine x_tf (h := ?_) | refine x_assign (h := ?_))
       | ((with_reducible refine o_id 19 rfl ?_); refine x_callh (hB := (by first | ((repeat' (first | exact .nil | refine .cons ?_ ?_ | exact .refl _ | exact bw_ints (by simp [fx]; first | done | rfl) (by first | (simp [fx]; done) | (simp [fx]; omega) | omega) | exact bw_list (by simp [fx]; first | done | rfl) (by first | (simp [fx]; done) | (simp [fx]; omega) | omega) (by first | (simp; done) | fail) | exact bw_agg1 (bw_prog (p := p) (n := .c (.s 3) 0 0) ⟨by simp [a1], fun j r hj => by simp [a2 j r hj], fun j r hj => by simp [a3 j r hj]⟩ rfl))); done) | fail)) (hF := InsideOf_fn _ p B hs hP hsh hBl) (h := ?_))
       | ((with_reducible refine o_id 18 rfl ?_); refine x_call (hB := (by first | ((repeat' (first | exact .nil | refine .cons ?_ ?_ | exact .refl _ | exact bw_ints (by simp [fx]; first | done | rfl) (by first | (simp [fx]; done) | (simp [fx]; omega) | omega) | exact bw_list (by simp [fx]; first | done | rfl) (by first | (simp [fx]; done) | (simp [fx]; omega) | omega) (by first | (simp; done) | fail) | exact bw_agg1 (bw_prog (p := p) (n := .c (.s 3) 0 0) ⟨by simp [a1], fun j r hj => by simp [a2 j r hj], fun j r hj => by simp [a3 j r hj]⟩ rfl))); done) | fail)) (hF := isIn_fn _ _ _ (by first | omega | (simp; omega))) (h := ?_))
       | (with_reducible refine x_q (h := ?_))
       | fail)
      all_goals try clear fx
      exact ⟨p.length - (c + 1), by omega, c + 1, rfl, by omega, ⟨by simp [h3], by simp [hp3], ⟨by simp [a1], fun j r hj => by simp [a2 j r hj], fun j r hj => by simp [a3 j r hj]⟩⟩, by simp [h4], by simp [h5], ⟨by simp [h7], by simp [hp7], ⟨by simp [b1], fun j r hj => by simp [b2 j r hj], fun j r hj => by simp [b3 j r hj]⟩⟩, ⟨by simp [h11], by simp [hp11], ⟨by simp [c1], fun j r hj => by simp [c2 j r hj], fun j r hj => by simp [c3 j r hj]⟩⟩, by simp [h12], by simp [hst], by simp; exact wrp (by omega) (by omega)⟩
    · have hyi : (c : Int) ∈ insTo p B p.length := hmi.2 hin
      rw [hin, Bool.true_and] at hst
      all_goals have fx := And.intro h3 <| And.intro hp3 <| And.intro h4 <| And.intro h5 <| And.intro h7 <| And.intro hp7 <| And.intro h13 <| And.intro h14 <| And.intro hoc <| hyi
      repeat' (first
       | refine w_seq ?_ | refine w_block ?_ | refine w_skip ?_ | refine w_reg fun K hK => ?_
       | ((with_reducible refine s_end hK ?_); clear hK K)
       | (with_reducible first | refine then_normal ?_)
       | (with_reducible refine s_none ?_)
       | ((with_reducible refine g_id ?_); refine x_guard (h := ?_))
       | (with_reducible first | refine gx_tt ?_ | refine gx_ff ?_ | refine x_assign (h := ?_))
       | ((with_reducible refine o_id 19 rfl ?_); refine x_callh (hB := (by first | ((repeat' (first | exact .nil | refine .cons ?_ ?_ | exact .refl _ | exact bw_ints (by simp [fx]; first | done | rfl) (by first | (simp [fx]; done) | (simp [fx]; omega) | omega) | exact bw_list (by simp [fx]; first | done | rfl) (by first | (simp [fx]; done) | (simp [fx]; omega) | omega) (by first | (simp; done) | fail) | exact bw_agg1 (bw_prog (p := p) (n := .c (.s 3) 0 0) ⟨by simp [a1], fun j r hj => by simp [a2 j r hj], fun j r hj => by simp [a3 j r hj]⟩ rfl) | exact bw_agg1 (bw_prog (p := G) (n := .c (.s 7) 0 0) ⟨by simp [b1], fun j r hj => by simp [b2 j r hj], fun j r hj => by simp [b3 j r hj]⟩ rfl))); done) | fail)) (hF := InsideOf_fn _ p B hs hP hsh hBl) (h := ?_))
       | ((with_reducible refine o_id 20 rfl ?_); refine x_callh (hB := (by first | ((repeat' (first | exact .nil | refine .cons ?_ ?_ | exact .refl _ | exact bw_ints (by simp [fx]; first | done | rfl) (by first | (simp [fx]; done) | (simp [fx]; omega) | omega) | exact bw_list (by simp [fx]; first | done | rfl) (by first | (simp [fx]; done) | (simp [fx]; omega) | omega) (by first | (simp; done) | fail) | exact bw_agg1 (bw_prog (p := p) (n := .c (.s 3) 0 0) ⟨by simp [a1], fun j r hj => by simp [a2 j r hj], fun j r hj => by simp [a3 j r hj]⟩ rfl) | exact bw_agg1 (bw_prog (p := G) (n := .c (.s 7) 0 0) ⟨by simp [b1], fun j r hj => by simp [b2 j r hj], fun j r hj => by simp [b3 j r hj]⟩ rfl))); done) | fail)) (hF := UsedIn_fn _ G c kG hkG hG hvG) (h := ?_))
       | ((with_reducible refine o_id 18 rfl ?_); refine x_call (hB := (by first | ((repeat' (first | exact .nil | refine .cons ?_ ?_ | exact .refl _ | exact bw_ints (by simp [fx]; first | done | rfl) (by first | (simp [fx]; done) | (simp [fx]; omega) | omega) | exact bw_list (by simp [fx]; first | done | rfl) (by first | (simp [fx]; done) | (simp [fx]; omega) | omega) (by first | (simp; done) | fail) | exact bw_agg1 (bw_prog (p := p) (n := .c (.s 3) 0 0) ⟨by simp [a1], fun j r hj => by simp [a2 j r hj], fun j r hj => by simp [a3 j r hj]⟩ rfl) | exact bw_agg1 (bw_prog (p := G) (n := .c (.s 7) 0 0) ⟨by simp [b1], fun j r hj => by simp [b2 j r hj], fun j r hj => by simp [b3 j r hj]⟩ rfl))); done) | fail)) (hF := isIn_fn _ _ _ (by first | omega | (simp; omega))) (h := ?_))
       | (with_reducible refine x_q (h := ?_))
       | fail)
      all_goals try clear fx
      exact ⟨p.length - (c + 1), by omega, c + 1, rfl, by omega, ⟨by simp [h3], by simp [hp3], ⟨by simp [a1], fun j r hj => by simp [a2 j r hj], fun j r hj => by simp [a3 j r hj]⟩⟩, by simp [h4], by simp [h5], ⟨by simp [h7], by simp [hp7], ⟨by simp [b1], fun j r hj => by simp [b2 j r hj], fun j r hj => by simp [b3 j r hj]⟩⟩, ⟨by simp [h11], by simp [hp11], ⟨by simp [c1], fun j r hj => by simp [c2 j r hj], fun j r hj => by simp [c3 j r hj]⟩⟩, by simp [h12], by simp [hst], by simp; exact wrp (by omega) (by omega)⟩
  · have hge : c = p.length := by
      have : ¬ c < p.length := by simpa using hf
      omega
    subst hge
    clear hf
    cases hot : otherTo p G B x p.length
    · rw [hot] at h13 hfine
      have hft : fine = true := by rw [hfine]; rfl
      subst hft
      have hb2 := hbk rfl
      subst hb2
      all_goals have fx := And.intro h12 <| And.intro h13 <| And.intro h3 <| And.intro hp3 <| And.intro h11 <| hp11
      repeat' (first
       | refine w_seq ?_ | refine w_reg fun K hK => ?_
       | ((with_reducible refine s_end hK ?_); clear hK K)
       | (with_reducible first | refine then_normal ?_)
       | refine w_exit ?_
       | refine w_ret ?_
       | (with_reducible refine s_none ?_)
       | ((with_reducible refine g_id ?_); refine x_guard (h := ?_))
       | (with_reducible first | refine gx_tt ?_ | refine gx_ff ?_ | refine x_tf (h := ?_) | refine x_assign (h := ?_))
       | ((with_reducible refine o_id 17 rfl ?_); refine x_call (hB := (by first | ((repeat' (first | exact .nil | refine .cons ?_ ?_ | exact .refl _ | exact bw_ints (by simp [fx]; first | done | rfl) (by first | (simp [fx]; done) | (simp [fx]; omega) | omega) | exact bw_list (by simp [fx]; first | done | rfl) (by first | (simp [fx]; done) | (simp [fx]; omega) | omega) (by first | (simp; done) | fail) | exact bw_agg1 (bw_prog (p := Bk) (n := .c (.s 11) 0 0) ⟨by simp [c1], fun j r hj => by simp [c2 j r hj], fun j r hj => by simp [c3 j r hj]⟩ rfl) | exact bw_agg1 (bw_prog (p := Bk) (n := .c (.s 3) 0 0) ⟨by simp [a1], fun j r hj => by simp [a2 j r hj], fun j r hj => by simp [a3 j r hj]⟩ rfl))); done) | fail)) (hF := equalProgram_fn _ Bk Bk hBk hBk) (h := ?_))
       | (with_reducible refine x_q (h := ?_))
       | fail)
      all_goals try clear fx
      refine e_ret [] .nil (by simp; rfl) ?_
      simp
    · rw [hot] at h13 hfine
      have hff : fine = false := by rw [hfine]; rfl
      subst hff
      all_goals have fx := And.intro h12 <| h13
      repeat' (first
       | refine w_seq ?_ | refine w_reg fun K hK => ?_
       | ((with_reducible refine s_end hK ?_); clear hK K)
       | (with_reducible first | refine then_normal ?_)
       | refine w_exit ?_
       | refine w_ret ?_
       | (with_reducible refine s_none ?_)
       | ((with_reducible refine g_id ?_); refine x_guard (h := ?_))
       | (with_reducible first | refine gx_tt ?_ | refine x_ft (h := ?_) | refine x_u (h := ?_) | refine x_assign (h := ?_))
       | (with_reducible refine x_q (h := ?_))
       | fail)
      all_goals try clear fx
      refine e_ret [] .nil (by simp; rfl) ?_
      simp
end Go.Proofs.Ytopgafhjmbfaoaa
end
