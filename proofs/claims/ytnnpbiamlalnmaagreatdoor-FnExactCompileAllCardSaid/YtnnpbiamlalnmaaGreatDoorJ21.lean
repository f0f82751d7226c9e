/-
  Own texts, joined by mkclaim.py: Kd, Kk, Km, Ko, Kp, Hn.
-/
import Derived.Test.YtnnpbiamlalnmaaGreatDoorJ20
import Derived.Test.YtnnpbiamlalnmaaGreatDoorJ19
import Derived.Test.YtnnpbiamlalnmaaGreatDoorJ17
import Derived.Test.YtnnpbiamlalnmaaGreatDoorJ10
import Derived.Test.YtnnpbiamlalnmaaGreatDoorJ11
set_option linter.unusedSimpArgs false
set_option linter.unusedVariables false
set_option maxRecDepth 100000
set_option maxHeartbeats 4000000

section
namespace Go.Proofs.YtnnpbiamlalnmaaGreatDoor
open Go Go.Hm Go.Proofs
theorem shape_kind3 {p : Prg} (h : ShapeP p) {i : Nat} {k : Blk} (hk : p[i]? = some k) : k.kind = 0 ∨ k.kind = 1 ∨ k.kind = 2 := by
  have := h.head i k hk
  unfold HeadOk at this
  split at this <;> omega
theorem sorted_idem {l : List Int} : sorted (sorted l) = sorted l := sorted_same fun x hx => by
  rw [Go.Hm.mem_sorted]
  exact ⟨fun h => h.1, fun h => ⟨h, by omega, by omega⟩⟩
theorem sorted_cells {p : Prg} {b : Nat} : sorted (cellsL p b) = cellsL p b := by
  unfold cellsL
  split
  · exact sorted_idem
  · rfl
theorem placeIn_none {xs : List Int} {x : Int} : (placeIn xs x == -1) = !decide (x ∈ xs) := by
  have h1 := placeIn_nonneg (xs := xs) (x := x)
  have h2 := placeIn_bd (xs := xs) (x := x)
  by_cases h : x ∈ xs
  · have := h1.2 h
    simp [h]
    omega
  · have : ¬ 0 ≤ placeIn xs x := fun e => h (h1.1 e)
    simp [h]
    omega
theorem fastsOf_fn (gl) (p : Prg) (hp : ShapeP p) (b : Nat) (k : Blk) (hk : p[b]? = some k) (hk1 : k.kind = 1) : FnOk Tryz.prog gl 51 [scsl p, iv b] (fun r y H' => y = .hs r 1 0 (fastsL p b).length ∧ H' r = some (.row 1 (irows (fastsL p b)))) := by
  have hh := hp.heads
  have hl7 := hp.len
  obtain ⟨hbl, hbE⟩ := gS hk
  have hka : kindAt p b = k.kind := by simp [kindAt, hk]
  have hsg := scRows_get (p := p) hbl
  rw [scopeA_eq hh hk] at hsg
  obtain ⟨_, hse⟩ := gS hsg
  have hc : fastsL p b = sorted (picked (fastIn p b) 8) := by
    rw [sorted_picked]
    simp [fastsL, hka, hk1]
  have hkd : (k.kind == 1) = true := by simpa using hk1
  rw [hc]
  refine FnOk.of_sem Tryz.func51 rfl (by kernel_rfl) (rs := [.tmp 4]) rfl Tryz.ntmps51 (Nat.le_of_ble_eq_true rfl) fun C w g root => ?_
  all_goals have fx := And.intro hsg <| And.intro hse <| And.intro hkd <| And.intro hbl <| @bne_def
  repeat' (first
   | refine w_seq ?_ | refine w_block ?_ | refine w_skip ?_ | refine w_reg fun K hK => ?_
   | ((with_reducible refine s_end hK ?_); clear hK K)
   | (with_reducible first | refine then_normal ?_ | refine in_normal ?_ | refine then_exit ?_ | refine in_exit ?_ | refine then_ret ?_ | refine in_ret ?_ | refine in_other (by decide) ?_)
   | refine w_exit ?_
   | refine w_ret ?_
   | (with_reducible refine s_none ?_)
   | ((with_reducible refine g_id ?_); refine x_guard (h := ?_))
   | (with_reducible first | refine gx_tt ?_ | refine gx_ff ?_ | refine x_tf (h := ?_) | refine x_ft (h := ?_) | refine x_u (h := ?_) | refine x_assign (h := ?_) | refine x_alloc (h := ?_) | refine x_store0 (h := ?_))
   | ((with_reducible refine o_id 52 rfl ?_); refine x_call (hF := cellSet_fn _ p hp b k hk) (h := ?_))
   | (with_reducible refine x_q (h := ?_))
   | (with_reducible refine gx_s (fun ht => ?_) (fun ht => ?_))
   | refine x_condt (h1 := ?_) | refine x_condf (h1 := ?_)
   | fail)
  all_goals try clear fx
  refine w_loop (fun n st => ∃ x : Nat, n = 8 - x ∧ x ≤ 8 ∧ st.tm 0 = scsl p ∧ st.tm 1 = iv b ∧ st.tm 5 = .pt (.s 5) 0 ∧ st.hp (.s 5) = some (.row 8 [bset (picked (fastIn p b) x)]) ∧ st.tm 6 = .pt (.s 6) 0 ∧ st.hp (.s 6) = some (.row 8 [bset (cellsL p b)]) ∧ st.tm 19 = iv x) 8 ?_ ?_
  · exact ⟨0, by omega, by omega, by simp, by simp, by simp, by simp; rfl, by simp, by simp, by simp⟩
  rintro n st - - ⟨x, rfl, hx, h0, h1, h5, hp5, h6, hp6, h19⟩
  by_cases hx8 : x < 8
  · have hx8' : (x : Int) < 8 := by omega
    have hfi : fastIn p b x = (isLocal b k x && !decide ((x : Int) ∈ cellsL p b)) := by simp only [fastIn, hk]
    have hn2 := picked_succ (f := fastIn p b) (n := x)
    have hno : (x : Int) ∉ picked (fastIn p b) x := fun h => by
      rw [mem_picked_nat] at h
      omega
    have hbg := bset_get (l := cellsL p b) hx8
    obtain ⟨hbgl, hbgE⟩ := gS hbg
    generalize hL : picked (fastIn p b) x = L at hp5 hn2 hno
    cases hlo : isLocal b k x
    · rw [if_neg (by rw [hfi, hlo]; simp)] at hn2
      all_goals have fx := And.intro h0 <| And.intro h1 <| And.intro h5 <| And.intro hp5 <| And.intro h6 <| And.intro hp6 <| And.intro h19 <| And.intro hx8 <| And.intro hx8' <| And.intro hsg <| And.intro hse <| And.intro hbl <| hlo
      repeat' (first
       | refine w_seq ?_ | refine w_block ?_ | refine w_skip ?_ | refine w_reg fun K hK => ?_
       | ((with_reducible refine s_end hK ?_); clear hK K)
       | (with_reducible first | refine then_normal ?_ | refine in_normal ?_ | refine then_exit ?_ | refine in_exit ?_ | refine then_ret ?_ | refine in_ret ?_ | refine in_other (by decide) ?_)
       | refine w_exit ?_
       | refine w_ret ?_
       | (with_reducible refine s_none ?_)
       | ((with_reducible refine g_id ?_); refine x_guard (h := ?_))
       | (with_reducible first | refine gx_tt ?_ | refine gx_ff ?_ | refine x_tf (h := ?_) | refine x_ft (h := ?_) | refine x_u (h := ?_) | refine x_assign (h := ?_) | refine x_alloc (h := ?_) | refine x_store0 (h := ?_))
       | ((with_reducible refine o_id 82 rfl ?_); refine x_call (hF := local_fn' _ p hp b k hk x hx8) (h := ?_))
       | (with_reducible refine x_q (h := ?_))
       | (with_reducible refine gx_s (fun ht => ?_) (fun ht => ?_))
       | refine x_condt (h1 := ?_) | refine x_condf (h1 := ?_)
       | fail)
      all_goals try clear fx
      exact ⟨8 - (x + 1), by omega, x + 1, rfl, by omega, by simp [h0], by simp [h1], by simp [h5], by simp [hn2, bset_same hx8 hno], by simp [h6], by simp [hp6], by simp; exact wrp (by omega) (by omega)⟩
    cases hce : decide ((x : Int) ∈ cellsL p b)
    rotate_left
    · rw [if_neg (by rw [hfi, hlo, hce]; decide)] at hn2
      all_goals have fx := And.intro h0 <| And.intro h1 <| And.intro h5 <| And.intro hp5 <| And.intro h6 <| And.intro hp6 <| And.intro h19 <| And.intro hx8 <| And.intro hx8' <| And.intro hsg <| And.intro hse <| And.intro hbl <| And.intro hlo <| And.intro hbg <| And.intro hbgE <| And.intro hbgl <| hce
      repeat' (first
       | refine w_seq ?_ | refine w_block ?_ | refine w_skip ?_ | refine w_reg fun K hK => ?_
       | ((with_reducible refine s_end hK ?_); clear hK K)
       | (with_reducible first | refine then_normal ?_ | refine in_normal ?_ | refine then_exit ?_ | refine in_exit ?_ | refine then_ret ?_ | refine in_ret ?_ | refine in_other (by decide) ?_)
       | refine w_exit ?_
       | refine w_ret ?_
       | (with_reducible refine s_none ?_)
       | ((with_reducible refine g_id ?_); refine x_guard (h := ?_))
       | (with_reducible first | refine gx_tt ?_ | refine gx_ff ?_ | refine x_tf (h := ?_) | refine x_ft (h := ?_) | refine x_u (h := ?_) | refine x_assign (h := ?_) | refine x_alloc (h := ?_) | refine x_store0 (h := ?_))
       | ((with_reducible refine o_id 82 rfl ?_); refine x_call (hF := local_fn' _ p hp b k hk x hx8) (h := ?_))
       | (with_reducible refine x_q (h := ?_))
       | (with_reducible refine gx_s (fun ht => ?_) (fun ht => ?_))
       | refine x_condt (h1 := ?_) | refine x_condf (h1 := ?_)
       | fail)
      all_goals try clear fx
      exact ⟨8 - (x + 1), by omega, x + 1, rfl, by omega, by simp [h0], by simp [h1], by simp [h5], by simp [hn2, bset_same hx8 hno], by simp [h6], by simp [hp6], by simp; exact wrp (by omega) (by omega)⟩
    · rw [if_pos (by rw [hfi, hlo, hce]; rfl)] at hn2
      all_goals have fx := And.intro h0 <| And.intro h1 <| And.intro h5 <| And.intro hp5 <| And.intro h6 <| And.intro hp6 <| And.intro h19 <| And.intro hx8 <| And.intro hx8' <| And.intro hsg <| And.intro hse <| And.intro hbl <| And.intro hlo <| And.intro hbg <| And.intro hbgE <| And.intro hbgl <| hce
      repeat' (first
       | refine w_seq ?_ | refine w_block ?_ | refine w_skip ?_ | refine w_reg fun K hK => ?_
       | ((with_reducible refine s_end hK ?_); clear hK K)
       | (with_reducible first | refine then_normal ?_ | refine in_normal ?_ | refine then_exit ?_ | refine in_exit ?_ | refine then_ret ?_ | refine in_ret ?_ | refine in_other (by decide) ?_)
       | refine w_exit ?_
       | refine w_ret ?_
       | (with_reducible refine s_none ?_)
       | ((with_reducible refine g_id ?_); refine x_guard (h := ?_))
       | (with_reducible first | refine gx_tt ?_ | refine gx_ff ?_ | refine x_tf (h := ?_) | refine x_ft (h := ?_) | refine x_u (h := ?_) | refine x_assign (h := ?_) | refine x_alloc (h := ?_) | refine x_store0 (h := ?_))
       | ((with_reducible refine o_id 82 rfl ?_); refine x_call (hF := local_fn' _ p hp b k hk x hx8) (h := ?_))
       | (with_reducible refine x_q (h := ?_))
       | (with_reducible refine gx_s (fun ht => ?_) (fun ht => ?_))
       | refine x_condt (h1 := ?_) | refine x_condf (h1 := ?_)
       | fail)
      all_goals try clear fx
      refine ⟨8 - (x + 1), by omega, x + 1, rfl, by omega, by simp [h0], by simp [h1], by simp [h5], ?_, by simp [h6], by simp [hp6], by simp; exact wrp (by omega) (by omega)⟩
      rw [hn2]
      simp [← bset_add (l := L) (y := (x : Int)) rfl hx8]
  · have hge : x = 8 := by omega
    subst hge
    all_goals have fx := And.intro h5 <| And.intro hp5 <| h19
    repeat' (first
     | refine w_seq ?_ | refine w_block ?_ | refine w_skip ?_ | refine w_reg fun K hK => ?_
     | ((with_reducible refine s_end hK ?_); clear hK K)
     | (with_reducible first | refine then_normal ?_ | refine in_normal ?_ | refine then_exit ?_ | refine in_exit ?_ | refine then_ret ?_ | refine in_ret ?_ | refine in_other (by decide) ?_)
     | refine w_exit ?_
     | refine w_ret ?_
     | (with_reducible refine s_none ?_)
     | ((with_reducible refine g_id ?_); refine x_guard (h := ?_))
     | (with_reducible first | refine gx_tt ?_ | refine gx_ff ?_ | refine x_tf (h := ?_) | refine x_ft (h := ?_) | refine x_u (h := ?_) | refine x_assign (h := ?_) | refine x_alloc (h := ?_) | refine x_store0 (h := ?_))
     | ((with_reducible refine o_id 53 rfl ?_); refine x_callh (hF := list_fn _ (picked (fastIn p b) 8)) (h := ?_))
     | (with_reducible refine x_q (h := ?_))
     | (with_reducible refine gx_s (fun ht => ?_) (fun ht => ?_))
     | refine x_condt (h1 := ?_) | refine x_condf (h1 := ?_)
     | fail)
    all_goals try clear fx
    exact e_list (t := 4) (by first | (simp []; done) | (simp []; rfl)) (by first | (simp []; done) | (simp []; rfl)) (by simp)
theorem impl_cellPlace_fn (gl) (p : Prg) (hp : ShapeP p) (b : Nat) (k : Blk) (hk : p[b]? = some k) (x : Nat) (hx : x < 8) : FnOk Tryz.prog gl 101 [scsl p, iv b, iv x] (fun _ y _ => y = iv (cellPl p b x)) := by
  have hbl := (gS hk).1
  have hcl := cellsL_len (p := p) (b := b)
  have hfl := freesL_len (p := p) (b := b)
  have hbd := placeIn_bd (xs := freesL p b) (x := (x : Int))
  have hw : IntKind.i64.wrap (((cellsL p b).length : Int) + placeIn (freesL p b) x) = (cellsL p b).length + placeIn (freesL p b) x := wrp (by omega) (by omega)
  have hli := list_fn gl (cellsL p b)
  rw [sorted_cells] at hli
  have hpn := placeIn_none (xs := cellsL p b) (x := (x : Int))
  refine FnOk.of_sem Tryz.func101 rfl (by kernel_rfl) (rs := [.tmp 6]) rfl Tryz.ntmps101 (Nat.le_of_ble_eq_true rfl) fun C w g root => ?_
  by_cases hm : (x : Int) ∈ cellsL p b
  · have hpn' : (placeIn (cellsL p b) x == -1) = false := by rw [hpn]; simp [hm]
    all_goals have fx := And.intro hpn' <| @bne_def
    repeat' (first
     | refine w_seq ?_ | refine w_skip ?_ | refine w_reg fun K hK => ?_
     | ((with_reducible refine s_end hK ?_); clear hK K)
     | (with_reducible first | refine then_normal ?_ | refine then_ret ?_)
     | refine w_ret ?_
     | (with_reducible first | refine s_none ?_ | refine x_assign (h := ?_))
     | ((with_reducible refine o_id 52 rfl ?_); refine x_call (hF := cellSet_fn _ p hp b k hk) (h := ?_))
     | ((with_reducible refine o_id 53 rfl ?_); refine x_callh (hF := hli) (h := ?_))
     | ((with_reducible refine o_id 100 rfl ?_); refine x_call (hF := placeOf_fn _ (cellsL p b) _ (by omega)) (h := ?_))
     | (with_reducible refine x_q (h := ?_))
     | refine x_condt (h1 := ?_) | refine x_condf (h1 := ?_)
     | fail)
    all_goals try clear fx
    refine e_ret [] .nil (by simp; rfl) ?_
    simp [cellPl, hm]
  · have hpn' : (placeIn (cellsL p b) x == -1) = true := by rw [hpn]; simp [hm]
    all_goals have fx := And.intro hpn' <| And.intro hw <| @bne_def
    repeat' (first
     | refine w_seq ?_ | refine w_skip ?_ | refine w_reg fun K hK => ?_
     | ((with_reducible refine s_end hK ?_); clear hK K)
     | (with_reducible first | refine then_normal ?_ | refine then_ret ?_)
     | refine w_ret ?_
     | (with_reducible first | refine s_none ?_ | refine x_assign (h := ?_))
     | ((with_reducible refine o_id 52 rfl ?_); refine x_call (hF := cellSet_fn _ p hp b k hk) (h := ?_))
     | ((with_reducible refine o_id 53 rfl ?_); refine x_callh (hF := hli) (h := ?_))
     | ((with_reducible refine o_id 100 rfl ?_); refine x_call (hF := placeOf_fn _ (cellsL p b) _ (by omega)) (h := ?_))
     | ((with_reducible refine o_id 54 rfl ?_); refine x_callh (hF := freesOf_fn _ p hp b hbl) (h := ?_))
     | ((with_reducible refine o_id 100 rfl ?_); refine x_call (hF := placeOf_fn _ (freesL p b) _ (by omega)) (h := ?_))
     | (with_reducible refine x_q (h := ?_))
     | refine x_condt (h1 := ?_) | refine x_condf (h1 := ?_)
     | fail)
    all_goals try clear fx
    refine e_ret [] .nil (by simp; rfl) ?_
    simp [cellPl, hm]
theorem symbolOf_fn (gl) (p : Prg) (hp : ShapeP p) (b : Nat) (k : Blk) (hk : p[b]? = some k) (x : Nat) (hx : x < 8) : FnOk Tryz.prog gl 99 [scsl p, iv b, iv x] (fun _ y _ => y = iv (symOf p b x)) := by
  have hh := hp.heads
  have hl7 := hp.len
  obtain ⟨hbl, hbE⟩ := gS hk
  have hka : kindAt p b = k.kind := by simp [kindAt, hk]
  have hsg := scRows_get (p := p) hbl
  rw [scopeA_eq hh hk] at hsg
  obtain ⟨_, hse⟩ := gS hsg
  have hop := owner_pos (p := p) (c := b) (x := (x : Int))
  have hx8 : (x : Int) < 8 := by omega
  refine FnOk.of_sem Tryz.func99 rfl (by kernel_rfl) (rs := [.tmp 6]) rfl Tryz.ntmps99 (Nat.le_of_ble_eq_true rfl) fun C w g root => ?_
  cases ho : (owner p b x == -1)
  rotate_left
  · skip
    all_goals have fx := And.intro hsg <| And.intro hse <| And.intro hbl <| ho
    repeat' (first
     | refine w_seq ?_ | refine w_block ?_ | refine w_skip ?_ | refine w_reg fun K hK => ?_
     | ((with_reducible refine s_end hK ?_); clear hK K)
     | (with_reducible first | refine then_normal ?_ | refine in_normal ?_ | refine then_ret ?_ | refine in_ret ?_)
     | refine w_ret ?_
     | (with_reducible first | refine s_none ?_ | refine x_assign (h := ?_))
     | ((with_reducible refine o_id 84 rfl ?_); refine x_call (hF := scope_owner_fn _ p hp b k hk x hx) (h := ?_))
     | (with_reducible refine x_q (h := ?_))
     | refine x_condt (h1 := ?_) | refine x_condf (h1 := ?_)
     | fail)
    all_goals try clear fx
    refine e_ret [] .nil (by simp; rfl) ?_
    have ho' : owner p b x = -1 := by simpa using ho
    simp [symOf, ho']
  have hno : ¬ owner p b x = -1 := by simpa using ho
  have hnl : ¬ owner p b x < 0 := by omega
  cases hb : (owner p b x == (b : Int))
  · skip
    all_goals have fx := And.intro hsg <| And.intro hse <| And.intro hbl <| And.intro ho <| And.intro hb <| @bne_def
    repeat' (first
     | refine w_seq ?_ | refine w_block ?_ | refine w_skip ?_ | refine w_reg fun K hK => ?_
     | ((with_reducible refine s_end hK ?_); clear hK K)
     | (with_reducible first | refine then_normal ?_ | refine in_normal ?_ | refine then_ret ?_ | refine in_ret ?_)
     | refine w_ret ?_
     | (with_reducible first | refine s_none ?_ | refine x_assign (h := ?_))
     | ((with_reducible refine o_id 84 rfl ?_); refine x_call (hF := scope_owner_fn _ p hp b k hk x hx) (h := ?_))
     | (with_reducible refine x_q (h := ?_))
     | refine x_condt (h1 := ?_) | refine x_condf (h1 := ?_)
     | fail)
    all_goals try clear fx
    refine e_ret [] .nil (by simp; rfl) ?_
    have hb' : ¬ owner p b x = b := by simpa using hb
    simp only [symOf, if_neg hnl, if_pos hb']
    rfl
  have hb' : owner p b x = b := by simpa using hb
  have hnn : ¬ owner p b x ≠ b := fun h => h hb'
  cases hkd : (k.kind == 2)
  rotate_left
  · skip
    all_goals have fx := And.intro hsg <| And.intro hse <| And.intro hbl <| And.intro ho <| And.intro hb <| And.intro @bne_def <| hkd
    repeat' (first
     | refine w_seq ?_ | refine w_block ?_ | refine w_skip ?_ | refine w_reg fun K hK => ?_
     | ((with_reducible refine s_end hK ?_); clear hK K)
     | (with_reducible first | refine then_normal ?_ | refine in_normal ?_ | refine then_ret ?_ | refine in_ret ?_)
     | refine w_ret ?_
     | (with_reducible first | refine s_none ?_ | refine x_assign (h := ?_))
     | ((with_reducible refine o_id 84 rfl ?_); refine x_call (hF := scope_owner_fn _ p hp b k hk x hx) (h := ?_))
     | (with_reducible refine x_q (h := ?_))
     | refine x_condt (h1 := ?_) | refine x_condf (h1 := ?_)
     | fail)
    all_goals try clear fx
    refine e_ret [] .nil (by simp; rfl) ?_
    have hkd' : k.kind = 2 := by simpa using hkd
    simp only [symOf, if_neg hnl, if_neg hnn, hka, if_pos hkd']
    rfl
  have hkd' : ¬ k.kind = 2 := by simpa using hkd
  have hbg := bset_get (l := cellsL p b) hx
  obtain ⟨hbgl, hbgE⟩ := gS hbg
  cases hce : decide ((x : Int) ∈ cellsL p b)
  all_goals
    all_goals have fx := And.intro hsg <| And.intro hse <| And.intro hbl <| And.intro ho <| And.intro hb <| And.intro @bne_def <| And.intro hkd <| And.intro hbg <| And.intro hbgE <| And.intro hbgl <| And.intro hx <| And.intro hx8 <| hce
    repeat' (first
     | refine w_seq ?_ | refine w_block ?_ | refine w_skip ?_ | refine w_reg fun K hK => ?_
     | ((with_reducible refine s_end hK ?_); clear hK K)
     | (with_reducible first | refine then_normal ?_ | refine in_normal ?_ | refine then_ret ?_ | refine in_ret ?_)
     | refine w_ret ?_
     | (with_reducible first | refine s_none ?_ | refine x_assign (h := ?_))
     | ((with_reducible refine o_id 84 rfl ?_); refine x_call (hF := scope_owner_fn _ p hp b k hk x hx) (h := ?_))
     | ((with_reducible refine o_id 52 rfl ?_); refine x_call (hF := cellSet_fn _ p hp b k hk) (h := ?_))
     | (with_reducible refine x_q (h := ?_))
     | refine x_condt (h1 := ?_) | refine x_condf (h1 := ?_)
     | fail)
    all_goals try clear fx
    refine e_ret [] .nil (by simp; rfl) ?_
    simp at hce
    simp only [symOf, if_neg hnl, if_neg hnn, hka, if_neg hkd', hce]
    rfl
abbrev codesL : List AV := [iv 8, iv 5, iv 11, iv 5, iv 2]
theorem accessOp_fn (gl : Nat → Option (List AV)) (hgl : gl 0 = some codesL) (p : Prg) (hp : ShapeP p) (b : Nat) (k : Blk) (hk : p[b]? = some k) (x : Nat) (hx : x < 8) (w : Int) (hw0 : 0 ≤ w) (hw2 : w ≤ 2) : FnOk Tryz.prog gl 86 [scsl p, iv b, iv x, iv w] (fun _ y _ => y = .agg [iv (nameOp p b x w).1, iv (nameOp p b x w).2]) := by
  have hw8 : IntKind.i64.wrap (8 + w) = 8 + w := wrp (by omega) (by omega)
  have hw11 : IntKind.i64.wrap (11 + w) = 11 + w := wrp (by omega) (by omega)
  have hw22 : IntKind.i64.wrap (2 + w) = 2 + w := wrp (by omega) (by omega)
  have hw5 : IntKind.i64.wrap (5 + w) = 5 + w := wrp (by omega) (by omega)
  have hsf := symOf_fast (x := (x : Int)) hk (hp.kind0 hk).symm (shape_kind3 hp hk)
  have hfl := fastsL_len (p := p) (b := b)
  have hs5 : symOf p b x = 0 ∨ symOf p b x = 1 ∨ symOf p b x = 2 ∨ symOf p b x = 3 ∨ symOf p b x = 4 := by
    unfold symOf
    split
    · simp
    · split
      · simp
      · split
        · simp
        · split <;> simp
  refine FnOk.of_sem Tryz.func86 rfl (by kernel_rfl) (rs := [.cell 8 90]) rfl Tryz.ntmps86 (Nat.le_of_ble_eq_true rfl) fun C w g root => ?_
  rcases hs5 with h | h | h | h | h
  · skip
    all_goals have fx := And.intro h <| And.intro hgl <| hw8
    repeat' (first
     | refine w_seq ?_ | refine w_block ?_ | refine w_skip ?_ | refine w_reg fun K hK => ?_
     | ((with_reducible refine s_end hK ?_); clear hK K)
     | (with_reducible first | refine then_normal ?_ | refine in_normal ?_ | refine then_ret ?_ | refine in_ret ?_)
     | refine w_ret ?_
     | (with_reducible first | refine s_none ?_ | refine x_assign (h := ?_) | refine x_alloc (h := ?_) | refine x_store0 (h := ?_))
     | ((with_reducible refine o_id 99 rfl ?_); refine x_call (hF := symbolOf_fn _ p hp b k hk x hx) (h := ?_))
     | (with_reducible refine x_q (h := ?_))
     | refine x_condt (h1 := ?_) | refine x_condf (h1 := ?_)
     | fail)
    all_goals try clear fx
    refine e_ret [] .nil (by simp; rfl) ?_
    simp [nameOp, h]
  · skip
    all_goals have fx := And.intro h <| And.intro hgl <| hw5
    repeat' (first
     | refine w_seq ?_ | refine w_block ?_ | refine w_skip ?_ | refine w_reg fun K hK => ?_
     | ((with_reducible refine s_end hK ?_); clear hK K)
     | (with_reducible first | refine then_normal ?_ | refine in_normal ?_ | refine then_ret ?_ | refine in_ret ?_)
     | refine w_ret ?_
     | (with_reducible first | refine s_none ?_ | refine x_assign (h := ?_) | refine x_alloc (h := ?_) | refine x_store0 (h := ?_))
     | ((with_reducible refine o_id 99 rfl ?_); refine x_call (hF := symbolOf_fn _ p hp b k hk x hx) (h := ?_))
     | ((with_reducible refine o_id 101 rfl ?_); refine x_call (hF := impl_cellPlace_fn _ p hp b k hk x hx) (h := ?_))
     | (with_reducible refine x_q (h := ?_))
     | refine x_condt (h1 := ?_) | refine x_condf (h1 := ?_)
     | fail)
    all_goals try clear fx
    refine e_ret [] .nil (by simp; rfl) ?_
    simp [nameOp, h]
  · skip
    all_goals have fx := And.intro h <| And.intro hgl <| hw11
    repeat' (first
     | refine w_seq ?_ | refine w_block ?_ | refine w_skip ?_ | refine w_reg fun K hK => ?_
     | ((with_reducible refine s_end hK ?_); clear hK K)
     | (with_reducible first | refine then_normal ?_ | refine in_normal ?_ | refine then_ret ?_ | refine in_ret ?_)
     | refine w_ret ?_
     | (with_reducible first | refine s_none ?_ | refine x_assign (h := ?_) | refine x_alloc (h := ?_) | refine x_store0 (h := ?_))
     | ((with_reducible refine o_id 99 rfl ?_); refine x_call (hF := symbolOf_fn _ p hp b k hk x hx) (h := ?_))
     | (with_reducible refine x_q (h := ?_))
     | refine x_condt (h1 := ?_) | refine x_condf (h1 := ?_)
     | fail)
    all_goals try clear fx
    refine e_ret [] .nil (by simp; rfl) ?_
    simp [nameOp, h]
  · skip
    all_goals have fx := And.intro h <| And.intro hgl <| hw5
    repeat' (first
     | refine w_seq ?_ | refine w_block ?_ | refine w_skip ?_ | refine w_reg fun K hK => ?_
     | ((with_reducible refine s_end hK ?_); clear hK K)
     | (with_reducible first | refine then_normal ?_ | refine in_normal ?_ | refine then_ret ?_ | refine in_ret ?_)
     | refine w_ret ?_
     | (with_reducible first | refine s_none ?_ | refine x_assign (h := ?_) | refine x_alloc (h := ?_) | refine x_store0 (h := ?_))
     | ((with_reducible refine o_id 99 rfl ?_); refine x_call (hF := symbolOf_fn _ p hp b k hk x hx) (h := ?_))
     | ((with_reducible refine o_id 101 rfl ?_); refine x_call (hF := impl_cellPlace_fn _ p hp b k hk x hx) (h := ?_))
     | (with_reducible refine x_q (h := ?_))
     | refine x_condt (h1 := ?_) | refine x_condf (h1 := ?_)
     | fail)
    all_goals try clear fx
    refine e_ret [] .nil (by simp; rfl) ?_
    simp [nameOp, h]
  · skip
    all_goals have fx := And.intro h <| And.intro hgl <| hw22
    repeat' (first
     | refine w_seq ?_ | refine w_block ?_ | refine w_skip ?_ | refine w_reg fun K hK => ?_
     | ((with_reducible refine s_end hK ?_); clear hK K)
     | (with_reducible first | refine then_normal ?_ | refine in_normal ?_ | refine then_ret ?_ | refine in_ret ?_)
     | refine w_ret ?_
     | (with_reducible first | refine s_none ?_ | refine x_assign (h := ?_) | refine x_alloc (h := ?_) | refine x_store0 (h := ?_))
     | ((with_reducible refine o_id 99 rfl ?_); refine x_call (hF := symbolOf_fn _ p hp b k hk x hx) (h := ?_))
     | ((with_reducible refine o_id 51 rfl ?_); refine x_callh (hF := fastsOf_fn _ p hp b k hk (hsf (.inr h))) (h := ?_))
     | ((with_reducible refine o_id 100 rfl ?_); refine x_call (hF := placeOf_fn _ (fastsL p b) _ (by omega)) (h := ?_))
     | (with_reducible refine x_q (h := ?_))
     | refine x_condt (h1 := ?_) | refine x_condf (h1 := ?_)
     | fail)
    all_goals try clear fx
    refine e_ret [] .nil (by simp; rfl) ?_
    simp [nameOp, h]
theorem workOps_fn (gl) (s : Stm) (hkd : 0 ≤ s.kind ∧ s.kind ≤ 11) : FnOk Tryz.prog gl 87 [s.av] (fun r y H' => y = .hs r 2 0 (workL s).length ∧ H' r = some (.row 2 (orows (workL s)))) := by
  have hrl := s.reads_len
  have hw5 : IntKind.i64.wrap ((s.reads.length : Int) - 1) = (s.reads.length : Int) - 1 := wrp (by omega) (by omega)
  obtain ⟨kd, to, a, c⟩ := s
  simp only at hkd
  refine FnOk.of_sem Tryz.func87 rfl (by kernel_rfl) (rs := [.tmp 2]) rfl Tryz.ntmps87 (Nat.le_of_ble_eq_true rfl) fun C w g root => ?_
  rcases kinds12 hkd with rfl | rfl | rfl | rfl | rfl | rfl | rfl | rfl | rfl | rfl | rfl | rfl
  case inr.inr.inr.inr.inr.inl =>
    have hrd : (⟨5, to, a, c⟩ : Stm).reads = if c = -1 then [a] else [a, c] := by simp [Stm.reads]
    rw [hrd] at hw5
    have hcr := call_reads gl a c
    generalize hL : (if c = -1 then [a] else [a, c]) = L at hw5 hcr hrd
    have fx :=  hw5
    have c1 := formOf_fn gl ⟨5, to, a, c⟩
    have d1 := hcr
    refine k_run ?_
    clear fx c1 d1
    refine e_list (t := 2) ?_ ?_ ?_
    all_goals simp [workL, orows, hrd]
  all_goals
    all_goals have fx := fx0
    repeat' (first
     | refine w_seq ?_ | refine w_block ?_ | refine w_skip ?_ | refine w_reg fun K hK => ?_
     | ((with_reducible refine s_end hK ?_); clear hK K)
     | (with_reducible first | refine then_normal ?_ | refine in_normal ?_ | refine then_ret ?_ | refine in_ret ?_)
     | refine w_ret ?_
     | (with_reducible first | refine s_none ?_ | refine x_assign (h := ?_) | refine x_box (h := ?_) | refine x_alloc (h := ?_) | refine x_store0 (h := ?_) | refine x_build (h := ?_))
     | ((with_reducible refine o_id 79 rfl ?_); refine x_call (hF := formOf_fn _ ⟨_, to, a, c⟩) (h := ?_))
     | (with_reducible refine x_q (h := ?_))
     | refine x_condt (h1 := ?_) | refine x_condf (h1 := ?_)
     | fail)
    all_goals try clear fx
    refine e_list (t := 2) ?_ ?_ ?_
    all_goals simp [workL, orows]
theorem impl_stmtOps_fn (gl : Nat → Option (List AV)) (hgl : gl 0 = some codesL) (p : Prg) (b : Nat) (k : Blk) (s : Stm) (hp : ShapeP p) (hk : p[b]? = some k) (hsm : s ∈ k.body) : FnOk Tryz.prog gl 55 [scsl p, iv b, s.av] (fun r y H' => y = .hs r 2 0 (stmtL p b s).length ∧ H' r = some (.row 2 (orows (stmtL p b s)))) := by
  have hrl := s.reads_len
  have hn := hp.names k (List.mem_of_getElem? hk)
  have hkd := hn.kinds s hsm
  obtain ⟨ht0, ht7⟩ := hn.tos s hsm
  obtain ⟨T, hT⟩ : ∃ T : Nat, s.to = T := ⟨s.to.toNat, by omega⟩
  have hT8 : T < 8 := by omega
  have hav : s.av = .agg [iv s.kind, iv T, iv s.a, iv s.b] := by rw [← hT]
  rw [stmtL_pre]
  refine FnOk.of_sem Tryz.func55 rfl (by kernel_rfl) (rs := [.tmp 6]) rfl Tryz.ntmps55 (Nat.le_of_ble_eq_true rfl) fun C w g root => ?_
  all_goals have fx := fx0
  repeat' (first
   | refine w_seq ?_ | refine w_block ?_ | refine w_skip ?_ | refine w_reg fun K hK => ?_
   | ((with_reducible refine s_end hK ?_); clear hK K)
   | (with_reducible first | refine then_normal ?_ | refine in_normal ?_ | refine then_exit ?_ | refine in_exit ?_ | refine then_ret ?_ | refine in_ret ?_ | refine in_other (by decide) ?_)
   | refine w_exit ?_
   | refine w_ret ?_
   | (with_reducible first | refine s_none ?_ | refine x_assign (h := ?_) | refine x_box (h := ?_) | refine x_append0 (T := 27) (h := ?_) | refine x_append (T := 27) (h := ?_) | refine x_build (h := ?_))
   | ((with_reducible refine o_id 79 rfl ?_); refine x_call (hF := formOf_fn _ s) (h := ?_))
   | (refine x_invh (hF := reads_inv _ (by kernel_rfl) s hkd) (h := ?_))
   | (with_reducible refine x_q (h := ?_))
   | refine x_condt (h1 := ?_) | refine x_condf (h1 := ?_)
   | fail)
  all_goals try clear fx
  refine w_loop (fun n st => ∃ i : Nat, n = s.reads.length - i ∧ i ≤ s.reads.length ∧ st.tm 0 = scsl p ∧ st.tm 1 = iv b ∧ st.tm 5 = .pt (.s 5) 0 ∧ st.hp (.s 5) = some (.row 4 [s.cells]) ∧ st.tm 14 = .hs (.s 14) 1 0 s.reads.length ∧ st.hp (.s 14) = some (.row 1 (irows s.reads)) ∧ st.tm 15 = iv s.reads.length ∧ st.tm 16 = iv i ∧ st.tm 7 = .hs (.s 7) 2 0 (preL p b s i).length ∧ st.hp (.s 7) = some (.row 2 (orows (preL p b s i)))) s.reads.length ?_ ?_
  · exact ⟨0, by omega, by omega, by simp, by simp, by simp, by simp, by simp, by simp, by simp, by simp, by simp, by simp [orows]⟩
  rintro n st - - ⟨i, rfl, hi, h0, h1, h5, hp5, h14, hp14, h15, h16, h7, hp7⟩
  have hll : (preL p b s i).length ≤ 10 := by simp; omega
  by_cases hil : i < s.reads.length
  · obtain ⟨u, hu⟩ : ∃ u, s.reads[i]? = some u := ⟨_, gE hil⟩
    obtain ⟨_, huE⟩ := gS hu
    obtain ⟨hu0, hu7⟩ := hn.reads s hsm u (List.mem_of_getElem? hu)
    obtain ⟨U, rfl⟩ : ∃ U : Nat, u = U := ⟨u.toNat, by omega⟩
    have hnx := preL_next (p := p) (b := b) hu
    generalize hL : preL p b s i = L at h7 hp7 hnx hll
    have fx := And.intro h0 <| And.intro h1 <| And.intro h5 <| And.intro hp5 <| And.intro h14 <| And.intro hp14 <| And.intro h15 <| And.intro h16 <| And.intro h7 <| And.intro hp7 <| And.intro hu <| And.intro huE <| And.intro hil <| hll
    have c1 := accessOp_fn gl hgl p hp b k hk U (by omega) 0 (by decide) (by decide)
    refine k_run ?_
    clear fx c1
    refine ⟨s.reads.length - (i + 1), by omega, i + 1, rfl, by omega, by simp [h0], by simp [h1], by simp [h5], by simp [hp5], by simp [h14], by simp [hp14], by simp [h15], by simp; exact wrp (by omega) (by omega), by simp [hnx], ?_⟩
    rw [hnx]
    simp [orows]
  · have hge : i = s.reads.length := by omega
    rw [hge] at h7 hp7 hll
    have hwl := workL_len s
    generalize hL : preL p b s s.reads.length = L at h7 hp7 hll
    by_cases hk11 : s.kind = 11
    · have hset : setL p b s = [nameOp p b T 2] := by simp [setL, hk11, hT]
      rw [hset]
      generalize hWL : workL s = WL at hwl
      have hwo := workOps_fn gl s hkd
      rw [hWL, hav] at hwo
      have hk11' : (s.kind == 11) = true := by simpa using hk11
      have fx := And.intro h0 <| And.intro h1 <| And.intro h5 <| And.intro hp5 <| And.intro h14 <| And.intro hp14 <| And.intro h15 <| And.intro h16 <| And.intro h7 <| And.intro hp7 <| And.intro hil <| And.intro hge <| And.intro hll <| And.intro hwl <| And.intro hk11' <| hT
      have d1 := hwo
      have c1 := accessOp_fn gl hgl p hp b k hk T hT8 2 (by decide) (by decide)
      refine k_run ?_
      clear fx d1 c1
      refine e_list (t := 6) ?_ ?_ ?_
      all_goals simp [orows_snoc, List.take_append, List.take_of_length_le, Nat.add_assoc]
    · have hk11' : (s.kind == 11) = false := by simpa using hk11
      by_cases hset : 0 ≤ s.kind ∧ s.kind ≤ 6
      · have hsl : setL p b s = [nameOp p b T 1] := by simp [setL, hk11, hT, hset]
        rw [hsl]
        generalize hWL : workL s = WL at hwl
        have hwo := workOps_fn gl s hkd
        rw [hWL, hav] at hwo
        have hbi := binds_fn gl s
        rw [decide_eq_true (.inl hset : s.sets ∨ s.kind = 11), hav] at hbi
        have fx := And.intro h0 <| And.intro h1 <| And.intro h5 <| And.intro hp5 <| And.intro h14 <| And.intro hp14 <| And.intro h15 <| And.intro h16 <| And.intro h7 <| And.intro hp7 <| And.intro hil <| And.intro hge <| And.intro hll <| And.intro hwl <| And.intro hk11' <| hT
        have d1 := hwo
        have c1 := hbi
        have c2 := accessOp_fn gl hgl p hp b k hk T hT8 1 (by decide) (by decide)
        refine k_run ?_
        clear fx d1 c1 c2
        refine e_list (t := 6) ?_ ?_ ?_
        all_goals simp [orows_snoc, List.take_append, List.take_of_length_le, Nat.add_assoc]
      · have hsl : setL p b s = [] := by simp only [setL, if_neg hk11, if_neg hset]
        rw [hsl]
        generalize hWL : workL s = WL at hwl
        have hwo := workOps_fn gl s hkd
        rw [hWL] at hwo
        have hbi := binds_fn gl s
        rw [decide_eq_false (fun h : s.sets ∨ s.kind = 11 => h.elim hset hk11)] at hbi
        have fx := And.intro h0 <| And.intro h1 <| And.intro h5 <| And.intro hp5 <| And.intro h14 <| And.intro hp14 <| And.intro h15 <| And.intro h16 <| And.intro h7 <| And.intro hp7 <| And.intro hil <| And.intro hge <| And.intro hll <| And.intro hwl <| hk11'
        have d1 := hwo
        have c1 := hbi
        refine k_run ?_
        clear fx d1 c1
        refine e_list (t := 6) ?_ ?_ ?_
        all_goals simp [orows_snoc, List.take_append, List.take_of_length_le, Nat.add_assoc]
abbrev qsKm0 : Sch := .q 0 <| .q 1 <| .q 2 <| .q 3 <| .q 5 <| .q 6 <| .q 8 <| .q 9 <| .q 12 <| .q 13 <| .l2 4 [13, 12, 9, 8, 6, 5, 2, 1, 0] (.l2 7 [13, 12, 9, 8, 2, 1, 0] (.l2 10 [13, 12, 2, 1, 0] (.l2 11 [13, 12, 2, 1, 0] (.l2 14 [2, 1, 0] (.q 15 <| .l 16 [15, 2, 1, 0] <| .l 17 [] <| .done) 16 [13, 12, 2, 1, 0] (.l 14 [2, 1, 0] <| .q 15 <| .l 17 [] <| .done)) 16 [13, 12, 2, 1, 0] (.l 11 [13, 12, 2, 1, 0] <| .l 14 [2, 1, 0] <| .q 15 <| .l 17 [] <| .done)) 16 [13, 12, 9, 8, 2, 1, 0] (.l 10 [13, 12, 2, 1, 0] <| .l 11 [13, 12, 2, 1, 0] <| .l 14 [2, 1, 0] <| .q 15 <| .l 17 [] <| .done)) 16 [13, 12, 9, 8, 6, 5, 2, 1, 0] (.l 7 [13, 12, 9, 8, 2, 1, 0] <| .l 10 [13, 12, 2, 1, 0] <| .l 11 [13, 12, 2, 1, 0] <| .l 14 [2, 1, 0] <| .q 15 <| .l 17 [] <| .done)) 16 [13, 12, 9, 8, 6, 5, 3, 2, 1, 0] (.l 4 [13, 12, 9, 8, 6, 5, 2, 1, 0] <| .l 7 [13, 12, 9, 8, 2, 1, 0] <| .l 10 [13, 12, 2, 1, 0] <| .l 11 [13, 12, 2, 1, 0] <| .l 14 [2, 1, 0] <| .q 15 <| .l 17 [] <| .done)
abbrev qsKm1 : Sch := .q 0 <| .q 1 <| .q 2 <| .q 3 <| .q 4 <| .l 5 [1, 0] <| .l 6 [0] <| .q 7 <| .l 8 [] <| .done
theorem fastsOfA_fn (gl) (p : Prg) (hp : ShapeP p) (b : Nat) (k : Blk) (hk : p[b]? = some k) : FnOk Tryz.prog gl 51 [scsl p, iv b] (fun r y H' => y = .hs r 1 0 (fastsL p b).length ∧ H' r = some (.row 1 (irows (fastsL p b)))) := by
  by_cases hk1 : k.kind = 1
  · exact fastsOf_fn gl p hp b k hk hk1
  have hh := hp.heads
  obtain ⟨hbl, hbE⟩ := gS hk
  have hka : kindAt p b = k.kind := by simp [kindAt, hk]
  have hsg := scRows_get (p := p) hbl
  rw [scopeA_eq hh hk] at hsg
  obtain ⟨_, hse⟩ := gS hsg
  have hc : fastsL p b = [] := by simp [fastsL, hka, hk1]
  have hkd : (k.kind == 1) = false := by simpa using hk1
  rw [hc]
  refine FnOk.of_sem Tryz.func51 rfl (by kernel_rfl) (rs := [.tmp 4]) rfl Tryz.ntmps51 (Nat.le_of_ble_eq_true rfl) fun C w g root => ?_
  have fx := And.intro hsg <| And.intro hse <| And.intro hkd <| And.intro hbl <| @bne_def
  refine k_run ?_
  clear fx
  exact e_list (t := 4) (by first | (simp []; done) | (simp []; rfl)) (by first | (simp []; done) | (simp []; rfl)) (by simp)
theorem cellsList_fn (gl) (p : Prg) (b : Nat) : FnOk Tryz.prog gl 53 [.agg (bset (cellsL p b))] (fun r z H' => z = .hs r 1 0 (cellsL p b).length ∧ H' r = some (.row 1 (irows (cellsL p b)))) := by
  have hli := list_fn gl (cellsL p b)
  rw [sorted_cells] at hli
  exact hli
theorem impl_compileBlock_fn (gl : Nat → Option (List AV)) (hgl : gl 0 = some codesL) (p : Prg) (hp : ShapeP p) (b : Nat) (k : Blk) (hk : p[b]? = some k) : FnOk Tryz.prog gl 26 [pav p, scsl p, iv b] (fun r y H' => y = .agg ((codeL p b).own r 0) ∧ OwnK H' r 0 (codeL p b)) := by
  have hl7 := hp.len.2
  have hkm := List.mem_of_getElem? hk
  obtain ⟨hbl, hbE⟩ := gS hk
  have hk12 := hp.body k hkm
  obtain ⟨hpl, _⟩ := hp.sml.bsm hk
  have hcode : codeL p b = ⟨k.kind, k.params, fastsL p b, cellsL p b, freesL p b, bodyL p b k.body⟩ := by simp [codeL, opsL, hk]
  have hfl := fastsL_len (p := p) (b := b)
  have hcl := cellsL_len (p := p) (b := b)
  have hrl := freesL_len (p := p) (b := b)
  rw [hcode]
  refine FnOk.of_sem Tryz.func26 rfl (by kernel_rfl) (rs := [.cell 6 29]) rfl Tryz.ntmps26 (Nat.le_of_ble_eq_true rfl) fun C w g root => ?_
  have fx := And.intro hk <| And.intro hbE <| And.intro hbl <| hpl
  have c1 := cellSet_fn gl p hp b k hk
  have d1 := fastsOfA_fn gl p hp b k hk
  have d2 := cellsList_fn gl p b
  have d3 := freesOf_fn gl p hp b hbl
  refine k_run ?_
  first | refine wSc (id := 2) qsKm0 mixed ?_ | refine wSc (id := 6) qsKm1 mixed ?_
  refine k_runj (fun st => st.tm 1 = scsl p ∧ st.tm 2 = iv b ∧ st.tm 6 = .pt (.s 6) 0 ∧ st.hp (.s 6) = some (.row 6 [noCode.own (.s 6) 0]) ∧ st.tm 8 = .pt (.s 8) 0 ∧ st.tm 33 = ssl k.body ∧ st.tm 34 = iv k.body.length ∧ st.tm 35 = iv 0 ∧ st.hp (.s 8) = some (.row 6 [Cod.own (.s 8) 0 ⟨k.kind, k.params, fastsL p b, cellsL p b, freesL p b, []⟩]) ∧ st.hp (.c (.s 8) 0 1) = some (.row 1 (irows k.params)) ∧ st.hp (.c (.s 8) 0 2) = some (.row 1 (irows (fastsL p b))) ∧ st.hp (.c (.s 8) 0 3) = some (.row 1 (irows (cellsL p b))) ∧ st.hp (.c (.s 8) 0 4) = some (.row 1 (irows (freesL p b))) ∧ st.hp (.c (.s 8) 0 5) = some (.row 2 [])) ?_
  clear fx c1 d1 d2 d3
  rintro st ⟨h1, h2, h6, hp6, h8, h33, h34, h35, hp8, q1, q2, q3, q4, q5⟩
  refine w_loop (fun n st => ∃ i : Nat, n = k.body.length - i ∧ i ≤ k.body.length ∧ st.tm 1 = scsl p ∧ st.tm 2 = iv b ∧ st.tm 6 = .pt (.s 6) 0 ∧ st.hp (.s 6) = some (.row 6 [noCode.own (.s 6) 0]) ∧ st.tm 8 = .pt (.s 8) 0 ∧ st.tm 33 = ssl k.body ∧ st.tm 34 = iv k.body.length ∧ st.tm 35 = iv i ∧ ∃ c : Cod, c = ⟨k.kind, k.params, fastsL p b, cellsL p b, freesL p b, bodyL p b (k.body.take i)⟩ ∧ st.hp (.s 8) = some (.row 6 [c.own (.s 8) 0]) ∧ OwnK st.hp (.s 8) 0 c) k.body.length ?_ ?_
  · refine ⟨0, by omega, by omega, h1, h2, h6, hp6, h8, h33, h34, h35, _, rfl, ?_, ⟨?_, ?_, ?_, ?_, ?_⟩⟩
    all_goals simp [bodyL, hp8, q1, q2, q3, q4, q5]
  clear h1 h2 h6 hp6 h8 h33 h34 h35 hp8 q1 q2 q3 q4 q5
  rintro n st - - ⟨i, rfl, hi, h1, h2, h6, hp6, h8, h33, h34, h35, c, hc, hp8, ⟨o1, o2, o3, o4, o5⟩⟩
  have hll := bodyL_len (p := p) (b := b) (k.body.take i)
  rw [List.length_take] at hll
  by_cases hil : i < k.body.length
  · obtain ⟨s, hss⟩ : ∃ s, k.body[i]? = some s := ⟨_, gE hil⟩
    obtain ⟨_, hsE⟩ := gS hss
    have hnx := bodyL_take (p := p) (b := b) hss
    have hsl := stmtL_len (p := p) (b := b) (s := s)
    generalize hL : bodyL p b (k.body.take i) = L at hc hnx hll
    subst hc
    simp only [Cod.own_eq] at hp8 o1 o2 o3 o4 o5
    have fx := And.intro h1 <| And.intro h2 <| And.intro h6 <| And.intro hp6 <| And.intro h8 <| And.intro h33 <| And.intro h34 <| And.intro h35 <| And.intro hp8 <| And.intro o1 <| And.intro o2 <| And.intro o3 <| And.intro o4 <| And.intro o5 <| And.intro hss <| And.intro hsE <| And.intro hil <| And.intro hll <| hsl
    have d1 := impl_stmtOps_fn gl hgl p b k s hp hk (List.mem_of_getElem? hss)
    refine k_run ?_
    repeat ((first | refine wSc (id := 2) qsKm0 mixed ?_ | refine wSc (id := 6) qsKm1 mixed ?_); refine k_rund ?_; refine k_run ?_)
    clear fx d1
    refine ⟨k.body.length - (i + 1), by omega, i + 1, rfl, by omega, by simp [h1], by simp [h2], by simp [h6], by simp [hp6], by simp [h8], by simp [h33], by simp [h34], by simp; exact wrp (by omega) (by omega), _, rfl, ?_, ⟨?_, ?_, ?_, ?_, ?_⟩⟩
    all_goals simp [Cod.own, hnx, o1, o2, o3, o4, o5, hp8]
  · have hge : i = k.body.length := by omega
    subst hge
    rw [List.take_length] at hc
    subst hc
    simp only [Cod.own_eq] at hp8 o1 o2 o3 o4 o5
    have fx := And.intro h1 <| And.intro h2 <| And.intro h6 <| And.intro hp6 <| And.intro h8 <| And.intro h33 <| And.intro h34 <| And.intro h35 <| And.intro hp8 <| And.intro o1 <| And.intro o2 <| And.intro o3 <| And.intro o4 <| And.intro o5 <| hil
    refine k_run ?_
    repeat ((first | refine wSc (id := 2) qsKm0 mixed ?_ | refine wSc (id := 6) qsKm1 mixed ?_); refine k_rund ?_; refine k_run ?_)
    clear fx
    refine e_ret [(.s 8, root)] (.one rfl) (by simp [h6]; rfl) ⟨?_, ⟨?_, ?_, ?_, ?_, ?_⟩⟩
    all_goals simp [h6, o1, o2, o3, o4, o5]
theorem impl_compileAll_fn (gl : Nat → Option (List AV)) (hgl : gl 0 = some codesL) (p : Prg) (hp : ShapeP p) : FnOk Tryz.prog gl 37 [pav p, scsl p] (fun r y H' => y = .hs r 6 0 (codesTo p p.length).length ∧ OwnC H' r (codesTo p p.length)) := by
  have hl7 := hp.len.2
  refine FnOk.of_sem Tryz.func37 rfl (by kernel_rfl) (rs := [.tmp 4]) rfl Tryz.ntmps37 (Nat.le_of_ble_eq_true rfl) fun C w g root => ?_
  have fx := fx0
  refine k_run ?_
  clear fx
  refine w_loop (fun n st => ∃ i : Nat, n = p.length - i ∧ i ≤ p.length ∧ st.tm 1 = scsl p ∧ st.tm 2 = .pt (.s 2) 0 ∧ st.hp (.s 2) = some (.row 1 [[ksl p]]) ∧ st.tm 9 = iv p.length ∧ st.tm 10 = iv i ∧ ∃ cs : List Cod, cs = codesTo p i ∧ cs.length = i ∧ st.tm 5 = .hs (.s 5) 6 0 cs.length ∧ OwnC st.hp (.s 5) cs) p.length ?_ ?_
  · refine ⟨0, by omega, by omega, by simp, by simp, by simp, by simp, by simp, [], by simp, rfl, by simp, ⟨by simp, fun i c h => by simp at h⟩⟩
  rintro n st - - ⟨i, rfl, hi, h1, h2, hp2, h9, h10, cs, hcs, hcl, h5, ⟨ht, he⟩⟩
  by_cases hil : i < p.length
  · obtain ⟨k, hk⟩ : ∃ k, p[i]? = some k := ⟨_, gE hil⟩
    have hnx := codesTo_succ (p := p) (n := i)
    have hcc := impl_compileBlock_fn gl hgl p hp i k hk
    rw [← hcs] at hnx
    generalize hC : codeL p i = c at hcc hnx
    have hcl7 : cs.length ≤ 7 := by omega
    have fx := And.intro h1 <| And.intro h2 <| And.intro hp2 <| And.intro h9 <| And.intro h10 <| hil
    have e1 := hcc
    refine k_run ?_
    clear fx e1
    rintro K hK y H' ⟨rfl, hO⟩
    obtain ⟨o1, o2, o3, o4, o5⟩ := hO.hcln
    refine ⟨by simp, ?_⟩
    have fx := And.intro h1 <| And.intro h2 <| And.intro hp2 <| And.intro h9 <| And.intro h10 <| And.intro h5 <| And.intro ht <| And.intro hcl7 <| And.intro o1 <| And.intro o2 <| And.intro o3 <| And.intro o4 <| o5
    refine k_run ?_
    clear fx
    refine ⟨p.length - (i + 1), by omega, i + 1, rfl, by omega, by simp [h1], by simp [h2], by simp [hp2], by simp [h9], by simp; exact wrp (by omega) (by omega), cs ++ [c], hnx.symm, by simp [hcl], by simp, ⟨?_, fun j d hj => ?_⟩⟩
    · simp [ht, kdRows_app]
    · rcases Nat.lt_or_ge j cs.length with hlj | hgj
      · rw [List.getElem?_append_left hlj] at hj
        have hne : ¬ j = cs.length := by omega
        obtain ⟨e1, e2, e3, e4, e5⟩ := he j d hj
        exact ⟨by simp [hne, e1], by simp [hne, e2], by simp [hne, e3], by simp [hne, e4], by simp [hne, e5]⟩
      · rw [List.getElem?_append_right hgj] at hj
        obtain rfl : j = cs.length := by
          have := (gS hj).1
          simp at this
          omega
        simp at hj
        subst hj
        exact ⟨by simp [o1], by simp [o2], by simp [o3], by simp [o4], by simp [o5]⟩
  · have hge : i = p.length := by omega
    subst hge
    subst hcs
    have fx := And.intro h1 <| And.intro h2 <| And.intro hp2 <| And.intro h9 <| And.intro h10 <| And.intro hil <| And.intro h5 <| ht
    refine k_run ?_
    clear fx
    refine e_ret [(.s 4, root)] (.one rfl) (by simp; rfl) ⟨by simp, ⟨by simp [ht, kdRows_tr (n := .s 4) (m := root) (f := finf noD [(.s 4, root)]) (by simp)], fun j d hj => ?_⟩⟩
    obtain ⟨e1, e2, e3, e4, e5⟩ := he j d hj
    exact ⟨by simp [e1], by simp [e2], by simp [e3], by simp [e4], by simp [e5]⟩
end Go.Proofs.YtnnpbiamlalnmaaGreatDoor
end
section
namespace Go.Proofs.YtnnpbiamlalnmaaGreatDoor
open Go Go.Hm Go.Proofs
abbrev qsKp0 : Sch := .q 0 <| .q 1 <| .q 3 <| .l 2 [3, 0] <| .l 4 [] <| .l 5 [] <| .done
abbrev qsKp1 : Sch := .q 0 <| .q 1 <| .l 2 [0] <| .l 3 [] <| .l 4 [] <| .done
attribute [local simp] slcAV rowsIn
theorem impl_CompileBlock_fn (gl : Nat → Option (List AV)) (hgl : gl 0 = some codesL) (p : Prg) (b : Int) (hs : Sml p) : FnOk Tryz.prog gl 8 [pav p, iv b] (fun r y H' => y = .agg ((codeG p b).own r 0) ∧ OwnK H' r 0 (codeG p b)) := by
  refine FnOk.of_sem Tryz.func8 rfl (by kernel_rfl) (rs := [.cell 4 29]) rfl Tryz.ntmps8 (Nat.le_of_ble_eq_true rfl) fun C w g root => ?_
  cases hv : progOk p
  · have hno : codeG p b = noCode := by simp [codeG, blkAt, hv]
    rw [hno]
    have fx :=  hv
    have c1 := impl_ValidProgram_fn gl p hs
    refine k_run ?_
    repeat ((first | refine wSc (id := 3) qsKp0 mixed ?_); refine k_rund ?_; refine k_run ?_)
    clear fx c1
    refine e_ret [(.s 4, root)] (.one rfl) (by simp; rfl) ⟨?_, ⟨?_, ?_, ?_, ?_, ?_⟩⟩
    all_goals simp
  cases hb : blkAt p b
  · have hno : codeG p b = noCode := by simp [codeG, hb]
    have hn := blkAt_not hb hv
    have hb' : decide (0 ≤ b ∧ b < p.length) = false := by
      rw [decide_eq_false_iff_not]
      intro h
      exact hn (by omega)
    rw [hno]
    have fx := And.intro hv <| hb'
    have c1 := impl_ValidProgram_fn gl p hs
    have c2 := impl_isBlock_fn gl p b
    refine k_run ?_
    repeat ((first | refine wSc (id := 3) qsKp0 mixed ?_); refine k_rund ?_; refine k_run ?_)
    clear fx c1 c2
    refine e_ret [(.s 4, root)] (.one rfl) (by simp; rfl) ⟨?_, ⟨?_, ?_, ?_, ?_, ?_⟩⟩
    all_goals simp
  obtain ⟨B, k, rfl, hk, hP, _⟩ := blkAt_parts hs hb
  have hBl := (gS hk).1
  have hco : codeG p B = codeL p B := by simp [codeG, hb]
  have hp := hP.sh
  have hh := hp.heads
  rw [hco]
  have hcc := impl_compileBlock_fn gl hgl p hp B k hk
  generalize codeL p B = c at hcc
  have fx := And.intro hv <| hBl
  have c1 := impl_ValidProgram_fn gl p hs
  have c2 := impl_isBlock_fn gl p B
  have e1 := scopesOf_fn gl p hs hh hp.names
  refine k_run ?_
  repeat ((first | refine wSc (id := 3) qsKp0 mixed ?_); refine k_rund ?_; refine k_run ?_)
  clear fx c1 c2 e1
  rintro K hK y H' ⟨rfl, hO⟩
  obtain ⟨hc1, hc2⟩ := hO.hcln
  refine ⟨by simp, ?_⟩
  have fx :=  hc1
  have e1 := hcc
  refine k_run ?_
  repeat ((first | refine wSc (id := 3) qsKp0 mixed ?_); refine k_rund ?_; refine k_run ?_)
  clear fx e1
  rintro y H'' ⟨rfl, hO⟩
  obtain ⟨o1, o2, o3, o4, o5⟩ := hO.hcln
  refine ⟨by simp, ?_⟩
  have fx := And.intro o1 <| And.intro o2 <| And.intro o3 <| And.intro o4 <| o5
  refine k_run ?_
  repeat ((first | refine wSc (id := 3) qsKp0 mixed ?_); refine k_rund ?_; refine k_run ?_)
  clear fx
  refine e_ret [(.s 19, root)] (.one rfl) (by simp; rfl) ⟨?_, ⟨?_, ?_, ?_, ?_, ?_⟩⟩
  all_goals simp [o1, o2, o3, o4, o5]
theorem impl_CompileAll_fn (gl : Nat → Option (List AV)) (hgl : gl 0 = some codesL) (p : Prg) (hs : Sml p) : FnOk Tryz.prog gl 15 [pav p] (fun r y H' => y = .hs r 6 0 (codesG p).length ∧ OwnC H' r (codesG p)) := by
  refine FnOk.of_sem Tryz.func15 rfl (by kernel_rfl) (rs := [.tmp 2]) rfl Tryz.ntmps15 (Nat.le_of_ble_eq_true rfl) fun C w g root => ?_
  cases hv : progOk p
  · have hno : codesG p = [] := by simp [codesG, hv]
    rw [hno]
    have fx :=  hv
    have c1 := impl_ValidProgram_fn gl p hs
    refine k_run ?_
    repeat ((first | refine wSc (id := 3) qsKp1 mixed ?_); refine k_rund ?_; refine k_run ?_)
    clear fx c1
    refine e_ret [(.s 2, root)] (.one rfl) (by simp; rfl) ⟨by simp, ⟨by simp, fun i c h => by simp at h⟩⟩
  have hp := (lookP_of hs hv).sh
  have hh := hp.heads
  have hco : codesG p = codesTo p p.length := by simp [codesG, hv]
  rw [hco]
  have hcc := impl_compileAll_fn gl hgl p hp
  generalize codesTo p p.length = cs at hcc
  have fx :=  hv
  have c1 := impl_ValidProgram_fn gl p hs
  have e1 := scopesOf_fn gl p hs hh hp.names
  refine k_run ?_
  repeat ((first | refine wSc (id := 3) qsKp1 mixed ?_); refine k_rund ?_; refine k_run ?_)
  clear fx c1 e1
  rintro K hK y H' ⟨rfl, hO⟩
  obtain ⟨hc1, hc2⟩ := hO.hcln
  refine ⟨by simp, ?_⟩
  have fx :=  hc1
  have e1 := hcc
  refine k_run ?_
  repeat ((first | refine wSc (id := 3) qsKp1 mixed ?_); refine k_rund ?_; refine k_run ?_)
  clear fx e1
  rintro y H'' ⟨rfl, hO⟩
  obtain ⟨ht, he⟩ := hO.hcln
  refine ⟨by simp, ?_⟩
  have fx :=  ht
  refine k_run ?_
  repeat ((first | refine wSc (id := 3) qsKp1 mixed ?_); refine k_rund ?_; refine k_run ?_)
  clear fx
  refine e_ret [(.s 2, root)] (.one rfl) (by simp; rfl) ⟨by simp, ⟨by simp [ht, kdRows_tr (n := .s 2) (m := root) (f := finf noD [(.s 2, root)]) (by simp)], fun j d hj => ?_⟩⟩
  obtain ⟨e1, e2, e3, e4, e5⟩ := he j d hj
  exact ⟨by simp [e1], by simp [e2], by simp [e3], by simp [e4], by simp [e5]⟩
end Go.Proofs.YtnnpbiamlalnmaaGreatDoor
end
section
namespace Go.Proofs.YtnnpbiamlalnmaaGreatDoor
open Go Go.Hm Go.Proofs
end Go.Proofs.YtnnpbiamlalnmaaGreatDoor
end
