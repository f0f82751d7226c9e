/-
  Own texts, joined by mkclaim.py: Kd, Ke.
-/
import Derived.Test.YtmpbjmihjelhgaaDoorM26
import Derived.Test.YtmpbjmihjelhgaaDoorM24
import Derived.Test.YtmpbjmihjelhgaaDoorM20
import Derived.Test.YtmpbjmihjelhgaaDoorM22
set_option linter.unusedSimpArgs false
set_option linter.unusedVariables false

section
/-
  The program's orders on names: what they are.
-/
set_option maxRecDepth 100000
set_option maxHeartbeats 1000000
set_option linter.unusedSimpArgs false
namespace Go.Proofs.YtmpbjmihjelhgaaDoor
open Go Go.Hm Go.Proofs

theorem shape_kind3 {p : Prg} (h : ShapeP p) {i : Nat} {k : Blk} (hk : p[i]? = some k) : k.kind = 0 ∨ k.kind = 1 ∨ k.kind = 2 := by
  have := h.head i k hk
  unfold HeadOk at this
  split at this <;> omega
theorem sorted_idem {l : List Int} : sorted (sorted l) = sorted l := sorted_same fun x hx => by
  rw [Go.Hm.mem_sorted]
  exact ⟨fun h => h.1, fun h => ⟨h, by omega, by omega⟩⟩
theorem sorted_cells {p : Prg} {b : Nat} : sorted (cellsL p b) = cellsL p b := by
  unfold cellsL
  split
  · exact sorted_idem
  · rfl
theorem placeIn_none {xs : List Int} {x : Int} : (placeIn xs x == -1) = !decide (x ∈ xs) := by
  have h1 := placeIn_nonneg (xs := xs) (x := x)
  have h2 := placeIn_bd (xs := xs) (x := x)
  by_cases h : x ∈ xs
  · have := h1.2 h
    simp [h]
    omega
  · have : ¬ 0 ≤ placeIn xs x := fun e => h (h1.1 e)
    simp [h]
    omega

theorem fastsOf_fn (gl) (p : Prg) (hp : ShapeP p) (b : Nat) (k : Blk) (hk : p[b]? = some k) (hk1 : k.kind = 1) : FnOk Tryd.prog gl 65 [scsl p, iv b] (fun r y H' => y = .hs r 1 0 (fastsL p b).length ∧ H' r = some (.row 1 (irows (fastsL p b)))) := by
  have hh := hp.heads
  have hl7 := hp.len
  obtain ⟨hbl, hbE⟩ := List.getElem?_eq_some_iff.1 hk
  have hka : kindAt p b = k.kind := by simp [kindAt, hk]
  have hsg := scRows_get (p := p) hbl
  rw [scopeA_eq hh hk] at hsg
  obtain ⟨_, hse⟩ := List.getElem?_eq_some_iff.1 hsg
  have hc : fastsL p b = sorted (picked (fastIn p b) 8) := by
    rw [sorted_picked]
    simp [fastsL, hka, hk1]
  have hkd : (k.kind == 1) = true := by simpa using hk1
  rw [hc]
  refine FnOk.of_sem Tryd.func65 rfl (by kernel_rfl) (rs := [.tmp 4]) rfl Tryd.ntmps65 (Nat.le_of_ble_eq_true rfl) fun C w g root => ?_
  all_goals have fx := And.intro hsg <| And.intro hse <| And.intro hkd <| And.intro hbl <| @bne_def
  repeat' (first
   | refine w_seq ?_ | refine w_block ?_ | refine w_skip ?_ | refine w_reg fun K hK => ?_
   | ((with_reducible refine s_end hK ?_); clear hK K)
   | (with_reducible first | refine then_normal ?_ | refine in_normal ?_ | refine then_exit ?_ | refine in_exit ?_ | refine then_ret ?_ | refine in_ret ?_ | refine in_other (by decide) ?_)
   | refine w_exit ?_
   | refine w_ret ?_
   | (with_reducible refine s_none ?_)
   | ((with_reducible refine g_id ?_); refine x_guard (h := ?_))
   | (with_reducible first | refine gx_tt ?_ | refine gx_ff ?_ | refine x_tf (h := ?_) | refine x_ft (h := ?_) | refine x_u (h := ?_) | refine x_assign (h := ?_) | refine x_alloc (h := ?_) | refine x_store0 (h := ?_))
   | ((with_reducible refine o_id 66 rfl ?_); refine x_call (hF := cellSet_fn _ p hp b k hk) (h := ?_))
   | (with_reducible refine x_q (h := ?_))
   | (with_reducible refine gx_s (fun ht => ?_) (fun ht => ?_))
   | refine x_condt (h1 := ?_) | refine x_condf (h1 := ?_)
   | fail)
  all_goals try clear fx
  refine w_loop (fun n st => ∃ x : Nat, n = 8 - x ∧ x ≤ 8 ∧ st.tm 0 = scsl p ∧ st.tm 1 = iv b ∧ st.tm 5 = .pt (.s 5) 0 ∧ st.hp (.s 5) = some (.row 8 [bset (picked (fastIn p b) x)]) ∧ st.tm 6 = .pt (.s 6) 0 ∧ st.hp (.s 6) = some (.row 8 [bset (cellsL p b)]) ∧ st.tm 19 = iv x) 8 ?_ ?_
  · exact ⟨0, by omega, by omega, by simp, by simp, by simp, by simp; rfl, by simp, by simp, by simp⟩
  rintro n st - - ⟨x, rfl, hx, h0, h1, h5, hp5, h6, hp6, h19⟩
  by_cases hx8 : x < 8
  · have hx8' : (x : Int) < 8 := by omega
    have hfi : fastIn p b x = (isLocal b k x && !decide ((x : Int) ∈ cellsL p b)) := by simp only [fastIn, hk]
    have hn2 := picked_succ (f := fastIn p b) (n := x)
    have hno : (x : Int) ∉ picked (fastIn p b) x := fun h => by
      rw [mem_picked_nat] at h
      omega
    have hbg := bset_get (l := cellsL p b) hx8
    obtain ⟨hbgl, hbgE⟩ := List.getElem?_eq_some_iff.1 hbg
    generalize hL : picked (fastIn p b) x = L at hp5 hn2 hno
    cases hlo : isLocal b k x
    · rw [if_neg (by rw [hfi, hlo]; simp)] at hn2
      all_goals have fx := And.intro h0 <| And.intro h1 <| And.intro h5 <| And.intro hp5 <| And.intro h6 <| And.intro hp6 <| And.intro h19 <| And.intro hx8 <| And.intro hx8' <| And.intro hsg <| And.intro hse <| And.intro hbl <| hlo
      repeat' (first
       | refine w_seq ?_ | refine w_block ?_ | refine w_skip ?_ | refine w_reg fun K hK => ?_
       | ((with_reducible refine s_end hK ?_); clear hK K)
       | (with_reducible first | refine then_normal ?_ | refine in_normal ?_ | refine then_exit ?_ | refine in_exit ?_ | refine then_ret ?_ | refine in_ret ?_ | refine in_other (by decide) ?_)
       | refine w_exit ?_
       | refine w_ret ?_
       | (with_reducible refine s_none ?_)
       | ((with_reducible refine g_id ?_); refine x_guard (h := ?_))
       | (with_reducible first | refine gx_tt ?_ | refine gx_ff ?_ | refine x_tf (h := ?_) | refine x_ft (h := ?_) | refine x_u (h := ?_) | refine x_assign (h := ?_) | refine x_alloc (h := ?_) | refine x_store0 (h := ?_))
       | ((with_reducible refine o_id 104 rfl ?_); refine x_call (hF := local_fn' _ p hp b k hk x hx8) (h := ?_))
       | (with_reducible refine x_q (h := ?_))
       | (with_reducible refine gx_s (fun ht => ?_) (fun ht => ?_))
       | refine x_condt (h1 := ?_) | refine x_condf (h1 := ?_)
       | fail)
      all_goals try clear fx
      exact ⟨8 - (x + 1), by omega, x + 1, rfl, by omega, by simp [h0], by simp [h1], by simp [h5], by simp [hn2, bset_same hx8 hno], by simp [h6], by simp [hp6], by simp; exact wrp (by omega) (by omega)⟩
    cases hce : decide ((x : Int) ∈ cellsL p b)
    rotate_left
    · rw [if_neg (by rw [hfi, hlo, hce]; decide)] at hn2
      all_goals have fx := And.intro h0 <| And.intro h1 <| And.intro h5 <| And.intro hp5 <| And.intro h6 <| And.intro hp6 <| And.intro h19 <| And.intro hx8 <| And.intro hx8' <| And.intro hsg <| And.intro hse <| And.intro hbl <| And.intro hlo <| And.intro hbg <| And.intro hbgE <| And.intro hbgl <| hce
      repeat' (first
       | refine w_seq ?_ | refine w_block ?_ | refine w_skip ?_ | refine w_reg fun K hK => ?_
       | ((with_reducible refine s_end hK ?_); clear hK K)
       | (with_reducible first | refine then_normal ?_ | refine in_normal ?_ | refine then_exit ?_ | refine in_exit ?_ | refine then_ret ?_ | refine in_ret ?_ | refine in_other (by decide) ?_)
       | refine w_exit ?_
       | refine w_ret ?_
       | (with_reducible refine s_none ?_)
       | ((with_reducible refine g_id ?_); refine x_guard (h := ?_))
       | (with_reducible first | refine gx_tt ?_ | refine gx_ff ?_ | refine x_tf (h := ?_) | refine x_ft (h := ?_) | refine x_u (h := ?_) | refine x_assign (h := ?_) | refine x_alloc (h := ?_) | refine x_store0 (h := ?_))
       | ((with_reducible refine o_id 104 rfl ?_); refine x_call (hF := local_fn' _ p hp b k hk x hx8) (h := ?_))
       | (with_reducible refine x_q (h := ?_))
       | (with_reducible refine gx_s (fun ht => ?_) (fun ht => ?_))
       | refine x_condt (h1 := ?_) | refine x_condf (h1 := ?_)
       | fail)
      all_goals try clear fx
      exact ⟨8 - (x + 1), by omega, x + 1, rfl, by omega, by simp [h0], by simp [h1], by simp [h5], by simp [hn2, bset_same hx8 hno], by simp [h6], by simp [hp6], by simp; exact wrp (by omega) (by omega)⟩
    · rw [if_pos (by rw [hfi, hlo, hce]; rfl)] at hn2
      all_goals have fx := And.intro h0 <| And.intro h1 <| And.intro h5 <| And.intro hp5 <| And.intro h6 <| And.intro hp6 <| And.intro h19 <| And.intro hx8 <| And.intro hx8' <| And.intro hsg <| And.intro hse <| And.intro hbl <| And.intro hlo <| And.intro hbg <| And.intro hbgE <| And.intro hbgl <| hce
      repeat' (first
       | refine w_seq ?_ | refine w_block ?_ | refine w_skip ?_ | refine w_reg fun K hK => ?_
       | ((with_reducible refine s_end hK ?_); clear hK K)
       | (with_reducible first | refine then_normal ?_ | refine in_normal ?_ | refine then_exit ?_ | refine in_exit ?_ | refine then_ret ?_ | refine in_ret ?_ | refine in_other (by decide) ?_)
       | refine w_exit ?_
       | refine w_ret ?_
       | (with_reducible refine s_none ?_)
       | ((with_reducible refine g_id ?_); refine x_guard (h := ?_))
       | (with_reducible first | refine gx_tt ?_ | refine gx_ff ?_ | refine x_tf (h := ?_) | refine x_ft (h := ?_) | refine x_u (h := ?_) | refine x_assign (h := ?_) | refine x_alloc (h := ?_) | refine x_store0 (h := ?_))
       | ((with_reducible refine o_id 104 rfl ?_); refine x_call (hF := local_fn' _ p hp b k hk x hx8) (h := ?_))
       | (with_reducible refine x_q (h := ?_))
       | (with_reducible refine gx_s (fun ht => ?_) (fun ht => ?_))
       | refine x_condt (h1 := ?_) | refine x_condf (h1 := ?_)
       | fail)
      all_goals try clear fx
      refine ⟨8 - (x + 1), by omega, x + 1, rfl, by omega, by simp [h0], by simp [h1], by simp [h5], ?_, by simp [h6], by simp [hp6], by simp; exact wrp (by omega) (by omega)⟩
      rw [hn2]
      simp [← bset_add (l := L) (y := (x : Int)) rfl hx8]
  · have hge : x = 8 := by omega
    subst hge
    all_goals have fx := And.intro h5 <| And.intro hp5 <| h19
    repeat' (first
     | refine w_seq ?_ | refine w_block ?_ | refine w_skip ?_ | refine w_reg fun K hK => ?_
     | ((with_reducible refine s_end hK ?_); clear hK K)
     | (with_reducible first | refine then_normal ?_ | refine in_normal ?_ | refine then_exit ?_ | refine in_exit ?_ | refine then_ret ?_ | refine in_ret ?_ | refine in_other (by decide) ?_)
     | refine w_exit ?_
     | refine w_ret ?_
     | (with_reducible refine s_none ?_)
     | ((with_reducible refine g_id ?_); refine x_guard (h := ?_))
     | (with_reducible first | refine gx_tt ?_ | refine gx_ff ?_ | refine x_tf (h := ?_) | refine x_ft (h := ?_) | refine x_u (h := ?_) | refine x_assign (h := ?_) | refine x_alloc (h := ?_) | refine x_store0 (h := ?_))
     | ((with_reducible refine o_id 62 rfl ?_); refine x_callh (hF := list_fn _ (picked (fastIn p b) 8)) (h := ?_))
     | (with_reducible refine x_q (h := ?_))
     | (with_reducible refine gx_s (fun ht => ?_) (fun ht => ?_))
     | refine x_condt (h1 := ?_) | refine x_condf (h1 := ?_)
     | fail)
    all_goals try clear fx
    exact e_list (t := 4) (by first | (simp []; done) | (simp []; rfl)) (by first | (simp []; done) | (simp []; rfl)) (by simp)

theorem impl_cellPlace_fn (gl) (p : Prg) (hp : ShapeP p) (b : Nat) (k : Blk) (hk : p[b]? = some k) (x : Nat) (hx : x < 8) : FnOk Tryd.prog gl 124 [scsl p, iv b, iv x] (fun _ y _ => y = iv (cellPl p b x)) := by
  have hbl := (List.getElem?_eq_some_iff.1 hk).1
  have hcl := cellsL_len (p := p) (b := b)
  have hfl := freesL_len (p := p) (b := b)
  have hbd := placeIn_bd (xs := freesL p b) (x := (x : Int))
  have hw : IntKind.i64.wrap (((cellsL p b).length : Int) + placeIn (freesL p b) x) = (cellsL p b).length + placeIn (freesL p b) x := wrp (by omega) (by omega)
  have hli := list_fn gl (cellsL p b)
  rw [sorted_cells] at hli
  have hpn := placeIn_none (xs := cellsL p b) (x := (x : Int))
  refine FnOk.of_sem Tryd.func124 rfl (by kernel_rfl) (rs := [.tmp 6]) rfl Tryd.ntmps124 (Nat.le_of_ble_eq_true rfl) fun C w g root => ?_
  by_cases hm : (x : Int) ∈ cellsL p b
  · have hpn' : (placeIn (cellsL p b) x == -1) = false := by rw [hpn]; simp [hm]
    all_goals have fx := And.intro hpn' <| @bne_def
    repeat' (first
     | refine w_seq ?_ | refine w_skip ?_ | refine w_reg fun K hK => ?_
     | ((with_reducible refine s_end hK ?_); clear hK K)
     | (with_reducible first | refine then_normal ?_ | refine then_ret ?_)
     | refine w_ret ?_
     | (with_reducible first | refine s_none ?_ | refine x_assign (h := ?_))
     | ((with_reducible refine o_id 66 rfl ?_); refine x_call (hF := cellSet_fn _ p hp b k hk) (h := ?_))
     | ((with_reducible refine o_id 62 rfl ?_); refine x_callh (hF := hli) (h := ?_))
     | ((with_reducible refine o_id 123 rfl ?_); refine x_call (hF := placeOf_fn _ (cellsL p b) _ (by omega)) (h := ?_))
     | (with_reducible refine x_q (h := ?_))
     | refine x_condt (h1 := ?_) | refine x_condf (h1 := ?_)
     | fail)
    all_goals try clear fx
    refine e_ret [] .nil (by simp; rfl) ?_
    simp [cellPl, hm]
  · have hpn' : (placeIn (cellsL p b) x == -1) = true := by rw [hpn]; simp [hm]
    all_goals have fx := And.intro hpn' <| And.intro hw <| @bne_def
    repeat' (first
     | refine w_seq ?_ | refine w_skip ?_ | refine w_reg fun K hK => ?_
     | ((with_reducible refine s_end hK ?_); clear hK K)
     | (with_reducible first | refine then_normal ?_ | refine then_ret ?_)
     | refine w_ret ?_
     | (with_reducible first | refine s_none ?_ | refine x_assign (h := ?_))
     | ((with_reducible refine o_id 66 rfl ?_); refine x_call (hF := cellSet_fn _ p hp b k hk) (h := ?_))
     | ((with_reducible refine o_id 62 rfl ?_); refine x_callh (hF := hli) (h := ?_))
     | ((with_reducible refine o_id 123 rfl ?_); refine x_call (hF := placeOf_fn _ (cellsL p b) _ (by omega)) (h := ?_))
     | ((with_reducible refine o_id 67 rfl ?_); refine x_callh (hF := freesOf_fn _ p hp b hbl) (h := ?_))
     | ((with_reducible refine o_id 123 rfl ?_); refine x_call (hF := placeOf_fn _ (freesL p b) _ (by omega)) (h := ?_))
     | (with_reducible refine x_q (h := ?_))
     | refine x_condt (h1 := ?_) | refine x_condf (h1 := ?_)
     | fail)
    all_goals try clear fx
    refine e_ret [] .nil (by simp; rfl) ?_
    simp [cellPl, hm]

theorem symbolOf_fn (gl) (p : Prg) (hp : ShapeP p) (b : Nat) (k : Blk) (hk : p[b]? = some k) (x : Nat) (hx : x < 8) : FnOk Tryd.prog gl 64 [scsl p, iv b, iv x] (fun _ y _ => y = iv (symOf p b x)) := by
  have hh := hp.heads
  have hl7 := hp.len
  obtain ⟨hbl, hbE⟩ := List.getElem?_eq_some_iff.1 hk
  have hka : kindAt p b = k.kind := by simp [kindAt, hk]
  have hsg := scRows_get (p := p) hbl
  rw [scopeA_eq hh hk] at hsg
  obtain ⟨_, hse⟩ := List.getElem?_eq_some_iff.1 hsg
  have hop := owner_pos (p := p) (c := b) (x := (x : Int))
  have hx8 : (x : Int) < 8 := by omega
  refine FnOk.of_sem Tryd.func64 rfl (by kernel_rfl) (rs := [.tmp 6]) rfl Tryd.ntmps64 (Nat.le_of_ble_eq_true rfl) fun C w g root => ?_
  cases ho : (owner p b x == -1)
  rotate_left
  · skip
    all_goals have fx := And.intro hsg <| And.intro hse <| And.intro hbl <| ho
    repeat' (first
     | refine w_seq ?_ | refine w_block ?_ | refine w_skip ?_ | refine w_reg fun K hK => ?_
     | ((with_reducible refine s_end hK ?_); clear hK K)
     | (with_reducible first | refine then_normal ?_ | refine in_normal ?_ | refine then_ret ?_ | refine in_ret ?_)
     | refine w_ret ?_
     | (with_reducible first | refine s_none ?_ | refine x_assign (h := ?_))
     | ((with_reducible refine o_id 103 rfl ?_); refine x_call (hF := scope_owner_fn _ p hp b k hk x hx) (h := ?_))
     | (with_reducible refine x_q (h := ?_))
     | refine x_condt (h1 := ?_) | refine x_condf (h1 := ?_)
     | fail)
    all_goals try clear fx
    refine e_ret [] .nil (by simp; rfl) ?_
    have ho' : owner p b x = -1 := by simpa using ho
    simp [symOf, ho']
  have hno : ¬ owner p b x = -1 := by simpa using ho
  have hnl : ¬ owner p b x < 0 := by omega
  cases hb : (owner p b x == (b : Int))
  · skip
    all_goals have fx := And.intro hsg <| And.intro hse <| And.intro hbl <| And.intro ho <| And.intro hb <| @bne_def
    repeat' (first
     | refine w_seq ?_ | refine w_block ?_ | refine w_skip ?_ | refine w_reg fun K hK => ?_
     | ((with_reducible refine s_end hK ?_); clear hK K)
     | (with_reducible first | refine then_normal ?_ | refine in_normal ?_ | refine then_ret ?_ | refine in_ret ?_)
     | refine w_ret ?_
     | (with_reducible first | refine s_none ?_ | refine x_assign (h := ?_))
     | ((with_reducible refine o_id 103 rfl ?_); refine x_call (hF := scope_owner_fn _ p hp b k hk x hx) (h := ?_))
     | (with_reducible refine x_q (h := ?_))
     | refine x_condt (h1 := ?_) | refine x_condf (h1 := ?_)
     | fail)
    all_goals try clear fx
    refine e_ret [] .nil (by simp; rfl) ?_
    have hb' : ¬ owner p b x = b := by simpa using hb
    simp only [symOf, if_neg hnl, if_pos hb']
    rfl
  have hb' : owner p b x = b := by simpa using hb
  have hnn : ¬ owner p b x ≠ b := fun h => h hb'
  cases hkd : (k.kind == 2)
  rotate_left
  · skip
    all_goals have fx := And.intro hsg <| And.intro hse <| And.intro hbl <| And.intro ho <| And.intro hb <| And.intro @bne_def <| hkd
    repeat' (first
     | refine w_seq ?_ | refine w_block ?_ | refine w_skip ?_ | refine w_reg fun K hK => ?_
     | ((with_reducible refine s_end hK ?_); clear hK K)
     | (with_reducible first | refine then_normal ?_ | refine in_normal ?_ | refine then_ret ?_ | refine in_ret ?_)
     | refine w_ret ?_
     | (with_reducible first | refine s_none ?_ | refine x_assign (h := ?_))
     | ((with_reducible refine o_id 103 rfl ?_); refine x_call (hF := scope_owner_fn _ p hp b k hk x hx) (h := ?_))
     | (with_reducible refine x_q (h := ?_))
     | refine x_condt (h1 := ?_) | refine x_condf (h1 := ?_)
     | fail)
    all_goals try clear fx
    refine e_ret [] .nil (by simp; rfl) ?_
    have hkd' : k.kind = 2 := by simpa using hkd
    simp only [symOf, if_neg hnl, if_neg hnn, hka, if_pos hkd']
    rfl
  have hkd' : ¬ k.kind = 2 := by simpa using hkd
  have hbg := bset_get (l := cellsL p b) hx
  obtain ⟨hbgl, hbgE⟩ := List.getElem?_eq_some_iff.1 hbg
  cases hce : decide ((x : Int) ∈ cellsL p b)
  all_goals
    all_goals have fx := And.intro hsg <| And.intro hse <| And.intro hbl <| And.intro ho <| And.intro hb <| And.intro @bne_def <| And.intro hkd <| And.intro hbg <| And.intro hbgE <| And.intro hbgl <| And.intro hx <| And.intro hx8 <| hce
    repeat' (first
     | refine w_seq ?_ | refine w_block ?_ | refine w_skip ?_ | refine w_reg fun K hK => ?_
     | ((with_reducible refine s_end hK ?_); clear hK K)
     | (with_reducible first | refine then_normal ?_ | refine in_normal ?_ | refine then_ret ?_ | refine in_ret ?_)
     | refine w_ret ?_
     | (with_reducible first | refine s_none ?_ | refine x_assign (h := ?_))
     | ((with_reducible refine o_id 103 rfl ?_); refine x_call (hF := scope_owner_fn _ p hp b k hk x hx) (h := ?_))
     | ((with_reducible refine o_id 66 rfl ?_); refine x_call (hF := cellSet_fn _ p hp b k hk) (h := ?_))
     | (with_reducible refine x_q (h := ?_))
     | refine x_condt (h1 := ?_) | refine x_condf (h1 := ?_)
     | fail)
    all_goals try clear fx
    refine e_ret [] .nil (by simp; rfl) ?_
    simp at hce
    simp only [symOf, if_neg hnl, if_neg hnn, hka, if_neg hkd', hce]
    rfl

/-- the codes of the orders that load a name -/
abbrev codesL : List AV := [iv 8, iv 5, iv 11, iv 5, iv 2]
theorem accessOp_fn (gl : Nat → Option (List AV)) (hgl : gl 1 = some codesL) (p : Prg) (hp : ShapeP p) (b : Nat) (k : Blk) (hk : p[b]? = some k) (x : Nat) (hx : x < 8) (w : Int) (hw0 : 0 ≤ w) (hw2 : w ≤ 2) : FnOk Tryd.prog gl 88 [scsl p, iv b, iv x, iv w] (fun _ y _ => y = .agg [iv (nameOp p b x w).1, iv (nameOp p b x w).2]) := by
  have hw8 : IntKind.i64.wrap (8 + w) = 8 + w := wrp (by omega) (by omega)
  have hw11 : IntKind.i64.wrap (11 + w) = 11 + w := wrp (by omega) (by omega)
  have hw22 : IntKind.i64.wrap (2 + w) = 2 + w := wrp (by omega) (by omega)
  have hw5 : IntKind.i64.wrap (5 + w) = 5 + w := wrp (by omega) (by omega)
  have hsf := symOf_fast (x := (x : Int)) hk (hp.kind0 hk).symm (shape_kind3 hp hk)
  have hfl := fastsL_len (p := p) (b := b)
  have hs5 : symOf p b x = 0 ∨ symOf p b x = 1 ∨ symOf p b x = 2 ∨ symOf p b x = 3 ∨ symOf p b x = 4 := by
    unfold symOf
    split
    · simp
    · split
      · simp
      · split
        · simp
        · split <;> simp
  refine FnOk.of_sem Tryd.func88 rfl (by kernel_rfl) (rs := [.cell 8 29]) rfl Tryd.ntmps88 (Nat.le_of_ble_eq_true rfl) fun C w g root => ?_
  rcases hs5 with h | h | h | h | h
  · skip
    all_goals have fx := And.intro h <| And.intro hgl <| hw8
    repeat' (first
     | refine w_seq ?_ | refine w_block ?_ | refine w_skip ?_ | refine w_reg fun K hK => ?_
     | ((with_reducible refine s_end hK ?_); clear hK K)
     | (with_reducible first | refine then_normal ?_ | refine in_normal ?_ | refine then_ret ?_ | refine in_ret ?_)
     | refine w_ret ?_
     | (with_reducible first | refine s_none ?_ | refine x_assign (h := ?_) | refine x_alloc (h := ?_) | refine x_store0 (h := ?_))
     | ((with_reducible refine o_id 64 rfl ?_); refine x_call (hF := symbolOf_fn _ p hp b k hk x hx) (h := ?_))
     | (with_reducible refine x_q (h := ?_))
     | refine x_condt (h1 := ?_) | refine x_condf (h1 := ?_)
     | fail)
    all_goals try clear fx
    refine e_ret [] .nil (by simp; rfl) ?_
    simp [nameOp, h]
  · skip
    all_goals have fx := And.intro h <| And.intro hgl <| hw5
    repeat' (first
     | refine w_seq ?_ | refine w_block ?_ | refine w_skip ?_ | refine w_reg fun K hK => ?_
     | ((with_reducible refine s_end hK ?_); clear hK K)
     | (with_reducible first | refine then_normal ?_ | refine in_normal ?_ | refine then_ret ?_ | refine in_ret ?_)
     | refine w_ret ?_
     | (with_reducible first | refine s_none ?_ | refine x_assign (h := ?_) | refine x_alloc (h := ?_) | refine x_store0 (h := ?_))
     | ((with_reducible refine o_id 64 rfl ?_); refine x_call (hF := symbolOf_fn _ p hp b k hk x hx) (h := ?_))
     | ((with_reducible refine o_id 124 rfl ?_); refine x_call (hF := impl_cellPlace_fn _ p hp b k hk x hx) (h := ?_))
     | (with_reducible refine x_q (h := ?_))
     | refine x_condt (h1 := ?_) | refine x_condf (h1 := ?_)
     | fail)
    all_goals try clear fx
    refine e_ret [] .nil (by simp; rfl) ?_
    simp [nameOp, h]
  · skip
    all_goals have fx := And.intro h <| And.intro hgl <| hw11
    repeat' (first
     | refine w_seq ?_ | refine w_block ?_ | refine w_skip ?_ | refine w_reg fun K hK => ?_
     | ((with_reducible refine s_end hK ?_); clear hK K)
     | (with_reducible first | refine then_normal ?_ | refine in_normal ?_ | refine then_ret ?_ | refine in_ret ?_)
     | refine w_ret ?_
     | (with_reducible first | refine s_none ?_ | refine x_assign (h := ?_) | refine x_alloc (h := ?_) | refine x_store0 (h := ?_))
     | ((with_reducible refine o_id 64 rfl ?_); refine x_call (hF := symbolOf_fn _ p hp b k hk x hx) (h := ?_))
     | (with_reducible refine x_q (h := ?_))
     | refine x_condt (h1 := ?_) | refine x_condf (h1 := ?_)
     | fail)
    all_goals try clear fx
    refine e_ret [] .nil (by simp; rfl) ?_
    simp [nameOp, h]
  · skip
    all_goals have fx := And.intro h <| And.intro hgl <| hw5
    repeat' (first
     | refine w_seq ?_ | refine w_block ?_ | refine w_skip ?_ | refine w_reg fun K hK => ?_
     | ((with_reducible refine s_end hK ?_); clear hK K)
     | (with_reducible first | refine then_normal ?_ | refine in_normal ?_ | refine then_ret ?_ | refine in_ret ?_)
     | refine w_ret ?_
     | (with_reducible first | refine s_none ?_ | refine x_assign (h := ?_) | refine x_alloc (h := ?_) | refine x_store0 (h := ?_))
     | ((with_reducible refine o_id 64 rfl ?_); refine x_call (hF := symbolOf_fn _ p hp b k hk x hx) (h := ?_))
     | ((with_reducible refine o_id 124 rfl ?_); refine x_call (hF := impl_cellPlace_fn _ p hp b k hk x hx) (h := ?_))
     | (with_reducible refine x_q (h := ?_))
     | refine x_condt (h1 := ?_) | refine x_condf (h1 := ?_)
     | fail)
    all_goals try clear fx
    refine e_ret [] .nil (by simp; rfl) ?_
    simp [nameOp, h]
  · skip
    all_goals have fx := And.intro h <| And.intro hgl <| hw22
    repeat' (first
     | refine w_seq ?_ | refine w_block ?_ | refine w_skip ?_ | refine w_reg fun K hK => ?_
     | ((with_reducible refine s_end hK ?_); clear hK K)
     | (with_reducible first | refine then_normal ?_ | refine in_normal ?_ | refine then_ret ?_ | refine in_ret ?_)
     | refine w_ret ?_
     | (with_reducible first | refine s_none ?_ | refine x_assign (h := ?_) | refine x_alloc (h := ?_) | refine x_store0 (h := ?_))
     | ((with_reducible refine o_id 64 rfl ?_); refine x_call (hF := symbolOf_fn _ p hp b k hk x hx) (h := ?_))
     | ((with_reducible refine o_id 65 rfl ?_); refine x_callh (hF := fastsOf_fn _ p hp b k hk (hsf (.inr h))) (h := ?_))
     | ((with_reducible refine o_id 123 rfl ?_); refine x_call (hF := placeOf_fn _ (fastsL p b) _ (by omega)) (h := ?_))
     | (with_reducible refine x_q (h := ?_))
     | refine x_condt (h1 := ?_) | refine x_condf (h1 := ?_)
     | fail)
    all_goals try clear fx
    refine e_ret [] .nil (by simp; rfl) ?_
    simp [nameOp, h]
end Go.Proofs.YtmpbjmihjelhgaaDoor
end

section
/-
  The laws on orders that set a name and that take one away: what they return.
-/
set_option maxRecDepth 100000
set_option maxHeartbeats 2000000
set_option linter.unusedSimpArgs false
namespace Go.Proofs.YtmpbjmihjelhgaaDoor
open Go Go.Hm Go.Proofs

end Go.Proofs.YtmpbjmihjelhgaaDoor
end
