/-
  Own texts, joined by mkclaim.py: Kc, Kd.
-/
import Derived.Test.YtmaoicgfcngciaaGreatDoorY20
import Derived.Test.YtmaoicgfcngciaaGreatDoorY11
set_option linter.unusedSimpArgs false
set_option linter.unusedVariables false
set_option maxRecDepth 100000
set_option maxHeartbeats 4000000

section
namespace Go.Proofs.YtmaoicgfcngciaaGreatDoor
open Go Go.Hm Go.Proofs
theorem picked_none {f : Nat → Bool} : ∀ {n : Nat}, (∀ x, x < n → f x = false) → picked f n = []
  | 0, _ => rfl
  | n + 1, h => by
    rw [picked, if_neg (by rw [h n (by omega)]; decide), picked_none (n := n) fun x hx => h x (by omega)]
theorem picked_succ {f : Nat → Bool} {n : Nat} : picked f (n + 1) = if f n = true then picked f n ++ [(n : Int)] else picked f n := rfl
theorem placeOf_fn (gl) (xs : List Int) (x : Int) (hlen : xs.length ≤ 1048576) : FnOk Tryz.prog gl 184 [isl xs, iv x] (fun _ z _ => z = iv (placeIn xs x)) := by
  refine FnOk.of_sem Tryz.func184 rfl (by kernel_rfl) (rs := [.tmp 4]) rfl Tryz.ntmps184 (Nat.le_of_ble_eq_true rfl) fun C w g root => ?_
  all_goals have fx := fx0
  repeat' (first
   | refine w_seq ?_ | refine w_block ?_ | refine w_reg fun K hK => ?_
   | ((with_reducible refine s_end hK ?_); clear hK K)
   | (with_reducible first | refine s_none ?_ | refine x_assign (h := ?_))
   | (with_reducible refine x_q (h := ?_))
   | fail)
  all_goals try clear fx
  refine w_loop (fun n st => ∃ i : Nat, n = xs.length - i ∧ i ≤ xs.length ∧ st.tm 7 = isl xs ∧ st.tm 8 = iv xs.length ∧ st.tm 1 = iv x ∧ st.tm 9 = iv i ∧ ∀ j < i, xs[j]? ≠ some x) xs.length ⟨0, by simp⟩ ?_
  rintro n st - - ⟨i, rfl, hi, h7, h8, h1, h9, hno⟩
  by_cases hlt : i < xs.length
  · obtain ⟨y, hy⟩ : ∃ y, xs[i]? = some y := ⟨xs[i], gE hlt⟩
    obtain ⟨_, hyE⟩ := gS hy
    cases hyx : (y == x)
    rotate_left
    · skip
      all_goals have fx := And.intro h7 <| And.intro h8 <| And.intro h1 <| And.intro h9 <| And.intro hy <| And.intro hyE <| And.intro hlt <| hyx
      repeat' (first
       | refine w_seq ?_ | refine w_block ?_ | refine w_skip ?_ | refine w_reg fun K hK => ?_
       | ((with_reducible refine s_end hK ?_); clear hK K)
       | (with_reducible first | refine then_normal ?_ | refine then_ret ?_ | refine in_ret ?_)
       | refine w_ret ?_
       | (with_reducible first | refine s_none ?_ | refine x_assign (h := ?_))
       | (with_reducible refine x_q (h := ?_))
       | refine x_condt (h1 := ?_)
       | fail)
      all_goals try clear fx
      refine e_ret [] .nil (by simp; rfl) ?_
      have hyx : y = x := by simpa using hyx
      subst hyx
      have : xs.findIdx? (· == y) = some i := by
        rw [List.findIdx?_eq_some_iff_getElem]
        refine ⟨hlt, by simp [hyE], fun j hj => ?_⟩
        have := hno j hj
        rw [gE (by omega)] at this
        simpa using this
      simp [placeIn, this]
    · skip
      all_goals have fx := And.intro h7 <| And.intro h8 <| And.intro h1 <| And.intro h9 <| And.intro hy <| And.intro hyE <| And.intro hlt <| hyx
      repeat' (first
       | refine w_seq ?_ | refine w_block ?_ | refine w_skip ?_ | refine w_reg fun K hK => ?_
       | ((with_reducible refine s_end hK ?_); clear hK K)
       | (with_reducible first | refine then_normal ?_)
       | (with_reducible first | refine s_none ?_ | refine x_assign (h := ?_))
       | (with_reducible refine x_q (h := ?_))
       | refine x_condt (h1 := ?_) | refine x_condf (h1 := ?_)
       | fail)
      all_goals try clear fx
      refine ⟨xs.length - (i + 1), by omega, i + 1, rfl, by omega, by simp [h7], by simp [h8], by simp [h1], by simp; exact wrp (by omega) (by omega), fun j hj => ?_⟩
      rcases Nat.lt_succ_iff_lt_or_eq.1 hj with h | rfl
      · exact hno j h
      · rw [hy]; simpa using hyx
  · skip
    all_goals have fx := And.intro h7 <| And.intro h8 <| And.intro h1 <| And.intro h9 <| hlt
    repeat' (first
     | refine w_seq ?_ | refine w_reg fun K hK => ?_
     | ((with_reducible refine s_end hK ?_); clear hK K)
     | (with_reducible first | refine then_normal ?_)
     | refine w_exit ?_
     | refine w_ret ?_
     | (with_reducible first | refine s_none ?_ | refine x_assign (h := ?_))
     | (with_reducible refine x_q (h := ?_))
     | refine x_condf (h1 := ?_)
     | fail)
    all_goals try clear fx
    refine e_ret [] .nil (by simp; rfl) ?_
    have : xs.findIdx? (· == x) = none := by
      rw [List.findIdx?_eq_none_iff]
      intro y hy
      obtain ⟨j, hj, rfl⟩ := List.getElem_of_mem hy
      have := hno j (by omega)
      rw [gE hj] at this
      simpa using this
    simp [placeIn, this]
theorem cellSet_fn (gl) (p : Prg) (hp : ShapeP p) (b : Nat) (k : Blk) (hk : p[b]? = some k) : FnOk Tryz.prog gl 115 [scsl p, iv b] (fun _ y _ => y = .agg (bset (cellsL p b))) := by
  have hh := hp.heads
  have hl7 := hp.len
  obtain ⟨hbl, hbE⟩ := gS hk
  have hka : kindAt p b = k.kind := by simp [kindAt, hk]
  have hsg := scRows_get (p := p) hbl
  rw [scopeA_eq hh hk] at hsg
  obtain ⟨_, hse⟩ := gS hsg
  refine FnOk.of_sem Tryz.func115 rfl (by kernel_rfl) (rs := [.cell 4 154]) rfl Tryz.ntmps115 (Nat.le_of_ble_eq_true rfl) fun C w g root => ?_
  cases hkd : (k.kind == 1)
  · have hc : cellsL p b = [] := by
      have : ¬ k.kind = 1 := by simpa using hkd
      simp [cellsL, hka, this]
    rw [hc]
    all_goals have fx := And.intro hsg <| And.intro hse <| And.intro hkd <| And.intro hbl <| @bne_def
    repeat' (first
     | refine w_seq ?_ | refine w_block ?_ | refine w_skip ?_ | refine w_reg fun K hK => ?_
     | ((with_reducible refine s_end hK ?_); clear hK K)
     | (with_reducible first | refine then_normal ?_ | refine in_normal ?_ | refine then_exit ?_ | refine in_exit ?_ | refine then_ret ?_ | refine in_ret ?_ | refine in_other (by decide) ?_)
     | refine w_exit ?_
     | refine w_ret ?_
     | (with_reducible refine s_none ?_)
     | ((with_reducible refine g_id ?_); refine x_guard (h := ?_))
     | (with_reducible first | refine gx_tt ?_ | refine gx_ff ?_ | refine x_tf (h := ?_) | refine x_ft (h := ?_) | refine x_u (h := ?_) | refine x_assign (h := ?_) | refine x_alloc (h := ?_) | refine x_store0 (h := ?_))
     | (with_reducible refine x_q (h := ?_))
     | (with_reducible refine gx_s (fun ht => ?_) (fun ht => ?_))
     | refine x_condt (h1 := ?_) | refine x_condf (h1 := ?_)
     | fail)
    all_goals try clear fx
    refine e_ret [] .nil (by simp; rfl) ?_
    rfl
  have hk1 : k.kind = 1 := by simpa using hkd
  have h0 : 0 < b := by
    rcases Nat.eq_zero_or_pos b with e | e
    · have := (hp.kind0 hk).2 e
      omega
    · exact e
  have hc : bset (cellsL p b) = bset (cellsI p b p.length) := by
    simp only [cellsL, hka, hk1, if_true]
    rw [← cells_eq hh h0 hbl, bset_sorted]
  rw [hc]
  all_goals have fx := And.intro hsg <| And.intro hse <| And.intro hkd <| And.intro hbl <| @bne_def
  repeat' (first
   | refine w_seq ?_ | refine w_block ?_ | refine w_skip ?_ | refine w_reg fun K hK => ?_
   | ((with_reducible refine s_end hK ?_); clear hK K)
   | (with_reducible first | refine then_normal ?_ | refine in_normal ?_ | refine then_exit ?_ | refine in_exit ?_ | refine then_ret ?_ | refine in_ret ?_ | refine in_other (by decide) ?_)
   | refine w_exit ?_
   | refine w_ret ?_
   | (with_reducible refine s_none ?_)
   | ((with_reducible refine g_id ?_); refine x_guard (h := ?_))
   | (with_reducible first | refine gx_tt ?_ | refine gx_ff ?_ | refine x_tf (h := ?_) | refine x_ft (h := ?_) | refine x_u (h := ?_) | refine x_assign (h := ?_) | refine x_alloc (h := ?_) | refine x_store0 (h := ?_))
   | (with_reducible refine x_q (h := ?_))
   | (with_reducible refine gx_s (fun ht => ?_) (fun ht => ?_))
   | refine x_condt (h1 := ?_) | refine x_condf (h1 := ?_)
   | fail)
  all_goals try clear fx
  refine w_loop (fun n st => ∃ c : Nat, n = p.length - c ∧ c ≤ p.length ∧ st.tm 1 = iv b ∧ st.tm 4 = .pt (.s 4) 0 ∧ st.hp (.s 4) = some (.row 8 [bset []]) ∧ st.tm 5 = .pt (.s 5) 0 ∧ st.hp (.s 5) = some (.row 8 [bset (cellsI p b c)]) ∧ st.tm 18 = scsl p ∧ st.tm 19 = iv p.length ∧ st.tm 20 = iv c) p.length ?_ ?_
  · exact ⟨0, by omega, by omega, by simp, by simp, by simp; rfl, by simp, by simp; rfl, by simp, by simp, by simp⟩
  clear hsg hse
  rintro n st - - ⟨c, rfl, hc2, h1, h4, hp4, h5, hp5, h18, h19, h20⟩
  by_cases hlt : c < p.length
  · obtain ⟨q, hq⟩ : ∃ q, p[c]? = some q := ⟨_, gE hlt⟩
    have hsg := scRows_get (p := p) hlt
    rw [scopeA_eq hh hq] at hsg
    obtain ⟨_, hse⟩ := gS hsg
    have hnext : cellsI p b (c + 1) = cellsI p b c ++ picked (cellI p b c) 8 := rfl
    generalize hR : cellsI p b c = R at hp5 hnext
    cases hcb : ((c : Int) == b)
    rotate_left
    · have hcb' : c = b := by
        have : (c : Int) = b := by simpa using hcb
        omega
      rw [picked_none (fun x _ => by simp only [cellI, hq]; simp [hcb']), List.append_nil] at hnext
      all_goals have fx := And.intro h1 <| And.intro h4 <| And.intro hp4 <| And.intro h5 <| And.intro hp5 <| And.intro h18 <| And.intro h19 <| And.intro h20 <| And.intro hlt <| And.intro hsg <| And.intro hse <| hcb
      repeat' (first
       | refine w_seq ?_ | refine w_block ?_ | refine w_skip ?_ | refine w_reg fun K hK => ?_
       | ((with_reducible refine s_end hK ?_); clear hK K)
       | (with_reducible first | refine then_normal ?_ | refine in_normal ?_ | refine then_exit ?_ | refine in_exit ?_ | refine then_ret ?_ | refine in_ret ?_ | refine in_other (by decide) ?_)
       | refine w_exit ?_
       | refine w_ret ?_
       | (with_reducible refine s_none ?_)
       | ((with_reducible refine g_id ?_); refine x_guard (h := ?_))
       | (with_reducible first | refine gx_tt ?_ | refine gx_ff ?_ | refine x_tf (h := ?_) | refine x_ft (h := ?_) | refine x_u (h := ?_) | refine x_assign (h := ?_) | refine x_alloc (h := ?_) | refine x_store0 (h := ?_))
       | (with_reducible refine x_q (h := ?_))
       | (with_reducible refine gx_s (fun ht => ?_) (fun ht => ?_))
       | refine x_condt (h1 := ?_) | refine x_condf (h1 := ?_)
       | fail)
      all_goals try clear fx
      exact ⟨p.length - (c + 1), by omega, c + 1, rfl, by omega, by simp [h1], by simp [h4], by simp [hp4], by simp [h5], by simp [hp5, hnext], by simp [h18], by simp [h19], by simp; exact wrp (by omega) (by omega)⟩
    have hcb' : (c != b) = true := by
      have : ¬ (c : Int) = b := by simpa using hcb
      simp
      omega
    all_goals have fx := And.intro h1 <| And.intro h4 <| And.intro hp4 <| And.intro h5 <| And.intro hp5 <| And.intro h18 <| And.intro h19 <| And.intro h20 <| And.intro hlt <| And.intro hsg <| And.intro hse <| hcb
    repeat' (first
     | refine w_seq ?_ | refine w_block ?_ | refine w_skip ?_ | refine w_reg fun K hK => ?_
     | ((with_reducible refine s_end hK ?_); clear hK K)
     | (with_reducible first | refine then_normal ?_ | refine in_normal ?_ | refine then_exit ?_ | refine in_exit ?_ | refine then_ret ?_ | refine in_ret ?_ | refine in_other (by decide) ?_)
     | refine w_exit ?_
     | refine w_ret ?_
     | (with_reducible refine s_none ?_)
     | ((with_reducible refine g_id ?_); refine x_guard (h := ?_))
     | (with_reducible first | refine gx_tt ?_ | refine gx_ff ?_ | refine x_tf (h := ?_) | refine x_ft (h := ?_) | refine x_u (h := ?_) | refine x_assign (h := ?_) | refine x_alloc (h := ?_) | refine x_store0 (h := ?_))
     | (with_reducible refine x_q (h := ?_))
     | (with_reducible refine gx_s (fun ht => ?_) (fun ht => ?_))
     | refine x_condt (h1 := ?_) | refine x_condf (h1 := ?_)
     | fail)
    all_goals try clear fx
    refine w_loop (fun n st => ∃ x : Nat, n = 8 - x ∧ x ≤ 8 ∧ st.tm 1 = iv b ∧ st.tm 4 = .pt (.s 4) 0 ∧ st.hp (.s 4) = some (.row 8 [bset []]) ∧ st.tm 5 = .pt (.s 5) 0 ∧ st.hp (.s 5) = some (.row 8 [bset (R ++ picked (cellI p b c) x)]) ∧ st.tm 7 = scEl p c q ∧ st.tm 18 = scsl p ∧ st.tm 19 = iv p.length ∧ st.tm 20 = iv c ∧ st.tm 30 = iv x) 8 ?_ ?_
    · exact ⟨0, by omega, by omega, by simp [h1], by simp [h4], by simp [hp4], by simp [h5], by simp [hp5, picked], by simp, by simp [h18], by simp [h19], by simp [h20], by simp⟩
    clear h1 h4 hp4 h5 hp5 h18 h19 h20
    rintro n st - - ⟨x, rfl, hx, h1, h4, hp4, h5, hp5, h7, h18, h19, h20, h30⟩
    by_cases hx8 : x < 8
    · have hx8' : (x : Int) < 8 := by omega
      have hfi : cellI p b c x = (decide ((x : Int) ∈ q.us) && (owner p c x == b)) := by simp only [cellI, hq, hcb', Bool.true_and]
      have hn2 := picked_succ (f := cellI p b c) (n := x)
      cases hus : decide ((x : Int) ∈ q.us)
      · rw [if_neg (by rw [hfi, hus]; simp)] at hn2
        all_goals have fx := And.intro h1 <| And.intro h5 <| And.intro hp5 <| And.intro h7 <| And.intro h30 <| And.intro hx8 <| And.intro hx8' <| hus
        repeat' (first
         | refine w_seq ?_ | refine w_block ?_ | refine w_skip ?_ | refine w_reg fun K hK => ?_
         | ((with_reducible refine s_end hK ?_); clear hK K)
         | (with_reducible first | refine then_normal ?_ | refine in_normal ?_ | refine then_exit ?_ | refine in_exit ?_ | refine then_ret ?_ | refine in_ret ?_ | refine in_other (by decide) ?_)
         | refine w_exit ?_
         | refine w_ret ?_
         | (with_reducible refine s_none ?_)
         | ((with_reducible refine g_id ?_); refine x_guard (h := ?_))
         | (with_reducible first | refine gx_tt ?_ | refine gx_ff ?_ | refine x_tf (h := ?_) | refine x_ft (h := ?_) | refine x_u (h := ?_) | refine x_assign (h := ?_) | refine x_alloc (h := ?_) | refine x_store0 (h := ?_))
         | ((with_reducible refine o_id 159 rfl ?_); refine x_call (hF := uses_fn' _ p c q x hx8) (h := ?_))
         | ((with_reducible refine o_id 160 rfl ?_); refine x_call (hF := scope_owner_fn _ p hp c q hq x hx8) (h := ?_))
         | (with_reducible refine x_q (h := ?_))
         | (with_reducible refine gx_s (fun ht => ?_) (fun ht => ?_))
         | refine x_condt (h1 := ?_) | refine x_condf (h1 := ?_)
         | fail)
        all_goals try clear fx
        exact ⟨8 - (x + 1), by omega, x + 1, rfl, by omega, by simp [h1], by simp [h4], by simp [hp4], by simp [h5], by simp [hp5, hn2], by simp [h7], by simp [h18], by simp [h19], by simp [h20], by simp; exact wrp (by omega) (by omega)⟩
      cases ho : (owner p c x == (b : Int))
      · rw [if_neg (by rw [hfi, ho]; simp)] at hn2
        all_goals have fx := And.intro h1 <| And.intro h5 <| And.intro hp5 <| And.intro h7 <| And.intro h30 <| And.intro hx8 <| And.intro hx8' <| And.intro hus <| ho
        repeat' (first
         | refine w_seq ?_ | refine w_block ?_ | refine w_skip ?_ | refine w_reg fun K hK => ?_
         | ((with_reducible refine s_end hK ?_); clear hK K)
         | (with_reducible first | refine then_normal ?_ | refine in_normal ?_ | refine then_exit ?_ | refine in_exit ?_ | refine then_ret ?_ | refine in_ret ?_ | refine in_other (by decide) ?_)
         | refine w_exit ?_
         | refine w_ret ?_
         | (with_reducible refine s_none ?_)
         | ((with_reducible refine g_id ?_); refine x_guard (h := ?_))
         | (with_reducible first | refine gx_tt ?_ | refine gx_ff ?_ | refine x_tf (h := ?_) | refine x_ft (h := ?_) | refine x_u (h := ?_) | refine x_assign (h := ?_) | refine x_alloc (h := ?_) | refine x_store0 (h := ?_))
         | ((with_reducible refine o_id 159 rfl ?_); refine x_call (hF := uses_fn' _ p c q x hx8) (h := ?_))
         | ((with_reducible refine o_id 160 rfl ?_); refine x_call (hF := scope_owner_fn _ p hp c q hq x hx8) (h := ?_))
         | (with_reducible refine x_q (h := ?_))
         | (with_reducible refine gx_s (fun ht => ?_) (fun ht => ?_))
         | refine x_condt (h1 := ?_) | refine x_condf (h1 := ?_)
         | fail)
        all_goals try clear fx
        exact ⟨8 - (x + 1), by omega, x + 1, rfl, by omega, by simp [h1], by simp [h4], by simp [hp4], by simp [h5], by simp [hp5, hn2], by simp [h7], by simp [h18], by simp [h19], by simp [h20], by simp; exact wrp (by omega) (by omega)⟩
      · rw [if_pos (by rw [hfi, hus, ho]; rfl)] at hn2
        have hnM : R ++ picked (cellI p b c) (x + 1) = R ++ picked (cellI p b c) x ++ [(x : Int)] := by rw [hn2, List.append_assoc]
        generalize R ++ picked (cellI p b c) x = M at hp5 hnM
        all_goals have fx := And.intro h1 <| And.intro h5 <| And.intro hp5 <| And.intro h7 <| And.intro h30 <| And.intro hx8 <| And.intro hx8' <| And.intro hus <| ho
        repeat' (first
         | refine w_seq ?_ | refine w_block ?_ | refine w_skip ?_ | refine w_reg fun K hK => ?_
         | ((with_reducible refine s_end hK ?_); clear hK K)
         | (with_reducible first | refine then_normal ?_ | refine in_normal ?_ | refine then_exit ?_ | refine in_exit ?_ | refine then_ret ?_ | refine in_ret ?_ | refine in_other (by decide) ?_)
         | refine w_exit ?_
         | refine w_ret ?_
         | (with_reducible refine s_none ?_)
         | ((with_reducible refine g_id ?_); refine x_guard (h := ?_))
         | (with_reducible first | refine gx_tt ?_ | refine gx_ff ?_ | refine x_tf (h := ?_) | refine x_ft (h := ?_) | refine x_u (h := ?_) | refine x_assign (h := ?_) | refine x_alloc (h := ?_) | refine x_store0 (h := ?_))
         | ((with_reducible refine o_id 159 rfl ?_); refine x_call (hF := uses_fn' _ p c q x hx8) (h := ?_))
         | ((with_reducible refine o_id 160 rfl ?_); refine x_call (hF := scope_owner_fn _ p hp c q hq x hx8) (h := ?_))
         | (with_reducible refine x_q (h := ?_))
         | (with_reducible refine gx_s (fun ht => ?_) (fun ht => ?_))
         | refine x_condt (h1 := ?_) | refine x_condf (h1 := ?_)
         | fail)
        all_goals try clear fx
        refine ⟨8 - (x + 1), by omega, x + 1, rfl, by omega, by simp [h1], by simp [h4], by simp [hp4], by simp [h5], ?_, by simp [h7], by simp [h18], by simp [h19], by simp [h20], by simp; exact wrp (by omega) (by omega)⟩
        rw [hnM]
        simp [← bset_add (l := M) (y := (x : Int)) rfl hx8]
    · have hge : x = 8 := by omega
      subst hge
      rw [← hnext] at hp5
      all_goals have fx := And.intro h1 <| And.intro h5 <| And.intro hp5 <| And.intro h18 <| And.intro h19 <| And.intro h20 <| h30
      repeat' (first
       | refine w_seq ?_ | refine w_block ?_ | refine w_skip ?_ | refine w_reg fun K hK => ?_
       | ((with_reducible refine s_end hK ?_); clear hK K)
       | (with_reducible first | refine then_normal ?_ | refine in_normal ?_ | refine then_exit ?_ | refine in_exit ?_ | refine then_ret ?_ | refine in_ret ?_ | refine in_other (by decide) ?_)
       | refine w_exit ?_
       | refine w_ret ?_
       | (with_reducible refine s_none ?_)
       | ((with_reducible refine g_id ?_); refine x_guard (h := ?_))
       | (with_reducible first | refine gx_tt ?_ | refine gx_ff ?_ | refine x_tf (h := ?_) | refine x_ft (h := ?_) | refine x_u (h := ?_) | refine x_assign (h := ?_) | refine x_alloc (h := ?_) | refine x_store0 (h := ?_))
       | (with_reducible refine x_q (h := ?_))
       | (with_reducible refine gx_s (fun ht => ?_) (fun ht => ?_))
       | refine x_condt (h1 := ?_) | refine x_condf (h1 := ?_)
       | fail)
      all_goals try clear fx
      exact ⟨p.length - (c + 1), by omega, c + 1, rfl, by omega, by simp [h1], by simp [h4], by simp [hp4], by simp [h5], by simp [hp5], by simp [h18], by simp [h19], by simp [h20]; exact wrp (by omega) (by omega)⟩
  · have hge : c = p.length := by omega
    subst hge
    all_goals have fx := And.intro h4 <| And.intro hp4 <| And.intro h5 <| And.intro hp5 <| And.intro h19 <| h20
    repeat' (first
     | refine w_seq ?_ | refine w_block ?_ | refine w_skip ?_ | refine w_reg fun K hK => ?_
     | ((with_reducible refine s_end hK ?_); clear hK K)
     | (with_reducible first | refine then_normal ?_ | refine in_normal ?_ | refine then_exit ?_ | refine in_exit ?_ | refine then_ret ?_ | refine in_ret ?_ | refine in_other (by decide) ?_)
     | refine w_exit ?_
     | refine w_ret ?_
     | (with_reducible refine s_none ?_)
     | ((with_reducible refine g_id ?_); refine x_guard (h := ?_))
     | (with_reducible first | refine gx_tt ?_ | refine gx_ff ?_ | refine x_tf (h := ?_) | refine x_ft (h := ?_) | refine x_u (h := ?_) | refine x_assign (h := ?_) | refine x_alloc (h := ?_) | refine x_store0 (h := ?_))
     | (with_reducible refine x_q (h := ?_))
     | (with_reducible refine gx_s (fun ht => ?_) (fun ht => ?_))
     | refine x_condt (h1 := ?_) | refine x_condf (h1 := ?_)
     | fail)
    all_goals try clear fx
    refine e_ret [] .nil (by simp [h4]; rfl) ?_
    simp
theorem freesOf_fn (gl) (p : Prg) (hp : ShapeP p) (b : Nat) (hbl : b < p.length) : FnOk Tryz.prog gl 117 [scsl p, iv b] (fun r y H' => y = .hs r 1 0 (freesL p b).length ∧ H' r = some (.row 1 (irows (freesL p b)))) := by
  have hh := hp.heads
  have hl7 := hp.len
  rw [← frees_eq hh hbl]
  refine FnOk.of_sem Tryz.func117 rfl (by kernel_rfl) (rs := [.tmp 4]) rfl Tryz.ntmps117 (Nat.le_of_ble_eq_true rfl) fun C w g root => ?_
  all_goals have fx := fx0
  repeat' (first
   | refine w_seq ?_ | refine w_block ?_ | refine w_reg fun K hK => ?_
   | ((with_reducible refine s_end hK ?_); clear hK K)
   | (with_reducible refine s_none ?_)
   | (with_reducible first | refine x_assign (h := ?_) | refine x_alloc (h := ?_))
   | (with_reducible refine x_q (h := ?_))
   | fail)
  all_goals try clear fx
  refine w_loop (fun n st => ∃ c : Nat, n = p.length - c ∧ c ≤ p.length ∧ st.tm 0 = scsl p ∧ st.tm 1 = iv b ∧ st.tm 5 = .pt (.s 5) 0 ∧ st.hp (.s 5) = some (.row 8 [bset (freesI p b c)]) ∧ st.tm 10 = scsl p ∧ st.tm 11 = iv p.length ∧ st.tm 12 = iv c) p.length ?_ ?_
  · exact ⟨0, by omega, by omega, by simp, by simp, by simp, by simp; rfl, by simp, by simp, by simp⟩
  rintro n st - - ⟨c, rfl, hc2, h0, h1, h5, hp5, h10, h11, h12⟩
  by_cases hlt : c < p.length
  · obtain ⟨q, hq⟩ : ∃ q, p[c]? = some q := ⟨_, gE hlt⟩
    have hsg := scRows_get (p := p) hlt
    rw [scopeA_eq hh hq] at hsg
    obtain ⟨_, hse⟩ := gS hsg
    have hnext : freesI p b (c + 1) = freesI p b c ++ picked (freeI p b c) 8 := rfl
    generalize hR : freesI p b c = R at hp5 hnext
    cases hin : inside p c b
    · rw [picked_none (fun x _ => by simp only [freeI, hq, hin]; simp), List.append_nil] at hnext
      all_goals have fx := And.intro h0 <| And.intro h1 <| And.intro h5 <| And.intro hp5 <| And.intro h10 <| And.intro h11 <| And.intro h12 <| And.intro hlt <| And.intro hsg <| And.intro hse <| hin
      repeat' (first
       | refine w_seq ?_ | refine w_block ?_ | refine w_skip ?_ | refine w_reg fun K hK => ?_
       | ((with_reducible refine s_end hK ?_); clear hK K)
       | (with_reducible first | refine then_normal ?_)
       | refine w_exit ?_
       | (with_reducible refine s_none ?_)
       | (with_reducible first | refine x_assign (h := ?_))
       | ((with_reducible refine o_id 161 rfl ?_); refine x_call (hF := isWithin_fn _ p hh c q hq b) (h := ?_))
       | (with_reducible refine x_q (h := ?_))
       | refine x_condt (h1 := ?_)
       | fail)
      all_goals try clear fx
      exact ⟨p.length - (c + 1), by omega, c + 1, rfl, by omega, by simp [h0], by simp [h1], by simp [h5], by simp [hp5, hnext], by simp [h10], by simp [h11], by simp; exact wrp (by omega) (by omega)⟩
    all_goals have fx := And.intro h0 <| And.intro h1 <| And.intro h5 <| And.intro hp5 <| And.intro h10 <| And.intro h11 <| And.intro h12 <| And.intro hlt <| And.intro hsg <| And.intro hse <| hin
    repeat' (first
     | refine w_seq ?_ | refine w_block ?_ | refine w_skip ?_ | refine w_reg fun K hK => ?_
     | ((with_reducible refine s_end hK ?_); clear hK K)
     | (with_reducible first | refine then_normal ?_)
     | (with_reducible refine s_none ?_)
     | (with_reducible first | refine x_assign (h := ?_))
     | ((with_reducible refine o_id 161 rfl ?_); refine x_call (hF := isWithin_fn _ p hh c q hq b) (h := ?_))
     | (with_reducible refine x_q (h := ?_))
     | refine x_condt (h1 := ?_) | refine x_condf (h1 := ?_)
     | fail)
    all_goals try clear fx
    refine w_loop (fun n st => ∃ x : Nat, n = 8 - x ∧ x ≤ 8 ∧ st.tm 0 = scsl p ∧ st.tm 1 = iv b ∧ st.tm 5 = .pt (.s 5) 0 ∧ st.hp (.s 5) = some (.row 8 [bset (R ++ picked (freeI p b c) x)]) ∧ st.tm 7 = scEl p c q ∧ st.tm 10 = scsl p ∧ st.tm 11 = iv p.length ∧ st.tm 12 = iv c ∧ st.tm 20 = iv x) 8 ?_ ?_
    · exact ⟨0, by omega, by omega, by simp [h0], by simp [h1], by simp [h5], by simp [hp5, picked], by simp, by simp [h10], by simp [h11], by simp [h12], by simp⟩
    clear h0 h1 h5 hp5 h10 h11 h12 hsg hse
    rintro n st - - ⟨x, rfl, hx, h0, h1, h5, hp5, h7, h10, h11, h12, h20⟩
    by_cases hx8 : x < 8
    · have hx8' : (x : Int) < 8 := by omega
      have hfi : freeI p b c x = (decide ((x : Int) ∈ q.us) && (owner p c x != -1) && !inside p (owner p c x) b) := by simp only [freeI, hq, hin, Bool.true_and]
      have hn2 := picked_succ (f := freeI p b c) (n := x)
      cases hus : decide ((x : Int) ∈ q.us)
      · rw [if_neg (by rw [hfi, hus]; simp)] at hn2
        all_goals have fx := And.intro h1 <| And.intro h5 <| And.intro hp5 <| And.intro h7 <| And.intro h20 <| And.intro hx8 <| And.intro hx8' <| hus
        repeat' (first
         | refine w_seq ?_ | refine w_block ?_ | refine w_skip ?_ | refine w_reg fun K hK => ?_
         | ((with_reducible refine s_end hK ?_); clear hK K)
         | (with_reducible first | refine then_normal ?_)
         | refine w_exit ?_
         | (with_reducible refine s_none ?_)
         | (with_reducible first | refine x_assign (h := ?_))
         | ((with_reducible refine o_id 159 rfl ?_); refine x_call (hF := uses_fn' _ p c q x hx8) (h := ?_))
         | (with_reducible refine x_q (h := ?_))
         | refine x_condt (h1 := ?_)
         | fail)
        all_goals try clear fx
        exact ⟨8 - (x + 1), by omega, x + 1, rfl, by omega, by simp [h0], by simp [h1], by simp [h5], by simp [hp5, hn2], by simp [h7], by simp [h10], by simp [h11], by simp [h12], by simp; exact wrp (by omega) (by omega)⟩
      cases hno : (owner p c x == -1)
      rotate_left
      · rw [if_neg (by rw [hfi, bne, hno]; simp)] at hn2
        all_goals have fx := And.intro h1 <| And.intro h5 <| And.intro hp5 <| And.intro h7 <| And.intro h20 <| And.intro hx8 <| And.intro hx8' <| And.intro hus <| And.intro hno <| @bne_def
        repeat' (first
         | refine w_seq ?_ | refine w_block ?_ | refine w_skip ?_ | refine w_reg fun K hK => ?_
         | ((with_reducible refine s_end hK ?_); clear hK K)
         | (with_reducible first | refine then_normal ?_)
         | (with_reducible refine s_none ?_)
         | ((with_reducible refine g_id ?_); refine x_guard (h := ?_))
         | (with_reducible first | refine x_tf (h := ?_) | refine x_assign (h := ?_))
         | ((with_reducible refine o_id 159 rfl ?_); refine x_call (hF := uses_fn' _ p c q x hx8) (h := ?_))
         | ((with_reducible refine o_id 160 rfl ?_); refine x_call (hF := scope_owner_fn _ p hp c q hq x hx8) (h := ?_))
         | (with_reducible refine x_q (h := ?_))
         | refine x_condt (h1 := ?_) | refine x_condf (h1 := ?_)
         | fail)
        all_goals try clear fx
        exact ⟨8 - (x + 1), by omega, x + 1, rfl, by omega, by simp [h0], by simp [h1], by simp [h5], by simp [hp5, hn2], by simp [h7], by simp [h10], by simp [h11], by simp [h12], by simp; exact wrp (by omega) (by omega)⟩
      have hno' : ¬ owner p c x = -1 := by simpa using hno
      obtain ⟨o, hO⟩ : ∃ o : Nat, owner p c x = o := ⟨(owner p c x).toNat, by rcases owner_pos (p := p) (c := c) (x := (x : Int)) with h | h <;> omega⟩
      have hol : o < p.length := by
        have h1 := owner_pos (p := p) (c := c) (x := (x : Int))
        have h2 := inside_ge (inside_of_owner hh (by omega) hq hO)
        omega
      obtain ⟨qo, hqo⟩ : ∃ q, p[o]? = some q := ⟨_, gE hol⟩
      have hsg := scRows_get (p := p) hol
      rw [scopeA_eq hh hqo] at hsg
      obtain ⟨_, hse⟩ := gS hsg
      rw [hO] at hno hfi
      cases hio : inside p o b
      rotate_left
      · rw [if_neg (by rw [hfi, hio]; simp)] at hn2
        all_goals have fx := And.intro h0 <| And.intro h1 <| And.intro h5 <| And.intro hp5 <| And.intro h7 <| And.intro h20 <| And.intro hx8 <| And.intro hx8' <| And.intro hus <| And.intro hO <| And.intro hno <| And.intro hol <| And.intro hsg <| And.intro hse <| And.intro hio <| @bne_def
        repeat' (first
         | refine w_seq ?_ | refine w_block ?_ | refine w_skip ?_ | refine w_reg fun K hK => ?_
         | ((with_reducible refine s_end hK ?_); clear hK K)
         | (with_reducible first | refine then_normal ?_)
         | (with_reducible refine s_none ?_)
         | ((with_reducible refine g_id ?_); refine x_guard (h := ?_))
         | (with_reducible first | refine gx_tt ?_ | refine x_assign (h := ?_))
         | ((with_reducible refine o_id 159 rfl ?_); refine x_call (hF := uses_fn' _ p c q x hx8) (h := ?_))
         | ((with_reducible refine o_id 160 rfl ?_); refine x_call (hF := scope_owner_fn _ p hp c q hq x hx8) (h := ?_))
         | ((with_reducible refine o_id 161 rfl ?_); refine x_call (hF := isWithin_fn _ p hh o qo hqo b) (h := ?_))
         | (with_reducible refine x_q (h := ?_))
         | refine x_condt (h1 := ?_) | refine x_condf (h1 := ?_)
         | fail)
        all_goals try clear fx
        exact ⟨8 - (x + 1), by omega, x + 1, rfl, by omega, by simp [h0], by simp [h1], by simp [h5], by simp [hp5, hn2], by simp [h7], by simp [h10], by simp [h11], by simp [h12], by simp; exact wrp (by omega) (by omega)⟩
      · rw [if_pos (by rw [hfi, hus, bne, hno, hio]; rfl)] at hn2
        have hnM : R ++ picked (freeI p b c) (x + 1) = R ++ picked (freeI p b c) x ++ [(x : Int)] := by rw [hn2, List.append_assoc]
        generalize R ++ picked (freeI p b c) x = M at hp5 hnM
        all_goals have fx := And.intro h0 <| And.intro h1 <| And.intro h5 <| And.intro hp5 <| And.intro h7 <| And.intro h20 <| And.intro hx8 <| And.intro hx8' <| And.intro hus <| And.intro hO <| And.intro hno <| And.intro hol <| And.intro hsg <| And.intro hse <| And.intro hio <| @bne_def
        repeat' (first
         | refine w_seq ?_ | refine w_block ?_ | refine w_skip ?_ | refine w_reg fun K hK => ?_
         | ((with_reducible refine s_end hK ?_); clear hK K)
         | (with_reducible first | refine then_normal ?_)
         | (with_reducible refine s_none ?_)
         | ((with_reducible refine g_id ?_); refine x_guard (h := ?_))
         | (with_reducible first | refine gx_tt ?_ | refine x_assign (h := ?_) | refine x_store0 (h := ?_))
         | ((with_reducible refine o_id 159 rfl ?_); refine x_call (hF := uses_fn' _ p c q x hx8) (h := ?_))
         | ((with_reducible refine o_id 160 rfl ?_); refine x_call (hF := scope_owner_fn _ p hp c q hq x hx8) (h := ?_))
         | ((with_reducible refine o_id 161 rfl ?_); refine x_call (hF := isWithin_fn _ p hh o qo hqo b) (h := ?_))
         | (with_reducible refine x_q (h := ?_))
         | refine x_condt (h1 := ?_) | refine x_condf (h1 := ?_)
         | fail)
        all_goals try clear fx
        refine ⟨8 - (x + 1), by omega, x + 1, rfl, by omega, by simp [h0], by simp [h1], by simp [h5], ?_, by simp [h7], by simp [h10], by simp [h11], by simp [h12], by simp; exact wrp (by omega) (by omega)⟩
        rw [hnM]
        simp [← bset_add (l := M) (y := (x : Int)) rfl hx8]
    · have hge : x = 8 := by omega
      subst hge
      rw [← hnext] at hp5
      all_goals have fx := And.intro h1 <| And.intro h5 <| And.intro hp5 <| And.intro h10 <| And.intro h11 <| And.intro h12 <| h20
      repeat' (first
       | refine w_seq ?_ | refine w_reg fun K hK => ?_
       | ((with_reducible refine s_end hK ?_); clear hK K)
       | (with_reducible first | refine then_normal ?_)
       | refine w_exit ?_
       | (with_reducible refine s_none ?_)
       | (with_reducible refine x_q (h := ?_))
       | refine x_condf (h1 := ?_)
       | fail)
      all_goals try clear fx
      exact ⟨p.length - (c + 1), by omega, c + 1, rfl, by omega, by simp [h0], by simp [h1], by simp [h5], by simp [hp5], by simp [h10], by simp [h11], by simp [h12]; exact wrp (by omega) (by omega)⟩
  · have hge : c = p.length := by omega
    subst hge
    all_goals have fx := And.intro h5 <| And.intro hp5 <| And.intro h11 <| h12
    repeat' (first
     | refine w_seq ?_ | refine w_reg fun K hK => ?_
     | ((with_reducible refine s_end hK ?_); clear hK K)
     | (with_reducible first | refine then_normal ?_)
     | refine w_exit ?_
     | refine w_ret ?_
     | (with_reducible refine s_none ?_)
     | (with_reducible first | refine x_assign (h := ?_))
     | ((with_reducible refine o_id 116 rfl ?_); refine x_callh (hF := list_fn _ (freesI p b p.length)) (h := ?_))
     | (with_reducible refine x_q (h := ?_))
     | refine x_condf (h1 := ?_)
     | fail)
    all_goals try clear fx
    exact e_list (t := 4) (by first | (simp []; done) | (simp []; rfl)) (by first | (simp []; done) | (simp []; rfl)) (by simp)
theorem shape_kind3 {p : Prg} (h : ShapeP p) {i : Nat} {k : Blk} (hk : p[i]? = some k) : k.kind = 0 ∨ k.kind = 1 ∨ k.kind = 2 := by
  have := h.head i k hk
  unfold HeadOk at this
  split at this <;> omega
theorem sorted_idem {l : List Int} : sorted (sorted l) = sorted l := sorted_same fun x hx => by
  rw [Go.Hm.mem_sorted]
  exact ⟨fun h => h.1, fun h => ⟨h, by omega, by omega⟩⟩
theorem sorted_cells {p : Prg} {b : Nat} : sorted (cellsL p b) = cellsL p b := by
  unfold cellsL
  split
  · exact sorted_idem
  · rfl
theorem placeIn_none {xs : List Int} {x : Int} : (placeIn xs x == -1) = !decide (x ∈ xs) := by
  have h1 := placeIn_nonneg (xs := xs) (x := x)
  have h2 := placeIn_bd (xs := xs) (x := x)
  by_cases h : x ∈ xs
  · have := h1.2 h
    simp [h]
    omega
  · have : ¬ 0 ≤ placeIn xs x := fun e => h (h1.1 e)
    simp [h]
    omega
theorem fastsOf_fn (gl) (p : Prg) (hp : ShapeP p) (b : Nat) (k : Blk) (hk : p[b]? = some k) (hk1 : k.kind = 1) : FnOk Tryz.prog gl 114 [scsl p, iv b] (fun r y H' => y = .hs r 1 0 (fastsL p b).length ∧ H' r = some (.row 1 (irows (fastsL p b)))) := by
  have hh := hp.heads
  have hl7 := hp.len
  obtain ⟨hbl, hbE⟩ := gS hk
  have hka : kindAt p b = k.kind := by simp [kindAt, hk]
  have hsg := scRows_get (p := p) hbl
  rw [scopeA_eq hh hk] at hsg
  obtain ⟨_, hse⟩ := gS hsg
  have hc : fastsL p b = sorted (picked (fastIn p b) 8) := by
    rw [sorted_picked]
    simp [fastsL, hka, hk1]
  have hkd : (k.kind == 1) = true := by simpa using hk1
  rw [hc]
  refine FnOk.of_sem Tryz.func114 rfl (by kernel_rfl) (rs := [.tmp 4]) rfl Tryz.ntmps114 (Nat.le_of_ble_eq_true rfl) fun C w g root => ?_
  all_goals have fx := And.intro hsg <| And.intro hse <| And.intro hkd <| And.intro hbl <| @bne_def
  repeat' (first
   | refine w_seq ?_ | refine w_block ?_ | refine w_skip ?_ | refine w_reg fun K hK => ?_
   | ((with_reducible refine s_end hK ?_); clear hK K)
   | (with_reducible first | refine then_normal ?_ | refine in_normal ?_ | refine then_exit ?_ | refine in_exit ?_ | refine then_ret ?_ | refine in_ret ?_ | refine in_other (by decide) ?_)
   | refine w_exit ?_
   | refine w_ret ?_
   | (with_reducible refine s_none ?_)
   | ((with_reducible refine g_id ?_); refine x_guard (h := ?_))
   | (with_reducible first | refine gx_tt ?_ | refine gx_ff ?_ | refine x_tf (h := ?_) | refine x_ft (h := ?_) | refine x_u (h := ?_) | refine x_assign (h := ?_) | refine x_alloc (h := ?_) | refine x_store0 (h := ?_))
   | ((with_reducible refine o_id 115 rfl ?_); refine x_call (hF := cellSet_fn _ p hp b k hk) (h := ?_))
   | (with_reducible refine x_q (h := ?_))
   | (with_reducible refine gx_s (fun ht => ?_) (fun ht => ?_))
   | refine x_condt (h1 := ?_) | refine x_condf (h1 := ?_)
   | fail)
  all_goals try clear fx
  refine w_loop (fun n st => ∃ x : Nat, n = 8 - x ∧ x ≤ 8 ∧ st.tm 0 = scsl p ∧ st.tm 1 = iv b ∧ st.tm 5 = .pt (.s 5) 0 ∧ st.hp (.s 5) = some (.row 8 [bset (picked (fastIn p b) x)]) ∧ st.tm 6 = .pt (.s 6) 0 ∧ st.hp (.s 6) = some (.row 8 [bset (cellsL p b)]) ∧ st.tm 19 = iv x) 8 ?_ ?_
  · exact ⟨0, by omega, by omega, by simp, by simp, by simp, by simp; rfl, by simp, by simp, by simp⟩
  rintro n st - - ⟨x, rfl, hx, h0, h1, h5, hp5, h6, hp6, h19⟩
  by_cases hx8 : x < 8
  · have hx8' : (x : Int) < 8 := by omega
    have hfi : fastIn p b x = (isLocal b k x && !decide ((x : Int) ∈ cellsL p b)) := by simp only [fastIn, hk]
    have hn2 := picked_succ (f := fastIn p b) (n := x)
    have hno : (x : Int) ∉ picked (fastIn p b) x := fun h => by
      rw [mem_picked_nat] at h
      omega
    have hbg := bset_get (l := cellsL p b) hx8
    obtain ⟨hbgl, hbgE⟩ := gS hbg
    generalize hL : picked (fastIn p b) x = L at hp5 hn2 hno
    cases hlo : isLocal b k x
    · rw [if_neg (by rw [hfi, hlo]; simp)] at hn2
      all_goals have fx := And.intro h0 <| And.intro h1 <| And.intro h5 <| And.intro hp5 <| And.intro h6 <| And.intro hp6 <| And.intro h19 <| And.intro hx8 <| And.intro hx8' <| And.intro hsg <| And.intro hse <| And.intro hbl <| hlo
      repeat' (first
       | refine w_seq ?_ | refine w_block ?_ | refine w_skip ?_ | refine w_reg fun K hK => ?_
       | ((with_reducible refine s_end hK ?_); clear hK K)
       | (with_reducible first | refine then_normal ?_ | refine in_normal ?_ | refine then_exit ?_ | refine in_exit ?_ | refine then_ret ?_ | refine in_ret ?_ | refine in_other (by decide) ?_)
       | refine w_exit ?_
       | refine w_ret ?_
       | (with_reducible refine s_none ?_)
       | ((with_reducible refine g_id ?_); refine x_guard (h := ?_))
       | (with_reducible first | refine gx_tt ?_ | refine gx_ff ?_ | refine x_tf (h := ?_) | refine x_ft (h := ?_) | refine x_u (h := ?_) | refine x_assign (h := ?_) | refine x_alloc (h := ?_) | refine x_store0 (h := ?_))
       | ((with_reducible refine o_id 156 rfl ?_); refine x_call (hF := local_fn' _ p hp b k hk x hx8) (h := ?_))
       | (with_reducible refine x_q (h := ?_))
       | (with_reducible refine gx_s (fun ht => ?_) (fun ht => ?_))
       | refine x_condt (h1 := ?_) | refine x_condf (h1 := ?_)
       | fail)
      all_goals try clear fx
      exact ⟨8 - (x + 1), by omega, x + 1, rfl, by omega, by simp [h0], by simp [h1], by simp [h5], by simp [hn2, bset_same hx8 hno], by simp [h6], by simp [hp6], by simp; exact wrp (by omega) (by omega)⟩
    cases hce : decide ((x : Int) ∈ cellsL p b)
    rotate_left
    · rw [if_neg (by rw [hfi, hlo, hce]; decide)] at hn2
      all_goals have fx := And.intro h0 <| And.intro h1 <| And.intro h5 <| And.intro hp5 <| And.intro h6 <| And.intro hp6 <| And.intro h19 <| And.intro hx8 <| And.intro hx8' <| And.intro hsg <| And.intro hse <| And.intro hbl <| And.intro hlo <| And.intro hbg <| And.intro hbgE <| And.intro hbgl <| hce
      repeat' (first
       | refine w_seq ?_ | refine w_block ?_ | refine w_skip ?_ | refine w_reg fun K hK => ?_
       | ((with_reducible refine s_end hK ?_); clear hK K)
       | (with_reducible first | refine then_normal ?_ | refine in_normal ?_ | refine then_exit ?_ | refine in_exit ?_ | refine then_ret ?_ | refine in_ret ?_ | refine in_other (by decide) ?_)
       | refine w_exit ?_
       | refine w_ret ?_
       | (with_reducible refine s_none ?_)
       | ((with_reducible refine g_id ?_); refine x_guard (h := ?_))
       | (with_reducible first | refine gx_tt ?_ | refine gx_ff ?_ | refine x_tf (h := ?_) | refine x_ft (h := ?_) | refine x_u (h := ?_) | refine x_assign (h := ?_) | refine x_alloc (h := ?_) | refine x_store0 (h := ?_))
       | ((with_reducible refine o_id 156 rfl ?_); refine x_call (hF := local_fn' _ p hp b k hk x hx8) (h := ?_))
       | (with_reducible refine x_q (h := ?_))
       | (with_reducible refine gx_s (fun ht => ?_) (fun ht => ?_))
       | refine x_condt (h1 := ?_) | refine x_condf (h1 := ?_)
       | fail)
      all_goals try clear fx
      exact ⟨8 - (x + 1), by omega, x + 1, rfl, by omega, by simp [h0], by simp [h1], by simp [h5], by simp [hn2, bset_same hx8 hno], by simp [h6], by simp [hp6], by simp; exact wrp (by omega) (by omega)⟩
    · rw [if_pos (by rw [hfi, hlo, hce]; rfl)] at hn2
      all_goals have fx := And.intro h0 <| And.intro h1 <| And.intro h5 <| And.intro hp5 <| And.intro h6 <| And.intro hp6 <| And.intro h19 <| And.intro hx8 <| And.intro hx8' <| And.intro hsg <| And.intro hse <| And.intro hbl <| And.intro hlo <| And.intro hbg <| And.intro hbgE <| And.intro hbgl <| hce
      repeat' (first
       | refine w_seq ?_ | refine w_block ?_ | refine w_skip ?_ | refine w_reg fun K hK => ?_
       | ((with_reducible refine s_end hK ?_); clear hK K)
       | (with_reducible first | refine then_normal ?_ | refine in_normal ?_ | refine then_exit ?_ | refine in_exit ?_ | refine then_ret ?_ | refine in_ret ?_ | refine in_other (by decide) ?_)
       | refine w_exit ?_
       | refine w_ret ?_
       | (with_reducible refine s_none ?_)
       | ((with_reducible refine g_id ?_); refine x_guard (h := ?_))
       | (with_reducible first | refine gx_tt ?_ | refine gx_ff ?_ | refine x_tf (h := ?_) | refine x_ft (h := ?_) | refine x_u (h := ?_) | refine x_assign (h := ?_) | refine x_alloc (h := ?_) | refine x_store0 (h := ?_))
       | ((with_reducible refine o_id 156 rfl ?_); refine x_call (hF := local_fn' _ p hp b k hk x hx8) (h := ?_))
       | (with_reducible refine x_q (h := ?_))
       | (with_reducible refine gx_s (fun ht => ?_) (fun ht => ?_))
       | refine x_condt (h1 := ?_) | refine x_condf (h1 := ?_)
       | fail)
      all_goals try clear fx
      refine ⟨8 - (x + 1), by omega, x + 1, rfl, by omega, by simp [h0], by simp [h1], by simp [h5], ?_, by simp [h6], by simp [hp6], by simp; exact wrp (by omega) (by omega)⟩
      rw [hn2]
      simp [← bset_add (l := L) (y := (x : Int)) rfl hx8]
  · have hge : x = 8 := by omega
    subst hge
    all_goals have fx := And.intro h5 <| And.intro hp5 <| h19
    repeat' (first
     | refine w_seq ?_ | refine w_block ?_ | refine w_skip ?_ | refine w_reg fun K hK => ?_
     | ((with_reducible refine s_end hK ?_); clear hK K)
     | (with_reducible first | refine then_normal ?_ | refine in_normal ?_ | refine then_exit ?_ | refine in_exit ?_ | refine then_ret ?_ | refine in_ret ?_ | refine in_other (by decide) ?_)
     | refine w_exit ?_
     | refine w_ret ?_
     | (with_reducible refine s_none ?_)
     | ((with_reducible refine g_id ?_); refine x_guard (h := ?_))
     | (with_reducible first | refine gx_tt ?_ | refine gx_ff ?_ | refine x_tf (h := ?_) | refine x_ft (h := ?_) | refine x_u (h := ?_) | refine x_assign (h := ?_) | refine x_alloc (h := ?_) | refine x_store0 (h := ?_))
     | ((with_reducible refine o_id 116 rfl ?_); refine x_callh (hF := list_fn _ (picked (fastIn p b) 8)) (h := ?_))
     | (with_reducible refine x_q (h := ?_))
     | (with_reducible refine gx_s (fun ht => ?_) (fun ht => ?_))
     | refine x_condt (h1 := ?_) | refine x_condf (h1 := ?_)
     | fail)
    all_goals try clear fx
    exact e_list (t := 4) (by first | (simp []; done) | (simp []; rfl)) (by first | (simp []; done) | (simp []; rfl)) (by simp)
theorem impl_cellPlace_fn (gl) (p : Prg) (hp : ShapeP p) (b : Nat) (k : Blk) (hk : p[b]? = some k) (x : Nat) (hx : x < 8) : FnOk Tryz.prog gl 185 [scsl p, iv b, iv x] (fun _ y _ => y = iv (cellPl p b x)) := by
  have hbl := (gS hk).1
  have hcl := cellsL_len (p := p) (b := b)
  have hfl := freesL_len (p := p) (b := b)
  have hbd := placeIn_bd (xs := freesL p b) (x := (x : Int))
  have hw : IntKind.i64.wrap (((cellsL p b).length : Int) + placeIn (freesL p b) x) = (cellsL p b).length + placeIn (freesL p b) x := wrp (by omega) (by omega)
  have hli := list_fn gl (cellsL p b)
  rw [sorted_cells] at hli
  have hpn := placeIn_none (xs := cellsL p b) (x := (x : Int))
  refine FnOk.of_sem Tryz.func185 rfl (by kernel_rfl) (rs := [.tmp 6]) rfl Tryz.ntmps185 (Nat.le_of_ble_eq_true rfl) fun C w g root => ?_
  by_cases hm : (x : Int) ∈ cellsL p b
  · have hpn' : (placeIn (cellsL p b) x == -1) = false := by rw [hpn]; simp [hm]
    all_goals have fx := And.intro hpn' <| @bne_def
    repeat' (first
     | refine w_seq ?_ | refine w_skip ?_ | refine w_reg fun K hK => ?_
     | ((with_reducible refine s_end hK ?_); clear hK K)
     | (with_reducible first | refine then_normal ?_ | refine then_ret ?_)
     | refine w_ret ?_
     | (with_reducible first | refine s_none ?_ | refine x_assign (h := ?_))
     | ((with_reducible refine o_id 115 rfl ?_); refine x_call (hF := cellSet_fn _ p hp b k hk) (h := ?_))
     | ((with_reducible refine o_id 116 rfl ?_); refine x_callh (hF := hli) (h := ?_))
     | ((with_reducible refine o_id 184 rfl ?_); refine x_call (hF := placeOf_fn _ (cellsL p b) _ (by omega)) (h := ?_))
     | (with_reducible refine x_q (h := ?_))
     | refine x_condt (h1 := ?_) | refine x_condf (h1 := ?_)
     | fail)
    all_goals try clear fx
    refine e_ret [] .nil (by simp; rfl) ?_
    simp [cellPl, hm]
  · have hpn' : (placeIn (cellsL p b) x == -1) = true := by rw [hpn]; simp [hm]
    all_goals have fx := And.intro hpn' <| And.intro hw <| @bne_def
    repeat' (first
     | refine w_seq ?_ | refine w_skip ?_ | refine w_reg fun K hK => ?_
     | ((with_reducible refine s_end hK ?_); clear hK K)
     | (with_reducible first | refine then_normal ?_ | refine then_ret ?_)
     | refine w_ret ?_
     | (with_reducible first | refine s_none ?_ | refine x_assign (h := ?_))
     | ((with_reducible refine o_id 115 rfl ?_); refine x_call (hF := cellSet_fn _ p hp b k hk) (h := ?_))
     | ((with_reducible refine o_id 116 rfl ?_); refine x_callh (hF := hli) (h := ?_))
     | ((with_reducible refine o_id 184 rfl ?_); refine x_call (hF := placeOf_fn _ (cellsL p b) _ (by omega)) (h := ?_))
     | ((with_reducible refine o_id 117 rfl ?_); refine x_callh (hF := freesOf_fn _ p hp b hbl) (h := ?_))
     | ((with_reducible refine o_id 184 rfl ?_); refine x_call (hF := placeOf_fn _ (freesL p b) _ (by omega)) (h := ?_))
     | (with_reducible refine x_q (h := ?_))
     | refine x_condt (h1 := ?_) | refine x_condf (h1 := ?_)
     | fail)
    all_goals try clear fx
    refine e_ret [] .nil (by simp; rfl) ?_
    simp [cellPl, hm]
theorem symbolOf_fn (gl) (p : Prg) (hp : ShapeP p) (b : Nat) (k : Blk) (hk : p[b]? = some k) (x : Nat) (hx : x < 8) : FnOk Tryz.prog gl 183 [scsl p, iv b, iv x] (fun _ y _ => y = iv (symOf p b x)) := by
  have hh := hp.heads
  have hl7 := hp.len
  obtain ⟨hbl, hbE⟩ := gS hk
  have hka : kindAt p b = k.kind := by simp [kindAt, hk]
  have hsg := scRows_get (p := p) hbl
  rw [scopeA_eq hh hk] at hsg
  obtain ⟨_, hse⟩ := gS hsg
  have hop := owner_pos (p := p) (c := b) (x := (x : Int))
  have hx8 : (x : Int) < 8 := by omega
  refine FnOk.of_sem Tryz.func183 rfl (by kernel_rfl) (rs := [.tmp 6]) rfl Tryz.ntmps183 (Nat.le_of_ble_eq_true rfl) fun C w g root => ?_
  cases ho : (owner p b x == -1)
  rotate_left
  · skip
    all_goals have fx := And.intro hsg <| And.intro hse <| And.intro hbl <| ho
    repeat' (first
     | refine w_seq ?_ | refine w_block ?_ | refine w_skip ?_ | refine w_reg fun K hK => ?_
     | ((with_reducible refine s_end hK ?_); clear hK K)
     | (with_reducible first | refine then_normal ?_ | refine in_normal ?_ | refine then_ret ?_ | refine in_ret ?_)
     | refine w_ret ?_
     | (with_reducible first | refine s_none ?_ | refine x_assign (h := ?_))
     | ((with_reducible refine o_id 160 rfl ?_); refine x_call (hF := scope_owner_fn _ p hp b k hk x hx) (h := ?_))
     | (with_reducible refine x_q (h := ?_))
     | refine x_condt (h1 := ?_) | refine x_condf (h1 := ?_)
     | fail)
    all_goals try clear fx
    refine e_ret [] .nil (by simp; rfl) ?_
    have ho' : owner p b x = -1 := by simpa using ho
    simp [symOf, ho']
  have hno : ¬ owner p b x = -1 := by simpa using ho
  have hnl : ¬ owner p b x < 0 := by omega
  cases hb : (owner p b x == (b : Int))
  · skip
    all_goals have fx := And.intro hsg <| And.intro hse <| And.intro hbl <| And.intro ho <| And.intro hb <| @bne_def
    repeat' (first
     | refine w_seq ?_ | refine w_block ?_ | refine w_skip ?_ | refine w_reg fun K hK => ?_
     | ((with_reducible refine s_end hK ?_); clear hK K)
     | (with_reducible first | refine then_normal ?_ | refine in_normal ?_ | refine then_ret ?_ | refine in_ret ?_)
     | refine w_ret ?_
     | (with_reducible first | refine s_none ?_ | refine x_assign (h := ?_))
     | ((with_reducible refine o_id 160 rfl ?_); refine x_call (hF := scope_owner_fn _ p hp b k hk x hx) (h := ?_))
     | (with_reducible refine x_q (h := ?_))
     | refine x_condt (h1 := ?_) | refine x_condf (h1 := ?_)
     | fail)
    all_goals try clear fx
    refine e_ret [] .nil (by simp; rfl) ?_
    have hb' : ¬ owner p b x = b := by simpa using hb
    simp only [symOf, if_neg hnl, if_pos hb']
    rfl
  have hb' : owner p b x = b := by simpa using hb
  have hnn : ¬ owner p b x ≠ b := fun h => h hb'
  cases hkd : (k.kind == 2)
  rotate_left
  · skip
    all_goals have fx := And.intro hsg <| And.intro hse <| And.intro hbl <| And.intro ho <| And.intro hb <| And.intro @bne_def <| hkd
    repeat' (first
     | refine w_seq ?_ | refine w_block ?_ | refine w_skip ?_ | refine w_reg fun K hK => ?_
     | ((with_reducible refine s_end hK ?_); clear hK K)
     | (with_reducible first | refine then_normal ?_ | refine in_normal ?_ | refine then_ret ?_ | refine in_ret ?_)
     | refine w_ret ?_
     | (with_reducible first | refine s_none ?_ | refine x_assign (h := ?_))
     | ((with_reducible refine o_id 160 rfl ?_); refine x_call (hF := scope_owner_fn _ p hp b k hk x hx) (h := ?_))
     | (with_reducible refine x_q (h := ?_))
     | refine x_condt (h1 := ?_) | refine x_condf (h1 := ?_)
     | fail)
    all_goals try clear fx
    refine e_ret [] .nil (by simp; rfl) ?_
    have hkd' : k.kind = 2 := by simpa using hkd
    simp only [symOf, if_neg hnl, if_neg hnn, hka, if_pos hkd']
    rfl
  have hkd' : ¬ k.kind = 2 := by simpa using hkd
  have hbg := bset_get (l := cellsL p b) hx
  obtain ⟨hbgl, hbgE⟩ := gS hbg
  cases hce : decide ((x : Int) ∈ cellsL p b)
  all_goals
    all_goals have fx := And.intro hsg <| And.intro hse <| And.intro hbl <| And.intro ho <| And.intro hb <| And.intro @bne_def <| And.intro hkd <| And.intro hbg <| And.intro hbgE <| And.intro hbgl <| And.intro hx <| And.intro hx8 <| hce
    repeat' (first
     | refine w_seq ?_ | refine w_block ?_ | refine w_skip ?_ | refine w_reg fun K hK => ?_
     | ((with_reducible refine s_end hK ?_); clear hK K)
     | (with_reducible first | refine then_normal ?_ | refine in_normal ?_ | refine then_ret ?_ | refine in_ret ?_)
     | refine w_ret ?_
     | (with_reducible first | refine s_none ?_ | refine x_assign (h := ?_))
     | ((with_reducible refine o_id 160 rfl ?_); refine x_call (hF := scope_owner_fn _ p hp b k hk x hx) (h := ?_))
     | ((with_reducible refine o_id 115 rfl ?_); refine x_call (hF := cellSet_fn _ p hp b k hk) (h := ?_))
     | (with_reducible refine x_q (h := ?_))
     | refine x_condt (h1 := ?_) | refine x_condf (h1 := ?_)
     | fail)
    all_goals try clear fx
    refine e_ret [] .nil (by simp; rfl) ?_
    simp at hce
    simp only [symOf, if_neg hnl, if_neg hnn, hka, if_neg hkd', hce]
    rfl
abbrev codesL : List AV := [iv 8, iv 5, iv 11, iv 5, iv 2]
theorem accessOp_fn (gl : Nat → Option (List AV)) (hgl : gl 3 = some codesL) (p : Prg) (hp : ShapeP p) (b : Nat) (k : Blk) (hk : p[b]? = some k) (x : Nat) (hx : x < 8) (w : Int) (hw0 : 0 ≤ w) (hw2 : w ≤ 2) : FnOk Tryz.prog gl 162 [scsl p, iv b, iv x, iv w] (fun _ y _ => y = .agg [iv (nameOp p b x w).1, iv (nameOp p b x w).2]) := by
  have hw8 : IntKind.i64.wrap (8 + w) = 8 + w := wrp (by omega) (by omega)
  have hw11 : IntKind.i64.wrap (11 + w) = 11 + w := wrp (by omega) (by omega)
  have hw22 : IntKind.i64.wrap (2 + w) = 2 + w := wrp (by omega) (by omega)
  have hw5 : IntKind.i64.wrap (5 + w) = 5 + w := wrp (by omega) (by omega)
  have hsf := symOf_fast (x := (x : Int)) hk (hp.kind0 hk).symm (shape_kind3 hp hk)
  have hfl := fastsL_len (p := p) (b := b)
  have hs5 : symOf p b x = 0 ∨ symOf p b x = 1 ∨ symOf p b x = 2 ∨ symOf p b x = 3 ∨ symOf p b x = 4 := by
    unfold symOf
    split
    · simp
    · split
      · simp
      · split
        · simp
        · split <;> simp
  refine FnOk.of_sem Tryz.func162 rfl (by kernel_rfl) (rs := [.cell 8 67]) rfl Tryz.ntmps162 (Nat.le_of_ble_eq_true rfl) fun C w g root => ?_
  rcases hs5 with h | h | h | h | h
  · skip
    all_goals have fx := And.intro h <| And.intro hgl <| hw8
    repeat' (first
     | refine w_seq ?_ | refine w_block ?_ | refine w_skip ?_ | refine w_reg fun K hK => ?_
     | ((with_reducible refine s_end hK ?_); clear hK K)
     | (with_reducible first | refine then_normal ?_ | refine in_normal ?_ | refine then_ret ?_ | refine in_ret ?_)
     | refine w_ret ?_
     | (with_reducible first | refine s_none ?_ | refine x_assign (h := ?_) | refine x_alloc (h := ?_) | refine x_store0 (h := ?_))
     | ((with_reducible refine o_id 183 rfl ?_); refine x_call (hF := symbolOf_fn _ p hp b k hk x hx) (h := ?_))
     | (with_reducible refine x_q (h := ?_))
     | refine x_condt (h1 := ?_) | refine x_condf (h1 := ?_)
     | fail)
    all_goals try clear fx
    refine e_ret [] .nil (by simp; rfl) ?_
    simp [nameOp, h]
  · skip
    all_goals have fx := And.intro h <| And.intro hgl <| hw5
    repeat' (first
     | refine w_seq ?_ | refine w_block ?_ | refine w_skip ?_ | refine w_reg fun K hK => ?_
     | ((with_reducible refine s_end hK ?_); clear hK K)
     | (with_reducible first | refine then_normal ?_ | refine in_normal ?_ | refine then_ret ?_ | refine in_ret ?_)
     | refine w_ret ?_
     | (with_reducible first | refine s_none ?_ | refine x_assign (h := ?_) | refine x_alloc (h := ?_) | refine x_store0 (h := ?_))
     | ((with_reducible refine o_id 183 rfl ?_); refine x_call (hF := symbolOf_fn _ p hp b k hk x hx) (h := ?_))
     | ((with_reducible refine o_id 185 rfl ?_); refine x_call (hF := impl_cellPlace_fn _ p hp b k hk x hx) (h := ?_))
     | (with_reducible refine x_q (h := ?_))
     | refine x_condt (h1 := ?_) | refine x_condf (h1 := ?_)
     | fail)
    all_goals try clear fx
    refine e_ret [] .nil (by simp; rfl) ?_
    simp [nameOp, h]
  · skip
    all_goals have fx := And.intro h <| And.intro hgl <| hw11
    repeat' (first
     | refine w_seq ?_ | refine w_block ?_ | refine w_skip ?_ | refine w_reg fun K hK => ?_
     | ((with_reducible refine s_end hK ?_); clear hK K)
     | (with_reducible first | refine then_normal ?_ | refine in_normal ?_ | refine then_ret ?_ | refine in_ret ?_)
     | refine w_ret ?_
     | (with_reducible first | refine s_none ?_ | refine x_assign (h := ?_) | refine x_alloc (h := ?_) | refine x_store0 (h := ?_))
     | ((with_reducible refine o_id 183 rfl ?_); refine x_call (hF := symbolOf_fn _ p hp b k hk x hx) (h := ?_))
     | (with_reducible refine x_q (h := ?_))
     | refine x_condt (h1 := ?_) | refine x_condf (h1 := ?_)
     | fail)
    all_goals try clear fx
    refine e_ret [] .nil (by simp; rfl) ?_
    simp [nameOp, h]
  · skip
    all_goals have fx := And.intro h <| And.intro hgl <| hw5
    repeat' (first
     | refine w_seq ?_ | refine w_block ?_ | refine w_skip ?_ | refine w_reg fun K hK => ?_
     | ((with_reducible refine s_end hK ?_); clear hK K)
     | (with_reducible first | refine then_normal ?_ | refine in_normal ?_ | refine then_ret ?_ | refine in_ret ?_)
     | refine w_ret ?_
     | (with_reducible first | refine s_none ?_ | refine x_assign (h := ?_) | refine x_alloc (h := ?_) | refine x_store0 (h := ?_))
     | ((with_reducible refine o_id 183 rfl ?_); refine x_call (hF := symbolOf_fn _ p hp b k hk x hx) (h := ?_))
     | ((with_reducible refine o_id 185 rfl ?_); refine x_call (hF := impl_cellPlace_fn _ p hp b k hk x hx) (h := ?_))
     | (with_reducible refine x_q (h := ?_))
     | refine x_condt (h1 := ?_) | refine x_condf (h1 := ?_)
     | fail)
    all_goals try clear fx
    refine e_ret [] .nil (by simp; rfl) ?_
    simp [nameOp, h]
  · skip
    all_goals have fx := And.intro h <| And.intro hgl <| hw22
    repeat' (first
     | refine w_seq ?_ | refine w_block ?_ | refine w_skip ?_ | refine w_reg fun K hK => ?_
     | ((with_reducible refine s_end hK ?_); clear hK K)
     | (with_reducible first | refine then_normal ?_ | refine in_normal ?_ | refine then_ret ?_ | refine in_ret ?_)
     | refine w_ret ?_
     | (with_reducible first | refine s_none ?_ | refine x_assign (h := ?_) | refine x_alloc (h := ?_) | refine x_store0 (h := ?_))
     | ((with_reducible refine o_id 183 rfl ?_); refine x_call (hF := symbolOf_fn _ p hp b k hk x hx) (h := ?_))
     | ((with_reducible refine o_id 114 rfl ?_); refine x_callh (hF := fastsOf_fn _ p hp b k hk (hsf (.inr h))) (h := ?_))
     | ((with_reducible refine o_id 184 rfl ?_); refine x_call (hF := placeOf_fn _ (fastsL p b) _ (by omega)) (h := ?_))
     | (with_reducible refine x_q (h := ?_))
     | refine x_condt (h1 := ?_) | refine x_condf (h1 := ?_)
     | fail)
    all_goals try clear fx
    refine e_ret [] .nil (by simp; rfl) ?_
    simp [nameOp, h]
end Go.Proofs.YtmaoicgfcngciaaGreatDoor
end
