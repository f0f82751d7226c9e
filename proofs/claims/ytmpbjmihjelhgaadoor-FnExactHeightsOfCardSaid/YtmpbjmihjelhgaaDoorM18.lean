/-
  Own texts, joined by mkclaim.py: Gl, Ra.
-/
import Derived.Test.YtmpbjmihjelhgaaDoorM17
import Derived.Test.YtmpbjmihjelhgaaDoorM09
import Derived.Test.YtmpbjmihjelhgaaDoorM11
set_option linter.unusedSimpArgs false
set_option linter.unusedVariables false

section
/-
  Functions of the reference on names in blocks: what they return.
-/
set_option maxRecDepth 100000
set_option maxHeartbeats 1000000
set_option linter.unusedSimpArgs false
namespace Go.Proofs.YtmpbjmihjelhgaaDoor
open Go Go.Hm Go.Proofs

theorem copyProgram_fn (gl) (p : Prg) (hs : Sml p) : FnOk Tryd.prog gl 151 [pav p] (fun r y H' => y = .agg [.hs r 4 0 p.length] ∧ OwnP H' r p) := by
  have hpl := hs.len
  refine FnOk.of_sem Tryd.func151 rfl (by kernel_rfl) (rs := [.cell 2 25]) rfl Tryd.ntmps151 (Nat.le_of_ble_eq_true rfl) fun C w g root => ?_
  all_goals have fx := fx0
  repeat' (first
   | refine w_seq ?_ | refine w_block ?_ | refine w_reg fun K hK => ?_
   | ((with_reducible refine s_end hK ?_); clear hK K)
   | (with_reducible first | refine s_none ?_ | refine x_assign (h := ?_) | refine x_box (h := ?_) | refine x_alloc (h := ?_) | refine x_store (h := ?_))
   | (with_reducible refine x_q (h := ?_))
   | fail)
  all_goals try clear fx
  refine w_loop (fun n st => ∃ i : Nat, n = p.length - i ∧ i ≤ p.length ∧ st.tm 1 = .pt (.s 1) 0 ∧ st.hp (.s 1) = some (.row 1 [[ksl p]]) ∧ st.tm 2 = .pt (.s 2) 0 ∧ st.hp (.s 2) = some (.row 1 [[.hs (.c (.s 2) 0 0) 4 0 0]]) ∧ st.tm 3 = .pt (.s 3) 0 ∧ st.tm 4 = iv i ∧ ∃ q : Prg, q = p.take i ∧ q.length = i ∧ st.hp (.s 3) = some (.row 1 [[.hs (.c (.s 3) 0 0) 4 0 q.length]]) ∧ OwnP st.hp (.c (.s 3) 0 0) q) p.length ?_ ?_
  · refine ⟨0, by omega, by omega, by simp, by simp, by simp, by simp, by simp, by simp, [], rfl, rfl, by simp, by simp, by simp, by simp⟩
  rintro n st - - ⟨i, rfl, hi, h1, hp1, h2, hp2, h3, h4, q, hq, hql, hp3, ⟨ht1, ht2, ht3⟩⟩
  all_goals have fx := And.intro h1 <| And.intro hp1 <| h4
  repeat' (first
   | refine w_seq ?_ | refine w_reg fun K hK => ?_
   | ((with_reducible refine s_end hK ?_); clear hK K)
   | (with_reducible first | refine then_normal ?_)
   | (with_reducible first | refine s_none ?_)
   | (with_reducible refine x_q (h := ?_))
   | fail)
  all_goals try clear fx
  refine w_if (by simp []; first | done | rfl | exact (Bool.not_not _).symm) (fun ht => ?_) (fun hf => ?_)
  · have hlt : i < p.length := by simpa using ht
    obtain ⟨k, hk⟩ : ∃ k, p[i]? = some k := ⟨_, List.getElem?_eq_getElem hlt⟩
    obtain ⟨hkp, hkb⟩ := hs.bsm hk
    clear ht
    all_goals have fx := And.intro h1 <| And.intro hp1 <| And.intro h4 <| And.intro h3 <| And.intro hp3 <| And.intro ht1 <| hk
    repeat' (first
     | refine w_seq ?_ | refine w_block ?_ | refine w_skip ?_ | refine w_reg fun K hK => ?_
     | ((with_reducible refine s_end hK ?_); clear hK K)
     | (with_reducible first | refine then_normal ?_ | refine s_nil ?_)
     | (with_reducible first | refine s_none ?_ | refine x_assign (h := ?_) | refine x_alloc (h := ?_) | refine x_store0 (h := ?_) | refine x_append (T := 50) (h := ?_) | refine x_appendC (T := 23) (h := ?_) | refine x_build (h := ?_))
     | ((with_reducible refine o_id 110 rfl ?_); refine x_callh (hF := copyInts_fn _ k.params (by omega)) (h := ?_))
     | (with_reducible refine x_q (h := ?_))
     | (refine w_sch (id := 6) (.q 0 <| .q 1 <| .q 2 <| .q 3 <| .q 4 <| .q 5 <| .q 6 <| .q 7 <| .q 10 <| .q 11 <| .l2 8 [11, 10, 6, 5, 4, 3, 2, 1, 0] (.l 9 [11, 10, 6, 5, 4, 3, 2, 1, 0] <| .l 12 [10, 6, 5, 4, 3, 2, 1, 0] <| .q 13 <| .l 14 [10, 6, 5, 4, 3, 2, 1, 0] <| .l 15 [10, 6, 5, 4, 3, 2, 0] <| .q 16 <| .l 17 [] <| .done) 9 [11, 10, 7, 6, 5, 4, 3, 2, 1, 0] (.l 8 [11, 10, 6, 5, 4, 3, 2, 1, 0] <| .l 12 [10, 6, 5, 4, 3, 2, 1, 0] <| .q 13 <| .l 14 [10, 6, 5, 4, 3, 2, 1, 0] <| .l 15 [10, 6, 5, 4, 3, 2, 0] <| .q 16 <| .l 17 [] <| .done)) mixed (by kernel_rfl) (by kernel_rfl) fun K hK => ?_)
     | ((with_reducible refine a_end hK ?_); clear hK K)
     | ((with_reducible refine a_id ?_); first | refine xa_q (h := ?_))
     | refine a_l rfl ?_ | refine a_l2 ?_ ?_ | (with_reducible refine And.intro ?_ ?_) | exact st_nil | refine xa_st (h2 := ?_)
     | fail)
    all_goals try clear fx
    all_goals
      refine ⟨p.length - (i + 1), by omega, i + 1, rfl, by omega, by simp [h1], by simp [hp1], by simp [h2], by simp [hp2], by simp [h3], by simp; exact wrp (by omega) (by omega), q ++ [k], by rw [List.take_add_one, hk, hq]; rfl, by simp [hql], by simp, ⟨?_, ?_, ?_⟩⟩
      · simp [ht1, pRows_app]
      · intro j r hj
        rcases Nat.lt_or_ge j q.length with hlj | hgj
        · rw [List.getElem?_append_left hlj] at hj
          have hne : ¬ j = q.length := by omega
          simp [ht2 j r hj, hne]
        · rw [List.getElem?_append_right hgj] at hj
          obtain rfl : j = q.length := by
            have := (List.getElem?_eq_some_iff.1 hj).1
            simp at this
            omega
          simp at hj
          subst hj
          simp
      · intro j r hj
        rcases Nat.lt_or_ge j q.length with hlj | hgj
        · rw [List.getElem?_append_left hlj] at hj
          have hne : ¬ j = q.length := by omega
          simp [ht3 j r hj, hne]
        · rw [List.getElem?_append_right hgj] at hj
          obtain rfl : j = q.length := by
            have := (List.getElem?_eq_some_iff.1 hj).1
            simp at this
            omega
          simp at hj
          subst hj
          simp
  · have hge : i = p.length := by
      have : ¬ i < p.length := by simpa using hf
      omega
    have hqp : q = p := by rw [hq, hge, List.take_length]
    subst hqp
    all_goals have fx := And.intro h1 <| And.intro h2 <| And.intro hp2 <| And.intro h3 <| hp3
    repeat' (first
     | refine w_seq ?_ | refine w_reg fun K hK => ?_
     | ((with_reducible refine s_end hK ?_); clear hK K)
     | (with_reducible first | refine then_normal ?_)
     | refine w_exit ?_
     | refine w_ret ?_
     | (with_reducible first | refine s_none ?_ | refine x_store0 (h := ?_))
     | (with_reducible refine x_q (h := ?_))
     | fail)
    all_goals try clear fx
    refine e_ret [(.c (.s 3) 0 0, root)] (.one rfl) (by simp [h2]; rfl) ⟨by simp, ⟨?_, fun j r hj => ?_, fun j r hj => ?_⟩⟩
    · simp [ht1, pRows_tr (n := .c (.s 3) 0 0) (m := root) (f := finf noD [(.c (.s 3) 0 0, root)]) (p := q) (by simp)]
    · simp [ht2 j r hj]
    · simp [ht3 j r hj]
end Go.Proofs.YtmpbjmihjelhgaaDoor
end

section
/-
  The reference's programs without declarations: what they are.
-/
set_option maxRecDepth 100000
set_option maxHeartbeats 1000000
set_option linter.unusedSimpArgs false
namespace Go.Proofs.YtmpbjmihjelhgaaDoor
open Go Go.Hm Go.Proofs

theorem bare_fn (gl) (p : Prg) (hs : Sml p) : FnOk Tryd.prog gl 142 [pav p] (fun r z H' => z = .agg [.hs r 4 0 p.length] ∧ OwnP H' r (bareP p)) := by
  have hpl := hs.len
  refine FnOk.of_sem Tryd.func142 rfl (by kernel_rfl) (rs := [.cell 2 25]) rfl Tryd.ntmps142 (Nat.le_of_ble_eq_true rfl) fun C w g root => ?_
  all_goals have fx := fx0
  repeat' (first
   | refine w_seq ?_ | refine w_reg fun K hK => ?_
   | ((with_reducible refine s_end hK ?_); clear hK K)
   | (with_reducible refine s_none ?_)
   | (with_reducible first | refine x_box (h := ?_) | refine x_alloc (h := ?_))
   | ((with_reducible refine o_id 151 rfl ?_); refine x_callg (hF := copyProgram_fn _ p hs) (h := ?_))
   | (with_reducible refine x_q (h := ?_))
   | fail)
  all_goals try clear fx
  rintro z H' ⟨rfl, hO⟩
  obtain ⟨ho1, ho2, ho3⟩ := hO.hcln
  refine ⟨by simp, ?_⟩
  all_goals have fx :=  ho1
  repeat' (first
   | refine w_seq ?_ | refine w_block ?_ | refine w_reg fun K hK => ?_
   | ((with_reducible refine s_end hK ?_); clear hK K)
   | (with_reducible refine s_none ?_)
   | (with_reducible first | refine x_assign (h := ?_) | refine x_alloc (h := ?_) | refine x_store0 (h := ?_))
   | fail)
  all_goals try clear fx
  refine w_loop (fun n st => ∃ i : Nat, n = p.length - i ∧ i ≤ p.length ∧ st.tm 1 = .pt (.s 1) 0 ∧ st.hp (.s 1) = some (.row 1 [[ksl p]]) ∧ st.tm 2 = .pt (.s 2) 0 ∧ st.hp (.s 2) = some (.row 1 [[.hs (.c (.s 2) 0 0) 4 0 0]]) ∧ st.hp (.c (.s 2) 0 0) = some (.row 4 []) ∧
    st.tm 3 = .pt (.s 3) 0 ∧ st.hp (.s 3) = some (.row 1 [[.hs (.c (.s 3) 0 0) 4 0 p.length]]) ∧ st.tm 4 = iv i ∧ OwnP st.hp (.c (.s 3) 0 0) (mapTo bareB p i)) p.length ?_ ?_
  · refine ⟨0, by omega, by omega, by simp, by simp, by simp, by simp, by simp, by simp, by simp, by simp, ?_⟩
    rw [mapTo_zero]
    exact ⟨by simp [ho1], fun j r hj => by simp [ho2 j r hj], fun j r hj => by simp [ho3 j r hj]⟩
  clear ho1 ho2 ho3 hO
  rintro n st - - ⟨i, rfl, hi, h1, hp1, h2, hp2, hp2', h3, hp3, h4, ⟨ho1, ho2, ho3⟩⟩
  all_goals have fx := And.intro h3 <| And.intro hp3 <| h4
  repeat' (first
   | refine w_seq ?_ | refine w_reg fun K hK => ?_
   | ((with_reducible refine s_end hK ?_); clear hK K)
   | (with_reducible first | refine then_normal ?_)
   | (with_reducible refine s_none ?_)
   | (with_reducible refine x_q (h := ?_))
   | fail)
  all_goals try clear fx
  refine w_if (by simp []; first | done | rfl | exact (Bool.not_not _).symm) (fun ht => ?_) (fun hf => ?_)
  · have hlt : i < p.length := by simpa using ht
    obtain ⟨k, hk⟩ : ∃ k, p[i]? = some k := ⟨_, List.getElem?_eq_getElem hlt⟩
    obtain ⟨_, hkE⟩ := List.getElem?_eq_some_iff.1 hk
    obtain ⟨hkp, hkb⟩ := hs.bsm hk
    clear ht
    all_goals have fx := fx0
    repeat' (first
     | refine w_seq ?_ | refine w_block ?_ | refine w_skip ?_ | refine w_reg fun K hK => ?_
     | ((with_reducible refine s_end hK ?_); clear hK K)
     | (with_reducible refine s_none ?_)
     | (with_reducible first | refine x_assign (h := ?_) | refine x_build (h := ?_))
     | fail)
    all_goals try clear fx
    refine w_loop (fun n st => ∃ j : Nat, n = k.body.length - j ∧ j ≤ k.body.length ∧ st.tm 1 = .pt (.s 1) 0 ∧ st.hp (.s 1) = some (.row 1 [[ksl p]]) ∧ st.tm 2 = .pt (.s 2) 0 ∧ st.hp (.s 2) = some (.row 1 [[.hs (.c (.s 2) 0 0) 4 0 0]]) ∧ st.hp (.c (.s 2) 0 0) = some (.row 4 []) ∧
      st.tm 3 = .pt (.s 3) 0 ∧ st.hp (.s 3) = some (.row 1 [[.hs (.c (.s 3) 0 0) 4 0 p.length]]) ∧ st.tm 4 = iv i ∧ OwnP st.hp (.c (.s 3) 0 0) (mapTo bareB p i) ∧ st.tm 6 = iv j ∧ st.tm 5 = .hs (.s 5) 4 0 (bareS (k.body.take j)).length ∧ st.hp (.s 5) = some (.row 4 (srows (bareS (k.body.take j))))) k.body.length ?_ ?_
    · refine ⟨0, by omega, by omega, by simp [h1], by simp [hp1], by simp [h2], by simp [hp2], by simp [hp2'], by simp [h3], by simp [hp3], by simp [h4], ⟨by simp [ho1], fun j r hj => by simp [ho2 j r hj], fun j r hj => by simp [ho3 j r hj]⟩, by simp, by simp [bareS], by simp [bareS]⟩
    clear h1 hp1 h2 hp2 hp2' h3 hp3 h4 ho1 ho2 ho3
    rintro n st - - ⟨j, rfl, hj, h1, hp1, h2, hp2, hp2', h3, hp3, h4, ⟨ho1, ho2, ho3⟩, h6, h5, hp5⟩
    have hbl : (bareS (k.body.take j)).length ≤ j := Nat.le_trans bareS_len (by simp; omega)
    have hst := fun s (h : k.body[j]? = some s) => bareS_step h
    generalize hL : bareS (k.body.take j) = L at h5 hp5 hbl hst
    all_goals have fx := And.intro h1 <| And.intro hp1 <| And.intro h4 <| And.intro h6 <| And.intro hk <| And.intro hkE <| hlt
    repeat' (first
     | refine w_seq ?_ | refine w_reg fun K hK => ?_
     | ((with_reducible refine s_end hK ?_); clear hK K)
     | (with_reducible first | refine then_normal ?_)
     | (with_reducible refine s_none ?_)
     | (with_reducible refine x_q (h := ?_))
     | fail)
    all_goals try clear fx
    refine w_if (by simp []; first | done | rfl | exact (Bool.not_not _).symm) (fun ht => ?_) (fun hf => ?_)
    · have hjl : j < k.body.length := by simpa using ht
      obtain ⟨s, hsi⟩ : ∃ s, k.body[j]? = some s := ⟨_, List.getElem?_eq_getElem hjl⟩
      obtain ⟨_, hsE⟩ := List.getElem?_eq_some_iff.1 hsi
      have hst := hst s hsi
      clear ht
      cases hd : ((s.kind == 9) || (s.kind == 10))
      · obtain ⟨h9, h10⟩ : (s.kind == 9) = false ∧ (s.kind == 10) = false := by simpa using hd
        rw [hd] at hst
        simp only [Bool.false_eq_true, if_false] at hst
        all_goals have fx := And.intro h1 <| And.intro hp1 <| And.intro h4 <| And.intro h6 <| And.intro hk <| And.intro hkE <| And.intro hlt <| And.intro hsi <| And.intro hsE <| And.intro hjl <| And.intro h9 <| And.intro h10 <| And.intro @bne_def <| And.intro h5 <| hp5
        repeat' (first
         | refine w_seq ?_ | refine w_block ?_ | refine w_skip ?_ | refine w_reg fun K hK => ?_
         | ((with_reducible refine s_end hK ?_); clear hK K)
         | (with_reducible first | refine then_normal ?_)
         | (with_reducible refine s_none ?_)
         | ((with_reducible refine g_id ?_); refine x_guard (h := ?_))
         | (with_reducible first | refine gx_tt ?_ | refine x_assign (h := ?_) | refine x_alloc (h := ?_) | refine x_store0 (h := ?_) | refine x_append (T := 50) (h := ?_) | refine x_build (h := ?_))
         | (with_reducible refine x_q (h := ?_))
         | refine x_condt (h1 := ?_)
         | fail)
        all_goals try clear fx
        refine ⟨k.body.length - (j + 1), by omega, j + 1, rfl, by omega, by simp [h1], by simp [hp1], by simp [h2], by simp [hp2], by simp [hp2'], by simp [h3], by simp [hp3], by simp [h4], ⟨by simp [ho1], fun j r hj => by simp [ho2 j r hj], fun j r hj => by simp [ho3 j r hj]⟩, by simp; exact wrp (by omega) (by omega), by simp [hst], ?_⟩
        rw [hst, ← srows_app1]
        simp [hp5]
      · have hd' : (s.kind == 9) = true ∨ ((s.kind == 9) = false ∧ (s.kind == 10) = true) := by
          revert hd
          cases (s.kind == 9) <;> cases (s.kind == 10) <;> simp
        rw [hd] at hst
        simp only [if_true] at hst
        rcases hd' with h9 | ⟨h9, h10⟩
        case' inl => have h10 : True := trivial
        all_goals
          all_goals have fx := And.intro h1 <| And.intro hp1 <| And.intro h4 <| And.intro h6 <| And.intro hk <| And.intro hkE <| And.intro hlt <| And.intro hsi <| And.intro hsE <| And.intro hjl <| And.intro h9 <| And.intro h10 <| @bne_def
          repeat' (first
           | refine w_seq ?_ | refine w_block ?_ | refine w_skip ?_ | refine w_reg fun K hK => ?_
           | ((with_reducible refine s_end hK ?_); clear hK K)
           | (with_reducible first | refine then_normal ?_)
           | (with_reducible refine s_none ?_)
           | ((with_reducible refine g_id ?_); refine x_guard (h := ?_))
           | (with_reducible first | refine gx_tt ?_ | refine x_tf (h := ?_) | refine x_assign (h := ?_) | refine x_alloc (h := ?_) | refine x_store0 (h := ?_))
           | (with_reducible refine x_q (h := ?_))
           | refine x_condf (h1 := ?_)
           | fail)
          all_goals try clear fx
          exact ⟨k.body.length - (j + 1), by omega, j + 1, rfl, by omega, by simp [h1], by simp [hp1], by simp [h2], by simp [hp2], by simp [hp2'], by simp [h3], by simp [hp3], by simp [h4], ⟨by simp [ho1], fun j r hj => by simp [ho2 j r hj], fun j r hj => by simp [ho3 j r hj]⟩, by simp; exact wrp (by omega) (by omega), by simp [hst, h5], by simp [hst, hp5]⟩
    · have hge : j = k.body.length := by
        have : ¬ j < k.body.length := by simpa using hf
        omega
      subst hge
      rw [List.take_length] at hL
      subst hL
      clear hf hst
      have hset := pRows_set (n := .c (.s 3) 0 0) (a := 5) (i := i) (len := (bareS k.body).length) (p := mapTo bareB p i) (L := bareS k.body) rfl (by simp) (by simp)
      have hmg := mapTo_get (f := bareB) hk
      obtain ⟨_, hmgE⟩ := List.getElem?_eq_some_iff.1 hmg
      have hml := mapTo_len (f := bareB) (l := p) hi
      all_goals have fx := And.intro h3 <| And.intro hp3 <| And.intro h4 <| And.intro h5 <| And.intro hp5 <| And.intro ho1 <| And.intro hmg <| And.intro hmgE <| And.intro hlt <| And.intro hset <| hml
      repeat' (first
       | refine w_reg fun K hK => ?_
       | ((with_reducible refine s_end hK ?_); clear hK K)
       | (with_reducible first | refine then_normal ?_)
       | refine w_exit ?_
       | (with_reducible refine s_none ?_)
       | (with_reducible first | refine x_assign (h := ?_) | refine x_store0 (h := ?_))
       | (with_reducible refine x_q (h := ?_))
       | fail)
      all_goals try clear fx
      refine ⟨p.length - (i + 1), by omega, i + 1, rfl, by omega, by simp [h1], by simp [hp1], by simp [h2], by simp [hp2], by simp [hp2'], by simp [h3], by simp [hp3], by simp [h4]; exact wrp (by omega) (by omega), ?_⟩
      rw [← bareTo_step hk]
      refine ⟨by simp [hset], fun d r hd => ?_, fun d r hd => ?_⟩
      all_goals
        have hl : d < (mapTo bareB p i).length := by
          have := (List.getElem?_eq_some_iff.1 hd).1
          rwa [setBody_len] at this
        obtain ⟨q, hq⟩ : ∃ q, (mapTo bareB p i)[d]? = some q := ⟨_, List.getElem?_eq_getElem hl⟩
        rw [setBody_get hq] at hd
        obtain rfl := Option.some.inj hd
        by_cases hid : i = d
      · subst hid
        simp [ho2 i q hq]
      · simp [ho2 d q hq, hid, show ¬ d = i from fun e => hid e.symm]
      · subst hid
        simp [hp5]
      · simp [ho3 d q hq, hid, show ¬ d = i from fun e => hid e.symm]
  · have hge : i = p.length := by
      have : ¬ i < p.length := by simpa using hf
      omega
    subst hge
    rw [mapTo_all] at ho1 ho2 ho3
    have hbp : p.map bareB = bareP p := rfl
    rw [hbp] at ho1 ho2 ho3
    all_goals have fx := And.intro h2 <| And.intro hp2 <| And.intro hp2' <| And.intro h3 <| hp3
    repeat' (first
     | refine w_seq ?_ | refine w_reg fun K hK => ?_
     | ((with_reducible refine s_end hK ?_); clear hK K)
     | (with_reducible first | refine then_normal ?_)
     | refine w_exit ?_
     | refine w_ret ?_
     | (with_reducible refine s_none ?_)
     | (with_reducible first | refine x_store0 (h := ?_))
     | (with_reducible refine x_q (h := ?_))
     | fail)
    all_goals try clear fx
    refine e_ret [(.c (.s 3) 0 0, root)] (.one rfl) (by simp [h2]; rfl) ⟨by simp, ⟨?_, fun j r hj => ?_, fun j r hj => ?_⟩⟩
    · simp [ho1, pRows_tr (n := .c (.s 3) 0 0) (m := root) (f := finf noD [(.c (.s 3) 0 0, root)]) (p := bareP p) (by simp)]
    · simp [ho2 j r hj]
    · simp [ho3 j r hj]
end Go.Proofs.YtmpbjmihjelhgaaDoor
end
