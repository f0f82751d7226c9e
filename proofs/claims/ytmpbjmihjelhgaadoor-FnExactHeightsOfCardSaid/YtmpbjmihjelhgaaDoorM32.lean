/-
  Own texts, joined by mkclaim.py: Ko, Kp, Kr.
-/
import Derived.Test.YtmpbjmihjelhgaaDoorM31
import Derived.Test.YtmpbjmihjelhgaaDoorM25
set_option linter.unusedSimpArgs false
set_option linter.unusedVariables false

section
/-
  The reference's HeightsOf and LineOf: what they are.
-/
set_option maxRecDepth 100000
set_option maxHeartbeats 1000000
set_option linter.unusedSimpArgs false
namespace Go.Proofs.YtmpbjmihjelhgaaDoor
open Go Go.Hm Go.Proofs

theorem lev_bd {l : List (Int × Int)} (h : Lev l) {i : Nat} (hi : i ≤ l.length) : 0 ≤ sumO (l.take i) ∧ sumO (l.take i) ≤ 2 := by
  cases i with
  | zero => simp [sumO]
  | succ i =>
    obtain ⟨o, ho⟩ : ∃ o, l[i]? = some o := ⟨_, List.getElem?_eq_getElem (by omega)⟩
    obtain ⟨h1, h2, _⟩ := h.at' i o ho
    exact ⟨h1, h2⟩

theorem spec_HeightsOf_fn (gl) (p : Prg) (b : Int) (hs : Sml p) : FnOk Tryd.prog gl 43 [pav p, iv b] (fun r y H' => y = .hs r 1 0 (heightsG p b).length ∧ H' r = some (.row 1 (irows (heightsG p b)))) := by
  have hpl := hs.len
  have hw : IntKind.i64.wrap ((p.length : Int) - 1) = (p.length : Int) - 1 := wrp (by omega) (by omega)
  refine FnOk.of_sem Tryd.func43 rfl (by kernel_rfl) (rs := [.tmp 4]) rfl Tryd.ntmps43 (Nat.le_of_ble_eq_true rfl) fun C w g root => ?_
  cases hv : progOk p
  · have hno : heightsG p b = [] := by simp [heightsG, blkAt, hv]
    rw [hno]
    have fx := And.intro hv <| hw
    have c1 := validProgram_fn gl p hs
    refine k_run ?_
    clear fx c1
    exact e_list (t := 4) (by first | (simp []; done) | (simp []; rfl)) (by first | (simp []; done) | (simp []; rfl)) (by simp)
  cases hb : blkAt p b
  · have hno : heightsG p b = [] := by simp [heightsG, hb]
    have hn := blkAt_not hb hv
    have hr : (decide (0 ≤ b) && decide (b ≤ (p.length : Int) - 1)) = false := by
      apply Bool.eq_false_iff.2
      intro h
      simp only [Bool.and_eq_true, decide_eq_true_eq] at h
      exact hn h
    rw [hno]
    have fx := And.intro hv <| And.intro hw <| hr
    have c1 := validProgram_fn gl p hs
    have c2 := inRange_fn gl b 0 ((p.length : Int) - 1)
    refine k_run ?_
    clear fx c1 c2
    exact e_list (t := 4) (by first | (simp []; done) | (simp []; rfl)) (by first | (simp []; done) | (simp []; rfl)) (by simp)
  · obtain ⟨B, k, rfl, hk, hP, _⟩ := blkAt_parts hs hb
    have hBl := (List.getElem?_eq_some_iff.1 hk).1
    have hr : (B : Int) ≤ (p.length : Int) - 1 := by omega
    have hco : heightsG p B = heightsTo (opsL p B) (opsL p B).length := by simp [heightsG, hb, heightsTo_all]
    rw [hco]
    have hcc := spec_compiled_fn gl p B k hk hP
    have hops : (codeL p B).ops = opsL p B := by simp [codeL, hk]
    have hol := opsL_len (b := B) hP.sh
    have hlev := opsL_lev (b := B) hP.sh
    have hcall : ∀ o ∈ opsL p B, o.1 = 17 → 0 ≤ o.2 ∧ o.2 ≤ 1 := fun o ho => opsL_call ho
    rw [← hops] at hol hlev hcall ⊢
    clear hops hco
    generalize codeL p B = c at *
    have fx := And.intro hv <| And.intro hw <| hr
    have c1 := validProgram_fn gl p hs
    have c2 := inRange_fn gl B 0 ((p.length : Int) - 1)
    have e1 := hcc
    refine k_run ?_
    clear fx c1 c2 e1
    rintro K hK y H' ⟨rfl, hO⟩
    obtain ⟨o1, o2, o3, o4, o5⟩ := hO.hcln
    refine ⟨by simp, ?_⟩
    have fx := And.intro o1 <| And.intro o2 <| And.intro o3 <| And.intro o4 <| o5
    refine k_run ?_
    clear fx
    refine w_loop (fun n st => ∃ i : Nat, n = c.ops.length - i ∧ i ≤ c.ops.length ∧ st.tm 7 = .hs (.c (.s 24) 0 5) 2 0 c.ops.length ∧ st.hp (.c (.s 24) 0 5) = some (.row 2 (orows c.ops)) ∧ st.tm 8 = iv i ∧ st.tm 6 = iv (sumO (c.ops.take i)) ∧ st.tm 5 = .hs (.s 5) 1 0 i ∧ st.hp (.s 5) = some (.row 1 (irows (heightsTo c.ops i)))) c.ops.length ?_ ?_
    · exact ⟨0, by omega, by omega, by simp, by simp [o5], by simp, by simp [sumO], by simp, by simp [heightsTo]⟩
    rintro n st - - ⟨i, rfl, hi, h7, hp7, h8, h6, h5, hp5⟩
    by_cases hil : i < c.ops.length
    · obtain ⟨o, ho⟩ : ∃ o, c.ops[i]? = some o := ⟨_, List.getElem?_eq_getElem hil⟩
      obtain ⟨_, hoE⟩ := List.getElem?_eq_some_iff.1 ho
      have hst := sumO_take ho
      have hnx := heightsTo_succ (l := c.ops) (n := i)
      have hb1 := lev_bd hlev (i := i + 1) (by omega)
      have hwr : IntKind.i64.wrap (sumO (c.ops.take i) + effO o) = sumO (c.ops.take (i + 1)) := by rw [← hst]; exact wrp (by omega) (by omega)
      have hef := spec_effect_fn gl o (hcall o (List.mem_of_getElem? ho))
      have hhl : (heightsTo c.ops i).length = i := heightsTo_len
      generalize heightsTo c.ops i = L at hp5 hnx hhl
      subst hhl
      have fx := And.intro h7 <| And.intro hp7 <| And.intro h8 <| And.intro h6 <| And.intro h5 <| And.intro hp5 <| And.intro ho <| And.intro hoE <| And.intro hil <| And.intro hwr <| hol
      have c1 := hef
      refine k_run ?_
      clear fx c1
      refine ⟨c.ops.length - (L.length + 1), by omega, L.length + 1, rfl, by omega, by simp [h7], by simp [hp7], by simp; exact wrp (by omega) (by omega), by simp, by simp, ?_⟩
      rw [hnx]
      simp [irows]
    · have hge : i = c.ops.length := by omega
      subst hge
      have fx := And.intro h7 <| And.intro hp7 <| And.intro h8 <| And.intro h5 <| And.intro hp5 <| hil
      refine k_run ?_
      clear fx
      exact e_list (t := 4) (by first | (simp [hp5]; done) | (simp [hp5]; rfl)) (by first | (simp [hp5]; done) | (simp [hp5]; rfl)) (by simp)

theorem spec_LineOf_fn (gl) (p : Prg) (b at' : Int) (hs : Sml p) : FnOk Tryd.prog gl 31 [pav p, iv b, iv at'] (fun _ y _ => y = iv (lineG p b at')) := by
  have hpl := hs.len
  have hw : IntKind.i64.wrap ((p.length : Int) - 1) = (p.length : Int) - 1 := wrp (by omega) (by omega)
  refine FnOk.of_sem Tryd.func31 rfl (by kernel_rfl) (rs := [.tmp 6]) rfl Tryd.ntmps31 (Nat.le_of_ble_eq_true rfl) fun C w g root => ?_
  cases hv : progOk p
  · have hno : lineG p b at' = -1 := by simp [lineG, blkAt, hv]
    rw [hno]
    have fx := And.intro hv <| hw
    have c1 := validProgram_fn gl p hs
    refine k_run ?_
    clear fx c1
    refine e_ret [] .nil (by simp; rfl) (by simp)
  cases hb : blkAt p b
  · have hno : lineG p b at' = -1 := by simp [lineG, hb]
    have hn := blkAt_not hb hv
    have hr : (decide (0 ≤ b) && decide (b ≤ (p.length : Int) - 1)) = false := by
      apply Bool.eq_false_iff.2
      intro h
      simp only [Bool.and_eq_true, decide_eq_true_eq] at h
      exact hn h
    rw [hno]
    have fx := And.intro hv <| And.intro hw <| hr
    have c1 := validProgram_fn gl p hs
    have c2 := inRange_fn gl b 0 ((p.length : Int) - 1)
    refine k_run ?_
    clear fx c1 c2
    refine e_ret [] .nil (by simp; rfl) (by simp)
  obtain ⟨B, k, rfl, hk, hP, _⟩ := blkAt_parts hs hb
  have hBl := (List.getElem?_eq_some_iff.1 hk).1
  have hr : (B : Int) ≤ (p.length : Int) - 1 := by omega
  have hco : lineG p B at' = lineL (opsL p B) at' := by simp [lineG, hb]
  rw [hco]
  have hcc := spec_compiled_fn gl p B k hk hP
  have hops : (codeL p B).ops = opsL p B := by simp [codeL, hk]
  have hol := opsL_len (b := B) hP.sh
  rw [← hops] at hol ⊢
  clear hops hco
  generalize codeL p B = c at *
  have hwc : IntKind.i64.wrap ((c.ops.length : Int) - 1) = (c.ops.length : Int) - 1 := wrp (by omega) (by omega)
  have hin := inRange_fn gl at' 0 ((c.ops.length : Int) - 1)
  cases hat : (decide (0 ≤ at') && decide (at' ≤ (c.ops.length : Int) - 1))
  · have hno : lineL c.ops at' = -1 := by
      unfold lineL
      rw [if_neg]
      intro h
      have : (decide (0 ≤ at') && decide (at' ≤ (c.ops.length : Int) - 1)) = true := by simp; omega
      rw [this] at hat
      cases hat
    rw [hat] at hin
    rw [hno]
    have fx := And.intro hv <| And.intro hw <| hr
    have c1 := validProgram_fn gl p hs
    have c2 := inRange_fn gl B 0 ((p.length : Int) - 1)
    have e1 := hcc
    refine k_run ?_
    clear fx c1 c2 e1
    rintro K hK y H' ⟨rfl, hO⟩
    obtain ⟨o1, o2, o3, o4, o5⟩ := hO.hcln
    refine ⟨by simp, ?_⟩
    have fx :=  hwc
    have c1 := hin
    refine k_run ?_
    clear fx c1
    refine e_ret [] .nil (by simp; rfl) (by simp)
  simp only [Bool.and_eq_true, decide_eq_true_eq] at hat
  obtain ⟨A, rfl⟩ : ∃ A : Nat, at' = A := ⟨at'.toNat, by omega⟩
  have hA : A < c.ops.length := by omega
  have hyes : lineL c.ops A = (ticks (c.ops.take (A + 1)) : Int) - 1 := by
    unfold lineL
    rw [if_pos (by omega)]
    rfl
  rw [hyes]
  have hin' : (decide ((0 : Int) ≤ A) && decide ((A : Int) ≤ (c.ops.length : Int) - 1)) = true := by simp; omega
  rw [hin'] at hin
  have fx := And.intro hv <| And.intro hw <| hr
  have c1 := validProgram_fn gl p hs
  have c2 := inRange_fn gl B 0 ((p.length : Int) - 1)
  have e1 := hcc
  refine k_run ?_
  clear fx c1 c2 e1
  rintro K hK y H' ⟨rfl, hO⟩
  obtain ⟨o1, o2, o3, o4, o5⟩ := hO.hcln
  refine ⟨by simp, ?_⟩
  have fx :=  hwc
  have c1 := hin
  have e1 := hcc
  refine k_run ?_
  clear fx c1 e1
  rintro K hK y H'' ⟨rfl, hO⟩
  obtain ⟨q1, q2, q3, q4, q5⟩ := hO.hcln
  refine ⟨by simp, ?_⟩
  have fx :=  q5
  refine k_run ?_
  clear fx
  refine w_loop (fun n st => ∃ i : Nat, n = A + 1 - i ∧ i ≤ A + 1 ∧ st.tm 8 = .hs (.c (.s 35) 0 5) 2 0 c.ops.length ∧ st.hp (.c (.s 35) 0 5) = some (.row 2 (orows c.ops)) ∧ st.tm 2 = iv A ∧ st.tm 9 = iv i ∧ st.tm 7 = iv ((ticks (c.ops.take i) : Int) - 1)) (A + 1) ?_ ?_
  · exact ⟨0, by omega, by omega, by simp, by simp [q5], by simp, by simp, by simp [ticks]⟩
  rintro n st - - ⟨i, rfl, hi, h8, hp8, h2, h9, h7⟩
  by_cases hil : i < A + 1
  · obtain ⟨o, ho⟩ : ∃ o, c.ops[i]? = some o := ⟨_, List.getElem?_eq_getElem (by omega)⟩
    obtain ⟨hoL, hoE⟩ := List.getElem?_eq_some_iff.1 ho
    have htk := ticks_take ho
    have htl : ticks (c.ops.take i) ≤ i := Nat.le_trans ticks_le (by simp; omega)
    have hiA : i ≤ A := by omega
    generalize ticks (c.ops.take i) = T at h7 htk htl
    have hwT : IntKind.i64.wrap ((T : Int) - 1 + 1) = (T : Int) := by
      rw [show (T : Int) - 1 + 1 = T by omega]
      exact wrp (by omega) (by omega)
    cases ho0 : (o.1 == 0)
    · have e0 : ¬ o.1 = 0 := by simpa using ho0
      have fx := And.intro h8 <| And.intro hp8 <| And.intro h2 <| And.intro h9 <| And.intro h7 <| And.intro ho <| And.intro hoE <| And.intro hoL <| And.intro hiA <| ho0
      refine k_run ?_
      clear fx
      exact ⟨A + 1 - (i + 1), by omega, i + 1, rfl, by omega, by simp [h8], by simp [hp8], by simp [h2], by simp; exact wrp (by omega) (by omega), by simp [htk, e0, h7]⟩
    · have e0 : o.1 = 0 := by simpa using ho0
      have fx := And.intro h8 <| And.intro hp8 <| And.intro h2 <| And.intro h9 <| And.intro h7 <| And.intro ho <| And.intro hoE <| And.intro hoL <| And.intro hiA <| And.intro ho0 <| hwT
      refine k_run ?_
      clear fx
      refine ⟨A + 1 - (i + 1), by omega, i + 1, rfl, by omega, by simp [h8], by simp [hp8], by simp [h2], by simp; exact wrp (by omega) (by omega), ?_⟩
      have e1 : ((T + 1 : Nat) : Int) - 1 = T := by omega
      have hwT' : IntKind.i64.wrap (T : Int) = (T : Int) := wrp (by omega) (by omega)
      rw [htk, if_pos e0, e1]
      simp [hwT']
  · have hge : i = A + 1 := by omega
    have hno : ¬ i ≤ A := by omega
    have fx := And.intro h8 <| And.intro hp8 <| And.intro h2 <| And.intro h9 <| And.intro h7 <| hno
    refine k_run ?_
    clear fx
    refine e_ret [] .nil (by simp; rfl) ?_
    rw [← hge]
    simp
end Go.Proofs.YtmpbjmihjelhgaaDoor
end

section
/-
  The program's CompileBlock, CompileAll, HeightsOf, LineOf: what they are.
-/
set_option maxRecDepth 100000
set_option maxHeartbeats 1000000
set_option linter.unusedSimpArgs false
namespace Go.Proofs.YtmpbjmihjelhgaaDoor
open Go Go.Hm Go.Proofs
attribute [local simp] slcAV rowsIn

theorem impl_CompileBlock_fn (gl : Nat → Option (List AV)) (hgl : gl 1 = some codesL) (p : Prg) (b : Int) (hs : Sml p) : FnOk Tryd.prog gl 36 [pav p, iv b] (fun r y H' => y = .agg ((codeG p b).own r 0) ∧ OwnK H' r 0 (codeG p b)) := by
  refine FnOk.of_sem Tryd.func36 rfl (by kernel_rfl) (rs := [.cell 4 48]) rfl Tryd.ntmps36 (Nat.le_of_ble_eq_true rfl) fun C w g root => ?_
  cases hv : progOk p
  · have hno : codeG p b = noCode := by simp [codeG, blkAt, hv]
    rw [hno]
    have fx :=  hv
    have c1 := impl_ValidProgram_fn gl p hs
    refine k_run ?_
    repeat ((first | refine w_sch (id := 3) (.q 0 <| .q 1 <| .q 3 <| .l 2 [3, 0] <| .l 4 [] <| .l 5 [] <| .done) mixed (by kernel_rfl) (by kernel_rfl) ?_); refine k_rund ?_; refine k_run ?_)
    clear fx c1
    refine e_ret [(.s 4, root)] (.one rfl) (by simp; rfl) ⟨?_, ⟨?_, ?_, ?_, ?_, ?_⟩⟩
    all_goals simp
  cases hb : blkAt p b
  · have hno : codeG p b = noCode := by simp [codeG, hb]
    have hn := blkAt_not hb hv
    have hb' : decide (0 ≤ b ∧ b < p.length) = false := by
      rw [decide_eq_false_iff_not]
      intro h
      exact hn (by omega)
    rw [hno]
    have fx := And.intro hv <| hb'
    have c1 := impl_ValidProgram_fn gl p hs
    have c2 := impl_isBlock_fn gl p b
    refine k_run ?_
    repeat ((first | refine w_sch (id := 3) (.q 0 <| .q 1 <| .q 3 <| .l 2 [3, 0] <| .l 4 [] <| .l 5 [] <| .done) mixed (by kernel_rfl) (by kernel_rfl) ?_); refine k_rund ?_; refine k_run ?_)
    clear fx c1 c2
    refine e_ret [(.s 4, root)] (.one rfl) (by simp; rfl) ⟨?_, ⟨?_, ?_, ?_, ?_, ?_⟩⟩
    all_goals simp
  obtain ⟨B, k, rfl, hk, hP, _⟩ := blkAt_parts hs hb
  have hBl := (List.getElem?_eq_some_iff.1 hk).1
  have hco : codeG p B = codeL p B := by simp [codeG, hb]
  have hp := hP.sh
  have hh := hp.heads
  rw [hco]
  have hcc := impl_compileBlock_fn gl hgl p hp B k hk
  generalize codeL p B = c at hcc
  have fx := And.intro hv <| hBl
  have c1 := impl_ValidProgram_fn gl p hs
  have c2 := impl_isBlock_fn gl p B
  have e1 := scopesOf_fn gl p hs hh hp.names
  refine k_run ?_
  repeat ((first | refine w_sch (id := 3) (.q 0 <| .q 1 <| .q 3 <| .l 2 [3, 0] <| .l 4 [] <| .l 5 [] <| .done) mixed (by kernel_rfl) (by kernel_rfl) ?_); refine k_rund ?_; refine k_run ?_)
  clear fx c1 c2 e1
  rintro K hK y H' ⟨rfl, hO⟩
  obtain ⟨hc1, hc2⟩ := hO.hcln
  refine ⟨by simp, ?_⟩
  have fx :=  hc1
  have e1 := hcc
  refine k_run ?_
  repeat ((first | refine w_sch (id := 3) (.q 0 <| .q 1 <| .q 3 <| .l 2 [3, 0] <| .l 4 [] <| .l 5 [] <| .done) mixed (by kernel_rfl) (by kernel_rfl) ?_); refine k_rund ?_; refine k_run ?_)
  clear fx e1
  rintro y H'' ⟨rfl, hO⟩
  obtain ⟨o1, o2, o3, o4, o5⟩ := hO.hcln
  refine ⟨by simp, ?_⟩
  have fx := And.intro o1 <| And.intro o2 <| And.intro o3 <| And.intro o4 <| o5
  refine k_run ?_
  repeat ((first | refine w_sch (id := 3) (.q 0 <| .q 1 <| .q 3 <| .l 2 [3, 0] <| .l 4 [] <| .l 5 [] <| .done) mixed (by kernel_rfl) (by kernel_rfl) ?_); refine k_rund ?_; refine k_run ?_)
  clear fx
  refine e_ret [(.s 19, root)] (.one rfl) (by simp; rfl) ⟨?_, ⟨?_, ?_, ?_, ?_, ?_⟩⟩
  all_goals simp [o1, o2, o3, o4, o5]

/-- by how much orders change the stack, by their codes -/
abbrev effectsL : List AV := [iv 0, iv 1, iv 1, iv (-1), iv 0, iv 1, iv (-1), iv 0, iv 1, iv (-1), iv 0, iv 1, iv (-1), iv 0, iv (-1), iv 1, iv 1, iv 0, iv 0, iv (-1), iv (-1)]
theorem EffectOf_fn (gl : Nat → Option (List AV)) (hge : gl 0 = some effectsL) (o : Int × Int) (h : o.1 = 17 → 0 ≤ o.2 ∧ o.2 ≤ 1) : FnOk Tryd.prog gl 80 [.agg [iv o.1, iv o.2]] (fun _ y _ => y = iv (effO o)) := by
  obtain ⟨c, a⟩ := o
  have hw : c = 17 → IntKind.i64.wrap (-a) = -a := fun e => by
    have := h e
    simp only at this
    exact wrp (by omega) (by omega)
  clear h
  refine FnOk.of_sem Tryd.func80 rfl (by kernel_rfl) (rs := [.tmp 2]) rfl Tryd.ntmps80 (Nat.le_of_ble_eq_true rfl) fun C w g root => ?_
  by_cases hin : 0 ≤ c ∧ c ≤ 20
  · obtain ⟨n, rfl⟩ : ∃ n : Nat, c = n := ⟨c.toNat, by omega⟩
    have hn : n < 21 := by omega
    clear hin
    have cases21 : n = 0 ∨ n = 1 ∨ n = 2 ∨ n = 3 ∨ n = 4 ∨ n = 5 ∨ n = 6 ∨ n = 7 ∨ n = 8 ∨ n = 9 ∨ n = 10 ∨ n = 11 ∨ n = 12 ∨ n = 13 ∨ n = 14 ∨ n = 15 ∨ n = 16 ∨ n = 17 ∨ n = 18 ∨ n = 19 ∨ n = 20 := by omega
    rcases cases21 with rfl | rfl | rfl | rfl | rfl | rfl | rfl | rfl | rfl | rfl | rfl | rfl | rfl | rfl | rfl | rfl | rfl | rfl | rfl | rfl | rfl
    all_goals
      have fx := And.intro hge <| hw
      refine k_run ?_
      clear fx
      refine e_ret [] .nil (by simp; rfl) ?_
      simp [effO, hw]
  · have h17 : (c == 17) = false := by
      simp only [beq_eq_false_iff_ne, ne_eq]
      omega
    have he : effO (c, a) = 0 := by
      unfold effO
      rw [if_neg (by simp only; omega), if_neg (by simp only; omega), if_neg (by simp only; omega)]
    rw [he]
    by_cases h0 : c < 0
    · skip
      have fx := And.intro h17 <| h0
      refine k_run ?_
      clear fx
      refine e_ret [] .nil (by simp; rfl) (by simp)
    · have h1 : 21 ≤ c := by omega
      have fx := And.intro h17 <| And.intro h0 <| h1
      refine k_run ?_
      clear fx
      refine e_ret [] .nil (by simp; rfl) (by simp)

theorem impl_HeightsOf_fn (gl : Nat → Option (List AV)) (hgl : gl 1 = some codesL) (hge : gl 0 = some effectsL) (p : Prg) (b : Int) (hs : Sml p) : FnOk Tryd.prog gl 42 [pav p, iv b] (fun r y H' => y = .hs r 1 0 (heightsG p b).length ∧ H' r = some (.row 1 (irows (heightsG p b)))) := by
  have hco : heightsG p b = heightsTo (codeG p b).ops (codeG p b).ops.length ∧ (codeG p b).ops.length ≤ 60 ∧ Lev (codeG p b).ops ∧ ∀ o ∈ (codeG p b).ops, o.1 = 17 → 0 ≤ o.2 ∧ o.2 ≤ 1 := by
    cases hb : blkAt p b
    · have hno : codeG p b = noCode := by simp [codeG, hb]
      rw [hno]
      exact ⟨by simp [heightsG, hb, heightsTo], by simp, .nil, fun o ho => by simp at ho⟩
    · obtain ⟨B, k, rfl, hk, hP, _⟩ := blkAt_parts hs hb
      have h1 : codeG p B = codeL p B := by simp [codeG, hb]
      have hops : (codeL p B).ops = opsL p B := by simp [codeL, hk]
      rw [h1, hops]
      exact ⟨by simp [heightsG, hb, heightsTo_all], opsL_len hP.sh, opsL_lev hP.sh, fun o ho => opsL_call ho⟩
  obtain ⟨hhe, hol, hlev, hcall⟩ := hco
  rw [hhe]
  have hcc := impl_CompileBlock_fn gl hgl p b hs
  clear hhe
  generalize codeG p b = c at *
  refine FnOk.of_sem Tryd.func42 rfl (by kernel_rfl) (rs := [.tmp 4]) rfl Tryd.ntmps42 (Nat.le_of_ble_eq_true rfl) fun C w g root => ?_
  have fx := fx0
  have e1 := hcc
  refine k_run ?_
  clear fx e1
  rintro K hK y H' ⟨rfl, hO⟩
  obtain ⟨o1, o2, o3, o4, o5⟩ := hO.hcln
  refine ⟨by simp, ?_⟩
  have fx := And.intro o1 <| And.intro o2 <| And.intro o3 <| And.intro o4 <| o5
  refine k_run ?_
  clear fx
  refine w_loop (fun n st => ∃ i : Nat, n = c.ops.length - i ∧ i ≤ c.ops.length ∧ st.tm 12 = .hs (.c (.s 11) 0 5) 2 0 c.ops.length ∧ st.hp (.c (.s 11) 0 5) = some (.row 2 (orows c.ops)) ∧ st.tm 13 = iv c.ops.length ∧ st.tm 14 = iv i ∧ st.tm 6 = iv (sumO (c.ops.take i)) ∧ st.tm 5 = .hs (.s 5) 1 0 i ∧ st.hp (.s 5) = some (.row 1 (irows (heightsTo c.ops i)))) c.ops.length ?_ ?_
  · exact ⟨0, by omega, by omega, by simp, by simp [o5], by simp, by simp, by simp [sumO], by simp, by simp [heightsTo]⟩
  rintro n st - - ⟨i, rfl, hi, h12, hp12, h13, h14, h6, h5, hp5⟩
  by_cases hil : i < c.ops.length
  · obtain ⟨o, ho⟩ : ∃ o, c.ops[i]? = some o := ⟨_, List.getElem?_eq_getElem hil⟩
    obtain ⟨_, hoE⟩ := List.getElem?_eq_some_iff.1 ho
    have hst := sumO_take ho
    have hnx := heightsTo_succ (l := c.ops) (n := i)
    have hb1 := lev_bd hlev (i := i + 1) (by omega)
    have hwr : IntKind.i64.wrap (sumO (c.ops.take i) + effO o) = sumO (c.ops.take (i + 1)) := by rw [← hst]; exact wrp (by omega) (by omega)
    have hef := EffectOf_fn gl hge o (hcall o (List.mem_of_getElem? ho))
    have hhl : (heightsTo c.ops i).length = i := heightsTo_len
    generalize heightsTo c.ops i = L at hp5 hnx hhl
    subst hhl
    have fx := And.intro h12 <| And.intro hp12 <| And.intro h13 <| And.intro h14 <| And.intro h6 <| And.intro h5 <| And.intro hp5 <| And.intro ho <| And.intro hoE <| And.intro hil <| And.intro hwr <| hol
    have c1 := hef
    refine k_run ?_
    clear fx c1
    refine ⟨c.ops.length - (L.length + 1), by omega, L.length + 1, rfl, by omega, by simp [h12], by simp [hp12], by simp [h13], by simp; exact wrp (by omega) (by omega), by simp, by simp, ?_⟩
    rw [hnx]
    simp [irows]
  · have hge' : i = c.ops.length := by omega
    subst hge'
    have fx := And.intro h12 <| And.intro hp12 <| And.intro h13 <| And.intro h14 <| And.intro h5 <| And.intro hp5 <| hil
    refine k_run ?_
    clear fx
    exact e_list (t := 4) (by first | (simp [hp5]; done) | (simp [hp5]; rfl)) (by first | (simp [hp5]; done) | (simp [hp5]; rfl)) (by simp)

theorem lineAt_fn (gl) (l : List (Int × Int)) (A : Nat) (hA : A < l.length) (hl : l.length ≤ 1000) : FnOk Tryd.prog gl 73 [osl l, iv A] (fun _ y _ => y = iv ((ticks (l.take (A + 1)) : Int) - 1)) := by
  have hw : IntKind.i64.wrap ((A : Int) + 1) = ((A + 1 : Nat) : Int) := by rw [wrp (by omega) (by omega)]; rfl
  have hA1 : A + 1 ≤ l.length := by omega
  have hmin : min (A + 1) l.length = A + 1 := Nat.min_eq_left hA1
  generalize hB : A + 1 = B at hw hA1 hmin
  refine FnOk.of_sem Tryd.func73 rfl (by kernel_rfl) (rs := [.tmp 4]) rfl Tryd.ntmps73 (Nat.le_of_ble_eq_true rfl) fun C w g root => ?_
  have fx := And.intro hw <| And.intro hA1 <| hmin
  refine k_run ?_
  clear fx
  refine w_loop (fun n st => ∃ i : Nat, n = B - i ∧ i ≤ B ∧ st.tm 11 = osl (l.take B) ∧ st.tm 12 = iv B ∧ st.tm 13 = iv i ∧ st.tm 5 = iv ((ticks (l.take i) : Int) - 1)) B ?_ ?_
  · exact ⟨0, by omega, by omega, by simp, by simp [hmin], by simp, by simp [ticks]⟩
  rintro n st - - ⟨i, rfl, hi, h11, h12, h13, h5⟩
  by_cases hil : i < B
  · have hil2 : i < l.length := by omega
    obtain ⟨o, ho⟩ : ∃ o, l[i]? = some o := ⟨_, List.getElem?_eq_getElem hil2⟩
    have ho2 : (l.take B)[i]? = some o := by rw [List.getElem?_take, if_pos hil, ho]
    obtain ⟨hoL, hoE⟩ := List.getElem?_eq_some_iff.1 ho2
    have htk := ticks_take ho
    have htl : ticks (l.take i) ≤ i := Nat.le_trans ticks_le (by simp; omega)
    have hLl : (l.take B).length = B := by simp; omega
    generalize l.take B = L at h11 ho2 hoL hoE hLl ⊢
    generalize ticks (l.take i) = T at h5 htk htl
    have hwT : IntKind.i64.wrap ((T : Int) - 1 + 1) = (T : Int) := by
      rw [show (T : Int) - 1 + 1 = T by omega]
      exact wrp (by omega) (by omega)
    cases ho0 : (o.1 == 0)
    · have e0 : ¬ o.1 = 0 := by simpa using ho0
      have fx := And.intro h11 <| And.intro h12 <| And.intro h13 <| And.intro h5 <| And.intro ho2 <| And.intro hoE <| And.intro hoL <| And.intro hil <| ho0
      refine k_run ?_
      clear fx
      exact ⟨B - (i + 1), by omega, i + 1, rfl, by omega, by simp [h11], by simp [h12], by simp; exact wrp (by omega) (by omega), by simp [htk, e0, h5]⟩
    · have e0 : o.1 = 0 := by simpa using ho0
      have e1 : ((T + 1 : Nat) : Int) - 1 = T := by omega
      have hwT' : IntKind.i64.wrap (T : Int) = (T : Int) := wrp (by omega) (by omega)
      have fx := And.intro h11 <| And.intro h12 <| And.intro h13 <| And.intro h5 <| And.intro ho2 <| And.intro hoE <| And.intro hoL <| And.intro hil <| And.intro ho0 <| hwT
      refine k_run ?_
      clear fx
      refine ⟨B - (i + 1), by omega, i + 1, rfl, by omega, by simp [h11], by simp [h12], by simp; exact wrp (by omega) (by omega), ?_⟩
      rw [htk, if_pos e0, e1]
      simp [hwT']
  · have hge : i = B := by omega
    have fx := And.intro h11 <| And.intro h12 <| And.intro h13 <| And.intro h5 <| hil
    refine k_run ?_
    clear fx
    refine e_ret [] .nil (by simp; rfl) ?_
    rw [← hge]
    simp

theorem lineL_nil {a : Int} : lineL [] a = -1 := by
  unfold lineL
  rw [if_neg]
  simp
theorem impl_LineOf_fn (gl : Nat → Option (List AV)) (hgl : gl 1 = some codesL) (p : Prg) (b at' : Int) (hs : Sml p) : FnOk Tryd.prog gl 33 [pav p, iv b, iv at'] (fun _ y _ => y = iv (lineG p b at')) := by
  have hco : lineG p b at' = lineL (codeG p b).ops at' ∧ (codeG p b).ops.length ≤ 60 := by
    cases hb : blkAt p b
    · have hno : codeG p b = noCode := by simp [codeG, hb]
      have h1 : lineG p b at' = -1 := by simp [lineG, hb]
      rw [hno, h1]
      exact ⟨by rw [noCode_ops, lineL_nil], by simp⟩
    · obtain ⟨B, k, rfl, hk, hP, _⟩ := blkAt_parts hs hb
      have h1 : codeG p B = codeL p B := by simp [codeG, hb]
      have hops : (codeL p B).ops = opsL p B := by simp [codeL, hk]
      rw [h1, hops]
      exact ⟨by simp [lineG, hb], opsL_len hP.sh⟩
  obtain ⟨hhe, hol⟩ := hco
  rw [hhe]
  have hcc := impl_CompileBlock_fn gl hgl p b hs
  clear hhe
  generalize codeG p b = c at *
  refine FnOk.of_sem Tryd.func33 rfl (by kernel_rfl) (rs := [.tmp 6]) rfl Tryd.ntmps33 (Nat.le_of_ble_eq_true rfl) fun C w g root => ?_
  by_cases h0 : at' < 0
  · have hno : lineL c.ops at' = -1 := by
      unfold lineL
      rw [if_neg (by omega)]
    rw [hno]
    have fx := fx0
    have e1 := hcc
    refine k_run ?_
    clear fx e1
    rintro K hK y H' ⟨rfl, hO⟩
    obtain ⟨o1, o2, o3, o4, o5⟩ := hO.hcln
    refine ⟨by simp, ?_⟩
    have fx := And.intro o1 <| And.intro o2 <| And.intro o3 <| And.intro o4 <| And.intro o5 <| h0
    refine k_run ?_
    clear fx
    refine e_ret [] .nil (by simp; rfl) (by simp)
  obtain ⟨A, rfl⟩ : ∃ A : Nat, at' = A := ⟨at'.toNat, by omega⟩
  have hA0 : (A : Int) < 0 ↔ False := ⟨fun h => by omega, fun h => h.elim⟩
  by_cases hA : c.ops.length ≤ A
  · have hno : lineL c.ops A = -1 := by
      unfold lineL
      rw [if_neg (by omega)]
    rw [hno]
    have fx := fx0
    have e1 := hcc
    refine k_run ?_
    clear fx e1
    rintro K hK y H' ⟨rfl, hO⟩
    obtain ⟨o1, o2, o3, o4, o5⟩ := hO.hcln
    refine ⟨by simp, ?_⟩
    have fx := And.intro o1 <| And.intro o2 <| And.intro o3 <| And.intro o4 <| And.intro o5 <| And.intro hA <| hA0
    refine k_run ?_
    clear fx
    refine e_ret [] .nil (by simp; rfl) (by simp)
  have hyes : lineL c.ops A = (ticks (c.ops.take (A + 1)) : Int) - 1 := by
    unfold lineL
    rw [if_pos (by omega)]
    rfl
  rw [hyes]
  have hla := lineAt_fn gl c.ops A (by omega) (by omega)
  have fx := fx0
  have e1 := hcc
  refine k_run ?_
  clear fx e1
  rintro K hK y H' ⟨rfl, hO⟩
  obtain ⟨o1, o2, o3, o4, o5⟩ := hO.hcln
  refine ⟨by simp, ?_⟩
  have fx := And.intro o1 <| And.intro o2 <| And.intro o3 <| And.intro o4 <| And.intro o5 <| And.intro hA <| hA0
  have c1 := hla
  refine k_run ?_
  clear fx c1
  refine e_ret [] .nil (by simp; rfl) (by simp)
end Go.Proofs.YtmpbjmihjelhgaaDoor
end

section
/-
  Functions of the laws on codes: what they return; the law that all blocks are compiled.
-/
set_option maxRecDepth 100000
set_option maxHeartbeats 4000000
set_option linter.unusedSimpArgs false
namespace Go.Proofs.YtmpbjmihjelhgaaDoor
open Go Go.Hm Go.Proofs

theorem equalOps_fn (gl) (l : List (Int × Int)) (hl : l.length ≤ 1048576) : FnOk Tryd.prog gl 79 [osl l, osl l] (fun _ z _ => z = bv true) := by
  refine FnOk.of_sem Tryd.func79 rfl (by kernel_rfl) (rs := [.tmp 4]) rfl Tryd.ntmps79 (Nat.le_of_ble_eq_true rfl) fun C w g root => ?_
  have fx :=  @bne_def
  refine k_run ?_
  repeat ((first | refine w_sch (id := 6) (.q 0 <| .q 1 <| .q 2 <| .q 3 <| .q 4 <| .q 5 <| .q 6 <| .q 7 <| .q 8 <| .done) mixed (by kernel_rfl) (by kernel_rfl) ?_); refine k_rund ?_; refine k_run ?_)
  clear fx
  refine w_loop (fun n st => ∃ i : Nat, n = l.length - i ∧ i ≤ l.length ∧ st.tm 0 = osl l ∧ st.tm 1 = osl l ∧ st.tm 5 = iv i) l.length ⟨0, by simp⟩ ?_
  rintro n st - - ⟨i, rfl, hi, h0, h1, h5⟩
  by_cases hil : i < l.length
  · obtain ⟨o, ho⟩ : ∃ o, l[i]? = some o := ⟨_, List.getElem?_eq_getElem hil⟩
    obtain ⟨_, hoE⟩ := List.getElem?_eq_some_iff.1 ho
    have fx := And.intro h0 <| And.intro h1 <| And.intro h5 <| And.intro hil <| And.intro ho <| And.intro hoE <| @bne_def
    refine k_run ?_
    repeat ((first | refine w_sch (id := 6) (.q 0 <| .q 1 <| .q 2 <| .q 3 <| .q 4 <| .q 5 <| .q 6 <| .q 7 <| .q 8 <| .done) mixed (by kernel_rfl) (by kernel_rfl) ?_); refine k_rund ?_; refine k_run ?_)
    clear fx
    exact ⟨l.length - (i + 1), by omega, i + 1, rfl, by omega, by simp [h0], by simp [h1], by simp; exact wrp (by omega) (by omega)⟩
  · skip
    have fx := And.intro h0 <| And.intro h1 <| And.intro h5 <| hil
    refine k_run ?_
    repeat ((first | refine w_sch (id := 6) (.q 0 <| .q 1 <| .q 2 <| .q 3 <| .q 4 <| .q 5 <| .q 6 <| .q 7 <| .q 8 <| .done) mixed (by kernel_rfl) (by kernel_rfl) ?_); refine k_rund ?_; refine k_run ?_)
    clear fx
    refine e_ret [] .nil (by simp; rfl) (by simp)
theorem equalCode_fn (gl) (c : Cod) (h : KSm c) : FnOk Tryd.prog gl 38 [c.av, c.av] (fun _ z _ => z = bv true) := by
  refine FnOk.of_sem Tryd.func38 rfl (by kernel_rfl) (rs := [.tmp 4]) rfl Tryd.ntmps38 (Nat.le_of_ble_eq_true rfl) fun C w g root => ?_
  have fx :=  @bne_def
  have c1 := equalInts_fn gl c.params c.params h.params h.params
  have c2 := equalInts_fn gl c.fasts c.fasts h.fasts h.fasts
  have c3 := equalInts_fn gl c.cells c.cells h.cells h.cells
  have c4 := equalInts_fn gl c.frees c.frees h.frees h.frees
  refine k_run ?_
  clear fx c1 c2 c3 c4
  intro K hK
  have fx :=  @bne_def
  have c1 := equalOps_fn gl c.ops h.ops
  refine k_run ?_
  clear fx c1
  refine e_ret [] .nil (by simp; rfl) (by simp)
end Go.Proofs.YtmpbjmihjelhgaaDoor
end
