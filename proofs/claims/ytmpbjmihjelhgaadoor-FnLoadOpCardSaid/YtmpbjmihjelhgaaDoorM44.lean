/-
  Own texts, joined by mkclaim.py: Kw, Kx.
-/
import Derived.Test.YtmpbjmihjelhgaaDoorM32
import Derived.Test.YtmpbjmihjelhgaaDoorM27
import Derived.Test.YtmpbjmihjelhgaaDoorM25
set_option linter.unusedSimpArgs false
set_option linter.unusedVariables false

section
/-
  The program's FastsOf, CellsOf, FreesOf and SymbolOf of valid programs, and join: what they are.
-/
set_option maxRecDepth 100000
set_option maxHeartbeats 2000000
set_option linter.unusedSimpArgs false
namespace Go.Proofs.YtmpbjmihjelhgaaDoor
open Go Go.Hm Go.Proofs

theorem FastsOf_fn (gl) (p : Prg) (b : Nat) (k : Blk) (hk : p[b]? = some k) (hs : Sml p) (hv : progOk p = true) : FnOk Tryd.prog gl 26 [pav p, iv b] (fun r y H' => y = .hs r 1 0 (fastsL p b).length ∧ H' r = some (.row 1 (irows (fastsL p b)))) := by
  have hbl := (List.getElem?_eq_some_iff.1 hk).1
  have hp := (lookP_of hs hv).sh
  have hh := hp.heads
  refine FnOk.of_sem Tryd.func26 rfl (by kernel_rfl) (rs := [.tmp 4]) rfl Tryd.ntmps26 (Nat.le_of_ble_eq_true rfl) fun C w g root => ?_
  have fx := And.intro hv <| hbl
  have c1 := impl_ValidProgram_fn gl p hs
  have c2 := impl_isBlock_fn gl p b
  have e1 := scopesOf_fn gl p hs hh hp.names
  refine k_run ?_
  clear fx c1 c2 e1
  rintro K hK y H' ⟨rfl, hO⟩
  obtain ⟨hc1, hc2⟩ := hO.hcln
  refine ⟨by simp, ?_⟩
  have fx :=  hc1
  have d1 := fastsOfA_fn gl p hp b k hk
  refine k_run ?_
  clear fx d1
  exact e_list (t := 4) (by first | (simp []; done) | (simp []; rfl)) (by first | (simp []; done) | (simp []; rfl)) (by simp)
theorem CellsOf_fn (gl) (p : Prg) (b : Nat) (k : Blk) (hk : p[b]? = some k) (hs : Sml p) (hv : progOk p = true) : FnOk Tryd.prog gl 28 [pav p, iv b] (fun r y H' => y = .hs r 1 0 (cellsL p b).length ∧ H' r = some (.row 1 (irows (cellsL p b)))) := by
  have hbl := (List.getElem?_eq_some_iff.1 hk).1
  have hp := (lookP_of hs hv).sh
  have hh := hp.heads
  refine FnOk.of_sem Tryd.func28 rfl (by kernel_rfl) (rs := [.tmp 4]) rfl Tryd.ntmps28 (Nat.le_of_ble_eq_true rfl) fun C w g root => ?_
  have fx := And.intro hv <| hbl
  have c1 := impl_ValidProgram_fn gl p hs
  have c2 := impl_isBlock_fn gl p b
  have e1 := scopesOf_fn gl p hs hh hp.names
  refine k_run ?_
  clear fx c1 c2 e1
  rintro K hK y H' ⟨rfl, hO⟩
  obtain ⟨hc1, hc2⟩ := hO.hcln
  refine ⟨by simp, ?_⟩
  have fx :=  hc1
  have c1 := cellSet_fn gl p hp b k hk
  have d1 := cellsList_fn gl p b
  refine k_run ?_
  clear fx c1 d1
  exact e_list (t := 4) (by first | (simp []; done) | (simp []; rfl)) (by first | (simp []; done) | (simp []; rfl)) (by simp)
theorem FreesOf_fn (gl) (p : Prg) (b : Nat) (k : Blk) (hk : p[b]? = some k) (hs : Sml p) (hv : progOk p = true) : FnOk Tryd.prog gl 29 [pav p, iv b] (fun r y H' => y = .hs r 1 0 (freesL p b).length ∧ H' r = some (.row 1 (irows (freesL p b)))) := by
  have hbl := (List.getElem?_eq_some_iff.1 hk).1
  have hp := (lookP_of hs hv).sh
  have hh := hp.heads
  refine FnOk.of_sem Tryd.func29 rfl (by kernel_rfl) (rs := [.tmp 4]) rfl Tryd.ntmps29 (Nat.le_of_ble_eq_true rfl) fun C w g root => ?_
  have fx := And.intro hv <| hbl
  have c1 := impl_ValidProgram_fn gl p hs
  have c2 := impl_isBlock_fn gl p b
  have e1 := scopesOf_fn gl p hs hh hp.names
  refine k_run ?_
  clear fx c1 c2 e1
  rintro K hK y H' ⟨rfl, hO⟩
  obtain ⟨hc1, hc2⟩ := hO.hcln
  refine ⟨by simp, ?_⟩
  have fx :=  hc1
  have d1 := freesOf_fn gl p hp b hbl
  refine k_run ?_
  clear fx d1
  exact e_list (t := 4) (by first | (simp []; done) | (simp []; rfl)) (by first | (simp []; done) | (simp []; rfl)) (by simp)
theorem SymbolOf_fn (gl) (p : Prg) (b x : Nat) (k : Blk) (hk : p[b]? = some k) (hs : Sml p) (hv : progOk p = true) (hx : x < 8) : FnOk Tryd.prog gl 25 [pav p, iv b, iv x] (fun _ y _ => y = iv (symOf p b x)) := by
  have hbl := (List.getElem?_eq_some_iff.1 hk).1
  have hp := (lookP_of hs hv).sh
  have hh := hp.heads
  have hx7 : x ≤ 7 := by omega
  have hx7i : (x : Int) ≤ 7 := by omega
  refine FnOk.of_sem Tryd.func25 rfl (by kernel_rfl) (rs := [.tmp 6]) rfl Tryd.ntmps25 (Nat.le_of_ble_eq_true rfl) fun C w g root => ?_
  have fx := And.intro hv <| And.intro hbl <| And.intro hx7 <| hx7i
  have c1 := impl_ValidProgram_fn gl p hs
  have c2 := impl_isBlock_fn gl p b
  have c3 := impl_isName_fn gl x
  have e1 := scopesOf_fn gl p hs hh hp.names
  refine k_run ?_
  clear fx c1 c2 c3 e1
  rintro K hK y H' ⟨rfl, hO⟩
  obtain ⟨hc1, hc2⟩ := hO.hcln
  refine ⟨by simp, ?_⟩
  have fx :=  hc1
  have c1 := symbolOf_fn gl p hp b k hk x hx
  refine k_run ?_
  clear fx c1
  refine e_ret [] .nil (by simp; rfl) (by simp)
theorem join_fn (gl) (xs ys : List Int) (hx : xs.length ≤ 1048576) (hy : ys.length ≤ 1048576) : FnOk Tryd.prog gl 27 [isl xs, isl ys] (fun r y H' => y = .hs r 1 0 (xs ++ ys).length ∧ H' r = some (.row 1 (irows (xs ++ ys)))) := by
  refine FnOk.of_sem Tryd.func27 rfl (by kernel_rfl) (rs := [.tmp 4]) rfl Tryd.ntmps27 (Nat.le_of_ble_eq_true rfl) fun C w g root => ?_
  have fx := And.intro hx <| hy
  refine k_run ?_
  clear fx
  refine e_list (t := 4) ?_ ?_ ?_
  all_goals simp
end Go.Proofs.YtmpbjmihjelhgaaDoor
end

section
/-
  The law that names are loaded from where they are.
-/
set_option maxRecDepth 100000
set_option maxHeartbeats 4000000
set_option linter.unusedSimpArgs false
namespace Go.Proofs.YtmpbjmihjelhgaaDoor
open Go Go.Hm Go.Proofs

theorem spec_LoadOp_fn (gl) (p : Prg) (b x : Int) (hs : Sml p) : FnOk Tryd.prog gl 24 [pav p, iv b, iv x] (fun _ y _ => y = .agg [iv (opG p b x 0).1, iv (opG p b x 0).2]) := by
  refine FnOk.of_sem Tryd.func24 rfl (by kernel_rfl) (rs := [.cell 6 29]) rfl Tryd.ntmps24 (Nat.le_of_ble_eq_true rfl) fun C w g root => ?_
  cases hu : usedOk p b x
  · skip
    have fx :=  hu
    have c1 := validUsed_fn gl p b x hs
    refine k_run ?_
    clear fx c1
    refine e_ret [] .nil (by simp; rfl) ?_
    simp [opG, hu]
  obtain ⟨B, k, rfl, hk, hP⟩ := usedOk_parts hs hu
  have fx :=  hu
  have c1 := validUsed_fn gl p B x hs
  have c2 := nameOp_fn gl p B k x 0 hk hP (by decide) (by decide)
  refine k_run ?_
  clear fx c1 c2
  refine e_ret [] .nil (by simp; rfl) ?_
  simp [opG, hu]

theorem FnLoadOp_fn (gl : Nat → Option (List AV)) (hgl : gl 1 = some codesL) (code : List Int) (hcode : ∀ v ∈ code, 0 ≤ v ∧ v ≤ 255) (hbig : code.length ≤ 1152921504606846976) :
    FnOk Tryd.prog gl 5 [bsl code] (fun _ z _ => z = bv true) := by
  refine FnOk.of_sem Tryd.func5 rfl (by kernel_rfl) (rs := [.tmp 2]) rfl Tryd.ntmps5 (Nat.le_of_ble_eq_true rfl) fun C w g root => ?_
  by_cases hlen : 1048576 < code.length
  · have hl1 : (1048576 : Int) < code.length := by omega
    have fx :=  hl1
    refine k_run ?_
    repeat ((first | refine w_sch (id := 5) (.q 0 <| .q 1 <| .q 2 <| .q 3 <| .l 4 [0] <| .l 5 [] <| .q 6 <| .q 7 <| .q 8 <| .l 9 [6] <| .q 10 <| .q 11 <| .q 12 <| .q 13 <| .q 14 <| .q 15 <| .q 16 <| .q 17 <| .q 18 <| .q 19 <| .q 20 <| .q 21 <| .q 22 <| .q 23 <| .q 24 <| .q 25 <| .q 27 <| .l 26 [27, 22, 21, 20, 19, 18, 17, 16, 15, 14, 13, 12, 11, 10, 6] <| .l 28 [22, 21, 20, 19, 18, 17, 16, 15, 14, 13, 12, 11, 10, 6] <| .q 29 <| .q 30 <| .done) mixed (by kernel_rfl) (by kernel_rfl) ?_ | refine w_sch (id := 6) (.q 0 <| .q 1 <| .q 2 <| .q 3 <| .l 4 [0] <| .l 5 [] <| .l 6 [] <| .done) mixed (by kernel_rfl) (by kernel_rfl) ?_ | refine w_sch (id := 14) (.q 0 <| .q 1 <| .q 2 <| .q 3 <| .q 4 <| .q 5 <| .q 7 <| .q 8 <| .q 11 <| .l 6 [11, 8, 7, 2, 1, 0] <| .q 9 <| .q 10 <| .q 12 <| .q 13 <| .l 14 [] <| .done) mixed (by kernel_rfl) (by kernel_rfl) ?_ | refine w_sch (id := 15) (.q 0 <| .q 1 <| .q 3 <| .q 4 <| .l 2 [4, 3] <| .l 5 [] <| .l 6 [] <| .l 7 [] <| .done) mixed (by kernel_rfl) (by kernel_rfl) ?_ | refine w_sch (id := 16) (.q 0 <| .q 1 <| .q 2 <| .q 3 <| .q 4 <| .q 5 <| .q 6 <| .q 7 <| .q 8 <| .q 9 <| .q 10 <| .q 11 <| .q 12 <| .q 13 <| .q 14 <| .q 15 <| .q 16 <| .q 20 <| .q 21 <| .l 17 [21, 20, 14, 13, 11, 10, 9, 8, 7, 6, 5, 4, 3, 2, 1, 0] <| .q 18 <| .q 19 <| .q 22 <| .q 23 <| .l 24 [] <| .done) mixed (by kernel_rfl) (by kernel_rfl) ?_); refine k_rund ?_; refine k_run ?_)
    clear fx
    refine e_ret [] .nil (by simp; rfl) (by simp)
  have hl1 : ¬ (1048576 : Int) < code.length := by omega
  have hc : CodeOk code := ⟨by omega, hcode⟩
  have fx :=  hl1
  have e1 := DrawLoadOp_fn gl code hc
  refine k_run ?_
  repeat ((first | refine w_sch (id := 5) (.q 0 <| .q 1 <| .q 2 <| .q 3 <| .l 4 [0] <| .l 5 [] <| .q 6 <| .q 7 <| .q 8 <| .l 9 [6] <| .q 10 <| .q 11 <| .q 12 <| .q 13 <| .q 14 <| .q 15 <| .q 16 <| .q 17 <| .q 18 <| .q 19 <| .q 20 <| .q 21 <| .q 22 <| .q 23 <| .q 24 <| .q 25 <| .q 27 <| .l 26 [27, 22, 21, 20, 19, 18, 17, 16, 15, 14, 13, 12, 11, 10, 6] <| .l 28 [22, 21, 20, 19, 18, 17, 16, 15, 14, 13, 12, 11, 10, 6] <| .q 29 <| .q 30 <| .done) mixed (by kernel_rfl) (by kernel_rfl) ?_ | refine w_sch (id := 6) (.q 0 <| .q 1 <| .q 2 <| .q 3 <| .l 4 [0] <| .l 5 [] <| .l 6 [] <| .done) mixed (by kernel_rfl) (by kernel_rfl) ?_ | refine w_sch (id := 14) (.q 0 <| .q 1 <| .q 2 <| .q 3 <| .q 4 <| .q 5 <| .q 7 <| .q 8 <| .q 11 <| .l 6 [11, 8, 7, 2, 1, 0] <| .q 9 <| .q 10 <| .q 12 <| .q 13 <| .l 14 [] <| .done) mixed (by kernel_rfl) (by kernel_rfl) ?_ | refine w_sch (id := 15) (.q 0 <| .q 1 <| .q 3 <| .q 4 <| .l 2 [4, 3] <| .l 5 [] <| .l 6 [] <| .l 7 [] <| .done) mixed (by kernel_rfl) (by kernel_rfl) ?_ | refine w_sch (id := 16) (.q 0 <| .q 1 <| .q 2 <| .q 3 <| .q 4 <| .q 5 <| .q 6 <| .q 7 <| .q 8 <| .q 9 <| .q 10 <| .q 11 <| .q 12 <| .q 13 <| .q 14 <| .q 15 <| .q 16 <| .q 20 <| .q 21 <| .l 17 [21, 20, 14, 13, 11, 10, 9, 8, 7, 6, 5, 4, 3, 2, 1, 0] <| .q 18 <| .q 19 <| .q 22 <| .q 23 <| .l 24 [] <| .done) mixed (by kernel_rfl) (by kernel_rfl) ?_); refine k_rund ?_; refine k_run ?_)
  clear fx e1
  rintro K hK z H1 ⟨p, b, x, rfl, hO, hs⟩
  obtain ⟨ho1, ho2, ho3⟩ := hO.hcln
  refine ⟨by simp, ?_⟩
  have fx :=  ho1
  refine k_run ?_
  repeat ((first | refine w_sch (id := 5) (.q 0 <| .q 1 <| .q 2 <| .q 3 <| .l 4 [0] <| .l 5 [] <| .q 6 <| .q 7 <| .q 8 <| .l 9 [6] <| .q 10 <| .q 11 <| .q 12 <| .q 13 <| .q 14 <| .q 15 <| .q 16 <| .q 17 <| .q 18 <| .q 19 <| .q 20 <| .q 21 <| .q 22 <| .q 23 <| .q 24 <| .q 25 <| .q 27 <| .l 26 [27, 22, 21, 20, 19, 18, 17, 16, 15, 14, 13, 12, 11, 10, 6] <| .l 28 [22, 21, 20, 19, 18, 17, 16, 15, 14, 13, 12, 11, 10, 6] <| .q 29 <| .q 30 <| .done) mixed (by kernel_rfl) (by kernel_rfl) ?_ | refine w_sch (id := 6) (.q 0 <| .q 1 <| .q 2 <| .q 3 <| .l 4 [0] <| .l 5 [] <| .l 6 [] <| .done) mixed (by kernel_rfl) (by kernel_rfl) ?_ | refine w_sch (id := 14) (.q 0 <| .q 1 <| .q 2 <| .q 3 <| .q 4 <| .q 5 <| .q 7 <| .q 8 <| .q 11 <| .l 6 [11, 8, 7, 2, 1, 0] <| .q 9 <| .q 10 <| .q 12 <| .q 13 <| .l 14 [] <| .done) mixed (by kernel_rfl) (by kernel_rfl) ?_ | refine w_sch (id := 15) (.q 0 <| .q 1 <| .q 3 <| .q 4 <| .l 2 [4, 3] <| .l 5 [] <| .l 6 [] <| .l 7 [] <| .done) mixed (by kernel_rfl) (by kernel_rfl) ?_ | refine w_sch (id := 16) (.q 0 <| .q 1 <| .q 2 <| .q 3 <| .q 4 <| .q 5 <| .q 6 <| .q 7 <| .q 8 <| .q 9 <| .q 10 <| .q 11 <| .q 12 <| .q 13 <| .q 14 <| .q 15 <| .q 16 <| .q 20 <| .q 21 <| .l 17 [21, 20, 14, 13, 11, 10, 9, 8, 7, 6, 5, 4, 3, 2, 1, 0] <| .q 18 <| .q 19 <| .q 22 <| .q 23 <| .l 24 [] <| .done) mixed (by kernel_rfl) (by kernel_rfl) ?_); refine k_rund ?_; refine k_run ?_)
  clear fx
  intro K hK
  refine o_abs (fun st => BoxP st 3 p ∧ st.tm 4 = iv b ∧ st.tm 5 = iv x ∧ st.tm 18 = .agg [.hs (.c (.s 3) 0 0) 4 0 p.length] ∧ st.tm 19 = iv b ∧ st.tm 20 = iv x) ⟨⟨by simp, by simp, ⟨by simp [ho1], fun j r hj => by simp [ho2 j r hj], fun j r hj => by simp [ho3 j r hj]⟩⟩, by simp, by simp, by simp, by simp, by simp⟩ ?_
  clear hO ho1 ho2 ho3
  rintro st ⟨⟨h3, hp3, ⟨a1, a2, a3⟩⟩, h4, h5, h18, h19, h20⟩
  have hpl := hs.len
  have hlo := impl_LoadOp_fn gl hgl p b x hs
  have hso := spec_LoadOp_fn gl p b x hs
  have hvp := impl_ValidProgram_fn gl p hs
  cases hv : progOk p
  · rw [hv] at hvp
    generalize opG p b x 0 = o at hlo hso
    have fx := And.intro h3 <| And.intro hp3 <| And.intro h4 <| And.intro h5 <| And.intro h18 <| And.intro h19 <| And.intro h20 <| @bne_def
    have c1 := hlo
    have c2 := hso
    have c3 := equalOp_fn gl o.1 o.2
    have c4 := hvp
    refine k_run ?_
    repeat ((first | refine w_sch (id := 5) (.q 0 <| .q 1 <| .q 2 <| .q 3 <| .l 4 [0] <| .l 5 [] <| .q 6 <| .q 7 <| .q 8 <| .l 9 [6] <| .q 10 <| .q 11 <| .q 12 <| .q 13 <| .q 14 <| .q 15 <| .q 16 <| .q 17 <| .q 18 <| .q 19 <| .q 20 <| .q 21 <| .q 22 <| .q 23 <| .q 24 <| .q 25 <| .q 27 <| .l 26 [27, 22, 21, 20, 19, 18, 17, 16, 15, 14, 13, 12, 11, 10, 6] <| .l 28 [22, 21, 20, 19, 18, 17, 16, 15, 14, 13, 12, 11, 10, 6] <| .q 29 <| .q 30 <| .done) mixed (by kernel_rfl) (by kernel_rfl) ?_ | refine w_sch (id := 6) (.q 0 <| .q 1 <| .q 2 <| .q 3 <| .l 4 [0] <| .l 5 [] <| .l 6 [] <| .done) mixed (by kernel_rfl) (by kernel_rfl) ?_ | refine w_sch (id := 14) (.q 0 <| .q 1 <| .q 2 <| .q 3 <| .q 4 <| .q 5 <| .q 7 <| .q 8 <| .q 11 <| .l 6 [11, 8, 7, 2, 1, 0] <| .q 9 <| .q 10 <| .q 12 <| .q 13 <| .l 14 [] <| .done) mixed (by kernel_rfl) (by kernel_rfl) ?_ | refine w_sch (id := 15) (.q 0 <| .q 1 <| .q 3 <| .q 4 <| .l 2 [4, 3] <| .l 5 [] <| .l 6 [] <| .l 7 [] <| .done) mixed (by kernel_rfl) (by kernel_rfl) ?_ | refine w_sch (id := 16) (.q 0 <| .q 1 <| .q 2 <| .q 3 <| .q 4 <| .q 5 <| .q 6 <| .q 7 <| .q 8 <| .q 9 <| .q 10 <| .q 11 <| .q 12 <| .q 13 <| .q 14 <| .q 15 <| .q 16 <| .q 20 <| .q 21 <| .l 17 [21, 20, 14, 13, 11, 10, 9, 8, 7, 6, 5, 4, 3, 2, 1, 0] <| .q 18 <| .q 19 <| .q 22 <| .q 23 <| .l 24 [] <| .done) mixed (by kernel_rfl) (by kernel_rfl) ?_); refine k_rund ?_; refine k_run ?_)
    clear fx c1 c2 c3 c4
    refine e_ret [] .nil (by simp; rfl) (by simp)
  rw [hv] at hvp
  by_cases hb0 : b < 0
  · generalize opG p b x 0 = o at hlo hso
    have fx := And.intro h3 <| And.intro hp3 <| And.intro h4 <| And.intro h5 <| And.intro h18 <| And.intro h19 <| And.intro h20 <| And.intro hb0 <| @bne_def
    have c1 := hlo
    have c2 := hso
    have c3 := equalOp_fn gl o.1 o.2
    have c4 := hvp
    refine k_run ?_
    repeat ((first | refine w_sch (id := 5) (.q 0 <| .q 1 <| .q 2 <| .q 3 <| .l 4 [0] <| .l 5 [] <| .q 6 <| .q 7 <| .q 8 <| .l 9 [6] <| .q 10 <| .q 11 <| .q 12 <| .q 13 <| .q 14 <| .q 15 <| .q 16 <| .q 17 <| .q 18 <| .q 19 <| .q 20 <| .q 21 <| .q 22 <| .q 23 <| .q 24 <| .q 25 <| .q 27 <| .l 26 [27, 22, 21, 20, 19, 18, 17, 16, 15, 14, 13, 12, 11, 10, 6] <| .l 28 [22, 21, 20, 19, 18, 17, 16, 15, 14, 13, 12, 11, 10, 6] <| .q 29 <| .q 30 <| .done) mixed (by kernel_rfl) (by kernel_rfl) ?_ | refine w_sch (id := 6) (.q 0 <| .q 1 <| .q 2 <| .q 3 <| .l 4 [0] <| .l 5 [] <| .l 6 [] <| .done) mixed (by kernel_rfl) (by kernel_rfl) ?_ | refine w_sch (id := 14) (.q 0 <| .q 1 <| .q 2 <| .q 3 <| .q 4 <| .q 5 <| .q 7 <| .q 8 <| .q 11 <| .l 6 [11, 8, 7, 2, 1, 0] <| .q 9 <| .q 10 <| .q 12 <| .q 13 <| .l 14 [] <| .done) mixed (by kernel_rfl) (by kernel_rfl) ?_ | refine w_sch (id := 15) (.q 0 <| .q 1 <| .q 3 <| .q 4 <| .l 2 [4, 3] <| .l 5 [] <| .l 6 [] <| .l 7 [] <| .done) mixed (by kernel_rfl) (by kernel_rfl) ?_ | refine w_sch (id := 16) (.q 0 <| .q 1 <| .q 2 <| .q 3 <| .q 4 <| .q 5 <| .q 6 <| .q 7 <| .q 8 <| .q 9 <| .q 10 <| .q 11 <| .q 12 <| .q 13 <| .q 14 <| .q 15 <| .q 16 <| .q 20 <| .q 21 <| .l 17 [21, 20, 14, 13, 11, 10, 9, 8, 7, 6, 5, 4, 3, 2, 1, 0] <| .q 18 <| .q 19 <| .q 22 <| .q 23 <| .l 24 [] <| .done) mixed (by kernel_rfl) (by kernel_rfl) ?_); refine k_rund ?_; refine k_run ?_)
    clear fx c1 c2 c3 c4
    refine e_ret [] .nil (by simp; rfl) (by simp)
  by_cases hbl : (p.length : Int) ≤ b
  · generalize opG p b x 0 = o at hlo hso
    have fx := And.intro h3 <| And.intro hp3 <| And.intro h4 <| And.intro h5 <| And.intro h18 <| And.intro h19 <| And.intro h20 <| And.intro hb0 <| And.intro hbl <| And.intro a1 <| @bne_def
    have c1 := hlo
    have c2 := hso
    have c3 := equalOp_fn gl o.1 o.2
    have c4 := hvp
    refine k_run ?_
    repeat ((first | refine w_sch (id := 5) (.q 0 <| .q 1 <| .q 2 <| .q 3 <| .l 4 [0] <| .l 5 [] <| .q 6 <| .q 7 <| .q 8 <| .l 9 [6] <| .q 10 <| .q 11 <| .q 12 <| .q 13 <| .q 14 <| .q 15 <| .q 16 <| .q 17 <| .q 18 <| .q 19 <| .q 20 <| .q 21 <| .q 22 <| .q 23 <| .q 24 <| .q 25 <| .q 27 <| .l 26 [27, 22, 21, 20, 19, 18, 17, 16, 15, 14, 13, 12, 11, 10, 6] <| .l 28 [22, 21, 20, 19, 18, 17, 16, 15, 14, 13, 12, 11, 10, 6] <| .q 29 <| .q 30 <| .done) mixed (by kernel_rfl) (by kernel_rfl) ?_ | refine w_sch (id := 6) (.q 0 <| .q 1 <| .q 2 <| .q 3 <| .l 4 [0] <| .l 5 [] <| .l 6 [] <| .done) mixed (by kernel_rfl) (by kernel_rfl) ?_ | refine w_sch (id := 14) (.q 0 <| .q 1 <| .q 2 <| .q 3 <| .q 4 <| .q 5 <| .q 7 <| .q 8 <| .q 11 <| .l 6 [11, 8, 7, 2, 1, 0] <| .q 9 <| .q 10 <| .q 12 <| .q 13 <| .l 14 [] <| .done) mixed (by kernel_rfl) (by kernel_rfl) ?_ | refine w_sch (id := 15) (.q 0 <| .q 1 <| .q 3 <| .q 4 <| .l 2 [4, 3] <| .l 5 [] <| .l 6 [] <| .l 7 [] <| .done) mixed (by kernel_rfl) (by kernel_rfl) ?_ | refine w_sch (id := 16) (.q 0 <| .q 1 <| .q 2 <| .q 3 <| .q 4 <| .q 5 <| .q 6 <| .q 7 <| .q 8 <| .q 9 <| .q 10 <| .q 11 <| .q 12 <| .q 13 <| .q 14 <| .q 15 <| .q 16 <| .q 20 <| .q 21 <| .l 17 [21, 20, 14, 13, 11, 10, 9, 8, 7, 6, 5, 4, 3, 2, 1, 0] <| .q 18 <| .q 19 <| .q 22 <| .q 23 <| .l 24 [] <| .done) mixed (by kernel_rfl) (by kernel_rfl) ?_); refine k_rund ?_; refine k_run ?_)
    clear fx c1 c2 c3 c4
    refine e_ret [] .nil (by simp; rfl) (by simp)
  obtain ⟨B, rfl⟩ : ∃ B : Nat, b = B := ⟨b.toNat, by omega⟩
  have hBl : B < p.length := by omega
  have hBl2 : ¬ p.length ≤ B := by omega
  obtain ⟨k, hk⟩ : ∃ k, p[B]? = some k := ⟨_, List.getElem?_eq_getElem hBl⟩
  have hul := k.us_len
  have hui := UsedIn_fn gl p B k hk hs hv
  have hin := isIn_fn gl k.us x (by omega)
  cases hus : decide (x ∈ k.us)
  · rw [hus] at hin
    generalize opG p B x 0 = o at hlo hso
    have fx := And.intro h3 <| And.intro hp3 <| And.intro h4 <| And.intro h5 <| And.intro h18 <| And.intro h19 <| And.intro h20 <| And.intro hb0 <| And.intro hbl <| And.intro hBl2 <| And.intro a1 <| @bne_def
    have c1 := hlo
    have c2 := hso
    have c3 := equalOp_fn gl o.1 o.2
    have c4 := hvp
    have c5 := hin
    have d1 := hui
    refine k_run ?_
    repeat ((first | refine w_sch (id := 5) (.q 0 <| .q 1 <| .q 2 <| .q 3 <| .l 4 [0] <| .l 5 [] <| .q 6 <| .q 7 <| .q 8 <| .l 9 [6] <| .q 10 <| .q 11 <| .q 12 <| .q 13 <| .q 14 <| .q 15 <| .q 16 <| .q 17 <| .q 18 <| .q 19 <| .q 20 <| .q 21 <| .q 22 <| .q 23 <| .q 24 <| .q 25 <| .q 27 <| .l 26 [27, 22, 21, 20, 19, 18, 17, 16, 15, 14, 13, 12, 11, 10, 6] <| .l 28 [22, 21, 20, 19, 18, 17, 16, 15, 14, 13, 12, 11, 10, 6] <| .q 29 <| .q 30 <| .done) mixed (by kernel_rfl) (by kernel_rfl) ?_ | refine w_sch (id := 6) (.q 0 <| .q 1 <| .q 2 <| .q 3 <| .l 4 [0] <| .l 5 [] <| .l 6 [] <| .done) mixed (by kernel_rfl) (by kernel_rfl) ?_ | refine w_sch (id := 14) (.q 0 <| .q 1 <| .q 2 <| .q 3 <| .q 4 <| .q 5 <| .q 7 <| .q 8 <| .q 11 <| .l 6 [11, 8, 7, 2, 1, 0] <| .q 9 <| .q 10 <| .q 12 <| .q 13 <| .l 14 [] <| .done) mixed (by kernel_rfl) (by kernel_rfl) ?_ | refine w_sch (id := 15) (.q 0 <| .q 1 <| .q 3 <| .q 4 <| .l 2 [4, 3] <| .l 5 [] <| .l 6 [] <| .l 7 [] <| .done) mixed (by kernel_rfl) (by kernel_rfl) ?_ | refine w_sch (id := 16) (.q 0 <| .q 1 <| .q 2 <| .q 3 <| .q 4 <| .q 5 <| .q 6 <| .q 7 <| .q 8 <| .q 9 <| .q 10 <| .q 11 <| .q 12 <| .q 13 <| .q 14 <| .q 15 <| .q 16 <| .q 20 <| .q 21 <| .l 17 [21, 20, 14, 13, 11, 10, 9, 8, 7, 6, 5, 4, 3, 2, 1, 0] <| .q 18 <| .q 19 <| .q 22 <| .q 23 <| .l 24 [] <| .done) mixed (by kernel_rfl) (by kernel_rfl) ?_); refine k_rund ?_; refine k_run ?_)
    clear fx c1 c2 c3 c4 c5 d1
    refine e_ret [] .nil (by simp; rfl) (by simp)
  rw [hus] at hin
  have hxu : x ∈ k.us := by simpa using hus
  obtain ⟨hx0, hx7⟩ : 0 ≤ x ∧ x ≤ 7 := by
    rw [Blk.us, Go.Hm.mem_sorted] at hxu
    exact hxu.2
  obtain ⟨X, rfl⟩ : ∃ X : Nat, x = X := ⟨x.toNat, by omega⟩
  have hX8 : X < 8 := by omega
  have hok : usedOk p B X = true := by
    have h1 : (decide ((0 : Int) ≤ (B : Int)) && decide ((B : Int) < p.length)) = true := by simp; omega
    have h2 : (decide (0 ≤ (X : Int)) && decide ((X : Int) ≤ 7)) = true := by simp; omega
    simp only [usedOk, hv, h1, h2, Int.toNat_natCast, hk, Bool.true_and, hus]
  have hp := (lookP_of hs hv).sh
  have e0 : opG p B X 0 = nameOp p B X 0 := by simp [opG, hok]
  rw [e0] at hlo hso
  have hsy := SymbolOf_fn gl p B X k hk hs hv hX8
  have hfa := FastsOf_fn gl p B k hk hs hv
  have hce := CellsOf_fn gl p B k hk hs hv
  have hfr := FreesOf_fn gl p B k hk hs hv
  have hfl := fastsL_len (p := p) (b := B)
  have hcl := cellsL_len (p := p) (b := B)
  have hrl := freesL_len (p := p) (b := B)
  have hsym := nameOp_sym (w := 0) hp hk hxu
  clear hok e0
  generalize fastsL p B = L at *
  generalize cellsL p B = C at *
  generalize freesL p B = F at *
  generalize symOf p B X = s at *
  have hjo := join_fn gl C F (by omega) (by omega)
  rcases hsym with ⟨rfl, e⟩ | ⟨rfl, e⟩ | ⟨rfl, i, e, hi, hg⟩ | ⟨rfl, i, e, hi, hg⟩ | ⟨rfl, i, e, hi, hg⟩
  · rw [e] at hlo hso
    simp only [Int.add_zero] at hlo hso
    have fx := And.intro h3 <| And.intro hp3 <| And.intro h4 <| And.intro h5 <| And.intro h18 <| And.intro h19 <| And.intro h20 <| And.intro hb0 <| And.intro hbl <| And.intro hBl2 <| And.intro a1 <| @bne_def
    have c1 := hlo
    have c2 := hso
    have c3 := equalOp_fn gl 8 X
    have c4 := hvp
    have c5 := hin
    have c6 := hsy
    have d1 := hui
    refine k_run ?_
    repeat ((first | refine w_sch (id := 5) (.q 0 <| .q 1 <| .q 2 <| .q 3 <| .l 4 [0] <| .l 5 [] <| .q 6 <| .q 7 <| .q 8 <| .l 9 [6] <| .q 10 <| .q 11 <| .q 12 <| .q 13 <| .q 14 <| .q 15 <| .q 16 <| .q 17 <| .q 18 <| .q 19 <| .q 20 <| .q 21 <| .q 22 <| .q 23 <| .q 24 <| .q 25 <| .q 27 <| .l 26 [27, 22, 21, 20, 19, 18, 17, 16, 15, 14, 13, 12, 11, 10, 6] <| .l 28 [22, 21, 20, 19, 18, 17, 16, 15, 14, 13, 12, 11, 10, 6] <| .q 29 <| .q 30 <| .done) mixed (by kernel_rfl) (by kernel_rfl) ?_ | refine w_sch (id := 6) (.q 0 <| .q 1 <| .q 2 <| .q 3 <| .l 4 [0] <| .l 5 [] <| .l 6 [] <| .done) mixed (by kernel_rfl) (by kernel_rfl) ?_ | refine w_sch (id := 14) (.q 0 <| .q 1 <| .q 2 <| .q 3 <| .q 4 <| .q 5 <| .q 7 <| .q 8 <| .q 11 <| .l 6 [11, 8, 7, 2, 1, 0] <| .q 9 <| .q 10 <| .q 12 <| .q 13 <| .l 14 [] <| .done) mixed (by kernel_rfl) (by kernel_rfl) ?_ | refine w_sch (id := 15) (.q 0 <| .q 1 <| .q 3 <| .q 4 <| .l 2 [4, 3] <| .l 5 [] <| .l 6 [] <| .l 7 [] <| .done) mixed (by kernel_rfl) (by kernel_rfl) ?_ | refine w_sch (id := 16) (.q 0 <| .q 1 <| .q 2 <| .q 3 <| .q 4 <| .q 5 <| .q 6 <| .q 7 <| .q 8 <| .q 9 <| .q 10 <| .q 11 <| .q 12 <| .q 13 <| .q 14 <| .q 15 <| .q 16 <| .q 20 <| .q 21 <| .l 17 [21, 20, 14, 13, 11, 10, 9, 8, 7, 6, 5, 4, 3, 2, 1, 0] <| .q 18 <| .q 19 <| .q 22 <| .q 23 <| .l 24 [] <| .done) mixed (by kernel_rfl) (by kernel_rfl) ?_); refine k_rund ?_; refine k_run ?_)
    clear fx c1 c2 c3 c4 c5 c6 d1
    refine e_ret [] .nil (by simp; rfl) (by simp)
  · rw [e] at hlo hso
    simp only [Int.add_zero] at hlo hso
    have fx := And.intro h3 <| And.intro hp3 <| And.intro h4 <| And.intro h5 <| And.intro h18 <| And.intro h19 <| And.intro h20 <| And.intro hb0 <| And.intro hbl <| And.intro hBl2 <| And.intro a1 <| @bne_def
    have c1 := hlo
    have c2 := hso
    have c3 := equalOp_fn gl 11 X
    have c4 := hvp
    have c5 := hin
    have c6 := hsy
    have d1 := hui
    refine k_run ?_
    repeat ((first | refine w_sch (id := 5) (.q 0 <| .q 1 <| .q 2 <| .q 3 <| .l 4 [0] <| .l 5 [] <| .q 6 <| .q 7 <| .q 8 <| .l 9 [6] <| .q 10 <| .q 11 <| .q 12 <| .q 13 <| .q 14 <| .q 15 <| .q 16 <| .q 17 <| .q 18 <| .q 19 <| .q 20 <| .q 21 <| .q 22 <| .q 23 <| .q 24 <| .q 25 <| .q 27 <| .l 26 [27, 22, 21, 20, 19, 18, 17, 16, 15, 14, 13, 12, 11, 10, 6] <| .l 28 [22, 21, 20, 19, 18, 17, 16, 15, 14, 13, 12, 11, 10, 6] <| .q 29 <| .q 30 <| .done) mixed (by kernel_rfl) (by kernel_rfl) ?_ | refine w_sch (id := 6) (.q 0 <| .q 1 <| .q 2 <| .q 3 <| .l 4 [0] <| .l 5 [] <| .l 6 [] <| .done) mixed (by kernel_rfl) (by kernel_rfl) ?_ | refine w_sch (id := 14) (.q 0 <| .q 1 <| .q 2 <| .q 3 <| .q 4 <| .q 5 <| .q 7 <| .q 8 <| .q 11 <| .l 6 [11, 8, 7, 2, 1, 0] <| .q 9 <| .q 10 <| .q 12 <| .q 13 <| .l 14 [] <| .done) mixed (by kernel_rfl) (by kernel_rfl) ?_ | refine w_sch (id := 15) (.q 0 <| .q 1 <| .q 3 <| .q 4 <| .l 2 [4, 3] <| .l 5 [] <| .l 6 [] <| .l 7 [] <| .done) mixed (by kernel_rfl) (by kernel_rfl) ?_ | refine w_sch (id := 16) (.q 0 <| .q 1 <| .q 2 <| .q 3 <| .q 4 <| .q 5 <| .q 6 <| .q 7 <| .q 8 <| .q 9 <| .q 10 <| .q 11 <| .q 12 <| .q 13 <| .q 14 <| .q 15 <| .q 16 <| .q 20 <| .q 21 <| .l 17 [21, 20, 14, 13, 11, 10, 9, 8, 7, 6, 5, 4, 3, 2, 1, 0] <| .q 18 <| .q 19 <| .q 22 <| .q 23 <| .l 24 [] <| .done) mixed (by kernel_rfl) (by kernel_rfl) ?_); refine k_rund ?_; refine k_run ?_)
    clear fx c1 c2 c3 c4 c5 c6 d1
    refine e_ret [] .nil (by simp; rfl) (by simp)
  · rw [e] at hlo hso
    simp only [Int.add_zero] at hlo hso
    obtain ⟨_, hgE⟩ := List.getElem?_eq_some_iff.1 hg
    have fx := And.intro h3 <| And.intro hp3 <| And.intro h4 <| And.intro h5 <| And.intro h18 <| And.intro h19 <| And.intro h20 <| And.intro hb0 <| And.intro hbl <| And.intro hBl2 <| And.intro a1 <| And.intro hi <| And.intro hg <| And.intro hgE <| @bne_def
    have c1 := hlo
    have c2 := hso
    have c3 := equalOp_fn gl 2 i
    have c4 := hvp
    have c5 := hin
    have c6 := hsy
    have d1 := hui
    have d2 := hfa
    refine k_run ?_
    repeat ((first | refine w_sch (id := 5) (.q 0 <| .q 1 <| .q 2 <| .q 3 <| .l 4 [0] <| .l 5 [] <| .q 6 <| .q 7 <| .q 8 <| .l 9 [6] <| .q 10 <| .q 11 <| .q 12 <| .q 13 <| .q 14 <| .q 15 <| .q 16 <| .q 17 <| .q 18 <| .q 19 <| .q 20 <| .q 21 <| .q 22 <| .q 23 <| .q 24 <| .q 25 <| .q 27 <| .l 26 [27, 22, 21, 20, 19, 18, 17, 16, 15, 14, 13, 12, 11, 10, 6] <| .l 28 [22, 21, 20, 19, 18, 17, 16, 15, 14, 13, 12, 11, 10, 6] <| .q 29 <| .q 30 <| .done) mixed (by kernel_rfl) (by kernel_rfl) ?_ | refine w_sch (id := 6) (.q 0 <| .q 1 <| .q 2 <| .q 3 <| .l 4 [0] <| .l 5 [] <| .l 6 [] <| .done) mixed (by kernel_rfl) (by kernel_rfl) ?_ | refine w_sch (id := 14) (.q 0 <| .q 1 <| .q 2 <| .q 3 <| .q 4 <| .q 5 <| .q 7 <| .q 8 <| .q 11 <| .l 6 [11, 8, 7, 2, 1, 0] <| .q 9 <| .q 10 <| .q 12 <| .q 13 <| .l 14 [] <| .done) mixed (by kernel_rfl) (by kernel_rfl) ?_ | refine w_sch (id := 15) (.q 0 <| .q 1 <| .q 3 <| .q 4 <| .l 2 [4, 3] <| .l 5 [] <| .l 6 [] <| .l 7 [] <| .done) mixed (by kernel_rfl) (by kernel_rfl) ?_ | refine w_sch (id := 16) (.q 0 <| .q 1 <| .q 2 <| .q 3 <| .q 4 <| .q 5 <| .q 6 <| .q 7 <| .q 8 <| .q 9 <| .q 10 <| .q 11 <| .q 12 <| .q 13 <| .q 14 <| .q 15 <| .q 16 <| .q 20 <| .q 21 <| .l 17 [21, 20, 14, 13, 11, 10, 9, 8, 7, 6, 5, 4, 3, 2, 1, 0] <| .q 18 <| .q 19 <| .q 22 <| .q 23 <| .l 24 [] <| .done) mixed (by kernel_rfl) (by kernel_rfl) ?_); refine k_rund ?_; refine k_run ?_)
    clear fx c1 c2 c3 c4 c5 c6 d1 d2
    refine e_ret [] .nil (by simp; rfl) (by simp)
  all_goals
    rw [e] at hlo hso
    simp only [Int.add_zero] at hlo hso
    have hCF : (C ++ F).length ≤ 16 := by simp; omega
  · obtain ⟨hgl', hgE⟩ := List.getElem?_eq_some_iff.1 hg
    generalize C ++ F = J at *
    have fx := And.intro h3 <| And.intro hp3 <| And.intro h4 <| And.intro h5 <| And.intro h18 <| And.intro h19 <| And.intro h20 <| And.intro hb0 <| And.intro hbl <| And.intro hBl2 <| And.intro a1 <| And.intro hi <| And.intro hg <| And.intro hgE <| And.intro hgl' <| And.intro hcl <| And.intro hrl <| @bne_def
    have c1 := hlo
    have c2 := hso
    have c3 := equalOp_fn gl 5 i
    have c4 := hvp
    have c5 := hin
    have c6 := hsy
    have d1 := hui
    have d2 := hce
    have d3 := hfr
    have d4 := hjo
    refine k_run ?_
    repeat ((first | refine w_sch (id := 5) (.q 0 <| .q 1 <| .q 2 <| .q 3 <| .l 4 [0] <| .l 5 [] <| .q 6 <| .q 7 <| .q 8 <| .l 9 [6] <| .q 10 <| .q 11 <| .q 12 <| .q 13 <| .q 14 <| .q 15 <| .q 16 <| .q 17 <| .q 18 <| .q 19 <| .q 20 <| .q 21 <| .q 22 <| .q 23 <| .q 24 <| .q 25 <| .q 27 <| .l 26 [27, 22, 21, 20, 19, 18, 17, 16, 15, 14, 13, 12, 11, 10, 6] <| .l 28 [22, 21, 20, 19, 18, 17, 16, 15, 14, 13, 12, 11, 10, 6] <| .q 29 <| .q 30 <| .done) mixed (by kernel_rfl) (by kernel_rfl) ?_ | refine w_sch (id := 6) (.q 0 <| .q 1 <| .q 2 <| .q 3 <| .l 4 [0] <| .l 5 [] <| .l 6 [] <| .done) mixed (by kernel_rfl) (by kernel_rfl) ?_ | refine w_sch (id := 14) (.q 0 <| .q 1 <| .q 2 <| .q 3 <| .q 4 <| .q 5 <| .q 7 <| .q 8 <| .q 11 <| .l 6 [11, 8, 7, 2, 1, 0] <| .q 9 <| .q 10 <| .q 12 <| .q 13 <| .l 14 [] <| .done) mixed (by kernel_rfl) (by kernel_rfl) ?_ | refine w_sch (id := 15) (.q 0 <| .q 1 <| .q 3 <| .q 4 <| .l 2 [4, 3] <| .l 5 [] <| .l 6 [] <| .l 7 [] <| .done) mixed (by kernel_rfl) (by kernel_rfl) ?_ | refine w_sch (id := 16) (.q 0 <| .q 1 <| .q 2 <| .q 3 <| .q 4 <| .q 5 <| .q 6 <| .q 7 <| .q 8 <| .q 9 <| .q 10 <| .q 11 <| .q 12 <| .q 13 <| .q 14 <| .q 15 <| .q 16 <| .q 20 <| .q 21 <| .l 17 [21, 20, 14, 13, 11, 10, 9, 8, 7, 6, 5, 4, 3, 2, 1, 0] <| .q 18 <| .q 19 <| .q 22 <| .q 23 <| .l 24 [] <| .done) mixed (by kernel_rfl) (by kernel_rfl) ?_); refine k_rund ?_; refine k_run ?_)
    clear fx c1 c2 c3 c4 c5 c6 d1 d2 d3 d4
    refine e_ret [] .nil (by simp; rfl) (by simp)
  · obtain ⟨j, hj⟩ : ∃ j, C.length + i = j := ⟨_, rfl⟩
    rw [hj] at hg hlo hso
    have hjn : ¬ j < C.length := by omega
    obtain ⟨hgl', hgE⟩ := List.getElem?_eq_some_iff.1 hg
    generalize C ++ F = J at *
    have fx := And.intro h3 <| And.intro hp3 <| And.intro h4 <| And.intro h5 <| And.intro h18 <| And.intro h19 <| And.intro h20 <| And.intro hb0 <| And.intro hbl <| And.intro hBl2 <| And.intro a1 <| And.intro hjn <| And.intro hg <| And.intro hgE <| And.intro hgl' <| And.intro hcl <| And.intro hrl <| @bne_def
    have c1 := hlo
    have c2 := hso
    have c3 := equalOp_fn gl 5 j
    have c4 := hvp
    have c5 := hin
    have c6 := hsy
    have d1 := hui
    have d2 := hce
    have d3 := hfr
    have d4 := hjo
    refine k_run ?_
    repeat ((first | refine w_sch (id := 5) (.q 0 <| .q 1 <| .q 2 <| .q 3 <| .l 4 [0] <| .l 5 [] <| .q 6 <| .q 7 <| .q 8 <| .l 9 [6] <| .q 10 <| .q 11 <| .q 12 <| .q 13 <| .q 14 <| .q 15 <| .q 16 <| .q 17 <| .q 18 <| .q 19 <| .q 20 <| .q 21 <| .q 22 <| .q 23 <| .q 24 <| .q 25 <| .q 27 <| .l 26 [27, 22, 21, 20, 19, 18, 17, 16, 15, 14, 13, 12, 11, 10, 6] <| .l 28 [22, 21, 20, 19, 18, 17, 16, 15, 14, 13, 12, 11, 10, 6] <| .q 29 <| .q 30 <| .done) mixed (by kernel_rfl) (by kernel_rfl) ?_ | refine w_sch (id := 6) (.q 0 <| .q 1 <| .q 2 <| .q 3 <| .l 4 [0] <| .l 5 [] <| .l 6 [] <| .done) mixed (by kernel_rfl) (by kernel_rfl) ?_ | refine w_sch (id := 14) (.q 0 <| .q 1 <| .q 2 <| .q 3 <| .q 4 <| .q 5 <| .q 7 <| .q 8 <| .q 11 <| .l 6 [11, 8, 7, 2, 1, 0] <| .q 9 <| .q 10 <| .q 12 <| .q 13 <| .l 14 [] <| .done) mixed (by kernel_rfl) (by kernel_rfl) ?_ | refine w_sch (id := 15) (.q 0 <| .q 1 <| .q 3 <| .q 4 <| .l 2 [4, 3] <| .l 5 [] <| .l 6 [] <| .l 7 [] <| .done) mixed (by kernel_rfl) (by kernel_rfl) ?_ | refine w_sch (id := 16) (.q 0 <| .q 1 <| .q 2 <| .q 3 <| .q 4 <| .q 5 <| .q 6 <| .q 7 <| .q 8 <| .q 9 <| .q 10 <| .q 11 <| .q 12 <| .q 13 <| .q 14 <| .q 15 <| .q 16 <| .q 20 <| .q 21 <| .l 17 [21, 20, 14, 13, 11, 10, 9, 8, 7, 6, 5, 4, 3, 2, 1, 0] <| .q 18 <| .q 19 <| .q 22 <| .q 23 <| .l 24 [] <| .done) mixed (by kernel_rfl) (by kernel_rfl) ?_); refine k_rund ?_; refine k_run ?_)
    clear fx c1 c2 c3 c4 c5 c6 d1 d2 d3 d4
    refine e_ret [] .nil (by simp; rfl) (by simp)
end Go.Proofs.YtmpbjmihjelhgaaDoor
end
