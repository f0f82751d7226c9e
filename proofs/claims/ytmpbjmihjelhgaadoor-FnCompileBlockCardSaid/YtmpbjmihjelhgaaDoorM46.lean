/-
  Own texts, joined by mkclaim.py: Ky.
-/
import Derived.Test.YtmpbjmihjelhgaaDoorM44
set_option linter.unusedSimpArgs false
set_option linter.unusedVariables false

section
/-
  The law that each statement has a tick.
-/
set_option maxRecDepth 100000
set_option maxHeartbeats 4000000
set_option linter.unusedSimpArgs false
namespace Go.Proofs.YtmpbjmihjelhgaaDoor
open Go Go.Hm Go.Proofs

theorem codeG_sm {p : Prg} {b : Int} (hs : Sml p) : KSm (codeG p b) := by
  cases hb : blkAt p b
  · have h : codeG p b = noCode := by simp [codeG, hb]
    rw [h]
    exact noCode_sm
  · obtain ⟨B, k, rfl, hk, hP, _⟩ := blkAt_parts hs hb
    have h : codeG p B = codeL p B := by simp [codeG, hb]
    rw [h]
    exact codeL_sm hP.sh

theorem FnCompileBlock_fn (gl : Nat → Option (List AV)) (hgl : gl 1 = some codesL) (code : List Int) (hcode : ∀ v ∈ code, 0 ≤ v ∧ v ≤ 255) (hbig : code.length ≤ 1152921504606846976) :
    FnOk Tryd.prog gl 8 [bsl code] (fun _ z _ => z = bv true) := by
  refine FnOk.of_sem Tryd.func8 rfl (by kernel_rfl) (rs := [.tmp 2]) rfl Tryd.ntmps8 (Nat.le_of_ble_eq_true rfl) fun C w g root => ?_
  by_cases hlen : 1048576 < code.length
  · have hl1 : (1048576 : Int) < code.length := by omega
    have fx :=  hl1
    refine k_run ?_
    repeat ((first | refine w_sch (id := 5) (.q 0 <| .q 1 <| .q 2 <| .l 3 [0] <| .l 4 [] <| .q 5 <| .q 6 <| .q 7 <| .l 8 [5] <| .q 9 <| .q 10 <| .q 11 <| .q 12 <| .q 13 <| .q 14 <| .q 15 <| .q 16 <| .q 17 <| .q 18 <| .q 19 <| .q 20 <| .q 21 <| .done) mixed (by kernel_rfl) (by kernel_rfl) ?_ | refine w_sch (id := 6) (.q 0 <| .q 1 <| .q 2 <| .l 3 [0] <| .l 4 [] <| .l 5 [] <| .done) mixed (by kernel_rfl) (by kernel_rfl) ?_ | refine w_sch (id := 16) (.q 0 <| .q 1 <| .q 2 <| .q 3 <| .q 4 <| .q 5 <| .q 6 <| .q 7 <| .q 8 <| .q 9 <| .q 10 <| .q 11 <| .q 12 <| .q 13 <| .l 14 [11, 10, 8, 7, 6, 5, 4, 3, 2, 1, 0] <| .l 15 [10, 8, 7, 6, 5, 4, 3, 2, 1, 0] <| .q 16 <| .q 17 <| .q 18 <| .q 19 <| .q 20 <| .q 21 <| .l 22 [19, 18, 16, 10, 8, 7, 6, 5, 4, 3, 2, 1, 0] <| .l 23 [18, 16, 10, 8, 7, 6, 5, 4, 3, 2, 1, 0] <| .q 24 <| .q 25 <| .q 26 <| .q 27 <| .q 28 <| .q 29 <| .l 30 [27, 26, 24, 18, 16, 10, 8, 7, 6, 5, 4, 3, 2, 1, 0] <| .l 31 [26, 24, 18, 16, 10, 8, 7, 6, 5, 4, 3, 2, 1, 0] <| .q 32 <| .q 33 <| .q 34 <| .q 35 <| .q 36 <| .q 37 <| .q 38 <| .q 39 <| .q 40 <| .q 41 <| .q 42 <| .q 43 <| .l 44 [] <| .done) mixed (by kernel_rfl) (by kernel_rfl) ?_); refine k_rund ?_; refine k_run ?_)
    clear fx
    refine e_ret [] .nil (by simp; rfl) (by simp)
  have hl1 : ¬ (1048576 : Int) < code.length := by omega
  have hc : CodeOk code := ⟨by omega, hcode⟩
  have fx :=  hl1
  have e1 := DrawCompileBlock_fn gl code hc
  refine k_run ?_
  repeat ((first | refine w_sch (id := 5) (.q 0 <| .q 1 <| .q 2 <| .l 3 [0] <| .l 4 [] <| .q 5 <| .q 6 <| .q 7 <| .l 8 [5] <| .q 9 <| .q 10 <| .q 11 <| .q 12 <| .q 13 <| .q 14 <| .q 15 <| .q 16 <| .q 17 <| .q 18 <| .q 19 <| .q 20 <| .q 21 <| .done) mixed (by kernel_rfl) (by kernel_rfl) ?_ | refine w_sch (id := 6) (.q 0 <| .q 1 <| .q 2 <| .l 3 [0] <| .l 4 [] <| .l 5 [] <| .done) mixed (by kernel_rfl) (by kernel_rfl) ?_ | refine w_sch (id := 16) (.q 0 <| .q 1 <| .q 2 <| .q 3 <| .q 4 <| .q 5 <| .q 6 <| .q 7 <| .q 8 <| .q 9 <| .q 10 <| .q 11 <| .q 12 <| .q 13 <| .l 14 [11, 10, 8, 7, 6, 5, 4, 3, 2, 1, 0] <| .l 15 [10, 8, 7, 6, 5, 4, 3, 2, 1, 0] <| .q 16 <| .q 17 <| .q 18 <| .q 19 <| .q 20 <| .q 21 <| .l 22 [19, 18, 16, 10, 8, 7, 6, 5, 4, 3, 2, 1, 0] <| .l 23 [18, 16, 10, 8, 7, 6, 5, 4, 3, 2, 1, 0] <| .q 24 <| .q 25 <| .q 26 <| .q 27 <| .q 28 <| .q 29 <| .l 30 [27, 26, 24, 18, 16, 10, 8, 7, 6, 5, 4, 3, 2, 1, 0] <| .l 31 [26, 24, 18, 16, 10, 8, 7, 6, 5, 4, 3, 2, 1, 0] <| .q 32 <| .q 33 <| .q 34 <| .q 35 <| .q 36 <| .q 37 <| .q 38 <| .q 39 <| .q 40 <| .q 41 <| .q 42 <| .q 43 <| .l 44 [] <| .done) mixed (by kernel_rfl) (by kernel_rfl) ?_); refine k_rund ?_; refine k_run ?_)
  clear fx e1
  rintro K hK z H1 ⟨p, b, rfl, hO, hs⟩
  obtain ⟨ho1, ho2, ho3⟩ := hO.hcln
  refine ⟨by simp, ?_⟩
  have hpl := hs.len
  have hia := impl_CompileBlock_fn gl hgl p b hs
  have hsa := spec_CompileBlock_fn gl p b hs
  have hsm := codeG_sm (b := b) hs
  have hvp := impl_ValidProgram_fn gl p hs
  obtain ⟨c, hcd⟩ : ∃ c, codeG p b = c := ⟨_, rfl⟩
  rw [hcd] at hia hsa hsm
  have heq := equalCode_fn gl c hsm
  have fx :=  ho1
  have e1 := hia
  refine k_run ?_
  repeat ((first | refine w_sch (id := 5) (.q 0 <| .q 1 <| .q 2 <| .l 3 [0] <| .l 4 [] <| .q 5 <| .q 6 <| .q 7 <| .l 8 [5] <| .q 9 <| .q 10 <| .q 11 <| .q 12 <| .q 13 <| .q 14 <| .q 15 <| .q 16 <| .q 17 <| .q 18 <| .q 19 <| .q 20 <| .q 21 <| .done) mixed (by kernel_rfl) (by kernel_rfl) ?_ | refine w_sch (id := 6) (.q 0 <| .q 1 <| .q 2 <| .l 3 [0] <| .l 4 [] <| .l 5 [] <| .done) mixed (by kernel_rfl) (by kernel_rfl) ?_ | refine w_sch (id := 16) (.q 0 <| .q 1 <| .q 2 <| .q 3 <| .q 4 <| .q 5 <| .q 6 <| .q 7 <| .q 8 <| .q 9 <| .q 10 <| .q 11 <| .q 12 <| .q 13 <| .l 14 [11, 10, 8, 7, 6, 5, 4, 3, 2, 1, 0] <| .l 15 [10, 8, 7, 6, 5, 4, 3, 2, 1, 0] <| .q 16 <| .q 17 <| .q 18 <| .q 19 <| .q 20 <| .q 21 <| .l 22 [19, 18, 16, 10, 8, 7, 6, 5, 4, 3, 2, 1, 0] <| .l 23 [18, 16, 10, 8, 7, 6, 5, 4, 3, 2, 1, 0] <| .q 24 <| .q 25 <| .q 26 <| .q 27 <| .q 28 <| .q 29 <| .l 30 [27, 26, 24, 18, 16, 10, 8, 7, 6, 5, 4, 3, 2, 1, 0] <| .l 31 [26, 24, 18, 16, 10, 8, 7, 6, 5, 4, 3, 2, 1, 0] <| .q 32 <| .q 33 <| .q 34 <| .q 35 <| .q 36 <| .q 37 <| .q 38 <| .q 39 <| .q 40 <| .q 41 <| .q 42 <| .q 43 <| .l 44 [] <| .done) mixed (by kernel_rfl) (by kernel_rfl) ?_); refine k_rund ?_; refine k_run ?_)
  clear fx e1
  rintro K hK y H2 ⟨rfl, hO2⟩
  obtain ⟨o1, o2, o3, o4, o5⟩ := hO2.hcln
  refine ⟨by simp, ?_⟩
  have fx := And.intro ho1 <| And.intro o1 <| And.intro o2 <| And.intro o3 <| And.intro o4 <| o5
  refine k_run ?_
  repeat ((first | refine w_sch (id := 5) (.q 0 <| .q 1 <| .q 2 <| .l 3 [0] <| .l 4 [] <| .q 5 <| .q 6 <| .q 7 <| .l 8 [5] <| .q 9 <| .q 10 <| .q 11 <| .q 12 <| .q 13 <| .q 14 <| .q 15 <| .q 16 <| .q 17 <| .q 18 <| .q 19 <| .q 20 <| .q 21 <| .done) mixed (by kernel_rfl) (by kernel_rfl) ?_ | refine w_sch (id := 6) (.q 0 <| .q 1 <| .q 2 <| .l 3 [0] <| .l 4 [] <| .l 5 [] <| .done) mixed (by kernel_rfl) (by kernel_rfl) ?_ | refine w_sch (id := 16) (.q 0 <| .q 1 <| .q 2 <| .q 3 <| .q 4 <| .q 5 <| .q 6 <| .q 7 <| .q 8 <| .q 9 <| .q 10 <| .q 11 <| .q 12 <| .q 13 <| .l 14 [11, 10, 8, 7, 6, 5, 4, 3, 2, 1, 0] <| .l 15 [10, 8, 7, 6, 5, 4, 3, 2, 1, 0] <| .q 16 <| .q 17 <| .q 18 <| .q 19 <| .q 20 <| .q 21 <| .l 22 [19, 18, 16, 10, 8, 7, 6, 5, 4, 3, 2, 1, 0] <| .l 23 [18, 16, 10, 8, 7, 6, 5, 4, 3, 2, 1, 0] <| .q 24 <| .q 25 <| .q 26 <| .q 27 <| .q 28 <| .q 29 <| .l 30 [27, 26, 24, 18, 16, 10, 8, 7, 6, 5, 4, 3, 2, 1, 0] <| .l 31 [26, 24, 18, 16, 10, 8, 7, 6, 5, 4, 3, 2, 1, 0] <| .q 32 <| .q 33 <| .q 34 <| .q 35 <| .q 36 <| .q 37 <| .q 38 <| .q 39 <| .q 40 <| .q 41 <| .q 42 <| .q 43 <| .l 44 [] <| .done) mixed (by kernel_rfl) (by kernel_rfl) ?_); refine k_rund ?_; refine k_run ?_)
  clear fx
  intro K hK
  refine o_abs (fun st => BoxP st 3 p ∧ st.tm 4 = iv b ∧ st.tm 5 = .pt (.s 5) 0 ∧ st.hp (.s 5) = some (.row 6 [c.own (.s 19) 0]) ∧ OwnK st.hp (.s 19) 0 c ∧ st.tm 20 = .agg (c.own (.s 19) 0) ∧ st.tm 21 = .agg [.hs (.c (.s 3) 0 0) 4 0 p.length] ∧ st.tm 22 = iv b)
    ⟨⟨by simp, by simp, ⟨by simp [ho1], fun j r hj => by simp [ho2 j r hj], fun j r hj => by simp [ho3 j r hj]⟩⟩, by simp, by simp, by simp, ⟨by simp [o1], by simp [o2], by simp [o3], by simp [o4], by simp [o5]⟩, by simp, by simp, by simp⟩ ?_
  clear hO ho1 ho2 ho3 hO2 o1 o2 o3 o4 o5
  rintro st ⟨⟨h3, hp3, ⟨a1, a2, a3⟩⟩, h4, h5, hp5, ⟨o1, o2, o3, o4, o5⟩, h20, h21, h22⟩
  simp only [Cod.own_eq] at hp5 h20
  cases hv : progOk p
  · rw [hv] at hvp
    have fx := And.intro h3 <| And.intro hp3 <| And.intro h4 <| And.intro h5 <| And.intro hp5 <| And.intro h20 <| And.intro h21 <| h22
    have e1 := hsa
    refine k_run ?_
    repeat ((first | refine w_sch (id := 5) (.q 0 <| .q 1 <| .q 2 <| .l 3 [0] <| .l 4 [] <| .q 5 <| .q 6 <| .q 7 <| .l 8 [5] <| .q 9 <| .q 10 <| .q 11 <| .q 12 <| .q 13 <| .q 14 <| .q 15 <| .q 16 <| .q 17 <| .q 18 <| .q 19 <| .q 20 <| .q 21 <| .done) mixed (by kernel_rfl) (by kernel_rfl) ?_ | refine w_sch (id := 6) (.q 0 <| .q 1 <| .q 2 <| .l 3 [0] <| .l 4 [] <| .l 5 [] <| .done) mixed (by kernel_rfl) (by kernel_rfl) ?_ | refine w_sch (id := 16) (.q 0 <| .q 1 <| .q 2 <| .q 3 <| .q 4 <| .q 5 <| .q 6 <| .q 7 <| .q 8 <| .q 9 <| .q 10 <| .q 11 <| .q 12 <| .q 13 <| .l 14 [11, 10, 8, 7, 6, 5, 4, 3, 2, 1, 0] <| .l 15 [10, 8, 7, 6, 5, 4, 3, 2, 1, 0] <| .q 16 <| .q 17 <| .q 18 <| .q 19 <| .q 20 <| .q 21 <| .l 22 [19, 18, 16, 10, 8, 7, 6, 5, 4, 3, 2, 1, 0] <| .l 23 [18, 16, 10, 8, 7, 6, 5, 4, 3, 2, 1, 0] <| .q 24 <| .q 25 <| .q 26 <| .q 27 <| .q 28 <| .q 29 <| .l 30 [27, 26, 24, 18, 16, 10, 8, 7, 6, 5, 4, 3, 2, 1, 0] <| .l 31 [26, 24, 18, 16, 10, 8, 7, 6, 5, 4, 3, 2, 1, 0] <| .q 32 <| .q 33 <| .q 34 <| .q 35 <| .q 36 <| .q 37 <| .q 38 <| .q 39 <| .q 40 <| .q 41 <| .q 42 <| .q 43 <| .l 44 [] <| .done) mixed (by kernel_rfl) (by kernel_rfl) ?_); refine k_rund ?_; refine k_run ?_)
    clear fx e1
    rintro y H3 ⟨rfl, hO⟩
    obtain ⟨q1, q2, q3, q4, q5⟩ := hO.hcln
    refine ⟨by simp, ?_⟩
    have fx := And.intro h3 <| And.intro hp3 <| And.intro h4 <| And.intro h5 <| And.intro hp5 <| And.intro h20 <| And.intro h21 <| And.intro h22 <| @bne_def
    have c1 := heq
    have c2 := hvp
    have e1 := hsa
    refine k_run ?_
    repeat ((first | refine w_sch (id := 5) (.q 0 <| .q 1 <| .q 2 <| .l 3 [0] <| .l 4 [] <| .q 5 <| .q 6 <| .q 7 <| .l 8 [5] <| .q 9 <| .q 10 <| .q 11 <| .q 12 <| .q 13 <| .q 14 <| .q 15 <| .q 16 <| .q 17 <| .q 18 <| .q 19 <| .q 20 <| .q 21 <| .done) mixed (by kernel_rfl) (by kernel_rfl) ?_ | refine w_sch (id := 6) (.q 0 <| .q 1 <| .q 2 <| .l 3 [0] <| .l 4 [] <| .l 5 [] <| .done) mixed (by kernel_rfl) (by kernel_rfl) ?_ | refine w_sch (id := 16) (.q 0 <| .q 1 <| .q 2 <| .q 3 <| .q 4 <| .q 5 <| .q 6 <| .q 7 <| .q 8 <| .q 9 <| .q 10 <| .q 11 <| .q 12 <| .q 13 <| .l 14 [11, 10, 8, 7, 6, 5, 4, 3, 2, 1, 0] <| .l 15 [10, 8, 7, 6, 5, 4, 3, 2, 1, 0] <| .q 16 <| .q 17 <| .q 18 <| .q 19 <| .q 20 <| .q 21 <| .l 22 [19, 18, 16, 10, 8, 7, 6, 5, 4, 3, 2, 1, 0] <| .l 23 [18, 16, 10, 8, 7, 6, 5, 4, 3, 2, 1, 0] <| .q 24 <| .q 25 <| .q 26 <| .q 27 <| .q 28 <| .q 29 <| .l 30 [27, 26, 24, 18, 16, 10, 8, 7, 6, 5, 4, 3, 2, 1, 0] <| .l 31 [26, 24, 18, 16, 10, 8, 7, 6, 5, 4, 3, 2, 1, 0] <| .q 32 <| .q 33 <| .q 34 <| .q 35 <| .q 36 <| .q 37 <| .q 38 <| .q 39 <| .q 40 <| .q 41 <| .q 42 <| .q 43 <| .l 44 [] <| .done) mixed (by kernel_rfl) (by kernel_rfl) ?_); refine k_rund ?_; refine k_run ?_)
    clear fx c1 c2 e1
    rintro K hK y H4 ⟨rfl, hO⟩
    obtain ⟨q1, q2, q3, q4, q5⟩ := hO.hcln
    refine ⟨by simp, ?_⟩
    have fx := And.intro h3 <| And.intro hp3 <| And.intro h4 <| And.intro h5 <| And.intro hp5 <| @bne_def
    have c1 := heq
    refine k_run ?_
    repeat ((first | refine w_sch (id := 5) (.q 0 <| .q 1 <| .q 2 <| .l 3 [0] <| .l 4 [] <| .q 5 <| .q 6 <| .q 7 <| .l 8 [5] <| .q 9 <| .q 10 <| .q 11 <| .q 12 <| .q 13 <| .q 14 <| .q 15 <| .q 16 <| .q 17 <| .q 18 <| .q 19 <| .q 20 <| .q 21 <| .done) mixed (by kernel_rfl) (by kernel_rfl) ?_ | refine w_sch (id := 6) (.q 0 <| .q 1 <| .q 2 <| .l 3 [0] <| .l 4 [] <| .l 5 [] <| .done) mixed (by kernel_rfl) (by kernel_rfl) ?_ | refine w_sch (id := 16) (.q 0 <| .q 1 <| .q 2 <| .q 3 <| .q 4 <| .q 5 <| .q 6 <| .q 7 <| .q 8 <| .q 9 <| .q 10 <| .q 11 <| .q 12 <| .q 13 <| .l 14 [11, 10, 8, 7, 6, 5, 4, 3, 2, 1, 0] <| .l 15 [10, 8, 7, 6, 5, 4, 3, 2, 1, 0] <| .q 16 <| .q 17 <| .q 18 <| .q 19 <| .q 20 <| .q 21 <| .l 22 [19, 18, 16, 10, 8, 7, 6, 5, 4, 3, 2, 1, 0] <| .l 23 [18, 16, 10, 8, 7, 6, 5, 4, 3, 2, 1, 0] <| .q 24 <| .q 25 <| .q 26 <| .q 27 <| .q 28 <| .q 29 <| .l 30 [27, 26, 24, 18, 16, 10, 8, 7, 6, 5, 4, 3, 2, 1, 0] <| .l 31 [26, 24, 18, 16, 10, 8, 7, 6, 5, 4, 3, 2, 1, 0] <| .q 32 <| .q 33 <| .q 34 <| .q 35 <| .q 36 <| .q 37 <| .q 38 <| .q 39 <| .q 40 <| .q 41 <| .q 42 <| .q 43 <| .l 44 [] <| .done) mixed (by kernel_rfl) (by kernel_rfl) ?_); refine k_rund ?_; refine k_run ?_)
    clear fx c1
    refine e_ret [] .nil (by simp; rfl) (by simp)
  rw [hv] at hvp
  by_cases hb0 : b < 0
  · skip
    have fx := And.intro h3 <| And.intro hp3 <| And.intro h4 <| And.intro h5 <| And.intro hp5 <| And.intro h20 <| And.intro h21 <| h22
    have e1 := hsa
    refine k_run ?_
    repeat ((first | refine w_sch (id := 5) (.q 0 <| .q 1 <| .q 2 <| .l 3 [0] <| .l 4 [] <| .q 5 <| .q 6 <| .q 7 <| .l 8 [5] <| .q 9 <| .q 10 <| .q 11 <| .q 12 <| .q 13 <| .q 14 <| .q 15 <| .q 16 <| .q 17 <| .q 18 <| .q 19 <| .q 20 <| .q 21 <| .done) mixed (by kernel_rfl) (by kernel_rfl) ?_ | refine w_sch (id := 6) (.q 0 <| .q 1 <| .q 2 <| .l 3 [0] <| .l 4 [] <| .l 5 [] <| .done) mixed (by kernel_rfl) (by kernel_rfl) ?_ | refine w_sch (id := 16) (.q 0 <| .q 1 <| .q 2 <| .q 3 <| .q 4 <| .q 5 <| .q 6 <| .q 7 <| .q 8 <| .q 9 <| .q 10 <| .q 11 <| .q 12 <| .q 13 <| .l 14 [11, 10, 8, 7, 6, 5, 4, 3, 2, 1, 0] <| .l 15 [10, 8, 7, 6, 5, 4, 3, 2, 1, 0] <| .q 16 <| .q 17 <| .q 18 <| .q 19 <| .q 20 <| .q 21 <| .l 22 [19, 18, 16, 10, 8, 7, 6, 5, 4, 3, 2, 1, 0] <| .l 23 [18, 16, 10, 8, 7, 6, 5, 4, 3, 2, 1, 0] <| .q 24 <| .q 25 <| .q 26 <| .q 27 <| .q 28 <| .q 29 <| .l 30 [27, 26, 24, 18, 16, 10, 8, 7, 6, 5, 4, 3, 2, 1, 0] <| .l 31 [26, 24, 18, 16, 10, 8, 7, 6, 5, 4, 3, 2, 1, 0] <| .q 32 <| .q 33 <| .q 34 <| .q 35 <| .q 36 <| .q 37 <| .q 38 <| .q 39 <| .q 40 <| .q 41 <| .q 42 <| .q 43 <| .l 44 [] <| .done) mixed (by kernel_rfl) (by kernel_rfl) ?_); refine k_rund ?_; refine k_run ?_)
    clear fx e1
    rintro y H3 ⟨rfl, hO⟩
    obtain ⟨q1, q2, q3, q4, q5⟩ := hO.hcln
    refine ⟨by simp, ?_⟩
    have fx := And.intro h3 <| And.intro hp3 <| And.intro h4 <| And.intro h5 <| And.intro hp5 <| And.intro h20 <| And.intro h21 <| And.intro h22 <| And.intro hb0 <| @bne_def
    have c1 := heq
    have c2 := hvp
    have e1 := hsa
    refine k_run ?_
    repeat ((first | refine w_sch (id := 5) (.q 0 <| .q 1 <| .q 2 <| .l 3 [0] <| .l 4 [] <| .q 5 <| .q 6 <| .q 7 <| .l 8 [5] <| .q 9 <| .q 10 <| .q 11 <| .q 12 <| .q 13 <| .q 14 <| .q 15 <| .q 16 <| .q 17 <| .q 18 <| .q 19 <| .q 20 <| .q 21 <| .done) mixed (by kernel_rfl) (by kernel_rfl) ?_ | refine w_sch (id := 6) (.q 0 <| .q 1 <| .q 2 <| .l 3 [0] <| .l 4 [] <| .l 5 [] <| .done) mixed (by kernel_rfl) (by kernel_rfl) ?_ | refine w_sch (id := 16) (.q 0 <| .q 1 <| .q 2 <| .q 3 <| .q 4 <| .q 5 <| .q 6 <| .q 7 <| .q 8 <| .q 9 <| .q 10 <| .q 11 <| .q 12 <| .q 13 <| .l 14 [11, 10, 8, 7, 6, 5, 4, 3, 2, 1, 0] <| .l 15 [10, 8, 7, 6, 5, 4, 3, 2, 1, 0] <| .q 16 <| .q 17 <| .q 18 <| .q 19 <| .q 20 <| .q 21 <| .l 22 [19, 18, 16, 10, 8, 7, 6, 5, 4, 3, 2, 1, 0] <| .l 23 [18, 16, 10, 8, 7, 6, 5, 4, 3, 2, 1, 0] <| .q 24 <| .q 25 <| .q 26 <| .q 27 <| .q 28 <| .q 29 <| .l 30 [27, 26, 24, 18, 16, 10, 8, 7, 6, 5, 4, 3, 2, 1, 0] <| .l 31 [26, 24, 18, 16, 10, 8, 7, 6, 5, 4, 3, 2, 1, 0] <| .q 32 <| .q 33 <| .q 34 <| .q 35 <| .q 36 <| .q 37 <| .q 38 <| .q 39 <| .q 40 <| .q 41 <| .q 42 <| .q 43 <| .l 44 [] <| .done) mixed (by kernel_rfl) (by kernel_rfl) ?_); refine k_rund ?_; refine k_run ?_)
    clear fx c1 c2 e1
    rintro K hK y H4 ⟨rfl, hO⟩
    obtain ⟨q1, q2, q3, q4, q5⟩ := hO.hcln
    refine ⟨by simp, ?_⟩
    have fx := And.intro h3 <| And.intro hp3 <| And.intro h4 <| And.intro h5 <| And.intro hp5 <| @bne_def
    have c1 := heq
    refine k_run ?_
    repeat ((first | refine w_sch (id := 5) (.q 0 <| .q 1 <| .q 2 <| .l 3 [0] <| .l 4 [] <| .q 5 <| .q 6 <| .q 7 <| .l 8 [5] <| .q 9 <| .q 10 <| .q 11 <| .q 12 <| .q 13 <| .q 14 <| .q 15 <| .q 16 <| .q 17 <| .q 18 <| .q 19 <| .q 20 <| .q 21 <| .done) mixed (by kernel_rfl) (by kernel_rfl) ?_ | refine w_sch (id := 6) (.q 0 <| .q 1 <| .q 2 <| .l 3 [0] <| .l 4 [] <| .l 5 [] <| .done) mixed (by kernel_rfl) (by kernel_rfl) ?_ | refine w_sch (id := 16) (.q 0 <| .q 1 <| .q 2 <| .q 3 <| .q 4 <| .q 5 <| .q 6 <| .q 7 <| .q 8 <| .q 9 <| .q 10 <| .q 11 <| .q 12 <| .q 13 <| .l 14 [11, 10, 8, 7, 6, 5, 4, 3, 2, 1, 0] <| .l 15 [10, 8, 7, 6, 5, 4, 3, 2, 1, 0] <| .q 16 <| .q 17 <| .q 18 <| .q 19 <| .q 20 <| .q 21 <| .l 22 [19, 18, 16, 10, 8, 7, 6, 5, 4, 3, 2, 1, 0] <| .l 23 [18, 16, 10, 8, 7, 6, 5, 4, 3, 2, 1, 0] <| .q 24 <| .q 25 <| .q 26 <| .q 27 <| .q 28 <| .q 29 <| .l 30 [27, 26, 24, 18, 16, 10, 8, 7, 6, 5, 4, 3, 2, 1, 0] <| .l 31 [26, 24, 18, 16, 10, 8, 7, 6, 5, 4, 3, 2, 1, 0] <| .q 32 <| .q 33 <| .q 34 <| .q 35 <| .q 36 <| .q 37 <| .q 38 <| .q 39 <| .q 40 <| .q 41 <| .q 42 <| .q 43 <| .l 44 [] <| .done) mixed (by kernel_rfl) (by kernel_rfl) ?_); refine k_rund ?_; refine k_run ?_)
    clear fx c1
    refine e_ret [] .nil (by simp; rfl) (by simp)
  by_cases hbl : (p.length : Int) ≤ b
  · skip
    have fx := And.intro h3 <| And.intro hp3 <| And.intro h4 <| And.intro h5 <| And.intro hp5 <| And.intro h20 <| And.intro h21 <| h22
    have e1 := hsa
    refine k_run ?_
    repeat ((first | refine w_sch (id := 5) (.q 0 <| .q 1 <| .q 2 <| .l 3 [0] <| .l 4 [] <| .q 5 <| .q 6 <| .q 7 <| .l 8 [5] <| .q 9 <| .q 10 <| .q 11 <| .q 12 <| .q 13 <| .q 14 <| .q 15 <| .q 16 <| .q 17 <| .q 18 <| .q 19 <| .q 20 <| .q 21 <| .done) mixed (by kernel_rfl) (by kernel_rfl) ?_ | refine w_sch (id := 6) (.q 0 <| .q 1 <| .q 2 <| .l 3 [0] <| .l 4 [] <| .l 5 [] <| .done) mixed (by kernel_rfl) (by kernel_rfl) ?_ | refine w_sch (id := 16) (.q 0 <| .q 1 <| .q 2 <| .q 3 <| .q 4 <| .q 5 <| .q 6 <| .q 7 <| .q 8 <| .q 9 <| .q 10 <| .q 11 <| .q 12 <| .q 13 <| .l 14 [11, 10, 8, 7, 6, 5, 4, 3, 2, 1, 0] <| .l 15 [10, 8, 7, 6, 5, 4, 3, 2, 1, 0] <| .q 16 <| .q 17 <| .q 18 <| .q 19 <| .q 20 <| .q 21 <| .l 22 [19, 18, 16, 10, 8, 7, 6, 5, 4, 3, 2, 1, 0] <| .l 23 [18, 16, 10, 8, 7, 6, 5, 4, 3, 2, 1, 0] <| .q 24 <| .q 25 <| .q 26 <| .q 27 <| .q 28 <| .q 29 <| .l 30 [27, 26, 24, 18, 16, 10, 8, 7, 6, 5, 4, 3, 2, 1, 0] <| .l 31 [26, 24, 18, 16, 10, 8, 7, 6, 5, 4, 3, 2, 1, 0] <| .q 32 <| .q 33 <| .q 34 <| .q 35 <| .q 36 <| .q 37 <| .q 38 <| .q 39 <| .q 40 <| .q 41 <| .q 42 <| .q 43 <| .l 44 [] <| .done) mixed (by kernel_rfl) (by kernel_rfl) ?_); refine k_rund ?_; refine k_run ?_)
    clear fx e1
    rintro y H3 ⟨rfl, hO⟩
    obtain ⟨q1, q2, q3, q4, q5⟩ := hO.hcln
    refine ⟨by simp, ?_⟩
    have fx := And.intro h3 <| And.intro hp3 <| And.intro h4 <| And.intro h5 <| And.intro hp5 <| And.intro h20 <| And.intro h21 <| And.intro h22 <| And.intro hb0 <| And.intro hbl <| @bne_def
    have c1 := heq
    have c2 := hvp
    have e1 := hsa
    refine k_run ?_
    repeat ((first | refine w_sch (id := 5) (.q 0 <| .q 1 <| .q 2 <| .l 3 [0] <| .l 4 [] <| .q 5 <| .q 6 <| .q 7 <| .l 8 [5] <| .q 9 <| .q 10 <| .q 11 <| .q 12 <| .q 13 <| .q 14 <| .q 15 <| .q 16 <| .q 17 <| .q 18 <| .q 19 <| .q 20 <| .q 21 <| .done) mixed (by kernel_rfl) (by kernel_rfl) ?_ | refine w_sch (id := 6) (.q 0 <| .q 1 <| .q 2 <| .l 3 [0] <| .l 4 [] <| .l 5 [] <| .done) mixed (by kernel_rfl) (by kernel_rfl) ?_ | refine w_sch (id := 16) (.q 0 <| .q 1 <| .q 2 <| .q 3 <| .q 4 <| .q 5 <| .q 6 <| .q 7 <| .q 8 <| .q 9 <| .q 10 <| .q 11 <| .q 12 <| .q 13 <| .l 14 [11, 10, 8, 7, 6, 5, 4, 3, 2, 1, 0] <| .l 15 [10, 8, 7, 6, 5, 4, 3, 2, 1, 0] <| .q 16 <| .q 17 <| .q 18 <| .q 19 <| .q 20 <| .q 21 <| .l 22 [19, 18, 16, 10, 8, 7, 6, 5, 4, 3, 2, 1, 0] <| .l 23 [18, 16, 10, 8, 7, 6, 5, 4, 3, 2, 1, 0] <| .q 24 <| .q 25 <| .q 26 <| .q 27 <| .q 28 <| .q 29 <| .l 30 [27, 26, 24, 18, 16, 10, 8, 7, 6, 5, 4, 3, 2, 1, 0] <| .l 31 [26, 24, 18, 16, 10, 8, 7, 6, 5, 4, 3, 2, 1, 0] <| .q 32 <| .q 33 <| .q 34 <| .q 35 <| .q 36 <| .q 37 <| .q 38 <| .q 39 <| .q 40 <| .q 41 <| .q 42 <| .q 43 <| .l 44 [] <| .done) mixed (by kernel_rfl) (by kernel_rfl) ?_); refine k_rund ?_; refine k_run ?_)
    clear fx c1 c2 e1
    rintro K hK y H4 ⟨rfl, hO⟩
    obtain ⟨q1, q2, q3, q4, q5⟩ := hO.hcln
    refine ⟨by simp, ?_⟩
    have fx := And.intro h3 <| And.intro hp3 <| And.intro h4 <| And.intro h5 <| And.intro hp5 <| @bne_def
    have c1 := heq
    refine k_run ?_
    repeat ((first | refine w_sch (id := 5) (.q 0 <| .q 1 <| .q 2 <| .l 3 [0] <| .l 4 [] <| .q 5 <| .q 6 <| .q 7 <| .l 8 [5] <| .q 9 <| .q 10 <| .q 11 <| .q 12 <| .q 13 <| .q 14 <| .q 15 <| .q 16 <| .q 17 <| .q 18 <| .q 19 <| .q 20 <| .q 21 <| .done) mixed (by kernel_rfl) (by kernel_rfl) ?_ | refine w_sch (id := 6) (.q 0 <| .q 1 <| .q 2 <| .l 3 [0] <| .l 4 [] <| .l 5 [] <| .done) mixed (by kernel_rfl) (by kernel_rfl) ?_ | refine w_sch (id := 16) (.q 0 <| .q 1 <| .q 2 <| .q 3 <| .q 4 <| .q 5 <| .q 6 <| .q 7 <| .q 8 <| .q 9 <| .q 10 <| .q 11 <| .q 12 <| .q 13 <| .l 14 [11, 10, 8, 7, 6, 5, 4, 3, 2, 1, 0] <| .l 15 [10, 8, 7, 6, 5, 4, 3, 2, 1, 0] <| .q 16 <| .q 17 <| .q 18 <| .q 19 <| .q 20 <| .q 21 <| .l 22 [19, 18, 16, 10, 8, 7, 6, 5, 4, 3, 2, 1, 0] <| .l 23 [18, 16, 10, 8, 7, 6, 5, 4, 3, 2, 1, 0] <| .q 24 <| .q 25 <| .q 26 <| .q 27 <| .q 28 <| .q 29 <| .l 30 [27, 26, 24, 18, 16, 10, 8, 7, 6, 5, 4, 3, 2, 1, 0] <| .l 31 [26, 24, 18, 16, 10, 8, 7, 6, 5, 4, 3, 2, 1, 0] <| .q 32 <| .q 33 <| .q 34 <| .q 35 <| .q 36 <| .q 37 <| .q 38 <| .q 39 <| .q 40 <| .q 41 <| .q 42 <| .q 43 <| .l 44 [] <| .done) mixed (by kernel_rfl) (by kernel_rfl) ?_); refine k_rund ?_; refine k_run ?_)
    clear fx c1
    refine e_ret [] .nil (by simp; rfl) (by simp)
  obtain ⟨B, rfl⟩ : ∃ B : Nat, b = B := ⟨b.toNat, by omega⟩
  have hBl : B < p.length := by omega
  have hBl2 : ¬ p.length ≤ B := by omega
  obtain ⟨k, hk⟩ : ∃ k, p[B]? = some k := ⟨_, List.getElem?_eq_getElem hBl⟩
  obtain ⟨_, hBE⟩ := List.getElem?_eq_some_iff.1 hk
  have hP := lookP_of hs hv
  have hp := hP.sh
  have hblk : blkAt p B = true := by simp [blkAt, hv, hBl]
  have hce : c = ⟨k.kind, k.params, fastsL p B, cellsL p B, freesL p B, opsL p B⟩ := by rw [← hcd]; simp [codeG, hblk, codeL, hk]
  have hfa := FastsOf_fn gl p B k hk hs hv
  have hcl := CellsOf_fn gl p B k hk hs hv
  have hfr := FreesOf_fn gl p B k hk hs hv
  have hin := opsL_in hp hk
  have htk : ticks (opsL p B) = k.body.length := by simp [opsL, hk, ticks_body]
  have hol := opsL_len (b := B) hp
  have hf8 := fastsL_len (p := p) (b := B)
  have hc8 := cellsL_len (p := p) (b := B)
  have hr8 := freesL_len (p := p) (b := B)
  have hkd : c.kind = k.kind := by rw [hce]
  rw [show fastsL p B = c.fasts by rw [hce]] at hfa hf8
  rw [show cellsL p B = c.cells by rw [hce]] at hcl hc8
  rw [show freesL p B = c.frees by rw [hce]] at hfr hr8
  have hin' : ∀ o ∈ c.ops, 0 ≤ o.2 ∧ (2 ≤ o.1 → o.1 ≤ 4 → o.2 < c.fasts.length) ∧ (5 ≤ o.1 → o.1 ≤ 7 → o.2 < (c.cells.length : Int) + c.frees.length) := by
    rw [hce]
    exact hin
  rw [show opsL p B = c.ops by rw [hce]] at htk hol
  have hwcf : IntKind.i64.wrap ((c.cells.length : Int) + c.frees.length) = (c.cells.length : Int) + c.frees.length := wrp (by omega) (by omega)
  clear hin hce hcd
  have fx := And.intro h3 <| And.intro hp3 <| And.intro h4 <| And.intro h5 <| And.intro hp5 <| And.intro h20 <| And.intro h21 <| h22
  have e1 := hsa
  refine k_run ?_
  repeat ((first | refine w_sch (id := 5) (.q 0 <| .q 1 <| .q 2 <| .l 3 [0] <| .l 4 [] <| .q 5 <| .q 6 <| .q 7 <| .l 8 [5] <| .q 9 <| .q 10 <| .q 11 <| .q 12 <| .q 13 <| .q 14 <| .q 15 <| .q 16 <| .q 17 <| .q 18 <| .q 19 <| .q 20 <| .q 21 <| .done) mixed (by kernel_rfl) (by kernel_rfl) ?_ | refine w_sch (id := 6) (.q 0 <| .q 1 <| .q 2 <| .l 3 [0] <| .l 4 [] <| .l 5 [] <| .done) mixed (by kernel_rfl) (by kernel_rfl) ?_ | refine w_sch (id := 16) (.q 0 <| .q 1 <| .q 2 <| .q 3 <| .q 4 <| .q 5 <| .q 6 <| .q 7 <| .q 8 <| .q 9 <| .q 10 <| .q 11 <| .q 12 <| .q 13 <| .l 14 [11, 10, 8, 7, 6, 5, 4, 3, 2, 1, 0] <| .l 15 [10, 8, 7, 6, 5, 4, 3, 2, 1, 0] <| .q 16 <| .q 17 <| .q 18 <| .q 19 <| .q 20 <| .q 21 <| .l 22 [19, 18, 16, 10, 8, 7, 6, 5, 4, 3, 2, 1, 0] <| .l 23 [18, 16, 10, 8, 7, 6, 5, 4, 3, 2, 1, 0] <| .q 24 <| .q 25 <| .q 26 <| .q 27 <| .q 28 <| .q 29 <| .l 30 [27, 26, 24, 18, 16, 10, 8, 7, 6, 5, 4, 3, 2, 1, 0] <| .l 31 [26, 24, 18, 16, 10, 8, 7, 6, 5, 4, 3, 2, 1, 0] <| .q 32 <| .q 33 <| .q 34 <| .q 35 <| .q 36 <| .q 37 <| .q 38 <| .q 39 <| .q 40 <| .q 41 <| .q 42 <| .q 43 <| .l 44 [] <| .done) mixed (by kernel_rfl) (by kernel_rfl) ?_); refine k_rund ?_; refine k_run ?_)
  clear fx e1
  rintro y H3 ⟨rfl, hO⟩
  obtain ⟨q1, q2, q3, q4, q5⟩ := hO.hcln
  refine ⟨by simp, ?_⟩
  have fx := And.intro h3 <| And.intro hp3 <| And.intro h4 <| And.intro h5 <| And.intro hp5 <| And.intro h20 <| And.intro h21 <| And.intro h22 <| And.intro hb0 <| And.intro hbl <| And.intro hBl2 <| And.intro a1 <| @bne_def
  have c1 := heq
  have c2 := hvp
  refine k_run ?_
  repeat ((first | refine w_sch (id := 5) (.q 0 <| .q 1 <| .q 2 <| .l 3 [0] <| .l 4 [] <| .q 5 <| .q 6 <| .q 7 <| .l 8 [5] <| .q 9 <| .q 10 <| .q 11 <| .q 12 <| .q 13 <| .q 14 <| .q 15 <| .q 16 <| .q 17 <| .q 18 <| .q 19 <| .q 20 <| .q 21 <| .done) mixed (by kernel_rfl) (by kernel_rfl) ?_ | refine w_sch (id := 6) (.q 0 <| .q 1 <| .q 2 <| .l 3 [0] <| .l 4 [] <| .l 5 [] <| .done) mixed (by kernel_rfl) (by kernel_rfl) ?_ | refine w_sch (id := 16) (.q 0 <| .q 1 <| .q 2 <| .q 3 <| .q 4 <| .q 5 <| .q 6 <| .q 7 <| .q 8 <| .q 9 <| .q 10 <| .q 11 <| .q 12 <| .q 13 <| .l 14 [11, 10, 8, 7, 6, 5, 4, 3, 2, 1, 0] <| .l 15 [10, 8, 7, 6, 5, 4, 3, 2, 1, 0] <| .q 16 <| .q 17 <| .q 18 <| .q 19 <| .q 20 <| .q 21 <| .l 22 [19, 18, 16, 10, 8, 7, 6, 5, 4, 3, 2, 1, 0] <| .l 23 [18, 16, 10, 8, 7, 6, 5, 4, 3, 2, 1, 0] <| .q 24 <| .q 25 <| .q 26 <| .q 27 <| .q 28 <| .q 29 <| .l 30 [27, 26, 24, 18, 16, 10, 8, 7, 6, 5, 4, 3, 2, 1, 0] <| .l 31 [26, 24, 18, 16, 10, 8, 7, 6, 5, 4, 3, 2, 1, 0] <| .q 32 <| .q 33 <| .q 34 <| .q 35 <| .q 36 <| .q 37 <| .q 38 <| .q 39 <| .q 40 <| .q 41 <| .q 42 <| .q 43 <| .l 44 [] <| .done) mixed (by kernel_rfl) (by kernel_rfl) ?_); refine k_rund ?_; refine k_run ?_)
  clear fx c1 c2
  refine w_loop (fun n st => ∃ i : Nat, n = c.ops.length - i ∧ i ≤ c.ops.length ∧ st.tm 7 = iv i ∧ st.tm 6 = iv (ticks (c.ops.take i)) ∧ BoxP st 3 p ∧ st.tm 4 = iv B ∧ st.tm 5 = .pt (.s 5) 0 ∧ st.hp (.s 5) = some (.row 6 [c.own (.s 19) 0]) ∧ OwnK st.hp (.s 19) 0 c) c.ops.length ?_ ?_
  · exact ⟨0, by omega, by omega, by simp, by simp [ticks], ⟨by simp [h3], by simp [hp3], ⟨by simp [a1], fun j r hj => by simp [a2 j r hj], fun j r hj => by simp [a3 j r hj]⟩⟩, by simp [h4], by simp [h5], by simp [hp5], ⟨by simp [o1], by simp [o2], by simp [o3], by simp [o4], by simp [o5]⟩⟩
  clear h3 hp3 a1 a2 a3 h4 h5 hp5 o1 o2 o3 o4 o5 h20 h21 h22 hO q1 q2 q3 q4 q5
  rintro n st - - ⟨i, rfl, hi, h7, h6, ⟨h3, hp3, ⟨a1, a2, a3⟩⟩, h4, h5, hp5, ⟨o1, o2, o3, o4, o5⟩⟩
  simp only [Cod.own_eq] at hp5
  by_cases hil : i < c.ops.length
  · obtain ⟨o, ho⟩ : ∃ o, c.ops[i]? = some o := ⟨_, List.getElem?_eq_getElem hil⟩
    obtain ⟨_, hoE⟩ := List.getElem?_eq_some_iff.1 ho
    obtain ⟨w0, w1, w2⟩ := hin' o (List.mem_of_getElem? ho)
    have n0 : ¬ o.2 < 0 := by omega
    have htt := ticks_take ho
    have htl : ticks (c.ops.take i) ≤ i := Nat.le_trans ticks_le (by simp; omega)
    have hwt : IntKind.i64.wrap ((ticks (c.ops.take i) : Int) + 1) = (ticks (c.ops.take i) : Int) + 1 := wrp (by omega) (by omega)
    generalize ticks (c.ops.take i) = T at h6 htt hwt
    by_cases hA : 2 ≤ o.1 ∧ o.1 ≤ 4
    · obtain ⟨hA1, hA2⟩ := hA
      have m1 : ¬ (c.fasts.length : Int) ≤ o.2 := by have := w1 hA1 hA2; omega
      have m2 : ¬ 5 ≤ o.1 := by omega
      have m3 : (o.1 == 0) = false := by simp; omega
      have e0 : ¬ o.1 = 0 := by omega
      have fx := And.intro h7 <| And.intro h6 <| And.intro h5 <| And.intro hp5 <| And.intro o5 <| And.intro hil <| And.intro ho <| And.intro hoE <| And.intro n0 <| And.intro hA1 <| And.intro hA2 <| And.intro m1 <| And.intro m2 <| m3
      refine k_run ?_
      repeat ((first | refine w_sch (id := 5) (.q 0 <| .q 1 <| .q 2 <| .l 3 [0] <| .l 4 [] <| .q 5 <| .q 6 <| .q 7 <| .l 8 [5] <| .q 9 <| .q 10 <| .q 11 <| .q 12 <| .q 13 <| .q 14 <| .q 15 <| .q 16 <| .q 17 <| .q 18 <| .q 19 <| .q 20 <| .q 21 <| .done) mixed (by kernel_rfl) (by kernel_rfl) ?_ | refine w_sch (id := 6) (.q 0 <| .q 1 <| .q 2 <| .l 3 [0] <| .l 4 [] <| .l 5 [] <| .done) mixed (by kernel_rfl) (by kernel_rfl) ?_ | refine w_sch (id := 16) (.q 0 <| .q 1 <| .q 2 <| .q 3 <| .q 4 <| .q 5 <| .q 6 <| .q 7 <| .q 8 <| .q 9 <| .q 10 <| .q 11 <| .q 12 <| .q 13 <| .l 14 [11, 10, 8, 7, 6, 5, 4, 3, 2, 1, 0] <| .l 15 [10, 8, 7, 6, 5, 4, 3, 2, 1, 0] <| .q 16 <| .q 17 <| .q 18 <| .q 19 <| .q 20 <| .q 21 <| .l 22 [19, 18, 16, 10, 8, 7, 6, 5, 4, 3, 2, 1, 0] <| .l 23 [18, 16, 10, 8, 7, 6, 5, 4, 3, 2, 1, 0] <| .q 24 <| .q 25 <| .q 26 <| .q 27 <| .q 28 <| .q 29 <| .l 30 [27, 26, 24, 18, 16, 10, 8, 7, 6, 5, 4, 3, 2, 1, 0] <| .l 31 [26, 24, 18, 16, 10, 8, 7, 6, 5, 4, 3, 2, 1, 0] <| .q 32 <| .q 33 <| .q 34 <| .q 35 <| .q 36 <| .q 37 <| .q 38 <| .q 39 <| .q 40 <| .q 41 <| .q 42 <| .q 43 <| .l 44 [] <| .done) mixed (by kernel_rfl) (by kernel_rfl) ?_); refine k_rund ?_; refine k_run ?_)
      clear fx
      exact ⟨c.ops.length - (i + 1), by omega, i + 1, rfl, by omega, by simp; exact wrp (by omega) (by omega), by simp [htt, e0, h6], ⟨by simp [h3], by simp [hp3], ⟨by simp [a1], fun j r hj => by simp [a2 j r hj], fun j r hj => by simp [a3 j r hj]⟩⟩, by simp [h4], by simp [h5], by simp [hp5], ⟨by simp [o1], by simp [o2], by simp [o3], by simp [o4], by simp [o5]⟩⟩
    by_cases hB : 5 ≤ o.1 ∧ o.1 ≤ 7
    · obtain ⟨hB1, hB2⟩ := hB
      have m1 : ¬ (c.cells.length : Int) + c.frees.length ≤ o.2 := by have := w2 hB1 hB2; omega
      have m2 : ¬ o.1 ≤ 4 := by omega
      have m4 : 2 ≤ o.1 := by omega
      have m3 : (o.1 == 0) = false := by simp; omega
      have e0 : ¬ o.1 = 0 := by omega
      have fx := And.intro h7 <| And.intro h6 <| And.intro h5 <| And.intro hp5 <| And.intro o5 <| And.intro hil <| And.intro ho <| And.intro hoE <| And.intro n0 <| And.intro hB1 <| And.intro hB2 <| And.intro m1 <| And.intro m2 <| And.intro m3 <| And.intro m4 <| hwcf
      refine k_run ?_
      repeat ((first | refine w_sch (id := 5) (.q 0 <| .q 1 <| .q 2 <| .l 3 [0] <| .l 4 [] <| .q 5 <| .q 6 <| .q 7 <| .l 8 [5] <| .q 9 <| .q 10 <| .q 11 <| .q 12 <| .q 13 <| .q 14 <| .q 15 <| .q 16 <| .q 17 <| .q 18 <| .q 19 <| .q 20 <| .q 21 <| .done) mixed (by kernel_rfl) (by kernel_rfl) ?_ | refine w_sch (id := 6) (.q 0 <| .q 1 <| .q 2 <| .l 3 [0] <| .l 4 [] <| .l 5 [] <| .done) mixed (by kernel_rfl) (by kernel_rfl) ?_ | refine w_sch (id := 16) (.q 0 <| .q 1 <| .q 2 <| .q 3 <| .q 4 <| .q 5 <| .q 6 <| .q 7 <| .q 8 <| .q 9 <| .q 10 <| .q 11 <| .q 12 <| .q 13 <| .l 14 [11, 10, 8, 7, 6, 5, 4, 3, 2, 1, 0] <| .l 15 [10, 8, 7, 6, 5, 4, 3, 2, 1, 0] <| .q 16 <| .q 17 <| .q 18 <| .q 19 <| .q 20 <| .q 21 <| .l 22 [19, 18, 16, 10, 8, 7, 6, 5, 4, 3, 2, 1, 0] <| .l 23 [18, 16, 10, 8, 7, 6, 5, 4, 3, 2, 1, 0] <| .q 24 <| .q 25 <| .q 26 <| .q 27 <| .q 28 <| .q 29 <| .l 30 [27, 26, 24, 18, 16, 10, 8, 7, 6, 5, 4, 3, 2, 1, 0] <| .l 31 [26, 24, 18, 16, 10, 8, 7, 6, 5, 4, 3, 2, 1, 0] <| .q 32 <| .q 33 <| .q 34 <| .q 35 <| .q 36 <| .q 37 <| .q 38 <| .q 39 <| .q 40 <| .q 41 <| .q 42 <| .q 43 <| .l 44 [] <| .done) mixed (by kernel_rfl) (by kernel_rfl) ?_); refine k_rund ?_; refine k_run ?_)
      clear fx
      exact ⟨c.ops.length - (i + 1), by omega, i + 1, rfl, by omega, by simp; exact wrp (by omega) (by omega), by simp [htt, e0, h6], ⟨by simp [h3], by simp [hp3], ⟨by simp [a1], fun j r hj => by simp [a2 j r hj], fun j r hj => by simp [a3 j r hj]⟩⟩, by simp [h4], by simp [h5], by simp [hp5], ⟨by simp [o1], by simp [o2], by simp [o3], by simp [o4], by simp [o5]⟩⟩
    by_cases hC : 7 < o.1
    · have m1 : ¬ o.1 ≤ 7 := by omega
      have m2 : ¬ o.1 ≤ 4 := by omega
      have m4 : 2 ≤ o.1 := by omega
      have m5 : 5 ≤ o.1 := by omega
      have m3 : (o.1 == 0) = false := by simp; omega
      have e0 : ¬ o.1 = 0 := by omega
      have fx := And.intro h7 <| And.intro h6 <| And.intro h5 <| And.intro hp5 <| And.intro o5 <| And.intro hil <| And.intro ho <| And.intro hoE <| And.intro n0 <| And.intro m1 <| And.intro m2 <| And.intro m3 <| And.intro m4 <| m5
      refine k_run ?_
      repeat ((first | refine w_sch (id := 5) (.q 0 <| .q 1 <| .q 2 <| .l 3 [0] <| .l 4 [] <| .q 5 <| .q 6 <| .q 7 <| .l 8 [5] <| .q 9 <| .q 10 <| .q 11 <| .q 12 <| .q 13 <| .q 14 <| .q 15 <| .q 16 <| .q 17 <| .q 18 <| .q 19 <| .q 20 <| .q 21 <| .done) mixed (by kernel_rfl) (by kernel_rfl) ?_ | refine w_sch (id := 6) (.q 0 <| .q 1 <| .q 2 <| .l 3 [0] <| .l 4 [] <| .l 5 [] <| .done) mixed (by kernel_rfl) (by kernel_rfl) ?_ | refine w_sch (id := 16) (.q 0 <| .q 1 <| .q 2 <| .q 3 <| .q 4 <| .q 5 <| .q 6 <| .q 7 <| .q 8 <| .q 9 <| .q 10 <| .q 11 <| .q 12 <| .q 13 <| .l 14 [11, 10, 8, 7, 6, 5, 4, 3, 2, 1, 0] <| .l 15 [10, 8, 7, 6, 5, 4, 3, 2, 1, 0] <| .q 16 <| .q 17 <| .q 18 <| .q 19 <| .q 20 <| .q 21 <| .l 22 [19, 18, 16, 10, 8, 7, 6, 5, 4, 3, 2, 1, 0] <| .l 23 [18, 16, 10, 8, 7, 6, 5, 4, 3, 2, 1, 0] <| .q 24 <| .q 25 <| .q 26 <| .q 27 <| .q 28 <| .q 29 <| .l 30 [27, 26, 24, 18, 16, 10, 8, 7, 6, 5, 4, 3, 2, 1, 0] <| .l 31 [26, 24, 18, 16, 10, 8, 7, 6, 5, 4, 3, 2, 1, 0] <| .q 32 <| .q 33 <| .q 34 <| .q 35 <| .q 36 <| .q 37 <| .q 38 <| .q 39 <| .q 40 <| .q 41 <| .q 42 <| .q 43 <| .l 44 [] <| .done) mixed (by kernel_rfl) (by kernel_rfl) ?_); refine k_rund ?_; refine k_run ?_)
      clear fx
      exact ⟨c.ops.length - (i + 1), by omega, i + 1, rfl, by omega, by simp; exact wrp (by omega) (by omega), by simp [htt, e0, h6], ⟨by simp [h3], by simp [hp3], ⟨by simp [a1], fun j r hj => by simp [a2 j r hj], fun j r hj => by simp [a3 j r hj]⟩⟩, by simp [h4], by simp [h5], by simp [hp5], ⟨by simp [o1], by simp [o2], by simp [o3], by simp [o4], by simp [o5]⟩⟩
    have m1 : ¬ 2 ≤ o.1 := by omega
    have m2 : ¬ 5 ≤ o.1 := by omega
    cases ht : (o.1 == 0)
    · have e0 : ¬ o.1 = 0 := by simpa using ht
      have fx := And.intro h7 <| And.intro h6 <| And.intro h5 <| And.intro hp5 <| And.intro o5 <| And.intro hil <| And.intro ho <| And.intro hoE <| And.intro n0 <| And.intro m1 <| And.intro m2 <| ht
      refine k_run ?_
      repeat ((first | refine w_sch (id := 5) (.q 0 <| .q 1 <| .q 2 <| .l 3 [0] <| .l 4 [] <| .q 5 <| .q 6 <| .q 7 <| .l 8 [5] <| .q 9 <| .q 10 <| .q 11 <| .q 12 <| .q 13 <| .q 14 <| .q 15 <| .q 16 <| .q 17 <| .q 18 <| .q 19 <| .q 20 <| .q 21 <| .done) mixed (by kernel_rfl) (by kernel_rfl) ?_ | refine w_sch (id := 6) (.q 0 <| .q 1 <| .q 2 <| .l 3 [0] <| .l 4 [] <| .l 5 [] <| .done) mixed (by kernel_rfl) (by kernel_rfl) ?_ | refine w_sch (id := 16) (.q 0 <| .q 1 <| .q 2 <| .q 3 <| .q 4 <| .q 5 <| .q 6 <| .q 7 <| .q 8 <| .q 9 <| .q 10 <| .q 11 <| .q 12 <| .q 13 <| .l 14 [11, 10, 8, 7, 6, 5, 4, 3, 2, 1, 0] <| .l 15 [10, 8, 7, 6, 5, 4, 3, 2, 1, 0] <| .q 16 <| .q 17 <| .q 18 <| .q 19 <| .q 20 <| .q 21 <| .l 22 [19, 18, 16, 10, 8, 7, 6, 5, 4, 3, 2, 1, 0] <| .l 23 [18, 16, 10, 8, 7, 6, 5, 4, 3, 2, 1, 0] <| .q 24 <| .q 25 <| .q 26 <| .q 27 <| .q 28 <| .q 29 <| .l 30 [27, 26, 24, 18, 16, 10, 8, 7, 6, 5, 4, 3, 2, 1, 0] <| .l 31 [26, 24, 18, 16, 10, 8, 7, 6, 5, 4, 3, 2, 1, 0] <| .q 32 <| .q 33 <| .q 34 <| .q 35 <| .q 36 <| .q 37 <| .q 38 <| .q 39 <| .q 40 <| .q 41 <| .q 42 <| .q 43 <| .l 44 [] <| .done) mixed (by kernel_rfl) (by kernel_rfl) ?_); refine k_rund ?_; refine k_run ?_)
      clear fx
      exact ⟨c.ops.length - (i + 1), by omega, i + 1, rfl, by omega, by simp; exact wrp (by omega) (by omega), by simp [htt, e0, h6], ⟨by simp [h3], by simp [hp3], ⟨by simp [a1], fun j r hj => by simp [a2 j r hj], fun j r hj => by simp [a3 j r hj]⟩⟩, by simp [h4], by simp [h5], by simp [hp5], ⟨by simp [o1], by simp [o2], by simp [o3], by simp [o4], by simp [o5]⟩⟩
    · have e0 : o.1 = 0 := by simpa using ht
      have fx := And.intro h7 <| And.intro h6 <| And.intro h5 <| And.intro hp5 <| And.intro o5 <| And.intro hil <| And.intro ho <| And.intro hoE <| And.intro n0 <| And.intro m1 <| And.intro m2 <| And.intro ht <| hwt
      refine k_run ?_
      repeat ((first | refine w_sch (id := 5) (.q 0 <| .q 1 <| .q 2 <| .l 3 [0] <| .l 4 [] <| .q 5 <| .q 6 <| .q 7 <| .l 8 [5] <| .q 9 <| .q 10 <| .q 11 <| .q 12 <| .q 13 <| .q 14 <| .q 15 <| .q 16 <| .q 17 <| .q 18 <| .q 19 <| .q 20 <| .q 21 <| .done) mixed (by kernel_rfl) (by kernel_rfl) ?_ | refine w_sch (id := 6) (.q 0 <| .q 1 <| .q 2 <| .l 3 [0] <| .l 4 [] <| .l 5 [] <| .done) mixed (by kernel_rfl) (by kernel_rfl) ?_ | refine w_sch (id := 16) (.q 0 <| .q 1 <| .q 2 <| .q 3 <| .q 4 <| .q 5 <| .q 6 <| .q 7 <| .q 8 <| .q 9 <| .q 10 <| .q 11 <| .q 12 <| .q 13 <| .l 14 [11, 10, 8, 7, 6, 5, 4, 3, 2, 1, 0] <| .l 15 [10, 8, 7, 6, 5, 4, 3, 2, 1, 0] <| .q 16 <| .q 17 <| .q 18 <| .q 19 <| .q 20 <| .q 21 <| .l 22 [19, 18, 16, 10, 8, 7, 6, 5, 4, 3, 2, 1, 0] <| .l 23 [18, 16, 10, 8, 7, 6, 5, 4, 3, 2, 1, 0] <| .q 24 <| .q 25 <| .q 26 <| .q 27 <| .q 28 <| .q 29 <| .l 30 [27, 26, 24, 18, 16, 10, 8, 7, 6, 5, 4, 3, 2, 1, 0] <| .l 31 [26, 24, 18, 16, 10, 8, 7, 6, 5, 4, 3, 2, 1, 0] <| .q 32 <| .q 33 <| .q 34 <| .q 35 <| .q 36 <| .q 37 <| .q 38 <| .q 39 <| .q 40 <| .q 41 <| .q 42 <| .q 43 <| .l 44 [] <| .done) mixed (by kernel_rfl) (by kernel_rfl) ?_); refine k_rund ?_; refine k_run ?_)
      clear fx
      exact ⟨c.ops.length - (i + 1), by omega, i + 1, rfl, by omega, by simp; exact wrp (by omega) (by omega), by simp [htt, e0, hwt], ⟨by simp [h3], by simp [hp3], ⟨by simp [a1], fun j r hj => by simp [a2 j r hj], fun j r hj => by simp [a3 j r hj]⟩⟩, by simp [h4], by simp [h5], by simp [hp5], ⟨by simp [o1], by simp [o2], by simp [o3], by simp [o4], by simp [o5]⟩⟩
  · have hge : i = c.ops.length := by omega
    rw [hge, List.take_length, htk] at h6
    have hq1 := equalInts_fn gl c.fasts c.fasts (by omega) (by omega)
    have hq2 := equalInts_fn gl c.cells c.cells (by omega) (by omega)
    have hq3 := equalInts_fn gl c.frees c.frees (by omega) (by omega)
    have fx := And.intro h7 <| And.intro h6 <| And.intro h3 <| And.intro hp3 <| And.intro a1 <| And.intro h4 <| And.intro h5 <| And.intro hp5 <| And.intro o2 <| And.intro o3 <| And.intro o4 <| And.intro o5 <| And.intro hil <| And.intro hk <| And.intro hBl <| And.intro hBE <| hkd
    have c1 := hq1
    have c2 := hq2
    have c3 := hq3
    have d1 := hfa
    have d2 := hcl
    have d3 := hfr
    refine k_run ?_
    repeat ((first | refine w_sch (id := 5) (.q 0 <| .q 1 <| .q 2 <| .l 3 [0] <| .l 4 [] <| .q 5 <| .q 6 <| .q 7 <| .l 8 [5] <| .q 9 <| .q 10 <| .q 11 <| .q 12 <| .q 13 <| .q 14 <| .q 15 <| .q 16 <| .q 17 <| .q 18 <| .q 19 <| .q 20 <| .q 21 <| .done) mixed (by kernel_rfl) (by kernel_rfl) ?_ | refine w_sch (id := 6) (.q 0 <| .q 1 <| .q 2 <| .l 3 [0] <| .l 4 [] <| .l 5 [] <| .done) mixed (by kernel_rfl) (by kernel_rfl) ?_ | refine w_sch (id := 16) (.q 0 <| .q 1 <| .q 2 <| .q 3 <| .q 4 <| .q 5 <| .q 6 <| .q 7 <| .q 8 <| .q 9 <| .q 10 <| .q 11 <| .q 12 <| .q 13 <| .l 14 [11, 10, 8, 7, 6, 5, 4, 3, 2, 1, 0] <| .l 15 [10, 8, 7, 6, 5, 4, 3, 2, 1, 0] <| .q 16 <| .q 17 <| .q 18 <| .q 19 <| .q 20 <| .q 21 <| .l 22 [19, 18, 16, 10, 8, 7, 6, 5, 4, 3, 2, 1, 0] <| .l 23 [18, 16, 10, 8, 7, 6, 5, 4, 3, 2, 1, 0] <| .q 24 <| .q 25 <| .q 26 <| .q 27 <| .q 28 <| .q 29 <| .l 30 [27, 26, 24, 18, 16, 10, 8, 7, 6, 5, 4, 3, 2, 1, 0] <| .l 31 [26, 24, 18, 16, 10, 8, 7, 6, 5, 4, 3, 2, 1, 0] <| .q 32 <| .q 33 <| .q 34 <| .q 35 <| .q 36 <| .q 37 <| .q 38 <| .q 39 <| .q 40 <| .q 41 <| .q 42 <| .q 43 <| .l 44 [] <| .done) mixed (by kernel_rfl) (by kernel_rfl) ?_); refine k_rund ?_; refine k_run ?_)
    clear fx c1 c2 c3 d1 d2 d3
    refine e_ret [] .nil (by simp; rfl) (by simp)
end Go.Proofs.YtmpbjmihjelhgaaDoor
end
