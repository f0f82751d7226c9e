/-
  Own texts, joined by mkclaim.py: Kz, Ks.
-/
import Derived.Test.YtmpbjmihjelhgaaDoorM32
set_option linter.unusedSimpArgs false
set_option linter.unusedVariables false

section
/-
  What is known of the heights of a block's orders.
-/
set_option maxRecDepth 100000
set_option maxHeartbeats 1000000
set_option linter.unusedSimpArgs false
namespace Go.Proofs.YtmpbjmihjelhgaaDoor
open Go Go.Hm Go.Proofs

/-- what is known of the heights of a block's orders -/
structure HgtOk (L : List Int) (ops : List (Int × Int)) : Prop where
  len : L.length = ops.length
  small : ops.length ≤ 60
  at' : ∀ (i : Nat) v o, L[i]? = some v → ops[i]? = some o → 0 ≤ v ∧ v ≤ 2 ∧ (o.1 = 0 → v = 0)
  last : ∀ n, L.length = n + 1 → L[n]? = some 0
theorem heights_ok {p : Prg} {b : Int} (hs : Sml p) : HgtOk (heightsG p b) (codeG p b).ops := by
  cases hb : blkAt p b
  · have h1 : heightsG p b = [] := by simp [heightsG, hb]
    have h2 : codeG p b = noCode := by simp [codeG, hb]
    rw [h1, h2]
    exact ⟨rfl, by simp, fun i v o h => by simp at h, fun n h => by simp at h⟩
  · obtain ⟨B, k, rfl, hk, hP, _⟩ := blkAt_parts hs hb
    have h1 : codeG p B = codeL p B := by simp [codeG, hb]
    have hops : (codeL p B).ops = opsL p B := by simp [codeL, hk]
    have h2 : heightsG p B = heightsL (opsL p B) := by simp [heightsG, hb]
    have hlev := opsL_lev (b := B) hP.sh
    rw [h1, hops, h2]
    have hget : ∀ i, i < (opsL p B).length → (heightsL (opsL p B))[i]? = some (sumO ((opsL p B).take (i + 1))) := fun i hi => by simp [heightsL, hi]
    refine ⟨by simp [heightsL], opsL_len hP.sh, fun i v o hv ho => ?_, fun n hn => ?_⟩
    · have hi := (List.getElem?_eq_some_iff.1 ho).1
      rw [hget i hi] at hv
      obtain rfl := Option.some.inj hv
      exact hlev.at' i o ho
    · have hl : (opsL p B).length = n + 1 := by simpa [heightsL] using hn
      rw [hget n (by omega), ← hl, List.take_length, hlev.sum]
end Go.Proofs.YtmpbjmihjelhgaaDoor
end

section
/-
  The law that statements leave nothing behind.
-/
set_option maxRecDepth 100000
set_option maxHeartbeats 4000000
set_option linter.unusedSimpArgs false
namespace Go.Proofs.YtmpbjmihjelhgaaDoor
open Go Go.Hm Go.Proofs

theorem FnHeightsOf_fn (gl : Nat → Option (List AV)) (hgl : gl 1 = some codesL) (hge : gl 0 = some effectsL) (code : List Int) (hcode : ∀ v ∈ code, 0 ≤ v ∧ v ≤ 255) (hbig : code.length ≤ 1152921504606846976) :
    FnOk Tryd.prog gl 9 [bsl code] (fun _ z _ => z = bv true) := by
  refine FnOk.of_sem Tryd.func9 rfl (by kernel_rfl) (rs := [.tmp 2]) rfl Tryd.ntmps9 (Nat.le_of_ble_eq_true rfl) fun C w g root => ?_
  by_cases hlen : 1048576 < code.length
  · have hl1 : (1048576 : Int) < code.length := by omega
    have fx :=  hl1
    refine k_run ?_
    clear fx
    refine e_ret [] .nil (by simp; rfl) (by simp)
  have hl1 : ¬ (1048576 : Int) < code.length := by omega
  have hc : CodeOk code := ⟨by omega, hcode⟩
  have fx :=  hl1
  have e1 := DrawHeightsOf_fn gl code hc
  refine k_run ?_
  clear fx e1
  rintro K hK z H1 ⟨p, b, rfl, hO, hs⟩
  obtain ⟨ho1, ho2, ho3⟩ := hO.hcln
  refine ⟨by simp, ?_⟩
  have hia := impl_HeightsOf_fn gl hgl hge p b hs
  have hsa := spec_HeightsOf_fn gl p b hs
  have hcb := impl_CompileBlock_fn gl hgl p b hs
  have hok := heights_ok (b := b) hs
  generalize heightsG p b = L at hia hsa hok
  generalize codeG p b = c at hcb hok
  have hll : L.length ≤ 1048576 := by rw [hok.len]; exact Nat.le_trans hok.small (by decide)
  have fx :=  ho1
  have d1 := hia
  refine k_run ?_
  clear fx d1
  intro K hK
  refine o_abs (fun st => BoxP st 3 p ∧ st.tm 4 = iv b ∧ st.tm 5 = .hs (.s 5) 1 0 L.length ∧ st.hp (.s 5) = some (.row 1 (irows L)) ∧ st.tm 19 = .hs (.s 5) 1 0 L.length ∧ st.tm 20 = .agg [.hs (.c (.s 3) 0 0) 4 0 p.length] ∧ st.tm 21 = iv b) ⟨⟨by simp, by simp, ⟨by simp [ho1], fun j r hj => by simp [ho2 j r hj], fun j r hj => by simp [ho3 j r hj]⟩⟩, by simp, by simp, by simp, by simp, by simp, by simp⟩ ?_
  clear hO ho1 ho2 ho3
  rintro st ⟨⟨h3, hp3, ⟨a1, a2, a3⟩⟩, h4, h5, hp5, h19, h20, h21⟩
  by_cases h0 : L = []
  · subst h0
    have fx := And.intro h3 <| And.intro hp3 <| And.intro h4 <| And.intro h5 <| And.intro hp5 <| And.intro h19 <| And.intro h20 <| h21
    have c1 := equalInts_fn gl [] [] hll hll
    have d1 := hsa
    refine k_run ?_
    clear fx c1 d1
    refine e_ret [] .nil (by simp; rfl) (by simp)
  have h0n : L.length ≠ 0 := fun e => h0 (List.eq_nil_of_length_eq_zero e)
  have h0' : ((L.length : Int) == 0) = false := by simp only [beq_eq_false_iff_ne, ne_eq]; omega
  have fx := And.intro h3 <| And.intro hp3 <| And.intro h4 <| And.intro h5 <| And.intro hp5 <| And.intro h19 <| And.intro h20 <| And.intro h21 <| h0'
  have c1 := equalInts_fn gl L L hll hll
  have d1 := hsa
  have e1 := hcb
  refine k_run ?_
  clear fx c1 d1 e1
  rintro K hK y H2 ⟨rfl, hO⟩
  obtain ⟨o1, o2, o3, o4, o5⟩ := hO.hcln
  refine ⟨by simp, ?_⟩
  have fx :=  o5
  refine k_run ?_
  clear fx
  refine w_loop (fun n st => ∃ i : Nat, n = L.length - i ∧ i ≤ L.length ∧ st.tm 7 = iv i ∧ st.tm 5 = .hs (.s 5) 1 0 L.length ∧ st.hp (.s 5) = some (.row 1 (irows L)) ∧ st.tm 6 = .hs (.c (.s 37) 0 5) 2 0 c.ops.length ∧ st.hp (.c (.s 37) 0 5) = some (.row 2 (orows c.ops))) L.length ?_ ?_
  · exact ⟨0, by omega, by omega, by simp, by simp [h5], by simp [hp5], by simp, by simp [o5]⟩
  clear h3 hp3 a1 a2 a3 h4 h5 hp5 h19 h20 h21 o1 o2 o3 o4 o5 hO
  rintro n st - - ⟨i, rfl, hi, h7, h5, hp5, h6, hp6⟩
  have hlo := hok.len
  by_cases hil : i < L.length
  · obtain ⟨v, hv⟩ : ∃ v, L[i]? = some v := ⟨_, List.getElem?_eq_getElem hil⟩
    obtain ⟨_, hvE⟩ := List.getElem?_eq_some_iff.1 hv
    have hio : i < c.ops.length := by omega
    obtain ⟨o, ho⟩ : ∃ o, c.ops[i]? = some o := ⟨_, List.getElem?_eq_getElem hio⟩
    obtain ⟨_, hoE⟩ := List.getElem?_eq_some_iff.1 ho
    obtain ⟨hv0, hv2, hv3⟩ := hok.at' i v o hv ho
    have n0 : ¬ v < 0 := by omega
    have n2 : ¬ 2 < v := by omega
    cases ht : (o.1 == 0)
    · skip
      have fx := And.intro h7 <| And.intro h5 <| And.intro hp5 <| And.intro h6 <| And.intro hp6 <| And.intro hil <| And.intro hio <| And.intro hv <| And.intro hvE <| And.intro ho <| And.intro hoE <| And.intro n0 <| And.intro n2 <| And.intro ht <| @bne_def
      refine k_run ?_
      clear fx
      exact ⟨L.length - (i + 1), by omega, i + 1, rfl, by omega, by simp; exact wrp (by omega) (by omega), by simp [h5], by simp [hp5], by simp [h6], by simp [hp6]⟩
    · have hve : v = 0 := hv3 (by simpa using ht)
      subst hve
      have fx := And.intro h7 <| And.intro h5 <| And.intro hp5 <| And.intro h6 <| And.intro hp6 <| And.intro hil <| And.intro hio <| And.intro hv <| And.intro hvE <| And.intro ho <| And.intro hoE <| And.intro ht <| @bne_def
      refine k_run ?_
      clear fx
      exact ⟨L.length - (i + 1), by omega, i + 1, rfl, by omega, by simp; exact wrp (by omega) (by omega), by simp [h5], by simp [hp5], by simp [h6], by simp [hp6]⟩
  · obtain ⟨m, hm⟩ : ∃ m, L.length = m + 1 := ⟨L.length - 1, by omega⟩
    have hla := hok.last m hm
    obtain ⟨hlaL, hlaE⟩ := List.getElem?_eq_some_iff.1 hla
    have hsm := hok.small
    have hwl : IntKind.i64.wrap ((L.length : Int) - 1) = (m : Int) := by rw [hm, wrp (by omega) (by omega)]; omega
    have hlo' : ((L.length : Int) == c.ops.length) = true := by simp; omega
    have fx := And.intro h7 <| And.intro h5 <| And.intro hp5 <| And.intro h6 <| And.intro hp6 <| And.intro hil <| And.intro hla <| And.intro hlaE <| And.intro hlaL <| And.intro hwl <| hlo'
    refine k_run ?_
    clear fx
    refine e_ret [] .nil (by simp; rfl) (by simp)
end Go.Proofs.YtmpbjmihjelhgaaDoor
end
