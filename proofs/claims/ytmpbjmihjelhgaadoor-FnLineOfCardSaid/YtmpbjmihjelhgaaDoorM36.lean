/-
  Own texts, joined by mkclaim.py: Kt.
-/
import Derived.Test.YtmpbjmihjelhgaaDoorM32
set_option linter.unusedSimpArgs false
set_option linter.unusedVariables false

section
/-
  The law that orders belong to their statements.
-/
set_option maxRecDepth 100000
set_option maxHeartbeats 4000000
set_option linter.unusedSimpArgs false
namespace Go.Proofs.YtmpbjmihjelhgaaDoor
open Go Go.Hm Go.Proofs

theorem lineG_pos {p : Prg} {b x : Int} (hs : Sml p) (h : ¬ lineG p b x < 0) : ∃ (B A n : Nat) (k : Blk), b = B ∧ x = A ∧ p[B]? = some k ∧ LookP p ∧ A < (codeG p B).ops.length ∧ (codeG p B).ops.length ≤ 60 ∧ lineG p b x = n ∧ n < k.body.length ∧
    (A + 1 = (codeG p B).ops.length → lineG p B ((A : Int) + 1) = -1) ∧ ∀ o, (codeG p B).ops[A + 1]? = some o → lineG p B ((A : Int) + 1) = if o.1 = 0 then (n : Int) + 1 else n := by
  cases hb : blkAt p b
  · simp [lineG, hb] at h
  · obtain ⟨B, k, rfl, hk, hP, _⟩ := blkAt_parts hs hb
    have h1 : codeG p B = codeL p B := by simp [codeG, hb]
    have hops : (codeL p B).ops = opsL p B := by simp [codeL, hk]
    have hli : ∀ y, lineG p B y = lineL (opsL p B) y := fun y => by simp [lineG, hb]
    have hol := opsL_len (b := B) hP.sh
    have htk : ticks (opsL p B) = k.body.length := by simp [opsL, hk, ticks_body]
    have hce : (codeG p B).ops = opsL p B := by rw [h1, hops]
    rw [hli] at h
    have hx : 0 ≤ x ∧ x < (opsL p B).length := by
      by_cases e : 0 ≤ x ∧ x < (opsL p B).length
      · exact e
      · unfold lineL at h
        rw [if_neg e] at h
        omega
    obtain ⟨A, rfl⟩ : ∃ A : Nat, x = A := ⟨x.toNat, by omega⟩
    have hA : A < (opsL p B).length := by omega
    have hv : lineL (opsL p B) A = (ticks ((opsL p B).take (A + 1)) : Int) - 1 := by
      unfold lineL
      rw [if_pos hx]
      rfl
    have hsplit : ticks ((opsL p B).take (A + 1)) + ticks ((opsL p B).drop (A + 1)) = k.body.length := by rw [← ticks_app, List.take_append_drop, htk]
    obtain ⟨n, hn⟩ : ∃ n, ticks ((opsL p B).take (A + 1)) = n + 1 := ⟨ticks ((opsL p B).take (A + 1)) - 1, by rw [hv] at h; omega⟩
    refine ⟨B, A, n, k, rfl, rfl, hk, hP, by rw [hce]; exact hA, by rw [hce]; exact hol, by rw [hli, hv, hn]; omega, by omega, fun e => ?_, fun o ho => ?_⟩
    · rw [hce] at e
      rw [hli]
      unfold lineL
      rw [if_neg (by omega)]
    · rw [hce] at ho
      have hlt := (List.getElem?_eq_some_iff.1 ho).1
      rw [hli]
      unfold lineL
      rw [if_pos (by omega)]
      have e1 : ((A : Int) + 1).toNat = A + 1 := by omega
      rw [e1, ticks_take ho, hn]
      by_cases e : o.1 = 0
      · rw [if_pos e, if_pos e]; omega
      · rw [if_neg e, if_neg e]; omega

theorem FnLineOf_fn (gl : Nat → Option (List AV)) (hgl : gl 1 = some codesL) (code : List Int) (hcode : ∀ v ∈ code, 0 ≤ v ∧ v ≤ 255) (hbig : code.length ≤ 1152921504606846976) :
    FnOk Tryd.prog gl 7 [bsl code] (fun _ z _ => z = bv true) := by
  refine FnOk.of_sem Tryd.func7 rfl (by kernel_rfl) (rs := [.tmp 2]) rfl Tryd.ntmps7 (Nat.le_of_ble_eq_true rfl) fun C w g root => ?_
  by_cases hlen : 1048576 < code.length
  · have hl1 : (1048576 : Int) < code.length := by omega
    have fx :=  hl1
    refine k_run ?_
    clear fx
    refine e_ret [] .nil (by simp; rfl) (by simp)
  have hl1 : ¬ (1048576 : Int) < code.length := by omega
  have hc : CodeOk code := ⟨by omega, hcode⟩
  have fx :=  hl1
  have e1 := DrawLineOf_fn gl code hc
  refine k_run ?_
  clear fx e1
  rintro K hK z H1 ⟨p, b, x, rfl, hO, hs, hx1, hx2⟩
  obtain ⟨ho1, ho2, ho3⟩ := hO.hcln
  refine ⟨by simp, ?_⟩
  have fx :=  ho1
  refine k_run ?_
  clear fx
  intro K hK
  refine o_abs (fun st => BoxP st 3 p ∧ st.tm 4 = iv b ∧ st.tm 5 = iv x ∧ st.tm 18 = .agg [.hs (.c (.s 3) 0 0) 4 0 p.length] ∧ st.tm 19 = iv b ∧ st.tm 20 = iv x) ⟨⟨by simp, by simp, ⟨by simp [ho1], fun j r hj => by simp [ho2 j r hj], fun j r hj => by simp [ho3 j r hj]⟩⟩, by simp, by simp, by simp, by simp, by simp⟩ ?_
  clear hO ho1 ho2 ho3
  rintro st ⟨⟨h3, hp3, ⟨a1, a2, a3⟩⟩, h4, h5, h18, h19, h20⟩
  have hia := impl_LineOf_fn gl hgl p b x hs
  have hsa := spec_LineOf_fn gl p b x hs
  by_cases hn : lineG p b x < 0
  · generalize lineG p b x = v at hia hsa hn
    have fx := And.intro h3 <| And.intro hp3 <| And.intro h4 <| And.intro h5 <| And.intro h18 <| And.intro h19 <| And.intro h20 <| And.intro hn <| @bne_def
    have c1 := hia
    have c2 := hsa
    refine k_run ?_
    clear fx c1 c2
    refine e_ret [] .nil (by simp; rfl) (by simp)
  obtain ⟨B, A, n, k, rfl, rfl, hk, hP, hA, hol, hvn, hnk, hend, hnext⟩ := lineG_pos hs hn
  obtain ⟨hBl, hBE⟩ := List.getElem?_eq_some_iff.1 hk
  have hin := impl_LineOf_fn gl hgl p B ((A : Int) + 1) hs
  have hcb := impl_CompileBlock_fn gl hgl p B hs
  rw [hvn] at hia hsa
  clear hn hvn
  generalize codeG p B = c at *
  have hn0 : ¬ (n : Int) < 0 := by omega
  have hwA : IntKind.i64.wrap ((A : Int) + 1) = (A : Int) + 1 := wrp (by omega) (by omega)
  have hk12 := hP.sh.body k (List.mem_of_getElem? hk)
  have hwn : IntKind.i64.wrap ((n : Int) + 1) = (n : Int) + 1 := wrp (by omega) (by omega)
  by_cases hle : A + 1 = c.ops.length
  · have hwl : IntKind.i64.wrap ((c.ops.length : Int) - 1) = (A : Int) := by rw [wrp (by omega) (by omega)]; omega
    rw [hend hle] at hin
    have fx := And.intro h3 <| And.intro hp3 <| And.intro h4 <| And.intro h5 <| And.intro h18 <| And.intro h19 <| And.intro h20 <| And.intro hn0 <| And.intro hwA <| @bne_def
    have c1 := hia
    have c2 := hsa
    have c3 := hin
    have e1 := hcb
    refine k_run ?_
    clear fx c1 c2 c3 e1
    rintro K hK y H2 ⟨rfl, hO⟩
    obtain ⟨o1, o2, o3, o4, o5⟩ := hO.hcln
    refine ⟨by simp, ?_⟩
    have fx := And.intro h3 <| And.intro hp3 <| And.intro h4 <| And.intro h5 <| And.intro a1 <| And.intro o5 <| And.intro hn0 <| And.intro hwA <| And.intro hwl <| And.intro hwn <| And.intro hk <| And.intro hBl <| And.intro hBE <| And.intro hnk <| @bne_def
    have c1 := hin
    refine k_run ?_
    clear fx c1
    refine e_ret [] .nil (by simp; rfl) (by simp)
  have hA1 : A + 1 < c.ops.length := by omega
  have hA1' : (A : Int) + 1 < c.ops.length := by omega
  have hTN : ((A : Int) + 1).toNat = A + 1 := by omega
  have hA0 : (0 : Int) ≤ (A : Int) + 1 := by omega
  obtain ⟨o, ho⟩ : ∃ o, c.ops[A + 1]? = some o := ⟨_, List.getElem?_eq_getElem hA1⟩
  obtain ⟨_, hoE⟩ := List.getElem?_eq_some_iff.1 ho
  have hno := hnext o ho
  have hwl : IntKind.i64.wrap ((c.ops.length : Int) - 1) = (c.ops.length : Int) - 1 := wrp (by omega) (by omega)
  cases ht : (o.1 == 0)
  · have e0 : ¬ o.1 = 0 := by simpa using ht
    rw [hno, if_neg e0] at hin
    have fx := And.intro h3 <| And.intro hp3 <| And.intro h4 <| And.intro h5 <| And.intro h18 <| And.intro h19 <| And.intro h20 <| And.intro hn0 <| And.intro hwA <| @bne_def
    have c1 := hia
    have c2 := hsa
    have e1 := hcb
    refine k_run ?_
    clear fx c1 c2 e1
    rintro K hK y H2 ⟨rfl, hO⟩
    obtain ⟨o1, o2, o3, o4, o5⟩ := hO.hcln
    refine ⟨by simp, ?_⟩
    have fx := And.intro h3 <| And.intro hp3 <| And.intro h4 <| And.intro h5 <| And.intro a1 <| And.intro o5 <| And.intro hn0 <| And.intro hwA <| And.intro hwl <| And.intro hwn <| And.intro hk <| And.intro hBl <| And.intro hBE <| And.intro hnk <| And.intro hA1 <| And.intro hA1' <| And.intro hTN <| And.intro hA0 <| And.intro ho <| And.intro hoE <| And.intro ht <| @bne_def
    have c1 := hin
    refine k_run ?_
    clear fx c1
    refine e_ret [] .nil (by simp; rfl) (by simp)
  · have e0 : o.1 = 0 := by simpa using ht
    rw [hno, if_pos e0] at hin
    have hn1 : ((n : Int) + 1 < 0) ↔ False := ⟨fun h => by omega, fun h => h.elim⟩
    have hn2 : ((n : Int) + 1 == (n : Int)) = false := by simp only [beq_eq_false_iff_ne, ne_eq]; omega
    have fx := And.intro h3 <| And.intro hp3 <| And.intro h4 <| And.intro h5 <| And.intro h18 <| And.intro h19 <| And.intro h20 <| And.intro hn0 <| And.intro hwA <| @bne_def
    have c1 := hia
    have c2 := hsa
    have e1 := hcb
    refine k_run ?_
    clear fx c1 c2 e1
    rintro K hK y H2 ⟨rfl, hO⟩
    obtain ⟨o1, o2, o3, o4, o5⟩ := hO.hcln
    refine ⟨by simp, ?_⟩
    have fx := And.intro h3 <| And.intro hp3 <| And.intro h4 <| And.intro h5 <| And.intro a1 <| And.intro o5 <| And.intro hn0 <| And.intro hn1 <| And.intro hn2 <| And.intro hwA <| And.intro hwl <| And.intro hwn <| And.intro hk <| And.intro hBl <| And.intro hBE <| And.intro hnk <| And.intro hA1 <| And.intro hA1' <| And.intro hTN <| And.intro hA0 <| And.intro ho <| And.intro hoE <| And.intro ht <| @bne_def
    have c1 := hin
    refine k_run ?_
    clear fx c1
    refine e_ret [] .nil (by simp; rfl) (by simp)
end Go.Proofs.YtmpbjmihjelhgaaDoor
end
