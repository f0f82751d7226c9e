/-
  Own texts, joined by mkclaim.py: Pe, Pf, Pg.
-/
import Derived.Test.YtpckgioefpkmoaaGreatE19
import Derived.Test.YtpckgioefpkmoaaGreatE18
import Derived.Test.YtpckgioefpkmoaaGreatE14
set_option linter.unusedSimpArgs false
set_option linter.unusedVariables false

section
set_option maxRecDepth 100000
set_option maxHeartbeats 4000000
set_option linter.unusedSimpArgs false
namespace Go.Proofs.YtpckgioefpkmoaaGreat
open Go Go.Hm Go.Proofs
theorem valueOf_fn (gl) (p : Prg) (n : Nat) (hR : RBok gl p n) (H : Nm → Option AO) (W : Wld) (a : Nat) (k : Blk) (s : Stm) (hP : ValP p) (hw : WOk p W) (hn : W.left < n) (h0 : W.en = 0) (ha : a < W.acts.length) (hk : p[W.blk a]? = some k) (hs : s ∈ k.body) (hkd : 0 ≤ s.kind ∧ s.kind ≤ 7) (hr : Room 2 W) (hO : OwnW H p W) (hV : H (.u 2 0 0) = none) :
    FnE Tryz.prog gl 129 (Nm.under Wn) [.pt Wn 0, iv a, s.av] H (fun _ y H' => y = Val.av (valueW p (runW p n) W a s).2 ∧ OwnW H' p (valueW p (runW p n) W a s).1) noE := by
  have hT := hO.top
  simp only [wRow] at hT
  have hst := hP.sh.stm _ k hk s hs
  have hnm := hP.sh.names k (List.mem_of_getElem? hk)
  have hrd := hnm.reads s hs
  have hrl := Stm.reads_len s
  refine FnE.of_sem Tryz.func129 rfl (by kernel_rfl) (rs := [.cell 6 111]) rfl Tryz.ntmps129 (Nat.le_of_ble_eq_true rfl) (fun _ => under_usroot rfl) fun C w g root hroot => ?_
  have fx :=  hT
  have d1 := readsOf_fn gl s
  refine k_run ?_
  repeat ((first | refine w_sch (id := 8) (.q 0 <| .q 1 <| .q 2 <| .q 3 <| .q 4 <| .q 5 <| .q 6 <| .l 7 [5, 4, 2, 1] <| .l 8 [] <| .done) mixed (by kernel_rfl) (by kernel_rfl) ?_ | refine w_sch (id := 10) (.q 0 <| .q 1 <| .q 2 <| .q 3 <| .q 4 <| .q 5 <| .q 6 <| .q 7 <| .q 8 <| .l 9 [7, 6, 5, 4, 3, 2, 1, 0] <| .l 10 [7, 6, 5, 3, 2, 1, 0] <| .q 11 <| .q 12 <| .l 13 [11] <| .done) mixed (by kernel_rfl) (by kernel_rfl) ?_ | refine w_sch (id := 19) (.q 0 <| .q 1 <| .q 2 <| .q 3 <| .q 4 <| .q 5 <| .l 6 [4, 2, 1] <| .l 7 [] <| .done) mixed (by kernel_rfl) (by kernel_rfl) ?_ | refine w_sch (id := 21) (.q 0 <| .q 1 <| .q 2 <| .q 3 <| .q 4 <| .q 5 <| .l 6 [4, 2, 1] <| .l 7 [] <| .done) mixed (by kernel_rfl) (by kernel_rfl) ?_); refine k_rund ?_; refine k_run ?_)
  clear fx d1
  intro K hK
  refine o_mv (.s 13) (.u 2 0 0) (.inl rfl) (.inr (by simp [ctx0, hV])) ?_
  have fx := hT
  refine x_mut12 (by simp [hT]) (by simp) (hF := loads_fn _ _ p W a s.reads hP.sh hw ha hrd hrl ⟨by simp [hO.top, wRow], by simp [hO.acts], fun i a ha => by simp [hO.act i a ha], hO.stk.imp fun l hl => by simp [hl], by simp [hO.glob], by simp [hO.funs], by simp [hO.clss], fun i c hc => by simp [hO.cls i c hc], by simp [hO.out], by simp [hO.trc]⟩ (by simp)) (h := ?_)
  rintro y H1 ⟨rfl, hp1, hO1⟩
  clear fx
  obtain ⟨hA, hvok, hcase, hlen, _⟩ := loadsW_ok (a := a) (l := s.reads) hw
  have hval : valueW p (runW p n) W a s = if (loadsW p W a s.reads).1.en ≠ 0 then ((loadsW p W a s.reads).1, (0, 0)) else workW p (runW p n) (loadsW p W a s.reads).1 a s (loadsW p W a s.reads).2 := rfl
  generalize loadsW p W a s.reads = q at hp1 hO1 hA hvok hcase hlen hval
  obtain ⟨V, vs⟩ := q
  simp only at hp1 hO1 hA hvok hcase hlen hval
  have hT1 := hO1.top
  simp only [wRow] at hT1
  obtain ⟨kd, to, sa, sb⟩ := s
  simp only at hkd
  by_cases hen : V.en = 0
  case neg =>
    rw [if_pos hen] at hval
    have henb : (V.en == 0) = false := by simpa using hen
    have fx := And.intro hT <| And.intro hT1 <| And.intro hp1 <| And.intro henb <| @bne_def
    refine k_run ?_
    repeat ((first | refine w_sch (id := 8) (.q 0 <| .q 1 <| .q 2 <| .q 3 <| .q 4 <| .q 5 <| .q 6 <| .l 7 [5, 4, 2, 1] <| .l 8 [] <| .done) mixed (by kernel_rfl) (by kernel_rfl) ?_ | refine w_sch (id := 10) (.q 0 <| .q 1 <| .q 2 <| .q 3 <| .q 4 <| .q 5 <| .q 6 <| .q 7 <| .q 8 <| .l 9 [7, 6, 5, 4, 3, 2, 1, 0] <| .l 10 [7, 6, 5, 3, 2, 1, 0] <| .q 11 <| .q 12 <| .l 13 [11] <| .done) mixed (by kernel_rfl) (by kernel_rfl) ?_ | refine w_sch (id := 19) (.q 0 <| .q 1 <| .q 2 <| .q 3 <| .q 4 <| .q 5 <| .l 6 [4, 2, 1] <| .l 7 [] <| .done) mixed (by kernel_rfl) (by kernel_rfl) ?_ | refine w_sch (id := 21) (.q 0 <| .q 1 <| .q 2 <| .q 3 <| .q 4 <| .q 5 <| .l 6 [4, 2, 1] <| .l 7 [] <| .done) mixed (by kernel_rfl) (by kernel_rfl) ?_); refine k_rund ?_; refine k_run ?_)
    clear fx
    rw [hval]
    refine e_ret [] .nil (by simp; rfl) ⟨by simp, ⟨by simp [hO1.top, wRow], by simp [hO1.acts], fun i a ha => by simp [hO1.act i a ha], hO1.stk.imp fun l hl => by simp [hl], by simp [hO1.glob], by simp [hO1.funs], by simp [hO1.clss], fun i c hc => by simp [hO1.cls i c hc], by simp [hO1.out], by simp [hO1.trc]⟩⟩
  rw [if_neg (by simpa using hen)] at hval
  obtain rfl : V = W := by
    rcases hcase with e | ⟨e, he, h⟩
    · exact e
    · rw [h] at hen
      exact absurd hen he
  have hl := hlen hen
  have henb : (V.en == 0) = true := by simpa using hen
  have hkc : kd = 0 ∨ kd = 1 ∨ kd = 2 ∨ kd = 3 ∨ kd = 4 ∨ kd = 5 ∨ kd = 6 ∨ kd = 7 := by omega
  rcases hkc with rfl | rfl | rfl | rfl | rfl | rfl | rfl | rfl
  · have hw0 : workW p (runW p n) V a ⟨0, to, sa, sb⟩ vs = (V, (1, sa)) := by simp [workW]
    rw [hw0] at hval
    have fx := And.intro hT <| And.intro hT1 <| And.intro hp1 <| And.intro henb <| @bne_def
    refine k_run ?_
    repeat ((first | refine w_sch (id := 8) (.q 0 <| .q 1 <| .q 2 <| .q 3 <| .q 4 <| .q 5 <| .q 6 <| .l 7 [5, 4, 2, 1] <| .l 8 [] <| .done) mixed (by kernel_rfl) (by kernel_rfl) ?_ | refine w_sch (id := 10) (.q 0 <| .q 1 <| .q 2 <| .q 3 <| .q 4 <| .q 5 <| .q 6 <| .q 7 <| .q 8 <| .l 9 [7, 6, 5, 4, 3, 2, 1, 0] <| .l 10 [7, 6, 5, 3, 2, 1, 0] <| .q 11 <| .q 12 <| .l 13 [11] <| .done) mixed (by kernel_rfl) (by kernel_rfl) ?_ | refine w_sch (id := 19) (.q 0 <| .q 1 <| .q 2 <| .q 3 <| .q 4 <| .q 5 <| .l 6 [4, 2, 1] <| .l 7 [] <| .done) mixed (by kernel_rfl) (by kernel_rfl) ?_ | refine w_sch (id := 21) (.q 0 <| .q 1 <| .q 2 <| .q 3 <| .q 4 <| .q 5 <| .l 6 [4, 2, 1] <| .l 7 [] <| .done) mixed (by kernel_rfl) (by kernel_rfl) ?_); refine k_rund ?_; refine k_run ?_)
    clear fx
    rw [hval]
    refine e_ret [] .nil (by simp; rfl) ⟨by simp, ⟨by simp [hO1.top, wRow], by simp [hO1.acts], fun i a ha => by simp [hO1.act i a ha], hO1.stk.imp fun l hl => by simp [hl], by simp [hO1.glob], by simp [hO1.funs], by simp [hO1.clss], fun i c hc => by simp [hO1.cls i c hc], by simp [hO1.out], by simp [hO1.trc]⟩⟩
  · obtain ⟨u, rfl⟩ : ∃ u, vs = [u] := by
      match vs, hl with
      | [u], _ => exact ⟨u, rfl⟩
      | [], h => simp [Stm.reads] at h
      | _ :: _ :: _, h => simp [Stm.reads] at h
    have hw0 : workW p (runW p n) V a ⟨1, to, sa, sb⟩ [u] = (V, u) := by simp [workW]
    rw [hw0] at hval
    have fx := And.intro hT <| And.intro hT1 <| And.intro hp1 <| And.intro henb <| @bne_def
    refine k_run ?_
    repeat ((first | refine w_sch (id := 8) (.q 0 <| .q 1 <| .q 2 <| .q 3 <| .q 4 <| .q 5 <| .q 6 <| .l 7 [5, 4, 2, 1] <| .l 8 [] <| .done) mixed (by kernel_rfl) (by kernel_rfl) ?_ | refine w_sch (id := 10) (.q 0 <| .q 1 <| .q 2 <| .q 3 <| .q 4 <| .q 5 <| .q 6 <| .q 7 <| .q 8 <| .l 9 [7, 6, 5, 4, 3, 2, 1, 0] <| .l 10 [7, 6, 5, 3, 2, 1, 0] <| .q 11 <| .q 12 <| .l 13 [11] <| .done) mixed (by kernel_rfl) (by kernel_rfl) ?_ | refine w_sch (id := 19) (.q 0 <| .q 1 <| .q 2 <| .q 3 <| .q 4 <| .q 5 <| .l 6 [4, 2, 1] <| .l 7 [] <| .done) mixed (by kernel_rfl) (by kernel_rfl) ?_ | refine w_sch (id := 21) (.q 0 <| .q 1 <| .q 2 <| .q 3 <| .q 4 <| .q 5 <| .l 6 [4, 2, 1] <| .l 7 [] <| .done) mixed (by kernel_rfl) (by kernel_rfl) ?_); refine k_rund ?_; refine k_run ?_)
    clear fx
    rw [hval]
    refine e_ret [] .nil (by simp; rfl) ⟨by simp, ⟨by simp [hO1.top, wRow], by simp [hO1.acts], fun i a ha => by simp [hO1.act i a ha], hO1.stk.imp fun l hl => by simp [hl], by simp [hO1.glob], by simp [hO1.funs], by simp [hO1.clss], fun i c hc => by simp [hO1.cls i c hc], by simp [hO1.out], by simp [hO1.trc]⟩⟩
  · obtain ⟨u, v, rfl⟩ : ∃ u v, vs = [u, v] := by
      match vs, hl with
      | [u, v], _ => exact ⟨u, v, rfl⟩
      | [], h => simp [Stm.reads] at h
      | [_], h => simp [Stm.reads] at h
      | _ :: _ :: _ :: _, h => simp [Stm.reads] at h
    have hw0 : workW p (runW p n) V a ⟨2, to, sa, sb⟩ [u, v] = plusW V u v := by simp [workW]
    rw [hw0] at hval
    have fx := And.intro hT <| And.intro hT1 <| And.intro hp1 <| And.intro henb <| @bne_def
    refine k_run ?_
    repeat ((first | refine w_sch (id := 8) (.q 0 <| .q 1 <| .q 2 <| .q 3 <| .q 4 <| .q 5 <| .q 6 <| .l 7 [5, 4, 2, 1] <| .l 8 [] <| .done) mixed (by kernel_rfl) (by kernel_rfl) ?_ | refine w_sch (id := 10) (.q 0 <| .q 1 <| .q 2 <| .q 3 <| .q 4 <| .q 5 <| .q 6 <| .q 7 <| .q 8 <| .l 9 [7, 6, 5, 4, 3, 2, 1, 0] <| .l 10 [7, 6, 5, 3, 2, 1, 0] <| .q 11 <| .q 12 <| .l 13 [11] <| .done) mixed (by kernel_rfl) (by kernel_rfl) ?_ | refine w_sch (id := 19) (.q 0 <| .q 1 <| .q 2 <| .q 3 <| .q 4 <| .q 5 <| .l 6 [4, 2, 1] <| .l 7 [] <| .done) mixed (by kernel_rfl) (by kernel_rfl) ?_ | refine w_sch (id := 21) (.q 0 <| .q 1 <| .q 2 <| .q 3 <| .q 4 <| .q 5 <| .l 6 [4, 2, 1] <| .l 7 [] <| .done) mixed (by kernel_rfl) (by kernel_rfl) ?_); refine k_rund ?_; refine k_run ?_)
    clear fx
    intro K hK
    have fx := And.intro hT hT1
    refine x_mut Wn rfl (by simp [hT1]) (hF := plus_fn _ _ p V u v (hvok u (by simp)) (hvok v (by simp)) ⟨by simp [hO1.top, wRow], by simp [hO1.acts], fun i a ha => by simp [hO1.act i a ha], hO1.stk.imp fun l hl => by simp [hl], by simp [hO1.glob], by simp [hO1.funs], by simp [hO1.clss], fun i c hc => by simp [hO1.cls i c hc], by simp [hO1.out], by simp [hO1.trc]⟩) (h := ?_)
    rintro y H2 ⟨rfl, hO2⟩
    clear fx
    have hT2 := hO2.top
    simp only [wRow] at hT2
    have fx := And.intro hT <| And.intro hT1 <| And.intro hp1 <| And.intro hT2 <| And.intro henb <| @bne_def
    refine k_run ?_
    repeat ((first | refine w_sch (id := 8) (.q 0 <| .q 1 <| .q 2 <| .q 3 <| .q 4 <| .q 5 <| .q 6 <| .l 7 [5, 4, 2, 1] <| .l 8 [] <| .done) mixed (by kernel_rfl) (by kernel_rfl) ?_ | refine w_sch (id := 10) (.q 0 <| .q 1 <| .q 2 <| .q 3 <| .q 4 <| .q 5 <| .q 6 <| .q 7 <| .q 8 <| .l 9 [7, 6, 5, 4, 3, 2, 1, 0] <| .l 10 [7, 6, 5, 3, 2, 1, 0] <| .q 11 <| .q 12 <| .l 13 [11] <| .done) mixed (by kernel_rfl) (by kernel_rfl) ?_ | refine w_sch (id := 19) (.q 0 <| .q 1 <| .q 2 <| .q 3 <| .q 4 <| .q 5 <| .l 6 [4, 2, 1] <| .l 7 [] <| .done) mixed (by kernel_rfl) (by kernel_rfl) ?_ | refine w_sch (id := 21) (.q 0 <| .q 1 <| .q 2 <| .q 3 <| .q 4 <| .q 5 <| .l 6 [4, 2, 1] <| .l 7 [] <| .done) mixed (by kernel_rfl) (by kernel_rfl) ?_); refine k_rund ?_; refine k_run ?_)
    clear fx
    rw [hval]
    refine e_ret [] .nil (by simp; rfl) ⟨by simp, ⟨by simp [hO2.top, wRow], by simp [hO2.acts], fun i a ha => by simp [hO2.act i a ha], hO2.stk.imp fun l hl => by simp [hl], by simp [hO2.glob], by simp [hO2.funs], by simp [hO2.clss], fun i c hc => by simp [hO2.cls i c hc], by simp [hO2.out], by simp [hO2.trc]⟩⟩
  · obtain ⟨q, hq1, hq2, hq3, hq4⟩ := StmOk.made hst (.inl rfl)
    simp only at hq3
    obtain ⟨A, rfl⟩ : ∃ A : Nat, sa = A := ⟨sa.toNat, by omega⟩
    have hw0 : workW p (runW p n) V a ⟨3, to, (A : Int), sb⟩ vs = ({ V with funs := V.funs ++ [(A, a)] }, (2, (V.funs.length : Int))) := by simp [workW]
    rw [hw0] at hval
    have hF := hO1.funs
    have hfl := hr.funs
    have hfl' : V.funs.length ≤ 1000 := by omega
    have hwr : IntKind.i64.wrap (V.funs.length : Int) = V.funs.length := wrp (by omega) (by omega)
    have hap : funRows (.c Wn 0 4) V.funs ++ [[iv A, iv a, .hs (.c (.c Wn 0 4) V.funs.length 2) 3 0 0]] = funRows (.c Wn 0 4) (V.funs ++ [(A, a)]) := funRows_app
    have fx := And.intro hT <| And.intro hT1 <| And.intro hp1 <| And.intro henb <| And.intro hF <| And.intro hfl' <| And.intro hwr <| @bne_def
    refine k_run ?_
    repeat ((first | refine w_sch (id := 8) (.q 0 <| .q 1 <| .q 2 <| .q 3 <| .q 4 <| .q 5 <| .q 6 <| .l 7 [5, 4, 2, 1] <| .l 8 [] <| .done) mixed (by kernel_rfl) (by kernel_rfl) ?_ | refine w_sch (id := 10) (.q 0 <| .q 1 <| .q 2 <| .q 3 <| .q 4 <| .q 5 <| .q 6 <| .q 7 <| .q 8 <| .l 9 [7, 6, 5, 4, 3, 2, 1, 0] <| .l 10 [7, 6, 5, 3, 2, 1, 0] <| .q 11 <| .q 12 <| .l 13 [11] <| .done) mixed (by kernel_rfl) (by kernel_rfl) ?_ | refine w_sch (id := 19) (.q 0 <| .q 1 <| .q 2 <| .q 3 <| .q 4 <| .q 5 <| .l 6 [4, 2, 1] <| .l 7 [] <| .done) mixed (by kernel_rfl) (by kernel_rfl) ?_ | refine w_sch (id := 21) (.q 0 <| .q 1 <| .q 2 <| .q 3 <| .q 4 <| .q 5 <| .l 6 [4, 2, 1] <| .l 7 [] <| .done) mixed (by kernel_rfl) (by kernel_rfl) ?_); refine k_rund ?_; refine k_run ?_)
    clear fx
    rw [hval]
    refine e_ret [] .nil (by simp; rfl) ⟨by simp, OwnW.fin ⟨by simp [wRow, hT1], by simp [hO1.acts], fun i b hb => by simp [hO1.act i b hb], hO1.stk.imp fun l hl => by simp [hl], by simp [hO1.glob], ?_, by simp [hO1.clss], fun i c hc => by simp [hO1.cls i c hc], by simp [hO1.out], by simp [hO1.trc]⟩⟩
    simp [← hap]
    rw [List.take_of_length_le (by simp)]
    refine funRows_map fun i c hc => ?_
    have hne : ¬ i = V.funs.length := by have := (List.getElem?_eq_some_iff.1 hc).1; omega
    have hne' : ¬ V.funs.length = i := by omega
    simp [hne, hne']
  · obtain ⟨q, hq1, hq2, hq3, hq4⟩ := StmOk.made hst (.inr rfl)
    have hm := stm_made hst ha (.inr rfl)
    simp only at hq1 hq3 hm
    obtain ⟨A, rfl⟩ : ∃ A : Nat, sa = A := ⟨sa.toNat, by omega⟩
    simp only [Int.toNat_natCast] at hq1 hm
    have hpar : parN p A = 0 := by
      have hh := hP.sh.head A q hq1
      have hA0 : ¬ A = 0 := by omega
      simp only [HeadOk, hA0, if_false] at hh
      simp only [parN, hq1]
      simp only at hq4
      omega
    have hw0 : workW p (runW p n) V a ⟨4, to, (A : Int), sb⟩ vs = classW p (runW p n) V A a := by simp [workW]
    rw [hw0] at hval
    have fx := And.intro hT <| And.intro hT1 <| And.intro hp1 <| And.intro henb <| @bne_def
    refine k_run ?_
    repeat ((first | refine w_sch (id := 8) (.q 0 <| .q 1 <| .q 2 <| .q 3 <| .q 4 <| .q 5 <| .q 6 <| .l 7 [5, 4, 2, 1] <| .l 8 [] <| .done) mixed (by kernel_rfl) (by kernel_rfl) ?_ | refine w_sch (id := 10) (.q 0 <| .q 1 <| .q 2 <| .q 3 <| .q 4 <| .q 5 <| .q 6 <| .q 7 <| .q 8 <| .l 9 [7, 6, 5, 4, 3, 2, 1, 0] <| .l 10 [7, 6, 5, 3, 2, 1, 0] <| .q 11 <| .q 12 <| .l 13 [11] <| .done) mixed (by kernel_rfl) (by kernel_rfl) ?_ | refine w_sch (id := 19) (.q 0 <| .q 1 <| .q 2 <| .q 3 <| .q 4 <| .q 5 <| .l 6 [4, 2, 1] <| .l 7 [] <| .done) mixed (by kernel_rfl) (by kernel_rfl) ?_ | refine w_sch (id := 21) (.q 0 <| .q 1 <| .q 2 <| .q 3 <| .q 4 <| .q 5 <| .l 6 [4, 2, 1] <| .l 7 [] <| .done) mixed (by kernel_rfl) (by kernel_rfl) ?_); refine k_rund ?_; refine k_run ?_)
    clear fx
    intro K hK
    refine o_mv (.s 67) (.u 2 0 0) (.inl rfl) (.inr (by simp [ctx0, hV])) ?_
    have fx := And.intro hT hT1
    refine x_mut12 (by simp [hT1]) (by simp) (hF := enter_fn _ p n hR _ V A a 0 [] [] hP hw hn h0 hm (by simp) (hr.mono (by omega)) rfl rfl (by rw [hpar]; rfl) (by simp) ⟨by simp [hO1.top, wRow], by simp [hO1.acts], fun i a ha => by simp [hO1.act i a ha], hO1.stk.imp fun l hl => by simp [hl], by simp [hO1.glob], by simp [hO1.funs], by simp [hO1.clss], fun i c hc => by simp [hO1.cls i c hc], by simp [hO1.out], by simp [hO1.trc]⟩ (by simp)) (h := ?_)
    rintro y H2 ⟨rfl, hp2, hO2⟩
    clear fx
    have hcl : classW p (runW p n) V A a = if (enterW p (runW p n) V A a []).1.en ≠ 0 then ((enterW p (runW p n) V A a []).1, (0, 0)) else
      ({ (enterW p (runW p n) V A a []).1 with classes := (enterW p (runW p n) V A a []).1.classes ++ [(enterW p (runW p n) V A a []).1.vars (some V.acts.length)] }, (3, ((enterW p (runW p n) V A a []).1.classes.length : Int))) := rfl
    rw [hcl] at hval
    obtain ⟨⟨e1, e2, e3⟩, e4⟩ := enterW_ok (vs := []) (runW_ok hP.sh n) hw hn h0 hm (by simp) (hr.mono (by omega))
    have hrc : (enterW p (runW p n) V A a []).1.classes.length ≤ 1000 := by have := e1.ncls; omega
    generalize enterW p (runW p n) V A a [] = q2 at hp2 hO2 hval e1 hrc
    obtain ⟨U, v⟩ := q2
    simp only at hp2 hO2 hval e1 hrc
    have hT2 := hO2.top
    simp only [wRow] at hT2
    by_cases hen2 : U.en = 0
    case neg =>
      rw [if_pos hen2] at hval
      have henb2 : (U.en == 0) = false := by simpa using hen2
      have fx := And.intro hT <| And.intro hT1 <| And.intro hp1 <| And.intro hT2 <| And.intro henb2 <| @bne_def
      refine k_run ?_
      repeat ((first | refine w_sch (id := 8) (.q 0 <| .q 1 <| .q 2 <| .q 3 <| .q 4 <| .q 5 <| .q 6 <| .l 7 [5, 4, 2, 1] <| .l 8 [] <| .done) mixed (by kernel_rfl) (by kernel_rfl) ?_ | refine w_sch (id := 10) (.q 0 <| .q 1 <| .q 2 <| .q 3 <| .q 4 <| .q 5 <| .q 6 <| .q 7 <| .q 8 <| .l 9 [7, 6, 5, 4, 3, 2, 1, 0] <| .l 10 [7, 6, 5, 3, 2, 1, 0] <| .q 11 <| .q 12 <| .l 13 [11] <| .done) mixed (by kernel_rfl) (by kernel_rfl) ?_ | refine w_sch (id := 19) (.q 0 <| .q 1 <| .q 2 <| .q 3 <| .q 4 <| .q 5 <| .l 6 [4, 2, 1] <| .l 7 [] <| .done) mixed (by kernel_rfl) (by kernel_rfl) ?_ | refine w_sch (id := 21) (.q 0 <| .q 1 <| .q 2 <| .q 3 <| .q 4 <| .q 5 <| .l 6 [4, 2, 1] <| .l 7 [] <| .done) mixed (by kernel_rfl) (by kernel_rfl) ?_); refine k_rund ?_; refine k_run ?_)
      clear fx
      rw [hval]
      refine e_ret [] .nil (by simp; rfl) ⟨by simp, ⟨by simp [hO2.top, wRow], by simp [hO2.acts], fun i a ha => by simp [hO2.act i a ha], hO2.stk.imp fun l hl => by simp [hl], by simp [hO2.glob], by simp [hO2.funs], by simp [hO2.clss], fun i c hc => by simp [hO2.cls i c hc], by simp [hO2.out], by simp [hO2.trc]⟩⟩
    rw [if_neg (by simpa using hen2)] at hval
    have henb2 : (U.en == 0) = true := by simpa using hen2
    generalize U.vars (some V.acts.length) = nv at hp2 hval
    have hC := hO2.clss
    have hwr : IntKind.i64.wrap (U.classes.length : Int) = U.classes.length := wrp (by omega) (by omega)
    have hap : clsRows (.c Wn 0 5) U.classes ++ [[.hs (.c (.c Wn 0 5) U.classes.length 0) 3 0 8]] = clsRows (.c Wn 0 5) (U.classes ++ [nv]) := clsRows_app
    have fx := And.intro hT <| And.intro hT1 <| And.intro hp1 <| And.intro hT2 <| And.intro henb2 <| And.intro hp2 <| And.intro hC <| And.intro hrc <| And.intro hwr <| @bne_def
    refine k_run ?_
    repeat ((first | refine w_sch (id := 8) (.q 0 <| .q 1 <| .q 2 <| .q 3 <| .q 4 <| .q 5 <| .q 6 <| .l 7 [5, 4, 2, 1] <| .l 8 [] <| .done) mixed (by kernel_rfl) (by kernel_rfl) ?_ | refine w_sch (id := 10) (.q 0 <| .q 1 <| .q 2 <| .q 3 <| .q 4 <| .q 5 <| .q 6 <| .q 7 <| .q 8 <| .l 9 [7, 6, 5, 4, 3, 2, 1, 0] <| .l 10 [7, 6, 5, 3, 2, 1, 0] <| .q 11 <| .q 12 <| .l 13 [11] <| .done) mixed (by kernel_rfl) (by kernel_rfl) ?_ | refine w_sch (id := 19) (.q 0 <| .q 1 <| .q 2 <| .q 3 <| .q 4 <| .q 5 <| .l 6 [4, 2, 1] <| .l 7 [] <| .done) mixed (by kernel_rfl) (by kernel_rfl) ?_ | refine w_sch (id := 21) (.q 0 <| .q 1 <| .q 2 <| .q 3 <| .q 4 <| .q 5 <| .l 6 [4, 2, 1] <| .l 7 [] <| .done) mixed (by kernel_rfl) (by kernel_rfl) ?_); refine k_rund ?_; refine k_run ?_)
    clear fx
    rw [hval]
    refine e_ret [] .nil (by simp; rfl) ⟨by simp, OwnW.fin ⟨by simp [wRow, hT2], by simp [hO2.acts], fun i b hb => by simp [hO2.act i b hb], hO2.stk.imp fun l hl => by simp [hl], by simp [hO2.glob], by simp [hO2.funs], ?_, fun i c hc => ?_, by simp [hO2.out], by simp [hO2.trc]⟩⟩
    · simp [← hap]
      rw [List.take_of_length_le (by simp)]
      refine clsRows_map fun i c hc => ?_
      have hne : ¬ i = U.classes.length := by have := (List.getElem?_eq_some_iff.1 hc).1; omega
      have hne' : ¬ U.classes.length = i := by omega
      simp [hne, hne']
    · simp only at hc
      rcases Nat.lt_or_ge i U.classes.length with hlt | hge
      · rw [List.getElem?_append_left hlt] at hc
        have hne : ¬ i = U.classes.length := by omega
        have hne' : ¬ U.classes.length = i := by omega
        simp [hO2.cls i c hc, hne, hne']
      · rw [List.getElem?_append_right hge] at hc
        have hi : i = U.classes.length := by
          have := (List.getElem?_eq_some_iff.1 hc).1
          simp at this
          omega
        subst hi
        simp at hc
        subst hc
        simp [hp2]
  · have hpos : 0 < vs.length := by
      rw [hl]
      by_cases e : sb = -1 <;> simp [Stm.reads, e]
    obtain ⟨u, tl, rfl⟩ : ∃ u tl, vs = u :: tl := by
      match vs, hpos with
      | u :: tl, _ => exact ⟨u, tl, rfl⟩
    have htl : tl.length ≤ 1 := by simp at hl; omega
    have hw0 : workW p (runW p n) V a ⟨5, to, sa, sb⟩ (u :: tl) = callW p (runW p n) V u tl := by simp [workW]
    rw [hw0] at hval
    have hle1 : (1 : Int) ≤ (tl.length : Int) + 1 := by omega
    have htn : ((tl.length : Int) + 1).toNat = tl.length + 1 := by omega
    have fx := And.intro hT <| And.intro hT1 <| And.intro hp1 <| And.intro henb <| And.intro htl <| And.intro hle1 <| And.intro htn <| @bne_def
    refine k_run ?_
    repeat ((first | refine w_sch (id := 8) (.q 0 <| .q 1 <| .q 2 <| .q 3 <| .q 4 <| .q 5 <| .q 6 <| .l 7 [5, 4, 2, 1] <| .l 8 [] <| .done) mixed (by kernel_rfl) (by kernel_rfl) ?_ | refine w_sch (id := 10) (.q 0 <| .q 1 <| .q 2 <| .q 3 <| .q 4 <| .q 5 <| .q 6 <| .q 7 <| .q 8 <| .l 9 [7, 6, 5, 4, 3, 2, 1, 0] <| .l 10 [7, 6, 5, 3, 2, 1, 0] <| .q 11 <| .q 12 <| .l 13 [11] <| .done) mixed (by kernel_rfl) (by kernel_rfl) ?_ | refine w_sch (id := 19) (.q 0 <| .q 1 <| .q 2 <| .q 3 <| .q 4 <| .q 5 <| .l 6 [4, 2, 1] <| .l 7 [] <| .done) mixed (by kernel_rfl) (by kernel_rfl) ?_ | refine w_sch (id := 21) (.q 0 <| .q 1 <| .q 2 <| .q 3 <| .q 4 <| .q 5 <| .l 6 [4, 2, 1] <| .l 7 [] <| .done) mixed (by kernel_rfl) (by kernel_rfl) ?_); refine k_rund ?_; refine k_run ?_)
    clear fx
    intro K hK
    refine o_mv (.s 7) (.u 2 0 0) (.inl rfl) (.inr (by simp [ctx0, hV])) ?_
    have fx := And.intro hT hT1
    refine x_mut12 (by simp [hT1]) (by simp [hp1]) (hF := call_fn _ p n hR _ V u 1 tl (u :: tl) hP hw hn h0 (hvok u (by simp)) (fun v hv => hvok v (by simp [hv])) (hr.mono (by omega)) rfl (by simp; omega) htl ⟨by simp [hO1.top, wRow], by simp [hO1.acts], fun i a ha => by simp [hO1.act i a ha], hO1.stk.imp fun l hl => by simp [hl], by simp [hO1.glob], by simp [hO1.funs], by simp [hO1.clss], fun i c hc => by simp [hO1.cls i c hc], by simp [hO1.out], by simp [hO1.trc]⟩ (by simp [hp1])) (h := ?_)
    rintro y H2 ⟨rfl, hO2⟩
    clear fx
    have hT2 := hO2.top
    simp only [wRow] at hT2
    have fx := And.intro hT <| And.intro hT1 <| And.intro hp1 <| And.intro hT2 <| And.intro henb <| And.intro htl <| And.intro hle1 <| And.intro htn <| @bne_def
    refine k_run ?_
    repeat ((first | refine w_sch (id := 8) (.q 0 <| .q 1 <| .q 2 <| .q 3 <| .q 4 <| .q 5 <| .q 6 <| .l 7 [5, 4, 2, 1] <| .l 8 [] <| .done) mixed (by kernel_rfl) (by kernel_rfl) ?_ | refine w_sch (id := 10) (.q 0 <| .q 1 <| .q 2 <| .q 3 <| .q 4 <| .q 5 <| .q 6 <| .q 7 <| .q 8 <| .l 9 [7, 6, 5, 4, 3, 2, 1, 0] <| .l 10 [7, 6, 5, 3, 2, 1, 0] <| .q 11 <| .q 12 <| .l 13 [11] <| .done) mixed (by kernel_rfl) (by kernel_rfl) ?_ | refine w_sch (id := 19) (.q 0 <| .q 1 <| .q 2 <| .q 3 <| .q 4 <| .q 5 <| .l 6 [4, 2, 1] <| .l 7 [] <| .done) mixed (by kernel_rfl) (by kernel_rfl) ?_ | refine w_sch (id := 21) (.q 0 <| .q 1 <| .q 2 <| .q 3 <| .q 4 <| .q 5 <| .l 6 [4, 2, 1] <| .l 7 [] <| .done) mixed (by kernel_rfl) (by kernel_rfl) ?_); refine k_rund ?_; refine k_run ?_)
    clear fx
    rw [hval]
    refine e_ret [] .nil (by simp; rfl) ⟨by simp, ⟨by simp [hO2.top, wRow], by simp [hO2.acts], fun i a ha => by simp [hO2.act i a ha], hO2.stk.imp fun l hl => by simp [hl], by simp [hO2.glob], by simp [hO2.funs], by simp [hO2.clss], fun i c hc => by simp [hO2.cls i c hc], by simp [hO2.out], by simp [hO2.trc]⟩⟩
  · obtain ⟨u, rfl⟩ : ∃ u, vs = [u] := by
      match vs, hl with
      | [u], _ => exact ⟨u, rfl⟩
      | [], h => simp [Stm.reads] at h
      | _ :: _ :: _, h => simp [Stm.reads] at h
    have hsb : 0 ≤ sb ∧ sb ≤ 7 := by
      simp only [StmOk] at hst
      simp at hst
      omega
    obtain ⟨x, rfl⟩ : ∃ x : Nat, sb = x := ⟨sb.toNat, by omega⟩
    have hw0 : workW p (runW p n) V a ⟨6, to, sa, (x : Int)⟩ [u] = attrW V u x := by simp [workW]
    rw [hw0] at hval
    have fx := And.intro hT <| And.intro hT1 <| And.intro hp1 <| And.intro henb <| @bne_def
    refine k_run ?_
    repeat ((first | refine w_sch (id := 8) (.q 0 <| .q 1 <| .q 2 <| .q 3 <| .q 4 <| .q 5 <| .q 6 <| .l 7 [5, 4, 2, 1] <| .l 8 [] <| .done) mixed (by kernel_rfl) (by kernel_rfl) ?_ | refine w_sch (id := 10) (.q 0 <| .q 1 <| .q 2 <| .q 3 <| .q 4 <| .q 5 <| .q 6 <| .q 7 <| .q 8 <| .l 9 [7, 6, 5, 4, 3, 2, 1, 0] <| .l 10 [7, 6, 5, 3, 2, 1, 0] <| .q 11 <| .q 12 <| .l 13 [11] <| .done) mixed (by kernel_rfl) (by kernel_rfl) ?_ | refine w_sch (id := 19) (.q 0 <| .q 1 <| .q 2 <| .q 3 <| .q 4 <| .q 5 <| .l 6 [4, 2, 1] <| .l 7 [] <| .done) mixed (by kernel_rfl) (by kernel_rfl) ?_ | refine w_sch (id := 21) (.q 0 <| .q 1 <| .q 2 <| .q 3 <| .q 4 <| .q 5 <| .l 6 [4, 2, 1] <| .l 7 [] <| .done) mixed (by kernel_rfl) (by kernel_rfl) ?_); refine k_rund ?_; refine k_run ?_)
    clear fx
    intro K hK
    have fx := And.intro hT hT1
    refine x_mut Wn rfl (by simp [hT1]) (hF := attr_fn _ _ p V u x hw (hvok u (by simp)) (by omega) ⟨by simp [hO1.top, wRow], by simp [hO1.acts], fun i a ha => by simp [hO1.act i a ha], hO1.stk.imp fun l hl => by simp [hl], by simp [hO1.glob], by simp [hO1.funs], by simp [hO1.clss], fun i c hc => by simp [hO1.cls i c hc], by simp [hO1.out], by simp [hO1.trc]⟩) (h := ?_)
    rintro y H2 ⟨rfl, hO2⟩
    clear fx
    have hT2 := hO2.top
    simp only [wRow] at hT2
    have fx := And.intro hT <| And.intro hT1 <| And.intro hp1 <| And.intro hT2 <| And.intro henb <| @bne_def
    refine k_run ?_
    repeat ((first | refine w_sch (id := 8) (.q 0 <| .q 1 <| .q 2 <| .q 3 <| .q 4 <| .q 5 <| .q 6 <| .l 7 [5, 4, 2, 1] <| .l 8 [] <| .done) mixed (by kernel_rfl) (by kernel_rfl) ?_ | refine w_sch (id := 10) (.q 0 <| .q 1 <| .q 2 <| .q 3 <| .q 4 <| .q 5 <| .q 6 <| .q 7 <| .q 8 <| .l 9 [7, 6, 5, 4, 3, 2, 1, 0] <| .l 10 [7, 6, 5, 3, 2, 1, 0] <| .q 11 <| .q 12 <| .l 13 [11] <| .done) mixed (by kernel_rfl) (by kernel_rfl) ?_ | refine w_sch (id := 19) (.q 0 <| .q 1 <| .q 2 <| .q 3 <| .q 4 <| .q 5 <| .l 6 [4, 2, 1] <| .l 7 [] <| .done) mixed (by kernel_rfl) (by kernel_rfl) ?_ | refine w_sch (id := 21) (.q 0 <| .q 1 <| .q 2 <| .q 3 <| .q 4 <| .q 5 <| .l 6 [4, 2, 1] <| .l 7 [] <| .done) mixed (by kernel_rfl) (by kernel_rfl) ?_); refine k_rund ?_; refine k_run ?_)
    clear fx
    rw [hval]
    refine e_ret [] .nil (by simp; rfl) ⟨by simp, ⟨by simp [hO2.top, wRow], by simp [hO2.acts], fun i a ha => by simp [hO2.act i a ha], hO2.stk.imp fun l hl => by simp [hl], by simp [hO2.glob], by simp [hO2.funs], by simp [hO2.clss], fun i c hc => by simp [hO2.cls i c hc], by simp [hO2.out], by simp [hO2.trc]⟩⟩
  · obtain ⟨u, rfl⟩ : ∃ u, vs = [u] := by
      match vs, hl with
      | [u], _ => exact ⟨u, rfl⟩
      | [], h => simp [Stm.reads] at h
      | _ :: _ :: _, h => simp [Stm.reads] at h
    have hw0 : workW p (runW p n) V a ⟨7, to, sa, sb⟩ [u] = (V, u) := by simp [workW]
    rw [hw0] at hval
    have fx := And.intro hT <| And.intro hT1 <| And.intro hp1 <| And.intro henb <| @bne_def
    refine k_run ?_
    repeat ((first | refine w_sch (id := 8) (.q 0 <| .q 1 <| .q 2 <| .q 3 <| .q 4 <| .q 5 <| .q 6 <| .l 7 [5, 4, 2, 1] <| .l 8 [] <| .done) mixed (by kernel_rfl) (by kernel_rfl) ?_ | refine w_sch (id := 10) (.q 0 <| .q 1 <| .q 2 <| .q 3 <| .q 4 <| .q 5 <| .q 6 <| .q 7 <| .q 8 <| .l 9 [7, 6, 5, 4, 3, 2, 1, 0] <| .l 10 [7, 6, 5, 3, 2, 1, 0] <| .q 11 <| .q 12 <| .l 13 [11] <| .done) mixed (by kernel_rfl) (by kernel_rfl) ?_ | refine w_sch (id := 19) (.q 0 <| .q 1 <| .q 2 <| .q 3 <| .q 4 <| .q 5 <| .l 6 [4, 2, 1] <| .l 7 [] <| .done) mixed (by kernel_rfl) (by kernel_rfl) ?_ | refine w_sch (id := 21) (.q 0 <| .q 1 <| .q 2 <| .q 3 <| .q 4 <| .q 5 <| .l 6 [4, 2, 1] <| .l 7 [] <| .done) mixed (by kernel_rfl) (by kernel_rfl) ?_); refine k_rund ?_; refine k_run ?_)
    clear fx
    rw [hval]
    refine e_ret [] .nil (by simp; rfl) ⟨by simp, ⟨by simp [hO1.top, wRow], by simp [hO1.acts], fun i a ha => by simp [hO1.act i a ha], hO1.stk.imp fun l hl => by simp [hl], by simp [hO1.glob], by simp [hO1.funs], by simp [hO1.clss], fun i c hc => by simp [hO1.cls i c hc], by simp [hO1.out], by simp [hO1.trc]⟩⟩
end Go.Proofs.YtpckgioefpkmoaaGreat
end

section
set_option maxRecDepth 100000
set_option maxHeartbeats 4000000
set_option linter.unusedSimpArgs false
namespace Go.Proofs.YtpckgioefpkmoaaGreat
open Go Go.Hm Go.Proofs
theorem runStmt_fn (gl) (p : Prg) (n : Nat) (hR : RBok gl p n) (H : Nm → Option AO) (W : Wld) (a : Nat) (k : Blk) (s : Stm) (hP : ValP p) (hw : WOk p W) (hn : W.left < n) (h0 : W.en = 0) (ha : a < W.acts.length) (hk : p[W.blk a]? = some k) (hs : s ∈ k.body) (h8 : s.kind ≠ 8) (hr : Room 2 W) (hO : OwnW H p W) (hV : H (.u 2 0 0) = none) :
    FnE Tryz.prog gl 110 (Nm.under Wn) [.pt Wn 0, iv a, s.av] H (fun _ y H' => OwnW H' p (stmW p (runW p n) W a s)) noE := by
  have hT := hO.top
  simp only [wRow] at hT
  have hst := hP.sh.stm _ k hk s hs
  have hnm := hP.sh.names k (List.mem_of_getElem? hk)
  have hkd := hnm.kinds s hs
  have hto := hnm.tos s hs
  have hvl := valueOf_fn gl p n hR
  obtain ⟨kd, to, sa, sb⟩ := s
  simp only at h8 hkd hto
  obtain ⟨x, rfl⟩ : ∃ x : Nat, to = x := ⟨to.toNat, by omega⟩
  refine FnE.of_sem Tryz.func110 rfl (by kernel_rfl) (rs := []) rfl Tryz.ntmps110 (Nat.le_of_ble_eq_true rfl) (fun _ => under_usroot rfl) fun C w g root hroot => ?_
  by_cases h9 : kd = 9
  · subst h9
    have hc : stmW p (runW p n) W a ⟨9, x, sa, sb⟩ = W := by simp [stmW]
    have fx :=  hT
    refine k_run ?_
    repeat ((first | refine w_sch (id := 9) (.q 0 <| .q 1 <| .q 2 <| .q 3 <| .q 4 <| .q 5 <| .l 6 [4, 3, 2, 1, 0] <| .l 7 [4, 3, 2, 1, 0] <| .l 8 [3, 2, 1, 0] <| .q 9 <| .q 10 <| .l 11 [9] <| .done) mixed (by kernel_rfl) (by kernel_rfl) ?_); refine k_rund ?_; refine k_run ?_)
    clear fx
    rw [hc]
    refine e_ret [] .nil (by simp; rfl) ⟨by simp [hO.top, wRow], by simp [hO.acts], fun i a ha => by simp [hO.act i a ha], hO.stk.imp fun l hl => by simp [hl], by simp [hO.glob], by simp [hO.funs], by simp [hO.clss], fun i c hc => by simp [hO.cls i c hc], by simp [hO.out], by simp [hO.trc]⟩
  by_cases h10 : kd = 10
  · subst h10
    have hc : stmW p (runW p n) W a ⟨10, x, sa, sb⟩ = W := by simp [stmW]
    have fx :=  hT
    refine k_run ?_
    repeat ((first | refine w_sch (id := 9) (.q 0 <| .q 1 <| .q 2 <| .q 3 <| .q 4 <| .q 5 <| .l 6 [4, 3, 2, 1, 0] <| .l 7 [4, 3, 2, 1, 0] <| .l 8 [3, 2, 1, 0] <| .q 9 <| .q 10 <| .l 11 [9] <| .done) mixed (by kernel_rfl) (by kernel_rfl) ?_); refine k_rund ?_; refine k_run ?_)
    clear fx
    rw [hc]
    refine e_ret [] .nil (by simp; rfl) ⟨by simp [hO.top, wRow], by simp [hO.acts], fun i a ha => by simp [hO.act i a ha], hO.stk.imp fun l hl => by simp [hl], by simp [hO.glob], by simp [hO.funs], by simp [hO.clss], fun i c hc => by simp [hO.cls i c hc], by simp [hO.out], by simp [hO.trc]⟩
  have hb9 : (kd == 9) = false := by simpa using h9
  have hb10 : (kd == 10) = false := by simpa using h10
  by_cases h11 : kd = 11
  · subst h11
    have hc : stmW p (runW p n) W a ⟨11, x, sa, sb⟩ = takeW p W a x := by simp [stmW]
    have fx :=  hT
    refine k_run ?_
    repeat ((first | refine w_sch (id := 9) (.q 0 <| .q 1 <| .q 2 <| .q 3 <| .q 4 <| .q 5 <| .l 6 [4, 3, 2, 1, 0] <| .l 7 [4, 3, 2, 1, 0] <| .l 8 [3, 2, 1, 0] <| .q 9 <| .q 10 <| .l 11 [9] <| .done) mixed (by kernel_rfl) (by kernel_rfl) ?_); refine k_rund ?_; refine k_run ?_)
    clear fx
    intro K hK
    have fx := hT
    refine x_mut Wn rfl (by simp [hT]) (hF := take_fn _ _ p W a x hP.sh hw ha (by omega) ⟨by simp [hO.top, wRow], by simp [hO.acts], fun i a ha => by simp [hO.act i a ha], hO.stk.imp fun l hl => by simp [hl], by simp [hO.glob], by simp [hO.funs], by simp [hO.clss], fun i c hc => by simp [hO.cls i c hc], by simp [hO.out], by simp [hO.trc]⟩) (h := ?_)
    rintro y H1 hO1
    clear fx
    have hT1 := hO1.top
    simp only [wRow] at hT1
    have fx := And.intro hT <| hT1
    refine k_run ?_
    repeat ((first | refine w_sch (id := 9) (.q 0 <| .q 1 <| .q 2 <| .q 3 <| .q 4 <| .q 5 <| .l 6 [4, 3, 2, 1, 0] <| .l 7 [4, 3, 2, 1, 0] <| .l 8 [3, 2, 1, 0] <| .q 9 <| .q 10 <| .l 11 [9] <| .done) mixed (by kernel_rfl) (by kernel_rfl) ?_); refine k_rund ?_; refine k_run ?_)
    clear fx
    rw [hc]
    refine e_ret [] .nil (by simp; rfl) ⟨by simp [hO1.top, wRow], by simp [hO1.acts], fun i a ha => by simp [hO1.act i a ha], hO1.stk.imp fun l hl => by simp [hl], by simp [hO1.glob], by simp [hO1.funs], by simp [hO1.clss], fun i c hc => by simp [hO1.cls i c hc], by simp [hO1.out], by simp [hO1.trc]⟩
  have hb11 : (kd == 11) = false := by simpa using h11
  have hc : stmW p (runW p n) W a ⟨kd, x, sa, sb⟩ = if (valueW p (runW p n) W a ⟨kd, x, sa, sb⟩).1.en ≠ 0 then (valueW p (runW p n) W a ⟨kd, x, sa, sb⟩).1
      else if kd = 7 then { (valueW p (runW p n) W a ⟨kd, x, sa, sb⟩).1 with out := (valueW p (runW p n) W a ⟨kd, x, sa, sb⟩).1.out ++ [Hm.shown (valueW p (runW p n) W a ⟨kd, x, sa, sb⟩).2] }
      else storeW p (valueW p (runW p n) W a ⟨kd, x, sa, sb⟩).1 a x (valueW p (runW p n) W a ⟨kd, x, sa, sb⟩).2 := by
    simp only [stmW]
    rw [if_neg (by omega), if_neg h11]
  have fx := And.intro hT <| And.intro hb9 <| And.intro hb10 <| hb11
  refine k_run ?_
  repeat ((first | refine w_sch (id := 9) (.q 0 <| .q 1 <| .q 2 <| .q 3 <| .q 4 <| .q 5 <| .l 6 [4, 3, 2, 1, 0] <| .l 7 [4, 3, 2, 1, 0] <| .l 8 [3, 2, 1, 0] <| .q 9 <| .q 10 <| .l 11 [9] <| .done) mixed (by kernel_rfl) (by kernel_rfl) ?_); refine k_rund ?_; refine k_run ?_)
  clear fx
  intro K hK
  have fx := hT
  refine x_mut Wn rfl (by simp [hT]) (hF := hvl _ W a k ⟨kd, x, sa, sb⟩ hP hw hn h0 ha hk hs ⟨by simp only; omega, by simp only; omega⟩ hr ⟨by simp [hO.top, wRow], by simp [hO.acts], fun i a ha => by simp [hO.act i a ha], hO.stk.imp fun l hl => by simp [hl], by simp [hO.glob], by simp [hO.funs], by simp [hO.clss], fun i c hc => by simp [hO.cls i c hc], by simp [hO.out], by simp [hO.trc]⟩ (by simp)) (h := ?_)
  rintro y H1 ⟨rfl, hO1⟩
  clear fx
  obtain ⟨hA, hvok⟩ := valueW_ok (runW_ok hP.sh n) hw hn h0 ha hst hr
  generalize valueW p (runW p n) W a ⟨kd, x, sa, sb⟩ = q at hO1 hA hvok hc
  obtain ⟨V, v⟩ := q
  simp only at hO1 hA hvok hc
  have hT1 := hO1.top
  simp only [wRow] at hT1
  have haV : a < V.acts.length := Nat.lt_of_lt_of_le ha hA.grow.lacts
  by_cases hen : V.en = 0
  case neg =>
    rw [if_pos hen] at hc
    have henb : (V.en == 0) = false := by simpa using hen
    have fx := And.intro hT <| And.intro hT1 <| And.intro henb <| @bne_def
    refine k_run ?_
    repeat ((first | refine w_sch (id := 9) (.q 0 <| .q 1 <| .q 2 <| .q 3 <| .q 4 <| .q 5 <| .l 6 [4, 3, 2, 1, 0] <| .l 7 [4, 3, 2, 1, 0] <| .l 8 [3, 2, 1, 0] <| .q 9 <| .q 10 <| .l 11 [9] <| .done) mixed (by kernel_rfl) (by kernel_rfl) ?_); refine k_rund ?_; refine k_run ?_)
    clear fx
    rw [hc]
    refine e_ret [] .nil (by simp; rfl) ⟨by simp [hO1.top, wRow], by simp [hO1.acts], fun i a ha => by simp [hO1.act i a ha], hO1.stk.imp fun l hl => by simp [hl], by simp [hO1.glob], by simp [hO1.funs], by simp [hO1.clss], fun i c hc => by simp [hO1.cls i c hc], by simp [hO1.out], by simp [hO1.trc]⟩
  rw [if_neg (by simpa using hen)] at hc
  have henb : (V.en == 0) = true := by simpa using hen
  by_cases h7 : kd = 7
  · subst h7
    rw [if_pos rfl] at hc
    have hU := hO1.out
    have hol := hA.ok.nout
    have hol' : V.out.length ≤ 1000 := by omega
    have hap : irows V.out ++ [[iv (Hm.shown v)]] = irows (V.out ++ [Hm.shown v]) := by simp [irows]
    have hsh := spec_shown_fn gl v
    obtain ⟨v1, v2⟩ := v
    have fx := And.intro hT <| And.intro hT1 <| And.intro henb <| And.intro hU <| And.intro hol' <| @bne_def
    have c1 := hsh
    refine k_run ?_
    repeat ((first | refine w_sch (id := 9) (.q 0 <| .q 1 <| .q 2 <| .q 3 <| .q 4 <| .q 5 <| .l 6 [4, 3, 2, 1, 0] <| .l 7 [4, 3, 2, 1, 0] <| .l 8 [3, 2, 1, 0] <| .q 9 <| .q 10 <| .l 11 [9] <| .done) mixed (by kernel_rfl) (by kernel_rfl) ?_); refine k_rund ?_; refine k_run ?_)
    clear fx c1
    rw [hc]
    refine e_ret [] .nil (by simp; rfl) (OwnW.fin ⟨by simp [wRow, hT1], by simp [hO1.acts], fun i b hb => by simp [hO1.act i b hb], hO1.stk.imp fun l hl => by simp [hl], by simp [hO1.glob], by simp [hO1.funs], by simp [hO1.clss], fun i c hc => by simp [hO1.cls i c hc], ?_, by simp [hO1.trc]⟩)
    simp
  · rw [if_neg h7] at hc
    have hb7 : (kd == 7) = false := by simpa using h7
    have hst2 := store_fn gl (p := p) (W := V) (a := a) (x := x) (v := v)
    obtain ⟨v1, v2⟩ := v
    have fx := And.intro hT <| And.intro hT1 <| And.intro henb <| And.intro hb7 <| @bne_def
    refine k_run ?_
    repeat ((first | refine w_sch (id := 9) (.q 0 <| .q 1 <| .q 2 <| .q 3 <| .q 4 <| .q 5 <| .l 6 [4, 3, 2, 1, 0] <| .l 7 [4, 3, 2, 1, 0] <| .l 8 [3, 2, 1, 0] <| .q 9 <| .q 10 <| .l 11 [9] <| .done) mixed (by kernel_rfl) (by kernel_rfl) ?_); refine k_rund ?_; refine k_run ?_)
    clear fx
    intro K hK
    have fx := And.intro hT hT1
    refine x_mut Wn rfl (by simp [hT1]) (hF := hst2 _ hP.sh hA.ok haV (by omega) ⟨by simp [hO1.top, wRow], by simp [hO1.acts], fun i a ha => by simp [hO1.act i a ha], hO1.stk.imp fun l hl => by simp [hl], by simp [hO1.glob], by simp [hO1.funs], by simp [hO1.clss], fun i c hc => by simp [hO1.cls i c hc], by simp [hO1.out], by simp [hO1.trc]⟩) (h := ?_)
    rintro y H2 hO2
    clear fx
    have hT2 := hO2.top
    simp only [wRow] at hT2
    have fx := And.intro hT <| And.intro hT1 <| hT2
    refine k_run ?_
    repeat ((first | refine w_sch (id := 9) (.q 0 <| .q 1 <| .q 2 <| .q 3 <| .q 4 <| .q 5 <| .l 6 [4, 3, 2, 1, 0] <| .l 7 [4, 3, 2, 1, 0] <| .l 8 [3, 2, 1, 0] <| .q 9 <| .q 10 <| .l 11 [9] <| .done) mixed (by kernel_rfl) (by kernel_rfl) ?_); refine k_rund ?_; refine k_run ?_)
    clear fx
    rw [hc]
    refine e_norm [] .nil (by simp; rfl) ⟨by simp [hO2.top, wRow], by simp [hO2.acts], fun i a ha => by simp [hO2.act i a ha], hO2.stk.imp fun l hl => by simp [hl], by simp [hO2.glob], by simp [hO2.funs], by simp [hO2.clss], fun i c hc => by simp [hO2.cls i c hc], by simp [hO2.out], by simp [hO2.trc]⟩
end Go.Proofs.YtpckgioefpkmoaaGreat
end

section
set_option maxRecDepth 100000
set_option maxHeartbeats 4000000
set_option linter.unusedSimpArgs false
namespace Go.Proofs.YtpckgioefpkmoaaGreat
open Go Go.Hm Go.Proofs
theorem runBlock_step (gl) (p : Prg) (n : Nat) (hR : RBok gl p n) (hP : ValP p) : RBok gl p (n + 1) := by
  intro H W a hO hw hn ha h0 hV
  show FnE Tryz.prog gl 80 (Nm.under Wn) [.pt Wn 0, iv a] H _ noE
  obtain ⟨c, hc⟩ : ∃ c, W.acts[a]? = some c := ⟨_, List.getElem?_eq_getElem ha⟩
  obtain ⟨_, hcE⟩ := List.getElem?_eq_some_iff.1 hc
  have hbl := hw.blks a c hc
  obtain ⟨k, hk⟩ : ∃ k, p[c.blk]? = some k := ⟨_, List.getElem?_eq_getElem hbl⟩
  obtain ⟨_, hkE⟩ := List.getElem?_eq_some_iff.1 hk
  have hbk := blk_at hc
  have hT := hO.top
  have hA := hO.acts
  simp only [wRow] at hT
  have hb12 := hP.sh.body k (List.mem_of_getElem? hk)
  have hrun : runW p (n + 1) W a = bodyW p (runW p n) a W 0 k.body := by simp only [runW, hbk, hk]
  refine FnE.of_sem Tryz.func80 rfl (by kernel_rfl) (rs := [.cell 4 111]) rfl Tryz.ntmps80 (Nat.le_of_ble_eq_true rfl) (fun _ => under_usroot rfl) fun C w g root hroot => ?_
  have fx := And.intro hT <| And.intro hA <| And.intro hc <| And.intro hcE <| And.intro ha <| And.intro hk <| And.intro hkE <| hbl
  refine k_run ?_
  repeat ((first | refine w_sch (id := 1) (.q 0 <| .q 1 <| .q 2 <| .q 3 <| .q 4 <| .q 5 <| .q 6 <| .q 7 <| .q 8 <| .q 9 <| .q 10 <| .q 11 <| .q 12 <| .q 13 <| .q 14 <| .q 15 <| .l 16 [] <| .done) mixed (by kernel_rfl) (by kernel_rfl) ?_ | refine w_sch (id := 9) (.q 0 <| .q 1 <| .q 2 <| .q 3 <| .q 4 <| .q 5 <| .q 6 <| .q 7 <| .q 8 <| .q 9 <| .q 10 <| .q 11 <| .q 12 <| .q 13 <| .q 14 <| .l 15 [13, 12, 11, 10, 9, 8, 7, 6, 5, 4, 3, 2, 1, 0] <| .l 16 [13, 12, 11, 10, 9, 8, 7, 6, 5, 3, 2, 1, 0] <| .q 17 <| .q 18 <| .l 19 [17] <| .done) mixed (by kernel_rfl) (by kernel_rfl) ?_); refine k_rund ?_; refine k_run ?_)
  clear fx
  refine w_loop (fun m st => ∃ (i : Nat) (V : Wld), m = k.body.length - i ∧ i ≤ k.body.length ∧ runW p (n + 1) W a = bodyW p (runW p n) a V i (k.body.drop i) ∧ WOk p V ∧ V.left < n + 1 ∧ a < V.acts.length ∧ V.en = 0 ∧ V.blk a = c.blk ∧ st.tm 0 = .pt Wn 0 ∧ st.tm 1 = iv a ∧ st.tm 4 = .pt (.s 4) 0 ∧ st.hp (.s 4) = some (.row 2 [[iv 0, iv 0]]) ∧ st.tm 5 = ssl k.body ∧ st.tm 6 = iv i ∧ OwnW st.hp p V) k.body.length ?_ ?_
  · exact ⟨0, W, by omega, by omega, by simpa using hrun, hw, hn, ha, h0, hbk, by simp, by simp, by simp, by simp, by simp, by simp, ⟨by simp [hO.top, wRow], by simp [hO.acts], fun i a ha => by simp [hO.act i a ha], hO.stk.imp fun l hl => by simp [hl], by simp [hO.glob], by simp [hO.funs], by simp [hO.clss], fun i c hc => by simp [hO.cls i c hc], by simp [hO.out], by simp [hO.trc]⟩⟩
  clear hT hA hO
  rintro m st - - ⟨i, V, rfl, hi, hres, hw', hn', ha', h0', hbV, t0, t1, t4, hp4, t5, t6, hO⟩
  clear hrun h0 hn hw hc hcE ha
  obtain ⟨d, hd⟩ : ∃ d, V.acts[a]? = some d := ⟨_, List.getElem?_eq_getElem ha'⟩
  obtain ⟨_, hdE⟩ := List.getElem?_eq_some_iff.1 hd
  have hdb : d.blk = c.blk := by rw [← blk_at hd]; exact hbV
  have hT := hO.top
  have hA := hO.acts
  simp only [wRow] at hT
  by_cases hil : i < k.body.length
  case neg =>
    have hge : i = k.body.length := by omega
    rw [hge, List.drop_length] at hres
    simp only [bodyW] at hres
    have fx := And.intro t0 <| And.intro t1 <| And.intro t4 <| And.intro hp4 <| And.intro t5 <| And.intro t6 <| hil
    refine k_run ?_
    repeat ((first | refine w_sch (id := 1) (.q 0 <| .q 1 <| .q 2 <| .q 3 <| .q 4 <| .q 5 <| .q 6 <| .q 7 <| .q 8 <| .q 9 <| .q 10 <| .q 11 <| .q 12 <| .q 13 <| .q 14 <| .q 15 <| .l 16 [] <| .done) mixed (by kernel_rfl) (by kernel_rfl) ?_ | refine w_sch (id := 9) (.q 0 <| .q 1 <| .q 2 <| .q 3 <| .q 4 <| .q 5 <| .q 6 <| .q 7 <| .q 8 <| .q 9 <| .q 10 <| .q 11 <| .q 12 <| .q 13 <| .q 14 <| .l 15 [13, 12, 11, 10, 9, 8, 7, 6, 5, 4, 3, 2, 1, 0] <| .l 16 [13, 12, 11, 10, 9, 8, 7, 6, 5, 3, 2, 1, 0] <| .q 17 <| .q 18 <| .l 19 [17] <| .done) mixed (by kernel_rfl) (by kernel_rfl) ?_); refine k_rund ?_; refine k_run ?_)
    clear fx
    rw [hres]
    refine e_ret [] .nil (by simp [t4]; rfl) ⟨by simp, ⟨by simp [hO.top, wRow], by simp [hO.acts], fun i a ha => by simp [hO.act i a ha], hO.stk.imp fun l hl => by simp [hl], by simp [hO.glob], by simp [hO.funs], by simp [hO.clss], fun i c hc => by simp [hO.cls i c hc], by simp [hO.out], by simp [hO.trc]⟩⟩
  obtain ⟨s, hs⟩ : ∃ s, k.body[i]? = some s := ⟨_, List.getElem?_eq_getElem hil⟩
  obtain ⟨_, hsE⟩ := List.getElem?_eq_some_iff.1 hs
  have hsm := List.mem_of_getElem? hs
  have hdr : k.body.drop i = s :: k.body.drop (i + 1) := by rw [List.drop_eq_getElem_cons hil, hsE]
  rw [hdr] at hres
  by_cases hl : V.left = 0
  · have hr2 : bodyW p (runW p n) a V i (s :: k.body.drop (i + 1)) = ({ V with en := 1 }, (0, 0)) := by simp only [bodyW, hl, if_true]
    rw [hr2] at hres
    have fx := And.intro t0 <| And.intro t1 <| And.intro t4 <| And.intro hp4 <| And.intro t5 <| And.intro t6 <| And.intro hil <| And.intro hT <| hl
    refine k_run ?_
    repeat ((first | refine w_sch (id := 1) (.q 0 <| .q 1 <| .q 2 <| .q 3 <| .q 4 <| .q 5 <| .q 6 <| .q 7 <| .q 8 <| .q 9 <| .q 10 <| .q 11 <| .q 12 <| .q 13 <| .q 14 <| .q 15 <| .l 16 [] <| .done) mixed (by kernel_rfl) (by kernel_rfl) ?_ | refine w_sch (id := 9) (.q 0 <| .q 1 <| .q 2 <| .q 3 <| .q 4 <| .q 5 <| .q 6 <| .q 7 <| .q 8 <| .q 9 <| .q 10 <| .q 11 <| .q 12 <| .q 13 <| .q 14 <| .l 15 [13, 12, 11, 10, 9, 8, 7, 6, 5, 4, 3, 2, 1, 0] <| .l 16 [13, 12, 11, 10, 9, 8, 7, 6, 5, 3, 2, 1, 0] <| .q 17 <| .q 18 <| .l 19 [17] <| .done) mixed (by kernel_rfl) (by kernel_rfl) ?_); refine k_rund ?_; refine k_run ?_)
    clear fx
    rw [hres]
    refine e_ret [] .nil (by simp [t4]; rfl) ⟨by simp, ⟨by simp [hO.top, wRow, hT, hl], by simp [hO.acts, hT, hl], fun i a ha => by simp [hO.act i a ha, hT, hl], hO.stk.imp fun l hl => by simp [hl, hT, hl], by simp [hO.glob, hT, hl], by simp [hO.funs, hT, hl], by simp [hO.clss, hT, hl], fun i c hc => by simp [hO.cls i c hc, hT, hl], by simp [hO.out, hT, hl], by simp [hO.trc, hT, hl]⟩⟩
  obtain ⟨l, hll⟩ : ∃ l, V.left = l + 1 := ⟨V.left - 1, by omega⟩
  have hr2 : bodyW p (runW p n) a V i (s :: k.body.drop (i + 1)) = if s.kind = 8 then loadW p (tickW V a i) a s.a else if (stmW p (runW p n) (tickW V a i) a s).en ≠ 0 then (stmW p (runW p n) (tickW V a i) a s, (0, 0)) else bodyW p (runW p n) a (stmW p (runW p n) (tickW V a i) a s) (i + 1) (k.body.drop (i + 1)) := by
    simp only [bodyW, hl, if_false]
  rw [hr2] at hres
  clear hr2
  obtain ⟨tk1, tk2⟩ := tickW_ok (a := a) (i := i) hw' hl
  have hTt : tickW V a i = { V with left := l, trace := V.trace ++ [(d.blk, i)] } := by simp only [tickW, blk_at hd]; rw [hll]; rfl
  have hbV2 : (tickW V a i).blk a = d.blk := by rw [show (tickW V a i).blk a = V.blk a from rfl, blk_at hd]
  have hleft : (tickW V a i).left < n := by simp only [tickW]; omega
  have hTr := hO.trc
  have hnt := hw'.ntr
  have hnl := hw'.nacts
  have htl' : V.trace.length ≤ 1000 := by omega
  have hl8 : l ≤ 1000 := by omega
  have hlb : ((l : Int) + 1 == 0) = false := by rw [beq_eq_false_iff_ne]; omega
  have hwl : IntKind.i64.wrap (l : Int) = l := wrp (by omega) (by omega)
  have hap : nrows V.trace ++ [[iv d.blk, iv i]] = nrows (V.trace ++ [(d.blk, i)]) := nrows_app1
  by_cases h8 : s.kind = 8
  · rw [if_pos h8] at hres
    have hb8 : (s.kind == 8) = true := by simpa using h8
    have hrs := (hP.sh.names k (List.mem_of_getElem? hk)).reads s hsm s.a (by simp [Stm.reads, h8])
    obtain ⟨x, hx⟩ : ∃ x : Nat, s.a = x := ⟨s.a.toNat, by omega⟩
    rw [hx] at hres
    have fx := And.intro t0 <| And.intro t1 <| And.intro t4 <| And.intro hp4 <| And.intro t5 <| And.intro t6 <| And.intro hil <| And.intro hT <| And.intro hll <| And.intro hlb <| And.intro hwl <| And.intro hTr <| And.intro htl' <| And.intro hA <| And.intro hd <| And.intro hdE <| And.intro ha' <| And.intro hs <| And.intro hsE <| And.intro hb8 <| hx
    refine k_run ?_
    repeat ((first | refine w_sch (id := 1) (.q 0 <| .q 1 <| .q 2 <| .q 3 <| .q 4 <| .q 5 <| .q 6 <| .q 7 <| .q 8 <| .q 9 <| .q 10 <| .q 11 <| .q 12 <| .q 13 <| .q 14 <| .q 15 <| .l 16 [] <| .done) mixed (by kernel_rfl) (by kernel_rfl) ?_ | refine w_sch (id := 9) (.q 0 <| .q 1 <| .q 2 <| .q 3 <| .q 4 <| .q 5 <| .q 6 <| .q 7 <| .q 8 <| .q 9 <| .q 10 <| .q 11 <| .q 12 <| .q 13 <| .q 14 <| .l 15 [13, 12, 11, 10, 9, 8, 7, 6, 5, 4, 3, 2, 1, 0] <| .l 16 [13, 12, 11, 10, 9, 8, 7, 6, 5, 3, 2, 1, 0] <| .q 17 <| .q 18 <| .l 19 [17] <| .done) mixed (by kernel_rfl) (by kernel_rfl) ?_); refine k_rund ?_; refine k_run ?_)
    clear fx
    intro K hK
    have fx := And.intro t0 (And.intro t1 hT)
    refine x_mut Wn rfl (by simp [hT]) (hF := load_fn _ _ p (tickW V a i) a x hP.sh tk1 ha' (by omega) (by rw [hTt]; exact ⟨by simp [wRow, hT], by simp [hO.acts], fun j b hb => by simp [hO.act j b hb], hO.stk.imp fun l hl => by simp [hl], by simp [hO.glob], by simp [hO.funs], by simp [hO.clss], fun j b hb => by simp [hO.cls j b hb], by simp [hO.out], by simp [← hap]⟩)) (h := ?_)
    rintro y H1 ⟨rfl, hO1⟩
    clear fx
    generalize loadW p (tickW V a i) a x = q at hO1 hres
    obtain ⟨U, v1, v2⟩ := q
    have hT1 := hO1.top
    simp only [wRow] at hT1
    have fx := And.intro t0 <| And.intro t1 <| And.intro t4 <| And.intro hp4 <| And.intro t5 <| And.intro t6 <| And.intro hT <| hT1
    refine k_run ?_
    repeat ((first | refine w_sch (id := 1) (.q 0 <| .q 1 <| .q 2 <| .q 3 <| .q 4 <| .q 5 <| .q 6 <| .q 7 <| .q 8 <| .q 9 <| .q 10 <| .q 11 <| .q 12 <| .q 13 <| .q 14 <| .q 15 <| .l 16 [] <| .done) mixed (by kernel_rfl) (by kernel_rfl) ?_ | refine w_sch (id := 9) (.q 0 <| .q 1 <| .q 2 <| .q 3 <| .q 4 <| .q 5 <| .q 6 <| .q 7 <| .q 8 <| .q 9 <| .q 10 <| .q 11 <| .q 12 <| .q 13 <| .q 14 <| .l 15 [13, 12, 11, 10, 9, 8, 7, 6, 5, 4, 3, 2, 1, 0] <| .l 16 [13, 12, 11, 10, 9, 8, 7, 6, 5, 3, 2, 1, 0] <| .q 17 <| .q 18 <| .l 19 [17] <| .done) mixed (by kernel_rfl) (by kernel_rfl) ?_); refine k_rund ?_; refine k_run ?_)
    clear fx
    rw [hres]
    refine e_ret [] .nil (by simp [t4]; rfl) ⟨by simp, ⟨by simp [hO1.top, wRow], by simp [hO1.acts], fun i a ha => by simp [hO1.act i a ha], hO1.stk.imp fun l hl => by simp [hl], by simp [hO1.glob], by simp [hO1.funs], by simp [hO1.clss], fun i c hc => by simp [hO1.cls i c hc], by simp [hO1.out], by simp [hO1.trc]⟩⟩
  · rw [if_neg h8] at hres
    have hb8 : (s.kind == 8) = false := by simpa using h8
    have hk' : p[(tickW V a i).blk a]? = some k := by rw [hbV2, hdb]; exact hk
    have hst := hP.sh.stm _ k hk s hsm
    have hSo := stmW_ok (s := s) (k := k) (runW_ok hP.sh n) tk1 hleft h0' ha' (by rw [hbV2, hdb]; exact hst) tk2
    have fx := And.intro t0 <| And.intro t1 <| And.intro t4 <| And.intro hp4 <| And.intro t5 <| And.intro t6 <| And.intro hil <| And.intro hT <| And.intro hll <| And.intro hlb <| And.intro hwl <| And.intro hTr <| And.intro htl' <| And.intro hA <| And.intro hd <| And.intro hdE <| And.intro ha' <| And.intro hs <| And.intro hsE <| hb8
    refine k_run ?_
    repeat ((first | refine w_sch (id := 1) (.q 0 <| .q 1 <| .q 2 <| .q 3 <| .q 4 <| .q 5 <| .q 6 <| .q 7 <| .q 8 <| .q 9 <| .q 10 <| .q 11 <| .q 12 <| .q 13 <| .q 14 <| .q 15 <| .l 16 [] <| .done) mixed (by kernel_rfl) (by kernel_rfl) ?_ | refine w_sch (id := 9) (.q 0 <| .q 1 <| .q 2 <| .q 3 <| .q 4 <| .q 5 <| .q 6 <| .q 7 <| .q 8 <| .q 9 <| .q 10 <| .q 11 <| .q 12 <| .q 13 <| .q 14 <| .l 15 [13, 12, 11, 10, 9, 8, 7, 6, 5, 4, 3, 2, 1, 0] <| .l 16 [13, 12, 11, 10, 9, 8, 7, 6, 5, 3, 2, 1, 0] <| .q 17 <| .q 18 <| .l 19 [17] <| .done) mixed (by kernel_rfl) (by kernel_rfl) ?_); refine k_rund ?_; refine k_run ?_)
    clear fx
    intro K hK
    have fx := And.intro t0 (And.intro t1 hT)
    refine x_mut Wn rfl (by simp [hT]) (hF := runStmt_fn gl p n hR _ (tickW V a i) a k s hP tk1 hleft h0' ha' hk' hsm h8 tk2 (by rw [hTt]; exact ⟨by simp [wRow, hT], by simp [hO.acts], fun j b hb => by simp [hO.act j b hb], hO.stk.imp fun l hl => by simp [hl], by simp [hO.glob], by simp [hO.funs], by simp [hO.clss], fun j b hb => by simp [hO.cls j b hb], by simp [hO.out], by simp [← hap]⟩) (by simp)) (h := ?_)
    rintro y H1 hO1
    clear fx
    have hAf := hSo.tick hl
    generalize stmW p (runW p n) (tickW V a i) a s = U at hO1 hAf hres hSo
    have hT1 := hO1.top
    simp only [wRow] at hT1
    by_cases hen : U.en = 0
    · rw [if_neg (by simpa using hen)] at hres
      have henb : (U.en == 0) = true := by simpa using hen
      have fx := And.intro t0 <| And.intro t1 <| And.intro t4 <| And.intro hp4 <| And.intro t5 <| And.intro t6 <| And.intro hT <| And.intro hT1 <| And.intro henb <| @bne_def
      refine k_run ?_
      repeat ((first | refine w_sch (id := 1) (.q 0 <| .q 1 <| .q 2 <| .q 3 <| .q 4 <| .q 5 <| .q 6 <| .q 7 <| .q 8 <| .q 9 <| .q 10 <| .q 11 <| .q 12 <| .q 13 <| .q 14 <| .q 15 <| .l 16 [] <| .done) mixed (by kernel_rfl) (by kernel_rfl) ?_ | refine w_sch (id := 9) (.q 0 <| .q 1 <| .q 2 <| .q 3 <| .q 4 <| .q 5 <| .q 6 <| .q 7 <| .q 8 <| .q 9 <| .q 10 <| .q 11 <| .q 12 <| .q 13 <| .q 14 <| .l 15 [13, 12, 11, 10, 9, 8, 7, 6, 5, 4, 3, 2, 1, 0] <| .l 16 [13, 12, 11, 10, 9, 8, 7, 6, 5, 3, 2, 1, 0] <| .q 17 <| .q 18 <| .l 19 [17] <| .done) mixed (by kernel_rfl) (by kernel_rfl) ?_); refine k_rund ?_; refine k_run ?_)
      clear fx
      exact ⟨k.body.length - (i + 1), by omega, i + 1, U, rfl, by omega, hres, hAf.ok, by have := hAf.grow.left; omega, Nat.lt_of_lt_of_le ha' hAf.grow.lacts, hen, by rw [hAf.grow.blk hd]; exact hbV, by simp [t0, hT], by simp [t1], by simp [t4], by simp [hp4], by simp [t5], by simp [t6]; exact wrp (by omega) (by omega), ⟨by simp [hO1.top, wRow], by simp [hO1.acts], fun i a ha => by simp [hO1.act i a ha], hO1.stk.imp fun l hl => by simp [hl], by simp [hO1.glob], by simp [hO1.funs], by simp [hO1.clss], fun i c hc => by simp [hO1.cls i c hc], by simp [hO1.out], by simp [hO1.trc]⟩⟩
    · rw [if_pos (by simpa using hen)] at hres
      have henb : (U.en == 0) = false := by simpa using hen
      have fx := And.intro t0 <| And.intro t1 <| And.intro t4 <| And.intro hp4 <| And.intro t5 <| And.intro t6 <| And.intro hT <| And.intro hT1 <| And.intro henb <| @bne_def
      refine k_run ?_
      repeat ((first | refine w_sch (id := 1) (.q 0 <| .q 1 <| .q 2 <| .q 3 <| .q 4 <| .q 5 <| .q 6 <| .q 7 <| .q 8 <| .q 9 <| .q 10 <| .q 11 <| .q 12 <| .q 13 <| .q 14 <| .q 15 <| .l 16 [] <| .done) mixed (by kernel_rfl) (by kernel_rfl) ?_ | refine w_sch (id := 9) (.q 0 <| .q 1 <| .q 2 <| .q 3 <| .q 4 <| .q 5 <| .q 6 <| .q 7 <| .q 8 <| .q 9 <| .q 10 <| .q 11 <| .q 12 <| .q 13 <| .q 14 <| .l 15 [13, 12, 11, 10, 9, 8, 7, 6, 5, 4, 3, 2, 1, 0] <| .l 16 [13, 12, 11, 10, 9, 8, 7, 6, 5, 3, 2, 1, 0] <| .q 17 <| .q 18 <| .l 19 [17] <| .done) mixed (by kernel_rfl) (by kernel_rfl) ?_); refine k_rund ?_; refine k_run ?_)
      clear fx
      rw [hres]
      refine e_ret [] .nil (by simp [t4]; rfl) ⟨by simp, ⟨by simp [hO1.top, wRow], by simp [hO1.acts], fun i a ha => by simp [hO1.act i a ha], hO1.stk.imp fun l hl => by simp [hl], by simp [hO1.glob], by simp [hO1.funs], by simp [hO1.clss], fun i c hc => by simp [hO1.cls i c hc], by simp [hO1.out], by simp [hO1.trc]⟩⟩
theorem runBlock_fn (gl) (p : Prg) (hP : ValP p) : ∀ n, RBok gl p n
  | 0 => fun H W a _ _ h => absurd h (by omega)
  | n + 1 => runBlock_step gl p n (runBlock_fn gl p hP n) hP
end Go.Proofs.YtpckgioefpkmoaaGreat
end
