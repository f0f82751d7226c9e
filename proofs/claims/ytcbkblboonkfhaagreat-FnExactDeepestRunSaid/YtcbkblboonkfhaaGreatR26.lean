/-
  Own texts, joined by mkclaim.py: Qi, Qj.
-/
import Derived.Test.YtcbkblboonkfhaaGreatR25
set_option linter.unusedSimpArgs false
set_option linter.unusedVariables false

section
set_option maxRecDepth 100000
set_option maxHeartbeats 4000000
set_option linter.unusedSimpArgs false
namespace Go.Proofs.YtcbkblboonkfhaaGreat
open Go Go.Hm Go.Proofs
theorem valueOfM_fn (gl) (p : Prg) (n : Nat) (hR : MBok gl 207 p n) (H : Nm → Option AO) (W : Wld) (a : Nat) (k : Blk) (s : Stm) (vs : List Val) (hP : ValP p) (hw : WOk p W) (hn : W.left < n) (h0 : W.en = 0) (ha : a < W.acts.length) (hk : p[W.blk a]? = some k) (hs : s ∈ k.body) (hkd : 0 ≤ s.kind ∧ s.kind ≤ 6) (hr : Room 2 W)
    (hl : vs.length = s.reads.length) (hvok : ∀ v ∈ vs, VOk W.funs.length W.classes.length v) (hO : OwnM H 207 p W) (hL : H (.u 2 0 0) = some (.row 2 (vrows vs))) :
    FnE Tryz.prog gl 182 DM2 [.pt Mn 0, ptE a, s.av, .hs (.u 2 0 0) 2 0 vs.length] H (fun _ y H' => y = .tup [Val.av (workW p (runW p n) W a s vs).2, bv (decide ((workW p (runW p n) W a s vs).1.en = 0))] ∧ OwnM H' 207 p (workW p (runW p n) W a s vs).1) noE := by
  have hT := hO.top
  simp only [mRow] at hT
  have hst := hP.sh.stm _ k hk s hs
  have hnm := hP.sh.names k (List.mem_of_getElem? hk)
  have hp1 := hL
  obtain ⟨c, hc⟩ : ∃ c, W.acts[a]? = some c := ⟨_, List.getElem?_eq_getElem ha⟩
  have hE := hO.env a c hc
  obtain ⟨kd, to, sa, sb⟩ := s
  simp only at hkd
  refine FnE.of_sem Tryz.func182 rfl (by kernel_rfl) (rs := [.cell 8 117, .tmp 9]) rfl Tryz.ntmps182 (Nat.le_of_ble_eq_true rfl) (fun _ => DM2_root) fun C w g root hroot => ?_
  have hkc : kd = 0 ∨ kd = 1 ∨ kd = 2 ∨ kd = 3 ∨ kd = 4 ∨ kd = 5 ∨ kd = 6 := by omega
  rcases hkc with rfl | rfl | rfl | rfl | rfl | rfl | rfl
  · have hw0 : workW p (runW p n) W a ⟨0, to, sa, sb⟩ vs = (W, (1, sa)) := by simp [workW]
    have fx := And.intro hT <| And.intro hp1 <| @bne_def
    refine k_run ?_
    repeat ((first | refine w_sch (id := 7) (.q 0 <| .q 1 <| .q 2 <| .q 3 <| .q 4 <| .q 5 <| .q 6 <| .l 7 [5, 4, 2, 1] <| .q 8 <| .q 9 <| .l 10 [] <| .l 11 [] <| .done) mixed (by kernel_rfl) (by kernel_rfl) ?_ | refine w_sch (id := 13) (.q 0 <| .q 1 <| .q 2 <| .q 3 <| .q 4 <| .q 5 <| .l 6 [4, 2, 1] <| .q 7 <| .q 8 <| .l 9 [] <| .l 10 [] <| .done) mixed (by kernel_rfl) (by kernel_rfl) ?_ | refine w_sch (id := 14) (.q 0 <| .q 1 <| .q 2 <| .q 3 <| .q 4 <| .q 5 <| .l 6 [4, 2, 1] <| .q 7 <| .q 8 <| .l 9 [] <| .l 10 [] <| .done) mixed (by kernel_rfl) (by kernel_rfl) ?_); refine k_rund ?_; refine k_run ?_)
    clear fx
    rw [hw0]
    refine e_ret [] .nil (by simp; rfl) ⟨by simp [h0], OwnM.fin ⟨by simp [hO.top, mRow], ⟨by simp [hO.scs.top], fun j k hj hk => by simp [hO.scs.sc j k hj hk]⟩, by simp [hO.out], by simp [hO.trc], hO.run.imp fun l hl => ⟨hl.1, by simp [hl.2]⟩, by simp [hO.funs], fun k g hg => by simp [hO.bx k g hg], by simp [hO.clss], fun k c hc => (hO.cls k c hc).imp fun ms hm => ⟨by simp [hm.1], hm.2⟩, fun i a ha => by simp [hO.env i a ha], fun i hi => (hO.nms i hi).imp fun ms hm => ⟨by simp [hm.1], hm.2⟩, fun k i j hk hn => if e : k = 1 ∧ i = 0 ∧ j = 0 then .inl e else hO.only k i j hk (by simpa [hk, e] using hn)⟩⟩
  · obtain ⟨u, rfl⟩ : ∃ u, vs = [u] := by
      match vs, hl with
      | [u], _ => exact ⟨u, rfl⟩
      | [], h => simp [Stm.reads] at h
      | _ :: _ :: _, h => simp [Stm.reads] at h
    have hw0 : workW p (runW p n) W a ⟨1, to, sa, sb⟩ [u] = (W, u) := by simp [workW]
    have fx := And.intro hT <| And.intro hp1 <| @bne_def
    refine k_run ?_
    repeat ((first | refine w_sch (id := 7) (.q 0 <| .q 1 <| .q 2 <| .q 3 <| .q 4 <| .q 5 <| .q 6 <| .l 7 [5, 4, 2, 1] <| .q 8 <| .q 9 <| .l 10 [] <| .l 11 [] <| .done) mixed (by kernel_rfl) (by kernel_rfl) ?_ | refine w_sch (id := 13) (.q 0 <| .q 1 <| .q 2 <| .q 3 <| .q 4 <| .q 5 <| .l 6 [4, 2, 1] <| .q 7 <| .q 8 <| .l 9 [] <| .l 10 [] <| .done) mixed (by kernel_rfl) (by kernel_rfl) ?_ | refine w_sch (id := 14) (.q 0 <| .q 1 <| .q 2 <| .q 3 <| .q 4 <| .q 5 <| .l 6 [4, 2, 1] <| .q 7 <| .q 8 <| .l 9 [] <| .l 10 [] <| .done) mixed (by kernel_rfl) (by kernel_rfl) ?_); refine k_rund ?_; refine k_run ?_)
    clear fx
    rw [hw0]
    refine e_ret [] .nil (by simp; rfl) ⟨by simp [h0], OwnM.fin ⟨by simp [hO.top, mRow], ⟨by simp [hO.scs.top], fun j k hj hk => by simp [hO.scs.sc j k hj hk]⟩, by simp [hO.out], by simp [hO.trc], hO.run.imp fun l hl => ⟨hl.1, by simp [hl.2]⟩, by simp [hO.funs], fun k g hg => by simp [hO.bx k g hg], by simp [hO.clss], fun k c hc => (hO.cls k c hc).imp fun ms hm => ⟨by simp [hm.1], hm.2⟩, fun i a ha => by simp [hO.env i a ha], fun i hi => (hO.nms i hi).imp fun ms hm => ⟨by simp [hm.1], hm.2⟩, fun k i j hk hn => if e : k = 1 ∧ i = 0 ∧ j = 0 then .inl e else hO.only k i j hk (by simpa [hk, e] using hn)⟩⟩
  · obtain ⟨u, v, rfl⟩ : ∃ u v, vs = [u, v] := by
      match vs, hl with
      | [u, v], _ => exact ⟨u, v, rfl⟩
      | [], h => simp [Stm.reads] at h
      | [_], h => simp [Stm.reads] at h
      | _ :: _ :: _ :: _, h => simp [Stm.reads] at h
    have hw0 : workW p (runW p n) W a ⟨2, to, sa, sb⟩ [u, v] = plusW W u v := by simp [workW]
    have fx := And.intro hT <| And.intro hp1 <| @bne_def
    refine k_run ?_
    repeat ((first | refine w_sch (id := 7) (.q 0 <| .q 1 <| .q 2 <| .q 3 <| .q 4 <| .q 5 <| .q 6 <| .l 7 [5, 4, 2, 1] <| .q 8 <| .q 9 <| .l 10 [] <| .l 11 [] <| .done) mixed (by kernel_rfl) (by kernel_rfl) ?_ | refine w_sch (id := 13) (.q 0 <| .q 1 <| .q 2 <| .q 3 <| .q 4 <| .q 5 <| .l 6 [4, 2, 1] <| .q 7 <| .q 8 <| .l 9 [] <| .l 10 [] <| .done) mixed (by kernel_rfl) (by kernel_rfl) ?_ | refine w_sch (id := 14) (.q 0 <| .q 1 <| .q 2 <| .q 3 <| .q 4 <| .q 5 <| .l 6 [4, 2, 1] <| .q 7 <| .q 8 <| .l 9 [] <| .l 10 [] <| .done) mixed (by kernel_rfl) (by kernel_rfl) ?_); refine k_rund ?_; refine k_run ?_)
    clear fx
    intro K hK
    have fx := And.intro hT hp1
    refine x_callM hO ⟨by simp [hO.top, mRow], ⟨by simp [hO.scs.top], fun j k hj hk => by simp [hO.scs.sc j k hj hk]⟩, by simp [hO.out], by simp [hO.trc], hO.run.imp fun l hl => ⟨hl.1, by simp [hl.2]⟩, by simp [hO.funs], fun k g hg => by simp [hO.bx k g hg], by simp [hO.clss], fun k c hc => (hO.cls k c hc).imp fun ms hm => ⟨by simp [hm.1], hm.2⟩, fun i a ha => by simp [hO.env i a ha], fun i hi => (hO.nms i hi).imp fun ms hm => ⟨by simp [hm.1], hm.2⟩, fun k i j hk hn => if e : k = 1 ∧ i = 0 ∧ j = 0 then .inl e else hO.only k i j hk (by simpa [hk, e] using hn)⟩ (Nat.le_refl _) (Nat.le_refl _) (hF := fun hs => add_fn _ _ _ p W u v h0 (hvok u (by simp)) (hvok v (by simp)) hs) (h := ?_)
    rintro y H2 ⟨rfl, hO2⟩
    clear fx
    have hT2 := hO2.top
    simp only [mRow] at hT2
    have fx := And.intro hT <| And.intro hp1 <| And.intro hT2 <| @bne_def
    refine k_run ?_
    repeat ((first | refine w_sch (id := 7) (.q 0 <| .q 1 <| .q 2 <| .q 3 <| .q 4 <| .q 5 <| .q 6 <| .l 7 [5, 4, 2, 1] <| .q 8 <| .q 9 <| .l 10 [] <| .l 11 [] <| .done) mixed (by kernel_rfl) (by kernel_rfl) ?_ | refine w_sch (id := 13) (.q 0 <| .q 1 <| .q 2 <| .q 3 <| .q 4 <| .q 5 <| .l 6 [4, 2, 1] <| .q 7 <| .q 8 <| .l 9 [] <| .l 10 [] <| .done) mixed (by kernel_rfl) (by kernel_rfl) ?_ | refine w_sch (id := 14) (.q 0 <| .q 1 <| .q 2 <| .q 3 <| .q 4 <| .q 5 <| .l 6 [4, 2, 1] <| .q 7 <| .q 8 <| .l 9 [] <| .l 10 [] <| .done) mixed (by kernel_rfl) (by kernel_rfl) ?_); refine k_rund ?_; refine k_run ?_)
    clear fx
    rw [hw0]
    refine e_ret [] .nil (by simp; rfl) ⟨by simp, OwnM.fin ⟨by simp [hO2.top, mRow], ⟨by simp [hO2.scs.top], fun j k hj hk => by simp [hO2.scs.sc j k hj hk]⟩, by simp [hO2.out], by simp [hO2.trc], hO2.run.imp fun l hl => ⟨hl.1, by simp [hl.2]⟩, by simp [hO2.funs], fun k g hg => by simp [hO2.bx k g hg], by simp [hO2.clss], fun k c hc => (hO2.cls k c hc).imp fun ms hm => ⟨by simp [hm.1], hm.2⟩, fun i a ha => by simp [hO2.env i a ha], fun i hi => (hO2.nms i hi).imp fun ms hm => ⟨by simp [hm.1], hm.2⟩, fun k i j hk hn => if e : k = 1 ∧ i = 0 ∧ j = 0 then .inl e else hO2.only k i j hk (by simpa [hk, e] using hn)⟩⟩
  · obtain ⟨q, hq1, hq2, hq3, hq4⟩ := StmOk.made hst (.inl rfl)
    simp only at hq1 hq3
    obtain ⟨A, rfl⟩ : ∃ A : Nat, sa = A := ⟨sa.toNat, by omega⟩
    simp only [Int.toNat_natCast] at hq1
    have hw0 : workW p (runW p n) W a ⟨3, to, (A : Int), sb⟩ vs = ({ W with funs := W.funs ++ [(A, a)] }, (2, (W.funs.length : Int))) := by simp [workW]
    have fx := And.intro hT <| And.intro hp1 <| @bne_def
    refine k_run ?_
    repeat ((first | refine w_sch (id := 7) (.q 0 <| .q 1 <| .q 2 <| .q 3 <| .q 4 <| .q 5 <| .q 6 <| .l 7 [5, 4, 2, 1] <| .q 8 <| .q 9 <| .l 10 [] <| .l 11 [] <| .done) mixed (by kernel_rfl) (by kernel_rfl) ?_ | refine w_sch (id := 13) (.q 0 <| .q 1 <| .q 2 <| .q 3 <| .q 4 <| .q 5 <| .l 6 [4, 2, 1] <| .q 7 <| .q 8 <| .l 9 [] <| .l 10 [] <| .done) mixed (by kernel_rfl) (by kernel_rfl) ?_ | refine w_sch (id := 14) (.q 0 <| .q 1 <| .q 2 <| .q 3 <| .q 4 <| .q 5 <| .l 6 [4, 2, 1] <| .q 7 <| .q 8 <| .l 9 [] <| .l 10 [] <| .done) mixed (by kernel_rfl) (by kernel_rfl) ?_); refine k_rund ?_; refine k_run ?_)
    clear fx
    intro K hK
    have fx := hT
    refine x_callM hO ⟨by simp [hO.top, mRow], ⟨by simp [hO.scs.top], fun j k hj hk => by simp [hO.scs.sc j k hj hk]⟩, by simp [hO.out], by simp [hO.trc], hO.run.imp fun l hl => ⟨hl.1, by simp [hl.2]⟩, by simp [hO.funs], fun k g hg => by simp [hO.bx k g hg], by simp [hO.clss], fun k c hc => (hO.cls k c hc).imp fun ms hm => ⟨by simp [hm.1], hm.2⟩, fun i a ha => by simp [hO.env i a ha], fun i hi => (hO.nms i hi).imp fun ms hm => ⟨by simp [hm.1], hm.2⟩, fun k i j hk hn => if e : k = 1 ∧ i = 0 ∧ j = 0 then .inl e else hO.only k i j hk (by simpa [hk, e] using hn)⟩ (Nat.le_refl _) (Nat.le_refl _) (hF := fun hs => function_fn _ _ p W a A q hw ha hq1 (hr.mono (by omega)) (by have hh := hP.sh.head A q hq1; simp only [HeadOk] at hh; split at hh <;> omega) hs) (h := ?_)
    rintro y H2 ⟨rfl, hO2⟩
    clear fx
    have hT2 := hO2.top
    simp only [mRow] at hT2
    have fx := And.intro hT <| And.intro hp1 <| And.intro hT2 <| @bne_def
    refine k_run ?_
    repeat ((first | refine w_sch (id := 7) (.q 0 <| .q 1 <| .q 2 <| .q 3 <| .q 4 <| .q 5 <| .q 6 <| .l 7 [5, 4, 2, 1] <| .q 8 <| .q 9 <| .l 10 [] <| .l 11 [] <| .done) mixed (by kernel_rfl) (by kernel_rfl) ?_ | refine w_sch (id := 13) (.q 0 <| .q 1 <| .q 2 <| .q 3 <| .q 4 <| .q 5 <| .l 6 [4, 2, 1] <| .q 7 <| .q 8 <| .l 9 [] <| .l 10 [] <| .done) mixed (by kernel_rfl) (by kernel_rfl) ?_ | refine w_sch (id := 14) (.q 0 <| .q 1 <| .q 2 <| .q 3 <| .q 4 <| .q 5 <| .l 6 [4, 2, 1] <| .q 7 <| .q 8 <| .l 9 [] <| .l 10 [] <| .done) mixed (by kernel_rfl) (by kernel_rfl) ?_); refine k_rund ?_; refine k_run ?_)
    clear fx
    rw [hw0]
    refine e_ret [] .nil (by simp; rfl) ⟨by simp [h0], OwnM.fin ⟨by simp [hO2.top, mRow], ⟨by simp [hO2.scs.top], fun j k hj hk => by simp [hO2.scs.sc j k hj hk]⟩, by simp [hO2.out], by simp [hO2.trc], hO2.run.imp fun l hl => ⟨hl.1, by simp [hl.2]⟩, by simp [hO2.funs], fun k g hg => by simp [hO2.bx k g hg], by simp [hO2.clss], fun k c hc => (hO2.cls k c hc).imp fun ms hm => ⟨by simp [hm.1], hm.2⟩, fun i a ha => by simp [hO2.env i a ha], fun i hi => (hO2.nms i hi).imp fun ms hm => ⟨by simp [hm.1], hm.2⟩, fun k i j hk hn => if e : k = 1 ∧ i = 0 ∧ j = 0 then .inl e else hO2.only k i j hk (by simpa [hk, e] using hn)⟩⟩
  · have hm := stm_made hst ha (.inr rfl)
    obtain ⟨q, hq1, hq2, hq3, hq4⟩ := StmOk.made hst (.inr rfl)
    simp only at hm hq3
    obtain ⟨A, rfl⟩ : ∃ A : Nat, sa = A := ⟨sa.toNat, by omega⟩
    simp only [Int.toNat_natCast] at hm
    have hw0 : workW p (runW p n) W a ⟨4, to, (A : Int), sb⟩ vs = classW p (runW p n) W A a := by simp [workW]
    have fx := And.intro hT <| And.intro hp1 <| @bne_def
    refine k_run ?_
    repeat ((first | refine w_sch (id := 7) (.q 0 <| .q 1 <| .q 2 <| .q 3 <| .q 4 <| .q 5 <| .q 6 <| .l 7 [5, 4, 2, 1] <| .q 8 <| .q 9 <| .l 10 [] <| .l 11 [] <| .done) mixed (by kernel_rfl) (by kernel_rfl) ?_ | refine w_sch (id := 13) (.q 0 <| .q 1 <| .q 2 <| .q 3 <| .q 4 <| .q 5 <| .l 6 [4, 2, 1] <| .q 7 <| .q 8 <| .l 9 [] <| .l 10 [] <| .done) mixed (by kernel_rfl) (by kernel_rfl) ?_ | refine w_sch (id := 14) (.q 0 <| .q 1 <| .q 2 <| .q 3 <| .q 4 <| .q 5 <| .l 6 [4, 2, 1] <| .q 7 <| .q 8 <| .l 9 [] <| .l 10 [] <| .done) mixed (by kernel_rfl) (by kernel_rfl) ?_); refine k_rund ?_; refine k_run ?_)
    clear fx
    intro K hK
    have fx := hT
    refine x_callM hO ⟨by simp [hO.top, mRow], ⟨by simp [hO.scs.top], fun j k hj hk => by simp [hO.scs.sc j k hj hk]⟩, by simp [hO.out], by simp [hO.trc], hO.run.imp fun l hl => ⟨hl.1, by simp [hl.2]⟩, by simp [hO.funs], fun k g hg => by simp [hO.bx k g hg], by simp [hO.clss], fun k c hc => (hO.cls k c hc).imp fun ms hm => ⟨by simp [hm.1], hm.2⟩, fun i a ha => by simp [hO.env i a ha], fun i hi => (hO.nms i hi).imp fun ms hm => ⟨by simp [hm.1], hm.2⟩, fun k i j hk hn => if e : k = 1 ∧ i = 0 ∧ j = 0 then .inl e else hO.only k i j hk (by simpa [hk, e] using hn)⟩ (Nat.le_refl _) (Nat.le_refl _) (hF := fun hs => class_fn gl _ p n hR _ W a A hP hw hn h0 hm hr hs (by simp)) (h := ?_)
    rintro y H2 ⟨rfl, hO2⟩
    clear fx
    have hT2 := hO2.top
    simp only [mRow] at hT2
    have fx := And.intro hT <| And.intro hp1 <| And.intro hT2 <| @bne_def
    refine k_run ?_
    repeat ((first | refine w_sch (id := 7) (.q 0 <| .q 1 <| .q 2 <| .q 3 <| .q 4 <| .q 5 <| .q 6 <| .l 7 [5, 4, 2, 1] <| .q 8 <| .q 9 <| .l 10 [] <| .l 11 [] <| .done) mixed (by kernel_rfl) (by kernel_rfl) ?_ | refine w_sch (id := 13) (.q 0 <| .q 1 <| .q 2 <| .q 3 <| .q 4 <| .q 5 <| .l 6 [4, 2, 1] <| .q 7 <| .q 8 <| .l 9 [] <| .l 10 [] <| .done) mixed (by kernel_rfl) (by kernel_rfl) ?_ | refine w_sch (id := 14) (.q 0 <| .q 1 <| .q 2 <| .q 3 <| .q 4 <| .q 5 <| .l 6 [4, 2, 1] <| .q 7 <| .q 8 <| .l 9 [] <| .l 10 [] <| .done) mixed (by kernel_rfl) (by kernel_rfl) ?_); refine k_rund ?_; refine k_run ?_)
    clear fx
    rw [hw0]
    refine e_ret [] .nil (by simp; rfl) ⟨by simp, OwnM.fin ⟨by simp [hO2.top, mRow], ⟨by simp [hO2.scs.top], fun j k hj hk => by simp [hO2.scs.sc j k hj hk]⟩, by simp [hO2.out], by simp [hO2.trc], hO2.run.imp fun l hl => ⟨hl.1, by simp [hl.2]⟩, by simp [hO2.funs], fun k g hg => by simp [hO2.bx k g hg], by simp [hO2.clss], fun k c hc => (hO2.cls k c hc).imp fun ms hm => ⟨by simp [hm.1], hm.2⟩, fun i a ha => by simp [hO2.env i a ha], fun i hi => (hO2.nms i hi).imp fun ms hm => ⟨by simp [hm.1], hm.2⟩, fun k i j hk hn => if e : k = 1 ∧ i = 0 ∧ j = 0 then .inl e else hO2.only k i j hk (by simpa [hk, e] using hn)⟩⟩
  · have hpos : 0 < vs.length := by
      rw [hl]
      by_cases e : sb = -1 <;> simp [Stm.reads, e]
    have hlt : vs.length ≤ 2 := by
      rw [hl]
      by_cases e : sb = -1 <;> simp [Stm.reads, e]
    obtain ⟨u, tl, rfl⟩ : ∃ u tl, vs = u :: tl := by
      match vs, hpos with
      | u :: tl, _ => exact ⟨u, tl, rfl⟩
    have htl : tl.length ≤ 1 := by simp at hlt; omega
    have hw0 : workW p (runW p n) W a ⟨5, to, sa, sb⟩ (u :: tl) = callW p (runW p n) W u tl := by simp [workW]
    have hle1 : (1 : Int) ≤ (tl.length : Int) + 1 := by omega
    have htn : ((tl.length : Int) + 1).toNat = tl.length + 1 := by omega
    have fx := And.intro hT <| And.intro hp1 <| And.intro htl <| And.intro hle1 <| And.intro htn <| @bne_def
    refine k_run ?_
    repeat ((first | refine w_sch (id := 7) (.q 0 <| .q 1 <| .q 2 <| .q 3 <| .q 4 <| .q 5 <| .q 6 <| .l 7 [5, 4, 2, 1] <| .q 8 <| .q 9 <| .l 10 [] <| .l 11 [] <| .done) mixed (by kernel_rfl) (by kernel_rfl) ?_ | refine w_sch (id := 13) (.q 0 <| .q 1 <| .q 2 <| .q 3 <| .q 4 <| .q 5 <| .l 6 [4, 2, 1] <| .q 7 <| .q 8 <| .l 9 [] <| .l 10 [] <| .done) mixed (by kernel_rfl) (by kernel_rfl) ?_ | refine w_sch (id := 14) (.q 0 <| .q 1 <| .q 2 <| .q 3 <| .q 4 <| .q 5 <| .l 6 [4, 2, 1] <| .q 7 <| .q 8 <| .l 9 [] <| .l 10 [] <| .done) mixed (by kernel_rfl) (by kernel_rfl) ?_); refine k_rund ?_; refine k_run ?_)
    clear fx
    intro K hK
    have fx := And.intro hT hp1
    refine x_callM2 hO ⟨by simp [hO.top, mRow], ⟨by simp [hO.scs.top], fun j k hj hk => by simp [hO.scs.sc j k hj hk]⟩, by simp [hO.out], by simp [hO.trc], hO.run.imp fun l hl => ⟨hl.1, by simp [hl.2]⟩, by simp [hO.funs], fun k g hg => by simp [hO.bx k g hg], by simp [hO.clss], fun k c hc => (hO.cls k c hc).imp fun ms hm => ⟨by simp [hm.1], hm.2⟩, fun i a ha => by simp [hO.env i a ha], fun i hi => (hO.nms i hi).imp fun ms hm => ⟨by simp [hm.1], hm.2⟩, fun k i j hk hn => if e : k = 1 ∧ i = 0 ∧ j = 0 then .inl e else hO.only k i j hk (by simpa [hk, e] using hn)⟩ (by simp [hp1]) (Nat.le_refl _) (Nat.le_refl _) (hF := fun hs => callM_fn gl p n hR _ W u 1 tl (u :: tl) hP hw hn h0 (hvok u (by simp)) (fun v hv => hvok v (by simp [hv])) (hr.mono (by omega)) rfl (by simp; omega) htl hs (by simp [hp1])) (h := ?_)
    rintro y H2 ⟨rfl, hO2⟩
    clear fx
    have hT2 := hO2.top
    simp only [mRow] at hT2
    have fx := And.intro hT <| And.intro hp1 <| And.intro hT2 <| And.intro htl <| And.intro hle1 <| And.intro htn <| @bne_def
    refine k_run ?_
    repeat ((first | refine w_sch (id := 7) (.q 0 <| .q 1 <| .q 2 <| .q 3 <| .q 4 <| .q 5 <| .q 6 <| .l 7 [5, 4, 2, 1] <| .q 8 <| .q 9 <| .l 10 [] <| .l 11 [] <| .done) mixed (by kernel_rfl) (by kernel_rfl) ?_ | refine w_sch (id := 13) (.q 0 <| .q 1 <| .q 2 <| .q 3 <| .q 4 <| .q 5 <| .l 6 [4, 2, 1] <| .q 7 <| .q 8 <| .l 9 [] <| .l 10 [] <| .done) mixed (by kernel_rfl) (by kernel_rfl) ?_ | refine w_sch (id := 14) (.q 0 <| .q 1 <| .q 2 <| .q 3 <| .q 4 <| .q 5 <| .l 6 [4, 2, 1] <| .q 7 <| .q 8 <| .l 9 [] <| .l 10 [] <| .done) mixed (by kernel_rfl) (by kernel_rfl) ?_); refine k_rund ?_; refine k_run ?_)
    clear fx
    rw [hw0]
    refine e_ret [] .nil (by simp; rfl) ⟨by simp, OwnM.fin ⟨by simp [hO2.top, mRow], ⟨by simp [hO2.scs.top], fun j k hj hk => by simp [hO2.scs.sc j k hj hk]⟩, by simp [hO2.out], by simp [hO2.trc], hO2.run.imp fun l hl => ⟨hl.1, by simp [hl.2]⟩, by simp [hO2.funs], fun k g hg => by simp [hO2.bx k g hg], by simp [hO2.clss], fun k c hc => (hO2.cls k c hc).imp fun ms hm => ⟨by simp [hm.1], hm.2⟩, fun i a ha => by simp [hO2.env i a ha], fun i hi => (hO2.nms i hi).imp fun ms hm => ⟨by simp [hm.1], hm.2⟩, fun k i j hk hn => if e : k = 1 ∧ i = 0 ∧ j = 0 then .inl e else hO2.only k i j hk (by simpa [hk, e] using hn)⟩⟩
  · obtain ⟨u, rfl⟩ : ∃ u, vs = [u] := by
      match vs, hl with
      | [u], _ => exact ⟨u, rfl⟩
      | [], h => simp [Stm.reads] at h
      | _ :: _ :: _, h => simp [Stm.reads] at h
    have hsb : 0 ≤ sb ∧ sb ≤ 7 := by
      simp only [StmOk] at hst
      simp at hst
      omega
    obtain ⟨x, rfl⟩ : ∃ x : Nat, sb = x := ⟨sb.toNat, by omega⟩
    have hw0 : workW p (runW p n) W a ⟨6, to, sa, (x : Int)⟩ [u] = attrW W u x := by simp [workW]
    have fx := And.intro hT <| And.intro hp1 <| @bne_def
    refine k_run ?_
    repeat ((first | refine w_sch (id := 7) (.q 0 <| .q 1 <| .q 2 <| .q 3 <| .q 4 <| .q 5 <| .q 6 <| .l 7 [5, 4, 2, 1] <| .q 8 <| .q 9 <| .l 10 [] <| .l 11 [] <| .done) mixed (by kernel_rfl) (by kernel_rfl) ?_ | refine w_sch (id := 13) (.q 0 <| .q 1 <| .q 2 <| .q 3 <| .q 4 <| .q 5 <| .l 6 [4, 2, 1] <| .q 7 <| .q 8 <| .l 9 [] <| .l 10 [] <| .done) mixed (by kernel_rfl) (by kernel_rfl) ?_ | refine w_sch (id := 14) (.q 0 <| .q 1 <| .q 2 <| .q 3 <| .q 4 <| .q 5 <| .l 6 [4, 2, 1] <| .q 7 <| .q 8 <| .l 9 [] <| .l 10 [] <| .done) mixed (by kernel_rfl) (by kernel_rfl) ?_); refine k_rund ?_; refine k_run ?_)
    clear fx
    intro K hK
    have fx := And.intro hT hp1
    refine x_callM hO ⟨by simp [hO.top, mRow], ⟨by simp [hO.scs.top], fun j k hj hk => by simp [hO.scs.sc j k hj hk]⟩, by simp [hO.out], by simp [hO.trc], hO.run.imp fun l hl => ⟨hl.1, by simp [hl.2]⟩, by simp [hO.funs], fun k g hg => by simp [hO.bx k g hg], by simp [hO.clss], fun k c hc => (hO.cls k c hc).imp fun ms hm => ⟨by simp [hm.1], hm.2⟩, fun i a ha => by simp [hO.env i a ha], fun i hi => (hO.nms i hi).imp fun ms hm => ⟨by simp [hm.1], hm.2⟩, fun k i j hk hn => if e : k = 1 ∧ i = 0 ∧ j = 0 then .inl e else hO.only k i j hk (by simpa [hk, e] using hn)⟩ (Nat.le_refl _) (Nat.le_refl _) (hF := fun hs => attribute_fn _ _ _ p W u x h0 hw (hvok u (by simp)) (by omega) hs) (h := ?_)
    rintro y H2 ⟨rfl, hO2⟩
    clear fx
    have hT2 := hO2.top
    simp only [mRow] at hT2
    have fx := And.intro hT <| And.intro hp1 <| And.intro hT2 <| @bne_def
    refine k_run ?_
    repeat ((first | refine w_sch (id := 7) (.q 0 <| .q 1 <| .q 2 <| .q 3 <| .q 4 <| .q 5 <| .q 6 <| .l 7 [5, 4, 2, 1] <| .q 8 <| .q 9 <| .l 10 [] <| .l 11 [] <| .done) mixed (by kernel_rfl) (by kernel_rfl) ?_ | refine w_sch (id := 13) (.q 0 <| .q 1 <| .q 2 <| .q 3 <| .q 4 <| .q 5 <| .l 6 [4, 2, 1] <| .q 7 <| .q 8 <| .l 9 [] <| .l 10 [] <| .done) mixed (by kernel_rfl) (by kernel_rfl) ?_ | refine w_sch (id := 14) (.q 0 <| .q 1 <| .q 2 <| .q 3 <| .q 4 <| .q 5 <| .l 6 [4, 2, 1] <| .q 7 <| .q 8 <| .l 9 [] <| .l 10 [] <| .done) mixed (by kernel_rfl) (by kernel_rfl) ?_); refine k_rund ?_; refine k_run ?_)
    clear fx
    rw [hw0]
    refine e_ret [] .nil (by simp; rfl) ⟨by simp, OwnM.fin ⟨by simp [hO2.top, mRow], ⟨by simp [hO2.scs.top], fun j k hj hk => by simp [hO2.scs.sc j k hj hk]⟩, by simp [hO2.out], by simp [hO2.trc], hO2.run.imp fun l hl => ⟨hl.1, by simp [hl.2]⟩, by simp [hO2.funs], fun k g hg => by simp [hO2.bx k g hg], by simp [hO2.clss], fun k c hc => (hO2.cls k c hc).imp fun ms hm => ⟨by simp [hm.1], hm.2⟩, fun i a ha => by simp [hO2.env i a ha], fun i hi => (hO2.nms i hi).imp fun ms hm => ⟨by simp [hm.1], hm.2⟩, fun k i j hk hn => if e : k = 1 ∧ i = 0 ∧ j = 0 then .inl e else hO2.only k i j hk (by simpa [hk, e] using hn)⟩⟩
end Go.Proofs.YtcbkblboonkfhaaGreat
end

section
set_option maxRecDepth 100000
set_option maxHeartbeats 4000000
set_option linter.unusedSimpArgs false
namespace Go.Proofs.YtcbkblboonkfhaaGreat
open Go Go.Hm Go.Proofs
def doW (p : Prg) (R : Wld → Nat → Wld × Val) (W : Wld) (a : Nat) (s : Stm) (vs : List Val) : Wld :=
  if s.kind = 9 ∨ s.kind = 10 then W else if s.kind = 11 then takeW p W a s.to else
  if s.kind = 7 then { W with out := W.out ++ [Hm.shown (vs.getD 0 (0, 0))] } else
  if (workW p R W a s vs).1.en ≠ 0 then (workW p R W a s vs).1 else storeW p (workW p R W a s vs).1 a s.to (workW p R W a s vs).2
theorem stmW_do {p : Prg} {R : Wld → Nat → Wld × Val} {W : Wld} {a : Nat} {s : Stm} {vs : List Val} (h0 : W.en = 0) (h : loadsW p W a s.reads = (W, vs)) : stmW p R W a s = doW p R W a s vs := by
  have hv : valueW p R W a s = workW p R W a s vs := by
    unfold valueW
    rw [h]
    simp [h0]
  by_cases h7 : s.kind = 7
  · have hv7 : valueW p R W a s = (W, vs.getD 0 (0, 0)) := by
      rw [hv]
      simp [workW, h7]
    simp [stmW, doW, h7, hv7, h0]
  · simp only [stmW, doW, hv, h7, if_false]
theorem do_fn (gl) (p : Prg) (n : Nat) (hR : MBok gl 207 p n) (H : Nm → Option AO) (W : Wld) (a : Nat) (k : Blk) (s : Stm) (vs : List Val) (hP : ValP p) (hw : WOk p W) (hn : W.left < n) (h0 : W.en = 0) (ha : a < W.acts.length) (hk : p[W.blk a]? = some k) (hs : s ∈ k.body) (h8 : s.kind ≠ 8) (hr : Room 2 W)
    (hl : vs.length = s.reads.length) (hvok : ∀ v ∈ vs, VOk W.funs.length W.classes.length v) (hO : OwnM H 207 p W) (hL : H (.u 2 0 0) = some (.row 2 (vrows vs))) :
    FnE Tryz.prog gl 154 DM2 [.pt Mn 0, ptE a, s.av, .hs (.u 2 0 0) 2 0 vs.length] H (fun _ y H' => y = bv (decide ((doW p (runW p n) W a s vs).en = 0)) ∧ OwnM H' 207 p (doW p (runW p n) W a s vs)) noE := by
  have hh := hP.sh.heads
  have hT := hO.top
  simp only [mRow] at hT
  have hst := hP.sh.stm _ k hk s hs
  have hnm := hP.sh.names k (List.mem_of_getElem? hk)
  have hkd := hnm.kinds s hs
  have hto := hnm.tos s hs
  have hvl := valueOfM_fn gl p n hR
  have hp1 := hL
  obtain ⟨c, hc⟩ : ∃ c, W.acts[a]? = some c := ⟨_, List.getElem?_eq_getElem ha⟩
  have hE := hO.env a c hc
  obtain ⟨kd, to, sa, sb⟩ := s
  simp only at h8 hkd hto
  obtain ⟨x, rfl⟩ : ∃ x : Nat, to = x := ⟨to.toNat, by omega⟩
  have hx7 : 0 ≤ (x : Int) ∧ (x : Int) ≤ 7 := by omega
  refine FnE.of_sem Tryz.func154 rfl (by kernel_rfl) (rs := [.tmp 8]) rfl Tryz.ntmps154 (Nat.le_of_ble_eq_true rfl) (fun _ => DM2_root) fun C w g root hroot => ?_
  by_cases h9 : kd = 9
  · subst h9
    have hq : doW p (runW p n) W a ⟨9, x, sa, sb⟩ vs = W := by simp [doW]
    have fx :=  hT
    refine k_run ?_
    repeat ((first | refine w_sch (id := 6) (.q 0 <| .q 1 <| .q 2 <| .q 3 <| .q 4 <| .q 5 <| .q 6 <| .q 7 <| .l 8 [6, 5, 4, 3, 2, 1, 0] <| .l 9 [6, 5, 4, 3, 2, 1, 0] <| .l 10 [6, 5, 3, 2, 1, 0] <| .q 11 <| .q 12 <| .l 13 [11] <| .done) mixed (by kernel_rfl) (by kernel_rfl) ?_ | refine w_sch (id := 14) (.q 0 <| .q 1 <| .q 2 <| .q 3 <| .q 4 <| .q 5 <| .q 6 <| .l 7 [] <| .done) mixed (by kernel_rfl) (by kernel_rfl) ?_); refine k_rund ?_; refine k_run ?_)
    clear fx
    rw [hq]
    refine e_ret [] .nil (by simp; rfl) ⟨by simp [h0], OwnM.fin ⟨by simp [hO.top, mRow], ⟨by simp [hO.scs.top], fun j k hj hk => by simp [hO.scs.sc j k hj hk]⟩, by simp [hO.out], by simp [hO.trc], hO.run.imp fun l hl => ⟨hl.1, by simp [hl.2]⟩, by simp [hO.funs], fun k g hg => by simp [hO.bx k g hg], by simp [hO.clss], fun k c hc => (hO.cls k c hc).imp fun ms hm => ⟨by simp [hm.1], hm.2⟩, fun i a ha => by simp [hO.env i a ha], fun i hi => (hO.nms i hi).imp fun ms hm => ⟨by simp [hm.1], hm.2⟩, fun k i j hk hn => if e : k = 1 ∧ i = 0 ∧ j = 0 then .inl e else hO.only k i j hk (by simpa [hk, e] using hn)⟩⟩
  by_cases h10 : kd = 10
  · subst h10
    have hq : doW p (runW p n) W a ⟨10, x, sa, sb⟩ vs = W := by simp [doW]
    have fx :=  hT
    refine k_run ?_
    repeat ((first | refine w_sch (id := 6) (.q 0 <| .q 1 <| .q 2 <| .q 3 <| .q 4 <| .q 5 <| .q 6 <| .q 7 <| .l 8 [6, 5, 4, 3, 2, 1, 0] <| .l 9 [6, 5, 4, 3, 2, 1, 0] <| .l 10 [6, 5, 3, 2, 1, 0] <| .q 11 <| .q 12 <| .l 13 [11] <| .done) mixed (by kernel_rfl) (by kernel_rfl) ?_ | refine w_sch (id := 14) (.q 0 <| .q 1 <| .q 2 <| .q 3 <| .q 4 <| .q 5 <| .q 6 <| .l 7 [] <| .done) mixed (by kernel_rfl) (by kernel_rfl) ?_); refine k_rund ?_; refine k_run ?_)
    clear fx
    rw [hq]
    refine e_ret [] .nil (by simp; rfl) ⟨by simp [h0], OwnM.fin ⟨by simp [hO.top, mRow], ⟨by simp [hO.scs.top], fun j k hj hk => by simp [hO.scs.sc j k hj hk]⟩, by simp [hO.out], by simp [hO.trc], hO.run.imp fun l hl => ⟨hl.1, by simp [hl.2]⟩, by simp [hO.funs], fun k g hg => by simp [hO.bx k g hg], by simp [hO.clss], fun k c hc => (hO.cls k c hc).imp fun ms hm => ⟨by simp [hm.1], hm.2⟩, fun i a ha => by simp [hO.env i a ha], fun i hi => (hO.nms i hi).imp fun ms hm => ⟨by simp [hm.1], hm.2⟩, fun k i j hk hn => if e : k = 1 ∧ i = 0 ∧ j = 0 then .inl e else hO.only k i j hk (by simpa [hk, e] using hn)⟩⟩
  have hb9 : (kd == 9) = false := by simpa using h9
  have hb10 : (kd == 10) = false := by simpa using h10
  by_cases h11 : kd = 11
  · subst h11
    have hq : doW p (runW p n) W a ⟨11, x, sa, sb⟩ vs = takeW p W a x := by simp [doW]
    have fx :=  hT
    refine k_run ?_
    repeat ((first | refine w_sch (id := 6) (.q 0 <| .q 1 <| .q 2 <| .q 3 <| .q 4 <| .q 5 <| .q 6 <| .q 7 <| .l 8 [6, 5, 4, 3, 2, 1, 0] <| .l 9 [6, 5, 4, 3, 2, 1, 0] <| .l 10 [6, 5, 3, 2, 1, 0] <| .q 11 <| .q 12 <| .l 13 [11] <| .done) mixed (by kernel_rfl) (by kernel_rfl) ?_ | refine w_sch (id := 14) (.q 0 <| .q 1 <| .q 2 <| .q 3 <| .q 4 <| .q 5 <| .q 6 <| .l 7 [] <| .done) mixed (by kernel_rfl) (by kernel_rfl) ?_); refine k_rund ?_; refine k_run ?_)
    clear fx
    intro K hK
    have fx := hT
    refine x_callM hO ⟨by simp [hO.top, mRow], ⟨by simp [hO.scs.top], fun j k hj hk => by simp [hO.scs.sc j k hj hk]⟩, by simp [hO.out], by simp [hO.trc], hO.run.imp fun l hl => ⟨hl.1, by simp [hl.2]⟩, by simp [hO.funs], fun k g hg => by simp [hO.bx k g hg], by simp [hO.clss], fun k c hc => (hO.cls k c hc).imp fun ms hm => ⟨by simp [hm.1], hm.2⟩, fun i a ha => by simp [hO.env i a ha], fun i hi => (hO.nms i hi).imp fun ms hm => ⟨by simp [hm.1], hm.2⟩, fun k i j hk hn => if e : k = 1 ∧ i = 0 ∧ j = 0 then .inl e else hO.only k i j hk (by simpa [hk, e] using hn)⟩ (Nat.le_refl _) (Nat.le_refl _) (hF := fun hs => drop_fn _ _ _ p W a x hP.sh hw ha (by omega) h0 hs) (h := ?_)
    rintro y H1 ⟨rfl, hO1⟩
    clear fx
    have hT1 := hO1.top
    simp only [mRow] at hT1
    have fx := And.intro hT <| hT1
    refine k_run ?_
    repeat ((first | refine w_sch (id := 6) (.q 0 <| .q 1 <| .q 2 <| .q 3 <| .q 4 <| .q 5 <| .q 6 <| .q 7 <| .l 8 [6, 5, 4, 3, 2, 1, 0] <| .l 9 [6, 5, 4, 3, 2, 1, 0] <| .l 10 [6, 5, 3, 2, 1, 0] <| .q 11 <| .q 12 <| .l 13 [11] <| .done) mixed (by kernel_rfl) (by kernel_rfl) ?_ | refine w_sch (id := 14) (.q 0 <| .q 1 <| .q 2 <| .q 3 <| .q 4 <| .q 5 <| .q 6 <| .l 7 [] <| .done) mixed (by kernel_rfl) (by kernel_rfl) ?_); refine k_rund ?_; refine k_run ?_)
    clear fx
    rw [hq]
    refine e_ret [] .nil (by simp; rfl) ⟨by simp, OwnM.fin ⟨by simp [hO1.top, mRow], ⟨by simp [hO1.scs.top], fun j k hj hk => by simp [hO1.scs.sc j k hj hk]⟩, by simp [hO1.out], by simp [hO1.trc], hO1.run.imp fun l hl => ⟨hl.1, by simp [hl.2]⟩, by simp [hO1.funs], fun k g hg => by simp [hO1.bx k g hg], by simp [hO1.clss], fun k c hc => (hO1.cls k c hc).imp fun ms hm => ⟨by simp [hm.1], hm.2⟩, fun i a ha => by simp [hO1.env i a ha], fun i hi => (hO1.nms i hi).imp fun ms hm => ⟨by simp [hm.1], hm.2⟩, fun k i j hk hn => if e : k = 1 ∧ i = 0 ∧ j = 0 then .inl e else hO1.only k i j hk (by simpa [hk, e] using hn)⟩⟩
  have hb11 : (kd == 11) = false := by simpa using h11
  by_cases h7 : kd = 7
  · subst h7
    obtain ⟨u, rfl⟩ : ∃ u, vs = [u] := by
      match vs, hl with
      | [u], _ => exact ⟨u, rfl⟩
      | [], h => simp [Stm.reads] at h
      | _ :: _ :: _, h => simp [Stm.reads] at h
    have hq : doW p (runW p n) W a ⟨7, x, sa, sb⟩ [u] = { W with out := W.out ++ [Hm.shown u] } := by simp [doW]
    have hU := hO.out
    have hol := hw.nout
    have hol' : W.out.length ≤ 1000 := by omega
    have hap : irows W.out ++ [[iv (Hm.shown u)]] = irows (W.out ++ [Hm.shown u]) := by simp [irows]
    have hsh := impl_ShownOf_fn gl u
    obtain ⟨u1, u2⟩ := u
    have fx := And.intro hT <| And.intro hU <| And.intro hol' <| And.intro hp1 <| @bne_def
    have c1 := hsh
    refine k_run ?_
    repeat ((first | refine w_sch (id := 6) (.q 0 <| .q 1 <| .q 2 <| .q 3 <| .q 4 <| .q 5 <| .q 6 <| .q 7 <| .l 8 [6, 5, 4, 3, 2, 1, 0] <| .l 9 [6, 5, 4, 3, 2, 1, 0] <| .l 10 [6, 5, 3, 2, 1, 0] <| .q 11 <| .q 12 <| .l 13 [11] <| .done) mixed (by kernel_rfl) (by kernel_rfl) ?_ | refine w_sch (id := 14) (.q 0 <| .q 1 <| .q 2 <| .q 3 <| .q 4 <| .q 5 <| .q 6 <| .l 7 [] <| .done) mixed (by kernel_rfl) (by kernel_rfl) ?_); refine k_rund ?_; refine k_run ?_)
    clear fx c1
    rw [hq]
    refine e_ret [] .nil (by simp; rfl) ⟨by simp [h0], OwnM.fin ⟨by simp [mRow, hT], ⟨by simp [hO.scs.top], fun j k hj hk => by simp [hO.scs.sc j k hj hk]⟩, ?_, by simp [hO.trc], hO.run.imp fun l hl => ⟨hl.1, by simp [hl.2]⟩, by simp [hO.funs], fun k g hg => by simp [hO.bx k g hg], by simp [hO.clss], fun k c hc => (hO.cls k c hc).imp fun ms hm => ⟨by simp [hm.1], hm.2⟩, fun i a ha => by simp [hO.env i a ha], fun i hi => (hO.nms i hi).imp fun ms hm => ⟨by simp [hm.1], hm.2⟩, fun k i j hk hn => if e : k = 1 ∧ i = 0 ∧ j = 0 then .inl e else hO.only k i j hk (by simpa [hk, e] using hn)⟩⟩
    simp
  have hb7 : (kd == 7) = false := by simpa using h7
  have hk6 : 0 ≤ kd ∧ kd ≤ 6 := by omega
  have hq : doW p (runW p n) W a ⟨kd, x, sa, sb⟩ vs = if (workW p (runW p n) W a ⟨kd, x, sa, sb⟩ vs).1.en ≠ 0 then (workW p (runW p n) W a ⟨kd, x, sa, sb⟩ vs).1 else storeW p (workW p (runW p n) W a ⟨kd, x, sa, sb⟩ vs).1 a x (workW p (runW p n) W a ⟨kd, x, sa, sb⟩ vs).2 := by
    simp only [doW, h9, h10, h11, h7, if_false, false_or]
  have fx := And.intro hT <| And.intro hb9 <| And.intro hb10 <| And.intro hb11 <| hb7
  refine k_run ?_
  repeat ((first | refine w_sch (id := 6) (.q 0 <| .q 1 <| .q 2 <| .q 3 <| .q 4 <| .q 5 <| .q 6 <| .q 7 <| .l 8 [6, 5, 4, 3, 2, 1, 0] <| .l 9 [6, 5, 4, 3, 2, 1, 0] <| .l 10 [6, 5, 3, 2, 1, 0] <| .q 11 <| .q 12 <| .l 13 [11] <| .done) mixed (by kernel_rfl) (by kernel_rfl) ?_ | refine w_sch (id := 14) (.q 0 <| .q 1 <| .q 2 <| .q 3 <| .q 4 <| .q 5 <| .q 6 <| .l 7 [] <| .done) mixed (by kernel_rfl) (by kernel_rfl) ?_); refine k_rund ?_; refine k_run ?_)
  clear fx
  intro K hK
  have fx := hT
  refine x_callM2 hO ⟨by simp [hO.top, mRow], ⟨by simp [hO.scs.top], fun j k hj hk => by simp [hO.scs.sc j k hj hk]⟩, by simp [hO.out], by simp [hO.trc], hO.run.imp fun l hl => ⟨hl.1, by simp [hl.2]⟩, by simp [hO.funs], fun k g hg => by simp [hO.bx k g hg], by simp [hO.clss], fun k c hc => (hO.cls k c hc).imp fun ms hm => ⟨by simp [hm.1], hm.2⟩, fun i a ha => by simp [hO.env i a ha], fun i hi => (hO.nms i hi).imp fun ms hm => ⟨by simp [hm.1], hm.2⟩, fun k i j hk hn => if e : k = 1 ∧ i = 0 ∧ j = 0 then .inl e else hO.only k i j hk (by simpa [hk, e] using hn)⟩ (by simp [hp1]) (Nat.le_refl _) (Nat.le_refl _) (hF := fun hs' => hvl _ W a k ⟨kd, x, sa, sb⟩ vs hP hw hn h0 ha hk hs hk6 hr hl hvok hs' (by simp [hp1])) (h := ?_)
  rintro y H1 ⟨rfl, hO1⟩
  clear fx
  obtain ⟨hA, hvok1⟩ := workW_ok (vs := vs) (runW_ok hP.sh n) hw hn h0 ha hst hvok hr
  generalize workW p (runW p n) W a ⟨kd, x, sa, sb⟩ vs = q at hO1 hA hvok1 hq
  obtain ⟨V, v⟩ := q
  simp only at hO1 hA hvok1 hq
  have hT1 := hO1.top
  simp only [mRow] at hT1
  have haV : a < V.acts.length := Nat.lt_of_lt_of_le ha hA.grow.lacts
  have hla := hA.grow.lacts
  have hlf := hA.grow.lfuns
  obtain ⟨c1, hc1⟩ : ∃ c, V.acts[a]? = some c := ⟨_, List.getElem?_eq_getElem haV⟩
  have hE1 := hO1.env a c1 hc1
  by_cases hen : V.en = 0
  case neg =>
    rw [if_pos hen] at hq
    obtain ⟨v1, v2⟩ := v
    have fx := And.intro hT <| And.intro hT1 <| And.intro hE <| And.intro hE1 <| hen
    refine k_run ?_
    repeat ((first | refine w_sch (id := 6) (.q 0 <| .q 1 <| .q 2 <| .q 3 <| .q 4 <| .q 5 <| .q 6 <| .q 7 <| .l 8 [6, 5, 4, 3, 2, 1, 0] <| .l 9 [6, 5, 4, 3, 2, 1, 0] <| .l 10 [6, 5, 3, 2, 1, 0] <| .q 11 <| .q 12 <| .l 13 [11] <| .done) mixed (by kernel_rfl) (by kernel_rfl) ?_ | refine w_sch (id := 14) (.q 0 <| .q 1 <| .q 2 <| .q 3 <| .q 4 <| .q 5 <| .q 6 <| .l 7 [] <| .done) mixed (by kernel_rfl) (by kernel_rfl) ?_); refine k_rund ?_; refine k_run ?_)
    clear fx
    rw [hq]
    refine e_ret [] .nil (by simp; rfl) ⟨by simp [hen], OwnM.fin ⟨by simp [hO1.top, mRow], ⟨by simp [hO1.scs.top], fun j k hj hk => by simp [hO1.scs.sc j k hj hk]⟩, by simp [hO1.out], by simp [hO1.trc], hO1.run.imp fun l hl => ⟨hl.1, by simp [hl.2]⟩, by simp [hO1.funs], fun k g hg => by simp [hO1.bx k g hg], by simp [hO1.clss], fun k c hc => (hO1.cls k c hc).imp fun ms hm => ⟨by simp [hm.1], hm.2⟩, fun i a ha => by simp [hO1.env i a ha], fun i hi => (hO1.nms i hi).imp fun ms hm => ⟨by simp [hm.1], hm.2⟩, fun k i j hk hn => if e : k = 1 ∧ i = 0 ∧ j = 0 then .inl e else hO1.only k i j hk (by simpa [hk, e] using hn)⟩⟩
  rw [if_neg (by simpa using hen)] at hq
  obtain ⟨hnm1, hil⟩ := nms_loc (x := (x : Int)) hh hA.ok haV
  have hnm0 := hnm1
  obtain ⟨o, ho⟩ : ∃ o, Hm.lack p (V.blk a) (owner p (V.blk a) x) = o := ⟨_, rfl⟩
  obtain ⟨l, hll⟩ : ∃ l, V.loc p a x = l := ⟨_, rfl⟩
  have hhl := holderOf_fn gl (F := 207) (p := p) (W := V) (a := a) (x := x)
  rw [ho, hll] at hhl
  rw [hll] at hnm1 hil
  obtain ⟨i, hi⟩ : ∃ i, hIdx l = i := ⟨_, rfl⟩
  rw [hi] at hnm1 hil hhl
  obtain ⟨v1, v2⟩ := v
  have fx := And.intro hT <| And.intro hT1 <| And.intro hE <| And.intro hE1 <| hen
  refine k_run ?_
  repeat ((first | refine w_sch (id := 6) (.q 0 <| .q 1 <| .q 2 <| .q 3 <| .q 4 <| .q 5 <| .q 6 <| .q 7 <| .l 8 [6, 5, 4, 3, 2, 1, 0] <| .l 9 [6, 5, 4, 3, 2, 1, 0] <| .l 10 [6, 5, 3, 2, 1, 0] <| .q 11 <| .q 12 <| .l 13 [11] <| .done) mixed (by kernel_rfl) (by kernel_rfl) ?_ | refine w_sch (id := 14) (.q 0 <| .q 1 <| .q 2 <| .q 3 <| .q 4 <| .q 5 <| .q 6 <| .l 7 [] <| .done) mixed (by kernel_rfl) (by kernel_rfl) ?_); refine k_rund ?_; refine k_run ?_)
  clear fx
  intro K hK
  have fx := And.intro hT hT1
  refine x_callM hO ⟨by simp [hO1.top, mRow], ⟨by simp [hO1.scs.top], fun j k hj hk => by simp [hO1.scs.sc j k hj hk]⟩, by simp [hO1.out], by simp [hO1.trc], hO1.run.imp fun l hl => ⟨hl.1, by simp [hl.2]⟩, by simp [hO1.funs], fun k g hg => by simp [hO1.bx k g hg], by simp [hO1.clss], fun k c hc => (hO1.cls k c hc).imp fun ms hm => ⟨by simp [hm.1], hm.2⟩, fun i a ha => by simp [hO1.env i a ha], fun i hi => (hO1.nms i hi).imp fun ms hm => ⟨by simp [hm.1], hm.2⟩, fun k i j hk hn => if e : k = 1 ∧ i = 0 ∧ j = 0 then .inl e else hO1.only k i j hk (by simpa [hk, e] using hn)⟩ hla hlf (hF := fun hs => hhl _ hP.sh hA.ok haV (by omega) hs) (h := ?_)
  rintro y H2 ⟨rfl, hO2⟩
  clear fx
  have hT2 := hO2.top
  simp only [mRow] at hT2
  obtain ⟨d, hd⟩ : ∃ d, V.acts[i]? = some d := ⟨_, List.getElem?_eq_getElem hil⟩
  have hE2 := hO2.env i d hd
  simp only [envRow] at hE2
  have hE2a := hO2.env a c1 hc1
  obtain ⟨ms, hms, hmo⟩ := hO2.nms i hil
  rw [hnm1] at hmo
  have hstq : storeW p V a x (v1, v2) = V.set l x (some (v1, v2)) := by
    unfold storeW
    rw [hll]
  have fx := And.intro hT <| And.intro hT1 <| And.intro hE <| And.intro hE1 <| And.intro hT2 <| And.intro hE2 <| And.intro hE2a <| hms
  refine k_run ?_
  repeat ((first | refine w_sch (id := 6) (.q 0 <| .q 1 <| .q 2 <| .q 3 <| .q 4 <| .q 5 <| .q 6 <| .q 7 <| .l 8 [6, 5, 4, 3, 2, 1, 0] <| .l 9 [6, 5, 4, 3, 2, 1, 0] <| .l 10 [6, 5, 3, 2, 1, 0] <| .q 11 <| .q 12 <| .l 13 [11] <| .done) mixed (by kernel_rfl) (by kernel_rfl) ?_ | refine w_sch (id := 14) (.q 0 <| .q 1 <| .q 2 <| .q 3 <| .q 4 <| .q 5 <| .q 6 <| .l 7 [] <| .done) mixed (by kernel_rfl) (by kernel_rfl) ?_); refine k_rund ?_; refine k_run ?_)
  clear fx
  intro K hK
  refine o_abs (fun st => st.tm 61 = .mp (.c (En i) 0 1) ∧ st.tm 63 = iv x ∧ st.tm 64 = Val.av (v1, v2) ∧ st.hp (.c (En i) 0 1) = some (.map (mrows ms)) ∧ OwnM st.hp 207 p V) ⟨by simp [hT2, hE2], by simp, by simp, by simp [hms], ⟨by simp [hO2.top, mRow], ⟨by simp [hO2.scs.top], fun j k hj hk => by simp [hO2.scs.sc j k hj hk]⟩, by simp [hO2.out], by simp [hO2.trc], hO2.run.imp fun l hl => ⟨hl.1, by simp [hl.2]⟩, by simp [hO2.funs], fun k g hg => by simp [hO2.bx k g hg], by simp [hO2.clss], fun k c hc => (hO2.cls k c hc).imp fun ms hm => ⟨by simp [hm.1], hm.2⟩, fun i a ha => by simp [hO2.env i a ha], fun i hi => (hO2.nms i hi).imp fun ms hm => ⟨by simp [hm.1], hm.2⟩, fun k i j hk hn => if e : k = 1 ∧ i = 0 ∧ j = 0 then .inl e else hO2.only k i j hk (by simpa [hk, e] using hn)⟩⟩ ?_
  rintro st ⟨t61, t63, t64, hms', hO3⟩
  have fx := And.intro t61 (And.intro t63 (And.intro t64 hms'))
  refine x_mapUpdate (h := ?_)
  clear fx
  have fx :=  hT
  refine k_run ?_
  repeat ((first | refine w_sch (id := 6) (.q 0 <| .q 1 <| .q 2 <| .q 3 <| .q 4 <| .q 5 <| .q 6 <| .q 7 <| .l 8 [6, 5, 4, 3, 2, 1, 0] <| .l 9 [6, 5, 4, 3, 2, 1, 0] <| .l 10 [6, 5, 3, 2, 1, 0] <| .q 11 <| .q 12 <| .l 13 [11] <| .done) mixed (by kernel_rfl) (by kernel_rfl) ?_ | refine w_sch (id := 14) (.q 0 <| .q 1 <| .q 2 <| .q 3 <| .q 4 <| .q 5 <| .q 6 <| .l 7 [] <| .done) mixed (by kernel_rfl) (by kernel_rfl) ?_); refine k_rund ?_; refine k_run ?_)
  clear fx
  rw [hq, hstq]
  refine e_ret [] .nil (by simp; rfl) ⟨by rw [set_same.2.2.2.2.2.2]; simp [hen], OwnM.fin (ownM_set hh hA.ok haV (by omega) hll hnm0 hO3 (hmo.set hx7) fun m hm => ?_)⟩
  rw [hi]
  simp
end Go.Proofs.YtcbkblboonkfhaaGreat
end
