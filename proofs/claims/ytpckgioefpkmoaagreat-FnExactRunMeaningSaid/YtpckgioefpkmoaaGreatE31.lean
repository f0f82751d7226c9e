/-
  Own texts, joined by mkclaim.py: Qo.
-/
import Derived.Test.YtpckgioefpkmoaaGreatE27
set_option linter.unusedSimpArgs false
set_option linter.unusedVariables false

section
set_option maxRecDepth 100000
set_option maxHeartbeats 4000000
set_option linter.unusedSimpArgs false
namespace Go.Proofs.YtpckgioefpkmoaaGreat
open Go Go.Hm Go.Proofs
theorem take_set_end : ∀ {xs : List Int} {i : Nat} {v : Int}, i < xs.length → (xs.set i v).take (i + 1) = xs.take i ++ [v]
  | x :: xs, 0, v, _ => by simp
  | x :: xs, i + 1, v, h => by simp [take_set_end (xs := xs) (i := i) (v := v) (by simpa using h)]
theorem result_fn (gl) (H : Nm → Option AO) (F : Nat) (p : Prg) (W : Wld) (hw : WOk p W) (hO : OwnM H F p W) :
    FnE Tryz.prog gl 62 DM [.pt Mn 0] H (fun r y H' => y = .agg ((resW W).own r) ∧ OwnR H' r (resW W)) noE := by
  have hg8 := hw.glob.1
  obtain ⟨a0, h00, hb0⟩ := hw.a0
  have hl0 := (List.getElem?_eq_some_iff.1 h00).1
  refine FnE.of_sem Tryz.func62 rfl (by kernel_rfl) (rs := [.cell 2 46]) rfl Tryz.ntmps62 (Nat.le_of_ble_eq_true rfl) (fun _ => DM_root) fun C w g root hroot => ?_
  have hr0 : DM root = false := hroot root (Nm.under_self _)
  have fx := fx0
  refine k_run ?_
  repeat ((first | refine w_sch (id := 10) (.q 0 <| .q 1 <| .q 2 <| .q 3 <| .q 4 <| .q 5 <| .q 6 <| .q 7 <| .q 8 <| .q 9 <| .q 10 <| .q 11 <| .q 12 <| .q 13 <| .l 14 [] <| .done) mixed (by kernel_rfl) (by kernel_rfl) ?_); refine k_rund ?_; refine k_run ?_)
  clear fx
  refine w_loop (fun n st => ∃ (i : Nat) (xs : List Int), n = 8 - i ∧ i ≤ 8 ∧ xs.length = 8 ∧ xs.take i = shownS (W.globals.take i) ∧ st.tm 0 = .pt Mn 0 ∧ st.tm 2 = .pt (.s 2) 0 ∧ st.hp (.s 2) = some (.row 4 [[.hs (.c (.s 2) 0 0) 1 0 0, iv 0, iv 0, .hs (.c (.s 2) 0 3) 1 0 0]]) ∧ st.tm 3 = .hs (.s 3) 1 0 8 ∧ st.hp (.s 3) = some (.row 1 (irows xs)) ∧ st.tm 9 = iv 8 ∧ st.tm 10 = iv i ∧ OwnM st.hp F p W) 8 ?_ ?_
  · exact ⟨0, List.replicate 8 0, by omega, by omega, by simp, by simp [shownS], by simp [hO.top], by simp, by simp, by simp, by simp [irows], by simp, by simp, ⟨by simp [hO.top, mRow], ⟨by simp [hO.scs.top], fun j k hj hk => by simp [hO.scs.sc j k hj hk]⟩, by simp [hO.out], by simp [hO.trc], hO.run.imp fun l hl => ⟨hl.1, by simp [hl.2]⟩, by simp [hO.funs], fun k g hg => by simp [hO.bx k g hg], by simp [hO.clss], fun k c hc => (hO.cls k c hc).imp fun ms hm => ⟨by simp [hm.1], hm.2⟩, fun i a ha => by simp [hO.env i a ha], fun i hi => (hO.nms i hi).imp fun ms hm => ⟨by simp [hm.1], hm.2⟩, fun k i j hk hn => if e : k = 1 ∧ i = 0 ∧ j = 0 then .inl e else hO.only k i j hk (by simpa [hk, e] using hn)⟩⟩
  clear hO
  rintro n st - - ⟨i, xs, rfl, hi, hxl, hxs, t0, t2, hp2, t3, hp3, t9, t10, hO⟩
  have hT := hO.top
  have hE := hO.env 0 a0 h00
  simp only [mRow] at hT
  simp only [envRow] at hE
  obtain ⟨ms, hms, hmo⟩ := hO.nms 0 hl0
  have hmo' : MapOk ms (W.vars none) := by simpa [Wld.nms, Wld.vars] using hmo
  by_cases hil : i < 8
  · obtain ⟨s, hs⟩ : ∃ s, W.globals[i]? = some s := ⟨_, List.getElem?_eq_getElem (by omega)⟩
    have hx7 : 0 ≤ (i : Int) ∧ (i : Int) ≤ 7 := by omega
    have hlk := hmo'.get' hx7
    have hgs : W.get none (i : Int) = s := by simp [Wld.get, Wld.vars, hs]
    rw [hgs] at hlk
    have htk : shownS (W.globals.take (i + 1)) = shownS (W.globals.take i) ++ [match s with | some v => Hm.shown v | none => -9] := by
      rw [List.take_add_one, hs]
      cases s <;> simp [shownS]
    have hi8 : (i : Int) < 8 := by omega
    cases s with
    | none =>
      have fx := And.intro t0 <| And.intro t2 <| And.intro t3 <| And.intro hp3 <| And.intro t9 <| And.intro t10 <| And.intro hi8 <| And.intro hil <| And.intro hxl <| And.intro hT <| And.intro hE <| And.intro hms <| hlk
      refine k_run ?_
      repeat ((first | refine w_sch (id := 10) (.q 0 <| .q 1 <| .q 2 <| .q 3 <| .q 4 <| .q 5 <| .q 6 <| .q 7 <| .q 8 <| .q 9 <| .q 10 <| .q 11 <| .q 12 <| .q 13 <| .l 14 [] <| .done) mixed (by kernel_rfl) (by kernel_rfl) ?_); refine k_rund ?_; refine k_run ?_)
      clear fx
      exact ⟨8 - (i + 1), by omega, i + 1, xs.set i (-9), rfl, by omega, by simp [hxl], by rw [htk, ← hxs, take_set_end (by omega)], by simp [t0, hT], by simp [t2], by simp [hp2], by simp [t3], by simp [hp3], by simp [t9], by simp [t10]; exact wrp (by omega) (by omega), ⟨by simp [hO.top, mRow], ⟨by simp [hO.scs.top], fun j k hj hk => by simp [hO.scs.sc j k hj hk]⟩, by simp [hO.out], by simp [hO.trc], hO.run.imp fun l hl => ⟨hl.1, by simp [hl.2]⟩, by simp [hO.funs], fun k g hg => by simp [hO.bx k g hg], by simp [hO.clss], fun k c hc => (hO.cls k c hc).imp fun ms hm => ⟨by simp [hm.1], hm.2⟩, fun i a ha => by simp [hO.env i a ha], fun i hi => (hO.nms i hi).imp fun ms hm => ⟨by simp [hm.1], hm.2⟩, fun k i j hk hn => if e : k = 1 ∧ i = 0 ∧ j = 0 then .inl e else hO.only k i j hk (by simpa [hk, e] using hn)⟩⟩
    | some v =>
      have hsh := impl_ShownOf_fn gl v
      obtain ⟨v1, v2⟩ := v
      have fx := And.intro t0 <| And.intro t2 <| And.intro t3 <| And.intro hp3 <| And.intro t9 <| And.intro t10 <| And.intro hi8 <| And.intro hil <| And.intro hxl <| And.intro hT <| And.intro hE <| And.intro hms <| hlk
      have c1 := hsh
      refine k_run ?_
      repeat ((first | refine w_sch (id := 10) (.q 0 <| .q 1 <| .q 2 <| .q 3 <| .q 4 <| .q 5 <| .q 6 <| .q 7 <| .q 8 <| .q 9 <| .q 10 <| .q 11 <| .q 12 <| .q 13 <| .l 14 [] <| .done) mixed (by kernel_rfl) (by kernel_rfl) ?_); refine k_rund ?_; refine k_run ?_)
      clear fx c1
      exact ⟨8 - (i + 1), by omega, i + 1, xs.set i (Hm.shown (v1, v2)), rfl, by omega, by simp [hxl], by rw [htk, ← hxs, take_set_end (by omega)], by simp [t0, hT], by simp [t2], by simp [hp2], by simp [t3], by simp [hp3], by simp [t9], by simp [t10]; exact wrp (by omega) (by omega), ⟨by simp [hO.top, mRow], ⟨by simp [hO.scs.top], fun j k hj hk => by simp [hO.scs.sc j k hj hk]⟩, by simp [hO.out], by simp [hO.trc], hO.run.imp fun l hl => ⟨hl.1, by simp [hl.2]⟩, by simp [hO.funs], fun k g hg => by simp [hO.bx k g hg], by simp [hO.clss], fun k c hc => (hO.cls k c hc).imp fun ms hm => ⟨by simp [hm.1], hm.2⟩, fun i a ha => by simp [hO.env i a ha], fun i hi => (hO.nms i hi).imp fun ms hm => ⟨by simp [hm.1], hm.2⟩, fun k i j hk hn => if e : k = 1 ∧ i = 0 ∧ j = 0 then .inl e else hO.only k i j hk (by simpa [hk, e] using hn)⟩⟩
  · have hge : i = 8 := by omega
    subst hge
    have hxe : xs = shownS W.globals := by
      rw [List.take_of_length_le (by omega), List.take_of_length_le (by omega)] at hxs
      exact hxs
    have hU := hO.out
    have hsl : (shownS W.globals).length = 8 := by rw [← hxe]; exact hxl
    have h88 : ¬ (8 : Int) < 8 := by omega
    refine w_move (.c Mn 0 4) (.s 1) (.inl rfl) (.inl rfl) ?_
    have fx := And.intro t0 <| And.intro t2 <| And.intro hp2 <| And.intro t3 <| And.intro hp3 <| And.intro t9 <| And.intro t10 <| And.intro h88 <| And.intro hT <| hU
    refine k_run ?_
    repeat ((first | refine w_sch (id := 10) (.q 0 <| .q 1 <| .q 2 <| .q 3 <| .q 4 <| .q 5 <| .q 6 <| .q 7 <| .q 8 <| .q 9 <| .q 10 <| .q 11 <| .q 12 <| .q 13 <| .l 14 [] <| .done) mixed (by kernel_rfl) (by kernel_rfl) ?_); refine k_rund ?_; refine k_run ?_)
    clear fx
    refine e_ret [(.s 2, root)] (.one rfl) (by simp [t2]; rfl) ⟨by simp [resW, hsl], ⟨by simp [resW, hU, hr0], by simp [resW, hp3, hxe, hr0]⟩⟩
theorem impl_RunMeaning_fn (gl) (p : Prg) (f : Int) (hs : Sml p) : FnOk Tryz.prog gl 34 [pav p, iv f] (fun r y H' => y = .agg ((resG p f).own r) ∧ OwnR H' r (resG p f)) := by
  refine FnOk.of_sem Tryz.func34 rfl (by kernel_rfl) (rs := [.cell 4 46]) rfl Tryz.ntmps34 (Nat.le_of_ble_eq_true rfl) fun C w g root => ?_
  cases hv0 : progOk p
  · have hv : fuelOk p f = false := by simp [fuelOk, hv0]
    have hG : resG p f = ⟨[], 0, 0, []⟩ := by simp [resG, hv]
    rw [hG]
    have fx :=  hv0
    have c1 := hv0 ▸ impl_ValidProgram_fn gl p hs
    refine k_run ?_
    clear fx c1
    refine e_ret [(.s 4, root)] (.one rfl) (by simp; rfl) ⟨by simp, ⟨by simp, by simp⟩⟩
  cases hv : fuelOk p f
  · have hf : (decide (0 ≤ f) && decide (f ≤ 150)) = false := by simpa [fuelOk, hv0] using hv
    have hG : resG p f = ⟨[], 0, 0, []⟩ := by simp [resG, hv]
    rw [hG]
    have fx := And.intro hv0 <| hf
    have c1 := hv0 ▸ impl_ValidProgram_fn gl p hs
    have c2 := hf ▸ isFuel_fn gl f
    refine k_run ?_
    clear fx c1 c2
    refine e_ret [(.s 4, root)] (.one rfl) (by simp; rfl) ⟨by simp, ⟨by simp, by simp⟩⟩
  · obtain ⟨hpo, n, rfl, hn⟩ := fuelOk_of hv
    have hP := ValP.of hs hpo
    have hf : (decide (0 ≤ (n : Int)) && decide ((n : Int) ≤ 150)) = true := by simpa [fuelOk, hv0] using hv
    have hm := meantOk hP.sh hn
    have hG : resG p n = resW (meantW p n) := by simp [resG, hv]
    rw [hG]
    have fx := And.intro hv0 <| hf
    have c1 := hv0 ▸ impl_ValidProgram_fn gl p hs
    have c2 := hf ▸ isFuel_fn gl n
    refine k_run ?_
    clear fx c1 c2
    intro K hK
    have fx := fx0
    refine x_mutM (fun k i j he => by simp [ctx0, noH] at he) (hF := meaningOf_fn gl _ p n hP hn (by simp [noH])) (h := ?_)
    rintro y H1 ⟨rfl, hO1⟩
    clear fx
    have hT1 := hO1.top
    simp only [mRow] at hT1
    have fx :=  hT1
    refine k_run ?_
    clear fx
    have fx := hT1
    refine o_mvPost (.c (.s 17) 0 0) (.s 1) (.inl rfl) (.inl rfl) ?_
    refine o_mvPost (.c (.s 17) 0 3) (.s 3) (.inl rfl) (.inl rfl) ?_
    refine x_mutM (fun k i j he => by simp [ctx0, noH] at he) (hF := result_fn gl _ _ p (meantW p n) hm.ok (OwnM.sub (p := p) (F := 155) (w := meantW p n) ⟨by simp [hO1.top, mRow], ⟨by simp [hO1.scs.top], fun j k hj hk => by simp [hO1.scs.sc j k hj hk]⟩, by simp [hO1.out], by simp [hO1.trc], hO1.run.imp fun l hl => ⟨hl.1, by simp [hl.2]⟩, by simp [hO1.funs], fun k g hg => by simp [hO1.bx k g hg], by simp [hO1.clss], fun k c hc => (hO1.cls k c hc).imp fun ms hm => ⟨by simp [hm.1], hm.2⟩, fun i a ha => by simp [hO1.env i a ha], fun i hi => (hO1.nms i hi).imp fun ms hm => ⟨by simp [hm.1], hm.2⟩, fun k i j hk hn => if e : k = 1 ∧ i = 0 ∧ j = 0 then .inl e else hO1.only k i j hk (by simpa [hk, e] using hn)⟩)) (h := ?_)
    rintro y H2 ⟨rfl, hR2⟩
    clear fx
    have r1 := hR2.out
    have r2 := hR2.gl
    have fx := And.intro r1 <| r2
    refine k_run ?_
    clear fx
    refine e_ret [(.s 4, root)] (.one rfl) (by simp; rfl) ⟨by simp, ⟨by simp [r1], by simp [r2]⟩⟩
end Go.Proofs.YtpckgioefpkmoaaGreat
end
