/-
  Own texts, joined by mkclaim.py: Phr, Sj, Sk.
-/
import Derived.Test.YtpckgioefpkmoaaGreatE21
import Derived.Test.YtpckgioefpkmoaaGreatE32
import Derived.Test.YtpckgioefpkmoaaGreatE16
import Derived.Test.YtpckgioefpkmoaaGreatE31
set_option linter.unusedSimpArgs false
set_option linter.unusedVariables false

section
set_option maxRecDepth 100000
set_option maxHeartbeats 4000000
set_option linter.unusedSimpArgs false
namespace Go.Proofs.YtpckgioefpkmoaaGreat
open Go Go.Hm Go.Proofs
theorem globalsShown_fn (gl) (l : List Slt) (hl : l.length = 8) : FnOk Tryz.prog gl 61 [.sl 3 (slrows l)] (fun r y H' => y = .hs r 1 0 (shownS l).length ∧ H' r = some (.row 1 (irows (shownS l)))) := by
  refine FnOk.of_sem Tryz.func61 rfl (by kernel_rfl) (rs := [.tmp 2]) rfl Tryz.ntmps61 (Nat.le_of_ble_eq_true rfl) fun C w g root => ?_
  have fx :=  hl
  refine k_run ?_
  clear fx
  refine w_loop (fun n st => ∃ (i : Nat) (xs : List Int), n = l.length - i ∧ i ≤ l.length ∧ xs = shownS (l.take i) ∧ xs.length = i ∧ st.tm 0 = .sl 3 (slrows l) ∧ st.tm 3 = .hs (.s 3) 1 0 xs.length ∧ st.hp (.s 3) = some (.row 1 (irows xs)) ∧ st.tm 4 = iv i) l.length ?_ ?_
  · exact ⟨0, [], by omega, by omega, by simp [shownS], rfl, by simp, by simp, by simp, by simp⟩
  rintro n st - - ⟨i, xs, rfl, hi, hxs, hxl, h0, h3, hp3, h4⟩
  by_cases hil : i < l.length
  · obtain ⟨s, hs⟩ : ∃ s, l[i]? = some s := ⟨_, List.getElem?_eq_getElem hil⟩
    obtain ⟨_, hsE⟩ := List.getElem?_eq_some_iff.1 hs
    have hx8 : xs.length ≤ 8 := by omega
    have hi8 : (i : Int) < 8 := by omega
    have htk : shownS (l.take (i + 1)) = shownS (l.take i) ++ [match s with | some v => Hm.shown v | none => -9] := by
      rw [List.take_add_one, hs]
      cases s <;> simp [shownS]
    cases s with
    | none =>
      have fx := And.intro h0 <| And.intro h3 <| And.intro hp3 <| And.intro h4 <| And.intro hil <| And.intro hi8 <| And.intro hs <| And.intro hsE <| And.intro hx8 <| hl
      refine k_run ?_
      clear fx
      exact ⟨l.length - (i + 1), by omega, i + 1, xs ++ [-9], rfl, by omega, by rw [htk, hxs], by simp [hxl], by simp [h0], by simp, by simp, by simp; exact wrp (by omega) (by omega)⟩
    | some v =>
      have hsh := spec_shown_fn gl v
      obtain ⟨v1, v2⟩ := v
      have fx := And.intro h0 <| And.intro h3 <| And.intro hp3 <| And.intro h4 <| And.intro hil <| And.intro hi8 <| And.intro hs <| And.intro hsE <| And.intro hx8 <| hl
      have c1 := hsh
      refine k_run ?_
      clear fx c1
      exact ⟨l.length - (i + 1), by omega, i + 1, xs ++ [Hm.shown (v1, v2)], rfl, by omega, by rw [htk, hxs], by simp [hxl], by simp [h0], by simp, by simp, by simp; exact wrp (by omega) (by omega)⟩
  · have hge : i = l.length := by omega
    subst hge
    rw [List.take_length] at hxs
    subst hxs
    have fx := And.intro h0 <| And.intro h3 <| And.intro hp3 <| And.intro h4 <| hil
    refine k_run ?_
    clear fx
    refine e_ret [(.s 2, root)] (.one rfl) (by simp; rfl) ⟨by simp, by simp [hp3]⟩
theorem spec_RunMeaning_fn (gl) (p : Prg) (f : Int) (hs : Sml p) : FnOk Tryz.prog gl 33 [pav p, iv f] (fun r y H' => y = .agg ((resG p f).own r) ∧ OwnR H' r (resG p f)) := by
  refine FnOk.of_sem Tryz.func33 rfl (by kernel_rfl) (rs := [.cell 4 46]) rfl Tryz.ntmps33 (Nat.le_of_ble_eq_true rfl) fun C w g root => ?_
  cases hv : fuelOk p f
  · skip
    have fx :=  hv
    have c1 := hv ▸ validFuel_fn gl p f hs
    refine k_run ?_
    repeat ((first | refine w_sch (id := 4) (.q 1 <| .q 2 <| .q 3 <| .q 4 <| .q 6 <| .q 7 <| .q 8 <| .q 9 <| .q 10 <| .q 11 <| .q 12 <| .q 13 <| .q 14 <| .q 15 <| .q 16 <| .q 17 <| .l 0 [17, 16, 15, 14, 13, 12, 11, 10, 9, 8, 7, 6, 4, 3, 2, 1] <| .l 5 [17, 16, 15, 14, 13, 12, 11, 10, 9, 8, 7, 6, 3, 2, 1] <| .l 18 [16, 15, 14, 13, 12, 11, 10, 9, 8, 7, 6, 3, 2, 1] <| .q 19 <| .l 20 [] <| .done) mixed (by kernel_rfl) (by kernel_rfl) ?_); refine k_rund ?_; refine k_run ?_)
    clear fx c1
    have hG : resG p f = ⟨[], 0, 0, []⟩ := by simp [resG, hv]
    rw [hG]
    refine e_ret [(.s 4, root)] (.one rfl) (by simp; rfl) ⟨by simp, ⟨by simp, by simp⟩⟩
  · obtain ⟨hpo, n, rfl, hn⟩ := fuelOk_of hv
    have hP := ValP.of hs hpo
    have hm := meantOk hP.sh hn
    have hol := hm.ok.nout
    have hol' : (meantW p n).out.length ≤ 1000 := by omega
    have hgl8 := hm.ok.glob.1
    have hG : resG p n = resW (meantW p n) := by simp [resG, hv]
    rw [hG]
    have fx :=  hv
    have c1 := hv ▸ validFuel_fn gl p n hs
    refine k_run ?_
    repeat ((first | refine w_sch (id := 4) (.q 1 <| .q 2 <| .q 3 <| .q 4 <| .q 6 <| .q 7 <| .q 8 <| .q 9 <| .q 10 <| .q 11 <| .q 12 <| .q 13 <| .q 14 <| .q 15 <| .q 16 <| .q 17 <| .l 0 [17, 16, 15, 14, 13, 12, 11, 10, 9, 8, 7, 6, 4, 3, 2, 1] <| .l 5 [17, 16, 15, 14, 13, 12, 11, 10, 9, 8, 7, 6, 3, 2, 1] <| .l 18 [16, 15, 14, 13, 12, 11, 10, 9, 8, 7, 6, 3, 2, 1] <| .q 19 <| .l 20 [] <| .done) mixed (by kernel_rfl) (by kernel_rfl) ?_); refine k_rund ?_; refine k_run ?_)
    clear fx c1
    intro K hK
    have fx := fx0
    refine x_mut Wn rfl (by simp [ctx0, noH]) (hF := meant_fn gl _ p n hP hn (by simp [noH])) (h := ?_)
    rintro y H1 ⟨rfl, hO1⟩
    clear fx
    have hT1 := hO1.top
    have hU1 := hO1.out
    have hG1 := hO1.glob
    simp only [wRow] at hT1
    have fx := And.intro hT1 <| And.intro hU1 <| And.intro hG1 <| And.intro hol' <| hgl8
    have d1 := globalsShown_fn gl (meantW p n).globals hgl8
    refine k_run ?_
    repeat ((first | refine w_sch (id := 4) (.q 1 <| .q 2 <| .q 3 <| .q 4 <| .q 6 <| .q 7 <| .q 8 <| .q 9 <| .q 10 <| .q 11 <| .q 12 <| .q 13 <| .q 14 <| .q 15 <| .q 16 <| .q 17 <| .l 0 [17, 16, 15, 14, 13, 12, 11, 10, 9, 8, 7, 6, 4, 3, 2, 1] <| .l 5 [17, 16, 15, 14, 13, 12, 11, 10, 9, 8, 7, 6, 3, 2, 1] <| .l 18 [16, 15, 14, 13, 12, 11, 10, 9, 8, 7, 6, 3, 2, 1] <| .q 19 <| .l 20 [] <| .done) mixed (by kernel_rfl) (by kernel_rfl) ?_); refine k_rund ?_; refine k_run ?_)
    clear fx d1
    refine e_ret [(.s 4, root)] (.one rfl) (by simp; rfl) ⟨by simp [resW], ⟨by simp [resW], by simp [resW]⟩⟩
end Go.Proofs.YtpckgioefpkmoaaGreat
end

section
set_option maxRecDepth 100000
set_option maxHeartbeats 4000000
set_option linter.unusedSimpArgs false
namespace Go.Proofs.YtpckgioefpkmoaaGreat
open Go Go.Hm Go.Proofs
theorem eqResult_fn (gl) (r : Rsl) (h1 : r.out.length ≤ 1048576) (h2 : r.gl.length ≤ 1048576) : FnOk Tryz.prog gl 35 [.agg [isl r.out, iv r.en, iv r.left, isl r.gl], .agg [isl r.out, iv r.en, iv r.left, isl r.gl]] (fun _ z _ => z = bv true) := by
  refine FnOk.of_sem Tryz.func35 rfl (by kernel_rfl) (rs := [.tmp 4]) rfl Tryz.ntmps35 (Nat.le_of_ble_eq_true rfl) fun C w g root => ?_
  have fx :=  @bne_def
  have c1 := eqIntS_fn gl r.out r.out h1 h1
  have c2 := eqIntS_fn gl r.gl r.gl h2 h2
  refine k_run ?_
  clear fx c1 c2
  refine e_ret [] .nil (by simp; rfl) (by simp)
theorem heldResult_fn (gl) (r : Rsl) (c : Int) (hc : 0 ≤ c ∧ c ≤ 1024) (h1 : r.out.length ≤ 1048576) (h2 : r.gl.length ≤ 1048576) : FnOk Tryz.prog gl 37 [.agg [isl (r.mark c).out, iv r.en, iv r.left, isl (r.mark c).gl], iv c] (fun _ z _ => z = iv (c + r.out.length + r.gl.length)) := by
  have e1 : ¬ c + (r.out.length : Int) < 0 := by omega
  have e2 : ¬ c + (r.out.length : Int) + r.gl.length < 0 := by omega
  have q1 := heldIntS_fn gl r.out.length c (by omega) h1
  have q2 := heldIntS_fn gl r.gl.length (c + r.out.length) (by omega) h2
  simp only [Rsl.mark]
  refine FnOk.of_sem Tryz.func37 rfl (by kernel_rfl) (rs := [.tmp 4]) rfl Tryz.ntmps37 (Nat.le_of_ble_eq_true rfl) fun C w g root => ?_
  have fx := And.intro e1 <| e2
  have c1 := q1
  have c2 := q2
  refine k_run ?_
  clear fx c1 c2
  refine e_ret [] .nil (by simp; rfl) (by simp)
theorem markResult_fn (gl) (H : Nm → Option AO) (r : Rsl) (c : Int) (hT : H (.u 0 0 0) = some (.row 4 [r.own (.u 0 0 0)])) (hO : OwnR H (.u 0 0 0) r) (hV : H (.u 1 0 0) = none) (hc : 0 ≤ c ∧ c ≤ 1024) (h1 : r.out.length ≤ 1048576) (h2 : r.gl.length ≤ 1048576) :
    FnE Tryz.prog gl 36 (Nm.under (.u 0 0 0)) [.agg [.hs (.c (.u 0 0 0) 0 0) 1 0 r.out.length, iv r.en, iv r.left, .hs (.c (.u 0 0 0) 0 3) 1 0 r.gl.length], iv c] H (fun _ y H' => y = iv (c + r.out.length + r.gl.length) ∧ H' (.u 0 0 0) = some (.row 4 [r.own (.u 0 0 0)]) ∧ OwnR H' (.u 0 0 0) (r.mark c)) noE := by
  obtain ⟨a1, a2⟩ := hO
  rw [Rsl.own_eq] at hT ⊢
  refine FnE.of_sem Tryz.func36 rfl (by kernel_rfl) (rs := [.tmp 4]) rfl Tryz.ntmps36 (Nat.le_of_ble_eq_true rfl) (fun _ => under_usroot rfl) fun C w g root hroot => ?_
  have hx1 : (ctx0 Tryz.prog C w g H Tryz.f36.ntmps gl).ext (.u 1 0 0) = false := by simp [ctx0, hV]
  have fx := And.intro hT <| And.intro a1 <| a2
  refine k_run ?_
  clear fx
  intro K hK
  have fx := fx0
  refine x_mutc (.c (.u 0 0 0) 0 0) (.u 1 0 0) (hext := hx1) (hs := by simp [a1]) (hF := markIntS_fn _ _ r.out c (by simp [a1]) (by omega) h1) (h := ?_)
  rintro y H1 ⟨rfl, hy1⟩
  clear fx
  have fx := And.intro hT <| And.intro a1 <| a2
  refine k_run ?_
  clear fx
  intro K hK
  have fx := fx0
  refine x_mutc (.c (.u 0 0 0) 0 3) (.u 1 0 0) (hext := hx1) (hs := by simp [a2]) (hF := markIntS_fn _ _ r.gl (c + r.out.length) (by simp [a2]) (by omega) h2) (h := ?_)
  rintro y H2 ⟨rfl, hy2⟩
  clear fx
  have fx := fx0
  refine k_run ?_
  clear fx
  refine e_ret [] .nil (by simp; rfl) ⟨by simp, by simp [hT], ⟨by simp [hy1, Rsl.mark], by simp [hy2, Rsl.mark]⟩⟩
end Go.Proofs.YtpckgioefpkmoaaGreat
end

section
set_option maxRecDepth 100000
set_option maxHeartbeats 4000000
set_option linter.unusedSimpArgs false
namespace Go.Proofs.YtpckgioefpkmoaaGreat
open Go Go.Hm Go.Proofs
theorem FnExactRunMeaning_fn (gl : Nat → Option (List AV)) (p : Prg) (b : Int) (hb : Big p) : FnOk Tryz.prog gl 7 [pav p, iv b] (fun _ y _ => y = bv true) := by
  refine FnOk.of_sem Tryz.func7 rfl (by kernel_rfl) (rs := [.tmp 4]) rfl Tryz.ntmps7 (Nat.le_of_ble_eq_true rfl) fun C w g root => ?_
  by_cases ht : tot p ≤ 1048576
  case neg =>
    have fx :=  ht
    have c1 := szProgram_fn gl p hb
    refine k_run ?_
    repeat ((first | refine w_sch (id := 10) (.q 0 <| .q 1 <| .l 2 [0] <| .l 3 [] <| .q 4 <| .done) mixed (by kernel_rfl) (by kernel_rfl) ?_); refine k_rund ?_; refine k_run ?_)
    clear fx c1
    refine e_ret [] .nil (by simp; rfl) (by simp)
  have hs := tot_sml ht
  have hgt : ¬ 1048576 - (tot p : Int) < 0 := by omega
  have hsa := spec_RunMeaning_fn gl p b hs
  have hia := impl_RunMeaning_fn gl p b hs
  obtain ⟨hl1, hl2⟩ := resG_len (f := b) hs
  generalize resG p b = R at hsa hia hl1 hl2
  have heq := eqResult_fn gl R (by omega) (by omega)
  have hcp := cntTo_le hs p.length
  have hpl := hs.len
  have fx := And.intro ht <| hgt
  have c1 := szProgram_fn gl p hb
  have e1 := toProgram_fn gl p hs
  refine k_run ?_
  repeat ((first | refine w_sch (id := 10) (.q 0 <| .q 1 <| .l 2 [0] <| .l 3 [] <| .q 4 <| .done) mixed (by kernel_rfl) (by kernel_rfl) ?_); refine k_rund ?_; refine k_run ?_)
  clear fx c1 e1
  rintro K hK y H1 ⟨rfl, hO⟩
  obtain ⟨ho1, ho2, ho3⟩ := hO.hcln
  refine ⟨by simp, ?_⟩
  have fx := And.intro ht <| hgt
  have e1 := hsa
  refine k_run ?_
  repeat ((first | refine w_sch (id := 10) (.q 0 <| .q 1 <| .l 2 [0] <| .l 3 [] <| .q 4 <| .done) mixed (by kernel_rfl) (by kernel_rfl) ?_); refine k_rund ?_; refine k_run ?_)
  clear fx e1
  rintro y H2 ⟨rfl, hR⟩
  obtain ⟨r1, r2⟩ := hR.hcln
  refine ⟨by simp, ?_⟩
  have fx := And.intro ht <| And.intro hgt <| And.intro r1 <| r2
  refine k_run ?_
  repeat ((first | refine w_sch (id := 10) (.q 0 <| .q 1 <| .l 2 [0] <| .l 3 [] <| .q 4 <| .done) mixed (by kernel_rfl) (by kernel_rfl) ?_); refine k_rund ?_; refine k_run ?_)
  clear fx
  intro K hK
  refine o_mv (.c (.s 21) 0 0) (.c (.s 6) 0 0) (.inl rfl) (.inl rfl) (o_mv (.c (.s 21) 0 3) (.c (.s 6) 0 3) (.inl rfl) (.inl rfl) ?_)
  refine o_abs (fun st => st.tm 2 = .pt (.s 2) 0 ∧ st.hp (.s 2) = some (.row 1 [[ksl p]]) ∧ st.tm 6 = .pt (.s 6) 0 ∧ st.hp (.s 6) = some (.row 4 [R.own (.s 6)]) ∧ OwnR st.hp (.s 6) R ∧ st.tm 1 = iv b ∧ st.tm 22 = pav p) ⟨by simp, by simp, by simp, by simp, ⟨by simp [r1], by simp [r2]⟩, by simp, by simp⟩ ?_
  clear hO ho1 ho2 ho3 hR r1 r2
  rintro st ⟨h2, hp2, h6, hp6, ⟨r1, r2⟩, h1, h22⟩
  rw [Rsl.own_eq] at hp6
  have fx := And.intro h2 <| And.intro hp2 <| And.intro h6 <| And.intro hp6 <| And.intro h1 <| h22
  have e1 := toProgram_fn gl p hs
  refine k_run ?_
  repeat ((first | refine w_sch (id := 10) (.q 0 <| .q 1 <| .l 2 [0] <| .l 3 [] <| .q 4 <| .done) mixed (by kernel_rfl) (by kernel_rfl) ?_); refine k_rund ?_; refine k_run ?_)
  clear fx e1
  rintro y H2 ⟨rfl, hO⟩
  obtain ⟨b1, b2, b3⟩ := hO.hcln
  refine ⟨by simp, ?_⟩
  have fx := And.intro h2 <| And.intro hp2 <| And.intro h6 <| And.intro hp6 <| And.intro h1 <| And.intro b1 <| And.intro r1 <| r2
  have e1 := hia
  refine k_run ?_
  repeat ((first | refine w_sch (id := 10) (.q 0 <| .q 1 <| .l 2 [0] <| .l 3 [] <| .q 4 <| .done) mixed (by kernel_rfl) (by kernel_rfl) ?_); refine k_rund ?_; refine k_run ?_)
  clear fx e1
  rintro K hK y H3 ⟨rfl, hR3⟩
  obtain ⟨s1, s2⟩ := hR3.hcln
  refine ⟨by simp, ?_⟩
  have fx := And.intro h2 <| And.intro hp2 <| And.intro h6 <| And.intro hp6 <| And.intro h1 <| And.intro b1 <| And.intro r1 <| And.intro r2 <| And.intro s1 <| s2
  refine k_run ?_
  repeat ((first | refine w_sch (id := 10) (.q 0 <| .q 1 <| .l 2 [0] <| .l 3 [] <| .q 4 <| .done) mixed (by kernel_rfl) (by kernel_rfl) ?_); refine k_rund ?_; refine k_run ?_)
  clear fx
  intro K hK
  refine o_mv (.c (.s 26) 0 0) (.c (.s 8) 0 0) (.inl rfl) (.inl rfl) (o_mv (.c (.s 26) 0 3) (.c (.s 8) 0 3) (.inl rfl) (.inl rfl) ?_)
  refine o_abs (fun st => st.tm 2 = .pt (.s 2) 0 ∧ st.hp (.s 2) = some (.row 1 [[ksl p]]) ∧ st.tm 6 = .pt (.s 6) 0 ∧ st.hp (.s 6) = some (.row 4 [R.own (.s 6)]) ∧ OwnR st.hp (.s 6) R ∧ st.tm 1 = iv b ∧ st.tm 7 = .pt (.s 7) 0 ∧ st.hp (.s 7) = some (.row 1 [[.hs (.c (.s 7) 0 0) 4 0 p.length]]) ∧ OwnP st.hp (.c (.s 7) 0 0) p ∧ st.tm 8 = .pt (.s 8) 0 ∧ st.hp (.s 8) = some (.row 4 [R.own (.s 8)]) ∧ OwnR st.hp (.s 8) R ∧ st.tm 27 = .agg (R.own (.s 8)) ∧ st.tm 28 = .agg (R.own (.s 6)))
    ⟨by simp [h2], by simp [hp2], by simp [h6], by simp [hp6], ⟨by simp [r1], by simp [r2]⟩, by simp [h1], by simp, by simp, ⟨by simp [b1, -List.map_map]; rw [pRows_tr (m := .c (.s 7) 0 0) (by simp), pRows_tr (m := .c (.s 7) 0 0) (by simp)], fun j r hj => by simp [b2 j r hj], fun j r hj => by simp [b3 j r hj]⟩, by simp, by simp, ⟨by simp [s1], by simp [s2]⟩, by simp, by simp⟩ ?_
  clear h2 hp2 h6 hp6 h1 h22 r1 r2 s1 s2 hO b1 b2 b3 hR3
  rintro st ⟨h2, hp2, h6, hp6, ⟨r1, r2⟩, h1, h7, hp7, ⟨b1, b2, b3⟩, h8, hp8, ⟨s1, s2⟩, h27, h28⟩
  rw [Rsl.own_eq] at hp6 hp8 h27 h28
  all_goals have fx := And.intro h2 <| And.intro hp2 <| And.intro h6 <| And.intro hp6 <| And.intro h1 <| And.intro h7 <| And.intro hp7 <| And.intro h8 <| And.intro hp8 <| And.intro r1 <| And.intro r2 <| And.intro s1 <| And.intro s2 <| And.intro h27 <| h28
  repeat' (first
   | refine w_seq ?_ | refine w_skip ?_
   | ((with_reducible refine s_end hK ?_); clear hK K)
   | (with_reducible first | refine then_normal ?_)
   | (with_reducible refine s_none ?_)
   | ((with_reducible refine o_id 35 rfl ?_); refine x_call (hB := (by first | ((repeat' (first | exact .nil | refine .cons ?_ ?_ | exact .refl _ | exact bw_ints (by simp [fx]; first | done | rfl) (by first | (simp [fx]; done) | (simp [fx]; omega) | omega) | exact bw_list (by simp [fx]; first | done | rfl) (by first | (simp [fx]; done) | (simp [fx]; omega) | omega) (by first | (simp; done) | fail) | exact bw_rsl (n := .s 8) (r := R) ⟨by simp [s1], by simp [s2]⟩ | exact bw_rsl (n := .s 6) (r := R) ⟨by simp [r1], by simp [r2]⟩)); done) | fail)) (hF := heq) (h := ?_))
   | ((with_reducible refine o_id 17 rfl ?_); refine x_callg (hB := (by first | ((repeat' (first | exact .nil | refine .cons ?_ ?_ | exact .refl _ | exact bw_ints (by simp [fx]; first | done | rfl) (by first | (simp [fx]; done) | (simp [fx]; omega) | omega) | exact bw_list (by simp [fx]; first | done | rfl) (by first | (simp [fx]; done) | (simp [fx]; omega) | omega) (by first | (simp; done) | fail) | exact bw_rsl (n := .s 8) (r := R) ⟨by simp [s1], by simp [s2]⟩ | exact bw_rsl (n := .s 6) (r := R) ⟨by simp [r1], by simp [r2]⟩)); done) | fail)) (hF := toProgram_fn gl p hs) (h := ?_))
   | (with_reducible refine x_q (h := ?_))
   | refine x_condf (h1 := ?_)
   | (refine w_sch (id := 10) (.q 0 <| .q 1 <| .l 2 [0] <| .l 3 [] <| .q 4 <| .done) mixed (by kernel_rfl) (by kernel_rfl) fun K hK => ?_)
   | ((with_reducible refine a_id ?_); first | refine xa_q (h := ?_))
   | refine a_l rfl ?_
   | fail)
  all_goals try clear fx
  rintro y H3 ⟨rfl, hO3⟩
  obtain ⟨ho1, ho2, ho3⟩ := hO3.hcln
  refine ⟨by simp, ?_⟩
  have fx := And.intro h2 <| And.intro hp2 <| And.intro h6 <| And.intro hp6 <| And.intro h7 <| And.intro hp7 <| And.intro h8 <| And.intro hp8 <| And.intro b1 <| ho1
  have c1 := eqProgram_fn gl p p hs hs
  refine k_run ?_
  repeat ((first | refine w_sch (id := 10) (.q 0 <| .q 1 <| .l 2 [0] <| .l 3 [] <| .q 4 <| .done) mixed (by kernel_rfl) (by kernel_rfl) ?_); refine k_rund ?_; refine k_run ?_)
  clear fx c1
  intro K hK
  refine o_abs (fun st => st.tm 2 = .pt (.s 2) 0 ∧ st.hp (.s 2) = some (.row 1 [[ksl p]]) ∧ st.tm 6 = .pt (.s 6) 0 ∧ st.hp (.s 6) = some (.row 4 [R.own (.s 6)]) ∧ OwnR st.hp (.s 6) R ∧ st.tm 1 = iv b ∧ OwnP st.hp (.c (.s 7) 0 0) p ∧ st.tm 8 = .pt (.s 8) 0 ∧ st.hp (.s 8) = some (.row 4 [R.own (.s 8)]) ∧ OwnR st.hp (.s 8) R ∧ st.tm 36 = .agg [.hs (.c (.s 7) 0 0) 4 0 p.length] ∧ st.tm 37 = iv 1)
    ⟨by simp [h2], by simp [hp2], by simp [h6], by simp [hp6], ⟨by simp [r1], by simp [r2]⟩, by simp [h1], ⟨by simp [b1], fun j r hj => by simp [b2 j r hj], fun j r hj => by simp [b3 j r hj]⟩, by simp [h8], by simp [hp8], ⟨by simp [s1], by simp [s2]⟩, by simp, by simp⟩ ?_
  clear h2 hp2 h6 hp6 r1 r2 h1 h7 hp7 b1 b2 b3 h8 hp8 s1 s2 h27 h28 ho1 ho2 ho3 hO3
  rintro st ⟨h2, hp2, h6, hp6, ⟨r1, r2⟩, h1, ⟨b1, b2, b3⟩, h8, hp8, ⟨s1, s2⟩, h36, h37⟩
  rw [Rsl.own_eq] at hp6 hp8
  have fx := And.intro h36 h37
  refine x_mutc (.c (.s 7) 0 0) (.u 0 0 0) (hext := rfl) (hs := by simp [b1]) (hF := markProgram_fn _ _ p 1 hs ⟨by simp [b1], fun j r hj => by simp [b2 j r hj], fun j r hj => by simp [b3 j r hj]⟩ (by simp) (by decide)) (h := ?_)
  rintro y H6 ⟨rfl, ⟨d1, d2, d3⟩⟩
  clear fx
  refine s_abs (fun st => st.tm 2 = .pt (.s 2) 0 ∧ st.hp (.s 2) = some (.row 1 [[ksl p]]) ∧ st.tm 6 = .pt (.s 6) 0 ∧ st.hp (.s 6) = some (.row 4 [R.own (.s 6)]) ∧ OwnR st.hp (.s 6) R ∧ st.tm 1 = iv b ∧ st.tm 8 = .pt (.s 8) 0 ∧ st.hp (.s 8) = some (.row 4 [R.own (.s 8)]) ∧ OwnR st.hp (.s 8) R ∧ st.tm 38 = iv (1 + cnt p))
    ⟨by simp [h2], by simp [hp2], by simp [h6], by simp [hp6], ⟨by simp [r1], by simp [r2]⟩, by simp [h1], by simp [h8], by simp [hp8], ⟨by simp [s1], by simp [s2]⟩, by simp⟩ ?_
  clear h2 hp2 h6 hp6 r1 r2 h1 b1 b2 b3 h8 hp8 s1 s2 h36 h37 d1 d2 d3
  rintro st ⟨h2, hp2, h6, hp6, ⟨r1, r2⟩, h1, h8, hp8, ⟨s1, s2⟩, h38⟩
  rw [Rsl.own_eq] at hp6 hp8
  have hk1 : ¬ 1 + (cnt p : Int) < 0 := by omega
  all_goals have fx := And.intro h2 <| And.intro hp2 <| And.intro h6 <| And.intro hp6 <| And.intro h1 <| And.intro h8 <| And.intro hp8 <| And.intro r1 <| And.intro r2 <| And.intro s1 <| And.intro s2 <| And.intro h38 <| hk1
  repeat' (first
   | refine w_seq ?_ | refine w_skip ?_ | refine w_reg fun K hK => ?_
   | ((with_reducible refine s_end hK ?_); clear hK K)
   | (with_reducible first | refine then_normal ?_)
   | (with_reducible refine s_none ?_)
   | ((with_reducible refine g_id ?_); refine x_guard (h := ?_))
   | (with_reducible first | refine gx_ff ?_ | refine x_assign (h := ?_))
   | ((with_reducible refine o_id 35 rfl ?_); refine x_call (hB := (by first | ((repeat' (first | exact .nil | refine .cons ?_ ?_ | exact .refl _ | exact bw_ints (by simp [fx]; first | done | rfl) (by first | (simp [fx]; done) | (simp [fx]; omega) | omega) | exact bw_list (by simp [fx]; first | done | rfl) (by first | (simp [fx]; done) | (simp [fx]; omega) | omega) (by first | (simp; done) | fail) | exact bw_rsl (n := .s 8) (r := R) ⟨by simp [s1], by simp [s2]⟩ | exact bw_rsl (n := .s 6) (r := R) ⟨by simp [r1], by simp [r2]⟩)); done) | fail)) (hF := heq) (h := ?_))
   | (with_reducible refine x_q (h := ?_))
   | refine x_condf (h1 := ?_)
   | fail)
  all_goals try clear fx
  refine o_abs (fun st => st.tm 2 = .pt (.s 2) 0 ∧ st.hp (.s 2) = some (.row 1 [[ksl p]]) ∧ st.tm 6 = .pt (.s 6) 0 ∧ st.hp (.s 6) = some (.row 4 [R.own (.s 6)]) ∧ OwnR st.hp (.s 6) R ∧ st.tm 1 = iv b ∧ st.tm 8 = .pt (.s 8) 0 ∧ st.hp (.s 8) = some (.row 4 [R.own (.s 8)]) ∧ OwnR st.hp (.s 8) R ∧ st.tm 47 = .agg (R.own (.s 8)) ∧ st.tm 48 = iv 1)
    ⟨by simp [h2], by simp [hp2], by simp [h6], by simp [hp6], ⟨by simp [r1], by simp [r2]⟩, by simp [h1], by simp [h8], by simp [hp8], ⟨by simp [s1], by simp [s2]⟩, by simp [h8, hp8], by simp⟩ ?_
  clear h2 hp2 h6 hp6 r1 r2 h1 h8 hp8 s1 s2 h38
  rintro st ⟨h2, hp2, h6, hp6, ⟨r1, r2⟩, h1, h8, hp8, ⟨s1, s2⟩, h47, h48⟩
  rw [Rsl.own_eq] at hp6 hp8 h47
  have fx := And.intro h47 h48
  refine x_mutc (.s 8) (.u 0 0 0) (hext := rfl) (hs := by simp [hp8]) (hF := markResult_fn _ _ R 1 (by simp [hp8]) ⟨by simp [s1], by simp [s2]⟩ (by simp) (by decide) (by omega) (by omega)) (h := ?_)
  rintro y H7 ⟨rfl, hMt, ⟨m1, m2⟩⟩
  clear fx
  rw [Rsl.own_eq] at hMt
  refine s_abs (fun st => st.tm 2 = .pt (.s 2) 0 ∧ st.hp (.s 2) = some (.row 1 [[ksl p]]) ∧ st.tm 6 = .pt (.s 6) 0 ∧ st.hp (.s 6) = some (.row 4 [R.own (.s 6)]) ∧ OwnR st.hp (.s 6) R ∧ st.tm 1 = iv b ∧ st.tm 8 = .pt (.s 8) 0 ∧ st.hp (.s 8) = some (.row 4 [R.own (.s 8)]) ∧ OwnR st.hp (.s 8) (R.mark 1) ∧ st.tm 49 = iv (1 + R.out.length + R.gl.length))
    ⟨by simp [h2], by simp [hp2], by simp [h6], by simp [hp6], ⟨by simp [r1], by simp [r2]⟩, by simp [h1], by simp [h8], by simp [hMt], ⟨by simp [m1], by simp [m2]⟩, by simp⟩ ?_
  clear h2 hp2 h6 hp6 r1 r2 h1 h8 hp8 s1 s2 h47 h48 hMt m1 m2
  rintro st ⟨h2, hp2, h6, hp6, ⟨r1, r2⟩, h1, h8, hp8, ⟨s1, s2⟩, h49⟩
  rw [Rsl.own_eq] at hp6 hp8
  have hhe := heldResult_fn gl R 1 (by decide) (by omega) (by omega)
  have hmo := Rsl.mark_out (r := R) (c := 1)
  have hmg := Rsl.mark_gl (r := R) (c := 1)
  have hk2 : ¬ 1 + (R.out.length : Int) + R.gl.length < 0 := by omega
  all_goals have fx := And.intro h2 <| And.intro hp2 <| And.intro h6 <| And.intro hp6 <| And.intro h1 <| And.intro h8 <| And.intro hp8 <| And.intro r1 <| And.intro r2 <| And.intro s1 <| And.intro s2 <| And.intro h49 <| And.intro hk2 <| @bne_def
  repeat' (first
   | refine w_seq ?_ | refine w_skip ?_ | refine w_reg fun K hK => ?_
   | ((with_reducible refine s_end hK ?_); clear hK K)
   | (with_reducible first | refine then_normal ?_)
   | (with_reducible refine s_none ?_)
   | (with_reducible first | refine x_assign (h := ?_))
   | ((with_reducible refine o_id 37 rfl ?_); refine x_call (hB := (by first | ((repeat' (first | exact .nil | refine .cons ?_ ?_ | exact .refl _ | exact bw_ints (by simp [fx]; first | done | rfl) (by first | (simp [fx]; done) | (simp [fx]; omega) | omega) | exact bw_list (by simp [fx]; first | done | rfl) (by first | (simp [fx]; done) | (simp [fx]; omega) | omega) (by first | (simp; done) | fail) | exact .agg _ _ rfl (hmo ▸ hmg ▸ bw_rslC (n := .s 8) (r := R.mark 1) ⟨by simp [s1], by simp [s2]⟩))); done) | fail)) (hF := hhe) (h := ?_))
   | ((with_reducible refine o_id 17 rfl ?_); refine x_callg (hB := (by first | ((repeat' (first | exact .nil | refine .cons ?_ ?_ | exact .refl _ | exact bw_ints (by simp [fx]; first | done | rfl) (by first | (simp [fx]; done) | (simp [fx]; omega) | omega) | exact bw_list (by simp [fx]; first | done | rfl) (by first | (simp [fx]; done) | (simp [fx]; omega) | omega) (by first | (simp; done) | fail) | exact .agg _ _ rfl (hmo ▸ hmg ▸ bw_rslC (n := .s 8) (r := R.mark 1) ⟨by simp [s1], by simp [s2]⟩))); done) | fail)) (hF := toProgram_fn gl p hs) (h := ?_))
   | (with_reducible refine x_q (h := ?_))
   | refine x_condf (h1 := ?_)
   | fail)
  all_goals try clear fx
  rintro y H8 ⟨rfl, hO⟩
  obtain ⟨ho1, ho2, ho3⟩ := hO.hcln
  refine ⟨by simp, ?_⟩
  have fx := And.intro h2 <| And.intro hp2 <| And.intro h6 <| And.intro hp6 <| And.intro h1 <| And.intro h8 <| And.intro hp8 <| ho1
  have e1 := hia
  refine k_run ?_
  repeat ((first | refine w_sch (id := 10) (.q 0 <| .q 1 <| .l 2 [0] <| .l 3 [] <| .q 4 <| .done) mixed (by kernel_rfl) (by kernel_rfl) ?_); refine k_rund ?_; refine k_run ?_)
  clear fx e1
  rintro y H9 ⟨rfl, hR9⟩
  obtain ⟨t1, t2⟩ := hR9.hcln
  refine ⟨by simp, ?_⟩
  all_goals have fx := And.intro h2 <| And.intro hp2 <| And.intro h6 <| And.intro hp6 <| And.intro h1 <| And.intro h8 <| And.intro hp8 <| And.intro ho1 <| And.intro r1 <| And.intro r2 <| And.intro s1 <| And.intro s2 <| And.intro t1 <| And.intro t2 <| And.intro hk2 <| @bne_def
  repeat' (first
   | refine w_seq ?_ | refine w_skip ?_ | refine w_reg fun K hK => ?_
   | ((with_reducible refine s_end hK ?_); clear hK K)
   | (with_reducible first | refine then_normal ?_)
   | refine w_ret ?_
   | (with_reducible refine s_none ?_)
   | (with_reducible first | refine x_assign (h := ?_) | refine x_alloc (h := ?_) | refine x_store0 (h := ?_))
   | ((with_reducible refine o_id 35 rfl ?_); refine x_call (hB := (by first | ((repeat' (first | exact .nil | refine .cons ?_ ?_ | exact .refl _ | exact bw_ints (by simp [fx]; first | done | rfl) (by first | (simp [fx]; done) | (simp [fx]; omega) | omega) | exact bw_list (by simp [fx]; first | done | rfl) (by first | (simp [fx]; done) | (simp [fx]; omega) | omega) (by first | (simp; done) | fail) | exact bw_rsl (n := .s 61) (r := R) ⟨by simp [t1], by simp [t2]⟩ | exact bw_rsl (n := .s 6) (r := R) ⟨by simp [r1], by simp [r2]⟩ | exact .agg _ _ rfl (hmo ▸ hmg ▸ bw_rslC (n := .s 8) (r := R.mark 1) ⟨by simp [s1], by simp [s2]⟩))); done) | fail)) (hF := heq) (h := ?_))
   | ((with_reducible refine o_id 37 rfl ?_); refine x_call (hB := (by first | ((repeat' (first | exact .nil | refine .cons ?_ ?_ | exact .refl _ | exact bw_ints (by simp [fx]; first | done | rfl) (by first | (simp [fx]; done) | (simp [fx]; omega) | omega) | exact bw_list (by simp [fx]; first | done | rfl) (by first | (simp [fx]; done) | (simp [fx]; omega) | omega) (by first | (simp; done) | fail) | exact bw_rsl (n := .s 61) (r := R) ⟨by simp [t1], by simp [t2]⟩ | exact bw_rsl (n := .s 6) (r := R) ⟨by simp [r1], by simp [r2]⟩ | exact .agg _ _ rfl (hmo ▸ hmg ▸ bw_rslC (n := .s 8) (r := R.mark 1) ⟨by simp [s1], by simp [s2]⟩))); done) | fail)) (hF := hhe) (h := ?_))
   | (with_reducible refine x_q (h := ?_))
   | refine x_condf (h1 := ?_)
   | fail)
  all_goals try clear fx
  refine e_ret [] .nil (by simp; rfl) (by simp)
end Go.Proofs.YtpckgioefpkmoaaGreat
end
