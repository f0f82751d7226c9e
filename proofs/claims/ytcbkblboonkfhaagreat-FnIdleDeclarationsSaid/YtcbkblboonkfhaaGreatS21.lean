/-
  Own texts, joined by mkclaim.py: Rb, Gc, Gd, Ge, Gf, Gg.
-/
import Derived.Test.YtcbkblboonkfhaaGreatS20
import Derived.Test.YtcbkblboonkfhaaGreatS12
import Derived.Test.YtcbkblboonkfhaaGreatS13
import Derived.Test.YtcbkblboonkfhaaGreatS09
set_option linter.unusedSimpArgs false
set_option linter.unusedVariables false
set_option maxRecDepth 100000
set_option maxHeartbeats 4000000

section
namespace Go.Proofs.YtcbkblboonkfhaaGreat
open Go Go.Hm Go.Proofs
abbrev qsRb0 : Sch := .q 0 <| .q 1 <| .q 2 <| .q 3 <| .q 4 <| .q 5 <| .q 6 <| .q 7 <| .q 8 <| .l 9 [7, 6, 4, 3, 2, 1, 0] <| .l 10 [7, 6, 3, 2, 1, 0] <| .l 11 [7, 6, 3, 2, 1] <| .l 12 [] <| .done
abbrev qsRb1 : Sch := .q 1 <| .q 2 <| .q 3 <| .q 5 <| .q 6 <| .q 7 <| .q 8 <| .q 9 <| .q 12 <| .l 0 [12, 9, 8, 7, 6, 5, 3, 2, 1] <| .l 4 [12, 9, 8, 7, 6, 5, 2, 1] <| .l 10 [12, 8, 7, 2, 1] <| .l 11 [12, 8, 7, 2, 1] <| .l 13 [8, 7, 2, 1] <| .l 14 [] <| .done
attribute [local simp] slcAV rowsIn
theorem ins_norm {l L2 : List Stm} {A : Nat} (h : A ≤ l.length) : List.take (A + L2.length) (List.take A (List.take A l) ++ L2) ++ List.take (l.length - A) (List.take (l.length - A) (List.drop A l)) = List.take A l ++ (L2 ++ List.drop A l) := by
  have e1 : List.take A (List.take A l) = List.take A l := by rw [List.take_take, Nat.min_self]
  have e2 : List.take (A + L2.length) (List.take A l ++ L2) = List.take A l ++ L2 := List.take_of_length_le (by simp; omega)
  have e3 : List.take (l.length - A) (List.drop A l) = List.drop A l := List.take_of_length_le (by simp)
  rw [e1, e2, e3, e3, List.append_assoc]
theorem shapedProgram_fn (gl) (H : Nm → Option AO) (bs : List Int) (pos : Nat) (hb : BytesOk bs) (hpos : pos ≤ 700000) (hH : H (.u 1 0 0) = some (rdO bs pos)) (hV : H (.u 2 0 0) = none) (hV4 : H (.u 4 0 0) = none) (hV5 : H (.u 5 0 0) = none) :
    FnE Tryz.prog gl 108 (Nm.under (.u 1 0 0)) [.pt (.u 1 0 0) 0] H (PrgPost bs (fun p pos' => GenP p ∧ pos' ≤ pos + 1000)) noE := by
  refine FnE.of_sem Tryz.func108 rfl (by kernel_rfl) (rs := [.cell 2 29]) rfl Tryz.ntmps108 (Nat.le_of_ble_eq_true rfl) (fun _ => under_usroot rfl) fun C w g root hroot => ?_
  have hr0 := hroot root (Nm.under_self _)
  have fx := fx0
  refine k_run ?_
  repeat ((first | refine wSc (id := 5) qsRb0 mixed ?_ | refine wSc (id := 12) qsRb1 mixed ?_); refine k_rund ?_; refine k_run ?_)
  clear fx
  first | show SemOp _ _ _ _ _ | intro K hK
  refine x_rdo (bs := bs) (hs := by simp [hH]) (ha := by first | (simp; done) | (simp; rfl)) (hF := someBlock_fn _ _ bs pos 0 (-1) hb (by omega) (by simp [hH]) (by simp)) (h := ?_)
  rintro z H1 ⟨k0, p0, rfl, hk2, hk3, ⟨hkk, hkpar, hkp, hkb, hp0⟩, hU⟩
  refine ⟨p0, hU, ?_⟩
  have fx := fx0
  refine k_run ?_
  repeat ((first | refine wSc (id := 5) qsRb0 mixed ?_ | refine wSc (id := 12) qsRb1 mixed ?_); refine k_rund ?_; refine k_run ?_)
  clear fx
  first | show SemOp _ _ _ _ _ | intro K hK
  refine o_mv (.c (.s 11) 0 2) (.c (.c (.s 3) 0 0) 0 2) (.inl rfl) (.inl rfl) ?_
  refine o_mv (.c (.s 11) 0 3) (.c (.c (.s 3) 0 0) 0 3) (.inl rfl) (.inl rfl) ?_
  refine o_abs (fun st => st.tm 0 = .pt (.u 1 0 0) 0 ∧ st.hp (.u 1 0 0) = some (rdO bs p0) ∧ st.tm 2 = .pt (.s 2) 0 ∧ st.hp (.s 2) = some (.row 1 [[.hs (.c (.s 2) 0 0) 4 0 0]]) ∧ st.hp (.c (.s 2) 0 0) = some (.row 4 []) ∧ st.tm 3 = .pt (.s 3) 0 ∧ st.hp (.s 3) = some (.row 1 [[.hs (.c (.s 3) 0 0) 4 0 1]]) ∧ OwnP st.hp (.c (.s 3) 0 0) [k0] ∧
    st.tm 14 = .pt (.u 1 0 0) 0 ∧ st.tm 15 = .hs (.s 15) 1 0 6 ∧ st.hp (.s 15) = some (.row 1 (irows [3, 2, 4, 1, 5, 0]))) ⟨by simp, by simp, by simp, by simp, by simp, by simp, by simp, ⟨by simp [pRows], fun j k hk => ?_, fun j k hk => ?_⟩, by simp, by simp, by simp [irows]⟩ ?_
  · cases j with
    | zero => simp at hk; subst hk; simp [hk2]
    | succ j => simp at hk
  · cases j with
    | zero => simp at hk; subst hk; simp [hk3]
    | succ j => simp at hk
  clear hU hk2 hk3
  rintro st ⟨h0, hU, h2, hp2, hp2', h3, hp3, ⟨ho1, ho2, ho3⟩, h14, h15, hp15⟩
  refine x_one (oneOk _) 15 [3, 2, 4, 1, 5, 0] (bs := bs) (pos := p0) hb (by omega) (hV := hV) (h0 := h14) (h1 := by simp [h15]) (hH := hU) (hL := by simp [hp15]) (h := ?_)
  intro v hv
  have hvr : 0 ≤ v ∧ v ≤ 5 := by simp at hv; omega
  obtain ⟨V, rfl⟩ : ∃ V : Nat, v = V := ⟨v.toNat, by omega⟩
  have fx := fx0
  refine k_run ?_
  repeat ((first | refine wSc (id := 5) qsRb0 mixed ?_ | refine wSc (id := 12) qsRb1 mixed ?_); refine k_rund ?_; refine k_run ?_)
  clear fx
  refine w_loop (fun n st => ∃ (p : Prg) (q : Nat), n + p.length ≤ 6 ∧ GenP p ∧ q + 100 * n ≤ pos + 700 ∧ st.tm 0 = .pt (.u 1 0 0) 0 ∧ st.hp (.u 1 0 0) = some (rdO bs q) ∧ st.tm 2 = .pt (.s 2) 0 ∧ st.hp (.s 2) = some (.row 1 [[.hs (.c (.s 2) 0 0) 4 0 0]]) ∧ st.hp (.c (.s 2) 0 0) = some (.row 4 []) ∧ st.tm 3 = .pt (.s 3) 0 ∧ st.hp (.s 3) = some (.row 1 [[.hs (.c (.s 3) 0 0) 4 0 p.length]]) ∧ st.tm 4 = iv n ∧ OwnP st.hp (.c (.s 3) 0 0) p) V ?_ ?_
  · exact ⟨[k0], p0 + 1, by simp; omega, GenP.one hkpar (by omega) (by omega), by omega, by simp [h0], by simp, by simp [h2], by simp [hp2], by simp [hp2'], by simp [h3], by simp [hp3], by simp, ⟨by simp [ho1], fun j r hj => by simp [ho2 j r hj], fun j r hj => by simp [ho3 j r hj]⟩⟩
  clear h0 hU h2 hp2 hp2' h3 hp3 ho1 ho2 ho3 h14 h15 hp15
  rintro n st - - ⟨p, q, hn, hg, hq, h0, hU, h2, hp2, hp2', h3, hp3, h4, ⟨ho1, ho2, ho3⟩⟩
  have hgl := hg.len
  rcases Nat.eq_zero_or_pos n with rfl | hn0
  · skip
    have fx := And.intro h4 <| And.intro h2 <| And.intro hp2 <| And.intro hp2' <| And.intro h3 <| hp3
    refine k_run ?_
    repeat ((first | refine wSc (id := 5) qsRb0 mixed ?_ | refine wSc (id := 12) qsRb1 mixed ?_); refine k_rund ?_; refine k_run ?_)
    clear fx
    refine e_ret [(.c (.s 3) 0 0, root)] (.one rfl) (by simp [h2]; rfl) ⟨p, q, by simp, ⟨?_, fun j r hj => ?_, fun j r hj => ?_⟩, ⟨hg, by omega⟩, by simp [hU]⟩
    · simp [ho1, hr0, pRows_tr (n := .c (.s 3) 0 0) (m := root) (f := finf (Nm.under (.u 1 0 0)) [(.c (.s 3) 0 0, root)]) (p := p) (by simp [hr0])]
    · simp [ho2 j r hj, hr0]
    · simp [ho3 j r hj, hr0]
  have hl1 : 0 < p.length := by omega
  have hwl : IntKind.i64.wrap ((p.length : Int) - 1) = ((p.length - 1 : Nat) : Int) := by rw [wrp (by omega) (by omega)]; omega
  have fx := And.intro h0 <| And.intro h3 <| And.intro hp3 <| And.intro h4 <| And.intro hn0 <| hwl
  refine k_run ?_
  repeat ((first | refine wSc (id := 5) qsRb0 mixed ?_ | refine wSc (id := 12) qsRb1 mixed ?_); refine k_rund ?_; refine k_run ?_)
  clear fx
  first | show SemOp _ _ _ _ _ | intro K hK
  refine x_rd (hs := by simp [hU]) (ha := by first | (simp [h0]; done) | (simp [h0]; rfl)) (hF := pick_rd _ _ bs q p.length hb (by omega) (by omega) (by simp [hU])) (h := ?_)
  rintro x px ⟨hx, rfl⟩
  have hxl : x < p.length := by omega
  have fx := And.intro h0 <| And.intro h3 <| And.intro hp3 <| hwl
  refine k_run ?_
  repeat ((first | refine wSc (id := 5) qsRb0 mixed ?_ | refine wSc (id := 12) qsRb1 mixed ?_); refine k_rund ?_; refine k_run ?_)
  clear fx
  first | show SemOp _ _ _ _ _ | intro K hK
  refine x_one (oneOk _) 31 [((p.length - 1 : Nat) : Int), (x : Int)] (bs := bs) (pos := q + 1) hb (by omega) (hV := hV) (h0 := by simp [h0]) (h1 := by simp) (hH := by simp) (hL := by simp [irows]) (h := ?_)
  intro par hpar
  obtain ⟨par, rfl, hparl⟩ : ∃ r : Nat, par = r ∧ r < p.length := by
    simp at hpar
    rcases hpar with rfl | rfl
    · exact ⟨_, rfl, by omega⟩
    · exact ⟨_, rfl, hxl⟩
  clear hpar hx
  have fx := And.intro h0 <| And.intro h3 <| And.intro hp3 <| hwl
  refine k_run ?_
  repeat ((first | refine wSc (id := 5) qsRb0 mixed ?_ | refine wSc (id := 12) qsRb1 mixed ?_); refine k_rund ?_; refine k_run ?_)
  clear fx
  first | show SemOp _ _ _ _ _ | intro K hK
  refine x_one (oneOk _) 35 [1, 1, 1, 2] (bs := bs) (pos := q + 1 + 1) hb (by omega) (hV := hV) (h0 := by simp [h0]) (h1 := by simp) (hH := by simp) (hL := by simp [irows]) (h := ?_)
  intro kd hkd
  have fx := And.intro h0 <| And.intro h3 <| And.intro hp3 <| hwl
  refine k_run ?_
  repeat ((first | refine wSc (id := 5) qsRb0 mixed ?_ | refine wSc (id := 12) qsRb1 mixed ?_); refine k_rund ?_; refine k_run ?_)
  clear fx
  first | show SemOp _ _ _ _ _ | intro K hK
  refine x_rdo (bs := bs) (hs := by simp) (ha := by first | (simp [h0]; done) | (simp [h0]; rfl)) (hF := someBlock_fn _ _ bs (q + 1 + 1 + 1) kd par hb (by omega) (by simp) (by simp)) (h := ?_)
  rintro z H1 ⟨k1, q1, rfl, hk2, hk3, ⟨hkk1, hkpar1, hkp1, hkb1, hq1⟩, hU1⟩
  refine ⟨q1, hU1, ?_⟩
  obtain ⟨kp, hkp'⟩ : ∃ k, p[par]? = some k := ⟨_, gE hparl⟩
  obtain ⟨_, hkpE⟩ := gS hkp'
  have hbb : kp.body.length ≤ 14 := hg.body kp (List.mem_of_getElem? hkp')
  have hwk : IntKind.i64.wrap ((kp.body.length : Int) + 1) = ((kp.body.length + 1 : Nat) : Int) := by rw [wrp (by omega) (by omega)]; omega
  have fx := And.intro h0 <| And.intro h3 <| And.intro hp3 <| And.intro ho1 <| And.intro hkp' <| And.intro hkpE <| And.intro hparl <| hwk
  refine k_run ?_
  repeat ((first | refine wSc (id := 5) qsRb0 mixed ?_ | refine wSc (id := 12) qsRb1 mixed ?_); refine k_rund ?_; refine k_run ?_)
  clear fx
  first | show SemOp _ _ _ _ _ | intro K hK
  refine o_abs (fun st => st.tm 0 = .pt (.u 1 0 0) 0 ∧ st.hp (.u 1 0 0) = some (rdO bs q1) ∧ st.tm 2 = .pt (.s 2) 0 ∧ st.hp (.s 2) = some (.row 1 [[.hs (.c (.s 2) 0 0) 4 0 0]]) ∧ st.hp (.c (.s 2) 0 0) = some (.row 4 []) ∧ st.tm 3 = .pt (.s 3) 0 ∧ st.hp (.s 3) = some (.row 1 [[.hs (.c (.s 3) 0 0) 4 0 p.length]]) ∧ st.tm 4 = iv n ∧ OwnP st.hp (.c (.s 3) 0 0) p ∧ st.tm 5 = iv par ∧ st.tm 6 = .pt (.s 6) 0 ∧ st.hp (.s 6) = some (.row 4 [[iv k1.kind, iv k1.parent, .hs (.c (.s 38) 0 2) 1 0 k1.params.length, .hs (.c (.s 38) 0 3) 4 0 k1.body.length]]) ∧ st.hp (.c (.s 38) 0 2) = some (.row 1 (irows k1.params)) ∧ st.hp (.c (.s 38) 0 3) = some (.row 4 (srows k1.body)) ∧
    st.tm 7 = .hs (.c (.c (.s 3) 0 0) par 3) 4 0 kp.body.length ∧ st.tm 45 = .pt (.u 1 0 0) 0 ∧ st.tm 48 = iv ((kp.body.length + 1 : Nat) : Int)) ⟨by simp [h0], by simp, by simp [h2], by simp [hp2], by simp [hp2'], by simp [h3], by simp [hp3], by simp [h4], ⟨by simp [ho1], fun j r hj => by simp [ho2 j r hj], fun j r hj => by simp [ho3 j r hj]⟩, by simp, by simp, by simp, by simp [hk2], by simp [hk3], by simp, by simp [h0], by simp⟩ ?_
  clear h0 hU h2 hp2 hp2' h3 hp3 h4 ho1 ho2 ho3 hU1 hk2 hk3
  rintro st ⟨h0, hU, h2, hp2, hp2', h3, hp3, h4, ⟨ho1, ho2, ho3⟩, h5, h6, hp6, hp62, hp63, h7, h45, h48⟩
  have hob := ho3 par kp hkp'
  refine x_rd (hs := by simp [hU]) (ha := by first | (simp [h45, h48]; done) | (simp [h45, h48]; rfl)) (hF := pick_rd _ _ bs q1 (kp.body.length + 1) hb (by omega) (by omega) (by simp [hU])) (h := ?_)
  rintro at0 px ⟨hx, rfl⟩
  have hat : at0 ≤ kp.body.length := by omega
  clear hx
  have hV4' : (ctx0 Tryz.prog C w g H Tryz.f108.ntmps gl).ext (.u 4 0 0) = false := by simp [ctx0, hV4]
  have hV5' : (ctx0 Tryz.prog C w g H Tryz.f108.ntmps gl).ext (.u 5 0 0) = false := by simp [ctx0, hV5]
  have hbr : at0 = 0 ∨ 0 < at0 := Nat.eq_zero_or_pos at0
  rcases hbr with rfl | hat0
  case' inl =>
    have fx := And.intro h0 <| And.intro h3 <| And.intro hp3 <| And.intro h5 <| And.intro h6 <| And.intro hp6 <| And.intro h7 <| hob
    refine k_run ?_
    repeat ((first | refine wSc (id := 5) qsRb0 mixed ?_ | refine wSc (id := 12) qsRb1 mixed ?_); refine k_rund ?_; refine k_run ?_)
    clear fx
    first | show SemOp _ _ _ _ _ | intro K hK
    refine o_alias (.c (.s 38) 0 2) (.u 4 0 0) 74 hV4' ?_
    refine o_alias (.c (.s 38) 0 3) (.u 5 0 0) 74 hV5' ?_
    refine x_rdo (bs := bs) (hs := by simp [hU]) (ha := by first | (simp [h0]; done) | (simp [h0]; rfl)) (hF := making_fn _ _ bs (q1 + 1) k1.kind k1.parent p.length k1.params.length k1.body.length hb (by omega) (by simp [hU]) (by simp)) (h := ?_)
    rintro y H2 ⟨L2, q2, rfl, hL2, ⟨hL2l, hq2⟩, hU2⟩
    refine ⟨q2, hU2, ?_⟩
    have fx := And.intro h0 <| And.intro h3 <| And.intro hp3 <| And.intro h5 <| And.intro h6 <| And.intro hp6 <| And.intro h7 <| And.intro hob <| hL2
    refine k_run ?_
    repeat ((first | refine wSc (id := 5) qsRb0 mixed ?_ | refine wSc (id := 12) qsRb1 mixed ?_); refine k_rund ?_; refine k_run ?_)
    clear fx
    refine w_abs (fun st => ∃ (X : List Stm) (q2 : Nat), X.length ≤ 16 ∧ q2 ≤ q1 + 6 ∧ st.tm 0 = .pt (.u 1 0 0) 0 ∧ st.hp (.u 1 0 0) = some (rdO bs q2) ∧ st.tm 2 = .pt (.s 2) 0 ∧ st.hp (.s 2) = some (.row 1 [[.hs (.c (.s 2) 0 0) 4 0 0]]) ∧ st.hp (.c (.s 2) 0 0) = some (.row 4 []) ∧ st.tm 3 = .pt (.s 3) 0 ∧ st.hp (.s 3) = some (.row 1 [[.hs (.c (.s 3) 0 0) 4 0 p.length]]) ∧ st.tm 4 = iv n ∧ OwnP st.hp (.c (.s 3) 0 0) p ∧ st.tm 5 = iv par ∧ st.tm 6 = .pt (.s 6) 0 ∧ st.hp (.s 6) = some (.row 4 [[iv k1.kind, iv k1.parent, .hs (.c (.s 38) 0 2) 1 0 k1.params.length, .hs (.c (.s 38) 0 3) 4 0 k1.body.length]]) ∧ st.hp (.c (.s 38) 0 2) = some (.row 1 (irows k1.params)) ∧ st.hp (.c (.s 38) 0 3) = some (.row 4 (srows k1.body)) ∧
    st.tm 7 = .hs (.s 7) 4 0 X.length ∧ st.hp (.s 7) = some (.row 4 (srows X)) ∧ st.tm 84 = bv (decide (X.length ≤ 12))) ⟨(kp.body.take (0) ++ L2 ++ kp.body.drop (0)), q2, by simp; omega, by omega, by simp [h0], by simp, by simp [h2], by simp [hp2], by simp [hp2'], by simp [h3], by simp [hp3], by simp [h4], ⟨by simp [ho1], fun j r hj => by simp [ho2 j r hj], fun j r hj => by simp [ho3 j r hj]⟩, by simp [h5], by simp [h6], by simp [hp6], by simp [hp62], by simp [hp63], by simp; try omega, by first | (simp; done) | (simp; rw [ins_norm (by omega)]), by simp; try omega⟩ ?_
    clear hU2 hL2
  case' inr =>
    obtain ⟨s1, hs1⟩ : ∃ s1, kp.body[at0 - 1]? = some s1 := ⟨_, gE (by omega)⟩
    obtain ⟨hs1l, hs1E⟩ := gS hs1
    have hwa : IntKind.i64.wrap ((at0 : Int) - 1) = ((at0 - 1 : Nat) : Int) := by rw [wrp (by omega) (by omega)]; omega
    have hle1 : at0 - 1 ≤ kp.body.length := by omega
    rcases (by cases hk : (s1.kind == 8) <;> simp : (s1.kind == 8) = false ∨ (s1.kind == 8) = true) with hk8 | hk8
    case' inl =>
      have fx := And.intro h0 <| And.intro h3 <| And.intro hp3 <| And.intro h5 <| And.intro h6 <| And.intro hp6 <| And.intro h7 <| And.intro hob <| And.intro hat0 <| And.intro hs1 <| And.intro hs1E <| And.intro hs1l <| And.intro hwa <| And.intro hat <| hk8
      refine k_run ?_
      repeat ((first | refine wSc (id := 5) qsRb0 mixed ?_ | refine wSc (id := 12) qsRb1 mixed ?_); refine k_rund ?_; refine k_run ?_)
      clear fx
      first | show SemOp _ _ _ _ _ | intro K hK
      refine o_alias (.c (.s 38) 0 2) (.u 4 0 0) 74 hV4' ?_
      refine o_alias (.c (.s 38) 0 3) (.u 5 0 0) 74 hV5' ?_
      refine x_rdo (bs := bs) (hs := by simp [hU]) (ha := by first | (simp [h0]; done) | (simp [h0]; rfl)) (hF := making_fn _ _ bs (q1 + 1) k1.kind k1.parent p.length k1.params.length k1.body.length hb (by omega) (by simp [hU]) (by simp)) (h := ?_)
      rintro y H2 ⟨L2, q2, rfl, hL2, ⟨hL2l, hq2⟩, hU2⟩
      refine ⟨q2, hU2, ?_⟩
      have fx := And.intro h0 <| And.intro h3 <| And.intro hp3 <| And.intro h5 <| And.intro h6 <| And.intro hp6 <| And.intro h7 <| And.intro hob <| hL2
      refine k_run ?_
      repeat ((first | refine wSc (id := 5) qsRb0 mixed ?_ | refine wSc (id := 12) qsRb1 mixed ?_); refine k_rund ?_; refine k_run ?_)
      clear fx
      refine w_abs (fun st => ∃ (X : List Stm) (q2 : Nat), X.length ≤ 16 ∧ q2 ≤ q1 + 6 ∧ st.tm 0 = .pt (.u 1 0 0) 0 ∧ st.hp (.u 1 0 0) = some (rdO bs q2) ∧ st.tm 2 = .pt (.s 2) 0 ∧ st.hp (.s 2) = some (.row 1 [[.hs (.c (.s 2) 0 0) 4 0 0]]) ∧ st.hp (.c (.s 2) 0 0) = some (.row 4 []) ∧ st.tm 3 = .pt (.s 3) 0 ∧ st.hp (.s 3) = some (.row 1 [[.hs (.c (.s 3) 0 0) 4 0 p.length]]) ∧ st.tm 4 = iv n ∧ OwnP st.hp (.c (.s 3) 0 0) p ∧ st.tm 5 = iv par ∧ st.tm 6 = .pt (.s 6) 0 ∧ st.hp (.s 6) = some (.row 4 [[iv k1.kind, iv k1.parent, .hs (.c (.s 38) 0 2) 1 0 k1.params.length, .hs (.c (.s 38) 0 3) 4 0 k1.body.length]]) ∧ st.hp (.c (.s 38) 0 2) = some (.row 1 (irows k1.params)) ∧ st.hp (.c (.s 38) 0 3) = some (.row 4 (srows k1.body)) ∧
    st.tm 7 = .hs (.s 7) 4 0 X.length ∧ st.hp (.s 7) = some (.row 4 (srows X)) ∧ st.tm 84 = bv (decide (X.length ≤ 12))) ⟨(kp.body.take (at0) ++ L2 ++ kp.body.drop (at0)), q2, by simp; omega, by omega, by simp [h0], by simp, by simp [h2], by simp [hp2], by simp [hp2'], by simp [h3], by simp [hp3], by simp [h4], ⟨by simp [ho1], fun j r hj => by simp [ho2 j r hj], fun j r hj => by simp [ho3 j r hj]⟩, by simp [h5], by simp [h6], by simp [hp6], by simp [hp62], by simp [hp63], by simp; try omega, by first | (simp; done) | (simp; rw [ins_norm (by omega)]), by simp; try omega⟩ ?_
      clear hU2 hL2
    case' inr =>
      have fx := And.intro h0 <| And.intro h3 <| And.intro hp3 <| And.intro h5 <| And.intro h6 <| And.intro hp6 <| And.intro h7 <| And.intro hob <| And.intro hat0 <| And.intro hs1 <| And.intro hs1E <| And.intro hs1l <| And.intro hwa <| And.intro hle1 <| hk8
      refine k_run ?_
      repeat ((first | refine wSc (id := 5) qsRb0 mixed ?_ | refine wSc (id := 12) qsRb1 mixed ?_); refine k_rund ?_; refine k_run ?_)
      clear fx
      first | show SemOp _ _ _ _ _ | intro K hK
      refine o_alias (.c (.s 38) 0 2) (.u 4 0 0) 74 hV4' ?_
      refine o_alias (.c (.s 38) 0 3) (.u 5 0 0) 74 hV5' ?_
      refine x_rdo (bs := bs) (hs := by simp [hU]) (ha := by first | (simp [h0]; done) | (simp [h0]; rfl)) (hF := making_fn _ _ bs (q1 + 1) k1.kind k1.parent p.length k1.params.length k1.body.length hb (by omega) (by simp [hU]) (by simp)) (h := ?_)
      rintro y H2 ⟨L2, q2, rfl, hL2, ⟨hL2l, hq2⟩, hU2⟩
      refine ⟨q2, hU2, ?_⟩
      have fx := And.intro h0 <| And.intro h3 <| And.intro hp3 <| And.intro h5 <| And.intro h6 <| And.intro hp6 <| And.intro h7 <| And.intro hob <| hL2
      refine k_run ?_
      repeat ((first | refine wSc (id := 5) qsRb0 mixed ?_ | refine wSc (id := 12) qsRb1 mixed ?_); refine k_rund ?_; refine k_run ?_)
      clear fx
      refine w_abs (fun st => ∃ (X : List Stm) (q2 : Nat), X.length ≤ 16 ∧ q2 ≤ q1 + 6 ∧ st.tm 0 = .pt (.u 1 0 0) 0 ∧ st.hp (.u 1 0 0) = some (rdO bs q2) ∧ st.tm 2 = .pt (.s 2) 0 ∧ st.hp (.s 2) = some (.row 1 [[.hs (.c (.s 2) 0 0) 4 0 0]]) ∧ st.hp (.c (.s 2) 0 0) = some (.row 4 []) ∧ st.tm 3 = .pt (.s 3) 0 ∧ st.hp (.s 3) = some (.row 1 [[.hs (.c (.s 3) 0 0) 4 0 p.length]]) ∧ st.tm 4 = iv n ∧ OwnP st.hp (.c (.s 3) 0 0) p ∧ st.tm 5 = iv par ∧ st.tm 6 = .pt (.s 6) 0 ∧ st.hp (.s 6) = some (.row 4 [[iv k1.kind, iv k1.parent, .hs (.c (.s 38) 0 2) 1 0 k1.params.length, .hs (.c (.s 38) 0 3) 4 0 k1.body.length]]) ∧ st.hp (.c (.s 38) 0 2) = some (.row 1 (irows k1.params)) ∧ st.hp (.c (.s 38) 0 3) = some (.row 4 (srows k1.body)) ∧
    st.tm 7 = .hs (.s 7) 4 0 X.length ∧ st.hp (.s 7) = some (.row 4 (srows X)) ∧ st.tm 84 = bv (decide (X.length ≤ 12))) ⟨(kp.body.take (at0 - 1) ++ L2 ++ kp.body.drop (at0 - 1)), q2, by simp; omega, by omega, by simp [h0], by simp, by simp [h2], by simp [hp2], by simp [hp2'], by simp [h3], by simp [hp3], by simp [h4], ⟨by simp [ho1], fun j r hj => by simp [ho2 j r hj], fun j r hj => by simp [ho3 j r hj]⟩, by simp [h5], by simp [h6], by simp [hp6], by simp [hp62], by simp [hp63], by simp; try omega, by first | (simp; done) | (simp; rw [ins_norm (by omega)]), by simp; try omega⟩ ?_
      clear hU2 hL2
  all_goals
    rintro st ⟨X, q2, hXl, hq2, h0, hU, h2, hp2, hp2', h3, hp3, h4, ⟨ho1, ho2, ho3⟩, h5, h6, hp6, hp62, hp63, h7, hp7, h84⟩
    have hwn : IntKind.i64.wrap ((n : Int) - 1) = ((n - 1 : Nat) : Int) := by rw [wrp (by omega) (by omega)]; omega
    by_cases hx12 : X.length ≤ 12
    · have hset := pRows_set (n := .c (.s 3) 0 0) (a := 7) (i := par) (len := X.length) (p := p) (L := X) rfl (by simp) (by simp)
      have hsl : (setBody p par X).length = p.length := setBody_len
      have fx := And.intro h0 <| And.intro h3 <| And.intro hp3 <| And.intro h4 <| And.intro h5 <| And.intro h6 <| And.intro hp6 <| And.intro h7 <| And.intro hp7 <| And.intro h84 <| And.intro ho1 <| And.intro hkp' <| And.intro hkpE <| And.intro hparl <| And.intro hx12 <| And.intro hset <| And.intro hsl <| hwn
      refine k_run ?_
      repeat ((first | refine wSc (id := 5) qsRb0 mixed ?_ | refine wSc (id := 12) qsRb1 mixed ?_); refine k_rund ?_; refine k_run ?_)
      clear fx
      have hg' : GenP (setBody p par X ++ [k1]) := (hg.setBody (by omega)).add (by rw [hsl]; omega) (by rw [hkpar1, hsl]; omega) (by omega) (by omega)
      refine ⟨n - 1, by omega, setBody p par X ++ [k1], q2, by simp; omega, hg', by omega, by simp [h0], by simp [hU], by simp [h2], by simp [hp2], by simp [hp2'], by simp [h3], by simp, by simp, ⟨?_, fun d r hd => ?_, fun d r hd => ?_⟩⟩
      · rw [pRows_app]
        simp
        exact List.take_of_length_le (by simp)
      all_goals
        rw [List.getElem?_append] at hd
        split at hd
        · rename_i hdl
          have hdp : d < p.length := by rwa [hsl] at hdl
          obtain ⟨r0, hr0'⟩ : ∃ r0, p[d]? = some r0 := ⟨_, gE hdp⟩
          rw [setBody_get hr0'] at hd
          obtain rfl := Option.some.inj hd
          have hdn : ¬ p.length = d := by omega
          have hdn' : ¬ d = p.length := by omega
          by_cases hpd : par = d
          · subst hpd
            simp [ho2 par r0 hr0', hp7, hdn, hdn']
          · simp [ho2 d r0 hr0', ho3 d r0 hr0', hpd, show ¬ d = par from fun e => hpd e.symm, hdn, hdn']
        · rename_i hdl
          have hde : d = p.length := by
            have h1 := (gS hd).1
            simp at h1
            omega
          subst hde
          rw [hsl, Nat.sub_self] at hd
          simp at hd
          subst hd
          simp [hp62, hp63]
    · skip
      have fx := And.intro h4 <| And.intro h84 <| And.intro hx12 <| hwn
      refine k_run ?_
      repeat ((first | refine wSc (id := 5) qsRb0 mixed ?_ | refine wSc (id := 12) qsRb1 mixed ?_); refine k_rund ?_; refine k_run ?_)
      clear fx
      exact ⟨n - 1, by omega, p, q2, by omega, hg, by omega, by simp [h0], by simp [hU], by simp [h2], by simp [hp2], by simp [hp2'], by simp [h3], by simp [hp3], by simp, ⟨by simp [ho1], fun j r hj => by simp [ho2 j r hj], fun j r hj => by simp [ho3 j r hj]⟩⟩
end Go.Proofs.YtcbkblboonkfhaaGreat
end
section
namespace Go.Proofs.YtcbkblboonkfhaaGreat
open Go Go.Hm Go.Proofs
theorem bound_fn (gl) (p : Prg) (b : Nat) (k : Blk) (hk : p[b]? = some k) (hs : BSm k) : FnOk Tryz.prog gl 121 [pav p, iv b] (fun r y H' => y = .hs r 1 0 k.bd.length ∧ H' r = some (.row 1 (irows k.bd))) := by
  obtain ⟨hl1, hl2⟩ := hs
  refine FnOk.of_sem Tryz.func121 rfl (by kernel_rfl) (rs := [.tmp 4]) rfl Tryz.ntmps121 (Nat.le_of_ble_eq_true rfl) fun C w g root => ?_
  have fx :=  hk
  have d1 := copyInts_fn gl k.params (by omega)
  refine k_run ?_
  clear fx d1
  refine w_loop (fun n st => ∃ i : Nat, n = k.body.length - i ∧ i ≤ k.body.length ∧ st.tm 1 = iv b ∧ st.tm 2 = .pt (.s 2) 0 ∧ st.hp (.s 2) = some (.row 1 [[ksl p]]) ∧ st.tm 6 = iv i ∧ ∃ xs : List Int, xs = k.params ++ ((k.body.take i).filter (fun s => decide (s.sets ∨ s.kind = 11))).map Stm.to ∧ xs.length ≤ k.params.length + i ∧ st.tm 5 = .hs (.s 5) 1 0 xs.length ∧ st.hp (.s 5) = some (.row 1 (irows xs))) k.body.length ?_ ?_
  · exact ⟨0, by simp⟩
  rintro n st - - ⟨i, rfl, hi, h1, h2, hp2, h6, xs, hxs, hxl, h5, hp5⟩
  have fx := And.intro h1 <| And.intro h2 <| And.intro hp2 <| And.intro h6 <| And.intro h5 <| And.intro hp5 <| hk
  refine k_run ?_
  clear fx
  refine w_if (by simp []; first | done | rfl | exact (Bool.not_not _).symm) (fun ht => ?_) (fun hf => ?_)
  · have hlt : i < k.body.length := by simpa using ht
    obtain ⟨s, hs⟩ : ∃ s, k.body[i]? = some s := ⟨_, gE hlt⟩
    by_cases hc : s.sets <;> cases h11 : (s.kind == 11)
    all_goals have fx := And.intro h1 <| And.intro h2 <| And.intro hp2 <| And.intro h6 <| And.intro h5 <| And.intro hp5 <| And.intro hk <| And.intro hs <| And.intro hc <| h11
    repeat' (first
     | refine w_seq ?_ | refine w_block ?_ | refine w_skip ?_ | refine w_reg fun K hK => ?_
     | ((with_reducible refine s_end hK ?_); clear hK K)
     | (with_reducible first | refine then_normal ?_ | refine in_normal ?_ | refine then_exit ?_ | refine in_exit ?_ | refine then_ret ?_ | refine in_ret ?_ | refine in_other (by decide) ?_)
     | refine w_exit ?_
     | refine w_ret ?_
     | (with_reducible refine s_none ?_)
     | ((with_reducible refine g_id ?_); refine x_guard (h := ?_))
     | (with_reducible first | refine gx_tt ?_ | refine gx_ff ?_ | refine x_tf (h := ?_) | refine x_ft (h := ?_) | refine x_u (h := ?_) | refine x_assign (h := ?_) | refine x_box (h := ?_) | refine x_alloc (h := ?_) | refine x_store0 (h := ?_) | refine x_append0 (T := 41) (h := ?_) | refine x_append (T := 41) (h := ?_) | refine x_build (h := ?_))
     | ((with_reducible refine o_id 164 rfl ?_); refine x_call (hF := sets_fn _ s) (h := ?_))
     | (with_reducible refine x_q (h := ?_))
     | (with_reducible refine gx_s (fun ht => ?_) (fun ht => ?_))
     | refine x_condt (h1 := ?_) | refine x_condf (h1 := ?_)
     | fail)
    all_goals try clear fx
    all_goals refine ⟨k.body.length - (i + 1), by omega, i + 1, rfl, by omega, by simp [h1], by simp [h2], by simp [hp2], by simp; exact wrp (by omega) (by omega), _, rfl, ?_⟩
    all_goals simp at h11
    all_goals simp [take_succ_filter hs, hc, h11, h5, hp5, hxs]
    all_goals (rw [hxs] at hxl; simp at hxl; omega)
  · have h8 : i = k.body.length := by
      have : ¬ i < k.body.length := by simpa using hf
      omega
    subst h8
    have hb : boundAll k = xs := by rw [hxs]; simp [boundAll]
    have fx := And.intro h1 <| And.intro h2 <| And.intro hp2 <| And.intro h6 <| And.intro h5 <| And.intro hp5 <| hk
    have d1 := sorted_fn gl xs (by omega)
    refine k_run ?_
    clear fx d1
    rw [← hb]
    exact e_list (t := 4) (by first | (simp []; done) | (simp []; rfl)) (by first | (simp []; done) | (simp []; rfl)) (by simp)
theorem declared_fn (gl) (p : Prg) (b : Nat) (k : Blk) (d : Int) (hk : p[b]? = some k) (hs : BSm k) : FnOk Tryz.prog gl 111 [pav p, iv b, iv d] (fun r y H' => y = .hs r 1 0 (k.dc d).length ∧ H' r = some (.row 1 (irows (k.dc d)))) := by
  obtain ⟨hl1, hl2⟩ := hs
  refine FnOk.of_sem Tryz.func111 rfl (by kernel_rfl) (rs := [.tmp 6]) rfl Tryz.ntmps111 (Nat.le_of_ble_eq_true rfl) fun C w g root => ?_
  have fx :=  hk
  refine k_run ?_
  clear fx
  refine w_loop (fun n st => ∃ i : Nat, n = k.body.length - i ∧ i ≤ k.body.length ∧ st.tm 1 = iv b ∧ st.tm 2 = iv d ∧ st.tm 3 = .pt (.s 3) 0 ∧ st.hp (.s 3) = some (.row 1 [[ksl p]]) ∧ st.tm 8 = iv i ∧ ∃ xs : List Int, xs = ((k.body.take i).filter (fun s => decide (s.kind = d))).map Stm.to ∧ xs.length ≤ i ∧ st.tm 7 = .hs (.s 7) 1 0 xs.length ∧ st.hp (.s 7) = some (.row 1 (irows xs))) k.body.length ?_ ?_
  · exact ⟨0, by simp⟩
  rintro n st - - ⟨i, rfl, hi, h1, h2, h3, hp3, h8, xs, hxs, hxl, h7, hp7⟩
  have fx := And.intro h1 <| And.intro h2 <| And.intro h3 <| And.intro hp3 <| And.intro h8 <| And.intro h7 <| And.intro hp7 <| hk
  refine k_run ?_
  clear fx
  refine w_if (by simp []; first | done | rfl | exact (Bool.not_not _).symm) (fun ht => ?_) (fun hf => ?_)
  · have hlt : i < k.body.length := by simpa using ht
    obtain ⟨s, hs⟩ : ∃ s, k.body[i]? = some s := ⟨_, gE hlt⟩
    cases hc : (s.kind == d)
    all_goals have fx := And.intro h1 <| And.intro h2 <| And.intro h3 <| And.intro hp3 <| And.intro h8 <| And.intro h7 <| And.intro hp7 <| And.intro hk <| And.intro hs <| hc
    repeat' (first
     | refine w_seq ?_ | refine w_block ?_ | refine w_skip ?_ | refine w_reg fun K hK => ?_
     | ((with_reducible refine s_end hK ?_); clear hK K)
     | (with_reducible first | refine then_normal ?_ | refine in_normal ?_ | refine then_exit ?_ | refine in_exit ?_ | refine then_ret ?_ | refine in_ret ?_ | refine in_other (by decide) ?_)
     | refine w_exit ?_
     | refine w_ret ?_
     | (with_reducible first | refine s_none ?_ | refine x_assign (h := ?_) | refine x_box (h := ?_) | refine x_append0 (T := 41) (h := ?_) | refine x_append (T := 41) (h := ?_) | refine x_build (h := ?_))
     | (with_reducible refine x_q (h := ?_))
     | refine x_condt (h1 := ?_) | refine x_condf (h1 := ?_)
     | fail)
    all_goals try clear fx
    all_goals refine ⟨k.body.length - (i + 1), by omega, i + 1, rfl, by omega, by simp [h1], by simp [h2], by simp [h3], by simp [hp3], by simp; exact wrp (by omega) (by omega), _, rfl, ?_⟩
    all_goals simp at hc
    all_goals simp [take_succ_filter hs, hc, h7, hp7, hxs]
    all_goals (rw [hxs] at hxl; simp at hxl; omega)
  · have h8 : i = k.body.length := by
      have : ¬ i < k.body.length := by simpa using hf
      omega
    subst h8
    have hb : declAll k d = xs := by rw [hxs]; simp [declAll]
    have fx := And.intro h1 <| And.intro h2 <| And.intro h3 <| And.intro hp3 <| And.intro h8 <| And.intro h7 <| And.intro hp7 <| hk
    have d1 := sorted_fn gl xs (by omega)
    refine k_run ?_
    clear fx d1
    simp only [Blk.dc, hb]
    exact e_list (t := 6) (by first | (simp []; done) | (simp []; rfl)) (by first | (simp []; done) | (simp []; rfl)) (by simp)
theorem isLocal_fn (gl) (p : Prg) (b : Nat) (k : Blk) (x : Int) (hk : p[b]? = some k) (hs : BSm k) : FnOk Tryz.prog gl 137 [pav p, iv b, iv x] (fun _ y _ => y = bv (isLocal b k x)) := by
  refine FnOk.of_sem Tryz.func137 rfl (by kernel_rfl) (rs := [.tmp 6]) rfl Tryz.ntmps137 (Nat.le_of_ble_eq_true rfl) fun C w g root => ?_
  all_goals have fx :=  hk
  repeat' (first
   | refine w_seq ?_ | refine w_reg fun K hK => ?_
   | ((with_reducible refine s_end hK ?_); clear hK K)
   | (with_reducible first | refine then_normal ?_)
   | refine w_ret ?_
   | (with_reducible refine s_none ?_)
   | ((with_reducible refine g_id ?_); refine x_guard (h := ?_))
   | (with_reducible first | refine gx_tt ?_ | refine x_tf (h := ?_) | refine x_assign (h := ?_) | refine x_box (h := ?_))
   | ((with_reducible refine o_id 121 rfl ?_); refine x_callh (hF := bound_fn _ p b k hk hs) (h := ?_))
   | ((with_reducible refine o_id 112 rfl ?_); refine x_call (hF := has_fn _ _ _ (by first | exact Nat.le_trans (Blk.bd_len _) (by decide) | exact Nat.le_trans (Blk.dc_len _ _) (by decide) | exact Nat.le_trans (Blk.rd_len _) (by decide))) (h := ?_))
   | ((with_reducible refine o_id 111 rfl ?_); refine x_callh (hF := declared_fn _ p b k _ hk hs) (h := ?_))
   | (with_reducible refine x_q (h := ?_))
   | (with_reducible refine gx_s (fun ht => ?_) (fun ht => ?_))
   | fail)
  all_goals try clear fx
  all_goals refine e_ret [] .nil (by simp; rfl) ?_
  all_goals simp_all [isLocal]
theorem outer_fn (gl) (p : Prg) (b : Nat) (k : Blk) (x : Int) (hk : p[b]? = some k) (hs : Sml p) (hh : Heads p) : FnOk Tryz.prog gl 113 [pav p, iv b, iv x] (fun _ y _ => y = iv (outer p b x)) := by
  refine FnOk.of_sem Tryz.func113 rfl (by kernel_rfl) (rs := [.tmp 6]) rfl Tryz.ntmps113 (Nat.le_of_ble_eq_true rfl) fun C w g root => ?_
  have fx :=  hk
  refine k_run ?_
  clear fx
  obtain ⟨hk1, hk2, _⟩ := hh b k hk
  have hbl : b < p.length := (gS hk).1
  refine w_loop (fun n st => ∃ j : Int, n = (j + 1).toNat ∧ -1 ≤ j ∧ j < p.length ∧ outerF p x p.length j = outer p b x ∧ st.tm 2 = iv x ∧ st.tm 3 = .pt (.s 3) 0 ∧ st.hp (.s 3) = some (.row 1 [[ksl p]]) ∧ st.tm 7 = iv j) (k.parent + 1).toNat ?_ ?_
  · exact ⟨k.parent, rfl, hk1, by omega, (outer_fuel hh hk).symm, by simp⟩
  rintro n st - - ⟨j, rfl, hj1, hj2, ho, h2, h3, hp3, h7⟩
  have fx := And.intro h2 <| And.intro h3 <| And.intro hp3 <| h7
  refine k_run ?_
  clear fx
  refine w_if (by simp []; first | done | rfl | exact (Bool.not_not _).symm) (fun ht => ?_) (fun hf => ?_)
  · have hj0 : 0 < j := by simpa using ht
    obtain ⟨j, rfl⟩ : ∃ i : Nat, j = i := ⟨j.toNat, by omega⟩
    have hj0 : 0 < j := by omega
    obtain ⟨q, hq⟩ : ∃ q, p[j]? = some q := ⟨_, gE (by omega)⟩
    rw [outerF_step hh hq hj0] at ho
    obtain ⟨hq1, hq2, hq3⟩ := hh j q hq
    cases hc : (q.kind == 1)
    · skip
      have fx := And.intro h2 <| And.intro h3 <| And.intro hp3 <| And.intro h7 <| And.intro hq <| And.intro hc <| @bne_def
      refine k_run ?_
      clear fx
      refine ⟨(q.parent + 1).toNat, by omega, q.parent, rfl, hq1, by omega, ?_, by simp [h2, h3, hp3]⟩
      rw [← ho, if_pos (by simpa using hc)]
    · rw [if_neg (by simpa using hc)] at ho
      all_goals have fx := And.intro h2 <| And.intro h3 <| And.intro hp3 <| And.intro h7 <| And.intro hq <| And.intro hc <| @bne_def
      repeat' (first
       | refine w_seq ?_ | refine w_block ?_ | refine w_skip ?_ | refine w_reg fun K hK => ?_
       | ((with_reducible refine s_end hK ?_); clear hK K)
       | (with_reducible first | refine then_normal ?_ | refine in_normal ?_ | refine then_exit ?_ | refine in_exit ?_ | refine then_ret ?_ | refine in_ret ?_ | refine in_other (by decide) ?_)
       | refine w_exit ?_
       | refine w_ret ?_
       | (with_reducible first | refine s_none ?_ | refine x_assign (h := ?_) | refine x_box (h := ?_))
       | ((with_reducible refine o_id 111 rfl ?_); refine x_callh (hF := declared_fn _ p j q _ hq (hs.bsm hq)) (h := ?_))
       | ((with_reducible refine o_id 112 rfl ?_); refine x_call (hF := has_fn _ _ _ (Nat.le_trans (Blk.dc_len _ _) (by decide))) (h := ?_))
       | (with_reducible refine x_q (h := ?_))
       | refine x_condt (h1 := ?_) | refine x_condf (h1 := ?_)
       | fail)
      all_goals try clear fx
      refine w_if (by simp []; first | done | rfl | exact (Bool.not_not _).symm) (fun ht => ?_) (fun hf => ?_)
      · have hm : x ∈ q.dc 9 := by simpa using ht
        rw [if_pos hm] at ho
        have fx := And.intro h2 <| And.intro h3 <| And.intro hp3 <| And.intro h7 <| hq
        refine k_run ?_
        clear fx
        refine e_ret [] .nil (by simp []; rfl) (by simp [← ho])
      · have hm : ¬ x ∈ q.dc 9 := by simpa using hf
        rw [if_neg hm] at ho
        have fx := And.intro h2 <| And.intro h3 <| And.intro hp3 <| And.intro h7 <| hq
        have c1 := isLocal_fn gl p j q x hq (hs.bsm hq)
        refine k_run ?_
        clear fx c1
        refine w_if (by simp []; first | done | rfl | exact (Bool.not_not _).symm) (fun ht => ?_) (fun hf => ?_)
        · rw [if_pos ht] at ho
          have fx := And.intro h2 <| And.intro h3 <| And.intro hp3 <| And.intro h7 <| hq
          refine k_run ?_
          clear fx
          refine e_ret [] .nil (by simp []; rfl) (by simp [← ho])
        · rw [if_neg (by simp [hf])] at ho
          have fx := And.intro h2 <| And.intro h3 <| And.intro hp3 <| And.intro h7 <| hq
          refine k_run ?_
          clear fx
          refine ⟨(q.parent + 1).toNat, by omega, q.parent, rfl, hq1, by omega, ho, by simp [h2, h3, hp3]⟩
  · have hj : j ≤ 0 := by simpa using hf
    rw [outerF_end hj] at ho
    have fx := fx0
    refine k_run ?_
    clear fx
    refine e_ret [] .nil (by simp []; rfl) (by simp [← ho])
theorem owner_fn (gl) (p : Prg) (b : Nat) (k : Blk) (x : Int) (hk : p[b]? = some k) (hs : Sml p) (hh : Heads p) : FnOk Tryz.prog gl 122 [pav p, iv b, iv x] (fun _ y _ => y = iv (owner p b x)) := by
  refine FnOk.of_sem Tryz.func122 rfl (by kernel_rfl) (rs := [.tmp 6]) rfl Tryz.ntmps122 (Nat.le_of_ble_eq_true rfl) fun C w g root => ?_
  all_goals have fx :=  hk
  repeat' (first
   | refine w_seq ?_ | refine w_skip ?_ | refine w_reg fun K hK => ?_
   | ((with_reducible refine s_end hK ?_); clear hK K)
   | (with_reducible first | refine then_normal ?_ | refine then_ret ?_)
   | refine w_ret ?_
   | (with_reducible refine s_none ?_)
   | ((with_reducible refine g_id ?_); refine x_guard (h := ?_))
   | (with_reducible first | refine gx_ff ?_ | refine x_ft (h := ?_) | refine x_assign (h := ?_) | refine x_box (h := ?_))
   | ((with_reducible refine o_id 111 rfl ?_); refine x_callh (hF := declared_fn _ p b k _ hk (hs.bsm hk)) (h := ?_))
   | ((with_reducible refine o_id 112 rfl ?_); refine x_call (hF := has_fn _ _ _ (Nat.le_trans (Blk.dc_len _ _) (by decide))) (h := ?_))
   | ((with_reducible refine o_id 137 rfl ?_); refine x_call (hF := isLocal_fn _ p b k x hk (hs.bsm hk)) (h := ?_))
   | ((with_reducible refine o_id 113 rfl ?_); refine x_call (hF := outer_fn _ p b k x hk hs hh) (h := ?_))
   | (with_reducible refine x_q (h := ?_))
   | (with_reducible refine gx_s (fun ht => ?_) (fun ht => ?_))
   | refine x_condt (h1 := ?_)
   | refine x_if (h1 := fun ht => ?_) (h2 := fun ht => ?_)
   | fail)
  all_goals try clear fx
  all_goals refine e_ret [] .nil (by simp; rfl) ?_
  all_goals simp_all [owner]
theorem madeAs_fn (gl) (p : Prg) (b : Nat) (j kind : Int) (hs : Sml p) (hb : b < p.length) : FnOk Tryz.prog gl 188 [pav p, iv b, iv j, iv kind] (fun _ y _ => y = bv (madeAs p b j kind)) := by
  have hpl := hs.len
  have w1 : IntKind.i64.wrap ((b : Int) + 1) = b + 1 := wrp (by omega) (by omega)
  have w2 : IntKind.i64.wrap ((p.length : Int) - 1) = p.length - 1 := wrp (by omega) (by omega)
  refine FnOk.of_sem Tryz.func188 rfl (by kernel_rfl) (rs := [.tmp 8]) rfl Tryz.ntmps188 (Nat.le_of_ble_eq_true rfl) fun C w g root => ?_
  by_cases hj : (b : Int) + 1 ≤ j ∧ j ≤ (p.length : Int) - 1
  · obtain ⟨j, rfl⟩ : ∃ i : Nat, j = i := ⟨j.toNat, by omega⟩
    obtain ⟨q, hq⟩ : ∃ q, p[j]? = some q := ⟨_, gE (by omega)⟩
    all_goals have fx := And.intro hq <| And.intro w1 <| And.intro w2 <| hj
    repeat' (first
     | refine w_seq ?_ | refine w_reg fun K hK => ?_
     | ((with_reducible refine s_end hK ?_); clear hK K)
     | (with_reducible first | refine then_normal ?_)
     | refine w_ret ?_
     | (with_reducible refine s_none ?_)
     | ((with_reducible refine g_id ?_); refine x_guard (h := ?_))
     | (with_reducible first | refine gx_tt ?_ | refine x_tf (h := ?_) | refine x_assign (h := ?_) | refine x_box (h := ?_))
     | ((with_reducible refine o_id 100 rfl ?_); refine x_call (hF := inRange_fn _ _ _ _) (h := ?_))
     | (with_reducible refine x_q (h := ?_))
     | (with_reducible refine gx_s (fun ht => ?_) (fun ht => ?_))
     | fail)
    all_goals try clear fx
    all_goals refine e_ret [] .nil (by simp; rfl) ?_
    all_goals simp_all [madeAs]
  · have hj' : (decide ((b : Int) + 1 ≤ j) && decide (j ≤ (p.length : Int) - 1)) = false := by simpa using hj
    all_goals have fx := And.intro w1 <| And.intro w2 <| hj'
    repeat' (first
     | refine w_seq ?_ | refine w_reg fun K hK => ?_
     | ((with_reducible refine s_end hK ?_); clear hK K)
     | (with_reducible first | refine then_normal ?_)
     | refine w_ret ?_
     | (with_reducible refine s_none ?_)
     | ((with_reducible refine g_id ?_); refine x_guard (h := ?_))
     | (with_reducible first | refine x_tf (h := ?_) | refine x_assign (h := ?_) | refine x_box (h := ?_))
     | ((with_reducible refine o_id 100 rfl ?_); refine x_call (hF := inRange_fn _ _ _ _) (h := ?_))
     | (with_reducible refine x_q (h := ?_))
     | fail)
    all_goals try clear fx
    all_goals refine e_ret [] .nil (by simp; rfl) ?_
    all_goals simp_all [madeAs]
    intro h1 h2
    exact absurd (hj h1) (by omega)
theorem validBlock_fn (gl) (p : Prg) (b : Nat) (k : Blk) (hk : p[b]? = some k) (hb : b < p.length) (hs : Sml p) : FnOk Tryz.prog gl 158 [pav p, iv b] (fun _ y _ => y = bv (decide (HeadOk b k))) := by
  have hpl := hs.len
  have w2 : IntKind.i64.wrap ((b : Int) - 1) = b - 1 := wrp (by omega) (by omega)
  refine FnOk.of_sem Tryz.func158 rfl (by kernel_rfl) (rs := [.tmp 4]) rfl Tryz.ntmps158 (Nat.le_of_ble_eq_true rfl) fun C w g root => ?_
  obtain ⟨kind, parent, params, body⟩ := k
  by_cases hp : 2 ≤ params.length
  · have c0 : ((params.length : Int) == 0) = false := by simp only [beq_eq_false_iff_ne, ne_eq]; omega
    have c1 : ((params.length : Int) == 1) = false := by simp only [beq_eq_false_iff_ne, ne_eq]; omega
    all_goals have fx := And.intro hk <| And.intro w2 <| And.intro c0 <| c1
    repeat' (first
     | refine w_seq ?_ | refine w_skip ?_ | refine w_reg fun K hK => ?_
     | ((with_reducible refine s_end hK ?_); clear hK K)
     | (with_reducible first | refine then_normal ?_ | refine then_ret ?_)
     | refine w_ret ?_
     | (with_reducible refine s_none ?_)
     | ((with_reducible refine g_id ?_); refine x_guard (h := ?_))
     | (with_reducible first | refine gx_tt ?_ | refine gx_ff ?_ | refine x_tf (h := ?_) | refine x_ft (h := ?_) | refine x_assign (h := ?_) | refine x_box (h := ?_) | refine x_alloc (h := ?_) | refine x_store0 (h := ?_))
     | ((with_reducible refine o_id 100 rfl ?_); refine x_call (hF := inRange_fn _ _ _ _) (h := ?_))
     | (with_reducible refine x_q (h := ?_))
     | (with_reducible refine gx_s (fun ht => ?_) (fun ht => ?_))
     | refine x_condt (h1 := ?_)
     | refine x_if (h1 := fun ht => ?_) (h2 := fun ht => ?_)
     | fail)
    all_goals try clear fx
    all_goals refine e_ret [] .nil (by simp; rfl) ?_
    all_goals simp_all [HeadOk]
    all_goals (intros; omega)
  · rcases params with _ | ⟨x, _ | ⟨y, l⟩⟩
    rotate_left 2
    · simp at hp
    all_goals have fx := And.intro hk <| w2
    repeat' (first
     | refine w_seq ?_ | refine w_skip ?_ | refine w_reg fun K hK => ?_
     | ((with_reducible refine s_end hK ?_); clear hK K)
     | (with_reducible first | refine then_normal ?_ | refine then_ret ?_)
     | refine w_ret ?_
     | (with_reducible refine s_none ?_)
     | ((with_reducible refine g_id ?_); refine x_guard (h := ?_))
     | (with_reducible first | refine gx_tt ?_ | refine gx_ff ?_ | refine x_tf (h := ?_) | refine x_ft (h := ?_) | refine x_u (h := ?_) | refine x_assign (h := ?_) | refine x_box (h := ?_) | refine x_alloc (h := ?_) | refine x_store0 (h := ?_))
     | ((with_reducible refine o_id 100 rfl ?_); refine x_call (hF := inRange_fn _ _ _ _) (h := ?_))
     | ((with_reducible refine o_id 187 rfl ?_); refine x_call (hF := spec_isName_fn _ _) (h := ?_))
     | (with_reducible refine x_q (h := ?_))
     | (with_reducible refine gx_s (fun ht => ?_) (fun ht => ?_))
     | refine x_condt (h1 := ?_)
     | refine x_if (h1 := fun ht => ?_) (h2 := fun ht => ?_)
     | fail)
    all_goals try clear fx
    all_goals refine e_ret [] .nil (by simp; rfl) ?_
    all_goals simp_all [HeadOk]
    all_goals (intros; omega)
theorem validStmt_fn (gl) (p : Prg) (b : Nat) (k : Blk) (s : Stm) (hk : p[b]? = some k) (hs : Sml p) (hb : b < p.length) : FnOk Tryz.prog gl 159 [pav p, iv b, Stm.av s] (fun _ y _ => y = bv (StmOk p b k s)) := by
  refine FnOk.of_sem Tryz.func159 rfl (by kernel_rfl) (rs := [.tmp 6]) rfl Tryz.ntmps159 (Nat.le_of_ble_eq_true rfl) fun C w g root => ?_
  obtain ⟨kind, to, a, c⟩ := s
  all_goals have fx :=  hk
  repeat' (first
   | refine w_seq ?_ | refine w_block ?_ | refine w_skip ?_ | refine w_reg fun K hK => ?_
   | ((with_reducible refine s_end hK ?_); clear hK K)
   | (with_reducible first | refine then_normal ?_ | refine then_ret ?_)
   | refine w_ret ?_
   | (with_reducible refine s_none ?_)
   | (with_reducible first | refine x_assign (h := ?_) | refine x_box (h := ?_))
   | ((with_reducible refine o_id 163 rfl ?_); refine x_callh (hF := readsOf_fn _ ⟨kind, to, a, c⟩) (h := ?_))
   | ((with_reducible refine o_id 187 rfl ?_); refine x_call (hF := spec_isName_fn _ _) (h := ?_))
   | (with_reducible refine x_q (h := ?_))
   | refine x_if (h1 := fun ht => ?_) (h2 := fun ht => ?_)
   | fail)
  all_goals try clear fx
  · have hto : isNm to = false := by
      rw [Bool.eq_false_iff]
      intro h
      simp at h ht
      omega
    refine e_ret [] .nil (by simp; rfl) ?_
    simp only [StmOk, hto]
    rfl
  have hto : isNm to = true := by simpa using ht
  generalize hr : Stm.reads ⟨kind, to, a, c⟩ = rs
  have hrl : rs.length ≤ 2 := hr ▸ Stm.reads_len _
  refine w_loop (fun n st => ∃ i : Nat, n = rs.length - i ∧ i ≤ rs.length ∧ st.tm 1 = iv b ∧ st.tm 3 = .pt (.s 3) 0 ∧ st.hp (.s 3) = some (.row 1 [[ksl p]]) ∧ st.tm 5 = .pt (.s 5) 0 ∧ st.hp (.s 5) = some (.row 4 [[iv kind, iv to, iv a, iv c]]) ∧ st.tm 8 = iv i ∧ st.tm 7 = .hs (.s 7) 1 0 rs.length ∧ st.hp (.s 7) = some (.row 1 (irows rs)) ∧ (rs.take i).all isNm = true) rs.length ?_ ?_
  · exact ⟨0, by simp [hr]⟩
  rintro n st - - ⟨i, rfl, hi, h1, h3, hp3, h5, hp5, h8, h7, hp7, hal⟩
  all_goals have fx := And.intro h1 <| And.intro h3 <| And.intro hp3 <| And.intro h5 <| And.intro hp5 <| And.intro h8 <| And.intro h7 <| hp7
  repeat' (first
   | refine w_seq ?_ | refine w_reg fun K hK => ?_
   | ((with_reducible refine s_end hK ?_); clear hK K)
   | (with_reducible first | refine then_normal ?_)
   | (with_reducible refine s_none ?_)
   | (with_reducible refine x_q (h := ?_))
   | fail)
  all_goals try clear fx
  refine w_if (by simp []; first | done | rfl | exact (Bool.not_not _).symm) (fun ht => ?_) (fun hf => ?_)
  · have hlt : i < rs.length := by simpa using ht
    obtain ⟨y, hy⟩ : ∃ y, rs[i]? = some y := ⟨_, gE hlt⟩
    obtain ⟨_, hy'⟩ := gS hy
    all_goals have fx := And.intro h1 <| And.intro h3 <| And.intro hp3 <| And.intro h5 <| And.intro hp5 <| And.intro h8 <| And.intro h7 <| And.intro hp7 <| And.intro hy' <| hlt
    repeat' (first
     | refine w_seq ?_ | refine w_block ?_ | refine w_skip ?_ | refine w_reg fun K hK => ?_
     | ((with_reducible refine s_end hK ?_); clear hK K)
     | (with_reducible first | refine then_normal ?_ | refine then_ret ?_ | refine in_ret ?_)
     | refine w_ret ?_
     | (with_reducible refine s_none ?_)
     | (with_reducible first | refine x_assign (h := ?_))
     | ((with_reducible refine o_id 187 rfl ?_); refine x_call (hF := spec_isName_fn _ _) (h := ?_))
     | (with_reducible refine x_q (h := ?_))
     | refine x_if (h1 := fun ht => ?_) (h2 := fun ht => ?_)
     | fail)
    all_goals try clear fx
    · have hno : isNm y = false := by
        rw [Bool.eq_false_iff]
        intro h
        simp at h ht
        omega
      refine e_ret [] .nil (by simp; rfl) ?_
      have hall : rs.all isNm = false := by
        rw [Bool.eq_false_iff]
        intro h
        have := List.all_eq_true.1 h y (List.mem_of_getElem? hy)
        rw [hno] at this
        cases this
      simp only [StmOk, hr, hall]
      simp
    · have hyes : isNm y = true := by simpa using ht
      refine ⟨rs.length - (i + 1), by omega, i + 1, rfl, by omega, by simp [h1], by simp [h3], by simp [hp3], by simp [h5], by simp [hp5], by simp; exact wrp (by omega) (by omega), by simp [h7], by simp [hp7], ?_⟩
      rw [List.take_add_one, hy, List.all_append, hal]
      simp only [Option.toList_some, List.all_cons, List.all_nil, hyes]
      rfl
  · have hge : i = rs.length := by
      have : ¬ i < rs.length := by simpa using hf
      omega
    subst hge
    rw [List.take_length] at hal
    have hok : StmOk p b k ⟨kind, to, a, c⟩ = (if kind = 0 then decide (0 ≤ a) && decide (a ≤ 99) && c == 0 else if kind = 1 then c == 0 else if kind = 2 ∨ kind = 5 then true
      else if kind = 3 then c == 0 && madeAs p b a 1 else if kind = 4 then c == 0 && madeAs p b a 2 else if kind = 6 then isNm c
      else if kind = 7 then to == 0 && c == 0 else if kind = 8 then to == 0 && c == 0 && k.kind == 1
      else if kind = 9 ∨ kind = 10 then a == 0 && c == 0 && k.kind != 0 else if kind = 11 then a == 0 && c == 0 else false) := by
      simp only [StmOk, hr, hal, hto, Bool.true_and]
    rw [hok]
    clear hok
    all_goals have fx := And.intro h1 <| And.intro h3 <| And.intro hp3 <| And.intro h5 <| And.intro hp5 <| hk
    repeat' (first
     | refine w_seq ?_ | refine w_block ?_ | refine w_skip ?_ | refine w_reg fun K hK => ?_
     | ((with_reducible refine s_end hK ?_); clear hK K)
     | (with_reducible first | refine then_normal ?_ | refine then_ret ?_ | refine in_ret ?_)
     | refine w_exit ?_
     | refine w_ret ?_
     | (with_reducible refine s_none ?_)
     | ((with_reducible refine g_id ?_); refine x_guard (h := ?_))
     | (with_reducible first | refine gx_tt ?_ | refine x_tf (h := ?_) | refine x_assign (h := ?_))
     | ((with_reducible refine o_id 187 rfl ?_); refine x_call (hF := spec_isName_fn _ _) (h := ?_))
     | ((with_reducible refine o_id 100 rfl ?_); refine x_call (hF := inRange_fn _ _ _ _) (h := ?_))
     | ((with_reducible refine o_id 188 rfl ?_); refine x_call (hF := madeAs_fn _ p b _ _ hs hb) (h := ?_))
     | (with_reducible refine x_q (h := ?_))
     | (with_reducible refine gx_s (fun ht => ?_) (fun ht => ?_))
     | refine x_condt (h1 := ?_)
     | refine x_if (h1 := fun ht => ?_) (h2 := fun ht => ?_)
     | fail)
    all_goals try clear fx
    all_goals refine e_ret [] .nil (by simp; rfl) ?_
    all_goals simp_all
    all_goals (intros; omega)
end Go.Proofs.YtcbkblboonkfhaaGreat
end
