/-
  Own texts, joined by mkclaim.py: Rb, Ra.
-/
import Derived.Test.YtmaoicgfcngciaaDoorQ20
import Derived.Test.YtmaoicgfcngciaaDoorQ10
import Derived.Test.YtmaoicgfcngciaaDoorQ11
import Derived.Test.YtmaoicgfcngciaaDoorQ17
set_option linter.unusedSimpArgs false
set_option linter.unusedVariables false
set_option maxRecDepth 100000
set_option maxHeartbeats 4000000

section
namespace Go.Proofs.YtmaoicgfcngciaaDoor
open Go Go.Hm Go.Proofs
abbrev qsRb0 : Sch := .q 0 <| .q 1 <| .q 2 <| .q 3 <| .q 4 <| .q 5 <| .q 6 <| .q 7 <| .q 8 <| .l 9 [7, 6, 4, 3, 2, 1, 0] <| .l 10 [7, 6, 3, 2, 1, 0] <| .l 11 [7, 6, 3, 2, 1] <| .l 12 [] <| .done
abbrev qsRb1 : Sch := .q 1 <| .q 2 <| .q 3 <| .q 5 <| .q 6 <| .q 7 <| .q 8 <| .q 9 <| .q 12 <| .l 0 [12, 9, 8, 7, 6, 5, 3, 2, 1] <| .l 4 [12, 9, 8, 7, 6, 5, 2, 1] <| .l 10 [12, 8, 7, 2, 1] <| .l 11 [12, 8, 7, 2, 1] <| .l 13 [8, 7, 2, 1] <| .l 14 [] <| .done
attribute [local simp] slcAV rowsIn
theorem ins_norm {l L2 : List Stm} {A : Nat} (h : A ≤ l.length) : List.take (A + L2.length) (List.take A (List.take A l) ++ L2) ++ List.take (l.length - A) (List.take (l.length - A) (List.drop A l)) = List.take A l ++ (L2 ++ List.drop A l) := by
  have e1 : List.take A (List.take A l) = List.take A l := by rw [List.take_take, Nat.min_self]
  have e2 : List.take (A + L2.length) (List.take A l ++ L2) = List.take A l ++ L2 := List.take_of_length_le (by simp; omega)
  have e3 : List.take (l.length - A) (List.drop A l) = List.drop A l := List.take_of_length_le (by simp)
  rw [e1, e2, e3, e3, List.append_assoc]
theorem shapedProgram_fn (gl) (H : Nm → Option AO) (bs : List Int) (pos : Nat) (hb : BytesOk bs) (hpos : pos ≤ 700000) (hH : H (.u 1 0 0) = some (rdO bs pos)) (hV : H (.u 2 0 0) = none) (hV4 : H (.u 4 0 0) = none) (hV5 : H (.u 5 0 0) = none) :
    FnE Tryd.prog gl 90 (Nm.under (.u 1 0 0)) [.pt (.u 1 0 0) 0] H (PrgPost bs (fun p pos' => GenT p ∧ pos' ≤ pos + 1000)) noE := by
  refine FnE.of_sem Tryd.func90 rfl (by kernel_rfl) (rs := [.cell 2 29]) rfl Tryd.ntmps90 (Nat.le_of_ble_eq_true rfl) (fun _ => under_usroot rfl) fun C w g root hroot => ?_
  have hr0 := hroot root (Nm.under_self _)
  have fx := fx0
  refine k_run ?_
  repeat ((first | refine wSc (id := 5) qsRb0 mixed ?_ | refine wSc (id := 12) qsRb1 mixed ?_); refine k_rund ?_; refine k_run ?_)
  clear fx
  first | show SemOp _ _ _ _ _ | intro K hK
  refine x_rdo (bs := bs) (hs := by simp [hH]) (ha := by first | (simp; done) | (simp; rfl)) (hF := someBlock_fn _ _ bs pos 0 (-1) hb (by omega) (by simp [hH]) (by simp)) (h := ?_)
  rintro z H1 ⟨k0, p0, rfl, hk2, hk3, ⟨hkk, hkpar, hkp, hkb, hp0, hkT⟩, hU⟩
  refine ⟨p0, hU, ?_⟩
  have fx := fx0
  refine k_run ?_
  repeat ((first | refine wSc (id := 5) qsRb0 mixed ?_ | refine wSc (id := 12) qsRb1 mixed ?_); refine k_rund ?_; refine k_run ?_)
  clear fx
  first | show SemOp _ _ _ _ _ | intro K hK
  refine o_mv (.c (.s 11) 0 2) (.c (.c (.s 3) 0 0) 0 2) (.inl rfl) (.inl rfl) ?_
  refine o_mv (.c (.s 11) 0 3) (.c (.c (.s 3) 0 0) 0 3) (.inl rfl) (.inl rfl) ?_
  refine o_abs (fun st => st.tm 0 = .pt (.u 1 0 0) 0 ∧ st.hp (.u 1 0 0) = some (rdO bs p0) ∧ st.tm 2 = .pt (.s 2) 0 ∧ st.hp (.s 2) = some (.row 1 [[.hs (.c (.s 2) 0 0) 4 0 0]]) ∧ st.hp (.c (.s 2) 0 0) = some (.row 4 []) ∧ st.tm 3 = .pt (.s 3) 0 ∧ st.hp (.s 3) = some (.row 1 [[.hs (.c (.s 3) 0 0) 4 0 1]]) ∧ OwnP st.hp (.c (.s 3) 0 0) [k0] ∧
    st.tm 14 = .pt (.u 1 0 0) 0 ∧ st.tm 15 = .hs (.s 15) 1 0 6 ∧ st.hp (.s 15) = some (.row 1 (irows [3, 2, 4, 1, 5, 0]))) ⟨by simp, by simp, by simp, by simp, by simp, by simp, by simp, ⟨by simp [pRows], fun j k hk => ?_, fun j k hk => ?_⟩, by simp, by simp, by simp [irows]⟩ ?_
  · cases j with
    | zero => simp at hk; subst hk; simp [hk2]
    | succ j => simp at hk
  · cases j with
    | zero => simp at hk; subst hk; simp [hk3]
    | succ j => simp at hk
  clear hU hk2 hk3
  rintro st ⟨h0, hU, h2, hp2, hp2', h3, hp3, ⟨ho1, ho2, ho3⟩, h14, h15, hp15⟩
  refine x_one (oneOk _) 15 [3, 2, 4, 1, 5, 0] (bs := bs) (pos := p0) hb (by omega) (hV := hV) (h0 := h14) (h1 := by simp [h15]) (hH := hU) (hL := by simp [hp15]) (h := ?_)
  intro v hv
  have hvr : 0 ≤ v ∧ v ≤ 5 := by simp at hv; omega
  obtain ⟨V, rfl⟩ : ∃ V : Nat, v = V := ⟨v.toNat, by omega⟩
  have fx := fx0
  refine k_run ?_
  repeat ((first | refine wSc (id := 5) qsRb0 mixed ?_ | refine wSc (id := 12) qsRb1 mixed ?_); refine k_rund ?_; refine k_run ?_)
  clear fx
  refine w_loop (fun n st => ∃ (p : Prg) (q : Nat), n + p.length ≤ 6 ∧ GenT p ∧ q + 100 * n ≤ pos + 700 ∧ st.tm 0 = .pt (.u 1 0 0) 0 ∧ st.hp (.u 1 0 0) = some (rdO bs q) ∧ st.tm 2 = .pt (.s 2) 0 ∧ st.hp (.s 2) = some (.row 1 [[.hs (.c (.s 2) 0 0) 4 0 0]]) ∧ st.hp (.c (.s 2) 0 0) = some (.row 4 []) ∧ st.tm 3 = .pt (.s 3) 0 ∧ st.hp (.s 3) = some (.row 1 [[.hs (.c (.s 3) 0 0) 4 0 p.length]]) ∧ st.tm 4 = iv n ∧ OwnP st.hp (.c (.s 3) 0 0) p) V ?_ ?_
  · exact ⟨[k0], p0 + 1, by simp; omega, GenT.one hkpar hkk (by omega) (by omega) hkT, by omega, by simp [h0], by simp, by simp [h2], by simp [hp2], by simp [hp2'], by simp [h3], by simp [hp3], by simp, ⟨by simp [ho1], fun j r hj => by simp [ho2 j r hj], fun j r hj => by simp [ho3 j r hj]⟩⟩
  clear h0 hU h2 hp2 hp2' h3 hp3 ho1 ho2 ho3 h14 h15 hp15
  rintro n st - - ⟨p, q, hn, hg, hq, h0, hU, h2, hp2, hp2', h3, hp3, h4, ⟨ho1, ho2, ho3⟩⟩
  have hgl := hg.len
  rcases Nat.eq_zero_or_pos n with rfl | hn0
  · skip
    have fx := And.intro h4 <| And.intro h2 <| And.intro hp2 <| And.intro hp2' <| And.intro h3 <| hp3
    refine k_run ?_
    repeat ((first | refine wSc (id := 5) qsRb0 mixed ?_ | refine wSc (id := 12) qsRb1 mixed ?_); refine k_rund ?_; refine k_run ?_)
    clear fx
    refine e_ret [(.c (.s 3) 0 0, root)] (.one rfl) (by simp [h2]; rfl) ⟨p, q, by simp, ⟨?_, fun j r hj => ?_, fun j r hj => ?_⟩, ⟨hg, by omega⟩, by simp [hU]⟩
    · simp [ho1, hr0, pRows_tr (n := .c (.s 3) 0 0) (m := root) (f := finf (Nm.under (.u 1 0 0)) [(.c (.s 3) 0 0, root)]) (p := p) (by simp [hr0])]
    · simp [ho2 j r hj, hr0]
    · simp [ho3 j r hj, hr0]
  have hl1 : 0 < p.length := by omega
  have hwl : IntKind.i64.wrap ((p.length : Int) - 1) = ((p.length - 1 : Nat) : Int) := by rw [wrp (by omega) (by omega)]; omega
  have fx := And.intro h0 <| And.intro h3 <| And.intro hp3 <| And.intro h4 <| And.intro hn0 <| hwl
  refine k_run ?_
  repeat ((first | refine wSc (id := 5) qsRb0 mixed ?_ | refine wSc (id := 12) qsRb1 mixed ?_); refine k_rund ?_; refine k_run ?_)
  clear fx
  first | show SemOp _ _ _ _ _ | intro K hK
  refine x_rd (hs := by simp [hU]) (ha := by first | (simp [h0]; done) | (simp [h0]; rfl)) (hF := pick_rd _ _ bs q p.length hb (by omega) (by omega) (by simp [hU])) (h := ?_)
  rintro x px ⟨hx, rfl⟩
  have hxl : x < p.length := by omega
  have fx := And.intro h0 <| And.intro h3 <| And.intro hp3 <| hwl
  refine k_run ?_
  repeat ((first | refine wSc (id := 5) qsRb0 mixed ?_ | refine wSc (id := 12) qsRb1 mixed ?_); refine k_rund ?_; refine k_run ?_)
  clear fx
  first | show SemOp _ _ _ _ _ | intro K hK
  refine x_one (oneOk _) 31 [((p.length - 1 : Nat) : Int), (x : Int)] (bs := bs) (pos := q + 1) hb (by omega) (hV := hV) (h0 := by simp [h0]) (h1 := by simp) (hH := by simp) (hL := by simp [irows]) (h := ?_)
  intro par hpar
  obtain ⟨par, rfl, hparl⟩ : ∃ r : Nat, par = r ∧ r < p.length := by
    simp at hpar
    rcases hpar with rfl | rfl
    · exact ⟨_, rfl, by omega⟩
    · exact ⟨_, rfl, hxl⟩
  clear hpar hx
  have fx := And.intro h0 <| And.intro h3 <| And.intro hp3 <| hwl
  refine k_run ?_
  repeat ((first | refine wSc (id := 5) qsRb0 mixed ?_ | refine wSc (id := 12) qsRb1 mixed ?_); refine k_rund ?_; refine k_run ?_)
  clear fx
  first | show SemOp _ _ _ _ _ | intro K hK
  refine x_one (oneOk _) 35 [1, 1, 1, 2] (bs := bs) (pos := q + 1 + 1) hb (by omega) (hV := hV) (h0 := by simp [h0]) (h1 := by simp) (hH := by simp) (hL := by simp [irows]) (h := ?_)
  intro kd hkd
  have hkdR : kd = 1 ∨ kd = 2 := by simp at hkd; omega
  have fx := And.intro h0 <| And.intro h3 <| And.intro hp3 <| hwl
  refine k_run ?_
  repeat ((first | refine wSc (id := 5) qsRb0 mixed ?_ | refine wSc (id := 12) qsRb1 mixed ?_); refine k_rund ?_; refine k_run ?_)
  clear fx
  first | show SemOp _ _ _ _ _ | intro K hK
  refine x_rdo (bs := bs) (hs := by simp) (ha := by first | (simp [h0]; done) | (simp [h0]; rfl)) (hF := someBlock_fn _ _ bs (q + 1 + 1 + 1) kd par hb (by omega) (by simp) (by simp)) (h := ?_)
  rintro z H1 ⟨k1, q1, rfl, hk2, hk3, ⟨hkk1, hkpar1, hkp1, hkb1, hq1, hkT1⟩, hU1⟩
  refine ⟨q1, hU1, ?_⟩
  obtain ⟨kp, hkp'⟩ : ∃ k, p[par]? = some k := ⟨_, gE hparl⟩
  obtain ⟨_, hkpE⟩ := gS hkp'
  have hkpT := hg.txt.stms kp (List.mem_of_getElem? hkp')
  have hbb : kp.body.length ≤ 14 := hg.body kp (List.mem_of_getElem? hkp')
  have hwk : IntKind.i64.wrap ((kp.body.length : Int) + 1) = ((kp.body.length + 1 : Nat) : Int) := by rw [wrp (by omega) (by omega)]; omega
  have fx := And.intro h0 <| And.intro h3 <| And.intro hp3 <| And.intro ho1 <| And.intro hkp' <| And.intro hkpE <| And.intro hparl <| hwk
  refine k_run ?_
  repeat ((first | refine wSc (id := 5) qsRb0 mixed ?_ | refine wSc (id := 12) qsRb1 mixed ?_); refine k_rund ?_; refine k_run ?_)
  clear fx
  first | show SemOp _ _ _ _ _ | intro K hK
  refine o_abs (fun st => st.tm 0 = .pt (.u 1 0 0) 0 ∧ st.hp (.u 1 0 0) = some (rdO bs q1) ∧ st.tm 2 = .pt (.s 2) 0 ∧ st.hp (.s 2) = some (.row 1 [[.hs (.c (.s 2) 0 0) 4 0 0]]) ∧ st.hp (.c (.s 2) 0 0) = some (.row 4 []) ∧ st.tm 3 = .pt (.s 3) 0 ∧ st.hp (.s 3) = some (.row 1 [[.hs (.c (.s 3) 0 0) 4 0 p.length]]) ∧ st.tm 4 = iv n ∧ OwnP st.hp (.c (.s 3) 0 0) p ∧ st.tm 5 = iv par ∧ st.tm 6 = .pt (.s 6) 0 ∧ st.hp (.s 6) = some (.row 4 [[iv k1.kind, iv k1.parent, .hs (.c (.s 38) 0 2) 1 0 k1.params.length, .hs (.c (.s 38) 0 3) 4 0 k1.body.length]]) ∧ st.hp (.c (.s 38) 0 2) = some (.row 1 (irows k1.params)) ∧ st.hp (.c (.s 38) 0 3) = some (.row 4 (srows k1.body)) ∧
    st.tm 7 = .hs (.c (.c (.s 3) 0 0) par 3) 4 0 kp.body.length ∧ st.tm 45 = .pt (.u 1 0 0) 0 ∧ st.tm 48 = iv ((kp.body.length + 1 : Nat) : Int)) ⟨by simp [h0], by simp, by simp [h2], by simp [hp2], by simp [hp2'], by simp [h3], by simp [hp3], by simp [h4], ⟨by simp [ho1], fun j r hj => by simp [ho2 j r hj], fun j r hj => by simp [ho3 j r hj]⟩, by simp, by simp, by simp, by simp [hk2], by simp [hk3], by simp, by simp [h0], by simp⟩ ?_
  clear h0 hU h2 hp2 hp2' h3 hp3 h4 ho1 ho2 ho3 hU1 hk2 hk3
  rintro st ⟨h0, hU, h2, hp2, hp2', h3, hp3, h4, ⟨ho1, ho2, ho3⟩, h5, h6, hp6, hp62, hp63, h7, h45, h48⟩
  have hob := ho3 par kp hkp'
  refine x_rd (hs := by simp [hU]) (ha := by first | (simp [h45, h48]; done) | (simp [h45, h48]; rfl)) (hF := pick_rd _ _ bs q1 (kp.body.length + 1) hb (by omega) (by omega) (by simp [hU])) (h := ?_)
  rintro at0 px ⟨hx, rfl⟩
  have hat : at0 ≤ kp.body.length := by omega
  clear hx
  have hV4' : (ctx0 Tryd.prog C w g H Tryd.f90.ntmps gl).ext (.u 4 0 0) = false := by simp [ctx0, hV4]
  have hV5' : (ctx0 Tryd.prog C w g H Tryd.f90.ntmps gl).ext (.u 5 0 0) = false := by simp [ctx0, hV5]
  have hbr : at0 = 0 ∨ 0 < at0 := Nat.eq_zero_or_pos at0
  rcases hbr with rfl | hat0
  case' inl =>
    have fx := And.intro h0 <| And.intro h3 <| And.intro hp3 <| And.intro h5 <| And.intro h6 <| And.intro hp6 <| And.intro h7 <| hob
    refine k_run ?_
    repeat ((first | refine wSc (id := 5) qsRb0 mixed ?_ | refine wSc (id := 12) qsRb1 mixed ?_); refine k_rund ?_; refine k_run ?_)
    clear fx
    first | show SemOp _ _ _ _ _ | intro K hK
    refine o_alias (.c (.s 38) 0 2) (.u 4 0 0) 74 hV4' ?_
    refine o_alias (.c (.s 38) 0 3) (.u 5 0 0) 74 hV5' ?_
    refine x_rdo (bs := bs) (hs := by simp [hU]) (ha := by first | (simp [h0]; done) | (simp [h0]; rfl)) (hF := making_fn _ _ bs (q1 + 1) k1.kind k1.parent p.length k1.params.length k1.body.length (by omega) hb (by omega) (by simp [hU]) (by simp)) (h := ?_)
    rintro y H2 ⟨L2, q2, rfl, hL2, ⟨hL2l, hq2, hL2T⟩, hU2⟩
    refine ⟨q2, hU2, ?_⟩
    have fx := And.intro h0 <| And.intro h3 <| And.intro hp3 <| And.intro h5 <| And.intro h6 <| And.intro hp6 <| And.intro h7 <| And.intro hob <| hL2
    refine k_run ?_
    repeat ((first | refine wSc (id := 5) qsRb0 mixed ?_ | refine wSc (id := 12) qsRb1 mixed ?_); refine k_rund ?_; refine k_run ?_)
    clear fx
    refine w_abs (fun st => ∃ (X : List Stm) (q2 : Nat), X.length ≤ 16 ∧ (∀ s ∈ X, TxtS s) ∧ q2 ≤ q1 + 6 ∧ st.tm 0 = .pt (.u 1 0 0) 0 ∧ st.hp (.u 1 0 0) = some (rdO bs q2) ∧ st.tm 2 = .pt (.s 2) 0 ∧ st.hp (.s 2) = some (.row 1 [[.hs (.c (.s 2) 0 0) 4 0 0]]) ∧ st.hp (.c (.s 2) 0 0) = some (.row 4 []) ∧ st.tm 3 = .pt (.s 3) 0 ∧ st.hp (.s 3) = some (.row 1 [[.hs (.c (.s 3) 0 0) 4 0 p.length]]) ∧ st.tm 4 = iv n ∧ OwnP st.hp (.c (.s 3) 0 0) p ∧ st.tm 5 = iv par ∧ st.tm 6 = .pt (.s 6) 0 ∧ st.hp (.s 6) = some (.row 4 [[iv k1.kind, iv k1.parent, .hs (.c (.s 38) 0 2) 1 0 k1.params.length, .hs (.c (.s 38) 0 3) 4 0 k1.body.length]]) ∧ st.hp (.c (.s 38) 0 2) = some (.row 1 (irows k1.params)) ∧ st.hp (.c (.s 38) 0 3) = some (.row 4 (srows k1.body)) ∧
    st.tm 7 = .hs (.s 7) 4 0 X.length ∧ st.hp (.s 7) = some (.row 4 (srows X)) ∧ st.tm 84 = bv (decide (X.length ≤ 12))) ⟨(kp.body.take (0) ++ L2 ++ kp.body.drop (0)), q2, by simp; omega, stmIns hkpT hL2T, by omega, by simp [h0], by simp, by simp [h2], by simp [hp2], by simp [hp2'], by simp [h3], by simp [hp3], by simp [h4], ⟨by simp [ho1], fun j r hj => by simp [ho2 j r hj], fun j r hj => by simp [ho3 j r hj]⟩, by simp [h5], by simp [h6], by simp [hp6], by simp [hp62], by simp [hp63], by simp; try omega, by first | (simp; done) | (simp; rw [ins_norm (by omega)]), by simp; try omega⟩ ?_
    clear hU2 hL2
  case' inr =>
    obtain ⟨s1, hs1⟩ : ∃ s1, kp.body[at0 - 1]? = some s1 := ⟨_, gE (by omega)⟩
    obtain ⟨hs1l, hs1E⟩ := gS hs1
    have hwa : IntKind.i64.wrap ((at0 : Int) - 1) = ((at0 - 1 : Nat) : Int) := by rw [wrp (by omega) (by omega)]; omega
    have hle1 : at0 - 1 ≤ kp.body.length := by omega
    rcases (by cases hk : (s1.kind == 8) <;> simp : (s1.kind == 8) = false ∨ (s1.kind == 8) = true) with hk8 | hk8
    case' inl =>
      have fx := And.intro h0 <| And.intro h3 <| And.intro hp3 <| And.intro h5 <| And.intro h6 <| And.intro hp6 <| And.intro h7 <| And.intro hob <| And.intro hat0 <| And.intro hs1 <| And.intro hs1E <| And.intro hs1l <| And.intro hwa <| And.intro hat <| hk8
      refine k_run ?_
      repeat ((first | refine wSc (id := 5) qsRb0 mixed ?_ | refine wSc (id := 12) qsRb1 mixed ?_); refine k_rund ?_; refine k_run ?_)
      clear fx
      first | show SemOp _ _ _ _ _ | intro K hK
      refine o_alias (.c (.s 38) 0 2) (.u 4 0 0) 74 hV4' ?_
      refine o_alias (.c (.s 38) 0 3) (.u 5 0 0) 74 hV5' ?_
      refine x_rdo (bs := bs) (hs := by simp [hU]) (ha := by first | (simp [h0]; done) | (simp [h0]; rfl)) (hF := making_fn _ _ bs (q1 + 1) k1.kind k1.parent p.length k1.params.length k1.body.length (by omega) hb (by omega) (by simp [hU]) (by simp)) (h := ?_)
      rintro y H2 ⟨L2, q2, rfl, hL2, ⟨hL2l, hq2, hL2T⟩, hU2⟩
      refine ⟨q2, hU2, ?_⟩
      have fx := And.intro h0 <| And.intro h3 <| And.intro hp3 <| And.intro h5 <| And.intro h6 <| And.intro hp6 <| And.intro h7 <| And.intro hob <| hL2
      refine k_run ?_
      repeat ((first | refine wSc (id := 5) qsRb0 mixed ?_ | refine wSc (id := 12) qsRb1 mixed ?_); refine k_rund ?_; refine k_run ?_)
      clear fx
      refine w_abs (fun st => ∃ (X : List Stm) (q2 : Nat), X.length ≤ 16 ∧ (∀ s ∈ X, TxtS s) ∧ q2 ≤ q1 + 6 ∧ st.tm 0 = .pt (.u 1 0 0) 0 ∧ st.hp (.u 1 0 0) = some (rdO bs q2) ∧ st.tm 2 = .pt (.s 2) 0 ∧ st.hp (.s 2) = some (.row 1 [[.hs (.c (.s 2) 0 0) 4 0 0]]) ∧ st.hp (.c (.s 2) 0 0) = some (.row 4 []) ∧ st.tm 3 = .pt (.s 3) 0 ∧ st.hp (.s 3) = some (.row 1 [[.hs (.c (.s 3) 0 0) 4 0 p.length]]) ∧ st.tm 4 = iv n ∧ OwnP st.hp (.c (.s 3) 0 0) p ∧ st.tm 5 = iv par ∧ st.tm 6 = .pt (.s 6) 0 ∧ st.hp (.s 6) = some (.row 4 [[iv k1.kind, iv k1.parent, .hs (.c (.s 38) 0 2) 1 0 k1.params.length, .hs (.c (.s 38) 0 3) 4 0 k1.body.length]]) ∧ st.hp (.c (.s 38) 0 2) = some (.row 1 (irows k1.params)) ∧ st.hp (.c (.s 38) 0 3) = some (.row 4 (srows k1.body)) ∧
    st.tm 7 = .hs (.s 7) 4 0 X.length ∧ st.hp (.s 7) = some (.row 4 (srows X)) ∧ st.tm 84 = bv (decide (X.length ≤ 12))) ⟨(kp.body.take (at0) ++ L2 ++ kp.body.drop (at0)), q2, by simp; omega, stmIns hkpT hL2T, by omega, by simp [h0], by simp, by simp [h2], by simp [hp2], by simp [hp2'], by simp [h3], by simp [hp3], by simp [h4], ⟨by simp [ho1], fun j r hj => by simp [ho2 j r hj], fun j r hj => by simp [ho3 j r hj]⟩, by simp [h5], by simp [h6], by simp [hp6], by simp [hp62], by simp [hp63], by simp; try omega, by first | (simp; done) | (simp; rw [ins_norm (by omega)]), by simp; try omega⟩ ?_
      clear hU2 hL2
    case' inr =>
      have fx := And.intro h0 <| And.intro h3 <| And.intro hp3 <| And.intro h5 <| And.intro h6 <| And.intro hp6 <| And.intro h7 <| And.intro hob <| And.intro hat0 <| And.intro hs1 <| And.intro hs1E <| And.intro hs1l <| And.intro hwa <| And.intro hle1 <| hk8
      refine k_run ?_
      repeat ((first | refine wSc (id := 5) qsRb0 mixed ?_ | refine wSc (id := 12) qsRb1 mixed ?_); refine k_rund ?_; refine k_run ?_)
      clear fx
      first | show SemOp _ _ _ _ _ | intro K hK
      refine o_alias (.c (.s 38) 0 2) (.u 4 0 0) 74 hV4' ?_
      refine o_alias (.c (.s 38) 0 3) (.u 5 0 0) 74 hV5' ?_
      refine x_rdo (bs := bs) (hs := by simp [hU]) (ha := by first | (simp [h0]; done) | (simp [h0]; rfl)) (hF := making_fn _ _ bs (q1 + 1) k1.kind k1.parent p.length k1.params.length k1.body.length (by omega) hb (by omega) (by simp [hU]) (by simp)) (h := ?_)
      rintro y H2 ⟨L2, q2, rfl, hL2, ⟨hL2l, hq2, hL2T⟩, hU2⟩
      refine ⟨q2, hU2, ?_⟩
      have fx := And.intro h0 <| And.intro h3 <| And.intro hp3 <| And.intro h5 <| And.intro h6 <| And.intro hp6 <| And.intro h7 <| And.intro hob <| hL2
      refine k_run ?_
      repeat ((first | refine wSc (id := 5) qsRb0 mixed ?_ | refine wSc (id := 12) qsRb1 mixed ?_); refine k_rund ?_; refine k_run ?_)
      clear fx
      refine w_abs (fun st => ∃ (X : List Stm) (q2 : Nat), X.length ≤ 16 ∧ (∀ s ∈ X, TxtS s) ∧ q2 ≤ q1 + 6 ∧ st.tm 0 = .pt (.u 1 0 0) 0 ∧ st.hp (.u 1 0 0) = some (rdO bs q2) ∧ st.tm 2 = .pt (.s 2) 0 ∧ st.hp (.s 2) = some (.row 1 [[.hs (.c (.s 2) 0 0) 4 0 0]]) ∧ st.hp (.c (.s 2) 0 0) = some (.row 4 []) ∧ st.tm 3 = .pt (.s 3) 0 ∧ st.hp (.s 3) = some (.row 1 [[.hs (.c (.s 3) 0 0) 4 0 p.length]]) ∧ st.tm 4 = iv n ∧ OwnP st.hp (.c (.s 3) 0 0) p ∧ st.tm 5 = iv par ∧ st.tm 6 = .pt (.s 6) 0 ∧ st.hp (.s 6) = some (.row 4 [[iv k1.kind, iv k1.parent, .hs (.c (.s 38) 0 2) 1 0 k1.params.length, .hs (.c (.s 38) 0 3) 4 0 k1.body.length]]) ∧ st.hp (.c (.s 38) 0 2) = some (.row 1 (irows k1.params)) ∧ st.hp (.c (.s 38) 0 3) = some (.row 4 (srows k1.body)) ∧
    st.tm 7 = .hs (.s 7) 4 0 X.length ∧ st.hp (.s 7) = some (.row 4 (srows X)) ∧ st.tm 84 = bv (decide (X.length ≤ 12))) ⟨(kp.body.take (at0 - 1) ++ L2 ++ kp.body.drop (at0 - 1)), q2, by simp; omega, stmIns hkpT hL2T, by omega, by simp [h0], by simp, by simp [h2], by simp [hp2], by simp [hp2'], by simp [h3], by simp [hp3], by simp [h4], ⟨by simp [ho1], fun j r hj => by simp [ho2 j r hj], fun j r hj => by simp [ho3 j r hj]⟩, by simp [h5], by simp [h6], by simp [hp6], by simp [hp62], by simp [hp63], by simp; try omega, by first | (simp; done) | (simp; rw [ins_norm (by omega)]), by simp; try omega⟩ ?_
      clear hU2 hL2
  all_goals
    rintro st ⟨X, q2, hXl, hXT, hq2, h0, hU, h2, hp2, hp2', h3, hp3, h4, ⟨ho1, ho2, ho3⟩, h5, h6, hp6, hp62, hp63, h7, hp7, h84⟩
    have hwn : IntKind.i64.wrap ((n : Int) - 1) = ((n - 1 : Nat) : Int) := by rw [wrp (by omega) (by omega)]; omega
    by_cases hx12 : X.length ≤ 12
    · have hset := pRows_set (n := .c (.s 3) 0 0) (a := 7) (i := par) (len := X.length) (p := p) (L := X) rfl (by simp) (by simp)
      have hsl : (setBody p par X).length = p.length := setBody_len
      have fx := And.intro h0 <| And.intro h3 <| And.intro hp3 <| And.intro h4 <| And.intro h5 <| And.intro h6 <| And.intro hp6 <| And.intro h7 <| And.intro hp7 <| And.intro h84 <| And.intro ho1 <| And.intro hkp' <| And.intro hkpE <| And.intro hparl <| And.intro hx12 <| And.intro hset <| And.intro hsl <| hwn
      refine k_run ?_
      repeat ((first | refine wSc (id := 5) qsRb0 mixed ?_ | refine wSc (id := 12) qsRb1 mixed ?_); refine k_rund ?_; refine k_run ?_)
      clear fx
      have hg' : GenT (setBody p par X ++ [k1]) := (hg.setBody (by omega) hXT).add (by rw [hsl]; omega) (by rw [hkpar1, hsl]; omega) (by rw [hkk1]; exact hkdR) (by omega) (by omega) hkT1
      refine ⟨n - 1, by omega, setBody p par X ++ [k1], q2, by simp; omega, hg', by omega, by simp [h0], by simp [hU], by simp [h2], by simp [hp2], by simp [hp2'], by simp [h3], by simp, by simp, ⟨?_, fun d r hd => ?_, fun d r hd => ?_⟩⟩
      · rw [pRows_app]
        simp
        exact List.take_of_length_le (by simp)
      all_goals
        rw [List.getElem?_append] at hd
        split at hd
        · rename_i hdl
          have hdp : d < p.length := by rwa [hsl] at hdl
          obtain ⟨r0, hr0'⟩ : ∃ r0, p[d]? = some r0 := ⟨_, gE hdp⟩
          rw [setBody_get hr0'] at hd
          obtain rfl := Option.some.inj hd
          have hdn : ¬ p.length = d := by omega
          have hdn' : ¬ d = p.length := by omega
          by_cases hpd : par = d
          · subst hpd
            simp [ho2 par r0 hr0', hp7, hdn, hdn']
          · simp [ho2 d r0 hr0', ho3 d r0 hr0', hpd, show ¬ d = par from fun e => hpd e.symm, hdn, hdn']
        · rename_i hdl
          have hde : d = p.length := by
            have h1 := (gS hd).1
            simp at h1
            omega
          subst hde
          rw [hsl, Nat.sub_self] at hd
          simp at hd
          subst hd
          simp [hp62, hp63]
    · skip
      have fx := And.intro h4 <| And.intro h84 <| And.intro hx12 <| hwn
      refine k_run ?_
      repeat ((first | refine wSc (id := 5) qsRb0 mixed ?_ | refine wSc (id := 12) qsRb1 mixed ?_); refine k_rund ?_; refine k_run ?_)
      clear fx
      exact ⟨n - 1, by omega, p, q2, by omega, hg, by omega, by simp [h0], by simp [hU], by simp [h2], by simp [hp2], by simp [hp2'], by simp [h3], by simp [hp3], by simp, ⟨by simp [ho1], fun j r hj => by simp [ho2 j r hj], fun j r hj => by simp [ho3 j r hj]⟩⟩
end Go.Proofs.YtmaoicgfcngciaaDoor
end
section
namespace Go.Proofs.YtmaoicgfcngciaaDoor
open Go Go.Hm Go.Proofs
theorem bare_fn (gl) (p : Prg) (hs : Sml p) : FnOk Tryd.prog gl 111 [pav p] (fun r z H' => z = .agg [.hs r 4 0 p.length] ∧ OwnP H' r (bareP p)) := by
  have hpl := hs.len
  refine FnOk.of_sem Tryd.func111 rfl (by kernel_rfl) (rs := [.cell 2 29]) rfl Tryd.ntmps111 (Nat.le_of_ble_eq_true rfl) fun C w g root => ?_
  have fx := fx0
  have e1 := copyProgram_fn gl p hs
  refine k_run ?_
  clear fx e1
  first | rintro K hK z H' ⟨rfl, hO⟩ | rintro z H' ⟨rfl, hO⟩
  obtain ⟨ho1, ho2, ho3⟩ := hO.hcln
  refine ⟨by simp, ?_⟩
  have fx :=  ho1
  refine k_run ?_
  clear fx
  refine w_loop (fun n st => ∃ i : Nat, n = p.length - i ∧ i ≤ p.length ∧ st.tm 1 = .pt (.s 1) 0 ∧ st.hp (.s 1) = some (.row 1 [[ksl p]]) ∧ st.tm 2 = .pt (.s 2) 0 ∧ st.hp (.s 2) = some (.row 1 [[.hs (.c (.s 2) 0 0) 4 0 0]]) ∧ st.hp (.c (.s 2) 0 0) = some (.row 4 []) ∧
    st.tm 3 = .pt (.s 3) 0 ∧ st.hp (.s 3) = some (.row 1 [[.hs (.c (.s 3) 0 0) 4 0 p.length]]) ∧ st.tm 4 = iv i ∧ OwnP st.hp (.c (.s 3) 0 0) (mapTo bareB p i)) p.length ?_ ?_
  · refine ⟨0, by omega, by omega, by simp, by simp, by simp, by simp, by simp, by simp, by simp, by simp, ?_⟩
    rw [mapTo_zero]
    exact ⟨by simp [ho1], fun j r hj => by simp [ho2 j r hj], fun j r hj => by simp [ho3 j r hj]⟩
  clear ho1 ho2 ho3 hO
  rintro n st - - ⟨i, rfl, hi, h1, hp1, h2, hp2, hp2', h3, hp3, h4, ⟨ho1, ho2, ho3⟩⟩
  have fx := And.intro h3 <| And.intro hp3 <| h4
  refine k_run ?_
  clear fx
  refine w_if (by simp []; first | done | rfl | exact (Bool.not_not _).symm) (fun ht => ?_) (fun hf => ?_)
  · have hlt : i < p.length := by simpa using ht
    obtain ⟨k, hk⟩ : ∃ k, p[i]? = some k := ⟨_, gE hlt⟩
    obtain ⟨_, hkE⟩ := gS hk
    obtain ⟨hkp, hkb⟩ := hs.bsm hk
    clear ht
    have fx := fx0
    refine k_run ?_
    clear fx
    refine w_loop (fun n st => ∃ j : Nat, n = k.body.length - j ∧ j ≤ k.body.length ∧ st.tm 1 = .pt (.s 1) 0 ∧ st.hp (.s 1) = some (.row 1 [[ksl p]]) ∧ st.tm 2 = .pt (.s 2) 0 ∧ st.hp (.s 2) = some (.row 1 [[.hs (.c (.s 2) 0 0) 4 0 0]]) ∧ st.hp (.c (.s 2) 0 0) = some (.row 4 []) ∧
      st.tm 3 = .pt (.s 3) 0 ∧ st.hp (.s 3) = some (.row 1 [[.hs (.c (.s 3) 0 0) 4 0 p.length]]) ∧ st.tm 4 = iv i ∧ OwnP st.hp (.c (.s 3) 0 0) (mapTo bareB p i) ∧ st.tm 6 = iv j ∧ st.tm 5 = .hs (.s 5) 4 0 (bareS (k.body.take j)).length ∧ st.hp (.s 5) = some (.row 4 (srows (bareS (k.body.take j))))) k.body.length ?_ ?_
    · refine ⟨0, by omega, by omega, by simp [h1], by simp [hp1], by simp [h2], by simp [hp2], by simp [hp2'], by simp [h3], by simp [hp3], by simp [h4], ⟨by simp [ho1], fun j r hj => by simp [ho2 j r hj], fun j r hj => by simp [ho3 j r hj]⟩, by simp, by simp [bareS], by simp [bareS]⟩
    clear h1 hp1 h2 hp2 hp2' h3 hp3 h4 ho1 ho2 ho3
    rintro n st - - ⟨j, rfl, hj, h1, hp1, h2, hp2, hp2', h3, hp3, h4, ⟨ho1, ho2, ho3⟩, h6, h5, hp5⟩
    have hbl : (bareS (k.body.take j)).length ≤ j := Nat.le_trans bareS_len (by simp; omega)
    have hst := fun s (h : k.body[j]? = some s) => bareS_step h
    generalize hL : bareS (k.body.take j) = L at h5 hp5 hbl hst
    have fx := And.intro h1 <| And.intro hp1 <| And.intro h4 <| And.intro h6 <| And.intro hk <| And.intro hkE <| hlt
    refine k_run ?_
    clear fx
    refine w_if (by simp []; first | done | rfl | exact (Bool.not_not _).symm) (fun ht => ?_) (fun hf => ?_)
    · have hjl : j < k.body.length := by simpa using ht
      obtain ⟨s, hsi⟩ : ∃ s, k.body[j]? = some s := ⟨_, gE hjl⟩
      obtain ⟨_, hsE⟩ := gS hsi
      have hst := hst s hsi
      clear ht
      cases hd : ((s.kind == 9) || (s.kind == 10))
      · obtain ⟨h9, h10⟩ : (s.kind == 9) = false ∧ (s.kind == 10) = false := by simpa using hd
        rw [hd] at hst
        simp only [Bool.false_eq_true, if_false] at hst
        have fx := And.intro h1 <| And.intro hp1 <| And.intro h4 <| And.intro h6 <| And.intro hk <| And.intro hkE <| And.intro hlt <| And.intro hsi <| And.intro hsE <| And.intro hjl <| And.intro h9 <| And.intro h10 <| And.intro @bne_def <| And.intro h5 <| hp5
        refine k_run ?_
        clear fx
        refine ⟨k.body.length - (j + 1), by omega, j + 1, rfl, by omega, by simp [h1], by simp [hp1], by simp [h2], by simp [hp2], by simp [hp2'], by simp [h3], by simp [hp3], by simp [h4], ⟨by simp [ho1], fun j r hj => by simp [ho2 j r hj], fun j r hj => by simp [ho3 j r hj]⟩, by simp; exact wrp (by omega) (by omega), by simp [hst], ?_⟩
        rw [hst, ← srows_app1]
        simp [hp5]
      · have hd' : (s.kind == 9) = true ∨ ((s.kind == 9) = false ∧ (s.kind == 10) = true) := by
          revert hd
          cases (s.kind == 9) <;> cases (s.kind == 10) <;> simp
        rw [hd] at hst
        simp only [if_true] at hst
        rcases hd' with h9 | ⟨h9, h10⟩
        case' inl => have h10 : True := trivial
        all_goals
          have fx := And.intro h1 <| And.intro hp1 <| And.intro h4 <| And.intro h6 <| And.intro hk <| And.intro hkE <| And.intro hlt <| And.intro hsi <| And.intro hsE <| And.intro hjl <| And.intro h9 <| And.intro h10 <| @bne_def
          refine k_run ?_
          clear fx
          exact ⟨k.body.length - (j + 1), by omega, j + 1, rfl, by omega, by simp [h1], by simp [hp1], by simp [h2], by simp [hp2], by simp [hp2'], by simp [h3], by simp [hp3], by simp [h4], ⟨by simp [ho1], fun j r hj => by simp [ho2 j r hj], fun j r hj => by simp [ho3 j r hj]⟩, by simp; exact wrp (by omega) (by omega), by simp [hst, h5], by simp [hst, hp5]⟩
    · have hge : j = k.body.length := by
        have : ¬ j < k.body.length := by simpa using hf
        omega
      subst hge
      rw [List.take_length] at hL
      subst hL
      clear hf hst
      have hset := pRows_set (n := .c (.s 3) 0 0) (a := 5) (i := i) (len := (bareS k.body).length) (p := mapTo bareB p i) (L := bareS k.body) rfl (by simp) (by simp)
      have hmg := mapTo_get (f := bareB) hk
      obtain ⟨_, hmgE⟩ := gS hmg
      have hml := mapTo_len (f := bareB) (l := p) hi
      have fx := And.intro h3 <| And.intro hp3 <| And.intro h4 <| And.intro h5 <| And.intro hp5 <| And.intro ho1 <| And.intro hmg <| And.intro hmgE <| And.intro hlt <| And.intro hset <| hml
      refine k_run ?_
      clear fx
      refine ⟨p.length - (i + 1), by omega, i + 1, rfl, by omega, by simp [h1], by simp [hp1], by simp [h2], by simp [hp2], by simp [hp2'], by simp [h3], by simp [hp3], by simp [h4]; exact wrp (by omega) (by omega), ?_⟩
      rw [← bareTo_step hk]
      refine ⟨by simp [hset], fun d r hd => ?_, fun d r hd => ?_⟩
      all_goals
        have hl : d < (mapTo bareB p i).length := by
          have := (gS hd).1
          rwa [setBody_len] at this
        obtain ⟨q, hq⟩ : ∃ q, (mapTo bareB p i)[d]? = some q := ⟨_, gE hl⟩
        rw [setBody_get hq] at hd
        obtain rfl := Option.some.inj hd
        by_cases hid : i = d
      · subst hid
        simp [ho2 i q hq]
      · simp [ho2 d q hq, hid, show ¬ d = i from fun e => hid e.symm]
      · subst hid
        simp [hp5]
      · simp [ho3 d q hq, hid, show ¬ d = i from fun e => hid e.symm]
  · have hge : i = p.length := by
      have : ¬ i < p.length := by simpa using hf
      omega
    subst hge
    rw [mapTo_all] at ho1 ho2 ho3
    have hbp : p.map bareB = bareP p := rfl
    rw [hbp] at ho1 ho2 ho3
    have fx := And.intro h2 <| And.intro hp2 <| And.intro hp2' <| And.intro h3 <| hp3
    refine k_run ?_
    clear fx
    refine e_ret [(.c (.s 3) 0 0, root)] (.one rfl) (by simp [h2]; rfl) ⟨by simp, ⟨?_, fun j r hj => ?_, fun j r hj => ?_⟩⟩
    · simp [ho1, pRows_tr (n := .c (.s 3) 0 0) (m := root) (f := finf noD [(.c (.s 3) 0 0, root)]) (p := bareP p) (by simp)]
    · simp [ho2 j r hj]
    · simp [ho3 j r hj]
end Go.Proofs.YtmaoicgfcngciaaDoor
end
