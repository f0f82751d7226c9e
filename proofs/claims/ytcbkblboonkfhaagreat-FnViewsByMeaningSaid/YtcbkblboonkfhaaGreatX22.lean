/-
  Own texts, joined by mkclaim.py: Wc, Wf, Ha, Hb, Hc.
-/
import Derived.Test.YtcbkblboonkfhaaGreatX20
import Derived.Test.YtcbkblboonkfhaaGreatX21
import Derived.Shelf.SlIterI.Nil
import Derived.Shelf.SortM.Plain
import Derived.Shelf.SortM.SortNone
import Derived.Test.YtcbkblboonkfhaaGreatX17
import Derived.Test.YtcbkblboonkfhaaGreatX19
import Derived.Test.YtcbkblboonkfhaaGreatX12
set_option linter.unusedSimpArgs false
set_option linter.unusedVariables false
set_option maxRecDepth 100000
set_option maxHeartbeats 4000000

section
namespace Go.Proofs.YtcbkblboonkfhaaGreat
open Go Go.Hm Go.Proofs
abbrev qsWc0 : Sch := .q 0 <| .q 1 <| .q 2 <| .q 3 <| .q 4 <| .q 5 <| .q 6 <| .q 7 <| .q 8 <| .q 9 <| .q 10 <| .l 11 [9, 8, 7, 6, 5, 4, 3, 2, 1, 0] <| .l 12 [9, 8, 7, 6, 5, 4, 3, 2, 1] <| .l 13 [] <| .done
abbrev qsWc1 : Sch := .q 0 <| .q 1 <| .q 2 <| .q 3 <| .q 4 <| .q 5 <| .q 6 <| .q 7 <| .q 8 <| .q 9 <| .q 10 <| .q 11 <| .q 12 <| .q 13 <| .q 14 <| .l 15 [13, 12, 11, 10, 9, 8, 7, 6, 5, 4, 3, 2, 1, 0] <| .l 16 [13, 12, 11, 10, 9, 8, 7, 6, 5, 4, 3, 2, 1] <| .l 17 [] <| .done
theorem zip_map_self {α β : Type} (g : α → β) : ∀ l : List α, l.zip (l.map g) = l.map fun x => (x, g x)
  | [] => rfl
  | x :: l => by simp [zip_map_self g l]
theorem vwRows_fixW {n : Nm} {vs : List Vw} {f : Nm → Option Nm} (h : ∀ i j, f (.c n i j) = some (.c n i j)) : (vwRows n vs).map (fun r => r.map (AV.tr f)) = vwRows n vs := vwRows_tr fun i j _ => h i j
attribute [local simp] vwRows_fixW
theorem spec_ViewsByMeaning_fn (gl) (p : Prg) (f : Int) (hs : Sml p) : FnOk Tryz.prog gl 35 [pav p, iv f] (fun r y H' => y = .hs r 3 0 (viewsG p f).length ∧ OwnVs H' r (viewsG p f)) := by
  refine FnOk.of_sem Tryz.func35 rfl (by kernel_rfl) (rs := [.tmp 4]) rfl Tryz.ntmps35 (Nat.le_of_ble_eq_true rfl) fun C w g root => ?_
  cases hv : fuelOk p f
  · have hG : viewsG p f = [] := by simp [viewsG, hv]
    rw [hG]
    have fx :=  hv
    have c1 := hv ▸ validFuel_fn gl p f hs
    refine k_run ?_
    repeat ((first | refine wSc (id := 17) qsWc0 mixed ?_ | refine wSc (id := 19) qsWc1 mixed ?_); refine k_rund ?_; refine k_run ?_)
    clear fx c1
    refine e_ret [(.s 4, root)] (.one rfl) (by simp; rfl) ⟨by simp, ⟨by simp, fun i c h => by simp at h⟩⟩
  obtain ⟨hpo, n, rfl, hn⟩ := fuelOk_of hv
  have hP := ValP.of hs hpo
  have hh := hP.sh.heads
  have hm := meantOk hP.sh hn
  have hw := hm.ok
  have hG : viewsG p n = viewsV p (meantW p n) := by simp [viewsG, hv]
  rw [hG]
  have fx :=  hv
  have c1 := hv ▸ validFuel_fn gl p n hs
  refine k_run ?_
  repeat ((first | refine wSc (id := 17) qsWc0 mixed ?_ | refine wSc (id := 19) qsWc1 mixed ?_); refine k_rund ?_; refine k_run ?_)
  clear fx c1
  intro K hK
  have fx := fx0
  refine x_mut Wn rfl (by simp [ctx0, noH]) (hF := meant_fn gl _ p n hP hn (by simp [noH])) (h := ?_)
  rintro y H1 ⟨rfl, hO1⟩
  clear fx
  generalize meantW p n = W at *
  have hlen := hw.nacts
  have hT1 := hO1.top
  simp only [wRow] at hT1
  have fx :=  hT1
  refine k_run ?_
  repeat ((first | refine wSc (id := 17) qsWc0 mixed ?_ | refine wSc (id := 19) qsWc1 mixed ?_); refine k_rund ?_; refine k_run ?_)
  clear fx
  refine w_loop (fun n st => ∃ (i : Nat) (vs : List Vw), n = W.stack.length - i ∧ i ≤ W.stack.length ∧ vs = (W.stack.take i).map (viewV p W) ∧ vs.length = i ∧ st.tm 7 = iv i ∧ st.tm 5 = .pt Wn 0 ∧ OwnW st.hp p W ∧ st.tm 2 = .pt (.s 2) 0 ∧ st.hp (.s 2) = some (.row 1 [[ksl p]]) ∧ st.tm 6 = .hs (.s 6) 3 0 vs.length ∧ OwnVs st.hp (.s 6) vs) W.stack.length ?_ ?_
  · exact ⟨0, [], by omega, by omega, by simp, rfl, by simp, by simp, (have ow := hO1; OwnW.re ow), by simp, by simp, by simp, ⟨by simp, fun i c h => by simp at h⟩⟩
  clear hT1 hO1
  rintro n0 st - - ⟨i, vs, rfl, hi, hvs, hvl, h7, h5, hO, h2, hp2, h6, ⟨ht, he⟩⟩
  have hT := hO.top
  have hA := hO.acts
  obtain ⟨lS, hS⟩ := hO.stk
  simp only [wRow] at hT
  by_cases hil : i < W.stack.length
  · obtain ⟨a, ha⟩ : ∃ a, W.stack[i]? = some a := ⟨_, gE hil⟩
    obtain ⟨_, haE⟩ := gS ha
    have hal := hw.stk a (List.mem_of_getElem? ha)
    obtain ⟨c, hc⟩ : ∃ c, W.acts[a]? = some c := ⟨_, gE hal⟩
    obtain ⟨_, hcE⟩ := gS hc
    have hbk := blk_at hc
    have hbl := hw.blks a c hc
    obtain ⟨k, hk⟩ : ∃ k, p[c.blk]? = some k := ⟨_, gE hbl⟩
    have hse := seen_fn gl p c.blk k hk ⟨hs, hP.sh⟩ hs
    have hSi : (nints W.stack ++ lS)[i]? = some (a : Int) := by
      rw [List.getElem?_append_left (by simpa [nints] using hil)]
      simp [nints, ha]
    obtain ⟨hSil, hSiE⟩ := gS hSi
    generalize hST : nints W.stack ++ lS = ST at hS hSi hSil hSiE
    have fx := And.intro h5 <| And.intro h7 <| And.intro h2 <| And.intro hp2 <| And.intro hT <| And.intro hA <| And.intro hS <| And.intro hSi <| And.intro hSil <| And.intro hSiE <| And.intro hil <| And.intro ha <| And.intro haE <| And.intro hal <| And.intro hc <| hcE
    have d1 := hse
    refine k_run ?_
    repeat ((first | refine wSc (id := 17) qsWc0 mixed ?_ | refine wSc (id := 19) qsWc1 mixed ?_); refine k_rund ?_; refine k_run ?_)
    clear fx d1
    obtain ⟨S, hSe⟩ : ∃ S, S = seenL p c.blk := ⟨_, rfl⟩
    have hSl : S.length ≤ 8 := hSe ▸ seenL_len
    have hSm : ∀ x ∈ S, x ∈ seenL p c.blk := fun x hx => hSe ▸ hx
    rw [← hSe]
    refine w_loop (fun n1 st => ∃ (j : Nat) (L : List Slt), n1 = S.length - j ∧ j ≤ S.length ∧ L = (S.take j).map (slotV p W a) ∧ L.length = j ∧ st.tm 12 = iv j ∧ st.tm 11 = .hs (.s 11) 3 0 L.length ∧ st.hp (.s 11) = some (.row 3 (slrows L)) ∧ st.tm 10 = .hs (.s 10) 1 0 S.length ∧ st.hp (.s 10) = some (.row 1 (irows S)) ∧ st.tm 9 = iv c.blk ∧ st.tm 8 = iv a ∧ st.tm 7 = iv i ∧ st.tm 5 = .pt Wn 0 ∧ OwnW st.hp p W ∧ st.tm 2 = .pt (.s 2) 0 ∧ st.hp (.s 2) = some (.row 1 [[ksl p]]) ∧ st.tm 6 = .hs (.s 6) 3 0 vs.length ∧ OwnVs st.hp (.s 6) vs) S.length ⟨0, [], by omega, by omega, by simp, rfl, by simp, by simp, by simp, by simp, by simp, by simp, by simp, by simp [h7], by simp [h5], (have ow := hO; OwnW.re ow), by simp [h2], by simp [hp2], by simp [h6], ⟨by simp [ht], fun q v hq => ⟨by simp [(he q v hq).names], by simp [(he q v hq).vals]⟩⟩⟩ ?_
    clear hT hA hS hO h5 h7 h2 hp2 h6 ht he
    rintro n1 st - - ⟨j, L, rfl, hj, hL, hLl, h12, h11, hp11, h10, hp10, h9, h8, h7, h5, hO, h2, hp2, h6, ⟨ht, he⟩⟩
    have hT := hO.top
    have hA := hO.acts
    have hGl := hO.glob
    simp only [wRow] at hT
    have hg8 := hw.glob.1
    have hLb : L.length ≤ 100 := by omega
    by_cases hjl : j < S.length
    · obtain ⟨x, hx⟩ : ∃ x, S[j]? = some x := ⟨_, gE hjl⟩
      obtain ⟨_, hxE⟩ := gS hx
      have hxs := hSm x (List.mem_of_getElem? hx)
      obtain ⟨hx0, hx7⟩ := seenL_rng hxs
      obtain ⟨X, rfl⟩ : ∃ X : Nat, x = X := ⟨x.toNat, by omega⟩
      have hX8 : X < 8 := by omega
      have hXi : (X : Int) < 8 := by omega
      by_cases hb0 : c.blk = 0
      · have hb0' : ((c.blk : Int) == 0) = true := by simp [hb0]
        obtain ⟨s, hs'⟩ : ∃ s, W.globals[X]? = some s := ⟨_, gE (by omega)⟩
        obtain ⟨_, hsE⟩ := gS hs'
        have hsv : slotV p W a X = s := by simp [slotV, hbk, hb0, Wld.get, Wld.vars, hs']
        rcases s with _ | ⟨v1, v2⟩
        all_goals
          have fx := And.intro h12 <| And.intro h11 <| And.intro hp11 <| And.intro h10 <| And.intro hp10 <| And.intro h9 <| And.intro h8 <| And.intro h5 <| And.intro hT <| And.intro hGl <| And.intro hg8 <| And.intro hjl <| And.intro hx <| And.intro hxE <| And.intro hb0' <| And.intro hs' <| And.intro hsE <| And.intro hX8 <| And.intro hXi <| hLb
          refine k_run ?_
          repeat ((first | refine wSc (id := 17) qsWc0 mixed ?_ | refine wSc (id := 19) qsWc1 mixed ?_); refine k_rund ?_; refine k_run ?_)
          clear fx
        · exact ⟨S.length - (j + 1), by omega, j + 1, L ++ [none], rfl, by omega, by rw [List.take_add_one, hx, List.map_append, hL]; simp [hsv], by simp [hLl], by simp [h12]; exact wrp (by omega) (by omega), by simp, by simp [← slrows_app]; rfl, by simp [h10], by simp [hp10], by simp [h9], by simp [h8], by simp [h7], by simp [h5], (have ow := hO; OwnW.re ow), by simp [h2], by simp [hp2], by simp [h6], ⟨by simp [ht], fun q v hq => ⟨by simp [(he q v hq).names], by simp [(he q v hq).vals]⟩⟩⟩
        · exact ⟨S.length - (j + 1), by omega, j + 1, L ++ [some (v1, v2)], rfl, by omega, by rw [List.take_add_one, hx, List.map_append, hL]; simp [hsv], by simp [hLl], by simp [h12]; exact wrp (by omega) (by omega), by simp, by simp [← slrows_app]; rfl, by simp [h10], by simp [hp10], by simp [h9], by simp [h8], by simp [h7], by simp [h5], (have ow := hO; OwnW.re ow), by simp [h2], by simp [hp2], by simp [h6], ⟨by simp [ht], fun q v hq => ⟨by simp [(he q v hq).names], by simp [(he q v hq).vals]⟩⟩⟩
      have hb0' : ((c.blk : Int) == 0) = false := by rw [beq_eq_false_iff_ne]; omega
      have hkk : kindAt p c.blk = k.kind := by simp [kindAt, hk]
      obtain ⟨hkl, hkE⟩ := gS hk
      have hV := hO.act a c hc
      have hvl := (hw.vars a c hc).1
      by_cases hk2 : k.kind = 2
      · have hk2' : (k.kind == 2) = true := by simp [hk2]
        obtain ⟨s, hs'⟩ : ∃ s, c.vars[X]? = some s := ⟨_, gE (by omega)⟩
        obtain ⟨_, hsE⟩ := gS hs'
        have hsv : slotV p W a X = s := by simp [slotV, hbk, hb0, hkk, hk2, Wld.get, Wld.vars, hc, hs']
        rcases s with _ | ⟨v1, v2⟩
        all_goals
          have fx := And.intro h12 <| And.intro h11 <| And.intro hp11 <| And.intro h10 <| And.intro hp10 <| And.intro h9 <| And.intro h8 <| And.intro h5 <| And.intro h2 <| And.intro hp2 <| And.intro hT <| And.intro hA <| And.intro hc <| And.intro hcE <| And.intro hal <| And.intro hV <| And.intro hvl <| And.intro hjl <| And.intro hx <| And.intro hxE <| And.intro hb0' <| And.intro hk2' <| And.intro hk <| And.intro hkE <| And.intro hkl <| And.intro hs' <| And.intro hsE <| And.intro hX8 <| And.intro hXi <| hLb
          refine k_run ?_
          repeat ((first | refine wSc (id := 17) qsWc0 mixed ?_ | refine wSc (id := 19) qsWc1 mixed ?_); refine k_rund ?_; refine k_run ?_)
          clear fx
        · exact ⟨S.length - (j + 1), by omega, j + 1, L ++ [none], rfl, by omega, by rw [List.take_add_one, hx, List.map_append, hL]; simp [hsv], by simp [hLl], by simp [h12]; exact wrp (by omega) (by omega), by simp, by simp [← slrows_app]; rfl, by simp [h10], by simp [hp10], by simp [h9], by simp [h8], by simp [h7], by simp [h5], (have ow := hO; OwnW.re ow), by simp [h2], by simp [hp2], by simp [h6], ⟨by simp [ht], fun q v hq => ⟨by simp [(he q v hq).names], by simp [(he q v hq).vals]⟩⟩⟩
        · exact ⟨S.length - (j + 1), by omega, j + 1, L ++ [some (v1, v2)], rfl, by omega, by rw [List.take_add_one, hx, List.map_append, hL]; simp [hsv], by simp [hLl], by simp [h12]; exact wrp (by omega) (by omega), by simp, by simp [← slrows_app]; rfl, by simp [h10], by simp [hp10], by simp [h9], by simp [h8], by simp [h7], by simp [h5], (have ow := hO; OwnW.re ow), by simp [h2], by simp [hp2], by simp [h6], ⟨by simp [ht], fun q v hq => ⟨by simp [(he q v hq).names], by simp [(he q v hq).vals]⟩⟩⟩
      have hk2' : (k.kind == 2) = false := by rw [beq_eq_false_iff_ne]; exact hk2
      have hk1 : k.kind = 1 := by
        have := hP.sh.head c.blk k hk
        unfold HeadOk at this
        rw [if_neg hb0] at this
        omega
      rw [← hbk] at hk hxs
      have hkc := hk
      rw [hbk] at hkc
      obtain ⟨s, hsv⟩ : ∃ s, slotV p W a X = s := ⟨_, rfl⟩
      have hout := fun H hO => outward_fn gl H p W a X k hP.sh hw hal hX8 hk hk1 hxs hO
      have hsv2 : W.get (some (climb W.acts (holdB p (W.blk a) X) a a)) X = s := by
        rw [← hsv]
        simp only [slotV]
        rw [if_neg (by rw [hbk]; exact hb0), if_neg (by rw [hbk, hkk, hk1]; decide)]
      rw [hsv2] at hout
      have fx := And.intro h12 <| And.intro h11 <| And.intro hp11 <| And.intro h10 <| And.intro hp10 <| And.intro h9 <| And.intro h8 <| And.intro h5 <| And.intro h2 <| And.intro hp2 <| And.intro hT <| And.intro hjl <| And.intro hx <| And.intro hxE <| And.intro hb0' <| And.intro hk2' <| And.intro hkc <| And.intro hkE <| And.intro hkl <| And.intro hX8 <| hXi
      refine k_run ?_
      repeat ((first | refine wSc (id := 17) qsWc0 mixed ?_ | refine wSc (id := 19) qsWc1 mixed ?_); refine k_rund ?_; refine k_run ?_)
      clear fx
      intro K hK
      have fx := And.intro h12 (And.intro h11 (And.intro h10 (And.intro h9 (And.intro h8 (And.intro h5 hT)))))
      refine x_mut Wn rfl (by simp [hT]) (hF := hout _ (have ow := hO; OwnW.re ow)) (h := ?_)
      rintro y H1 ⟨rfl, hO1⟩
      clear fx
      have hT1 := hO1.top
      simp only [wRow] at hT1
      rcases s with _ | ⟨v1, v2⟩
      all_goals
        have fx := And.intro h12 <| And.intro h11 <| And.intro hp11 <| And.intro h10 <| And.intro h9 <| And.intro h8 <| And.intro h5 <| And.intro hT1 <| hLb
        refine k_run ?_
        repeat ((first | refine wSc (id := 17) qsWc0 mixed ?_ | refine wSc (id := 19) qsWc1 mixed ?_); refine k_rund ?_; refine k_run ?_)
        clear fx
      · exact ⟨S.length - (j + 1), by omega, j + 1, L ++ [none], rfl, by omega, by rw [List.take_add_one, hx, List.map_append, hL]; simp [hsv], by simp [hLl], by simp [h12]; exact wrp (by omega) (by omega), by simp, by simp [← slrows_app]; rfl, by simp [h10], by simp [hp10], by simp [h9], by simp [h8], by simp [h7], by simp [h5, hT], (have ow := hO1; OwnW.re ow), by simp [h2], by simp [hp2], by simp [h6], ⟨by simp [ht], fun q v hq => ⟨by simp [(he q v hq).names], by simp [(he q v hq).vals]⟩⟩⟩
      · exact ⟨S.length - (j + 1), by omega, j + 1, L ++ [some (v1, v2)], rfl, by omega, by rw [List.take_add_one, hx, List.map_append, hL]; simp [hsv], by simp [hLl], by simp [h12]; exact wrp (by omega) (by omega), by simp, by simp [← slrows_app]; rfl, by simp [h10], by simp [hp10], by simp [h9], by simp [h8], by simp [h7], by simp [h5, hT], (have ow := hO1; OwnW.re ow), by simp [h2], by simp [hp2], by simp [h6], ⟨by simp [ht], fun q v hq => ⟨by simp [(he q v hq).names], by simp [(he q v hq).vals]⟩⟩⟩
    · obtain rfl : j = S.length := by omega
      rw [List.take_length] at hL
      have hLS : L.length = S.length := hLl
      have hvw := view_fn gl c.blk S L hLS hSl
      have hzip : S.zip L = S.map fun x => (x, slotV p W a x) := by rw [hL]; exact zip_map_self _ S
      obtain ⟨v, hv'⟩ : ∃ v : Vw, v = ⟨c.blk, vnames (S.zip L), vvals (S.zip L)⟩ := ⟨_, rfl⟩
      have hve : viewV p W a = v := by
        rw [hv', hzip]
        simp only [viewV, hbk, ← hSe]
      rw [← hv'] at hvw
      have hnst := hw.nstk
      have hvl2 : vs.length ≤ 1000 := by omega
      have fx := And.intro h12 <| And.intro h11 <| And.intro hp11 <| And.intro h10 <| And.intro hp10 <| And.intro h9 <| And.intro h6 <| hjl
      have e1 := hvw
      refine k_run ?_
      repeat ((first | refine wSc (id := 17) qsWc0 mixed ?_ | refine wSc (id := 19) qsWc1 mixed ?_); refine k_rund ?_; refine k_run ?_)
      clear fx e1
      rintro K hK y H2 ⟨rfl, hVv⟩
      obtain ⟨o1, o2⟩ := hVv.hcln
      refine ⟨by simp, ?_⟩
      have fx := And.intro h6 <| And.intro ht <| And.intro h7 <| And.intro hvl2 <| And.intro o1 <| o2
      refine k_run ?_
      repeat ((first | refine wSc (id := 17) qsWc0 mixed ?_ | refine wSc (id := 19) qsWc1 mixed ?_); refine k_rund ?_; refine k_run ?_)
      clear fx
      refine ⟨W.stack.length - (i + 1), by omega, i + 1, vs ++ [v], rfl, by omega, by rw [List.take_add_one, ha, List.map_append, hvs]; simp [hve], by simp [hvl], by simp [h7]; exact wrp (by omega) (by omega), by simp [h5], (have ow := hO; OwnW.re ow), by simp [h2], by simp [hp2], by simp, ⟨?_, fun q d hq => ?_⟩⟩
      · simp [ht, vwRows_app]
      · rcases Nat.lt_or_ge q vs.length with hlq | hgq
        · rw [List.getElem?_append_left hlq] at hq
          have hne : ¬ q = vs.length := by omega
          obtain ⟨e1, e2⟩ := he q d hq
          exact ⟨by simp [hne, e1], by simp [hne, e2]⟩
        · rw [List.getElem?_append_right hgq] at hq
          obtain rfl : q = vs.length := by
            have := (gS hq).1
            simp at this
            omega
          simp at hq
          subst hq
          exact ⟨by simp [o1], by simp [o2]⟩
  · obtain rfl : i = W.stack.length := by omega
    rw [List.take_length] at hvs
    have hve : vs = viewsV p W := hvs
    subst hve
    have fx := And.intro h5 <| And.intro h7 <| And.intro hT <| And.intro hil <| And.intro h6 <| ht
    refine k_run ?_
    repeat ((first | refine wSc (id := 17) qsWc0 mixed ?_ | refine wSc (id := 19) qsWc1 mixed ?_); refine k_rund ?_; refine k_run ?_)
    clear fx
    refine e_ret [(.s 4, root)] (.one rfl) (by simp; rfl) ⟨by simp, ⟨by simp [ht, vwRows_tr (n := .s 4) (m := root) (f := finf noD [(.s 4, root)]) (by simp)], fun q v hq => ⟨by simp [(he q v hq).names], by simp [(he q v hq).vals]⟩⟩⟩
end Go.Proofs.YtcbkblboonkfhaaGreat
end
section
namespace Go.Proofs.YtcbkblboonkfhaaGreat
open Go Go.Proofs Go.RowKit Go.Maps Go.Sort Go.Shelf
def keysA_ren : Go.Shelf.Ren := ⟨fun | 7 => 170 | 10 => 192 | n => n, fun | 23 => 163 | 26 => 3 | 3 => 119 | 28 => 203 | 0 => 0 | 27 => 202 | 33 => 81 | 4 => 4 | n => n, fun | n => n⟩
theorem keysA : Go.Proofs.SlLaysZI.n7 Tryz.prog keysA_ren where
  mixed := by kernel_rfl
  f7 := ⟨Tryz.f170.name, by decide, Tryz.func170.trans (congrArg some (by kernel_rfl))⟩
  f10 := ⟨Tryz.f192.name, by decide, Tryz.func192.trans (congrArg some (by kernel_rfl))⟩
  t0 := Tryz.underlying0
  a0 := Tryz.isAgg0
  z0 := Tryz.sizeOf0
  v0 := Tryz.zeroValue0
  t4 := Tryz.underlying4
  a4 := Tryz.isAgg4
  z4 := Tryz.sizeOf4
  v4 := Tryz.zeroValue4
  t23 := Tryz.underlying163
  a23 := Tryz.isAgg163
  z23 := Tryz.sizeOf163
  v23 := Tryz.zeroValue163
  t26 := Tryz.underlying3
  a26 := Tryz.isAgg3
  z26 := Tryz.sizeOf3
  v26 := Tryz.zeroValue3
  t27 := Tryz.underlying202
  a27 := Tryz.isAgg202
  z27 := Tryz.sizeOf202
  v27 := Tryz.zeroValue202
  t28 := Tryz.underlying203
  a28 := Tryz.isAgg203
  z28 := Tryz.sizeOf203
  v28 := Tryz.zeroValue203
  t33 := Tryz.underlying81
  a33 := Tryz.isAgg81
  z33 := Tryz.sizeOf81
  v33 := Tryz.zeroValue81
def sortedA_ren : Go.Shelf.Ren := ⟨fun | 6 => 169 | 8 => 190 | 9 => 191 | 11 => 203 | 13 => 205 | 12 => 204 | 23 => 219 | 24 => 220 | 14 => 210 | 15 => 211 | 16 => 212 | 17 => 213 | 18 => 214 | 19 => 215 | 20 => 216 | 21 => 217 | 22 => 218 | 25 => 222 | 26 => 223 | 27 => 224 | 28 => 225 | 29 => 226 | 30 => 227 | 31 => 228 | n => n, fun | 26 => 3 | 28 => 203 | 24 => 41 | 0 => 0 | 3 => 3 | 37 => 239 | 48 => 255 | 50 => 257 | 4 => 4 | 40 => 247 | 39 => 246 | 45 => 252 | 5 => 5 | 9 => 9 | 51 => 259 | 55 => 263 | 57 => 265 | 58 => 266 | 33 => 81 | n => n, fun | n => n⟩
theorem sortedA : Go.Proofs.SlLaysZI.n6 Tryz.prog sortedA_ren where
  mixed := by kernel_rfl
  f6 := ⟨Tryz.f169.name, by decide, Tryz.func169.trans (congrArg some (by kernel_rfl))⟩
  f8 := ⟨Tryz.f190.name, by decide, Tryz.func190.trans (congrArg some (by kernel_rfl))⟩
  f11 := ⟨Tryz.f203.name, by decide, Tryz.func203.trans (congrArg some (by kernel_rfl))⟩
  t0 := Tryz.underlying0
  a0 := Tryz.isAgg0
  z0 := Tryz.sizeOf0
  v0 := Tryz.zeroValue0
  t24 := Tryz.underlying41
  a24 := Tryz.isAgg41
  z24 := Tryz.sizeOf41
  v24 := Tryz.zeroValue41
  t26 := Tryz.underlying3
  a26 := Tryz.isAgg3
  z26 := Tryz.sizeOf3
  v26 := Tryz.zeroValue3
  t28 := Tryz.underlying203
  a28 := Tryz.isAgg203
  z28 := Tryz.sizeOf203
  v28 := Tryz.zeroValue203
  i26 := by kernel_rfl
def sortA_ren : Go.Shelf.Ren := ⟨fun | 5 => 191 | 8 => 205 | 7 => 204 | 19 => 219 | 20 => 220 | 10 => 210 | 11 => 211 | 12 => 212 | 13 => 213 | 14 => 214 | 15 => 215 | 16 => 216 | 17 => 217 | 18 => 218 | 30 => 222 | 31 => 223 | 32 => 224 | 33 => 225 | 34 => 226 | 35 => 227 | 40 => 228 | n => n, fun | 23 => 41 | 25 => 3 | 3 => 3 | 32 => 239 | 22 => 41 | 0 => 0 | 44 => 255 | 46 => 257 | 4 => 4 | 36 => 247 | 35 => 246 | 41 => 252 | 5 => 5 | 9 => 9 | 53 => 259 | 57 => 263 | 63 => 265 | 64 => 266 | n => n, fun | n => n⟩
theorem sortA : Go.Proofs.SlLaysM.n5 Tryz.prog sortA_ren where
  mixed := by kernel_rfl
  f5 := ⟨Tryz.f191.name, by decide, Tryz.func191.trans (congrArg some (by kernel_rfl))⟩
  f7 := ⟨Tryz.f204.name, by decide, Tryz.func204.trans (congrArg some (by kernel_rfl))⟩
  f8 := Tryz.func205.trans (congrArg some (by kernel_rfl))
  f10 := ⟨Tryz.f210.name, by decide, Tryz.func210.trans (congrArg some (by kernel_rfl))⟩
  f11 := ⟨Tryz.f211.name, by decide, Tryz.func211.trans (congrArg some (by kernel_rfl))⟩
  f12 := ⟨Tryz.f212.name, by decide, Tryz.func212.trans (congrArg some (by kernel_rfl))⟩
  f13 := ⟨Tryz.f213.name, by decide, Tryz.func213.trans (congrArg some (by kernel_rfl))⟩
  f14 := ⟨Tryz.f214.name, by decide, Tryz.func214.trans (congrArg some (by kernel_rfl))⟩
  f15 := ⟨Tryz.f215.name, by decide, Tryz.func215.trans (congrArg some (by kernel_rfl))⟩
  f16 := ⟨Tryz.f216.name, by decide, Tryz.func216.trans (congrArg some (by kernel_rfl))⟩
  f17 := ⟨Tryz.f217.name, by decide, Tryz.func217.trans (congrArg some (by kernel_rfl))⟩
  f18 := ⟨Tryz.f218.name, by decide, Tryz.func218.trans (congrArg some (by kernel_rfl))⟩
  f19 := Tryz.func219.trans (congrArg some (by kernel_rfl))
  f20 := Tryz.func220.trans (congrArg some (by kernel_rfl))
  f30 := ⟨Tryz.f222.name, by decide, Tryz.func222.trans (congrArg some (by kernel_rfl))⟩
  f31 := Tryz.func223.trans (congrArg some (by kernel_rfl))
  f32 := Tryz.func224.trans (congrArg some (by kernel_rfl))
  f33 := ⟨Tryz.f225.name, by decide, Tryz.func225.trans (congrArg some (by kernel_rfl))⟩
  f34 := ⟨Tryz.f226.name, by decide, Tryz.func226.trans (congrArg some (by kernel_rfl))⟩
  f35 := ⟨Tryz.f227.name, by decide, Tryz.func227.trans (congrArg some (by kernel_rfl))⟩
  f40 := ⟨Tryz.f228.name, by decide, Tryz.func228.trans (congrArg some (by kernel_rfl))⟩
  t0 := Tryz.underlying0
  a0 := Tryz.isAgg0
  z0 := Tryz.sizeOf0
  v0 := Tryz.zeroValue0
  t3 := Tryz.underlying3
  a3 := Tryz.isAgg3
  z3 := Tryz.sizeOf3
  v3 := Tryz.zeroValue3
  t4 := Tryz.underlying4
  a4 := Tryz.isAgg4
  z4 := Tryz.sizeOf4
  v4 := Tryz.zeroValue4
  t5 := Tryz.underlying5
  a5 := Tryz.isAgg5
  z5 := Tryz.sizeOf5
  v5 := Tryz.zeroValue5
  t9 := Tryz.underlying9
  a9 := Tryz.isAgg9
  z9 := Tryz.sizeOf9
  v9 := Tryz.zeroValue9
  t22 := Tryz.underlying41
  a22 := Tryz.isAgg41
  z22 := Tryz.sizeOf41
  v22 := Tryz.zeroValue41
  t23 := Tryz.underlying41
  a23 := Tryz.isAgg41
  z23 := Tryz.sizeOf41
  v23 := Tryz.zeroValue41
  t25 := Tryz.underlying3
  a25 := Tryz.isAgg3
  z25 := Tryz.sizeOf3
  v25 := Tryz.zeroValue3
  t32 := Tryz.underlying239
  a32 := Tryz.isAgg239
  z32 := Tryz.sizeOf239
  v32 := Tryz.zeroValue239
  t35 := Tryz.underlying246
  a35 := Tryz.isAgg246
  z35 := Tryz.sizeOf246
  v35 := Tryz.zeroValue246
  t36 := Tryz.underlying247
  a36 := Tryz.isAgg247
  z36 := Tryz.sizeOf247
  v36 := Tryz.zeroValue247
  t41 := Tryz.underlying252
  a41 := Tryz.isAgg252
  z41 := Tryz.sizeOf252
  v41 := Tryz.zeroValue252
  t44 := Tryz.underlying255
  a44 := Tryz.isAgg255
  z44 := Tryz.sizeOf255
  v44 := Tryz.zeroValue255
  t46 := Tryz.underlying257
  a46 := Tryz.isAgg257
  z46 := Tryz.sizeOf257
  v46 := Tryz.zeroValue257
  t53 := Tryz.underlying259
  a53 := Tryz.isAgg259
  z53 := Tryz.sizeOf259
  v53 := Tryz.zeroValue259
  t57 := Tryz.underlying263
  a57 := Tryz.isAgg263
  z57 := Tryz.sizeOf263
  v57 := Tryz.zeroValue263
  t63 := Tryz.underlying265
  a63 := Tryz.isAgg265
  z63 := Tryz.sizeOf265
  v63 := Tryz.zeroValue265
  t64 := Tryz.underlying266
  a64 := Tryz.isAgg266
  z64 := Tryz.sizeOf266
  v64 := Tryz.zeroValue266
theorem sortsA (m : Nat) : AnyZI.SortsIn Tryz.prog sortedA_ren Fence.wide m :=
  ⟨fun blk off cap ss W hH hblk hsz => callsIn_wide.2 (AnyM.slices_Sort_int sortA blk off cap ss W hH hblk hsz), fun p cap W => callsIn_wide.2 (AnyM.slices_Sort_int_none sortA p cap W)⟩
theorem sorted_calls {H : Type} (Bm b nn : Nat) (D0 : DataW H) (R : Value → Option (DataW H × List MemPlace)) (w : World) (hBm : Bm < w.heap.size) (hm : w.cell? ⟨Bm, 0, none⟩ = some (.map (some b))) (hown : w.ownsMap Tryz.prog 3 R b nn D0) (hmax : Maps.size D0 ≤ maxLen) (hbytes : Maps.size D0 * 8 ≤ 140737488355328) :
    Calls Tryz.prog 169 #[.func (.func 192) #[] #[.pointer (some ⟨Bm, 0, none⟩)]] w fun e w' => ∃ (v : Value) (ss : List Int), e = .returned v ∧ ss.Perm (intKeys D0) ∧
      w'.ownsRow w.heap.size 3 1 v ss.length ((ss.mergeSort (fun x y => decide (x ≤ y))).map encZ) ∧ (v = .slice none 0 0 ↔ ss = []) ∧ Below w.heap.size w w' := by
  have hseq : SeqGives Fence.wide 2 Tryz.prog 192 #[.pointer (some ⟨Bm, 0, none⟩)] encZ (fun ss => ss.Perm (intKeys D0)) (Maps.size D0) w :=
    AnyZI.keys_gives (ρ := keysA_ren) { keysA with } Fence.wide _ trivial rfl (by omega) Bm b nn D0 _ hBm hm hown
  have cS := AnyZI.sorted_in sortedA Fence.wide 5 trivial trivial trivial trivial rfl (by omega) (sortsA _) (enters_of Tryz.func191 (by kernel_rfl) rfl) 192 #[.pointer (some ⟨Bm, 0, none⟩)] trivial (enters_of Tryz.func192 (by kernel_rfl) rfl) _ _ hmax hbytes _ hseq
  exact (callsIn_wide (n := 5)).1 cS
end Go.Proofs.YtcbkblboonkfhaaGreat
end
section
namespace Go.Proofs.YtcbkblboonkfhaaGreat
open Go Go.Hm Go.Proofs
def formAV (s : Stm) : AV :=
  if s.kind = 0 then .ifc 182 (.agg [iv s.a]) else if s.kind = 1 then .ifc 184 (.agg [iv s.a]) else if s.kind = 2 then .ifc 186 (.agg [iv s.a, iv s.b])
  else if s.kind = 3 then .ifc 157 (.agg [iv 1, iv s.a]) else if s.kind = 4 then .ifc 157 (.agg [iv 2, iv s.a]) else if s.kind = 5 then .ifc 188 (.agg [iv s.a, iv s.b])
  else if s.kind = 6 then .ifc 190 (.agg [iv s.a, iv s.b]) else if s.kind = 7 then .ifc 192 (.agg [iv s.a]) else if s.kind = 8 then .ifc 193 (.agg [iv s.a])
  else if s.kind = 9 ∨ s.kind = 10 then .ifc 195 (.agg []) else if s.kind = 11 then .ifc 196 (.agg []) else .sc .nilIface
@[simp] theorem formAV_cln (s : Stm) : (formAV s).cln = true := by
  unfold formAV
  repeat' split
  all_goals simp
section
variable {n : Int} {to a b : Int}
@[simp] theorem formAV_0 : formAV ⟨0, to, a, b⟩ = .ifc 182 (.agg [iv a]) := by simp [formAV]
@[simp] theorem formAV_1 : formAV ⟨1, to, a, b⟩ = .ifc 184 (.agg [iv a]) := by simp [formAV]
@[simp] theorem formAV_2 : formAV ⟨2, to, a, b⟩ = .ifc 186 (.agg [iv a, iv b]) := by simp [formAV]
@[simp] theorem formAV_3 : formAV ⟨3, to, a, b⟩ = .ifc 157 (.agg [iv 1, iv a]) := by simp [formAV]
@[simp] theorem formAV_4 : formAV ⟨4, to, a, b⟩ = .ifc 157 (.agg [iv 2, iv a]) := by simp [formAV]
@[simp] theorem formAV_5 : formAV ⟨5, to, a, b⟩ = .ifc 188 (.agg [iv a, iv b]) := by simp [formAV]
@[simp] theorem formAV_6 : formAV ⟨6, to, a, b⟩ = .ifc 190 (.agg [iv a, iv b]) := by simp [formAV]
@[simp] theorem formAV_7 : formAV ⟨7, to, a, b⟩ = .ifc 192 (.agg [iv a]) := by simp [formAV]
@[simp] theorem formAV_8 : formAV ⟨8, to, a, b⟩ = .ifc 193 (.agg [iv a]) := by simp [formAV]
@[simp] theorem formAV_9 : formAV ⟨9, to, a, b⟩ = .ifc 195 (.agg []) := by simp [formAV]
@[simp] theorem formAV_10 : formAV ⟨10, to, a, b⟩ = .ifc 195 (.agg []) := by simp [formAV]
@[simp] theorem formAV_11 : formAV ⟨11, to, a, b⟩ = .ifc 196 (.agg []) := by simp [formAV]
theorem formAV_no {s : Stm} (h : ¬ (0 ≤ s.kind ∧ s.kind ≤ 11)) : formAV s = .sc .nilIface := by
  unfold formAV
  repeat' split
  all_goals first | rfl | omega
theorem kind_cases (n : Int) : n = 0 ∨ n = 1 ∨ n = 2 ∨ n = 3 ∨ n = 4 ∨ n = 5 ∨ n = 6 ∨ n = 7 ∨ n = 8 ∨ n = 9 ∨ n = 10 ∨ n = 11 ∨ ¬ (0 ≤ n ∧ n ≤ 11) := by omega
end
theorem formOf_fn (gl) (s : Stm) : FnOk Tryz.prog gl 129 [s.av] (fun _ x _ => x = formAV s) := by
  refine FnOk.of_sem Tryz.func129 rfl (by kernel_rfl) (rs := [.tmp 2]) rfl Tryz.ntmps129 (Nat.le_of_ble_eq_true rfl) fun C w g root => ?_
  all_goals have fx := fx0
  repeat' (first
   | refine w_seq ?_ | refine w_block ?_ | refine w_skip ?_ | refine w_reg fun K hK => ?_
   | ((with_reducible refine s_end hK ?_); clear hK K)
   | (with_reducible first | refine then_normal ?_ | refine then_ret ?_ | refine in_ret ?_)
   | refine w_ret ?_
   | (with_reducible first | refine s_none ?_ | refine x_assign (h := ?_) | refine x_box (h := ?_))
   | (with_reducible refine x_q (h := ?_))
   | refine x_condt (h1 := ?_)
   | refine x_if (h1 := fun ht => ?_) (h2 := fun ht => ?_)
   | fail)
  all_goals try clear fx
  all_goals refine e_ret [] .nil (by simp; rfl) ?_
  all_goals simp_all [formAV]
theorem binds_fn (gl) (s : Stm) : FnOk Tryz.prog gl 165 [s.av] (fun _ x _ => x = bv (decide (s.sets ∨ s.kind = 11))) := by
  obtain ⟨n, to, a, b⟩ := s
  refine FnOk.of_sem Tryz.func165 rfl (by kernel_rfl) (rs := [.tmp 2]) rfl Tryz.ntmps165 (Nat.le_of_ble_eq_true rfl) fun C w g root => ?_
  rcases kind_cases n with rfl | rfl | rfl | rfl | rfl | rfl | rfl | rfl | rfl | rfl | rfl | rfl | hn
  case inr.inr.inr.inr.inr.inr.inr.inr.inr.inr.inr.inr =>
    have hf : formAV ⟨n, to, a, b⟩ = .sc .nilIface := formAV_no hn
    have fx :=  hf
    have c1 := formOf_fn gl ⟨n, to, a, b⟩
    refine k_run ?_
    clear fx c1
    refine e_ret [] .nil (by simp; rfl) ?_
    have h1 : ¬ (0 ≤ n ∧ n ≤ 6 ∨ n = 11) := by omega
    simp [h1]
  all_goals
    all_goals have fx := fx0
    repeat' (first
     | refine w_seq ?_ | refine w_block ?_ | refine w_skip ?_ | refine w_reg fun K hK => ?_
     | ((with_reducible refine s_end hK ?_); clear hK K)
     | (with_reducible first | refine then_normal ?_ | refine in_normal ?_ | refine then_ret ?_ | refine in_ret ?_)
     | refine w_ret ?_
     | (with_reducible first | refine s_none ?_ | refine x_assign (h := ?_) | refine x_box (h := ?_))
     | ((with_reducible refine o_id 129 rfl ?_); refine x_call (hF := formOf_fn _ ⟨_, to, a, b⟩) (h := ?_))
     | (with_reducible refine x_q (h := ?_))
     | refine x_condt (h1 := ?_) | refine x_condf (h1 := ?_)
     | fail)
    all_goals try clear fx
  all_goals refine e_ret [] .nil (by simp; rfl) ?_
  all_goals simp
theorem impl_isBlock_fn (gl) (p : Prg) (b : Int) : FnOk Tryz.prog gl 82 [pav p, iv b] (fun _ x _ => x = bv (decide (0 ≤ b ∧ b < p.length))) := by
  refine FnOk.of_sem Tryz.func82 rfl (by kernel_rfl) (rs := [.tmp 4]) rfl Tryz.ntmps82 (Nat.le_of_ble_eq_true rfl) fun C w g root => ?_
  all_goals have fx := fx0
  repeat' (first
   | refine w_seq ?_ | refine w_reg fun K hK => ?_
   | ((with_reducible refine s_end hK ?_); clear hK K)
   | (with_reducible first | refine then_normal ?_)
   | refine w_ret ?_
   | (with_reducible refine s_none ?_)
   | ((with_reducible refine g_id ?_); refine x_guard (h := ?_))
   | (with_reducible first | refine gx_tt ?_ | refine x_tf (h := ?_) | refine x_assign (h := ?_) | refine x_box (h := ?_))
   | (with_reducible refine x_q (h := ?_))
   | (with_reducible refine gx_s (fun ht => ?_) (fun ht => ?_))
   | fail)
  all_goals try clear fx
  all_goals refine e_ret [] .nil (by simp; rfl) ?_
  all_goals simp_all
  all_goals omega
theorem fitsHead_fn (gl) (i : Nat) (k : Blk) : FnOk Tryz.prog gl 127 [iv i, k.av] (fun _ x _ => x = bv (headOk i k)) := by
  obtain ⟨kind, parent, params, body⟩ := k
  refine FnOk.of_sem Tryz.func127 rfl (by kernel_rfl) (rs := [.tmp 4]) rfl Tryz.ntmps127 (Nat.le_of_ble_eq_true rfl) fun C w g root => ?_
  rcases params with _ | ⟨x, _ | ⟨y, l⟩⟩
  · skip
    all_goals have fx := fx0
    repeat' (first
     | refine w_seq ?_ | refine w_block ?_ | refine w_skip ?_ | refine w_reg fun K hK => ?_
     | ((with_reducible refine s_end hK ?_); clear hK K)
     | (with_reducible first | refine then_normal ?_ | refine then_ret ?_ | refine in_ret ?_)
     | refine w_ret ?_
     | (with_reducible refine s_none ?_)
     | ((with_reducible refine g_id ?_); refine x_guard (h := ?_))
     | (with_reducible first | refine gx_tt ?_ | refine gx_ff ?_ | refine x_tf (h := ?_) | refine x_ft (h := ?_) | refine x_u (h := ?_) | refine x_assign (h := ?_) | refine x_box (h := ?_))
     | (with_reducible refine x_q (h := ?_))
     | (with_reducible refine gx_s (fun ht => ?_) (fun ht => ?_))
     | refine x_condt (h1 := ?_)
     | refine x_if (h1 := fun ht => ?_) (h2 := fun ht => ?_)
     | fail)
    all_goals try clear fx
    all_goals refine e_ret [] .nil (by simp; rfl) ?_
    all_goals simp_all [headOk, HeadOk]
    all_goals grind
  · skip
    all_goals have fx := fx0
    repeat' (first
     | refine w_seq ?_ | refine w_block ?_ | refine w_skip ?_ | refine w_reg fun K hK => ?_
     | ((with_reducible refine s_end hK ?_); clear hK K)
     | (with_reducible first | refine then_normal ?_ | refine then_ret ?_ | refine in_ret ?_)
     | refine w_ret ?_
     | (with_reducible refine s_none ?_)
     | ((with_reducible refine g_id ?_); refine x_guard (h := ?_))
     | (with_reducible first | refine gx_tt ?_ | refine gx_ff ?_ | refine x_tf (h := ?_) | refine x_ft (h := ?_) | refine x_assign (h := ?_) | refine x_box (h := ?_))
     | ((with_reducible refine o_id 85 rfl ?_); refine x_call (hF := impl_isName_fn _ x) (h := ?_))
     | (with_reducible refine x_q (h := ?_))
     | (with_reducible refine gx_s (fun ht => ?_) (fun ht => ?_))
     | refine x_condt (h1 := ?_)
     | refine x_if (h1 := fun ht => ?_) (h2 := fun ht => ?_)
     | fail)
    all_goals try clear fx
    all_goals refine e_ret [] .nil (by simp; rfl) ?_
    all_goals simp_all [headOk, HeadOk]
    all_goals grind
  · have h1 : ((l.length : Int) + 1 + 1 == 1) = false := by simp; omega
    have h0 : ((l.length : Int) + 1 + 1 == 0) = false := by simp; omega
    all_goals have fx := And.intro h0 <| h1
    repeat' (first
     | refine w_seq ?_ | refine w_block ?_ | refine w_skip ?_ | refine w_reg fun K hK => ?_
     | ((with_reducible refine s_end hK ?_); clear hK K)
     | (with_reducible first | refine then_normal ?_ | refine then_ret ?_ | refine in_ret ?_)
     | refine w_ret ?_
     | (with_reducible refine s_none ?_)
     | ((with_reducible refine g_id ?_); refine x_guard (h := ?_))
     | (with_reducible first | refine gx_tt ?_ | refine gx_ff ?_ | refine x_tf (h := ?_) | refine x_ft (h := ?_) | refine x_assign (h := ?_) | refine x_box (h := ?_))
     | (with_reducible refine x_q (h := ?_))
     | (with_reducible refine gx_s (fun ht => ?_) (fun ht => ?_))
     | refine x_condt (h1 := ?_)
     | refine x_if (h1 := fun ht => ?_) (h2 := fun ht => ?_)
     | fail)
    all_goals try clear fx
    all_goals refine e_ret [] .nil (by simp; rfl) ?_
    all_goals simp_all [headOk, HeadOk]
    all_goals grind
end Go.Proofs.YtcbkblboonkfhaaGreat
end
section
namespace Go.Proofs.YtcbkblboonkfhaaGreat
open Go Go.Hm Go.Proofs
theorem madeAs_at {p : Prg} {b j : Nat} {q : Blk} {d : Int} (hh : Heads p) (hq : p[j]? = some q) : madeAs p b j d = ((q.kind == d) && (q.parent == b)) := by
  have hj : j < p.length := (gS hq).1
  obtain ⟨_, h2, _⟩ := hh j q hq
  simp only [madeAs, Int.toNat_natCast, hq]
  by_cases h : q.parent = b
  · have : (b : Int) + 1 ≤ j ∧ (j : Int) ≤ p.length - 1 := by omega
    simp [this]
  · simp [h]
theorem madeAs_no {p : Prg} {b : Nat} {j d : Int} (h : ¬ (0 ≤ j ∧ j < p.length)) : madeAs p b j d = false := by
  have : ¬ ((b : Int) + 1 ≤ j ∧ j ≤ (p.length : Int) - 1) := by omega
  simp [madeAs, this]
theorem fitsStmt_fn (gl) (p : Prg) (b : Nat) (k : Blk) (s : Stm) (hk : p[b]? = some k) (hh : Heads p) (hd : HeadOk b k) : FnOk Tryz.prog gl 128 [pav p, iv b, s.av] (fun _ x _ => x = bv (StmOk p b k s)) := by
  obtain ⟨n, to, a, c⟩ := s
  have hb0 : (k.kind = 0) ↔ b = 0 := by
    unfold HeadOk at hd
    split at hd <;> omega
  refine FnOk.of_sem Tryz.func128 rfl (by kernel_rfl) (rs := [.tmp 6]) rfl Tryz.ntmps128 (Nat.le_of_ble_eq_true rfl) fun C w g root => ?_
  by_cases hto : 0 ≤ to ∧ to ≤ 7
  case neg =>
    have h1 : (decide (0 ≤ to) && decide (to ≤ 7)) = false := by simp; omega
    have fx :=  h1
    have c1 := impl_isName_fn gl to
    refine k_run ?_
    clear fx c1
    refine e_ret [] .nil (by simp; rfl) ?_
    simp [StmOk, h1]
  have h1 : (decide (0 ≤ to) && decide (to ≤ 7)) = true := by simp; omega
  rcases kind_cases n with rfl | rfl | rfl | rfl | rfl | rfl | rfl | rfl | rfl | rfl | rfl | rfl | hn
  case inr.inr.inr.inr.inr.inr.inr.inr.inr.inr.inr.inr =>
    have hf : formAV ⟨n, to, a, c⟩ = .sc .nilIface := formAV_no hn
    have fx := And.intro h1 <| hf
    have c1 := impl_isName_fn gl to
    have c2 := formOf_fn gl ⟨n, to, a, c⟩
    refine k_run ?_
    clear fx c1 c2
    refine e_ret [] .nil (by simp; rfl) ?_
    have h2 : ¬ (n = 0 ∨ n = 1 ∨ n = 2 ∨ n = 3 ∨ n = 4 ∨ n = 5 ∨ n = 6 ∨ n = 7 ∨ n = 8 ∨ n = 9 ∨ n = 10 ∨ n = 11) := by omega
    simp only [not_or] at h2
    simp [StmOk, h2]
  case inr.inr.inr.inl =>
    by_cases ha : 0 ≤ a ∧ a < p.length
    · obtain ⟨j, rfl⟩ : ∃ j : Nat, a = j := ⟨a.toNat, by omega⟩
      obtain ⟨q, hq⟩ : ∃ q, p[j]? = some q := ⟨_, gE (by omega)⟩
      obtain ⟨h2, h3⟩ := gS hq
      all_goals have fx := And.intro h1 <| And.intro hq <| And.intro h2 <| h3
      repeat' (first
       | refine w_seq ?_ | refine w_block ?_ | refine w_skip ?_ | refine w_reg fun K hK => ?_
       | ((with_reducible refine s_end hK ?_); clear hK K)
       | (with_reducible first | refine then_normal ?_ | refine in_normal ?_ | refine then_ret ?_ | refine in_ret ?_)
       | refine w_ret ?_
       | (with_reducible refine s_none ?_)
       | ((with_reducible refine g_id ?_); refine x_guard (h := ?_))
       | (with_reducible first | refine gx_tt ?_ | refine gx_ff ?_ | refine x_tf (h := ?_) | refine x_ft (h := ?_) | refine x_u (h := ?_) | refine x_assign (h := ?_) | refine x_box (h := ?_) | refine x_alloc (h := ?_) | refine x_store0 (h := ?_) | refine x_store (h := ?_))
       | ((with_reducible refine o_id 85 rfl ?_); refine x_call (hF := impl_isName_fn _ to) (h := ?_))
       | ((with_reducible refine o_id 129 rfl ?_); refine x_call (hF := formOf_fn _ ⟨_, to, _, c⟩) (h := ?_))
       | ((with_reducible refine o_id 82 rfl ?_); refine x_call (hF := impl_isBlock_fn _ p _) (h := ?_))
       | (with_reducible refine x_q (h := ?_))
       | (with_reducible refine gx_s (fun ht => ?_) (fun ht => ?_))
       | refine x_condt (h1 := ?_) | refine x_condf (h1 := ?_)
       | refine x_if (h1 := fun ht => ?_) (h2 := fun ht => ?_)
       | fail)
      all_goals try clear fx
      all_goals refine e_ret [] .nil (by simp; rfl) ?_
      all_goals simp_all [StmOk, madeAs_at, Stm.reads]
    · have h2 : ¬ (0 ≤ a ∧ a < p.length) := ha
      all_goals have fx := And.intro h1 <| h2
      repeat' (first
       | refine w_seq ?_ | refine w_block ?_ | refine w_skip ?_ | refine w_reg fun K hK => ?_
       | ((with_reducible refine s_end hK ?_); clear hK K)
       | (with_reducible first | refine then_normal ?_ | refine in_normal ?_ | refine then_ret ?_ | refine in_ret ?_)
       | refine w_ret ?_
       | (with_reducible refine s_none ?_)
       | ((with_reducible refine g_id ?_); refine x_guard (h := ?_))
       | (with_reducible first | refine gx_tt ?_ | refine gx_ff ?_ | refine x_tf (h := ?_) | refine x_ft (h := ?_) | refine x_u (h := ?_) | refine x_assign (h := ?_) | refine x_box (h := ?_) | refine x_alloc (h := ?_) | refine x_store0 (h := ?_) | refine x_store (h := ?_))
       | ((with_reducible refine o_id 85 rfl ?_); refine x_call (hF := impl_isName_fn _ to) (h := ?_))
       | ((with_reducible refine o_id 129 rfl ?_); refine x_call (hF := formOf_fn _ ⟨_, to, _, c⟩) (h := ?_))
       | ((with_reducible refine o_id 82 rfl ?_); refine x_call (hF := impl_isBlock_fn _ p _) (h := ?_))
       | (with_reducible refine x_q (h := ?_))
       | (with_reducible refine gx_s (fun ht => ?_) (fun ht => ?_))
       | refine x_condt (h1 := ?_) | refine x_condf (h1 := ?_)
       | refine x_if (h1 := fun ht => ?_) (h2 := fun ht => ?_)
       | fail)
      all_goals try clear fx
      all_goals refine e_ret [] .nil (by simp; rfl) ?_
      all_goals simp [StmOk, madeAs_no h2]
  case inr.inr.inr.inr.inl =>
    by_cases ha : 0 ≤ a ∧ a < p.length
    · obtain ⟨j, rfl⟩ : ∃ j : Nat, a = j := ⟨a.toNat, by omega⟩
      obtain ⟨q, hq⟩ : ∃ q, p[j]? = some q := ⟨_, gE (by omega)⟩
      obtain ⟨h2, h3⟩ := gS hq
      all_goals have fx := And.intro h1 <| And.intro hq <| And.intro h2 <| h3
      repeat' (first
       | refine w_seq ?_ | refine w_block ?_ | refine w_skip ?_ | refine w_reg fun K hK => ?_
       | ((with_reducible refine s_end hK ?_); clear hK K)
       | (with_reducible first | refine then_normal ?_ | refine in_normal ?_ | refine then_ret ?_ | refine in_ret ?_)
       | refine w_ret ?_
       | (with_reducible refine s_none ?_)
       | ((with_reducible refine g_id ?_); refine x_guard (h := ?_))
       | (with_reducible first | refine gx_tt ?_ | refine gx_ff ?_ | refine x_tf (h := ?_) | refine x_ft (h := ?_) | refine x_u (h := ?_) | refine x_assign (h := ?_) | refine x_box (h := ?_) | refine x_alloc (h := ?_) | refine x_store0 (h := ?_) | refine x_store (h := ?_))
       | ((with_reducible refine o_id 85 rfl ?_); refine x_call (hF := impl_isName_fn _ to) (h := ?_))
       | ((with_reducible refine o_id 129 rfl ?_); refine x_call (hF := formOf_fn _ ⟨_, to, _, c⟩) (h := ?_))
       | ((with_reducible refine o_id 82 rfl ?_); refine x_call (hF := impl_isBlock_fn _ p _) (h := ?_))
       | (with_reducible refine x_q (h := ?_))
       | (with_reducible refine gx_s (fun ht => ?_) (fun ht => ?_))
       | refine x_condt (h1 := ?_) | refine x_condf (h1 := ?_)
       | refine x_if (h1 := fun ht => ?_) (h2 := fun ht => ?_)
       | fail)
      all_goals try clear fx
      all_goals refine e_ret [] .nil (by simp; rfl) ?_
      all_goals simp_all [StmOk, madeAs_at, Stm.reads]
    · have h2 : ¬ (0 ≤ a ∧ a < p.length) := ha
      all_goals have fx := And.intro h1 <| h2
      repeat' (first
       | refine w_seq ?_ | refine w_block ?_ | refine w_skip ?_ | refine w_reg fun K hK => ?_
       | ((with_reducible refine s_end hK ?_); clear hK K)
       | (with_reducible first | refine then_normal ?_ | refine in_normal ?_ | refine then_ret ?_ | refine in_ret ?_)
       | refine w_ret ?_
       | (with_reducible refine s_none ?_)
       | ((with_reducible refine g_id ?_); refine x_guard (h := ?_))
       | (with_reducible first | refine gx_tt ?_ | refine gx_ff ?_ | refine x_tf (h := ?_) | refine x_ft (h := ?_) | refine x_u (h := ?_) | refine x_assign (h := ?_) | refine x_box (h := ?_) | refine x_alloc (h := ?_) | refine x_store0 (h := ?_) | refine x_store (h := ?_))
       | ((with_reducible refine o_id 85 rfl ?_); refine x_call (hF := impl_isName_fn _ to) (h := ?_))
       | ((with_reducible refine o_id 129 rfl ?_); refine x_call (hF := formOf_fn _ ⟨_, to, _, c⟩) (h := ?_))
       | ((with_reducible refine o_id 82 rfl ?_); refine x_call (hF := impl_isBlock_fn _ p _) (h := ?_))
       | (with_reducible refine x_q (h := ?_))
       | (with_reducible refine gx_s (fun ht => ?_) (fun ht => ?_))
       | refine x_condt (h1 := ?_) | refine x_condf (h1 := ?_)
       | refine x_if (h1 := fun ht => ?_) (h2 := fun ht => ?_)
       | fail)
      all_goals try clear fx
      all_goals refine e_ret [] .nil (by simp; rfl) ?_
      all_goals simp [StmOk, madeAs_no h2]
  all_goals
    all_goals have fx := And.intro h1 <| hk
    repeat' (first
     | refine w_seq ?_ | refine w_block ?_ | refine w_skip ?_ | refine w_reg fun K hK => ?_
     | ((with_reducible refine s_end hK ?_); clear hK K)
     | (with_reducible first | refine then_normal ?_ | refine in_normal ?_ | refine then_ret ?_ | refine in_ret ?_)
     | refine w_ret ?_
     | (with_reducible refine s_none ?_)
     | ((with_reducible refine g_id ?_); refine x_guard (h := ?_))
     | (with_reducible first | refine gx_tt ?_ | refine gx_ff ?_ | refine x_tf (h := ?_) | refine x_ft (h := ?_) | refine x_u (h := ?_) | refine x_assign (h := ?_) | refine x_box (h := ?_) | refine x_alloc (h := ?_) | refine x_store0 (h := ?_) | refine x_store (h := ?_))
     | ((with_reducible refine o_id 85 rfl ?_); refine x_call (hF := impl_isName_fn _ _) (h := ?_))
     | ((with_reducible refine o_id 129 rfl ?_); refine x_call (hF := formOf_fn _ ⟨_, to, a, c⟩) (h := ?_))
     | (with_reducible refine x_q (h := ?_))
     | (with_reducible refine gx_s (fun ht => ?_) (fun ht => ?_))
     | refine x_condt (h1 := ?_) | refine x_condf (h1 := ?_)
     | refine x_if (h1 := fun ht => ?_) (h2 := fun ht => ?_)
     | fail)
    all_goals try clear fx
  all_goals refine e_ret [] .nil (by simp [hk]; rfl) ?_
  all_goals simp_all [StmOk, Stm.reads]
  all_goals first | omega | grind
end Go.Proofs.YtcbkblboonkfhaaGreat
end
