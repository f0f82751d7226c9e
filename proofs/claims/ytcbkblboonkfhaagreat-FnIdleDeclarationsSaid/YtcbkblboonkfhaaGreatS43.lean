/-
  Own texts, joined by mkclaim.py: Vi, Vj.
-/
import Derived.Test.YtcbkblboonkfhaaGreatS32
import Derived.Test.YtcbkblboonkfhaaGreatS13
import Derived.Test.YtcbkblboonkfhaaGreatS17
import Derived.Test.YtcbkblboonkfhaaGreatS33
import Derived.Test.YtcbkblboonkfhaaGreatS30
import Derived.Test.YtcbkblboonkfhaaGreatS36
import Derived.Test.YtcbkblboonkfhaaGreatS31
import Derived.Test.YtcbkblboonkfhaaGreatS18
set_option linter.unusedSimpArgs false
set_option linter.unusedVariables false
set_option maxRecDepth 100000
set_option maxHeartbeats 4000000

section
namespace Go.Proofs.YtcbkblboonkfhaaGreat
open Go Go.Hm Go.Proofs
theorem spec_IdleDeclarations_fn (gl) (p : Prg) (hs : Sml p) : FnOk Tryz.prog gl 22 [pav p] (fun r y H' => y = .hs r 1 0 (idleG p).length ∧ IsTab H' r (idleG p)) := by
  have hpl := hs.len
  refine FnOk.of_sem Tryz.func22 rfl (by kernel_rfl) (rs := [.tmp 2]) rfl Tryz.ntmps22 (Nat.le_of_ble_eq_true rfl) fun C w g root => ?_
  cases hv : progOk p
  · have hg : idleG p = [] := by simp [idleG, hv]
    rw [hg]
    have fx :=  hv
    have c1 := hv ▸ validProgram_fn gl p hs
    refine k_run ?_
    clear fx c1
    exact e_tab (t := 2) (by simp) ⟨by simp, fun j r hj => by simp at hj⟩
  have hP := shape_ok hs hv
  have hl7 := hP.len
  have hg : idleG p = idleT p := by simp [idleG, hv]
  rw [hg]
  have fx :=  hv
  have c1 := hv ▸ validProgram_fn gl p hs
  refine k_run ?_
  clear fx c1
  refine w_loop (fun n st => ∃ b : Nat, n = p.length - b ∧ b ≤ p.length ∧ st.tm 1 = .pt (.s 1) 0 ∧ st.hp (.s 1) = some (.row 1 [[ksl p]]) ∧ st.tm 4 = iv b ∧ ∃ T : List (List Int), T = (idleT p).take b ∧ T.length = b ∧ st.tm 3 = .hs (.s 3) 1 0 T.length ∧ IsTab st.hp (.s 3) T) p.length ⟨0, by omega, by omega, by simp, by simp, by simp, [], by simp, rfl, by simp, ⟨by simp, fun j r hj => by simp at hj⟩⟩ ?_
  rintro n st - - ⟨b, rfl, hb, h1, hp1, h4, T, hT, hTl, h3, ⟨t1, t2⟩⟩
  by_cases hbl : b < p.length
  · obtain ⟨k, hk⟩ : ∃ k, p[b]? = some k := ⟨_, gE hbl⟩
    obtain ⟨_, hkE⟩ := gS hk
    obtain ⟨hkp, hkb⟩ := hs.bsm hk
    have hb12 := hP.body k (List.mem_of_getElem? hk)
    have fx := And.intro h1 <| And.intro hp1 <| And.intro h4 <| And.intro h3 <| And.intro t1 <| And.intro hbl <| And.intro hk <| hkE
    refine k_run ?_
    clear fx
    refine w_loop (fun n st => ∃ i : Nat, n = k.body.length - i ∧ i ≤ k.body.length ∧ st.tm 1 = .pt (.s 1) 0 ∧ st.hp (.s 1) = some (.row 1 [[ksl p]]) ∧ st.tm 4 = iv b ∧ st.tm 3 = .hs (.s 3) 1 0 T.length ∧ IsTab st.hp (.s 3) T ∧ st.tm 6 = iv i ∧ ∃ L : List Int, L = idleTo p b i ∧ st.tm 5 = .hs (.s 5) 1 0 L.length ∧ st.hp (.s 5) = some (.row 1 (irows L))) k.body.length ⟨0, by omega, by omega, by simp [h1], by simp [hp1], by simp [h4], by simp [h3], ⟨by simp [t1], fun j r hj => by simp [t2 j r hj]⟩, by simp, [], by simp, by simp, by simp [irows]⟩ ?_
    clear h1 hp1 h4 h3 t1 t2
    rintro n st - - ⟨i, rfl, hi, h1, hp1, h4, h3, ⟨t1, t2⟩, h6, L, hL, h5, hp5⟩
    have hLl : L.length ≤ i := hL ▸ idleTo_len
    by_cases hil : i < k.body.length
    · obtain ⟨s, hsi⟩ : ∃ s, k.body[i]? = some s := ⟨_, gE hil⟩
      have hid := idle_fn gl p b i k s hk hsi hs hP
      have hstep := idleTo_succ (p := p) (b := b) (i := i)
      rw [← hL] at hstep
      cases hix : idleAt p b i
      · rw [hix] at hid hstep
        have fx := And.intro h1 <| And.intro hp1 <| And.intro h4 <| And.intro h6 <| And.intro h5 <| And.intro hp5 <| And.intro hil <| And.intro hbl <| And.intro hk <| hkE
        have c1 := hid
        refine k_run ?_
        clear fx c1
        exact ⟨k.body.length - (i + 1), by omega, i + 1, rfl, by omega, by simp [h1], by simp [hp1], by simp [h4], by simp [h3], ⟨by simp [t1], fun j r hj => by simp [t2 j r hj]⟩, by simp; exact wrp (by omega) (by omega), L, by simpa using hstep.symm, by simp [h5], by simp [hp5]⟩
      · rw [hix] at hid hstep
        have hLb : L.length ≤ 100 := by omega
        have fx := And.intro h1 <| And.intro hp1 <| And.intro h4 <| And.intro h6 <| And.intro h5 <| And.intro hp5 <| And.intro hil <| And.intro hbl <| And.intro hk <| And.intro hkE <| hLb
        have c1 := hid
        refine k_run ?_
        clear fx c1
        refine ⟨k.body.length - (i + 1), by omega, i + 1, rfl, by omega, by simp [h1], by simp [hp1], by simp [h4], by simp [h3], ⟨by simp [t1], fun j r hj => by simp [t2 j r hj]⟩, by simp; exact wrp (by omega) (by omega), L ++ [(i : Int)], by simpa using hstep.symm, by simp, ?_⟩
        simp [irows]
    · obtain rfl : i = k.body.length := by omega
      rw [← idleRow_eq hk] at hL
      have hTb : T.length ≤ 7 := by omega
      have fx := And.intro h1 <| And.intro hp1 <| And.intro h4 <| And.intro h6 <| And.intro h5 <| And.intro hp5 <| And.intro hil <| And.intro h3 <| And.intro t1 <| And.intro hbl <| And.intro hk <| And.intro hkE <| hTb
      refine k_run ?_
      clear fx
      have hrow : (idleT p)[b]? = some L := by
        rw [hL]
        simp [idleT, hbl]
      refine ⟨p.length - (b + 1), by omega, b + 1, rfl, by omega, by simp [h1], by simp [hp1], by simp [h4]; exact wrp (by omega) (by omega), T ++ [L], by rw [List.take_add_one, hrow, hT]; rfl, by simp [hTl], by simp, ⟨?_, ?_⟩⟩
      · simp [tabRows_app]
      · intro j r hj
        rcases Nat.lt_or_ge j T.length with hlj | hgj
        · rw [List.getElem?_append_left hlj] at hj
          have hne : ¬ j = T.length := by omega
          simp [t2 j r hj, hne]
        · rw [List.getElem?_append_right hgj] at hj
          obtain rfl : j = T.length := by
            have := (gS hj).1
            simp at this
            omega
          simp at hj
          subst hj
          simp [hp5]
  · obtain rfl : b = p.length := by omega
    have hTo : T = idleT p := by rw [hT, List.take_of_length_le (by simp)]
    subst hTo
    have fx := And.intro h1 <| And.intro hp1 <| And.intro h4 <| And.intro h3 <| And.intro t1 <| hbl
    refine k_run ?_
    clear fx
    exact e_tab (t := 2) (by simp) ⟨by simp [t1], fun j r hj => by simp [t2 j r hj]⟩
end Go.Proofs.YtcbkblboonkfhaaGreat
end
section
namespace Go.Proofs.YtcbkblboonkfhaaGreat
open Go Go.Hm Go.Proofs
abbrev qsVj0 : Sch := .q 0 <| .q 1 <| .q 2 <| .q 4 <| .q 5 <| .q 6 <| .q 7 <| .q 8 <| .q 9 <| .q 10 <| .q 11 <| .q 13 <| .q 14 <| .q 15 <| .q 16 <| .q 17 <| .q 18 <| .q 19 <| .q 20 <| .q 21 <| .l 3 [21, 20, 19, 18, 17, 16, 15, 14, 13, 11, 10, 9, 8, 7, 6, 5, 4, 2, 1, 0] <| .l 12 [21, 20, 19, 18, 17, 16, 15, 14, 13, 10, 9, 8, 7, 6, 5, 4, 2, 1, 0] <| .l 22 [20, 19, 18, 17, 16, 15, 14, 13, 10, 9, 8, 7, 6, 5, 4, 2, 1, 0] <| .q 23 <| .q 24 <| .l 25 [23] <| .done
attribute [local simp] slcAV rowsIn
theorem pRows_fixJ {n : Nm} {p : Prg} {f : Nm → Option Nm} (h : ∀ i j, f (.c n i j) = some (.c n i j)) : (pRows n p).map (fun r => r.map (AV.tr f)) = pRows n p := pRows_tr fun i j _ => h i j
theorem shRows_fixJ {P Q : Nm} {p : Prg} {b : Nat} {L : List Stm} {f : Nm → Option Nm} (h : ∀ i j, f (.c P i j) = some (.c P i j)) (h' : f (.c Q b 3) = some (.c Q b 3)) : (shRows P Q p b L).map (fun r => r.map (AV.tr f)) = shRows P Q p b L := by
  apply List.ext_getElem?
  intro i
  simp only [List.getElem?_map, shRows_get]
  cases hi : p[i]? with
  | none => rfl
  | some k =>
    by_cases e : i = b
    · subst e
      simp [h, h']
    · simp [h, e]
attribute [local simp] pRows_fixJ shRows_fixJ
theorem FnIdleDeclarations_fn (gl : Nat → Option (List AV)) (code : List Int) (hcode : ∀ v ∈ code, 0 ≤ v ∧ v ≤ 255) (hbig : code.length ≤ 1152921504606846976) :
    FnOk Tryz.prog gl 5 [bsl code] (fun _ z _ => z = bv true) := by
  refine FnOk.of_sem Tryz.func5 rfl (by kernel_rfl) (rs := [.tmp 2]) rfl Tryz.ntmps5 (Nat.le_of_ble_eq_true rfl) fun C w g root => ?_
  by_cases hlen : 1048576 < code.length
  · have hl1 : (1048576 : Int) < code.length := by omega
    have fx :=  hl1
    refine k_run ?_
    repeat ((first | refine wSc (id := 16) qsVj0 mixed ?_); refine k_rund ?_; refine k_run ?_)
    clear fx
    refine e_ret [] .nil (by simp; rfl) (by simp)
  have hl1 : ¬ (1048576 : Int) < code.length := by omega
  have hc : CodeOk code := ⟨by omega, hcode⟩
  have fx :=  hl1
  have e1 := DrawIdleDeclarations_fn gl code hc
  refine k_run ?_
  repeat ((first | refine wSc (id := 16) qsVj0 mixed ?_); refine k_rund ?_; refine k_run ?_)
  clear fx e1
  rintro K hK z H1 ⟨p, rfl, hO, hs⟩
  obtain ⟨ho1, ho2, ho3⟩ := hO.hcln
  refine ⟨by simp, ?_⟩
  have hpl := hs.len
  have il := impl_IdleDeclarations_fn gl p hs
  have sl := spec_IdleDeclarations_fn gl p hs
  have hgl : (idleG p).length ≤ 1048576 := by
    unfold idleG
    split <;> simp <;> omega
  have hgr : ∀ r ∈ idleG p, r.length ≤ 1048576 := by
    intro r hr
    unfold idleG at hr
    split at hr
    · rename_i hv
      obtain ⟨b, hb⟩ := List.getElem?_of_mem hr
      have hP := shape_ok hs hv
      rcases idleT_row hb with h | ⟨k, hk, h⟩
      · omega
      · have := hP.body k (List.mem_of_getElem? hk)
        omega
    · simp at hr
  have eq1 := equalLists_fn gl (idleG p) (idleG p) hgl hgl hgr hgr
  simp only [decide_true] at eq1
  have fx :=  ho1
  have e1 := il
  refine k_run ?_
  repeat ((first | refine wSc (id := 16) qsVj0 mixed ?_); refine k_rund ?_; refine k_run ?_)
  clear fx e1
  rintro K hK y H2 ⟨rfl, hI⟩
  obtain ⟨n1, n2⟩ := hI.hcln
  refine ⟨by simp, ?_⟩
  have fx := And.intro ho1 <| n1
  have e1 := sl
  refine k_run ?_
  repeat ((first | refine wSc (id := 16) qsVj0 mixed ?_); refine k_rund ?_; refine k_run ?_)
  clear fx e1
  rintro K hK y H3 ⟨rfl, hT⟩
  obtain ⟨t1, t2⟩ := hT.hcln
  refine ⟨by simp, ?_⟩
  have fx := And.intro ho1 <| And.intro n1 <| t1
  refine k_run ?_
  repeat ((first | refine wSc (id := 16) qsVj0 mixed ?_); refine k_rund ?_; refine k_run ?_)
  clear fx
  refine o_abs (fun st => BoxP st 3 p ∧ st.tm 4 = .hs (.s 4) 1 0 (idleG p).length ∧ IsTabN st.hp (.s 4) (idleG p) ∧ st.tm 17 = .hs (.s 4) 1 0 (idleG p).length ∧ st.tm 19 = .hs (.s 19) 1 0 (idleG p).length ∧ IsTab st.hp (.s 19) (idleG p))
    ⟨⟨by simp, by simp, ⟨by simp [ho1], fun j r hj => by simp [ho2 j r hj], fun j r hj => by simp [ho3 j r hj]⟩⟩, by simp, ⟨by simp [n1, -List.map_map]; rw [ntRows_fix (n := .s 16) (m := .s 4) (by simp), ntRows_same (by simp)], fun j r hj h0 => by simp [n2 j r hj h0]⟩, by simp, by simp, ⟨by simp [t1], fun j r hj => by simp [t2 j r hj]⟩⟩ ?_
  clear ho1 ho2 ho3 hO n1 n2 hI t1 t2 hT
  rintro st ⟨⟨h3, hp3, ⟨a1, a2, a3⟩⟩, h4, ⟨n1, n2⟩, h17, h19, ⟨t1, t2⟩⟩
  have fx := And.intro h17 h19
  refine kx_call (hB := .cons (bw_tabN (n := .s 4) ⟨n1, n2⟩ rfl) (.cons (bw_tab (n := .s 19) t1 t2 rfl) .nil)) (hF := eq1) (h := ?_)
  clear fx
  cases hv : progOk p
  · have hg : idleG p = [] := by simp [idleG, hv]
    have hg0 : (((idleG p).length : Int) == 0) = true := by simp [hg]
    have fx := And.intro h3 <| And.intro hp3 <| And.intro h4 <| And.intro a1 <| hg0
    have e1 := sl
    refine k_run ?_
    repeat ((first | refine wSc (id := 16) qsVj0 mixed ?_); refine k_rund ?_; refine k_run ?_)
    clear fx e1
    rintro K hK y H3 ⟨rfl, hT⟩
    obtain ⟨t1, t2⟩ := hT.hcln
    refine ⟨by simp, ?_⟩
    have fx := And.intro h3 <| And.intro hp3 <| And.intro h4 <| hg0
    refine k_run ?_
    repeat ((first | refine wSc (id := 16) qsVj0 mixed ?_); refine k_rund ?_; refine k_run ?_)
    clear fx
    have fx := And.intro h4 h4
    refine kx_call (hB := .cons (bw_tabN (n := .s 4) ⟨by simp [n1], fun j r hj h0 => by simp [n2 j r hj h0]⟩ rfl) (.cons (bw_tab (n := .s 29) (by simp [t1]; first | done | rfl) (fun j r hj => by simp [t2 j r hj]) rfl) .nil)) (hF := eq1) (h := ?_)
    clear fx
    have fx := And.intro h3 <| And.intro hp3 <| And.intro h4 <| hg0
    refine k_run ?_
    repeat ((first | refine wSc (id := 16) qsVj0 mixed ?_); refine k_rund ?_; refine k_run ?_)
    clear fx
    refine e_ret [] .nil (by simp; rfl) (by simp)
  have hP := shape_ok hs hv
  have hl7 := hP.len
  have hg : idleG p = idleT p := by simp [idleG, hv]
  rw [hg] at n1 n2 h4 eq1
  have hg0 : (((idleG p).length : Int) == 0) = false := by rw [hg, idleT_len, beq_eq_false_iff_ne]; omega
  rw [hg] at hg0
  rw [idleT_len] at h4 hg0
  clear il sl hg hgl hgr eq1 t1 t2 h17 h19
  have fx := And.intro h3 <| And.intro hp3 <| And.intro h4 <| hg0
  refine k_run ?_
  repeat ((first | refine wSc (id := 16) qsVj0 mixed ?_); refine k_rund ?_; refine k_run ?_)
  clear fx
  refine w_loop (fun n st => ∃ b : Nat, n = p.length - b ∧ b ≤ p.length ∧ BoxP st 3 p ∧ st.tm 4 = .hs (.s 4) 1 0 p.length ∧ IsTabN st.hp (.s 4) (idleT p) ∧ st.tm 5 = iv b) p.length ⟨0, by omega, by omega, ⟨by simp [h3], by simp [hp3], ⟨by simp [a1], fun j r hj => by simp [a2 j r hj], fun j r hj => by simp [a3 j r hj]⟩⟩, by simp [h4], ⟨by simp [n1], fun j r hj h0 => by simp [n2 j r hj h0]⟩, by simp⟩ ?_
  clear h3 hp3 a1 a2 a3 h4 n1 n2
  rintro n st - - ⟨b, rfl, hb, ⟨h3, hp3, ⟨a1, a2, a3⟩⟩, h4, ⟨n1, n2⟩, h5⟩
  by_cases hbl : b < p.length
  · obtain ⟨k, hk⟩ : ∃ k, p[b]? = some k := ⟨_, gE hbl⟩
    obtain ⟨_, hkE⟩ := gS hk
    obtain ⟨hkp, hkb⟩ := hs.bsm hk
    have hb12 := hP.body k (List.mem_of_getElem? hk)
    have hTb : (idleT p)[b]? = some (idleRow p b) := by simp [idleT, hbl]
    obtain ⟨hTl, hTE⟩ := gS hTb
    have hmem := fun x => idleRow_mem (x := x) hk
    have hLl : (idleRow p b).length ≤ 12 := by
      rw [idleRow_eq hk]
      exact Nat.le_trans idleTo_len hb12
    generalize idleRow p b = L at hTb hTE hmem hLl
    have fx := And.intro h3 <| And.intro hp3 <| And.intro h4 <| And.intro n1 <| And.intro h5 <| hbl
    refine k_run ?_
    repeat ((first | refine wSc (id := 16) qsVj0 mixed ?_); refine k_rund ?_; refine k_run ?_)
    clear fx
    refine w_loop (fun n st => ∃ i : Nat, n = L.length - i ∧ i ≤ L.length ∧ BoxP st 3 p ∧ st.tm 4 = .hs (.s 4) 1 0 p.length ∧ IsTabN st.hp (.s 4) (idleT p) ∧ st.tm 5 = iv b ∧ st.tm 6 = iv i) L.length ⟨0, by omega, by omega, ⟨by simp [h3], by simp [hp3], ⟨by simp [a1], fun j r hj => by simp [a2 j r hj], fun j r hj => by simp [a3 j r hj]⟩⟩, by simp [h4], ⟨by simp [n1], fun j r hj h0 => by simp [n2 j r hj h0]⟩, by simp [h5], by simp⟩ ?_
    clear h3 hp3 a1 a2 a3 h4 n1 n2 h5
    rintro n st - - ⟨i, rfl, hi, ⟨h3, hp3, ⟨a1, a2, a3⟩⟩, h4, ⟨n1, n2⟩, h5, h6⟩
    by_cases hil : i < L.length
    · have hcell := cellN_some (n := .s 4) (j := b) (r := L) (by omega)
      have hrow := n2 b L hTb (by omega)
      obtain ⟨x, hxi⟩ : ∃ x, L[i]? = some x := ⟨_, gE hil⟩
      obtain ⟨_, hxE⟩ := gS hxi
      obtain ⟨at', rfl, hal, hid⟩ := hmem x (List.mem_of_getElem? hxi)
      obtain ⟨s, hsi⟩ : ∃ s, k.body[at']? = some s := ⟨_, gE hal⟩
      obtain ⟨_, hsE⟩ := gS hsi
      have hid' := hid
      rw [idleAt_eq hk hsi] at hid'
      have hkd : (s.kind == 9) = true ∨ (s.kind == 9) = false ∧ (s.kind == 10) = true := by
        simp only [Bool.and_eq_true, Bool.or_eq_true] at hid'
        rcases hid'.1 with h | h
        · exact .inl h
        · by_cases h9 : s.kind = 9
          · exact .inl (by simp [h9])
          · exact .inr ⟨by simp [h9], h⟩
      have hsm := idle_same hv hid
      have hcs := cutP_sml (b := b) (i := at') hs
      obtain ⟨_, hv2, _, _⟩ := sameG_parts hsm
      have i1 := impl_SameMeaning_fn gl p (cutP p b at') hs hcs
      rw [hsm] at i1
      have sr := sameRun_fn gl p (cutP p b at') hs hcs hv hv2 (sameG_run hs hcs hsm)
      rw [cutP_eq hk] at i1 sr
      have hw : IntKind.i64.wrap ((at' : Int) + 1) = at' + 1 := wrp (by omega) (by omega)
      have hi0 : at' ≤ k.body.length := by omega
      have hi1 : (at' : Int) + 1 ≤ k.body.length := by omega
      have hi2 : (0 : Int) ≤ (at' : Int) + 1 := by omega
      have hi3 : ((at' : Int) + 1).toNat = at' + 1 := by omega
      have a3k := a3 b k hk
      have hi4 : at' + 1 + (k.body.length - (at' + 1)) ≤ k.body.length := by omega
      have fl := And.intro hpl hl7
      have hPl : ∃ P : Prop, P := ⟨_, fl⟩
      clear fl hPl hpl hl7
      have fx := And.intro h3 <| And.intro hp3 <| And.intro a1 <| And.intro h4 <| And.intro n1 <| And.intro h5 <| And.intro h6 <| And.intro hil <| And.intro hbl <| And.intro hTb <| And.intro hTE <| And.intro hTl <| And.intro hcell <| And.intro hrow <| And.intro hxi <| And.intro hxE <| And.intro hk <| And.intro hkE <| And.intro a3k <| And.intro hsi <| And.intro hsE <| hal
      refine k_run ?_
      repeat ((first | refine wSc (id := 16) qsVj0 mixed ?_); refine k_rund ?_; refine k_run ?_)
      clear fx
      have hpl := hs.len
      have hl7 := hP.len
      intro K hK
      have fx := And.intro h3 (And.intro hp3 a1)
      refine x_appendN (n := .s 63) (z := 4) (len := 0) (rows0 := []) (rows2 := pRows (.c (.s 3) 0 0) p) (hlen := by simp; omega) (h := ?_)
      clear fx
      have e2 : List.take (k.body.length - (at' + 1)) (List.drop (at' + 1) k.body) = List.drop (at' + 1) k.body := List.take_of_length_le (by simp)
      have e1 : List.take at' (List.take at' k.body) = List.take at' k.body := by rw [List.take_take, Nat.min_self]
      have hset := shRows_put (P := .c (.s 3) 0 0) (Q := .c (.s 9) 0 0) (p := p) (b := b) (m := .s 90) (len := at' + (k.body.length - (at' + 1))) (L := cutL k.body at') (f := mv (.s 90) (.c (.c (.s 9) 0 0) b 3)) (by rw [cutL_len hal]; omega) (by simp) (by simp)
      rcases hkd with h9 | ⟨h9, h10⟩
      case' inl => have h10 : True := trivial
      all_goals
        have fx := And.intro h3 <| And.intro hp3 <| And.intro a1 <| And.intro h4 <| And.intro h5 <| And.intro h6 <| And.intro hbl <| And.intro hk <| And.intro hkE <| And.intro a3k <| And.intro hsi <| And.intro hsE <| And.intro hal <| And.intro hw <| And.intro hi0 <| And.intro hi1 <| And.intro hi2 <| And.intro hi3 <| And.intro hi4 <| And.intro h9 <| And.intro h10 <| @bne_def
        refine k_run ?_
        repeat ((first | refine wSc (id := 16) qsVj0 mixed ?_); refine k_rund ?_; refine k_run ?_)
        clear fx
        intro K hK
        refine o_abs (fun st => BoxP st 3 p ∧ st.tm 4 = .hs (.s 4) 1 0 p.length ∧ IsTabN st.hp (.s 4) (idleT p) ∧ st.tm 5 = iv b ∧ st.tm 6 = iv i ∧ st.tm 9 = .pt (.s 9) 0 ∧ st.hp (.s 9) = some (.row 1 [[.hs (.c (.s 9) 0 0) 4 0 p.length]]) ∧ st.hp (.c (.s 9) 0 0) = some (.row 4 (shRows (.c (.s 3) 0 0) (.c (.s 9) 0 0) p b (cutL k.body at'))) ∧ st.hp (.c (.c (.s 9) 0 0) b 3) = some (.row 4 (srows (cutL k.body at'))) ∧ st.tm 99 = bv false ∧ st.tm 100 = .agg [.hs (.c (.s 3) 0 0) 4 0 p.length] ∧ st.tm 101 = .agg [.hs (.c (.s 9) 0 0) 4 0 p.length])
          ⟨⟨by simp [h3], by simp [hp3], ⟨by simp [a1], fun j r hj => by simp [a2 j r hj], fun j r hj => by simp [a3 j r hj]⟩⟩, by simp [h4], ⟨by simp [n1], fun j r hj h0 => by simp [n2 j r hj h0]⟩, by simp [h5], by simp [h6], by simp, by simp, by simp [hset], by simp [cutL, e1, e2], by simp, by simp, by simp⟩ ?_
        clear h3 hp3 a1 a2 a3 a3k h4 n1 n2 h5 h6 hrow
        rintro st ⟨⟨h3, hp3, ⟨a1, a2, a3⟩⟩, h4, ⟨n1, n2⟩, h5, h6, hg9, hp9, hq9, hr9, h99, h100, h101⟩
        have fx := And.intro h100 h101
        refine kx_call (hB := .cons (bw_agg1 (bw_prog ⟨a1, a2, a3⟩ rfl)) (.cons (bw_agg1 (bw_share hk hq9 a2 a3 hr9 rfl)) .nil)) (hF := i1) (h := ?_)
        clear fx
        have fx := And.intro h3 <| And.intro hp3 <| And.intro hg9 <| And.intro hp9 <| h99
        refine k_run ?_
        repeat ((first | refine wSc (id := 16) qsVj0 mixed ?_); refine k_rund ?_; refine k_run ?_)
        clear fx
        have fx := And.intro h3 (And.intro hp3 (And.intro hg9 hp9))
        refine kx_call (hB := .cons (bw_agg1 (bw_prog (n := .c (.s 3) 0 0) ⟨by simp [a1], fun j r hj => by simp [a2 j r hj], fun j r hj => by simp [a3 j r hj]⟩ rfl)) (.cons (bw_agg1 (bw_share (P := .c (.s 3) 0 0) (Q := .c (.s 9) 0 0) (L := cutL k.body at') hk (by simp [hq9]) (fun j r hj => by simp [a2 j r hj]) (fun j r hj => by simp [a3 j r hj]) (by simp [hr9]) rfl)) .nil)) (hF := sr) (h := ?_)
        clear fx
        have fx := And.intro h3 <| And.intro hp3 <| And.intro hg9 <| And.intro hp9 <| And.intro h99 <| h6
        refine k_run ?_
        repeat ((first | refine wSc (id := 16) qsVj0 mixed ?_); refine k_rund ?_; refine k_run ?_)
        clear fx
        exact ⟨L.length - (i + 1), by omega, i + 1, rfl, by omega, ⟨by simp [h3], by simp [hp3], ⟨by simp [a1], fun j r hj => by simp [a2 j r hj], fun j r hj => by simp [a3 j r hj]⟩⟩, by simp [h4], ⟨by simp [n1], fun j r hj h0 => by simp [n2 j r hj h0]⟩, by simp [h5], by simp [h6]; exact wrp (by omega) (by omega)⟩
    · by_cases h0 : L.length = 0
      · have hcell := cellN_nil (n := .s 4) (j := b) h0
        have fx := And.intro h4 <| And.intro n1 <| And.intro h5 <| And.intro h6 <| And.intro hil <| And.intro hbl <| And.intro hTb <| And.intro hTE <| And.intro hTl <| hcell
        refine k_run ?_
        repeat ((first | refine wSc (id := 16) qsVj0 mixed ?_); refine k_rund ?_; refine k_run ?_)
        clear fx
        exact ⟨p.length - (b + 1), by omega, b + 1, rfl, by omega, ⟨by simp [h3], by simp [hp3], ⟨by simp [a1], fun j r hj => by simp [a2 j r hj], fun j r hj => by simp [a3 j r hj]⟩⟩, by simp [h4], ⟨by simp [n1], fun j r hj h0 => by simp [n2 j r hj h0]⟩, by simp; exact wrp (by omega) (by omega)⟩
      · have hcell := cellN_some (n := .s 4) (j := b) (r := L) (by omega)
        have hrow := n2 b L hTb (by omega)
        have fx := And.intro h4 <| And.intro n1 <| And.intro h5 <| And.intro h6 <| And.intro hil <| And.intro hbl <| And.intro hTb <| And.intro hTE <| And.intro hTl <| And.intro hcell <| hrow
        refine k_run ?_
        repeat ((first | refine wSc (id := 16) qsVj0 mixed ?_); refine k_rund ?_; refine k_run ?_)
        clear fx
        exact ⟨p.length - (b + 1), by omega, b + 1, rfl, by omega, ⟨by simp [h3], by simp [hp3], ⟨by simp [a1], fun j r hj => by simp [a2 j r hj], fun j r hj => by simp [a3 j r hj]⟩⟩, by simp [h4], ⟨by simp [n1], fun j r hj h0 => by simp [n2 j r hj h0]⟩, by simp; exact wrp (by omega) (by omega)⟩
  · obtain rfl : b = p.length := by omega
    have fx := And.intro h3 <| And.intro hp3 <| And.intro h4 <| And.intro a1 <| And.intro h5 <| hbl
    refine k_run ?_
    repeat ((first | refine wSc (id := 16) qsVj0 mixed ?_); refine k_rund ?_; refine k_run ?_)
    clear fx
    refine e_ret [] .nil (by simp; rfl) (by simp)
end Go.Proofs.YtcbkblboonkfhaaGreat
end
