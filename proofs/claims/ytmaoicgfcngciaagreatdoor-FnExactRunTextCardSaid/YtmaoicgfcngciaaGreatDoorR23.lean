/-
  Own texts, joined by mkclaim.py: Uu, Uv, Gc, Gd, Ge, Gf, Gg.
-/
import Derived.Test.YtmaoicgfcngciaaGreatDoorR22
import Derived.Test.YtmaoicgfcngciaaGreatDoorR16
import Derived.Test.YtmaoicgfcngciaaGreatDoorR11
import Derived.Test.YtmaoicgfcngciaaGreatDoorR18
import Derived.Test.YtmaoicgfcngciaaGreatDoorR21
import Derived.Test.YtmaoicgfcngciaaGreatDoorR09
import Derived.Test.YtmaoicgfcngciaaGreatDoorR12
set_option linter.unusedSimpArgs false
set_option linter.unusedVariables false
set_option maxRecDepth 100000
set_option maxHeartbeats 4000000

section
namespace Go.Proofs.YtmaoicgfcngciaaGreatDoor
open Go Go.Hm Go.Proofs
attribute [local simp] slcAV
theorem head_len {k : Blk} {ws ws' : List Txt} (h : rHead ws = some (k, ws')) : k.params.length ≤ 1 ∧ k.body = [] := by
  unfold rHead at h
  split at h
  · rename_i q f l _
    split at h
    · split at h
      · simp at h; obtain ⟨rfl, _⟩ := h; exact ⟨by simp, rfl⟩
      · rename_i x l' _
        cases hx : smallN x with
        | none => rw [hx] at h; simp at h
        | some n => rw [hx] at h; simp at h; obtain ⟨rfl, _⟩ := h; exact ⟨by simp, rfl⟩
    · split at h
      · simp at h; obtain ⟨rfl, _⟩ := h; exact ⟨by simp, rfl⟩
      · cases h
  · cases h
theorem readHead_fn (gl) (H : Nm → Option AO) (ls ws : List Txt) (hws : ∀ v ∈ ws, v.length ≤ 1048577) (hH : H (.u 1 0 0) = some (rdW ls ws)) :
    FnE Tryz.prog gl 78 (Nm.under (.u 1 0 0)) [.pt (.u 1 0 0) 0] H (fun r y H' => ∃ k ws', rHead ws = some (k, ws') ∧ y = .agg [iv k.kind, iv k.parent, .hs (.c r 0 2) 1 0 k.params.length, .hs (.c r 0 3) 4 0 0] ∧ H' (.c r 0 2) = some (.row 1 (irows k.params)) ∧ H' (.c r 0 3) = some (.row 4 []) ∧ H' (.u 1 0 0) = some (rdW ls ws')) (badQ (rHead ws = none)) := by
  refine FnE.of_sem Tryz.func78 rfl (by kernel_rfl) (rs := [.cell 2 44]) rfl Tryz.ntmps78 (Nat.le_of_ble_eq_true rfl) (fun _ => under_usroot rfl) fun C w g root hroot => ?_
  have hr0 := hroot root (Nm.under_self _)
  have fx :=  hH
  refine k_run ?_
  clear fx
  intro K hK
  have fx := hH
  refine x_mutE (.u 1 0 0) rfl (by simp [hH]) (hF := number_rd _ _ ls ws hws (by simp [hH])) (hE := fun x s hx hq => ⟨[], .nil, hx.tr, by simp [rHead, hq]⟩) (h := ?_)
  rintro y H1 ⟨q, ws1, hn, rfl, hH1⟩
  clear fx
  have fx := And.intro hH <| hH1
  refine k_run ?_
  clear fx
  intro K hK
  have fx := And.intro hH hH1
  refine x_mutE (.u 1 0 0) rfl (by simp [hH, hH1]) (hF := word_fn _ _ ls ws1 (by simp [hH, hH1])) (hE := fun x s hx hq => ⟨[], .nil, hx.tr, by simp [rHead, hn, hq]⟩) (h := ?_)
  rintro y H2 ⟨v, ws2, rfl, rfl, hH2⟩
  clear fx
  have hw1 := rNum_le hn hws
  have hw2 : ∀ u ∈ ws2, u.length ≤ 1048577 := fun u hu => hw1 u (by simp [hu])
  by_cases hf : v = tFun
  · have e1 : (v == [102, 117, 110]) = true := by rw [hf]; rfl
    have fx := And.intro hH <| And.intro hH1 <| And.intro hH2 <| e1
    refine k_run ?_
    clear fx
    intro K hK
    have fx := And.intro hH <| And.intro hH1 hH2
    refine x_mut (.u 1 0 0) rfl (by simp [hH, hH1, hH2]) (hF := more_fn _ _ ls ws2 (by simp [hH, hH1, hH2])) (h := ?_)
    rintro y H3 ⟨rfl, hH3⟩
    clear fx
    cases ws2 with
    | nil =>
      have fx := And.intro hH <| And.intro hH1 <| And.intro hH2 <| hH3
      refine k_run ?_
      clear fx
      refine e_ret [(.s 3, root)] (.one rfl) (by simp; rfl) ⟨⟨1, q, [], []⟩, [], by simp [rHead, hn, hf], ?_, ?_, ?_, ?_⟩
      · simp
      · simp [hr0, irows]
      · simp [hr0]
      · simp [hH3]
    | cons u us =>
      have fx := And.intro hH <| And.intro hH1 <| And.intro hH2 <| hH3
      refine k_run ?_
      clear fx
      intro K hK
      have fx := And.intro hH <| And.intro hH1 <| And.intro hH2 hH3
      refine x_mutE (.u 1 0 0) rfl (by simp [hH, hH1, hH2, hH3]) (hF := number_rd _ _ ls (u :: us) hw2 (by simp [hH, hH1, hH2, hH3])) (hE := fun x s hx hq => ⟨[], .nil, hx.tr, ?_⟩) (h := ?_)
      · cases hu : smallN u with
        | none => simp [rHead, hn, hf, hu]
        | some n => simp [rNum, hu] at hq
      rintro y H4 ⟨n, ws4, hn4, rfl, hH4⟩
      clear fx
      have hu : smallN u = some n ∧ us = ws4 := by
        cases hu : smallN u with
        | none => simp [rNum, hu] at hn4
        | some k => simp [rNum, hu] at hn4; exact ⟨by rw [hn4.1], hn4.2⟩
      obtain ⟨hu, rfl⟩ := hu
      have fx := And.intro hH <| And.intro hH1 <| And.intro hH2 <| And.intro hH3 <| hH4
      refine k_run ?_
      clear fx
      refine e_ret [(.s 3, root)] (.one rfl) (by simp; rfl) ⟨⟨1, q, [(n : Int)], []⟩, us, by simp [rHead, hn, hf, hu], by simp, by simp [hr0, irows], by simp [hr0], by simp [hH4]⟩
  have e1 : (v == [102, 117, 110]) = false := by simpa [tFun] using hf
  by_cases hc : v = tClass
  · have e2 : (v == [99, 108, 97, 115, 115]) = true := by rw [hc]; rfl
    have fx := And.intro hH <| And.intro hH1 <| And.intro hH2 <| And.intro e1 <| e2
    refine k_run ?_
    clear fx
    refine e_ret [(.s 3, root)] (.one rfl) (by simp; rfl) ⟨⟨2, q, [], []⟩, ws2, by simp [rHead, hn, hc, (show ¬ tClass = tFun by decide)], by simp, by simp [hr0, irows], by simp [hr0], by simp [hH2]⟩
  have e2 : (v == [99, 108, 97, 115, 115]) = false := by simpa [tClass] using hc
  have fx := And.intro hH <| And.intro hH1 <| And.intro hH2 <| And.intro e1 <| e2
  refine k_run ?_
  clear fx
  intro K hK
  refine x_pan (hx := by simp; first | done | exact ⟨rfl, rfl⟩) ?_
  exact ⟨[], .nil, ⟨_, _, rfl, .inl rfl⟩, by simp [rHead, hn, hf, hc]⟩
end Go.Proofs.YtmaoicgfcngciaaGreatDoor
end
section
namespace Go.Proofs.YtmaoicgfcngciaaGreatDoor
open Go Go.Hm Go.Proofs
abbrev qsUv0 : Sch := .q 0 <| .q 1 <| .q 2 <| .q 3 <| .q 4 <| .q 5 <| .q 6 <| .l 7 [4, 3, 2, 1, 0] <| .l 8 [4, 3, 2, 1, 0] <| .l 9 [3, 2, 1, 0] <| .q 10 <| .q 11 <| .l 12 [10] <| .done
attribute [local simp] slcAV
theorem parseI_app {a b : List Txt} {p q : Prg} (h : parseI a p = some q) : parseI (a ++ b) p = parseI b q := by
  induction a generalizing p with
  | nil => simp [parseI] at h; subst h; rfl
  | cons l a ih =>
    rw [List.cons_append]
    simp only [parseI] at h ⊢
    cases hl : lineI p l with
    | none => rw [hl] at h; cases h
    | some r => rw [hl] at h; exact ih h
theorem parseI_bad {a b : List Txt} {l : Txt} {p q : Prg} (h : parseI a p = some q) (hl : lineI q l = none) : parseI (a ++ l :: b) p = none := by
  rw [parseI_app h]
  simp [parseI, hl]
theorem parseI_snoc {a : List Txt} {l : Txt} {p q r : Prg} (h : parseI a p = some q) (hl : lineI q l = some r) : parseI (a ++ [l]) p = some r := by
  rw [parseI_app h]
  simp [parseI, hl]
abbrev schRp : Sch := .q 0 <| .q 1 <| .q 2 <| .q 3 <| .q 4 <| .q 5 <| .q 6 <| .l 7 [4, 3, 2, 1, 0] <| .l 8 [4, 3, 2, 1, 0] <| .l 9 [3, 2, 1, 0] <| .q 10 <| .q 11 <| .l 12 [10] <| .done
structure Got (p : Prg) (n : Nat) : Prop where
  pos : 1 ≤ p.length
  len : p.length ≤ n + 1
  each : ∀ k ∈ p, k.body.length ≤ n ∧ k.params.length ≤ 1
theorem got0 : Got prg0 0 := ⟨by simp [prg0], by simp [prg0], by simp [prg0]⟩
theorem Got.head {p : Prg} {n : Nat} {k : Blk} (h : Got p n) (hk : k.body.length ≤ n + 1 ∧ k.params.length ≤ 1) : Got (p ++ [k]) (n + 1) :=
  ⟨by simp, by simp; exact h.len, fun x hx => by
    rw [List.mem_append, List.mem_singleton] at hx
    rcases hx with hx | rfl
    · have := h.each x hx; omega
    · exact hk⟩
theorem putS_eq {p : Prg} {k : Blk} {S : Stm} (hp : 1 ≤ p.length) (hk : p[p.length - 1]? = some k) : putS p S = setBody p (p.length - 1) (k.body ++ [S]) := by
  unfold putS setBody
  apply List.ext_getElem?
  intro i
  simp only [List.getElem?_modify]
  by_cases e : p.length - 1 = i
  · subst e
    simp [hk]
  · simp [e]
theorem Got.put {p : Prg} {n : Nat} {k : Blk} {S : Stm} (h : Got p n) (hk : p[p.length - 1]? = some k) : Got (setBody p (p.length - 1) (k.body ++ [S])) (n + 1) := by
  have hkb := h.each k (List.mem_of_getElem? hk)
  refine ⟨by simp; exact h.pos, by simp; have := h.len; omega, fun x hx => ?_⟩
  obtain ⟨r, hr, e1, e2⟩ := setBody_mem hx
  have := h.each r hr
  rw [e1]
  rcases e2 with e | e <;> rw [e]
  · omega
  · simp; omega
theorem split_sum {c : UInt8} {s : Txt} : ((splitL c s).map List.length).sum + (splitL c s).length = s.length + 1 := by
  induction s with
  | nil => simp [splitL]
  | cons x l ih =>
    rw [splitL]
    split
    · simp; omega
    · split
      · rename_i w ws e
        rw [e] at ih
        simp at ih ⊢
        omega
      · rename_i e
        exact absurd e (splitL_ne)
theorem few_lines {s : Txt} {p : Prg} (hs : s.length ≤ 1048576) (h : parseI (splitL 10 s).dropLast prg0 = some p) : (splitL 10 s).dropLast.length ≤ 1048575 := by
  have hsum := split_sum (c := 10) (s := s)
  have hne := splitL_ne (c := 10) (l := s)
  generalize splitL 10 s = L at h hsum hne ⊢
  obtain ⟨I, z, rfl⟩ : ∃ I z, L = I ++ [z] := ⟨L.dropLast, L.getLast hne, (List.dropLast_concat_getLast hne).symm⟩
  rw [List.dropLast_concat] at h ⊢
  cases I with
  | nil => simp
  | cons l r =>
    have hl : l ≠ [] := by
      rintro rfl
      have hno : lineI prg0 [] = none := rfl
      simp [parseI, hno] at h
    have h1 := List.length_pos_iff.2 hl
    simp at hsum ⊢
    omega
def rdProg (s : Txt) : Option Prg := if (splitL 10 s).getLast? = some [] then parseI (splitL 10 s).dropLast prg0 else none
theorem readProgram_fn (gl) {m : Int} (hgm : gl 5 = some [.sc (.int .i64 m)]) (hgs' : gl 1 = some ((vtx stmtW).map AV.sc)) (s : Txt) (hs : s.length ≤ 1048576) :
    FnE Tryz.prog gl 33 noD [tx s] noH (fun r y H' => ∃ p, rdProg s = some p ∧ y = .agg [.hs r 4 0 p.length] ∧ OwnP H' r p ∧ Got p 1048575) (badQ (rdProg s = none)) := by
  have hlen := split_len (c := 10) (s := s)
  have hpart := split_part (c := 10) (s := s)
  have hsp := ireader_fn gl hgm s hs
  have hgood : (splitL 10 s).getLast? = some [] → rdProg s = parseI (splitL 10 s).dropLast prg0 := fun e => by unfold rdProg; rw [if_pos e]
  have hbad : (splitL 10 s).getLast? ≠ some [] → rdProg s = none := fun e => by unfold rdProg; rw [if_neg e]
  have hfew : ∀ p, parseI (splitL 10 s).dropLast prg0 = some p → (splitL 10 s).dropLast.length ≤ 1048575 := fun p h => few_lines hs h
  generalize rdProg s = RC at hgood hbad ⊢
  generalize splitL 10 s = L at hlen hpart hsp hgood hbad hfew
  refine FnE.of_sem Tryz.func33 rfl (by kernel_rfl) (rs := [.cell 2 24]) rfl Tryz.ntmps33 (Nat.le_of_ble_eq_true rfl) (fun _ h => by cases h) fun C w g root hroot => ?_
  have fx := fx0
  refine k_run ?_
  repeat ((first | refine wSc (id := 9) qsUv0 mixed ?_); refine k_rund ?_; refine k_run ?_)
  clear fx
  intro K hK
  refine x_ownE (ha := by simp; first | done | rfl) (hF := hsp) (hE := fun x s hx hq => ⟨[], .nil, hx.tr, hbad hq⟩) (h := ?_)
  rintro y H1 ⟨hlast, rfl, hH1⟩
  have hRC := hgood hlast
  have hdl : ∀ v ∈ L.dropLast, v.length ≤ 1048577 := fun v hv => by have := hpart v (List.dropLast_subset _ hv); omega
  have hdn : L.dropLast.length ≤ 1048577 := by rw [List.length_dropLast]; omega
  generalize L.dropLast = I at hH1 hdl hdn hRC hfew
  clear hlast hpart hlen hsp hgood hbad
  have fx := fx0
  refine k_run ?_
  repeat ((first | refine wSc (id := 9) qsUv0 mixed ?_); refine k_rund ?_; refine k_run ?_)
  clear fx
  refine w_loop (fun n st => ∃ (dn ls : List Txt) (p : Prg) (x : AV), n = ls.length ∧ I = dn ++ ls ∧ parseI dn prg0 = some p ∧ Got p dn.length ∧ st.tm 4 = .pt (.s 4) 0 ∧ st.hp (.s 4) = some (.row 2 [[xsl ls, x]]) ∧ st.tm 2 = .pt (.s 2) 0 ∧ st.hp (.s 2) = some (.row 1 [[.hs (.c (.s 2) 0 0) 4 0 0]]) ∧ st.hp (.c (.s 2) 0 0) = some (.row 4 []) ∧ st.tm 3 = .hs (.s 3) 4 0 p.length ∧ OwnP st.hp (.s 3) p ∧ (x = .hs (.c (.s 4) 0 1) 1 0 0 ∨ ∃ ws, x = xsl ws)) I.length ?_ ?_
  · refine ⟨[], I, prg0, .hs (.c (.s 4) 0 1) 1 0 0, rfl, rfl, rfl, got0, by simp, by simp [hH1], by simp, by simp, by simp, by simp [prg0], ⟨by simp [prg0, pRows], fun j r hj => ?_, fun j r hj => ?_⟩, .inl rfl⟩
    all_goals
      match j, hj with
      | 0, hj => simp [prg0] at hj; subst hj; simp
      | j + 1, hj => simp [prg0] at hj
  clear hH1
  rintro n st - hgs ⟨dn, ls, p, x, rfl, rfl, hpp, hG, h4, hp4, h2, hp2, hp2', h3, ⟨ho1, ho2, ho3⟩, hx⟩
  replace hgs : st.gl = gl := hgs
  rw [List.length_append] at hdn
  have hlsb : ∀ v ∈ ls, v.length ≤ 1048577 := fun v hv => hdl v (by simp [hv])
  obtain ⟨hG1, hG2, hG3⟩ := hG
  rcases hx with rfl | ⟨ws0, rfl⟩
  case' inl =>
    have fx := And.intro h4 <| And.intro hp4 <| And.intro h3 <| And.intro h2 <| hp2
    refine k_run ?_
    repeat ((first | refine wSc (id := 9) qsUv0 mixed ?_); refine k_rund ?_; refine k_run ?_)
    clear fx
    intro K hK
    have fx := And.intro h4 h4
    refine x_mutc (.s 4) (.u 1 0 0) (hext := rfl) (hs := by simp [hp4]) (hF := nextLine_fn _ hgm _ ls (.hs (.c (.u 1 0 0) 0 1) 1 0 0) hlsb (by simp [hp4])) (h := ?_)
  case' inr =>
    have fx := And.intro h4 <| And.intro hp4 <| And.intro h3 <| And.intro h2 <| hp2
    refine k_run ?_
    repeat ((first | refine wSc (id := 9) qsUv0 mixed ?_); refine k_rund ?_; refine k_run ?_)
    clear fx
    intro K hK
    have fx := And.intro h4 h4
    refine x_mutc (.s 4) (.u 1 0 0) (hext := rfl) (hs := by simp [hp4]) (hF := nextLine_fn _ hgm _ ls (xsl ws0) hlsb (by simp [hp4])) (h := ?_)
  all_goals
    rintro y H1 hy
    clear fx
    rcases hy with ⟨rfl, rfl⟩ | ⟨l, ls', rfl, rfl, hH1⟩
    · have hfw := hfew p (by rw [List.append_nil]; exact hpp)
      rw [List.append_nil] at hfw
      have fx := And.intro h4 <| And.intro h3 <| And.intro h2 <| And.intro hp2 <| And.intro hp2' <| ho1
      refine k_run ?_
      repeat ((first | refine wSc (id := 9) qsUv0 mixed ?_); refine k_rund ?_; refine k_run ?_)
      clear fx
      refine e_ret [(.c (.s 2) 0 0, root)] (.one rfl) (by simp [h2]; rfl) ⟨p, by rw [hRC, List.append_nil]; exact hpp, by simp, ⟨?_, fun j r hj => ?_, fun j r hj => ?_⟩, ⟨hG1, by omega, fun k hk => by have := hG3 k hk; omega⟩⟩
      · simp [ho1, pRows_tr (n := .c (.s 2) 0 0) (m := root) (f := finf noD [(.c (.s 2) 0 0, root)]) (p := p) (by simp)]
      · simp [ho2 j r hj]
      · simp [ho3 j r hj]
    have hlb := hlsb l (by simp)
    have hwb : ∀ v ∈ splitL 32 l, v.length ≤ 1048577 := fun v hv => by have := split_part v hv; omega
    have fx := And.intro h4 <| And.intro h3 <| hH1
    refine k_run ?_
    repeat ((first | refine wSc (id := 9) qsUv0 mixed ?_); refine k_rund ?_; refine k_run ?_)
    clear fx
    intro K hK
    refine o_abs (fun st => st.gl = gl ∧ st.tm 15 = .pt (.s 4) 0 ∧ st.tm 4 = .pt (.s 4) 0 ∧ st.hp (.s 4) = some (rdW ls' (splitL 32 l)) ∧ st.tm 2 = .pt (.s 2) 0 ∧ st.hp (.s 2) = some (.row 1 [[.hs (.c (.s 2) 0 0) 4 0 0]]) ∧ st.hp (.c (.s 2) 0 0) = some (.row 4 []) ∧ st.tm 3 = .hs (.s 3) 4 0 p.length ∧ OwnP st.hp (.s 3) p) ⟨by simp [hgs], by simp [h4], by simp [h4], by simp [hH1], by simp [h2], by simp [hp2], by simp [hp2'], by simp [h3], ⟨by simp [ho1], fun j r hj => by simp [ho2 j r hj], fun j r hj => by simp [ho3 j r hj]⟩⟩ ?_
    clear h4 h3 h2 hp2 hp2' ho1 ho2 ho3 hp4 hH1 hgs
    rintro st ⟨hgs, h15, h4, hp4, h2, hp2, hp2', h3, ⟨ho1, ho2, ho3⟩⟩
    have fx := And.intro h15 h15
    refine x_mutcE (.s 4) (.u 1 0 0) (hext := rfl) (hs := by simp [hp4]) (hF := word_fn _ _ ls' (splitL 32 l) (by simp [hp4])) (hE := fun x s hx hq => ⟨[], .nil, hx.tr, by rw [hRC]; exact parseI_bad hpp (by simp [lineI, hq])⟩) (h := ?_)
    rintro y H2 ⟨v, ws, hvs, rfl, hH2⟩
    clear fx
    have hww : ∀ x ∈ ws, x.length ≤ 1048577 := fun x hx => hwb x (by rw [hvs]; simp [hx])
    by_cases hin : v = tIn
    · have e1 : (v == [105, 110]) = true := by rw [hin]; rfl
      have fx := And.intro h4 <| And.intro h3 <| And.intro h2 <| And.intro hp2 <| And.intro hp2' <| And.intro ho1 <| And.intro hH2 <| And.intro hgs <| e1
      refine k_run ?_
      repeat ((first | refine wSc (id := 9) qsUv0 mixed ?_); refine k_rund ?_; refine k_run ?_)
      clear fx
      intro K hK
      have fx := And.intro h4 h4
      refine x_mutcE (.s 4) (.u 1 0 0) (hext := rfl) (hs := by simp [hH2]) (hF := readHead_fn _ _ ls' ws hww (by simp [hH2])) (hE := fun x s hx hq => ⟨[], .nil, hx.tr, by rw [hRC]; exact parseI_bad hpp (by simp [lineI, hvs, hin, hq])⟩) (h := ?_)
      rintro y H3 ⟨k, ws', hh, rfl, hk2, hk3, hH3⟩
      clear fx
      obtain ⟨hkp, hkb⟩ := head_len hh
      have hkb0 : k.body.length = 0 := by rw [hkb]; rfl
      have fx := And.intro h4 <| And.intro h3 <| And.intro h2 <| And.intro hp2 <| And.intro hp2' <| And.intro ho1 <| And.intro hH3 <| And.intro hk2 <| hk3
      refine k_run ?_
      repeat ((first | refine wSc (id := 9) qsUv0 mixed ?_); refine k_rund ?_; refine k_run ?_)
      clear fx
      intro K hK
      have fx := And.intro h4 h4
      refine x_mutcE (.s 4) (.u 1 0 0) (hext := rfl) (hs := by simp [hH3]) (hF := endLine_fn _ _ ls' ws' (by simp [hH3])) (hE := fun x s hx hq => ⟨[], .nil, hx.tr, by rw [hRC]; exact parseI_bad hpp (by simp [lineI, hvs, hin, hh]; cases ws' <;> simp at hq ⊢)⟩) (h := ?_)
      rintro y H4 ⟨rfl, hH4⟩
      clear fx
      have fx := And.intro h4 <| And.intro h3 <| And.intro h2 <| And.intro hp2 <| And.intro hp2' <| And.intro ho1 <| And.intro hH3 <| And.intro hk2 <| And.intro hk3 <| hH4
      refine k_run ?_
      repeat ((first | refine wSc (id := 9) qsUv0 mixed ?_); refine k_rund ?_; refine k_run ?_)
      clear fx
      have hli : lineI p l = some (p ++ [k]) := by simp [lineI, hvs, hin, hh]
      refine ⟨ls'.length, by simp, dn ++ [l], ls', p ++ [k], xsl [], rfl, by simp, parseI_snoc hpp hli, ?_, by simp [h4], by simp [hH4], by simp [h2], by simp [hp2], by simp [hp2'], by simp, ⟨?_, fun d r hd => ?_, fun d r hd => ?_⟩, .inr ⟨[], rfl⟩⟩
      · have := Got.head ⟨hG1, hG2, hG3⟩ (k := k) ⟨by omega, hkp⟩
        simpa using this
      · rw [pRows_app]
        simp [hkb0]
        try exact List.take_of_length_le (by simp)
      all_goals
        rw [List.getElem?_append] at hd
        split at hd
        · rename_i hdl
          obtain ⟨r0, hr0'⟩ : ∃ r0, p[d]? = some r0 := ⟨_, gE hdl⟩
          rw [hr0'] at hd
          obtain rfl := Option.some.inj hd
          have hdn : ¬ p.length = d := by omega
          have hdn' : ¬ d = p.length := by omega
          simp [ho2 d _ hr0', ho3 d _ hr0', hdn, hdn']
        · rename_i hdl
          have hde : d = p.length := by
            have h1 := (gS hd).1
            simp at h1
            omega
          subst hde
          rw [Nat.sub_self] at hd
          simp at hd
          subst hd
          simp [hk2, hk3, hkb]
    · have e1 : (v == [105, 110]) = false := by simpa [tIn] using hin
      obtain ⟨k, hk⟩ : ∃ k, p[p.length - 1]? = some k := ⟨_, gE (by omega)⟩
      obtain ⟨hkl, hkE⟩ := gS hk
      have hwl : IntKind.i64.wrap ((p.length : Int) - 1) = ((p.length - 1 : Nat) : Int) := by rw [wrp (by omega) (by omega)]; omega
      have hok := ho3 _ _ hk
      have hkb := hG3 k (List.mem_of_getElem? hk)
      have fx := And.intro h4 <| And.intro h3 <| And.intro h2 <| And.intro hp2 <| And.intro hp2' <| And.intro ho1 <| And.intro hH2 <| And.intro hgs <| And.intro e1 <| And.intro hwl <| And.intro hk <| And.intro hkE <| And.intro hkl <| hok
      refine k_run ?_
      refine w_schE (fun x => BadX x ∧ lineI p l = none) (fun x s hx => ⟨[], .nil, hx.1.tr, by rw [hRC]; exact parseI_bad hpp hx.2⟩) schRp mixed (by kernel_rfl) (by kernel_rfl) ?_
      intro K hK
      refine ae_q (h := ?_)
      refine ae_q (h := ?_)
      refine ae_q (h := ?_)
      refine ae_q (h := ?_)
      refine ae_q (h := ?_)
      refine ae_q (h := ?_)
      refine ae_q (h := ?_)
      refine ae_l (h := ?_)
      refine x_mutcE (.s 4) (.u 1 0 0) (hext := rfl) (hs := by simp [hH2]) (hF := readStmt_fn _ (by simp [hgs]; exact hgs') _ v ls' ws hww (by simp [hH2])) (hE := fun x s hx hq => ⟨hx, by simp [lineI, hvs, hin, hq]⟩) (h := ?_)
      rintro y H3 ⟨⟨sk, so, sa, sb⟩, ws', hst, rfl, hH3⟩
      clear fx
      refine And.intro ?_ (arunE_of ?_)
      · have fx := And.intro h4 <| And.intro h3 <| And.intro ho1 <| And.intro hH3 <| And.intro hk <| And.intro hkE <| And.intro hkl <| hok
        repeat' (first | exact st_nil | refine xa_st (h2 := ?_))
      have hset := pRows_set (n := .s 3) (a := 38) (i := p.length - 1) (len := k.body.length + 1) (p := p) (L := k.body ++ [⟨sk, so, sa, sb⟩]) (by simp) (by simp) (by simp)
      have hsl : (setBody p (p.length - 1) (k.body ++ [⟨sk, so, sa, sb⟩])).length = p.length := setBody_len
      have fx := And.intro h4 <| And.intro h3 <| And.intro h2 <| And.intro hp2 <| And.intro hp2' <| And.intro ho1 <| And.intro hH3 <| And.intro hk <| And.intro hkE <| And.intro hkl <| hok
      refine k_run ?_
      repeat ((first | refine wSc (id := 9) qsUv0 mixed ?_); refine k_rund ?_; refine k_run ?_)
      clear fx
      intro K hK
      have fx := And.intro h4 h4
      refine x_mutcE (.s 4) (.u 1 0 0) (hext := rfl) (hs := by simp [hH3]) (hF := endLine_fn _ _ ls' ws' (by simp [hH3])) (hE := fun x s hx hq => ⟨[], .nil, hx.tr, by rw [hRC]; exact parseI_bad hpp (by simp [lineI, hvs, hin, hst]; cases ws' <;> simp at hq ⊢)⟩) (h := ?_)
      rintro y H4 ⟨rfl, hH4⟩
      clear fx
      have fx := And.intro h4 <| And.intro h3 <| And.intro h2 <| And.intro hp2 <| And.intro hp2' <| And.intro ho1 <| And.intro hH3 <| And.intro hk <| And.intro hkE <| And.intro hkl <| And.intro hok <| hH4
      refine k_run ?_
      repeat ((first | refine wSc (id := 9) qsUv0 mixed ?_); refine k_rund ?_; refine k_run ?_)
      clear fx
      have hli : lineI p l = some (setBody p (p.length - 1) (k.body ++ [⟨sk, so, sa, sb⟩])) := by rw [← putS_eq hG1 hk]; simp [lineI, hvs, hin, hst]
      have hgot := Got.put ⟨hG1, hG2, hG3⟩ (S := ⟨sk, so, sa, sb⟩) hk
      refine ⟨ls'.length, by simp, dn ++ [l], ls', _, xsl [], rfl, by simp, parseI_snoc hpp hli, by simpa using hgot, by simp [h4], by simp [hH4], by simp [h2], by simp [hp2], by simp [hp2'], by simp [h3, hsl], ⟨by simp [hset], fun d r hd => ?_, fun d r hd => ?_⟩, .inr ⟨[], rfl⟩⟩
      all_goals
        have hdp : d < p.length := by have h1 := (gS hd).1; rwa [hsl] at h1
        obtain ⟨r0, hr0'⟩ : ∃ r0, p[d]? = some r0 := ⟨_, gE hdp⟩
        rw [setBody_get hr0'] at hd
        obtain rfl := Option.some.inj hd
        by_cases hpd : p.length - 1 = d
        · subst hpd
          simp [ho2 _ r0 hr0']
        · simp [ho2 d r0 hr0', ho3 d r0 hr0', hpd, show ¬ d = p.length - 1 from fun e => hpd e.symm]
end Go.Proofs.YtmaoicgfcngciaaGreatDoor
end
section
namespace Go.Proofs.YtmaoicgfcngciaaGreatDoor
open Go Go.Hm Go.Proofs
theorem bound_fn (gl) (p : Prg) (b : Nat) (k : Blk) (hk : p[b]? = some k) (hs : BSm k) : FnOk Tryz.prog gl 174 [pav p, iv b] (fun r y H' => y = .hs r 1 0 k.bd.length ∧ H' r = some (.row 1 (irows k.bd))) := by
  obtain ⟨hl1, hl2⟩ := hs
  refine FnOk.of_sem Tryz.func174 rfl (by kernel_rfl) (rs := [.tmp 4]) rfl Tryz.ntmps174 (Nat.le_of_ble_eq_true rfl) fun C w g root => ?_
  have fx :=  hk
  have d1 := copyInts_fn gl k.params (by omega)
  refine k_run ?_
  clear fx d1
  refine w_loop (fun n st => ∃ i : Nat, n = k.body.length - i ∧ i ≤ k.body.length ∧ st.tm 1 = iv b ∧ st.tm 2 = .pt (.s 2) 0 ∧ st.hp (.s 2) = some (.row 1 [[ksl p]]) ∧ st.tm 6 = iv i ∧ ∃ xs : List Int, xs = k.params ++ ((k.body.take i).filter (fun s => decide (s.sets ∨ s.kind = 11))).map Stm.to ∧ xs.length ≤ k.params.length + i ∧ st.tm 5 = .hs (.s 5) 1 0 xs.length ∧ st.hp (.s 5) = some (.row 1 (irows xs))) k.body.length ?_ ?_
  · exact ⟨0, by simp⟩
  rintro n st - - ⟨i, rfl, hi, h1, h2, hp2, h6, xs, hxs, hxl, h5, hp5⟩
  have fx := And.intro h1 <| And.intro h2 <| And.intro hp2 <| And.intro h6 <| And.intro h5 <| And.intro hp5 <| hk
  refine k_run ?_
  clear fx
  refine w_if (by simp []; first | done | rfl | exact (Bool.not_not _).symm) (fun ht => ?_) (fun hf => ?_)
  · have hlt : i < k.body.length := by simpa using ht
    obtain ⟨s, hs⟩ : ∃ s, k.body[i]? = some s := ⟨_, gE hlt⟩
    by_cases hc : s.sets <;> cases h11 : (s.kind == 11)
    all_goals have fx := And.intro h1 <| And.intro h2 <| And.intro hp2 <| And.intro h6 <| And.intro h5 <| And.intro hp5 <| And.intro hk <| And.intro hs <| And.intro hc <| h11
    repeat' (first
     | refine w_seq ?_ | refine w_block ?_ | refine w_skip ?_ | refine w_reg fun K hK => ?_
     | ((with_reducible refine s_end hK ?_); clear hK K)
     | (with_reducible first | refine then_normal ?_ | refine in_normal ?_ | refine then_exit ?_ | refine in_exit ?_ | refine then_ret ?_ | refine in_ret ?_ | refine in_other (by decide) ?_)
     | refine w_exit ?_
     | refine w_ret ?_
     | (with_reducible refine s_none ?_)
     | ((with_reducible refine g_id ?_); refine x_guard (h := ?_))
     | (with_reducible first | refine gx_tt ?_ | refine gx_ff ?_ | refine x_tf (h := ?_) | refine x_ft (h := ?_) | refine x_u (h := ?_) | refine x_assign (h := ?_) | refine x_box (h := ?_) | refine x_alloc (h := ?_) | refine x_store0 (h := ?_) | refine x_append0 (T := 41) (h := ?_) | refine x_append (T := 41) (h := ?_) | refine x_build (h := ?_))
     | ((with_reducible refine o_id 205 rfl ?_); refine x_call (hF := sets_fn _ s) (h := ?_))
     | (with_reducible refine x_q (h := ?_))
     | (with_reducible refine gx_s (fun ht => ?_) (fun ht => ?_))
     | refine x_condt (h1 := ?_) | refine x_condf (h1 := ?_)
     | fail)
    all_goals try clear fx
    all_goals refine ⟨k.body.length - (i + 1), by omega, i + 1, rfl, by omega, by simp [h1], by simp [h2], by simp [hp2], by simp; exact wrp (by omega) (by omega), _, rfl, ?_⟩
    all_goals simp at h11
    all_goals simp [take_succ_filter hs, hc, h11, h5, hp5, hxs]
    all_goals (rw [hxs] at hxl; simp at hxl; omega)
  · have h8 : i = k.body.length := by
      have : ¬ i < k.body.length := by simpa using hf
      omega
    subst h8
    have hb : boundAll k = xs := by rw [hxs]; simp [boundAll]
    have fx := And.intro h1 <| And.intro h2 <| And.intro hp2 <| And.intro h6 <| And.intro h5 <| And.intro hp5 <| hk
    have d1 := sorted_fn gl xs (by omega)
    refine k_run ?_
    clear fx d1
    rw [← hb]
    exact e_list (t := 4) (by first | (simp []; done) | (simp []; rfl)) (by first | (simp []; done) | (simp []; rfl)) (by simp)
theorem declared_fn (gl) (p : Prg) (b : Nat) (k : Blk) (d : Int) (hk : p[b]? = some k) (hs : BSm k) : FnOk Tryz.prog gl 87 [pav p, iv b, iv d] (fun r y H' => y = .hs r 1 0 (k.dc d).length ∧ H' r = some (.row 1 (irows (k.dc d)))) := by
  obtain ⟨hl1, hl2⟩ := hs
  refine FnOk.of_sem Tryz.func87 rfl (by kernel_rfl) (rs := [.tmp 6]) rfl Tryz.ntmps87 (Nat.le_of_ble_eq_true rfl) fun C w g root => ?_
  have fx :=  hk
  refine k_run ?_
  clear fx
  refine w_loop (fun n st => ∃ i : Nat, n = k.body.length - i ∧ i ≤ k.body.length ∧ st.tm 1 = iv b ∧ st.tm 2 = iv d ∧ st.tm 3 = .pt (.s 3) 0 ∧ st.hp (.s 3) = some (.row 1 [[ksl p]]) ∧ st.tm 8 = iv i ∧ ∃ xs : List Int, xs = ((k.body.take i).filter (fun s => decide (s.kind = d))).map Stm.to ∧ xs.length ≤ i ∧ st.tm 7 = .hs (.s 7) 1 0 xs.length ∧ st.hp (.s 7) = some (.row 1 (irows xs))) k.body.length ?_ ?_
  · exact ⟨0, by simp⟩
  rintro n st - - ⟨i, rfl, hi, h1, h2, h3, hp3, h8, xs, hxs, hxl, h7, hp7⟩
  have fx := And.intro h1 <| And.intro h2 <| And.intro h3 <| And.intro hp3 <| And.intro h8 <| And.intro h7 <| And.intro hp7 <| hk
  refine k_run ?_
  clear fx
  refine w_if (by simp []; first | done | rfl | exact (Bool.not_not _).symm) (fun ht => ?_) (fun hf => ?_)
  · have hlt : i < k.body.length := by simpa using ht
    obtain ⟨s, hs⟩ : ∃ s, k.body[i]? = some s := ⟨_, gE hlt⟩
    cases hc : (s.kind == d)
    all_goals have fx := And.intro h1 <| And.intro h2 <| And.intro h3 <| And.intro hp3 <| And.intro h8 <| And.intro h7 <| And.intro hp7 <| And.intro hk <| And.intro hs <| hc
    repeat' (first
     | refine w_seq ?_ | refine w_block ?_ | refine w_skip ?_ | refine w_reg fun K hK => ?_
     | ((with_reducible refine s_end hK ?_); clear hK K)
     | (with_reducible first | refine then_normal ?_ | refine in_normal ?_ | refine then_exit ?_ | refine in_exit ?_ | refine then_ret ?_ | refine in_ret ?_ | refine in_other (by decide) ?_)
     | refine w_exit ?_
     | refine w_ret ?_
     | (with_reducible first | refine s_none ?_ | refine x_assign (h := ?_) | refine x_box (h := ?_) | refine x_append0 (T := 41) (h := ?_) | refine x_append (T := 41) (h := ?_) | refine x_build (h := ?_))
     | (with_reducible refine x_q (h := ?_))
     | refine x_condt (h1 := ?_) | refine x_condf (h1 := ?_)
     | fail)
    all_goals try clear fx
    all_goals refine ⟨k.body.length - (i + 1), by omega, i + 1, rfl, by omega, by simp [h1], by simp [h2], by simp [h3], by simp [hp3], by simp; exact wrp (by omega) (by omega), _, rfl, ?_⟩
    all_goals simp at hc
    all_goals simp [take_succ_filter hs, hc, h7, hp7, hxs]
    all_goals (rw [hxs] at hxl; simp at hxl; omega)
  · have h8 : i = k.body.length := by
      have : ¬ i < k.body.length := by simpa using hf
      omega
    subst h8
    have hb : declAll k d = xs := by rw [hxs]; simp [declAll]
    have fx := And.intro h1 <| And.intro h2 <| And.intro h3 <| And.intro hp3 <| And.intro h8 <| And.intro h7 <| And.intro hp7 <| hk
    have d1 := sorted_fn gl xs (by omega)
    refine k_run ?_
    clear fx d1
    simp only [Blk.dc, hb]
    exact e_list (t := 6) (by first | (simp []; done) | (simp []; rfl)) (by first | (simp []; done) | (simp []; rfl)) (by simp)
theorem isLocal_fn (gl) (p : Prg) (b : Nat) (k : Blk) (x : Int) (hk : p[b]? = some k) (hs : BSm k) : FnOk Tryz.prog gl 140 [pav p, iv b, iv x] (fun _ y _ => y = bv (isLocal b k x)) := by
  refine FnOk.of_sem Tryz.func140 rfl (by kernel_rfl) (rs := [.tmp 6]) rfl Tryz.ntmps140 (Nat.le_of_ble_eq_true rfl) fun C w g root => ?_
  all_goals have fx :=  hk
  repeat' (first
   | refine w_seq ?_ | refine w_reg fun K hK => ?_
   | ((with_reducible refine s_end hK ?_); clear hK K)
   | (with_reducible first | refine then_normal ?_)
   | refine w_ret ?_
   | (with_reducible refine s_none ?_)
   | ((with_reducible refine g_id ?_); refine x_guard (h := ?_))
   | (with_reducible first | refine gx_tt ?_ | refine x_tf (h := ?_) | refine x_assign (h := ?_) | refine x_box (h := ?_))
   | ((with_reducible refine o_id 174 rfl ?_); refine x_callh (hF := bound_fn _ p b k hk hs) (h := ?_))
   | ((with_reducible refine o_id 88 rfl ?_); refine x_call (hF := has_fn _ _ _ (by first | exact Nat.le_trans (Blk.bd_len _) (by decide) | exact Nat.le_trans (Blk.dc_len _ _) (by decide) | exact Nat.le_trans (Blk.rd_len _) (by decide))) (h := ?_))
   | ((with_reducible refine o_id 87 rfl ?_); refine x_callh (hF := declared_fn _ p b k _ hk hs) (h := ?_))
   | (with_reducible refine x_q (h := ?_))
   | (with_reducible refine gx_s (fun ht => ?_) (fun ht => ?_))
   | fail)
  all_goals try clear fx
  all_goals refine e_ret [] .nil (by simp; rfl) ?_
  all_goals simp_all [isLocal]
end Go.Proofs.YtmaoicgfcngciaaGreatDoor
end
section
namespace Go.Proofs.YtmaoicgfcngciaaGreatDoor
open Go Go.Hm Go.Proofs
theorem outer_fn (gl) (p : Prg) (b : Nat) (k : Blk) (x : Int) (hk : p[b]? = some k) (hs : Sml p) (hh : Heads p) : FnOk Tryz.prog gl 89 [pav p, iv b, iv x] (fun _ y _ => y = iv (outer p b x)) := by
  refine FnOk.of_sem Tryz.func89 rfl (by kernel_rfl) (rs := [.tmp 6]) rfl Tryz.ntmps89 (Nat.le_of_ble_eq_true rfl) fun C w g root => ?_
  have fx :=  hk
  refine k_run ?_
  clear fx
  obtain ⟨hk1, hk2, _⟩ := hh b k hk
  have hbl : b < p.length := (gS hk).1
  refine w_loop (fun n st => ∃ j : Int, n = (j + 1).toNat ∧ -1 ≤ j ∧ j < p.length ∧ outerF p x p.length j = outer p b x ∧ st.tm 2 = iv x ∧ st.tm 3 = .pt (.s 3) 0 ∧ st.hp (.s 3) = some (.row 1 [[ksl p]]) ∧ st.tm 7 = iv j) (k.parent + 1).toNat ?_ ?_
  · exact ⟨k.parent, rfl, hk1, by omega, (outer_fuel hh hk).symm, by simp⟩
  rintro n st - - ⟨j, rfl, hj1, hj2, ho, h2, h3, hp3, h7⟩
  have fx := And.intro h2 <| And.intro h3 <| And.intro hp3 <| h7
  refine k_run ?_
  clear fx
  refine w_if (by simp []; first | done | rfl | exact (Bool.not_not _).symm) (fun ht => ?_) (fun hf => ?_)
  · have hj0 : 0 < j := by simpa using ht
    obtain ⟨j, rfl⟩ : ∃ i : Nat, j = i := ⟨j.toNat, by omega⟩
    have hj0 : 0 < j := by omega
    obtain ⟨q, hq⟩ : ∃ q, p[j]? = some q := ⟨_, gE (by omega)⟩
    rw [outerF_step hh hq hj0] at ho
    obtain ⟨hq1, hq2, hq3⟩ := hh j q hq
    cases hc : (q.kind == 1)
    · skip
      have fx := And.intro h2 <| And.intro h3 <| And.intro hp3 <| And.intro h7 <| And.intro hq <| And.intro hc <| @bne_def
      refine k_run ?_
      clear fx
      refine ⟨(q.parent + 1).toNat, by omega, q.parent, rfl, hq1, by omega, ?_, by simp [h2, h3, hp3]⟩
      rw [← ho, if_pos (by simpa using hc)]
    · rw [if_neg (by simpa using hc)] at ho
      all_goals have fx := And.intro h2 <| And.intro h3 <| And.intro hp3 <| And.intro h7 <| And.intro hq <| And.intro hc <| @bne_def
      repeat' (first
       | refine w_seq ?_ | refine w_block ?_ | refine w_skip ?_ | refine w_reg fun K hK => ?_
       | ((with_reducible refine s_end hK ?_); clear hK K)
       | (with_reducible first | refine then_normal ?_ | refine in_normal ?_ | refine then_exit ?_ | refine in_exit ?_ | refine then_ret ?_ | refine in_ret ?_ | refine in_other (by decide) ?_)
       | refine w_exit ?_
       | refine w_ret ?_
       | (with_reducible first | refine s_none ?_ | refine x_assign (h := ?_) | refine x_box (h := ?_))
       | ((with_reducible refine o_id 87 rfl ?_); refine x_callh (hF := declared_fn _ p j q _ hq (hs.bsm hq)) (h := ?_))
       | ((with_reducible refine o_id 88 rfl ?_); refine x_call (hF := has_fn _ _ _ (Nat.le_trans (Blk.dc_len _ _) (by decide))) (h := ?_))
       | (with_reducible refine x_q (h := ?_))
       | refine x_condt (h1 := ?_) | refine x_condf (h1 := ?_)
       | fail)
      all_goals try clear fx
      refine w_if (by simp []; first | done | rfl | exact (Bool.not_not _).symm) (fun ht => ?_) (fun hf => ?_)
      · have hm : x ∈ q.dc 9 := by simpa using ht
        rw [if_pos hm] at ho
        have fx := And.intro h2 <| And.intro h3 <| And.intro hp3 <| And.intro h7 <| hq
        refine k_run ?_
        clear fx
        refine e_ret [] .nil (by simp []; rfl) (by simp [← ho])
      · have hm : ¬ x ∈ q.dc 9 := by simpa using hf
        rw [if_neg hm] at ho
        have fx := And.intro h2 <| And.intro h3 <| And.intro hp3 <| And.intro h7 <| hq
        have c1 := isLocal_fn gl p j q x hq (hs.bsm hq)
        refine k_run ?_
        clear fx c1
        refine w_if (by simp []; first | done | rfl | exact (Bool.not_not _).symm) (fun ht => ?_) (fun hf => ?_)
        · rw [if_pos ht] at ho
          have fx := And.intro h2 <| And.intro h3 <| And.intro hp3 <| And.intro h7 <| hq
          refine k_run ?_
          clear fx
          refine e_ret [] .nil (by simp []; rfl) (by simp [← ho])
        · rw [if_neg (by simp [hf])] at ho
          have fx := And.intro h2 <| And.intro h3 <| And.intro hp3 <| And.intro h7 <| hq
          refine k_run ?_
          clear fx
          refine ⟨(q.parent + 1).toNat, by omega, q.parent, rfl, hq1, by omega, ho, by simp [h2, h3, hp3]⟩
  · have hj : j ≤ 0 := by simpa using hf
    rw [outerF_end hj] at ho
    have fx := fx0
    refine k_run ?_
    clear fx
    refine e_ret [] .nil (by simp []; rfl) (by simp [← ho])
theorem owner_fn (gl) (p : Prg) (b : Nat) (k : Blk) (x : Int) (hk : p[b]? = some k) (hs : Sml p) (hh : Heads p) : FnOk Tryz.prog gl 142 [pav p, iv b, iv x] (fun _ y _ => y = iv (owner p b x)) := by
  refine FnOk.of_sem Tryz.func142 rfl (by kernel_rfl) (rs := [.tmp 6]) rfl Tryz.ntmps142 (Nat.le_of_ble_eq_true rfl) fun C w g root => ?_
  all_goals have fx :=  hk
  repeat' (first
   | refine w_seq ?_ | refine w_skip ?_ | refine w_reg fun K hK => ?_
   | ((with_reducible refine s_end hK ?_); clear hK K)
   | (with_reducible first | refine then_normal ?_ | refine then_ret ?_)
   | refine w_ret ?_
   | (with_reducible refine s_none ?_)
   | ((with_reducible refine g_id ?_); refine x_guard (h := ?_))
   | (with_reducible first | refine gx_ff ?_ | refine x_ft (h := ?_) | refine x_assign (h := ?_) | refine x_box (h := ?_))
   | ((with_reducible refine o_id 87 rfl ?_); refine x_callh (hF := declared_fn _ p b k _ hk (hs.bsm hk)) (h := ?_))
   | ((with_reducible refine o_id 88 rfl ?_); refine x_call (hF := has_fn _ _ _ (Nat.le_trans (Blk.dc_len _ _) (by decide))) (h := ?_))
   | ((with_reducible refine o_id 140 rfl ?_); refine x_call (hF := isLocal_fn _ p b k x hk (hs.bsm hk)) (h := ?_))
   | ((with_reducible refine o_id 89 rfl ?_); refine x_call (hF := outer_fn _ p b k x hk hs hh) (h := ?_))
   | (with_reducible refine x_q (h := ?_))
   | (with_reducible refine gx_s (fun ht => ?_) (fun ht => ?_))
   | refine x_condt (h1 := ?_)
   | refine x_if (h1 := fun ht => ?_) (h2 := fun ht => ?_)
   | fail)
  all_goals try clear fx
  all_goals refine e_ret [] .nil (by simp; rfl) ?_
  all_goals simp_all [owner]
theorem madeAs_fn (gl) (p : Prg) (b : Nat) (j kind : Int) (hs : Sml p) (hb : b < p.length) : FnOk Tryz.prog gl 173 [pav p, iv b, iv j, iv kind] (fun _ y _ => y = bv (madeAs p b j kind)) := by
  have hpl := hs.len
  have w1 : IntKind.i64.wrap ((b : Int) + 1) = b + 1 := wrp (by omega) (by omega)
  have w2 : IntKind.i64.wrap ((p.length : Int) - 1) = p.length - 1 := wrp (by omega) (by omega)
  refine FnOk.of_sem Tryz.func173 rfl (by kernel_rfl) (rs := [.tmp 8]) rfl Tryz.ntmps173 (Nat.le_of_ble_eq_true rfl) fun C w g root => ?_
  by_cases hj : (b : Int) + 1 ≤ j ∧ j ≤ (p.length : Int) - 1
  · obtain ⟨j, rfl⟩ : ∃ i : Nat, j = i := ⟨j.toNat, by omega⟩
    obtain ⟨q, hq⟩ : ∃ q, p[j]? = some q := ⟨_, gE (by omega)⟩
    all_goals have fx := And.intro hq <| And.intro w1 <| And.intro w2 <| hj
    repeat' (first
     | refine w_seq ?_ | refine w_reg fun K hK => ?_
     | ((with_reducible refine s_end hK ?_); clear hK K)
     | (with_reducible first | refine then_normal ?_)
     | refine w_ret ?_
     | (with_reducible refine s_none ?_)
     | ((with_reducible refine g_id ?_); refine x_guard (h := ?_))
     | (with_reducible first | refine gx_tt ?_ | refine x_tf (h := ?_) | refine x_assign (h := ?_) | refine x_box (h := ?_))
     | ((with_reducible refine o_id 39 rfl ?_); refine x_call (hF := inRange_fn _ _ _ _) (h := ?_))
     | (with_reducible refine x_q (h := ?_))
     | (with_reducible refine gx_s (fun ht => ?_) (fun ht => ?_))
     | fail)
    all_goals try clear fx
    all_goals refine e_ret [] .nil (by simp; rfl) ?_
    all_goals simp_all [madeAs]
  · have hj' : (decide ((b : Int) + 1 ≤ j) && decide (j ≤ (p.length : Int) - 1)) = false := by simpa using hj
    all_goals have fx := And.intro w1 <| And.intro w2 <| hj'
    repeat' (first
     | refine w_seq ?_ | refine w_reg fun K hK => ?_
     | ((with_reducible refine s_end hK ?_); clear hK K)
     | (with_reducible first | refine then_normal ?_)
     | refine w_ret ?_
     | (with_reducible refine s_none ?_)
     | ((with_reducible refine g_id ?_); refine x_guard (h := ?_))
     | (with_reducible first | refine x_tf (h := ?_) | refine x_assign (h := ?_) | refine x_box (h := ?_))
     | ((with_reducible refine o_id 39 rfl ?_); refine x_call (hF := inRange_fn _ _ _ _) (h := ?_))
     | (with_reducible refine x_q (h := ?_))
     | fail)
    all_goals try clear fx
    all_goals refine e_ret [] .nil (by simp; rfl) ?_
    all_goals simp_all [madeAs]
    intro h1 h2
    exact absurd (hj h1) (by omega)
theorem validBlock_fn (gl) (p : Prg) (b : Nat) (k : Blk) (hk : p[b]? = some k) (hb : b < p.length) (hs : Sml p) : FnOk Tryz.prog gl 135 [pav p, iv b] (fun _ y _ => y = bv (decide (HeadOk b k))) := by
  have hpl := hs.len
  have w2 : IntKind.i64.wrap ((b : Int) - 1) = b - 1 := wrp (by omega) (by omega)
  refine FnOk.of_sem Tryz.func135 rfl (by kernel_rfl) (rs := [.tmp 4]) rfl Tryz.ntmps135 (Nat.le_of_ble_eq_true rfl) fun C w g root => ?_
  obtain ⟨kind, parent, params, body⟩ := k
  by_cases hp : 2 ≤ params.length
  · have c0 : ((params.length : Int) == 0) = false := by simp only [beq_eq_false_iff_ne, ne_eq]; omega
    have c1 : ((params.length : Int) == 1) = false := by simp only [beq_eq_false_iff_ne, ne_eq]; omega
    all_goals have fx := And.intro hk <| And.intro w2 <| And.intro c0 <| c1
    repeat' (first
     | refine w_seq ?_ | refine w_skip ?_ | refine w_reg fun K hK => ?_
     | ((with_reducible refine s_end hK ?_); clear hK K)
     | (with_reducible first | refine then_normal ?_ | refine then_ret ?_)
     | refine w_ret ?_
     | (with_reducible refine s_none ?_)
     | ((with_reducible refine g_id ?_); refine x_guard (h := ?_))
     | (with_reducible first | refine gx_tt ?_ | refine gx_ff ?_ | refine x_tf (h := ?_) | refine x_ft (h := ?_) | refine x_assign (h := ?_) | refine x_box (h := ?_) | refine x_alloc (h := ?_) | refine x_store0 (h := ?_))
     | ((with_reducible refine o_id 39 rfl ?_); refine x_call (hF := inRange_fn _ _ _ _) (h := ?_))
     | (with_reducible refine x_q (h := ?_))
     | (with_reducible refine gx_s (fun ht => ?_) (fun ht => ?_))
     | refine x_condt (h1 := ?_)
     | refine x_if (h1 := fun ht => ?_) (h2 := fun ht => ?_)
     | fail)
    all_goals try clear fx
    all_goals refine e_ret [] .nil (by simp; rfl) ?_
    all_goals simp_all [HeadOk]
    all_goals (intros; omega)
  · rcases params with _ | ⟨x, _ | ⟨y, l⟩⟩
    rotate_left 2
    · simp at hp
    all_goals have fx := And.intro hk <| w2
    repeat' (first
     | refine w_seq ?_ | refine w_skip ?_ | refine w_reg fun K hK => ?_
     | ((with_reducible refine s_end hK ?_); clear hK K)
     | (with_reducible first | refine then_normal ?_ | refine then_ret ?_)
     | refine w_ret ?_
     | (with_reducible refine s_none ?_)
     | ((with_reducible refine g_id ?_); refine x_guard (h := ?_))
     | (with_reducible first | refine gx_tt ?_ | refine gx_ff ?_ | refine x_tf (h := ?_) | refine x_ft (h := ?_) | refine x_u (h := ?_) | refine x_assign (h := ?_) | refine x_box (h := ?_) | refine x_alloc (h := ?_) | refine x_store0 (h := ?_))
     | ((with_reducible refine o_id 39 rfl ?_); refine x_call (hF := inRange_fn _ _ _ _) (h := ?_))
     | ((with_reducible refine o_id 172 rfl ?_); refine x_call (hF := spec_isName_fn _ _) (h := ?_))
     | (with_reducible refine x_q (h := ?_))
     | (with_reducible refine gx_s (fun ht => ?_) (fun ht => ?_))
     | refine x_condt (h1 := ?_)
     | refine x_if (h1 := fun ht => ?_) (h2 := fun ht => ?_)
     | fail)
    all_goals try clear fx
    all_goals refine e_ret [] .nil (by simp; rfl) ?_
    all_goals simp_all [HeadOk]
    all_goals (intros; omega)
end Go.Proofs.YtmaoicgfcngciaaGreatDoor
end
section
namespace Go.Proofs.YtmaoicgfcngciaaGreatDoor
open Go Go.Hm Go.Proofs
theorem validStmt_fn (gl) (p : Prg) (b : Nat) (k : Blk) (s : Stm) (hk : p[b]? = some k) (hs : Sml p) (hb : b < p.length) : FnOk Tryz.prog gl 136 [pav p, iv b, Stm.av s] (fun _ y _ => y = bv (StmOk p b k s)) := by
  refine FnOk.of_sem Tryz.func136 rfl (by kernel_rfl) (rs := [.tmp 6]) rfl Tryz.ntmps136 (Nat.le_of_ble_eq_true rfl) fun C w g root => ?_
  obtain ⟨kind, to, a, c⟩ := s
  all_goals have fx :=  hk
  repeat' (first
   | refine w_seq ?_ | refine w_block ?_ | refine w_skip ?_ | refine w_reg fun K hK => ?_
   | ((with_reducible refine s_end hK ?_); clear hK K)
   | (with_reducible first | refine then_normal ?_ | refine then_ret ?_)
   | refine w_ret ?_
   | (with_reducible refine s_none ?_)
   | (with_reducible first | refine x_assign (h := ?_) | refine x_box (h := ?_))
   | ((with_reducible refine o_id 144 rfl ?_); refine x_callh (hF := readsOf_fn _ ⟨kind, to, a, c⟩) (h := ?_))
   | ((with_reducible refine o_id 172 rfl ?_); refine x_call (hF := spec_isName_fn _ _) (h := ?_))
   | (with_reducible refine x_q (h := ?_))
   | refine x_if (h1 := fun ht => ?_) (h2 := fun ht => ?_)
   | fail)
  all_goals try clear fx
  · have hto : isNm to = false := by
      rw [Bool.eq_false_iff]
      intro h
      simp at h ht
      omega
    refine e_ret [] .nil (by simp; rfl) ?_
    simp only [StmOk, hto]
    rfl
  have hto : isNm to = true := by simpa using ht
  generalize hr : Stm.reads ⟨kind, to, a, c⟩ = rs
  have hrl : rs.length ≤ 2 := hr ▸ Stm.reads_len _
  refine w_loop (fun n st => ∃ i : Nat, n = rs.length - i ∧ i ≤ rs.length ∧ st.tm 1 = iv b ∧ st.tm 3 = .pt (.s 3) 0 ∧ st.hp (.s 3) = some (.row 1 [[ksl p]]) ∧ st.tm 5 = .pt (.s 5) 0 ∧ st.hp (.s 5) = some (.row 4 [[iv kind, iv to, iv a, iv c]]) ∧ st.tm 8 = iv i ∧ st.tm 7 = .hs (.s 7) 1 0 rs.length ∧ st.hp (.s 7) = some (.row 1 (irows rs)) ∧ (rs.take i).all isNm = true) rs.length ?_ ?_
  · exact ⟨0, by simp [hr]⟩
  rintro n st - - ⟨i, rfl, hi, h1, h3, hp3, h5, hp5, h8, h7, hp7, hal⟩
  all_goals have fx := And.intro h1 <| And.intro h3 <| And.intro hp3 <| And.intro h5 <| And.intro hp5 <| And.intro h8 <| And.intro h7 <| hp7
  repeat' (first
   | refine w_seq ?_ | refine w_reg fun K hK => ?_
   | ((with_reducible refine s_end hK ?_); clear hK K)
   | (with_reducible first | refine then_normal ?_)
   | (with_reducible refine s_none ?_)
   | (with_reducible refine x_q (h := ?_))
   | fail)
  all_goals try clear fx
  refine w_if (by simp []; first | done | rfl | exact (Bool.not_not _).symm) (fun ht => ?_) (fun hf => ?_)
  · have hlt : i < rs.length := by simpa using ht
    obtain ⟨y, hy⟩ : ∃ y, rs[i]? = some y := ⟨_, gE hlt⟩
    obtain ⟨_, hy'⟩ := gS hy
    all_goals have fx := And.intro h1 <| And.intro h3 <| And.intro hp3 <| And.intro h5 <| And.intro hp5 <| And.intro h8 <| And.intro h7 <| And.intro hp7 <| And.intro hy' <| hlt
    repeat' (first
     | refine w_seq ?_ | refine w_block ?_ | refine w_skip ?_ | refine w_reg fun K hK => ?_
     | ((with_reducible refine s_end hK ?_); clear hK K)
     | (with_reducible first | refine then_normal ?_ | refine then_ret ?_ | refine in_ret ?_)
     | refine w_ret ?_
     | (with_reducible refine s_none ?_)
     | (with_reducible first | refine x_assign (h := ?_))
     | ((with_reducible refine o_id 172 rfl ?_); refine x_call (hF := spec_isName_fn _ _) (h := ?_))
     | (with_reducible refine x_q (h := ?_))
     | refine x_if (h1 := fun ht => ?_) (h2 := fun ht => ?_)
     | fail)
    all_goals try clear fx
    · have hno : isNm y = false := by
        rw [Bool.eq_false_iff]
        intro h
        simp at h ht
        omega
      refine e_ret [] .nil (by simp; rfl) ?_
      have hall : rs.all isNm = false := by
        rw [Bool.eq_false_iff]
        intro h
        have := List.all_eq_true.1 h y (List.mem_of_getElem? hy)
        rw [hno] at this
        cases this
      simp only [StmOk, hr, hall]
      simp
    · have hyes : isNm y = true := by simpa using ht
      refine ⟨rs.length - (i + 1), by omega, i + 1, rfl, by omega, by simp [h1], by simp [h3], by simp [hp3], by simp [h5], by simp [hp5], by simp; exact wrp (by omega) (by omega), by simp [h7], by simp [hp7], ?_⟩
      rw [List.take_add_one, hy, List.all_append, hal]
      simp only [Option.toList_some, List.all_cons, List.all_nil, hyes]
      rfl
  · have hge : i = rs.length := by
      have : ¬ i < rs.length := by simpa using hf
      omega
    subst hge
    rw [List.take_length] at hal
    have hok : StmOk p b k ⟨kind, to, a, c⟩ = (if kind = 0 then decide (0 ≤ a) && decide (a ≤ 99) && c == 0 else if kind = 1 then c == 0 else if kind = 2 ∨ kind = 5 then true
      else if kind = 3 then c == 0 && madeAs p b a 1 else if kind = 4 then c == 0 && madeAs p b a 2 else if kind = 6 then isNm c
      else if kind = 7 then to == 0 && c == 0 else if kind = 8 then to == 0 && c == 0 && k.kind == 1
      else if kind = 9 ∨ kind = 10 then a == 0 && c == 0 && k.kind != 0 else if kind = 11 then a == 0 && c == 0 else false) := by
      simp only [StmOk, hr, hal, hto, Bool.true_and]
    rw [hok]
    clear hok
    all_goals have fx := And.intro h1 <| And.intro h3 <| And.intro hp3 <| And.intro h5 <| And.intro hp5 <| hk
    repeat' (first
     | refine w_seq ?_ | refine w_block ?_ | refine w_skip ?_ | refine w_reg fun K hK => ?_
     | ((with_reducible refine s_end hK ?_); clear hK K)
     | (with_reducible first | refine then_normal ?_ | refine then_ret ?_ | refine in_ret ?_)
     | refine w_exit ?_
     | refine w_ret ?_
     | (with_reducible refine s_none ?_)
     | ((with_reducible refine g_id ?_); refine x_guard (h := ?_))
     | (with_reducible first | refine gx_tt ?_ | refine x_tf (h := ?_) | refine x_assign (h := ?_))
     | ((with_reducible refine o_id 172 rfl ?_); refine x_call (hF := spec_isName_fn _ _) (h := ?_))
     | ((with_reducible refine o_id 39 rfl ?_); refine x_call (hF := inRange_fn _ _ _ _) (h := ?_))
     | ((with_reducible refine o_id 173 rfl ?_); refine x_call (hF := madeAs_fn _ p b _ _ hs hb) (h := ?_))
     | (with_reducible refine x_q (h := ?_))
     | (with_reducible refine gx_s (fun ht => ?_) (fun ht => ?_))
     | refine x_condt (h1 := ?_)
     | refine x_if (h1 := fun ht => ?_) (h2 := fun ht => ?_)
     | fail)
    all_goals try clear fx
    all_goals refine e_ret [] .nil (by simp; rfl) ?_
    all_goals simp_all
    all_goals (intros; omega)
end Go.Proofs.YtmaoicgfcngciaaGreatDoor
end
