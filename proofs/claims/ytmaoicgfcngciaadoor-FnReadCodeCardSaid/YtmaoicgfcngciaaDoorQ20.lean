/-
  Own texts, joined by mkclaim.py: Up, Uq, Gu, Gv, Gw.
-/
import Derived.Test.YtmaoicgfcngciaaDoorQ19
import Derived.Test.YtmaoicgfcngciaaDoorQ14
import Derived.Test.YtmaoicgfcngciaaDoorQ11
import Derived.Test.YtmaoicgfcngciaaDoorQ09
set_option linter.unusedSimpArgs false
set_option linter.unusedVariables false
set_option maxRecDepth 100000
set_option maxHeartbeats 4000000

section
namespace Go.Proofs.YtmaoicgfcngciaaDoor
open Go Go.Hm Go.Proofs
attribute [local simp] slcAV
theorem readOps_fn (gl) {m : Int} (hgm : gl 3 = some [.sc (.int .i64 m)]) (hgo : gl 1 = some ((vtx opW).map AV.sc)) (s : Txt) (hs : s.length ≤ 1048576) :
    FnE Tryd.prog gl 32 noD [tx s] noH (fun r y H' => ∃ os, readCode s = some os ∧ y = .hs r 2 0 os.length ∧ H' r = some (.row 2 (orows os))) (badQ (readCode s = none)) := by
  have hlen := split_len (c := 10) (s := s)
  have hpart := split_part (c := 10) (s := s)
  have hsp := ireader_fn gl hgm s hs
  have hgood : (splitL 10 s).getLast? = some [] → readCode s = readL1 (splitL 10 s).dropLast := fun e => by unfold readCode; rw [if_pos e]
  have hbad : (splitL 10 s).getLast? ≠ some [] → readCode s = none := fun e => by unfold readCode; rw [if_neg e]
  generalize readCode s = RC at hgood hbad ⊢
  generalize splitL 10 s = L at hlen hpart hsp hgood hbad
  refine FnE.of_sem Tryd.func32 rfl (by kernel_rfl) (rs := [.tmp 2]) rfl Tryd.ntmps32 (Nat.le_of_ble_eq_true rfl) (fun _ h => by cases h) fun C w g root hroot => ?_
  have fx := fx0
  refine k_run ?_
  clear fx
  intro K hK
  refine x_ownE (ha := by simp; first | done | rfl) (hF := hsp) (hE := fun x s hx hq => ⟨[], .nil, hx.tr, hbad hq⟩) (h := ?_)
  rintro y H1 ⟨hlast, rfl, hH1⟩
  have hRC := hgood hlast
  have hdl : ∀ v ∈ L.dropLast, v.length ≤ 1048577 := fun v hv => by have := hpart v (List.dropLast_subset _ hv); omega
  have hdn : L.dropLast.length ≤ 1048577 := by rw [List.length_dropLast]; omega
  generalize L.dropLast = I at hH1 hdl hdn hRC
  clear hlast hpart hlen hsp hgood hbad
  have fx := fx0
  refine k_run ?_
  clear fx
  refine w_loop (fun n st => ∃ (dn ls : List Txt) (os : List (Int × Int)) (x : AV), n = ls.length ∧ I = dn ++ ls ∧ readL1 dn = some os ∧ st.tm 4 = .pt (.s 4) 0 ∧ st.hp (.s 4) = some (.row 2 [[xsl ls, x]]) ∧ st.tm 3 = .hs (.s 3) 2 0 os.length ∧ st.hp (.s 3) = some (.row 2 (orows os)) ∧ (x = .hs (.c (.s 4) 0 1) 1 0 0 ∨ ∃ ws, x = xsl ws)) I.length ?_ ?_
  · exact ⟨[], I, [], .hs (.c (.s 4) 0 1) 1 0 0, rfl, rfl, rfl, by simp, by simp [hH1], by simp, by simp, .inl rfl⟩
  clear hH1
  rintro n st - hgs ⟨dn, ls, os, x, rfl, rfl, hos, h4, hp4, h3, hp3, hx⟩
  replace hgs : st.gl = gl := hgs
  have hol := readL1_len hos
  rw [List.length_append] at hdn
  have hlsb : ∀ v ∈ ls, v.length ≤ 1048577 := fun v hv => hdl v (by simp [hv])
  rcases hx with rfl | ⟨ws0, rfl⟩
  case' inl =>
    have fx := And.intro h4 <| And.intro hp4 <| And.intro h3 <| hp3
    refine k_run ?_
    clear fx
    intro K hK
    have fx := And.intro h4 h4
    refine x_mutc (.s 4) (.u 1 0 0) (hext := rfl) (hs := by simp [hp4]) (hF := nextLine_fn _ hgm _ ls (.hs (.c (.u 1 0 0) 0 1) 1 0 0) hlsb (by simp [hp4])) (h := ?_)
  case' inr =>
    have fx := And.intro h4 <| And.intro hp4 <| And.intro h3 <| hp3
    refine k_run ?_
    clear fx
    intro K hK
    have fx := And.intro h4 h4
    refine x_mutc (.s 4) (.u 1 0 0) (hext := rfl) (hs := by simp [hp4]) (hF := nextLine_fn _ hgm _ ls (xsl ws0) hlsb (by simp [hp4])) (h := ?_)
  all_goals
    rintro y H1 hy
    clear fx
    rcases hy with ⟨rfl, rfl⟩ | ⟨l, ls', rfl, rfl, hH1⟩
    · skip
      have fx := And.intro h4 <| h3
      refine k_run ?_
      clear fx
      refine e_ret [(.s 2, root)] (.one rfl) (by simp [h3]; rfl) ⟨os, by rw [hRC, List.append_nil]; exact hos, by simp, by simp [hp3]⟩
    have hlb := hlsb l (by simp)
    have hwb : ∀ v ∈ splitL 32 l, v.length ≤ 1048577 := fun v hv => by have := split_part v hv; omega
    have fx := And.intro h4 <| And.intro h3 <| And.intro hp3 <| hH1
    refine k_run ?_
    clear fx
    intro K hK
    refine o_abs (fun st => st.gl = gl ∧ st.tm 12 = .pt (.s 4) 0 ∧ st.tm 4 = .pt (.s 4) 0 ∧ st.hp (.s 4) = some (rdW ls' (splitL 32 l)) ∧ st.tm 3 = .hs (.s 3) 2 0 os.length ∧ st.hp (.s 3) = some (.row 2 (orows os))) ⟨by simp [hgs], by simp [h4], by simp [h4], by simp [hH1], by simp [h3], by simp [hp3]⟩ ?_
    clear h4 h3 hp3 hp4 hH1 hgs
    rintro st ⟨hgs, h12, h4, hp4, h3, hp3⟩
    have fx := And.intro h12 h12
    refine x_mutcE (.s 4) (.u 1 0 0) (hext := rfl) (hs := by simp [hp4]) (hF := word_fn _ _ ls' (splitL 32 l) (by simp [hp4])) (hE := fun x s hx hq => ⟨[], .nil, hx.tr, by rw [hRC]; exact readL1_bad (readO_no0 hq)⟩) (h := ?_)
    rintro y H2 ⟨v, ws, hvs, rfl, hH2⟩
    clear fx
    cases hc : codeW v with
    | none =>
      have hq := codeOf_fn gl hgo v
      rw [hc] at hq
      have hwi : wordI none = -1 := rfl
      rw [hwi] at hq
      have fx := And.intro h4 <| And.intro h3 <| And.intro hp3 <| And.intro hH2 <| hgs
      have c1 := hq
      refine k_run ?_
      clear fx c1
      intro K hK
      refine x_pan (hx := by simp; first | done | exact ⟨rfl, rfl⟩) ?_
      exact ⟨[], .nil, ⟨_, _, rfl, .inl rfl⟩, by rw [hRC]; exact readL1_bad (readO_no1 hvs hc)⟩
    | some c =>
      have hq := codeOf_fn gl hgo v
      rw [hc] at hq
      have hneg : (wordI (some c) == -1) = false := by simp [wordI]
      have hwi : wordI (some c) = (c : Int) := rfl
      rw [hwi] at hq hneg
      cases hlo : loneO (c : Int)
      · skip
        have fx := And.intro h4 <| And.intro h3 <| And.intro hp3 <| And.intro hH2 <| And.intro hgs <| And.intro hneg <| hlo
        have c1 := hq
        have c2 := hasArg_fn gl (c : Int)
        refine k_run ?_
        clear fx c1 c2
        intro K hK
        have fx := And.intro h4 h4
        refine x_mutcE (.s 4) (.u 1 0 0) (hext := rfl) (hs := by simp [hH2]) (hF := number_rd _ _ ls' ws (fun x hx => hwb x (by rw [hvs]; simp [hx])) (by simp [hH2])) (hE := fun x s hx hq => ⟨[], .nil, hx.tr, by rw [hRC]; exact readL1_bad (readO_no3 hvs hc hlo hq)⟩) (h := ?_)
        rintro y H3 ⟨b, ws', hn, rfl, hH3⟩
        clear fx
        have fx := And.intro h4 <| And.intro h3 <| And.intro hp3 <| And.intro hH2 <| hH3
        refine k_run ?_
        clear fx
        intro K hK
        have fx := And.intro h4 h4
        refine x_mutcE (.s 4) (.u 1 0 0) (hext := rfl) (hs := by simp [hH3]) (hF := endLine_fn _ _ ls' ws' (by simp [hH3])) (hE := fun x s hx hq => ⟨[], .nil, hx.tr, by rw [hRC]; exact readL1_bad (readO_no4 hvs hc hlo hn hq)⟩) (h := ?_)
        rintro y H4 ⟨rfl, hH4⟩
        clear fx
        have fx := And.intro h4 <| And.intro h3 <| And.intro hp3 <| And.intro hH2 <| And.intro hH3 <| And.intro hH4 <| hgs
        refine k_run ?_
        clear fx
        refine ⟨ls'.length, by simp, dn ++ [l], ls', os ++ [((c : Int), (b : Int))], xsl [], rfl, by simp, readL1_snoc hos (readO_arg hvs hc hlo hn), by simp [h4], by simp [hH4], by simp, by simp [orows], .inr ⟨[], rfl⟩⟩
      · skip
        have fx := And.intro h4 <| And.intro h3 <| And.intro hp3 <| And.intro hH2 <| And.intro hgs <| And.intro hneg <| hlo
        have c1 := hq
        have c2 := hasArg_fn gl (c : Int)
        refine k_run ?_
        clear fx c1 c2
        intro K hK
        have fx := And.intro h4 h4
        refine x_mutcE (.s 4) (.u 1 0 0) (hext := rfl) (hs := by simp [hH2]) (hF := endLine_fn _ _ ls' ws (by simp [hH2])) (hE := fun x s hx hq => ⟨[], .nil, hx.tr, by rw [hRC]; exact readL1_bad (readO_no2 hvs hc hlo hq)⟩) (h := ?_)
        rintro y H4 ⟨rfl, hH4⟩
        clear fx
        have fx := And.intro h4 <| And.intro h3 <| And.intro hp3 <| And.intro hH2 <| And.intro hH4 <| hgs
        refine k_run ?_
        clear fx
        refine ⟨ls'.length, by simp, dn ++ [l], ls', os ++ [((c : Int), 0)], xsl [], rfl, by simp, readL1_snoc hos (readO_lone hvs hc hlo), by simp [h4], by simp [hH4], by simp, by simp [orows], .inr ⟨[], rfl⟩⟩
end Go.Proofs.YtmaoicgfcngciaaDoor
end
section
namespace Go.Proofs.YtmaoicgfcngciaaDoor
open Go Go.Hm Go.Proofs
attribute [local simp] slcAV
theorem rcD_idle (b1 b2 : Nat) (w : World) : CallsD Tryd.prog 31 #[.pointer (some ⟨b1, 0, none⟩), .pointer (some ⟨b2, 0, none⟩)] .returning w fun e u' w' => e = .returned (.tuple #[]) ∧ u' = .returning ∧ w' = w := by
  refine callsD_of_wpS Tryd.func31 rfl fun c₀ cs hu => ?_
  apply wpS_seq
  apply wpS_region
  simp [wpOpsS, go_sem, recoverD, hu, Tryd.ntmps31, Exit.thenS]
  refine wpS_cond (t := false) (by simp [Go.Act.eval, Array.replicate]) ?_
  simp only [Bool.false_eq_true, if_false]
  refine wpS_of_wp (wp_skip ?_)
  cases c₀
  simp_all [bodyPostS, results, Tryd.results31]
theorem rcD_catch (b1 b2 : Nat) (ty : TypeId) (pv : Value) (w w1 w2 : World) (r1 : (Instr.storeAt 35 (.pointer (some ⟨b1, 0, none⟩)) (.slice none 0 0)).run Tryd.prog w = .ok () w1) (r2 : (Instr.storeAt 4 (.pointer (some ⟨b2, 0, none⟩)) (.bool false)).run Tryd.prog w1 = .ok () w2) :
    CallsD Tryd.prog 31 #[.pointer (some ⟨b1, 0, none⟩), .pointer (some ⟨b2, 0, none⟩)] (.panicking [{ v := .iface ty pv, recovered := false }]) w fun e u' w' => e = .returned (.tuple #[]) ∧ u' = .panicking [{ v := .iface ty pv, recovered := true }] ∧ w' = w2 := by
  refine callsD_of_wpS Tryd.func31 rfl fun c₀ cs hu => ?_
  apply wpS_seq
  apply wpS_region
  simp [wpOpsS, go_sem, recoverD, hu, Tryd.ntmps31, Exit.thenS]
  refine wpS_cond (t := true) (by simp [Go.Act.eval, Array.replicate]) ?_
  simp only [if_true]
  apply wpS_region
  show wpOpsS _ _ _ [0, 1] _ _ _
  simp [wpOpsS, Region.wanted, Oper.upon, Go.Act.put, execOp, Go.Act.eval, Array.replicate, r1, r2, bodyPostS, results, Tryd.results31]
theorem ReadCode_fn (gl) {m : Int} (hgm : gl 3 = some [.sc (.int .i64 m)]) (hgo : gl 1 = some ((vtx opW).map AV.sc)) (s : Txt) (hs : s.length ≤ 1048576) :
    FnOk Tryd.prog gl 11 [tx s] (fun r y H' => match readCode s with
      | some os => y = .tup [.hs r 2 0 os.length, bv true] ∧ H' r = some (.row 2 (orows os))
      | none => y = .tup [.hs r 2 0 0, bv false] ∧ H' r = some (.row 2 [])) := by
  have hro := readOps_fn gl hgm hgo s hs
  refine FnE.of_door (t := 4) (F := 31) (s1 := 2) (s2 := 3) (T1 := 35) (T2 := 4) (v1 := .slice none 0 0) (v2 := .bool false) (n1 := .s 2) (n2 := .s 3) (o1 := ⟨none, .store 35 (.tmp 2) (.const (.slice none 0 0)), 0, "", #[], none⟩) (o2 := ⟨none, .store 4 (.tmp 3) (.const (.bool false)), 0, "", #[], none⟩) Tryd.func11 rfl (by kernel_rfl) (rs := [.cell 2 35, .cell 3 4]) rfl Tryd.ntmps11 (Nat.le_of_ble_eq_true rfl) (fun _ h => by cases h) ⟨_, Tryd.func31, by kernel_rfl, rfl⟩ rfl rfl rfl rfl rcD_idle rcD_catch fun C w g root hroot a w' hR => ?_
  refine w_pre ?_ hR
  clear hR
  have fx := fx0
  refine k_run ?_
  clear fx
  show ∀ a w, Rw _ _ a w → _
  intro a w' hR
  refine w_defer (ats := #[]) (l1 := [_]) (l2 := []) rfl ?_ ?_ ?_ (by simp) ?_ hR
  · rfl
  · rfl
  · rfl
  clear hR
  have fx := fx0
  refine s_none ?_
  refine x_q (h := ?_)
  clear fx
  show _ ∧ _
  refine ⟨⟨_, _, _, by simp; exact ⟨rfl, rfl, rfl⟩⟩, ?_⟩
  show SemCodeD _ _ _ _ _
  refine wd_seq (wd_region (by simp) fun K hK => ?_)
  have fx := fx0
  refine s_none ?_
  refine x_q (h := ?_)
  clear fx
  refine s_none ?_
  refine x_ownP (ha := by simp; first | done | rfl) (hF := hro) (hE := fun x H' hx hq => ?_) (h := ?_)
  · refine ⟨by simp, by simp, by simp, hx, ?_⟩
    have fx := fx0
    refine k_run ?_
    clear fx
    refine ⟨[(.c (.s 2) 0 0, root)], _, .one rfl, by simp; rfl, ?_⟩
    rw [hq]
    simp
  · rintro y H' ⟨os, ho, rfl, hH'⟩
    have fx := hH'
    refine k_run ?_
    clear fx
    refine wd_ret ?_
    refine ⟨by simp, [(.c (.s 2) 0 0, root)], _, .one rfl, by simp; rfl, ?_⟩
    rw [ho]
    simp [hH']
end Go.Proofs.YtmaoicgfcngciaaDoor
end
section
namespace Go.Proofs.YtmaoicgfcngciaaDoor
open Go Go.Hm Go.Proofs
theorem someStmt_fn (gl) (H : Nm → Option AO) (bs : List Int) (pos : Nat) (kind : Int) (hb : BytesOk bs) (hpos : pos ≤ 900000) (hH : H (.u 1 0 0) = some (rdO bs pos)) (hV : H (.u 2 0 0) = none) :
    FnE Tryd.prog gl 126 (Nm.under (.u 1 0 0)) [.pt (.u 1 0 0) 0, iv kind] H (RdPost bs (fun s : Stm => s.av) (fun s pos' => (pos ≤ pos' ∧ pos' ≤ pos + 8) ∧ TxtS s)) noE := by
  refine FnE.of_sem Tryd.func126 rfl (by kernel_rfl) (rs := [.cell 4 57]) rfl Tryd.ntmps126 (Nat.le_of_ble_eq_true rfl) (fun _ => under_usroot rfl) fun C w g root hroot => ?_
  have fx := fx0
  refine k_run ?_
  clear fx
  first | show SemOp _ _ _ _ _ | intro K hK
  refine x_one (oneOk _) 7 [0, 1, 2, 0, 1, 3] (bs := bs) (pos := pos) hb (by omega) (hV := hV) (h0 := by simp) (h1 := by simp) (hH := by simp [hH]) (hL := by simp [irows]) (h := ?_)
  intro to hto
  have htoR : 0 ≤ to ∧ to ≤ 99 := by simp at hto; omega
  have fx := fx0
  refine k_run ?_
  clear fx
  first | show SemOp _ _ _ _ _ | intro K hK
  refine x_rd (hs := by simp) (ha := by first | (simp; done) | (simp; rfl)) (hF := pick_rd _ _ bs (pos + 1) 12 hb (by omega) (by omega) (by simp)) (h := ?_)
  rintro k pk ⟨hk, rfl⟩
  have hk12 : k < 12 := by omega
  have hkc : k = 0 ∨ k = 1 ∨ k = 2 ∨ k = 3 ∨ k = 4 ∨ k = 5 ∨ k = 6 ∨ k = 7 ∨ k = 8 ∨ k = 9 ∨ k = 10 ∨ k = 11 := by omega
  clear hk hk12
  rcases hkc with rfl | rfl | rfl | rfl | rfl | rfl | rfl | rfl | rfl | rfl | rfl | rfl
  · skip
    have fx := fx0
    refine k_run ?_
    clear fx
    first | show SemOp _ _ _ _ _ | intro K hK
    refine x_rd (hs := by simp) (ha := by first | (simp; done) | (simp; rfl)) (hF := pick_rd _ _ bs (pos + 1 + 1) 20 hb (by omega) (by omega) (by simp)) (h := ?_)
    rintro x px ⟨hx, rfl⟩
    have fx := fx0
    refine k_run ?_
    clear fx
    first | show SemOp _ _ _ _ _ | intro K hK
    refine x_one (oneOk _) 19 [(x : Int), 99, 5] (bs := bs) (pos := pos + 1 + 1 + 1) hb (by omega) (hV := hV) (h0 := by simp) (h1 := by simp) (hH := by simp) (hL := by simp [irows]) (h := ?_)
    intro v hv
    have hvR : 0 ≤ v ∧ v ≤ 99 := by simp at hv; omega
    have fx := fx0
    refine k_run ?_
    clear fx
    exact e_ret [] .nil (by simp; rfl) ⟨⟨0, to, v, 0⟩, pos + 1 + 1 + 1 + 1, by simp, ⟨by omega, txS⟩, by simp⟩
  · skip
    have fx := fx0
    refine k_run ?_
    clear fx
    first | show SemOp _ _ _ _ _ | intro K hK
    refine x_rd (hs := by simp) (ha := by first | (simp; done) | (simp; rfl)) (hF := pick_rd _ _ bs (pos + 1 + 1) 20 hb (by omega) (by omega) (by simp)) (h := ?_)
    rintro x px ⟨hx, rfl⟩
    have fx := fx0
    refine k_run ?_
    clear fx
    first | show SemOp _ _ _ _ _ | intro K hK
    refine x_one (oneOk _) 19 [(x : Int), 99, 5] (bs := bs) (pos := pos + 1 + 1 + 1) hb (by omega) (hV := hV) (h0 := by simp) (h1 := by simp) (hH := by simp) (hL := by simp [irows]) (h := ?_)
    intro v hv
    have hvR : 0 ≤ v ∧ v ≤ 99 := by simp at hv; omega
    have fx := fx0
    refine k_run ?_
    clear fx
    exact e_ret [] .nil (by simp; rfl) ⟨⟨0, to, v, 0⟩, pos + 1 + 1 + 1 + 1, by simp, ⟨by omega, txS⟩, by simp⟩
  · skip
    have fx := fx0
    refine k_run ?_
    clear fx
    first | show SemOp _ _ _ _ _ | intro K hK
    refine x_rd (hs := by simp) (ha := by first | (simp; done) | (simp; rfl)) (hF := pick_rd _ _ bs (pos + 1 + 1) 20 hb (by omega) (by omega) (by simp)) (h := ?_)
    rintro x px ⟨hx, rfl⟩
    have fx := fx0
    refine k_run ?_
    clear fx
    first | show SemOp _ _ _ _ _ | intro K hK
    refine x_one (oneOk _) 19 [(x : Int), 99, 5] (bs := bs) (pos := pos + 1 + 1 + 1) hb (by omega) (hV := hV) (h0 := by simp) (h1 := by simp) (hH := by simp) (hL := by simp [irows]) (h := ?_)
    intro v hv
    have hvR : 0 ≤ v ∧ v ≤ 99 := by simp at hv; omega
    have fx := fx0
    refine k_run ?_
    clear fx
    exact e_ret [] .nil (by simp; rfl) ⟨⟨0, to, v, 0⟩, pos + 1 + 1 + 1 + 1, by simp, ⟨by omega, txS⟩, by simp⟩
  · skip
    have fx := fx0
    refine k_run ?_
    clear fx
    first | show SemOp _ _ _ _ _ | intro K hK
    refine x_rd (hs := by simp) (ha := by first | (simp; done) | (simp; rfl)) (hF := aName_rd _ _ bs (pos + 1 + 1) hb (by omega) (by simp) (by simp)) (h := ?_)
    rintro v pv ⟨hvR, rfl⟩
    have fx := fx0
    refine k_run ?_
    clear fx
    exact e_ret [] .nil (by simp; rfl) ⟨⟨1, to, v, 0⟩, pos + 1 + 1 + 1, by simp, ⟨by omega, txS⟩, by simp⟩
  · skip
    have fx := fx0
    refine k_run ?_
    clear fx
    first | show SemOp _ _ _ _ _ | intro K hK
    refine x_rd (hs := by simp) (ha := by first | (simp; done) | (simp; rfl)) (hF := aName_rd _ _ bs (pos + 1 + 1) hb (by omega) (by simp) (by simp)) (h := ?_)
    rintro v pv ⟨hvR, rfl⟩
    have fx := fx0
    refine k_run ?_
    clear fx
    first | show SemOp _ _ _ _ _ | intro K hK
    refine x_rd (hs := by simp) (ha := by first | (simp; done) | (simp; rfl)) (hF := aName_rd _ _ bs (pos + 1 + 1 + 1) hb (by omega) (by simp) (by simp)) (h := ?_)
    rintro w pw ⟨hwR, rfl⟩
    have fx := fx0
    refine k_run ?_
    clear fx
    exact e_ret [] .nil (by simp; rfl) ⟨⟨2, to, v, w⟩, pos + 1 + 1 + 1 + 1, by simp, ⟨by omega, txS⟩, by simp⟩
  · skip
    have fx := fx0
    refine k_run ?_
    clear fx
    first | show SemOp _ _ _ _ _ | intro K hK
    refine x_rd (hs := by simp) (ha := by first | (simp; done) | (simp; rfl)) (hF := aName_rd _ _ bs (pos + 1 + 1) hb (by omega) (by simp) (by simp)) (h := ?_)
    rintro v pv ⟨hvR, rfl⟩
    have fx := fx0
    refine k_run ?_
    clear fx
    exact e_ret [] .nil (by simp; rfl) ⟨⟨7, 0, v, 0⟩, pos + 1 + 1 + 1, by simp, ⟨by omega, txS⟩, by simp⟩
  · skip
    have fx := fx0
    refine k_run ?_
    clear fx
    first | show SemOp _ _ _ _ _ | intro K hK
    refine x_rd (hs := by simp) (ha := by first | (simp; done) | (simp; rfl)) (hF := aName_rd _ _ bs (pos + 1 + 1) hb (by omega) (by simp) (by simp)) (h := ?_)
    rintro v pv ⟨hvR, rfl⟩
    have fx := fx0
    refine k_run ?_
    clear fx
    exact e_ret [] .nil (by simp; rfl) ⟨⟨7, 0, v, 0⟩, pos + 1 + 1 + 1, by simp, ⟨by omega, txS⟩, by simp⟩
  · skip
    have fx := fx0
    refine k_run ?_
    clear fx
    first | show SemOp _ _ _ _ _ | intro K hK
    refine x_rd (hs := by simp) (ha := by first | (simp; done) | (simp; rfl)) (hF := aName_rd _ _ bs (pos + 1 + 1) hb (by omega) (by simp) (by simp)) (h := ?_)
    rintro v pv ⟨hvR, rfl⟩
    have fx := fx0
    refine k_run ?_
    clear fx
    first | show SemOp _ _ _ _ _ | intro K hK
    refine x_one (oneOk _) 48 [4, 5, v] (bs := bs) (pos := pos + 1 + 1 + 1) hb (by omega) (hV := hV) (h0 := by simp) (h1 := by simp) (hH := by simp) (hL := by simp [irows]) (h := ?_)
    intro x hx
    have hxR : 0 ≤ x ∧ x ≤ 99 := by simp at hx; omega
    have fx := fx0
    refine k_run ?_
    clear fx
    first | show SemOp _ _ _ _ _ | intro K hK
    refine x_rd (hs := by simp) (ha := by first | (simp; done) | (simp; rfl)) (hF := aName_rd _ _ bs (pos + 1 + 1 + 1 + 1) hb (by omega) (by simp) (by simp)) (h := ?_)
    rintro u pu ⟨huR, rfl⟩
    have fx := fx0
    refine k_run ?_
    clear fx
    first | show SemOp _ _ _ _ _ | intro K hK
    refine x_one (oneOk _) 53 [-1, -1, u] (bs := bs) (pos := pos + 1 + 1 + 1 + 1 + 1) hb (by omega) (hV := hV) (h0 := by simp) (h1 := by simp) (hH := by simp) (hL := by simp [irows]) (h := ?_)
    intro y hy
    have hyR : (0 ≤ y ∧ y ≤ 99) ∨ y = -1 := by simp at hy; omega
    have fx := fx0
    refine k_run ?_
    clear fx
    exact e_ret [] .nil (by simp; rfl) ⟨⟨5, to, x, y⟩, pos + 1 + 1 + 1 + 1 + 1 + 1, by simp, ⟨by omega, txS⟩, by simp⟩
  · skip
    have fx := fx0
    refine k_run ?_
    clear fx
    first | show SemOp _ _ _ _ _ | intro K hK
    refine x_rd (hs := by simp) (ha := by first | (simp; done) | (simp; rfl)) (hF := aName_rd _ _ bs (pos + 1 + 1) hb (by omega) (by simp) (by simp)) (h := ?_)
    rintro v pv ⟨hvR, rfl⟩
    have fx := fx0
    refine k_run ?_
    clear fx
    exact e_ret [] .nil (by simp; rfl) ⟨⟨6, to, 6, v⟩, pos + 1 + 1 + 1, by simp, ⟨by omega, txS⟩, by simp⟩
  · by_cases hk0 : kind = 0
    · subst hk0
      have fx := fx0
      refine k_run ?_
      clear fx
      first | show SemOp _ _ _ _ _ | intro K hK
      refine x_rd (hs := by simp) (ha := by first | (simp; done) | (simp; rfl)) (hF := aName_rd _ _ bs (pos + 1 + 1) hb (by omega) (by simp) (by simp)) (h := ?_)
      rintro v pv ⟨hvR, rfl⟩
      have fx := fx0
      refine k_run ?_
      clear fx
      exact e_ret [] .nil (by simp; rfl) ⟨⟨7, 0, v, 0⟩, pos + 1 + 1 + 1, by simp, ⟨by omega, txS⟩, by simp⟩
    · have hkn : (kind != 0) = true := by simp [hk0]
      have fx := And.intro hk0 <| hkn
      refine k_run ?_
      clear fx
      first | show SemOp _ _ _ _ _ | intro K hK
      refine x_one (oneOk _) 67 [9, 10, 10] (bs := bs) (pos := pos + 1 + 1) hb (by omega) (hV := hV) (h0 := by simp) (h1 := by simp) (hH := by simp) (hL := by simp [irows]) (h := ?_)
      intro v hv
      have hvR : 9 ≤ v ∧ v ≤ 10 := by simp at hv; omega
      have fx := fx0
      refine k_run ?_
      clear fx
      exact e_ret [] .nil (by simp; rfl) ⟨⟨v, to, 0, 0⟩, pos + 1 + 1 + 1, by simp, ⟨by omega, txS⟩, by simp⟩
  · skip
    have fx := fx0
    refine k_run ?_
    clear fx
    first | show SemOp _ _ _ _ _ | intro K hK
    refine x_rd (hs := by simp) (ha := by first | (simp; done) | (simp; rfl)) (hF := pick_rd _ _ bs (pos + 1 + 1) 3 hb (by omega) (by omega) (by simp)) (h := ?_)
    rintro x px ⟨hx, rfl⟩
    rcases Nat.eq_zero_or_pos x with rfl | hx0
    · skip
      have fx := fx0
      refine k_run ?_
      clear fx
      exact e_ret [] .nil (by simp; rfl) ⟨⟨11, to, 0, 0⟩, pos + 1 + 1 + 1, by simp, ⟨by omega, txS⟩, by simp⟩
    · have hxn : ((x : Int) == 0) = false := by rw [beq_eq_false_iff_ne]; omega
      have hxn2 : ¬ x = 0 := by omega
      have fx := And.intro hxn <| hxn2
      refine k_run ?_
      clear fx
      first | show SemOp _ _ _ _ _ | intro K hK
      refine x_rd (hs := by simp) (ha := by first | (simp; done) | (simp; rfl)) (hF := aName_rd _ _ bs (pos + 1 + 1 + 1) hb (by omega) (by simp) (by simp)) (h := ?_)
      rintro v pv ⟨hvR, rfl⟩
      have fx := fx0
      refine k_run ?_
      clear fx
      exact e_ret [] .nil (by simp; rfl) ⟨⟨7, 0, v, 0⟩, pos + 1 + 1 + 1 + 1, by simp, ⟨by omega, txS⟩, by simp⟩
  · skip
    have fx := fx0
    refine k_run ?_
    clear fx
    first | show SemOp _ _ _ _ _ | intro K hK
    refine x_rd (hs := by simp) (ha := by first | (simp; done) | (simp; rfl)) (hF := aName_rd _ _ bs (pos + 1 + 1) hb (by omega) (by simp) (by simp)) (h := ?_)
    rintro v pv ⟨hvR, rfl⟩
    have fx := fx0
    refine k_run ?_
    clear fx
    exact e_ret [] .nil (by simp; rfl) ⟨⟨7, 0, v, 0⟩, pos + 1 + 1 + 1, by simp, ⟨by omega, txS⟩, by simp⟩
abbrev qsGv0 : Sch := .q 0 <| .q 1 <| .q 2 <| .q 3 <| .l 4 [1, 0] <| .l 5 [1, 0] <| .l 6 [0] <| .q 7 <| .l 8 [] <| .done
abbrev qsGv1 : Sch := .q 0 <| .q 1 <| .q 2 <| .l 3 [2, 1, 0] <| .l 4 [1, 0] <| .q 5 <| .l 6 [1, 0] <| .l 7 [0] <| .q 8 <| .l 9 [] <| .done
def BlkPost (bs : List Int) (Q : Blk → Nat → Prop) : Nm → AV → (Nm → Option AO) → Prop := fun r z H' => ∃ (k : Blk) (pos' : Nat), z = .agg [iv k.kind, iv k.parent, .hs (.c r 0 2) 1 0 k.params.length, .hs (.c r 0 3) 4 0 k.body.length] ∧
  H' (.c r 0 2) = some (.row 1 (irows k.params)) ∧ H' (.c r 0 3) = some (.row 4 (srows k.body)) ∧ Q k pos' ∧ H' (.u 1 0 0) = some (rdO bs pos')
theorem someBlock_fn (gl) (H : Nm → Option AO) (bs : List Int) (pos : Nat) (kind parent : Int) (hb : BytesOk bs) (hpos : pos ≤ 800000) (hH : H (.u 1 0 0) = some (rdO bs pos)) (hV : H (.u 2 0 0) = none) :
    FnE Tryd.prog gl 112 (Nm.under (.u 1 0 0)) [.pt (.u 1 0 0) 0, iv kind, iv parent] H (BlkPost bs (fun k pos' => k.kind = kind ∧ k.parent = parent ∧ k.params.length ≤ 1 ∧ k.body.length ≤ 6 ∧ pos' ≤ pos + 60 ∧ BlkT k)) noE := by
  refine FnE.of_sem Tryd.func112 rfl (by kernel_rfl) (rs := [.cell 6 50]) rfl Tryd.ntmps112 (Nat.le_of_ble_eq_true rfl) (fun _ => under_usroot rfl) fun C w g root hroot => ?_
  have hr0 := hroot root (Nm.under_self _)
  rcases (by cases hk : (kind == 1) <;> simp : (kind == 1) = false ∨ (kind == 1) = true) with hk1 | hk1
  case' inl =>
    have fx :=  hk1
    refine k_run ?_
    repeat ((first | refine wSc (id := 7) qsGv0 mixed ?_ | refine wSc (id := 9) qsGv1 mixed ?_); refine k_rund ?_; refine k_run ?_)
    clear fx
    first | show SemOp _ _ _ _ _ | intro K hK
    refine o_abs (fun st => ∃ (ps : List Int) (q : Nat), ps.length ≤ 1 ∧ (Small ps ∧ (¬ kind = 1 → ps = [])) ∧ q ≤ pos + 2 ∧ st.tm 0 = .pt (.u 1 0 0) 0 ∧ st.hp (.u 1 0 0) = some (rdO bs q) ∧ st.tm 1 = iv kind ∧ st.tm 6 = .pt (.s 6) 0 ∧ st.hp (.s 6) = some (.row 4 [[iv 0, iv 0, .hs (.c (.s 6) 0 2) 1 0 0, .hs (.c (.s 6) 0 3) 4 0 0]]) ∧ st.hp (.c (.s 6) 0 2) = some (.row 1 []) ∧ st.hp (.c (.s 6) 0 3) = some (.row 4 []) ∧
    st.tm 7 = .pt (.s 7) 0 ∧ st.hp (.s 7) = some (.row 4 [[iv kind, iv parent, .hs (.c (.s 7) 0 2) 1 0 ps.length, .hs (.c (.s 7) 0 3) 4 0 ([] : List Stm).length]]) ∧ st.hp (.c (.s 7) 0 2) = some (.row 1 (irows ps)) ∧ st.hp (.c (.s 7) 0 3) = some (.row 4 (srows ([] : List Stm))) ∧ st.tm 23 = .pt (.u 1 0 0) 0 ∧ st.tm 24 = .hs (.s 24) 1 0 5 ∧ st.hp (.s 24) = some (.row 1 (irows [3, 2, 4, 1, 5]))) ⟨[], pos, by simp, ⟨by simp [Small], by simp⟩, by omega, by simp [hH], by simp [hH], by simp [hH], by simp [hH], by simp [hH], by simp [hH], by simp [hH], by simp [hH], by simp [hH], by simp [irows], by simp [hH], by simp, by simp, by simp [irows]⟩ ?_
  case' inr =>
    have fx :=  hk1
    refine k_run ?_
    repeat ((first | refine wSc (id := 7) qsGv0 mixed ?_ | refine wSc (id := 9) qsGv1 mixed ?_); refine k_rund ?_; refine k_run ?_)
    clear fx
    first | show SemOp _ _ _ _ _ | intro K hK
    refine x_rd (hs := by simp [hH]) (ha := by first | (simp; done) | (simp; rfl)) (hF := pick_rd _ _ bs pos 3 hb (by omega) (by omega) (by simp [hH])) (h := ?_)
    rintro x px ⟨hx, rfl⟩
    have hx0 : x = 0 ∨ ¬ x = 0 := by omega
    rcases hx0 with rfl | hx0
    case' inl =>
      have fx :=  hk1
      refine k_run ?_
      repeat ((first | refine wSc (id := 7) qsGv0 mixed ?_ | refine wSc (id := 9) qsGv1 mixed ?_); refine k_rund ?_; refine k_run ?_)
      clear fx
      first | show SemOp _ _ _ _ _ | intro K hK
      refine x_rd (hs := by simp) (ha := by first | (simp; done) | (simp; rfl)) (hF := pick_rd _ _ bs (pos + 1) 3 hb (by omega) (by omega) (by simp)) (h := ?_)
      rintro y py ⟨hy, rfl⟩
      have fx := fx0
      refine k_run ?_
      repeat ((first | refine wSc (id := 7) qsGv0 mixed ?_ | refine wSc (id := 9) qsGv1 mixed ?_); refine k_rund ?_; refine k_run ?_)
      clear fx
      first | show SemOp _ _ _ _ _ | intro K hK
      refine o_abs (fun st => ∃ (ps : List Int) (q : Nat), ps.length ≤ 1 ∧ (Small ps ∧ (¬ kind = 1 → ps = [])) ∧ q ≤ pos + 2 ∧ st.tm 0 = .pt (.u 1 0 0) 0 ∧ st.hp (.u 1 0 0) = some (rdO bs q) ∧ st.tm 1 = iv kind ∧ st.tm 6 = .pt (.s 6) 0 ∧ st.hp (.s 6) = some (.row 4 [[iv 0, iv 0, .hs (.c (.s 6) 0 2) 1 0 0, .hs (.c (.s 6) 0 3) 4 0 0]]) ∧ st.hp (.c (.s 6) 0 2) = some (.row 1 []) ∧ st.hp (.c (.s 6) 0 3) = some (.row 4 []) ∧
    st.tm 7 = .pt (.s 7) 0 ∧ st.hp (.s 7) = some (.row 4 [[iv kind, iv parent, .hs (.c (.s 7) 0 2) 1 0 ps.length, .hs (.c (.s 7) 0 3) 4 0 ([] : List Stm).length]]) ∧ st.hp (.c (.s 7) 0 2) = some (.row 1 (irows ps)) ∧ st.hp (.c (.s 7) 0 3) = some (.row 4 (srows ([] : List Stm))) ∧ st.tm 23 = .pt (.u 1 0 0) 0 ∧ st.tm 24 = .hs (.s 24) 1 0 5 ∧ st.hp (.s 24) = some (.row 1 (irows [3, 2, 4, 1, 5]))) ⟨[(y : Int)], pos + 1 + 1, by simp, ⟨by simp [Small]; omega, fun h => absurd (by simpa using hk1) h⟩, by omega, by simp, by simp, by simp, by simp, by simp, by simp, by simp, by simp, by simp, by simp [irows], by simp, by simp, by simp, by simp [irows]⟩ ?_
    case' inr =>
      have fx := And.intro hk1 <| hx0
      refine k_run ?_
      repeat ((first | refine wSc (id := 7) qsGv0 mixed ?_ | refine wSc (id := 9) qsGv1 mixed ?_); refine k_rund ?_; refine k_run ?_)
      clear fx
      first | show SemOp _ _ _ _ _ | intro K hK
      refine o_abs (fun st => ∃ (ps : List Int) (q : Nat), ps.length ≤ 1 ∧ (Small ps ∧ (¬ kind = 1 → ps = [])) ∧ q ≤ pos + 2 ∧ st.tm 0 = .pt (.u 1 0 0) 0 ∧ st.hp (.u 1 0 0) = some (rdO bs q) ∧ st.tm 1 = iv kind ∧ st.tm 6 = .pt (.s 6) 0 ∧ st.hp (.s 6) = some (.row 4 [[iv 0, iv 0, .hs (.c (.s 6) 0 2) 1 0 0, .hs (.c (.s 6) 0 3) 4 0 0]]) ∧ st.hp (.c (.s 6) 0 2) = some (.row 1 []) ∧ st.hp (.c (.s 6) 0 3) = some (.row 4 []) ∧
    st.tm 7 = .pt (.s 7) 0 ∧ st.hp (.s 7) = some (.row 4 [[iv kind, iv parent, .hs (.c (.s 7) 0 2) 1 0 ps.length, .hs (.c (.s 7) 0 3) 4 0 ([] : List Stm).length]]) ∧ st.hp (.c (.s 7) 0 2) = some (.row 1 (irows ps)) ∧ st.hp (.c (.s 7) 0 3) = some (.row 4 (srows ([] : List Stm))) ∧ st.tm 23 = .pt (.u 1 0 0) 0 ∧ st.tm 24 = .hs (.s 24) 1 0 5 ∧ st.hp (.s 24) = some (.row 1 (irows [3, 2, 4, 1, 5]))) ⟨[], pos + 1, by simp, ⟨by simp [Small], by simp⟩, by omega, by simp, by simp, by simp, by simp, by simp, by simp, by simp, by simp, by simp, by simp [irows], by simp, by simp, by simp, by simp [irows]⟩ ?_
  all_goals
    rintro st ⟨ps, q, hps, hpT, hq, h0, hU, h1, h6, hp6, hp62, hp63, h7, hp7, hp72, hp73, h23, h24, hp24⟩
    refine x_one (oneOk _) 24 [3, 2, 4, 1, 5] (bs := bs) (pos := q) hb (by omega) (hV := hV) (h0 := h23) (h1 := by simp [h24]) (hH := hU) (hL := by simp [hp24]) (h := ?_)
    intro v hv
    have hvr : 1 ≤ v ∧ v ≤ 5 := by simp at hv; omega
    obtain ⟨V, rfl⟩ : ∃ V : Nat, v = V := ⟨v.toNat, by omega⟩
    have fx := fx0
    refine k_run ?_
    repeat ((first | refine wSc (id := 7) qsGv0 mixed ?_ | refine wSc (id := 9) qsGv1 mixed ?_); refine k_rund ?_; refine k_run ?_)
    clear fx
    refine w_loop (fun n st => ∃ (L : List Stm) (q : Nat), n + L.length = V ∧ (∀ s ∈ L, TxtS s) ∧ q + 8 * n ≤ pos + 50 ∧ st.tm 0 = .pt (.u 1 0 0) 0 ∧ st.hp (.u 1 0 0) = some (rdO bs q) ∧ st.tm 1 = iv kind ∧ st.tm 6 = .pt (.s 6) 0 ∧ st.hp (.s 6) = some (.row 4 [[iv 0, iv 0, .hs (.c (.s 6) 0 2) 1 0 0, .hs (.c (.s 6) 0 3) 4 0 0]]) ∧ st.hp (.c (.s 6) 0 2) = some (.row 1 []) ∧ st.hp (.c (.s 6) 0 3) = some (.row 4 []) ∧
    st.tm 7 = .pt (.s 7) 0 ∧ st.hp (.s 7) = some (.row 4 [[iv kind, iv parent, .hs (.c (.s 7) 0 2) 1 0 ps.length, .hs (.c (.s 7) 0 3) 4 0 L.length]]) ∧ st.hp (.c (.s 7) 0 2) = some (.row 1 (irows ps)) ∧ st.hp (.c (.s 7) 0 3) = some (.row 4 (srows L)) ∧ st.tm 8 = iv n) V ?_ ?_
    · exact ⟨[], q + 1, by simp, by simp, by omega, by simp [h0], by simp, by simp [h1], by simp [h6], by simp [hp6], by simp [hp62], by simp [hp63], by simp [h7], by simp [hp7], by simp [hp72], by simp [hp73], by simp⟩
    clear h0 hU h1 h6 hp6 hp62 hp63 h7 hp7 hp72 hp73 h23 h24 hp24
    rintro n st - - ⟨L, q, hL, hLT, hq, h0, hU, h1, h6, hp6, hp62, hp63, h7, hp7, hp72, hp73, h8⟩
    have fx :=  h8
    refine k_run ?_
    repeat ((first | refine wSc (id := 7) qsGv0 mixed ?_ | refine wSc (id := 9) qsGv1 mixed ?_); refine k_rund ?_; refine k_run ?_)
    clear fx
    rcases Nat.eq_zero_or_pos n with rfl | hn0
    · have hL5 : L.length ≤ 5 := by omega
      cases hkk : (kind == 1)
      · skip
        have fx := And.intro h0 <| And.intro h1 <| And.intro h6 <| And.intro hp6 <| And.intro h7 <| And.intro hp7 <| hkk
        refine k_run ?_
        repeat ((first | refine wSc (id := 7) qsGv0 mixed ?_ | refine wSc (id := 9) qsGv1 mixed ?_); refine k_rund ?_; refine k_run ?_)
        clear fx
        exact e_ret [(.s 7, root)] (.one rfl) (by simp [h6]; rfl) ⟨⟨kind, parent, ps, L⟩, q, by simp, by simp [hp72, hr0], by simp [hp73, hr0], ⟨rfl, rfl, hps, by simp; omega, by omega, hLT, hpT⟩, by simp [hU]⟩
      · skip
        have fx := And.intro h0 <| And.intro h1 <| And.intro h6 <| And.intro hp6 <| And.intro h7 <| And.intro hp7 <| hkk
        refine k_run ?_
        repeat ((first | refine wSc (id := 7) qsGv0 mixed ?_ | refine wSc (id := 9) qsGv1 mixed ?_); refine k_rund ?_; refine k_run ?_)
        clear fx
        first | show SemOp _ _ _ _ _ | intro K hK
        refine x_rd (hs := by simp [hU]) (ha := by first | (simp [h0]; done) | (simp [h0]; rfl)) (hF := pick_rd _ _ bs q 2 hb (by omega) (by omega) (by simp [hU])) (h := ?_)
        rintro x px ⟨hx, rfl⟩
        have hx0 : x = 0 ∨ ¬ x = 0 := by omega
        rcases hx0 with rfl | hx0
        · skip
          have fx := And.intro h0 <| And.intro h1 <| And.intro h6 <| And.intro hp6 <| And.intro h7 <| And.intro hp7 <| And.intro hp73 <| hkk
          refine k_run ?_
          repeat ((first | refine wSc (id := 7) qsGv0 mixed ?_ | refine wSc (id := 9) qsGv1 mixed ?_); refine k_rund ?_; refine k_run ?_)
          clear fx
          first | show SemOp _ _ _ _ _ | intro K hK
          refine x_one (oneOk _) 48 [0, 1, 4, 5] (bs := bs) (pos := q + 1) hb (by omega) (hV := hV) (h0 := by simp [h0]) (h1 := by simp) (hH := by simp) (hL := by simp [irows]) (h := ?_)
          intro v2 hv2
          have hv2R : 0 ≤ v2 ∧ v2 ≤ 99 := by simp at hv2; omega
          have fx := And.intro h0 <| And.intro h1 <| And.intro h6 <| And.intro hp6 <| And.intro h7 <| And.intro hp7 <| And.intro hp73 <| hkk
          refine k_run ?_
          repeat ((first | refine wSc (id := 7) qsGv0 mixed ?_ | refine wSc (id := 9) qsGv1 mixed ?_); refine k_rund ?_; refine k_run ?_)
          clear fx
          exact e_ret [(.s 7, root)] (.one rfl) (by simp [h6]; rfl) ⟨⟨kind, parent, ps, L ++ [⟨8, 0, v2, 0⟩]⟩, q + 1 + 1, by simp, by simp [hp72, hr0], by show _ = some (AO.row 4 (srows (L ++ [⟨8, 0, v2, 0⟩]))); rw [← srows_app1]; simp [hp73, hr0], ⟨rfl, rfl, hps, by simp; omega, by omega, stmSnoc hLT txS, hpT⟩, by simp [hU]⟩
        · skip
          have fx := And.intro h0 <| And.intro h1 <| And.intro h6 <| And.intro hp6 <| And.intro h7 <| And.intro hp7 <| And.intro hp73 <| And.intro hkk <| hx0
          refine k_run ?_
          repeat ((first | refine wSc (id := 7) qsGv0 mixed ?_ | refine wSc (id := 9) qsGv1 mixed ?_); refine k_rund ?_; refine k_run ?_)
          clear fx
          exact e_ret [(.s 7, root)] (.one rfl) (by simp [h6]; rfl) ⟨⟨kind, parent, ps, L⟩, q + 1, by simp, by simp [hp72, hr0], by simp [hp73, hr0], ⟨rfl, rfl, hps, by simp; omega, by omega, hLT, hpT⟩, by simp [hU]⟩
    · have hL5 : L.length ≤ 4 := by omega
      have fx := And.intro h0 <| And.intro h1 <| And.intro h7 <| And.intro hp7 <| And.intro hp73 <| hn0
      refine k_run ?_
      repeat ((first | refine wSc (id := 7) qsGv0 mixed ?_ | refine wSc (id := 9) qsGv1 mixed ?_); refine k_rund ?_; refine k_run ?_)
      clear fx
      first | show SemOp _ _ _ _ _ | intro K hK
      refine x_rd (hs := by simp [hU]) (ha := by first | (simp [h0, h1]; done) | (simp [h0, h1]; rfl)) (hF := someStmt_fn _ _ bs q kind hb (by omega) (by simp [hU]) (by simp)) (h := ?_)
      rintro s p2 ⟨⟨hp2a, hp2b⟩, hsT⟩
      have fx := And.intro h0 <| And.intro h1 <| And.intro h7 <| And.intro hp7 <| And.intro hp73 <| And.intro h8 <| hn0
      refine k_run ?_
      repeat ((first | refine wSc (id := 7) qsGv0 mixed ?_ | refine wSc (id := 9) qsGv1 mixed ?_); refine k_rund ?_; refine k_run ?_)
      clear fx
      refine ⟨n - 1, by omega, L ++ [s], p2, by simp; omega, stmSnoc hLT hsT, by omega, by simp [h0], by simp, by simp [h1], by simp [h6], by simp [hp6], by simp [hp62], by simp [hp63], by simp [h7], by simp [hp7], by simp [hp72], by rw [← srows_app1]; simp [hp73], ?_⟩
      simp
      rw [wrp (by omega) (by omega)]
      omega
end Go.Proofs.YtmaoicgfcngciaaDoor
end
section
namespace Go.Proofs.YtmaoicgfcngciaaDoor
open Go Go.Hm Go.Proofs
def StmPost (bs : List Int) (Q : List Stm → Nat → Prop) : Nm → AV → (Nm → Option AO) → Prop := fun r z H' => ∃ (L : List Stm) (pos' : Nat), z = .hs r 4 0 L.length ∧ H' r = some (.row 4 (srows L)) ∧ Q L pos' ∧ H' (.u 1 0 0) = some (rdO bs pos')
theorem making_fn (gl) (H : Nm → Option AO) (bs : List Int) (pos : Nat) (kind parent b : Int) (np nb : Nat) (hbr : 0 ≤ b ∧ b ≤ 99) (hb : BytesOk bs) (hpos : pos ≤ 800000) (hH : H (.u 1 0 0) = some (rdO bs pos)) (hV : H (.u 2 0 0) = none) :
    FnE Tryd.prog gl 113 (Nm.under (.u 1 0 0)) [.pt (.u 1 0 0) 0, .agg [iv kind, iv parent, .hs (.u 4 0 0) 1 0 np, .hs (.u 5 0 0) 4 0 nb], iv b] H (StmPost bs (fun L pos' => L.length ≤ 2 ∧ pos' ≤ pos + 5 ∧ ∀ s ∈ L, TxtS s)) noE := by
  refine FnE.of_sem Tryd.func113 rfl (by kernel_rfl) (rs := [.tmp 6]) rfl Tryd.ntmps113 (Nat.le_of_ble_eq_true rfl) (fun _ => under_usroot rfl) fun C w g root hroot => ?_
  have hr0 := hroot root (Nm.under_self _)
  cases hk2 : (kind == 2)
  rotate_left
  · skip
    have fx :=  hk2
    refine k_run ?_
    clear fx
    exact e_ret [(.s 6, root)] (.one rfl) (by simp; rfl) ⟨[⟨4, 6, b, 0⟩], pos, by simp, by simp [srows, hr0], ⟨by simp, by omega, stm1 txS⟩, by simp [hH]⟩
  have fx :=  hk2
  refine k_run ?_
  clear fx
  first | show SemOp _ _ _ _ _ | intro K hK
  refine x_one (oneOk _) 17 [4, 5] (bs := bs) (pos := pos) hb (by omega) (hV := hV) (h0 := by simp) (h1 := by simp) (hH := by simp [hH]) (hL := by simp [irows]) (h := ?_)
  intro f hf
  have hfR : 0 ≤ f ∧ f ≤ 99 := by simp at hf; omega
  have fx := fx0
  refine k_run ?_
  clear fx
  first | show SemOp _ _ _ _ _ | intro K hK
  refine x_rd (hs := by simp) (ha := by first | (simp; done) | (simp; rfl)) (hF := pick_rd _ _ bs (pos + 1) 3 hb (by omega) (by omega) (by simp)) (h := ?_)
  rintro x px ⟨hx, rfl⟩
  have hx0 : x = 0 ∨ ¬ x = 0 := by omega
  rcases hx0 with rfl | hx0
  · skip
    have fx := fx0
    refine k_run ?_
    clear fx
    exact e_ret [(.s 6, root)] (.one rfl) (by simp; rfl) ⟨[⟨3, f, b, 0⟩], pos + 1 + 1, by simp, by simp [srows, hr0], ⟨by simp, by omega, stm1 txS⟩, by simp⟩
  have hxp : 0 < x := by omega
  cases hn1 : ((np : Int) == 1)
  · skip
    have fx := And.intro hxp <| hn1
    refine k_run ?_
    clear fx
    first | show SemOp _ _ _ _ _ | intro K hK
    refine x_one (oneOk _) 34 [0, 1, 5] (bs := bs) (pos := pos + 1 + 1) hb (by omega) (hV := hV) (h0 := by simp) (h1 := by simp) (hH := by simp) (hL := by simp [irows]) (h := ?_)
    intro v hv
    have hvR : 0 ≤ v ∧ v ≤ 99 := by simp at hv; omega
    have fx := fx0
    refine k_run ?_
    clear fx
    exact e_ret [(.s 6, root)] (.one rfl) (by simp; rfl) ⟨[⟨3, f, b, 0⟩, ⟨5, v, f, -1⟩], pos + 1 + 1 + 1, by simp, by simp [srows, hr0], ⟨by simp, by omega, stm2 txS txS⟩, by simp⟩
  · skip
    have fx := And.intro hxp <| hn1
    refine k_run ?_
    clear fx
    first | show SemOp _ _ _ _ _ | intro K hK
    refine x_rd (hs := by simp) (ha := by first | (simp; done) | (simp; rfl)) (hF := aName_rd _ _ bs (pos + 1 + 1) hb (by omega) (by simp) (by simp)) (h := ?_)
    rintro u pu ⟨huR, rfl⟩
    have fx := fx0
    refine k_run ?_
    clear fx
    first | show SemOp _ _ _ _ _ | intro K hK
    refine x_one (oneOk _) 34 [0, 1, 5] (bs := bs) (pos := pos + 1 + 1 + 1) hb (by omega) (hV := hV) (h0 := by simp) (h1 := by simp) (hH := by simp) (hL := by simp [irows]) (h := ?_)
    intro v hv
    have hvR : 0 ≤ v ∧ v ≤ 99 := by simp at hv; omega
    have fx := fx0
    refine k_run ?_
    clear fx
    exact e_ret [(.s 6, root)] (.one rfl) (by simp; rfl) ⟨[⟨3, f, b, 0⟩, ⟨5, v, f, u⟩], pos + 1 + 1 + 1 + 1, by simp, by simp [srows, hr0], ⟨by simp, by omega, stm2 txS txS⟩, by simp⟩
end Go.Proofs.YtmaoicgfcngciaaDoor
end
