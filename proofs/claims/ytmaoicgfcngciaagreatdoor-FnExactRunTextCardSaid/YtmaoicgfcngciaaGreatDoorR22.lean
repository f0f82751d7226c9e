/-
  Own texts, joined by mkclaim.py: Uza, Uys, Uzb, Uzc, Un, Uo, Ut.
-/
import Derived.Test.YtmaoicgfcngciaaGreatDoorR21
import Derived.Test.YtmaoicgfcngciaaGreatDoorR15
import Derived.Test.YtmaoicgfcngciaaGreatDoorR17
set_option linter.unusedSimpArgs false
set_option linter.unusedVariables false
set_option maxRecDepth 100000
set_option maxHeartbeats 4000000

section
set_option maxHeartbeats 8000000
namespace Go.Proofs.YtmaoicgfcngciaaGreatDoor
open Go Go.Hm Go.Proofs
abbrev qsUza0 : Sch := .q 0 <| .q 1 <| .q 2 <| .q 3 <| .q 4 <| .q 5 <| .q 6 <| .q 7 <| .q 8 <| .q 9 <| .q 10 <| .l 11 [] <| .l 12 [] <| .done
attribute [local simp] slcAV
theorem stmtOf_3 (gl) (k : Nat) (a b c : Nat) (hk : k < 12) : FnOk Tryz.prog gl 127 [iv k, isl (intsN [a, b, c])] (fun _ y _ => StmtPost k [a, b, c] y) := by
  refine FnOk.of_sem Tryz.func127 rfl (by kernel_rfl) (rs := [.cell 4 86, .tmp 5]) rfl Tryz.ntmps127 (Nat.le_of_ble_eq_true rfl) fun C w g root => ?_
  rcases kinds7 hk with rfl | rfl | rfl | rfl | rfl | h9 | ⟨h7, n2, n5, n6⟩
  · skip
    have fx := fx0
    refine k_run ?_
    repeat ((first | refine wSc (id := 15) qsUza0 mixed ?_); refine k_rund ?_; refine k_run ?_)
    clear fx
    exact e_ret [] .nil (by simp; rfl) ⟨⟨7, 0, 0, 0⟩, by simp [stmtOfN], by simp [stmtOfN]⟩
  · skip
    have fx := fx0
    refine k_run ?_
    repeat ((first | refine wSc (id := 15) qsUza0 mixed ?_); refine k_rund ?_; refine k_run ?_)
    clear fx
    exact e_ret [] .nil (by simp; rfl) ⟨⟨8, 0, 0, 0⟩, by simp [stmtOfN], by simp [stmtOfN]⟩
  · skip
    have fx := fx0
    refine k_run ?_
    repeat ((first | refine wSc (id := 15) qsUza0 mixed ?_); refine k_rund ?_; refine k_run ?_)
    clear fx
    exact e_ret [] .nil (by simp; rfl) ⟨⟨2, a, b, c⟩, by simp [stmtOfN], by simp [stmtOfN]⟩
  · skip
    have fx := fx0
    refine k_run ?_
    repeat ((first | refine wSc (id := 15) qsUza0 mixed ?_); refine k_rund ?_; refine k_run ?_)
    clear fx
    exact e_ret [] .nil (by simp; rfl) ⟨⟨5, a, b, c⟩, by simp [stmtOfN], by simp [stmtOfN]⟩
  · skip
    have fx := fx0
    refine k_run ?_
    repeat ((first | refine wSc (id := 15) qsUza0 mixed ?_); refine k_rund ?_; refine k_run ?_)
    clear fx
    exact e_ret [] .nil (by simp; rfl) ⟨⟨6, a, b, c⟩, by simp [stmtOfN], by simp [stmtOfN]⟩
  · skip
    have e7 : ((k : Int) == 7) = false := by simp; omega
    have e8 : ((k : Int) == 8) = false := by simp; omega
    have e2 : ((k : Int) == 2) = false := by simp; omega
    have e5 : ((k : Int) == 5) = false := by simp; omega
    have e6 : ((k : Int) == 6) = false := by simp; omega
    have c7 : ¬ k = 7 := by omega
    have c8 : ¬ k = 8 := by omega
    have c2 : ¬ k = 2 := by omega
    have c5 : ¬ k = 5 := by omega
    have c6 : ¬ k = 6 := by omega
    have i9 : (9 : Int) ≤ k := by omega
    have l7 : ¬ k < 7 := by omega
    have i7 : ¬ (k : Int) < 7 := by omega
    have fx := And.intro e7 <| And.intro e8 <| And.intro e2 <| And.intro e5 <| And.intro e6 <| And.intro c7 <| And.intro c8 <| And.intro c2 <| And.intro c5 <| And.intro c6 <| And.intro h9 <| And.intro i9 <| And.intro l7 <| i7
    refine k_run ?_
    repeat ((first | refine wSc (id := 15) qsUza0 mixed ?_); refine k_rund ?_; refine k_run ?_)
    clear fx
    exact e_ret [] .nil (by simp; rfl) ⟨⟨k, 0, 0, 0⟩, by simp [stmtOfN, e7, e8, e2, e5, e6, c7, c8, c2, c5, c6, h9, i9, l7, i7], by simp [stmtOfN, e7, e8, e2, e5, e6, c7, c8, c2, c5, c6, h9, i9, l7, i7]⟩
  · skip
    have e7 : ((k : Int) == 7) = false := by simp; omega
    have e8 : ((k : Int) == 8) = false := by simp; omega
    have e2 : ((k : Int) == 2) = false := by simp; omega
    have e5 : ((k : Int) == 5) = false := by simp; omega
    have e6 : ((k : Int) == 6) = false := by simp; omega
    have c7 : ¬ k = 7 := by omega
    have c8 : ¬ k = 8 := by omega
    have c2 : ¬ k = 2 := by omega
    have c5 : ¬ k = 5 := by omega
    have c6 : ¬ k = 6 := by omega
    have i9 : ¬ (9 : Int) ≤ k := by omega
    have h9 : ¬ 9 ≤ k := by omega
    have i7 : (k : Int) < 7 := by omega
    have fx := And.intro e7 <| And.intro e8 <| And.intro e2 <| And.intro e5 <| And.intro e6 <| And.intro c7 <| And.intro c8 <| And.intro c2 <| And.intro c5 <| And.intro c6 <| And.intro h9 <| And.intro i9 <| And.intro h7 <| i7
    refine k_run ?_
    repeat ((first | refine wSc (id := 15) qsUza0 mixed ?_); refine k_rund ?_; refine k_run ?_)
    clear fx
    exact e_ret [] .nil (by simp; rfl) ⟨⟨k, 0, 0, 0⟩, by simp [stmtOfN, e7, e8, e2, e5, e6, c7, c8, c2, c5, c6, h9, i9, h7, i7], by simp [stmtOfN, e7, e8, e2, e5, e6, c7, c8, c2, c5, c6, h9, i9, h7, i7]⟩
theorem stmtOf_0 (gl) (k : Nat) (ns : List Nat) (hk : k < 12) (h1 : ns.length ≠ 1) (h2 : ns.length ≠ 2) (h3 : ns.length ≠ 3) : FnOk Tryz.prog gl 127 [iv k, isl (intsN ns)] (fun _ y _ => StmtPost k ns y) := by
  have hno : stmtOfN k ns = none := by
    rcases ns with _ | ⟨a, _ | ⟨b, _ | ⟨c, _ | ⟨d, l⟩⟩⟩⟩
    · rfl
    · simp at h1
    · simp at h2
    · simp at h3
    · rfl
  have hL : (intsN ns).length = ns.length := by simp
  generalize intsN ns = L at hL ⊢
  have d1 : ((L.length : Int) == 1) = false := by simp; omega
  have d2 : ((L.length : Int) == 2) = false := by simp; omega
  have d3 : ((L.length : Int) == 3) = false := by simp; omega
  refine FnOk.of_sem Tryz.func127 rfl (by kernel_rfl) (rs := [.cell 4 86, .tmp 5]) rfl Tryz.ntmps127 (Nat.le_of_ble_eq_true rfl) fun C w g root => ?_
  rcases kinds7 hk with rfl | rfl | rfl | rfl | rfl | h9 | ⟨h7, n2, n5, n6⟩
  · skip
    have fx := And.intro d1 <| And.intro d2 <| d3
    refine k_run ?_
    repeat ((first | refine wSc (id := 15) qsUza0 mixed ?_); refine k_rund ?_; refine k_run ?_)
    clear fx
    exact e_ret [] .nil (by simp; rfl) ⟨⟨7, 0, 0, 0⟩, by simp [hno], by simp [hno]⟩
  · skip
    have fx := And.intro d1 <| And.intro d2 <| d3
    refine k_run ?_
    repeat ((first | refine wSc (id := 15) qsUza0 mixed ?_); refine k_rund ?_; refine k_run ?_)
    clear fx
    exact e_ret [] .nil (by simp; rfl) ⟨⟨8, 0, 0, 0⟩, by simp [hno], by simp [hno]⟩
  · skip
    have fx := And.intro d1 <| And.intro d2 <| d3
    refine k_run ?_
    repeat ((first | refine wSc (id := 15) qsUza0 mixed ?_); refine k_rund ?_; refine k_run ?_)
    clear fx
    exact e_ret [] .nil (by simp; rfl) ⟨⟨2, 0, 0, 0⟩, by simp [hno], by simp [hno]⟩
  · skip
    have fx := And.intro d1 <| And.intro d2 <| d3
    refine k_run ?_
    repeat ((first | refine wSc (id := 15) qsUza0 mixed ?_); refine k_rund ?_; refine k_run ?_)
    clear fx
    exact e_ret [] .nil (by simp; rfl) ⟨⟨5, 0, 0, 0⟩, by simp [hno], by simp [hno]⟩
  · skip
    have fx := And.intro d1 <| And.intro d2 <| d3
    refine k_run ?_
    repeat ((first | refine wSc (id := 15) qsUza0 mixed ?_); refine k_rund ?_; refine k_run ?_)
    clear fx
    exact e_ret [] .nil (by simp; rfl) ⟨⟨6, 0, 0, 0⟩, by simp [hno], by simp [hno]⟩
  · skip
    have e7 : ((k : Int) == 7) = false := by simp; omega
    have e8 : ((k : Int) == 8) = false := by simp; omega
    have e2 : ((k : Int) == 2) = false := by simp; omega
    have e5 : ((k : Int) == 5) = false := by simp; omega
    have e6 : ((k : Int) == 6) = false := by simp; omega
    have c7 : ¬ k = 7 := by omega
    have c8 : ¬ k = 8 := by omega
    have c2 : ¬ k = 2 := by omega
    have c5 : ¬ k = 5 := by omega
    have c6 : ¬ k = 6 := by omega
    have i9 : (9 : Int) ≤ k := by omega
    have l7 : ¬ k < 7 := by omega
    have i7 : ¬ (k : Int) < 7 := by omega
    have fx := And.intro d1 <| And.intro d2 <| And.intro d3 <| And.intro e7 <| And.intro e8 <| And.intro e2 <| And.intro e5 <| And.intro e6 <| And.intro c7 <| And.intro c8 <| And.intro c2 <| And.intro c5 <| And.intro c6 <| And.intro h9 <| And.intro i9 <| And.intro l7 <| i7
    refine k_run ?_
    repeat ((first | refine wSc (id := 15) qsUza0 mixed ?_); refine k_rund ?_; refine k_run ?_)
    clear fx
    exact e_ret [] .nil (by simp; rfl) ⟨⟨k, 0, 0, 0⟩, by simp [hno], by simp [hno]⟩
  · skip
    have e7 : ((k : Int) == 7) = false := by simp; omega
    have e8 : ((k : Int) == 8) = false := by simp; omega
    have e2 : ((k : Int) == 2) = false := by simp; omega
    have e5 : ((k : Int) == 5) = false := by simp; omega
    have e6 : ((k : Int) == 6) = false := by simp; omega
    have c7 : ¬ k = 7 := by omega
    have c8 : ¬ k = 8 := by omega
    have c2 : ¬ k = 2 := by omega
    have c5 : ¬ k = 5 := by omega
    have c6 : ¬ k = 6 := by omega
    have i9 : ¬ (9 : Int) ≤ k := by omega
    have h9 : ¬ 9 ≤ k := by omega
    have i7 : (k : Int) < 7 := by omega
    have fx := And.intro d1 <| And.intro d2 <| And.intro d3 <| And.intro e7 <| And.intro e8 <| And.intro e2 <| And.intro e5 <| And.intro e6 <| And.intro c7 <| And.intro c8 <| And.intro c2 <| And.intro c5 <| And.intro c6 <| And.intro h9 <| And.intro i9 <| And.intro h7 <| i7
    refine k_run ?_
    repeat ((first | refine wSc (id := 15) qsUza0 mixed ?_); refine k_rund ?_; refine k_run ?_)
    clear fx
    exact e_ret [] .nil (by simp; rfl) ⟨⟨k, 0, 0, 0⟩, by simp [hno], by simp [hno]⟩
theorem stmtOf_fn (gl) (k : Nat) (ns : List Nat) (hk : k < 12) : FnOk Tryz.prog gl 127 [iv k, isl (intsN ns)] (fun _ y _ => StmtPost k ns y) := by
  by_cases h1 : ns.length = 1
  · obtain ⟨a, rfl⟩ := List.length_eq_one_iff.1 h1
    exact stmtOf_1 gl k a hk
  by_cases h2 : ns.length = 2
  · obtain ⟨a, b, rfl⟩ := len_two h2
    exact stmtOf_2 gl k a b hk
  by_cases h3 : ns.length = 3
  · obtain ⟨a, b, c, rfl⟩ := len_three h3
    exact stmtOf_3 gl k a b c hk
  exact stmtOf_0 gl k ns hk h1 h2 h3
end Go.Proofs.YtmaoicgfcngciaaGreatDoor
end
section
namespace Go.Proofs.YtmaoicgfcngciaaGreatDoor
open Go Go.Hm Go.Proofs
theorem splitAt_sl (gl) (v : Txt) (c : UInt8) (hv : v.length ≤ 1048577) : FnOk Tryz.prog gl 71 [tx v, .sc (.int .u8 (c.toNat : Int))] (fun _ y _ => y = xsl (splitL c v)) :=
  (splitAt_fn gl v c hv).settle fun r y H' h => ⟨xsl (splitL c v), by rw [h.1]; exact bw_list h.2 (by simp) xrows_uni, rfl⟩
theorem splitAt_32 (gl) (l : Txt) (hl : l.length ≤ 1048577) : FnOk Tryz.prog gl 71 [tx l, .sc (.int .u8 32)] (fun _ y _ => y = xsl (splitL 32 l)) := splitAt_sl gl l 32 hl
theorem splitAt_10 (gl) (l : Txt) (hl : l.length ≤ 1048577) : FnOk Tryz.prog gl 71 [tx l, .sc (.int .u8 10)] (fun _ y _ => y = xsl (splitL 10 l)) := splitAt_sl gl l 10 hl
end Go.Proofs.YtmaoicgfcngciaaGreatDoor
end
section
namespace Go.Proofs.YtmaoicgfcngciaaGreatDoor
open Go Go.Hm Go.Proofs
abbrev qsUzb0 : Sch := .q 0 <| .q 1 <| .q 2 <| .q 3 <| .q 4 <| .q 5 <| .q 6 <| .q 7 <| .done
attribute [local simp] slcAV
theorem stmtWords_sl (gl) : FnOk Tryz.prog gl 126 [] (fun _ y _ => y = xsl stmtW) :=
  (stmtWords_fn gl).settle fun r y H' h => ⟨xsl stmtW, by rw [h.1]; exact bw_list h.2 (by simp) xrows_uni, rfl⟩
theorem spec_readStmt_fn (gl) (l : Txt) (hl : l.length ≤ 1048577) : FnOk Tryz.prog gl 73 [tx l] (fun _ y _ => ∃ S : Stm, y = .tup [S.av, bv (readS l).isSome] ∧ ∀ s, readS l = some s → S = s) := by
  have hsp := splitAt_32 gl l hl
  have hne := splitL_ne (c := 32) (l := l)
  have hlen := split_len (c := 32) (s := l)
  have hpart := split_part (c := 32) (s := l)
  have hrS : ∀ u us, splitL 32 l = u :: us → readS l = match kindW u, readNs us with | some k, some ns => stmtOfN k ns | _, _ => none := by
    intro u us e
    unfold readS
    rw [e]
    rfl
  generalize readS l = RS at hrS ⊢
  generalize splitL 32 l = W at hsp hne hlen hpart hrS
  obtain ⟨u, us, rfl⟩ : ∃ u us, W = u :: us := by cases W with
    | nil => exact absurd rfl hne
    | cons u us => exact ⟨u, us, rfl⟩
  have hrs := hrS u us rfl
  have hul : us.length ≤ 1048577 := by simp at hlen; omega
  have hus : ∀ v ∈ us, v.length ≤ 1048577 := fun v hv => by have := hpart v (by simp [hv]); omega
  have hrn := readNumbers_fn gl us hul hus
  have h1 : (1 : Int) ≤ (us.length : Int) + 1 := by omega
  have hw12 : stmtW.length = 12 := rfl
  refine FnOk.of_sem Tryz.func73 rfl (by kernel_rfl) (rs := [.cell 2 86, .tmp 3]) rfl Tryz.ntmps73 (Nat.le_of_ble_eq_true rfl) fun C w g root => ?_
  cases hns : readNs us with
  | none =>
    rw [hns] at hrs hrn
    have hno : RS = none := by rw [hrs]; cases kindW u <;> rfl
    have fx :=  h1
    have p1 := hsp
    have e1 := hrn
    refine k_runp ?_
    repeat ((first | refine wSc (id := 7) qsUzb0 mixed ?_); refine k_rundp ?_; refine k_runp ?_)
    clear fx p1 e1
    rintro K hK y H' ⟨rfl, hH'⟩
    refine ⟨by simp, ?_⟩
    have fx := fx0
    have p1 := stmtWords_sl gl
    refine k_runp ?_
    repeat ((first | refine wSc (id := 7) qsUzb0 mixed ?_); refine k_rundp ?_; refine k_runp ?_)
    clear fx p1
    refine w_loop (fun n st => n = 0 ∧ st.tm 2 = .pt (.s 2) 0 ∧ st.hp (.s 2) = some (.row 4 [[iv 0, iv 0, iv 0, iv 0]]) ∧ st.tm 6 = bv false ∧ st.tm 7 = xsl stmtW ∧ st.tm 8 = iv 0) 0 ⟨rfl, by simp, by simp, by simp, by simp, by simp⟩ ?_
    rintro n st - - ⟨rfl, h2, hp2, h6, h7, h8⟩
    have fx := And.intro h2 <| And.intro hp2 <| And.intro h6 <| And.intro h7 <| And.intro h8 <| hw12
    refine k_run ?_
    repeat ((first | refine wSc (id := 7) qsUzb0 mixed ?_); refine k_rund ?_; refine k_run ?_)
    clear fx
    refine e_ret [] .nil (by simp [h2]; rfl) ⟨⟨0, 0, 0, 0⟩, by simp [hno], by simp [hno]⟩
  | some ns =>
    rw [hns] at hrs hrn
    have fx :=  h1
    have p1 := hsp
    have e1 := hrn
    refine k_runp ?_
    repeat ((first | refine wSc (id := 7) qsUzb0 mixed ?_); refine k_rundp ?_; refine k_runp ?_)
    clear fx p1 e1
    rintro K hK y H' ⟨rfl, hH'⟩
    refine ⟨by simp, ?_⟩
    have fx := fx0
    have p1 := stmtWords_sl gl
    refine k_runp ?_
    repeat ((first | refine wSc (id := 7) qsUzb0 mixed ?_); refine k_rundp ?_; refine k_runp ?_)
    clear fx p1
    refine w_loop (fun n st => ∃ i : Nat, n = 12 - i ∧ i ≤ 12 ∧ (∀ j, j < i → ∀ x, stmtW[j]? = some x → x ≠ u) ∧ st.tm 2 = .pt (.s 2) 0 ∧ st.hp (.s 2) = some (.row 4 [[iv 0, iv 0, iv 0, iv 0]]) ∧ st.tm 6 = bv true ∧ st.tm 7 = xsl stmtW ∧ st.tm 8 = iv i ∧ st.tm 4 = xsl (u :: us) ∧ st.tm 5 = .hs (.s 5) 1 0 ns.length ∧ st.hp (.s 5) = some (.row 1 (irows (intsN ns)))) 12 ?_ ?_
    · exact ⟨0, by omega, by omega, fun j hj => by omega, by simp, by simp, by simp, by simp, by simp, by simp, by simp, by simp [hcln_row hH' (by simp)]⟩
    clear hH'
    rintro n st - - ⟨i, rfl, hi, hno, h2, hp2, h6, h7, h8, h4, h5, hp5⟩
    have hwi : IntKind.i64.wrap ((i : Int) + 1) = (i : Int) + 1 := wrp (by omega) (by omega)
    by_cases hil : i < 12
    · have hii : (i : Int) < 12 := by omega
      obtain ⟨x, hx⟩ : ∃ x, stmtW[i]? = some x := ⟨_, gE (by rw [hw12]; exact hil)⟩
      obtain ⟨_, hxE⟩ := gS hx
      by_cases he : x = u
      · have hkw := kindW_first hx he hno
        rw [hkw] at hrs
        have hb : (x == u) = true := by simpa using he
        have fx := And.intro h2 <| And.intro hp2 <| And.intro h6 <| And.intro h7 <| And.intro h8 <| And.intro h4 <| And.intro h5 <| And.intro hp5 <| And.intro hw12 <| And.intro hil <| And.intro hii <| And.intro hx <| And.intro hxE <| hb
        have e1 := stmtOf_fn gl i ns hil
        refine k_run ?_
        repeat ((first | refine wSc (id := 7) qsUzb0 mixed ?_); refine k_rund ?_; refine k_run ?_)
        clear fx e1
        rintro K hK y H2 ⟨⟨sk, so, sa, sb⟩, rfl, hS⟩
        refine ⟨by simp, ?_⟩
        have hrs2 : RS = stmtOfN i ns := hrs
        have fx := And.intro h2 <| hp2
        refine k_run ?_
        repeat ((first | refine wSc (id := 7) qsUzb0 mixed ?_); refine k_rund ?_; refine k_run ?_)
        clear fx
        refine e_ret [] .nil (by simp [h2]; rfl) ⟨⟨sk, so, sa, sb⟩, by simp [hrs2], fun s hs => hS s (by rw [← hrs2]; exact hs)⟩
      · have hb : (x == u) = false := by simpa using he
        have fx := And.intro h2 <| And.intro hp2 <| And.intro h6 <| And.intro h7 <| And.intro h8 <| And.intro h4 <| And.intro h5 <| And.intro hp5 <| And.intro hw12 <| And.intro hil <| And.intro hii <| And.intro hx <| And.intro hxE <| And.intro hb <| hwi
        refine k_run ?_
        repeat ((first | refine wSc (id := 7) qsUzb0 mixed ?_); refine k_rund ?_; refine k_run ?_)
        clear fx
        refine ⟨12 - (i + 1), by omega, i + 1, rfl, by omega, fun j hj y hy => ?_, by simp [h2], by simp [hp2], by simp [h6], by simp [h7], by simp [hwi], by simp [h4], by simp [h5], by simp [hp5]⟩
        by_cases hji : j = i
        · subst hji
          rw [hx] at hy
          obtain rfl := Option.some.inj hy
          exact he
        · exact hno j (by omega) y hy
    · have hkn := kindW_no (v := u) fun j hj => hno j (by omega)
      rw [hkn] at hrs
      have hno2 : RS = none := hrs
      have hin : ¬ (i : Int) < 12 := by omega
      have fx := And.intro h2 <| And.intro hp2 <| And.intro h6 <| And.intro h7 <| And.intro h8 <| And.intro hw12 <| And.intro hil <| hin
      refine k_run ?_
      repeat ((first | refine wSc (id := 7) qsUzb0 mixed ?_); refine k_rund ?_; refine k_run ?_)
      clear fx
      refine e_ret [] .nil (by simp [h2]; rfl) ⟨⟨0, 0, 0, 0⟩, by simp [hno2], by simp [hno2]⟩
end Go.Proofs.YtmaoicgfcngciaaGreatDoor
end
section
namespace Go.Proofs.YtmaoicgfcngciaaGreatDoor
open Go Go.Hm Go.Proofs
abbrev qsUzc0 : Sch := .q 0 <| .q 1 <| .q 2 <| .q 3 <| .q 4 <| .q 5 <| .q 6 <| .q 7 <| .l 8 [7, 6, 5, 4, 3, 1] <| .l 9 [] <| .done
attribute [local simp] slcAV
def HeadPost (RH : Option Blk) : Nm → AV → (Nm → Option AO) → Prop := fun r y H' => ∃ k : Blk, y = .tup [.agg [iv k.kind, iv k.parent, .hs (.c r 0 2) 1 0 k.params.length, .hs (.c r 0 3) 4 0 0], bv RH.isSome] ∧ H' (.c r 0 2) = some (.row 1 (irows k.params)) ∧ H' (.c r 0 3) = some (.row 4 []) ∧ ∀ k', RH = some k' → k' = k
theorem spec_readHead_fn (gl) (l : Txt) (hl : l.length ≤ 1048577) : FnOk Tryz.prog gl 72 [tx l] (HeadPost (readH l)) := by
  have hsp := splitAt_32 gl l hl
  have hne := splitL_ne (c := 32) (l := l)
  have hlen := split_len (c := 32) (s := l)
  have hpart := split_part (c := 32) (s := l)
  have hrH : ∀ W, splitL 32 l = W → readH l = match W with
      | i :: n :: f :: ws => if i = tIn then match smallN n with
          | some q => if f = tClass ∧ ws = [] then some ⟨2, q, [], []⟩ else if f = tFun then (readNs ws).map fun ns => ⟨1, q, ns.map fun (n : Nat) => (n : Int), []⟩ else none
          | none => none
        else none
      | _ => none := by
    intro W e
    unfold readH
    rw [e]
    rfl
  generalize readH l = RH at hrH ⊢
  generalize splitL 32 l = W at hsp hne hlen hpart hrH
  have hrh := hrH W rfl
  clear hrH
  refine FnOk.of_sem Tryz.func72 rfl (by kernel_rfl) (rs := [.cell 2 44, .tmp 3]) rfl Tryz.ntmps72 (Nat.le_of_ble_eq_true rfl) fun C w g root => ?_
  rcases W with _ | ⟨a, _ | ⟨b, _ | ⟨f, ws⟩⟩⟩
  · exact absurd rfl hne
  · have hno : RH = none := hrh
    have fx := fx0
    have p1 := hsp
    refine k_runp ?_
    repeat ((first | refine wSc (id := 10) qsUzc0 mixed ?_); refine k_rundp ?_; refine k_runp ?_)
    clear fx p1
    refine e_ret [(.s 2, root)] (.one rfl) (by simp; rfl) ⟨⟨0, 0, [], []⟩, by simp [hno], by simp [irows], by simp, by simp [hno]⟩
  · have hno : RH = none := hrh
    have fx := fx0
    have p1 := hsp
    refine k_runp ?_
    repeat ((first | refine wSc (id := 10) qsUzc0 mixed ?_); refine k_rundp ?_; refine k_runp ?_)
    clear fx p1
    refine e_ret [(.s 2, root)] (.one rfl) (by simp; rfl) ⟨⟨0, 0, [], []⟩, by simp [hno], by simp [irows], by simp, by simp [hno]⟩
  have h3 : ¬ (ws.length : Int) + 1 + 1 + 1 < 3 := by omega
  have h3' : (3 : Int) ≤ (ws.length : Int) + 1 + 1 + 1 := by omega
  have htn : ((ws.length : Int) + 1 + 1 + 1).toNat - 3 = ws.length := by omega
  have hrn := readNumbers_fn gl ws (by simp at hlen; omega) (fun v hv => by have := hpart v (by simp [hv]); omega)
  have hq := readNumber_fn gl b (by have := hpart b (by simp); omega)
  by_cases ha : a = tIn
  case neg =>
    have hb : (a == [105, 110]) = false := by simpa [tIn] using ha
    have hno : RH = none := by rw [hrh]; simp [ha]
    have fx := And.intro h3 <| And.intro hb <| @bne_def
    have p1 := hsp
    refine k_runp ?_
    repeat ((first | refine wSc (id := 10) qsUzc0 mixed ?_); refine k_rundp ?_; refine k_runp ?_)
    clear fx p1
    refine e_ret [(.s 2, root)] (.one rfl) (by simp; rfl) ⟨⟨0, 0, [], []⟩, by simp [hno], by simp [irows], by simp, by simp [hno]⟩
  have hb : (a == [105, 110]) = true := by rw [ha]; rfl
  cases hs : smallN b with
  | none =>
    have hno : RH = none := by rw [hrh]; simp [hs]
    rw [smallI_none hs] at hq
    have fx := And.intro h3 <| And.intro hb <| @bne_def
    have p1 := hsp
    have c1 := hq
    refine k_runp ?_
    repeat ((first | refine wSc (id := 10) qsUzc0 mixed ?_); refine k_rundp ?_; refine k_runp ?_)
    clear fx p1 c1
    refine e_ret [(.s 2, root)] (.one rfl) (by simp; rfl) ⟨⟨0, 0, [], []⟩, by simp [hno], by simp [irows], by simp, by simp [hno]⟩
  | some q =>
    rw [smallI_some hs] at hq
    have hq0 : ¬ (q : Int) < 0 := by omega
    by_cases hc : f = tClass
    · have hcb : (f == [99, 108, 97, 115, 115]) = true := by rw [hc]; rfl
      have hfb : (f == [102, 117, 110]) = false := by rw [hc]; rfl
      by_cases hw : ws = []
      · have hl3 : ((ws.length : Int) + 1 + 1 + 1 == 3) = true := by rw [hw]; rfl
        have hyes : RH = some ⟨2, q, [], []⟩ := by rw [hrh]; simp [ha, hs, hc, hw]
        have fx := And.intro h3 <| And.intro hb <| And.intro hq0 <| And.intro hcb <| And.intro hl3 <| @bne_def
        have p1 := hsp
        have c1 := hq
        refine k_runp ?_
        repeat ((first | refine wSc (id := 10) qsUzc0 mixed ?_); refine k_rundp ?_; refine k_runp ?_)
        clear fx p1 c1
        refine e_ret [(.s 5, root)] (.one rfl) (by simp; rfl) ⟨⟨2, q, [], []⟩, by simp [hyes], by simp [irows], by simp, by simp [hyes]⟩
      · have hl3 : ((ws.length : Int) + 1 + 1 + 1 == 3) = false := by have := List.length_pos_iff.2 hw; simp; omega
        have hno : RH = none := by rw [hrh]; simp [ha, hs, hc, hw, (show ¬ tClass = tFun by decide)]
        cases hns : readNs ws with
        | none =>
          rw [hns] at hrn
          have fx := And.intro h3 <| And.intro h3' <| And.intro htn <| And.intro hb <| And.intro hq0 <| And.intro hcb <| And.intro hl3 <| @bne_def
          have p1 := hsp
          have c1 := hq
          have e1 := hrn
          refine k_runp ?_
          repeat ((first | refine wSc (id := 10) qsUzc0 mixed ?_); refine k_rundp ?_; refine k_runp ?_)
          clear fx p1 c1 e1
          rintro K hK y H' ⟨rfl, hH'⟩
          have hh := hcln_row hH' (by simp)
          refine ⟨by simp, ?_⟩
          have fx := And.intro hh <| And.intro hfb <| @bne_def
          refine k_run ?_
          repeat ((first | refine wSc (id := 10) qsUzc0 mixed ?_); refine k_rund ?_; refine k_run ?_)
          clear fx
          refine e_ret [(.s 5, root)] (.one rfl) (by simp; rfl) ⟨⟨1, q, [], []⟩, by simp [hno], by simp [irows, hh], by simp, by simp [hno]⟩
        | some ns =>
          rw [hns] at hrn
          have fx := And.intro h3 <| And.intro h3' <| And.intro htn <| And.intro hb <| And.intro hq0 <| And.intro hcb <| And.intro hl3 <| @bne_def
          have p1 := hsp
          have c1 := hq
          have e1 := hrn
          refine k_runp ?_
          repeat ((first | refine wSc (id := 10) qsUzc0 mixed ?_); refine k_rundp ?_; refine k_runp ?_)
          clear fx p1 c1 e1
          rintro K hK y H' ⟨rfl, hH'⟩
          have hh := hcln_row hH' (by simp)
          refine ⟨by simp, ?_⟩
          have fx := And.intro hh <| And.intro hfb <| @bne_def
          refine k_run ?_
          repeat ((first | refine wSc (id := 10) qsUzc0 mixed ?_); refine k_rund ?_; refine k_run ?_)
          clear fx
          refine e_ret [(.s 5, root)] (.one rfl) (by simp; rfl) ⟨⟨1, q, ns.map fun (n : Nat) => (n : Int), []⟩, by simp [hno], by simp [hh], by simp, by simp [hno]⟩
    · have hcb : (f == [99, 108, 97, 115, 115]) = false := by simpa [tClass] using hc
      cases hns : readNs ws with
      | none =>
        rw [hns] at hrn
        have hno : RH = none := by rw [hrh]; simp [ha, hs, hc, hns]
        have fx := And.intro h3 <| And.intro h3' <| And.intro htn <| And.intro hb <| And.intro hq0 <| And.intro hcb <| @bne_def
        have p1 := hsp
        have c1 := hq
        have e1 := hrn
        refine k_runp ?_
        repeat ((first | refine wSc (id := 10) qsUzc0 mixed ?_); refine k_rundp ?_; refine k_runp ?_)
        clear fx p1 c1 e1
        rintro K hK y H' ⟨rfl, hH'⟩
        have hh := hcln_row hH' (by simp)
        refine ⟨by simp, ?_⟩
        have fx := And.intro hh <| @bne_def
        refine k_run ?_
        repeat ((first | refine wSc (id := 10) qsUzc0 mixed ?_); refine k_rund ?_; refine k_run ?_)
        clear fx
        refine e_ret [(.s 5, root)] (.one rfl) (by simp; rfl) ⟨⟨1, q, [], []⟩, by simp [hno], by simp [irows, hh], by simp, by simp [hno]⟩
      | some ns =>
        rw [hns] at hrn
        by_cases hf : f = tFun
        · have hfb : (f == [102, 117, 110]) = true := by rw [hf]; rfl
          have hyes : RH = some ⟨1, q, ns.map fun (n : Nat) => (n : Int), []⟩ := by rw [hrh]; simp [ha, hs, hc, hf, hns, (show ¬ tFun = tClass by decide)]
          have fx := And.intro h3 <| And.intro h3' <| And.intro htn <| And.intro hb <| And.intro hq0 <| And.intro hcb <| @bne_def
          have p1 := hsp
          have c1 := hq
          have e1 := hrn
          refine k_runp ?_
          repeat ((first | refine wSc (id := 10) qsUzc0 mixed ?_); refine k_rundp ?_; refine k_runp ?_)
          clear fx p1 c1 e1
          rintro K hK y H' ⟨rfl, hH'⟩
          have hh := hcln_row hH' (by simp)
          refine ⟨by simp, ?_⟩
          have fx := And.intro hh <| And.intro hfb <| @bne_def
          refine k_run ?_
          repeat ((first | refine wSc (id := 10) qsUzc0 mixed ?_); refine k_rund ?_; refine k_run ?_)
          clear fx
          refine e_ret [(.s 5, root)] (.one rfl) (by simp; rfl) ⟨⟨1, q, ns.map fun (n : Nat) => (n : Int), []⟩, by simp [hyes], by simp [hh], by simp, by simp [hyes]⟩
        · have hfb : (f == [102, 117, 110]) = false := by simpa [tFun] using hf
          have hno : RH = none := by rw [hrh]; simp [ha, hs, hc, hf]
          have fx := And.intro h3 <| And.intro h3' <| And.intro htn <| And.intro hb <| And.intro hq0 <| And.intro hcb <| @bne_def
          have p1 := hsp
          have c1 := hq
          have e1 := hrn
          refine k_runp ?_
          repeat ((first | refine wSc (id := 10) qsUzc0 mixed ?_); refine k_rundp ?_; refine k_runp ?_)
          clear fx p1 c1 e1
          rintro K hK y H' ⟨rfl, hH'⟩
          have hh := hcln_row hH' (by simp)
          refine ⟨by simp, ?_⟩
          have fx := And.intro hh <| And.intro hfb <| @bne_def
          refine k_run ?_
          repeat ((first | refine wSc (id := 10) qsUzc0 mixed ?_); refine k_rund ?_; refine k_run ?_)
          clear fx
          refine e_ret [(.s 5, root)] (.one rfl) (by simp; rfl) ⟨⟨1, q, ns.map fun (n : Nat) => (n : Int), []⟩, by simp [hno], by simp [hh], by simp, by simp [hno]⟩
end Go.Proofs.YtmaoicgfcngciaaGreatDoor
end
section
namespace Go.Proofs.YtmaoicgfcngciaaGreatDoor
open Go Go.Hm Go.Proofs
attribute [local simp] slcAV
def numI0 (o : Option Nat) : Int := match o with | some n => n | none => 0
theorem smallNumber_fn (gl) (v : Txt) (hv : v.length ≤ 1048577) : FnOk Tryz.prog gl 158 [tx v] (fun _ y _ => y = .tup [iv (numI0 (smallN v)), bv (smallN v).isSome]) := by
  refine FnOk.of_sem Tryz.func158 rfl (by kernel_rfl) (rs := [.tmp 2, .tmp 3]) rfl Tryz.ntmps158 (Nat.le_of_ble_eq_true rfl) fun C w g root => ?_
  by_cases h1 : v.length < 1
  · have hno := small_len (s := v) (.inl h1)
    have h1' : (v.length : Int) < 1 := by omega
    have fx := And.intro h1 <| h1'
    refine k_run ?_
    clear fx
    refine e_ret [] .nil (by simp; rfl) (by simp [hno, numI0])
  by_cases h2 : 2 < v.length
  · have hno := small_len (s := v) (.inr h2)
    have h1' : ¬ (v.length : Int) < 1 := by omega
    have h2' : (2 : Int) < v.length := by omega
    have fx := And.intro h1 <| And.intro h1' <| And.intro h2 <| h2'
    refine k_run ?_
    clear fx
    refine e_ret [] .nil (by simp; rfl) (by simp [hno, numI0])
  have h1' : ¬ (v.length : Int) < 1 := by omega
  have h2' : ¬ (2 : Int) < v.length := by omega
  have h3 : v.length = 1 ∨ v.length = 2 := by omega
  obtain ⟨c0, hc0⟩ : ∃ c, v[0]? = some c := ⟨_, gE (by omega)⟩
  obtain ⟨_, hcE⟩ := gS hc0
  by_cases hz : v.length = 2 ∧ c0 = 48
  · obtain ⟨hl, rfl⟩ := hz
    have hno := small_zero hl hc0
    have fx := And.intro h1 <| And.intro h1' <| And.intro h2 <| And.intro h2' <| And.intro hl <| And.intro hc0 <| hcE
    refine k_run ?_
    clear fx
    refine e_ret [] .nil (by simp; rfl) (by simp [hno, numI0])
  have hzz : v.length = 2 → v[0]? ≠ some 48 := fun e e2 => hz ⟨e, by rw [hc0] at e2; exact Option.some.inj e2⟩
  rcases h3 with hl | hl
  case' inl =>
    have fx := And.intro h1 <| And.intro h1' <| And.intro h2 <| And.intro h2' <| hl
    refine k_run ?_
    clear fx
  case' inr =>
    have hc48 : ¬ c0 = 48 := fun e => hz ⟨hl, e⟩
    have hcn : ¬ c0.toNat = 48 := fun e => hc48 (UInt8.toNat_inj.1 e)
    have hcb : ((c0.toNat : Int) == 48) = false := by simp; omega
    have fx := And.intro h1 <| And.intro h1' <| And.intro h2 <| And.intro h2' <| And.intro hl <| And.intro hc0 <| And.intro hcE <| And.intro hcn <| hcb
    refine k_run ?_
    clear fx
  all_goals
    refine w_loop (fun n st => ∃ i : Nat, n = v.length - i ∧ i ≤ v.length ∧ st.tm 0 = tx v ∧ st.tm 25 = iv v.length ∧ st.tm 26 = iv i ∧ st.tm 4 = iv (dval (v.take i)) ∧ ∀ c ∈ v.take i, 48 ≤ c.toNat ∧ c.toNat ≤ 57) v.length ?_ ?_
    · exact ⟨0, by omega, by omega, by simp, by simp [hl], by simp, by simp [dval], by simp⟩
    rintro n st - - ⟨i, rfl, hi, h0, h25, h26, h4, hd⟩
    by_cases hil : i < v.length
    · obtain ⟨c, hc⟩ : ∃ c, v[i]? = some c := ⟨_, gE hil⟩
      obtain ⟨_, hcE'⟩ := gS hc
      have hdt := dval_take hc
      have hdl : dval (v.take i) ≤ 9 := dval_le (by rw [List.length_take]; omega) hd
      have hcl := c.toNat_lt
      generalize dval (v.take i) = m at h4 hdt hdl
      by_cases hg : 48 ≤ c.toNat ∧ c.toNat ≤ 57
      · obtain ⟨g1, g2⟩ := hg
        have g1' : ¬ c.toNat < 48 := by omega
        have g2' : ¬ 57 < c.toNat := by omega
        have g1i : ¬ (c.toNat : Int) < 48 := by omega
        have g2i : ¬ (57 : Int) < (c.toNat : Int) := by omega
        obtain ⟨k, hk⟩ : ∃ k : Nat, k = c.toNat - 48 := ⟨_, rfl⟩
        have hw1 : IntKind.i64.wrap (10 * (m : Int)) = 10 * (m : Int) := wrp (by omega) (by omega)
        have hw2 : IntKind.u8.wrap ((c.toNat : Int) - 48) = (k : Int) := by rw [show (c.toNat : Int) - 48 = (k : Int) by omega]; exact u8w (by omega) (by omega)
        have hw3 : IntKind.i64.wrap (k : Int) = (k : Int) := wrp (by omega) (by omega)
        have hw4 : IntKind.i64.wrap (10 * (m : Int) + (k : Int)) = 10 * (m : Int) + (k : Int) := wrp (by omega) (by omega)
        have fx := And.intro h0 <| And.intro h25 <| And.intro h26 <| And.intro h4 <| And.intro hil <| And.intro hc <| And.intro hcE' <| And.intro g1' <| And.intro g2' <| And.intro g1i <| And.intro g2i <| And.intro hw1 <| And.intro hw2 <| And.intro hw3 <| hw4
        refine k_run ?_
        clear fx
        refine ⟨v.length - (i + 1), by omega, i + 1, rfl, by omega, by simp [h0], by simp [h25], by simp; exact wrp (by omega) (by omega), ?_, ?_⟩
        · simp [hdt, ← hk]
        · intro x hx
          rw [List.take_add_one, hc] at hx
          simp at hx
          rcases hx with hx | rfl
          · exact hd x hx
          · exact ⟨g1, g2⟩
      · have hno := small_bad1 hc hg
        by_cases g1 : c.toNat < 48
        · have g1i : (c.toNat : Int) < 48 := by omega
          have fx := And.intro h0 <| And.intro h25 <| And.intro h26 <| And.intro h4 <| And.intro hil <| And.intro hc <| And.intro hcE' <| And.intro g1 <| g1i
          refine k_run ?_
          clear fx
          refine e_ret [] .nil (by simp; rfl) (by simp [hno, numI0])
        · have g1i : ¬ (c.toNat : Int) < 48 := by omega
          have g2 : 57 < c.toNat := by omega
          have g2i : (57 : Int) < (c.toNat : Int) := by omega
          have fx := And.intro h0 <| And.intro h25 <| And.intro h26 <| And.intro h4 <| And.intro hil <| And.intro hc <| And.intro hcE' <| And.intro g1 <| And.intro g1i <| And.intro g2 <| g2i
          refine k_run ?_
          clear fx
          refine e_ret [] .nil (by simp; rfl) (by simp [hno, numI0])
    · obtain rfl : i = v.length := by omega
      rw [List.take_length] at h4 hd
      have hyes := small_digits (by omega) (by omega) hzz hd
      have fx := And.intro h0 <| And.intro h25 <| And.intro h26 <| And.intro h4 <| hil
      refine k_run ?_
      clear fx
      refine e_ret [] .nil (by simp [h4]; rfl) (by simp [hyes, numI0])
abbrev rdW (ls ws : List Txt) : AO := .row 2 [[xsl ls, xsl ws]]
theorem more_fn (gl) (H : Nm → Option AO) (ls ws : List Txt) (hH : H (.u 1 0 0) = some (rdW ls ws)) :
    FnE Tryz.prog gl 129 (Nm.under (.u 1 0 0)) [.pt (.u 1 0 0) 0] H (fun _ y H' => y = bv (!ws.isEmpty) ∧ H' (.u 1 0 0) = some (rdW ls ws)) noE := by
  refine FnE.of_sem Tryz.func129 rfl (by kernel_rfl) (rs := [.tmp 2]) rfl Tryz.ntmps129 (Nat.le_of_ble_eq_true rfl) (fun _ => under_usroot rfl) fun C w g root hroot => ?_
  have fx :=  hH
  refine k_run ?_
  clear fx
  refine e_ret [] .nil (by simp; rfl) ⟨?_, by simp [hH]⟩
  cases ws <;> simp
theorem word_fn (gl) (H : Nm → Option AO) (ls ws : List Txt) (hH : H (.u 1 0 0) = some (rdW ls ws)) :
    FnE Tryz.prog gl 77 (Nm.under (.u 1 0 0)) [.pt (.u 1 0 0) 0] H (fun _ y H' => ∃ w ws', ws = w :: ws' ∧ y = tx w ∧ H' (.u 1 0 0) = some (rdW ls ws')) (badQ (ws = [])) := by
  refine FnE.of_sem Tryz.func77 rfl (by kernel_rfl) (rs := [.tmp 2]) rfl Tryz.ntmps77 (Nat.le_of_ble_eq_true rfl) (fun _ => under_usroot rfl) fun C w g root hroot => ?_
  cases ws with
  | nil =>
    have fx :=  hH
    refine k_run ?_
    clear fx
    intro K hK
    refine x_pan (hx := by simp; first | done | exact ⟨rfl, rfl⟩) ?_
    exact ⟨[], .nil, ⟨_, _, rfl, .inl rfl⟩, rfl⟩
  | cons u us =>
    have hne : ((us.length : Int) + 1 == 0) = false := by simp; omega
    have h1 : (1 : Int) ≤ (us.length : Int) + 1 := by omega
    have fx := And.intro hH <| And.intro hne <| h1
    refine k_run ?_
    clear fx
    refine e_ret [] .nil (by simp; rfl) ⟨u, us, rfl, by simp, by simp⟩
theorem endLine_fn (gl) (H : Nm → Option AO) (ls ws : List Txt) (hH : H (.u 1 0 0) = some (rdW ls ws)) :
    FnE Tryz.prog gl 76 (Nm.under (.u 1 0 0)) [.pt (.u 1 0 0) 0] H (fun _ _ H' => ws = [] ∧ H' (.u 1 0 0) = some (rdW ls ws)) (badQ (ws ≠ [])) := by
  refine FnE.of_sem Tryz.func76 rfl (by kernel_rfl) (rs := []) rfl Tryz.ntmps76 (Nat.le_of_ble_eq_true rfl) (fun _ => under_usroot rfl) fun C w g root hroot => ?_
  have fx :=  hH
  refine k_run ?_
  clear fx
  intro K hK
  have fx := hH
  refine x_mut (.u 1 0 0) rfl (by simp [hH]) (hF := more_fn _ _ ls ws (by simp [hH])) (h := ?_)
  rintro y H1 ⟨rfl, hH1⟩
  clear fx
  cases ws with
  | nil =>
    have fx := And.intro hH <| hH1
    refine k_run ?_
    clear fx
    refine e_norm [] .nil (by simp; rfl) ⟨rfl, by simp [hH1]⟩
  | cons u us =>
    have fx := And.intro hH <| hH1
    refine k_run ?_
    clear fx
    intro K hK
    refine x_pan (hx := by simp; first | done | exact ⟨rfl, rfl⟩) ?_
    exact ⟨[], .nil, ⟨_, _, rfl, .inl rfl⟩, by simp⟩
end Go.Proofs.YtmaoicgfcngciaaGreatDoor
end
section
namespace Go.Proofs.YtmaoicgfcngciaaGreatDoor
open Go Go.Hm Go.Proofs
attribute [local simp] slcAV
theorem number_rd (gl) (H : Nm → Option AO) (ls ws : List Txt) (hws : ∀ v ∈ ws, v.length ≤ 1048577) (hH : H (.u 1 0 0) = some (rdW ls ws)) :
    FnE Tryz.prog gl 113 (Nm.under (.u 1 0 0)) [.pt (.u 1 0 0) 0] H (fun _ y H' => ∃ n ws', rNum ws = some (n, ws') ∧ y = iv n ∧ H' (.u 1 0 0) = some (rdW ls ws')) (badQ (rNum ws = none)) := by
  refine FnE.of_sem Tryz.func113 rfl (by kernel_rfl) (rs := [.tmp 2]) rfl Tryz.ntmps113 (Nat.le_of_ble_eq_true rfl) (fun _ => under_usroot rfl) fun C w g root hroot => ?_
  have fx :=  hH
  refine k_run ?_
  clear fx
  intro K hK
  have fx := hH
  refine x_mutE (.u 1 0 0) rfl (by simp [hH]) (hF := word_fn _ _ ls ws (by simp [hH])) (hE := fun x s hx hq => ⟨[], .nil, hx.tr, by rw [hq]; rfl⟩) (h := ?_)
  rintro y H1 ⟨v, vs, rfl, rfl, hH1⟩
  clear fx
  have hvl := hws v (by simp)
  cases hs : smallN v with
  | none =>
    have hq := smallNumber_fn gl v hvl
    rw [hs] at hq
    have fx :=  hH1
    have c1 := hq
    refine k_run ?_
    clear fx c1
    intro K hK
    refine x_pan (hx := by simp; first | done | exact ⟨rfl, rfl⟩) ?_
    exact ⟨[], .nil, ⟨_, _, rfl, .inl rfl⟩, by simp [rNum, hs]⟩
  | some n =>
    have hq := smallNumber_fn gl v hvl
    rw [hs] at hq
    have fx :=  hH1
    have c1 := hq
    refine k_run ?_
    clear fx c1
    refine e_ret [] .nil (by simp; rfl) ⟨n, vs, by simp [rNum, hs], by simp [numI0], by simp [hH1]⟩
theorem nextLine_fn (gl) {m : Int} (hgm : gl 5 = some [.sc (.int .i64 m)]) (H : Nm → Option AO) (ls : List Txt) (x : AV) (hls : ∀ v ∈ ls, v.length ≤ 1048577) (hH : H (.u 1 0 0) = some (.row 2 [[xsl ls, x]])) :
    FnE Tryz.prog gl 75 (Nm.under (.u 1 0 0)) [.pt (.u 1 0 0) 0] H (fun _ y H' => (ls = [] ∧ y = bv false) ∨ (∃ l ls', ls = l :: ls' ∧ y = bv true ∧ H' (.u 1 0 0) = some (rdW ls' (splitL 32 l)))) noE := by
  refine FnE.of_sem Tryz.func75 rfl (by kernel_rfl) (rs := [.tmp 2]) rfl Tryz.ntmps75 (Nat.le_of_ble_eq_true rfl) (fun _ => under_usroot rfl) fun C w g root hroot => ?_
  cases ls with
  | nil =>
    have fx :=  hH
    refine k_run ?_
    clear fx
    refine e_ret [] .nil (by simp; rfl) (.inl ⟨rfl, by simp⟩)
  | cons u us =>
    have hul := hls u (by simp)
    have hne : ((us.length : Int) + 1 == 0) = false := by simp; omega
    have h1 : (1 : Int) ≤ (us.length : Int) + 1 := by omega
    have hsp := split_at_fn gl hgm u 32 (by omega)
    have fx := And.intro hH <| And.intro hne <| h1
    have p1 := hsp
    refine k_runp ?_
    clear fx p1
    refine e_ret [] .nil (by simp; rfl) (.inr ⟨u, us, rfl, by simp, by simp⟩)
theorem ireader_fn (gl) {m : Int} (hgm : gl 5 = some [.sc (.int .i64 m)]) (s : Txt) (hs : s.length ≤ 1048576) :
    FnE Tryz.prog gl 74 noD [tx s] noH (fun r y H' => (splitL 10 s).getLast? = some [] ∧ y = .pt r 0 ∧ H' r = some (.row 2 [[xsl (splitL 10 s).dropLast, .hs (.c r 0 1) 1 0 0]])) (badQ ((splitL 10 s).getLast? ≠ some [])) := by
  have hsp := split_at_fn gl hgm s 10 (by omega)
  have hne := splitL_ne (c := 10) (l := s)
  have hlen := split_len (c := 10) (s := s)
  generalize splitL 10 s = L at hsp hne hlen ⊢
  obtain ⟨I, z, rfl⟩ : ∃ I z, L = I ++ [z] := ⟨L.dropLast, L.getLast hne, (List.dropLast_concat_getLast hne).symm⟩
  have hl1 : (I ++ [z]).length = I.length + 1 := by simp
  have hz : (I ++ [z])[I.length]? = some z := by simp
  have hw : IntKind.i64.wrap (I.length : Int) = I.length := wrp (by omega) (by omega)
  have hn1 : (I.length : Int) ≤ (I.length : Int) + 1 := by omega
  have hn0 : (0 : Int) ≤ (I.length : Int) := by omega
  refine FnE.of_sem Tryz.func74 rfl (by kernel_rfl) (rs := [.tmp 2]) rfl Tryz.ntmps74 (Nat.le_of_ble_eq_true rfl) (fun _ h => by cases h) fun C w g root hroot => ?_
  by_cases he : z = []
  · have hb : (z == []) = true := by simp [he]
    have fx := And.intro hl1 <| And.intro hz <| And.intro hw <| And.intro hb <| And.intro hn1 <| hn0
    have p1 := hsp
    refine k_runp ?_
    clear fx p1
    refine e_ret [(.s 2, root)] (.one rfl) (by simp; rfl) ⟨by simp [he], by simp, ?_⟩
    simp
  · have hb : (z == []) = false := by simpa using he
    have fx := And.intro hl1 <| And.intro hz <| And.intro hw <| And.intro hb <| And.intro hn1 <| hn0
    have p1 := hsp
    refine k_runp ?_
    clear fx p1
    intro K hK
    refine x_pan (hx := by simp; first | done | exact ⟨rfl, rfl⟩) ?_
    exact ⟨[], .nil, ⟨_, _, rfl, .inl rfl⟩, by simp [he]⟩
end Go.Proofs.YtmaoicgfcngciaaGreatDoor
end
section
namespace Go.Proofs.YtmaoicgfcngciaaGreatDoor
open Go Go.Hm Go.Proofs
attribute [local simp] slcAV
theorem rNum_tail {ws ws' : List Txt} {n : Nat} (h : rNum ws = some (n, ws')) : ∃ u, ws = u :: ws' := by
  cases ws with
  | nil => simp [rNum] at h
  | cons u l =>
    simp only [rNum] at h
    cases hs : smallN u with
    | none => rw [hs] at h; simp at h
    | some k => rw [hs] at h; simp at h; exact ⟨u, by rw [h.2]⟩
theorem rNum_le {ws ws' : List Txt} {n c : Nat} (h : rNum ws = some (n, ws')) (hw : ∀ v ∈ ws, v.length ≤ c) : ∀ v ∈ ws', v.length ≤ c := by
  obtain ⟨u, rfl⟩ := rNum_tail h
  exact fun v hv => hw v (by simp [hv])
theorem kindW_lt {v : Txt} {K : Nat} (h : kindW v = some K) : K < 12 := by
  unfold kindW at h
  have := (List.findIdx?_eq_some_iff_getElem.1 h).1
  exact this
theorem readStmt_fn (gl) (hgs : gl 1 = some ((vtx stmtW).map AV.sc)) (H : Nm → Option AO) (v : Txt) (ls ws : List Txt) (hws : ∀ v ∈ ws, v.length ≤ 1048577) (hH : H (.u 1 0 0) = some (rdW ls ws)) :
    FnE Tryz.prog gl 79 (Nm.under (.u 1 0 0)) [.pt (.u 1 0 0) 0, tx v] H (fun _ y H' => ∃ S ws', rStm v ws = some (S, ws') ∧ y = S.av ∧ H' (.u 1 0 0) = some (rdW ls ws')) (badQ (rStm v ws = none)) := by
  refine FnE.of_sem Tryz.func79 rfl (by kernel_rfl) (rs := [.cell 4 86]) rfl Tryz.ntmps79 (Nat.le_of_ble_eq_true rfl) (fun _ => under_usroot rfl) fun C w g root hroot => ?_
  have hq := kindOf_fn gl hgs v
  cases hk : kindW v with
  | none =>
    have hno : rStm v ws = none := by simp [rStm, hk]
    have hwi : wordI none = -1 := rfl
    rw [hk, hwi] at hq
    have fx :=  hH
    have c1 := hq
    refine k_run ?_
    clear fx c1
    intro K hK
    refine x_pan (hx := by simp; first | done | exact ⟨rfl, rfl⟩) ?_
    exact ⟨[], .nil, ⟨_, _, rfl, .inl rfl⟩, hno⟩
  | some c =>
    have hlt := kindW_lt hk
    have hwi : wordI (some c) = (c : Int) := rfl
    rw [hk, hwi] at hq
    have hcs : c = 0 ∨ c = 1 ∨ c = 2 ∨ c = 3 ∨ c = 4 ∨ c = 5 ∨ c = 6 ∨ c = 7 ∨ c = 8 ∨ c = 9 ∨ c = 10 ∨ c = 11 := by omega
    clear hlt
    rcases hcs with rfl | rfl | rfl | rfl | rfl | rfl | rfl | rfl | rfl | rfl | rfl | rfl
    · skip
      have fx :=  hH
      have c1 := hq
      refine k_run ?_
      clear fx c1
      intro K hK
      have fx := hH
      refine x_mutE (.u 1 0 0) rfl (by simp [hH]) (hF := number_rd _ _ ls ws hws (by simp [hH])) (hE := fun x s hx hq => ⟨[], .nil, hx.tr, by simp [rStm, hk, hq]⟩) (h := ?_)
      rintro y H1 ⟨n1, ws1, hn1, rfl, hH1⟩
      clear fx
      have fx := And.intro hH <| hH1
      have c1 := hq
      refine k_run ?_
      clear fx c1
      intro K hK
      have fx := And.intro hH <| hH1
      refine x_mutE (.u 1 0 0) rfl (by simp [hH, hH1]) (hF := number_rd _ _ ls ws1 (rNum_le hn1 hws) (by simp [hH, hH1])) (hE := fun x s hx hq => ⟨[], .nil, hx.tr, by simp [rStm, hk, hn1, hq]⟩) (h := ?_)
      rintro y H2 ⟨n2, ws2, hn2, rfl, hH2⟩
      clear fx
      have fx := And.intro hH <| And.intro hH1 <| hH2
      refine k_run ?_
      clear fx
      refine e_ret [] .nil (by simp; rfl) ⟨⟨0, n1, n2, 0⟩, ws2, by simp [rStm, hk, hn1, hn2], by simp, by simp [hH2]⟩
    · skip
      have fx :=  hH
      have c1 := hq
      refine k_run ?_
      clear fx c1
      intro K hK
      have fx := hH
      refine x_mutE (.u 1 0 0) rfl (by simp [hH]) (hF := number_rd _ _ ls ws hws (by simp [hH])) (hE := fun x s hx hq => ⟨[], .nil, hx.tr, by simp [rStm, hk, hq]⟩) (h := ?_)
      rintro y H1 ⟨n1, ws1, hn1, rfl, hH1⟩
      clear fx
      have fx := And.intro hH <| hH1
      have c1 := hq
      refine k_run ?_
      clear fx c1
      intro K hK
      have fx := And.intro hH <| hH1
      refine x_mutE (.u 1 0 0) rfl (by simp [hH, hH1]) (hF := number_rd _ _ ls ws1 (rNum_le hn1 hws) (by simp [hH, hH1])) (hE := fun x s hx hq => ⟨[], .nil, hx.tr, by simp [rStm, hk, hn1, hq]⟩) (h := ?_)
      rintro y H2 ⟨n2, ws2, hn2, rfl, hH2⟩
      clear fx
      have fx := And.intro hH <| And.intro hH1 <| hH2
      refine k_run ?_
      clear fx
      refine e_ret [] .nil (by simp; rfl) ⟨⟨1, n1, n2, 0⟩, ws2, by simp [rStm, hk, hn1, hn2], by simp, by simp [hH2]⟩
    · skip
      have fx :=  hH
      have c1 := hq
      refine k_run ?_
      clear fx c1
      intro K hK
      have fx := hH
      refine x_mutE (.u 1 0 0) rfl (by simp [hH]) (hF := number_rd _ _ ls ws hws (by simp [hH])) (hE := fun x s hx hq => ⟨[], .nil, hx.tr, by simp [rStm, hk, hq]⟩) (h := ?_)
      rintro y H1 ⟨n1, ws1, hn1, rfl, hH1⟩
      clear fx
      have fx := And.intro hH <| hH1
      have c1 := hq
      refine k_run ?_
      clear fx c1
      intro K hK
      have fx := And.intro hH <| hH1
      refine x_mutE (.u 1 0 0) rfl (by simp [hH, hH1]) (hF := number_rd _ _ ls ws1 (rNum_le hn1 hws) (by simp [hH, hH1])) (hE := fun x s hx hq => ⟨[], .nil, hx.tr, by simp [rStm, hk, hn1, hq]⟩) (h := ?_)
      rintro y H2 ⟨n2, ws2, hn2, rfl, hH2⟩
      clear fx
      have fx := And.intro hH <| And.intro hH1 <| hH2
      have c1 := hq
      refine k_run ?_
      clear fx c1
      intro K hK
      have fx := And.intro hH <| And.intro hH1 <| hH2
      refine x_mutE (.u 1 0 0) rfl (by simp [hH, hH1, hH2]) (hF := number_rd _ _ ls ws2 (rNum_le hn2 (rNum_le hn1 hws)) (by simp [hH, hH1, hH2])) (hE := fun x s hx hq => ⟨[], .nil, hx.tr, by simp [rStm, hk, hn1, hn2, hq]⟩) (h := ?_)
      rintro y H3 ⟨n3, ws3, hn3, rfl, hH3⟩
      clear fx
      have fx := And.intro hH <| And.intro hH1 <| And.intro hH2 <| hH3
      refine k_run ?_
      clear fx
      refine e_ret [] .nil (by simp; rfl) ⟨⟨2, n1, n2, n3⟩, ws3, by simp [rStm, hk, hn1, hn2, hn3], by simp, by simp [hH3]⟩
    · skip
      have fx :=  hH
      have c1 := hq
      refine k_run ?_
      clear fx c1
      intro K hK
      have fx := hH
      refine x_mutE (.u 1 0 0) rfl (by simp [hH]) (hF := number_rd _ _ ls ws hws (by simp [hH])) (hE := fun x s hx hq => ⟨[], .nil, hx.tr, by simp [rStm, hk, hq]⟩) (h := ?_)
      rintro y H1 ⟨n1, ws1, hn1, rfl, hH1⟩
      clear fx
      have fx := And.intro hH <| hH1
      have c1 := hq
      refine k_run ?_
      clear fx c1
      intro K hK
      have fx := And.intro hH <| hH1
      refine x_mutE (.u 1 0 0) rfl (by simp [hH, hH1]) (hF := number_rd _ _ ls ws1 (rNum_le hn1 hws) (by simp [hH, hH1])) (hE := fun x s hx hq => ⟨[], .nil, hx.tr, by simp [rStm, hk, hn1, hq]⟩) (h := ?_)
      rintro y H2 ⟨n2, ws2, hn2, rfl, hH2⟩
      clear fx
      have fx := And.intro hH <| And.intro hH1 <| hH2
      refine k_run ?_
      clear fx
      refine e_ret [] .nil (by simp; rfl) ⟨⟨3, n1, n2, 0⟩, ws2, by simp [rStm, hk, hn1, hn2], by simp, by simp [hH2]⟩
    · skip
      have fx :=  hH
      have c1 := hq
      refine k_run ?_
      clear fx c1
      intro K hK
      have fx := hH
      refine x_mutE (.u 1 0 0) rfl (by simp [hH]) (hF := number_rd _ _ ls ws hws (by simp [hH])) (hE := fun x s hx hq => ⟨[], .nil, hx.tr, by simp [rStm, hk, hq]⟩) (h := ?_)
      rintro y H1 ⟨n1, ws1, hn1, rfl, hH1⟩
      clear fx
      have fx := And.intro hH <| hH1
      have c1 := hq
      refine k_run ?_
      clear fx c1
      intro K hK
      have fx := And.intro hH <| hH1
      refine x_mutE (.u 1 0 0) rfl (by simp [hH, hH1]) (hF := number_rd _ _ ls ws1 (rNum_le hn1 hws) (by simp [hH, hH1])) (hE := fun x s hx hq => ⟨[], .nil, hx.tr, by simp [rStm, hk, hn1, hq]⟩) (h := ?_)
      rintro y H2 ⟨n2, ws2, hn2, rfl, hH2⟩
      clear fx
      have fx := And.intro hH <| And.intro hH1 <| hH2
      refine k_run ?_
      clear fx
      refine e_ret [] .nil (by simp; rfl) ⟨⟨4, n1, n2, 0⟩, ws2, by simp [rStm, hk, hn1, hn2], by simp, by simp [hH2]⟩
    · skip
      have fx :=  hH
      have c1 := hq
      refine k_run ?_
      clear fx c1
      intro K hK
      have fx := hH
      refine x_mutE (.u 1 0 0) rfl (by simp [hH]) (hF := number_rd _ _ ls ws hws (by simp [hH])) (hE := fun x s hx hq => ⟨[], .nil, hx.tr, by simp [rStm, hk, hq]⟩) (h := ?_)
      rintro y H1 ⟨n1, ws1, hn1, rfl, hH1⟩
      clear fx
      have fx := And.intro hH <| hH1
      have c1 := hq
      refine k_run ?_
      clear fx c1
      intro K hK
      have fx := And.intro hH <| hH1
      refine x_mutE (.u 1 0 0) rfl (by simp [hH, hH1]) (hF := number_rd _ _ ls ws1 (rNum_le hn1 hws) (by simp [hH, hH1])) (hE := fun x s hx hq => ⟨[], .nil, hx.tr, by simp [rStm, hk, hn1, hq]⟩) (h := ?_)
      rintro y H2 ⟨n2, ws2, hn2, rfl, hH2⟩
      clear fx
      have fx := And.intro hH <| And.intro hH1 <| hH2
      refine k_run ?_
      clear fx
      intro K hK
      have fx := And.intro hH <| And.intro hH1 <| hH2
      refine x_mut (.u 1 0 0) rfl (by simp [hH, hH1, hH2]) (hF := more_fn _ _ ls ws2 (by simp [hH, hH1, hH2])) (h := ?_)
      rintro y H3 ⟨rfl, hH3⟩
      clear fx
      cases ws2 with
      | nil =>
        have fx := And.intro hH <| And.intro hH1 <| And.intro hH2 <| hH3
        refine k_run ?_
        clear fx
        refine e_ret [] .nil (by simp; rfl) ⟨⟨5, n1, n2, -1⟩, [], by simp [rStm, hk, hn1, hn2], by simp, by simp [hH3]⟩
      | cons u us =>
        have fx := And.intro hH <| And.intro hH1 <| And.intro hH2 <| hH3
        refine k_run ?_
        clear fx
        intro K hK
        have fx := And.intro hH <| And.intro hH1 <| And.intro hH2 <| hH3
        refine x_mutE (.u 1 0 0) rfl (by simp [hH, hH1, hH2, hH3]) (hF := number_rd _ _ ls (u :: us) (rNum_le hn2 (rNum_le hn1 hws)) (by simp [hH, hH1, hH2, hH3])) (hE := fun x s hx hq => ⟨[], .nil, hx.tr, by simp [rStm, hk, hn1, hn2, hq]⟩) (h := ?_)
        rintro y H4 ⟨n3, ws3, hn3, rfl, hH4⟩
        clear fx
        have fx := And.intro hH <| And.intro hH1 <| And.intro hH2 <| And.intro hH3 <| hH4
        refine k_run ?_
        clear fx
        refine e_ret [] .nil (by simp; rfl) ⟨⟨5, n1, n2, n3⟩, ws3, by simp [rStm, hk, hn1, hn2, hn3], by simp, by simp [hH4]⟩
    · skip
      have fx :=  hH
      have c1 := hq
      refine k_run ?_
      clear fx c1
      intro K hK
      have fx := hH
      refine x_mutE (.u 1 0 0) rfl (by simp [hH]) (hF := number_rd _ _ ls ws hws (by simp [hH])) (hE := fun x s hx hq => ⟨[], .nil, hx.tr, by simp [rStm, hk, hq]⟩) (h := ?_)
      rintro y H1 ⟨n1, ws1, hn1, rfl, hH1⟩
      clear fx
      have fx := And.intro hH <| hH1
      have c1 := hq
      refine k_run ?_
      clear fx c1
      intro K hK
      have fx := And.intro hH <| hH1
      refine x_mutE (.u 1 0 0) rfl (by simp [hH, hH1]) (hF := number_rd _ _ ls ws1 (rNum_le hn1 hws) (by simp [hH, hH1])) (hE := fun x s hx hq => ⟨[], .nil, hx.tr, by simp [rStm, hk, hn1, hq]⟩) (h := ?_)
      rintro y H2 ⟨n2, ws2, hn2, rfl, hH2⟩
      clear fx
      have fx := And.intro hH <| And.intro hH1 <| hH2
      have c1 := hq
      refine k_run ?_
      clear fx c1
      intro K hK
      have fx := And.intro hH <| And.intro hH1 <| hH2
      refine x_mutE (.u 1 0 0) rfl (by simp [hH, hH1, hH2]) (hF := number_rd _ _ ls ws2 (rNum_le hn2 (rNum_le hn1 hws)) (by simp [hH, hH1, hH2])) (hE := fun x s hx hq => ⟨[], .nil, hx.tr, by simp [rStm, hk, hn1, hn2, hq]⟩) (h := ?_)
      rintro y H3 ⟨n3, ws3, hn3, rfl, hH3⟩
      clear fx
      have fx := And.intro hH <| And.intro hH1 <| And.intro hH2 <| hH3
      refine k_run ?_
      clear fx
      refine e_ret [] .nil (by simp; rfl) ⟨⟨6, n1, n2, n3⟩, ws3, by simp [rStm, hk, hn1, hn2, hn3], by simp, by simp [hH3]⟩
    · skip
      have fx :=  hH
      have c1 := hq
      refine k_run ?_
      clear fx c1
      intro K hK
      have fx := hH
      refine x_mutE (.u 1 0 0) rfl (by simp [hH]) (hF := number_rd _ _ ls ws hws (by simp [hH])) (hE := fun x s hx hq => ⟨[], .nil, hx.tr, by simp [rStm, hk, hq]⟩) (h := ?_)
      rintro y H1 ⟨n1, ws1, hn1, rfl, hH1⟩
      clear fx
      have fx := And.intro hH <| hH1
      refine k_run ?_
      clear fx
      refine e_ret [] .nil (by simp; rfl) ⟨⟨7, 0, n1, 0⟩, ws1, by simp [rStm, hk, hn1], by simp, by simp [hH1]⟩
    · skip
      have fx :=  hH
      have c1 := hq
      refine k_run ?_
      clear fx c1
      intro K hK
      have fx := hH
      refine x_mutE (.u 1 0 0) rfl (by simp [hH]) (hF := number_rd _ _ ls ws hws (by simp [hH])) (hE := fun x s hx hq => ⟨[], .nil, hx.tr, by simp [rStm, hk, hq]⟩) (h := ?_)
      rintro y H1 ⟨n1, ws1, hn1, rfl, hH1⟩
      clear fx
      have fx := And.intro hH <| hH1
      refine k_run ?_
      clear fx
      refine e_ret [] .nil (by simp; rfl) ⟨⟨8, 0, n1, 0⟩, ws1, by simp [rStm, hk, hn1], by simp, by simp [hH1]⟩
    · skip
      have fx :=  hH
      have c1 := hq
      refine k_run ?_
      clear fx c1
      intro K hK
      have fx := hH
      refine x_mutE (.u 1 0 0) rfl (by simp [hH]) (hF := number_rd _ _ ls ws hws (by simp [hH])) (hE := fun x s hx hq => ⟨[], .nil, hx.tr, by simp [rStm, hk, hq]⟩) (h := ?_)
      rintro y H1 ⟨n1, ws1, hn1, rfl, hH1⟩
      clear fx
      have fx := And.intro hH <| hH1
      refine k_run ?_
      clear fx
      refine e_ret [] .nil (by simp; rfl) ⟨⟨9, n1, 0, 0⟩, ws1, by simp [rStm, hk, hn1], by simp, by simp [hH1]⟩
    · skip
      have fx :=  hH
      have c1 := hq
      refine k_run ?_
      clear fx c1
      intro K hK
      have fx := hH
      refine x_mutE (.u 1 0 0) rfl (by simp [hH]) (hF := number_rd _ _ ls ws hws (by simp [hH])) (hE := fun x s hx hq => ⟨[], .nil, hx.tr, by simp [rStm, hk, hq]⟩) (h := ?_)
      rintro y H1 ⟨n1, ws1, hn1, rfl, hH1⟩
      clear fx
      have fx := And.intro hH <| hH1
      refine k_run ?_
      clear fx
      refine e_ret [] .nil (by simp; rfl) ⟨⟨10, n1, 0, 0⟩, ws1, by simp [rStm, hk, hn1], by simp, by simp [hH1]⟩
    · skip
      have fx :=  hH
      have c1 := hq
      refine k_run ?_
      clear fx c1
      intro K hK
      have fx := hH
      refine x_mutE (.u 1 0 0) rfl (by simp [hH]) (hF := number_rd _ _ ls ws hws (by simp [hH])) (hE := fun x s hx hq => ⟨[], .nil, hx.tr, by simp [rStm, hk, hq]⟩) (h := ?_)
      rintro y H1 ⟨n1, ws1, hn1, rfl, hH1⟩
      clear fx
      have fx := And.intro hH <| hH1
      refine k_run ?_
      clear fx
      refine e_ret [] .nil (by simp; rfl) ⟨⟨11, n1, 0, 0⟩, ws1, by simp [rStm, hk, hn1], by simp, by simp [hH1]⟩
end Go.Proofs.YtmaoicgfcngciaaGreatDoor
end
