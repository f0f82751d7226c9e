/-
  Own texts, joined by mkclaim.py: Hg, Hh, Hi, Hj, Hk, Ue, Hp, Ta, Tb.
-/
import Derived.Test.YtmaoicgfcngciaaGreatDoorY19
import Derived.RangeFuncFrom
import Derived.RangeFuncNested
import Derived.RangeFuncBound
import Derived.RangeFuncCalls
import Derived.RangeFuncLeaves
import Derived.Shelf.Abstract
import Derived.Shelf.RegionOpen
import Derived.WalkKit
import Derived.OwnWalkIn
import Derived.TacticsInMore
import Derived.LoopNIn
import Derived.LoopIn
import Derived.Test.YtmaoicgfcngciaaGreatDoorY12
import Derived.Test.YtmaoicgfcngciaaGreatDoorY17
import Derived.Test.YtmaoicgfcngciaaGreatDoorY10
set_option linter.unusedSimpArgs false
set_option linter.unusedVariables false
set_option maxRecDepth 100000
set_option maxHeartbeats 4000000

section
namespace Go.Proofs.YtmaoicgfcngciaaGreatDoor
open Go Go.Hm Go.Proofs
theorem declares_fn (gl) (i : Nat) (k : Blk) (o : AV) (ps : List Int) (x : Nat) (hx : x < 8) : FnOk Tryz.prog gl 109 [.el (scopeRow i k o ps) 0, iv x] (fun _ y _ => y = bv (decide ((x : Int) ∈ k.dc 9) || decide ((x : Int) ∈ k.dc 10))) := by
  have h8 : (x : Int) < 8 := by omega
  have hg := scopeRow_g (i := i) (k := k) (o := o) (ps := ps) hx
  have hn := scopeRow_n (i := i) (k := k) (o := o) (ps := ps) hx
  refine FnOk.of_sem Tryz.func109 rfl (by kernel_rfl) (rs := [.tmp 4]) rfl Tryz.ntmps109 (Nat.le_of_ble_eq_true rfl) fun C w g root => ?_
  all_goals have fx := And.intro h8 <| And.intro hg <| hn
  repeat' (first
   | refine w_seq ?_ | refine w_reg fun K hK => ?_
   | ((with_reducible refine s_end hK ?_); clear hK K)
   | (with_reducible first | refine then_normal ?_)
   | refine w_ret ?_
   | (with_reducible refine s_none ?_)
   | ((with_reducible refine g_id ?_); refine x_guard (h := ?_))
   | (with_reducible first | refine gx_ff ?_ | refine x_ft (h := ?_) | refine x_assign (h := ?_))
   | (with_reducible refine x_q (h := ?_))
   | (with_reducible refine gx_s (fun ht => ?_) (fun ht => ?_))
   | fail)
  all_goals try clear fx
  all_goals refine e_ret [] .nil (by simp; rfl) ?_
  all_goals simp_all
theorem scope_isLocal_fn (gl) (i : Nat) (k : Blk) (o : AV) (ps : List Int) (x : Nat) (hx : x < 8) : FnOk Tryz.prog gl 156 [.el (scopeRow i k o ps) 0, iv x] (fun _ y _ => y = bv (k.kind != 0 && decide ((x : Int) ∈ k.bd) && !(decide ((x : Int) ∈ k.dc 9) || decide ((x : Int) ∈ k.dc 10)))) := by
  have h8 : (x : Int) < 8 := by omega
  have hb := scopeRow_b (i := i) (k := k) (o := o) (ps := ps) hx
  refine FnOk.of_sem Tryz.func156 rfl (by kernel_rfl) (rs := [.tmp 4]) rfl Tryz.ntmps156 (Nat.le_of_ble_eq_true rfl) fun C w g root => ?_
  all_goals have fx := And.intro h8 <| hb
  repeat' (first
   | refine w_seq ?_ | refine w_reg fun K hK => ?_
   | ((with_reducible refine s_end hK ?_); clear hK K)
   | (with_reducible first | refine then_normal ?_)
   | refine w_ret ?_
   | (with_reducible refine s_none ?_)
   | ((with_reducible refine g_id ?_); refine x_guard (h := ?_))
   | (with_reducible first | refine gx_tt ?_ | refine x_tf (h := ?_) | refine x_assign (h := ?_))
   | ((with_reducible refine o_id 109 rfl ?_); refine x_call (hF := declares_fn _ _ _ _ _ _ hx) (h := ?_))
   | (with_reducible refine x_q (h := ?_))
   | (with_reducible refine gx_s (fun ht => ?_) (fun ht => ?_))
   | fail)
  all_goals try clear fx
  all_goals refine e_ret [] .nil (by simp; rfl) ?_
  all_goals simp_all
theorem uses_fn (gl) (i : Nat) (k : Blk) (o : AV) (ps : List Int) (x : Nat) (hx : x < 8) : FnOk Tryz.prog gl 159 [.el (scopeRow i k o ps) 0, iv x] (fun _ y _ => y = bv (decide ((x : Int) ∈ k.rd) || decide ((x : Int) ∈ k.bd) || (decide ((x : Int) ∈ k.dc 9) || decide ((x : Int) ∈ k.dc 10)))) := by
  have h8 : (x : Int) < 8 := by omega
  have hb := scopeRow_b (i := i) (k := k) (o := o) (ps := ps) hx
  have hr := scopeRow_r (i := i) (k := k) (o := o) (ps := ps) hx
  refine FnOk.of_sem Tryz.func159 rfl (by kernel_rfl) (rs := [.tmp 4]) rfl Tryz.ntmps159 (Nat.le_of_ble_eq_true rfl) fun C w g root => ?_
  all_goals have fx := And.intro h8 <| And.intro hb <| hr
  repeat' (first
   | refine w_seq ?_ | refine w_reg fun K hK => ?_
   | ((with_reducible refine s_end hK ?_); clear hK K)
   | (with_reducible first | refine then_normal ?_)
   | refine w_ret ?_
   | (with_reducible refine s_none ?_)
   | ((with_reducible refine g_id ?_); refine x_guard (h := ?_))
   | (with_reducible first | refine gx_ff ?_ | refine x_ft (h := ?_) | refine x_assign (h := ?_))
   | ((with_reducible refine o_id 109 rfl ?_); refine x_call (hF := declares_fn _ _ _ _ _ _ hx) (h := ?_))
   | (with_reducible refine x_q (h := ?_))
   | (with_reducible refine gx_s (fun ht => ?_) (fun ht => ?_))
   | fail)
  all_goals try clear fx
  all_goals refine e_ret [] .nil (by simp; rfl) ?_
  all_goals simp_all
end Go.Proofs.YtmaoicgfcngciaaGreatDoor
end
section
namespace Go.Proofs.YtmaoicgfcngciaaGreatDoor
open Go Go.Hm Go.Proofs Go.RowKit Go.Shelf
attribute [local go_sem] Oper.semAt_some
abbrev FnAt (g : Gh) (w0 : World) (p : Prg) := { a : Option Addr × Nat // ∃ q, p[a.2]? = some q ∧ q.kind = 1 ∧ RV g w0 (.pointer a.1) (scopeA p a.2) }
def lft (v : Value) (W : World) : Nat := match v with
  | .pointer (some a) => (match W.cell? a with | some (.int _ j) => j.toNat + 1 | _ => 0)
  | _ => 0
theorem iter_in (n l Bn : Nat) (p : Prg) (hh : Heads p) (g : Gh) (w0 : World) (hC : ∀ b, g.C b → b < w0.heap.size) (j0 : Nat) (k0 : Blk) (hk0 : p[j0]? = some k0) (a0 : Option Addr) (ha0 : RV g w0 (.pointer a0) (scopeA p j0)) (J Jx : List (FnAt g w0 p) → World → Prop) (hn : 1 ≤ n)
    (hY : ∀ pre x W, J pre W → pre.length < p.length → YieldAt Fence.wide (n - 1) Tryz.prog l #[.pointer x.1.1] W fun e W' =>
      (e = .returned (.bool true) ∧ J (pre ++ [x]) W' ∧ Below w0.heap.size W W') ∨ (e = .returned (.bool false) ∧ Jx (pre ++ [x]) W'))
    (W : World) (hW : Below w0.heap.size w0 W) (hBn : W.cell? ⟨Bn, 0, none⟩ = some (.pointer a0)) (h0 : J [] W) :
    CallsIn Fence.wide n Tryz.prog 182 #[.func (.yield l) #[] #[], .pointer (some ⟨Bn, 0, none⟩)] W fun e W' => (∃ v, e = .returned v) ∧
      ((∃ ys, (∃ j, j < 0 ∧ Path p k0.parent (ys.map (fun y : FnAt g w0 p => y.1.2)) j) ∧ J ys W') ∨ (∃ pre, (∃ j, Path p k0.parent (pre.map (fun y : FnAt g w0 p => y.1.2)) j) ∧ Jx pre W')) := by
  obtain ⟨b0, o0, hb0, hs0⟩ := ha0.scAt hh hk0
  obtain rfl : a0 = some ⟨b0, o0, none⟩ := by simpa using hb0
  obtain ⟨a1, hc1, hr1⟩ := hs0.out
  have hc1' : W.cell? ⟨b0, o0 + 2, none⟩ = some (.pointer a1) := (hW.cell (p := ⟨b0, o0 + 2, none⟩) (hC b0 hs0.C)).trans hc1
  refine callsIn_of_wp Tryz.func182 rfl trivial ?_ rfl
  simp only [Tryz.ntmps182, List.size_toArray, List.length_cons, List.length_nil, Nat.reduceAdd, Nat.reduceSub, Array.replicate_succ, Array.replicate_zero, List.push_toArray, List.append_toArray, List.nil_append, List.cons_append]
  gi_wp2
  gi_loopw [3] (fun v wr => ∃ (pre : List (FnAt g w0 p)) (j : Int), RV g w0 v (scopeA p j) ∧ (-1 ≤ j ∧ j < p.length) ∧ Path p k0.parent (pre.map (fun y : FnAt g w0 p => y.1.2)) j ∧ J pre wr ∧ Below w0.heap.size w0 wr) (fun v wr => lft v wr)
  case atStart =>
    have h1 := hh j0 k0 hk0
    have h2 := (gS hk0).1
    exact ⟨[], k0.parent, hr1, by omega, .nil _, h0, hW⟩
  case round =>
    obtain ⟨pre, j, hr, hj, hpath, hJ, hB⟩ := hrel
    by_cases hneg : j < 0
    · obtain rfl := hr.scNil hneg
      gi_wp2
      go_end0
      exact ⟨⟨_, rfl⟩, .inl ⟨pre, ⟨j, hneg, hpath⟩, hJ⟩⟩
    · obtain ⟨j, rfl⟩ : ∃ i : Nat, j = i := ⟨j.toNat, by omega⟩
      obtain ⟨k, hk⟩ : ∃ k, p[j]? = some k := ⟨_, gE (by omega)⟩
      obtain ⟨b, o, rfl, hs⟩ := hr.scAt hh hk
      have hb := hC b hs.C
      obtain ⟨a2, hc2, hr2⟩ := hs.out
      obtain ⟨hp1, hp2, _⟩ := hh j k hk
      have hv1 : wr.cell? ⟨b, o + 1, none⟩ = some (.int .i64 k.kind) := (hB.cell (p := ⟨b, o + 1, none⟩) hb).trans hs.kind
      have hv0 : wr.cell? ⟨b, o, none⟩ = some (.int .i64 j) := (hB.cell (p := ⟨b, o, none⟩) hb).trans hs.idx
      have hv2 : wr.cell? ⟨b, o + 2, none⟩ = some (.pointer a2) := (hB.cell (p := ⟨b, o + 2, none⟩) hb).trans hc2
      have hlf : ∀ W', Below w0.heap.size w0 W' → lft (.pointer a2) W' < lft (.pointer (some ⟨b, o, none⟩)) wr := by
        intro W' hB'
        have e : lft (.pointer (some ⟨b, o, none⟩)) wr = j + 1 := by simp [lft, hv0]
        rw [e]
        by_cases hn : k.parent < 0
        · have : (Value.pointer a2) = .pointer none := hr2.scNil hn
          obtain rfl : a2 = none := by simpa using this
          simp [lft]
        · obtain ⟨q, hq⟩ : ∃ q : Nat, k.parent = q := ⟨k.parent.toNat, by omega⟩
          obtain ⟨r, hqr⟩ : ∃ r, p[q]? = some r := ⟨_, gE (by omega)⟩
          rw [hq] at hr2
          obtain ⟨b', o', e', hs'⟩ := hr2.scAt hh hqr
          obtain rfl : a2 = some ⟨b', o', none⟩ := by simpa using e'
          have hb' := hC b' hs'.C
          have : W'.cell? ⟨b', o', none⟩ = some (.int .i64 q) := (hB'.cell (p := ⟨b', o', none⟩) hb').trans hs'.idx
          simp [lft, this]
          omega
      by_cases hk1 : k.kind = 1
      · rw [hk1] at hv1
        have hlen := hpath.len hh
        have hjj := (gS hk0).1
        have hpp := (hh j0 k0 hk0).2.1
        simp only [List.length_map] at hlen
        obtain ⟨fn, tmps, assign, body, hy, hR⟩ := hY pre ⟨(some ⟨b, o, none⟩, j), k, hk, hk1, hr⟩ wr hJ (by omega)
        dsimp only at hy
        gi_wp2
        refine hR.mono ?_
        rintro e W3 (⟨rfl, hJ3, hk3⟩ | ⟨rfl, hJx3⟩)
        · have hB3 := hB.trans hk3
          have hq3 : W3.cell? ⟨b, o + 2, none⟩ = some (.pointer a2) := (hB3.cell (p := ⟨b, o + 2, none⟩) hb).trans hc2
          gi_wp2
          go_roundw
          case rel => exact ⟨_, k.parent, hr2, by omega, by simpa using hpath.stepR hk hk1, hJ3, hB3⟩
          case measure => exact hlf _ hB3
        · gi_wp2
          refine bodyPost_ret (results_none rfl _ _ _) rfl ?_
          exact ⟨⟨_, rfl⟩, .inr ⟨_, ⟨k.parent, by simpa using hpath.stepR hk hk1⟩, hJx3⟩⟩
      · have hk2 : (k.kind == 1) = false := by simpa using hk1
        gi_wp2
        refine ⟨fun _ h => (by cases h), ?_⟩
        gi_wp2
        go_roundw
        case rel => exact ⟨_, k.parent, hr2, by omega, hpath.skipR hk hk1, hJ, hB⟩
        case measure => exact hlf _ hB
theorem iter_stops (n Bn : Nat) (p : Prg) (hh : Heads p) (g : Gh) (w0 w : World) (hC : ∀ b, g.C b → b < w0.heap.size) (j0 : Nat) (k0 : Blk) (hk0 : p[j0]? = some k0) (a0 : Option Addr) (ha0 : RV g w0 (.pointer a0) (scopeA p j0)) (hn : 1 ≤ n)
    (hw : Below w0.heap.size w0 w) (hBl : Bn < w.heap.size) (hc : w.cell? ⟨Bn, 0, none⟩ = some (.pointer a0)) :
    SeqStopsK Fence.wide n Tryz.prog 182 #[.pointer (some ⟨Bn, 0, none⟩)] (fun x : FnAt g w0 p => #[Value.pointer x.1.1]) (Below w0.heap.size)
      (fun ys => ∃ j, j < 0 ∧ Path p k0.parent (ys.map (fun y : FnAt g w0 p => y.1.2)) j) (fun pre => ∃ j, Path p k0.parent (pre.map (fun y : FnAt g w0 p => y.1.2)) j) p.length w := fun l J Jx W hW _ _ hY h0 =>
  iter_in n l Bn p hh g w0 hC j0 k0 hk0 a0 ha0 J Jx hn hY W (hw.trans (hW.mono hw.size)) ((hW.cell (p := ⟨Bn, 0, none⟩) hBl).trans hc) h0
theorem functionsOutside_in (n : Nat) (a0 : Option Addr) (w : World) :
    CallsIn Fence.wide n Tryz.prog 155 #[.pointer a0] w fun e w' => e = .returned (.func (.func 182) #[] #[.pointer (some ⟨w.heap.size, 0, none⟩)]) ∧ w' = w.alloc (.cells #[.pointer a0] 91) := by
  refine callsIn_of_wp Tryz.func155 rfl trivial ?_ rfl
  simp only [Tryz.ntmps155, List.size_toArray, List.length_cons, List.length_nil, Nat.reduceAdd, Nat.reduceSub, Array.replicate_succ, Array.replicate_zero, List.push_toArray, List.append_toArray, List.nil_append, List.cons_append]
  gi_wp2
  go_ret
  exact ⟨rfl, rfl⟩
end Go.Proofs.YtmaoicgfcngciaaGreatDoor
end
section
namespace Go.Proofs.YtmaoicgfcngciaaGreatDoor
open Go Go.Hm Go.Proofs Go.RowKit Go.Shelf
attribute [local go_sem] Oper.semAt_some
theorem cell_of_box {W : World} {B : Nat} {v : Value} {t : TypeId} (h : W.heap[B]? = some (.cells #[v] t (0, 0))) : W.cell? ⟨B, 0, none⟩ = some v ∧ W.frozen? ⟨B, 0, none⟩ = false := by
  constructor <;> simp [World.cell?, World.frozen?, h]
theorem cell_new' (W : World) (v : Value) (t : TypeId) : (W.alloc (.cells #[v] t)).cell? ⟨W.heap.size, 0, none⟩ = some v ∧ (W.alloc (.cells #[v] t)).frozen? ⟨W.heap.size, 0, none⟩ = false := cell_of_box (World.alloc_heap_new W _)
theorem cell_alloc' {W : World} {a : Addr} {v : Value} (o : Obj) (h : W.cell? a = some v) : (W.alloc o).cell? a = some v := cell_kept h (World.grownBy_alloc W o none) (fun r e => by cases e)
theorem frozen_alloc' {W : World} {a : Addr} {v : Value} (o : Obj) (h : W.cell? a = some v) (hf : W.frozen? a = false) : (W.alloc o).frozen? a = false := (frozen_kept h (World.grownBy_alloc W o none) (fun r e => by cases e)).trans hf
theorem outerOwner_in (n : Nat) (hn : 3 ≤ n) (p : Prg) (hh : Heads p) (hb0 : ∀ k, p[0]? = some k → k.kind ≠ 1) (g : Gh) (w : World) (hC : ∀ b, g.C b → b < w.heap.size) (i : Nat) (k : Blk) (hk : p[i]? = some k) (a0 : Option Addr) (ha : RV g w (.pointer a0) (scopeA p i)) (x : Nat) (hx : x < 8) :
    CallsIn Fence.wide n Tryz.prog 110 #[.pointer a0, .int .i64 x] w fun e W' => e = .returned (.int .i64 (outerF p x p.length k.parent)) ∧ Below w.heap.size w W' := by
  have h1 : 1 ≤ n := by omega
  refine callsIn_of_wp_marks Tryz.func110 rfl trivial ?_ rfl
  simp only [Tryz.ntmps110, List.size_toArray, List.length_cons, List.length_nil, Nat.reduceAdd, Nat.reduceSub, Array.replicate_succ, Array.replicate_zero, List.push_toArray, List.append_toArray, List.nil_append, List.cons_append]
  gi_wp2_with (refine ⟨trivial, ?_⟩; gi_at_call 155; refine (functionsOutside_in (n - 1) _ _).mono ?_; rintro e w' ⟨rfl, rfl⟩)
  have c0 := cell_new' w (.int .i64 x) 3
  have c1 := cell_new' (w.alloc (.cells #[.int .i64 x] 3)) (.int .i64 0) 3
  have c2 := cell_new' ((w.alloc (.cells #[.int .i64 x] 3)).alloc (.cells #[.int .i64 0] 3)) (.pointer a0) 91
  simp only [World.size_alloc] at c1 c2
  have hB0 : Below w.heap.size w (((w.alloc (.cells #[.int .i64 x] 3)).alloc (.cells #[.int .i64 0] 3)).alloc (.cells #[.pointer a0] 91)) := (((Below.refl _ w).alloc (Nat.le_refl _) _).alloc (by simp) _).alloc (by simp; omega) _
  refine wpIn_rangeFunc_ownF rfl h1 (gf := 182) (lb := #[.pointer (some ⟨w.heap.size + 1 + 1, 0, none⟩)]) rfl trivial (enters_of Tryz.func182 (by kernel_rfl) rfl)
    (iter_stops (n - 1) (w.heap.size + 1 + 1) p hh g w _ hC i k hk a0 ha (by omega) hB0 (by simp) c2.1) belowK_t (belowK_b (by simp; omega)) (Below.refl _ _) (fun _ => rfl)
    (fun pre W => ((∀ y ∈ pre, found p x y.1.2 = none) ∧ W.cell? ⟨w.heap.size, 0, none⟩ = some (.int .i64 x) ∧ W.cell? ⟨w.heap.size + 1, 0, none⟩ = some (.int .i64 0) ∧ W.frozen? ⟨w.heap.size + 1, 0, none⟩ = false) ∧ Below w.heap.size w W)
    (fun c pre W => (c = .ret ∧ (∃ l y r, pre = l ++ [y] ∧ (∀ y ∈ l, found p x y.1.2 = none) ∧ found p x y.1.2 = some r ∧ W.cell? ⟨w.heap.size + 1, 0, none⟩ = some (.int .i64 r))) ∧ Below w.heap.size w W)
    (OwnFrom.and (Own.from (fun s A B row hs hg hr => ⟨hs.1, cell_kept hs.2.1 hg hr, cell_kept hs.2.2.1 hg hr, (frozen_kept hs.2.2.1 hg hr).trans hs.2.2.2⟩) _) (ownFrom_below (Nat.le_refl _) (by simp; omega)))
    (fun c => OwnFrom.and (Own.from (fun s A B row hs hg hr => ⟨hs.1, by obtain ⟨l, y, r, e1, e2, e3, e4⟩ := hs.2; exact ⟨l, y, r, e1, e2, e3, cell_kept e4 hg hr⟩⟩) _) (ownFrom_below (Nat.le_refl _) (by simp; omega)))
    ⟨⟨by simp, cell_alloc' _ (cell_alloc' _ c0.1), cell_alloc' _ c1.1, frozen_alloc' _ c1.1 c1.2⟩, hB0⟩
    (fun y => { tmps := #[.pointer a0, .int .i64 x, undef, .pointer (some ⟨w.heap.size, 0, none⟩), .pointer (some ⟨w.heap.size + 1, 0, none⟩), .pointer y.1.1, .pointer a0, .func (.func 182) #[] #[.pointer (some ⟨w.heap.size + 1 + 1, 0, none⟩)], .pointer y.1.1, undef, undef, undef, undef, undef, undef, undef, undef, undef, undef, undef, undef, undef], defers := [] }) ?assign ?body ?done ?stop
  case assign =>
    intro l y W K hK
    gi_wp2
    exact hK
  case body =>
    rintro l pre ⟨⟨ay, j⟩, q, hq, hq1, hr⟩ W ⟨⟨hp, hcx, hcr, hfr⟩, hB⟩ _
    dsimp only at hq hr ⊢
    obtain ⟨b, o, rfl, hs⟩ : ∃ b o, ay = some ⟨b, o, none⟩ ∧ ScAt g w p j q b o := by
      obtain ⟨b, o, e, h⟩ := hr.scAt hh hq
      exact ⟨b, o, by simpa using e, h⟩
    have hb := hC b hs.C
    have hg : W.cell? ⟨b, o + (27 + x), none⟩ = some (.bool (decide ((x : Int) ∈ q.dc 9))) := (hB.cell (p := ⟨b, o + (27 + x), none⟩) hb).trans (hs.glob x hx)
    have hidx : W.cell? ⟨b, o, none⟩ = some (.int .i64 j) := (hB.cell (p := ⟨b, o, none⟩) hb).trans hs.idx
    have h8 : (x : Int) < 8 := by omega
    have hg2 : W.cell? ⟨b, o + 27 + x, none⟩ = some (.bool (decide ((x : Int) ∈ q.dc 9))) := by rw [Nat.add_assoc]; exact hg
    have hmx : Tryz.prog.follows .mixedOrders = true := by kernel_rfl
    have hj0 : 0 < j := by
      rcases Nat.eq_zero_or_pos j with rfl | h
      · exact absurd hq1 (hb0 q hq)
      · exact h
    have hcall : ∀ W', Below w.heap.size w W' → Calls Tryz.prog 156 #[.pointer (some ⟨b, o, none⟩), .int .i64 x] W' fun e W'' => e = .returned (.bool (isLocal j q x)) ∧ Below W'.heap.size W' W'' := by
      intro W' hB'
      have hF := scope_isLocal_fn (fun _ => none) j q (scopeA p q.parent) q.params x hx
      have e : (q.kind != 0 && decide ((x : Int) ∈ q.bd) && !(decide ((x : Int) ∈ q.dc 9) || decide ((x : Int) ∈ q.dc 10))) = isLocal j q x := by
        simp [isLocal, hq1, hj0, Bool.and_assoc]
      rw [e] at hF
      refine FnOk.raw hF (g := g) (fun b hb => Nat.lt_of_lt_of_le (hC b hb) hB'.size) rfl ?_
      intro a v y hv hy
      match a, hv, hy with
      | 0, hv, hy =>
        obtain rfl := Option.some.inj hv
        obtain rfl := Option.some.inj hy
        have := hr.keepB hC hB'
        rwa [scopeA_eq hh hq] at this
      | 1, hv, hy =>
        obtain rfl := Option.some.inj hv
        obtain rfl := Option.some.inj hy
        exact .sc _
      | a + 2, hv, _ => simp at hv
    have hBd : Below w.heap.size w W.drew := ⟨hB.os, hB.tape, hB.output, hB.size, hB.block⟩
    have hbW : b < W.drew.heap.size := Nat.lt_of_lt_of_le hb hB.size
    have hrW : w.heap.size + 1 < W.drew.heap.size := by
      refine Nat.lt_of_not_le fun hge => ?_
      have : W.heap[w.heap.size + 1]? = none := Array.getElem?_eq_none hge
      simp [World.cell?, this] at hcr
    have hko : ∀ w3, Below W.drew.heap.size W.drew w3 → KeepsOthers W w3 := fun w3 h => ⟨h.size, fun k o hk _ => (h.block k (Array.getElem?_eq_some_iff.1 hk).1).trans hk⟩
    have hfd : found p x j = if (x : Int) ∈ q.dc 9 then some (-1) else if isLocal j q x then some (j : Int) else none := by simp only [found, hq]
    by_cases hm : (x : Int) ∈ q.dc 9
    · rw [decide_eq_true hm] at hg hg2
      rw [if_pos hm] at hfd
      gi_wp2
      gi_region_o
      all_goals gi_wp2
      all_goals exact ⟨(KeepsOthers.drew W).trans (KeepsOthers.setCell _ _ _), ⟨rfl, pre, ⟨(some ⟨b, o, none⟩, j), q, hq, hq1, hr⟩, -1, rfl, hp, hfd, World.cell?_setCell_same' _ _ _ (by rw [hcr]; rfl)⟩, hBd.setCell (p := ⟨w.heap.size + 1, 0, none⟩) (by simp) _⟩
    · rw [decide_eq_false hm] at hg hg2
      rw [if_neg hm] at hfd
      cases hl : isLocal j q x with
      | true =>
        rw [hl] at hcall
        rw [if_pos hl] at hfd
        gi_wp2
        gi_region_o
        all_goals gi_wp2_with (refine ⟨trivial, fun _ => by omega, ?_⟩; refine (CallsIn.inRound l (callsIn_wide.2 (hcall _ hBd))).mono ?_; rintro e w3 ⟨rfl, hbw⟩; have hi3 := (hbw.cell (p := ⟨b, o, none⟩) hbW).trans hidx; have hc3 := (hbw.cell (p := ⟨w.heap.size + 1, 0, none⟩) hrW).trans hcr; have hf3 := (hbw.frozen (p := ⟨w.heap.size + 1, 0, none⟩) hrW).trans hfr)
        all_goals exact ⟨(hko _ (by assumption)).trans (KeepsOthers.setCell _ _ _), ⟨rfl, pre, ⟨(some ⟨b, o, none⟩, j), q, hq, hq1, hr⟩, (j : Int), rfl, hp, hfd, World.cell?_setCell_same' _ _ _ (by rw [hc3]; rfl)⟩, (hBd.trans (Below.mono (by assumption) hBd.size)).setCell (p := ⟨w.heap.size + 1, 0, none⟩) (by simp) _⟩
      | false =>
        rw [hl] at hcall
        rw [if_neg (by rw [hl]; decide)] at hfd
        gi_wp2
        gi_region_o
        all_goals gi_wp2_with (refine ⟨trivial, fun _ => by omega, ?_⟩; refine (CallsIn.inRound l (callsIn_wide.2 (hcall _ hBd))).mono ?_; rintro e w3 ⟨rfl, hbw⟩)
        all_goals
          have hWw : Below W.drew.heap.size W.drew w3 := by assumption
          have hB3 : Below w.heap.size W.drew w3 := hWw.mono hBd.size
          have hBW : Below w.heap.size W w3 := ⟨hB3.os, hB3.tape, hB3.output, hB3.size, hB3.block⟩
          have hsW : w.heap.size < W.drew.heap.size := Nat.lt_of_succ_lt hrW
          refine ⟨hko _ hWw, hBW, ⟨fun y hy => ?_, (hWw.cell (p := ⟨w.heap.size, 0, none⟩) hsW).trans hcx, (hWw.cell (p := ⟨w.heap.size + 1, 0, none⟩) hrW).trans hcr, (hWw.frozen (p := ⟨w.heap.size + 1, 0, none⟩) hrW).trans hfr⟩, hB.trans hBW⟩
          rcases List.mem_append.1 hy with hy | hy
          · exact hp y hy
          · obtain rfl := List.mem_singleton.1 hy
            exact hfd
  case done =>
    rintro D ys W hD ⟨je, hneg, hpath⟩ ⟨⟨hne, _, hcr, hfr⟩, hB⟩ hK
    gi_wp2
    have hK' := (KeepsOthers.setCell W ⟨w.heap.size + 1, 0, none⟩ (.int .i64 (-1))).same D _ hK rfl
    refine ⟨by simp, .inl ⟨_, _, rfl, run_takeDeferred hK', ?_⟩⟩
    have hc5 := cell_kept (World.cell?_setCell_same' W ⟨w.heap.size + 1, 0, none⟩ (.int .i64 (-1)) (by rw [hcr]; rfl)) (grownBy_putObj' _ D (.deferred none)) (fun r e => by cases e; exact ⟨_, hK', rfl⟩)
    have hout : outerF p x p.length k.parent = -1 := by
      rw [hpath.outer hh hb0 (x := x) (fun y hy => by obtain ⟨z, hz, rfl⟩ := List.mem_map.1 hy; exact hne z hz), outerF_end (by omega)]
    refine ⟨.int .i64 (-1), ?_, by rw [hout], (hB.setCell (p := ⟨w.heap.size + 1, 0, none⟩) (by simp) _).trans (belowK_b (w := w) (Nat.le_refl _) _ D _ _ (by simp at hD; omega) hK' rfl rfl)⟩
    simp [results, Tryz.f110, go_sem, hc5]
  case stop =>
    rintro D c pre W hD ⟨je, hpath⟩ ⟨⟨rfl, l, y, r, rfl, hno, hf, hcr⟩, hB⟩ hK
    gi_wp2
    refine ⟨by simp, .inl ⟨_, _, rfl, run_takeDeferred hK, ?_⟩⟩
    have hc5 := cell_kept hcr (grownBy_putObj' _ D (.deferred none)) (fun r e => by cases e; exact ⟨_, hK, rfl⟩)
    have hout : outerF p x p.length k.parent = r := by
      rw [List.map_append, List.map_singleton] at hpath
      exact Path.found hh hpath hb0 (fun y hy => by obtain ⟨z, hz, rfl⟩ := List.mem_map.1 hy; exact hno z hz) hf
    refine ⟨.int .i64 r, ?_, by rw [hout], hB.trans (belowK_b (w := w) (Nat.le_refl _) W D _ _ (by simp at hD; omega) hK rfl rfl)⟩
    simp [results, Tryz.f110, go_sem, hc5]
theorem outerOwner_fn (gl) (p : Prg) (hh : Heads p) (hb0 : ∀ k, p[0]? = some k → k.kind ≠ 1) (i : Nat) (k : Blk) (hk : p[i]? = some k) (x : Nat) (hx : x < 8) :
    FnOk Tryz.prog gl 110 [scopeA p i, iv x] (fun _ y _ => y = iv (outer p i x)) := by
  refine FnOk.of_raw ⟨_, Tryz.func110, by kernel_rfl, by kernel_rfl⟩ fun w g args hC hsz hargs => ?_
  rw [outer_fuel hh hk]
  obtain ⟨v0, v1, rfl⟩ : ∃ v0 v1, args = #[v0, v1] := by
    refine ⟨args[0]'(by simp at hsz; omega), args[1]'(by simp at hsz; omega), ?_⟩
    apply Array.ext
    · simpa using hsz
    · intro i h1 h2
      match i with
      | 0 => rfl
      | 1 => rfl
      | i + 2 => simp at hsz; omega
  have h0 := hargs 0 v0 _ rfl rfl
  have h1 := hargs 1 v1 _ rfl rfl
  obtain ⟨a0, rfl⟩ := h0.ptr
  obtain rfl := h1.sc_eq
  exact callsIn_wide.1 (outerOwner_in 3 (Nat.le_refl _) p hh hb0 g w hC i k hk a0 h0 x hx)
end Go.Proofs.YtmaoicgfcngciaaGreatDoor
end
section
namespace Go.Proofs.YtmaoicgfcngciaaGreatDoor
open Go Go.Hm Go.Proofs
abbrev scEl (p : Prg) (i : Nat) (k : Blk) : AV := .el (scopeRow i k (scopeA p k.parent) k.params) 0
theorem outerOwner_fn' (gl) (p : Prg) (hp : ShapeP p) (i : Nat) (k : Blk) (hk : p[i]? = some k) (x : Nat) (hx : x < 8) : FnOk Tryz.prog gl 110 [scEl p i k, iv x] (fun _ y _ => y = iv (outer p i x)) := by
  have := outerOwner_fn gl p hp.heads hp.fun0 i k hk x hx
  rwa [scopeA_eq hp.heads hk] at this
theorem scope_owner_fn (gl) (p : Prg) (hp : ShapeP p) (i : Nat) (k : Blk) (hk : p[i]? = some k) (x : Nat) (hx : x < 8) : FnOk Tryz.prog gl 160 [scEl p i k, iv x] (fun _ y _ => y = iv (owner p i x)) := by
  have h8 : (x : Int) < 8 := by omega
  have hg := scopeRow_g (i := i) (k := k) (o := scopeA p k.parent) (ps := k.params) hx
  have hk0 := hp.kind0 hk
  refine FnOk.of_sem Tryz.func160 rfl (by kernel_rfl) (rs := [.tmp 4]) rfl Tryz.ntmps160 (Nat.le_of_ble_eq_true rfl) fun C w g root => ?_
  all_goals have fx := And.intro h8 <| hg
  repeat' (first
   | refine w_seq ?_ | refine w_skip ?_ | refine w_reg fun K hK => ?_
   | ((with_reducible refine s_end hK ?_); clear hK K)
   | (with_reducible first | refine then_normal ?_ | refine then_ret ?_)
   | refine w_ret ?_
   | (with_reducible refine s_none ?_)
   | ((with_reducible refine g_id ?_); refine x_guard (h := ?_))
   | (with_reducible first | refine gx_ff ?_ | refine x_ft (h := ?_) | refine x_assign (h := ?_))
   | ((with_reducible refine o_id 156 rfl ?_); refine x_call (hF := scope_isLocal_fn _ _ _ _ _ _ hx) (h := ?_))
   | ((with_reducible refine o_id 110 rfl ?_); refine x_call (hF := outerOwner_fn' _ p hp i k hk x hx) (h := ?_))
   | (with_reducible refine x_q (h := ?_))
   | (with_reducible refine gx_s (fun ht => ?_) (fun ht => ?_))
   | refine x_condt (h1 := ?_)
   | refine x_if (h1 := fun ht => ?_) (h2 := fun ht => ?_)
   | fail)
  all_goals try clear fx
  all_goals refine e_ret [] .nil (by simp; rfl) ?_
  all_goals simp_all [owner, isLocal]
  all_goals grind
theorem validDeclarations_fn (gl) (p : Prg) (hp : ShapeP p) (i : Nat) (k : Blk) (hk : p[i]? = some k) : FnOk Tryz.prog gl 56 [scEl p i k] (fun _ y _ => y = bv (declsOk p i)) := by
  have hdo : declsOk p i = (List.range 8).all (fun x => declOk p i k (x : Int)) := by simp only [declsOk, hk]
  rw [hdo]
  refine FnOk.of_sem Tryz.func56 rfl (by kernel_rfl) (rs := [.tmp 2]) rfl Tryz.ntmps56 (Nat.le_of_ble_eq_true rfl) fun C w g root => ?_
  have fx := fx0
  refine k_run ?_
  clear fx
  refine w_loop (fun n st => ∃ x : Nat, n = 8 - x ∧ x ≤ 8 ∧ st.tm 0 = scEl p i k ∧ st.tm 4 = iv x ∧ (List.range x).all (fun x => declOk p i k (x : Int)) = true) 8 ⟨0, by simp⟩ ?_
  rintro n st - - ⟨x, rfl, hx, h0, h4, hal⟩
  have fx := And.intro h0 <| h4
  refine k_run ?_
  clear fx
  refine w_if (by simp []; first | done | rfl | exact (Bool.not_not _).symm) (fun ht => ?_) (fun hf => ?_)
  · have h8 : (x : Int) < 8 := by simpa using ht
    have hx8 : x < 8 := by omega
    have hg := scopeRow_g (i := i) (k := k) (o := scopeA p k.parent) (ps := k.params) hx8
    have hn := scopeRow_n (i := i) (k := k) (o := scopeA p k.parent) (ps := k.params) hx8
    have hq := scopeRow_p (i := i) (k := k) (o := scopeA p k.parent) (ps := k.params) hx8
    have hge := outer_ge (p := p) (b := i) (x := x)
    have fin : declOk p i k x = false → (List.range 8).all (fun x => declOk p i k (x : Int)) = false := fun h => range_false hx8 h
    have nxt : declOk p i k x = true → (List.range (x + 1)).all (fun x => declOk p i k (x : Int)) = true := fun h => by rw [all_range_succ, hal, h]; rfl
    clear ht hal
    all_goals have fx := And.intro h0 <| And.intro h4 <| And.intro h8 <| And.intro hg <| And.intro hn <| hq
    repeat' (first
     | refine w_seq ?_ | refine w_block ?_ | refine w_skip ?_ | refine w_reg fun K hK => ?_
     | ((with_reducible refine s_end hK ?_); clear hK K)
     | (with_reducible first | refine then_normal ?_ | refine in_normal ?_ | refine then_exit ?_ | refine in_exit ?_ | refine then_ret ?_ | refine in_ret ?_ | refine in_other (by decide) ?_)
     | refine w_exit ?_
     | refine w_ret ?_
     | (with_reducible refine s_none ?_)
     | ((with_reducible refine g_id ?_); refine x_guard (h := ?_))
     | (with_reducible first | refine gx_tt ?_ | refine gx_ff ?_ | refine x_tf (h := ?_) | refine x_ft (h := ?_) | refine x_u (h := ?_) | refine x_assign (h := ?_))
     | ((with_reducible refine o_id 109 rfl ?_); refine x_call (hF := declares_fn _ _ _ _ _ _ hx8) (h := ?_))
     | ((with_reducible refine o_id 110 rfl ?_); refine x_call (hF := outerOwner_fn' _ p hp i k hk x hx8) (h := ?_))
     | (with_reducible refine x_q (h := ?_))
     | (with_reducible refine gx_s (fun ht => ?_) (fun ht => ?_))
     | refine x_condt (h1 := ?_) | refine x_condf (h1 := ?_)
     | refine x_if (h1 := fun ht => ?_) (h2 := fun ht => ?_)
     | fail)
    all_goals try clear fx
    all_goals clear hg hn hq
    all_goals first
      | (refine e_ret [] .nil (by simp; rfl) ?_
         rw [fin (by simp only [declOk]; simp_all; done)]
         rfl)
      | (refine ⟨8 - (x + 1), by omega, x + 1, rfl, by omega, by simp [h0], by simp; exact wrp (by omega) (by omega), nxt ?_⟩
         simp only [declOk]
         simp_all
         try omega)
  · have hge : x = 8 := by
      have : ¬ (x : Int) < 8 := by simpa using hf
      omega
    subst hge
    have fx := fx0
    refine k_run ?_
    clear fx
    refine e_ret [] .nil (by simp []; rfl) (by simp [hal])
theorem bw_sc {hp : Nm → Option AO} {n : Nm} {p : Prg} {j : Nat} {k : Blk} (h : OwnS hp n p p.length) (hh : Heads p) (hk : p[j]? = some k) : Bw hp noD (.pt (.c n j 0) 0) (scEl p j k) := by
  have := bw_scope h hh j (gS hk).1
  rwa [scopeA_eq hh hk] at this
theorem sRows_at {n : Nm} {len j : Nat} (h : j < len) : (sRows n len len)[j]? = some [AV.pt (.c n j 0) 0] := by rw [sRows_get h, if_pos h]
theorem declsOk0 {p : Prg} (hp : ShapeP p) : declsOk p 0 = true := by
  obtain ⟨k, hk⟩ : ∃ k, p[0]? = some k := ⟨_, gE (by have := hp.len.1; omega)⟩
  simp only [declsOk, hk, List.all_eq_true]
  intro x _
  simp [declOk, hp.decl0 hk]
theorem impl_ValidProgram_fn (gl) (p : Prg) (hs : Sml p) : FnOk Tryz.prog gl 21 [pav p] (fun _ y _ => y = bv (progOk p)) := by
  refine FnOk.of_sem Tryz.func21 rfl (by kernel_rfl) (rs := [.tmp 2]) rfl Tryz.ntmps21 (Nat.le_of_ble_eq_true rfl) fun C w g root => ?_
  cases hsh : shapeOk p with
  | false =>
    have fx :=  hsh
    have c1 := impl_ValidShape_fn gl p hs
    refine k_run ?_
    clear fx c1
    refine e_ret [] .nil (by simp; rfl) ?_
    simp [progOk, hsh]
  | true =>
    have hp := ShapeP.of hs hsh
    have hh := hp.heads
    have hl7 := hp.len
    have hpo : progOk p = (List.range p.length).all (fun b => b == 0 || declsOk p b) := by simp only [progOk, hsh, Bool.true_and]
    rw [hpo]
    have fx :=  hsh
    have c1 := impl_ValidShape_fn gl p hs
    have e1 := scopesOf_fn gl p hs hh hp.names
    refine k_run ?_
    clear fx c1 e1
    first | rintro K hK y H' ⟨rfl, hO⟩ | rintro y H' ⟨rfl, hO⟩
    obtain ⟨ho1, ho2⟩ := hO.hcln
    refine ⟨by simp, ?_⟩
    have fx := fx0
    refine k_run ?_
    clear fx
    refine w_loop (fun n st => ∃ i : Nat, n = p.length - i ∧ i ≤ p.length ∧ st.tm 9 = .hs (.s 9) 1 0 p.length ∧ OwnS st.hp (.s 9) p p.length ∧ st.tm 10 = iv p.length ∧ st.tm 11 = iv i ∧ (List.range i).all (fun b => b == 0 || declsOk p b) = true) p.length ?_ ?_
    · exact ⟨0, by simp, by simp, by simp, ⟨by simp [ho1], fun j k hj hk => by simp [ho2 j k hj hk]⟩, by simp, by simp, by simp⟩
    clear ho1 ho2 hO
    rintro n st - - ⟨i, rfl, hi, h9, ⟨ho1, ho2⟩, h10, h11, hal⟩
    have fx := And.intro h10 <| h11
    refine k_run ?_
    clear fx
    refine w_if (by simp []; first | done | rfl | exact (Bool.not_not _).symm) (fun ht => ?_) (fun hf => ?_)
    · have hlt : i < p.length := by simpa using ht
      obtain ⟨k, hk⟩ : ∃ k, p[i]? = some k := ⟨_, gE hlt⟩
      have hsg := sRows_at (n := .s 9) hlt
      obtain ⟨_, hse⟩ := gS hsg
      clear ht
      all_goals have fx := And.intro h9 <| And.intro ho1 <| And.intro h10 <| And.intro h11 <| And.intro hsg <| And.intro hse <| hlt
      repeat' (first
       | refine w_seq ?_ | refine w_block ?_ | refine w_skip ?_ | refine w_reg fun K hK => ?_
       | ((with_reducible refine s_end hK ?_); clear hK K)
       | (with_reducible first | refine then_normal ?_ | refine in_normal ?_ | refine then_exit ?_ | refine in_exit ?_ | refine then_ret ?_ | refine in_ret ?_ | refine in_other (by decide) ?_)
       | refine w_exit ?_
       | refine w_ret ?_
       | (with_reducible first | refine s_none ?_ | refine x_assign (h := ?_) | refine x_box (h := ?_))
       | ((with_reducible refine o_id 56 rfl ?_); refine x_call (hB := (by first | ((repeat' (first | exact .nil | refine .cons ?_ ?_ | exact .refl _ | exact bw_ints (by simp [fx]; first | done | rfl) (by first | (simp [fx]; done) | (simp [fx]; omega) | omega) | exact bw_list (by simp [fx]; first | done | rfl) (by first | (simp [fx]; done) | (simp [fx]; omega) | omega) (by first | (simp; done) | fail) | exact bw_sc (n := .s 9) (p := p) (k := k) ⟨by simp [ho1], fun j k hj hk => by simp [ho2 j k hj hk]⟩ hh hk)); done) | fail)) (hF := validDeclarations_fn _ p hp i k hk) (h := ?_))
       | (with_reducible refine x_q (h := ?_))
       | refine x_condt (h1 := ?_) | refine x_condf (h1 := ?_)
       | refine x_if (h1 := fun ht => ?_) (h2 := fun ht => ?_)
       | fail)
      all_goals try clear fx
      · refine e_ret [] .nil (by simp; rfl) ?_
        have hd : declsOk p i = false := by simpa using ht
        have hi0 : i ≠ 0 := fun e => by rw [e, declsOk0 hp] at hd; cases hd
        rw [range_false hlt (show (i == 0 || declsOk p i) = false by simp [hd, hi0])]
        rfl
      · have hd : declsOk p i = true := by simpa using ht
        refine ⟨p.length - (i + 1), by omega, i + 1, rfl, by omega, by simp [h9], ⟨by simp [ho1], fun j k hj hk => by simp [ho2 j k hj hk]⟩, by simp [h10], by simp; exact wrp (by omega) (by omega), ?_⟩
        rw [all_range_succ, hal, hd]
        simp
    · have hge : i = p.length := by
        have : ¬ i < p.length := by simpa using hf
        omega
      subst hge
      have fx := fx0
      refine k_run ?_
      clear fx
      refine e_ret [] .nil (by simp []; rfl) (by simp [hal])
end Go.Proofs.YtmaoicgfcngciaaGreatDoor
end
section
namespace Go.Proofs.YtmaoicgfcngciaaGreatDoor
open Go Go.Hm Go.Proofs
theorem lineOfWords_fn (gl) (v : Txt) (ns : List Int) (a : AV) (ha : a = isl ns ∨ (a = .sc (.slice none 0 0) ∧ ns = [])) (hv : v ≠ []) (hvl : v.length ≤ 100) (hns : Small ns) (hnl : ns.length ≤ 10) : FnOk Tryz.prog gl 47 [tx v, a] (fun _ y _ => y = tx (wordsL v ns ++ [10])) := by
  refine FnOk.of_sem Tryz.func47 rfl (by kernel_rfl) (rs := [.tmp 4]) rfl Tryz.ntmps47 (Nat.le_of_ble_eq_true rfl) fun C w g root => ?_
  rcases ha with rfl | ⟨rfl, rfl⟩
  all_goals
    have fx :=  hv
    have b1 := bld_zv
    refine k_runp ?_
    clear fx b1
    intro K hK
    have fx := hv
    refine x_wstr 5 lay166 layB rfl rfl (.inl ⟨rfl, by simp⟩) (hs := hv) (hlen := by simp; omega) (h := ?_)
    clear fx
    rintro st' - hg htm hhp e1 e2
    have h5 : st'.tm 5 = .pt (.s 5) 0 := by simp [htm]
    have h1 := htm 1
    simp at h1
    simp only [lib_b, lib_u, List.length_nil, Nat.zero_add, List.nil_append] at e1 e2
    clear htm hhp
    have fx := And.intro h5 <| h1
    refine k_run ?_
    clear fx
  case' inl => refine w_loop (fun n st => ∃ i : Nat, n = ns.length - i ∧ i ≤ ns.length ∧ st.tm 5 = .pt (.s 5) 0 ∧ st.tm 10 = isl ns ∧ st.tm 11 = iv ns.length ∧ st.tm 12 = iv i ∧ st.hp (.s 5) = some (.trow 73 2 true [[.pt (.s 5) 0, .hs (.c (.s 5) 0 1) 1 0 (wordsL v (ns.take i)).length]]) ∧ st.hp (.c (.s 5) 0 1) = some (.trow 5 1 false (byrows (wordsL v (ns.take i))))) ns.length ?_ ?_
  case' inr => refine w_loop (fun n st => ∃ i : Nat, n = ([] : List Int).length - i ∧ i ≤ ([] : List Int).length ∧ st.tm 5 = .pt (.s 5) 0 ∧ st.tm 11 = iv ([] : List Int).length ∧ st.tm 12 = iv i ∧ st.hp (.s 5) = some (.trow 73 2 true [[.pt (.s 5) 0, .hs (.c (.s 5) 0 1) 1 0 (wordsL v []).length]]) ∧ st.hp (.c (.s 5) 0 1) = some (.trow 5 1 false (byrows (wordsL v [])))) 0 ?_ ?_
  · refine ⟨0, by simp, by simp, by simp [h5], ?_, by simp, by simp [e1, wordsL], by simp [e2, wordsL]⟩
    simp
  · clear h5 h1 e1 e2
    rintro n st - - ⟨i, rfl, hi, h5, h11, h12, e1, e2⟩
    obtain rfl : i = 0 := by simpa using hi
    have hvw := wordsL_ge (w := v) (ns := [])
    have hwl2 := wordsL_len (w := v) (ns := []) hns
    have hne : wordsL v [] ≠ [] := fun e => by rw [e] at hvw; simp at hvw; exact hv hvw
    simp at h11 h12 hwl2
    have fx := And.intro h5 <| And.intro h11 <| h12
    refine k_run ?_
    clear fx
    intro K hK
    have fx := And.intro h5 h5
    refine x_wstr 5 lay166 layB rfl rfl (.inr ⟨hne, by simp [e1], by simp [e2]⟩) (hlen := by simp; omega) (h := ?_)
    clear fx
    rintro st' - hg htm hhp f1 f2
    have g5 : st'.tm 5 = .pt (.s 5) 0 := by simp [htm, h5]
    simp only [lib_b, lib_u] at f1 f2
    clear htm hhp
    have fx :=  g5
    refine k_run ?_
    clear fx
    intro K hK
    have fx := And.intro g5 g5
    refine x_str (l := wordsL v [] ++ [10]) 5 lay169 layB rfl rfl (.inr ⟨by simp, by simp [f1], by simp [f2]⟩) (h := ?_)
    clear fx
    have fx := fx0
    refine k_run ?_
    clear fx
    refine e_ret [] .nil (by simp; rfl) (by simp)
  · exact ⟨0, by omega, by omega, by simp [h5], by simp [h1], by simp [h1], by simp, by simp [e1, wordsL], by simp [e2, wordsL]⟩
  · clear h5 h1 e1 e2
    rintro n st - - ⟨i, rfl, hi, h5, h10, h11, h12, e1, e2⟩
    have hvw := wordsL_ge (w := v) (ns := ns.take i)
    have hv0 : 0 < v.length := List.length_pos_iff.2 hv
    have hwl2 := wordsL_len (w := v) (small_take (i := i) hns)
    rw [List.length_take] at hwl2
    have hne : wordsL v (ns.take i) ≠ [] := fun e => by rw [e] at hvw; simp at hvw; exact hv hvw
    by_cases hil : i < ns.length
    · obtain ⟨x, hx⟩ : ∃ x, ns[i]? = some x := ⟨_, gE hil⟩
      obtain ⟨_, hxE⟩ := gS hx
      have hxs := hns x (List.mem_of_getElem? hx)
      have hxl := numI_len hxs
      have hl1 : ∀ c, 2000000000 ≤ c → 1 + (numI x).length ≤ c := fun c hc => by omega
      have fx := And.intro h5 <| And.intro h10 <| And.intro h11 <| And.intro h12 <| And.intro hil <| And.intro hx <| And.intro hxE <| hl1
      have c1 := itoa_at gl x hxs
      refine k_run ?_
      clear fx c1
      intro K hK
      have fx := And.intro h5 h5
      refine x_wstr 5 lay166 layB rfl rfl (.inr ⟨hne, by simp [e1], by simp [e2]⟩) (hlen := by simp; omega) (h := ?_)
      clear fx
      rintro st' - hg htm hhp f1 f2
      have g5 : st'.tm 5 = .pt (.s 5) 0 := by simp [htm, h5]
      have g10 := htm 10
      have g11 := htm 11
      have g12 := htm 12
      simp [h10, h11, h12] at g10 g11 g12
      simp only [lib_b, lib_u] at f1 f2
      clear htm hhp
      have fx := And.intro g5 <| And.intro g10 <| And.intro g11 <| g12
      refine k_run ?_
      clear fx
      refine ⟨ns.length - (i + 1), by omega, i + 1, rfl, by omega, by simp [g5], by simp [g10], by simp [g11], by simp; exact wrp (by omega) (by omega), by simp [f1, wordsL_take hx], by simp [f2, wordsL_take hx]⟩
    · obtain rfl : i = ns.length := by omega
      rw [List.take_length] at e1 e2 hne hwl2
      have fx := And.intro h5 <| And.intro h10 <| And.intro h11 <| And.intro h12 <| hil
      refine k_run ?_
      clear fx
      intro K hK
      have fx := And.intro h5 h5
      refine x_wstr 5 lay166 layB rfl rfl (.inr ⟨hne, by simp [e1], by simp [e2]⟩) (hlen := by simp; omega) (h := ?_)
      clear fx
      rintro st' - hg htm hhp f1 f2
      have g5 : st'.tm 5 = .pt (.s 5) 0 := by simp [htm, h5]
      simp only [lib_b, lib_u] at f1 f2
      clear htm hhp
      have fx :=  g5
      refine k_run ?_
      clear fx
      intro K hK
      have fx := And.intro g5 g5
      refine x_str (l := wordsL v ns ++ [10]) 5 lay169 layB rfl rfl (.inr ⟨by simp, by simp [f1], by simp [f2]⟩) (h := ?_)
      clear fx
      have fx := fx0
      refine k_run ?_
      clear fx
      refine e_ret [] .nil (by simp; rfl) (by simp)
@[simp] theorem scRows_tr {p : Prg} {f : Nm → Option Nm} : (scRows p).map (fun r => r.map (AV.tr f)) = scRows p := by simp [scRows]
theorem scopeA_shape (p : Prg) (j : Int) : scopeA p j = nilP ∨ ∃ r, scopeA p j = .el r 0 := by
  unfold scopeA
  cases p.length with
  | zero => exact .inl rfl
  | succ n =>
    rw [scopeF]
    split
    · exact .inl rfl
    · split
      · exact .inl rfl
      · exact .inr ⟨_, rfl⟩
@[simp] theorem scopeA_isNil {p : Prg} {j : Int} : isNilS (scopeA p j) = false := by
  rcases scopeA_shape p j with h | ⟨r, h⟩ <;> rw [h] <;> rfl
@[simp] theorem scopeA_sNm {p : Prg} {j : Int} : sNm (scopeA p j) = none := by
  rcases scopeA_shape p j with h | ⟨r, h⟩ <;> rw [h] <;> rfl
theorem isWithin_fn (gl) (p : Prg) (hh : Heads p) (i : Nat) (k : Blk) (hk : p[i]? = some k) (b : Nat) : FnOk Tryz.prog gl 161 [scEl p i k, iv b] (fun _ y _ => y = bv (inside p i b)) := by
  have hil := (gS hk).1
  refine FnOk.of_sem Tryz.func161 rfl (by kernel_rfl) (rs := [.tmp 4]) rfl Tryz.ntmps161 (Nat.le_of_ble_eq_true rfl) fun C w g root => ?_
  have fx := fx0
  refine k_run ?_
  clear fx
  refine w_loop (fun n st => ∃ j : Int, n = (j + 1).toNat ∧ -1 ≤ j ∧ j < p.length ∧ st.tm 1 = iv b ∧ st.tm 5 = scopeA p j ∧ inside p i b = inside p j b) (i + 1) ?_ ?_
  · exact ⟨i, by omega, by omega, by omega, by simp, by simp [scopeA_eq hh hk], rfl⟩
  rintro n st - - ⟨j, rfl, hj1, hj, h1, h5, hin⟩
  rcases Int.lt_or_le j 0 with hn | hn
  · rw [scopeA_neg hn, nilP] at h5
    have hfa : inside p i b = false := by
      rw [hin, inside_end (by omega)]
      exact decide_eq_false (by omega)
    have fx := And.intro h1 <| h5
    refine k_run ?_
    clear fx
    refine e_ret [] .nil (by simp; rfl) ?_
    simp [hfa]
  · obtain ⟨J, rfl⟩ : ∃ J : Nat, j = J := ⟨j.toNat, by omega⟩
    obtain ⟨q, hq⟩ : ∃ q, p[J]? = some q := ⟨_, gE (by omega)⟩
    obtain ⟨hq1, hq2, _⟩ := hh J q hq
    rw [scopeA_eq hh hq] at h5
    cases hjb : ((J : Int) == b)
    · have hne : ¬ (J : Int) = b := by simpa using hjb
      have hin2 : inside p i b = inside p q.parent b := by
        rw [hin]
        rcases Int.lt_or_le b J with h | h
        · exact inside_step hh (by omega) hq h
        · rw [inside_end h, inside_end (by omega), decide_eq_false hne, decide_eq_false (by omega)]
      have fx := And.intro h1 <| And.intro h5 <| hjb
      refine k_run ?_
      clear fx
      exact ⟨(q.parent + 1).toNat, by omega, q.parent, rfl, hq1, by omega, by simp [h1], by simp, hin2⟩
    · have he : (J : Int) = b := by simpa using hjb
      have htr : inside p i b = true := by
        rw [hin, inside_end (by omega)]
        exact decide_eq_true he
      have fx := And.intro h1 <| And.intro h5 <| hjb
      refine k_run ?_
      clear fx
      refine e_ret [] .nil (by simp; rfl) ?_
      simp [htr]
theorem us_mem {k : Blk} {y : Nat} (hy : y < 8) : (decide ((y : Int) ∈ k.rd) || decide ((y : Int) ∈ k.bd) || (decide ((y : Int) ∈ k.dc 9) || decide ((y : Int) ∈ k.dc 10))) = decide ((y : Int) ∈ k.us) := by
  have e := mem_sortedAt (xs := k.rd ++ k.bd ++ k.dc 9 ++ k.dc 10) hy
  simp only [Blk.us, e, List.mem_append]
  by_cases h1 : (y : Int) ∈ k.rd <;> by_cases h2 : (y : Int) ∈ k.bd <;> by_cases h3 : (y : Int) ∈ k.dc 9 <;> by_cases h4 : (y : Int) ∈ k.dc 10 <;> simp [h1, h2, h3, h4]
theorem uses_fn' (gl) (p : Prg) (i : Nat) (k : Blk) (x : Nat) (hx : x < 8) : FnOk Tryz.prog gl 159 [scEl p i k, iv x] (fun _ y _ => y = bv (decide ((x : Int) ∈ k.us))) := by
  have := uses_fn gl i k (scopeA p k.parent) k.params x hx
  rwa [us_mem hx] at this
theorem local_fn' (gl) (p : Prg) (hp : ShapeP p) (i : Nat) (k : Blk) (hk : p[i]? = some k) (x : Nat) (hx : x < 8) : FnOk Tryz.prog gl 156 [scEl p i k, iv x] (fun _ y _ => y = bv (isLocal i k x)) := by
  have h := scope_isLocal_fn gl i k (scopeA p k.parent) k.params x hx
  have hk0 := hp.kind0 hk
  have e : (k.kind != 0 && decide ((x : Int) ∈ k.bd) && !(decide ((x : Int) ∈ k.dc 9) || decide ((x : Int) ∈ k.dc 10))) = isLocal i k x := by
    by_cases h0 : i = 0
    · have : (k.kind != 0) = false := by simp [hk0, h0]
      rw [this]
      simp [isLocal, h0]
    · have : (k.kind != 0) = true := by simp [hk0, h0]
      rw [this]
      have h1 : decide (0 < i) = true := decide_eq_true (by omega)
      simp only [isLocal, h1]
      simp [Bool.and_assoc]
  rwa [e] at h
end Go.Proofs.YtmaoicgfcngciaaGreatDoor
end
section
namespace Go.Proofs.YtmaoicgfcngciaaGreatDoor
open Go Go.Hm Go.Proofs
theorem bset_same {l : List Int} {x : Nat} (h : x < 8) (hx : (x : Int) ∉ l) : (bset l).take x ++ bv false :: (bset l).drop (x + 1) = bset l := by
  have hl : x < (bset l).length := by simp; omega
  have hset := List.set_eq_take_append_cons_drop (l := bset l) (i := x) (a := bv false)
  rw [if_pos hl] at hset
  rw [← hset]
  apply List.ext_getElem?
  intro i
  rw [List.getElem?_set]
  by_cases e : x = i
  · subst e
    rw [if_pos rfl, if_pos hl, bset_get h]
    simp [hx]
  · rw [if_neg e]
theorem list_fn (gl) (l : List Int) : FnOk Tryz.prog gl 116 [.agg (bset l)] (fun r z H' => z = .hs r 1 0 (sorted l).length ∧ H' r = some (.row 1 (irows (sorted l)))) := by
  refine FnOk.of_sem Tryz.func116 rfl (by kernel_rfl) (rs := [.tmp 2]) rfl Tryz.ntmps116 (Nat.le_of_ble_eq_true rfl) fun C w g root => ?_
  have fx := fx0
  refine k_run ?_
  clear fx
  refine w_loop (fun n st => ∃ x : Nat, n = 8 - x ∧ x ≤ 8 ∧ st.tm 6 = .agg (bset l) ∧ st.tm 7 = iv x ∧ st.tm 3 = .hs (.s 3) 1 0 (sortedTo l x).length ∧ st.hp (.s 3) = some (.row 1 (irows (sortedTo l x))) ∧ (sortedTo l x).length ≤ x) 8 ?_ ?_
  · exact ⟨0, by omega, by omega, by simp, by simp, by simp [sortedTo], by simp [sortedTo], by simp [sortedTo]⟩
  rintro n st - - ⟨x, rfl, hx, h6, h7, h3, hp3, hle⟩
  have fx :=  h7
  refine k_run ?_
  clear fx
  refine w_if (by simp []; first | done | rfl | exact (Bool.not_not _).symm) (fun ht => ?_) (fun hf => ?_)
  · have hx8' : (x : Int) < 8 := by simpa using ht
    have hx8 : x < 8 := by omega
    have hbg := bset_get (l := l) hx8
    obtain ⟨hbl, hbE⟩ := gS hbg
    clear ht
    by_cases hm : (x : Int) ∈ l
    · have he : sortedTo l (x + 1) = sortedTo l x ++ [(x : Int)] := by simp [sortedTo, hm]
      generalize hL : sortedTo l x = L at h3 hp3 he hle
      have fx := And.intro h6 <| And.intro h7 <| And.intro hbg <| And.intro hbE <| And.intro hx8 <| And.intro hx8' <| And.intro hm <| And.intro h3 <| hp3
      refine k_run ?_
      clear fx
      refine ⟨8 - (x + 1), by omega, x + 1, rfl, by omega, by simp [h6], by simp; exact wrp (by omega) (by omega), by simp [he], ?_, by simp [he]; omega⟩
      rw [he]
      simp [hp3, irows]
    · have he : sortedTo l (x + 1) = sortedTo l x := by simp [sortedTo, hm]
      have fx := And.intro h6 <| And.intro h7 <| And.intro hbg <| And.intro hbE <| And.intro hx8 <| And.intro hx8' <| hm
      refine k_run ?_
      clear fx
      exact ⟨8 - (x + 1), by omega, x + 1, rfl, by omega, by simp [h6], by simp; exact wrp (by omega) (by omega), by simp [he, h3], by simp [he, hp3], by rw [he]; omega⟩
  · have hge : x = 8 := by
      have : ¬ (x : Int) < 8 := by simpa using hf
      omega
    subst hge
    have fx := And.intro h3 <| hp3
    refine k_run ?_
    clear fx
    exact e_list (t := 2) (by first | (simp [hp3]; done) | (simp [hp3]; rfl)) (by first | (simp [hp3]; done) | (simp [hp3]; rfl)) (by simp)
end Go.Proofs.YtmaoicgfcngciaaGreatDoor
end
