/-
  Own texts, joined by mkclaim.py: Hg, Hh, Hi, Hj, Hk, Qa.
-/
import Derived.Test.YtcbkblboonkfhaaGreatS25
import Derived.RangeFuncFrom
import Derived.RangeFuncNested
import Derived.RangeFuncBound
import Derived.RangeFuncCalls
import Derived.RangeFuncLeaves
import Derived.Shelf.Abstract
import Derived.Shelf.RegionOpen
import Derived.WalkKit
import Derived.OwnWalkIn
import Derived.TacticsInMore
import Derived.LoopNIn
import Derived.LoopIn
import Derived.Test.YtcbkblboonkfhaaGreatS13
import Derived.Test.YtcbkblboonkfhaaGreatS15
set_option linter.unusedSimpArgs false
set_option linter.unusedVariables false
set_option maxRecDepth 100000
set_option maxHeartbeats 4000000

section
namespace Go.Proofs.YtcbkblboonkfhaaGreat
open Go Go.Hm Go.Proofs
theorem declares_fn (gl) (i : Nat) (k : Blk) (o : AV) (ps : List Int) (x : Nat) (hx : x < 8) : FnOk Tryz.prog gl 126 [.el (scopeRow i k o ps) 0, iv x] (fun _ y _ => y = bv (decide ((x : Int) ∈ k.dc 9) || decide ((x : Int) ∈ k.dc 10))) := by
  have h8 : (x : Int) < 8 := by omega
  have hg := scopeRow_g (i := i) (k := k) (o := o) (ps := ps) hx
  have hn := scopeRow_n (i := i) (k := k) (o := o) (ps := ps) hx
  refine FnOk.of_sem Tryz.func126 rfl (by kernel_rfl) (rs := [.tmp 4]) rfl Tryz.ntmps126 (Nat.le_of_ble_eq_true rfl) fun C w g root => ?_
  all_goals have fx := And.intro h8 <| And.intro hg <| hn
  repeat' (first
   | refine w_seq ?_ | refine w_reg fun K hK => ?_
   | ((with_reducible refine s_end hK ?_); clear hK K)
   | (with_reducible first | refine then_normal ?_)
   | refine w_ret ?_
   | (with_reducible refine s_none ?_)
   | ((with_reducible refine g_id ?_); refine x_guard (h := ?_))
   | (with_reducible first | refine gx_ff ?_ | refine x_ft (h := ?_) | refine x_assign (h := ?_))
   | (with_reducible refine x_q (h := ?_))
   | (with_reducible refine gx_s (fun ht => ?_) (fun ht => ?_))
   | fail)
  all_goals try clear fx
  all_goals refine e_ret [] .nil (by simp; rfl) ?_
  all_goals simp_all
theorem scope_isLocal_fn (gl) (i : Nat) (k : Blk) (o : AV) (ps : List Int) (x : Nat) (hx : x < 8) : FnOk Tryz.prog gl 130 [.el (scopeRow i k o ps) 0, iv x] (fun _ y _ => y = bv (k.kind != 0 && decide ((x : Int) ∈ k.bd) && !(decide ((x : Int) ∈ k.dc 9) || decide ((x : Int) ∈ k.dc 10)))) := by
  have h8 : (x : Int) < 8 := by omega
  have hb := scopeRow_b (i := i) (k := k) (o := o) (ps := ps) hx
  refine FnOk.of_sem Tryz.func130 rfl (by kernel_rfl) (rs := [.tmp 4]) rfl Tryz.ntmps130 (Nat.le_of_ble_eq_true rfl) fun C w g root => ?_
  all_goals have fx := And.intro h8 <| hb
  repeat' (first
   | refine w_seq ?_ | refine w_reg fun K hK => ?_
   | ((with_reducible refine s_end hK ?_); clear hK K)
   | (with_reducible first | refine then_normal ?_)
   | refine w_ret ?_
   | (with_reducible refine s_none ?_)
   | ((with_reducible refine g_id ?_); refine x_guard (h := ?_))
   | (with_reducible first | refine gx_tt ?_ | refine x_tf (h := ?_) | refine x_assign (h := ?_))
   | ((with_reducible refine o_id 126 rfl ?_); refine x_call (hF := declares_fn _ _ _ _ _ _ hx) (h := ?_))
   | (with_reducible refine x_q (h := ?_))
   | (with_reducible refine gx_s (fun ht => ?_) (fun ht => ?_))
   | fail)
  all_goals try clear fx
  all_goals refine e_ret [] .nil (by simp; rfl) ?_
  all_goals simp_all
end Go.Proofs.YtcbkblboonkfhaaGreat
end
section
namespace Go.Proofs.YtcbkblboonkfhaaGreat
open Go Go.Hm Go.Proofs Go.RowKit Go.Shelf
attribute [local go_sem] Oper.semAt_some
abbrev FnAt (g : Gh) (w0 : World) (p : Prg) := { a : Option Addr × Nat // ∃ q, p[a.2]? = some q ∧ q.kind = 1 ∧ RV g w0 (.pointer a.1) (scopeA p a.2) }
def lft (v : Value) (W : World) : Nat := match v with
  | .pointer (some a) => (match W.cell? a with | some (.int _ j) => j.toNat + 1 | _ => 0)
  | _ => 0
theorem iter_in (n l Bn : Nat) (p : Prg) (hh : Heads p) (g : Gh) (w0 : World) (hC : ∀ b, g.C b → b < w0.heap.size) (j0 : Nat) (k0 : Blk) (hk0 : p[j0]? = some k0) (a0 : Option Addr) (ha0 : RV g w0 (.pointer a0) (scopeA p j0)) (J Jx : List (FnAt g w0 p) → World → Prop) (hn : 1 ≤ n)
    (hY : ∀ pre x W, J pre W → pre.length < p.length → YieldAt Fence.wide (n - 1) Tryz.prog l #[.pointer x.1.1] W fun e W' =>
      (e = .returned (.bool true) ∧ J (pre ++ [x]) W' ∧ Below w0.heap.size W W') ∨ (e = .returned (.bool false) ∧ Jx (pre ++ [x]) W'))
    (W : World) (hW : Below w0.heap.size w0 W) (hBn : W.cell? ⟨Bn, 0, none⟩ = some (.pointer a0)) (h0 : J [] W) :
    CallsIn Fence.wide n Tryz.prog 189 #[.func (.yield l) #[] #[], .pointer (some ⟨Bn, 0, none⟩)] W fun e W' => (∃ v, e = .returned v) ∧
      ((∃ ys, (∃ j, j < 0 ∧ Path p k0.parent (ys.map (fun y : FnAt g w0 p => y.1.2)) j) ∧ J ys W') ∨ (∃ pre, (∃ j, Path p k0.parent (pre.map (fun y : FnAt g w0 p => y.1.2)) j) ∧ Jx pre W')) := by
  obtain ⟨b0, o0, hb0, hs0⟩ := ha0.scAt hh hk0
  obtain rfl : a0 = some ⟨b0, o0, none⟩ := by simpa using hb0
  obtain ⟨a1, hc1, hr1⟩ := hs0.out
  have hc1' : W.cell? ⟨b0, o0 + 2, none⟩ = some (.pointer a1) := (hW.cell (p := ⟨b0, o0 + 2, none⟩) (hC b0 hs0.C)).trans hc1
  refine callsIn_of_wp Tryz.func189 rfl trivial ?_ rfl
  simp only [Tryz.ntmps189, List.size_toArray, List.length_cons, List.length_nil, Nat.reduceAdd, Nat.reduceSub, Array.replicate_succ, Array.replicate_zero, List.push_toArray, List.append_toArray, List.nil_append, List.cons_append]
  gi_wp2
  gi_loopw [3] (fun v wr => ∃ (pre : List (FnAt g w0 p)) (j : Int), RV g w0 v (scopeA p j) ∧ (-1 ≤ j ∧ j < p.length) ∧ Path p k0.parent (pre.map (fun y : FnAt g w0 p => y.1.2)) j ∧ J pre wr ∧ Below w0.heap.size w0 wr) (fun v wr => lft v wr)
  case atStart =>
    have h1 := hh j0 k0 hk0
    have h2 := (gS hk0).1
    exact ⟨[], k0.parent, hr1, by omega, .nil _, h0, hW⟩
  case round =>
    obtain ⟨pre, j, hr, hj, hpath, hJ, hB⟩ := hrel
    by_cases hneg : j < 0
    · obtain rfl := hr.scNil hneg
      gi_wp2
      go_end0
      exact ⟨⟨_, rfl⟩, .inl ⟨pre, ⟨j, hneg, hpath⟩, hJ⟩⟩
    · obtain ⟨j, rfl⟩ : ∃ i : Nat, j = i := ⟨j.toNat, by omega⟩
      obtain ⟨k, hk⟩ : ∃ k, p[j]? = some k := ⟨_, gE (by omega)⟩
      obtain ⟨b, o, rfl, hs⟩ := hr.scAt hh hk
      have hb := hC b hs.C
      obtain ⟨a2, hc2, hr2⟩ := hs.out
      obtain ⟨hp1, hp2, _⟩ := hh j k hk
      have hv1 : wr.cell? ⟨b, o + 1, none⟩ = some (.int .i64 k.kind) := (hB.cell (p := ⟨b, o + 1, none⟩) hb).trans hs.kind
      have hv0 : wr.cell? ⟨b, o, none⟩ = some (.int .i64 j) := (hB.cell (p := ⟨b, o, none⟩) hb).trans hs.idx
      have hv2 : wr.cell? ⟨b, o + 2, none⟩ = some (.pointer a2) := (hB.cell (p := ⟨b, o + 2, none⟩) hb).trans hc2
      have hlf : ∀ W', Below w0.heap.size w0 W' → lft (.pointer a2) W' < lft (.pointer (some ⟨b, o, none⟩)) wr := by
        intro W' hB'
        have e : lft (.pointer (some ⟨b, o, none⟩)) wr = j + 1 := by simp [lft, hv0]
        rw [e]
        by_cases hn : k.parent < 0
        · have : (Value.pointer a2) = .pointer none := hr2.scNil hn
          obtain rfl : a2 = none := by simpa using this
          simp [lft]
        · obtain ⟨q, hq⟩ : ∃ q : Nat, k.parent = q := ⟨k.parent.toNat, by omega⟩
          obtain ⟨r, hqr⟩ : ∃ r, p[q]? = some r := ⟨_, gE (by omega)⟩
          rw [hq] at hr2
          obtain ⟨b', o', e', hs'⟩ := hr2.scAt hh hqr
          obtain rfl : a2 = some ⟨b', o', none⟩ := by simpa using e'
          have hb' := hC b' hs'.C
          have : W'.cell? ⟨b', o', none⟩ = some (.int .i64 q) := (hB'.cell (p := ⟨b', o', none⟩) hb').trans hs'.idx
          simp [lft, this]
          omega
      by_cases hk1 : k.kind = 1
      · rw [hk1] at hv1
        have hlen := hpath.len hh
        have hjj := (gS hk0).1
        have hpp := (hh j0 k0 hk0).2.1
        simp only [List.length_map] at hlen
        obtain ⟨fn, tmps, assign, body, hy, hR⟩ := hY pre ⟨(some ⟨b, o, none⟩, j), k, hk, hk1, hr⟩ wr hJ (by omega)
        dsimp only at hy
        gi_wp2
        refine hR.mono ?_
        rintro e W3 (⟨rfl, hJ3, hk3⟩ | ⟨rfl, hJx3⟩)
        · have hB3 := hB.trans hk3
          have hq3 : W3.cell? ⟨b, o + 2, none⟩ = some (.pointer a2) := (hB3.cell (p := ⟨b, o + 2, none⟩) hb).trans hc2
          gi_wp2
          go_roundw
          case rel => exact ⟨_, k.parent, hr2, by omega, by simpa using hpath.stepR hk hk1, hJ3, hB3⟩
          case measure => exact hlf _ hB3
        · gi_wp2
          refine bodyPost_ret (results_none rfl _ _ _) rfl ?_
          exact ⟨⟨_, rfl⟩, .inr ⟨_, ⟨k.parent, by simpa using hpath.stepR hk hk1⟩, hJx3⟩⟩
      · have hk2 : (k.kind == 1) = false := by simpa using hk1
        gi_wp2
        refine ⟨fun _ h => (by cases h), ?_⟩
        gi_wp2
        go_roundw
        case rel => exact ⟨_, k.parent, hr2, by omega, hpath.skipR hk hk1, hJ, hB⟩
        case measure => exact hlf _ hB
theorem iter_stops (n Bn : Nat) (p : Prg) (hh : Heads p) (g : Gh) (w0 w : World) (hC : ∀ b, g.C b → b < w0.heap.size) (j0 : Nat) (k0 : Blk) (hk0 : p[j0]? = some k0) (a0 : Option Addr) (ha0 : RV g w0 (.pointer a0) (scopeA p j0)) (hn : 1 ≤ n)
    (hw : Below w0.heap.size w0 w) (hBl : Bn < w.heap.size) (hc : w.cell? ⟨Bn, 0, none⟩ = some (.pointer a0)) :
    SeqStopsK Fence.wide n Tryz.prog 189 #[.pointer (some ⟨Bn, 0, none⟩)] (fun x : FnAt g w0 p => #[Value.pointer x.1.1]) (Below w0.heap.size)
      (fun ys => ∃ j, j < 0 ∧ Path p k0.parent (ys.map (fun y : FnAt g w0 p => y.1.2)) j) (fun pre => ∃ j, Path p k0.parent (pre.map (fun y : FnAt g w0 p => y.1.2)) j) p.length w := fun l J Jx W hW _ _ hY h0 =>
  iter_in n l Bn p hh g w0 hC j0 k0 hk0 a0 ha0 J Jx hn hY W (hw.trans (hW.mono hw.size)) ((hW.cell (p := ⟨Bn, 0, none⟩) hBl).trans hc) h0
theorem functionsOutside_in (n : Nat) (a0 : Option Addr) (w : World) :
    CallsIn Fence.wide n Tryz.prog 166 #[.pointer a0] w fun e w' => e = .returned (.func (.func 189) #[] #[.pointer (some ⟨w.heap.size, 0, none⟩)]) ∧ w' = w.alloc (.cells #[.pointer a0] 106) := by
  refine callsIn_of_wp Tryz.func166 rfl trivial ?_ rfl
  simp only [Tryz.ntmps166, List.size_toArray, List.length_cons, List.length_nil, Nat.reduceAdd, Nat.reduceSub, Array.replicate_succ, Array.replicate_zero, List.push_toArray, List.append_toArray, List.nil_append, List.cons_append]
  gi_wp2
  go_ret
  exact ⟨rfl, rfl⟩
end Go.Proofs.YtcbkblboonkfhaaGreat
end
section
namespace Go.Proofs.YtcbkblboonkfhaaGreat
open Go Go.Hm Go.Proofs Go.RowKit Go.Shelf
attribute [local go_sem] Oper.semAt_some
theorem cell_of_box {W : World} {B : Nat} {v : Value} {t : TypeId} (h : W.heap[B]? = some (.cells #[v] t (0, 0))) : W.cell? ⟨B, 0, none⟩ = some v ∧ W.frozen? ⟨B, 0, none⟩ = false := by
  constructor <;> simp [World.cell?, World.frozen?, h]
theorem cell_new' (W : World) (v : Value) (t : TypeId) : (W.alloc (.cells #[v] t)).cell? ⟨W.heap.size, 0, none⟩ = some v ∧ (W.alloc (.cells #[v] t)).frozen? ⟨W.heap.size, 0, none⟩ = false := cell_of_box (World.alloc_heap_new W _)
theorem cell_alloc' {W : World} {a : Addr} {v : Value} (o : Obj) (h : W.cell? a = some v) : (W.alloc o).cell? a = some v := cell_kept h (World.grownBy_alloc W o none) (fun r e => by cases e)
theorem frozen_alloc' {W : World} {a : Addr} {v : Value} (o : Obj) (h : W.cell? a = some v) (hf : W.frozen? a = false) : (W.alloc o).frozen? a = false := (frozen_kept h (World.grownBy_alloc W o none) (fun r e => by cases e)).trans hf
theorem outerOwner_in (n : Nat) (hn : 3 ≤ n) (p : Prg) (hh : Heads p) (hb0 : ∀ k, p[0]? = some k → k.kind ≠ 1) (g : Gh) (w : World) (hC : ∀ b, g.C b → b < w.heap.size) (i : Nat) (k : Blk) (hk : p[i]? = some k) (a0 : Option Addr) (ha : RV g w (.pointer a0) (scopeA p i)) (x : Nat) (hx : x < 8) :
    CallsIn Fence.wide n Tryz.prog 131 #[.pointer a0, .int .i64 x] w fun e W' => e = .returned (.int .i64 (outerF p x p.length k.parent)) ∧ Below w.heap.size w W' := by
  have h1 : 1 ≤ n := by omega
  refine callsIn_of_wp_marks Tryz.func131 rfl trivial ?_ rfl
  simp only [Tryz.ntmps131, List.size_toArray, List.length_cons, List.length_nil, Nat.reduceAdd, Nat.reduceSub, Array.replicate_succ, Array.replicate_zero, List.push_toArray, List.append_toArray, List.nil_append, List.cons_append]
  gi_wp2_with (refine ⟨trivial, ?_⟩; gi_at_call 166; refine (functionsOutside_in (n - 1) _ _).mono ?_; rintro e w' ⟨rfl, rfl⟩)
  have c0 := cell_new' w (.int .i64 x) 3
  have c1 := cell_new' (w.alloc (.cells #[.int .i64 x] 3)) (.int .i64 0) 3
  have c2 := cell_new' ((w.alloc (.cells #[.int .i64 x] 3)).alloc (.cells #[.int .i64 0] 3)) (.pointer a0) 106
  simp only [World.size_alloc] at c1 c2
  have hB0 : Below w.heap.size w (((w.alloc (.cells #[.int .i64 x] 3)).alloc (.cells #[.int .i64 0] 3)).alloc (.cells #[.pointer a0] 106)) := (((Below.refl _ w).alloc (Nat.le_refl _) _).alloc (by simp) _).alloc (by simp; omega) _
  refine wpIn_rangeFunc_ownF rfl h1 (gf := 189) (lb := #[.pointer (some ⟨w.heap.size + 1 + 1, 0, none⟩)]) rfl trivial (enters_of Tryz.func189 (by kernel_rfl) rfl)
    (iter_stops (n - 1) (w.heap.size + 1 + 1) p hh g w _ hC i k hk a0 ha (by omega) hB0 (by simp) c2.1) belowK_t (belowK_b (by simp; omega)) (Below.refl _ _) (fun _ => rfl)
    (fun pre W => ((∀ y ∈ pre, found p x y.1.2 = none) ∧ W.cell? ⟨w.heap.size, 0, none⟩ = some (.int .i64 x) ∧ W.cell? ⟨w.heap.size + 1, 0, none⟩ = some (.int .i64 0) ∧ W.frozen? ⟨w.heap.size + 1, 0, none⟩ = false) ∧ Below w.heap.size w W)
    (fun c pre W => (c = .ret ∧ (∃ l y r, pre = l ++ [y] ∧ (∀ y ∈ l, found p x y.1.2 = none) ∧ found p x y.1.2 = some r ∧ W.cell? ⟨w.heap.size + 1, 0, none⟩ = some (.int .i64 r))) ∧ Below w.heap.size w W)
    (OwnFrom.and (Own.from (fun s A B row hs hg hr => ⟨hs.1, cell_kept hs.2.1 hg hr, cell_kept hs.2.2.1 hg hr, (frozen_kept hs.2.2.1 hg hr).trans hs.2.2.2⟩) _) (ownFrom_below (Nat.le_refl _) (by simp; omega)))
    (fun c => OwnFrom.and (Own.from (fun s A B row hs hg hr => ⟨hs.1, by obtain ⟨l, y, r, e1, e2, e3, e4⟩ := hs.2; exact ⟨l, y, r, e1, e2, e3, cell_kept e4 hg hr⟩⟩) _) (ownFrom_below (Nat.le_refl _) (by simp; omega)))
    ⟨⟨by simp, cell_alloc' _ (cell_alloc' _ c0.1), cell_alloc' _ c1.1, frozen_alloc' _ c1.1 c1.2⟩, hB0⟩
    (fun y => { tmps := #[.pointer a0, .int .i64 x, undef, .pointer (some ⟨w.heap.size, 0, none⟩), .pointer (some ⟨w.heap.size + 1, 0, none⟩), .pointer y.1.1, .pointer a0, .func (.func 189) #[] #[.pointer (some ⟨w.heap.size + 1 + 1, 0, none⟩)], .pointer y.1.1, undef, undef, undef, undef, undef, undef, undef, undef, undef, undef, undef, undef, undef], defers := [] }) ?assign ?body ?done ?stop
  case assign =>
    intro l y W K hK
    gi_wp2
    exact hK
  case body =>
    rintro l pre ⟨⟨ay, j⟩, q, hq, hq1, hr⟩ W ⟨⟨hp, hcx, hcr, hfr⟩, hB⟩ _
    dsimp only at hq hr ⊢
    obtain ⟨b, o, rfl, hs⟩ : ∃ b o, ay = some ⟨b, o, none⟩ ∧ ScAt g w p j q b o := by
      obtain ⟨b, o, e, h⟩ := hr.scAt hh hq
      exact ⟨b, o, by simpa using e, h⟩
    have hb := hC b hs.C
    have hg : W.cell? ⟨b, o + (27 + x), none⟩ = some (.bool (decide ((x : Int) ∈ q.dc 9))) := (hB.cell (p := ⟨b, o + (27 + x), none⟩) hb).trans (hs.glob x hx)
    have hidx : W.cell? ⟨b, o, none⟩ = some (.int .i64 j) := (hB.cell (p := ⟨b, o, none⟩) hb).trans hs.idx
    have h8 : (x : Int) < 8 := by omega
    have hg2 : W.cell? ⟨b, o + 27 + x, none⟩ = some (.bool (decide ((x : Int) ∈ q.dc 9))) := by rw [Nat.add_assoc]; exact hg
    have hmx : Tryz.prog.follows .mixedOrders = true := by kernel_rfl
    have hj0 : 0 < j := by
      rcases Nat.eq_zero_or_pos j with rfl | h
      · exact absurd hq1 (hb0 q hq)
      · exact h
    have hcall : ∀ W', Below w.heap.size w W' → Calls Tryz.prog 130 #[.pointer (some ⟨b, o, none⟩), .int .i64 x] W' fun e W'' => e = .returned (.bool (isLocal j q x)) ∧ Below W'.heap.size W' W'' := by
      intro W' hB'
      have hF := scope_isLocal_fn (fun _ => none) j q (scopeA p q.parent) q.params x hx
      have e : (q.kind != 0 && decide ((x : Int) ∈ q.bd) && !(decide ((x : Int) ∈ q.dc 9) || decide ((x : Int) ∈ q.dc 10))) = isLocal j q x := by
        simp [isLocal, hq1, hj0, Bool.and_assoc]
      rw [e] at hF
      refine FnOk.raw hF (g := g) (fun b hb => Nat.lt_of_lt_of_le (hC b hb) hB'.size) rfl ?_
      intro a v y hv hy
      match a, hv, hy with
      | 0, hv, hy =>
        obtain rfl := Option.some.inj hv
        obtain rfl := Option.some.inj hy
        have := hr.keepB hC hB'
        rwa [scopeA_eq hh hq] at this
      | 1, hv, hy =>
        obtain rfl := Option.some.inj hv
        obtain rfl := Option.some.inj hy
        exact .sc _
      | a + 2, hv, _ => simp at hv
    have hBd : Below w.heap.size w W.drew := ⟨hB.os, hB.tape, hB.output, hB.size, hB.block⟩
    have hbW : b < W.drew.heap.size := Nat.lt_of_lt_of_le hb hB.size
    have hrW : w.heap.size + 1 < W.drew.heap.size := by
      refine Nat.lt_of_not_le fun hge => ?_
      have : W.heap[w.heap.size + 1]? = none := Array.getElem?_eq_none hge
      simp [World.cell?, this] at hcr
    have hko : ∀ w3, Below W.drew.heap.size W.drew w3 → KeepsOthers W w3 := fun w3 h => ⟨h.size, fun k o hk _ => (h.block k (Array.getElem?_eq_some_iff.1 hk).1).trans hk⟩
    have hfd : found p x j = if (x : Int) ∈ q.dc 9 then some (-1) else if isLocal j q x then some (j : Int) else none := by simp only [found, hq]
    by_cases hm : (x : Int) ∈ q.dc 9
    · rw [decide_eq_true hm] at hg hg2
      rw [if_pos hm] at hfd
      gi_wp2
      gi_region_o
      all_goals gi_wp2
      all_goals exact ⟨(KeepsOthers.drew W).trans (KeepsOthers.setCell _ _ _), ⟨rfl, pre, ⟨(some ⟨b, o, none⟩, j), q, hq, hq1, hr⟩, -1, rfl, hp, hfd, World.cell?_setCell_same' _ _ _ (by rw [hcr]; rfl)⟩, hBd.setCell (p := ⟨w.heap.size + 1, 0, none⟩) (by simp) _⟩
    · rw [decide_eq_false hm] at hg hg2
      rw [if_neg hm] at hfd
      cases hl : isLocal j q x with
      | true =>
        rw [hl] at hcall
        rw [if_pos hl] at hfd
        gi_wp2
        gi_region_o
        all_goals gi_wp2_with (refine ⟨trivial, fun _ => by omega, ?_⟩; refine (CallsIn.inRound l (callsIn_wide.2 (hcall _ hBd))).mono ?_; rintro e w3 ⟨rfl, hbw⟩; have hi3 := (hbw.cell (p := ⟨b, o, none⟩) hbW).trans hidx; have hc3 := (hbw.cell (p := ⟨w.heap.size + 1, 0, none⟩) hrW).trans hcr; have hf3 := (hbw.frozen (p := ⟨w.heap.size + 1, 0, none⟩) hrW).trans hfr)
        all_goals exact ⟨(hko _ (by assumption)).trans (KeepsOthers.setCell _ _ _), ⟨rfl, pre, ⟨(some ⟨b, o, none⟩, j), q, hq, hq1, hr⟩, (j : Int), rfl, hp, hfd, World.cell?_setCell_same' _ _ _ (by rw [hc3]; rfl)⟩, (hBd.trans (Below.mono (by assumption) hBd.size)).setCell (p := ⟨w.heap.size + 1, 0, none⟩) (by simp) _⟩
      | false =>
        rw [hl] at hcall
        rw [if_neg (by rw [hl]; decide)] at hfd
        gi_wp2
        gi_region_o
        all_goals gi_wp2_with (refine ⟨trivial, fun _ => by omega, ?_⟩; refine (CallsIn.inRound l (callsIn_wide.2 (hcall _ hBd))).mono ?_; rintro e w3 ⟨rfl, hbw⟩)
        all_goals
          have hWw : Below W.drew.heap.size W.drew w3 := by assumption
          have hB3 : Below w.heap.size W.drew w3 := hWw.mono hBd.size
          have hBW : Below w.heap.size W w3 := ⟨hB3.os, hB3.tape, hB3.output, hB3.size, hB3.block⟩
          have hsW : w.heap.size < W.drew.heap.size := Nat.lt_of_succ_lt hrW
          refine ⟨hko _ hWw, hBW, ⟨fun y hy => ?_, (hWw.cell (p := ⟨w.heap.size, 0, none⟩) hsW).trans hcx, (hWw.cell (p := ⟨w.heap.size + 1, 0, none⟩) hrW).trans hcr, (hWw.frozen (p := ⟨w.heap.size + 1, 0, none⟩) hrW).trans hfr⟩, hB.trans hBW⟩
          rcases List.mem_append.1 hy with hy | hy
          · exact hp y hy
          · obtain rfl := List.mem_singleton.1 hy
            exact hfd
  case done =>
    rintro D ys W hD ⟨je, hneg, hpath⟩ ⟨⟨hne, _, hcr, hfr⟩, hB⟩ hK
    gi_wp2
    have hK' := (KeepsOthers.setCell W ⟨w.heap.size + 1, 0, none⟩ (.int .i64 (-1))).same D _ hK rfl
    refine ⟨by simp, .inl ⟨_, _, rfl, run_takeDeferred hK', ?_⟩⟩
    have hc5 := cell_kept (World.cell?_setCell_same' W ⟨w.heap.size + 1, 0, none⟩ (.int .i64 (-1)) (by rw [hcr]; rfl)) (grownBy_putObj' _ D (.deferred none)) (fun r e => by cases e; exact ⟨_, hK', rfl⟩)
    have hout : outerF p x p.length k.parent = -1 := by
      rw [hpath.outer hh hb0 (x := x) (fun y hy => by obtain ⟨z, hz, rfl⟩ := List.mem_map.1 hy; exact hne z hz), outerF_end (by omega)]
    refine ⟨.int .i64 (-1), ?_, by rw [hout], (hB.setCell (p := ⟨w.heap.size + 1, 0, none⟩) (by simp) _).trans (belowK_b (w := w) (Nat.le_refl _) _ D _ _ (by simp at hD; omega) hK' rfl rfl)⟩
    simp [results, Tryz.f131, go_sem, hc5]
  case stop =>
    rintro D c pre W hD ⟨je, hpath⟩ ⟨⟨rfl, l, y, r, rfl, hno, hf, hcr⟩, hB⟩ hK
    gi_wp2
    refine ⟨by simp, .inl ⟨_, _, rfl, run_takeDeferred hK, ?_⟩⟩
    have hc5 := cell_kept hcr (grownBy_putObj' _ D (.deferred none)) (fun r e => by cases e; exact ⟨_, hK, rfl⟩)
    have hout : outerF p x p.length k.parent = r := by
      rw [List.map_append, List.map_singleton] at hpath
      exact Path.found hh hpath hb0 (fun y hy => by obtain ⟨z, hz, rfl⟩ := List.mem_map.1 hy; exact hno z hz) hf
    refine ⟨.int .i64 r, ?_, by rw [hout], hB.trans (belowK_b (w := w) (Nat.le_refl _) W D _ _ (by simp at hD; omega) hK rfl rfl)⟩
    simp [results, Tryz.f131, go_sem, hc5]
theorem outerOwner_fn (gl) (p : Prg) (hh : Heads p) (hb0 : ∀ k, p[0]? = some k → k.kind ≠ 1) (i : Nat) (k : Blk) (hk : p[i]? = some k) (x : Nat) (hx : x < 8) :
    FnOk Tryz.prog gl 131 [scopeA p i, iv x] (fun _ y _ => y = iv (outer p i x)) := by
  refine FnOk.of_raw ⟨_, Tryz.func131, by kernel_rfl, by kernel_rfl⟩ fun w g args hC hsz hargs => ?_
  rw [outer_fuel hh hk]
  obtain ⟨v0, v1, rfl⟩ : ∃ v0 v1, args = #[v0, v1] := by
    refine ⟨args[0]'(by simp at hsz; omega), args[1]'(by simp at hsz; omega), ?_⟩
    apply Array.ext
    · simpa using hsz
    · intro i h1 h2
      match i with
      | 0 => rfl
      | 1 => rfl
      | i + 2 => simp at hsz; omega
  have h0 := hargs 0 v0 _ rfl rfl
  have h1 := hargs 1 v1 _ rfl rfl
  obtain ⟨a0, rfl⟩ := h0.ptr
  obtain rfl := h1.sc_eq
  exact callsIn_wide.1 (outerOwner_in 3 (Nat.le_refl _) p hh hb0 g w hC i k hk a0 h0 x hx)
end Go.Proofs.YtcbkblboonkfhaaGreat
end
section
namespace Go.Proofs.YtcbkblboonkfhaaGreat
open Go Go.Hm Go.Proofs
abbrev scEl (p : Prg) (i : Nat) (k : Blk) : AV := .el (scopeRow i k (scopeA p k.parent) k.params) 0
theorem outerOwner_fn' (gl) (p : Prg) (hp : ShapeP p) (i : Nat) (k : Blk) (hk : p[i]? = some k) (x : Nat) (hx : x < 8) : FnOk Tryz.prog gl 131 [scEl p i k, iv x] (fun _ y _ => y = iv (outer p i x)) := by
  have := outerOwner_fn gl p hp.heads hp.fun0 i k hk x hx
  rwa [scopeA_eq hp.heads hk] at this
theorem scope_owner_fn (gl) (p : Prg) (hp : ShapeP p) (i : Nat) (k : Blk) (hk : p[i]? = some k) (x : Nat) (hx : x < 8) : FnOk Tryz.prog gl 86 [scEl p i k, iv x] (fun _ y _ => y = iv (owner p i x)) := by
  have h8 : (x : Int) < 8 := by omega
  have hg := scopeRow_g (i := i) (k := k) (o := scopeA p k.parent) (ps := k.params) hx
  have hk0 := hp.kind0 hk
  refine FnOk.of_sem Tryz.func86 rfl (by kernel_rfl) (rs := [.tmp 4]) rfl Tryz.ntmps86 (Nat.le_of_ble_eq_true rfl) fun C w g root => ?_
  all_goals have fx := And.intro h8 <| hg
  repeat' (first
   | refine w_seq ?_ | refine w_skip ?_ | refine w_reg fun K hK => ?_
   | ((with_reducible refine s_end hK ?_); clear hK K)
   | (with_reducible first | refine then_normal ?_ | refine then_ret ?_)
   | refine w_ret ?_
   | (with_reducible refine s_none ?_)
   | ((with_reducible refine g_id ?_); refine x_guard (h := ?_))
   | (with_reducible first | refine gx_ff ?_ | refine x_ft (h := ?_) | refine x_assign (h := ?_))
   | ((with_reducible refine o_id 130 rfl ?_); refine x_call (hF := scope_isLocal_fn _ _ _ _ _ _ hx) (h := ?_))
   | ((with_reducible refine o_id 131 rfl ?_); refine x_call (hF := outerOwner_fn' _ p hp i k hk x hx) (h := ?_))
   | (with_reducible refine x_q (h := ?_))
   | (with_reducible refine gx_s (fun ht => ?_) (fun ht => ?_))
   | refine x_condt (h1 := ?_)
   | refine x_if (h1 := fun ht => ?_) (h2 := fun ht => ?_)
   | fail)
  all_goals try clear fx
  all_goals refine e_ret [] .nil (by simp; rfl) ?_
  all_goals simp_all [owner, isLocal]
  all_goals grind
theorem validDeclarations_fn (gl) (p : Prg) (hp : ShapeP p) (i : Nat) (k : Blk) (hk : p[i]? = some k) : FnOk Tryz.prog gl 104 [scEl p i k] (fun _ y _ => y = bv (declsOk p i)) := by
  have hdo : declsOk p i = (List.range 8).all (fun x => declOk p i k (x : Int)) := by simp only [declsOk, hk]
  rw [hdo]
  refine FnOk.of_sem Tryz.func104 rfl (by kernel_rfl) (rs := [.tmp 2]) rfl Tryz.ntmps104 (Nat.le_of_ble_eq_true rfl) fun C w g root => ?_
  have fx := fx0
  refine k_run ?_
  clear fx
  refine w_loop (fun n st => ∃ x : Nat, n = 8 - x ∧ x ≤ 8 ∧ st.tm 0 = scEl p i k ∧ st.tm 4 = iv x ∧ (List.range x).all (fun x => declOk p i k (x : Int)) = true) 8 ⟨0, by simp⟩ ?_
  rintro n st - - ⟨x, rfl, hx, h0, h4, hal⟩
  have fx := And.intro h0 <| h4
  refine k_run ?_
  clear fx
  refine w_if (by simp []; first | done | rfl | exact (Bool.not_not _).symm) (fun ht => ?_) (fun hf => ?_)
  · have h8 : (x : Int) < 8 := by simpa using ht
    have hx8 : x < 8 := by omega
    have hg := scopeRow_g (i := i) (k := k) (o := scopeA p k.parent) (ps := k.params) hx8
    have hn := scopeRow_n (i := i) (k := k) (o := scopeA p k.parent) (ps := k.params) hx8
    have hq := scopeRow_p (i := i) (k := k) (o := scopeA p k.parent) (ps := k.params) hx8
    have hge := outer_ge (p := p) (b := i) (x := x)
    have fin : declOk p i k x = false → (List.range 8).all (fun x => declOk p i k (x : Int)) = false := fun h => range_false hx8 h
    have nxt : declOk p i k x = true → (List.range (x + 1)).all (fun x => declOk p i k (x : Int)) = true := fun h => by rw [all_range_succ, hal, h]; rfl
    clear ht hal
    all_goals have fx := And.intro h0 <| And.intro h4 <| And.intro h8 <| And.intro hg <| And.intro hn <| hq
    repeat' (first
     | refine w_seq ?_ | refine w_block ?_ | refine w_skip ?_ | refine w_reg fun K hK => ?_
     | ((with_reducible refine s_end hK ?_); clear hK K)
     | (with_reducible first | refine then_normal ?_ | refine in_normal ?_ | refine then_exit ?_ | refine in_exit ?_ | refine then_ret ?_ | refine in_ret ?_ | refine in_other (by decide) ?_)
     | refine w_exit ?_
     | refine w_ret ?_
     | (with_reducible refine s_none ?_)
     | ((with_reducible refine g_id ?_); refine x_guard (h := ?_))
     | (with_reducible first | refine gx_tt ?_ | refine gx_ff ?_ | refine x_tf (h := ?_) | refine x_ft (h := ?_) | refine x_u (h := ?_) | refine x_assign (h := ?_))
     | ((with_reducible refine o_id 126 rfl ?_); refine x_call (hF := declares_fn _ _ _ _ _ _ hx8) (h := ?_))
     | ((with_reducible refine o_id 131 rfl ?_); refine x_call (hF := outerOwner_fn' _ p hp i k hk x hx8) (h := ?_))
     | (with_reducible refine x_q (h := ?_))
     | (with_reducible refine gx_s (fun ht => ?_) (fun ht => ?_))
     | refine x_condt (h1 := ?_) | refine x_condf (h1 := ?_)
     | refine x_if (h1 := fun ht => ?_) (h2 := fun ht => ?_)
     | fail)
    all_goals try clear fx
    all_goals clear hg hn hq
    all_goals first
      | (refine e_ret [] .nil (by simp; rfl) ?_
         rw [fin (by simp only [declOk]; simp_all; done)]
         rfl)
      | (refine ⟨8 - (x + 1), by omega, x + 1, rfl, by omega, by simp [h0], by simp; exact wrp (by omega) (by omega), nxt ?_⟩
         simp only [declOk]
         simp_all
         try omega)
  · have hge : x = 8 := by
      have : ¬ (x : Int) < 8 := by simpa using hf
      omega
    subst hge
    have fx := fx0
    refine k_run ?_
    clear fx
    refine e_ret [] .nil (by simp []; rfl) (by simp [hal])
theorem bw_sc {hp : Nm → Option AO} {n : Nm} {p : Prg} {j : Nat} {k : Blk} (h : OwnS hp n p p.length) (hh : Heads p) (hk : p[j]? = some k) : Bw hp noD (.pt (.c n j 0) 0) (scEl p j k) := by
  have := bw_scope h hh j (gS hk).1
  rwa [scopeA_eq hh hk] at this
theorem sRows_at {n : Nm} {len j : Nat} (h : j < len) : (sRows n len len)[j]? = some [AV.pt (.c n j 0) 0] := by rw [sRows_get h, if_pos h]
theorem declsOk0 {p : Prg} (hp : ShapeP p) : declsOk p 0 = true := by
  obtain ⟨k, hk⟩ : ∃ k, p[0]? = some k := ⟨_, gE (by have := hp.len.1; omega)⟩
  simp only [declsOk, hk, List.all_eq_true]
  intro x _
  simp [declOk, hp.decl0 hk]
theorem impl_ValidProgram_fn (gl) (p : Prg) (hs : Sml p) : FnOk Tryz.prog gl 52 [pav p] (fun _ y _ => y = bv (progOk p)) := by
  refine FnOk.of_sem Tryz.func52 rfl (by kernel_rfl) (rs := [.tmp 2]) rfl Tryz.ntmps52 (Nat.le_of_ble_eq_true rfl) fun C w g root => ?_
  cases hsh : shapeOk p with
  | false =>
    have fx :=  hsh
    have c1 := impl_ValidShape_fn gl p hs
    refine k_run ?_
    clear fx c1
    refine e_ret [] .nil (by simp; rfl) ?_
    simp [progOk, hsh]
  | true =>
    have hp := ShapeP.of hs hsh
    have hh := hp.heads
    have hl7 := hp.len
    have hpo : progOk p = (List.range p.length).all (fun b => b == 0 || declsOk p b) := by simp only [progOk, hsh, Bool.true_and]
    rw [hpo]
    have fx :=  hsh
    have c1 := impl_ValidShape_fn gl p hs
    have e1 := scopesOf_fn gl p hs hh hp.names
    refine k_run ?_
    clear fx c1 e1
    first | rintro K hK y H' ⟨rfl, hO⟩ | rintro y H' ⟨rfl, hO⟩
    obtain ⟨ho1, ho2⟩ := hO.hcln
    refine ⟨by simp, ?_⟩
    have fx := fx0
    refine k_run ?_
    clear fx
    refine w_loop (fun n st => ∃ i : Nat, n = p.length - i ∧ i ≤ p.length ∧ st.tm 9 = .hs (.s 9) 1 0 p.length ∧ OwnS st.hp (.s 9) p p.length ∧ st.tm 10 = iv p.length ∧ st.tm 11 = iv i ∧ (List.range i).all (fun b => b == 0 || declsOk p b) = true) p.length ?_ ?_
    · exact ⟨0, by simp, by simp, by simp, ⟨by simp [ho1], fun j k hj hk => by simp [ho2 j k hj hk]⟩, by simp, by simp, by simp⟩
    clear ho1 ho2 hO
    rintro n st - - ⟨i, rfl, hi, h9, ⟨ho1, ho2⟩, h10, h11, hal⟩
    have fx := And.intro h10 <| h11
    refine k_run ?_
    clear fx
    refine w_if (by simp []; first | done | rfl | exact (Bool.not_not _).symm) (fun ht => ?_) (fun hf => ?_)
    · have hlt : i < p.length := by simpa using ht
      obtain ⟨k, hk⟩ : ∃ k, p[i]? = some k := ⟨_, gE hlt⟩
      have hsg := sRows_at (n := .s 9) hlt
      obtain ⟨_, hse⟩ := gS hsg
      clear ht
      all_goals have fx := And.intro h9 <| And.intro ho1 <| And.intro h10 <| And.intro h11 <| And.intro hsg <| And.intro hse <| hlt
      repeat' (first
       | refine w_seq ?_ | refine w_block ?_ | refine w_skip ?_ | refine w_reg fun K hK => ?_
       | ((with_reducible refine s_end hK ?_); clear hK K)
       | (with_reducible first | refine then_normal ?_ | refine in_normal ?_ | refine then_exit ?_ | refine in_exit ?_ | refine then_ret ?_ | refine in_ret ?_ | refine in_other (by decide) ?_)
       | refine w_exit ?_
       | refine w_ret ?_
       | (with_reducible first | refine s_none ?_ | refine x_assign (h := ?_) | refine x_box (h := ?_))
       | ((with_reducible refine o_id 104 rfl ?_); refine x_call (hB := (by first | ((repeat' (first | exact .nil | refine .cons ?_ ?_ | exact .refl _ | exact bw_ints (by simp [fx]; first | done | rfl) (by first | (simp [fx]; done) | (simp [fx]; omega) | omega) | exact bw_list (by simp [fx]; first | done | rfl) (by first | (simp [fx]; done) | (simp [fx]; omega) | omega) (by first | (simp; done) | fail) | exact bw_sc (n := .s 9) (p := p) (k := k) ⟨by simp [ho1], fun j k hj hk => by simp [ho2 j k hj hk]⟩ hh hk)); done) | fail)) (hF := validDeclarations_fn _ p hp i k hk) (h := ?_))
       | (with_reducible refine x_q (h := ?_))
       | refine x_condt (h1 := ?_) | refine x_condf (h1 := ?_)
       | refine x_if (h1 := fun ht => ?_) (h2 := fun ht => ?_)
       | fail)
      all_goals try clear fx
      · refine e_ret [] .nil (by simp; rfl) ?_
        have hd : declsOk p i = false := by simpa using ht
        have hi0 : i ≠ 0 := fun e => by rw [e, declsOk0 hp] at hd; cases hd
        rw [range_false hlt (show (i == 0 || declsOk p i) = false by simp [hd, hi0])]
        rfl
      · have hd : declsOk p i = true := by simpa using ht
        refine ⟨p.length - (i + 1), by omega, i + 1, rfl, by omega, by simp [h9], ⟨by simp [ho1], fun j k hj hk => by simp [ho2 j k hj hk]⟩, by simp [h10], by simp; exact wrp (by omega) (by omega), ?_⟩
        rw [all_range_succ, hal, hd]
        simp
    · have hge : i = p.length := by
        have : ¬ i < p.length := by simpa using hf
        omega
      subst hge
      have fx := fx0
      refine k_run ?_
      clear fx
      refine e_ret [] .nil (by simp []; rfl) (by simp [hal])
theorem missing_fn (gl) (p : Prg) (hp : ShapeP p) (i : Nat) (k : Blk) (hk : p[i]? = some k) (hi0 : 0 < i) : FnOk Tryz.prog gl 79 [scEl p i k] (fun r y H' => y = .hs r 4 0 (explicitL p i k).length ∧ H' r = some (.row 4 (srows (explicitL p i k)))) := by
  have hex : explicitL p i k = (sortedTo (readsAll k.body) 8).flatMap (explicitOf p i k) := by
    simp only [explicitL, if_neg (show ¬ i = 0 by omega), Blk.rd, sorted]
  rw [hex]
  refine FnOk.of_sem Tryz.func79 rfl (by kernel_rfl) (rs := [.tmp 2]) rfl Tryz.ntmps79 (Nat.le_of_ble_eq_true rfl) fun C w g root => ?_
  have fx := fx0
  refine k_run ?_
  clear fx
  refine w_loop (fun n st => ∃ x : Nat, n = 8 - x ∧ x ≤ 8 ∧ st.tm 0 = scEl p i k ∧ st.tm 5 = iv x ∧ ∃ L : List Stm, L = (sortedTo (readsAll k.body) x).flatMap (explicitOf p i k) ∧ L.length ≤ x ∧ st.tm 3 = .hs (.s 3) 4 0 L.length ∧ st.hp (.s 3) = some (.row 4 (srows L))) 8 ?_ ?_
  · exact ⟨0, by simp, by simp, by simp, by simp, [], by simp [sortedTo], by simp, by simp, by simp⟩
  rintro n st - - ⟨x, rfl, hx, h0, h5, L, hL, hLx, h3, hp3⟩
  have fx := And.intro h0 <| h5
  refine k_run ?_
  clear fx
  refine w_if (by simp []; first | done | rfl | exact (Bool.not_not _).symm) (fun ht => ?_) (fun hf => ?_)
  · have h8 : (x : Int) < 8 := by simpa using ht
    have hx8 : x < 8 := by omega
    have hr := scopeRow_r (i := i) (k := k) (o := scopeA p k.parent) (ps := k.params) hx8
    have hge := owner_ge (p := p) (b := i) (x := x)
    have hrd : ((x : Int) ∈ k.rd) ↔ (x : Int) ∈ readsAll k.body := mem_sortedAt hx8
    have skip : ((x : Int) ∈ readsAll k.body → explicitOf p i k x = []) → L = (sortedTo (readsAll k.body) (x + 1)).flatMap (explicitOf p i k) := by
      intro h
      simp only [sortedTo]
      split
      · rename_i hm
        rw [List.flatMap_append, ← hL]
        simp [h hm]
      · exact hL
    have add : ∀ s, (x : Int) ∈ readsAll k.body → explicitOf p i k x = [s] → L ++ [s] = (sortedTo (readsAll k.body) (x + 1)).flatMap (explicitOf p i k) := by
      intro s hm h
      simp only [sortedTo, if_pos hm]
      rw [List.flatMap_append, ← hL]
      simp [h]
    clear ht
    all_goals have fx := And.intro h0 <| And.intro h5 <| And.intro h8 <| And.intro hr <| And.intro h3 <| hp3
    repeat' (first
     | refine w_seq ?_ | refine w_block ?_ | refine w_skip ?_ | refine w_reg fun K hK => ?_
     | ((with_reducible refine s_end hK ?_); clear hK K)
     | (with_reducible first | refine then_normal ?_ | refine in_normal ?_ | refine then_exit ?_ | refine in_exit ?_ | refine then_ret ?_ | refine in_ret ?_ | refine in_other (by decide) ?_)
     | refine w_exit ?_
     | refine w_ret ?_
     | (with_reducible refine s_none ?_)
     | ((with_reducible refine g_id ?_); refine x_guard (h := ?_))
     | (with_reducible first | refine gx_tt ?_ | refine gx_ff ?_ | refine x_tf (h := ?_) | refine x_ft (h := ?_) | refine x_u (h := ?_) | refine x_assign (h := ?_) | refine x_append0 (T := 44) (h := ?_) | refine x_append (T := 44) (h := ?_) | refine x_build (h := ?_))
     | ((with_reducible refine o_id 126 rfl ?_); refine x_call (hF := declares_fn _ _ _ _ _ _ hx8) (h := ?_))
     | ((with_reducible refine o_id 86 rfl ?_); refine x_call (hF := scope_owner_fn _ p hp i k hk x hx8) (h := ?_))
     | (with_reducible refine x_q (h := ?_))
     | (with_reducible refine gx_s (fun ht => ?_) (fun ht => ?_))
     | refine x_condt (h1 := ?_) | refine x_condf (h1 := ?_)
     | refine x_if (h1 := fun ht => ?_) (h2 := fun ht => ?_)
     | fail)
    all_goals try clear fx
    · refine ⟨8 - (x + 1), by omega, x + 1, rfl, by omega, by simp [h0], by simp; exact wrp (by omega) (by omega), L, skip (fun h => ?_), by omega, by simp [h3], by simp [hp3]⟩
      rw [← hrd] at h
      simp [h] at ht
    · refine ⟨8 - (x + 1), by omega, x + 1, rfl, by omega, by simp [h0], by simp; exact wrp (by omega) (by omega), L, skip (fun _ => ?_), by omega, by simp [h3], by simp [hp3]⟩
      simp only [explicitOf]
      rw [if_pos (by simp at ht; rcases ht with h | h <;> simp [h])]
    · refine ⟨8 - (x + 1), by omega, x + 1, rfl, by omega, by simp [h0], by simp; exact wrp (by omega) (by omega), L, skip (fun _ => ?_), by omega, by simp [h3], by simp [hp3]⟩
      simp only [explicitOf]
      rw [if_pos (by simp at ht; simp [ht])]
    · rename_i h2 h1 h4
      have hm : (x : Int) ∈ readsAll k.body := by rw [← hrd]; simpa using h2
      have h1' : ¬ ((x : Int) ∈ k.dc 9 ∨ (x : Int) ∈ k.dc 10 ∨ owner p i x = i) := by simp at h1 h4; simp [h1, h4]
      have ho : owner p i x < 0 := by simp at ht; omega
      refine ⟨8 - (x + 1), by omega, x + 1, rfl, by omega, by simp [h0], by simp; exact wrp (by omega) (by omega), L ++ [⟨9, x, 0, 0⟩], add _ hm (by simp only [explicitOf]; rw [if_neg h1', if_pos ho]), by simp; omega, by simp [h3], ?_⟩
      rw [← srows_app1]
      simp [hp3]
    · rename_i h2 h1 h4
      have hm : (x : Int) ∈ readsAll k.body := by rw [← hrd]; simpa using h2
      have h1' : ¬ ((x : Int) ∈ k.dc 9 ∨ (x : Int) ∈ k.dc 10 ∨ owner p i x = i) := by simp at h1 h4; simp [h1, h4]
      have ho : ¬ owner p i x < 0 := by simp at ht; omega
      refine ⟨8 - (x + 1), by omega, x + 1, rfl, by omega, by simp [h0], by simp; exact wrp (by omega) (by omega), L ++ [⟨10, x, 0, 0⟩], add _ hm (by simp only [explicitOf]; rw [if_neg h1', if_neg ho]), by simp; omega, by simp [h3], ?_⟩
      rw [← srows_app1]
      simp [hp3]
  · have hge : x = 8 := by
      have : ¬ (x : Int) < 8 := by simpa using hf
      omega
    subst hge
    have fx := And.intro h3 <| hp3
    refine k_run ?_
    clear fx
    rw [← hL]
    exact e_list (t := 2) (by first | (simp [hp3]; done) | (simp [hp3]; rfl)) (by first | (simp [hp3]; done) | (simp [hp3]; rfl)) (by simp)
abbrev qsQa0 : Sch := .q 0 <| .q 1 <| .q 2 <| .q 3 <| .q 4 <| .q 5 <| .q 6 <| .q 7 <| .q 8 <| .q 9 <| .q 10 <| .l 11 [8, 7, 6, 5, 4, 3, 2, 1, 0] <| .l 12 [] <| .done
theorem impl_ShownOf_fn (gl) (v : Val) : FnOk Tryz.prog gl 143 [Val.av v] (fun _ y _ => y = iv (Hm.shown v)) := by
  refine FnOk.of_sem Tryz.func143 rfl (by kernel_rfl) (rs := [.tmp 2]) rfl Tryz.ntmps143 (Nat.le_of_ble_eq_true rfl) fun C w g root => ?_
  by_cases h1 : v.1 = 1
  · skip
    have fx :=  h1
    refine k_run ?_
    clear fx
    refine e_ret [] .nil (by simp; rfl) (by simp [Hm.shown, h1])
  by_cases h2 : v.1 = 2
  · skip
    have fx := And.intro h1 <| h2
    refine k_run ?_
    clear fx
    refine e_ret [] .nil (by simp; rfl) (by simp [Hm.shown, h1, h2])
  by_cases h3 : v.1 = 3
  · skip
    have fx := And.intro h1 <| And.intro h2 <| h3
    refine k_run ?_
    clear fx
    refine e_ret [] .nil (by simp; rfl) (by simp [Hm.shown, h1, h2, h3])
  · skip
    have fx := And.intro h1 <| And.intro h2 <| h3
    refine k_run ?_
    clear fx
    refine e_ret [] .nil (by simp; rfl) (by simp [Hm.shown, h1, h2, h3])
theorem stop_fn (gl) (H : Nm → Option AO) (F : Nat) (p : Prg) (W : Wld) (e : Int) (hO : OwnM H F p W) :
    FnE Tryz.prog gl 152 DM [.pt Mn 0, iv e] H (fun _ y H' => y = bv false ∧ OwnM H' F p { W with en := e }) noE := by
  have hT := hO.top
  simp only [mRow] at hT
  refine FnE.of_sem Tryz.func152 rfl (by kernel_rfl) (rs := [.tmp 4]) rfl Tryz.ntmps152 (Nat.le_of_ble_eq_true rfl) (fun _ => DM_root) fun C w g root hroot => ?_
  have fx :=  hT
  refine k_run ?_
  clear fx
  refine e_ret [] .nil (by simp; rfl) ⟨by simp, OwnM.fin ⟨by simp [hO.top, mRow, hT], ⟨by simp [hO.scs.top, hT], fun j k hj hk => by simp [hO.scs.sc j k hj hk, hT]⟩, by simp [hO.out, hT], by simp [hO.trc, hT], hO.run.imp fun l hl => ⟨hl.1, by simp [hl.2, hT]⟩, by simp [hO.funs, hT], fun k g hg => by simp [hO.bx k g hg, hT], by simp [hO.clss, hT], fun k c hc => (hO.cls k c hc).imp fun ms hm => ⟨by simp [hm.1, hT], hm.2⟩, fun i a ha => by simp [hO.env i a ha, hT], fun i hi => (hO.nms i hi).imp fun ms hm => ⟨by simp [hm.1, hT], hm.2⟩, fun k i j hk hn => if e : k = 1 ∧ i = 0 ∧ j = 0 then .inl e else hO.only k i j hk (by simpa [hk, e] using hn)⟩⟩
theorem holderOf_fn (gl) (H : Nm → Option AO) (F : Nat) (p : Prg) (W : Wld) (a x : Nat) (hP : ShapeP p) (hw : WOk p W) (ha : a < W.acts.length) (hx : x < 8) (hO : OwnM H F p W) :
    FnE Tryz.prog gl 183 DM [.pt Mn 0, ptE a, iv x] H (fun _ y H' => y = .tup [ptE (hIdx (W.loc p a x)), iv (Hm.lack p (W.blk a) (owner p (W.blk a) x))] ∧ OwnM H' F p W) noE := by
  have hh := hP.heads
  obtain ⟨c, hc⟩ : ∃ c, W.acts[a]? = some c := ⟨_, gE ha⟩
  have hbl := hw.blks a c hc
  obtain ⟨k, hk⟩ : ∃ k, p[c.blk]? = some k := ⟨_, gE hbl⟩
  obtain ⟨_, hkE⟩ := gS hk
  have hbk := blk_at hc
  have hT := hO.top
  have hc1 := hO.scs.top
  have hc2 := hO.scs.sc
  have hE := hO.env a c hc
  simp only [mRow] at hT
  simp only [envRow] at hE
  have hsr := sRows_get (n := .c Mn 0 1) (len := p.length) (i := p.length) hbl
  rw [if_pos hbl] at hsr
  obtain ⟨_, hsE⟩ := gS hsr
  have hka : kindAt p c.blk = k.kind := by simp [kindAt, hk]
  refine FnE.of_sem Tryz.func183 rfl (by kernel_rfl) (rs := [.tmp 6, .tmp 7]) rfl Tryz.ntmps183 (Nat.le_of_ble_eq_true rfl) (fun _ => DM_root) fun C w g root hroot => ?_
  rcases loc_spec (x := (x : Int)) hh hw ha with ⟨h1, h2⟩ | ⟨o, i, d, ho, h1, h2, h3, hd, hdb, hins⟩
  · rw [hbk] at h1
    have hl : Hm.lack p (W.blk a) (owner p (W.blk a) x) = 4 := by rw [hbk, h1]; simp [Hm.lack]
    rw [hl, h2]
    have fx := And.intro hT <| And.intro hE <| And.intro hc1 <| And.intro hsr <| And.intro hsE <| And.intro hbl <| h1
    have c1 := scope_owner_fn gl p hP c.blk k hk x hx
    refine k_run ?_
    repeat ((first | refine wSc (id := 1) qsQa0 mixed ?_); refine k_rund ?_; refine k_run ?_)
    clear fx c1
    refine e_ret [] .nil (by simp; rfl) ⟨by simp [hIdx], OwnM.fin ⟨by simp [hO.top, mRow], ⟨by simp [hO.scs.top], fun j k hj hk => by simp [hO.scs.sc j k hj hk]⟩, by simp [hO.out], by simp [hO.trc], hO.run.imp fun l hl => ⟨hl.1, by simp [hl.2]⟩, by simp [hO.funs], fun k g hg => by simp [hO.bx k g hg], by simp [hO.clss], fun k c hc => (hO.cls k c hc).imp fun ms hm => ⟨by simp [hm.1], hm.2⟩, fun i a ha => by simp [hO.env i a ha], fun i hi => (hO.nms i hi).imp fun ms hm => ⟨by simp [hm.1], hm.2⟩, fun k i j hk hn => if e : k = 1 ∧ i = 0 ∧ j = 0 then .inl e else hO.only k i j hk (by simpa [hk, e] using hn)⟩⟩
  · rw [hbk] at h1
    have hon : ((o : Int) == -1) = false := by rw [beq_eq_false_iff_ne]; omega
    have hol : o < p.length := by rw [← hdb]; exact hw.blks i d hd
    rw [h2]
    by_cases hob : o = c.blk
    · have hai : i = a := by rw [h3, climb_here hc hob.symm]
      have hsame : ((c.blk : Int) == (c.blk : Int)) = true := by simp
      subst hob
      by_cases hk2 : k.kind = 2
      · have hl : Hm.lack p (W.blk a) (owner p (W.blk a) x) = 4 := by
          rw [hbk, h1]
          simp [Hm.lack, hka, hk2]
        rw [hl]
        have hkb : (k.kind == 2) = true := by simpa using hk2
        have hsc := hc2 c.blk k hbl hk
        have fx := And.intro hT <| And.intro hE <| And.intro hc1 <| And.intro hsr <| And.intro hsE <| And.intro hbl <| And.intro h1 <| And.intro hon <| And.intro hsame <| And.intro hsc <| And.intro hkb <| @bne_def
        have c1 := scope_owner_fn gl p hP c.blk k hk x hx
        refine k_run ?_
        repeat ((first | refine wSc (id := 1) qsQa0 mixed ?_); refine k_rund ?_; refine k_run ?_)
        clear fx c1
        refine e_ret [] .nil (by simp; rfl) ⟨by simp [hIdx, hai], OwnM.fin ⟨by simp [hO.top, mRow], ⟨by simp [hO.scs.top], fun j k hj hk => by simp [hO.scs.sc j k hj hk]⟩, by simp [hO.out], by simp [hO.trc], hO.run.imp fun l hl => ⟨hl.1, by simp [hl.2]⟩, by simp [hO.funs], fun k g hg => by simp [hO.bx k g hg], by simp [hO.clss], fun k c hc => (hO.cls k c hc).imp fun ms hm => ⟨by simp [hm.1], hm.2⟩, fun i a ha => by simp [hO.env i a ha], fun i hi => (hO.nms i hi).imp fun ms hm => ⟨by simp [hm.1], hm.2⟩, fun k i j hk hn => if e : k = 1 ∧ i = 0 ∧ j = 0 then .inl e else hO.only k i j hk (by simpa [hk, e] using hn)⟩⟩
      · have hl : Hm.lack p (W.blk a) (owner p (W.blk a) x) = 2 := by
          rw [hbk, h1]
          simp [Hm.lack, hka, hk2]
        rw [hl]
        have hkb : (k.kind == 2) = false := by simpa using hk2
        have hsc := hc2 c.blk k hbl hk
        have fx := And.intro hT <| And.intro hE <| And.intro hc1 <| And.intro hsr <| And.intro hsE <| And.intro hbl <| And.intro h1 <| And.intro hon <| And.intro hsame <| And.intro hsc <| And.intro hkb <| @bne_def
        have c1 := scope_owner_fn gl p hP c.blk k hk x hx
        refine k_run ?_
        repeat ((first | refine wSc (id := 1) qsQa0 mixed ?_); refine k_rund ?_; refine k_run ?_)
        clear fx c1
        refine e_ret [] .nil (by simp; rfl) ⟨by simp [hIdx, hai], OwnM.fin ⟨by simp [hO.top, mRow], ⟨by simp [hO.scs.top], fun j k hj hk => by simp [hO.scs.sc j k hj hk]⟩, by simp [hO.out], by simp [hO.trc], hO.run.imp fun l hl => ⟨hl.1, by simp [hl.2]⟩, by simp [hO.funs], fun k g hg => by simp [hO.bx k g hg], by simp [hO.clss], fun k c hc => (hO.cls k c hc).imp fun ms hm => ⟨by simp [hm.1], hm.2⟩, fun i a ha => by simp [hO.env i a ha], fun i hi => (hO.nms i hi).imp fun ms hm => ⟨by simp [hm.1], hm.2⟩, fun k i j hk hn => if e : k = 1 ∧ i = 0 ∧ j = 0 then .inl e else hO.only k i j hk (by simpa [hk, e] using hn)⟩⟩
    · have hl : Hm.lack p (W.blk a) (owner p (W.blk a) x) = 3 := by
        have e1 : ¬ (o : Int) < 0 := by omega
        have e2 : ¬ (o : Int) = c.blk := by omega
        rw [hbk, h1]
        simp [Hm.lack, e1, e2]
      rw [hl]
      have hne : ((o : Int) == (c.blk : Int)) = false := by rw [beq_eq_false_iff_ne]; omega
      obtain ⟨u1, u2, u3⟩ := inside_up hh hw hc (fun e => hob e.symm) ho hins
      have ha0 : ¬ a = 0 := by omega
      rw [if_neg ha0] at hE
      have fx := And.intro hT <| And.intro hE <| And.intro hc1 <| And.intro hsr <| And.intro hsE <| And.intro hbl <| And.intro h1 <| And.intro hon <| And.intro hne <| @bne_def
      have c1 := scope_owner_fn gl p hP c.blk k hk x hx
      refine k_run ?_
      repeat ((first | refine wSc (id := 1) qsQa0 mixed ?_); refine k_rund ?_; refine k_run ?_)
      clear fx c1
      refine w_loop (fun n st => ∃ b : Nat, n = b ∧ b < W.acts.length ∧ climb W.acts o b b = i ∧ inside p (W.blk b) o = true ∧ st.tm 8 = iv o ∧ st.tm 9 = ptE b ∧ OwnM st.hp F p W) c.up ?_ ?_
      · exact ⟨c.up, rfl, by omega, by rw [← climb_up hh hw ho hc (fun e => hob e.symm) hins]; exact h3.symm, u3, by simp, by simp, ⟨by simp [hO.top, mRow], ⟨by simp [hO.scs.top], fun j k hj hk => by simp [hO.scs.sc j k hj hk]⟩, by simp [hO.out], by simp [hO.trc], hO.run.imp fun l hl => ⟨hl.1, by simp [hl.2]⟩, by simp [hO.funs], fun k g hg => by simp [hO.bx k g hg], by simp [hO.clss], fun k c hc => (hO.cls k c hc).imp fun ms hm => ⟨by simp [hm.1], hm.2⟩, fun i a ha => by simp [hO.env i a ha], fun i hi => (hO.nms i hi).imp fun ms hm => ⟨by simp [hm.1], hm.2⟩, fun k i j hk hn => if e : k = 1 ∧ i = 0 ∧ j = 0 then .inl e else hO.only k i j hk (by simpa [hk, e] using hn)⟩⟩
      clear hT hc1 hc2 hE hO
      rintro n st - - ⟨b, rfl, hb, hcl, hib, t8, t9, hO⟩
      obtain ⟨e, he⟩ : ∃ e, W.acts[n]? = some e := ⟨_, gE hb⟩
      have hE := hO.env n e he
      simp only [envRow] at hE
      by_cases heb : e.blk = o
      · have hni : n = i := by rw [← hcl, climb_here he heb]
        subst hni
        subst heb
        have hsame : ((e.blk : Int) == (e.blk : Int)) = true := by simp
        have fx := And.intro t8 <| And.intro t9 <| And.intro hE <| And.intro hsame <| @bne_def
        refine k_run ?_
        repeat ((first | refine wSc (id := 1) qsQa0 mixed ?_); refine k_rund ?_; refine k_run ?_)
        clear fx
        refine e_ret [] .nil (by simp; rfl) ⟨by simp [hIdx], OwnM.fin ⟨by simp [hO.top, mRow], ⟨by simp [hO.scs.top], fun j k hj hk => by simp [hO.scs.sc j k hj hk]⟩, by simp [hO.out], by simp [hO.trc], hO.run.imp fun l hl => ⟨hl.1, by simp [hl.2]⟩, by simp [hO.funs], fun k g hg => by simp [hO.bx k g hg], by simp [hO.clss], fun k c hc => (hO.cls k c hc).imp fun ms hm => ⟨by simp [hm.1], hm.2⟩, fun i a ha => by simp [hO.env i a ha], fun i hi => (hO.nms i hi).imp fun ms hm => ⟨by simp [hm.1], hm.2⟩, fun k i j hk hn => if e : k = 1 ∧ i = 0 ∧ j = 0 then .inl e else hO.only k i j hk (by simpa [hk, e] using hn)⟩⟩
      · obtain ⟨e1, e2, e3⟩ := inside_up hh hw he heb ho hib
        have hneb : ((e.blk : Int) == (o : Int)) = false := by rw [beq_eq_false_iff_ne]; omega
        have hn0 : ¬ n = 0 := by omega
        rw [if_neg hn0] at hE
        have fx := And.intro t8 <| And.intro t9 <| And.intro hE <| And.intro hneb <| @bne_def
        refine k_run ?_
        repeat ((first | refine wSc (id := 1) qsQa0 mixed ?_); refine k_rund ?_; refine k_run ?_)
        clear fx
        refine ⟨e.up, by omega, e.up, rfl, by omega, ?_, e3, by simp [t8], by simp, ⟨by simp [hO.top, mRow], ⟨by simp [hO.scs.top], fun j k hj hk => by simp [hO.scs.sc j k hj hk]⟩, by simp [hO.out], by simp [hO.trc], hO.run.imp fun l hl => ⟨hl.1, by simp [hl.2]⟩, by simp [hO.funs], fun k g hg => by simp [hO.bx k g hg], by simp [hO.clss], fun k c hc => (hO.cls k c hc).imp fun ms hm => ⟨by simp [hm.1], hm.2⟩, fun i a ha => by simp [hO.env i a ha], fun i hi => (hO.nms i hi).imp fun ms hm => ⟨by simp [hm.1], hm.2⟩, fun k i j hk hn => if e : k = 1 ∧ i = 0 ∧ j = 0 then .inl e else hO.only k i j hk (by simpa [hk, e] using hn)⟩⟩
        rw [← hcl, climb_up hh hw ho he heb hib]
end Go.Proofs.YtcbkblboonkfhaaGreat
end
