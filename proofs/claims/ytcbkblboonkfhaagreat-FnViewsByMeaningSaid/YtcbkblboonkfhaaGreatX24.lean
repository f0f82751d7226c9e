/-
  Own texts, joined by mkclaim.py: Hi, Hj, Hk, Qa, Wg, Wd, Hp.
-/
import Derived.Test.YtcbkblboonkfhaaGreatX23
import Derived.Test.YtcbkblboonkfhaaGreatX12
import Derived.Test.YtcbkblboonkfhaaGreatX15
import Derived.Test.YtcbkblboonkfhaaGreatX22
import Derived.Test.YtcbkblboonkfhaaGreatX16
import Derived.Test.YtcbkblboonkfhaaGreatX11
set_option linter.unusedSimpArgs false
set_option linter.unusedVariables false
set_option maxRecDepth 100000
set_option maxHeartbeats 4000000

section
namespace Go.Proofs.YtcbkblboonkfhaaGreat
open Go Go.Hm Go.Proofs Go.RowKit Go.Shelf
attribute [local go_sem] Oper.semAt_some
theorem cell_of_box {W : World} {B : Nat} {v : Value} {t : TypeId} (h : W.heap[B]? = some (.cells #[v] t (0, 0))) : W.cell? ⟨B, 0, none⟩ = some v ∧ W.frozen? ⟨B, 0, none⟩ = false := by
  constructor <;> simp [World.cell?, World.frozen?, h]
theorem cell_new' (W : World) (v : Value) (t : TypeId) : (W.alloc (.cells #[v] t)).cell? ⟨W.heap.size, 0, none⟩ = some v ∧ (W.alloc (.cells #[v] t)).frozen? ⟨W.heap.size, 0, none⟩ = false := cell_of_box (World.alloc_heap_new W _)
theorem cell_alloc' {W : World} {a : Addr} {v : Value} (o : Obj) (h : W.cell? a = some v) : (W.alloc o).cell? a = some v := cell_kept h (World.grownBy_alloc W o none) (fun r e => by cases e)
theorem frozen_alloc' {W : World} {a : Addr} {v : Value} (o : Obj) (h : W.cell? a = some v) (hf : W.frozen? a = false) : (W.alloc o).frozen? a = false := (frozen_kept h (World.grownBy_alloc W o none) (fun r e => by cases e)).trans hf
theorem outerOwner_in (n : Nat) (hn : 3 ≤ n) (p : Prg) (hh : Heads p) (hb0 : ∀ k, p[0]? = some k → k.kind ≠ 1) (g : Gh) (w : World) (hC : ∀ b, g.C b → b < w.heap.size) (i : Nat) (k : Blk) (hk : p[i]? = some k) (a0 : Option Addr) (ha : RV g w (.pointer a0) (scopeA p i)) (x : Nat) (hx : x < 8) :
    CallsIn Fence.wide n Tryz.prog 131 #[.pointer a0, .int .i64 x] w fun e W' => e = .returned (.int .i64 (outerF p x p.length k.parent)) ∧ Below w.heap.size w W' := by
  have h1 : 1 ≤ n := by omega
  refine callsIn_of_wp_marks Tryz.func131 rfl trivial ?_ rfl
  simp only [Tryz.ntmps131, List.size_toArray, List.length_cons, List.length_nil, Nat.reduceAdd, Nat.reduceSub, Array.replicate_succ, Array.replicate_zero, List.push_toArray, List.append_toArray, List.nil_append, List.cons_append]
  gi_wp2_with (refine ⟨trivial, ?_⟩; gi_at_call 166; refine (functionsOutside_in (n - 1) _ _).mono ?_; rintro e w' ⟨rfl, rfl⟩)
  have c0 := cell_new' w (.int .i64 x) 3
  have c1 := cell_new' (w.alloc (.cells #[.int .i64 x] 3)) (.int .i64 0) 3
  have c2 := cell_new' ((w.alloc (.cells #[.int .i64 x] 3)).alloc (.cells #[.int .i64 0] 3)) (.pointer a0) 106
  simp only [World.size_alloc] at c1 c2
  have hB0 : Below w.heap.size w (((w.alloc (.cells #[.int .i64 x] 3)).alloc (.cells #[.int .i64 0] 3)).alloc (.cells #[.pointer a0] 106)) := (((Below.refl _ w).alloc (Nat.le_refl _) _).alloc (by simp) _).alloc (by simp; omega) _
  refine wpIn_rangeFunc_ownF rfl h1 (gf := 189) (lb := #[.pointer (some ⟨w.heap.size + 1 + 1, 0, none⟩)]) rfl trivial (enters_of Tryz.func189 (by kernel_rfl) rfl)
    (iter_stops (n - 1) (w.heap.size + 1 + 1) p hh g w _ hC i k hk a0 ha (by omega) hB0 (by simp) c2.1) belowK_t (belowK_b (by simp; omega)) (Below.refl _ _) (fun _ => rfl)
    (fun pre W => ((∀ y ∈ pre, found p x y.1.2 = none) ∧ W.cell? ⟨w.heap.size, 0, none⟩ = some (.int .i64 x) ∧ W.cell? ⟨w.heap.size + 1, 0, none⟩ = some (.int .i64 0) ∧ W.frozen? ⟨w.heap.size + 1, 0, none⟩ = false) ∧ Below w.heap.size w W)
    (fun c pre W => (c = .ret ∧ (∃ l y r, pre = l ++ [y] ∧ (∀ y ∈ l, found p x y.1.2 = none) ∧ found p x y.1.2 = some r ∧ W.cell? ⟨w.heap.size + 1, 0, none⟩ = some (.int .i64 r))) ∧ Below w.heap.size w W)
    (OwnFrom.and (Own.from (fun s A B row hs hg hr => ⟨hs.1, cell_kept hs.2.1 hg hr, cell_kept hs.2.2.1 hg hr, (frozen_kept hs.2.2.1 hg hr).trans hs.2.2.2⟩) _) (ownFrom_below (Nat.le_refl _) (by simp; omega)))
    (fun c => OwnFrom.and (Own.from (fun s A B row hs hg hr => ⟨hs.1, by obtain ⟨l, y, r, e1, e2, e3, e4⟩ := hs.2; exact ⟨l, y, r, e1, e2, e3, cell_kept e4 hg hr⟩⟩) _) (ownFrom_below (Nat.le_refl _) (by simp; omega)))
    ⟨⟨by simp, cell_alloc' _ (cell_alloc' _ c0.1), cell_alloc' _ c1.1, frozen_alloc' _ c1.1 c1.2⟩, hB0⟩
    (fun y => { tmps := #[.pointer a0, .int .i64 x, undef, .pointer (some ⟨w.heap.size, 0, none⟩), .pointer (some ⟨w.heap.size + 1, 0, none⟩), .pointer y.1.1, .pointer a0, .func (.func 189) #[] #[.pointer (some ⟨w.heap.size + 1 + 1, 0, none⟩)], .pointer y.1.1, undef, undef, undef, undef, undef, undef, undef, undef, undef, undef, undef, undef, undef], defers := [] }) ?assign ?body ?done ?stop
  case assign =>
    intro l y W K hK
    gi_wp2
    exact hK
  case body =>
    rintro l pre ⟨⟨ay, j⟩, q, hq, hq1, hr⟩ W ⟨⟨hp, hcx, hcr, hfr⟩, hB⟩ _
    dsimp only at hq hr ⊢
    obtain ⟨b, o, rfl, hs⟩ : ∃ b o, ay = some ⟨b, o, none⟩ ∧ ScAt g w p j q b o := by
      obtain ⟨b, o, e, h⟩ := hr.scAt hh hq
      exact ⟨b, o, by simpa using e, h⟩
    have hb := hC b hs.C
    have hg : W.cell? ⟨b, o + (27 + x), none⟩ = some (.bool (decide ((x : Int) ∈ q.dc 9))) := (hB.cell (p := ⟨b, o + (27 + x), none⟩) hb).trans (hs.glob x hx)
    have hidx : W.cell? ⟨b, o, none⟩ = some (.int .i64 j) := (hB.cell (p := ⟨b, o, none⟩) hb).trans hs.idx
    have h8 : (x : Int) < 8 := by omega
    have hg2 : W.cell? ⟨b, o + 27 + x, none⟩ = some (.bool (decide ((x : Int) ∈ q.dc 9))) := by rw [Nat.add_assoc]; exact hg
    have hmx : Tryz.prog.follows .mixedOrders = true := by kernel_rfl
    have hj0 : 0 < j := by
      rcases Nat.eq_zero_or_pos j with rfl | h
      · exact absurd hq1 (hb0 q hq)
      · exact h
    have hcall : ∀ W', Below w.heap.size w W' → Calls Tryz.prog 130 #[.pointer (some ⟨b, o, none⟩), .int .i64 x] W' fun e W'' => e = .returned (.bool (isLocal j q x)) ∧ Below W'.heap.size W' W'' := by
      intro W' hB'
      have hF := scope_isLocal_fn (fun _ => none) j q (scopeA p q.parent) q.params x hx
      have e : (q.kind != 0 && decide ((x : Int) ∈ q.bd) && !(decide ((x : Int) ∈ q.dc 9) || decide ((x : Int) ∈ q.dc 10))) = isLocal j q x := by
        simp [isLocal, hq1, hj0, Bool.and_assoc]
      rw [e] at hF
      refine FnOk.raw hF (g := g) (fun b hb => Nat.lt_of_lt_of_le (hC b hb) hB'.size) rfl ?_
      intro a v y hv hy
      match a, hv, hy with
      | 0, hv, hy =>
        obtain rfl := Option.some.inj hv
        obtain rfl := Option.some.inj hy
        have := hr.keepB hC hB'
        rwa [scopeA_eq hh hq] at this
      | 1, hv, hy =>
        obtain rfl := Option.some.inj hv
        obtain rfl := Option.some.inj hy
        exact .sc _
      | a + 2, hv, _ => simp at hv
    have hBd : Below w.heap.size w W.drew := ⟨hB.os, hB.tape, hB.output, hB.size, hB.block⟩
    have hbW : b < W.drew.heap.size := Nat.lt_of_lt_of_le hb hB.size
    have hrW : w.heap.size + 1 < W.drew.heap.size := by
      refine Nat.lt_of_not_le fun hge => ?_
      have : W.heap[w.heap.size + 1]? = none := Array.getElem?_eq_none hge
      simp [World.cell?, this] at hcr
    have hko : ∀ w3, Below W.drew.heap.size W.drew w3 → KeepsOthers W w3 := fun w3 h => ⟨h.size, fun k o hk _ => (h.block k (Array.getElem?_eq_some_iff.1 hk).1).trans hk⟩
    have hfd : found p x j = if (x : Int) ∈ q.dc 9 then some (-1) else if isLocal j q x then some (j : Int) else none := by simp only [found, hq]
    by_cases hm : (x : Int) ∈ q.dc 9
    · rw [decide_eq_true hm] at hg hg2
      rw [if_pos hm] at hfd
      gi_wp2
      gi_region_o
      all_goals gi_wp2
      all_goals exact ⟨(KeepsOthers.drew W).trans (KeepsOthers.setCell _ _ _), ⟨rfl, pre, ⟨(some ⟨b, o, none⟩, j), q, hq, hq1, hr⟩, -1, rfl, hp, hfd, World.cell?_setCell_same' _ _ _ (by rw [hcr]; rfl)⟩, hBd.setCell (p := ⟨w.heap.size + 1, 0, none⟩) (by simp) _⟩
    · rw [decide_eq_false hm] at hg hg2
      rw [if_neg hm] at hfd
      cases hl : isLocal j q x with
      | true =>
        rw [hl] at hcall
        rw [if_pos hl] at hfd
        gi_wp2
        gi_region_o
        all_goals gi_wp2_with (refine ⟨trivial, fun _ => by omega, ?_⟩; refine (CallsIn.inRound l (callsIn_wide.2 (hcall _ hBd))).mono ?_; rintro e w3 ⟨rfl, hbw⟩; have hi3 := (hbw.cell (p := ⟨b, o, none⟩) hbW).trans hidx; have hc3 := (hbw.cell (p := ⟨w.heap.size + 1, 0, none⟩) hrW).trans hcr; have hf3 := (hbw.frozen (p := ⟨w.heap.size + 1, 0, none⟩) hrW).trans hfr)
        all_goals exact ⟨(hko _ (by assumption)).trans (KeepsOthers.setCell _ _ _), ⟨rfl, pre, ⟨(some ⟨b, o, none⟩, j), q, hq, hq1, hr⟩, (j : Int), rfl, hp, hfd, World.cell?_setCell_same' _ _ _ (by rw [hc3]; rfl)⟩, (hBd.trans (Below.mono (by assumption) hBd.size)).setCell (p := ⟨w.heap.size + 1, 0, none⟩) (by simp) _⟩
      | false =>
        rw [hl] at hcall
        rw [if_neg (by rw [hl]; decide)] at hfd
        gi_wp2
        gi_region_o
        all_goals gi_wp2_with (refine ⟨trivial, fun _ => by omega, ?_⟩; refine (CallsIn.inRound l (callsIn_wide.2 (hcall _ hBd))).mono ?_; rintro e w3 ⟨rfl, hbw⟩)
        all_goals
          have hWw : Below W.drew.heap.size W.drew w3 := by assumption
          have hB3 : Below w.heap.size W.drew w3 := hWw.mono hBd.size
          have hBW : Below w.heap.size W w3 := ⟨hB3.os, hB3.tape, hB3.output, hB3.size, hB3.block⟩
          have hsW : w.heap.size < W.drew.heap.size := Nat.lt_of_succ_lt hrW
          refine ⟨hko _ hWw, hBW, ⟨fun y hy => ?_, (hWw.cell (p := ⟨w.heap.size, 0, none⟩) hsW).trans hcx, (hWw.cell (p := ⟨w.heap.size + 1, 0, none⟩) hrW).trans hcr, (hWw.frozen (p := ⟨w.heap.size + 1, 0, none⟩) hrW).trans hfr⟩, hB.trans hBW⟩
          rcases List.mem_append.1 hy with hy | hy
          · exact hp y hy
          · obtain rfl := List.mem_singleton.1 hy
            exact hfd
  case done =>
    rintro D ys W hD ⟨je, hneg, hpath⟩ ⟨⟨hne, _, hcr, hfr⟩, hB⟩ hK
    gi_wp2
    have hK' := (KeepsOthers.setCell W ⟨w.heap.size + 1, 0, none⟩ (.int .i64 (-1))).same D _ hK rfl
    refine ⟨by simp, .inl ⟨_, _, rfl, run_takeDeferred hK', ?_⟩⟩
    have hc5 := cell_kept (World.cell?_setCell_same' W ⟨w.heap.size + 1, 0, none⟩ (.int .i64 (-1)) (by rw [hcr]; rfl)) (grownBy_putObj' _ D (.deferred none)) (fun r e => by cases e; exact ⟨_, hK', rfl⟩)
    have hout : outerF p x p.length k.parent = -1 := by
      rw [hpath.outer hh hb0 (x := x) (fun y hy => by obtain ⟨z, hz, rfl⟩ := List.mem_map.1 hy; exact hne z hz), outerF_end (by omega)]
    refine ⟨.int .i64 (-1), ?_, by rw [hout], (hB.setCell (p := ⟨w.heap.size + 1, 0, none⟩) (by simp) _).trans (belowK_b (w := w) (Nat.le_refl _) _ D _ _ (by simp at hD; omega) hK' rfl rfl)⟩
    simp [results, Tryz.f131, go_sem, hc5]
  case stop =>
    rintro D c pre W hD ⟨je, hpath⟩ ⟨⟨rfl, l, y, r, rfl, hno, hf, hcr⟩, hB⟩ hK
    gi_wp2
    refine ⟨by simp, .inl ⟨_, _, rfl, run_takeDeferred hK, ?_⟩⟩
    have hc5 := cell_kept hcr (grownBy_putObj' _ D (.deferred none)) (fun r e => by cases e; exact ⟨_, hK, rfl⟩)
    have hout : outerF p x p.length k.parent = r := by
      rw [List.map_append, List.map_singleton] at hpath
      exact Path.found hh hpath hb0 (fun y hy => by obtain ⟨z, hz, rfl⟩ := List.mem_map.1 hy; exact hno z hz) hf
    refine ⟨.int .i64 r, ?_, by rw [hout], hB.trans (belowK_b (w := w) (Nat.le_refl _) W D _ _ (by simp at hD; omega) hK rfl rfl)⟩
    simp [results, Tryz.f131, go_sem, hc5]
theorem outerOwner_fn (gl) (p : Prg) (hh : Heads p) (hb0 : ∀ k, p[0]? = some k → k.kind ≠ 1) (i : Nat) (k : Blk) (hk : p[i]? = some k) (x : Nat) (hx : x < 8) :
    FnOk Tryz.prog gl 131 [scopeA p i, iv x] (fun _ y _ => y = iv (outer p i x)) := by
  refine FnOk.of_raw ⟨_, Tryz.func131, by kernel_rfl, by kernel_rfl⟩ fun w g args hC hsz hargs => ?_
  rw [outer_fuel hh hk]
  obtain ⟨v0, v1, rfl⟩ : ∃ v0 v1, args = #[v0, v1] := by
    refine ⟨args[0]'(by simp at hsz; omega), args[1]'(by simp at hsz; omega), ?_⟩
    apply Array.ext
    · simpa using hsz
    · intro i h1 h2
      match i with
      | 0 => rfl
      | 1 => rfl
      | i + 2 => simp at hsz; omega
  have h0 := hargs 0 v0 _ rfl rfl
  have h1 := hargs 1 v1 _ rfl rfl
  obtain ⟨a0, rfl⟩ := h0.ptr
  obtain rfl := h1.sc_eq
  exact callsIn_wide.1 (outerOwner_in 3 (Nat.le_refl _) p hh hb0 g w hC i k hk a0 h0 x hx)
end Go.Proofs.YtcbkblboonkfhaaGreat
end
section
namespace Go.Proofs.YtcbkblboonkfhaaGreat
open Go Go.Hm Go.Proofs
abbrev scEl (p : Prg) (i : Nat) (k : Blk) : AV := .el (scopeRow i k (scopeA p k.parent) k.params) 0
theorem outerOwner_fn' (gl) (p : Prg) (hp : ShapeP p) (i : Nat) (k : Blk) (hk : p[i]? = some k) (x : Nat) (hx : x < 8) : FnOk Tryz.prog gl 131 [scEl p i k, iv x] (fun _ y _ => y = iv (outer p i x)) := by
  have := outerOwner_fn gl p hp.heads hp.fun0 i k hk x hx
  rwa [scopeA_eq hp.heads hk] at this
theorem scope_owner_fn (gl) (p : Prg) (hp : ShapeP p) (i : Nat) (k : Blk) (hk : p[i]? = some k) (x : Nat) (hx : x < 8) : FnOk Tryz.prog gl 86 [scEl p i k, iv x] (fun _ y _ => y = iv (owner p i x)) := by
  have h8 : (x : Int) < 8 := by omega
  have hg := scopeRow_g (i := i) (k := k) (o := scopeA p k.parent) (ps := k.params) hx
  have hk0 := hp.kind0 hk
  refine FnOk.of_sem Tryz.func86 rfl (by kernel_rfl) (rs := [.tmp 4]) rfl Tryz.ntmps86 (Nat.le_of_ble_eq_true rfl) fun C w g root => ?_
  all_goals have fx := And.intro h8 <| hg
  repeat' (first
   | refine w_seq ?_ | refine w_skip ?_ | refine w_reg fun K hK => ?_
   | ((with_reducible refine s_end hK ?_); clear hK K)
   | (with_reducible first | refine then_normal ?_ | refine then_ret ?_)
   | refine w_ret ?_
   | (with_reducible refine s_none ?_)
   | ((with_reducible refine g_id ?_); refine x_guard (h := ?_))
   | (with_reducible first | refine gx_ff ?_ | refine x_ft (h := ?_) | refine x_assign (h := ?_))
   | ((with_reducible refine o_id 130 rfl ?_); refine x_call (hF := scope_isLocal_fn _ _ _ _ _ _ hx) (h := ?_))
   | ((with_reducible refine o_id 131 rfl ?_); refine x_call (hF := outerOwner_fn' _ p hp i k hk x hx) (h := ?_))
   | (with_reducible refine x_q (h := ?_))
   | (with_reducible refine gx_s (fun ht => ?_) (fun ht => ?_))
   | refine x_condt (h1 := ?_)
   | refine x_if (h1 := fun ht => ?_) (h2 := fun ht => ?_)
   | fail)
  all_goals try clear fx
  all_goals refine e_ret [] .nil (by simp; rfl) ?_
  all_goals simp_all [owner, isLocal]
  all_goals grind
theorem validDeclarations_fn (gl) (p : Prg) (hp : ShapeP p) (i : Nat) (k : Blk) (hk : p[i]? = some k) : FnOk Tryz.prog gl 104 [scEl p i k] (fun _ y _ => y = bv (declsOk p i)) := by
  have hdo : declsOk p i = (List.range 8).all (fun x => declOk p i k (x : Int)) := by simp only [declsOk, hk]
  rw [hdo]
  refine FnOk.of_sem Tryz.func104 rfl (by kernel_rfl) (rs := [.tmp 2]) rfl Tryz.ntmps104 (Nat.le_of_ble_eq_true rfl) fun C w g root => ?_
  have fx := fx0
  refine k_run ?_
  clear fx
  refine w_loop (fun n st => ∃ x : Nat, n = 8 - x ∧ x ≤ 8 ∧ st.tm 0 = scEl p i k ∧ st.tm 4 = iv x ∧ (List.range x).all (fun x => declOk p i k (x : Int)) = true) 8 ⟨0, by simp⟩ ?_
  rintro n st - - ⟨x, rfl, hx, h0, h4, hal⟩
  have fx := And.intro h0 <| h4
  refine k_run ?_
  clear fx
  refine w_if (by simp []; first | done | rfl | exact (Bool.not_not _).symm) (fun ht => ?_) (fun hf => ?_)
  · have h8 : (x : Int) < 8 := by simpa using ht
    have hx8 : x < 8 := by omega
    have hg := scopeRow_g (i := i) (k := k) (o := scopeA p k.parent) (ps := k.params) hx8
    have hn := scopeRow_n (i := i) (k := k) (o := scopeA p k.parent) (ps := k.params) hx8
    have hq := scopeRow_p (i := i) (k := k) (o := scopeA p k.parent) (ps := k.params) hx8
    have hge := outer_ge (p := p) (b := i) (x := x)
    have fin : declOk p i k x = false → (List.range 8).all (fun x => declOk p i k (x : Int)) = false := fun h => range_false hx8 h
    have nxt : declOk p i k x = true → (List.range (x + 1)).all (fun x => declOk p i k (x : Int)) = true := fun h => by rw [all_range_succ, hal, h]; rfl
    clear ht hal
    all_goals have fx := And.intro h0 <| And.intro h4 <| And.intro h8 <| And.intro hg <| And.intro hn <| hq
    repeat' (first
     | refine w_seq ?_ | refine w_block ?_ | refine w_skip ?_ | refine w_reg fun K hK => ?_
     | ((with_reducible refine s_end hK ?_); clear hK K)
     | (with_reducible first | refine then_normal ?_ | refine in_normal ?_ | refine then_exit ?_ | refine in_exit ?_ | refine then_ret ?_ | refine in_ret ?_ | refine in_other (by decide) ?_)
     | refine w_exit ?_
     | refine w_ret ?_
     | (with_reducible refine s_none ?_)
     | ((with_reducible refine g_id ?_); refine x_guard (h := ?_))
     | (with_reducible first | refine gx_tt ?_ | refine gx_ff ?_ | refine x_tf (h := ?_) | refine x_ft (h := ?_) | refine x_u (h := ?_) | refine x_assign (h := ?_))
     | ((with_reducible refine o_id 126 rfl ?_); refine x_call (hF := declares_fn _ _ _ _ _ _ hx8) (h := ?_))
     | ((with_reducible refine o_id 131 rfl ?_); refine x_call (hF := outerOwner_fn' _ p hp i k hk x hx8) (h := ?_))
     | (with_reducible refine x_q (h := ?_))
     | (with_reducible refine gx_s (fun ht => ?_) (fun ht => ?_))
     | refine x_condt (h1 := ?_) | refine x_condf (h1 := ?_)
     | refine x_if (h1 := fun ht => ?_) (h2 := fun ht => ?_)
     | fail)
    all_goals try clear fx
    all_goals clear hg hn hq
    all_goals first
      | (refine e_ret [] .nil (by simp; rfl) ?_
         rw [fin (by simp only [declOk]; simp_all; done)]
         rfl)
      | (refine ⟨8 - (x + 1), by omega, x + 1, rfl, by omega, by simp [h0], by simp; exact wrp (by omega) (by omega), nxt ?_⟩
         simp only [declOk]
         simp_all
         try omega)
  · have hge : x = 8 := by
      have : ¬ (x : Int) < 8 := by simpa using hf
      omega
    subst hge
    have fx := fx0
    refine k_run ?_
    clear fx
    refine e_ret [] .nil (by simp []; rfl) (by simp [hal])
theorem bw_sc {hp : Nm → Option AO} {n : Nm} {p : Prg} {j : Nat} {k : Blk} (h : OwnS hp n p p.length) (hh : Heads p) (hk : p[j]? = some k) : Bw hp noD (.pt (.c n j 0) 0) (scEl p j k) := by
  have := bw_scope h hh j (gS hk).1
  rwa [scopeA_eq hh hk] at this
theorem sRows_at {n : Nm} {len j : Nat} (h : j < len) : (sRows n len len)[j]? = some [AV.pt (.c n j 0) 0] := by rw [sRows_get h, if_pos h]
theorem declsOk0 {p : Prg} (hp : ShapeP p) : declsOk p 0 = true := by
  obtain ⟨k, hk⟩ : ∃ k, p[0]? = some k := ⟨_, gE (by have := hp.len.1; omega)⟩
  simp only [declsOk, hk, List.all_eq_true]
  intro x _
  simp [declOk, hp.decl0 hk]
theorem impl_ValidProgram_fn (gl) (p : Prg) (hs : Sml p) : FnOk Tryz.prog gl 52 [pav p] (fun _ y _ => y = bv (progOk p)) := by
  refine FnOk.of_sem Tryz.func52 rfl (by kernel_rfl) (rs := [.tmp 2]) rfl Tryz.ntmps52 (Nat.le_of_ble_eq_true rfl) fun C w g root => ?_
  cases hsh : shapeOk p with
  | false =>
    have fx :=  hsh
    have c1 := impl_ValidShape_fn gl p hs
    refine k_run ?_
    clear fx c1
    refine e_ret [] .nil (by simp; rfl) ?_
    simp [progOk, hsh]
  | true =>
    have hp := ShapeP.of hs hsh
    have hh := hp.heads
    have hl7 := hp.len
    have hpo : progOk p = (List.range p.length).all (fun b => b == 0 || declsOk p b) := by simp only [progOk, hsh, Bool.true_and]
    rw [hpo]
    have fx :=  hsh
    have c1 := impl_ValidShape_fn gl p hs
    have e1 := scopesOf_fn gl p hs hh hp.names
    refine k_run ?_
    clear fx c1 e1
    first | rintro K hK y H' ⟨rfl, hO⟩ | rintro y H' ⟨rfl, hO⟩
    obtain ⟨ho1, ho2⟩ := hO.hcln
    refine ⟨by simp, ?_⟩
    have fx := fx0
    refine k_run ?_
    clear fx
    refine w_loop (fun n st => ∃ i : Nat, n = p.length - i ∧ i ≤ p.length ∧ st.tm 9 = .hs (.s 9) 1 0 p.length ∧ OwnS st.hp (.s 9) p p.length ∧ st.tm 10 = iv p.length ∧ st.tm 11 = iv i ∧ (List.range i).all (fun b => b == 0 || declsOk p b) = true) p.length ?_ ?_
    · exact ⟨0, by simp, by simp, by simp, ⟨by simp [ho1], fun j k hj hk => by simp [ho2 j k hj hk]⟩, by simp, by simp, by simp⟩
    clear ho1 ho2 hO
    rintro n st - - ⟨i, rfl, hi, h9, ⟨ho1, ho2⟩, h10, h11, hal⟩
    have fx := And.intro h10 <| h11
    refine k_run ?_
    clear fx
    refine w_if (by simp []; first | done | rfl | exact (Bool.not_not _).symm) (fun ht => ?_) (fun hf => ?_)
    · have hlt : i < p.length := by simpa using ht
      obtain ⟨k, hk⟩ : ∃ k, p[i]? = some k := ⟨_, gE hlt⟩
      have hsg := sRows_at (n := .s 9) hlt
      obtain ⟨_, hse⟩ := gS hsg
      clear ht
      all_goals have fx := And.intro h9 <| And.intro ho1 <| And.intro h10 <| And.intro h11 <| And.intro hsg <| And.intro hse <| hlt
      repeat' (first
       | refine w_seq ?_ | refine w_block ?_ | refine w_skip ?_ | refine w_reg fun K hK => ?_
       | ((with_reducible refine s_end hK ?_); clear hK K)
       | (with_reducible first | refine then_normal ?_ | refine in_normal ?_ | refine then_exit ?_ | refine in_exit ?_ | refine then_ret ?_ | refine in_ret ?_ | refine in_other (by decide) ?_)
       | refine w_exit ?_
       | refine w_ret ?_
       | (with_reducible first | refine s_none ?_ | refine x_assign (h := ?_) | refine x_box (h := ?_))
       | ((with_reducible refine o_id 104 rfl ?_); refine x_call (hB := (by first | ((repeat' (first | exact .nil | refine .cons ?_ ?_ | exact .refl _ | exact bw_ints (by simp [fx]; first | done | rfl) (by first | (simp [fx]; done) | (simp [fx]; omega) | omega) | exact bw_list (by simp [fx]; first | done | rfl) (by first | (simp [fx]; done) | (simp [fx]; omega) | omega) (by first | (simp; done) | fail) | exact bw_sc (n := .s 9) (p := p) (k := k) ⟨by simp [ho1], fun j k hj hk => by simp [ho2 j k hj hk]⟩ hh hk)); done) | fail)) (hF := validDeclarations_fn _ p hp i k hk) (h := ?_))
       | (with_reducible refine x_q (h := ?_))
       | refine x_condt (h1 := ?_) | refine x_condf (h1 := ?_)
       | refine x_if (h1 := fun ht => ?_) (h2 := fun ht => ?_)
       | fail)
      all_goals try clear fx
      · refine e_ret [] .nil (by simp; rfl) ?_
        have hd : declsOk p i = false := by simpa using ht
        have hi0 : i ≠ 0 := fun e => by rw [e, declsOk0 hp] at hd; cases hd
        rw [range_false hlt (show (i == 0 || declsOk p i) = false by simp [hd, hi0])]
        rfl
      · have hd : declsOk p i = true := by simpa using ht
        refine ⟨p.length - (i + 1), by omega, i + 1, rfl, by omega, by simp [h9], ⟨by simp [ho1], fun j k hj hk => by simp [ho2 j k hj hk]⟩, by simp [h10], by simp; exact wrp (by omega) (by omega), ?_⟩
        rw [all_range_succ, hal, hd]
        simp
    · have hge : i = p.length := by
        have : ¬ i < p.length := by simpa using hf
        omega
      subst hge
      have fx := fx0
      refine k_run ?_
      clear fx
      refine e_ret [] .nil (by simp []; rfl) (by simp [hal])
end Go.Proofs.YtcbkblboonkfhaaGreat
end
section
namespace Go.Proofs.YtcbkblboonkfhaaGreat
open Go Go.Hm Go.Proofs
abbrev qsQa0 : Sch := .q 0 <| .q 1 <| .q 2 <| .q 3 <| .q 4 <| .q 5 <| .q 6 <| .q 7 <| .q 8 <| .q 9 <| .q 10 <| .l 11 [8, 7, 6, 5, 4, 3, 2, 1, 0] <| .l 12 [] <| .done
theorem impl_ShownOf_fn (gl) (v : Val) : FnOk Tryz.prog gl 143 [Val.av v] (fun _ y _ => y = iv (Hm.shown v)) := by
  refine FnOk.of_sem Tryz.func143 rfl (by kernel_rfl) (rs := [.tmp 2]) rfl Tryz.ntmps143 (Nat.le_of_ble_eq_true rfl) fun C w g root => ?_
  by_cases h1 : v.1 = 1
  · skip
    have fx :=  h1
    refine k_run ?_
    clear fx
    refine e_ret [] .nil (by simp; rfl) (by simp [Hm.shown, h1])
  by_cases h2 : v.1 = 2
  · skip
    have fx := And.intro h1 <| h2
    refine k_run ?_
    clear fx
    refine e_ret [] .nil (by simp; rfl) (by simp [Hm.shown, h1, h2])
  by_cases h3 : v.1 = 3
  · skip
    have fx := And.intro h1 <| And.intro h2 <| h3
    refine k_run ?_
    clear fx
    refine e_ret [] .nil (by simp; rfl) (by simp [Hm.shown, h1, h2, h3])
  · skip
    have fx := And.intro h1 <| And.intro h2 <| h3
    refine k_run ?_
    clear fx
    refine e_ret [] .nil (by simp; rfl) (by simp [Hm.shown, h1, h2, h3])
theorem stop_fn (gl) (H : Nm → Option AO) (F : Nat) (p : Prg) (W : Wld) (e : Int) (hO : OwnM H F p W) :
    FnE Tryz.prog gl 152 DM [.pt Mn 0, iv e] H (fun _ y H' => y = bv false ∧ OwnM H' F p { W with en := e }) noE := by
  have hT := hO.top
  simp only [mRow] at hT
  refine FnE.of_sem Tryz.func152 rfl (by kernel_rfl) (rs := [.tmp 4]) rfl Tryz.ntmps152 (Nat.le_of_ble_eq_true rfl) (fun _ => DM_root) fun C w g root hroot => ?_
  have fx :=  hT
  refine k_run ?_
  clear fx
  refine e_ret [] .nil (by simp; rfl) ⟨by simp, OwnM.fin ⟨by simp [hO.top, mRow, hT], ⟨by simp [hO.scs.top, hT], fun j k hj hk => by simp [hO.scs.sc j k hj hk, hT]⟩, by simp [hO.out, hT], by simp [hO.trc, hT], hO.run.imp fun l hl => ⟨hl.1, by simp [hl.2, hT]⟩, by simp [hO.funs, hT], fun k g hg => by simp [hO.bx k g hg, hT], by simp [hO.clss, hT], fun k c hc => (hO.cls k c hc).imp fun ms hm => ⟨by simp [hm.1, hT], hm.2⟩, fun i a ha => by simp [hO.env i a ha, hT], fun i hi => (hO.nms i hi).imp fun ms hm => ⟨by simp [hm.1, hT], hm.2⟩, fun k i j hk hn => if e : k = 1 ∧ i = 0 ∧ j = 0 then .inl e else hO.only k i j hk (by simpa [hk, e] using hn)⟩⟩
theorem holderOf_fn (gl) (H : Nm → Option AO) (F : Nat) (p : Prg) (W : Wld) (a x : Nat) (hP : ShapeP p) (hw : WOk p W) (ha : a < W.acts.length) (hx : x < 8) (hO : OwnM H F p W) :
    FnE Tryz.prog gl 183 DM [.pt Mn 0, ptE a, iv x] H (fun _ y H' => y = .tup [ptE (hIdx (W.loc p a x)), iv (Hm.lack p (W.blk a) (owner p (W.blk a) x))] ∧ OwnM H' F p W) noE := by
  have hh := hP.heads
  obtain ⟨c, hc⟩ : ∃ c, W.acts[a]? = some c := ⟨_, gE ha⟩
  have hbl := hw.blks a c hc
  obtain ⟨k, hk⟩ : ∃ k, p[c.blk]? = some k := ⟨_, gE hbl⟩
  obtain ⟨_, hkE⟩ := gS hk
  have hbk := blk_at hc
  have hT := hO.top
  have hc1 := hO.scs.top
  have hc2 := hO.scs.sc
  have hE := hO.env a c hc
  simp only [mRow] at hT
  simp only [envRow] at hE
  have hsr := sRows_get (n := .c Mn 0 1) (len := p.length) (i := p.length) hbl
  rw [if_pos hbl] at hsr
  obtain ⟨_, hsE⟩ := gS hsr
  have hka : kindAt p c.blk = k.kind := by simp [kindAt, hk]
  refine FnE.of_sem Tryz.func183 rfl (by kernel_rfl) (rs := [.tmp 6, .tmp 7]) rfl Tryz.ntmps183 (Nat.le_of_ble_eq_true rfl) (fun _ => DM_root) fun C w g root hroot => ?_
  rcases loc_spec (x := (x : Int)) hh hw ha with ⟨h1, h2⟩ | ⟨o, i, d, ho, h1, h2, h3, hd, hdb, hins⟩
  · rw [hbk] at h1
    have hl : Hm.lack p (W.blk a) (owner p (W.blk a) x) = 4 := by rw [hbk, h1]; simp [Hm.lack]
    rw [hl, h2]
    have fx := And.intro hT <| And.intro hE <| And.intro hc1 <| And.intro hsr <| And.intro hsE <| And.intro hbl <| h1
    have c1 := scope_owner_fn gl p hP c.blk k hk x hx
    refine k_run ?_
    repeat ((first | refine wSc (id := 1) qsQa0 mixed ?_); refine k_rund ?_; refine k_run ?_)
    clear fx c1
    refine e_ret [] .nil (by simp; rfl) ⟨by simp [hIdx], OwnM.fin (have om := hO; OwnM.re om)⟩
  · rw [hbk] at h1
    have hon : ((o : Int) == -1) = false := by rw [beq_eq_false_iff_ne]; omega
    have hol : o < p.length := by rw [← hdb]; exact hw.blks i d hd
    rw [h2]
    by_cases hob : o = c.blk
    · have hai : i = a := by rw [h3, climb_here hc hob.symm]
      have hsame : ((c.blk : Int) == (c.blk : Int)) = true := by simp
      subst hob
      by_cases hk2 : k.kind = 2
      · have hl : Hm.lack p (W.blk a) (owner p (W.blk a) x) = 4 := by
          rw [hbk, h1]
          simp [Hm.lack, hka, hk2]
        rw [hl]
        have hkb : (k.kind == 2) = true := by simpa using hk2
        have hsc := hc2 c.blk k hbl hk
        have fx := And.intro hT <| And.intro hE <| And.intro hc1 <| And.intro hsr <| And.intro hsE <| And.intro hbl <| And.intro h1 <| And.intro hon <| And.intro hsame <| And.intro hsc <| And.intro hkb <| @bne_def
        have c1 := scope_owner_fn gl p hP c.blk k hk x hx
        refine k_run ?_
        repeat ((first | refine wSc (id := 1) qsQa0 mixed ?_); refine k_rund ?_; refine k_run ?_)
        clear fx c1
        refine e_ret [] .nil (by simp; rfl) ⟨by simp [hIdx, hai], OwnM.fin (have om := hO; OwnM.re om)⟩
      · have hl : Hm.lack p (W.blk a) (owner p (W.blk a) x) = 2 := by
          rw [hbk, h1]
          simp [Hm.lack, hka, hk2]
        rw [hl]
        have hkb : (k.kind == 2) = false := by simpa using hk2
        have hsc := hc2 c.blk k hbl hk
        have fx := And.intro hT <| And.intro hE <| And.intro hc1 <| And.intro hsr <| And.intro hsE <| And.intro hbl <| And.intro h1 <| And.intro hon <| And.intro hsame <| And.intro hsc <| And.intro hkb <| @bne_def
        have c1 := scope_owner_fn gl p hP c.blk k hk x hx
        refine k_run ?_
        repeat ((first | refine wSc (id := 1) qsQa0 mixed ?_); refine k_rund ?_; refine k_run ?_)
        clear fx c1
        refine e_ret [] .nil (by simp; rfl) ⟨by simp [hIdx, hai], OwnM.fin (have om := hO; OwnM.re om)⟩
    · have hl : Hm.lack p (W.blk a) (owner p (W.blk a) x) = 3 := by
        have e1 : ¬ (o : Int) < 0 := by omega
        have e2 : ¬ (o : Int) = c.blk := by omega
        rw [hbk, h1]
        simp [Hm.lack, e1, e2]
      rw [hl]
      have hne : ((o : Int) == (c.blk : Int)) = false := by rw [beq_eq_false_iff_ne]; omega
      obtain ⟨u1, u2, u3⟩ := inside_up hh hw hc (fun e => hob e.symm) ho hins
      have ha0 : ¬ a = 0 := by omega
      rw [if_neg ha0] at hE
      have fx := And.intro hT <| And.intro hE <| And.intro hc1 <| And.intro hsr <| And.intro hsE <| And.intro hbl <| And.intro h1 <| And.intro hon <| And.intro hne <| @bne_def
      have c1 := scope_owner_fn gl p hP c.blk k hk x hx
      refine k_run ?_
      repeat ((first | refine wSc (id := 1) qsQa0 mixed ?_); refine k_rund ?_; refine k_run ?_)
      clear fx c1
      refine w_loop (fun n st => ∃ b : Nat, n = b ∧ b < W.acts.length ∧ climb W.acts o b b = i ∧ inside p (W.blk b) o = true ∧ st.tm 8 = iv o ∧ st.tm 9 = ptE b ∧ OwnM st.hp F p W) c.up ?_ ?_
      · exact ⟨c.up, rfl, by omega, by rw [← climb_up hh hw ho hc (fun e => hob e.symm) hins]; exact h3.symm, u3, by simp, by simp, (have om := hO; OwnM.re om)⟩
      clear hT hc1 hc2 hE hO
      rintro n st - - ⟨b, rfl, hb, hcl, hib, t8, t9, hO⟩
      obtain ⟨e, he⟩ : ∃ e, W.acts[n]? = some e := ⟨_, gE hb⟩
      have hE := hO.env n e he
      simp only [envRow] at hE
      by_cases heb : e.blk = o
      · have hni : n = i := by rw [← hcl, climb_here he heb]
        subst hni
        subst heb
        have hsame : ((e.blk : Int) == (e.blk : Int)) = true := by simp
        have fx := And.intro t8 <| And.intro t9 <| And.intro hE <| And.intro hsame <| @bne_def
        refine k_run ?_
        repeat ((first | refine wSc (id := 1) qsQa0 mixed ?_); refine k_rund ?_; refine k_run ?_)
        clear fx
        refine e_ret [] .nil (by simp; rfl) ⟨by simp [hIdx], OwnM.fin (have om := hO; OwnM.re om)⟩
      · obtain ⟨e1, e2, e3⟩ := inside_up hh hw he heb ho hib
        have hneb : ((e.blk : Int) == (o : Int)) = false := by rw [beq_eq_false_iff_ne]; omega
        have hn0 : ¬ n = 0 := by omega
        rw [if_neg hn0] at hE
        have fx := And.intro t8 <| And.intro t9 <| And.intro hE <| And.intro hneb <| @bne_def
        refine k_run ?_
        repeat ((first | refine wSc (id := 1) qsQa0 mixed ?_); refine k_rund ?_; refine k_run ?_)
        clear fx
        refine ⟨e.up, by omega, e.up, rfl, by omega, ?_, e3, by simp [t8], by simp, (have om := hO; OwnM.re om)⟩
        rw [← hcl, climb_up hh hw ho he heb hib]
abbrev qsWg0 : Sch := .q 0 <| .q 1 <| .q 2 <| .q 3 <| .q 4 <| .q 5 <| .l 6 [4, 3, 2, 1, 0] <| .l 7 [4, 3, 2, 1, 0] <| .l 8 [4, 3, 2, 0] <| .q 9 <| .l 10 [] <| .done
theorem keys_fn (gl) (H : Nm → Option AO) (gs : Int → Slt) (l : List Int) (hH : H (.u 2 0 0) = some (.map (grows gs l))) :
    FnE Tryz.prog gl 170 (Nm.under (.u 2 0 0)) [.mp (.u 2 0 0)] H (fun r y H' => y = .fn (.func 192) [] [.pt r 0] ∧ H' r = some (.row 1 [[.mp (.u 2 0 0)]]) ∧ H' (.u 2 0 0) = some (.map (grows gs l))) noE := by
  have hnf : isNilS (.sc Value.nilFunc) = false := rfl
  refine FnE.of_sem Tryz.func170 rfl (by kernel_rfl) (rs := [.tmp 2]) rfl Tryz.ntmps170 (Nat.le_of_ble_eq_true rfl) (fun _ => under_usroot rfl) fun C w g root hroot => ?_
  have fx := And.intro hH <| hnf
  refine k_run ?_
  clear fx
  refine e_ret [(.s 1, root)] (.one rfl) (by simp; rfl) ⟨by simp, by simp [hroot root (Nm.under_self _)], by simp [hH]⟩
theorem sortedKeys : SortedKeys Tryz.prog 169 192 3 := fun Bm b nn D0 R w h1 h2 h3 h4 h5 => sorted_calls Bm b nn D0 R w h1 h2 h3 h4 h5
theorem viewOf_fn (gl) (b : Int) (gs : Int → Slt) (l : List Int) (hs : l.Pairwise (· < ·)) (hr : ∀ x ∈ l, 0 ≤ x ∧ x ≤ 7) (h8 : l.length ≤ 8) (H : Nm → Option AO) (hH : H (.u 2 0 0) = some (.map (grows gs l))) :
    FnE Tryz.prog gl 140 (Nm.under (.u 2 0 0)) [iv b, .mp (.u 2 0 0)] H (fun r y H' => y = .agg ((Vw.mk b (vnames (l.map fun x => (x, gs x))) (vvals (l.map fun x => (x, gs x)))).own r 0) ∧ OwnV H' r 0 ⟨b, vnames (l.map fun x => (x, gs x)), vvals (l.map fun x => (x, gs x))⟩) noE := by
  obtain ⟨S, hS⟩ : ∃ S, S = l.filter fun y => (gs y).isSome := ⟨_, rfl⟩
  rw [vnames_left, vvals_left, ← hS]
  have hSl : S.length ≤ 8 := by rw [hS]; exact Nat.le_trans (List.length_filter_le _ _) h8
  have hSs : S.Pairwise (· < ·) := hS ▸ hs.filter _
  have hSm : ∀ x ∈ S, x ∈ l ∧ (gs x).isSome = true := fun x hx => by rw [hS] at hx; exact List.mem_filter.1 hx
  have hSr : ∀ x ∈ S, 0 ≤ x ∧ x ≤ 7 := fun x hx => hr x (hSm x hx).1
  have hnd : l.Nodup := hs.imp fun h => by omega
  refine FnE.of_sem Tryz.func140 rfl (by kernel_rfl) (rs := [.cell 4 66]) rfl Tryz.ntmps140 (Nat.le_of_ble_eq_true rfl) (fun _ => under_usroot rfl) fun C w g root hroot => ?_
  have fx :=  hH
  refine k_run ?_
  repeat ((first | refine wSc (id := 12) qsWg0 mixed ?_); refine k_rund ?_; refine k_run ?_)
  clear fx
  refine w_loop (fun n st => ∃ x : Nat, n = 8 - x ∧ x ≤ 8 ∧ st.tm 0 = iv b ∧ st.tm 1 = .mp (.u 2 0 0) ∧ st.hp (.u 2 0 0) = some (.map (grows gs (leftL gs l x))) ∧ st.tm 4 = .pt (.s 4) 0 ∧ st.hp (.s 4) = some (.row 3 [[iv 0, .hs (.c (.s 4) 0 1) 1 0 0, .hs (.c (.s 4) 0 2) 1 0 0]]) ∧ st.hp (.c (.s 4) 0 1) = some (.row 1 []) ∧ st.hp (.c (.s 4) 0 2) = some (.row 1 []) ∧ st.tm 11 = iv x) 8 ?_ ?_
  · exact ⟨0, by omega, by omega, by simp, by simp, by simp [leftL_zero hr, hH], by simp, by simp, by simp, by simp, by simp⟩
  rintro n st - - ⟨x, rfl, hx, h0, h1, hm, h4, hp4, hq4, hr4, h11⟩
  by_cases hx8 : x < 8
  · have hx8' : (x : Int) < 8 := by omega
    have hget := grows_get (g := gs) (l := leftL gs l x) (n := (x : Int))
    by_cases hxl : (x : Int) ∈ l
    · rw [if_pos (mem_leftL.2 hxl)] at hget
      rcases hgx : gs x with _ | ⟨v1, v2⟩
      · have hdel := grows_del (g := gs) (l := leftL gs l x) (n := (x : Int))
        rw [← leftL_drop hnd (by rw [hgx]; rfl)] at hdel
        rw [hgx, slotC_none] at hget
        have fx := And.intro h1 <| And.intro hm <| And.intro h11 <| And.intro hx8 <| And.intro hx8' <| hget
        refine k_run ?_
        repeat ((first | refine wSc (id := 12) qsWg0 mixed ?_); refine k_rund ?_; refine k_run ?_)
        clear fx
        intro K hK
        have fx := And.intro h1 (And.intro hm hdel)
        refine x_delete (h := ?_)
        clear fx
        have fx :=  h11
        refine k_run ?_
        repeat ((first | refine wSc (id := 12) qsWg0 mixed ?_); refine k_rund ?_; refine k_run ?_)
        clear fx
        exact ⟨8 - (x + 1), by omega, x + 1, rfl, by omega, by simp [h0], by simp [h1], by simp, by simp [h4], by simp [hp4], by simp [hq4], by simp [hr4], by simp; exact wrp (by omega) (by omega)⟩
      · have hk := leftL_keep (g := gs) (l := l) (x := x) (fun _ => by rw [hgx]; rfl)
        rw [hgx, slotC_some] at hget
        have fx := And.intro h1 <| And.intro hm <| And.intro h11 <| And.intro hx8 <| And.intro hx8' <| hget
        refine k_run ?_
        repeat ((first | refine wSc (id := 12) qsWg0 mixed ?_); refine k_rund ?_; refine k_run ?_)
        clear fx
        exact ⟨8 - (x + 1), by omega, x + 1, rfl, by omega, by simp [h0], by simp [h1], by simp [hm, hk], by simp [h4], by simp [hp4], by simp [hq4], by simp [hr4], by simp; exact wrp (by omega) (by omega)⟩
    · rw [if_neg (fun h => hxl (mem_leftL.1 h))] at hget
      have hk := leftL_keep (g := gs) (l := l) (x := x) (fun h => absurd h hxl)
      have fx := And.intro h1 <| And.intro hm <| And.intro h11 <| And.intro hx8 <| And.intro hx8' <| hget
      refine k_run ?_
      repeat ((first | refine wSc (id := 12) qsWg0 mixed ?_); refine k_rund ?_; refine k_run ?_)
      clear fx
      exact ⟨8 - (x + 1), by omega, x + 1, rfl, by omega, by simp [h0], by simp [h1], by simp [hm, hk], by simp [h4], by simp [hp4], by simp [hq4], by simp [hr4], by simp; exact wrp (by omega) (by omega)⟩
  · have hge : x = 8 := by omega
    subst hge
    rw [leftL_end hr, ← hS] at hm
    have fx := And.intro h0 <| And.intro h1 <| And.intro hm <| h11
    refine k_run ?_
    repeat ((first | refine wSc (id := 12) qsWg0 mixed ?_); refine k_rund ?_; refine k_run ?_)
    clear fx
    intro K hK
    have fx := And.intro h1 hm
    refine x_mut (.u 2 0 0) rfl (by simp [hm]) (hF := keys_fn gl _ gs S (by simp [hsub, hm])) (h := ?_)
    rintro y H1 ⟨rfl, hk1, hk2⟩
    clear fx
    have fx := And.intro h0 <| And.intro hk1 <| hk2
    refine k_run ?_
    repeat ((first | refine wSc (id := 12) qsWg0 mixed ?_); refine k_rund ?_; refine k_run ?_)
    clear fx
    have fx := And.intro hk1 hk2
    refine x_sorted (n := .s 31) (N := .u 2 0 0) (gs := gs) (l := S) ⟨_, rfl, rfl, rfl⟩ Tryz.underlying3 sortedKeys (h8 := hSl) (hs := hSs) (hr := hSr) (h := ?_)
    clear fx
    have fx := And.intro h0 <| And.intro h1 <| And.intro hm <| And.intro hk1 <| hk2
    refine k_run ?_
    repeat ((first | refine wSc (id := 12) qsWg0 mixed ?_); refine k_rund ?_; refine k_run ?_)
    clear fx
    refine w_loop (fun n st => ∃ (i : Nat) (V : List Int), n = S.length - i ∧ i ≤ S.length ∧ V = (S.take i).map (fun y => Hm.shown ((gs y).getD (0, 0))) ∧ V.length = i ∧ st.tm 1 = .mp (.u 2 0 0) ∧ st.hp (.u 2 0 0) = some (.map (grows gs S)) ∧ st.tm 4 = .pt (.s 4) 0 ∧ st.hp (.s 4) = some (.row 3 [[iv 0, .hs (.c (.s 4) 0 1) 1 0 0, .hs (.c (.s 4) 0 2) 1 0 0]]) ∧ st.hp (.c (.s 4) 0 1) = some (.row 1 []) ∧ st.hp (.c (.s 4) 0 2) = some (.row 1 []) ∧ st.tm 8 = .pt (.s 8) 0 ∧ st.hp (.s 8) = some (.row 3 [[iv b, .hs (.c (.s 8) 0 1) 1 0 S.length, .hs (.c (.s 8) 0 2) 1 0 V.length]]) ∧ st.hp (.c (.s 8) 0 1) = some (.row 1 (irows S)) ∧ st.hp (.c (.s 8) 0 2) = some (.row 1 (irows V)) ∧ st.tm 35 = .hs (.c (.s 8) 0 1) 1 0 S.length ∧ st.tm 36 = iv S.length ∧ st.tm 37 = iv i) S.length ?_ ?_
    · exact ⟨0, [], by omega, by omega, by simp, rfl, by simp [h1, hm], by simp [hk2], by simp [h4], by simp [hp4], by simp [hq4], by simp [hr4], by simp, by simp, by simp, by simp, by simp, by simp, by simp⟩
    clear h0 h1 hm h4 hp4 hq4 hr4 h11 hk1 hk2
    rintro n st - - ⟨i, V, rfl, hi, hV, hVl, h1, hm, h4, hp4, hq4, hr4, h8', hp8, hN8, hV8, h35, h36, h37⟩
    have hVb : V.length ≤ 8 := by omega
    by_cases hil : i < S.length
    · obtain ⟨x, hxS⟩ : ∃ x, S[i]? = some x := ⟨_, gE hil⟩
      obtain ⟨_, hxE⟩ := gS hxS
      have hxm := List.mem_of_getElem? hxS
      have hget := grows_get (g := gs) (l := S) (n := x)
      rw [if_pos hxm] at hget
      obtain ⟨v, hv⟩ := Option.isSome_iff_exists.1 (hSm x hxm).2
      have hsh := impl_ShownOf_fn gl v
      obtain ⟨v1, v2⟩ := v
      rw [hv, slotC_some] at hget
      have fx := And.intro h1 <| And.intro hm <| And.intro h8' <| And.intro hp8 <| And.intro hN8 <| And.intro hV8 <| And.intro h35 <| And.intro h36 <| And.intro h37 <| And.intro hil <| And.intro hxS <| And.intro hxE <| And.intro hget <| hVb
      have c1 := hsh
      refine k_run ?_
      repeat ((first | refine wSc (id := 12) qsWg0 mixed ?_); refine k_rund ?_; refine k_run ?_)
      clear fx c1
      refine ⟨S.length - (i + 1), by omega, i + 1, V ++ [Hm.shown (v1, v2)], rfl, by omega, by rw [List.take_add_one, hxS, List.map_append, hV]; simp [hv], by simp [hVl], by simp [h1], by simp [hm], by simp [h4], by simp [hp4], by simp [hq4], by simp [hr4], by simp [h8'], by simp, by simp [hN8], by simp [irows], by simp [h35], by simp [h36], by simp [h37]; exact wrp (by omega) (by omega)⟩
    · obtain rfl : i = S.length := by omega
      rw [List.take_length] at hV
      subst hV
      have fx := And.intro h1 <| And.intro hm <| And.intro h4 <| And.intro hp4 <| And.intro h8' <| And.intro hp8 <| And.intro hN8 <| And.intro hV8 <| And.intro h35 <| And.intro h36 <| And.intro h37 <| hil
      refine k_run ?_
      repeat ((first | refine wSc (id := 12) qsWg0 mixed ?_); refine k_rund ?_; refine k_run ?_)
      clear fx
      have r1 : Nm.under (.c root 0 1) (.c root 0 2) = false := Nm.c_disj (by decide) (Nm.under_self _)
      refine e_ret [(.c (.s 8) 0 1, .c root 0 1), (.c (.s 8) 0 2, .c root 0 2)] (.two rfl rfl (by decide)) (by simp [h4]; rfl) ⟨?_, ⟨?_, ?_⟩⟩
      · simp [res1, trL]
      · simp [hN8, r1, hroot root (Nm.under_self _)]
      · simp [hV8, r1, hroot root (Nm.under_self _)]
end Go.Proofs.YtcbkblboonkfhaaGreat
end
section
namespace Go.Proofs.YtcbkblboonkfhaaGreat
open Go Go.Hm Go.Proofs
abbrev qsWd0 : Sch := .q 0 <| .q 1 <| .q 2 <| .q 3 <| .q 4 <| .q 5 <| .q 6 <| .q 7 <| .q 8 <| .q 9 <| .l 10 [] <| .done
def locV (p : Prg) (w : Wld) (a : Nat) (x : Int) : Option Nat :=
  if w.blk a = 0 then none else if kindAt p (w.blk a) = 2 then some a else some (climb w.acts (holdB p (w.blk a) x) a a)
theorem slotV_loc {p : Prg} {w : Wld} {a : Nat} {x : Int} : slotV p w a x = w.get (locV p w a x) x := by
  unfold slotV locV
  split
  · rfl
  · split <;> rfl
theorem nms_some {w : Wld} {i : Nat} {c : Hm.Act} (hc : w.acts[i]? = some c) (hi : i ≠ 0) : w.nms i = w.vars (some i) := by simp [Wld.nms, Wld.vars, hi, hc]
theorem placeV_fn (gl) (H : Nm → Option AO) (p : Prg) (W : Wld) (a x : Nat) (hP : ShapeP p) (hw : WOk p W) (ha : a < W.acts.length) (hx : x < 8) (hsx : (x : Int) ∈ seenL p (W.blk a)) (hO : OwnMv H p W) :
    FnE Tryz.prog gl 139 DM [.pt Mn 0, ptE a, iv x] H (fun _ y H' => y = .agg (slotC (slotV p W a x)) ∧ OwnMv H' p W) noE := by
  have hh := hP.heads
  have hx7 : 0 ≤ (x : Int) ∧ (x : Int) ≤ 7 := by omega
  obtain ⟨c, hc⟩ : ∃ c, W.acts[a]? = some c := ⟨_, gE ha⟩
  have hbl := hw.blks a c hc
  obtain ⟨k, hk⟩ : ∃ k, p[c.blk]? = some k := ⟨_, gE hbl⟩
  obtain ⟨_, hkE⟩ := gS hk
  have hbk := blk_at hc
  obtain ⟨_, hT, x2, x3, x4, x5, x6, x7, x8, x9, rfl⟩ := hO.top
  have hc1 := hO.scs.top
  have hc2 := hO.scs.sc
  have hE := hO.env a c hc
  simp only [envRow] at hE
  have hsr := sRows_get (n := .c Mn 0 1) (len := p.length) (i := p.length) hbl
  rw [if_pos hbl] at hsr
  obtain ⟨_, hsE⟩ := gS hsr
  have hka : kindAt p c.blk = k.kind := by simp [kindAt, hk]
  have hsc := hc2 c.blk k hbl hk
  have ha0 : a = 0 ↔ c.blk = 0 := by
    constructor
    · rintro rfl
      obtain ⟨a0, h1, h2⟩ := hw.a0
      rw [hc] at h1
      obtain rfl := Option.some.inj h1
      exact h2
    · intro e
      rcases Nat.eq_zero_or_pos a with h | h
      · exact h
      · obtain ⟨_, c', k', _, _, _, h0⟩ := hw.up a c hc h
        omega
  rw [slotV_loc]
  obtain ⟨s, hs⟩ : ∃ s, W.get (locV p W a x) x = s := ⟨_, rfl⟩
  rw [hs]
  by_cases hk1 : k.kind = 1
  · have hk1b : (k.kind == 1) = true := by simp [hk1]
    have hb0 : 0 < c.blk := by
      rcases Nat.eq_zero_or_pos c.blk with e | e
      · rw [e] at hk
        have := (hP.kind0 hk).2 rfl
        omega
      · exact e
    rw [hbk] at hsx
    obtain ⟨ho, hins, hout⟩ := hold_ok hh hk hk1 hb0 hsx
    have hins : inside p (W.blk a) (holdB p c.blk x) = true := by rw [hbk]; exact hins
    have hloc : isLocal c.blk k x = true → holdB p c.blk x = c.blk := fun h => by simp [holdB, hk, h]
    have hlv : locV p W a x = some (climb W.acts (holdB p c.blk x) a a) := by
      unfold locV
      rw [hbk, if_neg (by omega), if_neg (by rw [hka, hk1]; decide)]
    rw [hlv] at hs
    generalize holdB p c.blk x = o at *
    obtain ⟨d, hd, hdb⟩ := climb_at hh hw ho a a (Nat.le_refl _) ha hins
    obtain ⟨i, hi⟩ : ∃ i, i = climb W.acts o a a := ⟨_, rfl⟩
    rw [← hi] at hd hs
    have hi0 : i ≠ 0 := by
      rintro rfl
      obtain ⟨a0, h1, h2⟩ := hw.a0
      rw [hd] at h1
      obtain rfl := Option.some.inj h1
      omega
    have hil := (gS hd).1
    refine FnE.of_sem Tryz.func139 rfl (by kernel_rfl) (rs := [.cell 6 119]) rfl Tryz.ntmps139 (Nat.le_of_ble_eq_true rfl) (fun _ => DM_root) fun C w g root hroot => ?_
    have hlf := scope_isLocal_fn gl c.blk k (scopeA p k.parent) k.params x hx
    have hle : (k.kind != 0 && decide ((x : Int) ∈ k.bd) && !(decide ((x : Int) ∈ k.dc 9) || decide ((x : Int) ∈ k.dc 10))) = isLocal c.blk k x := by
      simp [isLocal, hk1, hb0, Bool.and_assoc]
    have hlf' := hlf
    rw [hle] at hlf'
    cases hlc : isLocal c.blk k x
    · rw [hlc] at hlf'
      have hou := outerOwner_fn' gl p hP c.blk k hk x hx
      rw [hout hlc] at hou
      have fx := And.intro hT <| And.intro hE <| And.intro hc1 <| And.intro hsr <| And.intro hsE <| And.intro hbl <| And.intro hsc <| hk1b
      have c1 := hlf'
      have c2 := hou
      refine k_run ?_
      repeat ((first | refine wSc (id := 1) qsWd0 mixed ?_); refine k_rund ?_; refine k_run ?_)
      clear fx c1 c2
      refine w_loop (fun n st => ∃ b : Nat, n = b ∧ b < W.acts.length ∧ climb W.acts o b b = i ∧ inside p (W.blk b) o = true ∧ st.tm 9 = iv o ∧ st.tm 8 = ptE b ∧ st.tm 2 = iv x ∧ st.tm 6 = .pt (.s 6) 0 ∧ st.hp (.s 6) = some (.row 3 [[bv false, iv 0, iv 0]]) ∧ OwnMv st.hp p W) a ?_ ?_
      · exact ⟨a, rfl, ha, hi.symm, hins, by simp, by simp, by simp, by simp, by simp, ⟨(by obtain ⟨_, h9, _, _, _, _, _, _, _, _, rfl⟩ := hO.top; exact ⟨_, by first | (simp [h9]; done) | (simp [h9]; exact ⟨rfl, rfl, rfl, rfl, rfl, rfl, rfl, rfl⟩), .mk⟩), ⟨by simp [hO.scs.top], fun j k hj hk => by simp [hO.scs.sc j k hj hk]⟩, fun k j hk hj => by simp [hO.bx k j hk hj], fun i a ha => by simp [hO.env i a ha], fun i hi => (hO.nms i hi).imp fun ms hm => ⟨by simp [hm.1], hm.2⟩, fun k i j hk hn => if e : k = 1 ∧ i = 0 ∧ j = 0 then .inl e else hO.only k i j hk (by simpa [hk, e] using hn)⟩⟩
      clear hT hc1 hc2 hE hsc hO
      rintro n st - - ⟨b, rfl, hb, hcl, hib, t9, t8, t2, t6, tp6, hO⟩
      obtain ⟨e, he⟩ : ∃ e, W.acts[n]? = some e := ⟨_, gE hb⟩
      have hE := hO.env n e he
      simp only [envRow] at hE
      by_cases heb : e.blk = o
      · have hni : n = i := by rw [← hcl, climb_here he heb]
        subst hni
        obtain ⟨ms, hms, hmo⟩ := hO.nms n hb
        rw [nms_some he hi0] at hmo
        have hlk := hmo.get' hx7
        rw [hs] at hlk
        have hsame : ((e.blk : Int) == (o : Int)) = true := by simp [heb]
        rcases s with _ | ⟨v1, v2⟩
        all_goals
          have fx := And.intro t9 <| And.intro t8 <| And.intro t2 <| And.intro t6 <| And.intro tp6 <| And.intro hE <| And.intro hsame <| And.intro @bne_def <| And.intro hms <| hlk
          refine k_run ?_
          repeat ((first | refine wSc (id := 1) qsWd0 mixed ?_); refine k_rund ?_; refine k_run ?_)
          clear fx
          refine e_ret [] .nil (by simp [t6]; rfl) ⟨by simp, OwnMv.fin ⟨(by obtain ⟨_, h9, _, _, _, _, _, _, _, _, rfl⟩ := hO.top; exact ⟨_, by first | (simp [h9]; done) | (simp [h9]; exact ⟨rfl, rfl, rfl, rfl, rfl, rfl, rfl, rfl⟩), .mk⟩), ⟨by simp [hO.scs.top], fun j k hj hk => by simp [hO.scs.sc j k hj hk]⟩, fun k j hk hj => by simp [hO.bx k j hk hj], fun i a ha => by simp [hO.env i a ha], fun i hi => (hO.nms i hi).imp fun ms hm => ⟨by simp [hm.1], hm.2⟩, fun k i j hk hn => if e : k = 1 ∧ i = 0 ∧ j = 0 then .inl e else hO.only k i j hk (by simpa [hk, e] using hn)⟩⟩
      · obtain ⟨e1, e2, e3⟩ := inside_up hh hw he heb ho hib
        have hneb : ((e.blk : Int) == (o : Int)) = false := by rw [beq_eq_false_iff_ne]; omega
        have hn0 : ¬ n = 0 := by omega
        rw [if_neg hn0] at hE
        have fx := And.intro t9 <| And.intro t8 <| And.intro hE <| And.intro hneb <| @bne_def
        refine k_run ?_
        repeat ((first | refine wSc (id := 1) qsWd0 mixed ?_); refine k_rund ?_; refine k_run ?_)
        clear fx
        refine ⟨e.up, by omega, e.up, rfl, by omega, ?_, e3, by simp [t9], by simp, by simp [t2], by simp [t6], by simp [tp6], ⟨(by obtain ⟨_, h9, _, _, _, _, _, _, _, _, rfl⟩ := hO.top; exact ⟨_, by first | (simp [h9]; done) | (simp [h9]; exact ⟨rfl, rfl, rfl, rfl, rfl, rfl, rfl, rfl⟩), .mk⟩), ⟨by simp [hO.scs.top], fun j k hj hk => by simp [hO.scs.sc j k hj hk]⟩, fun k j hk hj => by simp [hO.bx k j hk hj], fun i a ha => by simp [hO.env i a ha], fun i hi => (hO.nms i hi).imp fun ms hm => ⟨by simp [hm.1], hm.2⟩, fun k i j hk hn => if e : k = 1 ∧ i = 0 ∧ j = 0 then .inl e else hO.only k i j hk (by simpa [hk, e] using hn)⟩⟩
        rw [← hcl, climb_up hh hw ho he heb hib]
    · rw [hlc] at hlf'
      have hoc := hloc hlc
      have hia : i = a := by rw [hi, climb_here hc hoc.symm]
      subst hia
      obtain ⟨ms, hms, hmo⟩ := hO.nms i ha
      rw [nms_some hc hi0] at hmo
      have hlk := hmo.get' hx7
      rw [hs] at hlk
      rcases s with _ | ⟨v1, v2⟩
      all_goals
        have fx := And.intro hT <| And.intro hE <| And.intro hc1 <| And.intro hsr <| And.intro hsE <| And.intro hbl <| And.intro hsc <| And.intro hk1b <| And.intro hms <| hlk
        have c1 := hlf'
        refine k_run ?_
        repeat ((first | refine wSc (id := 1) qsWd0 mixed ?_); refine k_rund ?_; refine k_run ?_)
        clear fx c1
        refine e_ret [] .nil (by simp; rfl) ⟨by simp, OwnMv.fin ⟨(by obtain ⟨_, h9, _, _, _, _, _, _, _, _, rfl⟩ := hO.top; exact ⟨_, by first | (simp [h9]; done) | (simp [h9]; exact ⟨rfl, rfl, rfl, rfl, rfl, rfl, rfl, rfl⟩), .mk⟩), ⟨by simp [hO.scs.top], fun j k hj hk => by simp [hO.scs.sc j k hj hk]⟩, fun k j hk hj => by simp [hO.bx k j hk hj], fun i a ha => by simp [hO.env i a ha], fun i hi => (hO.nms i hi).imp fun ms hm => ⟨by simp [hm.1], hm.2⟩, fun k i j hk hn => if e : k = 1 ∧ i = 0 ∧ j = 0 then .inl e else hO.only k i j hk (by simpa [hk, e] using hn)⟩⟩
  · have hk1b : (k.kind == 1) = false := by rw [beq_eq_false_iff_ne]; exact hk1
    have hlv : W.nms a = W.vars (locV p W a x) := by
      unfold locV
      rw [hbk]
      by_cases hb : c.blk = 0
      · rw [if_pos hb]
        have := ha0.2 hb
        simp [Wld.nms, this, Wld.vars]
      · have hk2 : k.kind = 2 := by
          have := hP.head c.blk k hk
          unfold HeadOk at this
          rw [if_neg hb] at this
          omega
        rw [if_neg hb, if_pos (by rw [hka]; exact hk2)]
        exact nms_some hc (fun e => hb (ha0.1 e))
    obtain ⟨ms, hms, hmo⟩ := hO.nms a ha
    rw [hlv] at hmo
    have hlk := hmo.get' hx7
    rw [hs] at hlk
    refine FnE.of_sem Tryz.func139 rfl (by kernel_rfl) (rs := [.cell 6 119]) rfl Tryz.ntmps139 (Nat.le_of_ble_eq_true rfl) (fun _ => DM_root) fun C w g root hroot => ?_
    rcases s with _ | ⟨v1, v2⟩
    all_goals
      have fx := And.intro hT <| And.intro hE <| And.intro hc1 <| And.intro hsr <| And.intro hsE <| And.intro hbl <| And.intro hsc <| And.intro hk1b <| And.intro hms <| hlk
      refine k_run ?_
      repeat ((first | refine wSc (id := 1) qsWd0 mixed ?_); refine k_rund ?_; refine k_run ?_)
      clear fx
      refine e_ret [] .nil (by simp; rfl) ⟨by simp, OwnMv.fin ⟨(by obtain ⟨_, h9, _, _, _, _, _, _, _, _, rfl⟩ := hO.top; exact ⟨_, by first | (simp [h9]; done) | (simp [h9]; exact ⟨rfl, rfl, rfl, rfl, rfl, rfl, rfl, rfl⟩), .mk⟩), ⟨by simp [hO.scs.top], fun j k hj hk => by simp [hO.scs.sc j k hj hk]⟩, fun k j hk hj => by simp [hO.bx k j hk hj], fun i a ha => by simp [hO.env i a ha], fun i hi => (hO.nms i hi).imp fun ms hm => ⟨by simp [hm.1], hm.2⟩, fun k i j hk hn => if e : k = 1 ∧ i = 0 ∧ j = 0 then .inl e else hO.only k i j hk (by simpa [hk, e] using hn)⟩⟩
@[simp] theorem scRows_tr {p : Prg} {f : Nm → Option Nm} : (scRows p).map (fun r => r.map (AV.tr f)) = scRows p := by simp [scRows]
theorem scopeA_shape (p : Prg) (j : Int) : scopeA p j = nilP ∨ ∃ r, scopeA p j = .el r 0 := by
  unfold scopeA
  cases p.length with
  | zero => exact .inl rfl
  | succ n =>
    rw [scopeF]
    split
    · exact .inl rfl
    · split
      · exact .inl rfl
      · exact .inr ⟨_, rfl⟩
@[simp] theorem scopeA_isNil {p : Prg} {j : Int} : isNilS (scopeA p j) = false := by
  rcases scopeA_shape p j with h | ⟨r, h⟩ <;> rw [h] <;> rfl
@[simp] theorem scopeA_sNm {p : Prg} {j : Int} : sNm (scopeA p j) = none := by
  rcases scopeA_shape p j with h | ⟨r, h⟩ <;> rw [h] <;> rfl
theorem isWithin_fn (gl) (p : Prg) (hh : Heads p) (i : Nat) (k : Blk) (hk : p[i]? = some k) (b : Nat) : FnOk Tryz.prog gl 171 [scEl p i k, iv b] (fun _ y _ => y = bv (inside p i b)) := by
  have hil := (gS hk).1
  refine FnOk.of_sem Tryz.func171 rfl (by kernel_rfl) (rs := [.tmp 4]) rfl Tryz.ntmps171 (Nat.le_of_ble_eq_true rfl) fun C w g root => ?_
  have fx := fx0
  refine k_run ?_
  clear fx
  refine w_loop (fun n st => ∃ j : Int, n = (j + 1).toNat ∧ -1 ≤ j ∧ j < p.length ∧ st.tm 1 = iv b ∧ st.tm 5 = scopeA p j ∧ inside p i b = inside p j b) (i + 1) ?_ ?_
  · exact ⟨i, by omega, by omega, by omega, by simp, by simp [scopeA_eq hh hk], rfl⟩
  rintro n st - - ⟨j, rfl, hj1, hj, h1, h5, hin⟩
  rcases Int.lt_or_le j 0 with hn | hn
  · rw [scopeA_neg hn, nilP] at h5
    have hfa : inside p i b = false := by
      rw [hin, inside_end (by omega)]
      exact decide_eq_false (by omega)
    have fx := And.intro h1 <| h5
    refine k_run ?_
    clear fx
    refine e_ret [] .nil (by simp; rfl) ?_
    simp [hfa]
  · obtain ⟨J, rfl⟩ : ∃ J : Nat, j = J := ⟨j.toNat, by omega⟩
    obtain ⟨q, hq⟩ : ∃ q, p[J]? = some q := ⟨_, gE (by omega)⟩
    obtain ⟨hq1, hq2, _⟩ := hh J q hq
    rw [scopeA_eq hh hq] at h5
    cases hjb : ((J : Int) == b)
    · have hne : ¬ (J : Int) = b := by simpa using hjb
      have hin2 : inside p i b = inside p q.parent b := by
        rw [hin]
        rcases Int.lt_or_le b J with h | h
        · exact inside_step hh (by omega) hq h
        · rw [inside_end h, inside_end (by omega), decide_eq_false hne, decide_eq_false (by omega)]
      have fx := And.intro h1 <| And.intro h5 <| hjb
      refine k_run ?_
      clear fx
      exact ⟨(q.parent + 1).toNat, by omega, q.parent, rfl, hq1, by omega, by simp [h1], by simp, hin2⟩
    · have he : (J : Int) = b := by simpa using hjb
      have htr : inside p i b = true := by
        rw [hin, inside_end (by omega)]
        exact decide_eq_true he
      have fx := And.intro h1 <| And.intro h5 <| hjb
      refine k_run ?_
      clear fx
      refine e_ret [] .nil (by simp; rfl) ?_
      simp [htr]
theorem us_mem {k : Blk} {y : Nat} (hy : y < 8) : (decide ((y : Int) ∈ k.rd) || decide ((y : Int) ∈ k.bd) || (decide ((y : Int) ∈ k.dc 9) || decide ((y : Int) ∈ k.dc 10))) = decide ((y : Int) ∈ k.us) := by
  have e := mem_sortedAt (xs := k.rd ++ k.bd ++ k.dc 9 ++ k.dc 10) hy
  simp only [Blk.us, e, List.mem_append]
  by_cases h1 : (y : Int) ∈ k.rd <;> by_cases h2 : (y : Int) ∈ k.bd <;> by_cases h3 : (y : Int) ∈ k.dc 9 <;> by_cases h4 : (y : Int) ∈ k.dc 10 <;> simp [h1, h2, h3, h4]
theorem uses_fn' (gl) (p : Prg) (i : Nat) (k : Blk) (x : Nat) (hx : x < 8) : FnOk Tryz.prog gl 172 [scEl p i k, iv x] (fun _ y _ => y = bv (decide ((x : Int) ∈ k.us))) := by
  have := uses_fn gl i k (scopeA p k.parent) k.params x hx
  rwa [us_mem hx] at this
end Go.Proofs.YtcbkblboonkfhaaGreat
end
