/-
  Own texts, joined by mkclaim.py: Hi, Hj, Hk, Hp.
-/
import Derived.Test.YtopgafhjmbfaoaaM21
import Derived.Test.YtopgafhjmbfaoaaM10

section
/-
  The function outside that owns a name.
-/
set_option maxRecDepth 100000
set_option maxHeartbeats 2000000
set_option linter.unusedSimpArgs false
namespace Go.Proofs.Ytopgafhjmbfaoaa
open Go Go.Hm Go.Proofs Go.RowKit Go.Shelf
attribute [local go_sem] Oper.semAt_some

theorem cell_of_box {W : World} {B : Nat} {v : Value} {t : TypeId} (h : W.heap[B]? = some (.cells #[v] t (0, 0))) : W.cell? ⟨B, 0, none⟩ = some v ∧ W.frozen? ⟨B, 0, none⟩ = false := by
  constructor <;> simp [World.cell?, World.frozen?, h]
theorem cell_new' (W : World) (v : Value) (t : TypeId) : (W.alloc (.cells #[v] t)).cell? ⟨W.heap.size, 0, none⟩ = some v ∧ (W.alloc (.cells #[v] t)).frozen? ⟨W.heap.size, 0, none⟩ = false := cell_of_box (World.alloc_heap_new W _)
theorem cell_alloc' {W : World} {a : Addr} {v : Value} (o : Obj) (h : W.cell? a = some v) : (W.alloc o).cell? a = some v := cell_kept h (World.grownBy_alloc W o none) (fun r e => by cases e)
theorem frozen_alloc' {W : World} {a : Addr} {v : Value} (o : Obj) (h : W.cell? a = some v) (hf : W.frozen? a = false) : (W.alloc o).frozen? a = false := (frozen_kept h (World.grownBy_alloc W o none) (fun r e => by cases e)).trans hf

theorem outerOwner_in (n : Nat) (hn : 3 ≤ n) (p : Prg) (hh : Heads p) (hb0 : ∀ k, p[0]? = some k → k.kind ≠ 1) (g : Gh) (w : World) (hC : ∀ b, g.C b → b < w.heap.size) (i : Nat) (k : Blk) (hk : p[i]? = some k) (a0 : Option Addr) (ha : RV g w (.pointer a0) (scopeA p i)) (x : Nat) (hx : x < 8) :
    CallsIn Fence.wide n Try.prog 93 #[.pointer a0, .int .i64 x] w fun e W' => e = .returned (.int .i64 (outerF p x p.length k.parent)) ∧ Below w.heap.size w W' := by
  have h1 : 1 ≤ n := by omega
  refine callsIn_of_wp_marks Try.func93 rfl trivial ?_ rfl
  simp only [Try.ntmps93, List.size_toArray, List.length_cons, List.length_nil, Nat.reduceAdd, Nat.reduceSub, Array.replicate_succ, Array.replicate_zero, List.push_toArray, List.append_toArray, List.nil_append, List.cons_append]
  gi_wp2_with (refine ⟨trivial, ?_⟩; gi_at_call 113; refine (functionsOutside_in (n - 1) _ _).mono ?_; rintro e w' ⟨rfl, rfl⟩)
  have c0 := cell_new' w (.int .i64 x) 3
  have c1 := cell_new' (w.alloc (.cells #[.int .i64 x] 3)) (.int .i64 0) 3
  have c2 := cell_new' ((w.alloc (.cells #[.int .i64 x] 3)).alloc (.cells #[.int .i64 0] 3)) (.pointer a0) 57
  simp only [World.size_alloc] at c1 c2
  have hB0 : Below w.heap.size w (((w.alloc (.cells #[.int .i64 x] 3)).alloc (.cells #[.int .i64 0] 3)).alloc (.cells #[.pointer a0] 57)) := (((Below.refl _ w).alloc (Nat.le_refl _) _).alloc (by simp) _).alloc (by simp; omega) _
  refine wpIn_rangeFunc_ownF rfl h1 (gf := 119) (lb := #[.pointer (some ⟨w.heap.size + 1 + 1, 0, none⟩)]) rfl trivial (enters_of Try.func119 (by kernel_rfl) rfl)
    (iter_stops (n - 1) (w.heap.size + 1 + 1) p hh g w _ hC i k hk a0 ha (by omega) hB0 (by simp) c2.1) belowK_t (belowK_b (by simp; omega)) (Below.refl _ _) (fun _ => rfl)
    (fun pre W => ((∀ y ∈ pre, found p x y.1.2 = none) ∧ W.cell? ⟨w.heap.size, 0, none⟩ = some (.int .i64 x) ∧ W.cell? ⟨w.heap.size + 1, 0, none⟩ = some (.int .i64 0) ∧ W.frozen? ⟨w.heap.size + 1, 0, none⟩ = false) ∧ Below w.heap.size w W)
    (fun c pre W => (c = .ret ∧ (∃ l y r, pre = l ++ [y] ∧ (∀ y ∈ l, found p x y.1.2 = none) ∧ found p x y.1.2 = some r ∧ W.cell? ⟨w.heap.size + 1, 0, none⟩ = some (.int .i64 r))) ∧ Below w.heap.size w W)
    (OwnFrom.and (Own.from (fun s A B row hs hg hr => ⟨hs.1, cell_kept hs.2.1 hg hr, cell_kept hs.2.2.1 hg hr, (frozen_kept hs.2.2.1 hg hr).trans hs.2.2.2⟩) _) (ownFrom_below (Nat.le_refl _) (by simp; omega)))
    (fun c => OwnFrom.and (Own.from (fun s A B row hs hg hr => ⟨hs.1, by obtain ⟨l, y, r, e1, e2, e3, e4⟩ := hs.2; exact ⟨l, y, r, e1, e2, e3, cell_kept e4 hg hr⟩⟩) _) (ownFrom_below (Nat.le_refl _) (by simp; omega)))
    ⟨⟨by simp, cell_alloc' _ (cell_alloc' _ c0.1), cell_alloc' _ c1.1, frozen_alloc' _ c1.1 c1.2⟩, hB0⟩
    (fun y => { tmps := #[.pointer a0, .int .i64 x, undef, .pointer (some ⟨w.heap.size, 0, none⟩), .pointer (some ⟨w.heap.size + 1, 0, none⟩), .pointer y.1.1, .pointer a0, .func (.func 119) #[] #[.pointer (some ⟨w.heap.size + 1 + 1, 0, none⟩)], .pointer y.1.1, undef, undef, undef, undef, undef, undef, undef, undef, undef, undef, undef, undef, undef], defers := [] }) ?assign ?body ?done ?stop
  case assign =>
    intro l y W K hK
    gi_wp2
    exact hK
  case body =>
    rintro l pre ⟨⟨ay, j⟩, q, hq, hq1, hr⟩ W ⟨⟨hp, hcx, hcr, hfr⟩, hB⟩ _
    dsimp only at hq hr ⊢
    obtain ⟨b, o, rfl, hs⟩ : ∃ b o, ay = some ⟨b, o, none⟩ ∧ ScAt g w p j q b o := by
      obtain ⟨b, o, e, h⟩ := hr.scAt hh hq
      exact ⟨b, o, by simpa using e, h⟩
    have hb := hC b hs.C
    have hg : W.cell? ⟨b, o + (27 + x), none⟩ = some (.bool (decide ((x : Int) ∈ q.dc 9))) := (hB.cell (p := ⟨b, o + (27 + x), none⟩) hb).trans (hs.glob x hx)
    have hidx : W.cell? ⟨b, o, none⟩ = some (.int .i64 j) := (hB.cell (p := ⟨b, o, none⟩) hb).trans hs.idx
    have h8 : (x : Int) < 8 := by omega
    have hg2 : W.cell? ⟨b, o + 27 + x, none⟩ = some (.bool (decide ((x : Int) ∈ q.dc 9))) := by rw [Nat.add_assoc]; exact hg
    have hmx : Try.prog.follows .mixedOrders = true := by kernel_rfl
    have hj0 : 0 < j := by
      rcases Nat.eq_zero_or_pos j with rfl | h
      · exact absurd hq1 (hb0 q hq)
      · exact h
    have hcall : ∀ W', Below w.heap.size w W' → Calls Try.prog 91 #[.pointer (some ⟨b, o, none⟩), .int .i64 x] W' fun e W'' => e = .returned (.bool (isLocal j q x)) ∧ Below W'.heap.size W' W'' := by
      intro W' hB'
      have hF := scope_isLocal_fn (fun _ => none) j q (scopeA p q.parent) q.params x hx
      have e : (q.kind != 0 && decide ((x : Int) ∈ q.bd) && !(decide ((x : Int) ∈ q.dc 9) || decide ((x : Int) ∈ q.dc 10))) = isLocal j q x := by
        simp [isLocal, hq1, hj0, Bool.and_assoc]
      rw [e] at hF
      refine FnOk.raw hF (g := g) (fun b hb => Nat.lt_of_lt_of_le (hC b hb) hB'.size) rfl ?_
      intro a v y hv hy
      match a, hv, hy with
      | 0, hv, hy =>
        obtain rfl := Option.some.inj hv
        obtain rfl := Option.some.inj hy
        have := hr.keepB hC hB'
        rwa [scopeA_eq hh hq] at this
      | 1, hv, hy =>
        obtain rfl := Option.some.inj hv
        obtain rfl := Option.some.inj hy
        exact .sc _
      | a + 2, hv, _ => simp at hv
    have hBd : Below w.heap.size w W.drew := ⟨hB.os, hB.tape, hB.output, hB.size, hB.block⟩
    have hbW : b < W.drew.heap.size := Nat.lt_of_lt_of_le hb hB.size
    have hrW : w.heap.size + 1 < W.drew.heap.size := by
      refine Nat.lt_of_not_le fun hge => ?_
      have : W.heap[w.heap.size + 1]? = none := Array.getElem?_eq_none hge
      simp [World.cell?, this] at hcr
    have hko : ∀ w3, Below W.drew.heap.size W.drew w3 → KeepsOthers W w3 := fun w3 h => ⟨h.size, fun k o hk _ => (h.block k (Array.getElem?_eq_some_iff.1 hk).1).trans hk⟩
    have hfd : found p x j = if (x : Int) ∈ q.dc 9 then some (-1) else if isLocal j q x then some (j : Int) else none := by simp only [found, hq]
    by_cases hm : (x : Int) ∈ q.dc 9
    · rw [decide_eq_true hm] at hg hg2
      rw [if_pos hm] at hfd
      gi_wp2
      gi_region_o
      all_goals gi_wp2
      all_goals exact ⟨(KeepsOthers.drew W).trans (KeepsOthers.setCell _ _ _), ⟨rfl, pre, ⟨(some ⟨b, o, none⟩, j), q, hq, hq1, hr⟩, -1, rfl, hp, hfd, World.cell?_setCell_same' _ _ _ (by rw [hcr]; rfl)⟩, hBd.setCell (p := ⟨w.heap.size + 1, 0, none⟩) (by simp) _⟩
    · rw [decide_eq_false hm] at hg hg2
      rw [if_neg hm] at hfd
      cases hl : isLocal j q x with
      | true =>
        rw [hl] at hcall
        rw [if_pos hl] at hfd
        gi_wp2
        gi_region_o
        all_goals gi_wp2_with (refine ⟨trivial, fun _ => by omega, ?_⟩; refine (CallsIn.inRound l (callsIn_wide.2 (hcall _ hBd))).mono ?_; rintro e w3 ⟨rfl, hbw⟩; have hi3 := (hbw.cell (p := ⟨b, o, none⟩) hbW).trans hidx; have hc3 := (hbw.cell (p := ⟨w.heap.size + 1, 0, none⟩) hrW).trans hcr; have hf3 := (hbw.frozen (p := ⟨w.heap.size + 1, 0, none⟩) hrW).trans hfr)
        all_goals exact ⟨(hko _ (by assumption)).trans (KeepsOthers.setCell _ _ _), ⟨rfl, pre, ⟨(some ⟨b, o, none⟩, j), q, hq, hq1, hr⟩, (j : Int), rfl, hp, hfd, World.cell?_setCell_same' _ _ _ (by rw [hc3]; rfl)⟩, (hBd.trans (Below.mono (by assumption) hBd.size)).setCell (p := ⟨w.heap.size + 1, 0, none⟩) (by simp) _⟩
      | false =>
        rw [hl] at hcall
        rw [if_neg (by rw [hl]; decide)] at hfd
        gi_wp2
        gi_region_o
        all_goals gi_wp2_with (refine ⟨trivial, fun _ => by omega, ?_⟩; refine (CallsIn.inRound l (callsIn_wide.2 (hcall _ hBd))).mono ?_; rintro e w3 ⟨rfl, hbw⟩)
        all_goals
          have hWw : Below W.drew.heap.size W.drew w3 := by assumption
          have hB3 : Below w.heap.size W.drew w3 := hWw.mono hBd.size
          have hBW : Below w.heap.size W w3 := ⟨hB3.os, hB3.tape, hB3.output, hB3.size, hB3.block⟩
          have hsW : w.heap.size < W.drew.heap.size := Nat.lt_of_succ_lt hrW
          refine ⟨hko _ hWw, hBW, ⟨fun y hy => ?_, (hWw.cell (p := ⟨w.heap.size, 0, none⟩) hsW).trans hcx, (hWw.cell (p := ⟨w.heap.size + 1, 0, none⟩) hrW).trans hcr, (hWw.frozen (p := ⟨w.heap.size + 1, 0, none⟩) hrW).trans hfr⟩, hB.trans hBW⟩
          rcases List.mem_append.1 hy with hy | hy
          · exact hp y hy
          · obtain rfl := List.mem_singleton.1 hy
            exact hfd
  case done =>
    rintro D ys W hD ⟨je, hneg, hpath⟩ ⟨⟨hne, _, hcr, hfr⟩, hB⟩ hK
    gi_wp2
    have hK' := (KeepsOthers.setCell W ⟨w.heap.size + 1, 0, none⟩ (.int .i64 (-1))).same D _ hK rfl
    refine ⟨by simp, .inl ⟨_, _, rfl, run_takeDeferred hK', ?_⟩⟩
    have hc5 := cell_kept (World.cell?_setCell_same' W ⟨w.heap.size + 1, 0, none⟩ (.int .i64 (-1)) (by rw [hcr]; rfl)) (grownBy_putObj' _ D (.deferred none)) (fun r e => by cases e; exact ⟨_, hK', rfl⟩)
    have hout : outerF p x p.length k.parent = -1 := by
      rw [hpath.outer hh hb0 (x := x) (fun y hy => by obtain ⟨z, hz, rfl⟩ := List.mem_map.1 hy; exact hne z hz), outerF_end (by omega)]
    refine ⟨.int .i64 (-1), ?_, by rw [hout], (hB.setCell (p := ⟨w.heap.size + 1, 0, none⟩) (by simp) _).trans (belowK_b (w := w) (Nat.le_refl _) _ D _ _ (by simp at hD; omega) hK' rfl rfl)⟩
    simp [results, Try.f93, go_sem, hc5]
  case stop =>
    rintro D c pre W hD ⟨je, hpath⟩ ⟨⟨rfl, l, y, r, rfl, hno, hf, hcr⟩, hB⟩ hK
    gi_wp2
    refine ⟨by simp, .inl ⟨_, _, rfl, run_takeDeferred hK, ?_⟩⟩
    have hc5 := cell_kept hcr (grownBy_putObj' _ D (.deferred none)) (fun r e => by cases e; exact ⟨_, hK, rfl⟩)
    have hout : outerF p x p.length k.parent = r := by
      rw [List.map_append, List.map_singleton] at hpath
      exact Path.found hh hpath hb0 (fun y hy => by obtain ⟨z, hz, rfl⟩ := List.mem_map.1 hy; exact hno z hz) hf
    refine ⟨.int .i64 r, ?_, by rw [hout], hB.trans (belowK_b (w := w) (Nat.le_refl _) W D _ _ (by simp at hD; omega) hK rfl rfl)⟩
    simp [results, Try.f93, go_sem, hc5]

/-- the function outside that owns a name -/
theorem outerOwner_fn (gl) (p : Prg) (hh : Heads p) (hb0 : ∀ k, p[0]? = some k → k.kind ≠ 1) (i : Nat) (k : Blk) (hk : p[i]? = some k) (x : Nat) (hx : x < 8) :
    FnOk Try.prog gl 93 [scopeA p i, iv x] (fun _ y _ => y = iv (outer p i x)) := by
  refine FnOk.of_raw ⟨_, Try.func93, by kernel_rfl, by kernel_rfl⟩ fun w g args hC hsz hargs => ?_
  rw [outer_fuel hh hk]
  obtain ⟨v0, v1, rfl⟩ : ∃ v0 v1, args = #[v0, v1] := by
    refine ⟨args[0]'(by simp at hsz; omega), args[1]'(by simp at hsz; omega), ?_⟩
    apply Array.ext
    · simpa using hsz
    · intro i h1 h2
      match i with
      | 0 => rfl
      | 1 => rfl
      | i + 2 => simp at hsz; omega
  have h0 := hargs 0 v0 _ rfl rfl
  have h1 := hargs 1 v1 _ rfl rfl
  obtain ⟨a0, rfl⟩ := h0.ptr
  obtain rfl := h1.sc_eq
  exact callsIn_wide.1 (outerOwner_in 3 (Nat.le_refl _) p hh hb0 g w hC i k hk a0 h0 x hx)
end Go.Proofs.Ytopgafhjmbfaoaa
end

section
/-
  Owners, declarations, valid programs.
-/
set_option maxRecDepth 100000
set_option maxHeartbeats 1000000
set_option linter.unusedSimpArgs false
namespace Go.Proofs.Ytopgafhjmbfaoaa
open Go Go.Hm Go.Proofs

/-- a block with its names, settled -/
abbrev scEl (p : Prg) (i : Nat) (k : Blk) : AV := .el (scopeRow i k (scopeA p k.parent) k.params) 0

theorem outerOwner_fn' (gl) (p : Prg) (hp : ShapeP p) (i : Nat) (k : Blk) (hk : p[i]? = some k) (x : Nat) (hx : x < 8) : FnOk Try.prog gl 93 [scEl p i k, iv x] (fun _ y _ => y = iv (outer p i x)) := by
  have := outerOwner_fn gl p hp.heads hp.fun0 i k hk x hx
  rwa [scopeA_eq hp.heads hk] at this

theorem scope_owner_fn (gl) (p : Prg) (hp : ShapeP p) (i : Nat) (k : Blk) (hk : p[i]? = some k) (x : Nat) (hx : x < 8) : FnOk Try.prog gl 52 [scEl p i k, iv x] (fun _ y _ => y = iv (owner p i x)) := by
  have h8 : (x : Int) < 8 := by omega
  have hg := scopeRow_g (i := i) (k := k) (o := scopeA p k.parent) (ps := k.params) hx
  have hk0 := hp.kind0 hk
  refine FnOk.of_sem Try.func52 rfl (by kernel_rfl) (rs := [.tmp 4]) rfl Try.ntmps52 (Nat.le_of_ble_eq_true rfl) fun C w g root => ?_
  all_goals have fx := And.intro h8 <| hg
  repeat' (first
   | refine w_seq ?_ | refine w_skip ?_ | refine w_reg fun K hK => ?_
   | ((with_reducible refine s_end hK ?_); clear hK K)
   | (with_reducible first | refine then_normal ?_ | refine then_ret ?_)
   | refine w_ret ?_
   | (with_reducible refine s_none ?_)
   | ((with_reducible refine g_id ?_); refine x_guard (h := ?_))
   | (with_reducible first | refine gx_ff ?_ | refine x_ft (h := ?_) | refine x_assign (h := ?_))
   | ((with_reducible refine o_id 91 rfl ?_); refine x_call (hF := scope_isLocal_fn _ _ _ _ _ _ hx) (h := ?_))
   | ((with_reducible refine o_id 93 rfl ?_); refine x_call (hF := outerOwner_fn' _ p hp i k hk x hx) (h := ?_))
   | (with_reducible refine x_q (h := ?_))
   | (with_reducible refine gx_s (fun ht => ?_) (fun ht => ?_))
   | refine x_condt (h1 := ?_)
   | refine x_if (h1 := fun ht => ?_) (h2 := fun ht => ?_)
   | fail)
  all_goals try clear fx
  all_goals refine e_ret [] .nil (by simp; rfl) ?_
  all_goals simp_all [owner, isLocal]
  all_goals grind

theorem validDeclarations_fn (gl) (p : Prg) (hp : ShapeP p) (i : Nat) (k : Blk) (hk : p[i]? = some k) : FnOk Try.prog gl 75 [scEl p i k] (fun _ y _ => y = bv (declsOk p i)) := by
  have hdo : declsOk p i = (List.range 8).all (fun x => declOk p i k (x : Int)) := by simp only [declsOk, hk]
  rw [hdo]
  refine FnOk.of_sem Try.func75 rfl (by kernel_rfl) (rs := [.tmp 2]) rfl Try.ntmps75 (Nat.le_of_ble_eq_true rfl) fun C w g root => ?_
  all_goals have fx := fx0
  repeat' (first
   | refine w_seq ?_ | refine w_block ?_ | refine w_reg fun K hK => ?_
   | ((with_reducible refine s_end hK ?_); clear hK K)
   | (with_reducible refine s_none ?_)
   | (with_reducible first | refine x_assign (h := ?_))
   | (with_reducible refine x_q (h := ?_))
   | fail)
  all_goals try clear fx
  refine w_loop (fun n st => ∃ x : Nat, n = 8 - x ∧ x ≤ 8 ∧ st.tm 0 = scEl p i k ∧ st.tm 4 = iv x ∧ (List.range x).all (fun x => declOk p i k (x : Int)) = true) 8 ⟨0, by simp⟩ ?_
  rintro n st - - ⟨x, rfl, hx, h0, h4, hal⟩
  all_goals have fx := And.intro h0 <| h4
  repeat' (first
   | refine w_seq ?_ | refine w_reg fun K hK => ?_
   | ((with_reducible refine s_end hK ?_); clear hK K)
   | (with_reducible refine s_none ?_)
   | (with_reducible refine x_q (h := ?_))
   | fail)
  all_goals try clear fx
  refine w_if (by simp []; first | done | rfl | exact (Bool.not_not _).symm) (fun ht => ?_) (fun hf => ?_)
  · have h8 : (x : Int) < 8 := by simpa using ht
    have hx8 : x < 8 := by omega
    have hg := scopeRow_g (i := i) (k := k) (o := scopeA p k.parent) (ps := k.params) hx8
    have hn := scopeRow_n (i := i) (k := k) (o := scopeA p k.parent) (ps := k.params) hx8
    have hq := scopeRow_p (i := i) (k := k) (o := scopeA p k.parent) (ps := k.params) hx8
    have hge := outer_ge (p := p) (b := i) (x := x)
    have fin : declOk p i k x = false → (List.range 8).all (fun x => declOk p i k (x : Int)) = false := fun h => range_false hx8 h
    have nxt : declOk p i k x = true → (List.range (x + 1)).all (fun x => declOk p i k (x : Int)) = true := fun h => by rw [all_range_succ, hal, h]; rfl
    clear ht hal
    all_goals have fx := And.intro h0 <| And.intro h4 <| And.intro h8 <| And.intro hg <| And.intro hn <| hq
    repeat' (first
     | refine w_seq ?_ | refine w_block ?_ | refine w_skip ?_ | refine w_reg fun K hK => ?_
     | ((with_reducible refine s_end hK ?_); clear hK K)
     | (with_reducible first | refine then_normal ?_ | refine then_ret ?_ | refine in_ret ?_)
     | refine w_ret ?_
     | (with_reducible refine s_none ?_)
     | ((with_reducible refine g_id ?_); refine x_guard (h := ?_))
     | (with_reducible first | refine gx_tt ?_ | refine gx_ff ?_ | refine x_tf (h := ?_) | refine x_ft (h := ?_) | refine x_u (h := ?_) | refine x_assign (h := ?_))
     | ((with_reducible refine o_id 79 rfl ?_); refine x_call (hF := declares_fn _ _ _ _ _ _ hx8) (h := ?_))
     | ((with_reducible refine o_id 93 rfl ?_); refine x_call (hF := outerOwner_fn' _ p hp i k hk x hx8) (h := ?_))
     | (with_reducible refine x_q (h := ?_))
     | (with_reducible refine gx_s (fun ht => ?_) (fun ht => ?_))
     | refine x_condt (h1 := ?_) | refine x_condf (h1 := ?_)
     | refine x_if (h1 := fun ht => ?_) (h2 := fun ht => ?_)
     | fail)
    all_goals try clear fx
    all_goals clear hg hn hq
    all_goals first
      | (refine e_ret [] .nil (by simp; rfl) ?_
         rw [fin (by simp only [declOk]; simp_all; done)]
         rfl)
      | (refine ⟨8 - (x + 1), by omega, x + 1, rfl, by omega, by simp [h0], by simp; exact wrp (by omega) (by omega), nxt ?_⟩
         simp only [declOk]
         simp_all
         try omega)
  · have hge : x = 8 := by
      have : ¬ (x : Int) < 8 := by simpa using hf
      omega
    subst hge
    all_goals have fx := fx0
    repeat' (first
     | refine w_seq ?_ | refine w_reg fun K hK => ?_
     | ((with_reducible refine s_end hK ?_); clear hK K)
     | (with_reducible first | refine then_normal ?_)
     | refine w_exit ?_
     | refine w_ret ?_
     | (with_reducible refine s_none ?_)
     | (with_reducible first | refine x_assign (h := ?_))
     | fail)
    all_goals try clear fx
    refine e_ret [] .nil (by simp []; rfl) (by simp [hal])
end Go.Proofs.Ytopgafhjmbfaoaa
end

section
/-
  Valid programs; declarations that are missing.
-/
set_option maxRecDepth 100000
set_option maxHeartbeats 1000000
set_option linter.unusedSimpArgs false
namespace Go.Proofs.Ytopgafhjmbfaoaa
open Go Go.Hm Go.Proofs

theorem bw_sc {hp : Nm → Option AO} {n : Nm} {p : Prg} {j : Nat} {k : Blk} (h : OwnS hp n p p.length) (hh : Heads p) (hk : p[j]? = some k) : Bw hp noD (.pt (.c n j 0) 0) (scEl p j k) := by
  have := bw_scope h hh j (List.getElem?_eq_some_iff.1 hk).1
  rwa [scopeA_eq hh hk] at this
theorem sRows_at {n : Nm} {len j : Nat} (h : j < len) : (sRows n len len)[j]? = some [AV.pt (.c n j 0) 0] := by rw [sRows_get h, if_pos h]
theorem declsOk0 {p : Prg} (hp : ShapeP p) : declsOk p 0 = true := by
  obtain ⟨k, hk⟩ : ∃ k, p[0]? = some k := ⟨_, List.getElem?_eq_getElem (by have := hp.len.1; omega)⟩
  simp only [declsOk, hk, List.all_eq_true]
  intro x _
  simp [declOk, hp.decl0 hk]

theorem impl_ValidProgram_fn (gl) (p : Prg) (hs : Sml p) : FnOk Try.prog gl 30 [pav p] (fun _ y _ => y = bv (progOk p)) := by
  refine FnOk.of_sem Try.func30 rfl (by kernel_rfl) (rs := [.tmp 2]) rfl Try.ntmps30 (Nat.le_of_ble_eq_true rfl) fun C w g root => ?_
  cases hsh : shapeOk p with
  | false =>
    all_goals have fx :=  hsh
    repeat' (first
     | refine w_seq ?_ | refine w_reg fun K hK => ?_
     | ((with_reducible refine s_end hK ?_); clear hK K)
     | (with_reducible first | refine then_normal ?_ | refine then_ret ?_)
     | refine w_ret ?_
     | (with_reducible first | refine s_none ?_ | refine x_assign (h := ?_) | refine x_box (h := ?_))
     | ((with_reducible refine o_id 59 rfl ?_); refine x_call (hF := impl_ValidShape_fn _ p hs) (h := ?_))
     | (with_reducible refine x_q (h := ?_))
     | refine x_condt (h1 := ?_)
     | fail)
    all_goals try clear fx
    refine e_ret [] .nil (by simp; rfl) ?_
    simp [progOk, hsh]
  | true =>
    have hp := ShapeP.of hs hsh
    have hh := hp.heads
    have hl7 := hp.len
    have hpo : progOk p = (List.range p.length).all (fun b => b == 0 || declsOk p b) := by simp only [progOk, hsh, Bool.true_and]
    rw [hpo]
    all_goals have fx :=  hsh
    repeat' (first
     | refine w_seq ?_ | refine w_skip ?_ | refine w_reg fun K hK => ?_
     | ((with_reducible refine s_end hK ?_); clear hK K)
     | (with_reducible first | refine then_normal ?_)
     | (with_reducible first | refine s_none ?_ | refine x_assign (h := ?_) | refine x_box (h := ?_))
     | ((with_reducible refine o_id 59 rfl ?_); refine x_call (hF := impl_ValidShape_fn _ p hs) (h := ?_))
     | ((with_reducible refine o_id 32 rfl ?_); refine x_callg (hF := scopesOf_fn _ p hs hh hp.names) (h := ?_))
     | (with_reducible refine x_q (h := ?_))
     | refine x_condf (h1 := ?_)
     | fail)
    all_goals try clear fx
    rintro y H' ⟨rfl, hO⟩
    obtain ⟨ho1, ho2⟩ := hO.hcln
    refine ⟨by simp, ?_⟩
    all_goals have fx := fx0
    repeat' (first
     | refine w_block ?_
     | ((with_reducible refine s_end hK ?_); clear hK K)
     | (with_reducible first | refine s_none ?_)
     | (with_reducible refine x_q (h := ?_))
     | fail)
    all_goals try clear fx
    refine w_loop (fun n st => ∃ i : Nat, n = p.length - i ∧ i ≤ p.length ∧ st.tm 9 = .hs (.s 9) 1 0 p.length ∧ OwnS st.hp (.s 9) p p.length ∧ st.tm 10 = iv p.length ∧ st.tm 11 = iv i ∧ (List.range i).all (fun b => b == 0 || declsOk p b) = true) p.length ?_ ?_
    · exact ⟨0, by simp, by simp, by simp, ⟨by simp [ho1], fun j k hj hk => by simp [ho2 j k hj hk]⟩, by simp, by simp, by simp⟩
    clear ho1 ho2 hO
    rintro n st - - ⟨i, rfl, hi, h9, ⟨ho1, ho2⟩, h10, h11, hal⟩
    all_goals have fx := And.intro h10 <| h11
    repeat' (first
     | refine w_seq ?_ | refine w_reg fun K hK => ?_
     | ((with_reducible refine s_end hK ?_); clear hK K)
     | (with_reducible first | refine s_none ?_)
     | (with_reducible refine x_q (h := ?_))
     | fail)
    all_goals try clear fx
    refine w_if (by simp []; first | done | rfl | exact (Bool.not_not _).symm) (fun ht => ?_) (fun hf => ?_)
    · have hlt : i < p.length := by simpa using ht
      obtain ⟨k, hk⟩ : ∃ k, p[i]? = some k := ⟨_, List.getElem?_eq_getElem hlt⟩
      have hsg := sRows_at (n := .s 9) hlt
      obtain ⟨_, hse⟩ := List.getElem?_eq_some_iff.1 hsg
      clear ht
      all_goals have fx := And.intro h9 <| And.intro ho1 <| And.intro h10 <| And.intro h11 <| And.intro hsg <| And.intro hse <| hlt
      repeat' (first
       | refine w_seq ?_ | refine w_block ?_ | refine w_skip ?_ | refine w_reg fun K hK => ?_
       | ((with_reducible refine s_end hK ?_); clear hK K)
       | (with_reducible first | refine then_normal ?_ | refine then_ret ?_ | refine in_ret ?_)
       | refine w_ret ?_
       | (with_reducible first | refine s_none ?_ | refine x_assign (h := ?_))
       | ((with_reducible refine o_id 75 rfl ?_); refine x_call (hB := (by first | ((repeat' (first | exact .nil | refine .cons ?_ ?_ | exact .refl _ | exact bw_ints (by simp [fx]; first | done | rfl) (by first | (simp [fx]; done) | (simp [fx]; omega) | omega) | exact bw_list (by simp [fx]; first | done | rfl) (by first | (simp [fx]; done) | (simp [fx]; omega) | omega) (by first | (simp; done) | fail) | exact bw_sc (n := .s 9) (p := p) (k := k) ⟨by simp [ho1], fun j k hj hk => by simp [ho2 j k hj hk]⟩ hh hk)); done) | fail)) (hF := validDeclarations_fn _ p hp i k hk) (h := ?_))
       | (with_reducible refine x_q (h := ?_))
       | refine x_if (h1 := fun ht => ?_) (h2 := fun ht => ?_)
       | fail)
      all_goals try clear fx
      · refine e_ret [] .nil (by simp; rfl) ?_
        have hd : declsOk p i = false := by simpa using ht
        have hi0 : i ≠ 0 := fun e => by rw [e, declsOk0 hp] at hd; cases hd
        rw [range_false hlt (show (i == 0 || declsOk p i) = false by simp [hd, hi0])]
        rfl
      · have hd : declsOk p i = true := by simpa using ht
        refine ⟨p.length - (i + 1), by omega, i + 1, rfl, by omega, by simp [h9], ⟨by simp [ho1], fun j k hj hk => by simp [ho2 j k hj hk]⟩, by simp [h10], by simp; exact wrp (by omega) (by omega), ?_⟩
        rw [all_range_succ, hal, hd]
        simp
    · have hge : i = p.length := by
        have : ¬ i < p.length := by simpa using hf
        omega
      subst hge
      all_goals have fx := fx0
      repeat' (first
       | refine w_seq ?_ | refine w_reg fun K hK => ?_
       | ((with_reducible refine s_end hK ?_); clear hK K)
       | (with_reducible first | refine then_normal ?_)
       | refine w_exit ?_
       | refine w_ret ?_
       | (with_reducible first | refine s_none ?_ | refine x_assign (h := ?_))
       | fail)
      all_goals try clear fx
      refine e_ret [] .nil (by simp []; rfl) (by simp [hal])

end Go.Proofs.Ytopgafhjmbfaoaa
end

section
/-
  The program's functions that tell whether a name may be another one: what they return.
-/
set_option maxRecDepth 100000
set_option maxHeartbeats 1000000
set_option linter.unusedSimpArgs false
namespace Go.Proofs.Ytopgafhjmbfaoaa
open Go Go.Hm Go.Proofs

@[simp] theorem scRows_tr {p : Prg} {f : Nm → Option Nm} : (scRows p).map (fun r => r.map (AV.tr f)) = scRows p := by simp [scRows]
theorem scopeA_shape (p : Prg) (j : Int) : scopeA p j = nilP ∨ ∃ r, scopeA p j = .el r 0 := by
  unfold scopeA
  cases p.length with
  | zero => exact .inl rfl
  | succ n =>
    rw [scopeF]
    split
    · exact .inl rfl
    · split
      · exact .inl rfl
      · exact .inr ⟨_, rfl⟩
@[simp] theorem scopeA_isNil {p : Prg} {j : Int} : isNilS (scopeA p j) = false := by
  rcases scopeA_shape p j with h | ⟨r, h⟩ <;> rw [h] <;> rfl
@[simp] theorem scopeA_sNm {p : Prg} {j : Int} : sNm (scopeA p j) = none := by
  rcases scopeA_shape p j with h | ⟨r, h⟩ <;> rw [h] <;> rfl
theorem isWithin_fn (gl) (p : Prg) (hh : Heads p) (i : Nat) (k : Blk) (hk : p[i]? = some k) (b : Nat) : FnOk Try.prog gl 92 [scEl p i k, iv b] (fun _ y _ => y = bv (inside p i b)) := by
  have hil := (List.getElem?_eq_some_iff.1 hk).1
  refine FnOk.of_sem Try.func92 rfl (by kernel_rfl) (rs := [.tmp 4]) rfl Try.ntmps92 (Nat.le_of_ble_eq_true rfl) fun C w g root => ?_
  all_goals have fx := fx0
  repeat' (first
   | refine w_seq ?_ | refine w_block ?_ | refine w_reg fun K hK => ?_
   | ((with_reducible refine s_end hK ?_); clear hK K)
   | (with_reducible first | refine s_none ?_ | refine x_assign (h := ?_))
   | (with_reducible refine x_q (h := ?_))
   | fail)
  all_goals try clear fx
  refine w_loop (fun n st => ∃ j : Int, n = (j + 1).toNat ∧ -1 ≤ j ∧ j < p.length ∧ st.tm 1 = iv b ∧ st.tm 5 = scopeA p j ∧ inside p i b = inside p j b) (i + 1) ?_ ?_
  · exact ⟨i, by omega, by omega, by omega, by simp, by simp [scopeA_eq hh hk], rfl⟩
  rintro n st - - ⟨j, rfl, hj1, hj, h1, h5, hin⟩
  rcases Int.lt_or_le j 0 with hn | hn
  · rw [scopeA_neg hn, nilP] at h5
    have hfa : inside p i b = false := by
      rw [hin, inside_end (by omega)]
      exact decide_eq_false (by omega)
    all_goals have fx := And.intro h1 <| h5
    repeat' (first
     | refine w_seq ?_ | refine w_reg fun K hK => ?_
     | ((with_reducible refine s_end hK ?_); clear hK K)
     | (with_reducible first | refine then_normal ?_)
     | refine w_exit ?_
     | refine w_ret ?_
     | (with_reducible first | refine s_none ?_ | refine x_assign (h := ?_))
     | (with_reducible refine x_q (h := ?_))
     | refine x_condf (h1 := ?_)
     | fail)
    all_goals try clear fx
    refine e_ret [] .nil (by simp; rfl) ?_
    simp [hfa]
  · obtain ⟨J, rfl⟩ : ∃ J : Nat, j = J := ⟨j.toNat, by omega⟩
    obtain ⟨q, hq⟩ : ∃ q, p[J]? = some q := ⟨_, List.getElem?_eq_getElem (by omega)⟩
    obtain ⟨hq1, hq2, _⟩ := hh J q hq
    rw [scopeA_eq hh hq] at h5
    cases hjb : ((J : Int) == b)
    · have hne : ¬ (J : Int) = b := by simpa using hjb
      have hin2 : inside p i b = inside p q.parent b := by
        rw [hin]
        rcases Int.lt_or_le b J with h | h
        · exact inside_step hh (by omega) hq h
        · rw [inside_end h, inside_end (by omega), decide_eq_false hne, decide_eq_false (by omega)]
      all_goals have fx := And.intro h1 <| And.intro h5 <| hjb
      repeat' (first
       | refine w_seq ?_ | refine w_block ?_ | refine w_skip ?_ | refine w_reg fun K hK => ?_
       | ((with_reducible refine s_end hK ?_); clear hK K)
       | (with_reducible first | refine then_normal ?_)
       | (with_reducible first | refine s_none ?_ | refine x_assign (h := ?_))
       | (with_reducible refine x_q (h := ?_))
       | refine x_condt (h1 := ?_) | refine x_condf (h1 := ?_)
       | fail)
      all_goals try clear fx
      exact ⟨(q.parent + 1).toNat, by omega, q.parent, rfl, hq1, by omega, by simp [h1], by simp, hin2⟩
    · have he : (J : Int) = b := by simpa using hjb
      have htr : inside p i b = true := by
        rw [hin, inside_end (by omega)]
        exact decide_eq_true he
      all_goals have fx := And.intro h1 <| And.intro h5 <| hjb
      repeat' (first
       | refine w_seq ?_ | refine w_block ?_ | refine w_skip ?_ | refine w_reg fun K hK => ?_
       | ((with_reducible refine s_end hK ?_); clear hK K)
       | (with_reducible first | refine then_normal ?_ | refine then_ret ?_ | refine in_ret ?_)
       | refine w_ret ?_
       | (with_reducible first | refine s_none ?_ | refine x_assign (h := ?_))
       | (with_reducible refine x_q (h := ?_))
       | refine x_condt (h1 := ?_)
       | fail)
      all_goals try clear fx
      refine e_ret [] .nil (by simp; rfl) ?_
      simp [htr]

theorem us_mem {k : Blk} {y : Nat} (hy : y < 8) : (decide ((y : Int) ∈ k.rd) || decide ((y : Int) ∈ k.bd) || (decide ((y : Int) ∈ k.dc 9) || decide ((y : Int) ∈ k.dc 10))) = decide ((y : Int) ∈ k.us) := by
  have e := mem_sortedAt (xs := k.rd ++ k.bd ++ k.dc 9 ++ k.dc 10) hy
  simp only [Blk.us, e, List.mem_append]
  by_cases h1 : (y : Int) ∈ k.rd <;> by_cases h2 : (y : Int) ∈ k.bd <;> by_cases h3 : (y : Int) ∈ k.dc 9 <;> by_cases h4 : (y : Int) ∈ k.dc 10 <;> simp [h1, h2, h3, h4]
theorem uses_fn' (gl) (p : Prg) (i : Nat) (k : Blk) (x : Nat) (hx : x < 8) : FnOk Try.prog gl 51 [scEl p i k, iv x] (fun _ y _ => y = bv (decide ((x : Int) ∈ k.us))) := by
  have := uses_fn gl i k (scopeA p k.parent) k.params x hx
  rwa [us_mem hx] at this
theorem local_fn' (gl) (p : Prg) (hp : ShapeP p) (i : Nat) (k : Blk) (hk : p[i]? = some k) (x : Nat) (hx : x < 8) : FnOk Try.prog gl 91 [scEl p i k, iv x] (fun _ y _ => y = bv (isLocal i k x)) := by
  have h := scope_isLocal_fn gl i k (scopeA p k.parent) k.params x hx
  have hk0 := hp.kind0 hk
  have e : (k.kind != 0 && decide ((x : Int) ∈ k.bd) && !(decide ((x : Int) ∈ k.dc 9) || decide ((x : Int) ∈ k.dc 10))) = isLocal i k x := by
    by_cases h0 : i = 0
    · have : (k.kind != 0) = false := by simp [hk0, h0]
      rw [this]
      simp [isLocal, h0]
    · have : (k.kind != 0) = true := by simp [hk0, h0]
      rw [this]
      have h1 : decide (0 < i) = true := decide_eq_true (by omega)
      simp only [isLocal, h1]
      simp [Bool.and_assoc]
  rwa [e] at h
theorem clashAt_eq {p : Prg} {b : Nat} {y : Int} {c : Nat} {q : Blk} (hq : p[c]? = some q) : clashAt p b y c = (inside p c b && decide (y ∈ q.us)) := by
  simp only [clashAt, hq]
  by_cases h : b ≤ c
  · simp [h]
  · rw [inside_end (by omega), decide_eq_false (show ¬ (c : Int) = b by omega)]
    simp

theorem canRename_fn (gl) (p : Prg) (hp : ShapeP p) (B : Nat) (k : Blk) (hk : p[B]? = some k) (x y : Nat) (hx : x < 8) (hy : y < 8) : FnOk Try.prog gl 50 [scsl p, iv B, iv x, iv y] (fun _ z _ => z = bv ((k.kind == 1) && isLocal B k x && ((x : Int) != y) && !clash p B y)) := by
  have hh := hp.heads
  have hl7 := hp.len
  have hBl := (List.getElem?_eq_some_iff.1 hk).1
  have hsg := scRows_get (p := p) hBl
  rw [scopeA_eq hh hk] at hsg
  obtain ⟨_, hse⟩ := List.getElem?_eq_some_iff.1 hsg
  refine FnOk.of_sem Try.func50 rfl (by kernel_rfl) (rs := [.tmp 8]) rfl Try.ntmps50 (Nat.le_of_ble_eq_true rfl) fun C w g root => ?_
  cases hkd : (k.kind == 1)
  · skip
    all_goals have fx := And.intro hsg <| And.intro hse <| And.intro hkd <| And.intro @bne_def <| hBl
    repeat' (first
     | refine w_seq ?_ | refine w_reg fun K hK => ?_
     | ((with_reducible refine s_end hK ?_); clear hK K)
     | (with_reducible first | refine then_normal ?_ | refine then_ret ?_)
     | refine w_ret ?_
     | (with_reducible refine s_none ?_)
     | ((with_reducible refine g_id ?_); refine x_guard (h := ?_))
     | (with_reducible first | refine x_ft (h := ?_) | refine x_assign (h := ?_))
     | (with_reducible refine x_q (h := ?_))
     | refine x_condt (h1 := ?_)
     | fail)
    all_goals try clear fx
    refine e_ret [] .nil (by simp; rfl) ?_
    simp
  cases hlo : isLocal B k x
  · skip
    all_goals have fx := And.intro hsg <| And.intro hse <| And.intro hkd <| And.intro @bne_def <| And.intro hlo <| hBl
    repeat' (first
     | refine w_seq ?_ | refine w_reg fun K hK => ?_
     | ((with_reducible refine s_end hK ?_); clear hK K)
     | (with_reducible first | refine then_normal ?_ | refine then_ret ?_)
     | refine w_ret ?_
     | (with_reducible refine s_none ?_)
     | ((with_reducible refine g_id ?_); refine x_guard (h := ?_))
     | (with_reducible first | refine gx_ff ?_ | refine x_ft (h := ?_) | refine x_assign (h := ?_))
     | ((with_reducible refine o_id 91 rfl ?_); refine x_call (hF := local_fn' _ p hp B k hk x hx) (h := ?_))
     | (with_reducible refine x_q (h := ?_))
     | refine x_condt (h1 := ?_)
     | fail)
    all_goals try clear fx
    refine e_ret [] .nil (by simp; rfl) ?_
    simp
  cases hxy : ((x : Int) == y)
  rotate_left
  · skip
    all_goals have fx := And.intro hsg <| And.intro hse <| And.intro hkd <| And.intro @bne_def <| And.intro hlo <| And.intro hxy <| hBl
    repeat' (first
     | refine w_seq ?_ | refine w_reg fun K hK => ?_
     | ((with_reducible refine s_end hK ?_); clear hK K)
     | (with_reducible first | refine then_normal ?_ | refine then_ret ?_)
     | refine w_ret ?_
     | (with_reducible refine s_none ?_)
     | ((with_reducible refine g_id ?_); refine x_guard (h := ?_))
     | (with_reducible first | refine gx_ff ?_ | refine x_assign (h := ?_))
     | ((with_reducible refine o_id 91 rfl ?_); refine x_call (hF := local_fn' _ p hp B k hk x hx) (h := ?_))
     | (with_reducible refine x_q (h := ?_))
     | refine x_condt (h1 := ?_)
     | fail)
    all_goals try clear fx
    refine e_ret [] .nil (by simp; rfl) ?_
    simp [bne, hxy]
  all_goals have fx := And.intro hsg <| And.intro hse <| And.intro hkd <| And.intro @bne_def <| And.intro hlo <| And.intro hxy <| hBl
  repeat' (first
   | refine w_seq ?_ | refine w_block ?_ | refine w_skip ?_ | refine w_reg fun K hK => ?_
   | ((with_reducible refine s_end hK ?_); clear hK K)
   | (with_reducible first | refine then_normal ?_)
   | (with_reducible refine s_none ?_)
   | ((with_reducible refine g_id ?_); refine x_guard (h := ?_))
   | (with_reducible first | refine gx_ff ?_ | refine x_assign (h := ?_))
   | ((with_reducible refine o_id 91 rfl ?_); refine x_call (hF := local_fn' _ p hp B k hk x hx) (h := ?_))
   | (with_reducible refine x_q (h := ?_))
   | refine x_condf (h1 := ?_)
   | fail)
  all_goals try clear fx
  refine w_loop (fun n st => ∃ i : Nat, n = p.length - i ∧ i ≤ p.length ∧ st.tm 1 = iv B ∧ st.tm 3 = iv y ∧ st.tm 33 = scsl p ∧ st.tm 34 = iv p.length ∧ st.tm 35 = iv i ∧ ∀ d, d < i → clashAt p B y d = false) p.length ?_ ?_
  · exact ⟨0, by simp, by simp, by simp, by simp, by simp, by simp, by simp, fun d hd => by omega⟩
  rintro n st - - ⟨i, rfl, hi, h1, h3, h33, h34, h35, hcl⟩
  all_goals have fx := And.intro h34 <| h35
  repeat' (first
   | refine w_seq ?_ | refine w_reg fun K hK => ?_
   | ((with_reducible refine s_end hK ?_); clear hK K)
   | (with_reducible refine s_none ?_)
   | (with_reducible refine x_q (h := ?_))
   | fail)
  all_goals try clear fx
  refine w_if (by simp []; first | done | rfl | exact (Bool.not_not _).symm) (fun ht => ?_) (fun hf => ?_)
  · have hlt : i < p.length := by simpa using ht
    obtain ⟨q, hq⟩ : ∃ q, p[i]? = some q := ⟨_, List.getElem?_eq_getElem hlt⟩
    have hsg := scRows_get (p := p) hlt
    rw [scopeA_eq hh hq] at hsg
    obtain ⟨_, hse⟩ := List.getElem?_eq_some_iff.1 hsg
    clear ht
    cases hc : clashAt p B y i
    · have hc' := hc
      rw [clashAt_eq hq] at hc'
      have nxt : ∀ d, d < i + 1 → clashAt p B y d = false := by
        intro d hd
        rcases Nat.lt_succ_iff_lt_or_eq.1 hd with h | rfl
        · exact hcl d h
        · exact hc
      cases hin : inside p i B
      · skip
        all_goals have fx := And.intro h1 <| And.intro h3 <| And.intro h33 <| And.intro h34 <| And.intro h35 <| And.intro hsg <| And.intro hse <| And.intro hlt <| hin
        repeat' (first
         | refine w_seq ?_ | refine w_block ?_ | refine w_skip ?_ | refine w_reg fun K hK => ?_
         | ((with_reducible refine s_end hK ?_); clear hK K)
         | (with_reducible first | refine then_normal ?_)
         | (with_reducible refine s_none ?_)
         | ((with_reducible refine g_id ?_); refine x_guard (h := ?_))
         | (with_reducible first | refine x_tf (h := ?_) | refine x_assign (h := ?_))
         | ((with_reducible refine o_id 92 rfl ?_); refine x_call (hF := isWithin_fn _ p hh i q hq B) (h := ?_))
         | (with_reducible refine x_q (h := ?_))
         | refine x_condf (h1 := ?_)
         | fail)
        all_goals try clear fx
        exact ⟨p.length - (i + 1), by omega, i + 1, rfl, by omega, by simp [h1], by simp [h3], by simp [h33], by simp [h34], by simp; exact wrp (by omega) (by omega), nxt⟩
      · have hu : decide ((y : Int) ∈ q.us) = false := by simpa [hin] using hc'
        all_goals have fx := And.intro h1 <| And.intro h3 <| And.intro h33 <| And.intro h34 <| And.intro h35 <| And.intro hsg <| And.intro hse <| And.intro hlt <| And.intro hin <| hu
        repeat' (first
         | refine w_seq ?_ | refine w_block ?_ | refine w_skip ?_ | refine w_reg fun K hK => ?_
         | ((with_reducible refine s_end hK ?_); clear hK K)
         | (with_reducible first | refine then_normal ?_)
         | (with_reducible refine s_none ?_)
         | ((with_reducible refine g_id ?_); refine x_guard (h := ?_))
         | (with_reducible first | refine gx_tt ?_ | refine x_assign (h := ?_))
         | ((with_reducible refine o_id 92 rfl ?_); refine x_call (hF := isWithin_fn _ p hh i q hq B) (h := ?_))
         | ((with_reducible refine o_id 51 rfl ?_); refine x_call (hF := uses_fn' _ p i q y hy) (h := ?_))
         | (with_reducible refine x_q (h := ?_))
         | refine x_condf (h1 := ?_)
         | fail)
        all_goals try clear fx
        exact ⟨p.length - (i + 1), by omega, i + 1, rfl, by omega, by simp [h1], by simp [h3], by simp [h33], by simp [h34], by simp; exact wrp (by omega) (by omega), nxt⟩
    · have hc' := hc
      rw [clashAt_eq hq, Bool.and_eq_true] at hc'
      have hin := hc'.1
      have hu := hc'.2
      have hca : clash p B y = true := List.any_eq_true.2 ⟨i, List.mem_range.2 hlt, hc⟩
      all_goals have fx := And.intro h1 <| And.intro h3 <| And.intro h33 <| And.intro h34 <| And.intro h35 <| And.intro hsg <| And.intro hse <| And.intro hlt <| And.intro hin <| hu
      repeat' (first
       | refine w_seq ?_ | refine w_block ?_ | refine w_skip ?_ | refine w_reg fun K hK => ?_
       | ((with_reducible refine s_end hK ?_); clear hK K)
       | (with_reducible first | refine then_normal ?_ | refine then_ret ?_ | refine in_ret ?_)
       | refine w_ret ?_
       | (with_reducible refine s_none ?_)
       | ((with_reducible refine g_id ?_); refine x_guard (h := ?_))
       | (with_reducible first | refine gx_tt ?_ | refine x_assign (h := ?_))
       | ((with_reducible refine o_id 92 rfl ?_); refine x_call (hF := isWithin_fn _ p hh i q hq B) (h := ?_))
       | ((with_reducible refine o_id 51 rfl ?_); refine x_call (hF := uses_fn' _ p i q y hy) (h := ?_))
       | (with_reducible refine x_q (h := ?_))
       | refine x_condt (h1 := ?_)
       | fail)
      all_goals try clear fx
      refine e_ret [] .nil (by simp; rfl) ?_
      simp [hca]
  · have hge : i = p.length := by
      have : ¬ i < p.length := by simpa using hf
      omega
    have hca : clash p B y = false := by
      apply Bool.eq_false_iff.2
      intro h
      obtain ⟨d, hd, hd'⟩ := List.any_eq_true.1 h
      rw [hcl d (by have := List.mem_range.1 hd; omega)] at hd'
      cases hd'
    all_goals have fx := fx0
    repeat' (first
     | refine w_seq ?_ | refine w_reg fun K hK => ?_
     | ((with_reducible refine s_end hK ?_); clear hK K)
     | (with_reducible first | refine then_normal ?_)
     | refine w_exit ?_
     | refine w_ret ?_
     | (with_reducible refine s_none ?_)
     | (with_reducible first | refine x_assign (h := ?_))
     | fail)
    all_goals try clear fx
    refine e_ret [] .nil (by simp; rfl) ?_
    simp [hca, bne, hxy]
end Go.Proofs.Ytopgafhjmbfaoaa
end
