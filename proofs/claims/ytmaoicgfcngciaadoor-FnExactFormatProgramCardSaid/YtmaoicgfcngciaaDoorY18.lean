/-
  Own texts, joined by mkclaim.py: Hi, Hj, Hk, Ue, Uf, Ua, Ub, Hn.
-/
import Derived.Test.YtmaoicgfcngciaaDoorY17
import Derived.Test.YtmaoicgfcngciaaDoorY11
import Derived.Test.YtmaoicgfcngciaaDoorY15
import Derived.Test.YtmaoicgfcngciaaDoorY13
import Derived.Test.YtmaoicgfcngciaaDoorY16
import Derived.Test.YtmaoicgfcngciaaDoorY09
set_option linter.unusedSimpArgs false
set_option linter.unusedVariables false
set_option maxRecDepth 100000
set_option maxHeartbeats 4000000

section
namespace Go.Proofs.YtmaoicgfcngciaaDoor
open Go Go.Hm Go.Proofs Go.RowKit Go.Shelf
attribute [local go_sem] Oper.semAt_some
theorem cell_of_box {W : World} {B : Nat} {v : Value} {t : TypeId} (h : W.heap[B]? = some (.cells #[v] t (0, 0))) : W.cell? ⟨B, 0, none⟩ = some v ∧ W.frozen? ⟨B, 0, none⟩ = false := by
  constructor <;> simp [World.cell?, World.frozen?, h]
theorem cell_new' (W : World) (v : Value) (t : TypeId) : (W.alloc (.cells #[v] t)).cell? ⟨W.heap.size, 0, none⟩ = some v ∧ (W.alloc (.cells #[v] t)).frozen? ⟨W.heap.size, 0, none⟩ = false := cell_of_box (World.alloc_heap_new W _)
theorem cell_alloc' {W : World} {a : Addr} {v : Value} (o : Obj) (h : W.cell? a = some v) : (W.alloc o).cell? a = some v := cell_kept h (World.grownBy_alloc W o none) (fun r e => by cases e)
theorem frozen_alloc' {W : World} {a : Addr} {v : Value} (o : Obj) (h : W.cell? a = some v) (hf : W.frozen? a = false) : (W.alloc o).frozen? a = false := (frozen_kept h (World.grownBy_alloc W o none) (fun r e => by cases e)).trans hf
theorem outerOwner_in (n : Nat) (hn : 3 ≤ n) (p : Prg) (hh : Heads p) (hb0 : ∀ k, p[0]? = some k → k.kind ≠ 1) (g : Gh) (w : World) (hC : ∀ b, g.C b → b < w.heap.size) (i : Nat) (k : Blk) (hk : p[i]? = some k) (a0 : Option Addr) (ha : RV g w (.pointer a0) (scopeA p i)) (x : Nat) (hx : x < 8) :
    CallsIn Fence.wide n Tryd.prog 84 #[.pointer a0, .int .i64 x] w fun e W' => e = .returned (.int .i64 (outerF p x p.length k.parent)) ∧ Below w.heap.size w W' := by
  have h1 : 1 ≤ n := by omega
  refine callsIn_of_wp_marks Tryd.func84 rfl trivial ?_ rfl
  simp only [Tryd.ntmps84, List.size_toArray, List.length_cons, List.length_nil, Nat.reduceAdd, Nat.reduceSub, Array.replicate_succ, Array.replicate_zero, List.push_toArray, List.append_toArray, List.nil_append, List.cons_append]
  gi_wp2_with (refine ⟨trivial, ?_⟩; gi_at_call 107; refine (functionsOutside_in (n - 1) _ _).mono ?_; rintro e w' ⟨rfl, rfl⟩)
  have c0 := cell_new' w (.int .i64 x) 3
  have c1 := cell_new' (w.alloc (.cells #[.int .i64 x] 3)) (.int .i64 0) 3
  have c2 := cell_new' ((w.alloc (.cells #[.int .i64 x] 3)).alloc (.cells #[.int .i64 0] 3)) (.pointer a0) 88
  simp only [World.size_alloc] at c1 c2
  have hB0 : Below w.heap.size w (((w.alloc (.cells #[.int .i64 x] 3)).alloc (.cells #[.int .i64 0] 3)).alloc (.cells #[.pointer a0] 88)) := (((Below.refl _ w).alloc (Nat.le_refl _) _).alloc (by simp) _).alloc (by simp; omega) _
  refine wpIn_rangeFunc_ownF rfl h1 (gf := 120) (lb := #[.pointer (some ⟨w.heap.size + 1 + 1, 0, none⟩)]) rfl trivial (enters_of Tryd.func120 (by kernel_rfl) rfl)
    (iter_stops (n - 1) (w.heap.size + 1 + 1) p hh g w _ hC i k hk a0 ha (by omega) hB0 (by simp) c2.1) belowK_t (belowK_b (by simp; omega)) (Below.refl _ _) (fun _ => rfl)
    (fun pre W => ((∀ y ∈ pre, found p x y.1.2 = none) ∧ W.cell? ⟨w.heap.size, 0, none⟩ = some (.int .i64 x) ∧ W.cell? ⟨w.heap.size + 1, 0, none⟩ = some (.int .i64 0) ∧ W.frozen? ⟨w.heap.size + 1, 0, none⟩ = false) ∧ Below w.heap.size w W)
    (fun c pre W => (c = .ret ∧ (∃ l y r, pre = l ++ [y] ∧ (∀ y ∈ l, found p x y.1.2 = none) ∧ found p x y.1.2 = some r ∧ W.cell? ⟨w.heap.size + 1, 0, none⟩ = some (.int .i64 r))) ∧ Below w.heap.size w W)
    (OwnFrom.and (Own.from (fun s A B row hs hg hr => ⟨hs.1, cell_kept hs.2.1 hg hr, cell_kept hs.2.2.1 hg hr, (frozen_kept hs.2.2.1 hg hr).trans hs.2.2.2⟩) _) (ownFrom_below (Nat.le_refl _) (by simp; omega)))
    (fun c => OwnFrom.and (Own.from (fun s A B row hs hg hr => ⟨hs.1, by obtain ⟨l, y, r, e1, e2, e3, e4⟩ := hs.2; exact ⟨l, y, r, e1, e2, e3, cell_kept e4 hg hr⟩⟩) _) (ownFrom_below (Nat.le_refl _) (by simp; omega)))
    ⟨⟨by simp, cell_alloc' _ (cell_alloc' _ c0.1), cell_alloc' _ c1.1, frozen_alloc' _ c1.1 c1.2⟩, hB0⟩
    (fun y => { tmps := #[.pointer a0, .int .i64 x, undef, .pointer (some ⟨w.heap.size, 0, none⟩), .pointer (some ⟨w.heap.size + 1, 0, none⟩), .pointer y.1.1, .pointer a0, .func (.func 120) #[] #[.pointer (some ⟨w.heap.size + 1 + 1, 0, none⟩)], .pointer y.1.1, undef, undef, undef, undef, undef, undef, undef, undef, undef, undef, undef, undef, undef], defers := [] }) ?assign ?body ?done ?stop
  case assign =>
    intro l y W K hK
    gi_wp2
    exact hK
  case body =>
    rintro l pre ⟨⟨ay, j⟩, q, hq, hq1, hr⟩ W ⟨⟨hp, hcx, hcr, hfr⟩, hB⟩ _
    dsimp only at hq hr ⊢
    obtain ⟨b, o, rfl, hs⟩ : ∃ b o, ay = some ⟨b, o, none⟩ ∧ ScAt g w p j q b o := by
      obtain ⟨b, o, e, h⟩ := hr.scAt hh hq
      exact ⟨b, o, by simpa using e, h⟩
    have hb := hC b hs.C
    have hg : W.cell? ⟨b, o + (27 + x), none⟩ = some (.bool (decide ((x : Int) ∈ q.dc 9))) := (hB.cell (p := ⟨b, o + (27 + x), none⟩) hb).trans (hs.glob x hx)
    have hidx : W.cell? ⟨b, o, none⟩ = some (.int .i64 j) := (hB.cell (p := ⟨b, o, none⟩) hb).trans hs.idx
    have h8 : (x : Int) < 8 := by omega
    have hg2 : W.cell? ⟨b, o + 27 + x, none⟩ = some (.bool (decide ((x : Int) ∈ q.dc 9))) := by rw [Nat.add_assoc]; exact hg
    have hmx : Tryd.prog.follows .mixedOrders = true := by kernel_rfl
    have hj0 : 0 < j := by
      rcases Nat.eq_zero_or_pos j with rfl | h
      · exact absurd hq1 (hb0 q hq)
      · exact h
    have hcall : ∀ W', Below w.heap.size w W' → Calls Tryd.prog 108 #[.pointer (some ⟨b, o, none⟩), .int .i64 x] W' fun e W'' => e = .returned (.bool (isLocal j q x)) ∧ Below W'.heap.size W' W'' := by
      intro W' hB'
      have hF := scope_isLocal_fn (fun _ => none) j q (scopeA p q.parent) q.params x hx
      have e : (q.kind != 0 && decide ((x : Int) ∈ q.bd) && !(decide ((x : Int) ∈ q.dc 9) || decide ((x : Int) ∈ q.dc 10))) = isLocal j q x := by
        simp [isLocal, hq1, hj0, Bool.and_assoc]
      rw [e] at hF
      refine FnOk.raw hF (g := g) (fun b hb => Nat.lt_of_lt_of_le (hC b hb) hB'.size) rfl ?_
      intro a v y hv hy
      match a, hv, hy with
      | 0, hv, hy =>
        obtain rfl := Option.some.inj hv
        obtain rfl := Option.some.inj hy
        have := hr.keepB hC hB'
        rwa [scopeA_eq hh hq] at this
      | 1, hv, hy =>
        obtain rfl := Option.some.inj hv
        obtain rfl := Option.some.inj hy
        exact .sc _
      | a + 2, hv, _ => simp at hv
    have hBd : Below w.heap.size w W.drew := ⟨hB.os, hB.tape, hB.output, hB.size, hB.block⟩
    have hbW : b < W.drew.heap.size := Nat.lt_of_lt_of_le hb hB.size
    have hrW : w.heap.size + 1 < W.drew.heap.size := by
      refine Nat.lt_of_not_le fun hge => ?_
      have : W.heap[w.heap.size + 1]? = none := Array.getElem?_eq_none hge
      simp [World.cell?, this] at hcr
    have hko : ∀ w3, Below W.drew.heap.size W.drew w3 → KeepsOthers W w3 := fun w3 h => ⟨h.size, fun k o hk _ => (h.block k (Array.getElem?_eq_some_iff.1 hk).1).trans hk⟩
    have hfd : found p x j = if (x : Int) ∈ q.dc 9 then some (-1) else if isLocal j q x then some (j : Int) else none := by simp only [found, hq]
    by_cases hm : (x : Int) ∈ q.dc 9
    · rw [decide_eq_true hm] at hg hg2
      rw [if_pos hm] at hfd
      gi_wp2
      gi_region_o
      all_goals gi_wp2
      all_goals exact ⟨(KeepsOthers.drew W).trans (KeepsOthers.setCell _ _ _), ⟨rfl, pre, ⟨(some ⟨b, o, none⟩, j), q, hq, hq1, hr⟩, -1, rfl, hp, hfd, World.cell?_setCell_same' _ _ _ (by rw [hcr]; rfl)⟩, hBd.setCell (p := ⟨w.heap.size + 1, 0, none⟩) (by simp) _⟩
    · rw [decide_eq_false hm] at hg hg2
      rw [if_neg hm] at hfd
      cases hl : isLocal j q x with
      | true =>
        rw [hl] at hcall
        rw [if_pos hl] at hfd
        gi_wp2
        gi_region_o
        all_goals gi_wp2_with (refine ⟨trivial, fun _ => by omega, ?_⟩; refine (CallsIn.inRound l (callsIn_wide.2 (hcall _ hBd))).mono ?_; rintro e w3 ⟨rfl, hbw⟩; have hi3 := (hbw.cell (p := ⟨b, o, none⟩) hbW).trans hidx; have hc3 := (hbw.cell (p := ⟨w.heap.size + 1, 0, none⟩) hrW).trans hcr; have hf3 := (hbw.frozen (p := ⟨w.heap.size + 1, 0, none⟩) hrW).trans hfr)
        all_goals exact ⟨(hko _ (by assumption)).trans (KeepsOthers.setCell _ _ _), ⟨rfl, pre, ⟨(some ⟨b, o, none⟩, j), q, hq, hq1, hr⟩, (j : Int), rfl, hp, hfd, World.cell?_setCell_same' _ _ _ (by rw [hc3]; rfl)⟩, (hBd.trans (Below.mono (by assumption) hBd.size)).setCell (p := ⟨w.heap.size + 1, 0, none⟩) (by simp) _⟩
      | false =>
        rw [hl] at hcall
        rw [if_neg (by rw [hl]; decide)] at hfd
        gi_wp2
        gi_region_o
        all_goals gi_wp2_with (refine ⟨trivial, fun _ => by omega, ?_⟩; refine (CallsIn.inRound l (callsIn_wide.2 (hcall _ hBd))).mono ?_; rintro e w3 ⟨rfl, hbw⟩)
        all_goals
          have hWw : Below W.drew.heap.size W.drew w3 := by assumption
          have hB3 : Below w.heap.size W.drew w3 := hWw.mono hBd.size
          have hBW : Below w.heap.size W w3 := ⟨hB3.os, hB3.tape, hB3.output, hB3.size, hB3.block⟩
          have hsW : w.heap.size < W.drew.heap.size := Nat.lt_of_succ_lt hrW
          refine ⟨hko _ hWw, hBW, ⟨fun y hy => ?_, (hWw.cell (p := ⟨w.heap.size, 0, none⟩) hsW).trans hcx, (hWw.cell (p := ⟨w.heap.size + 1, 0, none⟩) hrW).trans hcr, (hWw.frozen (p := ⟨w.heap.size + 1, 0, none⟩) hrW).trans hfr⟩, hB.trans hBW⟩
          rcases List.mem_append.1 hy with hy | hy
          · exact hp y hy
          · obtain rfl := List.mem_singleton.1 hy
            exact hfd
  case done =>
    rintro D ys W hD ⟨je, hneg, hpath⟩ ⟨⟨hne, _, hcr, hfr⟩, hB⟩ hK
    gi_wp2
    have hK' := (KeepsOthers.setCell W ⟨w.heap.size + 1, 0, none⟩ (.int .i64 (-1))).same D _ hK rfl
    refine ⟨by simp, .inl ⟨_, _, rfl, run_takeDeferred hK', ?_⟩⟩
    have hc5 := cell_kept (World.cell?_setCell_same' W ⟨w.heap.size + 1, 0, none⟩ (.int .i64 (-1)) (by rw [hcr]; rfl)) (grownBy_putObj' _ D (.deferred none)) (fun r e => by cases e; exact ⟨_, hK', rfl⟩)
    have hout : outerF p x p.length k.parent = -1 := by
      rw [hpath.outer hh hb0 (x := x) (fun y hy => by obtain ⟨z, hz, rfl⟩ := List.mem_map.1 hy; exact hne z hz), outerF_end (by omega)]
    refine ⟨.int .i64 (-1), ?_, by rw [hout], (hB.setCell (p := ⟨w.heap.size + 1, 0, none⟩) (by simp) _).trans (belowK_b (w := w) (Nat.le_refl _) _ D _ _ (by simp at hD; omega) hK' rfl rfl)⟩
    simp [results, Tryd.f84, go_sem, hc5]
  case stop =>
    rintro D c pre W hD ⟨je, hpath⟩ ⟨⟨rfl, l, y, r, rfl, hno, hf, hcr⟩, hB⟩ hK
    gi_wp2
    refine ⟨by simp, .inl ⟨_, _, rfl, run_takeDeferred hK, ?_⟩⟩
    have hc5 := cell_kept hcr (grownBy_putObj' _ D (.deferred none)) (fun r e => by cases e; exact ⟨_, hK, rfl⟩)
    have hout : outerF p x p.length k.parent = r := by
      rw [List.map_append, List.map_singleton] at hpath
      exact Path.found hh hpath hb0 (fun y hy => by obtain ⟨z, hz, rfl⟩ := List.mem_map.1 hy; exact hno z hz) hf
    refine ⟨.int .i64 r, ?_, by rw [hout], hB.trans (belowK_b (w := w) (Nat.le_refl _) W D _ _ (by simp at hD; omega) hK rfl rfl)⟩
    simp [results, Tryd.f84, go_sem, hc5]
theorem outerOwner_fn (gl) (p : Prg) (hh : Heads p) (hb0 : ∀ k, p[0]? = some k → k.kind ≠ 1) (i : Nat) (k : Blk) (hk : p[i]? = some k) (x : Nat) (hx : x < 8) :
    FnOk Tryd.prog gl 84 [scopeA p i, iv x] (fun _ y _ => y = iv (outer p i x)) := by
  refine FnOk.of_raw ⟨_, Tryd.func84, by kernel_rfl, by kernel_rfl⟩ fun w g args hC hsz hargs => ?_
  rw [outer_fuel hh hk]
  obtain ⟨v0, v1, rfl⟩ : ∃ v0 v1, args = #[v0, v1] := by
    refine ⟨args[0]'(by simp at hsz; omega), args[1]'(by simp at hsz; omega), ?_⟩
    apply Array.ext
    · simpa using hsz
    · intro i h1 h2
      match i with
      | 0 => rfl
      | 1 => rfl
      | i + 2 => simp at hsz; omega
  have h0 := hargs 0 v0 _ rfl rfl
  have h1 := hargs 1 v1 _ rfl rfl
  obtain ⟨a0, rfl⟩ := h0.ptr
  obtain rfl := h1.sc_eq
  exact callsIn_wide.1 (outerOwner_in 3 (Nat.le_refl _) p hh hb0 g w hC i k hk a0 h0 x hx)
end Go.Proofs.YtmaoicgfcngciaaDoor
end
section
namespace Go.Proofs.YtmaoicgfcngciaaDoor
open Go Go.Hm Go.Proofs
abbrev scEl (p : Prg) (i : Nat) (k : Blk) : AV := .el (scopeRow i k (scopeA p k.parent) k.params) 0
theorem outerOwner_fn' (gl) (p : Prg) (hp : ShapeP p) (i : Nat) (k : Blk) (hk : p[i]? = some k) (x : Nat) (hx : x < 8) : FnOk Tryd.prog gl 84 [scEl p i k, iv x] (fun _ y _ => y = iv (outer p i x)) := by
  have := outerOwner_fn gl p hp.heads hp.fun0 i k hk x hx
  rwa [scopeA_eq hp.heads hk] at this
theorem validDeclarations_fn (gl) (p : Prg) (hp : ShapeP p) (i : Nat) (k : Blk) (hk : p[i]? = some k) : FnOk Tryd.prog gl 45 [scEl p i k] (fun _ y _ => y = bv (declsOk p i)) := by
  have hdo : declsOk p i = (List.range 8).all (fun x => declOk p i k (x : Int)) := by simp only [declsOk, hk]
  rw [hdo]
  refine FnOk.of_sem Tryd.func45 rfl (by kernel_rfl) (rs := [.tmp 2]) rfl Tryd.ntmps45 (Nat.le_of_ble_eq_true rfl) fun C w g root => ?_
  have fx := fx0
  refine k_run ?_
  clear fx
  refine w_loop (fun n st => ∃ x : Nat, n = 8 - x ∧ x ≤ 8 ∧ st.tm 0 = scEl p i k ∧ st.tm 4 = iv x ∧ (List.range x).all (fun x => declOk p i k (x : Int)) = true) 8 ⟨0, by simp⟩ ?_
  rintro n st - - ⟨x, rfl, hx, h0, h4, hal⟩
  have fx := And.intro h0 <| h4
  refine k_run ?_
  clear fx
  refine w_if (by simp []; first | done | rfl | exact (Bool.not_not _).symm) (fun ht => ?_) (fun hf => ?_)
  · have h8 : (x : Int) < 8 := by simpa using ht
    have hx8 : x < 8 := by omega
    have hg := scopeRow_g (i := i) (k := k) (o := scopeA p k.parent) (ps := k.params) hx8
    have hn := scopeRow_n (i := i) (k := k) (o := scopeA p k.parent) (ps := k.params) hx8
    have hq := scopeRow_p (i := i) (k := k) (o := scopeA p k.parent) (ps := k.params) hx8
    have hge := outer_ge (p := p) (b := i) (x := x)
    have fin : declOk p i k x = false → (List.range 8).all (fun x => declOk p i k (x : Int)) = false := fun h => range_false hx8 h
    have nxt : declOk p i k x = true → (List.range (x + 1)).all (fun x => declOk p i k (x : Int)) = true := fun h => by rw [all_range_succ, hal, h]; rfl
    clear ht hal
    all_goals have fx := And.intro h0 <| And.intro h4 <| And.intro h8 <| And.intro hg <| And.intro hn <| hq
    repeat' (first
     | refine w_seq ?_ | refine w_block ?_ | refine w_skip ?_ | refine w_reg fun K hK => ?_
     | ((with_reducible refine s_end hK ?_); clear hK K)
     | (with_reducible first | refine then_normal ?_ | refine in_normal ?_ | refine then_exit ?_ | refine in_exit ?_ | refine then_ret ?_ | refine in_ret ?_ | refine in_other (by decide) ?_)
     | refine w_exit ?_
     | refine w_ret ?_
     | (with_reducible refine s_none ?_)
     | ((with_reducible refine g_id ?_); refine x_guard (h := ?_))
     | (with_reducible first | refine gx_tt ?_ | refine gx_ff ?_ | refine x_tf (h := ?_) | refine x_ft (h := ?_) | refine x_u (h := ?_) | refine x_assign (h := ?_))
     | ((with_reducible refine o_id 83 rfl ?_); refine x_call (hF := declares_fn _ _ _ _ _ _ hx8) (h := ?_))
     | ((with_reducible refine o_id 84 rfl ?_); refine x_call (hF := outerOwner_fn' _ p hp i k hk x hx8) (h := ?_))
     | (with_reducible refine x_q (h := ?_))
     | (with_reducible refine gx_s (fun ht => ?_) (fun ht => ?_))
     | refine x_condt (h1 := ?_) | refine x_condf (h1 := ?_)
     | refine x_if (h1 := fun ht => ?_) (h2 := fun ht => ?_)
     | fail)
    all_goals try clear fx
    all_goals clear hg hn hq
    all_goals first
      | (refine e_ret [] .nil (by simp; rfl) ?_
         rw [fin (by simp only [declOk]; simp_all; done)]
         rfl)
      | (refine ⟨8 - (x + 1), by omega, x + 1, rfl, by omega, by simp [h0], by simp; exact wrp (by omega) (by omega), nxt ?_⟩
         simp only [declOk]
         simp_all
         try omega)
  · have hge : x = 8 := by
      have : ¬ (x : Int) < 8 := by simpa using hf
      omega
    subst hge
    have fx := fx0
    refine k_run ?_
    clear fx
    refine e_ret [] .nil (by simp []; rfl) (by simp [hal])
theorem bw_sc {hp : Nm → Option AO} {n : Nm} {p : Prg} {j : Nat} {k : Blk} (h : OwnS hp n p p.length) (hh : Heads p) (hk : p[j]? = some k) : Bw hp noD (.pt (.c n j 0) 0) (scEl p j k) := by
  have := bw_scope h hh j (gS hk).1
  rwa [scopeA_eq hh hk] at this
theorem sRows_at {n : Nm} {len j : Nat} (h : j < len) : (sRows n len len)[j]? = some [AV.pt (.c n j 0) 0] := by rw [sRows_get h, if_pos h]
theorem declsOk0 {p : Prg} (hp : ShapeP p) : declsOk p 0 = true := by
  obtain ⟨k, hk⟩ : ∃ k, p[0]? = some k := ⟨_, gE (by have := hp.len.1; omega)⟩
  simp only [declsOk, hk, List.all_eq_true]
  intro x _
  simp [declOk, hp.decl0 hk]
theorem impl_ValidProgram_fn (gl) (p : Prg) (hs : Sml p) : FnOk Tryd.prog gl 19 [pav p] (fun _ y _ => y = bv (progOk p)) := by
  refine FnOk.of_sem Tryd.func19 rfl (by kernel_rfl) (rs := [.tmp 2]) rfl Tryd.ntmps19 (Nat.le_of_ble_eq_true rfl) fun C w g root => ?_
  cases hsh : shapeOk p with
  | false =>
    have fx :=  hsh
    have c1 := impl_ValidShape_fn gl p hs
    refine k_run ?_
    clear fx c1
    refine e_ret [] .nil (by simp; rfl) ?_
    simp [progOk, hsh]
  | true =>
    have hp := ShapeP.of hs hsh
    have hh := hp.heads
    have hl7 := hp.len
    have hpo : progOk p = (List.range p.length).all (fun b => b == 0 || declsOk p b) := by simp only [progOk, hsh, Bool.true_and]
    rw [hpo]
    have fx :=  hsh
    have c1 := impl_ValidShape_fn gl p hs
    have e1 := scopesOf_fn gl p hs hh hp.names
    refine k_run ?_
    clear fx c1 e1
    first | rintro K hK y H' ⟨rfl, hO⟩ | rintro y H' ⟨rfl, hO⟩
    obtain ⟨ho1, ho2⟩ := hO.hcln
    refine ⟨by simp, ?_⟩
    have fx := fx0
    refine k_run ?_
    clear fx
    refine w_loop (fun n st => ∃ i : Nat, n = p.length - i ∧ i ≤ p.length ∧ st.tm 9 = .hs (.s 9) 1 0 p.length ∧ OwnS st.hp (.s 9) p p.length ∧ st.tm 10 = iv p.length ∧ st.tm 11 = iv i ∧ (List.range i).all (fun b => b == 0 || declsOk p b) = true) p.length ?_ ?_
    · exact ⟨0, by simp, by simp, by simp, ⟨by simp [ho1], fun j k hj hk => by simp [ho2 j k hj hk]⟩, by simp, by simp, by simp⟩
    clear ho1 ho2 hO
    rintro n st - - ⟨i, rfl, hi, h9, ⟨ho1, ho2⟩, h10, h11, hal⟩
    have fx := And.intro h10 <| h11
    refine k_run ?_
    clear fx
    refine w_if (by simp []; first | done | rfl | exact (Bool.not_not _).symm) (fun ht => ?_) (fun hf => ?_)
    · have hlt : i < p.length := by simpa using ht
      obtain ⟨k, hk⟩ : ∃ k, p[i]? = some k := ⟨_, gE hlt⟩
      have hsg := sRows_at (n := .s 9) hlt
      obtain ⟨_, hse⟩ := gS hsg
      clear ht
      all_goals have fx := And.intro h9 <| And.intro ho1 <| And.intro h10 <| And.intro h11 <| And.intro hsg <| And.intro hse <| hlt
      repeat' (first
       | refine w_seq ?_ | refine w_block ?_ | refine w_skip ?_ | refine w_reg fun K hK => ?_
       | ((with_reducible refine s_end hK ?_); clear hK K)
       | (with_reducible first | refine then_normal ?_ | refine in_normal ?_ | refine then_exit ?_ | refine in_exit ?_ | refine then_ret ?_ | refine in_ret ?_ | refine in_other (by decide) ?_)
       | refine w_exit ?_
       | refine w_ret ?_
       | (with_reducible first | refine s_none ?_ | refine x_assign (h := ?_) | refine x_box (h := ?_))
       | ((with_reducible refine o_id 45 rfl ?_); refine x_call (hB := (by first | ((repeat' (first | exact .nil | refine .cons ?_ ?_ | exact .refl _ | exact bw_ints (by simp [fx]; first | done | rfl) (by first | (simp [fx]; done) | (simp [fx]; omega) | omega) | exact bw_list (by simp [fx]; first | done | rfl) (by first | (simp [fx]; done) | (simp [fx]; omega) | omega) (by first | (simp; done) | fail) | exact bw_sc (n := .s 9) (p := p) (k := k) ⟨by simp [ho1], fun j k hj hk => by simp [ho2 j k hj hk]⟩ hh hk)); done) | fail)) (hF := validDeclarations_fn _ p hp i k hk) (h := ?_))
       | (with_reducible refine x_q (h := ?_))
       | refine x_condt (h1 := ?_) | refine x_condf (h1 := ?_)
       | refine x_if (h1 := fun ht => ?_) (h2 := fun ht => ?_)
       | fail)
      all_goals try clear fx
      · refine e_ret [] .nil (by simp; rfl) ?_
        have hd : declsOk p i = false := by simpa using ht
        have hi0 : i ≠ 0 := fun e => by rw [e, declsOk0 hp] at hd; cases hd
        rw [range_false hlt (show (i == 0 || declsOk p i) = false by simp [hd, hi0])]
        rfl
      · have hd : declsOk p i = true := by simpa using ht
        refine ⟨p.length - (i + 1), by omega, i + 1, rfl, by omega, by simp [h9], ⟨by simp [ho1], fun j k hj hk => by simp [ho2 j k hj hk]⟩, by simp [h10], by simp; exact wrp (by omega) (by omega), ?_⟩
        rw [all_range_succ, hal, hd]
        simp
    · have hge : i = p.length := by
        have : ¬ i < p.length := by simpa using hf
        omega
      subst hge
      have fx := fx0
      refine k_run ?_
      clear fx
      refine e_ret [] .nil (by simp []; rfl) (by simp [hal])
end Go.Proofs.YtmaoicgfcngciaaDoor
end
section
namespace Go.Proofs.YtmaoicgfcngciaaDoor
open Go Go.Hm Go.Proofs
theorem stmtNumbers_fn (gl) (s : Stm) : FnOk Tryd.prog gl 23 [Stm.av s] (fun r y H' => y = .hs r 1 0 (numsOf s).length ∧ H' r = some (.row 1 (irows (numsOf s)))) := by
  refine FnOk.of_sem Tryd.func23 rfl (by kernel_rfl) (rs := [.tmp 2]) rfl Tryd.ntmps23 (Nat.le_of_ble_eq_true rfl) fun C w g root => ?_
  obtain ⟨kind, to, a, b⟩ := s
  all_goals have fx := fx0
  repeat' (first
   | refine w_seq ?_ | refine w_block ?_ | refine w_skip ?_ | refine w_reg fun K hK => ?_
   | ((with_reducible refine s_end hK ?_); clear hK K)
   | (with_reducible first | refine then_normal ?_ | refine in_normal ?_ | refine then_ret ?_ | refine in_ret ?_)
   | refine w_ret ?_
   | (with_reducible first | refine s_none ?_ | refine x_assign (h := ?_) | refine x_box (h := ?_) | refine x_build (h := ?_))
   | (with_reducible refine x_q (h := ?_))
   | refine x_condt (h1 := ?_) | refine x_condf (h1 := ?_)
   | refine x_if (h1 := fun ht => ?_) (h2 := fun ht => ?_)
   | fail)
  all_goals try clear fx
  all_goals refine e_list (t := 2) ?_ ?_ ?_
  all_goals simp_all [numsOf, irows]
theorem lineOfWords_fn (gl) (v : Txt) (ns : List Int) (a : AV) (ha : a = isl ns ∨ (a = .sc (.slice none 0 0) ∧ ns = [])) (hv : v ≠ []) (hvl : v.length ≤ 100) (hns : Small ns) (hnl : ns.length ≤ 10) : FnOk Tryd.prog gl 22 [tx v, a] (fun _ y _ => y = tx (wordsL v ns ++ [10])) := by
  refine FnOk.of_sem Tryd.func22 rfl (by kernel_rfl) (rs := [.tmp 4]) rfl Tryd.ntmps22 (Nat.le_of_ble_eq_true rfl) fun C w g root => ?_
  rcases ha with rfl | ⟨rfl, rfl⟩
  all_goals
    have fx :=  hv
    have b1 := bld_zv
    refine k_runp ?_
    clear fx b1
    intro K hK
    have fx := hv
    refine x_wstr 5 lay166 layB rfl rfl (.inl ⟨rfl, by simp⟩) (hs := hv) (hlen := by simp; omega) (h := ?_)
    clear fx
    rintro st' - hg htm hhp e1 e2
    have h5 : st'.tm 5 = .pt (.s 5) 0 := by simp [htm]
    have h1 := htm 1
    simp at h1
    simp only [lib_b, lib_u, List.length_nil, Nat.zero_add, List.nil_append] at e1 e2
    clear htm hhp
    have fx := And.intro h5 <| h1
    refine k_run ?_
    clear fx
  case' inl => refine w_loop (fun n st => ∃ i : Nat, n = ns.length - i ∧ i ≤ ns.length ∧ st.tm 5 = .pt (.s 5) 0 ∧ st.tm 10 = isl ns ∧ st.tm 11 = iv ns.length ∧ st.tm 12 = iv i ∧ st.hp (.s 5) = some (.trow 46 2 true [[.pt (.s 5) 0, .hs (.c (.s 5) 0 1) 1 0 (wordsL v (ns.take i)).length]]) ∧ st.hp (.c (.s 5) 0 1) = some (.trow 5 1 false (byrows (wordsL v (ns.take i))))) ns.length ?_ ?_
  case' inr => refine w_loop (fun n st => ∃ i : Nat, n = ([] : List Int).length - i ∧ i ≤ ([] : List Int).length ∧ st.tm 5 = .pt (.s 5) 0 ∧ st.tm 11 = iv ([] : List Int).length ∧ st.tm 12 = iv i ∧ st.hp (.s 5) = some (.trow 46 2 true [[.pt (.s 5) 0, .hs (.c (.s 5) 0 1) 1 0 (wordsL v []).length]]) ∧ st.hp (.c (.s 5) 0 1) = some (.trow 5 1 false (byrows (wordsL v [])))) 0 ?_ ?_
  · refine ⟨0, by simp, by simp, by simp [h5], ?_, by simp, by simp [e1, wordsL], by simp [e2, wordsL]⟩
    simp
  · clear h5 h1 e1 e2
    rintro n st - - ⟨i, rfl, hi, h5, h11, h12, e1, e2⟩
    obtain rfl : i = 0 := by simpa using hi
    have hvw := wordsL_ge (w := v) (ns := [])
    have hwl2 := wordsL_len (w := v) (ns := []) hns
    have hne : wordsL v [] ≠ [] := fun e => by rw [e] at hvw; simp at hvw; exact hv hvw
    simp at h11 h12 hwl2
    have fx := And.intro h5 <| And.intro h11 <| h12
    refine k_run ?_
    clear fx
    intro K hK
    have fx := And.intro h5 h5
    refine x_wstr 5 lay166 layB rfl rfl (.inr ⟨hne, by simp [e1], by simp [e2]⟩) (hlen := by simp; omega) (h := ?_)
    clear fx
    rintro st' - hg htm hhp f1 f2
    have g5 : st'.tm 5 = .pt (.s 5) 0 := by simp [htm, h5]
    simp only [lib_b, lib_u] at f1 f2
    clear htm hhp
    have fx :=  g5
    refine k_run ?_
    clear fx
    intro K hK
    have fx := And.intro g5 g5
    refine x_str (l := wordsL v [] ++ [10]) 5 lay169 layB rfl rfl (.inr ⟨by simp, by simp [f1], by simp [f2]⟩) (h := ?_)
    clear fx
    have fx := fx0
    refine k_run ?_
    clear fx
    refine e_ret [] .nil (by simp; rfl) (by simp)
  · exact ⟨0, by omega, by omega, by simp [h5], by simp [h1], by simp [h1], by simp, by simp [e1, wordsL], by simp [e2, wordsL]⟩
  · clear h5 h1 e1 e2
    rintro n st - - ⟨i, rfl, hi, h5, h10, h11, h12, e1, e2⟩
    have hvw := wordsL_ge (w := v) (ns := ns.take i)
    have hv0 : 0 < v.length := List.length_pos_iff.2 hv
    have hwl2 := wordsL_len (w := v) (small_take (i := i) hns)
    rw [List.length_take] at hwl2
    have hne : wordsL v (ns.take i) ≠ [] := fun e => by rw [e] at hvw; simp at hvw; exact hv hvw
    by_cases hil : i < ns.length
    · obtain ⟨x, hx⟩ : ∃ x, ns[i]? = some x := ⟨_, gE hil⟩
      obtain ⟨_, hxE⟩ := gS hx
      have hxs := hns x (List.mem_of_getElem? hx)
      have hxl := numI_len hxs
      have hl1 : ∀ c, 2000000000 ≤ c → 1 + (numI x).length ≤ c := fun c hc => by omega
      have fx := And.intro h5 <| And.intro h10 <| And.intro h11 <| And.intro h12 <| And.intro hil <| And.intro hx <| And.intro hxE <| hl1
      have c1 := itoa_at gl x hxs
      refine k_run ?_
      clear fx c1
      intro K hK
      have fx := And.intro h5 h5
      refine x_wstr 5 lay166 layB rfl rfl (.inr ⟨hne, by simp [e1], by simp [e2]⟩) (hlen := by simp; omega) (h := ?_)
      clear fx
      rintro st' - hg htm hhp f1 f2
      have g5 : st'.tm 5 = .pt (.s 5) 0 := by simp [htm, h5]
      have g10 := htm 10
      have g11 := htm 11
      have g12 := htm 12
      simp [h10, h11, h12] at g10 g11 g12
      simp only [lib_b, lib_u] at f1 f2
      clear htm hhp
      have fx := And.intro g5 <| And.intro g10 <| And.intro g11 <| g12
      refine k_run ?_
      clear fx
      refine ⟨ns.length - (i + 1), by omega, i + 1, rfl, by omega, by simp [g5], by simp [g10], by simp [g11], by simp; exact wrp (by omega) (by omega), by simp [f1, wordsL_take hx], by simp [f2, wordsL_take hx]⟩
    · obtain rfl : i = ns.length := by omega
      rw [List.take_length] at e1 e2 hne hwl2
      have fx := And.intro h5 <| And.intro h10 <| And.intro h11 <| And.intro h12 <| hil
      refine k_run ?_
      clear fx
      intro K hK
      have fx := And.intro h5 h5
      refine x_wstr 5 lay166 layB rfl rfl (.inr ⟨hne, by simp [e1], by simp [e2]⟩) (hlen := by simp; omega) (h := ?_)
      clear fx
      rintro st' - hg htm hhp f1 f2
      have g5 : st'.tm 5 = .pt (.s 5) 0 := by simp [htm, h5]
      simp only [lib_b, lib_u] at f1 f2
      clear htm hhp
      have fx :=  g5
      refine k_run ?_
      clear fx
      intro K hK
      have fx := And.intro g5 g5
      refine x_str (l := wordsL v ns ++ [10]) 5 lay169 layB rfl rfl (.inr ⟨by simp, by simp [f1], by simp [f2]⟩) (h := ?_)
      clear fx
      have fx := fx0
      refine k_run ?_
      clear fx
      refine e_ret [] .nil (by simp; rfl) (by simp)
theorem headLine_fn (gl) (k : Blk) (hk : TxtH k) (hp1 : k.params.length ≤ 1) : FnOk Tryd.prog gl 21 [Blk.av k] (fun _ y _ => y = tx (showH k ++ [10])) := by
  have hpar := hk.parent
  have hpl := numI_len hpar
  have hl1 : ∀ c, 2000000000 ≤ c → (numI k.parent).length ≤ c := fun c hc => by omega
  have hl3 : ∀ c, 2000000000 ≤ c → 3 + (numI k.parent).length ≤ c := fun c hc => by omega
  refine FnOk.of_sem Tryd.func21 rfl (by kernel_rfl) (rs := [.tmp 2]) rfl Tryd.ntmps21 (Nat.le_of_ble_eq_true rfl) fun C w g root => ?_
  by_cases h2 : k.kind = 2
  · have hb : (k.kind == 2) = true := by simpa using h2
    have hq := lineOfWords_fn gl (wordsL tIn [k.parent] ++ 32 :: tClass) [] (.sc (.slice none 0 0)) (.inr ⟨rfl, rfl⟩) (by simp) (by simp [wordsL, tIn, tClass]; omega) (fun _ h => by cases h) (by simp)
    have he : tx (wordsL tIn [k.parent] ++ 32 :: tClass) = tx (105 :: 110 :: 32 :: (numI k.parent ++ [32, 99, 108, 97, 115, 115])) := by simp [wordsL, tIn, tClass]
    rw [he] at hq
    have fx := And.intro hb <| And.intro hl1 <| hl3
    have c1 := itoa_at gl k.parent hpar
    have c2 := hq
    refine k_run ?_
    clear fx c1 c2
    refine e_ret [] .nil (by simp; rfl) ?_
    simp [showH, h2, wordsL, tIn, tClass]
  · have hb : (k.kind == 2) = false := by simpa using h2
    have hq := lineOfWords_fn gl (wordsL tIn [k.parent] ++ 32 :: tFun) k.params (isl k.params) (.inl rfl) (by simp) (by simp [wordsL, tIn, tFun]; omega) hk.params (by omega)
    have he : tx (wordsL tIn [k.parent] ++ 32 :: tFun) = tx (105 :: 110 :: 32 :: (numI k.parent ++ [32, 102, 117, 110])) := by simp [wordsL, tIn, tFun]
    rw [he] at hq
    have fx := And.intro hb <| And.intro hl1 <| hl3
    have c1 := itoa_at gl k.parent hpar
    have c2 := hq
    refine k_run ?_
    clear fx c1 c2
    refine e_ret [] .nil (by simp; rfl) ?_
    simp [showH, h2]
abbrev qsUf0 : Sch := .q 0 <| .q 1 <| .q 2 <| .q 3 <| .q 4 <| .l 5 [3, 2, 1, 0] <| .l 6 [2, 1, 0] <| .l 7 [2, 1, 0] <| .done
theorem impl_FormatProgram_fn (gl) (hgl : gl 0 = some ((vtx stmtW).map AV.sc)) (p : Prg) (hs : Sml p) (hv : progOk p = true → TxtB p) : FnOk Tryd.prog gl 8 [pav p] (fun _ y _ => y = tx (if progOk p = true then fmt p else [])) := by
  refine FnOk.of_sem Tryd.func8 rfl (by kernel_rfl) (rs := [.tmp 2]) rfl Tryd.ntmps8 (Nat.le_of_ble_eq_true rfl) fun C w g root => ?_
  cases h : progOk p
  · skip
    have fx :=  h
    have c1 := impl_ValidProgram_fn gl p hs
    refine k_run ?_
    repeat ((first | refine wSc (id := 12) qsUf0 mixed ?_); refine k_rund ?_; refine k_run ?_)
    clear fx c1
    refine e_ret [] .nil (by simp; rfl) (by simp)
  have hp := hv h
  have hl7 := hp.len
  rw [if_pos rfl]
  have fx :=  h
  have c1 := impl_ValidProgram_fn gl p hs
  have b1 := bld_zv
  refine k_runp ?_
  repeat ((first | refine wSc (id := 12) qsUf0 mixed ?_); refine k_rundp ?_; refine k_runp ?_)
  clear fx c1 b1
  refine w_loop (fun n st => ∃ b : Nat, n = p.length - b ∧ b ≤ p.length ∧ st.tm 3 = .pt (.s 3) 0 ∧ st.tm 12 = ksl p ∧ st.tm 13 = iv p.length ∧ st.tm 14 = iv b ∧ BldAt st.hp (.s 3) 46 5 (linesL 10 (fmtTo p b))) p.length ?_ ?_
  · exact ⟨0, by omega, by omega, by simp, by simp, by simp, by simp, .inl ⟨by simp [fmtTo_zero, linesL], by simp⟩⟩
  rintro n st - - ⟨b, rfl, hb, h3, h12, h13, h14, hB⟩
  by_cases hbl : b < p.length
  · obtain ⟨k, hk⟩ : ∃ k, p[b]? = some k := ⟨_, gE hbl⟩
    obtain ⟨_, hkE⟩ := gS hk
    have hkm := List.mem_of_getElem? hk
    have hbody := hp.body k hkm
    have hL0 := fmt_len0 hp hb
    have hb0 : b = 0 ∨ 0 < b := by omega
    rcases hb0 with hb0 | hb0
    case' inl =>
      have hbi : ¬ 0 < b := by omega
      have hbt : blkTo b k 0 = [] := by simp [blkTo, hb0]
      have fx := And.intro h3 <| And.intro h12 <| And.intro h13 <| And.intro h14 <| And.intro hbl <| And.intro hk <| And.intro hkE <| hbi
      refine k_run ?_
      repeat ((first | refine wSc (id := 12) qsUf0 mixed ?_); refine k_rund ?_; refine k_run ?_)
      clear fx
      refine w_abs (fun st => st.tm 3 = .pt (.s 3) 0 ∧ st.tm 12 = ksl p ∧ st.tm 13 = iv p.length ∧ st.tm 14 = iv b ∧ st.tm 25 = ssl k.body ∧ st.tm 26 = iv k.body.length ∧ st.tm 27 = iv (0 : Nat) ∧ BldAt st.hp (.s 3) 46 5 (linesL 10 (fmtTo p b ++ blkTo b k 0))) ⟨by simp [h3], by simp [h12], by simp [h13], by simp [h14], by simp, by simp, by simp, ?_⟩ ?_
      · rw [hbt, List.append_nil]
        exact hB.go (by intro e; simp [e]) (by intro e; simp [e]) (by intro e; simp [e])
    case' inr =>
      have hhd := hp.txt.heads b k hk hb0
      have hhl := showH_len hhd (hp.par k hkm)
      have hbt : blkTo b k 0 = [showH k] := by
        have : ¬ b = 0 := by omega
        simp [blkTo, this]
      have fx := And.intro h3 <| And.intro h12 <| And.intro h13 <| And.intro h14 <| And.intro hbl <| And.intro hk <| And.intro hkE <| hb0
      have c1 := headLine_fn gl k hhd (hp.par k hkm)
      refine k_run ?_
      repeat ((first | refine wSc (id := 12) qsUf0 mixed ?_); refine k_rund ?_; refine k_run ?_)
      clear fx c1
      intro K hK
      have fx := And.intro h3 h3
      refine x_wstr 3 lay166 layB rfl rfl (hB.go (by intro e; simp [e]) (by intro e; simp [e]) (by intro e; simp [e])) (hs := by simp) (hlen := by simp; omega) (h := ?_)
      clear fx
      rintro st' - hg htm hhp f1 f2
      have g3 : st'.tm 3 = .pt (.s 3) 0 := by simp [htm, h3]
      have g5 : st'.tm 5 = .pt (.s 5) 0 := by simp [htm]
      have gp5 : st'.hp (.s 5) = some (.row 4 [k.cells]) := by simp [hhp]
      have g12 := htm 12
      have g13 := htm 13
      have g14 := htm 14
      simp [h12, h13, h14] at g12 g13 g14
      have hB' : BldAt st'.hp (.s 3) 46 5 (linesL 10 (fmtTo p b ++ blkTo b k 0)) := by
        rw [hbt, linesL_snoc]
        exact .inr ⟨by simp, by simpa using f1, f2⟩
      clear htm hhp f1 f2
      have fx := And.intro g3 <| And.intro g5 <| And.intro gp5 <| And.intro g12 <| And.intro g13 <| g14
      refine k_run ?_
      repeat ((first | refine wSc (id := 12) qsUf0 mixed ?_); refine k_rund ?_; refine k_run ?_)
      clear fx
      refine w_abs (fun st => st.tm 3 = .pt (.s 3) 0 ∧ st.tm 12 = ksl p ∧ st.tm 13 = iv p.length ∧ st.tm 14 = iv b ∧ st.tm 25 = ssl k.body ∧ st.tm 26 = iv k.body.length ∧ st.tm 27 = iv (0 : Nat) ∧ BldAt st.hp (.s 3) 46 5 (linesL 10 (fmtTo p b ++ blkTo b k 0))) ⟨by simp [g3], by simp [g12], by simp [g13], by simp [g14], by simp, by simp, by simp, ?_⟩ ?_
      · exact hB'.go (by intro e; simp [e]) (by intro e; simp [e]) (by intro e; simp [e])
    all_goals
      clear h3 h12 h13 h14 hB
      rintro st ⟨h3, h12, h13, h14, h25, h26, h27, hB⟩
      refine w_loop (fun n st => ∃ i : Nat, n = k.body.length - i ∧ i ≤ k.body.length ∧ st.tm 3 = .pt (.s 3) 0 ∧ st.tm 12 = ksl p ∧ st.tm 13 = iv p.length ∧ st.tm 14 = iv b ∧ st.tm 25 = ssl k.body ∧ st.tm 26 = iv k.body.length ∧ st.tm 27 = iv i ∧ BldAt st.hp (.s 3) 46 5 (linesL 10 (fmtTo p b ++ blkTo b k i))) k.body.length ?_ ?_
      · exact ⟨0, by omega, by omega, h3, h12, h13, h14, h25, h26, h27, hB⟩
      clear h3 h12 h13 h14 h25 h26 h27 hB
      rintro n st - hgs ⟨i, rfl, hi, h3, h12, h13, h14, h25, h26, h27, hB⟩
      replace hgs : st.gl = gl := hgs
      by_cases hil : i < k.body.length
      · obtain ⟨s, hs'⟩ : ∃ s, k.body[i]? = some s := ⟨_, gE hil⟩
        obtain ⟨_, hsE⟩ := gS hs'
        have hst := hp.txt.stms k hkm s (List.mem_of_getElem? hs')
        have hsl := showS_len hst
        have hL3 := fmt_len (i := i) hp hk
        have hnext : linesL 10 (fmtTo p b ++ blkTo b k (i + 1)) = linesL 10 (fmtTo p b ++ blkTo b k i) ++ (showS s ++ [10]) := by
          rw [blkTo_succ hs', ← List.append_assoc, linesL_snoc]
        rw [show showS s = wordsL (stmtW.getD s.kind.toNat []) (numsOf s) from rfl] at hnext hsl
        have hnum := hst.nums
        have hkd := hst.kind
        have hn3 := numsOf_len (s := s)
        have hnf := stmtNumbers_fn gl s
        generalize numsOf s = ns at hnum hn3 hnf hnext hsl
        obtain ⟨kd, to, a, b'⟩ := s
        simp only at hkd
        obtain ⟨J, rfl⟩ : ∃ J : Nat, kd = J := ⟨kd.toNat, by omega⟩
        have hK12 : J < 12 := by omega
        have hKl : J < stmtW.length := hK12
        have hKi : (J : Int) < 12 := by omega
        obtain ⟨v, hw⟩ : ∃ v, stmtW[J]? = some v := ⟨_, gE hKl⟩
        obtain ⟨_, hwE⟩ := gS hw
        have hwg : stmtW.getD ((J : Int)).toNat [] = v := by simp [List.getD_eq_getElem?_getD, hw]
        have hwl := stmtW_len J hK12
        rw [show stmtW.getD J [] = v by simp [List.getD_eq_getElem?_getD, hw]] at hwl
        simp only [hwg] at hnext hsl
        have hq := lineOfWords_fn gl v ns (isl ns) (.inl rfl) (fun e => by rw [e] at hwl; simp at hwl) (by omega) hnum (by omega)
        have fx := And.intro h3 <| And.intro h12 <| And.intro h13 <| And.intro h14 <| And.intro h25 <| And.intro h26 <| And.intro h27 <| And.intro hil <| And.intro hs' <| And.intro hsE <| And.intro hgs <| And.intro hgl <| And.intro hw <| And.intro hwE <| And.intro hKl <| And.intro hKi <| hn3
        have d1 := hnf
        have c1 := hq
        refine k_run ?_
        repeat ((first | refine wSc (id := 12) qsUf0 mixed ?_); refine k_rund ?_; refine k_run ?_)
        clear fx d1 c1
        intro K hK
        have fx := And.intro h3 h3
        refine x_wstr 3 lay166 layB rfl rfl (hB.go (by intro e; simp [e]) (by intro e; simp [e]) (by intro e; simp [e])) (hs := by simp) (hlen := by simp; omega) (h := ?_)
        clear fx
        rintro st' - hg htm hhp f1 f2
        have g3 : st'.tm 3 = .pt (.s 3) 0 := by simp [htm, h3]
        have g12 := htm 12
        have g13 := htm 13
        have g14 := htm 14
        have g25 := htm 25
        have g26 := htm 26
        have g27 := htm 27
        have g7 : st'.tm 7 = .pt (.s 7) 0 := by simp [htm]
        have gp7 : st'.hp (.s 7) = some (.row 4 [[iv J, iv to, iv a, iv b']]) := by simp [hhp]
        have g31 := htm 31
        have g32 := htm 32
        have g33 := htm 33
        simp [h12, h13, h14, h25, h26, h27] at g12 g13 g14 g25 g26 g27 g31 g32 g33
        replace hg : st'.gl = gl := by simpa [hgs] using hg
        clear htm hhp
        have fx := And.intro g3 <| And.intro g12 <| And.intro g13 <| And.intro g14 <| And.intro g25 <| And.intro g26 <| And.intro g27 <| And.intro g7 <| And.intro gp7 <| And.intro g31 <| And.intro g32 <| And.intro g33 <| And.intro hg <| And.intro hgl <| And.intro hw <| And.intro hwE <| And.intro hKl <| hKi
        refine k_run ?_
        repeat ((first | refine wSc (id := 12) qsUf0 mixed ?_); refine k_rund ?_; refine k_run ?_)
        clear fx
        refine ⟨k.body.length - (i + 1), by omega, i + 1, rfl, by omega, by simp [g3], by simp [g12], by simp [g13], by simp [g14], by simp [g25], by simp [g26], by simp; exact wrp (by omega) (by omega), ?_⟩
        rw [hnext]
        exact .inr ⟨by simp, by simpa using f1, by simpa using f2⟩
      · obtain rfl : i = k.body.length := by omega
        rw [blkTo_all, ← fmtTo_succ hk] at hB
        have fx := And.intro h3 <| And.intro h12 <| And.intro h13 <| And.intro h14 <| And.intro h25 <| And.intro h26 <| And.intro h27 <| hil
        refine k_run ?_
        repeat ((first | refine wSc (id := 12) qsUf0 mixed ?_); refine k_rund ?_; refine k_run ?_)
        clear fx
        refine ⟨p.length - (b + 1), by omega, b + 1, rfl, by omega, by simp [h3], by simp [h12], by simp [h13], by simp; exact wrp (by omega) (by omega), hB.go (by intro e; simp [e]) (by intro e; simp [e]) (by intro e; simp [e])⟩
  · obtain rfl : b = p.length := by omega
    rw [fmtTo_all] at hB
    have fx := And.intro h3 <| And.intro h12 <| And.intro h13 <| And.intro h14 <| hbl
    refine k_run ?_
    repeat ((first | refine wSc (id := 12) qsUf0 mixed ?_); refine k_rund ?_; refine k_run ?_)
    clear fx
    intro K hK
    have fx := And.intro h3 h3
    refine x_str (l := linesL 10 (fmtLines p)) 3 lay169 layB rfl rfl (hB.go (by intro e; simp [e]) (by intro e; simp [e]) (by intro e; simp [e])) (h := ?_)
    clear fx
    have fx := fx0
    refine k_run ?_
    repeat ((first | refine wSc (id := 12) qsUf0 mixed ?_); refine k_rund ?_; refine k_run ?_)
    clear fx
    refine e_ret [] .nil (by simp; rfl) (by simp [fmt])
end Go.Proofs.YtmaoicgfcngciaaDoor
end
section
namespace Go.Proofs.YtmaoicgfcngciaaDoor
open Go Go.Hm Go.Proofs
abbrev qsUa0 : Sch := .q 1 <| .q 2 <| .l 0 [2, 1] <| .q 3 <| .q 4 <| .l 5 [] <| .done
abbrev qsUa1 : Sch := .q 0 <| .q 1 <| .q 5 <| .q 6 <| .q 7 <| .q 8 <| .l 2 [8, 7, 6, 5, 0] <| .q 3 <| .q 4 <| .l 9 [4, 3, 7, 6, 5, 0] <| .q 10 <| .l 11 [] <| .done
attribute [local simp] slcAV
theorem digs_at : ∀ n, n < 10 → ([48, 49, 50, 51, 52, 53, 54, 55, 56, 57] : Txt).drop n = dg n :: ([48, 49, 50, 51, 52, 53, 54, 55, 56, 57] : Txt).drop (n + 1) := by decide
theorem numN_len (n : Nat) : (numN n).length ≤ n + 1 := by
  induction n using Nat.strongRecOn with
  | _ n ih =>
    rw [numN]
    split
    · simp
    · have := ih (n / 10) (by omega)
      simp
      omega
theorem number_nat (gl) : ∀ (k n : Nat), n ≤ k → n < 1152921504606846976 → FnOk Tryd.prog gl 55 [iv n] (fun _ y _ => y = tx (numN n)) := by
  intro k
  induction k with
  | zero =>
    intro n hk hn
    obtain rfl : n = 0 := by omega
    have hw1 : IntKind.i64.wrap 1 = 1 := wrp (by omega) (by omega)
    refine FnOk.of_sem Tryd.func55 rfl (by kernel_rfl) (rs := [.tmp 2]) rfl Tryd.ntmps55 (Nat.le_of_ble_eq_true rfl) fun C w g root => ?_
    have fx :=  hw1
    refine k_run ?_
    clear fx
    refine e_ret [] .nil (by simp; rfl) ?_
    simp [numN]
    rfl
  | succ k ih =>
    intro n hk hn
    have hw1 : IntKind.i64.wrap ((n : Int) + 1) = n + 1 := wrp (by omega) (by omega)
    have n0 : ¬ (n : Int) < 0 := by omega
    by_cases h : n < 10
    · have hd := digs_at n h
      have hi : (n : Int) < 10 := by omega
      have h1 : (n : Int) ≤ 9 := by omega
      have h2 : ((n : Int) + 1).toNat = n + 1 := by omega
      have h3 : (n : Int) ≤ (n : Int) + 1 := by omega
      have h4 : (n : Int) + 1 ≤ 10 := by omega
      have h5 : (0 : Int) ≤ (n : Int) := by omega
      have h6 : n + 1 - n = 1 := by omega
      refine FnOk.of_sem Tryd.func55 rfl (by kernel_rfl) (rs := [.tmp 2]) rfl Tryd.ntmps55 (Nat.le_of_ble_eq_true rfl) fun C w g root => ?_
      have fx := And.intro hw1 <| And.intro n0 <| And.intro hi <| And.intro h1 <| And.intro h2 <| And.intro h3 <| And.intro h4 <| And.intro h5 <| And.intro h6 <| hd
      refine k_run ?_
      clear fx
      refine e_ret [] .nil (by simp; rfl) ?_
      rw [numN, if_pos h]
      simp
    · have hi : ¬ (n : Int) < 10 := by omega
      obtain ⟨q, hq⟩ : ∃ q, q = n / 10 := ⟨_, rfl⟩
      obtain ⟨r, hr⟩ : ∃ r, r = n % 10 := ⟨_, rfl⟩
      have hwq : IntKind.i64.wrap ((n : Int) / 10) = (q : Int) := by
        rw [show (n : Int) / 10 = (q : Int) by omega]
        exact wrp (by omega) (by omega)
      have hwr : (n : Int).tmod 10 = (r : Int) := by
        rw [hr]
        rfl
      have q1 := ih q (by omega) (by omega)
      have q2 := ih r (by omega) (by omega)
      have hl1 := numN_len q
      have hl2 := numN_len r
      have hl : (numN q).length + (numN r).length ≤ 9223372036854775807 := by omega
      refine FnOk.of_sem Tryd.func55 rfl (by kernel_rfl) (rs := [.tmp 2]) rfl Tryd.ntmps55 (Nat.le_of_ble_eq_true rfl) fun C w g root => ?_
      have fx := And.intro n0 <| And.intro hi <| And.intro hwq <| And.intro hwr <| hl
      have c1 := q1
      have c2 := q2
      refine k_run ?_
      clear fx c1 c2
      refine e_ret [] .nil (by simp; rfl) ?_
      rw [numN_small (n := r) (by omega)]
      conv => rhs; rw [numN, if_neg h, ← hq, ← hr]
      simp
theorem number_fn (gl) (n : Int) (h0 : -1000000 ≤ n) (h1 : n ≤ 1000000) : FnOk Tryd.prog gl 55 [iv n] (fun _ y _ => y = tx (numI n)) := by
  by_cases h : n < 0
  · obtain ⟨k, rfl⟩ : ∃ k : Nat, n = -(k : Int) := ⟨(-n).toNat, by omega⟩
    have q := number_nat gl k k (Nat.le_refl _) (by omega)
    have hl1 := numN_len k
    have hl : (numN k).length + 1 ≤ 9223372036854775807 := by omega
    have hl' : 1 + (numN k).length ≤ 9223372036854775807 := by omega
    have hk0 : 0 < k := by omega
    have hk1 : ¬ k = 0 := by omega
    have hne : ¬ -(k : Int) = (k : Int) := by omega
    have hwn : IntKind.i64.wrap (k : Int) = k := wrp (by omega) (by omega)
    refine FnOk.of_sem Tryd.func55 rfl (by kernel_rfl) (rs := [.tmp 2]) rfl Tryd.ntmps55 (Nat.le_of_ble_eq_true rfl) fun C w g root => ?_
    have fx := And.intro hwn <| And.intro hk0 <| And.intro hk1 <| And.intro hne <| And.intro hl <| hl'
    have c1 := q
    refine k_run ?_
    clear fx c1
    refine e_ret [] .nil (by simp; rfl) ?_
    simp [numI, h, hk1]
  · obtain ⟨k, rfl⟩ : ∃ k : Nat, n = (k : Int) := ⟨n.toNat, by omega⟩
    rw [numI_nat]
    exact number_nat gl k k (Nat.le_refl _) (by omega)
theorem stmtWords_fn (gl) : FnOk Tryd.prog gl 73 [] (fun r y H' => y = .hs r 1 0 stmtW.length ∧ H' r = some (.row 1 (xrows stmtW))) := by
  refine FnOk.of_sem Tryd.func73 rfl (by kernel_rfl) (rs := [.tmp 0]) rfl Tryd.ntmps73 (Nat.le_of_ble_eq_true rfl) fun C w g root => ?_
  have fx := fx0
  refine k_run ?_
  clear fx
  exact e_list (t := 0) (by first | (simp []; done) | (simp []; rfl)) (by first | (simp []; done) | (simp []; rfl)) (by simp)
theorem numbersOf_fn (gl) (s : Stm) : FnOk Tryd.prog gl 74 [Stm.av s] (fun r y H' => y = .hs r 1 0 (numsOf s).length ∧ H' r = some (.row 1 (irows (numsOf s)))) := by
  refine FnOk.of_sem Tryd.func74 rfl (by kernel_rfl) (rs := [.tmp 2]) rfl Tryd.ntmps74 (Nat.le_of_ble_eq_true rfl) fun C w g root => ?_
  obtain ⟨kind, to, a, b⟩ := s
  all_goals have fx := fx0
  repeat' (first
   | refine w_seq ?_ | refine w_block ?_ | refine w_skip ?_ | refine w_reg fun K hK => ?_
   | ((with_reducible refine s_end hK ?_); clear hK K)
   | (with_reducible first | refine then_normal ?_ | refine in_normal ?_ | refine then_ret ?_ | refine in_ret ?_)
   | refine w_ret ?_
   | (with_reducible first | refine s_none ?_ | refine x_assign (h := ?_) | refine x_box (h := ?_) | refine x_build (h := ?_))
   | (with_reducible refine x_q (h := ?_))
   | refine x_condt (h1 := ?_) | refine x_condf (h1 := ?_)
   | refine x_if (h1 := fun ht => ?_) (h2 := fun ht => ?_)
   | fail)
  all_goals try clear fx
  all_goals refine e_list (t := 2) ?_ ?_ ?_
  all_goals simp_all [numsOf, irows]
theorem showStmt_fn (gl) (s : Stm) (hs : TxtS s) : FnOk Tryd.prog gl 41 [Stm.av s] (fun _ y _ => y = tx (showS s)) := by
  have hnum := hs.nums
  have hkd := hs.kind
  have hn3 := numsOf_len (s := s)
  have hnf := numbersOf_fn gl s
  have hsh : showS s = wordsL (stmtW.getD s.kind.toNat []) (numsOf s) := rfl
  rw [hsh]
  generalize numsOf s = ns at hnum hn3 hnf
  obtain ⟨kd, to, a, b⟩ := s
  simp only at hkd
  obtain ⟨K, rfl⟩ : ∃ K : Nat, kd = K := ⟨kd.toNat, by omega⟩
  have hK : K < 12 := by omega
  have hKl : K < stmtW.length := hK
  obtain ⟨v, hw⟩ : ∃ v, stmtW[K]? = some v := ⟨_, gE hKl⟩
  obtain ⟨_, hwE⟩ := gS hw
  have hwg : stmtW.getD ((K : Int)).toNat [] = v := by simp [List.getD_eq_getElem?_getD, hw]
  have hwl := (stmtW_len K hK).2
  rw [show stmtW.getD K [] = v by simp [List.getD_eq_getElem?_getD, hw]] at hwl
  simp only [hwg]
  refine FnOk.of_sem Tryd.func41 rfl (by kernel_rfl) (rs := [.tmp 2]) rfl Tryd.ntmps41 (Nat.le_of_ble_eq_true rfl) fun C w g root => ?_
  have fx := And.intro hK <| And.intro hKl <| And.intro hw <| hwE
  have d1 := stmtWords_fn gl
  have d2 := hnf
  refine k_run ?_
  repeat ((first | refine wSc (id := 1) qsUa0 mixed ?_); refine k_rund ?_; refine k_run ?_)
  clear fx d1 d2
  refine w_loop (fun n st => ∃ i : Nat, n = ns.length - i ∧ i ≤ ns.length ∧ st.tm 4 = .hs (.s 4) 1 0 ns.length ∧ st.hp (.s 4) = some (.row 1 (irows ns)) ∧ st.tm 5 = iv i ∧ st.tm 3 = tx (wordsL v (ns.take i))) ns.length ?_ ?_
  · exact ⟨0, by omega, by omega, by simp, by simp, by simp, by simp [wordsL]⟩
  rintro n st - - ⟨i, rfl, hi, h4, hp4, h5, h3⟩
  by_cases hil : i < ns.length
  · obtain ⟨x, hx⟩ : ∃ x, ns[i]? = some x := ⟨_, gE hil⟩
    obtain ⟨_, hxE⟩ := gS hx
    have hxs := hnum x (List.mem_of_getElem? hx)
    have hwl2 := wordsL_len (w := v) (small_take (i := i) hnum)
    have hxl := numI_len hxs
    rw [List.length_take] at hwl2
    have hl1 : ∀ c, 2000000000 ≤ c → (wordsL v (ns.take i)).length + 1 ≤ c := fun c hc => by omega
    have hl2 : ∀ c, 2000000000 ≤ c → (wordsL v (ns.take i)).length + 1 + (numI x).length ≤ c := fun c hc => by omega
    have fx := And.intro h4 <| And.intro hp4 <| And.intro h5 <| And.intro h3 <| And.intro hil <| And.intro hx <| And.intro hxE <| And.intro hl1 <| hl2
    have c1 := number_fn gl x (by omega) (by omega)
    refine k_run ?_
    repeat ((first | refine wSc (id := 1) qsUa0 mixed ?_); refine k_rund ?_; refine k_run ?_)
    clear fx c1
    refine ⟨ns.length - (i + 1), by omega, i + 1, rfl, by omega, by simp [h4], by simp [hp4], by simp [h5]; exact wrp (by omega) (by omega), by simp [wordsL_take hx]⟩
  · obtain rfl : i = ns.length := by omega
    have fx := And.intro h4 <| And.intro hp4 <| And.intro h5 <| And.intro h3 <| hil
    refine k_run ?_
    repeat ((first | refine wSc (id := 1) qsUa0 mixed ?_); refine k_rund ?_; refine k_run ?_)
    clear fx
    refine e_ret [] .nil (by simp [h3]; rfl) ?_
    simp
theorem showHead_fn (gl) (k : Blk) (hk : TxtH k) (hp1 : k.params.length ≤ 1) : FnOk Tryd.prog gl 40 [Blk.av k] (fun _ y _ => y = tx (showH k)) := by
  have hpar := hk.parent
  have hpl := numI_len hpar
  have hl1 : ∀ c, 2000000000 ≤ c → (numI k.parent).length ≤ c := fun c hc => by omega
  have hl3 : ∀ c, 2000000000 ≤ c → 3 + (numI k.parent).length ≤ c := fun c hc => by omega
  refine FnOk.of_sem Tryd.func40 rfl (by kernel_rfl) (rs := [.tmp 2]) rfl Tryd.ntmps40 (Nat.le_of_ble_eq_true rfl) fun C w g root => ?_
  by_cases h2 : k.kind = 2
  · have hb : (k.kind == 2) = true := by simpa using h2
    have fx := And.intro hb <| And.intro hl1 <| hl3
    have c1 := number_fn gl k.parent (by omega) (by omega)
    refine k_run ?_
    repeat ((first | refine wSc (id := 5) qsUa1 mixed ?_); refine k_rund ?_; refine k_run ?_)
    clear fx c1
    refine e_ret [] .nil (by simp; rfl) ?_
    simp [showH, h2, wordsL, tIn, tClass]
  have hb : (k.kind == 2) = false := by simpa using h2
  cases hps : k.params with
  | nil =>
    have fx := And.intro hb <| And.intro hps <| And.intro hl1 <| hl3
    have c1 := number_fn gl k.parent (by omega) (by omega)
    refine k_run ?_
    repeat ((first | refine wSc (id := 5) qsUa1 mixed ?_); refine k_rund ?_; refine k_run ?_)
    clear fx c1
    refine e_ret [] .nil (by simp; rfl) ?_
    simp [showH, h2, wordsL, tIn, tFun, hps]
  | cons x l =>
    obtain rfl : l = [] := by
      rw [hps] at hp1
      exact List.eq_nil_of_length_eq_zero (by simpa using hp1)
    have hxs := hk.params x (by simp [hps])
    have hxl := numI_len hxs
    have hl5 : ∀ c, 2000000000 ≤ c → (numI k.parent).length + (numI x).length ≤ c := fun c hc => by omega
    have hl6 : ∀ c, 2000000000 ≤ c → (numI k.parent).length + 5 + 1 + 1 + 1 + (numI x).length ≤ c := fun c hc => by omega
    have fx := And.intro hb <| And.intro hps <| And.intro hl1 <| And.intro hl3 <| And.intro hl5 <| hl6
    have c1 := number_fn gl k.parent (by omega) (by omega)
    have c2 := number_fn gl x (by omega) (by omega)
    refine k_run ?_
    repeat ((first | refine wSc (id := 5) qsUa1 mixed ?_); refine k_rund ?_; refine k_run ?_)
    clear fx c1 c2
    refine e_ret [] .nil (by simp; rfl) ?_
    simp [showH, h2, wordsL, tIn, tFun, hps]
theorem format_fn (gl) (p : Prg) (hp : TxtB p) : FnOk Tryd.prog gl 17 [pav p] (fun _ y _ => y = tx (fmt p)) := by
  have hl7 := hp.len
  refine FnOk.of_sem Tryd.func17 rfl (by kernel_rfl) (rs := [.tmp 2]) rfl Tryd.ntmps17 (Nat.le_of_ble_eq_true rfl) fun C w g root => ?_
  have fx := fx0
  refine k_run ?_
  clear fx
  refine w_loop (fun n st => ∃ b : Nat, n = p.length - b ∧ b ≤ p.length ∧ st.tm 1 = .pt (.s 1) 0 ∧ st.hp (.s 1) = some (.row 1 [[ksl p]]) ∧ st.tm 4 = iv b ∧ st.tm 3 = tx (linesL 10 (fmtTo p b))) p.length ?_ ?_
  · exact ⟨0, by omega, by omega, by simp, by simp, by simp, by simp [fmtTo_zero, linesL]⟩
  rintro n st - - ⟨b, rfl, hb, h1, hp1, h4, h3⟩
  by_cases hbl : b < p.length
  · obtain ⟨k, hk⟩ : ∃ k, p[b]? = some k := ⟨_, gE hbl⟩
    obtain ⟨_, hkE⟩ := gS hk
    have hkm := List.mem_of_getElem? hk
    have hbody := hp.body k hkm
    have hL0 := fmt_len0 hp hb
    have hb0 : b = 0 ∨ 0 < b := by omega
    rcases hb0 with hb0 | hb0
    case' inl =>
      have hbi : ¬ 0 < b := by omega
      have hbt : blkTo b k 0 = [] := by simp [blkTo, hb0]
      have fx := And.intro h1 <| And.intro hp1 <| And.intro h4 <| And.intro h3 <| And.intro hbl <| And.intro hk <| And.intro hkE <| hbi
      refine k_run ?_
      clear fx
    case' inr =>
      have hhd := hp.txt.heads b k hk hb0
      have hhl := showH_len hhd (hp.par k hkm)
      have hbt : blkTo b k 0 = [showH k] := by
        have : ¬ b = 0 := by omega
        simp [blkTo, this]
      have hL1 : ∀ c, 2000000000 ≤ c → (linesL 10 (fmtTo p b)).length + (showH k).length ≤ c := fun c hc => by omega
      have hL2 : ∀ c, 2000000000 ≤ c → (linesL 10 (fmtTo p b)).length + (showH k).length + 1 ≤ c := fun c hc => by omega
      have fx := And.intro h1 <| And.intro hp1 <| And.intro h4 <| And.intro h3 <| And.intro hbl <| And.intro hk <| And.intro hkE <| And.intro hb0 <| And.intro hL1 <| hL2
      have c1 := showHead_fn gl k hhd (hp.par k hkm)
      refine k_run ?_
      clear fx c1
    all_goals
      refine w_loop (fun n st => ∃ i : Nat, n = k.body.length - i ∧ i ≤ k.body.length ∧ st.tm 1 = .pt (.s 1) 0 ∧ st.hp (.s 1) = some (.row 1 [[ksl p]]) ∧ st.tm 4 = iv b ∧ st.tm 5 = iv i ∧ st.tm 3 = tx (linesL 10 (fmtTo p b ++ blkTo b k i))) k.body.length ?_ ?_
      · exact ⟨0, by omega, by omega, by simp [h1], by simp [hp1], by simp [h4], by simp, by simp [h3, hbt, linesL_app, linesL_snoc, linesL]⟩
      clear h1 hp1 h4 h3 hbt
      rintro n st - - ⟨i, rfl, hi, h1, hp1, h4, h5, h3⟩
      by_cases hil : i < k.body.length
      · obtain ⟨s, hs⟩ : ∃ s, k.body[i]? = some s := ⟨_, gE hil⟩
        obtain ⟨_, hsE⟩ := gS hs
        have hst := hp.txt.stms k hkm s (List.mem_of_getElem? hs)
        have hsl := showS_len hst
        have hL3 := fmt_len (i := i) hp hk
        have hL4 : ∀ c, 2000000000 ≤ c → (linesL 10 (fmtTo p b ++ blkTo b k i)).length + (showS s).length ≤ c := fun c hc => by omega
        have hL5 : ∀ c, 2000000000 ≤ c → (linesL 10 (fmtTo p b ++ blkTo b k i)).length + (showS s).length + 1 ≤ c := fun c hc => by omega
        have hnext : linesL 10 (fmtTo p b ++ blkTo b k (i + 1)) = linesL 10 (fmtTo p b ++ blkTo b k i) ++ (showS s ++ [10]) := by
          rw [blkTo_succ hs, ← List.append_assoc, linesL_snoc]
        generalize linesL 10 (fmtTo p b ++ blkTo b k i) = L at h3 hL4 hL5 hnext
        have fx := And.intro h1 <| And.intro hp1 <| And.intro h4 <| And.intro h5 <| And.intro h3 <| And.intro hbl <| And.intro hk <| And.intro hkE <| And.intro hil <| And.intro hs <| And.intro hsE <| And.intro hL4 <| hL5
        have c1 := showStmt_fn gl s hst
        refine k_run ?_
        clear fx c1
        refine ⟨k.body.length - (i + 1), by omega, i + 1, rfl, by omega, by simp [h1], by simp [hp1], by simp [h4], by simp [h5]; exact wrp (by omega) (by omega), by simp [hnext]⟩
      · obtain rfl : i = k.body.length := by omega
        rw [blkTo_all, ← fmtTo_succ hk] at h3
        have fx := And.intro h1 <| And.intro hp1 <| And.intro h4 <| And.intro h5 <| And.intro h3 <| And.intro hbl <| And.intro hk <| And.intro hkE <| hil
        refine k_run ?_
        clear fx
        refine ⟨p.length - (b + 1), by omega, b + 1, rfl, by omega, by simp [h1], by simp [hp1], by simp [h4]; exact wrp (by omega) (by omega), by simp [h3]⟩
  · obtain rfl : b = p.length := by omega
    have fx := And.intro h1 <| And.intro hp1 <| And.intro h4 <| And.intro h3 <| hbl
    refine k_run ?_
    clear fx
    refine e_ret [] .nil (by simp [h3]; rfl) ?_
    simp [fmt, fmtTo_all]
end Go.Proofs.YtmaoicgfcngciaaDoor
end
section
namespace Go.Proofs.YtmaoicgfcngciaaDoor
open Go Go.Hm Go.Proofs
theorem spec_FormatProgram_fn (gl) (p : Prg) (hs : Sml p) (hv : progOk p = true → TxtB p) : FnOk Tryd.prog gl 6 [pav p] (fun _ y _ => y = tx (if progOk p = true then fmt p else [])) := by
  refine FnOk.of_sem Tryd.func6 rfl (by kernel_rfl) (rs := [.tmp 2]) rfl Tryd.ntmps6 (Nat.le_of_ble_eq_true rfl) fun C w g root => ?_
  cases h : progOk p
  · skip
    have fx :=  h
    have c1 := validProgram_fn gl p hs
    refine k_run ?_
    clear fx c1
    refine e_ret [] .nil (by simp; rfl) (by simp)
  · skip
    have fx :=  h
    have c1 := validProgram_fn gl p hs
    have c2 := format_fn gl p (hv h)
    refine k_run ?_
    clear fx c1 c2
    refine e_ret [] .nil (by simp; rfl) (by simp)
end Go.Proofs.YtmaoicgfcngciaaDoor
end
