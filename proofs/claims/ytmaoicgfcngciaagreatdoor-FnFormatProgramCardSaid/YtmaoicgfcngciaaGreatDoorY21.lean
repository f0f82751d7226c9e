/-
  Own texts, joined by mkclaim.py: Hi, Hj, Hk, Uw, Ue, Hp, Ta, Tb, Kc, Kd, Gn, Ka, Kb, Kj, Kk, Kl, Kn, Km, Ko, Kp.
-/
import Derived.Test.YtmaoicgfcngciaaGreatDoorY20
import Derived.Test.YtmaoicgfcngciaaGreatDoorY11
import Derived.Test.YtmaoicgfcngciaaGreatDoorY18
import Derived.Test.YtmaoicgfcngciaaGreatDoorY17
import Derived.Test.YtmaoicgfcngciaaGreatDoorY10
import Derived.Test.YtmaoicgfcngciaaGreatDoorY19
set_option linter.unusedSimpArgs false
set_option linter.unusedVariables false
set_option maxRecDepth 100000
set_option maxHeartbeats 4000000

section
namespace Go.Proofs.YtmaoicgfcngciaaGreatDoor
open Go Go.Hm Go.Proofs Go.RowKit Go.Shelf
attribute [local go_sem] Oper.semAt_some
theorem cell_of_box {W : World} {B : Nat} {v : Value} {t : TypeId} (h : W.heap[B]? = some (.cells #[v] t (0, 0))) : W.cell? ⟨B, 0, none⟩ = some v ∧ W.frozen? ⟨B, 0, none⟩ = false := by
  constructor <;> simp [World.cell?, World.frozen?, h]
theorem cell_new' (W : World) (v : Value) (t : TypeId) : (W.alloc (.cells #[v] t)).cell? ⟨W.heap.size, 0, none⟩ = some v ∧ (W.alloc (.cells #[v] t)).frozen? ⟨W.heap.size, 0, none⟩ = false := cell_of_box (World.alloc_heap_new W _)
theorem cell_alloc' {W : World} {a : Addr} {v : Value} (o : Obj) (h : W.cell? a = some v) : (W.alloc o).cell? a = some v := cell_kept h (World.grownBy_alloc W o none) (fun r e => by cases e)
theorem frozen_alloc' {W : World} {a : Addr} {v : Value} (o : Obj) (h : W.cell? a = some v) (hf : W.frozen? a = false) : (W.alloc o).frozen? a = false := (frozen_kept h (World.grownBy_alloc W o none) (fun r e => by cases e)).trans hf
theorem outerOwner_in (n : Nat) (hn : 3 ≤ n) (p : Prg) (hh : Heads p) (hb0 : ∀ k, p[0]? = some k → k.kind ≠ 1) (g : Gh) (w : World) (hC : ∀ b, g.C b → b < w.heap.size) (i : Nat) (k : Blk) (hk : p[i]? = some k) (a0 : Option Addr) (ha : RV g w (.pointer a0) (scopeA p i)) (x : Nat) (hx : x < 8) :
    CallsIn Fence.wide n Tryz.prog 110 #[.pointer a0, .int .i64 x] w fun e W' => e = .returned (.int .i64 (outerF p x p.length k.parent)) ∧ Below w.heap.size w W' := by
  have h1 : 1 ≤ n := by omega
  refine callsIn_of_wp_marks Tryz.func110 rfl trivial ?_ rfl
  simp only [Tryz.ntmps110, List.size_toArray, List.length_cons, List.length_nil, Nat.reduceAdd, Nat.reduceSub, Array.replicate_succ, Array.replicate_zero, List.push_toArray, List.append_toArray, List.nil_append, List.cons_append]
  gi_wp2_with (refine ⟨trivial, ?_⟩; gi_at_call 155; refine (functionsOutside_in (n - 1) _ _).mono ?_; rintro e w' ⟨rfl, rfl⟩)
  have c0 := cell_new' w (.int .i64 x) 3
  have c1 := cell_new' (w.alloc (.cells #[.int .i64 x] 3)) (.int .i64 0) 3
  have c2 := cell_new' ((w.alloc (.cells #[.int .i64 x] 3)).alloc (.cells #[.int .i64 0] 3)) (.pointer a0) 91
  simp only [World.size_alloc] at c1 c2
  have hB0 : Below w.heap.size w (((w.alloc (.cells #[.int .i64 x] 3)).alloc (.cells #[.int .i64 0] 3)).alloc (.cells #[.pointer a0] 91)) := (((Below.refl _ w).alloc (Nat.le_refl _) _).alloc (by simp) _).alloc (by simp; omega) _
  refine wpIn_rangeFunc_ownF rfl h1 (gf := 182) (lb := #[.pointer (some ⟨w.heap.size + 1 + 1, 0, none⟩)]) rfl trivial (enters_of Tryz.func182 (by kernel_rfl) rfl)
    (iter_stops (n - 1) (w.heap.size + 1 + 1) p hh g w _ hC i k hk a0 ha (by omega) hB0 (by simp) c2.1) belowK_t (belowK_b (by simp; omega)) (Below.refl _ _) (fun _ => rfl)
    (fun pre W => ((∀ y ∈ pre, found p x y.1.2 = none) ∧ W.cell? ⟨w.heap.size, 0, none⟩ = some (.int .i64 x) ∧ W.cell? ⟨w.heap.size + 1, 0, none⟩ = some (.int .i64 0) ∧ W.frozen? ⟨w.heap.size + 1, 0, none⟩ = false) ∧ Below w.heap.size w W)
    (fun c pre W => (c = .ret ∧ (∃ l y r, pre = l ++ [y] ∧ (∀ y ∈ l, found p x y.1.2 = none) ∧ found p x y.1.2 = some r ∧ W.cell? ⟨w.heap.size + 1, 0, none⟩ = some (.int .i64 r))) ∧ Below w.heap.size w W)
    (OwnFrom.and (Own.from (fun s A B row hs hg hr => ⟨hs.1, cell_kept hs.2.1 hg hr, cell_kept hs.2.2.1 hg hr, (frozen_kept hs.2.2.1 hg hr).trans hs.2.2.2⟩) _) (ownFrom_below (Nat.le_refl _) (by simp; omega)))
    (fun c => OwnFrom.and (Own.from (fun s A B row hs hg hr => ⟨hs.1, by obtain ⟨l, y, r, e1, e2, e3, e4⟩ := hs.2; exact ⟨l, y, r, e1, e2, e3, cell_kept e4 hg hr⟩⟩) _) (ownFrom_below (Nat.le_refl _) (by simp; omega)))
    ⟨⟨by simp, cell_alloc' _ (cell_alloc' _ c0.1), cell_alloc' _ c1.1, frozen_alloc' _ c1.1 c1.2⟩, hB0⟩
    (fun y => { tmps := #[.pointer a0, .int .i64 x, undef, .pointer (some ⟨w.heap.size, 0, none⟩), .pointer (some ⟨w.heap.size + 1, 0, none⟩), .pointer y.1.1, .pointer a0, .func (.func 182) #[] #[.pointer (some ⟨w.heap.size + 1 + 1, 0, none⟩)], .pointer y.1.1, undef, undef, undef, undef, undef, undef, undef, undef, undef, undef, undef, undef, undef], defers := [] }) ?assign ?body ?done ?stop
  case assign =>
    intro l y W K hK
    gi_wp2
    exact hK
  case body =>
    rintro l pre ⟨⟨ay, j⟩, q, hq, hq1, hr⟩ W ⟨⟨hp, hcx, hcr, hfr⟩, hB⟩ _
    dsimp only at hq hr ⊢
    obtain ⟨b, o, rfl, hs⟩ : ∃ b o, ay = some ⟨b, o, none⟩ ∧ ScAt g w p j q b o := by
      obtain ⟨b, o, e, h⟩ := hr.scAt hh hq
      exact ⟨b, o, by simpa using e, h⟩
    have hb := hC b hs.C
    have hg : W.cell? ⟨b, o + (27 + x), none⟩ = some (.bool (decide ((x : Int) ∈ q.dc 9))) := (hB.cell (p := ⟨b, o + (27 + x), none⟩) hb).trans (hs.glob x hx)
    have hidx : W.cell? ⟨b, o, none⟩ = some (.int .i64 j) := (hB.cell (p := ⟨b, o, none⟩) hb).trans hs.idx
    have h8 : (x : Int) < 8 := by omega
    have hg2 : W.cell? ⟨b, o + 27 + x, none⟩ = some (.bool (decide ((x : Int) ∈ q.dc 9))) := by rw [Nat.add_assoc]; exact hg
    have hmx : Tryz.prog.follows .mixedOrders = true := by kernel_rfl
    have hj0 : 0 < j := by
      rcases Nat.eq_zero_or_pos j with rfl | h
      · exact absurd hq1 (hb0 q hq)
      · exact h
    have hcall : ∀ W', Below w.heap.size w W' → Calls Tryz.prog 156 #[.pointer (some ⟨b, o, none⟩), .int .i64 x] W' fun e W'' => e = .returned (.bool (isLocal j q x)) ∧ Below W'.heap.size W' W'' := by
      intro W' hB'
      have hF := scope_isLocal_fn (fun _ => none) j q (scopeA p q.parent) q.params x hx
      have e : (q.kind != 0 && decide ((x : Int) ∈ q.bd) && !(decide ((x : Int) ∈ q.dc 9) || decide ((x : Int) ∈ q.dc 10))) = isLocal j q x := by
        simp [isLocal, hq1, hj0, Bool.and_assoc]
      rw [e] at hF
      refine FnOk.raw hF (g := g) (fun b hb => Nat.lt_of_lt_of_le (hC b hb) hB'.size) rfl ?_
      intro a v y hv hy
      match a, hv, hy with
      | 0, hv, hy =>
        obtain rfl := Option.some.inj hv
        obtain rfl := Option.some.inj hy
        have := hr.keepB hC hB'
        rwa [scopeA_eq hh hq] at this
      | 1, hv, hy =>
        obtain rfl := Option.some.inj hv
        obtain rfl := Option.some.inj hy
        exact .sc _
      | a + 2, hv, _ => simp at hv
    have hBd : Below w.heap.size w W.drew := ⟨hB.os, hB.tape, hB.output, hB.size, hB.block⟩
    have hbW : b < W.drew.heap.size := Nat.lt_of_lt_of_le hb hB.size
    have hrW : w.heap.size + 1 < W.drew.heap.size := by
      refine Nat.lt_of_not_le fun hge => ?_
      have : W.heap[w.heap.size + 1]? = none := Array.getElem?_eq_none hge
      simp [World.cell?, this] at hcr
    have hko : ∀ w3, Below W.drew.heap.size W.drew w3 → KeepsOthers W w3 := fun w3 h => ⟨h.size, fun k o hk _ => (h.block k (Array.getElem?_eq_some_iff.1 hk).1).trans hk⟩
    have hfd : found p x j = if (x : Int) ∈ q.dc 9 then some (-1) else if isLocal j q x then some (j : Int) else none := by simp only [found, hq]
    by_cases hm : (x : Int) ∈ q.dc 9
    · rw [decide_eq_true hm] at hg hg2
      rw [if_pos hm] at hfd
      gi_wp2
      gi_region_o
      all_goals gi_wp2
      all_goals exact ⟨(KeepsOthers.drew W).trans (KeepsOthers.setCell _ _ _), ⟨rfl, pre, ⟨(some ⟨b, o, none⟩, j), q, hq, hq1, hr⟩, -1, rfl, hp, hfd, World.cell?_setCell_same' _ _ _ (by rw [hcr]; rfl)⟩, hBd.setCell (p := ⟨w.heap.size + 1, 0, none⟩) (by simp) _⟩
    · rw [decide_eq_false hm] at hg hg2
      rw [if_neg hm] at hfd
      cases hl : isLocal j q x with
      | true =>
        rw [hl] at hcall
        rw [if_pos hl] at hfd
        gi_wp2
        gi_region_o
        all_goals gi_wp2_with (refine ⟨trivial, fun _ => by omega, ?_⟩; refine (CallsIn.inRound l (callsIn_wide.2 (hcall _ hBd))).mono ?_; rintro e w3 ⟨rfl, hbw⟩; have hi3 := (hbw.cell (p := ⟨b, o, none⟩) hbW).trans hidx; have hc3 := (hbw.cell (p := ⟨w.heap.size + 1, 0, none⟩) hrW).trans hcr; have hf3 := (hbw.frozen (p := ⟨w.heap.size + 1, 0, none⟩) hrW).trans hfr)
        all_goals exact ⟨(hko _ (by assumption)).trans (KeepsOthers.setCell _ _ _), ⟨rfl, pre, ⟨(some ⟨b, o, none⟩, j), q, hq, hq1, hr⟩, (j : Int), rfl, hp, hfd, World.cell?_setCell_same' _ _ _ (by rw [hc3]; rfl)⟩, (hBd.trans (Below.mono (by assumption) hBd.size)).setCell (p := ⟨w.heap.size + 1, 0, none⟩) (by simp) _⟩
      | false =>
        rw [hl] at hcall
        rw [if_neg (by rw [hl]; decide)] at hfd
        gi_wp2
        gi_region_o
        all_goals gi_wp2_with (refine ⟨trivial, fun _ => by omega, ?_⟩; refine (CallsIn.inRound l (callsIn_wide.2 (hcall _ hBd))).mono ?_; rintro e w3 ⟨rfl, hbw⟩)
        all_goals
          have hWw : Below W.drew.heap.size W.drew w3 := by assumption
          have hB3 : Below w.heap.size W.drew w3 := hWw.mono hBd.size
          have hBW : Below w.heap.size W w3 := ⟨hB3.os, hB3.tape, hB3.output, hB3.size, hB3.block⟩
          have hsW : w.heap.size < W.drew.heap.size := Nat.lt_of_succ_lt hrW
          refine ⟨hko _ hWw, hBW, ⟨fun y hy => ?_, (hWw.cell (p := ⟨w.heap.size, 0, none⟩) hsW).trans hcx, (hWw.cell (p := ⟨w.heap.size + 1, 0, none⟩) hrW).trans hcr, (hWw.frozen (p := ⟨w.heap.size + 1, 0, none⟩) hrW).trans hfr⟩, hB.trans hBW⟩
          rcases List.mem_append.1 hy with hy | hy
          · exact hp y hy
          · obtain rfl := List.mem_singleton.1 hy
            exact hfd
  case done =>
    rintro D ys W hD ⟨je, hneg, hpath⟩ ⟨⟨hne, _, hcr, hfr⟩, hB⟩ hK
    gi_wp2
    have hK' := (KeepsOthers.setCell W ⟨w.heap.size + 1, 0, none⟩ (.int .i64 (-1))).same D _ hK rfl
    refine ⟨by simp, .inl ⟨_, _, rfl, run_takeDeferred hK', ?_⟩⟩
    have hc5 := cell_kept (World.cell?_setCell_same' W ⟨w.heap.size + 1, 0, none⟩ (.int .i64 (-1)) (by rw [hcr]; rfl)) (grownBy_putObj' _ D (.deferred none)) (fun r e => by cases e; exact ⟨_, hK', rfl⟩)
    have hout : outerF p x p.length k.parent = -1 := by
      rw [hpath.outer hh hb0 (x := x) (fun y hy => by obtain ⟨z, hz, rfl⟩ := List.mem_map.1 hy; exact hne z hz), outerF_end (by omega)]
    refine ⟨.int .i64 (-1), ?_, by rw [hout], (hB.setCell (p := ⟨w.heap.size + 1, 0, none⟩) (by simp) _).trans (belowK_b (w := w) (Nat.le_refl _) _ D _ _ (by simp at hD; omega) hK' rfl rfl)⟩
    simp [results, Tryz.f110, go_sem, hc5]
  case stop =>
    rintro D c pre W hD ⟨je, hpath⟩ ⟨⟨rfl, l, y, r, rfl, hno, hf, hcr⟩, hB⟩ hK
    gi_wp2
    refine ⟨by simp, .inl ⟨_, _, rfl, run_takeDeferred hK, ?_⟩⟩
    have hc5 := cell_kept hcr (grownBy_putObj' _ D (.deferred none)) (fun r e => by cases e; exact ⟨_, hK, rfl⟩)
    have hout : outerF p x p.length k.parent = r := by
      rw [List.map_append, List.map_singleton] at hpath
      exact Path.found hh hpath hb0 (fun y hy => by obtain ⟨z, hz, rfl⟩ := List.mem_map.1 hy; exact hno z hz) hf
    refine ⟨.int .i64 r, ?_, by rw [hout], hB.trans (belowK_b (w := w) (Nat.le_refl _) W D _ _ (by simp at hD; omega) hK rfl rfl)⟩
    simp [results, Tryz.f110, go_sem, hc5]
theorem outerOwner_fn (gl) (p : Prg) (hh : Heads p) (hb0 : ∀ k, p[0]? = some k → k.kind ≠ 1) (i : Nat) (k : Blk) (hk : p[i]? = some k) (x : Nat) (hx : x < 8) :
    FnOk Tryz.prog gl 110 [scopeA p i, iv x] (fun _ y _ => y = iv (outer p i x)) := by
  refine FnOk.of_raw ⟨_, Tryz.func110, by kernel_rfl, by kernel_rfl⟩ fun w g args hC hsz hargs => ?_
  rw [outer_fuel hh hk]
  obtain ⟨v0, v1, rfl⟩ : ∃ v0 v1, args = #[v0, v1] := by
    refine ⟨args[0]'(by simp at hsz; omega), args[1]'(by simp at hsz; omega), ?_⟩
    apply Array.ext
    · simpa using hsz
    · intro i h1 h2
      match i with
      | 0 => rfl
      | 1 => rfl
      | i + 2 => simp at hsz; omega
  have h0 := hargs 0 v0 _ rfl rfl
  have h1 := hargs 1 v1 _ rfl rfl
  obtain ⟨a0, rfl⟩ := h0.ptr
  obtain rfl := h1.sc_eq
  exact callsIn_wide.1 (outerOwner_in 3 (Nat.le_refl _) p hh hb0 g w hC i k hk a0 h0 x hx)
end Go.Proofs.YtmaoicgfcngciaaGreatDoor
end
section
namespace Go.Proofs.YtmaoicgfcngciaaGreatDoor
open Go Go.Hm Go.Proofs
abbrev scEl (p : Prg) (i : Nat) (k : Blk) : AV := .el (scopeRow i k (scopeA p k.parent) k.params) 0
theorem outerOwner_fn' (gl) (p : Prg) (hp : ShapeP p) (i : Nat) (k : Blk) (hk : p[i]? = some k) (x : Nat) (hx : x < 8) : FnOk Tryz.prog gl 110 [scEl p i k, iv x] (fun _ y _ => y = iv (outer p i x)) := by
  have := outerOwner_fn gl p hp.heads hp.fun0 i k hk x hx
  rwa [scopeA_eq hp.heads hk] at this
theorem validDeclarations_fn (gl) (p : Prg) (hp : ShapeP p) (i : Nat) (k : Blk) (hk : p[i]? = some k) : FnOk Tryz.prog gl 56 [scEl p i k] (fun _ y _ => y = bv (declsOk p i)) := by
  have hdo : declsOk p i = (List.range 8).all (fun x => declOk p i k (x : Int)) := by simp only [declsOk, hk]
  rw [hdo]
  refine FnOk.of_sem Tryz.func56 rfl (by kernel_rfl) (rs := [.tmp 2]) rfl Tryz.ntmps56 (Nat.le_of_ble_eq_true rfl) fun C w g root => ?_
  have fx := fx0
  refine k_run ?_
  clear fx
  refine w_loop (fun n st => ∃ x : Nat, n = 8 - x ∧ x ≤ 8 ∧ st.tm 0 = scEl p i k ∧ st.tm 4 = iv x ∧ (List.range x).all (fun x => declOk p i k (x : Int)) = true) 8 ⟨0, by simp⟩ ?_
  rintro n st - - ⟨x, rfl, hx, h0, h4, hal⟩
  have fx := And.intro h0 <| h4
  refine k_run ?_
  clear fx
  refine w_if (by simp []; first | done | rfl | exact (Bool.not_not _).symm) (fun ht => ?_) (fun hf => ?_)
  · have h8 : (x : Int) < 8 := by simpa using ht
    have hx8 : x < 8 := by omega
    have hg := scopeRow_g (i := i) (k := k) (o := scopeA p k.parent) (ps := k.params) hx8
    have hn := scopeRow_n (i := i) (k := k) (o := scopeA p k.parent) (ps := k.params) hx8
    have hq := scopeRow_p (i := i) (k := k) (o := scopeA p k.parent) (ps := k.params) hx8
    have hge := outer_ge (p := p) (b := i) (x := x)
    have fin : declOk p i k x = false → (List.range 8).all (fun x => declOk p i k (x : Int)) = false := fun h => range_false hx8 h
    have nxt : declOk p i k x = true → (List.range (x + 1)).all (fun x => declOk p i k (x : Int)) = true := fun h => by rw [all_range_succ, hal, h]; rfl
    clear ht hal
    all_goals have fx := And.intro h0 <| And.intro h4 <| And.intro h8 <| And.intro hg <| And.intro hn <| hq
    repeat' (first
     | refine w_seq ?_ | refine w_block ?_ | refine w_skip ?_ | refine w_reg fun K hK => ?_
     | ((with_reducible refine s_end hK ?_); clear hK K)
     | (with_reducible first | refine then_normal ?_ | refine in_normal ?_ | refine then_exit ?_ | refine in_exit ?_ | refine then_ret ?_ | refine in_ret ?_ | refine in_other (by decide) ?_)
     | refine w_exit ?_
     | refine w_ret ?_
     | (with_reducible refine s_none ?_)
     | ((with_reducible refine g_id ?_); refine x_guard (h := ?_))
     | (with_reducible first | refine gx_tt ?_ | refine gx_ff ?_ | refine x_tf (h := ?_) | refine x_ft (h := ?_) | refine x_u (h := ?_) | refine x_assign (h := ?_))
     | ((with_reducible refine o_id 109 rfl ?_); refine x_call (hF := declares_fn _ _ _ _ _ _ hx8) (h := ?_))
     | ((with_reducible refine o_id 110 rfl ?_); refine x_call (hF := outerOwner_fn' _ p hp i k hk x hx8) (h := ?_))
     | (with_reducible refine x_q (h := ?_))
     | (with_reducible refine gx_s (fun ht => ?_) (fun ht => ?_))
     | refine x_condt (h1 := ?_) | refine x_condf (h1 := ?_)
     | refine x_if (h1 := fun ht => ?_) (h2 := fun ht => ?_)
     | fail)
    all_goals try clear fx
    all_goals clear hg hn hq
    all_goals first
      | (refine e_ret [] .nil (by simp; rfl) ?_
         rw [fin (by simp only [declOk]; simp_all; done)]
         rfl)
      | (refine ⟨8 - (x + 1), by omega, x + 1, rfl, by omega, by simp [h0], by simp; exact wrp (by omega) (by omega), nxt ?_⟩
         simp only [declOk]
         simp_all
         try omega)
  · have hge : x = 8 := by
      have : ¬ (x : Int) < 8 := by simpa using hf
      omega
    subst hge
    have fx := fx0
    refine k_run ?_
    clear fx
    refine e_ret [] .nil (by simp []; rfl) (by simp [hal])
theorem bw_sc {hp : Nm → Option AO} {n : Nm} {p : Prg} {j : Nat} {k : Blk} (h : OwnS hp n p p.length) (hh : Heads p) (hk : p[j]? = some k) : Bw hp noD (.pt (.c n j 0) 0) (scEl p j k) := by
  have := bw_scope h hh j (gS hk).1
  rwa [scopeA_eq hh hk] at this
theorem sRows_at {n : Nm} {len j : Nat} (h : j < len) : (sRows n len len)[j]? = some [AV.pt (.c n j 0) 0] := by rw [sRows_get h, if_pos h]
theorem declsOk0 {p : Prg} (hp : ShapeP p) : declsOk p 0 = true := by
  obtain ⟨k, hk⟩ : ∃ k, p[0]? = some k := ⟨_, gE (by have := hp.len.1; omega)⟩
  simp only [declsOk, hk, List.all_eq_true]
  intro x _
  simp [declOk, hp.decl0 hk]
theorem impl_ValidProgram_fn (gl) (p : Prg) (hs : Sml p) : FnOk Tryz.prog gl 21 [pav p] (fun _ y _ => y = bv (progOk p)) := by
  refine FnOk.of_sem Tryz.func21 rfl (by kernel_rfl) (rs := [.tmp 2]) rfl Tryz.ntmps21 (Nat.le_of_ble_eq_true rfl) fun C w g root => ?_
  cases hsh : shapeOk p with
  | false =>
    have fx :=  hsh
    have c1 := impl_ValidShape_fn gl p hs
    refine k_run ?_
    clear fx c1
    refine e_ret [] .nil (by simp; rfl) ?_
    simp [progOk, hsh]
  | true =>
    have hp := ShapeP.of hs hsh
    have hh := hp.heads
    have hl7 := hp.len
    have hpo : progOk p = (List.range p.length).all (fun b => b == 0 || declsOk p b) := by simp only [progOk, hsh, Bool.true_and]
    rw [hpo]
    have fx :=  hsh
    have c1 := impl_ValidShape_fn gl p hs
    have e1 := scopesOf_fn gl p hs hh hp.names
    refine k_run ?_
    clear fx c1 e1
    first | rintro K hK y H' ⟨rfl, hO⟩ | rintro y H' ⟨rfl, hO⟩
    obtain ⟨ho1, ho2⟩ := hO.hcln
    refine ⟨by simp, ?_⟩
    have fx := fx0
    refine k_run ?_
    clear fx
    refine w_loop (fun n st => ∃ i : Nat, n = p.length - i ∧ i ≤ p.length ∧ st.tm 9 = .hs (.s 9) 1 0 p.length ∧ OwnS st.hp (.s 9) p p.length ∧ st.tm 10 = iv p.length ∧ st.tm 11 = iv i ∧ (List.range i).all (fun b => b == 0 || declsOk p b) = true) p.length ?_ ?_
    · exact ⟨0, by simp, by simp, by simp, ⟨by simp [ho1], fun j k hj hk => by simp [ho2 j k hj hk]⟩, by simp, by simp, by simp⟩
    clear ho1 ho2 hO
    rintro n st - - ⟨i, rfl, hi, h9, ⟨ho1, ho2⟩, h10, h11, hal⟩
    have fx := And.intro h10 <| h11
    refine k_run ?_
    clear fx
    refine w_if (by simp []; first | done | rfl | exact (Bool.not_not _).symm) (fun ht => ?_) (fun hf => ?_)
    · have hlt : i < p.length := by simpa using ht
      obtain ⟨k, hk⟩ : ∃ k, p[i]? = some k := ⟨_, gE hlt⟩
      have hsg := sRows_at (n := .s 9) hlt
      obtain ⟨_, hse⟩ := gS hsg
      clear ht
      all_goals have fx := And.intro h9 <| And.intro ho1 <| And.intro h10 <| And.intro h11 <| And.intro hsg <| And.intro hse <| hlt
      repeat' (first
       | refine w_seq ?_ | refine w_block ?_ | refine w_skip ?_ | refine w_reg fun K hK => ?_
       | ((with_reducible refine s_end hK ?_); clear hK K)
       | (with_reducible first | refine then_normal ?_ | refine in_normal ?_ | refine then_exit ?_ | refine in_exit ?_ | refine then_ret ?_ | refine in_ret ?_ | refine in_other (by decide) ?_)
       | refine w_exit ?_
       | refine w_ret ?_
       | (with_reducible first | refine s_none ?_ | refine x_assign (h := ?_) | refine x_box (h := ?_))
       | ((with_reducible refine o_id 56 rfl ?_); refine x_call (hB := (by first | ((repeat' (first | exact .nil | refine .cons ?_ ?_ | exact .refl _ | exact bw_ints (by simp [fx]; first | done | rfl) (by first | (simp [fx]; done) | (simp [fx]; omega) | omega) | exact bw_list (by simp [fx]; first | done | rfl) (by first | (simp [fx]; done) | (simp [fx]; omega) | omega) (by first | (simp; done) | fail) | exact bw_sc (n := .s 9) (p := p) (k := k) ⟨by simp [ho1], fun j k hj hk => by simp [ho2 j k hj hk]⟩ hh hk)); done) | fail)) (hF := validDeclarations_fn _ p hp i k hk) (h := ?_))
       | (with_reducible refine x_q (h := ?_))
       | refine x_condt (h1 := ?_) | refine x_condf (h1 := ?_)
       | refine x_if (h1 := fun ht => ?_) (h2 := fun ht => ?_)
       | fail)
      all_goals try clear fx
      · refine e_ret [] .nil (by simp; rfl) ?_
        have hd : declsOk p i = false := by simpa using ht
        have hi0 : i ≠ 0 := fun e => by rw [e, declsOk0 hp] at hd; cases hd
        rw [range_false hlt (show (i == 0 || declsOk p i) = false by simp [hd, hi0])]
        rfl
      · have hd : declsOk p i = true := by simpa using ht
        refine ⟨p.length - (i + 1), by omega, i + 1, rfl, by omega, by simp [h9], ⟨by simp [ho1], fun j k hj hk => by simp [ho2 j k hj hk]⟩, by simp [h10], by simp; exact wrp (by omega) (by omega), ?_⟩
        rw [all_range_succ, hal, hd]
        simp
    · have hge : i = p.length := by
        have : ¬ i < p.length := by simpa using hf
        omega
      subst hge
      have fx := fx0
      refine k_run ?_
      clear fx
      refine e_ret [] .nil (by simp []; rfl) (by simp [hal])
end Go.Proofs.YtmaoicgfcngciaaGreatDoor
end
section
namespace Go.Proofs.YtmaoicgfcngciaaGreatDoor
open Go Go.Hm Go.Proofs
attribute [local simp] slcAV
theorem bldPr (w : World) : (Instr.build 24 #[]).run Tryz.prog w = .ok (.agg #[.slice none 0 0]) w := by kernel_rfl
theorem stoPr (b : Nat) (w : World) : (Instr.storeAt 24 (.pointer (some ⟨b, 0, none⟩)) (.agg #[.slice none 0 0])).run Tryz.prog w = (Instr.storeAt 22 (.pointer (some ⟨b, 0, none⟩)) (.slice none 0 0)).run Tryz.prog w := by kernel_rfl
theorem ppD_idle (b1 b2 : Nat) (w : World) : CallsD Tryz.prog 32 #[.pointer (some ⟨b1, 0, none⟩), .pointer (some ⟨b2, 0, none⟩)] .returning w fun e u' w' => e = .returned (.tuple #[]) ∧ u' = .returning ∧ w' = w := by
  refine callsD_of_wpS Tryz.func32 rfl fun c₀ cs hu => ?_
  apply wpS_seq
  apply wpS_region
  simp [wpOpsS, go_sem, recoverD, hu, Tryz.ntmps32, Exit.thenS]
  refine wpS_cond (t := false) (by simp [Go.Act.eval, Array.replicate]) ?_
  simp only [Bool.false_eq_true, if_false]
  refine wpS_of_wp (wp_skip ?_)
  cases c₀
  simp_all [bodyPostS, results, Tryz.results32]
theorem ppD_catch (b1 b2 : Nat) (ty : TypeId) (pv : Value) (w w1 w2 : World) (r1 : (Instr.storeAt 22 (.pointer (some ⟨b1, 0, none⟩)) (.slice none 0 0)).run Tryz.prog w = .ok () w1) (r2 : (Instr.storeAt 4 (.pointer (some ⟨b2, 0, none⟩)) (.bool false)).run Tryz.prog w1 = .ok () w2) :
    CallsD Tryz.prog 32 #[.pointer (some ⟨b1, 0, none⟩), .pointer (some ⟨b2, 0, none⟩)] (.panicking [{ v := .iface ty pv, recovered := false }]) w fun e u' w' => e = .returned (.tuple #[]) ∧ u' = .panicking [{ v := .iface ty pv, recovered := true }] ∧ w' = w2 := by
  rw [← stoPr] at r1
  refine callsD_of_wpS Tryz.func32 rfl fun c₀ cs hu => ?_
  apply wpS_seq
  apply wpS_region
  simp [wpOpsS, go_sem, recoverD, hu, Tryz.ntmps32, Exit.thenS]
  refine wpS_cond (t := true) (by simp [Go.Act.eval, Array.replicate]) ?_
  simp only [if_true]
  apply wpS_region
  show wpOpsS _ _ _ [0, 1, 2] _ _ _
  simp [wpOpsS, Region.wanted, Oper.upon, Go.Act.put, execOp, bldPr, Go.Act.eval, Array.replicate, r1, r2, bodyPostS, results, Tryz.results32]
theorem parse_rd {s : Txt} : parseT s = match rdProg s with | some p => if progOk p = true then some p else none | none => none := by
  rw [← parseTI_eq]
  unfold parseTI rdProg
  split <;> rfl
theorem Got.sml {p : Prg} (h : Got p 1048575) : Sml p :=
  ⟨by have := h.len; omega, fun k hk => by have := h.each k hk; omega, fun k hk => by have := h.each k hk; omega⟩
theorem ParseProgram_fn (gl) {m : Int} (hgm : gl 5 = some [.sc (.int .i64 m)]) (hgs : gl 1 = some ((vtx stmtW).map AV.sc)) (s : Txt) (hs : s.length ≤ 1048576) :
    FnOk Tryz.prog gl 10 [tx s] (fun r y H' => ∃ p, y = .tup [.agg [.hs r 4 0 p.length], bv (parseT s).isSome] ∧ OwnP H' r p ∧ p = (parseT s).getD []) := by
  have hro := readProgram_fn gl hgm hgs s hs
  have hprd := parse_rd (s := s)
  refine FnE.of_door (t := 5) (F := 32) (s1 := 2) (s2 := 3) (T1 := 22) (T2 := 4) (v1 := .slice none 0 0) (v2 := .bool false) (n1 := .s 2) (n2 := .s 3) (o1 := ⟨none, .store 22 (.tmp 2) (.const (.slice none 0 0)), 0, "", #[], none⟩) (o2 := ⟨none, .store 4 (.tmp 3) (.const (.bool false)), 0, "", #[], none⟩) Tryz.func10 rfl (by kernel_rfl) (rs := [.cell 2 24, .cell 3 4]) rfl Tryz.ntmps10 (Nat.le_of_ble_eq_true rfl) (fun _ h => by cases h) ⟨_, Tryz.func32, by kernel_rfl, rfl⟩ rfl rfl rfl rfl ppD_idle ppD_catch fun C w g root hroot a w' hR => ?_
  refine w_pre ?_ hR
  clear hR
  have fx := fx0
  refine k_run ?_
  clear fx
  show ∀ a w, Rw _ _ a w → _
  intro a w' hR
  refine w_defer (ats := #[]) (l1 := [_]) (l2 := []) rfl ?_ ?_ ?_ (by simp) ?_ hR
  · rfl
  · rfl
  · rfl
  clear hR
  have fx := fx0
  refine s_none ?_
  refine x_q (h := ?_)
  clear fx
  show _ ∧ _
  refine ⟨⟨_, _, _, by simp; exact ⟨rfl, rfl, rfl⟩⟩, ?_⟩
  show SemCodeD _ _ _ _ _
  refine wd_seq (wd_region (by simp) fun K hK => ?_)
  have fx := fx0
  refine s_none ?_
  refine x_q (h := ?_)
  clear fx
  refine s_none ?_
  refine x_ownP (ha := by simp; first | done | rfl) (hF := hro) (hE := fun x H' hx hq => ?_) (h := ?_)
  · refine ⟨by simp, by simp, by simp, hx, ?_⟩
    have fx := fx0
    refine k_run ?_
    clear fx
    refine ⟨[(.c (.s 2) 0 0, root)], _, .one rfl, by simp; rfl, [], ?_, ⟨?_, fun j r hj => by simp at hj, fun j r hj => by simp at hj⟩, ?_⟩
    · simp [hprd, hq]
    · simp
    · simp [hprd, hq]
  · rintro y H' ⟨p, hp, rfl, ⟨ho1, ho2, ho3⟩, hG⟩
    rw [hp] at hprd
    have hvp := impl_ValidProgram_fn gl p hG.sml
    have fx := And.intro ho1 ho1
    refine k_run ?_
    clear fx
    refine wd_seq (wd_seq (wd_region (by simp) fun K hK => ?_))
    cases hv : progOk p
    · rw [hv] at hvp
      have fx := And.intro ho1 ho1
      have c1 := hvp
      refine k_run ?_
      clear fx c1
      refine wd_cond (b := true) (by simp; first | done | rfl) (fun _ => ?_) (fun h => by cases h)
      refine wd_seq (wd_region (by simp) fun K hK => ?_)
      have fx := And.intro ho1 ho1
      refine k_run ?_
      clear fx
      refine wd_ret ?_
      refine then_ret ?_
      refine ⟨by simp, [(.c (.s 2) 0 0, root)], _, .one rfl, by simp; rfl, [], ?_, ⟨?_, fun j r hj => by simp at hj, fun j r hj => by simp at hj⟩, ?_⟩
      · simp [hprd, hv]
      · simp
      · simp [hprd, hv]
    · rw [hv] at hvp
      have fx := And.intro ho1 ho1
      have c1 := hvp
      refine k_run ?_
      clear fx c1
      refine wd_cond (b := false) (by simp; first | done | rfl) (fun h => by cases h) (fun _ => ?_)
      refine wd_skip ?_
      have fx := And.intro ho1 ho1
      refine then_normal ?_
      refine wd_seq (wd_region (by simp) fun K hK => ?_)
      refine k_run ?_
      clear fx
      refine wd_ret ?_
      refine ⟨by simp, [(.c (.s 4) 0 0, root)], _, .one rfl, by simp; rfl, p, ?_, ⟨?_, fun j r hj => ?_, fun j r hj => ?_⟩, ?_⟩
      · simp [hprd, hv]
      · simp [ho1, pRows_tr (n := .c (.s 4) 0 0) (m := root) (f := finf noD [(.c (.s 4) 0 0, root)]) (p := p) (by simp)]
      · simp [ho2 j r hj]
      · simp [ho3 j r hj]
      · simp [hprd, hv]
end Go.Proofs.YtmaoicgfcngciaaGreatDoor
end
section
namespace Go.Proofs.YtmaoicgfcngciaaGreatDoor
open Go Go.Hm Go.Proofs
theorem stmtNumbers_fn (gl) (s : Stm) : FnOk Tryz.prog gl 52 [Stm.av s] (fun r y H' => y = .hs r 1 0 (numsOf s).length ∧ H' r = some (.row 1 (irows (numsOf s)))) := by
  refine FnOk.of_sem Tryz.func52 rfl (by kernel_rfl) (rs := [.tmp 2]) rfl Tryz.ntmps52 (Nat.le_of_ble_eq_true rfl) fun C w g root => ?_
  obtain ⟨kind, to, a, b⟩ := s
  all_goals have fx := fx0
  repeat' (first
   | refine w_seq ?_ | refine w_block ?_ | refine w_skip ?_ | refine w_reg fun K hK => ?_
   | ((with_reducible refine s_end hK ?_); clear hK K)
   | (with_reducible first | refine then_normal ?_ | refine in_normal ?_ | refine then_ret ?_ | refine in_ret ?_)
   | refine w_ret ?_
   | (with_reducible first | refine s_none ?_ | refine x_assign (h := ?_) | refine x_box (h := ?_) | refine x_build (h := ?_))
   | (with_reducible refine x_q (h := ?_))
   | refine x_condt (h1 := ?_) | refine x_condf (h1 := ?_)
   | refine x_if (h1 := fun ht => ?_) (h2 := fun ht => ?_)
   | fail)
  all_goals try clear fx
  all_goals refine e_list (t := 2) ?_ ?_ ?_
  all_goals simp_all [numsOf, irows]
theorem lineOfWords_fn (gl) (v : Txt) (ns : List Int) (a : AV) (ha : a = isl ns ∨ (a = .sc (.slice none 0 0) ∧ ns = [])) (hv : v ≠ []) (hvl : v.length ≤ 100) (hns : Small ns) (hnl : ns.length ≤ 10) : FnOk Tryz.prog gl 47 [tx v, a] (fun _ y _ => y = tx (wordsL v ns ++ [10])) := by
  refine FnOk.of_sem Tryz.func47 rfl (by kernel_rfl) (rs := [.tmp 4]) rfl Tryz.ntmps47 (Nat.le_of_ble_eq_true rfl) fun C w g root => ?_
  rcases ha with rfl | ⟨rfl, rfl⟩
  all_goals
    have fx :=  hv
    have b1 := bld_zv
    refine k_runp ?_
    clear fx b1
    intro K hK
    have fx := hv
    refine x_wstr 5 lay166 layB rfl rfl (.inl ⟨rfl, by simp⟩) (hs := hv) (hlen := by simp; omega) (h := ?_)
    clear fx
    rintro st' - hg htm hhp e1 e2
    have h5 : st'.tm 5 = .pt (.s 5) 0 := by simp [htm]
    have h1 := htm 1
    simp at h1
    simp only [lib_b, lib_u, List.length_nil, Nat.zero_add, List.nil_append] at e1 e2
    clear htm hhp
    have fx := And.intro h5 <| h1
    refine k_run ?_
    clear fx
  case' inl => refine w_loop (fun n st => ∃ i : Nat, n = ns.length - i ∧ i ≤ ns.length ∧ st.tm 5 = .pt (.s 5) 0 ∧ st.tm 10 = isl ns ∧ st.tm 11 = iv ns.length ∧ st.tm 12 = iv i ∧ st.hp (.s 5) = some (.trow 73 2 true [[.pt (.s 5) 0, .hs (.c (.s 5) 0 1) 1 0 (wordsL v (ns.take i)).length]]) ∧ st.hp (.c (.s 5) 0 1) = some (.trow 5 1 false (byrows (wordsL v (ns.take i))))) ns.length ?_ ?_
  case' inr => refine w_loop (fun n st => ∃ i : Nat, n = ([] : List Int).length - i ∧ i ≤ ([] : List Int).length ∧ st.tm 5 = .pt (.s 5) 0 ∧ st.tm 11 = iv ([] : List Int).length ∧ st.tm 12 = iv i ∧ st.hp (.s 5) = some (.trow 73 2 true [[.pt (.s 5) 0, .hs (.c (.s 5) 0 1) 1 0 (wordsL v []).length]]) ∧ st.hp (.c (.s 5) 0 1) = some (.trow 5 1 false (byrows (wordsL v [])))) 0 ?_ ?_
  · refine ⟨0, by simp, by simp, by simp [h5], ?_, by simp, by simp [e1, wordsL], by simp [e2, wordsL]⟩
    simp
  · clear h5 h1 e1 e2
    rintro n st - - ⟨i, rfl, hi, h5, h11, h12, e1, e2⟩
    obtain rfl : i = 0 := by simpa using hi
    have hvw := wordsL_ge (w := v) (ns := [])
    have hwl2 := wordsL_len (w := v) (ns := []) hns
    have hne : wordsL v [] ≠ [] := fun e => by rw [e] at hvw; simp at hvw; exact hv hvw
    simp at h11 h12 hwl2
    have fx := And.intro h5 <| And.intro h11 <| h12
    refine k_run ?_
    clear fx
    intro K hK
    have fx := And.intro h5 h5
    refine x_wstr 5 lay166 layB rfl rfl (.inr ⟨hne, by simp [e1], by simp [e2]⟩) (hlen := by simp; omega) (h := ?_)
    clear fx
    rintro st' - hg htm hhp f1 f2
    have g5 : st'.tm 5 = .pt (.s 5) 0 := by simp [htm, h5]
    simp only [lib_b, lib_u] at f1 f2
    clear htm hhp
    have fx :=  g5
    refine k_run ?_
    clear fx
    intro K hK
    have fx := And.intro g5 g5
    refine x_str (l := wordsL v [] ++ [10]) 5 lay169 layB rfl rfl (.inr ⟨by simp, by simp [f1], by simp [f2]⟩) (h := ?_)
    clear fx
    have fx := fx0
    refine k_run ?_
    clear fx
    refine e_ret [] .nil (by simp; rfl) (by simp)
  · exact ⟨0, by omega, by omega, by simp [h5], by simp [h1], by simp [h1], by simp, by simp [e1, wordsL], by simp [e2, wordsL]⟩
  · clear h5 h1 e1 e2
    rintro n st - - ⟨i, rfl, hi, h5, h10, h11, h12, e1, e2⟩
    have hvw := wordsL_ge (w := v) (ns := ns.take i)
    have hv0 : 0 < v.length := List.length_pos_iff.2 hv
    have hwl2 := wordsL_len (w := v) (small_take (i := i) hns)
    rw [List.length_take] at hwl2
    have hne : wordsL v (ns.take i) ≠ [] := fun e => by rw [e] at hvw; simp at hvw; exact hv hvw
    by_cases hil : i < ns.length
    · obtain ⟨x, hx⟩ : ∃ x, ns[i]? = some x := ⟨_, gE hil⟩
      obtain ⟨_, hxE⟩ := gS hx
      have hxs := hns x (List.mem_of_getElem? hx)
      have hxl := numI_len hxs
      have hl1 : ∀ c, 2000000000 ≤ c → 1 + (numI x).length ≤ c := fun c hc => by omega
      have fx := And.intro h5 <| And.intro h10 <| And.intro h11 <| And.intro h12 <| And.intro hil <| And.intro hx <| And.intro hxE <| hl1
      have c1 := itoa_at gl x hxs
      refine k_run ?_
      clear fx c1
      intro K hK
      have fx := And.intro h5 h5
      refine x_wstr 5 lay166 layB rfl rfl (.inr ⟨hne, by simp [e1], by simp [e2]⟩) (hlen := by simp; omega) (h := ?_)
      clear fx
      rintro st' - hg htm hhp f1 f2
      have g5 : st'.tm 5 = .pt (.s 5) 0 := by simp [htm, h5]
      have g10 := htm 10
      have g11 := htm 11
      have g12 := htm 12
      simp [h10, h11, h12] at g10 g11 g12
      simp only [lib_b, lib_u] at f1 f2
      clear htm hhp
      have fx := And.intro g5 <| And.intro g10 <| And.intro g11 <| g12
      refine k_run ?_
      clear fx
      refine ⟨ns.length - (i + 1), by omega, i + 1, rfl, by omega, by simp [g5], by simp [g10], by simp [g11], by simp; exact wrp (by omega) (by omega), by simp [f1, wordsL_take hx], by simp [f2, wordsL_take hx]⟩
    · obtain rfl : i = ns.length := by omega
      rw [List.take_length] at e1 e2 hne hwl2
      have fx := And.intro h5 <| And.intro h10 <| And.intro h11 <| And.intro h12 <| hil
      refine k_run ?_
      clear fx
      intro K hK
      have fx := And.intro h5 h5
      refine x_wstr 5 lay166 layB rfl rfl (.inr ⟨hne, by simp [e1], by simp [e2]⟩) (hlen := by simp; omega) (h := ?_)
      clear fx
      rintro st' - hg htm hhp f1 f2
      have g5 : st'.tm 5 = .pt (.s 5) 0 := by simp [htm, h5]
      simp only [lib_b, lib_u] at f1 f2
      clear htm hhp
      have fx :=  g5
      refine k_run ?_
      clear fx
      intro K hK
      have fx := And.intro g5 g5
      refine x_str (l := wordsL v ns ++ [10]) 5 lay169 layB rfl rfl (.inr ⟨by simp, by simp [f1], by simp [f2]⟩) (h := ?_)
      clear fx
      have fx := fx0
      refine k_run ?_
      clear fx
      refine e_ret [] .nil (by simp; rfl) (by simp)
theorem headLine_fn (gl) (k : Blk) (hk : TxtH k) (hp1 : k.params.length ≤ 1) : FnOk Tryz.prog gl 51 [Blk.av k] (fun _ y _ => y = tx (showH k ++ [10])) := by
  have hpar := hk.parent
  have hpl := numI_len hpar
  have hl1 : ∀ c, 2000000000 ≤ c → (numI k.parent).length ≤ c := fun c hc => by omega
  have hl3 : ∀ c, 2000000000 ≤ c → 3 + (numI k.parent).length ≤ c := fun c hc => by omega
  refine FnOk.of_sem Tryz.func51 rfl (by kernel_rfl) (rs := [.tmp 2]) rfl Tryz.ntmps51 (Nat.le_of_ble_eq_true rfl) fun C w g root => ?_
  by_cases h2 : k.kind = 2
  · have hb : (k.kind == 2) = true := by simpa using h2
    have hq := lineOfWords_fn gl (wordsL tIn [k.parent] ++ 32 :: tClass) [] (.sc (.slice none 0 0)) (.inr ⟨rfl, rfl⟩) (by simp) (by simp [wordsL, tIn, tClass]; omega) (fun _ h => by cases h) (by simp)
    have he : tx (wordsL tIn [k.parent] ++ 32 :: tClass) = tx (105 :: 110 :: 32 :: (numI k.parent ++ [32, 99, 108, 97, 115, 115])) := by simp [wordsL, tIn, tClass]
    rw [he] at hq
    have fx := And.intro hb <| And.intro hl1 <| hl3
    have c1 := itoa_at gl k.parent hpar
    have c2 := hq
    refine k_run ?_
    clear fx c1 c2
    refine e_ret [] .nil (by simp; rfl) ?_
    simp [showH, h2, wordsL, tIn, tClass]
  · have hb : (k.kind == 2) = false := by simpa using h2
    have hq := lineOfWords_fn gl (wordsL tIn [k.parent] ++ 32 :: tFun) k.params (isl k.params) (.inl rfl) (by simp) (by simp [wordsL, tIn, tFun]; omega) hk.params (by omega)
    have he : tx (wordsL tIn [k.parent] ++ 32 :: tFun) = tx (105 :: 110 :: 32 :: (numI k.parent ++ [32, 102, 117, 110])) := by simp [wordsL, tIn, tFun]
    rw [he] at hq
    have fx := And.intro hb <| And.intro hl1 <| hl3
    have c1 := itoa_at gl k.parent hpar
    have c2 := hq
    refine k_run ?_
    clear fx c1 c2
    refine e_ret [] .nil (by simp; rfl) ?_
    simp [showH, h2]
end Go.Proofs.YtmaoicgfcngciaaGreatDoor
end
section
namespace Go.Proofs.YtmaoicgfcngciaaGreatDoor
open Go Go.Hm Go.Proofs
abbrev qsTa0 : Sch := .q 0 <| .q 1 <| .q 2 <| .q 3 <| .q 4 <| .q 5 <| .q 6 <| .q 7 <| .q 8 <| .done
theorem equalInts_fn (gl) (xs ys : List Int) (hx : xs.length ≤ 1048576) (hy : ys.length ≤ 1048576) : FnOk Tryz.prog gl 57 [isl xs, isl ys] (fun _ z _ => z = bv (decide (xs = ys))) := by
  refine FnOk.of_sem Tryz.func57 rfl (by kernel_rfl) (rs := [.tmp 4]) rfl Tryz.ntmps57 (Nat.le_of_ble_eq_true rfl) fun C w g root => ?_
  by_cases hl : xs.length = ys.length
  case neg =>
    have h1 : ((xs.length : Int) == ys.length) = false := by simp; omega
    have fx := And.intro h1 <| @bne_def
    refine k_run ?_
    repeat ((first | refine wSc (id := 6) qsTa0 mixed ?_); refine k_rund ?_; refine k_run ?_)
    clear fx
    refine e_ret [] .nil (by simp; rfl) ?_
    have : ¬ xs = ys := fun e => hl (by rw [e])
    simp [this]
  have fx := And.intro hl <| @bne_def
  refine k_run ?_
  repeat ((first | refine wSc (id := 6) qsTa0 mixed ?_); refine k_rund ?_; refine k_run ?_)
  clear fx
  refine w_loop (fun n st => ∃ i : Nat, n = xs.length - i ∧ i ≤ xs.length ∧ st.tm 0 = isl xs ∧ st.tm 1 = isl ys ∧ st.tm 5 = iv i ∧ xs.take i = ys.take i) xs.length ?_ ?_
  · exact ⟨0, by simp⟩
  rintro n st - - ⟨i, rfl, hi, h0, h1, h5, heq⟩
  have fx := And.intro h0 <| h5
  refine k_run ?_
  repeat ((first | refine wSc (id := 6) qsTa0 mixed ?_); refine k_rund ?_; refine k_run ?_)
  clear fx
  refine w_if (by simp []; first | done | rfl | exact (Bool.not_not _).symm) (fun ht => ?_) (fun hf => ?_)
  · have hlt : i < xs.length := by simpa using ht
    obtain ⟨x, hxi⟩ : ∃ x, xs[i]? = some x := ⟨_, gE (by omega)⟩
    obtain ⟨y, hyi⟩ : ∃ y, ys[i]? = some y := ⟨_, gE (by omega)⟩
    clear ht
    all_goals have fx := And.intro h0 <| And.intro h1 <| And.intro h5 <| And.intro hxi <| And.intro hyi <| @bne_def
    repeat' (first
     | refine w_seq ?_ | refine w_block ?_ | refine w_skip ?_ | refine w_reg fun K hK => ?_
     | ((with_reducible refine s_end hK ?_); clear hK K)
     | (with_reducible first | refine then_normal ?_ | refine in_normal ?_ | refine then_exit ?_ | refine in_exit ?_ | refine then_ret ?_ | refine in_ret ?_ | refine s_nil ?_ | refine in_other (by decide) ?_)
     | refine w_exit ?_
     | refine w_ret ?_
     | (with_reducible first | refine s_none ?_ | refine x_assign (h := ?_))
     | (with_reducible refine x_q (h := ?_))
     | refine x_condt (h1 := ?_) | refine x_condf (h1 := ?_)
     | (refine wSc (id := 6) qsTa0 mixed fun K hK => ?_)
     | ((with_reducible refine a_end hK ?_); clear hK K)
     | ((with_reducible refine a_id ?_); first | refine xa_q (h := ?_) | refine xa_qt (h := ?_) | refine xa_qf (h := ?_) | refine xa_qu (h := ?_))
     | ((with_reducible refine a_id ?_); refine xa_gq (h1 := fun ht => ?_) (h2 := fun ht => ?_))
     | refine a_l rfl ?_ | refine a_l2 ?_ ?_ | (with_reducible refine And.intro ?_ ?_) | exact st_nil | refine xa_st (h2 := ?_)
     | refine x_if (h1 := fun ht => ?_) (h2 := fun ht => ?_)
     | fail)
    all_goals try clear fx
    all_goals first
      | (refine e_ret [] .nil (by simp; rfl) ?_
         have hne : ¬ xs = ys := fun e => by rw [e, hyi] at hxi; obtain rfl := Option.some.inj hxi; simp at ht
         simp [hne])
      | (have hxy : x = y := by simpa using ht
         refine ⟨xs.length - (i + 1), by omega, i + 1, rfl, by omega, by simp [h0], by simp [h1], by simp; exact wrp (by omega) (by omega), ?_⟩
         rw [List.take_add_one, List.take_add_one, heq, hxi, hyi, hxy])
  · have hge : i = xs.length := by
      have : ¬ i < xs.length := by simpa using hf
      omega
    have : xs = ys := by rw [hge, List.take_length, hl, List.take_length] at heq; exact heq
    have fx := fx0
    refine k_run ?_
    repeat ((first | refine wSc (id := 6) qsTa0 mixed ?_); refine k_rund ?_; refine k_run ?_)
    clear fx
    refine e_ret [] .nil (by simp []; rfl) (by simp [this])
theorem equalStmts_fn (gl) (xs ys : List Stm) (hx : xs.length ≤ 1048576) (hy : ys.length ≤ 1048576) : FnOk Tryz.prog gl 58 [ssl xs, ssl ys] (fun _ z _ => z = bv (decide (xs = ys))) := by
  refine FnOk.of_sem Tryz.func58 rfl (by kernel_rfl) (rs := [.tmp 4]) rfl Tryz.ntmps58 (Nat.le_of_ble_eq_true rfl) fun C w g root => ?_
  by_cases hl : xs.length = ys.length
  case neg =>
    have h1 : ((xs.length : Int) == ys.length) = false := by simp; omega
    have fx := And.intro h1 <| @bne_def
    refine k_run ?_
    repeat ((first | refine wSc (id := 6) qsTa0 mixed ?_); refine k_rund ?_; refine k_run ?_)
    clear fx
    refine e_ret [] .nil (by simp; rfl) ?_
    have : ¬ xs = ys := fun e => hl (by rw [e])
    simp [this]
  have fx := And.intro hl <| @bne_def
  refine k_run ?_
  repeat ((first | refine wSc (id := 6) qsTa0 mixed ?_); refine k_rund ?_; refine k_run ?_)
  clear fx
  refine w_loop (fun n st => ∃ i : Nat, n = xs.length - i ∧ i ≤ xs.length ∧ st.tm 0 = ssl xs ∧ st.tm 1 = ssl ys ∧ st.tm 5 = iv i ∧ xs.take i = ys.take i) xs.length ?_ ?_
  · exact ⟨0, by simp⟩
  rintro n st - - ⟨i, rfl, hi, h0, h1, h5, heq⟩
  have fx := And.intro h0 <| h5
  refine k_run ?_
  repeat ((first | refine wSc (id := 6) qsTa0 mixed ?_); refine k_rund ?_; refine k_run ?_)
  clear fx
  refine w_if (by simp []; first | done | rfl | exact (Bool.not_not _).symm) (fun ht => ?_) (fun hf => ?_)
  · have hlt : i < xs.length := by simpa using ht
    obtain ⟨x, hxi⟩ : ∃ x, xs[i]? = some x := ⟨_, gE (by omega)⟩
    obtain ⟨y, hyi⟩ : ∃ y, ys[i]? = some y := ⟨_, gE (by omega)⟩
    clear ht
    all_goals have fx := And.intro h0 <| And.intro h1 <| And.intro h5 <| And.intro hxi <| hyi
    repeat' (first
     | refine w_seq ?_ | refine w_block ?_ | refine w_skip ?_ | refine w_reg fun K hK => ?_
     | ((with_reducible refine s_end hK ?_); clear hK K)
     | (with_reducible first | refine then_normal ?_ | refine in_normal ?_ | refine then_exit ?_ | refine in_exit ?_ | refine then_ret ?_ | refine in_ret ?_ | refine s_nil ?_ | refine in_other (by decide) ?_)
     | refine w_exit ?_
     | refine w_ret ?_
     | (with_reducible first | refine s_none ?_ | refine x_assign (h := ?_))
     | ((with_reducible refine o_id 171 rfl ?_); refine x_call (hF := eqStmt_fn _ x y) (h := ?_))
     | (with_reducible refine x_q (h := ?_))
     | refine x_condt (h1 := ?_) | refine x_condf (h1 := ?_)
     | (refine wSc (id := 6) qsTa0 mixed fun K hK => ?_)
     | ((with_reducible refine a_end hK ?_); clear hK K)
     | ((with_reducible refine a_id ?_); first | refine xa_q (h := ?_) | refine xa_qt (h := ?_) | refine xa_qf (h := ?_) | refine xa_qu (h := ?_))
     | ((with_reducible refine a_id ?_); refine xa_gq (h1 := fun ht => ?_) (h2 := fun ht => ?_))
     | refine a_l rfl ?_ | refine a_l2 ?_ ?_ | (with_reducible refine And.intro ?_ ?_) | exact st_nil | refine xa_st (h2 := ?_)
     | refine x_if (h1 := fun ht => ?_) (h2 := fun ht => ?_)
     | fail)
    all_goals try clear fx
    all_goals first
      | (refine e_ret [] .nil (by simp; rfl) ?_
         have hne : ¬ xs = ys := fun e => by rw [e, hyi] at hxi; obtain rfl := Option.some.inj hxi; simp at ht
         simp [hne])
      | (have hxy : x = y := by cases x; cases y; simpa using ht
         refine ⟨xs.length - (i + 1), by omega, i + 1, rfl, by omega, by simp [h0], by simp [h1], by simp; exact wrp (by omega) (by omega), ?_⟩
         rw [List.take_add_one, List.take_add_one, heq, hxi, hyi, hxy])
  · have hge : i = xs.length := by
      have : ¬ i < xs.length := by simpa using hf
      omega
    have : xs = ys := by rw [hge, List.take_length, hl, List.take_length] at heq; exact heq
    have fx := fx0
    refine k_run ?_
    repeat ((first | refine wSc (id := 6) qsTa0 mixed ?_); refine k_rund ?_; refine k_run ?_)
    clear fx
    refine e_ret [] .nil (by simp []; rfl) (by simp [this])
theorem equalProgram_fn (gl) (xs ys : Prg) (hx : Sml xs) (hy : Sml ys) : FnOk Tryz.prog gl 22 [pav xs, pav ys] (fun _ z _ => z = bv (decide (xs = ys))) := by
  have hxl := hx.len
  have hyl := hy.len
  refine FnOk.of_sem Tryz.func22 rfl (by kernel_rfl) (rs := [.tmp 4]) rfl Tryz.ntmps22 (Nat.le_of_ble_eq_true rfl) fun C w g root => ?_
  by_cases hl : xs.length = ys.length
  case neg =>
    have h1 : ((xs.length : Int) == ys.length) = false := by simp; omega
    have fx := And.intro h1 <| @bne_def
    refine k_run ?_
    clear fx
    refine e_ret [] .nil (by simp; rfl) ?_
    have : ¬ xs = ys := fun e => hl (by rw [e])
    simp [this]
  have fx := And.intro hl <| @bne_def
  refine k_run ?_
  clear fx
  refine w_loop (fun n st => ∃ i : Nat, n = xs.length - i ∧ i ≤ xs.length ∧ st.tm 2 = .pt (.s 2) 0 ∧ st.hp (.s 2) = some (.row 1 [[ksl xs]]) ∧ st.tm 3 = .pt (.s 3) 0 ∧ st.hp (.s 3) = some (.row 1 [[ksl ys]]) ∧ st.tm 5 = iv i ∧ xs.take i = ys.take i) xs.length ?_ ?_
  · exact ⟨0, by simp⟩
  rintro n st - - ⟨i, rfl, hi, h2, hp2, h3, hp3, h5, heq⟩
  have fx := And.intro h2 <| And.intro hp2 <| h5
  refine k_run ?_
  clear fx
  refine w_if (by simp []; first | done | rfl | exact (Bool.not_not _).symm) (fun ht => ?_) (fun hf => ?_)
  · have hlt : i < xs.length := by simpa using ht
    obtain ⟨x, hxi⟩ : ∃ x, xs[i]? = some x := ⟨_, gE (by omega)⟩
    obtain ⟨y, hyi⟩ : ∃ y, ys[i]? = some y := ⟨_, gE (by omega)⟩
    obtain ⟨hxl', hxE⟩ := gS hxi
    obtain ⟨hyl', hyE⟩ := gS hyi
    have hne : ∀ (P : Prop), ¬ P → (x = y → P) → decide (xs = ys) = false := fun P hP h => decide_eq_false fun e => hP (h (by rw [e, hyi] at hxi; exact (Option.some.inj hxi).symm))
    have h1 := equalInts_fn gl x.params y.params (hx.bsm hxi).params (hy.bsm hyi).params
    have h2' := equalStmts_fn gl x.body y.body (hx.bsm hxi).body (hy.bsm hyi).body
    clear ht
    cases hk : (x.kind == y.kind)
    · skip
      have fx := And.intro h2 <| And.intro hp2 <| And.intro h3 <| And.intro hp3 <| And.intro h5 <| And.intro hxi <| And.intro hyi <| And.intro hxE <| And.intro hyE <| And.intro hxl' <| And.intro hyl' <| And.intro hk <| @bne_def
      refine k_run ?_
      clear fx
      refine e_ret [] .nil (by simp; rfl) ?_
      rw [hne (x.kind = y.kind) (by simpa using hk) (fun e => by rw [e])]
      rfl
    cases hpa : (x.parent == y.parent)
    · skip
      have fx := And.intro h2 <| And.intro hp2 <| And.intro h3 <| And.intro hp3 <| And.intro h5 <| And.intro hxi <| And.intro hyi <| And.intro hxE <| And.intro hyE <| And.intro hxl' <| And.intro hyl' <| And.intro hk <| And.intro hpa <| @bne_def
      refine k_run ?_
      clear fx
      refine e_ret [] .nil (by simp; rfl) ?_
      rw [hne (x.parent = y.parent) (by simpa using hpa) (fun e => by rw [e])]
      rfl
    cases hps : decide (x.params = y.params)
    · skip
      have fx := And.intro h2 <| And.intro hp2 <| And.intro h3 <| And.intro hp3 <| And.intro h5 <| And.intro hxi <| And.intro hyi <| And.intro hxE <| And.intro hyE <| And.intro hxl' <| And.intro hyl' <| And.intro hk <| And.intro hpa <| And.intro hps <| @bne_def
      have c1 := h1
      refine k_run ?_
      clear fx c1
      refine e_ret [] .nil (by simp; rfl) ?_
      rw [hne (x.params = y.params) (by simpa using hps) (fun e => by rw [e])]
      rfl
    cases hbo : decide (x.body = y.body)
    · skip
      have fx := And.intro h2 <| And.intro hp2 <| And.intro h3 <| And.intro hp3 <| And.intro h5 <| And.intro hxi <| And.intro hyi <| And.intro hxE <| And.intro hyE <| And.intro hxl' <| And.intro hyl' <| And.intro hk <| And.intro hpa <| And.intro hps <| And.intro hbo <| @bne_def
      have c1 := h1
      have c2 := h2'
      refine k_run ?_
      clear fx c1 c2
      refine e_ret [] .nil (by simp; rfl) ?_
      rw [hne (x.body = y.body) (by simpa using hbo) (fun e => by rw [e])]
      rfl
    have hxy : x = y := by
      obtain ⟨a, b, c, d⟩ := x
      obtain ⟨a', b', c', d'⟩ := y
      simp at hk hpa hps hbo
      simp [hk, hpa, hps, hbo]
    have fx := And.intro h2 <| And.intro hp2 <| And.intro h3 <| And.intro hp3 <| And.intro h5 <| And.intro hxi <| And.intro hyi <| And.intro hxE <| And.intro hyE <| And.intro hxl' <| And.intro hyl' <| And.intro hk <| And.intro hpa <| And.intro hps <| And.intro hbo <| @bne_def
    have c1 := h1
    have c2 := h2'
    refine k_run ?_
    clear fx c1 c2
    refine ⟨xs.length - (i + 1), by omega, i + 1, rfl, by omega, by simp [h2], by simp [hp2], by simp [h3], by simp [hp3], by simp; exact wrp (by omega) (by omega), ?_⟩
    rw [List.take_add_one, List.take_add_one, heq, hxi, hyi, hxy]
  · have hge : i = xs.length := by
      have : ¬ i < xs.length := by simpa using hf
      omega
    have : xs = ys := by rw [hge, List.take_length, hl, List.take_length] at heq; exact heq
    have fx := fx0
    refine k_run ?_
    clear fx
    refine e_ret [] .nil (by simp []; rfl) (by simp [this])
end Go.Proofs.YtmaoicgfcngciaaGreatDoor
end
section
namespace Go.Proofs.YtmaoicgfcngciaaGreatDoor
open Go Go.Hm Go.Proofs
end Go.Proofs.YtmaoicgfcngciaaGreatDoor
end
section
namespace Go.Proofs.YtmaoicgfcngciaaGreatDoor
open Go Go.Hm Go.Proofs
end Go.Proofs.YtmaoicgfcngciaaGreatDoor
end
section
namespace Go.Proofs.YtmaoicgfcngciaaGreatDoor
open Go Go.Hm Go.Proofs
end Go.Proofs.YtmaoicgfcngciaaGreatDoor
end
section
namespace Go.Proofs.YtmaoicgfcngciaaGreatDoor
open Go Go.Hm Go.Proofs
end Go.Proofs.YtmaoicgfcngciaaGreatDoor
end
section
namespace Go.Proofs.YtmaoicgfcngciaaGreatDoor
open Go Go.Hm Go.Proofs
end Go.Proofs.YtmaoicgfcngciaaGreatDoor
end
section
namespace Go.Proofs.YtmaoicgfcngciaaGreatDoor
open Go Go.Hm Go.Proofs
end Go.Proofs.YtmaoicgfcngciaaGreatDoor
end
section
namespace Go.Proofs.YtmaoicgfcngciaaGreatDoor
open Go Go.Hm Go.Proofs
attribute [local simp] slcAV rowsIn
end Go.Proofs.YtmaoicgfcngciaaGreatDoor
end
