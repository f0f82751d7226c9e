/-
  Own texts, joined by mkclaim.py: Hm97, Hm98, Hm107, Hm108.
-/
import Derived.Test.YtcbkblboonkfhaaGreatX15
import Derived.Shelf.SlIterI.Nil
import Derived.Test.YtcbkblboonkfhaaGreatX14
set_option linter.unusedSimpArgs false
set_option linter.unusedVariables false
set_option maxRecDepth 100000
set_option maxHeartbeats 4000000

section
namespace Go.Hm
open Go Go.RowKit Go.Proofs Go.Maps
def soSt (d : Nat) (l : List Int) (st : St) : St := ((st.kill (.s d)).setO (.s d) (.row 1 (irows l))).put (some d) (.hs (.s d) 1 0 l.length)
def SortedKeys (P : Program) (fs fk : Nat) (kt : TypeId) : Prop := ∀ (Bm b nn : Nat) (D0 : DataW Unit) (R : Value → Option (DataW Unit × List MemPlace)) (w : World), Bm < w.heap.size → w.cell? ⟨Bm, 0, none⟩ = some (.map (some b)) → w.ownsMap P kt R b nn D0 → Maps.size D0 ≤ maxLen → Maps.size D0 * 8 ≤ 140737488355328 →
  Calls P fs #[.func (.func fk) #[] #[.pointer (some ⟨Bm, 0, none⟩)]] w fun e w' => ∃ (v : Value) (ss : List Int), e = .returned v ∧ ss.Perm (intKeys D0) ∧
    w'.ownsRow w.heap.size kt 1 v ss.length ((ss.mergeSort (fun x y => decide (x ≤ y))).map encZ) ∧ (v = .slice none 0 0 ↔ ss = []) ∧ Below w.heap.size w w'
theorem mergeSort_eq {ss l : List Int} (hp : ss.Perm l) (hs : l.Pairwise (· < ·)) : ss.mergeSort (fun x y => decide (x ≤ y)) = l := by
  have h1 : (ss.mergeSort (fun x y => decide (x ≤ y))).Pairwise (fun x y => decide (x ≤ y) = true) := List.pairwise_mergeSort (fun a b c h1 h2 => by simp at *; omega) (fun a b => by simp; omega) ss
  refine List.Perm.eq_of_pairwise (le := fun x y => x ≤ y) (fun a b _ _ h1 h2 => by omega) (h1.imp fun h => by simpa using h) (hs.imp fun h => by omega) ((List.mergeSort_perm ss _).trans hp)
theorem small_wf {x : Int} (h : 0 ≤ x ∧ x ≤ 7) : (Lit.int .i64 x).wf = true := by
  obtain ⟨n, rfl⟩ : ∃ n : Nat, x = n := ⟨x.toNat, by omega⟩
  have : n < 8 := by omega
  match n, this with
  | 0, _ | 1, _ | 2, _ | 3, _ | 4, _ | 5, _ | 6, _ | 7, _ => decide
section
variable {X : Ctx} {C : Nat → Prop} {g : Gh} {a : Go.Act} {w : World} {st : St} {K : St → Prop} {E : AV → St → Prop} {ty : TypeId} {pos : String} {aft : Array Edge} {gd : Option (Nat × Bool)} {d : Nat} {args : Array Operand} {Ts : Array TypeId} {n N : Nm} {gs : Int → Slt} {l : List Int} {st' : St} {fs fk : Nat} {kt : TypeId}
theorem map_owned {P : Program} {b : Nat} (hk : P.underlying kt = some (.int .i64)) (h : MapAt g w b (grows gs l)) (h8 : l.length ≤ 8) (hr : ∀ x ∈ l, 0 ≤ x ∧ x ≤ 7) : ∃ D0 : DataW Unit, w.ownsMap P kt (fun _ => some (.lit (.bool false), [])) b l.length D0 ∧ (intKeys D0).Perm l ∧ Maps.size D0 ≤ 8 := by
  obtain ⟨ms, clock, m1, mst, mlen, mr⟩ := h
  simp only [grows_len] at mlen
  have key : ∀ (i : Nat) m, ms[i]? = some m → ∃ x, l[i]? = some x ∧ m.key = .int .i64 x := by
    intro i m hi
    have hl := (gS hi).1
    obtain ⟨x, hx⟩ : ∃ x, l[i]? = some x := ⟨_, gE (by omega)⟩
    refine ⟨x, hx, ?_⟩
    have := (mr i m (iv x, .agg (slotC (gs x))) hi (by simp [grows, hx])).1
    exact this.sc_eq
  have rdk : ∀ (i : Nat) m, ms[i]? = some m → ∃ x, l[i]? = some x ∧ WideElems.rd (H := Unit) P kt (fun _ => some (.lit (.bool false), [])) m = some (.int .i64 x, .lit (.bool false)) := by
    intro i m hi
    obtain ⟨x, hx, e⟩ := key i m hi
    refine ⟨x, hx, ?_⟩
    simp [WideElems.rd, e, keyOf_int_mk hk (small_wf (hr x (List.mem_of_getElem? hx)))]
  refine ⟨_, ⟨ms.toArray, clock, m1, ⟨?_, mst, ?_⟩, by simp; omega, rfl⟩, ?_, ?_⟩
  · simp only [List.size_toArray]
    have : (8 : Nat) ≤ maxLen := by decide
    omega
  · intro m hm
    obtain ⟨i, hi⟩ := List.getElem?_of_mem (by simpa using hm)
    obtain ⟨x, _, e⟩ := rdk i m hi
    exact ⟨_, e⟩
  · simp only [intKeys]
    refine ((WideShapes.sorted_perm _).map _).trans ?_
    have : List.map (fun p : Lit × DataW Unit => intOf p.1) (List.map (WideElems.rg P kt fun _ => some (.lit (.bool false), [])) ms) = l := by
      apply List.ext_getElem?
      intro i
      simp only [List.getElem?_map]
      cases hi : ms[i]? with
      | none =>
        have := List.getElem?_eq_none_iff.1 hi
        rw [List.getElem?_eq_none (by omega)]
        rfl
      | some m =>
        obtain ⟨x, hx, e⟩ := rdk i m hi
        simp [hx, WideElems.rg_of e, intOf]
    simp only [this]
    exact .refl _
  · simp only [Maps.size]
    rw [(WideShapes.sorted_perm _).length_eq]
    simp
    omega
theorem made_list (h : Rg X.P X.own C X.w0 g st a w) (hn : st.n = X.n) (hd : d < X.n) {w' : World} {v : Value} (hb : Below w.heap.size w w') (hv : w'.ownsRow w.heap.size kt 1 v l.length (l.map encZ)) : ∃ g', Ust g g' ∧ Rg X.P X.own C X.w0 g' (soSt d l st) (a.put (some d) v) w' := by
  rcases hv.2 with ⟨rfl, hz⟩ | ⟨gb, cap, cur, rfl, hbase, hgb, r1, r2, r3, r4⟩
  · obtain rfl : l = [] := List.eq_nil_of_length_eq_zero hz
    have gf : ∀ k k', kl (.s d) k = some k' → (g.tr (kl (.s d))).φ k' = g.φ k ∧ (g.tr (kl (.s d))).κ k' = g.κ k := fun _ _ e => Gh.tr_spec (fun _ _ _ => kl_inj) e
    have hs := h.step (g' := g.tr (kl (.s d))) (w' := w') (f := kl (.s d)) (hp' := ((st.kill (.s d)).setO (.s d) (.row 1 [])).hp) rfl gf hb.os hb.tape hb.output hb.size (fun b hC => hb.block b (h.inv.clt b hC)) (fun b h1 _ => hb.block b (Nat.lt_of_lt_of_le h1 h.inv.size)) (fun n' o' e => by
      simp only [St.setO] at e
      split at e
      · rename_i e'
        subst e'
        obtain rfl := Option.some.inj e
        refine .inr ⟨?_, fun b hb => ?_⟩
        · simp only [OAt, kill_gfree (Nm.under_self (.s d))]
        · rw [kill_gfree (Nm.under_self (.s d))] at hb; cases hb
      · obtain ⟨o, e1, e2, e3⟩ := hkl_old e
        exact .inl ⟨n', o, e1, e2, e3, fun b hk => hb.block b (h.inv.blk _ _ _ e2 hk).2.2⟩)
    refine ⟨g.tr (kl (.s d)), Ust.kl (n := .s d) rfl, ?_⟩
    exact Rg.put (st := (st.kill (.s d)).setO (.s d) (.row 1 [])) hs (d := some d) (fun t e => by obtain rfl := Option.some.inj e; show d < st.n; omega) (.hsN _ _ (kill_gfree (Nm.under_self _)))
  · have hlt := (Array.getElem?_eq_some_iff.1 hgb).1
    have hm := h.made (.s d) (.row 1 (irows l)) gb cap w' [] (by simp) (fun _ => false) hb.os hb.tape hb.output hb.size (.inl hbase) hlt (fun b' _ hb' => hb.block b' hb') (by
      simp only [OAt, (fresh_self (g := g) (.s d) (some gb) cap).1, (fresh_self (g := g) (.s d) (some gb) cap).2]
      have hcur : ∀ (i : Nat) x, l[i]? = some x → cur.getD i undef = .int .i64 x := by
        intro i x hx
        have hi := (gS hx).1
        have e : (cur.toList.take (l.length * 1))[i]? = some (encZ x) := by rw [r4]; simp [hx]
        rw [List.getElem?_take, if_pos (by omega)] at e
        have e2 : cur[i]? = some (encZ x) := by simpa using e
        simp [e2, encZ]
      refine ⟨cur, kt, hgb, r3, r2, by simpa [irows] using r1, by simp [irows], ?_, ?_⟩
      · intro j hj
        have hj' : j < l.length := by simpa [irows] using hj
        rw [hcur j _ (gE hj')]
        rfl
      · intro i row hi j x hx
        simp only [irows, List.getElem?_map, Option.map_eq_some_iff] at hi
        obtain ⟨y, hy, rfl⟩ := hi
        match j with
        | 0 =>
          obtain rfl : iv y = x := by simpa using hx
          rw [show i * 1 + 0 = i from by omega, hcur i y hy]
          exact .sc _
        | j + 1 => simp at hx)
    have e : (st.nm (kl (.s d)) (fun m => if (fun _ => false : Nm → Bool) m then none else hkl (.s d) st.hp m)) = st.kill (.s d) := by simp [St.kill]
    rw [e] at hm
    refine ⟨g.fresh (.s d) (some gb) cap, Ust.fresh (n := .s d) rfl, ?_⟩
    exact hm.put (d := some d) (x := .hs (.s d) 1 0 l.length) (fun t e => by obtain rfl := Option.some.inj e; show d < st.n; omega) (.hsB _ _ _ _ gb cap _ (fresh_self _ _ _).1 r1 (by simp [(fresh_self (g := g) (.s d) (some gb) cap).2]) (fun _ => by simp))
theorem x_sorted (hcb : Callable X.P fs) (hk : X.P.underlying kt = some (.int .i64)) (hcal : SortedKeys X.P fs fk kt)
    (hd : d < X.n := by first | (simp; done) | fail) (ha : args.toList.map (ev st) = [.fn (.func fk) [] [.pt n 0]] := by simp [fx]; first | done | rfl) (hn : st.hp n = some (.row 1 [[.mp N]]) := by simp [fx]; first | done | rfl) (hN : st.hp N = some (.map (grows gs l)) := by simp [fx]; first | done | rfl) (h8 : l.length ≤ 8) (hs : l.Pairwise (· < ·)) (hr : ∀ x ∈ l, 0 ≤ x ∧ x ≤ 7)
    (hst : soSt d l st = st' := by simp [fx, soSt]; first | done | rfl) (h : K st') : SemOp X ⟨some d, .call ⟨.value (.func fs), args, Ts⟩, ty, pos, aft, gd⟩ K E st := by
  subst hst
  intro a w Q hR hQ
  obtain ⟨C, g, h1, h2, h3, h4, h5, hg⟩ := hR
  obtain ⟨vs, hrun, hsz, hrel⟩ := ent_func (st := st) (o := ⟨some d, .call ⟨.value (.func fs), args, Ts⟩, ty, pos, aft, gd⟩) hcb rfl _ _ _ _ _ _ hg
  rw [ha] at hsz hrel
  unfold Oper.wp
  rw [hrun, Oper.upon_enter]
  obtain ⟨v, rfl⟩ : ∃ v, vs = #[v] := by
    rcases vs with ⟨l⟩
    simp at hsz
    obtain ⟨v, rfl⟩ := List.length_eq_one_iff.1 hsz
    exact ⟨v, rfl⟩
  have hv := hrel 0 v (.fn (.func fk) [] [.pt n 0]) rfl rfl
  cases hv with
  | fn _ us ws _ _ hl hl2 hr1 hr2 =>
  obtain rfl : us = [] := List.eq_nil_of_length_eq_zero hl
  obtain ⟨u, rfl⟩ := List.length_eq_one_iff.1 hl2
  have hu := hr2 0 u (.pt n 0) rfl rfl
  cases hu with
  | pt _ _ b hb =>
  have hat := hg.inv.obj n _ hn
  simp only [OAt, hb] at hat
  obtain ⟨cur, T, c1, c2, c3, c4, c5, c6, c7⟩ := hat
  have hm := c7 0 _ rfl 0 _ rfl
  simp only [List.length_cons, List.length_nil] at c4
  have hcs : 0 < cur.size := by rw [c2]; omega
  have hcell : w.cell? ⟨b, 0, none⟩ = some (cur.getD (0 * 1 + 0) undef) := by
    simp [World.cell?, c1, Array.getD, hcs]
  generalize cur.getD (0 * 1 + 0) undef = u0 at hm hcell
  cases hm with
  | mp _ bm hkm =>
  have hmat := hg.inv.obj N _ hN
  simp only [OAt, hkm] at hmat
  obtain ⟨D0, o1, o2, o3⟩ := map_owned hk hmat h8 hr
  have hbl : b < w.heap.size := (Array.getElem?_eq_some_iff.1 c1).1
  refine (hcal b bm _ D0 _ w hbl hcell o1 (Nat.le_trans o3 (by decide)) (by omega)).mono ?_
  rintro e w' ⟨v, ss, rfl, hp, hrow, hnil, hbel⟩
  have hpl := hp.trans o2
  rw [mergeSort_eq hpl hs, hpl.length_eq] at hrow
  obtain ⟨g', hu', hg'⟩ := made_list (d := d) (kt := kt) hg h3 hd hbel hrow
  exact ⟨soSt d l st, ⟨C, g', h1, h2, h3, h4, h5.step hu', hg'⟩, h⟩
end
end Go.Hm
end
section
namespace Go.Hm
open Go Go.RowKit
def Vw.row (v : Vw) : List AV := [iv v.block, isl v.names, isl v.vals]
@[simp] theorem Vw.row_eq {v : Vw} : v.row = [iv v.block, isl v.names, isl v.vals] := rfl
def vws (vs : List Vw) : List (List AV) := vs.map Vw.row
abbrev vsl (vs : List Vw) : AV := .sl 3 (vws vs)
def Vw.cnt (v : Vw) : Nat := 1 + v.names.length + v.vals.length
def Vw.mark (v : Vw) (c : Int) : Vw := ⟨c, markI v.names.length (c + 1), markI v.vals.length (c + 1 + v.names.length)⟩
def cntV : List Vw → Nat
  | [] => 0
  | v :: l => v.cnt + cntV l
section
variable {hp : Nm → Option AO} {n : Nm} {vs l m : List Vw} {v k : Vw} {c : Int} {i j : Nat}
@[simp] theorem vws_len : (vws vs).length = vs.length := by simp [vws]
@[simp] theorem vws_get : (vws vs)[i]? = (vs[i]?).map Vw.row := by simp [vws]
@[simp] theorem vws_getE {h : i < (vws vs).length} : (vws vs)[i] = (vs[i]'(by simpa using h)).row := by simp [vws]
@[simp] theorem vws_tr {f : Nm → Option Nm} : (vws vs).map (fun r => r.map (AV.tr f)) = vws vs := by
  simp only [vws, List.map_map]
  refine List.map_congr_left fun v _ => ?_
  simp [Vw.row]
theorem bw_views {len : Nat} (h : OwnVs hp n vs) (hl : len = vs.length) : Bw hp noD (.hs n 3 0 len) (vsl vs) := by
  subst hl
  refine .hs n 3 0 vs.length (vwRows n vs) (vws vs) rfl h.top (by simp) (by simp) (by simp [vws]) fun i r r' hr hr' j a a' ha ha' => ?_
  rw [Nat.zero_add, vwRows_get] at hr
  rw [vws_get] at hr'
  obtain ⟨x, hx, rfl⟩ := Option.map_eq_some_iff.1 hr
  rw [hx] at hr'
  obtain rfl := Option.some.inj hr'
  have hv := h.each i x hx
  match j, ha, ha' with
  | 0, ha, ha' => obtain rfl := Option.some.inj ha; obtain rfl := Option.some.inj ha'; exact .refl _
  | 1, ha, ha' => obtain rfl := Option.some.inj ha; obtain rfl := Option.some.inj ha'; exact bw_ints hv.names rfl
  | 2, ha, ha' => obtain rfl := Option.some.inj ha; obtain rfl := Option.some.inj ha'; exact bw_ints hv.vals rfl
  | j + 3, ha, _ => simp at ha
@[simp] theorem Vw.mark_block : (v.mark c).block = c := rfl
@[simp] theorem Vw.mark_names : (v.mark c).names.length = v.names.length := by simp [Vw.mark]
@[simp] theorem Vw.mark_vals : (v.mark c).vals.length = v.vals.length := by simp [Vw.mark]
@[simp] theorem vwRows_mvself {n m : Nm} {cs : List Vw} : (vwRows n cs).map (fun r => r.map (AV.tr (mv n m))) = vwRows m cs := vwRows_tr (by simp)
theorem cntV_le {a : Nat} : ∀ {l : List Vw}, (∀ v ∈ l, v.cnt ≤ a) → cntV l ≤ l.length * a
  | [], _ => by simp [cntV]
  | v :: l, h => by
    have h1 := h v (by simp)
    have h2 := cntV_le (l := l) fun v hv => h v (by simp [hv])
    simp only [cntV, List.length_cons, Nat.add_mul]
    omega
end
@[simp] theorem fM_nine : fM 9 = false := rfl
def TopR (p : Prg) (r : List AV) : Prop := ∃ x2 x3 x4 x5 x6 x7 x8 x9, r = [ksl p, .hs (.c Mn 0 1) 1 0 p.length, x2, x3, x4, x5, x6, x7, x8, x9]
structure OwnMv (hp : Nm → Option AO) (p : Prg) (w : Wld) : Prop where
  top : ∃ r, hp Mn = some (.row 10 [r]) ∧ TopR p r
  scs : OwnS hp (.c Mn 0 1) p p.length
  bx : ∀ k j : Nat, k < w.funs.length → j < 4 → (hp (.u 8 k j)).isSome = true
  env : ∀ (i : Nat) a, w.acts[i]? = some a → hp (En i) = some (.row 3 [envRow i a])
  nms : ∀ (i : Nat), i < w.acts.length → ∃ ms, hp (.c (En i) 0 1) = some (.map (mrows ms)) ∧ MapOk ms (w.nms i)
  only : ∀ k i j, fM k = true → hp (.u k i j) ≠ none → (k = 1 ∧ i = 0 ∧ j = 0) ∨ (k = 7 ∧ i < w.acts.length ∧ j = 0) ∨ (k = 8 ∧ i < w.funs.length ∧ j < 4)
theorem TopR.mk {p : Prg} {x2 x3 x4 x5 x6 x7 x8 x9 : AV} : TopR p [ksl p, .hs (.c Mn 0 1) 1 0 p.length, x2, x3, x4, x5, x6, x7, x8, x9] := ⟨_, _, _, _, _, _, _, _, rfl⟩
theorem OwnMv.hp' {hp hp' : Nm → Option AO} {p : Prg} {w : Wld} (h : OwnMv hp p w) {f : Nm → Option Nm} (hf : ∀ m, DM m = true → f m = some m) (hh : ∀ m, DM m = true → hp' m = (hp m).map (AO.tr f)) : OwnMv hp' p w := by
  have hE : ∀ i, f (En i) = some (En i) := fun i => hf _ rfl
  have hc : ∀ j, f (.c Mn 0 j) = some (.c Mn 0 j) := fun j => hf _ rfl
  refine ⟨?_, ⟨?_, fun j k hj hk => ?_⟩, fun k j hk hj => ?_, fun i a ha => ?_, fun i hi => ?_, fun k i j hk hn => ?_⟩
  · obtain ⟨_, h1, x2, x3, x4, x5, x6, x7, x8, x9, rfl⟩ := h.top
    refine ⟨_, by rw [hh _ rfl, h1]; rfl, ?_⟩
    simp only [List.map_cons, List.map_nil, tr_hs, hc]
    have : AV.tr f (ksl p) = ksl p := by simp
    rw [this]
    exact TopR.mk
  · rw [hh _ rfl, h.scs.top]
    simp only [Option.map_some, AO.tr]
    rw [sRows_fix fun j => hf _ rfl]
  · rw [hh _ rfl, h.scs.sc j k hj hk]
    simp only [Option.map_some, AO.tr, List.map_cons, List.map_nil, scopeRow_tr]
    rw [outP_fix fun j => hf _ rfl]
  · rw [hh _ rfl, Option.isSome_map]
    exact h.bx k j hk hj
  · rw [hh _ rfl, h.env i a ha]
    have h1 := hf (.c (En i) 0 1) rfl
    by_cases e : i = 0 <;> simp [AO.tr, envRow, h1, e, hE]
    subst e
    simp [h1]
  · obtain ⟨ms, a1, a2⟩ := h.nms i hi
    exact ⟨ms, by rw [hh _ rfl, a1]; simp [AO.tr], a2⟩
  · refine h.only k i j hk fun e => hn ?_
    rw [hh (.u k i j) hk, e]; rfl
theorem OwnMv.fin {hp : Nm → Option AO} {p : Prg} {w : Wld} {D : Nm → Bool} {sbs : List (Nm × Nm)} (h : OwnMv hp p w) (hD : ∀ m, D m = true → m.sroot = false := by first | exact fun _ => DM_root | exact fun _ => DM2_root) (hW : ∀ m, DM m = true → D m = true := by intro m hm; first | exact hm | simp [hm]) (hs : ∀ q ∈ sbs, q.1.sroot = true := by simp [Nm.sroot]) : OwnMv (finH D sbs hp) p w :=
  h.hp' (f := finf D sbs) (fun m hm => finf_D hD (hW m hm) hs) (fun m hm => by simp only [finH, hW m hm, if_true])
theorem OwnMv.sub {hp : Nm → Option AO} {p : Prg} {w : Wld} (h : OwnMv hp p w) {D : Nm → Bool} (hD : ∀ m, DM m = true → D m = true := by intro m hm; first | exact hm | simp [hm]) : OwnMv (dsub D hp) p w := by
  refine h.hp' (f := some) (fun _ _ => rfl) (fun m hm => ?_)
  rw [dsub_eq, if_pos (hD m hm)]
  cases hp m with
  | none => rfl
  | some o => simp [AO.tr_some]
theorem OwnM.ext9 {H hp : Nm → Option AO} {F : Nat} {p : Prg} {w0 w : Wld} (h0 : OwnM H F p w0) (h : OwnMv hp p w) (ha : w0.acts.length ≤ w.acts.length) (hf : w0.funs.length ≤ w.funs.length) : ∀ k i j, (H (.u k i j)).isSome = true → DM (.u k i j) = false ∨ (dsub DM hp) (.u k i j) ≠ none := by
  intro k i j hs
  cases hD : fM k with
  | false => exact .inl hD
  | true =>
    right
    have hd : DM (.u k i j) = true := hD
    rw [dsub_eq, if_pos hd]
    rcases h0.only k i j hD (by intro e; rw [e] at hs; cases hs) with ⟨rfl, rfl, rfl⟩ | ⟨rfl, hi, rfl⟩ | ⟨rfl, hi, hj⟩
    · obtain ⟨_, h1, _⟩ := h.top
      rw [h1]; simp
    · obtain ⟨a, ha'⟩ : ∃ a, w.acts[i]? = some a := ⟨_, gE (by omega)⟩
      rw [h.env i a ha']; simp
    · have := h.bx i j (by omega) hj
      intro e
      rw [e] at this
      cases this
theorem erows_fixM {f : Nm → Option Nm} {l : List Nat} (h : ∀ i ∈ l, f (En i) = some (En i)) : (erows l).map (fun r => r.map (AV.tr f)) = erows l := by
  simp only [erows, List.map_map]
  refine List.map_congr_left fun i hi => ?_
  simp [h i hi]
theorem OwnM.mv9 {hp : Nm → Option AO} {F : Nat} {p : Prg} {w : Wld} (h : OwnM hp F p w) : OwnMv hp p w := by
  refine ⟨⟨_, h.top, .mk⟩, h.scs, fun k j hk hj => ?_, h.env, h.nms, h.only⟩
  obtain ⟨g, hg⟩ : ∃ g, w.funs[k]? = some g := ⟨_, gE hk⟩
  obtain ⟨a1, a2, a3, a4⟩ := h.bx k g hg
  have : j = 0 ∨ j = 1 ∨ j = 2 ∨ j = 3 := by omega
  rcases this with rfl | rfl | rfl | rfl
  · rw [a1]; rfl
  · rw [a2]; rfl
  · rw [a3]; rfl
  · rw [a4]; rfl
section
variable {P : Program} {C : Nat → Prop} {wd : World} {g0 : Gh} {H : Nm → Option AO} {n : Nat} {gl : Nat → Option (List AV)} {st : St} {K : St → Prop} {E : AV → St → Prop} {d f : Nat} {ty : TypeId} {pos : String} {aft : Array Edge} {g : Option (Nat × Bool)} {args : Array Operand} {Ts : Array TypeId} {az : List AV} {R : Nm → AV → (Nm → Option AO) → Prop} {F : Nat} {p : Prg} {w0 w : Wld}
theorem x_callV (h0 : OwnM H F p w0) (hO : OwnMv st.hp p w) (hl : w0.acts.length ≤ w.acts.length) (hf : w0.funs.length ≤ w.funs.length) (hd : d < n := by first | (simp; done) | fail) (ha : args.toList.map (ev st) = az := by simp [fx]; first | done | rfl)
    (hF : OwnMv (dsub DM st.hp) p w → FnE P gl f DM az (dsub DM st.hp) R noE) (h : ∀ y H', R (.s d) y H' → K ((st.call d DM (dsub DM st.hp) H').put (some d) y)) :
    SemOp (ctx0 P C wd g0 H n gl) ⟨some d, .call ⟨.value (.func f), args, Ts⟩, ty, pos, aft, g⟩ K E st := x_mutD DM (fun _ => DM_root) (fun k i j he => h0.ext9 hO hl hf k i j he) hd ha (hF hO.sub) h
end
end Go.Hm
end
section
namespace Go.Hm
open Go Go.RowKit
structure StkOk (s : List Nat) (w : Wld) : Prop where
  pre : s <+: w.stack
  asc : w.stack.Pairwise (· < ·)
def RunStk (p : Prg) (n : Nat) (R : Wld → Nat → Wld × Val) : Prop := ∀ (w : Wld) (a : Nat), WOk p w → w.left < n → a < w.acts.length → w.en = 0 → w.stack.Pairwise (· < ·) → StkOk w.stack (R w a).1
section
variable {p : Prg} {n : Nat} {R : Wld → Nat → Wld × Val} {w : Wld} {a b up : Nat} {vs : List Val} {s : Stm} {k : Blk}
theorem StkOk.refl (h : w.stack.Pairwise (· < ·)) : StkOk w.stack w := ⟨List.prefix_refl _, h⟩
theorem enterW_stk (hO : RunOk p n R) (hS : RunStk p n R) (h : WOk p w) (hn : w.left < n) (h0 : w.en = 0) (hm : madeAt p w.acts b up) (hv : ∀ v ∈ vs, VOk w.funs.length w.classes.length v) (hr : Room 1 w) (hp : w.stack.Pairwise (· < ·)) : StkOk w.stack (enterW p R w b up vs).1 := by
  obtain ⟨h1, h2⟩ := beginW_ok (p := p) (b := b) (up := up) h hm hv hr
  have hpw : (beginW p w b up vs).stack.Pairwise (· < ·) := by
    simp only [beginW]
    refine List.pairwise_append.2 ⟨hp, by simp, fun u hu v hv => ?_⟩
    simp only [List.mem_singleton] at hv
    subst hv
    exact h.stk u hu
  obtain ⟨⟨r1, r2, r3⟩, _⟩ := hO (beginW p w b up vs) w.acts.length h1 hn (by simp [beginW]) h0
  obtain ⟨s1, s2⟩ := hS (beginW p w b up vs) w.acts.length h1 hn (by simp [beginW]) h0 hpw
  unfold enterW endW
  split
  · rename_i he
    have e : (R (beginW p w b up vs) w.acts.length).1.stack = w.stack ++ [w.acts.length] := r3 he
    refine ⟨?_, ?_⟩
    · simp [e]
    · simpa [e] using hp
  · exact ⟨(List.prefix_append _ _).trans s1, s2⟩
theorem loadW_stk {x : Int} : (loadW p w a x).1.stack = w.stack := by
  unfold loadW
  repeat' split
  all_goals rfl
theorem loadsW_stk : ∀ {l : List Int} {w : Wld}, (loadsW p w a l).1.stack = w.stack
  | [], _ => rfl
  | x :: l, w => by
    simp only [loadsW]
    split
    · rfl
    · simp only [loadsW_stk (l := l), loadW_stk]
theorem workW_stk {vs : List Val} (hO : RunOk p n R) (hS : RunStk p n R) (h : WOk p w) (hn : w.left < n) (h0 : w.en = 0) (ha : a < w.acts.length) (hs : StmOk p (w.blk a) k s = true) (hv : ∀ v ∈ vs, VOk w.funs.length w.classes.length v) (hr : Room 2 w) (hp : w.stack.Pairwise (· < ·)) : StkOk w.stack (workW p R w a s vs).1 := by
  obtain ⟨c, hc⟩ : ∃ c, w.acts[a]? = some c := ⟨_, gE ha⟩
  have hmade : s.kind = 3 ∨ s.kind = 4 → madeAt p w.acts s.a.toNat a := fun e => by
    obtain ⟨q, h1, h2, h3, _⟩ := StmOk.made hs e
    exact ⟨c, q, hc, h1, by rw [h2, blk_at hc], by omega⟩
  have hR := StkOk.refl hp
  unfold workW
  split
  · exact hR
  · split
    · have : ∀ {a b : Val}, (plusW w a b).1.stack = w.stack := by
        intro a b
        unfold plusW
        split <;> rfl
      exact ⟨by rw [this]; exact hR.pre, by rw [this]; exact hp⟩
    · split
      · exact ⟨hR.pre, hp⟩
      · split
        · rename_i e
          have := enterW_stk (vs := []) hO hS h hn h0 (hmade (.inr e)) (fun v hv => by simp at hv) (hr.mono (by omega)) hp
          unfold classW
          split
          · exact this
          · exact ⟨this.pre, this.asc⟩
        · split
          · unfold callW
            split
            · exact ⟨hR.pre, hp⟩
            · split
              · rename_i g hg
                split
                · exact ⟨hR.pre, hp⟩
                · exact enterW_stk hO hS h hn h0 (h.funs _ g hg) (fun v hv' => hv v (List.mem_of_mem_tail hv')) (hr.mono (by omega)) hp
              · exact hR
          · split
            · have : ∀ {v : Val} {x : Int}, (attrW w v x).1.stack = w.stack := by
                intro v x
                unfold attrW
                repeat' split
                all_goals rfl
              exact ⟨by rw [this]; exact hR.pre, by rw [this]; exact hp⟩
            · exact hR
theorem stmW_stk (hO : RunOk p n R) (hS : RunStk p n R) (h : WOk p w) (hn : w.left < n) (h0 : w.en = 0) (ha : a < w.acts.length) (hs : StmOk p (w.blk a) k s = true) (hr : Room 2 w) (hp : w.stack.Pairwise (· < ·)) : StkOk w.stack (stmW p R w a s) := by
  have hR := StkOk.refl hp
  have hval : StkOk w.stack (valueW p R w a s).1 := by
    unfold valueW
    obtain ⟨h1, h2, h3, _⟩ := loadsW_ok (a := a) (l := s.reads) h
    split
    · exact ⟨by rw [loadsW_stk]; exact hR.pre, by rw [loadsW_stk]; exact hp⟩
    · rename_i he
      rcases h3 with h3 | ⟨e, he', h3⟩
      · rw [h3]
        exact workW_stk hO hS h hn h0 ha hs h2 hr hp
      · rw [h3] at he
        exact absurd he' he
  have hset : ∀ {w : Wld} {l : Option Nat} {x : Int} {t : Slt}, (w.set l x t).stack = w.stack := by
    intro w l x t
    cases l <;> rfl
  unfold stmW
  split
  · exact hR
  · split
    · have : (takeW p w a s.to).stack = w.stack := by
        unfold takeW
        split
        · exact hset
        · rfl
      exact ⟨by rw [this]; exact hR.pre, by rw [this]; exact hp⟩
    · split
      · exact hval
      · split
        · exact ⟨hval.pre, hval.asc⟩
        · exact ⟨by rw [storeW, hset]; exact hval.pre, by rw [storeW, hset]; exact hval.asc⟩
theorem bodyW_stk (hO : RunOk p n R) (hS : RunStk p n R) : ∀ {l : List Stm} {w : Wld} {i : Nat}, WOk p w → w.left < n + 1 → w.en = 0 → a < w.acts.length → (∀ s ∈ l, StmOk p (w.blk a) k s = true) → w.stack.Pairwise (· < ·) → StkOk w.stack (bodyW p R a w i l).1
  | [], w, i, _, _, _, _, _, hp => .refl hp
  | s :: l, w, i, h, hn, h0, ha, hs, hp => by
    simp only [bodyW]
    split
    · exact ⟨List.prefix_refl _, hp⟩
    · rename_i hl
      obtain ⟨t1, t2⟩ := tickW_ok (a := a) (i := i) h hl
      have tn : (tickW w a i).left < n := by simp only [tickW]; omega
      split
      · exact ⟨by rw [loadW_stk]; exact List.prefix_refl _, by rw [loadW_stk]; exact hp⟩
      · have hst := stmW_ok hO t1 tn h0 ha (hs s (by simp)) t2
        have hsk := stmW_stk hO hS t1 tn h0 ha (hs s (by simp)) t2 hp
        split
        · exact ⟨hsk.pre, hsk.asc⟩
        · rename_i he
          have he' : (stmW p R (tickW w a i) a s).en = 0 := by simpa using he
          have hA := hst.tick hl
          obtain ⟨c, hc⟩ : ∃ c, w.acts[a]? = some c := ⟨_, gE ha⟩
          have hb := hA.grow.blk hc
          have := bodyW_stk hO hS (l := l) (i := i + 1) hA.ok (by have := hA.grow.left; omega) he' (Nat.lt_of_lt_of_le ha hA.grow.lacts) (fun s' hs' => by rw [hb]; exact hs s' (by simp [hs'])) hsk.asc
          exact ⟨hsk.pre.trans this.pre, this.asc⟩
theorem runW_stk (hp : ShapeP p) : ∀ n, RunStk p n (runW p n)
  | 0 => fun w a _ h => absurd h (by omega)
  | n + 1 => by
    intro w a h hn ha h0 hpw
    simp only [runW]
    obtain ⟨c, hc⟩ : ∃ c, w.acts[a]? = some c := ⟨_, gE ha⟩
    have hb := h.blks a c hc
    obtain ⟨k, hk⟩ : ∃ k, p[c.blk]? = some k := ⟨_, gE hb⟩
    rw [blk_at hc, hk]
    exact bodyW_stk (runW_ok hp n) (runW_stk hp n) (k := k) h hn h0 ha (fun s hs => by rw [blk_at hc]; exact hp.stm _ k hk s hs) hpw
theorem meantW_stk (hp : ShapeP p) {f : Nat} (hf : f ≤ 150) : StkOk [0] (meantW p f) :=
  runW_stk hp 151 (startW f) 0 (startW_ok hp hf) (by simp [startW]; omega) (by simp [startW]) rfl (by simp [startW])
end
section
variable {p : Prg} {w : Wld} {i a : Nat} {v : Vw} {x : Int}
theorem view_names : (viewV p w a).names = (seenL p (w.blk a)).filter (fun y => (slotV p w a y).isSome) := vnames_left
theorem view_vals : (viewV p w a).vals = ((seenL p (w.blk a)).filter fun y => (slotV p w a y).isSome).map fun y => shown ((slotV p w a y).getD (0, 0)) := vvals_left
theorem view_len : (viewV p w a).names.length = (viewV p w a).vals.length := by rw [view_names, view_vals, List.length_map]
theorem view_asc : (viewV p w a).names.Pairwise (· < ·) := by
  rw [view_names]
  exact List.Pairwise.filter _ seenL_pw
theorem view_in : ∀ x ∈ (viewV p w a).names, x ∈ seenL p (w.blk a) := by
  rw [view_names]
  exact fun x hx => (List.mem_filter.1 hx).1
theorem views_at (hp : ShapeP p) (h : WOk p w) (hs : StkOk [0] w) (hv : (viewsV p w)[i]? = some v) : ∃ a : Nat, v = viewV p w a ∧ a < w.acts.length ∧ (v.block = 0 ↔ i = 0) ∧ (i = 0 → a = 0) ∧ v.block = (w.blk a : Int) ∧ w.blk a < p.length := by
  rw [viewsV, List.getElem?_map] at hv
  obtain ⟨a, ha, rfl⟩ := Option.map_eq_some_iff.1 hv
  have hal := h.stk a (List.mem_of_getElem? ha)
  obtain ⟨c, hc⟩ : ∃ c, w.acts[a]? = some c := ⟨_, gE hal⟩
  have hbl := h.blks a c hc
  have hb := blk_at hc
  obtain ⟨t, ht⟩ := hs.pre
  have hasc := hs.asc
  rw [← ht] at ha hasc
  have hz : a = 0 ↔ i = 0 := by
    cases i with
    | zero => simp at ha; simp [ha]
    | succ i =>
      have hm : a ∈ t := List.mem_of_getElem? (by simpa using ha)
      have := (List.pairwise_append.1 hasc).2.2 0 (by simp) a hm
      simp
      omega
  refine ⟨a, rfl, hal, ?_, fun e => hz.2 e, rfl, by omega⟩
  show ((w.blk a : Nat) : Int) = 0 ↔ i = 0
  rw [← hz, hb]
  constructor
  · intro e
    rcases Nat.eq_zero_or_pos a with e0 | e0
    · exact e0
    · obtain ⟨_, _, _, _, _, _, h4⟩ := h.up a c hc e0
      omega
  · rintro rfl
    obtain ⟨a0, h1, h2⟩ := h.a0
    rw [hc] at h1
    obtain rfl := Option.some.inj h1
    simp [h2]
theorem view_first (hp : ShapeP p) (h : WOk p w) (hx : 0 ≤ x ∧ x ≤ 7) :
    (w.get none x = none ∧ placeIn (viewV p w 0).names x = -1) ∨ ∃ (u : Val) (j : Nat), w.get none x = some u ∧ placeIn (viewV p w 0).names x = j ∧ (viewV p w 0).vals[j]? = some (shown u) := by
  obtain ⟨a0, h1, h2⟩ := h.a0
  have hb : w.blk 0 = 0 := by rw [blk_at h1, h2]
  have hka : kindAt p 0 = 0 := by
    have hl := hp.len
    obtain ⟨k, hk⟩ : ∃ k, p[0]? = some k := ⟨_, gE (by omega)⟩
    have := (hp.kind0 hk).2 rfl
    simp [kindAt, hk, this]
  have hsl : ∀ y, slotV p w 0 y = w.get none y := fun y => by simp [slotV, hb]
  have hse : x ∈ seenL p (w.blk 0) := by
    rw [hb, seenL, if_neg (by omega)]
    simp only [allL, List.mem_cons, List.not_mem_nil, or_false]
    omega
  cases hg : w.get none x with
  | none =>
    refine .inl ⟨rfl, ?_⟩
    have : x ∉ (viewV p w 0).names := by
      rw [view_names]
      intro hm
      have := (List.mem_filter.1 hm).2
      rw [hsl, hg] at this
      cases this
    have h3 := placeIn_nonneg (xs := (viewV p w 0).names) (x := x)
    have h4 := (placeIn_bd (xs := (viewV p w 0).names) (x := x)).1
    have : ¬ 0 ≤ placeIn (viewV p w 0).names x := fun e => this (h3.1 e)
    omega
  | some u =>
    have hm : x ∈ (viewV p w 0).names := by
      rw [view_names, List.mem_filter]
      exact ⟨hse, by rw [hsl, hg]; rfl⟩
    obtain ⟨j, h3, h4, h5⟩ := placeIn_at hm
    refine .inr ⟨u, j, rfl, h3, ?_⟩
    rw [view_names] at h5
    rw [view_vals, List.getElem?_map, h5, Option.map_some, hsl, hg]
    rfl
end
end Go.Hm
end
