/-
  Own texts, joined by mkclaim.py: Hm144, Hm145, Hm146, Hm147, Hm148, Hm149.
-/
import Derived.Test.YtmaoicgfcngciaaDoorY12
import Derived.Test.YtmaoicgfcngciaaDoorY11
set_option linter.unusedSimpArgs false
set_option linter.unusedVariables false
set_option maxRecDepth 100000
set_option maxHeartbeats 4000000

section
namespace Go.Hm
open Go Go.RowKit
section
variable {c x : UInt8} {s l : Txt} {i j n : Nat}
end
section
variable {s : Txt} {c : UInt8}
end
end Go.Hm
end
section
namespace Go.Hm
open Go Go.RowKit Go.Proofs Go.Shelf
section
variable {st : St} {H' hp : Nm → Option AO} {T e : TypeId} {l : Txt} {k a b c d : Nat}
@[simp] theorem byrows_tr {f : Nm → Option Nm} : (byrows l).map (fun r => r.map (AV.tr f)) = byrows l := by simp [byrows]
theorem bld_mutc (h : BldAt H' (.u a b c) T e l) : BldAt (st.mutc (.s k) (.u a b c) d H').hp (.s k) T e l := by
  rcases h with ⟨rfl, h⟩ | ⟨hl, h1, h2⟩
  · exact .inl ⟨rfl, by simp [Nm.under, Nm.ren, mv, h, AO.tr, AV.tr]⟩
  · refine .inr ⟨hl, ?_, ?_⟩
    · simp [Nm.under, Nm.ren, mv, h1, AO.tr, AV.tr]
    · have : (byrows l).map (List.map (AV.tr (mv (.u a b c) (.s k)))) = byrows l := byrows_tr
      simp [Nm.under, Nm.ren, mv]
      exact ⟨_, h2, by simp only [AO.tr]; rw [this]⟩
theorem bld_move (h : BldAt st.hp (.s k) T e l) : BldAt (hsub (.u a b c) (st.move (.s k) (.u a b c)).hp) (.u a b c) T e l := by
  rcases h with ⟨rfl, h⟩ | ⟨hl, h1, h2⟩
  · exact .inl ⟨rfl, by simp [Nm.under, Nm.ren, mv, h, AO.tr, AV.tr]⟩
  · refine .inr ⟨hl, ?_, ?_⟩
    · simp [Nm.under, Nm.ren, mv, h1, AO.tr, AV.tr]
    · have : (byrows l).map (List.map (AV.tr (mv (.s k) (.u a b c)))) = byrows l := byrows_tr
      simp [Nm.under, Nm.ren, mv]
      exact ⟨_, h2, by simp only [AO.tr]; rw [this]⟩
theorem bld_isSome (h : BldAt hp (.u a b c) T e l) : (hp (.u a b c)).isSome = true := by
  rcases h with ⟨_, h⟩ | ⟨_, h, _⟩ <;> simp [h]
end
section
variable {X : Ctx} {st : St} {K : St → Prop} {E : AV → St → Prop} {d k : Nat} {ty : TypeId} {pos : String} {aft : Array Edge} {g : Option (Nat × Bool)} {args : Array Operand} {Ts : Array TypeId} {P : Program} {ρ : Ren} {l s : Txt} {f : FuncId}
abbrev Vn : Nm := .u 3 0 0
theorem x_wstr (k : Nat) (L : Lays.n166 X.P ρ) (Y : Builder.Extra X.P ρ) (hf : ρ.f 166 = f) (hext : X.ext Vn = false) (hB : BldAt st.hp (.s k) (ρ.t 72) (ρ.t 5) l) (hd : d < X.n := by first | (simp; done) | fail)
    (ha : args.toList.map (ev (st.move (.s k) Vn)) = [.pt Vn 0, tx s] := by simp [fx]; first | done | rfl) (hs : s ≠ [] := by first | (simp; done) | assumption) (hlen : l.length + s.length ≤ 140737488355328 := by first | (simp; omega) | omega)
    (h : ∀ st' : St, st'.n = st.n → st'.gl = st.gl → (∀ t, st'.tm t = if t = d then .tup [.sc (.int .i64 s.length), .sc .nilIface] else (st.tm t).tr (rtf (.s k) Vn d)) →
      (∀ m, Nm.under (.s k) m = false → Nm.under Vn m = false → Nm.under (.s d) m = false → st'.hp m = (st.hp m).map (AO.tr (rtf (.s k) Vn d))) →
      st'.hp (.s k) = some (.trow (ρ.t 72) 2 true [[.pt (.s k) 0, .hs (.c (.s k) 0 1) 1 0 (l.length + s.length)]]) → st'.hp (.c (.s k) 0 1) = some (.trow (ρ.t 5) 1 false (byrows (l ++ s))) → K st') :
    SemOp X ⟨some d, .call ⟨.value (.func f), args, Ts⟩, ty, pos, aft, g⟩ K E st := by
  subst hf
  have hB' := bld_move (a := 3) (b := 0) (c := 0) hB
  refine x_mutc (.s k) Vn (hext := hext) (hs := (bld_isSome hB')) (hd := hd) (ha := ha) (hF := wstr_fn L Y X.gl Vn l s hs hlen _ hB') (h := ?_)
  rintro y H' ⟨rfl, hH⟩
  rcases bld_mutc (st := st) (k := k) (d := d) hH with ⟨e, _⟩ | ⟨_, e1, e2⟩
  · exact absurd e (by simp [hs])
  refine h _ rfl rfl (fun t => ?_) (fun m h1 h2 h3 => ?_) (by simpa using e1) e2
  · by_cases e : t = d
    · simp [St.put, e, AV.tr, trLL_eq, trL_eq]
    · simp [St.put, e]
  · show (st.mutc (.s k) Vn d H').hp m = _
    simp only [mutc_hp, h1, h2, h3, Bool.false_eq_true, if_false]
theorem BldAt.go {hp0 hp : Nm → Option AO} {V : Nm} {T e : TypeId} {l : Txt} (h : BldAt hp0 V T e l)
    (h1 : hp0 V = some (.trow T 2 true [[.sc (.pointer none), .sc (.slice none 0 0)]]) → hp V = some (.trow T 2 true [[.sc (.pointer none), .sc (.slice none 0 0)]]) := by intro e; simp [e, fx])
    (h2 : hp0 V = some (.trow T 2 true [[.pt V 0, .hs (.c V 0 1) 1 0 l.length]]) → hp V = some (.trow T 2 true [[.pt V 0, .hs (.c V 0 1) 1 0 l.length]]) := by intro e; simp [e, fx])
    (h3 : hp0 (.c V 0 1) = some (.trow e 1 false (byrows l)) → hp (.c V 0 1) = some (.trow e 1 false (byrows l)) := by intro e; simp [e, fx]) : BldAt hp V T e l := by
  rcases h with ⟨rfl, h⟩ | ⟨hl, e1, e2⟩
  · exact .inl ⟨rfl, h1 h⟩
  · exact .inr ⟨hl, h2 e1, h3 e2⟩
theorem x_str (k : Nat) (L : Lays.n169 X.P ρ) (Y : Builder.Extra X.P ρ) (hf : ρ.f 169 = f) (hext : X.ext Vn = false) (hB : BldAt st.hp (.s k) (ρ.t 72) (ρ.t 5) l) (hd : d < X.n := by first | (simp; done) | fail)
    (ha : args.toList.map (ev (st.move (.s k) Vn)) = [.pt Vn 0] := by simp [fx]; first | done | rfl)
    (h : K ((st.mutc (.s k) Vn d noH).put (some d) (tx l))) :
    SemOp X ⟨some d, .call ⟨.value (.func f), args, Ts⟩, ty, pos, aft, g⟩ K E st := by
  subst hf
  have hB' := bld_move (a := 3) (b := 0) (c := 0) hB
  refine x_mutc (.s k) Vn (hext := hext) (hs := (bld_isSome hB')) (hd := hd) (ha := ha) (hF := str_fn L Y X.gl Vn l _ hB') (h := ?_)
  rintro y H' ⟨rfl, rfl⟩
  simpa [AV.tr] using h
end
def BadX (x : AV) : Prop := ∃ t y, x = .ifc t y ∧ (y = .agg [] ∨ ∃ v, y = .sc v)
theorem BadX.tr {x : AV} (h : BadX x) {f : Nm → Option Nm} : BadX (x.tr f) := by
  obtain ⟨t, y, rfl, h⟩ := h
  refine ⟨t, y.tr f, rfl, ?_⟩
  rcases h with rfl | ⟨v, rfl⟩
  · exact .inl rfl
  · exact .inr ⟨v, rfl⟩
theorem BadX.cln {x : AV} (h : BadX x) : x.cln = true := by
  obtain ⟨t, y, rfl, h⟩ := h
  rcases h with rfl | ⟨v, rfl⟩ <;> rfl
section
variable {X : Ctx} {st : St} {K : St → Prop} {E : AV → St → Prop} {d f : Nat} {ty : TypeId} {pos : String} {aft : Array Edge} {g : Option (Nat × Bool)} {args : Array Operand} {Ts : Array TypeId} {bs : List AV} {R : Nm → AV → (Nm → Option AO) → Prop}
end
end Go.Hm
end
section
namespace Go.Hm
open Go Go.RowKit
section
variable {X : Ctx} {st : St} {K : St → Prop} {E : AV → St → Prop} {d : Nat} {ty : TypeId} {pos : String} {aft : Array Edge} {g : Option (Nat × Bool)} {f : Nat} {args : Array Operand} {Ts : Array TypeId} {bs : List AV}
theorem kx_plain {x : AV} (hd : d < X.n := by first | (simp; done) | fail) (ha : args.toList.map (ev st) = bs := by simp [fx]; first | done | rfl | exact (Bool.not_not _).symm)
    (hF : FnOk X.P X.gl f bs (fun _ y _ => y = x)) (h : K ((st.kill (.s d)).put (some d) x)) : SemOp X ⟨some d, .call ⟨.value (.func f), args, Ts⟩, ty, pos, aft, g⟩ K E st := by
  refine SemOp.weak (x_own (K := fun s => ∃ H', s = (st.call d noD noH H').put (some d) x) hd ha hF ?_) ?_
  · rintro y H' rfl
    exact ⟨H', rfl⟩
  · rintro s ⟨H', rfl⟩
    refine ⟨(st.kill (.s d)).hp, fun m ob e => ?_, ?_⟩
    · simp only [St.kill, St.nm, hkl] at e
      simp only [St.put, St.call, St.nm]
      split at e
      · cases e
      · rename_i hu
        simp [hu, noD, cf_noD, e]
    · simpa only [St.put, St.call, St.nm, St.kill, cf_noD] using h
theorem b_id {P : Program} {T : TypeId} {zs : List AV} (_hq : zvals P T = some zs) (h : SemOp X ⟨some d, .alloc T, ty, pos, aft, g⟩ K E st) : SemOp X ⟨some d, .alloc T, ty, pos, aft, g⟩ K E st := h
end
theorem k_runp {G G' : Prop} (k : G') (h : KTag G' → G := by
  intro kk
  repeat' (first
    | refine w_seq ?_ | refine w_block ?_ | refine w_skip ?_ | refine w_label ?_ | refine w_reg fun K hK => ?_
    | ((with_reducible refine s_end hK ?_); clear hK K) | (with_reducible refine s_end hK ?_)
    | (with_reducible first | refine then_normal ?_ | refine in_normal ?_ | refine then_exit ?_ | refine in_exit ?_ | refine then_ret ?_ | refine in_ret ?_ | refine s_nil ?_ | refine in_other (by decide) ?_)
    | refine w_exit ?_
    | refine w_ret ?_
    | (with_reducible refine s_none ?_)
    | ((with_reducible refine g_id ?_); refine x_guard (h := ?_))
    | (with_reducible first | refine gx_tt ?_ | refine gx_ff ?_ | refine x_tf (h := ?_) | refine x_ft (h := ?_) | refine x_u (h := ?_) | refine x_assign (h := ?_) | refine x_box (h := ?_) | refine x_store0 (h := ?_) | refine x_append0 (h := ?_) | refine x_appendM (h := ?_) | refine x_append (h := ?_) | refine x_store (h := ?_) | refine x_make (h := ?_) | refine x_build (h := ?_))
    | ((with_reducible refine b_id b1 ?_); refine x_allocB (hq := b1) (h := ?_)) | (with_reducible refine x_alloc (h := ?_))
    | ((with_reducible refine o_idc c1 rfl ?_); refine kx_call (hF := c1) (h := ?_))
    | ((with_reducible refine o_idc c2 rfl ?_); refine kx_call (hF := c2) (h := ?_))
    | ((with_reducible refine o_idc c3 rfl ?_); refine kx_call (hF := c3) (h := ?_))
    | ((with_reducible refine o_idc c4 rfl ?_); refine kx_call (hF := c4) (h := ?_))
    | ((with_reducible refine o_idc c5 rfl ?_); refine kx_call (hF := c5) (h := ?_))
    | ((with_reducible refine o_idc c6 rfl ?_); refine kx_call (hF := c6) (h := ?_))
    | ((with_reducible refine o_idc d1 rfl ?_); refine kx_callh (hF := d1) (h := ?_))
    | ((with_reducible refine o_idc d2 rfl ?_); refine kx_callh (hF := d2) (h := ?_))
    | ((with_reducible refine o_idc d3 rfl ?_); refine kx_callh (hF := d3) (h := ?_))
    | ((with_reducible refine o_idc d4 rfl ?_); refine kx_callh (hF := d4) (h := ?_))
    | ((with_reducible refine o_idc e1 rfl ?_); refine kx_callg (hF := e1) (h := ?_))
    | ((with_reducible refine o_idc e2 rfl ?_); refine kx_callg (hF := e2) (h := ?_))
    | ((with_reducible refine o_idc p1 rfl ?_); refine kx_plain (hF := p1) (h := ?_))
    | ((with_reducible refine o_idc p2 rfl ?_); refine kx_plain (hF := p2) (h := ?_))
    | ((with_reducible refine o_idc p3 rfl ?_); refine kx_plain (hF := p3) (h := ?_))
    | ((with_reducible refine o_idc p4 rfl ?_); refine kx_plain (hF := p4) (h := ?_))
    | ((with_reducible refine o_idc p5 rfl ?_); refine kx_plain (hF := p5) (h := ?_))
    | ((with_reducible refine o_idc p6 rfl ?_); refine kx_plain (hF := p6) (h := ?_))
    | (with_reducible refine x_q (h := ?_))
    | (with_reducible refine gx_s (fun ht => ?_) (fun ht => ?_))
    | refine x_condt (h1 := ?_) | refine x_condf (h1 := ?_)
    | ((with_reducible refine a_end hK ?_); clear hK K) | (with_reducible refine a_end hK ?_)
    | ((with_reducible refine a_id ?_); first | refine xa_q (h := ?_) | refine xa_qt (h := ?_) | refine xa_qf (h := ?_) | refine xa_qu (h := ?_))
    | ((with_reducible refine a_id ?_); refine xa_gq (h1 := fun ht => ?_) (h2 := fun ht => ?_))
    | refine a_l rfl ?_ | refine a_l2 ?_ ?_ | (with_reducible refine And.intro ?_ ?_) | exact st_nil | refine xa_st (h2 := ?_)
    | fail)
  first | exact kk.h | (revert hK; revert K; exact kk.h)) : G := h ⟨k⟩
theorem k_rundp {G G' : Prop} (k : G') (h : KTag G' → G := by
  intro kk K hK
  repeat' (first
    | refine w_seq ?_ | refine w_block ?_ | refine w_skip ?_ | refine w_label ?_ | refine w_reg fun K hK => ?_
    | ((with_reducible refine s_end hK ?_); clear hK K) | (with_reducible refine s_end hK ?_)
    | (with_reducible first | refine then_normal ?_ | refine in_normal ?_ | refine then_exit ?_ | refine in_exit ?_ | refine then_ret ?_ | refine in_ret ?_ | refine s_nil ?_ | refine in_other (by decide) ?_)
    | refine w_exit ?_
    | refine w_ret ?_
    | (with_reducible refine s_none ?_)
    | ((with_reducible refine g_id ?_); refine x_guard (h := ?_))
    | (with_reducible first | refine gx_tt ?_ | refine gx_ff ?_ | refine x_tf (h := ?_) | refine x_ft (h := ?_) | refine x_u (h := ?_) | refine x_assign (h := ?_) | refine x_box (h := ?_) | refine x_store0 (h := ?_) | refine x_append0 (h := ?_) | refine x_appendM (h := ?_) | refine x_append (h := ?_) | refine x_store (h := ?_) | refine x_make (h := ?_) | refine x_build (h := ?_))
    | ((with_reducible refine b_id b1 ?_); refine x_allocB (hq := b1) (h := ?_)) | (with_reducible refine x_alloc (h := ?_))
    | ((with_reducible refine o_idc c1 rfl ?_); refine kx_call (hF := c1) (h := ?_))
    | ((with_reducible refine o_idc c2 rfl ?_); refine kx_call (hF := c2) (h := ?_))
    | ((with_reducible refine o_idc c3 rfl ?_); refine kx_call (hF := c3) (h := ?_))
    | ((with_reducible refine o_idc c4 rfl ?_); refine kx_call (hF := c4) (h := ?_))
    | ((with_reducible refine o_idc c5 rfl ?_); refine kx_call (hF := c5) (h := ?_))
    | ((with_reducible refine o_idc c6 rfl ?_); refine kx_call (hF := c6) (h := ?_))
    | ((with_reducible refine o_idc d1 rfl ?_); refine kx_callh (hF := d1) (h := ?_))
    | ((with_reducible refine o_idc d2 rfl ?_); refine kx_callh (hF := d2) (h := ?_))
    | ((with_reducible refine o_idc d3 rfl ?_); refine kx_callh (hF := d3) (h := ?_))
    | ((with_reducible refine o_idc d4 rfl ?_); refine kx_callh (hF := d4) (h := ?_))
    | ((with_reducible refine o_idc e1 rfl ?_); refine kx_callg (hF := e1) (h := ?_))
    | ((with_reducible refine o_idc e2 rfl ?_); refine kx_callg (hF := e2) (h := ?_))
    | ((with_reducible refine o_idc p1 rfl ?_); refine kx_plain (hF := p1) (h := ?_))
    | ((with_reducible refine o_idc p2 rfl ?_); refine kx_plain (hF := p2) (h := ?_))
    | ((with_reducible refine o_idc p3 rfl ?_); refine kx_plain (hF := p3) (h := ?_))
    | ((with_reducible refine o_idc p4 rfl ?_); refine kx_plain (hF := p4) (h := ?_))
    | ((with_reducible refine o_idc p5 rfl ?_); refine kx_plain (hF := p5) (h := ?_))
    | ((with_reducible refine o_idc p6 rfl ?_); refine kx_plain (hF := p6) (h := ?_))
    | (with_reducible refine x_q (h := ?_))
    | (with_reducible refine gx_s (fun ht => ?_) (fun ht => ?_))
    | refine x_condt (h1 := ?_) | refine x_condf (h1 := ?_)
    | ((with_reducible refine a_end hK ?_); clear hK K) | (with_reducible refine a_end hK ?_)
    | ((with_reducible refine a_id ?_); first | refine xa_q (h := ?_) | refine xa_qt (h := ?_) | refine xa_qf (h := ?_) | refine xa_qu (h := ?_))
    | ((with_reducible refine a_id ?_); refine xa_gq (h1 := fun ht => ?_) (h2 := fun ht => ?_))
    | refine a_l rfl ?_ | refine a_l2 ?_ ?_ | (with_reducible refine And.intro ?_ ?_) | exact st_nil | refine xa_st (h2 := ?_)
    | fail)
  first | exact kk.h | (revert hK; revert K; exact kk.h)) : G := h ⟨k⟩
section
variable {P : Program} {gl : Nat → Option (List AV)} {f : FuncId} {D : Nm → Bool} {bs : List AV} {H : Nm → Option AO} {R : Nm → AV → (Nm → Option AO) → Prop}
end
end Go.Hm
end
section
namespace Go.Hm
open Go Go.RowKit
section
variable {P : Program} {own : Nat → Prop} {C : Nat → Prop} {w0 : World} {g : Gh} {st : St} {a : Go.Act} {w : World}
theorem Rg.reO (h : Rg P own C w0 g st a w) {n : Nm} {o o' : AO} (hn : st.hp n = some o) (ho : OAt g w n o') : Rg P own C w0 g (st.setO n o') a w := by
  obtain ⟨i, hd, hs, hsl, hgl⟩ := h
  have key : ∀ k q, (st.setO n o').hp k = some q → ∃ q', st.hp k = some q' ∧ ((k = n ∧ q = o') ∨ (k ≠ n ∧ q = q')) := by
    intro k q e
    simp only [St.setO] at e
    split at e
    · rename_i e'; subst e'; exact ⟨o, hn, .inl ⟨rfl, (Option.some.inj e).symm⟩⟩
    · rename_i hne; exact ⟨q, e, .inr ⟨hne, rfl⟩⟩
  refine ⟨⟨i.os, i.tape, i.output, i.size, i.keep, i.hC, i.clt, ?_, ?_, ?_⟩, hd, hs, hsl, hgl⟩
  · intro k q e
    obtain ⟨q', e1, h1 | h1⟩ := key k q e
    · obtain ⟨rfl, rfl⟩ := h1; exact ho
    · obtain ⟨_, rfl⟩ := h1; exact i.obj k q e1
  · intro k q b e hk
    obtain ⟨q', e1, _⟩ := key k q e
    exact i.blk k q' b e1 hk
  · intro k k' q q' b e e' hk hk'
    obtain ⟨p, e1, _⟩ := key k q e
    obtain ⟨p', e1', _⟩ := key k' q' e'
    exact i.inj k k' p p' b e1 e1' hk hk'
def St.cellN (st : St) (n : Nm) (z : Nat) (rows : List (List AV)) (i j : Nat) (m : Nm) (z' : Nat) : St :=
  ((st.kill m).setO m (.row z' [])).setO n (.row z (rowsSet (rows.map fun r => r.map (AV.tr (kl m))) i j [.hs m z' 0 0]))
theorem Rg.cellN (h : Rg P own C w0 g st a w) {n m : Nm} {z z' i j : Nat} {rows : List (List AV)} {r : List AV} (hn : st.hp n = some (.row z rows)) (hi : rows[i]? = some r) (hj : r[j]? = some (.sc (.slice none 0 0))) (hne : n ≠ m) (hnm : Nm.under m n = false) (hu : m.isU = false) :
    ∃ g', Rg P own C w0 g' (st.cellN n z rows i j m z') a w ∧ Ust g g' := by
  obtain ⟨g', h1, h2, h3, h4⟩ := h.nilO m z'
  have hn' : ((st.kill m).setO m (.row z' [])).hp n = some (.row z (rows.map fun r => r.map (AV.tr (kl m)))) := by
    simp [St.setO, St.kill, St.nm, hkl, hne, hnm, hn, AO.tr]
  have ho := h1.inv.obj n _ hn'
  have hil := (gS hi).1
  have hjl := (gS hj).1
  refine ⟨g', h1.reO hn' ?_, h3 hu⟩
  simp only [OAt] at ho ⊢
  cases hφ : g'.φ n with
  | none =>
    rw [hφ] at ho
    simp only at ho
    have : rows = [] := by simpa using ho
    subst this
    simp at hil
  | some b =>
    rw [hφ] at ho
    obtain ⟨cur, T, c1, c2, c3, c4, c5, c6, c7⟩ := ho
    have hrow : (rows.map fun r => r.map (AV.tr (kl m)))[i]? = some (r.map (AV.tr (kl m))) := by simp [hi]
    have hrl : (r.map (AV.tr (kl m))).length = z := c5 _ (List.mem_of_getElem? hrow)
    have hz : r.length = z := by simpa using hrl
    have hcell : cur.getD (i * z + j) undef = .slice none 0 0 := by
      have := c7 i _ hrow j (.sc (.slice none 0 0)) (by simp [hj, AV.tr])
      exact this.sc_eq
    refine ⟨cur, T, c1, c2, c3, by simpa [rowsSet] using c4, ?_, ?_, ?_⟩
    · intro q hq
      obtain ⟨k, hk⟩ := List.getElem?_of_mem hq
      simp only [rowsSet, List.getElem?_modify] at hk
      obtain ⟨q0, e0, e1⟩ := Option.map_eq_some_iff.1 hk
      have hq0 : q0.length = z := c5 _ (List.mem_of_getElem? e0)
      by_cases e : i = k
      · simp only [e, if_true] at e1
        subst e1
        simp
        omega
      · simp only [e, if_false] at e1
        subst e1
        exact hq0
    · simpa [rowsSet] using c6
    · intro k q hq j' x hx
      simp only [rowsSet, List.getElem?_modify] at hq
      obtain ⟨q0, e0, e1⟩ := Option.map_eq_some_iff.1 hq
      by_cases e : i = k
      · subst e
        simp only [if_true] at e1
        rw [hrow] at e0
        obtain rfl := Option.some.inj e0
        subst e1
        have hset : (r.map (AV.tr (kl m))).take j ++ [AV.hs m z' 0 0] ++ (r.map (AV.tr (kl m))).drop (j + [AV.hs m z' 0 0].length) = (r.map (AV.tr (kl m))).set j (.hs m z' 0 0) := by
          rw [List.set_eq_take_append_cons_drop, if_pos (by simpa using hjl)]
          simp
        rw [hset, List.getElem?_set] at hx
        by_cases ej : j = j'
        · subst ej
          rw [if_pos rfl, if_pos (by simpa using hjl)] at hx
          obtain rfl := Option.some.inj hx
          rw [hcell]
          exact h2
        · rw [if_neg ej] at hx
          exact c7 i _ hrow j' x hx
      · simp only [e, if_false] at e1
        subst e1
        exact c7 k _ e0 j' x hx
end
section
variable {X : Ctx} {st : St} {a : Go.Act} {w : World} {K : St → Prop} {E : AV → St → Prop} {ds : List (Option Nat)} {l : List Oper} {o : Oper} {c : Code} {Q : Ex → St → Prop} {n : Nm} {z : Nat} {rows : List (List AV)} {r : List AV}
theorem Rw.cellN (h : Rw X st a w) (i j : Nat) (m : Nm) (z' : Nat) (hn : st.hp n = some (.row z rows)) (hi : rows[i]? = some r) (hj : r[j]? = some (.sc (.slice none 0 0))) (hne : n ≠ m) (hnm : Nm.under m n = false) (hu : m.isU = false) : Rw X (st.cellN n z rows i j m z') a w := by
  obtain ⟨C, g, e1, e2, e3, e4, e5, hr⟩ := h
  obtain ⟨g', h1, h2⟩ := hr.cellN (z' := z') hn hi hj hne hnm hu
  exact ⟨C, g', e1, e2, e3, e4, e5.step h2, h1⟩
end
@[simp] theorem xrows_cln {ws : List Txt} : (xrows ws).all (fun r => r.all AV.cln) = true := by simp [xrows, AV.cln]
@[simp] theorem bldSt_eq {T : TypeId} {d : Nat} {st : St} : bldSt T d st = ((st.kill (.s d)).setO (.s d) (.trow T 2 true [[.sc (.pointer none), .sc (.slice none 0 0)]])).put (some d) (.pt (.s d) 0) := rfl
section
variable {n : Int} {ns : List Int} {s : Stm} {k : Blk} {p : Prg} {w : Txt} {ls : List Txt} {b i : Nat}
theorem numI_len (h : 0 ≤ n ∧ n ≤ 99) : (numI n).length ≤ 2 := by
  obtain ⟨m, rfl⟩ : ∃ m : Nat, n = m := ⟨n.toNat, by omega⟩
  rw [numI_nat]
  by_cases h1 : m < 10
  · rw [numN_small h1]; simp
  · rw [numN_two (by omega) (by omega)]; simp
theorem wordsL_snoc : wordsL w (ns ++ [n]) = wordsL w ns ++ 32 :: numI n := by simp [wordsL]
theorem wordsL_take (hi : ns[i]? = some n) : wordsL w (ns.take (i + 1)) = wordsL w (ns.take i) ++ 32 :: numI n := by
  rw [List.take_add_one, hi]
  exact wordsL_snoc
theorem wordsL_len (h : Small ns) : (wordsL w ns).length ≤ w.length + 3 * ns.length := by
  induction ns with
  | nil => simp [wordsL]
  | cons n ns ih =>
    have h1 := ih fun x hx => h x (by simp [hx])
    have h2 := numI_len (h n (by simp))
    simp only [wordsL, List.flatMap_cons, List.length_append, List.length_cons] at h1 ⊢
    omega
theorem wordsL_ge : w.length ≤ (wordsL w ns).length := by simp [wordsL]
theorem small_take (h : Small ns) : Small (ns.take i) := fun x hx => h x (List.mem_of_mem_take hx)
theorem numsOf_len : (numsOf s).length ≤ 3 := by
  unfold numsOf
  repeat' split
  all_goals simp
theorem stmtW_len : ∀ i, i < 12 → 0 < (stmtW.getD i []).length ∧ (stmtW.getD i []).length ≤ 8 := by decide
theorem showS_len (h : TxtS s) : 0 < (showS s).length ∧ (showS s).length ≤ 17 := by
  have h1 := stmtW_len s.kind.toNat (by have := h.kind; omega)
  have h2 := wordsL_len (w := stmtW.getD s.kind.toNat []) h.nums
  have h3 := numsOf_len (s := s)
  have h4 : (stmtW.getD s.kind.toNat []).length ≤ (showS s).length := by simp [showS, wordsL]
  unfold showS at *
  omega
theorem linesL_snoc : linesL 10 (ls ++ [w]) = linesL 10 ls ++ (w ++ [10]) := by simp [linesL]
theorem linesL_len (h : ∀ w ∈ ls, w.length ≤ 100) : (linesL 10 ls).length ≤ 101 * ls.length := by
  induction ls with
  | nil => simp [linesL]
  | cons w ls ih =>
    have h1 := ih fun x hx => h x (by simp [hx])
    have h2 := h w (by simp)
    rw [linesL_cons]
    simp only [List.length_append, List.length_cons] at h1 ⊢
    omega
structure TxtB (p : Prg) : Prop where
  txt : TxtP p
  len : p.length ≤ 7
  par : ∀ k ∈ p, k.params.length ≤ 1
  body : ∀ k ∈ p, k.body.length ≤ 1048576
theorem TxtB.of (hp : ValP p) (hs : Sml p) : TxtB p := by
  refine ⟨.of hp, hp.sh.len.2, fun k hk => ?_, fun k hk => ?_⟩
  · obtain ⟨i, hi⟩ := List.getElem?_of_mem hk
    have h0 := hp.sh.head i k hi
    unfold HeadOk at h0
    split at h0
    · obtain ⟨_, _, h⟩ := h0; omega
    · obtain ⟨_, _, _, h, _⟩ := h0; omega
  · obtain ⟨i, hi⟩ := List.getElem?_of_mem hk
    exact (hs.bsm hi).body
theorem showH_len (h : TxtH k) (hp : k.params.length ≤ 1) : 0 < (showH k).length ∧ (showH k).length ≤ 17 := by
  have h1 := numI_len h.parent
  have h2 := wordsL_len (w := wordsL tIn [k.parent] ++ 32 :: tFun) h.params
  have h3 : (wordsL tIn [k.parent]).length = 3 + (numI k.parent).length := by simp [wordsL, tIn]; omega
  unfold showH
  split
  · simp only [List.length_append, List.length_cons, h3]
    simp [tClass]
    omega
  · have h4 := wordsL_ge (w := wordsL tIn [k.parent] ++ 32 :: tFun) (ns := k.params)
    have e : (wordsL tIn [k.parent] ++ 32 :: tFun).length = 7 + (numI k.parent).length := by
      simp [h3, tFun]
      omega
    omega
def fmtTo (p : Prg) (b : Nat) : List Txt := ((p.mapIdx blkLines).take b).flatten
theorem fmtTo_zero : fmtTo p 0 = [] := rfl
theorem fmtTo_succ (hk : p[b]? = some k) : fmtTo p (b + 1) = fmtTo p b ++ blkLines b k := by
  unfold fmtTo
  rw [List.take_add_one, List.getElem?_mapIdx, hk]
  simp
theorem fmtTo_all : fmtTo p p.length = fmtLines p := by
  unfold fmtTo fmtLines
  rw [List.take_of_length_le (by simp)]
def blkTo (b : Nat) (k : Blk) (i : Nat) : List Txt := (if b = 0 then [] else [showH k]) ++ (k.body.take i).map showS
theorem blkTo_all : blkTo b k k.body.length = blkLines b k := by simp [blkTo, blkLines]
theorem blkTo_succ (hs : k.body[i]? = some s) : blkTo b k (i + 1) = blkTo b k i ++ [showS s] := by
  unfold blkTo
  rw [List.take_add_one, hs]
  simp
theorem blk_small (hp : TxtB p) (hk : p[b]? = some k) : (∀ w ∈ blkTo b k i, w.length ≤ 100) ∧ (blkTo b k i).length ≤ 1048577 := by
  have hm := List.mem_of_getElem? hk
  constructor
  · intro w hw
    unfold blkTo at hw
    rw [List.mem_append] at hw
    rcases hw with hw | hw
    · split at hw
      · cases hw
      · rw [List.mem_singleton] at hw
        subst hw
        have := (showH_len (hp.txt.heads b k hk (by omega)) (hp.par k hm)).2
        omega
    · obtain ⟨s, hs, rfl⟩ := List.mem_map.1 hw
      have := (showS_len (hp.txt.stms k hm s (List.mem_of_mem_take hs))).2
      omega
  · have := hp.body k hm
    unfold blkTo
    simp only [List.length_append, List.length_map, List.length_take]
    split <;> simp <;> omega
theorem fmtTo_small (hp : TxtB p) : ∀ b, b ≤ p.length → (∀ w ∈ fmtTo p b, w.length ≤ 100) ∧ (fmtTo p b).length ≤ 1048577 * b
  | 0, _ => by simp [fmtTo_zero]
  | b + 1, hb => by
    obtain ⟨h1, h2⟩ := fmtTo_small hp b (by omega)
    obtain ⟨k, hk⟩ : ∃ k, p[b]? = some k := ⟨_, gE (by omega)⟩
    rw [fmtTo_succ hk, ← blkTo_all]
    obtain ⟨h3, h4⟩ := blk_small (i := k.body.length) hp hk
    refine ⟨fun w hw => ?_, by rw [List.length_append]; omega⟩
    rw [List.mem_append] at hw
    exact hw.elim (h1 w) (h3 w)
theorem fmt_len (hp : TxtB p) (hk : p[b]? = some k) : (linesL 10 (fmtTo p b ++ blkTo b k i)).length ≤ 1000000000 := by
  have hb := (gS hk).1
  obtain ⟨h1, h2⟩ := fmtTo_small hp b (by omega)
  obtain ⟨h3, h4⟩ := blk_small (i := i) hp hk
  have hl := hp.len
  refine Nat.le_trans (linesL_len fun w hw => ?_) ?_
  · rw [List.mem_append] at hw
    exact hw.elim (h1 w) (h3 w)
  · rw [List.length_append]
    omega
theorem fmt_len0 (hp : TxtB p) (hb : b ≤ p.length) : (linesL 10 (fmtTo p b)).length ≤ 1000000000 := by
  obtain ⟨h1, h2⟩ := fmtTo_small hp b hb
  have hl := hp.len
  refine Nat.le_trans (linesL_len h1) ?_
  omega
end
section
variable {os : List (Int × Int)} {o : Int × Int} {i : Nat}
end
end Go.Hm
end
