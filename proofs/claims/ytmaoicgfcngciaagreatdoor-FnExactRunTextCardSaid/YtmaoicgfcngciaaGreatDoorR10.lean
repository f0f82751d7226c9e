/-
  Own texts, joined by mkclaim.py: Hm26, Hm27, Hm28, Hm29, Hm30, Hm31, Hm32, Hm33, Hm34, Hm35, Hm36.
-/
import Derived.Test.YtmaoicgfcngciaaGreatDoorR09
import Derived.Below
set_option linter.unusedSimpArgs false
set_option linter.unusedVariables false
set_option maxRecDepth 100000
set_option maxHeartbeats 4000000

section
namespace Go.Hm
open Go Go.RowKit
def pRows (n : Nm) (p : Prg) : List (List AV) := p.mapIdx (fun i k => [iv k.kind, iv k.parent, .hs (.c n i 2) 1 0 k.params.length, .hs (.c n i 3) 4 0 k.body.length])
structure OwnP (hp : Nm → Option AO) (n : Nm) (p : Prg) : Prop where
  top : hp n = some (.row 4 (pRows n p))
  params : ∀ (i : Nat) k, p[i]? = some k → hp (.c n i 2) = some (.row 1 (irows k.params))
  body : ∀ (i : Nat) k, p[i]? = some k → hp (.c n i 3) = some (.row 4 (srows k.body))
section
variable {p : Prg} {i a b d l : Nat} {n q k1 : Nm} {k : Blk}
@[simp] theorem pRows_len : (pRows n p).length = p.length := by simp [pRows]
@[simp] theorem pRows_get : (pRows n p)[i]? = (p[i]?).map (fun k => [iv k.kind, iv k.parent, .hs (.c n i 2) 1 0 k.params.length, .hs (.c n i 3) 4 0 k.body.length]) := by simp [pRows]
@[simp] theorem pRows_getE {h : i < (pRows n p).length} : (pRows n p)[i] = [iv (p[i]'(by simpa using h)).kind, iv (p[i]'(by simpa using h)).parent, .hs (.c n i 2) 1 0 (p[i]'(by simpa using h)).params.length, .hs (.c n i 3) 4 0 (p[i]'(by simpa using h)).body.length] := by simp [pRows]
@[simp] theorem pRows_nil : pRows n [] = [] := rfl
@[simp] theorem pRows_take : (pRows n p).take p.length = pRows n p := List.take_of_length_le (by simp)
theorem pRows_app : pRows n (p ++ [k]) = pRows n p ++ [[iv k.kind, iv k.parent, .hs (.c n p.length 2) 1 0 k.params.length, .hs (.c n p.length 3) 4 0 k.body.length]] := by simp [pRows]
theorem pRows_tr {f : Nm → Option Nm} {m : Nm} (h : ∀ i j, i < p.length → f (.c n i j) = some (.c m i j)) : (pRows n p).map (fun r => r.map (AV.tr f)) = pRows m p := by
  apply List.ext_getElem?
  intro i
  simp only [List.getElem?_map, pRows_get, Option.map_map]
  cases hx : p[i]? with
  | none => rfl
  | some x => simp [h i _ (gS hx).1]
@[simp] theorem pRows_kl (h : Nm.under (.s d) n = false) : (pRows n p).map (fun r => r.map (AV.tr (kl (.s d)))) = pRows n p := pRows_tr (by simp [h])
@[simp] theorem pRows_mv3 (h : Nm.under (.s a) n = false) (hq : (q = n) = False) (hq' : Nm.under (.c q b l) n = false) : (pRows n p).map (fun r => r.map (AV.tr (mv (.s a) (.c q b l)))) = pRows n p := by
  have : ¬ n = q := fun e => by simp [e] at hq
  exact pRows_tr (by simp [h, hq', this])
@[simp] theorem pRows_mvc : (pRows n p).map (fun r => r.map (AV.tr (mvc n k1))) = pRows k1 p := by
  refine pRows_tr fun i j _ => ?_
  have : Nm.c n i j ≠ n := Nm.not_under_c (Nm.under_self n)
  simp [this]
@[simp] theorem pRows_mv4 {j : Nat} (hq : (q = n) = False) (hq' : Nm.under (.c q a b) n = false) (hl : p.length ≤ l) : (pRows n p).map (fun r => r.map (AV.tr (mv (.c q a b) (.c n l j)))) = pRows n p := by
  have h1 : ¬ n = q := fun e => by simp [e] at hq
  have h2 : Nm.under (.c n l j) n = false := by
    cases h : Nm.under (.c n l j) n with
    | false => rfl
    | true => exact absurd rfl (Nm.under_not_c h).2
  refine pRows_tr fun i j hi => ?_
  have h3 : ¬ i = l := by omega
  simp [h1, hq', h2, h3]
end
theorem bw_prog {hp : Nm → Option AO} {n : Nm} {len : Nat} {p : Prg} (h : OwnP hp n p) (hl : len = p.length) : Bw hp noD (.hs n 4 0 len) (ksl p) := by
  subst hl
  refine .hs n 4 0 p.length (pRows n p) (krows p) rfl h.top (by simp) (by simp) (by simp [krows]) fun i r r' hr hr' j a a' ha ha' => ?_
  rw [Nat.zero_add, pRows_get] at hr
  rw [krows_get] at hr'
  obtain ⟨x, hx, rfl⟩ := Option.map_eq_some_iff.1 hr
  rw [hx] at hr'
  obtain rfl := Option.some.inj hr'
  match j, ha, ha' with
  | 0, ha, ha' => obtain rfl := Option.some.inj ha; obtain rfl := Option.some.inj ha'; exact .refl _
  | 1, ha, ha' => obtain rfl := Option.some.inj ha; obtain rfl := Option.some.inj ha'; exact .refl _
  | 2, ha, ha' => obtain rfl := Option.some.inj ha; obtain rfl := Option.some.inj ha'; exact bw_ints (h.params i x hx) rfl
  | 3, ha, ha' => obtain rfl := Option.some.inj ha; obtain rfl := Option.some.inj ha'; exact bw_stms (h.body i x hx) rfl
  | j + 4, ha, _ => simp at ha
theorem bw_agg1 {hp : Nm → Option AO} {x y : AV} (h : Bw hp noD x y) : Bw hp noD (.agg [x]) (.agg [y]) := by
  refine .agg [x] [y] rfl fun j a a' ha ha' => ?_
  cases j with
  | zero => obtain rfl := Option.some.inj ha; obtain rfl := Option.some.inj ha'; exact h
  | succ j => simp at ha
theorem OwnP.hcln {H' : Nm → Option AO} {n : Nm} {p : Prg} (h : OwnP H' n p) : OwnP (hcln H') n p := by
  refine ⟨hcln_row h.top ?_, fun i k hk => hcln_row (h.params i k hk) (by simp), fun i k hk => hcln_row (h.body i k hk) (by simp)⟩
  simp only [pRows, List.all_eq_true]
  intro r hr
  obtain ⟨i, hi⟩ := List.getElem?_of_mem hr
  rw [List.getElem?_mapIdx] at hi
  obtain ⟨x, _, rfl⟩ := Option.map_eq_some_iff.1 hi
  simp
end Go.Hm
end
section
namespace Go.Hm
open Go Go.RowKit
def setBody (p : Prg) (i : Nat) (L : List Stm) : Prg := p.modify i (fun k => { k with body := L })
@[simp] theorem setBody_len {p : Prg} {i : Nat} {L : List Stm} : (setBody p i L).length = p.length := by simp [setBody]
theorem setBody_get {p : Prg} {i j : Nat} {L : List Stm} {k : Blk} (h : p[j]? = some k) : (setBody p i L)[j]? = some (if i = j then { k with body := L } else k) := by
  simp only [setBody, List.getElem?_modify, h]
  by_cases e : i = j <;> simp [e]
theorem pRows_set {n : Nm} {a i len : Nat} {p : Prg} {L : List Stm} (hl : len = L.length) (hn : Nm.under (.s a) n = false) (hn' : Nm.under (.c n i 3) n = false) :
    (rowsSet (pRows n p) i 3 [.hs (.s a) 4 0 len]).map (fun r => r.map (AV.tr (mv (.s a) (.c n i 3)))) = pRows n (setBody p i L) := by
  subst hl
  apply List.ext_getElem?
  intro j
  simp only [rowsSet, List.getElem?_map, List.getElem?_modify, pRows_get]
  cases hx : p[j]? with
  | none =>
    have : (setBody p i L)[j]? = none := by
      rw [List.getElem?_eq_none_iff, setBody_len]
      exact List.getElem?_eq_none_iff.1 hx
    simp [this]
  | some x =>
    rw [setBody_get hx]
    by_cases e : i = j
    · subst e
      simp [hn, hn']
    · have e' : ¬ j = i := fun h => e h.symm
      simp [hn, hn', e, e']
theorem a_gq {X : Ctx} {st : St} {K : St → Prop} {ds : List (Option Nat)} {l : List Oper} {i j e : Nat} {want t : Bool} {r : Sch} {dst : Option Nat} {op : Op} {ty : TypeId} {pos : String} {aft : Array Edge} (_ho : l[i]? = some ⟨dst, op, ty, pos, aft, some (j, want)⟩) (_hj : ds[j]? = some (some e)) (ht : st.tm e = .sc (.bool t))
    (h1 : t = true → arun X l ds K (.q i r) (st.put (some e) (.sc (.bool true)))) (h2 : t = false → arun X l ds K (.q i r) (st.put (some e) (.sc (.bool false)))) : arun X l ds K (.q i r) st := a_gs e ht h1 h2
theorem fx0 : Nm.under (.s 0) (.s 0) = true := Nm.under_self _
theorem bne_def {x y : Int} : (x != y) = !(x == y) := rfl
section
variable {X : Ctx} {st : St} {K : St → Prop} {E : AV → St → Prop} {ds : List (Option Nat)} {l : List Oper}
variable {d : Nat} {ty : TypeId} {pos : String} {aft : Array Edge} {g : Option (Nat × Bool)} {st' st1 : St}
theorem x_q {op : Op} {z : AV} (hd : d < X.n := by first | (simp; done) | fail) (hz : qev X.P st ⟨some d, op, ty, pos, aft, g⟩ = some z := by simp [fx]; first | done | rfl | exact (Bool.not_not _).symm) (h : K (st.put (some d) z)) : SemOp X ⟨some d, op, ty, pos, aft, g⟩ K E st := o_q hd hz h
theorem x_assign {x : Operand} (hd : d < X.n := by first | (simp; done) | fail) (hs : asgSt X.P ty d (ev st x) st = st' := by simp [fx]; first | done | rfl | exact (Bool.not_not _).symm) (h : K st') : SemOp X ⟨some d, .assign x, ty, pos, aft, g⟩ K E st := o_assign hd hs h
theorem x_box {T : TypeId} {x : Operand} {cs : List AV} (hd : d < X.n := by first | (simp; done) | fail) (hq : (ev st x).cells = some cs := by simp [fx]; first | done | rfl | exact (Bool.not_not _).symm) (hz : cs.length = tsz X.P T := by first | (simp [fx]; done) | fail)
    (hs : boxSt X.P T d cs st = st' := by simp [fx]; first | done | rfl | exact (Bool.not_not _).symm) (h : K st') : SemOp X ⟨some d, .box T x, ty, pos, aft, g⟩ K E st := o_box hd hq hz hs h
theorem x_alloc {T : TypeId} {zs : List AV} (hd : d < X.n := by first | (simp; done) | fail) (hq : zvals X.P T = some zs := by simp [fx]; first | done | rfl | exact (Bool.not_not _).symm) (hs : boxSt X.P T d zs st = st' := by simp [fx]; first | done | rfl | exact (Bool.not_not _).symm) (h : K st') : SemOp X ⟨some d, .alloc T, ty, pos, aft, g⟩ K E st := o_alloc hd hq hs h
theorem x_store0 {T : TypeId} {p x : Operand} {n : Nm} {z i off : Nat} {v0 : List AV} {rows : List (List AV)} (hT : (X.P.info? T).isSome = true := by first | (simp [fx]; done) | fail) (hv0 : (ev st x).cells = some v0 := by simp [fx]; first | done | rfl | exact (Bool.not_not _).symm)
    (hnil : v0.all (fun x => !isNilS x) = true := by first | (simp [fx]; done) | fail) (hlen : v0.length = tsz X.P T := by first | (simp [fx]; done) | fail)
    (hp : pl (ev st p) = some (n, i, off) := by simp [fx]; first | done | rfl | exact ⟨rfl, rfl⟩ | exact ⟨rfl, rfl, rfl⟩) (hrows : rowsAt st (ev st p) = some (z, rows) := by simp [fx]; first | done | rfl | exact ⟨rfl, rfl⟩ | exact ⟨rfl, rfl, rfl⟩)
    (hi : i < rows.length := by first | (simp [fx]; done) | (simp [fx]; omega) | omega) (hoff : off + v0.length ≤ z := by first | (simp [fx]; done) | (simp [fx]; omega) | omega)
    (hs : canon (prs (fun j => .c n i (off + j)) 0 v0) (st.setO n (.row z (rowsSet rows i off v0))) = st' := by simp [fx]; first | done | rfl | exact (Bool.not_not _).symm) (h : K st') :
    SemOp X ⟨none, .store T p x, ty, pos, aft, g⟩ K E st := o_store0 hT hv0 hnil hlen hp hrows hi hoff hs h
theorem x_store {T : TypeId} {p x : Operand} {n : Nm} {z i off : Nat} {v0 v1 : List AV} {rows : List (List AV)} (hT : (X.P.info? T).isSome = true := by first | (simp [fx]; done) | fail) (hv0 : (ev st x).cells = some v0 := by simp [fx]; first | done | rfl | exact (Bool.not_not _).symm)
    (hlen : v0.length = tsz X.P T := by first | (simp [fx]; done) | fail)
    (hp : pl (ev st p) = some (n, i, off) := by simp [fx]; first | done | rfl | exact ⟨rfl, rfl⟩ | exact ⟨rfl, rfl, rfl⟩) (hk : stoK X.P T n i off v0 st = st1 := by simp [fx]; first | done | rfl | exact (Bool.not_not _).symm)
    (hp1 : pl (ev st1 p) = some (n, i, off) := by simp [fx]; first | done | rfl | exact ⟨rfl, rfl⟩ | exact ⟨rfl, rfl, rfl⟩) (hv1 : (ev st1 x).cells = some v1 := by simp [fx]; first | done | rfl | exact (Bool.not_not _).symm)
    (hsame : v1.map isNilS = v0.map isNilS := by first | (simp [fx]; done) | fail) (hrows : rowsAt st1 (ev st1 p) = some (z, rows) := by simp [fx]; first | done | rfl | exact ⟨rfl, rfl⟩ | exact ⟨rfl, rfl, rfl⟩)
    (hi : i < rows.length := by first | (simp [fx]; done) | (simp [fx]; omega) | omega) (hoff : off + v1.length ≤ z := by first | (simp [fx]; done) | (simp [fx]; omega) | omega)
    (hs : stoSt n z i off rows (stoV X.P T n i off v1) st1 = st' := by simp [fx]; first | done | rfl | exact (Bool.not_not _).symm) (h : K st') : SemOp X ⟨none, .store T p x, ty, pos, aft, g⟩ K E st := o_store hT hv0 hlen hp hk hp1 hv1 hsame hrows hi hoff hs h
theorem x_append0 {T F : TypeId} {s x : Operand} {z : Nat} {rows2 : List (List AV)} (hd : d < X.n := by first | (simp; done) | fail) (hT : tapp X.P T = some F := by simp [fx]; first | done | rfl) (hz : tsz X.P F = z := by simp [fx]; first | done | rfl) (hs : ev st s = .sc (.slice none 0 0) := by first | (simp [fx]; done) | fail)
    (hx : srcRows st z (ev st x) = some rows2 := by simp [fx]; first | done | rfl) (hlen : rows2.length ≤ 4294967296 := by first | (simp [fx]; done) | (simp [fx]; omega) | omega)
    (hq : apSt d z rows2.length none rows2 st = st' := by simp [fx]; first | done | rfl | exact (Bool.not_not _).symm) (h : K st') : SemOp X ⟨some d, .call ⟨.builtin .append, #[s, x], #[T, T]⟩, ty, pos, aft, g⟩ K E st := o_append0 hd hT hz hs hx hlen hq h
theorem x_append {T F : TypeId} {s x : Operand} {z len : Nat} {n : Nm} {rows0 rows2 : List (List AV)} (hd : d < X.n := by first | (simp; done) | fail) (hT : tapp X.P T = some F := by simp [fx]; first | done | rfl) (hz : tsz X.P F = z := by simp [fx]; first | done | rfl) (hs : ev st s = .hs n z 0 len := by simp [fx]; first | done | rfl | exact ⟨rfl, rfl⟩ | exact ⟨rfl, rfl, rfl⟩)
    (hn : st.hp n = some (.row z rows0) := by simp [fx]; first | done | rfl) (hle : len ≤ rows0.length := by first | (simp [fx]; done) | (simp [fx]; omega) | omega)
    (hx : srcRows st z (ev st x) = some rows2 := by simp [fx]; first | done | rfl) (hlen : len + rows2.length ≤ 4294967296 := by first | (simp [fx]; done) | (simp [fx]; omega) | omega)
    (hq : apSt d z (len + rows2.length) (some n) (rows0.take len ++ rows2) st = st' := by simp [fx]; first | done | rfl | exact (Bool.not_not _).symm) (h : K st') : SemOp X ⟨some d, .call ⟨.builtin .append, #[s, x], #[T, T]⟩, ty, pos, aft, g⟩ K E st := o_append hd hT hz hs hn hle hx hlen hq h
theorem x_make {T F : TypeId} {x y : Operand} {ln z : Nat} {k k' : IntKind} {zv : List AV} (hd : d < X.n := by first | (simp; done) | fail) (hx : ev st x = .sc (.int k ln) := by simp [fx]; first | done | rfl | exact ⟨rfl, rfl⟩) (hy : ev st y = .sc (.int k' ln) := by simp [fx]; first | done | rfl | exact ⟨rfl, rfl⟩)
    (hE : tapp X.P T = some F := by simp [fx]; first | done | rfl) (hz : tsz X.P F = z := by simp [fx]; first | done | rfl) (hzv : zvals X.P F = some zv := by simp [fx]; first | done | rfl) (hl : ln ≤ 4294967296 := by first | (simp [fx]; done) | (simp [fx]; omega) | omega)
    (hq : mkSt d z ln zv st = st' := by simp [fx]; first | done | rfl | exact (Bool.not_not _).symm) (h : K st') : SemOp X ⟨some d, .makeSlice T x y, ty, pos, aft, g⟩ K E st := o_make hd hx hy hE hz hzv hl hq h
theorem x_build {T F : TypeId} {len z : Nat} {parts : Array (Nat × Operand)} {rows : List (List AV)} (hd : d < X.n := by first | (simp; done) | fail) (hE : tapp X.P T = some F := by simp [fx]; first | done | rfl) (hz : tsz X.P F = z := by simp [fx]; first | done | rfl) (hrows : rowsOf st parts.toList = some rows := by simp [fx]; first | done | rfl)
    (c1 : parts.toList.map (·.1) = List.range len := by decide) (c2 : len * z ≤ 16777216 := by decide) (c3 : rows.all (fun r => r.length == z) = true := by first | (simp [fx]; done) | fail)
    (hs : bsSt X.P F d z rows st = st' := by simp [fx]; first | done | rfl | exact (Bool.not_not _).symm) (h : K st') : SemOp X ⟨some d, .buildSlice T len parts, ty, pos, aft, g⟩ K E st := o_build hd hE hz hrows c1 c2 c3 hs h
section
variable {f : Nat} {args : Array Operand} {Ts : Array TypeId} {az avs : List AV}
theorem x_call {x : AV} (hd : d < X.n := by first | (simp; done) | fail) (ha : args.toList.map (ev st) = avs := by simp [fx]; first | done | rfl | exact (Bool.not_not _).symm)
    (hB : BwL st.hp noD avs az := by
      first
      | ((repeat' (first | exact .nil | refine .cons ?_ ?_ | exact .refl _ | exact bw_ints (by simp [fx]; first | done | rfl) (by first | (simp [fx]; done) | (simp [fx]; omega) | omega) | exact bw_list (by simp [fx]; first | done | rfl) (by first | (simp [fx]; done) | (simp [fx]; omega) | omega) (by first | (simp; done) | fail))); done)
      | fail)
    (hF : FnOk X.P X.gl f az (fun _ y _ => y = x)) (hc : x.cln = true := by first | (simp [fx]; done) | fail) (h : K ((st.kill (.s d)).put (some d) x)) :
    SemOp X ⟨some d, .call ⟨.value (.func f), args, Ts⟩, ty, pos, aft, g⟩ K E st := o_call hd ha hB hF hc h
theorem x_callh {z n : Nat} {rows : List (List AV)} (hd : d < X.n := by first | (simp; done) | fail) (ha : args.toList.map (ev st) = avs := by simp [fx]; first | done | rfl | exact (Bool.not_not _).symm)
    (hB : BwL st.hp noD avs az := by
      first
      | ((repeat' (first | exact .nil | refine .cons ?_ ?_ | exact .refl _ | exact bw_ints (by simp [fx]; first | done | rfl) (by first | (simp [fx]; done) | (simp [fx]; omega) | omega) | exact bw_list (by simp [fx]; first | done | rfl) (by first | (simp [fx]; done) | (simp [fx]; omega) | omega) (by first | (simp; done) | fail))); done)
      | fail)
    (hF : FnOk X.P X.gl f az (fun r y H' => y = .hs r z 0 n ∧ H' r = some (.row z rows))) (hc : rows.all (fun r => r.all AV.cln) = true := by first | (simp; done) | fail)
    (h : K (((st.kill (.s d)).setO (.s d) (.row z rows)).put (some d) (.hs (.s d) z 0 n))) : SemOp X ⟨some d, .call ⟨.value (.func f), args, Ts⟩, ty, pos, aft, g⟩ K E st := o_callh hd ha hB hF hc h
end
end
section
variable {X : Ctx} {st : St} {K : St → Prop} {E : AV → St → Prop} {ds : List (Option Nat)} {l : List Oper} {dst : Option Nat} {op : Op} {ty : TypeId} {pos : String} {aft : Array Edge} {i j e : Nat} {want : Bool} {v : AV}
theorem x_guard (hj : ds[j]? = some (some e) := by rfl) (ht : st.tm e = v := by simp [fx]; first | done | rfl | exact (Bool.not_not _).symm) (h : Gx X ds K E l st dst op ty pos aft j want e v) : SemL X ds K E (⟨dst, op, ty, pos, aft, some (j, want)⟩ :: l) st := s_guard hj ht h
theorem x_tf (hn : ∀ e, dst = some e → e < X.n := by first | (simp; done) | fail) (h : SemL X ds K E l (st.put dst (.sc undef))) : Gx X ds K E l st dst op ty pos aft j true e (.sc (.bool false)) := gx_tf hn h
theorem x_ft (hn : ∀ e, dst = some e → e < X.n := by first | (simp; done) | fail) (h : SemL X ds K E l (st.put dst (.sc undef))) : Gx X ds K E l st dst op ty pos aft j false e (.sc (.bool true)) := gx_ft hn h
theorem x_u (hn : ∀ e, dst = some e → e < X.n := by first | (simp; done) | fail) (h : SemL X ds K E l (st.put dst (.sc undef))) : Gx X ds K E l st dst op ty pos aft j want e (.sc undef) := gx_u hn h
theorem x_condt {c : Operand} {x y : Code} {Q : Ex → St → Prop} (ht : ev st c = .sc (.bool true) := by first | (simp [fx]; done) | fail) (h1 : SemCode X x Q st) : SemCode X (.cond c x y) Q st := w_cond_t h1 ht
theorem x_condf {c : Operand} {x y : Code} {Q : Ex → St → Prop} (ht : ev st c = .sc (.bool false) := by first | (simp [fx]; done) | fail) (h1 : SemCode X y Q st) : SemCode X (.cond c x y) Q st := w_cond_f h1 ht
theorem x_if {c : Nat} {x y : Code} {Q : Ex → St → Prop} {t : Bool} (ht : st.tm c = .sc (.bool t) := by simp [fx]; first | done | rfl | exact (Bool.not_not _).symm) (h1 : t = true → SemCode X x Q (st.put (some c) (.sc (.bool true)))) (h2 : t = false → SemCode X y Q (st.put (some c) (.sc (.bool false)))) : SemCode X (.cond (.tmp c) x y) Q st := w_if ht h1 h2
theorem xa_q {d : Nat} {r : Sch} {z : AV} (ho : l[i]? = some ⟨some d, op, ty, pos, aft, none⟩ := by rfl) (hd : d < X.n := by first | (simp; done) | fail) (hz : qev X.P st ⟨some d, op, ty, pos, aft, none⟩ = some z := by simp [fx]; first | done | rfl | exact (Bool.not_not _).symm) (h : arun X l ds K r (st.put (some d) z)) : arun X l ds K (.q i r) st := a_q ho hd hz h
theorem xa_qt {d : Nat} {r : Sch} {z : AV} (ho : l[i]? = some ⟨some d, op, ty, pos, aft, some (j, want)⟩ := by rfl) (hj : ds[j]? = some (some e) := by rfl) (ht : st.tm e = .sc (.bool want) := by first | (simp [fx]; done) | fail) (hd : d < X.n := by first | (simp; done) | fail)
    (hz : qev X.P st ⟨some d, op, ty, pos, aft, some (j, want)⟩ = some z := by simp [fx]; first | done | rfl | exact (Bool.not_not _).symm) (h : arun X l ds K r (st.put (some d) z)) : arun X l ds K (.q i r) st := a_qt ho hj ht hd hz h
theorem xa_qf {d : Nat} {r : Sch} (ho : l[i]? = some ⟨some d, op, ty, pos, aft, some (j, want)⟩ := by rfl) (hj : ds[j]? = some (some e) := by rfl) (ht : st.tm e = .sc (.bool (!want)) := by first | (simp [fx]; done) | fail) (hd : d < X.n := by first | (simp; done) | fail)
    (h : arun X l ds K r (st.put (some d) (.sc undef))) : arun X l ds K (.q i r) st := a_qf ho hj ht hd h
theorem xa_qu {d : Nat} {r : Sch} (ho : l[i]? = some ⟨some d, op, ty, pos, aft, some (j, want)⟩ := by rfl) (hj : ds[j]? = some (some e) := by rfl) (ht : st.tm e = .sc undef := by first | (simp [fx]; done) | fail) (hd : d < X.n := by first | (simp; done) | fail)
    (h : arun X l ds K r (st.put (some d) (.sc undef))) : arun X l ds K (.q i r) st := a_qu ho hj ht hd h
theorem xa_gq {t : Bool} {r : Sch} (ho : l[i]? = some ⟨dst, op, ty, pos, aft, some (j, want)⟩ := by rfl) (hj : ds[j]? = some (some e) := by rfl) (ht : st.tm e = .sc (.bool t) := by simp [fx]; first | done | rfl | exact (Bool.not_not _).symm)
    (h1 : t = true → arun X l ds K (.q i r) (st.put (some e) (.sc (.bool true)))) (h2 : t = false → arun X l ds K (.q i r) (st.put (some e) (.sc (.bool false)))) : arun X l ds K (.q i r) st := a_gq ho hj ht h1 h2
theorem xa_st {q : Nat} {ps : List Nat} {o : Oper} (ho : l[q]? = some o := by rfl) (h1 : stab1 X ds o st := by first | (simp [stab1, fx]; done) | (simp [stab1, undef, fx]; done) | fail) (h2 : stabs X l ds ps st) : stabs X l ds (q :: ps) st := st_cons ho h1 h2
end
end Go.Hm
end
section
namespace Go.Hm
open Go Go.RowKit
def mkN (ss : List Stm) (b : Int) : Nat := (ss.filter (fun s => makes s b)).length
def madeN (p : Prg) (b : Int) : Nat → Nat
  | 0 => 0
  | n + 1 => madeN p b n + (match p[n]? with | some q => mkN q.body b | none => 0)
theorem mkN_le (ss : List Stm) (b : Int) : mkN ss b ≤ ss.length := List.length_filter_le _ _
theorem mkN_succ {ss : List Stm} {b : Int} {j : Nat} {s : Stm} (h : ss[j]? = some s) : mkN (ss.take (j + 1)) b = mkN (ss.take j) b + (if makes s b then 1 else 0) := by
  simp only [mkN]
  rw [take_succ_filter h]
  split <;> simp
theorem madeN_le {p : Prg} {b : Int} {m : Nat} (h : ∀ q ∈ p, q.body.length ≤ m) : ∀ n, madeN p b n ≤ n * m
  | 0 => by simp [madeN]
  | n + 1 => by
    have := madeN_le (b := b) h n
    simp only [madeN, Nat.add_mul]
    cases hq : p[n]? with
    | none => simp; omega
    | some q =>
      have h1 := mkN_le q.body b
      have h2 := h q (List.mem_of_getElem? hq)
      simp
      omega
def madeL (p : Prg) (ss : List Stm) (n : Nat) : List Int := (List.range 7).map (fun k : Nat => ((madeN p k n + mkN ss k : Nat) : Int))
theorem madeL_get {p : Prg} {ss : List Stm} {n k : Nat} (h : k < 7) : (madeL p ss n)[k]? = some ((madeN p k n + mkN ss k : Nat) : Int) := by
  simp [madeL, h]
theorem madeL_set {p : Prg} {ss : List Stm} {n j k : Nat} {s : Stm} (hs : ss[j]? = some s) (hk : s.a = k) (hm : s.kind = 3 ∨ s.kind = 4) (h7 : k < 7) :
    (madeL p (ss.take j) n).set k (((madeN p k n + mkN (ss.take j) k : Nat) : Int) + 1) = madeL p (ss.take (j + 1)) n := by
  apply List.ext_getElem?
  intro i
  simp only [madeL, List.getElem?_set, List.length_map, List.length_range, List.getElem?_map]
  by_cases hi : k = i
  · subst hi
    have : makes s k = true := by simp [makes, hm, hk]
    simp [h7, mkN_succ hs, this]
    omega
  · rw [if_neg hi]
    by_cases h : i < 7
    · have : makes s i = false := by
        simp only [makes, hk, Bool.and_eq_false_iff]
        right
        simp
        omega
      simp [h, mkN_succ hs, this]
    · simp [h]
theorem madeL_skip {p : Prg} {ss : List Stm} {n j : Nat} {s : Stm} (hs : ss[j]? = some s) (hm : ¬ (s.kind = 3 ∨ s.kind = 4)) : madeL p (ss.take (j + 1)) n = madeL p (ss.take j) n := by
  simp only [madeL]
  apply List.map_congr_left
  intro k _
  have : makes s k = false := by
    simp only [not_or] at hm
    simp [makes, hm]
  simp [mkN_succ hs, this]
theorem madeL_next {p : Prg} {n : Nat} {q : Blk} (h : p[n]? = some q) : madeL p q.body n = madeL p [] (n + 1) := by
  simp [madeL, madeN, h, mkN]
theorem madeN_eq {p : Prg} {b : Nat} {k : Blk} (hp : Heads p) (hk : p[b]? = some k) (hv : ∀ (i : Nat) q, p[i]? = some q → ∀ s ∈ q.body, StmOk p i q s = true) (hpar : 0 ≤ k.parent) : ∀ n, n ≤ p.length → (madeN p b n : Int) = if k.parent < n then madeIn p b else 0
  | 0, _ => by simp [madeN]; omega
  | n + 1, hn => by
    have ih := madeN_eq hp hk hv hpar n (by omega)
    obtain ⟨q, hq⟩ : ∃ q, p[n]? = some q := ⟨_, gE (by omega)⟩
    simp only [madeN, hq]
    by_cases e : k.parent = n
    · have h1 : ¬ k.parent < n := by omega
      rw [if_neg h1] at ih
      rw [if_pos (by omega)]
      have h2 : madeN p b n = 0 := by omega
      simp [madeIn, hk, e, hq, h2, mkN]
    · have h0 : mkN q.body b = 0 := by
        simp only [mkN, List.length_eq_zero_iff, List.filter_eq_nil_iff]
        intro s hs hm
        have hok := hv n q hq s hs
        simp only [makes, Bool.and_eq_true, Bool.or_eq_true, beq_iff_eq] at hm
        obtain ⟨hkind, ha⟩ := hm
        have key : ∀ d, madeAs p n s.a d = true → False := by
          intro d hd
          simp only [madeAs, ha, Int.toNat_natCast, hk, Bool.and_eq_true, beq_iff_eq] at hd
          exact e hd.2.2
        rcases hkind with h3 | h4
        · simp [StmOk, h3] at hok
          exact key 1 hok.2.2
        · simp [StmOk, h4] at hok
          exact key 2 hok.2.2
      rw [h0]
      simp only [Nat.add_zero, ih]
      by_cases h1 : k.parent < n
      · rw [if_pos h1, if_pos (by omega)]
      · rw [if_neg h1, if_neg (by omega)]
theorem madeN_at {p : Prg} {b : Nat} {k : Blk} (hp : Heads p) (hk : p[b]? = some k) (hv : ∀ (i : Nat) q, p[i]? = some q → ∀ s ∈ q.body, StmOk p i q s = true) (hpar : 0 ≤ k.parent) : (madeN p b p.length : Int) = madeIn p b := by
  have hb := (gS hk).1
  have := (hp b k hk).2.1
  rw [madeN_eq hp hk hv hpar _ (Nat.le_refl _), if_pos (by omega)]
@[simp] theorem tr_comp_iv {f : Nm → Option Nm} : AV.tr f ∘ iv = iv := rfl
theorem iv_set {A : List Int} {a : Nat} {v : Int} (h : a < A.length) : (A.map iv).take a ++ iv v :: (A.map iv).drop (a + 1) = (A.set a v).map iv := by
  rw [List.set_eq_take_append_cons_drop, if_pos h]
  simp
def bset (l : List Int) : List AV := (List.range 8).map (fun x : Nat => bv (decide ((x : Int) ∈ l)))
section
variable {l l' : List Int} {f : Nm → Option Nm} {x : Nat}
@[simp] theorem bset_len : (bset l).length = 8 := by simp [bset]
theorem bset_get (h : x < 8) : (bset l)[x]? = some (bv (decide ((x : Int) ∈ l))) := by simp [bset, h]
@[simp] theorem bset_map : (bset l).map (AV.tr f) = bset l := by simp [bset]
@[simp] theorem bset_take : (bset l).take 8 = bset l := List.take_of_length_le (by simp)
@[simp] theorem bset_one : (bset l).all AV.one = true := by simp [bset]
@[simp] theorem bset_cln : (bset l).all AV.cln = true := by simp [bset]
@[simp] theorem bset_nil : (bset l).all (fun x => !isNilS x) = true := by simp [bset]
theorem prs_none {key : Nat → Nm} : ∀ {v : List AV} {j : Nat}, (∀ x ∈ v, sNm x = none) → prs key j v = []
  | [], _, _ => rfl
  | x :: l, j, h => by
    rw [prs_cons, h x (by simp)]
    exact prs_none fun y hy => h y (by simp [hy])
@[simp] theorem bset_prs {key : Nat → Nm} {j : Nat} : prs key j (bset l) = [] := prs_none (by simp [bset])
@[simp] theorem bset_nk {key : Nat → Nm} {es : List Nat} {j : Nat} : nilKeys key es j (bset l) = [] := nilKeys_none bset_nil
@[simp] theorem bset_zcs {key : Nat → Nm} {es : List Nat} {j : Nat} : zcs key es j (bset l) = bset l := zcs_none bset_nil
theorem bset_congr (h : ∀ x : Int, 0 ≤ x → x ≤ 7 → (x ∈ l ↔ x ∈ l')) : bset l = bset l' := by
  simp only [bset]
  apply List.map_congr_left
  intro x hx
  have hx := List.mem_range.1 hx
  have := h x (by omega) (by omega)
  simp [this]
theorem bset_sorted : bset (sorted l) = bset l := bset_congr fun x h1 h2 => by rw [mem_sorted]; exact ⟨fun h => h.1, fun h => ⟨h, h1, h2⟩⟩
theorem bset_add {y : Int} (hy : y = x) (h : x < 8) : (bset l).take x ++ bv true :: (bset l).drop (x + 1) = bset (l ++ [y]) := by
  subst hy
  apply List.ext_getElem?
  intro i
  have hl : x < (bset l).length := by simp; omega
  have hset := List.set_eq_take_append_cons_drop (l := bset l) (i := x) (a := bv true)
  rw [if_pos hl] at hset
  rw [← hset]
  simp only [bset, List.getElem?_set, List.length_map, List.length_range, List.getElem?_map]
  by_cases e : x = i
  · subst e
    simp [h]
  · rw [if_neg e]
    by_cases hi : i < 8
    · have : ¬ (i : Int) = x := by omega
      simp [hi, this]
    · simp [hi]
end
section
variable {X : Ctx} {st : St} {K : St → Prop} {E : AV → St → Prop}
theorem sem_calle {o : Oper} {f : FuncId} {az avs : List AV} {R : Nm → AV → (Nm → Option AO) → Prop} {d : Nat} (hEnt : Ent X.P st o f avs) (hd : o.dst = some d) (hn : d < X.n) (hF : FnOk X.P X.gl f az R)
    (hB : BwL st.hp noD avs az) (hK : ∀ x H', R (.s d) x H' → K ((st.call d noD noH (hcln H')).put (some d) (xcln x))) : SemOp X o K E st := by
  refine call_sem (D := noD) (H := noH) (R := R) hF hEnt true hB (fun _ _ => rfl) (fun n h => by cases h) (fun n h => absurd rfl h) (fun k i j _ => .inl rfl) (fun e he => by rw [hd] at he; obtain rfl := Option.some.inj he; exact hn) ?_ (fun _ _ h => h.elim)
  intro x H' hR
  rw [hd] at hR ⊢
  exact hK x H' hR
def InvOk (P : Program) (gl : Nat → Option (List AV)) (name : String) (x : AV) (R : Nm → AV → (Nm → Option AO) → Prop) : Prop := ∃ t y f, x = .ifc t y ∧ mtab P t name = some f ∧ FnOk P gl f [y] R
variable {d : Nat} {ty : TypeId} {pos : String} {aft : Array Edge} {g : Option (Nat × Bool)} {c : Operand} {name : String} {Ts : Array TypeId} {x : AV}
theorem x_invh {z n : Nat} {rows : List (List AV)} (hd : d < X.n := by first | (simp; done) | fail) (hv : ev st c = x := by simp [fx]; first | done | rfl) (hF : InvOk X.P X.gl name x (fun r y H' => y = .hs r z 0 n ∧ H' r = some (.row z rows))) (hc : rows.all (fun r => r.all AV.cln) = true := by first | (simp; done) | fail)
    (h : K (((st.kill (.s d)).setO (.s d) (.row z rows)).put (some d) (.hs (.s d) z 0 n))) : SemOp X ⟨some d, .call ⟨.invoke c name, #[], Ts⟩, ty, pos, aft, g⟩ K E st := by
  obtain ⟨t, y, f, rfl, hm, hF⟩ := hF
  refine (SemOp.weak (sem_calle (K := fun s => ∃ H', s = (st.call d noD noH H').put (some d) (.hs (.s d) z 0 n) ∧ H' (.s d) = some (.row z rows)) (ent_inv hF.1 rfl hv hm) rfl hd hF (.cons (.refl _) .nil) ?_) ?_)
  · rintro y H' ⟨rfl, e⟩
    exact ⟨_, rfl, by simp [hcln, e, AO.cln, hc]⟩
  · rintro s ⟨H', rfl, e'⟩
    refine ⟨((st.kill (.s d)).setO (.s d) (.row z rows)).hp, fun m ob e => ?_, ?_⟩
    · simp only [St.kill, St.nm, hkl, St.setO] at e
      simp only [St.put, St.call, St.nm]
      split at e
      · rename_i hm
        subst hm
        simp [e', e]
      · split at e
        · cases e
        · rename_i hu
          simp [hu, noD, cf_noD, e]
    · simpa only [St.put, St.call, St.nm, St.kill, St.setO, cf_noD] using h
end
end Go.Hm
end
section
namespace Go.Hm
open Go Go.RowKit
section
variable {l : List Int} {r : List AV} {n : Nat}
@[simp] theorem bset_takeN : (bset l ++ r).take (n + 8) = bset l ++ r.take n := by
  have : n + 8 = (bset l).length + n := by simp; omega
  rw [this, List.take_length_add_append]
@[simp] theorem bset_dropN : (bset l ++ r).drop (n + 8) = r.drop n := by
  have : n + 8 = (bset l).length + n := by simp; omega
  rw [this, List.drop_length_add_append]
theorem bset_app {j : Nat} : (bset l ++ r)[8 + j]? = r[j]? := by rw [List.getElem?_append_right (by simp)]; simp
theorem bset_app0 {j : Nat} (h : j < 8) : (bset l ++ r)[j]? = some (bv (decide ((j : Int) ∈ l))) := by rw [List.getElem?_append_left (by simpa using h), bset_get h]
@[simp] theorem bset_drop8' : (bset l).drop 8 = [] := by simp
theorem prs_append {key : Nat → Nm} : ∀ {v u : List AV} {j : Nat}, (∀ x ∈ v, sNm x = none) → prs key j (v ++ u) = prs key (j + v.length) u
  | [], u, j, _ => by simp
  | x :: l, u, j, h => by
    rw [List.cons_append, prs_cons, h x (by simp)]
    simp only
    rw [prs_append fun y hy => h y (by simp [hy])]
    congr 1
    simp
    omega
@[simp] theorem bset_prsA {key : Nat → Nm} {j : Nat} : prs key j (bset l ++ r) = prs key (j + 8) r := by
  have := prs_append (key := key) (v := bset l) (u := r) (j := j) (by simp [bset])
  simpa using this
theorem nilKeys_append {key : Nat → Nm} {es : List Nat} : ∀ {v u : List AV} {j : Nat}, v.all (fun x => !isNilS x) = true → nilKeys key es j (v ++ u) = nilKeys key es (j + v.length) u
  | [], u, j, _ => by simp
  | x :: l, u, j, h => by
    simp only [List.all_cons, Bool.and_eq_true, Bool.not_eq_true'] at h
    rw [List.cons_append, nk_cons, h.1]
    simp only [Bool.false_eq_true, if_false]
    rw [nilKeys_append h.2]
    congr 1
    simp
    omega
@[simp] theorem bset_nkA {key : Nat → Nm} {es : List Nat} {j : Nat} : nilKeys key es j (bset l ++ r) = nilKeys key es (j + 8) r := by
  have := nilKeys_append (key := key) (es := es) (v := bset l) (u := r) (j := j) bset_nil
  simpa using this
theorem zcs_append {key : Nat → Nm} {es : List Nat} : ∀ {v u : List AV} {j : Nat}, v.all (fun x => !isNilS x) = true → zcs key es j (v ++ u) = v ++ zcs key es (j + v.length) u
  | [], u, j, _ => by simp
  | x :: l, u, j, h => by
    simp only [List.all_cons, Bool.and_eq_true, Bool.not_eq_true'] at h
    rw [List.cons_append, zcs_cons, h.1]
    simp only [Bool.false_eq_true, if_false]
    rw [zcs_append h.2]
    simp
    congr 1
    omega
@[simp] theorem bset_zcsA {key : Nat → Nm} {es : List Nat} {j : Nat} : zcs key es j (bset l ++ r) = bset l ++ zcs key es (j + 8) r := by
  have := zcs_append (key := key) (es := es) (v := bset l) (u := r) (j := j) bset_nil
  simpa using this
end
def scopeRow (i : Nat) (k : Blk) (o : AV) (ps : List Int) : List AV := iv i :: iv k.kind :: o :: (bset ps ++ (bset k.rd ++ (bset k.bd ++ (bset (k.dc 9) ++ bset (k.dc 10)))))
section
variable {i x : Nat} {k : Blk} {o o' : AV} {ps : List Int} {f : Nm → Option Nm}
@[simp] theorem scopeRow_len : (scopeRow i k o ps).length = 43 := by simp [scopeRow]
@[simp] theorem scopeRow_tr : (scopeRow i k o ps).map (AV.tr f) = scopeRow i k (o.tr f) ps := by simp [scopeRow]
@[simp] theorem scopeRow_0 : (scopeRow i k o ps)[0] = iv i := rfl
@[simp] theorem scopeRow_1 : (scopeRow i k o ps)[1] = iv k.kind := rfl
@[simp] theorem scopeRow_2 : (scopeRow i k o ps)[2] = o := rfl
theorem scopeRow_p (h : x < 8) : (scopeRow i k o ps)[3 + x]? = some (bv (decide ((x : Int) ∈ ps))) := by
  rw [scopeRow, Nat.add_comm]
  simp only [List.getElem?_cons_succ]
  rw [bset_app0 h]
theorem scopeRow_b (h : x < 8) : (scopeRow i k o ps)[19 + x]? = some (bv (decide ((x : Int) ∈ k.bd))) := by
  have : 19 + x = 8 + (8 + x) + 3 := by omega
  rw [scopeRow, this]
  simp only [List.getElem?_cons_succ]
  rw [bset_app, bset_app, bset_app0 h]
theorem scopeRow_g (h : x < 8) : (scopeRow i k o ps)[27 + x]? = some (bv (decide ((x : Int) ∈ k.dc 9))) := by
  have : 27 + x = 8 + (8 + (8 + x)) + 3 := by omega
  rw [scopeRow, this]
  simp only [List.getElem?_cons_succ]
  rw [bset_app, bset_app, bset_app, bset_app0 h]
theorem scopeRow_n (h : x < 8) : (scopeRow i k o ps)[35 + x]? = some (bv (decide ((x : Int) ∈ k.dc 10))) := by
  have : 35 + x = 8 + (8 + (8 + (8 + x))) + 3 := by omega
  rw [scopeRow, this]
  simp only [List.getElem?_cons_succ]
  rw [bset_app, bset_app, bset_app, bset_app, bset_get h]
theorem scopeRow_addP {y : Int} (hy : y = x) (h : x < 8) : (scopeRow i k o ps).take (3 + x) ++ bv true :: (scopeRow i k o ps).drop (3 + x + 1) = scopeRow i k o (ps ++ [y]) := by
  have e1 : 3 + x = x + 3 := by omega
  have e2 : 3 + x + 1 = (x + 1) + 3 := by omega
  rw [e2, e1]
  simp only [scopeRow, List.take_succ_cons, List.drop_succ_cons, List.cons_append]
  rw [List.take_append_of_le_length (by simp; omega), List.drop_append_of_le_length (by simp; omega), ← bset_add hy h]
  simp
theorem scopeRow_setO : (scopeRow i k o ps).take 2 ++ o' :: (scopeRow i k o ps).drop 3 = scopeRow i k o' ps := rfl
end
def nilP : AV := .sc (.pointer none)
@[simp] theorem nilP_tr {f : Nm → Option Nm} : nilP.tr f = nilP := rfl
def sRows (n : Nm) (len i : Nat) : List (List AV) := (List.range len).map (fun j => [if j < i then AV.pt (.c n j 0) 0 else nilP])
def outP (n : Nm) (j : Int) : AV := if j < 0 then nilP else .pt (.c n j.toNat 0) 0
structure OwnS (hp : Nm → Option AO) (n : Nm) (p : Prg) (i : Nat) : Prop where
  top : hp n = some (.row 1 (sRows n p.length i))
  sc : ∀ (j : Nat) k, j < i → p[j]? = some k → hp (.c n j 0) = some (.row 43 [scopeRow j k (outP n k.parent) k.params])
section
variable {n m : Nm} {len i j : Nat} {f : Nm → Option Nm}
@[simp] theorem sRows_len : (sRows n len i).length = len := by simp [sRows]
theorem sRows_get (h : j < len) : (sRows n len i)[j]? = some [if j < i then AV.pt (.c n j 0) 0 else nilP] := by simp [sRows, h]
theorem sRows_tr (h : ∀ j, j < i → f (.c n j 0) = some (.c m j 0)) : (sRows n len i).map (fun r => r.map (AV.tr f)) = sRows m len i := by
  simp only [sRows, List.map_map]
  apply List.map_congr_left
  intro j _
  by_cases e : j < i
  · simp [e, h j e]
  · simp [e]
theorem sRows_set {a : Nat} (hn : Nm.under (.s a) n = false) (hn' : Nm.under (.c n i 0) n = false) : (rowsSet (sRows n len i) i 0 [.pt (.s a) 0]).map (fun r => r.map (AV.tr (mv (.s a) (.c n i 0)))) = sRows n len (i + 1) := by
  apply List.ext_getElem?
  intro j
  simp only [rowsSet, List.getElem?_map, List.getElem?_modify]
  by_cases hj : j < len
  · rw [sRows_get hj, sRows_get hj]
    by_cases e : i = j
    · subst e
      simp
    · by_cases e2 : j < i
      · have e3 : j < i + 1 := by omega
        have e4 : ¬ j = i := by omega
        simp [e, e2, e3, hn, hn', e4]
      · have e3 : ¬ j < i + 1 := by omega
        simp [e, e2, e3]
  · have h1 : (sRows n len i)[j]? = none := List.getElem?_eq_none (by simp; omega)
    have h2 : (sRows n len (i + 1))[j]? = none := List.getElem?_eq_none (by simp; omega)
    simp [h1, h2]
@[simp] theorem sRows_kl {d : Nat} (h : Nm.under (.s d) n = false) : (sRows n len i).map (fun r => r.map (AV.tr (kl (.s d)))) = sRows n len i := sRows_tr (by simp [h])
@[simp] theorem sRows_mv1 {a : Nat} {k1 : Nm} (h : Nm.under (.s a) n = true) : (sRows n len i).map (fun r => r.map (AV.tr (mv (.s a) k1))) = sRows (Nm.ren (.s a) k1 n) len i := sRows_tr (by simp [h])
@[simp] theorem sRows_mv2 {a b : Nat} (h : Nm.under (.s a) n = false) (h' : Nm.under (.s b) n = false) : (sRows n len i).map (fun r => r.map (AV.tr (mv (.s a) (.s b)))) = sRows n len i := sRows_tr (by simp [h, h'])
theorem outP_tr {q : Int} (h : 0 ≤ q → f (.c n q.toNat 0) = some (.c m q.toNat 0)) : (outP n q).tr f = outP m q := by
  unfold outP
  split
  · rfl
  · simp [h (by omega)]
@[simp] theorem outP_kl {d : Nat} {q : Int} (h : Nm.under (.s d) n = false) : (outP n q).tr (kl (.s d)) = outP n q := outP_tr (by simp [h])
@[simp] theorem outP_mv1 {a : Nat} {k1 : Nm} {q : Int} (h : Nm.under (.s a) n = true) : (outP n q).tr (mv (.s a) k1) = outP (Nm.ren (.s a) k1 n) q := outP_tr (by simp [h])
@[simp] theorem outP_mv2 {a b : Nat} {q : Int} (h : Nm.under (.s a) n = false) (h' : Nm.under (.s b) n = false) : (outP n q).tr (mv (.s a) (.s b)) = outP n q := outP_tr (by simp [h, h'])
theorem outP_mvc {a : Nat} {q : Int} (h : Nm.under (.s a) n = false) (h' : Nm.under (.c n i 0) n = false) (hq : q < i) : (outP n q).tr (mv (.s a) (.c n i 0)) = outP n q := outP_tr (fun _ => by
  have : ¬ q.toNat = i := by omega
  simp [h, h', this])
theorem outP_neg {q : Int} (h : q < 0) : outP n q = nilP := by simp [outP, h]
theorem outP_nat {q : Nat} : outP n q = .pt (.c n q 0) 0 := by
  have : ¬ (q : Int) < 0 := by omega
  simp [outP, this]
theorem sRows_zero : List.replicate len [nilP] = sRows n len 0 := by
  apply List.ext_getElem?
  intro j
  by_cases hj : j < len
  · rw [sRows_get hj]
    simp [hj]
  · rw [List.getElem?_eq_none (by simp; omega), List.getElem?_eq_none (by simp; omega)]
end
def scopeF (p : Prg) : Nat → Int → AV
  | 0, _ => nilP
  | n + 1, j => if j < 0 then nilP else match p[j.toNat]? with
    | none => nilP
    | some k => .el (scopeRow j.toNat k (scopeF p n k.parent) k.params) 0
theorem scopeF_fuel {p : Prg} (hp : Heads p) : ∀ (n m : Nat) (j : Int), j < n → j < m → scopeF p n j = scopeF p m j
  | 0, 0, _, _, _ => rfl
  | 0, m + 1, j, h, _ => by simp only [scopeF]; rw [if_pos (by omega)]
  | n + 1, 0, j, _, h => by simp only [scopeF]; rw [if_pos (by omega)]
  | n + 1, m + 1, j, h1, h2 => by
    simp only [scopeF]
    split
    · rfl
    · split
      · rfl
      · rename_i k hk
        obtain ⟨h3, h4, _⟩ := hp j.toNat k hk
        rw [scopeF_fuel hp n m k.parent (by omega) (by omega)]
theorem scopeF_tr {p : Prg} {f : Nm → Option Nm} : ∀ (n : Nat) (j : Int), (scopeF p n j).tr f = scopeF p n j
  | 0, _ => rfl
  | n + 1, j => by
    simp only [scopeF]
    split
    · rfl
    · split
      · rfl
      · simp [scopeF_tr n]
def scopeA (p : Prg) (j : Int) : AV := scopeF p p.length j
@[simp] theorem scopeA_tr {p : Prg} {j : Int} {f : Nm → Option Nm} : (scopeA p j).tr f = scopeA p j := scopeF_tr _ _
theorem scopeA_eq {p : Prg} {j : Nat} {k : Blk} (hp : Heads p) (hk : p[j]? = some k) : scopeA p j = .el (scopeRow j k (scopeA p k.parent) k.params) 0 := by
  have hj : j < p.length := (gS hk).1
  obtain ⟨h1, h2, _⟩ := hp j k hk
  obtain ⟨n, hn⟩ : ∃ n, p.length = n + 1 := ⟨p.length - 1, by omega⟩
  have e : scopeF p n k.parent = scopeF p (n + 1) k.parent := scopeF_fuel hp _ _ _ (by omega) (by omega)
  unfold scopeA
  rw [hn, ← e]
  conv => lhs; rw [scopeF]
  rw [if_neg (by omega)]
  simp [hk]
theorem scopeA_neg {p : Prg} {j : Int} (h : j < 0) : scopeA p j = nilP := by
  unfold scopeA
  cases p.length with
  | zero => rfl
  | succ n => rw [scopeF, if_pos h]
theorem scopeRow_bw {hp : Nm → Option AO} {i : Nat} {k : Blk} {o o' : AV} {ps : List Int} (h : Bw hp noD o o') : ∀ (j : Nat) a a', (scopeRow i k o ps)[j]? = some a → (scopeRow i k o' ps)[j]? = some a' → Bw hp noD a a' := by
  intro j a a' ha ha'
  match j, ha, ha' with
  | 0, ha, ha' => obtain rfl := Option.some.inj ha; obtain rfl := Option.some.inj ha'; exact .refl _
  | 1, ha, ha' => obtain rfl := Option.some.inj ha; obtain rfl := Option.some.inj ha'; exact .refl _
  | 2, ha, ha' => obtain rfl := Option.some.inj ha; obtain rfl := Option.some.inj ha'; exact h
  | j + 3, ha, ha' =>
    simp only [scopeRow, List.getElem?_cons_succ] at ha ha'
    rw [ha] at ha'
    obtain rfl := Option.some.inj ha'
    exact .refl _
theorem bw_scope {hp : Nm → Option AO} {n : Nm} {p : Prg} (h : OwnS hp n p p.length) (hh : Heads p) (j : Nat) (hj : j < p.length) : Bw hp noD (.pt (.c n j 0) 0) (scopeA p j) := by
  induction j using Nat.strongRecOn with
  | _ j ih =>
    obtain ⟨k, hk⟩ : ∃ k, p[j]? = some k := ⟨_, gE hj⟩
    obtain ⟨h1, h2, _⟩ := hh j k hk
    rw [scopeA_eq hh hk]
    refine .pt (.c n j 0) 43 0 _ _ [] rfl (h.sc j k hj hk) (by simp) (scopeRow_bw ?_)
    unfold outP
    split
    · rename_i hn
      rw [scopeA_neg hn]
      exact .refl _
    · have := ih k.parent.toNat (by omega) (by omega)
      have e : ((k.parent.toNat : Nat) : Int) = k.parent := by omega
      rwa [e] at this
def scRows (p : Prg) : List (List AV) := (List.range p.length).map (fun j : Nat => [scopeA p j])
abbrev scsl (p : Prg) : AV := .sl 1 (scRows p)
@[simp] theorem scRows_len {p : Prg} : (scRows p).length = p.length := by simp [scRows]
theorem scRows_get {p : Prg} {j : Nat} (h : j < p.length) : (scRows p)[j]? = some [scopeA p j] := by simp [scRows, h]
theorem bw_scopes {hp : Nm → Option AO} {n : Nm} {p : Prg} {len : Nat} (h : OwnS hp n p p.length) (hh : Heads p) (hl : len = p.length) : Bw hp noD (.hs n 1 0 len) (scsl p) := by
  subst hl
  refine .hs n 1 0 p.length (sRows n p.length p.length) (scRows p) rfl h.top (by simp) (by simp) (by simp [scRows]) fun i r r' hr hr' j a a' ha ha' => ?_
  have hi : i < p.length := by
    have := (gS hr').1
    simpa using this
  rw [Nat.zero_add, sRows_get hi, if_pos hi] at hr
  rw [scRows_get hi] at hr'
  obtain rfl := Option.some.inj hr
  obtain rfl := Option.some.inj hr'
  cases j with
  | zero =>
    obtain rfl := Option.some.inj ha
    obtain rfl := Option.some.inj ha'
    exact bw_scope h hh i hi
  | succ j => simp at ha
theorem OwnS.hcln {H' : Nm → Option AO} {n : Nm} {p : Prg} {i : Nat} (h : OwnS H' n p i) : OwnS (hcln H') n p i := by
  refine ⟨hcln_row h.top ?_, fun j k hj hk => hcln_row (h.sc j k hj hk) ?_⟩
  · simp only [sRows, List.all_eq_true]
    intro r hr
    obtain ⟨j, _, rfl⟩ := List.mem_map.1 hr
    intro x hx
    simp only [List.mem_singleton] at hx
    subst hx
    split <;> rfl
  · have : (outP n k.parent).cln = true := by unfold outP; split <;> rfl
    simp [scopeRow, this]
theorem FnOk.raw {P : Program} {f : FuncId} {az : List AV} {v0 : Value} (h : FnOk P (fun _ => none) f az (fun _ y _ => y = .sc v0)) {W : World} {g : Gh} {args : Array Value} (hC : ∀ b, g.C b → b < W.heap.size) (hsz : args.size = az.length)
    (hargs : ∀ (j : Nat) v x, args[j]? = some v → az[j]? = some x → RV g W v x) : Calls P f args W fun e W' => e = .returned v0 ∧ Below W.heap.size W W' := by
  have hinv : Inv (ownH g noH) g.C W g noH W := ⟨rfl, rfl, rfl, Nat.le_refl _, fun _ _ _ => rfl, rfl, hC, fun _ _ e => (by cases e), fun _ _ _ e => (by cases e), fun _ _ _ _ _ e => (by cases e)⟩
  refine (h.2 (.s 0) g.C W g args (fun _ _ => rfl) rfl (fun _ e => absurd rfl e) hinv (fun _ _ e => (by cases e)) hsz hargs).mono fun e w' he => ?_
  cases e with
  | returned v =>
    obtain ⟨C', g', H', x, hA, hv, rfl⟩ := he
    refine ⟨by rw [hv.sc_eq], hA.inv.os, hA.inv.tape, hA.inv.output, hA.inv.size, fun b hb => hA.inv.keep b hb ?_⟩
    rintro ⟨n, hn, _⟩
    exact hn rfl
  | panicked ch => obtain ⟨_, _, _, _, _, _, _, _, e⟩ := he; exact e.elim
  | outgrown => exact he.elim
theorem FnOk.of_raw {P : Program} {gl : Nat → Option (List AV)} {f : FuncId} {az : List AV} {v0 : Value} (hc : Callable P f)
    (h : ∀ (w : World) (g : Gh) (args : Array Value), (∀ b, g.C b → b < w.heap.size) → args.size = az.length → (∀ (j : Nat) v x, args[j]? = some v → az[j]? = some x → RV g w v x) → Calls P f args w fun e w' => e = .returned v0 ∧ Below w.heap.size w w') :
    FnOk P gl f az (fun _ y _ => y = .sc v0) := by
  refine ⟨hc, fun root C w g args _ _ _ hinv _ hsz hargs => ?_⟩
  refine (h w g args (fun b hb => hinv.clt b (hinv.hC ▸ hb)) hsz hargs).mono fun e w' he => ?_
  obtain ⟨rfl, hb⟩ := he
  exact ⟨C, g, noH, .sc v0, ⟨fun _ h => h, fun _ h => .inl h, ⟨hb.os, hb.tape, hb.output, hb.size, fun b hl _ => hb.block b hl, hinv.hC, fun b hb' => Nat.lt_of_lt_of_le (hinv.clt b hb') hb.size, fun _ _ e => (by cases e), fun _ _ _ e => (by cases e), fun _ _ _ _ _ e => (by cases e)⟩,
    fun _ e => absurd rfl e, fun _ _ _ => ⟨rfl, rfl⟩, fun _ _ _ _ => ⟨rfl, rfl⟩⟩, .sc v0, rfl⟩
theorem RV.keepB {g : Gh} {w W : World} {v : Value} {x : AV} {n : Nat} (h : RV g w v x) (hC : ∀ b, g.C b → b < n) (hb : Below n w W) : RV g W v x := h.same (fun _ h => h) (fun b hb' => hb.block b (hC b hb')) fun _ => ⟨rfl, rfl⟩
structure ScAt (g : Gh) (w : World) (p : Prg) (j : Nat) (k : Blk) (b o : Nat) : Prop where
  C : g.C b
  idx : w.cell? ⟨b, o, none⟩ = some (.int .i64 j)
  kind : w.cell? ⟨b, o + 1, none⟩ = some (.int .i64 k.kind)
  out : ∃ a, w.cell? ⟨b, o + 2, none⟩ = some (.pointer a) ∧ RV g w (.pointer a) (scopeA p k.parent)
  glob : ∀ x : Nat, x < 8 → w.cell? ⟨b, o + (27 + x), none⟩ = some (.bool (decide ((x : Int) ∈ k.dc 9)))
theorem RV.ptr {g : Gh} {w : World} {v : Value} {p : Prg} {j : Int} (h : RV g w v (scopeA p j)) : ∃ a, v = .pointer a := by
  unfold scopeA at h
  generalize p.length = n at h
  cases n with
  | zero => exact ⟨none, h.sc_eq⟩
  | succ n =>
    simp only [scopeF] at h
    split at h
    · exact ⟨none, h.sc_eq⟩
    · split at h
      · exact ⟨none, h.sc_eq⟩
      · cases h with
        | el b o off row f hC hcell ho hr => exact ⟨_, rfl⟩
theorem RV.scNil {g : Gh} {w : World} {v : Value} {p : Prg} {j : Int} (h : RV g w v (scopeA p j)) (hj : j < 0) : v = .pointer none := by
  rw [scopeA_neg hj] at h
  exact h.sc_eq
theorem RV.scAt {g : Gh} {w : World} {v : Value} {p : Prg} {j : Nat} {k : Blk} (hh : Heads p) (hk : p[j]? = some k) (h : RV g w v (scopeA p j)) : ∃ b o, v = .pointer (some ⟨b, o, none⟩) ∧ ScAt g w p j k b o := by
  rw [scopeA_eq hh hk] at h
  cases h with
  | el b o off row f hC hcell ho hr =>
    have get : ∀ (i : Nat) (u : Value), (scopeRow j k (scopeA p k.parent) k.params)[i]? = some (.sc u) → w.cell? ⟨b, o + i, none⟩ = some u := by
      intro i u hu
      have hi := (gS hu).1
      rw [hcell i hi, (hr i _ hu).sc_eq]
    refine ⟨b, o, rfl, hC, get 0 _ rfl, get 1 _ rfl, ?_, fun x hx => get _ _ (scopeRow_g hx)⟩
    have h2 := hr 2 _ (show (scopeRow j k (scopeA p k.parent) k.params)[2]? = some (scopeA p k.parent) from rfl)
    obtain ⟨a, ha⟩ := h2.ptr
    exact ⟨a, by rw [← ha]; exact hcell 2 (by simp), ha ▸ h2⟩
inductive Path (p : Prg) : Int → List Nat → Int → Prop
  | nil (j : Int) : Path p j [] j
  | skip (j : Nat) (k : Blk) (l : List Nat) (j' : Int) (hk : p[j]? = some k) (hn : k.kind ≠ 1) (h : Path p k.parent l j') : Path p j l j'
  | step (j : Nat) (k : Blk) (l : List Nat) (j' : Int) (hk : p[j]? = some k) (hn : k.kind = 1) (h : Path p k.parent l j') : Path p j (j :: l) j'
theorem Path.skipR {p : Prg} {i : Int} {l : List Nat} {j : Nat} {k : Blk} (h : Path p i l j) (hk : p[j]? = some k) (hn : k.kind ≠ 1) : Path p i l k.parent := by
  generalize hj : (j : Int) = j' at h
  induction h with
  | nil _ => subst hj; exact .skip j k [] _ hk hn (.nil _)
  | skip a q l j' ha hq _ ih => exact .skip a q l _ ha hq (ih hj)
  | step a q l j' ha hq _ ih => exact .step a q l _ ha hq (ih hj)
theorem Path.stepR {p : Prg} {i : Int} {l : List Nat} {j : Nat} {k : Blk} (h : Path p i l j) (hk : p[j]? = some k) (hn : k.kind = 1) : Path p i (l ++ [j]) k.parent := by
  generalize hj : (j : Int) = j' at h
  induction h with
  | nil _ => subst hj; exact .step j k [] _ hk hn (.nil _)
  | skip a q l j' ha hq _ ih => exact .skip a q _ _ ha hq (ih hj)
  | step a q l j' ha hq _ ih => exact .step a q _ _ ha hq (ih hj)
theorem Path.len {p : Prg} (hh : Heads p) {i j : Int} {l : List Nat} (h : Path p i l j) : (l.length : Int) + j ≤ i := by
  induction h with
  | nil _ => simp
  | skip a q l j' ha hq _ ih => have := (hh a q ha).2.1; omega
  | step a q l j' ha hq _ ih => have := (hh a q ha).2.1; simp; omega
def found (p : Prg) (x : Int) (j : Nat) : Option Int := match p[j]? with
  | some q => if x ∈ q.dc 9 then some (-1) else if isLocal j q x then some (j : Int) else none
  | none => none
theorem Path.outer {p : Prg} (hh : Heads p) {x : Int} {i j : Int} {l : List Nat} (h : Path p i l j) (hb : ∀ (k : Blk), p[0]? = some k → k.kind ≠ 1) (hno : ∀ y ∈ l, found p x y = none) : outerF p x p.length i = outerF p x p.length j := by
  induction h with
  | nil _ => rfl
  | skip a q l j' ha hq _ ih =>
    by_cases h0 : 0 < a
    · rw [outerF_step hh ha h0, if_pos hq]
      exact ih hno
    · obtain rfl : a = 0 := by omega
      have := (hh 0 q ha).2.1
      rw [← ih hno, outerF_end (by simp), outerF_end (by omega)]
  | step a q l j' ha hq _ ih =>
    have h0 : 0 < a := by
      rcases Nat.eq_zero_or_pos a with rfl | h
      · exact absurd hq (hb q ha)
      · exact h
    rw [outerF_step hh ha h0, if_neg (by simp [hq])]
    have hf := hno a (by simp)
    simp only [found, ha] at hf
    split at hf
    · cases hf
    · split at hf
      · cases hf
      · rename_i h1 h2
        rw [if_neg h1, if_neg h2]
        exact ih fun y hy => hno y (by simp [hy])
theorem Path.found {p : Prg} (hh : Heads p) {x r : Int} {i j : Int} {l : List Nat} {y : Nat} (h : Path p i (l ++ [y]) j) (hb : ∀ (k : Blk), p[0]? = some k → k.kind ≠ 1) (hno : ∀ y ∈ l, Hm.found p x y = none) (hf : Hm.found p x y = some r) : outerF p x p.length i = r := by
  generalize hl : l ++ [y] = l' at h
  induction h generalizing l with
  | nil _ => simp at hl
  | skip a q l' j' ha hq _ ih =>
    by_cases h0 : 0 < a
    · rw [outerF_step hh ha h0, if_pos hq]
      exact ih hno hl
    · obtain rfl : a = 0 := by omega
      have := (hh 0 q ha).2.1
      have h2 := ih hno hl
      rw [outerF_end (by omega)] at h2
      rw [← h2, outerF_end (by simp)]
  | step a q l' j' ha hq _ ih =>
    have h0 : 0 < a := by
      rcases Nat.eq_zero_or_pos a with rfl | h
      · exact absurd hq (hb q ha)
      · exact h
    rw [outerF_step hh ha h0, if_neg (by simp [hq])]
    cases l with
    | nil =>
      simp only [List.nil_append, List.cons.injEq] at hl
      obtain ⟨rfl, _⟩ := hl
      simp only [Hm.found, ha] at hf
      split at hf
      · rename_i h1; rw [if_pos h1]; exact Option.some.inj hf
      · rename_i h1
        rw [if_neg h1]
        split at hf
        · rename_i h2; rw [if_pos h2]; exact Option.some.inj hf
        · cases hf
    | cons z l =>
      simp only [List.cons_append, List.cons.injEq] at hl
      obtain ⟨rfl, hl⟩ := hl
      have hf1 := hno z (by simp)
      simp only [Hm.found, ha] at hf1
      split at hf1
      · cases hf1
      · split at hf1
        · cases hf1
        · rename_i h1 h2
          rw [if_neg h1, if_neg h2]
          exact ih (fun y hy => hno y (by simp [hy])) hl
end Go.Hm
end
section
namespace Go.Hm
open Go Go.RowKit
structure NmOk (k : Blk) : Prop where
  kinds : ∀ s ∈ k.body, 0 ≤ s.kind ∧ s.kind ≤ 11
  reads : ∀ s ∈ k.body, ∀ x ∈ s.reads, 0 ≤ x ∧ x ≤ 7
  tos : ∀ s ∈ k.body, 0 ≤ s.to ∧ s.to ≤ 7
  params : ∀ x ∈ k.params, 0 ≤ x ∧ x ≤ 7
structure ShapeP (p : Prg) : Prop where
  sml : Sml p
  heads : Heads p
  head : ∀ (i : Nat) k, p[i]? = some k → HeadOk i k
  stm : ∀ (i : Nat) k, p[i]? = some k → ∀ s ∈ k.body, StmOk p i k s = true
  len : 1 ≤ p.length ∧ p.length ≤ 7
  body : ∀ k ∈ p, k.body.length ≤ 12
theorem ShapeP.of {p : Prg} (hs : Sml p) (h : shapeOk p = true) : ShapeP p := by
  obtain ⟨h1, h2, h3, h4, _⟩ := shapeOk_heads h
  have key : ∀ (i : Nat) k, p[i]? = some k → HeadOk i k ∧ k.body.length ≤ 12 ∧ k.body.all (StmOk p i k) = true := fun i k hk =>
    blkOk_head hk (List.all_eq_true.1 h4 i (List.mem_range.2 (gS hk).1))
  refine ⟨hs, h1, fun i k hk => (key i k hk).1, fun i k hk s hm => List.all_eq_true.1 (key i k hk).2.2 s hm, ⟨h2, h3⟩, fun k hk => ?_⟩
  obtain ⟨i, hi⟩ := List.getElem?_of_mem hk
  exact (key i k hi).2.1
theorem StmOk.kind {p : Prg} {i : Nat} {k : Blk} {s : Stm} (h : StmOk p i k s = true) : 0 ≤ s.kind ∧ s.kind ≤ 11 := by
  by_cases hk : 0 ≤ s.kind ∧ s.kind ≤ 11
  · exact hk
  · have h2 : ¬ (s.kind = 0 ∨ s.kind = 1 ∨ s.kind = 2 ∨ s.kind = 3 ∨ s.kind = 4 ∨ s.kind = 5 ∨ s.kind = 6 ∨ s.kind = 7 ∨ s.kind = 8 ∨ s.kind = 9 ∨ s.kind = 10 ∨ s.kind = 11) := by omega
    simp only [not_or] at h2
    simp [StmOk, h2] at h
theorem ShapeP.names {p : Prg} (h : ShapeP p) : ∀ k ∈ p, NmOk k := by
  intro k hk
  obtain ⟨i, hi⟩ := List.getElem?_of_mem hk
  have hst := h.stm i k hi
  have hhd := h.head i k hi
  refine ⟨fun s hs => StmOk.kind (hst s hs), fun s hs x hx => ?_, fun s hs => ?_, fun x hx => ?_⟩
  · have := hst s hs
    simp only [StmOk, Bool.and_eq_true] at this
    have := List.all_eq_true.1 this.1.2 x hx
    simpa using this
  · have := hst s hs
    simp only [StmOk, Bool.and_eq_true] at this
    simpa using this.1.1
  · unfold HeadOk at hhd
    split at hhd
    · have := List.eq_nil_of_length_eq_zero hhd.2.2
      rw [this] at hx
      cases hx
    · rcases hhd.2.2.2.2 with h0 | ⟨h1, _, h3, h4⟩
      · rw [List.eq_nil_of_length_eq_zero h0] at hx
        cases hx
      · match hp : k.params, h1, hx with
        | [y], _, hx =>
          obtain rfl := List.mem_singleton.1 hx
          rw [hp] at h3 h4
          exact ⟨h3, h4⟩
theorem ShapeP.kind0 {p : Prg} (h : ShapeP p) {i : Nat} {k : Blk} (hk : p[i]? = some k) : k.kind = 0 ↔ i = 0 := by
  have := h.head i k hk
  unfold HeadOk at this
  split at this <;> omega
theorem ShapeP.fun0 {p : Prg} (h : ShapeP p) : ∀ k, p[0]? = some k → k.kind ≠ 1 := by
  intro k hk
  have := (h.kind0 hk).2 rfl
  omega
theorem ShapeP.decl0 {p : Prg} (h : ShapeP p) {k : Blk} (hk : p[0]? = some k) {d : Int} (hd : d = 9 ∨ d = 10) : k.dc d = [] := by
  have hnil : declAll k d = [] := by
    simp only [declAll, List.map_eq_nil_iff, List.filter_eq_nil_iff]
    intro s hs hsd
    have hst := h.stm 0 k hk s hs
    have hk0 := (h.kind0 hk).2 rfl
    simp only [decide_eq_true_eq] at hsd
    rcases hd with rfl | rfl
    · simp [StmOk, hsd, hk0] at hst
    · simp [StmOk, hsd, hk0] at hst
  simp only [Blk.dc, hnil, sorted]
  decide
theorem outerF_ge {p : Prg} {x : Int} : ∀ (n : Nat) (j : Int), -1 ≤ outerF p x n j
  | 0, _ => by simp [outerF]
  | n + 1, j => by
    simp only [outerF]
    repeat' split
    all_goals first | omega | exact outerF_ge n _
theorem outer_ge {p : Prg} {b : Nat} {x : Int} : -1 ≤ outer p b x := by
  unfold outer
  split
  · exact outerF_ge _ _
  · omega
end Go.Hm
end
