/-
  Own texts, joined by mkclaim.py: Hm27, Hm28, Hm29, Hm30, Hm31, Hm32, Hm33, Hm34, Hm35, Hm36, Hm37, Hm38, Hm39, Hm40, Hm41, Hm42.
-/
import Derived.Test.YtmaoicgfcngciaaDoorQ08
import Derived.Below
import Derived.Deep.Slices
import Derived.Deep.Fields
import Derived.ChangeSame
import Derived.SizedLaws
set_option linter.unusedSimpArgs false
set_option linter.unusedVariables false
set_option maxRecDepth 100000
set_option maxHeartbeats 4000000

section
namespace Go.Hm
open Go Go.RowKit
def pRows (n : Nm) (p : Prg) : List (List AV) := p.mapIdx (fun i k => [iv k.kind, iv k.parent, .hs (.c n i 2) 1 0 k.params.length, .hs (.c n i 3) 4 0 k.body.length])
structure OwnP (hp : Nm → Option AO) (n : Nm) (p : Prg) : Prop where
  top : hp n = some (.row 4 (pRows n p))
  params : ∀ (i : Nat) k, p[i]? = some k → hp (.c n i 2) = some (.row 1 (irows k.params))
  body : ∀ (i : Nat) k, p[i]? = some k → hp (.c n i 3) = some (.row 4 (srows k.body))
section
variable {p : Prg} {i a b d l : Nat} {n q k1 : Nm} {k : Blk}
@[simp] theorem pRows_len : (pRows n p).length = p.length := by simp [pRows]
@[simp] theorem pRows_get : (pRows n p)[i]? = (p[i]?).map (fun k => [iv k.kind, iv k.parent, .hs (.c n i 2) 1 0 k.params.length, .hs (.c n i 3) 4 0 k.body.length]) := by simp [pRows]
@[simp] theorem pRows_getE {h : i < (pRows n p).length} : (pRows n p)[i] = [iv (p[i]'(by simpa using h)).kind, iv (p[i]'(by simpa using h)).parent, .hs (.c n i 2) 1 0 (p[i]'(by simpa using h)).params.length, .hs (.c n i 3) 4 0 (p[i]'(by simpa using h)).body.length] := by simp [pRows]
@[simp] theorem pRows_nil : pRows n [] = [] := rfl
@[simp] theorem pRows_take : (pRows n p).take p.length = pRows n p := List.take_of_length_le (by simp)
theorem pRows_app : pRows n (p ++ [k]) = pRows n p ++ [[iv k.kind, iv k.parent, .hs (.c n p.length 2) 1 0 k.params.length, .hs (.c n p.length 3) 4 0 k.body.length]] := by simp [pRows]
theorem pRows_tr {f : Nm → Option Nm} {m : Nm} (h : ∀ i j, i < p.length → f (.c n i j) = some (.c m i j)) : (pRows n p).map (fun r => r.map (AV.tr f)) = pRows m p := by
  apply List.ext_getElem?
  intro i
  simp only [List.getElem?_map, pRows_get, Option.map_map]
  cases hx : p[i]? with
  | none => rfl
  | some x => simp [h i _ (gS hx).1]
@[simp] theorem pRows_kl (h : Nm.under (.s d) n = false) : (pRows n p).map (fun r => r.map (AV.tr (kl (.s d)))) = pRows n p := pRows_tr (by simp [h])
@[simp] theorem pRows_mv2 (h : Nm.under (.s a) n = false) (h' : Nm.under (.s b) n = false) : (pRows n p).map (fun r => r.map (AV.tr (mv (.s a) (.s b)))) = pRows n p := pRows_tr (by simp [h, h'])
@[simp] theorem pRows_mv3 (h : Nm.under (.s a) n = false) (hq : (q = n) = False) (hq' : Nm.under (.c q b l) n = false) : (pRows n p).map (fun r => r.map (AV.tr (mv (.s a) (.c q b l)))) = pRows n p := by
  have : ¬ n = q := fun e => by simp [e] at hq
  exact pRows_tr (by simp [h, hq', this])
@[simp] theorem pRows_mvc : (pRows n p).map (fun r => r.map (AV.tr (mvc n k1))) = pRows k1 p := by
  refine pRows_tr fun i j _ => ?_
  have : Nm.c n i j ≠ n := Nm.not_under_c (Nm.under_self n)
  simp [this]
@[simp] theorem pRows_mv4 {j : Nat} (hq : (q = n) = False) (hq' : Nm.under (.c q a b) n = false) (hl : p.length ≤ l) : (pRows n p).map (fun r => r.map (AV.tr (mv (.c q a b) (.c n l j)))) = pRows n p := by
  have h1 : ¬ n = q := fun e => by simp [e] at hq
  have h2 : Nm.under (.c n l j) n = false := by
    cases h : Nm.under (.c n l j) n with
    | false => rfl
    | true => exact absurd rfl (Nm.under_not_c h).2
  refine pRows_tr fun i j hi => ?_
  have h3 : ¬ i = l := by omega
  simp [h1, hq', h2, h3]
end
theorem bw_prog {hp : Nm → Option AO} {n : Nm} {len : Nat} {p : Prg} (h : OwnP hp n p) (hl : len = p.length) : Bw hp noD (.hs n 4 0 len) (ksl p) := by
  subst hl
  refine .hs n 4 0 p.length (pRows n p) (krows p) rfl h.top (by simp) (by simp) (by simp [krows]) fun i r r' hr hr' j a a' ha ha' => ?_
  rw [Nat.zero_add, pRows_get] at hr
  rw [krows_get] at hr'
  obtain ⟨x, hx, rfl⟩ := Option.map_eq_some_iff.1 hr
  rw [hx] at hr'
  obtain rfl := Option.some.inj hr'
  match j, ha, ha' with
  | 0, ha, ha' => obtain rfl := Option.some.inj ha; obtain rfl := Option.some.inj ha'; exact .refl _
  | 1, ha, ha' => obtain rfl := Option.some.inj ha; obtain rfl := Option.some.inj ha'; exact .refl _
  | 2, ha, ha' => obtain rfl := Option.some.inj ha; obtain rfl := Option.some.inj ha'; exact bw_ints (h.params i x hx) rfl
  | 3, ha, ha' => obtain rfl := Option.some.inj ha; obtain rfl := Option.some.inj ha'; exact bw_stms (h.body i x hx) rfl
  | j + 4, ha, _ => simp at ha
theorem bw_agg1 {hp : Nm → Option AO} {x y : AV} (h : Bw hp noD x y) : Bw hp noD (.agg [x]) (.agg [y]) := by
  refine .agg [x] [y] rfl fun j a a' ha ha' => ?_
  cases j with
  | zero => obtain rfl := Option.some.inj ha; obtain rfl := Option.some.inj ha'; exact h
  | succ j => simp at ha
theorem OwnP.hcln {H' : Nm → Option AO} {n : Nm} {p : Prg} (h : OwnP H' n p) : OwnP (hcln H') n p := by
  refine ⟨hcln_row h.top ?_, fun i k hk => hcln_row (h.params i k hk) (by simp), fun i k hk => hcln_row (h.body i k hk) (by simp)⟩
  simp only [pRows, List.all_eq_true]
  intro r hr
  obtain ⟨i, hi⟩ := List.getElem?_of_mem hr
  rw [List.getElem?_mapIdx] at hi
  obtain ⟨x, _, rfl⟩ := Option.map_eq_some_iff.1 hi
  simp
def setBody (p : Prg) (i : Nat) (L : List Stm) : Prg := p.modify i (fun k => { k with body := L })
@[simp] theorem setBody_len {p : Prg} {i : Nat} {L : List Stm} : (setBody p i L).length = p.length := by simp [setBody]
theorem setBody_get {p : Prg} {i j : Nat} {L : List Stm} {k : Blk} (h : p[j]? = some k) : (setBody p i L)[j]? = some (if i = j then { k with body := L } else k) := by
  simp only [setBody, List.getElem?_modify, h]
  by_cases e : i = j <;> simp [e]
theorem pRows_set {n : Nm} {a i len : Nat} {p : Prg} {L : List Stm} (hl : len = L.length) (hn : Nm.under (.s a) n = false) (hn' : Nm.under (.c n i 3) n = false) :
    (rowsSet (pRows n p) i 3 [.hs (.s a) 4 0 len]).map (fun r => r.map (AV.tr (mv (.s a) (.c n i 3)))) = pRows n (setBody p i L) := by
  subst hl
  apply List.ext_getElem?
  intro j
  simp only [rowsSet, List.getElem?_map, List.getElem?_modify, pRows_get]
  cases hx : p[j]? with
  | none =>
    have : (setBody p i L)[j]? = none := by
      rw [List.getElem?_eq_none_iff, setBody_len]
      exact List.getElem?_eq_none_iff.1 hx
    simp [this]
  | some x =>
    rw [setBody_get hx]
    by_cases e : i = j
    · subst e
      simp [hn, hn']
    · have e' : ¬ j = i := fun h => e h.symm
      simp [hn, hn', e, e']
theorem a_gq {X : Ctx} {st : St} {K : St → Prop} {ds : List (Option Nat)} {l : List Oper} {i j e : Nat} {want t : Bool} {r : Sch} {dst : Option Nat} {op : Op} {ty : TypeId} {pos : String} {aft : Array Edge} (_ho : l[i]? = some ⟨dst, op, ty, pos, aft, some (j, want)⟩) (_hj : ds[j]? = some (some e)) (ht : st.tm e = .sc (.bool t))
    (h1 : t = true → arun X l ds K (.q i r) (st.put (some e) (.sc (.bool true)))) (h2 : t = false → arun X l ds K (.q i r) (st.put (some e) (.sc (.bool false)))) : arun X l ds K (.q i r) st := a_gs e ht h1 h2
end Go.Hm
end
section
namespace Go.Hm
open Go Go.RowKit
theorem fx0 : Nm.under (.s 0) (.s 0) = true := Nm.under_self _
theorem bne_def {x y : Int} : (x != y) = !(x == y) := rfl
section
variable {X : Ctx} {st : St} {K : St → Prop} {E : AV → St → Prop} {ds : List (Option Nat)} {l : List Oper}
variable {d : Nat} {ty : TypeId} {pos : String} {aft : Array Edge} {g : Option (Nat × Bool)} {st' st1 : St}
theorem x_q {op : Op} {z : AV} (hd : d < X.n := by first | (simp; done) | fail) (hz : qev X.P st ⟨some d, op, ty, pos, aft, g⟩ = some z := by simp [fx]; first | done | rfl | exact (Bool.not_not _).symm) (h : K (st.put (some d) z)) : SemOp X ⟨some d, op, ty, pos, aft, g⟩ K E st := o_q hd hz h
theorem x_assign {x : Operand} (hd : d < X.n := by first | (simp; done) | fail) (hs : asgSt X.P ty d (ev st x) st = st' := by simp [fx]; first | done | rfl | exact (Bool.not_not _).symm) (h : K st') : SemOp X ⟨some d, .assign x, ty, pos, aft, g⟩ K E st := o_assign hd hs h
theorem x_box {T : TypeId} {x : Operand} {cs : List AV} (hd : d < X.n := by first | (simp; done) | fail) (hq : (ev st x).cells = some cs := by simp [fx]; first | done | rfl | exact (Bool.not_not _).symm) (hz : cs.length = tsz X.P T := by first | (simp [fx]; done) | fail)
    (hs : boxSt X.P T d cs st = st' := by simp [fx]; first | done | rfl | exact (Bool.not_not _).symm) (h : K st') : SemOp X ⟨some d, .box T x, ty, pos, aft, g⟩ K E st := o_box hd hq hz hs h
theorem x_alloc {T : TypeId} {zs : List AV} (hd : d < X.n := by first | (simp; done) | fail) (hq : zvals X.P T = some zs := by simp [fx]; first | done | rfl | exact (Bool.not_not _).symm) (hs : boxSt X.P T d zs st = st' := by simp [fx]; first | done | rfl | exact (Bool.not_not _).symm) (h : K st') : SemOp X ⟨some d, .alloc T, ty, pos, aft, g⟩ K E st := o_alloc hd hq hs h
theorem x_store0 {T : TypeId} {p x : Operand} {n : Nm} {z i off : Nat} {v0 : List AV} {rows : List (List AV)} (hT : (X.P.info? T).isSome = true := by first | (simp [fx]; done) | fail) (hv0 : (ev st x).cells = some v0 := by simp [fx]; first | done | rfl | exact (Bool.not_not _).symm)
    (hnil : v0.all (fun x => !isNilS x) = true := by first | (simp [fx]; done) | fail) (hlen : v0.length = tsz X.P T := by first | (simp [fx]; done) | fail)
    (hp : pl (ev st p) = some (n, i, off) := by simp [fx]; first | done | rfl | exact ⟨rfl, rfl⟩ | exact ⟨rfl, rfl, rfl⟩) (hrows : rowsAt st (ev st p) = some (z, rows) := by simp [fx]; first | done | rfl | exact ⟨rfl, rfl⟩ | exact ⟨rfl, rfl, rfl⟩)
    (hi : i < rows.length := by first | (simp [fx]; done) | (simp [fx]; omega) | omega) (hoff : off + v0.length ≤ z := by first | (simp [fx]; done) | (simp [fx]; omega) | omega)
    (hs : canon (prs (fun j => .c n i (off + j)) 0 v0) (st.setO n (.row z (rowsSet rows i off v0))) = st' := by simp [fx]; first | done | rfl | exact (Bool.not_not _).symm) (h : K st') :
    SemOp X ⟨none, .store T p x, ty, pos, aft, g⟩ K E st := o_store0 hT hv0 hnil hlen hp hrows hi hoff hs h
theorem x_store {T : TypeId} {p x : Operand} {n : Nm} {z i off : Nat} {v0 v1 : List AV} {rows : List (List AV)} (hT : (X.P.info? T).isSome = true := by first | (simp [fx]; done) | fail) (hv0 : (ev st x).cells = some v0 := by simp [fx]; first | done | rfl | exact (Bool.not_not _).symm)
    (hlen : v0.length = tsz X.P T := by first | (simp [fx]; done) | fail)
    (hp : pl (ev st p) = some (n, i, off) := by simp [fx]; first | done | rfl | exact ⟨rfl, rfl⟩ | exact ⟨rfl, rfl, rfl⟩) (hk : stoK X.P T n i off v0 st = st1 := by simp [fx]; first | done | rfl | exact (Bool.not_not _).symm)
    (hp1 : pl (ev st1 p) = some (n, i, off) := by simp [fx]; first | done | rfl | exact ⟨rfl, rfl⟩ | exact ⟨rfl, rfl, rfl⟩) (hv1 : (ev st1 x).cells = some v1 := by simp [fx]; first | done | rfl | exact (Bool.not_not _).symm)
    (hsame : v1.map isNilS = v0.map isNilS := by first | (simp [fx]; done) | fail) (hrows : rowsAt st1 (ev st1 p) = some (z, rows) := by simp [fx]; first | done | rfl | exact ⟨rfl, rfl⟩ | exact ⟨rfl, rfl, rfl⟩)
    (hi : i < rows.length := by first | (simp [fx]; done) | (simp [fx]; omega) | omega) (hoff : off + v1.length ≤ z := by first | (simp [fx]; done) | (simp [fx]; omega) | omega)
    (hs : stoSt n z i off rows (stoV X.P T n i off v1) st1 = st' := by simp [fx]; first | done | rfl | exact (Bool.not_not _).symm) (h : K st') : SemOp X ⟨none, .store T p x, ty, pos, aft, g⟩ K E st := o_store hT hv0 hlen hp hk hp1 hv1 hsame hrows hi hoff hs h
theorem x_append0 {T F : TypeId} {s x : Operand} {z : Nat} {rows2 : List (List AV)} (hd : d < X.n := by first | (simp; done) | fail) (hT : tapp X.P T = some F := by simp [fx]; first | done | rfl) (hz : tsz X.P F = z := by simp [fx]; first | done | rfl) (hs : ev st s = .sc (.slice none 0 0) := by first | (simp [fx]; done) | fail)
    (hx : srcRows st z (ev st x) = some rows2 := by simp [fx]; first | done | rfl) (hlen : rows2.length ≤ 4294967296 := by first | (simp [fx]; done) | (simp [fx]; omega) | omega)
    (hq : apSt d z rows2.length none rows2 st = st' := by simp [fx]; first | done | rfl | exact (Bool.not_not _).symm) (h : K st') : SemOp X ⟨some d, .call ⟨.builtin .append, #[s, x], #[T, T]⟩, ty, pos, aft, g⟩ K E st := o_append0 hd hT hz hs hx hlen hq h
theorem x_append {T F : TypeId} {s x : Operand} {z len : Nat} {n : Nm} {rows0 rows2 : List (List AV)} (hd : d < X.n := by first | (simp; done) | fail) (hT : tapp X.P T = some F := by simp [fx]; first | done | rfl) (hz : tsz X.P F = z := by simp [fx]; first | done | rfl) (hs : ev st s = .hs n z 0 len := by simp [fx]; first | done | rfl | exact ⟨rfl, rfl⟩ | exact ⟨rfl, rfl, rfl⟩)
    (hn : st.hp n = some (.row z rows0) := by simp [fx]; first | done | rfl) (hle : len ≤ rows0.length := by first | (simp [fx]; done) | (simp [fx]; omega) | omega)
    (hx : srcRows st z (ev st x) = some rows2 := by simp [fx]; first | done | rfl) (hlen : len + rows2.length ≤ 4294967296 := by first | (simp [fx]; done) | (simp [fx]; omega) | omega)
    (hq : apSt d z (len + rows2.length) (some n) (rows0.take len ++ rows2) st = st' := by simp [fx]; first | done | rfl | exact (Bool.not_not _).symm) (h : K st') : SemOp X ⟨some d, .call ⟨.builtin .append, #[s, x], #[T, T]⟩, ty, pos, aft, g⟩ K E st := o_append hd hT hz hs hn hle hx hlen hq h
theorem x_appendC {T F : TypeId} {s x : Operand} {z len : Nat} {n : Nm} {rows0 rows2 : List (List AV)} (hd : d < X.n := by first | (simp; done) | fail) (hT : tapp X.P T = some F := by simp [fx]; first | done | rfl) (hz : tsz X.P F = z := by simp [fx]; first | done | rfl) (hs : ev st s = .hs n z 0 len := by simp [fx]; first | done | rfl | exact ⟨rfl, rfl⟩ | exact ⟨rfl, rfl, rfl⟩)
    (hn : st.hp n = some (.row z rows0) := by simp [fx]; first | done | rfl) (hle : len ≤ rows0.length := by first | (simp [fx]; done) | (simp [fx]; omega) | omega)
    (hx : srcRows st z (ev st x) = some rows2 := by simp [fx]; first | done | rfl) (hlen : len + rows2.length ≤ 4294967296 := by first | (simp [fx]; done) | (simp [fx]; omega) | omega)
    (hq : Hm.canon (prcL (.s d) len rows2) ((apSt d z (len + rows2.length) (some n) (rows0.take len ++ rows2) st).mvc n (.s d)) = st' := by simp [fx]; first | done | rfl | exact (Bool.not_not _).symm) (h : K st') :
    SemOp X ⟨some d, .call ⟨.builtin .append, #[s, x], #[T, T]⟩, ty, pos, aft, g⟩ K E st := o_appendC hd hT hz hs hn hle hx hlen hq h
theorem x_make {T F : TypeId} {x y : Operand} {ln z : Nat} {k k' : IntKind} {zv : List AV} (hd : d < X.n := by first | (simp; done) | fail) (hx : ev st x = .sc (.int k ln) := by simp [fx]; first | done | rfl | exact ⟨rfl, rfl⟩) (hy : ev st y = .sc (.int k' ln) := by simp [fx]; first | done | rfl | exact ⟨rfl, rfl⟩)
    (hE : tapp X.P T = some F := by simp [fx]; first | done | rfl) (hz : tsz X.P F = z := by simp [fx]; first | done | rfl) (hzv : zvals X.P F = some zv := by simp [fx]; first | done | rfl) (hl : ln ≤ 4294967296 := by first | (simp [fx]; done) | (simp [fx]; omega) | omega)
    (hq : mkSt d z ln zv st = st' := by simp [fx]; first | done | rfl | exact (Bool.not_not _).symm) (h : K st') : SemOp X ⟨some d, .makeSlice T x y, ty, pos, aft, g⟩ K E st := o_make hd hx hy hE hz hzv hl hq h
theorem x_build {T F : TypeId} {len z : Nat} {parts : Array (Nat × Operand)} {rows : List (List AV)} (hd : d < X.n := by first | (simp; done) | fail) (hE : tapp X.P T = some F := by simp [fx]; first | done | rfl) (hz : tsz X.P F = z := by simp [fx]; first | done | rfl) (hrows : rowsOf st parts.toList = some rows := by simp [fx]; first | done | rfl)
    (c1 : parts.toList.map (·.1) = List.range len := by decide) (c2 : len * z ≤ 16777216 := by decide) (c3 : rows.all (fun r => r.length == z) = true := by first | (simp [fx]; done) | fail)
    (hs : bsSt X.P F d z rows st = st' := by simp [fx]; first | done | rfl | exact (Bool.not_not _).symm) (h : K st') : SemOp X ⟨some d, .buildSlice T len parts, ty, pos, aft, g⟩ K E st := o_build hd hE hz hrows c1 c2 c3 hs h
section
variable {f : Nat} {args : Array Operand} {Ts : Array TypeId} {az avs : List AV}
theorem x_call {x : AV} (hd : d < X.n := by first | (simp; done) | fail) (ha : args.toList.map (ev st) = avs := by simp [fx]; first | done | rfl | exact (Bool.not_not _).symm)
    (hB : BwL st.hp noD avs az := by
      first
      | ((repeat' (first | exact .nil | refine .cons ?_ ?_ | exact .refl _ | exact bw_ints (by simp [fx]; first | done | rfl) (by first | (simp [fx]; done) | (simp [fx]; omega) | omega) | exact bw_list (by simp [fx]; first | done | rfl) (by first | (simp [fx]; done) | (simp [fx]; omega) | omega) (by first | (simp; done) | fail))); done)
      | fail)
    (hF : FnOk X.P X.gl f az (fun _ y _ => y = x)) (hc : x.cln = true := by first | (simp [fx]; done) | fail) (h : K ((st.kill (.s d)).put (some d) x)) :
    SemOp X ⟨some d, .call ⟨.value (.func f), args, Ts⟩, ty, pos, aft, g⟩ K E st := o_call hd ha hB hF hc h
theorem x_callh {z n : Nat} {rows : List (List AV)} (hd : d < X.n := by first | (simp; done) | fail) (ha : args.toList.map (ev st) = avs := by simp [fx]; first | done | rfl | exact (Bool.not_not _).symm)
    (hB : BwL st.hp noD avs az := by
      first
      | ((repeat' (first | exact .nil | refine .cons ?_ ?_ | exact .refl _ | exact bw_ints (by simp [fx]; first | done | rfl) (by first | (simp [fx]; done) | (simp [fx]; omega) | omega) | exact bw_list (by simp [fx]; first | done | rfl) (by first | (simp [fx]; done) | (simp [fx]; omega) | omega) (by first | (simp; done) | fail))); done)
      | fail)
    (hF : FnOk X.P X.gl f az (fun r y H' => y = .hs r z 0 n ∧ H' r = some (.row z rows))) (hc : rows.all (fun r => r.all AV.cln) = true := by first | (simp; done) | fail)
    (h : K (((st.kill (.s d)).setO (.s d) (.row z rows)).put (some d) (.hs (.s d) z 0 n))) : SemOp X ⟨some d, .call ⟨.value (.func f), args, Ts⟩, ty, pos, aft, g⟩ K E st := o_callh hd ha hB hF hc h
theorem x_callg {R : Nm → AV → (Nm → Option AO) → Prop} (hd : d < X.n := by first | (simp; done) | fail) (ha : args.toList.map (ev st) = avs := by simp [fx]; first | done | rfl | exact (Bool.not_not _).symm)
    (hB : BwL st.hp noD avs az := by
      first
      | ((repeat' (first | exact .nil | refine .cons ?_ ?_ | exact .refl _ | exact bw_ints (by simp [fx]; first | done | rfl) (by first | (simp [fx]; done) | (simp [fx]; omega) | omega) | exact bw_list (by simp [fx]; first | done | rfl) (by first | (simp [fx]; done) | (simp [fx]; omega) | omega) (by first | (simp; done) | fail))); done)
      | fail)
    (hF : FnOk X.P X.gl f az R) (h : ∀ y H', R (.s d) y H' → y.cln = true ∧ K (((st.kill (.s d)).addH d (hcln H')).put (some d) y)) :
    SemOp X ⟨some d, .call ⟨.value (.func f), args, Ts⟩, ty, pos, aft, g⟩ K E st := o_callg hd ha hB hF h
end
end
section
variable {X : Ctx} {st : St} {K : St → Prop} {E : AV → St → Prop} {ds : List (Option Nat)} {l : List Oper} {dst : Option Nat} {op : Op} {ty : TypeId} {pos : String} {aft : Array Edge} {i j e : Nat} {want : Bool} {v : AV}
theorem x_guard (hj : ds[j]? = some (some e) := by rfl) (ht : st.tm e = v := by simp [fx]; first | done | rfl | exact (Bool.not_not _).symm) (h : Gx X ds K E l st dst op ty pos aft j want e v) : SemL X ds K E (⟨dst, op, ty, pos, aft, some (j, want)⟩ :: l) st := s_guard hj ht h
theorem x_tf (hn : ∀ e, dst = some e → e < X.n := by first | (simp; done) | fail) (h : SemL X ds K E l (st.put dst (.sc undef))) : Gx X ds K E l st dst op ty pos aft j true e (.sc (.bool false)) := gx_tf hn h
theorem x_ft (hn : ∀ e, dst = some e → e < X.n := by first | (simp; done) | fail) (h : SemL X ds K E l (st.put dst (.sc undef))) : Gx X ds K E l st dst op ty pos aft j false e (.sc (.bool true)) := gx_ft hn h
theorem x_u (hn : ∀ e, dst = some e → e < X.n := by first | (simp; done) | fail) (h : SemL X ds K E l (st.put dst (.sc undef))) : Gx X ds K E l st dst op ty pos aft j want e (.sc undef) := gx_u hn h
theorem x_condt {c : Operand} {x y : Code} {Q : Ex → St → Prop} (ht : ev st c = .sc (.bool true) := by first | (simp [fx]; done) | fail) (h1 : SemCode X x Q st) : SemCode X (.cond c x y) Q st := w_cond_t h1 ht
theorem x_condf {c : Operand} {x y : Code} {Q : Ex → St → Prop} (ht : ev st c = .sc (.bool false) := by first | (simp [fx]; done) | fail) (h1 : SemCode X y Q st) : SemCode X (.cond c x y) Q st := w_cond_f h1 ht
theorem x_if {c : Nat} {x y : Code} {Q : Ex → St → Prop} {t : Bool} (ht : st.tm c = .sc (.bool t) := by simp [fx]; first | done | rfl | exact (Bool.not_not _).symm) (h1 : t = true → SemCode X x Q (st.put (some c) (.sc (.bool true)))) (h2 : t = false → SemCode X y Q (st.put (some c) (.sc (.bool false)))) : SemCode X (.cond (.tmp c) x y) Q st := w_if ht h1 h2
theorem xa_q {d : Nat} {r : Sch} {z : AV} (ho : l[i]? = some ⟨some d, op, ty, pos, aft, none⟩ := by rfl) (hd : d < X.n := by first | (simp; done) | fail) (hz : qev X.P st ⟨some d, op, ty, pos, aft, none⟩ = some z := by simp [fx]; first | done | rfl | exact (Bool.not_not _).symm) (h : arun X l ds K r (st.put (some d) z)) : arun X l ds K (.q i r) st := a_q ho hd hz h
theorem xa_qt {d : Nat} {r : Sch} {z : AV} (ho : l[i]? = some ⟨some d, op, ty, pos, aft, some (j, want)⟩ := by rfl) (hj : ds[j]? = some (some e) := by rfl) (ht : st.tm e = .sc (.bool want) := by first | (simp [fx]; done) | fail) (hd : d < X.n := by first | (simp; done) | fail)
    (hz : qev X.P st ⟨some d, op, ty, pos, aft, some (j, want)⟩ = some z := by simp [fx]; first | done | rfl | exact (Bool.not_not _).symm) (h : arun X l ds K r (st.put (some d) z)) : arun X l ds K (.q i r) st := a_qt ho hj ht hd hz h
theorem xa_qf {d : Nat} {r : Sch} (ho : l[i]? = some ⟨some d, op, ty, pos, aft, some (j, want)⟩ := by rfl) (hj : ds[j]? = some (some e) := by rfl) (ht : st.tm e = .sc (.bool (!want)) := by first | (simp [fx]; done) | fail) (hd : d < X.n := by first | (simp; done) | fail)
    (h : arun X l ds K r (st.put (some d) (.sc undef))) : arun X l ds K (.q i r) st := a_qf ho hj ht hd h
theorem xa_qu {d : Nat} {r : Sch} (ho : l[i]? = some ⟨some d, op, ty, pos, aft, some (j, want)⟩ := by rfl) (hj : ds[j]? = some (some e) := by rfl) (ht : st.tm e = .sc undef := by first | (simp [fx]; done) | fail) (hd : d < X.n := by first | (simp; done) | fail)
    (h : arun X l ds K r (st.put (some d) (.sc undef))) : arun X l ds K (.q i r) st := a_qu ho hj ht hd h
theorem xa_gq {t : Bool} {r : Sch} (ho : l[i]? = some ⟨dst, op, ty, pos, aft, some (j, want)⟩ := by rfl) (hj : ds[j]? = some (some e) := by rfl) (ht : st.tm e = .sc (.bool t) := by simp [fx]; first | done | rfl | exact (Bool.not_not _).symm)
    (h1 : t = true → arun X l ds K (.q i r) (st.put (some e) (.sc (.bool true)))) (h2 : t = false → arun X l ds K (.q i r) (st.put (some e) (.sc (.bool false)))) : arun X l ds K (.q i r) st := a_gq ho hj ht h1 h2
theorem xa_st {q : Nat} {ps : List Nat} {o : Oper} (ho : l[q]? = some o := by rfl) (h1 : stab1 X ds o st := by first | (simp [stab1, fx]; done) | (simp [stab1, undef, fx]; done) | fail) (h2 : stabs X l ds ps st) : stabs X l ds (q :: ps) st := st_cons ho h1 h2
end
@[simp] theorem tr_comp_iv {f : Nm → Option Nm} : AV.tr f ∘ iv = iv := rfl
end Go.Hm
end
section
namespace Go.Hm
open Go Go.RowKit
def bset (l : List Int) : List AV := (List.range 8).map (fun x : Nat => bv (decide ((x : Int) ∈ l)))
section
variable {l l' : List Int} {f : Nm → Option Nm} {x : Nat}
@[simp] theorem bset_len : (bset l).length = 8 := by simp [bset]
@[simp] theorem bset_cln : (bset l).all AV.cln = true := by simp [bset]
end
section
variable {X : Ctx} {st : St} {K : St → Prop} {E : AV → St → Prop}
variable {d : Nat} {ty : TypeId} {pos : String} {aft : Array Edge} {g : Option (Nat × Bool)} {c : Operand} {name : String} {Ts : Array TypeId} {x : AV}
end
section
variable {l : List Int} {r : List AV} {n : Nat}
end
def scopeRow (i : Nat) (k : Blk) (o : AV) (ps : List Int) : List AV := iv i :: iv k.kind :: o :: (bset ps ++ (bset k.rd ++ (bset k.bd ++ (bset (k.dc 9) ++ bset (k.dc 10)))))
section
variable {i x : Nat} {k : Blk} {o o' : AV} {ps : List Int} {f : Nm → Option Nm}
@[simp] theorem scopeRow_len : (scopeRow i k o ps).length = 43 := by simp [scopeRow]
@[simp] theorem scopeRow_0 : (scopeRow i k o ps)[0] = iv i := rfl
@[simp] theorem scopeRow_1 : (scopeRow i k o ps)[1] = iv k.kind := rfl
@[simp] theorem scopeRow_2 : (scopeRow i k o ps)[2] = o := rfl
end
def nilP : AV := .sc (.pointer none)
@[simp] theorem nilP_tr {f : Nm → Option Nm} : nilP.tr f = nilP := rfl
def sRows (n : Nm) (len i : Nat) : List (List AV) := (List.range len).map (fun j => [if j < i then AV.pt (.c n j 0) 0 else nilP])
def outP (n : Nm) (j : Int) : AV := if j < 0 then nilP else .pt (.c n j.toNat 0) 0
structure OwnS (hp : Nm → Option AO) (n : Nm) (p : Prg) (i : Nat) : Prop where
  top : hp n = some (.row 1 (sRows n p.length i))
  sc : ∀ (j : Nat) k, j < i → p[j]? = some k → hp (.c n j 0) = some (.row 43 [scopeRow j k (outP n k.parent) k.params])
section
variable {n m : Nm} {len i j : Nat} {f : Nm → Option Nm}
@[simp] theorem sRows_len : (sRows n len i).length = len := by simp [sRows]
theorem sRows_get (h : j < len) : (sRows n len i)[j]? = some [if j < i then AV.pt (.c n j 0) 0 else nilP] := by simp [sRows, h]
section
variable {a b c d e l : Nat} {q : Nm} {k : Int}
end
end
def scopeF (p : Prg) : Nat → Int → AV
  | 0, _ => nilP
  | n + 1, j => if j < 0 then nilP else match p[j.toNat]? with
    | none => nilP
    | some k => .el (scopeRow j.toNat k (scopeF p n k.parent) k.params) 0
theorem scopeF_fuel {p : Prg} (hp : Heads p) : ∀ (n m : Nat) (j : Int), j < n → j < m → scopeF p n j = scopeF p m j
  | 0, 0, _, _, _ => rfl
  | 0, m + 1, j, h, _ => by simp only [scopeF]; rw [if_pos (by omega)]
  | n + 1, 0, j, _, h => by simp only [scopeF]; rw [if_pos (by omega)]
  | n + 1, m + 1, j, h1, h2 => by
    simp only [scopeF]
    split
    · rfl
    · split
      · rfl
      · rename_i k hk
        obtain ⟨h3, h4, _⟩ := hp j.toNat k hk
        rw [scopeF_fuel hp n m k.parent (by omega) (by omega)]
def scopeA (p : Prg) (j : Int) : AV := scopeF p p.length j
theorem scopeA_eq {p : Prg} {j : Nat} {k : Blk} (hp : Heads p) (hk : p[j]? = some k) : scopeA p j = .el (scopeRow j k (scopeA p k.parent) k.params) 0 := by
  have hj : j < p.length := (gS hk).1
  obtain ⟨h1, h2, _⟩ := hp j k hk
  obtain ⟨n, hn⟩ : ∃ n, p.length = n + 1 := ⟨p.length - 1, by omega⟩
  have e : scopeF p n k.parent = scopeF p (n + 1) k.parent := scopeF_fuel hp _ _ _ (by omega) (by omega)
  unfold scopeA
  rw [hn, ← e]
  conv => lhs; rw [scopeF]
  rw [if_neg (by omega)]
  simp [hk]
theorem scopeA_neg {p : Prg} {j : Int} (h : j < 0) : scopeA p j = nilP := by
  unfold scopeA
  cases p.length with
  | zero => rfl
  | succ n => rw [scopeF, if_pos h]
theorem scopeRow_bw {hp : Nm → Option AO} {i : Nat} {k : Blk} {o o' : AV} {ps : List Int} (h : Bw hp noD o o') : ∀ (j : Nat) a a', (scopeRow i k o ps)[j]? = some a → (scopeRow i k o' ps)[j]? = some a' → Bw hp noD a a' := by
  intro j a a' ha ha'
  match j, ha, ha' with
  | 0, ha, ha' => obtain rfl := Option.some.inj ha; obtain rfl := Option.some.inj ha'; exact .refl _
  | 1, ha, ha' => obtain rfl := Option.some.inj ha; obtain rfl := Option.some.inj ha'; exact .refl _
  | 2, ha, ha' => obtain rfl := Option.some.inj ha; obtain rfl := Option.some.inj ha'; exact h
  | j + 3, ha, ha' =>
    simp only [scopeRow, List.getElem?_cons_succ] at ha ha'
    rw [ha] at ha'
    obtain rfl := Option.some.inj ha'
    exact .refl _
theorem bw_scope {hp : Nm → Option AO} {n : Nm} {p : Prg} (h : OwnS hp n p p.length) (hh : Heads p) (j : Nat) (hj : j < p.length) : Bw hp noD (.pt (.c n j 0) 0) (scopeA p j) := by
  induction j using Nat.strongRecOn with
  | _ j ih =>
    obtain ⟨k, hk⟩ : ∃ k, p[j]? = some k := ⟨_, gE hj⟩
    obtain ⟨h1, h2, _⟩ := hh j k hk
    rw [scopeA_eq hh hk]
    refine .pt (.c n j 0) 43 0 _ _ [] rfl (h.sc j k hj hk) (by simp) (scopeRow_bw ?_)
    unfold outP
    split
    · rename_i hn
      rw [scopeA_neg hn]
      exact .refl _
    · have := ih k.parent.toNat (by omega) (by omega)
      have e : ((k.parent.toNat : Nat) : Int) = k.parent := by omega
      rwa [e] at this
def scRows (p : Prg) : List (List AV) := (List.range p.length).map (fun j : Nat => [scopeA p j])
abbrev scsl (p : Prg) : AV := .sl 1 (scRows p)
@[simp] theorem scRows_len {p : Prg} : (scRows p).length = p.length := by simp [scRows]
theorem scRows_get {p : Prg} {j : Nat} (h : j < p.length) : (scRows p)[j]? = some [scopeA p j] := by simp [scRows, h]
theorem bw_scopes {hp : Nm → Option AO} {n : Nm} {p : Prg} {len : Nat} (h : OwnS hp n p p.length) (hh : Heads p) (hl : len = p.length) : Bw hp noD (.hs n 1 0 len) (scsl p) := by
  subst hl
  refine .hs n 1 0 p.length (sRows n p.length p.length) (scRows p) rfl h.top (by simp) (by simp) (by simp [scRows]) fun i r r' hr hr' j a a' ha ha' => ?_
  have hi : i < p.length := by
    have := (gS hr').1
    simpa using this
  rw [Nat.zero_add, sRows_get hi, if_pos hi] at hr
  rw [scRows_get hi] at hr'
  obtain rfl := Option.some.inj hr
  obtain rfl := Option.some.inj hr'
  cases j with
  | zero =>
    obtain rfl := Option.some.inj ha
    obtain rfl := Option.some.inj ha'
    exact bw_scope h hh i hi
  | succ j => simp at ha
theorem OwnS.hcln {H' : Nm → Option AO} {n : Nm} {p : Prg} {i : Nat} (h : OwnS H' n p i) : OwnS (hcln H') n p i := by
  refine ⟨hcln_row h.top ?_, fun j k hj hk => hcln_row (h.sc j k hj hk) ?_⟩
  · simp only [sRows, List.all_eq_true]
    intro r hr
    obtain ⟨j, _, rfl⟩ := List.mem_map.1 hr
    intro x hx
    simp only [List.mem_singleton] at hx
    subst hx
    split <;> rfl
  · have : (outP n k.parent).cln = true := by unfold outP; split <;> rfl
    simp [scopeRow, this]
end Go.Hm
end
section
namespace Go.Hm
open Go Go.RowKit
structure ScAt (g : Gh) (w : World) (p : Prg) (j : Nat) (k : Blk) (b o : Nat) : Prop where
  C : g.C b
  idx : w.cell? ⟨b, o, none⟩ = some (.int .i64 j)
  kind : w.cell? ⟨b, o + 1, none⟩ = some (.int .i64 k.kind)
  out : ∃ a, w.cell? ⟨b, o + 2, none⟩ = some (.pointer a) ∧ RV g w (.pointer a) (scopeA p k.parent)
  glob : ∀ x : Nat, x < 8 → w.cell? ⟨b, o + (27 + x), none⟩ = some (.bool (decide ((x : Int) ∈ k.dc 9)))
theorem RV.ptr {g : Gh} {w : World} {v : Value} {p : Prg} {j : Int} (h : RV g w v (scopeA p j)) : ∃ a, v = .pointer a := by
  unfold scopeA at h
  generalize p.length = n at h
  cases n with
  | zero => exact ⟨none, h.sc_eq⟩
  | succ n =>
    simp only [scopeF] at h
    split at h
    · exact ⟨none, h.sc_eq⟩
    · split at h
      · exact ⟨none, h.sc_eq⟩
      · cases h with
        | el b o off row f hC hcell ho hr => exact ⟨_, rfl⟩
def found (p : Prg) (x : Int) (j : Nat) : Option Int := match p[j]? with
  | some q => if x ∈ q.dc 9 then some (-1) else if isLocal j q x then some (j : Int) else none
  | none => none
structure NmOk (k : Blk) : Prop where
  kinds : ∀ s ∈ k.body, 0 ≤ s.kind ∧ s.kind ≤ 11
  reads : ∀ s ∈ k.body, ∀ x ∈ s.reads, 0 ≤ x ∧ x ≤ 7
  tos : ∀ s ∈ k.body, 0 ≤ s.to ∧ s.to ≤ 7
  params : ∀ x ∈ k.params, 0 ≤ x ∧ x ≤ 7
structure ShapeP (p : Prg) : Prop where
  sml : Sml p
  heads : Heads p
  head : ∀ (i : Nat) k, p[i]? = some k → HeadOk i k
  stm : ∀ (i : Nat) k, p[i]? = some k → ∀ s ∈ k.body, StmOk p i k s = true
  len : 1 ≤ p.length ∧ p.length ≤ 7
  body : ∀ k ∈ p, k.body.length ≤ 12
theorem ShapeP.of {p : Prg} (hs : Sml p) (h : shapeOk p = true) : ShapeP p := by
  obtain ⟨h1, h2, h3, h4, _⟩ := shapeOk_heads h
  have key : ∀ (i : Nat) k, p[i]? = some k → HeadOk i k ∧ k.body.length ≤ 12 ∧ k.body.all (StmOk p i k) = true := fun i k hk =>
    blkOk_head hk (List.all_eq_true.1 h4 i (List.mem_range.2 (gS hk).1))
  refine ⟨hs, h1, fun i k hk => (key i k hk).1, fun i k hk s hm => List.all_eq_true.1 (key i k hk).2.2 s hm, ⟨h2, h3⟩, fun k hk => ?_⟩
  obtain ⟨i, hi⟩ := List.getElem?_of_mem hk
  exact (key i k hi).2.1
theorem StmOk.kind {p : Prg} {i : Nat} {k : Blk} {s : Stm} (h : StmOk p i k s = true) : 0 ≤ s.kind ∧ s.kind ≤ 11 := by
  by_cases hk : 0 ≤ s.kind ∧ s.kind ≤ 11
  · exact hk
  · have h2 : ¬ (s.kind = 0 ∨ s.kind = 1 ∨ s.kind = 2 ∨ s.kind = 3 ∨ s.kind = 4 ∨ s.kind = 5 ∨ s.kind = 6 ∨ s.kind = 7 ∨ s.kind = 8 ∨ s.kind = 9 ∨ s.kind = 10 ∨ s.kind = 11) := by omega
    simp only [not_or] at h2
    simp [StmOk, h2] at h
theorem ShapeP.names {p : Prg} (h : ShapeP p) : ∀ k ∈ p, NmOk k := by
  intro k hk
  obtain ⟨i, hi⟩ := List.getElem?_of_mem hk
  have hst := h.stm i k hi
  have hhd := h.head i k hi
  refine ⟨fun s hs => StmOk.kind (hst s hs), fun s hs x hx => ?_, fun s hs => ?_, fun x hx => ?_⟩
  · have := hst s hs
    simp only [StmOk, Bool.and_eq_true] at this
    have := List.all_eq_true.1 this.1.2 x hx
    simpa using this
  · have := hst s hs
    simp only [StmOk, Bool.and_eq_true] at this
    simpa using this.1.1
  · unfold HeadOk at hhd
    split at hhd
    · have := List.eq_nil_of_length_eq_zero hhd.2.2
      rw [this] at hx
      cases hx
    · rcases hhd.2.2.2.2 with h0 | ⟨h1, _, h3, h4⟩
      · rw [List.eq_nil_of_length_eq_zero h0] at hx
        cases hx
      · match hp : k.params, h1, hx with
        | [y], _, hx =>
          obtain rfl := List.mem_singleton.1 hx
          rw [hp] at h3 h4
          exact ⟨h3, h4⟩
theorem ShapeP.kind0 {p : Prg} (h : ShapeP p) {i : Nat} {k : Blk} (hk : p[i]? = some k) : k.kind = 0 ↔ i = 0 := by
  have := h.head i k hk
  unfold HeadOk at this
  split at this <;> omega
theorem ShapeP.fun0 {p : Prg} (h : ShapeP p) : ∀ k, p[0]? = some k → k.kind ≠ 1 := by
  intro k hk
  have := (h.kind0 hk).2 rfl
  omega
end Go.Hm
end
section
namespace Go.Hm
open Go Go.RowKit
section
variable {O : List Int} {x : Nat}
end
section
variable {p : Prg} {i j a b : Nat} {n m k1 : Nm} {k : Blk} {f : Nm → Option Nm}
end
end Go.Hm
end
section
namespace Go.Hm
open Go Go.RowKit
def pre {α : Type} (z : α) (l : List α) (i : Nat) : List α := l.take i ++ List.replicate (l.length - i) z
section
variable {α : Type} {z x : α} {l : List α} {i : Nat}
end
section
variable {X : Ctx} {st : St} {K : St → Prop} {E : AV → St → Prop} {ds : List (Option Nat)} {l : List Oper} {o : Oper}
theorem o_mv (n0 n1 : Nm) (h0 : n0.isU = false ∨ X.ext n0 = false) (h1 : n1.isU = false ∨ X.ext n1 = false) (h : SemOp X o K E (st.move n0 n1)) : SemOp X o K E st :=
  fun a w Q hR hE => h a w Q (hR.move n0 n1 h0 h1) hE
theorem o_mvPost (n0 n1 : Nm) (h0 : n0.isU = false ∨ X.ext n0 = false) (h1 : n1.isU = false ∨ X.ext n1 = false) (h : SemOp X o (fun s => K (s.move n0 n1)) E st) : SemOp X o K E st := by
  refine SemOp.post h ?_
  intro s a w hR hK
  exact ⟨_, hR.move n0 n1 h0 h1, hK⟩
end
section
variable {p : Prg} {i a b l j : Nat} {n q k1 : Nm} {k : Blk}
end
theorem under_usroot {U : Nm} (hU : U.isU = true) : ∀ {n : Nm}, Nm.under U n = true → n.sroot = false := by
  intro n
  induction n with
  | s d => intro h; cases U <;> simp [Nm.isU, Nm.under] at *
  | u k i j => intro _; rfl
  | c q i j ih =>
    intro h
    simp only [Nm.under, Bool.or_eq_true, decide_eq_true_eq] at h
    rcases h with h | h
    · rw [← h] at hU; cases hU
    · exact ih h
def hsub (U : Nm) (hp : Nm → Option AO) : Nm → Option AO := fun m => if Nm.under U m then hp m else none
section
variable {X : Ctx} {st : St} {K : St → Prop} {E : AV → St → Prop} {d f : Nat} {ty : TypeId} {pos : String} {aft : Array Edge} {g : Option (Nat × Bool)} {args : Array Operand} {Ts : Array TypeId} {az : List AV} {R : Nm → AV → (Nm → Option AO) → Prop}
theorem x_mut (U : Nm) (hU : U.isU = true) (hext : X.ext U = true → st.hp U ≠ none) (hd : d < X.n := by first | (simp; done) | fail) (ha : args.toList.map (ev st) = az := by simp [fx]; first | done | rfl)
    (hF : FnE X.P X.gl f (Nm.under U) az (hsub U st.hp) R noE) (h : ∀ y H', R (.s d) y H' → K ((st.call d (Nm.under U) (hsub U st.hp) H').put (some d) y)) :
    SemOp X ⟨some d, .call ⟨.value (.func f), args, Ts⟩, ty, pos, aft, g⟩ K E st := by
  subst ha
  refine call_sem (D := Nm.under U) (H := hsub U st.hp) (R := R) (E0 := noE) hF (ent_func hF.1 rfl) false ⟨rfl, fun j a a' h h' => ?_⟩ (fun n hn => ?_) (fun n hn => ?_) (fun n hn => ?_) (fun k i j he => ?_) (fun e he => by obtain rfl := Option.some.inj he; exact hd) (fun x H' hR => ?_) (fun _ _ h => h.elim)
  · rw [h] at h'
    obtain rfl := Option.some.inj h'
    exact .refl _
  · cases hx : Nm.under U n with
    | false => rfl
    | true =>
      have h1 := under_usroot hU hx
      have h2 := Nm.sroot_under (a := .s d) rfl hn
      rw [h1] at h2
      cases h2
  · simp [hsub, hn]
  · simp only [hsub] at hn
    split at hn
    · assumption
    · exact absurd rfl hn
  · cases hx : Nm.under U (.u k i j) with
    | false => exact .inl rfl
    | true =>
      right
      have : Nm.u k i j = U := by cases U <;> simp [Nm.isU, Nm.under] at * <;> exact ⟨hx.1, hx.2.1, hx.2.2⟩
      simp only [hsub, hx, if_true]
      rw [this] at he ⊢
      exact hext he
  · exact h x H' hR
end
section
variable {st : St} {d t : Nat} {D : Nm → Bool} {H H' : Nm → Option AO} {m : Nm}
@[simp] theorem call_tm : (st.call d D H H').tm t = (st.tm t).tr (cf d D H) := rfl
@[simp] theorem call_gl : (st.call d D H H').gl = st.gl := rfl
@[simp] theorem call_hp : (st.call d D H H').hp m = if D m || Nm.under (.s d) m then H' m else (st.hp m).map (AO.tr (cf d D H)) := rfl
@[simp] theorem cf_eq : cf d D H m = if Nm.under (.s d) m then none else if D m then (if m.isU && (H m).isSome then some m else none) else some m := rfl
@[simp] theorem hsub_eq {U : Nm} {hp : Nm → Option AO} : hsub U hp m = if Nm.under U m then hp m else none := rfl
end
end Go.Hm
end
section
namespace Go.Hm
open Go Go.RowKit
theorem AV.tr_tr (f g : Nm → Option Nm) (a : AV) : (a.tr f).tr g = a.tr (fun m => (f m).bind g) := by
  refine AV.rec (motive_1 := fun a => (a.tr f).tr g = a.tr (fun m => (f m).bind g)) (motive_2 := fun l => trLL g (trLL f l) = trLL (fun m => (f m).bind g) l) (motive_3 := fun l => trL g (trL f l) = trL (fun m => (f m).bind g) l) ?_ ?_ ?_ ?_ ?_ ?_ ?_ ?_ ?_ ?_ ?_ ?_ ?_ ?_ ?_ ?_ a
  all_goals intros
  all_goals simp only [AV.tr, trL, trLL, *]
  all_goals (split <;> simp_all [AV.tr])
theorem AO.tr_tr (f g : Nm → Option Nm) (o : AO) : (o.tr f).tr g = o.tr (fun m => (f m).bind g) := by
  have h : AV.tr g ∘ AV.tr f = AV.tr (fun m => (f m).bind g) := funext fun a => AV.tr_tr f g a
  cases o with
  | row z rows => simp [AO.tr, h]
  | map es => simp [AO.tr, AV.tr_tr]
  | trow T z ex rows => simp [AO.tr, h]
def rtf (N V : Nm) (d : Nat) (m : Nm) : Option Nm := if Nm.under N m then (if m = N then some N else none) else if Nm.under V m then none else if Nm.under (.s d) m then none else some m
def St.mutc (st : St) (N V : Nm) (d : Nat) (H' : Nm → Option AO) : St :=
  { tm := fun t => (st.tm t).tr (rtf N V d),
    hp := fun m => if Nm.under N m then (if mv V N (Nm.ren N V m) = some m then (H' (Nm.ren N V m)).map (AO.tr (mv V N)) else none) else if Nm.under V m then none else if Nm.under (.s d) m then (H' m).map (AO.tr (mv V N)) else (st.hp m).map (AO.tr (rtf N V d)),
    n := st.n, gl := st.gl }
section
variable {st : St} {N V m : Nm} {d t : Nat} {H' : Nm → Option AO}
@[simp] theorem rtf_eq : rtf N V d m = if Nm.under N m then (if m = N then some N else none) else if Nm.under V m then none else if Nm.under (.s d) m then none else some m := rfl
@[simp] theorem mutc_tm : (st.mutc N V d H').tm t = (st.tm t).tr (rtf N V d) := rfl
@[simp] theorem mutc_gl : (st.mutc N V d H').gl = st.gl := rfl
@[simp] theorem mutc_hp : (st.mutc N V d H').hp m = if Nm.under N m then (if mv V N (Nm.ren N V m) = some m then (H' (Nm.ren N V m)).map (AO.tr (mv V N)) else none) else if Nm.under V m then none else if Nm.under (.s d) m then (H' m).map (AO.tr (mv V N)) else (st.hp m).map (AO.tr (rtf N V d)) := rfl
end
theorem ren_isU {N V : Nm} {x : Nm} (h : Nm.under N x = true) (hne : x ≠ N) : (Nm.ren N V x).isU = false := by
  cases x with
  | s d => simp [Nm.under] at h; exact absurd h hne
  | u a b c => simp [Nm.under] at h; exact absurd h hne
  | c q i j => simp [Nm.ren, hne]
theorem under_s_u {V n : Nm} {d : Nat} (hV : V.isU = true) (h : Nm.under V n = true) : Nm.under (.s d) n = false := by
  cases hx : Nm.under (.s d) n with
  | false => rfl
  | true =>
    have h1 := under_usroot hV h
    have h2 := Nm.sroot_under (a := .s d) rfl hx
    rw [h1] at h2
    cases h2
theorem rtf_comp {N V : Nm} {d : Nat} {Hs : Nm → Option AO} (hV : V.isU = true) (hNV : Nm.under V N = false) (hs : (Hs V).isSome = true) : (fun m => ((mv N V m).bind (cf d (Nm.under V) Hs)).bind (mv V N)) = rtf N V d := by
  funext x
  by_cases hx : Nm.under N x = true
  · have hu : Nm.under V (Nm.ren N V x) = true := Nm.under_ren x hx
    have hsd := under_s_u (d := d) hV hu
    by_cases e : x = N
    · subst e
      simp [hV, hs, Nm.under_self, hsd] at hsd ⊢
      simp [hsd]
    · have := ren_isU (V := V) hx e
      simp [hx, hu, hsd, this, e]
  · simp only [Bool.not_eq_true] at hx
    by_cases hv : Nm.under V x = true
    · simp [hx, hv]
    · simp only [Bool.not_eq_true] at hv
      by_cases hd : Nm.under (.s d) x = true
      · simp [hx, hv, hd]
      · simp only [Bool.not_eq_true] at hd
        simp [hx, hv, hd]
theorem mutc_eq {st : St} {N V : Nm} {d : Nat} {H' : Nm → Option AO} {y : AV} (hV : V.isU = true) (hNV : Nm.under V N = false) (hs : (hsub V (st.move N V).hp V).isSome = true) :
    (((st.move N V).call d (Nm.under V) (hsub V (st.move N V).hp) H').put (some d) y).move V N = (st.mutc N V d H').put (some d) (y.tr (mv V N)) := by
  have hc := rtf_comp (N := N) (d := d) hV hNV hs
  have e1 : ∀ a : AV, ((a.tr (mv N V)).tr (cf d (Nm.under V) (hsub V (st.move N V).hp))).tr (mv V N) = a.tr (rtf N V d) := by
    intro a
    rw [AV.tr_tr (mv N V), AV.tr_tr, ← hc]
  have e2 : ∀ o : AO, ((o.tr (mv N V)).tr (cf d (Nm.under V) (hsub V (st.move N V).hp))).tr (mv V N) = o.tr (rtf N V d) := by
    intro o
    rw [AO.tr_tr (mv N V), AO.tr_tr, ← hc]
  unfold St.move
  simp only [St.nm, St.put, St.mutc]
  congr 1
  · funext t
    by_cases h : t = d
    · simp [h]
    · simp only [h, if_false]
      exact e1 _
  · funext m
    simp only [hmv]
    by_cases h1 : Nm.under N m = true
    · rw [if_pos h1, if_pos h1]
      have hu : Nm.under V (Nm.ren N V m) = true := Nm.under_ren m h1
      simp only [St.call, St.nm, hu, Bool.true_or, if_true]
    · simp only [Bool.not_eq_true] at h1
      simp only [h1, Bool.false_eq_true, if_false]
      by_cases h2 : Nm.under V m = true
      · simp only [h2, if_true]
      · simp only [Bool.not_eq_true] at h2
        simp only [h2, Bool.false_eq_true, if_false, St.call, St.nm, Bool.false_or]
        by_cases h3 : Nm.under (.s d) m = true
        · simp only [h3, if_true]
        · simp only [Bool.not_eq_true] at h3
          simp only [h3, Bool.false_eq_true, if_false, St.nm, St.move, hmv, h2, h1]
          cases st.hp m with
          | none => rfl
          | some o => simp only [Option.map_some]; exact congrArg some (e2 o)
section
variable {X : Ctx} {st : St} {K : St → Prop} {E : AV → St → Prop} {d f : Nat} {ty : TypeId} {pos : String} {aft : Array Edge} {g : Option (Nat × Bool)} {args : Array Operand} {Ts : Array TypeId} {az : List AV} {R : Nm → AV → (Nm → Option AO) → Prop}
theorem x_mutc (N V : Nm) (hV : V.isU = true := by rfl) (hN : N.isU = false := by rfl) (hNV : Nm.under V N = false := by first | (simp; done) | fail) (hext : X.ext V = false) (hs : (hsub V (st.move N V).hp V).isSome = true) (hd : d < X.n := by first | (simp; done) | fail)
    (ha : args.toList.map (ev (st.move N V)) = az := by simp [fx]; first | done | rfl)
    (hF : FnE X.P X.gl f (Nm.under V) az (hsub V (st.move N V).hp) R noE) (h : ∀ y H', R (.s d) y H' → K ((st.mutc N V d H').put (some d) (y.tr (mv V N)))) :
    SemOp X ⟨some d, .call ⟨.value (.func f), args, Ts⟩, ty, pos, aft, g⟩ K E st := by
  refine o_mv N V (.inl hN) (.inr hext) (o_mvPost V N (.inr hext) (.inl hN) ?_)
  refine x_mut V hV (fun e => by rw [hext] at e; cases e) hd ha hF fun y H' hR => ?_
  rw [mutc_eq hV hNV hs]
  exact h y H' hR
end
section
variable {p : Prg} {n : Nm} {i l d a b e : Nat}
@[simp] theorem pRows_mvself {m : Nm} : (pRows n p).map (fun r => r.map (AV.tr (mv n m))) = pRows m p := pRows_tr (by simp)
end
def markI (n : Nat) (c : Int) : List Int := (List.range n).map (fun i : Nat => c + i)
section
variable {p : Prg} {c : Int} {i j : Nat} {k : Blk} {n : Nm}
@[simp] theorem markI_len {n : Nat} : (markI n c).length = n := by simp [markI]
end
section
variable {X : Ctx} {st : St} {K : St → Prop} {E : AV → St → Prop}
theorem o_abs {o : Oper} (F : St → Prop) (h : F st) (k : ∀ s, F s → SemOp X o K E s) : SemOp X o K E st := k st h
theorem s_abs {ds : List (Option Nat)} {l : List Oper} (F : St → Prop) (h : F st) (k : ∀ s, F s → SemL X ds K E l s) : SemL X ds K E l st := k st h
theorem w_abs {c : Code} {Q : Ex → St → Prop} (F : St → Prop) (h : F st) (k : ∀ s, F s → SemCode X c Q s) : SemCode X c Q st := k st h
end
end Go.Hm
end
section
namespace Go.Hm
open Go Go.RowKit Go.ChangeShapes Go.WideShapes Go.Deep
def g0 (w : World) : Gh := { C := fun b => b < w.heap.size, φ := fun _ => none, κ := fun _ => 0 }
def ReadsAs {H : Type} (enc : TypeId × Value → H) (P : Program) (w : World) {α : Type} (t : TypeId) (cells : α → List AV) (Ok : α → Prop) : Prop :=
  ∀ (n : Nat) (cs : List Value) (y : DataW H × List MemPlace), DataW.trod enc P w 0 (fun _ => true) true n t cs = some y → (∀ m ∈ y.1.weights P t, m ≤ reachBytes) →
    ∃ x : α, Ok x ∧ (cells x).length = cs.length ∧ ∀ (j : Nat) v a, cs[j]? = some v → (cells x)[j]? = some a → RV (g0 w) w v a ∧ v.oneCell' = true
theorem weightsAll_in {H : Type} {P : Program} {e : TypeId} {d : DataW H} : ∀ {l : List (DataW H)}, d ∈ l → ∀ m ∈ d.weights P e, m ∈ DataW.weightsAll P e l
  | x :: l, h, m, hm => by
    simp only [DataW.weightsAll, List.mem_append]
    rcases List.mem_cons.1 h with rfl | h
    · exact .inl hm
    · exact .inr (weightsAll_in h m hm)
theorem cell_lt {w : World} {a : Addr} {v : Value} (h : w.cell? a = some v) : a.block < w.heap.size ∧ a.spot = none := by
  unfold World.cell? at h
  split at h
  · rename_i c t fr hb
    refine ⟨(Array.getElem?_eq_some_iff.1 hb).1, ?_⟩
    split at h
    · cases h
    · rename_i hs
      cases hsp : a.spot with
      | none => rfl
      | some _ => simp [hsp] at hs
  · cases h
theorem add_plain {a : Addr} (h : a.spot = none) (n : Nat) : a.add n = ⟨a.block, a.off + n, none⟩ := by
  obtain ⟨b, o, s⟩ := a
  obtain rfl : s = none := h
  unfold Addr.add
  split
  · simp_all
  · rfl
section
variable {H : Type} {enc : TypeId × Value → H} {P : Program} {w : World}
theorem rd_slice {t e : TypeId} {z : Nat} {α : Type} [Inhabited α] {cells : α → List AV} {Ok : α → Prop} (ht : P.underlying t = some (.slice e)) (hc : P.cellsOf e = z) (hz : 0 < z) (hby : 0 < P.bytesOf e) (hlen : ∀ x, (cells x).length = z)
    (hr : ReadsAs enc P w e cells Ok) : ReadsAs enc P w t (fun xs : List α => [.sl z (xs.map cells)]) (fun xs => xs.length ≤ 1152921504606846976 ∧ ∀ x ∈ xs, Ok x) := by
  intro n cs y h hw
  rcases open_slice ht h with ⟨rfl, rfl⟩ | ⟨a, len, cap, m, n', D, Pl, rfl, _, hl, _, hm, rfl, hi⟩
  · refine ⟨[], ⟨by simp, by simp⟩, rfl, fun j v x hv hx => ?_⟩
    cases j with
    | zero =>
      simp at hv hx
      subst hv; subst hx
      exact ⟨.slN _ _ _, rfl⟩
    | succ j => simp at hv
  · simp only [if_true] at hm
    subst hm
    have hw0 := hw (((List.map D (List.range len)).length + (List.map (fun j => D (len + j)) (List.range (m - len))).length) * P.bytesOf e) (by simp [DataW.weights, ht])
    have hll : len ≤ 1152921504606846976 := by
      simp only [List.length_map, List.length_range, reachBytes] at hw0
      have : len * 1 ≤ (len + (m - len)) * P.bytesOf e := Nat.mul_le_mul (by omega) hby
      omega
    have hel : ∀ i, i < len → ∃ x : α, Ok x ∧ ∀ j, j < z → ∃ v aa, w.cell? ((a.add (i * z)).add j) = some v ∧ (cells x)[j]? = some aa ∧ RV (g0 w) w v aa ∧ v.oneCell' = true := by
      intro i hil
      obtain ⟨cs', h1, h2⟩ := hi i (by omega)
      rw [hc] at h1
      obtain ⟨_, hcl, hat⟩ := World.cells?_some h1
      obtain ⟨x, hx, hxl, hxr⟩ := hr n' cs' _ h2 (fun q hq => hw q (by
        simp only [DataW.weights, ht, List.mem_cons, List.mem_append]
        exact .inr (.inl (weightsAll_in (List.mem_map.2 ⟨i, List.mem_range.2 hil, rfl⟩) q hq))))
      refine ⟨x, hx, fun j hj => ?_⟩
      have e1 := hat j hj
      have e2 : cs'[j]? = some (cs'[j]'(by omega)) := gE (by omega)
      have e3 : (cells x)[j]? = some ((cells x)[j]'(by rw [hlen]; exact hj)) := gE (by rw [hlen]; exact hj)
      obtain ⟨r1, r2⟩ := hxr j _ _ e2 e3
      exact ⟨_, _, e1.trans e2, e3, r1, r2⟩
    obtain ⟨X, hX⟩ := choose_lt hel
    have hav : ∀ i, i < len → (List.map X (List.range len))[i]? = some (X i) := by
      intro i hi
      simp [hi]
    refine ⟨(List.range len).map X, ⟨by simpa using hll, ?_⟩, rfl, fun j v x hv hx => ?_⟩
    · intro x hx
      obtain ⟨i, hi, rfl⟩ := List.mem_map.1 hx
      exact (hX i (List.mem_range.1 hi)).1
    · cases j with
      | succ j => simp at hv
      | zero =>
        simp only [List.getElem?_cons_zero, Option.some.injEq] at hv hx
        subst hv; subst hx
        refine ⟨?_, rfl⟩
        rcases Nat.eq_zero_or_pos len with rfl | hpos
        · exact .slN _ _ _
        · obtain ⟨v0, _, hc0, _⟩ := (hX 0 hpos).2 0 hz
          obtain ⟨hb, hsp⟩ := cell_lt hc0
          rw [Nat.zero_mul] at hb hsp
          have ha0 : (a.add 0).add 0 = a := by simp [Addr.add]
          rw [ha0] at hb hsp
          obtain ⟨b, off, s⟩ := a
          obtain rfl : s = none := hsp
          have hcell : ∀ i j, (((⟨b, off, none⟩ : Addr).add (i * z)).add j) = ⟨b, off + i * z + j, none⟩ := by
            intro i j
            rw [add_plain (a := ⟨b, off, none⟩) rfl, add_plain rfl]
          refine .slC b off m len z _ (fun i j => (w.cell? ⟨b, off + i * z + j, none⟩).getD undef) hb (by simp) hl ?_ ?_ ?_ ?_
          · intro r hr'
            obtain ⟨x, hx, rfl⟩ := List.mem_map.1 hr'
            exact hlen x
          · intro i j hi hj
            obtain ⟨v, _, h1, _⟩ := (hX i hi).2 j hj
            rw [hcell] at h1
            simp [h1]
          · intro i j hi hj
            obtain ⟨v, _, h1, _, _, h2⟩ := (hX i hi).2 j hj
            rw [hcell] at h1
            simpa [h1] using h2
          · intro i row hrow j aa haa
            have hil : i < len := by
              have := (gS hrow).1
              simpa using this
            simp [hil] at hrow
            subst hrow
            have hjz : j < z := by
              have := (gS haa).1
              rwa [hlen] at this
            obtain ⟨v, a', h1, h2, h3, _⟩ := (hX i hil).2 j hjz
            rw [hcell] at h1
            rw [haa] at h2
            cases h2
            simpa [h1] using h3
end
section
variable {H : Type} {enc : TypeId × Value → H} {P : Program} {w : World}
end
end Go.Hm
end
section
namespace Go.Hm
open Go Go.RowKit
def swapI (n x y : Int) : Int := if n = x then y else n
def Stm.ren (s : Stm) (x y : Int) : Stm :=
  ⟨s.kind, if s.sets ∨ 9 ≤ s.kind then swapI s.to x y else s.to,
    if s.kind = 1 ∨ s.kind = 6 ∨ s.kind = 7 ∨ s.kind = 8 ∨ s.kind = 2 ∨ s.kind = 5 then swapI s.a x y else s.a, if s.kind = 2 ∨ s.kind = 5 then swapI s.b x y else s.b⟩
def Blk.ren (k : Blk) (x y : Int) : Blk := ⟨k.kind, k.parent, k.params.map (fun n => swapI n x y), k.body.map (fun s => s.ren x y)⟩
def insideF (p : Prg) (b : Int) : Nat → Int → Bool
  | 0, j => decide (j = b)
  | n + 1, j => if b < j then (match p[j.toNat]? with | some q => insideF p b n q.parent | none => false) else decide (j = b)
def inside (p : Prg) (c b : Int) : Bool := insideF p b p.length c
theorem insideF_fuel {p : Prg} {b : Int} (hh : Heads p) (hb : 0 ≤ b) : ∀ (n m : Nat) (j : Int), j ≤ n → j ≤ m → insideF p b n j = insideF p b m j
  | 0, 0, _, _, _ => rfl
  | 0, m + 1, j, h, _ => by
    have h : j ≤ 0 := h
    simp only [insideF]
    rw [if_neg (by omega)]
  | n + 1, 0, j, _, h => by
    have h : j ≤ 0 := h
    simp only [insideF]
    rw [if_neg (by omega)]
  | n + 1, m + 1, j, h1, h2 => by
    simp only [insideF]
    split
    · cases hq : p[j.toNat]? with
      | none => rfl
      | some q =>
        have := (hh _ q hq).2.1
        exact insideF_fuel hh hb n m _ (by omega) (by omega)
    · rfl
theorem inside_end {p : Prg} {c b : Int} (h : c ≤ b) : inside p c b = decide (c = b) := by
  unfold inside
  generalize p.length = n
  cases n with
  | zero => rfl
  | succ n => simp only [insideF]; rw [if_neg (by omega)]
theorem inside_step {p : Prg} {c : Nat} {b : Int} {q : Blk} (hh : Heads p) (hb : 0 ≤ b) (hq : p[c]? = some q) (h : b < c) : inside p c b = inside p q.parent b := by
  have hl : c < p.length := (gS hq).1
  have hp := (hh c q hq).2.1
  unfold inside
  obtain ⟨n, hn⟩ : ∃ n, p.length = n + 1 := ⟨p.length - 1, by omega⟩
  rw [insideF_fuel hh hb p.length n q.parent (by omega) (by omega), hn]
  simp only [insideF]
  rw [if_pos h]
  simp [hq]
def Blk.us (k : Blk) : List Int := sorted (k.rd ++ k.bd ++ k.dc 9 ++ k.dc 10)
theorem Blk.us_len (k : Blk) : k.us.length ≤ 8 := sorted_len
def touches (p : Prg) (b x : Int) (c : Nat) : Bool := match p[c]? with | some k => decide (x ∈ k.us) && decide (owner p c x = b) | none => false
def renIf (c : Bool) (x y : Int) (k : Blk) : Blk := if c then k.ren x y else k
def renS (S : Nat → Bool) (x y : Int) (p : Prg) : Prg := p.mapIdx fun c k => renIf (S c) x y k
theorem renS_get {S : Nat → Bool} {x y : Int} {p : Prg} {c : Nat} : (renS S x y p)[c]? = (p[c]?).map (renIf (S c) x y) := by
  simp [renS, List.getElem?_mapIdx]
@[simp] theorem renS_len {S : Nat → Bool} {x y : Int} {p : Prg} : (renS S x y p).length = p.length := by simp [renS]
end Go.Hm
end
