/-
  Own texts, joined by mkclaim.py: Hm37, Hm38, Hm39, Hm40, Hm41, Hm42, Hm43, Hm44, Hm46, Hm47, Hm48, Hm49, Hm50, Hm51, Hm52, Hm53, Hm54, Hm56, Hm57, Hm58, Hm61, Hm62, Hm63, Hm64, Hm65.
-/
import Derived.Test.YtmaoicgfcngciaaGreatDoorR10
import Derived.Deep.Slices
import Derived.Deep.Fields
import Derived.ChangeSame
import Derived.SizedLaws
import Derived.Test.YtmaoicgfcngciaaGreatDoorR09
import Derived.OpenShut
import Derived.FnData
set_option linter.unusedSimpArgs false
set_option linter.unusedVariables false
set_option maxRecDepth 100000
set_option maxHeartbeats 4000000

section
namespace Go.Hm
open Go Go.RowKit
def pre {α : Type} (z : α) (l : List α) (i : Nat) : List α := l.take i ++ List.replicate (l.length - i) z
section
variable {X : Ctx} {st : St} {K : St → Prop} {E : AV → St → Prop} {ds : List (Option Nat)} {l : List Oper} {o : Oper}
theorem o_mv (n0 n1 : Nm) (h0 : n0.isU = false ∨ X.ext n0 = false) (h1 : n1.isU = false ∨ X.ext n1 = false) (h : SemOp X o K E (st.move n0 n1)) : SemOp X o K E st :=
  fun a w Q hR hE => h a w Q (hR.move n0 n1 h0 h1) hE
theorem o_mvPost (n0 n1 : Nm) (h0 : n0.isU = false ∨ X.ext n0 = false) (h1 : n1.isU = false ∨ X.ext n1 = false) (h : SemOp X o (fun s => K (s.move n0 n1)) E st) : SemOp X o K E st := by
  refine SemOp.post h ?_
  intro s a w hR hK
  exact ⟨_, hR.move n0 n1 h0 h1, hK⟩
end
theorem under_usroot {U : Nm} (hU : U.isU = true) : ∀ {n : Nm}, Nm.under U n = true → n.sroot = false := by
  intro n
  induction n with
  | s d => intro h; cases U <;> simp [Nm.isU, Nm.under] at *
  | u k i j => intro _; rfl
  | c q i j ih =>
    intro h
    simp only [Nm.under, Bool.or_eq_true, decide_eq_true_eq] at h
    rcases h with h | h
    · rw [← h] at hU; cases hU
    · exact ih h
def hsub (U : Nm) (hp : Nm → Option AO) : Nm → Option AO := fun m => if Nm.under U m then hp m else none
section
variable {X : Ctx} {st : St} {K : St → Prop} {E : AV → St → Prop} {d f : Nat} {ty : TypeId} {pos : String} {aft : Array Edge} {g : Option (Nat × Bool)} {args : Array Operand} {Ts : Array TypeId} {az : List AV} {R : Nm → AV → (Nm → Option AO) → Prop}
theorem x_mut (U : Nm) (hU : U.isU = true) (hext : X.ext U = true → st.hp U ≠ none) (hd : d < X.n := by first | (simp; done) | fail) (ha : args.toList.map (ev st) = az := by simp [fx]; first | done | rfl)
    (hF : FnE X.P X.gl f (Nm.under U) az (hsub U st.hp) R noE) (h : ∀ y H', R (.s d) y H' → K ((st.call d (Nm.under U) (hsub U st.hp) H').put (some d) y)) :
    SemOp X ⟨some d, .call ⟨.value (.func f), args, Ts⟩, ty, pos, aft, g⟩ K E st := by
  subst ha
  refine call_sem (D := Nm.under U) (H := hsub U st.hp) (R := R) (E0 := noE) hF (ent_func hF.1 rfl) false ⟨rfl, fun j a a' h h' => ?_⟩ (fun n hn => ?_) (fun n hn => ?_) (fun n hn => ?_) (fun k i j he => ?_) (fun e he => by obtain rfl := Option.some.inj he; exact hd) (fun x H' hR => ?_) (fun _ _ h => h.elim)
  · rw [h] at h'
    obtain rfl := Option.some.inj h'
    exact .refl _
  · cases hx : Nm.under U n with
    | false => rfl
    | true =>
      have h1 := under_usroot hU hx
      have h2 := Nm.sroot_under (a := .s d) rfl hn
      rw [h1] at h2
      cases h2
  · simp [hsub, hn]
  · simp only [hsub] at hn
    split at hn
    · assumption
    · exact absurd rfl hn
  · cases hx : Nm.under U (.u k i j) with
    | false => exact .inl rfl
    | true =>
      right
      have : Nm.u k i j = U := by cases U <;> simp [Nm.isU, Nm.under] at * <;> exact ⟨hx.1, hx.2.1, hx.2.2⟩
      simp only [hsub, hx, if_true]
      rw [this] at he ⊢
      exact hext he
  · exact h x H' hR
end
section
variable {st : St} {d t : Nat} {D : Nm → Bool} {H H' : Nm → Option AO} {m : Nm}
@[simp] theorem call_tm : (st.call d D H H').tm t = (st.tm t).tr (cf d D H) := rfl
@[simp] theorem call_gl : (st.call d D H H').gl = st.gl := rfl
@[simp] theorem call_hp : (st.call d D H H').hp m = if D m || Nm.under (.s d) m then H' m else (st.hp m).map (AO.tr (cf d D H)) := rfl
@[simp] theorem cf_eq : cf d D H m = if Nm.under (.s d) m then none else if D m then (if m.isU && (H m).isSome then some m else none) else some m := rfl
@[simp] theorem hsub_eq {U : Nm} {hp : Nm → Option AO} : hsub U hp m = if Nm.under U m then hp m else none := rfl
end
end Go.Hm
end
section
namespace Go.Hm
open Go Go.RowKit
theorem AV.tr_tr (f g : Nm → Option Nm) (a : AV) : (a.tr f).tr g = a.tr (fun m => (f m).bind g) := by
  refine AV.rec (motive_1 := fun a => (a.tr f).tr g = a.tr (fun m => (f m).bind g)) (motive_2 := fun l => trLL g (trLL f l) = trLL (fun m => (f m).bind g) l) (motive_3 := fun l => trL g (trL f l) = trL (fun m => (f m).bind g) l) ?_ ?_ ?_ ?_ ?_ ?_ ?_ ?_ ?_ ?_ ?_ ?_ ?_ ?_ ?_ ?_ a
  all_goals intros
  all_goals simp only [AV.tr, trL, trLL, *]
  all_goals (split <;> simp_all [AV.tr])
theorem AO.tr_tr (f g : Nm → Option Nm) (o : AO) : (o.tr f).tr g = o.tr (fun m => (f m).bind g) := by
  have h : AV.tr g ∘ AV.tr f = AV.tr (fun m => (f m).bind g) := funext fun a => AV.tr_tr f g a
  cases o with
  | row z rows => simp [AO.tr, h]
  | map es => simp [AO.tr, AV.tr_tr]
  | trow T z ex rows => simp [AO.tr, h]
def rtf (N V : Nm) (d : Nat) (m : Nm) : Option Nm := if Nm.under N m then (if m = N then some N else none) else if Nm.under V m then none else if Nm.under (.s d) m then none else some m
def St.mutc (st : St) (N V : Nm) (d : Nat) (H' : Nm → Option AO) : St :=
  { tm := fun t => (st.tm t).tr (rtf N V d),
    hp := fun m => if Nm.under N m then (if mv V N (Nm.ren N V m) = some m then (H' (Nm.ren N V m)).map (AO.tr (mv V N)) else none) else if Nm.under V m then none else if Nm.under (.s d) m then (H' m).map (AO.tr (mv V N)) else (st.hp m).map (AO.tr (rtf N V d)),
    n := st.n, gl := st.gl }
section
variable {st : St} {N V m : Nm} {d t : Nat} {H' : Nm → Option AO}
@[simp] theorem rtf_eq : rtf N V d m = if Nm.under N m then (if m = N then some N else none) else if Nm.under V m then none else if Nm.under (.s d) m then none else some m := rfl
@[simp] theorem mutc_tm : (st.mutc N V d H').tm t = (st.tm t).tr (rtf N V d) := rfl
@[simp] theorem mutc_gl : (st.mutc N V d H').gl = st.gl := rfl
@[simp] theorem mutc_hp : (st.mutc N V d H').hp m = if Nm.under N m then (if mv V N (Nm.ren N V m) = some m then (H' (Nm.ren N V m)).map (AO.tr (mv V N)) else none) else if Nm.under V m then none else if Nm.under (.s d) m then (H' m).map (AO.tr (mv V N)) else (st.hp m).map (AO.tr (rtf N V d)) := rfl
end
theorem ren_isU {N V : Nm} {x : Nm} (h : Nm.under N x = true) (hne : x ≠ N) : (Nm.ren N V x).isU = false := by
  cases x with
  | s d => simp [Nm.under] at h; exact absurd h hne
  | u a b c => simp [Nm.under] at h; exact absurd h hne
  | c q i j => simp [Nm.ren, hne]
theorem under_s_u {V n : Nm} {d : Nat} (hV : V.isU = true) (h : Nm.under V n = true) : Nm.under (.s d) n = false := by
  cases hx : Nm.under (.s d) n with
  | false => rfl
  | true =>
    have h1 := under_usroot hV h
    have h2 := Nm.sroot_under (a := .s d) rfl hx
    rw [h1] at h2
    cases h2
theorem rtf_comp {N V : Nm} {d : Nat} {Hs : Nm → Option AO} (hV : V.isU = true) (hNV : Nm.under V N = false) (hs : (Hs V).isSome = true) : (fun m => ((mv N V m).bind (cf d (Nm.under V) Hs)).bind (mv V N)) = rtf N V d := by
  funext x
  by_cases hx : Nm.under N x = true
  · have hu : Nm.under V (Nm.ren N V x) = true := Nm.under_ren x hx
    have hsd := under_s_u (d := d) hV hu
    by_cases e : x = N
    · subst e
      simp [hV, hs, Nm.under_self, hsd] at hsd ⊢
      simp [hsd]
    · have := ren_isU (V := V) hx e
      simp [hx, hu, hsd, this, e]
  · simp only [Bool.not_eq_true] at hx
    by_cases hv : Nm.under V x = true
    · simp [hx, hv]
    · simp only [Bool.not_eq_true] at hv
      by_cases hd : Nm.under (.s d) x = true
      · simp [hx, hv, hd]
      · simp only [Bool.not_eq_true] at hd
        simp [hx, hv, hd]
theorem mutc_eq {st : St} {N V : Nm} {d : Nat} {H' : Nm → Option AO} {y : AV} (hV : V.isU = true) (hNV : Nm.under V N = false) (hs : (hsub V (st.move N V).hp V).isSome = true) :
    (((st.move N V).call d (Nm.under V) (hsub V (st.move N V).hp) H').put (some d) y).move V N = (st.mutc N V d H').put (some d) (y.tr (mv V N)) := by
  have hc := rtf_comp (N := N) (d := d) hV hNV hs
  have e1 : ∀ a : AV, ((a.tr (mv N V)).tr (cf d (Nm.under V) (hsub V (st.move N V).hp))).tr (mv V N) = a.tr (rtf N V d) := by
    intro a
    rw [AV.tr_tr (mv N V), AV.tr_tr, ← hc]
  have e2 : ∀ o : AO, ((o.tr (mv N V)).tr (cf d (Nm.under V) (hsub V (st.move N V).hp))).tr (mv V N) = o.tr (rtf N V d) := by
    intro o
    rw [AO.tr_tr (mv N V), AO.tr_tr, ← hc]
  unfold St.move
  simp only [St.nm, St.put, St.mutc]
  congr 1
  · funext t
    by_cases h : t = d
    · simp [h]
    · simp only [h, if_false]
      exact e1 _
  · funext m
    simp only [hmv]
    by_cases h1 : Nm.under N m = true
    · rw [if_pos h1, if_pos h1]
      have hu : Nm.under V (Nm.ren N V m) = true := Nm.under_ren m h1
      simp only [St.call, St.nm, hu, Bool.true_or, if_true]
    · simp only [Bool.not_eq_true] at h1
      simp only [h1, Bool.false_eq_true, if_false]
      by_cases h2 : Nm.under V m = true
      · simp only [h2, if_true]
      · simp only [Bool.not_eq_true] at h2
        simp only [h2, Bool.false_eq_true, if_false, St.call, St.nm, Bool.false_or]
        by_cases h3 : Nm.under (.s d) m = true
        · simp only [h3, if_true]
        · simp only [Bool.not_eq_true] at h3
          simp only [h3, Bool.false_eq_true, if_false, St.nm, St.move, hmv, h2, h1]
          cases st.hp m with
          | none => rfl
          | some o => simp only [Option.map_some]; exact congrArg some (e2 o)
section
variable {X : Ctx} {st : St} {K : St → Prop} {E : AV → St → Prop} {d f : Nat} {ty : TypeId} {pos : String} {aft : Array Edge} {g : Option (Nat × Bool)} {args : Array Operand} {Ts : Array TypeId} {az : List AV} {R : Nm → AV → (Nm → Option AO) → Prop}
theorem x_mutc (N V : Nm) (hV : V.isU = true := by rfl) (hN : N.isU = false := by rfl) (hNV : Nm.under V N = false := by first | (simp; done) | fail) (hext : X.ext V = false) (hs : (hsub V (st.move N V).hp V).isSome = true) (hd : d < X.n := by first | (simp; done) | fail)
    (ha : args.toList.map (ev (st.move N V)) = az := by simp [fx]; first | done | rfl)
    (hF : FnE X.P X.gl f (Nm.under V) az (hsub V (st.move N V).hp) R noE) (h : ∀ y H', R (.s d) y H' → K ((st.mutc N V d H').put (some d) (y.tr (mv V N)))) :
    SemOp X ⟨some d, .call ⟨.value (.func f), args, Ts⟩, ty, pos, aft, g⟩ K E st := by
  refine o_mv N V (.inl hN) (.inr hext) (o_mvPost V N (.inr hext) (.inl hN) ?_)
  refine x_mut V hV (fun e => by rw [hext] at e; cases e) hd ha hF fun y H' hR => ?_
  rw [mutc_eq hV hNV hs]
  exact h y H' hR
end
section
variable {p : Prg} {n : Nm} {i l d a b e : Nat}
@[simp] theorem pRows_rtf (hV : Nm.under (.u a b e) n = false) (hd : Nm.under (.s d) n = false) : (pRows n p).map (fun r => r.map (AV.tr (rtf (.c n i l) (.u a b e) d))) = pRows n p := by
  have hN : Nm.under (.c n i l) n = false := by
    cases h : Nm.under (.c n i l) n with
    | false => rfl
    | true => exact absurd rfl (Nm.under_not_c h).2
  refine pRows_tr fun i' j' _ => ?_
  by_cases h : i' = i ∧ j' = l
  · simp [h.1, h.2]
  · simp [hN, hV, hd, h]
@[simp] theorem pRows_mvself {m : Nm} : (pRows n p).map (fun r => r.map (AV.tr (mv n m))) = pRows m p := pRows_tr (by simp)
@[simp] theorem pRows_rtf2 {N : Nm} (hN : Nm.under N n = false) (hN2 : Nm.under n N = false) (hV : Nm.under (.u a b e) n = false) (hd : Nm.under (.s d) n = false) : (pRows n p).map (fun r => r.map (AV.tr (rtf N (.u a b e) d))) = pRows n p := by
  refine pRows_tr fun i' j' _ => ?_
  have h : ¬ Nm.c n i' j' = N := fun h => by rw [← h] at hN2; simp at hN2
  have h2 : Nm.under N (.c n i' j') = false := by
    simp only [Nm.under, Bool.or_eq_false_iff, decide_eq_false_iff_not]
    exact ⟨h, hN⟩
  simp only [rtf_eq, h2, Bool.false_eq_true, if_false, under_uc, hV, under_sc, hd]
end
def markI (n : Nat) (c : Int) : List Int := (List.range n).map (fun i : Nat => c + i)
def markS (n : Nat) (c : Int) : List Stm := (List.range n).map (fun i : Nat => ⟨c + 4 * i, c + 4 * i + 1, c + 4 * i + 2, c + 4 * i + 3⟩)
def cntB (k : Blk) : Nat := 2 + k.params.length + 4 * k.body.length
def cntTo (p : Prg) : Nat → Nat
  | 0 => 0
  | i + 1 => cntTo p i + (match p[i]? with | some k => cntB k | none => 0)
def cnt (p : Prg) : Nat := cntTo p p.length
def markBlk (k : Blk) (c : Int) : Blk := ⟨c, c + 1, markI k.params.length (c + 2), markS k.body.length (c + 2 + k.params.length)⟩
def markTo (p : Prg) (c : Int) (i : Nat) : Prg := p.mapIdx (fun j k => if j < i then markBlk k (c + cntTo p j) else k)
def markP (p : Prg) (c : Int) : Prg := markTo p c p.length
section
variable {p : Prg} {c : Int} {i j : Nat} {k : Blk} {n : Nm}
@[simp] theorem markI_len {n : Nat} : (markI n c).length = n := by simp [markI]
@[simp] theorem markS_len {n : Nat} : (markS n c).length = n := by simp [markS]
theorem cntTo_get (h : p[i]? = some k) : cntTo p (i + 1) = cntTo p i + cntB k := by simp only [cntTo, h]
theorem cntTo_le (hs : Sml p) (i : Nat) : cntTo p i ≤ 5242882 * i := by
  induction i with
  | zero => exact Nat.zero_le _
  | succ i ih =>
    have h1 : cntTo p (i + 1) ≤ cntTo p i + 5242882 := by
      simp only [cntTo]
      cases h : p[i]? with
      | none => simp only; omega
      | some k =>
        have h1 := (hs.bsm h).params
        have h2 := (hs.bsm h).body
        simp only [cntB]
        omega
    omega
@[simp] theorem markTo_len : (markTo p c i).length = p.length := by simp [markTo]
theorem markTo_get (h : p[j]? = some k) : (markTo p c i)[j]? = some (if j < i then markBlk k (c + cntTo p j) else k) := by simp [markTo, h]
theorem markTo_zero : markTo p c 0 = p := by
  apply List.ext_getElem?
  intro j
  cases h : p[j]? with
  | none =>
    rw [List.getElem?_eq_none_iff] at h ⊢
    simpa using h
  | some k => rw [markTo_get h]; simp
theorem markI_set {xs : List Int} (h : i < xs.length) : (markI i c ++ xs.drop i).set i (c + i) = markI (i + 1) c ++ xs.drop (i + 1) := by
  rw [List.set_append_right _ _ (by simp)]
  simp only [markI_len, Nat.sub_self]
  rw [List.drop_eq_getElem_cons h, List.set_cons_zero]
  simp [markI, List.range_succ]
theorem markS_set {xs : List Stm} (h : i < xs.length) : (markS i c ++ xs.drop i).set i ⟨c + 4 * i, c + 4 * i + 1, c + 4 * i + 2, c + 4 * i + 3⟩ = markS (i + 1) c ++ xs.drop (i + 1) := by
  rw [List.set_append_right _ _ (by simp)]
  simp only [markS_len, Nat.sub_self]
  rw [List.drop_eq_getElem_cons h, List.set_cons_zero]
  simp [markS, List.range_succ]
@[simp] theorem rowsSet_len {rows : List (List AV)} {off : Nat} {vals : List AV} : (rowsSet rows i off vals).length = rows.length := by simp [rowsSet]
theorem srows_set4 {L : List Stm} {a b d e : Int} (h : i < L.length) : rowsSet (rowsSet (rowsSet (rowsSet (srows L) i 0 [iv a]) i 1 [iv b]) i 2 [iv d]) i 3 [iv e] = srows (L.set i ⟨a, b, d, e⟩) := by
  apply List.ext_getElem?
  intro j
  simp only [rowsSet, List.getElem?_modify, srows_get, List.getElem?_set]
  by_cases e1 : i = j
  · subst e1
    have : L[i]? = some L[i] := gE h
    simp [h]
  · simp [e1]
def setKP (q : Prg) (i : Nat) (a b : Int) : Prg := q.modify i (fun k => { k with kind := a, parent := b })
theorem pRows_setKP {q : Prg} {a b : Int} : rowsSet (rowsSet (pRows n q) i 0 [iv a]) i 1 [iv b] = pRows n (setKP q i a b) := by
  apply List.ext_getElem?
  intro j
  simp only [rowsSet, List.getElem?_modify, pRows_get, setKP]
  cases h : q[j]? with
  | none => simp
  | some k =>
    by_cases e1 : i = j <;> simp [e1]
theorem setKP_get {q : Prg} {a b : Int} (h : q[j]? = some k) : (setKP q i a b)[j]? = some (if i = j then { k with kind := a, parent := b } else k) := by
  simp only [setKP, List.getElem?_modify, h]
  by_cases e : i = j <;> simp [e]
@[simp] theorem setKP_len {q : Prg} {a b : Int} : (setKP q i a b).length = q.length := by simp [setKP]
theorem pRows_congr {q q' : Prg} (hl : q.length = q'.length) (h : ∀ (j : Nat) k k', q[j]? = some k → q'[j]? = some k' → k.kind = k'.kind ∧ k.parent = k'.parent ∧ k.params.length = k'.params.length ∧ k.body.length = k'.body.length) : pRows n q = pRows n q' := by
  apply List.ext_getElem?
  intro j
  rw [pRows_get, pRows_get]
  cases hj : q[j]? with
  | none =>
    have : q'[j]? = none := by
      rw [List.getElem?_eq_none_iff] at hj ⊢
      omega
    rw [this]
  | some k =>
    obtain ⟨k', hk'⟩ : ∃ k', q'[j]? = some k' := ⟨_, gE (by rw [← hl]; exact (gS hj).1)⟩
    rw [hk']
    obtain ⟨h1, h2, h3, h4⟩ := h j k k' hj hk'
    simp [h1, h2, h3, h4]
theorem pRows_mark (hk : p[i]? = some k) : pRows n (setKP (markTo p c i) i (c + cntTo p i) (c + cntTo p i + 1)) = pRows n (markTo p c (i + 1)) := by
  refine pRows_congr (by simp) fun j a b ha hb => ?_
  have hj : j < p.length := by have := (gS hb).1; simpa using this
  obtain ⟨q, hq⟩ : ∃ q, p[j]? = some q := ⟨_, gE hj⟩
  rw [setKP_get (markTo_get hq)] at ha
  rw [markTo_get hq] at hb
  obtain rfl := Option.some.inj ha
  obtain rfl := Option.some.inj hb
  by_cases e : i = j
  · subst e
    simp [markBlk]
  · by_cases e2 : j < i
    · have e3 : j < i + 1 := by omega
      simp [e, e2, e3]
    · have e3 : ¬ j < i + 1 := by omega
      simp [e, e2, e3]
end
theorem markTo_params {p : Prg} {c : Int} {i j : Nat} {r : Blk} (h : (markTo p c i)[j]? = some r) : ∃ k, p[j]? = some k ∧ r = if j < i then markBlk k (c + cntTo p j) else k := by
  have hj : j < p.length := by have := (gS h).1; simpa using this
  obtain ⟨q, hq⟩ : ∃ q, p[j]? = some q := ⟨_, gE hj⟩
  rw [markTo_get hq] at h
  exact ⟨q, hq, (Option.some.inj h).symm⟩
section
variable {X : Ctx} {st : St} {K : St → Prop} {E : AV → St → Prop}
theorem o_abs {o : Oper} (F : St → Prop) (h : F st) (k : ∀ s, F s → SemOp X o K E s) : SemOp X o K E st := k st h
theorem s_abs {ds : List (Option Nat)} {l : List Oper} (F : St → Prop) (h : F st) (k : ∀ s, F s → SemL X ds K E l s) : SemL X ds K E l st := k st h
end
structure BoxP (st : St) (d : Nat) (p : Prg) : Prop where
  tm : st.tm d = .pt (.s d) 0
  hp : st.hp (.s d) = some (.row 1 [[.hs (.c (.s d) 0 0) 4 0 p.length]])
  own : OwnP st.hp (.c (.s d) 0 0) p
end Go.Hm
end
section
namespace Go.Hm
open Go Go.RowKit Go.ChangeShapes Go.WideShapes Go.Deep
def g0 (w : World) : Gh := { C := fun b => b < w.heap.size, φ := fun _ => none, κ := fun _ => 0 }
theorem cell_lt {w : World} {a : Addr} {v : Value} (h : w.cell? a = some v) : a.block < w.heap.size ∧ a.spot = none := by
  unfold World.cell? at h
  split at h
  · rename_i c t fr hb
    refine ⟨(Array.getElem?_eq_some_iff.1 hb).1, ?_⟩
    split at h
    · cases h
    · rename_i hs
      cases hsp : a.spot with
      | none => rfl
      | some _ => simp [hsp] at hs
  · cases h
end Go.Hm
end
section
namespace Go.Hm
open Go Go.RowKit
def swapI (n x y : Int) : Int := if n = x then y else n
def Stm.ren (s : Stm) (x y : Int) : Stm :=
  ⟨s.kind, if s.sets ∨ 9 ≤ s.kind then swapI s.to x y else s.to,
    if s.kind = 1 ∨ s.kind = 6 ∨ s.kind = 7 ∨ s.kind = 8 ∨ s.kind = 2 ∨ s.kind = 5 then swapI s.a x y else s.a, if s.kind = 2 ∨ s.kind = 5 then swapI s.b x y else s.b⟩
def Blk.ren (k : Blk) (x y : Int) : Blk := ⟨k.kind, k.parent, k.params.map (fun n => swapI n x y), k.body.map (fun s => s.ren x y)⟩
def insideF (p : Prg) (b : Int) : Nat → Int → Bool
  | 0, j => decide (j = b)
  | n + 1, j => if b < j then (match p[j.toNat]? with | some q => insideF p b n q.parent | none => false) else decide (j = b)
def inside (p : Prg) (c b : Int) : Bool := insideF p b p.length c
theorem insideF_fuel {p : Prg} {b : Int} (hh : Heads p) (hb : 0 ≤ b) : ∀ (n m : Nat) (j : Int), j ≤ n → j ≤ m → insideF p b n j = insideF p b m j
  | 0, 0, _, _, _ => rfl
  | 0, m + 1, j, h, _ => by
    have h : j ≤ 0 := h
    simp only [insideF]
    rw [if_neg (by omega)]
  | n + 1, 0, j, _, h => by
    have h : j ≤ 0 := h
    simp only [insideF]
    rw [if_neg (by omega)]
  | n + 1, m + 1, j, h1, h2 => by
    simp only [insideF]
    split
    · cases hq : p[j.toNat]? with
      | none => rfl
      | some q =>
        have := (hh _ q hq).2.1
        exact insideF_fuel hh hb n m _ (by omega) (by omega)
    · rfl
theorem inside_end {p : Prg} {c b : Int} (h : c ≤ b) : inside p c b = decide (c = b) := by
  unfold inside
  generalize p.length = n
  cases n with
  | zero => rfl
  | succ n => simp only [insideF]; rw [if_neg (by omega)]
theorem inside_step {p : Prg} {c : Nat} {b : Int} {q : Blk} (hh : Heads p) (hb : 0 ≤ b) (hq : p[c]? = some q) (h : b < c) : inside p c b = inside p q.parent b := by
  have hl : c < p.length := (gS hq).1
  have hp := (hh c q hq).2.1
  unfold inside
  obtain ⟨n, hn⟩ : ∃ n, p.length = n + 1 := ⟨p.length - 1, by omega⟩
  rw [insideF_fuel hh hb p.length n q.parent (by omega) (by omega), hn]
  simp only [insideF]
  rw [if_pos h]
  simp [hq]
def Blk.us (k : Blk) : List Int := sorted (k.rd ++ k.bd ++ k.dc 9 ++ k.dc 10)
def touches (p : Prg) (b x : Int) (c : Nat) : Bool := match p[c]? with | some k => decide (x ∈ k.us) && decide (owner p c x = b) | none => false
def touchTo (p : Prg) (b x : Int) : Nat → List Int
  | 0 => []
  | n + 1 => if touches p b x n = true then touchTo p b x n ++ [(n : Int)] else touchTo p b x n
def touched (p : Prg) (b x : Int) : List Int := touchTo p b x p.length
def renIf (c : Bool) (x y : Int) (k : Blk) : Blk := if c then k.ren x y else k
def renS (S : Nat → Bool) (x y : Int) (p : Prg) : Prg := p.mapIdx fun c k => renIf (S c) x y k
theorem renS_get {S : Nat → Bool} {x y : Int} {p : Prg} {c : Nat} : (renS S x y p)[c]? = (p[c]?).map (renIf (S c) x y) := by
  simp [renS, List.getElem?_mapIdx]
@[simp] theorem renS_len {S : Nat → Bool} {x y : Int} {p : Prg} : (renS S x y p).length = p.length := by simp [renS]
def clashAt (p : Prg) (b : Nat) (y : Int) (c : Nat) : Bool := decide (b ≤ c) && match p[c]? with | some k => inside p c b && decide (y ∈ k.us) | none => false
def clash (p : Prg) (b : Nat) (y : Int) : Bool := (List.range p.length).any (clashAt p b y)
def renAt (p : Prg) (b : Nat) (x y : Int) : Bool := match p[b]? with | some k => (k.kind == 1) && isLocal b k x && !clash p b y | none => false
def renOk (p : Prg) (b x y : Int) : Bool := progOk p && (decide (0 ≤ b) && decide (b < p.length)) && (decide (0 ≤ x) && decide (x ≤ 7)) && (decide (0 ≤ y) && decide (y ≤ 7)) && (x != y) && renAt p b.toNat x y
end Go.Hm
end
section
namespace Go.Hm
open Go Go.RowKit
def cutL (L : List Stm) (i : Nat) : List Stm := L.take i ++ L.drop (i + 1)
def cutP (p : Prg) (b i : Nat) : Prg := match p[b]? with | some k => setBody p b (cutL k.body i) | none => p
def idleAt (p : Prg) (b i : Nat) : Bool := match p[b]? with
  | some k => match k.body[i]? with
    | some s => ((s.kind == 9) || (s.kind == 10)) && (progOk (cutP p b i) && decide (ownersOf p = ownersOf (cutP p b i)))
    | none => false
  | none => false
end Go.Hm
end
section
namespace Go.Hm
open Go Go.RowKit
def dsub (D : Nm → Bool) (hp : Nm → Option AO) : Nm → Option AO := fun m => if D m then hp m else none
@[simp] theorem dsub_eq {D : Nm → Bool} {hp : Nm → Option AO} {m : Nm} : dsub D hp m = if D m then hp m else none := rfl
def D12 : Nm → Bool := fun n => Nm.under (.u 1 0 0) n || Nm.under (.u 2 0 0) n
@[simp] theorem D12_eq {n : Nm} : D12 n = (Nm.under (.u 1 0 0) n || Nm.under (.u 2 0 0) n) := rfl
theorem D12_root {n : Nm} (h : D12 n = true) : n.sroot = false := by
  simp only [D12, Bool.or_eq_true] at h
  rcases h with h | h <;> exact under_usroot rfl h
section
variable {X : Ctx} {st : St} {K : St → Prop} {E : AV → St → Prop} {d f : Nat} {ty : TypeId} {pos : String} {aft : Array Edge} {g : Option (Nat × Bool)} {args : Array Operand} {Ts : Array TypeId} {az : List AV} {R : Nm → AV → (Nm → Option AO) → Prop}
theorem x_mutD (D : Nm → Bool) (hD : ∀ n, D n = true → n.sroot = false) (hext : ∀ k i j, X.ext (.u k i j) = true → D (.u k i j) = false ∨ (dsub D st.hp) (.u k i j) ≠ none) (hd : d < X.n := by first | (simp; done) | fail) (ha : args.toList.map (ev st) = az := by simp [fx]; first | done | rfl)
    (hF : FnE X.P X.gl f D az (dsub D st.hp) R noE) (h : ∀ y H', R (.s d) y H' → K ((st.call d D (dsub D st.hp) H').put (some d) y)) :
    SemOp X ⟨some d, .call ⟨.value (.func f), args, Ts⟩, ty, pos, aft, g⟩ K E st := by
  subst ha
  refine call_sem (D := D) (H := dsub D st.hp) (R := R) (E0 := noE) hF (ent_func hF.1 rfl) false ⟨rfl, fun j a a' h h' => ?_⟩ (fun n hn => ?_) (fun n hn => ?_) (fun n hn => ?_) hext (fun e he => by obtain rfl := Option.some.inj he; exact hd) (fun x H' hR => ?_) (fun _ _ h => h.elim)
  · rw [h] at h'
    obtain rfl := Option.some.inj h'
    exact .refl _
  · cases hx : D n with
    | false => rfl
    | true =>
      have h1 := hD n hx
      have h2 := Nm.sroot_under (a := .s d) rfl hn
      rw [h1] at h2
      cases h2
  · simp [hn]
  · simp only [dsub] at hn
    split at hn
    · assumption
    · exact absurd rfl hn
  · exact h x H' hR
theorem x_own (hd : d < X.n := by first | (simp; done) | fail) (ha : args.toList.map (ev st) = az := by simp [fx]; first | done | rfl) (hF : FnOk X.P X.gl f az R) (h : ∀ y H', R (.s d) y H' → K ((st.call d noD noH H').put (some d) y)) :
    SemOp X ⟨some d, .call ⟨.value (.func f), args, Ts⟩, ty, pos, aft, g⟩ K E st := by
  subst ha
  refine call_sem (D := noD) (H := noH) (R := R) (E0 := noE) hF (ent_func hF.1 rfl) false ⟨rfl, fun j a a' h h' => ?_⟩ (fun _ _ => rfl) (fun n hn => by cases hn) (fun n hn => absurd rfl hn) (fun k i j _ => .inl rfl) (fun e he => by obtain rfl := Option.some.inj he; exact hd) (fun x H' hR => ?_) (fun _ _ h => h.elim)
  · rw [h] at h'
    obtain rfl := Option.some.inj h'
    exact .refl _
  · exact h x H' hR
end
def rk (a d : Nat) (m : Nm) : Option Nm :=
  if Nm.under (.s a) m then (if m = .s a then some (.u 2 0 0) else none) else if Nm.under (.u 2 0 0) m then none else if Nm.under (.s d) m then none else if Nm.under (.u 1 0 0) m then (if m = .u 1 0 0 then some (.u 1 0 0) else none) else some m
def St.rdr (st : St) (a d : Nat) (R : AO) : St :=
  { tm := fun t => (st.tm t).tr (rk a d),
    hp := fun m => if m = .u 1 0 0 then some R else if D12 m || Nm.under (.s d) m || Nm.under (.s a) m then none else (st.hp m).map (AO.tr (rk a d)),
    n := st.n, gl := st.gl }
section
variable {st : St} {a d t : Nat} {m : Nm} {R : AO}
@[simp] theorem rk_eq : rk a d m = if Nm.under (.s a) m then (if m = .s a then some (.u 2 0 0) else none) else if Nm.under (.u 2 0 0) m then none else if Nm.under (.s d) m then none else if Nm.under (.u 1 0 0) m then (if m = .u 1 0 0 then some (.u 1 0 0) else none) else some m := rfl
@[simp] theorem rdr_tm : (st.rdr a d R).tm t = (st.tm t).tr (rk a d) := rfl
@[simp] theorem rdr_gl : (st.rdr a d R).gl = st.gl := rfl
@[simp] theorem rdr_hp : (st.rdr a d R).hp m = if m = .u 1 0 0 then some R else if D12 m || Nm.under (.s d) m || Nm.under (.s a) m then none else (st.hp m).map (AO.tr (rk a d)) := rfl
end
end Go.Hm
end
section
namespace Go.Hm
open Go Go.RowKit
def rn (d : Nat) (m : Nm) : Option Nm := if Nm.under (.s d) m then none else if Nm.under (.u 1 0 0) m then (if m = .u 1 0 0 then some (.u 1 0 0) else none) else some m
def St.rdn (st : St) (d : Nat) (R : AO) (Hn : Nm → Option AO) : St :=
  { tm := fun t => (st.tm t).tr (rn d),
    hp := fun m => if m = .u 1 0 0 then some R else if Nm.under (.u 1 0 0) m then none else if Nm.under (.s d) m then Hn m else (st.hp m).map (AO.tr (rn d)),
    n := st.n, gl := st.gl }
section
variable {st : St} {d t : Nat} {m : Nm} {R : AO} {Hn : Nm → Option AO}
@[simp] theorem rn_eq : rn d m = if Nm.under (.s d) m then none else if Nm.under (.u 1 0 0) m then (if m = .u 1 0 0 then some (.u 1 0 0) else none) else some m := rfl
@[simp] theorem rdn_tm : (st.rdn d R Hn).tm t = (st.tm t).tr (rn d) := rfl
@[simp] theorem rdn_gl : (st.rdn d R Hn).gl = st.gl := rfl
@[simp] theorem rdn_hp : (st.rdn d R Hn).hp m = if m = .u 1 0 0 then some R else if Nm.under (.u 1 0 0) m then none else if Nm.under (.s d) m then Hn m else (st.hp m).map (AO.tr (rn d)) := rfl
end
end Go.Hm
end
section
namespace Go.Hm
open Go Go.RowKit
def al (N V m : Nm) : Option Nm := if m = N then some V else if Nm.under V m then none else some m
def St.alias (st : St) (N V : Nm) (t : Nat) : St := { tm := fun t' => if t' = t then (st.tm t).tr (al N V) else (st.tm t').tr (kl V), hp := hkl V st.hp, n := st.n, gl := st.gl }
section
variable {st : St} {N V m : Nm} {t t' : Nat}
@[simp] theorem al_eq : al N V m = if m = N then some V else if Nm.under V m then none else some m := rfl
@[simp] theorem alias_tm : (st.alias N V t).tm t' = if t' = t then (st.tm t).tr (al N V) else (st.tm t').tr (kl V) := rfl
@[simp] theorem alias_gl : (st.alias N V t).gl = st.gl := rfl
@[simp] theorem alias_hp : (st.alias N V t).hp m = if Nm.under V m then none else (st.hp m).map (AO.tr (kl V)) := rfl
end
theorem Rw.alias {X : Ctx} {st : St} {a : Go.Act} {w : World} (h : Rw X st a w) (N V : Nm) (t : Nat) (hV : X.ext V = false) : Rw X (st.alias N V t) a w := by
  obtain ⟨C, g, h1, h2, h3, h4, h5, hg⟩ := h
  let g' : Gh := { C := g.C, φ := fun m => if m = V then g.φ N else g.φ m, κ := fun m => if m = V then g.κ N else g.κ m }
  have hs := hg.step (g' := g') (w' := w) (f := kl V) (hp' := hkl V st.hp) rfl (fun n n' e => by
    obtain ⟨rfl, hu⟩ := kl_spec e
    have : ¬ n = V := fun e => by rw [e, Nm.under_self] at hu; cases hu
    simp [g', this]) rfl rfl rfl (Nat.le_refl _) (fun _ _ => rfl) (fun _ _ _ => rfl) (fun m o e => by
    obtain ⟨o', e1, e2, e3⟩ := hkl_old e
    exact .inl ⟨m, o', e1, e2, e3, fun _ _ => rfl⟩)
  refine ⟨C, g', h1, h2, h3, h4, fun k i j he => ?_, ⟨hs.inv, hs.defers, hs.size, fun t' => ?_, hs.glob⟩⟩
  · have : ¬ Nm.u k i j = V := fun e => by rw [e, hV] at he; cases he
    simp only [g', this, if_false]
    exact h5 k i j he
  · by_cases e : t' = t
    · subst e
      simp only [St.alias, if_true]
      refine (hg.slots t').tr (g' := g') (fun _ h => h) (fun _ _ => rfl) (fun n n' e => ?_)
      unfold al at e
      split at e
      · rename_i hn
        subst hn
        obtain rfl := Option.some.inj e
        simp [g']
      · split at e
        · cases e
        · rename_i hu
          obtain rfl := Option.some.inj e
          have : ¬ n = V := fun e => by rw [e, Nm.under_self] at hu; exact hu rfl
          simp [g', this]
    · simp only [St.alias, e, if_false]
      exact hs.slots t'
theorem setBody_mem {p : Prg} {i : Nat} {L : List Stm} {q : Blk} (h : q ∈ setBody p i L) : ∃ r ∈ p, q.params = r.params ∧ (q.body = r.body ∨ q.body = L) := by
  obtain ⟨c, hc⟩ := List.getElem?_of_mem h
  cases hr : p[c]? with
  | none =>
    have := (gS hc).1
    rw [setBody_len] at this
    rw [gE this] at hr
    cases hr
  | some r =>
    rw [setBody_get hr] at hc
    refine ⟨r, List.mem_of_getElem? hr, ?_⟩
    split at hc
    · obtain rfl := Option.some.inj hc
      exact ⟨rfl, .inr rfl⟩
    · obtain rfl := Option.some.inj hc
      exact ⟨rfl, .inl rfl⟩
end Go.Hm
end
section
namespace Go.Hm
open Go Go.RowKit
structure Free (k : Blk) (y : Int) : Prop where
  rd : y ∉ readsAll k.body
  bd : y ∉ boundAll k
  d9 : y ∉ declAll k 9
  d10 : y ∉ declAll k 10
theorem Free.of {k : Blk} {y : Int} (hy : 0 ≤ y ∧ y ≤ 7) (h : y ∉ k.us) : Free k y := by
  simp only [Blk.us, mem_sorted, List.mem_append, Blk.rd, Blk.bd, Blk.dc, hy, and_true, true_and, not_or] at h
  exact ⟨h.1.1.1, h.1.1.2, h.1.2, h.2⟩
section
variable {k : Blk} {x y z : Int} (hx : 0 ≤ x ∧ x ≤ 7) (hy : 0 ≤ y ∧ y ≤ 7) (hxy : x ≠ y) (hf : Free k y)
include hx hy hxy hf
end
theorem swapI_back {n x y : Int} (h : n ≠ y) : swapI (swapI n x y) y x = n := by
  unfold swapI
  split
  · rename_i e; simp [e]
  · simp [h]
theorem Stm.ren_back {k : Blk} {s : Stm} {x y : Int} (hx : 0 ≤ x) (hy : 0 ≤ y) (hn : NmOk k) (hf : Free k y) (hs : s ∈ k.body) : (s.ren x y).ren y x = s := by
  have hk := hn.kinds s hs
  have hrd : ∀ z ∈ s.reads, z ≠ y := fun z hz e => hf.rd (List.mem_flatMap.2 ⟨s, hs, e ▸ hz⟩)
  have hto : s.sets ∨ 9 ≤ s.kind → s.to ≠ y := by
    intro h e
    by_cases h9 : s.kind = 9
    · exact hf.d9 (List.mem_map.2 ⟨s, List.mem_filter.2 ⟨hs, by simp [h9]⟩, e⟩)
    · by_cases h10 : s.kind = 10
      · exact hf.d10 (List.mem_map.2 ⟨s, List.mem_filter.2 ⟨hs, by simp [h10]⟩, e⟩)
      · refine hf.bd (List.mem_append.2 (.inr (List.mem_map.2 ⟨s, List.mem_filter.2 ⟨hs, ?_⟩, e⟩)))
        simp only [decide_eq_true_eq]
        rcases h with h | h
        · exact .inl h
        · exact .inr (by omega)
  obtain ⟨c, t, a, b⟩ := s
  simp only [Stm.reads] at hrd
  simp only at hto hk
  simp only [Stm.ren, Stm.mk.injEq, true_and]
  refine ⟨?_, ?_, ?_⟩
  · split
    · rename_i h
      exact swapI_back (hto h)
    · rfl
  · split
    · rename_i h
      refine swapI_back (hrd a ?_)
      rcases h with rfl | rfl | rfl | rfl | rfl | rfl <;> simp
      split <;> simp
    · rfl
  · split
    · rename_i h
      by_cases hb : b = -1
      · subst hb
        have e1 : swapI (-1) x y = -1 := by unfold swapI; rw [if_neg (by omega)]
        have e2 : swapI (-1) y x = -1 := by unfold swapI; rw [if_neg (by omega)]
        rw [e1, e2]
      · refine swapI_back (hrd b ?_)
        have h1 : ¬ (c = 1 ∨ c = 6 ∨ c = 7 ∨ c = 8) := by omega
        rcases h with rfl | rfl
        · simp
        · simp [hb]
    · rfl
theorem Blk.ren_back {k : Blk} {x y : Int} (hx : 0 ≤ x) (hy : 0 ≤ y) (hn : NmOk k) (hf : Free k y) : (k.ren x y).ren y x = k := by
  obtain ⟨c, u, ps, ss⟩ := k
  simp only [Blk.ren, List.map_map, Blk.mk.injEq, true_and]
  refine ⟨?_, ?_⟩
  · conv => rhs; rw [← List.map_id ps]
    refine List.map_congr_left fun n h => ?_
    have : n ≠ y := fun e => hf.bd (by simp [boundAll, ← e, h])
    simp [swapI_back this]
  · conv => rhs; rw [← List.map_id ss]
    refine List.map_congr_left fun s h => ?_
    exact Stm.ren_back hx hy hn hf h
end Go.Hm
end
section
namespace Go.Hm
open Go Go.RowKit
structure RenH (p : Prg) (b : Nat) (x y : Int) : Prop where
  sh : ShapeP p
  made : ∀ i, 0 < i → i < p.length → madeIn p i = 1
  decl : ∀ (c : Nat) k, 0 < c → p[c]? = some k → ∀ n : Nat, n < 8 → declOk p c k n = true
  hb : 0 < b
  hbl : b < p.length
  hx : 0 ≤ x ∧ x ≤ 7
  hy : 0 ≤ y ∧ y ≤ 7
  hxy : x ≠ y
  fn : ∀ k, p[b]? = some k → k.kind = 1
  loc : ∀ k, p[b]? = some k → isLocal b k x = true
  free : ∀ (c : Nat) k, p[c]? = some k → inside p c b = true → Free k y
theorem progOk_parts {p : Prg} (hs : Sml p) (h : progOk p = true) : ShapeP p ∧ (∀ i, 0 < i → i < p.length → madeIn p i = 1) ∧ (∀ (c : Nat) k, 0 < c → p[c]? = some k → ∀ n : Nat, n < 8 → declOk p c k n = true) := by
  simp only [progOk, Bool.and_eq_true] at h
  refine ⟨ShapeP.of hs h.1, (shapeOk_heads h.1).2.2.2.2, fun c k h0 hk n hn => ?_⟩
  have := List.all_eq_true.1 h.2 c (List.mem_range.2 (gS hk).1)
  have h0' : (c == 0) = false := by simp; omega
  rw [h0', Bool.false_or] at this
  simp only [declsOk, hk] at this
  exact List.all_eq_true.1 this n (List.mem_range.2 hn)
theorem inside_ge {p : Prg} {c b : Int} (h : inside p c b = true) : b ≤ c := by
  by_cases e : c ≤ b
  · rw [inside_end e] at h
    simp at h
    omega
  · omega
theorem RenH.of {p : Prg} {b : Nat} {x y : Int} (hs : Sml p) (h : renOk p b x y = true) : RenH p b x y := by
  simp only [renOk, Bool.and_eq_true, decide_eq_true_eq, bne_iff_ne, ne_eq] at h
  obtain ⟨⟨⟨⟨⟨h1, h2⟩, h3⟩, h4⟩, h5⟩, h6⟩ := h
  obtain ⟨a1, a2, a3⟩ := progOk_parts hs h1
  have hbl : b < p.length := by omega
  obtain ⟨kb, hkb⟩ : ∃ k, p[b]? = some k := ⟨_, gE hbl⟩
  simp only [renAt, Int.toNat_natCast, hkb, Bool.and_eq_true, beq_iff_eq, Bool.not_eq_true'] at h6
  obtain ⟨⟨h7, h8⟩, h9⟩ := h6
  have h0 : 0 < b := by
    rcases Nat.eq_zero_or_pos b with e | e
    · subst e
      have := a1.fun0 kb hkb
      exact absurd h7 this
    · exact e
  refine ⟨a1, a2, a3, h0, hbl, h3, h4, h5, fun k hk => ?_, fun k hk => ?_, fun c k hk hi => ?_⟩
  · rw [hkb] at hk; cases hk; exact h7
  · rw [hkb] at hk; cases hk; exact h8
  · apply Free.of h4
    intro hm
    have hc := (gS hk).1
    have hge := inside_ge hi
    have : clash p b y = true := by
      refine List.any_eq_true.2 ⟨c, List.mem_range.2 hc, ?_⟩
      simp only [clashAt, hk, hi, hm, decide_true, Bool.and_true, decide_eq_true_eq]
      omega
    rw [this] at h9
    cases h9
section
variable {p : Prg} {b : Nat} {x y : Int} (H : RenH p b x y)
include H
omit H in
theorem renS_blk {c : Nat} {k : Blk} (hk : p[c]? = some k) : (renS (touches p b x) x y p)[c]? = some (renIf (touches p b x c) x y k) := by
  rw [renS_get, hk]; rfl
theorem RenH.heads : Heads (renS (touches p b x) x y p) := by
  intro i q hq
  rw [renS_get] at hq
  cases hk : p[i]? with
  | none => rw [hk] at hq; cases hq
  | some k =>
    rw [hk] at hq
    simp only [Option.map_some, Option.some.injEq] at hq
    have e : q.parent = k.parent := by subst hq; unfold renIf; split <;> rfl
    rw [e]
    exact H.sh.heads i k hk
omit H in
theorem renIf_kind {c : Bool} {k : Blk} : (renIf c x y k).kind = k.kind := by unfold renIf; split <;> rfl
omit H in
theorem renIf_parent {c : Bool} {k : Blk} : (renIf c x y k).parent = k.parent := by unfold renIf; split <;> rfl
theorem RenH.walk {z w : Int} (stop : Nat → Prop)
    (hst : ∀ (j : Nat) k, p[j]? = some k → 0 < j → k.kind = 1 → stop j →
      (z ∈ (renIf (touches p b x j) x y k).dc 9 ↔ w ∈ k.dc 9) ∧ isLocal j (renIf (touches p b x j) x y k) z = isLocal j k w)
    (hup : ∀ (j : Nat) k, p[j]? = some k → 0 < j → stop j → (k.kind = 1 → w ∉ k.dc 9 ∧ isLocal j k w = false) → stop k.parent.toNat) :
    ∀ n : Nat, n < p.length → stop n → outerF (renS (touches p b x) x y p) z p.length n = outerF p w p.length n := by
  intro n
  induction n using Nat.strongRecOn with
  | ind n ih =>
    intro hn hs
    rcases Nat.eq_zero_or_pos n with e | e
    · subst e
      rw [outerF_end (by simp), outerF_end (by simp)]
    · obtain ⟨k, hk⟩ : ∃ k, p[n]? = some k := ⟨_, gE hn⟩
      obtain ⟨g1, g2, g3⟩ := H.sh.heads n k hk
      have g4 := g3 e
      have hq := renS_blk (b := b) (x := x) (y := y) hk
      have h1 := outerF_step (x := z) H.heads hq e
      rw [renS_len] at h1
      rw [h1, outerF_step (x := w) H.sh.heads hk e, renIf_kind, renIf_parent]
      obtain ⟨m, hm⟩ : ∃ m : Nat, k.parent = m := ⟨k.parent.toNat, by omega⟩
      have key : (k.kind = 1 → w ∉ k.dc 9 ∧ isLocal n k w = false) → outerF (renS (touches p b x) x y p) z p.length k.parent = outerF p w p.length k.parent := by
        intro h
        have := ih m (by omega) (by omega) (by have := hup n k hk e hs h; rw [hm] at this; simpa using this)
        rw [hm]; exact this
      by_cases hk1 : k.kind = 1
      · obtain ⟨f1, f2⟩ := hst n k hk e hk1 hs
        have hk2 : ¬ (k.kind ≠ 1) := fun h => h hk1
        rw [if_neg hk2, if_neg hk2, f2]
        by_cases h9 : w ∈ k.dc 9
        · rw [if_pos h9, if_pos (f1.2 h9)]
        · rw [if_neg h9, if_neg (fun h => h9 (f1.1 h))]
          cases hl : isLocal n k w with
          | true => rfl
          | false =>
            simp only [Bool.false_eq_true, if_false]
            exact key fun _ => ⟨h9, hl⟩
      · rw [if_pos hk1, if_pos hk1]
        exact key fun h => absurd h hk1
end
def picked (f : Nat → Bool) : Nat → List Int
  | 0 => []
  | n + 1 => if f n = true then picked f n ++ [(n : Int)] else picked f n
def joined (g : Nat → List Int) : Nat → List Int
  | 0 => []
  | n + 1 => joined g n ++ g n
theorem outerF_pos {p : Prg} {x : Int} : ∀ (n : Nat) (j : Int), outerF p x n j = -1 ∨ 0 < outerF p x n j
  | 0, _ => .inl rfl
  | n + 1, j => by
    simp only [outerF]
    split
    · exact .inl rfl
    · rename_i hj
      split
      · exact .inl rfl
      · split
        · exact outerF_pos n _
        · split
          · exact .inl rfl
          · split
            · exact .inr (by omega)
            · exact outerF_pos n _
theorem owner_pos {p : Prg} {c : Nat} {x : Int} : owner p c x = -1 ∨ 0 < owner p c x := by
  unfold owner
  split
  · split
    · exact .inl rfl
    · rename_i h
      split
      · exact .inr (by omega)
      · unfold outer
        split
        · exact outerF_pos _ _
        · exact .inl rfl
  · exact .inl rfl
def freeIn (p : Prg) (b c : Nat) (x : Int) : Bool := decide (0 < owner p c x) && decide (owner p c x < b)
def freeAt (p : Prg) (b c : Nat) : List Int := match p[c]? with
  | some k => if inside p c b = true then k.us.filter (freeIn p b c) else []
  | none => []
def freesRaw (p : Prg) (b : Nat) : Nat → List Int := joined fun i => freeAt p b (b + i)
def freesL (p : Prg) (b : Nat) : List Int := sorted (freesRaw p b (p.length - b))
def cellIn (p : Prg) (b c : Nat) (x : Int) : Bool := owner p c x == b
def cellAt (p : Prg) (b c : Nat) : List Int := match p[c]? with
  | some k => k.us.filter (cellIn p b c)
  | none => []
def cellsRaw (p : Prg) (b : Nat) : Nat → List Int := joined fun i => cellAt p b (b + 1 + i)
def kindAt (p : Prg) (b : Nat) : Int := match p[b]? with | some k => k.kind | none => -1
def cellsL (p : Prg) (b : Nat) : List Int := if kindAt p b = 1 then sorted (cellsRaw p b (p.length - (b + 1))) else []
def fastIn (p : Prg) (b : Nat) (x : Nat) : Bool := match p[b]? with
  | some k => isLocal b k x && !decide ((x : Int) ∈ cellsL p b)
  | none => false
def fastsL (p : Prg) (b : Nat) : List Int := if kindAt p b = 1 then picked (fastIn p b) 8 else []
def symOf (p : Prg) (b : Nat) (x : Int) : Int :=
  if owner p b x < 0 then 0 else if owner p b x ≠ b then 1 else if kindAt p b = 2 then 2 else if x ∈ cellsL p b then 3 else 4
def cellPl (p : Prg) (b : Nat) (x : Int) : Int := if x ∈ cellsL p b then placeIn (cellsL p b) x else (cellsL p b).length + placeIn (freesL p b) x
def nameOp (p : Prg) (b : Nat) (x w : Int) : Int × Int :=
  if symOf p b x = 0 then (8 + w, x) else if symOf p b x = 2 then (11 + w, x) else if symOf p b x = 4 then (2 + w, placeIn (fastsL p b) x) else (5 + w, cellPl p b x)
end Go.Hm
end
section
namespace Go.Hm
open Go Go.RowKit Go.ChangeShapes Go.WideShapes Go.Deep
theorem FnOk.rawG {P : Program} {gl : Nat → Option (List AV)} {f : FuncId} {az : List AV} {v0 : Value} (h : FnOk P gl f az (fun _ y _ => y = .sc v0)) {W : World} {g : Gh} {args : Array Value} (hC : ∀ b, g.C b → b < W.heap.size)
    (hgl : ∀ i row, gl i = some row → (RV g W (.pointer (some ⟨i, 0, none⟩)) (.el row 0) ∧ Exw W i row) ∧ ∀ f : Nm → Option Nm, row.map (AV.tr f) = row) (hsz : args.size = az.length)
    (hargs : ∀ (j : Nat) v x, args[j]? = some v → az[j]? = some x → RV g W v x) : Calls P f args W fun e W' => e = .returned v0 ∧ Below W.heap.size W W' := by
  have hinv : Inv (ownH g noH) g.C W g noH W := ⟨rfl, rfl, rfl, Nat.le_refl _, fun _ _ _ => rfl, rfl, hC, fun _ _ e => (by cases e), fun _ _ _ e => (by cases e), fun _ _ _ _ _ e => (by cases e)⟩
  refine (h.2 (.s 0) g.C W g args (fun _ _ => rfl) rfl (fun _ e => absurd rfl e) hinv hgl hsz hargs).mono fun e w' he => ?_
  cases e with
  | returned v =>
    obtain ⟨C', g', H', x, hA, hv, rfl⟩ := he
    refine ⟨by rw [hv.sc_eq], hA.inv.os, hA.inv.tape, hA.inv.output, hA.inv.size, fun b hb => hA.inv.keep b hb ?_⟩
    rintro ⟨n, hn, _⟩
    exact hn rfl
  | panicked ch => obtain ⟨_, _, _, _, _, _, _, _, e⟩ := he; exact e.elim
  | outgrown => exact he.elim
end Go.Hm
end
section
namespace Go.Hm
open Go Go.RowKit
def orows (l : List (Int × Int)) : List (List AV) := l.map fun o => [iv o.1, iv o.2]
section
variable {l m : List (Int × Int)} {o : Int × Int} {i : Nat} {f : Nm → Option Nm}
@[simp] theorem orows_len : (orows l).length = l.length := by simp [orows]
@[simp] theorem orows_nil : orows [] = [] := rfl
@[simp] theorem orows_cln : (orows l).all (fun r => r.all AV.cln) = true := by simp [orows]
theorem orows_uni : ∀ r ∈ orows l, r.length = 2 := by
  intro r hr
  obtain ⟨o, _, rfl⟩ := List.mem_map.1 hr
  rfl
abbrev osl (l : List (Int × Int)) : AV := .sl 2 (orows l)
theorem bw_ords {hp : Nm → Option AO} {n : Nm} {len : Nat} (hn : hp n = some (.row 2 (orows l))) (hl : len = l.length) : Bw hp noD (.hs n 2 0 len) (osl l) := bw_list hn (by simp [hl]) orows_uni
end
def readL (p : Prg) (b : Nat) (s : Stm) : List (Int × Int) := s.reads.map fun x => nameOp p b x 0
def workL (s : Stm) : List (Int × Int) :=
  if s.kind = 0 then [(1, s.a)] else if s.kind = 2 then [(14, 0)] else if s.kind = 3 then [(15, s.a)] else if s.kind = 4 then [(16, s.a)] else if s.kind = 5 then [(17, (s.reads.length : Int) - 1)]
  else if s.kind = 6 then [(18, s.b)] else if s.kind = 7 then [(19, 0)] else if s.kind = 8 then [(20, 0)] else []
def setL (p : Prg) (b : Nat) (s : Stm) : List (Int × Int) := if s.kind = 11 then [nameOp p b s.to 2] else if 0 ≤ s.kind ∧ s.kind ≤ 6 then [nameOp p b s.to 1] else []
def stmtL (p : Prg) (b : Nat) (s : Stm) : List (Int × Int) := (0, 0) :: (readL p b s ++ (workL s ++ setL p b s))
def bodyL (p : Prg) (b : Nat) (ss : List Stm) : List (Int × Int) := ss.flatMap (stmtL p b)
def opsL (p : Prg) (b : Nat) : List (Int × Int) := match p[b]? with | some k => bodyL p b k.body | none => []
def ticks (l : List (Int × Int)) : Nat := l.countP fun o => o.1 == 0
theorem owner_self {p : Prg} {x : Int} {b : Nat} {k : Blk} (hk : p[b]? = some k) (hl : isLocal b k x = true) (hd : x ∉ k.dc 9) : owner p b x = b := by
  have hb : b ≠ 0 := by
    rintro rfl
    simp [isLocal] at hl
  simp [owner, hk, hl, hd, hb]
theorem outerF_le {p : Prg} {x : Int} (hh : Heads p) : ∀ (n : Nat) (j : Int), outerF p x n j = -1 ∨ outerF p x n j ≤ j
  | 0, _ => .inl rfl
  | n + 1, j => by
    simp only [outerF]
    split
    · exact .inl rfl
    · split
      · exact .inl rfl
      · rename_i q hq
        have h1 := (hh _ q hq).2.1
        have ih := outerF_le hh (x := x) n q.parent
        split
        · rcases ih with e | e
          · exact .inl e
          · exact .inr (by omega)
        · split
          · exact .inl rfl
          · split
            · exact .inr (Int.le_refl _)
            · rcases ih with e | e
              · exact .inl e
              · exact .inr (by omega)
end Go.Hm
end
section
namespace Go.Hm
open Go Go.RowKit
structure Cod where
  kind : Int
  params : List Int
  fasts : List Int
  cells : List Int
  frees : List Int
  ops : List (Int × Int)
  deriving DecidableEq, Inhabited
def noCode : Cod := ⟨0, [], [], [], [], []⟩
@[simp] theorem noCode_kind : noCode.kind = 0 := rfl
@[simp] theorem noCode_params : noCode.params = [] := rfl
@[simp] theorem noCode_fasts : noCode.fasts = [] := rfl
@[simp] theorem noCode_cells : noCode.cells = [] := rfl
@[simp] theorem noCode_frees : noCode.frees = [] := rfl
@[simp] theorem noCode_ops : noCode.ops = [] := rfl
def codeL (p : Prg) (b : Nat) : Cod := match p[b]? with | some k => ⟨k.kind, k.params, fastsL p b, cellsL p b, freesL p b, opsL p b⟩ | none => noCode
def codesTo (p : Prg) (n : Nat) : List Cod := (List.range n).map (codeL p)
@[simp] theorem codesTo_zero {p : Prg} : codesTo p 0 = [] := rfl
abbrev Cod.row (c : Cod) : List AV := [iv c.kind, isl c.params, isl c.fasts, isl c.cells, isl c.frees, osl c.ops]
abbrev Cod.av (c : Cod) : AV := .agg c.row
def kcrows (cs : List Cod) : List (List AV) := cs.map Cod.row
abbrev csl (cs : List Cod) : AV := .sl 6 (kcrows cs)
def Cod.own (n : Nm) (i : Nat) (c : Cod) : List AV :=
  [iv c.kind, .hs (.c n i 1) 1 0 c.params.length, .hs (.c n i 2) 1 0 c.fasts.length, .hs (.c n i 3) 1 0 c.cells.length, .hs (.c n i 4) 1 0 c.frees.length, .hs (.c n i 5) 2 0 c.ops.length]
@[simp] theorem Cod.own_eq {n : Nm} {i : Nat} {c : Cod} : c.own n i = [iv c.kind, .hs (.c n i 1) 1 0 c.params.length, .hs (.c n i 2) 1 0 c.fasts.length, .hs (.c n i 3) 1 0 c.cells.length, .hs (.c n i 4) 1 0 c.frees.length, .hs (.c n i 5) 2 0 c.ops.length] := rfl
structure OwnK (hp : Nm → Option AO) (n : Nm) (i : Nat) (c : Cod) : Prop where
  params : hp (.c n i 1) = some (.row 1 (irows c.params))
  fasts : hp (.c n i 2) = some (.row 1 (irows c.fasts))
  cells : hp (.c n i 3) = some (.row 1 (irows c.cells))
  frees : hp (.c n i 4) = some (.row 1 (irows c.frees))
  ops : hp (.c n i 5) = some (.row 2 (orows c.ops))
def kdRows (n : Nm) (cs : List Cod) : List (List AV) := cs.mapIdx fun i c => c.own n i
structure OwnC (hp : Nm → Option AO) (n : Nm) (cs : List Cod) : Prop where
  top : hp n = some (.row 6 (kdRows n cs))
  each : ∀ (i : Nat) c, cs[i]? = some c → OwnK hp n i c
section
variable {cs : List Cod} {i a b d l : Nat} {n q k1 : Nm} {c : Cod}
@[simp] theorem kcrows_len : (kcrows cs).length = cs.length := by simp [kcrows]
@[simp] theorem kcrows_get : (kcrows cs)[i]? = (cs[i]?).map Cod.row := by simp [kcrows]
@[simp] theorem kdRows_len : (kdRows n cs).length = cs.length := by simp [kdRows]
@[simp] theorem kdRows_get : (kdRows n cs)[i]? = (cs[i]?).map (fun c => c.own n i) := by simp [kdRows]
@[simp] theorem kdRows_nil : kdRows n [] = [] := rfl
end
theorem bw_code {hp : Nm → Option AO} {n : Nm} {i : Nat} {c : Cod} (h : OwnK hp n i c) : ∀ (j : Nat) a a', (c.own n i)[j]? = some a → c.row[j]? = some a' → Bw hp noD a a'
  | 0, a, a', ha, ha' => by obtain rfl := Option.some.inj ha; obtain rfl := Option.some.inj ha'; exact .refl _
  | 1, a, a', ha, ha' => by obtain rfl := Option.some.inj ha; obtain rfl := Option.some.inj ha'; exact bw_ints h.params rfl
  | 2, a, a', ha, ha' => by obtain rfl := Option.some.inj ha; obtain rfl := Option.some.inj ha'; exact bw_ints h.fasts rfl
  | 3, a, a', ha, ha' => by obtain rfl := Option.some.inj ha; obtain rfl := Option.some.inj ha'; exact bw_ints h.cells rfl
  | 4, a, a', ha, ha' => by obtain rfl := Option.some.inj ha; obtain rfl := Option.some.inj ha'; exact bw_ints h.frees rfl
  | 5, a, a', ha, ha' => by obtain rfl := Option.some.inj ha; obtain rfl := Option.some.inj ha'; exact bw_ords h.ops rfl
  | j + 6, a, a', ha, _ => by simp [Cod.own] at ha
theorem bw_codeA {hp : Nm → Option AO} {n : Nm} {i : Nat} {c : Cod} (h : OwnK hp n i c) : Bw hp noD (.agg (c.own n i)) c.av := .agg _ _ rfl (bw_code h)
theorem bw_codes {hp : Nm → Option AO} {n : Nm} {len : Nat} {cs : List Cod} (h : OwnC hp n cs) (hl : len = cs.length) : Bw hp noD (.hs n 6 0 len) (csl cs) := by
  subst hl
  refine .hs n 6 0 cs.length (kdRows n cs) (kcrows cs) rfl h.top (by simp) (by simp) (by simp [kcrows]) fun i r r' hr hr' j a a' ha ha' => ?_
  rw [Nat.zero_add, kdRows_get] at hr
  rw [kcrows_get] at hr'
  obtain ⟨x, hx, rfl⟩ := Option.map_eq_some_iff.1 hr
  rw [hx] at hr'
  obtain rfl := Option.some.inj hr'
  exact bw_code (h.each i x hx) j a a' ha ha'
theorem OwnK.hcln {H' : Nm → Option AO} {n : Nm} {i : Nat} {c : Cod} (h : OwnK H' n i c) : OwnK (hcln H') n i c :=
  ⟨hcln_row h.params (by simp), hcln_row h.fasts (by simp), hcln_row h.cells (by simp), hcln_row h.frees (by simp), hcln_row h.ops (by simp)⟩
theorem OwnC.hcln {H' : Nm → Option AO} {n : Nm} {cs : List Cod} (h : OwnC H' n cs) : OwnC (hcln H') n cs := by
  refine ⟨hcln_row h.top ?_, fun i c hc => (h.each i c hc).hcln⟩
  simp only [kdRows, List.all_eq_true]
  intro r hr
  obtain ⟨i, hi⟩ := List.getElem?_of_mem hr
  rw [List.getElem?_mapIdx] at hi
  obtain ⟨x, _, rfl⟩ := Option.map_eq_some_iff.1 hi
  simp [Cod.own]
end Go.Hm
end
