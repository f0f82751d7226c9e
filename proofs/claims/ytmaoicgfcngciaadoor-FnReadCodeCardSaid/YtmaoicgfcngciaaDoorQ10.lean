/-
  Own texts, joined by mkclaim.py: Hm43, Hm44, Hm46, Hm47, Hm48, Hm49, Hm50, Hm51, Hm52, Hm53, Hm54, Hm55, Hm56, Hm57, Hm58, Hm60, Hm61, Hm62, Hm63.
-/
import Derived.Test.YtmaoicgfcngciaaDoorQ09
import Derived.Test.YtmaoicgfcngciaaDoorQ08
import Derived.OpenShut
import Derived.FnData
set_option linter.unusedSimpArgs false
set_option linter.unusedVariables false
set_option maxRecDepth 100000
set_option maxHeartbeats 4000000

section
namespace Go.Hm
open Go Go.RowKit
def clashAt (p : Prg) (b : Nat) (y : Int) (c : Nat) : Bool := decide (b ≤ c) && match p[c]? with | some k => inside p c b && decide (y ∈ k.us) | none => false
def clash (p : Prg) (b : Nat) (y : Int) : Bool := (List.range p.length).any (clashAt p b y)
def renAt (p : Prg) (b : Nat) (x y : Int) : Bool := match p[b]? with | some k => (k.kind == 1) && isLocal b k x && !clash p b y | none => false
def renOk (p : Prg) (b x y : Int) : Bool := progOk p && (decide (0 ≤ b) && decide (b < p.length)) && (decide (0 ≤ x) && decide (x ≤ 7)) && (decide (0 ≤ y) && decide (y ≤ 7)) && (x != y) && renAt p b.toNat x y
def mapTo {α : Type} (f : α → α) (l : List α) (i : Nat) : List α := (l.take i).map f ++ l.drop i
section
variable {α : Type} {f : α → α} {l : List α} {i : Nat} {x : α}
@[simp] theorem mapTo_len (h : i ≤ l.length) : (mapTo f l i).length = l.length := by simp [mapTo]; omega
theorem mapTo_zero : mapTo f l 0 = l := by simp [mapTo]
theorem mapTo_all : mapTo f l l.length = l.map f := by simp [mapTo]
theorem mapTo_get (h : l[i]? = some x) : (mapTo f l i)[i]? = some x := by
  have hi := (gS h).1
  have e : (List.map f (List.take i l)).length = i := by simp; omega
  rw [mapTo, List.getElem?_append_right (by omega), e, Nat.sub_self, List.getElem?_drop]
  simpa using h
theorem mapTo_set (h : l[i]? = some x) : (mapTo f l i).set i (f x) = mapTo f l (i + 1) := by
  obtain ⟨hi, hx⟩ := gS h
  apply List.ext_getElem?
  intro j
  rw [List.getElem?_set, mapTo_len (by omega)]
  by_cases e : i = j
  · subst e
    rw [if_pos rfl, if_pos hi]
    have e1 : (List.map f (List.take (i + 1) l)).length = i + 1 := by simp; omega
    rw [mapTo, List.getElem?_append_left (by omega)]
    simp [h]
  · rw [if_neg e]
    simp only [mapTo]
    rcases Nat.lt_or_ge j i with h1 | h1
    · rw [List.getElem?_append_left (by simp; omega), List.getElem?_append_left (by simp; omega)]
      simp [h1, show j < i + 1 by omega]
    · rw [List.getElem?_append_right (by simp; omega), List.getElem?_append_right (by simp; omega)]
      simp only [List.length_map, List.length_take, List.getElem?_drop]
      congr 1
      omega
end
end Go.Hm
end
section
namespace Go.Hm
open Go Go.RowKit
section
variable {p : Prg} {b x y : Int} {i : Nat} {k : Blk}
end
section
variable {P : Program} {own : Nat → Prop} {C : Nat → Prop} {w0 : World} {g : Gh} {st : St} {a : Go.Act} {w : World}
end
section
variable {X : Ctx} {st : St} {K : St → Prop} {E : AV → St → Prop} {ds : List (Option Nat)} {l : List Oper} {o : Oper} {ty : TypeId} {pos : String} {aft : Array Edge} {g : Option (Nat × Bool)}
end
end Go.Hm
end
section
namespace Go.Hm
open Go Go.RowKit
def cutL (L : List Stm) (i : Nat) : List Stm := L.take i ++ L.drop (i + 1)
def cutP (p : Prg) (b i : Nat) : Prg := match p[b]? with | some k => setBody p b (cutL k.body i) | none => p
def idleAt (p : Prg) (b i : Nat) : Bool := match p[b]? with
  | some k => match k.body[i]? with
    | some s => ((s.kind == 9) || (s.kind == 10)) && (progOk (cutP p b i) && decide (ownersOf p = ownersOf (cutP p b i)))
    | none => false
  | none => false
abbrev byt (v : Int) : AV := .sc (.int .u8 v)
def brows (bs : List Int) : List (List AV) := bs.map fun v => [byt v]
abbrev bsl (bs : List Int) : AV := .sl 1 (brows bs)
section
variable {bs : List Int} {i : Nat} {f : Nm → Option Nm}
@[simp] theorem brows_len : (brows bs).length = bs.length := by simp [brows]
@[simp] theorem brows_getE {h : i < (brows bs).length} : (brows bs)[i] = [byt (bs[i]'(by simpa using h))] := by simp [brows]
@[simp] theorem brows_tr : (brows bs).map (fun r => r.map (AV.tr f)) = brows bs := by simp [brows]
@[simp] theorem brows_take {n : Nat} : (brows bs).take n = brows (bs.take n) := by simp [brows]
@[simp] theorem brows_drop {n : Nat} : (brows bs).drop n = brows (bs.drop n) := by simp [brows]
end
structure BytesOk (bs : List Int) : Prop where
  len : bs.length ≤ 2000
  rng : ∀ v ∈ bs, 0 ≤ v ∧ v ≤ 255
abbrev rdO (bs : List Int) (pos : Nat) : AO := .row 2 [[bsl bs, iv pos]]
def dsub (D : Nm → Bool) (hp : Nm → Option AO) : Nm → Option AO := fun m => if D m then hp m else none
@[simp] theorem dsub_eq {D : Nm → Bool} {hp : Nm → Option AO} {m : Nm} : dsub D hp m = if D m then hp m else none := rfl
def D12 : Nm → Bool := fun n => Nm.under (.u 1 0 0) n || Nm.under (.u 2 0 0) n
@[simp] theorem D12_eq {n : Nm} : D12 n = (Nm.under (.u 1 0 0) n || Nm.under (.u 2 0 0) n) := rfl
theorem D12_root {n : Nm} (h : D12 n = true) : n.sroot = false := by
  simp only [D12, Bool.or_eq_true] at h
  rcases h with h | h <;> exact under_usroot rfl h
section
variable {X : Ctx} {st : St} {K : St → Prop} {E : AV → St → Prop} {d f : Nat} {ty : TypeId} {pos : String} {aft : Array Edge} {g : Option (Nat × Bool)} {args : Array Operand} {Ts : Array TypeId} {az : List AV} {R : Nm → AV → (Nm → Option AO) → Prop}
theorem x_mutD (D : Nm → Bool) (hD : ∀ n, D n = true → n.sroot = false) (hext : ∀ k i j, X.ext (.u k i j) = true → D (.u k i j) = false ∨ (dsub D st.hp) (.u k i j) ≠ none) (hd : d < X.n := by first | (simp; done) | fail) (ha : args.toList.map (ev st) = az := by simp [fx]; first | done | rfl)
    (hF : FnE X.P X.gl f D az (dsub D st.hp) R noE) (h : ∀ y H', R (.s d) y H' → K ((st.call d D (dsub D st.hp) H').put (some d) y)) :
    SemOp X ⟨some d, .call ⟨.value (.func f), args, Ts⟩, ty, pos, aft, g⟩ K E st := by
  subst ha
  refine call_sem (D := D) (H := dsub D st.hp) (R := R) (E0 := noE) hF (ent_func hF.1 rfl) false ⟨rfl, fun j a a' h h' => ?_⟩ (fun n hn => ?_) (fun n hn => ?_) (fun n hn => ?_) hext (fun e he => by obtain rfl := Option.some.inj he; exact hd) (fun x H' hR => ?_) (fun _ _ h => h.elim)
  · rw [h] at h'
    obtain rfl := Option.some.inj h'
    exact .refl _
  · cases hx : D n with
    | false => rfl
    | true =>
      have h1 := hD n hx
      have h2 := Nm.sroot_under (a := .s d) rfl hn
      rw [h1] at h2
      cases h2
  · simp [hn]
  · simp only [dsub] at hn
    split at hn
    · assumption
    · exact absurd rfl hn
  · exact h x H' hR
theorem x_own (hd : d < X.n := by first | (simp; done) | fail) (ha : args.toList.map (ev st) = az := by simp [fx]; first | done | rfl) (hF : FnOk X.P X.gl f az R) (h : ∀ y H', R (.s d) y H' → K ((st.call d noD noH H').put (some d) y)) :
    SemOp X ⟨some d, .call ⟨.value (.func f), args, Ts⟩, ty, pos, aft, g⟩ K E st := by
  subst ha
  refine call_sem (D := noD) (H := noH) (R := R) (E0 := noE) hF (ent_func hF.1 rfl) false ⟨rfl, fun j a a' h h' => ?_⟩ (fun _ _ => rfl) (fun n hn => by cases hn) (fun n hn => absurd rfl hn) (fun k i j _ => .inl rfl) (fun e he => by obtain rfl := Option.some.inj he; exact hd) (fun x H' hR => ?_) (fun _ _ h => h.elim)
  · rw [h] at h'
    obtain rfl := Option.some.inj h'
    exact .refl _
  · exact h x H' hR
end
end Go.Hm
end
section
namespace Go.Hm
open Go Go.RowKit
def rk (a d : Nat) (m : Nm) : Option Nm :=
  if Nm.under (.s a) m then (if m = .s a then some (.u 2 0 0) else none) else if Nm.under (.u 2 0 0) m then none else if Nm.under (.s d) m then none else if Nm.under (.u 1 0 0) m then (if m = .u 1 0 0 then some (.u 1 0 0) else none) else some m
def St.rdr (st : St) (a d : Nat) (R : AO) : St :=
  { tm := fun t => (st.tm t).tr (rk a d),
    hp := fun m => if m = .u 1 0 0 then some R else if D12 m || Nm.under (.s d) m || Nm.under (.s a) m then none else (st.hp m).map (AO.tr (rk a d)),
    n := st.n, gl := st.gl }
section
variable {st : St} {a d t : Nat} {m : Nm} {R : AO}
@[simp] theorem rk_eq : rk a d m = if Nm.under (.s a) m then (if m = .s a then some (.u 2 0 0) else none) else if Nm.under (.u 2 0 0) m then none else if Nm.under (.s d) m then none else if Nm.under (.u 1 0 0) m then (if m = .u 1 0 0 then some (.u 1 0 0) else none) else some m := rfl
@[simp] theorem rdr_tm : (st.rdr a d R).tm t = (st.tm t).tr (rk a d) := rfl
@[simp] theorem rdr_gl : (st.rdr a d R).gl = st.gl := rfl
@[simp] theorem rdr_hp : (st.rdr a d R).hp m = if m = .u 1 0 0 then some R else if D12 m || Nm.under (.s d) m || Nm.under (.s a) m then none else (st.hp m).map (AO.tr (rk a d)) := rfl
end
theorem rk_comp {a d : Nat} {Hs : Nm → Option AO} (h1 : (Hs (.u 1 0 0)).isSome = true) (h2 : (Hs (.u 2 0 0)).isSome = true) : (fun m => (mv (.s a) (.u 2 0 0) m).bind (cf d D12 Hs)) = rk a d := by
  funext x
  by_cases hx : Nm.under (.s a) x = true
  · have hu : Nm.under (.u 2 0 0) (Nm.ren (.s a) (.u 2 0 0) x) = true := Nm.under_ren x hx
    have hsd := under_s_u (d := d) (V := .u 2 0 0) rfl hu
    by_cases e : x = .s a
    · subst e
      simp [h2, Nm.isU]
    · have := ren_isU (V := .u 2 0 0) hx e
      simp [hx, hu, hsd, this, e]
  · simp only [Bool.not_eq_true] at hx
    by_cases hv : Nm.under (.u 2 0 0) x = true
    · simp [hx, hv]
    · simp only [Bool.not_eq_true] at hv
      by_cases hd : Nm.under (.s d) x = true
      · simp [hx, hv, hd]
      · simp only [Bool.not_eq_true] at hd
        by_cases hw : Nm.under (.u 1 0 0) x = true
        · by_cases e : x = .u 1 0 0
          · subst e
            simp [hx, hv, hd, h1, Nm.isU]
          · have hi : x.isU = false := by
              cases x with
              | s d => simp [Nm.under] at hw
              | u a b c => simp [Nm.under] at hw; exact absurd (by simp [hw]) e
              | c q i j => rfl
            simp [hx, hv, hd, hw, e, hi]
        · simp only [Bool.not_eq_true] at hw
          simp [hx, hv, hd, hw]
section
variable {P : Program} {C : Nat → Prop} {w : World} {g0 : Gh} {H : Nm → Option AO} {n : Nat} {gl : Nat → Option (List AV)} {st : St} {K : St → Prop} {E : AV → St → Prop} {d f : Nat} {ty : TypeId} {ps : String} {aft : Array Edge} {gd : Option (Nat × Bool)} {a0 a1 : Operand} {Ts : Array TypeId} {bs xs : List Int} {pos : Nat}
def OneOk (P : Program) (gl : Nat → Option (List AV)) (f : FuncId) : Prop := ∀ (H : Nm → Option AO) (bs : List Int) (pos : Nat) (xs : List Int), BytesOk bs → pos ≤ 1000000 → (0 < xs.length ∧ xs.length ≤ 1000) → H (.u 1 0 0) = some (rdO bs pos) → H (.u 2 0 0) = some (.row 1 (irows xs)) →
    FnE P gl f D12 [.pt (.u 1 0 0) 0, .hs (.u 2 0 0) 1 0 xs.length] H (fun _ z H' => ∃ v, z = iv v ∧ v ∈ xs ∧ H' (.u 1 0 0) = some (rdO bs (pos + 1))) noE
theorem x_one {t0 t1 : Nat} (hF : OneOk P gl f) (a : Nat) (xs : List Int) (hb : BytesOk bs) (hpos : pos ≤ 1000000) (hx : 0 < xs.length ∧ xs.length ≤ 1000 := by first | (simp; done) | fail) (hV : H (.u 2 0 0) = none) (hd : d < n := by first | (simp; done) | fail)
    (h0 : st.tm t0 = .pt (.u 1 0 0) 0) (h1 : st.tm t1 = .hs (.s a) 1 0 xs.length) (hH : st.hp (.u 1 0 0) = some (rdO bs pos)) (hL : st.hp (.s a) = some (.row 1 (irows xs)))
    (h : ∀ v, v ∈ xs → K ((st.rdr a d (rdO bs (pos + 1))).put (some d) (iv v))) :
    SemOp (ctx0 P C w g0 H n gl) ⟨some d, .call ⟨.value (.func f), #[.tmp t0, .tmp t1], Ts⟩, ty, ps, aft, gd⟩ K E st := by
  have e1 : (st.move (.s a) (.u 2 0 0)).hp (.u 1 0 0) = some (rdO bs pos) := by simp [hH]
  have e2 : (st.move (.s a) (.u 2 0 0)).hp (.u 2 0 0) = some (.row 1 (irows xs)) := by simp [hL]
  have hc := rk_comp (a := a) (d := d) (Hs := dsub D12 (st.move (.s a) (.u 2 0 0)).hp) (by simp [hH]) (by simp [hL])
  refine o_mv (.s a) (.u 2 0 0) (.inl rfl) (.inr (by simp [ctx0, hV])) ?_
  refine SemOp.weak (K' := fun s => ∃ v H1, v ∈ xs ∧ H1 (.u 1 0 0) = some (rdO bs (pos + 1)) ∧ s = (((st.move (.s a) (.u 2 0 0)).call d D12 (dsub D12 (st.move (.s a) (.u 2 0 0)).hp) H1).put (some d) (iv v))) ?_ ?_
  · refine x_mutD (az := [.pt (.u 1 0 0) 0, .hs (.u 2 0 0) 1 0 xs.length]) D12 (fun n h => D12_root h) (fun k i j he => ?_) hd ?_ (hF _ bs pos xs hb hpos hx (by simp [hH]) (by simp [hL])) ?_
    · by_cases hu : Nm.u k i j = .u 1 0 0
      · right
        rw [hu]
        simp [hH]
      · by_cases hu2 : Nm.u k i j = .u 2 0 0
        · right
          rw [hu2]
          simp [hL]
        · left
          simp at hu hu2
          simp only [D12_eq, Nm.under, Bool.or_eq_false_iff, decide_eq_false_iff_not]
          refine ⟨fun e => ?_, fun e => ?_⟩
          · injection e with e1 e2 e3
            exact hu e1 e2 e3
          · injection e with e1 e2 e3
            exact hu2 e1 e2 e3
    · simp [h0, h1]
    · rintro y H1 ⟨v, rfl, hv, hH1⟩
      exact ⟨v, H1, hv, hH1, rfl⟩
  · rintro s ⟨v, H1, hv, hH1, rfl⟩
    refine ⟨((st.rdr a d (rdO bs (pos + 1))).put (some d) (iv v)).hp, fun m ob e => ?_, ?_⟩
    · simp only [put_hp, rdr_hp] at e
      split at e
      · rename_i hm
        subst hm
        simp only [put_hp, St.call, St.nm]
        simp [hH1]
        exact Option.some.inj e
      · split at e
        · cases e
        · rename_i hm1 hm2
          simp only [Bool.or_eq_true, not_or, Bool.not_eq_true] at hm2
          obtain ⟨⟨h12, hsd⟩, hsa⟩ := hm2
          have hu2 : Nm.under (.u 2 0 0) m = false := by
            simp only [D12_eq, Bool.or_eq_false_iff] at h12
            exact h12.2
          obtain ⟨o, ho, rfl⟩ := Option.map_eq_some_iff.1 e
          simp only [put_hp, St.call, St.nm, h12, hsd, Bool.or_false, Bool.false_eq_true, if_false, St.move, hmv, hu2, hsa, ho, Option.map_some, Option.some.injEq]
          rw [AO.tr_tr, ← hc]
          rfl
    · have ht : (((st.move (.s a) (.u 2 0 0)).call d D12 (dsub D12 (st.move (.s a) (.u 2 0 0)).hp) H1).put (some d) (iv v)).tm = ((st.rdr a d (rdO bs (pos + 1))).put (some d) (iv v)).tm := by
        funext t
        by_cases e : t = d
        · simp [St.put, e]
        · simp only [St.put, e, if_false]
          show (((st.tm t).tr (mv (.s a) (.u 2 0 0))).tr (cf d D12 (dsub D12 (st.move (.s a) (.u 2 0 0)).hp))) = (st.tm t).tr (rk a d)
          rw [AV.tr_tr, ← hc]
      rw [ht]
      exact h v hv
end
def rn (d : Nat) (m : Nm) : Option Nm := if Nm.under (.s d) m then none else if Nm.under (.u 1 0 0) m then (if m = .u 1 0 0 then some (.u 1 0 0) else none) else some m
def St.rdn (st : St) (d : Nat) (R : AO) (Hn : Nm → Option AO) : St :=
  { tm := fun t => (st.tm t).tr (rn d),
    hp := fun m => if m = .u 1 0 0 then some R else if Nm.under (.u 1 0 0) m then none else if Nm.under (.s d) m then Hn m else (st.hp m).map (AO.tr (rn d)),
    n := st.n, gl := st.gl }
section
variable {st : St} {d t : Nat} {m : Nm} {R : AO} {Hn : Nm → Option AO}
@[simp] theorem rn_eq : rn d m = if Nm.under (.s d) m then none else if Nm.under (.u 1 0 0) m then (if m = .u 1 0 0 then some (.u 1 0 0) else none) else some m := rfl
@[simp] theorem rdn_tm : (st.rdn d R Hn).tm t = (st.tm t).tr (rn d) := rfl
@[simp] theorem rdn_gl : (st.rdn d R Hn).gl = st.gl := rfl
@[simp] theorem rdn_hp : (st.rdn d R Hn).hp m = if m = .u 1 0 0 then some R else if Nm.under (.u 1 0 0) m then none else if Nm.under (.s d) m then Hn m else (st.hp m).map (AO.tr (rn d)) := rfl
end
theorem rn_comp {d : Nat} {Hs : Nm → Option AO} (h1 : (Hs (.u 1 0 0)).isSome = true) : cf d (Nm.under (.u 1 0 0)) Hs = rn d := by
  funext x
  by_cases hd : Nm.under (.s d) x = true
  · simp [hd]
  · simp only [Bool.not_eq_true] at hd
    by_cases hw : Nm.under (.u 1 0 0) x = true
    · by_cases e : x = .u 1 0 0
      · subst e
        simp [hd, h1, Nm.isU]
      · have hi : x.isU = false := by
          cases x with
          | s d => simp [Nm.under] at hw
          | u a b c => simp [Nm.under] at hw; exact absurd (by simp [hw]) e
          | c q i j => rfl
        simp [hd, hw, e, hi]
    · simp only [Bool.not_eq_true] at hw
      simp [hd, hw]
section
variable {X : Ctx} {st : St} {K : St → Prop} {E : AV → St → Prop} {d f : Nat} {ty : TypeId} {ps : String} {aft : Array Edge} {gd : Option (Nat × Bool)} {args : Array Operand} {Ts : Array TypeId} {az : List AV} {R : Nm → AV → (Nm → Option AO) → Prop} {bs : List Int}
theorem x_rdo (hd : d < X.n := by first | (simp; done) | fail) (hs : (st.hp (.u 1 0 0)).isSome = true) (ha : args.toList.map (ev st) = az) (hF : FnE X.P X.gl f (Nm.under (.u 1 0 0)) az (hsub (.u 1 0 0) st.hp) R noE)
    (h : ∀ z H', R (.s d) z H' → ∃ pos', H' (.u 1 0 0) = some (rdO bs pos') ∧ K ((st.rdn d (rdO bs pos') H').put (some d) z)) :
    SemOp X ⟨some d, .call ⟨.value (.func f), args, Ts⟩, ty, ps, aft, gd⟩ K E st := by
  have hc := rn_comp (d := d) (Hs := hsub (.u 1 0 0) st.hp) (by simpa using hs)
  refine SemOp.weak (K' := fun s => ∃ z H', R (.s d) z H' ∧ s = ((st.call d (Nm.under (.u 1 0 0)) (hsub (.u 1 0 0) st.hp) H').put (some d) z)) ?_ ?_
  · refine x_mut (.u 1 0 0) rfl (fun _ => by rw [← Option.isSome_iff_ne_none]; exact hs) hd ha hF fun z H' hR => ⟨z, H', hR, rfl⟩
  · rintro s ⟨z, H', hR, rfl⟩
    obtain ⟨pos', hH, hK⟩ := h z H' hR
    refine ⟨((st.rdn d (rdO bs pos') H').put (some d) z).hp, fun m ob e => ?_, ?_⟩
    · simp only [put_hp, rdn_hp] at e
      simp only [put_hp, St.call, St.nm]
      split at e
      · rename_i hm
        subst hm
        simp [hH]
        exact Option.some.inj e
      · split at e
        · cases e
        · rename_i hw
          split at e
          · rename_i hsd
            simp [hsd, e]
          · rename_i hsd
            simp only [Bool.not_eq_true] at hw hsd
            simp only [hw, hsd, Bool.or_false, Bool.false_eq_true, if_false]
            rw [hc]
            exact e
    · have ht : ((st.call d (Nm.under (.u 1 0 0)) (hsub (.u 1 0 0) st.hp) H').put (some d) z).tm = ((st.rdn d (rdO bs pos') H').put (some d) z).tm := by
        funext t
        by_cases e : t = d
        · simp [St.put, e]
        · simp only [St.put, e, if_false]
          show (st.tm t).tr (cf d (Nm.under (.u 1 0 0)) (hsub (.u 1 0 0) st.hp)) = (st.tm t).tr (rn d)
          rw [hc]
      rw [ht]
      exact hK
def RdPost {α : Type} (bs : List Int) (V : α → AV) (Q : α → Nat → Prop) : Nm → AV → (Nm → Option AO) → Prop := fun _ z H' => ∃ v pos', z = V v ∧ Q v pos' ∧ H' (.u 1 0 0) = some (rdO bs pos')
theorem x_rd {α : Type} {V : α → AV} {Q : α → Nat → Prop} (hd : d < X.n := by first | (simp; done) | fail) (hs : (st.hp (.u 1 0 0)).isSome = true) (ha : args.toList.map (ev st) = az) (hF : FnE X.P X.gl f (Nm.under (.u 1 0 0)) az (hsub (.u 1 0 0) st.hp) (RdPost bs V Q) noE)
    (h : ∀ v pos', Q v pos' → K ((st.rdn d (rdO bs pos') (fun _ => none)).put (some d) (V v))) :
    SemOp X ⟨some d, .call ⟨.value (.func f), args, Ts⟩, ty, ps, aft, gd⟩ K E st := by
  refine SemOp.weak (K' := fun s => ∃ v pos' H', Q v pos' ∧ s = ((st.rdn d (rdO bs pos') H').put (some d) (V v))) ?_ ?_
  · refine x_rdo (bs := bs) hd hs ha hF ?_
    rintro z H' ⟨v, pos', rfl, hQ, hH⟩
    exact ⟨pos', hH, v, pos', H', hQ, rfl⟩
  · rintro s ⟨v, pos', H', hQ, rfl⟩
    refine ⟨((st.rdn d (rdO bs pos') (fun _ => none)).put (some d) (V v)).hp, fun m ob e => ?_, h v pos' hQ⟩
    simp only [put_hp, rdn_hp] at e ⊢
    split at e
    · rename_i hm; simp only [hm, if_true]; exact e
    · rename_i hm
      rw [if_neg hm]
      split at e
      · cases e
      · rename_i hw
        rw [if_neg hw]
        split at e
        · cases e
        · rename_i hsd
          rw [if_neg hsd]
          exact e
end
end Go.Hm
end
section
namespace Go.Hm
open Go Go.RowKit
def bareS (L : List Stm) : List Stm := L.filter fun s => !((s.kind == 9) || (s.kind == 10))
def bareB (k : Blk) : Blk := { k with body := bareS k.body }
def bareP (p : Prg) : Prg := p.map bareB
theorem bareS_len {L : List Stm} : (bareS L).length ≤ L.length := List.length_filter_le _ _
theorem bareS_step {L : List Stm} {i : Nat} {s : Stm} (h : L[i]? = some s) : bareS (L.take (i + 1)) = if ((s.kind == 9) || (s.kind == 10)) = true then bareS (L.take i) else bareS (L.take i) ++ [s] := by
  rw [List.take_add_one, h]
  simp only [bareS, List.filter_append, Option.toList_some]
  cases e : ((s.kind == 9) || (s.kind == 10))
  · rw [if_neg (by simp)]
    simp only [List.filter_cons, e, Bool.not_false, if_true, List.filter_nil]
  · rw [if_pos rfl]
    simp only [List.filter_cons, e, Bool.not_true, Bool.false_eq_true, if_false, List.filter_nil, List.append_nil]
theorem bareTo_step {p : Prg} {i : Nat} {k : Blk} (h : p[i]? = some k) : setBody (mapTo bareB p i) i (bareS k.body) = mapTo bareB p (i + 1) := by
  rw [← mapTo_set (f := bareB) h]
  have hg := mapTo_get (f := bareB) h
  apply List.ext_getElem?
  intro j
  rw [List.getElem?_set]
  cases hj : (mapTo bareB p i)[j]? with
  | none =>
    have h1 : (setBody (mapTo bareB p i) i (bareS k.body))[j]? = none := by
      rw [List.getElem?_eq_none_iff, setBody_len]
      exact List.getElem?_eq_none_iff.1 hj
    rw [h1]
    by_cases e : i = j
    · subst e; rw [hg] at hj; cases hj
    · rw [if_neg e]
  | some q =>
    rw [setBody_get hj]
    by_cases e : i = j
    · subst e
      rw [hg] at hj
      obtain rfl := Option.some.inj hj
      rw [if_pos rfl, if_pos rfl, if_pos (gS hg).1]
      rfl
    · rw [if_neg e, if_neg e]
def al (N V m : Nm) : Option Nm := if m = N then some V else if Nm.under V m then none else some m
def St.alias (st : St) (N V : Nm) (t : Nat) : St := { tm := fun t' => if t' = t then (st.tm t).tr (al N V) else (st.tm t').tr (kl V), hp := hkl V st.hp, n := st.n, gl := st.gl }
section
variable {st : St} {N V m : Nm} {t t' : Nat}
@[simp] theorem al_eq : al N V m = if m = N then some V else if Nm.under V m then none else some m := rfl
@[simp] theorem alias_tm : (st.alias N V t).tm t' = if t' = t then (st.tm t).tr (al N V) else (st.tm t').tr (kl V) := rfl
@[simp] theorem alias_gl : (st.alias N V t).gl = st.gl := rfl
@[simp] theorem alias_hp : (st.alias N V t).hp m = if Nm.under V m then none else (st.hp m).map (AO.tr (kl V)) := rfl
end
theorem Rw.alias {X : Ctx} {st : St} {a : Go.Act} {w : World} (h : Rw X st a w) (N V : Nm) (t : Nat) (hV : X.ext V = false) : Rw X (st.alias N V t) a w := by
  obtain ⟨C, g, h1, h2, h3, h4, h5, hg⟩ := h
  let g' : Gh := { C := g.C, φ := fun m => if m = V then g.φ N else g.φ m, κ := fun m => if m = V then g.κ N else g.κ m }
  have hs := hg.step (g' := g') (w' := w) (f := kl V) (hp' := hkl V st.hp) rfl (fun n n' e => by
    obtain ⟨rfl, hu⟩ := kl_spec e
    have : ¬ n = V := fun e => by rw [e, Nm.under_self] at hu; cases hu
    simp [g', this]) rfl rfl rfl (Nat.le_refl _) (fun _ _ => rfl) (fun _ _ _ => rfl) (fun m o e => by
    obtain ⟨o', e1, e2, e3⟩ := hkl_old e
    exact .inl ⟨m, o', e1, e2, e3, fun _ _ => rfl⟩)
  refine ⟨C, g', h1, h2, h3, h4, fun k i j he => ?_, ⟨hs.inv, hs.defers, hs.size, fun t' => ?_, hs.glob⟩⟩
  · have : ¬ Nm.u k i j = V := fun e => by rw [e, hV] at he; cases he
    simp only [g', this, if_false]
    exact h5 k i j he
  · by_cases e : t' = t
    · subst e
      simp only [St.alias, if_true]
      refine (hg.slots t').tr (g' := g') (fun _ h => h) (fun _ _ => rfl) (fun n n' e => ?_)
      unfold al at e
      split at e
      · rename_i hn
        subst hn
        obtain rfl := Option.some.inj e
        simp [g']
      · split at e
        · cases e
        · rename_i hu
          obtain rfl := Option.some.inj e
          have : ¬ n = V := fun e => by rw [e, Nm.under_self] at hu; exact hu rfl
          simp [g', this]
    · simp only [St.alias, e, if_false]
      exact hs.slots t'
section
variable {X : Ctx} {st : St} {K : St → Prop} {E : AV → St → Prop} {o : Oper}
theorem o_alias (N V : Nm) (t : Nat) (hV : X.ext V = false) (h : SemOp X o K E (st.alias N V t)) : SemOp X o K E st :=
  fun a w Q hR hE => h a w Q (hR.alias N V t hV) hE
end
section
variable {n : Nm} {p : Prg} {a d i j k : Nat}
@[simp] theorem pRows_rk (h1 : Nm.under (.s a) n = false) (h2 : Nm.under (.s d) n = false) (h3 : Nm.under (.u 2 0 0) n = false) (h4 : Nm.under (.u 1 0 0) n = false) : (pRows n p).map (fun r => r.map (AV.tr (rk a d))) = pRows n p := pRows_tr (by simp [h1, h2, h3, h4])
@[simp] theorem pRows_rn (h2 : Nm.under (.s d) n = false) (h4 : Nm.under (.u 1 0 0) n = false) : (pRows n p).map (fun r => r.map (AV.tr (rn d))) = pRows n p := pRows_tr (by simp [h2, h4])
@[simp] theorem pRows_klu (h : Nm.under (.u i j k) n = false) : (pRows n p).map (fun r => r.map (AV.tr (kl (.u i j k)))) = pRows n p := pRows_tr (by simp [h])
end
end Go.Hm
end
section
namespace Go.Hm
open Go Go.RowKit
structure GenP (p : Prg) : Prop where
  heads : Heads p
  len : 1 ≤ p.length ∧ p.length ≤ 8
  params : ∀ k ∈ p, k.params.length ≤ 2
  body : ∀ k ∈ p, k.body.length ≤ 14
theorem GenP.sml {p : Prg} (h : GenP p) : Sml p := ⟨by have := h.len; omega, fun k hk => by have := h.params k hk; omega, fun k hk => by have := h.body k hk; omega⟩
theorem GenP.one {k : Blk} (h : k.parent = -1) (hp : k.params.length ≤ 2) (hb : k.body.length ≤ 14) : GenP [k] := by
  refine ⟨fun i q hq => ?_, by simp, fun q hq => ?_, fun q hq => ?_⟩
  · cases i with
    | zero =>
      simp at hq
      subst hq
      omega
    | succ i => simp at hq
  all_goals
    simp at hq
    subst hq
    assumption
theorem GenP.add {p : Prg} {k : Blk} (h : GenP p) (hl : p.length ≤ 7) (hp : 0 ≤ k.parent ∧ k.parent < p.length) (h1 : k.params.length ≤ 2) (h2 : k.body.length ≤ 14) : GenP (p ++ [k]) := by
  refine ⟨fun i q hq => ?_, by simp; omega, fun q hq => ?_, fun q hq => ?_⟩
  · rw [List.getElem?_append] at hq
    split at hq
    · exact h.heads i q hq
    · rename_i hi
      have : i - p.length = 0 := by
        refine Nat.eq_zero_of_not_pos fun hlt => ?_
        obtain ⟨m, hm⟩ : ∃ m, i - p.length = m + 1 := ⟨i - p.length - 1, by omega⟩
        rw [hm] at hq
        simp at hq
      rw [this] at hq
      simp at hq
      subst hq
      omega
  · rcases List.mem_append.1 hq with hq | hq
    · exact h.params q hq
    · simp at hq; subst hq; exact h1
  · rcases List.mem_append.1 hq with hq | hq
    · exact h.body q hq
    · simp at hq; subst hq; exact h2
theorem setBody_mem {p : Prg} {i : Nat} {L : List Stm} {q : Blk} (h : q ∈ setBody p i L) : ∃ r ∈ p, q.params = r.params ∧ (q.body = r.body ∨ q.body = L) := by
  obtain ⟨c, hc⟩ := List.getElem?_of_mem h
  cases hr : p[c]? with
  | none =>
    have := (gS hc).1
    rw [setBody_len] at this
    rw [gE this] at hr
    cases hr
  | some r =>
    rw [setBody_get hr] at hc
    refine ⟨r, List.mem_of_getElem? hr, ?_⟩
    split at hc
    · obtain rfl := Option.some.inj hc
      exact ⟨rfl, .inr rfl⟩
    · obtain rfl := Option.some.inj hc
      exact ⟨rfl, .inl rfl⟩
theorem setBody_heads {p : Prg} {i : Nat} {L : List Stm} (h : Heads p) : Heads (setBody p i L) := by
  intro c q hq
  cases hr : p[c]? with
  | none =>
    have := (gS hq).1
    rw [setBody_len] at this
    rw [gE this] at hr
    cases hr
  | some r =>
    have := h c r hr
    rw [setBody_get hr] at hq
    split at hq <;> obtain rfl := Option.some.inj hq <;> exact this
theorem GenP.setBody {p : Prg} {i : Nat} {L : List Stm} (h : GenP p) (hL : L.length ≤ 14) : GenP (setBody p i L) := by
  refine ⟨setBody_heads h.heads, by simpa using h.len, fun q hq => ?_, fun q hq => ?_⟩
  · obtain ⟨r, hr, h1, _⟩ := setBody_mem hq
    rw [h1]; exact h.params r hr
  · obtain ⟨r, hr, _, h2⟩ := setBody_mem hq
    rcases h2 with h2 | h2
    · rw [h2]; exact h.body r hr
    · rw [h2]; exact hL
theorem GenP.bare {p : Prg} (h : GenP p) : GenP (bareP p) := by
  refine ⟨fun i q hq => ?_, by simpa [bareP] using h.len, fun q hq => ?_, fun q hq => ?_⟩
  · simp only [bareP, List.getElem?_map] at hq
    obtain ⟨r, hr, rfl⟩ := Option.map_eq_some_iff.1 hq
    exact h.heads i r hr
  · obtain ⟨r, hr, rfl⟩ := List.mem_map.1 hq
    exact h.params r hr
  · obtain ⟨r, hr, rfl⟩ := List.mem_map.1 hq
    exact Nat.le_trans bareS_len (h.body r hr)
def PrgPost (bs : List Int) (Q : Prg → Nat → Prop) : Nm → AV → (Nm → Option AO) → Prop := fun r z H' => ∃ (p : Prg) (pos' : Nat), z = .agg [.hs r 4 0 p.length] ∧ OwnP H' r p ∧ Q p pos' ∧ H' (.u 1 0 0) = some (rdO bs pos')
theorem Sml.set {p : Prg} {i : Nat} {k : Blk} (h : Sml p) (h1 : k.params.length ≤ 1048576) (h2 : k.body.length ≤ 1048576) : Sml (p.set i k) := by
  refine ⟨by simpa using h.len, fun q hq => ?_, fun q hq => ?_⟩
  · rcases List.mem_or_eq_of_mem_set hq with hq | rfl
    · exact h.params q hq
    · exact h1
  · rcases List.mem_or_eq_of_mem_set hq with hq | rfl
    · exact h.body q hq
    · exact h2
theorem setBody_sml {p : Prg} {i : Nat} {L : List Stm} (h : Sml p) (hL : L.length ≤ 1048576) : Sml (setBody p i L) := by
  refine ⟨by simpa using h.len, fun q hq => ?_, fun q hq => ?_⟩
  · obtain ⟨r, hr, h1, _⟩ := setBody_mem hq
    rw [h1]; exact h.params r hr
  · obtain ⟨r, hr, _, h2⟩ := setBody_mem hq
    rcases h2 with h2 | h2
    · rw [h2]; exact h.body r hr
    · rw [h2]; exact hL
theorem pRows_setPar {n : Nm} {p : Prg} {i : Nat} {k : Blk} {v : Int} (hk : p[i]? = some k) : rowsSet (pRows n p) i 1 [iv v] = pRows n (p.set i { k with parent := v }) := by
  apply List.ext_getElem?
  intro j
  simp only [rowsSet, List.getElem?_modify, pRows_get, List.getElem?_set]
  by_cases e : i = j
  · subst e
    simp [hk, (gS hk).1, (gS hk).2]
  · simp [e]
theorem pRows_setParams {n : Nm} {a i len : Nat} {p : Prg} {k : Blk} {L : List Int} (hk : p[i]? = some k) (hl : len = L.length) (hn : Nm.under (.s a) n = false) (hn' : Nm.under (.c n i 2) n = false) :
    (rowsSet (pRows n p) i 2 [.hs (.s a) 1 0 len]).map (fun r => r.map (AV.tr (mv (.s a) (.c n i 2)))) = pRows n (p.set i { k with params := L }) := by
  subst hl
  apply List.ext_getElem?
  intro j
  simp only [rowsSet, List.getElem?_map, List.getElem?_modify, pRows_get, List.getElem?_set]
  by_cases e : i = j
  · subst e
    simp [(gS hk).1, (gS hk).2, hn, hn']
  · have e' : ¬ j = i := fun h => e h.symm
    cases hx : p[j]? with
    | none => simp [hx, e]
    | some x => simp [hx, hn, hn', e, e']
end Go.Hm
end
section
namespace Go.Hm
open Go Go.RowKit
structure Free (k : Blk) (y : Int) : Prop where
  rd : y ∉ readsAll k.body
  bd : y ∉ boundAll k
  d9 : y ∉ declAll k 9
  d10 : y ∉ declAll k 10
theorem Free.of {k : Blk} {y : Int} (hy : 0 ≤ y ∧ y ≤ 7) (h : y ∉ k.us) : Free k y := by
  simp only [Blk.us, mem_sorted, List.mem_append, Blk.rd, Blk.bd, Blk.dc, hy, and_true, true_and, not_or] at h
  exact ⟨h.1.1.1, h.1.1.2, h.1.2, h.2⟩
section
variable {k : Blk} {x y z : Int} (hx : 0 ≤ x ∧ x ≤ 7) (hy : 0 ≤ y ∧ y ≤ 7) (hxy : x ≠ y) (hf : Free k y)
include hx hy hxy hf
end
theorem swapI_back {n x y : Int} (h : n ≠ y) : swapI (swapI n x y) y x = n := by
  unfold swapI
  split
  · rename_i e; simp [e]
  · simp [h]
theorem Stm.ren_back {k : Blk} {s : Stm} {x y : Int} (hx : 0 ≤ x) (hy : 0 ≤ y) (hn : NmOk k) (hf : Free k y) (hs : s ∈ k.body) : (s.ren x y).ren y x = s := by
  have hk := hn.kinds s hs
  have hrd : ∀ z ∈ s.reads, z ≠ y := fun z hz e => hf.rd (List.mem_flatMap.2 ⟨s, hs, e ▸ hz⟩)
  have hto : s.sets ∨ 9 ≤ s.kind → s.to ≠ y := by
    intro h e
    by_cases h9 : s.kind = 9
    · exact hf.d9 (List.mem_map.2 ⟨s, List.mem_filter.2 ⟨hs, by simp [h9]⟩, e⟩)
    · by_cases h10 : s.kind = 10
      · exact hf.d10 (List.mem_map.2 ⟨s, List.mem_filter.2 ⟨hs, by simp [h10]⟩, e⟩)
      · refine hf.bd (List.mem_append.2 (.inr (List.mem_map.2 ⟨s, List.mem_filter.2 ⟨hs, ?_⟩, e⟩)))
        simp only [decide_eq_true_eq]
        rcases h with h | h
        · exact .inl h
        · exact .inr (by omega)
  obtain ⟨c, t, a, b⟩ := s
  simp only [Stm.reads] at hrd
  simp only at hto hk
  simp only [Stm.ren, Stm.mk.injEq, true_and]
  refine ⟨?_, ?_, ?_⟩
  · split
    · rename_i h
      exact swapI_back (hto h)
    · rfl
  · split
    · rename_i h
      refine swapI_back (hrd a ?_)
      rcases h with rfl | rfl | rfl | rfl | rfl | rfl <;> simp
      split <;> simp
    · rfl
  · split
    · rename_i h
      by_cases hb : b = -1
      · subst hb
        have e1 : swapI (-1) x y = -1 := by unfold swapI; rw [if_neg (by omega)]
        have e2 : swapI (-1) y x = -1 := by unfold swapI; rw [if_neg (by omega)]
        rw [e1, e2]
      · refine swapI_back (hrd b ?_)
        have h1 : ¬ (c = 1 ∨ c = 6 ∨ c = 7 ∨ c = 8) := by omega
        rcases h with rfl | rfl
        · simp
        · simp [hb]
    · rfl
theorem Blk.ren_back {k : Blk} {x y : Int} (hx : 0 ≤ x) (hy : 0 ≤ y) (hn : NmOk k) (hf : Free k y) : (k.ren x y).ren y x = k := by
  obtain ⟨c, u, ps, ss⟩ := k
  simp only [Blk.ren, List.map_map, Blk.mk.injEq, true_and]
  refine ⟨?_, ?_⟩
  · conv => rhs; rw [← List.map_id ps]
    refine List.map_congr_left fun n h => ?_
    have : n ≠ y := fun e => hf.bd (by simp [boundAll, ← e, h])
    simp [swapI_back this]
  · conv => rhs; rw [← List.map_id ss]
    refine List.map_congr_left fun s h => ?_
    exact Stm.ren_back hx hy hn hf h
end Go.Hm
end
section
namespace Go.Hm
open Go Go.RowKit
structure RenH (p : Prg) (b : Nat) (x y : Int) : Prop where
  sh : ShapeP p
  made : ∀ i, 0 < i → i < p.length → madeIn p i = 1
  decl : ∀ (c : Nat) k, 0 < c → p[c]? = some k → ∀ n : Nat, n < 8 → declOk p c k n = true
  hb : 0 < b
  hbl : b < p.length
  hx : 0 ≤ x ∧ x ≤ 7
  hy : 0 ≤ y ∧ y ≤ 7
  hxy : x ≠ y
  fn : ∀ k, p[b]? = some k → k.kind = 1
  loc : ∀ k, p[b]? = some k → isLocal b k x = true
  free : ∀ (c : Nat) k, p[c]? = some k → inside p c b = true → Free k y
theorem progOk_parts {p : Prg} (hs : Sml p) (h : progOk p = true) : ShapeP p ∧ (∀ i, 0 < i → i < p.length → madeIn p i = 1) ∧ (∀ (c : Nat) k, 0 < c → p[c]? = some k → ∀ n : Nat, n < 8 → declOk p c k n = true) := by
  simp only [progOk, Bool.and_eq_true] at h
  refine ⟨ShapeP.of hs h.1, (shapeOk_heads h.1).2.2.2.2, fun c k h0 hk n hn => ?_⟩
  have := List.all_eq_true.1 h.2 c (List.mem_range.2 (gS hk).1)
  have h0' : (c == 0) = false := by simp; omega
  rw [h0', Bool.false_or] at this
  simp only [declsOk, hk] at this
  exact List.all_eq_true.1 this n (List.mem_range.2 hn)
theorem inside_ge {p : Prg} {c b : Int} (h : inside p c b = true) : b ≤ c := by
  by_cases e : c ≤ b
  · rw [inside_end e] at h
    simp at h
    omega
  · omega
theorem RenH.of {p : Prg} {b : Nat} {x y : Int} (hs : Sml p) (h : renOk p b x y = true) : RenH p b x y := by
  simp only [renOk, Bool.and_eq_true, decide_eq_true_eq, bne_iff_ne, ne_eq] at h
  obtain ⟨⟨⟨⟨⟨h1, h2⟩, h3⟩, h4⟩, h5⟩, h6⟩ := h
  obtain ⟨a1, a2, a3⟩ := progOk_parts hs h1
  have hbl : b < p.length := by omega
  obtain ⟨kb, hkb⟩ : ∃ k, p[b]? = some k := ⟨_, gE hbl⟩
  simp only [renAt, Int.toNat_natCast, hkb, Bool.and_eq_true, beq_iff_eq, Bool.not_eq_true'] at h6
  obtain ⟨⟨h7, h8⟩, h9⟩ := h6
  have h0 : 0 < b := by
    rcases Nat.eq_zero_or_pos b with e | e
    · subst e
      have := a1.fun0 kb hkb
      exact absurd h7 this
    · exact e
  refine ⟨a1, a2, a3, h0, hbl, h3, h4, h5, fun k hk => ?_, fun k hk => ?_, fun c k hk hi => ?_⟩
  · rw [hkb] at hk; cases hk; exact h7
  · rw [hkb] at hk; cases hk; exact h8
  · apply Free.of h4
    intro hm
    have hc := (gS hk).1
    have hge := inside_ge hi
    have : clash p b y = true := by
      refine List.any_eq_true.2 ⟨c, List.mem_range.2 hc, ?_⟩
      simp only [clashAt, hk, hi, hm, decide_true, Bool.and_true, decide_eq_true_eq]
      omega
    rw [this] at h9
    cases h9
section
variable {p : Prg} {b : Nat} {x y : Int} (H : RenH p b x y)
include H
omit H in
theorem renS_blk {c : Nat} {k : Blk} (hk : p[c]? = some k) : (renS (touches p b x) x y p)[c]? = some (renIf (touches p b x c) x y k) := by
  rw [renS_get, hk]; rfl
theorem RenH.heads : Heads (renS (touches p b x) x y p) := by
  intro i q hq
  rw [renS_get] at hq
  cases hk : p[i]? with
  | none => rw [hk] at hq; cases hq
  | some k =>
    rw [hk] at hq
    simp only [Option.map_some, Option.some.injEq] at hq
    have e : q.parent = k.parent := by subst hq; unfold renIf; split <;> rfl
    rw [e]
    exact H.sh.heads i k hk
omit H in
theorem renIf_kind {c : Bool} {k : Blk} : (renIf c x y k).kind = k.kind := by unfold renIf; split <;> rfl
omit H in
theorem renIf_parent {c : Bool} {k : Blk} : (renIf c x y k).parent = k.parent := by unfold renIf; split <;> rfl
theorem RenH.walk {z w : Int} (stop : Nat → Prop)
    (hst : ∀ (j : Nat) k, p[j]? = some k → 0 < j → k.kind = 1 → stop j →
      (z ∈ (renIf (touches p b x j) x y k).dc 9 ↔ w ∈ k.dc 9) ∧ isLocal j (renIf (touches p b x j) x y k) z = isLocal j k w)
    (hup : ∀ (j : Nat) k, p[j]? = some k → 0 < j → stop j → (k.kind = 1 → w ∉ k.dc 9 ∧ isLocal j k w = false) → stop k.parent.toNat) :
    ∀ n : Nat, n < p.length → stop n → outerF (renS (touches p b x) x y p) z p.length n = outerF p w p.length n := by
  intro n
  induction n using Nat.strongRecOn with
  | ind n ih =>
    intro hn hs
    rcases Nat.eq_zero_or_pos n with e | e
    · subst e
      rw [outerF_end (by simp), outerF_end (by simp)]
    · obtain ⟨k, hk⟩ : ∃ k, p[n]? = some k := ⟨_, gE hn⟩
      obtain ⟨g1, g2, g3⟩ := H.sh.heads n k hk
      have g4 := g3 e
      have hq := renS_blk (b := b) (x := x) (y := y) hk
      have h1 := outerF_step (x := z) H.heads hq e
      rw [renS_len] at h1
      rw [h1, outerF_step (x := w) H.sh.heads hk e, renIf_kind, renIf_parent]
      obtain ⟨m, hm⟩ : ∃ m : Nat, k.parent = m := ⟨k.parent.toNat, by omega⟩
      have key : (k.kind = 1 → w ∉ k.dc 9 ∧ isLocal n k w = false) → outerF (renS (touches p b x) x y p) z p.length k.parent = outerF p w p.length k.parent := by
        intro h
        have := ih m (by omega) (by omega) (by have := hup n k hk e hs h; rw [hm] at this; simpa using this)
        rw [hm]; exact this
      by_cases hk1 : k.kind = 1
      · obtain ⟨f1, f2⟩ := hst n k hk e hk1 hs
        have hk2 : ¬ (k.kind ≠ 1) := fun h => h hk1
        rw [if_neg hk2, if_neg hk2, f2]
        by_cases h9 : w ∈ k.dc 9
        · rw [if_pos h9, if_pos (f1.2 h9)]
        · rw [if_neg h9, if_neg (fun h => h9 (f1.1 h))]
          cases hl : isLocal n k w with
          | true => rfl
          | false =>
            simp only [Bool.false_eq_true, if_false]
            exact key fun _ => ⟨h9, hl⟩
      · rw [if_pos hk1, if_pos hk1]
        exact key fun h => absurd h hk1
end
end Go.Hm
end
section
namespace Go.Hm
open Go Go.RowKit Go.ChangeShapes Go.WideShapes Go.Deep
variable {H : Type} {enc : TypeId × Value → H} {P : Program} {w : World}
theorem rd_byte {t : TypeId} (ht : P.underlying t = some (.int .u8)) : ReadsAs enc P w t (fun k : Int => [byt k]) (fun k => 0 ≤ k ∧ k ≤ 255) := by
  intro n cs y h _
  obtain ⟨k, rfl, _, hw⟩ := DataW.trod_int ht h
  refine ⟨k, by simpa [Lit.wf, IntKind.min, IntKind.max, IntKind.signed, IntKind.bits] using hw, rfl, fun j v a hv ha => ?_⟩
  cases j with
  | zero =>
    simp at hv ha
    subst hv; subst ha
    exact ⟨.sc _, rfl⟩
  | succ j => simp at hv
theorem rd_bytes {t e : TypeId} (ht : P.underlying t = some (.slice e)) (he : P.underlying e = some (.int .u8)) (hc : P.cellsOf e = 1) (hby : 0 < P.bytesOf e)
    {r : Reach} {b0 : Nat} {v : Value} {d : DataW H} {p : List MemPlace} (hv : Value.okWide P w r b0 t v) (h : DataW.Trod enc P w 0 (fun _ => true) true t v d p) (hw : ∀ m ∈ d.weights P t, m ≤ reachBytes) :
    ∃ bs : List Int, (bs.length ≤ 1152921504606846976 ∧ ∀ x ∈ bs, 0 ≤ x ∧ x ≤ 255) ∧ RV (g0 w) w v (bsl bs) := by
  obtain ⟨a, len, cap, rfl⟩ := okWide_slice ht hv
  obtain ⟨fuel, hf⟩ := h
  obtain ⟨x, hx, hl, hr⟩ := rd_slice (enc := enc) (w := w) ht hc (by omega) hby (fun _ => rfl) (rd_byte he) _ _ _ hf hw
  exact ⟨x, hx, (hr 0 _ _ rfl rfl).1⟩
end Go.Hm
end
section
namespace Go.Hm
open Go Go.RowKit
def picked (f : Nat → Bool) : Nat → List Int
  | 0 => []
  | n + 1 => if f n = true then picked f n ++ [(n : Int)] else picked f n
theorem mem_picked {f : Nat → Bool} {x : Int} : ∀ {n : Nat}, x ∈ picked f n ↔ ∃ m : Nat, m < n ∧ f m = true ∧ x = m
  | 0 => by simp [picked]
  | n + 1 => by
    simp only [picked]
    split
    · rename_i h
      rw [List.mem_append, mem_picked (n := n), List.mem_singleton]
      constructor
      · rintro (⟨m, h1, h2, h3⟩ | h')
        · exact ⟨m, by omega, h2, h3⟩
        · exact ⟨n, by omega, h, h'⟩
      · rintro ⟨m, h1, h2, h3⟩
        rcases Nat.lt_succ_iff_lt_or_eq.1 h1 with e | rfl
        · exact .inl ⟨m, e, h2, h3⟩
        · exact .inr h3
    · rename_i h
      rw [mem_picked (n := n)]
      constructor
      · rintro ⟨m, h1, h2, h3⟩; exact ⟨m, by omega, h2, h3⟩
      · rintro ⟨m, h1, h2, h3⟩
        rcases Nat.lt_succ_iff_lt_or_eq.1 h1 with e | rfl
        · exact ⟨m, e, h2, h3⟩
        · exact absurd h2 h
theorem picked_len {f : Nat → Bool} : ∀ n : Nat, (picked f n).length ≤ n
  | 0 => by simp [picked]
  | n + 1 => by
    have := picked_len (f := f) n
    simp only [picked]
    split <;> simp <;> omega
def joined (g : Nat → List Int) : Nat → List Int
  | 0 => []
  | n + 1 => joined g n ++ g n
theorem mem_joined {g : Nat → List Int} {x : Int} : ∀ {n : Nat}, x ∈ joined g n ↔ ∃ m : Nat, m < n ∧ x ∈ g m
  | 0 => by simp [joined]
  | n + 1 => by
    simp only [joined, List.mem_append, mem_joined (n := n)]
    constructor
    · rintro (⟨m, h1, h2⟩ | h)
      · exact ⟨m, by omega, h2⟩
      · exact ⟨n, by omega, h⟩
    · rintro ⟨m, h1, h2⟩
      rcases Nat.lt_succ_iff_lt_or_eq.1 h1 with e | rfl
      · exact .inl ⟨m, e, h2⟩
      · exact .inr h2
theorem joined_len {g : Nat → List Int} (h : ∀ i, (g i).length ≤ 8) : ∀ n : Nat, (joined g n).length ≤ 8 * n
  | 0 => by simp [joined]
  | n + 1 => by
    have := joined_len h n
    have := h n
    simp only [joined, List.length_append]
    omega
theorem outerF_pos {p : Prg} {x : Int} : ∀ (n : Nat) (j : Int), outerF p x n j = -1 ∨ 0 < outerF p x n j
  | 0, _ => .inl rfl
  | n + 1, j => by
    simp only [outerF]
    split
    · exact .inl rfl
    · rename_i hj
      split
      · exact .inl rfl
      · split
        · exact outerF_pos n _
        · split
          · exact .inl rfl
          · split
            · exact .inr (by omega)
            · exact outerF_pos n _
theorem owner_pos {p : Prg} {c : Nat} {x : Int} : owner p c x = -1 ∨ 0 < owner p c x := by
  unfold owner
  split
  · split
    · exact .inl rfl
    · rename_i h
      split
      · exact .inr (by omega)
      · unfold outer
        split
        · exact outerF_pos _ _
        · exact .inl rfl
  · exact .inl rfl
def freeIn (p : Prg) (b c : Nat) (x : Int) : Bool := decide (0 < owner p c x) && decide (owner p c x < b)
def freeAt (p : Prg) (b c : Nat) : List Int := match p[c]? with
  | some k => if inside p c b = true then k.us.filter (freeIn p b c) else []
  | none => []
def freesRaw (p : Prg) (b : Nat) : Nat → List Int := joined fun i => freeAt p b (b + i)
def freesL (p : Prg) (b : Nat) : List Int := sorted (freesRaw p b (p.length - b))
def cellIn (p : Prg) (b c : Nat) (x : Int) : Bool := owner p c x == b
def cellAt (p : Prg) (b c : Nat) : List Int := match p[c]? with
  | some k => k.us.filter (cellIn p b c)
  | none => []
def cellsRaw (p : Prg) (b : Nat) : Nat → List Int := joined fun i => cellAt p b (b + 1 + i)
def kindAt (p : Prg) (b : Nat) : Int := match p[b]? with | some k => k.kind | none => -1
def cellsL (p : Prg) (b : Nat) : List Int := if kindAt p b = 1 then sorted (cellsRaw p b (p.length - (b + 1))) else []
def fastIn (p : Prg) (b : Nat) (x : Nat) : Bool := match p[b]? with
  | some k => isLocal b k x && !decide ((x : Int) ∈ cellsL p b)
  | none => false
def fastsL (p : Prg) (b : Nat) : List Int := if kindAt p b = 1 then picked (fastIn p b) 8 else []
def symOf (p : Prg) (b : Nat) (x : Int) : Int :=
  if owner p b x < 0 then 0 else if owner p b x ≠ b then 1 else if kindAt p b = 2 then 2 else if x ∈ cellsL p b then 3 else 4
def cellPl (p : Prg) (b : Nat) (x : Int) : Int := if x ∈ cellsL p b then placeIn (cellsL p b) x else (cellsL p b).length + placeIn (freesL p b) x
def nameOp (p : Prg) (b : Nat) (x w : Int) : Int × Int :=
  if symOf p b x = 0 then (8 + w, x) else if symOf p b x = 2 then (11 + w, x) else if symOf p b x = 4 then (2 + w, placeIn (fastsL p b) x) else (5 + w, cellPl p b x)
theorem filter_len8 {l : List Int} {f : Int → Bool} (h : l.length ≤ 8) : (l.filter f).length ≤ 8 := Nat.le_trans (List.length_filter_le _ _) h
theorem freeAt_len {p : Prg} {b c : Nat} : (freeAt p b c).length ≤ 8 := by
  unfold freeAt
  split
  · split
    · exact filter_len8 (Blk.us_len _)
    · simp
  · simp
theorem cellAt_len {p : Prg} {b c : Nat} : (cellAt p b c).length ≤ 8 := by
  unfold cellAt
  split
  · exact filter_len8 (Blk.us_len _)
  · simp
theorem freesRaw_len {p : Prg} {b n : Nat} : (freesRaw p b n).length ≤ 8 * n := joined_len (fun _ => freeAt_len) n
theorem cellsRaw_len {p : Prg} {b n : Nat} : (cellsRaw p b n).length ≤ 8 * n := joined_len (fun _ => cellAt_len) n
theorem freesL_len {p : Prg} {b : Nat} : (freesL p b).length ≤ 8 := sorted_len
theorem cellsL_len {p : Prg} {b : Nat} : (cellsL p b).length ≤ 8 := by
  unfold cellsL
  split
  · exact sorted_len
  · simp
theorem fastsL_len {p : Prg} {b : Nat} : (fastsL p b).length ≤ 8 := by
  unfold fastsL
  split
  · exact picked_len 8
  · simp
theorem freesRaw_succ {p : Prg} {b n : Nat} : freesRaw p b (n + 1) = freesRaw p b n ++ freeAt p b (b + n) := rfl
theorem cellsRaw_succ {p : Prg} {b n : Nat} : cellsRaw p b (n + 1) = cellsRaw p b n ++ cellAt p b (b + 1 + n) := rfl
theorem placeIn_bd {xs : List Int} {x : Int} : -1 ≤ placeIn xs x ∧ placeIn xs x ≤ xs.length := by
  unfold placeIn
  split
  · rename_i i h
    have := (List.findIdx?_eq_some_iff_findIdx_eq.1 h).1
    constructor <;> omega
  · constructor <;> omega
theorem nameOp_le {p : Prg} {b : Nat} {x w : Int} (h0 : 0 ≤ w) (h2 : w ≤ 2) : 0 ≤ (nameOp p b x w).1 ∧ (nameOp p b x w).1 ≤ 13 := by
  unfold nameOp
  split
  · simp; omega
  · split
    · simp; omega
    · split <;> simp <;> omega
end Go.Hm
end
section
namespace Go.Hm
open Go Go.RowKit Go.ChangeShapes Go.WideShapes Go.Deep
theorem FnOk.rawG {P : Program} {gl : Nat → Option (List AV)} {f : FuncId} {az : List AV} {v0 : Value} (h : FnOk P gl f az (fun _ y _ => y = .sc v0)) {W : World} {g : Gh} {args : Array Value} (hC : ∀ b, g.C b → b < W.heap.size)
    (hgl : ∀ i row, gl i = some row → RV g W (.pointer (some ⟨i, 0, none⟩)) (.el row 0) ∧ ∀ f : Nm → Option Nm, row.map (AV.tr f) = row) (hsz : args.size = az.length)
    (hargs : ∀ (j : Nat) v x, args[j]? = some v → az[j]? = some x → RV g W v x) : Calls P f args W fun e W' => e = .returned v0 ∧ Below W.heap.size W W' := by
  have hinv : Inv (ownH g noH) g.C W g noH W := ⟨rfl, rfl, rfl, Nat.le_refl _, fun _ _ _ => rfl, rfl, hC, fun _ _ e => (by cases e), fun _ _ _ e => (by cases e), fun _ _ _ _ _ e => (by cases e)⟩
  refine (h.2 (.s 0) g.C W g args (fun _ _ => rfl) rfl (fun _ e => absurd rfl e) hinv hgl hsz hargs).mono fun e w' he => ?_
  cases e with
  | returned v =>
    obtain ⟨C', g', H', x, hA, hv, rfl⟩ := he
    refine ⟨by rw [hv.sc_eq], hA.inv.os, hA.inv.tape, hA.inv.output, hA.inv.size, fun b hb => hA.inv.keep b hb ?_⟩
    rintro ⟨n, hn, _⟩
    exact hn rfl
  | panicked ch => obtain ⟨_, _, _, _, _, _, _, _, e⟩ := he; exact e.elim
  | outgrown => exact he.elim
end Go.Hm
end
section
namespace Go.Hm
open Go Go.RowKit
def orows (l : List (Int × Int)) : List (List AV) := l.map fun o => [iv o.1, iv o.2]
section
variable {l m : List (Int × Int)} {o : Int × Int} {i : Nat} {f : Nm → Option Nm}
@[simp] theorem orows_len : (orows l).length = l.length := by simp [orows]
@[simp] theorem orows_getE {h : i < (orows l).length} : (orows l)[i] = [iv (l[i]'(by simpa using h)).1, iv (l[i]'(by simpa using h)).2] := by simp [orows]
@[simp] theorem orows_tr : (orows l).map (fun r => r.map (AV.tr f)) = orows l := by simp [orows]
@[simp] theorem orows_take : (orows l).take i = orows (l.take i) := by simp [orows]
@[simp] theorem orows_app : orows l ++ orows m = orows (l ++ m) := by simp [orows]
@[simp] theorem orows_nil : orows [] = [] := rfl
@[simp] theorem orows_cln : (orows l).all (fun r => r.all AV.cln) = true := by simp [orows]
theorem orows_uni : ∀ r ∈ orows l, r.length = 2 := by
  intro r hr
  obtain ⟨o, _, rfl⟩ := List.mem_map.1 hr
  rfl
abbrev osl (l : List (Int × Int)) : AV := .sl 2 (orows l)
theorem bw_ords {hp : Nm → Option AO} {n : Nm} {len : Nat} (hn : hp n = some (.row 2 (orows l))) (hl : len = l.length) : Bw hp noD (.hs n 2 0 len) (osl l) := bw_list hn (by simp [hl]) orows_uni
end
def readL (p : Prg) (b : Nat) (s : Stm) : List (Int × Int) := s.reads.map fun x => nameOp p b x 0
def workL (s : Stm) : List (Int × Int) :=
  if s.kind = 0 then [(1, s.a)] else if s.kind = 2 then [(14, 0)] else if s.kind = 3 then [(15, s.a)] else if s.kind = 4 then [(16, s.a)] else if s.kind = 5 then [(17, (s.reads.length : Int) - 1)]
  else if s.kind = 6 then [(18, s.b)] else if s.kind = 7 then [(19, 0)] else if s.kind = 8 then [(20, 0)] else []
def setL (p : Prg) (b : Nat) (s : Stm) : List (Int × Int) := if s.kind = 11 then [nameOp p b s.to 2] else if 0 ≤ s.kind ∧ s.kind ≤ 6 then [nameOp p b s.to 1] else []
def stmtL (p : Prg) (b : Nat) (s : Stm) : List (Int × Int) := (0, 0) :: (readL p b s ++ (workL s ++ setL p b s))
def bodyL (p : Prg) (b : Nat) (ss : List Stm) : List (Int × Int) := ss.flatMap (stmtL p b)
def opsL (p : Prg) (b : Nat) : List (Int × Int) := match p[b]? with | some k => bodyL p b k.body | none => []
theorem workL_len (s : Stm) : (workL s).length ≤ 1 := by
  unfold workL
  repeat' split
  all_goals simp
theorem setL_len {p : Prg} {b : Nat} {s : Stm} : (setL p b s).length ≤ 1 := by
  unfold setL
  repeat' split
  all_goals simp
theorem readL_len {p : Prg} {b : Nat} {s : Stm} : (readL p b s).length ≤ 2 := by
  have := s.reads_len
  simpa [readL] using this
theorem stmtL_len {p : Prg} {b : Nat} {s : Stm} : (stmtL p b s).length ≤ 5 := by
  have h1 := workL_len s
  have h2 := setL_len (p := p) (b := b) (s := s)
  have h3 := readL_len (p := p) (b := b) (s := s)
  simp only [stmtL, List.length_cons, List.length_append]
  omega
theorem bodyL_len {p : Prg} {b : Nat} : ∀ ss : List Stm, (bodyL p b ss).length ≤ 5 * ss.length
  | [] => by simp [bodyL]
  | s :: l => by
    have h1 := stmtL_len (p := p) (b := b) (s := s)
    have h2 := bodyL_len (p := p) (b := b) l
    simp only [bodyL, List.flatMap_cons, List.length_append, List.length_cons] at h2 ⊢
    omega
theorem bodyL_snoc {p : Prg} {b : Nat} {ss : List Stm} {s : Stm} : bodyL p b (ss ++ [s]) = bodyL p b ss ++ stmtL p b s := by simp [bodyL]
theorem bodyL_take {p : Prg} {b : Nat} {ss : List Stm} {i : Nat} {s : Stm} (h : ss[i]? = some s) : bodyL p b (ss.take (i + 1)) = bodyL p b (ss.take i) ++ stmtL p b s := by
  rw [← bodyL_snoc, List.take_add_one, h]
  rfl
def ticks (l : List (Int × Int)) : Nat := l.countP fun o => o.1 == 0
def blkAt (p : Prg) (b : Int) : Bool := progOk p && (decide (0 ≤ b) && decide (b < p.length))
end Go.Hm
end
