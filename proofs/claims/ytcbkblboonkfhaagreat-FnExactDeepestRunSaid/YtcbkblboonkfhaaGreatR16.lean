/-
  Own texts, joined by mkclaim.py: Hm79, Hm80, Hm81, Hm82, Hm83, Hm84, Hm85.
-/
import Derived.Test.YtcbkblboonkfhaaGreatR15
import Derived.Test.YtcbkblboonkfhaaGreatR13
import Derived.Test.YtcbkblboonkfhaaGreatR14
import Derived.Test.YtcbkblboonkfhaaGreatR11
import Derived.Stop.Joined
set_option linter.unusedSimpArgs false
set_option linter.unusedVariables false

section
namespace Go.Hm
open Go Go.RowKit
section
variable {n : Nm} {len i j : Nat} {f : Nm → Option Nm} {q : Int}
@[simp] theorem sRows_fix (h : ∀ j, f (.c n j 0) = some (.c n j 0)) : (sRows n len i).map (fun r => r.map (AV.tr f)) = sRows n len i := sRows_tr fun j _ => h j
@[simp] theorem outP_fix (h : ∀ j, f (.c n j 0) = some (.c n j 0)) : (outP n q).tr f = outP n q := outP_tr fun _ => h _
end
@[simp] theorem slc_hs {P : Program} {T : TypeId} {hp : Nm → Option AO} {n : Nm} {z q len : Nat} {lo hi : Option Int} : slcAV P T hp (.hs n z q len) lo hi = match tel P T with
    | some e => if z = tsz P e ∧ 0 ≤ lo.getD 0 ∧ lo.getD 0 ≤ hi.getD len ∧ (hi.getD len ≤ len ∨ q + (hi.getD len).toNat ≤ rowsIn hp n z) then some (.hs n z (q + (lo.getD 0).toNat) ((hi.getD len).toNat - (lo.getD 0).toNat)) else none
    | none => none := rfl
def fM (k : Nat) : Bool := k == 1 || k == 7 || k == 8
def DM : Nm → Bool := Du fM
def DM2 (n : Nm) : Bool := DM n || Nm.under (.u 2 0 0) n
section
variable {n : Nm} {k i j d : Nat}
@[simp] theorem DM_s : DM (.s d) = false := rfl
@[simp] theorem DM_u : DM (.u k i j) = fM k := rfl
@[simp] theorem DM_c : DM (.c n i j) = DM n := rfl
@[simp] theorem fM_1 : fM 1 = true := rfl
@[simp] theorem fM_2 : fM 2 = false := rfl
@[simp] theorem fM_7 : fM 7 = true := rfl
@[simp] theorem fM_8 : fM 8 = true := rfl
@[simp] theorem DM2_eq : DM2 n = (DM n || Nm.under (.u 2 0 0) n) := rfl
theorem DM_root {n : Nm} (h : DM n = true) : n.sroot = false := Du_root h
theorem DM2_root {n : Nm} (h : DM2 n = true) : n.sroot = false := by
  simp only [DM2, Bool.or_eq_true] at h
  rcases h with h | h
  · exact DM_root h
  · exact under_usroot rfl h
end
section
variable {l m : List Nat} {i : Nat} {f : Nm → Option Nm}
@[simp] theorem erows_len : (erows l).length = l.length := by simp [erows]
theorem erows_app1 : erows l ++ [[ptE i]] = erows (l ++ [i]) := by simp [erows]
@[simp] theorem erows_take {n : Nat} : (erows l).take n = erows (l.take n) := by simp [erows]
@[simp] theorem erows_fix (h : ∀ i, f (En i) = some (En i)) : (erows l).map (fun r => r.map (AV.tr f)) = erows l := by
  simp only [erows, List.map_map]
  apply List.map_congr_left
  intro j _
  simp [ptE, h j]
end
theorem erows_lt {l : List Nat} {f : Nm → Option Nm} (h : ∀ i ∈ l, f (En i) = some (En i)) : (erows l).map (fun r => r.map (AV.tr f)) = erows l := by
  simp only [erows, List.map_map]
  apply List.map_congr_left
  intro j hj
  simp [ptE, h j hj]
def cloC (F : Nat) (p : Prg) (k : Nat) (g : Nat × Nat) : List AV := [iv (parN p g.1), .fn (.func F) [] [.pt (.u 8 k 0) 0, .pt (.u 8 k 1) 0, .pt (.u 8 k 2) 0, .pt (.u 8 k 3) 0]]
def cloRows (F : Nat) (p : Prg) (gs : List (Nat × Nat)) : List (List AV) := gs.mapIdx fun k g => cloC F p k g
def cmpRows (n : Nm) (cs : List (List Slt)) : List (List AV) := cs.mapIdx fun k _ => [.mp (.c n (k + 1) 9)]
section
variable {F : Nat} {p : Prg} {gs : List (Nat × Nat)} {g : Nat × Nat} {cs : List (List Slt)} {c : List Slt} {n m : Nm} {i : Nat} {f : Nm → Option Nm}
@[simp] theorem cloRows_len : (cloRows F p gs).length = gs.length := by simp [cloRows]
@[simp] theorem cloRows_get : (cloRows F p gs)[i]? = (gs[i]?).map fun g => cloC F p i g := by simp [cloRows]
@[simp] theorem cloRows_getE {h : i < (cloRows F p gs).length} : (cloRows F p gs)[i] = cloC F p i (gs[i]'(by simpa using h)) := by simp [cloRows]
theorem cloRows_app : cloRows F p gs ++ [cloC F p gs.length g] = cloRows F p (gs ++ [g]) := by simp [cloRows]
@[simp] theorem cloRows_fix (h : ∀ k j, f (.u 8 k j) = some (.u 8 k j)) : (cloRows F p gs).map (fun r => r.map (AV.tr f)) = cloRows F p gs := by
  apply List.ext_getElem?
  intro j
  rw [List.getElem?_map, cloRows_get]
  cases hj : gs[j]? with
  | none => rfl
  | some a => simp [cloC, trL, h]
@[simp] theorem cmpRows_len : (cmpRows n cs).length = cs.length := by simp [cmpRows]
@[simp] theorem cmpRows_get : (cmpRows n cs)[i]? = (cs[i]?).map fun _ => [AV.mp (.c n (i + 1) 9)] := by simp [cmpRows]
@[simp] theorem cmpRows_getE {h : i < (cmpRows n cs).length} : (cmpRows n cs)[i] = [AV.mp (.c n (i + 1) 9)] := by simp [cmpRows]
theorem cmpRows_app : cmpRows n cs ++ [[.mp (.c n (cs.length + 1) 9)]] = cmpRows n (cs ++ [c]) := by simp [cmpRows]
theorem cmpRows_map {g : List AV → List AV} (h : ∀ (i : Nat) c, cs[i]? = some c → g [.mp (.c n (i + 1) 9)] = [.mp (.c m (i + 1) 9)]) : (cmpRows n cs).map g = cmpRows m cs := by
  apply List.ext_getElem?
  intro j
  rw [List.getElem?_map, cmpRows_get, cmpRows_get]
  cases hj : cs[j]? with
  | none => rfl
  | some a => simp only [Option.map_some]; rw [h j a hj]
@[simp] theorem cmpRows_fix (h : ∀ i, f (.c n (i + 1) 9) = some (.c n (i + 1) 9)) : (cmpRows n cs).map (fun r => r.map (AV.tr f)) = cmpRows n cs := cmpRows_map fun i c _ => by simp [h i]
end
def mRow (p : Prg) (w : Wld) : List AV := [ksl p, .hs (.c Mn 0 1) 1 0 p.length, iv w.left, iv w.en, .hs (.c Mn 0 4) 1 0 w.out.length, .hs (.c Mn 0 5) 2 0 w.trace.length, ptE 0, .hs (.c Mn 0 7) 1 0 w.stack.length, .hs (.c Mn 0 8) 2 0 w.funs.length, .hs (.c Mn 0 9) 1 0 w.classes.length]
def envRow (i : Nat) (a : Act) : List AV := [iv a.blk, .mp (.c (En i) 0 1), if i = 0 then nilP else ptE a.up]
@[simp] theorem envRow_len {i : Nat} {a : Act} : (envRow i a).length = 3 := rfl
@[simp] theorem envRow_fix {i : Nat} {a : Act} {f : Nm → Option Nm} (h1 : f (.c (En i) 0 1) = some (.c (En i) 0 1)) (h2 : ∀ j, f (En j) = some (En j)) : (envRow i a).map (AV.tr f) = envRow i a := by
  by_cases e : i = 0
  · subst e; simp [envRow, h1]
  · simp [envRow, h1, e, h2]
def Wld.nms (w : Wld) (i : Nat) : List Slt := if i = 0 then w.globals else match w.acts[i]? with | some a => a.vars | none => []
structure OwnM (hp : Nm → Option AO) (F : Nat) (p : Prg) (w : Wld) : Prop where
  top : hp Mn = some (.row 10 [mRow p w])
  scs : OwnS hp (.c Mn 0 1) p p.length
  out : hp (.c Mn 0 4) = some (.row 1 (irows w.out))
  trc : hp (.c Mn 0 5) = some (.row 2 (nrows w.trace))
  run : ∃ l, (∀ i ∈ l, i < w.acts.length) ∧ hp (.c Mn 0 7) = some (.row 1 (erows (w.stack ++ l)))
  funs : hp (.c Mn 0 8) = some (.row 2 (cloRows F p w.funs))
  bx : ∀ (k : Nat) g, w.funs[k]? = some g → hp (.u 8 k 0) = some (.row 1 [[iv g.1]]) ∧ hp (.u 8 k 1) = some (.row 1 [[ptE g.2]]) ∧ hp (.u 8 k 2) = some (.row 1 [[isl (match p[g.1]? with | some b => b.params | none => [])]]) ∧ hp (.u 8 k 3) = some (.row 1 [[.pt Mn 0]])
  clss : hp (.c Mn 0 9) = some (.row 1 (cmpRows Mn w.classes))
  cls : ∀ (k : Nat) c, w.classes[k]? = some c → ∃ ms, hp (.c Mn (k + 1) 9) = some (.map (mrows ms)) ∧ MapOk ms c
  env : ∀ (i : Nat) a, w.acts[i]? = some a → hp (En i) = some (.row 3 [envRow i a])
  nms : ∀ (i : Nat), i < w.acts.length → ∃ ms, hp (.c (En i) 0 1) = some (.map (mrows ms)) ∧ MapOk ms (w.nms i)
  only : ∀ k i j, fM k = true → hp (.u k i j) ≠ none → (k = 1 ∧ i = 0 ∧ j = 0) ∨ (k = 7 ∧ i < w.acts.length ∧ j = 0) ∨ (k = 8 ∧ i < w.funs.length ∧ j < 4)
def hIdx : Option Nat → Nat
  | none => 0
  | some i => i
theorem nms_loc {p : Prg} {w : Wld} {a : Nat} {x : Int} (hh : Heads p) (hw : WOk p w) (ha : a < w.acts.length) : w.nms (hIdx (w.loc p a x)) = w.vars (w.loc p a x) ∧ hIdx (w.loc p a x) < w.acts.length := by
  obtain ⟨a0, h0, hb0⟩ := hw.a0
  have hl0 := (List.getElem?_eq_some_iff.1 h0).1
  rcases loc_spec (x := x) hh hw ha with ⟨h1, h2⟩ | ⟨o, i, c, ho, h1, h2, h3, h4, h5, _⟩
  · rw [h2]
    exact ⟨by simp [Wld.nms, hIdx, Wld.vars], hl0⟩
  · rw [h2]
    have hi : i ≠ 0 := by
      rintro rfl
      rw [h0] at h4
      obtain rfl := Option.some.inj h4
      omega
    exact ⟨by simp [Wld.nms, hIdx, Wld.vars, hi, h4], (List.getElem?_eq_some_iff.1 h4).1⟩
theorem OwnM.hp' {hp hp' : Nm → Option AO} {F : Nat} {p : Prg} {w : Wld} (h : OwnM hp F p w) {f : Nm → Option Nm} (hf : ∀ m, DM m = true → f m = some m) (hh : ∀ m, DM m = true → hp' m = (hp m).map (AO.tr f)) : OwnM hp' F p w := by
  have hE : ∀ i, f (En i) = some (En i) := fun i => hf _ rfl
  have h8 : ∀ k j, f (.u 8 k j) = some (.u 8 k j) := fun k j => hf _ rfl
  have hc : ∀ j, f (.c Mn 0 j) = some (.c Mn 0 j) := fun j => hf _ rfl
  refine ⟨?_, ⟨?_, fun j k hj hk => ?_⟩, ?_, ?_, h.run.imp fun l hl => ⟨hl.1, ?_⟩, ?_, fun k g hg => ?_, ?_, fun k c hc' => ?_, fun i a ha => ?_, fun i hi => ?_, fun k i j hk hn => ?_⟩
  · rw [hh _ rfl, h.top]; simp [mRow, AO.tr, hc, hE]
  · rw [hh _ rfl, h.scs.top]
    simp only [Option.map_some, AO.tr]
    rw [sRows_fix fun j => hf _ rfl]
  · rw [hh _ rfl, h.scs.sc j k hj hk]
    simp only [Option.map_some, AO.tr, List.map_cons, List.map_nil, scopeRow_tr]
    rw [outP_fix fun j => hf _ rfl]
  · rw [hh _ rfl, h.out]; simp [AO.tr]
  · rw [hh _ rfl, h.trc]; simp [AO.tr]
  · rw [hh _ rfl, hl.2]
    simp only [Option.map_some, AO.tr]
    rw [erows_fix hE]
  · rw [hh _ rfl, h.funs]
    simp only [Option.map_some, AO.tr]
    rw [cloRows_fix h8]
  · obtain ⟨a1, a2, a3, a4⟩ := h.bx k g hg
    refine ⟨?_, ?_, ?_, ?_⟩
    · rw [hh _ rfl, a1]; simp [AO.tr]
    · rw [hh _ rfl, a2]; simp [AO.tr, hE]
    · rw [hh _ rfl, a3]; simp [AO.tr]
    · rw [hh _ rfl, a4]; simp [AO.tr, hf Mn rfl]
  · rw [hh _ rfl, h.clss]
    simp only [Option.map_some, AO.tr]
    rw [cmpRows_fix fun i => hf _ rfl]
  · obtain ⟨ms, a1, a2⟩ := h.cls k c hc'
    exact ⟨ms, by rw [hh _ rfl, a1]; simp [AO.tr], a2⟩
  · rw [hh _ rfl, h.env i a ha]
    have h1 := hf (.c (En i) 0 1) rfl
    by_cases e : i = 0 <;> simp [AO.tr, envRow, h1, e, hE]
    subst e
    simp [h1]
  · obtain ⟨ms, a1, a2⟩ := h.nms i hi
    exact ⟨ms, by rw [hh _ rfl, a1]; simp [AO.tr], a2⟩
  · refine h.only k i j hk fun e => hn ?_
    rw [hh (.u k i j) hk, e]; rfl
theorem OwnM.fin {hp : Nm → Option AO} {F : Nat} {p : Prg} {w : Wld} {D : Nm → Bool} {sbs : List (Nm × Nm)} (h : OwnM hp F p w) (hD : ∀ m, D m = true → m.sroot = false := by first | exact fun _ => DM_root | exact fun _ => DM2_root) (hW : ∀ m, DM m = true → D m = true := by intro m hm; first | exact hm | simp [hm]) (hs : ∀ q ∈ sbs, q.1.sroot = true := by simp [Nm.sroot]) : OwnM (finH D sbs hp) F p w :=
  h.hp' (f := finf D sbs) (fun m hm => finf_D hD (hW m hm) hs) (fun m hm => by simp only [finH, hW m hm, if_true])
theorem OwnM.ext {H hp : Nm → Option AO} {F : Nat} {p : Prg} {w0 w : Wld} (h0 : OwnM H F p w0) (h : OwnM hp F p w) (ha : w0.acts.length ≤ w.acts.length) (hf : w0.funs.length ≤ w.funs.length) : ∀ k i j, (H (.u k i j)).isSome = true → DM (.u k i j) = false ∨ (dsub DM hp) (.u k i j) ≠ none := by
  intro k i j hs
  cases hD : fM k with
  | false => exact .inl hD
  | true =>
    right
    have hd : DM (.u k i j) = true := hD
    rw [dsub_eq, if_pos hd]
    rcases h0.only k i j hD (by intro e; rw [e] at hs; cases hs) with ⟨rfl, rfl, rfl⟩ | ⟨rfl, hi, rfl⟩ | ⟨rfl, hi, hj⟩
    · rw [h.top]; simp
    · obtain ⟨a, ha'⟩ : ∃ a, w.acts[i]? = some a := ⟨_, List.getElem?_eq_getElem (by omega)⟩
      rw [h.env i a ha']; simp
    · obtain ⟨g, hg⟩ : ∃ g, w.funs[i]? = some g := ⟨_, List.getElem?_eq_getElem (by omega)⟩
      obtain ⟨a1, a2, a3, a4⟩ := h.bx i g hg
      have : j = 0 ∨ j = 1 ∨ j = 2 ∨ j = 3 := by omega
      rcases this with rfl | rfl | rfl | rfl
      · rw [a1]; simp
      · rw [a2]; simp
      · rw [a3]; simp
      · rw [a4]; simp
theorem OwnM.ext2 {H hp : Nm → Option AO} {F : Nat} {p : Prg} {w0 w : Wld} (h0 : OwnM H F p w0) (h : OwnM hp F p w) (ha : w0.acts.length ≤ w.acts.length) (hf : w0.funs.length ≤ w.funs.length) (h2 : (hp (.u 2 0 0)).isSome = true) : ∀ k i j, (H (.u k i j)).isSome = true → DM2 (.u k i j) = false ∨ (dsub DM2 hp) (.u k i j) ≠ none := by
  intro k i j hs
  by_cases e : Nm.under (.u 2 0 0) (.u k i j) = true
  · right
    have e2 : k = 2 ∧ i = 0 ∧ j = 0 := by
      simp [Nm.under] at e
      exact ⟨e.1, e.2.1, e.2.2⟩
    obtain ⟨rfl, rfl, rfl⟩ := e2
    rw [dsub_eq, if_pos (by simp [Nm.under])]
    exact Option.isSome_iff_ne_none.1 h2
  · simp only [Bool.not_eq_true] at e
    rcases h0.ext h ha hf k i j hs with h1 | h1
    · left; simp only [DM2_eq, h1, e, Bool.or_self]
    · right
      rw [dsub_eq] at h1 ⊢
      split at h1
      · rename_i hd
        rw [if_pos (by simp [hd] : DM2 (.u k i j) = true)]
        exact h1
      · exact absurd rfl h1
section
variable {X : Ctx} {st : St} {K : St → Prop} {E : AV → St → Prop} {d f : Nat} {ty : TypeId} {pos : String} {aft : Array Edge} {g : Option (Nat × Bool)} {args : Array Operand} {Ts : Array TypeId} {as : List AV} {R : Nm → AV → (Nm → Option AO) → Prop}
theorem x_mutM (hext : ∀ k i j, X.ext (.u k i j) = true → DM (.u k i j) = false ∨ (dsub DM st.hp) (.u k i j) ≠ none) (hd : d < X.n := by first | (simp; done) | fail) (ha : args.toList.map (ev st) = as := by simp [fx]; first | done | rfl)
    (hF : FnE X.P X.gl f DM as (dsub DM st.hp) R noE) (h : ∀ y H', R (.s d) y H' → K ((st.call d DM (dsub DM st.hp) H').put (some d) y)) :
    SemOp X ⟨some d, .call ⟨.value (.func f), args, Ts⟩, ty, pos, aft, g⟩ K E st := x_mutD DM (fun _ => DM_root) hext hd ha hF h
end
end Go.Hm
end

section
namespace Go.Hm
open Go Go.RowKit
@[simp] theorem lok_mp {P : Program} {T : TypeId} {hp : Nm → Option AO} {m : Nm} {k' : IntKind} {n : Int} {ok : Bool} : lokAV P T hp (.mp m) (.sc (.int k' n)) ok = match tmapI P T with
    | some q => if k' = q.1 then (match hp m with
      | some (.map es) => if mkeys q.1 es then (match mget q.1 n es with
        | some y => some (if ok then .tup [y, .sc (.bool true)] else y)
        | none => (zflat P q.2).map (fun z => if ok then .tup [z, .sc (.bool false)] else z)) else none
      | _ => none) else none
    | none => none := by
  unfold lokAV
  cases tmapI P T with
  | none => rfl
  | some q => rfl
theorem OwnM.sub {hp : Nm → Option AO} {F : Nat} {p : Prg} {w : Wld} (h : OwnM hp F p w) {D : Nm → Bool} (hD : ∀ m, DM m = true → D m = true := by intro m hm; first | exact hm | simp [hm]) : OwnM (dsub D hp) F p w := by
  refine h.hp' (f := some) (fun _ _ => rfl) (fun m hm => ?_)
  rw [dsub_eq, if_pos (hD m hm)]
  cases hp m with
  | none => rfl
  | some o => simp [AO.tr_some]
theorem MapOk.get' {ms : NMap} {w : Wld} {l : Option Nat} {x : Int} (h : MapOk ms (w.vars l)) (hx : 0 ≤ x ∧ x ≤ 7) : lk x ms = w.get l x := by
  rw [h.at hx]
  unfold Wld.get
  cases (w.vars l)[x.toNat]? <;> rfl
theorem ownM_set {hp hp' : Nm → Option AO} {F : Nat} {p : Prg} {w : Wld} {a x : Nat} {s : Slt} {l : Option Nat} (hh : Heads p) (hw : WOk p w) (ha : a < w.acts.length) (hx : x < 8) (hl : w.loc p a x = l) (hnm : w.nms (hIdx (w.loc p a x)) = w.vars (w.loc p a x)) (h : OwnM hp F p w) {ms : NMap} (hms : MapOk ms ((w.vars l).set (x : Int).toNat s)) (hq : ∀ m, DM m = true → hp' m = if m = .c (En (hIdx l)) 0 1 then some (.map (mrows ms)) else hp m) : OwnM hp' F p (w.set l x s) := by
  obtain ⟨e1, e2, e3, e4, e5, e6, e7⟩ := set_same (w := w) (l := l) (x := (x : Int)) (s := s)
  have hlen : (w.set l x s).acts.length = w.acts.length := set_len
  have hnms : ∀ i, (w.set l x s).nms i = if i = hIdx l then (w.vars l).set (x : Int).toNat s else w.nms i := by
    intro i
    cases l with
    | none =>
      by_cases e : i = 0
      · simp [Wld.nms, Wld.set, hIdx, e, Wld.vars]
      · simp [Wld.nms, Wld.set, hIdx, e]
    | some j =>
      have hj0 : j ≠ 0 := by
        rintro rfl
        rcases loc_spec (x := (x : Int)) hh hw ha with ⟨_, h2⟩ | ⟨o, i, c, ho, _, h2, _, h4, h5, _⟩
        · rw [hl] at h2; cases h2
        · rw [hl] at h2
          obtain rfl := Option.some.inj h2
          obtain ⟨a0, h0, hb0⟩ := hw.a0
          rw [h0] at h4
          obtain rfl := Option.some.inj h4
          omega
      by_cases e : i = 0
      · subst e
        have : ¬ 0 = j := fun e => hj0 e.symm
        simp [Wld.nms, Wld.set, hIdx, this]
      · by_cases e2 : i = j
        · subst e2
          simp only [Wld.nms, Wld.set, hIdx, e, if_false, if_true, List.getElem?_modify, Wld.vars]
          cases w.acts[i]? with
          | none => simp
          | some b => simp
        · have e3 : ¬ j = i := fun e => e2 e.symm
          simp only [Wld.nms, Wld.set, hIdx, e, e2, if_false, List.getElem?_modify, e3]
          cases w.acts[i]? <;> simp
  have hget : ∀ m, DM m = true → m ≠ .c (En (hIdx l)) 0 1 → hp' m = hp m := fun m hm hne => by rw [hq m hm, if_neg hne]
  refine ⟨?_, ⟨?_, fun j k hj hk => ?_⟩, ?_, ?_, h.run.imp fun l hl => ⟨by rw [hlen]; exact hl.1, ?_⟩, ?_, fun k g hg => ?_, ?_, fun k c hc => ?_, fun i b hb => ?_, fun i hi => ?_, fun k i j hk hn => ?_⟩
  · rw [hget _ rfl (by simp), h.top]; simp [mRow, e1, e2, e3, e4, e5, e6, e7]
  · rw [hget _ rfl (by simp), h.scs.top]
  · rw [hget _ rfl (by simp), h.scs.sc j k hj hk]
  · rw [hget _ rfl (by simp), h.out, e3]
  · rw [hget _ rfl (by simp), h.trc, e4]
  · rw [hget _ rfl (by simp), hl.2, e6]
  · rw [hget _ rfl (by simp), h.funs, e1]
  · rw [e1] at hg
    obtain ⟨a1, a2, a3, a4⟩ := h.bx k g hg
    exact ⟨by rw [hget _ rfl (by simp), a1], by rw [hget _ rfl (by simp), a2], by rw [hget _ rfl (by simp), a3], by rw [hget _ rfl (by simp), a4]⟩
  · rw [hget _ rfl (by simp), h.clss, e2]
  · rw [e2] at hc
    obtain ⟨ms, a1, a2⟩ := h.cls k c hc
    exact ⟨ms, by rw [hget _ rfl (by simp), a1], a2⟩
  · obtain ⟨b', hb', f1, f2, _⟩ := set_acts hb
    rw [hget _ rfl (by simp), h.env i b' hb']
    simp [envRow, f1, f2]
  · rw [hlen] at hi
    rw [hnms]
    by_cases e : i = hIdx l
    · subst e
      rw [if_pos rfl]
      exact ⟨ms, by rw [hq _ rfl, if_pos rfl], hms⟩
    · rw [if_neg e]
      obtain ⟨ms', a1, a2⟩ := h.nms i hi
      exact ⟨ms', by rw [hget _ rfl (by simp [e]), a1], a2⟩
  · rw [hget (.u k i j) hk (by simp)] at hn
    rw [hlen, e1]
    exact h.only k i j hk hn
section
variable {X : Ctx} {st : St} {K : St → Prop} {E : AV → St → Prop} {ty : TypeId} {pos : String} {aft : Array Edge} {g : Option (Nat × Bool)}
theorem x_delete {dst : Option Nat} {T e : TypeId} {ts : Array TypeId} {m key : Operand} {k : IntKind} {i : Int} {n : Nm} {es : List (AV × AV)} {st' : St} (hts : ts[0]? = some T := by rfl) (hdn : ∀ t, dst = some t → t < X.n := by first | (intro t h; cases h; done) | (intro t h; obtain rfl := Option.some.inj h; simp; done) | fail) (ht : tmapI X.P T = some (k, e) := by simp [fx]; first | done | rfl | exact ⟨rfl, rfl⟩)
    (hm : ev st m = .mp n := by simp [fx]; first | done | rfl) (hk : ev st key = .sc (.int k i) := by simp [fx]; first | done | rfl) (hn : st.hp n = some (.map es) := by simp [fx]; first | done | rfl) (hks : mkeys k es = true := by simp [fx]; first | done | rfl)
    (hs : (st.setO n (.map (mdel k i es))).put dst (.sc (.tuple #[])) = st' := by simp [fx]; first | done | rfl) (h : K st') : SemOp X ⟨dst, .call { callee := .builtin .delete, args := #[m, key], argTypes := ts }, ty, pos, aft, g⟩ K E st := by
  subst hs
  exact sem_delete rfl hts hdn ht hm hk hn hks h
end
section
variable {P : Program} {C : Nat → Prop} {wd : World} {g0 : Gh} {H : Nm → Option AO} {n : Nat} {gl : Nat → Option (List AV)} {st : St} {K : St → Prop} {E : AV → St → Prop} {d f : Nat} {ty : TypeId} {pos : String} {aft : Array Edge} {g : Option (Nat × Bool)} {c : Operand} {args : Array Operand} {Ts : Array TypeId} {as xs ys : List AV} {R : Nm → AV → (Nm → Option AO) → Prop} {F : Nat} {p : Prg} {w0 w : Wld}
theorem x_callM (h0 : OwnM H F p w0) (hO : OwnM st.hp F p w) (hl : w0.acts.length ≤ w.acts.length) (hf : w0.funs.length ≤ w.funs.length) (hd : d < n := by first | (simp; done) | fail) (ha : args.toList.map (ev st) = as := by simp [fx]; first | done | rfl)
    (hF : OwnM (dsub DM st.hp) F p w → FnE P gl f DM as (dsub DM st.hp) R noE) (h : ∀ y H', R (.s d) y H' → K ((st.call d DM (dsub DM st.hp) H').put (some d) y)) :
    SemOp (ctx0 P C wd g0 H n gl) ⟨some d, .call ⟨.value (.func f), args, Ts⟩, ty, pos, aft, g⟩ K E st := x_mutD DM (fun _ => DM_root) (fun k i j he => h0.ext hO hl hf k i j he) hd ha (hF hO.sub) h
theorem x_callM2 (h0 : OwnM H F p w0) (hO : OwnM st.hp F p w) (h2 : (st.hp (.u 2 0 0)).isSome = true) (hl : w0.acts.length ≤ w.acts.length) (hf : w0.funs.length ≤ w.funs.length) (hd : d < n := by first | (simp; done) | fail) (ha : args.toList.map (ev st) = as := by simp [fx]; first | done | rfl)
    (hF : OwnM (dsub DM2 st.hp) F p w → FnE P gl f DM2 as (dsub DM2 st.hp) R noE) (h : ∀ y H', R (.s d) y H' → K ((st.call d DM2 (dsub DM2 st.hp) H').put (some d) y)) :
    SemOp (ctx0 P C wd g0 H n gl) ⟨some d, .call ⟨.value (.func f), args, Ts⟩, ty, pos, aft, g⟩ K E st := x_mutD DM2 (fun _ => DM2_root) (fun k i j he => h0.ext2 hO hl hf h2 k i j he) hd ha (hF hO.sub) h
theorem x_callMv (h0 : OwnM H F p w0) (hO : OwnM st.hp F p w) (h2 : (st.hp (.u 2 0 0)).isSome = true) (hl : w0.acts.length ≤ w.acts.length) (hf : w0.funs.length ≤ w.funs.length) (hd : d < n := by first | (simp; done) | fail)
    (hv : ev st c = .fn (.func f) xs ys := by simp [fx]; first | done | rfl) (ha : xs ++ args.toList.map (ev st) ++ ys = as := by simp [fx]; first | done | rfl)
    (hF : OwnM (dsub DM2 st.hp) F p w → FnE P gl f DM2 as (dsub DM2 st.hp) R noE) (h : ∀ y H', R (.s d) y H' → K ((st.call d DM2 (dsub DM2 st.hp) H').put (some d) y)) :
    SemOp (ctx0 P C wd g0 H n gl) ⟨some d, .call ⟨.value c, args, Ts⟩, ty, pos, aft, g⟩ K E st := x_mutDv DM2 (fun _ => DM2_root) (fun k i j he => h0.ext2 hO hl hf h2 k i j he) hd hv ha (hF hO.sub) h
end
end Go.Hm
end

section
namespace Go.Hm
open Go Go.RowKit
section
variable {l : List (Nat × Nat)} {c : Int} {i : Nat}
end
end Go.Hm
end

section
namespace Go.Hm
open Go Go.RowKit
def Rsl.av (r : Rsl) : AV := .agg [isl r.out, iv r.en, iv r.left, isl r.gl]
@[simp] theorem Rsl.av_eq {r : Rsl} : r.av = .agg [isl r.out, iv r.en, iv r.left, isl r.gl] := rfl
def Rsl.mark (r : Rsl) (c : Int) : Rsl := ⟨markI r.out.length c, r.en, r.left, markI r.gl.length (c + r.out.length)⟩
section
variable {hp : Nm → Option AO} {n : Nm} {r : Rsl} {c : Int}
theorem OwnR.hcln {H' : Nm → Option AO} (h : OwnR H' n r) : OwnR (Hm.hcln H') n r := ⟨hcln_row h.out (by simp), hcln_row h.gl (by simp)⟩
@[simp] theorem Rsl.mark_en : (r.mark c).en = r.en := rfl
@[simp] theorem Rsl.mark_left : (r.mark c).left = r.left := rfl
@[simp] theorem Rsl.mark_out : (r.mark c).out.length = r.out.length := by simp [Rsl.mark]
@[simp] theorem Rsl.mark_gl : (r.mark c).gl.length = r.gl.length := by simp [Rsl.mark]
end
section
variable {p : Prg} {f : Int}
theorem fuel_run (hs : Sml p) (h : fuelOk p f = true) : ∃ n : Nat, f = n ∧ n ≤ 150 ∧ ShapeP p ∧ MeantOk p n (meantW p n) := by
  obtain ⟨hpo, n, rfl, hn⟩ := fuelOk_of h
  have hP := (ValP.of hs hpo).sh
  exact ⟨n, rfl, hn, hP, meantOk hP hn⟩
theorem resG_len (hs : Sml p) : (resG p f).out.length ≤ 1000 ∧ (resG p f).gl.length ≤ 8 := by
  unfold resG
  split
  · rename_i h
    obtain ⟨n, rfl, hn, _, hm⟩ := fuel_run hs h
    have h1 := hm.ok.nout
    have h2 := hm.ok.glob.1
    simp only [Int.toNat_natCast, resW, shownS, List.length_map]
    omega
  · simp
end
end Go.Hm
end

section
namespace Go.Hm
open Go
structure ProgFacts (P : Program) : Prop where
  laid : laidOutB P = true
  maps : mapsRowed P = true
  stops : (P.stops == []) = true
  knobs : (P.stopKnobs == []) = true
  keys : P.plainKeys = true
  heard : P.stopsHeard = true
  may : P.mayEnter = true
  lifts : P.liftsFinal = false
  make : (P.make == some .cut) = true
theorem joined_of {P : Program} {f : FuncId} {fn : Func} {s : ChangeSpec} {c : OpenClaim} (hp : ProgFacts P)
    (h1 : c.wf (OpenSpec.ofChange s) = true) (h2 : fn.params.all (P.readableRec ·) = true) (h3 : namedTie P c.named s.vars = true) (h4 : (c.stops == []) = true) (h5 : (c.knobs == []) = true)
    (h6 : (c.inPlace == P.inPlace f) = true) (h7 : (c.unfollowed == P.unfollowed f) = true) (h8 : (c.recurses == P.recurses f) = true) (h9 : (c.named == P.varsNamed f) = true)
    (h10 : (c.maps == (fn.params.toList ++ s.plain.varTypes P).any (P.mapsRec ·)) = true) (h11 : (c.ifaces == (fn.params.toList ++ s.plain.varTypes P).any (P.ifacesRec ·)) = true) (h12 : (c.mapsOut == P.mapsAmong fn.resultTypes.toList) = true)
    (h13 : (c.loops == (fn.params.toList ++ s.plain.varTypes P).any (P.loopsFrom ·)) = true) (h14 : (c.wideKeys == (fn.params.toList ++ s.plain.varTypes P ++ fn.resultTypes.toList).any (P.wideKeysFrom ·)) = true)
    (h15 : s.vars.all (P.varReadable ·) = true) (h16 : fn.resultTypes.all (fun t => P.readableRec t && decide (t < P.types.size)) = true) (h17 : (c.ifacesOut == fn.resultTypes.toList.any (P.ifacesRec ·)) = true) (h18 : (c.loopsOut == fn.resultTypes.toList.any (P.loopsFrom ·)) = true)
    (h19 : c.plainKeys = true) (h20 : c.shortTexts.isNone = true) (h21 : c.lifted = false) (h22 : c.make = .cut)
    (h23 : (c.kinds == (if c.domain.isEmpty then [] else fn.params.toList.map fun t => match P.underlying t with | some (.int k) => some k | _ => none)) = true) (h24 : (c.pinned == c.pinnedBy) = true)
    (h25 : (c.veiled == (fn.params.toList ++ s.plain.varTypes P ++ fn.resultTypes.toList).any (P.veiledRec ·)) = true) (h26 : c.veiledFits P fn.params.toList (fn.params.toList ++ s.plain.varTypes P ++ fn.resultTypes.toList) = true) : joinedFacts P f fn s c = true := by
  have e1 : (c.plainKeys == P.plainKeys) = true := by rw [h19, hp.keys]; rfl
  have e2 : (c.lifted == P.liftsFinal) = true := by rw [h21, hp.lifts]; rfl
  have e3 : (P.make == some c.make) = true := by rw [h22]; exact hp.make
  unfold joinedFacts
  simp only [hp.laid, hp.maps, hp.stops, hp.knobs, hp.heard, hp.may, h1, h2, h3, h4, h5, h6, h7, h8, h9, h10, h11, h12, h13, h14, h15, h16, h17, h18, h20, h24, h25, h26, e1, e2, e3, Bool.and_true, Bool.true_and]
  exact h23
end Go.Hm
end

section
namespace Go.Hm
open Go Go.RowKit
section
variable {p : Prg} {f g n : Nat}
structure More (k : Nat) (w w' : Wld) : Prop where
  funs : w.funs.length ≤ w'.funs.length
  cls : w.classes.length ≤ w'.classes.length
  out : w.out <+: w'.out
  tr : w.trace <+: w'.trace
  same : w.en ≠ 1 → w' = addF k w
  none : w.en = 1 → w.left = 0
theorem pre_take {α : Type} {l m : List α} (h : l <+: m) : m.take l.length = l := by
  obtain ⟨t, rfl⟩ := h
  simp
theorem MeantOk.glob {w : Wld} (h : MeantOk p f w) {x : Nat} (hx : x < 8) (hb : ¬ bndG p x) : (shownS w.globals)[x]? = some (-9) := by
  have hl := h.ok.glob.1
  obtain ⟨s, hs⟩ : ∃ s, w.globals[x]? = some s := ⟨_, List.getElem?_eq_getElem (by omega)⟩
  cases s with
  | none => simp [shownS, hs]
  | some v =>
    rcases h.led.glob x v hs with ⟨u, e⟩ | e
    · simp [startW, List.getElem?_replicate, hx] at e
    · exact absurd e hb
end
end Go.Hm
end

section
set_option linter.unusedSectionVars false
namespace Go.Hm
open Go Go.RowKit
def stl (t : List (Nat × Nat)) (k : Nat) (w : Wld) : Wld := { w with trace := t, left := k }
def runG (p : Prg) (bod : Nat → List Stm) : Nat → Wld → Nat → Wld × Val
  | 0, w, _ => (w, (0, 0))
  | n + 1, w, a => bodyW p (runG p bod n) a w 0 (bod (w.blk a))
def bodOf (p : Prg) (b : Nat) : List Stm := match p[b]? with | some k => k.body | none => []
theorem runW_runG {p : Prg} : ∀ n : Nat, runW p n = runG p (bodOf p) n
  | 0 => rfl
  | n + 1 => by
    funext w a
    simp only [runW, runG, runW_runG n, bodOf]
    rfl
inductive Del : List Stm → List Stm → Prop
  | nil : Del [] []
  | keep (s : Stm) {l l' : List Stm} (h : Del l l') : Del (s :: l) (s :: l')
  | drop (s : Stm) {l l' : List Stm} (hs : s.kind = 9 ∨ s.kind = 10) (h : Del l l') : Del (s :: l) l'
theorem Del.refl : ∀ l : List Stm, Del l l
  | [] => .nil
  | s :: l => .keep s (Del.refl l)
section
variable {p : Prg} {k m : Nat} {t : List (Nat × Nat)} {w : Wld} {a b i : Nat} {x : Int} {l : Option Nat} {vs : List Val} {s : Stm} {v : Val}
@[simp] theorem stl_stl {t' : List (Nat × Nat)} {k' : Nat} : stl t k (stl t' k' w) = stl t k w := rfl
@[simp] theorem stl_get : (stl t k w).get l x = w.get l x := by cases l <;> rfl
@[simp] theorem stl_loc : (stl t k w).loc p a x = w.loc p a x := rfl
@[simp] theorem stl_blk : (stl t k w).blk a = w.blk a := rfl
@[simp] theorem stl_en : (stl t k w).en = w.en := rfl
@[simp] theorem stl_left : (stl t k w).left = k := rfl
@[simp] theorem stl_out : (stl t k w).out = w.out := rfl
@[simp] theorem stl_set {s : Slt} : (stl t k w).set l x s = stl t k (w.set l x s) := by cases l <;> rfl
theorem stl_tick : stl t k (tickW w a i) = stl t k w := rfl
theorem tick_stl : tickW (stl t (k + 1) w) a i = stl (t ++ [(w.blk a, i)]) k w := rfl
theorem stl_loadW : loadW p (stl t k w) a x = (stl t k (loadW p w a x).1, (loadW p w a x).2) := by
  simp only [loadW, stl_get, stl_loc, stl_blk]
  repeat' split
  all_goals rfl
theorem loadW_left : (loadW p w a x).1.left = w.left := by
  unfold loadW
  repeat' split
  all_goals rfl
theorem stl_loadsW {l : List Int} : ∀ {w : Wld}, loadsW p (stl t k w) a l = (stl t k (loadsW p w a l).1, (loadsW p w a l).2) := by
  induction l with
  | nil => exact fun {w} => rfl
  | cons x l ih =>
    intro w
    by_cases he : w.en ≠ 0
    · have e1 : loadsW p (stl t k w) a (x :: l) = (stl t k w, []) := by simp only [loadsW]; exact if_pos he
      have e2 : loadsW p w a (x :: l) = (w, []) := by simp only [loadsW]; exact if_pos he
      rw [e1, e2]
    · have e1 : loadsW p (stl t k w) a (x :: l) = ((loadsW p (loadW p (stl t k w) a x).1 a l).1, (loadW p (stl t k w) a x).2 :: (loadsW p (loadW p (stl t k w) a x).1 a l).2) := by simp only [loadsW]; exact if_neg he
      have e2 : loadsW p w a (x :: l) = ((loadsW p (loadW p w a x).1 a l).1, (loadW p w a x).2 :: (loadsW p (loadW p w a x).1 a l).2) := by simp only [loadsW]; exact if_neg he
      rw [e1, e2, stl_loadW]
      simp only [ih]
theorem loadsW_left {l : List Int} : ∀ {w : Wld}, (loadsW p w a l).1.left = w.left := by
  induction l with
  | nil => exact fun {w} => rfl
  | cons x l ih =>
    intro w
    simp only [loadsW]
    split
    · rfl
    · rw [ih, loadW_left]
theorem stl_attrW : attrW (stl t k w) v x = (stl t k (attrW w v x).1, (attrW w v x).2) := by
  have e : (stl t k w).classes = w.classes := rfl
  by_cases h3 : v.1 ≠ 3
  · have e1 : attrW (stl t k w) v x = ({ stl t k w with en := 5 }, (0, 0)) := if_pos h3
    have e2 : attrW w v x = ({ w with en := 5 }, (0, 0)) := if_pos h3
    rw [e1, e2]
    rfl
  · cases hc : w.classes[v.2.toNat]? with
    | none => simp [attrW, h3, e, hc]; rfl
    | some c =>
      cases hx : c[x.toNat]? with
      | none => simp [attrW, h3, e, hc, hx]; rfl
      | some s =>
        cases s with
        | none => simp [attrW, h3, e, hc, hx]; rfl
        | some u => simp [attrW, h3, e, hc, hx]
theorem attrW_left : (attrW w v x).1.left = w.left := by
  unfold attrW
  repeat' split
  all_goals rfl
theorem stl_endW : endW (stl t k w) = stl t k (endW w) := by
  unfold endW
  split <;> rename_i h
  · rw [if_pos (show w.en = 0 from h)]; rfl
  · rw [if_neg (show ¬ w.en = 0 from h)]
theorem endW_left : (endW w).left = w.left := by unfold endW; split <;> rfl
theorem endW_out : (endW w).out = w.out := by unfold endW; split <;> rfl
theorem set_left {l : Option Nat} {sl : Slt} : (w.set l x sl).left = w.left := by cases l <;> rfl
theorem set_out {l : Option Nat} {sl : Slt} : (w.set l x sl).out = w.out := by cases l <;> rfl
theorem set_en {l : Option Nat} {sl : Slt} : (w.set l x sl).en = w.en := by cases l <;> rfl
theorem takeW_left : (takeW p w a x).left = w.left := by
  unfold takeW
  split
  · exact set_left
  · rfl
theorem bodyW_zero {R : Wld → Nat → Wld × Val} {l : List Stm} (h : w.left = 0) : (bodyW p R a w i l).1.out = w.out ∧ (bodyW p R a w i l).1.left = 0 := by
  cases l with
  | nil => exact ⟨rfl, h⟩
  | cons s l => simp only [bodyW, h, if_true]; exact ⟨trivial, trivial⟩
end
def Sim (m : Nat) (r r' : Wld × Val) : Prop := (r.1.en ≠ 1 ∧ ∃ t, r' = (stl t m r.1, r.2)) ∨ (r.1.en = 1 ∧ (m = 0 → r'.1.out = r.1.out ∧ r'.1.left = 0))
def SimS (m : Nat) (w w' : Wld) : Prop := (w.en ≠ 1 ∧ ∃ t, w' = stl t m w) ∨ (w.en = 1 ∧ (m = 0 → w'.out = w.out ∧ w'.left = 0))
section
variable {p : Prg} {R : Wld → Nat → Wld × Val} {R2 : Nat → Wld → Nat → Wld × Val} {n : Nat} {w : Wld} {a b i : Nat} {x : Int} {vs : List Val} {s : Stm} {v : Val}
variable (hR : ∀ w a, w.left < n → w.en = 0 → ∃ g, g + (R w a).1.left ≤ w.left ∧ ∀ N t m, g + m < N → Sim m (R w a) (R2 N (stl t (g + m) w) a))
include hR
theorem enterW_sim (hn : w.left < n) (h0 : w.en = 0) : ∃ g, g + (enterW p R w b a vs).1.left ≤ w.left ∧ ∀ N t m, g + m < N → Sim m (enterW p R w b a vs) (enterW p (R2 N) (stl t (g + m) w) b a vs) := by
  obtain ⟨g, h1, h2⟩ := hR (beginW p w b a vs) w.acts.length hn h0
  refine ⟨g, by simp only [enterW, endW_left]; exact h1, fun N t m hN => ?_⟩
  have e : beginW p (stl t (g + m) w) b a vs = stl t (g + m) (beginW p w b a vs) := rfl
  unfold enterW
  rw [e]
  change Sim m _ (endW (R2 N (stl t (g + m) (beginW p w b a vs)) w.acts.length).1, (R2 N (stl t (g + m) (beginW p w b a vs)) w.acts.length).2)
  rcases h2 N t m hN with ⟨h3, t', h4⟩ | ⟨h3, h4⟩
  · rw [h4]
    exact .inl ⟨by rw [endW_en]; exact h3, t', by rw [stl_endW]⟩
  · refine .inr ⟨by rw [endW_en]; exact h3, fun hm => ?_⟩
    simp only [endW_left, endW_out]
    exact h4 hm
theorem callW_sim (hn : w.left < n) (h0 : w.en = 0) : ∃ g, g + (callW p R w v vs).1.left ≤ w.left ∧ ∀ N t m, g + m < N → Sim m (callW p R w v vs) (callW p (R2 N) (stl t (g + m) w) v vs) := by
  have ef : ∀ t k, (stl t k w).funs = w.funs := fun _ _ => rfl
  unfold callW
  simp only [ef]
  split
  · exact ⟨0, by simp, fun N t m _ => .inl ⟨by simp, t, by simp only [Nat.zero_add]; rfl⟩⟩
  · split
    · split
      · exact ⟨0, by simp, fun N t m _ => .inl ⟨by simp, t, by simp only [Nat.zero_add]; rfl⟩⟩
      · exact enterW_sim hR hn h0
    · exact ⟨0, by simp, fun N t m _ => .inl ⟨by simp [h0], t, by simp only [Nat.zero_add]⟩⟩
theorem classW_sim (hn : w.left < n) (h0 : w.en = 0) : ∃ g, g + (classW p R w b a).1.left ≤ w.left ∧ ∀ N t m, g + m < N → Sim m (classW p R w b a) (classW p (R2 N) (stl t (g + m) w) b a) := by
  obtain ⟨g, h1, h2⟩ := enterW_sim (p := p) (b := b) (a := a) (vs := []) hR hn h0
  refine ⟨g, ?_, fun N t m hN => ?_⟩
  · have e : (classW p R w b a).1.left = (enterW p R w b a []).1.left := by
      unfold classW
      split <;> rfl
    rw [e]
    exact h1
  · rcases h2 N t m hN with ⟨h3, t', h4⟩ | ⟨h3, h4⟩
    · unfold classW
      rw [h4]
      simp only
      by_cases he : (enterW p R w b a []).1.en ≠ 0
      · rw [if_pos he, if_pos (show (stl t' m (enterW p R w b a []).1).en ≠ 0 from he)]
        exact .inl ⟨h3, t', rfl⟩
      · rw [if_neg he, if_neg (show ¬ (stl t' m (enterW p R w b a []).1).en ≠ 0 from he)]
        exact .inl ⟨h3, t', rfl⟩
    · have e : (classW p R w b a).1 = (enterW p R w b a []).1 := by
        unfold classW
        rw [if_pos (by rw [h3]; decide)]
      refine .inr ⟨by rw [e]; exact h3, fun hm => ?_⟩
      obtain ⟨h5, h6⟩ := h4 hm
      rw [e]
      unfold classW
      split
      · exact ⟨h5, h6⟩
      · exact ⟨h5, h6⟩
theorem workW_sim (hn : w.left < n) (h0 : w.en = 0) : ∃ g, g + (workW p R w a s vs).1.left ≤ w.left ∧ ∀ N t m, g + m < N → Sim m (workW p R w a s vs) (workW p (R2 N) (stl t (g + m) w) a s vs) := by
  have h01 : w.en ≠ 1 := by rw [h0]; decide
  unfold workW
  split
  · exact ⟨0, by simp, fun N t m _ => .inl ⟨h01, t, by simp only [Nat.zero_add]⟩⟩
  · split
    · unfold plusW
      split
      · exact ⟨0, by simp, fun N t m _ => .inl ⟨by simp, t, by simp only [Nat.zero_add]; rfl⟩⟩
      · exact ⟨0, by simp, fun N t m _ => .inl ⟨h01, t, by simp only [Nat.zero_add]⟩⟩
    · split
      · exact ⟨0, by simp, fun N t m _ => .inl ⟨h01, t, by simp only [Nat.zero_add]; rfl⟩⟩
      · split
        · exact classW_sim hR hn h0
        · split
          · exact callW_sim hR hn h0
          · split
            · exact ⟨0, by simp only [attrW_left]; omega, fun N t m _ => .inl ⟨attrW_en h0, t, by simp only [Nat.zero_add]; exact stl_attrW⟩⟩
            · exact ⟨0, by simp, fun N t m _ => .inl ⟨h01, t, by simp only [Nat.zero_add]⟩⟩
theorem valueW_sim (hn : w.left < n) (h0 : w.en = 0) : ∃ g, g + (valueW p R w a s).1.left ≤ w.left ∧ ∀ N t m, g + m < N → Sim m (valueW p R w a s) (valueW p (R2 N) (stl t (g + m) w) a s) := by
  have h01 : w.en ≠ 1 := by rw [h0]; decide
  have hl := loadsW_en (p := p) (a := a) (l := s.reads) h01
  have hc := loadsW_left (p := p) (a := a) (l := s.reads) (w := w)
  unfold valueW
  simp only [stl_loadsW, stl_en]
  split
  · exact ⟨0, by simp [hc], fun N t m _ => .inl ⟨hl, t, by simp only [Nat.zero_add]⟩⟩
  · rename_i he
    obtain ⟨g, h1, h2⟩ := workW_sim (p := p) (a := a) (s := s) (vs := (loadsW p w a s.reads).2) hR (w := (loadsW p w a s.reads).1) (by rw [hc]; exact hn) (by simpa using he)
    exact ⟨g, by rw [hc] at h1; exact h1, h2⟩
omit hR in
theorem valueW_print (h : s.kind = 7) (h0 : w.en ≠ 1) : (valueW p R w a s).1.en ≠ 1 := by
  have hl := loadsW_en (p := p) (a := a) (l := s.reads) h0
  unfold valueW
  split
  · exact hl
  · simp [workW, h]
    exact hl
theorem stmW_sim (hn : w.left < n) (h0 : w.en = 0) : ∃ g, g + (stmW p R w a s).left ≤ w.left ∧ ∀ N t m, g + m < N → SimS m (stmW p R w a s) (stmW p (R2 N) (stl t (g + m) w) a s) := by
  have h01 : w.en ≠ 1 := by rw [h0]; decide
  by_cases hd : s.kind = 9 ∨ s.kind = 10
  · refine ⟨0, by simp [stmW, hd], fun N t m _ => .inl ⟨by simp [stmW, hd, h01], t, ?_⟩⟩
    simp only [stmW, hd, if_true, Nat.zero_add]
  by_cases h11 : s.kind = 11
  · have e : ∀ (R : Wld → Nat → Wld × Val) w, stmW p R w a s = takeW p w a s.to := fun R w => by simp [stmW, h11]
    refine ⟨0, by rw [e, takeW_left]; omega, fun N t m _ => .inl ?_⟩
    rw [e, e]
    unfold takeW
    simp only [stl_get, stl_loc, stl_blk, Nat.zero_add]
    split
    · exact ⟨by rw [set_en]; exact h01, t, by rw [stl_set]⟩
    · exact ⟨lack_ne1, t, rfl⟩
  obtain ⟨g, h1, h2⟩ := valueW_sim (p := p) (a := a) (s := s) hR hn h0
  have e : ∀ (R : Wld → Nat → Wld × Val) w, stmW p R w a s = if (valueW p R w a s).1.en ≠ 0 then (valueW p R w a s).1
      else if s.kind = 7 then { (valueW p R w a s).1 with out := (valueW p R w a s).1.out ++ [shown (valueW p R w a s).2] }
      else storeW p (valueW p R w a s).1 a s.to (valueW p R w a s).2 := fun R w => by simp only [stmW, hd, h11, if_false]
  refine ⟨g, ?_, fun N t m hN => ?_⟩
  · rw [e]
    split
    · exact h1
    · split
      · exact h1
      · rw [storeW, set_left]
        exact h1
  rw [e, e]
  rcases h2 N t m hN with ⟨h3, t', h4⟩ | ⟨h3, h4⟩
  · rw [h4]
    simp only
    by_cases he : (valueW p R w a s).1.en ≠ 0
    · rw [if_pos he, if_pos (show (stl t' m (valueW p R w a s).1).en ≠ 0 from he)]
      exact .inl ⟨h3, t', rfl⟩
    · rw [if_neg he, if_neg (show ¬ (stl t' m (valueW p R w a s).1).en ≠ 0 from he)]
      split
      · exact .inl ⟨h3, t', rfl⟩
      · refine .inl ⟨by rw [storeW, set_en]; exact h3, t', ?_⟩
        simp only [storeW, stl_loc, stl_set]
  · rw [if_pos (show (valueW p R w a s).1.en ≠ 0 by rw [h3]; decide)]
    refine .inr ⟨h3, fun hm => ?_⟩
    obtain ⟨h5, h6⟩ := h4 hm
    have h7 : ¬ s.kind = 7 := fun h => valueW_print h h01 h3
    split
    · exact ⟨h5, h6⟩
    · simp only [h7, if_false, storeW, set_out, set_left]
      exact ⟨h5, h6⟩
theorem bodyW_sim {l l' : List Stm} (hd : Del l l') : ∀ {w : Wld} {i j : Nat}, w.left < n + 1 → w.en = 0 → ∃ g, g + (bodyW p R a w i l).1.left ≤ w.left ∧ ∀ N t m, g + m < N + 1 → Sim m (bodyW p R a w i l) (bodyW p (R2 N) a (stl t (g + m) w) j l') := by
  induction hd with
  | nil =>
    intro w i j hn h0
    refine ⟨0, by simp [bodyW], fun N t m _ => .inl ⟨by simp only [bodyW]; rw [h0]; decide, t, ?_⟩⟩
    simp only [bodyW, Nat.zero_add]
  | @drop s l l' hs hd ih =>
    intro w i j hn h0
    by_cases hl : w.left = 0
    · have e : bodyW p R a w i (s :: l) = ({ w with en := 1 }, (0, 0)) := by simp only [bodyW, hl, if_true]
      rw [e]
      refine ⟨0, by simp, fun N t m _ => .inr ⟨rfl, fun hm => ?_⟩⟩
      subst hm
      exact bodyW_zero (w := stl t (0 + 0) w) rfl
    · have h8 : ¬ s.kind = 8 := by omega
      have e : ∀ l, bodyW p R a w i (s :: l) = bodyW p R a (tickW w a i) (i + 1) l := by
        intro l
        have h1 : stmW p R (tickW w a i) a s = tickW w a i := by simp [stmW, hs]
        simp only [bodyW, hl, if_false, h8, h1]
        rw [if_neg (by simp [tickW, h0])]
      rw [e]
      obtain ⟨g, h1, h2⟩ := ih (w := tickW w a i) (i := i + 1) (j := j) (by simp only [tickW]; omega) h0
      refine ⟨g, by simp only [tickW] at h1 ⊢; omega, fun N t m hN => ?_⟩
      have := h2 N t m hN
      rwa [stl_tick] at this
  | @keep s l l' hd ih =>
    intro w i j hn h0
    by_cases hl : w.left = 0
    · have e : bodyW p R a w i (s :: l) = ({ w with en := 1 }, (0, 0)) := by simp only [bodyW, hl, if_true]
      rw [e]
      refine ⟨0, by simp, fun N t m _ => .inr ⟨rfl, fun hm => ?_⟩⟩
      subst hm
      exact bodyW_zero (w := stl t (0 + 0) w) rfl
    have ht : (tickW w a i).left < n := by simp only [tickW]; omega
    by_cases h8 : s.kind = 8
    · have e : ∀ (R : Wld → Nat → Wld × Val) w i l, w.left ≠ 0 → bodyW p R a w i (s :: l) = loadW p (tickW w a i) a s.a := fun R w i l h => by simp only [bodyW, h, if_false, h8, if_true]
      rw [e R w i l hl]
      refine ⟨1, by rw [loadW_left]; simp only [tickW]; omega, fun N t m _ => .inl ⟨loadW_en h0, t ++ [(w.blk a, j)], ?_⟩⟩
      rw [e _ _ _ _ (by simp), Nat.add_comm 1 m, tick_stl, ← stl_tick (i := i) (a := a), stl_loadW]
    · obtain ⟨g1, q1, q2⟩ := stmW_sim (p := p) (a := a) (s := s) hR ht h0
      have e : ∀ (R : Wld → Nat → Wld × Val) w i l, w.left ≠ 0 → bodyW p R a w i (s :: l) = if (stmW p R (tickW w a i) a s).en ≠ 0 then (stmW p R (tickW w a i) a s, (0, 0)) else bodyW p R a (stmW p R (tickW w a i) a s) (i + 1) l := fun R w i l h => by simp only [bodyW, h, if_false, h8]
      rw [e R w i l hl]
      by_cases he : (stmW p R (tickW w a i) a s).en ≠ 0
      · rw [if_pos he]
        refine ⟨1 + g1, by simp only [tickW] at q1 ⊢; omega, fun N t m hN => ?_⟩
        rw [e _ _ _ _ (by simp), show 1 + g1 + m = (g1 + m) + 1 by omega, tick_stl, ← stl_tick (i := i) (a := a)]
        rcases q2 N (t ++ [(w.blk a, j)]) m (by omega) with ⟨h3, t', h4⟩ | ⟨h3, h4⟩
        · rw [h4, if_pos (show (stl t' m _).en ≠ 0 from he)]
          exact .inl ⟨h3, t', rfl⟩
        · refine .inr ⟨h3, fun hm => ?_⟩
          obtain ⟨h5, h6⟩ := h4 hm
          split
          · exact ⟨h5, h6⟩
          · have := bodyW_zero (p := p) (R := R2 N) (a := a) (i := j + 1) (l := l') h6
            exact ⟨this.1.trans h5, this.2⟩
      · rw [if_neg he]
        have hle : (stmW p R (tickW w a i) a s).left < n + 1 := by omega
        obtain ⟨g2, r1, r2⟩ := ih (w := stmW p R (tickW w a i) a s) (i := i + 1) (j := j + 1) hle (by simpa using he)
        have ht2 : (tickW w a i).left = w.left - 1 := rfl
        refine ⟨1 + g1 + g2, by omega, fun N t m hN => ?_⟩
        rw [e _ _ _ _ (by simp), show 1 + g1 + g2 + m = (g1 + (g2 + m)) + 1 by omega, tick_stl, ← stl_tick (i := i) (a := a)]
        rcases q2 N (t ++ [(w.blk a, j)]) (g2 + m) (by omega) with ⟨h3, t', h4⟩ | ⟨h3, h4⟩
        · rw [h4, if_neg (show ¬ (stl t' (g2 + m) _).en ≠ 0 from he)]
          exact r2 N t' m (by omega)
        · rw [h3] at he
          exact absurd (by decide) he
end
theorem runG_sim {p : Prg} {bod bod2 : Nat → List Stm} (hd : ∀ b, Del (bod b) (bod2 b)) : ∀ (n : Nat) (w : Wld) (a : Nat), w.left < n → w.en = 0 → ∃ g, g + (runG p bod n w a).1.left ≤ w.left ∧ ∀ N t m, g + m < N → Sim m (runG p bod n w a) (runG p bod2 N (stl t (g + m) w) a)
  | 0, _, _, h, _ => absurd h (by omega)
  | n + 1, w, a, h, h0 => by
    simp only [runG]
    obtain ⟨g, h1, h2⟩ := bodyW_sim (p := p) (a := a) (R2 := runG p bod2) (runG_sim hd n) (hd (w.blk a)) (w := w) (i := 0) (j := 0) h h0
    refine ⟨g, h1, fun N t m hN => ?_⟩
    cases N with
    | zero => exact absurd hN (by omega)
    | succ N => exact h2 N t m hN
end Go.Hm
end
