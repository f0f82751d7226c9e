/-
  Own texts, joined by mkclaim.py: Hm79, Hm80, Hm81, Hm82, Hm83, Hm84.
-/
import Derived.Test.YtpckgioefpkmoaaGreatM14
import Derived.Test.YtpckgioefpkmoaaGreatM12
import Derived.Test.YtpckgioefpkmoaaGreatM13
import Derived.Test.YtpckgioefpkmoaaGreatM11
import Derived.Stop.Joined
set_option linter.unusedSimpArgs false
set_option linter.unusedVariables false

section
namespace Go.Hm
open Go Go.RowKit
section
variable {n : Nm} {len i j : Nat} {f : Nm → Option Nm} {q : Int}
@[simp] theorem sRows_fix (h : ∀ j, f (.c n j 0) = some (.c n j 0)) : (sRows n len i).map (fun r => r.map (AV.tr f)) = sRows n len i := sRows_tr fun j _ => h j
@[simp] theorem outP_fix (h : ∀ j, f (.c n j 0) = some (.c n j 0)) : (outP n q).tr f = outP n q := outP_tr fun _ => h _
end
@[simp] theorem slc_hs {P : Program} {T : TypeId} {hp : Nm → Option AO} {n : Nm} {z q len : Nat} {lo hi : Option Int} : slcAV P T hp (.hs n z q len) lo hi = match tel P T with
    | some e => if z = tsz P e ∧ 0 ≤ lo.getD 0 ∧ lo.getD 0 ≤ hi.getD len ∧ (hi.getD len ≤ len ∨ q + (hi.getD len).toNat ≤ rowsIn hp n z) then some (.hs n z (q + (lo.getD 0).toNat) ((hi.getD len).toNat - (lo.getD 0).toNat)) else none
    | none => none := rfl
def fM (k : Nat) : Bool := k == 1 || k == 7 || k == 8
def DM : Nm → Bool := Du fM
def DM2 (n : Nm) : Bool := DM n || Nm.under (.u 2 0 0) n
section
variable {n : Nm} {k i j d : Nat}
@[simp] theorem DM_s : DM (.s d) = false := rfl
@[simp] theorem DM_u : DM (.u k i j) = fM k := rfl
@[simp] theorem DM_c : DM (.c n i j) = DM n := rfl
@[simp] theorem fM_1 : fM 1 = true := rfl
@[simp] theorem fM_2 : fM 2 = false := rfl
@[simp] theorem fM_7 : fM 7 = true := rfl
@[simp] theorem fM_8 : fM 8 = true := rfl
@[simp] theorem DM2_eq : DM2 n = (DM n || Nm.under (.u 2 0 0) n) := rfl
theorem DM_root {n : Nm} (h : DM n = true) : n.sroot = false := Du_root h
theorem DM2_root {n : Nm} (h : DM2 n = true) : n.sroot = false := by
  simp only [DM2, Bool.or_eq_true] at h
  rcases h with h | h
  · exact DM_root h
  · exact under_usroot rfl h
end
section
variable {l m : List Nat} {i : Nat} {f : Nm → Option Nm}
@[simp] theorem erows_len : (erows l).length = l.length := by simp [erows]
theorem erows_app1 : erows l ++ [[ptE i]] = erows (l ++ [i]) := by simp [erows]
@[simp] theorem erows_take {n : Nat} : (erows l).take n = erows (l.take n) := by simp [erows]
@[simp] theorem erows_fix (h : ∀ i, f (En i) = some (En i)) : (erows l).map (fun r => r.map (AV.tr f)) = erows l := by
  simp only [erows, List.map_map]
  apply List.map_congr_left
  intro j _
  simp [ptE, h j]
end
theorem erows_lt {l : List Nat} {f : Nm → Option Nm} (h : ∀ i ∈ l, f (En i) = some (En i)) : (erows l).map (fun r => r.map (AV.tr f)) = erows l := by
  simp only [erows, List.map_map]
  apply List.map_congr_left
  intro j hj
  simp [ptE, h j hj]
def cloC (F : Nat) (p : Prg) (k : Nat) (g : Nat × Nat) : List AV := [iv (parN p g.1), .fn (.func F) [] [.pt (.u 8 k 0) 0, .pt (.u 8 k 1) 0, .pt (.u 8 k 2) 0, .pt (.u 8 k 3) 0]]
def cloRows (F : Nat) (p : Prg) (gs : List (Nat × Nat)) : List (List AV) := gs.mapIdx fun k g => cloC F p k g
def cmpRows (n : Nm) (cs : List (List Slt)) : List (List AV) := cs.mapIdx fun k _ => [.mp (.c n (k + 1) 9)]
section
variable {F : Nat} {p : Prg} {gs : List (Nat × Nat)} {g : Nat × Nat} {cs : List (List Slt)} {c : List Slt} {n m : Nm} {i : Nat} {f : Nm → Option Nm}
@[simp] theorem cloRows_len : (cloRows F p gs).length = gs.length := by simp [cloRows]
@[simp] theorem cloRows_get : (cloRows F p gs)[i]? = (gs[i]?).map fun g => cloC F p i g := by simp [cloRows]
@[simp] theorem cloRows_getE {h : i < (cloRows F p gs).length} : (cloRows F p gs)[i] = cloC F p i (gs[i]'(by simpa using h)) := by simp [cloRows]
theorem cloRows_app : cloRows F p gs ++ [cloC F p gs.length g] = cloRows F p (gs ++ [g]) := by simp [cloRows]
@[simp] theorem cloRows_fix (h : ∀ k j, f (.u 8 k j) = some (.u 8 k j)) : (cloRows F p gs).map (fun r => r.map (AV.tr f)) = cloRows F p gs := by
  apply List.ext_getElem?
  intro j
  rw [List.getElem?_map, cloRows_get]
  cases hj : gs[j]? with
  | none => rfl
  | some a => simp [cloC, trL, h]
@[simp] theorem cmpRows_len : (cmpRows n cs).length = cs.length := by simp [cmpRows]
@[simp] theorem cmpRows_get : (cmpRows n cs)[i]? = (cs[i]?).map fun _ => [AV.mp (.c n (i + 1) 9)] := by simp [cmpRows]
@[simp] theorem cmpRows_getE {h : i < (cmpRows n cs).length} : (cmpRows n cs)[i] = [AV.mp (.c n (i + 1) 9)] := by simp [cmpRows]
theorem cmpRows_app : cmpRows n cs ++ [[.mp (.c n (cs.length + 1) 9)]] = cmpRows n (cs ++ [c]) := by simp [cmpRows]
theorem cmpRows_map {g : List AV → List AV} (h : ∀ (i : Nat) c, cs[i]? = some c → g [.mp (.c n (i + 1) 9)] = [.mp (.c m (i + 1) 9)]) : (cmpRows n cs).map g = cmpRows m cs := by
  apply List.ext_getElem?
  intro j
  rw [List.getElem?_map, cmpRows_get, cmpRows_get]
  cases hj : cs[j]? with
  | none => rfl
  | some a => simp only [Option.map_some]; rw [h j a hj]
@[simp] theorem cmpRows_fix (h : ∀ i, f (.c n (i + 1) 9) = some (.c n (i + 1) 9)) : (cmpRows n cs).map (fun r => r.map (AV.tr f)) = cmpRows n cs := cmpRows_map fun i c _ => by simp [h i]
end
def mRow (p : Prg) (w : Wld) : List AV := [ksl p, .hs (.c Mn 0 1) 1 0 p.length, iv w.left, iv w.en, .hs (.c Mn 0 4) 1 0 w.out.length, .hs (.c Mn 0 5) 2 0 w.trace.length, ptE 0, .hs (.c Mn 0 7) 1 0 w.stack.length, .hs (.c Mn 0 8) 2 0 w.funs.length, .hs (.c Mn 0 9) 1 0 w.classes.length]
def envRow (i : Nat) (a : Act) : List AV := [iv a.blk, .mp (.c (En i) 0 1), if i = 0 then nilP else ptE a.up]
@[simp] theorem envRow_len {i : Nat} {a : Act} : (envRow i a).length = 3 := rfl
@[simp] theorem envRow_fix {i : Nat} {a : Act} {f : Nm → Option Nm} (h1 : f (.c (En i) 0 1) = some (.c (En i) 0 1)) (h2 : ∀ j, f (En j) = some (En j)) : (envRow i a).map (AV.tr f) = envRow i a := by
  by_cases e : i = 0
  · subst e; simp [envRow, h1]
  · simp [envRow, h1, e, h2]
def Wld.nms (w : Wld) (i : Nat) : List Slt := if i = 0 then w.globals else match w.acts[i]? with | some a => a.vars | none => []
structure OwnM (hp : Nm → Option AO) (F : Nat) (p : Prg) (w : Wld) : Prop where
  top : hp Mn = some (.row 10 [mRow p w])
  scs : OwnS hp (.c Mn 0 1) p p.length
  out : hp (.c Mn 0 4) = some (.row 1 (irows w.out))
  trc : hp (.c Mn 0 5) = some (.row 2 (nrows w.trace))
  run : ∃ l, (∀ i ∈ l, i < w.acts.length) ∧ hp (.c Mn 0 7) = some (.row 1 (erows (w.stack ++ l)))
  funs : hp (.c Mn 0 8) = some (.row 2 (cloRows F p w.funs))
  bx : ∀ (k : Nat) g, w.funs[k]? = some g → hp (.u 8 k 0) = some (.row 1 [[iv g.1]]) ∧ hp (.u 8 k 1) = some (.row 1 [[ptE g.2]]) ∧ hp (.u 8 k 2) = some (.row 1 [[isl (match p[g.1]? with | some b => b.params | none => [])]]) ∧ hp (.u 8 k 3) = some (.row 1 [[.pt Mn 0]])
  clss : hp (.c Mn 0 9) = some (.row 1 (cmpRows Mn w.classes))
  cls : ∀ (k : Nat) c, w.classes[k]? = some c → ∃ ms, hp (.c Mn (k + 1) 9) = some (.map (mrows ms)) ∧ MapOk ms c
  env : ∀ (i : Nat) a, w.acts[i]? = some a → hp (En i) = some (.row 3 [envRow i a])
  nms : ∀ (i : Nat), i < w.acts.length → ∃ ms, hp (.c (En i) 0 1) = some (.map (mrows ms)) ∧ MapOk ms (w.nms i)
  only : ∀ k i j, fM k = true → hp (.u k i j) ≠ none → (k = 1 ∧ i = 0 ∧ j = 0) ∨ (k = 7 ∧ i < w.acts.length ∧ j = 0) ∨ (k = 8 ∧ i < w.funs.length ∧ j < 4)
def hIdx : Option Nat → Nat
  | none => 0
  | some i => i
theorem nms_loc {p : Prg} {w : Wld} {a : Nat} {x : Int} (hh : Heads p) (hw : WOk p w) (ha : a < w.acts.length) : w.nms (hIdx (w.loc p a x)) = w.vars (w.loc p a x) ∧ hIdx (w.loc p a x) < w.acts.length := by
  obtain ⟨a0, h0, hb0⟩ := hw.a0
  have hl0 := (List.getElem?_eq_some_iff.1 h0).1
  rcases loc_spec (x := x) hh hw ha with ⟨h1, h2⟩ | ⟨o, i, c, ho, h1, h2, h3, h4, h5, _⟩
  · rw [h2]
    exact ⟨by simp [Wld.nms, hIdx, Wld.vars], hl0⟩
  · rw [h2]
    have hi : i ≠ 0 := by
      rintro rfl
      rw [h0] at h4
      obtain rfl := Option.some.inj h4
      omega
    exact ⟨by simp [Wld.nms, hIdx, Wld.vars, hi, h4], (List.getElem?_eq_some_iff.1 h4).1⟩
theorem OwnM.hp' {hp hp' : Nm → Option AO} {F : Nat} {p : Prg} {w : Wld} (h : OwnM hp F p w) {f : Nm → Option Nm} (hf : ∀ m, DM m = true → f m = some m) (hh : ∀ m, DM m = true → hp' m = (hp m).map (AO.tr f)) : OwnM hp' F p w := by
  have hE : ∀ i, f (En i) = some (En i) := fun i => hf _ rfl
  have h8 : ∀ k j, f (.u 8 k j) = some (.u 8 k j) := fun k j => hf _ rfl
  have hc : ∀ j, f (.c Mn 0 j) = some (.c Mn 0 j) := fun j => hf _ rfl
  refine ⟨?_, ⟨?_, fun j k hj hk => ?_⟩, ?_, ?_, h.run.imp fun l hl => ⟨hl.1, ?_⟩, ?_, fun k g hg => ?_, ?_, fun k c hc' => ?_, fun i a ha => ?_, fun i hi => ?_, fun k i j hk hn => ?_⟩
  · rw [hh _ rfl, h.top]; simp [mRow, AO.tr, hc, hE]
  · rw [hh _ rfl, h.scs.top]
    simp only [Option.map_some, AO.tr]
    rw [sRows_fix fun j => hf _ rfl]
  · rw [hh _ rfl, h.scs.sc j k hj hk]
    simp only [Option.map_some, AO.tr, List.map_cons, List.map_nil, scopeRow_tr]
    rw [outP_fix fun j => hf _ rfl]
  · rw [hh _ rfl, h.out]; simp [AO.tr]
  · rw [hh _ rfl, h.trc]; simp [AO.tr]
  · rw [hh _ rfl, hl.2]
    simp only [Option.map_some, AO.tr]
    rw [erows_fix hE]
  · rw [hh _ rfl, h.funs]
    simp only [Option.map_some, AO.tr]
    rw [cloRows_fix h8]
  · obtain ⟨a1, a2, a3, a4⟩ := h.bx k g hg
    refine ⟨?_, ?_, ?_, ?_⟩
    · rw [hh _ rfl, a1]; simp [AO.tr]
    · rw [hh _ rfl, a2]; simp [AO.tr, hE]
    · rw [hh _ rfl, a3]; simp [AO.tr]
    · rw [hh _ rfl, a4]; simp [AO.tr, hf Mn rfl]
  · rw [hh _ rfl, h.clss]
    simp only [Option.map_some, AO.tr]
    rw [cmpRows_fix fun i => hf _ rfl]
  · obtain ⟨ms, a1, a2⟩ := h.cls k c hc'
    exact ⟨ms, by rw [hh _ rfl, a1]; simp [AO.tr], a2⟩
  · rw [hh _ rfl, h.env i a ha]
    have h1 := hf (.c (En i) 0 1) rfl
    by_cases e : i = 0 <;> simp [AO.tr, envRow, h1, e, hE]
    subst e
    simp [h1]
  · obtain ⟨ms, a1, a2⟩ := h.nms i hi
    exact ⟨ms, by rw [hh _ rfl, a1]; simp [AO.tr], a2⟩
  · refine h.only k i j hk fun e => hn ?_
    rw [hh (.u k i j) hk, e]; rfl
theorem OwnM.fin {hp : Nm → Option AO} {F : Nat} {p : Prg} {w : Wld} {D : Nm → Bool} {sbs : List (Nm × Nm)} (h : OwnM hp F p w) (hD : ∀ m, D m = true → m.sroot = false := by first | exact fun _ => DM_root | exact fun _ => DM2_root) (hW : ∀ m, DM m = true → D m = true := by intro m hm; first | exact hm | simp [hm]) (hs : ∀ q ∈ sbs, q.1.sroot = true := by simp [Nm.sroot]) : OwnM (finH D sbs hp) F p w :=
  h.hp' (f := finf D sbs) (fun m hm => finf_D hD (hW m hm) hs) (fun m hm => by simp only [finH, hW m hm, if_true])
theorem OwnM.ext {H hp : Nm → Option AO} {F : Nat} {p : Prg} {w0 w : Wld} (h0 : OwnM H F p w0) (h : OwnM hp F p w) (ha : w0.acts.length ≤ w.acts.length) (hf : w0.funs.length ≤ w.funs.length) : ∀ k i j, (H (.u k i j)).isSome = true → DM (.u k i j) = false ∨ (dsub DM hp) (.u k i j) ≠ none := by
  intro k i j hs
  cases hD : fM k with
  | false => exact .inl hD
  | true =>
    right
    have hd : DM (.u k i j) = true := hD
    rw [dsub_eq, if_pos hd]
    rcases h0.only k i j hD (by intro e; rw [e] at hs; cases hs) with ⟨rfl, rfl, rfl⟩ | ⟨rfl, hi, rfl⟩ | ⟨rfl, hi, hj⟩
    · rw [h.top]; simp
    · obtain ⟨a, ha'⟩ : ∃ a, w.acts[i]? = some a := ⟨_, List.getElem?_eq_getElem (by omega)⟩
      rw [h.env i a ha']; simp
    · obtain ⟨g, hg⟩ : ∃ g, w.funs[i]? = some g := ⟨_, List.getElem?_eq_getElem (by omega)⟩
      obtain ⟨a1, a2, a3, a4⟩ := h.bx i g hg
      have : j = 0 ∨ j = 1 ∨ j = 2 ∨ j = 3 := by omega
      rcases this with rfl | rfl | rfl | rfl
      · rw [a1]; simp
      · rw [a2]; simp
      · rw [a3]; simp
      · rw [a4]; simp
theorem OwnM.ext2 {H hp : Nm → Option AO} {F : Nat} {p : Prg} {w0 w : Wld} (h0 : OwnM H F p w0) (h : OwnM hp F p w) (ha : w0.acts.length ≤ w.acts.length) (hf : w0.funs.length ≤ w.funs.length) (h2 : (hp (.u 2 0 0)).isSome = true) : ∀ k i j, (H (.u k i j)).isSome = true → DM2 (.u k i j) = false ∨ (dsub DM2 hp) (.u k i j) ≠ none := by
  intro k i j hs
  by_cases e : Nm.under (.u 2 0 0) (.u k i j) = true
  · right
    have e2 : k = 2 ∧ i = 0 ∧ j = 0 := by
      simp [Nm.under] at e
      exact ⟨e.1, e.2.1, e.2.2⟩
    obtain ⟨rfl, rfl, rfl⟩ := e2
    rw [dsub_eq, if_pos (by simp [Nm.under])]
    exact Option.isSome_iff_ne_none.1 h2
  · simp only [Bool.not_eq_true] at e
    rcases h0.ext h ha hf k i j hs with h1 | h1
    · left; simp only [DM2_eq, h1, e, Bool.or_self]
    · right
      rw [dsub_eq] at h1 ⊢
      split at h1
      · rename_i hd
        rw [if_pos (by simp [hd] : DM2 (.u k i j) = true)]
        exact h1
      · exact absurd rfl h1
section
variable {X : Ctx} {st : St} {K : St → Prop} {E : AV → St → Prop} {d f : Nat} {ty : TypeId} {pos : String} {aft : Array Edge} {g : Option (Nat × Bool)} {args : Array Operand} {Ts : Array TypeId} {as : List AV} {R : Nm → AV → (Nm → Option AO) → Prop}
theorem x_mutM (hext : ∀ k i j, X.ext (.u k i j) = true → DM (.u k i j) = false ∨ (dsub DM st.hp) (.u k i j) ≠ none) (hd : d < X.n := by first | (simp; done) | fail) (ha : args.toList.map (ev st) = as := by simp [fx]; first | done | rfl)
    (hF : FnE X.P X.gl f DM as (dsub DM st.hp) R noE) (h : ∀ y H', R (.s d) y H' → K ((st.call d DM (dsub DM st.hp) H').put (some d) y)) :
    SemOp X ⟨some d, .call ⟨.value (.func f), args, Ts⟩, ty, pos, aft, g⟩ K E st := x_mutD DM (fun _ => DM_root) hext hd ha hF h
end
end Go.Hm
end

section
namespace Go.Hm
open Go Go.RowKit
@[simp] theorem lok_mp {P : Program} {T : TypeId} {hp : Nm → Option AO} {m : Nm} {k' : IntKind} {n : Int} {ok : Bool} : lokAV P T hp (.mp m) (.sc (.int k' n)) ok = match tmapI P T with
    | some q => if k' = q.1 then (match hp m with
      | some (.map es) => if mkeys q.1 es then (match mget q.1 n es with
        | some y => some (if ok then .tup [y, .sc (.bool true)] else y)
        | none => (zflat P q.2).map (fun z => if ok then .tup [z, .sc (.bool false)] else z)) else none
      | _ => none) else none
    | none => none := by
  unfold lokAV
  cases tmapI P T with
  | none => rfl
  | some q => rfl
theorem OwnM.sub {hp : Nm → Option AO} {F : Nat} {p : Prg} {w : Wld} (h : OwnM hp F p w) {D : Nm → Bool} (hD : ∀ m, DM m = true → D m = true := by intro m hm; first | exact hm | simp [hm]) : OwnM (dsub D hp) F p w := by
  refine h.hp' (f := some) (fun _ _ => rfl) (fun m hm => ?_)
  rw [dsub_eq, if_pos (hD m hm)]
  cases hp m with
  | none => rfl
  | some o => simp [AO.tr_some]
theorem MapOk.get' {ms : NMap} {w : Wld} {l : Option Nat} {x : Int} (h : MapOk ms (w.vars l)) (hx : 0 ≤ x ∧ x ≤ 7) : lk x ms = w.get l x := by
  rw [h.at hx]
  unfold Wld.get
  cases (w.vars l)[x.toNat]? <;> rfl
theorem ownM_set {hp hp' : Nm → Option AO} {F : Nat} {p : Prg} {w : Wld} {a x : Nat} {s : Slt} {l : Option Nat} (hh : Heads p) (hw : WOk p w) (ha : a < w.acts.length) (hx : x < 8) (hl : w.loc p a x = l) (hnm : w.nms (hIdx (w.loc p a x)) = w.vars (w.loc p a x)) (h : OwnM hp F p w) {ms : NMap} (hms : MapOk ms ((w.vars l).set (x : Int).toNat s)) (hq : ∀ m, DM m = true → hp' m = if m = .c (En (hIdx l)) 0 1 then some (.map (mrows ms)) else hp m) : OwnM hp' F p (w.set l x s) := by
  obtain ⟨e1, e2, e3, e4, e5, e6, e7⟩ := set_same (w := w) (l := l) (x := (x : Int)) (s := s)
  have hlen : (w.set l x s).acts.length = w.acts.length := set_len
  have hnms : ∀ i, (w.set l x s).nms i = if i = hIdx l then (w.vars l).set (x : Int).toNat s else w.nms i := by
    intro i
    cases l with
    | none =>
      by_cases e : i = 0
      · simp [Wld.nms, Wld.set, hIdx, e, Wld.vars]
      · simp [Wld.nms, Wld.set, hIdx, e]
    | some j =>
      have hj0 : j ≠ 0 := by
        rintro rfl
        rcases loc_spec (x := (x : Int)) hh hw ha with ⟨_, h2⟩ | ⟨o, i, c, ho, _, h2, _, h4, h5, _⟩
        · rw [hl] at h2; cases h2
        · rw [hl] at h2
          obtain rfl := Option.some.inj h2
          obtain ⟨a0, h0, hb0⟩ := hw.a0
          rw [h0] at h4
          obtain rfl := Option.some.inj h4
          omega
      by_cases e : i = 0
      · subst e
        have : ¬ 0 = j := fun e => hj0 e.symm
        simp [Wld.nms, Wld.set, hIdx, this]
      · by_cases e2 : i = j
        · subst e2
          simp only [Wld.nms, Wld.set, hIdx, e, if_false, if_true, List.getElem?_modify, Wld.vars]
          cases w.acts[i]? with
          | none => simp
          | some b => simp
        · have e3 : ¬ j = i := fun e => e2 e.symm
          simp only [Wld.nms, Wld.set, hIdx, e, e2, if_false, List.getElem?_modify, e3]
          cases w.acts[i]? <;> simp
  have hget : ∀ m, DM m = true → m ≠ .c (En (hIdx l)) 0 1 → hp' m = hp m := fun m hm hne => by rw [hq m hm, if_neg hne]
  refine ⟨?_, ⟨?_, fun j k hj hk => ?_⟩, ?_, ?_, h.run.imp fun l hl => ⟨by rw [hlen]; exact hl.1, ?_⟩, ?_, fun k g hg => ?_, ?_, fun k c hc => ?_, fun i b hb => ?_, fun i hi => ?_, fun k i j hk hn => ?_⟩
  · rw [hget _ rfl (by simp), h.top]; simp [mRow, e1, e2, e3, e4, e5, e6, e7]
  · rw [hget _ rfl (by simp), h.scs.top]
  · rw [hget _ rfl (by simp), h.scs.sc j k hj hk]
  · rw [hget _ rfl (by simp), h.out, e3]
  · rw [hget _ rfl (by simp), h.trc, e4]
  · rw [hget _ rfl (by simp), hl.2, e6]
  · rw [hget _ rfl (by simp), h.funs, e1]
  · rw [e1] at hg
    obtain ⟨a1, a2, a3, a4⟩ := h.bx k g hg
    exact ⟨by rw [hget _ rfl (by simp), a1], by rw [hget _ rfl (by simp), a2], by rw [hget _ rfl (by simp), a3], by rw [hget _ rfl (by simp), a4]⟩
  · rw [hget _ rfl (by simp), h.clss, e2]
  · rw [e2] at hc
    obtain ⟨ms, a1, a2⟩ := h.cls k c hc
    exact ⟨ms, by rw [hget _ rfl (by simp), a1], a2⟩
  · obtain ⟨b', hb', f1, f2, _⟩ := set_acts hb
    rw [hget _ rfl (by simp), h.env i b' hb']
    simp [envRow, f1, f2]
  · rw [hlen] at hi
    rw [hnms]
    by_cases e : i = hIdx l
    · subst e
      rw [if_pos rfl]
      exact ⟨ms, by rw [hq _ rfl, if_pos rfl], hms⟩
    · rw [if_neg e]
      obtain ⟨ms', a1, a2⟩ := h.nms i hi
      exact ⟨ms', by rw [hget _ rfl (by simp [e]), a1], a2⟩
  · rw [hget (.u k i j) hk (by simp)] at hn
    rw [hlen, e1]
    exact h.only k i j hk hn
section
variable {X : Ctx} {st : St} {K : St → Prop} {E : AV → St → Prop} {ty : TypeId} {pos : String} {aft : Array Edge} {g : Option (Nat × Bool)}
theorem x_delete {dst : Option Nat} {T e : TypeId} {ts : Array TypeId} {m key : Operand} {k : IntKind} {i : Int} {n : Nm} {es : List (AV × AV)} {st' : St} (hts : ts[0]? = some T := by rfl) (hdn : ∀ t, dst = some t → t < X.n := by first | (intro t h; cases h; done) | (intro t h; obtain rfl := Option.some.inj h; simp; done) | fail) (ht : tmapI X.P T = some (k, e) := by simp [fx]; first | done | rfl | exact ⟨rfl, rfl⟩)
    (hm : ev st m = .mp n := by simp [fx]; first | done | rfl) (hk : ev st key = .sc (.int k i) := by simp [fx]; first | done | rfl) (hn : st.hp n = some (.map es) := by simp [fx]; first | done | rfl) (hks : mkeys k es = true := by simp [fx]; first | done | rfl)
    (hs : (st.setO n (.map (mdel k i es))).put dst (.sc (.tuple #[])) = st' := by simp [fx]; first | done | rfl) (h : K st') : SemOp X ⟨dst, .call { callee := .builtin .delete, args := #[m, key], argTypes := ts }, ty, pos, aft, g⟩ K E st := by
  subst hs
  exact sem_delete rfl hts hdn ht hm hk hn hks h
end
section
variable {P : Program} {C : Nat → Prop} {wd : World} {g0 : Gh} {H : Nm → Option AO} {n : Nat} {gl : Nat → Option (List AV)} {st : St} {K : St → Prop} {E : AV → St → Prop} {d f : Nat} {ty : TypeId} {pos : String} {aft : Array Edge} {g : Option (Nat × Bool)} {c : Operand} {args : Array Operand} {Ts : Array TypeId} {as xs ys : List AV} {R : Nm → AV → (Nm → Option AO) → Prop} {F : Nat} {p : Prg} {w0 w : Wld}
theorem x_callM (h0 : OwnM H F p w0) (hO : OwnM st.hp F p w) (hl : w0.acts.length ≤ w.acts.length) (hf : w0.funs.length ≤ w.funs.length) (hd : d < n := by first | (simp; done) | fail) (ha : args.toList.map (ev st) = as := by simp [fx]; first | done | rfl)
    (hF : OwnM (dsub DM st.hp) F p w → FnE P gl f DM as (dsub DM st.hp) R noE) (h : ∀ y H', R (.s d) y H' → K ((st.call d DM (dsub DM st.hp) H').put (some d) y)) :
    SemOp (ctx0 P C wd g0 H n gl) ⟨some d, .call ⟨.value (.func f), args, Ts⟩, ty, pos, aft, g⟩ K E st := x_mutD DM (fun _ => DM_root) (fun k i j he => h0.ext hO hl hf k i j he) hd ha (hF hO.sub) h
theorem x_callM2 (h0 : OwnM H F p w0) (hO : OwnM st.hp F p w) (h2 : (st.hp (.u 2 0 0)).isSome = true) (hl : w0.acts.length ≤ w.acts.length) (hf : w0.funs.length ≤ w.funs.length) (hd : d < n := by first | (simp; done) | fail) (ha : args.toList.map (ev st) = as := by simp [fx]; first | done | rfl)
    (hF : OwnM (dsub DM2 st.hp) F p w → FnE P gl f DM2 as (dsub DM2 st.hp) R noE) (h : ∀ y H', R (.s d) y H' → K ((st.call d DM2 (dsub DM2 st.hp) H').put (some d) y)) :
    SemOp (ctx0 P C wd g0 H n gl) ⟨some d, .call ⟨.value (.func f), args, Ts⟩, ty, pos, aft, g⟩ K E st := x_mutD DM2 (fun _ => DM2_root) (fun k i j he => h0.ext2 hO hl hf h2 k i j he) hd ha (hF hO.sub) h
theorem x_callMv (h0 : OwnM H F p w0) (hO : OwnM st.hp F p w) (h2 : (st.hp (.u 2 0 0)).isSome = true) (hl : w0.acts.length ≤ w.acts.length) (hf : w0.funs.length ≤ w.funs.length) (hd : d < n := by first | (simp; done) | fail)
    (hv : ev st c = .fn (.func f) xs ys := by simp [fx]; first | done | rfl) (ha : xs ++ args.toList.map (ev st) ++ ys = as := by simp [fx]; first | done | rfl)
    (hF : OwnM (dsub DM2 st.hp) F p w → FnE P gl f DM2 as (dsub DM2 st.hp) R noE) (h : ∀ y H', R (.s d) y H' → K ((st.call d DM2 (dsub DM2 st.hp) H').put (some d) y)) :
    SemOp (ctx0 P C wd g0 H n gl) ⟨some d, .call ⟨.value c, args, Ts⟩, ty, pos, aft, g⟩ K E st := x_mutDv DM2 (fun _ => DM2_root) (fun k i j he => h0.ext2 hO hl hf h2 k i j he) hd hv ha (hF hO.sub) h
end
end Go.Hm
end

section
namespace Go.Hm
open Go Go.RowKit
def trI (l : List (Nat × Nat)) : List (Int × Int) := l.map fun v => ((v.1 : Int), (v.2 : Int))
section
variable {l : List (Nat × Nat)} {c : Int} {i : Nat}
@[simp] theorem trI_len : (trI l).length = l.length := by simp [trI]
theorem nrows_trI : nrows l = orows (trI l) := by simp [nrows, trI, orows]
theorem trI_take {n : Nat} : (trI l).take n = trI (l.take n) := by simp [trI]
end
end Go.Hm
end

section
namespace Go.Hm
open Go Go.RowKit
def Rsl.av (r : Rsl) : AV := .agg [isl r.out, iv r.en, iv r.left, isl r.gl]
@[simp] theorem Rsl.av_eq {r : Rsl} : r.av = .agg [isl r.out, iv r.en, iv r.left, isl r.gl] := rfl
def Rsl.mark (r : Rsl) (c : Int) : Rsl := ⟨markI r.out.length c, r.en, r.left, markI r.gl.length (c + r.out.length)⟩
section
variable {hp : Nm → Option AO} {n : Nm} {r : Rsl} {c : Int}
theorem OwnR.hcln {H' : Nm → Option AO} (h : OwnR H' n r) : OwnR (Hm.hcln H') n r := ⟨hcln_row h.out (by simp), hcln_row h.gl (by simp)⟩
theorem bw_rslC (h : OwnR hp n r) : ∀ (j : Nat) a a', (r.own n)[j]? = some a → [isl r.out, iv r.en, iv r.left, isl r.gl][j]? = some a' → Bw hp noD a a'
  | 0, a, a', ha, ha' => by obtain rfl := Option.some.inj ha; obtain rfl := Option.some.inj ha'; exact bw_ints h.out rfl
  | 1, a, a', ha, ha' => by obtain rfl := Option.some.inj ha; obtain rfl := Option.some.inj ha'; exact .refl _
  | 2, a, a', ha, ha' => by obtain rfl := Option.some.inj ha; obtain rfl := Option.some.inj ha'; exact .refl _
  | 3, a, a', ha, ha' => by obtain rfl := Option.some.inj ha; obtain rfl := Option.some.inj ha'; exact bw_ints h.gl rfl
  | j + 4, a, a', ha, _ => by simp [Rsl.own] at ha
theorem bw_rsl (h : OwnR hp n r) : Bw hp noD (.agg [.hs (.c n 0 0) 1 0 r.out.length, iv r.en, iv r.left, .hs (.c n 0 3) 1 0 r.gl.length]) (.agg [isl r.out, iv r.en, iv r.left, isl r.gl]) := .agg _ _ rfl (bw_rslC h)
@[simp] theorem Rsl.mark_en : (r.mark c).en = r.en := rfl
@[simp] theorem Rsl.mark_left : (r.mark c).left = r.left := rfl
@[simp] theorem Rsl.mark_out : (r.mark c).out.length = r.out.length := by simp [Rsl.mark]
@[simp] theorem Rsl.mark_gl : (r.mark c).gl.length = r.gl.length := by simp [Rsl.mark]
end
section
variable {p : Prg} {f : Int}
theorem fuel_run (hs : Sml p) (h : fuelOk p f = true) : ∃ n : Nat, f = n ∧ n ≤ 150 ∧ ShapeP p ∧ MeantOk p n (meantW p n) := by
  obtain ⟨hpo, n, rfl, hn⟩ := fuelOk_of h
  have hP := (ValP.of hs hpo).sh
  exact ⟨n, rfl, hn, hP, meantOk hP hn⟩
theorem outG_len (hs : Sml p) : (outG p f).length ≤ 1000 := by
  unfold outG
  split
  · rename_i h
    obtain ⟨n, rfl, hn, _, hm⟩ := fuel_run hs h
    have := hm.ok.nout
    simp only [Int.toNat_natCast]
    omega
  · simp
theorem trcG_len (hs : Sml p) : (trcG p f).length ≤ 1000 := by
  unfold trcG
  split
  · rename_i h
    obtain ⟨n, rfl, hn, _, hm⟩ := fuel_run hs h
    have := hm.ok.ntr
    simp only [Int.toNat_natCast]
    omega
  · simp
theorem resG_len (hs : Sml p) : (resG p f).out.length ≤ 1000 ∧ (resG p f).gl.length ≤ 8 := by
  unfold resG
  split
  · rename_i h
    obtain ⟨n, rfl, hn, _, hm⟩ := fuel_run hs h
    have h1 := hm.ok.nout
    have h2 := hm.ok.glob.1
    simp only [Int.toNat_natCast, resW, shownS, List.length_map]
    omega
  · simp
end
end Go.Hm
end

section
namespace Go.Hm
open Go
structure ProgFacts (P : Program) : Prop where
  laid : laidOutB P = true
  maps : mapsRowed P = true
  stops : (P.stops == []) = true
  knobs : (P.stopKnobs == []) = true
  keys : P.plainKeys = true
  heard : P.stopsHeard = true
  may : P.mayEnter = true
  lifts : P.liftsFinal = false
  make : (P.make == some .cut) = true
theorem joined_of {P : Program} {f : FuncId} {fn : Func} {s : ChangeSpec} {c : OpenClaim} (hp : ProgFacts P)
    (h1 : c.wf (OpenSpec.ofChange s) = true) (h2 : fn.params.all (P.readableRec ·) = true) (h3 : namedTie P c.named s.vars = true) (h4 : (c.stops == []) = true) (h5 : (c.knobs == []) = true)
    (h6 : (c.inPlace == P.inPlace f) = true) (h7 : (c.unfollowed == P.unfollowed f) = true) (h8 : (c.recurses == P.recurses f) = true) (h9 : (c.named == P.varsNamed f) = true)
    (h10 : (c.maps == (fn.params.toList ++ s.plain.varTypes P).any (P.mapsRec ·)) = true) (h11 : (c.ifaces == (fn.params.toList ++ s.plain.varTypes P).any (P.ifacesRec ·)) = true) (h12 : (c.mapsOut == P.mapsAmong fn.resultTypes.toList) = true)
    (h13 : (c.loops == (fn.params.toList ++ s.plain.varTypes P).any (P.loopsFrom ·)) = true) (h14 : (c.wideKeys == (fn.params.toList ++ s.plain.varTypes P ++ fn.resultTypes.toList).any (P.wideKeysFrom ·)) = true)
    (h15 : s.vars.all (P.varReadable ·) = true) (h16 : fn.resultTypes.all (fun t => P.readableRec t && decide (t < P.types.size)) = true) (h17 : (c.ifacesOut == fn.resultTypes.toList.any (P.ifacesRec ·)) = true) (h18 : (c.loopsOut == fn.resultTypes.toList.any (P.loopsFrom ·)) = true)
    (h19 : c.plainKeys = true) (h20 : c.shortTexts.isNone = true) (h21 : c.lifted = false) (h22 : c.make = .cut)
    (h23 : (c.kinds == (if c.domain.isEmpty then [] else fn.params.toList.map fun t => match P.underlying t with | some (.int k) => some k | _ => none)) = true) (h24 : (c.pinned == c.pinnedBy) = true)
    (h25 : (c.veiled == (fn.params.toList ++ s.plain.varTypes P ++ fn.resultTypes.toList).any (P.veiledRec ·)) = true) (h26 : c.veiledFits P fn.params.toList (fn.params.toList ++ s.plain.varTypes P ++ fn.resultTypes.toList) = true) : joinedFacts P f fn s c = true := by
  have e1 : (c.plainKeys == P.plainKeys) = true := by rw [h19, hp.keys]; rfl
  have e2 : (c.lifted == P.liftsFinal) = true := by rw [h21, hp.lifts]; rfl
  have e3 : (P.make == some c.make) = true := by rw [h22]; exact hp.make
  unfold joinedFacts
  simp only [hp.laid, hp.maps, hp.stops, hp.knobs, hp.heard, hp.may, h1, h2, h3, h4, h5, h6, h7, h8, h9, h10, h11, h12, h13, h14, h15, h16, h17, h18, h20, h24, h25, h26, e1, e2, e3, Bool.and_true, Bool.true_and]
  exact h23
end Go.Hm
end

section
namespace Go.Hm
open Go Go.RowKit
section
variable {p : Prg} {f g n : Nat}
theorem run_lock (h : f ≤ g) (hg : g ≤ 150) : LockW (g - f) (meantW p f) (meantW p g) := by
  have := meantW_lock (p := p) (f := f) (k := g - f) (by omega)
  rwa [show f + (g - f) = g by omega] at this
structure More (k : Nat) (w w' : Wld) : Prop where
  funs : w.funs.length ≤ w'.funs.length
  cls : w.classes.length ≤ w'.classes.length
  out : w.out <+: w'.out
  tr : w.trace <+: w'.trace
  same : w.en ≠ 1 → w' = addF k w
  none : w.en = 1 → w.left = 0
theorem run_more (h : f ≤ g) (hg : g ≤ 150) : More (g - f) (meantW p f) (meantW p g) := by
  rcases run_lock (p := p) h hg with ⟨h1, h2⟩ | h1
  · refine ⟨?_, ?_, ?_, ?_, fun _ => h2, fun e => absurd e h1⟩ <;> rw [h2]
    · exact Nat.le_refl _
    · exact Nat.le_refl _
    · exact List.prefix_refl _
    · exact List.prefix_refl _
  · exact ⟨h1.pre.funs.length_le, h1.pre.cls.length_le, h1.pre.out, h1.pre.tr, fun e => absurd h1.en e, fun _ => h1.left⟩
theorem pre_take {α : Type} {l m : List α} (h : l <+: m) : m.take l.length = l := by
  obtain ⟨t, rfl⟩ := h
  simp
theorem run_just (hn : (meantW p 150).left ≤ 150) (ht : ∀ f ≤ 150, (meantW p f).trace.length + (meantW p f).left = f) (he : (meantW p 150).en ≠ 1) :
    (meantW p (150 - (meantW p 150).left)).en = (meantW p 150).en ∧ (meantW p (150 - (meantW p 150).left)).left = 0 := by
  rcases run_lock (p := p) (f := 150 - (meantW p 150).left) (g := 150) (by omega) (by omega) with ⟨h1, h2⟩ | h1
  · have e1 := congrArg Wld.en h2
    have e2 := congrArg Wld.left h2
    simp only [addF] at e1 e2
    exact ⟨e1.symm, by omega⟩
  · by_cases h0 : (meantW p 150).left = 0
    · have := h1.en
      rw [h0] at this
      exact absurd this he
    · have h3 := h1.more (by omega)
      have h4 := ht 150 (by omega)
      have h5 := ht (150 - (meantW p 150).left) (by omega)
      have := h1.left
      omega
theorem out_one {w w' : Wld} (hw : MeantOk p f w) (hw' : MeantOk p (f + 1) w') (h : More 1 w w') : w'.out.length ≤ w.out.length + 1 := by
  by_cases he : w.en = 1
  · have h0 := h.none he
    have l1 := hw.led.out
    have l2 := hw'.led.out
    simp only [startW, List.length_nil, cntK, List.countP_nil] at l1 l2
    obtain ⟨t, ht⟩ := h.tr
    have e1 := hw.tr
    have e2 := hw'.tr
    have h3 : List.countP (fun t => stpK p t == 7) w'.trace ≤ List.countP (fun t => stpK p t == 7) w.trace + 1 := by
      rw [← ht, List.countP_append]
      have h4 : t.length ≤ 1 := by
        rw [← ht, List.length_append] at e2
        omega
      have := List.countP_le_length (p := fun t => stpK p t == 7) (l := t)
      omega
    rw [he] at l1
    omega
  · rw [h.same he]
    simp [addF]
theorem stp_in {p : Prg} {t : Nat × Nat} (h : (stpAt p t).isSome = true) : ∃ k s, p[t.1]? = some k ∧ k.body[t.2]? = some s ∧ stpK p t = s.kind := by
  unfold stpAt at h
  cases hk : p[t.1]? with
  | none => simp [hk] at h
  | some k =>
    rw [hk] at h
    cases hs : k.body[t.2]? with
    | none => simp [hs] at h
    | some s => exact ⟨k, s, rfl, hs, by simp [stpK, stpAt, hk, hs]⟩
theorem MeantOk.stp {w : Wld} (h : MeantOk p f w) {t : Nat × Nat} (ht : t ∈ w.trace) : ∃ k s, p[t.1]? = some k ∧ k.body[t.2]? = some s ∧ stpK p t = s.kind := by
  rcases h.led.tr t ht with e | e
  · simp [startW] at e
  · exact stp_in e
theorem cntK_take {l : List (Nat × Nat)} {d : Int} {i : Nat} {t : Nat × Nat} (h : l[i]? = some t) : cntK p d (l.take (i + 1)) = cntK p d (l.take i) + if stpK p t = d then 1 else 0 := by
  rw [List.take_add_one, h, Option.toList_some, cntK_app, cntK_one]
theorem cntK_le {l : List (Nat × Nat)} {d : Int} : cntK p d l ≤ l.length := List.countP_le_length
theorem MeantOk.counts {w : Wld} (h : MeantOk p f w) : w.funs.length = cntK p 3 w.trace ∧ w.classes.length ≤ cntK p 4 w.trace ∧ (w.out.length = cntK p 7 w.trace ∨ (w.out.length + 1 = cntK p 7 w.trace ∧ 2 ≤ w.en ∧ w.en ≤ 4)) := by
  have h1 := h.led.fns
  have h2 := h.led.cls
  have h3 := h.led.out
  simp only [startW, List.length_nil, cntK, List.countP_nil] at h1 h2 h3 ⊢
  omega
theorem MeantOk.glob {w : Wld} (h : MeantOk p f w) {x : Nat} (hx : x < 8) (hb : ¬ bndG p x) : (shownS w.globals)[x]? = some (-9) := by
  have hl := h.ok.glob.1
  obtain ⟨s, hs⟩ : ∃ s, w.globals[x]? = some s := ⟨_, List.getElem?_eq_getElem (by omega)⟩
  cases s with
  | none => simp [shownS, hs]
  | some v =>
    rcases h.led.glob x v hs with ⟨u, e⟩ | e
    · simp [startW, List.getElem?_replicate, hx] at e
    · exact absurd e hb
end
theorem bw_listP {hp : Nm → Option AO} {n : Nm} {z len : Nat} {rows rows' : List (List AV)} (hn : hp n = some (.row z rows)) (hl : len ≤ rows.length) (ht : rows.take len = rows') (hz : ∀ r ∈ rows', r.length = z) : Bw hp noD (.hs n z 0 len) (.sl z rows') := by
  refine .hs n z 0 len rows rows' rfl hn (by omega) (by rw [← ht, List.length_take]; omega) hz fun i r r' hr hr' j a a' ha ha' => ?_
  rw [Nat.zero_add] at hr
  rw [← ht, List.getElem?_take] at hr'
  split at hr'
  · rw [hr] at hr'
    obtain rfl := Option.some.inj hr'
    rw [ha] at ha'
    obtain rfl := Option.some.inj ha'
    exact .refl _
  · cases hr'
theorem bw_ordsP {hp : Nm → Option AO} {n : Nm} {len : Nat} {l m : List (Int × Int)} (hn : hp n = some (.row 2 (orows l))) (hl : len ≤ l.length) (ht : l.take len = m) : Bw hp noD (.hs n 2 0 len) (osl m) :=
  bw_listP hn (by simpa using hl) (by rw [orows_take, ht]) orows_uni
end Go.Hm
end
