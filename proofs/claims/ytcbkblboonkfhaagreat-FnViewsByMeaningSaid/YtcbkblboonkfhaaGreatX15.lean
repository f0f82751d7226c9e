/-
  Own texts, joined by mkclaim.py: Hm79, Hm80, Hm81, Hm82, Hm83, Hm84, Hm85, Hm86, Hm87, Hm88, Hm89, Hm94, Hm95, Hm96.
-/
import Derived.Test.YtcbkblboonkfhaaGreatX14
import Derived.Test.YtcbkblboonkfhaaGreatX12
import Derived.Test.YtcbkblboonkfhaaGreatX11
import Derived.Stop.Joined
set_option linter.unusedSimpArgs false
set_option linter.unusedVariables false
set_option maxRecDepth 100000
set_option maxHeartbeats 4000000

section
namespace Go.Hm
open Go Go.RowKit
section
variable {n : Nm} {len i j : Nat} {f : Nm → Option Nm} {q : Int}
@[simp] theorem sRows_fix (h : ∀ j, f (.c n j 0) = some (.c n j 0)) : (sRows n len i).map (fun r => r.map (AV.tr f)) = sRows n len i := sRows_tr fun j _ => h j
@[simp] theorem outP_fix (h : ∀ j, f (.c n j 0) = some (.c n j 0)) : (outP n q).tr f = outP n q := outP_tr fun _ => h _
end
@[simp] theorem slc_hs {P : Program} {T : TypeId} {hp : Nm → Option AO} {n : Nm} {z q len : Nat} {lo hi : Option Int} : slcAV P T hp (.hs n z q len) lo hi = match tel P T with
    | some e => if z = tsz P e ∧ 0 ≤ lo.getD 0 ∧ lo.getD 0 ≤ hi.getD len ∧ (hi.getD len ≤ len ∨ q + (hi.getD len).toNat ≤ rowsIn hp n z) then some (.hs n z (q + (lo.getD 0).toNat) ((hi.getD len).toNat - (lo.getD 0).toNat)) else none
    | none => none := rfl
def fM (k : Nat) : Bool := k == 1 || k == 7 || k == 8
def DM : Nm → Bool := Du fM
def DM2 (n : Nm) : Bool := DM n || Nm.under (.u 2 0 0) n
section
variable {n : Nm} {k i j d : Nat}
@[simp] theorem DM_s : DM (.s d) = false := rfl
@[simp] theorem DM_u : DM (.u k i j) = fM k := rfl
@[simp] theorem DM_c : DM (.c n i j) = DM n := rfl
@[simp] theorem fM_1 : fM 1 = true := rfl
@[simp] theorem fM_2 : fM 2 = false := rfl
@[simp] theorem fM_7 : fM 7 = true := rfl
@[simp] theorem fM_8 : fM 8 = true := rfl
@[simp] theorem DM2_eq : DM2 n = (DM n || Nm.under (.u 2 0 0) n) := rfl
theorem DM_root {n : Nm} (h : DM n = true) : n.sroot = false := Du_root h
theorem DM2_root {n : Nm} (h : DM2 n = true) : n.sroot = false := by
  simp only [DM2, Bool.or_eq_true] at h
  rcases h with h | h
  · exact DM_root h
  · exact under_usroot rfl h
end
section
variable {l m : List Nat} {i : Nat} {f : Nm → Option Nm}
@[simp] theorem erows_len : (erows l).length = l.length := by simp [erows]
theorem erows_app1 : erows l ++ [[ptE i]] = erows (l ++ [i]) := by simp [erows]
@[simp] theorem erows_take {n : Nat} : (erows l).take n = erows (l.take n) := by simp [erows]
@[simp] theorem erows_fix (h : ∀ i, f (En i) = some (En i)) : (erows l).map (fun r => r.map (AV.tr f)) = erows l := by
  simp only [erows, List.map_map]
  apply List.map_congr_left
  intro j _
  simp [ptE, h j]
end
theorem erows_lt {l : List Nat} {f : Nm → Option Nm} (h : ∀ i ∈ l, f (En i) = some (En i)) : (erows l).map (fun r => r.map (AV.tr f)) = erows l := by
  simp only [erows, List.map_map]
  apply List.map_congr_left
  intro j hj
  simp [ptE, h j hj]
def cloC (F : Nat) (p : Prg) (k : Nat) (g : Nat × Nat) : List AV := [iv (parN p g.1), .fn (.func F) [] [.pt (.u 8 k 0) 0, .pt (.u 8 k 1) 0, .pt (.u 8 k 2) 0, .pt (.u 8 k 3) 0]]
def cloRows (F : Nat) (p : Prg) (gs : List (Nat × Nat)) : List (List AV) := gs.mapIdx fun k g => cloC F p k g
def cmpRows (n : Nm) (cs : List (List Slt)) : List (List AV) := cs.mapIdx fun k _ => [.mp (.c n (k + 1) 9)]
section
variable {F : Nat} {p : Prg} {gs : List (Nat × Nat)} {g : Nat × Nat} {cs : List (List Slt)} {c : List Slt} {n m : Nm} {i : Nat} {f : Nm → Option Nm}
@[simp] theorem cloRows_len : (cloRows F p gs).length = gs.length := by simp [cloRows]
@[simp] theorem cloRows_get : (cloRows F p gs)[i]? = (gs[i]?).map fun g => cloC F p i g := by simp [cloRows]
@[simp] theorem cloRows_getE {h : i < (cloRows F p gs).length} : (cloRows F p gs)[i] = cloC F p i (gs[i]'(by simpa using h)) := by simp [cloRows]
theorem cloRows_app : cloRows F p gs ++ [cloC F p gs.length g] = cloRows F p (gs ++ [g]) := by simp [cloRows]
@[simp] theorem cloRows_fix (h : ∀ k j, f (.u 8 k j) = some (.u 8 k j)) : (cloRows F p gs).map (fun r => r.map (AV.tr f)) = cloRows F p gs := by
  apply List.ext_getElem?
  intro j
  rw [List.getElem?_map, cloRows_get]
  cases hj : gs[j]? with
  | none => rfl
  | some a => simp [cloC, trL, h]
@[simp] theorem cmpRows_len : (cmpRows n cs).length = cs.length := by simp [cmpRows]
@[simp] theorem cmpRows_get : (cmpRows n cs)[i]? = (cs[i]?).map fun _ => [AV.mp (.c n (i + 1) 9)] := by simp [cmpRows]
@[simp] theorem cmpRows_getE {h : i < (cmpRows n cs).length} : (cmpRows n cs)[i] = [AV.mp (.c n (i + 1) 9)] := by simp [cmpRows]
theorem cmpRows_app : cmpRows n cs ++ [[.mp (.c n (cs.length + 1) 9)]] = cmpRows n (cs ++ [c]) := by simp [cmpRows]
theorem cmpRows_map {g : List AV → List AV} (h : ∀ (i : Nat) c, cs[i]? = some c → g [.mp (.c n (i + 1) 9)] = [.mp (.c m (i + 1) 9)]) : (cmpRows n cs).map g = cmpRows m cs := by
  apply List.ext_getElem?
  intro j
  rw [List.getElem?_map, cmpRows_get, cmpRows_get]
  cases hj : cs[j]? with
  | none => rfl
  | some a => simp only [Option.map_some]; rw [h j a hj]
@[simp] theorem cmpRows_fix (h : ∀ i, f (.c n (i + 1) 9) = some (.c n (i + 1) 9)) : (cmpRows n cs).map (fun r => r.map (AV.tr f)) = cmpRows n cs := cmpRows_map fun i c _ => by simp [h i]
end
def mRow (p : Prg) (w : Wld) : List AV := [ksl p, .hs (.c Mn 0 1) 1 0 p.length, iv w.left, iv w.en, .hs (.c Mn 0 4) 1 0 w.out.length, .hs (.c Mn 0 5) 2 0 w.trace.length, ptE 0, .hs (.c Mn 0 7) 1 0 w.stack.length, .hs (.c Mn 0 8) 2 0 w.funs.length, .hs (.c Mn 0 9) 1 0 w.classes.length]
def envRow (i : Nat) (a : Act) : List AV := [iv a.blk, .mp (.c (En i) 0 1), if i = 0 then nilP else ptE a.up]
@[simp] theorem envRow_len {i : Nat} {a : Act} : (envRow i a).length = 3 := rfl
@[simp] theorem envRow_fix {i : Nat} {a : Act} {f : Nm → Option Nm} (h1 : f (.c (En i) 0 1) = some (.c (En i) 0 1)) (h2 : ∀ j, f (En j) = some (En j)) : (envRow i a).map (AV.tr f) = envRow i a := by
  by_cases e : i = 0
  · subst e; simp [envRow, h1]
  · simp [envRow, h1, e, h2]
def Wld.nms (w : Wld) (i : Nat) : List Slt := if i = 0 then w.globals else match w.acts[i]? with | some a => a.vars | none => []
structure OwnM (hp : Nm → Option AO) (F : Nat) (p : Prg) (w : Wld) : Prop where
  top : hp Mn = some (.row 10 [mRow p w])
  scs : OwnS hp (.c Mn 0 1) p p.length
  out : hp (.c Mn 0 4) = some (.row 1 (irows w.out))
  trc : hp (.c Mn 0 5) = some (.row 2 (nrows w.trace))
  run : ∃ l, (∀ i ∈ l, i < w.acts.length) ∧ hp (.c Mn 0 7) = some (.row 1 (erows (w.stack ++ l)))
  funs : hp (.c Mn 0 8) = some (.row 2 (cloRows F p w.funs))
  bx : ∀ (k : Nat) g, w.funs[k]? = some g → hp (.u 8 k 0) = some (.row 1 [[iv g.1]]) ∧ hp (.u 8 k 1) = some (.row 1 [[ptE g.2]]) ∧ hp (.u 8 k 2) = some (.row 1 [[isl (match p[g.1]? with | some b => b.params | none => [])]]) ∧ hp (.u 8 k 3) = some (.row 1 [[.pt Mn 0]])
  clss : hp (.c Mn 0 9) = some (.row 1 (cmpRows Mn w.classes))
  cls : ∀ (k : Nat) c, w.classes[k]? = some c → ∃ ms, hp (.c Mn (k + 1) 9) = some (.map (mrows ms)) ∧ MapOk ms c
  env : ∀ (i : Nat) a, w.acts[i]? = some a → hp (En i) = some (.row 3 [envRow i a])
  nms : ∀ (i : Nat), i < w.acts.length → ∃ ms, hp (.c (En i) 0 1) = some (.map (mrows ms)) ∧ MapOk ms (w.nms i)
  only : ∀ k i j, fM k = true → hp (.u k i j) ≠ none → (k = 1 ∧ i = 0 ∧ j = 0) ∨ (k = 7 ∧ i < w.acts.length ∧ j = 0) ∨ (k = 8 ∧ i < w.funs.length ∧ j < 4)
def hIdx : Option Nat → Nat
  | none => 0
  | some i => i
theorem nms_loc {p : Prg} {w : Wld} {a : Nat} {x : Int} (hh : Heads p) (hw : WOk p w) (ha : a < w.acts.length) : w.nms (hIdx (w.loc p a x)) = w.vars (w.loc p a x) ∧ hIdx (w.loc p a x) < w.acts.length := by
  obtain ⟨a0, h0, hb0⟩ := hw.a0
  have hl0 := (gS h0).1
  rcases loc_spec (x := x) hh hw ha with ⟨h1, h2⟩ | ⟨o, i, c, ho, h1, h2, h3, h4, h5, _⟩
  · rw [h2]
    exact ⟨by simp [Wld.nms, hIdx, Wld.vars], hl0⟩
  · rw [h2]
    have hi : i ≠ 0 := by
      rintro rfl
      rw [h0] at h4
      obtain rfl := Option.some.inj h4
      omega
    exact ⟨by simp [Wld.nms, hIdx, Wld.vars, hi, h4], (gS h4).1⟩
theorem OwnM.hp' {hp hp' : Nm → Option AO} {F : Nat} {p : Prg} {w : Wld} (h : OwnM hp F p w) {f : Nm → Option Nm} (hf : ∀ m, DM m = true → f m = some m) (hh : ∀ m, DM m = true → hp' m = (hp m).map (AO.tr f)) : OwnM hp' F p w := by
  have hE : ∀ i, f (En i) = some (En i) := fun i => hf _ rfl
  have h8 : ∀ k j, f (.u 8 k j) = some (.u 8 k j) := fun k j => hf _ rfl
  have hc : ∀ j, f (.c Mn 0 j) = some (.c Mn 0 j) := fun j => hf _ rfl
  refine ⟨?_, ⟨?_, fun j k hj hk => ?_⟩, ?_, ?_, h.run.imp fun l hl => ⟨hl.1, ?_⟩, ?_, fun k g hg => ?_, ?_, fun k c hc' => ?_, fun i a ha => ?_, fun i hi => ?_, fun k i j hk hn => ?_⟩
  · rw [hh _ rfl, h.top]; simp [mRow, AO.tr, hc, hE]
  · rw [hh _ rfl, h.scs.top]
    simp only [Option.map_some, AO.tr]
    rw [sRows_fix fun j => hf _ rfl]
  · rw [hh _ rfl, h.scs.sc j k hj hk]
    simp only [Option.map_some, AO.tr, List.map_cons, List.map_nil, scopeRow_tr]
    rw [outP_fix fun j => hf _ rfl]
  · rw [hh _ rfl, h.out]; simp [AO.tr]
  · rw [hh _ rfl, h.trc]; simp [AO.tr]
  · rw [hh _ rfl, hl.2]
    simp only [Option.map_some, AO.tr]
    rw [erows_fix hE]
  · rw [hh _ rfl, h.funs]
    simp only [Option.map_some, AO.tr]
    rw [cloRows_fix h8]
  · obtain ⟨a1, a2, a3, a4⟩ := h.bx k g hg
    refine ⟨?_, ?_, ?_, ?_⟩
    · rw [hh _ rfl, a1]; simp [AO.tr]
    · rw [hh _ rfl, a2]; simp [AO.tr, hE]
    · rw [hh _ rfl, a3]; simp [AO.tr]
    · rw [hh _ rfl, a4]; simp [AO.tr, hf Mn rfl]
  · rw [hh _ rfl, h.clss]
    simp only [Option.map_some, AO.tr]
    rw [cmpRows_fix fun i => hf _ rfl]
  · obtain ⟨ms, a1, a2⟩ := h.cls k c hc'
    exact ⟨ms, by rw [hh _ rfl, a1]; simp [AO.tr], a2⟩
  · rw [hh _ rfl, h.env i a ha]
    have h1 := hf (.c (En i) 0 1) rfl
    by_cases e : i = 0 <;> simp [AO.tr, envRow, h1, e, hE]
    subst e
    simp [h1]
  · obtain ⟨ms, a1, a2⟩ := h.nms i hi
    exact ⟨ms, by rw [hh _ rfl, a1]; simp [AO.tr], a2⟩
  · refine h.only k i j hk fun e => hn ?_
    rw [hh (.u k i j) hk, e]; rfl
theorem OwnM.fin {hp : Nm → Option AO} {F : Nat} {p : Prg} {w : Wld} {D : Nm → Bool} {sbs : List (Nm × Nm)} (h : OwnM hp F p w) (hD : ∀ m, D m = true → m.sroot = false := by first | exact fun _ => DM_root | exact fun _ => DM2_root) (hW : ∀ m, DM m = true → D m = true := by intro m hm; first | exact hm | simp [hm]) (hs : ∀ q ∈ sbs, q.1.sroot = true := by simp [Nm.sroot]) : OwnM (finH D sbs hp) F p w :=
  h.hp' (f := finf D sbs) (fun m hm => finf_D hD (hW m hm) hs) (fun m hm => by simp only [finH, hW m hm, if_true])
theorem OwnM.re {hp hp' : Nm → Option AO} {F : Nat} {p : Prg} {w : Wld} (om : OwnM hp F p w)
    (h0 : hp' Mn = some (.row 10 [mRow p w]) := by simp [om.top, mRow])
    (h1 : hp' (.c Mn 0 1) = some (.row 1 (sRows (.c Mn 0 1) p.length p.length)) := by simp [om.scs.top])
    (h2 : ∀ (j : Nat) k, j < p.length → p[j]? = some k → hp' (.c (.c Mn 0 1) j 0) = some (.row 43 [scopeRow j k (outP (.c Mn 0 1) k.parent) k.params]) := by intro j k hj hk; simp [om.scs.sc j k hj hk])
    (h3 : hp' (.c Mn 0 4) = some (.row 1 (irows w.out)) := by simp [om.out])
    (h4 : hp' (.c Mn 0 5) = some (.row 2 (nrows w.trace)) := by simp [om.trc])
    (h5 : ∀ l, hp (.c Mn 0 7) = some (.row 1 (erows (w.stack ++ l))) → hp' (.c Mn 0 7) = some (.row 1 (erows (w.stack ++ l))) := by intro l hl; simp [hl])
    (h6 : hp' (.c Mn 0 8) = some (.row 2 (cloRows F p w.funs)) := by simp [om.funs])
    (h7 : ∀ (k : Nat) g, w.funs[k]? = some g → hp' (.u 8 k 0) = some (.row 1 [[iv g.1]]) ∧ hp' (.u 8 k 1) = some (.row 1 [[ptE g.2]]) ∧ hp' (.u 8 k 2) = some (.row 1 [[isl (match p[g.1]? with | some b => b.params | none => [])]]) ∧ hp' (.u 8 k 3) = some (.row 1 [[.pt Mn 0]]) := by intro k g hg; simp [om.bx k g hg])
    (h8 : hp' (.c Mn 0 9) = some (.row 1 (cmpRows Mn w.classes)) := by simp [om.clss])
    (h9 : ∀ (k : Nat) ms, hp (.c Mn (k + 1) 9) = some (.map (mrows ms)) → hp' (.c Mn (k + 1) 9) = some (.map (mrows ms)) := by intro k ms hm; simp [hm])
    (hA : ∀ (i : Nat) a, w.acts[i]? = some a → hp' (En i) = some (.row 3 [envRow i a]) := by intro i a ha; simp [om.env i a ha])
    (hB : ∀ (i : Nat) ms, i < w.acts.length → hp (.c (En i) 0 1) = some (.map (mrows ms)) → hp' (.c (En i) 0 1) = some (.map (mrows ms)) := by intro i ms hi hm; simp [hm])
    (hC : ∀ k i j, fM k = true → ¬ (k = 1 ∧ i = 0 ∧ j = 0) → hp' (.u k i j) ≠ none → hp (.u k i j) ≠ none := by intro k i j hk e hn; simpa [hk, e] using hn) : OwnM hp' F p w :=
  ⟨h0, ⟨h1, h2⟩, h3, h4, om.run.imp fun l hl => ⟨hl.1, h5 l hl.2⟩, h6, h7, h8, fun k c hc => (om.cls k c hc).imp fun ms hm => ⟨h9 k ms hm.1, hm.2⟩, hA, fun i hi => (om.nms i hi).imp fun ms hm => ⟨hB i ms hi hm.1, hm.2⟩, fun k i j hk hn => if e : k = 1 ∧ i = 0 ∧ j = 0 then .inl e else om.only k i j hk (hC k i j hk e hn)⟩
theorem OwnM.ext {H hp : Nm → Option AO} {F : Nat} {p : Prg} {w0 w : Wld} (h0 : OwnM H F p w0) (h : OwnM hp F p w) (ha : w0.acts.length ≤ w.acts.length) (hf : w0.funs.length ≤ w.funs.length) : ∀ k i j, (H (.u k i j)).isSome = true → DM (.u k i j) = false ∨ (dsub DM hp) (.u k i j) ≠ none := by
  intro k i j hs
  cases hD : fM k with
  | false => exact .inl hD
  | true =>
    right
    have hd : DM (.u k i j) = true := hD
    rw [dsub_eq, if_pos hd]
    rcases h0.only k i j hD (by intro e; rw [e] at hs; cases hs) with ⟨rfl, rfl, rfl⟩ | ⟨rfl, hi, rfl⟩ | ⟨rfl, hi, hj⟩
    · rw [h.top]; simp
    · obtain ⟨a, ha'⟩ : ∃ a, w.acts[i]? = some a := ⟨_, gE (by omega)⟩
      rw [h.env i a ha']; simp
    · obtain ⟨g, hg⟩ : ∃ g, w.funs[i]? = some g := ⟨_, gE (by omega)⟩
      obtain ⟨a1, a2, a3, a4⟩ := h.bx i g hg
      have : j = 0 ∨ j = 1 ∨ j = 2 ∨ j = 3 := by omega
      rcases this with rfl | rfl | rfl | rfl
      · rw [a1]; simp
      · rw [a2]; simp
      · rw [a3]; simp
      · rw [a4]; simp
theorem OwnM.ext2 {H hp : Nm → Option AO} {F : Nat} {p : Prg} {w0 w : Wld} (h0 : OwnM H F p w0) (h : OwnM hp F p w) (ha : w0.acts.length ≤ w.acts.length) (hf : w0.funs.length ≤ w.funs.length) (h2 : (hp (.u 2 0 0)).isSome = true) : ∀ k i j, (H (.u k i j)).isSome = true → DM2 (.u k i j) = false ∨ (dsub DM2 hp) (.u k i j) ≠ none := by
  intro k i j hs
  by_cases e : Nm.under (.u 2 0 0) (.u k i j) = true
  · right
    have e2 : k = 2 ∧ i = 0 ∧ j = 0 := by
      simp [Nm.under] at e
      exact ⟨e.1, e.2.1, e.2.2⟩
    obtain ⟨rfl, rfl, rfl⟩ := e2
    rw [dsub_eq, if_pos (by simp [Nm.under])]
    exact Option.isSome_iff_ne_none.1 h2
  · simp only [Bool.not_eq_true] at e
    rcases h0.ext h ha hf k i j hs with h1 | h1
    · left; simp only [DM2_eq, h1, e, Bool.or_self]
    · right
      rw [dsub_eq] at h1 ⊢
      split at h1
      · rename_i hd
        rw [if_pos (by simp [hd] : DM2 (.u k i j) = true)]
        exact h1
      · exact absurd rfl h1
section
variable {X : Ctx} {st : St} {K : St → Prop} {E : AV → St → Prop} {d f : Nat} {ty : TypeId} {pos : String} {aft : Array Edge} {g : Option (Nat × Bool)} {args : Array Operand} {Ts : Array TypeId} {az : List AV} {R : Nm → AV → (Nm → Option AO) → Prop}
theorem x_mutM (hext : ∀ k i j, X.ext (.u k i j) = true → DM (.u k i j) = false ∨ (dsub DM st.hp) (.u k i j) ≠ none) (hd : d < X.n := by first | (simp; done) | fail) (ha : args.toList.map (ev st) = az := by simp [fx]; first | done | rfl)
    (hF : FnE X.P X.gl f DM az (dsub DM st.hp) R noE) (h : ∀ y H', R (.s d) y H' → K ((st.call d DM (dsub DM st.hp) H').put (some d) y)) :
    SemOp X ⟨some d, .call ⟨.value (.func f), args, Ts⟩, ty, pos, aft, g⟩ K E st := x_mutD DM (fun _ => DM_root) hext hd ha hF h
end
@[simp] theorem lok_mp {P : Program} {T : TypeId} {hp : Nm → Option AO} {m : Nm} {k' : IntKind} {n : Int} {ok : Bool} : lokAV P T hp (.mp m) (.sc (.int k' n)) ok = match tmapI P T with
    | some q => if k' = q.1 then (match hp m with
      | some (.map es) => if mkeys q.1 es then (match mget q.1 n es with
        | some y => some (if ok then .tup [y, .sc (.bool true)] else y)
        | none => (zflat P q.2).map (fun z => if ok then .tup [z, .sc (.bool false)] else z)) else none
      | _ => none) else none
    | none => none := by
  unfold lokAV
  cases tmapI P T with
  | none => rfl
  | some q => rfl
theorem OwnM.sub {hp : Nm → Option AO} {F : Nat} {p : Prg} {w : Wld} (h : OwnM hp F p w) {D : Nm → Bool} (hD : ∀ m, DM m = true → D m = true := by intro m hm; first | exact hm | simp [hm]) : OwnM (dsub D hp) F p w := by
  refine h.hp' (f := some) (fun _ _ => rfl) (fun m hm => ?_)
  rw [dsub_eq, if_pos (hD m hm)]
  cases hp m with
  | none => rfl
  | some o => simp [AO.tr_some]
theorem MapOk.get' {ms : NMap} {w : Wld} {l : Option Nat} {x : Int} (h : MapOk ms (w.vars l)) (hx : 0 ≤ x ∧ x ≤ 7) : lk x ms = w.get l x := by
  rw [h.at hx]
  unfold Wld.get
  cases (w.vars l)[x.toNat]? <;> rfl
theorem ownM_set {hp hp' : Nm → Option AO} {F : Nat} {p : Prg} {w : Wld} {a x : Nat} {s : Slt} {l : Option Nat} (hh : Heads p) (hw : WOk p w) (ha : a < w.acts.length) (hx : x < 8) (hl : w.loc p a x = l) (hnm : w.nms (hIdx (w.loc p a x)) = w.vars (w.loc p a x)) (h : OwnM hp F p w) {ms : NMap} (hms : MapOk ms ((w.vars l).set (x : Int).toNat s)) (hq : ∀ m, DM m = true → hp' m = if m = .c (En (hIdx l)) 0 1 then some (.map (mrows ms)) else hp m) : OwnM hp' F p (w.set l x s) := by
  obtain ⟨e1, e2, e3, e4, e5, e6, e7⟩ := set_same (w := w) (l := l) (x := (x : Int)) (s := s)
  have hlen : (w.set l x s).acts.length = w.acts.length := set_len
  have hnms : ∀ i, (w.set l x s).nms i = if i = hIdx l then (w.vars l).set (x : Int).toNat s else w.nms i := by
    intro i
    cases l with
    | none =>
      by_cases e : i = 0
      · simp [Wld.nms, Wld.set, hIdx, e, Wld.vars]
      · simp [Wld.nms, Wld.set, hIdx, e]
    | some j =>
      have hj0 : j ≠ 0 := by
        rintro rfl
        rcases loc_spec (x := (x : Int)) hh hw ha with ⟨_, h2⟩ | ⟨o, i, c, ho, _, h2, _, h4, h5, _⟩
        · rw [hl] at h2; cases h2
        · rw [hl] at h2
          obtain rfl := Option.some.inj h2
          obtain ⟨a0, h0, hb0⟩ := hw.a0
          rw [h0] at h4
          obtain rfl := Option.some.inj h4
          omega
      by_cases e : i = 0
      · subst e
        have : ¬ 0 = j := fun e => hj0 e.symm
        simp [Wld.nms, Wld.set, hIdx, this]
      · by_cases e2 : i = j
        · subst e2
          simp only [Wld.nms, Wld.set, hIdx, e, if_false, if_true, List.getElem?_modify, Wld.vars]
          cases w.acts[i]? with
          | none => simp
          | some b => simp
        · have e3 : ¬ j = i := fun e => e2 e.symm
          simp only [Wld.nms, Wld.set, hIdx, e, e2, if_false, List.getElem?_modify, e3]
          cases w.acts[i]? <;> simp
  have hget : ∀ m, DM m = true → m ≠ .c (En (hIdx l)) 0 1 → hp' m = hp m := fun m hm hne => by rw [hq m hm, if_neg hne]
  refine ⟨?_, ⟨?_, fun j k hj hk => ?_⟩, ?_, ?_, h.run.imp fun l hl => ⟨by rw [hlen]; exact hl.1, ?_⟩, ?_, fun k g hg => ?_, ?_, fun k c hc => ?_, fun i b hb => ?_, fun i hi => ?_, fun k i j hk hn => ?_⟩
  · rw [hget _ rfl (by simp), h.top]; simp [mRow, e1, e2, e3, e4, e5, e6, e7]
  · rw [hget _ rfl (by simp), h.scs.top]
  · rw [hget _ rfl (by simp), h.scs.sc j k hj hk]
  · rw [hget _ rfl (by simp), h.out, e3]
  · rw [hget _ rfl (by simp), h.trc, e4]
  · rw [hget _ rfl (by simp), hl.2, e6]
  · rw [hget _ rfl (by simp), h.funs, e1]
  · rw [e1] at hg
    obtain ⟨a1, a2, a3, a4⟩ := h.bx k g hg
    exact ⟨by rw [hget _ rfl (by simp), a1], by rw [hget _ rfl (by simp), a2], by rw [hget _ rfl (by simp), a3], by rw [hget _ rfl (by simp), a4]⟩
  · rw [hget _ rfl (by simp), h.clss, e2]
  · rw [e2] at hc
    obtain ⟨ms, a1, a2⟩ := h.cls k c hc
    exact ⟨ms, by rw [hget _ rfl (by simp), a1], a2⟩
  · obtain ⟨b', hb', f1, f2, _⟩ := set_acts hb
    rw [hget _ rfl (by simp), h.env i b' hb']
    simp [envRow, f1, f2]
  · rw [hlen] at hi
    rw [hnms]
    by_cases e : i = hIdx l
    · subst e
      rw [if_pos rfl]
      exact ⟨ms, by rw [hq _ rfl, if_pos rfl], hms⟩
    · rw [if_neg e]
      obtain ⟨ms', a1, a2⟩ := h.nms i hi
      exact ⟨ms', by rw [hget _ rfl (by simp [e]), a1], a2⟩
  · rw [hget (.u k i j) hk (by simp)] at hn
    rw [hlen, e1]
    exact h.only k i j hk hn
section
variable {X : Ctx} {st : St} {K : St → Prop} {E : AV → St → Prop} {ty : TypeId} {pos : String} {aft : Array Edge} {g : Option (Nat × Bool)}
theorem x_delete {dst : Option Nat} {T e : TypeId} {ts : Array TypeId} {m key : Operand} {k : IntKind} {i : Int} {n : Nm} {es : List (AV × AV)} {st' : St} (hts : ts[0]? = some T := by rfl) (hdn : ∀ t, dst = some t → t < X.n := by first | (intro t h; cases h; done) | (intro t h; obtain rfl := Option.some.inj h; simp; done) | fail) (ht : tmapI X.P T = some (k, e) := by simp [fx]; first | done | rfl | exact ⟨rfl, rfl⟩)
    (hm : ev st m = .mp n := by simp [fx]; first | done | rfl) (hk : ev st key = .sc (.int k i) := by simp [fx]; first | done | rfl) (hn : st.hp n = some (.map es) := by simp [fx]; first | done | rfl) (hks : mkeys k es = true := by simp [fx]; first | done | rfl)
    (hs : (st.setO n (.map (mdel k i es))).put dst (.sc (.tuple #[])) = st' := by simp [fx]; first | done | rfl) (h : K st') : SemOp X ⟨dst, .call { callee := .builtin .delete, args := #[m, key], argTypes := ts }, ty, pos, aft, g⟩ K E st := by
  subst hs
  exact sem_delete rfl hts hdn ht hm hk hn hks h
end
section
variable {P : Program} {C : Nat → Prop} {wd : World} {g0 : Gh} {H : Nm → Option AO} {n : Nat} {gl : Nat → Option (List AV)} {st : St} {K : St → Prop} {E : AV → St → Prop} {d f : Nat} {ty : TypeId} {pos : String} {aft : Array Edge} {g : Option (Nat × Bool)} {c : Operand} {args : Array Operand} {Ts : Array TypeId} {az xs ys : List AV} {R : Nm → AV → (Nm → Option AO) → Prop} {F : Nat} {p : Prg} {w0 w : Wld}
theorem x_callM (h0 : OwnM H F p w0) (hO : OwnM st.hp F p w) (hl : w0.acts.length ≤ w.acts.length) (hf : w0.funs.length ≤ w.funs.length) (hd : d < n := by first | (simp; done) | fail) (ha : args.toList.map (ev st) = az := by simp [fx]; first | done | rfl)
    (hF : OwnM (dsub DM st.hp) F p w → FnE P gl f DM az (dsub DM st.hp) R noE) (h : ∀ y H', R (.s d) y H' → K ((st.call d DM (dsub DM st.hp) H').put (some d) y)) :
    SemOp (ctx0 P C wd g0 H n gl) ⟨some d, .call ⟨.value (.func f), args, Ts⟩, ty, pos, aft, g⟩ K E st := x_mutD DM (fun _ => DM_root) (fun k i j he => h0.ext hO hl hf k i j he) hd ha (hF hO.sub) h
theorem x_callM2 (h0 : OwnM H F p w0) (hO : OwnM st.hp F p w) (h2 : (st.hp (.u 2 0 0)).isSome = true) (hl : w0.acts.length ≤ w.acts.length) (hf : w0.funs.length ≤ w.funs.length) (hd : d < n := by first | (simp; done) | fail) (ha : args.toList.map (ev st) = az := by simp [fx]; first | done | rfl)
    (hF : OwnM (dsub DM2 st.hp) F p w → FnE P gl f DM2 az (dsub DM2 st.hp) R noE) (h : ∀ y H', R (.s d) y H' → K ((st.call d DM2 (dsub DM2 st.hp) H').put (some d) y)) :
    SemOp (ctx0 P C wd g0 H n gl) ⟨some d, .call ⟨.value (.func f), args, Ts⟩, ty, pos, aft, g⟩ K E st := x_mutD DM2 (fun _ => DM2_root) (fun k i j he => h0.ext2 hO hl hf h2 k i j he) hd ha (hF hO.sub) h
theorem x_callMv (h0 : OwnM H F p w0) (hO : OwnM st.hp F p w) (h2 : (st.hp (.u 2 0 0)).isSome = true) (hl : w0.acts.length ≤ w.acts.length) (hf : w0.funs.length ≤ w.funs.length) (hd : d < n := by first | (simp; done) | fail)
    (hv : ev st c = .fn (.func f) xs ys := by simp [fx]; first | done | rfl) (ha : xs ++ args.toList.map (ev st) ++ ys = az := by simp [fx]; first | done | rfl)
    (hF : OwnM (dsub DM2 st.hp) F p w → FnE P gl f DM2 az (dsub DM2 st.hp) R noE) (h : ∀ y H', R (.s d) y H' → K ((st.call d DM2 (dsub DM2 st.hp) H').put (some d) y)) :
    SemOp (ctx0 P C wd g0 H n gl) ⟨some d, .call ⟨.value c, args, Ts⟩, ty, pos, aft, g⟩ K E st := x_mutDv DM2 (fun _ => DM2_root) (fun k i j he => h0.ext2 hO hl hf h2 k i j he) hd hv ha (hF hO.sub) h
end
end Go.Hm
end
section
namespace Go.Hm
open Go Go.RowKit
section
variable {l : List (Nat × Nat)} {c : Int} {i : Nat}
end
def Rsl.av (r : Rsl) : AV := .agg [isl r.out, iv r.en, iv r.left, isl r.gl]
@[simp] theorem Rsl.av_eq {r : Rsl} : r.av = .agg [isl r.out, iv r.en, iv r.left, isl r.gl] := rfl
def Rsl.mark (r : Rsl) (c : Int) : Rsl := ⟨markI r.out.length c, r.en, r.left, markI r.gl.length (c + r.out.length)⟩
section
variable {hp : Nm → Option AO} {n : Nm} {r : Rsl} {c : Int}
theorem OwnR.hcln {H' : Nm → Option AO} (h : OwnR H' n r) : OwnR (Hm.hcln H') n r := ⟨hcln_row h.out (by simp), hcln_row h.gl (by simp)⟩
@[simp] theorem Rsl.mark_en : (r.mark c).en = r.en := rfl
@[simp] theorem Rsl.mark_left : (r.mark c).left = r.left := rfl
@[simp] theorem Rsl.mark_out : (r.mark c).out.length = r.out.length := by simp [Rsl.mark]
@[simp] theorem Rsl.mark_gl : (r.mark c).gl.length = r.gl.length := by simp [Rsl.mark]
end
section
variable {p : Prg} {f : Int}
theorem fuel_run (hs : Sml p) (h : fuelOk p f = true) : ∃ n : Nat, f = n ∧ n ≤ 150 ∧ ShapeP p ∧ MeantOk p n (meantW p n) := by
  obtain ⟨hpo, n, rfl, hn⟩ := fuelOk_of h
  have hP := (ValP.of hs hpo).sh
  exact ⟨n, rfl, hn, hP, meantOk hP hn⟩
theorem resG_len (hs : Sml p) : (resG p f).out.length ≤ 1000 ∧ (resG p f).gl.length ≤ 8 := by
  unfold resG
  split
  · rename_i h
    obtain ⟨n, rfl, hn, _, hm⟩ := fuel_run hs h
    have h1 := hm.ok.nout
    have h2 := hm.ok.glob.1
    simp only [Int.toNat_natCast, resW, shownS, List.length_map]
    omega
  · simp
end
end Go.Hm
end
section
namespace Go.Hm
open Go
structure ProgFacts (P : Program) : Prop where
  laid : laidOutB P = true
  maps : mapsRowed P = true
  stops : (P.stops == []) = true
  knobs : (P.stopKnobs == []) = true
  keys : P.plainKeys = true
  heard : P.stopsHeard = true
  may : P.mayEnter = true
  lifts : P.liftsFinal = false
  make : (P.make == some .cut) = true
theorem joined_of {P : Program} {f : FuncId} {fn : Func} {s : ChangeSpec} {c : OpenClaim} (hp : ProgFacts P)
    (h1 : c.wf (OpenSpec.ofChange s) = true) (h2 : fn.params.all (P.readableRec ·) = true) (h3 : namedTie P c.named s.vars = true) (h4 : (c.stops == []) = true) (h5 : (c.knobs == []) = true)
    (h6 : (c.inPlace == P.inPlace f) = true) (h7 : (c.unfollowed == P.unfollowed f) = true) (h8 : (c.recurses == P.recurses f) = true) (h9 : (c.named == P.varsNamed f) = true)
    (h10 : (c.maps == (fn.params.toList ++ s.plain.varTypes P).any (P.mapsRec ·)) = true) (h11 : (c.ifaces == (fn.params.toList ++ s.plain.varTypes P).any (P.ifacesRec ·)) = true) (h12 : (c.mapsOut == P.mapsAmong fn.resultTypes.toList) = true)
    (h13 : (c.loops == (fn.params.toList ++ s.plain.varTypes P).any (P.loopsFrom ·)) = true) (h14 : (c.wideKeys == (fn.params.toList ++ s.plain.varTypes P ++ fn.resultTypes.toList).any (P.wideKeysFrom ·)) = true)
    (h15 : s.vars.all (P.varReadable ·) = true) (h16 : fn.resultTypes.all (fun t => P.readableRec t && decide (t < P.types.size)) = true) (h17 : (c.ifacesOut == fn.resultTypes.toList.any (P.ifacesRec ·)) = true) (h18 : (c.loopsOut == fn.resultTypes.toList.any (P.loopsFrom ·)) = true)
    (h19 : c.plainKeys = true) (h20 : c.shortTexts.isNone = true) (h21 : c.lifted = false) (h22 : c.make = .cut)
    (h23 : (c.kinds == (if c.domain.isEmpty then [] else fn.params.toList.map fun t => match P.underlying t with | some (.int k) => some k | _ => none)) = true) (h24 : (c.pinned == c.pinnedBy) = true)
    (h25 : (c.veiled == (fn.params.toList ++ s.plain.varTypes P ++ fn.resultTypes.toList).any (P.veiledRec ·)) = true) (h26 : c.veiledFits P fn.params.toList (fn.params.toList ++ s.plain.varTypes P ++ fn.resultTypes.toList) = true) : joinedFacts P f fn s c = true := by
  have e1 : (c.plainKeys == P.plainKeys) = true := by rw [h19, hp.keys]; rfl
  have e2 : (c.lifted == P.liftsFinal) = true := by rw [h21, hp.lifts]; rfl
  have e3 : (P.make == some c.make) = true := by rw [h22]; exact hp.make
  unfold joinedFacts
  simp only [hp.laid, hp.maps, hp.stops, hp.knobs, hp.heard, hp.may, h1, h2, h3, h4, h5, h6, h7, h8, h9, h10, h11, h12, h13, h14, h15, h16, h17, h18, h20, h24, h25, h26, e1, e2, e3, Bool.and_true, Bool.true_and]
  exact h23
end Go.Hm
end
section
namespace Go.Hm
open Go Go.RowKit
section
variable {p : Prg} {f g n : Nat}
structure More (k : Nat) (w w' : Wld) : Prop where
  funs : w.funs.length ≤ w'.funs.length
  cls : w.classes.length ≤ w'.classes.length
  out : w.out <+: w'.out
  tr : w.trace <+: w'.trace
  same : w.en ≠ 1 → w' = addF k w
  none : w.en = 1 → w.left = 0
theorem MeantOk.glob {w : Wld} (h : MeantOk p f w) {x : Nat} (hx : x < 8) (hb : ¬ bndG p x) : (shownS w.globals)[x]? = some (-9) := by
  have hl := h.ok.glob.1
  obtain ⟨s, hs⟩ : ∃ s, w.globals[x]? = some s := ⟨_, gE (by omega)⟩
  cases s with
  | none => simp [shownS, hs]
  | some v =>
    rcases h.led.glob x v hs with ⟨u, e⟩ | e
    · simp [startW, List.getElem?_replicate, hx] at e
    · exact absurd e hb
end
end Go.Hm
end
section
set_option linter.unusedSectionVars false
namespace Go.Hm
open Go Go.RowKit
def stl (t : List (Nat × Nat)) (k : Nat) (w : Wld) : Wld := { w with trace := t, left := k }
section
variable {p : Prg} {k m : Nat} {t : List (Nat × Nat)} {w : Wld} {a b i : Nat} {x : Int} {l : Option Nat} {vs : List Val} {s : Stm} {v : Val}
@[simp] theorem stl_stl {t' : List (Nat × Nat)} {k' : Nat} : stl t k (stl t' k' w) = stl t k w := rfl
@[simp] theorem stl_loc : (stl t k w).loc p a x = w.loc p a x := rfl
@[simp] theorem stl_blk : (stl t k w).blk a = w.blk a := rfl
@[simp] theorem stl_en : (stl t k w).en = w.en := rfl
@[simp] theorem stl_left : (stl t k w).left = k := rfl
@[simp] theorem stl_out : (stl t k w).out = w.out := rfl
end
def Sim (m : Nat) (r r' : Wld × Val) : Prop := (r.1.en ≠ 1 ∧ ∃ t, r' = (stl t m r.1, r.2)) ∨ (r.1.en = 1 ∧ (m = 0 → r'.1.out = r.1.out ∧ r'.1.left = 0))
section
variable {p : Prg} {R : Wld → Nat → Wld × Val} {R2 : Nat → Wld → Nat → Wld × Val} {n : Nat} {w : Wld} {a b i : Nat} {x : Int} {vs : List Val} {s : Stm} {v : Val}
variable (hR : ∀ w a, w.left < n → w.en = 0 → ∃ g, g + (R w a).1.left ≤ w.left ∧ ∀ N t m, g + m < N → Sim m (R w a) (R2 N (stl t (g + m) w) a))
include hR
end
end Go.Hm
end
section
set_option linter.unusedSectionVars false
namespace Go.Hm
open Go Go.RowKit
structure KB (w w' : Wld) : Prop where
  len : w.acts.length ≤ w'.acts.length
  blk : ∀ i, i < w.acts.length → w'.blk i = w.blk i
theorem KB.refl (w : Wld) : KB w w := ⟨Nat.le_refl _, fun _ _ => rfl⟩
theorem KB.trans {w w' w'' : Wld} (h : KB w w') (h' : KB w' w'') : KB w w'' := ⟨Nat.le_trans h.len h'.len, fun i hi => (h'.blk i (Nat.lt_of_lt_of_le hi h.len)).trans (h.blk i hi)⟩
theorem KB.same {w w' : Wld} (h : w'.acts = w.acts) : KB w w' := ⟨by rw [h]; exact Nat.le_refl _, fun i _ => by simp only [Wld.blk, h]⟩
theorem KB.set {w : Wld} {l : Option Nat} {x : Int} {s : Slt} : KB w (w.set l x s) := by
  cases l with
  | none => exact .same rfl
  | some i =>
    refine ⟨by simp [Wld.set], fun j _ => ?_⟩
    simp only [Wld.set, Wld.blk, List.getElem?_modify]
    by_cases e : i = j
    · subst e
      cases h : w.acts[i]? <;> simp
    · simp [e]
section
variable {p : Prg} {R : Wld → Nat → Wld × Val} {w : Wld} {a b i : Nat} {x : Int} {vs : List Val} {s : Stm} {v : Val}
variable (hR : ∀ w a, a < w.acts.length → KB w (R w a).1)
include hR
end
structure Alike (p q : Prg) : Prop where
  kind : ∀ b, kindAt p b = kindAt q b
  par : ∀ b : Nat, (match p[b]? with | some k => k.params | none => []) = (match q[b]? with | some k => k.params | none => [])
theorem Alike.parN {p q : Prg} (h : Alike p q) (b : Nat) : parN p b = parN q b := by
  have := congrArg List.length (h.par b)
  unfold Hm.parN
  cases h1 : p[b]? <;> cases h2 : q[b]? <;> simp [h1, h2] at this ⊢ <;> omega
section
variable {p q : Prg} {R S : Wld → Nat → Wld × Val} {w : Wld} {a b i : Nat} {x : Int} {vs : List Val} {s : Stm} {v : Val}
variable (hA : Alike p q)
include hA
variable (hR : ∀ w a, a < w.acts.length → R w a = S w a)
include hR
end
end Go.Hm
end
section
namespace Go.Hm
open Go Go.RowKit
section
variable {p q : Prg} {b : Nat} {k k' : Blk} {x : Int} {s : Stm}
end
section
variable {p : Prg} {b i : Nat} {k : Blk} {s : Stm}
end
end Go.Hm
end
section
namespace Go.Hm
open Go Go.RowKit
section
variable {X : Ctx} {st : St} {K : St → Prop} {E : AV → St → Prop}
def dfree (D : Nm → Bool) (hp : Nm → Option AO) : Nm → Option AO := fun m => if D m then none else hp m
def St.forget (D : Nm → Bool) (st : St) : St := { tm := st.tm, hp := dfree D st.hp, n := st.n, gl := st.gl }
@[simp] theorem forget_tm {D : Nm → Bool} {t : Nat} : (st.forget D).tm t = st.tm t := rfl
@[simp] theorem forget_hp {D : Nm → Bool} {m : Nm} : (st.forget D).hp m = if D m then none else st.hp m := rfl
end
section
variable {X : Ctx} {st : St} {K : St → Prop} {E : AV → St → Prop} {d f : Nat} {ty : TypeId} {pos : String} {aft : Array Edge} {g : Option (Nat × Bool)} {c : Operand} {args : Array Operand} {Ts : Array TypeId} {xs ys az : List AV}
end
section
variable {P : Program} {own : Nat → Prop} {C : Nat → Prop} {w0 : World} {g : Gh} {st : St} {a : Go.Act} {w : World}
end
section
variable {X : Ctx} {st : St} {K : St → Prop} {E : AV → St → Prop} {d : Nat} {ty : TypeId} {pos : String} {aft : Array Edge} {g : Option (Nat × Bool)}
end
theorem OkS.two {D : Nm → Bool} {root n m : Nm} {i j i' j' : Nat} (h : n.sroot = true) (h' : m.sroot = true) (hne : ¬ (i = i' ∧ j = j')) : OkS D root [(n, .c root i j), (m, .c root i' j')] := by
  refine ⟨by simp [h, h'], by simp, ?_⟩
  refine .cons (fun q hq => ?_) (.cons (fun q hq => by simp at hq) .nil)
  obtain rfl := by simpa using hq
  exact fun k hk => Nm.c_disj hne hk
def idleTo (p : Prg) (b i : Nat) : List Int := ((List.range i).filter fun j => idleAt p b j).map fun j : Nat => (j : Int)
section
variable {p : Prg} {b i : Nat} {k : Blk}
@[simp] theorem idleTo_zero : idleTo p b 0 = [] := rfl
end
structure Vw where
  block : Int
  names : List Int
  vals : List Int
  deriving DecidableEq, Inhabited
def Vw.own (n : Nm) (i : Nat) (v : Vw) : List AV := [iv v.block, .hs (.c n i 1) 1 0 v.names.length, .hs (.c n i 2) 1 0 v.vals.length]
@[simp] theorem Vw.own_eq {n : Nm} {i : Nat} {v : Vw} : v.own n i = [iv v.block, .hs (.c n i 1) 1 0 v.names.length, .hs (.c n i 2) 1 0 v.vals.length] := rfl
structure OwnV (hp : Nm → Option AO) (n : Nm) (i : Nat) (v : Vw) : Prop where
  names : hp (.c n i 1) = some (.row 1 (irows v.names))
  vals : hp (.c n i 2) = some (.row 1 (irows v.vals))
theorem OwnV.hcln {H' : Nm → Option AO} {n : Nm} {i : Nat} {v : Vw} (h : OwnV H' n i v) : OwnV (Hm.hcln H') n i v := ⟨hcln_row h.names (by simp), hcln_row h.vals (by simp)⟩
def vwRows (n : Nm) (cs : List Vw) : List (List AV) := cs.mapIdx fun i c => c.own n i
structure OwnVs (hp : Nm → Option AO) (n : Nm) (cs : List Vw) : Prop where
  top : hp n = some (.row 3 (vwRows n cs))
  each : ∀ (i : Nat) c, cs[i]? = some c → OwnV hp n i c
section
variable {cs : List Vw} {i a b d l : Nat} {n q k1 : Nm} {c : Vw}
@[simp] theorem vwRows_len : (vwRows n cs).length = cs.length := by simp [vwRows]
@[simp] theorem vwRows_get : (vwRows n cs)[i]? = (cs[i]?).map (fun c => c.own n i) := by simp [vwRows]
@[simp] theorem vwRows_getE {h : i < (vwRows n cs).length} : (vwRows n cs)[i] = (cs[i]'(by simpa using h)).own n i := by simp [vwRows]
@[simp] theorem vwRows_nil : vwRows n [] = [] := rfl
@[simp] theorem vwRows_take : (vwRows n cs).take cs.length = vwRows n cs := List.take_of_length_le (by simp)
theorem vwRows_app : vwRows n (cs ++ [c]) = vwRows n cs ++ [c.own n cs.length] := by simp [vwRows]
theorem vwRows_tr {f : Nm → Option Nm} {m : Nm} (h : ∀ i j, i < cs.length → f (.c n i j) = some (.c m i j)) : (vwRows n cs).map (fun r => r.map (AV.tr f)) = vwRows m cs := by
  apply List.ext_getElem?
  intro i
  simp only [List.getElem?_map, vwRows_get, Option.map_map]
  cases hx : cs[i]? with
  | none => rfl
  | some x => simp [Vw.own, h i _ (gS hx).1]
@[simp] theorem vwRows_kl (h : Nm.under (.s d) n = false) : (vwRows n cs).map (fun r => r.map (AV.tr (kl (.s d)))) = vwRows n cs := vwRows_tr (by simp [h])
@[simp] theorem vwRows_mv1 (h : Nm.under (.s a) n = true) : (vwRows n cs).map (fun r => r.map (AV.tr (mv (.s a) k1))) = vwRows (Nm.ren (.s a) k1 n) cs := vwRows_tr (by simp [h])
@[simp] theorem vwRows_mvc : (vwRows n cs).map (fun r => r.map (AV.tr (mvc n k1))) = vwRows k1 cs := by
  refine vwRows_tr fun i j _ => ?_
  have : Nm.c n i j ≠ n := Nm.not_under_c (Nm.under_self n)
  simp [this]
@[simp] theorem vwRows_mv4 {j : Nat} (hq : (q = n) = False) (hq' : Nm.under (.c q a b) n = false) (hl : cs.length ≤ l) : (vwRows n cs).map (fun r => r.map (AV.tr (mv (.c q a b) (.c n l j)))) = vwRows n cs := by
  have h1 : ¬ n = q := fun e => by simp [e] at hq
  have h2 : Nm.under (.c n l j) n = false := by
    cases h : Nm.under (.c n l j) n with
    | false => rfl
    | true => exact absurd rfl (Nm.under_not_c h).2
  refine vwRows_tr fun i j hi => ?_
  have h3 : ¬ i = l := by omega
  simp [h1, hq', h2, h3]
end
theorem OwnVs.hcln {H' : Nm → Option AO} {n : Nm} {cs : List Vw} (h : OwnVs H' n cs) : OwnVs (Hm.hcln H') n cs := by
  refine ⟨hcln_row h.top ?_, fun i c hc => (h.each i c hc).hcln⟩
  simp only [vwRows, List.all_eq_true]
  intro r hr
  obtain ⟨i, hi⟩ := List.getElem?_of_mem hr
  rw [List.getElem?_mapIdx] at hi
  obtain ⟨x, _, rfl⟩ := Option.map_eq_some_iff.1 hi
  simp [Vw.own]
def allL : List Int := [0, 1, 2, 3, 4, 5, 6, 7]
def seenL (p : Prg) (b : Nat) : List Int := if kindAt p b = 1 then sorted ((fastsL p b ++ cellsL p b) ++ freesL p b) else allL
def vnames (l : List (Int × Slt)) : List Int := l.filterMap fun q => match q.2 with | some _ => some q.1 | none => none
def vvals (l : List (Int × Slt)) : List Int := l.filterMap fun q => match q.2 with | some v => some (shown v) | none => none
def holdB (p : Prg) (b : Nat) (x : Int) : Nat := match p[b]? with
  | some k => if isLocal b k x then b else (outer p b x).toNat
  | none => 0
def slotV (p : Prg) (w : Wld) (a : Nat) (x : Int) : Slt :=
  if w.blk a = 0 then w.get none x else if kindAt p (w.blk a) = 2 then w.get (some a) x else w.get (some (climb w.acts (holdB p (w.blk a) x) a a)) x
def viewV (p : Prg) (w : Wld) (a : Nat) : Vw :=
  let l := (seenL p (w.blk a)).map fun x => (x, slotV p w a x)
  ⟨w.blk a, vnames l, vvals l⟩
def viewsV (p : Prg) (w : Wld) : List Vw := w.stack.map (viewV p w)
def viewsG (p : Prg) (f : Int) : List Vw := if fuelOk p f then viewsV p (meantW p f.toNat) else []
section
variable {p : Prg} {b c : Nat} {x : Int} {k : Blk} {l : List (Int × Slt)} {q : Int × Slt}
theorem vnames_app1 : vnames (l ++ [q]) = vnames l ++ (match q.2 with | some _ => [q.1] | none => []) := by
  obtain ⟨x, s⟩ := q
  cases s <;> simp [vnames]
theorem vvals_app1 : vvals (l ++ [q]) = vvals l ++ (match q.2 with | some v => [shown v] | none => []) := by
  obtain ⟨x, s⟩ := q
  cases s <;> simp [vvals]
theorem vnames_len : (vnames l).length ≤ l.length := List.length_filterMap_le _ _
theorem vvals_len : (vvals l).length ≤ l.length := List.length_filterMap_le _ _
theorem seenL_len : (seenL p b).length ≤ 8 := by
  unfold seenL
  split
  · exact sortedTo_len 8
  · decide
theorem seenL_rng (h : x ∈ seenL p b) : 0 ≤ x ∧ x ≤ 7 := by
  unfold seenL at h
  split at h
  · exact (mem_sorted.1 h).2
  · simp only [allL, List.mem_cons, List.not_mem_nil, or_false] at h
    omega
theorem outer_pass (hh : Heads p) (hk : p[b]? = some k) (hk1 : k.kind = 1) (hb0 : 0 < b) {o : Int} (h0 : 0 < o) (hob : o < b) : ∀ c : Nat, inside p c b = true → outerF p x p.length c = o → outer p b x = o := by
  intro c
  induction c using Nat.strongRecOn with
  | ind c ih =>
    intro hi h
    have hbc := inside_ge hi
    have hc0 : 0 < c := by omega
    cases hq : p[c]? with
    | none =>
      by_cases e : c = b
      · subst e
        rw [hk] at hq
        cases hq
      · have hl := List.getElem?_eq_none_iff.1 hq
        have : p.length = 0 ∨ ∃ n, p.length = n + 1 := by
          cases p.length with
          | zero => exact .inl rfl
          | succ n => exact .inr ⟨n, rfl⟩
        rcases this with e0 | ⟨n, hn⟩
        · rw [e0] at h
          simp [outerF] at h
          omega
        · rw [hn] at h
          simp only [outerF, Int.toNat_natCast, hq] at h
          split at h <;> omega
    | some q =>
      rw [outerF_step hh hq hc0] at h
      obtain ⟨g1, g2, g3⟩ := hh c q hq
      have g4 := g3 hc0
      obtain ⟨m, hm⟩ : ∃ m : Nat, q.parent = m := ⟨q.parent.toNat, by omega⟩
      by_cases e : c = b
      · subst e
        rw [hk] at hq
        obtain rfl := Option.some.inj hq
        rw [if_neg (by simp [hk1])] at h
        split at h
        · omega
        · split at h
          · omega
          · rw [outer_fuel hh hk]
            exact h
      · have hs := inside_step hh (b := (b : Int)) (by omega) hq (by omega)
        rw [hi, hm] at hs
        rw [hm] at h
        split at h
        · exact ih m (by omega) hs.symm h
        · split at h
          · omega
          · split at h
            · omega
            · exact ih m (by omega) hs.symm h
theorem frees_hold (hh : Heads p) (hk : p[b]? = some k) (hk1 : k.kind = 1) (hb0 : 0 < b) (hx : x ∈ freesL p b) : ∃ o : Nat, 0 < o ∧ o < b ∧ outer p b x = o ∧ inside p b o = true := by
  have key : ∃ o : Int, 0 < o ∧ o < b ∧ outer p b x = o := by
    simp only [freesL, mem_sorted, freesRaw, mem_joined] at hx
    obtain ⟨⟨i, hi, hx⟩, _⟩ := hx
    unfold freeAt at hx
    cases hq : p[b + i]? with
    | none => rw [hq] at hx; simp at hx
    | some q =>
      rw [hq] at hx
      simp only at hx
      split at hx
      case isFalse => simp at hx
      rename_i hin
      have hf := (List.mem_filter.1 hx).2
      simp only [freeIn, Bool.and_eq_true, decide_eq_true_eq] at hf
      refine ⟨owner p (b + i) x, hf.1, hf.2, ?_⟩
      have ho : owner p (b + i) x = owner p (b + i) x := rfl
      generalize hO : owner p (b + i) x = o at *
      simp only [owner, hq] at hO
      split at hO
      · omega
      · split at hO
        · omega
        · by_cases e : i = 0
          · subst e
            exact hO
          · rw [outer_fuel hh hq] at hO
            obtain ⟨g1, g2, g3⟩ := hh (b + i) q hq
            have g4 := g3 (by omega)
            obtain ⟨m, hm⟩ : ∃ m : Nat, q.parent = m := ⟨q.parent.toNat, by omega⟩
            have hs := inside_step hh (b := (b : Int)) (by omega) hq (by omega)
            rw [hin, hm] at hs
            rw [hm] at hO
            exact outer_pass hh hk hk1 hb0 hf.1 hf.2 m hs.symm hO
  obtain ⟨o, h1, h2, h3⟩ := key
  obtain ⟨n, rfl⟩ : ∃ n : Nat, o = n := ⟨o.toNat, by omega⟩
  exact ⟨n, by omega, by omega, h3, inside_of_outer hh (by omega) hk hb0 h3⟩
theorem hold_ok (hh : Heads p) (hk : p[b]? = some k) (hk1 : k.kind = 1) (hb0 : 0 < b) (hx : x ∈ seenL p b) : 0 < holdB p b x ∧ inside p b (holdB p b x) = true ∧ (isLocal b k x = false → outer p b x = holdB p b x) := by
  have hkk : kindAt p b = 1 := by simp [kindAt, hk, hk1]
  unfold holdB
  rw [hk]
  simp only
  cases hl : isLocal b k x
  · simp only [Bool.false_eq_true, if_false]
    have hf : x ∈ freesL p b := by
      simp only [seenL, hkk, if_true, mem_sorted, List.mem_append] at hx
      rcases hx.1 with (h | h) | h
      · exfalso
        simp only [fastsL, hkk, if_true] at h
        obtain ⟨m, hm, hfm, rfl⟩ := mem_picked.1 h
        simp only [fastIn, hk, Bool.and_eq_true] at hfm
        rw [hl] at hfm
        exact absurd hfm.1 (by simp)
      · exfalso
        simp only [cellsL, hkk, if_true, mem_sorted, cellsRaw, mem_joined] at h
        obtain ⟨⟨i, hi, h⟩, _⟩ := h
        unfold cellAt at h
        cases hq : p[b + 1 + i]? with
        | none => rw [hq] at h; simp at h
        | some q =>
          rw [hq] at h
          have hf := (List.mem_filter.1 h).2
          simp only [cellIn, beq_iff_eq] at hf
          simp only [owner, hq] at hf
          split at hf
          · omega
          · split at hf
            · omega
            · rw [outer_fuel hh hq] at hf
              obtain ⟨k', hk', hl', _⟩ := outerF_local _ _ hf
              rw [hk] at hk'
              obtain rfl := Option.some.inj hk'
              rw [hl] at hl'
              cases hl'
      · exact h
    obtain ⟨o, h1, h2, h3, h4⟩ := frees_hold hh hk hk1 hb0 hf
    rw [h3]
    simp only [Int.toNat_natCast]
    exact ⟨h1, h4, fun _ => by simp⟩
  · simp only [if_true]
    refine ⟨hb0, ?_, fun h => by cases h⟩
    rw [inside_end (by omega)]
    simp
end
end Go.Hm
end
section
namespace Go.Hm
open Go Go.RowKit
def seenI (p : Prg) (b : Nat) (x : Nat) : Bool := match p[b]? with
  | some k => k.kind != 1 || isLocal b k x || placeIn (freesL p b) x != -1
  | none => false
section
variable {p : Prg} {b : Nat} {k : Blk}
theorem isLocal_of_cells (hh : Heads p) (hk : p[b]? = some k) (hk1 : k.kind = 1) (hb0 : 0 < b) {x : Int} (h : x ∈ cellsL p b) : isLocal b k x = true := by
  have hkk : kindAt p b = 1 := by simp [kindAt, hk, hk1]
  simp only [cellsL, hkk, if_true, mem_sorted, cellsRaw, mem_joined] at h
  obtain ⟨⟨i, hi, h⟩, _⟩ := h
  unfold cellAt at h
  cases hq : p[b + 1 + i]? with
  | none => rw [hq] at h; simp at h
  | some q =>
    rw [hq] at h
    have hf := (List.mem_filter.1 h).2
    simp only [cellIn, beq_iff_eq] at hf
    simp only [owner, hq] at hf
    split at hf
    · omega
    · split at hf
      · omega
      · rw [outer_fuel hh hq] at hf
        obtain ⟨k', hk', hl', _⟩ := outerF_local _ _ hf
        rw [hk] at hk'
        obtain rfl := Option.some.inj hk'
        exact hl'
theorem placeIn_no {xs : List Int} {x : Int} : (placeIn xs x != -1) = decide (x ∈ xs) := by
  have h := placeIn_nonneg (xs := xs) (x := x)
  have hb := (placeIn_bd (xs := xs) (x := x)).1
  by_cases hx : x ∈ xs
  · have := h.2 hx
    simp only [hx, decide_true, bne_iff_ne, ne_eq]
    omega
  · have : ¬ 0 ≤ placeIn xs x := fun e => hx (h.1 e)
    have : placeIn xs x = -1 := by omega
    simp [hx, this]
theorem sorted_congr {xs ys : List Int} (h : ∀ n : Nat, n < 8 → ((n : Int) ∈ xs ↔ (n : Int) ∈ ys)) : sorted xs = sorted ys := by
  have : ∀ m : Nat, m ≤ 8 → sortedTo xs m = sortedTo ys m := by
    intro m
    induction m with
    | zero => intro _; rfl
    | succ m ih =>
      intro hm
      simp only [sortedTo]
      have e := h m (by omega)
      rw [ih (by omega)]
      by_cases hx : (m : Int) ∈ xs
      · rw [if_pos hx, if_pos (e.1 hx)]
      · rw [if_neg hx, if_neg (fun h => hx (e.2 h))]
  exact this 8 (Nat.le_refl _)
theorem seenI_sorted (hh : Heads p) (hk : p[b]? = some k) (hb : k.kind = 1 → 0 < b) : sorted (picked (seenI p b) 8) = seenL p b := by
  have hka : kindAt p b = k.kind := by simp [kindAt, hk]
  unfold seenL
  by_cases hk1 : k.kind = 1
  · rw [if_pos (by rw [hka, hk1])]
    refine sorted_congr fun n hn => ?_
    rw [mem_picked_nat]
    simp only [List.mem_append]
    have hf : (n : Int) ∈ fastsL p b ↔ isLocal b k n = true ∧ ¬ (n : Int) ∈ cellsL p b := by
      unfold fastsL
      rw [if_pos (by rw [hka, hk1]), mem_picked_nat]
      simp [fastIn, hk, hn]
    have hc := fun h => isLocal_of_cells hh hk hk1 (hb hk1) (x := (n : Int)) h
    have hs : seenI p b n = true ↔ isLocal b k n = true ∨ (n : Int) ∈ freesL p b := by
      simp only [seenI, hk, placeIn_no]
      simp [hk1]
    rw [hs, hf]
    constructor
    · rintro ⟨_, h | h⟩
      · by_cases hce : (n : Int) ∈ cellsL p b
        · exact .inl (.inr hce)
        · exact .inl (.inl ⟨h, hce⟩)
      · exact .inr h
    · rintro ((h | h) | h)
      · exact ⟨hn, .inl h.1⟩
      · exact ⟨hn, .inl (hc h)⟩
      · exact ⟨hn, .inr h⟩
  · rw [if_neg (by rw [hka]; exact hk1)]
    have hs : ∀ n, seenI p b n = true := by
      intro n
      simp [seenI, hk, hk1]
    have : sorted (picked (seenI p b) 8) = sorted allL := by
      refine sorted_congr fun n hn => ?_
      rw [mem_picked_nat]
      have : (n : Int) ∈ allL := by simp only [allL, List.mem_cons, List.not_mem_nil, or_false]; omega
      simp [hn, hs, this]
    rw [this]
    decide
theorem bset_put {f : Nat → Bool} {x : Nat} (h : x < 8) : (bset (picked f x)).take x ++ bv (f x) :: (bset (picked f x)).drop (x + 1) = bset (picked f (x + 1)) := by
  cases hf : f x
  · have hn : ¬ (x : Int) ∈ picked f x := by
      rw [mem_picked_nat]
      omega
    have e : picked f (x + 1) = picked f x := by rw [picked, if_neg (by rw [hf]; decide)]
    rw [e]
    have hg := bset_get (l := picked f x) h
    rw [decide_eq_false hn] at hg
    have hl : x < (bset (picked f x)).length := by simp; omega
    obtain ⟨_, hg⟩ := gS hg
    rw [← hg, ← List.drop_eq_getElem_cons hl, List.take_append_drop]
  · have e : picked f (x + 1) = picked f x ++ [(x : Int)] := by rw [picked, if_pos hf]
    rw [e, bset_add rfl h]
end
def grows (g : Int → Slt) (l : List Int) : List (AV × AV) := l.map fun x => (iv x, .agg (slotC (g x)))
def leftL (g : Int → Slt) (l : List Int) (x : Nat) : List Int := l.filter fun y => decide ((x : Int) ≤ y) || (g y).isSome
section
variable {g : Int → Slt} {l : List Int} {n : Int} {f : Nm → Option Nm}
@[simp] theorem grows_nil : grows g [] = [] := rfl
@[simp] theorem grows_len : (grows g l).length = l.length := by simp [grows]
@[simp] theorem grows_keys : mkeys .i64 (grows g l) = true := by
  induction l with
  | nil => rfl
  | cons q l ih => simp only [grows, List.map_cons, mkeys] at ih ⊢; simpa using ih
@[simp] theorem grows_tr : (grows g l).map (fun e => (e.1.tr f, e.2.tr f)) = grows g l := by
  simp only [grows, List.map_map]
  refine List.map_congr_left fun x _ => ?_
  simp [slotC_tr]
theorem grows_get : mget .i64 n (grows g l) = if n ∈ l then some (.agg (slotC (g n))) else none := by
  induction l with
  | nil => rfl
  | cons q l ih =>
    simp only [grows, List.map_cons, mget, if_true] at ih ⊢
    by_cases h : q = n
    · subst h
      simp
    · have h' : ¬ n = q := fun e => h e.symm
      rw [if_neg h, ih]
      simp [h']
theorem grows_del : mdel .i64 n (grows g l) = grows g (l.erase n) := by
  induction l with
  | nil => rfl
  | cons q l ih =>
    simp only [grows, List.map_cons, mdel, true_and] at ih ⊢
    by_cases h : q = n
    · subst h
      simp
    · rw [if_neg h, ih, List.erase_cons, if_neg (by simpa using h)]
      rfl
theorem grows_set (h : n ∉ l) : mset .i64 n (.agg (slotC (g n))) (grows g l) = grows g (l ++ [n]) := by
  induction l with
  | nil => rfl
  | cons q l ih =>
    simp only [List.mem_cons, not_or] at h
    have ih := ih h.2
    simp only [grows, List.map_cons, mset, true_and, List.cons_append] at ih ⊢
    rw [if_neg (fun e => h.1 e.symm), ih]
theorem leftL_zero (h : ∀ y ∈ l, 0 ≤ y ∧ y ≤ 7) : leftL g l 0 = l := by
  unfold leftL
  rw [List.filter_eq_self]
  intro y hy
  have := (h y hy).1
  simp [this]
theorem leftL_end (h : ∀ y ∈ l, 0 ≤ y ∧ y ≤ 7) : leftL g l 8 = l.filter fun y => (g y).isSome := by
  unfold leftL
  refine List.filter_congr fun y hy => ?_
  have := (h y hy).2
  have h8 : ¬ (8 : Int) ≤ y := by omega
  simp [h8]
theorem mem_leftL {x : Nat} : (x : Int) ∈ leftL g l x ↔ (x : Int) ∈ l := by simp [leftL]
theorem leftL_keep {x : Nat} (h : (x : Int) ∈ l → (g x).isSome = true) : leftL g l (x + 1) = leftL g l x := by
  unfold leftL
  refine List.filter_congr fun y hy => ?_
  by_cases e : y = x
  · subst e
    simp [h hy]
  · have : ((x + 1 : Nat) : Int) ≤ y ↔ (x : Int) ≤ y := by omega
    simp only [this]
theorem leftL_drop {x : Nat} (hd : l.Nodup) (h : (g x).isSome = false) : leftL g l (x + 1) = (leftL g l x).erase x := by
  unfold leftL
  rw [List.Nodup.erase_eq_filter (hd.filter _)]
  rw [List.filter_filter]
  refine List.filter_congr fun y hy => ?_
  by_cases e : y = x
  · subst e
    simp [h]
    omega
  · have : ((x + 1 : Nat) : Int) ≤ y ↔ (x : Int) ≤ y := by omega
    simp only [this]
    simp [e]
theorem vnames_left : vnames (l.map fun x => (x, g x)) = l.filter fun y => (g y).isSome := by
  induction l with
  | nil => rfl
  | cons q l ih =>
    simp only [vnames, List.map_cons, List.filterMap_cons, List.filter_cons] at ih ⊢
    cases h : g q
    · simpa using ih
    · simpa using ih
theorem vvals_left : vvals (l.map fun x => (x, g x)) = (l.filter fun y => (g y).isSome).map fun y => shown ((g y).getD (0, 0)) := by
  induction l with
  | nil => rfl
  | cons q l ih =>
    simp only [vvals, List.map_cons, List.filterMap_cons, List.filter_cons] at ih ⊢
    cases h : g q
    · simpa using ih
    · simpa [h] using ih
theorem sortedTo_pw {xs : List Int} : ∀ n : Nat, (sortedTo xs n).Pairwise (· < ·)
  | 0 => .nil
  | n + 1 => by
    simp only [sortedTo]
    split
    · refine List.pairwise_append.2 ⟨sortedTo_pw n, by simp, ?_⟩
      intro a ha b hb
      simp only [List.mem_singleton] at hb
      subst hb
      have := (mem_sortedTo n).1 ha
      omega
    · exact sortedTo_pw n
theorem seenL_pw {p : Prg} {b : Nat} : (seenL p b).Pairwise (· < ·) := by
  unfold seenL
  split
  · exact sortedTo_pw 8
  · decide
end
end Go.Hm
end
