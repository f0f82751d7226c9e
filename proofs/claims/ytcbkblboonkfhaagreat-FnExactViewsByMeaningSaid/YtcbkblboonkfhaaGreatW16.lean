/-
  Own texts, joined by mkclaim.py: Hm107.
-/
import Derived.Test.YtcbkblboonkfhaaGreatW15
set_option linter.unusedSimpArgs false
set_option linter.unusedVariables false
set_option maxRecDepth 100000
set_option maxHeartbeats 4000000

section
namespace Go.Hm
open Go Go.RowKit
@[simp] theorem fM_nine : fM 9 = false := rfl
def TopR (p : Prg) (r : List AV) : Prop := ∃ x2 x3 x4 x5 x6 x7 x8 x9, r = [ksl p, .hs (.c Mn 0 1) 1 0 p.length, x2, x3, x4, x5, x6, x7, x8, x9]
structure OwnMv (hp : Nm → Option AO) (p : Prg) (w : Wld) : Prop where
  top : ∃ r, hp Mn = some (.row 10 [r]) ∧ TopR p r
  scs : OwnS hp (.c Mn 0 1) p p.length
  bx : ∀ k j : Nat, k < w.funs.length → j < 4 → (hp (.u 8 k j)).isSome = true
  env : ∀ (i : Nat) a, w.acts[i]? = some a → hp (En i) = some (.row 3 [envRow i a])
  nms : ∀ (i : Nat), i < w.acts.length → ∃ ms, hp (.c (En i) 0 1) = some (.map (mrows ms)) ∧ MapOk ms (w.nms i)
  only : ∀ k i j, fM k = true → hp (.u k i j) ≠ none → (k = 1 ∧ i = 0 ∧ j = 0) ∨ (k = 7 ∧ i < w.acts.length ∧ j = 0) ∨ (k = 8 ∧ i < w.funs.length ∧ j < 4)
theorem TopR.mk {p : Prg} {x2 x3 x4 x5 x6 x7 x8 x9 : AV} : TopR p [ksl p, .hs (.c Mn 0 1) 1 0 p.length, x2, x3, x4, x5, x6, x7, x8, x9] := ⟨_, _, _, _, _, _, _, _, rfl⟩
theorem OwnMv.hp' {hp hp' : Nm → Option AO} {p : Prg} {w : Wld} (h : OwnMv hp p w) {f : Nm → Option Nm} (hf : ∀ m, DM m = true → f m = some m) (hh : ∀ m, DM m = true → hp' m = (hp m).map (AO.tr f)) : OwnMv hp' p w := by
  have hE : ∀ i, f (En i) = some (En i) := fun i => hf _ rfl
  have hc : ∀ j, f (.c Mn 0 j) = some (.c Mn 0 j) := fun j => hf _ rfl
  refine ⟨?_, ⟨?_, fun j k hj hk => ?_⟩, fun k j hk hj => ?_, fun i a ha => ?_, fun i hi => ?_, fun k i j hk hn => ?_⟩
  · obtain ⟨_, h1, x2, x3, x4, x5, x6, x7, x8, x9, rfl⟩ := h.top
    refine ⟨_, by rw [hh _ rfl, h1]; rfl, ?_⟩
    simp only [List.map_cons, List.map_nil, tr_hs, hc]
    have : AV.tr f (ksl p) = ksl p := by simp
    rw [this]
    exact TopR.mk
  · rw [hh _ rfl, h.scs.top]
    simp only [Option.map_some, AO.tr]
    rw [sRows_fix fun j => hf _ rfl]
  · rw [hh _ rfl, h.scs.sc j k hj hk]
    simp only [Option.map_some, AO.tr, List.map_cons, List.map_nil, scopeRow_tr]
    rw [outP_fix fun j => hf _ rfl]
  · rw [hh _ rfl, Option.isSome_map]
    exact h.bx k j hk hj
  · rw [hh _ rfl, h.env i a ha]
    have h1 := hf (.c (En i) 0 1) rfl
    by_cases e : i = 0 <;> simp [AO.tr, envRow, h1, e, hE]
    subst e
    simp [h1]
  · obtain ⟨ms, a1, a2⟩ := h.nms i hi
    exact ⟨ms, by rw [hh _ rfl, a1]; simp [AO.tr], a2⟩
  · refine h.only k i j hk fun e => hn ?_
    rw [hh (.u k i j) hk, e]; rfl
theorem OwnMv.fin {hp : Nm → Option AO} {p : Prg} {w : Wld} {D : Nm → Bool} {sbs : List (Nm × Nm)} (h : OwnMv hp p w) (hD : ∀ m, D m = true → m.sroot = false := by first | exact fun _ => DM_root | exact fun _ => DM2_root) (hW : ∀ m, DM m = true → D m = true := by intro m hm; first | exact hm | simp [hm]) (hs : ∀ q ∈ sbs, q.1.sroot = true := by simp [Nm.sroot]) : OwnMv (finH D sbs hp) p w :=
  h.hp' (f := finf D sbs) (fun m hm => finf_D hD (hW m hm) hs) (fun m hm => by simp only [finH, hW m hm, if_true])
theorem OwnMv.sub {hp : Nm → Option AO} {p : Prg} {w : Wld} (h : OwnMv hp p w) {D : Nm → Bool} (hD : ∀ m, DM m = true → D m = true := by intro m hm; first | exact hm | simp [hm]) : OwnMv (dsub D hp) p w := by
  refine h.hp' (f := some) (fun _ _ => rfl) (fun m hm => ?_)
  rw [dsub_eq, if_pos (hD m hm)]
  cases hp m with
  | none => rfl
  | some o => simp [AO.tr_some]
theorem OwnM.ext9 {H hp : Nm → Option AO} {F : Nat} {p : Prg} {w0 w : Wld} (h0 : OwnM H F p w0) (h : OwnMv hp p w) (ha : w0.acts.length ≤ w.acts.length) (hf : w0.funs.length ≤ w.funs.length) : ∀ k i j, (H (.u k i j)).isSome = true → DM (.u k i j) = false ∨ (dsub DM hp) (.u k i j) ≠ none := by
  intro k i j hs
  cases hD : fM k with
  | false => exact .inl hD
  | true =>
    right
    have hd : DM (.u k i j) = true := hD
    rw [dsub_eq, if_pos hd]
    rcases h0.only k i j hD (by intro e; rw [e] at hs; cases hs) with ⟨rfl, rfl, rfl⟩ | ⟨rfl, hi, rfl⟩ | ⟨rfl, hi, hj⟩
    · obtain ⟨_, h1, _⟩ := h.top
      rw [h1]; simp
    · obtain ⟨a, ha'⟩ : ∃ a, w.acts[i]? = some a := ⟨_, gE (by omega)⟩
      rw [h.env i a ha']; simp
    · have := h.bx i j (by omega) hj
      intro e
      rw [e] at this
      cases this
theorem erows_fixM {f : Nm → Option Nm} {l : List Nat} (h : ∀ i ∈ l, f (En i) = some (En i)) : (erows l).map (fun r => r.map (AV.tr f)) = erows l := by
  simp only [erows, List.map_map]
  refine List.map_congr_left fun i hi => ?_
  simp [h i hi]
theorem OwnM.mv9 {hp : Nm → Option AO} {F : Nat} {p : Prg} {w : Wld} (h : OwnM hp F p w) : OwnMv hp p w := by
  refine ⟨⟨_, h.top, .mk⟩, h.scs, fun k j hk hj => ?_, h.env, h.nms, h.only⟩
  obtain ⟨g, hg⟩ : ∃ g, w.funs[k]? = some g := ⟨_, gE hk⟩
  obtain ⟨a1, a2, a3, a4⟩ := h.bx k g hg
  have : j = 0 ∨ j = 1 ∨ j = 2 ∨ j = 3 := by omega
  rcases this with rfl | rfl | rfl | rfl
  · rw [a1]; rfl
  · rw [a2]; rfl
  · rw [a3]; rfl
  · rw [a4]; rfl
section
variable {P : Program} {C : Nat → Prop} {wd : World} {g0 : Gh} {H : Nm → Option AO} {n : Nat} {gl : Nat → Option (List AV)} {st : St} {K : St → Prop} {E : AV → St → Prop} {d f : Nat} {ty : TypeId} {pos : String} {aft : Array Edge} {g : Option (Nat × Bool)} {args : Array Operand} {Ts : Array TypeId} {az : List AV} {R : Nm → AV → (Nm → Option AO) → Prop} {F : Nat} {p : Prg} {w0 w : Wld}
theorem x_callV (h0 : OwnM H F p w0) (hO : OwnMv st.hp p w) (hl : w0.acts.length ≤ w.acts.length) (hf : w0.funs.length ≤ w.funs.length) (hd : d < n := by first | (simp; done) | fail) (ha : args.toList.map (ev st) = az := by simp [fx]; first | done | rfl)
    (hF : OwnMv (dsub DM st.hp) p w → FnE P gl f DM az (dsub DM st.hp) R noE) (h : ∀ y H', R (.s d) y H' → K ((st.call d DM (dsub DM st.hp) H').put (some d) y)) :
    SemOp (ctx0 P C wd g0 H n gl) ⟨some d, .call ⟨.value (.func f), args, Ts⟩, ty, pos, aft, g⟩ K E st := x_mutD DM (fun _ => DM_root) (fun k i j he => h0.ext9 hO hl hf k i j he) hd ha (hF hO.sub) h
end
end Go.Hm
end
