/-
  Own texts, joined by mkclaim.py: Hm80, Hm81, Hm82, Hm83, Hm84, Hm85, Hm86, Hm87.
-/
import Derived.Test.YtcbkblboonkfhaaGreatS15
import Derived.Test.YtcbkblboonkfhaaGreatS13
import Derived.Test.YtcbkblboonkfhaaGreatS14
import Derived.Test.YtcbkblboonkfhaaGreatS11
import Derived.Stop.Joined
import Derived.Test.YtcbkblboonkfhaaGreatS12
set_option linter.unusedSimpArgs false
set_option linter.unusedVariables false
set_option maxRecDepth 100000
set_option maxHeartbeats 4000000

section
namespace Go.Hm
open Go Go.RowKit
@[simp] theorem lok_mp {P : Program} {T : TypeId} {hp : Nm → Option AO} {m : Nm} {k' : IntKind} {n : Int} {ok : Bool} : lokAV P T hp (.mp m) (.sc (.int k' n)) ok = match tmapI P T with
    | some q => if k' = q.1 then (match hp m with
      | some (.map es) => if mkeys q.1 es then (match mget q.1 n es with
        | some y => some (if ok then .tup [y, .sc (.bool true)] else y)
        | none => (zflat P q.2).map (fun z => if ok then .tup [z, .sc (.bool false)] else z)) else none
      | _ => none) else none
    | none => none := by
  unfold lokAV
  cases tmapI P T with
  | none => rfl
  | some q => rfl
theorem OwnM.sub {hp : Nm → Option AO} {F : Nat} {p : Prg} {w : Wld} (h : OwnM hp F p w) {D : Nm → Bool} (hD : ∀ m, DM m = true → D m = true := by intro m hm; first | exact hm | simp [hm]) : OwnM (dsub D hp) F p w := by
  refine h.hp' (f := some) (fun _ _ => rfl) (fun m hm => ?_)
  rw [dsub_eq, if_pos (hD m hm)]
  cases hp m with
  | none => rfl
  | some o => simp [AO.tr_some]
theorem MapOk.get' {ms : NMap} {w : Wld} {l : Option Nat} {x : Int} (h : MapOk ms (w.vars l)) (hx : 0 ≤ x ∧ x ≤ 7) : lk x ms = w.get l x := by
  rw [h.at hx]
  unfold Wld.get
  cases (w.vars l)[x.toNat]? <;> rfl
theorem ownM_set {hp hp' : Nm → Option AO} {F : Nat} {p : Prg} {w : Wld} {a x : Nat} {s : Slt} {l : Option Nat} (hh : Heads p) (hw : WOk p w) (ha : a < w.acts.length) (hx : x < 8) (hl : w.loc p a x = l) (hnm : w.nms (hIdx (w.loc p a x)) = w.vars (w.loc p a x)) (h : OwnM hp F p w) {ms : NMap} (hms : MapOk ms ((w.vars l).set (x : Int).toNat s)) (hq : ∀ m, DM m = true → hp' m = if m = .c (En (hIdx l)) 0 1 then some (.map (mrows ms)) else hp m) : OwnM hp' F p (w.set l x s) := by
  obtain ⟨e1, e2, e3, e4, e5, e6, e7⟩ := set_same (w := w) (l := l) (x := (x : Int)) (s := s)
  have hlen : (w.set l x s).acts.length = w.acts.length := set_len
  have hnms : ∀ i, (w.set l x s).nms i = if i = hIdx l then (w.vars l).set (x : Int).toNat s else w.nms i := by
    intro i
    cases l with
    | none =>
      by_cases e : i = 0
      · simp [Wld.nms, Wld.set, hIdx, e, Wld.vars]
      · simp [Wld.nms, Wld.set, hIdx, e]
    | some j =>
      have hj0 : j ≠ 0 := by
        rintro rfl
        rcases loc_spec (x := (x : Int)) hh hw ha with ⟨_, h2⟩ | ⟨o, i, c, ho, _, h2, _, h4, h5, _⟩
        · rw [hl] at h2; cases h2
        · rw [hl] at h2
          obtain rfl := Option.some.inj h2
          obtain ⟨a0, h0, hb0⟩ := hw.a0
          rw [h0] at h4
          obtain rfl := Option.some.inj h4
          omega
      by_cases e : i = 0
      · subst e
        have : ¬ 0 = j := fun e => hj0 e.symm
        simp [Wld.nms, Wld.set, hIdx, this]
      · by_cases e2 : i = j
        · subst e2
          simp only [Wld.nms, Wld.set, hIdx, e, if_false, if_true, List.getElem?_modify, Wld.vars]
          cases w.acts[i]? with
          | none => simp
          | some b => simp
        · have e3 : ¬ j = i := fun e => e2 e.symm
          simp only [Wld.nms, Wld.set, hIdx, e, e2, if_false, List.getElem?_modify, e3]
          cases w.acts[i]? <;> simp
  have hget : ∀ m, DM m = true → m ≠ .c (En (hIdx l)) 0 1 → hp' m = hp m := fun m hm hne => by rw [hq m hm, if_neg hne]
  refine ⟨?_, ⟨?_, fun j k hj hk => ?_⟩, ?_, ?_, h.run.imp fun l hl => ⟨by rw [hlen]; exact hl.1, ?_⟩, ?_, fun k g hg => ?_, ?_, fun k c hc => ?_, fun i b hb => ?_, fun i hi => ?_, fun k i j hk hn => ?_⟩
  · rw [hget _ rfl (by simp), h.top]; simp [mRow, e1, e2, e3, e4, e5, e6, e7]
  · rw [hget _ rfl (by simp), h.scs.top]
  · rw [hget _ rfl (by simp), h.scs.sc j k hj hk]
  · rw [hget _ rfl (by simp), h.out, e3]
  · rw [hget _ rfl (by simp), h.trc, e4]
  · rw [hget _ rfl (by simp), hl.2, e6]
  · rw [hget _ rfl (by simp), h.funs, e1]
  · rw [e1] at hg
    obtain ⟨a1, a2, a3, a4⟩ := h.bx k g hg
    exact ⟨by rw [hget _ rfl (by simp), a1], by rw [hget _ rfl (by simp), a2], by rw [hget _ rfl (by simp), a3], by rw [hget _ rfl (by simp), a4]⟩
  · rw [hget _ rfl (by simp), h.clss, e2]
  · rw [e2] at hc
    obtain ⟨ms, a1, a2⟩ := h.cls k c hc
    exact ⟨ms, by rw [hget _ rfl (by simp), a1], a2⟩
  · obtain ⟨b', hb', f1, f2, _⟩ := set_acts hb
    rw [hget _ rfl (by simp), h.env i b' hb']
    simp [envRow, f1, f2]
  · rw [hlen] at hi
    rw [hnms]
    by_cases e : i = hIdx l
    · subst e
      rw [if_pos rfl]
      exact ⟨ms, by rw [hq _ rfl, if_pos rfl], hms⟩
    · rw [if_neg e]
      obtain ⟨ms', a1, a2⟩ := h.nms i hi
      exact ⟨ms', by rw [hget _ rfl (by simp [e]), a1], a2⟩
  · rw [hget (.u k i j) hk (by simp)] at hn
    rw [hlen, e1]
    exact h.only k i j hk hn
section
variable {X : Ctx} {st : St} {K : St → Prop} {E : AV → St → Prop} {ty : TypeId} {pos : String} {aft : Array Edge} {g : Option (Nat × Bool)}
theorem x_delete {dst : Option Nat} {T e : TypeId} {ts : Array TypeId} {m key : Operand} {k : IntKind} {i : Int} {n : Nm} {es : List (AV × AV)} {st' : St} (hts : ts[0]? = some T := by rfl) (hdn : ∀ t, dst = some t → t < X.n := by first | (intro t h; cases h; done) | (intro t h; obtain rfl := Option.some.inj h; simp; done) | fail) (ht : tmapI X.P T = some (k, e) := by simp [fx]; first | done | rfl | exact ⟨rfl, rfl⟩)
    (hm : ev st m = .mp n := by simp [fx]; first | done | rfl) (hk : ev st key = .sc (.int k i) := by simp [fx]; first | done | rfl) (hn : st.hp n = some (.map es) := by simp [fx]; first | done | rfl) (hks : mkeys k es = true := by simp [fx]; first | done | rfl)
    (hs : (st.setO n (.map (mdel k i es))).put dst (.sc (.tuple #[])) = st' := by simp [fx]; first | done | rfl) (h : K st') : SemOp X ⟨dst, .call { callee := .builtin .delete, args := #[m, key], argTypes := ts }, ty, pos, aft, g⟩ K E st := by
  subst hs
  exact sem_delete rfl hts hdn ht hm hk hn hks h
end
section
variable {P : Program} {C : Nat → Prop} {wd : World} {g0 : Gh} {H : Nm → Option AO} {n : Nat} {gl : Nat → Option (List AV)} {st : St} {K : St → Prop} {E : AV → St → Prop} {d f : Nat} {ty : TypeId} {pos : String} {aft : Array Edge} {g : Option (Nat × Bool)} {c : Operand} {args : Array Operand} {Ts : Array TypeId} {as xs ys : List AV} {R : Nm → AV → (Nm → Option AO) → Prop} {F : Nat} {p : Prg} {w0 w : Wld}
theorem x_callM (h0 : OwnM H F p w0) (hO : OwnM st.hp F p w) (hl : w0.acts.length ≤ w.acts.length) (hf : w0.funs.length ≤ w.funs.length) (hd : d < n := by first | (simp; done) | fail) (ha : args.toList.map (ev st) = as := by simp [fx]; first | done | rfl)
    (hF : OwnM (dsub DM st.hp) F p w → FnE P gl f DM as (dsub DM st.hp) R noE) (h : ∀ y H', R (.s d) y H' → K ((st.call d DM (dsub DM st.hp) H').put (some d) y)) :
    SemOp (ctx0 P C wd g0 H n gl) ⟨some d, .call ⟨.value (.func f), args, Ts⟩, ty, pos, aft, g⟩ K E st := x_mutD DM (fun _ => DM_root) (fun k i j he => h0.ext hO hl hf k i j he) hd ha (hF hO.sub) h
theorem x_callM2 (h0 : OwnM H F p w0) (hO : OwnM st.hp F p w) (h2 : (st.hp (.u 2 0 0)).isSome = true) (hl : w0.acts.length ≤ w.acts.length) (hf : w0.funs.length ≤ w.funs.length) (hd : d < n := by first | (simp; done) | fail) (ha : args.toList.map (ev st) = as := by simp [fx]; first | done | rfl)
    (hF : OwnM (dsub DM2 st.hp) F p w → FnE P gl f DM2 as (dsub DM2 st.hp) R noE) (h : ∀ y H', R (.s d) y H' → K ((st.call d DM2 (dsub DM2 st.hp) H').put (some d) y)) :
    SemOp (ctx0 P C wd g0 H n gl) ⟨some d, .call ⟨.value (.func f), args, Ts⟩, ty, pos, aft, g⟩ K E st := x_mutD DM2 (fun _ => DM2_root) (fun k i j he => h0.ext2 hO hl hf h2 k i j he) hd ha (hF hO.sub) h
theorem x_callMv (h0 : OwnM H F p w0) (hO : OwnM st.hp F p w) (h2 : (st.hp (.u 2 0 0)).isSome = true) (hl : w0.acts.length ≤ w.acts.length) (hf : w0.funs.length ≤ w.funs.length) (hd : d < n := by first | (simp; done) | fail)
    (hv : ev st c = .fn (.func f) xs ys := by simp [fx]; first | done | rfl) (ha : xs ++ args.toList.map (ev st) ++ ys = as := by simp [fx]; first | done | rfl)
    (hF : OwnM (dsub DM2 st.hp) F p w → FnE P gl f DM2 as (dsub DM2 st.hp) R noE) (h : ∀ y H', R (.s d) y H' → K ((st.call d DM2 (dsub DM2 st.hp) H').put (some d) y)) :
    SemOp (ctx0 P C wd g0 H n gl) ⟨some d, .call ⟨.value c, args, Ts⟩, ty, pos, aft, g⟩ K E st := x_mutDv DM2 (fun _ => DM2_root) (fun k i j he => h0.ext2 hO hl hf h2 k i j he) hd hv ha (hF hO.sub) h
end
section
variable {l : List (Nat × Nat)} {c : Int} {i : Nat}
end
def Rsl.av (r : Rsl) : AV := .agg [isl r.out, iv r.en, iv r.left, isl r.gl]
@[simp] theorem Rsl.av_eq {r : Rsl} : r.av = .agg [isl r.out, iv r.en, iv r.left, isl r.gl] := rfl
def Rsl.mark (r : Rsl) (c : Int) : Rsl := ⟨markI r.out.length c, r.en, r.left, markI r.gl.length (c + r.out.length)⟩
section
variable {hp : Nm → Option AO} {n : Nm} {r : Rsl} {c : Int}
theorem OwnR.hcln {H' : Nm → Option AO} (h : OwnR H' n r) : OwnR (Hm.hcln H') n r := ⟨hcln_row h.out (by simp), hcln_row h.gl (by simp)⟩
@[simp] theorem Rsl.mark_en : (r.mark c).en = r.en := rfl
@[simp] theorem Rsl.mark_left : (r.mark c).left = r.left := rfl
@[simp] theorem Rsl.mark_out : (r.mark c).out.length = r.out.length := by simp [Rsl.mark]
@[simp] theorem Rsl.mark_gl : (r.mark c).gl.length = r.gl.length := by simp [Rsl.mark]
end
section
variable {p : Prg} {f : Int}
theorem fuel_run (hs : Sml p) (h : fuelOk p f = true) : ∃ n : Nat, f = n ∧ n ≤ 150 ∧ ShapeP p ∧ MeantOk p n (meantW p n) := by
  obtain ⟨hpo, n, rfl, hn⟩ := fuelOk_of h
  have hP := (ValP.of hs hpo).sh
  exact ⟨n, rfl, hn, hP, meantOk hP hn⟩
theorem resG_len (hs : Sml p) : (resG p f).out.length ≤ 1000 ∧ (resG p f).gl.length ≤ 8 := by
  unfold resG
  split
  · rename_i h
    obtain ⟨n, rfl, hn, _, hm⟩ := fuel_run hs h
    have h1 := hm.ok.nout
    have h2 := hm.ok.glob.1
    simp only [Int.toNat_natCast, resW, shownS, List.length_map]
    omega
  · simp
end
end Go.Hm
end
section
namespace Go.Hm
open Go
structure ProgFacts (P : Program) : Prop where
  laid : laidOutB P = true
  maps : mapsRowed P = true
  stops : (P.stops == []) = true
  knobs : (P.stopKnobs == []) = true
  keys : P.plainKeys = true
  heard : P.stopsHeard = true
  may : P.mayEnter = true
  lifts : P.liftsFinal = false
  make : (P.make == some .cut) = true
theorem joined_of {P : Program} {f : FuncId} {fn : Func} {s : ChangeSpec} {c : OpenClaim} (hp : ProgFacts P)
    (h1 : c.wf (OpenSpec.ofChange s) = true) (h2 : fn.params.all (P.readableRec ·) = true) (h3 : namedTie P c.named s.vars = true) (h4 : (c.stops == []) = true) (h5 : (c.knobs == []) = true)
    (h6 : (c.inPlace == P.inPlace f) = true) (h7 : (c.unfollowed == P.unfollowed f) = true) (h8 : (c.recurses == P.recurses f) = true) (h9 : (c.named == P.varsNamed f) = true)
    (h10 : (c.maps == (fn.params.toList ++ s.plain.varTypes P).any (P.mapsRec ·)) = true) (h11 : (c.ifaces == (fn.params.toList ++ s.plain.varTypes P).any (P.ifacesRec ·)) = true) (h12 : (c.mapsOut == P.mapsAmong fn.resultTypes.toList) = true)
    (h13 : (c.loops == (fn.params.toList ++ s.plain.varTypes P).any (P.loopsFrom ·)) = true) (h14 : (c.wideKeys == (fn.params.toList ++ s.plain.varTypes P ++ fn.resultTypes.toList).any (P.wideKeysFrom ·)) = true)
    (h15 : s.vars.all (P.varReadable ·) = true) (h16 : fn.resultTypes.all (fun t => P.readableRec t && decide (t < P.types.size)) = true) (h17 : (c.ifacesOut == fn.resultTypes.toList.any (P.ifacesRec ·)) = true) (h18 : (c.loopsOut == fn.resultTypes.toList.any (P.loopsFrom ·)) = true)
    (h19 : c.plainKeys = true) (h20 : c.shortTexts.isNone = true) (h21 : c.lifted = false) (h22 : c.make = .cut)
    (h23 : (c.kinds == (if c.domain.isEmpty then [] else fn.params.toList.map fun t => match P.underlying t with | some (.int k) => some k | _ => none)) = true) (h24 : (c.pinned == c.pinnedBy) = true)
    (h25 : (c.veiled == (fn.params.toList ++ s.plain.varTypes P ++ fn.resultTypes.toList).any (P.veiledRec ·)) = true) (h26 : c.veiledFits P fn.params.toList (fn.params.toList ++ s.plain.varTypes P ++ fn.resultTypes.toList) = true) : joinedFacts P f fn s c = true := by
  have e1 : (c.plainKeys == P.plainKeys) = true := by rw [h19, hp.keys]; rfl
  have e2 : (c.lifted == P.liftsFinal) = true := by rw [h21, hp.lifts]; rfl
  have e3 : (P.make == some c.make) = true := by rw [h22]; exact hp.make
  unfold joinedFacts
  simp only [hp.laid, hp.maps, hp.stops, hp.knobs, hp.heard, hp.may, h1, h2, h3, h4, h5, h6, h7, h8, h9, h10, h11, h12, h13, h14, h15, h16, h17, h18, h20, h24, h25, h26, e1, e2, e3, Bool.and_true, Bool.true_and]
  exact h23
section
variable {p : Prg} {f g n : Nat}
structure More (k : Nat) (w w' : Wld) : Prop where
  funs : w.funs.length ≤ w'.funs.length
  cls : w.classes.length ≤ w'.classes.length
  out : w.out <+: w'.out
  tr : w.trace <+: w'.trace
  same : w.en ≠ 1 → w' = addF k w
  none : w.en = 1 → w.left = 0
theorem pre_take {α : Type} {l m : List α} (h : l <+: m) : m.take l.length = l := by
  obtain ⟨t, rfl⟩ := h
  simp
theorem MeantOk.glob {w : Wld} (h : MeantOk p f w) {x : Nat} (hx : x < 8) (hb : ¬ bndG p x) : (shownS w.globals)[x]? = some (-9) := by
  have hl := h.ok.glob.1
  obtain ⟨s, hs⟩ : ∃ s, w.globals[x]? = some s := ⟨_, gE (by omega)⟩
  cases s with
  | none => simp [shownS, hs]
  | some v =>
    rcases h.led.glob x v hs with ⟨u, e⟩ | e
    · simp [startW, List.getElem?_replicate, hx] at e
    · exact absurd e hb
end
end Go.Hm
end
section
set_option linter.unusedSectionVars false
namespace Go.Hm
open Go Go.RowKit
def stl (t : List (Nat × Nat)) (k : Nat) (w : Wld) : Wld := { w with trace := t, left := k }
def runG (p : Prg) (bod : Nat → List Stm) : Nat → Wld → Nat → Wld × Val
  | 0, w, _ => (w, (0, 0))
  | n + 1, w, a => bodyW p (runG p bod n) a w 0 (bod (w.blk a))
def bodOf (p : Prg) (b : Nat) : List Stm := match p[b]? with | some k => k.body | none => []
theorem runW_runG {p : Prg} : ∀ n : Nat, runW p n = runG p (bodOf p) n
  | 0 => rfl
  | n + 1 => by
    funext w a
    simp only [runW, runG, runW_runG n, bodOf]
    rfl
inductive Del : List Stm → List Stm → Prop
  | nil : Del [] []
  | keep (s : Stm) {l l' : List Stm} (h : Del l l') : Del (s :: l) (s :: l')
  | drop (s : Stm) {l l' : List Stm} (hs : s.kind = 9 ∨ s.kind = 10) (h : Del l l') : Del (s :: l) l'
theorem Del.refl : ∀ l : List Stm, Del l l
  | [] => .nil
  | s :: l => .keep s (Del.refl l)
section
variable {p : Prg} {k m : Nat} {t : List (Nat × Nat)} {w : Wld} {a b i : Nat} {x : Int} {l : Option Nat} {vs : List Val} {s : Stm} {v : Val}
@[simp] theorem stl_stl {t' : List (Nat × Nat)} {k' : Nat} : stl t k (stl t' k' w) = stl t k w := rfl
@[simp] theorem stl_get : (stl t k w).get l x = w.get l x := by cases l <;> rfl
@[simp] theorem stl_loc : (stl t k w).loc p a x = w.loc p a x := rfl
@[simp] theorem stl_blk : (stl t k w).blk a = w.blk a := rfl
@[simp] theorem stl_en : (stl t k w).en = w.en := rfl
@[simp] theorem stl_left : (stl t k w).left = k := rfl
@[simp] theorem stl_out : (stl t k w).out = w.out := rfl
@[simp] theorem stl_set {s : Slt} : (stl t k w).set l x s = stl t k (w.set l x s) := by cases l <;> rfl
theorem stl_tick : stl t k (tickW w a i) = stl t k w := rfl
theorem tick_stl : tickW (stl t (k + 1) w) a i = stl (t ++ [(w.blk a, i)]) k w := rfl
theorem stl_loadW : loadW p (stl t k w) a x = (stl t k (loadW p w a x).1, (loadW p w a x).2) := by
  simp only [loadW, stl_get, stl_loc, stl_blk]
  repeat' split
  all_goals rfl
theorem loadW_left : (loadW p w a x).1.left = w.left := by
  unfold loadW
  repeat' split
  all_goals rfl
theorem stl_loadsW {l : List Int} : ∀ {w : Wld}, loadsW p (stl t k w) a l = (stl t k (loadsW p w a l).1, (loadsW p w a l).2) := by
  induction l with
  | nil => exact fun {w} => rfl
  | cons x l ih =>
    intro w
    by_cases he : w.en ≠ 0
    · have e1 : loadsW p (stl t k w) a (x :: l) = (stl t k w, []) := by simp only [loadsW]; exact if_pos he
      have e2 : loadsW p w a (x :: l) = (w, []) := by simp only [loadsW]; exact if_pos he
      rw [e1, e2]
    · have e1 : loadsW p (stl t k w) a (x :: l) = ((loadsW p (loadW p (stl t k w) a x).1 a l).1, (loadW p (stl t k w) a x).2 :: (loadsW p (loadW p (stl t k w) a x).1 a l).2) := by simp only [loadsW]; exact if_neg he
      have e2 : loadsW p w a (x :: l) = ((loadsW p (loadW p w a x).1 a l).1, (loadW p w a x).2 :: (loadsW p (loadW p w a x).1 a l).2) := by simp only [loadsW]; exact if_neg he
      rw [e1, e2, stl_loadW]
      simp only [ih]
theorem loadsW_left {l : List Int} : ∀ {w : Wld}, (loadsW p w a l).1.left = w.left := by
  induction l with
  | nil => exact fun {w} => rfl
  | cons x l ih =>
    intro w
    simp only [loadsW]
    split
    · rfl
    · rw [ih, loadW_left]
theorem stl_attrW : attrW (stl t k w) v x = (stl t k (attrW w v x).1, (attrW w v x).2) := by
  have e : (stl t k w).classes = w.classes := rfl
  by_cases h3 : v.1 ≠ 3
  · have e1 : attrW (stl t k w) v x = ({ stl t k w with en := 5 }, (0, 0)) := if_pos h3
    have e2 : attrW w v x = ({ w with en := 5 }, (0, 0)) := if_pos h3
    rw [e1, e2]
    rfl
  · cases hc : w.classes[v.2.toNat]? with
    | none => simp [attrW, h3, e, hc]; rfl
    | some c =>
      cases hx : c[x.toNat]? with
      | none => simp [attrW, h3, e, hc, hx]; rfl
      | some s =>
        cases s with
        | none => simp [attrW, h3, e, hc, hx]; rfl
        | some u => simp [attrW, h3, e, hc, hx]
theorem attrW_left : (attrW w v x).1.left = w.left := by
  unfold attrW
  repeat' split
  all_goals rfl
theorem stl_endW : endW (stl t k w) = stl t k (endW w) := by
  unfold endW
  split <;> rename_i h
  · rw [if_pos (show w.en = 0 from h)]; rfl
  · rw [if_neg (show ¬ w.en = 0 from h)]
theorem endW_left : (endW w).left = w.left := by unfold endW; split <;> rfl
theorem endW_out : (endW w).out = w.out := by unfold endW; split <;> rfl
theorem set_left {l : Option Nat} {sl : Slt} : (w.set l x sl).left = w.left := by cases l <;> rfl
theorem set_out {l : Option Nat} {sl : Slt} : (w.set l x sl).out = w.out := by cases l <;> rfl
theorem set_en {l : Option Nat} {sl : Slt} : (w.set l x sl).en = w.en := by cases l <;> rfl
theorem takeW_left : (takeW p w a x).left = w.left := by
  unfold takeW
  split
  · exact set_left
  · rfl
theorem bodyW_zero {R : Wld → Nat → Wld × Val} {l : List Stm} (h : w.left = 0) : (bodyW p R a w i l).1.out = w.out ∧ (bodyW p R a w i l).1.left = 0 := by
  cases l with
  | nil => exact ⟨rfl, h⟩
  | cons s l => simp only [bodyW, h, if_true]; exact ⟨trivial, trivial⟩
end
def Sim (m : Nat) (r r' : Wld × Val) : Prop := (r.1.en ≠ 1 ∧ ∃ t, r' = (stl t m r.1, r.2)) ∨ (r.1.en = 1 ∧ (m = 0 → r'.1.out = r.1.out ∧ r'.1.left = 0))
def SimS (m : Nat) (w w' : Wld) : Prop := (w.en ≠ 1 ∧ ∃ t, w' = stl t m w) ∨ (w.en = 1 ∧ (m = 0 → w'.out = w.out ∧ w'.left = 0))
section
variable {p : Prg} {R : Wld → Nat → Wld × Val} {R2 : Nat → Wld → Nat → Wld × Val} {n : Nat} {w : Wld} {a b i : Nat} {x : Int} {vs : List Val} {s : Stm} {v : Val}
variable (hR : ∀ w a, w.left < n → w.en = 0 → ∃ g, g + (R w a).1.left ≤ w.left ∧ ∀ N t m, g + m < N → Sim m (R w a) (R2 N (stl t (g + m) w) a))
include hR
theorem enterW_sim (hn : w.left < n) (h0 : w.en = 0) : ∃ g, g + (enterW p R w b a vs).1.left ≤ w.left ∧ ∀ N t m, g + m < N → Sim m (enterW p R w b a vs) (enterW p (R2 N) (stl t (g + m) w) b a vs) := by
  obtain ⟨g, h1, h2⟩ := hR (beginW p w b a vs) w.acts.length hn h0
  refine ⟨g, by simp only [enterW, endW_left]; exact h1, fun N t m hN => ?_⟩
  have e : beginW p (stl t (g + m) w) b a vs = stl t (g + m) (beginW p w b a vs) := rfl
  unfold enterW
  rw [e]
  change Sim m _ (endW (R2 N (stl t (g + m) (beginW p w b a vs)) w.acts.length).1, (R2 N (stl t (g + m) (beginW p w b a vs)) w.acts.length).2)
  rcases h2 N t m hN with ⟨h3, t', h4⟩ | ⟨h3, h4⟩
  · rw [h4]
    exact .inl ⟨by rw [endW_en]; exact h3, t', by rw [stl_endW]⟩
  · refine .inr ⟨by rw [endW_en]; exact h3, fun hm => ?_⟩
    simp only [endW_left, endW_out]
    exact h4 hm
theorem callW_sim (hn : w.left < n) (h0 : w.en = 0) : ∃ g, g + (callW p R w v vs).1.left ≤ w.left ∧ ∀ N t m, g + m < N → Sim m (callW p R w v vs) (callW p (R2 N) (stl t (g + m) w) v vs) := by
  have ef : ∀ t k, (stl t k w).funs = w.funs := fun _ _ => rfl
  unfold callW
  simp only [ef]
  split
  · exact ⟨0, by simp, fun N t m _ => .inl ⟨by simp, t, by simp only [Nat.zero_add]; rfl⟩⟩
  · split
    · split
      · exact ⟨0, by simp, fun N t m _ => .inl ⟨by simp, t, by simp only [Nat.zero_add]; rfl⟩⟩
      · exact enterW_sim hR hn h0
    · exact ⟨0, by simp, fun N t m _ => .inl ⟨by simp [h0], t, by simp only [Nat.zero_add]⟩⟩
theorem classW_sim (hn : w.left < n) (h0 : w.en = 0) : ∃ g, g + (classW p R w b a).1.left ≤ w.left ∧ ∀ N t m, g + m < N → Sim m (classW p R w b a) (classW p (R2 N) (stl t (g + m) w) b a) := by
  obtain ⟨g, h1, h2⟩ := enterW_sim (p := p) (b := b) (a := a) (vs := []) hR hn h0
  refine ⟨g, ?_, fun N t m hN => ?_⟩
  · have e : (classW p R w b a).1.left = (enterW p R w b a []).1.left := by
      unfold classW
      split <;> rfl
    rw [e]
    exact h1
  · rcases h2 N t m hN with ⟨h3, t', h4⟩ | ⟨h3, h4⟩
    · unfold classW
      rw [h4]
      simp only
      by_cases he : (enterW p R w b a []).1.en ≠ 0
      · rw [if_pos he, if_pos (show (stl t' m (enterW p R w b a []).1).en ≠ 0 from he)]
        exact .inl ⟨h3, t', rfl⟩
      · rw [if_neg he, if_neg (show ¬ (stl t' m (enterW p R w b a []).1).en ≠ 0 from he)]
        exact .inl ⟨h3, t', rfl⟩
    · have e : (classW p R w b a).1 = (enterW p R w b a []).1 := by
        unfold classW
        rw [if_pos (by rw [h3]; decide)]
      refine .inr ⟨by rw [e]; exact h3, fun hm => ?_⟩
      obtain ⟨h5, h6⟩ := h4 hm
      rw [e]
      unfold classW
      split
      · exact ⟨h5, h6⟩
      · exact ⟨h5, h6⟩
theorem workW_sim (hn : w.left < n) (h0 : w.en = 0) : ∃ g, g + (workW p R w a s vs).1.left ≤ w.left ∧ ∀ N t m, g + m < N → Sim m (workW p R w a s vs) (workW p (R2 N) (stl t (g + m) w) a s vs) := by
  have h01 : w.en ≠ 1 := by rw [h0]; decide
  unfold workW
  split
  · exact ⟨0, by simp, fun N t m _ => .inl ⟨h01, t, by simp only [Nat.zero_add]⟩⟩
  · split
    · unfold plusW
      split
      · exact ⟨0, by simp, fun N t m _ => .inl ⟨by simp, t, by simp only [Nat.zero_add]; rfl⟩⟩
      · exact ⟨0, by simp, fun N t m _ => .inl ⟨h01, t, by simp only [Nat.zero_add]⟩⟩
    · split
      · exact ⟨0, by simp, fun N t m _ => .inl ⟨h01, t, by simp only [Nat.zero_add]; rfl⟩⟩
      · split
        · exact classW_sim hR hn h0
        · split
          · exact callW_sim hR hn h0
          · split
            · exact ⟨0, by simp only [attrW_left]; omega, fun N t m _ => .inl ⟨attrW_en h0, t, by simp only [Nat.zero_add]; exact stl_attrW⟩⟩
            · exact ⟨0, by simp, fun N t m _ => .inl ⟨h01, t, by simp only [Nat.zero_add]⟩⟩
theorem valueW_sim (hn : w.left < n) (h0 : w.en = 0) : ∃ g, g + (valueW p R w a s).1.left ≤ w.left ∧ ∀ N t m, g + m < N → Sim m (valueW p R w a s) (valueW p (R2 N) (stl t (g + m) w) a s) := by
  have h01 : w.en ≠ 1 := by rw [h0]; decide
  have hl := loadsW_en (p := p) (a := a) (l := s.reads) h01
  have hc := loadsW_left (p := p) (a := a) (l := s.reads) (w := w)
  unfold valueW
  simp only [stl_loadsW, stl_en]
  split
  · exact ⟨0, by simp [hc], fun N t m _ => .inl ⟨hl, t, by simp only [Nat.zero_add]⟩⟩
  · rename_i he
    obtain ⟨g, h1, h2⟩ := workW_sim (p := p) (a := a) (s := s) (vs := (loadsW p w a s.reads).2) hR (w := (loadsW p w a s.reads).1) (by rw [hc]; exact hn) (by simpa using he)
    exact ⟨g, by rw [hc] at h1; exact h1, h2⟩
omit hR in
theorem valueW_print (h : s.kind = 7) (h0 : w.en ≠ 1) : (valueW p R w a s).1.en ≠ 1 := by
  have hl := loadsW_en (p := p) (a := a) (l := s.reads) h0
  unfold valueW
  split
  · exact hl
  · simp [workW, h]
    exact hl
theorem stmW_sim (hn : w.left < n) (h0 : w.en = 0) : ∃ g, g + (stmW p R w a s).left ≤ w.left ∧ ∀ N t m, g + m < N → SimS m (stmW p R w a s) (stmW p (R2 N) (stl t (g + m) w) a s) := by
  have h01 : w.en ≠ 1 := by rw [h0]; decide
  by_cases hd : s.kind = 9 ∨ s.kind = 10
  · refine ⟨0, by simp [stmW, hd], fun N t m _ => .inl ⟨by simp [stmW, hd, h01], t, ?_⟩⟩
    simp only [stmW, hd, if_true, Nat.zero_add]
  by_cases h11 : s.kind = 11
  · have e : ∀ (R : Wld → Nat → Wld × Val) w, stmW p R w a s = takeW p w a s.to := fun R w => by simp [stmW, h11]
    refine ⟨0, by rw [e, takeW_left]; omega, fun N t m _ => .inl ?_⟩
    rw [e, e]
    unfold takeW
    simp only [stl_get, stl_loc, stl_blk, Nat.zero_add]
    split
    · exact ⟨by rw [set_en]; exact h01, t, by rw [stl_set]⟩
    · exact ⟨lack_ne1, t, rfl⟩
  obtain ⟨g, h1, h2⟩ := valueW_sim (p := p) (a := a) (s := s) hR hn h0
  have e : ∀ (R : Wld → Nat → Wld × Val) w, stmW p R w a s = if (valueW p R w a s).1.en ≠ 0 then (valueW p R w a s).1
      else if s.kind = 7 then { (valueW p R w a s).1 with out := (valueW p R w a s).1.out ++ [shown (valueW p R w a s).2] }
      else storeW p (valueW p R w a s).1 a s.to (valueW p R w a s).2 := fun R w => by simp only [stmW, hd, h11, if_false]
  refine ⟨g, ?_, fun N t m hN => ?_⟩
  · rw [e]
    split
    · exact h1
    · split
      · exact h1
      · rw [storeW, set_left]
        exact h1
  rw [e, e]
  rcases h2 N t m hN with ⟨h3, t', h4⟩ | ⟨h3, h4⟩
  · rw [h4]
    simp only
    by_cases he : (valueW p R w a s).1.en ≠ 0
    · rw [if_pos he, if_pos (show (stl t' m (valueW p R w a s).1).en ≠ 0 from he)]
      exact .inl ⟨h3, t', rfl⟩
    · rw [if_neg he, if_neg (show ¬ (stl t' m (valueW p R w a s).1).en ≠ 0 from he)]
      split
      · exact .inl ⟨h3, t', rfl⟩
      · refine .inl ⟨by rw [storeW, set_en]; exact h3, t', ?_⟩
        simp only [storeW, stl_loc, stl_set]
  · rw [if_pos (show (valueW p R w a s).1.en ≠ 0 by rw [h3]; decide)]
    refine .inr ⟨h3, fun hm => ?_⟩
    obtain ⟨h5, h6⟩ := h4 hm
    have h7 : ¬ s.kind = 7 := fun h => valueW_print h h01 h3
    split
    · exact ⟨h5, h6⟩
    · simp only [h7, if_false, storeW, set_out, set_left]
      exact ⟨h5, h6⟩
theorem bodyW_sim {l l' : List Stm} (hd : Del l l') : ∀ {w : Wld} {i j : Nat}, w.left < n + 1 → w.en = 0 → ∃ g, g + (bodyW p R a w i l).1.left ≤ w.left ∧ ∀ N t m, g + m < N + 1 → Sim m (bodyW p R a w i l) (bodyW p (R2 N) a (stl t (g + m) w) j l') := by
  induction hd with
  | nil =>
    intro w i j hn h0
    refine ⟨0, by simp [bodyW], fun N t m _ => .inl ⟨by simp only [bodyW]; rw [h0]; decide, t, ?_⟩⟩
    simp only [bodyW, Nat.zero_add]
  | @drop s l l' hs hd ih =>
    intro w i j hn h0
    by_cases hl : w.left = 0
    · have e : bodyW p R a w i (s :: l) = ({ w with en := 1 }, (0, 0)) := by simp only [bodyW, hl, if_true]
      rw [e]
      refine ⟨0, by simp, fun N t m _ => .inr ⟨rfl, fun hm => ?_⟩⟩
      subst hm
      exact bodyW_zero (w := stl t (0 + 0) w) rfl
    · have h8 : ¬ s.kind = 8 := by omega
      have e : ∀ l, bodyW p R a w i (s :: l) = bodyW p R a (tickW w a i) (i + 1) l := by
        intro l
        have h1 : stmW p R (tickW w a i) a s = tickW w a i := by simp [stmW, hs]
        simp only [bodyW, hl, if_false, h8, h1]
        rw [if_neg (by simp [tickW, h0])]
      rw [e]
      obtain ⟨g, h1, h2⟩ := ih (w := tickW w a i) (i := i + 1) (j := j) (by simp only [tickW]; omega) h0
      refine ⟨g, by simp only [tickW] at h1 ⊢; omega, fun N t m hN => ?_⟩
      have := h2 N t m hN
      rwa [stl_tick] at this
  | @keep s l l' hd ih =>
    intro w i j hn h0
    by_cases hl : w.left = 0
    · have e : bodyW p R a w i (s :: l) = ({ w with en := 1 }, (0, 0)) := by simp only [bodyW, hl, if_true]
      rw [e]
      refine ⟨0, by simp, fun N t m _ => .inr ⟨rfl, fun hm => ?_⟩⟩
      subst hm
      exact bodyW_zero (w := stl t (0 + 0) w) rfl
    have ht : (tickW w a i).left < n := by simp only [tickW]; omega
    by_cases h8 : s.kind = 8
    · have e : ∀ (R : Wld → Nat → Wld × Val) w i l, w.left ≠ 0 → bodyW p R a w i (s :: l) = loadW p (tickW w a i) a s.a := fun R w i l h => by simp only [bodyW, h, if_false, h8, if_true]
      rw [e R w i l hl]
      refine ⟨1, by rw [loadW_left]; simp only [tickW]; omega, fun N t m _ => .inl ⟨loadW_en h0, t ++ [(w.blk a, j)], ?_⟩⟩
      rw [e _ _ _ _ (by simp), Nat.add_comm 1 m, tick_stl, ← stl_tick (i := i) (a := a), stl_loadW]
    · obtain ⟨g1, q1, q2⟩ := stmW_sim (p := p) (a := a) (s := s) hR ht h0
      have e : ∀ (R : Wld → Nat → Wld × Val) w i l, w.left ≠ 0 → bodyW p R a w i (s :: l) = if (stmW p R (tickW w a i) a s).en ≠ 0 then (stmW p R (tickW w a i) a s, (0, 0)) else bodyW p R a (stmW p R (tickW w a i) a s) (i + 1) l := fun R w i l h => by simp only [bodyW, h, if_false, h8]
      rw [e R w i l hl]
      by_cases he : (stmW p R (tickW w a i) a s).en ≠ 0
      · rw [if_pos he]
        refine ⟨1 + g1, by simp only [tickW] at q1 ⊢; omega, fun N t m hN => ?_⟩
        rw [e _ _ _ _ (by simp), show 1 + g1 + m = (g1 + m) + 1 by omega, tick_stl, ← stl_tick (i := i) (a := a)]
        rcases q2 N (t ++ [(w.blk a, j)]) m (by omega) with ⟨h3, t', h4⟩ | ⟨h3, h4⟩
        · rw [h4, if_pos (show (stl t' m _).en ≠ 0 from he)]
          exact .inl ⟨h3, t', rfl⟩
        · refine .inr ⟨h3, fun hm => ?_⟩
          obtain ⟨h5, h6⟩ := h4 hm
          split
          · exact ⟨h5, h6⟩
          · have := bodyW_zero (p := p) (R := R2 N) (a := a) (i := j + 1) (l := l') h6
            exact ⟨this.1.trans h5, this.2⟩
      · rw [if_neg he]
        have hle : (stmW p R (tickW w a i) a s).left < n + 1 := by omega
        obtain ⟨g2, r1, r2⟩ := ih (w := stmW p R (tickW w a i) a s) (i := i + 1) (j := j + 1) hle (by simpa using he)
        have ht2 : (tickW w a i).left = w.left - 1 := rfl
        refine ⟨1 + g1 + g2, by omega, fun N t m hN => ?_⟩
        rw [e _ _ _ _ (by simp), show 1 + g1 + g2 + m = (g1 + (g2 + m)) + 1 by omega, tick_stl, ← stl_tick (i := i) (a := a)]
        rcases q2 N (t ++ [(w.blk a, j)]) (g2 + m) (by omega) with ⟨h3, t', h4⟩ | ⟨h3, h4⟩
        · rw [h4, if_neg (show ¬ (stl t' (g2 + m) _).en ≠ 0 from he)]
          exact r2 N t' m (by omega)
        · rw [h3] at he
          exact absurd (by decide) he
end
theorem runG_sim {p : Prg} {bod bod2 : Nat → List Stm} (hd : ∀ b, Del (bod b) (bod2 b)) : ∀ (n : Nat) (w : Wld) (a : Nat), w.left < n → w.en = 0 → ∃ g, g + (runG p bod n w a).1.left ≤ w.left ∧ ∀ N t m, g + m < N → Sim m (runG p bod n w a) (runG p bod2 N (stl t (g + m) w) a)
  | 0, _, _, h, _ => absurd h (by omega)
  | n + 1, w, a, h, h0 => by
    simp only [runG]
    obtain ⟨g, h1, h2⟩ := bodyW_sim (p := p) (a := a) (R2 := runG p bod2) (runG_sim hd n) (hd (w.blk a)) (w := w) (i := 0) (j := 0) h h0
    refine ⟨g, h1, fun N t m hN => ?_⟩
    cases N with
    | zero => exact absurd hN (by omega)
    | succ N => exact h2 N t m hN
end Go.Hm
end
section
set_option linter.unusedSectionVars false
namespace Go.Hm
open Go Go.RowKit
structure KB (w w' : Wld) : Prop where
  len : w.acts.length ≤ w'.acts.length
  blk : ∀ i, i < w.acts.length → w'.blk i = w.blk i
theorem KB.refl (w : Wld) : KB w w := ⟨Nat.le_refl _, fun _ _ => rfl⟩
theorem KB.trans {w w' w'' : Wld} (h : KB w w') (h' : KB w' w'') : KB w w'' := ⟨Nat.le_trans h.len h'.len, fun i hi => (h'.blk i (Nat.lt_of_lt_of_le hi h.len)).trans (h.blk i hi)⟩
theorem KB.same {w w' : Wld} (h : w'.acts = w.acts) : KB w w' := ⟨by rw [h]; exact Nat.le_refl _, fun i _ => by simp only [Wld.blk, h]⟩
theorem KB.set {w : Wld} {l : Option Nat} {x : Int} {s : Slt} : KB w (w.set l x s) := by
  cases l with
  | none => exact .same rfl
  | some i =>
    refine ⟨by simp [Wld.set], fun j _ => ?_⟩
    simp only [Wld.set, Wld.blk, List.getElem?_modify]
    by_cases e : i = j
    · subst e
      cases h : w.acts[i]? <;> simp
    · simp [e]
section
variable {p : Prg} {R : Wld → Nat → Wld × Val} {w : Wld} {a b i : Nat} {x : Int} {vs : List Val} {s : Stm} {v : Val}
theorem loadW_kb : KB w (loadW p w a x).1 := by
  unfold loadW
  repeat' split
  all_goals exact .same rfl
theorem loadsW_kb {l : List Int} : ∀ {w : Wld}, KB w (loadsW p w a l).1 := by
  induction l with
  | nil => exact fun {w} => .refl w
  | cons x l ih =>
    intro w
    simp only [loadsW]
    split
    · exact .refl w
    · exact loadW_kb.trans ih
theorem takeW_kb : KB w (takeW p w a x) := by
  unfold takeW
  split
  · exact .set
  · exact .same rfl
theorem endW_kb : KB w (endW w) := by
  unfold endW
  split
  · exact .same rfl
  · exact .refl w
theorem beginW_kb : KB w (beginW p w b a vs) := by
  refine ⟨by simp [beginW], fun i hi => ?_⟩
  simp only [Wld.blk, beginW, List.getElem?_append_left hi]
variable (hR : ∀ w a, a < w.acts.length → KB w (R w a).1)
include hR
theorem enterW_kb : KB w (enterW p R w b a vs).1 := (beginW_kb.trans (hR (beginW p w b a vs) w.acts.length (by simp [beginW]))).trans endW_kb
theorem callW_kb : KB w (callW p R w v vs).1 := by
  unfold callW
  split
  · exact .same rfl
  · split
    · split
      · exact .same rfl
      · exact enterW_kb hR
    · exact .refl w
theorem classW_kb : KB w (classW p R w b a).1 := by
  unfold classW
  split
  · exact enterW_kb hR
  · exact (enterW_kb (p := p) (b := b) (a := a) (vs := []) hR).trans (.same rfl)
theorem workW_kb : KB w (workW p R w a s vs).1 := by
  unfold workW
  split
  · exact .refl w
  · split
    · unfold plusW
      split
      · exact .same rfl
      · exact .refl w
    · split
      · exact .same rfl
      · split
        · exact classW_kb hR
        · split
          · exact callW_kb hR
          · split
            · unfold attrW
              repeat' split
              all_goals exact .same rfl
            · exact .refl w
theorem valueW_kb : KB w (valueW p R w a s).1 := by
  unfold valueW
  split
  · exact loadsW_kb
  · exact loadsW_kb.trans (workW_kb hR)
theorem stmW_kb : KB w (stmW p R w a s) := by
  unfold stmW
  split
  · exact .refl w
  · split
    · exact takeW_kb
    · split
      · exact valueW_kb hR
      · split
        · exact (valueW_kb hR).trans (.same rfl)
        · exact (valueW_kb hR).trans .set
theorem bodyW_kb {l : List Stm} : ∀ {w : Wld} {i : Nat}, KB w (bodyW p R a w i l).1 := by
  induction l with
  | nil => exact fun {w i} => .refl w
  | cons s l ih =>
    intro w i
    have ht : KB w (tickW w a i) := .same rfl
    simp only [bodyW]
    split
    · exact .same rfl
    · split
      · exact ht.trans loadW_kb
      · split
        · exact ht.trans (stmW_kb hR)
        · exact (ht.trans (stmW_kb hR)).trans ih
end
theorem runG_kb {p : Prg} {bod : Nat → List Stm} : ∀ (n : Nat) (w : Wld) (a : Nat), a < w.acts.length → KB w (runG p bod n w a).1
  | 0, w, _, _ => .refl w
  | n + 1, w, a, _ => bodyW_kb (runG_kb n)
structure Alike (p q : Prg) : Prop where
  kind : ∀ b, kindAt p b = kindAt q b
  par : ∀ b : Nat, (match p[b]? with | some k => k.params | none => []) = (match q[b]? with | some k => k.params | none => [])
theorem Alike.parN {p q : Prg} (h : Alike p q) (b : Nat) : parN p b = parN q b := by
  have := congrArg List.length (h.par b)
  unfold Hm.parN
  cases h1 : p[b]? <;> cases h2 : q[b]? <;> simp [h1, h2] at this ⊢ <;> omega
def nmsOk (p q : Prg) (b : Nat) (s : Stm) : Prop := (∀ x ∈ s.reads, owner p b x = owner q b x) ∧ (s.kind = 8 → owner p b s.a = owner q b s.a) ∧ ((s.kind ≠ 7 ∧ s.kind ≠ 8 ∧ s.kind ≠ 9 ∧ s.kind ≠ 10) → owner p b s.to = owner q b s.to)
section
variable {p q : Prg} {R S : Wld → Nat → Wld × Val} {w : Wld} {a b i : Nat} {x : Int} {vs : List Val} {s : Stm} {v : Val}
variable (hA : Alike p q)
include hA
theorem loc_alike (h : owner p (w.blk a) x = owner q (w.blk a) x) : w.loc p a x = w.loc q a x := by simp only [Wld.loc, h]
theorem lack_alike {o : Int} : lack p b o = lack q b o := by simp only [lack, hA.kind]
theorem loadW_alike (h : owner p (w.blk a) x = owner q (w.blk a) x) : loadW p w a x = loadW q w a x := by
  simp only [loadW, loc_alike hA h, h, lack_alike hA]
theorem loadsW_alike {l : List Int} : ∀ {w : Wld}, (∀ x ∈ l, owner p (w.blk a) x = owner q (w.blk a) x) → a < w.acts.length → loadsW p w a l = loadsW q w a l := by
  induction l with
  | nil => exact fun {w} _ _ => rfl
  | cons x l ih =>
    intro w h ha
    have hk := loadW_kb (p := q) (w := w) (a := a) (x := x)
    simp only [loadsW, loadW_alike hA (h x (by simp))]
    split
    · rfl
    · rw [ih (fun y hy => by rw [hk.blk a ha]; exact h y (by simp [hy])) (Nat.lt_of_lt_of_le ha hk.len)]
theorem takeW_alike (h : owner p (w.blk a) x = owner q (w.blk a) x) : takeW p w a x = takeW q w a x := by
  simp only [takeW, loc_alike hA h, h, lack_alike hA]
theorem beginW_alike : beginW p w b a vs = beginW q w b a vs := by
  have e := hA.par b
  unfold beginW
  cases h1 : p[b]? <;> cases h2 : q[b]? <;> simp only [h1, h2] at e ⊢ <;> rw [e]
variable (hR : ∀ w a, a < w.acts.length → R w a = S w a)
include hR
theorem enterW_alike : enterW p R w b a vs = enterW q S w b a vs := by
  have e : R (beginW q w b a vs) w.acts.length = S (beginW q w b a vs) w.acts.length := hR _ _ (by simp [beginW])
  simp only [enterW, beginW_alike hA, e]
theorem callW_alike : callW p R w v vs = callW q S w v vs := by
  simp only [callW, hA.parN, enterW_alike hA hR]
theorem classW_alike : classW p R w b a = classW q S w b a := by
  simp only [classW, enterW_alike hA hR]
theorem workW_alike : workW p R w a s vs = workW q S w a s vs := by
  simp only [workW, classW_alike hA hR, callW_alike hA hR]
theorem valueW_alike (h : nmsOk p q (w.blk a) s) (ha : a < w.acts.length) : valueW p R w a s = valueW q S w a s := by
  simp only [valueW, loadsW_alike hA h.1 ha, workW_alike hA hR]
theorem stmW_alike (hS : ∀ w a, a < w.acts.length → KB w (S w a).1) (h : nmsOk p q (w.blk a) s) (h8 : s.kind ≠ 8) (ha : a < w.acts.length) : stmW p R w a s = stmW q S w a s := by
  have hv := valueW_kb (p := q) (w := w) (a := a) (s := s) hS
  by_cases h9 : s.kind = 9 ∨ s.kind = 10
  · simp only [stmW, h9, if_true]
  by_cases h11 : s.kind = 11
  · have ht := h.2.2 ⟨by omega, by omega, by omega, by omega⟩
    simp only [stmW, h9, h11, if_false, if_true, takeW_alike hA ht]
  simp only [stmW, h9, h11, if_false, valueW_alike hA hR h ha]
  split
  · rfl
  · split
    · rfl
    · rename_i h7
      have ht := h.2.2 ⟨h7, h8, by omega, by omega⟩
      simp only [storeW]
      rw [loc_alike hA (by rw [hv.blk a ha]; exact ht)]
theorem bodyW_alike (hS : ∀ w a, a < w.acts.length → KB w (S w a).1) {l : List Stm} : ∀ {w : Wld} {i : Nat}, (∀ s ∈ l, nmsOk p q (w.blk a) s) → a < w.acts.length → bodyW p R a w i l = bodyW q S a w i l := by
  induction l with
  | nil => exact fun {w i} _ _ => rfl
  | cons s l ih =>
    intro w i h ha
    have hs := h s (by simp)
    have hb : (tickW w a i).blk a = w.blk a := rfl
    have hta : a < (tickW w a i).acts.length := ha
    by_cases hl : w.left = 0
    · simp only [bodyW, hl, if_true]
    by_cases h8 : s.kind = 8
    · simp only [bodyW, hl, h8, if_true, if_false]
      exact loadW_alike hA (by rw [hb]; exact hs.2.1 h8)
    have hst : stmW p R (tickW w a i) a s = stmW q S (tickW w a i) a s := stmW_alike hA hR hS (by rw [hb]; exact hs) h8 hta
    simp only [bodyW, hl, h8, if_false, hst]
    split
    · rfl
    · have hk := stmW_kb (p := q) (w := tickW w a i) (a := a) (s := s) hS
      exact ih (fun s' hs' => by rw [hk.blk a hta, hb]; exact h s' (by simp [hs'])) (Nat.lt_of_lt_of_le hta hk.len)
end
theorem runG_alike {p q : Prg} {bod : Nat → List Stm} (hA : Alike p q) (h : ∀ b, ∀ s ∈ bod b, nmsOk p q b s) : ∀ (n : Nat) (w : Wld) (a : Nat), a < w.acts.length → runG p bod n w a = runG q bod n w a
  | 0, _, _, _ => rfl
  | n + 1, w, a, ha => by
    simp only [runG]
    exact bodyW_alike hA (runG_alike hA h n) (runG_kb n) (h (w.blk a)) ha
theorem runG_pre {p : Prg} {bod : Nat → List Stm} {q : Bool} : ∀ (n : Nat) (w : Wld) (a : Nat), Pre q w (runG p bod n w a).1
  | 0, w, _ => .refl w
  | n + 1, w, a => bodyW_pre (runG_pre n)
theorem runG_lock {p : Prg} {bod : Nat → List Stm} {k : Nat} : ∀ (n : Nat) (w : Wld) (a : Nat), w.left + k < n → w.en = 0 → Lock k (runG p bod n w a) (runG p bod n (addF k w) a)
  | 0, _, _, h, _ => absurd h (by omega)
  | n + 1, w, a, h, h0 => by
    simp only [runG, addF_blk]
    exact bodyW_lock (runG_pre n) (fun w a => runG_lock n w a) h h0
structure SameB (p q : Prg) : Prop where
  alike : Alike p q
  bare : ∃ bod : Nat → List Stm, (∀ b, Del (bodOf p b) (bod b)) ∧ (∀ b, Del (bodOf q b) (bod b)) ∧ ∀ b, ∀ s ∈ bod b, nmsOk p q b s
theorem start_stl {k f : Nat} : startW k = stl [] k (startW f) := rfl
structure SameR (w w' : Wld) : Prop where
  fuel : w.out <+: w'.out ∨ w'.out <+: w.out
  done : w.en ≠ 1 → w'.en ≠ 1 → w.out = w'.out ∧ w.en = w'.en ∧ w.globals = w'.globals
theorem sim_out {m : Nat} {r r' : Wld × Val} (h : Sim m r r') (hm : m = 0) : r'.1.out = r.1.out := by
  rcases h with ⟨_, t, h⟩ | ⟨_, h⟩
  · rw [h]; rfl
  · exact (h hm).1
theorem same_run {p q : Prg} (h : SameB p q) : SameR (meantW p 150) (meantW q 150) := by
  obtain ⟨bod, hp, hq, hn⟩ := h.bare
  have s0 : (startW 150).en = 0 := rfl
  obtain ⟨g1, l1, r1⟩ := runG_sim hp 151 (startW 150) 0 (by simp [startW]) s0
  obtain ⟨g2, l2, r2⟩ := runG_sim hq 151 (startW 150) 0 (by simp [startW]) s0
  have e1 : runG p (bodOf p) 151 (startW 150) 0 = runW p 151 (startW 150) 0 := by rw [runW_runG]
  have e2 : runG q (bodOf q) 151 (startW 150) 0 = runW q 151 (startW 150) 0 := by rw [runW_runG]
  rw [e1] at r1 l1
  rw [e2] at r2 l2
  have f1 : g1 ≤ 150 := Nat.le_trans (Nat.le_add_right _ _) l1
  have f2 : g2 ≤ 150 := Nat.le_trans (Nat.le_add_right _ _) l2
  have hB : ∀ N k, runG q bod N (startW k) 0 = runG p bod N (startW k) 0 := fun N k => (runG_alike h.alike hn N (startW k) 0 (by simp [startW])).symm
  have a1 : ∀ m, g1 + m < 400 → Sim m (runW p 151 (startW 150) 0) (runG p bod 400 (startW (g1 + m)) 0) := fun m hm => r1 400 [] m hm
  have a2 : ∀ m, g2 + m < 400 → Sim m (runW q 151 (startW 150) 0) (runG p bod 400 (startW (g2 + m)) 0) := fun m hm => by rw [← hB]; exact r2 400 [] m hm
  have mono : ∀ i j, i ≤ j → j < 400 → (runG p bod 400 (startW i) 0).1.out <+: (runG p bod 400 (startW j) 0).1.out := by
    intro i j hij hj
    have hl := runG_lock (p := p) (bod := bod) (k := j - i) 400 (startW i) 0 (by simp only [startW]; omega) rfl
    have e : addF (j - i) (startW i) = startW j := by simp only [addF, startW]; congr 1; omega
    rw [e] at hl
    rcases hl with ⟨_, h2⟩ | h2
    · rw [h2]; exact List.prefix_refl _
    · exact h2.pre.out
  have o1 : (runG p bod 400 (startW g1) 0).1.out = (meantW p 150).out := sim_out (a1 0 (by omega)) rfl
  have o2 : (runG p bod 400 (startW g2) 0).1.out = (meantW q 150).out := sim_out (a2 0 (by omega)) rfl
  refine ⟨?_, fun n1 n2 => ?_⟩
  · rw [← o1, ← o2]
    rcases Nat.le_total g1 g2 with hg | hg
    · exact .inl (mono g1 g2 hg (by omega))
    · exact .inr (mono g2 g1 hg (by omega))
  · have b1 := a1 g2 (by omega)
    have b2 := a2 g1 (by omega)
    rw [Nat.add_comm g2 g1] at b2
    rcases b1 with ⟨_, t1, b1⟩ | ⟨b1, _⟩
    · rcases b2 with ⟨_, t2, b2⟩ | ⟨b2, _⟩
      · rw [b1] at b2
        have e := congrArg Prod.fst b2
        simp only at e
        have x1 := congrArg Wld.out e
        have x2 := congrArg Wld.en e
        have x3 := congrArg Wld.globals e
        exact ⟨x1, x2, x3⟩
      · exact absurd b2 n2
    · exact absurd b1 n1
theorem less_steps {p q : Prg} (hA : Alike p q) (hd : ∀ b, Del (bodOf p b) (bodOf q b)) (hn : ∀ b, ∀ s ∈ bodOf q b, nmsOk p q b s) : (meantW p 150).left ≤ (meantW q 150).left := by
  obtain ⟨g, l1, r1⟩ := runG_sim hd 151 (startW 150) 0 (by simp [startW]) rfl
  have e1 : runG p (bodOf p) 151 (startW 150) 0 = runW p 151 (startW 150) 0 := by rw [runW_runG]
  have e2 : runG p (bodOf q) 151 (startW 150) 0 = runW q 151 (startW 150) 0 := by rw [runW_runG (p := q), runG_alike hA hn 151 (startW 150) 0 (by simp [startW])]
  rw [e1] at r1 l1
  have f1 : g + (meantW p 150).left ≤ 150 := l1
  have := r1 151 [] (150 - g) (by omega)
  rw [show g + (150 - g) = 150 by omega, ← start_stl, e2] at this
  rcases this with ⟨_, t, h⟩ | ⟨h, _⟩
  · have e : (meantW q 150).left = 150 - g := by
      show (runW q 151 (startW 150) 0).1.left = _
      rw [h]
      rfl
    omega
  · have : (meantW p 150).left = 0 := by
      rcases meantW_lock (p := p) (f := 150) (k := 0) (by omega) with ⟨h1, _⟩ | h2
      · exact absurd h h1
      · exact h2.left
    omega
end Go.Hm
end
section
namespace Go.Hm
open Go Go.RowKit
def isDecl (s : Stm) : Bool := (s.kind == 9) || (s.kind == 10)
theorem del_bare : ∀ l : List Stm, Del l (bareS l)
  | [] => .nil
  | s :: l => by
    by_cases h : s.kind = 9 ∨ s.kind = 10
    · have e : bareS (s :: l) = bareS l := by
        rcases h with h | h <;> simp [bareS, h]
      rw [e]
      exact .drop s h (del_bare l)
    · have e : bareS (s :: l) = s :: bareS l := by
        simp only [not_or] at h
        simp [bareS, h.1, h.2]
      rw [e]
      exact .keep s (del_bare l)
theorem Del.trans {l l' l'' : List Stm} (h : Del l l') (h' : Del l' l'') : Del l l'' := by
  induction h generalizing l'' with
  | nil => exact h'
  | drop s hs _ ih => exact .drop s hs (ih h')
  | keep s _ ih =>
    cases h' with
    | keep _ h' => exact .keep s (ih h')
    | drop _ hs h' => exact .drop s hs (ih h')
theorem Del.bare {l l' : List Stm} (h : Del l l') : bareS l = bareS l' := by
  induction h with
  | nil => rfl
  | drop s hs _ ih =>
    rw [← ih]
    rcases hs with h | h <;> simp [bareS, h]
  | keep s _ ih => simp only [bareS, List.filter_cons] at ih ⊢; rw [ih]
theorem del_cut : ∀ {l : List Stm} {i : Nat} {s : Stm}, l[i]? = some s → (s.kind = 9 ∨ s.kind = 10) → Del l (l.eraseIdx i)
  | [], _, _, h, _ => by simp at h
  | s :: l, 0, _, h, hs => by
    obtain rfl : s = _ := by simpa using h
    exact .drop _ hs (Del.refl l)
  | s :: l, i + 1, _, h, hs => by
    exact .keep s (del_cut (by simpa using h) hs)
theorem mem_bare {l : List Stm} {s : Stm} : s ∈ bareS l ↔ s ∈ l ∧ ¬ (s.kind = 9 ∨ s.kind = 10) := by
  simp only [bareS, List.mem_filter, Bool.not_eq_true', Bool.or_eq_false_iff, beq_eq_false_iff_ne, ne_eq, not_or]
section
variable {p q : Prg} {b : Nat} {k k' : Blk} {x : Int} {s : Stm}
theorem bareP_get (h : bareP p = bareP q) (hk : p[b]? = some k) : ∃ k', q[b]? = some k' ∧ bareB k = bareB k' := by
  have h1 := congrArg (fun l => l[b]?) h
  simp only [bareP, List.getElem?_map, hk, Option.map_some] at h1
  cases hq : q[b]? with
  | none => simp [hq] at h1
  | some k' =>
    rw [hq] at h1
    exact ⟨k', rfl, by simpa using h1⟩
theorem bareP_len (h : bareP p = bareP q) : p.length = q.length := by
  have := congrArg List.length h
  simpa [bareP] using this
theorem alike_of (h : bareP p = bareP q) : Alike p q := by
  refine ⟨fun b => ?_, fun b => ?_⟩
  · unfold kindAt
    cases hp : p[b]? with
    | some k =>
      obtain ⟨k', hk', e⟩ := bareP_get h hp
      rw [hk']
      have x1 := congrArg Blk.kind e
      exact x1
    | none =>
      have : q[b]? = none := by
        rw [List.getElem?_eq_none_iff] at hp ⊢
        rw [← bareP_len h]
        exact hp
      rw [this]
  · cases hp : p[b]? with
    | some k =>
      obtain ⟨k', hk', e⟩ := bareP_get h hp
      rw [hk']
      have x1 := congrArg Blk.params e
      exact x1
    | none =>
      have : q[b]? = none := by
        rw [List.getElem?_eq_none_iff] at hp ⊢
        rw [← bareP_len h]
        exact hp
      rw [this]
theorem bare_bod (h : bareP p = bareP q) (b : Nat) : bareS (bodOf p b) = bareS (bodOf q b) := by
  unfold bodOf
  cases hp : p[b]? with
  | some k =>
    obtain ⟨k', hk', e⟩ := bareP_get h hp
    rw [hk']
    have x1 := congrArg Blk.body e
    exact x1
  | none =>
    have : q[b]? = none := by
      rw [List.getElem?_eq_none_iff] at hp ⊢
      rw [← bareP_len h]
      exact hp
    rw [this]
theorem own_agree (ho : ownersOf p = ownersOf q) (hk : p[b]? = some k) (hk' : q[b]? = some k') (h0 : 0 ≤ x ∧ x ≤ 7) (hx : x ∈ k.rd ++ k.bd) (hx' : x ∈ k'.rd ++ k'.bd) : owner p b x = owner q b x := by
  have hbp : b < p.length := (gS hk).1
  have hbq : b < q.length := (gS hk').1
  have h1 := congrArg (fun l => l[b]?) ho
  simp only [ownersOf, List.getElem?_map, List.getElem?_range hbp, List.getElem?_range hbq, Option.map_some, Option.some.injEq, ownersAt, hk, hk'] at h1
  obtain ⟨n, rfl⟩ : ∃ n : Nat, x = n := ⟨x.toNat, by omega⟩
  have hn : n < 8 := by omega
  have h2 := congrArg (fun l => l[n]?) h1
  simp only [ownersRow, List.getElem?_map, List.getElem?_range hn, Option.map_some, Option.some.injEq] at h2
  rw [if_pos hx, if_pos hx'] at h2
  exact h2
theorem reads_rd (hn : NmOk k) (hs : s ∈ k.body) (hx : x ∈ s.reads) : x ∈ k.rd := by
  have h1 := hn.reads s hs x hx
  simp only [Blk.rd, mem_sorted, readsAll, List.mem_flatMap]
  exact ⟨⟨s, hs, hx⟩, h1⟩
theorem nms_of (hp : ShapeP p) (hq : ShapeP q) (ho : ownersOf p = ownersOf q) (hk : p[b]? = some k) (hk' : q[b]? = some k') (hs : s ∈ k.body) (hs' : s ∈ k'.body) : nmsOk p q b s := by
  have n1 := hp.names k (List.mem_of_getElem? hk)
  have n2 := hq.names k' (List.mem_of_getElem? hk')
  have hkd := n1.kinds s hs
  have key : ∀ x ∈ s.reads, owner p b x = owner q b x := fun x hx => own_agree ho hk hk' (n1.reads s hs x hx) (List.mem_append_left _ (reads_rd n1 hs hx)) (List.mem_append_left _ (reads_rd n2 hs' hx))
  refine ⟨key, fun h8 => key s.a (by simp [Stm.reads, h8]), fun h => ?_⟩
  have hst : s.sets ∨ s.kind = 11 := by
    simp only [Stm.sets]
    omega
  exact own_agree ho hk hk' (n1.tos s hs) (List.mem_append_right _ (to_bd n1 hs hst)) (List.mem_append_right _ (to_bd n2 hs' hst))
theorem sameB_of (hp : ShapeP p) (hq : ShapeP q) (hb : bareP p = bareP q) (ho : ownersOf p = ownersOf q) : SameB p q := by
  refine ⟨alike_of hb, fun b => bareS (bodOf p b), fun b => del_bare _, fun b => by
    show Del (bodOf q b) (bareS (bodOf p b))
    rw [bare_bod hb]
    exact del_bare _, fun b s hs => ?_⟩
  have hs0 : s ∈ bareS (bodOf p b) := hs
  have hs' := hs0
  rw [bare_bod hb] at hs'
  have m1 := (mem_bare.1 hs0).1
  have m2 := (mem_bare.1 hs').1
  unfold bodOf at m1 m2
  cases hk : p[b]? with
  | none => rw [hk] at m1; cases m1
  | some k =>
    cases hk' : q[b]? with
    | none => rw [hk'] at m2; cases m2
    | some k' =>
      rw [hk] at m1
      rw [hk'] at m2
      exact nms_of hp hq ho hk hk' m1 m2
theorem steps_le (hp : ShapeP p) (hq : ShapeP q) (hd : ∀ b, Del (bodOf p b) (bodOf q b)) (hb : bareP p = bareP q) (ho : ownersOf p = ownersOf q) : (meantW p 150).left ≤ (meantW q 150).left := by
  refine less_steps (alike_of hb) hd fun b s hs => ?_
  by_cases h : s.kind = 9 ∨ s.kind = 10
  · refine ⟨fun x hx => ?_, fun h8 => ?_, fun h3 => ?_⟩
    · have : s.reads = [] := by
        rcases h with h | h <;> simp [Stm.reads, h]
      rw [this] at hx
      cases hx
    · omega
    · omega
  · have h1 : s ∈ bareS (bodOf q b) := mem_bare.2 ⟨hs, h⟩
    rw [← bare_bod hb] at h1
    have m1 := (mem_bare.1 h1).1
    unfold bodOf at m1 hs
    cases hk : p[b]? with
    | none => rw [hk] at m1; cases m1
    | some k =>
      cases hk' : q[b]? with
      | none => rw [hk'] at hs; cases hs
      | some k' =>
        rw [hk] at m1
        rw [hk'] at hs
        exact nms_of hp hq ho hk hk' m1 hs
end
def sameG (p q : Prg) : Bool := (progOk p && progOk q) && (decide (bareP p = bareP q) && decide (ownersOf p = ownersOf q))
theorem sameG_parts {p q : Prg} (h : sameG p q = true) : progOk p = true ∧ progOk q = true ∧ bareP p = bareP q ∧ ownersOf p = ownersOf q := by
  simp only [sameG, Bool.and_eq_true, decide_eq_true_eq] at h
  exact ⟨h.1.1, h.1.2, h.2.1, h.2.2⟩
theorem sameG_symm {p q : Prg} (h : sameG p q = true) : sameG q p = true := by
  obtain ⟨h1, h2, h3, h4⟩ := sameG_parts h
  simp [sameG, h1, h2, h3, h4]
theorem sameG_self {p : Prg} (h : progOk p = true) : sameG p p = true := by simp [sameG, h]
theorem shape_ok {p : Prg} (hs : Sml p) (h : progOk p = true) : ShapeP p := by
  simp only [progOk, Bool.and_eq_true] at h
  exact ShapeP.of hs h.1
theorem sameG_run {p q : Prg} (hp : Sml p) (hq : Sml q) (h : sameG p q = true) : SameR (meantW p 150) (meantW q 150) := by
  obtain ⟨h1, h2, h3, h4⟩ := sameG_parts h
  exact same_run (sameB_of (shape_ok hp h1) (shape_ok hq h2) h3 h4)
end Go.Hm
end
