/-
  Own texts, joined by mkclaim.py: Hm80, Hm83.
-/
import Derived.Test.YtpckgioefpkmoaaGreatE14
import Derived.Stop.Joined
set_option linter.unusedSimpArgs false
set_option linter.unusedVariables false

section
namespace Go.Hm
open Go Go.RowKit
@[simp] theorem lok_mp {P : Program} {T : TypeId} {hp : Nm → Option AO} {m : Nm} {k' : IntKind} {n : Int} {ok : Bool} : lokAV P T hp (.mp m) (.sc (.int k' n)) ok = match tmapI P T with
    | some q => if k' = q.1 then (match hp m with
      | some (.map es) => if mkeys q.1 es then (match mget q.1 n es with
        | some y => some (if ok then .tup [y, .sc (.bool true)] else y)
        | none => (zflat P q.2).map (fun z => if ok then .tup [z, .sc (.bool false)] else z)) else none
      | _ => none) else none
    | none => none := by
  unfold lokAV
  cases tmapI P T with
  | none => rfl
  | some q => rfl
theorem OwnM.sub {hp : Nm → Option AO} {F : Nat} {p : Prg} {w : Wld} (h : OwnM hp F p w) {D : Nm → Bool} (hD : ∀ m, DM m = true → D m = true := by intro m hm; first | exact hm | simp [hm]) : OwnM (dsub D hp) F p w := by
  refine h.hp' (f := some) (fun _ _ => rfl) (fun m hm => ?_)
  rw [dsub_eq, if_pos (hD m hm)]
  cases hp m with
  | none => rfl
  | some o => simp [AO.tr_some]
theorem MapOk.get' {ms : NMap} {w : Wld} {l : Option Nat} {x : Int} (h : MapOk ms (w.vars l)) (hx : 0 ≤ x ∧ x ≤ 7) : lk x ms = w.get l x := by
  rw [h.at hx]
  unfold Wld.get
  cases (w.vars l)[x.toNat]? <;> rfl
theorem ownM_set {hp hp' : Nm → Option AO} {F : Nat} {p : Prg} {w : Wld} {a x : Nat} {s : Slt} {l : Option Nat} (hh : Heads p) (hw : WOk p w) (ha : a < w.acts.length) (hx : x < 8) (hl : w.loc p a x = l) (hnm : w.nms (hIdx (w.loc p a x)) = w.vars (w.loc p a x)) (h : OwnM hp F p w) {ms : NMap} (hms : MapOk ms ((w.vars l).set (x : Int).toNat s)) (hq : ∀ m, DM m = true → hp' m = if m = .c (En (hIdx l)) 0 1 then some (.map (mrows ms)) else hp m) : OwnM hp' F p (w.set l x s) := by
  obtain ⟨e1, e2, e3, e4, e5, e6, e7⟩ := set_same (w := w) (l := l) (x := (x : Int)) (s := s)
  have hlen : (w.set l x s).acts.length = w.acts.length := set_len
  have hnms : ∀ i, (w.set l x s).nms i = if i = hIdx l then (w.vars l).set (x : Int).toNat s else w.nms i := by
    intro i
    cases l with
    | none =>
      by_cases e : i = 0
      · simp [Wld.nms, Wld.set, hIdx, e, Wld.vars]
      · simp [Wld.nms, Wld.set, hIdx, e]
    | some j =>
      have hj0 : j ≠ 0 := by
        rintro rfl
        rcases loc_spec (x := (x : Int)) hh hw ha with ⟨_, h2⟩ | ⟨o, i, c, ho, _, h2, _, h4, h5, _⟩
        · rw [hl] at h2; cases h2
        · rw [hl] at h2
          obtain rfl := Option.some.inj h2
          obtain ⟨a0, h0, hb0⟩ := hw.a0
          rw [h0] at h4
          obtain rfl := Option.some.inj h4
          omega
      by_cases e : i = 0
      · subst e
        have : ¬ 0 = j := fun e => hj0 e.symm
        simp [Wld.nms, Wld.set, hIdx, this]
      · by_cases e2 : i = j
        · subst e2
          simp only [Wld.nms, Wld.set, hIdx, e, if_false, if_true, List.getElem?_modify, Wld.vars]
          cases w.acts[i]? with
          | none => simp
          | some b => simp
        · have e3 : ¬ j = i := fun e => e2 e.symm
          simp only [Wld.nms, Wld.set, hIdx, e, e2, if_false, List.getElem?_modify, e3]
          cases w.acts[i]? <;> simp
  have hget : ∀ m, DM m = true → m ≠ .c (En (hIdx l)) 0 1 → hp' m = hp m := fun m hm hne => by rw [hq m hm, if_neg hne]
  refine ⟨?_, ⟨?_, fun j k hj hk => ?_⟩, ?_, ?_, h.run.imp fun l hl => ⟨by rw [hlen]; exact hl.1, ?_⟩, ?_, fun k g hg => ?_, ?_, fun k c hc => ?_, fun i b hb => ?_, fun i hi => ?_, fun k i j hk hn => ?_⟩
  · rw [hget _ rfl (by simp), h.top]; simp [mRow, e1, e2, e3, e4, e5, e6, e7]
  · rw [hget _ rfl (by simp), h.scs.top]
  · rw [hget _ rfl (by simp), h.scs.sc j k hj hk]
  · rw [hget _ rfl (by simp), h.out, e3]
  · rw [hget _ rfl (by simp), h.trc, e4]
  · rw [hget _ rfl (by simp), hl.2, e6]
  · rw [hget _ rfl (by simp), h.funs, e1]
  · rw [e1] at hg
    obtain ⟨a1, a2, a3, a4⟩ := h.bx k g hg
    exact ⟨by rw [hget _ rfl (by simp), a1], by rw [hget _ rfl (by simp), a2], by rw [hget _ rfl (by simp), a3], by rw [hget _ rfl (by simp), a4]⟩
  · rw [hget _ rfl (by simp), h.clss, e2]
  · rw [e2] at hc
    obtain ⟨ms, a1, a2⟩ := h.cls k c hc
    exact ⟨ms, by rw [hget _ rfl (by simp), a1], a2⟩
  · obtain ⟨b', hb', f1, f2, _⟩ := set_acts hb
    rw [hget _ rfl (by simp), h.env i b' hb']
    simp [envRow, f1, f2]
  · rw [hlen] at hi
    rw [hnms]
    by_cases e : i = hIdx l
    · subst e
      rw [if_pos rfl]
      exact ⟨ms, by rw [hq _ rfl, if_pos rfl], hms⟩
    · rw [if_neg e]
      obtain ⟨ms', a1, a2⟩ := h.nms i hi
      exact ⟨ms', by rw [hget _ rfl (by simp [e]), a1], a2⟩
  · rw [hget (.u k i j) hk (by simp)] at hn
    rw [hlen, e1]
    exact h.only k i j hk hn
section
variable {X : Ctx} {st : St} {K : St → Prop} {E : AV → St → Prop} {ty : TypeId} {pos : String} {aft : Array Edge} {g : Option (Nat × Bool)}
theorem x_delete {dst : Option Nat} {T e : TypeId} {ts : Array TypeId} {m key : Operand} {k : IntKind} {i : Int} {n : Nm} {es : List (AV × AV)} {st' : St} (hts : ts[0]? = some T := by rfl) (hdn : ∀ t, dst = some t → t < X.n := by first | (intro t h; cases h; done) | (intro t h; obtain rfl := Option.some.inj h; simp; done) | fail) (ht : tmapI X.P T = some (k, e) := by simp [fx]; first | done | rfl | exact ⟨rfl, rfl⟩)
    (hm : ev st m = .mp n := by simp [fx]; first | done | rfl) (hk : ev st key = .sc (.int k i) := by simp [fx]; first | done | rfl) (hn : st.hp n = some (.map es) := by simp [fx]; first | done | rfl) (hks : mkeys k es = true := by simp [fx]; first | done | rfl)
    (hs : (st.setO n (.map (mdel k i es))).put dst (.sc (.tuple #[])) = st' := by simp [fx]; first | done | rfl) (h : K st') : SemOp X ⟨dst, .call { callee := .builtin .delete, args := #[m, key], argTypes := ts }, ty, pos, aft, g⟩ K E st := by
  subst hs
  exact sem_delete rfl hts hdn ht hm hk hn hks h
end
section
variable {P : Program} {C : Nat → Prop} {wd : World} {g0 : Gh} {H : Nm → Option AO} {n : Nat} {gl : Nat → Option (List AV)} {st : St} {K : St → Prop} {E : AV → St → Prop} {d f : Nat} {ty : TypeId} {pos : String} {aft : Array Edge} {g : Option (Nat × Bool)} {c : Operand} {args : Array Operand} {Ts : Array TypeId} {as xs ys : List AV} {R : Nm → AV → (Nm → Option AO) → Prop} {F : Nat} {p : Prg} {w0 w : Wld}
theorem x_callM (h0 : OwnM H F p w0) (hO : OwnM st.hp F p w) (hl : w0.acts.length ≤ w.acts.length) (hf : w0.funs.length ≤ w.funs.length) (hd : d < n := by first | (simp; done) | fail) (ha : args.toList.map (ev st) = as := by simp [fx]; first | done | rfl)
    (hF : OwnM (dsub DM st.hp) F p w → FnE P gl f DM as (dsub DM st.hp) R noE) (h : ∀ y H', R (.s d) y H' → K ((st.call d DM (dsub DM st.hp) H').put (some d) y)) :
    SemOp (ctx0 P C wd g0 H n gl) ⟨some d, .call ⟨.value (.func f), args, Ts⟩, ty, pos, aft, g⟩ K E st := x_mutD DM (fun _ => DM_root) (fun k i j he => h0.ext hO hl hf k i j he) hd ha (hF hO.sub) h
theorem x_callM2 (h0 : OwnM H F p w0) (hO : OwnM st.hp F p w) (h2 : (st.hp (.u 2 0 0)).isSome = true) (hl : w0.acts.length ≤ w.acts.length) (hf : w0.funs.length ≤ w.funs.length) (hd : d < n := by first | (simp; done) | fail) (ha : args.toList.map (ev st) = as := by simp [fx]; first | done | rfl)
    (hF : OwnM (dsub DM2 st.hp) F p w → FnE P gl f DM2 as (dsub DM2 st.hp) R noE) (h : ∀ y H', R (.s d) y H' → K ((st.call d DM2 (dsub DM2 st.hp) H').put (some d) y)) :
    SemOp (ctx0 P C wd g0 H n gl) ⟨some d, .call ⟨.value (.func f), args, Ts⟩, ty, pos, aft, g⟩ K E st := x_mutD DM2 (fun _ => DM2_root) (fun k i j he => h0.ext2 hO hl hf h2 k i j he) hd ha (hF hO.sub) h
theorem x_callMv (h0 : OwnM H F p w0) (hO : OwnM st.hp F p w) (h2 : (st.hp (.u 2 0 0)).isSome = true) (hl : w0.acts.length ≤ w.acts.length) (hf : w0.funs.length ≤ w.funs.length) (hd : d < n := by first | (simp; done) | fail)
    (hv : ev st c = .fn (.func f) xs ys := by simp [fx]; first | done | rfl) (ha : xs ++ args.toList.map (ev st) ++ ys = as := by simp [fx]; first | done | rfl)
    (hF : OwnM (dsub DM2 st.hp) F p w → FnE P gl f DM2 as (dsub DM2 st.hp) R noE) (h : ∀ y H', R (.s d) y H' → K ((st.call d DM2 (dsub DM2 st.hp) H').put (some d) y)) :
    SemOp (ctx0 P C wd g0 H n gl) ⟨some d, .call ⟨.value c, args, Ts⟩, ty, pos, aft, g⟩ K E st := x_mutDv DM2 (fun _ => DM2_root) (fun k i j he => h0.ext2 hO hl hf h2 k i j he) hd hv ha (hF hO.sub) h
end
end Go.Hm
end

section
namespace Go.Hm
open Go
structure ProgFacts (P : Program) : Prop where
  laid : laidOutB P = true
  maps : mapsRowed P = true
  stops : (P.stops == []) = true
  knobs : (P.stopKnobs == []) = true
  keys : P.plainKeys = true
  heard : P.stopsHeard = true
  may : P.mayEnter = true
  lifts : P.liftsFinal = false
  make : (P.make == some .cut) = true
theorem joined_of {P : Program} {f : FuncId} {fn : Func} {s : ChangeSpec} {c : OpenClaim} (hp : ProgFacts P)
    (h1 : c.wf (OpenSpec.ofChange s) = true) (h2 : fn.params.all (P.readableRec ·) = true) (h3 : namedTie P c.named s.vars = true) (h4 : (c.stops == []) = true) (h5 : (c.knobs == []) = true)
    (h6 : (c.inPlace == P.inPlace f) = true) (h7 : (c.unfollowed == P.unfollowed f) = true) (h8 : (c.recurses == P.recurses f) = true) (h9 : (c.named == P.varsNamed f) = true)
    (h10 : (c.maps == (fn.params.toList ++ s.plain.varTypes P).any (P.mapsRec ·)) = true) (h11 : (c.ifaces == (fn.params.toList ++ s.plain.varTypes P).any (P.ifacesRec ·)) = true) (h12 : (c.mapsOut == P.mapsAmong fn.resultTypes.toList) = true)
    (h13 : (c.loops == (fn.params.toList ++ s.plain.varTypes P).any (P.loopsFrom ·)) = true) (h14 : (c.wideKeys == (fn.params.toList ++ s.plain.varTypes P ++ fn.resultTypes.toList).any (P.wideKeysFrom ·)) = true)
    (h15 : s.vars.all (P.varReadable ·) = true) (h16 : fn.resultTypes.all (fun t => P.readableRec t && decide (t < P.types.size)) = true) (h17 : (c.ifacesOut == fn.resultTypes.toList.any (P.ifacesRec ·)) = true) (h18 : (c.loopsOut == fn.resultTypes.toList.any (P.loopsFrom ·)) = true)
    (h19 : c.plainKeys = true) (h20 : c.shortTexts.isNone = true) (h21 : c.lifted = false) (h22 : c.make = .cut)
    (h23 : (c.kinds == (if c.domain.isEmpty then [] else fn.params.toList.map fun t => match P.underlying t with | some (.int k) => some k | _ => none)) = true) (h24 : (c.pinned == c.pinnedBy) = true)
    (h25 : (c.veiled == (fn.params.toList ++ s.plain.varTypes P ++ fn.resultTypes.toList).any (P.veiledRec ·)) = true) (h26 : c.veiledFits P fn.params.toList (fn.params.toList ++ s.plain.varTypes P ++ fn.resultTypes.toList) = true) : joinedFacts P f fn s c = true := by
  have e1 : (c.plainKeys == P.plainKeys) = true := by rw [h19, hp.keys]; rfl
  have e2 : (c.lifted == P.liftsFinal) = true := by rw [h21, hp.lifts]; rfl
  have e3 : (P.make == some c.make) = true := by rw [h22]; exact hp.make
  unfold joinedFacts
  simp only [hp.laid, hp.maps, hp.stops, hp.knobs, hp.heard, hp.may, h1, h2, h3, h4, h5, h6, h7, h8, h9, h10, h11, h12, h13, h14, h15, h16, h17, h18, h20, h24, h25, h26, e1, e2, e3, Bool.and_true, Bool.true_and]
  exact h23
end Go.Hm
end
