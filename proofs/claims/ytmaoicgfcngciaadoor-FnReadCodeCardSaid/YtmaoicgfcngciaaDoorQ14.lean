/-
  Own texts, joined by mkclaim.py: Hm150, Hm151, Hm152, Hm154, Hm155.
-/
import Derived.Test.YtmaoicgfcngciaaDoorQ13
import Derived.Handed
import Derived.HandedShaped
import Derived.Shelf.Vars
import Derived.Test.YtmaoicgfcngciaaDoorQ10
import Derived.Test.YtmaoicgfcngciaaDoorQ12
set_option linter.unusedSimpArgs false
set_option linter.unusedVariables false
set_option maxRecDepth 100000
set_option maxHeartbeats 4000000

section
namespace Go.Hm
open Go Go.RowKit
section
variable {X : Ctx} {st : St} {K : St → Prop} {E : AV → St → Prop} {ty : TypeId} {pos : String} {aft : Array Edge} {g : Option (Nat × Bool)} {dst : Option Nat} {x : Operand} {t : TypeId} {y : AV}
theorem x_pan (hx : ev st x = .ifc t y := by simp [fx]; first | done | rfl) (h : E (.ifc t y) st) : SemOp X ⟨dst, .panic x, ty, pos, aft, g⟩ K E st := by
  intro a w Q hR hQ
  have hR' := hR
  obtain ⟨C, g1, h1, h2, h3, h4, h5, hg⟩ := hR
  have hv := hg.ev x
  rw [hx] at hv
  have hv' := hv
  generalize hu : a.eval x = u at hv
  cases hv with
  | ifc _ v _ hv1 =>
    have hrun : (execOp a.eval (⟨dst, .panic x, ty, pos, aft, g⟩ : Oper)).run X.P w = .halt (.panic (.iface t v)) w := by
      simp [execOp, hu, run_panic_iface]
    unfold Oper.wp
    rw [hrun, Oper.upon_panic]
    refine hQ _ w st (.ifc t y) ⟨C, g1, h1, h2, h3, h4, h5, hg, ?_⟩ h
    rw [hu] at hv'
    exact hv'
end
theorem dval_le {s : Txt} (hl : s.length ≤ 1) (h : ∀ c ∈ s, 48 ≤ c.toNat ∧ c.toNat ≤ 57) : dval s ≤ 9 := by
  rcases s with _ | ⟨a, _ | ⟨b, l⟩⟩
  · simp [dval]
  · have := h a (by simp)
    simp only [dval, List.foldl_cons, List.foldl_nil]
    omega
  · simp at hl
theorem split_len {c : UInt8} {s : Txt} : (splitL c s).length ≤ s.length + 1 := by
  induction s with
  | nil => simp [splitL]
  | cons x l ih =>
    rw [splitL]
    split
    · simp; omega
    · split
      · rename_i w ws e
        rw [e] at ih
        simp at ih ⊢
        omega
      · simp
theorem split_part {c : UInt8} {s : Txt} : ∀ w ∈ splitL c s, w.length ≤ s.length := by
  induction s with
  | nil => simp [splitL]
  | cons x l ih =>
    intro w hw
    rw [splitL] at hw
    split at hw
    · rw [List.mem_cons] at hw
      rcases hw with rfl | hw
      · simp
      · have := ih w hw; simp; omega
    · split at hw
      · rename_i u us e
        rw [List.mem_cons] at hw
        rcases hw with rfl | hw
        · have := ih u (by rw [e]; simp)
          simp; omega
        · have := ih w (by rw [e]; simp [hw])
          simp; omega
      · rw [List.mem_singleton] at hw
        subst hw
        simp
theorem readL1_cons {l : Txt} {ls : List Txt} : readL1 (l :: ls) = match readO l, readL1 ls with | some o, some os => some (o :: os) | _, _ => none := by
  unfold readL1
  rw [List.mapM_cons]
  cases readO l with
  | none => rfl
  | some o =>
    cases ls.mapM readO <;> rfl
theorem readL1_app {a b : List Txt} : readL1 (a ++ b) = match readL1 a, readL1 b with | some x, some y => some (x ++ y) | _, _ => none := by
  induction a with
  | nil =>
    cases h : readL1 b <;> simp [readL1] <;> simpa [readL1] using h
  | cons l a ih =>
    rw [List.cons_append, readL1_cons, readL1_cons, ih]
    cases readO l with
    | none => rfl
    | some o =>
      cases readL1 a with
      | none => rfl
      | some x =>
        cases readL1 b <;> rfl
theorem readL1_snoc {a : List Txt} {l : Txt} {os : List (Int × Int)} {o : Int × Int} (h : readL1 a = some os) (ho : readO l = some o) : readL1 (a ++ [l]) = some (os ++ [o]) := by
  rw [readL1_app, h, readL1_cons, ho]
  rfl
theorem readL1_bad {a b : List Txt} {l : Txt} (ho : readO l = none) : readL1 (a ++ l :: b) = none := by
  rw [readL1_app, readL1_cons, ho]
  cases readL1 a <;> rfl
theorem readL1_len {a : List Txt} {os : List (Int × Int)} (h : readL1 a = some os) : os.length = a.length := by
  induction a generalizing os with
  | nil => simp [readL1] at h; subst h; rfl
  | cons l a ih =>
    rw [readL1_cons] at h
    cases ho : readO l with
    | none => rw [ho] at h; cases h
    | some o =>
      cases ha : readL1 a with
      | none => rw [ho, ha] at h; cases h
      | some x =>
        rw [ho, ha] at h
        obtain rfl := Option.some.inj h
        simp [ih ha]
section
variable {l v : Txt} {ws ws' : List Txt} {c n : Nat}
theorem readO_lone (hs : splitL 32 l = [v]) (hc : codeW v = some c) (hl : loneO (c : Int) = true) : readO l = some ((c : Int), 0) := by simp [readO, hs, hc, hl]
theorem readO_arg (hs : splitL 32 l = v :: ws) (hc : codeW v = some c) (hl : loneO (c : Int) = false) (hn : rNum ws = some (n, [])) : readO l = some ((c : Int), (n : Int)) := by
  rcases ws with _ | ⟨x, _ | ⟨y, r⟩⟩
  · cases hn
  · simp only [rNum] at hn
    cases hx : smallN x with
    | none => rw [hx] at hn; cases hn
    | some k =>
      rw [hx] at hn
      simp at hn
      subst hn
      simp [readO, hs, hc, hl, hx]
  · simp only [rNum] at hn
    cases hx : smallN x with
    | none => rw [hx] at hn; cases hn
    | some k => rw [hx] at hn; simp at hn
theorem readO_no1 (hs : splitL 32 l = v :: ws) (hc : codeW v = none) : readO l = none := by simp [readO, hs, hc]
theorem readO_no2 (hs : splitL 32 l = v :: ws) (hc : codeW v = some c) (hl : loneO (c : Int) = true) (hw : ws ≠ []) : readO l = none := by simp [readO, hs, hc, hl, hw]
theorem readO_no3 (hs : splitL 32 l = v :: ws) (hc : codeW v = some c) (hl : loneO (c : Int) = false) (hn : rNum ws = none) : readO l = none := by
  rcases ws with _ | ⟨x, _ | ⟨y, r⟩⟩
  · simp [readO, hs, hc, hl]
  · simp only [rNum] at hn
    cases hx : smallN x with
    | none => simp [readO, hs, hc, hl, hx]
    | some k => rw [hx] at hn; cases hn
  · simp [readO, hs, hc, hl]
theorem readO_no4 (hs : splitL 32 l = v :: ws) (hc : codeW v = some c) (hl : loneO (c : Int) = false) (hn : rNum ws = some (n, ws')) (hw : ws' ≠ []) : readO l = none := by
  rcases ws with _ | ⟨x, _ | ⟨y, r⟩⟩
  · simp [readO, hs, hc, hl]
  · simp only [rNum] at hn
    cases hx : smallN x with
    | none => rw [hx] at hn; cases hn
    | some k => rw [hx] at hn; simp at hn; exact absurd hn.2.symm (by simpa using hw)
  · simp [readO, hs, hc, hl]
theorem readO_no0 (hs : splitL 32 l = []) : readO l = none := by simp [readO, hs]
end
def onN (K : St → Prop) : Ex → St → Prop
  | .normal, s => K s
  | _, _ => False
section
variable {X : Ctx} {st : St} {K : St → Prop} {E : AV → St → Prop} {d f : Nat} {ty : TypeId} {pos : String} {aft : Array Edge} {g : Option (Nat × Bool)} {args : Array Operand} {Ts : Array TypeId} {bs : List AV} {R : Nm → AV → (Nm → Option AO) → Prop} {Q : Prop}
theorem w_pre {x y : Code} {Q : Exit → Go.Act → World → Prop} (h : SemCode X x (onN fun s => ∀ a w, Rw X s a w → y.wp X.P Q a w) st) {a : Go.Act} {w : World} (hR : Rw X st a w) : (Code.seq x y).wp X.P Q a w := by
  refine wp_seq (wp_mono (h a w hR) fun e a' w' he => ?_)
  cases e with
  | normal => obtain ⟨st', hR', hQ⟩ := he; exact hQ a' w' hR'
  | exit id => obtain ⟨_, _, hQ⟩ := he; exact hQ.elim
  | goto l => obtain ⟨_, _, hQ⟩ := he; exact hQ.elim
  | ret => obtain ⟨_, _, hQ⟩ := he; exact hQ.elim
  | panic ch => obtain ⟨_, _, _, _, _, hQ⟩ := he; exact hQ.elim
  | outgrown => exact he.elim
theorem x_ownP (hd : d < X.n := by first | (simp; done) | fail) (ha : args.toList.map (ev st) = bs := by simp [fx]; first | done | rfl) (hF : FnE X.P X.gl f noD bs noH R (badQ Q)) (hE : ∀ x H', BadX x → Q → E x (st.call d noD noH H')) (h : ∀ y H', R (.s d) y H' → K ((st.call d noD noH H').put (some d) y)) :
    SemOp X ⟨some d, .call ⟨.value (.func f), args, Ts⟩, ty, pos, aft, g⟩ K E st := by
  subst ha
  refine call_sem (D := noD) (H := noH) (R := R) (E0 := badQ Q) hF (ent_func hF.1 rfl) false ⟨rfl, fun j a a' h h' => ?_⟩ (fun _ _ => rfl) (fun n hn => by cases hn) (fun n hn => absurd rfl hn) (fun k i j _ => .inl rfl) (fun e he => by obtain rfl := Option.some.inj he; exact hd) (fun x H' hR => ?_) (fun x H' hx => ?_)
  · rw [h] at h'
    obtain rfl := Option.some.inj h'
    exact .refl _
  · exact h x H' hR
  · exact hE x H' hx.1 hx.2
end
end Go.Hm
end
section
namespace Go.Hm
open Go
theorem handed_laid_shaped {H : Type} {enc : TypeId × Value → H} {a : Assume} {C : Checked} {os : Os} {f : FuncId} {fn : Func} {s : ChangeSpec} {conds : List PathCond} {apart fresh handsOn again : Bool} {X : World → Array Value → Prop}
    (hX : ∀ (w w' : World) (args : Array Value), w.heap = w'.heap → X w args → X w' args)
    (own : ownKnob C.prog.godebug = none) (started : os.Started) (noInit : C.prog.inits.idxOf? f = none) (hfn : C.prog.funcs[f]? = some fn)
    (witness : ∃ (w : World) (tape : Tape) (i : Input), w.os = os ∧ (w.forCall tape i).Shaped C.prog ∧ i.vars = [] ∧ Input.okWide C.prog (w.forCall tape i) .any w.heap.size f i ∧
      ((s.pre enc C.prog fn conds apart (w.forCall tape i).memory i.args ∧ X (w.forCall tape i).memory i.args) ∧ sizedMet enc C.prog fn (OpenSpec.ofChange s) apart (w.forCall tape i).memory i.args) ∧ a.holds C.prog (lone (Frame.enter C.prog f i.args .normal) [] (w.forCall tape i)))
    (contract : ∀ (W : World) (base : Nat) (args : Array Value) (ds gs : List (DataW H)) (before : List MemPlace), W.ShapedOpen C.prog →
      (∀ (j : Nat) t v, fn.params[j]? = some t → args[j]? = some v → Value.okWide C.prog W .any base t v) →
      DataW.Whole enc C.prog fn.params.toList s.vars apart W args.toList ds gs before →
      conds.all (PathCond.test C.prog ⟨fn.params.toList, ds, s.plain.varTypes C.prog, gs⟩) = true →
      (DataW.weightsEach C.prog (fn.params.toList ++ s.plain.varTypes C.prog) (ds ++ gs)).all (· ≤ reachBytes) = true → X W args →
      a.holds C.prog (lone (Frame.enter C.prog f args .normal) [] W) →
      Calls C.prog f args W fun e W' => ∃ v, e = .returned v ∧ s.post enc C.prog fn apart fresh handsOn again W args v W') :
    ReturnsInHanded a C os f .any (fun w args => (s.pre enc C.prog fn conds apart w args ∧ X w args) ∧ sizedMet enc C.prog fn (OpenSpec.ofChange s) apart w args) (s.post enc C.prog fn apart fresh handsOn again) := by
  refine returnsInHanded_of_calls own started noInit witness ?_
  intro w tape i _ hsh _ hok hpre hholds
  obtain ⟨_, _, _, fn', hfn', _, _, _, _, hval⟩ := hok
  have e : fn' = fn := Option.some.inj (hfn'.symm.trans hfn)
  subst e
  obtain ⟨⟨⟨ds, gs, before, hw, hc⟩, hx⟩, hz⟩ := hpre
  have hw' := DataW.Whole.of_heap (w' := w.forCall tape i) (by rfl) hw
  refine (contract (w.forCall tape i) w.heap.size i.args ds gs before hsh hval hw' hc (hz.weights hw) (hX _ _ _ (by rfl) hx) hholds).mono fun e W' ⟨v, he, hp⟩ => ?_
  subst he
  exact ChangeSpec.post_blind hp
end Go.Hm
end
section
namespace Go.Hm
open Go Go.RowKit
section
variable {P : Program} {C : Nat → Prop} {w : World} {g0 : Gh} {H : Nm → Option AO} {n : Nat} {gl : Nat → Option (List AV)} {st : St} {K : St → Prop} {E : AV → St → Prop} {d f : Nat} {ty : TypeId} {ps : String} {aft : Array Edge} {gd : Option (Nat × Bool)} {a0 a1 : Operand} {Ts : Array TypeId} {bs : List Int} {xs : List Txt} {pos : Nat}
def OfOk (P : Program) (gl : Nat → Option (List AV)) (f : FuncId) : Prop := ∀ (H : Nm → Option AO) (bs : List Int) (pos : Nat) (xs : List Txt), BytesOk bs → pos ≤ 1000000 → (0 < xs.length ∧ xs.length ≤ 1000) → H (.u 1 0 0) = some (rdO bs pos) → H (.u 2 0 0) = some (.row 1 (xrows xs)) →
    FnE P gl f D12 [.pt (.u 1 0 0) 0, .hs (.u 2 0 0) 1 0 xs.length] H (fun _ z H' => ∃ v, z = tx v ∧ v ∈ xs ∧ H' (.u 1 0 0) = some (rdO bs (pos + 1))) noE
theorem x_of {t0 t1 : Nat} (hF : OfOk P gl f) (a : Nat) (xs : List Txt) (hb : BytesOk bs) (hpos : pos ≤ 1000000) (hx : 0 < xs.length ∧ xs.length ≤ 1000 := by first | (simp; done) | fail) (hV : H (.u 2 0 0) = none) (hd : d < n := by first | (simp; done) | fail)
    (h0 : st.tm t0 = .pt (.u 1 0 0) 0) (h1 : st.tm t1 = .hs (.s a) 1 0 xs.length) (hH : st.hp (.u 1 0 0) = some (rdO bs pos)) (hL : st.hp (.s a) = some (.row 1 (xrows xs)))
    (h : ∀ v, v ∈ xs → K ((st.rdr a d (rdO bs (pos + 1))).put (some d) (tx v))) :
    SemOp (ctx0 P C w g0 H n gl) ⟨some d, .call ⟨.value (.func f), #[.tmp t0, .tmp t1], Ts⟩, ty, ps, aft, gd⟩ K E st := by
  have e1 : (st.move (.s a) (.u 2 0 0)).hp (.u 1 0 0) = some (rdO bs pos) := by simp [hH]
  have e2 : (st.move (.s a) (.u 2 0 0)).hp (.u 2 0 0) = some (.row 1 (xrows xs)) := by simp [hL]
  have hc := rk_comp (a := a) (d := d) (Hs := dsub D12 (st.move (.s a) (.u 2 0 0)).hp) (by simp [hH]) (by simp [hL])
  refine o_mv (.s a) (.u 2 0 0) (.inl rfl) (.inr (by simp [ctx0, hV])) ?_
  refine SemOp.weak (K' := fun s => ∃ v H1, v ∈ xs ∧ H1 (.u 1 0 0) = some (rdO bs (pos + 1)) ∧ s = (((st.move (.s a) (.u 2 0 0)).call d D12 (dsub D12 (st.move (.s a) (.u 2 0 0)).hp) H1).put (some d) (tx v))) ?_ ?_
  · refine x_mutD (az := [.pt (.u 1 0 0) 0, .hs (.u 2 0 0) 1 0 xs.length]) D12 (fun n h => D12_root h) (fun k i j he => ?_) hd ?_ (hF _ bs pos xs hb hpos hx (by simp [hH]) (by simp [hL])) ?_
    · by_cases hu : Nm.u k i j = .u 1 0 0
      · right
        rw [hu]
        simp [hH]
      · by_cases hu2 : Nm.u k i j = .u 2 0 0
        · right
          rw [hu2]
          simp [hL]
        · left
          simp at hu hu2
          simp only [D12_eq, Nm.under, Bool.or_eq_false_iff, decide_eq_false_iff_not]
          refine ⟨fun e => ?_, fun e => ?_⟩
          · injection e with e1 e2 e3
            exact hu e1 e2 e3
          · injection e with e1 e2 e3
            exact hu2 e1 e2 e3
    · simp [h0, h1]
    · rintro y H1 ⟨v, rfl, hv, hH1⟩
      exact ⟨v, H1, hv, hH1, rfl⟩
  · rintro s ⟨v, H1, hv, hH1, rfl⟩
    refine ⟨((st.rdr a d (rdO bs (pos + 1))).put (some d) (tx v)).hp, fun m ob e => ?_, ?_⟩
    · simp only [put_hp, rdr_hp] at e
      split at e
      · rename_i hm
        subst hm
        simp only [put_hp, St.call, St.nm]
        simp [hH1]
        exact Option.some.inj e
      · split at e
        · cases e
        · rename_i hm1 hm2
          simp only [Bool.or_eq_true, not_or, Bool.not_eq_true] at hm2
          obtain ⟨⟨h12, hsd⟩, hsa⟩ := hm2
          have hu2 : Nm.under (.u 2 0 0) m = false := by
            simp only [D12_eq, Bool.or_eq_false_iff] at h12
            exact h12.2
          obtain ⟨o, ho, rfl⟩ := Option.map_eq_some_iff.1 e
          simp only [put_hp, St.call, St.nm, h12, hsd, Bool.or_false, Bool.false_eq_true, if_false, St.move, hmv, hu2, hsa, ho, Option.map_some, Option.some.injEq]
          rw [AO.tr_tr, ← hc]
          rfl
    · have ht : (((st.move (.s a) (.u 2 0 0)).call d D12 (dsub D12 (st.move (.s a) (.u 2 0 0)).hp) H1).put (some d) (tx v)).tm = ((st.rdr a d (rdO bs (pos + 1))).put (some d) (tx v)).tm := by
        funext t
        by_cases e : t = d
        · simp [St.put, e]
        · simp only [St.put, e, if_false]
          show (((st.tm t).tr (mv (.s a) (.u 2 0 0))).tr (cf d D12 (dsub D12 (st.move (.s a) (.u 2 0 0)).hp))) = (st.tm t).tr (rk a d)
          rw [AV.tr_tr, ← hc]
      rw [ht]
      exact h v hv
end
theorem txS {k t a b : Int} (hk : 0 ≤ k ∧ k ≤ 11 := by omega) (ht : 0 ≤ t ∧ t ≤ 99 := by omega) (ha : 0 ≤ a ∧ a ≤ 99 := by omega) (hb : (0 ≤ b ∧ b ≤ 99) ∨ (k = 5 ∧ b = -1) := by omega)
    (hto : k = 7 ∨ k = 8 → t = 0 ∧ b = 0 := by omega) (hb0 : k = 0 ∨ k = 1 ∨ k = 3 ∨ k = 4 → b = 0 := by omega) (ha0 : 9 ≤ k → a = 0 ∧ b = 0 := by omega) : TxtS ⟨k, t, a, b⟩ := by
  refine ⟨hk, ?_, hto, hb0, ha0⟩
  intro n hn
  simp only [numsOf] at hn
  split at hn
  · simp at hn; omega
  · split at hn
    · simp at hn; omega
    · split at hn
      · split at hn
        · simp at hn; omega
        · simp at hn; omega
      · split at hn
        · simp at hn; omega
        · simp at hn; omega
theorem stm1 {x : Stm} (h : TxtS x) : ∀ s ∈ [x], TxtS s := by simpa using h
theorem stm2 {x y : Stm} (h : TxtS x) (h2 : TxtS y) : ∀ s ∈ [x, y], TxtS s := by simpa using ⟨h, h2⟩
theorem stmApp {L M : List Stm} (h : ∀ s ∈ L, TxtS s) (h2 : ∀ s ∈ M, TxtS s) : ∀ s ∈ L ++ M, TxtS s := fun s hs => by
  rcases List.mem_append.1 hs with hs | hs
  · exact h s hs
  · exact h2 s hs
theorem stmSnoc {L : List Stm} {x : Stm} (h : ∀ s ∈ L, TxtS s) (h2 : TxtS x) : ∀ s ∈ L ++ [x], TxtS s := stmApp h (stm1 h2)
theorem stmIns {L M : List Stm} {a : Nat} (h : ∀ s ∈ L, TxtS s) (h2 : ∀ s ∈ M, TxtS s) : ∀ s ∈ L.take a ++ M ++ L.drop a, TxtS s :=
  stmApp (stmApp (fun s hs => h s (List.mem_of_mem_take hs)) h2) fun s hs => h s (List.mem_of_mem_drop hs)
def BlkT (k : Blk) : Prop := (∀ s ∈ k.body, TxtS s) ∧ Small k.params ∧ (¬ k.kind = 1 → k.params = [])
structure GenT (p : Prg) : Prop extends GenP p where
  txt : TxtP p
  parT : ∀ k ∈ p, k.params.length ≤ 1
  lenT : p.length ≤ 7
theorem GenT.one {k : Blk} (h : k.parent = -1) (hk : k.kind = 0) (hp : k.params.length ≤ 1) (hb : k.body.length ≤ 14) (hT : BlkT k) : GenT [k] := by
  refine ⟨GenP.one h (by omega) hb, ⟨⟨k.body, [], ?_⟩, fun i q hq hi => ?_, fun q hq => ?_⟩, by simpa using hp, by simp⟩
  · have := hT.2.2 (by omega)
    obtain ⟨a, b, c, d⟩ := k
    simp only at h hk this
    subst h hk this
    rfl
  · rw [List.getElem?_singleton, if_neg (by omega)] at hq
    cases hq
  · simp at hq
    subst hq
    exact hT.1
theorem GenT.add {p : Prg} {k : Blk} (h : GenT p) (hl : p.length ≤ 6) (hp : 0 ≤ k.parent ∧ k.parent < p.length) (hk : k.kind = 1 ∨ k.kind = 2) (h1 : k.params.length ≤ 1) (h2 : k.body.length ≤ 14) (hT : BlkT k) : GenT (p ++ [k]) := by
  refine ⟨GenP.add h.toGenP (by omega) hp (by omega) h2, ⟨?_, fun i q hq hi => ?_, fun q hq => ?_⟩, fun q hq => ?_, by simp; omega⟩
  · obtain ⟨b, ks, e⟩ := h.txt.head
    exact ⟨b, ks ++ [k], by rw [e]; rfl⟩
  · rw [List.getElem?_append] at hq
    split at hq
    · exact h.txt.heads i q hq hi
    · have : q = k := by
        have := List.mem_of_getElem? hq
        simpa using this
      subst this
      exact ⟨hk, by omega, hT.2.1, fun e => hT.2.2 (by omega)⟩
  · rcases List.mem_append.1 hq with hq | hq
    · exact h.txt.stms q hq
    · simp at hq; subst hq; exact hT.1
  · rcases List.mem_append.1 hq with hq | hq
    · exact h.parT q hq
    · simp at hq; subst hq; exact h1
theorem setBody_same {p : Prg} {i c : Nat} {L : List Stm} {q : Blk} (h : (setBody p i L)[c]? = some q) : ∃ r, p[c]? = some r ∧ q.kind = r.kind ∧ q.parent = r.parent ∧ q.params = r.params ∧ (q.body = r.body ∨ q.body = L) := by
  cases hr : p[c]? with
  | none =>
    have := (gS h).1
    rw [setBody_len] at this
    rw [gE this] at hr
    cases hr
  | some r =>
    rw [setBody_get hr] at h
    refine ⟨r, rfl, ?_⟩
    split at h
    · obtain rfl := Option.some.inj h
      exact ⟨rfl, rfl, rfl, .inr rfl⟩
    · obtain rfl := Option.some.inj h
      exact ⟨rfl, rfl, rfl, .inl rfl⟩
theorem txtP_map {p q : Prg} (h : TxtP p) (hl : q.length = p.length) (hs : ∀ (c : Nat) k, q[c]? = some k → ∃ r, p[c]? = some r ∧ k.kind = r.kind ∧ k.parent = r.parent ∧ k.params = r.params ∧ ∀ s ∈ k.body, TxtS s) : TxtP q := by
  obtain ⟨b, ks, e⟩ := h.head
  have hne : 0 < q.length := by rw [hl, e]; simp
  refine ⟨?_, fun i k hk hi => ?_, fun k hk => ?_⟩
  · obtain ⟨k, qs, rfl⟩ : ∃ k qs, q = k :: qs := by cases q with
      | nil => simp at hne
      | cons k qs => exact ⟨k, qs, rfl⟩
    obtain ⟨r, hr, e1, e2, e3, _⟩ := hs 0 k rfl
    rw [e] at hr
    obtain rfl := Option.some.inj hr
    obtain ⟨a, b, c, d⟩ := k
    simp only at e1 e2 e3
    subst e1 e2 e3
    exact ⟨d, qs, rfl⟩
  · obtain ⟨r, hr, e1, e2, e3, _⟩ := hs i k hk
    obtain ⟨h1, h2, h3, h4⟩ := h.heads i r hr hi
    exact ⟨by rw [e1]; exact h1, by rw [e2]; exact h2, by rw [e3]; exact h3, by rw [e1, e3]; exact h4⟩
  · obtain ⟨i, hi⟩ := List.getElem?_of_mem hk
    obtain ⟨r, _, _, _, _, h5⟩ := hs i k hi
    exact h5
theorem GenT.setBody {p : Prg} {i : Nat} {L : List Stm} (h : GenT p) (hL : L.length ≤ 14) (hT : ∀ s ∈ L, TxtS s) : GenT (setBody p i L) := by
  refine ⟨GenP.setBody h.toGenP hL, txtP_map h.txt setBody_len fun c k hk => ?_, fun k hk => ?_, by rw [setBody_len]; exact h.lenT⟩
  · obtain ⟨r, hr, e1, e2, e3, e4⟩ := setBody_same hk
    refine ⟨r, hr, e1, e2, e3, ?_⟩
    rcases e4 with e | e <;> rw [e]
    · exact h.txt.stms r (List.mem_of_getElem? hr)
    · exact hT
  · obtain ⟨r, hr, h1, _⟩ := setBody_mem hk
    rw [h1]; exact h.parT r hr
theorem GenT.bare {p : Prg} (h : GenT p) : GenT (bareP p) := by
  refine ⟨GenP.bare h.toGenP, txtP_map h.txt (by simp [bareP]) fun c k hk => ?_, fun k hk => ?_, by simpa [bareP] using h.lenT⟩
  · simp only [bareP, List.getElem?_map] at hk
    obtain ⟨r, hr, rfl⟩ := Option.map_eq_some_iff.1 hk
    exact ⟨r, hr, rfl, rfl, rfl, fun s hs => h.txt.stms r (List.mem_of_getElem? hr) s (List.mem_filter.1 hs).1⟩
  · obtain ⟨r, hr, rfl⟩ := List.mem_map.1 hk
    exact h.parT r hr
end Go.Hm
end
