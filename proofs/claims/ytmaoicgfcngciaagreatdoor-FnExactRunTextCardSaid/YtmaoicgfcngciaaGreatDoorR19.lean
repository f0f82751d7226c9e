/-
  Own texts, joined by mkclaim.py: Hm80, Hm156, Hm157, Hm158.
-/
import Derived.Test.YtmaoicgfcngciaaGreatDoorR14
import Derived.Test.YtmaoicgfcngciaaGreatDoorR16
import Derived.Lib.AppendIntMem
import Derived.Lib.LaidTab
set_option linter.unusedSimpArgs false
set_option linter.unusedVariables false
set_option maxRecDepth 100000
set_option maxHeartbeats 4000000

section
namespace Go.Hm
open Go Go.RowKit
@[simp] theorem lok_mp {P : Program} {T : TypeId} {hp : Nm → Option AO} {m : Nm} {k' : IntKind} {n : Int} {ok : Bool} : lokAV P T hp (.mp m) (.sc (.int k' n)) ok = match tmapI P T with
    | some q => if k' = q.1 then (match hp m with
      | some (.map es) => if mkeys q.1 es then (match mget q.1 n es with
        | some y => some (if ok then .tup [y, .sc (.bool true)] else y)
        | none => (zflat P q.2).map (fun z => if ok then .tup [z, .sc (.bool false)] else z)) else none
      | _ => none) else none
    | none => none := by
  unfold lokAV
  cases tmapI P T with
  | none => rfl
  | some q => rfl
theorem OwnM.sub {hp : Nm → Option AO} {F : Nat} {p : Prg} {w : Wld} (h : OwnM hp F p w) {D : Nm → Bool} (hD : ∀ m, DM m = true → D m = true := by intro m hm; first | exact hm | simp [hm]) : OwnM (dsub D hp) F p w := by
  refine h.hp' (f := some) (fun _ _ => rfl) (fun m hm => ?_)
  rw [dsub_eq, if_pos (hD m hm)]
  cases hp m with
  | none => rfl
  | some o => simp [AO.tr_some]
theorem MapOk.get' {ms : NMap} {w : Wld} {l : Option Nat} {x : Int} (h : MapOk ms (w.vars l)) (hx : 0 ≤ x ∧ x ≤ 7) : lk x ms = w.get l x := by
  rw [h.at hx]
  unfold Wld.get
  cases (w.vars l)[x.toNat]? <;> rfl
theorem ownM_set {hp hp' : Nm → Option AO} {F : Nat} {p : Prg} {w : Wld} {a x : Nat} {s : Slt} {l : Option Nat} (hh : Heads p) (hw : WOk p w) (ha : a < w.acts.length) (hx : x < 8) (hl : w.loc p a x = l) (hnm : w.nms (hIdx (w.loc p a x)) = w.vars (w.loc p a x)) (h : OwnM hp F p w) {ms : NMap} (hms : MapOk ms ((w.vars l).set (x : Int).toNat s)) (hq : ∀ m, DM m = true → hp' m = if m = .c (En (hIdx l)) 0 1 then some (.map (mrows ms)) else hp m) : OwnM hp' F p (w.set l x s) := by
  obtain ⟨e1, e2, e3, e4, e5, e6, e7⟩ := set_same (w := w) (l := l) (x := (x : Int)) (s := s)
  have hlen : (w.set l x s).acts.length = w.acts.length := set_len
  have hnms : ∀ i, (w.set l x s).nms i = if i = hIdx l then (w.vars l).set (x : Int).toNat s else w.nms i := by
    intro i
    cases l with
    | none =>
      by_cases e : i = 0
      · simp [Wld.nms, Wld.set, hIdx, e, Wld.vars]
      · simp [Wld.nms, Wld.set, hIdx, e]
    | some j =>
      have hj0 : j ≠ 0 := by
        rintro rfl
        rcases loc_spec (x := (x : Int)) hh hw ha with ⟨_, h2⟩ | ⟨o, i, c, ho, _, h2, _, h4, h5, _⟩
        · rw [hl] at h2; cases h2
        · rw [hl] at h2
          obtain rfl := Option.some.inj h2
          obtain ⟨a0, h0, hb0⟩ := hw.a0
          rw [h0] at h4
          obtain rfl := Option.some.inj h4
          omega
      by_cases e : i = 0
      · subst e
        have : ¬ 0 = j := fun e => hj0 e.symm
        simp [Wld.nms, Wld.set, hIdx, this]
      · by_cases e2 : i = j
        · subst e2
          simp only [Wld.nms, Wld.set, hIdx, e, if_false, if_true, List.getElem?_modify, Wld.vars]
          cases w.acts[i]? with
          | none => simp
          | some b => simp
        · have e3 : ¬ j = i := fun e => e2 e.symm
          simp only [Wld.nms, Wld.set, hIdx, e, e2, if_false, List.getElem?_modify, e3]
          cases w.acts[i]? <;> simp
  have hget : ∀ m, DM m = true → m ≠ .c (En (hIdx l)) 0 1 → hp' m = hp m := fun m hm hne => by rw [hq m hm, if_neg hne]
  refine ⟨?_, ⟨?_, fun j k hj hk => ?_⟩, ?_, ?_, h.run.imp fun l hl => ⟨by rw [hlen]; exact hl.1, ?_⟩, ?_, fun k g hg => ?_, ?_, fun k c hc => ?_, fun i b hb => ?_, fun i hi => ?_, fun k i j hk hn => ?_⟩
  · rw [hget _ rfl (by simp), h.top]; simp [mRow, e1, e2, e3, e4, e5, e6, e7]
  · rw [hget _ rfl (by simp), h.scs.top]
  · rw [hget _ rfl (by simp), h.scs.sc j k hj hk]
  · rw [hget _ rfl (by simp), h.out, e3]
  · rw [hget _ rfl (by simp), h.trc, e4]
  · rw [hget _ rfl (by simp), hl.2, e6]
  · rw [hget _ rfl (by simp), h.funs, e1]
  · rw [e1] at hg
    obtain ⟨a1, a2, a3, a4⟩ := h.bx k g hg
    exact ⟨by rw [hget _ rfl (by simp), a1], by rw [hget _ rfl (by simp), a2], by rw [hget _ rfl (by simp), a3], by rw [hget _ rfl (by simp), a4]⟩
  · rw [hget _ rfl (by simp), h.clss, e2]
  · rw [e2] at hc
    obtain ⟨ms, a1, a2⟩ := h.cls k c hc
    exact ⟨ms, by rw [hget _ rfl (by simp), a1], a2⟩
  · obtain ⟨b', hb', f1, f2, _⟩ := set_acts hb
    rw [hget _ rfl (by simp), h.env i b' hb']
    simp [envRow, f1, f2]
  · rw [hlen] at hi
    rw [hnms]
    by_cases e : i = hIdx l
    · subst e
      rw [if_pos rfl]
      exact ⟨ms, by rw [hq _ rfl, if_pos rfl], hms⟩
    · rw [if_neg e]
      obtain ⟨ms', a1, a2⟩ := h.nms i hi
      exact ⟨ms', by rw [hget _ rfl (by simp [e]), a1], a2⟩
  · rw [hget (.u k i j) hk (by simp)] at hn
    rw [hlen, e1]
    exact h.only k i j hk hn
section
variable {X : Ctx} {st : St} {K : St → Prop} {E : AV → St → Prop} {ty : TypeId} {pos : String} {aft : Array Edge} {g : Option (Nat × Bool)}
theorem x_delete {dst : Option Nat} {T e : TypeId} {ts : Array TypeId} {m key : Operand} {k : IntKind} {i : Int} {n : Nm} {es : List (AV × AV)} {st' : St} (hts : ts[0]? = some T := by rfl) (hdn : ∀ t, dst = some t → t < X.n := by first | (intro t h; cases h; done) | (intro t h; obtain rfl := Option.some.inj h; simp; done) | fail) (ht : tmapI X.P T = some (k, e) := by simp [fx]; first | done | rfl | exact ⟨rfl, rfl⟩)
    (hm : ev st m = .mp n := by simp [fx]; first | done | rfl) (hk : ev st key = .sc (.int k i) := by simp [fx]; first | done | rfl) (hn : st.hp n = some (.map es) := by simp [fx]; first | done | rfl) (hks : mkeys k es = true := by simp [fx]; first | done | rfl)
    (hs : (st.setO n (.map (mdel k i es))).put dst (.sc (.tuple #[])) = st' := by simp [fx]; first | done | rfl) (h : K st') : SemOp X ⟨dst, .call { callee := .builtin .delete, args := #[m, key], argTypes := ts }, ty, pos, aft, g⟩ K E st := by
  subst hs
  exact sem_delete rfl hts hdn ht hm hk hn hks h
end
section
variable {P : Program} {C : Nat → Prop} {wd : World} {g0 : Gh} {H : Nm → Option AO} {n : Nat} {gl : Nat → Option (List AV)} {st : St} {K : St → Prop} {E : AV → St → Prop} {d f : Nat} {ty : TypeId} {pos : String} {aft : Array Edge} {g : Option (Nat × Bool)} {c : Operand} {args : Array Operand} {Ts : Array TypeId} {az xs ys : List AV} {R : Nm → AV → (Nm → Option AO) → Prop} {F : Nat} {p : Prg} {w0 w : Wld}
theorem x_callM (h0 : OwnM H F p w0) (hO : OwnM st.hp F p w) (hl : w0.acts.length ≤ w.acts.length) (hf : w0.funs.length ≤ w.funs.length) (hd : d < n := by first | (simp; done) | fail) (ha : args.toList.map (ev st) = az := by simp [fx]; first | done | rfl)
    (hF : OwnM (dsub DM st.hp) F p w → FnE P gl f DM az (dsub DM st.hp) R noE) (h : ∀ y H', R (.s d) y H' → K ((st.call d DM (dsub DM st.hp) H').put (some d) y)) :
    SemOp (ctx0 P C wd g0 H n gl) ⟨some d, .call ⟨.value (.func f), args, Ts⟩, ty, pos, aft, g⟩ K E st := x_mutD DM (fun _ => DM_root) (fun k i j he => h0.ext hO hl hf k i j he) hd ha (hF hO.sub) h
theorem x_callM2 (h0 : OwnM H F p w0) (hO : OwnM st.hp F p w) (h2 : (st.hp (.u 2 0 0)).isSome = true) (hl : w0.acts.length ≤ w.acts.length) (hf : w0.funs.length ≤ w.funs.length) (hd : d < n := by first | (simp; done) | fail) (ha : args.toList.map (ev st) = az := by simp [fx]; first | done | rfl)
    (hF : OwnM (dsub DM2 st.hp) F p w → FnE P gl f DM2 az (dsub DM2 st.hp) R noE) (h : ∀ y H', R (.s d) y H' → K ((st.call d DM2 (dsub DM2 st.hp) H').put (some d) y)) :
    SemOp (ctx0 P C wd g0 H n gl) ⟨some d, .call ⟨.value (.func f), args, Ts⟩, ty, pos, aft, g⟩ K E st := x_mutD DM2 (fun _ => DM2_root) (fun k i j he => h0.ext2 hO hl hf h2 k i j he) hd ha (hF hO.sub) h
theorem x_callMv (h0 : OwnM H F p w0) (hO : OwnM st.hp F p w) (h2 : (st.hp (.u 2 0 0)).isSome = true) (hl : w0.acts.length ≤ w.acts.length) (hf : w0.funs.length ≤ w.funs.length) (hd : d < n := by first | (simp; done) | fail)
    (hv : ev st c = .fn (.func f) xs ys := by simp [fx]; first | done | rfl) (ha : xs ++ args.toList.map (ev st) ++ ys = az := by simp [fx]; first | done | rfl)
    (hF : OwnM (dsub DM2 st.hp) F p w → FnE P gl f DM2 az (dsub DM2 st.hp) R noE) (h : ∀ y H', R (.s d) y H' → K ((st.call d DM2 (dsub DM2 st.hp) H').put (some d) y)) :
    SemOp (ctx0 P C wd g0 H n gl) ⟨some d, .call ⟨.value c, args, Ts⟩, ty, pos, aft, g⟩ K E st := x_mutDv DM2 (fun _ => DM2_root) (fun k i j he => h0.ext2 hO hl hf h2 k i j he) hd hv ha (hF hO.sub) h
end
end Go.Hm
end
section
namespace Go.Hm
open Go Go.RowKit Go.Proofs Go.Shelf Go.Sort
section
variable {P : Program} {ρ : Ren}
abbrev powV : List Value := Lib.pow10Tab.map fun z => .int .u64 z
theorem itoaA_fn (L : LaysM.n171 P ρ) (gl : Nat → Option (List AV)) (hg : gl (ρ.g 17) = some (powV.map .sc)) (n : Int) (h0 : -1000000 ≤ n) (h1 : n ≤ 1000000) : FnOk P gl (ρ.f 171) [iv n] (fun _ y _ => y = tx (numI n)) := by
  refine ⟨⟨_, L.f171, by kernel_rfl, by kernel_rfl⟩, fun root C w g args _ _ _ hinv hgl hsz hargs => ?_⟩
  have ha : args = #[.int .i64 n] := by
    rw [args_sc (vs := [.int .i64 n]) hsz hargs]
  subst ha
  have htab : Lib.TabIs P w "internal/strconv.uint64pow10" .u64 Lib.pow10Tab := by
    obtain ⟨T, b, hb⟩ := (hgl _ _ hg).1.2 Lib.pow10Tab (by simp [Lib.pow10Tab]) (by simp [powV])
    unfold Lib.TabIs World.var?
    rw [L.m17]
    simp only [Option.bind_some, hb]
  refine (Any.strconv_Itoa L n (by omega) (by omega) w htab).mono fun e w' he => ?_
  obtain ⟨rfl, k, os, rfl⟩ := he
  have hb : Below w.heap.size w (grow (w.drewN k) os) := Lib.below_grow _ _ (Nat.le_refl _) _ _
  refine ⟨C, g, noH, tx (numI n), ⟨fun _ h => h, fun _ h => .inl h, ⟨hb.os, hb.tape, hb.output, hb.size, fun b hl _ => hb.block b hl, hinv.hC, fun b hb' => Nat.lt_of_lt_of_le (hinv.clt b hb') hb.size, fun _ _ e => (by cases e), fun _ _ _ e => (by cases e), fun _ _ _ _ _ e => (by cases e)⟩,
    fun _ e => absurd rfl e, fun _ _ _ => ⟨rfl, rfl⟩, fun _ _ _ _ => ⟨rfl, rfl⟩⟩, ?_, rfl⟩
  rw [← numI_dec]
  exact .sc _
end
end Go.Hm
end
section
namespace Go.Hm
open Go Go.RowKit
theorem Bw.out {hp : Nm → Option AO} {D : Nm → Bool} {a b : AV} (h : Bw (fun n => if D n = true then none else hp n) noD a b) : Bw hp D a b := by
  have key : ∀ {n : Nm} {o : AO}, (if D n = true then none else hp n) = some o → D n = false ∧ hp n = some o := by
    intro n o e
    split at e
    · cases e
    · rename_i hx
      exact ⟨by simpa using hx, e⟩
  generalize hq : (fun n => if D n = true then none else hp n) = hp' at h
  have key' : ∀ {n : Nm} {o : AO}, hp' n = some o → D n = false ∧ hp n = some o := by
    intro n o e
    rw [← hq] at e
    exact key e
  induction h with
  | refl a => exact .refl a
  | nil z => exact .nil z
  | emp z z' => exact .emp z z'
  | sl z rows rows' hl hz _ ih => exact .sl z rows rows' hl hz fun i r r' h1 h2 j a a' h3 h4 => ih i r r' h1 h2 j a a' h3 h4
  | hs n z lo len rows rows' _ hn hle hl hz _ ih =>
    obtain ⟨k1, k2⟩ := key' hn
    exact .hs n z lo len rows rows' k1 k2 hle hl hz fun i r r' h1 h2 j a a' h3 h4 => ih i r r' h1 h2 j a a' h3 h4
  | pt n z off r r' rows _ hn hl _ ih =>
    obtain ⟨k1, k2⟩ := key' hn
    exact .pt n z off r r' rows k1 k2 hl fun j a a' h3 h4 => ih j a a' h3 h4
  | ep n z i off r r' rows _ hn hi hl _ ih =>
    obtain ⟨k1, k2⟩ := key' hn
    exact .ep n z i off r r' rows k1 k2 hi hl fun j a a' h3 h4 => ih j a a' h3 h4
  | agg cs cs' hl _ ih => exact .agg cs cs' hl fun j a a' h3 h4 => ih j a a' h3 h4
  | tup cs cs' hl _ ih => exact .tup cs cs' hl fun j a a' h3 h4 => ih j a a' h3 h4
  | ifc t a a' _ ih => exact .ifc t a a' ih
  | fn f xs xs' ys ys' hl hl2 _ _ ih ih2 => exact .fn f xs xs' ys ys' hl hl2 (fun j a a' h3 h4 => ih j a a' h3 h4) fun j a a' h3 h4 => ih2 j a a' h3 h4
theorem bw_progB {hp : Nm → Option AO} {n : Nm} {p : Prg} {b : Bool} (h : OwnP hp n p) : Bw hp noD (.tup [.agg [.hs n 4 0 p.length], bv b]) (.tup [pav p, bv b]) := by
  refine .tup _ _ rfl fun j a a' h1 h2 => ?_
  match j, h1, h2 with
  | 0, h1, h2 =>
    obtain rfl := Option.some.inj h1
    obtain rfl := Option.some.inj h2
    exact bw_agg1 (bw_prog h rfl)
  | 1, h1, h2 =>
    obtain rfl := Option.some.inj h1
    obtain rfl := Option.some.inj h2
    exact .refl _
  | j + 2, h1, h2 => simp at h1
end Go.Hm
end
section
namespace Go.Hm
open Go Go.RowKit Go.ChangeShapes Go.WideShapes Go.Deep
theorem exw_of {W : World} {g : Nat} {vs : List Value} {T : TypeId} {b : Bool} (h : ∃ T b, W.heap[g]? = some (.cells vs.toArray T b)) : Exw W g (vs.map .sc) := by
  intro zs _ e
  have e2 : vs = zs.map fun z => Value.int .u64 z := by
    have h1 : vs.map AV.sc = (zs.map fun z => Value.int .u64 z).map AV.sc := by rw [e, List.map_map]; rfl
    exact (List.map_inj_right (fun x y h => by injection h)).1 h1
  rw [← e2]
  exact h
theorem rd_pow {H : Type} {enc : TypeId × Value → H} {P : Program} {w : World} {base : Nat} {spare : Nat → Bool} {held : Bool} {m n g : Nat} {t e : TypeId} {s : String} {cs : Array Value} {d : DataW H} {x : List MemPlace}
    (ht : P.underlying t = some (.array n e)) (he : P.underlying e = some (.int .u64)) (hce : P.cellsOf e = 1) (hct : P.cellsOf t = n) (hg : P.globalNamed s = some g) (hv : w.var? P s = some cs)
    (h : DataW.trod enc P w base spare held m t cs.toList = some (d, x)) (hd : d = Lib.tabData .u64 Lib.pow10Tab) : (∀ i v, powV[i]? = some v → w.cell? ⟨g, i, none⟩ = some v) ∧ Exw w g (powV.map .sc) := by
  subst hd
  have hcs := Lib.cells_of_tab ht he hce hct h
  have hca : cs = powV.toArray := by
    rw [show powV = cs.toList from hcs.symm]
  subst hca
  refine ⟨fun i v hi => ?_, ?_⟩
  · rw [World.var?_cell hg hv i]
    simpa using hi
  · refine exw_of (T := 0) (b := false) ?_
    unfold World.var? at hv
    rw [hg] at hv
    simp only [Option.bind_some] at hv
    split at hv
    · rename_i c T b hb
      obtain rfl := Option.some.inj hv
      exact ⟨T, b, hb⟩
    · cases hv
end Go.Hm
end
