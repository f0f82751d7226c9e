/-
  Own texts, joined by mkclaim.py: Hm88, Hm89, Hm90, Hm91.
-/
import Derived.Test.YtcbkblboonkfhaaGreatS16
import Derived.Test.YtcbkblboonkfhaaGreatS11
import Derived.Test.YtcbkblboonkfhaaGreatS15
set_option linter.unusedSimpArgs false
set_option linter.unusedVariables false
set_option maxRecDepth 100000
set_option maxHeartbeats 4000000

section
namespace Go.Hm
open Go Go.RowKit
theorem cutL_erase {L : List Stm} {i : Nat} : cutL L i = L.eraseIdx i := by simp [cutL, List.eraseIdx_eq_take_drop_succ]
theorem setBody_bod {p : Prg} {b c : Nat} {L : List Stm} : bodOf (setBody p b L) c = if b = c ∧ c < p.length then L else bodOf p c := by
  unfold bodOf
  cases hc : p[c]? with
  | none =>
    have : (setBody p b L)[c]? = none := by
      rw [List.getElem?_eq_none_iff, setBody_len]
      exact List.getElem?_eq_none_iff.1 hc
    rw [this]
    have hl := List.getElem?_eq_none_iff.1 hc
    rw [if_neg (by omega)]
  | some k =>
    have hl := (gS hc).1
    rw [setBody_get hc]
    by_cases e : b = c
    · simp [e, hl]
    · simp [e]
theorem bareP_set {p : Prg} {b : Nat} {L : List Stm} {k : Blk} (hk : p[b]? = some k) (h : bareS L = bareS k.body) : bareP (setBody p b L) = bareP p := by
  apply List.ext_getElem?
  intro c
  simp only [bareP, List.getElem?_map]
  cases hc : p[c]? with
  | none =>
    have : (setBody p b L)[c]? = none := by
      rw [List.getElem?_eq_none_iff, setBody_len]
      exact List.getElem?_eq_none_iff.1 hc
    rw [this]
  | some k' =>
    rw [setBody_get hc]
    by_cases e : b = c
    · subst e
      rw [hk] at hc
      obtain rfl := Option.some.inj hc
      simp [bareB, h]
    · simp [e]
section
variable {p : Prg} {b i : Nat} {k : Blk} {s : Stm}
theorem idle_cut (h : idleAt p b i = true) : progOk (cutP p b i) = true ∧ bareP (cutP p b i) = bareP p ∧ ownersOf p = ownersOf (cutP p b i) ∧ ∀ c, Del (bodOf p c) (bodOf (cutP p b i) c) := by
  unfold idleAt at h
  split at h
  case h_2 => cases h
  rename_i k hk
  split at h
  case h_2 => cases h
  rename_i s hs
  simp only [Bool.and_eq_true, Bool.or_eq_true, beq_iff_eq, decide_eq_true_eq] at h
  have hd : Del k.body (cutL k.body i) := by rw [cutL_erase]; exact del_cut hs h.1
  refine ⟨h.2.1, ?_, h.2.2, fun c => ?_⟩
  · rw [cutP_eq hk]
    exact bareP_set hk hd.bare.symm
  · rw [cutP_eq hk, setBody_bod]
    split
    · rename_i e
      obtain ⟨rfl, _⟩ := e
      simp only [bodOf, hk]
      exact hd
    · exact Del.refl _
theorem idle_same (hp : progOk p = true) (h : idleAt p b i = true) : sameG p (cutP p b i) = true := by
  obtain ⟨h1, h2, h3, _⟩ := idle_cut h
  simp [sameG, hp, h1, h2, h3]
end
structure LeanOk (p r : Prg) : Prop where
  ok : progOk r = true
  bare : bareP r = bareP p
  own : ownersOf p = ownersOf r
  del : ∀ c, Del (bodOf p c) (bodOf r c)
  none : NoIdle r
theorem LeanTo.leanOk {p r : Prg} (h : LeanTo p r) (hp : progOk p = true) : LeanOk p r := by
  induction h with
  | stop p h => exact ⟨hp, rfl, rfl, fun _ => Del.refl _, h⟩
  | step p r b i h _ ih =>
    obtain ⟨h1, h2, h3, h4⟩ := idle_cut h.idle
    have h5 := ih h1
    exact ⟨h5.ok, h5.bare.trans h2, h3.trans h5.own, fun c => (h4 c).trans (h5.del c), h5.none⟩
theorem lean_ok {p : Prg} (hp : progOk p = true) : LeanOk p (leanP p) := (leanP_to p).leanOk hp
theorem lean_same {p : Prg} (hp : progOk p = true) : sameG (leanP p) p = true := by
  have h := lean_ok hp
  simp [sameG, hp, h.ok, h.bare, h.own]
theorem lean_twice {p : Prg} (hp : progOk p = true) : leanP (leanP p) = leanP p := leanP_stop (lean_ok hp).none
theorem lean_steps {p : Prg} (hs : Sml p) (hp : progOk p = true) : (meantW p 150).left ≤ (meantW (leanP p) 150).left := by
  have h := lean_ok hp
  exact steps_le (shape_ok hs hp) (shape_ok ((leanP_to p).sml hs) h.ok) h.del h.bare.symm h.own
theorem explicit_bare {p : Prg} {b : Nat} {k : Blk} : bareS (explicitL p b k) = [] := by
  unfold explicitL
  split
  · rfl
  · simp only [bareS, List.filter_eq_nil_iff, List.mem_flatMap]
    rintro s ⟨x, _, hx⟩
    unfold explicitOf at hx
    split at hx
    · cases hx
    · obtain rfl := List.mem_singleton.1 hx
      simp only [Bool.not_eq_true', Bool.or_eq_false_iff]
      split <;> simp
theorem full_bare {p : Prg} : bareP (fullP p) = bareP p := by
  apply List.ext_getElem?
  intro c
  simp only [bareP, List.getElem?_map]
  cases hc : p[c]? with
  | none =>
    have : (fullP p)[c]? = none := by
      rw [List.getElem?_eq_none_iff, fullP, fullTo_len]
      exact List.getElem?_eq_none_iff.1 hc
    rw [this]
  | some k =>
    rw [fullP_get hc]
    have : bareS (explicitL p c k ++ k.body) = bareS k.body := by
      have := explicit_bare (p := p) (b := c) (k := k)
      simp only [bareS, List.filter_append] at this ⊢
      rw [this, List.nil_append]
    simp [bareB, fullBlk, this]
theorem full_same {p : Prg} (h : fullOk p = true) : sameG (fullP p) p = true := by
  simp only [fullOk, Bool.and_eq_true, decide_eq_true_eq] at h
  simp [sameG, h.1, h.2.1, h.2.2, full_bare]
theorem full_reads {p : Prg} (h : fullOk p = true) {b : Nat} {k : Blk} (hk : (fullP p)[b]? = some k) (hb : 0 < b) {x : Int} (hx : x ∈ k.rd) : owner (fullP p) b x = b ∨ x ∈ k.dc 9 ∨ x ∈ k.dc 10 := by
  simp only [fullOk, Bool.and_eq_true, decide_eq_true_eq] at h
  have hbl : b < p.length := by
    have := (gS hk).1
    simpa [fullP] using this
  obtain ⟨k0, hk0⟩ : ∃ k, p[b]? = some k := ⟨_, gE hbl⟩
  have e := fullP_get hk0
  rw [hk] at e
  obtain rfl := Option.some.inj e
  have hrd : readsAll (explicitL p b k0) = [] := by
    unfold explicitL readsAll
    split
    · rfl
    · simp only [List.flatMap_eq_nil_iff, List.mem_flatMap]
      rintro s ⟨y, _, hy⟩
      unfold explicitOf at hy
      split at hy
      · cases hy
      · obtain rfl := List.mem_singleton.1 hy
        simp only [Stm.reads]
        split <;> simp
  have hx0 : x ∈ k0.rd := by
    simp only [Blk.rd, mem_sorted] at hx ⊢
    refine ⟨?_, hx.2⟩
    have h1 := hx.1
    simp only [fullBlk, readsAll, List.flatMap_append, List.mem_append] at h1
    rcases h1 with h1 | h1
    · simp only [readsAll] at hrd
      rw [hrd] at h1
      cases h1
    · exact h1
  have hx7 : 0 ≤ x ∧ x ≤ 7 := by
    simp only [Blk.rd, mem_sorted] at hx0
    exact hx0.2
  have ho : owner p b x = owner (fullP p) b x := own_agree h.2.2 hk0 hk hx7 (List.mem_append_left _ hx0) (List.mem_append_left _ hx)
  rw [← ho]
  by_cases h1 : owner p b x = b
  · exact .inl h1
  right
  have up : ∀ d, x ∈ k0.dc d → x ∈ (fullBlk p b k0).dc d := by
    intro d hd
    simp only [Blk.dc, mem_sorted, declAll, fullBlk, List.filter_append, List.map_append, List.mem_append] at hd ⊢
    exact ⟨.inr hd.1, hd.2⟩
  by_cases h9 : x ∈ k0.dc 9
  · exact .inl (up 9 h9)
  by_cases h10 : x ∈ k0.dc 10
  · exact .inr (up 10 h10)
  have hb0 : ¬ b = 0 := by omega
  have hin : (⟨if owner p b x < 0 then 9 else 10, x, 0, 0⟩ : Stm) ∈ explicitL p b k0 := by
    unfold explicitL
    rw [if_neg hb0]
    refine List.mem_flatMap.2 ⟨x, hx0, ?_⟩
    unfold explicitOf
    rw [if_neg (by simp [h9, h10, h1])]
    simp
  by_cases hneg : owner p b x < 0
  · left
    rw [if_pos hneg] at hin
    simp only [Blk.dc, mem_sorted, declAll, fullBlk, List.filter_append, List.map_append, List.mem_append, List.mem_map, List.mem_filter]
    exact ⟨.inl ⟨_, ⟨hin, by simp⟩, rfl⟩, hx7⟩
  · right
    rw [if_neg hneg] at hin
    simp only [Blk.dc, mem_sorted, declAll, fullBlk, List.filter_append, List.map_append, List.mem_append, List.mem_map, List.mem_filter]
    exact ⟨.inl ⟨_, ⟨hin, by simp⟩, rfl⟩, hx7⟩
section
variable {X : Ctx} {st : St} {K : St → Prop} {E : AV → St → Prop}
def dfree (D : Nm → Bool) (hp : Nm → Option AO) : Nm → Option AO := fun m => if D m then none else hp m
def St.forget (D : Nm → Bool) (st : St) : St := { tm := st.tm, hp := dfree D st.hp, n := st.n, gl := st.gl }
@[simp] theorem forget_tm {D : Nm → Bool} {t : Nat} : (st.forget D).tm t = st.tm t := rfl
@[simp] theorem forget_hp {D : Nm → Bool} {m : Nm} : (st.forget D).hp m = if D m then none else st.hp m := rfl
theorem x_appendN {d : Nat} {T F : TypeId} {s x : Operand} {z len : Nat} {n : Nm} {rows0 rows2 : List (List AV)} {ty : TypeId} {pos : String} {aft : Array Edge} {g : Option (Nat × Bool)} (hd : d < X.n := by first | (simp; done) | fail) (hT : tapp X.P T = some F := by simp [fx]; first | done | rfl) (hz : tsz X.P F = z := by simp [fx]; first | done | rfl) (hs : ev st s = .hs n z 0 len := by simp [fx]; first | done | rfl)
    (hn : st.hp n = some (.row z rows0) := by simp [fx]; first | done | rfl) (hle : len ≤ rows0.length := by first | (simp [fx]; done) | (simp [fx]; omega) | omega)
    (hx : srcRows st z (ev st x) = some rows2 := by simp [fx]; first | done | rfl) (hlen : len + rows2.length ≤ 4294967296 := by first | (simp [fx]; done) | (simp [fx]; omega) | omega)
    (h : K ((apSt d z (len + rows2.length) (some n) (rows0.take len ++ rows2) st).mvc n (.s d))) :
    SemOp X ⟨some d, .call ⟨.builtin .append, #[s, x], #[T, T]⟩, ty, pos, aft, g⟩ K E st := by
  refine SemOp.post (sem_append (K := fun s' => s' = apSt d z (len + rows2.length) (some n) (rows0.take len ++ rows2) st) rfl rfl hd hT hz hs hn hle hx hlen rfl) ?_
  rintro s' a w hR rfl
  exact ⟨_, hR.mvc n (.s d), h⟩
end
section
variable {X : Ctx} {st : St} {K : St → Prop} {E : AV → St → Prop} {d f : Nat} {ty : TypeId} {pos : String} {aft : Array Edge} {g : Option (Nat × Bool)} {c : Operand} {args : Array Operand} {Ts : Array TypeId} {xs ys as : List AV}
end
section
variable {P : Program} {own : Nat → Prop} {C : Nat → Prop} {w0 : World} {g : Gh} {st : St} {a : Go.Act} {w : World}
end
section
variable {X : Ctx} {st : St} {K : St → Prop} {E : AV → St → Prop} {d : Nat} {ty : TypeId} {pos : String} {aft : Array Edge} {g : Option (Nat × Bool)}
end
theorem bw_progN {hp : Nm → Option AO} {n : Nm} {R : List (List AV)} {len : Nat} {p : Prg} (hn : hp n = some (.row 4 R)) (hR : R.length = p.length) (hl : len = p.length)
    (h : ∀ (i : Nat) k, p[i]? = some k → ∃ a b, R[i]? = some [iv k.kind, iv k.parent, .hs a 1 0 k.params.length, .hs b 4 0 k.body.length] ∧ hp a = some (.row 1 (irows k.params)) ∧ hp b = some (.row 4 (srows k.body))) : Bw hp noD (.hs n 4 0 len) (ksl p) := by
  subst hl
  refine .hs n 4 0 p.length R (krows p) rfl hn (by omega) (by simp) (by simp [krows]) fun i r r' hr hr' j a a' ha ha' => ?_
  rw [Nat.zero_add] at hr
  rw [krows_get] at hr'
  obtain ⟨x, hx, rfl⟩ := Option.map_eq_some_iff.1 hr'
  obtain ⟨m1, m2, e1, e2, e3⟩ := h i x hx
  rw [e1] at hr
  obtain rfl := Option.some.inj hr
  match j, ha, ha' with
  | 0, ha, ha' => obtain rfl := Option.some.inj ha; obtain rfl := Option.some.inj ha'; exact .refl _
  | 1, ha, ha' => obtain rfl := Option.some.inj ha; obtain rfl := Option.some.inj ha'; exact .refl _
  | 2, ha, ha' => obtain rfl := Option.some.inj ha; obtain rfl := Option.some.inj ha'; exact bw_ints e2 rfl
  | 3, ha, ha' => obtain rfl := Option.some.inj ha; obtain rfl := Option.some.inj ha'; exact bw_stms e3 rfl
  | j + 4, ha, _ => simp at ha
theorem OkS.two {D : Nm → Bool} {root n m : Nm} {i j i' j' : Nat} (h : n.sroot = true) (h' : m.sroot = true) (hne : ¬ (i = i' ∧ j = j')) : OkS D root [(n, .c root i j), (m, .c root i' j')] := by
  refine ⟨by simp [h, h'], by simp, ?_⟩
  refine .cons (fun q hq => ?_) (.cons (fun q hq => by simp at hq) .nil)
  obtain rfl := by simpa using hq
  exact fun k hk => Nm.c_disj hne hk
def idleRow (p : Prg) (b : Nat) : List Int := match p[b]? with
  | some k => ((List.range k.body.length).filter fun i => idleAt p b i).map fun i : Nat => (i : Int)
  | none => []
def idleTo (p : Prg) (b i : Nat) : List Int := ((List.range i).filter fun j => idleAt p b j).map fun j : Nat => (j : Int)
def idleT (p : Prg) : List (List Int) := (List.range p.length).map (idleRow p)
def idleG (p : Prg) : List (List Int) := if progOk p then idleT p else []
section
variable {p : Prg} {b i : Nat} {k : Blk}
theorem idleRow_eq (hk : p[b]? = some k) : idleRow p b = idleTo p b k.body.length := by simp only [idleRow, hk, idleTo]
@[simp] theorem idleTo_zero : idleTo p b 0 = [] := rfl
theorem idleTo_succ : idleTo p b (i + 1) = if idleAt p b i then idleTo p b i ++ [(i : Int)] else idleTo p b i := by
  simp only [idleTo, List.range_succ, List.filter_append, List.map_append]
  cases h : idleAt p b i <;> simp [h]
theorem idleTo_len : (idleTo p b i).length ≤ i := by
  simp only [idleTo, List.length_map]
  exact Nat.le_trans (List.length_filter_le _ _) (by simp)
@[simp] theorem idleT_len : (idleT p).length = p.length := by simp [idleT]
theorem idleT_get {r : List Int} (h : (idleT p)[b]? = some r) : b < p.length ∧ r = idleRow p b := by
  simp only [idleT, List.getElem?_map] at h
  obtain ⟨j, hj, rfl⟩ := Option.map_eq_some_iff.1 h
  obtain ⟨h1, h2⟩ := gS hj
  simp at h1 h2
  subst h2
  exact ⟨h1, rfl⟩
theorem idleRow_mem {x : Int} (hk : p[b]? = some k) (h : x ∈ idleRow p b) : ∃ i : Nat, x = i ∧ i < k.body.length ∧ idleAt p b i = true := by
  rw [idleRow_eq hk] at h
  simp only [idleTo, List.mem_map, List.mem_filter, List.mem_range] at h
  obtain ⟨i, ⟨h1, h2⟩, rfl⟩ := h
  exact ⟨i, rfl, h1, h2⟩
theorem idleT_none (h : ∀ b i, idleAt p b i = false) : idleT p = p.map fun _ => [] := by
  apply List.ext_getElem
  · simp
  intro j h1 h2
  simp only [idleT, List.getElem_map, List.getElem_range, idleRow]
  split
  · simp [h]
  · rfl
end
theorem blk_ext {x y : Blk} (h1 : x.kind = y.kind) (h2 : x.parent = y.parent) (h3 : x.params = y.params) (h4 : x.body = y.body) : x = y := by
  cases x; cases y; simp_all
theorem stm_ext {x y : Stm} (h1 : x.kind = y.kind) (h2 : x.to = y.to) (h3 : x.a = y.a) (h4 : x.b = y.b) : x = y := by
  cases x; cases y; simp_all
theorem ne_of_get {α : Type} {l m : List α} {i : Nat} {x y : α} (hx : l[i]? = some x) (hy : m[i]? = some y) (h : x ≠ y) : l ≠ m := by
  rintro rfl
  rw [hx] at hy
  exact h (Option.some.inj hy)
theorem take_next {α : Type} {l m : List α} {i : Nat} {x : α} (h : l.take i = m.take i) (hx : l[i]? = some x) (hy : m[i]? = some x) : l.take (i + 1) = m.take (i + 1) := by
  rw [List.take_add_one, List.take_add_one, h, hx, hy]
section
variable {P : Program} {st : St} {o : Oper} {f : FuncId}
theorem ent_valc {args : Array Operand} {Ts : Array TypeId} {c : Operand} (hc : Callable P f) (ho : o.op = .call ⟨.value c, args, Ts⟩) (hv : ev st c = .sc (.func (.func f) #[] #[])) : Ent P st o f (args.toList.map (ev st)) := by
  intro own C w0 g a w h
  have hr := h.ev c
  rw [hv] at hr
  have hcv := hr.sc_eq
  refine ⟨args.map a.eval, ?_, by simp, fun j v x hv hx => ?_⟩
  · simp [execOp, ho, resolve, hcv, Deferred.ofValue, invoke, run_callFunc hc]
  · rw [List.getElem?_map] at hx
    rw [Array.getElem?_map] at hv
    obtain ⟨o', ho', rfl⟩ := Option.map_eq_some_iff.1 hv
    obtain ⟨o2, ho2, rfl⟩ := Option.map_eq_some_iff.1 hx
    rw [Array.getElem?_toList, ho'] at ho2
    obtain rfl := Option.some.inj ho2
    exact h.ev o'
end
section
variable {X : Ctx} {st : St} {K : St → Prop} {E : AV → St → Prop} {d f : Nat} {ty : TypeId} {pos : String} {aft : Array Edge} {g : Option (Nat × Bool)} {c : Operand} {args : Array Operand} {Ts : Array TypeId} {as : List AV}
theorem x_callc {x : AV} (hd : d < X.n := by first | (simp; done) | fail) (hv : ev st c = .sc (.func (.func f) #[] #[]) := by simp [fx]; first | done | rfl) (ha : args.toList.map (ev st) = as := by simp [fx]; first | done | rfl)
    (hF : FnOk X.P X.gl f as (fun _ y _ => y = x)) (hc : x.cln = true := by first | (simp; done) | fail) (h : K ((st.kill (.s d)).put (some d) x)) :
    SemOp X ⟨some d, .call ⟨.value c, args, Ts⟩, ty, pos, aft, g⟩ K E st := by
  subst ha
  have sem : ∀ {K : St → Prop}, (∀ x' H', x' = x → K ((st.call d noD noH (hcln H')).put (some d) (xcln x'))) → SemOp X ⟨some d, .call ⟨.value c, args, Ts⟩, ty, pos, aft, g⟩ K E st := by
    intro K hK
    refine call_sem (D := noD) (H := noH) (R := fun _ y _ => y = x) hF (ent_valc hF.1 rfl hv) true ⟨rfl, fun j a a' h h' => ?_⟩ (fun _ _ => rfl) (fun n h => by cases h) (fun n h => absurd rfl h) (fun k i j _ => .inl rfl) (fun e he => by obtain rfl := Option.some.inj he; exact hd) ?_ (fun _ _ h => h.elim)
    · rw [h] at h'
      obtain rfl := Option.some.inj h'
      exact .refl _
    · intro x H' hR
      exact hK x H' hR
  refine SemOp.weak (sem (K := fun s => ∃ H', s = (st.call d noD noH H').put (some d) x) ?_) ?_
  · rintro y H' rfl
    exact ⟨hcln H', by simp [xcln, hc]⟩
  · rintro s ⟨H', rfl⟩
    refine ⟨(st.kill (.s d)).hp, fun m ob e => ?_, ?_⟩
    · simp only [St.kill, St.nm, hkl] at e
      simp only [St.put, St.call, St.nm]
      split at e
      · cases e
      · rename_i hu
        simp [hu, noD, cf_noD, e]
    · simpa only [St.put, St.call, St.nm, St.kill, cf_noD] using h
end
structure DelI (ss R : List Stm) (i j : Nat) : Prop where
  len : R.length = ss.length
  take : R.take i = bareS (ss.take j)
  le : i ≤ j
  drop : R.drop j = ss.drop j
  bl : (bareS (ss.take j)).length = i
section
variable {ss R : List Stm} {i j : Nat} {s : Stm}
theorem DelI.at (h : DelI ss R i j) (hs : ss[j]? = some s) : R[j]? = some s := by
  have := congrArg (fun l => l[0]?) h.drop
  simpa [hs] using this
theorem drop_next {α : Type} {l m : List α} {j : Nat} (h : l.drop j = m.drop j) : l.drop (j + 1) = m.drop (j + 1) := by
  have := congrArg (List.drop 1) h
  simpa [List.drop_drop, Nat.add_comm] using this
theorem DelI.skip (h : DelI ss R i j) (hs : ss[j]? = some s) (hd : isDecl s = true) : DelI ss R i (j + 1) := by
  have hst := bareS_step hs
  rw [if_pos (show ((s.kind == 9) || (s.kind == 10)) = true from hd)] at hst
  exact ⟨h.len, by rw [hst]; exact h.take, by have := h.le; omega, drop_next h.drop, by rw [hst]; exact h.bl⟩
theorem DelI.keep (h : DelI ss R i j) (hs : ss[j]? = some s) (hd : isDecl s = false) : DelI ss (R.set i s) (i + 1) (j + 1) := by
  have hst := bareS_step hs
  rw [if_neg (by rw [show ((s.kind == 9) || (s.kind == 10)) = false from hd]; decide)] at hst
  have hj := (gS hs).1
  have hl := h.len
  have hle := h.le
  refine ⟨by simp [hl], ?_, by omega, ?_, by rw [hst]; simp [h.bl]⟩
  · rw [hst, ← h.take]
    apply List.ext_getElem?
    intro a
    rw [List.getElem?_take, List.getElem?_set]
    rcases Nat.lt_trichotomy a i with ha | rfl | ha
    · rw [if_pos (by omega), if_neg (by omega), List.getElem?_append_left (by simp; omega), List.getElem?_take, if_pos ha]
    · rw [if_pos (by omega), if_pos rfl, if_pos (by omega), List.getElem?_append_right (by simp; omega)]
      rw [show a - (List.take a R).length = 0 by simp; omega]
      rfl
    · rw [if_neg (by omega), List.getElem?_eq_none (by simp; omega)]
  · rw [← drop_next h.drop]
    apply List.ext_getElem?
    intro a
    rw [List.getElem?_drop, List.getElem?_drop, List.getElem?_set, if_neg (by omega)]
theorem bareS_none (h : ∀ s ∈ ss, isDecl s = false) : bareS ss = ss := by
  simp only [bareS, List.filter_eq_self]
  intro s hs
  have := h s hs
  simp only [isDecl] at this
  simp [this]
theorem DelI.start (hs : ss[i]? = some s) (hd : isDecl s = true) (hn : ∀ a t, a < i → ss[a]? = some t → isDecl t = false) : DelI ss ss i (i + 1) := by
  have hi := (gS hs).1
  have hb : bareS (ss.take i) = ss.take i := bareS_none fun t ht => by
    obtain ⟨a, ha⟩ := List.getElem?_of_mem ht
    rw [List.getElem?_take] at ha
    split at ha
    · rename_i hl
      exact hn a t hl ha
    · cases ha
  have hst := bareS_step hs
  rw [if_pos (show ((s.kind == 9) || (s.kind == 10)) = true from hd), hb] at hst
  exact ⟨rfl, hst.symm, by omega, rfl, by rw [hst]; simp; omega⟩
theorem DelI.done (h : DelI ss R i ss.length) : R.take i = bareS ss ∧ i = (bareS ss).length := by
  have h1 := h.take
  have h2 := h.bl
  rw [List.take_length] at h1 h2
  exact ⟨h1, h2.symm⟩
end
def fstD (ss : List Stm) : Int := match ss.findIdx? isDecl with
  | some i => i
  | none => -1
section
variable {ss : List Stm} {i : Nat} {s : Stm}
theorem fstD_some (hs : ss[i]? = some s) (hd : isDecl s = true) (hn : ∀ a t, a < i → ss[a]? = some t → isDecl t = false) : fstD ss = i := by
  obtain ⟨hi, hE⟩ := gS hs
  have : ss.findIdx? isDecl = some i := by
    rw [List.findIdx?_eq_some_iff_getElem]
    refine ⟨hi, by rw [hE]; exact hd, fun a ha => ?_⟩
    have := hn a _ ha (gE (by omega))
    simp [this]
  simp [fstD, this]
theorem fstD_none (hn : ∀ s ∈ ss, isDecl s = false) : fstD ss = -1 := by
  have : ss.findIdx? isDecl = none := by
    rw [List.findIdx?_eq_none_iff]
    exact hn
  simp [fstD, this]
theorem fstD_cases (ss : List Stm) : (∀ s ∈ ss, isDecl s = false) ∨ ∃ (i : Nat) (s : Stm), ss[i]? = some s ∧ isDecl s = true ∧ ∀ (a : Nat) (t : Stm), a < i → ss[a]? = some t → isDecl t = false := by
  cases h : ss.findIdx? isDecl with
  | none => exact .inl (List.findIdx?_eq_none_iff.1 h)
  | some i =>
    right
    obtain ⟨hi, h1, h2⟩ := List.findIdx?_eq_some_iff_getElem.1 h
    refine ⟨i, ss[i], gE hi, h1, fun a t ha ht => ?_⟩
    obtain ⟨_, rfl⟩ := gS ht
    have := h2 a ha
    simpa using this
end
def cellN (n : Nm) (j : Nat) (r : List Int) : AV := if r.length = 0 then .sc (.slice none 0 0) else .hs (.c n j 0) 1 0 r.length
def ntRows (n : Nm) (T : List (List Int)) : List (List AV) := T.mapIdx fun j r => [cellN n j r]
structure IsTabN (hp : Nm → Option AO) (n : Nm) (T : List (List Int)) : Prop where
  top : hp n = some (.row 1 (ntRows n T))
  row : ∀ (j : Nat) r, T[j]? = some r → 0 < r.length → hp (.c n j 0) = some (.row 1 (irows r))
section
variable {n m : Nm} {T : List (List Int)} {j b k : Nat} {r L : List Int} {f : Nm → Option Nm} {x : AV}
@[simp] theorem ntRows_len : (ntRows n T).length = T.length := by simp [ntRows]
@[simp] theorem ntRows_get : (ntRows n T)[j]? = (T[j]?).map fun r => [cellN n j r] := by simp [ntRows]
@[simp] theorem ntRows_getE {h : j < (ntRows n T).length} : (ntRows n T)[j] = [cellN n j (T[j]'(by simpa using h))] := by simp [ntRows]
theorem cellN_nil (h : r.length = 0) : cellN n j r = .sc (.slice none 0 0) := by simp [cellN, h]
theorem cellN_some (h : 0 < r.length) : cellN n j r = .hs (.c n j 0) 1 0 r.length := by simp [cellN, show ¬ r.length = 0 by omega]
theorem ntRows_nils {l : Nat} : List.replicate l [AV.sc (.slice none 0 0)] = ntRows n (List.replicate l []) := by
  apply List.ext_getElem?
  intro i
  rw [ntRows_get, List.getElem?_replicate, List.getElem?_replicate]
  split <;> simp [cellN]
theorem ntRows_fix (h : ∀ j, f (.c n j 0) = some (.c m j 0)) : (ntRows n T).map (fun r => r.map (AV.tr f)) = ntRows m T := by
  apply List.ext_getElem?
  intro i
  rw [List.getElem?_map, ntRows_get, ntRows_get]
  cases hi : T[i]? with
  | none => rfl
  | some r =>
    by_cases h0 : r.length = 0
    · simp [cellN_nil h0]
    · simp [cellN_some (show 0 < r.length by omega), h]
@[simp] theorem ntRows_same (h : ∀ j, f (.c n j 0) = some (.c n j 0)) : (ntRows n T).map (fun r => r.map (AV.tr f)) = ntRows n T := ntRows_fix h
theorem ntRows_put (hb : b < T.length) (hL : 0 < L.length) (h : ∀ j, j ≠ b → f (.c n j 0) = some (.c n j 0)) (hm : f m = some (.c n b 0)) : (rowsSet (ntRows n T) b 0 [.hs m 1 0 L.length]).map (fun r => r.map (AV.tr f)) = ntRows n (T.set b L) := by
  apply List.ext_getElem?
  intro i
  simp only [rowsSet, List.getElem?_modify, List.getElem?_map, ntRows_get, List.getElem?_set]
  by_cases e : b = i
  · subst e
    obtain ⟨r, hr⟩ : ∃ r, T[b]? = some r := ⟨_, gE hb⟩
    simp [hr, hb, hm, cellN_some hL]
  · cases hi : T[i]? with
    | none => simp [e]
    | some r =>
      by_cases h0 : r.length = 0
      · simp [cellN_nil h0, e]
      · simp [cellN_some (show 0 < r.length by omega), h i (fun e' => e e'.symm), e]
end
theorem IsTabN.hcln {H' : Nm → Option AO} {n : Nm} {T : List (List Int)} (h : IsTabN H' n T) : IsTabN (Hm.hcln H') n T := by
  refine ⟨hcln_row h.top ?_, fun j r hr h0 => hcln_row (h.row j r hr h0) (by simp)⟩
  simp only [List.all_eq_true]
  intro r hr
  obtain ⟨i, hi⟩ := List.getElem?_of_mem hr
  rw [ntRows_get] at hi
  obtain ⟨x, _, rfl⟩ := Option.map_eq_some_iff.1 hi
  intro a ha
  obtain rfl := by simpa using ha
  by_cases h0 : x.length = 0
  · simp [cellN_nil h0]
  · simp [cellN_some (show 0 < x.length by omega)]
theorem bw_tabN {hp : Nm → Option AO} {n : Nm} {len : Nat} {t : List (List Int)} (h : IsTabN hp n t) (hl : len = t.length) : Bw hp noD (.hs n 1 0 len) (tsl t) := by
  subst hl
  refine .hs n 1 0 t.length (ntRows n t) (trows t) rfl h.top (by simp) (by simp) (by simp [trows]) fun i r r' hr hr' j a a' ha ha' => ?_
  rw [Nat.zero_add, ntRows_get] at hr
  rw [trows_get] at hr'
  obtain ⟨x, hx, rfl⟩ := Option.map_eq_some_iff.1 hr
  rw [hx] at hr'
  obtain rfl := Option.some.inj hr'
  cases j with
  | succ j => simp at ha
  | zero =>
    obtain rfl := Option.some.inj ha
    obtain rfl := Option.some.inj ha'
    by_cases h0 : x.length = 0
    · obtain rfl := List.length_eq_zero_iff.1 h0
      exact .nil 1
    · rw [cellN_some (show 0 < x.length by omega)]
      exact bw_ints (h.row i x hx (by omega)) rfl
structure TabTo (p : Prg) (b i : Nat) (T : List (List Int)) : Prop where
  len : T.length = p.length
  lo : ∀ j, j < b → T[j]? = some (idleRow p j)
  at' : b < p.length → T[b]? = some (idleTo p b i)
  hi : ∀ j, b < j → j < p.length → T[j]? = some []
section
variable {p : Prg} {b i : Nat} {T : List (List Int)} {k : Blk}
theorem TabTo.start : TabTo p 0 0 (List.replicate p.length []) := by
  refine ⟨by simp, fun j h => by omega, fun h => by simp [h], fun j _ h => by simp [h]⟩
theorem TabTo.skip (h : TabTo p b i T) (hi : idleAt p b i = false) : TabTo p b (i + 1) T := ⟨h.len, h.lo, fun hb => by rw [h.at' hb, idleTo_succ, hi]; rfl, h.hi⟩
theorem TabTo.keep (h : TabTo p b i T) (hb : b < p.length) (hi : idleAt p b i = true) : TabTo p b (i + 1) (T.set b (idleTo p b i ++ [(i : Int)])) := by
  have hl := h.len
  refine ⟨by simp [hl], fun j hj => ?_, fun _ => ?_, fun j h1 h2 => ?_⟩
  · rw [List.getElem?_set, if_neg (by omega)]; exact h.lo j hj
  · rw [List.getElem?_set, if_pos rfl, if_pos (by omega), idleTo_succ, hi]; rfl
  · rw [List.getElem?_set, if_neg (by omega)]; exact h.hi j h1 h2
theorem TabTo.next (hk : p[b]? = some k) (h : TabTo p b k.body.length T) : TabTo p (b + 1) 0 T := by
  have hb := (gS hk).1
  refine ⟨h.len, fun j hj => ?_, fun h1 => ?_, fun j h1 h2 => h.hi j (by omega) h2⟩
  · rcases Nat.lt_succ_iff_lt_or_eq.1 hj with h1 | rfl
    · exact h.lo j h1
    · rw [h.at' hb, idleRow_eq hk]
  · rw [h.hi (b + 1) (by omega) h1]; rfl
theorem TabTo.done (h : TabTo p p.length i T) : T = idleT p := by
  apply List.ext_getElem?
  intro j
  by_cases hj : j < p.length
  · rw [h.lo j hj]
    simp [idleT, hj]
  · have hl := h.len
    rw [List.getElem?_eq_none (by omega), List.getElem?_eq_none (by simp; omega)]
end
end Go.Hm
end
