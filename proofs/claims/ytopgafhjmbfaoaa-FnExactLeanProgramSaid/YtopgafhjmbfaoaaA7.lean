/-
  Own texts, joined by merge.py: Hm47, Hm48.
-/
import Derived.Test.YtopgafhjmbfaoaaA6
import Derived.Test.YtopgafhjmbfaoaaA5
import Derived.Test.YtopgafhjmbfaoaaA4

section
/-
  The heap machine, part 47: elements that are forgotten; clear where nothing is known; slices with three bounds. Own work; generic in the program.
-/
namespace Go.Hm
open Go Go.RowKit

section
variable {P : Program} {own : Nat → Prop} {C : Nat → Prop} {w0 : World} {g : Gh} {st : St} {a : Act} {w : World}

theorem rowAt_take {b c z k : Nat} {rows : List (List AV)} (h : RowAt g w b c z rows) : RowAt g w b c z (rows.take k) := by
  obtain ⟨cur, T, c1, c2, c3, c4, c5, c6, c7⟩ := h
  refine ⟨cur, T, c1, c2, c3, by rw [List.length_take]; omega, fun r hr => c5 r (List.mem_of_mem_take hr), fun j hj => c6 j ?_, fun i row hrow => c7 i row ?_⟩
  · refine Nat.lt_of_lt_of_le hj (Nat.mul_le_mul_right _ ?_)
    rw [List.length_take]; omega
  · rw [List.getElem?_take] at hrow
    split at hrow
    · exact hrow
    · cases hrow
/-- elements are forgotten -/
theorem Rg.cutRows (h : Rg P own C w0 g st a w) {n : Nm} {z k : Nat} {rows : List (List AV)} (hn : st.hp n = some (.row z rows)) : Rg P own C w0 g (st.setO n (.row z (rows.take k))) a w := by
  have ho := h.inv.obj n _ hn
  cases hk : g.φ n with
  | none =>
    simp only [OAt, hk] at ho
    subst ho
    have e : st.setO n (.row z (([] : List (List AV)).take k)) = st := by
      obtain ⟨tm, hp, n', gl⟩ := st
      simp only [St.setO, List.take_nil] at hn ⊢
      congr 1
      funext m
      split
      · rename_i e; rw [e, hn]
      · rfl
    rw [e]
    exact h
  | some b =>
    refine h.wr hn hk rfl rfl rfl (Nat.le_refl _) (fun _ _ _ => rfl) ?_
    simp only [OAt, hk] at ho ⊢
    exact rowAt_take ho

theorem zeroCells_size (c : Array Value) (n : Nat) : (Builtin.zeroCells c n).size = n * c.size := by simp [Builtin.zeroCells]
theorem zeroCells_one {c : Array Value} {n : Nat} (h : ∀ v ∈ c.toList, v.oneCell' = true) : ∀ v ∈ (Builtin.zeroCells c n).toList, v.oneCell' = true := by
  intro v hv
  simp only [Builtin.zeroCells, Array.toList_map, List.mem_map, Array.toList_range, List.mem_range] at hv
  obtain ⟨t, ht, rfl⟩ := hv
  have hpos : 0 < c.size := by
    refine Nat.pos_of_ne_zero fun e => ?_
    rw [e] at ht
    omega
  have hlt : t % c.size < c.size := Nat.mod_lt _ hpos
  rw [getElem!_pos c _ hlt]
  exact h _ (by rw [Array.mem_toList_iff]; exact Array.getElem_mem hlt)
/-- clear, where nothing is known of what is cleared -/
theorem clr_sound {o : Oper} {T E : TypeId} {s : Operand} {z lo len : Nat} {n : Nm} {rows : List (List AV)} {zv : List AV} (h : Rg P own C w0 g st a w) (ho : o.op = .call { callee := .builtin .clear, args := #[s], argTypes := #[T] }) (hd : o.dst = none)
    (hT : tapp P T = some E) (hz : tsz P E = z) (hzv : zvals P E = some zv) (hs : ev st s = .hs n z lo len) (hn : st.hp n = some (.row z rows)) (hle : rows.length ≤ lo) :
    Does P o a w fun a' w' => Rel P own C w0 g st a' w' := by
  have hv := h.ev s
  rw [hs] at hv
  obtain ⟨i, zz, t1, t2, t3, t4, t5, t6, t7⟩ := tapp_spec hT
  obtain ⟨i', z', q1, q2, q3, rfl, q4⟩ := zvals_spec hzv
  rw [t2] at q1
  obtain rfl := Option.some.inj q1
  rw [t3] at q2
  obtain rfl := Option.some.inj q2
  have hiz : i.size = z := t7.symm.trans hz
  have ho' := h.inv.obj n _ hn
  have done : ∀ v w', (Builtin.clear_ #[T] o.type #[a.eval s]).run P w = .ok v w' → (execOp a.eval o).run P w = .ok (.value v) w' := by
    intro v w' e
    simp only [execOp, ho, resolve, invoke, builtin, Sem.run_bind, Sem.run_pure, Result.andThen_ok, List.map_toArray, List.map_cons, List.map_nil, e]
  generalize hvs : a.eval s = v at hv done
  by_cases hl0 : len = 0
  · subst hl0
    have : ∃ ad c, v = .slice ad 0 c := by
      cases hv with
      | hsN _ _ hk => exact ⟨_, _, rfl⟩
      | hsB _ _ _ _ b cap ad hk g1 g2 g3 => exact ⟨_, _, rfl⟩
    obtain ⟨ad, c, rfl⟩ := this
    refine .inl ⟨.tuple #[], w, done _ _ (by cases ad <;> simp [Builtin.clear_, run_underlying t1]), g, .refl g, ?_⟩
    rw [hd]
    exact h
  · cases hv with
    | hsN _ _ hk => omega
    | hsB _ _ _ _ b cap ad0 hk g1 g2 g3 =>
      obtain ⟨x1, x2, x3⟩ := h.inv.blk n _ b hn hk
      simp only [OAt, hk, ← g2] at ho'
      obtain ⟨cur, U, c1, c2, c3, c4, c5, c6, c7⟩ := ho'
      have h0 : 0 < cap := by omega
      rw [g3 h0] at done
      have hnl : (Builtin.zeroCells zz.cells len).toList.length = len * z := by rw [Array.length_toList, zeroCells_size, t4, hiz]
      have hfit : lo * z + (Builtin.zeroCells zz.cells len).toList.length ≤ cur.size := by
        rw [hnl, c2, ← Nat.add_mul]
        exact Nat.mul_le_mul_right _ (by omega)
      have hst := run_storeCells_at P b (lo * z) U (Builtin.zeroCells zz.cells len).toList 0 cur w c1 (by simpa using hfit) (zeroCells_one q3)
      simp only [Nat.add_zero] at hst
      have hrun : (Builtin.clear_ #[T] o.type #[Value.slice (some ⟨b, lo * z, none⟩) len cap]).run P w = .ok (.tuple #[]) (w.setRow b (cur.toList.take (lo * z) ++ (Builtin.zeroCells zz.cells len).toList ++ cur.toList.drop (lo * z + (Builtin.zeroCells zz.cells len).toList.length)).toArray) := by
        obtain ⟨m, rfl⟩ : ∃ m, len = m + 1 := ⟨len - 1, by omega⟩
        simp [Builtin.clear_, run_underlying t1, zeroValue, typeInfo, t2, t3, hst]
      refine .inl ⟨_, _, done _ _ hrun, g, .refl g, ?_⟩
      rw [hd]
      have e : st.setO n (.row z rows) = st := by
        obtain ⟨tm, hp, n', gl⟩ := st
        simp only [St.setO] at hn ⊢
        congr 1
        funext m
        split
        · rename_i e; rw [e, hn]
        · rfl
      rw [← e]
      refine h.wr (b := b) hn hk rfl rfl rfl (by simp) (fun b' hne _ => setRow_other w _ b' _ hne) ?_
      simp only [OAt, hk, ← g2]
      have keepC : ∀ (q : Array Value) b', g.C b' → (w.setRow b q).heap[b']? = w.heap[b']? := fun q b' hC => setRow_other w _ b' _ (fun e => x1 (e ▸ h.inv.hC ▸ hC))
      have hsz' : lo * z + (Builtin.zeroCells zz.cells len).toList.length ≤ cur.toList.length := by simpa using hfit
      have hro : rows.length * z ≤ lo * z := Nat.mul_le_mul_right _ hle
      refine ⟨_, U, setRow_heap w _ _ _ U _ c1, ?_, c3, c4, c5, ?_, ?_⟩
      · simp only [List.size_toArray, List.length_append, List.length_take, List.length_drop, Array.length_toList]
        simp only [Array.length_toList] at hsz'
        omega
      · intro j hj
        rw [seg_getD _ _ _ hsz', if_neg (by omega)]
        simpa using c6 j hj
      · intro k row hrow j y hy
        have hkl := (List.getElem?_eq_some_iff.1 hrow).1
        have hj : j < z := by rw [← c5 row (List.mem_of_getElem? hrow)]; exact (List.getElem?_eq_some_iff.1 hy).1
        have h5 : (k + 1) * z ≤ rows.length * z := Nat.mul_le_mul_right _ hkl
        rw [Nat.add_mul, Nat.one_mul] at h5
        rw [seg_getD _ _ _ hsz', if_neg (by omega)]
        have := (c7 k row hrow j y hy).same (g' := g) (w' := w.setRow b (cur.toList.take (lo * z) ++ (Builtin.zeroCells zz.cells len).toList ++ cur.toList.drop (lo * z + (Builtin.zeroCells zz.cells len).toList.length)).toArray) (fun _ h => h) (keepC _) (fun _ => ⟨rfl, rfl⟩)
        simpa using this

/-- a slice with three bounds: it is allowed; of the value nothing is kept -/
theorem slc3_sound {o : Oper} {T E : TypeId} {s x y m : Operand} {k1 k2 k3 : IntKind} {d z len : Nat} {i j : Int} {n : Nm} (h : Rg P own C w0 g st a w) (ho : o.op = .slice T s (some x) (some y) (some m)) (hd : o.dst = some d) (hdn : d < st.n)
    (hT : tel P T = some E) (hs : ev st s = .hs n z 0 len) (hx : ev st x = .sc (.int k1 i)) (hy : ev st y = .sc (.int k2 j)) (hm : ev st m = .sc (.int k3 len)) (h0 : 0 ≤ i) (h1 : i ≤ j) (h2 : j ≤ len) :
    Does P o a w fun a' w' => Rel P own C w0 g (st.put (some d) .bot) a' w' := by
  have hv := h.ev s
  rw [hs] at hv
  obtain ⟨hu, hi'⟩ := tel_spec hT
  have hvs : ∃ ad cap, a.eval s = .slice ad len cap ∧ len ≤ cap := by
    generalize a.eval s = v at hv
    cases hv with
    | hsN _ _ hk => exact ⟨_, _, rfl, Nat.le_refl _⟩
    | hsB _ _ _ _ b cap ad hk g1 g2 g3 => exact ⟨_, _, rfl, g1⟩
  obtain ⟨ad, cap, hvs, hc⟩ := hvs
  have ex := (hx ▸ h.ev x).sc_eq
  have ey := (hy ▸ h.ev y).sc_eq
  have em := (hm ▸ h.ev m).sc_eq
  have hb : ∀ (k : IntKind) (i : Int) (y : Nat) (c : BoundsCode), 0 ≤ i → i ≤ y → (Instr.sliceBound (.int k i) y c).run P w = .ok i.toNat w := by
    intro k i y c g0 g1
    simp only [Instr.sliceBound, asIntOf, Sem.run_bind, Sem.run_pure, Result.andThen_ok, g0, g1, and_self, if_true]
  have hrun : ∃ v, (Instr.sliceAt T (a.eval s) (some (a.eval x)) (some (a.eval y)) (some (a.eval m))).run P w = .ok v w := by
    rw [hvs, ex, ey, em]
    refine ⟨.slice (if len = i.toNat then ad else ad.map (·.add (i.toNat * tsz P E))) (j.toNat - i.toNat) (len - i.toNat), ?_⟩
    simp only [Instr.sliceAt, Sem.run_bind, run_und hu, Result.andThen_ok, Instr.slice, Instr.sliceBounds]
    rw [hb _ _ _ _ (by omega) (by omega)]
    simp only [Result.andThen_ok]
    rw [hb _ _ _ _ (by omega) (by omega)]
    simp only [Result.andThen_ok]
    rw [hb _ _ _ _ (by omega) (by omega)]
    simp only [Result.andThen_ok, Sem.run_pure, run_sz hi', Int.toNat_natCast]
  obtain ⟨v, hrun⟩ := hrun
  refine .inl ⟨v, w, ?_, g, .refl g, ?_⟩
  · simp only [execOp, ho, Option.map_some, Sem.run_bind, hrun, Result.andThen_ok, Sem.run_pure]
  · rw [hd]
    exact h.put (d := some d) (fun t e => by obtain rfl := Option.some.inj e; exact hdn) (.bot v)
end

section
variable {X : Ctx} {st : St} {K : St → Prop} {E : AV → St → Prop} {ds : List (Option Nat)} {l : List Oper} {o : Oper} {ty : TypeId} {pos : String} {aft : Array Edge} {g : Option (Nat × Bool)}
theorem o_cut (n : Nm) (k : Nat) {z : Nat} {rows : List (List AV)} (hn : st.hp n = some (.row z rows)) (h : SemOp X o K E (st.setO n (.row z (rows.take k)))) : SemOp X o K E st := by
  intro a w Q hR hE
  obtain ⟨C, g, h1, h2, h3, h4, h5, hg⟩ := hR
  exact h a w Q ⟨C, g, h1, h2, h3, h4, h5, hg.cutRows hn⟩ hE
theorem x_clear {T F : TypeId} {s : Operand} {z lo len : Nat} {n : Nm} {rows : List (List AV)} {zv : List AV} (hT : tapp X.P T = some F) (hz : tsz X.P F = z) (hzv : zvals X.P F = some zv) (hs : ev st s = .hs n z lo len) (hn : st.hp n = some (.row z rows)) (hle : rows.length ≤ lo)
    (h : K st) : SemOp X ⟨none, .call ⟨.builtin .clear, #[s], #[T]⟩, ty, pos, aft, g⟩ K E st :=
  .of_rel (fun _ _ _ _ _ h => clr_sound h rfl rfl hT hz hzv hs hn hle) ⟨rfl, rfl⟩ h
theorem x_slice3 {T F : TypeId} {s x y m : Operand} {k1 k2 k3 : IntKind} {d z len : Nat} {i j : Int} {n : Nm} (hd : d < X.n) (hT : tel X.P T = some F) (hs : ev st s = .hs n z 0 len) (hx : ev st x = .sc (.int k1 i)) (hy : ev st y = .sc (.int k2 j)) (hm : ev st m = .sc (.int k3 len)) (h0 : 0 ≤ i) (h1 : i ≤ j) (h2 : j ≤ len)
    (h : K (st.put (some d) .bot)) : SemOp X ⟨some d, .slice T s (some x) (some y) (some m), ty, pos, aft, g⟩ K E st :=
  .of_rel (fun _ _ _ _ e h => slc3_sound h rfl rfl (e ▸ hd) hT hs hx hy hm h0 h1 h2) ⟨rfl, rfl⟩ h
end
end Go.Hm
end

section
/-
  The heap machine, part 48: declarations that can be left out, and lean programs. Own work.
-/
namespace Go.Hm
open Go Go.RowKit

/-- a program without a statement -/
def cutL (L : List Stm) (i : Nat) : List Stm := L.take i ++ L.drop (i + 1)
theorem cutL_len {L : List Stm} {i : Nat} (h : i < L.length) : (cutL L i).length = L.length - 1 := by
  simp [cutL]; omega
def cutP (p : Prg) (b i : Nat) : Prg := match p[b]? with | some k => setBody p b (cutL k.body i) | none => p
theorem cutP_eq {p : Prg} {b i : Nat} {k : Blk} (hk : p[b]? = some k) : cutP p b i = setBody p b (cutL k.body i) := by simp only [cutP, hk]
@[simp] theorem cutP_len {p : Prg} {b i : Nat} : (cutP p b i).length = p.length := by
  unfold cutP
  split <;> simp
def idleAt (p : Prg) (b i : Nat) : Bool := match p[b]? with
  | some k => match k.body[i]? with
    | some s => ((s.kind == 9) || (s.kind == 10)) && (progOk (cutP p b i) && decide (ownersOf p = ownersOf (cutP p b i)))
    | none => false
  | none => false
theorem idleAt_eq {p : Prg} {b i : Nat} {k : Blk} {s : Stm} (hk : p[b]? = some k) (hs : k.body[i]? = some s) : idleAt p b i = (((s.kind == 9) || (s.kind == 10)) && (progOk (cutP p b i) && decide (ownersOf p = ownersOf (cutP p b i)))) := by
  simp only [idleAt, hk, hs]
theorem idleAt_in {p : Prg} {b i : Nat} (h : idleAt p b i = true) : ∃ k s, p[b]? = some k ∧ k.body[i]? = some s ∧ progOk (cutP p b i) = true := by
  unfold idleAt at h
  split at h
  · rename_i k hk
    split at h
    · rename_i s hs
      simp only [Bool.and_eq_true] at h
      exact ⟨k, s, hk, hs, h.2.1⟩
    · cases h
  · cases h
theorem cutP_sml {p : Prg} {b i : Nat} (hs : Sml p) : Sml (cutP p b i) := by
  unfold cutP
  split
  · rename_i k hk
    have key : ∀ q ∈ setBody p b (cutL k.body i), ∃ r ∈ p, q.params = r.params ∧ q.body.length ≤ r.body.length := by
      intro q hq
      obtain ⟨c, hc⟩ := List.getElem?_of_mem hq
      cases hr : p[c]? with
      | none =>
        have := (List.getElem?_eq_some_iff.1 hc).1
        rw [setBody_len] at this
        rw [List.getElem?_eq_getElem this] at hr
        cases hr
      | some r =>
        rw [setBody_get hr] at hc
        refine ⟨r, List.mem_of_getElem? hr, ?_⟩
        split at hc
        · rename_i e
          subst e
          obtain rfl := Option.some.inj hc
          rw [hk] at hr
          obtain rfl := Option.some.inj hr
          refine ⟨rfl, ?_⟩
          simp [cutL]
          omega
        · obtain rfl := Option.some.inj hc
          exact ⟨rfl, Nat.le_refl _⟩
    refine ⟨by simpa using hs.len, fun q hq => ?_, fun q hq => ?_⟩
    · obtain ⟨r, hr, h1, _⟩ := key q hq
      rw [h1]
      exact hs.params r hr
    · obtain ⟨r, hr, _, h2⟩ := key q hq
      exact Nat.le_trans h2 (hs.body r hr)
  · exact hs

/-- how many statements there are -/
def stmts (p : Prg) : Nat := (p.map (fun k => k.body.length)).sum
theorem sum_modify {l : List Nat} {b x y : Nat} (h : l[b]? = some x) (hy : y + 1 = x) : (l.set b y).sum + 1 = l.sum := by
  induction l generalizing b with
  | nil => simp at h
  | cons a l ih =>
    cases b with
    | zero => simp at h; subst h; simp; omega
    | succ b =>
      simp only [List.getElem?_cons_succ] at h
      simp only [List.set_cons_succ, List.sum_cons]
      have := ih h
      omega
theorem stmts_cut {p : Prg} {b i : Nat} {k : Blk} (hk : p[b]? = some k) (hi : i < k.body.length) : stmts (cutP p b i) + 1 = stmts p := by
  have e : (cutP p b i).map (fun k => k.body.length) = (p.map (fun k => k.body.length)).set b (k.body.length - 1) := by
    rw [cutP_eq hk]
    apply List.ext_getElem?
    intro c
    rw [List.getElem?_map, List.getElem?_set, List.getElem?_map]
    cases hq : p[c]? with
    | none =>
      have hn : (setBody p b (cutL k.body i))[c]? = none := by
        rw [List.getElem?_eq_none_iff, setBody_len]
        exact List.getElem?_eq_none_iff.1 hq
      rw [hn]
      by_cases e : b = c
      · subst e; rw [hk] at hq; cases hq
      · simp [e]
    | some q =>
      rw [setBody_get hq]
      by_cases e : b = c
      · subst e
        have := (List.getElem?_eq_some_iff.1 hk).1
        simp [this, cutL_len hi]
      · simp [e]
  unfold stmts
  rw [e]
  exact sum_modify (x := k.body.length) (by simp [hk]) (by omega)

/-- the first statement that can be left out -/
structure IsFirst (p : Prg) (b i : Nat) : Prop where
  idle : idleAt p b i = true
  blk : ∀ b' i', b' < b → idleAt p b' i' = false
  stm : ∀ i', i' < i → idleAt p b i' = false
theorem IsFirst.uniq {p : Prg} {b i b' i' : Nat} (h : IsFirst p b i) (h' : IsFirst p b' i') : b = b' ∧ i = i' := by
  have hb : b = b' := by
    rcases Nat.lt_trichotomy b b' with e | e | e
    · have := h'.blk b i e; rw [h.idle] at this; cases this
    · exact e
    · have := h.blk b' i' e; rw [h'.idle] at this; cases this
  subst hb
  refine ⟨rfl, ?_⟩
  rcases Nat.lt_trichotomy i i' with e | e | e
  · have := h'.stm i e; rw [h.idle] at this; cases this
  · exact e
  · have := h.stm i' e; rw [h'.idle] at this; cases this
theorem leastN {P : Nat → Prop} (h : ∃ n, P n) : ∃ n, P n ∧ ∀ m < n, ¬ P m := by
  obtain ⟨n, hn⟩ := h
  induction n using Nat.strongRecOn with
  | _ n ih =>
    by_cases hm : ∃ m, m < n ∧ P m
    · obtain ⟨m, hm, hp⟩ := hm
      exact ih m hm hp
    · exact ⟨n, hn, fun m hlt hp => hm ⟨m, hlt, hp⟩⟩
theorem first_ex {p : Prg} (h : ∃ b i, idleAt p b i = true) : ∃ b i, IsFirst p b i := by
  obtain ⟨b, hb, hb'⟩ := leastN h
  obtain ⟨i, hi, hi'⟩ := leastN hb
  exact ⟨b, i, hi, fun b' i' hlt => by simpa using fun e => hb' b' hlt ⟨i', e⟩, fun i' hlt => by simpa using fun e => hi' i' hlt e⟩
/-- no statement can be left out -/
def NoIdle (p : Prg) : Prop := ∀ b i, idleAt p b i = false
inductive LeanTo : Prg → Prg → Prop
  | stop (p : Prg) (h : NoIdle p) : LeanTo p p
  | step (p r : Prg) (b i : Nat) (h : IsFirst p b i) (h' : LeanTo (cutP p b i) r) : LeanTo p r
theorem LeanTo.uniq {p r r' : Prg} (h : LeanTo p r) (h' : LeanTo p r') : r = r' := by
  induction h with
  | stop p h0 =>
    cases h' with
    | stop _ _ => rfl
    | step _ _ b i h1 _ => have := h0 b i; rw [h1.idle] at this; cases this
  | step p r b i h1 _ ih =>
    cases h' with
    | stop _ h0 => have := h0 b i; rw [h1.idle] at this; cases this
    | step _ _ b' i' h1' h2 =>
      obtain ⟨rfl, rfl⟩ := h1.uniq h1'
      exact ih h2
theorem lean_ex (p : Prg) : ∃ r, LeanTo p r := by
  generalize hn : stmts p = n
  induction n using Nat.strongRecOn generalizing p with
  | _ n ih =>
    by_cases h : ∃ b i, idleAt p b i = true
    · obtain ⟨b, i, hf⟩ := first_ex h
      obtain ⟨k, s, hk, hs, _⟩ := idleAt_in hf.idle
      have hc := stmts_cut hk (List.getElem?_eq_some_iff.1 hs).1
      obtain ⟨r, hr⟩ := ih (stmts (cutP p b i)) (by omega) _ rfl
      exact ⟨r, .step _ _ b i hf hr⟩
    · refine ⟨p, .stop _ fun b i => ?_⟩
      simpa using fun e => h ⟨b, i, e⟩
/-- a program without the declarations that can be left out -/
noncomputable def leanP (p : Prg) : Prg := Classical.choose (lean_ex p)
theorem leanP_to (p : Prg) : LeanTo p (leanP p) := Classical.choose_spec (lean_ex p)
theorem leanP_step {p : Prg} {b i : Nat} (h : IsFirst p b i) : leanP p = leanP (cutP p b i) := (leanP_to p).uniq (.step _ _ b i h (leanP_to _))
theorem leanP_stop {p : Prg} (h : NoIdle p) : leanP p = p := (leanP_to p).uniq (.stop _ h)
theorem LeanTo.sml {p r : Prg} (h : LeanTo p r) (hs : Sml p) : Sml r := by
  induction h with
  | stop p h => exact hs
  | step p r b i _ _ ih => exact ih (cutP_sml hs)
/-- what LeanProgram returns -/
noncomputable def leanG (p : Prg) : Prg := if progOk p = true then leanP p else []
theorem leanG_sml {p : Prg} (hs : Sml p) : Sml (leanG p) := by
  unfold leanG
  split
  · exact (leanP_to p).sml hs
  · exact ⟨by simp, fun k hk => by simp at hk, fun k hk => by simp at hk⟩

/-- the place of the first one -/
noncomputable def fstB (p : Prg) : Nat := by
  classical
  exact if h : ∃ b i, IsFirst p b i then Classical.choose h else 0
noncomputable def fstI (p : Prg) : Nat := by
  classical
  exact if h : ∃ i, IsFirst p (fstB p) i then Classical.choose h else 0
noncomputable def fstOk (p : Prg) : Bool := by
  classical
  exact if ∃ b i, IsFirst p b i then true else false
theorem fst_is {p : Prg} {b i : Nat} (h : IsFirst p b i) : fstB p = b ∧ fstI p = i ∧ fstOk p = true := by
  have hb : fstB p = b := by
    have hx : ∃ b i, IsFirst p b i := ⟨b, i, h⟩
    unfold fstB
    rw [dif_pos hx]
    obtain ⟨i', h'⟩ := Classical.choose_spec hx
    exact (h'.uniq h).1
  have hi : fstI p = i := by
    have hx : ∃ i, IsFirst p (fstB p) i := ⟨i, by rw [hb]; exact h⟩
    unfold fstI
    rw [dif_pos hx]
    exact ((Classical.choose_spec hx).uniq h).2
  refine ⟨hb, hi, ?_⟩
  unfold fstOk
  rw [if_pos ⟨b, i, h⟩]
theorem fst_no {p : Prg} (h : NoIdle p) : fstB p = 0 ∧ fstI p = 0 ∧ fstOk p = false := by
  have hx : ¬ ∃ b i, IsFirst p b i := fun ⟨b, i, h'⟩ => by have := h b i; rw [h'.idle] at this; cases this
  have hy : ∀ b, ¬ ∃ i, IsFirst p b i := fun b ⟨i, h'⟩ => hx ⟨b, i, h'⟩
  refine ⟨?_, ?_, ?_⟩
  · unfold fstB; rw [dif_neg hx]
  · unfold fstI; rw [dif_neg (hy _)]
  · unfold fstOk; rw [if_neg hx]
theorem fst_cases (p : Prg) : (IsFirst p (fstB p) (fstI p) ∧ fstOk p = true) ∨ (NoIdle p ∧ fstOk p = false) := by
  by_cases h : ∃ b i, idleAt p b i = true
  · obtain ⟨b, i, hf⟩ := first_ex h
    obtain ⟨h1, h2, h3⟩ := fst_is hf
    exact .inl ⟨by rw [h1, h2]; exact hf, h3⟩
  · have hn : NoIdle p := fun b i => by simpa using fun e => h ⟨b, i, e⟩
    exact .inr ⟨hn, (fst_no hn).2.2⟩
theorem pRows_setOwn {n : Nm} {i len : Nat} {p : Prg} {L : List Stm} (hl : len = L.length) : rowsSet (pRows n p) i 3 [.hs (.c n i 3) 4 0 len] = pRows n (setBody p i L) := by
  subst hl
  apply List.ext_getElem?
  intro j
  simp only [rowsSet, List.getElem?_modify, pRows_get]
  cases hx : p[j]? with
  | none =>
    have : (setBody p i L)[j]? = none := by
      rw [List.getElem?_eq_none_iff, setBody_len]
      exact List.getElem?_eq_none_iff.1 hx
    simp [this]
  | some x =>
    rw [setBody_get hx]
    by_cases e : i = j
    · subst e
      simp
    · have e' : ¬ j = i := fun h => e h.symm
      simp [e, e']
end Go.Hm
end
