/-
  Own texts, joined by mkclaim.py: Hm42, Hm43, Hm44, Hm46, Hm47, Hm48, Hm49, Hm50, Hm51, Hm52, Hm53, Hm54, Hm55, Hm56.
-/
import Derived.Test.YtcbkblboonkfhaaGreatS11
import Derived.Test.YtcbkblboonkfhaaGreatS10
set_option linter.unusedSimpArgs false
set_option linter.unusedVariables false
set_option maxRecDepth 100000
set_option maxHeartbeats 4000000

section
namespace Go.Hm
open Go Go.RowKit
def swapI (n x y : Int) : Int := if n = x then y else n
def Stm.ren (s : Stm) (x y : Int) : Stm :=
  ⟨s.kind, if s.sets ∨ 9 ≤ s.kind then swapI s.to x y else s.to,
    if s.kind = 1 ∨ s.kind = 6 ∨ s.kind = 7 ∨ s.kind = 8 ∨ s.kind = 2 ∨ s.kind = 5 then swapI s.a x y else s.a, if s.kind = 2 ∨ s.kind = 5 then swapI s.b x y else s.b⟩
def Blk.ren (k : Blk) (x y : Int) : Blk := ⟨k.kind, k.parent, k.params.map (fun n => swapI n x y), k.body.map (fun s => s.ren x y)⟩
def insideF (p : Prg) (b : Int) : Nat → Int → Bool
  | 0, j => decide (j = b)
  | n + 1, j => if b < j then (match p[j.toNat]? with | some q => insideF p b n q.parent | none => false) else decide (j = b)
def inside (p : Prg) (c b : Int) : Bool := insideF p b p.length c
theorem insideF_fuel {p : Prg} {b : Int} (hh : Heads p) (hb : 0 ≤ b) : ∀ (n m : Nat) (j : Int), j ≤ n → j ≤ m → insideF p b n j = insideF p b m j
  | 0, 0, _, _, _ => rfl
  | 0, m + 1, j, h, _ => by
    have h : j ≤ 0 := h
    simp only [insideF]
    rw [if_neg (by omega)]
  | n + 1, 0, j, _, h => by
    have h : j ≤ 0 := h
    simp only [insideF]
    rw [if_neg (by omega)]
  | n + 1, m + 1, j, h1, h2 => by
    simp only [insideF]
    split
    · cases hq : p[j.toNat]? with
      | none => rfl
      | some q =>
        have := (hh _ q hq).2.1
        exact insideF_fuel hh hb n m _ (by omega) (by omega)
    · rfl
theorem inside_end {p : Prg} {c b : Int} (h : c ≤ b) : inside p c b = decide (c = b) := by
  unfold inside
  generalize p.length = n
  cases n with
  | zero => rfl
  | succ n => simp only [insideF]; rw [if_neg (by omega)]
theorem inside_step {p : Prg} {c : Nat} {b : Int} {q : Blk} (hh : Heads p) (hb : 0 ≤ b) (hq : p[c]? = some q) (h : b < c) : inside p c b = inside p q.parent b := by
  have hl : c < p.length := (gS hq).1
  have hp := (hh c q hq).2.1
  unfold inside
  obtain ⟨n, hn⟩ : ∃ n, p.length = n + 1 := ⟨p.length - 1, by omega⟩
  rw [insideF_fuel hh hb p.length n q.parent (by omega) (by omega), hn]
  simp only [insideF]
  rw [if_pos h]
  simp [hq]
def Blk.us (k : Blk) : List Int := sorted (k.rd ++ k.bd ++ k.dc 9 ++ k.dc 10)
def touches (p : Prg) (b x : Int) (c : Nat) : Bool := match p[c]? with | some k => decide (x ∈ k.us) && decide (owner p c x = b) | none => false
def renIf (c : Bool) (x y : Int) (k : Blk) : Blk := if c then k.ren x y else k
def renS (S : Nat → Bool) (x y : Int) (p : Prg) : Prg := p.mapIdx fun c k => renIf (S c) x y k
theorem renS_get {S : Nat → Bool} {x y : Int} {p : Prg} {c : Nat} : (renS S x y p)[c]? = (p[c]?).map (renIf (S c) x y) := by
  simp [renS, List.getElem?_mapIdx]
@[simp] theorem renS_len {S : Nat → Bool} {x y : Int} {p : Prg} : (renS S x y p).length = p.length := by simp [renS]
def clashAt (p : Prg) (b : Nat) (y : Int) (c : Nat) : Bool := decide (b ≤ c) && match p[c]? with | some k => inside p c b && decide (y ∈ k.us) | none => false
def clash (p : Prg) (b : Nat) (y : Int) : Bool := (List.range p.length).any (clashAt p b y)
def renAt (p : Prg) (b : Nat) (x y : Int) : Bool := match p[b]? with | some k => (k.kind == 1) && isLocal b k x && !clash p b y | none => false
def renOk (p : Prg) (b x y : Int) : Bool := progOk p && (decide (0 ≤ b) && decide (b < p.length)) && (decide (0 ≤ x) && decide (x ≤ 7)) && (decide (0 ≤ y) && decide (y ≤ 7)) && (x != y) && renAt p b.toNat x y
def mapTo {α : Type} (f : α → α) (l : List α) (i : Nat) : List α := (l.take i).map f ++ l.drop i
section
variable {α : Type} {f : α → α} {l : List α} {i : Nat} {x : α}
@[simp] theorem mapTo_len (h : i ≤ l.length) : (mapTo f l i).length = l.length := by simp [mapTo]; omega
theorem mapTo_zero : mapTo f l 0 = l := by simp [mapTo]
theorem mapTo_all : mapTo f l l.length = l.map f := by simp [mapTo]
theorem mapTo_get (h : l[i]? = some x) : (mapTo f l i)[i]? = some x := by
  have hi := (gS h).1
  have e : (List.map f (List.take i l)).length = i := by simp; omega
  rw [mapTo, List.getElem?_append_right (by omega), e, Nat.sub_self, List.getElem?_drop]
  simpa using h
theorem mapTo_set (h : l[i]? = some x) : (mapTo f l i).set i (f x) = mapTo f l (i + 1) := by
  obtain ⟨hi, hx⟩ := gS h
  apply List.ext_getElem?
  intro j
  rw [List.getElem?_set, mapTo_len (by omega)]
  by_cases e : i = j
  · subst e
    rw [if_pos rfl, if_pos hi]
    have e1 : (List.map f (List.take (i + 1) l)).length = i + 1 := by simp; omega
    rw [mapTo, List.getElem?_append_left (by omega)]
    simp [h]
  · rw [if_neg e]
    simp only [mapTo]
    rcases Nat.lt_or_ge j i with h1 | h1
    · rw [List.getElem?_append_left (by simp; omega), List.getElem?_append_left (by simp; omega)]
      simp [h1, show j < i + 1 by omega]
    · rw [List.getElem?_append_right (by simp; omega), List.getElem?_append_right (by simp; omega)]
      simp only [List.length_map, List.length_take, List.getElem?_drop]
      congr 1
      omega
end
section
variable {p : Prg} {b x y : Int} {i : Nat} {k : Blk}
end
section
variable {P : Program} {own : Nat → Prop} {C : Nat → Prop} {w0 : World} {g : Gh} {st : St} {a : Go.Act} {w : World}
theorem rowAt_take {b c z k : Nat} {rows : List (List AV)} (h : RowAt g w b c z rows) : RowAt g w b c z (rows.take k) := by
  obtain ⟨cur, T, c1, c2, c3, c4, c5, c6, c7⟩ := h
  refine ⟨cur, T, c1, c2, c3, by rw [List.length_take]; omega, fun r hr => c5 r (List.mem_of_mem_take hr), fun j hj => c6 j ?_, fun i row hrow => c7 i row ?_⟩
  · refine Nat.lt_of_lt_of_le hj (Nat.mul_le_mul_right _ ?_)
    rw [List.length_take]; omega
  · rw [List.getElem?_take] at hrow
    split at hrow
    · exact hrow
    · cases hrow
theorem Rg.cutRows (h : Rg P own C w0 g st a w) {n : Nm} {z k : Nat} {rows : List (List AV)} (hn : st.hp n = some (.row z rows)) : Rg P own C w0 g (st.setO n (.row z (rows.take k))) a w := by
  have ho := h.inv.obj n _ hn
  cases hk : g.φ n with
  | none =>
    simp only [OAt, hk] at ho
    subst ho
    have e : st.setO n (.row z (([] : List (List AV)).take k)) = st := by
      obtain ⟨tm, hp, n', gl⟩ := st
      simp only [St.setO, List.take_nil] at hn ⊢
      congr 1
      funext m
      split
      · rename_i e; rw [e, hn]
      · rfl
    rw [e]
    exact h
  | some b =>
    refine h.wr hn hk rfl rfl rfl (Nat.le_refl _) (fun _ _ _ => rfl) ?_
    simp only [OAt, hk] at ho ⊢
    exact rowAt_take ho
theorem zeroCells_size (c : Array Value) (n : Nat) : (Builtin.zeroCells c n).size = n * c.size := by simp [Builtin.zeroCells]
theorem zeroCells_one {c : Array Value} {n : Nat} (h : ∀ v ∈ c.toList, v.oneCell' = true) : ∀ v ∈ (Builtin.zeroCells c n).toList, v.oneCell' = true := by
  intro v hv
  simp only [Builtin.zeroCells, Array.toList_map, List.mem_map, Array.toList_range, List.mem_range] at hv
  obtain ⟨t, ht, rfl⟩ := hv
  have hpos : 0 < c.size := by
    refine Nat.pos_of_ne_zero fun e => ?_
    rw [e] at ht
    omega
  have hlt : t % c.size < c.size := Nat.mod_lt _ hpos
  rw [getElem!_pos c _ hlt]
  exact h _ (by rw [Array.mem_toList_iff]; exact Array.getElem_mem hlt)
theorem clr_sound {o : Oper} {T E : TypeId} {s : Operand} {z lo len : Nat} {n : Nm} {rows : List (List AV)} {zv : List AV} (h : Rg P own C w0 g st a w) (ho : o.op = .call { callee := .builtin .clear, args := #[s], argTypes := #[T] }) (hd : o.dst = none)
    (hT : tapp P T = some E) (hz : tsz P E = z) (hzv : zvals P E = some zv) (hs : ev st s = .hs n z lo len) (hn : st.hp n = some (.row z rows)) (hle : rows.length ≤ lo) :
    Does P o a w fun a' w' => Rel P own C w0 g st a' w' := by
  have hv := h.ev s
  rw [hs] at hv
  obtain ⟨i, zz, t1, t2, t3, t4, t5, t6, t7⟩ := tapp_spec hT
  obtain ⟨i', z', q1, q2, q3, rfl, q4⟩ := zvals_spec hzv
  rw [t2] at q1
  obtain rfl := Option.some.inj q1
  rw [t3] at q2
  obtain rfl := Option.some.inj q2
  have hiz : i.size = z := t7.symm.trans hz
  have ho' := h.inv.obj n _ hn
  have done : ∀ v w', (Builtin.clear_ #[T] o.type #[a.eval s]).run P w = .ok v w' → (execOp a.eval o).run P w = .ok (.value v) w' := by
    intro v w' e
    simp only [execOp, ho, resolve, invoke, builtin, Sem.run_bind, Sem.run_pure, Result.andThen_ok, List.map_toArray, List.map_cons, List.map_nil, e]
  generalize hvs : a.eval s = v at hv done
  by_cases hl0 : len = 0
  · subst hl0
    have : ∃ ad c, v = .slice ad 0 c := by
      cases hv with
      | hsN _ _ hk => exact ⟨_, _, rfl⟩
      | hsB _ _ _ _ b cap ad hk g1 g2 g3 => exact ⟨_, _, rfl⟩
    obtain ⟨ad, c, rfl⟩ := this
    refine .inl ⟨.tuple #[], w, done _ _ (by cases ad <;> simp [Builtin.clear_, run_underlying t1]), g, .refl g, ?_⟩
    rw [hd]
    exact h
  · cases hv with
    | hsN _ _ hk => omega
    | hsB _ _ _ _ b cap ad0 hk g1 g2 g3 =>
      obtain ⟨x1, x2, x3⟩ := h.inv.blk n _ b hn hk
      simp only [OAt, hk, ← g2] at ho'
      obtain ⟨cur, U, c1, c2, c3, c4, c5, c6, c7⟩ := ho'
      have h0 : 0 < cap := by omega
      rw [g3 h0] at done
      have hnl : (Builtin.zeroCells zz.cells len).toList.length = len * z := by rw [Array.length_toList, zeroCells_size, t4, hiz]
      have hfit : lo * z + (Builtin.zeroCells zz.cells len).toList.length ≤ cur.size := by
        rw [hnl, c2, ← Nat.add_mul]
        exact Nat.mul_le_mul_right _ (by omega)
      have hst := run_storeCells_at P b (lo * z) U (Builtin.zeroCells zz.cells len).toList 0 cur w c1 (by simpa using hfit) (zeroCells_one q3)
      simp only [Nat.add_zero] at hst
      have hrun : (Builtin.clear_ #[T] o.type #[Value.slice (some ⟨b, lo * z, none⟩) len cap]).run P w = .ok (.tuple #[]) (w.setRow b (cur.toList.take (lo * z) ++ (Builtin.zeroCells zz.cells len).toList ++ cur.toList.drop (lo * z + (Builtin.zeroCells zz.cells len).toList.length)).toArray) := by
        obtain ⟨m, rfl⟩ : ∃ m, len = m + 1 := ⟨len - 1, by omega⟩
        simp [Builtin.clear_, run_underlying t1, zeroValue, typeInfo, t2, t3, hst]
      refine .inl ⟨_, _, done _ _ hrun, g, .refl g, ?_⟩
      rw [hd]
      have e : st.setO n (.row z rows) = st := by
        obtain ⟨tm, hp, n', gl⟩ := st
        simp only [St.setO] at hn ⊢
        congr 1
        funext m
        split
        · rename_i e; rw [e, hn]
        · rfl
      rw [← e]
      refine h.wr (b := b) hn hk rfl rfl rfl (by simp) (fun b' hne _ => setRow_other w _ b' _ hne) ?_
      simp only [OAt, hk, ← g2]
      have keepC : ∀ (q : Array Value) b', g.C b' → (w.setRow b q).heap[b']? = w.heap[b']? := fun q b' hC => setRow_other w _ b' _ (fun e => x1 (e ▸ h.inv.hC ▸ hC))
      have hsz' : lo * z + (Builtin.zeroCells zz.cells len).toList.length ≤ cur.toList.length := by simpa using hfit
      have hro : rows.length * z ≤ lo * z := Nat.mul_le_mul_right _ hle
      refine ⟨_, U, setRow_heap w _ _ _ U _ c1, ?_, c3, c4, c5, ?_, ?_⟩
      · simp only [List.size_toArray, List.length_append, List.length_take, List.length_drop, Array.length_toList]
        simp only [Array.length_toList] at hsz'
        omega
      · intro j hj
        rw [seg_getD _ _ _ hsz', if_neg (by omega)]
        simpa using c6 j hj
      · intro k row hrow j y hy
        have hkl := (gS hrow).1
        have hj : j < z := by rw [← c5 row (List.mem_of_getElem? hrow)]; exact (gS hy).1
        have h5 : (k + 1) * z ≤ rows.length * z := Nat.mul_le_mul_right _ hkl
        rw [Nat.add_mul, Nat.one_mul] at h5
        rw [seg_getD _ _ _ hsz', if_neg (by omega)]
        have := (c7 k row hrow j y hy).same (g' := g) (w' := w.setRow b (cur.toList.take (lo * z) ++ (Builtin.zeroCells zz.cells len).toList ++ cur.toList.drop (lo * z + (Builtin.zeroCells zz.cells len).toList.length)).toArray) (fun _ h => h) (keepC _) (fun _ => ⟨rfl, rfl⟩)
        simpa using this
theorem slc3_sound {o : Oper} {T E : TypeId} {s x y m : Operand} {k1 k2 k3 : IntKind} {d z len : Nat} {i j : Int} {n : Nm} (h : Rg P own C w0 g st a w) (ho : o.op = .slice T s (some x) (some y) (some m)) (hd : o.dst = some d) (hdn : d < st.n)
    (hT : tel P T = some E) (hs : ev st s = .hs n z 0 len) (hx : ev st x = .sc (.int k1 i)) (hy : ev st y = .sc (.int k2 j)) (hm : ev st m = .sc (.int k3 len)) (h0 : 0 ≤ i) (h1 : i ≤ j) (h2 : j ≤ len) :
    Does P o a w fun a' w' => Rel P own C w0 g (st.put (some d) .bot) a' w' := by
  have hv := h.ev s
  rw [hs] at hv
  obtain ⟨hu, hi'⟩ := tel_spec hT
  have hvs : ∃ ad cap, a.eval s = .slice ad len cap ∧ len ≤ cap := by
    generalize a.eval s = v at hv
    cases hv with
    | hsN _ _ hk => exact ⟨_, _, rfl, Nat.le_refl _⟩
    | hsB _ _ _ _ b cap ad hk g1 g2 g3 => exact ⟨_, _, rfl, g1⟩
  obtain ⟨ad, cap, hvs, hc⟩ := hvs
  have ex := (hx ▸ h.ev x).sc_eq
  have ey := (hy ▸ h.ev y).sc_eq
  have em := (hm ▸ h.ev m).sc_eq
  have hb : ∀ (k : IntKind) (i : Int) (y : Nat) (c : BoundsCode), 0 ≤ i → i ≤ y → (Instr.sliceBound (.int k i) y c).run P w = .ok i.toNat w := by
    intro k i y c g0 g1
    simp only [Instr.sliceBound, asIntOf, Sem.run_bind, Sem.run_pure, Result.andThen_ok, g0, g1, and_self, if_true]
  have hrun : ∃ v, (Instr.sliceAt T (a.eval s) (some (a.eval x)) (some (a.eval y)) (some (a.eval m))).run P w = .ok v w := by
    rw [hvs, ex, ey, em]
    refine ⟨.slice (if len = i.toNat then ad else ad.map (·.add (i.toNat * tsz P E))) (j.toNat - i.toNat) (len - i.toNat), ?_⟩
    simp only [Instr.sliceAt, Sem.run_bind, run_und hu, Result.andThen_ok, Instr.slice, Instr.sliceBounds]
    rw [hb _ _ _ _ (by omega) (by omega)]
    simp only [Result.andThen_ok]
    rw [hb _ _ _ _ (by omega) (by omega)]
    simp only [Result.andThen_ok]
    rw [hb _ _ _ _ (by omega) (by omega)]
    simp only [Result.andThen_ok, Sem.run_pure, run_sz hi', Int.toNat_natCast]
  obtain ⟨v, hrun⟩ := hrun
  refine .inl ⟨v, w, ?_, g, .refl g, ?_⟩
  · simp only [execOp, ho, Option.map_some, Sem.run_bind, hrun, Result.andThen_ok, Sem.run_pure]
  · rw [hd]
    exact h.put (d := some d) (fun t e => by obtain rfl := Option.some.inj e; exact hdn) (.bot v)
end
section
variable {X : Ctx} {st : St} {K : St → Prop} {E : AV → St → Prop} {ds : List (Option Nat)} {l : List Oper} {o : Oper} {ty : TypeId} {pos : String} {aft : Array Edge} {g : Option (Nat × Bool)}
theorem o_cut (n : Nm) (k : Nat) {z : Nat} {rows : List (List AV)} (hn : st.hp n = some (.row z rows)) (h : SemOp X o K E (st.setO n (.row z (rows.take k)))) : SemOp X o K E st := by
  intro a w Q hR hE
  obtain ⟨C, g, h1, h2, h3, h4, h5, hg⟩ := hR
  exact h a w Q ⟨C, g, h1, h2, h3, h4, h5, hg.cutRows hn⟩ hE
theorem x_clear {T F : TypeId} {s : Operand} {z lo len : Nat} {n : Nm} {rows : List (List AV)} {zv : List AV} (hT : tapp X.P T = some F) (hz : tsz X.P F = z) (hzv : zvals X.P F = some zv) (hs : ev st s = .hs n z lo len) (hn : st.hp n = some (.row z rows)) (hle : rows.length ≤ lo)
    (h : K st) : SemOp X ⟨none, .call ⟨.builtin .clear, #[s], #[T]⟩, ty, pos, aft, g⟩ K E st :=
  .of_rel (fun _ _ _ _ _ h => clr_sound h rfl rfl hT hz hzv hs hn hle) ⟨rfl, rfl⟩ h
theorem x_slice3 {T F : TypeId} {s x y m : Operand} {k1 k2 k3 : IntKind} {d z len : Nat} {i j : Int} {n : Nm} (hd : d < X.n) (hT : tel X.P T = some F) (hs : ev st s = .hs n z 0 len) (hx : ev st x = .sc (.int k1 i)) (hy : ev st y = .sc (.int k2 j)) (hm : ev st m = .sc (.int k3 len)) (h0 : 0 ≤ i) (h1 : i ≤ j) (h2 : j ≤ len)
    (h : K (st.put (some d) .bot)) : SemOp X ⟨some d, .slice T s (some x) (some y) (some m), ty, pos, aft, g⟩ K E st :=
  .of_rel (fun _ _ _ _ e h => slc3_sound h rfl rfl (e ▸ hd) hT hs hx hy hm h0 h1 h2) ⟨rfl, rfl⟩ h
end
def cutL (L : List Stm) (i : Nat) : List Stm := L.take i ++ L.drop (i + 1)
theorem cutL_len {L : List Stm} {i : Nat} (h : i < L.length) : (cutL L i).length = L.length - 1 := by
  simp [cutL]; omega
def cutP (p : Prg) (b i : Nat) : Prg := match p[b]? with | some k => setBody p b (cutL k.body i) | none => p
theorem cutP_eq {p : Prg} {b i : Nat} {k : Blk} (hk : p[b]? = some k) : cutP p b i = setBody p b (cutL k.body i) := by simp only [cutP, hk]
@[simp] theorem cutP_len {p : Prg} {b i : Nat} : (cutP p b i).length = p.length := by
  unfold cutP
  split <;> simp
def idleAt (p : Prg) (b i : Nat) : Bool := match p[b]? with
  | some k => match k.body[i]? with
    | some s => ((s.kind == 9) || (s.kind == 10)) && (progOk (cutP p b i) && decide (ownersOf p = ownersOf (cutP p b i)))
    | none => false
  | none => false
theorem idleAt_eq {p : Prg} {b i : Nat} {k : Blk} {s : Stm} (hk : p[b]? = some k) (hs : k.body[i]? = some s) : idleAt p b i = (((s.kind == 9) || (s.kind == 10)) && (progOk (cutP p b i) && decide (ownersOf p = ownersOf (cutP p b i)))) := by
  simp only [idleAt, hk, hs]
theorem idleAt_in {p : Prg} {b i : Nat} (h : idleAt p b i = true) : ∃ k s, p[b]? = some k ∧ k.body[i]? = some s ∧ progOk (cutP p b i) = true := by
  unfold idleAt at h
  split at h
  · rename_i k hk
    split at h
    · rename_i s hs
      simp only [Bool.and_eq_true] at h
      exact ⟨k, s, hk, hs, h.2.1⟩
    · cases h
  · cases h
theorem cutP_sml {p : Prg} {b i : Nat} (hs : Sml p) : Sml (cutP p b i) := by
  unfold cutP
  split
  · rename_i k hk
    have key : ∀ q ∈ setBody p b (cutL k.body i), ∃ r ∈ p, q.params = r.params ∧ q.body.length ≤ r.body.length := by
      intro q hq
      obtain ⟨c, hc⟩ := List.getElem?_of_mem hq
      cases hr : p[c]? with
      | none =>
        have := (gS hc).1
        rw [setBody_len] at this
        rw [gE this] at hr
        cases hr
      | some r =>
        rw [setBody_get hr] at hc
        refine ⟨r, List.mem_of_getElem? hr, ?_⟩
        split at hc
        · rename_i e
          subst e
          obtain rfl := Option.some.inj hc
          rw [hk] at hr
          obtain rfl := Option.some.inj hr
          refine ⟨rfl, ?_⟩
          simp [cutL]
          omega
        · obtain rfl := Option.some.inj hc
          exact ⟨rfl, Nat.le_refl _⟩
    refine ⟨by simpa using hs.len, fun q hq => ?_, fun q hq => ?_⟩
    · obtain ⟨r, hr, h1, _⟩ := key q hq
      rw [h1]
      exact hs.params r hr
    · obtain ⟨r, hr, _, h2⟩ := key q hq
      exact Nat.le_trans h2 (hs.body r hr)
  · exact hs
def stmts (p : Prg) : Nat := (p.map (fun k => k.body.length)).sum
theorem sum_modify {l : List Nat} {b x y : Nat} (h : l[b]? = some x) (hy : y + 1 = x) : (l.set b y).sum + 1 = l.sum := by
  induction l generalizing b with
  | nil => simp at h
  | cons a l ih =>
    cases b with
    | zero => simp at h; subst h; simp; omega
    | succ b =>
      simp only [List.getElem?_cons_succ] at h
      simp only [List.set_cons_succ, List.sum_cons]
      have := ih h
      omega
theorem stmts_cut {p : Prg} {b i : Nat} {k : Blk} (hk : p[b]? = some k) (hi : i < k.body.length) : stmts (cutP p b i) + 1 = stmts p := by
  have e : (cutP p b i).map (fun k => k.body.length) = (p.map (fun k => k.body.length)).set b (k.body.length - 1) := by
    rw [cutP_eq hk]
    apply List.ext_getElem?
    intro c
    rw [List.getElem?_map, List.getElem?_set, List.getElem?_map]
    cases hq : p[c]? with
    | none =>
      have hn : (setBody p b (cutL k.body i))[c]? = none := by
        rw [List.getElem?_eq_none_iff, setBody_len]
        exact List.getElem?_eq_none_iff.1 hq
      rw [hn]
      by_cases e : b = c
      · subst e; rw [hk] at hq; cases hq
      · simp [e]
    | some q =>
      rw [setBody_get hq]
      by_cases e : b = c
      · subst e
        have := (gS hk).1
        simp [this, cutL_len hi]
      · simp [e]
  unfold stmts
  rw [e]
  exact sum_modify (x := k.body.length) (by simp [hk]) (by omega)
structure IsFirst (p : Prg) (b i : Nat) : Prop where
  idle : idleAt p b i = true
  blk : ∀ b' i', b' < b → idleAt p b' i' = false
  stm : ∀ i', i' < i → idleAt p b i' = false
theorem IsFirst.uniq {p : Prg} {b i b' i' : Nat} (h : IsFirst p b i) (h' : IsFirst p b' i') : b = b' ∧ i = i' := by
  have hb : b = b' := by
    rcases Nat.lt_trichotomy b b' with e | e | e
    · have := h'.blk b i e; rw [h.idle] at this; cases this
    · exact e
    · have := h.blk b' i' e; rw [h'.idle] at this; cases this
  subst hb
  refine ⟨rfl, ?_⟩
  rcases Nat.lt_trichotomy i i' with e | e | e
  · have := h'.stm i e; rw [h.idle] at this; cases this
  · exact e
  · have := h.stm i' e; rw [h'.idle] at this; cases this
theorem leastN {P : Nat → Prop} (h : ∃ n, P n) : ∃ n, P n ∧ ∀ m < n, ¬ P m := by
  obtain ⟨n, hn⟩ := h
  induction n using Nat.strongRecOn with
  | _ n ih =>
    by_cases hm : ∃ m, m < n ∧ P m
    · obtain ⟨m, hm, hp⟩ := hm
      exact ih m hm hp
    · exact ⟨n, hn, fun m hlt hp => hm ⟨m, hlt, hp⟩⟩
theorem first_ex {p : Prg} (h : ∃ b i, idleAt p b i = true) : ∃ b i, IsFirst p b i := by
  obtain ⟨b, hb, hb'⟩ := leastN h
  obtain ⟨i, hi, hi'⟩ := leastN hb
  exact ⟨b, i, hi, fun b' i' hlt => by simpa using fun e => hb' b' hlt ⟨i', e⟩, fun i' hlt => by simpa using fun e => hi' i' hlt e⟩
def NoIdle (p : Prg) : Prop := ∀ b i, idleAt p b i = false
inductive LeanTo : Prg → Prg → Prop
  | stop (p : Prg) (h : NoIdle p) : LeanTo p p
  | step (p r : Prg) (b i : Nat) (h : IsFirst p b i) (h' : LeanTo (cutP p b i) r) : LeanTo p r
theorem LeanTo.uniq {p r r' : Prg} (h : LeanTo p r) (h' : LeanTo p r') : r = r' := by
  induction h with
  | stop p h0 =>
    cases h' with
    | stop _ _ => rfl
    | step _ _ b i h1 _ => have := h0 b i; rw [h1.idle] at this; cases this
  | step p r b i h1 _ ih =>
    cases h' with
    | stop _ h0 => have := h0 b i; rw [h1.idle] at this; cases this
    | step _ _ b' i' h1' h2 =>
      obtain ⟨rfl, rfl⟩ := h1.uniq h1'
      exact ih h2
theorem lean_ex (p : Prg) : ∃ r, LeanTo p r := by
  generalize hn : stmts p = n
  induction n using Nat.strongRecOn generalizing p with
  | _ n ih =>
    by_cases h : ∃ b i, idleAt p b i = true
    · obtain ⟨b, i, hf⟩ := first_ex h
      obtain ⟨k, s, hk, hs, _⟩ := idleAt_in hf.idle
      have hc := stmts_cut hk (gS hs).1
      obtain ⟨r, hr⟩ := ih (stmts (cutP p b i)) (by omega) _ rfl
      exact ⟨r, .step _ _ b i hf hr⟩
    · refine ⟨p, .stop _ fun b i => ?_⟩
      simpa using fun e => h ⟨b, i, e⟩
noncomputable def leanP (p : Prg) : Prg := Classical.choose (lean_ex p)
theorem leanP_to (p : Prg) : LeanTo p (leanP p) := Classical.choose_spec (lean_ex p)
theorem leanP_step {p : Prg} {b i : Nat} (h : IsFirst p b i) : leanP p = leanP (cutP p b i) := (leanP_to p).uniq (.step _ _ b i h (leanP_to _))
theorem leanP_stop {p : Prg} (h : NoIdle p) : leanP p = p := (leanP_to p).uniq (.stop _ h)
theorem LeanTo.sml {p r : Prg} (h : LeanTo p r) (hs : Sml p) : Sml r := by
  induction h with
  | stop p h => exact hs
  | step p r b i _ _ ih => exact ih (cutP_sml hs)
noncomputable def leanG (p : Prg) : Prg := if progOk p = true then leanP p else []
theorem leanG_sml {p : Prg} (hs : Sml p) : Sml (leanG p) := by
  unfold leanG
  split
  · exact (leanP_to p).sml hs
  · exact ⟨by simp, fun k hk => by simp at hk, fun k hk => by simp at hk⟩
noncomputable def fstB (p : Prg) : Nat := by
  classical
  exact if h : ∃ b i, IsFirst p b i then Classical.choose h else 0
noncomputable def fstI (p : Prg) : Nat := by
  classical
  exact if h : ∃ i, IsFirst p (fstB p) i then Classical.choose h else 0
noncomputable def fstOk (p : Prg) : Bool := by
  classical
  exact if ∃ b i, IsFirst p b i then true else false
theorem fst_is {p : Prg} {b i : Nat} (h : IsFirst p b i) : fstB p = b ∧ fstI p = i ∧ fstOk p = true := by
  have hb : fstB p = b := by
    have hx : ∃ b i, IsFirst p b i := ⟨b, i, h⟩
    unfold fstB
    rw [dif_pos hx]
    obtain ⟨i', h'⟩ := Classical.choose_spec hx
    exact (h'.uniq h).1
  have hi : fstI p = i := by
    have hx : ∃ i, IsFirst p (fstB p) i := ⟨i, by rw [hb]; exact h⟩
    unfold fstI
    rw [dif_pos hx]
    exact ((Classical.choose_spec hx).uniq h).2
  refine ⟨hb, hi, ?_⟩
  unfold fstOk
  rw [if_pos ⟨b, i, h⟩]
theorem fst_no {p : Prg} (h : NoIdle p) : fstB p = 0 ∧ fstI p = 0 ∧ fstOk p = false := by
  have hx : ¬ ∃ b i, IsFirst p b i := fun ⟨b, i, h'⟩ => by have := h b i; rw [h'.idle] at this; cases this
  have hy : ∀ b, ¬ ∃ i, IsFirst p b i := fun b ⟨i, h'⟩ => hx ⟨b, i, h'⟩
  refine ⟨?_, ?_, ?_⟩
  · unfold fstB; rw [dif_neg hx]
  · unfold fstI; rw [dif_neg (hy _)]
  · unfold fstOk; rw [if_neg hx]
theorem fst_cases (p : Prg) : (IsFirst p (fstB p) (fstI p) ∧ fstOk p = true) ∨ (NoIdle p ∧ fstOk p = false) := by
  by_cases h : ∃ b i, idleAt p b i = true
  · obtain ⟨b, i, hf⟩ := first_ex h
    obtain ⟨h1, h2, h3⟩ := fst_is hf
    exact .inl ⟨by rw [h1, h2]; exact hf, h3⟩
  · have hn : NoIdle p := fun b i => by simpa using fun e => h ⟨b, i, e⟩
    exact .inr ⟨hn, (fst_no hn).2.2⟩
theorem pRows_setOwn {n : Nm} {i len : Nat} {p : Prg} {L : List Stm} (hl : len = L.length) : rowsSet (pRows n p) i 3 [.hs (.c n i 3) 4 0 len] = pRows n (setBody p i L) := by
  subst hl
  apply List.ext_getElem?
  intro j
  simp only [rowsSet, List.getElem?_modify, pRows_get]
  cases hx : p[j]? with
  | none =>
    have : (setBody p i L)[j]? = none := by
      rw [List.getElem?_eq_none_iff, setBody_len]
      exact List.getElem?_eq_none_iff.1 hx
    simp [this]
  | some x =>
    rw [setBody_get hx]
    by_cases e : i = j
    · subst e
      simp
    · have e' : ¬ j = i := fun h => e h.symm
      simp [e, e']
abbrev byt (v : Int) : AV := .sc (.int .u8 v)
def brows (bs : List Int) : List (List AV) := bs.map fun v => [byt v]
abbrev bsl (bs : List Int) : AV := .sl 1 (brows bs)
section
variable {bs : List Int} {i : Nat} {f : Nm → Option Nm}
@[simp] theorem brows_len : (brows bs).length = bs.length := by simp [brows]
@[simp] theorem brows_getE {h : i < (brows bs).length} : (brows bs)[i] = [byt (bs[i]'(by simpa using h))] := by simp [brows]
@[simp] theorem brows_tr : (brows bs).map (fun r => r.map (AV.tr f)) = brows bs := by simp [brows]
@[simp] theorem brows_take {n : Nat} : (brows bs).take n = brows (bs.take n) := by simp [brows]
@[simp] theorem brows_drop {n : Nat} : (brows bs).drop n = brows (bs.drop n) := by simp [brows]
end
structure BytesOk (bs : List Int) : Prop where
  len : bs.length ≤ 2000
  rng : ∀ v ∈ bs, 0 ≤ v ∧ v ≤ 255
abbrev rdO (bs : List Int) (pos : Nat) : AO := .row 2 [[bsl bs, iv pos]]
def dsub (D : Nm → Bool) (hp : Nm → Option AO) : Nm → Option AO := fun m => if D m then hp m else none
@[simp] theorem dsub_eq {D : Nm → Bool} {hp : Nm → Option AO} {m : Nm} : dsub D hp m = if D m then hp m else none := rfl
def D12 : Nm → Bool := fun n => Nm.under (.u 1 0 0) n || Nm.under (.u 2 0 0) n
@[simp] theorem D12_eq {n : Nm} : D12 n = (Nm.under (.u 1 0 0) n || Nm.under (.u 2 0 0) n) := rfl
theorem D12_root {n : Nm} (h : D12 n = true) : n.sroot = false := by
  simp only [D12, Bool.or_eq_true] at h
  rcases h with h | h <;> exact under_usroot rfl h
section
variable {X : Ctx} {st : St} {K : St → Prop} {E : AV → St → Prop} {d f : Nat} {ty : TypeId} {pos : String} {aft : Array Edge} {g : Option (Nat × Bool)} {args : Array Operand} {Ts : Array TypeId} {as : List AV} {R : Nm → AV → (Nm → Option AO) → Prop}
theorem x_mutD (D : Nm → Bool) (hD : ∀ n, D n = true → n.sroot = false) (hext : ∀ k i j, X.ext (.u k i j) = true → D (.u k i j) = false ∨ (dsub D st.hp) (.u k i j) ≠ none) (hd : d < X.n := by first | (simp; done) | fail) (ha : args.toList.map (ev st) = as := by simp [fx]; first | done | rfl)
    (hF : FnE X.P X.gl f D as (dsub D st.hp) R noE) (h : ∀ y H', R (.s d) y H' → K ((st.call d D (dsub D st.hp) H').put (some d) y)) :
    SemOp X ⟨some d, .call ⟨.value (.func f), args, Ts⟩, ty, pos, aft, g⟩ K E st := by
  subst ha
  refine call_sem (D := D) (H := dsub D st.hp) (R := R) (E0 := noE) hF (ent_func hF.1 rfl) false ⟨rfl, fun j a a' h h' => ?_⟩ (fun n hn => ?_) (fun n hn => ?_) (fun n hn => ?_) hext (fun e he => by obtain rfl := Option.some.inj he; exact hd) (fun x H' hR => ?_) (fun _ _ h => h.elim)
  · rw [h] at h'
    obtain rfl := Option.some.inj h'
    exact .refl _
  · cases hx : D n with
    | false => rfl
    | true =>
      have h1 := hD n hx
      have h2 := Nm.sroot_under (a := .s d) rfl hn
      rw [h1] at h2
      cases h2
  · simp [hn]
  · simp only [dsub] at hn
    split at hn
    · assumption
    · exact absurd rfl hn
  · exact h x H' hR
theorem x_own (hd : d < X.n := by first | (simp; done) | fail) (ha : args.toList.map (ev st) = as := by simp [fx]; first | done | rfl) (hF : FnOk X.P X.gl f as R) (h : ∀ y H', R (.s d) y H' → K ((st.call d noD noH H').put (some d) y)) :
    SemOp X ⟨some d, .call ⟨.value (.func f), args, Ts⟩, ty, pos, aft, g⟩ K E st := by
  subst ha
  refine call_sem (D := noD) (H := noH) (R := R) (E0 := noE) hF (ent_func hF.1 rfl) false ⟨rfl, fun j a a' h h' => ?_⟩ (fun _ _ => rfl) (fun n hn => by cases hn) (fun n hn => absurd rfl hn) (fun k i j _ => .inl rfl) (fun e he => by obtain rfl := Option.some.inj he; exact hd) (fun x H' hR => ?_) (fun _ _ h => h.elim)
  · rw [h] at h'
    obtain rfl := Option.some.inj h'
    exact .refl _
  · exact h x H' hR
end
def rk (a d : Nat) (m : Nm) : Option Nm :=
  if Nm.under (.s a) m then (if m = .s a then some (.u 2 0 0) else none) else if Nm.under (.u 2 0 0) m then none else if Nm.under (.s d) m then none else if Nm.under (.u 1 0 0) m then (if m = .u 1 0 0 then some (.u 1 0 0) else none) else some m
def St.rdr (st : St) (a d : Nat) (R : AO) : St :=
  { tm := fun t => (st.tm t).tr (rk a d),
    hp := fun m => if m = .u 1 0 0 then some R else if D12 m || Nm.under (.s d) m || Nm.under (.s a) m then none else (st.hp m).map (AO.tr (rk a d)),
    n := st.n, gl := st.gl }
section
variable {st : St} {a d t : Nat} {m : Nm} {R : AO}
@[simp] theorem rk_eq : rk a d m = if Nm.under (.s a) m then (if m = .s a then some (.u 2 0 0) else none) else if Nm.under (.u 2 0 0) m then none else if Nm.under (.s d) m then none else if Nm.under (.u 1 0 0) m then (if m = .u 1 0 0 then some (.u 1 0 0) else none) else some m := rfl
@[simp] theorem rdr_tm : (st.rdr a d R).tm t = (st.tm t).tr (rk a d) := rfl
@[simp] theorem rdr_gl : (st.rdr a d R).gl = st.gl := rfl
@[simp] theorem rdr_hp : (st.rdr a d R).hp m = if m = .u 1 0 0 then some R else if D12 m || Nm.under (.s d) m || Nm.under (.s a) m then none else (st.hp m).map (AO.tr (rk a d)) := rfl
end
theorem rk_comp {a d : Nat} {Hs : Nm → Option AO} (h1 : (Hs (.u 1 0 0)).isSome = true) (h2 : (Hs (.u 2 0 0)).isSome = true) : (fun m => (mv (.s a) (.u 2 0 0) m).bind (cf d D12 Hs)) = rk a d := by
  funext x
  by_cases hx : Nm.under (.s a) x = true
  · have hu : Nm.under (.u 2 0 0) (Nm.ren (.s a) (.u 2 0 0) x) = true := Nm.under_ren x hx
    have hsd := under_s_u (d := d) (V := .u 2 0 0) rfl hu
    by_cases e : x = .s a
    · subst e
      simp [h2, Nm.isU]
    · have := ren_isU (V := .u 2 0 0) hx e
      simp [hx, hu, hsd, this, e]
  · simp only [Bool.not_eq_true] at hx
    by_cases hv : Nm.under (.u 2 0 0) x = true
    · simp [hx, hv]
    · simp only [Bool.not_eq_true] at hv
      by_cases hd : Nm.under (.s d) x = true
      · simp [hx, hv, hd]
      · simp only [Bool.not_eq_true] at hd
        by_cases hw : Nm.under (.u 1 0 0) x = true
        · by_cases e : x = .u 1 0 0
          · subst e
            simp [hx, hv, hd, h1, Nm.isU]
          · have hi : x.isU = false := by
              cases x with
              | s d => simp [Nm.under] at hw
              | u a b c => simp [Nm.under] at hw; exact absurd (by simp [hw]) e
              | c q i j => rfl
            simp [hx, hv, hd, hw, e, hi]
        · simp only [Bool.not_eq_true] at hw
          simp [hx, hv, hd, hw]
section
variable {P : Program} {C : Nat → Prop} {w : World} {g0 : Gh} {H : Nm → Option AO} {n : Nat} {gl : Nat → Option (List AV)} {st : St} {K : St → Prop} {E : AV → St → Prop} {d f : Nat} {ty : TypeId} {ps : String} {aft : Array Edge} {gd : Option (Nat × Bool)} {a0 a1 : Operand} {Ts : Array TypeId} {bs xs : List Int} {pos : Nat}
def OneOk (P : Program) (gl : Nat → Option (List AV)) (f : FuncId) : Prop := ∀ (H : Nm → Option AO) (bs : List Int) (pos : Nat) (xs : List Int), BytesOk bs → pos ≤ 1000000 → (0 < xs.length ∧ xs.length ≤ 1000) → H (.u 1 0 0) = some (rdO bs pos) → H (.u 2 0 0) = some (.row 1 (irows xs)) →
    FnE P gl f D12 [.pt (.u 1 0 0) 0, .hs (.u 2 0 0) 1 0 xs.length] H (fun _ z H' => ∃ v, z = iv v ∧ v ∈ xs ∧ H' (.u 1 0 0) = some (rdO bs (pos + 1))) noE
theorem x_one {t0 t1 : Nat} (hF : OneOk P gl f) (a : Nat) (xs : List Int) (hb : BytesOk bs) (hpos : pos ≤ 1000000) (hx : 0 < xs.length ∧ xs.length ≤ 1000 := by first | (simp; done) | fail) (hV : H (.u 2 0 0) = none) (hd : d < n := by first | (simp; done) | fail)
    (h0 : st.tm t0 = .pt (.u 1 0 0) 0) (h1 : st.tm t1 = .hs (.s a) 1 0 xs.length) (hH : st.hp (.u 1 0 0) = some (rdO bs pos)) (hL : st.hp (.s a) = some (.row 1 (irows xs)))
    (h : ∀ v, v ∈ xs → K ((st.rdr a d (rdO bs (pos + 1))).put (some d) (iv v))) :
    SemOp (ctx0 P C w g0 H n gl) ⟨some d, .call ⟨.value (.func f), #[.tmp t0, .tmp t1], Ts⟩, ty, ps, aft, gd⟩ K E st := by
  have e1 : (st.move (.s a) (.u 2 0 0)).hp (.u 1 0 0) = some (rdO bs pos) := by simp [hH]
  have e2 : (st.move (.s a) (.u 2 0 0)).hp (.u 2 0 0) = some (.row 1 (irows xs)) := by simp [hL]
  have hc := rk_comp (a := a) (d := d) (Hs := dsub D12 (st.move (.s a) (.u 2 0 0)).hp) (by simp [hH]) (by simp [hL])
  refine o_mv (.s a) (.u 2 0 0) (.inl rfl) (.inr (by simp [ctx0, hV])) ?_
  refine SemOp.weak (K' := fun s => ∃ v H1, v ∈ xs ∧ H1 (.u 1 0 0) = some (rdO bs (pos + 1)) ∧ s = (((st.move (.s a) (.u 2 0 0)).call d D12 (dsub D12 (st.move (.s a) (.u 2 0 0)).hp) H1).put (some d) (iv v))) ?_ ?_
  · refine x_mutD (as := [.pt (.u 1 0 0) 0, .hs (.u 2 0 0) 1 0 xs.length]) D12 (fun n h => D12_root h) (fun k i j he => ?_) hd ?_ (hF _ bs pos xs hb hpos hx (by simp [hH]) (by simp [hL])) ?_
    · by_cases hu : Nm.u k i j = .u 1 0 0
      · right
        rw [hu]
        simp [hH]
      · by_cases hu2 : Nm.u k i j = .u 2 0 0
        · right
          rw [hu2]
          simp [hL]
        · left
          simp at hu hu2
          simp only [D12_eq, Nm.under, Bool.or_eq_false_iff, decide_eq_false_iff_not]
          refine ⟨fun e => ?_, fun e => ?_⟩
          · injection e with e1 e2 e3
            exact hu e1 e2 e3
          · injection e with e1 e2 e3
            exact hu2 e1 e2 e3
    · simp [h0, h1]
    · rintro y H1 ⟨v, rfl, hv, hH1⟩
      exact ⟨v, H1, hv, hH1, rfl⟩
  · rintro s ⟨v, H1, hv, hH1, rfl⟩
    refine ⟨((st.rdr a d (rdO bs (pos + 1))).put (some d) (iv v)).hp, fun m ob e => ?_, ?_⟩
    · simp only [put_hp, rdr_hp] at e
      split at e
      · rename_i hm
        subst hm
        simp only [put_hp, St.call, St.nm]
        simp [hH1]
        exact Option.some.inj e
      · split at e
        · cases e
        · rename_i hm1 hm2
          simp only [Bool.or_eq_true, not_or, Bool.not_eq_true] at hm2
          obtain ⟨⟨h12, hsd⟩, hsa⟩ := hm2
          have hu2 : Nm.under (.u 2 0 0) m = false := by
            simp only [D12_eq, Bool.or_eq_false_iff] at h12
            exact h12.2
          obtain ⟨o, ho, rfl⟩ := Option.map_eq_some_iff.1 e
          simp only [put_hp, St.call, St.nm, h12, hsd, Bool.or_false, Bool.false_eq_true, if_false, St.move, hmv, hu2, hsa, ho, Option.map_some, Option.some.injEq]
          rw [AO.tr_tr, ← hc]
          rfl
    · have ht : (((st.move (.s a) (.u 2 0 0)).call d D12 (dsub D12 (st.move (.s a) (.u 2 0 0)).hp) H1).put (some d) (iv v)).tm = ((st.rdr a d (rdO bs (pos + 1))).put (some d) (iv v)).tm := by
        funext t
        by_cases e : t = d
        · simp [St.put, e]
        · simp only [St.put, e, if_false]
          show (((st.tm t).tr (mv (.s a) (.u 2 0 0))).tr (cf d D12 (dsub D12 (st.move (.s a) (.u 2 0 0)).hp))) = (st.tm t).tr (rk a d)
          rw [AV.tr_tr, ← hc]
      rw [ht]
      exact h v hv
end
def rn (d : Nat) (m : Nm) : Option Nm := if Nm.under (.s d) m then none else if Nm.under (.u 1 0 0) m then (if m = .u 1 0 0 then some (.u 1 0 0) else none) else some m
def St.rdn (st : St) (d : Nat) (R : AO) (Hn : Nm → Option AO) : St :=
  { tm := fun t => (st.tm t).tr (rn d),
    hp := fun m => if m = .u 1 0 0 then some R else if Nm.under (.u 1 0 0) m then none else if Nm.under (.s d) m then Hn m else (st.hp m).map (AO.tr (rn d)),
    n := st.n, gl := st.gl }
section
variable {st : St} {d t : Nat} {m : Nm} {R : AO} {Hn : Nm → Option AO}
@[simp] theorem rn_eq : rn d m = if Nm.under (.s d) m then none else if Nm.under (.u 1 0 0) m then (if m = .u 1 0 0 then some (.u 1 0 0) else none) else some m := rfl
@[simp] theorem rdn_tm : (st.rdn d R Hn).tm t = (st.tm t).tr (rn d) := rfl
@[simp] theorem rdn_gl : (st.rdn d R Hn).gl = st.gl := rfl
@[simp] theorem rdn_hp : (st.rdn d R Hn).hp m = if m = .u 1 0 0 then some R else if Nm.under (.u 1 0 0) m then none else if Nm.under (.s d) m then Hn m else (st.hp m).map (AO.tr (rn d)) := rfl
end
theorem rn_comp {d : Nat} {Hs : Nm → Option AO} (h1 : (Hs (.u 1 0 0)).isSome = true) : cf d (Nm.under (.u 1 0 0)) Hs = rn d := by
  funext x
  by_cases hd : Nm.under (.s d) x = true
  · simp [hd]
  · simp only [Bool.not_eq_true] at hd
    by_cases hw : Nm.under (.u 1 0 0) x = true
    · by_cases e : x = .u 1 0 0
      · subst e
        simp [hd, h1, Nm.isU]
      · have hi : x.isU = false := by
          cases x with
          | s d => simp [Nm.under] at hw
          | u a b c => simp [Nm.under] at hw; exact absurd (by simp [hw]) e
          | c q i j => rfl
        simp [hd, hw, e, hi]
    · simp only [Bool.not_eq_true] at hw
      simp [hd, hw]
section
variable {X : Ctx} {st : St} {K : St → Prop} {E : AV → St → Prop} {d f : Nat} {ty : TypeId} {ps : String} {aft : Array Edge} {gd : Option (Nat × Bool)} {args : Array Operand} {Ts : Array TypeId} {as : List AV} {R : Nm → AV → (Nm → Option AO) → Prop} {bs : List Int}
theorem x_rdo (hd : d < X.n := by first | (simp; done) | fail) (hs : (st.hp (.u 1 0 0)).isSome = true) (ha : args.toList.map (ev st) = as) (hF : FnE X.P X.gl f (Nm.under (.u 1 0 0)) as (hsub (.u 1 0 0) st.hp) R noE)
    (h : ∀ z H', R (.s d) z H' → ∃ pos', H' (.u 1 0 0) = some (rdO bs pos') ∧ K ((st.rdn d (rdO bs pos') H').put (some d) z)) :
    SemOp X ⟨some d, .call ⟨.value (.func f), args, Ts⟩, ty, ps, aft, gd⟩ K E st := by
  have hc := rn_comp (d := d) (Hs := hsub (.u 1 0 0) st.hp) (by simpa using hs)
  refine SemOp.weak (K' := fun s => ∃ z H', R (.s d) z H' ∧ s = ((st.call d (Nm.under (.u 1 0 0)) (hsub (.u 1 0 0) st.hp) H').put (some d) z)) ?_ ?_
  · refine x_mut (.u 1 0 0) rfl (fun _ => by rw [← Option.isSome_iff_ne_none]; exact hs) hd ha hF fun z H' hR => ⟨z, H', hR, rfl⟩
  · rintro s ⟨z, H', hR, rfl⟩
    obtain ⟨pos', hH, hK⟩ := h z H' hR
    refine ⟨((st.rdn d (rdO bs pos') H').put (some d) z).hp, fun m ob e => ?_, ?_⟩
    · simp only [put_hp, rdn_hp] at e
      simp only [put_hp, St.call, St.nm]
      split at e
      · rename_i hm
        subst hm
        simp [hH]
        exact Option.some.inj e
      · split at e
        · cases e
        · rename_i hw
          split at e
          · rename_i hsd
            simp [hsd, e]
          · rename_i hsd
            simp only [Bool.not_eq_true] at hw hsd
            simp only [hw, hsd, Bool.or_false, Bool.false_eq_true, if_false]
            rw [hc]
            exact e
    · have ht : ((st.call d (Nm.under (.u 1 0 0)) (hsub (.u 1 0 0) st.hp) H').put (some d) z).tm = ((st.rdn d (rdO bs pos') H').put (some d) z).tm := by
        funext t
        by_cases e : t = d
        · simp [St.put, e]
        · simp only [St.put, e, if_false]
          show (st.tm t).tr (cf d (Nm.under (.u 1 0 0)) (hsub (.u 1 0 0) st.hp)) = (st.tm t).tr (rn d)
          rw [hc]
      rw [ht]
      exact hK
def RdPost {α : Type} (bs : List Int) (V : α → AV) (Q : α → Nat → Prop) : Nm → AV → (Nm → Option AO) → Prop := fun _ z H' => ∃ v pos', z = V v ∧ Q v pos' ∧ H' (.u 1 0 0) = some (rdO bs pos')
theorem x_rd {α : Type} {V : α → AV} {Q : α → Nat → Prop} (hd : d < X.n := by first | (simp; done) | fail) (hs : (st.hp (.u 1 0 0)).isSome = true) (ha : args.toList.map (ev st) = as) (hF : FnE X.P X.gl f (Nm.under (.u 1 0 0)) as (hsub (.u 1 0 0) st.hp) (RdPost bs V Q) noE)
    (h : ∀ v pos', Q v pos' → K ((st.rdn d (rdO bs pos') (fun _ => none)).put (some d) (V v))) :
    SemOp X ⟨some d, .call ⟨.value (.func f), args, Ts⟩, ty, ps, aft, gd⟩ K E st := by
  refine SemOp.weak (K' := fun s => ∃ v pos' H', Q v pos' ∧ s = ((st.rdn d (rdO bs pos') H').put (some d) (V v))) ?_ ?_
  · refine x_rdo (bs := bs) hd hs ha hF ?_
    rintro z H' ⟨v, pos', rfl, hQ, hH⟩
    exact ⟨pos', hH, v, pos', H', hQ, rfl⟩
  · rintro s ⟨v, pos', H', hQ, rfl⟩
    refine ⟨((st.rdn d (rdO bs pos') (fun _ => none)).put (some d) (V v)).hp, fun m ob e => ?_, h v pos' hQ⟩
    simp only [put_hp, rdn_hp] at e ⊢
    split at e
    · rename_i hm; simp only [hm, if_true]; exact e
    · rename_i hm
      rw [if_neg hm]
      split at e
      · cases e
      · rename_i hw
        rw [if_neg hw]
        split at e
        · cases e
        · rename_i hsd
          rw [if_neg hsd]
          exact e
end
def bareS (L : List Stm) : List Stm := L.filter fun s => !((s.kind == 9) || (s.kind == 10))
def bareB (k : Blk) : Blk := { k with body := bareS k.body }
def bareP (p : Prg) : Prg := p.map bareB
theorem bareS_len {L : List Stm} : (bareS L).length ≤ L.length := List.length_filter_le _ _
theorem bareS_step {L : List Stm} {i : Nat} {s : Stm} (h : L[i]? = some s) : bareS (L.take (i + 1)) = if ((s.kind == 9) || (s.kind == 10)) = true then bareS (L.take i) else bareS (L.take i) ++ [s] := by
  rw [List.take_add_one, h]
  simp only [bareS, List.filter_append, Option.toList_some]
  cases e : ((s.kind == 9) || (s.kind == 10))
  · rw [if_neg (by simp)]
    simp only [List.filter_cons, e, Bool.not_false, if_true, List.filter_nil]
  · rw [if_pos rfl]
    simp only [List.filter_cons, e, Bool.not_true, Bool.false_eq_true, if_false, List.filter_nil, List.append_nil]
theorem bareTo_step {p : Prg} {i : Nat} {k : Blk} (h : p[i]? = some k) : setBody (mapTo bareB p i) i (bareS k.body) = mapTo bareB p (i + 1) := by
  rw [← mapTo_set (f := bareB) h]
  have hg := mapTo_get (f := bareB) h
  apply List.ext_getElem?
  intro j
  rw [List.getElem?_set]
  cases hj : (mapTo bareB p i)[j]? with
  | none =>
    have h1 : (setBody (mapTo bareB p i) i (bareS k.body))[j]? = none := by
      rw [List.getElem?_eq_none_iff, setBody_len]
      exact List.getElem?_eq_none_iff.1 hj
    rw [h1]
    by_cases e : i = j
    · subst e; rw [hg] at hj; cases hj
    · rw [if_neg e]
  | some q =>
    rw [setBody_get hj]
    by_cases e : i = j
    · subst e
      rw [hg] at hj
      obtain rfl := Option.some.inj hj
      rw [if_pos rfl, if_pos rfl, if_pos (gS hg).1]
      rfl
    · rw [if_neg e, if_neg e]
theorem bareP_sml {p : Prg} (hs : Sml p) : Sml (bareP p) := by
  refine ⟨by simpa [bareP] using hs.len, fun k hk => ?_, fun k hk => ?_⟩
  all_goals
    obtain ⟨q, hq, rfl⟩ := List.mem_map.1 hk
  · exact hs.params q hq
  · exact Nat.le_trans bareS_len (hs.body q hq)
def al (N V m : Nm) : Option Nm := if m = N then some V else if Nm.under V m then none else some m
def St.alias (st : St) (N V : Nm) (t : Nat) : St := { tm := fun t' => if t' = t then (st.tm t).tr (al N V) else (st.tm t').tr (kl V), hp := hkl V st.hp, n := st.n, gl := st.gl }
section
variable {st : St} {N V m : Nm} {t t' : Nat}
@[simp] theorem al_eq : al N V m = if m = N then some V else if Nm.under V m then none else some m := rfl
@[simp] theorem alias_tm : (st.alias N V t).tm t' = if t' = t then (st.tm t).tr (al N V) else (st.tm t').tr (kl V) := rfl
@[simp] theorem alias_gl : (st.alias N V t).gl = st.gl := rfl
@[simp] theorem alias_hp : (st.alias N V t).hp m = if Nm.under V m then none else (st.hp m).map (AO.tr (kl V)) := rfl
end
theorem Rw.alias {X : Ctx} {st : St} {a : Go.Act} {w : World} (h : Rw X st a w) (N V : Nm) (t : Nat) (hV : X.ext V = false) : Rw X (st.alias N V t) a w := by
  obtain ⟨C, g, h1, h2, h3, h4, h5, hg⟩ := h
  let g' : Gh := { C := g.C, φ := fun m => if m = V then g.φ N else g.φ m, κ := fun m => if m = V then g.κ N else g.κ m }
  have hs := hg.step (g' := g') (w' := w) (f := kl V) (hp' := hkl V st.hp) rfl (fun n n' e => by
    obtain ⟨rfl, hu⟩ := kl_spec e
    have : ¬ n = V := fun e => by rw [e, Nm.under_self] at hu; cases hu
    simp [g', this]) rfl rfl rfl (Nat.le_refl _) (fun _ _ => rfl) (fun _ _ _ => rfl) (fun m o e => by
    obtain ⟨o', e1, e2, e3⟩ := hkl_old e
    exact .inl ⟨m, o', e1, e2, e3, fun _ _ => rfl⟩)
  refine ⟨C, g', h1, h2, h3, h4, fun k i j he => ?_, ⟨hs.inv, hs.defers, hs.size, fun t' => ?_, hs.glob⟩⟩
  · have : ¬ Nm.u k i j = V := fun e => by rw [e, hV] at he; cases he
    simp only [g', this, if_false]
    exact h5 k i j he
  · by_cases e : t' = t
    · subst e
      simp only [St.alias, if_true]
      refine (hg.slots t').tr (g' := g') (fun _ h => h) (fun _ _ => rfl) (fun n n' e => ?_)
      unfold al at e
      split at e
      · rename_i hn
        subst hn
        obtain rfl := Option.some.inj e
        simp [g']
      · split at e
        · cases e
        · rename_i hu
          obtain rfl := Option.some.inj e
          have : ¬ n = V := fun e => by rw [e, Nm.under_self] at hu; exact hu rfl
          simp [g', this]
    · simp only [St.alias, e, if_false]
      exact hs.slots t'
section
variable {X : Ctx} {st : St} {K : St → Prop} {E : AV → St → Prop} {o : Oper}
theorem o_alias (N V : Nm) (t : Nat) (hV : X.ext V = false) (h : SemOp X o K E (st.alias N V t)) : SemOp X o K E st :=
  fun a w Q hR hE => h a w Q (hR.alias N V t hV) hE
end
section
variable {n : Nm} {p : Prg} {a d i j k : Nat}
@[simp] theorem pRows_rk (h1 : Nm.under (.s a) n = false) (h2 : Nm.under (.s d) n = false) (h3 : Nm.under (.u 2 0 0) n = false) (h4 : Nm.under (.u 1 0 0) n = false) : (pRows n p).map (fun r => r.map (AV.tr (rk a d))) = pRows n p := pRows_tr (by simp [h1, h2, h3, h4])
@[simp] theorem pRows_rn (h2 : Nm.under (.s d) n = false) (h4 : Nm.under (.u 1 0 0) n = false) : (pRows n p).map (fun r => r.map (AV.tr (rn d))) = pRows n p := pRows_tr (by simp [h2, h4])
@[simp] theorem pRows_klu (h : Nm.under (.u i j k) n = false) : (pRows n p).map (fun r => r.map (AV.tr (kl (.u i j k)))) = pRows n p := pRows_tr (by simp [h])
end
structure GenP (p : Prg) : Prop where
  heads : Heads p
  len : 1 ≤ p.length ∧ p.length ≤ 8
  params : ∀ k ∈ p, k.params.length ≤ 2
  body : ∀ k ∈ p, k.body.length ≤ 14
theorem GenP.sml {p : Prg} (h : GenP p) : Sml p := ⟨by have := h.len; omega, fun k hk => by have := h.params k hk; omega, fun k hk => by have := h.body k hk; omega⟩
theorem GenP.one {k : Blk} (h : k.parent = -1) (hp : k.params.length ≤ 2) (hb : k.body.length ≤ 14) : GenP [k] := by
  refine ⟨fun i q hq => ?_, by simp, fun q hq => ?_, fun q hq => ?_⟩
  · cases i with
    | zero =>
      simp at hq
      subst hq
      omega
    | succ i => simp at hq
  all_goals
    simp at hq
    subst hq
    assumption
theorem GenP.add {p : Prg} {k : Blk} (h : GenP p) (hl : p.length ≤ 7) (hp : 0 ≤ k.parent ∧ k.parent < p.length) (h1 : k.params.length ≤ 2) (h2 : k.body.length ≤ 14) : GenP (p ++ [k]) := by
  refine ⟨fun i q hq => ?_, by simp; omega, fun q hq => ?_, fun q hq => ?_⟩
  · rw [List.getElem?_append] at hq
    split at hq
    · exact h.heads i q hq
    · rename_i hi
      have : i - p.length = 0 := by
        refine Nat.eq_zero_of_not_pos fun hlt => ?_
        obtain ⟨m, hm⟩ : ∃ m, i - p.length = m + 1 := ⟨i - p.length - 1, by omega⟩
        rw [hm] at hq
        simp at hq
      rw [this] at hq
      simp at hq
      subst hq
      omega
  · rcases List.mem_append.1 hq with hq | hq
    · exact h.params q hq
    · simp at hq; subst hq; exact h1
  · rcases List.mem_append.1 hq with hq | hq
    · exact h.body q hq
    · simp at hq; subst hq; exact h2
theorem setBody_mem {p : Prg} {i : Nat} {L : List Stm} {q : Blk} (h : q ∈ setBody p i L) : ∃ r ∈ p, q.params = r.params ∧ (q.body = r.body ∨ q.body = L) := by
  obtain ⟨c, hc⟩ := List.getElem?_of_mem h
  cases hr : p[c]? with
  | none =>
    have := (gS hc).1
    rw [setBody_len] at this
    rw [gE this] at hr
    cases hr
  | some r =>
    rw [setBody_get hr] at hc
    refine ⟨r, List.mem_of_getElem? hr, ?_⟩
    split at hc
    · obtain rfl := Option.some.inj hc
      exact ⟨rfl, .inr rfl⟩
    · obtain rfl := Option.some.inj hc
      exact ⟨rfl, .inl rfl⟩
theorem setBody_heads {p : Prg} {i : Nat} {L : List Stm} (h : Heads p) : Heads (setBody p i L) := by
  intro c q hq
  cases hr : p[c]? with
  | none =>
    have := (gS hq).1
    rw [setBody_len] at this
    rw [gE this] at hr
    cases hr
  | some r =>
    have := h c r hr
    rw [setBody_get hr] at hq
    split at hq <;> obtain rfl := Option.some.inj hq <;> exact this
theorem GenP.setBody {p : Prg} {i : Nat} {L : List Stm} (h : GenP p) (hL : L.length ≤ 14) : GenP (setBody p i L) := by
  refine ⟨setBody_heads h.heads, by simpa using h.len, fun q hq => ?_, fun q hq => ?_⟩
  · obtain ⟨r, hr, h1, _⟩ := setBody_mem hq
    rw [h1]; exact h.params r hr
  · obtain ⟨r, hr, _, h2⟩ := setBody_mem hq
    rcases h2 with h2 | h2
    · rw [h2]; exact h.body r hr
    · rw [h2]; exact hL
theorem GenP.bare {p : Prg} (h : GenP p) : GenP (bareP p) := by
  refine ⟨fun i q hq => ?_, by simpa [bareP] using h.len, fun q hq => ?_, fun q hq => ?_⟩
  · simp only [bareP, List.getElem?_map] at hq
    obtain ⟨r, hr, rfl⟩ := Option.map_eq_some_iff.1 hq
    exact h.heads i r hr
  · obtain ⟨r, hr, rfl⟩ := List.mem_map.1 hq
    exact h.params r hr
  · obtain ⟨r, hr, rfl⟩ := List.mem_map.1 hq
    exact Nat.le_trans bareS_len (h.body r hr)
def PrgPost (bs : List Int) (Q : Prg → Nat → Prop) : Nm → AV → (Nm → Option AO) → Prop := fun r z H' => ∃ (p : Prg) (pos' : Nat), z = .agg [.hs r 4 0 p.length] ∧ OwnP H' r p ∧ Q p pos' ∧ H' (.u 1 0 0) = some (rdO bs pos')
theorem Sml.set {p : Prg} {i : Nat} {k : Blk} (h : Sml p) (h1 : k.params.length ≤ 1048576) (h2 : k.body.length ≤ 1048576) : Sml (p.set i k) := by
  refine ⟨by simpa using h.len, fun q hq => ?_, fun q hq => ?_⟩
  · rcases List.mem_or_eq_of_mem_set hq with hq | rfl
    · exact h.params q hq
    · exact h1
  · rcases List.mem_or_eq_of_mem_set hq with hq | rfl
    · exact h.body q hq
    · exact h2
theorem setBody_sml {p : Prg} {i : Nat} {L : List Stm} (h : Sml p) (hL : L.length ≤ 1048576) : Sml (setBody p i L) := by
  refine ⟨by simpa using h.len, fun q hq => ?_, fun q hq => ?_⟩
  · obtain ⟨r, hr, h1, _⟩ := setBody_mem hq
    rw [h1]; exact h.params r hr
  · obtain ⟨r, hr, _, h2⟩ := setBody_mem hq
    rcases h2 with h2 | h2
    · rw [h2]; exact h.body r hr
    · rw [h2]; exact hL
theorem pRows_setPar {n : Nm} {p : Prg} {i : Nat} {k : Blk} {v : Int} (hk : p[i]? = some k) : rowsSet (pRows n p) i 1 [iv v] = pRows n (p.set i { k with parent := v }) := by
  apply List.ext_getElem?
  intro j
  simp only [rowsSet, List.getElem?_modify, pRows_get, List.getElem?_set]
  by_cases e : i = j
  · subst e
    simp [hk, (gS hk).1, (gS hk).2]
  · simp [e]
theorem pRows_setParams {n : Nm} {a i len : Nat} {p : Prg} {k : Blk} {L : List Int} (hk : p[i]? = some k) (hl : len = L.length) (hn : Nm.under (.s a) n = false) (hn' : Nm.under (.c n i 2) n = false) :
    (rowsSet (pRows n p) i 2 [.hs (.s a) 1 0 len]).map (fun r => r.map (AV.tr (mv (.s a) (.c n i 2)))) = pRows n (p.set i { k with params := L }) := by
  subst hl
  apply List.ext_getElem?
  intro j
  simp only [rowsSet, List.getElem?_map, List.getElem?_modify, pRows_get, List.getElem?_set]
  by_cases e : i = j
  · subst e
    simp [(gS hk).1, (gS hk).2, hn, hn']
  · have e' : ¬ j = i := fun h => e h.symm
    cases hx : p[j]? with
    | none => simp [hx, e]
    | some x => simp [hx, hn, hn', e, e']
end Go.Hm
end
