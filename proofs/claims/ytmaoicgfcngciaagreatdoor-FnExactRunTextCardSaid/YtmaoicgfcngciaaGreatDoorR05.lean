/-
  Own texts, joined by mkclaim.py: Hm10, Hm11.
-/
import Derived.Test.YtmaoicgfcngciaaGreatDoorR04
set_option linter.unusedSimpArgs false
set_option linter.unusedVariables false
set_option maxRecDepth 100000
set_option maxHeartbeats 4000000

section
namespace Go.Hm
open Go Go.RowKit
def ownRows (P : Program) (E : TypeId) (d : Nat) : Nat → List (List AV) → List (List AV)
  | _, [] => []
  | i, r :: l => zcs (fun j => .c (.s d) i j) (tce P E) 0 r :: ownRows P E d (i + 1) l
def nilKeysLL (P : Program) (E : TypeId) (d : Nat) : Nat → List (List AV) → List (Nm × Nat)
  | _, [] => []
  | i, r :: l => nilKeys (fun j => .c (.s d) i j) (tce P E) 0 r ++ nilKeysLL P E d (i + 1) l
def prsLL (key : Nat → Nat → Nm) : Nat → List (List AV) → List (Nm × Nm)
  | _, [] => []
  | i, r :: l => prs (key i) 0 r ++ prsLL key (i + 1) l
theorem ownRows_length {P : Program} {E : TypeId} {d : Nat} : ∀ (l : List (List AV)) (i : Nat), (ownRows P E d i l).length = l.length
  | [], _ => rfl
  | r :: l, i => by simp [ownRows, ownRows_length l (i + 1)]
theorem ownRows_get {P : Program} {E : TypeId} {d : Nat} : ∀ (l : List (List AV)) (i k : Nat), (ownRows P E d i l)[k]? = (l[k]?).map (fun r => zcs (fun j => .c (.s d) (i + k) j) (tce P E) 0 r)
  | [], _, _ => by simp [ownRows]
  | r :: l, i, 0 => by simp [ownRows]
  | r :: l, i, k + 1 => by
    simp only [ownRows, List.getElem?_cons_succ]
    rw [ownRows_get l (i + 1) k, show i + 1 + k = i + (k + 1) from by omega]
theorem nilKeysLL_key {P : Program} {E : TypeId} {d : Nat} : ∀ (l : List (List AV)) (i : Nat) p, p ∈ nilKeysLL P E d i l → ∃ i j, p.1 = .c (.s d) i j
  | [], _, _, h => by simp [nilKeysLL] at h
  | r :: l, i, p, h => by
    simp only [nilKeysLL] at h
    rcases List.mem_append.1 h with h | h
    · obtain ⟨j, e⟩ := nilKeys_key _ _ _ _ p h
      exact ⟨i, j, e⟩
    · exact nilKeysLL_key l (i + 1) p h
theorem prsLL_ok {d : Nat} : ∀ (l : List (List AV)) (i : Nat), prOk (prsLL (fun i j => .c (.s d) i j) i l)
  | [], _ => by simp [prsLL, prOk]
  | r :: l, i => by
    intro p hp
    simp only [prsLL] at hp
    rcases List.mem_append.1 hp with hp | hp
    · exact prs_ok (fun j => .c (.s d) i j) (fun _ => rfl) r 0 p hp
    · exact prsLL_ok l (i + 1) p hp
section
variable {P : Program} {own : Nat → Prop} {C : Nat → Prop} {w0 : World} {g : Gh} {st : St} {a : Act} {w : World}
def mkSt (d z l : Nat) (zv : List AV) (st : St) : St := ((st.kill (.s d)).setO (.s d) (.row z (List.replicate l zv))).put (some d) (.hs (.s d) z 0 l)
theorem made_getD (z : Array Value) (n t : Nat) (h : t < n) : (madeCells z n).getD t undef = z[t % z.size]! := by
  simp [madeCells, Array.getD_eq_getD_getElem?, h]
theorem mk_sound {o : Oper} {T E : TypeId} {x y : Operand} {d l z : Nat} {k k' : IntKind} {zv : List AV} (h : Rg P own C w0 g st a w) (ho : o.op = .makeSlice T x y) (hd : o.dst = some d) (hn : d < st.n)
    (hx : ev st x = .sc (.int k l)) (hy : ev st y = .sc (.int k' l)) (hE : tapp P T = some E) (hz : tsz P E = z) (hzv : zvals P E = some zv) (hl : l ≤ 4294967296) : Does P o a w fun a' w' => Rel P own C w0 g (mkSt d z l zv st) a' w' := by
  obtain ⟨i, zz, t1, t2, t3, t4, t5, t6, t7⟩ := tapp_spec hE
  obtain ⟨i', z', q1, q2, q3, rfl, q4⟩ := zvals_spec hzv
  rw [t2] at q1
  obtain rfl := Option.some.inj q1
  rw [t3] at q2
  obtain rfl := Option.some.inj q2
  have hiz : i.size = z := t7.symm.trans hz
  have e1 : a.eval x = .int k l := (hx ▸ h.ev x).sc_eq
  have e2 : a.eval y = .int k' l := (hy ▸ h.ev y).sc_eq
  have hb : (i.bytes : Int) * l ≤ 281474976710656 := by
    have := Nat.mul_le_mul t6 hl
    have h2 : ((i.bytes * l : Nat) : Int) ≤ 281474976710656 := by omega
    simpa using h2
  have hrun := run_make (P := P) (w := w) T E i zz t1 t2 t3 k k' l l (by omega) (by omega) hb (by omega)
  refine .inl ⟨.slice (some ⟨w.heap.size, 0, none⟩) l l, w.alloc (.cells (madeCells zz.cells (l * i.size)) E), ?_, ?_⟩
  · simp only [Int.toNat_natCast] at hrun
    simp only [execOp, ho, e1, e2, Sem.run_bind, hrun, Result.andThen_ok, Sem.run_pure]
  · rw [hd]
    have hcur : ∀ t, t < l * i.size → (madeCells zz.cells (l * i.size)).getD t undef = zz.cells[t % zz.cells.size]! := fun t ht => made_getD _ _ _ ht
    have hm := h.made (.s d) (.row z (List.replicate l (zz.cells.toList.map .sc))) w.heap.size l (w.alloc (.cells (madeCells zz.cells (l * i.size)) E)) [] (by simp) (fun _ => false) rfl rfl rfl (by simp) (.inl (Nat.le_refl _)) (by simp) (fun b' _ hb' => alloc_old _ hb') (by
      simp only [OAt, (fresh_self (g := g) (.s d) (some w.heap.size) l).1, (fresh_self (g := g) (.s d) (some w.heap.size) l).2]
      refine ⟨_, E, heap_alloc_new w _, by simp [madeCells, hiz], by simp only [maxLen]; omega, by simp, ?_, ?_, ?_⟩
      · intro r hr
        rw [List.eq_of_mem_replicate hr]
        simp [t4, hiz]
      · intro j hj
        rw [List.length_replicate, ← hiz] at hj
        rw [hcur j hj, t4]
        have hlt : j % i.size < zz.cells.size := by rw [t4]; exact Nat.mod_lt _ t5
        rw [getElem!_pos zz.cells _ hlt]
        exact q3 _ (by rw [Array.mem_toList_iff]; exact Array.getElem_mem hlt)
      · intro i' row hrow j x hx
        have hi' : i' < l := by
          have := (gS hrow).1
          rwa [List.length_replicate] at this
        rw [List.getElem?_replicate, if_pos hi'] at hrow
        obtain rfl := Option.some.inj hrow
        rw [List.getElem?_map] at hx
        obtain ⟨v, hv, rfl⟩ := Option.map_eq_some_iff.1 hx
        have hj : j < zz.cells.size := by
          have := (gS hv).1
          simpa using this
        have h5 : (i' + 1) * i.size ≤ l * i.size := Nat.mul_le_mul_right _ hi'
        rw [Nat.add_mul, Nat.one_mul] at h5
        rw [← hiz, hcur _ (by omega), t4, Nat.add_comm, Nat.add_mul_mod_self_right, Nat.mod_eq_of_lt (by omega), getElem!_pos zz.cells _ hj]
        have : v = zz.cells[j] := by
          rw [Array.getElem?_toList, Array.getElem?_eq_getElem hj] at hv
          exact (Option.some.inj hv).symm
        rw [← this]
        exact RV.sc v)
    have e : (st.nm (kl (.s d)) (fun m => if (fun _ => false : Nm → Bool) m then none else hkl (.s d) st.hp m)) = st.kill (.s d) := by simp [St.kill]
    rw [e] at hm
    exact ⟨_, .fresh rfl, hm.put (d := some d) (fun t e => by obtain rfl := Option.some.inj e; exact hn) (.hsB _ _ _ _ w.heap.size l _ (fresh_self _ _ _).1 (Nat.le_refl _) (by simp [(fresh_self (g := g) (.s d) (some w.heap.size) l).2]) (fun _ => by simp))⟩
def rowsOf (st : St) : List (Nat × Operand) → Option (List (List AV))
  | [] => some []
  | p :: l => ((ev st p.2).cells).bind fun r => (rowsOf st l).map (r :: ·)
def bsSt (P : Program) (E : TypeId) (d z : Nat) (rows : List (List AV)) (st : St) : St :=
  let r1 := rows.map (fun r => r.map (AV.tr (kl (.s d))))
  let r2 := ownRows P E d 0 r1
  canon (prsLL (fun i j => .c (.s d) i j) 0 r2) (((St.setNils (nilKeysLL P E d 0 r1) (st.kill (.s d))).setO (.s d) (.row z r2)).put (some d) (.hs (.s d) z 0 rows.length))
theorem rowsOf_spec : ∀ {parts : List (Nat × Operand)} {rows : List (List AV)}, rowsOf st parts = some rows → rows.length = parts.length ∧ ∀ (i : Nat) p, parts[i]? = some p → ∃ r, rows[i]? = some r ∧ (ev st p.2).cells = some r
  | [], rows, h => by
    simp only [rowsOf] at h
    obtain rfl := Option.some.inj h
    simp
  | p :: l, rows, h => by
    simp only [rowsOf] at h
    obtain ⟨r, hr, h⟩ := Option.bind_eq_some_iff.1 h
    obtain ⟨m, hm, rfl⟩ := Option.map_eq_some_iff.1 h
    obtain ⟨h1, h2⟩ := rowsOf_spec hm
    refine ⟨by simp [h1], fun i q hq => ?_⟩
    cases i with
    | zero => simp at hq; subst hq; exact ⟨r, by simp, hr⟩
    | succ i => obtain ⟨r', e1, e2⟩ := h2 i q (by simpa using hq); exact ⟨r', by simpa using e1, e2⟩
theorem fill_seq (size : Nat) : ∀ (vs : List Value) (k : Nat) (pre rest : List Value), (∀ v ∈ vs, v.cells.size = size) → pre.length = k * size → vs.length * size ≤ rest.length →
    Instr.fill (fun i => some (i * size, size)) (pre ++ rest).toArray ((vs.zipIdx k).map (fun p => (p.2, p.1))) = some (pre ++ (vs.map (fun v => v.cells.toList)).flatten ++ rest.drop (vs.length * size)).toArray := by
  intro vs
  induction vs with
  | nil => intro k pre rest _ _ _; simp [Instr.fill]
  | cons v vs ih =>
    intro k pre rest hv hpre hle
    simp only [List.length_cons, Nat.add_mul, Nat.one_mul] at hle
    have hvs := hv v (by simp)
    simp only [List.zipIdx_cons, List.map_cons, Instr.fill]
    rw [if_neg (by simp; omega)]
    have hf : (v.cells.zipIdx.foldl (fun cs (x : Value × Nat) => cs.setIfInBounds (k * size + x.2) x.1) (pre ++ rest).toArray) = ((pre ++ v.cells.toList) ++ rest.drop size).toArray := by
      have := foldl_set (k * size) v.cells.toList 0 (pre ++ rest).toArray (by simp; omega)
      simp only [Nat.add_zero] at this
      rw [← hpre, List.take_left' rfl, show v.cells.toList.length = size from by simp [hvs], List.drop_append, List.drop_of_length_le (by omega), List.nil_append, show pre.length + size - pre.length = size from by omega] at this
      rw [← hpre, ← this, ← Array.foldl_toList]
      simp
    have hf' : (v.cells.zipIdx.foldl (fun cs x => match x with | (c, j) => cs.setIfInBounds (k * size + j) c) (pre ++ rest).toArray) = ((pre ++ v.cells.toList) ++ rest.drop size).toArray := hf
    rw [hf', ih (k + 1) _ _ (fun u hu => hv u (by simp [hu])) (by simp [hpre, hvs, Nat.add_mul]) (by rw [List.length_drop]; omega)]
    simp [Nat.add_mul, List.append_assoc, Nat.add_comm]
theorem bs_sound {o : Oper} {T E : TypeId} {d len z : Nat} {parts : Array (Nat × Operand)} {rows : List (List AV)} (h : Rg P own C w0 g st a w) (ho : o.op = .buildSlice T len parts) (hd : o.dst = some d) (hn : d < st.n)
    (hE : tapp P T = some E) (hz : tsz P E = z) (hrows : rowsOf st parts.toList = some rows) (c1 : parts.toList.map (·.1) = List.range len) (c2 : len * z ≤ 16777216) (c3 : rows.all (fun r => r.length == z) = true) :
    Does P o a w fun a' w' => Rel P own C w0 g (bsSt P E d z rows st) a' w' := by
  obtain ⟨i, zz, t1, t2, t3, t4, t5, t6, t7⟩ := tapp_spec hE
  have hiz : i.size = z := t7.symm.trans hz
  obtain ⟨r1, r2⟩ := rowsOf_spec hrows
  have hu : ∀ r ∈ rows, r.length = z := fun r hr => by simpa using List.all_eq_true.1 c3 r hr
  have hlen : parts.toList.length = len := by have := congrArg List.length c1; simpa using this
  let vs := parts.toList.map (fun p => a.eval p.2)
  have hvl : vs.length = len := by simp [vs]; simpa using hlen
  have each : ∀ (k : Nat) v, vs[k]? = some v → ∃ r, rows[k]? = some r ∧ v.cells.toList.length = r.length ∧ (∀ u ∈ v.cells.toList, u.oneCell' = true) ∧ ∀ (j : Nat) u x, v.cells.toList[j]? = some u → r[j]? = some x → RV g w u x := by
    intro k v hv
    rw [List.getElem?_map] at hv
    obtain ⟨p, hp, rfl⟩ := Option.map_eq_some_iff.1 hv
    obtain ⟨r, e1, e2⟩ := r2 k p hp
    exact ⟨r, e1, (h.ev p.2).cells e2⟩
  have hsz : ∀ v ∈ vs, v.cells.size = i.size := by
    intro v hv
    obtain ⟨k, hk⟩ := List.getElem?_of_mem hv
    obtain ⟨r, e1, e2, _⟩ := each k v hk
    rw [← Array.length_toList, e2, hu r (List.mem_of_getElem? e1), hiz]
  have hparts : (parts.map (fun p => (p.1, a.eval p.2))).toList = (vs.zipIdx 0).map (fun p => (p.2, p.1)) := by
    apply List.ext_getElem?
    intro k
    simp only [Array.toList_map, List.getElem?_map, List.getElem?_zipIdx, vs]
    cases hk : parts.toList[k]? with
    | none => simp
    | some p =>
      have := congrArg (fun l : List Nat => l[k]?) c1
      simp only [List.getElem?_map, hk, Option.map_some] at this
      have hlt : k < len := by rw [← hlen]; exact (gS hk).1
      rw [List.getElem?_range hlt] at this
      simp [Option.some.inj this]
  let cur : List Value := (vs.map (fun v => v.cells.toList)).flatten
  have hfill := fill_seq i.size vs 0 [] ((Array.range (len * i.size)).map (fun t => zz.cells[t % zz.cells.size]!)).toList hsz (by simp) (by simp [hvl])
  have hfill' : Instr.fill (fun k => some (k * i.size, i.size)) ((Array.range (len * i.size)).map (fun t => zz.cells[t % zz.cells.size]!)) (parts.map (fun p => (p.1, a.eval p.2))).toList = some cur.toArray := by
    rw [hparts]
    have hz : (((Array.range (len * i.size)).map (fun t => zz.cells[t % zz.cells.size]!)).toList).length = len * i.size := by simp
    rw [List.nil_append, Array.toArray_toList, hvl, List.drop_of_length_le (by omega), List.nil_append, List.append_nil] at hfill
    exact hfill
  have hflat : ∀ (l : List Value), (∀ v ∈ l, v.cells.size = i.size) → ((l.map (fun v => v.cells.toList)).flatten).length = l.length * i.size ∧ ∀ k j, j < i.size → ((l.map (fun v => v.cells.toList)).flatten)[k * i.size + j]? = (l[k]?).bind (fun v => v.cells.toList[j]?) := by
    intro l
    induction l with
    | nil => intro _; simp
    | cons v l ih =>
      intro hl
      obtain ⟨i1, i2⟩ := ih (fun u hu => hl u (by simp [hu]))
      have hv : v.cells.toList.length = i.size := by simpa using hl v (by simp)
      refine ⟨by simp only [List.map_cons, List.flatten_cons, List.length_append, List.length_cons, i1, hv, Nat.add_mul, Nat.one_mul]; omega, fun k j hj => ?_⟩
      simp only [List.map_cons, List.flatten_cons]
      cases k with
      | zero => rw [Nat.zero_mul, Nat.zero_add, List.getElem?_append_left (by omega)]; simp
      | succ k =>
        rw [List.getElem?_append_right (by rw [hv, Nat.add_mul]; omega), hv, show (k + 1) * i.size + j - i.size = k * i.size + j from by rw [Nat.add_mul, Nat.one_mul]; omega, i2 k j hj]
        simp
  obtain ⟨f1, f2⟩ := hflat vs hsz
  have hrl : rows.length = len := by rw [r1]; exact hlen
  have hrun : (execOp a.eval o).run P w = .ok (.value (.slice (some ⟨w.heap.size, 0, none⟩) len len)) (w.alloc (.cells cur.toArray E)) := by
    by_cases h0 : len * i.size = 0
    · simp only [execOp, ho, Instr.buildSlice, Sem.run_bind, run_underlying t1, Result.andThen_ok, sizeOf, typeInfo, Sem.run_pure]
      have hl0 : len = 0 := by
        rcases Nat.mul_eq_zero.1 h0 with h1 | h1
        · exact h1
        · omega
      have hp0 : parts = #[] := by
        apply Array.toList_inj.1
        exact List.eq_nil_of_length_eq_zero (by rw [hlen, hl0])
      have hc0 : cur = [] := by simp [cur, vs, hp0]
      simp [hl0, hp0, hc0, Instr.fill, newRow, t2, Array.range_zero']
    · simp only [execOp, ho, Instr.buildSlice, Sem.run_bind, run_underlying t1, Result.andThen_ok, sizeOf, typeInfo, Sem.run_pure]
      have : ¬ len * i.size > 2 ^ 24 := by rw [hiz]; omega
      simp only [Array.toList_map] at hfill'
      simp [this, h0, zeroValue, typeInfo, t2, t3, hfill', newRow]
  refine .inl ⟨_, _, hrun, ?_⟩
  rw [hd]
  unfold bsSt
  generalize hR1 : rows.map (fun r => r.map (AV.tr (kl (.s d)))) = R1
  have hR1l : R1.length = len := by rw [← hR1, List.length_map]; exact hrl
  have hC' : ∀ b', C b' → (w.alloc (.cells cur.toArray E)).heap[b']? = w.heap[b']? := fun b' hC => alloc_old _ (h.inv.clt b' hC)
  have hm := h.made (.s d) (.row z (ownRows P E d 0 R1)) w.heap.size len (w.alloc (.cells cur.toArray E)) (nilKeysLL P E d 0 R1)
    (fun p hp => by
      obtain ⟨i, j, e⟩ := nilKeysLL_key _ _ p hp
      rw [e]
      exact ⟨by simp [Nm.under], by simp⟩) (fun _ => false) rfl rfl rfl (by simp) (.inl (Nat.le_refl _)) (by simp) (fun b' _ hb' => alloc_old _ hb') (by
      simp only [OAt, (fresh_self (g := g) (.s d) (some w.heap.size) len).1, (fresh_self (g := g) (.s d) (some w.heap.size) len).2]
      refine ⟨cur.toArray, E, heap_alloc_new w _, by simp [cur, f1, hvl, hiz], ?_, by rw [ownRows_length, hR1l]; exact Nat.le_refl _, ?_, ?_, ?_⟩
      · have := Nat.le_mul_of_pos_right len t5
        rw [hiz] at this
        simp only [maxLen]
        omega
      · intro r hr
        obtain ⟨k, hk⟩ := List.getElem?_of_mem hr
        rw [ownRows_get] at hk
        obtain ⟨r0, h0, rfl⟩ := Option.map_eq_some_iff.1 hk
        rw [zcs_length]
        rw [← hR1, List.getElem?_map] at h0
        obtain ⟨r00, h00, rfl⟩ := Option.map_eq_some_iff.1 h0
        rw [List.length_map]
        exact hu r00 (List.mem_of_getElem? h00)
      · intro j hj
        rw [ownRows_length, hR1l] at hj
        have hlt : j < cur.length := by simp only [cur, f1, hvl]; rw [hiz]; exact hj
        have e : cur.toArray.getD j undef = cur[j] := by simp [Array.getD_eq_getD_getElem?, hlt]
        rw [e]
        have hmem : cur[j] ∈ cur := List.getElem_mem hlt
        obtain ⟨l, hl, hjl⟩ := List.mem_flatten.1 hmem
        obtain ⟨v, hv, rfl⟩ := List.mem_map.1 hl
        obtain ⟨k, hk⟩ := List.getElem?_of_mem hv
        obtain ⟨r, _, _, e3, _⟩ := each k v hk
        exact e3 _ hjl
      · intro k row hrow j x hx
        rw [ownRows_get] at hrow
        obtain ⟨r1', h0, rfl⟩ := Option.map_eq_some_iff.1 hrow
        rw [← hR1, List.getElem?_map] at h0
        obtain ⟨r00, h00, rfl⟩ := Option.map_eq_some_iff.1 h0
        rw [zcs_get, List.getElem?_map] at hx
        obtain ⟨x1, hx1, rfl⟩ := Option.map_eq_some_iff.1 hx
        obtain ⟨x0, hx0, rfl⟩ := Option.map_eq_some_iff.1 hx1
        have hk : k < vs.length := by rw [hvl, ← hrl]; exact (gS h00).1
        obtain ⟨r, e1, e2, e3, e4⟩ := each k _ (gE hk)
        rw [e1] at h00
        obtain rfl := Option.some.inj h00
        have hj : j < i.size := by rw [hiz, ← hu r (List.mem_of_getElem? e1)]; exact (gS hx0).1
        have hj' : j < (vs[k]).cells.toList.length := by rw [e2, hu r (List.mem_of_getElem? e1), ← hiz]; exact hj
        have e5 := f2 k j hj
        rw [gE hk, Option.bind_some, gE hj'] at e5
        have e : cur.toArray.getD (k * z + j) undef = (vs[k]).cells.toList[j] := by
          rw [← hiz]
          simp only [Array.getD_eq_getD_getElem?, List.getElem?_toArray]
          simp only [cur]
          rw [e5]
          rfl
        rw [e]
        exact (h.rvFresh hC' (e4 j _ x0 (gE hj') hx0)).zc (fun _ => fresh_under (by simp [Nm.under]) (by simp)))
  have e : (st.nm (kl (.s d)) (fun m => if (fun _ => false : Nm → Bool) m then none else hkl (.s d) st.hp m)) = st.kill (.s d) := by simp [St.kill]
  rw [e] at hm
  have hfin := (hm.put (d := some d) (v := .slice (some ⟨w.heap.size, 0, none⟩) len len) (x := .hs (.s d) z 0 rows.length) (fun t e => by
    obtain rfl := Option.some.inj e
    simp only [St.setO, (setNils_n _ _).1]
    exact hn) (by
      rw [hrl]
      exact .hsB _ _ _ _ w.heap.size len _ (fresh_self _ _ _).1 (Nat.le_refl _) (by simp [(fresh_self (g := g) (.s d) (some w.heap.size) len).2]) (fun _ => by simp))).canon (prsLL (fun i j => .c (.s d) i j) 0 (ownRows P E d 0 R1)) (prsLL_ok _ _)
  obtain ⟨g', u, r⟩ := hfin
  exact ⟨g', (Ust.fresh rfl).trans u, r⟩
def mpSt (d : Nat) (st : St) : St := ((st.kill (.s d)).setO (.s d) (.map [])).put (some d) (.mp (.s d))
theorem mp_sound {o : Oper} {T : TypeId} {d : Nat} (h : Rg P own C w0 g st a w) (ho : o.op = .makeMap T none) (hd : o.dst = some d) (hn : d < st.n) : Does P o a w fun a' w' => Rel P own C w0 g (mpSt d st) a' w' := by
  refine .inl ⟨.map (some w.heap.size), w.alloc (.map #[] 0), ?_, ?_⟩
  · simp [execOp, ho, Instr.makeMap]
  · rw [hd]
    have hm := h.made (.s d) (.map []) w.heap.size 0 (w.alloc (.map #[] 0)) [] (by simp) (fun _ => false) rfl rfl rfl (by simp) (.inl (Nat.le_refl _)) (by simp) (fun b' _ hb' => alloc_old _ hb') (by
      simp only [OAt, (fresh_self (g := g) (.s d) (some w.heap.size) 0).1]
      exact ⟨[], 0, heap_alloc_new w _, MapKept.stamped_empty 0, rfl, by simp⟩)
    have e : (st.nm (kl (.s d)) (fun m => if (fun _ => false : Nm → Bool) m then none else hkl (.s d) st.hp m)) = st.kill (.s d) := by simp [St.kill]
    rw [e] at hm
    exact ⟨_, .fresh rfl, hm.put (d := some d) (fun t e => by obtain rfl := Option.some.inj e; exact hn) (.mp _ _ (fresh_self _ _ _).1)⟩
def mset (k : IntKind) (n : Int) (y : AV) : List (AV × AV) → List (AV × AV)
  | [] => [(.sc (.int k n), y)]
  | (.sc (.int k' m), x) :: l => if k' = k ∧ m = n then (.sc (.int k n), y) :: l else (.sc (.int k' m), x) :: mset k n y l
  | e :: l => e :: mset k n y l
def mdel (k : IntKind) (n : Int) : List (AV × AV) → List (AV × AV)
  | [] => []
  | (.sc (.int k' m), x) :: l => if k' = k ∧ m = n then l else (.sc (.int k' m), x) :: mdel k n l
  | e :: l => e :: mdel k n l
theorem mget_idx {k : IntKind} {n : Int} : ∀ {es : List (AV × AV)} {ms : List MapEntry} {i : Nat} {p : Nat} {v : Value}, ms.length = es.length → (∀ (i : Nat) m e, ms[i]? = some m → es[i]? = some e → RV g w m.key e.1 ∧ RV g w m.val e.2) → mkeys k es = true →
    Instr.findNow (.int k) (.int k n) ms p = some (some (p + i, v)) → (∀ y, mset k n y es = es.modify i (fun _ => (.sc (.int k n), y))) ∧ mdel k n es = es.eraseIdx i ∧ i < es.length
  | [], ms, i, p, v, hl, _, _, hf => by
    obtain rfl := List.eq_nil_of_length_eq_zero (by simpa using hl)
    simp [Instr.findNow] at hf
  | (ek, ev) :: es, [], i, p, v, hl, _, _, hf => by simp at hl
  | (ek, ev) :: es, m0 :: ms, i, p, v, hl, hr, hm, hf => by
    unfold mkeys at hm
    split at hm
    · cases ‹_ :: _ = []›
    · rename_i k' m' x l he
      obtain ⟨e1, rfl⟩ := List.cons.inj he
      obtain ⟨rfl, rfl⟩ := Prod.mk.inj e1
      simp only [Bool.and_eq_true, beq_iff_eq] at hm
      obtain ⟨rfl, hm⟩ := hm
      obtain ⟨h1, h2⟩ := hr 0 m0 _ rfl rfl
      have hk := h1.sc_eq
      by_cases hn : m' = n
      · subst hn
        simp [Instr.findNow, Instr.sameNow, hk] at hf
        obtain ⟨rfl, _⟩ := hf
        simp [mset, mdel]
      · have hne : (n == m') = false := by simpa using fun e => hn e.symm
        simp [Instr.findNow, Instr.sameNow, hk, hne] at hf
        have hi : ∃ i', i = i' + 1 := by
          cases i with
          | succ i => exact ⟨i, rfl⟩
          | zero =>
            exfalso
            obtain ⟨r, f1, f2⟩ := findNow_int (g := g) (w := w) (n := n) ms es (p + 1) (by simpa using hl) (fun i m e hm he => hr (i + 1) m e (by simpa using hm) (by simpa using he)) hm
            rw [f1] at hf
            split at f2
            · obtain ⟨i2, v2, e2, _⟩ := f2
              rw [e2] at hf
              simp at hf
              omega
            · rw [f2] at hf
              simp at hf
        obtain ⟨i', rfl⟩ := hi
        rw [show p + (i' + 1) = p + 1 + i' from by omega] at hf
        obtain ⟨g1, g2, g3⟩ := mget_idx (by simpa using hl) (fun i m e hm he => hr (i + 1) m e (by simpa using hm) (by simpa using he)) hm hf
        refine ⟨fun y => by simp [mset, hn, g1 y], by simp [mdel, hn, g2], by simp; omega⟩
    · cases hm
theorem mset_new {k : IntKind} {n : Int} {y : AV} : ∀ {es : List (AV × AV)}, mkeys k es = true → mget k n es = none → mset k n y es = es ++ [(.sc (.int k n), y)] ∧ mdel k n es = es
  | [], _, _ => ⟨rfl, rfl⟩
  | (ek, ev) :: es, hm, hg => by
    unfold mkeys at hm
    split at hm
    · cases ‹_ :: _ = []›
    · rename_i k' m' x l he
      obtain ⟨e1, rfl⟩ := List.cons.inj he
      obtain ⟨rfl, rfl⟩ := Prod.mk.inj e1
      simp only [Bool.and_eq_true, beq_iff_eq] at hm
      obtain ⟨rfl, hm⟩ := hm
      by_cases hn : m' = n
      · subst hn
        simp [mget] at hg
      · simp only [mget, if_true, if_neg hn] at hg
        obtain ⟨g1, g2⟩ := mset_new (y := y) hm hg
        simp [mset, mdel, hn, g1, g2]
    · cases hm
theorem mget_no {k : IntKind} {n : Int} : ∀ {es : List (AV × AV)} {ms : List MapEntry}, ms.length = es.length → (∀ (i : Nat) m e, ms[i]? = some m → es[i]? = some e → RV g w m.key e.1 ∧ RV g w m.val e.2) → mkeys k es = true → mget k n es = none → ∀ m ∈ ms, m.key ≠ .int k n
  | [], ms, hl, _, _, _ => by
    obtain rfl := List.eq_nil_of_length_eq_zero (by simpa using hl)
    intro m hm
    cases hm
  | (ek, ev) :: es, [], hl, _, _, _ => by simp at hl
  | (ek, ev) :: es, m0 :: ms, hl, hr, hm, hg => by
    unfold mkeys at hm
    split at hm
    · cases ‹_ :: _ = []›
    · rename_i k' m' x l he
      obtain ⟨e1, rfl⟩ := List.cons.inj he
      obtain ⟨rfl, rfl⟩ := Prod.mk.inj e1
      simp only [Bool.and_eq_true, beq_iff_eq] at hm
      obtain ⟨rfl, hm⟩ := hm
      by_cases hn : m' = n
      · subst hn
        simp [mget] at hg
      · simp only [mget, if_true, if_neg hn] at hg
        intro m hmm
        rcases List.mem_cons.1 hmm with rfl | h
        · rw [(hr 0 m _ rfl rfl).1.sc_eq]
          intro e
          injection e with _ e
          exact hn e
        · exact mget_no (by simpa using hl) (fun i m e h1 h2 => hr (i + 1) m e (by simpa using h1) (by simpa using h2)) hm hg m h
    · cases hm
def World.setMap (w : World) (b : Nat) (ms : List MapEntry) (clock : Nat) : World := { w with heap := w.heap.setIfInBounds b (.map ms.toArray clock) }
theorem Rg.wrMap (h : Rg P own C w0 g st a w) {n : Nm} {b clock : Nat} {es es' : List (AV × AV)} {ms' : List MapEntry} (hn : st.hp n = some (.map es)) (hk : g.φ n = some b) (hs : MapKept.Stamped ms'.toArray clock) (hl : ms'.length = es'.length)
    (hr : ∀ (i : Nat) m e, ms'[i]? = some m → es'[i]? = some e → RV g w m.key e.1 ∧ RV g w m.val e.2) : Rg P own C w0 g (st.setO n (.map es')) a (World.setMap w b ms' clock) := by
  have hblk := h.inv.blk n _ b hn hk
  have hother : ∀ b', b' ≠ b → (World.setMap w b ms' clock).heap[b']? = w.heap[b']? := by
    intro b' hne
    simp only [World.setMap]
    rw [Array.getElem?_setIfInBounds_ne (Ne.symm hne)]
  refine h.wr (b := b) (w' := World.setMap w b ms' clock) hn hk rfl rfl rfl (by simp [World.setMap]) (fun b' hne _ => hother b' hne) ?_
  simp only [OAt, hk]
  refine ⟨ms', clock, ?_, hs, hl, fun i m e hm he => ?_⟩
  · simp only [World.setMap]
    rw [Array.getElem?_setIfInBounds_self_of_lt hblk.2.2]
  · obtain ⟨r1, r2⟩ := hr i m e hm he
    have keepC : ∀ b', g.C b' → (World.setMap w b ms' clock).heap[b']? = w.heap[b']? := fun b' hC => hother b' (fun e => hblk.1 (e ▸ h.inv.hC ▸ hC))
    exact ⟨r1.same (fun _ h => h) keepC (fun _ => ⟨rfl, rfl⟩), r2.same (fun _ h => h) keepC (fun _ => ⟨rfl, rfl⟩)⟩
theorem run_setMap {b : Nat} {ms ms' : List MapEntry} {c c' : Nat} (h : w.heap[b]? = some (.map ms.toArray c)) : (setObj b (.map ms'.toArray c')).run P w = .ok () (World.setMap w b ms' c') := by
  simp [setObj, Sem.run, h, World.setMap]
theorem mup_sound {o : Oper} {T e : TypeId} {m key x : Operand} {k : IntKind} {i : Int} {n : Nm} {es : List (AV × AV)} (h : Rg P own C w0 g st a w) (ho : o.op = .mapUpdate T m key x ∨ o.op = .insert T m key x) (hd : o.dst = none) (ht : tmapI P T = some (k, e))
    (hm : ev st m = .mp n) (hk : ev st key = .sc (.int k i)) (hn : st.hp n = some (.map es)) (hks : mkeys k es = true) : Does P o a w fun a' w' => Rel P own C w0 g (st.setO n (.map (mset k i (ev st x) es))) a' w' := by
  obtain ⟨kt, hT, hkt⟩ := tmapI_spec ht
  have hmv := h.ev m
  rw [hm] at hmv
  have hkv := h.ev key
  rw [hk] at hkv
  have hkv := hkv.sc_eq
  have hx := h.ev x
  have ho' := h.inv.obj n _ hn
  have hb : ∃ b, a.eval m = .map (some b) ∧ g.φ n = some b := by
    generalize a.eval m = vm at hmv
    cases hmv with
    | mp _ b hb => exact ⟨b, rfl, hb⟩
  obtain ⟨b, hmb, hb⟩ := hb
  simp only [OAt, hb] at ho'
  obtain ⟨ms, clock, h1, hs0, h2, h3⟩ := ho'
  have hg : (getObj b).run P w = .ok (.map ms.toArray clock) w := by simp [getObj, Sem.run, h1]
  obtain ⟨r, f1, f2⟩ := findNow_int (n := i) ms es 0 h2 h3 hks
  have hck := run_checkKey_int (P := P) (w := w) (n := i) (b := false) hkt
  have run : ∀ w', (Instr.mapUpdate T (a.eval m) (a.eval key) (a.eval x)).run P w = .ok () w' → (execOp a.eval o).run P w = .ok .skip w' := by
    intro w' e
    rcases ho with ho | ho <;> simp [execOp, ho, e]
  split at f2
  · rename_i y hy
    obtain ⟨j, v', rfl, hv', ⟨m1, hm1, hm2, hm3⟩, hjl⟩ := f2
    obtain ⟨g1, g2, g3⟩ := mget_idx h2 h3 hks f1
    have hsb : Instr.sameBits 10000 m1.key (.int k i) = true := by rw [hm3]; simp [Instr.sameBits]
    have hold : ((ms.toArray[0 + j]?).map (·.key)).getD (.int k i) = m1.key := by simp [hm1]
    refine .inr ⟨World.setMap w b (ms.modify j (fun e => { e with key := .int k i, val := a.eval x })) clock, run _ ?_, ?_⟩
    · have hst : (setObj b (.map (ms.modify j (fun e => { e with key := .int k i, val := a.eval x })).toArray clock)).run P w = .ok () (World.setMap w b (ms.modify j (fun e => { e with key := .int k i, val := a.eval x })) clock) := run_setMap h1
      rw [hmb, hkv]
      simp only [Instr.mapUpdate, Sem.run_bind, run_und hT, Result.andThen_ok, hg, hck, Instr.findKey, run_und hkt, f1, Sem.run_pure, Instr.keyThatStays, hold, hsb, if_true]
      have e : (ms.toArray.modify (0 + j) (fun e => { e with key := .int k i, val := a.eval x })) = (ms.modify j (fun e => { e with key := .int k i, val := a.eval x })).toArray := by
        apply Array.ext'
        simp
      rw [e]
      exact hst
    · rw [hd]
      refine ⟨g, .refl g, h.wrMap hn hb ?_ ?_ ?_⟩
      · have hs1 := MapKept.stamped_modify hs0 (0 + j) (fun e => { e with key := .int k i, val := a.eval x }) (fun _ _ => rfl) (fun e _ he => by
          have : m1 = e := by simpa [hm1] using he
          subst this
          exact hm3.symm)
        have e : (ms.toArray.modify (0 + j) (fun e => { e with key := .int k i, val := a.eval x })) = (ms.modify j (fun e => { e with key := .int k i, val := a.eval x })).toArray := by
          apply Array.ext'
          simp
        rwa [e] at hs1
      · rw [g1]; simp [h2]
      · intro i' m' e' hm' he'
        rw [g1, List.getElem?_modify] at he'
        rw [List.getElem?_modify] at hm'
        obtain ⟨m0, q1, q2⟩ := Option.map_eq_some_iff.1 hm'
        obtain ⟨e0, q3, q4⟩ := Option.map_eq_some_iff.1 he'
        by_cases hji : j = i'
        · simp only [hji, if_true] at q2 q4
          subst q2
          subst q4
          exact ⟨.sc _, hx⟩
        · simp only [hji, if_false] at q2 q4
          subst q2
          subst q4
          exact h3 i' m0 e0 q1 q3
  · rename_i hy
    subst f2
    obtain ⟨g1, _⟩ := mset_new (y := ev st x) hks hy
    refine .inr ⟨World.setMap w b (ms ++ [{ key := .int k i, val := a.eval x, born := clock }]) (clock + 1), run _ ?_, ?_⟩
    · have hst : (setObj b (.map (ms ++ [({ key := .int k i, val := a.eval x, born := clock } : MapEntry)]).toArray (clock + 1))).run P w = .ok () (World.setMap w b (ms ++ [{ key := .int k i, val := a.eval x, born := clock }]) (clock + 1)) := run_setMap h1
      rw [hmb, hkv]
      simp only [Instr.mapUpdate, Sem.run_bind, run_und hT, Result.andThen_ok, hg, hck, Instr.findKey, run_und hkt, f1, Sem.run_pure]
      have e : (ms.toArray.push ({ key := .int k i, val := a.eval x, born := clock } : MapEntry)) = (ms ++ [({ key := .int k i, val := a.eval x, born := clock } : MapEntry)]).toArray := by
        apply Array.ext'
        simp
      rw [e]
      exact hst
    · rw [hd]
      have hs1 := MapKept.stamped_push (val := a.eval x) hs0 (key := .int k i) (by simpa using mget_no h2 h3 hks hy)
      have e : (ms.toArray.push ({ key := .int k i, val := a.eval x, born := clock } : MapEntry)) = (ms ++ [({ key := .int k i, val := a.eval x, born := clock } : MapEntry)]).toArray := by
        apply Array.ext'
        simp
      rw [e] at hs1
      refine ⟨g, .refl g, h.wrMap hn hb hs1 (by rw [g1]; simp [h2]) ?_⟩
      intro i' m' e' hm' he'
      rw [g1, List.getElem?_append] at he'
      rw [List.getElem?_append] at hm'
      by_cases hlt : i' < ms.length
      · rw [if_pos hlt] at hm'
        rw [if_pos (by omega)] at he'
        exact h3 i' m' e' hm' he'
      · rw [if_neg hlt] at hm'
        rw [if_neg (by omega)] at he'
        have e0 : i' - ms.length = 0 := by
          have := (gS hm').1
          simp at this
          omega
        rw [e0] at hm'
        rw [← h2, e0] at he'
        simp at hm' he'
        subst hm'
        subst he'
        exact ⟨.sc _, hx⟩
theorem mdl_sound {o : Oper} {T e : TypeId} {m key : Operand} {ts : Array TypeId} {k : IntKind} {i : Int} {n : Nm} {es : List (AV × AV)} (h : Rg P own C w0 g st a w) (ho : o.op = .call { callee := .builtin .delete, args := #[m, key], argTypes := ts }) (hts : ts[0]? = some T) (hdn : ∀ t, o.dst = some t → t < st.n) (ht : tmapI P T = some (k, e))
    (hm : ev st m = .mp n) (hk : ev st key = .sc (.int k i)) (hn : st.hp n = some (.map es)) (hks : mkeys k es = true) : Does P o a w fun a' w' => Rel P own C w0 g ((st.setO n (.map (mdel k i es))).put o.dst (.sc (.tuple #[]))) a' w' := by
  obtain ⟨kt, hT, hkt⟩ := tmapI_spec ht
  have hmv := h.ev m
  rw [hm] at hmv
  have hkv := h.ev key
  rw [hk] at hkv
  have hkv := hkv.sc_eq
  have ho' := h.inv.obj n _ hn
  have hb : ∃ b, a.eval m = .map (some b) ∧ g.φ n = some b := by
    generalize a.eval m = vm at hmv
    cases hmv with
    | mp _ b hb => exact ⟨b, rfl, hb⟩
  obtain ⟨b, hmb, hb⟩ := hb
  simp only [OAt, hb] at ho'
  obtain ⟨ms, clock, h1, hs0, h2, h3⟩ := ho'
  have hg : (getObj b).run P w = .ok (.map ms.toArray clock) w := by simp [getObj, Sem.run, h1]
  obtain ⟨r, f1, f2⟩ := findNow_int (n := i) ms es 0 h2 h3 hks
  have hck := fun b => run_checkKey_int (P := P) (w := w) (n := i) (b := b) hkt
  have run : ∀ w', (Builtin.delete_ ts o.type #[a.eval m, a.eval key]).run P w = .ok (.tuple #[]) w' → (execOp a.eval o).run P w = .ok (.value (.tuple #[])) w' := by
    intro w' e
    simp only [execOp, ho, resolve, invoke, builtin, Sem.run_bind, Sem.run_pure, Result.andThen_ok, List.map_toArray, List.map_cons, List.map_nil, e]
  split at f2
  · rename_i y hy
    obtain ⟨j, v', rfl, hv', ⟨m1, hm1, hm2, hm3⟩, hjl⟩ := f2
    obtain ⟨g1, g2, g3⟩ := mget_idx h2 h3 hks f1
    refine .inl ⟨.tuple #[], World.setMap w b (ms.eraseIdx j) clock, run _ ?_, ?_⟩
    · have hst : (setObj b (.map (ms.eraseIdx j).toArray clock)).run P w = .ok () (World.setMap w b (ms.eraseIdx j) clock) := run_setMap h1
      rw [hmb, hkv]
      simp only [Builtin.delete_, hts, List.getElem?_toArray, List.getElem?_cons_zero, List.getElem?_cons_succ, Sem.run_bind, run_und hT, Result.andThen_ok, hg, hck, Instr.findKey, run_und hkt, f1, Sem.run_pure]
      have e : (ms.toArray.eraseIdxIfInBounds (0 + j)) = (ms.eraseIdx j).toArray := by
        apply Array.ext'
        simp [Array.eraseIdxIfInBounds, hjl]
      rw [e, hst]
      rfl
    · refine ⟨g, .refl g, (h.wrMap (n := n) (clock := clock) (es' := mdel k i es) (ms' := ms.eraseIdx j) hn hb ?_ ?_ ?_).put (fun t e => by have := hdn t e; exact this) (.sc _)⟩
      · have hs1 := MapKept.stamped_erase hs0 (0 + j)
        have e : (ms.toArray.eraseIdxIfInBounds (0 + j)) = (ms.eraseIdx j).toArray := by
          apply Array.ext'
          simp [Array.eraseIdxIfInBounds, hjl]
        rwa [e] at hs1
      · rw [g2]; simp [List.length_eraseIdx, h2]
      · intro i' m' e' hm' he'
        rw [g2, List.getElem?_eraseIdx] at he'
        rw [List.getElem?_eraseIdx] at hm'
        split at hm'
        · rename_i hlt
          rw [if_pos hlt] at he'
          exact h3 i' m' e' hm' he'
        · rename_i hlt
          rw [if_neg hlt] at he'
          exact h3 (i' + 1) m' e' hm' he'
  · rename_i hy
    subst f2
    obtain ⟨_, g2⟩ := mset_new (y := .bot) hks hy
    refine .inl ⟨.tuple #[], World.setMap w b ms clock, run _ ?_, ?_⟩
    · have hst : (setObj b (.map ms.toArray clock)).run P w = .ok () (World.setMap w b ms clock) := run_setMap h1
      rw [hmb, hkv]
      simp only [Builtin.delete_, hts, List.getElem?_toArray, List.getElem?_cons_zero, List.getElem?_cons_succ, Sem.run_bind, run_und hT, Result.andThen_ok, hg, hck, Instr.findKey, run_und hkt, f1, Sem.run_pure, hst]
    · exact ⟨g, .refl g, (h.wrMap (n := n) (clock := clock) (es' := mdel k i es) (ms' := ms) hn hb hs0 (by rw [g2]; exact h2) (by rw [g2]; exact h3)).put (fun t e => by have := hdn t e; exact this) (.sc _)⟩
end
structure Ctx where
  P : Program
  own : Nat → Prop
  C0 : Nat → Prop
  w0 : World
  n : Nat
  gl : Nat → Option (List AV)
  ext : Nm → Bool
  g0 : Gh
def Ext (X : Ctx) (g : Gh) : Prop := ∀ k i j, X.ext (.u k i j) = true → g.φ (.u k i j) = X.g0.φ (.u k i j) ∧ g.κ (.u k i j) = X.g0.κ (.u k i j)
theorem Ext.step {X : Ctx} {g g' : Gh} (h : Ext X g) (hu : Ust g g') : Ext X g' := fun k i j e => ⟨(hu k i j).1.trans (h k i j e).1, (hu k i j).2.trans (h k i j e).2⟩
def Rw (X : Ctx) (st : St) (a : Act) (w : World) : Prop :=
  ∃ C g, (∀ b, X.C0 b → C b) ∧ (∀ b, C b → X.C0 b ∨ X.w0.heap.size ≤ b ∨ X.own b) ∧ st.n = X.n ∧ st.gl = X.gl ∧ Ext X g ∧ Rg X.P X.own C X.w0 g st a w
def RwV (X : Ctx) (st : St) (a : Act) (w : World) (v : Value) (x : AV) : Prop :=
  ∃ C g, (∀ b, X.C0 b → C b) ∧ (∀ b, C b → X.C0 b ∨ X.w0.heap.size ≤ b ∨ X.own b) ∧ st.n = X.n ∧ st.gl = X.gl ∧ Ext X g ∧ Rg X.P X.own C X.w0 g st a w ∧ RV g w v x
def SemOp (X : Ctx) (o : Oper) (K : St → Prop) (E : AV → St → Prop) (st : St) : Prop :=
  ∀ (a : Act) (w : World) (Q : Exit → Act → World → Prop), Rw X st a w → (∀ v w' st' x, RwV X st' a w' v x → E x st' → Q (.panic [{ v := v, recovered := false }]) a w') →
    o.wp X.P a w (fun a' w' => ∃ st', Rw X st' a' w' ∧ K st') Q
section
variable {X : Ctx} {st : St} {a : Act} {w : World} {K : St → Prop} {E : AV → St → Prop}
theorem SemOp.of_rel {o : Oper} {st' : St} (h : ∀ C g a w, st.n = X.n → Rg X.P X.own C X.w0 g st a w → Does X.P o a w fun a' w' => Rel X.P X.own C X.w0 g st' a' w') (hn : st'.n = st.n ∧ st'.gl = st.gl) (hK : K st') : SemOp X o K E st := by
  intro a w Q hR _
  obtain ⟨C, g, h1, h2, h3, h4, h5, hg⟩ := hR
  refine Does.wp ?_ Q
  rcases h C g a w h3 hg with ⟨v, w', e, g', u, hr⟩ | ⟨w', e, g', u, hr⟩
  · exact .inl ⟨v, w', e, st', ⟨C, g', h1, h2, hn.1.trans h3, hn.2.trans h4, h5.step u, hr⟩, hK⟩
  · exact .inr ⟨w', e, st', ⟨C, g', h1, h2, hn.1.trans h3, hn.2.trans h4, h5.step u, hr⟩, hK⟩
theorem put_n (st : St) (d : Option Nat) (x : AV) : (st.put d x).n = st.n := by cases d <;> rfl
theorem put_gl (st : St) (d : Option Nat) (x : AV) : (st.put d x).gl = st.gl := by cases d <;> rfl
theorem sem_quiet {o : Oper} (hn : ∀ d, o.dst = some d → d < X.n) {z : AV} (hz : qev X.P st o = some z) (hK : K (st.put o.dst z)) : SemOp X o K E st := by
  refine .of_rel (fun C g a w e h => ?_) ⟨put_n _ _ _, put_gl _ _ _⟩ hK
  obtain ⟨v, e1, e2⟩ := qev_sound h hz
  exact .inl ⟨v, w, e1, g, .refl g, h.put (fun t e' => by rw [e]; exact hn t e') e2⟩
theorem sem_assign {o : Oper} {x : Operand} {d : Nat} (ho : o.op = .assign x) (hd : o.dst = some d) (hn : d < X.n) (hK : K (asgSt X.P o.type d (ev st x) st)) : SemOp X o K E st := by
  refine .of_rel (fun _ _ _ _ e h => asg_sound h ho hd (e ▸ hn)) ?_ hK
  unfold asgSt
  split
  · exact ⟨rfl, rfl⟩
  · split
    · split <;> exact ⟨rfl, rfl⟩
    · exact ⟨rfl, rfl⟩
theorem boxSt_n {P : Program} {T : TypeId} {d : Nat} {cs : List AV} : (boxSt P T d cs st).n = st.n ∧ (boxSt P T d cs st).gl = st.gl := by
  unfold boxSt
  simp only [canon_n, put_n, put_gl, St.setO, setNils_n]
  exact ⟨rfl, rfl⟩
theorem sem_box {o : Oper} {T : TypeId} {x : Operand} {d : Nat} {cs : List AV} (ho : o.op = .box T x) (hd : o.dst = some d) (hn : d < X.n) (hq : (ev st x).cells = some cs) (hz : cs.length = tsz X.P T) (hK : K (boxSt X.P T d cs st)) : SemOp X o K E st :=
  .of_rel (fun _ _ _ _ e h => box_sound h ho hd (e ▸ hn) hq hz) boxSt_n hK
theorem sem_alloc {o : Oper} {T : TypeId} {d : Nat} {zs : List AV} (ho : o.op = .alloc T) (hd : o.dst = some d) (hn : d < X.n) (hq : zvals X.P T = some zs) (hK : K (boxSt X.P T d zs st)) : SemOp X o K E st :=
  .of_rel (fun _ _ _ _ e h => alloc_sound h ho hd (e ▸ hn) hq) boxSt_n hK
theorem stoSt_n {P : Program} {T : TypeId} {n : Nm} {z i off : Nat} {v0 : List AV} {rows : List (List AV)} {vals : List AV} : (stoSt n z i off rows vals (stoK P T n i off v0 st)).n = st.n ∧ (stoSt n z i off rows vals (stoK P T n i off v0 st)).gl = st.gl := by
  unfold stoSt stoK
  simp only [canon_n, St.setO, addNils_n]
  exact ⟨trivial, trivial⟩
theorem sem_store {o : Oper} {T : TypeId} {p x : Operand} {n : Nm} {z i off : Nat} {v0 v1 : List AV} {rows : List (List AV)} (ho : o.op = .store T p x) (hd : o.dst = none) (hT : (X.P.info? T).isSome)
    (hv0 : (ev st x).cells = some v0) (hlen : v0.length = tsz X.P T) (hp0 : pl (ev st p) = some (n, i, off)) (hp1 : pl (ev (stoK X.P T n i off v0 st) p) = some (n, i, off)) (hv1 : (ev (stoK X.P T n i off v0 st) x).cells = some v1)
    (hsame : v1.map isNilS = v0.map isNilS) (hrows : rowsAt (stoK X.P T n i off v0 st) (ev (stoK X.P T n i off v0 st) p) = some (z, rows)) (hi : i < rows.length) (hoff : off + v1.length ≤ z)
    (hK : K (stoSt n z i off rows (stoV X.P T n i off v1) (stoK X.P T n i off v0 st))) : SemOp X o K E st :=
  .of_rel (fun _ _ _ _ _ h => sto_sound h ho hd hT hv0 hlen hp0 hp1 hv1 hsame hrows hi hoff) stoSt_n hK
theorem sem_append {o : Oper} {T F : TypeId} {s x : Operand} {d z len : Nat} {n : Nm} {rows0 rows2 : List (List AV)} (ho : o.op = .call { callee := .builtin .append, args := #[s, x], argTypes := #[T, T] }) (hd : o.dst = some d) (hdn : d < X.n)
    (hT : tapp X.P T = some F) (hz : tsz X.P F = z) (hs : ev st s = .hs n z 0 len) (hn : st.hp n = some (.row z rows0)) (hle : len ≤ rows0.length) (hx : srcRows st z (ev st x) = some rows2) (hlen : len + rows2.length ≤ 4294967296)
    (hK : K (apSt d z (len + rows2.length) (some n) (rows0.take len ++ rows2) st)) : SemOp X o K E st :=
  .of_rel (fun _ _ _ _ e h => ap_sound h ho hd (e ▸ hdn) hT hz hs hn hle hx hlen) ⟨rfl, rfl⟩ hK
theorem sem_append0 {o : Oper} {T F : TypeId} {s x : Operand} {d z : Nat} {rows2 : List (List AV)} (ho : o.op = .call { callee := .builtin .append, args := #[s, x], argTypes := #[T, T] }) (hd : o.dst = some d) (hdn : d < X.n)
    (hT : tapp X.P T = some F) (hz : tsz X.P F = z) (hs : ev st s = .sc (.slice none 0 0)) (hx : srcRows st z (ev st x) = some rows2) (hlen : rows2.length ≤ 4294967296)
    (hK : K (apSt d z rows2.length none rows2 st)) : SemOp X o K E st :=
  .of_rel (fun _ _ _ _ e h => ap0_sound h ho hd (e ▸ hdn) hT hz hs hx hlen) ⟨rfl, rfl⟩ hK
theorem sem_make {o : Oper} {T F : TypeId} {x y : Operand} {d l z : Nat} {k k' : IntKind} {zv : List AV} (ho : o.op = .makeSlice T x y) (hd : o.dst = some d) (hn : d < X.n)
    (hx : ev st x = .sc (.int k l)) (hy : ev st y = .sc (.int k' l)) (hE : tapp X.P T = some F) (hz : tsz X.P F = z) (hzv : zvals X.P F = some zv) (hl : l ≤ 4294967296) (hK : K (mkSt d z l zv st)) : SemOp X o K E st :=
  .of_rel (fun _ _ _ _ e h => mk_sound h ho hd (e ▸ hn) hx hy hE hz hzv hl) ⟨rfl, rfl⟩ hK
theorem bsSt_n {P : Program} {F : TypeId} {d z : Nat} {rows : List (List AV)} : (bsSt P F d z rows st).n = st.n ∧ (bsSt P F d z rows st).gl = st.gl := by
  unfold bsSt
  simp only [canon_n, put_n, put_gl, St.setO, setNils_n]
  exact ⟨rfl, rfl⟩
theorem sem_build {o : Oper} {T F : TypeId} {d len z : Nat} {parts : Array (Nat × Operand)} {rows : List (List AV)} (ho : o.op = .buildSlice T len parts) (hd : o.dst = some d) (hn : d < X.n)
    (hE : tapp X.P T = some F) (hz : tsz X.P F = z) (hrows : rowsOf st parts.toList = some rows) (c1 : parts.toList.map (·.1) = List.range len) (c2 : len * z ≤ 16777216) (c3 : rows.all (fun r => r.length == z) = true) (hK : K (bsSt X.P F d z rows st)) : SemOp X o K E st :=
  .of_rel (fun _ _ _ _ e h => bs_sound h ho hd (e ▸ hn) hE hz hrows c1 c2 c3) bsSt_n hK
theorem sem_map {o : Oper} {T : TypeId} {d : Nat} (ho : o.op = .makeMap T none) (hd : o.dst = some d) (hn : d < X.n) (hK : K (mpSt d st)) : SemOp X o K E st :=
  .of_rel (fun _ _ _ _ e h => mp_sound h ho hd (e ▸ hn)) ⟨rfl, rfl⟩ hK
theorem sem_mapUpdate {o : Oper} {T e : TypeId} {m key x : Operand} {k : IntKind} {i : Int} {n : Nm} {es : List (AV × AV)} (ho : o.op = .mapUpdate T m key x ∨ o.op = .insert T m key x) (hd : o.dst = none) (ht : tmapI X.P T = some (k, e))
    (hm : ev st m = .mp n) (hk : ev st key = .sc (.int k i)) (hn : st.hp n = some (.map es)) (hks : mkeys k es = true) (hK : K (st.setO n (.map (mset k i (ev st x) es)))) : SemOp X o K E st :=
  .of_rel (fun _ _ _ _ _ h => mup_sound h ho hd ht hm hk hn hks) ⟨rfl, rfl⟩ hK
theorem sem_delete {o : Oper} {T e : TypeId} {m key : Operand} {ts : Array TypeId} {k : IntKind} {i : Int} {n : Nm} {es : List (AV × AV)} (ho : o.op = .call { callee := .builtin .delete, args := #[m, key], argTypes := ts }) (hts : ts[0]? = some T) (hdn : ∀ t, o.dst = some t → t < X.n) (ht : tmapI X.P T = some (k, e))
    (hm : ev st m = .mp n) (hk : ev st key = .sc (.int k i)) (hn : st.hp n = some (.map es)) (hks : mkeys k es = true) (hK : K ((st.setO n (.map (mdel k i es))).put o.dst (.sc (.tuple #[])))) : SemOp X o K E st :=
  .of_rel (fun _ _ _ _ e h => mdl_sound h ho hts (fun t e' => by rw [e]; exact hdn t e') ht hm hk hn hks) ⟨put_n _ _ _, put_gl _ _ _⟩ hK
theorem Rw.mono_put {d : Nat} {v : Value} {x : AV} (h : Rw X st a w) (hd : d < X.n) (hv : ∀ C g, Rg X.P X.own C X.w0 g st a w → RV g w v x) : Rw X (st.put (some d) x) (a.put (some d) v) w := by
  obtain ⟨C, g, h1, h2, h3, h4, h5, hr⟩ := h
  exact ⟨C, g, h1, h2, h3, h4, h5, hr.put (fun t e => by obtain rfl := Option.some.inj e; rw [h3]; exact hd) (hv C g hr)⟩
theorem Rw.move (h : Rw X st a w) (n0 n1 : Nm) (h0 : n0.isU = false ∨ X.ext n0 = false) (h1 : n1.isU = false ∨ X.ext n1 = false) : Rw X (st.move n0 n1) a w := by
  obtain ⟨C, g, e1, e2, e3, e4, e5, hr⟩ := h
  refine ⟨C, _, e1, e2, e3, e4, ?_, hr.move n0 n1⟩
  intro k i j he
  have hne : ∀ m : Nm, m.isU = false ∨ X.ext m = false → Nm.under m (.u k i j) = false := by
    intro m hm
    rcases hm with hm | hm
    · exact under_u hm
    · simp only [Nm.under, decide_eq_false_iff_not]
      rintro rfl
      rw [he] at hm
      cases hm
  have e : Hm.mv n0 n1 (.u k i j) = some (.u k i j) := by simp [Hm.mv, hne n0 h0, hne n1 h1]
  obtain ⟨x1, x2⟩ := Gh.tr_spec (g := g) (fun _ _ _ => mv_inj) e
  obtain ⟨y1, y2⟩ := e5 k i j he
  exact ⟨x1.trans y1, x2.trans y2⟩
theorem Rw.weaken (h : Rw X st a w) (hp' : Nm → Option AO) (sub : ∀ m o, hp' m = some o → st.hp m = some o) : Rw X { tm := st.tm, hp := hp', n := st.n, gl := st.gl } a w := by
  obtain ⟨C, g, e1, e2, e3, e4, e5, hr⟩ := h
  exact ⟨C, g, e1, e2, e3, e4, e5, hr.weaken hp' sub⟩
def St.nilAt (t z : Nat) (st : St) : St := (((st.kill (.s t)).setO (.s t) (.row z []))).put (some t) (.hs (.s t) z 0 0)
theorem put_self (a : Act) (d : Nat) : a.put (some d) (a.tmps.getD d undef) = a := by
  obtain ⟨t, ds⟩ := a
  simp only [Act.put]
  congr 1
  apply Array.ext_getElem?
  intro i
  by_cases h : d = i
  · subst h
    by_cases hs : d < t.size
    · rw [Array.getElem?_setIfInBounds_self_of_lt hs, Array.getElem?_eq_getElem hs]
      simp [Array.getD_eq_getD_getElem?, hs]
    · rw [Array.getElem?_eq_none (by simp; omega), Array.getElem?_eq_none (by omega)]
  · rw [Array.getElem?_setIfInBounds_ne h]
theorem Rw.nilAt (h : Rw X st a w) (t z : Nat) (ht : t < X.n) (hv : st.tm t = .sc (.slice none 0 0)) : Rw X (st.nilAt t z) a w := by
  obtain ⟨C, g, e1, e2, e3, e4, e5, hr⟩ := h
  have hs := hr.slots t
  rw [hv] at hs
  obtain ⟨g', h1, h2, hu, _⟩ := hr.nilO (.s t) z
  refine ⟨C, g', e1, e2, e3, e4, e5.step (hu rfl), ?_⟩
  have := h1.put (d := some t) (v := a.tmps.getD t undef) (x := .hs (.s t) z 0 0) (fun t' e => by obtain rfl := Option.some.inj e; show t < st.n; rw [e3]; exact ht) (by rw [hs.sc_eq]; exact h2)
  rw [put_self] at this
  exact this
end
end Go.Hm
end
