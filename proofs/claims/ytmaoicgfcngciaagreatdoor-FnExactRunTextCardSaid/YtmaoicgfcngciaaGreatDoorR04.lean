/-
  Own texts, joined by mkclaim.py: Hm9.
-/
import Derived.Test.YtmaoicgfcngciaaGreatDoorR03
import Derived.Maps.AppendAt
import Derived.ArgAppend
set_option linter.unusedSimpArgs false
set_option linter.unusedVariables false
set_option maxRecDepth 100000
set_option maxHeartbeats 4000000

section
namespace Go.Hm
open Go Go.RowKit
def tapp (P : Program) (T : TypeId) : Option TypeId :=
  match P.underlying T with
  | some (.slice e) => match P.info? e with
    | some i => match i.zero with
      | some z => if z.cells.size = i.size ∧ 0 < i.size ∧ i.bytes ≤ 32768 then some e else none
      | none => none
    | none => none
  | _ => none
theorem tapp_spec {P : Program} {T e : TypeId} (h : tapp P T = some e) : ∃ i z, P.underlying T = some (.slice e) ∧ P.info? e = some i ∧ i.zero = some z ∧ z.cells.size = i.size ∧ 0 < i.size ∧ i.bytes ≤ 32768 ∧ tsz P e = i.size := by
  unfold tapp at h
  split at h
  · rename_i e' hu
    split at h
    · rename_i i hi
      split at h
      · rename_i z hz
        split at h
        · rename_i hc
          obtain rfl := Option.some.inj h
          exact ⟨i, z, hu, hi, hz, hc.1, hc.2.1, hc.2.2, by simp [tsz, hi]⟩
        · cases h
      · cases h
    · cases h
  · cases h
def srcRows (st : St) (z : Nat) : AV → Option (List (List AV))
  | .sl z' rows => if z' = z then some rows else none
  | .hs n z' lo len => match st.hp n with
    | some (.row z'' rows) => if z' = z ∧ z'' = z ∧ lo + len ≤ rows.length then some ((rows.drop lo).take len) else none
    | _ => none
  | .sc (.slice none 0 0) => some []
  | _ => none
def mkNews (f : Nat → Nat → Value) (m sz : Nat) : List Value := (List.range (m * sz)).map (fun t => f (t / sz) (t % sz))
theorem mkNews_length (f : Nat → Nat → Value) (m sz : Nat) : (mkNews f m sz).length = m * sz := by simp [mkNews]
theorem mkNews_get (f : Nat → Nat → Value) {m sz t : Nat} (h : t < m * sz) : (mkNews f m sz)[t]? = some (f (t / sz) (t % sz)) := by
  simp [mkNews, h]
theorem mkNews_at (f : Nat → Nat → Value) {m sz i j : Nat} (hi : i < m) (hj : j < sz) : (mkNews f m sz)[i * sz + j]? = some (f i j) := by
  have h : i * sz + j < m * sz := by
    have : (i + 1) * sz ≤ m * sz := Nat.mul_le_mul_right _ hi
    rw [Nat.add_mul, Nat.one_mul] at this
    omega
  rw [mkNews_get f h]
  have h1 : (i * sz + j) / sz = i := by
    rw [Nat.add_comm, Nat.add_mul_div_right _ _ (by omega), Nat.div_eq_of_lt hj, Nat.zero_add]
  have h2 : (i * sz + j) % sz = j := by
    rw [Nat.add_comm, Nat.add_mul_mod_self_right, Nat.mod_eq_of_lt hj]
  rw [h1, h2]
def Src (g : Gh) (w : World) (v : Value) (z : Nat) (rows : List (List AV)) : Prop :=
  (∃ ad c, v = .slice ad 0 c ∧ rows = []) ∨ ∃ (ad : Addr) (c : Nat) (news : List Value), v = .slice (some ad) rows.length c ∧ news.length = rows.length * z ∧ (∀ j u, news[j]? = some u → w.cell? (ad.add j) = some u) ∧ (∀ u ∈ news, u.oneCell' = true) ∧
    (∀ r ∈ rows, r.length = z) ∧ ∀ (i : Nat) row, rows[i]? = some row → ∀ (j : Nat) x, row[j]? = some x → RV g w (news.getD (i * z + j) undef) x
section
variable {P : Program} {own : Nat → Prop} {C : Nat → Prop} {w0 : World} {g : Gh} {st : St} {a : Act} {w : World}
theorem Src.make {z : Nat} {rows : List (List AV)} {b o c n : Nat} (f : Nat → Nat → Value) (hn : rows.length = n) (hu : ∀ r ∈ rows, r.length = z)
    (hcell : ∀ i j, i < n → j < z → w.cell? ⟨b, o + i * z + j, none⟩ = some (f i j)) (ho : ∀ i j, i < n → j < z → (f i j).oneCell' = true)
    (hr : ∀ (i : Nat) row, rows[i]? = some row → ∀ (j : Nat) x, row[j]? = some x → RV g w (f i j) x) : Src g w (.slice (some ⟨b, o, none⟩) n c) z rows := by
  subst hn
  have dm : ∀ t, t < rows.length * z → t / z < rows.length ∧ t % z < z ∧ t / z * z + t % z = t := by
    intro t ht
    have hpos : 0 < z := Nat.pos_of_ne_zero (by rintro rfl; simp at ht)
    refine ⟨(Nat.div_lt_iff_lt_mul hpos).2 ht, Nat.mod_lt _ hpos, ?_⟩
    rw [Nat.mul_comm]
    exact Nat.div_add_mod t _
  refine .inr ⟨⟨b, o, none⟩, c, mkNews f rows.length z, rfl, mkNews_length _ _ _, ?_, ?_, hu, ?_⟩
  · intro j u hj
    have hlt : j < rows.length * z := by have := (gS hj).1; rwa [mkNews_length] at this
    rw [mkNews_get f hlt] at hj
    obtain rfl := Option.some.inj hj
    obtain ⟨d1, d2, d3⟩ := dm j hlt
    have := hcell _ _ d1 d2
    rw [Nat.add_assoc, d3] at this
    rw [Addr.add_lit]
    exact this
  · intro u hu'
    obtain ⟨j, hj⟩ := List.getElem?_of_mem hu'
    have hlt : j < rows.length * z := by have := (gS hj).1; rwa [mkNews_length] at this
    rw [mkNews_get f hlt] at hj
    obtain rfl := Option.some.inj hj
    obtain ⟨d1, d2, _⟩ := dm j hlt
    exact ho _ _ d1 d2
  · intro i row hrow j x hx
    have hi := (gS hrow).1
    have hj : j < z := by rw [← hu row (List.mem_of_getElem? hrow)]; exact (gS hx).1
    rw [List.getD_eq_getElem?_getD, mkNews_at f hi hj]
    exact hr i row hrow j x hx
theorem Inv.partAt {hp : Nm → Option AO} (h : Inv own C w0 g hp w) {n : Nm} {b z lo len c : Nat} {rows : List (List AV)} (hn : hp n = some (.row z rows)) (hk : g.φ n = some b) (hle : lo + len ≤ rows.length) :
    Src g w (.slice (some ⟨b, lo * z, none⟩) len c) z ((rows.drop lo).take len) := by
  have ho := h.obj n _ hn
  simp only [OAt, hk] at ho
  obtain ⟨cur, T, h1, h2, h3, h4, h5, h6, h7⟩ := ho
  have bnd : ∀ i j, i < len → j < z → (lo + i) * z + j < rows.length * z := by
    intro i j hi hj
    have : (lo + i + 1) * z ≤ rows.length * z := Nat.mul_le_mul_right _ (by omega)
    rw [Nat.add_mul (lo + i), Nat.one_mul] at this
    omega
  have hcs : rows.length * z ≤ cur.size := by rw [h2]; exact Nat.mul_le_mul_right _ h4
  refine Src.make (fun i j => cur.getD ((lo + i) * z + j) undef) (by rw [List.length_take, List.length_drop]; omega) (fun r hr => h5 r (List.mem_of_mem_drop (List.mem_of_mem_take hr))) ?_ ?_ ?_
  · intro i j hi hj
    have hb := bnd i j hi hj
    rw [show lo * z + i * z + j = (lo + i) * z + j from by rw [Nat.add_mul], cell_of_row w _ _ _ T _ h1]
    have : (lo + i) * z + j < cur.size := by omega
    simp [this]
  · intro i j hi hj
    exact h6 _ (bnd i j hi hj)
  · intro i row hrow j x hx
    rw [List.getElem?_take] at hrow
    split at hrow
    · rw [List.getElem?_drop] at hrow
      exact h7 (lo + i) row hrow j x hx
    · cases hrow
theorem Rg.src (h : Rg P own C w0 g st a w) {v : Value} {x : AV} {z : Nat} {rows : List (List AV)} (hv : RV g w v x) (hs : srcRows st z x = some rows) : Src g w v z rows := by
  unfold srcRows at hs
  split at hs
  · split at hs
    · rename_i hz
      subst hz
      obtain rfl := Option.some.inj hs
      cases hv with
      | slN ad cap => exact .inl ⟨ad, cap, rfl, rfl⟩
      | slC b off cap n _ rows f hC hn hcap hu hcell ho hr => exact Src.make f hn hu hcell ho hr
    · cases hs
  · split at hs
    · rename_i z'' rows' hn
      split at hs
      · rename_i hc
        obtain ⟨hz1, hz2, hle⟩ := hc
        subst hz1
        obtain rfl := Option.some.inj hs
        rw [hz2] at hn
        cases hv with
        | hsN => exact .inl ⟨none, 0, rfl, by simp⟩
        | hsB _ _ _ _ b cap ad hk h1 h2 h3 =>
          by_cases h0 : 0 < cap
          · rw [h3 h0]
            exact h.inv.partAt hn hk hle
          · have h9 := h1
            rw [Nat.eq_zero_of_not_pos h0, Nat.le_zero] at h9
            subst h9
            exact .inl ⟨ad, cap, rfl, by simp⟩
      · cases hs
    · cases hs
  · obtain rfl := Option.some.inj hs
    rw [hv.sc_eq]
    exact .inl ⟨none, 0, rfl, rfl⟩
  · cases hs
theorem run_append_here {t ty e : TypeId} {i : TypeInfo} (ht : P.underlying t = some (.slice e)) (hi : P.info? e = some i) (b off sLen sCap : Nat) (cur : Array Value) (T : TypeId) (hg : w.heap[b]? = some (.cells cur T (0, 0)))
    (ad : Addr) (m c : Nat) (news : List Value) (hl : news.length = m * i.size) (hnews : ∀ j u, news[j]? = some u → w.cell? (ad.add j) = some u) (h1 : ∀ u ∈ news, u.oneCell' = true)
    (hroom : sLen + m ≤ sCap) (hfit : off + sLen * i.size + news.length ≤ cur.size) :
    (Builtin.append_ #[t, t] ty #[.slice (some ⟨b, off, none⟩) sLen sCap, .slice (some ad) m c]).run P w =
      .ok (.slice (some ⟨b, off, none⟩) (sLen + m) sCap) (w.setRow b (cur.toList.take (off + sLen * i.size) ++ news ++ cur.toList.drop (off + sLen * i.size + news.length)).toArray) := by
  have hf := run_firstCells_some (P := P) w i.size m ad m c news hl hnews
  have hst := run_storeCells_at P b (off + sLen * i.size) T news 0 cur w hg (by simpa using hfit) h1
  simp only [Nat.add_zero] at hst
  simp [Builtin.append_, run_underlying ht, sizeOf, typeInfo, hi, Builtin.lenOf, hroom, hf, Addr.add_lit, hst]
theorem run_append_nothing' {t ty e : TypeId} {i : TypeInfo} (ht : P.underlying t = some (.slice e)) (hi : P.info? e = some i) (base ad : Option Addr) (n cap c : Nat) (hle : n ≤ cap) :
    (Builtin.append_ #[t, t] ty #[.slice base n cap, .slice ad 0 c]).run P w = .ok (.slice base n cap) w := by
  cases ad with
  | none => cases base <;> simp [Builtin.append_, run_underlying ht, sizeOf, typeInfo, hi, Builtin.lenOf, Builtin.firstCells, hle, storeCells]
  | some ad => cases base <;> simp [Builtin.append_, run_underlying ht, sizeOf, typeInfo, hi, Builtin.lenOf, Builtin.firstCells, hle, storeCells, loadCells, loadCellsFrom]
def St.apd (st : St) (d : Nat) (n : Option Nm) : St := st.nm (kl (.s d)) (fun m => if n = some m then none else hkl (.s d) st.hp m)
def apSt (d z len : Nat) (n : Option Nm) (rows : List (List AV)) (st : St) : St :=
  ((st.apd d n).setO (.s d) (.row z (rows.map (fun r => r.map (AV.tr (kl (.s d))))))).put (some d) (.hs (.s d) z 0 len)
theorem apd_eq {d : Nat} {n : Option Nm} : st.nm (kl (.s d)) (fun m => if (decide (n = some m)) then none else hkl (.s d) st.hp m) = st.apd d n := by
  simp [St.apd]
theorem Rg.apDone (h : Rg P own C w0 g st a w) {d z len b cap : Nat} {n : Option Nm} {rows : List (List AV)} {w' : World} {ad : Option Addr} (hn : d < st.n)
    (h1 : w'.os = w.os) (h2 : w'.tape = w.tape) (h3 : w'.output = w.output) (h4 : w.heap.size ≤ w'.heap.size) (hw : ∀ b', b' ≠ b → b' < w.heap.size → w'.heap[b']? = w.heap[b']?)
    (hb : w.heap.size ≤ b ∨ ∃ m o, n = some m ∧ st.hp m = some o ∧ g.φ m = some b) (hlt : b < w'.heap.size) (hcap : len ≤ cap) (had : 0 < cap → ad = some ⟨b, 0, none⟩)
    (ho : RowAt (g.fresh (.s d) (some b) cap) w' b cap z (rows.map (fun r => r.map (AV.tr (kl (.s d)))))) :
    Rel P own C w0 g (apSt d z len n rows st) (a.put (some d) (.slice ad len cap)) w' := by
  have hm := h.made (.s d) (.row z (rows.map (fun r => r.map (AV.tr (kl (.s d)))))) b cap w' [] (by simp) (fun m => decide (n = some m)) h1 h2 h3 h4 (by
    rcases hb with hb | ⟨m, o, e1, e2, e3⟩
    · exact .inl hb
    · exact .inr ⟨m, o, by simp [e1], e2, e3⟩) hlt hw (by simp only [OAt, (fresh_self (g := g) (.s d) (some b) cap).1, (fresh_self (g := g) (.s d) (some b) cap).2]; exact ho)
  simp only [St.setNils, apd_eq] at hm
  exact ⟨_, .fresh rfl, hm.put (d := some d) (fun t e => by obtain rfl := Option.some.inj e; exact hn) (.hsB (.s d) z 0 len b cap ad (fresh_self _ _ _).1 hcap (by simp [(fresh_self (g := g) (.s d) (some b) cap).2]) (fun h0 => by rw [had h0]; simp))⟩
theorem Rg.apNil (h : Rg P own C w0 g st a w) {d z : Nat} {n : Option Nm} (hn : d < st.n) : Rel P own C w0 g (apSt d z 0 n [] st) (a.put (some d) (.slice none 0 0)) w := by
  obtain ⟨g', h1, h2, hu, _⟩ := h.nilO (.s d) z
  have h3 := h1.weaken (apSt d z 0 n [] st).hp (fun m o e => by
    simp only [apSt, St.put, St.setO, St.apd, St.nm] at e
    simp only [St.setO, St.kill, St.nm]
    split at e
    · rename_i e'; rw [if_pos e']; exact e
    · rename_i e'
      rw [if_neg e']
      split at e
      · cases e
      · exact e)
  exact ⟨g', hu rfl, h3.put (d := some d) (fun t e => by obtain rfl := Option.some.inj e; exact hn) h2⟩
theorem rowAt_app (h : Rg P own C w0 g st a w) {d z len m b cap : Nat} {T : TypeId} {w' : World} {cur' : Array Value} {old : Nat → Value} {news : List Value} {rows1 rows2 : List (List AV)} (hC' : ∀ b', C b' → w'.heap[b']? = w.heap[b']?)
    (l1 : rows1.length = len) (u1 : ∀ r ∈ rows1, r.length = z) (o1 : ∀ j, j < len * z → (old j).oneCell' = true) (r1 : ∀ (i : Nat) row, rows1[i]? = some row → ∀ (j : Nat) x, row[j]? = some x → RV g w (old (i * z + j)) x)
    (l2 : rows2.length = m) (u2 : ∀ r ∈ rows2, r.length = z) (ln : news.length = m * z) (o2 : ∀ u ∈ news, u.oneCell' = true) (r2 : ∀ (i : Nat) row, rows2[i]? = some row → ∀ (j : Nat) x, row[j]? = some x → RV g w (news.getD (i * z + j) undef) x)
    (hheap : w'.heap[b]? = some (.cells cur' T (0, 0))) (hsz : cur'.size = cap * z) (hmax : cap ≤ maxLen) (hle : len + m ≤ cap)
    (g1 : ∀ j, j < len * z → cur'.getD j undef = old j) (g2 : ∀ j, j < m * z → cur'.getD (len * z + j) undef = news.getD j undef) :
    RowAt (g.fresh (.s d) (some b) cap) w' b cap z ((rows1 ++ rows2).map (fun r => r.map (AV.tr (kl (.s d))))) := by
  refine ⟨cur', T, hheap, hsz, hmax, by simp; omega, ?_, ?_, ?_⟩
  · intro r hr
    obtain ⟨r0, h0, rfl⟩ := List.mem_map.1 hr
    rw [List.length_map]
    rcases List.mem_append.1 h0 with h0 | h0
    · exact u1 r0 h0
    · exact u2 r0 h0
  · intro j hj
    simp only [List.length_map, List.length_append, l1, l2, Nat.add_mul] at hj
    by_cases hlt : j < len * z
    · rw [g1 j hlt]; exact o1 j hlt
    · have : j = len * z + (j - len * z) := by omega
      rw [this, g2 _ (by omega)]
      have hl : j - len * z < news.length := by omega
      rw [List.getD_eq_getElem?_getD, gE hl]
      exact o2 _ (List.getElem_mem hl)
  · intro i row hrow j x hx
    rw [List.getElem?_map] at hrow
    obtain ⟨r0, h0, rfl⟩ := Option.map_eq_some_iff.1 hrow
    rw [List.getElem?_map] at hx
    obtain ⟨x0, hx0, rfl⟩ := Option.map_eq_some_iff.1 hx
    rw [List.getElem?_append] at h0
    by_cases hlt : i < rows1.length
    · rw [if_pos hlt] at h0
      have hj : j < z := by rw [← u1 r0 (List.mem_of_getElem? h0)]; exact (gS hx0).1
      have h5 : (i + 1) * z ≤ len * z := Nat.mul_le_mul_right _ (by omega)
      rw [Nat.add_mul, Nat.one_mul] at h5
      rw [g1 _ (by omega)]
      exact h.rvFresh hC' (r1 i r0 h0 j x0 hx0)
    · rw [if_neg hlt] at h0
      have hj : j < z := by rw [← u2 r0 (List.mem_of_getElem? h0)]; exact (gS hx0).1
      have hi : i - rows1.length < m := by rw [← l2]; exact (gS h0).1
      have h5 : (i - rows1.length + 1) * z ≤ m * z := Nat.mul_le_mul_right _ hi
      rw [Nat.add_mul, Nat.one_mul] at h5
      have e : i * z + j = len * z + ((i - rows1.length) * z + j) := by
        rw [Nat.sub_mul, l1]
        have : len * z ≤ i * z := Nat.mul_le_mul_right _ (by omega)
        omega
      rw [e, g2 _ (by omega)]
      exact h.rvFresh hC' (r2 _ r0 h0 j x0 hx0)
theorem ap_core {T ty E : TypeId} {z len : Nat} {n : Nm} {d : Nat} {v v2 : Value} {rows0 rows2 : List (List AV)} (h : Rg P own C w0 g st a w) (hd : d < st.n) (hT : tapp P T = some E) (hz : tsz P E = z)
    (hv : RV g w v (.hs n z 0 len)) (hn : st.hp n = some (.row z rows0)) (hle : len ≤ rows0.length) (hlen : len + rows2.length ≤ 4294967296) (hs : Src g w v2 z rows2) :
    ∃ v' w', (Builtin.append_ #[T, T] ty #[v, v2]).run P w = .ok v' w' ∧ Rel P own C w0 g (apSt d z (len + rows2.length) (some n) (rows0.take len ++ rows2) st) (a.put (some d) v') w' := by
  obtain ⟨i, zv, t1, t2, t3, t4, t5, t6, t7⟩ := tapp_spec hT
  have hiz : i.size = z := t7.symm.trans hz
  have hbytes : (len + rows2.length) * i.bytes ≤ 140737488355328 := by
    have := Nat.mul_le_mul hlen t6
    omega
  have ho := h.inv.obj n _ hn
  cases hv with
  | hsN _ _ hk =>
    simp only [OAt, hk] at ho
    subst ho
    rcases hs with ⟨ad, c, rfl, rfl⟩ | ⟨ad, c, news, rfl, e2, e3, e4, e5, e6⟩
    · exact ⟨.slice none 0 0, w, run_append_nothing' t1 t2 none ad 0 0 c (Nat.le_refl _), h.apNil hd⟩
    · by_cases hm : rows2.length = 0
      · obtain rfl := List.eq_nil_of_length_eq_zero hm
        exact ⟨.slice none 0 0, w, run_append_nothing' t1 t2 none (some ad) 0 0 c (Nat.le_refl _), h.apNil hd⟩
      · obtain ⟨v', w', hrun, r1, r2, _, r4⟩ := run_append_own_at (P := P) w 0 T ty E i zv z i.bytes t1 t2 t3 hiz rfl (t4.trans hiz) (by omega) (.slice none 0 0) 0 [] ⟨by simp, .inl ⟨rfl, rfl⟩⟩ ad rows2.length c news e2 e3 e4 (by simp only [maxLen]; omega) hbytes (Nat.zero_le _)
        rcases r1.2 with ⟨_, h0⟩ | ⟨b, cap, cur, rfl, _, q1, q2, q3, q4, q5⟩
        · omega
        · have hb : b = w.heap.size := by
            rcases r4 with r4 | r4 <;> simp [Value.ownBlock] at r4
            exact r4
          subst hb
          have hC' : ∀ b', C b' → w'.heap[b']? = w.heap[b']? := fun b' hC => r2.block b' (h.inv.clt b' hC) (by simp [Value.ownBlock])
          refine ⟨_, w', hrun, h.apDone (b := w.heap.size) hd r2.os r2.tape r2.output r2.size (fun b' _ hb' => r2.block b' hb' (by simp [Value.ownBlock])) (.inl (Nat.le_refl _)) (Array.getElem?_eq_some_iff.1 q1).1 q2 (fun _ => rfl) ?_⟩
          have := rowAt_app h (d := d) (z := z) (len := 0) (m := rows2.length) (old := fun _ => undef) (news := news) (rows1 := []) (rows2 := rows2) hC' (by simp) (by simp) (by simp) (by simp) rfl e5 e2 e4 e6 q1 q4 q3 q2 (by simp) (fun j hj => by
            simp only [Nat.zero_mul, Nat.zero_add, List.nil_append] at q5 ⊢
            rw [← q5, List.getD_eq_getElem?_getD, List.getElem?_take, if_pos hj, Array.getElem?_toList, Array.getD_eq_getD_getElem?])
          simpa using this
  | hsB _ _ _ _ b cap ad0 hk g1 g2 g3 =>
    rw [Nat.zero_add] at g2
    have hblk := h.inv.blk n _ b hn hk
    simp only [OAt, hk, ← g2] at ho
    obtain ⟨cur, U, c1, c2, c3, c4, c5, c6, c7⟩ := ho
    have hrl : len * z ≤ rows0.length * z := Nat.mul_le_mul_right _ hle
    have hrc : rows0.length * z ≤ cap * z := Nat.mul_le_mul_right _ c4
    have base : ∀ (w' : World) (m b' cap' : Nat) (cur' : Array Value) (U' : TypeId) (news : List Value) (rows2 : List (List AV)), (∀ b', C b' → w'.heap[b']? = w.heap[b']?) → rows2.length = m → (∀ r ∈ rows2, r.length = z) → news.length = m * z → (∀ u ∈ news, u.oneCell' = true) →
        (∀ (i : Nat) row, rows2[i]? = some row → ∀ (j : Nat) x, row[j]? = some x → RV g w (news.getD (i * z + j) undef) x) → w'.heap[b']? = some (.cells cur' U' (0, 0)) → cur'.size = cap' * z → cap' ≤ maxLen → len + m ≤ cap' →
        (∀ j, j < len * z → cur'.getD j undef = cur.getD j undef) → (∀ j, j < m * z → cur'.getD (len * z + j) undef = news.getD j undef) →
        RowAt (g.fresh (.s d) (some b') cap') w' b' cap' z ((rows0.take len ++ rows2).map (fun r => r.map (AV.tr (kl (.s d))))) := by
      intro w' m b' cap' cur' U' news rows2 hC' x1 x2 x3 x4 x5 x6 x7 x8 x9 x10 x11
      refine rowAt_app h (m := m) (old := fun j => cur.getD j undef) (news := news) hC' (by rw [List.length_take]; omega) (fun r hr => c5 r (List.mem_of_mem_take hr)) (fun j hj => c6 j (by omega)) (fun i row hrow j x hx => ?_) x1 x2 x3 x4 x5 x6 x7 x8 x9 x10 x11
      rw [List.getElem?_take] at hrow
      split at hrow
      · exact c7 i row hrow j x hx
      · cases hrow
    have nothing : ∀ ad c, v2 = .slice ad 0 c → rows2 = [] → ∃ v' w', (Builtin.append_ #[T, T] ty #[.slice ad0 len cap, v2]).run P w = .ok v' w' ∧ Rel P own C w0 g (apSt d z (len + rows2.length) (some n) (rows0.take len ++ rows2) st) (a.put (some d) v') w' := by
      rintro ad c rfl rfl
      refine ⟨_, w, run_append_nothing' t1 t2 ad0 ad len cap c g1, ?_⟩
      exact h.apDone (b := b) hd rfl rfl rfl (Nat.le_refl _) (fun _ _ _ => rfl) (.inr ⟨n, _, rfl, hn, hk⟩) hblk.2.2 (by simpa using g1) (fun h0 => by rw [g3 h0]; simp) (base w 0 b cap cur U [] [] (fun _ _ => rfl) rfl (by simp) (by simp) (by simp) (by simp) c1 c2 c3 (by simpa using g1) (fun _ _ => rfl) (by simp))
    rcases hs with ⟨ad, c, e, e'⟩ | ⟨ad, c, news, e1, e2, e3, e4, e5, e6⟩
    · exact nothing ad c e e'
    · by_cases hm : rows2.length = 0
      · exact nothing (some ad) c (by rw [e1, hm]) (List.eq_nil_of_length_eq_zero hm)
      · subst e1
        by_cases hroom : len + rows2.length ≤ cap
        · have h0 : 0 < cap := by omega
          rw [g3 h0]
          have hbound : (len + rows2.length) * z ≤ cap * z := Nat.mul_le_mul_right _ hroom
          rw [Nat.add_mul] at hbound
          have hrun := run_append_here (P := P) (ty := ty) t1 t2 b (0 * z) len cap cur U c1 ad rows2.length c news (by rw [e2, hiz]) e3 e4 hroom (by rw [hiz]; omega)
          rw [hiz] at hrun
          simp only [Nat.zero_mul, Nat.zero_add] at hrun ⊢
          refine ⟨_, _, hrun, ?_⟩
          have hsz' : len * z + news.length ≤ cur.toList.length := by simp; omega
          have hC' : ∀ b', C b' → (w.setRow b (cur.toList.take (len * z) ++ news ++ cur.toList.drop (len * z + news.length)).toArray).heap[b']? = w.heap[b']? := fun b' hC => setRow_other w _ b' _ (fun e => hblk.1 (e ▸ hC))
          refine h.apDone (b := b) hd rfl rfl rfl (by simp) (fun b' hne _ => setRow_other w _ b' _ hne) (.inr ⟨n, _, rfl, hn, hk⟩) (by simpa using hblk.2.2) hroom (fun _ => rfl) ?_
          refine base _ rows2.length b cap _ U news rows2 hC' rfl e5 e2 e4 e6 (setRow_heap w _ _ _ U _ c1) ?_ c3 hroom (fun j hj => ?_) (fun j hj => ?_)
          · simp only [List.size_toArray, List.length_append, List.length_take, List.length_drop, Array.length_toList]
            omega
          · rw [seg_getD _ _ _ hsz', if_neg (by omega)]
            simp
          · rw [seg_getD _ _ _ hsz', if_pos (by omega)]
            congr 1
            omega
        · have hcells : ∀ j u, (cur.toList.take (len * z))[j]? = some u → w.cell? ⟨b, 0 * z + j, none⟩ = some u := by
            intro j u hj
            rw [List.getElem?_take] at hj
            split at hj
            · rw [cell_of_row w _ _ _ U _ c1, Nat.zero_mul, Nat.zero_add, ← Array.getElem?_toList]
              exact hj
            · cases hj
          have hol : (cur.toList.take (len * z)).length = len * z := by rw [List.length_take, Array.length_toList]; omega
          have grow : ∃ v' w', (Builtin.append_ #[T, T] ty #[.slice ad0 len cap, .slice (some ad) rows2.length c]).run P w = .ok v' w' ∧ w'.ownsRow w.heap.size E z v' (len + rows2.length) (cur.toList.take (len * z) ++ news) ∧ w.grownBy w' none := by
            cases ad0 with
            | some b0 =>
              refine run_append_arg_grows (P := P) w T ty E i zv z i.bytes t1 t2 t3 hiz rfl (t4.trans hiz) (by omega) b0 len cap (cur.toList.take (len * z)) hol (fun j u hj => ?_) ad rows2.length c news e2 e3 (by omega) (by simp only [maxLen]; omega) hbytes
              have hlt : j < len * z := by have := (gS hj).1; rwa [hol] at this
              have h0 : 0 < cap := by
                rcases Nat.eq_zero_or_pos cap with e | e
                · have : len = 0 := by omega
                  rw [this] at hlt
                  simp at hlt
                · exact e
              have hb0 : b0 = ⟨b, 0 * z, none⟩ := Option.some.inj (g3 h0)
              rw [hb0, Addr.add_lit]
              exact hcells j u hj
            | none =>
              have h0 : cap = 0 := by
                rcases Nat.eq_zero_or_pos cap with e | e
                · exact e
                · have := g3 e; cases this
              subst h0
              have hl0 : len = 0 := by omega
              subst hl0
              obtain ⟨v', w', hrun, r1, r2, _, r4⟩ := run_append_own_at (P := P) w w.heap.size T ty E i zv z i.bytes t1 t2 t3 hiz rfl (t4.trans hiz) (by omega) (.slice none 0 0) 0 [] ⟨by simp, .inl ⟨rfl, rfl⟩⟩ ad rows2.length c news e2 e3 e4 (by simp only [maxLen]; omega) hbytes (Nat.le_refl _)
              exact ⟨v', w', hrun, by simpa using r1, r2⟩
          obtain ⟨v', w', hrun, r1, r2⟩ := grow
          rcases r1.2 with ⟨_, h0⟩ | ⟨b', cap', cur', rfl, q0, q1, q2, q3, q4, q5⟩
          · omega
          · have hC' : ∀ b', C b' → w'.heap[b']? = w.heap[b']? := fun b' hC => r2.block b' (h.inv.clt b' hC) (by simp)
            refine ⟨_, w', hrun, h.apDone (b := b') hd r2.os r2.tape r2.output r2.size (fun x _ hx => r2.block x hx (by simp)) (.inl q0) (Array.getElem?_eq_some_iff.1 q1).1 q2 (fun _ => rfl) ?_⟩
            have get : ∀ j, j < (len + rows2.length) * z → cur'.getD j undef = (cur.toList.take (len * z) ++ news).getD j undef := by
              intro j hj
              rw [← q5, List.getD_eq_getElem?_getD, List.getElem?_take, if_pos hj, Array.getElem?_toList, Array.getD_eq_getD_getElem?]
            rw [Nat.add_mul] at get
            refine base w' rows2.length b' cap' cur' E news rows2 hC' rfl e5 e2 e4 e6 q1 q4 q3 q2 (fun j hj => ?_) (fun j hj => ?_)
            · rw [get j (by omega), List.getD_eq_getElem?_getD, List.getElem?_append, if_pos (by omega), List.getElem?_take, if_pos hj, Array.getElem?_toList, Array.getD_eq_getD_getElem?]
            · rw [get _ (by omega), List.getD_eq_getElem?_getD, List.getElem?_append, if_neg (by omega), hol, Nat.add_sub_cancel_left, ← List.getD_eq_getElem?_getD]
theorem run_ap_op {o : Oper} {T : TypeId} {s x : Operand} (ho : o.op = .call { callee := .builtin .append, args := #[s, x], argTypes := #[T, T] }) {v' : Value} {w' : World} (e : (Builtin.append_ #[T, T] o.type #[a.eval s, a.eval x]).run P w = .ok v' w') :
    (execOp a.eval o).run P w = .ok (.value v') w' := by
  simp only [execOp, ho, resolve, invoke, builtin, Sem.run_bind, Sem.run_pure, Result.andThen_ok, List.map_toArray, List.map_cons, List.map_nil, e]
theorem ap_sound {o : Oper} {T E : TypeId} {s x : Operand} {d z len : Nat} {n : Nm} {rows0 rows2 : List (List AV)} (h : Rg P own C w0 g st a w) (ho : o.op = .call { callee := .builtin .append, args := #[s, x], argTypes := #[T, T] }) (hd : o.dst = some d) (hdn : d < st.n)
    (hT : tapp P T = some E) (hz : tsz P E = z) (hs : ev st s = .hs n z 0 len) (hn : st.hp n = some (.row z rows0)) (hle : len ≤ rows0.length) (hx : srcRows st z (ev st x) = some rows2) (hlen : len + rows2.length ≤ 4294967296) :
    Does P o a w fun a' w' => Rel P own C w0 g (apSt d z (len + rows2.length) (some n) (rows0.take len ++ rows2) st) a' w' := by
  have hv := h.ev s
  rw [hs] at hv
  obtain ⟨v', w', e1, e2⟩ := ap_core (ty := o.type) h hdn hT hz hv hn hle hlen (h.src (h.ev x) hx)
  exact .inl ⟨v', w', run_ap_op ho e1, by rw [hd]; exact e2⟩
theorem ap0_sound {o : Oper} {T E : TypeId} {s x : Operand} {d z : Nat} {rows2 : List (List AV)} (h : Rg P own C w0 g st a w) (ho : o.op = .call { callee := .builtin .append, args := #[s, x], argTypes := #[T, T] }) (hd : o.dst = some d) (hdn : d < st.n)
    (hT : tapp P T = some E) (hz : tsz P E = z) (hs : ev st s = .sc (.slice none 0 0)) (hx : srcRows st z (ev st x) = some rows2) (hlen : rows2.length ≤ 4294967296) :
    Does P o a w fun a' w' => Rel P own C w0 g (apSt d z rows2.length none rows2 st) a' w' := by
  have hv := h.ev s
  rw [hs] at hv
  have hsrc := h.src (h.ev x) hx
  -- the nil slice, at a name of its own
  obtain ⟨i, zv, t1, t2, t3, t4, t5, t6, t7⟩ := tapp_spec hT
  have hiz : i.size = z := t7.symm.trans hz
  have hbytes : rows2.length * i.bytes ≤ 140737488355328 := by
    have := Nat.mul_le_mul hlen t6
    omega
  have key : ∃ v' w', (Builtin.append_ #[T, T] o.type #[.slice none 0 0, a.eval x]).run P w = .ok v' w' ∧ Rel P own C w0 g (apSt d z rows2.length none rows2 st) (a.put (some d) v') w' := by
    have nothing : ∀ ad c, a.eval x = .slice ad 0 c → rows2 = [] → ∃ v' w', (Builtin.append_ #[T, T] o.type #[.slice none 0 0, a.eval x]).run P w = .ok v' w' ∧ Rel P own C w0 g (apSt d z rows2.length none rows2 st) (a.put (some d) v') w' := by
      rintro ad c e rfl
      rw [e]
      exact ⟨.slice none 0 0, w, run_append_nothing' t1 t2 none ad 0 0 c (Nat.le_refl _), h.apNil hdn⟩
    rcases hsrc with ⟨ad, c, e, e'⟩ | ⟨ad, c, news, e1, e2, e3, e4, e5, e6⟩
    · exact nothing ad c e e'
    · by_cases hm : rows2.length = 0
      · exact nothing (some ad) c (by rw [e1, hm]) (List.eq_nil_of_length_eq_zero hm)
      · rw [e1]
        obtain ⟨v', w', hrun, r1, r2, _, r4⟩ := run_append_own_at (P := P) w 0 T o.type E i zv z i.bytes t1 t2 t3 hiz rfl (t4.trans hiz) (by omega) (.slice none 0 0) 0 [] ⟨by simp, .inl ⟨rfl, rfl⟩⟩ ad rows2.length c news e2 e3 e4 (by simp only [maxLen]; omega) (by simpa using hbytes) (Nat.zero_le _)
        rcases r1.2 with ⟨_, h0⟩ | ⟨b, cap, cur, rfl, _, q1, q2, q3, q4, q5⟩
        · omega
        · have hb : b = w.heap.size := by
            rcases r4 with r4 | r4 <;> simp [Value.ownBlock] at r4
            exact r4
          subst hb
          have hC' : ∀ b', C b' → w'.heap[b']? = w.heap[b']? := fun b' hC => r2.block b' (h.inv.clt b' hC) (by simp [Value.ownBlock])
          rw [Nat.zero_add] at hrun q2
          refine ⟨_, w', hrun, h.apDone (b := w.heap.size) hdn r2.os r2.tape r2.output r2.size (fun b' _ hb' => r2.block b' hb' (by simp [Value.ownBlock])) (.inl (Nat.le_refl _)) (Array.getElem?_eq_some_iff.1 q1).1 q2 (fun _ => rfl) ?_⟩
          have := rowAt_app h (d := d) (z := z) (len := 0) (m := rows2.length) (old := fun _ => undef) (news := news) (rows1 := []) (rows2 := rows2) hC' (by simp) (by simp) (by simp) (by simp) rfl e5 e2 e4 e6 q1 q4 q3 (by simpa using q2) (by simp) (fun j hj => by
            simp only [Nat.zero_mul, Nat.zero_add, List.nil_append] at q5 ⊢
            rw [← q5, List.getD_eq_getElem?_getD, List.getElem?_take, if_pos hj, Array.getElem?_toList, Array.getD_eq_getD_getElem?])
          simpa using this
  obtain ⟨v', w', e1, e2⟩ := key
  refine .inl ⟨v', w', run_ap_op ho ?_, by rw [hd]; exact e2⟩
  rw [hv.sc_eq]
  exact e1
end
end Go.Hm
end
