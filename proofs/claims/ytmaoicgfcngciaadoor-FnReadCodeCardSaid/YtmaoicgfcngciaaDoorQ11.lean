/-
  Own texts, joined by mkclaim.py: Hm64, Hm65, Hm66, Hm67, Hm70, Hm71, Hm72, Hm73, Hm74, Hm75, Hm76, Hm77, Hm78, Hm79, Hm81, Hm82, Hm84, Hm85.
-/
import Derived.Test.YtmaoicgfcngciaaDoorQ10
import Derived.Test.YtmaoicgfcngciaaDoorQ09
import Derived.ChangeVars
set_option linter.unusedSimpArgs false
set_option linter.unusedVariables false
set_option maxRecDepth 100000
set_option maxHeartbeats 4000000

section
namespace Go.Hm
open Go Go.RowKit
theorem placeIn_at {xs : List Int} {x : Int} (h : x ∈ xs) : ∃ i : Nat, placeIn xs x = i ∧ i < xs.length ∧ xs[i]? = some x := by
  have h0 := placeIn_nonneg.2 h
  unfold placeIn at h0 ⊢
  cases hf : xs.findIdx? (· == x) with
  | none => rw [hf] at h0; simp at h0
  | some i =>
    obtain ⟨h1, h2, _⟩ := List.findIdx?_eq_some_iff_getElem.1 hf
    refine ⟨i, rfl, h1, ?_⟩
    rw [gE h1]
    simpa using h2
theorem outerF_local {p : Prg} {x : Int} {b : Nat} : ∀ (n : Nat) (j : Int), outerF p x n j = b → ∃ k, p[b]? = some k ∧ isLocal b k x = true ∧ x ∉ k.dc 9
  | 0, _, h => by simp only [outerF] at h; omega
  | n + 1, j, h => by
    simp only [outerF] at h
    split at h
    · omega
    · split at h
      · omega
      · rename_i q hq
        split at h
        · exact outerF_local n _ h
        · split at h
          · omega
          · rename_i hd
            split at h
            · rename_i hl
              have hj : j.toNat = b := by omega
              rw [hj] at hq hl
              exact ⟨q, hq, hl, hd⟩
            · exact outerF_local n _ h
theorem owner_local {p : Prg} {x : Int} {b c : Nat} (h : owner p c x = b) : ∃ k, p[b]? = some k ∧ isLocal b k x = true ∧ x ∉ k.dc 9 := by
  unfold owner at h
  split at h
  · rename_i k hk
    split at h
    · omega
    · rename_i h0
      split at h
      · rename_i hl
        obtain rfl : c = b := by omega
        exact ⟨k, hk, hl, fun hd => h0 (.inr hd)⟩
      · unfold outer at h
        split at h
        · exact outerF_local _ _ h
        · omega
  · omega
theorem owner_self {p : Prg} {x : Int} {b : Nat} {k : Blk} (hk : p[b]? = some k) (hl : isLocal b k x = true) (hd : x ∉ k.dc 9) : owner p b x = b := by
  have hb : b ≠ 0 := by
    rintro rfl
    simp [isLocal] at hl
  simp [owner, hk, hl, hd, hb]
theorem outerF_le {p : Prg} {x : Int} (hh : Heads p) : ∀ (n : Nat) (j : Int), outerF p x n j = -1 ∨ outerF p x n j ≤ j
  | 0, _ => .inl rfl
  | n + 1, j => by
    simp only [outerF]
    split
    · exact .inl rfl
    · split
      · exact .inl rfl
      · rename_i q hq
        have h1 := (hh _ q hq).2.1
        have ih := outerF_le hh (x := x) n q.parent
        split
        · rcases ih with e | e
          · exact .inl e
          · exact .inr (by omega)
        · split
          · exact .inl rfl
          · split
            · exact .inr (Int.le_refl _)
            · rcases ih with e | e
              · exact .inl e
              · exact .inr (by omega)
theorem owner_lt {p : Prg} {x : Int} {b : Nat} {k : Blk} (hh : Heads p) (hk : p[b]? = some k) (h : owner p b x ≠ b) : owner p b x < b := by
  unfold owner at h ⊢
  rw [hk] at h ⊢
  simp only at h ⊢
  split at h <;> rename_i h0
  · rw [if_pos h0]; omega
  · rw [if_neg h0]
    split at h <;> rename_i h1
    · exact absurd rfl h
    · rw [if_neg h1]
      simp only [outer, hk]
      have h2 := (hh _ k hk).2.1
      rcases outerF_le hh (x := x) b k.parent with e | e <;> omega
theorem symOf_bd {p : Prg} {b : Nat} {x : Int} : 0 ≤ symOf p b x ∧ symOf p b x ≤ 4 := by
  unfold symOf
  repeat' split
  all_goals decide
theorem sym_cell {p : Prg} {b : Nat} {x : Int} (h : symOf p b x = 3) : x ∈ cellsL p b := by
  unfold symOf at h
  split at h
  · omega
  · split at h
    · omega
    · split at h
      · omega
      · split at h
        · assumption
        · omega
theorem sym_fast {p : Prg} {b : Nat} {k : Blk} {x : Int} (hp : ShapeP p) (hk : p[b]? = some k) (hx : 0 ≤ x ∧ x ≤ 7) (h : symOf p b x = 4) : x ∈ fastsL p b := by
  have hka : kindAt p b = k.kind := by simp [kindAt, hk]
  unfold symOf at h
  split at h
  · omega
  · rename_i h1
    split at h
    · omega
    · rename_i h2
      split at h
      · omega
      · rename_i h3
        split at h
        · omega
        · rename_i h4
          have ho : owner p b x = b := by omega
          have hb : 0 < b := by
            rcases owner_pos (p := p) (c := b) (x := x) with e | e <;> omega
          obtain ⟨k', hk', hl, _⟩ := owner_local ho
          obtain rfl : k = k' := Option.some.inj (hk.symm.trans hk')
          have hhd := hp.head b k hk
          unfold HeadOk at hhd
          rw [if_neg (by omega)] at hhd
          have hk1 : kindAt p b = 1 := by omega
          unfold fastsL
          rw [if_pos hk1, mem_picked]
          refine ⟨x.toNat, by omega, ?_, by omega⟩
          have e : ((x.toNat : Nat) : Int) = x := by omega
          simp only [fastIn, hk, e, hl, h4, decide_false, Bool.not_false, Bool.and_self]
theorem sym_free {p : Prg} {b : Nat} {k : Blk} {x : Int} (hp : ShapeP p) (hk : p[b]? = some k) (hu : x ∈ k.us) (h : symOf p b x = 1) : x ∈ freesL p b ∧ x ∉ cellsL p b := by
  have hbl := (gS hk).1
  have hx : 0 ≤ x ∧ x ≤ 7 := by
    rw [Blk.us, mem_sorted] at hu
    exact hu.2
  unfold symOf at h
  split at h
  · omega
  · rename_i h1
    split at h
    rotate_left
    · split at h
      · omega
      · split at h <;> omega
    · rename_i h2
      have hpos : 0 < owner p b x := by
        rcases owner_pos (p := p) (c := b) (x := x) with e | e <;> omega
      have hlt := owner_lt hp.heads hk h2
      refine ⟨?_, fun hc => h2 ?_⟩
      · unfold freesL freesRaw
        rw [mem_sorted, mem_joined]
        refine ⟨⟨0, by omega, ?_⟩, hx⟩
        simp only [Nat.add_zero, freeAt, hk, inside_end (Int.le_refl _), decide_true, if_true, List.mem_filter, freeIn, Bool.and_eq_true, decide_eq_true_eq]
        exact ⟨hu, hpos, hlt⟩
      · unfold cellsL at hc
        split at hc
        · unfold cellsRaw at hc
          rw [mem_sorted, mem_joined] at hc
          obtain ⟨⟨m, _, hm⟩, _⟩ := hc
          unfold cellAt at hm
          split at hm
          · rw [List.mem_filter] at hm
            have ho : owner p (b + 1 + m) x = b := by simpa [cellIn] using hm.2
            obtain ⟨k', hk', hl, hd⟩ := owner_local ho
            exact owner_self hk' hl hd
          · cases hm
        · cases hc
theorem nameOp_sym {p : Prg} {b : Nat} {k : Blk} {x w : Int} (hp : ShapeP p) (hk : p[b]? = some k) (hu : x ∈ k.us) :
    (symOf p b x = 0 ∧ nameOp p b x w = (8 + w, x)) ∨ (symOf p b x = 2 ∧ nameOp p b x w = (11 + w, x)) ∨
    (symOf p b x = 4 ∧ ∃ i : Nat, nameOp p b x w = (2 + w, (i : Int)) ∧ i < (fastsL p b).length ∧ (fastsL p b)[i]? = some x) ∨
    (symOf p b x = 3 ∧ ∃ i : Nat, nameOp p b x w = (5 + w, (i : Int)) ∧ i < (cellsL p b).length ∧ (cellsL p b ++ freesL p b)[i]? = some x) ∨
    (symOf p b x = 1 ∧ ∃ i : Nat, nameOp p b x w = (5 + w, (((cellsL p b).length + i : Nat) : Int)) ∧ i < (freesL p b).length ∧ (cellsL p b ++ freesL p b)[(cellsL p b).length + i]? = some x) := by
  have hx : 0 ≤ x ∧ x ≤ 7 := by
    rw [Blk.us, mem_sorted] at hu
    exact hu.2
  obtain ⟨s0, s4⟩ := symOf_bd (p := p) (b := b) (x := x)
  by_cases e0 : symOf p b x = 0
  · exact .inl ⟨e0, by simp [nameOp, e0]⟩
  by_cases e2 : symOf p b x = 2
  · exact .inr (.inl ⟨e2, by simp [nameOp, e2]⟩)
  by_cases e4 : symOf p b x = 4
  · obtain ⟨i, h1, h2, h3⟩ := placeIn_at (sym_fast hp hk hx e4)
    exact .inr (.inr (.inl ⟨e4, i, by simp [nameOp, e4, h1], h2, h3⟩))
  by_cases e3 : symOf p b x = 3
  · have hc := sym_cell e3
    obtain ⟨i, h1, h2, h3⟩ := placeIn_at hc
    exact .inr (.inr (.inr (.inl ⟨e3, i, by simp [nameOp, e3, cellPl, hc, h1], h2, by rw [List.getElem?_append_left h2]; exact h3⟩)))
  have e1 : symOf p b x = 1 := by omega
  obtain ⟨hf, hc⟩ := sym_free hp hk hu e1
  obtain ⟨i, h1, h2, h3⟩ := placeIn_at hf
  exact .inr (.inr (.inr (.inr ⟨e1, i, by simp [nameOp, e1, cellPl, hc, h1], h2, by rw [List.getElem?_append_right (by omega)]; simpa using h3⟩)))
theorem reads_us {k : Blk} {s : Stm} {x : Int} (hn : NmOk k) (hs : s ∈ k.body) (hx : x ∈ s.reads) : x ∈ k.us := by
  have h1 := hn.reads s hs x hx
  simp only [Blk.us, mem_sorted, List.mem_append, Blk.rd, readsAll, List.mem_flatMap]
  exact ⟨.inl (.inl (.inl ⟨⟨s, hs, hx⟩, h1⟩)), h1⟩
theorem to_us {k : Blk} {s : Stm} (hn : NmOk k) (hs : s ∈ k.body) (h : s.sets ∨ s.kind = 11) : s.to ∈ k.us := by
  have h1 := hn.tos s hs
  simp only [Blk.us, mem_sorted, List.mem_append, Blk.bd, boundAll, List.mem_map, List.mem_filter, decide_eq_true_eq]
  exact ⟨.inl (.inl (.inr ⟨.inr ⟨s, ⟨hs, h⟩, rfl⟩, h1⟩)), h1⟩
theorem orows_snoc {l : List (Int × Int)} {x y : Int} : orows l ++ [[iv x, iv y]] = orows (l ++ [(x, y)]) := by simp [orows]
structure Cod where
  kind : Int
  params : List Int
  fasts : List Int
  cells : List Int
  frees : List Int
  ops : List (Int × Int)
  deriving DecidableEq, Inhabited
def noCode : Cod := ⟨0, [], [], [], [], []⟩
@[simp] theorem noCode_kind : noCode.kind = 0 := rfl
@[simp] theorem noCode_params : noCode.params = [] := rfl
@[simp] theorem noCode_fasts : noCode.fasts = [] := rfl
@[simp] theorem noCode_cells : noCode.cells = [] := rfl
@[simp] theorem noCode_frees : noCode.frees = [] := rfl
@[simp] theorem noCode_ops : noCode.ops = [] := rfl
def codeL (p : Prg) (b : Nat) : Cod := match p[b]? with | some k => ⟨k.kind, k.params, fastsL p b, cellsL p b, freesL p b, opsL p b⟩ | none => noCode
def codeG (p : Prg) (b : Int) : Cod := if blkAt p b = true then codeL p b.toNat else noCode
def codesTo (p : Prg) (n : Nat) : List Cod := (List.range n).map (codeL p)
@[simp] theorem codesTo_zero {p : Prg} : codesTo p 0 = [] := rfl
abbrev Cod.row (c : Cod) : List AV := [iv c.kind, isl c.params, isl c.fasts, isl c.cells, isl c.frees, osl c.ops]
abbrev Cod.av (c : Cod) : AV := .agg c.row
def kcrows (cs : List Cod) : List (List AV) := cs.map Cod.row
abbrev csl (cs : List Cod) : AV := .sl 6 (kcrows cs)
def Cod.own (n : Nm) (i : Nat) (c : Cod) : List AV :=
  [iv c.kind, .hs (.c n i 1) 1 0 c.params.length, .hs (.c n i 2) 1 0 c.fasts.length, .hs (.c n i 3) 1 0 c.cells.length, .hs (.c n i 4) 1 0 c.frees.length, .hs (.c n i 5) 2 0 c.ops.length]
@[simp] theorem Cod.own_eq {n : Nm} {i : Nat} {c : Cod} : c.own n i = [iv c.kind, .hs (.c n i 1) 1 0 c.params.length, .hs (.c n i 2) 1 0 c.fasts.length, .hs (.c n i 3) 1 0 c.cells.length, .hs (.c n i 4) 1 0 c.frees.length, .hs (.c n i 5) 2 0 c.ops.length] := rfl
structure OwnK (hp : Nm → Option AO) (n : Nm) (i : Nat) (c : Cod) : Prop where
  params : hp (.c n i 1) = some (.row 1 (irows c.params))
  fasts : hp (.c n i 2) = some (.row 1 (irows c.fasts))
  cells : hp (.c n i 3) = some (.row 1 (irows c.cells))
  frees : hp (.c n i 4) = some (.row 1 (irows c.frees))
  ops : hp (.c n i 5) = some (.row 2 (orows c.ops))
def kdRows (n : Nm) (cs : List Cod) : List (List AV) := cs.mapIdx fun i c => c.own n i
structure OwnC (hp : Nm → Option AO) (n : Nm) (cs : List Cod) : Prop where
  top : hp n = some (.row 6 (kdRows n cs))
  each : ∀ (i : Nat) c, cs[i]? = some c → OwnK hp n i c
section
variable {cs : List Cod} {i a b d l : Nat} {n q k1 : Nm} {c : Cod}
@[simp] theorem kcrows_len : (kcrows cs).length = cs.length := by simp [kcrows]
@[simp] theorem kcrows_get : (kcrows cs)[i]? = (cs[i]?).map Cod.row := by simp [kcrows]
@[simp] theorem kdRows_len : (kdRows n cs).length = cs.length := by simp [kdRows]
@[simp] theorem kdRows_get : (kdRows n cs)[i]? = (cs[i]?).map (fun c => c.own n i) := by simp [kdRows]
@[simp] theorem kdRows_nil : kdRows n [] = [] := rfl
end
theorem bw_code {hp : Nm → Option AO} {n : Nm} {i : Nat} {c : Cod} (h : OwnK hp n i c) : ∀ (j : Nat) a a', (c.own n i)[j]? = some a → c.row[j]? = some a' → Bw hp noD a a'
  | 0, a, a', ha, ha' => by obtain rfl := Option.some.inj ha; obtain rfl := Option.some.inj ha'; exact .refl _
  | 1, a, a', ha, ha' => by obtain rfl := Option.some.inj ha; obtain rfl := Option.some.inj ha'; exact bw_ints h.params rfl
  | 2, a, a', ha, ha' => by obtain rfl := Option.some.inj ha; obtain rfl := Option.some.inj ha'; exact bw_ints h.fasts rfl
  | 3, a, a', ha, ha' => by obtain rfl := Option.some.inj ha; obtain rfl := Option.some.inj ha'; exact bw_ints h.cells rfl
  | 4, a, a', ha, ha' => by obtain rfl := Option.some.inj ha; obtain rfl := Option.some.inj ha'; exact bw_ints h.frees rfl
  | 5, a, a', ha, ha' => by obtain rfl := Option.some.inj ha; obtain rfl := Option.some.inj ha'; exact bw_ords h.ops rfl
  | j + 6, a, a', ha, _ => by simp [Cod.own] at ha
theorem bw_codeA {hp : Nm → Option AO} {n : Nm} {i : Nat} {c : Cod} (h : OwnK hp n i c) : Bw hp noD (.agg (c.own n i)) c.av := .agg _ _ rfl (bw_code h)
theorem bw_codes {hp : Nm → Option AO} {n : Nm} {len : Nat} {cs : List Cod} (h : OwnC hp n cs) (hl : len = cs.length) : Bw hp noD (.hs n 6 0 len) (csl cs) := by
  subst hl
  refine .hs n 6 0 cs.length (kdRows n cs) (kcrows cs) rfl h.top (by simp) (by simp) (by simp [kcrows]) fun i r r' hr hr' j a a' ha ha' => ?_
  rw [Nat.zero_add, kdRows_get] at hr
  rw [kcrows_get] at hr'
  obtain ⟨x, hx, rfl⟩ := Option.map_eq_some_iff.1 hr
  rw [hx] at hr'
  obtain rfl := Option.some.inj hr'
  exact bw_code (h.each i x hx) j a a' ha ha'
theorem OwnK.hcln {H' : Nm → Option AO} {n : Nm} {i : Nat} {c : Cod} (h : OwnK H' n i c) : OwnK (hcln H') n i c :=
  ⟨hcln_row h.params (by simp), hcln_row h.fasts (by simp), hcln_row h.cells (by simp), hcln_row h.frees (by simp), hcln_row h.ops (by simp)⟩
theorem OwnC.hcln {H' : Nm → Option AO} {n : Nm} {cs : List Cod} (h : OwnC H' n cs) : OwnC (hcln H') n cs := by
  refine ⟨hcln_row h.top ?_, fun i c hc => (h.each i c hc).hcln⟩
  simp only [kdRows, List.all_eq_true]
  intro r hr
  obtain ⟨i, hi⟩ := List.getElem?_of_mem hr
  rw [List.getElem?_mapIdx] at hi
  obtain ⟨x, _, rfl⟩ := Option.map_eq_some_iff.1 hi
  simp [Cod.own]
theorem opsL_len {p : Prg} {b : Nat} (hp : ShapeP p) : (opsL p b).length ≤ 60 := by
  unfold opsL
  split
  · rename_i k hk
    have h1 := bodyL_len (p := p) (b := b) k.body
    have h2 := hp.body k (List.mem_of_getElem? hk)
    omega
  · simp
end Go.Hm
end
section
namespace Go.Hm
open Go Go.RowKit
section
variable {X : Ctx} {st : St} {K : St → Prop} {E : AV → St → Prop} {dst : Option Nat} {f f' : FuncId} {args : Array Operand} {Ts : Array TypeId} {ty : TypeId} {pos : String} {aft : Array Edge} {g : Option (Nat × Bool)} {P : Program} {gl : Nat → Option (List AV)} {az : List AV} {R : Nm → AV → (Nm → Option AO) → Prop}
theorem o_idc (_hF : FnOk P gl f' az R) (_hf : f = f') (h : SemOp X ⟨dst, .call ⟨.value (.func f), args, Ts⟩, ty, pos, aft, g⟩ K E st) : SemOp X ⟨dst, .call ⟨.value (.func f), args, Ts⟩, ty, pos, aft, g⟩ K E st := h
end
def AV.isHs : AV → Bool
  | .hs _ _ _ _ => true
  | _ => false
@[simp] theorem isHs_hs {n : Nm} {z lo len : Nat} : (AV.hs n z lo len).isHs = true := rfl
@[simp] theorem isHs_sc {v : Value} : (AV.sc v).isHs = false := rfl
section
variable {X : Ctx} {st st' : St} {K : St → Prop} {E : AV → St → Prop} {d : Nat} {ty : TypeId} {pos : String} {aft : Array Edge} {g : Option (Nat × Bool)}
theorem x_appendM {T F : TypeId} {s x : Operand} {z len : Nat} {n : Nm} {rows0 rows2 : List (List AV)} (hd : d < X.n := by first | (simp; done) | fail) (hT : tapp X.P T = some F := by simp [fx]; first | done | rfl) (hz : tsz X.P F = z := by simp [fx]; first | done | rfl) (hs : ev st s = .hs n z 0 len := by simp [fx]; first | done | rfl | exact ⟨rfl, rfl⟩ | exact ⟨rfl, rfl, rfl⟩)
    (hn : st.hp n = some (.row z rows0) := by simp [fx]; first | done | rfl) (hle : len ≤ rows0.length := by first | (simp [fx]; done) | (simp [fx]; omega) | omega)
    (hx : srcRows st z (ev st x) = some rows2 := by simp [fx]; first | done | rfl) (hm : (rows2.any fun r => r.any AV.isHs) = true := by first | (simp; done) | fail) (hlen : len + rows2.length ≤ 4294967296 := by first | (simp [fx]; done) | (simp [fx]; omega) | omega)
    (hq : Hm.canon (prcL (.s d) len rows2) ((apSt d z (len + rows2.length) (some n) (rows0.take len ++ rows2) st).mvc n (.s d)) = st' := by simp [fx]; first | done | rfl | exact (Bool.not_not _).symm) (h : K st') :
    SemOp X ⟨some d, .call ⟨.builtin .append, #[s, x], #[T, T]⟩, ty, pos, aft, g⟩ K E st := o_appendC hd hT hz hs hn hle hx hlen hq h
end
section
variable {X : Ctx} {st : St} {K : St → Prop} {E : AV → St → Prop} {d : Nat} {ty : TypeId} {pos : String} {aft : Array Edge} {g : Option (Nat × Bool)} {f : Nat} {args : Array Operand} {Ts : Array TypeId} {az avs : List AV}
theorem kx_call {x : AV} (hd : d < X.n := by first | (simp; done) | fail) (ha : args.toList.map (ev st) = avs := by simp [fx]; first | done | rfl | exact (Bool.not_not _).symm)
    (hB : BwL st.hp noD avs az := by
      first
      | ((repeat' (first | exact .nil | refine .cons ?_ ?_ | exact .refl _ | exact bw_ints (by simp [fx]; first | done | rfl) (by first | (simp [fx]; done) | (simp [fx]; omega) | omega) | exact bw_list (by simp [fx]; first | done | rfl) (by first | (simp [fx]; done) | (simp [fx]; omega) | omega) (by first | (simp; done) | fail) | exact bw_ords (by simp [fx]; first | done | rfl) (by first | (simp [fx]; done) | (simp [fx]; omega) | omega) | exact bw_stms (by simp [fx]; first | done | rfl) (by first | (simp [fx]; done) | (simp [fx]; omega) | omega) | exact bw_scopes ⟨(by first | (simp [hc1]; done) | fail), fun j k hj hk => (by first | (simp [hc2 j k hj hk]; done) | fail)⟩ hh rfl | exact bw_sc ⟨(by first | (simp [hc1]; done) | fail), fun j k hj hk => (by first | (simp [hc2 j k hj hk]; done) | fail)⟩ hh hk | exact bw_agg1 (bw_prog ⟨(by first | (simp [a1]; done) | fail), fun j r hj => (by first | (simp [a2 j r hj]; done) | fail), fun j r hj => (by first | (simp [a3 j r hj]; done) | fail)⟩ rfl) | exact bw_agg1 (bw_prog ⟨(by first | (simp [b1]; done) | fail), fun j r hj => (by first | (simp [b2 j r hj]; done) | fail), fun j r hj => (by first | (simp [b3 j r hj]; done) | fail)⟩ rfl) | exact bw_agg1 (bw_prog ⟨(by first | (simp [ho1]; done) | fail), fun j r hj => (by first | (simp [ho2 j r hj]; done) | fail), fun j r hj => (by first | (simp [ho3 j r hj]; done) | fail)⟩ rfl) | exact bw_codeA ⟨(by first | (simp [o1]; done) | fail), (by first | (simp [o2]; done) | fail), (by first | (simp [o3]; done) | fail), (by first | (simp [o4]; done) | fail), (by first | (simp [o5]; done) | fail)⟩ | exact bw_codeA ⟨(by first | (simp [q1]; done) | fail), (by first | (simp [q2]; done) | fail), (by first | (simp [q3]; done) | fail), (by first | (simp [q4]; done) | fail), (by first | (simp [q5]; done) | fail)⟩ | exact bw_codes ⟨(by first | (simp [kt]; done) | fail), fun i c hc => ⟨(by first | (simp [(ke i c hc).params]; done) | fail), (by first | (simp [(ke i c hc).fasts]; done) | fail), (by first | (simp [(ke i c hc).cells]; done) | fail), (by first | (simp [(ke i c hc).frees]; done) | fail), (by first | (simp [(ke i c hc).ops]; done) | fail)⟩⟩ rfl | exact bw_codes ⟨(by first | (simp [mt]; done) | fail), fun i c hc => ⟨(by first | (simp [(me i c hc).params]; done) | fail), (by first | (simp [(me i c hc).fasts]; done) | fail), (by first | (simp [(me i c hc).cells]; done) | fail), (by first | (simp [(me i c hc).frees]; done) | fail), (by first | (simp [(me i c hc).ops]; done) | fail)⟩⟩ rfl | exact bw_codes ⟨(by first | (simp [nt]; done) | fail), fun i c hc => ⟨(by first | (simp [(ne i c hc).params]; done) | fail), (by first | (simp [(ne i c hc).fasts]; done) | fail), (by first | (simp [(ne i c hc).cells]; done) | fail), (by first | (simp [(ne i c hc).frees]; done) | fail), (by first | (simp [(ne i c hc).ops]; done) | fail)⟩⟩ rfl)); done)
      | fail)
    (hF : FnOk X.P X.gl f az (fun _ y _ => y = x)) (hc : x.cln = true := by first | (simp [fx]; done) | fail) (h : K ((st.kill (.s d)).put (some d) x)) :
    SemOp X ⟨some d, .call ⟨.value (.func f), args, Ts⟩, ty, pos, aft, g⟩ K E st := o_call hd ha hB hF hc h
theorem kx_callh {z n : Nat} {rows : List (List AV)} (hd : d < X.n := by first | (simp; done) | fail) (ha : args.toList.map (ev st) = avs := by simp [fx]; first | done | rfl | exact (Bool.not_not _).symm)
    (hB : BwL st.hp noD avs az := by
      first
      | ((repeat' (first | exact .nil | refine .cons ?_ ?_ | exact .refl _ | exact bw_ints (by simp [fx]; first | done | rfl) (by first | (simp [fx]; done) | (simp [fx]; omega) | omega) | exact bw_list (by simp [fx]; first | done | rfl) (by first | (simp [fx]; done) | (simp [fx]; omega) | omega) (by first | (simp; done) | fail) | exact bw_ords (by simp [fx]; first | done | rfl) (by first | (simp [fx]; done) | (simp [fx]; omega) | omega) | exact bw_stms (by simp [fx]; first | done | rfl) (by first | (simp [fx]; done) | (simp [fx]; omega) | omega) | exact bw_scopes ⟨(by first | (simp [hc1]; done) | fail), fun j k hj hk => (by first | (simp [hc2 j k hj hk]; done) | fail)⟩ hh rfl | exact bw_sc ⟨(by first | (simp [hc1]; done) | fail), fun j k hj hk => (by first | (simp [hc2 j k hj hk]; done) | fail)⟩ hh hk | exact bw_agg1 (bw_prog ⟨(by first | (simp [a1]; done) | fail), fun j r hj => (by first | (simp [a2 j r hj]; done) | fail), fun j r hj => (by first | (simp [a3 j r hj]; done) | fail)⟩ rfl) | exact bw_agg1 (bw_prog ⟨(by first | (simp [b1]; done) | fail), fun j r hj => (by first | (simp [b2 j r hj]; done) | fail), fun j r hj => (by first | (simp [b3 j r hj]; done) | fail)⟩ rfl) | exact bw_agg1 (bw_prog ⟨(by first | (simp [ho1]; done) | fail), fun j r hj => (by first | (simp [ho2 j r hj]; done) | fail), fun j r hj => (by first | (simp [ho3 j r hj]; done) | fail)⟩ rfl) | exact bw_codeA ⟨(by first | (simp [o1]; done) | fail), (by first | (simp [o2]; done) | fail), (by first | (simp [o3]; done) | fail), (by first | (simp [o4]; done) | fail), (by first | (simp [o5]; done) | fail)⟩ | exact bw_codeA ⟨(by first | (simp [q1]; done) | fail), (by first | (simp [q2]; done) | fail), (by first | (simp [q3]; done) | fail), (by first | (simp [q4]; done) | fail), (by first | (simp [q5]; done) | fail)⟩ | exact bw_codes ⟨(by first | (simp [kt]; done) | fail), fun i c hc => ⟨(by first | (simp [(ke i c hc).params]; done) | fail), (by first | (simp [(ke i c hc).fasts]; done) | fail), (by first | (simp [(ke i c hc).cells]; done) | fail), (by first | (simp [(ke i c hc).frees]; done) | fail), (by first | (simp [(ke i c hc).ops]; done) | fail)⟩⟩ rfl | exact bw_codes ⟨(by first | (simp [mt]; done) | fail), fun i c hc => ⟨(by first | (simp [(me i c hc).params]; done) | fail), (by first | (simp [(me i c hc).fasts]; done) | fail), (by first | (simp [(me i c hc).cells]; done) | fail), (by first | (simp [(me i c hc).frees]; done) | fail), (by first | (simp [(me i c hc).ops]; done) | fail)⟩⟩ rfl | exact bw_codes ⟨(by first | (simp [nt]; done) | fail), fun i c hc => ⟨(by first | (simp [(ne i c hc).params]; done) | fail), (by first | (simp [(ne i c hc).fasts]; done) | fail), (by first | (simp [(ne i c hc).cells]; done) | fail), (by first | (simp [(ne i c hc).frees]; done) | fail), (by first | (simp [(ne i c hc).ops]; done) | fail)⟩⟩ rfl)); done)
      | fail)
    (hF : FnOk X.P X.gl f az (fun r y H' => y = .hs r z 0 n ∧ H' r = some (.row z rows))) (hc : rows.all (fun r => r.all AV.cln) = true := by first | (simp; done) | fail)
    (h : K (((st.kill (.s d)).setO (.s d) (.row z rows)).put (some d) (.hs (.s d) z 0 n))) : SemOp X ⟨some d, .call ⟨.value (.func f), args, Ts⟩, ty, pos, aft, g⟩ K E st := o_callh hd ha hB hF hc h
theorem kx_callg {R : Nm → AV → (Nm → Option AO) → Prop} (hd : d < X.n := by first | (simp; done) | fail) (ha : args.toList.map (ev st) = avs := by simp [fx]; first | done | rfl | exact (Bool.not_not _).symm)
    (hB : BwL st.hp noD avs az := by
      first
      | ((repeat' (first | exact .nil | refine .cons ?_ ?_ | exact .refl _ | exact bw_ints (by simp [fx]; first | done | rfl) (by first | (simp [fx]; done) | (simp [fx]; omega) | omega) | exact bw_list (by simp [fx]; first | done | rfl) (by first | (simp [fx]; done) | (simp [fx]; omega) | omega) (by first | (simp; done) | fail) | exact bw_ords (by simp [fx]; first | done | rfl) (by first | (simp [fx]; done) | (simp [fx]; omega) | omega) | exact bw_stms (by simp [fx]; first | done | rfl) (by first | (simp [fx]; done) | (simp [fx]; omega) | omega) | exact bw_scopes ⟨(by first | (simp [hc1]; done) | fail), fun j k hj hk => (by first | (simp [hc2 j k hj hk]; done) | fail)⟩ hh rfl | exact bw_sc ⟨(by first | (simp [hc1]; done) | fail), fun j k hj hk => (by first | (simp [hc2 j k hj hk]; done) | fail)⟩ hh hk | exact bw_agg1 (bw_prog ⟨(by first | (simp [a1]; done) | fail), fun j r hj => (by first | (simp [a2 j r hj]; done) | fail), fun j r hj => (by first | (simp [a3 j r hj]; done) | fail)⟩ rfl) | exact bw_agg1 (bw_prog ⟨(by first | (simp [b1]; done) | fail), fun j r hj => (by first | (simp [b2 j r hj]; done) | fail), fun j r hj => (by first | (simp [b3 j r hj]; done) | fail)⟩ rfl) | exact bw_agg1 (bw_prog ⟨(by first | (simp [ho1]; done) | fail), fun j r hj => (by first | (simp [ho2 j r hj]; done) | fail), fun j r hj => (by first | (simp [ho3 j r hj]; done) | fail)⟩ rfl) | exact bw_codeA ⟨(by first | (simp [o1]; done) | fail), (by first | (simp [o2]; done) | fail), (by first | (simp [o3]; done) | fail), (by first | (simp [o4]; done) | fail), (by first | (simp [o5]; done) | fail)⟩ | exact bw_codeA ⟨(by first | (simp [q1]; done) | fail), (by first | (simp [q2]; done) | fail), (by first | (simp [q3]; done) | fail), (by first | (simp [q4]; done) | fail), (by first | (simp [q5]; done) | fail)⟩ | exact bw_codes ⟨(by first | (simp [kt]; done) | fail), fun i c hc => ⟨(by first | (simp [(ke i c hc).params]; done) | fail), (by first | (simp [(ke i c hc).fasts]; done) | fail), (by first | (simp [(ke i c hc).cells]; done) | fail), (by first | (simp [(ke i c hc).frees]; done) | fail), (by first | (simp [(ke i c hc).ops]; done) | fail)⟩⟩ rfl | exact bw_codes ⟨(by first | (simp [mt]; done) | fail), fun i c hc => ⟨(by first | (simp [(me i c hc).params]; done) | fail), (by first | (simp [(me i c hc).fasts]; done) | fail), (by first | (simp [(me i c hc).cells]; done) | fail), (by first | (simp [(me i c hc).frees]; done) | fail), (by first | (simp [(me i c hc).ops]; done) | fail)⟩⟩ rfl | exact bw_codes ⟨(by first | (simp [nt]; done) | fail), fun i c hc => ⟨(by first | (simp [(ne i c hc).params]; done) | fail), (by first | (simp [(ne i c hc).fasts]; done) | fail), (by first | (simp [(ne i c hc).cells]; done) | fail), (by first | (simp [(ne i c hc).frees]; done) | fail), (by first | (simp [(ne i c hc).ops]; done) | fail)⟩⟩ rfl)); done)
      | fail)
    (hF : FnOk X.P X.gl f az R) (h : ∀ y H', R (.s d) y H' → y.cln = true ∧ K (((st.kill (.s d)).addH d (hcln H')).put (some d) y)) :
    SemOp X ⟨some d, .call ⟨.value (.func f), args, Ts⟩, ty, pos, aft, g⟩ K E st := o_callg hd ha hB hF h
end
structure KTag (p : Prop) : Prop where
  h : p
theorem k_run {G G' : Prop} (k : G') (h : KTag G' → G := by
  intro kk
  repeat' (first
    | refine w_seq ?_ | refine w_block ?_ | refine w_skip ?_ | refine w_label ?_ | refine w_reg fun K hK => ?_
    | ((with_reducible refine s_end hK ?_); clear hK K) | (with_reducible refine s_end hK ?_)
    | (with_reducible first | refine then_normal ?_ | refine in_normal ?_ | refine then_exit ?_ | refine in_exit ?_ | refine then_ret ?_ | refine in_ret ?_ | refine s_nil ?_ | refine in_other (by decide) ?_)
    | refine w_exit ?_
    | refine w_ret ?_
    | (with_reducible refine s_none ?_)
    | ((with_reducible refine g_id ?_); refine x_guard (h := ?_))
    | (with_reducible first | refine gx_tt ?_ | refine gx_ff ?_ | refine x_tf (h := ?_) | refine x_ft (h := ?_) | refine x_u (h := ?_) | refine x_assign (h := ?_) | refine x_box (h := ?_) | refine x_alloc (h := ?_) | refine x_store0 (h := ?_) | refine x_append0 (h := ?_) | refine x_appendM (h := ?_) | refine x_append (h := ?_) | refine x_store (h := ?_) | refine x_make (h := ?_) | refine x_build (h := ?_))
    | ((with_reducible refine o_idc c1 rfl ?_); refine kx_call (hF := c1) (h := ?_))
    | ((with_reducible refine o_idc c2 rfl ?_); refine kx_call (hF := c2) (h := ?_))
    | ((with_reducible refine o_idc c3 rfl ?_); refine kx_call (hF := c3) (h := ?_))
    | ((with_reducible refine o_idc c4 rfl ?_); refine kx_call (hF := c4) (h := ?_))
    | ((with_reducible refine o_idc c5 rfl ?_); refine kx_call (hF := c5) (h := ?_))
    | ((with_reducible refine o_idc c6 rfl ?_); refine kx_call (hF := c6) (h := ?_))
    | ((with_reducible refine o_idc d1 rfl ?_); refine kx_callh (hF := d1) (h := ?_))
    | ((with_reducible refine o_idc d2 rfl ?_); refine kx_callh (hF := d2) (h := ?_))
    | ((with_reducible refine o_idc d3 rfl ?_); refine kx_callh (hF := d3) (h := ?_))
    | ((with_reducible refine o_idc d4 rfl ?_); refine kx_callh (hF := d4) (h := ?_))
    | ((with_reducible refine o_idc e1 rfl ?_); refine kx_callg (hF := e1) (h := ?_))
    | ((with_reducible refine o_idc e2 rfl ?_); refine kx_callg (hF := e2) (h := ?_))
    | (with_reducible refine x_q (h := ?_))
    | (with_reducible refine gx_s (fun ht => ?_) (fun ht => ?_))
    | refine x_condt (h1 := ?_) | refine x_condf (h1 := ?_)
    | ((with_reducible refine a_end hK ?_); clear hK K) | (with_reducible refine a_end hK ?_)
    | ((with_reducible refine a_id ?_); first | refine xa_q (h := ?_) | refine xa_qt (h := ?_) | refine xa_qf (h := ?_) | refine xa_qu (h := ?_))
    | ((with_reducible refine a_id ?_); refine xa_gq (h1 := fun ht => ?_) (h2 := fun ht => ?_))
    | refine a_l rfl ?_ | refine a_l2 ?_ ?_ | (with_reducible refine And.intro ?_ ?_) | exact st_nil | refine xa_st (h2 := ?_)
    | fail)
  first | exact kk.h | (revert hK; revert K; exact kk.h)) : G := h ⟨k⟩
theorem k_rund {G G' : Prop} (k : G') (h : KTag G' → G := by
  intro kk K hK
  repeat' (first
    | refine w_seq ?_ | refine w_block ?_ | refine w_skip ?_ | refine w_label ?_ | refine w_reg fun K hK => ?_
    | ((with_reducible refine s_end hK ?_); clear hK K) | (with_reducible refine s_end hK ?_)
    | (with_reducible first | refine then_normal ?_ | refine in_normal ?_ | refine then_exit ?_ | refine in_exit ?_ | refine then_ret ?_ | refine in_ret ?_ | refine s_nil ?_ | refine in_other (by decide) ?_)
    | refine w_exit ?_
    | refine w_ret ?_
    | (with_reducible refine s_none ?_)
    | ((with_reducible refine g_id ?_); refine x_guard (h := ?_))
    | (with_reducible first | refine gx_tt ?_ | refine gx_ff ?_ | refine x_tf (h := ?_) | refine x_ft (h := ?_) | refine x_u (h := ?_) | refine x_assign (h := ?_) | refine x_box (h := ?_) | refine x_alloc (h := ?_) | refine x_store0 (h := ?_) | refine x_append0 (h := ?_) | refine x_appendM (h := ?_) | refine x_append (h := ?_) | refine x_store (h := ?_) | refine x_make (h := ?_) | refine x_build (h := ?_))
    | ((with_reducible refine o_idc c1 rfl ?_); refine kx_call (hF := c1) (h := ?_))
    | ((with_reducible refine o_idc c2 rfl ?_); refine kx_call (hF := c2) (h := ?_))
    | ((with_reducible refine o_idc c3 rfl ?_); refine kx_call (hF := c3) (h := ?_))
    | ((with_reducible refine o_idc c4 rfl ?_); refine kx_call (hF := c4) (h := ?_))
    | ((with_reducible refine o_idc c5 rfl ?_); refine kx_call (hF := c5) (h := ?_))
    | ((with_reducible refine o_idc c6 rfl ?_); refine kx_call (hF := c6) (h := ?_))
    | ((with_reducible refine o_idc d1 rfl ?_); refine kx_callh (hF := d1) (h := ?_))
    | ((with_reducible refine o_idc d2 rfl ?_); refine kx_callh (hF := d2) (h := ?_))
    | ((with_reducible refine o_idc d3 rfl ?_); refine kx_callh (hF := d3) (h := ?_))
    | ((with_reducible refine o_idc d4 rfl ?_); refine kx_callh (hF := d4) (h := ?_))
    | ((with_reducible refine o_idc e1 rfl ?_); refine kx_callg (hF := e1) (h := ?_))
    | ((with_reducible refine o_idc e2 rfl ?_); refine kx_callg (hF := e2) (h := ?_))
    | (with_reducible refine x_q (h := ?_))
    | (with_reducible refine gx_s (fun ht => ?_) (fun ht => ?_))
    | refine x_condt (h1 := ?_) | refine x_condf (h1 := ?_)
    | ((with_reducible refine a_end hK ?_); clear hK K) | (with_reducible refine a_end hK ?_)
    | ((with_reducible refine a_id ?_); first | refine xa_q (h := ?_) | refine xa_qt (h := ?_) | refine xa_qf (h := ?_) | refine xa_qu (h := ?_))
    | ((with_reducible refine a_id ?_); refine xa_gq (h1 := fun ht => ?_) (h2 := fun ht => ?_))
    | refine a_l rfl ?_ | refine a_l2 ?_ ?_ | (with_reducible refine And.intro ?_ ?_) | exact st_nil | refine xa_st (h2 := ?_)
    | fail)
  first | exact kk.h | (revert hK; revert K; exact kk.h)) : G := h ⟨k⟩
theorem k_runj {X : Ctx} {c : Code} {Q : Ex → St → Prop} {G : Prop} (I : St → Prop) (k : ∀ st, I st → SemCode X c Q st) (h : KTag (∀ st, I st → SemCode X c Q st) → G := by
  intro kk K hK
  repeat' (first
    | refine w_seq ?_ | refine w_block ?_ | refine w_skip ?_ | refine w_label ?_ | refine w_reg fun K hK => ?_
    | ((with_reducible refine s_end hK ?_); clear hK K) | (with_reducible refine s_end hK ?_)
    | (with_reducible first | refine then_normal ?_ | refine in_normal ?_ | refine then_exit ?_ | refine in_exit ?_ | refine then_ret ?_ | refine in_ret ?_ | refine s_nil ?_ | refine in_other (by decide) ?_)
    | refine w_exit ?_
    | refine w_ret ?_
    | (with_reducible refine s_none ?_)
    | ((with_reducible refine g_id ?_); refine x_guard (h := ?_))
    | (with_reducible first | refine gx_tt ?_ | refine gx_ff ?_ | refine x_tf (h := ?_) | refine x_ft (h := ?_) | refine x_u (h := ?_) | refine x_assign (h := ?_) | refine x_box (h := ?_) | refine x_alloc (h := ?_) | refine x_store0 (h := ?_) | refine x_append0 (h := ?_) | refine x_appendM (h := ?_) | refine x_append (h := ?_) | refine x_store (h := ?_) | refine x_make (h := ?_) | refine x_build (h := ?_))
    | ((with_reducible refine o_idc c1 rfl ?_); refine kx_call (hF := c1) (h := ?_))
    | ((with_reducible refine o_idc c2 rfl ?_); refine kx_call (hF := c2) (h := ?_))
    | ((with_reducible refine o_idc c3 rfl ?_); refine kx_call (hF := c3) (h := ?_))
    | ((with_reducible refine o_idc c4 rfl ?_); refine kx_call (hF := c4) (h := ?_))
    | ((with_reducible refine o_idc c5 rfl ?_); refine kx_call (hF := c5) (h := ?_))
    | ((with_reducible refine o_idc c6 rfl ?_); refine kx_call (hF := c6) (h := ?_))
    | ((with_reducible refine o_idc d1 rfl ?_); refine kx_callh (hF := d1) (h := ?_))
    | ((with_reducible refine o_idc d2 rfl ?_); refine kx_callh (hF := d2) (h := ?_))
    | ((with_reducible refine o_idc d3 rfl ?_); refine kx_callh (hF := d3) (h := ?_))
    | ((with_reducible refine o_idc d4 rfl ?_); refine kx_callh (hF := d4) (h := ?_))
    | ((with_reducible refine o_idc e1 rfl ?_); refine kx_callg (hF := e1) (h := ?_))
    | ((with_reducible refine o_idc e2 rfl ?_); refine kx_callg (hF := e2) (h := ?_))
    | (with_reducible refine x_q (h := ?_))
    | (with_reducible refine gx_s (fun ht => ?_) (fun ht => ?_))
    | refine x_condt (h1 := ?_) | refine x_condf (h1 := ?_)
    | ((with_reducible refine a_end hK ?_); clear hK K) | (with_reducible refine a_end hK ?_)
    | ((with_reducible refine a_id ?_); first | refine xa_q (h := ?_) | refine xa_qt (h := ?_) | refine xa_qf (h := ?_) | refine xa_qu (h := ?_))
    | ((with_reducible refine a_id ?_); refine xa_gq (h1 := fun ht => ?_) (h2 := fun ht => ?_))
    | refine a_l rfl ?_ | refine a_l2 ?_ ?_ | (with_reducible refine And.intro ?_ ?_) | exact st_nil | refine xa_st (h2 := ?_)
    | fail)
  all_goals exact kk.h _ (by simp [fx])) : G := h ⟨k⟩
end Go.Hm
end
section
namespace Go.Hm
open Go Go.RowKit Go.ChangeShapes Go.WideShapes Go.Deep
end Go.Hm
end
section
namespace Go.Hm
open Go Go.RowKit
abbrev Val := Int × Int
abbrev Slt := Option Val
structure Act where
  blk : Nat
  up : Nat
  vars : List Slt
structure Wld where
  acts : List Act
  stack : List Nat
  globals : List Slt
  funs : List (Nat × Nat)
  classes : List (List Slt)
  out : List Int
  trace : List (Nat × Nat)
  en : Int
  left : Nat
abbrev noSlots : List Slt := List.replicate 8 none
def shown (v : Val) : Int := if v.1 = 1 then v.2 else if v.1 = 2 then -2 else if v.1 = 3 then -3 else -1
def Wld.blk (w : Wld) (at' : Nat) : Nat := match w.acts[at']? with | some a => a.blk | none => 0
def climb (acts : List Act) (o : Nat) : Nat → Nat → Nat
  | 0, a => a
  | n + 1, a => match acts[a]? with | some c => if c.blk = o then a else climb acts o n c.up | none => a
def Wld.loc (p : Prg) (w : Wld) (at' : Nat) (x : Int) : Option Nat := if owner p (w.blk at') x < 0 then none else some (climb w.acts (owner p (w.blk at') x).toNat at' at')
def Wld.vars (w : Wld) : Option Nat → List Slt
  | none => w.globals
  | some i => match w.acts[i]? with | some a => a.vars | none => []
def Wld.get (w : Wld) (l : Option Nat) (x : Int) : Slt := match (w.vars l)[x.toNat]? with | some s => s | none => none
def Wld.set (w : Wld) (l : Option Nat) (x : Int) (s : Slt) : Wld := match l with
  | none => { w with globals := w.globals.set x.toNat s }
  | some i => { w with acts := w.acts.modify i fun a => { a with vars := a.vars.set x.toNat s } }
def lack (p : Prg) (b : Nat) (o : Int) : Int := if o < 0 ∨ (o = b ∧ kindAt p b = 2) then 4 else if o = b then 2 else 3
def loadW (p : Prg) (w : Wld) (at' : Nat) (x : Int) : Wld × Val :=
  match w.get (w.loc p at' x) x with
  | some v => (w, v)
  | none =>
    if lack p (w.blk at') (owner p (w.blk at') x) = 4 then
      match w.get none x with
      | some v => (w, v)
      | none => if x = 7 then (w, (1, 70)) else ({ w with en := 4 }, (0, 0))
    else ({ w with en := lack p (w.blk at') (owner p (w.blk at') x) }, (0, 0))
def loadsW (p : Prg) (w : Wld) (at' : Nat) : List Int → Wld × List Val
  | [] => (w, [])
  | x :: l => if w.en ≠ 0 then (w, []) else
    ((loadsW p (loadW p w at' x).1 at' l).1, (loadW p w at' x).2 :: (loadsW p (loadW p w at' x).1 at' l).2)
def plusW (w : Wld) (a b : Val) : Wld × Val := if a.1 ≠ 1 ∨ b.1 ≠ 1 then ({ w with en := 5 }, (0, 0)) else (w, (1, (a.2 + b.2).tmod 1000))
def attrW (w : Wld) (v : Val) (x : Int) : Wld × Val := if v.1 ≠ 3 then ({ w with en := 5 }, (0, 0)) else
  match w.classes[v.2.toNat]? with
  | some c => match c[x.toNat]? with
    | some (some u) => (w, u)
    | _ => ({ w with en := 7 }, (0, 0))
  | none => ({ w with en := 7 }, (0, 0))
def bindP (ps : List Int) (vs : List Val) : List Slt := (ps.zip vs).foldl (fun l q => l.set q.1.toNat (some q.2)) noSlots
def beginW (p : Prg) (w : Wld) (b up : Nat) (vs : List Val) : Wld :=
  { w with acts := w.acts ++ [⟨b, up, bindP (match p[b]? with | some k => k.params | none => []) vs⟩], stack := w.stack ++ [w.acts.length] }
def endW (w : Wld) : Wld := if w.en = 0 then { w with stack := w.stack.dropLast } else w
def parN (p : Prg) (b : Nat) : Nat := match p[b]? with | some k => k.params.length | none => 0
section
variable (p : Prg) (R : Wld → Nat → Wld × Val)
def enterW (w : Wld) (b up : Nat) (vs : List Val) : Wld × Val := (endW (R (beginW p w b up vs) w.acts.length).1, (R (beginW p w b up vs) w.acts.length).2)
def callW (w : Wld) (f : Val) (vs : List Val) : Wld × Val := if f.1 ≠ 2 then ({ w with en := 5 }, (0, 0)) else
  match w.funs[f.2.toNat]? with
  | some g => if parN p g.1 ≠ vs.length then ({ w with en := 6 }, (0, 0)) else enterW p R w g.1 g.2 vs
  | none => (w, (0, 0))
def classW (w : Wld) (b at' : Nat) : Wld × Val :=
  if (enterW p R w b at' []).1.en ≠ 0 then ((enterW p R w b at' []).1, (0, 0)) else
  ({ (enterW p R w b at' []).1 with classes := (enterW p R w b at' []).1.classes ++ [(enterW p R w b at' []).1.vars (some w.acts.length)] }, (3, ((enterW p R w b at' []).1.classes.length : Int)))
def workW (w : Wld) (at' : Nat) (s : Stm) (vs : List Val) : Wld × Val :=
  if s.kind = 0 then (w, (1, s.a)) else if s.kind = 2 then plusW w (vs.getD 0 (0, 0)) (vs.getD 1 (0, 0))
  else if s.kind = 3 then ({ w with funs := w.funs ++ [(s.a.toNat, at')] }, (2, (w.funs.length : Int)))
  else if s.kind = 4 then classW p R w s.a.toNat at' else if s.kind = 5 then callW p R w (vs.getD 0 (0, 0)) vs.tail
  else if s.kind = 6 then attrW w (vs.getD 0 (0, 0)) s.b else (w, vs.getD 0 (0, 0))
def valueW (w : Wld) (at' : Nat) (s : Stm) : Wld × Val :=
  if (loadsW p w at' s.reads).1.en ≠ 0 then ((loadsW p w at' s.reads).1, (0, 0)) else workW p R (loadsW p w at' s.reads).1 at' s (loadsW p w at' s.reads).2
end
theorem StmOk.made {p : Prg} {b : Nat} {k : Blk} {s : Stm} (h : StmOk p b k s = true) (hk : s.kind = 3 ∨ s.kind = 4) : ∃ q, p[s.a.toNat]? = some q ∧ q.parent = b ∧ 0 < s.a ∧ q.kind = s.kind - 2 := by
  have key : ∀ d, madeAs p b s.a d = true → ∃ q, p[s.a.toNat]? = some q ∧ q.parent = b ∧ 0 < s.a ∧ q.kind = d := by
    intro d hm
    simp only [madeAs, Bool.and_eq_true, decide_eq_true_eq] at hm
    obtain ⟨⟨h1, h2⟩, h3⟩ := hm
    split at h3
    · rename_i q hq
      simp only [Bool.and_eq_true, beq_iff_eq] at h3
      exact ⟨q, hq, h3.2, by omega, h3.1⟩
    · cases h3
  rcases hk with e | e
  · simp only [StmOk, e] at h
    simp at h
    obtain ⟨q, h1, h2, h3, h4⟩ := key 1 h.2.2
    exact ⟨q, h1, h2, h3, by rw [h4, e]; rfl⟩
  · simp only [StmOk, e] at h
    simp at h
    obtain ⟨q, h1, h2, h3, h4⟩ := key 2 h.2.2
    exact ⟨q, h1, h2, h3, by rw [h4, e]; rfl⟩
theorem StmOk.num {p : Prg} {b : Nat} {k : Blk} {s : Stm} (h : StmOk p b k s = true) (hk : s.kind = 0) : 0 ≤ s.a ∧ s.a ≤ 99 := by
  simp only [StmOk, hk] at h
  simp at h
  omega
theorem StmOk.print {p : Prg} {R : Wld → Nat → Wld × Val} {w : Wld} {a : Nat} {s : Stm} (h : s.kind = 7) : valueW p R w a s = if (loadsW p w a s.reads).1.en ≠ 0 then ((loadsW p w a s.reads).1, (0, 0)) else ((loadsW p w a s.reads).1, (loadsW p w a s.reads).2.getD 0 (0, 0)) := by
  simp [valueW, workW, h]
end Go.Hm
end
section
namespace Go.Hm
open Go Go.RowKit
def slotC (s : Slt) : List AV := match s with | some v => [bv true, iv v.1, iv v.2] | none => [bv false, iv 0, iv 0]
@[simp] theorem slotC_none : slotC none = [bv false, iv 0, iv 0] := rfl
@[simp] theorem slotC_some {v : Val} : slotC (some v) = [bv true, iv v.1, iv v.2] := rfl
def slrows (l : List Slt) : List (List AV) := l.map slotC
section
variable {l : List Slt} {i : Nat} {f : Nm → Option Nm} {s : Slt}
@[simp] theorem slrows_nil : slrows [] = [] := rfl
end
def vrows (l : List Val) : List (List AV) := l.map fun v => [iv v.1, iv v.2]
section
variable {l m : List Val} {i : Nat} {f : Nm → Option Nm} {v : Val}
@[simp] theorem vrows_nil : vrows [] = [] := rfl
end
def nrows (l : List (Nat × Nat)) : List (List AV) := l.map fun v => [iv v.1, iv v.2]
section
variable {l m : List (Nat × Nat)} {i : Nat} {f : Nm → Option Nm}
@[simp] theorem nrows_nil : nrows [] = [] := rfl
end
section
variable {az : List Act} {cs : List (List Slt)} {fs : List (Nat × Nat)} {n m : Nm} {i : Nat} {f : Nm → Option Nm}
end
section
variable {l : Option Nat} {d : Nat}
end
abbrev NMap := List (Int × Val)
abbrev Val.av (v : Val) : AV := .agg [iv v.1, iv v.2]
def mrows (ms : NMap) : List (AV × AV) := ms.map fun q => (iv q.1, Val.av q.2)
section
variable {ms : NMap} {n m : Int} {v : Val} {f : Nm → Option Nm}
@[simp] theorem mrows_nil : mrows [] = [] := rfl
end
section
variable {X : Ctx} {st : St} {K : St → Prop} {E : AV → St → Prop} {d : Nat} {ty : TypeId} {pos : String} {aft : Array Edge} {g : Option (Nat × Bool)}
end
abbrev En (i : Nat) : Nm := .u 7 i 0
abbrev ptE (i : Nat) : AV := .pt (En i) 0
end Go.Hm
end
section
namespace Go.Hm
open Go Go.RowKit
def Du (f : Nat → Bool) : Nm → Bool
  | .s _ => false
  | .u k _ _ => f k
  | .c n _ _ => Du f n
section
variable {f : Nat → Bool} {n : Nm} {k i j d : Nat}
@[simp] theorem Du_s : Du f (.s d) = false := rfl
@[simp] theorem Du_u : Du f (.u k i j) = f k := rfl
@[simp] theorem Du_c : Du f (.c n i j) = Du f n := rfl
end
section
variable {X : Ctx} {st : St} {K : St → Prop} {E : AV → St → Prop} {d f : Nat} {ty : TypeId} {pos : String} {aft : Array Edge} {g : Option (Nat × Bool)} {c : Operand} {args : Array Operand} {Ts : Array TypeId} {xs ys az : List AV} {R : Nm → AV → (Nm → Option AO) → Prop}
end
end Go.Hm
end
section
set_option linter.unusedSectionVars false
namespace Go.Hm
open Go Go.RowKit
structure Pre (q : Bool) (w w' : Wld) : Prop where
  funs : w.funs <+: w'.funs
  cls : w.classes <+: w'.classes
  out : w.out <+: w'.out
  tr : w.trace <+: w'.trace
  left : q = true → w'.left ≤ w.left
theorem Pre.refl {q : Bool} (w : Wld) : Pre q w w := ⟨List.prefix_refl _, List.prefix_refl _, List.prefix_refl _, List.prefix_refl _, fun _ => Nat.le_refl _⟩
theorem Pre.trans {q : Bool} {w w' w'' : Wld} (h : Pre q w w') (h' : Pre q w' w'') : Pre q w w'' := ⟨h.funs.trans h'.funs, h.cls.trans h'.cls, h.out.trans h'.out, h.tr.trans h'.tr, fun e => Nat.le_trans (h'.left e) (h.left e)⟩
theorem Pre.weak {q : Bool} {w w' : Wld} (h : Pre q w w') : Pre false w w' := ⟨h.funs, h.cls, h.out, h.tr, fun e => by cases e⟩
theorem Pre.en {q : Bool} {w w' : Wld} (h : Pre q w w') {e : Int} : Pre q w { w' with en := e } := ⟨h.funs, h.cls, h.out, h.tr, h.left⟩
theorem Pre.set {q : Bool} {w : Wld} {l : Option Nat} {x : Int} {s : Slt} : Pre q w (w.set l x s) := by cases l <;> exact ⟨List.prefix_refl _, List.prefix_refl _, List.prefix_refl _, List.prefix_refl _, fun _ => Nat.le_refl _⟩
section
variable {p : Prg} {R : Wld → Nat → Wld × Val} {w : Wld} {a b i : Nat} {x : Int} {vs : List Val} {s : Stm} {v : Val} {q : Bool}
variable (hR : ∀ w a, Pre q w (R w a).1)
include hR
end
def addF (k : Nat) (w : Wld) : Wld := { w with left := w.left + k }
structure Lock2 (k : Nat) (w w' : Wld) : Prop where
  en : w.en = 1
  left : w.left = 0
  pre : Pre false w w'
  more : 0 < k → w.trace.length < w'.trace.length
theorem Lock2.trans {k : Nat} {w w' w'' : Wld} (h : Lock2 k w w') {q : Bool} (h' : Pre q w' w'') : Lock2 k w w'' := ⟨h.en, h.left, h.pre.trans h'.weak, fun hk => Nat.lt_of_lt_of_le (h.more hk) h'.tr.length_le⟩
def Lock (k : Nat) (r r' : Wld × Val) : Prop := (r.1.en ≠ 1 ∧ r' = (addF k r.1, r.2)) ∨ Lock2 k r.1 r'.1
section
variable {p : Prg} {R : Wld → Nat → Wld × Val} {k n : Nat} {w : Wld} {a b i : Nat} {x : Int} {l : Option Nat} {vs : List Val} {s : Stm} {v : Val}
@[simp] theorem addF_loc : (addF k w).loc p a x = w.loc p a x := rfl
@[simp] theorem addF_blk : (addF k w).blk a = w.blk a := rfl
@[simp] theorem addF_en : (addF k w).en = w.en := rfl
variable (hP : ∀ w a, Pre true w (R w a).1) (hR : ∀ w a, w.left + k < n → w.en = 0 → Lock k (R w a) (R (addF k w) a))
include hP hR
end
end Go.Hm
end
section
namespace Go.Hm
open Go Go.RowKit
section
variable {p : Prg} {R : Wld → Nat → Wld × Val} {n : Nat} {w : Wld} {a b i : Nat} {x : Int} {vs : List Val} {s : Stm} {v : Val} {k : Blk}
def one (b : Prop) [Decidable b] : Nat := if b then 1 else 0
end
section
variable {X : Ctx} {st : St} {K : St → Prop} {E : AV → St → Prop} {d f : Nat} {ty : TypeId} {pos : String} {aft : Array Edge} {g : Option (Nat × Bool)} {args : Array Operand} {Ts : Array TypeId} {az : List AV} {R : Nm → AV → (Nm → Option AO) → Prop}
end
structure ValP (p : Prg) : Prop where
  sh : ShapeP p
  pm : ∀ (b : Nat) k, p[b]? = some k → ∀ x ∈ k.params, owner p b x = b
theorem ValP.of {p : Prg} (hs : Sml p) (h : progOk p = true) : ValP p := by
  simp only [progOk, Bool.and_eq_true] at h
  have hp := ShapeP.of hs h.1
  refine ⟨hp, fun b k hk x hx => ?_⟩
  have hkm := List.mem_of_getElem? hk
  have hxr := (hp.names k hkm).params x hx
  have hb0 : 0 < b := by
    cases b with
    | zero =>
      have := hp.head 0 k hk
      simp only [HeadOk, if_true] at this
      rw [List.eq_nil_of_length_eq_zero this.2.2] at hx
      cases hx
    | succ b => omega
  have hd := List.all_eq_true.1 h.2 b (List.mem_range.2 (gS hk).1)
  have hbn : (b == 0) = false := by simp; omega
  rw [hbn, Bool.false_or] at hd
  simp only [declsOk, hk] at hd
  have hdx := List.all_eq_true.1 hd x.toNat (List.mem_range.2 (by omega))
  rw [show ((x.toNat : Nat) : Int) = x from by omega] at hdx
  have h9 : x ∉ k.dc 9 := fun e => by simp [declOk, e, hx] at hdx
  have h10 : x ∉ k.dc 10 := fun e => by simp [declOk, e, hx] at hdx
  have hbd : x ∈ k.bd := by
    simp only [mem_sorted, Blk.bd, boundAll, List.mem_append]
    exact ⟨.inl hx, hxr⟩
  exact owner_self hk (by simp [isLocal, hb0, hbd, h9, h10]) h9
end Go.Hm
end
section
namespace Go.Hm
open Go Go.RowKit
structure Rsl where
  out : List Int
  en : Int
  left : Int
  gl : List Int
def Rsl.own (n : Nm) (r : Rsl) : List AV := [.hs (.c n 0 0) 1 0 r.out.length, iv r.en, iv r.left, .hs (.c n 0 3) 1 0 r.gl.length]
@[simp] theorem Rsl.own_eq {n : Nm} {r : Rsl} : r.own n = [.hs (.c n 0 0) 1 0 r.out.length, iv r.en, iv r.left, .hs (.c n 0 3) 1 0 r.gl.length] := rfl
section
variable {n : Nm} {len i j : Nat} {f : Nm → Option Nm} {q : Int}
end
@[simp] theorem slc_hs {P : Program} {T : TypeId} {hp : Nm → Option AO} {n : Nm} {z q len : Nat} {lo hi : Option Int} : slcAV P T hp (.hs n z q len) lo hi = match tel P T with
    | some e => if z = tsz P e ∧ 0 ≤ lo.getD 0 ∧ lo.getD 0 ≤ hi.getD len ∧ (hi.getD len ≤ len ∨ q + (hi.getD len).toNat ≤ rowsIn hp n z) then some (.hs n z (q + (lo.getD 0).toNat) ((hi.getD len).toNat - (lo.getD 0).toNat)) else none
    | none => none := rfl
def fM (k : Nat) : Bool := k == 1 || k == 7 || k == 8
def DM : Nm → Bool := Du fM
def DM2 (n : Nm) : Bool := DM n || Nm.under (.u 2 0 0) n
section
variable {n : Nm} {k i j d : Nat}
@[simp] theorem DM_s : DM (.s d) = false := rfl
@[simp] theorem DM_u : DM (.u k i j) = fM k := rfl
@[simp] theorem DM_c : DM (.c n i j) = DM n := rfl
@[simp] theorem fM_1 : fM 1 = true := rfl
@[simp] theorem fM_2 : fM 2 = false := rfl
@[simp] theorem fM_7 : fM 7 = true := rfl
@[simp] theorem fM_8 : fM 8 = true := rfl
@[simp] theorem DM2_eq : DM2 n = (DM n || Nm.under (.u 2 0 0) n) := rfl
end
section
variable {l m : List Nat} {i : Nat} {f : Nm → Option Nm}
end
section
variable {F : Nat} {p : Prg} {gs : List (Nat × Nat)} {g : Nat × Nat} {cs : List (List Slt)} {c : List Slt} {n m : Nm} {i : Nat} {f : Nm → Option Nm}
end
def envRow (i : Nat) (a : Act) : List AV := [iv a.blk, .mp (.c (En i) 0 1), if i = 0 then nilP else ptE a.up]
@[simp] theorem envRow_len {i : Nat} {a : Act} : (envRow i a).length = 3 := rfl
def Wld.nms (w : Wld) (i : Nat) : List Slt := if i = 0 then w.globals else match w.acts[i]? with | some a => a.vars | none => []
section
variable {X : Ctx} {st : St} {K : St → Prop} {E : AV → St → Prop} {d f : Nat} {ty : TypeId} {pos : String} {aft : Array Edge} {g : Option (Nat × Bool)} {args : Array Operand} {Ts : Array TypeId} {az : List AV} {R : Nm → AV → (Nm → Option AO) → Prop}
end
end Go.Hm
end
section
namespace Go.Hm
open Go Go.RowKit
section
variable {l : List (Nat × Nat)} {c : Int} {i : Nat}
end
def Rsl.av (r : Rsl) : AV := .agg [isl r.out, iv r.en, iv r.left, isl r.gl]
@[simp] theorem Rsl.av_eq {r : Rsl} : r.av = .agg [isl r.out, iv r.en, iv r.left, isl r.gl] := rfl
def Rsl.mark (r : Rsl) (c : Int) : Rsl := ⟨markI r.out.length c, r.en, r.left, markI r.gl.length (c + r.out.length)⟩
section
variable {hp : Nm → Option AO} {n : Nm} {r : Rsl} {c : Int}
@[simp] theorem Rsl.mark_en : (r.mark c).en = r.en := rfl
@[simp] theorem Rsl.mark_left : (r.mark c).left = r.left := rfl
@[simp] theorem Rsl.mark_out : (r.mark c).out.length = r.out.length := by simp [Rsl.mark]
@[simp] theorem Rsl.mark_gl : (r.mark c).gl.length = r.gl.length := by simp [Rsl.mark]
end
section
variable {p : Prg} {f : Int}
end
end Go.Hm
end
section
namespace Go.Hm
open Go Go.RowKit
section
variable {p : Prg} {f g n : Nat}
structure More (k : Nat) (w w' : Wld) : Prop where
  funs : w.funs.length ≤ w'.funs.length
  cls : w.classes.length ≤ w'.classes.length
  out : w.out <+: w'.out
  tr : w.trace <+: w'.trace
  same : w.en ≠ 1 → w' = addF k w
  none : w.en = 1 → w.left = 0
end
theorem bw_listP {hp : Nm → Option AO} {n : Nm} {z len : Nat} {rows rows' : List (List AV)} (hn : hp n = some (.row z rows)) (hl : len ≤ rows.length) (ht : rows.take len = rows') (hz : ∀ r ∈ rows', r.length = z) : Bw hp noD (.hs n z 0 len) (.sl z rows') := by
  refine .hs n z 0 len rows rows' rfl hn (by omega) (by rw [← ht, List.length_take]; omega) hz fun i r r' hr hr' j a a' ha ha' => ?_
  rw [Nat.zero_add] at hr
  rw [← ht, List.getElem?_take] at hr'
  split at hr'
  · rw [hr] at hr'
    obtain rfl := Option.some.inj hr'
    rw [ha] at ha'
    obtain rfl := Option.some.inj ha'
    exact .refl _
  · cases hr'
theorem bw_ordsP {hp : Nm → Option AO} {n : Nm} {len : Nat} {l m : List (Int × Int)} (hn : hp n = some (.row 2 (orows l))) (hl : len ≤ l.length) (ht : l.take len = m) : Bw hp noD (.hs n 2 0 len) (osl m) :=
  bw_listP hn (by simpa using hl) (by rw [orows_take, ht]) orows_uni
end Go.Hm
end
section
set_option linter.unusedSectionVars false
namespace Go.Hm
open Go Go.RowKit
def stl (t : List (Nat × Nat)) (k : Nat) (w : Wld) : Wld := { w with trace := t, left := k }
section
variable {p : Prg} {k m : Nat} {t : List (Nat × Nat)} {w : Wld} {a b i : Nat} {x : Int} {l : Option Nat} {vs : List Val} {s : Stm} {v : Val}
@[simp] theorem stl_stl {t' : List (Nat × Nat)} {k' : Nat} : stl t k (stl t' k' w) = stl t k w := rfl
@[simp] theorem stl_loc : (stl t k w).loc p a x = w.loc p a x := rfl
@[simp] theorem stl_blk : (stl t k w).blk a = w.blk a := rfl
@[simp] theorem stl_en : (stl t k w).en = w.en := rfl
@[simp] theorem stl_left : (stl t k w).left = k := rfl
@[simp] theorem stl_out : (stl t k w).out = w.out := rfl
end
def Sim (m : Nat) (r r' : Wld × Val) : Prop := (r.1.en ≠ 1 ∧ ∃ t, r' = (stl t m r.1, r.2)) ∨ (r.1.en = 1 ∧ (m = 0 → r'.1.out = r.1.out ∧ r'.1.left = 0))
section
variable {p : Prg} {R : Wld → Nat → Wld × Val} {R2 : Nat → Wld → Nat → Wld × Val} {n : Nat} {w : Wld} {a b i : Nat} {x : Int} {vs : List Val} {s : Stm} {v : Val}
variable (hR : ∀ w a, w.left < n → w.en = 0 → ∃ g, g + (R w a).1.left ≤ w.left ∧ ∀ N t m, g + m < N → Sim m (R w a) (R2 N (stl t (g + m) w) a))
include hR
end
end Go.Hm
end
