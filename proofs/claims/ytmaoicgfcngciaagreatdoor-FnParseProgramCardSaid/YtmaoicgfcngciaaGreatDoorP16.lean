/-
  Own texts, joined by mkclaim.py: Hm55, Hm60, Hm154, Hm155.
-/
import Derived.Test.YtmaoicgfcngciaaGreatDoorP11
import Derived.Test.YtmaoicgfcngciaaGreatDoorP10
import Derived.Test.YtmaoicgfcngciaaGreatDoorP13
import Derived.Test.YtmaoicgfcngciaaGreatDoorP15
set_option linter.unusedSimpArgs false
set_option linter.unusedVariables false
set_option maxRecDepth 100000
set_option maxHeartbeats 4000000

section
namespace Go.Hm
open Go Go.RowKit
theorem Sml.set {p : Prg} {i : Nat} {k : Blk} (h : Sml p) (h1 : k.params.length ≤ 1048576) (h2 : k.body.length ≤ 1048576) : Sml (p.set i k) := by
  refine ⟨by simpa using h.len, fun q hq => ?_, fun q hq => ?_⟩
  · rcases List.mem_or_eq_of_mem_set hq with hq | rfl
    · exact h.params q hq
    · exact h1
  · rcases List.mem_or_eq_of_mem_set hq with hq | rfl
    · exact h.body q hq
    · exact h2
end Go.Hm
end
section
namespace Go.Hm
open Go Go.RowKit Go.ChangeShapes Go.WideShapes Go.Deep
variable {H : Type} {enc : TypeId × Value → H} {P : Program} {w : World}
theorem rd_byte {t : TypeId} (ht : P.underlying t = some (.int .u8)) : ReadsAs enc P w t (fun k : Int => [byt k]) (fun k => 0 ≤ k ∧ k ≤ 255) := by
  intro n cs y h _
  obtain ⟨k, rfl, _, hw⟩ := DataW.trod_int ht h
  refine ⟨k, by simpa [Lit.wf, IntKind.min, IntKind.max, IntKind.signed, IntKind.bits] using hw, rfl, fun j v a hv ha => ?_⟩
  cases j with
  | zero =>
    simp at hv ha
    subst hv; subst ha
    exact ⟨.sc _, rfl⟩
  | succ j => simp at hv
theorem rd_bytes {t e : TypeId} (ht : P.underlying t = some (.slice e)) (he : P.underlying e = some (.int .u8)) (hc : P.cellsOf e = 1) (hby : 0 < P.bytesOf e)
    {r : Reach} {b0 : Nat} {v : Value} {d : DataW H} {p : List MemPlace} (hv : Value.okWide P w r b0 t v) (h : DataW.Trod enc P w 0 (fun _ => true) true t v d p) (hw : ∀ m ∈ d.weights P t, m ≤ reachBytes) :
    ∃ bs : List Int, (bs.length ≤ 1152921504606846976 ∧ ∀ x ∈ bs, 0 ≤ x ∧ x ≤ 255) ∧ RV (g0 w) w v (bsl bs) := by
  obtain ⟨a, len, cap, rfl⟩ := okWide_slice ht hv
  obtain ⟨fuel, hf⟩ := h
  obtain ⟨x, hx, hl, hr⟩ := rd_slice (enc := enc) (w := w) ht hc (by omega) hby (fun _ => rfl) (rd_byte he) _ _ _ hf hw
  exact ⟨x, hx, (hr 0 _ _ rfl rfl).1⟩
end Go.Hm
end
section
namespace Go.Hm
open Go Go.RowKit
section
variable {P : Program} {C : Nat → Prop} {w : World} {g0 : Gh} {H : Nm → Option AO} {n : Nat} {gl : Nat → Option (List AV)} {st : St} {K : St → Prop} {E : AV → St → Prop} {d f : Nat} {ty : TypeId} {ps : String} {aft : Array Edge} {gd : Option (Nat × Bool)} {a0 a1 : Operand} {Ts : Array TypeId} {bs : List Int} {xs : List Txt} {pos : Nat}
def OfOk (P : Program) (gl : Nat → Option (List AV)) (f : FuncId) : Prop := ∀ (H : Nm → Option AO) (bs : List Int) (pos : Nat) (xs : List Txt), BytesOk bs → pos ≤ 1000000 → (0 < xs.length ∧ xs.length ≤ 1000) → H (.u 1 0 0) = some (rdO bs pos) → H (.u 2 0 0) = some (.row 1 (xrows xs)) →
    FnE P gl f D12 [.pt (.u 1 0 0) 0, .hs (.u 2 0 0) 1 0 xs.length] H (fun _ z H' => ∃ v, z = tx v ∧ v ∈ xs ∧ H' (.u 1 0 0) = some (rdO bs (pos + 1))) noE
theorem x_of {t0 t1 : Nat} (hF : OfOk P gl f) (a : Nat) (xs : List Txt) (hb : BytesOk bs) (hpos : pos ≤ 1000000) (hx : 0 < xs.length ∧ xs.length ≤ 1000 := by first | (simp; done) | fail) (hV : H (.u 2 0 0) = none) (hd : d < n := by first | (simp; done) | fail)
    (h0 : st.tm t0 = .pt (.u 1 0 0) 0) (h1 : st.tm t1 = .hs (.s a) 1 0 xs.length) (hH : st.hp (.u 1 0 0) = some (rdO bs pos)) (hL : st.hp (.s a) = some (.row 1 (xrows xs)))
    (h : ∀ v, v ∈ xs → K ((st.rdr a d (rdO bs (pos + 1))).put (some d) (tx v))) :
    SemOp (ctx0 P C w g0 H n gl) ⟨some d, .call ⟨.value (.func f), #[.tmp t0, .tmp t1], Ts⟩, ty, ps, aft, gd⟩ K E st := by
  have e1 : (st.move (.s a) (.u 2 0 0)).hp (.u 1 0 0) = some (rdO bs pos) := by simp [hH]
  have e2 : (st.move (.s a) (.u 2 0 0)).hp (.u 2 0 0) = some (.row 1 (xrows xs)) := by simp [hL]
  have hc := rk_comp (a := a) (d := d) (Hs := dsub D12 (st.move (.s a) (.u 2 0 0)).hp) (by simp [hH]) (by simp [hL])
  refine o_mv (.s a) (.u 2 0 0) (.inl rfl) (.inr (by simp [ctx0, hV])) ?_
  refine SemOp.weak (K' := fun s => ∃ v H1, v ∈ xs ∧ H1 (.u 1 0 0) = some (rdO bs (pos + 1)) ∧ s = (((st.move (.s a) (.u 2 0 0)).call d D12 (dsub D12 (st.move (.s a) (.u 2 0 0)).hp) H1).put (some d) (tx v))) ?_ ?_
  · refine x_mutD (az := [.pt (.u 1 0 0) 0, .hs (.u 2 0 0) 1 0 xs.length]) D12 (fun n h => D12_root h) (fun k i j he => ?_) hd ?_ (hF _ bs pos xs hb hpos hx (by simp [hH]) (by simp [hL])) ?_
    · by_cases hu : Nm.u k i j = .u 1 0 0
      · right
        rw [hu]
        simp [hH]
      · by_cases hu2 : Nm.u k i j = .u 2 0 0
        · right
          rw [hu2]
          simp [hL]
        · left
          simp at hu hu2
          simp only [D12_eq, Nm.under, Bool.or_eq_false_iff, decide_eq_false_iff_not]
          refine ⟨fun e => ?_, fun e => ?_⟩
          · injection e with e1 e2 e3
            exact hu e1 e2 e3
          · injection e with e1 e2 e3
            exact hu2 e1 e2 e3
    · simp [h0, h1]
    · rintro y H1 ⟨v, rfl, hv, hH1⟩
      exact ⟨v, H1, hv, hH1, rfl⟩
  · rintro s ⟨v, H1, hv, hH1, rfl⟩
    refine ⟨((st.rdr a d (rdO bs (pos + 1))).put (some d) (tx v)).hp, fun m ob e => ?_, ?_⟩
    · simp only [put_hp, rdr_hp] at e
      split at e
      · rename_i hm
        subst hm
        simp only [put_hp, St.call, St.nm]
        simp [hH1]
        exact Option.some.inj e
      · split at e
        · cases e
        · rename_i hm1 hm2
          simp only [Bool.or_eq_true, not_or, Bool.not_eq_true] at hm2
          obtain ⟨⟨h12, hsd⟩, hsa⟩ := hm2
          have hu2 : Nm.under (.u 2 0 0) m = false := by
            simp only [D12_eq, Bool.or_eq_false_iff] at h12
            exact h12.2
          obtain ⟨o, ho, rfl⟩ := Option.map_eq_some_iff.1 e
          simp only [put_hp, St.call, St.nm, h12, hsd, Bool.or_false, Bool.false_eq_true, if_false, St.move, hmv, hu2, hsa, ho, Option.map_some, Option.some.injEq]
          rw [AO.tr_tr, ← hc]
          rfl
    · have ht : (((st.move (.s a) (.u 2 0 0)).call d D12 (dsub D12 (st.move (.s a) (.u 2 0 0)).hp) H1).put (some d) (tx v)).tm = ((st.rdr a d (rdO bs (pos + 1))).put (some d) (tx v)).tm := by
        funext t
        by_cases e : t = d
        · simp [St.put, e]
        · simp only [St.put, e, if_false]
          show (((st.tm t).tr (mv (.s a) (.u 2 0 0))).tr (cf d D12 (dsub D12 (st.move (.s a) (.u 2 0 0)).hp))) = (st.tm t).tr (rk a d)
          rw [AV.tr_tr, ← hc]
      rw [ht]
      exact h v hv
end
theorem txS {k t a b : Int} (hk : 0 ≤ k ∧ k ≤ 11 := by omega) (ht : 0 ≤ t ∧ t ≤ 99 := by omega) (ha : 0 ≤ a ∧ a ≤ 99 := by omega) (hb : (0 ≤ b ∧ b ≤ 99) ∨ (k = 5 ∧ b = -1) := by omega)
    (hto : k = 7 ∨ k = 8 → t = 0 ∧ b = 0 := by omega) (hb0 : k = 0 ∨ k = 1 ∨ k = 3 ∨ k = 4 → b = 0 := by omega) (ha0 : 9 ≤ k → a = 0 ∧ b = 0 := by omega) : TxtS ⟨k, t, a, b⟩ := by
  refine ⟨hk, ?_, hto, hb0, ha0⟩
  intro n hn
  simp only [numsOf] at hn
  split at hn
  · simp at hn; omega
  · split at hn
    · simp at hn; omega
    · split at hn
      · split at hn
        · simp at hn; omega
        · simp at hn; omega
      · split at hn
        · simp at hn; omega
        · simp at hn; omega
theorem stm1 {x : Stm} (h : TxtS x) : ∀ s ∈ [x], TxtS s := by simpa using h
theorem stm2 {x y : Stm} (h : TxtS x) (h2 : TxtS y) : ∀ s ∈ [x, y], TxtS s := by simpa using ⟨h, h2⟩
theorem stmApp {L M : List Stm} (h : ∀ s ∈ L, TxtS s) (h2 : ∀ s ∈ M, TxtS s) : ∀ s ∈ L ++ M, TxtS s := fun s hs => by
  rcases List.mem_append.1 hs with hs | hs
  · exact h s hs
  · exact h2 s hs
theorem stmSnoc {L : List Stm} {x : Stm} (h : ∀ s ∈ L, TxtS s) (h2 : TxtS x) : ∀ s ∈ L ++ [x], TxtS s := stmApp h (stm1 h2)
theorem stmIns {L M : List Stm} {a : Nat} (h : ∀ s ∈ L, TxtS s) (h2 : ∀ s ∈ M, TxtS s) : ∀ s ∈ L.take a ++ M ++ L.drop a, TxtS s :=
  stmApp (stmApp (fun s hs => h s (List.mem_of_mem_take hs)) h2) fun s hs => h s (List.mem_of_mem_drop hs)
def BlkT (k : Blk) : Prop := (∀ s ∈ k.body, TxtS s) ∧ Small k.params ∧ (¬ k.kind = 1 → k.params = [])
structure GenT (p : Prg) : Prop extends GenP p where
  txt : TxtP p
  parT : ∀ k ∈ p, k.params.length ≤ 1
  lenT : p.length ≤ 7
theorem GenT.txtB {p : Prg} (h : GenT p) : TxtB p := ⟨h.txt, h.lenT, h.parT, fun k hk => by have := h.body k hk; omega⟩
theorem GenT.one {k : Blk} (h : k.parent = -1) (hk : k.kind = 0) (hp : k.params.length ≤ 1) (hb : k.body.length ≤ 14) (hT : BlkT k) : GenT [k] := by
  refine ⟨GenP.one h (by omega) hb, ⟨⟨k.body, [], ?_⟩, fun i q hq hi => ?_, fun q hq => ?_⟩, by simpa using hp, by simp⟩
  · have := hT.2.2 (by omega)
    obtain ⟨a, b, c, d⟩ := k
    simp only at h hk this
    subst h hk this
    rfl
  · rw [List.getElem?_singleton, if_neg (by omega)] at hq
    cases hq
  · simp at hq
    subst hq
    exact hT.1
theorem GenT.add {p : Prg} {k : Blk} (h : GenT p) (hl : p.length ≤ 6) (hp : 0 ≤ k.parent ∧ k.parent < p.length) (hk : k.kind = 1 ∨ k.kind = 2) (h1 : k.params.length ≤ 1) (h2 : k.body.length ≤ 14) (hT : BlkT k) : GenT (p ++ [k]) := by
  refine ⟨GenP.add h.toGenP (by omega) hp (by omega) h2, ⟨?_, fun i q hq hi => ?_, fun q hq => ?_⟩, fun q hq => ?_, by simp; omega⟩
  · obtain ⟨b, ks, e⟩ := h.txt.head
    exact ⟨b, ks ++ [k], by rw [e]; rfl⟩
  · rw [List.getElem?_append] at hq
    split at hq
    · exact h.txt.heads i q hq hi
    · have : q = k := by
        have := List.mem_of_getElem? hq
        simpa using this
      subst this
      exact ⟨hk, by omega, hT.2.1, fun e => hT.2.2 (by omega)⟩
  · rcases List.mem_append.1 hq with hq | hq
    · exact h.txt.stms q hq
    · simp at hq; subst hq; exact hT.1
  · rcases List.mem_append.1 hq with hq | hq
    · exact h.parT q hq
    · simp at hq; subst hq; exact h1
theorem setBody_same {p : Prg} {i c : Nat} {L : List Stm} {q : Blk} (h : (setBody p i L)[c]? = some q) : ∃ r, p[c]? = some r ∧ q.kind = r.kind ∧ q.parent = r.parent ∧ q.params = r.params ∧ (q.body = r.body ∨ q.body = L) := by
  cases hr : p[c]? with
  | none =>
    have := (gS h).1
    rw [setBody_len] at this
    rw [gE this] at hr
    cases hr
  | some r =>
    rw [setBody_get hr] at h
    refine ⟨r, rfl, ?_⟩
    split at h
    · obtain rfl := Option.some.inj h
      exact ⟨rfl, rfl, rfl, .inr rfl⟩
    · obtain rfl := Option.some.inj h
      exact ⟨rfl, rfl, rfl, .inl rfl⟩
theorem txtP_map {p q : Prg} (h : TxtP p) (hl : q.length = p.length) (hs : ∀ (c : Nat) k, q[c]? = some k → ∃ r, p[c]? = some r ∧ k.kind = r.kind ∧ k.parent = r.parent ∧ k.params = r.params ∧ ∀ s ∈ k.body, TxtS s) : TxtP q := by
  obtain ⟨b, ks, e⟩ := h.head
  have hne : 0 < q.length := by rw [hl, e]; simp
  refine ⟨?_, fun i k hk hi => ?_, fun k hk => ?_⟩
  · obtain ⟨k, qs, rfl⟩ : ∃ k qs, q = k :: qs := by cases q with
      | nil => simp at hne
      | cons k qs => exact ⟨k, qs, rfl⟩
    obtain ⟨r, hr, e1, e2, e3, _⟩ := hs 0 k rfl
    rw [e] at hr
    obtain rfl := Option.some.inj hr
    obtain ⟨a, b, c, d⟩ := k
    simp only at e1 e2 e3
    subst e1 e2 e3
    exact ⟨d, qs, rfl⟩
  · obtain ⟨r, hr, e1, e2, e3, _⟩ := hs i k hk
    obtain ⟨h1, h2, h3, h4⟩ := h.heads i r hr hi
    exact ⟨by rw [e1]; exact h1, by rw [e2]; exact h2, by rw [e3]; exact h3, by rw [e1, e3]; exact h4⟩
  · obtain ⟨i, hi⟩ := List.getElem?_of_mem hk
    obtain ⟨r, _, _, _, _, h5⟩ := hs i k hi
    exact h5
theorem GenT.setBody {p : Prg} {i : Nat} {L : List Stm} (h : GenT p) (hL : L.length ≤ 14) (hT : ∀ s ∈ L, TxtS s) : GenT (setBody p i L) := by
  refine ⟨GenP.setBody h.toGenP hL, txtP_map h.txt setBody_len fun c k hk => ?_, fun k hk => ?_, by rw [setBody_len]; exact h.lenT⟩
  · obtain ⟨r, hr, e1, e2, e3, e4⟩ := setBody_same hk
    refine ⟨r, hr, e1, e2, e3, ?_⟩
    rcases e4 with e | e <;> rw [e]
    · exact h.txt.stms r (List.mem_of_getElem? hr)
    · exact hT
  · obtain ⟨r, hr, h1, _⟩ := setBody_mem hk
    rw [h1]; exact h.parT r hr
theorem GenT.bare {p : Prg} (h : GenT p) : GenT (bareP p) := by
  refine ⟨GenP.bare h.toGenP, txtP_map h.txt (by simp [bareP]) fun c k hk => ?_, fun k hk => ?_, by simpa [bareP] using h.lenT⟩
  · simp only [bareP, List.getElem?_map] at hk
    obtain ⟨r, hr, rfl⟩ := Option.map_eq_some_iff.1 hk
    exact ⟨r, hr, rfl, rfl, rfl, fun s hs => h.txt.stms r (List.mem_of_getElem? hr) s (List.mem_filter.1 hs).1⟩
  · obtain ⟨r, hr, rfl⟩ := List.mem_map.1 hk
    exact h.parT r hr
end Go.Hm
end
