/-
  Own texts, joined by mkclaim.py: Hm59, Hm60.
-/
import Derived.Test.YtopgafhjmbfaoaaM11
import Derived.Test.YtopgafhjmbfaoaaM10

section
/-
  The heap machine, part 59: renamed is renamed back. Own work.
-/
namespace Go.Hm
open Go Go.RowKit

section
variable {p : Prg} {b : Nat} {x y : Int} (H : RenH p b x y)
include H

omit H in
theorem madeAs_ren {i : Nat} {j c : Int} {S : Nat → Bool} : madeAs (renS S x y p) i j c = madeAs p i j c := by
  unfold madeAs
  rw [renS_len, renS_get]
  cases p[j.toNat]? with
  | none => rfl
  | some k => simp only [Option.map_some, renIf_kind, renIf_parent]
theorem swapI_rng {n : Int} (h : 0 ≤ n ∧ n ≤ 7) : 0 ≤ swapI n x y ∧ swapI n x y ≤ 7 := by
  have := H.hy
  unfold swapI
  split <;> omega
omit H in
theorem isNm_iff {n : Int} : isNm n = true ↔ 0 ≤ n ∧ n ≤ 7 := by simp [isNm]
theorem RenH.stmOk {S : Nat → Bool} {i : Nat} {k k' : Blk} {s : Stm} (hk : k'.kind = k.kind) (h : StmOk p i k s = true) : StmOk (renS S x y p) i k' (s.ren x y) = true := by
  have hx := H.hx
  have hy := H.hy
  have h1 : isNm (s.ren x y).to = true := by
    simp only [StmOk, Bool.and_eq_true] at h
    have h1 := isNm_iff.1 (show isNm s.to = true by simp [h.1.1])
    rw [isNm_iff]
    simp only [Stm.ren]
    split
    · exact swapI_rng H h1
    · exact h1
  have h2 : (s.ren x y).reads.all isNm = true := by
    rw [Stm.ren_reads hx.1 hy.1, List.all_map]
    simp only [StmOk, Bool.and_eq_true] at h
    refine List.all_eq_true.2 fun n hn => ?_
    have := isNm_iff.1 (List.all_eq_true.1 h.1.2 n hn)
    exact isNm_iff.2 (swapI_rng H this)
  have hk1 := StmOk.kind h
  obtain ⟨c, t, a, d⟩ := s
  simp only [StmOk, Bool.and_eq_true] at h
  have h3 := h.2
  simp only [StmOk, h1, h2, Bool.true_and]
  clear h h1 h2
  have hc : c = 0 ∨ c = 1 ∨ c = 2 ∨ c = 3 ∨ c = 4 ∨ c = 5 ∨ c = 6 ∨ c = 7 ∨ c = 8 ∨ c = 9 ∨ c = 10 ∨ c = 11 := by simp only at hk1; omega
  rcases hc with rfl | rfl | rfl | rfl | rfl | rfl | rfl | rfl | rfl | rfl | rfl | rfl <;> simp only [Stm.ren, madeAs_ren, hk, Stm.sets] <;> first | (simp; done) | (simpa using h3)
omit H in
theorem StmOk_renS {S : Nat → Bool} {i : Nat} {k : Blk} {s : Stm} : StmOk (renS S x y p) i k s = StmOk p i k s := by
  simp only [StmOk, madeAs_ren]
theorem RenH.headOk {c : Bool} {i : Nat} {k : Blk} (h : HeadOk i k) : HeadOk i (renIf c x y k) := by
  unfold renIf
  split
  · unfold HeadOk at h ⊢
    simp only [Blk.ren, List.length_map]
    split
    · rename_i e
      rw [if_pos e] at h
      exact h
    · rename_i e
      rw [if_neg e] at h
      obtain ⟨a1, a2, a3, a4, a5⟩ := h
      refine ⟨a1, a2, a3, a4, ?_⟩
      rcases a5 with a5 | ⟨b1, b2, b3, b4⟩
      · exact .inl a5
      · refine .inr ⟨b1, b2, ?_⟩
        match hp : k.params, b1 with
        | [n], _ =>
          rw [hp] at b3 b4
          exact swapI_rng H ⟨b3, b4⟩
  · exact h
theorem RenH.blkOk {S : Nat → Bool} {i : Nat} (hi : i < p.length) : blkOk (renS S x y p) i = true := by
  obtain ⟨k, hk⟩ : ∃ k, p[i]? = some k := ⟨_, List.getElem?_eq_getElem hi⟩
  have h1 := H.sh.head i k hk
  have h2 := H.sh.stm i k hk
  have h3 := H.sh.body k (List.mem_of_getElem? hk)
  simp only [Hm.blkOk, renS_get, hk, Option.map_some, Hm.headOk, Bool.and_eq_true, decide_eq_true_eq]
  refine ⟨⟨H.headOk h1, ?_⟩, ?_⟩
  · unfold renIf
    split
    · simpa [Blk.ren] using h3
    · exact h3
  · refine List.all_eq_true.2 fun s hs => ?_
    cases hS : S i with
    | false =>
      rw [hS] at hs
      simp only [renIf, Bool.false_eq_true, if_false] at hs ⊢
      rw [StmOk_renS]
      exact h2 s hs
    | true =>
      rw [hS] at hs
      simp only [renIf, if_true, Blk.ren, List.mem_map] at hs
      obtain ⟨s0, hs0, rfl⟩ := hs
      exact H.stmOk (by simp [renIf, Blk.ren]) (h2 s0 hs0)
omit H in
theorem makes_ren {s : Stm} {c : Int} : makes (s.ren x y) c = makes s c := by
  unfold makes
  simp only [Stm.ren]
  by_cases h : s.kind = 3 ∨ s.kind = 4
  · rw [if_neg (by omega)]
  · have h3 : (s.kind == 3) = false := by simp; omega
    have h4 : (s.kind == 4) = false := by simp; omega
    simp [h3, h4]
omit H in
theorem madeIn_ren {S : Nat → Bool} {i : Nat} : madeIn (renS S x y p) i = madeIn p i := by
  unfold madeIn
  rw [renS_get]
  cases hk : p[i]? with
  | none => rfl
  | some k =>
    simp only [Option.map_some, renIf_parent, renS_get]
    cases hq : p[k.parent.toNat]? with
    | none => rfl
    | some q =>
      simp only [Option.map_some]
      unfold renIf
      split
      · simp only [Blk.ren, List.filter_map, List.length_map]
        have : (fun s => makes s (i : Int)) ∘ (fun s => Stm.ren s x y) = fun s => makes s (i : Int) := by
          funext s
          exact makes_ren
        rw [this]
      · rfl
theorem RenH.shape : shapeOk (renS (touches p b x) x y p) = true := by
  simp only [shapeOk, renS_len, Bool.and_eq_true, decide_eq_true_eq]
  refine ⟨⟨H.sh.len, ?_⟩, ?_⟩
  · exact List.all_eq_true.2 fun i hi => H.blkOk (List.mem_range.1 hi)
  · refine List.all_eq_true.2 fun i hi => ?_
    rw [madeIn_ren]
    rcases Nat.eq_zero_or_pos i with e | e
    · simp [e]
    · simp [H.made i e (List.mem_range.1 hi)]
/-- what is declared stays declared -/
theorem RenH.declOk {c : Nat} {k : Blk} (hk : p[c]? = some k) (h0 : 0 < c) {n : Nat} (hn : n < 8) : declOk (renS (touches p b x) x y p) c (renIf (touches p b x c) x y k) n = true := by
  have hd := H.decl c k h0 hk
  have hb := H.hb
  have hx := H.hx
  have hy := H.hy
  have hne : c ≠ 0 := by omega
  cases hS : touches p b x c with
  | true =>
    have hf := H.freeS hk hS
    have hS' := hS
    simp only [touches, hk, Bool.and_eq_true, decide_eq_true_eq, owner] at hS'
    simp only [renIf, if_true, Hm.declOk, ren_d9 hx hy H.hxy hf, ren_d10 hx hy H.hxy hf, ren_params H.hxy hf]
    by_cases e1 : (n : Int) = x
    · rw [e1, swp_x]
      have e9 : y ∉ k.dc 9 := fun h => hf.d9 (mem_sorted.1 h).1
      have e10 : y ∉ k.dc 10 := fun h => hf.d10 (mem_sorted.1 h).1
      simp [e9, e10]
    · by_cases e2 : (n : Int) = y
      · rw [e2, swp_y H.hxy]
        obtain ⟨m, hm⟩ : ∃ m : Nat, x = m := ⟨x.toNat, by omega⟩
        have hdx := hd m (by omega)
        rw [← hm] at hdx
        simp only [Hm.declOk] at hdx
        by_cases h10 : x ∈ k.dc 10
        · have hl : isLocal c k x = false := by simp [isLocal, h10]
          have h9 : x ∉ k.dc 9 := fun h9 => by simp [h9, h10] at hdx
          simp only [hne, h9, or_self, if_false, hl, Bool.false_eq_true] at hS'
          rw [H.outer_new hk h0 hS'.2]
          have e : ¬ ((b : Int) < 0) := by omega
          have hpar : x ∉ k.params := fun hp => by simp [h10, hp] at hdx
          simp [h9, hpar, e]
        · by_cases h9 : x ∈ k.dc 9
          · have hpar : x ∉ k.params := fun hp => by simp [h9, hp] at hdx
            simp [h10, hpar]
          · simp [h10, h9]
      · rw [swp_o e1 e2, H.outer_other e1 e2 hk h0]
        exact hd n hn
  | false =>
    have := hd n hn
    simp only [renIf, Bool.false_eq_true, if_false]
    simp only [Hm.declOk] at this ⊢
    by_cases h10 : (n : Int) ∈ k.dc 10
    · have : outer (renS (touches p b x) x y p) c n = outer p c n := by
        by_cases e1 : (n : Int) = x
        · rw [e1] at this h10 ⊢
          have hl : isLocal c k x = false := by simp [isLocal, h10]
          have h9 : x ∉ k.dc 9 := fun h9 => by simp [h9, h10] at this
          refine H.outer_old hk h0 fun ho => ?_
          have : touches p b x c = true := by
            simp only [touches, hk, Bool.and_eq_true, decide_eq_true_eq, owner, hne, h9, or_self, if_false, hl, Bool.false_eq_true, ho, and_true]
            exact mem_us.2 (.inr (.inr (.inr h10)))
          rw [this] at hS; cases hS
        · by_cases e2 : (n : Int) = y
          · refine H.outer_out hk h0 ?_
            cases hi : inside p c b with
            | false => rfl
            | true =>
              have hf := H.free c k hk hi
              rw [e2] at h10
              exact absurd (mem_sorted.1 h10).1 hf.d10
          · exact H.outer_other e1 e2 hk h0
      rw [this]
      assumption
    · simpa [h10] using this
theorem RenH.valid : progOk (renS (touches p b x) x y p) = true := by
  simp only [progOk, H.shape, Bool.true_and, renS_len]
  refine List.all_eq_true.2 fun c hc => ?_
  have hc := List.mem_range.1 hc
  rcases Nat.eq_zero_or_pos c with e | e
  · simp [e]
  · obtain ⟨k, hk⟩ : ∃ k, p[c]? = some k := ⟨_, List.getElem?_eq_getElem hc⟩
    have : declsOk (renS (touches p b x) x y p) c = true := by
      simp only [declsOk, renS_blk (b := b) (x := x) (y := y) hk]
      exact List.all_eq_true.2 fun n hn => H.declOk hk e (List.mem_range.1 hn)
    simp [this]
/-- the blocks that the new name is used in are those of the old one -/
theorem RenH.touch {c : Nat} : touches (renS (touches p b x) x y p) b y c = touches p b x c := by
  have hx := H.hx
  have hy := H.hy
  have hb := H.hb
  cases hk : p[c]? with
  | none => simp [touches, renS_get, hk]
  | some k =>
    cases hS : touches p b x c with
    | true =>
      have hf := H.freeS hk hS
      have hS' := hS
      simp only [touches, hk, Bool.and_eq_true, decide_eq_true_eq] at hS'
      obtain ⟨hu, ho⟩ := hS'
      have hq := renS_blk (b := b) (x := x) (y := y) hk
      rw [hS] at hq
      simp only [renIf, if_true] at hq
      have h0 : 0 < c := by
        rcases Nat.eq_zero_or_pos c with e | e
        · subst e
          simp only [owner, hk, true_or, if_true] at ho
          omega
        · exact e
      have hne : c ≠ 0 := by omega
      have ho2 : owner (renS (touches p b x) x y p) c y = b := by
        simp only [owner, hk] at ho
        simp only [owner, hq, ren_d9 hx hy H.hxy hf, ren_local hx hy H.hxy hf, swp_y H.hxy]
        by_cases h9 : x ∈ k.dc 9
        · rw [if_pos (.inr h9)] at ho; omega
        · simp only [hne, h9, or_self, if_false] at ho ⊢
          cases hl : isLocal c k x with
          | true => rw [hl] at ho; simpa using ho
          | false =>
            rw [hl] at ho
            simp only [Bool.false_eq_true, if_false] at ho ⊢
            exact H.outer_new hk h0 ho
      simp only [touches, hq, ho2, blkren_us hx hy H.hxy hf, swp_y H.hxy, hu, decide_true, Bool.and_self]
    | false =>
      have hq := renS_blk (b := b) (x := x) (y := y) hk
      rw [hS] at hq
      simp only [renIf, Bool.false_eq_true, if_false] at hq
      simp only [touches, hq]
      by_cases hu : y ∈ k.us
      · have hi : inside p c b = false := by
          cases hi : inside p c b with
          | false => rfl
          | true =>
            have hf := H.free c k hk hi
            rcases mem_us.1 hu with h | h | h | h
            · exact absurd (mem_sorted.1 h).1 hf.rd
            · exact absurd (mem_sorted.1 h).1 hf.bd
            · exact absurd (mem_sorted.1 h).1 hf.d9
            · exact absurd (mem_sorted.1 h).1 hf.d10
        have ho : owner (renS (touches p b x) x y p) c y ≠ b := by
          intro ho
          have ho2 : owner p c y = b := by
            rw [← ho]
            simp only [owner, hk, hq]
            by_cases h9 : c = 0 ∨ y ∈ k.dc 9
            · simp [h9]
            · rw [if_neg h9, if_neg h9, H.outer_out hk (by omega) hi]
          rw [inside_of_owner H.sh.heads hb hk ho2] at hi
          cases hi
        simp [hu, ho]
      · simp [hu]
theorem RenH.backP : renS (touches p b x) y x (renS (touches p b x) x y p) = p := by
  apply List.ext_getElem?
  intro c
  rw [renS_get, renS_get]
  cases hk : p[c]? with
  | none => rfl
  | some k =>
    simp only [Option.map_some, Option.some.injEq]
    cases hS : touches p b x c with
    | false => simp [renIf]
    | true =>
      simp only [renIf, if_true]
      exact Blk.ren_back H.hx.1 H.hy.1 (H.sh.names k (List.mem_of_getElem? hk)) (H.freeS hk hS)
omit H in
theorem inside_renS {c : Nat} : inside (renS (touches p b x) x y p) c b = inside p c b := by
  have key : ∀ (n : Nat) (j : Int), insideF (renS (touches p b x) x y p) b n j = insideF p b n j := by
    intro n
    induction n with
    | zero => intro j; rfl
    | succ n ih =>
      intro j
      simp only [insideF, renS_get]
      cases p[j.toNat]? with
      | none => rfl
      | some k => simp only [Option.map_some, renIf_parent, ih]
  simp only [inside, renS_len, key]
omit H in
theorem clash_renS : clash (renS (touches p b x) x y p) b x = otherTo p (renS (touches p b x) x y p) b x p.length := by
  unfold clash otherTo
  rw [renS_len]
  congr 1
  funext c
  simp only [clashAt, inside_renS, usAt]
  cases hi : inside p c b with
  | false =>
    simp only [Bool.false_and]
    split <;> simp
  | true =>
    have := inside_ge hi
    have e : b ≤ c := by omega
    simp only [e, decide_true, Bool.true_and]
    split
    · rename_i h; simp [h]
    · rename_i h; simp [h]
theorem RenH.fine : renOk (renS (touches p b x) x y p) b y x = !otherTo p (renS (touches p b x) x y p) b x p.length := by
  obtain ⟨k, hk⟩ : ∃ k, p[b]? = some k := ⟨_, List.getElem?_eq_getElem H.hbl⟩
  have hS := H.self.1
  have hf := H.freeS hk hS
  have hq := renS_blk (b := b) (x := x) (y := y) hk
  rw [hS] at hq
  simp only [renIf, if_true] at hq
  have hx := H.hx
  have hy := H.hy
  have hbl := H.hbl
  have e1 : decide ((b : Int) < p.length) = true := by simpa using hbl
  have e2 : (y != x) = true := by simpa using Ne.symm H.hxy
  have hl : isLocal b (k.ren x y) y = true := by rw [ren_local hx hy H.hxy hf, swp_y H.hxy]; exact H.loc k hk
  have hkk : (k.ren x y).kind = 1 := H.fn k hk
  simp only [renOk, H.valid, renS_len, e1, hx, hy, e2, decide_true, Bool.and_true, Bool.true_and, renAt, Int.toNat_natCast, hq, hl, hkk, clash_renS]
  simp
theorem RenH.backOk (hr : renOk p b x y = true) : BackOk p b x y := by
  have e : renG p b x y = renS (touches p b x) x y p := by simp [renG, hr]
  refine ⟨by rw [e]; exact H.valid, by rw [e]; exact H.fine, fun h => ?_⟩
  rw [e] at h ⊢
  rw [renG, if_pos h, renS_congr (T := touches p b x) (fun c _ => H.touch)]
  exact H.backP
end
theorem backOk {p : Prg} {b : Nat} {x y : Int} (hs : Sml p) (hr : renOk p b x y = true) : BackOk p b x y := (RenH.of hs hr).backOk hr
end Go.Hm
end

section
/-
  The heap machine, part 60: how bytes are read that are handed to a law. Own work.
-/
namespace Go.Hm
open Go Go.RowKit Go.ChangeShapes Go.WideShapes Go.Deep
variable {H : Type} {enc : TypeId × Value → H} {P : Program} {w : World}
theorem rd_byte {t : TypeId} (ht : P.underlying t = some (.int .u8)) : ReadsAs enc P w t (fun k : Int => [byt k]) (fun k => 0 ≤ k ∧ k ≤ 255) := by
  intro n cs y h _
  obtain ⟨k, rfl, _, hw⟩ := DataW.trod_int ht h
  refine ⟨k, by simpa [Lit.wf, IntKind.min, IntKind.max, IntKind.signed, IntKind.bits] using hw, rfl, fun j v a hv ha => ?_⟩
  cases j with
  | zero =>
    simp at hv ha
    subst hv; subst ha
    exact ⟨.sc _, rfl⟩
  | succ j => simp at hv
theorem rd_bytes {t e : TypeId} (ht : P.underlying t = some (.slice e)) (he : P.underlying e = some (.int .u8)) (hc : P.cellsOf e = 1) (hby : 0 < P.bytesOf e)
    {r : Reach} {b0 : Nat} {v : Value} {d : DataW H} {p : List MemPlace} (hv : Value.okWide P w r b0 t v) (h : DataW.Trod enc P w 0 (fun _ => true) true t v d p) (hw : ∀ m ∈ d.weights P t, m ≤ reachBytes) :
    ∃ bs : List Int, (bs.length ≤ 1152921504606846976 ∧ ∀ x ∈ bs, 0 ≤ x ∧ x ≤ 255) ∧ RV (g0 w) w v (bsl bs) := by
  obtain ⟨a, len, cap, rfl⟩ := okWide_slice ht hv
  obtain ⟨fuel, hf⟩ := h
  obtain ⟨x, hx, hl, hr⟩ := rd_slice (enc := enc) (w := w) ht hc (by omega) hby (fun _ => rfl) (rd_byte he) _ _ _ hf hw
  exact ⟨x, hx, (hr 0 _ _ rfl rfl).1⟩
end Go.Hm
end
