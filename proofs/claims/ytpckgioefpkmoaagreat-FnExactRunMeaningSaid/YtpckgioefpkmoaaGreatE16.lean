/-
  Own texts, joined by mkclaim.py: Hm81, Hm82.
-/
import Derived.Test.YtpckgioefpkmoaaGreatE12
import Derived.Test.YtpckgioefpkmoaaGreatE13
import Derived.Test.YtpckgioefpkmoaaGreatE11
import Derived.Test.YtpckgioefpkmoaaGreatE14
set_option linter.unusedSimpArgs false
set_option linter.unusedVariables false

section
namespace Go.Hm
open Go Go.RowKit
def markO (n : Nat) (c : Int) : List (Int × Int) := (List.range n).map (fun i : Nat => (c + 2 * i, c + 2 * i + 1))
def trI (l : List (Nat × Nat)) : List (Int × Int) := l.map fun v => ((v.1 : Int), (v.2 : Int))
section
variable {l : List (Nat × Nat)} {c : Int} {i : Nat}
@[simp] theorem markO_len {n : Nat} : (markO n c).length = n := by simp [markO]
theorem markO_set {xs : List (Int × Int)} (h : i < xs.length) : (markO i c ++ xs.drop i).set i (c + 2 * i, c + 2 * i + 1) = markO (i + 1) c ++ xs.drop (i + 1) := by
  rw [List.set_append_right _ _ (by simp)]
  simp only [markO_len, Nat.sub_self]
  rw [List.drop_eq_getElem_cons h, List.set_cons_zero]
  simp [markO, List.range_succ]
theorem orows_set2 {L : List (Int × Int)} {a b : Int} (h : i < L.length) : rowsSet (rowsSet (orows L) i 0 [iv a]) i 1 [iv b] = orows (L.set i (a, b)) := by
  apply List.ext_getElem?
  intro j
  simp only [rowsSet, List.getElem?_modify, orows_get, List.getElem?_set]
  by_cases e1 : i = j
  · subst e1
    have : L[i]? = some L[i] := List.getElem?_eq_getElem h
    simp [h]
  · simp [e1]
@[simp] theorem trI_len : (trI l).length = l.length := by simp [trI]
theorem nrows_trI : nrows l = orows (trI l) := by simp [nrows, trI, orows]
end
end Go.Hm
end

section
namespace Go.Hm
open Go Go.RowKit
def Rsl.av (r : Rsl) : AV := .agg [isl r.out, iv r.en, iv r.left, isl r.gl]
@[simp] theorem Rsl.av_eq {r : Rsl} : r.av = .agg [isl r.out, iv r.en, iv r.left, isl r.gl] := rfl
def Rsl.mark (r : Rsl) (c : Int) : Rsl := ⟨markI r.out.length c, r.en, r.left, markI r.gl.length (c + r.out.length)⟩
section
variable {hp : Nm → Option AO} {n : Nm} {r : Rsl} {c : Int}
theorem OwnR.hcln {H' : Nm → Option AO} (h : OwnR H' n r) : OwnR (Hm.hcln H') n r := ⟨hcln_row h.out (by simp), hcln_row h.gl (by simp)⟩
theorem bw_rslC (h : OwnR hp n r) : ∀ (j : Nat) a a', (r.own n)[j]? = some a → [isl r.out, iv r.en, iv r.left, isl r.gl][j]? = some a' → Bw hp noD a a'
  | 0, a, a', ha, ha' => by obtain rfl := Option.some.inj ha; obtain rfl := Option.some.inj ha'; exact bw_ints h.out rfl
  | 1, a, a', ha, ha' => by obtain rfl := Option.some.inj ha; obtain rfl := Option.some.inj ha'; exact .refl _
  | 2, a, a', ha, ha' => by obtain rfl := Option.some.inj ha; obtain rfl := Option.some.inj ha'; exact .refl _
  | 3, a, a', ha, ha' => by obtain rfl := Option.some.inj ha; obtain rfl := Option.some.inj ha'; exact bw_ints h.gl rfl
  | j + 4, a, a', ha, _ => by simp [Rsl.own] at ha
theorem bw_rsl (h : OwnR hp n r) : Bw hp noD (.agg [.hs (.c n 0 0) 1 0 r.out.length, iv r.en, iv r.left, .hs (.c n 0 3) 1 0 r.gl.length]) (.agg [isl r.out, iv r.en, iv r.left, isl r.gl]) := .agg _ _ rfl (bw_rslC h)
@[simp] theorem Rsl.mark_en : (r.mark c).en = r.en := rfl
@[simp] theorem Rsl.mark_left : (r.mark c).left = r.left := rfl
@[simp] theorem Rsl.mark_out : (r.mark c).out.length = r.out.length := by simp [Rsl.mark]
@[simp] theorem Rsl.mark_gl : (r.mark c).gl.length = r.gl.length := by simp [Rsl.mark]
end
section
variable {p : Prg} {f : Int}
theorem fuel_run (hs : Sml p) (h : fuelOk p f = true) : ∃ n : Nat, f = n ∧ n ≤ 150 ∧ ShapeP p ∧ MeantOk p n (meantW p n) := by
  obtain ⟨hpo, n, rfl, hn⟩ := fuelOk_of h
  have hP := (ValP.of hs hpo).sh
  exact ⟨n, rfl, hn, hP, meantOk hP hn⟩
theorem outG_len (hs : Sml p) : (outG p f).length ≤ 1000 := by
  unfold outG
  split
  · rename_i h
    obtain ⟨n, rfl, hn, _, hm⟩ := fuel_run hs h
    have := hm.ok.nout
    simp only [Int.toNat_natCast]
    omega
  · simp
theorem trcG_len (hs : Sml p) : (trcG p f).length ≤ 1000 := by
  unfold trcG
  split
  · rename_i h
    obtain ⟨n, rfl, hn, _, hm⟩ := fuel_run hs h
    have := hm.ok.ntr
    simp only [Int.toNat_natCast]
    omega
  · simp
theorem resG_len (hs : Sml p) : (resG p f).out.length ≤ 1000 ∧ (resG p f).gl.length ≤ 8 := by
  unfold resG
  split
  · rename_i h
    obtain ⟨n, rfl, hn, _, hm⟩ := fuel_run hs h
    have h1 := hm.ok.nout
    have h2 := hm.ok.glob.1
    simp only [Int.toNat_natCast, resW, shownS, List.length_map]
    omega
  · simp
end
end Go.Hm
end
