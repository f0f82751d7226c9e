/-
  Own texts, joined by mkclaim.py: Hm101, Hm102, Hm103, Hm105, Hm106, Hm108, Hm109, Hm110, Hm111, Hm112, Hm113, Hm114, Hm115, Hm126, Hm127, Hm128, Hm129, Hm130, Hm131, Hm132, Hm133, Hm134, Hm135, Hm136, Hm137.
-/
import Derived.Test.YtmaoicgfcngciaaGreatDoorY12
import Derived.Lib.Split
import Derived.Lib.ItoaNum
import Derived.Shelf.Strings.Builder1
set_option linter.unusedSimpArgs false
set_option linter.unusedVariables false
set_option maxRecDepth 100000
set_option maxHeartbeats 4000000

section
namespace Go.Hm
open Go Go.RowKit
def Steps (p : Prg) (m m' : Mch) : Prop := ∃ N, ∀ k, runM p (N + k) m = runM p k m'
theorem Steps.refl {p : Prg} (m : Mch) : Steps p m m := ⟨0, fun k => by rw [Nat.zero_add]⟩
theorem Steps.trans {p : Prg} {a b c : Mch} (h : Steps p a b) (h' : Steps p b c) : Steps p a c := by
  obtain ⟨N, h⟩ := h
  obtain ⟨M, h'⟩ := h'
  exact ⟨N + M, fun k => by rw [Nat.add_assoc, h, h']⟩
theorem Steps.one {p : Prg} {m : Mch} (h : ¬ m.ended) : Steps p m (stepM p m) := ⟨1, fun k => by rw [Nat.add_comm, runM, if_neg h]⟩
section
variable {p : Prg} {w : Wld} {m : Mch} {B : List Nat} {a b o : Nat} {c : Act} {k : Blk} {f : Frm} {x : Int} {fs : List Frm}
theorem kind_cases (hp : ShapeP p) (hk : p[b]? = some k) : k.kind = 0 ∨ k.kind = 1 ∨ k.kind = 2 := by
  have h := hp.head b k hk
  unfold HeadOk at h
  split at h <;> omega
end
section
variable {p : Prg} {w : Wld} {m : Mch} {B : List Nat} {a b o d : Nat} {c e : Act} {k : Blk} {f : Frm} {x : Int} {fs : List Frm} {s : Slt}
end
end Go.Hm
end
section
namespace Go.Hm
open Go Go.RowKit
section
variable {p : Prg} {w : Wld} {m : Mch} {B : List Nat} {a b o d up : Nat} {c e : Act} {k : Blk} {f : Frm} {x : Int} {fs : List Frm} {vs : List Val} {cs : List Nat}
end
section
variable {p : Prg} {w : Wld} {m : Mch} {B : List Nat} {a b o d up : Nat} {c e : Act} {k : Blk} {f : Frm} {x : Int} {fs : List Frm} {vs : List Val} {cs : List Nat} {st : List Nat} {s : Stm}
def Frm.at (p : Prg) (f : Frm) (l : List (Int × Int)) : Prop := (opsL p f.blk).drop f.pc = l
def Frm.next (f : Frm) : Frm := { f with pc := f.pc + 1 }
end
end Go.Hm
end
section
namespace Go.Hm
open Go Go.RowKit
section
variable {p : Prg} {w : Wld} {m : Mch} {B : List Nat} {a b o d up : Nat} {c e : Act} {k : Blk} {f : Frm} {x : Int} {fs : List Frm} {vs : List Val} {cs : List Nat} {st : List Nat} {s : Stm} {n : Nat} {R : Wld → Nat → Wld × Val}
end
section
variable {p : Prg} {n : Nat} {R : Wld → Nat → Wld × Val} {w : Wld} {a b up : Nat} {vs : List Val} {s : Stm} {k : Blk}
end
section
variable {p : Prg} {w : Wld} {i a : Nat} {v : Vw} {x : Int}
end
end Go.Hm
end
section
namespace Go.Hm
open Go Go.RowKit
section
variable {p : Prg} {w : Wld} {m : Mch} {B : List Nat} {a b o d up : Nat} {c e : Act} {k : Blk} {f : Frm} {x : Int} {fs : List Frm} {vs : List Val} {cs : List Nat} {st : List Nat} {s : Stm} {n : Nat} {R : Wld → Nat → Wld × Val}
end
section
variable {p : Prg} {m : Mch} {n i j : Nat}
end
end Go.Hm
end
section
namespace Go.Hm
open Go Go.RowKit
structure OrdOk (p : Prg) (b : Nat) (o : Int × Int) : Prop where
  code : 0 ≤ o.1 ∧ o.1 ≤ 20
  arg : 0 ≤ o.2 ∧ o.2 ≤ 1000
  fast : 2 ≤ o.1 → o.1 ≤ 4 → o.2 < (fastsL p b).length
  cell : 5 ≤ o.1 → o.1 ≤ 7 → o.2 < ((cellsL p b).length : Int) + (freesL p b).length
  name : 8 ≤ o.1 → o.1 ≤ 13 → o.2 ≤ 7
  attr : o.1 = 18 → o.2 ≤ 7
  blk : o.1 = 15 ∨ o.1 = 16 → ∃ q, p[o.2.toNat]? = some q ∧ q.parent = b ∧ 0 < o.2 ∧ q.kind = o.1 - 14
  call : o.1 = 17 → o.2 ≤ 1
  ret : o.1 = 20 → kindAt p b = 1
section
variable {p : Prg} {b : Nat} {k : Blk} {s : Stm} {x : Int} {h : Nat} {l : List (Int × Int)}
theorem nameOp_ok (hp : ShapeP p) (hk : p[b]? = some k) (hu : x ∈ k.us) {v : Int} (h0 : 0 ≤ v) (h2 : v ≤ 2) : OrdOk p b (nameOp p b x v) := by
  have hx : 0 ≤ x ∧ x ≤ 7 := by
    rw [Blk.us, mem_sorted] at hu
    exact hu.2
  have f1 := fastsL_len (p := p) (b := b)
  have f2 := cellsL_len (p := p) (b := b)
  have f3 := freesL_len (p := p) (b := b)
  rcases nameOp_sym (w := v) hp hk hu with ⟨_, e⟩ | ⟨_, e⟩ | ⟨_, i, e, hi, _⟩ | ⟨_, i, e, hi, _⟩ | ⟨_, i, e, hi, _⟩ <;> rw [e] <;> refine ⟨?_, ?_, ?_, ?_, ?_, ?_, ?_, ?_, ?_⟩ <;> simp only [] <;> omega
end
section
variable {p : Prg} {m : Mch} {nf nk nc nf' nk' nc' b e : Nat} {fs : List Frm} {f g : Frm} {o : Int × Int} {v : Val} {k : Blk} {x : Int}
end
end Go.Hm
end
section
namespace Go.Hm
open Go Go.RowKit
section
variable {p : Prg} {m : Mch} {b e : Nat} {fs : List Frm} {f g : Frm} {o : Int × Int} {v : Val} {k : Blk} {x : Int} {l : List (Int × Int)}
end
section
variable {p : Prg} {m : Mch} {b e d n i j N M : Nat} {fs : List Frm} {f g : Frm} {o : Int × Int} {v : Val} {k : Blk} {x : Int} {l : List (Int × Int)}
def Mch.add (d : Nat) (m : Mch) : Mch := { m with left := m.left + d }
end
end Go.Hm
end
section
namespace Go.Hm
open Go Go.RowKit
section
variable {p : Prg} {m : Mch} {b d n i j N M t : Nat} {fs : List Frm} {f g : Frm} {o : Int × Int} {v : Val} {k : Blk} {x : Int}
open Classical in
noncomputable def ranP (p : Prg) (n : Nat) : Mch := if h : ∃ N, (runM p N (startM p n)).ended then runM p (Classical.choose h) (startM p n) else startM p n
end
abbrev Txt := List UInt8
def dg (n : Nat) : UInt8 := UInt8.ofNat (48 + n)
def numN (n : Nat) : Txt := if n < 10 then [dg n] else numN (n / 10) ++ [dg (n % 10)]
def numI (n : Int) : Txt := if n < 0 then 45 :: numN n.natAbs else numN n.natAbs
theorem dg_val {n : Nat} (h : n < 10) : (dg n).toNat = 48 + n := by
  simp only [dg, UInt8.toNat_ofNat']
  omega
theorem numN_small {n : Nat} (h : n < 10) : numN n = [dg n] := by rw [numN, if_pos h]
theorem numN_two {n : Nat} (h : 10 ≤ n) (h' : n < 100) : numN n = [dg (n / 10), dg (n % 10)] := by
  rw [numN, if_neg (by omega), numN_small (by omega)]
  rfl
theorem numN_dig : ∀ (n : Nat), ∀ c ∈ numN n, 48 ≤ c.toNat ∧ c.toNat ≤ 57
  | n => by
    intro c hc
    rw [numN] at hc
    split at hc
    · rename_i h
      rw [List.mem_singleton] at hc
      subst hc
      rw [dg_val h]
      omega
    · rw [List.mem_append, List.mem_singleton] at hc
      rcases hc with hc | rfl
      · exact numN_dig (n / 10) c hc
      · rw [dg_val (by omega)]
        omega
def splitL (c : UInt8) : Txt → List Txt
  | [] => [[]]
  | x :: l => if x = c then [] :: splitL c l else match splitL c l with
    | w :: ws => (x :: w) :: ws
    | [] => [[x]]
section
variable {c : UInt8} {l m w : Txt} {ls ws : List Txt}
theorem splitL_ne : splitL c l ≠ [] := by
  cases l with
  | nil => simp [splitL]
  | cons x l =>
    rw [splitL]
    split
    · simp
    · split <;> simp
theorem splitL_one (h : c ∉ l) : splitL c l = [l] := by
  induction l with
  | nil => rfl
  | cons x l ih =>
    simp only [List.mem_cons, not_or] at h
    rw [splitL, if_neg (fun e => h.1 e.symm), ih h.2]
theorem splitL_app (h : c ∉ l) : splitL c (l ++ c :: m) = l :: splitL c m := by
  induction l with
  | nil => rw [List.nil_append, splitL, if_pos rfl]
  | cons x l ih =>
    simp only [List.mem_cons, not_or] at h
    rw [List.cons_append, splitL, if_neg (fun e => h.1 e.symm), ih h.2]
def joinL (c : UInt8) : List Txt → Txt
  | [] => []
  | [w] => w
  | w :: w' :: ws => w ++ c :: joinL c (w' :: ws)
theorem split_join : ∀ {ls : List Txt}, ls ≠ [] → (∀ w ∈ ls, c ∉ w) → splitL c (joinL c ls) = ls
  | [], h, _ => absurd rfl h
  | [w], _, h => splitL_one (h w (List.mem_cons_self ..))
  | w :: v :: vs, _, h => by
    rw [joinL, splitL_app (h w (List.mem_cons_self ..)), split_join (by simp) fun x hx => h x (List.mem_cons_of_mem _ hx)]
def linesL (c : UInt8) (ls : List Txt) : Txt := ls.flatMap (· ++ [c])
theorem linesL_cons : linesL c (w :: ls) = w ++ c :: linesL c ls := by simp [linesL]
theorem linesL_join : linesL c ls = joinL c (ls ++ [[]]) := by
  induction ls with
  | nil => rfl
  | cons w ls ih =>
    rw [linesL_cons, ih]
    cases ls with
    | nil => rfl
    | cons v vs => rfl
theorem split_lines (h : ∀ w ∈ ls, c ∉ w) : splitL c (linesL c ls) = ls ++ [[]] := by
  rw [linesL_join, split_join (by simp)]
  intro w hw
  rcases List.mem_append.1 hw with hw | hw
  · exact h w hw
  · rw [List.mem_singleton] at hw
    subst hw
    simp
theorem lines_count (h : ∀ w ∈ ls, c ∉ w) : (linesL c ls).count c = ls.length := by
  induction ls with
  | nil => rfl
  | cons w ls ih =>
    rw [linesL_cons, List.count_append, List.count_cons_self, ih fun x hx => h x (List.mem_cons_of_mem _ hx), List.count_eq_zero_of_not_mem (h w (List.mem_cons_self ..))]
    simp
end
def isDg (c : UInt8) : Bool := decide (48 ≤ c.toNat) && decide (c.toNat ≤ 57)
def smallN : Txt → Option Nat
  | [a] => if isDg a = true then some (a.toNat - 48) else none
  | [a, b] => if isDg a = true ∧ isDg b = true ∧ a ≠ 48 then some (10 * (a.toNat - 48) + (b.toNat - 48)) else none
  | _ => none
theorem isDg_dg {n : Nat} (h : n < 10) : isDg (dg n) = true := by
  simp only [isDg, dg_val h, Bool.and_eq_true, decide_eq_true_eq]
  omega
theorem dg_of {c : UInt8} (h : isDg c = true) : c = dg (c.toNat - 48) := by
  simp only [isDg, Bool.and_eq_true, decide_eq_true_eq] at h
  apply UInt8.toNat_inj.1
  rw [dg_val (by omega)]
  omega
theorem small_num {n : Nat} (h : n ≤ 99) : smallN (numN n) = some n := by
  by_cases h1 : n < 10
  · rw [numN_small h1]
    simp only [smallN, isDg_dg h1, if_true, dg_val h1]
    congr 1
    omega
  · have h2 : n / 10 < 10 := by omega
    have h3 : n % 10 < 10 := by omega
    rw [numN_two (by omega) (by omega)]
    have h4 : dg (n / 10) ≠ 48 := by
      intro e
      have := congrArg UInt8.toNat e
      rw [dg_val h2] at this
      simp at this
      omega
    simp only [smallN, isDg_dg h2, isDg_dg h3, dg_val h2, dg_val h3]
    rw [if_pos ⟨trivial, trivial, h4⟩]
    congr 1
    omega
theorem num_small {s : Txt} {n : Nat} (h : smallN s = some n) : n ≤ 99 ∧ s = numN n := by
  unfold smallN at h
  split at h
  · rename_i a
    split at h
    · rename_i ha
      have hd := dg_of ha
      simp only [isDg, Bool.and_eq_true, decide_eq_true_eq] at ha
      obtain rfl := Option.some.inj h
      refine ⟨by omega, ?_⟩
      rw [numN_small (by omega), ← hd]
    · cases h
  · rename_i a b
    split at h
    · rename_i hab
      obtain ⟨ha, hb, h0⟩ := hab
      have hda := dg_of ha
      have hdb := dg_of hb
      simp only [isDg, Bool.and_eq_true, decide_eq_true_eq] at ha hb
      have hn : a.toNat ≠ 48 := fun e => h0 (UInt8.toNat_inj.1 (by rw [e]; rfl))
      obtain rfl := Option.some.inj h
      refine ⟨by omega, ?_⟩
      rw [numN_two (by omega) (by omega)]
      have e1 : (10 * (a.toNat - 48) + (b.toNat - 48)) / 10 = a.toNat - 48 := by omega
      have e2 : (10 * (a.toNat - 48) + (b.toNat - 48)) % 10 = b.toNat - 48 := by omega
      rw [e1, e2, ← hda, ← hdb]
    · cases h
  · cases h
theorem small_iff {s : Txt} {n : Nat} : smallN s = some n ↔ n ≤ 99 ∧ s = numN n := ⟨num_small, fun ⟨h, e⟩ => e ▸ small_num h⟩
end Go.Hm
end
section
namespace Go.Hm
open Go Go.RowKit
def tFun : Txt := [102, 117, 110]
def tClass : Txt := [99, 108, 97, 115, 115]
def wordsL (w : Txt) (ns : List Int) : Txt := w ++ ns.flatMap fun n => 32 :: numI n
section
variable {s : Stm} {k : Blk} {p q : Prg} {l w : Txt} {ns : List Int} {ks : List Nat} {ls ws : List Txt} {i n : Nat}
theorem numI_nat : numI (n : Int) = numN n := by
  unfold numI
  rw [if_neg (by omega)]
  rfl
theorem dig_not {c : UInt8} (h : c ∈ numI (n : Int)) : c ≠ 32 ∧ c ≠ 10 := by
  rw [numI_nat] at h
  have := numN_dig n c h
  constructor
  · rintro rfl
    exact absurd this.1 (by decide)
  · rintro rfl
    exact absurd this.1 (by decide)
theorem wordsL_join (w : Txt) (ns : List Int) : wordsL w ns = joinL 32 (w :: ns.map numI) := by
  unfold wordsL
  induction ns generalizing w with
  | nil => simp [joinL]
  | cons n ns ih =>
    have := ih (numI n)
    simp only [List.flatMap_cons, List.map_cons, joinL]
    rw [← this]
    simp
def Small (ns : List Int) : Prop := ∀ n ∈ ns, 0 ≤ n ∧ n ≤ 99
theorem words_clean (hw : (32 : UInt8) ∉ w) (h : Small ns) : ∀ x ∈ w :: ns.map numI, (32 : UInt8) ∉ x := by
  intro x hx
  rcases List.mem_cons.1 hx with rfl | hx
  · exact hw
  · obtain ⟨n, hn, rfl⟩ := List.mem_map.1 hx
    have := h n hn
    obtain ⟨m, rfl⟩ : ∃ m : Nat, n = m := ⟨n.toNat, by omega⟩
    exact fun e => (dig_not e).1 rfl
theorem no_nl (hw : (10 : UInt8) ∉ w) (h : Small ns) : (10 : UInt8) ∉ wordsL w ns := by
  unfold wordsL
  simp only [List.mem_append, List.mem_flatMap, List.mem_cons, not_or, not_exists, not_and]
  refine ⟨hw, fun n hn => ⟨by decide, fun e => ?_⟩⟩
  have := h n hn
  obtain ⟨m, rfl⟩ : ∃ m : Nat, n = m := ⟨n.toNat, by omega⟩
  exact (dig_not e).2 rfl
end
section
variable {s : Stm} {k : Blk} {p q : Prg} {l w : Txt} {ns : List Int} {ls ws rest : List Txt} {i n : Nat} {body : List Stm} {ks : List Blk}
end
end Go.Hm
end
section
namespace Go.Hm
open Go Go.RowKit
section
variable {s : Stm} {k k0 : Blk} {p q P : Prg} {l t : Txt} {ls rest : List Txt} {i n : Nat} {body : List Stm} {ks : List Blk}
end
section
variable {s : Stm} {k : Blk} {p q : Prg} {l t w : Txt} {ls ws vs : List Txt} {i n K : Nat}
def rNum : List Txt → Option (Nat × List Txt)
  | w :: ws => (smallN w).map fun n => (n, ws)
  | [] => none
end
end Go.Hm
end
section
namespace Go.Hm
open Go Go.RowKit
section
variable {s : Stm} {k : Blk} {p q : Prg} {l t w : Txt} {ls ws vs : List Txt} {i n K : Nat}
end
def opW : List Txt := [[116, 105, 99, 107], [110, 117, 109], [102, 97, 115, 116], [115, 101, 116, 102, 97, 115, 116], [100, 101, 108, 102, 97, 115, 116], [99, 101, 108, 108], [115, 101, 116, 99, 101, 108, 108], [100, 101, 108, 99, 101, 108, 108],
  [103, 108, 111, 98, 97, 108], [115, 101, 116, 103, 108, 111, 98, 97, 108], [100, 101, 108, 103, 108, 111, 98, 97, 108], [110, 97, 109, 101], [115, 101, 116, 110, 97, 109, 101], [100, 101, 108, 110, 97, 109, 101],
  [97, 100, 100], tFun, tClass, [99, 97, 108, 108], [97, 116, 116, 114], [112, 114, 105, 110, 116], [114, 101, 116, 117, 114, 110]]
def loneO (c : Int) : Bool := c == 0 || c == 14 || c == 19 || c == 20
def showO (o : Int × Int) : Txt := wordsL (opW.getD o.1.toNat []) (if loneO o.1 = true then [] else [o.2])
def fmtO (l : List (Int × Int)) : Txt := linesL 10 (l.map showO)
def codeW (w : Txt) : Option Nat := opW.findIdx? (· == w)
def readO (line : Txt) : Option (Int × Int) := match splitL 32 line with
  | w :: ws => match codeW w with
    | some c => if loneO c = true then (if ws = [] then some (c, 0) else none) else match ws with
      | [x] => (smallN x).map fun (n : Nat) => ((c : Int), (n : Int))
      | _ => none
    | none => none
  | [] => none
def readL1 (ls : List Txt) : Option (List (Int × Int)) := ls.mapM readO
def readCode (s : Txt) : Option (List (Int × Int)) := if (splitL 10 s).getLast? = some [] then readL1 (splitL 10 s).dropLast else none
structure TxtO (o : Int × Int) : Prop where
  code : 0 ≤ o.1 ∧ o.1 ≤ 20
  arg : 0 ≤ o.2 ∧ o.2 ≤ 99
  lone : loneO o.1 = true → o.2 = 0
section
variable {o : Int × Int} {os : List (Int × Int)} {p : Prg} {k : Blk} {b i j n : Nat} {l t w : Txt} {ls ws : List Txt} {x v : Int} {s : Stm}
theorem opW_mem {i : Nat} (h : i < 21) : ∀ c ∈ opW.getD i [], c ≠ 32 ∧ c ≠ 10 := by
  have : ∀ w ∈ opW, ∀ c ∈ w, c ≠ 32 ∧ c ≠ 10 := by decide
  rw [List.getD_eq_getElem?_getD, gE (by simpa [opW] using h)]
  exact this _ (List.getElem_mem _)
theorem opW_clean {i : Nat} (h : i < 21) : (32 : UInt8) ∉ opW.getD i [] ∧ (10 : UInt8) ∉ opW.getD i [] := ⟨fun e => (opW_mem h 32 e).1 rfl, fun e => (opW_mem h 10 e).2 rfl⟩
set_option maxRecDepth 10000 in
theorem codeW_at : ∀ i, i < 21 → codeW (opW.getD i []) = some i := by decide
theorem TxtO.small (h : TxtO o) : Small (if loneO o.1 = true then [] else [o.2]) := by
  intro x hx
  split at hx
  · cases hx
  · rw [List.mem_singleton] at hx
    subst hx
    exact h.arg
theorem readO_show (h : TxtO o) : readO (showO o) = some o := by
  have hc := h.code
  have ha := h.arg
  have e : splitL 32 (showO o) = opW.getD o.1.toNat [] :: (if loneO o.1 = true then [] else [o.2]).map numI := by
    unfold showO
    rw [wordsL_join]
    exact split_join (by simp) (words_clean (opW_clean (by omega)).1 h.small)
  unfold readO
  rw [e]
  have h1 : ((o.1.toNat : Nat) : Int) = o.1 := by omega
  simp only [codeW_at o.1.toNat (by omega), h1]
  by_cases hl : loneO o.1 = true
  · rw [if_pos hl, if_pos hl]
    simp only [List.map_nil, if_true]
    rw [← h.lone hl]
  · rw [if_neg hl, if_neg hl]
    obtain ⟨m, hm⟩ : ∃ m : Nat, o.2 = m := ⟨o.2.toNat, by omega⟩
    have h2 : smallN (numI o.2) = some m := by rw [hm, numI_nat]; exact small_num (by omega)
    simp only [List.map_cons, List.map_nil, h2, Option.map_some]
    rw [← hm]
theorem showO_clean (h : TxtO o) : (10 : UInt8) ∉ showO o := no_nl (opW_clean (by have := h.code; omega)).2 h.small
theorem readL1_show (h : ∀ o ∈ os, TxtO o) : readL1 (os.map showO) = some os := by
  unfold readL1
  induction os with
  | nil => rfl
  | cons o os ih =>
    simp only [List.map_cons, List.mapM_cons, readO_show (h o (List.mem_cons_self ..)), ih fun x hx => h x (List.mem_cons_of_mem _ hx)]
    rfl
theorem code_back (h : ∀ o ∈ os, TxtO o) : readCode (fmtO os) = some os := by
  have hc : ∀ w ∈ os.map showO, (10 : UInt8) ∉ w := by
    intro w hw
    obtain ⟨o, ho, rfl⟩ := List.mem_map.1 hw
    exact showO_clean (h o ho)
  unfold readCode fmtO
  rw [split_lines hc]
  simp [readL1_show h]
theorem code_count (h : ∀ o ∈ os, TxtO o) : (fmtO os).count 10 = os.length := by
  unfold fmtO
  rw [lines_count, List.length_map]
  intro w hw
  obtain ⟨o, ho, rfl⟩ := List.mem_map.1 hw
  exact showO_clean (h o ho)
theorem nameOp_txt (hp : ShapeP p) (hk : p[b]? = some k) (hu : x ∈ k.us) (h0 : 0 ≤ v) (h2 : v ≤ 2) : TxtO (nameOp p b x v) := by
  have hin := nameOp_ok hp hk hu h0 h2
  have hc := (nameOp_le (p := p) (b := b) (x := x) h0 h2)
  have hx : 0 ≤ x ∧ x ≤ 7 := by
    rw [Blk.us, mem_sorted] at hu
    exact hu.2
  have l1 := fastsL_len (p := p) (b := b)
  have l2 := cellsL_len (p := p) (b := b)
  have l3 := freesL_len (p := p) (b := b)
  rcases nameOp_sym (w := v) hp hk hu with ⟨_, e⟩ | ⟨_, e⟩ | ⟨_, i, e, hi, _⟩ | ⟨_, i, e, hi, _⟩ | ⟨_, i, e, hi, _⟩ <;> rw [e]
  all_goals
    refine ⟨by simp only []; omega, by simp only []; omega, fun hl => ?_⟩
    simp only [loneO, Bool.or_eq_true, beq_iff_eq] at hl
    omega
theorem ord_txt (hp : ShapeP p) (hk : p[b]? = some k) : ∀ o ∈ opsL p b, TxtO o := by
  have hn := hp.names k (List.mem_of_getElem? hk)
  intro o ho
  simp only [opsL, hk, bodyL, List.mem_flatMap] at ho
  obtain ⟨s, hs, ho⟩ := ho
  have hst := hp.stm b k hk s hs
  have hl := hp.len
  simp only [stmtL, List.mem_cons, List.mem_append] at ho
  rcases ho with rfl | ho | ho | ho
  · exact ⟨by simp, by simp, fun _ => rfl⟩
  · simp only [readL, List.mem_map] at ho
    obtain ⟨x, hx, rfl⟩ := ho
    exact nameOp_txt hp hk (reads_us hn hs hx) (by decide) (by decide)
  · have key : ∀ c a : Int, 0 ≤ c ∧ c ≤ 20 → 0 ≤ a ∧ a ≤ 99 → (loneO c = true → a = 0) → TxtO (c, a) := fun c a h1 h2 h3 => ⟨h1, h2, h3⟩
    unfold workL at ho
    by_cases k0 : s.kind = 0
    · rw [if_pos k0] at ho
      obtain rfl := List.mem_singleton.1 ho
      have : 0 ≤ s.a ∧ s.a ≤ 99 := by
        simp only [StmOk, k0] at hst
        simp at hst
        omega
      exact key _ _ (by omega) this (by simp [loneO])
    rw [if_neg k0] at ho
    by_cases k2 : s.kind = 2
    · rw [if_pos k2] at ho
      obtain rfl := List.mem_singleton.1 ho
      exact key _ _ (by omega) (by omega) (fun _ => rfl)
    rw [if_neg k2] at ho
    by_cases k3 : s.kind = 3
    · rw [if_pos k3] at ho
      obtain rfl := List.mem_singleton.1 ho
      obtain ⟨q, q1, q2, q3, q4⟩ := StmOk.made hst (.inl k3)
      have hql := (gS q1).1
      exact key _ _ (by omega) (by omega) (by simp [loneO])
    rw [if_neg k3] at ho
    by_cases k4 : s.kind = 4
    · rw [if_pos k4] at ho
      obtain rfl := List.mem_singleton.1 ho
      obtain ⟨q, q1, q2, q3, q4⟩ := StmOk.made hst (.inr k4)
      have hql := (gS q1).1
      exact key _ _ (by omega) (by omega) (by simp [loneO])
    rw [if_neg k4] at ho
    by_cases k5 : s.kind = 5
    · rw [if_pos k5] at ho
      obtain rfl := List.mem_singleton.1 ho
      have : s.reads.length = 1 ∨ s.reads.length = 2 := by
        simp only [Stm.reads, k5]
        by_cases e : s.b = -1 <;> simp [e]
      exact key _ _ (by omega) (by omega) (by simp [loneO])
    rw [if_neg k5] at ho
    by_cases k6 : s.kind = 6
    · rw [if_pos k6] at ho
      obtain rfl := List.mem_singleton.1 ho
      have : 0 ≤ s.b ∧ s.b ≤ 7 := by
        simp only [StmOk, k6] at hst
        simp at hst
        omega
      exact key _ _ (by omega) (by omega) (by simp [loneO])
    rw [if_neg k6] at ho
    by_cases k7 : s.kind = 7
    · rw [if_pos k7] at ho
      obtain rfl := List.mem_singleton.1 ho
      exact key _ _ (by omega) (by omega) (fun _ => rfl)
    rw [if_neg k7] at ho
    by_cases k8 : s.kind = 8
    · rw [if_pos k8] at ho
      obtain rfl := List.mem_singleton.1 ho
      exact key _ _ (by omega) (by omega) (fun _ => rfl)
    rw [if_neg k8] at ho
    cases ho
  · unfold setL at ho
    split at ho
    · rename_i e
      obtain rfl := List.mem_singleton.1 ho
      exact nameOp_txt hp hk (to_us hn hs (.inr e)) (by decide) (by decide)
    · split at ho
      · rename_i e
        obtain rfl := List.mem_singleton.1 ho
        exact nameOp_txt hp hk (to_us hn hs (.inl e)) (by decide) (by decide)
      · cases ho
end
end Go.Hm
end
section
namespace Go.Hm
open Go Go.RowKit
section
variable {p : Prg} {n f : Nat} {s t l w : Txt} {ls : List Txt} {i : Int}
end
abbrev bt (l : Txt) : ByteArray := ⟨l.toArray⟩
abbrev tx (l : Txt) : AV := .sc (.string (bt l))
section
variable {a b l : Txt} {i j : Nat}
@[simp] theorem bt_size : (bt l).size = l.length := by simp [ByteArray.size]
@[simp] theorem bt_app : bt a ++ bt b = bt (a ++ b) := by
  apply ByteArray.ext
  simp [ByteArray.data_append]
@[simp] theorem bt_extract : (bt l).extract i j = bt ((l.drop i).take (j - i)) := by
  apply ByteArray.ext
  simp [ByteArray.data_extract]
end
end Go.Hm
end
section
namespace Go.Hm
open Go Go.RowKit
section
variable {c : UInt8} {l m : Txt} {n : Nat}
theorem numN_dec : ∀ n : Nat, numN n = Lib.decDigits n
  | n => by
    rw [numN, Lib.decDigits]
    split
    · rfl
    · rw [numN_dec (n / 10)]
      rfl
theorem index_no (h : c ∉ l) : Lib.index l [c] = -1 := by
  rw [Lib.index_one]
  induction l with
  | nil => rfl
  | cons x l ih =>
    simp only [List.mem_cons, not_or] at h
    have := ih h.2
    rw [Lib.indexByte, if_neg (by simpa using fun e => h.1 e.symm), this]
    rfl
theorem index_at (h : c ∉ l) : Lib.index (l ++ c :: m) [c] = l.length := by
  rw [Lib.index_one]
  induction l with
  | nil => simp [Lib.indexByte]
  | cons x l ih =>
    simp only [List.mem_cons, not_or] at h
    have := ih h.2
    rw [List.cons_append, Lib.indexByte, if_neg (by simpa using fun e => h.1 e.symm), this]
    rw [if_neg (by simp)]
    simp
theorem splitK_eq : ∀ (n : Nat) (l : Txt), l.length ≤ n → Lib.splitK [c] 0 (Lib.count l [c]) l = splitL c l
  | n, l, hn => by
    by_cases h : c ∈ l
    · obtain ⟨a, b, rfl, ha⟩ := List.eq_append_cons_of_mem h
      have hi := index_at (m := b) ha
      rw [Lib.count_hit (by simp) hi, Nat.add_comm 1, Lib.splitK, if_neg (by rw [hi]; simp), hi, splitL_app ha]
      have e1 : ((a.length : Int)).toNat = a.length := by omega
      have e2 : (a ++ c :: b).drop (a.length + [c].length) = b := by
        rw [List.drop_append, List.drop_eq_nil_of_le (by simp)]
        simp
      simp only [e1, Nat.add_zero]
      rw [e2]
      congr 1
      · simp
      · match n, hn with
        | 0, hn => simp at hn
        | n + 1, hn => exact splitK_eq n b (by simp at hn; omega)
    · rw [Lib.count_miss (index_no h), splitL_one h]
      rfl
theorem splitB_eq : Lib.splitB (bt [c]) 0 (Lib.countB (bt l) (bt [c])) (bt l) = (splitL c l).map bt := by
  have h := Lib.splitB_data (bt [c]) 0 (Lib.countB (bt l) (bt [c])) (bt l)
  have h2 : Lib.splitK [c] 0 (Lib.count l [c]) l = splitL c l := splitK_eq l.length l (Nat.le_refl _)
  have h3 : (Lib.splitB (bt [c]) 0 (Lib.countB (bt l) (bt [c])) (bt l)).map (fun x => x.data.toList) = splitL c l := h.trans h2
  rw [← h3, List.map_map]
  conv => lhs; rw [← List.map_id (Lib.splitB _ _ _ _)]
  apply List.map_congr_left
  intro x _
  apply ByteArray.ext
  simp
theorem splitB_len : Lib.countB (bt l) (bt [c]) + 1 = (splitL c l).length := by
  have key : ∀ (n : Nat) (l : Txt), l.length ≤ n → Lib.count l [c] + 1 = (splitL c l).length := by
    intro n
    induction n with
    | zero =>
      intro l hn
      obtain rfl := List.eq_nil_of_length_eq_zero (Nat.le_zero.1 hn)
      rfl
    | succ n ih =>
      intro l hn
      by_cases h : c ∈ l
      · obtain ⟨a, b, rfl, ha⟩ := List.eq_append_cons_of_mem h
        have hi := index_at (m := b) ha
        have e2 : (a ++ c :: b).drop (a.length + [c].length) = b := by
          rw [List.drop_append, List.drop_eq_nil_of_le (by simp)]
          simp
        rw [Lib.count_hit (by simp) hi, e2, splitL_app ha, List.length_cons, ← ih b (by simp at hn; omega)]
        omega
      · rw [Lib.count_miss (index_no h), splitL_one h]
        rfl
  exact key l.length l (Nat.le_refl _)
end
def xrows (ws : List Txt) : List (List AV) := ws.map fun w => [tx w]
section
variable {ws : List Txt} {i n : Nat} {f : Nm → Option Nm}
@[simp] theorem xrows_len : (xrows ws).length = ws.length := by simp [xrows]
@[simp] theorem xrows_get : (xrows ws)[i]? = (ws[i]?).map fun w => [tx w] := by simp [xrows]
@[simp] theorem xrows_getE {h : i < (xrows ws).length} : (xrows ws)[i] = [tx (ws[i]'(by simpa using h))] := by simp [xrows]
@[simp] theorem xrows_tr : (xrows ws).map (fun r => r.map (AV.tr f)) = xrows ws := by simp [xrows]
@[simp] theorem xrows_take : (xrows ws).take n = xrows (ws.take n) := by simp [xrows]
@[simp] theorem xrows_drop : (xrows ws).drop n = xrows (ws.drop n) := by simp [xrows]
theorem xrows_uni : ∀ r ∈ xrows ws, r.length = 1 := by simp [xrows]
@[simp] theorem xrows_nil : xrows [] = [] := rfl
abbrev xsl (ws : List Txt) : AV := .sl 1 (xrows ws)
end
theorem gl_cell {g : Gh} {w : World} {i : Nat} {v : Value} (h : RV g w (.pointer (some ⟨i, 0, none⟩)) (.el [.sc v] 0)) : w.cell? ⟨i, 0, none⟩ = some v := by
  generalize hp : Value.pointer (some ⟨i, 0, none⟩) = p at h
  cases h with
  | el b o off row f hC hcell ho hr =>
    have hb : b = i ∧ o = 0 := by
      injection hp with hp
      injection hp with hp
      injection hp with h1 h2 _
      omega
    obtain ⟨rfl, rfl⟩ := hb
    have h1 := hcell 0 (by simp)
    have h2 := (hr 0 (.sc v) rfl).sc_eq
    rw [h1, h2]
theorem texts_ok {P : Program} {gl : Nat → Option (List AV)} {f : FuncId} {az : List AV} {vs : List Value} {ws : List Txt} {T : TypeId} (hc : Callable P f) (has : az = vs.map .sc)
    (h : ∀ (w : World), (∀ i v, gl i = some [.sc v] → w.cell? ⟨i, 0, none⟩ = some v) → Calls P f vs.toArray w fun e w' => e = .returned (.slice (some ⟨w.heap.size, 0, none⟩) ws.length ws.length) ∧ w' = w.alloc (.cells (ws.map fun x => Value.string (bt x)).toArray T)) :
    FnOk P gl f az (fun _ y _ => y = xsl ws) := by
  subst has
  refine ⟨hc, fun root C w g args _ _ _ hinv hgl hsz hargs => ?_⟩
  have ha : args = vs.toArray := by
    apply Array.ext
    · simpa using hsz
    · intro j h1 h2
      have h3 : j < vs.length := by simpa using h2
      have := (hargs j args[j] (.sc vs[j]) (Array.getElem?_eq_getElem h1) (by simp [h3])).sc_eq
      simpa using this
  subst ha
  refine (h w fun i v e => gl_cell (hgl i _ e).1).mono fun e w' he => ?_
  obtain ⟨rfl, rfl⟩ := he
  have hold : ∀ b, b < w.heap.size → (w.alloc (.cells (ws.map fun x => Value.string (bt x)).toArray T)).heap[b]? = w.heap[b]? := fun b hb => alloc_old _ hb
  have hnew : (w.alloc (.cells (ws.map fun x => Value.string (bt x)).toArray T)).heap[w.heap.size]? = some (.cells (ws.map fun x => Value.string (bt x)).toArray T) := by
    exact heap_alloc_new w _
  have hsz' : (w.alloc (.cells (ws.map fun x => Value.string (bt x)).toArray T)).heap.size = w.heap.size + 1 := by simp
  refine ⟨fun b => C b ∨ b = w.heap.size, g.more (fun b => C b ∨ b = w.heap.size), noH, xsl ws, ⟨fun b hb => .inl hb, fun b hb => ?_, ⟨rfl, rfl, rfl, ?_, fun b hb _ => hold b hb, rfl, fun b hb => ?_, fun _ _ e => (by cases e), fun _ _ _ e => (by cases e), fun _ _ _ _ _ e => (by cases e)⟩, fun _ e => absurd rfl e, fun _ _ _ => ⟨rfl, rfl⟩, fun _ _ _ _ => ⟨rfl, rfl⟩⟩, ?_, rfl⟩
  · rcases hb with hb | rfl
    · exact .inl hb
    · exact .inr (.inl (Nat.le_refl _))
  · rw [hsz']; omega
  · rw [hsz']
    rcases hb with hb | rfl
    · have := hinv.clt b hb; omega
    · omega
  · refine .slC w.heap.size 0 ws.length ws.length 1 (xrows ws) (fun i _ => Value.string (bt (ws.getD i []))) (.inr rfl) (by simp) (Nat.le_refl _) xrows_uni ?_ ?_ ?_
    · intro i j hi hj
      obtain rfl : j = 0 := by omega
      simp only [World.cell?, hnew]
      simp [hi]
    · intro i j _ _
      rfl
    · intro i row hrow j a ha
      rw [xrows_get] at hrow
      obtain ⟨x, hx, rfl⟩ := Option.map_eq_some_iff.1 hrow
      match j, ha with
      | 0, ha =>
        obtain rfl := Option.some.inj ha
        simp only [List.getD_eq_getElem?_getD, hx, Option.getD_some]
        exact .sc _
end Go.Hm
end
section
namespace Go.Hm
open Go Go.RowKit Go.Proofs Go.Shelf
section
variable {P : Program} {w : World}
theorem owns0 {base : Nat} {e : TypeId} {v : Value} {n : Nat} {xs : List Value} (h : w.ownsRow base e 1 v n xs) : w.ownsRow 0 e 1 v n xs := by
  refine ⟨h.1, ?_⟩
  rcases h.2 with h | ⟨g, cap, cur, a1, _, a3⟩
  · exact .inl h
  · exact .inr ⟨g, cap, cur, a1, Nat.zero_le _, a3⟩
theorem run_app_str (w : World) (t u ty e : TypeId) (i : TypeInfo) (ht : P.underlying t = some (.slice e)) (hu : P.underlying u = some .string) (hi : P.info? e = some i) (hz : i.zero = some (.int .u8 0))
    (hsize : i.size = 1) (hby : i.bytes = 1) (v : Value) (n : Nat) (xs : List Value) (hown : w.ownsRow 0 e 1 v n xs) (s : ByteArray) (h63 : n + s.size ≤ maxLen) (hbytes : n + s.size ≤ 140737488355328) :
    ∃ v' w', (Builtin.append_ #[t, u] ty #[v, .string s]).run P w = .ok v' w' ∧ w'.ownsRow 0 e 1 v' (n + s.size) (xs ++ Lib.strCells s) ∧ w.grownBy w' v.ownBlock ∧ (v'.ownBlock = v.ownBlock ∨ ∃ g, v'.ownBlock = some g ∧ w.heap.size ≤ g) := by
  have hxl : xs.length = n := by simpa using hown.1
  rcases hown.2 with ⟨rfl, rfl⟩ | ⟨g, cap, cur, rfl, hbg, hg, hnc, hcm, hcs, htake⟩
  · have hx : xs = [] := List.eq_nil_of_length_eq_zero hxl
    subst hx
    obtain ⟨v', w', h1, h2, h3, h4⟩ := Lib.run_append_own_string (P := P) w w.heap.size t u ty e i ht hu hi hz hsize hby (.slice none 0 0) 0 [] (World.ownsRow_nil w _ e 1) s h63 hbytes (Nat.le_refl _)
    refine ⟨v', w', h1, owns0 h2, h3, ?_⟩
    rcases h2.2 with ⟨rfl, _⟩ | ⟨g, cap, cur, rfl, hbg, _⟩
    · exact .inl rfl
    · exact .inr ⟨g, rfl, hbg⟩
  · obtain ⟨v', w', h1, h2, h3, h4⟩ := Lib.run_append_own_string (P := P) w 0 t u ty e i ht hu hi hz hsize hby _ n xs hown s h63 hbytes (Nat.zero_le _)
    refine ⟨v', w', h1, h2, h3, ?_⟩
    by_cases hroom : n + s.size ≤ cap
    · have hcs1 : n + s.size ≤ cur.size := by
        have : cur.size = cap := by simpa using hcs
        omega
      have hr := Lib.run_append_room_string (P := P) w t u ty e i ht hu hi hsize g n cap cur hg s hroom hcs1
      rw [hr] at h1
      injection h1 with e1 e2
      exact .inl (by rw [← e1]; rfl)
    · have holds : ∀ j u, xs[j]? = some u → w.cell? ((⟨g, 0, none⟩ : Addr).add j) = some u := hown.cells (g := g) rfl
      have hr := Lib.run_append_grow_string (P := P) w t u ty e i (.int .u8 0) ht hu hi hz ⟨g, 0, none⟩ n cap xs (by rw [hsize]; simpa using hxl) holds s (by omega) (by unfold maxLen at h63; omega) (by rw [hby]; exact growslice_fits (by omega) (by omega))
      rw [hr] at h1
      injection h1 with e1 e2
      exact .inr ⟨w.heap.size, by rw [← e1]; rfl, Nat.le_refl _⟩
theorem wpList_app_str {ops : Array Oper} {rest : List Oper} {o : Oper} {a : Go.Act} {Q : Exit → Go.Act → World → Prop} (hgd : o.guard = none) (sl x : Operand) (t u : TypeId)
    (ho : o.op = .call { callee := .builtin .append, args := #[sl, x], argTypes := #[t, u] })
    (e : TypeId) (i : TypeInfo) (ht : P.underlying t = some (.slice e)) (hu : P.underlying u = some .string) (hi : P.info? e = some i) (hz : i.zero = some (.int .u8 0))
    (hsize : i.size = 1) (hby : i.bytes = 1)
    (v : Value) (n : Nat) (xs : List Value) (hs : a.eval sl = v) (hown : w.ownsRow 0 e 1 v n xs) (s : ByteArray) (hx : a.eval x = .string s)
    (h63 : n + s.size ≤ maxLen) (hbytes : n + s.size ≤ 140737488355328)
    (h : ∀ v' w', w'.ownsRow 0 e 1 v' (n + s.size) (xs ++ Lib.strCells s) → w.grownBy w' v.ownBlock → (v'.ownBlock = v.ownBlock ∨ ∃ g, v'.ownBlock = some g ∧ w.heap.size ≤ g) → wpList P ops Q rest (a.put o.dst v') w') : wpList P ops Q (o :: rest) a w := by
  refine wpList_plain hgd fun K hK => ?_
  obtain ⟨v', w', hr, h2, h3, h4⟩ := run_app_str (P := P) w t u o.type e i ht hu hi hz hsize hby v n xs hown s h63 hbytes
  unfold Oper.wp execOp
  simp only [ho, resolve, invoke, builtin, Sem.run_bind, Sem.run_pure, Result.andThen_ok, List.map_toArray, List.map_cons, List.map_nil, hs, hx, hr]
  exact hK _ _ (h v' w' h2 h3 h4)
end
section
variable {P : Program} {ρ : Ren}
structure Wrote (P : Program) (ρ : Ren) (w w' : World) (b : Nat) (v : Value) (bs : List Value) (s : ByteArray) (v' : Value) : Prop where
  top : w'.heap[b]? = some (.cells #[.pointer (some ⟨b, 0, none⟩), v'] (ρ.t 72) (0, 0))
  own : w'.ownsRow 0 (ρ.t 5) 1 v' (bs.length + s.size) (bs ++ Lib.strCells s)
  ne : v'.ownBlock ≠ some b
  blk : v'.ownBlock = v.ownBlock ∨ ∃ g, v'.ownBlock = some g ∧ w.heap.size ≤ g
  os : w'.os = w.os
  tape : w'.tape = w.tape
  output : w'.output = w.output
  size : w.heap.size ≤ w'.heap.size
  keep : ∀ k, k < w.heap.size → k ≠ b → v.ownBlock ≠ some k → w'.heap[k]? = w.heap[k]?
set_option maxHeartbeats 2000000 in
set_option maxRecDepth 100000 in
theorem wstr_raw (L : Lays.n166 P ρ) (X : Builder.Extra P ρ) (b : Nat) (p v : Value) (bs : List Value) (s : ByteArray) (w : World) (hbk0 : w.heap[b]? = some (.cells #[p, v] (ρ.t 72) (0, 0)))
    (hp : p = .pointer none ∨ p = .pointer (some ⟨b, 0, none⟩)) (hown0 : w.ownsRow 0 (ρ.t 5) 1 v bs.length bs) (hne0 : v.ownBlock ≠ some b) (hlen : bs.length + s.size ≤ 140737488355328) :
    Calls P (ρ.f 166) #[.pointer (some ⟨b, 0, none⟩), .string s] w fun e w' => e = .returned (.tuple #[.int .i64 s.size, .nilIface]) ∧ ∃ v', Wrote P ρ w w' b v bs s v' := by
  obtain ⟨i0, hi, hz0, hz1, hz2⟩ := info_parts X.infoByte
  have mixed := L.mixed
  have t72 := L.t72; have a72 := L.a72; have z72 := L.z72; have v72 := L.v72; have u72 := run_underlying L.t72
  have t70 := L.t70; have a70 := L.a70; have z70 := L.z70; have v70 := L.v70; have u70 := run_underlying L.t70
  have t37 := L.t37; have a37 := L.a37; have z37 := L.z37; have v37 := L.v37; have u37 := run_underlying L.t37
  have t3 := L.t3; have a3 := L.a3; have z3 := L.z3; have v3 := L.v3; have u3 := run_underlying L.t3
  have t9 := L.t9; have a9 := L.a9; have z9 := L.z9; have v9 := L.v9; have u9 := run_underlying L.t9
  have t4 := L.t4; have a4 := L.a4; have z4 := L.z4; have v4 := L.v4; have u4 := run_underlying L.t4
  have t164 := L.t164; have a164 := L.a164; have z164 := L.z164; have v164 := L.v164; have u164 := run_underlying L.t164
  have t5 := X.t5; have a5 := X.a5; have z5 := X.z5; have v5 := X.v5; have u5 := run_underlying X.t5
  have e240 : ∀ args w, (callFunc (ρ.f 240) args).run P w = .ok (.enter (ρ.f 240) args) w := enters_of L.f240 (by kernel_rfl) rfl
  have hlt0 : b < w.heap.size := by
    rcases Nat.lt_or_ge b w.heap.size with h' | h'
    · exact h'
    · simp [Array.getElem?_eq_none h'] at hbk0
  have hcc : Calls P (ρ.f 240) #[.pointer (some ⟨b, 0, none⟩)] w fun e w1 => e = .returned (.tuple #[]) ∧ w1.heap[b]? = some (.cells #[.pointer (some ⟨b, 0, none⟩), v] (ρ.t 72) (0, 0)) ∧ w1.os = w.os ∧ w1.tape = w.tape ∧ w1.output = w.output ∧ w1.heap.size = w.heap.size ∧ ∀ k, k ≠ b → w1.heap[k]? = w.heap[k]? := by
    have hB : Lib.BuilderAt (ρ.t 72) (ρ.t 5) 0 b p bs w := ⟨Nat.zero_le _, v, hbk0, hown0, hne0⟩
    rcases hp with rfl | rfl
    · refine (Any.Builder_copyCheck_fresh { L with } X.toX72 b w hB.cell0 hB.shape hB.frozen0).mono ?_
      rintro e w' ⟨rfl, rfl⟩
      refine ⟨rfl, ?_, rfl, rfl, rfl, ?_, fun k hk => ?_⟩
      · simp [World.setCell, Array.getElem?_modify, hbk0]
      · simp [World.setCell]
      · exact Below.heap_setCell _ _ _ _ (fun e => hk (by simp [e]))
    · refine (Any.Builder_copyCheck_used { L with } X.toX72 b w hB.cell0).mono ?_
      rintro e w' ⟨rfl, rfl⟩
      exact ⟨rfl, hbk0, rfl, rfl, rfl, rfl, fun _ _ => rfl⟩
  go_enter L.f166, Body.n166_ntmps ρ
  go_wp2_with (go_at_fn (ρ.f 240); refine hcc.mono ?_)
  rintro e w1 ⟨rfl, hbk, o1, o2, o3, o4, o5⟩
  have hown : w1.ownsRow 0 (ρ.t 5) 1 v bs.length bs := by
    refine ⟨hown0.1, ?_⟩
    rcases hown0.2 with h | ⟨g, cap, cur, rfl, a2, a3, a4⟩
    · exact .inl h
    · refine .inr ⟨g, cap, cur, rfl, a2, ?_, a4⟩
      rw [o5 g (fun e => hne0 (by rw [e]; rfl))]
      exact a3
  have c0 : w1.cell? ⟨b, 0, none⟩ = some (.pointer (some ⟨b, 0, none⟩)) := by rw [Lib.cell_of_heap hbk]; rfl
  have c1 : w1.cell? ⟨b, 1, none⟩ = some v := by rw [Lib.cell_of_heap hbk]; rfl
  go_wp2_with (at_builtin; refine wpList_app_str rfl _ _ (ρ.t 37) (ρ.t 9) rfl (ρ.t 5) i0 L.t37 L.t9 hi hz0 hz1 hz2 _ _ _ rfl hown s rfl ?c3 ?c4 ?_)
  case c3 => unfold maxLen; omega
  case c4 => omega
  intro v' w2 hown' hgrow hfr
  have hlt : b < w1.heap.size := by omega
  have hb2 : w2.heap[b]? = some (.cells #[.pointer (some ⟨b, 0, none⟩), v] (ρ.t 72) (0, 0)) := by
    rw [hgrow.block b hlt (fun e => hne0 e.symm)]
    exact hbk
  have d0 : w2.cell? ⟨b, 0, none⟩ = some (.pointer (some ⟨b, 0, none⟩)) := by rw [Lib.cell_of_heap hb2]; rfl
  have d1 : w2.cell? ⟨b, 1, none⟩ = some v := by rw [Lib.cell_of_heap hb2]; rfl
  have f1 : w2.frozen? ⟨b, 1, none⟩ = false := Lib.frozen_of_heap hb2 1
  obtain ⟨ao, n', cap, rfl⟩ : ∃ ao n' cap, v' = .slice ao n' cap := by
    rcases hown'.2 with ⟨hv, _⟩ | ⟨g, cap, cur, hv, _⟩
    · exact ⟨_, _, _, hv⟩
    · exact ⟨_, _, _, hv⟩
  go_wp2
  go_ret2
  have hne := Lib.ownBlock_ne hown' hb2 X.neB5
  have hset : ∀ k, k ≠ b → (w2.setCell ⟨b, 1, none⟩ (.slice ao n' cap)).heap[k]? = w2.heap[k]? := fun k hk => Below.heap_setCell _ _ _ _ (fun e => hk (by simp [e]))
  refine ⟨rfl, _, ?_, ?_, hne, ?_, ?_, ?_, ?_, ?_, ?_⟩
  · simp [World.setCell, Array.getElem?_modify, hb2]
  · exact hown'.kept (row := some b) ⟨rfl, rfl, rfl, by simp [World.setCell], fun k _ hk => hset k (fun e => hk (by simp [e]))⟩ (Or.inr hne)
  · exact hfr
  · exact hgrow.os.trans o1
  · exact hgrow.tape.trans o2
  · exact hgrow.output.trans o3
  · have := hgrow.size
    simp [World.setCell]
    omega
  · intro k hk hkb hkv
    rw [hset k hkb, hgrow.block k (by omega) (fun e => hkv e.symm), o5 k hkb]
end
end Go.Hm
end
section
namespace Go.Hm
open Go Go.RowKit Go.Proofs Go.Shelf
def bcells (l : Txt) : List Value := l.map fun c => Value.int .u8 c.toNat
def byrows (l : Txt) : List (List AV) := l.map fun c => [.sc (.int .u8 c.toNat)]
def bldH (V : Nm) (T e : TypeId) (a : AV) (l : Txt) : Nm → Option AO := fun n => if n = V then some (.trow T 2 true [[a, .hs (.c V 0 1) 1 0 l.length]]) else if n = .c V 0 1 then some (.trow e 1 false (byrows l)) else none
section
variable {V : Nm} {T e : TypeId} {a : AV} {l s : Txt} {g : Gh} {w : World}
@[simp] theorem bcells_len : (bcells l).length = l.length := by simp [bcells]
@[simp] theorem byrows_len : (byrows l).length = l.length := by simp [byrows]
theorem bcells_app : bcells (l ++ s) = bcells l ++ bcells s := by simp [bcells]
theorem c_ne {i j : Nat} : Nm.c V i j ≠ V := Nm.not_under_c (Nm.under_self V)
@[simp] theorem bldH_V : bldH V T e a l V = some (.trow T 2 true [[a, .hs (.c V 0 1) 1 0 l.length]]) := by simp [bldH]
@[simp] theorem bldH_b : bldH V T e a l (.c V 0 1) = some (.trow e 1 false (byrows l)) := by simp [bldH, c_ne]
theorem bldH_ne {n : Nm} (h : bldH V T e a l n ≠ none) : n = V ∨ n = .c V 0 1 := by
  unfold bldH at h
  split at h
  · exact .inl (by assumption)
  · split at h
    · exact .inr (by assumption)
    · exact absurd rfl h
def BldAt (H : Nm → Option AO) (V : Nm) (T e : TypeId) (l : Txt) : Prop :=
  (l = [] ∧ H V = some (.trow T 2 true [[.sc (.pointer none), .sc (.slice none 0 0)]])) ∨
  (l ≠ [] ∧ H V = some (.trow T 2 true [[.pt V 0, .hs (.c V 0 1) 1 0 l.length]]) ∧ H (.c V 0 1) = some (.trow e 1 false (byrows l)))
theorem owns_of {v : Value} (hv : RV g w v (.hs (.c V 0 1) 1 0 l.length)) (ho : OAt g w (.c V 0 1) (.trow e 1 false (byrows l))) : w.ownsRow 0 e 1 v l.length (bcells l) ∧ v.ownBlock = g.φ (.c V 0 1) := by
  generalize hn : l.length = len at hv
  refine ⟨⟨by simp [hn], ?_⟩, ?_⟩
  · cases hv with
    | hsN _ _ hk => exact .inl ⟨rfl, rfl⟩
    | hsB _ _ _ _ b cap ad hk h1 h2 h3 =>
      right
      subst hn
      simp only [OAt, hk] at ho
      obtain ⟨⟨cur, c1, c2, c3, c4, c5, c6, c7⟩, _, c8⟩ := ho
      have hc8 := c8 trivial
      have hcap : cap = g.κ (.c V 0 1) := by omega
      have had := h3 (by omega)
      rw [Nat.zero_mul] at had
      refine ⟨b, cap, cur, by rw [had], Nat.zero_le _, c1, h1, by omega, by rw [hcap]; exact c2, ?_⟩
      apply List.ext_getElem?
      intro i
      rw [List.getElem?_take, Nat.mul_one]
      by_cases hi : i < l.length
      · rw [if_pos hi]
        have h4 := (c7 i [.sc (.int .u8 l[i].toNat)] (by simp [byrows, hi]) 0 _ rfl).sc_eq
        have hlt : i < cur.size := by rw [c2]; omega
        simp only [Nat.mul_one, Nat.add_zero, Array.getD_eq_getD_getElem?, Array.getElem?_eq_getElem hlt, Option.getD_some] at h4
        simp [hlt, h4, bcells, hi]
      · rw [if_neg hi]
        simp [bcells, hi]
  · cases hv with
    | hsN _ _ hk => rw [hk]; rfl
    | hsB _ _ _ _ b cap ad hk h1 h2 h3 =>
      simp only [OAt, hk] at ho
      have hc8 := ho.2.2 trivial
      have had := h3 (by omega)
      rw [hk, had]
      rfl
theorem owns_to {v : Value} {b : Nat} (hk : v.ownBlock = g.φ (.c V 0 1)) (hcap : ∀ ad n cap, v = .slice ad n cap → g.κ (.c V 0 1) = cap) (h : w.ownsRow 0 e 1 v l.length (bcells l)) (h0 : 0 < l.length) :
    RV g w v (.hs (.c V 0 1) 1 0 l.length) ∧ OAt g w (.c V 0 1) (.trow e 1 false (byrows l)) := by
  rcases h.2 with ⟨rfl, hl⟩ | ⟨b, cap, cur, rfl, _, c1, c2, c3, c4, c5⟩
  · omega
  · have hk' : g.φ (.c V 0 1) = some b := hk.symm
    have hκ := hcap _ _ _ rfl
    have get : ∀ i (hi : i < l.length), cur.getD (i * 1 + 0) undef = Value.int .u8 l[i].toNat := by
      intro i hi
      have h1 : (cur.toList.take (l.length * 1))[i]? = (bcells l)[i]? := by rw [c5]
      rw [List.getElem?_take, Nat.mul_one, if_pos hi] at h1
      have hlt : i < cur.size := by omega
      simp [bcells, hi, hlt] at h1
      simp [Array.getD_eq_getD_getElem?, hlt, h1]
    refine ⟨.hsB _ _ _ _ b cap _ hk' c2 (by omega) (fun _ => by simp), ?_⟩
    simp only [OAt, hk']
    refine ⟨⟨cur, c1, by rw [hκ]; exact c4, by omega, by simp; omega, by simp [byrows], ?_, ?_⟩, fun e => (by cases e), fun _ => by omega⟩
    · intro j hj
      have hj' : j < l.length := by simpa using hj
      have := get j hj'
      simp only [Nat.mul_one, Nat.add_zero] at this
      rw [this]
      rfl
    · intro i row hrow j x hx
      simp only [byrows, List.getElem?_map] at hrow
      obtain ⟨c, hc, rfl⟩ := Option.map_eq_some_iff.1 hrow
      obtain ⟨hi, hE⟩ := gS hc
      match j, hx with
      | 0, hx =>
        obtain rfl := Option.some.inj hx
        rw [get i hi, hE]
        exact .sc _
end
def vcap : Value → Nat
  | .slice _ _ c => c
  | _ => 0
section
variable {P : Program} {ρ : Ren}
theorem bld_raw {H : Nm → Option AO} {V : Nm} {T e : TypeId} {l : Txt} {g : Gh} {w : World} {b : Nat} (hH : BldAt H V T e l) (hobj : ∀ n o, H n = some o → OAt g w n o) (hk : g.φ V = some b) :
    ∃ p v, w.heap[b]? = some (.cells #[p, v] T (0, 0)) ∧ (p = .pointer none ∨ p = .pointer (some ⟨b, 0, none⟩)) ∧ w.ownsRow 0 e 1 v l.length (bcells l) ∧ (∀ x, v.ownBlock = some x → ∃ o, H (.c V 0 1) = some o ∧ g.φ (.c V 0 1) = some x) ∧ H V ≠ none ∧ g.κ V = 1 := by
  have two : ∀ (cur : Array Value), cur.size = 1 * 2 → ∃ p v, cur = #[p, v] := by
    intro cur c2
    rcases cur with ⟨_ | ⟨a0, _ | ⟨a1, _ | ⟨a2, tl⟩⟩⟩⟩
    · simp at c2
    · simp at c2
    · exact ⟨a0, a1, rfl⟩
    · simp at c2
  rcases hH with ⟨rfl, hHV⟩ | ⟨_, hHV, hHB⟩
  · have h0 := hobj V _ hHV
    simp only [OAt, hk] at h0
    obtain ⟨⟨cur, c1, c2, c3, c4, c5, c6, c7⟩, c8, _⟩ := h0
    have hκ : g.κ V = 1 := c8 trivial
    rw [hκ] at c2
    obtain ⟨p, v, rfl⟩ := two cur c2
    have hp : p = .pointer none := (c7 0 _ rfl 0 _ rfl).sc_eq
    have hv : v = .slice none 0 0 := (c7 0 _ rfl 1 _ rfl).sc_eq
    subst hp hv
    exact ⟨_, _, c1, .inl rfl, World.ownsRow_nil w 0 e 1, fun x hx => (by cases hx), by rw [hHV]; simp, hκ⟩
  · have h0 := hobj V _ hHV
    have h1 := hobj (.c V 0 1) _ hHB
    simp only [OAt, hk] at h0
    obtain ⟨⟨cur, c1, c2, c3, c4, c5, c6, c7⟩, c8, _⟩ := h0
    have hκ : g.κ V = 1 := c8 trivial
    rw [hκ] at c2
    obtain ⟨p, v, rfl⟩ := two cur c2
    have hp : RV g w p (.pt V 0) := c7 0 _ rfl 0 _ rfl
    have hv : RV g w v (.hs (.c V 0 1) 1 0 l.length) := c7 0 _ rfl 1 _ rfl
    obtain ⟨ho, hob⟩ := owns_of hv h1
    have hpp : p = .pointer (some ⟨b, 0, none⟩) := by
      cases hp with
      | pt _ _ b' hk' =>
        rw [hk] at hk'
        obtain rfl := Option.some.inj hk'
        rfl
    exact ⟨p, v, c1, .inr hpp, ho, fun x hx => ⟨_, hHB, by rw [← hob]; exact hx⟩, by rw [hHV]; simp, hκ⟩
set_option maxHeartbeats 1000000 in
theorem wstr_fn (L : Lays.n166 P ρ) (X : Builder.Extra P ρ) (gl : Nat → Option (List AV)) (V : Nm) (l s : Txt) (hs : s ≠ []) (hlen : l.length + s.length ≤ 140737488355328)
    (H : Nm → Option AO) (hH : BldAt H V (ρ.t 72) (ρ.t 5) l) :
    FnE P gl (ρ.f 166) (Nm.under V) [.pt V 0, tx s] H (fun _ y H' => y = .tup [.sc (.int .i64 s.length), .sc .nilIface] ∧ BldAt H' V (ρ.t 72) (ρ.t 5) (l ++ s)) noE := by
  have hspos : 0 < s.length := List.length_pos_iff.2 hs
  refine ⟨⟨_, L.f166, by kernel_rfl, by kernel_rfl⟩, fun root C w g args hr hru hHD hinv hgl hsz hargs => ?_⟩
  obtain ⟨a0, a1, rfl⟩ : ∃ a0 a1, args = #[a0, a1] := by
    rcases args with ⟨_ | ⟨a0, _ | ⟨a1, _ | ⟨a2, tl⟩⟩⟩⟩
    · simp at hsz
    · simp at hsz
    · exact ⟨a0, a1, rfl⟩
    · simp at hsz
  have r0 := hargs 0 a0 (.pt V 0) rfl rfl
  have r1 := (hargs 1 a1 (tx s) rfl rfl).sc_eq
  subst r1
  cases r0 with
  | pt _ _ b hk =>
  obtain ⟨p, v, c1, hpp, ho, hob, hVn, hκ⟩ := bld_raw hH hinv.obj hk
  have hne : v.ownBlock ≠ some b := by
    intro e
    obtain ⟨o', e1, e2⟩ := hob b e
    obtain ⟨o, e3⟩ := Option.ne_none_iff_exists'.1 hVn
    exact c_ne (hinv.inj _ _ _ _ b e1 e3 e2 hk)
  refine (wstr_raw L X b p v (bcells l) (bt s) w c1 hpp (by simpa using ho) hne (by simpa using hlen)).mono fun e w' he => ?_
  obtain ⟨rfl, v', hW⟩ := he
  have hown : w'.ownsRow 0 (ρ.t 5) 1 v' (l ++ s).length (bcells (l ++ s)) := by
    have := hW.own
    simpa [bcells_app, Lib.strCells, bcells] using this
  have hlive : ∀ x, v'.ownBlock = some x → (¬ C x ∧ (w.heap.size ≤ x ∨ ownH g H x) ∧ x < w'.heap.size) := by
    intro x hx
    have hlt : x < w'.heap.size := by
      rcases hown.2 with ⟨rfl, _⟩ | ⟨y, cap, cur, rfl, _, d1, _⟩
      · cases hx
      · obtain rfl : y = x := Option.some.inj hx
        rcases Nat.lt_or_ge y w'.heap.size with h' | h'
        · exact h'
        · simp [Array.getElem?_eq_none h'] at d1
    rcases hW.blk with hb | ⟨y, hy, hb⟩
    · obtain ⟨o', e1, e2⟩ := hob x (hb.symm.trans hx)
      obtain ⟨x1, x2, _⟩ := hinv.blk _ _ x e1 e2
      exact ⟨x1, x2, hlt⟩
    · rw [hx] at hy
      obtain rfl := Option.some.inj hy
      exact ⟨fun hc => by have := hinv.clt _ hc; omega, .inl hb, hlt⟩
  let g' : Gh := { C := C, φ := fun n => if n = .c V 0 1 then v'.ownBlock else g.φ n, κ := fun n => if n = .c V 0 1 then vcap v' else g.κ n }
  have hφ : ∀ n, n ≠ .c V 0 1 → g'.φ n = g.φ n ∧ g'.κ n = g.κ n := fun n h => by
    constructor
    · show (if n = .c V 0 1 then v'.ownBlock else g.φ n) = _
      rw [if_neg h]
    · show (if n = .c V 0 1 then vcap v' else g.κ n) = _
      rw [if_neg h]
  have hV : g'.φ V = some b := by
    show (if V = .c V 0 1 then v'.ownBlock else g.φ V) = some b
    rw [if_neg c_ne.symm]
    exact hk
  have hVκ : g'.κ V = 1 := by
    show (if V = .c V 0 1 then vcap v' else g.κ V) = 1
    rw [if_neg c_ne.symm]
    exact hκ
  have hB : g'.φ (.c V 0 1) = v'.ownBlock := if_pos rfl
  have hBκ : g'.κ (.c V 0 1) = vcap v' := if_pos rfl
  obtain ⟨q1, q2⟩ := owns_to (V := V) (e := ρ.t 5) (l := l ++ s) (g := g') (w := w') (v := v') (b := b) hB.symm (fun ad n cap e => by rw [hBκ, e]; rfl) hown (by simp; omega)
  have hdom : ∀ n, bldH V (ρ.t 72) (ρ.t 5) (.pt V 0) (l ++ s) n ≠ none → n = V ∨ n = .c V 0 1 := fun n => bldH_ne
  refine ⟨C, g', bldH V (ρ.t 72) (ρ.t 5) (.pt V 0) (l ++ s), .tup [.sc (.int .i64 s.length), .sc .nilIface], ⟨fun _ h => h, fun _ h => .inl h, ⟨hW.os, hW.tape, hW.output, hW.size, ?_, rfl, ?_, ?_, ?_, ?_⟩, ?_, ?_, ?_⟩, ?_, rfl, .inr ⟨by simp [hs], bldH_V, bldH_b⟩⟩
  · intro k hk2 hno
    refine hW.keep k hk2 (fun e => hno ⟨V, hVn, by rw [e]; exact hk⟩) (fun e => by
      obtain ⟨o', e1, e2⟩ := hob _ e
      exact hno ⟨.c V 0 1, by rw [e1]; simp, e2⟩)
  · intro x hx
    exact Nat.lt_of_lt_of_le (hinv.clt x hx) hW.size
  · intro n o e
    have hn := hdom n (by rw [e]; simp)
    rcases hn with rfl | rfl
    · rw [bldH_V] at e
      obtain rfl := Option.some.inj e
      simp only [OAt, hV]
      refine ⟨⟨_, hW.top, by rw [hVκ]; rfl, by rw [hVκ]; decide, by rw [hVκ]; simp, by simp, ?_, ?_⟩, fun _ => by rw [hVκ]; rfl, fun e => (by cases e)⟩
      · intro j hj
        simp only [List.length_singleton, Nat.one_mul] at hj
        match j, hj with
        | 0, _ => rfl
        | 1, _ =>
          show v'.oneCell' = true
          rcases hown.2 with ⟨rfl, _⟩ | ⟨y, cap, cur, rfl, _⟩ <;> rfl
      · intro i row hrow j x hx
        match i, hrow with
        | 0, hrow =>
          obtain rfl := Option.some.inj hrow
          match j, hx with
          | 0, hx =>
            obtain rfl := Option.some.inj hx
            exact .pt _ _ b hV
          | 1, hx =>
            obtain rfl := Option.some.inj hx
            exact q1
    · rw [bldH_b] at e
      obtain rfl := Option.some.inj e
      exact q2
  · intro n o x e hx
    rcases hdom n (by rw [e]; simp) with rfl | rfl
    · rw [hV] at hx
      obtain rfl := Option.some.inj hx
      obtain ⟨o, e3⟩ := Option.ne_none_iff_exists'.1 hVn
      obtain ⟨x1, x2, x3⟩ := hinv.blk _ _ b e3 hk
      exact ⟨x1, x2, Nat.lt_of_lt_of_le x3 hW.size⟩
    · rw [hB] at hx
      exact hlive x hx
  · intro n n' o o' x e e' hx hx'
    rcases hdom n (by rw [e]; simp) with rfl | rfl <;> rcases hdom n' (by rw [e']; simp) with rfl | rfl
    · rfl
    · rw [hV] at hx
      rw [hB] at hx'
      exact absurd (hx'.trans hx.symm) hW.ne
    · rw [hB] at hx
      rw [hV] at hx'
      exact absurd (hx.trans hx'.symm) hW.ne
    · rfl
  · intro n hn
    rcases hdom n hn with rfl | rfl
    · exact .inl (Nm.under_self _)
    · exact .inl (by simp [Nm.under])
  · intro n hD _
    have : n ≠ .c V 0 1 := fun e => by rw [e] at hD; simp [Nm.under] at hD
    exact hφ _ this
  · intro k i j hn
    have : Nm.u k i j ≠ .c V 0 1 := fun e => by cases e
    exact hφ _ this
  · exact .tup [_, _] _ rfl fun j v x hv hx => by
      match j, hv, hx with
      | 0, hv, hx => simp at hv hx; subst hv; subst hx; exact .sc _
      | 1, hv, hx => simp at hv hx; subst hv; subst hx; exact .sc _
end
end Go.Hm
end
