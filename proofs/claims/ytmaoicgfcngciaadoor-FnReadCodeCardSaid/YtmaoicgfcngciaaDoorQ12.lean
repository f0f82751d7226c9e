/-
  Own texts, joined by mkclaim.py: Hm86, Hm87, Hm88, Hm89, Hm94, Hm95, Hm96, Hm99, Hm100, Hm101, Hm102, Hm103, Hm105, Hm106, Hm108, Hm109, Hm110, Hm111, Hm112, Hm113, Hm114, Hm115, Hm119, Hm126, Hm127, Hm128, Hm129, Hm130, Hm131, Hm132, Hm133, Hm134, Hm135, Hm136, Hm137, Hm138.
-/
import Derived.Test.YtmaoicgfcngciaaDoorQ11
import Derived.Test.YtmaoicgfcngciaaDoorQ10
import Derived.Test.YtmaoicgfcngciaaDoorQ09
import Derived.Lib.Split
import Derived.Lib.ItoaNum
import Derived.Shelf.Strings.Builder1
set_option linter.unusedSimpArgs false
set_option linter.unusedVariables false
set_option maxRecDepth 100000
set_option maxHeartbeats 4000000

section
set_option linter.unusedSectionVars false
namespace Go.Hm
open Go Go.RowKit
structure KB (w w' : Wld) : Prop where
  len : w.acts.length ≤ w'.acts.length
  blk : ∀ i, i < w.acts.length → w'.blk i = w.blk i
theorem KB.refl (w : Wld) : KB w w := ⟨Nat.le_refl _, fun _ _ => rfl⟩
theorem KB.trans {w w' w'' : Wld} (h : KB w w') (h' : KB w' w'') : KB w w'' := ⟨Nat.le_trans h.len h'.len, fun i hi => (h'.blk i (Nat.lt_of_lt_of_le hi h.len)).trans (h.blk i hi)⟩
theorem KB.same {w w' : Wld} (h : w'.acts = w.acts) : KB w w' := ⟨by rw [h]; exact Nat.le_refl _, fun i _ => by simp only [Wld.blk, h]⟩
theorem KB.set {w : Wld} {l : Option Nat} {x : Int} {s : Slt} : KB w (w.set l x s) := by
  cases l with
  | none => exact .same rfl
  | some i =>
    refine ⟨by simp [Wld.set], fun j _ => ?_⟩
    simp only [Wld.set, Wld.blk, List.getElem?_modify]
    by_cases e : i = j
    · subst e
      cases h : w.acts[i]? <;> simp
    · simp [e]
section
variable {p : Prg} {R : Wld → Nat → Wld × Val} {w : Wld} {a b i : Nat} {x : Int} {vs : List Val} {s : Stm} {v : Val}
variable (hR : ∀ w a, a < w.acts.length → KB w (R w a).1)
include hR
end
structure Alike (p q : Prg) : Prop where
  kind : ∀ b, kindAt p b = kindAt q b
  par : ∀ b : Nat, (match p[b]? with | some k => k.params | none => []) = (match q[b]? with | some k => k.params | none => [])
theorem Alike.parN {p q : Prg} (h : Alike p q) (b : Nat) : parN p b = parN q b := by
  have := congrArg List.length (h.par b)
  unfold Hm.parN
  cases h1 : p[b]? <;> cases h2 : q[b]? <;> simp [h1, h2] at this ⊢ <;> omega
section
variable {p q : Prg} {R S : Wld → Nat → Wld × Val} {w : Wld} {a b i : Nat} {x : Int} {vs : List Val} {s : Stm} {v : Val}
variable (hA : Alike p q)
include hA
variable (hR : ∀ w a, a < w.acts.length → R w a = S w a)
include hR
end
end Go.Hm
end
section
namespace Go.Hm
open Go Go.RowKit
section
variable {p q : Prg} {b : Nat} {k k' : Blk} {x : Int} {s : Stm}
end
section
variable {p : Prg} {b i : Nat} {k : Blk} {s : Stm}
end
end Go.Hm
end
section
namespace Go.Hm
open Go Go.RowKit
section
variable {X : Ctx} {st : St} {K : St → Prop} {E : AV → St → Prop}
def dfree (D : Nm → Bool) (hp : Nm → Option AO) : Nm → Option AO := fun m => if D m then none else hp m
def St.forget (D : Nm → Bool) (st : St) : St := { tm := st.tm, hp := dfree D st.hp, n := st.n, gl := st.gl }
@[simp] theorem forget_tm {D : Nm → Bool} {t : Nat} : (st.forget D).tm t = st.tm t := rfl
@[simp] theorem forget_hp {D : Nm → Bool} {m : Nm} : (st.forget D).hp m = if D m then none else st.hp m := rfl
end
section
variable {X : Ctx} {st : St} {K : St → Prop} {E : AV → St → Prop} {d f : Nat} {ty : TypeId} {pos : String} {aft : Array Edge} {g : Option (Nat × Bool)} {c : Operand} {args : Array Operand} {Ts : Array TypeId} {xs ys az : List AV}
end
section
variable {P : Program} {own : Nat → Prop} {C : Nat → Prop} {w0 : World} {g : Gh} {st : St} {a : Go.Act} {w : World}
end
section
variable {X : Ctx} {st : St} {K : St → Prop} {E : AV → St → Prop} {d : Nat} {ty : TypeId} {pos : String} {aft : Array Edge} {g : Option (Nat × Bool)}
end
theorem OkS.two {D : Nm → Bool} {root n m : Nm} {i j i' j' : Nat} (h : n.sroot = true) (h' : m.sroot = true) (hne : ¬ (i = i' ∧ j = j')) : OkS D root [(n, .c root i j), (m, .c root i' j')] := by
  refine ⟨by simp [h, h'], by simp, ?_⟩
  refine .cons (fun q hq => ?_) (.cons (fun q hq => by simp at hq) .nil)
  obtain rfl := by simpa using hq
  exact fun k hk => Nm.c_disj hne hk
def idleTo (p : Prg) (b i : Nat) : List Int := ((List.range i).filter fun j => idleAt p b j).map fun j : Nat => (j : Int)
section
variable {p : Prg} {b i : Nat} {k : Blk}
@[simp] theorem idleTo_zero : idleTo p b 0 = [] := rfl
end
structure Vw where
  block : Int
  names : List Int
  vals : List Int
  deriving DecidableEq, Inhabited
def Vw.own (n : Nm) (i : Nat) (v : Vw) : List AV := [iv v.block, .hs (.c n i 1) 1 0 v.names.length, .hs (.c n i 2) 1 0 v.vals.length]
@[simp] theorem Vw.own_eq {n : Nm} {i : Nat} {v : Vw} : v.own n i = [iv v.block, .hs (.c n i 1) 1 0 v.names.length, .hs (.c n i 2) 1 0 v.vals.length] := rfl
def vwRows (n : Nm) (cs : List Vw) : List (List AV) := cs.mapIdx fun i c => c.own n i
section
variable {cs : List Vw} {i a b d l : Nat} {n q k1 : Nm} {c : Vw}
@[simp] theorem vwRows_nil : vwRows n [] = [] := rfl
end
section
variable {p : Prg} {b c : Nat} {x : Int} {k : Blk} {l : List (Int × Slt)} {q : Int × Slt}
end
end Go.Hm
end
section
namespace Go.Hm
open Go Go.RowKit
section
variable {p : Prg} {b : Nat} {k : Blk}
end
def grows (g : Int → Slt) (l : List Int) : List (AV × AV) := l.map fun x => (iv x, .agg (slotC (g x)))
section
variable {g : Int → Slt} {l : List Int} {n : Int} {f : Nm → Option Nm}
@[simp] theorem grows_nil : grows g [] = [] := rfl
end
end Go.Hm
end
section
namespace Go.Hm
open Go Go.RowKit
structure Frm where
  blk : Nat
  pc : Nat
  fasts : List Slt
  cells : List Nat
  names : List Slt
  stack : List Val
structure Mch where
  cells : List Slt
  globals : List Slt
  funs : List (Nat × List Nat)
  classes : List (List Slt)
  frames : List Frm
  made : Nat
  deep : Nat
  out : List Int
  trace : List (Nat × Nat)
  en : Int
  left : Nat
def parAt (p : Prg) (b : Nat) : Nat := match p[b]? with | some k => k.parent.toNat | none => 0
def capsL (p : Prg) (b : Nat) : List Int := (freesL p b).map (cellPl p (parAt p b))
section
variable (p : Prg) (m : Mch) (fs : List Frm) (f : Frm) (o : Int × Int)
def Mch.top : Mch := { m with frames := fs ++ [f] }
def Mch.stop (e : Int) : Mch := { m.top fs f with en := e }
def Frm.push (v : Val) : Frm := { f with stack := f.stack ++ [v] }
def Frm.pop : Frm := { f with stack := f.stack.dropLast }
def Frm.tos : Val := f.stack.getLastD (0, 0)
def slAt (l : List Slt) (i : Nat) : Slt := match l[i]? with | some s => s | none => none
def getS : Slt :=
  if o.1 ≤ 4 then slAt f.fasts o.2.toNat
  else if o.1 ≤ 7 then slAt m.cells (f.cells.getD o.2.toNat 0)
  else if o.1 ≤ 10 then slAt m.globals o.2.toNat else slAt f.names o.2.toNat
def whyS : Int := if o.1 ≤ 4 then 2 else if o.1 ≤ 7 then (if o.2 < (cellsL p f.blk).length then 2 else 3) else 4
def setS (s : Slt) : Mch :=
  if o.1 ≤ 4 then m.top fs { f with fasts := f.fasts.set o.2.toNat s }
  else if o.1 ≤ 7 then { m.top fs f with cells := m.cells.set (f.cells.getD o.2.toNat 0) s }
  else if o.1 ≤ 10 then { m.top fs f with globals := m.globals.set o.2.toNat s } else m.top fs { f with names := f.names.set o.2.toNat s }
def loadM : Mch := match getS m f o with
  | some v => m.top fs (f.push v)
  | none => if whyS p f o = 4 then
      match slAt m.globals o.2.toNat with
      | some v => m.top fs (f.push v)
      | none => if o.2 = 7 then m.top fs (f.push (1, 70)) else m.stop fs f 4
    else m.stop fs f (whyS p f o)
def storeM : Mch := setS m fs f.pop o (some f.tos)
def delM : Mch := match getS m f o with
  | some _ => setS m fs f o none
  | none => m.stop fs f (whyS p f o)
def beginM (b : Nat) (cs : List Nat) (vs : List Val) : Mch :=
  let F : Frm := ⟨b, 0, List.replicate (fastsL p b).length none, ((List.range (cellsL p b).length).map (m.cells.length + ·)) ++ cs, noSlots, []⟩
  let M : Mch := { m with cells := m.cells ++ List.replicate (cellsL p b).length none, made := m.made + 1, deep := max m.deep (m.frames.length + 1), frames := m.frames ++ [F] }
  match (codeL p b).params, vs with
  | [x], [v] => if x ∈ fastsL p b then { M with frames := m.frames ++ [{ F with fasts := F.fasts.set (placeIn (fastsL p b) x).toNat (some v) }] }
    else { M with cells := M.cells.set (m.cells.length + (placeIn (cellsL p b) x).toNat) (some v) }
  | _, _ => M
def callM : Mch :=
  let n := o.2.toNat
  let k := f.stack.length - n - 1
  let F : Frm := { f with stack := f.stack.take k }
  let g := f.stack.getD k (0, 0)
  if g.1 ≠ 2 then m.stop fs F 5 else
  match m.funs[g.2.toNat]? with
  | some h => if parN p h.1 ≠ n then m.stop fs F 6 else beginM p (m.top fs F) h.1 h.2 (f.stack.drop (k + 1))
  | none => m.stop fs F 5
def capM (b : Nat) : List Nat := (capsL p b).map fun k => f.cells.getD k.toNat 0
def attrM : Mch :=
  let v := f.tos
  if v.1 ≠ 3 then m.stop fs f.pop 5 else
  match slAt (m.classes.getD v.2.toNat []) o.2.toNat with
  | some u => m.top fs (f.pop.push u)
  | none => m.stop fs f.pop 7
def addM : Mch :=
  let b := f.tos
  let a := f.pop.tos
  if a.1 ≠ 1 ∨ b.1 ≠ 1 then m.stop fs f.pop.pop 5 else m.top fs (f.pop.pop.push (1, (a.2 + b.2).tmod 1000))
def leaveM (v : Val) : Mch := match fs.getLast? with
  | some g => { m with frames := fs.dropLast ++ [g.push v] }
  | none => { m with frames := [] }
def endM : Mch := if kindAt p f.blk = 2 then leaveM { m with classes := m.classes ++ [f.names] } fs (3, m.classes.length) else leaveM m fs (0, 0)
def tickM : Mch := if m.left = 0 then m.stop fs f 1 else
  { m.top fs f with left := m.left - 1, trace := m.trace ++ [(f.blk, ticks ((opsL p f.blk).take (f.pc - 1)))] }
def workM : Mch :=
  if o.1 = 1 then m.top fs (f.push (1, o.2))
  else if o.1 = 14 then addM m fs f
  else if o.1 = 15 then { m.top fs (f.push (2, m.funs.length)) with funs := m.funs ++ [(o.2.toNat, capM p f o.2.toNat)] }
  else if o.1 = 16 then beginM p (m.top fs f) o.2.toNat (capM p f o.2.toNat) []
  else if o.1 = 17 then callM p m fs f o
  else if o.1 = 18 then attrM m fs f o
  else if o.1 = 19 then { m.top fs f.pop with out := m.out ++ [shown f.tos] }
  else leaveM m fs f.tos
def ordM : Mch :=
  if o.1 = 0 then tickM p m fs f
  else if 2 ≤ o.1 ∧ o.1 ≤ 13 then
    (if (o.1 - 2) % 3 = 0 then loadM p m fs f o else if (o.1 - 2) % 3 = 1 then storeM m fs f o else delM p m fs f o)
  else workM p m fs f o
end
def stepM (p : Prg) (m : Mch) : Mch := match m.frames.getLast? with
  | some f => match (opsL p f.blk)[f.pc]? with
    | some o => ordM p m m.frames.dropLast { f with pc := f.pc + 1 } o
    | none => endM p m m.frames.dropLast f
  | none => m
def Mch.ended (m : Mch) : Prop := m.frames = [] ∨ m.en ≠ 0
instance (m : Mch) : Decidable m.ended := decidable_of_iff (m.frames.length = 0 ∨ m.en ≠ 0) (by simp [Mch.ended])
def runM (p : Prg) : Nat → Mch → Mch
  | 0, m => m
  | n + 1, m => if m.ended then m else runM p n (stepM p m)
def emptyM (fuel : Nat) : Mch := ⟨[], noSlots, [], [], [], 0, 0, [], [], 0, fuel⟩
def startM (p : Prg) (fuel : Nat) : Mch := beginM p (emptyM fuel) 0 [] []
section
variable {p : Prg} {b o c : Nat} {k q : Blk} {x : Int}
end
end Go.Hm
end
section
namespace Go.Hm
open Go Go.RowKit
def Steps (p : Prg) (m m' : Mch) : Prop := ∃ N, ∀ k, runM p (N + k) m = runM p k m'
theorem Steps.refl {p : Prg} (m : Mch) : Steps p m m := ⟨0, fun k => by rw [Nat.zero_add]⟩
theorem Steps.trans {p : Prg} {a b c : Mch} (h : Steps p a b) (h' : Steps p b c) : Steps p a c := by
  obtain ⟨N, h⟩ := h
  obtain ⟨M, h'⟩ := h'
  exact ⟨N + M, fun k => by rw [Nat.add_assoc, h, h']⟩
theorem Steps.one {p : Prg} {m : Mch} (h : ¬ m.ended) : Steps p m (stepM p m) := ⟨1, fun k => by rw [Nat.add_comm, runM, if_neg h]⟩
section
variable {p : Prg} {w : Wld} {m : Mch} {B : List Nat} {a b o : Nat} {c : Act} {k : Blk} {f : Frm} {x : Int} {fs : List Frm}
end
section
variable {p : Prg} {w : Wld} {m : Mch} {B : List Nat} {a b o d : Nat} {c e : Act} {k : Blk} {f : Frm} {x : Int} {fs : List Frm} {s : Slt}
end
end Go.Hm
end
section
namespace Go.Hm
open Go Go.RowKit
section
variable {p : Prg} {w : Wld} {m : Mch} {B : List Nat} {a b o d up : Nat} {c e : Act} {k : Blk} {f : Frm} {x : Int} {fs : List Frm} {vs : List Val} {cs : List Nat}
end
section
variable {p : Prg} {w : Wld} {m : Mch} {B : List Nat} {a b o d up : Nat} {c e : Act} {k : Blk} {f : Frm} {x : Int} {fs : List Frm} {vs : List Val} {cs : List Nat} {st : List Nat} {s : Stm}
def Frm.at (p : Prg) (f : Frm) (l : List (Int × Int)) : Prop := (opsL p f.blk).drop f.pc = l
def Frm.next (f : Frm) : Frm := { f with pc := f.pc + 1 }
end
end Go.Hm
end
section
namespace Go.Hm
open Go Go.RowKit
section
variable {p : Prg} {w : Wld} {m : Mch} {B : List Nat} {a b o d up : Nat} {c e : Act} {k : Blk} {f : Frm} {x : Int} {fs : List Frm} {vs : List Val} {cs : List Nat} {st : List Nat} {s : Stm} {n : Nat} {R : Wld → Nat → Wld × Val}
end
section
variable {p : Prg} {n : Nat} {R : Wld → Nat → Wld × Val} {w : Wld} {a b up : Nat} {vs : List Val} {s : Stm} {k : Blk}
end
section
variable {p : Prg} {w : Wld} {i a : Nat} {v : Vw} {x : Int}
end
end Go.Hm
end
section
namespace Go.Hm
open Go Go.RowKit
section
variable {p : Prg} {w : Wld} {m : Mch} {B : List Nat} {a b o d up : Nat} {c e : Act} {k : Blk} {f : Frm} {x : Int} {fs : List Frm} {vs : List Val} {cs : List Nat} {st : List Nat} {s : Stm} {n : Nat} {R : Wld → Nat → Wld × Val}
end
section
variable {p : Prg} {m : Mch} {n i j : Nat}
end
end Go.Hm
end
section
namespace Go.Hm
open Go Go.RowKit
structure OrdOk (p : Prg) (b : Nat) (o : Int × Int) : Prop where
  code : 0 ≤ o.1 ∧ o.1 ≤ 20
  arg : 0 ≤ o.2 ∧ o.2 ≤ 1000
  fast : 2 ≤ o.1 → o.1 ≤ 4 → o.2 < (fastsL p b).length
  cell : 5 ≤ o.1 → o.1 ≤ 7 → o.2 < ((cellsL p b).length : Int) + (freesL p b).length
  name : 8 ≤ o.1 → o.1 ≤ 13 → o.2 ≤ 7
  attr : o.1 = 18 → o.2 ≤ 7
  blk : o.1 = 15 ∨ o.1 = 16 → ∃ q, p[o.2.toNat]? = some q ∧ q.parent = b ∧ 0 < o.2 ∧ q.kind = o.1 - 14
  call : o.1 = 17 → o.2 ≤ 1
  ret : o.1 = 20 → kindAt p b = 1
section
variable {p : Prg} {b : Nat} {k : Blk} {s : Stm} {x : Int} {h : Nat} {l : List (Int × Int)}
theorem nameOp_ok (hp : ShapeP p) (hk : p[b]? = some k) (hu : x ∈ k.us) {v : Int} (h0 : 0 ≤ v) (h2 : v ≤ 2) : OrdOk p b (nameOp p b x v) := by
  have hx : 0 ≤ x ∧ x ≤ 7 := by
    rw [Blk.us, mem_sorted] at hu
    exact hu.2
  have f1 := fastsL_len (p := p) (b := b)
  have f2 := cellsL_len (p := p) (b := b)
  have f3 := freesL_len (p := p) (b := b)
  rcases nameOp_sym (w := v) hp hk hu with ⟨_, e⟩ | ⟨_, e⟩ | ⟨_, i, e, hi, _⟩ | ⟨_, i, e, hi, _⟩ | ⟨_, i, e, hi, _⟩ <;> rw [e] <;> refine ⟨?_, ?_, ?_, ?_, ?_, ?_, ?_, ?_, ?_⟩ <;> simp only [] <;> omega
end
section
variable {p : Prg} {m : Mch} {nf nk nc nf' nk' nc' b e : Nat} {fs : List Frm} {f g : Frm} {o : Int × Int} {v : Val} {k : Blk} {x : Int}
end
end Go.Hm
end
section
namespace Go.Hm
open Go Go.RowKit
section
variable {p : Prg} {m : Mch} {b e : Nat} {fs : List Frm} {f g : Frm} {o : Int × Int} {v : Val} {k : Blk} {x : Int} {l : List (Int × Int)}
end
section
variable {p : Prg} {m : Mch} {b e d n i j N M : Nat} {fs : List Frm} {f g : Frm} {o : Int × Int} {v : Val} {k : Blk} {x : Int} {l : List (Int × Int)}
def Mch.add (d : Nat) (m : Mch) : Mch := { m with left := m.left + d }
end
end Go.Hm
end
section
namespace Go.Hm
open Go Go.RowKit
section
variable {p : Prg} {m : Mch} {b d n i j N M t : Nat} {fs : List Frm} {f g : Frm} {o : Int × Int} {v : Val} {k : Blk} {x : Int}
open Classical in
noncomputable def ranP (p : Prg) (n : Nat) : Mch := if h : ∃ N, (runM p N (startM p n)).ended then runM p (Classical.choose h) (startM p n) else startM p n
end
def hset (S : Nm → Bool) (H : Nm → Option AO) : Nm → Option AO := fun n => if S n = true then none else H n
section
variable {own : Nat → Prop} {C C' : Nat → Prop} {w w' : World} {g g' : Gh} {D : Nm → Bool} {root : Nm} {H H' : Nm → Option AO}
def cset (S : Nm → Bool) (C : Nat → Prop) (g : Gh) (H : Nm → Option AO) (b : Nat) : Prop := C b ∨ ∃ n o, S n = true ∧ H n = some o ∧ g.φ n = some b
theorem After.settle (h : After own C w g D root H H' C' g' w') (S : Nm → Bool) (hw : ∀ n, H n ≠ none → D n = true) : After own C w g D root H (hset S H') (cset S C' g' H') (g'.more (cset S C' g' H')) w' := by
  have hC : ∀ b, g'.C b → cset S C' g' H' b := fun b hb => .inl (h.inv.hC ▸ hb)
  have old : ∀ n o, hset S H' n = some o → H' n = some o ∧ S n ≠ true := by
    intro n o e
    unfold hset at e
    split at e
    · cases e
    · exact ⟨e, by assumption⟩
  refine ⟨fun b hb => .inl (h.mono b hb), ?_, ⟨h.inv.os, h.inv.tape, h.inv.output, h.inv.size, h.inv.keep, rfl, ?_, ?_, ?_, ?_⟩, ?_, h.same, h.ust⟩
  · rintro b (hb | ⟨n, o, _, ho, hk⟩)
    · exact h.new b hb
    · exact .inr (h.inv.blk n o b ho hk).2.1
  · rintro b (hb | ⟨n, o, _, ho, hk⟩)
    · exact h.inv.clt b hb
    · exact (h.inv.blk n o b ho hk).2.2
  · intro n o e
    have := (h.inv.obj n o (old n o e).1).tr (g' := g'.more (cset S C' g' H')) (w' := w') (n' := n) (f := some) hC (fun _ _ => rfl) (fun k k' e => by obtain rfl := Option.some.inj e; exact ⟨rfl, rfl⟩) rfl (fun _ _ => rfl)
    rwa [AO.tr_some] at this
  · intro n o b e hk
    obtain ⟨e1, e2⟩ := old n o e
    obtain ⟨x1, x2, x3⟩ := h.inv.blk n o b e1 hk
    refine ⟨?_, x2, x3⟩
    rintro (hb | ⟨n', o', hs, ho', hk'⟩)
    · exact x1 hb
    · exact e2 (h.inv.inj n' n o' o b ho' e1 hk' hk ▸ hs)
  · intro n n' o o' b e e' hk hk'
    exact h.inv.inj n n' o o' b (old n o e).1 (old n' o' e').1 hk hk'
  · intro n hn
    refine h.dom n fun e => hn ?_
    unfold hset
    split
    · rfl
    · exact e
end
section
variable {P : Program} {gl : Nat → Option (List AV)} {f : FuncId} {D : Nm → Bool} {az : List AV} {H : Nm → Option AO} {R R' : Nm → AV → (Nm → Option AO) → Prop}
theorem FnE.settle (S : Nm → Nm → Bool) (h : FnE P gl f D az H R noE) (hR : ∀ r y H', R r y H' → ∃ y', Bw H' (fun n => !S r n) y y' ∧ R' r y' (hset (S r) H')) : FnE P gl f D az H R' noE := by
  refine ⟨h.1, fun root C w g args h1 h2 h3 h4 h5 h6 h7 => ?_⟩
  refine (h.2 root C w g args h1 h2 h3 h4 h5 h6 h7).mono fun e w' he => ?_
  cases e with
  | returned v =>
    obtain ⟨C', g', H', x, hA, hv, hr⟩ := he
    obtain ⟨y', hb, hr'⟩ := hR _ _ _ hr
    refine ⟨_, _, _, y', hA.settle (S root) h3, ?_, hr'⟩
    exact RV.bw hA.inv (fun b hb => .inl hb) (fun n o b hS ho hk => .inr ⟨n, o, by simpa using hS, ho, hk⟩) hb hv
  | panicked ch =>
    obtain ⟨_, _, _, _, _, _, _, _, hx⟩ := he
    exact hx.elim
  | outgrown => exact he.elim
theorem FnOk.settle (h : FnOk P gl f az R) {S : AV → Prop} (hR : ∀ r y H', R r y H' → ∃ y', Bw H' noD y y' ∧ S y') : FnOk P gl f az (fun _ y _ => S y) :=
  FnE.settle (fun _ _ => true) h fun r y H' hr => by
    obtain ⟨y', h1, h2⟩ := hR r y H' hr
    exact ⟨y', h1, h2⟩
end
end Go.Hm
end
section
namespace Go.Hm
open Go Go.RowKit
abbrev Txt := List UInt8
def dg (n : Nat) : UInt8 := UInt8.ofNat (48 + n)
def numN (n : Nat) : Txt := if n < 10 then [dg n] else numN (n / 10) ++ [dg (n % 10)]
def numI (n : Int) : Txt := if n < 0 then 45 :: numN n.natAbs else numN n.natAbs
theorem dg_val {n : Nat} (h : n < 10) : (dg n).toNat = 48 + n := by
  simp only [dg, UInt8.toNat_ofNat']
  omega
theorem numN_small {n : Nat} (h : n < 10) : numN n = [dg n] := by rw [numN, if_pos h]
theorem numN_two {n : Nat} (h : 10 ≤ n) (h' : n < 100) : numN n = [dg (n / 10), dg (n % 10)] := by
  rw [numN, if_neg (by omega), numN_small (by omega)]
  rfl
theorem numN_dig : ∀ (n : Nat), ∀ c ∈ numN n, 48 ≤ c.toNat ∧ c.toNat ≤ 57
  | n => by
    intro c hc
    rw [numN] at hc
    split at hc
    · rename_i h
      rw [List.mem_singleton] at hc
      subst hc
      rw [dg_val h]
      omega
    · rw [List.mem_append, List.mem_singleton] at hc
      rcases hc with hc | rfl
      · exact numN_dig (n / 10) c hc
      · rw [dg_val (by omega)]
        omega
def splitL (c : UInt8) : Txt → List Txt
  | [] => [[]]
  | x :: l => if x = c then [] :: splitL c l else match splitL c l with
    | w :: ws => (x :: w) :: ws
    | [] => [[x]]
section
variable {c : UInt8} {l m w : Txt} {ls ws : List Txt}
theorem splitL_ne : splitL c l ≠ [] := by
  cases l with
  | nil => simp [splitL]
  | cons x l =>
    rw [splitL]
    split
    · simp
    · split <;> simp
theorem splitL_one (h : c ∉ l) : splitL c l = [l] := by
  induction l with
  | nil => rfl
  | cons x l ih =>
    simp only [List.mem_cons, not_or] at h
    rw [splitL, if_neg (fun e => h.1 e.symm), ih h.2]
theorem splitL_app (h : c ∉ l) : splitL c (l ++ c :: m) = l :: splitL c m := by
  induction l with
  | nil => rw [List.nil_append, splitL, if_pos rfl]
  | cons x l ih =>
    simp only [List.mem_cons, not_or] at h
    rw [List.cons_append, splitL, if_neg (fun e => h.1 e.symm), ih h.2]
def joinL (c : UInt8) : List Txt → Txt
  | [] => []
  | [w] => w
  | w :: w' :: ws => w ++ c :: joinL c (w' :: ws)
theorem join_split : ∀ {l : Txt}, joinL c (splitL c l) = l
  | [] => rfl
  | x :: l => by
    have ih := join_split (l := l)
    rw [splitL]
    split
    · rename_i h
      cases e : splitL c l with
      | nil => exact absurd e splitL_ne
      | cons w ws =>
        rw [e] at ih
        simp only [joinL, List.nil_append]
        rw [ih, h]
    · cases e : splitL c l with
      | nil => exact absurd e splitL_ne
      | cons w ws =>
        rw [e] at ih
        cases ws with
        | nil =>
          simp only [joinL] at ih ⊢
          rw [ih]
        | cons v vs =>
          simp only [joinL, List.cons_append] at ih ⊢
          rw [ih]
theorem split_join : ∀ {ls : List Txt}, ls ≠ [] → (∀ w ∈ ls, c ∉ w) → splitL c (joinL c ls) = ls
  | [], h, _ => absurd rfl h
  | [w], _, h => splitL_one (h w (List.mem_cons_self ..))
  | w :: v :: vs, _, h => by
    rw [joinL, splitL_app (h w (List.mem_cons_self ..)), split_join (by simp) fun x hx => h x (List.mem_cons_of_mem _ hx)]
def linesL (c : UInt8) (ls : List Txt) : Txt := ls.flatMap (· ++ [c])
theorem linesL_cons : linesL c (w :: ls) = w ++ c :: linesL c ls := by simp [linesL]
theorem linesL_join : linesL c ls = joinL c (ls ++ [[]]) := by
  induction ls with
  | nil => rfl
  | cons w ls ih =>
    rw [linesL_cons, ih]
    cases ls with
    | nil => rfl
    | cons v vs => rfl
theorem split_lines (h : ∀ w ∈ ls, c ∉ w) : splitL c (linesL c ls) = ls ++ [[]] := by
  rw [linesL_join, split_join (by simp)]
  intro w hw
  rcases List.mem_append.1 hw with hw | hw
  · exact h w hw
  · rw [List.mem_singleton] at hw
    subst hw
    simp
theorem lines_split (h : (splitL c l).getLast? = some []) : l = linesL c (splitL c l).dropLast := by
  rw [linesL_join]
  have h1 : (splitL c l).dropLast ++ [[]] = splitL c l := by
    obtain ⟨ys, hy⟩ := List.getLast?_eq_some_iff.1 h
    rw [hy]
    simp
  rw [h1, join_split]
theorem lines_count (h : ∀ w ∈ ls, c ∉ w) : (linesL c ls).count c = ls.length := by
  induction ls with
  | nil => rfl
  | cons w ls ih =>
    rw [linesL_cons, List.count_append, List.count_cons_self, ih fun x hx => h x (List.mem_cons_of_mem _ hx), List.count_eq_zero_of_not_mem (h w (List.mem_cons_self ..))]
    simp
end
def isDg (c : UInt8) : Bool := decide (48 ≤ c.toNat) && decide (c.toNat ≤ 57)
def smallN : Txt → Option Nat
  | [a] => if isDg a = true then some (a.toNat - 48) else none
  | [a, b] => if isDg a = true ∧ isDg b = true ∧ a ≠ 48 then some (10 * (a.toNat - 48) + (b.toNat - 48)) else none
  | _ => none
theorem isDg_dg {n : Nat} (h : n < 10) : isDg (dg n) = true := by
  simp only [isDg, dg_val h, Bool.and_eq_true, decide_eq_true_eq]
  omega
theorem dg_of {c : UInt8} (h : isDg c = true) : c = dg (c.toNat - 48) := by
  simp only [isDg, Bool.and_eq_true, decide_eq_true_eq] at h
  apply UInt8.toNat_inj.1
  rw [dg_val (by omega)]
  omega
theorem small_num {n : Nat} (h : n ≤ 99) : smallN (numN n) = some n := by
  by_cases h1 : n < 10
  · rw [numN_small h1]
    simp only [smallN, isDg_dg h1, if_true, dg_val h1]
    congr 1
    omega
  · have h2 : n / 10 < 10 := by omega
    have h3 : n % 10 < 10 := by omega
    rw [numN_two (by omega) (by omega)]
    have h4 : dg (n / 10) ≠ 48 := by
      intro e
      have := congrArg UInt8.toNat e
      rw [dg_val h2] at this
      simp at this
      omega
    simp only [smallN, isDg_dg h2, isDg_dg h3, dg_val h2, dg_val h3]
    rw [if_pos ⟨trivial, trivial, h4⟩]
    congr 1
    omega
theorem num_small {s : Txt} {n : Nat} (h : smallN s = some n) : n ≤ 99 ∧ s = numN n := by
  unfold smallN at h
  split at h
  · rename_i a
    split at h
    · rename_i ha
      have hd := dg_of ha
      simp only [isDg, Bool.and_eq_true, decide_eq_true_eq] at ha
      obtain rfl := Option.some.inj h
      refine ⟨by omega, ?_⟩
      rw [numN_small (by omega), ← hd]
    · cases h
  · rename_i a b
    split at h
    · rename_i hab
      obtain ⟨ha, hb, h0⟩ := hab
      have hda := dg_of ha
      have hdb := dg_of hb
      simp only [isDg, Bool.and_eq_true, decide_eq_true_eq] at ha hb
      have hn : a.toNat ≠ 48 := fun e => h0 (UInt8.toNat_inj.1 (by rw [e]; rfl))
      obtain rfl := Option.some.inj h
      refine ⟨by omega, ?_⟩
      rw [numN_two (by omega) (by omega)]
      have e1 : (10 * (a.toNat - 48) + (b.toNat - 48)) / 10 = a.toNat - 48 := by omega
      have e2 : (10 * (a.toNat - 48) + (b.toNat - 48)) % 10 = b.toNat - 48 := by omega
      rw [e1, e2, ← hda, ← hdb]
    · cases h
  · cases h
theorem small_iff {s : Txt} {n : Nat} : smallN s = some n ↔ n ≤ 99 ∧ s = numN n := ⟨num_small, fun ⟨h, e⟩ => e ▸ small_num h⟩
def tFun : Txt := [102, 117, 110]
def tClass : Txt := [99, 108, 97, 115, 115]
def numsOf (s : Stm) : List Int :=
  if s.kind = 0 ∨ s.kind = 1 ∨ s.kind = 3 ∨ s.kind = 4 then [s.to, s.a]
  else if s.kind = 2 ∨ s.kind = 6 then [s.to, s.a, s.b]
  else if s.kind = 5 then (if s.b = -1 then [s.to, s.a] else [s.to, s.a, s.b])
  else if s.kind = 7 ∨ s.kind = 8 then [s.a] else [s.to]
def wordsL (w : Txt) (ns : List Int) : Txt := w ++ ns.flatMap fun n => 32 :: numI n
section
variable {s : Stm} {k : Blk} {p q : Prg} {l w : Txt} {ns : List Int} {ks : List Nat} {ls ws : List Txt} {i n : Nat}
theorem numI_nat : numI (n : Int) = numN n := by
  unfold numI
  rw [if_neg (by omega)]
  rfl
theorem dig_not {c : UInt8} (h : c ∈ numI (n : Int)) : c ≠ 32 ∧ c ≠ 10 := by
  rw [numI_nat] at h
  have := numN_dig n c h
  constructor
  · rintro rfl
    exact absurd this.1 (by decide)
  · rintro rfl
    exact absurd this.1 (by decide)
theorem wordsL_join (w : Txt) (ns : List Int) : wordsL w ns = joinL 32 (w :: ns.map numI) := by
  unfold wordsL
  induction ns generalizing w with
  | nil => simp [joinL]
  | cons n ns ih =>
    have := ih (numI n)
    simp only [List.flatMap_cons, List.map_cons, joinL]
    rw [← this]
    simp
def Small (ns : List Int) : Prop := ∀ n ∈ ns, 0 ≤ n ∧ n ≤ 99
theorem words_clean (hw : (32 : UInt8) ∉ w) (h : Small ns) : ∀ x ∈ w :: ns.map numI, (32 : UInt8) ∉ x := by
  intro x hx
  rcases List.mem_cons.1 hx with rfl | hx
  · exact hw
  · obtain ⟨n, hn, rfl⟩ := List.mem_map.1 hx
    have := h n hn
    obtain ⟨m, rfl⟩ : ∃ m : Nat, n = m := ⟨n.toNat, by omega⟩
    exact fun e => (dig_not e).1 rfl
theorem no_nl (hw : (10 : UInt8) ∉ w) (h : Small ns) : (10 : UInt8) ∉ wordsL w ns := by
  unfold wordsL
  simp only [List.mem_append, List.mem_flatMap, List.mem_cons, not_or, not_exists, not_and]
  refine ⟨hw, fun n hn => ⟨by decide, fun e => ?_⟩⟩
  have := h n hn
  obtain ⟨m, rfl⟩ : ∃ m : Nat, n = m := ⟨n.toNat, by omega⟩
  exact (dig_not e).2 rfl
structure TxtS (s : Stm) : Prop where
  kind : 0 ≤ s.kind ∧ s.kind ≤ 11
  nums : Small (numsOf s)
  to : s.kind = 7 ∨ s.kind = 8 → s.to = 0 ∧ s.b = 0
  b : s.kind = 0 ∨ s.kind = 1 ∨ s.kind = 3 ∨ s.kind = 4 → s.b = 0
  a : 9 ≤ s.kind → s.a = 0 ∧ s.b = 0
end
end Go.Hm
end
section
namespace Go.Hm
open Go Go.RowKit
section
variable {s : Stm} {k : Blk} {p q : Prg} {l w : Txt} {ns : List Int} {ls ws rest : List Txt} {i n : Nat} {body : List Stm} {ks : List Blk}
structure TxtH (k : Blk) : Prop where
  kind : k.kind = 1 ∨ k.kind = 2
  parent : 0 ≤ k.parent ∧ k.parent ≤ 99
  params : Small k.params
  cls : k.kind = 2 → k.params = []
end
section
variable {s : Stm} {k k0 : Blk} {p q P : Prg} {l t : Txt} {ls rest : List Txt} {i n : Nat} {body : List Stm} {ks : List Blk}
structure TxtP (p : Prg) : Prop where
  head : ∃ b ks, p = ⟨0, -1, [], b⟩ :: ks
  heads : ∀ (i : Nat) k, p[i]? = some k → 0 < i → TxtH k
  stms : ∀ k ∈ p, ∀ s ∈ k.body, TxtS s
theorem TxtP.tail (h : TxtP p) (hk : p = k0 :: ks) : ∀ k ∈ ks, TxtH k ∧ ∀ s ∈ k.body, TxtS s := by
  subst hk
  intro k hm
  obtain ⟨i, hi⟩ := List.getElem?_of_mem hm
  exact ⟨h.heads (i + 1) k (by simpa using hi) (by omega), h.stms k (List.mem_cons_of_mem _ hm)⟩
end
end Go.Hm
end
section
namespace Go.Hm
open Go Go.RowKit
section
variable {s : Stm} {k : Blk} {p q : Prg} {l t w : Txt} {ls ws vs : List Txt} {i n K : Nat}
theorem TxtS.of (hp : ShapeP p) (hk : p[i]? = some k) (hs : s ∈ k.body) : TxtS s := by
  have h := hp.stm i k hk s hs
  have hkd := StmOk.kind h
  have hl := hp.len
  obtain ⟨kd, to, a, b⟩ := s
  obtain ⟨K, rfl⟩ : ∃ K : Nat, kd = K := ⟨kd.toNat, by simp only at hkd; omega⟩
  simp only at hkd
  by_cases e : b = -1
  all_goals
    rcases (by omega : K = 0 ∨ K = 1 ∨ K = 2 ∨ K = 3 ∨ K = 4 ∨ K = 5 ∨ K = 6 ∨ K = 7 ∨ K = 8 ∨ K = 9 ∨ K = 10 ∨ K = 11) with rfl | rfl | rfl | rfl | rfl | rfl | rfl | rfl | rfl | rfl | rfl | rfl
    all_goals simp [StmOk, Stm.reads, madeAs, e] at h
    all_goals refine ⟨by simp, fun x hx => ?_, fun _ => ?_, fun _ => ?_, fun _ => ?_⟩
    all_goals try simp [numsOf, e] at hx
    all_goals first | (simp_all; done) | (simp at *; omega)
theorem TxtP.of (hp : ValP p) : TxtP p := by
  have hs := hp.sh
  have hl := hs.len
  refine ⟨?_, fun i k hk hi => ?_, fun k hk s hs' => ?_⟩
  · cases p with
    | nil => simp at hl
    | cons k0 ks =>
      have h0 := hs.head 0 k0 rfl
      simp only [HeadOk, if_true] at h0
      obtain ⟨kd, par, ps, bd⟩ := k0
      obtain ⟨h1, h2, h3⟩ := h0
      simp only at h1 h2 h3
      subst h1 h2
      obtain rfl := List.eq_nil_of_length_eq_zero h3
      exact ⟨bd, ks, rfl⟩
  · have h0 := hs.head i k hk
    have hil := (gS hk).1
    unfold HeadOk at h0
    rw [if_neg (by omega)] at h0
    obtain ⟨h1, h2, h3, h4, h5⟩ := h0
    refine ⟨by omega, by omega, fun x hx => ?_, fun e => ?_⟩
    · have := (hs.names k (List.mem_of_getElem? hk)).params x hx
      omega
    · rcases h5 with h5 | ⟨_, h5, _⟩
      · exact List.eq_nil_of_length_eq_zero h5
      · omega
  · obtain ⟨i, hi⟩ := List.getElem?_of_mem hk
    exact .of hs hi hs'
def rNum : List Txt → Option (Nat × List Txt)
  | w :: ws => (smallN w).map fun n => (n, ws)
  | [] => none
end
section
variable {s : Stm} {k : Blk} {p q : Prg} {l t w : Txt} {ls ws vs : List Txt} {i n K : Nat}
end
end Go.Hm
end
section
namespace Go.Hm
open Go Go.RowKit
def opW : List Txt := [[116, 105, 99, 107], [110, 117, 109], [102, 97, 115, 116], [115, 101, 116, 102, 97, 115, 116], [100, 101, 108, 102, 97, 115, 116], [99, 101, 108, 108], [115, 101, 116, 99, 101, 108, 108], [100, 101, 108, 99, 101, 108, 108],
  [103, 108, 111, 98, 97, 108], [115, 101, 116, 103, 108, 111, 98, 97, 108], [100, 101, 108, 103, 108, 111, 98, 97, 108], [110, 97, 109, 101], [115, 101, 116, 110, 97, 109, 101], [100, 101, 108, 110, 97, 109, 101],
  [97, 100, 100], tFun, tClass, [99, 97, 108, 108], [97, 116, 116, 114], [112, 114, 105, 110, 116], [114, 101, 116, 117, 114, 110]]
def loneO (c : Int) : Bool := c == 0 || c == 14 || c == 19 || c == 20
def showO (o : Int × Int) : Txt := wordsL (opW.getD o.1.toNat []) (if loneO o.1 = true then [] else [o.2])
def fmtO (l : List (Int × Int)) : Txt := linesL 10 (l.map showO)
def codeW (w : Txt) : Option Nat := opW.findIdx? (· == w)
def readO (line : Txt) : Option (Int × Int) := match splitL 32 line with
  | w :: ws => match codeW w with
    | some c => if loneO c = true then (if ws = [] then some (c, 0) else none) else match ws with
      | [x] => (smallN x).map fun (n : Nat) => ((c : Int), (n : Int))
      | _ => none
    | none => none
  | [] => none
def readL1 (ls : List Txt) : Option (List (Int × Int)) := ls.mapM readO
def readCode (s : Txt) : Option (List (Int × Int)) := if (splitL 10 s).getLast? = some [] then readL1 (splitL 10 s).dropLast else none
structure TxtO (o : Int × Int) : Prop where
  code : 0 ≤ o.1 ∧ o.1 ≤ 20
  arg : 0 ≤ o.2 ∧ o.2 ≤ 99
  lone : loneO o.1 = true → o.2 = 0
section
variable {o : Int × Int} {os : List (Int × Int)} {p : Prg} {k : Blk} {b i j n : Nat} {l t w : Txt} {ls ws : List Txt} {x v : Int} {s : Stm}
theorem opW_mem {i : Nat} (h : i < 21) : ∀ c ∈ opW.getD i [], c ≠ 32 ∧ c ≠ 10 := by
  have : ∀ w ∈ opW, ∀ c ∈ w, c ≠ 32 ∧ c ≠ 10 := by decide
  rw [List.getD_eq_getElem?_getD, gE (by simpa [opW] using h)]
  exact this _ (List.getElem_mem _)
theorem opW_clean {i : Nat} (h : i < 21) : (32 : UInt8) ∉ opW.getD i [] ∧ (10 : UInt8) ∉ opW.getD i [] := ⟨fun e => (opW_mem h 32 e).1 rfl, fun e => (opW_mem h 10 e).2 rfl⟩
set_option maxRecDepth 10000 in
theorem codeW_at : ∀ i, i < 21 → codeW (opW.getD i []) = some i := by decide
theorem codeW_of {w : Txt} (h : codeW w = some i) : i < 21 ∧ w = opW.getD i [] := by
  unfold codeW at h
  obtain ⟨h1, h2, _⟩ := List.findIdx?_eq_some_iff_getElem.1 h
  refine ⟨h1, ?_⟩
  rw [List.getD_eq_getElem?_getD, gE h1]
  exact (eq_of_beq h2).symm
theorem TxtO.small (h : TxtO o) : Small (if loneO o.1 = true then [] else [o.2]) := by
  intro x hx
  split at hx
  · cases hx
  · rw [List.mem_singleton] at hx
    subst hx
    exact h.arg
theorem readO_show (h : TxtO o) : readO (showO o) = some o := by
  have hc := h.code
  have ha := h.arg
  have e : splitL 32 (showO o) = opW.getD o.1.toNat [] :: (if loneO o.1 = true then [] else [o.2]).map numI := by
    unfold showO
    rw [wordsL_join]
    exact split_join (by simp) (words_clean (opW_clean (by omega)).1 h.small)
  unfold readO
  rw [e]
  have h1 : ((o.1.toNat : Nat) : Int) = o.1 := by omega
  simp only [codeW_at o.1.toNat (by omega), h1]
  by_cases hl : loneO o.1 = true
  · rw [if_pos hl, if_pos hl]
    simp only [List.map_nil, if_true]
    rw [← h.lone hl]
  · rw [if_neg hl, if_neg hl]
    obtain ⟨m, hm⟩ : ∃ m : Nat, o.2 = m := ⟨o.2.toNat, by omega⟩
    have h2 : smallN (numI o.2) = some m := by rw [hm, numI_nat]; exact small_num (by omega)
    simp only [List.map_cons, List.map_nil, h2, Option.map_some]
    rw [← hm]
theorem readO_of (h : readO l = some o) : showO o = l ∧ TxtO o := by
  unfold readO at h
  split at h
  · rename_i w ws e
    have hl : l = joinL 32 (w :: ws) := by rw [← e, join_split]
    split at h
    · rename_i c hc
      obtain ⟨c1, c2⟩ := codeW_of hc
      split at h
      · rename_i h1
        split at h
        · rename_i h2
          subst h2
          obtain rfl := Option.some.inj h
          refine ⟨?_, ⟨by simp; omega, by simp, fun _ => rfl⟩⟩
          unfold showO
          rw [if_pos h1, hl, c2, wordsL_join]
          simp
        · cases h
      · rename_i h1
        split at h
        · rename_i x
          obtain ⟨n, hn, rfl⟩ := Option.map_eq_some_iff.1 h
          obtain ⟨n1, n2⟩ := num_small hn
          refine ⟨?_, ⟨by simp; omega, by simp; omega, fun e => absurd e h1⟩⟩
          unfold showO
          rw [if_neg h1, hl, c2, wordsL_join, n2]
          simp [numI_nat]
        · cases h
    · cases h
  · cases h
theorem showO_clean (h : TxtO o) : (10 : UInt8) ∉ showO o := no_nl (opW_clean (by have := h.code; omega)).2 h.small
theorem readL1_show (h : ∀ o ∈ os, TxtO o) : readL1 (os.map showO) = some os := by
  unfold readL1
  induction os with
  | nil => rfl
  | cons o os ih =>
    simp only [List.map_cons, List.mapM_cons, readO_show (h o (List.mem_cons_self ..)), ih fun x hx => h x (List.mem_cons_of_mem _ hx)]
    rfl
theorem readL1_of (h : readL1 ls = some os) : ls = os.map showO ∧ ∀ o ∈ os, TxtO o := by
  unfold readL1 at h
  induction ls generalizing os with
  | nil =>
    simp only [List.mapM_nil] at h
    obtain rfl := Option.some.inj h
    exact ⟨rfl, by simp⟩
  | cons w ls ih =>
    simp only [List.mapM_cons] at h
    cases h1 : readO w with
    | none => rw [h1] at h; cases h
    | some o =>
      cases h2 : ls.mapM readO with
      | none => rw [h1, h2] at h; cases h
      | some us =>
        rw [h1, h2] at h
        obtain rfl := Option.some.inj h
        obtain ⟨e1, e2⟩ := ih h2
        obtain ⟨e3, e4⟩ := readO_of h1
        refine ⟨by rw [List.map_cons, e3, ← e1], fun u hu => ?_⟩
        rcases List.mem_cons.1 hu with rfl | hu
        · exact e4
        · exact e2 u hu
theorem code_back (h : ∀ o ∈ os, TxtO o) : readCode (fmtO os) = some os := by
  have hc : ∀ w ∈ os.map showO, (10 : UInt8) ∉ w := by
    intro w hw
    obtain ⟨o, ho, rfl⟩ := List.mem_map.1 hw
    exact showO_clean (h o ho)
  unfold readCode fmtO
  rw [split_lines hc]
  simp [readL1_show h]
theorem code_count (h : ∀ o ∈ os, TxtO o) : (fmtO os).count 10 = os.length := by
  unfold fmtO
  rw [lines_count, List.length_map]
  intro w hw
  obtain ⟨o, ho, rfl⟩ := List.mem_map.1 hw
  exact showO_clean (h o ho)
theorem code_of (h : readCode t = some os) : fmtO os = t ∧ ∀ o ∈ os, TxtO o := by
  unfold readCode at h
  split at h
  · rename_i hl
    obtain ⟨e1, e2⟩ := readL1_of h
    refine ⟨?_, e2⟩
    unfold fmtO
    rw [← e1]
    exact (lines_split hl).symm
  · cases h
theorem lines_take (h : ∀ w ∈ ls, (10 : UInt8) ∉ w) : ∀ {i : Nat}, (linesL 10 ls)[i]? = some 10 → ∃ j, j ≤ ls.length ∧ (linesL 10 ls).take (i + 1) = linesL 10 (ls.take j) := by
  induction ls with
  | nil => intro i hi; simp [linesL] at hi
  | cons w ls ih =>
    intro i hi
    rw [linesL_cons] at hi ⊢
    rcases Nat.lt_trichotomy i w.length with hlt | heq | hgt
    · rw [List.getElem?_append_left hlt] at hi
      exact absurd (List.mem_of_getElem? hi) (h w (List.mem_cons_self ..))
    · subst heq
      refine ⟨1, by simp, ?_⟩
      rw [List.take_append]
      simp [linesL]
      exact List.take_of_length_le (by omega)
    · rw [List.getElem?_append_right (by omega)] at hi
      obtain ⟨d, hd⟩ : ∃ d, i - w.length = d + 1 := ⟨i - w.length - 1, by omega⟩
      rw [hd, List.getElem?_cons_succ] at hi
      obtain ⟨j, hj, e⟩ := ih (fun x hx => h x (List.mem_cons_of_mem _ hx)) hi
      refine ⟨j + 1, by simp; omega, ?_⟩
      rw [List.take_succ_cons, linesL_cons, ← e, List.take_append, List.take_of_length_le (by omega)]
      have : i + 1 - w.length = (d + 1) + 1 := by omega
      rw [this, List.take_succ_cons]
theorem code_early (h : readCode t = some os) (hi : t[i]? = some 10) : ∃ j, j ≤ os.length ∧ readCode (t.take (i + 1)) = some (os.take j) := by
  obtain ⟨e, hT⟩ := code_of h
  have hc : ∀ w ∈ os.map showO, (10 : UInt8) ∉ w := by
    intro w hw
    obtain ⟨o, ho, rfl⟩ := List.mem_map.1 hw
    exact showO_clean (hT o ho)
  rw [← e] at hi ⊢
  obtain ⟨j, hj, e2⟩ := lines_take hc hi
  rw [List.length_map] at hj
  refine ⟨j, hj, ?_⟩
  unfold fmtO
  rw [e2, ← List.map_take]
  exact code_back fun o ho => hT o (List.mem_of_mem_take ho)
theorem nameOp_txt (hp : ShapeP p) (hk : p[b]? = some k) (hu : x ∈ k.us) (h0 : 0 ≤ v) (h2 : v ≤ 2) : TxtO (nameOp p b x v) := by
  have hin := nameOp_ok hp hk hu h0 h2
  have hc := (nameOp_le (p := p) (b := b) (x := x) h0 h2)
  have hx : 0 ≤ x ∧ x ≤ 7 := by
    rw [Blk.us, mem_sorted] at hu
    exact hu.2
  have l1 := fastsL_len (p := p) (b := b)
  have l2 := cellsL_len (p := p) (b := b)
  have l3 := freesL_len (p := p) (b := b)
  rcases nameOp_sym (w := v) hp hk hu with ⟨_, e⟩ | ⟨_, e⟩ | ⟨_, i, e, hi, _⟩ | ⟨_, i, e, hi, _⟩ | ⟨_, i, e, hi, _⟩ <;> rw [e]
  all_goals
    refine ⟨by simp only []; omega, by simp only []; omega, fun hl => ?_⟩
    simp only [loneO, Bool.or_eq_true, beq_iff_eq] at hl
    omega
theorem ord_txt (hp : ShapeP p) (hk : p[b]? = some k) : ∀ o ∈ opsL p b, TxtO o := by
  have hn := hp.names k (List.mem_of_getElem? hk)
  intro o ho
  simp only [opsL, hk, bodyL, List.mem_flatMap] at ho
  obtain ⟨s, hs, ho⟩ := ho
  have hst := hp.stm b k hk s hs
  have hl := hp.len
  simp only [stmtL, List.mem_cons, List.mem_append] at ho
  rcases ho with rfl | ho | ho | ho
  · exact ⟨by simp, by simp, fun _ => rfl⟩
  · simp only [readL, List.mem_map] at ho
    obtain ⟨x, hx, rfl⟩ := ho
    exact nameOp_txt hp hk (reads_us hn hs hx) (by decide) (by decide)
  · have key : ∀ c a : Int, 0 ≤ c ∧ c ≤ 20 → 0 ≤ a ∧ a ≤ 99 → (loneO c = true → a = 0) → TxtO (c, a) := fun c a h1 h2 h3 => ⟨h1, h2, h3⟩
    unfold workL at ho
    by_cases k0 : s.kind = 0
    · rw [if_pos k0] at ho
      obtain rfl := List.mem_singleton.1 ho
      have : 0 ≤ s.a ∧ s.a ≤ 99 := by
        simp only [StmOk, k0] at hst
        simp at hst
        omega
      exact key _ _ (by omega) this (by simp [loneO])
    rw [if_neg k0] at ho
    by_cases k2 : s.kind = 2
    · rw [if_pos k2] at ho
      obtain rfl := List.mem_singleton.1 ho
      exact key _ _ (by omega) (by omega) (fun _ => rfl)
    rw [if_neg k2] at ho
    by_cases k3 : s.kind = 3
    · rw [if_pos k3] at ho
      obtain rfl := List.mem_singleton.1 ho
      obtain ⟨q, q1, q2, q3, q4⟩ := StmOk.made hst (.inl k3)
      have hql := (gS q1).1
      exact key _ _ (by omega) (by omega) (by simp [loneO])
    rw [if_neg k3] at ho
    by_cases k4 : s.kind = 4
    · rw [if_pos k4] at ho
      obtain rfl := List.mem_singleton.1 ho
      obtain ⟨q, q1, q2, q3, q4⟩ := StmOk.made hst (.inr k4)
      have hql := (gS q1).1
      exact key _ _ (by omega) (by omega) (by simp [loneO])
    rw [if_neg k4] at ho
    by_cases k5 : s.kind = 5
    · rw [if_pos k5] at ho
      obtain rfl := List.mem_singleton.1 ho
      have : s.reads.length = 1 ∨ s.reads.length = 2 := by
        simp only [Stm.reads, k5]
        by_cases e : s.b = -1 <;> simp [e]
      exact key _ _ (by omega) (by omega) (by simp [loneO])
    rw [if_neg k5] at ho
    by_cases k6 : s.kind = 6
    · rw [if_pos k6] at ho
      obtain rfl := List.mem_singleton.1 ho
      have : 0 ≤ s.b ∧ s.b ≤ 7 := by
        simp only [StmOk, k6] at hst
        simp at hst
        omega
      exact key _ _ (by omega) (by omega) (by simp [loneO])
    rw [if_neg k6] at ho
    by_cases k7 : s.kind = 7
    · rw [if_pos k7] at ho
      obtain rfl := List.mem_singleton.1 ho
      exact key _ _ (by omega) (by omega) (fun _ => rfl)
    rw [if_neg k7] at ho
    by_cases k8 : s.kind = 8
    · rw [if_pos k8] at ho
      obtain rfl := List.mem_singleton.1 ho
      exact key _ _ (by omega) (by omega) (fun _ => rfl)
    rw [if_neg k8] at ho
    cases ho
  · unfold setL at ho
    split at ho
    · rename_i e
      obtain rfl := List.mem_singleton.1 ho
      exact nameOp_txt hp hk (to_us hn hs (.inr e)) (by decide) (by decide)
    · split at ho
      · rename_i e
        obtain rfl := List.mem_singleton.1 ho
        exact nameOp_txt hp hk (to_us hn hs (.inl e)) (by decide) (by decide)
      · cases ho
end
section
variable {p : Prg} {n f : Nat} {s t l w : Txt} {ls : List Txt} {i : Int}
end
end Go.Hm
end
section
namespace Go.Hm
open Go Go.RowKit
abbrev bt (l : Txt) : ByteArray := ⟨l.toArray⟩
abbrev tx (l : Txt) : AV := .sc (.string (bt l))
section
variable {a b l : Txt} {i j : Nat}
@[simp] theorem bt_size : (bt l).size = l.length := by simp [ByteArray.size]
@[simp] theorem bt_app : bt a ++ bt b = bt (a ++ b) := by
  apply ByteArray.ext
  simp [ByteArray.data_append]
@[simp] theorem bt_extract : (bt l).extract i j = bt ((l.drop i).take (j - i)) := by
  apply ByteArray.ext
  simp [ByteArray.data_extract]
end
section
variable {c : UInt8} {l m : Txt} {n : Nat}
theorem index_no (h : c ∉ l) : Lib.index l [c] = -1 := by
  rw [Lib.index_one]
  induction l with
  | nil => rfl
  | cons x l ih =>
    simp only [List.mem_cons, not_or] at h
    have := ih h.2
    rw [Lib.indexByte, if_neg (by simpa using fun e => h.1 e.symm), this]
    rfl
theorem index_at (h : c ∉ l) : Lib.index (l ++ c :: m) [c] = l.length := by
  rw [Lib.index_one]
  induction l with
  | nil => simp [Lib.indexByte]
  | cons x l ih =>
    simp only [List.mem_cons, not_or] at h
    have := ih h.2
    rw [List.cons_append, Lib.indexByte, if_neg (by simpa using fun e => h.1 e.symm), this]
    rw [if_neg (by simp)]
    simp
theorem splitK_eq : ∀ (n : Nat) (l : Txt), l.length ≤ n → Lib.splitK [c] 0 (Lib.count l [c]) l = splitL c l
  | n, l, hn => by
    by_cases h : c ∈ l
    · obtain ⟨a, b, rfl, ha⟩ := List.eq_append_cons_of_mem h
      have hi := index_at (m := b) ha
      rw [Lib.count_hit (by simp) hi, Nat.add_comm 1, Lib.splitK, if_neg (by rw [hi]; simp), hi, splitL_app ha]
      have e1 : ((a.length : Int)).toNat = a.length := by omega
      have e2 : (a ++ c :: b).drop (a.length + [c].length) = b := by
        rw [List.drop_append, List.drop_eq_nil_of_le (by simp)]
        simp
      simp only [e1, Nat.add_zero]
      rw [e2]
      congr 1
      · simp
      · match n, hn with
        | 0, hn => simp at hn
        | n + 1, hn => exact splitK_eq n b (by simp at hn; omega)
    · rw [Lib.count_miss (index_no h), splitL_one h]
      rfl
theorem splitB_eq : Lib.splitB (bt [c]) 0 (Lib.countB (bt l) (bt [c])) (bt l) = (splitL c l).map bt := by
  have h := Lib.splitB_data (bt [c]) 0 (Lib.countB (bt l) (bt [c])) (bt l)
  have h2 : Lib.splitK [c] 0 (Lib.count l [c]) l = splitL c l := splitK_eq l.length l (Nat.le_refl _)
  have h3 : (Lib.splitB (bt [c]) 0 (Lib.countB (bt l) (bt [c])) (bt l)).map (fun x => x.data.toList) = splitL c l := h.trans h2
  rw [← h3, List.map_map]
  conv => lhs; rw [← List.map_id (Lib.splitB _ _ _ _)]
  apply List.map_congr_left
  intro x _
  apply ByteArray.ext
  simp
theorem splitB_len : Lib.countB (bt l) (bt [c]) + 1 = (splitL c l).length := by
  have key : ∀ (n : Nat) (l : Txt), l.length ≤ n → Lib.count l [c] + 1 = (splitL c l).length := by
    intro n
    induction n with
    | zero =>
      intro l hn
      obtain rfl := List.eq_nil_of_length_eq_zero (Nat.le_zero.1 hn)
      rfl
    | succ n ih =>
      intro l hn
      by_cases h : c ∈ l
      · obtain ⟨a, b, rfl, ha⟩ := List.eq_append_cons_of_mem h
        have hi := index_at (m := b) ha
        have e2 : (a ++ c :: b).drop (a.length + [c].length) = b := by
          rw [List.drop_append, List.drop_eq_nil_of_le (by simp)]
          simp
        rw [Lib.count_hit (by simp) hi, e2, splitL_app ha, List.length_cons, ← ih b (by simp at hn; omega)]
        omega
      · rw [Lib.count_miss (index_no h), splitL_one h]
        rfl
  exact key l.length l (Nat.le_refl _)
end
def xrows (ws : List Txt) : List (List AV) := ws.map fun w => [tx w]
section
variable {ws : List Txt} {i n : Nat} {f : Nm → Option Nm}
@[simp] theorem xrows_len : (xrows ws).length = ws.length := by simp [xrows]
@[simp] theorem xrows_get : (xrows ws)[i]? = (ws[i]?).map fun w => [tx w] := by simp [xrows]
@[simp] theorem xrows_getE {h : i < (xrows ws).length} : (xrows ws)[i] = [tx (ws[i]'(by simpa using h))] := by simp [xrows]
@[simp] theorem xrows_tr : (xrows ws).map (fun r => r.map (AV.tr f)) = xrows ws := by simp [xrows]
@[simp] theorem xrows_take : (xrows ws).take n = xrows (ws.take n) := by simp [xrows]
@[simp] theorem xrows_drop : (xrows ws).drop n = xrows (ws.drop n) := by simp [xrows]
theorem xrows_uni : ∀ r ∈ xrows ws, r.length = 1 := by simp [xrows]
@[simp] theorem xrows_nil : xrows [] = [] := rfl
abbrev xsl (ws : List Txt) : AV := .sl 1 (xrows ws)
end
theorem gl_cell {g : Gh} {w : World} {i : Nat} {v : Value} (h : RV g w (.pointer (some ⟨i, 0, none⟩)) (.el [.sc v] 0)) : w.cell? ⟨i, 0, none⟩ = some v := by
  generalize hp : Value.pointer (some ⟨i, 0, none⟩) = p at h
  cases h with
  | el b o off row f hC hcell ho hr =>
    have hb : b = i ∧ o = 0 := by
      injection hp with hp
      injection hp with hp
      injection hp with h1 h2 _
      omega
    obtain ⟨rfl, rfl⟩ := hb
    have h1 := hcell 0 (by simp)
    have h2 := (hr 0 (.sc v) rfl).sc_eq
    rw [h1, h2]
theorem texts_ok {P : Program} {gl : Nat → Option (List AV)} {f : FuncId} {az : List AV} {vs : List Value} {ws : List Txt} {T : TypeId} (hc : Callable P f) (has : az = vs.map .sc)
    (h : ∀ (w : World), (∀ i v, gl i = some [.sc v] → w.cell? ⟨i, 0, none⟩ = some v) → Calls P f vs.toArray w fun e w' => e = .returned (.slice (some ⟨w.heap.size, 0, none⟩) ws.length ws.length) ∧ w' = w.alloc (.cells (ws.map fun x => Value.string (bt x)).toArray T)) :
    FnOk P gl f az (fun _ y _ => y = xsl ws) := by
  subst has
  refine ⟨hc, fun root C w g args _ _ _ hinv hgl hsz hargs => ?_⟩
  have ha : args = vs.toArray := by
    apply Array.ext
    · simpa using hsz
    · intro j h1 h2
      have h3 : j < vs.length := by simpa using h2
      have := (hargs j args[j] (.sc vs[j]) (Array.getElem?_eq_getElem h1) (by simp [h3])).sc_eq
      simpa using this
  subst ha
  refine (h w fun i v e => gl_cell (hgl i _ e).1).mono fun e w' he => ?_
  obtain ⟨rfl, rfl⟩ := he
  have hold : ∀ b, b < w.heap.size → (w.alloc (.cells (ws.map fun x => Value.string (bt x)).toArray T)).heap[b]? = w.heap[b]? := fun b hb => alloc_old _ hb
  have hnew : (w.alloc (.cells (ws.map fun x => Value.string (bt x)).toArray T)).heap[w.heap.size]? = some (.cells (ws.map fun x => Value.string (bt x)).toArray T) := by
    exact heap_alloc_new w _
  have hsz' : (w.alloc (.cells (ws.map fun x => Value.string (bt x)).toArray T)).heap.size = w.heap.size + 1 := by simp
  refine ⟨fun b => C b ∨ b = w.heap.size, g.more (fun b => C b ∨ b = w.heap.size), noH, xsl ws, ⟨fun b hb => .inl hb, fun b hb => ?_, ⟨rfl, rfl, rfl, ?_, fun b hb _ => hold b hb, rfl, fun b hb => ?_, fun _ _ e => (by cases e), fun _ _ _ e => (by cases e), fun _ _ _ _ _ e => (by cases e)⟩, fun _ e => absurd rfl e, fun _ _ _ => ⟨rfl, rfl⟩, fun _ _ _ _ => ⟨rfl, rfl⟩⟩, ?_, rfl⟩
  · rcases hb with hb | rfl
    · exact .inl hb
    · exact .inr (.inl (Nat.le_refl _))
  · rw [hsz']; omega
  · rw [hsz']
    rcases hb with hb | rfl
    · have := hinv.clt b hb; omega
    · omega
  · refine .slC w.heap.size 0 ws.length ws.length 1 (xrows ws) (fun i _ => Value.string (bt (ws.getD i []))) (.inr rfl) (by simp) (Nat.le_refl _) xrows_uni ?_ ?_ ?_
    · intro i j hi hj
      obtain rfl : j = 0 := by omega
      simp only [World.cell?, hnew]
      simp [hi]
    · intro i j _ _
      rfl
    · intro i row hrow j a ha
      rw [xrows_get] at hrow
      obtain ⟨x, hx, rfl⟩ := Option.map_eq_some_iff.1 hrow
      match j, ha with
      | 0, ha =>
        obtain rfl := Option.some.inj ha
        simp only [List.getD_eq_getElem?_getD, hx, Option.getD_some]
        exact .sc _
end Go.Hm
end
section
namespace Go.Hm
open Go Go.RowKit Go.Proofs Go.Shelf
section
variable {P : Program} {w : World}
end
section
variable {P : Program} {ρ : Ren}
end
end Go.Hm
end
section
namespace Go.Hm
open Go Go.RowKit Go.Proofs Go.Shelf
section
variable {V : Nm} {T e : TypeId} {a : AV} {l s : Txt} {g : Gh} {w : World}
end
section
variable {P : Program} {ρ : Ren}
set_option maxHeartbeats 1000000 in
end
end Go.Hm
end
section
namespace Go.Hm
open Go Go.RowKit Go.Proofs Go.Shelf
section
variable {P : Program} {ρ : Ren}
set_option maxHeartbeats 1000000 in
end
end Go.Hm
end
