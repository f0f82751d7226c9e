/-
  Own texts, joined by mkclaim.py: Hm84, Hm85, Hm86, Hm87, Hm88, Hm89, Hm94, Hm95, Hm96, Hm99, Hm100, Hm101, Hm102, Hm103, Hm105, Hm106, Hm108, Hm109, Hm110, Hm111, Hm112, Hm113, Hm114, Hm115, Hm119, Hm126, Hm127, Hm128, Hm129, Hm130.
-/
import Derived.Test.YtmaoicgfcngciaaGreatDoorR14
import Derived.Test.YtmaoicgfcngciaaGreatDoorR11
import Derived.Test.YtmaoicgfcngciaaGreatDoorR10
import Derived.Test.YtmaoicgfcngciaaGreatDoorR13
set_option linter.unusedSimpArgs false
set_option linter.unusedVariables false
set_option maxRecDepth 100000
set_option maxHeartbeats 4000000

section
namespace Go.Hm
open Go Go.RowKit
section
variable {p : Prg} {f g n : Nat}
structure More (k : Nat) (w w' : Wld) : Prop where
  funs : w.funs.length ≤ w'.funs.length
  cls : w.classes.length ≤ w'.classes.length
  out : w.out <+: w'.out
  tr : w.trace <+: w'.trace
  same : w.en ≠ 1 → w' = addF k w
  none : w.en = 1 → w.left = 0
theorem MeantOk.glob {w : Wld} (h : MeantOk p f w) {x : Nat} (hx : x < 8) (hb : ¬ bndG p x) : (shownS w.globals)[x]? = some (-9) := by
  have hl := h.ok.glob.1
  obtain ⟨s, hs⟩ : ∃ s, w.globals[x]? = some s := ⟨_, gE (by omega)⟩
  cases s with
  | none => simp [shownS, hs]
  | some v =>
    rcases h.led.glob x v hs with ⟨u, e⟩ | e
    · simp [startW, List.getElem?_replicate, hx] at e
    · exact absurd e hb
end
end Go.Hm
end
section
set_option linter.unusedSectionVars false
namespace Go.Hm
open Go Go.RowKit
def stl (t : List (Nat × Nat)) (k : Nat) (w : Wld) : Wld := { w with trace := t, left := k }
section
variable {p : Prg} {k m : Nat} {t : List (Nat × Nat)} {w : Wld} {a b i : Nat} {x : Int} {l : Option Nat} {vs : List Val} {s : Stm} {v : Val}
@[simp] theorem stl_stl {t' : List (Nat × Nat)} {k' : Nat} : stl t k (stl t' k' w) = stl t k w := rfl
@[simp] theorem stl_loc : (stl t k w).loc p a x = w.loc p a x := rfl
@[simp] theorem stl_blk : (stl t k w).blk a = w.blk a := rfl
@[simp] theorem stl_en : (stl t k w).en = w.en := rfl
@[simp] theorem stl_left : (stl t k w).left = k := rfl
@[simp] theorem stl_out : (stl t k w).out = w.out := rfl
end
def Sim (m : Nat) (r r' : Wld × Val) : Prop := (r.1.en ≠ 1 ∧ ∃ t, r' = (stl t m r.1, r.2)) ∨ (r.1.en = 1 ∧ (m = 0 → r'.1.out = r.1.out ∧ r'.1.left = 0))
section
variable {p : Prg} {R : Wld → Nat → Wld × Val} {R2 : Nat → Wld → Nat → Wld × Val} {n : Nat} {w : Wld} {a b i : Nat} {x : Int} {vs : List Val} {s : Stm} {v : Val}
variable (hR : ∀ w a, w.left < n → w.en = 0 → ∃ g, g + (R w a).1.left ≤ w.left ∧ ∀ N t m, g + m < N → Sim m (R w a) (R2 N (stl t (g + m) w) a))
include hR
end
end Go.Hm
end
section
set_option linter.unusedSectionVars false
namespace Go.Hm
open Go Go.RowKit
structure KB (w w' : Wld) : Prop where
  len : w.acts.length ≤ w'.acts.length
  blk : ∀ i, i < w.acts.length → w'.blk i = w.blk i
theorem KB.refl (w : Wld) : KB w w := ⟨Nat.le_refl _, fun _ _ => rfl⟩
theorem KB.trans {w w' w'' : Wld} (h : KB w w') (h' : KB w' w'') : KB w w'' := ⟨Nat.le_trans h.len h'.len, fun i hi => (h'.blk i (Nat.lt_of_lt_of_le hi h.len)).trans (h.blk i hi)⟩
theorem KB.same {w w' : Wld} (h : w'.acts = w.acts) : KB w w' := ⟨by rw [h]; exact Nat.le_refl _, fun i _ => by simp only [Wld.blk, h]⟩
theorem KB.set {w : Wld} {l : Option Nat} {x : Int} {s : Slt} : KB w (w.set l x s) := by
  cases l with
  | none => exact .same rfl
  | some i =>
    refine ⟨by simp [Wld.set], fun j _ => ?_⟩
    simp only [Wld.set, Wld.blk, List.getElem?_modify]
    by_cases e : i = j
    · subst e
      cases h : w.acts[i]? <;> simp
    · simp [e]
section
variable {p : Prg} {R : Wld → Nat → Wld × Val} {w : Wld} {a b i : Nat} {x : Int} {vs : List Val} {s : Stm} {v : Val}
variable (hR : ∀ w a, a < w.acts.length → KB w (R w a).1)
include hR
end
structure Alike (p q : Prg) : Prop where
  kind : ∀ b, kindAt p b = kindAt q b
  par : ∀ b : Nat, (match p[b]? with | some k => k.params | none => []) = (match q[b]? with | some k => k.params | none => [])
theorem Alike.parN {p q : Prg} (h : Alike p q) (b : Nat) : parN p b = parN q b := by
  have := congrArg List.length (h.par b)
  unfold Hm.parN
  cases h1 : p[b]? <;> cases h2 : q[b]? <;> simp [h1, h2] at this ⊢ <;> omega
section
variable {p q : Prg} {R S : Wld → Nat → Wld × Val} {w : Wld} {a b i : Nat} {x : Int} {vs : List Val} {s : Stm} {v : Val}
variable (hA : Alike p q)
include hA
variable (hR : ∀ w a, a < w.acts.length → R w a = S w a)
include hR
end
end Go.Hm
end
section
namespace Go.Hm
open Go Go.RowKit
section
variable {X : Ctx} {st : St} {K : St → Prop} {E : AV → St → Prop}
def dfree (D : Nm → Bool) (hp : Nm → Option AO) : Nm → Option AO := fun m => if D m then none else hp m
def St.forget (D : Nm → Bool) (st : St) : St := { tm := st.tm, hp := dfree D st.hp, n := st.n, gl := st.gl }
@[simp] theorem forget_tm {D : Nm → Bool} {t : Nat} : (st.forget D).tm t = st.tm t := rfl
@[simp] theorem forget_hp {D : Nm → Bool} {m : Nm} : (st.forget D).hp m = if D m then none else st.hp m := rfl
end
theorem OkS.two {D : Nm → Bool} {root n m : Nm} {i j i' j' : Nat} (h : n.sroot = true) (h' : m.sroot = true) (hne : ¬ (i = i' ∧ j = j')) : OkS D root [(n, .c root i j), (m, .c root i' j')] := by
  refine ⟨by simp [h, h'], by simp, ?_⟩
  refine .cons (fun q hq => ?_) (.cons (fun q hq => by simp at hq) .nil)
  obtain rfl := by simpa using hq
  exact fun k hk => Nm.c_disj hne hk
def idleTo (p : Prg) (b i : Nat) : List Int := ((List.range i).filter fun j => idleAt p b j).map fun j : Nat => (j : Int)
section
variable {p : Prg} {b i : Nat} {k : Blk}
@[simp] theorem idleTo_zero : idleTo p b 0 = [] := rfl
end
structure Vw where
  block : Int
  names : List Int
  vals : List Int
  deriving DecidableEq, Inhabited
def Vw.own (n : Nm) (i : Nat) (v : Vw) : List AV := [iv v.block, .hs (.c n i 1) 1 0 v.names.length, .hs (.c n i 2) 1 0 v.vals.length]
@[simp] theorem Vw.own_eq {n : Nm} {i : Nat} {v : Vw} : v.own n i = [iv v.block, .hs (.c n i 1) 1 0 v.names.length, .hs (.c n i 2) 1 0 v.vals.length] := rfl
def vwRows (n : Nm) (cs : List Vw) : List (List AV) := cs.mapIdx fun i c => c.own n i
section
variable {cs : List Vw} {i a b d l : Nat} {n q k1 : Nm} {c : Vw}
@[simp] theorem vwRows_nil : vwRows n [] = [] := rfl
end
end Go.Hm
end
section
namespace Go.Hm
open Go Go.RowKit
def grows (g : Int → Slt) (l : List Int) : List (AV × AV) := l.map fun x => (iv x, .agg (slotC (g x)))
section
variable {g : Int → Slt} {l : List Int} {n : Int} {f : Nm → Option Nm}
@[simp] theorem grows_nil : grows g [] = [] := rfl
end
end Go.Hm
end
section
namespace Go.Hm
open Go Go.RowKit
structure Frm where
  blk : Nat
  pc : Nat
  fasts : List Slt
  cells : List Nat
  names : List Slt
  stack : List Val
structure Mch where
  cells : List Slt
  globals : List Slt
  funs : List (Nat × List Nat)
  classes : List (List Slt)
  frames : List Frm
  made : Nat
  deep : Nat
  out : List Int
  trace : List (Nat × Nat)
  en : Int
  left : Nat
def parAt (p : Prg) (b : Nat) : Nat := match p[b]? with | some k => k.parent.toNat | none => 0
def capsL (p : Prg) (b : Nat) : List Int := (freesL p b).map (cellPl p (parAt p b))
section
variable (p : Prg) (m : Mch) (fs : List Frm) (f : Frm) (o : Int × Int)
def Mch.top : Mch := { m with frames := fs ++ [f] }
def Mch.stop (e : Int) : Mch := { m.top fs f with en := e }
def Frm.push (v : Val) : Frm := { f with stack := f.stack ++ [v] }
def Frm.pop : Frm := { f with stack := f.stack.dropLast }
def Frm.tos : Val := f.stack.getLastD (0, 0)
def slAt (l : List Slt) (i : Nat) : Slt := match l[i]? with | some s => s | none => none
def getS : Slt :=
  if o.1 ≤ 4 then slAt f.fasts o.2.toNat
  else if o.1 ≤ 7 then slAt m.cells (f.cells.getD o.2.toNat 0)
  else if o.1 ≤ 10 then slAt m.globals o.2.toNat else slAt f.names o.2.toNat
def whyS : Int := if o.1 ≤ 4 then 2 else if o.1 ≤ 7 then (if o.2 < (cellsL p f.blk).length then 2 else 3) else 4
def setS (s : Slt) : Mch :=
  if o.1 ≤ 4 then m.top fs { f with fasts := f.fasts.set o.2.toNat s }
  else if o.1 ≤ 7 then { m.top fs f with cells := m.cells.set (f.cells.getD o.2.toNat 0) s }
  else if o.1 ≤ 10 then { m.top fs f with globals := m.globals.set o.2.toNat s } else m.top fs { f with names := f.names.set o.2.toNat s }
def loadM : Mch := match getS m f o with
  | some v => m.top fs (f.push v)
  | none => if whyS p f o = 4 then
      match slAt m.globals o.2.toNat with
      | some v => m.top fs (f.push v)
      | none => if o.2 = 7 then m.top fs (f.push (1, 70)) else m.stop fs f 4
    else m.stop fs f (whyS p f o)
def storeM : Mch := setS m fs f.pop o (some f.tos)
def delM : Mch := match getS m f o with
  | some _ => setS m fs f o none
  | none => m.stop fs f (whyS p f o)
def beginM (b : Nat) (cs : List Nat) (vs : List Val) : Mch :=
  let F : Frm := ⟨b, 0, List.replicate (fastsL p b).length none, ((List.range (cellsL p b).length).map (m.cells.length + ·)) ++ cs, noSlots, []⟩
  let M : Mch := { m with cells := m.cells ++ List.replicate (cellsL p b).length none, made := m.made + 1, deep := max m.deep (m.frames.length + 1), frames := m.frames ++ [F] }
  match (codeL p b).params, vs with
  | [x], [v] => if x ∈ fastsL p b then { M with frames := m.frames ++ [{ F with fasts := F.fasts.set (placeIn (fastsL p b) x).toNat (some v) }] }
    else { M with cells := M.cells.set (m.cells.length + (placeIn (cellsL p b) x).toNat) (some v) }
  | _, _ => M
def callM : Mch :=
  let n := o.2.toNat
  let k := f.stack.length - n - 1
  let F : Frm := { f with stack := f.stack.take k }
  let g := f.stack.getD k (0, 0)
  if g.1 ≠ 2 then m.stop fs F 5 else
  match m.funs[g.2.toNat]? with
  | some h => if parN p h.1 ≠ n then m.stop fs F 6 else beginM p (m.top fs F) h.1 h.2 (f.stack.drop (k + 1))
  | none => m.stop fs F 5
def capM (b : Nat) : List Nat := (capsL p b).map fun k => f.cells.getD k.toNat 0
def attrM : Mch :=
  let v := f.tos
  if v.1 ≠ 3 then m.stop fs f.pop 5 else
  match slAt (m.classes.getD v.2.toNat []) o.2.toNat with
  | some u => m.top fs (f.pop.push u)
  | none => m.stop fs f.pop 7
def addM : Mch :=
  let b := f.tos
  let a := f.pop.tos
  if a.1 ≠ 1 ∨ b.1 ≠ 1 then m.stop fs f.pop.pop 5 else m.top fs (f.pop.pop.push (1, (a.2 + b.2).tmod 1000))
def leaveM (v : Val) : Mch := match fs.getLast? with
  | some g => { m with frames := fs.dropLast ++ [g.push v] }
  | none => { m with frames := [] }
def endM : Mch := if kindAt p f.blk = 2 then leaveM { m with classes := m.classes ++ [f.names] } fs (3, m.classes.length) else leaveM m fs (0, 0)
def tickM : Mch := if m.left = 0 then m.stop fs f 1 else
  { m.top fs f with left := m.left - 1, trace := m.trace ++ [(f.blk, ticks ((opsL p f.blk).take (f.pc - 1)))] }
def workM : Mch :=
  if o.1 = 1 then m.top fs (f.push (1, o.2))
  else if o.1 = 14 then addM m fs f
  else if o.1 = 15 then { m.top fs (f.push (2, m.funs.length)) with funs := m.funs ++ [(o.2.toNat, capM p f o.2.toNat)] }
  else if o.1 = 16 then beginM p (m.top fs f) o.2.toNat (capM p f o.2.toNat) []
  else if o.1 = 17 then callM p m fs f o
  else if o.1 = 18 then attrM m fs f o
  else if o.1 = 19 then { m.top fs f.pop with out := m.out ++ [shown f.tos] }
  else leaveM m fs f.tos
def ordM : Mch :=
  if o.1 = 0 then tickM p m fs f
  else if 2 ≤ o.1 ∧ o.1 ≤ 13 then
    (if (o.1 - 2) % 3 = 0 then loadM p m fs f o else if (o.1 - 2) % 3 = 1 then storeM m fs f o else delM p m fs f o)
  else workM p m fs f o
end
def stepM (p : Prg) (m : Mch) : Mch := match m.frames.getLast? with
  | some f => match (opsL p f.blk)[f.pc]? with
    | some o => ordM p m m.frames.dropLast { f with pc := f.pc + 1 } o
    | none => endM p m m.frames.dropLast f
  | none => m
def Mch.ended (m : Mch) : Prop := m.frames = [] ∨ m.en ≠ 0
instance (m : Mch) : Decidable m.ended := decidable_of_iff (m.frames.length = 0 ∨ m.en ≠ 0) (by simp [Mch.ended])
def runM (p : Prg) : Nat → Mch → Mch
  | 0, m => m
  | n + 1, m => if m.ended then m else runM p n (stepM p m)
def emptyM (fuel : Nat) : Mch := ⟨[], noSlots, [], [], [], 0, 0, [], [], 0, fuel⟩
def startM (p : Prg) (fuel : Nat) : Mch := beginM p (emptyM fuel) 0 [] []
end Go.Hm
end
section
namespace Go.Hm
open Go Go.RowKit
def Steps (p : Prg) (m m' : Mch) : Prop := ∃ N, ∀ k, runM p (N + k) m = runM p k m'
theorem Steps.refl {p : Prg} (m : Mch) : Steps p m m := ⟨0, fun k => by rw [Nat.zero_add]⟩
theorem Steps.trans {p : Prg} {a b c : Mch} (h : Steps p a b) (h' : Steps p b c) : Steps p a c := by
  obtain ⟨N, h⟩ := h
  obtain ⟨M, h'⟩ := h'
  exact ⟨N + M, fun k => by rw [Nat.add_assoc, h, h']⟩
theorem Steps.one {p : Prg} {m : Mch} (h : ¬ m.ended) : Steps p m (stepM p m) := ⟨1, fun k => by rw [Nat.add_comm, runM, if_neg h]⟩
section
variable {p : Prg} {w : Wld} {m : Mch} {B : List Nat} {a b o : Nat} {c : Act} {k : Blk} {f : Frm} {x : Int} {fs : List Frm}
theorem kind_cases (hp : ShapeP p) (hk : p[b]? = some k) : k.kind = 0 ∨ k.kind = 1 ∨ k.kind = 2 := by
  have h := hp.head b k hk
  unfold HeadOk at h
  split at h <;> omega
end
end Go.Hm
end
section
namespace Go.Hm
open Go Go.RowKit
section
variable {p : Prg} {w : Wld} {m : Mch} {B : List Nat} {a b o d up : Nat} {c e : Act} {k : Blk} {f : Frm} {x : Int} {fs : List Frm} {vs : List Val} {cs : List Nat} {st : List Nat} {s : Stm}
def Frm.at (p : Prg) (f : Frm) (l : List (Int × Int)) : Prop := (opsL p f.blk).drop f.pc = l
def Frm.next (f : Frm) : Frm := { f with pc := f.pc + 1 }
end
end Go.Hm
end
section
namespace Go.Hm
open Go Go.RowKit
section
variable {p : Prg} {w : Wld} {m : Mch} {B : List Nat} {a b o d up : Nat} {c e : Act} {k : Blk} {f : Frm} {x : Int} {fs : List Frm} {vs : List Val} {cs : List Nat} {st : List Nat} {s : Stm} {n : Nat} {R : Wld → Nat → Wld × Val}
theorem len_two {l : List Val} (h : l.length = 2) : ∃ u v, l = [u, v] := by
  match l, h with
  | [u, v], _ => exact ⟨u, v, rfl⟩
end
end Go.Hm
end
section
namespace Go.Hm
open Go Go.RowKit
section
variable {p : Prg} {m : Mch} {b e d n i j N M : Nat} {fs : List Frm} {f g : Frm} {o : Int × Int} {v : Val} {k : Blk} {x : Int} {l : List (Int × Int)}
def Mch.add (d : Nat) (m : Mch) : Mch := { m with left := m.left + d }
end
end Go.Hm
end
section
namespace Go.Hm
open Go Go.RowKit
section
variable {p : Prg} {m : Mch} {b d n i j N M t : Nat} {fs : List Frm} {f g : Frm} {o : Int × Int} {v : Val} {k : Blk} {x : Int}
open Classical in
noncomputable def ranP (p : Prg) (n : Nat) : Mch := if h : ∃ N, (runM p N (startM p n)).ended then runM p (Classical.choose h) (startM p n) else startM p n
end
def hset (S : Nm → Bool) (H : Nm → Option AO) : Nm → Option AO := fun n => if S n = true then none else H n
section
variable {own : Nat → Prop} {C C' : Nat → Prop} {w w' : World} {g g' : Gh} {D : Nm → Bool} {root : Nm} {H H' : Nm → Option AO}
def cset (S : Nm → Bool) (C : Nat → Prop) (g : Gh) (H : Nm → Option AO) (b : Nat) : Prop := C b ∨ ∃ n o, S n = true ∧ H n = some o ∧ g.φ n = some b
theorem After.settle (h : After own C w g D root H H' C' g' w') (S : Nm → Bool) (hw : ∀ n, H n ≠ none → D n = true) : After own C w g D root H (hset S H') (cset S C' g' H') (g'.more (cset S C' g' H')) w' := by
  have hC : ∀ b, g'.C b → cset S C' g' H' b := fun b hb => .inl (h.inv.hC ▸ hb)
  have old : ∀ n o, hset S H' n = some o → H' n = some o ∧ S n ≠ true := by
    intro n o e
    unfold hset at e
    split at e
    · cases e
    · exact ⟨e, by assumption⟩
  refine ⟨fun b hb => .inl (h.mono b hb), ?_, ⟨h.inv.os, h.inv.tape, h.inv.output, h.inv.size, h.inv.keep, rfl, ?_, ?_, ?_, ?_⟩, ?_, h.same, h.ust⟩
  · rintro b (hb | ⟨n, o, _, ho, hk⟩)
    · exact h.new b hb
    · exact .inr (h.inv.blk n o b ho hk).2.1
  · rintro b (hb | ⟨n, o, _, ho, hk⟩)
    · exact h.inv.clt b hb
    · exact (h.inv.blk n o b ho hk).2.2
  · intro n o e
    have := (h.inv.obj n o (old n o e).1).tr (g' := g'.more (cset S C' g' H')) (w' := w') (n' := n) (f := some) hC (fun _ _ => rfl) (fun k k' e => by obtain rfl := Option.some.inj e; exact ⟨rfl, rfl⟩) rfl (fun _ _ => rfl)
    rwa [AO.tr_some] at this
  · intro n o b e hk
    obtain ⟨e1, e2⟩ := old n o e
    obtain ⟨x1, x2, x3⟩ := h.inv.blk n o b e1 hk
    refine ⟨?_, x2, x3⟩
    rintro (hb | ⟨n', o', hs, ho', hk'⟩)
    · exact x1 hb
    · exact e2 (h.inv.inj n' n o' o b ho' e1 hk' hk ▸ hs)
  · intro n n' o o' b e e' hk hk'
    exact h.inv.inj n n' o o' b (old n o e).1 (old n' o' e').1 hk hk'
  · intro n hn
    refine h.dom n fun e => hn ?_
    unfold hset
    split
    · rfl
    · exact e
end
section
variable {P : Program} {gl : Nat → Option (List AV)} {f : FuncId} {D : Nm → Bool} {az : List AV} {H : Nm → Option AO} {R R' : Nm → AV → (Nm → Option AO) → Prop}
theorem FnE.settle (S : Nm → Nm → Bool) (h : FnE P gl f D az H R noE) (hR : ∀ r y H', R r y H' → ∃ y', Bw H' (fun n => !S r n) y y' ∧ R' r y' (hset (S r) H')) : FnE P gl f D az H R' noE := by
  refine ⟨h.1, fun root C w g args h1 h2 h3 h4 h5 h6 h7 => ?_⟩
  refine (h.2 root C w g args h1 h2 h3 h4 h5 h6 h7).mono fun e w' he => ?_
  cases e with
  | returned v =>
    obtain ⟨C', g', H', x, hA, hv, hr⟩ := he
    obtain ⟨y', hb, hr'⟩ := hR _ _ _ hr
    refine ⟨_, _, _, y', hA.settle (S root) h3, ?_, hr'⟩
    exact RV.bw hA.inv (fun b hb => .inl hb) (fun n o b hS ho hk => .inr ⟨n, o, by simpa using hS, ho, hk⟩) hb hv
  | panicked ch =>
    obtain ⟨_, _, _, _, _, _, _, _, hx⟩ := he
    exact hx.elim
  | outgrown => exact he.elim
theorem FnOk.settle (h : FnOk P gl f az R) {S : AV → Prop} (hR : ∀ r y H', R r y H' → ∃ y', Bw H' noD y y' ∧ S y') : FnOk P gl f az (fun _ y _ => S y) :=
  FnE.settle (fun _ _ => true) h fun r y H' hr => by
    obtain ⟨y', h1, h2⟩ := hR r y H' hr
    exact ⟨y', h1, h2⟩
end
end Go.Hm
end
section
namespace Go.Hm
open Go Go.RowKit
abbrev Txt := List UInt8
def dg (n : Nat) : UInt8 := UInt8.ofNat (48 + n)
def numN (n : Nat) : Txt := if n < 10 then [dg n] else numN (n / 10) ++ [dg (n % 10)]
def numI (n : Int) : Txt := if n < 0 then 45 :: numN n.natAbs else numN n.natAbs
theorem dg_val {n : Nat} (h : n < 10) : (dg n).toNat = 48 + n := by
  simp only [dg, UInt8.toNat_ofNat']
  omega
theorem numN_small {n : Nat} (h : n < 10) : numN n = [dg n] := by rw [numN, if_pos h]
theorem numN_two {n : Nat} (h : 10 ≤ n) (h' : n < 100) : numN n = [dg (n / 10), dg (n % 10)] := by
  rw [numN, if_neg (by omega), numN_small (by omega)]
  rfl
theorem numN_dig : ∀ (n : Nat), ∀ c ∈ numN n, 48 ≤ c.toNat ∧ c.toNat ≤ 57
  | n => by
    intro c hc
    rw [numN] at hc
    split at hc
    · rename_i h
      rw [List.mem_singleton] at hc
      subst hc
      rw [dg_val h]
      omega
    · rw [List.mem_append, List.mem_singleton] at hc
      rcases hc with hc | rfl
      · exact numN_dig (n / 10) c hc
      · rw [dg_val (by omega)]
        omega
def splitL (c : UInt8) : Txt → List Txt
  | [] => [[]]
  | x :: l => if x = c then [] :: splitL c l else match splitL c l with
    | w :: ws => (x :: w) :: ws
    | [] => [[x]]
section
variable {c : UInt8} {l m w : Txt} {ls ws : List Txt}
theorem splitL_ne : splitL c l ≠ [] := by
  cases l with
  | nil => simp [splitL]
  | cons x l =>
    rw [splitL]
    split
    · simp
    · split <;> simp
theorem splitL_one (h : c ∉ l) : splitL c l = [l] := by
  induction l with
  | nil => rfl
  | cons x l ih =>
    simp only [List.mem_cons, not_or] at h
    rw [splitL, if_neg (fun e => h.1 e.symm), ih h.2]
theorem splitL_app (h : c ∉ l) : splitL c (l ++ c :: m) = l :: splitL c m := by
  induction l with
  | nil => rw [List.nil_append, splitL, if_pos rfl]
  | cons x l ih =>
    simp only [List.mem_cons, not_or] at h
    rw [List.cons_append, splitL, if_neg (fun e => h.1 e.symm), ih h.2]
def joinL (c : UInt8) : List Txt → Txt
  | [] => []
  | [w] => w
  | w :: w' :: ws => w ++ c :: joinL c (w' :: ws)
theorem join_split : ∀ {l : Txt}, joinL c (splitL c l) = l
  | [] => rfl
  | x :: l => by
    have ih := join_split (l := l)
    rw [splitL]
    split
    · rename_i h
      cases e : splitL c l with
      | nil => exact absurd e splitL_ne
      | cons w ws =>
        rw [e] at ih
        simp only [joinL, List.nil_append]
        rw [ih, h]
    · cases e : splitL c l with
      | nil => exact absurd e splitL_ne
      | cons w ws =>
        rw [e] at ih
        cases ws with
        | nil =>
          simp only [joinL] at ih ⊢
          rw [ih]
        | cons v vs =>
          simp only [joinL, List.cons_append] at ih ⊢
          rw [ih]
def linesL (c : UInt8) (ls : List Txt) : Txt := ls.flatMap (· ++ [c])
theorem linesL_cons : linesL c (w :: ls) = w ++ c :: linesL c ls := by simp [linesL]
theorem linesL_join : linesL c ls = joinL c (ls ++ [[]]) := by
  induction ls with
  | nil => rfl
  | cons w ls ih =>
    rw [linesL_cons, ih]
    cases ls with
    | nil => rfl
    | cons v vs => rfl
theorem lines_split (h : (splitL c l).getLast? = some []) : l = linesL c (splitL c l).dropLast := by
  rw [linesL_join]
  have h1 : (splitL c l).dropLast ++ [[]] = splitL c l := by
    obtain ⟨ys, hy⟩ := List.getLast?_eq_some_iff.1 h
    rw [hy]
    simp
  rw [h1, join_split]
end
def isDg (c : UInt8) : Bool := decide (48 ≤ c.toNat) && decide (c.toNat ≤ 57)
def smallN : Txt → Option Nat
  | [a] => if isDg a = true then some (a.toNat - 48) else none
  | [a, b] => if isDg a = true ∧ isDg b = true ∧ a ≠ 48 then some (10 * (a.toNat - 48) + (b.toNat - 48)) else none
  | _ => none
theorem isDg_dg {n : Nat} (h : n < 10) : isDg (dg n) = true := by
  simp only [isDg, dg_val h, Bool.and_eq_true, decide_eq_true_eq]
  omega
theorem dg_of {c : UInt8} (h : isDg c = true) : c = dg (c.toNat - 48) := by
  simp only [isDg, Bool.and_eq_true, decide_eq_true_eq] at h
  apply UInt8.toNat_inj.1
  rw [dg_val (by omega)]
  omega
theorem small_num {n : Nat} (h : n ≤ 99) : smallN (numN n) = some n := by
  by_cases h1 : n < 10
  · rw [numN_small h1]
    simp only [smallN, isDg_dg h1, if_true, dg_val h1]
    congr 1
    omega
  · have h2 : n / 10 < 10 := by omega
    have h3 : n % 10 < 10 := by omega
    rw [numN_two (by omega) (by omega)]
    have h4 : dg (n / 10) ≠ 48 := by
      intro e
      have := congrArg UInt8.toNat e
      rw [dg_val h2] at this
      simp at this
      omega
    simp only [smallN, isDg_dg h2, isDg_dg h3, dg_val h2, dg_val h3]
    rw [if_pos ⟨trivial, trivial, h4⟩]
    congr 1
    omega
theorem num_small {s : Txt} {n : Nat} (h : smallN s = some n) : n ≤ 99 ∧ s = numN n := by
  unfold smallN at h
  split at h
  · rename_i a
    split at h
    · rename_i ha
      have hd := dg_of ha
      simp only [isDg, Bool.and_eq_true, decide_eq_true_eq] at ha
      obtain rfl := Option.some.inj h
      refine ⟨by omega, ?_⟩
      rw [numN_small (by omega), ← hd]
    · cases h
  · rename_i a b
    split at h
    · rename_i hab
      obtain ⟨ha, hb, h0⟩ := hab
      have hda := dg_of ha
      have hdb := dg_of hb
      simp only [isDg, Bool.and_eq_true, decide_eq_true_eq] at ha hb
      have hn : a.toNat ≠ 48 := fun e => h0 (UInt8.toNat_inj.1 (by rw [e]; rfl))
      obtain rfl := Option.some.inj h
      refine ⟨by omega, ?_⟩
      rw [numN_two (by omega) (by omega)]
      have e1 : (10 * (a.toNat - 48) + (b.toNat - 48)) / 10 = a.toNat - 48 := by omega
      have e2 : (10 * (a.toNat - 48) + (b.toNat - 48)) % 10 = b.toNat - 48 := by omega
      rw [e1, e2, ← hda, ← hdb]
    · cases h
  · cases h
theorem small_iff {s : Txt} {n : Nat} : smallN s = some n ↔ n ≤ 99 ∧ s = numN n := ⟨num_small, fun ⟨h, e⟩ => e ▸ small_num h⟩
def tIn : Txt := [105, 110]
def tFun : Txt := [102, 117, 110]
def tClass : Txt := [99, 108, 97, 115, 115]
def stmtW : List Txt := [[110, 117, 109], [99, 111, 112, 121], [97, 100, 100], [100, 101, 102], tClass, [99, 97, 108, 108], [103, 101, 116], [112, 114, 105, 110, 116], [114, 101, 116, 117, 114, 110], [103, 108, 111, 98, 97, 108], [110, 111, 110, 108, 111, 99, 97, 108], [100, 101, 108]]
def numsOf (s : Stm) : List Int :=
  if s.kind = 0 ∨ s.kind = 1 ∨ s.kind = 3 ∨ s.kind = 4 then [s.to, s.a]
  else if s.kind = 2 ∨ s.kind = 6 then [s.to, s.a, s.b]
  else if s.kind = 5 then (if s.b = -1 then [s.to, s.a] else [s.to, s.a, s.b])
  else if s.kind = 7 ∨ s.kind = 8 then [s.a] else [s.to]
def wordsL (w : Txt) (ns : List Int) : Txt := w ++ ns.flatMap fun n => 32 :: numI n
def showS (s : Stm) : Txt := wordsL (stmtW.getD s.kind.toNat []) (numsOf s)
def showH (k : Blk) : Txt := if k.kind = 2 then wordsL tIn [k.parent] ++ 32 :: tClass else wordsL (wordsL tIn [k.parent] ++ 32 :: tFun) k.params
def blkLines (b : Nat) (k : Blk) : List Txt := (if b = 0 then [] else [showH k]) ++ k.body.map showS
def fmtLines (p : Prg) : List Txt := (p.mapIdx blkLines).flatten
def fmt (p : Prg) : Txt := linesL 10 (fmtLines p)
def readNs (ws : List Txt) : Option (List Nat) := ws.mapM smallN
def kindW (w : Txt) : Option Nat := stmtW.findIdx? (· == w)
def stmtOfN (kind : Nat) (ns : List Nat) : Option Stm :=
  match ns with
  | [x] => if kind = 7 ∨ kind = 8 then some ⟨kind, 0, x, 0⟩ else if 9 ≤ kind then some ⟨kind, x, 0, 0⟩ else none
  | [x, y] => if kind < 7 ∧ kind ≠ 2 ∧ kind ≠ 6 then some ⟨kind, x, y, if kind = 5 then -1 else 0⟩ else none
  | [x, y, z] => if kind = 2 ∨ kind = 6 ∨ kind = 5 then some ⟨kind, x, y, z⟩ else none
  | _ => none
def readS (line : Txt) : Option Stm := match splitL 32 line with
  | w :: ws => match kindW w, readNs ws with
    | some k, some ns => stmtOfN k ns
    | _, _ => none
  | [] => none
def readH (line : Txt) : Option Blk := match splitL 32 line with
  | i :: n :: f :: ws => if i = tIn then match smallN n with
      | some q => if f = tClass ∧ ws = [] then some ⟨2, q, [], []⟩ else if f = tFun then (readNs ws).map fun ns => ⟨1, q, ns.map fun (n : Nat) => (n : Int), []⟩ else none
      | none => none
    else none
  | _ => none
def putS (p : Prg) (s : Stm) : Prg := p.modify (p.length - 1) fun k => { k with body := k.body ++ [s] }
def addLine (p : Prg) (line : Txt) : Option Prg := match readH line with
  | some k => some (p ++ [k])
  | none => (readS line).map (putS p)
def parseL (ls : List Txt) (p : Prg) : Option Prg := match ls with
  | [] => some p
  | l :: ls => match addLine p l with
    | some q => parseL ls q
    | none => none
def prg0 : Prg := [⟨0, -1, [], []⟩]
def parseT (s : Txt) : Option Prg := match parseL (splitL 10 s).dropLast prg0 with
  | some p => if (splitL 10 s).getLast? = some [] ∧ progOk p = true then some p else none
  | none => none
section
variable {s : Stm} {k : Blk} {p q : Prg} {l w : Txt} {ns : List Int} {ks : List Nat} {ls ws : List Txt} {i n : Nat}
theorem numI_nat : numI (n : Int) = numN n := by
  unfold numI
  rw [if_neg (by omega)]
  rfl
theorem wordsL_join (w : Txt) (ns : List Int) : wordsL w ns = joinL 32 (w :: ns.map numI) := by
  unfold wordsL
  induction ns generalizing w with
  | nil => simp [joinL]
  | cons n ns ih =>
    have := ih (numI n)
    simp only [List.flatMap_cons, List.map_cons, joinL]
    rw [← this]
    simp
theorem joinL_app (h : ls ≠ []) : joinL 32 (ls ++ [w]) = joinL 32 ls ++ 32 :: w := by
  induction ls with
  | nil => exact absurd rfl h
  | cons v vs ih =>
    cases vs with
    | nil => rfl
    | cons u us =>
      have := ih (by simp)
      simp only [List.cons_append, joinL] at this ⊢
      rw [this]
      simp
theorem join_words (h : ls ≠ []) : wordsL (joinL 32 ls) ns = joinL 32 (ls ++ ns.map numI) := by
  induction ns generalizing ls with
  | nil => simp [wordsL]
  | cons n ns ih =>
    have := ih (ls := ls ++ [numI n]) (by simp)
    rw [joinL_app h] at this
    simp only [List.map_cons]
    rw [show ls ++ numI n :: ns.map numI = ls ++ [numI n] ++ ns.map numI from by simp, ← this]
    simp [wordsL]
theorem showH_join : showH k = joinL 32 (tIn :: numI k.parent :: (if k.kind = 2 then [tClass] else tFun :: k.params.map numI)) := by
  unfold showH
  split
  · rename_i h
    rw [wordsL_join, ← joinL_app (by simp)]
    rfl
  · rename_i h
    have e : wordsL tIn [k.parent] ++ 32 :: tFun = joinL 32 [tIn, numI k.parent, tFun] := by
      rw [wordsL_join, ← joinL_app (by simp)]
      rfl
    rw [e, join_words (by simp)]
    rfl
def Small (ns : List Int) : Prop := ∀ n ∈ ns, 0 ≤ n ∧ n ≤ 99
theorem map_small (h : readNs ws = some ks) : ws = (ks.map fun (n : Nat) => (n : Int)).map numI ∧ Small (ks.map fun (n : Nat) => (n : Int)) := by
  unfold readNs at h
  induction ws generalizing ks with
  | nil =>
    simp only [List.mapM_nil] at h
    obtain rfl := Option.some.inj h
    exact ⟨rfl, by simp [Small]⟩
  | cons w ws ih =>
    simp only [List.mapM_cons] at h
    cases h1 : smallN w with
    | none => rw [h1] at h; cases h
    | some n =>
      cases h2 : ws.mapM smallN with
      | none => rw [h1, h2] at h; cases h
      | some ms =>
        rw [h1, h2] at h
        obtain rfl := Option.some.inj h
        obtain ⟨e1, e2⟩ := num_small h1
        obtain ⟨f1, f2⟩ := ih h2
        refine ⟨?_, ?_⟩
        · simp only [List.map_cons, numI_nat]
          rw [← e2]
          congr 1
        · intro x hx
          simp only [List.map_cons, List.mem_cons] at hx
          rcases hx with rfl | hx
          · omega
          · exact f2 x hx
theorem kindW_at : ∀ i, i < 12 → kindW (stmtW.getD i []) = some i := by decide
theorem kindW_of {w : Txt} (h : kindW w = some i) : i < 12 ∧ w = stmtW.getD i [] := by
  unfold kindW at h
  obtain ⟨h1, h2, _⟩ := List.findIdx?_eq_some_iff_getElem.1 h
  refine ⟨h1, ?_⟩
  rw [List.getD_eq_getElem?_getD, gE h1]
  exact (eq_of_beq h2).symm
structure TxtS (s : Stm) : Prop where
  kind : 0 ≤ s.kind ∧ s.kind ≤ 11
  nums : Small (numsOf s)
  to : s.kind = 7 ∨ s.kind = 8 → s.to = 0 ∧ s.b = 0
  b : s.kind = 0 ∨ s.kind = 1 ∨ s.kind = 3 ∨ s.kind = 4 → s.b = 0
  a : 9 ≤ s.kind → s.a = 0 ∧ s.b = 0
end
end Go.Hm
end
section
namespace Go.Hm
open Go Go.RowKit
section
variable {s : Stm} {k : Blk} {p q : Prg} {l w : Txt} {ns : List Int} {ls ws rest : List Txt} {i n : Nat} {body : List Stm} {ks : List Blk}
structure TxtH (k : Blk) : Prop where
  kind : k.kind = 1 ∨ k.kind = 2
  parent : 0 ≤ k.parent ∧ k.parent ≤ 99
  params : Small k.params
  cls : k.kind = 2 → k.params = []
theorem readS_of (h : readS l = some s) : showS s = l ∧ TxtS s := by
  unfold readS at h
  split at h
  · rename_i w ws e
    split at h
    · rename_i K ms hK hm
      obtain ⟨h1, h2⟩ := kindW_of hK
      obtain ⟨e1, e2⟩ := map_small hm
      have hl : l = joinL 32 (w :: ws) := by rw [← e, join_split]
      have key : numsOf s = ms.map (fun (n : Nat) => (n : Int)) ∧ s.kind = K ∧ (s.kind = 7 ∨ s.kind = 8 → s.to = 0 ∧ s.b = 0) ∧ (s.kind = 0 ∨ s.kind = 1 ∨ s.kind = 3 ∨ s.kind = 4 → s.b = 0) ∧ (9 ≤ s.kind → s.a = 0 ∧ s.b = 0) := by
        rcases (by omega : K = 0 ∨ K = 1 ∨ K = 2 ∨ K = 3 ∨ K = 4 ∨ K = 5 ∨ K = 6 ∨ K = 7 ∨ K = 8 ∨ K = 9 ∨ K = 10 ∨ K = 11) with rfl | rfl | rfl | rfl | rfl | rfl | rfl | rfl | rfl | rfl | rfl | rfl
        all_goals
          rcases ms with _ | ⟨x, _ | ⟨y, _ | ⟨z, _ | ⟨u, ms⟩⟩⟩⟩
          all_goals simp [stmtOfN] at h
          all_goals subst h
          all_goals simp [numsOf]
        all_goals omega
      obtain ⟨k1, k2, k3, k4, k5⟩ := key
      refine ⟨?_, ⟨by omega, by rw [k1]; exact e2, k3, k4, k5⟩⟩
      rw [showS, wordsL_join, k1, ← e1, k2, Int.toNat_natCast, ← h2, hl]
    · cases h
  · cases h
theorem readH_of (h : readH l = some k) : showH k = l ∧ TxtH k ∧ k.body = [] := by
  unfold readH at h
  split at h
  · rename_i i n f ws e
    have hl : l = joinL 32 (i :: n :: f :: ws) := by rw [← e, join_split]
    split at h
    · rename_i hi
      subst hi
      split at h
      · rename_i q hq
        obtain ⟨q1, q2⟩ := num_small hq
        split at h
        · rename_i hf
          obtain ⟨rfl, rfl⟩ := hf
          obtain rfl := Option.some.inj h
          refine ⟨?_, ⟨.inr rfl, by simp; omega, by simp [Small], fun _ => rfl⟩, rfl⟩
          rw [showH_join, hl, q2, if_pos rfl, numI_nat]
        · split at h
          · rename_i hf
            subst hf
            obtain ⟨ms, hm, rfl⟩ := Option.map_eq_some_iff.1 h
            obtain ⟨e1, e2⟩ := map_small hm
            refine ⟨?_, ⟨.inl rfl, by simp; omega, e2, fun e => by simp at e⟩, rfl⟩
            rw [showH_join, hl, q2, if_neg (by simp), numI_nat, ← e1]
          · cases h
      · cases h
    · cases h
  · cases h
end
section
variable {s : Stm} {k k0 : Blk} {p q P : Prg} {l t : Txt} {ls rest : List Txt} {i n : Nat} {body : List Stm} {ks : List Blk}
def moreLines (ks : List Blk) : List Txt := ks.flatMap fun k => showH k :: k.body.map showS
theorem mapIdx_pos {j : Nat} (h : 0 < j) : ∀ {ks : List Blk}, (ks.mapIdx fun i k => blkLines (i + j) k).flatten = moreLines ks
  | [] => rfl
  | k :: ks => by
    have ih := mapIdx_pos (j := j + 1) (by omega) (ks := ks)
    rw [List.mapIdx_cons, List.flatten_cons]
    simp only [moreLines, List.flatMap_cons]
    have e : (fun (i : Nat) (k : Blk) => blkLines (i + 1 + j) k) = fun i k => blkLines (i + (j + 1)) k := by
      funext i k
      congr 1
      omega
    rw [e, ih]
    simp only [blkLines, Nat.zero_add]
    rw [if_neg (by omega)]
    simp [moreLines]
theorem fmtLines_cons : fmtLines (k0 :: ks) = k0.body.map showS ++ moreLines ks := by
  unfold fmtLines
  rw [List.mapIdx_cons, List.flatten_cons, mapIdx_pos (by omega : 0 < 1)]
  simp [blkLines]
theorem moreLines_app : moreLines (ks ++ [k]) = moreLines ks ++ (showH k :: k.body.map showS) := by simp [moreLines]
theorem putS_app : putS (P ++ [k]) s = P ++ [{ k with body := k.body ++ [s] }] := by
  unfold putS
  apply List.ext_getElem?
  intro j
  rw [List.getElem?_modify]
  simp only [List.length_append, List.length_singleton, Nat.add_sub_cancel]
  by_cases h : P.length = j
  · subst h
    simp
  · by_cases h2 : j < P.length
    · simp [h, List.getElem?_append_left h2]
    · have h3 : P.length + 1 ≤ j := by omega
      rw [List.getElem?_eq_none (by simp; omega), List.getElem?_eq_none (by simp; omega)]
      simp
structure TxtP (p : Prg) : Prop where
  head : ∃ b ks, p = ⟨0, -1, [], b⟩ :: ks
  heads : ∀ (i : Nat) k, p[i]? = some k → 0 < i → TxtH k
  stms : ∀ k ∈ p, ∀ s ∈ k.body, TxtS s
theorem TxtP.tail (h : TxtP p) (hk : p = k0 :: ks) : ∀ k ∈ ks, TxtH k ∧ ∀ s ∈ k.body, TxtS s := by
  subst hk
  intro k hm
  obtain ⟨i, hi⟩ := List.getElem?_of_mem hm
  exact ⟨h.heads (i + 1) k (by simpa using hi) (by omega), h.stms k (List.mem_cons_of_mem _ hm)⟩
theorem parse_lines : ∀ {ls : List Txt} {p : Prg}, TxtP p → parseL ls p = some q → fmtLines q = fmtLines p ++ ls ∧ TxtP q
  | [], p, hp, h => by
    rw [parseL] at h
    obtain rfl := Option.some.inj h
    exact ⟨by simp, hp⟩
  | l :: ls, p, hp, h => by
    rw [parseL] at h
    cases ha : addLine p l with
    | none => rw [ha] at h; cases h
    | some r =>
      rw [ha] at h
      simp only at h
      obtain ⟨b, ks, e0⟩ := hp.head
      have key : fmtLines r = fmtLines p ++ [l] ∧ TxtP r := by
        unfold addLine at ha
        cases hh : readH l with
        | some k =>
          rw [hh] at ha
          obtain rfl := Option.some.inj ha
          obtain ⟨e1, e2, e3⟩ := readH_of hh
          refine ⟨?_, ⟨⟨b, ks ++ [k], by rw [e0]; rfl⟩, fun i g hg hi => ?_, fun g hg s hs => ?_⟩⟩
          · rw [e0]
            simp only [List.cons_append]
            rw [fmtLines_cons, fmtLines_cons, moreLines_app, e3, e1]
            simp
          · rcases Nat.lt_or_ge i p.length with hlt | hge
            · rw [List.getElem?_append_left hlt] at hg
              exact hp.heads i g hg hi
            · rw [List.getElem?_append_right hge] at hg
              have : i - p.length = 0 := by
                have := (gS hg).1
                simp at this
                omega
              rw [this] at hg
              obtain rfl := Option.some.inj hg
              exact e2
          · rcases List.mem_append.1 hg with hg | hg
            · exact hp.stms g hg s hs
            · rw [List.mem_singleton] at hg
              subst hg
              rw [e3] at hs
              cases hs
        | none =>
          rw [hh] at ha
          simp only at ha
          obtain ⟨s, hs, rfl⟩ := Option.map_eq_some_iff.1 ha
          obtain ⟨e1, e2⟩ := readS_of hs
          rcases List.eq_nil_or_concat ks with rfl | ⟨ks', k, rfl⟩
          · have e5 : putS p s = [⟨0, -1, [], b ++ [s]⟩] := by
              rw [e0]
              exact putS_app (P := []) (k := ⟨0, -1, [], b⟩)
            rw [e5]
            refine ⟨?_, ⟨⟨b ++ [s], [], rfl⟩, fun i g hg hi => ?_, fun g hg s' hs' => ?_⟩⟩
            · rw [e0, fmtLines_cons, fmtLines_cons, ← e1]
              simp [moreLines]
            · have := (gS hg).1
              simp at this
              omega
            · rw [List.mem_singleton] at hg
              subst hg
              rcases List.mem_append.1 hs' with h1 | h1
              · exact hp.stms ⟨0, -1, [], b⟩ (by rw [e0]; exact List.mem_cons_self ..) s' h1
              · rw [List.mem_singleton] at h1
                subst h1
                exact e2
          · have e5 : putS p s = ⟨0, -1, [], b⟩ :: (ks' ++ [{ k with body := k.body ++ [s] }]) := by
              rw [e0, List.concat_eq_append]
              exact putS_app (P := ⟨0, -1, [], b⟩ :: ks') (k := k)
            rw [List.concat_eq_append] at e0
            rw [e5]
            have hkm : k ∈ p := by rw [e0]; simp
            refine ⟨?_, ⟨⟨b, _, rfl⟩, fun i g hg hi => ?_, fun g hg s' hs' => ?_⟩⟩
            · rw [e0, fmtLines_cons, fmtLines_cons, moreLines_app, moreLines_app, ← e1]
              have : showH { k with body := k.body ++ [s] } = showH k := rfl
              rw [this]
              simp
            · obtain ⟨j, rfl⟩ : ∃ j, i = j + 1 := ⟨i - 1, by omega⟩
              rw [List.getElem?_cons_succ] at hg
              have hp' := hp.heads (j + 1)
              rw [e0] at hp'
              simp only [List.getElem?_cons_succ] at hp'
              rcases Nat.lt_or_ge j ks'.length with hlt | hge
              · rw [List.getElem?_append_left hlt] at hg hp'
                exact hp' g hg (by omega)
              · rw [List.getElem?_append_right hge] at hg hp'
                have h0 : j - ks'.length = 0 := by
                  have := (gS hg).1
                  simp at this
                  omega
                rw [h0] at hg hp'
                obtain rfl := Option.some.inj hg
                have := hp' k rfl (by omega)
                exact ⟨this.kind, this.parent, this.params, this.cls⟩
            · rcases List.mem_cons.1 hg with rfl | hg
              · exact hp.stms ⟨0, -1, [], b⟩ (by rw [e0]; exact List.mem_cons_self ..) s' hs'
              · rcases List.mem_append.1 hg with hg | hg
                · exact hp.stms g (by rw [e0]; exact List.mem_cons_of_mem _ (List.mem_append_left _ hg)) s' hs'
                · rw [List.mem_singleton] at hg
                  subst hg
                  rcases List.mem_append.1 hs' with h1 | h1
                  · exact hp.stms k hkm s' h1
                  · rw [List.mem_singleton] at h1
                    subst h1
                    exact e2
      obtain ⟨k1, k2⟩ := key
      obtain ⟨f1, f2⟩ := parse_lines k2 h
      exact ⟨by rw [f1, k1]; simp, f2⟩
theorem txt0 : TxtP prg0 := ⟨⟨[], [], rfl⟩, fun i k hk hi => by
    have := (gS hk).1
    simp [prg0] at this
    omega, fun k hk s hs => by
    simp only [prg0, List.mem_singleton] at hk
    subst hk
    cases hs⟩
theorem write_back (h : parseT t = some p) : fmt p = t ∧ progOk p = true ∧ TxtP p := by
  unfold parseT at h
  split at h
  · rename_i q hq
    split at h
    · rename_i hc
      obtain rfl := Option.some.inj h
      obtain ⟨e1, e2⟩ := parse_lines txt0 hq
      refine ⟨?_, hc.2, e2⟩
      unfold fmt
      rw [e1]
      exact (lines_split hc.1).symm
    · cases h
  · cases h
end
end Go.Hm
end
section
namespace Go.Hm
open Go Go.RowKit
section
variable {s : Stm} {k : Blk} {p q : Prg} {l t w : Txt} {ls ws vs : List Txt} {i n K : Nat}
theorem TxtS.of (hp : ShapeP p) (hk : p[i]? = some k) (hs : s ∈ k.body) : TxtS s := by
  have h := hp.stm i k hk s hs
  have hkd := StmOk.kind h
  have hl := hp.len
  obtain ⟨kd, to, a, b⟩ := s
  obtain ⟨K, rfl⟩ : ∃ K : Nat, kd = K := ⟨kd.toNat, by simp only at hkd; omega⟩
  simp only at hkd
  by_cases e : b = -1
  all_goals
    rcases (by omega : K = 0 ∨ K = 1 ∨ K = 2 ∨ K = 3 ∨ K = 4 ∨ K = 5 ∨ K = 6 ∨ K = 7 ∨ K = 8 ∨ K = 9 ∨ K = 10 ∨ K = 11) with rfl | rfl | rfl | rfl | rfl | rfl | rfl | rfl | rfl | rfl | rfl | rfl
    all_goals simp [StmOk, Stm.reads, madeAs, e] at h
    all_goals refine ⟨by simp, fun x hx => ?_, fun _ => ?_, fun _ => ?_, fun _ => ?_⟩
    all_goals try simp [numsOf, e] at hx
    all_goals first | (simp_all; done) | (simp at *; omega)
theorem TxtP.of (hp : ValP p) : TxtP p := by
  have hs := hp.sh
  have hl := hs.len
  refine ⟨?_, fun i k hk hi => ?_, fun k hk s hs' => ?_⟩
  · cases p with
    | nil => simp at hl
    | cons k0 ks =>
      have h0 := hs.head 0 k0 rfl
      simp only [HeadOk, if_true] at h0
      obtain ⟨kd, par, ps, bd⟩ := k0
      obtain ⟨h1, h2, h3⟩ := h0
      simp only at h1 h2 h3
      subst h1 h2
      obtain rfl := List.eq_nil_of_length_eq_zero h3
      exact ⟨bd, ks, rfl⟩
  · have h0 := hs.head i k hk
    have hil := (gS hk).1
    unfold HeadOk at h0
    rw [if_neg (by omega)] at h0
    obtain ⟨h1, h2, h3, h4, h5⟩ := h0
    refine ⟨by omega, by omega, fun x hx => ?_, fun e => ?_⟩
    · have := (hs.names k (List.mem_of_getElem? hk)).params x hx
      omega
    · rcases h5 with h5 | ⟨_, h5, _⟩
      · exact List.eq_nil_of_length_eq_zero h5
      · omega
  · obtain ⟨i, hi⟩ := List.getElem?_of_mem hk
    exact .of hs hi hs'
def rNum : List Txt → Option (Nat × List Txt)
  | w :: ws => (smallN w).map fun n => (n, ws)
  | [] => none
def rHead (ws : List Txt) : Option (Blk × List Txt) := match rNum ws with
  | some (q, f :: ws) => if f = tFun then (match ws with
      | [] => some (⟨1, q, [], []⟩, [])
      | x :: ws => (smallN x).map fun (n : Nat) => (⟨1, q, [(n : Int)], []⟩, ws))
    else if f = tClass then some (⟨2, q, [], []⟩, ws) else none
  | _ => none
def rStm (w : Txt) (ws : List Txt) : Option (Stm × List Txt) := match kindW w with
  | none => none
  | some K => match rNum ws with
    | none => none
    | some (x, ws) =>
      if K = 7 ∨ K = 8 then some (⟨K, 0, x, 0⟩, ws)
      else if K = 0 ∨ K = 1 ∨ K = 3 ∨ K = 4 then (rNum ws).map fun (y, ws) => (⟨K, x, y, 0⟩, ws)
      else if K = 2 ∨ K = 6 then (match rNum ws with
        | some (y, ws) => (rNum ws).map fun (z, ws) => (⟨K, x, y, z⟩, ws)
        | none => none)
      else if K = 5 then (match rNum ws with
        | some (y, []) => some (⟨K, x, y, -1⟩, [])
        | some (y, ws) => (rNum ws).map fun (z, ws) => (⟨K, x, y, z⟩, ws)
        | none => none)
      else some (⟨K, x, 0, 0⟩, ws)
def lineI (p : Prg) (line : Txt) : Option Prg := match splitL 32 line with
  | w :: ws => if w = tIn then (match rHead ws with
      | some (k, []) => some (p ++ [k])
      | _ => none)
    else match rStm w ws with
      | some (s, []) => some (putS p s)
      | _ => none
  | [] => none
def parseI (ls : List Txt) (p : Prg) : Option Prg := match ls with
  | [] => some p
  | l :: ls => match lineI p l with
    | some q => parseI ls q
    | none => none
theorem readNs_cons {w : Txt} {ws : List Txt} : readNs (w :: ws) = match smallN w, readNs ws with | some n, some ns => some (n :: ns) | _, _ => none := by
  unfold readNs
  simp only [List.mapM_cons]
  cases smallN w with
  | none => rfl
  | some n => cases ws.mapM smallN <;> rfl
theorem readNs_nil : readNs [] = some [] := rfl
theorem rStm_eq (hK : K < 12) : (match rStm (stmtW.getD K []) ws with | some (s, []) => some s | _ => none) = match readNs ws with | some ns => stmtOfN K ns | none => none := by
  unfold rStm
  rw [kindW_at K hK]
  rcases ws with _ | ⟨a, _ | ⟨b, _ | ⟨c, _ | ⟨d, ws⟩⟩⟩⟩
  · simp [rNum, readNs_nil, stmtOfN]
  · cases ha : smallN a <;> simp only [readNs_cons, readNs_nil, ha, rNum, Option.map_some, Option.map_none]
    rcases (by omega : K = 0 ∨ K = 1 ∨ K = 2 ∨ K = 3 ∨ K = 4 ∨ K = 5 ∨ K = 6 ∨ K = 7 ∨ K = 8 ∨ K = 9 ∨ K = 10 ∨ K = 11) with rfl | rfl | rfl | rfl | rfl | rfl | rfl | rfl | rfl | rfl | rfl | rfl <;> simp [stmtOfN]
  · cases ha : smallN a <;> cases hb : smallN b <;> simp only [readNs_cons, readNs_nil, ha, hb, rNum, Option.map_some, Option.map_none]
    all_goals rcases (by omega : K = 0 ∨ K = 1 ∨ K = 2 ∨ K = 3 ∨ K = 4 ∨ K = 5 ∨ K = 6 ∨ K = 7 ∨ K = 8 ∨ K = 9 ∨ K = 10 ∨ K = 11) with rfl | rfl | rfl | rfl | rfl | rfl | rfl | rfl | rfl | rfl | rfl | rfl <;> simp [stmtOfN]
  · cases ha : smallN a <;> cases hb : smallN b <;> cases hc : smallN c <;> simp only [readNs_cons, readNs_nil, ha, hb, hc, rNum, Option.map_some, Option.map_none]
    all_goals rcases (by omega : K = 0 ∨ K = 1 ∨ K = 2 ∨ K = 3 ∨ K = 4 ∨ K = 5 ∨ K = 6 ∨ K = 7 ∨ K = 8 ∨ K = 9 ∨ K = 10 ∨ K = 11) with rfl | rfl | rfl | rfl | rfl | rfl | rfl | rfl | rfl | rfl | rfl | rfl <;> simp [stmtOfN]
  · have hn : ∀ ns, readNs (a :: b :: c :: d :: ws) = some ns → stmtOfN K ns = none := by
      intro ns h
      have : ns.length = (a :: b :: c :: d :: ws).length := by
        rw [(map_small h).1]; simp
      rcases ns with _ | ⟨x, _ | ⟨y, _ | ⟨z, _ | ⟨u, ns⟩⟩⟩⟩ <;> first | rfl | (simp at this)
    have hr : (match readNs (a :: b :: c :: d :: ws) with | some ns => stmtOfN K ns | none => none) = none := by
      cases e : readNs (a :: b :: c :: d :: ws) with
      | none => rfl
      | some ns => exact hn ns e
    rw [hr]
    cases ha : smallN a <;> cases hb : smallN b <;> cases hc : smallN c <;> simp only [ha, hb, hc, rNum, Option.map_some, Option.map_none]
    all_goals rcases (by omega : K = 0 ∨ K = 1 ∨ K = 2 ∨ K = 3 ∨ K = 4 ∨ K = 5 ∨ K = 6 ∨ K = 7 ∨ K = 8 ∨ K = 9 ∨ K = 10 ∨ K = 11) with rfl | rfl | rfl | rfl | rfl | rfl | rfl | rfl | rfl | rfl | rfl | rfl <;> simp
end
end Go.Hm
end
