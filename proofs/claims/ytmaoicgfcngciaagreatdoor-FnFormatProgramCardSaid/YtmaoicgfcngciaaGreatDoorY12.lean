/-
  Own texts, joined by mkclaim.py: Hm79, Hm81, Hm82, Hm83, Hm84, Hm85, Hm86, Hm87, Hm88, Hm89, Hm94, Hm95, Hm96, Hm99, Hm100, Hm101, Hm102, Hm103, Hm105, Hm106, Hm108, Hm109, Hm110, Hm111, Hm112, Hm113, Hm114, Hm115, Hm126, Hm127, Hm128, Hm129, Hm130.
-/
import Derived.Test.YtmaoicgfcngciaaGreatDoorY11
import Derived.Test.YtmaoicgfcngciaaGreatDoorY10
import Derived.Stop.Joined
set_option linter.unusedSimpArgs false
set_option linter.unusedVariables false
set_option maxRecDepth 100000
set_option maxHeartbeats 4000000

section
namespace Go.Hm
open Go Go.RowKit
section
variable {n : Nm} {len i j : Nat} {f : Nm → Option Nm} {q : Int}
end
@[simp] theorem slc_hs {P : Program} {T : TypeId} {hp : Nm → Option AO} {n : Nm} {z q len : Nat} {lo hi : Option Int} : slcAV P T hp (.hs n z q len) lo hi = match tel P T with
    | some e => if z = tsz P e ∧ 0 ≤ lo.getD 0 ∧ lo.getD 0 ≤ hi.getD len ∧ (hi.getD len ≤ len ∨ q + (hi.getD len).toNat ≤ rowsIn hp n z) then some (.hs n z (q + (lo.getD 0).toNat) ((hi.getD len).toNat - (lo.getD 0).toNat)) else none
    | none => none := rfl
def fM (k : Nat) : Bool := k == 1 || k == 7 || k == 8
def DM : Nm → Bool := Du fM
def DM2 (n : Nm) : Bool := DM n || Nm.under (.u 2 0 0) n
section
variable {n : Nm} {k i j d : Nat}
@[simp] theorem DM_s : DM (.s d) = false := rfl
@[simp] theorem DM_u : DM (.u k i j) = fM k := rfl
@[simp] theorem DM_c : DM (.c n i j) = DM n := rfl
@[simp] theorem fM_1 : fM 1 = true := rfl
@[simp] theorem fM_2 : fM 2 = false := rfl
@[simp] theorem fM_7 : fM 7 = true := rfl
@[simp] theorem fM_8 : fM 8 = true := rfl
@[simp] theorem DM2_eq : DM2 n = (DM n || Nm.under (.u 2 0 0) n) := rfl
end
section
variable {l m : List Nat} {i : Nat} {f : Nm → Option Nm}
end
section
variable {F : Nat} {p : Prg} {gs : List (Nat × Nat)} {g : Nat × Nat} {cs : List (List Slt)} {c : List Slt} {n m : Nm} {i : Nat} {f : Nm → Option Nm}
end
def envRow (i : Nat) (a : Act) : List AV := [iv a.blk, .mp (.c (En i) 0 1), if i = 0 then nilP else ptE a.up]
@[simp] theorem envRow_len {i : Nat} {a : Act} : (envRow i a).length = 3 := rfl
def Wld.nms (w : Wld) (i : Nat) : List Slt := if i = 0 then w.globals else match w.acts[i]? with | some a => a.vars | none => []
section
variable {X : Ctx} {st : St} {K : St → Prop} {E : AV → St → Prop} {d f : Nat} {ty : TypeId} {pos : String} {aft : Array Edge} {g : Option (Nat × Bool)} {args : Array Operand} {Ts : Array TypeId} {az : List AV} {R : Nm → AV → (Nm → Option AO) → Prop}
end
section
variable {l : List (Nat × Nat)} {c : Int} {i : Nat}
end
end Go.Hm
end
section
namespace Go.Hm
open Go Go.RowKit
def Rsl.av (r : Rsl) : AV := .agg [isl r.out, iv r.en, iv r.left, isl r.gl]
@[simp] theorem Rsl.av_eq {r : Rsl} : r.av = .agg [isl r.out, iv r.en, iv r.left, isl r.gl] := rfl
def Rsl.mark (r : Rsl) (c : Int) : Rsl := ⟨markI r.out.length c, r.en, r.left, markI r.gl.length (c + r.out.length)⟩
section
variable {hp : Nm → Option AO} {n : Nm} {r : Rsl} {c : Int}
@[simp] theorem Rsl.mark_en : (r.mark c).en = r.en := rfl
@[simp] theorem Rsl.mark_left : (r.mark c).left = r.left := rfl
@[simp] theorem Rsl.mark_out : (r.mark c).out.length = r.out.length := by simp [Rsl.mark]
@[simp] theorem Rsl.mark_gl : (r.mark c).gl.length = r.gl.length := by simp [Rsl.mark]
end
section
variable {p : Prg} {f : Int}
end
end Go.Hm
end
section
namespace Go.Hm
open Go
structure ProgFacts (P : Program) : Prop where
  laid : laidOutB P = true
  maps : mapsRowed P = true
  stops : (P.stops == []) = true
  knobs : (P.stopKnobs == []) = true
  keys : P.plainKeys = true
  heard : P.stopsHeard = true
  may : P.mayEnter = true
  lifts : P.liftsFinal = false
  make : (P.make == some .cut) = true
theorem joined_of {P : Program} {f : FuncId} {fn : Func} {s : ChangeSpec} {c : OpenClaim} (hp : ProgFacts P)
    (h1 : c.wf (OpenSpec.ofChange s) = true) (h2 : fn.params.all (P.readableRec ·) = true) (h3 : namedTie P c.named s.vars = true) (h4 : (c.stops == []) = true) (h5 : (c.knobs == []) = true)
    (h6 : (c.inPlace == P.inPlace f) = true) (h7 : (c.unfollowed == P.unfollowed f) = true) (h8 : (c.recurses == P.recurses f) = true) (h9 : (c.named == P.varsNamed f) = true)
    (h10 : (c.maps == (fn.params.toList ++ s.plain.varTypes P).any (P.mapsRec ·)) = true) (h11 : (c.ifaces == (fn.params.toList ++ s.plain.varTypes P).any (P.ifacesRec ·)) = true) (h12 : (c.mapsOut == P.mapsAmong fn.resultTypes.toList) = true)
    (h13 : (c.loops == (fn.params.toList ++ s.plain.varTypes P).any (P.loopsFrom ·)) = true) (h14 : (c.wideKeys == (fn.params.toList ++ s.plain.varTypes P ++ fn.resultTypes.toList).any (P.wideKeysFrom ·)) = true)
    (h15 : s.vars.all (P.varReadable ·) = true) (h16 : fn.resultTypes.all (fun t => P.readableRec t && decide (t < P.types.size)) = true) (h17 : (c.ifacesOut == fn.resultTypes.toList.any (P.ifacesRec ·)) = true) (h18 : (c.loopsOut == fn.resultTypes.toList.any (P.loopsFrom ·)) = true)
    (h19 : c.plainKeys = true) (h20 : c.shortTexts.isNone = true) (h21 : c.lifted = false) (h22 : c.make = .cut)
    (h23 : (c.kinds == (if c.domain.isEmpty then [] else fn.params.toList.map fun t => match P.underlying t with | some (.int k) => some k | _ => none)) = true) (h24 : (c.pinned == c.pinnedBy) = true)
    (h25 : (c.veiled == (fn.params.toList ++ s.plain.varTypes P ++ fn.resultTypes.toList).any (P.veiledRec ·)) = true) (h26 : c.veiledFits P fn.params.toList (fn.params.toList ++ s.plain.varTypes P ++ fn.resultTypes.toList) = true) : joinedFacts P f fn s c = true := by
  have e1 : (c.plainKeys == P.plainKeys) = true := by rw [h19, hp.keys]; rfl
  have e2 : (c.lifted == P.liftsFinal) = true := by rw [h21, hp.lifts]; rfl
  have e3 : (P.make == some c.make) = true := by rw [h22]; exact hp.make
  unfold joinedFacts
  simp only [hp.laid, hp.maps, hp.stops, hp.knobs, hp.heard, hp.may, h1, h2, h3, h4, h5, h6, h7, h8, h9, h10, h11, h12, h13, h14, h15, h16, h17, h18, h20, h24, h25, h26, e1, e2, e3, Bool.and_true, Bool.true_and]
  exact h23
end Go.Hm
end
section
namespace Go.Hm
open Go Go.RowKit
section
variable {p : Prg} {f g n : Nat}
structure More (k : Nat) (w w' : Wld) : Prop where
  funs : w.funs.length ≤ w'.funs.length
  cls : w.classes.length ≤ w'.classes.length
  out : w.out <+: w'.out
  tr : w.trace <+: w'.trace
  same : w.en ≠ 1 → w' = addF k w
  none : w.en = 1 → w.left = 0
end
end Go.Hm
end
section
set_option linter.unusedSectionVars false
namespace Go.Hm
open Go Go.RowKit
def stl (t : List (Nat × Nat)) (k : Nat) (w : Wld) : Wld := { w with trace := t, left := k }
section
variable {p : Prg} {k m : Nat} {t : List (Nat × Nat)} {w : Wld} {a b i : Nat} {x : Int} {l : Option Nat} {vs : List Val} {s : Stm} {v : Val}
@[simp] theorem stl_stl {t' : List (Nat × Nat)} {k' : Nat} : stl t k (stl t' k' w) = stl t k w := rfl
@[simp] theorem stl_loc : (stl t k w).loc p a x = w.loc p a x := rfl
@[simp] theorem stl_blk : (stl t k w).blk a = w.blk a := rfl
@[simp] theorem stl_en : (stl t k w).en = w.en := rfl
@[simp] theorem stl_left : (stl t k w).left = k := rfl
@[simp] theorem stl_out : (stl t k w).out = w.out := rfl
end
def Sim (m : Nat) (r r' : Wld × Val) : Prop := (r.1.en ≠ 1 ∧ ∃ t, r' = (stl t m r.1, r.2)) ∨ (r.1.en = 1 ∧ (m = 0 → r'.1.out = r.1.out ∧ r'.1.left = 0))
section
variable {p : Prg} {R : Wld → Nat → Wld × Val} {R2 : Nat → Wld → Nat → Wld × Val} {n : Nat} {w : Wld} {a b i : Nat} {x : Int} {vs : List Val} {s : Stm} {v : Val}
variable (hR : ∀ w a, w.left < n → w.en = 0 → ∃ g, g + (R w a).1.left ≤ w.left ∧ ∀ N t m, g + m < N → Sim m (R w a) (R2 N (stl t (g + m) w) a))
include hR
end
end Go.Hm
end
section
set_option linter.unusedSectionVars false
namespace Go.Hm
open Go Go.RowKit
structure KB (w w' : Wld) : Prop where
  len : w.acts.length ≤ w'.acts.length
  blk : ∀ i, i < w.acts.length → w'.blk i = w.blk i
theorem KB.refl (w : Wld) : KB w w := ⟨Nat.le_refl _, fun _ _ => rfl⟩
theorem KB.trans {w w' w'' : Wld} (h : KB w w') (h' : KB w' w'') : KB w w'' := ⟨Nat.le_trans h.len h'.len, fun i hi => (h'.blk i (Nat.lt_of_lt_of_le hi h.len)).trans (h.blk i hi)⟩
theorem KB.same {w w' : Wld} (h : w'.acts = w.acts) : KB w w' := ⟨by rw [h]; exact Nat.le_refl _, fun i _ => by simp only [Wld.blk, h]⟩
theorem KB.set {w : Wld} {l : Option Nat} {x : Int} {s : Slt} : KB w (w.set l x s) := by
  cases l with
  | none => exact .same rfl
  | some i =>
    refine ⟨by simp [Wld.set], fun j _ => ?_⟩
    simp only [Wld.set, Wld.blk, List.getElem?_modify]
    by_cases e : i = j
    · subst e
      cases h : w.acts[i]? <;> simp
    · simp [e]
section
variable {p : Prg} {R : Wld → Nat → Wld × Val} {w : Wld} {a b i : Nat} {x : Int} {vs : List Val} {s : Stm} {v : Val}
variable (hR : ∀ w a, a < w.acts.length → KB w (R w a).1)
include hR
end
structure Alike (p q : Prg) : Prop where
  kind : ∀ b, kindAt p b = kindAt q b
  par : ∀ b : Nat, (match p[b]? with | some k => k.params | none => []) = (match q[b]? with | some k => k.params | none => [])
theorem Alike.parN {p q : Prg} (h : Alike p q) (b : Nat) : parN p b = parN q b := by
  have := congrArg List.length (h.par b)
  unfold Hm.parN
  cases h1 : p[b]? <;> cases h2 : q[b]? <;> simp [h1, h2] at this ⊢ <;> omega
section
variable {p q : Prg} {R S : Wld → Nat → Wld × Val} {w : Wld} {a b i : Nat} {x : Int} {vs : List Val} {s : Stm} {v : Val}
variable (hA : Alike p q)
include hA
variable (hR : ∀ w a, a < w.acts.length → R w a = S w a)
include hR
end
end Go.Hm
end
section
namespace Go.Hm
open Go Go.RowKit
section
variable {p q : Prg} {b : Nat} {k k' : Blk} {x : Int} {s : Stm}
end
section
variable {p : Prg} {b i : Nat} {k : Blk} {s : Stm}
end
end Go.Hm
end
section
namespace Go.Hm
open Go Go.RowKit
section
variable {X : Ctx} {st : St} {K : St → Prop} {E : AV → St → Prop}
def dfree (D : Nm → Bool) (hp : Nm → Option AO) : Nm → Option AO := fun m => if D m then none else hp m
def St.forget (D : Nm → Bool) (st : St) : St := { tm := st.tm, hp := dfree D st.hp, n := st.n, gl := st.gl }
@[simp] theorem forget_tm {D : Nm → Bool} {t : Nat} : (st.forget D).tm t = st.tm t := rfl
@[simp] theorem forget_hp {D : Nm → Bool} {m : Nm} : (st.forget D).hp m = if D m then none else st.hp m := rfl
end
section
variable {X : Ctx} {st : St} {K : St → Prop} {E : AV → St → Prop} {d f : Nat} {ty : TypeId} {pos : String} {aft : Array Edge} {g : Option (Nat × Bool)} {c : Operand} {args : Array Operand} {Ts : Array TypeId} {xs ys az : List AV}
end
section
variable {P : Program} {own : Nat → Prop} {C : Nat → Prop} {w0 : World} {g : Gh} {st : St} {a : Go.Act} {w : World}
end
section
variable {X : Ctx} {st : St} {K : St → Prop} {E : AV → St → Prop} {d : Nat} {ty : TypeId} {pos : String} {aft : Array Edge} {g : Option (Nat × Bool)}
end
theorem OkS.two {D : Nm → Bool} {root n m : Nm} {i j i' j' : Nat} (h : n.sroot = true) (h' : m.sroot = true) (hne : ¬ (i = i' ∧ j = j')) : OkS D root [(n, .c root i j), (m, .c root i' j')] := by
  refine ⟨by simp [h, h'], by simp, ?_⟩
  refine .cons (fun q hq => ?_) (.cons (fun q hq => by simp at hq) .nil)
  obtain rfl := by simpa using hq
  exact fun k hk => Nm.c_disj hne hk
def idleTo (p : Prg) (b i : Nat) : List Int := ((List.range i).filter fun j => idleAt p b j).map fun j : Nat => (j : Int)
section
variable {p : Prg} {b i : Nat} {k : Blk}
@[simp] theorem idleTo_zero : idleTo p b 0 = [] := rfl
end
structure Vw where
  block : Int
  names : List Int
  vals : List Int
  deriving DecidableEq, Inhabited
def Vw.own (n : Nm) (i : Nat) (v : Vw) : List AV := [iv v.block, .hs (.c n i 1) 1 0 v.names.length, .hs (.c n i 2) 1 0 v.vals.length]
@[simp] theorem Vw.own_eq {n : Nm} {i : Nat} {v : Vw} : v.own n i = [iv v.block, .hs (.c n i 1) 1 0 v.names.length, .hs (.c n i 2) 1 0 v.vals.length] := rfl
def vwRows (n : Nm) (cs : List Vw) : List (List AV) := cs.mapIdx fun i c => c.own n i
section
variable {cs : List Vw} {i a b d l : Nat} {n q k1 : Nm} {c : Vw}
@[simp] theorem vwRows_nil : vwRows n [] = [] := rfl
end
section
variable {p : Prg} {b c : Nat} {x : Int} {k : Blk} {l : List (Int × Slt)} {q : Int × Slt}
end
end Go.Hm
end
section
namespace Go.Hm
open Go Go.RowKit
section
variable {p : Prg} {b : Nat} {k : Blk}
end
def grows (g : Int → Slt) (l : List Int) : List (AV × AV) := l.map fun x => (iv x, .agg (slotC (g x)))
section
variable {g : Int → Slt} {l : List Int} {n : Int} {f : Nm → Option Nm}
@[simp] theorem grows_nil : grows g [] = [] := rfl
end
end Go.Hm
end
section
namespace Go.Hm
open Go Go.RowKit
structure Frm where
  blk : Nat
  pc : Nat
  fasts : List Slt
  cells : List Nat
  names : List Slt
  stack : List Val
structure Mch where
  cells : List Slt
  globals : List Slt
  funs : List (Nat × List Nat)
  classes : List (List Slt)
  frames : List Frm
  made : Nat
  deep : Nat
  out : List Int
  trace : List (Nat × Nat)
  en : Int
  left : Nat
def parAt (p : Prg) (b : Nat) : Nat := match p[b]? with | some k => k.parent.toNat | none => 0
def capsL (p : Prg) (b : Nat) : List Int := (freesL p b).map (cellPl p (parAt p b))
section
variable (p : Prg) (m : Mch) (fs : List Frm) (f : Frm) (o : Int × Int)
def Mch.top : Mch := { m with frames := fs ++ [f] }
def Mch.stop (e : Int) : Mch := { m.top fs f with en := e }
def Frm.push (v : Val) : Frm := { f with stack := f.stack ++ [v] }
def Frm.pop : Frm := { f with stack := f.stack.dropLast }
def Frm.tos : Val := f.stack.getLastD (0, 0)
def slAt (l : List Slt) (i : Nat) : Slt := match l[i]? with | some s => s | none => none
def getS : Slt :=
  if o.1 ≤ 4 then slAt f.fasts o.2.toNat
  else if o.1 ≤ 7 then slAt m.cells (f.cells.getD o.2.toNat 0)
  else if o.1 ≤ 10 then slAt m.globals o.2.toNat else slAt f.names o.2.toNat
def whyS : Int := if o.1 ≤ 4 then 2 else if o.1 ≤ 7 then (if o.2 < (cellsL p f.blk).length then 2 else 3) else 4
def setS (s : Slt) : Mch :=
  if o.1 ≤ 4 then m.top fs { f with fasts := f.fasts.set o.2.toNat s }
  else if o.1 ≤ 7 then { m.top fs f with cells := m.cells.set (f.cells.getD o.2.toNat 0) s }
  else if o.1 ≤ 10 then { m.top fs f with globals := m.globals.set o.2.toNat s } else m.top fs { f with names := f.names.set o.2.toNat s }
def loadM : Mch := match getS m f o with
  | some v => m.top fs (f.push v)
  | none => if whyS p f o = 4 then
      match slAt m.globals o.2.toNat with
      | some v => m.top fs (f.push v)
      | none => if o.2 = 7 then m.top fs (f.push (1, 70)) else m.stop fs f 4
    else m.stop fs f (whyS p f o)
def storeM : Mch := setS m fs f.pop o (some f.tos)
def delM : Mch := match getS m f o with
  | some _ => setS m fs f o none
  | none => m.stop fs f (whyS p f o)
def beginM (b : Nat) (cs : List Nat) (vs : List Val) : Mch :=
  let F : Frm := ⟨b, 0, List.replicate (fastsL p b).length none, ((List.range (cellsL p b).length).map (m.cells.length + ·)) ++ cs, noSlots, []⟩
  let M : Mch := { m with cells := m.cells ++ List.replicate (cellsL p b).length none, made := m.made + 1, deep := max m.deep (m.frames.length + 1), frames := m.frames ++ [F] }
  match (codeL p b).params, vs with
  | [x], [v] => if x ∈ fastsL p b then { M with frames := m.frames ++ [{ F with fasts := F.fasts.set (placeIn (fastsL p b) x).toNat (some v) }] }
    else { M with cells := M.cells.set (m.cells.length + (placeIn (cellsL p b) x).toNat) (some v) }
  | _, _ => M
def callM : Mch :=
  let n := o.2.toNat
  let k := f.stack.length - n - 1
  let F : Frm := { f with stack := f.stack.take k }
  let g := f.stack.getD k (0, 0)
  if g.1 ≠ 2 then m.stop fs F 5 else
  match m.funs[g.2.toNat]? with
  | some h => if parN p h.1 ≠ n then m.stop fs F 6 else beginM p (m.top fs F) h.1 h.2 (f.stack.drop (k + 1))
  | none => m.stop fs F 5
def capM (b : Nat) : List Nat := (capsL p b).map fun k => f.cells.getD k.toNat 0
def attrM : Mch :=
  let v := f.tos
  if v.1 ≠ 3 then m.stop fs f.pop 5 else
  match slAt (m.classes.getD v.2.toNat []) o.2.toNat with
  | some u => m.top fs (f.pop.push u)
  | none => m.stop fs f.pop 7
def addM : Mch :=
  let b := f.tos
  let a := f.pop.tos
  if a.1 ≠ 1 ∨ b.1 ≠ 1 then m.stop fs f.pop.pop 5 else m.top fs (f.pop.pop.push (1, (a.2 + b.2).tmod 1000))
def leaveM (v : Val) : Mch := match fs.getLast? with
  | some g => { m with frames := fs.dropLast ++ [g.push v] }
  | none => { m with frames := [] }
def endM : Mch := if kindAt p f.blk = 2 then leaveM { m with classes := m.classes ++ [f.names] } fs (3, m.classes.length) else leaveM m fs (0, 0)
def tickM : Mch := if m.left = 0 then m.stop fs f 1 else
  { m.top fs f with left := m.left - 1, trace := m.trace ++ [(f.blk, ticks ((opsL p f.blk).take (f.pc - 1)))] }
def workM : Mch :=
  if o.1 = 1 then m.top fs (f.push (1, o.2))
  else if o.1 = 14 then addM m fs f
  else if o.1 = 15 then { m.top fs (f.push (2, m.funs.length)) with funs := m.funs ++ [(o.2.toNat, capM p f o.2.toNat)] }
  else if o.1 = 16 then beginM p (m.top fs f) o.2.toNat (capM p f o.2.toNat) []
  else if o.1 = 17 then callM p m fs f o
  else if o.1 = 18 then attrM m fs f o
  else if o.1 = 19 then { m.top fs f.pop with out := m.out ++ [shown f.tos] }
  else leaveM m fs f.tos
def ordM : Mch :=
  if o.1 = 0 then tickM p m fs f
  else if 2 ≤ o.1 ∧ o.1 ≤ 13 then
    (if (o.1 - 2) % 3 = 0 then loadM p m fs f o else if (o.1 - 2) % 3 = 1 then storeM m fs f o else delM p m fs f o)
  else workM p m fs f o
end
def stepM (p : Prg) (m : Mch) : Mch := match m.frames.getLast? with
  | some f => match (opsL p f.blk)[f.pc]? with
    | some o => ordM p m m.frames.dropLast { f with pc := f.pc + 1 } o
    | none => endM p m m.frames.dropLast f
  | none => m
def Mch.ended (m : Mch) : Prop := m.frames = [] ∨ m.en ≠ 0
instance (m : Mch) : Decidable m.ended := decidable_of_iff (m.frames.length = 0 ∨ m.en ≠ 0) (by simp [Mch.ended])
def runM (p : Prg) : Nat → Mch → Mch
  | 0, m => m
  | n + 1, m => if m.ended then m else runM p n (stepM p m)
def emptyM (fuel : Nat) : Mch := ⟨[], noSlots, [], [], [], 0, 0, [], [], 0, fuel⟩
def startM (p : Prg) (fuel : Nat) : Mch := beginM p (emptyM fuel) 0 [] []
section
variable {p : Prg} {b o c : Nat} {k q : Blk} {x : Int}
end
end Go.Hm
end
section
namespace Go.Hm
open Go Go.RowKit
def Steps (p : Prg) (m m' : Mch) : Prop := ∃ N, ∀ k, runM p (N + k) m = runM p k m'
theorem Steps.refl {p : Prg} (m : Mch) : Steps p m m := ⟨0, fun k => by rw [Nat.zero_add]⟩
theorem Steps.trans {p : Prg} {a b c : Mch} (h : Steps p a b) (h' : Steps p b c) : Steps p a c := by
  obtain ⟨N, h⟩ := h
  obtain ⟨M, h'⟩ := h'
  exact ⟨N + M, fun k => by rw [Nat.add_assoc, h, h']⟩
theorem Steps.one {p : Prg} {m : Mch} (h : ¬ m.ended) : Steps p m (stepM p m) := ⟨1, fun k => by rw [Nat.add_comm, runM, if_neg h]⟩
section
variable {p : Prg} {w : Wld} {m : Mch} {B : List Nat} {a b o : Nat} {c : Act} {k : Blk} {f : Frm} {x : Int} {fs : List Frm}
theorem kind_cases (hp : ShapeP p) (hk : p[b]? = some k) : k.kind = 0 ∨ k.kind = 1 ∨ k.kind = 2 := by
  have h := hp.head b k hk
  unfold HeadOk at h
  split at h <;> omega
end
section
variable {p : Prg} {w : Wld} {m : Mch} {B : List Nat} {a b o d : Nat} {c e : Act} {k : Blk} {f : Frm} {x : Int} {fs : List Frm} {s : Slt}
end
end Go.Hm
end
section
namespace Go.Hm
open Go Go.RowKit
section
variable {p : Prg} {w : Wld} {m : Mch} {B : List Nat} {a b o d up : Nat} {c e : Act} {k : Blk} {f : Frm} {x : Int} {fs : List Frm} {vs : List Val} {cs : List Nat}
end
section
variable {p : Prg} {w : Wld} {m : Mch} {B : List Nat} {a b o d up : Nat} {c e : Act} {k : Blk} {f : Frm} {x : Int} {fs : List Frm} {vs : List Val} {cs : List Nat} {st : List Nat} {s : Stm}
def Frm.at (p : Prg) (f : Frm) (l : List (Int × Int)) : Prop := (opsL p f.blk).drop f.pc = l
def Frm.next (f : Frm) : Frm := { f with pc := f.pc + 1 }
end
end Go.Hm
end
section
namespace Go.Hm
open Go Go.RowKit
section
variable {p : Prg} {w : Wld} {m : Mch} {B : List Nat} {a b o d up : Nat} {c e : Act} {k : Blk} {f : Frm} {x : Int} {fs : List Frm} {vs : List Val} {cs : List Nat} {st : List Nat} {s : Stm} {n : Nat} {R : Wld → Nat → Wld × Val}
end
section
variable {p : Prg} {n : Nat} {R : Wld → Nat → Wld × Val} {w : Wld} {a b up : Nat} {vs : List Val} {s : Stm} {k : Blk}
end
section
variable {p : Prg} {w : Wld} {i a : Nat} {v : Vw} {x : Int}
end
end Go.Hm
end
section
namespace Go.Hm
open Go Go.RowKit
section
variable {p : Prg} {w : Wld} {m : Mch} {B : List Nat} {a b o d up : Nat} {c e : Act} {k : Blk} {f : Frm} {x : Int} {fs : List Frm} {vs : List Val} {cs : List Nat} {st : List Nat} {s : Stm} {n : Nat} {R : Wld → Nat → Wld × Val}
end
section
variable {p : Prg} {m : Mch} {n i j : Nat}
end
end Go.Hm
end
section
namespace Go.Hm
open Go Go.RowKit
section
variable {p : Prg} {b : Nat} {k : Blk} {s : Stm} {x : Int} {h : Nat} {l : List (Int × Int)}
end
section
variable {p : Prg} {m : Mch} {nf nk nc nf' nk' nc' b e : Nat} {fs : List Frm} {f g : Frm} {o : Int × Int} {v : Val} {k : Blk} {x : Int}
end
end Go.Hm
end
section
namespace Go.Hm
open Go Go.RowKit
section
variable {p : Prg} {m : Mch} {b e : Nat} {fs : List Frm} {f g : Frm} {o : Int × Int} {v : Val} {k : Blk} {x : Int} {l : List (Int × Int)}
end
section
variable {p : Prg} {m : Mch} {b e d n i j N M : Nat} {fs : List Frm} {f g : Frm} {o : Int × Int} {v : Val} {k : Blk} {x : Int} {l : List (Int × Int)}
def Mch.add (d : Nat) (m : Mch) : Mch := { m with left := m.left + d }
end
end Go.Hm
end
section
namespace Go.Hm
open Go Go.RowKit
section
variable {p : Prg} {m : Mch} {b d n i j N M t : Nat} {fs : List Frm} {f g : Frm} {o : Int × Int} {v : Val} {k : Blk} {x : Int}
open Classical in
noncomputable def ranP (p : Prg) (n : Nat) : Mch := if h : ∃ N, (runM p N (startM p n)).ended then runM p (Classical.choose h) (startM p n) else startM p n
end
abbrev Txt := List UInt8
def dg (n : Nat) : UInt8 := UInt8.ofNat (48 + n)
def numN (n : Nat) : Txt := if n < 10 then [dg n] else numN (n / 10) ++ [dg (n % 10)]
def numI (n : Int) : Txt := if n < 0 then 45 :: numN n.natAbs else numN n.natAbs
theorem dg_val {n : Nat} (h : n < 10) : (dg n).toNat = 48 + n := by
  simp only [dg, UInt8.toNat_ofNat']
  omega
theorem numN_small {n : Nat} (h : n < 10) : numN n = [dg n] := by rw [numN, if_pos h]
theorem numN_two {n : Nat} (h : 10 ≤ n) (h' : n < 100) : numN n = [dg (n / 10), dg (n % 10)] := by
  rw [numN, if_neg (by omega), numN_small (by omega)]
  rfl
theorem numN_dig : ∀ (n : Nat), ∀ c ∈ numN n, 48 ≤ c.toNat ∧ c.toNat ≤ 57
  | n => by
    intro c hc
    rw [numN] at hc
    split at hc
    · rename_i h
      rw [List.mem_singleton] at hc
      subst hc
      rw [dg_val h]
      omega
    · rw [List.mem_append, List.mem_singleton] at hc
      rcases hc with hc | rfl
      · exact numN_dig (n / 10) c hc
      · rw [dg_val (by omega)]
        omega
def splitL (c : UInt8) : Txt → List Txt
  | [] => [[]]
  | x :: l => if x = c then [] :: splitL c l else match splitL c l with
    | w :: ws => (x :: w) :: ws
    | [] => [[x]]
section
variable {c : UInt8} {l m w : Txt} {ls ws : List Txt}
theorem splitL_ne : splitL c l ≠ [] := by
  cases l with
  | nil => simp [splitL]
  | cons x l =>
    rw [splitL]
    split
    · simp
    · split <;> simp
theorem splitL_one (h : c ∉ l) : splitL c l = [l] := by
  induction l with
  | nil => rfl
  | cons x l ih =>
    simp only [List.mem_cons, not_or] at h
    rw [splitL, if_neg (fun e => h.1 e.symm), ih h.2]
theorem splitL_app (h : c ∉ l) : splitL c (l ++ c :: m) = l :: splitL c m := by
  induction l with
  | nil => rw [List.nil_append, splitL, if_pos rfl]
  | cons x l ih =>
    simp only [List.mem_cons, not_or] at h
    rw [List.cons_append, splitL, if_neg (fun e => h.1 e.symm), ih h.2]
def joinL (c : UInt8) : List Txt → Txt
  | [] => []
  | [w] => w
  | w :: w' :: ws => w ++ c :: joinL c (w' :: ws)
theorem split_join : ∀ {ls : List Txt}, ls ≠ [] → (∀ w ∈ ls, c ∉ w) → splitL c (joinL c ls) = ls
  | [], h, _ => absurd rfl h
  | [w], _, h => splitL_one (h w (List.mem_cons_self ..))
  | w :: v :: vs, _, h => by
    rw [joinL, splitL_app (h w (List.mem_cons_self ..)), split_join (by simp) fun x hx => h x (List.mem_cons_of_mem _ hx)]
def linesL (c : UInt8) (ls : List Txt) : Txt := ls.flatMap (· ++ [c])
theorem linesL_cons : linesL c (w :: ls) = w ++ c :: linesL c ls := by simp [linesL]
theorem linesL_join : linesL c ls = joinL c (ls ++ [[]]) := by
  induction ls with
  | nil => rfl
  | cons w ls ih =>
    rw [linesL_cons, ih]
    cases ls with
    | nil => rfl
    | cons v vs => rfl
theorem split_lines (h : ∀ w ∈ ls, c ∉ w) : splitL c (linesL c ls) = ls ++ [[]] := by
  rw [linesL_join, split_join (by simp)]
  intro w hw
  rcases List.mem_append.1 hw with hw | hw
  · exact h w hw
  · rw [List.mem_singleton] at hw
    subst hw
    simp
theorem lines_count (h : ∀ w ∈ ls, c ∉ w) : (linesL c ls).count c = ls.length := by
  induction ls with
  | nil => rfl
  | cons w ls ih =>
    rw [linesL_cons, List.count_append, List.count_cons_self, ih fun x hx => h x (List.mem_cons_of_mem _ hx), List.count_eq_zero_of_not_mem (h w (List.mem_cons_self ..))]
    simp
end
def isDg (c : UInt8) : Bool := decide (48 ≤ c.toNat) && decide (c.toNat ≤ 57)
def smallN : Txt → Option Nat
  | [a] => if isDg a = true then some (a.toNat - 48) else none
  | [a, b] => if isDg a = true ∧ isDg b = true ∧ a ≠ 48 then some (10 * (a.toNat - 48) + (b.toNat - 48)) else none
  | _ => none
theorem isDg_dg {n : Nat} (h : n < 10) : isDg (dg n) = true := by
  simp only [isDg, dg_val h, Bool.and_eq_true, decide_eq_true_eq]
  omega
theorem dg_of {c : UInt8} (h : isDg c = true) : c = dg (c.toNat - 48) := by
  simp only [isDg, Bool.and_eq_true, decide_eq_true_eq] at h
  apply UInt8.toNat_inj.1
  rw [dg_val (by omega)]
  omega
theorem small_num {n : Nat} (h : n ≤ 99) : smallN (numN n) = some n := by
  by_cases h1 : n < 10
  · rw [numN_small h1]
    simp only [smallN, isDg_dg h1, if_true, dg_val h1]
    congr 1
    omega
  · have h2 : n / 10 < 10 := by omega
    have h3 : n % 10 < 10 := by omega
    rw [numN_two (by omega) (by omega)]
    have h4 : dg (n / 10) ≠ 48 := by
      intro e
      have := congrArg UInt8.toNat e
      rw [dg_val h2] at this
      simp at this
      omega
    simp only [smallN, isDg_dg h2, isDg_dg h3, dg_val h2, dg_val h3]
    rw [if_pos ⟨trivial, trivial, h4⟩]
    congr 1
    omega
theorem num_small {s : Txt} {n : Nat} (h : smallN s = some n) : n ≤ 99 ∧ s = numN n := by
  unfold smallN at h
  split at h
  · rename_i a
    split at h
    · rename_i ha
      have hd := dg_of ha
      simp only [isDg, Bool.and_eq_true, decide_eq_true_eq] at ha
      obtain rfl := Option.some.inj h
      refine ⟨by omega, ?_⟩
      rw [numN_small (by omega), ← hd]
    · cases h
  · rename_i a b
    split at h
    · rename_i hab
      obtain ⟨ha, hb, h0⟩ := hab
      have hda := dg_of ha
      have hdb := dg_of hb
      simp only [isDg, Bool.and_eq_true, decide_eq_true_eq] at ha hb
      have hn : a.toNat ≠ 48 := fun e => h0 (UInt8.toNat_inj.1 (by rw [e]; rfl))
      obtain rfl := Option.some.inj h
      refine ⟨by omega, ?_⟩
      rw [numN_two (by omega) (by omega)]
      have e1 : (10 * (a.toNat - 48) + (b.toNat - 48)) / 10 = a.toNat - 48 := by omega
      have e2 : (10 * (a.toNat - 48) + (b.toNat - 48)) % 10 = b.toNat - 48 := by omega
      rw [e1, e2, ← hda, ← hdb]
    · cases h
  · cases h
theorem small_iff {s : Txt} {n : Nat} : smallN s = some n ↔ n ≤ 99 ∧ s = numN n := ⟨num_small, fun ⟨h, e⟩ => e ▸ small_num h⟩
end Go.Hm
end
section
namespace Go.Hm
open Go Go.RowKit
def tIn : Txt := [105, 110]
def tFun : Txt := [102, 117, 110]
def tClass : Txt := [99, 108, 97, 115, 115]
def stmtW : List Txt := [[110, 117, 109], [99, 111, 112, 121], [97, 100, 100], [100, 101, 102], tClass, [99, 97, 108, 108], [103, 101, 116], [112, 114, 105, 110, 116], [114, 101, 116, 117, 114, 110], [103, 108, 111, 98, 97, 108], [110, 111, 110, 108, 111, 99, 97, 108], [100, 101, 108]]
def numsOf (s : Stm) : List Int :=
  if s.kind = 0 ∨ s.kind = 1 ∨ s.kind = 3 ∨ s.kind = 4 then [s.to, s.a]
  else if s.kind = 2 ∨ s.kind = 6 then [s.to, s.a, s.b]
  else if s.kind = 5 then (if s.b = -1 then [s.to, s.a] else [s.to, s.a, s.b])
  else if s.kind = 7 ∨ s.kind = 8 then [s.a] else [s.to]
def wordsL (w : Txt) (ns : List Int) : Txt := w ++ ns.flatMap fun n => 32 :: numI n
def showS (s : Stm) : Txt := wordsL (stmtW.getD s.kind.toNat []) (numsOf s)
def showH (k : Blk) : Txt := if k.kind = 2 then wordsL tIn [k.parent] ++ 32 :: tClass else wordsL (wordsL tIn [k.parent] ++ 32 :: tFun) k.params
def blkLines (b : Nat) (k : Blk) : List Txt := (if b = 0 then [] else [showH k]) ++ k.body.map showS
def fmtLines (p : Prg) : List Txt := (p.mapIdx blkLines).flatten
def fmt (p : Prg) : Txt := linesL 10 (fmtLines p)
def readNs (ws : List Txt) : Option (List Nat) := ws.mapM smallN
def kindW (w : Txt) : Option Nat := stmtW.findIdx? (· == w)
def stmtOfN (kind : Nat) (ns : List Nat) : Option Stm :=
  match ns with
  | [x] => if kind = 7 ∨ kind = 8 then some ⟨kind, 0, x, 0⟩ else if 9 ≤ kind then some ⟨kind, x, 0, 0⟩ else none
  | [x, y] => if kind < 7 ∧ kind ≠ 2 ∧ kind ≠ 6 then some ⟨kind, x, y, if kind = 5 then -1 else 0⟩ else none
  | [x, y, z] => if kind = 2 ∨ kind = 6 ∨ kind = 5 then some ⟨kind, x, y, z⟩ else none
  | _ => none
def readS (line : Txt) : Option Stm := match splitL 32 line with
  | w :: ws => match kindW w, readNs ws with
    | some k, some ns => stmtOfN k ns
    | _, _ => none
  | [] => none
def readH (line : Txt) : Option Blk := match splitL 32 line with
  | i :: n :: f :: ws => if i = tIn then match smallN n with
      | some q => if f = tClass ∧ ws = [] then some ⟨2, q, [], []⟩ else if f = tFun then (readNs ws).map fun ns => ⟨1, q, ns.map fun (n : Nat) => (n : Int), []⟩ else none
      | none => none
    else none
  | _ => none
def putS (p : Prg) (s : Stm) : Prg := p.modify (p.length - 1) fun k => { k with body := k.body ++ [s] }
def addLine (p : Prg) (line : Txt) : Option Prg := match readH line with
  | some k => some (p ++ [k])
  | none => (readS line).map (putS p)
def parseL (ls : List Txt) (p : Prg) : Option Prg := match ls with
  | [] => some p
  | l :: ls => match addLine p l with
    | some q => parseL ls q
    | none => none
def prg0 : Prg := [⟨0, -1, [], []⟩]
def parseT (s : Txt) : Option Prg := match parseL (splitL 10 s).dropLast prg0 with
  | some p => if (splitL 10 s).getLast? = some [] ∧ progOk p = true then some p else none
  | none => none
section
variable {s : Stm} {k : Blk} {p q : Prg} {l w : Txt} {ns : List Int} {ks : List Nat} {ls ws : List Txt} {i n : Nat}
theorem numI_nat : numI (n : Int) = numN n := by
  unfold numI
  rw [if_neg (by omega)]
  rfl
theorem dig_not {c : UInt8} (h : c ∈ numI (n : Int)) : c ≠ 32 ∧ c ≠ 10 := by
  rw [numI_nat] at h
  have := numN_dig n c h
  constructor
  · rintro rfl
    exact absurd this.1 (by decide)
  · rintro rfl
    exact absurd this.1 (by decide)
theorem wordsL_join (w : Txt) (ns : List Int) : wordsL w ns = joinL 32 (w :: ns.map numI) := by
  unfold wordsL
  induction ns generalizing w with
  | nil => simp [joinL]
  | cons n ns ih =>
    have := ih (numI n)
    simp only [List.flatMap_cons, List.map_cons, joinL]
    rw [← this]
    simp
theorem joinL_app (h : ls ≠ []) : joinL 32 (ls ++ [w]) = joinL 32 ls ++ 32 :: w := by
  induction ls with
  | nil => exact absurd rfl h
  | cons v vs ih =>
    cases vs with
    | nil => rfl
    | cons u us =>
      have := ih (by simp)
      simp only [List.cons_append, joinL] at this ⊢
      rw [this]
      simp
theorem join_words (h : ls ≠ []) : wordsL (joinL 32 ls) ns = joinL 32 (ls ++ ns.map numI) := by
  induction ns generalizing ls with
  | nil => simp [wordsL]
  | cons n ns ih =>
    have := ih (ls := ls ++ [numI n]) (by simp)
    rw [joinL_app h] at this
    simp only [List.map_cons]
    rw [show ls ++ numI n :: ns.map numI = ls ++ [numI n] ++ ns.map numI from by simp, ← this]
    simp [wordsL]
theorem showH_join : showH k = joinL 32 (tIn :: numI k.parent :: (if k.kind = 2 then [tClass] else tFun :: k.params.map numI)) := by
  unfold showH
  split
  · rename_i h
    rw [wordsL_join, ← joinL_app (by simp)]
    rfl
  · rename_i h
    have e : wordsL tIn [k.parent] ++ 32 :: tFun = joinL 32 [tIn, numI k.parent, tFun] := by
      rw [wordsL_join, ← joinL_app (by simp)]
      rfl
    rw [e, join_words (by simp)]
    rfl
def Small (ns : List Int) : Prop := ∀ n ∈ ns, 0 ≤ n ∧ n ≤ 99
theorem small_map (h : Small ns) : readNs (ns.map numI) = some (ns.map Int.toNat) := by
  unfold readNs
  induction ns with
  | nil => rfl
  | cons n ns ih =>
    have h1 := h n (List.mem_cons_self ..)
    obtain ⟨m, rfl⟩ : ∃ m : Nat, n = m := ⟨n.toNat, by omega⟩
    have h2 : smallN (numI (m : Int)) = some m := by rw [numI_nat]; exact small_num (by omega)
    have h3 := ih fun x hx => h x (List.mem_cons_of_mem _ hx)
    simp only [List.map_cons, List.mapM_cons, h2, h3]
    rfl
theorem map_small (h : readNs ws = some ks) : ws = (ks.map fun (n : Nat) => (n : Int)).map numI ∧ Small (ks.map fun (n : Nat) => (n : Int)) := by
  unfold readNs at h
  induction ws generalizing ks with
  | nil =>
    simp only [List.mapM_nil] at h
    obtain rfl := Option.some.inj h
    exact ⟨rfl, by simp [Small]⟩
  | cons w ws ih =>
    simp only [List.mapM_cons] at h
    cases h1 : smallN w with
    | none => rw [h1] at h; cases h
    | some n =>
      cases h2 : ws.mapM smallN with
      | none => rw [h1, h2] at h; cases h
      | some ms =>
        rw [h1, h2] at h
        obtain rfl := Option.some.inj h
        obtain ⟨e1, e2⟩ := num_small h1
        obtain ⟨f1, f2⟩ := ih h2
        refine ⟨?_, ?_⟩
        · simp only [List.map_cons, numI_nat]
          rw [← e2]
          congr 1
        · intro x hx
          simp only [List.map_cons, List.mem_cons] at hx
          rcases hx with rfl | hx
          · omega
          · exact f2 x hx
theorem words_clean (hw : (32 : UInt8) ∉ w) (h : Small ns) : ∀ x ∈ w :: ns.map numI, (32 : UInt8) ∉ x := by
  intro x hx
  rcases List.mem_cons.1 hx with rfl | hx
  · exact hw
  · obtain ⟨n, hn, rfl⟩ := List.mem_map.1 hx
    have := h n hn
    obtain ⟨m, rfl⟩ : ∃ m : Nat, n = m := ⟨n.toNat, by omega⟩
    exact fun e => (dig_not e).1 rfl
theorem no_nl (hw : (10 : UInt8) ∉ w) (h : Small ns) : (10 : UInt8) ∉ wordsL w ns := by
  unfold wordsL
  simp only [List.mem_append, List.mem_flatMap, List.mem_cons, not_or, not_exists, not_and]
  refine ⟨hw, fun n hn => ⟨by decide, fun e => ?_⟩⟩
  have := h n hn
  obtain ⟨m, rfl⟩ : ∃ m : Nat, n = m := ⟨n.toNat, by omega⟩
  exact (dig_not e).2 rfl
theorem stmtW_mem {i : Nat} (h : i < 12) : ∀ c ∈ stmtW.getD i [], c ≠ 32 ∧ c ≠ 10 := by
  have : ∀ w ∈ stmtW, ∀ c ∈ w, c ≠ 32 ∧ c ≠ 10 := by decide
  rw [List.getD_eq_getElem?_getD, gE (by simpa [stmtW] using h)]
  exact this _ (List.getElem_mem _)
theorem kindW_at : ∀ i, i < 12 → kindW (stmtW.getD i []) = some i := by decide
theorem kindW_of {w : Txt} (h : kindW w = some i) : i < 12 ∧ w = stmtW.getD i [] := by
  unfold kindW at h
  obtain ⟨h1, h2, _⟩ := List.findIdx?_eq_some_iff_getElem.1 h
  refine ⟨h1, ?_⟩
  rw [List.getD_eq_getElem?_getD, gE h1]
  exact (eq_of_beq h2).symm
theorem word_clean {i : Nat} (h : i < 12) : (32 : UInt8) ∉ stmtW.getD i [] ∧ (10 : UInt8) ∉ stmtW.getD i [] := ⟨fun e => (stmtW_mem h 32 e).1 rfl, fun e => (stmtW_mem h 10 e).2 rfl⟩
structure TxtS (s : Stm) : Prop where
  kind : 0 ≤ s.kind ∧ s.kind ≤ 11
  nums : Small (numsOf s)
  to : s.kind = 7 ∨ s.kind = 8 → s.to = 0 ∧ s.b = 0
  b : s.kind = 0 ∨ s.kind = 1 ∨ s.kind = 3 ∨ s.kind = 4 → s.b = 0
  a : 9 ≤ s.kind → s.a = 0 ∧ s.b = 0
theorem split_showS (h : TxtS s) : splitL 32 (showS s) = stmtW.getD s.kind.toNat [] :: (numsOf s).map numI := by
  have hk := h.kind
  unfold showS
  rw [wordsL_join]
  exact split_join (by simp) (words_clean (word_clean (by omega)).1 h.nums)
theorem readS_show (h : TxtS s) : readS (showS s) = some s := by
  have hk := h.kind
  unfold readS
  rw [split_showS h]
  simp only [kindW_at s.kind.toNat (by omega), small_map h.nums]
  have hn := h.nums
  have h1 := h.to
  have h2 := h.b
  have h3 := h.a
  obtain ⟨kd, to, a, b⟩ := s
  obtain ⟨K, rfl⟩ : ∃ K : Nat, kd = K := ⟨kd.toNat, by simp only at hk; omega⟩
  simp only at hk h1 h2 h3 ⊢
  have hK : K ≤ 11 := by omega
  simp only [Int.toNat_natCast]
  have key : ∀ x : Int, x ∈ numsOf ⟨K, to, a, b⟩ → (x.toNat : Int) = x := fun x hx => by
    have := hn x hx
    omega
  unfold numsOf at key ⊢
  simp only at key ⊢
  rcases (by omega : K = 0 ∨ K = 1 ∨ K = 2 ∨ K = 3 ∨ K = 4 ∨ K = 5 ∨ K = 6 ∨ K = 7 ∨ K = 8 ∨ K = 9 ∨ K = 10 ∨ K = 11) with rfl | rfl | rfl | rfl | rfl | rfl | rfl | rfl | rfl | rfl | rfl | rfl
  all_goals simp at key h1 h2 h3 ⊢
  all_goals try split at key
  all_goals try simp_all [stmtOfN]
end
section
variable {s : Stm} {k : Blk} {p q : Prg} {l w : Txt} {ns : List Int} {ls ws rest : List Txt} {i n : Nat} {body : List Stm} {ks : List Blk}
theorem word_in : ∀ i, i < 12 → stmtW.getD i [] ≠ tIn := by decide
theorem readH_showS (h : TxtS s) : readH (showS s) = none := by
  have hk := h.kind
  unfold readH
  rw [split_showS h]
  split
  · rename_i a b c d e
    injection e with e1 e2
    rw [if_neg (by rw [← e1]; exact word_in _ (by omega))]
  · rfl
structure TxtH (k : Blk) : Prop where
  kind : k.kind = 1 ∨ k.kind = 2
  parent : 0 ≤ k.parent ∧ k.parent ≤ 99
  params : Small k.params
  cls : k.kind = 2 → k.params = []
theorem tw_clean : ((32 : UInt8) ∉ tIn ∧ (32 : UInt8) ∉ tFun ∧ (32 : UInt8) ∉ tClass) ∧ (10 : UInt8) ∉ tIn ∧ (10 : UInt8) ∉ tFun ∧ (10 : UInt8) ∉ tClass := by decide
theorem numI_clean {x : Int} (h : 0 ≤ x) : (32 : UInt8) ∉ numI x ∧ (10 : UInt8) ∉ numI x := by
  obtain ⟨m, rfl⟩ : ∃ m : Nat, x = m := ⟨x.toNat, by omega⟩
  exact ⟨fun e => (dig_not e).1 rfl, fun e => (dig_not e).2 rfl⟩
theorem split_showH (h : TxtH k) : splitL 32 (showH k) = tIn :: numI k.parent :: (if k.kind = 2 then [tClass] else tFun :: k.params.map numI) := by
  rw [showH_join]
  refine split_join (by simp) fun w hw => ?_
  rcases List.mem_cons.1 hw with rfl | hw
  · exact tw_clean.1.1
  rcases List.mem_cons.1 hw with rfl | hw
  · exact (numI_clean h.parent.1).1
  split at hw
  · rw [List.mem_singleton] at hw
    subst hw
    exact tw_clean.1.2.2
  · exact words_clean tw_clean.1.2.1 h.params w hw
theorem readH_showH (h : TxtH k) : readH (showH k) = some { k with body := [] } := by
  have hp := h.parent
  obtain ⟨kd, par, ps, bd⟩ := k
  obtain ⟨m, rfl⟩ : ∃ m : Nat, par = m := ⟨par.toNat, by simp only at hp; omega⟩
  have h1 : smallN (numI (m : Int)) = some m := by rw [numI_nat]; exact small_num (by simp only at hp; omega)
  unfold readH
  rw [split_showH h]
  have hps := h.params
  have hc := h.cls
  simp only at hps hc hp
  rcases h.kind with hk | hk
  · simp only at hk
    subst hk
    have hne : tFun ≠ tClass := by decide
    have h2 := small_map hps
    have h3 : (ps.map Int.toNat).map (fun (n : Nat) => (n : Int)) = ps := by
      rw [List.map_map]
      conv => rhs; rw [← List.map_id ps]
      apply List.map_congr_left
      intro x hx
      have := hps x hx
      simp
      omega
    simp [h1, h2, hne, h3]
  · simp only at hk
    subst hk
    have := hc rfl
    subst this
    simp [h1]
end
end Go.Hm
end
section
namespace Go.Hm
open Go Go.RowKit
section
variable {s : Stm} {k k0 : Blk} {p q P : Prg} {l t : Txt} {ls rest : List Txt} {i n : Nat} {body : List Stm} {ks : List Blk}
def moreLines (ks : List Blk) : List Txt := ks.flatMap fun k => showH k :: k.body.map showS
theorem mapIdx_pos {j : Nat} (h : 0 < j) : ∀ {ks : List Blk}, (ks.mapIdx fun i k => blkLines (i + j) k).flatten = moreLines ks
  | [] => rfl
  | k :: ks => by
    have ih := mapIdx_pos (j := j + 1) (by omega) (ks := ks)
    rw [List.mapIdx_cons, List.flatten_cons]
    simp only [moreLines, List.flatMap_cons]
    have e : (fun (i : Nat) (k : Blk) => blkLines (i + 1 + j) k) = fun i k => blkLines (i + (j + 1)) k := by
      funext i k
      congr 1
      omega
    rw [e, ih]
    simp only [blkLines, Nat.zero_add]
    rw [if_neg (by omega)]
    simp [moreLines]
theorem fmtLines_cons : fmtLines (k0 :: ks) = k0.body.map showS ++ moreLines ks := by
  unfold fmtLines
  rw [List.mapIdx_cons, List.flatten_cons, mapIdx_pos (by omega : 0 < 1)]
  simp [blkLines]
theorem putS_app : putS (P ++ [k]) s = P ++ [{ k with body := k.body ++ [s] }] := by
  unfold putS
  apply List.ext_getElem?
  intro j
  rw [List.getElem?_modify]
  simp only [List.length_append, List.length_singleton, Nat.add_sub_cancel]
  by_cases h : P.length = j
  · subst h
    simp
  · by_cases h2 : j < P.length
    · simp [h, List.getElem?_append_left h2]
    · have h3 : P.length + 1 ≤ j := by omega
      rw [List.getElem?_eq_none (by simp; omega), List.getElem?_eq_none (by simp; omega)]
      simp
theorem parse_put (h : ∀ s ∈ body, TxtS s) : parseL (body.map showS ++ rest) (P ++ [k]) = parseL rest (P ++ [{ k with body := k.body ++ body }]) := by
  induction body generalizing k with
  | nil => simp
  | cons s body ih =>
    have hs := h s (List.mem_cons_self ..)
    simp only [List.map_cons, List.cons_append]
    rw [parseL]
    simp only [addLine, readH_showS hs, readS_show hs, Option.map_some, putS_app]
    rw [ih fun x hx => h x (List.mem_cons_of_mem _ hx)]
    simp
theorem parse_more (h : ∀ k ∈ ks, TxtH k ∧ ∀ s ∈ k.body, TxtS s) : parseL (moreLines ks) P = some (P ++ ks) := by
  induction ks generalizing P with
  | nil => simp [moreLines, parseL]
  | cons k ks ih =>
    obtain ⟨h1, h2⟩ := h k (List.mem_cons_self ..)
    have e : moreLines (k :: ks) = showH k :: (k.body.map showS ++ moreLines ks) := by simp [moreLines]
    rw [e, parseL]
    simp only [addLine, readH_showH h1]
    rw [parse_put h2, ih fun x hx => h x (List.mem_cons_of_mem _ hx)]
    simp
structure TxtP (p : Prg) : Prop where
  head : ∃ b ks, p = ⟨0, -1, [], b⟩ :: ks
  heads : ∀ (i : Nat) k, p[i]? = some k → 0 < i → TxtH k
  stms : ∀ k ∈ p, ∀ s ∈ k.body, TxtS s
theorem TxtP.tail (h : TxtP p) (hk : p = k0 :: ks) : ∀ k ∈ ks, TxtH k ∧ ∀ s ∈ k.body, TxtS s := by
  subst hk
  intro k hm
  obtain ⟨i, hi⟩ := List.getElem?_of_mem hm
  exact ⟨h.heads (i + 1) k (by simpa using hi) (by omega), h.stms k (List.mem_cons_of_mem _ hm)⟩
theorem parse_fmt (h : TxtP p) : parseL (fmtLines p) prg0 = some p := by
  obtain ⟨b, ks, rfl⟩ := h.head
  have h2 := h.tail rfl
  have h3 := h.stms _ (List.mem_cons_self ..)
  rw [fmtLines_cons]
  have e : prg0 = [] ++ [⟨0, -1, [], []⟩] := rfl
  rw [e, parse_put h3, parse_more h2]
  simp
theorem show_clean (h : TxtS s) : (10 : UInt8) ∉ showS s := no_nl (word_clean (by have := h.kind; omega)).2 h.nums
theorem head_clean (h : TxtH k) : (10 : UInt8) ∉ showH k := by
  have h1 : Small [k.parent] := by
    intro x hx
    rw [List.mem_singleton] at hx
    subst hx
    exact h.parent
  have h2 := no_nl tw_clean.2.1 h1
  unfold showH
  split
  · simp only [List.mem_append, List.mem_cons, not_or]
    exact ⟨h2, by decide, tw_clean.2.2.2⟩
  · refine no_nl ?_ h.params
    simp only [List.mem_append, List.mem_cons, not_or]
    exact ⟨h2, by decide, tw_clean.2.2.1⟩
theorem lines_clean (h : TxtP p) : ∀ w ∈ fmtLines p, (10 : UInt8) ∉ w := by
  obtain ⟨b, ks, rfl⟩ := h.head
  have h2 := h.tail rfl
  have h3 := h.stms _ (List.mem_cons_self ..)
  intro w hw
  rw [fmtLines_cons] at hw
  rcases List.mem_append.1 hw with hw | hw
  · obtain ⟨s, hs, rfl⟩ := List.mem_map.1 hw
    exact show_clean (h3 s hs)
  · simp only [moreLines, List.mem_flatMap] at hw
    obtain ⟨k, hk, hw⟩ := hw
    rcases List.mem_cons.1 hw with rfl | hw
    · exact head_clean (h2 k hk).1
    · obtain ⟨s, hs, rfl⟩ := List.mem_map.1 hw
      exact show_clean ((h2 k hk).2 s hs)
theorem read_back (h : TxtP p) (hp : progOk p = true) : parseT (fmt p) = some p := by
  unfold parseT fmt
  rw [split_lines (lines_clean h)]
  simp [parse_fmt h, hp]
theorem fmt_count (h : TxtP p) : (fmt p).count 10 = (fmtLines p).length := lines_count (lines_clean h)
end
section
variable {s : Stm} {k : Blk} {p q : Prg} {l t w : Txt} {ls ws vs : List Txt} {i n K : Nat}
theorem TxtS.of (hp : ShapeP p) (hk : p[i]? = some k) (hs : s ∈ k.body) : TxtS s := by
  have h := hp.stm i k hk s hs
  have hkd := StmOk.kind h
  have hl := hp.len
  obtain ⟨kd, to, a, b⟩ := s
  obtain ⟨K, rfl⟩ : ∃ K : Nat, kd = K := ⟨kd.toNat, by simp only at hkd; omega⟩
  simp only at hkd
  by_cases e : b = -1
  all_goals
    rcases (by omega : K = 0 ∨ K = 1 ∨ K = 2 ∨ K = 3 ∨ K = 4 ∨ K = 5 ∨ K = 6 ∨ K = 7 ∨ K = 8 ∨ K = 9 ∨ K = 10 ∨ K = 11) with rfl | rfl | rfl | rfl | rfl | rfl | rfl | rfl | rfl | rfl | rfl | rfl
    all_goals simp [StmOk, Stm.reads, madeAs, e] at h
    all_goals refine ⟨by simp, fun x hx => ?_, fun _ => ?_, fun _ => ?_, fun _ => ?_⟩
    all_goals try simp [numsOf, e] at hx
    all_goals first | (simp_all; done) | (simp at *; omega)
theorem TxtP.of (hp : ValP p) : TxtP p := by
  have hs := hp.sh
  have hl := hs.len
  refine ⟨?_, fun i k hk hi => ?_, fun k hk s hs' => ?_⟩
  · cases p with
    | nil => simp at hl
    | cons k0 ks =>
      have h0 := hs.head 0 k0 rfl
      simp only [HeadOk, if_true] at h0
      obtain ⟨kd, par, ps, bd⟩ := k0
      obtain ⟨h1, h2, h3⟩ := h0
      simp only at h1 h2 h3
      subst h1 h2
      obtain rfl := List.eq_nil_of_length_eq_zero h3
      exact ⟨bd, ks, rfl⟩
  · have h0 := hs.head i k hk
    have hil := (gS hk).1
    unfold HeadOk at h0
    rw [if_neg (by omega)] at h0
    obtain ⟨h1, h2, h3, h4, h5⟩ := h0
    refine ⟨by omega, by omega, fun x hx => ?_, fun e => ?_⟩
    · have := (hs.names k (List.mem_of_getElem? hk)).params x hx
      omega
    · rcases h5 with h5 | ⟨_, h5, _⟩
      · exact List.eq_nil_of_length_eq_zero h5
      · omega
  · obtain ⟨i, hi⟩ := List.getElem?_of_mem hk
    exact .of hs hi hs'
def rNum : List Txt → Option (Nat × List Txt)
  | w :: ws => (smallN w).map fun n => (n, ws)
  | [] => none
def rHead (ws : List Txt) : Option (Blk × List Txt) := match rNum ws with
  | some (q, f :: ws) => if f = tFun then (match ws with
      | [] => some (⟨1, q, [], []⟩, [])
      | x :: ws => (smallN x).map fun (n : Nat) => (⟨1, q, [(n : Int)], []⟩, ws))
    else if f = tClass then some (⟨2, q, [], []⟩, ws) else none
  | _ => none
def rStm (w : Txt) (ws : List Txt) : Option (Stm × List Txt) := match kindW w with
  | none => none
  | some K => match rNum ws with
    | none => none
    | some (x, ws) =>
      if K = 7 ∨ K = 8 then some (⟨K, 0, x, 0⟩, ws)
      else if K = 0 ∨ K = 1 ∨ K = 3 ∨ K = 4 then (rNum ws).map fun (y, ws) => (⟨K, x, y, 0⟩, ws)
      else if K = 2 ∨ K = 6 then (match rNum ws with
        | some (y, ws) => (rNum ws).map fun (z, ws) => (⟨K, x, y, z⟩, ws)
        | none => none)
      else if K = 5 then (match rNum ws with
        | some (y, []) => some (⟨K, x, y, -1⟩, [])
        | some (y, ws) => (rNum ws).map fun (z, ws) => (⟨K, x, y, z⟩, ws)
        | none => none)
      else some (⟨K, x, 0, 0⟩, ws)
def lineI (p : Prg) (line : Txt) : Option Prg := match splitL 32 line with
  | w :: ws => if w = tIn then (match rHead ws with
      | some (k, []) => some (p ++ [k])
      | _ => none)
    else match rStm w ws with
      | some (s, []) => some (putS p s)
      | _ => none
  | [] => none
def parseI (ls : List Txt) (p : Prg) : Option Prg := match ls with
  | [] => some p
  | l :: ls => match lineI p l with
    | some q => parseI ls q
    | none => none
theorem readNs_cons {w : Txt} {ws : List Txt} : readNs (w :: ws) = match smallN w, readNs ws with | some n, some ns => some (n :: ns) | _, _ => none := by
  unfold readNs
  simp only [List.mapM_cons]
  cases smallN w with
  | none => rfl
  | some n => cases ws.mapM smallN <;> rfl
theorem readNs_nil : readNs [] = some [] := rfl
theorem rStm_eq (hK : K < 12) : (match rStm (stmtW.getD K []) ws with | some (s, []) => some s | _ => none) = match readNs ws with | some ns => stmtOfN K ns | none => none := by
  unfold rStm
  rw [kindW_at K hK]
  rcases ws with _ | ⟨a, _ | ⟨b, _ | ⟨c, _ | ⟨d, ws⟩⟩⟩⟩
  · simp [rNum, readNs_nil, stmtOfN]
  · cases ha : smallN a <;> simp only [readNs_cons, readNs_nil, ha, rNum, Option.map_some, Option.map_none]
    rcases (by omega : K = 0 ∨ K = 1 ∨ K = 2 ∨ K = 3 ∨ K = 4 ∨ K = 5 ∨ K = 6 ∨ K = 7 ∨ K = 8 ∨ K = 9 ∨ K = 10 ∨ K = 11) with rfl | rfl | rfl | rfl | rfl | rfl | rfl | rfl | rfl | rfl | rfl | rfl <;> simp [stmtOfN]
  · cases ha : smallN a <;> cases hb : smallN b <;> simp only [readNs_cons, readNs_nil, ha, hb, rNum, Option.map_some, Option.map_none]
    all_goals rcases (by omega : K = 0 ∨ K = 1 ∨ K = 2 ∨ K = 3 ∨ K = 4 ∨ K = 5 ∨ K = 6 ∨ K = 7 ∨ K = 8 ∨ K = 9 ∨ K = 10 ∨ K = 11) with rfl | rfl | rfl | rfl | rfl | rfl | rfl | rfl | rfl | rfl | rfl | rfl <;> simp [stmtOfN]
  · cases ha : smallN a <;> cases hb : smallN b <;> cases hc : smallN c <;> simp only [readNs_cons, readNs_nil, ha, hb, hc, rNum, Option.map_some, Option.map_none]
    all_goals rcases (by omega : K = 0 ∨ K = 1 ∨ K = 2 ∨ K = 3 ∨ K = 4 ∨ K = 5 ∨ K = 6 ∨ K = 7 ∨ K = 8 ∨ K = 9 ∨ K = 10 ∨ K = 11) with rfl | rfl | rfl | rfl | rfl | rfl | rfl | rfl | rfl | rfl | rfl | rfl <;> simp [stmtOfN]
  · have hn : ∀ ns, readNs (a :: b :: c :: d :: ws) = some ns → stmtOfN K ns = none := by
      intro ns h
      have : ns.length = (a :: b :: c :: d :: ws).length := by
        rw [(map_small h).1]; simp
      rcases ns with _ | ⟨x, _ | ⟨y, _ | ⟨z, _ | ⟨u, ns⟩⟩⟩⟩ <;> first | rfl | (simp at this)
    have hr : (match readNs (a :: b :: c :: d :: ws) with | some ns => stmtOfN K ns | none => none) = none := by
      cases e : readNs (a :: b :: c :: d :: ws) with
      | none => rfl
      | some ns => exact hn ns e
    rw [hr]
    cases ha : smallN a <;> cases hb : smallN b <;> cases hc : smallN c <;> simp only [ha, hb, hc, rNum, Option.map_some, Option.map_none]
    all_goals rcases (by omega : K = 0 ∨ K = 1 ∨ K = 2 ∨ K = 3 ∨ K = 4 ∨ K = 5 ∨ K = 6 ∨ K = 7 ∨ K = 8 ∨ K = 9 ∨ K = 10 ∨ K = 11) with rfl | rfl | rfl | rfl | rfl | rfl | rfl | rfl | rfl | rfl | rfl | rfl <;> simp
end
end Go.Hm
end
