/-
  Own texts, joined by mkclaim.py: Hm138, Hm139, Hm140, Hm141, Hm142, Hm143, Hm144, Hm145, Hm146, Hm147.
-/
import Derived.Test.YtmaoicgfcngciaaGreatDoorY13
import Derived.Shelf.Strconv.Itoa3
import Derived.Shelf.Strings.Split
import Derived.WalkSmall
import Derived.Test.YtmaoicgfcngciaaGreatDoorY12
import Derived.Recover
set_option linter.unusedSimpArgs false
set_option linter.unusedVariables false
set_option maxRecDepth 100000
set_option maxHeartbeats 4000000

section
namespace Go.Hm
open Go Go.RowKit Go.Proofs Go.Shelf
structure KeptB (w w' : World) (b : Nat) : Prop where
  os : w'.os = w.os
  tape : w'.tape = w.tape
  output : w'.output = w.output
  size : w.heap.size ≤ w'.heap.size
  keep : ∀ k, k < w.heap.size → k ≠ b → w'.heap[k]? = w.heap[k]?
theorem kept_freeze {w : World} {b n : Nat} : KeptB w (w.drew.freeze ⟨b, 0, none⟩ n) b := by
  unfold World.freeze
  split
  · exact ⟨rfl, rfl, rfl, Nat.le_refl _, fun _ _ _ => rfl⟩
  · refine ⟨rfl, rfl, rfl, by simp, fun k _ hk => ?_⟩
    simp only [Array.getElem?_modify]
    rw [if_neg (fun e => hk e.symm)]
    rfl
section
variable {P : Program} {ρ : Ren}
set_option maxHeartbeats 1000000 in
set_option maxRecDepth 100000 in
theorem str_raw (L : Lays.n169 P ρ) (X : Builder.Extra P ρ) (b : Nat) (p v : Value) (l : Txt) (w : World) (hbk : w.heap[b]? = some (.cells #[p, v] (ρ.t 72) (0, 0)))
    (hown : w.ownsRow 0 (ρ.t 5) 1 v l.length (bcells l)) (h0 : l ≠ []) :
    Calls P (ρ.f 169) #[.pointer (some ⟨b, 0, none⟩)] w fun e w' => e = .returned (.string (bt l)) ∧ ∃ g, v.ownBlock = some g ∧ KeptB w w' g := by
  have hl0 : l.length ≠ 0 := by simpa using h0
  obtain ⟨g, cap, cur, rfl, hbg, hg, hnc, hcm, hcs, htake⟩ : ∃ g cap cur, v = .slice (some ⟨g, 0, none⟩) l.length cap ∧ 0 ≤ g ∧ w.heap[g]? = some (.cells cur (ρ.t 5) (0, 0)) ∧ l.length ≤ cap ∧ cap ≤ maxLen ∧ cur.size = cap * 1 ∧ cur.toList.take (l.length * 1) = bcells l := by
    rcases hown.2 with ⟨_, hz⟩ | ⟨g, cap, cur, hv, r⟩
    · exact absurd hz hl0
    · exact ⟨g, cap, cur, hv, r⟩
  have c1 : w.drew.cell? ⟨b, 1, none⟩ = some (.slice (some ⟨g, 0, none⟩) l.length cap) := by
    have : w.drew.heap[b]? = some (.cells #[p, .slice (some ⟨g, 0, none⟩) l.length cap] (ρ.t 72) (0, 0)) := hbk
    rw [Lib.cell_of_heap this]; rfl
  have hSD : (Builtin.unsafeSliceData_ #[(ρ.t 37)] (ρ.t 127) #[.slice (some ⟨g, 0, none⟩) l.length cap]).run P w.drew = .ok (.pointer (some ⟨g, 0, none⟩)) w.drew :=
    Lib.run_unsafeSliceData_row _ _ _ _ _ _ (by omega)
  have hUS : (Builtin.unsafeString_ #[(ρ.t 127), (ρ.t 3)] (ρ.t 9) #[.pointer (some ⟨g, 0, none⟩), .int .i64 l.length]).run P w.drew = .ok (.string ⟨l.toArray⟩) (w.drew.freeze ⟨g, 0, none⟩ l.length) := by
    refine Lib.run_unsafeString_row w.drew (ρ.t 127) (ρ.t 3) (ρ.t 9) (ρ.t 5) L.t127 X.cellsByte g cur.size (by have hg' : w.drew.heap[g]? = some (.cells cur (ρ.t 5) (0, 0)) := hg; simp [World.shape?, hg']) l h0 (by omega) (by unfold maxLen at hcm; omega) ?_
    intro j x hx
    have := hown.cells (g := g) rfl j (.int .u8 x.toNat) (by simp [bcells, hx])
    exact this
  have mixed := L.mixed
  have t72 := L.t72; have a72 := L.a72; have z72 := L.z72; have v72 := L.v72; have u72 := run_underlying L.t72
  have t70 := L.t70; have a70 := L.a70; have z70 := L.z70; have v70 := L.v70; have u70 := run_underlying L.t70
  have t37 := L.t37; have a37 := L.a37; have z37 := L.z37; have v37 := L.v37; have u37 := run_underlying L.t37
  have t127 := L.t127; have a127 := L.a127; have z127 := L.z127; have v127 := L.v127; have u127 := run_underlying L.t127
  have t3 := L.t3; have a3 := L.a3; have z3 := L.z3; have v3 := L.v3; have u3 := run_underlying L.t3
  have t9 := L.t9; have a9 := L.a9; have z9 := L.z9; have v9 := L.v9; have u9 := run_underlying L.t9
  have t5 := X.t5; have a5 := X.a5; have z5 := X.z5; have v5 := X.v5; have u5 := run_underlying X.t5
  go_enter L.f169, Body.n169_ntmps ρ
  go_wp2
  go_region_o
  all_goals (go_wp2; go_ret; exact ⟨rfl, g, rfl, kept_freeze⟩)
set_option maxHeartbeats 1000000 in
theorem str_fn (L : Lays.n169 P ρ) (X : Builder.Extra P ρ) (gl : Nat → Option (List AV)) (V : Nm) (l : Txt) (H : Nm → Option AO) (hH : BldAt H V (ρ.t 72) (ρ.t 5) l) :
    FnE P gl (ρ.f 169) (Nm.under V) [.pt V 0] H (fun _ y H' => y = tx l ∧ H' = noH) noE := by
  refine ⟨⟨_, L.f169, by kernel_rfl, by kernel_rfl⟩, fun root C w g args hr hru hHD hinv hgl hsz hargs => ?_⟩
  obtain ⟨a0, rfl⟩ : ∃ a0, args = #[a0] := by
    rcases args with ⟨_ | ⟨a0, _ | ⟨a1, tl⟩⟩⟩
    · simp at hsz
    · exact ⟨a0, rfl⟩
    · simp at hsz
  have r0 := hargs 0 a0 (.pt V 0) rfl rfl
  cases r0 with
  | pt _ _ b hk =>
  obtain ⟨p, v, c1, hpp, ho, hob, hVn, hκ⟩ := bld_raw hH hinv.obj hk
  have fin : ∀ w' : World, w'.os = w.os → w'.tape = w.tape → w'.output = w.output → w.heap.size ≤ w'.heap.size → (∀ k, k < w.heap.size → v.ownBlock ≠ some k → w'.heap[k]? = w.heap[k]?) →
      ∃ C' g' H' x, After (ownH g H) C w g (Nm.under V) root H H' C' g' w' ∧ RV g' w' (.string (bt l)) x ∧ x = tx l ∧ H' = noH := by
    intro w' q1 q2 q3 q4 q5
    refine ⟨C, g, noH, tx l, ⟨fun _ h => h, fun _ h => .inl h, ⟨q1, q2, q3, q4, ?_, hinv.hC, ?_, fun _ _ e => (by cases e), fun _ _ _ e => (by cases e), fun _ _ _ _ _ e => (by cases e)⟩, fun _ e => absurd rfl e, fun _ _ _ => ⟨rfl, rfl⟩, fun _ _ _ _ => ⟨rfl, rfl⟩⟩, .sc _, rfl, rfl⟩
    · intro k hk2 hno
      refine q5 k hk2 fun e => ?_
      obtain ⟨o', e1, e2⟩ := hob _ e
      exact hno ⟨.c V 0 1, by rw [e1]; simp, e2⟩
    · intro y hy
      exact Nat.lt_of_lt_of_le (hinv.clt y hy) q4
  rcases hH with ⟨rfl, hHV⟩ | ⟨h0, hHV, hHB⟩
  · have hv : v = .slice none 0 0 := by
      have o0 := hinv.obj V _ hHV
      simp only [OAt, hk] at o0
      obtain ⟨⟨cur, d1, d2, d3, d4, d5, d6, d7⟩, _⟩ := o0
      rw [d1] at c1
      injection c1 with c1
      injection c1 with c1 _ _
      have := (d7 0 _ rfl 1 _ rfl).sc_eq
      rw [c1] at this
      exact this
    subst hv
    refine (Any.Builder_String_nil L X w.heap.size b p w c1).mono fun e w' he => ?_
    obtain ⟨rfl, hb⟩ := he
    exact fin w' hb.os hb.tape hb.output hb.size fun k hk2 _ => hb.block k hk2
  · refine (str_raw L X b p v l w c1 ho h0).mono fun e w' he => ?_
    obtain ⟨rfl, x, hx, hW⟩ := he
    exact fin w' hW.os hW.tape hW.output hW.size fun k hk2 hne => hW.keep k hk2 fun e => hne (by rw [e]; exact hx)
end
end Go.Hm
end
section
namespace Go.Hm
open Go Go.RowKit
section
variable {P : Program} {own : Nat → Prop} {C : Nat → Prop} {w0 : World} {g : Gh} {st : St} {a : Go.Act} {w : World}
def bldSt (T : TypeId) (d : Nat) (st : St) : St :=
  ((st.kill (.s d)).setO (.s d) (.trow T 2 true [[.sc (.pointer none), .sc (.slice none 0 0)]])).put (some d) (.pt (.s d) 0)
theorem allocB_sound {o : Oper} {T : TypeId} {d : Nat} (h : Rg P own C w0 g st a w) (ho : o.op = .alloc T) (hd : o.dst = some d) (hn : d < st.n) (hq : zvals P T = some [.sc (.pointer none), .sc (.slice none 0 0)]) :
    Does P o a w fun a' w' => Rel P own C w0 g (bldSt T d st) a' w' := by
  obtain ⟨i, z, q1, q2, q3, q4, q5⟩ := zvals_spec hq
  have hz : z.cells = #[.pointer none, .slice none 0 0] := by
    have h2 : z.cells.toList = [.pointer none, .slice none 0 0] := by
      rcases hl : z.cells.toList with _ | ⟨x, _ | ⟨y, _ | ⟨u, tl⟩⟩⟩ <;> rw [hl] at q4 <;> simp at q4
      rw [q4.1, q4.2]
    apply Array.ext'
    exact h2
  refine .inl ⟨.pointer (some ⟨w.heap.size, 0, none⟩), w.alloc (.cells z.cells T), ?_, ?_⟩
  · simp [execOp, ho, Instr.alloc, zeroValue, typeInfo, q1, q2, newVar, newRow]
  · rw [hd, hz]
    have hm := h.made (.s d) (.trow T 2 true [[.sc (.pointer none), .sc (.slice none 0 0)]]) w.heap.size 1 (w.alloc (.cells #[.pointer none, .slice none 0 0] T)) [] (fun p hp => by cases hp) (fun _ => false) rfl rfl rfl (by simp) (.inl (Nat.le_refl _)) (by simp) (fun b' _ hb' => alloc_old _ hb') (by
      simp only [OAt, (fresh_self (g := g) (.s d) (some w.heap.size) 1).1, (fresh_self (g := g) (.s d) (some w.heap.size) 1).2]
      refine ⟨⟨_, heap_alloc_new w _, by simp, by decide, by simp, by simp, ?_, ?_⟩, fun _ => rfl, fun e => (by cases e)⟩
      · intro j hj
        match j, hj with
        | 0, _ => rfl
        | 1, _ => rfl
      · intro i row hrow j x hx
        match i, hrow with
        | 0, hrow =>
          obtain rfl := Option.some.inj hrow
          match j, hx with
          | 0, hx => obtain rfl := Option.some.inj hx; exact .sc _
          | 1, hx => obtain rfl := Option.some.inj hx; exact .sc _)
    have ek : (st.nm (kl (.s d)) (fun m => if (fun _ => false : Nm → Bool) m then none else hkl (.s d) st.hp m)) = st.kill (.s d) := by simp [St.kill]
    rw [ek] at hm
    have hp := hm.put (d := some d) (v := .pointer (some ⟨w.heap.size, 0, none⟩)) (x := .pt (.s d) 0) (fun t et => by
      obtain rfl := Option.some.inj et
      exact hn) (.pt _ _ _ (fresh_self _ _ _).1)
    exact ⟨_, Ust.fresh rfl, hp⟩
end
section
variable {X : Ctx} {st : St} {K : St → Prop} {E : AV → St → Prop} {ty : TypeId} {pos : String} {aft : Array Edge} {g : Option (Nat × Bool)} {d : Nat} {T : TypeId}
theorem x_allocB (hd : d < X.n := by first | (simp; done) | fail) (hq : zvals X.P T = some [.sc (.pointer none), .sc (.slice none 0 0)]) (h : K (bldSt T d st)) : SemOp X ⟨some d, .alloc T, ty, pos, aft, g⟩ K E st :=
  .of_rel (fun _ _ _ _ e' h => allocB_sound h rfl rfl (e' ▸ hd) hq) ⟨rfl, rfl⟩ h
end
end Go.Hm
end
section
namespace Go.Hm
open Go Go.RowKit Go.Proofs Go.Shelf
theorem args_sc {g : Gh} {w : World} {args : Array Value} {vs : List Value} (hsz : args.size = (vs.map AV.sc).length) (h : ∀ (j : Nat) v x, args[j]? = some v → (vs.map AV.sc)[j]? = some x → RV g w v x) : args = vs.toArray := by
  apply Array.ext
  · simpa using hsz
  · intro j h1 h2
    have h3 : j < vs.length := by simpa using h2
    have := (h j args[j] (.sc vs[j]) (Array.getElem?_eq_getElem h1) (by simp [h3])).sc_eq
    simpa using this
theorem text_fn {P : Program} {gl : Nat → Option (List AV)} {f : FuncId} {vs : List Value} {t : Txt} (hc : Callable P f)
    (h : ∀ w : World, Calls P f vs.toArray w fun e w' => e = .returned (.string (bt t)) ∧ Below w.heap.size w w') : FnOk P gl f (vs.map .sc) (fun _ y _ => y = tx t) :=
  FnOk.of_raw hc fun w g args _ hsz hargs => by
    rw [args_sc hsz hargs]
    exact h w
section
variable {P : Program} {ρ : Ren}
theorem itoa_fn (L : Lays.n171 P ρ) (gl : Nat → Option (List AV)) (n : Nat) (hn : n < 100) : FnOk P gl (ρ.f 171) [iv n] (fun _ y _ => y = tx (numI n)) := by
  refine text_fn (vs := [.int .i64 n]) (t := numI n) ⟨_, L.f171, by kernel_rfl, by kernel_rfl⟩ fun w => ?_
  refine (Any.strconv_Itoa_small L n hn w).mono fun e w' he => ?_
  obtain ⟨rfl, rfl⟩ := he
  refine ⟨?_, Below.refl _ _⟩
  rw [numI_nat, numN_dec]
theorem split_fn (L : Lays.n146 P ρ) (hi9 : (P.info? (ρ.t 9)).map (fun i => (i.zero, i.size, i.bytes)) = some (some (.string ByteArray.empty), 1, 16)) (gl : Nat → Option (List AV)) (m : Int) (hg : gl (ρ.g 1) = some [.sc (.int .i64 m)]) (l : Txt) (c : UInt8) (hl : l.length < 4294967281) :
    FnOk P gl (ρ.f 146) [tx l, tx [c]] (fun _ y _ => y = xsl (splitL c l)) := by
  refine texts_ok (vs := [.string (bt l), .string (bt [c])]) (T := ρ.t 9) ⟨_, L.f146, by kernel_rfl, by kernel_rfl⟩ rfl fun w hw => ?_
  refine (Any.strings_Split L hi9 (bt l) (bt [c]) m w (by simpa using hl) (hw _ _ hg) (by simp)).mono fun e w' he => ?_
  obtain ⟨rfl, rfl⟩ := he
  rw [splitB_len, splitB_eq, List.map_map]
  exact ⟨rfl, rfl⟩
end
end Go.Hm
end
section
namespace Go.Hm
open Go Go.RowKit
section
variable {X : Ctx} {st : St} {K : St → Prop} {E : AV → St → Prop} {ty : TypeId} {pos : String} {aft : Array Edge} {g : Option (Nat × Bool)} {dst : Option Nat} {ts : Array TypeId} {x : Operand} {t : TypeId} {y : AV}
end
end Go.Hm
end
section
namespace Go.Hm
open Go Go.RowKit Go.ChangeShapes Go.WideShapes Go.Deep
def glV : List (Nat × List Value) → Nat → Option (List AV)
  | [], _ => none
  | (g, l) :: r, i => if i = g then some (l.map .sc) else glV r i
theorem glV_met {W : World} : ∀ {ts : List (Nat × List Value)}, (∀ t ∈ ts, 0 < t.2.length ∧ (∀ v ∈ t.2, v.oneCell' = true) ∧ ∀ i v, t.2[i]? = some v → W.cell? ⟨t.1, i, none⟩ = some v) →
    ∀ i row, glV ts i = some row → RV (g0 W) W (.pointer (some ⟨i, 0, none⟩)) (.el row 0) ∧ ∀ f : Nm → Option Nm, row.map (AV.tr f) = row
  | [], _, i, row, hr => by simp [glV] at hr
  | (g, l) :: r, h, i, row, hr => by
    simp only [glV] at hr
    split at hr
    · rename_i e
      subst e
      obtain ⟨hl, ho, hc⟩ := h (i, l) (by simp)
      simp only at hl ho hc
      obtain rfl := Option.some.inj hr
      have hat : ∀ j, j < (l.map AV.sc).length → ∃ v, l[j]? = some v ∧ (l.map AV.sc)[j]? = some (.sc v) ∧ W.cell? ⟨i, j, none⟩ = some v ∧ v.oneCell' = true := by
        intro j hj
        have hj' : j < l.length := by simpa using hj
        exact ⟨l[j], gE hj', by simp [hj'], hc j _ (gE hj'), ho _ (List.getElem_mem hj')⟩
      refine ⟨?_, fun f => ?_⟩
      · obtain ⟨k0, _, _, hc0, _⟩ := hat 0 (by simpa using hl)
        have := RV.el (g := g0 W) (w := W) i 0 0 (l.map AV.sc) (fun j => (W.cell? ⟨i, 0 + j, none⟩).getD undef) (cell_lt hc0).1 (fun j hj => ?_) (fun j hj => ?_) (fun j a ha => ?_)
        · simpa using this
        · obtain ⟨k, _, _, hc, _⟩ := hat j hj
          simp [hc]
        · obtain ⟨k, _, _, hc, h1⟩ := hat j hj
          simp [hc, h1]
        · have hj : j < (l.map AV.sc).length := (gS ha).1
          obtain ⟨k, _, h2, hc, _⟩ := hat j hj
          rw [h2] at ha
          cases ha
          simp only [Nat.zero_add, hc, Option.getD_some]
          exact .sc _
      · simp [AV.tr, Function.comp_def]
    · exact glV_met (ts := r) (fun t ht => h t (by simp [ht])) i row hr
abbrev vtx (l : List Txt) : List Value := l.map fun x => .string (bt x)
theorem rd_tableS {H : Type} {enc : TypeId × Value → H} {P : Program} {w : World} {base : Nat} {spare : Nat → Bool} {held : Bool} {m n g : Nat} {t e : TypeId} {s : String} {cs : Array Value} {l : List Txt} {x : List MemPlace}
    (ht : P.underlying t = some (.array n e)) (he : P.underlying e = some .string) (hc : P.cellsOf e = 1) (hg : P.globalNamed s = some g) (hv : w.var? P s = some cs)
    (h : DataW.trod enc P w base spare held m t cs.toList = some (.agg (l.map fun k => .lit (.string k)), x)) : ∀ i v, (vtx l)[i]? = some v → w.cell? ⟨g, i, none⟩ = some v := by
  intro i v hv'
  rw [List.getElem?_map] at hv'
  obtain ⟨k, hk, rfl⟩ := Option.map_eq_some_iff.1 hv'
  obtain ⟨xs, m1, rfl, hx, hlen, hn, hel⟩ := DataW.trod_array ht h
  simp only [Prod.mk.injEq, DataW.agg.injEq] at hx
  have hil : i < l.length := (gS hk).1
  have hxl : l.length = xs.length := by simpa using congrArg List.length hx.1
  obtain ⟨y, hy⟩ : ∃ y, xs[i]? = some y := ⟨_, gE (by omega)⟩
  have h0 := hel i (by omega)
  rw [hy, hc] at h0
  obtain ⟨k', e1, e2, _⟩ := DataW.trod_string he h0
  have h3 := congrArg (fun z => z[i]?) hx.1
  simp only [List.getElem?_map, hk, hy, Option.map_some, Option.some.injEq] at h3
  rw [e2] at h3
  have hkk : k'.data.toList = k := by simpa using h3.symm
  subst hkk
  rw [World.var?_cell hg hv i]
  have e3 := congrArg (fun z => z[0]?) e1
  simp [List.getElem?_take, List.getElem?_drop] at e3
  simpa using e3
end Go.Hm
end
section
namespace Go.Hm
open Go Go.RowKit
def wd (a : Go.Act) : Go.Act := { a with defers := [] }
def dfr (v : Value) : List Deferred := match v with
  | .func fn first cap => [{ target := .fn fn cap, args := first ++ #[] }]
  | _ => []
def DW (X : Ctx) (t : Nat) (st : St) (a : Go.Act) (w : World) : Prop := a.defers = dfr (a.tmps.getD t undef) ∧ Rw X st (wd a) w
def DWV (X : Ctx) (t : Nat) (st : St) (a : Go.Act) (w : World) (v : Value) (x : AV) : Prop := a.defers = dfr (a.tmps.getD t undef) ∧ RwV X st (wd a) w v x
section
variable {X : Ctx} {st : St} {a : Go.Act} {w : World} {K : St → Prop} {E : AV → St → Prop} {ds : List (Option Nat)} {o : Oper} {t : Nat}
theorem put_other {d : Option Nat} {v : Value} (h : d ≠ some t) : (a.put d v).tmps.getD t undef = a.tmps.getD t undef := by
  cases d with
  | none => rfl
  | some d =>
    simp only [Go.Act.put, Array.getD_eq_getD_getElem?]
    rw [Array.getElem?_setIfInBounds_ne (fun e => h (by rw [e]))]
theorem wd_put {d : Option Nat} {v : Value} : wd (a.put d v) = (wd a).put d v := by cases d <;> rfl
theorem put_defers {d : Option Nat} {v : Value} : (a.put d v).defers = a.defers := by cases d <;> rfl
theorem dw_next {d : Option Nat} {v : Value} {w' : World} (hd : a.defers = dfr (a.tmps.getD t undef)) (ht : d ≠ some t) (h : ∃ st', Rw X st' ((wd a).put d v) w' ∧ K st') : ∃ st', DW X t st' (a.put d v) w' ∧ K st' := by
  obtain ⟨st', h2, h3⟩ := h
  exact ⟨st', ⟨by rw [put_defers, put_other ht, hd], by rw [wd_put]; exact h2⟩, h3⟩
theorem wp_wd {Q : Exit → Go.Act → World → Prop} (hd : a.defers = dfr (a.tmps.getD t undef)) (ht : o.dst ≠ some t)
    (h : o.wp X.P (wd a) w (fun a' w' => ∃ st', Rw X st' a' w' ∧ K st') (fun e _ w' => Q e a w')) : o.wp X.P a w (fun a' w' => ∃ st', DW X t st' a' w' ∧ K st') Q := by
  unfold Oper.wp at h ⊢
  have e : (wd a).eval = a.eval := rfl
  rw [e] at h
  generalize (execOp a.eval o).run X.P w = r at h ⊢
  have out : LetsOut (fun e (_ : Go.Act) w' => Q e a w') → LetsOut Q := fun ⟨_, w1, h1⟩ => ⟨a, w1, h1⟩
  cases r with
  | ok n w' =>
    cases n with
    | value v => exact dw_next hd ht h
    | skip => exact dw_next hd ht h
    | defer d =>
      obtain ⟨st', h2, _⟩ := h
      obtain ⟨C, g, _, _, _, _, _, hg⟩ := h2
      have := hg.defers
      rw [put_defers] at this
      cases this
    | enter f args =>
      refine Calls.mono (show Calls X.P f args w' _ from h) fun e w'' he => ?_
      cases e with
      | returned v => exact dw_next hd ht he
      | panicked ch => exact he
      | outgrown => exact out he
    | row row args => exact Rows.mono (show Rows X.P row args w' _ from h) fun v w'' he => dw_next hd ht he
    | _ => exact (show False from h).elim
  | halt s w' =>
    cases s with
    | panic v => exact h
    | _ => exact (show False from h).elim
theorem wpOp_wd {ops : Array Oper} {i : Nat} {Q : Exit → Go.Act → World → Prop} (hd : a.defers = dfr (a.tmps.getD t undef)) (hi : ops[i]? = some o) (ht : o.dst ≠ some t)
    (h : wpOp X.P ops (fun e _ w' => Q e a w') i (fun a' w' => ∃ st', Rw X st' a' w' ∧ K st') (wd a) w) : wpOp X.P ops Q i (fun a' w' => ∃ st', DW X t st' a' w' ∧ K st') a w := by
  unfold wpOp at h ⊢
  simp only [hi] at h ⊢
  have ey : yielded ops (wd a).tmps = yielded ops a.tmps := rfl
  rw [ey] at h
  split at h
  · rename_i hw
    rw [if_pos hw]
    rcases h with h | ⟨h1, _, w1, h2⟩
    · exact .inl (wp_wd hd ht h)
    · exact .inr ⟨h1, a, w1, h2⟩
  · rename_i hw
    rw [if_neg hw]
    exact dw_next hd ht h
theorem SemL.wd {ops : Array Oper} {Q : Exit → Go.Act → World → Prop} (hQ : ∀ a' w' st', DW X t st' a' w' → K st' → Q .normal a' w') (hE : ∀ a' v w' st' x, DWV X t st' a' w' v x → E x st' → Q (.panic [{ v := v, recovered := false }]) a' w') :
    ∀ (l : List Oper) (k : Nat), ops.toList.drop k = l → (∀ o ∈ l, o.dst ≠ some t) → ∀ st, SemL X (ops.toList.map (·.dst)) K E l st → ∀ a w, DW X t st a w → wpOps X.P ops Q (List.range' k l.length) a w
  | [], k, _, _, st, h, a, w, hR => hQ a w st hR h
  | o :: l, k, hl, ht, st, h, a, w, hR => by
    have hk : ops[k]? = some o := by
      rw [← Array.getElem?_toList, ← Nat.add_zero k, ← List.getElem?_drop, hl]; rfl
    rw [List.length_cons, List.range'_succ, wpOps_cons]
    have h1 := h ops k rfl hk (Go.Hm.wd a) w (fun e _ w' => Q e a w') hR.2 (fun v w' st' x h1 h2 => hE a v w' st' x ⟨hR.1, h1⟩ h2)
    refine wpOp_mono (fun a' w' he => ?_) (wpOp_wd hR.1 hk (ht o (by simp)) h1)
    obtain ⟨st', hR', hK'⟩ := he
    refine SemL.wd hQ hE l (k + 1) ?_ (fun o' ho => ht o' (by simp [ho])) st' hK' a' w' hR'
    rw [← List.drop_drop, hl]
    rfl
end
section
variable {X : Ctx} {st : St} {t : Nat} {Q : Ex → St → Prop}
def postSD (X : Ctx) (t : Nat) (Q : Ex → St → Prop) : Exit → Go.Act → World → Prop
  | .normal, a, w => ∃ st, DW X t st a w ∧ Q .normal st
  | .exit id, a, w => ∃ st, DW X t st a w ∧ Q (.exit id) st
  | .goto l, a, w => ∃ st, DW X t st a w ∧ Q (.goto l) st
  | .ret, a, w => ∃ st, DW X t st a w ∧ Q .ret st
  | .panic ch, a, w => ∃ st v x, DWV X t st a w v x ∧ ch = [{ v := v, recovered := false }] ∧ Q (.pan x) st
  | .outgrown, _, _ => False
def SemCodeD (X : Ctx) (t : Nat) (c : Code) (Q : Ex → St → Prop) (st : St) : Prop := ∀ a w, DW X t st a w → c.wp X.P (postSD X t Q) a w
theorem wd_ret (h : Q .ret st) : SemCodeD X t .ret Q st := fun _ _ hR => wp_ret ⟨st, hR, h⟩
theorem wd_seq {c d : Code} (h : SemCodeD X t c (thenS (SemCodeD X t d Q) Q) st) : SemCodeD X t (.seq c d) Q st := by
  intro a w hR
  refine wp_seq (wp_mono (h a w hR) fun e a' w' he => ?_)
  cases e with
  | normal => obtain ⟨st', hR', hQ⟩ := he; exact hQ a' w' hR'
  | exit id => exact he
  | goto l => exact he
  | ret => exact he
  | panic ch => exact he
  | outgrown => exact he
theorem wd_region {id : Nat} {ops : Array Oper} (ht : ∀ o ∈ ops.toList, o.dst ≠ some t) (h : ∀ K : St → Prop, (∀ s, Q .normal s → K s) → SemL X (ops.toList.map (·.dst)) K (fun x => Q (.pan x)) ops.toList st) : SemCodeD X t (.region id ops false) Q st := by
  intro a w hR
  refine wp_region ?_
  rw [List.range_eq_range']
  have := SemL.wd (ops := ops) (t := t) (Q := postSD X t Q) (fun a' w' st' h1 h2 => ⟨st', h1, h2⟩) (fun a' v w' st' x h1 h2 => ⟨st', v, x, h1, rfl, h2⟩) ops.toList 0 rfl ht st (h _ (fun _ h => h)) a w hR
  simpa using this
theorem w_defer {id : Nat} {ops : Array Oper} {l1 l2 : List Oper} {od : Oper} {ats : Array TypeId} {c : Code} (hops : ops.toList = l1 ++ od :: l2) (hod : od.op = .defer ⟨.value (.tmp t), #[], ats⟩) (hdst : od.dst = none) (hg : od.guard = none)
    (ht : ∀ o ∈ l2, o.dst ≠ some t)
    (h : SemL X (ops.toList.map (·.dst)) (fun s1 => (∃ f xs ys, s1.tm t = .fn f xs ys) ∧ SemL X (ops.toList.map (·.dst)) (SemCodeD X t c Q) (fun x => Q (.pan x)) l2 s1) (fun _ _ => False) l1 st) {a : Go.Act} {w : World} (hR : Rw X st a w) :
    (Code.seq (.region id ops false) c).wp X.P (postSD X t Q) a w := by
  refine wp_seq (wp_region ?_)
  rw [List.range_eq_range']
  have hsz : ops.size = l1.length + (1 + l2.length) := by rw [← Array.length_toList, hops]; simp; omega
  have key : ∀ a' w' st', Rw X st' a' w' → ((∃ f xs ys, st'.tm t = .fn f xs ys) ∧ SemL X (ops.toList.map (·.dst)) (SemCodeD X t c Q) (fun x => Q (.pan x)) l2 st') →
      wpOps X.P ops (Exit.then (c.wp X.P (postSD X t Q)) (postSD X t Q)) (List.range' l1.length (1 + l2.length)) a' w' := by
    rintro a' w' st' hR' ⟨⟨f, xs, ys, hv⟩, hl⟩
    have hk : ops[l1.length]? = some od := by
      rw [← Array.getElem?_toList, hops, List.getElem?_append_right (Nat.le_refl _)]; simp
    rw [Nat.add_comm 1, List.range'_succ, wpOps_cons]
    obtain ⟨C, g, e1, e2, e3, e4, e5, hg'⟩ := hR'
    have hr := hg'.slots t
    rw [hv] at hr
    generalize hcv : a'.tmps.getD t undef = cv at hr
    have hdf : a'.defers = [] := hg'.defers
    unfold wpOp
    simp only [hk]
    rw [if_pos (by simp [Region.wanted, hg])]
    left
    cases hr with
    | fn _ vs us _ _ l1' l2' r1 r2 =>
      have hev : a'.eval (.tmp t) = .func f vs.toArray us.toArray := hcv
      have hx : (execOp a'.eval od).run X.P w' = .ok (.defer { target := .fn f us.toArray, args := vs.toArray ++ #[] }) w' := by
        simp [execOp, hod, resolve, hev, Deferred.ofValue]
      unfold Oper.wp
      rw [hx, Oper.upon_defer, hdst]
      have hDW : DW X t st' ({ a' with defers := { target := .fn f us.toArray, args := vs.toArray ++ #[] } :: a'.defers } : Go.Act) w' := by
        refine ⟨?_, ⟨C, g, e1, e2, e3, e4, e5, ?_⟩⟩
        · show _ :: a'.defers = dfr (a'.tmps.getD t undef)
          rw [hdf, hcv]
          rfl
        · have : wd ({ a' with defers := { target := .fn f us.toArray, args := vs.toArray ++ #[] } :: a'.defers } : Go.Act) = a' := by
            obtain ⟨tm, dd⟩ := a'
            simp only at hdf
            subst hdf
            rfl
          rw [this]
          exact hg'
      refine SemL.wd (ops := ops) (t := t) (K := SemCodeD X t c Q) (E := fun x => Q (.pan x)) (fun a1 w1 s1 h1 h2 => h2 a1 w1 h1) (fun a1 v w1 s1 x h1 h2 => ⟨s1, v, x, h1, rfl, h2⟩) l2 (l1.length + 1) ?_ ht st' hl _ w' hDW
      rw [hops, ← List.drop_drop]
      simp
  have main : ∀ (l : List Oper) (k : Nat), k + l.length = l1.length → (∀ j o, l[j]? = some o → ops[k + j]? = some o) → ∀ s, SemL X (ops.toList.map (·.dst)) (fun s1 => (∃ f xs ys, s1.tm t = .fn f xs ys) ∧ SemL X (ops.toList.map (·.dst)) (SemCodeD X t c Q) (fun x => Q (.pan x)) l2 s1) (fun _ _ => False) l s →
      ∀ a' w', Rw X s a' w' → wpOps X.P ops (Exit.then (c.wp X.P (postSD X t Q)) (postSD X t Q)) (List.range' k (l.length + (1 + l2.length))) a' w' := by
    intro l
    induction l with
    | nil =>
      intro k hk hl s hs a' w' hR'
      simp only [List.length_nil, Nat.add_zero] at hk
      subst hk
      simpa using key a' w' s hR' hs
    | cons o l ih =>
      intro k hk hl s hs a' w' hR'
      have hko : ops[k]? = some o := hl 0 o rfl
      rw [List.length_cons, show l.length + 1 + (1 + l2.length) = (l.length + (1 + l2.length)) + 1 by omega, List.range'_succ, wpOps_cons]
      refine wpOp_mono (fun a1 w1 he => ?_) (hs ops k rfl hko a' w' _ hR' (fun _ _ _ _ _ h => h.elim))
      obtain ⟨s1, hR1, hK1⟩ := he
      exact ih (k + 1) (by simp at hk; omega) (fun j o' ho => by have := hl (j + 1) o' ho; rwa [show k + (j + 1) = k + 1 + j by omega] at this) s1 hK1 a1 w1 hR1
  have := main l1 0 (by simp) (fun j o ho => by
    rw [Nat.zero_add, ← Array.getElem?_toList, hops, List.getElem?_append_left (gS ho).1]
    exact ho) st h a w hR
  rw [hsz]
  exact this
end
section
variable {c x : UInt8} {s l : Txt} {i j n : Nat}
def dval (l : Txt) : Nat := l.foldl (fun n c => 10 * n + (c.toNat - 48)) 0
theorem dval_snoc : dval (l ++ [c]) = 10 * dval l + (c.toNat - 48) := by simp [dval]
theorem dval_take (hi : s[i]? = some c) : dval (s.take (i + 1)) = 10 * dval (s.take i) + (c.toNat - 48) := by
  rw [List.take_add_one, hi]
  exact dval_snoc
theorem small_bad1 (hi : s[i]? = some c) (h : ¬ (48 ≤ c.toNat ∧ c.toNat ≤ 57)) : smallN s = none := by
  cases hs : smallN s with
  | none => rfl
  | some n =>
    obtain ⟨_, rfl⟩ := small_iff.1 hs
    exact absurd (numN_dig n c (List.mem_of_getElem? hi)) h
end
section
variable {s : Txt} {c : UInt8}
theorem small_len (h : s.length < 1 ∨ 2 < s.length) : smallN s = none := by
  rcases s with _ | ⟨a, _ | ⟨b, _ | ⟨d, l⟩⟩⟩
  · rfl
  · simp at h
  · simp at h
  · rfl
theorem small_zero (hl : s.length = 2) (h : s[0]? = some 48) : smallN s = none := by
  rcases s with _ | ⟨a, _ | ⟨b, _ | ⟨d, l⟩⟩⟩
  · simp at hl
  · simp at hl
  · obtain rfl := Option.some.inj h
    simp [smallN]
  · simp at hl
theorem small_digits (h1 : 1 ≤ s.length) (h2 : s.length ≤ 2) (hz : s.length = 2 → s[0]? ≠ some 48) (hd : ∀ c ∈ s, 48 ≤ c.toNat ∧ c.toNat ≤ 57) : smallN s = some (dval s) := by
  rcases s with _ | ⟨a, _ | ⟨b, _ | ⟨d, l⟩⟩⟩
  · simp at h1
  · have h := hd a (by simp)
    have hi : isDg a = true := by simp only [isDg, Bool.and_eq_true, decide_eq_true_eq]; exact h
    simp only [smallN, hi, if_true, dval, List.foldl_cons, List.foldl_nil]
    congr 1
    omega
  · have ha := hd a (by simp)
    have hb := hd b (by simp)
    have hi : isDg a = true := by simp only [isDg, Bool.and_eq_true, decide_eq_true_eq]; exact ha
    have hj : isDg b = true := by simp only [isDg, Bool.and_eq_true, decide_eq_true_eq]; exact hb
    have hz' : a ≠ 48 := fun e => hz rfl (by simp [e])
    simp only [smallN, hi, hj, true_and, hz', ne_eq, not_false_eq_true, and_self, if_true, dval, List.foldl_cons, List.foldl_nil]
    congr 1
    omega
  · simp at h2
end
end Go.Hm
end
section
namespace Go.Hm
open Go Go.RowKit Go.Proofs Go.Shelf
section
variable {st : St} {H' hp : Nm → Option AO} {T e : TypeId} {l : Txt} {k a b c d : Nat}
@[simp] theorem byrows_tr {f : Nm → Option Nm} : (byrows l).map (fun r => r.map (AV.tr f)) = byrows l := by simp [byrows]
theorem bld_mutc (h : BldAt H' (.u a b c) T e l) : BldAt (st.mutc (.s k) (.u a b c) d H').hp (.s k) T e l := by
  rcases h with ⟨rfl, h⟩ | ⟨hl, h1, h2⟩
  · exact .inl ⟨rfl, by simp [Nm.under, Nm.ren, mv, h, AO.tr, AV.tr]⟩
  · refine .inr ⟨hl, ?_, ?_⟩
    · simp [Nm.under, Nm.ren, mv, h1, AO.tr, AV.tr]
    · have : (byrows l).map (List.map (AV.tr (mv (.u a b c) (.s k)))) = byrows l := byrows_tr
      simp [Nm.under, Nm.ren, mv]
      exact ⟨_, h2, by simp only [AO.tr]; rw [this]⟩
theorem bld_move (h : BldAt st.hp (.s k) T e l) : BldAt (hsub (.u a b c) (st.move (.s k) (.u a b c)).hp) (.u a b c) T e l := by
  rcases h with ⟨rfl, h⟩ | ⟨hl, h1, h2⟩
  · exact .inl ⟨rfl, by simp [Nm.under, Nm.ren, mv, h, AO.tr, AV.tr]⟩
  · refine .inr ⟨hl, ?_, ?_⟩
    · simp [Nm.under, Nm.ren, mv, h1, AO.tr, AV.tr]
    · have : (byrows l).map (List.map (AV.tr (mv (.s k) (.u a b c)))) = byrows l := byrows_tr
      simp [Nm.under, Nm.ren, mv]
      exact ⟨_, h2, by simp only [AO.tr]; rw [this]⟩
theorem bld_isSome (h : BldAt hp (.u a b c) T e l) : (hp (.u a b c)).isSome = true := by
  rcases h with ⟨_, h⟩ | ⟨_, h, _⟩ <;> simp [h]
end
section
variable {X : Ctx} {st : St} {K : St → Prop} {E : AV → St → Prop} {d k : Nat} {ty : TypeId} {pos : String} {aft : Array Edge} {g : Option (Nat × Bool)} {args : Array Operand} {Ts : Array TypeId} {P : Program} {ρ : Ren} {l s : Txt} {f : FuncId}
abbrev Vn : Nm := .u 3 0 0
theorem x_wstr (k : Nat) (L : Lays.n166 X.P ρ) (Y : Builder.Extra X.P ρ) (hf : ρ.f 166 = f) (hext : X.ext Vn = false) (hB : BldAt st.hp (.s k) (ρ.t 72) (ρ.t 5) l) (hd : d < X.n := by first | (simp; done) | fail)
    (ha : args.toList.map (ev (st.move (.s k) Vn)) = [.pt Vn 0, tx s] := by simp [fx]; first | done | rfl) (hs : s ≠ [] := by first | (simp; done) | assumption) (hlen : l.length + s.length ≤ 140737488355328 := by first | (simp; omega) | omega)
    (h : ∀ st' : St, st'.n = st.n → st'.gl = st.gl → (∀ t, st'.tm t = if t = d then .tup [.sc (.int .i64 s.length), .sc .nilIface] else (st.tm t).tr (rtf (.s k) Vn d)) →
      (∀ m, Nm.under (.s k) m = false → Nm.under Vn m = false → Nm.under (.s d) m = false → st'.hp m = (st.hp m).map (AO.tr (rtf (.s k) Vn d))) →
      st'.hp (.s k) = some (.trow (ρ.t 72) 2 true [[.pt (.s k) 0, .hs (.c (.s k) 0 1) 1 0 (l.length + s.length)]]) → st'.hp (.c (.s k) 0 1) = some (.trow (ρ.t 5) 1 false (byrows (l ++ s))) → K st') :
    SemOp X ⟨some d, .call ⟨.value (.func f), args, Ts⟩, ty, pos, aft, g⟩ K E st := by
  subst hf
  have hB' := bld_move (a := 3) (b := 0) (c := 0) hB
  refine x_mutc (.s k) Vn (hext := hext) (hs := (bld_isSome hB')) (hd := hd) (ha := ha) (hF := wstr_fn L Y X.gl Vn l s hs hlen _ hB') (h := ?_)
  rintro y H' ⟨rfl, hH⟩
  rcases bld_mutc (st := st) (k := k) (d := d) hH with ⟨e, _⟩ | ⟨_, e1, e2⟩
  · exact absurd e (by simp [hs])
  refine h _ rfl rfl (fun t => ?_) (fun m h1 h2 h3 => ?_) (by simpa using e1) e2
  · by_cases e : t = d
    · simp [St.put, e, AV.tr, trLL_eq, trL_eq]
    · simp [St.put, e]
  · show (st.mutc (.s k) Vn d H').hp m = _
    simp only [mutc_hp, h1, h2, h3, Bool.false_eq_true, if_false]
theorem BldAt.go {hp0 hp : Nm → Option AO} {V : Nm} {T e : TypeId} {l : Txt} (h : BldAt hp0 V T e l)
    (h1 : hp0 V = some (.trow T 2 true [[.sc (.pointer none), .sc (.slice none 0 0)]]) → hp V = some (.trow T 2 true [[.sc (.pointer none), .sc (.slice none 0 0)]]) := by intro e; simp [e, fx])
    (h2 : hp0 V = some (.trow T 2 true [[.pt V 0, .hs (.c V 0 1) 1 0 l.length]]) → hp V = some (.trow T 2 true [[.pt V 0, .hs (.c V 0 1) 1 0 l.length]]) := by intro e; simp [e, fx])
    (h3 : hp0 (.c V 0 1) = some (.trow e 1 false (byrows l)) → hp (.c V 0 1) = some (.trow e 1 false (byrows l)) := by intro e; simp [e, fx]) : BldAt hp V T e l := by
  rcases h with ⟨rfl, h⟩ | ⟨hl, e1, e2⟩
  · exact .inl ⟨rfl, h1 h⟩
  · exact .inr ⟨hl, h2 e1, h3 e2⟩
theorem x_str (k : Nat) (L : Lays.n169 X.P ρ) (Y : Builder.Extra X.P ρ) (hf : ρ.f 169 = f) (hext : X.ext Vn = false) (hB : BldAt st.hp (.s k) (ρ.t 72) (ρ.t 5) l) (hd : d < X.n := by first | (simp; done) | fail)
    (ha : args.toList.map (ev (st.move (.s k) Vn)) = [.pt Vn 0] := by simp [fx]; first | done | rfl)
    (h : K ((st.mutc (.s k) Vn d noH).put (some d) (tx l))) :
    SemOp X ⟨some d, .call ⟨.value (.func f), args, Ts⟩, ty, pos, aft, g⟩ K E st := by
  subst hf
  have hB' := bld_move (a := 3) (b := 0) (c := 0) hB
  refine x_mutc (.s k) Vn (hext := hext) (hs := (bld_isSome hB')) (hd := hd) (ha := ha) (hF := str_fn L Y X.gl Vn l _ hB') (h := ?_)
  rintro y H' ⟨rfl, rfl⟩
  simpa [AV.tr] using h
end
def BadX (x : AV) : Prop := ∃ t y, x = .ifc t y ∧ (y = .agg [] ∨ ∃ v, y = .sc v)
def badQ (Q : Prop) : Nm → AV → (Nm → Option AO) → Prop := fun _ x _ => BadX x ∧ Q
theorem BadX.tr {x : AV} (h : BadX x) {f : Nm → Option Nm} : BadX (x.tr f) := by
  obtain ⟨t, y, rfl, h⟩ := h
  refine ⟨t, y.tr f, rfl, ?_⟩
  rcases h with rfl | ⟨v, rfl⟩
  · exact .inl rfl
  · exact .inr ⟨v, rfl⟩
theorem BadX.cln {x : AV} (h : BadX x) : x.cln = true := by
  obtain ⟨t, y, rfl, h⟩ := h
  rcases h with rfl | ⟨v, rfl⟩ <;> rfl
section
variable {X : Ctx} {st : St} {K : St → Prop} {E : AV → St → Prop} {d f : Nat} {ty : TypeId} {pos : String} {aft : Array Edge} {g : Option (Nat × Bool)} {args : Array Operand} {Ts : Array TypeId} {bs : List AV} {R : Nm → AV → (Nm → Option AO) → Prop} {Q : Prop}
theorem x_mutE (U : Nm) (hU : U.isU = true) (hext : X.ext U = true → st.hp U ≠ none) (hd : d < X.n := by first | (simp; done) | fail) (ha : args.toList.map (ev st) = bs := by simp [fx]; first | done | rfl)
    (hF : FnE X.P X.gl f (Nm.under U) bs (hsub U st.hp) R (badQ Q)) (hE : ∀ x s, BadX x → Q → E x s) (h : ∀ y H', R (.s d) y H' → K ((st.call d (Nm.under U) (hsub U st.hp) H').put (some d) y)) :
    SemOp X ⟨some d, .call ⟨.value (.func f), args, Ts⟩, ty, pos, aft, g⟩ K E st := by
  subst ha
  refine call_sem (D := Nm.under U) (H := hsub U st.hp) (R := R) (E0 := badQ Q) hF (ent_func hF.1 rfl) false ⟨rfl, fun j a a' h h' => ?_⟩ (fun n hn => ?_) (fun n hn => ?_) (fun n hn => ?_) (fun k i j he => ?_) (fun e he => by obtain rfl := Option.some.inj he; exact hd) (fun x H' hR => ?_) (fun x H' hx => hE _ _ hx.1 hx.2)
  · rw [h] at h'
    obtain rfl := Option.some.inj h'
    exact .refl _
  · cases hx : Nm.under U n with
    | false => rfl
    | true =>
      have h1 := under_usroot hU hx
      have h2 := Nm.sroot_under (a := .s d) rfl hn
      rw [h1] at h2
      cases h2
  · simp [hsub, hn]
  · simp only [hsub] at hn
    split at hn
    · assumption
    · exact absurd rfl hn
  · cases hx : Nm.under U (.u k i j) with
    | false => exact .inl rfl
    | true =>
      right
      have : Nm.u k i j = U := by cases U <;> simp [Nm.isU, Nm.under] at * <;> exact ⟨hx.1, hx.2.1, hx.2.2⟩
      simp only [hsub, hx, if_true]
      rw [this] at he ⊢
      exact hext he
  · exact h x H' hR
theorem x_mutcE (N V : Nm) (hV : V.isU = true := by rfl) (hN : N.isU = false := by rfl) (hNV : Nm.under V N = false := by first | (simp; done) | fail) (hext : X.ext V = false) (hs : (hsub V (st.move N V).hp V).isSome = true) (hd : d < X.n := by first | (simp; done) | fail)
    (ha : args.toList.map (ev (st.move N V)) = bs := by simp [fx]; first | done | rfl)
    (hF : FnE X.P X.gl f (Nm.under V) bs (hsub V (st.move N V).hp) R (badQ Q)) (hE : ∀ x s, BadX x → Q → E x s) (h : ∀ y H', R (.s d) y H' → K ((st.mutc N V d H').put (some d) (y.tr (mv V N)))) :
    SemOp X ⟨some d, .call ⟨.value (.func f), args, Ts⟩, ty, pos, aft, g⟩ K E st := by
  refine o_mv N V (.inl hN) (.inr hext) (o_mvPost V N (.inr hext) (.inl hN) ?_)
  refine x_mutE V hV (fun e => by rw [hext] at e; cases e) hd ha hF hE fun y H' hR => ?_
  rw [mutc_eq hV hNV hs]
  exact h y H' hR
theorem x_ownE (hd : d < X.n := by first | (simp; done) | fail) (ha : args.toList.map (ev st) = bs := by simp [fx]; first | done | rfl) (hF : FnE X.P X.gl f noD bs noH R (badQ Q)) (hE : ∀ x s, BadX x → Q → E x s) (h : ∀ y H', R (.s d) y H' → K ((st.call d noD noH H').put (some d) y)) :
    SemOp X ⟨some d, .call ⟨.value (.func f), args, Ts⟩, ty, pos, aft, g⟩ K E st := by
  subst ha
  refine call_sem (D := noD) (H := noH) (R := R) (E0 := badQ Q) hF (ent_func hF.1 rfl) false ⟨rfl, fun j a a' h h' => ?_⟩ (fun _ _ => rfl) (fun n hn => by cases hn) (fun n hn => absurd rfl hn) (fun k i j _ => .inl rfl) (fun e he => by obtain rfl := Option.some.inj he; exact hd) (fun x H' hR => ?_) (fun x H' hx => hE _ _ hx.1 hx.2)
  · rw [h] at h'
    obtain rfl := Option.some.inj h'
    exact .refl _
  · exact h x H' hR
end
end Go.Hm
end
section
namespace Go.Hm
open Go Go.RowKit
section
variable {X : Ctx} {st : St} {K : St → Prop} {E : AV → St → Prop} {d : Nat} {ty : TypeId} {pos : String} {aft : Array Edge} {g : Option (Nat × Bool)} {f : Nat} {args : Array Operand} {Ts : Array TypeId} {bs : List AV}
theorem kx_plain {x : AV} (hd : d < X.n := by first | (simp; done) | fail) (ha : args.toList.map (ev st) = bs := by simp [fx]; first | done | rfl | exact (Bool.not_not _).symm)
    (hF : FnOk X.P X.gl f bs (fun _ y _ => y = x)) (h : K ((st.kill (.s d)).put (some d) x)) : SemOp X ⟨some d, .call ⟨.value (.func f), args, Ts⟩, ty, pos, aft, g⟩ K E st := by
  refine SemOp.weak (x_own (K := fun s => ∃ H', s = (st.call d noD noH H').put (some d) x) hd ha hF ?_) ?_
  · rintro y H' rfl
    exact ⟨H', rfl⟩
  · rintro s ⟨H', rfl⟩
    refine ⟨(st.kill (.s d)).hp, fun m ob e => ?_, ?_⟩
    · simp only [St.kill, St.nm, hkl] at e
      simp only [St.put, St.call, St.nm]
      split at e
      · cases e
      · rename_i hu
        simp [hu, noD, cf_noD, e]
    · simpa only [St.put, St.call, St.nm, St.kill, cf_noD] using h
theorem b_id {P : Program} {T : TypeId} {zs : List AV} (_hq : zvals P T = some zs) (h : SemOp X ⟨some d, .alloc T, ty, pos, aft, g⟩ K E st) : SemOp X ⟨some d, .alloc T, ty, pos, aft, g⟩ K E st := h
end
theorem k_runp {G G' : Prop} (k : G') (h : KTag G' → G := by
  intro kk
  repeat' (first
    | refine w_seq ?_ | refine w_block ?_ | refine w_skip ?_ | refine w_label ?_ | refine w_reg fun K hK => ?_
    | ((with_reducible refine s_end hK ?_); clear hK K) | (with_reducible refine s_end hK ?_)
    | (with_reducible first | refine then_normal ?_ | refine in_normal ?_ | refine then_exit ?_ | refine in_exit ?_ | refine then_ret ?_ | refine in_ret ?_ | refine s_nil ?_ | refine in_other (by decide) ?_)
    | refine w_exit ?_
    | refine w_ret ?_
    | (with_reducible refine s_none ?_)
    | ((with_reducible refine g_id ?_); refine x_guard (h := ?_))
    | (with_reducible first | refine gx_tt ?_ | refine gx_ff ?_ | refine x_tf (h := ?_) | refine x_ft (h := ?_) | refine x_u (h := ?_) | refine x_assign (h := ?_) | refine x_box (h := ?_) | refine x_store0 (h := ?_) | refine x_append0 (h := ?_) | refine x_appendM (h := ?_) | refine x_append (h := ?_) | refine x_store (h := ?_) | refine x_make (h := ?_) | refine x_build (h := ?_))
    | ((with_reducible refine b_id b1 ?_); refine x_allocB (hq := b1) (h := ?_)) | (with_reducible refine x_alloc (h := ?_))
    | ((with_reducible refine o_idc c1 rfl ?_); refine kx_call (hF := c1) (h := ?_))
    | ((with_reducible refine o_idc c2 rfl ?_); refine kx_call (hF := c2) (h := ?_))
    | ((with_reducible refine o_idc c3 rfl ?_); refine kx_call (hF := c3) (h := ?_))
    | ((with_reducible refine o_idc c4 rfl ?_); refine kx_call (hF := c4) (h := ?_))
    | ((with_reducible refine o_idc c5 rfl ?_); refine kx_call (hF := c5) (h := ?_))
    | ((with_reducible refine o_idc c6 rfl ?_); refine kx_call (hF := c6) (h := ?_))
    | ((with_reducible refine o_idc d1 rfl ?_); refine kx_callh (hF := d1) (h := ?_))
    | ((with_reducible refine o_idc d2 rfl ?_); refine kx_callh (hF := d2) (h := ?_))
    | ((with_reducible refine o_idc d3 rfl ?_); refine kx_callh (hF := d3) (h := ?_))
    | ((with_reducible refine o_idc d4 rfl ?_); refine kx_callh (hF := d4) (h := ?_))
    | ((with_reducible refine o_idc e1 rfl ?_); refine kx_callg (hF := e1) (h := ?_))
    | ((with_reducible refine o_idc e2 rfl ?_); refine kx_callg (hF := e2) (h := ?_))
    | ((with_reducible refine o_idc p1 rfl ?_); refine kx_plain (hF := p1) (h := ?_))
    | ((with_reducible refine o_idc p2 rfl ?_); refine kx_plain (hF := p2) (h := ?_))
    | ((with_reducible refine o_idc p3 rfl ?_); refine kx_plain (hF := p3) (h := ?_))
    | ((with_reducible refine o_idc p4 rfl ?_); refine kx_plain (hF := p4) (h := ?_))
    | ((with_reducible refine o_idc p5 rfl ?_); refine kx_plain (hF := p5) (h := ?_))
    | ((with_reducible refine o_idc p6 rfl ?_); refine kx_plain (hF := p6) (h := ?_))
    | (with_reducible refine x_q (h := ?_))
    | (with_reducible refine gx_s (fun ht => ?_) (fun ht => ?_))
    | refine x_condt (h1 := ?_) | refine x_condf (h1 := ?_)
    | ((with_reducible refine a_end hK ?_); clear hK K) | (with_reducible refine a_end hK ?_)
    | ((with_reducible refine a_id ?_); first | refine xa_q (h := ?_) | refine xa_qt (h := ?_) | refine xa_qf (h := ?_) | refine xa_qu (h := ?_))
    | ((with_reducible refine a_id ?_); refine xa_gq (h1 := fun ht => ?_) (h2 := fun ht => ?_))
    | refine a_l rfl ?_ | refine a_l2 ?_ ?_ | (with_reducible refine And.intro ?_ ?_) | exact st_nil | refine xa_st (h2 := ?_)
    | fail)
  first | exact kk.h | (revert hK; revert K; exact kk.h)) : G := h ⟨k⟩
section
variable {P : Program} {gl : Nat → Option (List AV)} {f : FuncId} {D : Nm → Bool} {bs : List AV} {H : Nm → Option AO} {R : Nm → AV → (Nm → Option AO) → Prop}
theorem store_run {o : Oper} {a : Go.Act} {w : World} {N : Go.Act → World → Prop} {T : TypeId} {x y : Operand} (h : o.wp P a w N (fun _ _ _ => False)) (ho : o.op = .store T x y) (hd : o.dst = none) : ∃ w1, (Instr.storeAt T (a.eval x) (a.eval y)).run P w = .ok () w1 ∧ N a w1 := by
  unfold Oper.wp at h
  simp only [execOp, ho, Sem.run_bind] at h
  cases hr : (Instr.storeAt T (a.eval x) (a.eval y)).run P w with
  | ok u w1 =>
    rw [hr] at h
    refine ⟨w1, rfl, ?_⟩
    simp only [Result.andThen_ok, Sem.run_pure, Oper.upon_skip, hd] at h
    exact h
  | halt s w1 =>
    rw [hr] at h
    cases s <;> exact (show False from h).elim
def retPost (P : Program) (D : Nm → Bool) (root : Nm) (rs : List ResultVar) (R : Nm → AV → (Nm → Option AO) → Prop) (st : St) : Prop := ∃ sbs xs, OkS D root sbs ∧ resL P st rs = some xs ∧ R root ((res1 xs).tr (finf D sbs)) (finH D sbs st.hp)
def doorPost (X : Ctx) (P : Program) (D : Nm → Bool) (root : Nm) (rs : List ResultVar) (R : Nm → AV → (Nm → Option AO) → Prop) (t F s1 s2 : Nat) (n1 n2 : Nm) (o1 o2 : Oper) : Ex → St → Prop
  | .ret, st => st.tm t = .fn (.func F) [] [.pt n1 0, .pt n2 0] ∧ retPost P D root rs R st
  | .pan x, st => st.tm t = .fn (.func F) [] [.pt n1 0, .pt n2 0] ∧ st.tm s1 = .pt n1 0 ∧ st.tm s2 = .pt n2 0 ∧ BadX x ∧ SemOp X o1 (SemOp X o2 (retPost P D root rs R) (fun _ _ => False)) (fun _ _ => False) st
  | _, _ => False
theorem rw_ret {C : Nat → Prop} {w : World} {g : Gh} {n : Nat} {root : Nm} {fn : Func} {rs : List ResultVar} {st : St} {a : Go.Act} {w' : World} (hrs : fn.results.toList = rs) (hroot : ∀ m, Nm.under root m = true → D m = false) (hHD : ∀ m, H m ≠ none → D m = true) (hD : ∀ m, D m = true → m.sroot = false)
    (hR : Rw (ctx0 P C w g H n gl) st a w') (hq : retPost P D root rs R st) :
    a.defers = [] ∧ ∃ v, (results fn a.tmps).run P w' = .ok v w' ∧ ∃ C' g' H' x, After (ownH g H) C w g D root H H' C' g' w' ∧ RV g' w' v x ∧ R root x H' := by
  have key : ∀ {st : St} {a : Go.Act} {w' : World} {C' : Nat → Prop} {g1 : Gh} (sbs : List (Nm × Nm)), OkS D root sbs → (∀ b, C b → C' b) → (∀ b, C' b → C b ∨ w.heap.size ≤ b ∨ ownH g H b) → Ext (ctx0 P C w g H n gl) g1 → Rg P (ownH g H) C' w g1 st a w' →
      ∃ g', After (ownH g H) C w g D root H (finH D sbs st.hp) C' g' w' ∧ ∀ v x, RV g1 w' v x → RV g' w' v (x.tr (finf D sbs)) := by
    intro st a w' C' g1 sbs hok hC1 hC2 hext hr
    have hinj := finf_inj (D := D) hroot hok.tgt hok.dis
    let g' : Gh := { C := g1.C, φ := fun m => if D m || Nm.under root m then (g1.tr (finf D sbs)).φ m else g.φ m, κ := fun m => if D m || Nm.under root m then (g1.tr (finf D sbs)).κ m else g.κ m }
    have img : ∀ m m', finf D sbs m = some m' → (D m' || Nm.under root m') = true := by
      intro m m' e
      rcases finf_img hok.tgt e with ⟨h1, rfl⟩ | ⟨p, hp, hp2⟩
      · simp [h1]
      · simp [Nm.under_trans (hok.tgt p hp) hp2]
    have gf : ∀ m m', finf D sbs m = some m' → g'.φ m' = g1.φ m ∧ g'.κ m' = g1.κ m := by
      intro m m' e
      simp only [g', img m m' e, if_true]
      exact Gh.tr_spec hinj e
    have old : ∀ m' o', finH D sbs st.hp m' = some o' → ∃ m o, finf D sbs m = some m' ∧ st.hp m = some o ∧ o' = o.tr (finf D sbs) := by
      intro m' o' e
      unfold finH at e
      split at e
      · rename_i hm
        obtain ⟨o, e1, rfl⟩ := Option.map_eq_some_iff.1 e
        exact ⟨m', o, finf_D hD hm hok.src, e1, rfl⟩
      · split at e
        · rename_i q hq
          split at e
          · rename_i hc
            obtain ⟨o, e1, rfl⟩ := Option.map_eq_some_iff.1 e
            exact ⟨q, o, hc, e1, rfl⟩
          · cases e
        · cases e
    have hs := hr.step (g' := g') (w' := w') (f := finf D sbs) (hp' := finH D sbs st.hp) rfl gf rfl rfl rfl (Nat.le_refl _) (fun _ _ => rfl) (fun _ _ _ => rfl) (fun m' o' e => by
      obtain ⟨m, o, e1, e2, e3⟩ := old m' o' e
      exact .inl ⟨m, o, e1, e2, e3, fun _ _ => rfl⟩)
    refine ⟨g', ⟨hC1, hC2, hs.inv, fun m hm => ?_, fun m h1 h2 => by simp [g', h1, h2], fun k i j hk => ?_⟩, fun v x hv => hr.rv (g' := g') rfl (fun _ _ => rfl) gf hv⟩
    · obtain ⟨o', ho'⟩ := Option.ne_none_iff_exists'.1 hm
      obtain ⟨m0, o, e1, _, _⟩ := old m o' ho'
      have := img m0 m e1
      simpa using this
    · have hd := hHD _ hk
      obtain ⟨x1, x2⟩ := gf _ _ (finf_D hD hd hok.src)
      have he : (ctx0 P C w g H n gl).ext (.u k i j) = true := by
        obtain ⟨o', ho'⟩ := Option.ne_none_iff_exists'.1 hk
        simp [ctx0, ho']
      obtain ⟨y1, y2⟩ := hext k i j he
      exact ⟨x1.trans y1, x2.trans y2⟩
  obtain ⟨C', g1, h1, h2, _, _, h5, hr⟩ := hR
  obtain ⟨sbs, xs, hok, hx, hRx⟩ := hq
  obtain ⟨g', k1, k2⟩ := key sbs hok h1 h2 h5 hr
  obtain ⟨v, hrun, hv⟩ := run_results (fn := fn) hr (by rw [hrs]; exact hx)
  exact ⟨hr.defers, v, hrun, C', g', _, _, k1, k2 v _ hv, hRx⟩
theorem rv_clo {g : Gh} {w : World} {v : Value} {F : FuncId} {n1 n2 : Nm} (h : RV g w v (.fn (.func F) [] [.pt n1 0, .pt n2 0])) :
    ∃ b1 b2, v = .func (.func F) #[] #[.pointer (some ⟨b1, 0, none⟩), .pointer (some ⟨b2, 0, none⟩)] ∧ g.φ n1 = some b1 ∧ g.φ n2 = some b2 := by
  cases h with
  | fn _ vs us _ _ l1 l2 r1 r2 =>
    obtain rfl := List.eq_nil_of_length_eq_zero (by simpa using l1)
    rcases us with _ | ⟨u1, _ | ⟨u2, _ | ⟨u3, tl⟩⟩⟩
    · simp at l2
    · simp at l2
    · have q1 := r2 0 u1 _ rfl rfl
      have q2 := r2 1 u2 _ rfl rfl
      cases q1 with
      | pt _ _ b1 k1 =>
      cases q2 with
      | pt _ _ b2 k2 => exact ⟨b1, b2, rfl, k1, k2⟩
    · simp at l2
theorem rv_pt {g : Gh} {w : World} {v : Value} {n : Nm} (h : RV g w v (.pt n 0)) : ∃ b, v = .pointer (some ⟨b, 0, none⟩) ∧ g.φ n = some b := by
  cases h with
  | pt _ _ b k => exact ⟨b, rfl, k⟩
theorem FnE.of_door {fn : Func} {c : Code} {rs : List ResultVar} {n t F s1 s2 : Nat} {T1 T2 : TypeId} {v1 v2 : Value} {n1 n2 : Nm} {o1 o2 : Oper}
    (hf : P.funcs[f]? = some fn) (hb : fn.body = some c) (hname : (fn.name == "runtime.NumGoroutine") = false) (hrs : fn.results.toList = rs) (hn : fn.ntmps = n) (hle : bs.length ≤ n) (hD : ∀ m, D m = true → m.sroot = false) (hF : Callable P F)
    (ho1 : o1.op = .store T1 (.tmp s1) (.const v1)) (hd1 : o1.dst = none) (ho2 : o2.op = .store T2 (.tmp s2) (.const v2)) (hd2 : o2.dst = none)
    (idle : ∀ (b1 b2 : Nat) (w : World), CallsD P F #[.pointer (some ⟨b1, 0, none⟩), .pointer (some ⟨b2, 0, none⟩)] .returning w fun e u' w' => e = .returned (.tuple #[]) ∧ u' = .returning ∧ w' = w)
    (catch_ : ∀ (b1 b2 : Nat) (ty : TypeId) (pv : Value) (w w1 w2 : World), (Instr.storeAt T1 (.pointer (some ⟨b1, 0, none⟩)) v1).run P w = .ok () w1 → (Instr.storeAt T2 (.pointer (some ⟨b2, 0, none⟩)) v2).run P w1 = .ok () w2 →
      CallsD P F #[.pointer (some ⟨b1, 0, none⟩), .pointer (some ⟨b2, 0, none⟩)] (.panicking [{ v := .iface ty pv, recovered := false }]) w fun e u' w' => e = .returned (.tuple #[]) ∧ u' = .panicking [{ v := .iface ty pv, recovered := true }] ∧ w' = w2)
    (h : ∀ C w g root, (∀ m, Nm.under root m = true → D m = false) → ∀ a w', Rw (ctx0 P C w g H n gl) (st0 bs H n gl) a w' → c.wp P (postSD (ctx0 P C w g H n gl) t (doorPost (ctx0 P C w g H n gl) P D root rs R t F s1 s2 n1 n2 o1 o2)) a w') : FnE P gl f D bs H R noE := by
  refine ⟨⟨fn, hf, hname, by rw [hb]; rfl⟩, fun root C w g args hroot hru hHD hinv hgl hsz hargs => ?_⟩
  have hstart : Rw (ctx0 P C w g H n gl) (st0 bs H n gl) { tmps := args ++ Array.replicate (fn.ntmps - args.size) undef, defers := [] } w := by
    refine ⟨C, g, fun _ h => h, fun _ h => .inl h, rfl, rfl, fun _ _ _ _ => ⟨rfl, rfl⟩, hinv, rfl, ?_, ?_, hgl⟩
    · simp [st0]
      omega
    · intro t
      simp only [st0]
      by_cases ht : t < args.size
      · have h1 : bs[t]? = some (bs[t]'(by omega)) := gE _
        have h2 : (args ++ Array.replicate (fn.ntmps - args.size) undef).getD t undef = args[t] := by
          rw [Array.getD_eq_getD_getElem?, Array.getElem?_append_left ht, Array.getElem?_eq_getElem ht]; rfl
        rw [h2, List.getD_eq_getElem?_getD, h1]
        exact hargs t _ _ (Array.getElem?_eq_getElem ht) h1
      · have h1 : bs[t]? = none := List.getElem?_eq_none (by omega)
        have h2 : (args ++ Array.replicate (fn.ntmps - args.size) undef).getD t undef = undef := by
          rw [Array.getD_eq_getD_getElem?, Array.getElem?_append_right (by omega), Array.getElem?_replicate]
          split <;> rfl
        rw [h2, List.getD_eq_getElem?_getD, h1]
        exact RV.sc _
  refine calls_of_wp_defers hf hb (wp_mono (h C w g root hroot _ _ hstart) fun e a w' he => ?_)
  have inv : ∀ b1 b2 : Nat, ∀ w0 : World, (invoke (.fn (.func F) #[.pointer (some ⟨b1, 0, none⟩), .pointer (some ⟨b2, 0, none⟩)]) (#[] ++ #[])).run P w0 = .ok (.enter F #[.pointer (some ⟨b1, 0, none⟩), .pointer (some ⟨b2, 0, none⟩)]) w0 := by
    intro b1 b2 w0
    simp [invoke, run_callFunc hF]
  cases e with
  | ret =>
    obtain ⟨st, ⟨hdf, hR⟩, hfn, hq⟩ := he
    obtain ⟨hd0, v, hrun, hrest⟩ := rw_ret hrs hroot hHD hD hR hq
    have hv : ∃ b1 b2, a.tmps.getD t undef = .func (.func F) #[] #[.pointer (some ⟨b1, 0, none⟩), .pointer (some ⟨b2, 0, none⟩)] := by
      obtain ⟨C', g1, _, _, _, _, _, hr⟩ := hR
      have hs := hr.slots t
      rw [hfn] at hs
      obtain ⟨b1, b2, e, _⟩ := rv_clo hs
      exact ⟨b1, b2, e⟩
    obtain ⟨b1, b2, hv⟩ := hv
    rw [hv] at hdf
    show Leaves P fn a.tmps _ a.defers .returning w'
    rw [hdf]
    refine leaves_cons (by simp) (inv b1 b2 w') ((idle b1 b2 w').mono ?_)
    rintro e u' w'' ⟨rfl, rfl, rfl⟩
    exact ⟨v, hrun, hrest⟩
  | panic ch =>
    obtain ⟨st, v, x, ⟨hdf, hRV⟩, rfl, hfn, hs1, hs2, hbad, hop⟩ := he
    obtain ⟨C', g1, q1, q2, q3, q4, q5, hr, hvx⟩ := hRV
    have hR : Rw (ctx0 P C w g H n gl) st (wd a) w' := ⟨C', g1, q1, q2, q3, q4, q5, hr⟩
    obtain ⟨b1, b2, hv, k1, k2⟩ := rv_clo (by have := hr.slots t; rwa [hfn] at this)
    have e1 : (wd a).eval (.tmp s1) = .pointer (some ⟨b1, 0, none⟩) := by
      have := hr.slots s1
      rw [hs1] at this
      obtain ⟨b, e, hb⟩ := rv_pt this
      rw [k1] at hb
      obtain rfl := Option.some.inj hb
      exact e
    have e2 : (wd a).eval (.tmp s2) = .pointer (some ⟨b2, 0, none⟩) := by
      have := hr.slots s2
      rw [hs2] at this
      obtain ⟨b, e, hb⟩ := rv_pt this
      rw [k2] at hb
      obtain rfl := Option.some.inj hb
      exact e
    obtain ⟨w1, r1, st1, hR1, hop2⟩ := store_run (hop (wd a) w' (fun _ _ _ => False) hR (fun _ _ _ _ _ h => h.elim)) ho1 hd1
    obtain ⟨w2, r2, st2, hR2, hq⟩ := store_run (hop2 (wd a) w1 (fun _ _ _ => False) hR1 (fun _ _ _ _ _ h => h.elim)) ho2 hd2
    rw [e1] at r1
    rw [e2] at r2
    obtain ⟨hd0, u, hrun, hrest⟩ := rw_ret hrs hroot hHD hD hR2 hq
    obtain ⟨ty, y, rfl, _⟩ := hbad
    cases hvx with
    | ifc _ pv _ hpv =>
      have hv' : a.tmps.getD t undef = .func (.func F) #[] #[.pointer (some ⟨b1, 0, none⟩), .pointer (some ⟨b2, 0, none⟩)] := hv
      rw [hv'] at hdf
      show Leaves P fn a.tmps _ a.defers (.panicking _) w'
      rw [hdf]
      refine leaves_cons (by simp) (inv b1 b2 w') ((catch_ b1 b2 ty pv w' w1 w2 r1 r2).mono ?_)
      rintro e u' w'' ⟨rfl, rfl, rfl⟩
      exact ⟨u, hrun, hrest⟩
  | normal => obtain ⟨_, _, hQ⟩ := he; exact hQ.elim
  | exit id => obtain ⟨_, _, hQ⟩ := he; exact hQ.elim
  | goto l => obtain ⟨_, _, hQ⟩ := he; exact hQ.elim
  | outgrown => exact he.elim
end
end Go.Hm
end
