/-
  Own texts, joined by mkclaim.py: Pc, Pd, Pe, Pf, Pg, Ph.
-/
import Derived.Test.YtcbkblboonkfhaaGreatX20
import Derived.Test.YtcbkblboonkfhaaGreatX18
import Derived.Test.YtcbkblboonkfhaaGreatX14
import Derived.Test.YtcbkblboonkfhaaGreatX19
set_option linter.unusedSimpArgs false
set_option linter.unusedVariables false
set_option maxRecDepth 100000
set_option maxHeartbeats 4000000

section
namespace Go.Proofs.YtcbkblboonkfhaaGreat
open Go Go.Hm Go.Proofs
abbrev qsPc0 : Sch := .q 0 <| .q 1 <| .q 2 <| .q 3 <| .q 4 <| .q 5 <| .q 6 <| .l 7 [6, 5, 4, 3, 2, 1, 0] <| .q 8 <| .l 9 [6, 5, 4, 3, 2, 1, 0] <| .l 10 [6, 5, 3, 2, 1, 0] <| .q 11 <| .q 12 <| .l 13 [11] <| .done
abbrev qsPc1 : Sch := .q 0 <| .q 1 <| .q 2 <| .q 3 <| .q 4 <| .q 5 <| .q 6 <| .q 7 <| .q 8 <| .q 9 <| .q 10 <| .q 11 <| .q 12 <| .q 13 <| .q 14 <| .q 15 <| .q 16 <| .q 17 <| .l 18 [16, 15, 14, 12, 11, 10, 9, 8, 7, 6, 5, 4, 3, 2] <| .done
abbrev qsPc2 : Sch := .q 0 <| .q 1 <| .q 2 <| .q 3 <| .q 4 <| .q 5 <| .q 6 <| .q 7 <| .q 8 <| .q 9 <| .q 10 <| .q 11 <| .q 12 <| .q 13 <| .l 14 [12] <| .done
abbrev qsPc3 : Sch := .q 0 <| .q 1 <| .q 2 <| .q 3 <| .q 4 <| .q 5 <| .q 6 <| .q 7 <| .q 8 <| .l 9 [7, 6, 5, 4, 3, 2, 1, 0] <| .l 10 [7, 6, 5, 4, 3, 2, 1] <| .l 11 [] <| .done
theorem actRows_map {n m : Nm} {l : List Hm.Act} {g : List AV → List AV} (h : ∀ (i : Nat) a, l[i]? = some a → g [iv a.blk, iv (outI i a), .hs (.c n i 2) 3 0 8] = [iv a.blk, iv (outI i a), .hs (.c m i 2) 3 0 8]) : (actRows n l).map g = actRows m l := by
  apply List.ext_getElem?
  intro j
  rw [List.getElem?_map, actRows_get, actRows_get]
  cases hj : l[j]? with
  | none => rfl
  | some a => simp only [Option.map_some]; rw [h j a hj]
theorem clsRows_map {n m : Nm} {l : List (List Slt)} {g : List AV → List AV} (h : ∀ (i : Nat) c, l[i]? = some c → g [.hs (.c n i 0) 3 0 8] = [.hs (.c m i 0) 3 0 8]) : (clsRows n l).map g = clsRows m l := by
  apply List.ext_getElem?
  intro j
  rw [List.getElem?_map, clsRows_get, clsRows_get]
  cases hj : l[j]? with
  | none => rfl
  | some a => simp only [Option.map_some]; rw [h j a hj]
theorem funRows_map {n m : Nm} {l : List (Nat × Nat)} {g : List AV → List AV} (h : ∀ (i : Nat) c, l[i]? = some c → g [iv c.1, iv c.2, .hs (.c n i 2) 3 0 0] = [iv c.1, iv c.2, .hs (.c m i 2) 3 0 0]) : (funRows n l).map g = funRows m l := by
  apply List.ext_getElem?
  intro j
  rw [List.getElem?_map, funRows_get, funRows_get]
  cases hj : l[j]? with
  | none => rfl
  | some a => simp only [Option.map_some]; rw [h j a hj]
@[simp] theorem slc_hs {P : Program} {T : TypeId} {hp : Nm → Option AO} {n : Nm} {z q len : Nat} {lo hi : Option Int} : slcAV P T hp (.hs n z q len) lo hi = match tel P T with
    | some e => if z = tsz P e ∧ 0 ≤ lo.getD 0 ∧ lo.getD 0 ≤ hi.getD len ∧ (hi.getD len ≤ len ∨ q + (hi.getD len).toNat ≤ rowsIn hp n z) then some (.hs n z (q + (lo.getD 0).toNat) ((hi.getD len).toNat - (lo.getD 0).toNat)) else none
    | none => none := rfl
@[simp] theorem mem_slrows {l : List Slt} {r : List AV} : r ∈ slrows l ↔ ∃ s ∈ l, slotC s = r := by simp [slrows]
theorem emptySlots_fn (gl) : FnOk Tryz.prog gl 101 [] (fun r y H' => y = .hs r 3 0 8 ∧ H' r = some (.row 3 (slrows noSlots))) := by
  have h0 : List.replicate 8 [bv false, iv 0, iv 0] = slrows noSlots := rfl
  refine FnOk.of_sem Tryz.func101 rfl (by kernel_rfl) (rs := [.tmp 0]) rfl Tryz.ntmps101 (Nat.le_of_ble_eq_true rfl) fun C w g root => ?_
  have fx :=  h0
  refine k_run ?_
  clear fx
  refine e_ret [(.s 0, root)] (.one rfl) (by simp; rfl) ⟨by simp, by simp [← h0]⟩
theorem copySlots_fn (gl) (l : List Slt) (hl : l.length = 8) : FnOk Tryz.prog gl 206 [.sl 3 (slrows l)] (fun r y H' => y = .hs r 3 0 8 ∧ H' r = some (.row 3 (slrows l))) := by
  refine FnOk.of_sem Tryz.func206 rfl (by kernel_rfl) (rs := [.tmp 2]) rfl Tryz.ntmps206 (Nat.le_of_ble_eq_true rfl) fun C w g root => ?_
  have fx :=  hl
  refine k_run ?_
  clear fx
  refine e_ret [(.s 2, root)] (.one rfl) (by simp; rfl) ⟨by simp, by simp⟩
def RBok (gl : Nat → Option (List AV)) (p : Prg) (n : Nat) : Prop := ∀ (H : Nm → Option AO) (W : Wld) (a : Nat), OwnW H p W → WOk p W → W.left < n → a < W.acts.length → W.en = 0 → H (.u 2 0 0) = none →
  FnE Tryz.prog gl 102 (Nm.under Wn) [.pt Wn 0, iv a] H (fun _ y H' => y = Val.av (runW p n W a).2 ∧ OwnW H' p (runW p n W a).1) noE
theorem enter_fn (gl) (p : Prg) (n : Nat) (hR : RBok gl p n) (H : Nm → Option AO) (W : Wld) (b up lo : Nat) (vs all : List Val) (hP : ValP p) (hw : WOk p W) (hn : W.left < n) (h0 : W.en = 0) (hm : madeAt p W.acts b up) (hv : ∀ v ∈ vs, VOk W.funs.length W.classes.length v) (hr : Room 1 W)
    (hall : all.drop lo = vs) (hlo : lo + vs.length = all.length) (hpar : parN p b = vs.length) (hv2 : vs.length ≤ 1) (hO : OwnW H p W) (hL : H (.u 2 0 0) = some (.row 2 (vrows all))) :
    FnE Tryz.prog gl 195 D12 [.pt Wn 0, iv b, iv up, .hs (.u 2 0 0) 2 lo vs.length] H (fun r y H' => y = .tup [Val.av (enterW p (runW p n) W b up vs).2, .hs r 3 0 8] ∧ H' r = some (.row 3 (slrows ((enterW p (runW p n) W b up vs).1.vars (some W.acts.length)))) ∧ OwnW H' p (enterW p (runW p n) W b up vs).1) noE := by
  have hT := hO.top
  have hA := hO.acts
  obtain ⟨sl, hS⟩ := hO.stk
  simp only [wRow] at hT
  have hl1 := hr.acts
  have hl2 := hr.stk
  have hal : W.acts.length ≤ 1000 := by omega
  have hsl : W.stack.length ≤ 1000 := by omega
  refine FnE.of_sem Tryz.func195 rfl (by kernel_rfl) (rs := [.cell 8 117, .tmp 9]) rfl Tryz.ntmps195 (Nat.le_of_ble_eq_true rfl) (fun _ => D12_root) fun C w g root hroot => ?_
  have hr0 := hroot root (Nm.under_self _)
  simp only [D12_eq, Bool.or_eq_false_iff] at hr0
  obtain ⟨hr1, hr2⟩ := hr0
  have fx := And.intro hT <| And.intro hA <| And.intro hS <| And.intro hal <| hsl
  have d1 := emptySlots_fn gl
  refine k_run ?_
  repeat ((first | refine wSc (id := 2) qsPc0 mixed ?_ | refine wSc (id := 7) qsPc1 mixed ?_ | refine wSc (id := 10) qsPc2 mixed ?_ | refine wSc (id := 11) qsPc3 mixed ?_); refine k_rund ?_; refine k_run ?_)
  clear fx d1
  have hap : actRows (.c Wn 0 1) W.acts ++ [[iv b, iv (outI W.acts.length ⟨b, up, noSlots⟩), .hs (.c (.c Wn 0 1) W.acts.length 2) 3 0 8]] = actRows (.c Wn 0 1) (W.acts ++ [⟨b, up, noSlots⟩]) := actRows_app (a := ⟨b, up, noSlots⟩)
  have hpos : ¬ W.acts.length = 0 := by
    obtain ⟨a, ha, _⟩ := hw.a0
    have := (gS ha).1
    omega
  have hoi : outI W.acts.length ⟨b, up, noSlots⟩ = up := by simp only [outI, hpos, if_false]
  rw [hoi] at hap
  have hb0 : begI p W b up vs 0 = { W with acts := W.acts ++ [⟨b, up, noSlots⟩], stack := W.stack ++ [W.acts.length] } := by simp [begI, bindP]
  refine w_loop (fun n st => ∃ i : Nat, n = vs.length - i ∧ i ≤ vs.length ∧ st.tm 0 = .pt Wn 0 ∧ st.tm 1 = iv b ∧ st.tm 3 = .hs (.u 2 0 0) 2 lo vs.length ∧ st.hp (.u 2 0 0) = some (.row 2 (vrows all)) ∧ st.tm 8 = .pt (.s 8) 0 ∧ st.hp (.s 8) = some (.row 2 [[iv 0, iv 0]]) ∧ st.tm 10 = iv W.acts.length ∧ st.tm 11 = iv i ∧ OwnW st.hp p (begI p W b up vs i)) vs.length ?_ ?_
  · refine ⟨0, by omega, by omega, by simp, by simp, by simp, by simp [hL], by simp, by simp, by simp, by simp, ?_⟩
    rw [hb0]
    refine ⟨by simp [wRow], ?_, fun i a ha => ?_, ⟨[], by simp [nints]⟩, by simp [hO.glob], by simp [hO.funs], by simp [hO.clss], fun i c hc => by simp [hO.cls i c hc], by simp [hO.out], by simp [hO.trc]⟩
    · simp [← hap]
      rw [List.take_of_length_le (by simp)]
      refine actRows_map fun i a ha => ?_
      have hne : ¬ i = W.acts.length := by have := (gS ha).1; omega
      have hne' : ¬ W.acts.length = i := by omega
      simp [hne, hne']
    rcases Nat.lt_or_ge i W.acts.length with hlt | hge
    · have ha' : W.acts[i]? = some a := by simpa [List.getElem?_append_left hlt] using ha
      have hne : ¬ i = W.acts.length := by omega
      have hne' : ¬ W.acts.length = i := by omega
      simp [hO.act i a ha', hne, hne']
    · have hi : i = W.acts.length := by
        have := (gS ha).1
        simp at this
        omega
      subst hi
      have ha' : a = ⟨b, up, noSlots⟩ := by simpa using ha.symm
      subst ha'
      simp
  clear hT hA hS hap hb0 hO
  obtain ⟨k, hk, hpk⟩ := hm.shape
  obtain ⟨_, hkE⟩ := gS hk
  have hkl := (gS hk).1
  rintro m st - - ⟨i, rfl, hi, t0, t1, t3, hp2, t8, hp8, t10, t11, hO⟩
  have hT := hO.top
  have hA := hO.acts
  have hok : WOk p (begI p W b up vs i) := begI_ok hw hm hv hr
  have hlen : (begI p W b up vs i).acts.length = W.acts.length + 1 := by simp [begI]
  simp only [wRow] at hT
  by_cases hil : i < vs.length
  · obtain ⟨x, hx⟩ : ∃ x, k.params[i]? = some x := ⟨_, gE (by omega)⟩
    obtain ⟨hxl, hxE⟩ := gS hx
    have hxr := (hP.sh.names k (List.mem_of_getElem? hk)).params x (List.mem_of_getElem? hx)
    obtain ⟨v, hvi⟩ : ∃ v, vs[i]? = some v := ⟨_, gE hil⟩
    have hva : all[lo + i]? = some v := by rw [← hvi, ← hall, List.getElem?_drop]
    obtain ⟨hal', hvE⟩ := gS hva
    have hst := begI_store (w := W) (up := up) hP hk hx hvi
    obtain ⟨X, rfl⟩ : ∃ X : Nat, x = X := ⟨x.toNat, by omega⟩
    obtain ⟨v1, v2⟩ := v
    have fx := And.intro t0 <| And.intro t1 <| And.intro t3 <| And.intro hp2 <| And.intro t8 <| And.intro hp8 <| And.intro t10 <| And.intro t11 <| And.intro hT <| And.intro hil <| And.intro hk <| And.intro hkE <| And.intro hkl <| And.intro hx <| And.intro hxE <| And.intro hxl <| And.intro hva <| And.intro hvE <| hal'
    refine k_run ?_
    repeat ((first | refine wSc (id := 2) qsPc0 mixed ?_ | refine wSc (id := 7) qsPc1 mixed ?_ | refine wSc (id := 10) qsPc2 mixed ?_ | refine wSc (id := 11) qsPc3 mixed ?_); refine k_rund ?_; refine k_run ?_)
    clear fx
    intro K hK
    have fx := And.intro t0 (And.intro t10 hT)
    refine x_mut Wn rfl (by simp [hT]) (hF := store_fn _ _ p (begI p W b up vs i) W.acts.length X (v1, v2) hP.sh hok (by omega) (by omega) (have ow := hO; OwnW.re ow)) (h := ?_)
    rintro y H1 hO1
    clear fx
    rw [hst] at hO1
    have hT1 := hO1.top
    simp only [wRow] at hT1
    have fx := And.intro t0 <| And.intro t1 <| And.intro t3 <| And.intro hp2 <| And.intro t8 <| And.intro hp8 <| And.intro t10 <| And.intro t11 <| And.intro hT <| And.intro hT1 <| And.intro hil <| And.intro hk <| And.intro hkE <| And.intro hkl <| And.intro hx <| And.intro hxE <| And.intro hxl <| And.intro hva <| And.intro hvE <| hal'
    refine k_run ?_
    repeat ((first | refine wSc (id := 2) qsPc0 mixed ?_ | refine wSc (id := 7) qsPc1 mixed ?_ | refine wSc (id := 10) qsPc2 mixed ?_ | refine wSc (id := 11) qsPc3 mixed ?_); refine k_rund ?_; refine k_run ?_)
    clear fx
    refine ⟨vs.length - (i + 1), by omega, i + 1, rfl, by omega, by simp [t0, hT], by simp [t1], by simp [t3], by simp [hp2], by simp [t8], by simp [hp8], by simp [t10], by simp [t11]; exact wrp (by omega) (by omega), (have ow := hO1; OwnW.re ow)⟩
  · obtain rfl : i = vs.length := by omega
    have hbeg : begI p W b up vs vs.length = beginW p W b up vs := begI_all (by omega) (Nat.le_refl _)
    rw [hbeg] at hO hok hlen hT hA
    have fx := And.intro t0 <| And.intro t1 <| And.intro t3 <| And.intro t10 <| And.intro t11 <| hT
    refine k_run ?_
    repeat ((first | refine wSc (id := 2) qsPc0 mixed ?_ | refine wSc (id := 7) qsPc1 mixed ?_ | refine wSc (id := 10) qsPc2 mixed ?_ | refine wSc (id := 11) qsPc3 mixed ?_); refine k_rund ?_; refine k_run ?_)
    clear fx
    intro K hK
    have fx := And.intro t0 (And.intro t10 hT)
    refine x_mut Wn rfl (by simp [hT]) (hF := hR _ (beginW p W b up vs) W.acts.length (have ow := hO; OwnW.re ow) hok hn (by omega) h0 (by simp)) (h := ?_)
    rintro y H1 ⟨rfl, hO1⟩
    clear fx
    obtain ⟨hAf, hvok⟩ := runW_ok hP.sh n (beginW p W b up vs) W.acts.length hok hn (by omega) h0
    have hent : enterW p (runW p n) W b up vs = (endW (runW p n (beginW p W b up vs) W.acts.length).1, (runW p n (beginW p W b up vs) W.acts.length).2) := rfl
    generalize runW p n (beginW p W b up vs) W.acts.length = q at hO1 hAf hvok hent
    obtain ⟨V, v1, v2⟩ := q
    simp only at hO1 hAf hvok hent
    have hVl : W.acts.length < V.acts.length := by have := hAf.grow.lacts; omega
    obtain ⟨a', ha'⟩ : ∃ a', V.acts[W.acts.length]? = some a' := ⟨_, gE hVl⟩
    obtain ⟨_, haE⟩ := gS ha'
    have hal8 := (hAf.ok.vars _ a' ha').1
    have hT1 := hO1.top
    have hA1 := hO1.acts
    have hV1 := hO1.act _ a' ha'
    obtain ⟨sl1, hS1⟩ := hO1.stk
    simp only [wRow] at hT1
    by_cases hen : V.en = 0
    · have hstk : V.stack = W.stack ++ [W.acts.length] := hAf.stk hen
      have hsl1 : V.stack.length = W.stack.length + 1 := by rw [hstk]; simp
      have hwr : IntKind.i64.wrap (W.stack.length : Int) = W.stack.length := wrp (by omega) (by omega)
      have hend : endW V = { V with stack := W.stack } := by
        unfold endW
        rw [if_pos hen, hstk]
        simp
      rw [hend] at hent
      rw [hsl1] at hT1
      have hle1 : (W.stack.length : Int) ≤ (W.stack.length : Int) + 1 := by omega
      have hle0 : (0 : Int) ≤ (W.stack.length : Int) := by omega
      have fx := And.intro t0 <| And.intro t1 <| And.intro t3 <| And.intro t8 <| And.intro hp8 <| And.intro t10 <| And.intro t11 <| And.intro hT <| And.intro hT1 <| And.intro hA1 <| And.intro hV1 <| And.intro hS1 <| And.intro hen <| And.intro hsl1 <| And.intro hwr <| And.intro hle1 <| And.intro hle0 <| And.intro ha' <| And.intro haE <| hVl
      have d1 := copySlots_fn gl a'.vars hal8
      refine k_run ?_
      repeat ((first | refine wSc (id := 2) qsPc0 mixed ?_ | refine wSc (id := 7) qsPc1 mixed ?_ | refine wSc (id := 10) qsPc2 mixed ?_ | refine wSc (id := 11) qsPc3 mixed ?_); refine k_rund ?_; refine k_run ?_)
      clear fx d1
      rw [hent]
      refine e_ret [(.s 9, root)] (.one rfl) (by simp [t8]; rfl) ⟨by simp, ?_, OwnW.finD ?_ (fun _ => D12_root) (fun m hm => by simp [hm]) (by simp [Nm.sroot])⟩
      · simp [hr1, hr2, Wld.vars, ha']
      · exact ⟨by simp [wRow, hen], by simp [hA1], fun i a ha => by simp [hO1.act i a ha], ⟨(W.acts.length : Int) :: sl1, by simp [hS1, hstk, nints]⟩, by simp [hO1.glob], by simp [hO1.funs], by simp [hO1.clss], fun i c hc => by simp [hO1.cls i c hc], by simp [hO1.out], by simp [hO1.trc]⟩
    · have hend : endW V = V := by
        unfold endW
        rw [if_neg hen]
      have henb : (V.en == 0) = false := by simpa using hen
      rw [hend] at hent
      have fx := And.intro t0 <| And.intro t1 <| And.intro t3 <| And.intro t8 <| And.intro hp8 <| And.intro t10 <| And.intro t11 <| And.intro hT <| And.intro hT1 <| And.intro hA1 <| And.intro hV1 <| And.intro henb <| And.intro ha' <| And.intro haE <| hVl
      have d1 := copySlots_fn gl a'.vars hal8
      refine k_run ?_
      repeat ((first | refine wSc (id := 2) qsPc0 mixed ?_ | refine wSc (id := 7) qsPc1 mixed ?_ | refine wSc (id := 10) qsPc2 mixed ?_ | refine wSc (id := 11) qsPc3 mixed ?_); refine k_rund ?_; refine k_run ?_)
      clear fx d1
      rw [hent]
      refine e_ret [(.s 9, root)] (.one rfl) (by simp [t8]; rfl) ⟨by simp, ?_, OwnW.finD (have ow := hO1; OwnW.re ow) (fun _ => D12_root) (fun m hm => by simp [hm]) (by simp [Nm.sroot])⟩
      simp [hr1, hr2, Wld.vars, ha']
abbrev qsPd0 : Sch := .q 0 <| .q 1 <| .q 2 <| .q 3 <| .q 4 <| .q 5 <| .q 6 <| .q 7 <| .l 8 [7, 6, 5, 4, 3, 2, 1, 0] <| .l 9 [] <| .done
abbrev qsPd1 : Sch := .q 0 <| .q 1 <| .q 2 <| .q 3 <| .q 4 <| .q 5 <| .q 6 <| .q 7 <| .q 8 <| .q 9 <| .q 10 <| .q 11 <| .q 12 <| .q 13 <| .done
theorem call_fn (gl) (p : Prg) (n : Nat) (hR : RBok gl p n) (H : Nm → Option AO) (W : Wld) (f : Val) (lo : Nat) (vs all : List Val) (hP : ValP p) (hw : WOk p W) (hn : W.left < n) (h0 : W.en = 0) (hf : VOk W.funs.length W.classes.length f) (hv : ∀ v ∈ vs, VOk W.funs.length W.classes.length v) (hr : Room 1 W)
    (hall : all.drop lo = vs) (hlo : lo + vs.length = all.length) (hv2 : vs.length ≤ 1) (hO : OwnW H p W) (hL : H (.u 2 0 0) = some (.row 2 (vrows all))) :
    FnE Tryz.prog gl 196 D12 [.pt Wn 0, Val.av f, .hs (.u 2 0 0) 2 lo vs.length] H (fun _ y H' => y = Val.av (callW p (runW p n) W f vs).2 ∧ OwnW H' p (callW p (runW p n) W f vs).1) noE := by
  have hT := hO.top
  simp only [wRow] at hT
  obtain ⟨f1, f2⟩ := f
  refine FnE.of_sem Tryz.func196 rfl (by kernel_rfl) (rs := [.cell 6 117]) rfl Tryz.ntmps196 (Nat.le_of_ble_eq_true rfl) (fun _ => D12_root) fun C w g root hroot => ?_
  by_cases h2 : f1 = 2
  · subst h2
    have hf2 := hf.num
    have hf3 := hf.fn rfl
    simp only at hf2 hf3
    obtain ⟨i, rfl⟩ : ∃ i : Nat, f2 = i := ⟨f2.toNat, by omega⟩
    have hil : i < W.funs.length := by omega
    obtain ⟨g, hg⟩ : ∃ g, W.funs[i]? = some g := ⟨_, gE hil⟩
    obtain ⟨_, hgE⟩ := gS hg
    have hm := hw.funs i g hg
    obtain ⟨k, hk, hpk⟩ := hm.shape
    obtain ⟨hkl, hkE⟩ := gS hk
    have hF := hO.funs
    by_cases hl : k.params.length = vs.length
    · have hc : callW p (runW p n) W (2, (i : Int)) vs = enterW p (runW p n) W g.1 g.2 vs := by
        simp [callW, hg, hpk, hl]
      have hlb : ((k.params.length : Int) == (vs.length : Int)) = true := by rw [hl]; simp
      have fx := And.intro hT <| And.intro hF <| And.intro hil <| And.intro hg <| And.intro hgE <| And.intro hk <| And.intro hkE <| And.intro hkl <| And.intro hlb <| @bne_def
      refine k_run ?_
      repeat ((first | refine wSc (id := 4) qsPd0 mixed ?_ | refine wSc (id := 5) qsPd1 mixed ?_); refine k_rund ?_; refine k_run ?_)
      clear fx
      intro K hK
      have fx := And.intro hT hF
      refine x_mut12 (by simp [hT]) (by simp [hL]) (hF := enter_fn _ p n hR _ W g.1 g.2 lo vs all hP hw hn h0 hm hv hr hall hlo (by rw [hpk, hl]) hv2 (have ow := hO; OwnW.re ow) (by simp [hL])) (h := ?_)
      rintro y H1 ⟨rfl, hp1, hO1⟩
      clear fx
      have hT1 := hO1.top
      simp only [wRow] at hT1
      have fx := And.intro hT <| And.intro hT1 <| hp1
      refine k_run ?_
      repeat ((first | refine wSc (id := 4) qsPd0 mixed ?_ | refine wSc (id := 5) qsPd1 mixed ?_); refine k_rund ?_; refine k_run ?_)
      clear fx
      rw [hc]
      refine e_ret [] .nil (by simp; rfl) ⟨by simp, OwnW.finD (have ow := hO1; OwnW.re ow) (fun _ => D12_root) (fun m hm => by simp [hm]) (by simp)⟩
    · have hc : callW p (runW p n) W (2, (i : Int)) vs = ({ W with en := 6 }, (0, 0)) := by
        simp [callW, hg, hpk, hl]
      have hlb : ((k.params.length : Int) == (vs.length : Int)) = false := by
        rw [beq_eq_false_iff_ne]
        omega
      have fx := And.intro hT <| And.intro hF <| And.intro hil <| And.intro hg <| And.intro hgE <| And.intro hk <| And.intro hkE <| And.intro hkl <| And.intro hlb <| @bne_def
      refine k_run ?_
      repeat ((first | refine wSc (id := 4) qsPd0 mixed ?_ | refine wSc (id := 5) qsPd1 mixed ?_); refine k_rund ?_; refine k_run ?_)
      clear fx
      rw [hc]
      refine e_ret [] .nil (by simp; rfl) ⟨by simp, OwnW.finD ⟨by simp [hO.top, wRow, hT], by simp [hO.acts, hT], fun i a ha => by simp [hO.act i a ha, hT], hO.stk.imp fun l hl => by simp [hl, hT], by simp [hO.glob, hT], by simp [hO.funs, hT], by simp [hO.clss, hT], fun i c hc => by simp [hO.cls i c hc, hT], by simp [hO.out, hT], by simp [hO.trc, hT]⟩ (fun _ => D12_root) (fun m hm => by simp [hm]) (by simp)⟩
  · have hb1 : (f1 == 2) = false := by simpa using h2
    have hc : callW p (runW p n) W (f1, f2) vs = ({ W with en := 5 }, (0, 0)) := by simp [callW, h2]
    have fx := And.intro hT <| And.intro hb1 <| @bne_def
    refine k_run ?_
    repeat ((first | refine wSc (id := 4) qsPd0 mixed ?_ | refine wSc (id := 5) qsPd1 mixed ?_); refine k_rund ?_; refine k_run ?_)
    clear fx
    rw [hc]
    refine e_ret [] .nil (by simp; rfl) ⟨by simp, OwnW.finD ⟨by simp [hO.top, wRow, hT], by simp [hO.acts, hT], fun i a ha => by simp [hO.act i a ha, hT], hO.stk.imp fun l hl => by simp [hl, hT], by simp [hO.glob, hT], by simp [hO.funs, hT], by simp [hO.clss, hT], fun i c hc => by simp [hO.cls i c hc, hT], by simp [hO.out, hT], by simp [hO.trc, hT]⟩ (fun _ => D12_root) (fun m hm => by simp [hm]) (by simp)⟩
end Go.Proofs.YtcbkblboonkfhaaGreat
end
section
namespace Go.Proofs.YtcbkblboonkfhaaGreat
open Go Go.Hm Go.Proofs
abbrev qsPe0 : Sch := .q 0 <| .q 1 <| .q 2 <| .q 3 <| .q 4 <| .q 5 <| .q 6 <| .l 7 [5, 4, 2, 1] <| .l 8 [] <| .done
abbrev qsPe1 : Sch := .q 0 <| .q 1 <| .q 2 <| .q 3 <| .q 4 <| .q 5 <| .q 6 <| .q 7 <| .q 8 <| .l 9 [7, 6, 5, 4, 3, 2, 1, 0] <| .l 10 [7, 6, 5, 3, 2, 1, 0] <| .q 11 <| .q 12 <| .l 13 [11] <| .done
abbrev qsPe2 : Sch := .q 0 <| .q 1 <| .q 2 <| .q 3 <| .q 4 <| .q 5 <| .l 6 [4, 2, 1] <| .l 7 [] <| .done
theorem valueOf_fn (gl) (p : Prg) (n : Nat) (hR : RBok gl p n) (H : Nm → Option AO) (W : Wld) (a : Nat) (k : Blk) (s : Stm) (hP : ValP p) (hw : WOk p W) (hn : W.left < n) (h0 : W.en = 0) (ha : a < W.acts.length) (hk : p[W.blk a]? = some k) (hs : s ∈ k.body) (hkd : 0 ≤ s.kind ∧ s.kind ≤ 7) (hr : Room 2 W) (hO : OwnW H p W) (hV : H (.u 2 0 0) = none) :
    FnE Tryz.prog gl 177 (Nm.under Wn) [.pt Wn 0, iv a, s.av] H (fun _ y H' => y = Val.av (valueW p (runW p n) W a s).2 ∧ OwnW H' p (valueW p (runW p n) W a s).1) noE := by
  have hT := hO.top
  simp only [wRow] at hT
  have hst := hP.sh.stm _ k hk s hs
  have hnm := hP.sh.names k (List.mem_of_getElem? hk)
  have hrd := hnm.reads s hs
  have hrl := Stm.reads_len s
  refine FnE.of_sem Tryz.func177 rfl (by kernel_rfl) (rs := [.cell 6 117]) rfl Tryz.ntmps177 (Nat.le_of_ble_eq_true rfl) (fun _ => under_usroot rfl) fun C w g root hroot => ?_
  have fx :=  hT
  have d1 := readsOf_fn gl s
  refine k_run ?_
  repeat ((first | refine wSc (id := 8) qsPe0 mixed ?_ | refine wSc (id := 10) qsPe1 mixed ?_ | refine wSc (id := 19) qsPe2 mixed ?_ | refine wSc (id := 21) qsPe2 mixed ?_); refine k_rund ?_; refine k_run ?_)
  clear fx d1
  intro K hK
  refine o_mv (.s 13) (.u 2 0 0) (.inl rfl) (.inr (by simp [ctx0, hV])) ?_
  have fx := hT
  refine x_mut12 (by simp [hT]) (by simp) (hF := loads_fn _ _ p W a s.reads hP.sh hw ha hrd hrl (have ow := hO; OwnW.re ow) (by simp)) (h := ?_)
  rintro y H1 ⟨rfl, hp1, hO1⟩
  clear fx
  obtain ⟨hA, hvok, hcase, hlen, _⟩ := loadsW_ok (a := a) (l := s.reads) hw
  have hval : valueW p (runW p n) W a s = if (loadsW p W a s.reads).1.en ≠ 0 then ((loadsW p W a s.reads).1, (0, 0)) else workW p (runW p n) (loadsW p W a s.reads).1 a s (loadsW p W a s.reads).2 := rfl
  generalize loadsW p W a s.reads = q at hp1 hO1 hA hvok hcase hlen hval
  obtain ⟨V, vs⟩ := q
  simp only at hp1 hO1 hA hvok hcase hlen hval
  have hT1 := hO1.top
  simp only [wRow] at hT1
  obtain ⟨kd, to, sa, sb⟩ := s
  simp only at hkd
  by_cases hen : V.en = 0
  case neg =>
    rw [if_pos hen] at hval
    have henb : (V.en == 0) = false := by simpa using hen
    have fx := And.intro hT <| And.intro hT1 <| And.intro hp1 <| And.intro henb <| @bne_def
    refine k_run ?_
    repeat ((first | refine wSc (id := 8) qsPe0 mixed ?_ | refine wSc (id := 10) qsPe1 mixed ?_ | refine wSc (id := 19) qsPe2 mixed ?_ | refine wSc (id := 21) qsPe2 mixed ?_); refine k_rund ?_; refine k_run ?_)
    clear fx
    rw [hval]
    refine e_ret [] .nil (by simp; rfl) ⟨by simp, (have ow := hO1; OwnW.re ow)⟩
  rw [if_neg (by simpa using hen)] at hval
  obtain rfl : V = W := by
    rcases hcase with e | ⟨e, he, h⟩
    · exact e
    · rw [h] at hen
      exact absurd hen he
  have hl := hlen hen
  have henb : (V.en == 0) = true := by simpa using hen
  have hkc : kd = 0 ∨ kd = 1 ∨ kd = 2 ∨ kd = 3 ∨ kd = 4 ∨ kd = 5 ∨ kd = 6 ∨ kd = 7 := by omega
  rcases hkc with rfl | rfl | rfl | rfl | rfl | rfl | rfl | rfl
  · have hw0 : workW p (runW p n) V a ⟨0, to, sa, sb⟩ vs = (V, (1, sa)) := by simp [workW]
    rw [hw0] at hval
    have fx := And.intro hT <| And.intro hT1 <| And.intro hp1 <| And.intro henb <| @bne_def
    refine k_run ?_
    repeat ((first | refine wSc (id := 8) qsPe0 mixed ?_ | refine wSc (id := 10) qsPe1 mixed ?_ | refine wSc (id := 19) qsPe2 mixed ?_ | refine wSc (id := 21) qsPe2 mixed ?_); refine k_rund ?_; refine k_run ?_)
    clear fx
    rw [hval]
    refine e_ret [] .nil (by simp; rfl) ⟨by simp, (have ow := hO1; OwnW.re ow)⟩
  · obtain ⟨u, rfl⟩ : ∃ u, vs = [u] := by
      match vs, hl with
      | [u], _ => exact ⟨u, rfl⟩
      | [], h => simp [Stm.reads] at h
      | _ :: _ :: _, h => simp [Stm.reads] at h
    have hw0 : workW p (runW p n) V a ⟨1, to, sa, sb⟩ [u] = (V, u) := by simp [workW]
    rw [hw0] at hval
    have fx := And.intro hT <| And.intro hT1 <| And.intro hp1 <| And.intro henb <| @bne_def
    refine k_run ?_
    repeat ((first | refine wSc (id := 8) qsPe0 mixed ?_ | refine wSc (id := 10) qsPe1 mixed ?_ | refine wSc (id := 19) qsPe2 mixed ?_ | refine wSc (id := 21) qsPe2 mixed ?_); refine k_rund ?_; refine k_run ?_)
    clear fx
    rw [hval]
    refine e_ret [] .nil (by simp; rfl) ⟨by simp, (have ow := hO1; OwnW.re ow)⟩
  · obtain ⟨u, v, rfl⟩ : ∃ u v, vs = [u, v] := by
      match vs, hl with
      | [u, v], _ => exact ⟨u, v, rfl⟩
      | [], h => simp [Stm.reads] at h
      | [_], h => simp [Stm.reads] at h
      | _ :: _ :: _ :: _, h => simp [Stm.reads] at h
    have hw0 : workW p (runW p n) V a ⟨2, to, sa, sb⟩ [u, v] = plusW V u v := by simp [workW]
    rw [hw0] at hval
    have fx := And.intro hT <| And.intro hT1 <| And.intro hp1 <| And.intro henb <| @bne_def
    refine k_run ?_
    repeat ((first | refine wSc (id := 8) qsPe0 mixed ?_ | refine wSc (id := 10) qsPe1 mixed ?_ | refine wSc (id := 19) qsPe2 mixed ?_ | refine wSc (id := 21) qsPe2 mixed ?_); refine k_rund ?_; refine k_run ?_)
    clear fx
    intro K hK
    have fx := And.intro hT hT1
    refine x_mut Wn rfl (by simp [hT1]) (hF := plus_fn _ _ p V u v (hvok u (by simp)) (hvok v (by simp)) (have ow := hO1; OwnW.re ow)) (h := ?_)
    rintro y H2 ⟨rfl, hO2⟩
    clear fx
    have hT2 := hO2.top
    simp only [wRow] at hT2
    have fx := And.intro hT <| And.intro hT1 <| And.intro hp1 <| And.intro hT2 <| And.intro henb <| @bne_def
    refine k_run ?_
    repeat ((first | refine wSc (id := 8) qsPe0 mixed ?_ | refine wSc (id := 10) qsPe1 mixed ?_ | refine wSc (id := 19) qsPe2 mixed ?_ | refine wSc (id := 21) qsPe2 mixed ?_); refine k_rund ?_; refine k_run ?_)
    clear fx
    rw [hval]
    refine e_ret [] .nil (by simp; rfl) ⟨by simp, (have ow := hO2; OwnW.re ow)⟩
  · obtain ⟨q, hq1, hq2, hq3, hq4⟩ := StmOk.made hst (.inl rfl)
    simp only at hq3
    obtain ⟨A, rfl⟩ : ∃ A : Nat, sa = A := ⟨sa.toNat, by omega⟩
    have hw0 : workW p (runW p n) V a ⟨3, to, (A : Int), sb⟩ vs = ({ V with funs := V.funs ++ [(A, a)] }, (2, (V.funs.length : Int))) := by simp [workW]
    rw [hw0] at hval
    have hF := hO1.funs
    have hfl := hr.funs
    have hfl' : V.funs.length ≤ 1000 := by omega
    have hwr : IntKind.i64.wrap (V.funs.length : Int) = V.funs.length := wrp (by omega) (by omega)
    have hap : funRows (.c Wn 0 4) V.funs ++ [[iv A, iv a, .hs (.c (.c Wn 0 4) V.funs.length 2) 3 0 0]] = funRows (.c Wn 0 4) (V.funs ++ [(A, a)]) := funRows_app
    have fx := And.intro hT <| And.intro hT1 <| And.intro hp1 <| And.intro henb <| And.intro hF <| And.intro hfl' <| And.intro hwr <| @bne_def
    refine k_run ?_
    repeat ((first | refine wSc (id := 8) qsPe0 mixed ?_ | refine wSc (id := 10) qsPe1 mixed ?_ | refine wSc (id := 19) qsPe2 mixed ?_ | refine wSc (id := 21) qsPe2 mixed ?_); refine k_rund ?_; refine k_run ?_)
    clear fx
    rw [hval]
    refine e_ret [] .nil (by simp; rfl) ⟨by simp, OwnW.fin ⟨by simp [wRow, hT1], by simp [hO1.acts], fun i b hb => by simp [hO1.act i b hb], hO1.stk.imp fun l hl => by simp [hl], by simp [hO1.glob], ?_, by simp [hO1.clss], fun i c hc => by simp [hO1.cls i c hc], by simp [hO1.out], by simp [hO1.trc]⟩⟩
    simp [← hap]
    rw [List.take_of_length_le (by simp)]
    refine funRows_map fun i c hc => ?_
    have hne : ¬ i = V.funs.length := by have := (gS hc).1; omega
    have hne' : ¬ V.funs.length = i := by omega
    simp [hne, hne']
  · obtain ⟨q, hq1, hq2, hq3, hq4⟩ := StmOk.made hst (.inr rfl)
    have hm := stm_made hst ha (.inr rfl)
    simp only at hq1 hq3 hm
    obtain ⟨A, rfl⟩ : ∃ A : Nat, sa = A := ⟨sa.toNat, by omega⟩
    simp only [Int.toNat_natCast] at hq1 hm
    have hpar : parN p A = 0 := by
      have hh := hP.sh.head A q hq1
      have hA0 : ¬ A = 0 := by omega
      simp only [HeadOk, hA0, if_false] at hh
      simp only [parN, hq1]
      simp only at hq4
      omega
    have hw0 : workW p (runW p n) V a ⟨4, to, (A : Int), sb⟩ vs = classW p (runW p n) V A a := by simp [workW]
    rw [hw0] at hval
    have fx := And.intro hT <| And.intro hT1 <| And.intro hp1 <| And.intro henb <| @bne_def
    refine k_run ?_
    repeat ((first | refine wSc (id := 8) qsPe0 mixed ?_ | refine wSc (id := 10) qsPe1 mixed ?_ | refine wSc (id := 19) qsPe2 mixed ?_ | refine wSc (id := 21) qsPe2 mixed ?_); refine k_rund ?_; refine k_run ?_)
    clear fx
    intro K hK
    refine o_mv (.s 67) (.u 2 0 0) (.inl rfl) (.inr (by simp [ctx0, hV])) ?_
    have fx := And.intro hT hT1
    refine x_mut12 (by simp [hT1]) (by simp) (hF := enter_fn _ p n hR _ V A a 0 [] [] hP hw hn h0 hm (by simp) (hr.mono (by omega)) rfl rfl (by rw [hpar]; rfl) (by simp) (have ow := hO1; OwnW.re ow) (by simp)) (h := ?_)
    rintro y H2 ⟨rfl, hp2, hO2⟩
    clear fx
    have hcl : classW p (runW p n) V A a = if (enterW p (runW p n) V A a []).1.en ≠ 0 then ((enterW p (runW p n) V A a []).1, (0, 0)) else
      ({ (enterW p (runW p n) V A a []).1 with classes := (enterW p (runW p n) V A a []).1.classes ++ [(enterW p (runW p n) V A a []).1.vars (some V.acts.length)] }, (3, ((enterW p (runW p n) V A a []).1.classes.length : Int))) := rfl
    rw [hcl] at hval
    obtain ⟨⟨e1, e2, e3⟩, e4⟩ := enterW_ok (vs := []) (runW_ok hP.sh n) hw hn h0 hm (by simp) (hr.mono (by omega))
    have hrc : (enterW p (runW p n) V A a []).1.classes.length ≤ 1000 := by have := e1.ncls; omega
    generalize enterW p (runW p n) V A a [] = q2 at hp2 hO2 hval e1 hrc
    obtain ⟨U, v⟩ := q2
    simp only at hp2 hO2 hval e1 hrc
    have hT2 := hO2.top
    simp only [wRow] at hT2
    by_cases hen2 : U.en = 0
    case neg =>
      rw [if_pos hen2] at hval
      have henb2 : (U.en == 0) = false := by simpa using hen2
      have fx := And.intro hT <| And.intro hT1 <| And.intro hp1 <| And.intro hT2 <| And.intro henb2 <| @bne_def
      refine k_run ?_
      repeat ((first | refine wSc (id := 8) qsPe0 mixed ?_ | refine wSc (id := 10) qsPe1 mixed ?_ | refine wSc (id := 19) qsPe2 mixed ?_ | refine wSc (id := 21) qsPe2 mixed ?_); refine k_rund ?_; refine k_run ?_)
      clear fx
      rw [hval]
      refine e_ret [] .nil (by simp; rfl) ⟨by simp, (have ow := hO2; OwnW.re ow)⟩
    rw [if_neg (by simpa using hen2)] at hval
    have henb2 : (U.en == 0) = true := by simpa using hen2
    generalize U.vars (some V.acts.length) = nv at hp2 hval
    have hC := hO2.clss
    have hwr : IntKind.i64.wrap (U.classes.length : Int) = U.classes.length := wrp (by omega) (by omega)
    have hap : clsRows (.c Wn 0 5) U.classes ++ [[.hs (.c (.c Wn 0 5) U.classes.length 0) 3 0 8]] = clsRows (.c Wn 0 5) (U.classes ++ [nv]) := clsRows_app
    have fx := And.intro hT <| And.intro hT1 <| And.intro hp1 <| And.intro hT2 <| And.intro henb2 <| And.intro hp2 <| And.intro hC <| And.intro hrc <| And.intro hwr <| @bne_def
    refine k_run ?_
    repeat ((first | refine wSc (id := 8) qsPe0 mixed ?_ | refine wSc (id := 10) qsPe1 mixed ?_ | refine wSc (id := 19) qsPe2 mixed ?_ | refine wSc (id := 21) qsPe2 mixed ?_); refine k_rund ?_; refine k_run ?_)
    clear fx
    rw [hval]
    refine e_ret [] .nil (by simp; rfl) ⟨by simp, OwnW.fin ⟨by simp [wRow, hT2], by simp [hO2.acts], fun i b hb => by simp [hO2.act i b hb], hO2.stk.imp fun l hl => by simp [hl], by simp [hO2.glob], by simp [hO2.funs], ?_, fun i c hc => ?_, by simp [hO2.out], by simp [hO2.trc]⟩⟩
    · simp [← hap]
      rw [List.take_of_length_le (by simp)]
      refine clsRows_map fun i c hc => ?_
      have hne : ¬ i = U.classes.length := by have := (gS hc).1; omega
      have hne' : ¬ U.classes.length = i := by omega
      simp [hne, hne']
    · simp only at hc
      rcases Nat.lt_or_ge i U.classes.length with hlt | hge
      · rw [List.getElem?_append_left hlt] at hc
        have hne : ¬ i = U.classes.length := by omega
        have hne' : ¬ U.classes.length = i := by omega
        simp [hO2.cls i c hc, hne, hne']
      · rw [List.getElem?_append_right hge] at hc
        have hi : i = U.classes.length := by
          have := (gS hc).1
          simp at this
          omega
        subst hi
        simp at hc
        subst hc
        simp [hp2]
  · have hpos : 0 < vs.length := by
      rw [hl]
      by_cases e : sb = -1 <;> simp [Stm.reads, e]
    obtain ⟨u, tl, rfl⟩ : ∃ u tl, vs = u :: tl := by
      match vs, hpos with
      | u :: tl, _ => exact ⟨u, tl, rfl⟩
    have htl : tl.length ≤ 1 := by simp at hl; omega
    have hw0 : workW p (runW p n) V a ⟨5, to, sa, sb⟩ (u :: tl) = callW p (runW p n) V u tl := by simp [workW]
    rw [hw0] at hval
    have hle1 : (1 : Int) ≤ (tl.length : Int) + 1 := by omega
    have htn : ((tl.length : Int) + 1).toNat = tl.length + 1 := by omega
    have fx := And.intro hT <| And.intro hT1 <| And.intro hp1 <| And.intro henb <| And.intro htl <| And.intro hle1 <| And.intro htn <| @bne_def
    refine k_run ?_
    repeat ((first | refine wSc (id := 8) qsPe0 mixed ?_ | refine wSc (id := 10) qsPe1 mixed ?_ | refine wSc (id := 19) qsPe2 mixed ?_ | refine wSc (id := 21) qsPe2 mixed ?_); refine k_rund ?_; refine k_run ?_)
    clear fx
    intro K hK
    refine o_mv (.s 7) (.u 2 0 0) (.inl rfl) (.inr (by simp [ctx0, hV])) ?_
    have fx := And.intro hT hT1
    refine x_mut12 (by simp [hT1]) (by simp [hp1]) (hF := call_fn _ p n hR _ V u 1 tl (u :: tl) hP hw hn h0 (hvok u (by simp)) (fun v hv => hvok v (by simp [hv])) (hr.mono (by omega)) rfl (by simp; omega) htl (have ow := hO1; OwnW.re ow) (by simp [hp1])) (h := ?_)
    rintro y H2 ⟨rfl, hO2⟩
    clear fx
    have hT2 := hO2.top
    simp only [wRow] at hT2
    have fx := And.intro hT <| And.intro hT1 <| And.intro hp1 <| And.intro hT2 <| And.intro henb <| And.intro htl <| And.intro hle1 <| And.intro htn <| @bne_def
    refine k_run ?_
    repeat ((first | refine wSc (id := 8) qsPe0 mixed ?_ | refine wSc (id := 10) qsPe1 mixed ?_ | refine wSc (id := 19) qsPe2 mixed ?_ | refine wSc (id := 21) qsPe2 mixed ?_); refine k_rund ?_; refine k_run ?_)
    clear fx
    rw [hval]
    refine e_ret [] .nil (by simp; rfl) ⟨by simp, (have ow := hO2; OwnW.re ow)⟩
  · obtain ⟨u, rfl⟩ : ∃ u, vs = [u] := by
      match vs, hl with
      | [u], _ => exact ⟨u, rfl⟩
      | [], h => simp [Stm.reads] at h
      | _ :: _ :: _, h => simp [Stm.reads] at h
    have hsb : 0 ≤ sb ∧ sb ≤ 7 := by
      simp only [StmOk] at hst
      simp at hst
      omega
    obtain ⟨x, rfl⟩ : ∃ x : Nat, sb = x := ⟨sb.toNat, by omega⟩
    have hw0 : workW p (runW p n) V a ⟨6, to, sa, (x : Int)⟩ [u] = attrW V u x := by simp [workW]
    rw [hw0] at hval
    have fx := And.intro hT <| And.intro hT1 <| And.intro hp1 <| And.intro henb <| @bne_def
    refine k_run ?_
    repeat ((first | refine wSc (id := 8) qsPe0 mixed ?_ | refine wSc (id := 10) qsPe1 mixed ?_ | refine wSc (id := 19) qsPe2 mixed ?_ | refine wSc (id := 21) qsPe2 mixed ?_); refine k_rund ?_; refine k_run ?_)
    clear fx
    intro K hK
    have fx := And.intro hT hT1
    refine x_mut Wn rfl (by simp [hT1]) (hF := attr_fn _ _ p V u x hw (hvok u (by simp)) (by omega) (have ow := hO1; OwnW.re ow)) (h := ?_)
    rintro y H2 ⟨rfl, hO2⟩
    clear fx
    have hT2 := hO2.top
    simp only [wRow] at hT2
    have fx := And.intro hT <| And.intro hT1 <| And.intro hp1 <| And.intro hT2 <| And.intro henb <| @bne_def
    refine k_run ?_
    repeat ((first | refine wSc (id := 8) qsPe0 mixed ?_ | refine wSc (id := 10) qsPe1 mixed ?_ | refine wSc (id := 19) qsPe2 mixed ?_ | refine wSc (id := 21) qsPe2 mixed ?_); refine k_rund ?_; refine k_run ?_)
    clear fx
    rw [hval]
    refine e_ret [] .nil (by simp; rfl) ⟨by simp, (have ow := hO2; OwnW.re ow)⟩
  · obtain ⟨u, rfl⟩ : ∃ u, vs = [u] := by
      match vs, hl with
      | [u], _ => exact ⟨u, rfl⟩
      | [], h => simp [Stm.reads] at h
      | _ :: _ :: _, h => simp [Stm.reads] at h
    have hw0 : workW p (runW p n) V a ⟨7, to, sa, sb⟩ [u] = (V, u) := by simp [workW]
    rw [hw0] at hval
    have fx := And.intro hT <| And.intro hT1 <| And.intro hp1 <| And.intro henb <| @bne_def
    refine k_run ?_
    repeat ((first | refine wSc (id := 8) qsPe0 mixed ?_ | refine wSc (id := 10) qsPe1 mixed ?_ | refine wSc (id := 19) qsPe2 mixed ?_ | refine wSc (id := 21) qsPe2 mixed ?_); refine k_rund ?_; refine k_run ?_)
    clear fx
    rw [hval]
    refine e_ret [] .nil (by simp; rfl) ⟨by simp, (have ow := hO1; OwnW.re ow)⟩
abbrev qsPf0 : Sch := .q 0 <| .q 1 <| .q 2 <| .q 3 <| .q 4 <| .q 5 <| .l 6 [4, 3, 2, 1, 0] <| .l 7 [4, 3, 2, 1, 0] <| .l 8 [3, 2, 1, 0] <| .q 9 <| .q 10 <| .l 11 [9] <| .done
theorem runStmt_fn (gl) (p : Prg) (n : Nat) (hR : RBok gl p n) (H : Nm → Option AO) (W : Wld) (a : Nat) (k : Blk) (s : Stm) (hP : ValP p) (hw : WOk p W) (hn : W.left < n) (h0 : W.en = 0) (ha : a < W.acts.length) (hk : p[W.blk a]? = some k) (hs : s ∈ k.body) (h8 : s.kind ≠ 8) (hr : Room 2 W) (hO : OwnW H p W) (hV : H (.u 2 0 0) = none) :
    FnE Tryz.prog gl 149 (Nm.under Wn) [.pt Wn 0, iv a, s.av] H (fun _ y H' => OwnW H' p (stmW p (runW p n) W a s)) noE := by
  have hT := hO.top
  simp only [wRow] at hT
  have hst := hP.sh.stm _ k hk s hs
  have hnm := hP.sh.names k (List.mem_of_getElem? hk)
  have hkd := hnm.kinds s hs
  have hto := hnm.tos s hs
  have hvl := valueOf_fn gl p n hR
  obtain ⟨kd, to, sa, sb⟩ := s
  simp only at h8 hkd hto
  obtain ⟨x, rfl⟩ : ∃ x : Nat, to = x := ⟨to.toNat, by omega⟩
  refine FnE.of_sem Tryz.func149 rfl (by kernel_rfl) (rs := []) rfl Tryz.ntmps149 (Nat.le_of_ble_eq_true rfl) (fun _ => under_usroot rfl) fun C w g root hroot => ?_
  by_cases h9 : kd = 9
  · subst h9
    have hc : stmW p (runW p n) W a ⟨9, x, sa, sb⟩ = W := by simp [stmW]
    have fx :=  hT
    refine k_run ?_
    repeat ((first | refine wSc (id := 9) qsPf0 mixed ?_); refine k_rund ?_; refine k_run ?_)
    clear fx
    rw [hc]
    refine e_ret [] .nil (by simp; rfl) (have ow := hO; OwnW.re ow)
  by_cases h10 : kd = 10
  · subst h10
    have hc : stmW p (runW p n) W a ⟨10, x, sa, sb⟩ = W := by simp [stmW]
    have fx :=  hT
    refine k_run ?_
    repeat ((first | refine wSc (id := 9) qsPf0 mixed ?_); refine k_rund ?_; refine k_run ?_)
    clear fx
    rw [hc]
    refine e_ret [] .nil (by simp; rfl) (have ow := hO; OwnW.re ow)
  have hb9 : (kd == 9) = false := by simpa using h9
  have hb10 : (kd == 10) = false := by simpa using h10
  by_cases h11 : kd = 11
  · subst h11
    have hc : stmW p (runW p n) W a ⟨11, x, sa, sb⟩ = takeW p W a x := by simp [stmW]
    have fx :=  hT
    refine k_run ?_
    repeat ((first | refine wSc (id := 9) qsPf0 mixed ?_); refine k_rund ?_; refine k_run ?_)
    clear fx
    intro K hK
    have fx := hT
    refine x_mut Wn rfl (by simp [hT]) (hF := take_fn _ _ p W a x hP.sh hw ha (by omega) (have ow := hO; OwnW.re ow)) (h := ?_)
    rintro y H1 hO1
    clear fx
    have hT1 := hO1.top
    simp only [wRow] at hT1
    have fx := And.intro hT <| hT1
    refine k_run ?_
    repeat ((first | refine wSc (id := 9) qsPf0 mixed ?_); refine k_rund ?_; refine k_run ?_)
    clear fx
    rw [hc]
    refine e_ret [] .nil (by simp; rfl) (have ow := hO1; OwnW.re ow)
  have hb11 : (kd == 11) = false := by simpa using h11
  have hc : stmW p (runW p n) W a ⟨kd, x, sa, sb⟩ = if (valueW p (runW p n) W a ⟨kd, x, sa, sb⟩).1.en ≠ 0 then (valueW p (runW p n) W a ⟨kd, x, sa, sb⟩).1
      else if kd = 7 then { (valueW p (runW p n) W a ⟨kd, x, sa, sb⟩).1 with out := (valueW p (runW p n) W a ⟨kd, x, sa, sb⟩).1.out ++ [Hm.shown (valueW p (runW p n) W a ⟨kd, x, sa, sb⟩).2] }
      else storeW p (valueW p (runW p n) W a ⟨kd, x, sa, sb⟩).1 a x (valueW p (runW p n) W a ⟨kd, x, sa, sb⟩).2 := by
    simp only [stmW]
    rw [if_neg (by omega), if_neg h11]
  have fx := And.intro hT <| And.intro hb9 <| And.intro hb10 <| hb11
  refine k_run ?_
  repeat ((first | refine wSc (id := 9) qsPf0 mixed ?_); refine k_rund ?_; refine k_run ?_)
  clear fx
  intro K hK
  have fx := hT
  refine x_mut Wn rfl (by simp [hT]) (hF := hvl _ W a k ⟨kd, x, sa, sb⟩ hP hw hn h0 ha hk hs ⟨by simp only; omega, by simp only; omega⟩ hr (have ow := hO; OwnW.re ow) (by simp)) (h := ?_)
  rintro y H1 ⟨rfl, hO1⟩
  clear fx
  obtain ⟨hA, hvok⟩ := valueW_ok (runW_ok hP.sh n) hw hn h0 ha hst hr
  generalize valueW p (runW p n) W a ⟨kd, x, sa, sb⟩ = q at hO1 hA hvok hc
  obtain ⟨V, v⟩ := q
  simp only at hO1 hA hvok hc
  have hT1 := hO1.top
  simp only [wRow] at hT1
  have haV : a < V.acts.length := Nat.lt_of_lt_of_le ha hA.grow.lacts
  by_cases hen : V.en = 0
  case neg =>
    rw [if_pos hen] at hc
    have henb : (V.en == 0) = false := by simpa using hen
    have fx := And.intro hT <| And.intro hT1 <| And.intro henb <| @bne_def
    refine k_run ?_
    repeat ((first | refine wSc (id := 9) qsPf0 mixed ?_); refine k_rund ?_; refine k_run ?_)
    clear fx
    rw [hc]
    refine e_ret [] .nil (by simp; rfl) (have ow := hO1; OwnW.re ow)
  rw [if_neg (by simpa using hen)] at hc
  have henb : (V.en == 0) = true := by simpa using hen
  by_cases h7 : kd = 7
  · subst h7
    rw [if_pos rfl] at hc
    have hU := hO1.out
    have hol := hA.ok.nout
    have hol' : V.out.length ≤ 1000 := by omega
    have hap : irows V.out ++ [[iv (Hm.shown v)]] = irows (V.out ++ [Hm.shown v]) := by simp [irows]
    have hsh := spec_shown_fn gl v
    obtain ⟨v1, v2⟩ := v
    have fx := And.intro hT <| And.intro hT1 <| And.intro henb <| And.intro hU <| And.intro hol' <| @bne_def
    have c1 := hsh
    refine k_run ?_
    repeat ((first | refine wSc (id := 9) qsPf0 mixed ?_); refine k_rund ?_; refine k_run ?_)
    clear fx c1
    rw [hc]
    refine e_ret [] .nil (by simp; rfl) (OwnW.fin ⟨by simp [wRow, hT1], by simp [hO1.acts], fun i b hb => by simp [hO1.act i b hb], hO1.stk.imp fun l hl => by simp [hl], by simp [hO1.glob], by simp [hO1.funs], by simp [hO1.clss], fun i c hc => by simp [hO1.cls i c hc], ?_, by simp [hO1.trc]⟩)
    simp
  · rw [if_neg h7] at hc
    have hb7 : (kd == 7) = false := by simpa using h7
    have hst2 := store_fn gl (p := p) (W := V) (a := a) (x := x) (v := v)
    obtain ⟨v1, v2⟩ := v
    have fx := And.intro hT <| And.intro hT1 <| And.intro henb <| And.intro hb7 <| @bne_def
    refine k_run ?_
    repeat ((first | refine wSc (id := 9) qsPf0 mixed ?_); refine k_rund ?_; refine k_run ?_)
    clear fx
    intro K hK
    have fx := And.intro hT hT1
    refine x_mut Wn rfl (by simp [hT1]) (hF := hst2 _ hP.sh hA.ok haV (by omega) (have ow := hO1; OwnW.re ow)) (h := ?_)
    rintro y H2 hO2
    clear fx
    have hT2 := hO2.top
    simp only [wRow] at hT2
    have fx := And.intro hT <| And.intro hT1 <| hT2
    refine k_run ?_
    repeat ((first | refine wSc (id := 9) qsPf0 mixed ?_); refine k_rund ?_; refine k_run ?_)
    clear fx
    rw [hc]
    refine e_norm [] .nil (by simp; rfl) (have ow := hO2; OwnW.re ow)
end Go.Proofs.YtcbkblboonkfhaaGreat
end
section
namespace Go.Proofs.YtcbkblboonkfhaaGreat
open Go Go.Hm Go.Proofs
abbrev qsPg0 : Sch := .q 0 <| .q 1 <| .q 2 <| .q 3 <| .q 4 <| .q 5 <| .q 6 <| .q 7 <| .q 8 <| .q 9 <| .q 10 <| .q 11 <| .q 12 <| .q 13 <| .q 14 <| .q 15 <| .l 16 [] <| .done
abbrev qsPg1 : Sch := .q 0 <| .q 1 <| .q 2 <| .q 3 <| .q 4 <| .q 5 <| .q 6 <| .q 7 <| .q 8 <| .q 9 <| .q 10 <| .q 11 <| .q 12 <| .q 13 <| .q 14 <| .l 15 [13, 12, 11, 10, 9, 8, 7, 6, 5, 4, 3, 2, 1, 0] <| .l 16 [13, 12, 11, 10, 9, 8, 7, 6, 5, 3, 2, 1, 0] <| .q 17 <| .q 18 <| .l 19 [17] <| .done
theorem runBlock_step (gl) (p : Prg) (n : Nat) (hR : RBok gl p n) (hP : ValP p) : RBok gl p (n + 1) := by
  intro H W a hO hw hn ha h0 hV
  show FnE Tryz.prog gl 102 (Nm.under Wn) [.pt Wn 0, iv a] H _ noE
  obtain ⟨c, hc⟩ : ∃ c, W.acts[a]? = some c := ⟨_, gE ha⟩
  obtain ⟨_, hcE⟩ := gS hc
  have hbl := hw.blks a c hc
  obtain ⟨k, hk⟩ : ∃ k, p[c.blk]? = some k := ⟨_, gE hbl⟩
  obtain ⟨_, hkE⟩ := gS hk
  have hbk := blk_at hc
  have hT := hO.top
  have hA := hO.acts
  simp only [wRow] at hT
  have hb12 := hP.sh.body k (List.mem_of_getElem? hk)
  have hrun : runW p (n + 1) W a = bodyW p (runW p n) a W 0 k.body := by simp only [runW, hbk, hk]
  refine FnE.of_sem Tryz.func102 rfl (by kernel_rfl) (rs := [.cell 4 117]) rfl Tryz.ntmps102 (Nat.le_of_ble_eq_true rfl) (fun _ => under_usroot rfl) fun C w g root hroot => ?_
  have fx := And.intro hT <| And.intro hA <| And.intro hc <| And.intro hcE <| And.intro ha <| And.intro hk <| And.intro hkE <| hbl
  refine k_run ?_
  repeat ((first | refine wSc (id := 1) qsPg0 mixed ?_ | refine wSc (id := 9) qsPg1 mixed ?_); refine k_rund ?_; refine k_run ?_)
  clear fx
  refine w_loop (fun m st => ∃ (i : Nat) (V : Wld), m = k.body.length - i ∧ i ≤ k.body.length ∧ runW p (n + 1) W a = bodyW p (runW p n) a V i (k.body.drop i) ∧ WOk p V ∧ V.left < n + 1 ∧ a < V.acts.length ∧ V.en = 0 ∧ V.blk a = c.blk ∧ st.tm 0 = .pt Wn 0 ∧ st.tm 1 = iv a ∧ st.tm 4 = .pt (.s 4) 0 ∧ st.hp (.s 4) = some (.row 2 [[iv 0, iv 0]]) ∧ st.tm 5 = ssl k.body ∧ st.tm 6 = iv i ∧ OwnW st.hp p V) k.body.length ?_ ?_
  · exact ⟨0, W, by omega, by omega, by simpa using hrun, hw, hn, ha, h0, hbk, by simp, by simp, by simp, by simp, by simp, by simp, (have ow := hO; OwnW.re ow)⟩
  clear hT hA hO
  rintro m st - - ⟨i, V, rfl, hi, hres, hw', hn', ha', h0', hbV, t0, t1, t4, hp4, t5, t6, hO⟩
  clear hrun h0 hn hw hc hcE ha
  obtain ⟨d, hd⟩ : ∃ d, V.acts[a]? = some d := ⟨_, gE ha'⟩
  obtain ⟨_, hdE⟩ := gS hd
  have hdb : d.blk = c.blk := by rw [← blk_at hd]; exact hbV
  have hT := hO.top
  have hA := hO.acts
  simp only [wRow] at hT
  by_cases hil : i < k.body.length
  case neg =>
    have hge : i = k.body.length := by omega
    rw [hge, List.drop_length] at hres
    simp only [bodyW] at hres
    have fx := And.intro t0 <| And.intro t1 <| And.intro t4 <| And.intro hp4 <| And.intro t5 <| And.intro t6 <| hil
    refine k_run ?_
    repeat ((first | refine wSc (id := 1) qsPg0 mixed ?_ | refine wSc (id := 9) qsPg1 mixed ?_); refine k_rund ?_; refine k_run ?_)
    clear fx
    rw [hres]
    refine e_ret [] .nil (by simp [t4]; rfl) ⟨by simp, (have ow := hO; OwnW.re ow)⟩
  obtain ⟨s, hs⟩ : ∃ s, k.body[i]? = some s := ⟨_, gE hil⟩
  obtain ⟨_, hsE⟩ := gS hs
  have hsm := List.mem_of_getElem? hs
  have hdr : k.body.drop i = s :: k.body.drop (i + 1) := by rw [List.drop_eq_getElem_cons hil, hsE]
  rw [hdr] at hres
  by_cases hl : V.left = 0
  · have hr2 : bodyW p (runW p n) a V i (s :: k.body.drop (i + 1)) = ({ V with en := 1 }, (0, 0)) := by simp only [bodyW, hl, if_true]
    rw [hr2] at hres
    have fx := And.intro t0 <| And.intro t1 <| And.intro t4 <| And.intro hp4 <| And.intro t5 <| And.intro t6 <| And.intro hil <| And.intro hT <| hl
    refine k_run ?_
    repeat ((first | refine wSc (id := 1) qsPg0 mixed ?_ | refine wSc (id := 9) qsPg1 mixed ?_); refine k_rund ?_; refine k_run ?_)
    clear fx
    rw [hres]
    refine e_ret [] .nil (by simp [t4]; rfl) ⟨by simp, ⟨by simp [hO.top, wRow, hT, hl], by simp [hO.acts, hT, hl], fun i a ha => by simp [hO.act i a ha, hT, hl], hO.stk.imp fun l hl => by simp [hl, hT, hl], by simp [hO.glob, hT, hl], by simp [hO.funs, hT, hl], by simp [hO.clss, hT, hl], fun i c hc => by simp [hO.cls i c hc, hT, hl], by simp [hO.out, hT, hl], by simp [hO.trc, hT, hl]⟩⟩
  obtain ⟨l, hll⟩ : ∃ l, V.left = l + 1 := ⟨V.left - 1, by omega⟩
  have hr2 : bodyW p (runW p n) a V i (s :: k.body.drop (i + 1)) = if s.kind = 8 then loadW p (tickW V a i) a s.a else if (stmW p (runW p n) (tickW V a i) a s).en ≠ 0 then (stmW p (runW p n) (tickW V a i) a s, (0, 0)) else bodyW p (runW p n) a (stmW p (runW p n) (tickW V a i) a s) (i + 1) (k.body.drop (i + 1)) := by
    simp only [bodyW, hl, if_false]
  rw [hr2] at hres
  clear hr2
  obtain ⟨tk1, tk2⟩ := tickW_ok (a := a) (i := i) hw' hl
  have hTt : tickW V a i = { V with left := l, trace := V.trace ++ [(d.blk, i)] } := by simp only [tickW, blk_at hd]; rw [hll]; rfl
  have hbV2 : (tickW V a i).blk a = d.blk := by rw [show (tickW V a i).blk a = V.blk a from rfl, blk_at hd]
  have hleft : (tickW V a i).left < n := by simp only [tickW]; omega
  have hTr := hO.trc
  have hnt := hw'.ntr
  have hnl := hw'.nacts
  have htl' : V.trace.length ≤ 1000 := by omega
  have hl8 : l ≤ 1000 := by omega
  have hlb : ((l : Int) + 1 == 0) = false := by rw [beq_eq_false_iff_ne]; omega
  have hwl : IntKind.i64.wrap (l : Int) = l := wrp (by omega) (by omega)
  have hap : nrows V.trace ++ [[iv d.blk, iv i]] = nrows (V.trace ++ [(d.blk, i)]) := nrows_app1
  by_cases h8 : s.kind = 8
  · rw [if_pos h8] at hres
    have hb8 : (s.kind == 8) = true := by simpa using h8
    have hrs := (hP.sh.names k (List.mem_of_getElem? hk)).reads s hsm s.a (by simp [Stm.reads, h8])
    obtain ⟨x, hx⟩ : ∃ x : Nat, s.a = x := ⟨s.a.toNat, by omega⟩
    rw [hx] at hres
    have fx := And.intro t0 <| And.intro t1 <| And.intro t4 <| And.intro hp4 <| And.intro t5 <| And.intro t6 <| And.intro hil <| And.intro hT <| And.intro hll <| And.intro hlb <| And.intro hwl <| And.intro hTr <| And.intro htl' <| And.intro hA <| And.intro hd <| And.intro hdE <| And.intro ha' <| And.intro hs <| And.intro hsE <| And.intro hb8 <| hx
    refine k_run ?_
    repeat ((first | refine wSc (id := 1) qsPg0 mixed ?_ | refine wSc (id := 9) qsPg1 mixed ?_); refine k_rund ?_; refine k_run ?_)
    clear fx
    intro K hK
    have fx := And.intro t0 (And.intro t1 hT)
    refine x_mut Wn rfl (by simp [hT]) (hF := load_fn _ _ p (tickW V a i) a x hP.sh tk1 ha' (by omega) (by rw [hTt]; exact ⟨by simp [wRow, hT], by simp [hO.acts], fun j b hb => by simp [hO.act j b hb], hO.stk.imp fun l hl => by simp [hl], by simp [hO.glob], by simp [hO.funs], by simp [hO.clss], fun j b hb => by simp [hO.cls j b hb], by simp [hO.out], by simp [← hap]⟩)) (h := ?_)
    rintro y H1 ⟨rfl, hO1⟩
    clear fx
    generalize loadW p (tickW V a i) a x = q at hO1 hres
    obtain ⟨U, v1, v2⟩ := q
    have hT1 := hO1.top
    simp only [wRow] at hT1
    have fx := And.intro t0 <| And.intro t1 <| And.intro t4 <| And.intro hp4 <| And.intro t5 <| And.intro t6 <| And.intro hT <| hT1
    refine k_run ?_
    repeat ((first | refine wSc (id := 1) qsPg0 mixed ?_ | refine wSc (id := 9) qsPg1 mixed ?_); refine k_rund ?_; refine k_run ?_)
    clear fx
    rw [hres]
    refine e_ret [] .nil (by simp [t4]; rfl) ⟨by simp, (have ow := hO1; OwnW.re ow)⟩
  · rw [if_neg h8] at hres
    have hb8 : (s.kind == 8) = false := by simpa using h8
    have hk' : p[(tickW V a i).blk a]? = some k := by rw [hbV2, hdb]; exact hk
    have hst := hP.sh.stm _ k hk s hsm
    have hSo := stmW_ok (s := s) (k := k) (runW_ok hP.sh n) tk1 hleft h0' ha' (by rw [hbV2, hdb]; exact hst) tk2
    have fx := And.intro t0 <| And.intro t1 <| And.intro t4 <| And.intro hp4 <| And.intro t5 <| And.intro t6 <| And.intro hil <| And.intro hT <| And.intro hll <| And.intro hlb <| And.intro hwl <| And.intro hTr <| And.intro htl' <| And.intro hA <| And.intro hd <| And.intro hdE <| And.intro ha' <| And.intro hs <| And.intro hsE <| hb8
    refine k_run ?_
    repeat ((first | refine wSc (id := 1) qsPg0 mixed ?_ | refine wSc (id := 9) qsPg1 mixed ?_); refine k_rund ?_; refine k_run ?_)
    clear fx
    intro K hK
    have fx := And.intro t0 (And.intro t1 hT)
    refine x_mut Wn rfl (by simp [hT]) (hF := runStmt_fn gl p n hR _ (tickW V a i) a k s hP tk1 hleft h0' ha' hk' hsm h8 tk2 (by rw [hTt]; exact ⟨by simp [wRow, hT], by simp [hO.acts], fun j b hb => by simp [hO.act j b hb], hO.stk.imp fun l hl => by simp [hl], by simp [hO.glob], by simp [hO.funs], by simp [hO.clss], fun j b hb => by simp [hO.cls j b hb], by simp [hO.out], by simp [← hap]⟩) (by simp)) (h := ?_)
    rintro y H1 hO1
    clear fx
    have hAf := hSo.tick hl
    generalize stmW p (runW p n) (tickW V a i) a s = U at hO1 hAf hres hSo
    have hT1 := hO1.top
    simp only [wRow] at hT1
    by_cases hen : U.en = 0
    · rw [if_neg (by simpa using hen)] at hres
      have henb : (U.en == 0) = true := by simpa using hen
      have fx := And.intro t0 <| And.intro t1 <| And.intro t4 <| And.intro hp4 <| And.intro t5 <| And.intro t6 <| And.intro hT <| And.intro hT1 <| And.intro henb <| @bne_def
      refine k_run ?_
      repeat ((first | refine wSc (id := 1) qsPg0 mixed ?_ | refine wSc (id := 9) qsPg1 mixed ?_); refine k_rund ?_; refine k_run ?_)
      clear fx
      exact ⟨k.body.length - (i + 1), by omega, i + 1, U, rfl, by omega, hres, hAf.ok, by have := hAf.grow.left; omega, Nat.lt_of_lt_of_le ha' hAf.grow.lacts, hen, by rw [hAf.grow.blk hd]; exact hbV, by simp [t0, hT], by simp [t1], by simp [t4], by simp [hp4], by simp [t5], by simp [t6]; exact wrp (by omega) (by omega), (have ow := hO1; OwnW.re ow)⟩
    · rw [if_pos (by simpa using hen)] at hres
      have henb : (U.en == 0) = false := by simpa using hen
      have fx := And.intro t0 <| And.intro t1 <| And.intro t4 <| And.intro hp4 <| And.intro t5 <| And.intro t6 <| And.intro hT <| And.intro hT1 <| And.intro henb <| @bne_def
      refine k_run ?_
      repeat ((first | refine wSc (id := 1) qsPg0 mixed ?_ | refine wSc (id := 9) qsPg1 mixed ?_); refine k_rund ?_; refine k_run ?_)
      clear fx
      rw [hres]
      refine e_ret [] .nil (by simp [t4]; rfl) ⟨by simp, (have ow := hO1; OwnW.re ow)⟩
theorem runBlock_fn (gl) (p : Prg) (hP : ValP p) : ∀ n, RBok gl p n
  | 0 => fun H W a _ _ h => absurd h (by omega)
  | n + 1 => runBlock_step gl p n (runBlock_fn gl p hP n) hP
abbrev qsPh0 : Sch := .q 0 <| .q 2 <| .l 1 [2, 0] <| .q 3 <| .l 4 [2, 0] <| .l 5 [] <| .done
theorem validFuel_fn (gl) (p : Prg) (f : Int) (hs : Sml p) : FnOk Tryz.prog gl 49 [pav p, iv f] (fun _ y _ => y = bv (fuelOk p f)) := by
  refine FnOk.of_sem Tryz.func49 rfl (by kernel_rfl) (rs := [.tmp 4]) rfl Tryz.ntmps49 (Nat.le_of_ble_eq_true rfl) fun C w g root => ?_
  cases hv : progOk p
  · skip
    have fx :=  hv
    have c1 := hv ▸ validProgram_fn gl p hs
    refine k_run ?_
    clear fx c1
    refine e_ret [] .nil (by simp; rfl) (by simp [fuelOk, hv])
  · skip
    have fx :=  hv
    have c1 := hv ▸ validProgram_fn gl p hs
    have c2 := inRange_fn gl f 0 150
    refine k_run ?_
    clear fx c1 c2
    refine e_ret [] .nil (by simp; rfl) (by simp [fuelOk, hv])
theorem meant_fn (gl) (H : Nm → Option AO) (p : Prg) (f : Nat) (hP : ValP p) (hf : f ≤ 150) (h1 : H (.u 1 0 0) = none) :
    FnE Tryz.prog gl 50 (Nm.under Wn) [pav p, iv f] H (fun _ y H' => y = .pt Wn 0 ∧ OwnW H' p (meantW p f)) noE := by
  have hw := startW_ok hP.sh hf
  refine FnE.of_sem Tryz.func50 rfl (by kernel_rfl) (rs := [.tmp 4]) rfl Tryz.ntmps50 (Nat.le_of_ble_eq_true rfl) (fun _ => under_usroot rfl) fun C w g root hroot => ?_
  have fx := fx0
  have d1 := emptySlots_fn gl
  refine k_run ?_
  repeat ((first | refine wSc (id := 1) qsPh0 mixed ?_); refine k_rund ?_; refine k_run ?_)
  clear fx d1
  intro K hK
  refine o_mv (.s 5) (.u 1 0 0) (.inl rfl) (.inr (by simp [ctx0, h1])) ?_
  have fx := fx0
  refine x_mut Wn rfl (by simp) (hF := runBlock_fn gl p hP 151 _ (startW f) 0 ?_ hw (by simp only [startW]; omega) (by simp [startW]) rfl (by simp)) (h := ?_)
  · have e1 : irows (nints [0] ++ []) = [[iv 0]] := rfl
    have hsl : slrows noSlots = slrows (startW f).globals := rfl
    refine ⟨by simp [wRow, startW], by simp [startW, actRows, outI], fun i a ha => ?_, ⟨[], by simp [startW, nints, irows]⟩, by simp [startW], by simp [startW, funRows], by simp [startW, clsRows], fun i c hc => by simp [startW] at hc, by simp [startW], by simp [startW]⟩
    have hi : i = 0 := by
      have := (gS ha).1
      simp [startW] at this
      omega
    subst hi
    have ha' : a = ⟨0, 0, noSlots⟩ := by simpa [startW] using ha.symm
    subst ha'
    simp
  rintro y H1 ⟨rfl, hO1⟩
  clear fx
  have hT1 := hO1.top
  simp only [wRow] at hT1
  have hme : (runW p 151 (startW f) 0).1 = meantW p f := rfl
  rw [hme] at hO1 hT1
  have fx :=  hT1
  refine k_run ?_
  repeat ((first | refine wSc (id := 1) qsPh0 mixed ?_); refine k_rund ?_; refine k_run ?_)
  clear fx
  refine e_ret [] .nil (by simp; rfl) ⟨by simp, (have ow := hO1; OwnW.re ow)⟩
end Go.Proofs.YtcbkblboonkfhaaGreat
end
