/-
  Own texts, joined by mkclaim.py: Qj, Qk, Ql, Qn, Qo, Wh, Hn, La, Lb.
-/
import Derived.Test.YtcbkblboonkfhaaGreatX26
import Derived.Test.YtcbkblboonkfhaaGreatX23
import Derived.Test.YtcbkblboonkfhaaGreatX14
import Derived.Test.YtcbkblboonkfhaaGreatX24
import Derived.Test.YtcbkblboonkfhaaGreatX25
import Derived.Test.YtcbkblboonkfhaaGreatX11
import Derived.Test.YtcbkblboonkfhaaGreatX12
set_option linter.unusedSimpArgs false
set_option linter.unusedVariables false
set_option maxRecDepth 100000
set_option maxHeartbeats 4000000

section
namespace Go.Proofs.YtcbkblboonkfhaaGreat
open Go Go.Hm Go.Proofs
abbrev qsQj0 : Sch := .q 0 <| .q 1 <| .q 2 <| .q 3 <| .q 4 <| .q 5 <| .q 6 <| .q 7 <| .l 8 [6, 5, 4, 3, 2, 1, 0] <| .l 9 [6, 5, 4, 3, 2, 1, 0] <| .l 10 [6, 5, 3, 2, 1, 0] <| .q 11 <| .q 12 <| .l 13 [11] <| .done
abbrev qsQj1 : Sch := .q 0 <| .q 1 <| .q 2 <| .q 3 <| .q 4 <| .q 5 <| .q 6 <| .l 7 [] <| .done
def doW (p : Prg) (R : Wld → Nat → Wld × Val) (W : Wld) (a : Nat) (s : Stm) (vs : List Val) : Wld :=
  if s.kind = 9 ∨ s.kind = 10 then W else if s.kind = 11 then takeW p W a s.to else
  if s.kind = 7 then { W with out := W.out ++ [Hm.shown (vs.getD 0 (0, 0))] } else
  if (workW p R W a s vs).1.en ≠ 0 then (workW p R W a s vs).1 else storeW p (workW p R W a s vs).1 a s.to (workW p R W a s vs).2
theorem stmW_do {p : Prg} {R : Wld → Nat → Wld × Val} {W : Wld} {a : Nat} {s : Stm} {vs : List Val} (h0 : W.en = 0) (h : loadsW p W a s.reads = (W, vs)) : stmW p R W a s = doW p R W a s vs := by
  have hv : valueW p R W a s = workW p R W a s vs := by
    unfold valueW
    rw [h]
    simp [h0]
  by_cases h7 : s.kind = 7
  · have hv7 : valueW p R W a s = (W, vs.getD 0 (0, 0)) := by
      rw [hv]
      simp [workW, h7]
    simp [stmW, doW, h7, hv7, h0]
  · simp only [stmW, doW, hv, h7, if_false]
theorem do_fn (gl) (p : Prg) (n : Nat) (hR : MBok gl 207 p n) (H : Nm → Option AO) (W : Wld) (a : Nat) (k : Blk) (s : Stm) (vs : List Val) (hP : ValP p) (hw : WOk p W) (hn : W.left < n) (h0 : W.en = 0) (ha : a < W.acts.length) (hk : p[W.blk a]? = some k) (hs : s ∈ k.body) (h8 : s.kind ≠ 8) (hr : Room 2 W)
    (hl : vs.length = s.reads.length) (hvok : ∀ v ∈ vs, VOk W.funs.length W.classes.length v) (hO : OwnM H 207 p W) (hL : H (.u 2 0 0) = some (.row 2 (vrows vs))) :
    FnE Tryz.prog gl 154 DM2 [.pt Mn 0, ptE a, s.av, .hs (.u 2 0 0) 2 0 vs.length] H (fun _ y H' => y = bv (decide ((doW p (runW p n) W a s vs).en = 0)) ∧ OwnM H' 207 p (doW p (runW p n) W a s vs)) noE := by
  have hh := hP.sh.heads
  have hT := hO.top
  simp only [mRow] at hT
  have hst := hP.sh.stm _ k hk s hs
  have hnm := hP.sh.names k (List.mem_of_getElem? hk)
  have hkd := hnm.kinds s hs
  have hto := hnm.tos s hs
  have hvl := valueOfM_fn gl p n hR
  have hp1 := hL
  obtain ⟨c, hc⟩ : ∃ c, W.acts[a]? = some c := ⟨_, gE ha⟩
  have hE := hO.env a c hc
  obtain ⟨kd, to, sa, sb⟩ := s
  simp only at h8 hkd hto
  obtain ⟨x, rfl⟩ : ∃ x : Nat, to = x := ⟨to.toNat, by omega⟩
  have hx7 : 0 ≤ (x : Int) ∧ (x : Int) ≤ 7 := by omega
  refine FnE.of_sem Tryz.func154 rfl (by kernel_rfl) (rs := [.tmp 8]) rfl Tryz.ntmps154 (Nat.le_of_ble_eq_true rfl) (fun _ => DM2_root) fun C w g root hroot => ?_
  by_cases h9 : kd = 9
  · subst h9
    have hq : doW p (runW p n) W a ⟨9, x, sa, sb⟩ vs = W := by simp [doW]
    have fx :=  hT
    refine k_run ?_
    repeat ((first | refine wSc (id := 6) qsQj0 mixed ?_ | refine wSc (id := 14) qsQj1 mixed ?_); refine k_rund ?_; refine k_run ?_)
    clear fx
    rw [hq]
    refine e_ret [] .nil (by simp; rfl) ⟨by simp [h0], OwnM.fin (have om := hO; OwnM.re om)⟩
  by_cases h10 : kd = 10
  · subst h10
    have hq : doW p (runW p n) W a ⟨10, x, sa, sb⟩ vs = W := by simp [doW]
    have fx :=  hT
    refine k_run ?_
    repeat ((first | refine wSc (id := 6) qsQj0 mixed ?_ | refine wSc (id := 14) qsQj1 mixed ?_); refine k_rund ?_; refine k_run ?_)
    clear fx
    rw [hq]
    refine e_ret [] .nil (by simp; rfl) ⟨by simp [h0], OwnM.fin (have om := hO; OwnM.re om)⟩
  have hb9 : (kd == 9) = false := by simpa using h9
  have hb10 : (kd == 10) = false := by simpa using h10
  by_cases h11 : kd = 11
  · subst h11
    have hq : doW p (runW p n) W a ⟨11, x, sa, sb⟩ vs = takeW p W a x := by simp [doW]
    have fx :=  hT
    refine k_run ?_
    repeat ((first | refine wSc (id := 6) qsQj0 mixed ?_ | refine wSc (id := 14) qsQj1 mixed ?_); refine k_rund ?_; refine k_run ?_)
    clear fx
    intro K hK
    have fx := hT
    refine x_callM hO (have om := hO; OwnM.re om) (Nat.le_refl _) (Nat.le_refl _) (hF := fun hs => drop_fn _ _ _ p W a x hP.sh hw ha (by omega) h0 hs) (h := ?_)
    rintro y H1 ⟨rfl, hO1⟩
    clear fx
    have hT1 := hO1.top
    simp only [mRow] at hT1
    have fx := And.intro hT <| hT1
    refine k_run ?_
    repeat ((first | refine wSc (id := 6) qsQj0 mixed ?_ | refine wSc (id := 14) qsQj1 mixed ?_); refine k_rund ?_; refine k_run ?_)
    clear fx
    rw [hq]
    refine e_ret [] .nil (by simp; rfl) ⟨by simp, OwnM.fin (have om := hO1; OwnM.re om)⟩
  have hb11 : (kd == 11) = false := by simpa using h11
  by_cases h7 : kd = 7
  · subst h7
    obtain ⟨u, rfl⟩ : ∃ u, vs = [u] := by
      match vs, hl with
      | [u], _ => exact ⟨u, rfl⟩
      | [], h => simp [Stm.reads] at h
      | _ :: _ :: _, h => simp [Stm.reads] at h
    have hq : doW p (runW p n) W a ⟨7, x, sa, sb⟩ [u] = { W with out := W.out ++ [Hm.shown u] } := by simp [doW]
    have hU := hO.out
    have hol := hw.nout
    have hol' : W.out.length ≤ 1000 := by omega
    have hap : irows W.out ++ [[iv (Hm.shown u)]] = irows (W.out ++ [Hm.shown u]) := by simp [irows]
    have hsh := impl_ShownOf_fn gl u
    obtain ⟨u1, u2⟩ := u
    have fx := And.intro hT <| And.intro hU <| And.intro hol' <| And.intro hp1 <| @bne_def
    have c1 := hsh
    refine k_run ?_
    repeat ((first | refine wSc (id := 6) qsQj0 mixed ?_ | refine wSc (id := 14) qsQj1 mixed ?_); refine k_rund ?_; refine k_run ?_)
    clear fx c1
    rw [hq]
    refine e_ret [] .nil (by simp; rfl) ⟨by simp [h0], OwnM.fin ⟨by simp [mRow, hT], ⟨by simp [hO.scs.top], fun j k hj hk => by simp [hO.scs.sc j k hj hk]⟩, ?_, by simp [hO.trc], hO.run.imp fun l hl => ⟨hl.1, by simp [hl.2]⟩, by simp [hO.funs], fun k g hg => by simp [hO.bx k g hg], by simp [hO.clss], fun k c hc => (hO.cls k c hc).imp fun ms hm => ⟨by simp [hm.1], hm.2⟩, fun i a ha => by simp [hO.env i a ha], fun i hi => (hO.nms i hi).imp fun ms hm => ⟨by simp [hm.1], hm.2⟩, fun k i j hk hn => if e : k = 1 ∧ i = 0 ∧ j = 0 then .inl e else hO.only k i j hk (by simpa [hk, e] using hn)⟩⟩
    simp
  have hb7 : (kd == 7) = false := by simpa using h7
  have hk6 : 0 ≤ kd ∧ kd ≤ 6 := by omega
  have hq : doW p (runW p n) W a ⟨kd, x, sa, sb⟩ vs = if (workW p (runW p n) W a ⟨kd, x, sa, sb⟩ vs).1.en ≠ 0 then (workW p (runW p n) W a ⟨kd, x, sa, sb⟩ vs).1 else storeW p (workW p (runW p n) W a ⟨kd, x, sa, sb⟩ vs).1 a x (workW p (runW p n) W a ⟨kd, x, sa, sb⟩ vs).2 := by
    simp only [doW, h9, h10, h11, h7, if_false, false_or]
  have fx := And.intro hT <| And.intro hb9 <| And.intro hb10 <| And.intro hb11 <| hb7
  refine k_run ?_
  repeat ((first | refine wSc (id := 6) qsQj0 mixed ?_ | refine wSc (id := 14) qsQj1 mixed ?_); refine k_rund ?_; refine k_run ?_)
  clear fx
  intro K hK
  have fx := hT
  refine x_callM2 hO (have om := hO; OwnM.re om) (by simp [hp1]) (Nat.le_refl _) (Nat.le_refl _) (hF := fun hs' => hvl _ W a k ⟨kd, x, sa, sb⟩ vs hP hw hn h0 ha hk hs hk6 hr hl hvok hs' (by simp [hp1])) (h := ?_)
  rintro y H1 ⟨rfl, hO1⟩
  clear fx
  obtain ⟨hA, hvok1⟩ := workW_ok (vs := vs) (runW_ok hP.sh n) hw hn h0 ha hst hvok hr
  generalize workW p (runW p n) W a ⟨kd, x, sa, sb⟩ vs = q at hO1 hA hvok1 hq
  obtain ⟨V, v⟩ := q
  simp only at hO1 hA hvok1 hq
  have hT1 := hO1.top
  simp only [mRow] at hT1
  have haV : a < V.acts.length := Nat.lt_of_lt_of_le ha hA.grow.lacts
  have hla := hA.grow.lacts
  have hlf := hA.grow.lfuns
  obtain ⟨c1, hc1⟩ : ∃ c, V.acts[a]? = some c := ⟨_, gE haV⟩
  have hE1 := hO1.env a c1 hc1
  by_cases hen : V.en = 0
  case neg =>
    rw [if_pos hen] at hq
    obtain ⟨v1, v2⟩ := v
    have fx := And.intro hT <| And.intro hT1 <| And.intro hE <| And.intro hE1 <| hen
    refine k_run ?_
    repeat ((first | refine wSc (id := 6) qsQj0 mixed ?_ | refine wSc (id := 14) qsQj1 mixed ?_); refine k_rund ?_; refine k_run ?_)
    clear fx
    rw [hq]
    refine e_ret [] .nil (by simp; rfl) ⟨by simp [hen], OwnM.fin (have om := hO1; OwnM.re om)⟩
  rw [if_neg (by simpa using hen)] at hq
  obtain ⟨hnm1, hil⟩ := nms_loc (x := (x : Int)) hh hA.ok haV
  have hnm0 := hnm1
  obtain ⟨o, ho⟩ : ∃ o, Hm.lack p (V.blk a) (owner p (V.blk a) x) = o := ⟨_, rfl⟩
  obtain ⟨l, hll⟩ : ∃ l, V.loc p a x = l := ⟨_, rfl⟩
  have hhl := holderOf_fn gl (F := 207) (p := p) (W := V) (a := a) (x := x)
  rw [ho, hll] at hhl
  rw [hll] at hnm1 hil
  obtain ⟨i, hi⟩ : ∃ i, hIdx l = i := ⟨_, rfl⟩
  rw [hi] at hnm1 hil hhl
  obtain ⟨v1, v2⟩ := v
  have fx := And.intro hT <| And.intro hT1 <| And.intro hE <| And.intro hE1 <| hen
  refine k_run ?_
  repeat ((first | refine wSc (id := 6) qsQj0 mixed ?_ | refine wSc (id := 14) qsQj1 mixed ?_); refine k_rund ?_; refine k_run ?_)
  clear fx
  intro K hK
  have fx := And.intro hT hT1
  refine x_callM hO (have om := hO1; OwnM.re om) hla hlf (hF := fun hs => hhl _ hP.sh hA.ok haV (by omega) hs) (h := ?_)
  rintro y H2 ⟨rfl, hO2⟩
  clear fx
  have hT2 := hO2.top
  simp only [mRow] at hT2
  obtain ⟨d, hd⟩ : ∃ d, V.acts[i]? = some d := ⟨_, gE hil⟩
  have hE2 := hO2.env i d hd
  simp only [envRow] at hE2
  have hE2a := hO2.env a c1 hc1
  obtain ⟨ms, hms, hmo⟩ := hO2.nms i hil
  rw [hnm1] at hmo
  have hstq : storeW p V a x (v1, v2) = V.set l x (some (v1, v2)) := by
    unfold storeW
    rw [hll]
  have fx := And.intro hT <| And.intro hT1 <| And.intro hE <| And.intro hE1 <| And.intro hT2 <| And.intro hE2 <| And.intro hE2a <| hms
  refine k_run ?_
  repeat ((first | refine wSc (id := 6) qsQj0 mixed ?_ | refine wSc (id := 14) qsQj1 mixed ?_); refine k_rund ?_; refine k_run ?_)
  clear fx
  intro K hK
  refine o_abs (fun st => st.tm 61 = .mp (.c (En i) 0 1) ∧ st.tm 63 = iv x ∧ st.tm 64 = Val.av (v1, v2) ∧ st.hp (.c (En i) 0 1) = some (.map (mrows ms)) ∧ OwnM st.hp 207 p V) ⟨by simp [hT2, hE2], by simp, by simp, by simp [hms], (have om := hO2; OwnM.re om)⟩ ?_
  rintro st ⟨t61, t63, t64, hms', hO3⟩
  have fx := And.intro t61 (And.intro t63 (And.intro t64 hms'))
  refine x_mapUpdate (h := ?_)
  clear fx
  have fx :=  hT
  refine k_run ?_
  repeat ((first | refine wSc (id := 6) qsQj0 mixed ?_ | refine wSc (id := 14) qsQj1 mixed ?_); refine k_rund ?_; refine k_run ?_)
  clear fx
  rw [hq, hstq]
  refine e_ret [] .nil (by simp; rfl) ⟨by rw [set_same.2.2.2.2.2.2]; simp [hen], OwnM.fin (ownM_set hh hA.ok haV (by omega) hll hnm0 hO3 (hmo.set hx7) fun m hm => ?_)⟩
  rw [hi]
  simp
abbrev qsQk0 : Sch := .q 0 <| .q 1 <| .q 2 <| .q 3 <| .q 4 <| .q 5 <| .q 6 <| .q 7 <| .q 8 <| .q 9 <| .q 10 <| .q 11 <| .q 12 <| .q 13 <| .done
abbrev qsQk1 : Sch := .q 0 <| .q 1 <| .q 2 <| .q 3 <| .q 4 <| .q 5 <| .q 6 <| .q 7 <| .q 8 <| .q 9 <| .q 10 <| .l 11 [9, 8, 7, 6, 5, 4, 3, 2, 1, 0] <| .l 12 [9, 8, 7, 6, 5, 3, 2, 1, 0] <| .q 13 <| .q 14 <| .l 15 [13] <| .done
theorem loadW_bad {p : Prg} {w : Wld} {a : Nat} {x : Int} (h0 : w.en = 0) : (loadW p w a x).1.en ≠ 0 → (loadW p w a x).2 = (0, 0) := by
  unfold loadW
  repeat' split
  all_goals simp [h0]
theorem loads1 {p : Prg} {w : Wld} {a : Nat} {x : Int} (h0 : w.en = 0) : loadsW p w a [x] = ((loadW p w a x).1, [(loadW p w a x).2]) := by
  simp [loadsW, h0]
theorem bodyW_bad {p : Prg} {R : Wld → Nat → Wld × Val} {a i : Nat} {V : Wld} {s : Stm} {l : List Stm} (h0 : V.en = 0) (hl : V.left ≠ 0) (hq : (loadsW p (tickW V a i) a s.reads).1.en ≠ 0) : bodyW p R a V i (s :: l) = ((loadsW p (tickW V a i) a s.reads).1, (0, 0)) := by
  have ht : (tickW V a i).en = 0 := h0
  by_cases h8 : s.kind = 8
  · have hrd : s.reads = [s.a] := by simp [Stm.reads, h8]
    rw [hrd, loads1 ht] at hq ⊢
    simp only at hq
    simp only [bodyW, hl, h8, if_true, if_false]
    rw [← loadW_bad ht hq]
  · have hst : stmW p R (tickW V a i) a s = (loadsW p (tickW V a i) a s.reads).1 := by
      by_cases h9 : s.kind = 9 ∨ s.kind = 10 ∨ s.kind = 11
      · have hrd : s.reads = [] := by rcases h9 with e | e | e <;> simp [Stm.reads, e]
        rw [hrd] at hq
        simp only [loadsW] at hq
        exact absurd ht hq
      · have hv : valueW p R (tickW V a i) a s = ((loadsW p (tickW V a i) a s.reads).1, (0, 0)) := by
          unfold valueW
          rw [if_pos hq]
        have e1 : ¬ (s.kind = 9 ∨ s.kind = 10) := by omega
        have e2 : ¬ s.kind = 11 := by omega
        unfold stmW
        rw [if_neg e1, if_neg e2, hv, if_pos hq]
    simp only [bodyW, hl, h8, if_false]
    rw [hst, if_pos hq]
theorem bodyW_ret {p : Prg} {R : Wld → Nat → Wld × Val} {a i : Nat} {V : Wld} {s : Stm} {l : List Stm} {vs : List Val} (h0 : V.en = 0) (hl : V.left ≠ 0) (h8 : s.kind = 8) (hq : loadsW p (tickW V a i) a s.reads = (tickW V a i, vs)) : ∃ v, vs = [v] ∧ bodyW p R a V i (s :: l) = (tickW V a i, v) := by
  have ht : (tickW V a i).en = 0 := h0
  have hrd : s.reads = [s.a] := by simp [Stm.reads, h8]
  rw [hrd, loads1 ht] at hq
  obtain ⟨e1, e2⟩ := Prod.mk.inj hq
  refine ⟨_, e2.symm, ?_⟩
  simp only [bodyW, hl, h8, if_true, if_false]
  exact Prod.ext e1 rfl
theorem bodyW_do {p : Prg} {R : Wld → Nat → Wld × Val} {a i : Nat} {V : Wld} {s : Stm} {l : List Stm} {vs : List Val} (h0 : V.en = 0) (hl : V.left ≠ 0) (h8 : s.kind ≠ 8) (hq : loadsW p (tickW V a i) a s.reads = (tickW V a i, vs)) : bodyW p R a V i (s :: l) = if (doW p R (tickW V a i) a s vs).en ≠ 0 then (doW p R (tickW V a i) a s vs, (0, 0)) else bodyW p R a (doW p R (tickW V a i) a s vs) (i + 1) l := by
  have ht : (tickW V a i).en = 0 := h0
  simp only [bodyW, hl, h8, if_false]
  rw [stmW_do ht hq]
theorem runBody_step (gl) (p : Prg) (n : Nat) (hR : MBok gl 207 p n) (hP : ValP p) : MBok gl 207 p (n + 1) := by
  intro H W a hO hw hn ha h0 hV
  show FnE Tryz.prog gl 105 DM [.pt Mn 0, ptE a] H _ noE
  obtain ⟨c, hc⟩ : ∃ c, W.acts[a]? = some c := ⟨_, gE ha⟩
  have hbl := hw.blks a c hc
  obtain ⟨k, hk⟩ : ∃ k, p[c.blk]? = some k := ⟨_, gE hbl⟩
  obtain ⟨_, hkE⟩ := gS hk
  have hbk := blk_at hc
  have hT := hO.top
  have hE := hO.env a c hc
  simp only [mRow] at hT
  simp only [envRow] at hE
  have hb12 := hP.sh.body k (List.mem_of_getElem? hk)
  have hrun : runW p (n + 1) W a = bodyW p (runW p n) a W 0 k.body := by simp only [runW, hbk, hk]
  have hO0 := hO
  refine FnE.of_sem Tryz.func105 rfl (by kernel_rfl) (rs := [.cell 4 117, .tmp 5]) rfl Tryz.ntmps105 (Nat.le_of_ble_eq_true rfl) (fun _ => DM_root) fun C w g root hroot => ?_
  have fx := And.intro hT <| And.intro hE <| And.intro hk <| And.intro hkE <| hbl
  refine k_run ?_
  repeat ((first | refine wSc (id := 1) qsQk0 mixed ?_ | refine wSc (id := 7) qsQk1 mixed ?_); refine k_rund ?_; refine k_run ?_)
  clear fx
  refine w_loop (fun m st => ∃ (i : Nat) (V : Wld), m = k.body.length - i ∧ i ≤ k.body.length ∧ runW p (n + 1) W a = bodyW p (runW p n) a V i (k.body.drop i) ∧ WOk p V ∧ V.left < n + 1 ∧ a < V.acts.length ∧ V.en = 0 ∧ V.blk a = c.blk ∧ W.acts.length ≤ V.acts.length ∧ W.funs.length ≤ V.funs.length ∧ st.tm 0 = .pt Mn 0 ∧ st.tm 1 = ptE a ∧ st.tm 4 = .pt (.s 4) 0 ∧ st.hp (.s 4) = some (.row 2 [[iv 0, iv 0]]) ∧ st.tm 21 = ssl k.body ∧ st.tm 22 = iv k.body.length ∧ st.tm 23 = iv i ∧ OwnM st.hp 207 p V) k.body.length ?_ ?_
  · exact ⟨0, W, by omega, by omega, by simpa using hrun, hw, hn, ha, h0, hbk, Nat.le_refl _, Nat.le_refl _, by simp [hT], by simp [hE], by simp, by simp, by simp, by simp, by simp, (have om := hO; OwnM.re om)⟩
  clear hT hE hO
  rintro m st - - ⟨i, V, rfl, hi, hres, hw', hn', ha', h0', hbV, hl1, hl2, t0, t1, t4, hp4, t21, t22, t23, hO⟩
  clear hrun h0 hn hw hc ha
  obtain ⟨d, hd⟩ : ∃ d, V.acts[a]? = some d := ⟨_, gE ha'⟩
  have hdb : d.blk = c.blk := by rw [← blk_at hd]; exact hbV
  have hT := hO.top
  have hE := hO.env a d hd
  simp only [mRow] at hT
  simp only [envRow] at hE
  by_cases hil : i < k.body.length
  case neg =>
    have hge : i = k.body.length := by omega
    rw [hge, List.drop_length] at hres
    simp only [bodyW] at hres
    have fx := And.intro t0 <| And.intro t1 <| And.intro t4 <| And.intro hp4 <| And.intro t21 <| And.intro t22 <| And.intro t23 <| hil
    refine k_run ?_
    repeat ((first | refine wSc (id := 1) qsQk0 mixed ?_ | refine wSc (id := 7) qsQk1 mixed ?_); refine k_rund ?_; refine k_run ?_)
    clear fx
    rw [hres]
    refine e_ret [] .nil (by simp [t4]; rfl) ⟨by simp [h0'], OwnM.fin (have om := hO; OwnM.re om)⟩
  obtain ⟨s, hs⟩ : ∃ s, k.body[i]? = some s := ⟨_, gE hil⟩
  obtain ⟨_, hsE⟩ := gS hs
  have hsm := List.mem_of_getElem? hs
  have hdr : k.body.drop i = s :: k.body.drop (i + 1) := by rw [List.drop_eq_getElem_cons hil, hsE]
  rw [hdr] at hres
  by_cases hl : V.left = 0
  · have hr2 : bodyW p (runW p n) a V i (s :: k.body.drop (i + 1)) = ({ V with en := 1 }, (0, 0)) := by simp only [bodyW, hl, if_true]
    rw [hr2] at hres
    have fx := And.intro t0 <| And.intro t1 <| And.intro t4 <| And.intro hp4 <| And.intro t21 <| And.intro t22 <| And.intro t23 <| And.intro hil <| And.intro hs <| And.intro hsE <| And.intro hT <| hl
    refine k_run ?_
    repeat ((first | refine wSc (id := 1) qsQk0 mixed ?_ | refine wSc (id := 7) qsQk1 mixed ?_); refine k_rund ?_; refine k_run ?_)
    clear fx
    intro K hK
    have fx := And.intro t0 hT
    refine x_callM hO0 (have om := hO; OwnM.re om) hl1 hl2 (hF := fun hs => stop_fn _ _ _ p V 1 hs) (h := ?_)
    rintro y H2 ⟨rfl, hO2⟩
    clear fx
    have hT2 := hO2.top
    simp only [mRow] at hT2
    have fx := And.intro t0 <| And.intro t1 <| And.intro t4 <| And.intro hp4 <| And.intro hT <| And.intro hT2 <| hl
    refine k_run ?_
    repeat ((first | refine wSc (id := 1) qsQk0 mixed ?_ | refine wSc (id := 7) qsQk1 mixed ?_); refine k_rund ?_; refine k_run ?_)
    clear fx
    rw [hres]
    refine e_ret [] .nil (by simp [t4]; rfl) ⟨by simp, OwnM.fin (have om := hO2; OwnM.re om)⟩
  obtain ⟨l, hll⟩ : ∃ l, V.left = l + 1 := ⟨V.left - 1, by omega⟩
  obtain ⟨tk1, tk2⟩ := tickW_ok (a := a) (i := i) hw' hl
  have hTt : tickW V a i = { V with left := l, trace := V.trace ++ [(d.blk, i)] } := by simp only [tickW, blk_at hd]; rw [hll]; rfl
  have hbV2 : (tickW V a i).blk a = d.blk := by rw [show (tickW V a i).blk a = V.blk a from rfl, blk_at hd]
  have hleft : (tickW V a i).left < n := by simp only [tickW]; omega
  have hTr := hO.trc
  have hnt := hw'.ntr
  have hnl := hw'.nacts
  have htl' : V.trace.length ≤ 1000 := by omega
  have hl8 : l ≤ 1000 := by omega
  have hlb : ((l : Int) + 1 == 0) = false := by rw [beq_eq_false_iff_ne]; omega
  have hwl : IntKind.i64.wrap (l : Int) = l := wrp (by omega) (by omega)
  have hap : nrows V.trace ++ [[iv d.blk, iv i]] = nrows (V.trace ++ [(d.blk, i)]) := nrows_app1
  have hkd := (hP.sh.names k (List.mem_of_getElem? hk)).kinds s hsm
  have hrd := (hP.sh.names k (List.mem_of_getElem? hk)).reads s hsm
  have fx := And.intro t0 <| And.intro t1 <| And.intro t4 <| And.intro hp4 <| And.intro t21 <| And.intro t22 <| And.intro t23 <| And.intro hil <| And.intro hs <| And.intro hsE <| And.intro hT <| And.intro hll <| And.intro hlb <| And.intro hwl <| And.intro hTr <| And.intro htl' <| hE
  refine k_run ?_
  repeat ((first | refine wSc (id := 1) qsQk0 mixed ?_ | refine wSc (id := 7) qsQk1 mixed ?_); refine k_rund ?_; refine k_run ?_)
  clear fx
  intro K hK
  have fx := And.intro t0 (And.intro t1 hT)
  refine x_callM hO0 (w := tickW V a i) (by rw [hTt]; exact ⟨by simp [hT, mRow], ⟨by simp [hO.scs.top], fun j k hj hk => by simp [hO.scs.sc j k hj hk]⟩, by simp [hO.out], by simp [← hap], hO.run.imp fun l hl => ⟨hl.1, by simp [hl.2]⟩, by simp [hO.funs], fun k g hg => by simp [hO.bx k g hg], by simp [hO.clss], fun k c hc => (hO.cls k c hc).imp fun ms hm => ⟨by simp [hm.1], hm.2⟩, fun i a ha => by simp [hO.env i a ha], fun i hi => (hO.nms i hi).imp fun ms hm => ⟨by simp [hm.1], hm.2⟩, fun k i j hk hn => if e : k = 1 ∧ i = 0 ∧ j = 0 then .inl e else hO.only k i j hk (by simpa [hk, e] using hn)⟩) hl1 hl2 (hF := fun hs' => readAll_fn _ _ _ p (tickW V a i) a s hP.sh tk1 ha' h0' hkd hrd hs') (h := ?_)
  rintro y H1 ⟨hO1, hy⟩
  clear fx
  have hbad := bodyW_bad (p := p) (R := runW p n) (a := a) (i := i) (V := V) (s := s) (l := k.body.drop (i + 1)) h0' hl
  have hret : s.kind = 8 → ∀ vs, loadsW p (tickW V a i) a s.reads = (tickW V a i, vs) → ∃ v, vs = [v] ∧ bodyW p (runW p n) a V i (s :: k.body.drop (i + 1)) = (tickW V a i, v) := fun h8 vs hq => bodyW_ret h0' hl h8 hq
  have hdo : s.kind ≠ 8 → ∀ vs, loadsW p (tickW V a i) a s.reads = (tickW V a i, vs) → bodyW p (runW p n) a V i (s :: k.body.drop (i + 1)) = if (doW p (runW p n) (tickW V a i) a s vs).en ≠ 0 then (doW p (runW p n) (tickW V a i) a s vs, (0, 0)) else bodyW p (runW p n) a (doW p (runW p n) (tickW V a i) a s vs) (i + 1) (k.body.drop (i + 1)) := fun h8 vs hq => bodyW_do h0' hl h8 hq
  have hsdo : ∀ vs, loadsW p (tickW V a i) a s.reads = (tickW V a i, vs) → stmW p (runW p n) (tickW V a i) a s = doW p (runW p n) (tickW V a i) a s vs := fun vs h => stmW_do h0' h
  obtain ⟨hA, hvok, hcase, hlen, _⟩ := loadsW_ok (a := a) (l := s.reads) tk1
  generalize loadsW p (tickW V a i) a s.reads = q at hO1 hy hbad hret hdo hsdo hA hvok hcase hlen
  obtain ⟨U, vs⟩ := q
  simp only at hO1 hy hbad hret hdo hsdo hA hvok hcase hlen
  have hT1 := hO1.top
  simp only [mRow] at hT1
  obtain ⟨d1, hd1⟩ : ∃ c, U.acts[a]? = some c := ⟨_, gE (Nat.lt_of_lt_of_le ha' hA.grow.lacts)⟩
  have hE1 := hO1.env a d1 hd1
  rcases hy with ⟨hen, rfl, hp1⟩ | ⟨hen, rfl⟩
  case inr =>
    have fx := And.intro t0 <| And.intro t1 <| And.intro t4 <| And.intro hp4 <| And.intro t21 <| And.intro t22 <| And.intro t23 <| And.intro hT <| And.intro hE <| And.intro hT1 <| hE1
    refine k_run ?_
    repeat ((first | refine wSc (id := 1) qsQk0 mixed ?_ | refine wSc (id := 7) qsQk1 mixed ?_); refine k_rund ?_; refine k_run ?_)
    clear fx
    rw [hres, hbad hen]
    refine e_ret [] .nil (by simp [t4]; rfl) ⟨by simp [hen], OwnM.fin (have om := hO1; OwnM.re om)⟩
  obtain rfl : U = tickW V a i := by
    rcases hcase with e | ⟨e, he, h⟩
    · exact e
    · rw [h] at hen
      exact absurd hen he
  by_cases h8 : s.kind = 8
  · have hb8 : (s.kind == 8) = true := by simpa using h8
    obtain ⟨⟨v1, v2⟩, rfl, hb⟩ := hret h8 _ rfl
    have fx := And.intro t0 <| And.intro t1 <| And.intro t4 <| And.intro hp4 <| And.intro t21 <| And.intro t22 <| And.intro t23 <| And.intro hT <| And.intro hE <| And.intro hT1 <| And.intro hE1 <| And.intro hp1 <| hb8
    refine k_run ?_
    repeat ((first | refine wSc (id := 1) qsQk0 mixed ?_ | refine wSc (id := 7) qsQk1 mixed ?_); refine k_rund ?_; refine k_run ?_)
    clear fx
    rw [hres, hb]
    have ht0 : (tickW V a i).en = 0 := h0'
    refine e_ret [] .nil (by simp [t4]; rfl) ⟨by simp [ht0], OwnM.fin (have om := hO1; OwnM.re om)⟩
  have hb8 : (s.kind == 8) = false := by simpa using h8
  have hres2 := hdo h8 _ rfl
  rw [hres2] at hres
  have hst := hP.sh.stm _ k hk s hsm
  have hSo := stmW_ok (s := s) (k := k) (runW_ok hP.sh n) tk1 hleft h0' ha' (by rw [hbV2, hdb]; exact hst) tk2
  rw [hsdo vs rfl] at hSo
  have hk' : p[(tickW V a i).blk a]? = some k := by rw [hbV2, hdb]; exact hk
  have fx := And.intro t0 <| And.intro t1 <| And.intro t4 <| And.intro hp4 <| And.intro t21 <| And.intro t22 <| And.intro t23 <| And.intro hT <| And.intro hE <| And.intro hT1 <| And.intro hE1 <| And.intro hp1 <| hb8
  refine k_run ?_
  repeat ((first | refine wSc (id := 1) qsQk0 mixed ?_ | refine wSc (id := 7) qsQk1 mixed ?_); refine k_rund ?_; refine k_run ?_)
  clear fx
  intro K hK
  refine o_mv (.s 8) (.u 2 0 0) (.inl rfl) (.inr (by simp [ctx0, hV])) ?_
  have fx := And.intro t0 (And.intro t1 (And.intro hT (And.intro hT1 (And.intro hp1 (And.intro hE hE1)))))
  refine x_callM2 hO0 (w := tickW V a i) ⟨by simp [hO1.top, mRow], ⟨by simp [hO1.scs.top], fun j k hj hk => by simp [hO1.scs.sc j k hj hk]⟩, by simp [hO1.out], by simp [hO1.trc], hO1.run.imp fun l hl => ⟨hl.1, by simp [hl.2]⟩, by simp [hO1.funs], fun k g hg => by simp [hO1.bx k g hg], by simp [hO1.clss], fun k c hc => (hO1.cls k c hc).imp fun ms hm => ⟨by simp [hm.1], hm.2⟩, fun i a ha => by simp [hO1.env i a ha], fun i hi => (hO1.nms i hi).imp fun ms hm => ⟨by simp [hm.1], hm.2⟩, fun k i j hk hn => if e : k = 1 ∧ i = 0 ∧ j = 0 then .inl e else hO1.only k i j hk (by have e2 : ¬ k = 2 := (fun e => by rw [e] at hk; cases hk); simpa [hk, e, e2] using hn)⟩ (by simp [hp1]) hl1 hl2 (hF := fun hs' => do_fn gl p n hR _ (tickW V a i) a k s vs hP tk1 hleft h0' ha' hk' hsm h8 tk2 (hlen hen) hvok hs' (by simp [hp1])) (h := ?_)
  rintro y H2 ⟨rfl, hO2⟩
  clear fx
  generalize doW p (runW p n) (tickW V a i) a s vs = U at hO2 hres hSo
  have hAf := hSo.tick hl
  have hT2 := hO2.top
  simp only [mRow] at hT2
  obtain ⟨d2, hd2⟩ : ∃ c, U.acts[a]? = some c := ⟨_, gE (Nat.lt_of_lt_of_le ha' hAf.grow.lacts)⟩
  have hE2 := hO2.env a d2 hd2
  by_cases hen2 : U.en = 0
  · rw [if_neg (by simpa using hen2)] at hres
    have fx := And.intro t0 <| And.intro t1 <| And.intro t4 <| And.intro hp4 <| And.intro t21 <| And.intro t22 <| And.intro t23 <| And.intro hT <| And.intro hE <| And.intro hT1 <| And.intro hE1 <| And.intro hp1 <| And.intro hT2 <| And.intro hE2 <| hen2
    refine k_run ?_
    repeat ((first | refine wSc (id := 1) qsQk0 mixed ?_ | refine wSc (id := 7) qsQk1 mixed ?_); refine k_rund ?_; refine k_run ?_)
    clear fx
    exact ⟨k.body.length - (i + 1), by omega, i + 1, U, rfl, by omega, hres, hAf.ok, by have := hAf.grow.left; omega, Nat.lt_of_lt_of_le ha' hAf.grow.lacts, hen2, by rw [hAf.grow.blk hd]; exact hbV, Nat.le_trans hl1 hAf.grow.lacts, Nat.le_trans hl2 hAf.grow.lfuns, by simp [t0, hT, hT1], by simp [t1, hE, hE1], by simp [t4], by simp [hp4], by simp [t21], by simp [t22], by simp [t23]; exact wrp (by omega) (by omega), ⟨by simp [hO2.top, mRow, hen2], ⟨by simp [hO2.scs.top, hen2], fun j k hj hk => by simp [hO2.scs.sc j k hj hk, hen2]⟩, by simp [hO2.out, hen2], by simp [hO2.trc, hen2], hO2.run.imp fun l hl => ⟨hl.1, by simp [hl.2, hen2]⟩, by simp [hO2.funs, hen2], fun k g hg => by simp [hO2.bx k g hg, hen2], by simp [hO2.clss, hen2], fun k c hc => (hO2.cls k c hc).imp fun ms hm => ⟨by simp [hm.1, hen2], hm.2⟩, fun i a ha => by simp [hO2.env i a ha, hen2], fun i hi => (hO2.nms i hi).imp fun ms hm => ⟨by simp [hm.1, hen2], hm.2⟩, fun k i j hk hn => if e : k = 1 ∧ i = 0 ∧ j = 0 then .inl e else hO2.only k i j hk (by simpa [hk, e] using hn)⟩⟩
  · rw [if_pos (by simpa using hen2)] at hres
    have fx := And.intro t0 <| And.intro t1 <| And.intro t4 <| And.intro hp4 <| And.intro t21 <| And.intro t22 <| And.intro t23 <| And.intro hT <| And.intro hE <| And.intro hT1 <| And.intro hE1 <| And.intro hp1 <| And.intro hT2 <| And.intro hE2 <| hen2
    refine k_run ?_
    repeat ((first | refine wSc (id := 1) qsQk0 mixed ?_ | refine wSc (id := 7) qsQk1 mixed ?_); refine k_rund ?_; refine k_run ?_)
    clear fx
    rw [hres]
    refine e_ret [] .nil (by simp [t4]; rfl) ⟨by simp [hen2], OwnM.fin (have om := hO2; OwnM.re om)⟩
theorem runBody_fn (gl) (p : Prg) (hP : ValP p) : ∀ n, MBok gl 207 p n
  | 0 => fun H W a _ _ h => absurd h (by omega)
  | n + 1 => runBody_step gl p n (runBody_fn gl p hP n) hP
end Go.Proofs.YtcbkblboonkfhaaGreat
end
section
namespace Go.Proofs.YtcbkblboonkfhaaGreat
open Go Go.Hm Go.Proofs
abbrev qsQl0 : Sch := .q 0 <| .q 1 <| .q 3 <| .l 2 [3, 0] <| .q 4 <| .l 5 [3, 0] <| .l 6 [] <| .done
abbrev qsQl1 : Sch := .q 0 <| .q 1 <| .q 2 <| .q 3 <| .q 4 <| .q 5 <| .q 6 <| .q 7 <| .q 8 <| .l 9 [7, 6, 5, 4, 3, 2, 1, 0] <| .l 10 [7, 6, 5, 3, 2, 1, 0] <| .q 11 <| .q 12 <| .l 13 [11] <| .done
theorem meaningOf_fn (gl) (H : Nm → Option AO) (p : Prg) (f : Nat) (hP : ValP p) (hf : f ≤ 150) (hN : ∀ k i j, H (.u k i j) = none) :
    FnE Tryz.prog gl 54 DM [pav p, iv f] H (fun _ y H' => y = .pt Mn 0 ∧ OwnM H' 207 p (meantW p f)) noE := by
  have hw := startW_ok hP.sh hf
  have hs := hP.sh.sml
  have hh := hP.sh.heads
  refine FnE.of_sem Tryz.func54 rfl (by kernel_rfl) (rs := [.tmp 4]) rfl Tryz.ntmps54 (Nat.le_of_ble_eq_true rfl) (fun _ => DM_root) fun C w g root hroot => ?_
  have fx := fx0
  have e1 := scopesOf_fn gl p hs hh hP.sh.names
  refine k_run ?_
  repeat ((first | refine wSc (id := 1) qsQl0 mixed ?_ | refine wSc (id := 3) qsQl1 mixed ?_); refine k_rund ?_; refine k_run ?_)
  clear fx e1
  intro K hK
  rintro y H' ⟨rfl, hO⟩
  obtain ⟨ho1, ho2⟩ := hO.hcln
  try refine ⟨by simp, ?_⟩
  have fx :=  ho1
  refine k_run ?_
  repeat ((first | refine wSc (id := 1) qsQl0 mixed ?_ | refine wSc (id := 3) qsQl1 mixed ?_); refine k_rund ?_; refine k_run ?_)
  clear fx
  intro K hK
  refine o_mv (.s 5) Mn (.inl rfl) (.inr (by simp [ctx0, hN])) ?_
  have fx := fx0
  refine x_map (h := ?_)
  clear fx
  have fx :=  ho1
  refine k_run ?_
  repeat ((first | refine wSc (id := 1) qsQl0 mixed ?_ | refine wSc (id := 3) qsQl1 mixed ?_); refine k_rund ?_; refine k_run ?_)
  clear fx
  intro K hK
  refine o_mv (.c Mn 0 6) (En 0) (.inl rfl) (.inr (by simp [ctx0, hN])) ?_
  have fx := fx0
  refine x_mutM (fun k i j he => by simp [ctx0, hN] at he) (hF := runBody_fn gl p hP 151 _ (startW f) 0 ?_ hw (by simp only [startW]; omega) (by simp [startW]) rfl (by simp)) (h := ?_)
  · clear fx
    refine ⟨by simp [mRow, startW], ⟨by simp [ho1], fun j k hj hk => by simp [ho2 j k hj hk]⟩, by simp [startW, irows], by simp [startW, nrows], ⟨[], by simp, by simp [startW, erows]⟩, by simp [startW, cloRows], fun k g hg => by simp [startW] at hg, by simp [startW, cmpRows], fun k c hc => by simp [startW] at hc, fun i a ha => ?_, fun i hi => ?_, fun k i j hk hn => ?_⟩
    · have hi : i = 0 := by
        have := (gS ha).1
        simp [startW] at this
        omega
      subst hi
      have ha' : a = ⟨0, 0, noSlots⟩ := by simpa [startW] using ha.symm
      subst ha'
      simp [envRow]
      rfl
    · obtain rfl : i = 0 := by simpa [startW] using hi
      exact ⟨[], by simp [mrows], by simpa [Wld.nms, startW] using MapOk.nil⟩
    · by_cases e1 : k = 1 ∧ i = 0 ∧ j = 0
      · exact .inl e1
      · by_cases e7 : k = 7 ∧ i = 0 ∧ j = 0
        · exact .inr (.inl ⟨e7.1, by simp [startW, e7.2.1], e7.2.2⟩)
        · exact absurd hn (by simp [hk, e1, e7, hN])
  rintro y H1 ⟨rfl, hO1⟩
  clear fx
  have hT1 := hO1.top
  simp only [mRow] at hT1
  have hme : (runW p 151 (startW f) 0).1 = meantW p f := rfl
  rw [hme] at hO1 hT1
  have fx :=  hT1
  refine k_run ?_
  repeat ((first | refine wSc (id := 1) qsQl0 mixed ?_ | refine wSc (id := 3) qsQl1 mixed ?_); refine k_rund ?_; refine k_run ?_)
  clear fx
  refine e_ret [] .nil (by simp; rfl) ⟨by simp, OwnM.fin (have om := hO1; OwnM.re om)⟩
theorem isFuel_fn (gl) (f : Int) : FnOk Tryz.prog gl 53 [iv f] (fun _ y _ => y = bv (decide (0 ≤ f) && decide (f ≤ 150))) := by
  refine FnOk.of_sem Tryz.func53 rfl (by kernel_rfl) (rs := [.tmp 2]) rfl Tryz.ntmps53 (Nat.le_of_ble_eq_true rfl) fun C w g root => ?_
  by_cases h1 : 0 ≤ f
  · by_cases h2 : f ≤ 150
    · skip
      have fx := And.intro h1 <| h2
      refine k_run ?_
      clear fx
      refine e_ret [] .nil (by simp; rfl) (by simp [h1, h2])
    · skip
      have fx := And.intro h1 <| h2
      refine k_run ?_
      clear fx
      refine e_ret [] .nil (by simp; rfl) (by simp [h1, h2])
  · skip
    have fx :=  h1
    refine k_run ?_
    clear fx
    refine e_ret [] .nil (by simp; rfl) (by simp [h1])
end Go.Proofs.YtcbkblboonkfhaaGreat
end
section
namespace Go.Proofs.YtcbkblboonkfhaaGreat
open Go Go.Hm Go.Proofs
abbrev qsQo0 : Sch := .q 0 <| .q 1 <| .q 2 <| .q 3 <| .q 4 <| .q 5 <| .q 6 <| .q 7 <| .q 8 <| .q 9 <| .q 10 <| .q 11 <| .q 12 <| .q 13 <| .l 14 [] <| .done
theorem take_set_end : ∀ {xs : List Int} {i : Nat} {v : Int}, i < xs.length → (xs.set i v).take (i + 1) = xs.take i ++ [v]
  | x :: xs, 0, v, _ => by simp
  | x :: xs, i + 1, v, h => by simp [take_set_end (xs := xs) (i := i) (v := v) (by simpa using h)]
theorem result_fn (gl) (H : Nm → Option AO) (F : Nat) (p : Prg) (W : Wld) (hw : WOk p W) (hO : OwnM H F p W) :
    FnE Tryz.prog gl 97 DM [.pt Mn 0] H (fun r y H' => y = .agg ((resW W).own r) ∧ OwnR H' r (resW W)) noE := by
  have hg8 := hw.glob.1
  obtain ⟨a0, h00, hb0⟩ := hw.a0
  have hl0 := (gS h00).1
  refine FnE.of_sem Tryz.func97 rfl (by kernel_rfl) (rs := [.cell 2 62]) rfl Tryz.ntmps97 (Nat.le_of_ble_eq_true rfl) (fun _ => DM_root) fun C w g root hroot => ?_
  have hr0 : DM root = false := hroot root (Nm.under_self _)
  have fx := fx0
  refine k_run ?_
  repeat ((first | refine wSc (id := 10) qsQo0 mixed ?_); refine k_rund ?_; refine k_run ?_)
  clear fx
  refine w_loop (fun n st => ∃ (i : Nat) (xs : List Int), n = 8 - i ∧ i ≤ 8 ∧ xs.length = 8 ∧ xs.take i = shownS (W.globals.take i) ∧ st.tm 0 = .pt Mn 0 ∧ st.tm 2 = .pt (.s 2) 0 ∧ st.hp (.s 2) = some (.row 4 [[.hs (.c (.s 2) 0 0) 1 0 0, iv 0, iv 0, .hs (.c (.s 2) 0 3) 1 0 0]]) ∧ st.tm 3 = .hs (.s 3) 1 0 8 ∧ st.hp (.s 3) = some (.row 1 (irows xs)) ∧ st.tm 9 = iv 8 ∧ st.tm 10 = iv i ∧ OwnM st.hp F p W) 8 ?_ ?_
  · exact ⟨0, List.replicate 8 0, by omega, by omega, by simp, by simp [shownS], by simp [hO.top], by simp, by simp, by simp, by simp [irows], by simp, by simp, (have om := hO; OwnM.re om)⟩
  clear hO
  rintro n st - - ⟨i, xs, rfl, hi, hxl, hxs, t0, t2, hp2, t3, hp3, t9, t10, hO⟩
  have hT := hO.top
  have hE := hO.env 0 a0 h00
  simp only [mRow] at hT
  simp only [envRow] at hE
  obtain ⟨ms, hms, hmo⟩ := hO.nms 0 hl0
  have hmo' : MapOk ms (W.vars none) := by simpa [Wld.nms, Wld.vars] using hmo
  by_cases hil : i < 8
  · obtain ⟨s, hs⟩ : ∃ s, W.globals[i]? = some s := ⟨_, gE (by omega)⟩
    have hx7 : 0 ≤ (i : Int) ∧ (i : Int) ≤ 7 := by omega
    have hlk := hmo'.get' hx7
    have hgs : W.get none (i : Int) = s := by simp [Wld.get, Wld.vars, hs]
    rw [hgs] at hlk
    have htk : shownS (W.globals.take (i + 1)) = shownS (W.globals.take i) ++ [match s with | some v => Hm.shown v | none => -9] := by
      rw [List.take_add_one, hs]
      cases s <;> simp [shownS]
    have hi8 : (i : Int) < 8 := by omega
    cases s with
    | none =>
      have fx := And.intro t0 <| And.intro t2 <| And.intro t3 <| And.intro hp3 <| And.intro t9 <| And.intro t10 <| And.intro hi8 <| And.intro hil <| And.intro hxl <| And.intro hT <| And.intro hE <| And.intro hms <| hlk
      refine k_run ?_
      repeat ((first | refine wSc (id := 10) qsQo0 mixed ?_); refine k_rund ?_; refine k_run ?_)
      clear fx
      exact ⟨8 - (i + 1), by omega, i + 1, xs.set i (-9), rfl, by omega, by simp [hxl], by rw [htk, ← hxs, take_set_end (by omega)], by simp [t0, hT], by simp [t2], by simp [hp2], by simp [t3], by simp [hp3], by simp [t9], by simp [t10]; exact wrp (by omega) (by omega), (have om := hO; OwnM.re om)⟩
    | some v =>
      have hsh := impl_ShownOf_fn gl v
      obtain ⟨v1, v2⟩ := v
      have fx := And.intro t0 <| And.intro t2 <| And.intro t3 <| And.intro hp3 <| And.intro t9 <| And.intro t10 <| And.intro hi8 <| And.intro hil <| And.intro hxl <| And.intro hT <| And.intro hE <| And.intro hms <| hlk
      have c1 := hsh
      refine k_run ?_
      repeat ((first | refine wSc (id := 10) qsQo0 mixed ?_); refine k_rund ?_; refine k_run ?_)
      clear fx c1
      exact ⟨8 - (i + 1), by omega, i + 1, xs.set i (Hm.shown (v1, v2)), rfl, by omega, by simp [hxl], by rw [htk, ← hxs, take_set_end (by omega)], by simp [t0, hT], by simp [t2], by simp [hp2], by simp [t3], by simp [hp3], by simp [t9], by simp [t10]; exact wrp (by omega) (by omega), (have om := hO; OwnM.re om)⟩
  · have hge : i = 8 := by omega
    subst hge
    have hxe : xs = shownS W.globals := by
      rw [List.take_of_length_le (by omega), List.take_of_length_le (by omega)] at hxs
      exact hxs
    have hU := hO.out
    have hsl : (shownS W.globals).length = 8 := by rw [← hxe]; exact hxl
    have h88 : ¬ (8 : Int) < 8 := by omega
    refine w_move (.c Mn 0 4) (.s 1) (.inl rfl) (.inl rfl) ?_
    have fx := And.intro t0 <| And.intro t2 <| And.intro hp2 <| And.intro t3 <| And.intro hp3 <| And.intro t9 <| And.intro t10 <| And.intro h88 <| And.intro hT <| hU
    refine k_run ?_
    repeat ((first | refine wSc (id := 10) qsQo0 mixed ?_); refine k_rund ?_; refine k_run ?_)
    clear fx
    refine e_ret [(.s 2, root)] (.one rfl) (by simp [t2]; rfl) ⟨by simp [resW, hsl], ⟨by simp [resW, hU, hr0], by simp [resW, hp3, hxe, hr0]⟩⟩
theorem impl_RunMeaning_fn (gl) (p : Prg) (f : Int) (hs : Sml p) : FnOk Tryz.prog gl 43 [pav p, iv f] (fun r y H' => y = .agg ((resG p f).own r) ∧ OwnR H' r (resG p f)) := by
  refine FnOk.of_sem Tryz.func43 rfl (by kernel_rfl) (rs := [.cell 4 62]) rfl Tryz.ntmps43 (Nat.le_of_ble_eq_true rfl) fun C w g root => ?_
  cases hv0 : progOk p
  · have hv : fuelOk p f = false := by simp [fuelOk, hv0]
    have hG : resG p f = ⟨[], 0, 0, []⟩ := by simp [resG, hv]
    rw [hG]
    have fx :=  hv0
    have c1 := hv0 ▸ impl_ValidProgram_fn gl p hs
    refine k_run ?_
    clear fx c1
    refine e_ret [(.s 4, root)] (.one rfl) (by simp; rfl) ⟨by simp, ⟨by simp, by simp⟩⟩
  cases hv : fuelOk p f
  · have hf : (decide (0 ≤ f) && decide (f ≤ 150)) = false := by simpa [fuelOk, hv0] using hv
    have hG : resG p f = ⟨[], 0, 0, []⟩ := by simp [resG, hv]
    rw [hG]
    have fx := And.intro hv0 <| hf
    have c1 := hv0 ▸ impl_ValidProgram_fn gl p hs
    have c2 := hf ▸ isFuel_fn gl f
    refine k_run ?_
    clear fx c1 c2
    refine e_ret [(.s 4, root)] (.one rfl) (by simp; rfl) ⟨by simp, ⟨by simp, by simp⟩⟩
  · obtain ⟨hpo, n, rfl, hn⟩ := fuelOk_of hv
    have hP := ValP.of hs hpo
    have hf : (decide (0 ≤ (n : Int)) && decide ((n : Int) ≤ 150)) = true := by simpa [fuelOk, hv0] using hv
    have hm := meantOk hP.sh hn
    have hG : resG p n = resW (meantW p n) := by simp [resG, hv]
    rw [hG]
    have fx := And.intro hv0 <| hf
    have c1 := hv0 ▸ impl_ValidProgram_fn gl p hs
    have c2 := hf ▸ isFuel_fn gl n
    refine k_run ?_
    clear fx c1 c2
    intro K hK
    have fx := fx0
    refine x_mutM (fun k i j he => by simp [ctx0, noH] at he) (hF := meaningOf_fn gl _ p n hP hn (by simp [noH])) (h := ?_)
    rintro y H1 ⟨rfl, hO1⟩
    clear fx
    have hT1 := hO1.top
    simp only [mRow] at hT1
    have fx :=  hT1
    refine k_run ?_
    clear fx
    have fx := hT1
    refine o_mvPost (.c (.s 17) 0 0) (.s 1) (.inl rfl) (.inl rfl) ?_
    refine o_mvPost (.c (.s 17) 0 3) (.s 3) (.inl rfl) (.inl rfl) ?_
    refine x_mutM (fun k i j he => by simp [ctx0, noH] at he) (hF := result_fn gl _ _ p (meantW p n) hm.ok (OwnM.sub (p := p) (F := 207) (w := meantW p n) (have om := hO1; OwnM.re om))) (h := ?_)
    rintro y H2 ⟨rfl, hR2⟩
    clear fx
    have r1 := hR2.out
    have r2 := hR2.gl
    have fx := And.intro r1 <| r2
    refine k_run ?_
    clear fx
    refine e_ret [(.s 4, root)] (.one rfl) (by simp; rfl) ⟨by simp, ⟨by simp [r1], by simp [r2]⟩⟩
end Go.Proofs.YtcbkblboonkfhaaGreat
end
section
namespace Go.Proofs.YtcbkblboonkfhaaGreat
open Go Go.Hm Go.Proofs
abbrev qsWh0 : Sch := .q 0 <| .q 1 <| .q 2 <| .q 3 <| .q 4 <| .q 5 <| .q 6 <| .q 7 <| .q 10 <| .l 8 [10, 6, 5, 4, 2, 1, 0] <| .q 9 <| .done
theorem vwRows_fixV {n : Nm} {vs : List Vw} {f : Nm → Option Nm} (h : ∀ i j, f (.c n i j) = some (.c n i j)) : (vwRows n vs).map (fun r => r.map (AV.tr f)) = vwRows n vs := vwRows_tr fun i j _ => h i j
attribute [local simp] vwRows_fixV
theorem views_fn (gl) (H : Nm → Option AO) (F : Nat) (p : Prg) (W : Wld) (hP : ShapeP p) (hw : WOk p W) (hno : H (.u 2 0 0) = none) (hn9 : H (.u 9 0 0) = none) (hO0 : OwnM H F p W) :
    FnE Tryz.prog gl 91 DM [.pt Mn 0] H (fun r y H' => y = .hs r 3 0 (viewsV p W).length ∧ OwnVs H' r (viewsV p W)) noE := by
  have hh := hP.heads
  have hT := hO0.top
  obtain ⟨lS, hlS, hR⟩ := hO0.run
  simp only [mRow] at hT
  have hnst := hw.nstk
  have hOv := hO0.mv9
  have hin : ∀ i ∈ W.stack ++ lS, i < W.acts.length := fun i hi => by
    rcases List.mem_append.1 hi with e | e
    · exact hw.stk i e
    · exact hlS i e
  generalize hSL : W.stack ++ lS = SL at hin hR
  have hfx : ∀ f : Nm → Option Nm, (∀ i ∈ SL, f (En i) = some (En i)) → (erows SL).map (fun r => r.map (AV.tr f)) = erows SL := fun f hf => erows_fixM hf
  refine FnE.of_sem Tryz.func91 rfl (by kernel_rfl) (rs := [.tmp 2]) rfl Tryz.ntmps91 (Nat.le_of_ble_eq_true rfl) (fun _ => DM_root) fun C w g root hroot => ?_
  have fx := And.intro hT <| hR
  refine k_run ?_
  repeat ((first | refine wSc (id := 6) qsWh0 mixed ?_); refine k_rund ?_; refine k_run ?_)
  clear fx
  refine w_move (.c Mn 0 7) (.u 9 0 0) (.inl rfl) (.inr (by simp [ctx0, hn9])) ?_
  refine w_loop (fun n st => ∃ (i : Nat) (vs : List Vw), n = W.stack.length - i ∧ i ≤ W.stack.length ∧ vs = (W.stack.take i).map (viewV p W) ∧ vs.length = i ∧ st.tm 0 = .pt Mn 0 ∧ OwnMv st.hp p W ∧ st.tm 3 = .hs (.s 3) 3 0 vs.length ∧ OwnVs st.hp (.s 3) vs ∧ st.tm 12 = .hs (.u 9 0 0) 1 0 W.stack.length ∧ st.hp (.u 9 0 0) = some (.row 1 (erows SL)) ∧ st.tm 13 = iv W.stack.length ∧ st.tm 14 = iv i) W.stack.length ?_ ?_
  · exact ⟨0, [], by omega, by omega, by simp, rfl, by simp, ⟨(by obtain ⟨_, h9, _, _, _, _, _, _, _, _, rfl⟩ := hOv.top; exact ⟨_, by first | (simp [h9]; done) | (simp [h9]; exact ⟨rfl, rfl, rfl, rfl, rfl, rfl, rfl, rfl⟩), .mk⟩), ⟨by simp [hOv.scs.top], fun j k hj hk => by simp [hOv.scs.sc j k hj hk]⟩, fun k j hk hj => by simp [hOv.bx k j hk hj], fun i a ha => by simp [hOv.env i a ha], fun i hi => (hOv.nms i hi).imp fun ms hm => ⟨by simp [hm.1], hm.2⟩, fun k i j hk hn => if e : k = 1 ∧ i = 0 ∧ j = 0 then .inl e else hOv.only k i j hk (by have h2 : ¬ (k = 2 ∧ i = 0 ∧ j = 0) := (fun h => by rw [h.1] at hk; exact absurd hk (by decide)); have h3 : ¬ (k = 9 ∧ i = 0 ∧ j = 0) := (fun h => by rw [h.1] at hk; exact absurd hk (by decide)); simpa [hk, e, h2, h3] using hn)⟩, by simp, ⟨by simp, fun i c h => by simp at h⟩, by simp, by simp [hR], by simp, by simp⟩
  clear hT hR
  rintro n0 st - - ⟨i, vs, rfl, hi, hvs, hvl, h0, hO, h3, ⟨ht, he⟩, h12, hp9, h13, h14⟩
  obtain ⟨_, hT, x2, x3, x4, x5, x6, x7, x8, x9, rfl⟩ := hO.top
  have hc1 := hO.scs.top
  have hc2 := hO.scs.sc
  by_cases hil : i < W.stack.length
  · obtain ⟨a, ha⟩ : ∃ a, W.stack[i]? = some a := ⟨_, gE hil⟩
    obtain ⟨_, haE⟩ := gS ha
    have hal := hw.stk a (List.mem_of_getElem? ha)
    obtain ⟨c, hc⟩ : ∃ c, W.acts[a]? = some c := ⟨_, gE hal⟩
    have hbk := blk_at hc
    have hbl := hw.blks a c hc
    obtain ⟨k, hk⟩ : ∃ k, p[c.blk]? = some k := ⟨_, gE hbl⟩
    have hE := hO.env a c hc
    simp only [envRow] at hE
    have hSa : (erows SL)[i]? = some [ptE a] := by
      simp only [erows, List.getElem?_map]
      rw [← hSL, List.getElem?_append_left hil, ha]
      rfl
    obtain ⟨hSal, hSaE⟩ := gS hSa
    generalize hST : erows SL = ST at hp9 hSa hSal hSaE
    have fx := And.intro h0 <| And.intro h12 <| And.intro h13 <| And.intro h14 <| And.intro hT <| And.intro hp9 <| And.intro hSa <| And.intro hSal <| And.intro hSaE <| hil
    refine k_run ?_
    repeat ((first | refine wSc (id := 6) qsWh0 mixed ?_); refine k_rund ?_; refine k_run ?_)
    clear fx
    intro K hK
    have fx := h0
    refine x_map (h := ?_)
    clear fx
    all_goals have fx := And.intro h0 <| And.intro h12 <| And.intro h13 <| And.intro h14 <| And.intro hT <| And.intro hE <| hc1
    repeat' (first
     | refine w_seq ?_ | refine w_block ?_
     | ((with_reducible refine s_end hK ?_); clear hK K)
     | (with_reducible first | refine s_nil ?_)
     | (with_reducible first | refine s_none ?_ | refine x_assign (h := ?_))
     | ((with_reducible refine o_id 98 rfl ?_); refine x_callh (hB := (by first | ((repeat' (first | exact .nil | refine .cons ?_ ?_ | exact .refl _ | exact bw_ints (by simp [fx]; first | done | rfl) (by first | (simp [fx]; done) | (simp [fx]; omega) | omega) | exact bw_list (by simp [fx]; first | done | rfl) (by first | (simp [fx]; done) | (simp [fx]; omega) | omega) (by first | (simp; done) | fail) | exact bw_scopes (n := .c Mn 0 1) (p := p) ⟨by simp [hc1], fun j k hj hk => by simp [hc2 j k hj hk]⟩ hh rfl)); done) | fail)) (hF := seenIn_fn gl p hP c.blk k hk) (h := ?_))
     | (refine wSc (id := 6) qsWh0 mixed fun K hK => ?_)
     | ((with_reducible refine a_end hK ?_); clear hK K)
     | ((with_reducible refine a_id ?_); first | refine xa_q (h := ?_))
     | refine a_l rfl ?_ | (with_reducible refine And.intro ?_ ?_) | exact st_nil | refine xa_st (h2 := ?_)
     | fail)
    all_goals try clear fx
    subst hST
    obtain ⟨S, hSe⟩ : ∃ S, S = seenL p c.blk := ⟨_, rfl⟩
    have hSl : S.length ≤ 8 := hSe ▸ seenL_len
    have hSm : ∀ x ∈ S, x ∈ seenL p c.blk := fun x hx => hSe ▸ hx
    have hSp : S.Pairwise (· < ·) := hSe ▸ seenL_pw
    have hSn : S.Nodup := hSp.imp fun h => by omega
    rw [← hSe]
    refine w_move (.s 6) (.u 2 0 0) (.inl rfl) (.inr (by simp [ctx0, hno])) ?_
    refine w_loop (fun n1 st => ∃ (j : Nat), n1 = S.length - j ∧ j ≤ S.length ∧ st.tm 6 = .mp (.u 2 0 0) ∧ st.hp (.u 2 0 0) = some (.map (grows (slotV p W a) (S.take j))) ∧ st.tm 27 = .hs (.s 27) 1 0 S.length ∧ st.hp (.s 27) = some (.row 1 (irows S)) ∧ st.tm 28 = iv S.length ∧ st.tm 29 = iv j ∧ st.tm 5 = ptE a ∧ st.tm 0 = .pt Mn 0 ∧ OwnMv st.hp p W ∧ st.tm 3 = .hs (.s 3) 3 0 vs.length ∧ OwnVs st.hp (.s 3) vs ∧ st.tm 12 = .hs (.u 9 0 0) 1 0 W.stack.length ∧ st.hp (.u 9 0 0) = some (.row 1 (erows SL)) ∧ st.tm 13 = iv W.stack.length ∧ st.tm 14 = iv i) S.length ⟨0, by omega, by omega, by simp, by simp, by simp, by simp, by simp, by simp, by simp, by simp [h0], ⟨(by obtain ⟨_, h9, _, _, _, _, _, _, _, _, rfl⟩ := hO.top; exact ⟨_, by first | (simp [h9]; done) | (simp [h9]; exact ⟨rfl, rfl, rfl, rfl, rfl, rfl, rfl, rfl⟩), .mk⟩), ⟨by simp [hO.scs.top], fun j k hj hk => by simp [hO.scs.sc j k hj hk]⟩, fun k j hk hj => by simp [hO.bx k j hk hj], fun i a ha => by simp [hO.env i a ha], fun i hi => (hO.nms i hi).imp fun ms hm => ⟨by simp [hm.1], hm.2⟩, fun k i j hk hn => if e : k = 1 ∧ i = 0 ∧ j = 0 then .inl e else hO.only k i j hk (by have h2 : ¬ (k = 2 ∧ i = 0 ∧ j = 0) := (fun h => by rw [h.1] at hk; exact absurd hk (by decide)); have h3 : ¬ (k = 9 ∧ i = 0 ∧ j = 0) := (fun h => by rw [h.1] at hk; exact absurd hk (by decide)); simpa [hk, e, h2, h3] using hn)⟩, by simp [h3], ⟨by simp [ht], fun q v hq => ⟨by simp [(he q v hq).names], by simp [(he q v hq).vals]⟩⟩, by simp [h12], by simp [hp9], by simp [h13], by simp [h14]⟩ ?_
    clear hT hc1 hc2 hE hO h0 h3 ht he h12 hp9 h13 h14 hSa
    rintro n1 st - - ⟨j, rfl, hj, h6, hm, h27, hp27, h28, h29, h5, h0, hO, h3, ⟨ht, he⟩, h12, hp9, h13, h14⟩
    obtain ⟨_, hT, y2, y3, y4, y5, y6, y7, y8, y9, rfl⟩ := hO.top
    have hE := hO.env a c hc
    simp only [envRow] at hE
    by_cases hjl : j < S.length
    · obtain ⟨x, hx⟩ : ∃ x, S[j]? = some x := ⟨_, gE hjl⟩
      obtain ⟨_, hxE⟩ := gS hx
      have hxs := hSm x (List.mem_of_getElem? hx)
      obtain ⟨hx0, hx7⟩ := seenL_rng hxs
      obtain ⟨X, rfl⟩ : ∃ X : Nat, x = X := ⟨x.toNat, by omega⟩
      have hX8 : X < 8 := by omega
      have hnot : (X : Int) ∉ S.take j := by
        intro hmem
        obtain ⟨q, hq⟩ := List.getElem?_of_mem hmem
        rw [List.getElem?_take] at hq
        split at hq
        · rename_i hqj
          have := (List.getElem?_inj (by omega) hSn).1 (hq.trans hx.symm)
          omega
        · cases hq
      have hset := grows_set (g := slotV p W a) hnot
      have htk : S.take (j + 1) = S.take j ++ [(X : Int)] := by rw [List.take_add_one, hx]; rfl
      have hEn : ∀ i ∈ SL, (st.hp (En i)).isSome = true := fun i hi => by
        obtain ⟨q, hq⟩ : ∃ q, W.acts[i]? = some q := ⟨_, gE (hin i hi)⟩
        rw [hO.env i q hq]
        rfl
      have fx := And.intro h6 <| And.intro hm <| And.intro h27 <| And.intro hp27 <| And.intro h28 <| And.intro h29 <| And.intro h5 <| And.intro h0 <| And.intro hjl <| And.intro hx <| hxE
      refine k_run ?_
      repeat ((first | refine wSc (id := 6) qsWh0 mixed ?_); refine k_rund ?_; refine k_run ?_)
      clear fx
      intro K hK
      have fx := And.intro h6 (And.intro h5 h0)
      refine x_callV hO0 ⟨(by obtain ⟨_, h9, _, _, _, _, _, _, _, _, rfl⟩ := hO.top; exact ⟨_, by first | (simp [h9]; done) | (simp [h9]; exact ⟨rfl, rfl, rfl, rfl, rfl, rfl, rfl, rfl⟩), .mk⟩), ⟨by simp [hO.scs.top], fun j k hj hk => by simp [hO.scs.sc j k hj hk]⟩, fun k j hk hj => by simp [hO.bx k j hk hj], fun i a ha => by simp [hO.env i a ha], fun i hi => (hO.nms i hi).imp fun ms hm => ⟨by simp [hm.1], hm.2⟩, fun k i j hk hn => if e : k = 1 ∧ i = 0 ∧ j = 0 then .inl e else hO.only k i j hk (by have h2 : ¬ (k = 2 ∧ i = 0 ∧ j = 0) := (fun h => by rw [h.1] at hk; exact absurd hk (by decide)); have h3 : ¬ (k = 9 ∧ i = 0 ∧ j = 0) := (fun h => by rw [h.1] at hk; exact absurd hk (by decide)); simpa [hk, e, h2, h3] using hn)⟩ (Nat.le_refl _) (Nat.le_refl _) (hF := fun hs => placeV_fn gl _ p W a X hP hw hal hX8 (by rw [hbk]; exact hxs) hs) (h := ?_)
      rintro y H1 ⟨rfl, hO1⟩
      clear fx
      have fx := And.intro h6 <| And.intro hm <| h29
      refine k_run ?_
      repeat ((first | refine wSc (id := 6) qsWh0 mixed ?_); refine k_rund ?_; refine k_run ?_)
      clear fx
      have fx := And.intro h6 (And.intro hm (And.intro h29 hset))
      refine x_mapUpdate (h := ?_)
      clear fx
      have fx :=  h29
      refine k_run ?_
      repeat ((first | refine wSc (id := 6) qsWh0 mixed ?_); refine k_rund ?_; refine k_run ?_)
      clear fx
      refine ⟨S.length - (j + 1), by omega, j + 1, rfl, by omega, by simp [h6], by simp [htk], by simp [h27], by simp [hp27], by simp [h28], by simp [h29]; exact wrp (by omega) (by omega), by simp [h5, hE], by simp [h0, hT], ⟨(by obtain ⟨_, h9, _, _, _, _, _, _, _, _, rfl⟩ := hO1.top; exact ⟨_, by first | (simp [h9]; done) | (simp [h9]; exact ⟨rfl, rfl, rfl, rfl, rfl, rfl, rfl, rfl⟩), .mk⟩), ⟨by simp [hO1.scs.top], fun j k hj hk => by simp [hO1.scs.sc j k hj hk]⟩, fun k j hk hj => by simp [hO1.bx k j hk hj], fun i a ha => by simp [hO1.env i a ha], fun i hi => (hO1.nms i hi).imp fun ms hm => ⟨by simp [hm.1], hm.2⟩, fun k i j hk hn => if e : k = 1 ∧ i = 0 ∧ j = 0 then .inl e else hO1.only k i j hk (by have h2 : ¬ (k = 2 ∧ i = 0 ∧ j = 0) := (fun h => by rw [h.1] at hk; exact absurd hk (by decide)); have h3 : ¬ (k = 9 ∧ i = 0 ∧ j = 0) := (fun h => by rw [h.1] at hk; exact absurd hk (by decide)); simpa [hk, e, h2, h3] using hn)⟩, by simp [h3], ⟨by simp [ht], fun q v hq => ⟨by simp [(he q v hq).names], by simp [(he q v hq).vals]⟩⟩, by simp [h12], by simp [hp9, -List.map_map]; rw [hfx _ (fun i hi => by have := hEn i hi; simp [this])], by simp [h13], by simp [h14]⟩
    · obtain rfl : j = S.length := by omega
      rw [List.take_length] at hm
      have hvl2 : vs.length ≤ 1000 := by omega
      have hve : viewV p W a = ⟨c.blk, vnames (S.map fun x => (x, slotV p W a x)), vvals (S.map fun x => (x, slotV p W a x))⟩ := by simp only [viewV, hbk, ← hSe]
      have fx := And.intro h6 <| And.intro hm <| And.intro h28 <| And.intro h29 <| And.intro hjl <| And.intro h5 <| And.intro h3 <| And.intro hE <| h0
      refine k_run ?_
      repeat ((first | refine wSc (id := 6) qsWh0 mixed ?_); refine k_rund ?_; refine k_run ?_)
      clear fx
      intro K hK
      have fx := And.intro h6 (And.intro h3 hm)
      refine x_mut (.u 2 0 0) rfl (by simp [hm]) (hF := viewOf_fn gl c.blk (slotV p W a) S hSp (fun x hx => seenL_rng (hSm x hx)) hSl _ (by simp [hsub, hm])) (h := ?_)
      rw [← hve]
      generalize viewV p W a = v at hve
      rintro y H2 ⟨rfl, hVv⟩
      have o1 := hVv.names
      have o2 := hVv.vals
      clear fx
      have fx := And.intro h3 <| And.intro ht <| And.intro h14 <| And.intro hvl2 <| And.intro o1 <| o2
      refine k_run ?_
      repeat ((first | refine wSc (id := 6) qsWh0 mixed ?_); refine k_rund ?_; refine k_run ?_)
      clear fx
      refine ⟨W.stack.length - (i + 1), by omega, i + 1, vs ++ [v], rfl, by omega, by rw [List.take_add_one, ha, List.map_append, hvs]; simp [hve, viewV, hbk, ← hSe], by simp [hvl], by simp [h0], ⟨(by obtain ⟨_, h9, _, _, _, _, _, _, _, _, rfl⟩ := hO.top; exact ⟨_, by first | (simp [h9]; done) | (simp [h9]; exact ⟨rfl, rfl, rfl, rfl, rfl, rfl, rfl, rfl⟩), .mk⟩), ⟨by simp [hO.scs.top], fun j k hj hk => by simp [hO.scs.sc j k hj hk]⟩, fun k j hk hj => by simp [hO.bx k j hk hj], fun i a ha => by simp [hO.env i a ha], fun i hi => (hO.nms i hi).imp fun ms hm => ⟨by simp [hm.1], hm.2⟩, fun k i j hk hn => if e : k = 1 ∧ i = 0 ∧ j = 0 then .inl e else hO.only k i j hk (by have h2 : ¬ (k = 2 ∧ i = 0 ∧ j = 0) := (fun h => by rw [h.1] at hk; exact absurd hk (by decide)); have h3 : ¬ (k = 9 ∧ i = 0 ∧ j = 0) := (fun h => by rw [h.1] at hk; exact absurd hk (by decide)); simpa [hk, e, h2, h3] using hn)⟩, by simp, ⟨?_, fun q d hq => ?_⟩, by simp [h12], by simp [hp9], by simp [h13], by simp [h14]; exact wrp (by omega) (by omega)⟩
      · simp [ht, vwRows_app]
      · rcases Nat.lt_or_ge q vs.length with hlq | hgq
        · rw [List.getElem?_append_left hlq] at hq
          have hne : ¬ q = vs.length := by omega
          obtain ⟨e1, e2⟩ := he q d hq
          exact ⟨by simp [hne, e1], by simp [hne, e2]⟩
        · rw [List.getElem?_append_right hgq] at hq
          obtain rfl : q = vs.length := by
            have := (gS hq).1
            simp at this
            omega
          simp at hq
          subst hq
          exact ⟨by simp [o1], by simp [o2]⟩
  · obtain rfl : i = W.stack.length := by omega
    rw [List.take_length] at hvs
    have hvs' : viewsV p W = vs := hvs.symm
    rw [hvs']
    have fx := And.intro h3 <| And.intro ht <| And.intro h13 <| And.intro h14 <| hil
    refine k_run ?_
    repeat ((first | refine wSc (id := 6) qsWh0 mixed ?_); refine k_rund ?_; refine k_run ?_)
    clear fx
    refine e_ret [(.s 2, root)] (.one rfl) (by simp; rfl) ⟨by simp, ⟨by simp [ht, hroot root (Nm.under_self _), vwRows_tr (n := .s 2) (m := root) (f := finf DM [(.s 2, root)]) (by simp)], fun q v hq => ⟨by simp [(he q v hq).names, hroot root (Nm.under_self _)], by simp [(he q v hq).vals, hroot root (Nm.under_self _)]⟩⟩⟩
theorem impl_ViewsByMeaning_fn (gl) (p : Prg) (f : Int) (hs : Sml p) : FnOk Tryz.prog gl 36 [pav p, iv f] (fun r y H' => y = .hs r 3 0 (viewsG p f).length ∧ OwnVs H' r (viewsG p f)) := by
  refine FnOk.of_sem Tryz.func36 rfl (by kernel_rfl) (rs := [.tmp 4]) rfl Tryz.ntmps36 (Nat.le_of_ble_eq_true rfl) fun C w g root => ?_
  cases hv0 : progOk p
  · have hv : fuelOk p f = false := by simp [fuelOk, hv0]
    have hG : viewsG p f = [] := by simp [viewsG, hv]
    rw [hG]
    have fx :=  hv0
    have c1 := hv0 ▸ impl_ValidProgram_fn gl p hs
    refine k_run ?_
    clear fx c1
    refine e_ret [(.s 4, root)] (.one rfl) (by simp; rfl) ⟨by simp, ⟨by simp, fun i c h => by simp at h⟩⟩
  cases hv : fuelOk p f
  · have hf : (decide (0 ≤ f) && decide (f ≤ 150)) = false := by simpa [fuelOk, hv0] using hv
    have hG : viewsG p f = [] := by simp [viewsG, hv]
    rw [hG]
    have fx := And.intro hv0 <| hf
    have c1 := hv0 ▸ impl_ValidProgram_fn gl p hs
    have c2 := hf ▸ isFuel_fn gl f
    refine k_run ?_
    clear fx c1 c2
    refine e_ret [(.s 4, root)] (.one rfl) (by simp; rfl) ⟨by simp, ⟨by simp, fun i c h => by simp at h⟩⟩
  · obtain ⟨hpo, n, rfl, hn⟩ := fuelOk_of hv
    have hP := ValP.of hs hpo
    have hf : (decide (0 ≤ (n : Int)) && decide ((n : Int) ≤ 150)) = true := by simpa [fuelOk, hv0] using hv
    have hm := meantOk hP.sh hn
    have hG : viewsG p n = viewsV p (meantW p n) := by simp [viewsG, hv]
    rw [hG]
    have fx := And.intro hv0 <| hf
    have c1 := hv0 ▸ impl_ValidProgram_fn gl p hs
    have c2 := hf ▸ isFuel_fn gl n
    refine k_run ?_
    clear fx c1 c2
    intro K hK
    have fx := fx0
    refine x_mutM (fun k i j he => by simp [ctx0, noH] at he) (hF := meaningOf_fn gl _ p n hP hn (by simp [noH])) (h := ?_)
    rintro y H1 ⟨rfl, hO1⟩
    clear fx
    have hT1 := hO1.top
    simp only [mRow] at hT1
    have fx :=  hT1
    refine k_run ?_
    clear fx
    have fx := hT1
    refine x_mutM (fun k i j he => by simp [ctx0, noH] at he) (hF := views_fn gl _ _ p (meantW p n) hP.sh hm.ok (by simp [dsub_eq]) (by simp [dsub_eq]) (OwnM.sub (p := p) (F := 207) (w := meantW p n) (have om := hO1; OwnM.re om))) (h := ?_)
    rintro y H2 ⟨rfl, hV2⟩
    clear fx
    obtain ⟨ht, he⟩ := hV2
    have fx :=  ht
    refine k_run ?_
    clear fx
    refine e_ret [(.s 4, root)] (.one rfl) (by simp; rfl) ⟨by simp, ⟨by simp [ht, vwRows_tr (n := .s 4) (m := root) (f := finf noD [(.s 4, root)]) (by simp)], fun q v hq => ⟨by simp [(he q v hq).names], by simp [(he q v hq).vals]⟩⟩⟩
end Go.Proofs.YtcbkblboonkfhaaGreat
end
section
namespace Go.Proofs.YtcbkblboonkfhaaGreat
open Go Go.Hm Go.Proofs
end Go.Proofs.YtcbkblboonkfhaaGreat
end
section
namespace Go.Proofs.YtcbkblboonkfhaaGreat
open Go Go.Hm Go.Proofs
end Go.Proofs.YtcbkblboonkfhaaGreat
end
