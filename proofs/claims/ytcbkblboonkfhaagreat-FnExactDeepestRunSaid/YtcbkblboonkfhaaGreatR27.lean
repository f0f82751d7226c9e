/-
  Own texts, joined by mkclaim.py: Qk, Ql, Qn, Hn, Jz.
-/
import Derived.Test.YtcbkblboonkfhaaGreatR26
import Derived.Test.YtcbkblboonkfhaaGreatR23
import Derived.Test.YtcbkblboonkfhaaGreatR15
import Derived.Test.YtcbkblboonkfhaaGreatR11
import Derived.Test.YtcbkblboonkfhaaGreatR16
import Derived.Test.YtcbkblboonkfhaaGreatProg
import Derived.Test.YtcbkblboonkfhaaGreatChecked
import Derived.KernelRfl
set_option linter.unusedSimpArgs false
set_option linter.unusedVariables false

section
set_option maxRecDepth 100000
set_option maxHeartbeats 4000000
set_option linter.unusedSimpArgs false
namespace Go.Proofs.YtcbkblboonkfhaaGreat
open Go Go.Hm Go.Proofs
theorem loadW_bad {p : Prg} {w : Wld} {a : Nat} {x : Int} (h0 : w.en = 0) : (loadW p w a x).1.en ≠ 0 → (loadW p w a x).2 = (0, 0) := by
  unfold loadW
  repeat' split
  all_goals simp [h0]
theorem loads1 {p : Prg} {w : Wld} {a : Nat} {x : Int} (h0 : w.en = 0) : loadsW p w a [x] = ((loadW p w a x).1, [(loadW p w a x).2]) := by
  simp [loadsW, h0]
theorem bodyW_bad {p : Prg} {R : Wld → Nat → Wld × Val} {a i : Nat} {V : Wld} {s : Stm} {l : List Stm} (h0 : V.en = 0) (hl : V.left ≠ 0) (hq : (loadsW p (tickW V a i) a s.reads).1.en ≠ 0) : bodyW p R a V i (s :: l) = ((loadsW p (tickW V a i) a s.reads).1, (0, 0)) := by
  have ht : (tickW V a i).en = 0 := h0
  by_cases h8 : s.kind = 8
  · have hrd : s.reads = [s.a] := by simp [Stm.reads, h8]
    rw [hrd, loads1 ht] at hq ⊢
    simp only at hq
    simp only [bodyW, hl, h8, if_true, if_false]
    rw [← loadW_bad ht hq]
  · have hst : stmW p R (tickW V a i) a s = (loadsW p (tickW V a i) a s.reads).1 := by
      by_cases h9 : s.kind = 9 ∨ s.kind = 10 ∨ s.kind = 11
      · have hrd : s.reads = [] := by rcases h9 with e | e | e <;> simp [Stm.reads, e]
        rw [hrd] at hq
        simp only [loadsW] at hq
        exact absurd ht hq
      · have hv : valueW p R (tickW V a i) a s = ((loadsW p (tickW V a i) a s.reads).1, (0, 0)) := by
          unfold valueW
          rw [if_pos hq]
        have e1 : ¬ (s.kind = 9 ∨ s.kind = 10) := by omega
        have e2 : ¬ s.kind = 11 := by omega
        unfold stmW
        rw [if_neg e1, if_neg e2, hv, if_pos hq]
    simp only [bodyW, hl, h8, if_false]
    rw [hst, if_pos hq]
theorem bodyW_ret {p : Prg} {R : Wld → Nat → Wld × Val} {a i : Nat} {V : Wld} {s : Stm} {l : List Stm} {vs : List Val} (h0 : V.en = 0) (hl : V.left ≠ 0) (h8 : s.kind = 8) (hq : loadsW p (tickW V a i) a s.reads = (tickW V a i, vs)) : ∃ v, vs = [v] ∧ bodyW p R a V i (s :: l) = (tickW V a i, v) := by
  have ht : (tickW V a i).en = 0 := h0
  have hrd : s.reads = [s.a] := by simp [Stm.reads, h8]
  rw [hrd, loads1 ht] at hq
  obtain ⟨e1, e2⟩ := Prod.mk.inj hq
  refine ⟨_, e2.symm, ?_⟩
  simp only [bodyW, hl, h8, if_true, if_false]
  exact Prod.ext e1 rfl
theorem bodyW_do {p : Prg} {R : Wld → Nat → Wld × Val} {a i : Nat} {V : Wld} {s : Stm} {l : List Stm} {vs : List Val} (h0 : V.en = 0) (hl : V.left ≠ 0) (h8 : s.kind ≠ 8) (hq : loadsW p (tickW V a i) a s.reads = (tickW V a i, vs)) : bodyW p R a V i (s :: l) = if (doW p R (tickW V a i) a s vs).en ≠ 0 then (doW p R (tickW V a i) a s vs, (0, 0)) else bodyW p R a (doW p R (tickW V a i) a s vs) (i + 1) l := by
  have ht : (tickW V a i).en = 0 := h0
  simp only [bodyW, hl, h8, if_false]
  rw [stmW_do ht hq]
theorem runBody_step (gl) (p : Prg) (n : Nat) (hR : MBok gl 207 p n) (hP : ValP p) : MBok gl 207 p (n + 1) := by
  intro H W a hO hw hn ha h0 hV
  show FnE Tryz.prog gl 105 DM [.pt Mn 0, ptE a] H _ noE
  obtain ⟨c, hc⟩ : ∃ c, W.acts[a]? = some c := ⟨_, List.getElem?_eq_getElem ha⟩
  have hbl := hw.blks a c hc
  obtain ⟨k, hk⟩ : ∃ k, p[c.blk]? = some k := ⟨_, List.getElem?_eq_getElem hbl⟩
  obtain ⟨_, hkE⟩ := List.getElem?_eq_some_iff.1 hk
  have hbk := blk_at hc
  have hT := hO.top
  have hE := hO.env a c hc
  simp only [mRow] at hT
  simp only [envRow] at hE
  have hb12 := hP.sh.body k (List.mem_of_getElem? hk)
  have hrun : runW p (n + 1) W a = bodyW p (runW p n) a W 0 k.body := by simp only [runW, hbk, hk]
  have hO0 := hO
  refine FnE.of_sem Tryz.func105 rfl (by kernel_rfl) (rs := [.cell 4 117, .tmp 5]) rfl Tryz.ntmps105 (Nat.le_of_ble_eq_true rfl) (fun _ => DM_root) fun C w g root hroot => ?_
  have fx := And.intro hT <| And.intro hE <| And.intro hk <| And.intro hkE <| hbl
  refine k_run ?_
  repeat ((first | refine w_sch (id := 1) (.q 0 <| .q 1 <| .q 2 <| .q 3 <| .q 4 <| .q 5 <| .q 6 <| .q 7 <| .q 8 <| .q 9 <| .q 10 <| .q 11 <| .q 12 <| .q 13 <| .done) mixed (by kernel_rfl) (by kernel_rfl) ?_ | refine w_sch (id := 7) (.q 0 <| .q 1 <| .q 2 <| .q 3 <| .q 4 <| .q 5 <| .q 6 <| .q 7 <| .q 8 <| .q 9 <| .q 10 <| .l 11 [9, 8, 7, 6, 5, 4, 3, 2, 1, 0] <| .l 12 [9, 8, 7, 6, 5, 3, 2, 1, 0] <| .q 13 <| .q 14 <| .l 15 [13] <| .done) mixed (by kernel_rfl) (by kernel_rfl) ?_); refine k_rund ?_; refine k_run ?_)
  clear fx
  refine w_loop (fun m st => ∃ (i : Nat) (V : Wld), m = k.body.length - i ∧ i ≤ k.body.length ∧ runW p (n + 1) W a = bodyW p (runW p n) a V i (k.body.drop i) ∧ WOk p V ∧ V.left < n + 1 ∧ a < V.acts.length ∧ V.en = 0 ∧ V.blk a = c.blk ∧ W.acts.length ≤ V.acts.length ∧ W.funs.length ≤ V.funs.length ∧ st.tm 0 = .pt Mn 0 ∧ st.tm 1 = ptE a ∧ st.tm 4 = .pt (.s 4) 0 ∧ st.hp (.s 4) = some (.row 2 [[iv 0, iv 0]]) ∧ st.tm 21 = ssl k.body ∧ st.tm 22 = iv k.body.length ∧ st.tm 23 = iv i ∧ OwnM st.hp 207 p V) k.body.length ?_ ?_
  · exact ⟨0, W, by omega, by omega, by simpa using hrun, hw, hn, ha, h0, hbk, Nat.le_refl _, Nat.le_refl _, by simp [hT], by simp [hE], by simp, by simp, by simp, by simp, by simp, ⟨by simp [hO.top, mRow], ⟨by simp [hO.scs.top], fun j k hj hk => by simp [hO.scs.sc j k hj hk]⟩, by simp [hO.out], by simp [hO.trc], hO.run.imp fun l hl => ⟨hl.1, by simp [hl.2]⟩, by simp [hO.funs], fun k g hg => by simp [hO.bx k g hg], by simp [hO.clss], fun k c hc => (hO.cls k c hc).imp fun ms hm => ⟨by simp [hm.1], hm.2⟩, fun i a ha => by simp [hO.env i a ha], fun i hi => (hO.nms i hi).imp fun ms hm => ⟨by simp [hm.1], hm.2⟩, fun k i j hk hn => if e : k = 1 ∧ i = 0 ∧ j = 0 then .inl e else hO.only k i j hk (by simpa [hk, e] using hn)⟩⟩
  clear hT hE hO
  rintro m st - - ⟨i, V, rfl, hi, hres, hw', hn', ha', h0', hbV, hl1, hl2, t0, t1, t4, hp4, t21, t22, t23, hO⟩
  clear hrun h0 hn hw hc ha
  obtain ⟨d, hd⟩ : ∃ d, V.acts[a]? = some d := ⟨_, List.getElem?_eq_getElem ha'⟩
  have hdb : d.blk = c.blk := by rw [← blk_at hd]; exact hbV
  have hT := hO.top
  have hE := hO.env a d hd
  simp only [mRow] at hT
  simp only [envRow] at hE
  by_cases hil : i < k.body.length
  case neg =>
    have hge : i = k.body.length := by omega
    rw [hge, List.drop_length] at hres
    simp only [bodyW] at hres
    have fx := And.intro t0 <| And.intro t1 <| And.intro t4 <| And.intro hp4 <| And.intro t21 <| And.intro t22 <| And.intro t23 <| hil
    refine k_run ?_
    repeat ((first | refine w_sch (id := 1) (.q 0 <| .q 1 <| .q 2 <| .q 3 <| .q 4 <| .q 5 <| .q 6 <| .q 7 <| .q 8 <| .q 9 <| .q 10 <| .q 11 <| .q 12 <| .q 13 <| .done) mixed (by kernel_rfl) (by kernel_rfl) ?_ | refine w_sch (id := 7) (.q 0 <| .q 1 <| .q 2 <| .q 3 <| .q 4 <| .q 5 <| .q 6 <| .q 7 <| .q 8 <| .q 9 <| .q 10 <| .l 11 [9, 8, 7, 6, 5, 4, 3, 2, 1, 0] <| .l 12 [9, 8, 7, 6, 5, 3, 2, 1, 0] <| .q 13 <| .q 14 <| .l 15 [13] <| .done) mixed (by kernel_rfl) (by kernel_rfl) ?_); refine k_rund ?_; refine k_run ?_)
    clear fx
    rw [hres]
    refine e_ret [] .nil (by simp [t4]; rfl) ⟨by simp [h0'], OwnM.fin ⟨by simp [hO.top, mRow], ⟨by simp [hO.scs.top], fun j k hj hk => by simp [hO.scs.sc j k hj hk]⟩, by simp [hO.out], by simp [hO.trc], hO.run.imp fun l hl => ⟨hl.1, by simp [hl.2]⟩, by simp [hO.funs], fun k g hg => by simp [hO.bx k g hg], by simp [hO.clss], fun k c hc => (hO.cls k c hc).imp fun ms hm => ⟨by simp [hm.1], hm.2⟩, fun i a ha => by simp [hO.env i a ha], fun i hi => (hO.nms i hi).imp fun ms hm => ⟨by simp [hm.1], hm.2⟩, fun k i j hk hn => if e : k = 1 ∧ i = 0 ∧ j = 0 then .inl e else hO.only k i j hk (by simpa [hk, e] using hn)⟩⟩
  obtain ⟨s, hs⟩ : ∃ s, k.body[i]? = some s := ⟨_, List.getElem?_eq_getElem hil⟩
  obtain ⟨_, hsE⟩ := List.getElem?_eq_some_iff.1 hs
  have hsm := List.mem_of_getElem? hs
  have hdr : k.body.drop i = s :: k.body.drop (i + 1) := by rw [List.drop_eq_getElem_cons hil, hsE]
  rw [hdr] at hres
  by_cases hl : V.left = 0
  · have hr2 : bodyW p (runW p n) a V i (s :: k.body.drop (i + 1)) = ({ V with en := 1 }, (0, 0)) := by simp only [bodyW, hl, if_true]
    rw [hr2] at hres
    have fx := And.intro t0 <| And.intro t1 <| And.intro t4 <| And.intro hp4 <| And.intro t21 <| And.intro t22 <| And.intro t23 <| And.intro hil <| And.intro hs <| And.intro hsE <| And.intro hT <| hl
    refine k_run ?_
    repeat ((first | refine w_sch (id := 1) (.q 0 <| .q 1 <| .q 2 <| .q 3 <| .q 4 <| .q 5 <| .q 6 <| .q 7 <| .q 8 <| .q 9 <| .q 10 <| .q 11 <| .q 12 <| .q 13 <| .done) mixed (by kernel_rfl) (by kernel_rfl) ?_ | refine w_sch (id := 7) (.q 0 <| .q 1 <| .q 2 <| .q 3 <| .q 4 <| .q 5 <| .q 6 <| .q 7 <| .q 8 <| .q 9 <| .q 10 <| .l 11 [9, 8, 7, 6, 5, 4, 3, 2, 1, 0] <| .l 12 [9, 8, 7, 6, 5, 3, 2, 1, 0] <| .q 13 <| .q 14 <| .l 15 [13] <| .done) mixed (by kernel_rfl) (by kernel_rfl) ?_); refine k_rund ?_; refine k_run ?_)
    clear fx
    intro K hK
    have fx := And.intro t0 hT
    refine x_callM hO0 ⟨by simp [hO.top, mRow], ⟨by simp [hO.scs.top], fun j k hj hk => by simp [hO.scs.sc j k hj hk]⟩, by simp [hO.out], by simp [hO.trc], hO.run.imp fun l hl => ⟨hl.1, by simp [hl.2]⟩, by simp [hO.funs], fun k g hg => by simp [hO.bx k g hg], by simp [hO.clss], fun k c hc => (hO.cls k c hc).imp fun ms hm => ⟨by simp [hm.1], hm.2⟩, fun i a ha => by simp [hO.env i a ha], fun i hi => (hO.nms i hi).imp fun ms hm => ⟨by simp [hm.1], hm.2⟩, fun k i j hk hn => if e : k = 1 ∧ i = 0 ∧ j = 0 then .inl e else hO.only k i j hk (by simpa [hk, e] using hn)⟩ hl1 hl2 (hF := fun hs => stop_fn _ _ _ p V 1 hs) (h := ?_)
    rintro y H2 ⟨rfl, hO2⟩
    clear fx
    have hT2 := hO2.top
    simp only [mRow] at hT2
    have fx := And.intro t0 <| And.intro t1 <| And.intro t4 <| And.intro hp4 <| And.intro hT <| And.intro hT2 <| hl
    refine k_run ?_
    repeat ((first | refine w_sch (id := 1) (.q 0 <| .q 1 <| .q 2 <| .q 3 <| .q 4 <| .q 5 <| .q 6 <| .q 7 <| .q 8 <| .q 9 <| .q 10 <| .q 11 <| .q 12 <| .q 13 <| .done) mixed (by kernel_rfl) (by kernel_rfl) ?_ | refine w_sch (id := 7) (.q 0 <| .q 1 <| .q 2 <| .q 3 <| .q 4 <| .q 5 <| .q 6 <| .q 7 <| .q 8 <| .q 9 <| .q 10 <| .l 11 [9, 8, 7, 6, 5, 4, 3, 2, 1, 0] <| .l 12 [9, 8, 7, 6, 5, 3, 2, 1, 0] <| .q 13 <| .q 14 <| .l 15 [13] <| .done) mixed (by kernel_rfl) (by kernel_rfl) ?_); refine k_rund ?_; refine k_run ?_)
    clear fx
    rw [hres]
    refine e_ret [] .nil (by simp [t4]; rfl) ⟨by simp, OwnM.fin ⟨by simp [hO2.top, mRow], ⟨by simp [hO2.scs.top], fun j k hj hk => by simp [hO2.scs.sc j k hj hk]⟩, by simp [hO2.out], by simp [hO2.trc], hO2.run.imp fun l hl => ⟨hl.1, by simp [hl.2]⟩, by simp [hO2.funs], fun k g hg => by simp [hO2.bx k g hg], by simp [hO2.clss], fun k c hc => (hO2.cls k c hc).imp fun ms hm => ⟨by simp [hm.1], hm.2⟩, fun i a ha => by simp [hO2.env i a ha], fun i hi => (hO2.nms i hi).imp fun ms hm => ⟨by simp [hm.1], hm.2⟩, fun k i j hk hn => if e : k = 1 ∧ i = 0 ∧ j = 0 then .inl e else hO2.only k i j hk (by simpa [hk, e] using hn)⟩⟩
  obtain ⟨l, hll⟩ : ∃ l, V.left = l + 1 := ⟨V.left - 1, by omega⟩
  obtain ⟨tk1, tk2⟩ := tickW_ok (a := a) (i := i) hw' hl
  have hTt : tickW V a i = { V with left := l, trace := V.trace ++ [(d.blk, i)] } := by simp only [tickW, blk_at hd]; rw [hll]; rfl
  have hbV2 : (tickW V a i).blk a = d.blk := by rw [show (tickW V a i).blk a = V.blk a from rfl, blk_at hd]
  have hleft : (tickW V a i).left < n := by simp only [tickW]; omega
  have hTr := hO.trc
  have hnt := hw'.ntr
  have hnl := hw'.nacts
  have htl' : V.trace.length ≤ 1000 := by omega
  have hl8 : l ≤ 1000 := by omega
  have hlb : ((l : Int) + 1 == 0) = false := by rw [beq_eq_false_iff_ne]; omega
  have hwl : IntKind.i64.wrap (l : Int) = l := wrp (by omega) (by omega)
  have hap : nrows V.trace ++ [[iv d.blk, iv i]] = nrows (V.trace ++ [(d.blk, i)]) := nrows_app1
  have hkd := (hP.sh.names k (List.mem_of_getElem? hk)).kinds s hsm
  have hrd := (hP.sh.names k (List.mem_of_getElem? hk)).reads s hsm
  have fx := And.intro t0 <| And.intro t1 <| And.intro t4 <| And.intro hp4 <| And.intro t21 <| And.intro t22 <| And.intro t23 <| And.intro hil <| And.intro hs <| And.intro hsE <| And.intro hT <| And.intro hll <| And.intro hlb <| And.intro hwl <| And.intro hTr <| And.intro htl' <| hE
  refine k_run ?_
  repeat ((first | refine w_sch (id := 1) (.q 0 <| .q 1 <| .q 2 <| .q 3 <| .q 4 <| .q 5 <| .q 6 <| .q 7 <| .q 8 <| .q 9 <| .q 10 <| .q 11 <| .q 12 <| .q 13 <| .done) mixed (by kernel_rfl) (by kernel_rfl) ?_ | refine w_sch (id := 7) (.q 0 <| .q 1 <| .q 2 <| .q 3 <| .q 4 <| .q 5 <| .q 6 <| .q 7 <| .q 8 <| .q 9 <| .q 10 <| .l 11 [9, 8, 7, 6, 5, 4, 3, 2, 1, 0] <| .l 12 [9, 8, 7, 6, 5, 3, 2, 1, 0] <| .q 13 <| .q 14 <| .l 15 [13] <| .done) mixed (by kernel_rfl) (by kernel_rfl) ?_); refine k_rund ?_; refine k_run ?_)
  clear fx
  intro K hK
  have fx := And.intro t0 (And.intro t1 hT)
  refine x_callM hO0 (w := tickW V a i) (by rw [hTt]; exact ⟨by simp [hT, mRow], ⟨by simp [hO.scs.top], fun j k hj hk => by simp [hO.scs.sc j k hj hk]⟩, by simp [hO.out], by simp [← hap], hO.run.imp fun l hl => ⟨hl.1, by simp [hl.2]⟩, by simp [hO.funs], fun k g hg => by simp [hO.bx k g hg], by simp [hO.clss], fun k c hc => (hO.cls k c hc).imp fun ms hm => ⟨by simp [hm.1], hm.2⟩, fun i a ha => by simp [hO.env i a ha], fun i hi => (hO.nms i hi).imp fun ms hm => ⟨by simp [hm.1], hm.2⟩, fun k i j hk hn => if e : k = 1 ∧ i = 0 ∧ j = 0 then .inl e else hO.only k i j hk (by simpa [hk, e] using hn)⟩) hl1 hl2 (hF := fun hs' => readAll_fn _ _ _ p (tickW V a i) a s hP.sh tk1 ha' h0' hkd hrd hs') (h := ?_)
  rintro y H1 ⟨hO1, hy⟩
  clear fx
  have hbad := bodyW_bad (p := p) (R := runW p n) (a := a) (i := i) (V := V) (s := s) (l := k.body.drop (i + 1)) h0' hl
  have hret : s.kind = 8 → ∀ vs, loadsW p (tickW V a i) a s.reads = (tickW V a i, vs) → ∃ v, vs = [v] ∧ bodyW p (runW p n) a V i (s :: k.body.drop (i + 1)) = (tickW V a i, v) := fun h8 vs hq => bodyW_ret h0' hl h8 hq
  have hdo : s.kind ≠ 8 → ∀ vs, loadsW p (tickW V a i) a s.reads = (tickW V a i, vs) → bodyW p (runW p n) a V i (s :: k.body.drop (i + 1)) = if (doW p (runW p n) (tickW V a i) a s vs).en ≠ 0 then (doW p (runW p n) (tickW V a i) a s vs, (0, 0)) else bodyW p (runW p n) a (doW p (runW p n) (tickW V a i) a s vs) (i + 1) (k.body.drop (i + 1)) := fun h8 vs hq => bodyW_do h0' hl h8 hq
  have hsdo : ∀ vs, loadsW p (tickW V a i) a s.reads = (tickW V a i, vs) → stmW p (runW p n) (tickW V a i) a s = doW p (runW p n) (tickW V a i) a s vs := fun vs h => stmW_do h0' h
  obtain ⟨hA, hvok, hcase, hlen, _⟩ := loadsW_ok (a := a) (l := s.reads) tk1
  generalize loadsW p (tickW V a i) a s.reads = q at hO1 hy hbad hret hdo hsdo hA hvok hcase hlen
  obtain ⟨U, vs⟩ := q
  simp only at hO1 hy hbad hret hdo hsdo hA hvok hcase hlen
  have hT1 := hO1.top
  simp only [mRow] at hT1
  obtain ⟨d1, hd1⟩ : ∃ c, U.acts[a]? = some c := ⟨_, List.getElem?_eq_getElem (Nat.lt_of_lt_of_le ha' hA.grow.lacts)⟩
  have hE1 := hO1.env a d1 hd1
  rcases hy with ⟨hen, rfl, hp1⟩ | ⟨hen, rfl⟩
  case inr =>
    have fx := And.intro t0 <| And.intro t1 <| And.intro t4 <| And.intro hp4 <| And.intro t21 <| And.intro t22 <| And.intro t23 <| And.intro hT <| And.intro hE <| And.intro hT1 <| hE1
    refine k_run ?_
    repeat ((first | refine w_sch (id := 1) (.q 0 <| .q 1 <| .q 2 <| .q 3 <| .q 4 <| .q 5 <| .q 6 <| .q 7 <| .q 8 <| .q 9 <| .q 10 <| .q 11 <| .q 12 <| .q 13 <| .done) mixed (by kernel_rfl) (by kernel_rfl) ?_ | refine w_sch (id := 7) (.q 0 <| .q 1 <| .q 2 <| .q 3 <| .q 4 <| .q 5 <| .q 6 <| .q 7 <| .q 8 <| .q 9 <| .q 10 <| .l 11 [9, 8, 7, 6, 5, 4, 3, 2, 1, 0] <| .l 12 [9, 8, 7, 6, 5, 3, 2, 1, 0] <| .q 13 <| .q 14 <| .l 15 [13] <| .done) mixed (by kernel_rfl) (by kernel_rfl) ?_); refine k_rund ?_; refine k_run ?_)
    clear fx
    rw [hres, hbad hen]
    refine e_ret [] .nil (by simp [t4]; rfl) ⟨by simp [hen], OwnM.fin ⟨by simp [hO1.top, mRow], ⟨by simp [hO1.scs.top], fun j k hj hk => by simp [hO1.scs.sc j k hj hk]⟩, by simp [hO1.out], by simp [hO1.trc], hO1.run.imp fun l hl => ⟨hl.1, by simp [hl.2]⟩, by simp [hO1.funs], fun k g hg => by simp [hO1.bx k g hg], by simp [hO1.clss], fun k c hc => (hO1.cls k c hc).imp fun ms hm => ⟨by simp [hm.1], hm.2⟩, fun i a ha => by simp [hO1.env i a ha], fun i hi => (hO1.nms i hi).imp fun ms hm => ⟨by simp [hm.1], hm.2⟩, fun k i j hk hn => if e : k = 1 ∧ i = 0 ∧ j = 0 then .inl e else hO1.only k i j hk (by simpa [hk, e] using hn)⟩⟩
  obtain rfl : U = tickW V a i := by
    rcases hcase with e | ⟨e, he, h⟩
    · exact e
    · rw [h] at hen
      exact absurd hen he
  by_cases h8 : s.kind = 8
  · have hb8 : (s.kind == 8) = true := by simpa using h8
    obtain ⟨⟨v1, v2⟩, rfl, hb⟩ := hret h8 _ rfl
    have fx := And.intro t0 <| And.intro t1 <| And.intro t4 <| And.intro hp4 <| And.intro t21 <| And.intro t22 <| And.intro t23 <| And.intro hT <| And.intro hE <| And.intro hT1 <| And.intro hE1 <| And.intro hp1 <| hb8
    refine k_run ?_
    repeat ((first | refine w_sch (id := 1) (.q 0 <| .q 1 <| .q 2 <| .q 3 <| .q 4 <| .q 5 <| .q 6 <| .q 7 <| .q 8 <| .q 9 <| .q 10 <| .q 11 <| .q 12 <| .q 13 <| .done) mixed (by kernel_rfl) (by kernel_rfl) ?_ | refine w_sch (id := 7) (.q 0 <| .q 1 <| .q 2 <| .q 3 <| .q 4 <| .q 5 <| .q 6 <| .q 7 <| .q 8 <| .q 9 <| .q 10 <| .l 11 [9, 8, 7, 6, 5, 4, 3, 2, 1, 0] <| .l 12 [9, 8, 7, 6, 5, 3, 2, 1, 0] <| .q 13 <| .q 14 <| .l 15 [13] <| .done) mixed (by kernel_rfl) (by kernel_rfl) ?_); refine k_rund ?_; refine k_run ?_)
    clear fx
    rw [hres, hb]
    have ht0 : (tickW V a i).en = 0 := h0'
    refine e_ret [] .nil (by simp [t4]; rfl) ⟨by simp [ht0], OwnM.fin ⟨by simp [hO1.top, mRow], ⟨by simp [hO1.scs.top], fun j k hj hk => by simp [hO1.scs.sc j k hj hk]⟩, by simp [hO1.out], by simp [hO1.trc], hO1.run.imp fun l hl => ⟨hl.1, by simp [hl.2]⟩, by simp [hO1.funs], fun k g hg => by simp [hO1.bx k g hg], by simp [hO1.clss], fun k c hc => (hO1.cls k c hc).imp fun ms hm => ⟨by simp [hm.1], hm.2⟩, fun i a ha => by simp [hO1.env i a ha], fun i hi => (hO1.nms i hi).imp fun ms hm => ⟨by simp [hm.1], hm.2⟩, fun k i j hk hn => if e : k = 1 ∧ i = 0 ∧ j = 0 then .inl e else hO1.only k i j hk (by simpa [hk, e] using hn)⟩⟩
  have hb8 : (s.kind == 8) = false := by simpa using h8
  have hres2 := hdo h8 _ rfl
  rw [hres2] at hres
  have hst := hP.sh.stm _ k hk s hsm
  have hSo := stmW_ok (s := s) (k := k) (runW_ok hP.sh n) tk1 hleft h0' ha' (by rw [hbV2, hdb]; exact hst) tk2
  rw [hsdo vs rfl] at hSo
  have hk' : p[(tickW V a i).blk a]? = some k := by rw [hbV2, hdb]; exact hk
  have fx := And.intro t0 <| And.intro t1 <| And.intro t4 <| And.intro hp4 <| And.intro t21 <| And.intro t22 <| And.intro t23 <| And.intro hT <| And.intro hE <| And.intro hT1 <| And.intro hE1 <| And.intro hp1 <| hb8
  refine k_run ?_
  repeat ((first | refine w_sch (id := 1) (.q 0 <| .q 1 <| .q 2 <| .q 3 <| .q 4 <| .q 5 <| .q 6 <| .q 7 <| .q 8 <| .q 9 <| .q 10 <| .q 11 <| .q 12 <| .q 13 <| .done) mixed (by kernel_rfl) (by kernel_rfl) ?_ | refine w_sch (id := 7) (.q 0 <| .q 1 <| .q 2 <| .q 3 <| .q 4 <| .q 5 <| .q 6 <| .q 7 <| .q 8 <| .q 9 <| .q 10 <| .l 11 [9, 8, 7, 6, 5, 4, 3, 2, 1, 0] <| .l 12 [9, 8, 7, 6, 5, 3, 2, 1, 0] <| .q 13 <| .q 14 <| .l 15 [13] <| .done) mixed (by kernel_rfl) (by kernel_rfl) ?_); refine k_rund ?_; refine k_run ?_)
  clear fx
  intro K hK
  refine o_mv (.s 8) (.u 2 0 0) (.inl rfl) (.inr (by simp [ctx0, hV])) ?_
  have fx := And.intro t0 (And.intro t1 (And.intro hT (And.intro hT1 (And.intro hp1 (And.intro hE hE1)))))
  refine x_callM2 hO0 (w := tickW V a i) ⟨by simp [hO1.top, mRow], ⟨by simp [hO1.scs.top], fun j k hj hk => by simp [hO1.scs.sc j k hj hk]⟩, by simp [hO1.out], by simp [hO1.trc], hO1.run.imp fun l hl => ⟨hl.1, by simp [hl.2]⟩, by simp [hO1.funs], fun k g hg => by simp [hO1.bx k g hg], by simp [hO1.clss], fun k c hc => (hO1.cls k c hc).imp fun ms hm => ⟨by simp [hm.1], hm.2⟩, fun i a ha => by simp [hO1.env i a ha], fun i hi => (hO1.nms i hi).imp fun ms hm => ⟨by simp [hm.1], hm.2⟩, fun k i j hk hn => if e : k = 1 ∧ i = 0 ∧ j = 0 then .inl e else hO1.only k i j hk (by have e2 : ¬ k = 2 := (fun e => by rw [e] at hk; cases hk); simpa [hk, e, e2] using hn)⟩ (by simp [hp1]) hl1 hl2 (hF := fun hs' => do_fn gl p n hR _ (tickW V a i) a k s vs hP tk1 hleft h0' ha' hk' hsm h8 tk2 (hlen hen) hvok hs' (by simp [hp1])) (h := ?_)
  rintro y H2 ⟨rfl, hO2⟩
  clear fx
  generalize doW p (runW p n) (tickW V a i) a s vs = U at hO2 hres hSo
  have hAf := hSo.tick hl
  have hT2 := hO2.top
  simp only [mRow] at hT2
  obtain ⟨d2, hd2⟩ : ∃ c, U.acts[a]? = some c := ⟨_, List.getElem?_eq_getElem (Nat.lt_of_lt_of_le ha' hAf.grow.lacts)⟩
  have hE2 := hO2.env a d2 hd2
  by_cases hen2 : U.en = 0
  · rw [if_neg (by simpa using hen2)] at hres
    have fx := And.intro t0 <| And.intro t1 <| And.intro t4 <| And.intro hp4 <| And.intro t21 <| And.intro t22 <| And.intro t23 <| And.intro hT <| And.intro hE <| And.intro hT1 <| And.intro hE1 <| And.intro hp1 <| And.intro hT2 <| And.intro hE2 <| hen2
    refine k_run ?_
    repeat ((first | refine w_sch (id := 1) (.q 0 <| .q 1 <| .q 2 <| .q 3 <| .q 4 <| .q 5 <| .q 6 <| .q 7 <| .q 8 <| .q 9 <| .q 10 <| .q 11 <| .q 12 <| .q 13 <| .done) mixed (by kernel_rfl) (by kernel_rfl) ?_ | refine w_sch (id := 7) (.q 0 <| .q 1 <| .q 2 <| .q 3 <| .q 4 <| .q 5 <| .q 6 <| .q 7 <| .q 8 <| .q 9 <| .q 10 <| .l 11 [9, 8, 7, 6, 5, 4, 3, 2, 1, 0] <| .l 12 [9, 8, 7, 6, 5, 3, 2, 1, 0] <| .q 13 <| .q 14 <| .l 15 [13] <| .done) mixed (by kernel_rfl) (by kernel_rfl) ?_); refine k_rund ?_; refine k_run ?_)
    clear fx
    exact ⟨k.body.length - (i + 1), by omega, i + 1, U, rfl, by omega, hres, hAf.ok, by have := hAf.grow.left; omega, Nat.lt_of_lt_of_le ha' hAf.grow.lacts, hen2, by rw [hAf.grow.blk hd]; exact hbV, Nat.le_trans hl1 hAf.grow.lacts, Nat.le_trans hl2 hAf.grow.lfuns, by simp [t0, hT, hT1], by simp [t1, hE, hE1], by simp [t4], by simp [hp4], by simp [t21], by simp [t22], by simp [t23]; exact wrp (by omega) (by omega), ⟨by simp [hO2.top, mRow, hen2], ⟨by simp [hO2.scs.top, hen2], fun j k hj hk => by simp [hO2.scs.sc j k hj hk, hen2]⟩, by simp [hO2.out, hen2], by simp [hO2.trc, hen2], hO2.run.imp fun l hl => ⟨hl.1, by simp [hl.2, hen2]⟩, by simp [hO2.funs, hen2], fun k g hg => by simp [hO2.bx k g hg, hen2], by simp [hO2.clss, hen2], fun k c hc => (hO2.cls k c hc).imp fun ms hm => ⟨by simp [hm.1, hen2], hm.2⟩, fun i a ha => by simp [hO2.env i a ha, hen2], fun i hi => (hO2.nms i hi).imp fun ms hm => ⟨by simp [hm.1, hen2], hm.2⟩, fun k i j hk hn => if e : k = 1 ∧ i = 0 ∧ j = 0 then .inl e else hO2.only k i j hk (by simpa [hk, e] using hn)⟩⟩
  · rw [if_pos (by simpa using hen2)] at hres
    have fx := And.intro t0 <| And.intro t1 <| And.intro t4 <| And.intro hp4 <| And.intro t21 <| And.intro t22 <| And.intro t23 <| And.intro hT <| And.intro hE <| And.intro hT1 <| And.intro hE1 <| And.intro hp1 <| And.intro hT2 <| And.intro hE2 <| hen2
    refine k_run ?_
    repeat ((first | refine w_sch (id := 1) (.q 0 <| .q 1 <| .q 2 <| .q 3 <| .q 4 <| .q 5 <| .q 6 <| .q 7 <| .q 8 <| .q 9 <| .q 10 <| .q 11 <| .q 12 <| .q 13 <| .done) mixed (by kernel_rfl) (by kernel_rfl) ?_ | refine w_sch (id := 7) (.q 0 <| .q 1 <| .q 2 <| .q 3 <| .q 4 <| .q 5 <| .q 6 <| .q 7 <| .q 8 <| .q 9 <| .q 10 <| .l 11 [9, 8, 7, 6, 5, 4, 3, 2, 1, 0] <| .l 12 [9, 8, 7, 6, 5, 3, 2, 1, 0] <| .q 13 <| .q 14 <| .l 15 [13] <| .done) mixed (by kernel_rfl) (by kernel_rfl) ?_); refine k_rund ?_; refine k_run ?_)
    clear fx
    rw [hres]
    refine e_ret [] .nil (by simp [t4]; rfl) ⟨by simp [hen2], OwnM.fin ⟨by simp [hO2.top, mRow], ⟨by simp [hO2.scs.top], fun j k hj hk => by simp [hO2.scs.sc j k hj hk]⟩, by simp [hO2.out], by simp [hO2.trc], hO2.run.imp fun l hl => ⟨hl.1, by simp [hl.2]⟩, by simp [hO2.funs], fun k g hg => by simp [hO2.bx k g hg], by simp [hO2.clss], fun k c hc => (hO2.cls k c hc).imp fun ms hm => ⟨by simp [hm.1], hm.2⟩, fun i a ha => by simp [hO2.env i a ha], fun i hi => (hO2.nms i hi).imp fun ms hm => ⟨by simp [hm.1], hm.2⟩, fun k i j hk hn => if e : k = 1 ∧ i = 0 ∧ j = 0 then .inl e else hO2.only k i j hk (by simpa [hk, e] using hn)⟩⟩
theorem runBody_fn (gl) (p : Prg) (hP : ValP p) : ∀ n, MBok gl 207 p n
  | 0 => fun H W a _ _ h => absurd h (by omega)
  | n + 1 => runBody_step gl p n (runBody_fn gl p hP n) hP
end Go.Proofs.YtcbkblboonkfhaaGreat
end

section
set_option maxRecDepth 100000
set_option maxHeartbeats 4000000
set_option linter.unusedSimpArgs false
namespace Go.Proofs.YtcbkblboonkfhaaGreat
open Go Go.Hm Go.Proofs
theorem meaningOf_fn (gl) (H : Nm → Option AO) (p : Prg) (f : Nat) (hP : ValP p) (hf : f ≤ 150) (hN : ∀ k i j, H (.u k i j) = none) :
    FnE Tryz.prog gl 54 DM [pav p, iv f] H (fun _ y H' => y = .pt Mn 0 ∧ OwnM H' 207 p (meantW p f)) noE := by
  have hw := startW_ok hP.sh hf
  have hs := hP.sh.sml
  have hh := hP.sh.heads
  refine FnE.of_sem Tryz.func54 rfl (by kernel_rfl) (rs := [.tmp 4]) rfl Tryz.ntmps54 (Nat.le_of_ble_eq_true rfl) (fun _ => DM_root) fun C w g root hroot => ?_
  have fx := fx0
  have e1 := scopesOf_fn gl p hs hh hP.sh.names
  refine k_run ?_
  repeat ((first | refine w_sch (id := 1) (.q 0 <| .q 1 <| .q 3 <| .l 2 [3, 0] <| .q 4 <| .l 5 [3, 0] <| .l 6 [] <| .done) mixed (by kernel_rfl) (by kernel_rfl) ?_ | refine w_sch (id := 3) (.q 0 <| .q 1 <| .q 2 <| .q 3 <| .q 4 <| .q 5 <| .q 6 <| .q 7 <| .q 8 <| .l 9 [7, 6, 5, 4, 3, 2, 1, 0] <| .l 10 [7, 6, 5, 3, 2, 1, 0] <| .q 11 <| .q 12 <| .l 13 [11] <| .done) mixed (by kernel_rfl) (by kernel_rfl) ?_); refine k_rund ?_; refine k_run ?_)
  clear fx e1
  intro K hK
  rintro y H' ⟨rfl, hO⟩
  obtain ⟨ho1, ho2⟩ := hO.hcln
  try refine ⟨by simp, ?_⟩
  have fx :=  ho1
  refine k_run ?_
  repeat ((first | refine w_sch (id := 1) (.q 0 <| .q 1 <| .q 3 <| .l 2 [3, 0] <| .q 4 <| .l 5 [3, 0] <| .l 6 [] <| .done) mixed (by kernel_rfl) (by kernel_rfl) ?_ | refine w_sch (id := 3) (.q 0 <| .q 1 <| .q 2 <| .q 3 <| .q 4 <| .q 5 <| .q 6 <| .q 7 <| .q 8 <| .l 9 [7, 6, 5, 4, 3, 2, 1, 0] <| .l 10 [7, 6, 5, 3, 2, 1, 0] <| .q 11 <| .q 12 <| .l 13 [11] <| .done) mixed (by kernel_rfl) (by kernel_rfl) ?_); refine k_rund ?_; refine k_run ?_)
  clear fx
  intro K hK
  refine o_mv (.s 5) Mn (.inl rfl) (.inr (by simp [ctx0, hN])) ?_
  have fx := fx0
  refine x_map (h := ?_)
  clear fx
  have fx :=  ho1
  refine k_run ?_
  repeat ((first | refine w_sch (id := 1) (.q 0 <| .q 1 <| .q 3 <| .l 2 [3, 0] <| .q 4 <| .l 5 [3, 0] <| .l 6 [] <| .done) mixed (by kernel_rfl) (by kernel_rfl) ?_ | refine w_sch (id := 3) (.q 0 <| .q 1 <| .q 2 <| .q 3 <| .q 4 <| .q 5 <| .q 6 <| .q 7 <| .q 8 <| .l 9 [7, 6, 5, 4, 3, 2, 1, 0] <| .l 10 [7, 6, 5, 3, 2, 1, 0] <| .q 11 <| .q 12 <| .l 13 [11] <| .done) mixed (by kernel_rfl) (by kernel_rfl) ?_); refine k_rund ?_; refine k_run ?_)
  clear fx
  intro K hK
  refine o_mv (.c Mn 0 6) (En 0) (.inl rfl) (.inr (by simp [ctx0, hN])) ?_
  have fx := fx0
  refine x_mutM (fun k i j he => by simp [ctx0, hN] at he) (hF := runBody_fn gl p hP 151 _ (startW f) 0 ?_ hw (by simp only [startW]; omega) (by simp [startW]) rfl (by simp)) (h := ?_)
  · clear fx
    refine ⟨by simp [mRow, startW], ⟨by simp [ho1], fun j k hj hk => by simp [ho2 j k hj hk]⟩, by simp [startW, irows], by simp [startW, nrows], ⟨[], by simp, by simp [startW, erows]⟩, by simp [startW, cloRows], fun k g hg => by simp [startW] at hg, by simp [startW, cmpRows], fun k c hc => by simp [startW] at hc, fun i a ha => ?_, fun i hi => ?_, fun k i j hk hn => ?_⟩
    · have hi : i = 0 := by
        have := (List.getElem?_eq_some_iff.1 ha).1
        simp [startW] at this
        omega
      subst hi
      have ha' : a = ⟨0, 0, noSlots⟩ := by simpa [startW] using ha.symm
      subst ha'
      simp [envRow]
      rfl
    · obtain rfl : i = 0 := by simpa [startW] using hi
      exact ⟨[], by simp [mrows], by simpa [Wld.nms, startW] using MapOk.nil⟩
    · by_cases e1 : k = 1 ∧ i = 0 ∧ j = 0
      · exact .inl e1
      · by_cases e7 : k = 7 ∧ i = 0 ∧ j = 0
        · exact .inr (.inl ⟨e7.1, by simp [startW, e7.2.1], e7.2.2⟩)
        · exact absurd hn (by simp [hk, e1, e7, hN])
  rintro y H1 ⟨rfl, hO1⟩
  clear fx
  have hT1 := hO1.top
  simp only [mRow] at hT1
  have hme : (runW p 151 (startW f) 0).1 = meantW p f := rfl
  rw [hme] at hO1 hT1
  have fx :=  hT1
  refine k_run ?_
  repeat ((first | refine w_sch (id := 1) (.q 0 <| .q 1 <| .q 3 <| .l 2 [3, 0] <| .q 4 <| .l 5 [3, 0] <| .l 6 [] <| .done) mixed (by kernel_rfl) (by kernel_rfl) ?_ | refine w_sch (id := 3) (.q 0 <| .q 1 <| .q 2 <| .q 3 <| .q 4 <| .q 5 <| .q 6 <| .q 7 <| .q 8 <| .l 9 [7, 6, 5, 4, 3, 2, 1, 0] <| .l 10 [7, 6, 5, 3, 2, 1, 0] <| .q 11 <| .q 12 <| .l 13 [11] <| .done) mixed (by kernel_rfl) (by kernel_rfl) ?_); refine k_rund ?_; refine k_run ?_)
  clear fx
  refine e_ret [] .nil (by simp; rfl) ⟨by simp, OwnM.fin ⟨by simp [hO1.top, mRow], ⟨by simp [hO1.scs.top], fun j k hj hk => by simp [hO1.scs.sc j k hj hk]⟩, by simp [hO1.out], by simp [hO1.trc], hO1.run.imp fun l hl => ⟨hl.1, by simp [hl.2]⟩, by simp [hO1.funs], fun k g hg => by simp [hO1.bx k g hg], by simp [hO1.clss], fun k c hc => (hO1.cls k c hc).imp fun ms hm => ⟨by simp [hm.1], hm.2⟩, fun i a ha => by simp [hO1.env i a ha], fun i hi => (hO1.nms i hi).imp fun ms hm => ⟨by simp [hm.1], hm.2⟩, fun k i j hk hn => if e : k = 1 ∧ i = 0 ∧ j = 0 then .inl e else hO1.only k i j hk (by simpa [hk, e] using hn)⟩⟩
end Go.Proofs.YtcbkblboonkfhaaGreat
end

section
set_option maxRecDepth 100000
set_option maxHeartbeats 4000000
set_option linter.unusedSimpArgs false
namespace Go.Proofs.YtcbkblboonkfhaaGreat
open Go Go.Hm Go.Proofs
theorem isFuel_fn (gl) (f : Int) : FnOk Tryz.prog gl 53 [iv f] (fun _ y _ => y = bv (decide (0 ≤ f) && decide (f ≤ 150))) := by
  refine FnOk.of_sem Tryz.func53 rfl (by kernel_rfl) (rs := [.tmp 2]) rfl Tryz.ntmps53 (Nat.le_of_ble_eq_true rfl) fun C w g root => ?_
  by_cases h1 : 0 ≤ f
  · by_cases h2 : f ≤ 150
    · skip
      have fx := And.intro h1 <| h2
      refine k_run ?_
      clear fx
      refine e_ret [] .nil (by simp; rfl) (by simp [h1, h2])
    · skip
      have fx := And.intro h1 <| h2
      refine k_run ?_
      clear fx
      refine e_ret [] .nil (by simp; rfl) (by simp [h1, h2])
  · skip
    have fx :=  h1
    refine k_run ?_
    clear fx
    refine e_ret [] .nil (by simp; rfl) (by simp [h1])
end Go.Proofs.YtcbkblboonkfhaaGreat
end

section
set_option maxRecDepth 100000
set_option maxHeartbeats 1000000
set_option linter.unusedSimpArgs false
namespace Go.Proofs.YtcbkblboonkfhaaGreat
open Go Go.Hm Go.Proofs
theorem copyOf_fn (gl) (p : Prg) (hs : Sml p) : FnOk Tryz.prog gl 72 [pav p] (fun r y H' => y = .agg [.hs r 4 0 p.length] ∧ OwnP H' r p) := by
  have hpl := hs.len
  refine FnOk.of_sem Tryz.func72 rfl (by kernel_rfl) (rs := [.cell 2 29]) rfl Tryz.ntmps72 (Nat.le_of_ble_eq_true rfl) fun C w g root => ?_
  all_goals have fx := fx0
  repeat' (first
   | refine w_seq ?_ | refine w_block ?_ | refine w_reg fun K hK => ?_
   | ((with_reducible refine s_end hK ?_); clear hK K)
   | (with_reducible first | refine s_none ?_ | refine x_box (h := ?_) | refine x_alloc (h := ?_) | refine x_store0 (h := ?_) | refine x_make (h := ?_))
   | (with_reducible refine x_q (h := ?_))
   | fail)
  all_goals try clear fx
  refine w_loop (fun n st => ∃ i : Nat, n = p.length - i ∧ i ≤ p.length ∧ st.tm 1 = .pt (.s 1) 0 ∧ st.hp (.s 1) = some (.row 1 [[ksl p]]) ∧ st.tm 2 = .pt (.s 2) 0 ∧ st.hp (.s 2) = some (.row 1 [[.hs (.c (.s 2) 0 0) 4 0 0]]) ∧ st.hp (.c (.s 2) 0 0) = some (.row 4 []) ∧ st.tm 3 = .pt (.s 3) 0 ∧ st.hp (.s 3) = some (.row 1 [[.hs (.c (.s 3) 0 0) 4 0 p.length]]) ∧ st.tm 12 = ksl p ∧ st.tm 13 = iv p.length ∧ st.tm 14 = iv i ∧ CopP st.hp (.c (.s 3) 0 0) p i) p.length ?_ ?_
  · refine ⟨0, by simp, by simp, by simp, by simp, by simp, by simp, by simp, by simp, by simp, by simp, by simp, by simp, ⟨?_, fun j k hj => by omega, fun j k hj => by omega⟩⟩
    rw [← cRows_zero]
    simp [zblk, nilS]
  rintro n st - - ⟨i, rfl, hi, h1, hp1, h2, hp2, hp2', h3, hp3, h12, h13, h14, ⟨ho1, ho2, ho3⟩⟩
  all_goals have fx := And.intro h12 <| And.intro h13 <| h14
  repeat' (first
   | refine w_seq ?_ | refine w_reg fun K hK => ?_
   | ((with_reducible refine s_end hK ?_); clear hK K)
   | (with_reducible first | refine s_none ?_)
   | (with_reducible refine x_q (h := ?_))
   | fail)
  all_goals try clear fx
  refine w_if (by simp []; first | done | rfl | exact (Bool.not_not _).symm) (fun ht => ?_) (fun hf => ?_)
  · have hlt : i < p.length := by simpa using ht
    obtain ⟨k, hk⟩ : ∃ k, p[i]? = some k := ⟨_, List.getElem?_eq_getElem hlt⟩
    obtain ⟨hkp, hkb⟩ := hs.bsm hk
    have hcg := cRows_get (n := .c (.s 3) 0 0) (i := i) hk
    rw [if_neg (by omega)] at hcg
    obtain ⟨_, hke⟩ := List.getElem?_eq_some_iff.1 hk
    obtain ⟨_, hcge⟩ := List.getElem?_eq_some_iff.1 hcg
    clear ht
    all_goals have fx := And.intro h12 <| And.intro h13 <| And.intro h14 <| And.intro h3 <| And.intro hp3 <| And.intro ho1 <| And.intro hk <| And.intro hke <| And.intro hcg <| And.intro hcge <| hlt
    repeat' (first
     | refine w_seq ?_ | refine w_block ?_ | refine w_skip ?_ | refine w_reg fun K hK => ?_
     | ((with_reducible refine s_end hK ?_); clear hK K)
     | (with_reducible first | refine then_normal ?_ | refine s_nil ?_)
     | (with_reducible first | refine s_none ?_ | refine x_assign (h := ?_) | refine x_alloc (h := ?_) | refine x_store0 (h := ?_) | refine x_append0 (T := 41) (h := ?_) | refine x_append0 (T := 44) (h := ?_))
     | (with_reducible refine x_q (h := ?_))
     | (refine w_sch (id := 5) (.q 0 <| .q 1 <| .q 2 <| .q 3 <| .q 4 <| .q 5 <| .q 6 <| .q 7 <| .q 8 <| .q 10 <| .q 11 <| .l 9 [11, 10, 7, 6, 5, 4, 3, 2, 1, 0] <| .l 12 [10, 7, 6, 5, 4, 3, 2, 1, 0] <| .q 13 <| .q 14 <| .l 15 [] <| .done) mixed (by kernel_rfl) (by kernel_rfl) fun K hK => ?_)
     | ((with_reducible refine a_end hK ?_); clear hK K)
     | ((with_reducible refine a_id ?_); first | refine xa_q (h := ?_))
     | refine a_l rfl ?_ | (with_reducible refine And.intro ?_ ?_) | exact st_nil | refine xa_st (h2 := ?_)
     | fail)
    all_goals try clear fx
    all_goals
      refine ⟨p.length - (i + 1), by omega, i + 1, rfl, by omega, by simp [h1], by simp [hp1], by simp [h2], by simp [hp2], by simp [hp2'], by simp [h3], by simp [hp3], by simp [h12], by simp [h13], by simp; exact wrp (by omega) (by omega), ⟨?_, fun j r hj hr => ?_, fun j r hj hr => ?_⟩⟩
      · rw [← cRows_set (n := .c (.s 3) 0 0) (d := 28) (e := 31) hk (by simp) (by simp) (by decide) (by simp) (by simp)]
        simp [ho1]
      · rcases Nat.lt_succ_iff_lt_or_eq.1 hj with hlj | rfl
        · have hne : ¬ j = i := by omega
          simp [ho2 j r hlj hr, hne]
        · rw [hk] at hr
          obtain rfl := Option.some.inj hr
          simp
      · rcases Nat.lt_succ_iff_lt_or_eq.1 hj with hlj | rfl
        · have hne : ¬ j = i := by omega
          simp [ho3 j r hlj hr, hne]
        · rw [hk] at hr
          obtain rfl := Option.some.inj hr
          simp
  · have hge : i = p.length := by
      have : ¬ i < p.length := by simpa using hf
      omega
    subst hge
    rw [cRows_all] at ho1
    all_goals have fx := And.intro h2 <| And.intro hp2 <| And.intro hp2' <| And.intro h3 <| hp3
    repeat' (first
     | refine w_seq ?_ | refine w_reg fun K hK => ?_
     | ((with_reducible refine s_end hK ?_); clear hK K)
     | (with_reducible first | refine then_normal ?_)
     | refine w_exit ?_
     | refine w_ret ?_
     | (with_reducible first | refine s_none ?_ | refine x_store0 (h := ?_))
     | (with_reducible refine x_q (h := ?_))
     | fail)
    all_goals try clear fx
    refine e_ret [(.c (.s 3) 0 0, root)] (.one rfl) (by simp [h2]; rfl) ⟨by simp, ⟨?_, fun j r hj => ?_, fun j r hj => ?_⟩⟩
    · simp [ho1, pRows_tr (n := .c (.s 3) 0 0) (m := root) (f := finf noD [(.c (.s 3) 0 0, root)]) (p := p) (by simp)]
    · simp [ho2 j r (List.getElem?_eq_some_iff.1 hj).1 hj]
    · simp [ho3 j r (List.getElem?_eq_some_iff.1 hj).1 hj]
end Go.Proofs.YtcbkblboonkfhaaGreat
end

section
namespace Go.Proofs.YtcbkblboonkfhaaGreat
open Go Go.Hm Go.Proofs
theorem pf_laid : laidOutB Tryz.prog = true := by kernel_rfl
theorem pf_maps : mapsRowed Tryz.prog = true := by kernel_rfl
theorem pf_stops : (Tryz.prog.stops == []) = true := by kernel_rfl
theorem pf_knobs : (Tryz.prog.stopKnobs == []) = true := by kernel_rfl
theorem pf_keys : Tryz.prog.plainKeys = true := by kernel_rfl
theorem pf_heard : Tryz.prog.stopsHeard = true := by kernel_rfl
theorem pf_may : Tryz.prog.mayEnter = true := by kernel_rfl
theorem pf_lifts : Tryz.prog.liftsFinal = false := by kernel_rfl
theorem pf_make : (Tryz.prog.make == some .cut) = true := by kernel_rfl
theorem progFacts : ProgFacts Tryz.prog := ⟨pf_laid, pf_maps, pf_stops, pf_knobs, pf_keys, pf_heard, pf_may, pf_lifts, pf_make⟩
end Go.Proofs.YtcbkblboonkfhaaGreat
end
