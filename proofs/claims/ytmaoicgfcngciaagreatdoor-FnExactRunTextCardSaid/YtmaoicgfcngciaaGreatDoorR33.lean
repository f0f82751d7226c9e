/-
  Own texts, joined by mkclaim.py: Qo, Ue, Uf, Xh, Xi.
-/
import Derived.Test.YtmaoicgfcngciaaGreatDoorR32
import Derived.Test.YtmaoicgfcngciaaGreatDoorR21
import Derived.Test.YtmaoicgfcngciaaGreatDoorR26
import Derived.Test.YtmaoicgfcngciaaGreatDoorR30
import Derived.Test.YtmaoicgfcngciaaGreatDoorR19
set_option linter.unusedSimpArgs false
set_option linter.unusedVariables false
set_option maxRecDepth 100000
set_option maxHeartbeats 4000000

section
namespace Go.Proofs.YtmaoicgfcngciaaGreatDoor
open Go Go.Hm Go.Proofs
abbrev qsQo0 : Sch := .q 0 <| .q 1 <| .q 2 <| .q 3 <| .q 4 <| .q 5 <| .q 6 <| .q 7 <| .q 8 <| .q 9 <| .q 10 <| .q 11 <| .q 12 <| .q 13 <| .l 14 [] <| .done
theorem take_set_end : ∀ {xs : List Int} {i : Nat} {v : Int}, i < xs.length → (xs.set i v).take (i + 1) = xs.take i ++ [v]
  | x :: xs, 0, v, _ => by simp
  | x :: xs, i + 1, v, h => by simp [take_set_end (xs := xs) (i := i) (v := v) (by simpa using h)]
theorem result_fn (gl) (H : Nm → Option AO) (F : Nat) (p : Prg) (W : Wld) (hw : WOk p W) (hO : OwnM H F p W) :
    FnE Tryz.prog gl 69 DM [.pt Mn 0] H (fun r y H' => y = .agg ((resW W).own r) ∧ OwnR H' r (resW W)) noE := by
  have hg8 := hw.glob.1
  obtain ⟨a0, h00, hb0⟩ := hw.a0
  have hl0 := (gS h00).1
  refine FnE.of_sem Tryz.func69 rfl (by kernel_rfl) (rs := [.cell 2 109]) rfl Tryz.ntmps69 (Nat.le_of_ble_eq_true rfl) (fun _ => DM_root) fun C w g root hroot => ?_
  have hr0 : DM root = false := hroot root (Nm.under_self _)
  have fx := fx0
  refine k_run ?_
  repeat ((first | refine wSc (id := 10) qsQo0 mixed ?_); refine k_rund ?_; refine k_run ?_)
  clear fx
  refine w_loop (fun n st => ∃ (i : Nat) (xs : List Int), n = 8 - i ∧ i ≤ 8 ∧ xs.length = 8 ∧ xs.take i = shownS (W.globals.take i) ∧ st.tm 0 = .pt Mn 0 ∧ st.tm 2 = .pt (.s 2) 0 ∧ st.hp (.s 2) = some (.row 4 [[.hs (.c (.s 2) 0 0) 1 0 0, iv 0, iv 0, .hs (.c (.s 2) 0 3) 1 0 0]]) ∧ st.tm 3 = .hs (.s 3) 1 0 8 ∧ st.hp (.s 3) = some (.row 1 (irows xs)) ∧ st.tm 9 = iv 8 ∧ st.tm 10 = iv i ∧ OwnM st.hp F p W) 8 ?_ ?_
  · exact ⟨0, List.replicate 8 0, by omega, by omega, by simp, by simp [shownS], by simp [hO.top], by simp, by simp, by simp, by simp [irows], by simp, by simp, (have om := hO; OwnM.re om)⟩
  clear hO
  rintro n st - - ⟨i, xs, rfl, hi, hxl, hxs, t0, t2, hp2, t3, hp3, t9, t10, hO⟩
  have hT := hO.top
  have hE := hO.env 0 a0 h00
  simp only [mRow] at hT
  simp only [envRow] at hE
  obtain ⟨ms, hms, hmo⟩ := hO.nms 0 hl0
  have hmo' : MapOk ms (W.vars none) := by simpa [Wld.nms, Wld.vars] using hmo
  by_cases hil : i < 8
  · obtain ⟨s, hs⟩ : ∃ s, W.globals[i]? = some s := ⟨_, gE (by omega)⟩
    have hx7 : 0 ≤ (i : Int) ∧ (i : Int) ≤ 7 := by omega
    have hlk := hmo'.get' hx7
    have hgs : W.get none (i : Int) = s := by simp [Wld.get, Wld.vars, hs]
    rw [hgs] at hlk
    have htk : shownS (W.globals.take (i + 1)) = shownS (W.globals.take i) ++ [match s with | some v => Hm.shown v | none => -9] := by
      rw [List.take_add_one, hs]
      cases s <;> simp [shownS]
    have hi8 : (i : Int) < 8 := by omega
    cases s with
    | none =>
      have fx := And.intro t0 <| And.intro t2 <| And.intro t3 <| And.intro hp3 <| And.intro t9 <| And.intro t10 <| And.intro hi8 <| And.intro hil <| And.intro hxl <| And.intro hT <| And.intro hE <| And.intro hms <| hlk
      refine k_run ?_
      repeat ((first | refine wSc (id := 10) qsQo0 mixed ?_); refine k_rund ?_; refine k_run ?_)
      clear fx
      exact ⟨8 - (i + 1), by omega, i + 1, xs.set i (-9), rfl, by omega, by simp [hxl], by rw [htk, ← hxs, take_set_end (by omega)], by simp [t0, hT], by simp [t2], by simp [hp2], by simp [t3], by simp [hp3], by simp [t9], by simp [t10]; exact wrp (by omega) (by omega), (have om := hO; OwnM.re om)⟩
    | some v =>
      have hsh := impl_ShownOf_fn gl v
      obtain ⟨v1, v2⟩ := v
      have fx := And.intro t0 <| And.intro t2 <| And.intro t3 <| And.intro hp3 <| And.intro t9 <| And.intro t10 <| And.intro hi8 <| And.intro hil <| And.intro hxl <| And.intro hT <| And.intro hE <| And.intro hms <| hlk
      have c1 := hsh
      refine k_run ?_
      repeat ((first | refine wSc (id := 10) qsQo0 mixed ?_); refine k_rund ?_; refine k_run ?_)
      clear fx c1
      exact ⟨8 - (i + 1), by omega, i + 1, xs.set i (Hm.shown (v1, v2)), rfl, by omega, by simp [hxl], by rw [htk, ← hxs, take_set_end (by omega)], by simp [t0, hT], by simp [t2], by simp [hp2], by simp [t3], by simp [hp3], by simp [t9], by simp [t10]; exact wrp (by omega) (by omega), (have om := hO; OwnM.re om)⟩
  · have hge : i = 8 := by omega
    subst hge
    have hxe : xs = shownS W.globals := by
      rw [List.take_of_length_le (by omega), List.take_of_length_le (by omega)] at hxs
      exact hxs
    have hU := hO.out
    have hsl : (shownS W.globals).length = 8 := by rw [← hxe]; exact hxl
    have h88 : ¬ (8 : Int) < 8 := by omega
    refine w_move (.c Mn 0 4) (.s 1) (.inl rfl) (.inl rfl) ?_
    have fx := And.intro t0 <| And.intro t2 <| And.intro hp2 <| And.intro t3 <| And.intro hp3 <| And.intro t9 <| And.intro t10 <| And.intro h88 <| And.intro hT <| hU
    refine k_run ?_
    repeat ((first | refine wSc (id := 10) qsQo0 mixed ?_); refine k_rund ?_; refine k_run ?_)
    clear fx
    refine e_ret [(.s 2, root)] (.one rfl) (by simp [t2]; rfl) ⟨by simp [resW, hsl], ⟨by simp [resW, hU, hr0], by simp [resW, hp3, hxe, hr0]⟩⟩
end Go.Proofs.YtmaoicgfcngciaaGreatDoor
end
section
namespace Go.Proofs.YtmaoicgfcngciaaGreatDoor
open Go Go.Hm Go.Proofs
open Go.Shelf in
theorem layM171 : LaysM.n171 Tryz.prog libRen := { lay171 with i0 := by kernel_rfl, i2 := by kernel_rfl, i3 := by kernel_rfl, i4 := by kernel_rfl, i5 := by kernel_rfl, i9 := by kernel_rfl, i20 := by kernel_rfl, i37 := by kernel_rfl, i46 := by kernel_rfl, i51 := by kernel_rfl, i53 := by kernel_rfl, i171 := by kernel_rfl, i173 := by kernel_rfl, i212 := by kernel_rfl, i232 := by kernel_rfl, i233 := by kernel_rfl, m17 := by kernel_rfl, m18 := by kernel_rfl, m19 := by kernel_rfl }
theorem itoaA_at (gl) (hgp : gl 4 = some (powV.map .sc)) (n : Int) (h0 : -1000000 ≤ n) (h1 : n ≤ 1000000) : FnOk Tryz.prog gl 70 [iv n] (fun _ y _ => y = tx (numI n)) :=
  itoaA_fn layM171 gl hgp n h0 h1
theorem ParseProgram_sl (gl) {m : Int} (hgm : gl 5 = some [.sc (.int .i64 m)]) (hgs : gl 1 = some ((vtx stmtW).map AV.sc)) (s : Txt) (hs : s.length ≤ 1048576) :
    FnOk Tryz.prog gl 10 [tx s] (fun _ y _ => y = .tup [pav ((parseT s).getD []), bv (parseT s).isSome]) :=
  (ParseProgram_fn gl hgm hgs s hs).settle fun r y H' ⟨p, h1, h2, h3⟩ => ⟨.tup [pav ((parseT s).getD []), bv (parseT s).isSome], by rw [h1, ← h3]; exact bw_progB h2, rfl⟩
theorem impl_RunText_fn (gl) {m : Int} (hgm : gl 5 = some [.sc (.int .i64 m)]) (hgs' : gl 1 = some ((vtx stmtW).map AV.sc)) (hge' : gl 2 = some ((vtx endTx).map AV.sc)) (hgp : gl 4 = some (powV.map .sc)) (s : Txt) (f : Int) (hs : s.length ≤ 1048576) :
    FnOk Tryz.prog gl 30 [tx s, iv f] (fun _ y _ => y = tx (runText s f)) := by
  have hpa := ParseProgram_sl gl hgm hgs' s hs
  refine FnOk.of_sem Tryz.func30 rfl (by kernel_rfl) (rs := [.tmp 4]) rfl Tryz.ntmps30 (Nat.le_of_ble_eq_true rfl) fun C w g root => ?_
  cases hr : (decide (0 ≤ f) && decide (f ≤ 150))
  · rw [runText_no hr]
    have fx :=  hr
    have c1 := hr ▸ isFuel_fn gl f
    refine k_run ?_
    clear fx c1
    refine e_ret [] .nil (by simp; rfl) (by simp)
  obtain ⟨h0, h1⟩ : 0 ≤ f ∧ f ≤ 150 := by simpa using hr
  obtain ⟨n, rfl⟩ : ∃ n : Nat, f = n := ⟨f.toNat, by omega⟩
  have hn : n ≤ 150 := by omega
  rw [runText_ok hn]
  cases hp : parseT s with
  | none =>
    rw [hp] at hpa
    have fx :=  hr
    have c1 := hr ▸ isFuel_fn gl n
    have p1 := hpa
    refine k_runp ?_
    clear fx c1 p1
    refine e_ret [] .nil (by simp; rfl) (by simp [linesL, tWrong])
  | some q =>
    rw [hp] at hpa
    simp only [Option.getD_some, Option.isSome_some] at hpa
    have hpo : progOk q = true := (write_back hp).2.1
    have hP := ValP.of (progOk_sml hpo) hpo
    have hm := meantOk hP.sh hn
    have hok := hm.ok
    have hol := hm.ok.nout
    have hor := hm.ok.outr
    have her := hm.ok.enr
    have hmf := fun gl H (h1 : ∀ k i j, H (.u k i j) = none) => meaningOf_fn gl H q n hP hn h1
    have hrl : runLines q n = (meantW q n).out.map numI ++ [endTx.getD (meantW q n).en.toNat []] := rfl
    simp only [hrl]
    clear hrl hm
    generalize meantW q n = W at hok hol hor her hmf ⊢
    obtain ⟨e, hen⟩ : ∃ e : Nat, W.en = e := ⟨W.en.toNat, by omega⟩
    have he8 : e < 8 := by omega
    have he8i : (e : Int) < 8 := by omega
    have he8l : e < endTx.length := he8
    obtain ⟨u, hu⟩ : ∃ u, endTx[e]? = some u := ⟨_, gE he8l⟩
    obtain ⟨_, huE⟩ := gS hu
    have hug : endTx.getD W.en.toNat [] = u := by rw [hen]; simp [List.getD_eq_getElem?_getD, hu]
    have hul : u.length ≤ 10 := by
      have : ∀ w ∈ endTx, w.length ≤ 10 := by decide
      exact this u (List.mem_of_getElem? hu)
    rw [hug, linesL_snoc]
    have fx :=  hr
    have c1 := hr ▸ isFuel_fn gl n
    have p1 := hpa
    refine k_runp ?_
    clear fx c1 p1
    intro K hK
    have fx := fx0
    refine x_mutM (fun k i j he => by simp [ctx0, noH] at he) (hF := hmf gl _ (by simp [noH])) (h := ?_)
    rintro y H1 ⟨rfl, hO1⟩
    clear fx
    have hT1 := hO1.top
    simp only [mRow] at hT1
    have fx :=  hT1
    refine k_run ?_
    clear fx
    have fx := hT1
    refine x_mutM (fun k i j he => by simp [ctx0, noH] at he) (hF := result_fn gl _ _ q W hok (OwnM.sub (p := q) (F := 226) (w := W) (have om := hO1; OwnM.re om))) (h := ?_)
    rintro y H2 ⟨rfl, hR2⟩
    clear fx
    have r1 := hR2.out
    have r2 := hR2.gl
    have fx := And.intro r1 <| r2
    have b1 := bld_zv
    refine k_runp ?_
    clear fx b1
    refine w_loop (fun n st => ∃ i : Nat, n = W.out.length - i ∧ i ≤ W.out.length ∧ st.tm 7 = .pt (.s 7) 0 ∧ st.hp (.s 7) = some (.row 4 [[.hs (.c (.s 24) 0 0) 1 0 W.out.length, iv W.en, iv W.left, .hs (.c (.s 24) 0 3) 1 0 (shownS W.globals).length]]) ∧ st.hp (.c (.s 24) 0 0) = some (.row 1 (irows W.out)) ∧ st.tm 8 = .pt (.s 8) 0 ∧ st.tm 26 = .hs (.c (.s 24) 0 0) 1 0 W.out.length ∧ st.tm 27 = iv W.out.length ∧ st.tm 28 = iv i ∧ BldAt st.hp (.s 8) 73 5 (linesL 10 ((W.out.take i).map numI))) W.out.length ?_ ?_
    · exact ⟨0, by omega, by omega, by simp, by simp [resW], by simp [r1, resW], by simp, by simp [resW], by simp [resW], by simp, .inl ⟨by simp [linesL], by simp⟩⟩
    clear hO1 hT1 hR2 r1 r2
    rintro n st - hgs ⟨i, rfl, hi, h7, hp7, h70, h8, h26, h27, h28, hB⟩
    replace hgs : st.gl = gl := hgs
    have hLl : (linesL 10 ((W.out.take i).map numI)).length ≤ 1003000 := by
      have := lines_lenI (l := W.out.take i) fun x hx => hor x (List.mem_of_mem_take hx)
      rw [List.length_take] at this
      omega
    by_cases hil : i < W.out.length
    · obtain ⟨x, hx⟩ : ∃ x, W.out[i]? = some x := ⟨_, gE hil⟩
      obtain ⟨_, hxE⟩ := gS hx
      have hxr := hor x (List.mem_of_getElem? hx)
      have hxl := numI_lenI hxr
      have hnext := lines_next hx
      generalize linesL 10 ((W.out.take i).map numI) = L at hB hLl hnext
      have hl1 : ∀ c, 2000000000 ≤ c → (numI x).length + 1 ≤ c := fun c hc => by omega
      have fx := And.intro h7 <| And.intro hp7 <| And.intro h70 <| And.intro h8 <| And.intro h26 <| And.intro h27 <| And.intro h28 <| And.intro hil <| And.intro hx <| And.intro hxE <| hl1
      have c1 := itoaA_at gl hgp x (by omega) (by omega)
      refine k_run ?_
      clear fx c1
      intro K hK
      have fx := And.intro h8 h8
      refine x_wstr 8 lay166 layB rfl rfl (hB.go (by intro e; simp [e]) (by intro e; simp [e]) (by intro e; simp [e])) (hs := by simp) (hlen := by simp; omega) (h := ?_)
      clear fx
      rintro st' - hg htm hhp f1 f2
      have g7 : st'.tm 7 = .pt (.s 7) 0 := by simp [htm, h7]
      have gp7 : st'.hp (.s 7) = some (.row 4 [[.hs (.c (.s 24) 0 0) 1 0 W.out.length, iv W.en, iv W.left, .hs (.c (.s 24) 0 3) 1 0 (shownS W.globals).length]]) := by simp [hhp, hp7]
      have g70 : st'.hp (.c (.s 24) 0 0) = some (.row 1 (irows W.out)) := by simp [hhp, h70]
      have g8 : st'.tm 8 = .pt (.s 8) 0 := by simp [htm, h8]
      have g26 : st'.tm 26 = .hs (.c (.s 24) 0 0) 1 0 W.out.length := by simp [htm, h26]
      have g27 : st'.tm 27 = iv W.out.length := by simp [htm, h27]
      have g28 : st'.tm 28 = iv i := by simp [htm, h28]
      clear htm hhp
      have fx := And.intro g7 <| And.intro gp7 <| And.intro g70 <| And.intro g8 <| And.intro g26 <| And.intro g27 <| g28
      refine k_run ?_
      clear fx
      refine ⟨W.out.length - (i + 1), by omega, i + 1, rfl, by omega, by simp [g7], by simp [gp7], by simp [g70], by simp [g8], by simp [g26], by simp [g27], by simp; exact wrp (by omega) (by omega), ?_⟩
      rw [hnext]
      exact .inr ⟨by simp, by simpa using f1, by simpa using f2⟩
    · have hge : i = W.out.length := by omega
      subst hge
      rw [List.take_length] at hB hLl
      generalize linesL 10 (W.out.map numI) = L at hB hLl ⊢
      have hl1 : ∀ c, 2000000000 ≤ c → u.length + 1 ≤ c := fun c hc => by omega
      have fx := And.intro h7 <| And.intro hp7 <| And.intro h8 <| And.intro h26 <| And.intro h27 <| And.intro h28 <| And.intro hil <| And.intro hgs <| And.intro hge' <| And.intro hen <| And.intro hu <| And.intro huE <| And.intro he8l <| And.intro he8i <| hl1
      refine k_run ?_
      clear fx
      intro K hK
      have fx := And.intro h8 h8
      refine x_wstr 8 lay166 layB rfl rfl (hB.go (by intro e; simp [e]) (by intro e; simp [e]) (by intro e; simp [e])) (hs := by simp) (hlen := by simp; omega) (h := ?_)
      clear fx
      rintro st' - hg htm hhp f1 f2
      have g8 : st'.tm 8 = .pt (.s 8) 0 := by simp [htm, h8]
      have hB' : BldAt st'.hp (.s 8) 73 5 (L ++ (u ++ [10])) := .inr ⟨by simp, by simpa using f1, f2⟩
      clear htm hhp f1 f2
      have fx :=  g8
      refine k_run ?_
      clear fx
      intro K hK
      have fx := And.intro g8 g8
      refine x_str (l := L ++ (u ++ [10])) 8 lay169 layB rfl rfl (hB'.go (by intro e; simp [e]) (by intro e; simp [e]) (by intro e; simp [e])) (h := ?_)
      clear fx
      have fx := fx0
      refine k_run ?_
      clear fx
      refine e_ret [] .nil (by simp; rfl) (by simp)
end Go.Proofs.YtmaoicgfcngciaaGreatDoor
end
section
namespace Go.Proofs.YtmaoicgfcngciaaGreatDoor
open Go Go.Hm Go.Proofs
theorem FnExactRunText_fn (gl : Nat → Option (List AV)) {m : Int} (hgm : gl 5 = some [.sc (.int .i64 m)]) (hgs : gl 1 = some ((vtx stmtW).map AV.sc)) (hge : gl 2 = some ((vtx endTx).map AV.sc)) (hgp : gl 4 = some (powV.map .sc)) (s : Txt) (f : Int) (hbig : s.length ≤ 9223372036854775807) :
    FnOk Tryz.prog gl 8 [tx s, iv f] (fun _ z _ => z = bv true) := by
  refine FnOk.of_sem Tryz.func8 rfl (by kernel_rfl) (rs := [.tmp 4]) rfl Tryz.ntmps8 (Nat.le_of_ble_eq_true rfl) fun C w g root => ?_
  by_cases hlen : 1048576 < s.length
  · have hl1 : (1048576 : Int) < s.length := by omega
    have fx :=  hl1
    refine k_run ?_
    clear fx
    refine e_ret [] .nil (by simp; rfl) (by simp)
  have hl1 : ¬ (1048576 : Int) < s.length := by omega
  have hsa := spec_RunText_fn gl s f (by omega)
  have hia := impl_RunText_fn gl hgm hgs hge hgp s f (by omega)
  generalize runText s f = v at hsa hia
  have fx := And.intro hl1 <| @bne_def
  have c1 := hsa
  have c2 := hia
  refine k_run ?_
  clear fx c1 c2
  refine e_ret [] .nil (by simp; rfl) (by simp)
end Go.Proofs.YtmaoicgfcngciaaGreatDoor
end
