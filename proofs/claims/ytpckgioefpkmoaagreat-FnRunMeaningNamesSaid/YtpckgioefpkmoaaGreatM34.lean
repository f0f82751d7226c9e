/-
  Own texts, joined by mkclaim.py: Hp, Tb, Sw, Sv.
-/
import Derived.Test.YtpckgioefpkmoaaGreatM23
import Derived.Test.YtpckgioefpkmoaaGreatM11
import Derived.Test.YtpckgioefpkmoaaGreatM30
import Derived.Test.YtpckgioefpkmoaaGreatM12
import Derived.Test.YtpckgioefpkmoaaGreatM33
import Derived.Test.YtpckgioefpkmoaaGreatM31
set_option linter.unusedSimpArgs false
set_option linter.unusedVariables false

section
set_option maxRecDepth 100000
set_option maxHeartbeats 1000000
set_option linter.unusedSimpArgs false
namespace Go.Proofs.YtpckgioefpkmoaaGreat
open Go Go.Hm Go.Proofs
end Go.Proofs.YtpckgioefpkmoaaGreat
end

section
set_option maxRecDepth 100000
set_option maxHeartbeats 1000000
set_option linter.unusedSimpArgs false
namespace Go.Proofs.YtpckgioefpkmoaaGreat
open Go Go.Hm Go.Proofs
theorem list_fn (gl) (l : List Int) : FnOk Tryz.prog gl 71 [.agg (bset l)] (fun r z H' => z = .hs r 1 0 (sorted l).length ∧ H' r = some (.row 1 (irows (sorted l)))) := by
  refine FnOk.of_sem Tryz.func71 rfl (by kernel_rfl) (rs := [.tmp 2]) rfl Tryz.ntmps71 (Nat.le_of_ble_eq_true rfl) fun C w g root => ?_
  all_goals have fx := fx0
  repeat' (first
   | refine w_seq ?_ | refine w_block ?_ | refine w_reg fun K hK => ?_
   | ((with_reducible refine s_end hK ?_); clear hK K)
   | (with_reducible first | refine s_none ?_ | refine x_assign (h := ?_) | refine x_box (h := ?_))
   | (with_reducible refine x_q (h := ?_))
   | fail)
  all_goals try clear fx
  refine w_loop (fun n st => ∃ x : Nat, n = 8 - x ∧ x ≤ 8 ∧ st.tm 6 = .agg (bset l) ∧ st.tm 7 = iv x ∧ st.tm 3 = .hs (.s 3) 1 0 (sortedTo l x).length ∧ st.hp (.s 3) = some (.row 1 (irows (sortedTo l x))) ∧ (sortedTo l x).length ≤ x) 8 ?_ ?_
  · exact ⟨0, by omega, by omega, by simp, by simp, by simp [sortedTo], by simp [sortedTo], by simp [sortedTo]⟩
  rintro n st - - ⟨x, rfl, hx, h6, h7, h3, hp3, hle⟩
  all_goals have fx :=  h7
  repeat' (first
   | refine w_seq ?_ | refine w_reg fun K hK => ?_
   | ((with_reducible refine s_end hK ?_); clear hK K)
   | (with_reducible first | refine s_none ?_)
   | (with_reducible refine x_q (h := ?_))
   | fail)
  all_goals try clear fx
  refine w_if (by simp []; first | done | rfl | exact (Bool.not_not _).symm) (fun ht => ?_) (fun hf => ?_)
  · have hx8' : (x : Int) < 8 := by simpa using ht
    have hx8 : x < 8 := by omega
    have hbg := bset_get (l := l) hx8
    obtain ⟨hbl, hbE⟩ := List.getElem?_eq_some_iff.1 hbg
    clear ht
    by_cases hm : (x : Int) ∈ l
    · have he : sortedTo l (x + 1) = sortedTo l x ++ [(x : Int)] := by simp [sortedTo, hm]
      generalize hL : sortedTo l x = L at h3 hp3 he hle
      all_goals have fx := And.intro h6 <| And.intro h7 <| And.intro hbg <| And.intro hbE <| And.intro hx8 <| And.intro hx8' <| And.intro hm <| And.intro h3 <| hp3
      repeat' (first
       | refine w_seq ?_ | refine w_block ?_ | refine w_skip ?_ | refine w_reg fun K hK => ?_
       | ((with_reducible refine s_end hK ?_); clear hK K)
       | (with_reducible first | refine then_normal ?_)
       | (with_reducible first | refine s_none ?_ | refine x_assign (h := ?_) | refine x_append (T := 36) (h := ?_) | refine x_build (h := ?_))
       | (with_reducible refine x_q (h := ?_))
       | refine x_condt (h1 := ?_)
       | fail)
      all_goals try clear fx
      refine ⟨8 - (x + 1), by omega, x + 1, rfl, by omega, by simp [h6], by simp; exact wrp (by omega) (by omega), by simp [he], ?_, by simp [he]; omega⟩
      rw [he]
      simp [hp3, irows]
    · have he : sortedTo l (x + 1) = sortedTo l x := by simp [sortedTo, hm]
      all_goals have fx := And.intro h6 <| And.intro h7 <| And.intro hbg <| And.intro hbE <| And.intro hx8 <| And.intro hx8' <| hm
      repeat' (first
       | refine w_seq ?_ | refine w_block ?_ | refine w_skip ?_ | refine w_reg fun K hK => ?_
       | ((with_reducible refine s_end hK ?_); clear hK K)
       | (with_reducible first | refine then_normal ?_)
       | (with_reducible first | refine s_none ?_ | refine x_assign (h := ?_))
       | (with_reducible refine x_q (h := ?_))
       | refine x_condf (h1 := ?_)
       | fail)
      all_goals try clear fx
      exact ⟨8 - (x + 1), by omega, x + 1, rfl, by omega, by simp [h6], by simp; exact wrp (by omega) (by omega), by simp [he, h3], by simp [he, hp3], by rw [he]; omega⟩
  · have hge : x = 8 := by
      have : ¬ (x : Int) < 8 := by simpa using hf
      omega
    subst hge
    all_goals have fx := And.intro h3 <| hp3
    repeat' (first
     | refine w_seq ?_ | refine w_reg fun K hK => ?_
     | ((with_reducible refine s_end hK ?_); clear hK K)
     | (with_reducible first | refine then_normal ?_)
     | refine w_exit ?_
     | refine w_ret ?_
     | (with_reducible first | refine s_none ?_ | refine x_assign (h := ?_))
     | (with_reducible refine x_q (h := ?_))
     | fail)
    all_goals try clear fx
    exact e_list (t := 2) (by first | (simp [hp3]; done) | (simp [hp3]; rfl)) (by first | (simp [hp3]; done) | (simp [hp3]; rfl)) (by simp)
end Go.Proofs.YtpckgioefpkmoaaGreat
end

section
set_option maxRecDepth 100000
set_option maxHeartbeats 4000000
set_option linter.unusedSimpArgs false
namespace Go.Proofs.YtpckgioefpkmoaaGreat
open Go Go.Hm Go.Proofs
theorem BoundIn_fn (gl) (p : Prg) (b : Nat) (k : Blk) (hk : p[b]? = some k) (hs : Sml p) (hv : progOk p = true) : FnOk Tryz.prog gl 49 [pav p, iv b] (fun r z H' => z = .hs r 1 0 (sorted k.bd).length ∧ H' r = some (.row 1 (irows (sorted k.bd)))) := by
  have hsh : shapeOk p = true := by
    simp only [progOk, Bool.and_eq_true] at hv
    exact hv.1
  have hp := ShapeP.of hs hsh
  have hvs := hsh ▸ impl_ValidShape_fn gl p hs
  obtain ⟨hbl, hkE⟩ := List.getElem?_eq_some_iff.1 hk
  have hib := impl_isBlock_fn gl p b
  rw [show decide ((0 : Int) ≤ (b : Int) ∧ (b : Int) < p.length) = true by simp; omega] at hib
  have hbs := boundSet_fn gl k (hp.names k (List.mem_of_getElem? hk)) (hs.bsm hk)
  have hls := list_fn gl k.bd
  refine FnOk.of_sem Tryz.func49 rfl (by kernel_rfl) (rs := [.tmp 4]) rfl Tryz.ntmps49 (Nat.le_of_ble_eq_true rfl) fun C w g root => ?_
  have fx := And.intro hk <| And.intro hkE <| hbl
  have c1 := hvs
  have c2 := hib
  have c3 := hbs
  have d1 := hls
  refine k_run ?_
  clear fx c1 c2 c3 d1
  refine e_ret [(.s 4, root)] (.one rfl) (by simp; rfl) ⟨by simp, by simp⟩
theorem OwnerOf_fn (gl) (p : Prg) (b x : Nat) (k : Blk) (hk : p[b]? = some k) (hx : x < 8) (hs : Sml p) (hv : progOk p = true) : FnOk Tryz.prog gl 50 [pav p, iv b, iv x] (fun _ z _ => z = iv (owner p b x)) := by
  have hsh : shapeOk p = true := by
    simp only [progOk, Bool.and_eq_true] at hv
    exact hv.1
  have hp := ShapeP.of hs hsh
  have hh := hp.heads
  have hvp := hv ▸ impl_ValidProgram_fn gl p hs
  obtain ⟨hbl, hkE⟩ := List.getElem?_eq_some_iff.1 hk
  have hib := impl_isBlock_fn gl p b
  rw [show decide ((0 : Int) ≤ (b : Int) ∧ (b : Int) < p.length) = true by simp; omega] at hib
  have hin := impl_isName_fn gl x
  rw [show (decide ((0 : Int) ≤ (x : Int)) && decide ((x : Int) ≤ 7)) = true by simp; omega] at hin
  have hsc := scopesOf_fn gl p hs hh hp.names
  have how := scope_owner_fn gl p hp b k hk x hx
  have hsg := sRows_at (n := .s 22) hbl
  obtain ⟨_, hse⟩ := List.getElem?_eq_some_iff.1 hsg
  refine FnOk.of_sem Tryz.func50 rfl (by kernel_rfl) (rs := [.tmp 6]) rfl Tryz.ntmps50 (Nat.le_of_ble_eq_true rfl) fun C w g root => ?_
  have fx := And.intro hk <| And.intro hkE <| hbl
  have c1 := hvp
  have c2 := hib
  have c3 := hin
  have e1 := hsc
  refine k_run ?_
  clear fx c1 c2 c3 e1
  rintro K hK z H' ⟨rfl, hO⟩
  obtain ⟨hc1, hc2⟩ := hO.hcln
  refine ⟨by simp, ?_⟩
  have fx := And.intro hc1 <| And.intro hsg <| And.intro hse <| hbl
  have c1 := how
  refine k_run ?_
  clear fx c1
  refine e_ret [] .nil (by simp; rfl) (by simp)
end Go.Proofs.YtpckgioefpkmoaaGreat
end

section
set_option maxRecDepth 100000
set_option maxHeartbeats 4000000
set_option linter.unusedSimpArgs false
namespace Go.Proofs.YtpckgioefpkmoaaGreat
open Go Go.Hm Go.Proofs
def bndTo (p : Prg) (x : Nat) : Nat → Bool
  | 0 => false
  | i + 1 => bndTo p x i || (match p[i]? with | some k => decide ((x : Int) ∈ sorted k.bd) && (owner p i x == -1) | none => false)
theorem bndTo_not {p : Prg} {x : Nat} (hx : x < 8) (h : bndTo p x p.length = false) : ¬ bndG p x := by
  have h2 : ∀ n, bndTo p x n = false → ∀ (b : Nat) k, b < n → p[b]? = some k → ¬ ((x : Int) ∈ k.bd ∧ owner p b x = -1) := by
    intro n
    induction n with
    | zero => intro _ b k hb; omega
    | succ n ih =>
      intro hn b k hb hk ⟨h3, h4⟩
      simp only [bndTo, Bool.or_eq_false_iff] at hn
      by_cases e : b = n
      · subst e
        rw [hk] at hn
        have h5 : (x : Int) ∈ sorted k.bd := (mem_sortedAt hx).2 h3
        simp [h5, h4] at hn
      · exact ih hn.1 b k (by omega) hk ⟨h3, h4⟩
  rintro ⟨b, k, hk, h3, h4⟩
  exact h2 _ h b k (List.getElem?_eq_some_iff.1 hk).1 hk ⟨h3, h4⟩
theorem FnRunMeaningNames_fn (gl : Nat → Option (List AV)) (code : List Int) (hcode : ∀ v ∈ code, 0 ≤ v ∧ v ≤ 255) (hbig : code.length ≤ 1152921504606846976) :
    FnOk Tryz.prog gl 14 [bsl code] (fun _ z _ => z = bv true) := by
  refine FnOk.of_sem Tryz.func14 rfl (by kernel_rfl) (rs := [.tmp 2]) rfl Tryz.ntmps14 (Nat.le_of_ble_eq_true rfl) fun C w g root => ?_
  by_cases hlen : 1048576 < code.length
  · have hl1 : (1048576 : Int) < code.length := by omega
    have fx :=  hl1
    refine k_run ?_
    repeat ((first | refine w_sch (id := 5) (.q 0 <| .q 1 <| .q 2 <| .l 3 [0] <| .l 4 [] <| .q 5 <| .q 6 <| .q 7 <| .q 8 <| .q 9 <| .q 10 <| .q 11 <| .done) mixed (by kernel_rfl) (by kernel_rfl) ?_ | refine w_sch (id := 6) (.q 0 <| .q 1 <| .q 2 <| .l 3 [0] <| .l 4 [] <| .l 5 [] <| .done) mixed (by kernel_rfl) (by kernel_rfl) ?_); refine k_rund ?_; refine k_run ?_)
    clear fx
    refine e_ret [] .nil (by simp; rfl) (by simp)
  have hl1 : ¬ (1048576 : Int) < code.length := by omega
  have hc : CodeOk code := ⟨by omega, hcode⟩
  have fx :=  hl1
  have e1 := DrawRunMeaning_fn gl code hc
  refine k_run ?_
  repeat ((first | refine w_sch (id := 5) (.q 0 <| .q 1 <| .q 2 <| .l 3 [0] <| .l 4 [] <| .q 5 <| .q 6 <| .q 7 <| .q 8 <| .q 9 <| .q 10 <| .q 11 <| .done) mixed (by kernel_rfl) (by kernel_rfl) ?_ | refine w_sch (id := 6) (.q 0 <| .q 1 <| .q 2 <| .l 3 [0] <| .l 4 [] <| .l 5 [] <| .done) mixed (by kernel_rfl) (by kernel_rfl) ?_); refine k_rund ?_; refine k_run ?_)
  clear fx e1
  rintro K hK z H1 ⟨p, f, rfl, hO, hs⟩
  obtain ⟨ho1, ho2, ho3⟩ := hO.hcln
  refine ⟨by simp, ?_⟩
  have hpl := hs.len
  have hia := impl_RunMeaning_fn gl p f hs
  have hsa := spec_RunMeaning_fn gl p f hs
  obtain ⟨hl1, hl2⟩ := resG_len (f := f) hs
  have heq := equalResult_fn gl (resG p f) (by omega) (by omega)
  have fx :=  ho1
  have e1 := hia
  refine k_run ?_
  repeat ((first | refine w_sch (id := 5) (.q 0 <| .q 1 <| .q 2 <| .l 3 [0] <| .l 4 [] <| .q 5 <| .q 6 <| .q 7 <| .q 8 <| .q 9 <| .q 10 <| .q 11 <| .done) mixed (by kernel_rfl) (by kernel_rfl) ?_ | refine w_sch (id := 6) (.q 0 <| .q 1 <| .q 2 <| .l 3 [0] <| .l 4 [] <| .l 5 [] <| .done) mixed (by kernel_rfl) (by kernel_rfl) ?_); refine k_rund ?_; refine k_run ?_)
  clear fx e1
  rintro K hK y H2 ⟨rfl, hR⟩
  obtain ⟨r1, r2⟩ := hR.hcln
  refine ⟨by simp, ?_⟩
  have fx := And.intro ho1 <| And.intro r1 <| r2
  refine k_run ?_
  repeat ((first | refine w_sch (id := 5) (.q 0 <| .q 1 <| .q 2 <| .l 3 [0] <| .l 4 [] <| .q 5 <| .q 6 <| .q 7 <| .q 8 <| .q 9 <| .q 10 <| .q 11 <| .done) mixed (by kernel_rfl) (by kernel_rfl) ?_ | refine w_sch (id := 6) (.q 0 <| .q 1 <| .q 2 <| .l 3 [0] <| .l 4 [] <| .l 5 [] <| .done) mixed (by kernel_rfl) (by kernel_rfl) ?_); refine k_rund ?_; refine k_run ?_)
  clear fx
  intro K hK
  refine o_abs (fun st => BoxP st 3 p ∧ st.tm 4 = iv f ∧ st.tm 5 = .pt (.s 5) 0 ∧ st.hp (.s 5) = some (.row 4 [(resG p f).own (.s 19)]) ∧ OwnR st.hp (.s 19) (resG p f) ∧ st.tm 20 = .agg ((resG p f).own (.s 19)) ∧ st.tm 21 = .agg [.hs (.c (.s 3) 0 0) 4 0 p.length] ∧ st.tm 22 = iv f)
    ⟨⟨by simp, by simp, ⟨by simp [ho1], fun j r hj => by simp [ho2 j r hj], fun j r hj => by simp [ho3 j r hj]⟩⟩, by simp, by simp, by simp, ⟨by simp [r1], by simp [r2]⟩, by simp, by simp, by simp⟩ ?_
  clear hO ho1 ho2 ho3 hR r1 r2
  rintro st ⟨⟨h3, hp3, ⟨a1, a2, a3⟩⟩, h4, h5, hp5, ⟨r1, r2⟩, h18, h19, h20⟩
  rw [Rsl.own_eq] at hp5 h18
  have fx := And.intro h3 <| And.intro hp3 <| And.intro h4 <| And.intro h5 <| And.intro hp5 <| And.intro h18 <| And.intro h19 <| h20
  have e1 := hsa
  refine k_run ?_
  repeat ((first | refine w_sch (id := 5) (.q 0 <| .q 1 <| .q 2 <| .l 3 [0] <| .l 4 [] <| .q 5 <| .q 6 <| .q 7 <| .q 8 <| .q 9 <| .q 10 <| .q 11 <| .done) mixed (by kernel_rfl) (by kernel_rfl) ?_ | refine w_sch (id := 6) (.q 0 <| .q 1 <| .q 2 <| .l 3 [0] <| .l 4 [] <| .l 5 [] <| .done) mixed (by kernel_rfl) (by kernel_rfl) ?_); refine k_rund ?_; refine k_run ?_)
  clear fx e1
  rintro y H3 ⟨rfl, hR⟩
  obtain ⟨s1, s2⟩ := hR.hcln
  refine ⟨by simp, ?_⟩
  have fx := And.intro h3 <| And.intro hp3 <| And.intro h4 <| And.intro h5 <| And.intro hp5 <| And.intro h18 <| And.intro h19 <| h20
  refine k_run ?_
  repeat ((first | refine w_sch (id := 5) (.q 0 <| .q 1 <| .q 2 <| .l 3 [0] <| .l 4 [] <| .q 5 <| .q 6 <| .q 7 <| .q 8 <| .q 9 <| .q 10 <| .q 11 <| .done) mixed (by kernel_rfl) (by kernel_rfl) ?_ | refine w_sch (id := 6) (.q 0 <| .q 1 <| .q 2 <| .l 3 [0] <| .l 4 [] <| .l 5 [] <| .done) mixed (by kernel_rfl) (by kernel_rfl) ?_); refine k_rund ?_; refine k_run ?_)
  clear fx
  have fx := And.intro h18 h18
  refine kx_call (hB := .cons (bw_rsl (n := .s 19) (r := resG p f) ⟨by simp [r1], by simp [r2]⟩) (.cons (bw_rsl (n := .s 23) (r := resG p f) ⟨by simp [s1], by simp [s2]⟩) .nil)) (hF := heq) (h := ?_)
  clear fx
  have hgl : (resG p f).gl.length = if fuelOk p f = true then 8 else 0 := by
    cases hv : fuelOk p f
    · simp [resG, hv]
    · obtain ⟨n, rfl, -, -, hm⟩ := fuel_run hs hv
      have := hm.ok.glob.1
      simp [resG, hv, resW, shownS, this]
  cases hv : fuelOk p f
  · have hg0 : (((resG p f).gl.length : Int) == 0) = true := by rw [hgl, hv]; rfl
    clear hgl
    generalize resG p f = R at *
    have fx := And.intro h3 <| And.intro hp3 <| And.intro h4 <| And.intro h5 <| And.intro hp5 <| And.intro h18 <| And.intro h19 <| And.intro h20 <| hg0
    have e1 := hsa
    refine k_run ?_
    repeat ((first | refine w_sch (id := 5) (.q 0 <| .q 1 <| .q 2 <| .l 3 [0] <| .l 4 [] <| .q 5 <| .q 6 <| .q 7 <| .q 8 <| .q 9 <| .q 10 <| .q 11 <| .done) mixed (by kernel_rfl) (by kernel_rfl) ?_ | refine w_sch (id := 6) (.q 0 <| .q 1 <| .q 2 <| .l 3 [0] <| .l 4 [] <| .l 5 [] <| .done) mixed (by kernel_rfl) (by kernel_rfl) ?_); refine k_rund ?_; refine k_run ?_)
    clear fx e1
    rintro K hK y H4 ⟨rfl, hRR⟩
    obtain ⟨t1, t2⟩ := hRR.hcln
    refine ⟨by simp, ?_⟩
    have fx := And.intro h3 <| And.intro hp3 <| And.intro h4 <| And.intro h5 <| hp5
    refine k_run ?_
    repeat ((first | refine w_sch (id := 5) (.q 0 <| .q 1 <| .q 2 <| .l 3 [0] <| .l 4 [] <| .q 5 <| .q 6 <| .q 7 <| .q 8 <| .q 9 <| .q 10 <| .q 11 <| .done) mixed (by kernel_rfl) (by kernel_rfl) ?_ | refine w_sch (id := 6) (.q 0 <| .q 1 <| .q 2 <| .l 3 [0] <| .l 4 [] <| .l 5 [] <| .done) mixed (by kernel_rfl) (by kernel_rfl) ?_); refine k_rund ?_; refine k_run ?_)
    clear fx
    have fx := And.intro hp5 h5
    refine kx_call (hB := .cons (bw_rsl (n := .s 19) (r := R) ⟨by simp [r1], by simp [r2]⟩) (.cons (bw_rsl (n := .s 35) (r := R) ⟨by simp [t1], by simp [t2]⟩) .nil)) (hF := heq) (h := ?_)
    clear fx
    have fx := And.intro h3 <| And.intro hp3 <| And.intro h4 <| And.intro h5 <| hp5
    refine k_run ?_
    repeat ((first | refine w_sch (id := 5) (.q 0 <| .q 1 <| .q 2 <| .l 3 [0] <| .l 4 [] <| .q 5 <| .q 6 <| .q 7 <| .q 8 <| .q 9 <| .q 10 <| .q 11 <| .done) mixed (by kernel_rfl) (by kernel_rfl) ?_ | refine w_sch (id := 6) (.q 0 <| .q 1 <| .q 2 <| .l 3 [0] <| .l 4 [] <| .l 5 [] <| .done) mixed (by kernel_rfl) (by kernel_rfl) ?_); refine k_rund ?_; refine k_run ?_)
    clear fx
    refine e_ret [] .nil (by simp; rfl) (by simp)
  obtain ⟨n, rfl, hn, hP, hm⟩ := fuel_run hs hv
  have hg0 : (((resG p n).gl.length : Int) == 0) = false := by rw [hgl, hv]; rfl
  have hG1 : resG p n = resW (meantW p n) := by simp [resG, hv]
  have hv0 : progOk p = true := (fuelOk_of hv).1
  have hgn : ∀ x : Nat, x < 8 → bndTo p x p.length = false → (resG p n).gl[x]? = some (-9) := fun x hx h => by rw [hG1]; exact hm.glob hx (bndTo_not hx h)
  have hg8 : (resG p n).gl.length = 8 := by rw [hgl, hv]; rfl
  clear hG1 hm hgl
  generalize resG p n = R at *
  have fx := And.intro h3 <| And.intro hp3 <| And.intro h4 <| And.intro h5 <| And.intro hp5 <| And.intro h18 <| And.intro h19 <| And.intro h20 <| And.intro a1 <| hg0
  refine k_run ?_
  repeat ((first | refine w_sch (id := 5) (.q 0 <| .q 1 <| .q 2 <| .l 3 [0] <| .l 4 [] <| .q 5 <| .q 6 <| .q 7 <| .q 8 <| .q 9 <| .q 10 <| .q 11 <| .done) mixed (by kernel_rfl) (by kernel_rfl) ?_ | refine w_sch (id := 6) (.q 0 <| .q 1 <| .q 2 <| .l 3 [0] <| .l 4 [] <| .l 5 [] <| .done) mixed (by kernel_rfl) (by kernel_rfl) ?_); refine k_rund ?_; refine k_run ?_)
  clear fx
  refine w_loop (fun n0 st => ∃ X : Nat, n0 = 8 - X ∧ X ≤ 8 ∧ st.tm 6 = iv X ∧ BoxP st 3 p ∧ st.tm 5 = .pt (.s 5) 0 ∧ st.hp (.s 5) = some (.row 4 [R.own (.s 19)]) ∧ OwnR st.hp (.s 19) R) 8 ?_ ?_
  · exact ⟨0, by omega, by omega, by simp, ⟨by simp [h3], by simp [hp3], ⟨by simp [a1], fun j r hj => by simp [a2 j r hj], fun j r hj => by simp [a3 j r hj]⟩⟩, by simp [h5], by simp [hp5], ⟨by simp [r1], by simp [r2]⟩⟩
  clear h3 hp3 a1 a2 a3 h4 h5 hp5 r1 r2 h18 h19 h20 s1 s2 hR heq hia hsa
  rintro n0 st - - ⟨X, rfl, hX, h6, ⟨h3, hp3, ⟨a1, a2, a3⟩⟩, h5, hp5, ⟨r1, r2⟩⟩
  rw [Rsl.own_eq] at hp5
  by_cases hX8 : X < 8
  · have hX7 : (X : Int) ≤ 7 := by omega
    have hX8i : (X : Int) < 8 := by omega
    have fx := And.intro h3 <| And.intro hp3 <| And.intro h5 <| And.intro hp5 <| And.intro h6 <| hX7
    refine k_run ?_
    repeat ((first | refine w_sch (id := 5) (.q 0 <| .q 1 <| .q 2 <| .l 3 [0] <| .l 4 [] <| .q 5 <| .q 6 <| .q 7 <| .q 8 <| .q 9 <| .q 10 <| .q 11 <| .done) mixed (by kernel_rfl) (by kernel_rfl) ?_ | refine w_sch (id := 6) (.q 0 <| .q 1 <| .q 2 <| .l 3 [0] <| .l 4 [] <| .l 5 [] <| .done) mixed (by kernel_rfl) (by kernel_rfl) ?_); refine k_rund ?_; refine k_run ?_)
    clear fx
    refine w_loop (fun n1 st => ∃ i : Nat, n1 = p.length - i ∧ i ≤ p.length ∧ st.tm 8 = iv i ∧ st.tm 7 = bv (bndTo p X i) ∧ st.tm 6 = iv X ∧ BoxP st 3 p ∧ st.tm 5 = .pt (.s 5) 0 ∧ st.hp (.s 5) = some (.row 4 [R.own (.s 19)]) ∧ OwnR st.hp (.s 19) R) p.length ?_ ?_
    · exact ⟨0, by omega, by omega, by simp, by simp [bndTo], by simp [h6], ⟨by simp [h3], by simp [hp3], ⟨by simp [a1], fun j r hj => by simp [a2 j r hj], fun j r hj => by simp [a3 j r hj]⟩⟩, by simp [h5], by simp [hp5], ⟨by simp [r1], by simp [r2]⟩⟩
    clear h3 hp3 a1 a2 a3 h5 hp5 r1 r2 h6
    rintro n1 st - - ⟨i, rfl, hi, h8, h7, h6, ⟨h3, hp3, ⟨a1, a2, a3⟩⟩, h5, hp5, ⟨r1, r2⟩⟩
    rw [Rsl.own_eq] at hp5
    by_cases hil : i < p.length
    · obtain ⟨k, hk⟩ : ∃ k, p[i]? = some k := ⟨_, List.getElem?_eq_getElem hil⟩
      have hbi := BoundIn_fn gl p i k hk hs hv0
      have hoi := OwnerOf_fn gl p i X k hk hX8 hs hv0
      have hsl : (sorted k.bd).length ≤ 1048576 := Nat.le_trans sorted_len (by decide)
      have hii := isIn_fn gl (sorted k.bd) X hsl
      have hbs : bndTo p X (i + 1) = (bndTo p X i || (decide ((X : Int) ∈ sorted k.bd) && (owner p i X == -1))) := by simp only [bndTo, hk]
      cases hb : bndTo p X i
      · rw [hb] at h7 hbs
        cases hm : decide ((X : Int) ∈ sorted k.bd)
        · rw [hm] at hii hbs
          have fx := And.intro h3 <| And.intro hp3 <| And.intro h5 <| And.intro hp5 <| And.intro h6 <| And.intro h7 <| And.intro h8 <| And.intro hil <| a1
          have c1 := hoi
          have c2 := hii
          have d1 := hbi
          refine k_run ?_
          repeat ((first | refine w_sch (id := 5) (.q 0 <| .q 1 <| .q 2 <| .l 3 [0] <| .l 4 [] <| .q 5 <| .q 6 <| .q 7 <| .q 8 <| .q 9 <| .q 10 <| .q 11 <| .done) mixed (by kernel_rfl) (by kernel_rfl) ?_ | refine w_sch (id := 6) (.q 0 <| .q 1 <| .q 2 <| .l 3 [0] <| .l 4 [] <| .l 5 [] <| .done) mixed (by kernel_rfl) (by kernel_rfl) ?_); refine k_rund ?_; refine k_run ?_)
          clear fx c1 c2 d1
          exact ⟨p.length - (i + 1), by omega, i + 1, rfl, by omega, by simp; exact wrp (by omega) (by omega), by simp [hbs], by simp [h6], ⟨by simp [h3], by simp [hp3], ⟨by simp [a1], fun j r hj => by simp [a2 j r hj], fun j r hj => by simp [a3 j r hj]⟩⟩, by simp [h5], by simp [hp5], ⟨by simp [r1], by simp [r2]⟩⟩
        · rw [hm] at hii hbs
          generalize owner p i X = o at hoi hbs
          have fx := And.intro h3 <| And.intro hp3 <| And.intro h5 <| And.intro hp5 <| And.intro h6 <| And.intro h7 <| And.intro h8 <| And.intro hil <| a1
          have c1 := hoi
          have c2 := hii
          have d1 := hbi
          refine k_run ?_
          repeat ((first | refine w_sch (id := 5) (.q 0 <| .q 1 <| .q 2 <| .l 3 [0] <| .l 4 [] <| .q 5 <| .q 6 <| .q 7 <| .q 8 <| .q 9 <| .q 10 <| .q 11 <| .done) mixed (by kernel_rfl) (by kernel_rfl) ?_ | refine w_sch (id := 6) (.q 0 <| .q 1 <| .q 2 <| .l 3 [0] <| .l 4 [] <| .l 5 [] <| .done) mixed (by kernel_rfl) (by kernel_rfl) ?_); refine k_rund ?_; refine k_run ?_)
          clear fx c1 c2 d1
          exact ⟨p.length - (i + 1), by omega, i + 1, rfl, by omega, by simp; exact wrp (by omega) (by omega), by simp [hbs], by simp [h6], ⟨by simp [h3], by simp [hp3], ⟨by simp [a1], fun j r hj => by simp [a2 j r hj], fun j r hj => by simp [a3 j r hj]⟩⟩, by simp [h5], by simp [hp5], ⟨by simp [r1], by simp [r2]⟩⟩
      · rw [hb] at h7 hbs
        have fx := And.intro h3 <| And.intro hp3 <| And.intro h5 <| And.intro hp5 <| And.intro h6 <| And.intro h7 <| And.intro h8 <| And.intro hil <| a1
        have c1 := hoi
        have c2 := hii
        have d1 := hbi
        refine k_run ?_
        repeat ((first | refine w_sch (id := 5) (.q 0 <| .q 1 <| .q 2 <| .l 3 [0] <| .l 4 [] <| .q 5 <| .q 6 <| .q 7 <| .q 8 <| .q 9 <| .q 10 <| .q 11 <| .done) mixed (by kernel_rfl) (by kernel_rfl) ?_ | refine w_sch (id := 6) (.q 0 <| .q 1 <| .q 2 <| .l 3 [0] <| .l 4 [] <| .l 5 [] <| .done) mixed (by kernel_rfl) (by kernel_rfl) ?_); refine k_rund ?_; refine k_run ?_)
        clear fx c1 c2 d1
        exact ⟨p.length - (i + 1), by omega, i + 1, rfl, by omega, by simp; exact wrp (by omega) (by omega), by simp [hbs, h7], by simp [h6], ⟨by simp [h3], by simp [hp3], ⟨by simp [a1], fun j r hj => by simp [a2 j r hj], fun j r hj => by simp [a3 j r hj]⟩⟩, by simp [h5], by simp [hp5], ⟨by simp [r1], by simp [r2]⟩⟩
    · obtain rfl : i = p.length := by omega
      cases hb : bndTo p X p.length
      · rw [hb] at h7
        have hgx := hgn X hX8 hb
        obtain ⟨hgxl, hgxE⟩ := List.getElem?_eq_some_iff.1 hgx
        have fx := And.intro h3 <| And.intro hp3 <| And.intro h5 <| And.intro hp5 <| And.intro h6 <| And.intro h7 <| And.intro h8 <| And.intro hil <| And.intro a1 <| And.intro r2 <| And.intro hg8 <| And.intro hX8 <| And.intro hX8i <| And.intro hgx <| And.intro hgxE <| And.intro hgxl <| @bne_def
        refine k_run ?_
        repeat ((first | refine w_sch (id := 5) (.q 0 <| .q 1 <| .q 2 <| .l 3 [0] <| .l 4 [] <| .q 5 <| .q 6 <| .q 7 <| .q 8 <| .q 9 <| .q 10 <| .q 11 <| .done) mixed (by kernel_rfl) (by kernel_rfl) ?_ | refine w_sch (id := 6) (.q 0 <| .q 1 <| .q 2 <| .l 3 [0] <| .l 4 [] <| .l 5 [] <| .done) mixed (by kernel_rfl) (by kernel_rfl) ?_); refine k_rund ?_; refine k_run ?_)
        clear fx
        exact ⟨8 - (X + 1), by omega, X + 1, rfl, by omega, by simp; exact wrp (by omega) (by omega), ⟨by simp [h3], by simp [hp3], ⟨by simp [a1], fun j r hj => by simp [a2 j r hj], fun j r hj => by simp [a3 j r hj]⟩⟩, by simp [h5], by simp [hp5], ⟨by simp [r1], by simp [r2]⟩⟩
      · rw [hb] at h7
        have fx := And.intro h3 <| And.intro hp3 <| And.intro h5 <| And.intro hp5 <| And.intro h6 <| And.intro h7 <| And.intro h8 <| And.intro hil <| a1
        refine k_run ?_
        repeat ((first | refine w_sch (id := 5) (.q 0 <| .q 1 <| .q 2 <| .l 3 [0] <| .l 4 [] <| .q 5 <| .q 6 <| .q 7 <| .q 8 <| .q 9 <| .q 10 <| .q 11 <| .done) mixed (by kernel_rfl) (by kernel_rfl) ?_ | refine w_sch (id := 6) (.q 0 <| .q 1 <| .q 2 <| .l 3 [0] <| .l 4 [] <| .l 5 [] <| .done) mixed (by kernel_rfl) (by kernel_rfl) ?_); refine k_rund ?_; refine k_run ?_)
        clear fx
        exact ⟨8 - (X + 1), by omega, X + 1, rfl, by omega, by simp; exact wrp (by omega) (by omega), ⟨by simp [h3], by simp [hp3], ⟨by simp [a1], fun j r hj => by simp [a2 j r hj], fun j r hj => by simp [a3 j r hj]⟩⟩, by simp [h5], by simp [hp5], ⟨by simp [r1], by simp [r2]⟩⟩
  · obtain rfl : X = 8 := by omega
    have fx := And.intro h3 <| And.intro hp3 <| And.intro h5 <| And.intro hp5 <| And.intro h6 <| And.intro r2 <| hg8
    refine k_run ?_
    repeat ((first | refine w_sch (id := 5) (.q 0 <| .q 1 <| .q 2 <| .l 3 [0] <| .l 4 [] <| .q 5 <| .q 6 <| .q 7 <| .q 8 <| .q 9 <| .q 10 <| .q 11 <| .done) mixed (by kernel_rfl) (by kernel_rfl) ?_ | refine w_sch (id := 6) (.q 0 <| .q 1 <| .q 2 <| .l 3 [0] <| .l 4 [] <| .l 5 [] <| .done) mixed (by kernel_rfl) (by kernel_rfl) ?_); refine k_rund ?_; refine k_run ?_)
    clear fx
    refine e_ret [] .nil (by simp; rfl) (by simp)
end Go.Proofs.YtpckgioefpkmoaaGreat
end
