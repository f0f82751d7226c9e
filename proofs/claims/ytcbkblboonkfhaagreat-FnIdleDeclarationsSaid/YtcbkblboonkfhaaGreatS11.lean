/-
  Own texts, joined by mkclaim.py: Hm32, Hm33, Hm34, Hm35, Hm36, Hm37, Hm38, Hm39, Hm40, Hm41.
-/
import Derived.Test.YtcbkblboonkfhaaGreatS10
import Derived.Below
import Derived.Deep.Slices
import Derived.Deep.Fields
import Derived.ChangeSame
import Derived.SizedLaws
set_option linter.unusedSimpArgs false
set_option linter.unusedVariables false
set_option maxRecDepth 100000
set_option maxHeartbeats 4000000

section
namespace Go.Hm
open Go Go.RowKit
section
variable {l : List Int} {r : List AV} {n : Nat}
@[simp] theorem bset_takeN : (bset l ++ r).take (n + 8) = bset l ++ r.take n := by
  have : n + 8 = (bset l).length + n := by simp; omega
  rw [this, List.take_length_add_append]
@[simp] theorem bset_dropN : (bset l ++ r).drop (n + 8) = r.drop n := by
  have : n + 8 = (bset l).length + n := by simp; omega
  rw [this, List.drop_length_add_append]
theorem bset_app {j : Nat} : (bset l ++ r)[8 + j]? = r[j]? := by rw [List.getElem?_append_right (by simp)]; simp
theorem bset_app0 {j : Nat} (h : j < 8) : (bset l ++ r)[j]? = some (bv (decide ((j : Int) ∈ l))) := by rw [List.getElem?_append_left (by simpa using h), bset_get h]
@[simp] theorem bset_drop8' : (bset l).drop 8 = [] := by simp
theorem prs_append {key : Nat → Nm} : ∀ {v u : List AV} {j : Nat}, (∀ x ∈ v, sNm x = none) → prs key j (v ++ u) = prs key (j + v.length) u
  | [], u, j, _ => by simp
  | x :: l, u, j, h => by
    rw [List.cons_append, prs_cons, h x (by simp)]
    simp only
    rw [prs_append fun y hy => h y (by simp [hy])]
    congr 1
    simp
    omega
@[simp] theorem bset_prsA {key : Nat → Nm} {j : Nat} : prs key j (bset l ++ r) = prs key (j + 8) r := by
  have := prs_append (key := key) (v := bset l) (u := r) (j := j) (by simp [bset])
  simpa using this
theorem nilKeys_append {key : Nat → Nm} {es : List Nat} : ∀ {v u : List AV} {j : Nat}, v.all (fun x => !isNilS x) = true → nilKeys key es j (v ++ u) = nilKeys key es (j + v.length) u
  | [], u, j, _ => by simp
  | x :: l, u, j, h => by
    simp only [List.all_cons, Bool.and_eq_true, Bool.not_eq_true'] at h
    rw [List.cons_append, nk_cons, h.1]
    simp only [Bool.false_eq_true, if_false]
    rw [nilKeys_append h.2]
    congr 1
    simp
    omega
@[simp] theorem bset_nkA {key : Nat → Nm} {es : List Nat} {j : Nat} : nilKeys key es j (bset l ++ r) = nilKeys key es (j + 8) r := by
  have := nilKeys_append (key := key) (es := es) (v := bset l) (u := r) (j := j) bset_nil
  simpa using this
theorem zcs_append {key : Nat → Nm} {es : List Nat} : ∀ {v u : List AV} {j : Nat}, v.all (fun x => !isNilS x) = true → zcs key es j (v ++ u) = v ++ zcs key es (j + v.length) u
  | [], u, j, _ => by simp
  | x :: l, u, j, h => by
    simp only [List.all_cons, Bool.and_eq_true, Bool.not_eq_true'] at h
    rw [List.cons_append, zcs_cons, h.1]
    simp only [Bool.false_eq_true, if_false]
    rw [zcs_append h.2]
    simp
    congr 1
    omega
@[simp] theorem bset_zcsA {key : Nat → Nm} {es : List Nat} {j : Nat} : zcs key es j (bset l ++ r) = bset l ++ zcs key es (j + 8) r := by
  have := zcs_append (key := key) (es := es) (v := bset l) (u := r) (j := j) bset_nil
  simpa using this
end
def scopeRow (i : Nat) (k : Blk) (o : AV) (ps : List Int) : List AV := iv i :: iv k.kind :: o :: (bset ps ++ (bset k.rd ++ (bset k.bd ++ (bset (k.dc 9) ++ bset (k.dc 10)))))
section
variable {i x : Nat} {k : Blk} {o o' : AV} {ps : List Int} {f : Nm → Option Nm}
@[simp] theorem scopeRow_len : (scopeRow i k o ps).length = 43 := by simp [scopeRow]
@[simp] theorem scopeRow_tr : (scopeRow i k o ps).map (AV.tr f) = scopeRow i k (o.tr f) ps := by simp [scopeRow]
@[simp] theorem scopeRow_0 : (scopeRow i k o ps)[0] = iv i := rfl
@[simp] theorem scopeRow_1 : (scopeRow i k o ps)[1] = iv k.kind := rfl
@[simp] theorem scopeRow_2 : (scopeRow i k o ps)[2] = o := rfl
theorem scopeRow_p (h : x < 8) : (scopeRow i k o ps)[3 + x]? = some (bv (decide ((x : Int) ∈ ps))) := by
  rw [scopeRow, Nat.add_comm]
  simp only [List.getElem?_cons_succ]
  rw [bset_app0 h]
theorem scopeRow_r (h : x < 8) : (scopeRow i k o ps)[11 + x]? = some (bv (decide ((x : Int) ∈ k.rd))) := by
  have : 11 + x = 8 + x + 3 := by omega
  rw [scopeRow, this]
  simp only [List.getElem?_cons_succ]
  rw [bset_app, bset_app0 h]
theorem scopeRow_b (h : x < 8) : (scopeRow i k o ps)[19 + x]? = some (bv (decide ((x : Int) ∈ k.bd))) := by
  have : 19 + x = 8 + (8 + x) + 3 := by omega
  rw [scopeRow, this]
  simp only [List.getElem?_cons_succ]
  rw [bset_app, bset_app, bset_app0 h]
theorem scopeRow_g (h : x < 8) : (scopeRow i k o ps)[27 + x]? = some (bv (decide ((x : Int) ∈ k.dc 9))) := by
  have : 27 + x = 8 + (8 + (8 + x)) + 3 := by omega
  rw [scopeRow, this]
  simp only [List.getElem?_cons_succ]
  rw [bset_app, bset_app, bset_app, bset_app0 h]
theorem scopeRow_n (h : x < 8) : (scopeRow i k o ps)[35 + x]? = some (bv (decide ((x : Int) ∈ k.dc 10))) := by
  have : 35 + x = 8 + (8 + (8 + (8 + x))) + 3 := by omega
  rw [scopeRow, this]
  simp only [List.getElem?_cons_succ]
  rw [bset_app, bset_app, bset_app, bset_app, bset_get h]
theorem scopeRow_addP {y : Int} (hy : y = x) (h : x < 8) : (scopeRow i k o ps).take (3 + x) ++ bv true :: (scopeRow i k o ps).drop (3 + x + 1) = scopeRow i k o (ps ++ [y]) := by
  have e1 : 3 + x = x + 3 := by omega
  have e2 : 3 + x + 1 = (x + 1) + 3 := by omega
  rw [e2, e1]
  simp only [scopeRow, List.take_succ_cons, List.drop_succ_cons, List.cons_append]
  rw [List.take_append_of_le_length (by simp; omega), List.drop_append_of_le_length (by simp; omega), ← bset_add hy h]
  simp
theorem scopeRow_setO : (scopeRow i k o ps).take 2 ++ o' :: (scopeRow i k o ps).drop 3 = scopeRow i k o' ps := rfl
end
def nilP : AV := .sc (.pointer none)
@[simp] theorem nilP_tr {f : Nm → Option Nm} : nilP.tr f = nilP := rfl
def sRows (n : Nm) (len i : Nat) : List (List AV) := (List.range len).map (fun j => [if j < i then AV.pt (.c n j 0) 0 else nilP])
def outP (n : Nm) (j : Int) : AV := if j < 0 then nilP else .pt (.c n j.toNat 0) 0
structure OwnS (hp : Nm → Option AO) (n : Nm) (p : Prg) (i : Nat) : Prop where
  top : hp n = some (.row 1 (sRows n p.length i))
  sc : ∀ (j : Nat) k, j < i → p[j]? = some k → hp (.c n j 0) = some (.row 43 [scopeRow j k (outP n k.parent) k.params])
section
variable {n m : Nm} {len i j : Nat} {f : Nm → Option Nm}
@[simp] theorem sRows_len : (sRows n len i).length = len := by simp [sRows]
theorem sRows_get (h : j < len) : (sRows n len i)[j]? = some [if j < i then AV.pt (.c n j 0) 0 else nilP] := by simp [sRows, h]
theorem sRows_tr (h : ∀ j, j < i → f (.c n j 0) = some (.c m j 0)) : (sRows n len i).map (fun r => r.map (AV.tr f)) = sRows m len i := by
  simp only [sRows, List.map_map]
  apply List.map_congr_left
  intro j _
  by_cases e : j < i
  · simp [e, h j e]
  · simp [e]
theorem sRows_set {a : Nat} (hn : Nm.under (.s a) n = false) (hn' : Nm.under (.c n i 0) n = false) : (rowsSet (sRows n len i) i 0 [.pt (.s a) 0]).map (fun r => r.map (AV.tr (mv (.s a) (.c n i 0)))) = sRows n len (i + 1) := by
  apply List.ext_getElem?
  intro j
  simp only [rowsSet, List.getElem?_map, List.getElem?_modify]
  by_cases hj : j < len
  · rw [sRows_get hj, sRows_get hj]
    by_cases e : i = j
    · subst e
      simp
    · by_cases e2 : j < i
      · have e3 : j < i + 1 := by omega
        have e4 : ¬ j = i := by omega
        simp [e, e2, e3, hn, hn', e4]
      · have e3 : ¬ j < i + 1 := by omega
        simp [e, e2, e3]
  · have h1 : (sRows n len i)[j]? = none := List.getElem?_eq_none (by simp; omega)
    have h2 : (sRows n len (i + 1))[j]? = none := List.getElem?_eq_none (by simp; omega)
    simp [h1, h2]
@[simp] theorem sRows_kl {d : Nat} (h : Nm.under (.s d) n = false) : (sRows n len i).map (fun r => r.map (AV.tr (kl (.s d)))) = sRows n len i := sRows_tr (by simp [h])
@[simp] theorem sRows_mv1 {a : Nat} {k1 : Nm} (h : Nm.under (.s a) n = true) : (sRows n len i).map (fun r => r.map (AV.tr (mv (.s a) k1))) = sRows (Nm.ren (.s a) k1 n) len i := sRows_tr (by simp [h])
@[simp] theorem sRows_mv2 {a b : Nat} (h : Nm.under (.s a) n = false) (h' : Nm.under (.s b) n = false) : (sRows n len i).map (fun r => r.map (AV.tr (mv (.s a) (.s b)))) = sRows n len i := sRows_tr (by simp [h, h'])
theorem outP_tr {q : Int} (h : 0 ≤ q → f (.c n q.toNat 0) = some (.c m q.toNat 0)) : (outP n q).tr f = outP m q := by
  unfold outP
  split
  · rfl
  · simp [h (by omega)]
@[simp] theorem outP_kl {d : Nat} {q : Int} (h : Nm.under (.s d) n = false) : (outP n q).tr (kl (.s d)) = outP n q := outP_tr (by simp [h])
@[simp] theorem outP_mv1 {a : Nat} {k1 : Nm} {q : Int} (h : Nm.under (.s a) n = true) : (outP n q).tr (mv (.s a) k1) = outP (Nm.ren (.s a) k1 n) q := outP_tr (by simp [h])
@[simp] theorem outP_mv2 {a b : Nat} {q : Int} (h : Nm.under (.s a) n = false) (h' : Nm.under (.s b) n = false) : (outP n q).tr (mv (.s a) (.s b)) = outP n q := outP_tr (by simp [h, h'])
section
variable {a b c d e l : Nat} {q : Nm} {k : Int}
theorem cdis (h : Nm.under (.s a) n = false) : Nm.under (.c (.s a) b c) n = false := by
  cases e : Nm.under (.c (.s a) b c) n with
  | false => rfl
  | true => rw [(Nm.under_not_c e).1] at h; cases h
theorem ne_s (h : Nm.under (.s a) n = false) : ¬ n = .s a := fun e => by simp [e] at h
@[simp] theorem sRows_mv3 (h : Nm.under (.s a) n = false) (h' : Nm.under (.s b) n = false) : (sRows n len i).map (fun r => r.map (AV.tr (mv (.s a) (.c (.s b) c d)))) = sRows n len i := sRows_tr (by simp [h, cdis h', ne_s h'])
@[simp] theorem outP_mv3 (h : Nm.under (.s a) n = false) (h' : Nm.under (.s b) n = false) : (outP n k).tr (mv (.s a) (.c (.s b) c d)) = outP n k := outP_tr (by simp [h, cdis h', ne_s h'])
theorem cdis2 {f : Nat} (h : Nm.under (.s a) n = false) : Nm.under (.c (.c (.s a) b c) e f) n = false := by
  cases hx : Nm.under (.c (.c (.s a) b c) e f) n with
  | false => rfl
  | true => rw [(Nm.under_not_c (Nm.under_not_c hx).1).1] at h; cases h
theorem ne_c (h : Nm.under (.s a) n = false) : ¬ n = .c (.s a) b c := fun e => by simp [e] at h
@[simp] theorem sRows_mv5 {e f : Nat} (h : Nm.under (.s a) n = false) (h' : Nm.under (.s b) n = false) : (sRows n len i).map (fun r => r.map (AV.tr (mv (.s a) (.c (.c (.s b) e f) c d)))) = sRows n len i := sRows_tr (by simp [h, cdis2 h', ne_c h'])
@[simp] theorem outP_mv5 {e f : Nat} (h : Nm.under (.s a) n = false) (h' : Nm.under (.s b) n = false) : (outP n k).tr (mv (.s a) (.c (.c (.s b) e f) c d)) = outP n k := outP_tr (by simp [h, cdis2 h', ne_c h'])
@[simp] theorem sRows_mv4 (h : Nm.under (.s a) n = false) (h' : Nm.under (.s b) n = false) : (sRows n len i).map (fun r => r.map (AV.tr (mv (.c (.s a) e l) (.c (.s b) c d)))) = sRows n len i := sRows_tr (by simp [cdis h, cdis h', ne_s h, ne_s h'])
@[simp] theorem outP_mv4 (h : Nm.under (.s a) n = false) (h' : Nm.under (.s b) n = false) : (outP n k).tr (mv (.c (.s a) e l) (.c (.s b) c d)) = outP n k := outP_tr (by simp [cdis h, cdis h', ne_s h, ne_s h'])
@[simp] theorem sRows_mvc (h : Nm.under (.s a) n = false) (h' : Nm.under (.s b) n = false) : (sRows n len i).map (fun r => r.map (AV.tr (Hm.mvc (.s a) (.s b)))) = sRows n len i := sRows_tr (by simp [Hm.mvc, h, h'])
@[simp] theorem outP_mvcS (h : Nm.under (.s a) n = false) (h' : Nm.under (.s b) n = false) : (outP n k).tr (Hm.mvc (.s a) (.s b)) = outP n k := outP_tr (by simp [Hm.mvc, h, h'])
end
theorem outP_mvc {a : Nat} {q : Int} (h : Nm.under (.s a) n = false) (h' : Nm.under (.c n i 0) n = false) (hq : q < i) : (outP n q).tr (mv (.s a) (.c n i 0)) = outP n q := outP_tr (fun _ => by
  have : ¬ q.toNat = i := by omega
  simp [h, h', this])
theorem outP_neg {q : Int} (h : q < 0) : outP n q = nilP := by simp [outP, h]
theorem outP_nat {q : Nat} : outP n q = .pt (.c n q 0) 0 := by
  have : ¬ (q : Int) < 0 := by omega
  simp [outP, this]
theorem sRows_zero : List.replicate len [nilP] = sRows n len 0 := by
  apply List.ext_getElem?
  intro j
  by_cases hj : j < len
  · rw [sRows_get hj]
    simp [hj]
  · rw [List.getElem?_eq_none (by simp; omega), List.getElem?_eq_none (by simp; omega)]
end
def scopeF (p : Prg) : Nat → Int → AV
  | 0, _ => nilP
  | n + 1, j => if j < 0 then nilP else match p[j.toNat]? with
    | none => nilP
    | some k => .el (scopeRow j.toNat k (scopeF p n k.parent) k.params) 0
theorem scopeF_fuel {p : Prg} (hp : Heads p) : ∀ (n m : Nat) (j : Int), j < n → j < m → scopeF p n j = scopeF p m j
  | 0, 0, _, _, _ => rfl
  | 0, m + 1, j, h, _ => by simp only [scopeF]; rw [if_pos (by omega)]
  | n + 1, 0, j, _, h => by simp only [scopeF]; rw [if_pos (by omega)]
  | n + 1, m + 1, j, h1, h2 => by
    simp only [scopeF]
    split
    · rfl
    · split
      · rfl
      · rename_i k hk
        obtain ⟨h3, h4, _⟩ := hp j.toNat k hk
        rw [scopeF_fuel hp n m k.parent (by omega) (by omega)]
theorem scopeF_tr {p : Prg} {f : Nm → Option Nm} : ∀ (n : Nat) (j : Int), (scopeF p n j).tr f = scopeF p n j
  | 0, _ => rfl
  | n + 1, j => by
    simp only [scopeF]
    split
    · rfl
    · split
      · rfl
      · simp [scopeF_tr n]
def scopeA (p : Prg) (j : Int) : AV := scopeF p p.length j
@[simp] theorem scopeA_tr {p : Prg} {j : Int} {f : Nm → Option Nm} : (scopeA p j).tr f = scopeA p j := scopeF_tr _ _
theorem scopeA_eq {p : Prg} {j : Nat} {k : Blk} (hp : Heads p) (hk : p[j]? = some k) : scopeA p j = .el (scopeRow j k (scopeA p k.parent) k.params) 0 := by
  have hj : j < p.length := (gS hk).1
  obtain ⟨h1, h2, _⟩ := hp j k hk
  obtain ⟨n, hn⟩ : ∃ n, p.length = n + 1 := ⟨p.length - 1, by omega⟩
  have e : scopeF p n k.parent = scopeF p (n + 1) k.parent := scopeF_fuel hp _ _ _ (by omega) (by omega)
  unfold scopeA
  rw [hn, ← e]
  conv => lhs; rw [scopeF]
  rw [if_neg (by omega)]
  simp [hk]
theorem scopeA_neg {p : Prg} {j : Int} (h : j < 0) : scopeA p j = nilP := by
  unfold scopeA
  cases p.length with
  | zero => rfl
  | succ n => rw [scopeF, if_pos h]
theorem scopeRow_bw {hp : Nm → Option AO} {i : Nat} {k : Blk} {o o' : AV} {ps : List Int} (h : Bw hp noD o o') : ∀ (j : Nat) a a', (scopeRow i k o ps)[j]? = some a → (scopeRow i k o' ps)[j]? = some a' → Bw hp noD a a' := by
  intro j a a' ha ha'
  match j, ha, ha' with
  | 0, ha, ha' => obtain rfl := Option.some.inj ha; obtain rfl := Option.some.inj ha'; exact .refl _
  | 1, ha, ha' => obtain rfl := Option.some.inj ha; obtain rfl := Option.some.inj ha'; exact .refl _
  | 2, ha, ha' => obtain rfl := Option.some.inj ha; obtain rfl := Option.some.inj ha'; exact h
  | j + 3, ha, ha' =>
    simp only [scopeRow, List.getElem?_cons_succ] at ha ha'
    rw [ha] at ha'
    obtain rfl := Option.some.inj ha'
    exact .refl _
theorem bw_scope {hp : Nm → Option AO} {n : Nm} {p : Prg} (h : OwnS hp n p p.length) (hh : Heads p) (j : Nat) (hj : j < p.length) : Bw hp noD (.pt (.c n j 0) 0) (scopeA p j) := by
  induction j using Nat.strongRecOn with
  | _ j ih =>
    obtain ⟨k, hk⟩ : ∃ k, p[j]? = some k := ⟨_, gE hj⟩
    obtain ⟨h1, h2, _⟩ := hh j k hk
    rw [scopeA_eq hh hk]
    refine .pt (.c n j 0) 43 0 _ _ [] rfl (h.sc j k hj hk) (by simp) (scopeRow_bw ?_)
    unfold outP
    split
    · rename_i hn
      rw [scopeA_neg hn]
      exact .refl _
    · have := ih k.parent.toNat (by omega) (by omega)
      have e : ((k.parent.toNat : Nat) : Int) = k.parent := by omega
      rwa [e] at this
def scRows (p : Prg) : List (List AV) := (List.range p.length).map (fun j : Nat => [scopeA p j])
abbrev scsl (p : Prg) : AV := .sl 1 (scRows p)
@[simp] theorem scRows_len {p : Prg} : (scRows p).length = p.length := by simp [scRows]
theorem scRows_get {p : Prg} {j : Nat} (h : j < p.length) : (scRows p)[j]? = some [scopeA p j] := by simp [scRows, h]
theorem bw_scopes {hp : Nm → Option AO} {n : Nm} {p : Prg} {len : Nat} (h : OwnS hp n p p.length) (hh : Heads p) (hl : len = p.length) : Bw hp noD (.hs n 1 0 len) (scsl p) := by
  subst hl
  refine .hs n 1 0 p.length (sRows n p.length p.length) (scRows p) rfl h.top (by simp) (by simp) (by simp [scRows]) fun i r r' hr hr' j a a' ha ha' => ?_
  have hi : i < p.length := by
    have := (gS hr').1
    simpa using this
  rw [Nat.zero_add, sRows_get hi, if_pos hi] at hr
  rw [scRows_get hi] at hr'
  obtain rfl := Option.some.inj hr
  obtain rfl := Option.some.inj hr'
  cases j with
  | zero =>
    obtain rfl := Option.some.inj ha
    obtain rfl := Option.some.inj ha'
    exact bw_scope h hh i hi
  | succ j => simp at ha
theorem OwnS.hcln {H' : Nm → Option AO} {n : Nm} {p : Prg} {i : Nat} (h : OwnS H' n p i) : OwnS (hcln H') n p i := by
  refine ⟨hcln_row h.top ?_, fun j k hj hk => hcln_row (h.sc j k hj hk) ?_⟩
  · simp only [sRows, List.all_eq_true]
    intro r hr
    obtain ⟨j, _, rfl⟩ := List.mem_map.1 hr
    intro x hx
    simp only [List.mem_singleton] at hx
    subst hx
    split <;> rfl
  · have : (outP n k.parent).cln = true := by unfold outP; split <;> rfl
    simp [scopeRow, this]
theorem FnOk.raw {P : Program} {f : FuncId} {as : List AV} {v0 : Value} (h : FnOk P (fun _ => none) f as (fun _ y _ => y = .sc v0)) {W : World} {g : Gh} {args : Array Value} (hC : ∀ b, g.C b → b < W.heap.size) (hsz : args.size = as.length)
    (hargs : ∀ (j : Nat) v x, args[j]? = some v → as[j]? = some x → RV g W v x) : Calls P f args W fun e W' => e = .returned v0 ∧ Below W.heap.size W W' := by
  have hinv : Inv (ownH g noH) g.C W g noH W := ⟨rfl, rfl, rfl, Nat.le_refl _, fun _ _ _ => rfl, rfl, hC, fun _ _ e => (by cases e), fun _ _ _ e => (by cases e), fun _ _ _ _ _ e => (by cases e)⟩
  refine (h.2 (.s 0) g.C W g args (fun _ _ => rfl) rfl (fun _ e => absurd rfl e) hinv (fun _ _ e => (by cases e)) hsz hargs).mono fun e w' he => ?_
  cases e with
  | returned v =>
    obtain ⟨C', g', H', x, hA, hv, rfl⟩ := he
    refine ⟨by rw [hv.sc_eq], hA.inv.os, hA.inv.tape, hA.inv.output, hA.inv.size, fun b hb => hA.inv.keep b hb ?_⟩
    rintro ⟨n, hn, _⟩
    exact hn rfl
  | panicked ch => obtain ⟨_, _, _, _, _, _, _, _, e⟩ := he; exact e.elim
  | outgrown => exact he.elim
theorem FnOk.of_raw {P : Program} {gl : Nat → Option (List AV)} {f : FuncId} {as : List AV} {v0 : Value} (hc : Callable P f)
    (h : ∀ (w : World) (g : Gh) (args : Array Value), (∀ b, g.C b → b < w.heap.size) → args.size = as.length → (∀ (j : Nat) v x, args[j]? = some v → as[j]? = some x → RV g w v x) → Calls P f args w fun e w' => e = .returned v0 ∧ Below w.heap.size w w') :
    FnOk P gl f as (fun _ y _ => y = .sc v0) := by
  refine ⟨hc, fun root C w g args _ _ _ hinv _ hsz hargs => ?_⟩
  refine (h w g args (fun b hb => hinv.clt b (hinv.hC ▸ hb)) hsz hargs).mono fun e w' he => ?_
  obtain ⟨rfl, hb⟩ := he
  exact ⟨C, g, noH, .sc v0, ⟨fun _ h => h, fun _ h => .inl h, ⟨hb.os, hb.tape, hb.output, hb.size, fun b hl _ => hb.block b hl, hinv.hC, fun b hb' => Nat.lt_of_lt_of_le (hinv.clt b hb') hb.size, fun _ _ e => (by cases e), fun _ _ _ e => (by cases e), fun _ _ _ _ _ e => (by cases e)⟩,
    fun _ e => absurd rfl e, fun _ _ _ => ⟨rfl, rfl⟩, fun _ _ _ _ => ⟨rfl, rfl⟩⟩, .sc v0, rfl⟩
theorem RV.keepB {g : Gh} {w W : World} {v : Value} {x : AV} {n : Nat} (h : RV g w v x) (hC : ∀ b, g.C b → b < n) (hb : Below n w W) : RV g W v x := h.same (fun _ h => h) (fun b hb' => hb.block b (hC b hb')) fun _ => ⟨rfl, rfl⟩
structure ScAt (g : Gh) (w : World) (p : Prg) (j : Nat) (k : Blk) (b o : Nat) : Prop where
  C : g.C b
  idx : w.cell? ⟨b, o, none⟩ = some (.int .i64 j)
  kind : w.cell? ⟨b, o + 1, none⟩ = some (.int .i64 k.kind)
  out : ∃ a, w.cell? ⟨b, o + 2, none⟩ = some (.pointer a) ∧ RV g w (.pointer a) (scopeA p k.parent)
  glob : ∀ x : Nat, x < 8 → w.cell? ⟨b, o + (27 + x), none⟩ = some (.bool (decide ((x : Int) ∈ k.dc 9)))
theorem RV.ptr {g : Gh} {w : World} {v : Value} {p : Prg} {j : Int} (h : RV g w v (scopeA p j)) : ∃ a, v = .pointer a := by
  unfold scopeA at h
  generalize p.length = n at h
  cases n with
  | zero => exact ⟨none, h.sc_eq⟩
  | succ n =>
    simp only [scopeF] at h
    split at h
    · exact ⟨none, h.sc_eq⟩
    · split at h
      · exact ⟨none, h.sc_eq⟩
      · cases h with
        | el b o off row f hC hcell ho hr => exact ⟨_, rfl⟩
theorem RV.scNil {g : Gh} {w : World} {v : Value} {p : Prg} {j : Int} (h : RV g w v (scopeA p j)) (hj : j < 0) : v = .pointer none := by
  rw [scopeA_neg hj] at h
  exact h.sc_eq
theorem RV.scAt {g : Gh} {w : World} {v : Value} {p : Prg} {j : Nat} {k : Blk} (hh : Heads p) (hk : p[j]? = some k) (h : RV g w v (scopeA p j)) : ∃ b o, v = .pointer (some ⟨b, o, none⟩) ∧ ScAt g w p j k b o := by
  rw [scopeA_eq hh hk] at h
  cases h with
  | el b o off row f hC hcell ho hr =>
    have get : ∀ (i : Nat) (u : Value), (scopeRow j k (scopeA p k.parent) k.params)[i]? = some (.sc u) → w.cell? ⟨b, o + i, none⟩ = some u := by
      intro i u hu
      have hi := (gS hu).1
      rw [hcell i hi, (hr i _ hu).sc_eq]
    refine ⟨b, o, rfl, hC, get 0 _ rfl, get 1 _ rfl, ?_, fun x hx => get _ _ (scopeRow_g hx)⟩
    have h2 := hr 2 _ (show (scopeRow j k (scopeA p k.parent) k.params)[2]? = some (scopeA p k.parent) from rfl)
    obtain ⟨a, ha⟩ := h2.ptr
    exact ⟨a, by rw [← ha]; exact hcell 2 (by simp), ha ▸ h2⟩
inductive Path (p : Prg) : Int → List Nat → Int → Prop
  | nil (j : Int) : Path p j [] j
  | skip (j : Nat) (k : Blk) (l : List Nat) (j' : Int) (hk : p[j]? = some k) (hn : k.kind ≠ 1) (h : Path p k.parent l j') : Path p j l j'
  | step (j : Nat) (k : Blk) (l : List Nat) (j' : Int) (hk : p[j]? = some k) (hn : k.kind = 1) (h : Path p k.parent l j') : Path p j (j :: l) j'
theorem Path.skipR {p : Prg} {i : Int} {l : List Nat} {j : Nat} {k : Blk} (h : Path p i l j) (hk : p[j]? = some k) (hn : k.kind ≠ 1) : Path p i l k.parent := by
  generalize hj : (j : Int) = j' at h
  induction h with
  | nil _ => subst hj; exact .skip j k [] _ hk hn (.nil _)
  | skip a q l j' ha hq _ ih => exact .skip a q l _ ha hq (ih hj)
  | step a q l j' ha hq _ ih => exact .step a q l _ ha hq (ih hj)
theorem Path.stepR {p : Prg} {i : Int} {l : List Nat} {j : Nat} {k : Blk} (h : Path p i l j) (hk : p[j]? = some k) (hn : k.kind = 1) : Path p i (l ++ [j]) k.parent := by
  generalize hj : (j : Int) = j' at h
  induction h with
  | nil _ => subst hj; exact .step j k [] _ hk hn (.nil _)
  | skip a q l j' ha hq _ ih => exact .skip a q _ _ ha hq (ih hj)
  | step a q l j' ha hq _ ih => exact .step a q _ _ ha hq (ih hj)
theorem Path.len {p : Prg} (hh : Heads p) {i j : Int} {l : List Nat} (h : Path p i l j) : (l.length : Int) + j ≤ i := by
  induction h with
  | nil _ => simp
  | skip a q l j' ha hq _ ih => have := (hh a q ha).2.1; omega
  | step a q l j' ha hq _ ih => have := (hh a q ha).2.1; simp; omega
def found (p : Prg) (x : Int) (j : Nat) : Option Int := match p[j]? with
  | some q => if x ∈ q.dc 9 then some (-1) else if isLocal j q x then some (j : Int) else none
  | none => none
theorem Path.outer {p : Prg} (hh : Heads p) {x : Int} {i j : Int} {l : List Nat} (h : Path p i l j) (hb : ∀ (k : Blk), p[0]? = some k → k.kind ≠ 1) (hno : ∀ y ∈ l, found p x y = none) : outerF p x p.length i = outerF p x p.length j := by
  induction h with
  | nil _ => rfl
  | skip a q l j' ha hq _ ih =>
    by_cases h0 : 0 < a
    · rw [outerF_step hh ha h0, if_pos hq]
      exact ih hno
    · obtain rfl : a = 0 := by omega
      have := (hh 0 q ha).2.1
      rw [← ih hno, outerF_end (by simp), outerF_end (by omega)]
  | step a q l j' ha hq _ ih =>
    have h0 : 0 < a := by
      rcases Nat.eq_zero_or_pos a with rfl | h
      · exact absurd hq (hb q ha)
      · exact h
    rw [outerF_step hh ha h0, if_neg (by simp [hq])]
    have hf := hno a (by simp)
    simp only [found, ha] at hf
    split at hf
    · cases hf
    · split at hf
      · cases hf
      · rename_i h1 h2
        rw [if_neg h1, if_neg h2]
        exact ih fun y hy => hno y (by simp [hy])
theorem Path.found {p : Prg} (hh : Heads p) {x r : Int} {i j : Int} {l : List Nat} {y : Nat} (h : Path p i (l ++ [y]) j) (hb : ∀ (k : Blk), p[0]? = some k → k.kind ≠ 1) (hno : ∀ y ∈ l, Hm.found p x y = none) (hf : Hm.found p x y = some r) : outerF p x p.length i = r := by
  generalize hl : l ++ [y] = l' at h
  induction h generalizing l with
  | nil _ => simp at hl
  | skip a q l' j' ha hq _ ih =>
    by_cases h0 : 0 < a
    · rw [outerF_step hh ha h0, if_pos hq]
      exact ih hno hl
    · obtain rfl : a = 0 := by omega
      have := (hh 0 q ha).2.1
      have h2 := ih hno hl
      rw [outerF_end (by omega)] at h2
      rw [← h2, outerF_end (by simp)]
  | step a q l' j' ha hq _ ih =>
    have h0 : 0 < a := by
      rcases Nat.eq_zero_or_pos a with rfl | h
      · exact absurd hq (hb q ha)
      · exact h
    rw [outerF_step hh ha h0, if_neg (by simp [hq])]
    cases l with
    | nil =>
      simp only [List.nil_append, List.cons.injEq] at hl
      obtain ⟨rfl, _⟩ := hl
      simp only [Hm.found, ha] at hf
      split at hf
      · rename_i h1; rw [if_pos h1]; exact Option.some.inj hf
      · rename_i h1
        rw [if_neg h1]
        split at hf
        · rename_i h2; rw [if_pos h2]; exact Option.some.inj hf
        · cases hf
    | cons z l =>
      simp only [List.cons_append, List.cons.injEq] at hl
      obtain ⟨rfl, hl⟩ := hl
      have hf1 := hno z (by simp)
      simp only [Hm.found, ha] at hf1
      split at hf1
      · cases hf1
      · split at hf1
        · cases hf1
        · rename_i h1 h2
          rw [if_neg h1, if_neg h2]
          exact ih (fun y hy => hno y (by simp [hy])) hl
structure NmOk (k : Blk) : Prop where
  kinds : ∀ s ∈ k.body, 0 ≤ s.kind ∧ s.kind ≤ 11
  reads : ∀ s ∈ k.body, ∀ x ∈ s.reads, 0 ≤ x ∧ x ≤ 7
  tos : ∀ s ∈ k.body, 0 ≤ s.to ∧ s.to ≤ 7
  params : ∀ x ∈ k.params, 0 ≤ x ∧ x ≤ 7
structure ShapeP (p : Prg) : Prop where
  sml : Sml p
  heads : Heads p
  head : ∀ (i : Nat) k, p[i]? = some k → HeadOk i k
  stm : ∀ (i : Nat) k, p[i]? = some k → ∀ s ∈ k.body, StmOk p i k s = true
  len : 1 ≤ p.length ∧ p.length ≤ 7
  body : ∀ k ∈ p, k.body.length ≤ 12
theorem ShapeP.of {p : Prg} (hs : Sml p) (h : shapeOk p = true) : ShapeP p := by
  obtain ⟨h1, h2, h3, h4, _⟩ := shapeOk_heads h
  have key : ∀ (i : Nat) k, p[i]? = some k → HeadOk i k ∧ k.body.length ≤ 12 ∧ k.body.all (StmOk p i k) = true := fun i k hk =>
    blkOk_head hk (List.all_eq_true.1 h4 i (List.mem_range.2 (gS hk).1))
  refine ⟨hs, h1, fun i k hk => (key i k hk).1, fun i k hk s hm => List.all_eq_true.1 (key i k hk).2.2 s hm, ⟨h2, h3⟩, fun k hk => ?_⟩
  obtain ⟨i, hi⟩ := List.getElem?_of_mem hk
  exact (key i k hi).2.1
theorem StmOk.kind {p : Prg} {i : Nat} {k : Blk} {s : Stm} (h : StmOk p i k s = true) : 0 ≤ s.kind ∧ s.kind ≤ 11 := by
  by_cases hk : 0 ≤ s.kind ∧ s.kind ≤ 11
  · exact hk
  · have h2 : ¬ (s.kind = 0 ∨ s.kind = 1 ∨ s.kind = 2 ∨ s.kind = 3 ∨ s.kind = 4 ∨ s.kind = 5 ∨ s.kind = 6 ∨ s.kind = 7 ∨ s.kind = 8 ∨ s.kind = 9 ∨ s.kind = 10 ∨ s.kind = 11) := by omega
    simp only [not_or] at h2
    simp [StmOk, h2] at h
theorem ShapeP.names {p : Prg} (h : ShapeP p) : ∀ k ∈ p, NmOk k := by
  intro k hk
  obtain ⟨i, hi⟩ := List.getElem?_of_mem hk
  have hst := h.stm i k hi
  have hhd := h.head i k hi
  refine ⟨fun s hs => StmOk.kind (hst s hs), fun s hs x hx => ?_, fun s hs => ?_, fun x hx => ?_⟩
  · have := hst s hs
    simp only [StmOk, Bool.and_eq_true] at this
    have := List.all_eq_true.1 this.1.2 x hx
    simpa using this
  · have := hst s hs
    simp only [StmOk, Bool.and_eq_true] at this
    simpa using this.1.1
  · unfold HeadOk at hhd
    split at hhd
    · have := List.eq_nil_of_length_eq_zero hhd.2.2
      rw [this] at hx
      cases hx
    · rcases hhd.2.2.2.2 with h0 | ⟨h1, _, h3, h4⟩
      · rw [List.eq_nil_of_length_eq_zero h0] at hx
        cases hx
      · match hp : k.params, h1, hx with
        | [y], _, hx =>
          obtain rfl := List.mem_singleton.1 hx
          rw [hp] at h3 h4
          exact ⟨h3, h4⟩
theorem ShapeP.kind0 {p : Prg} (h : ShapeP p) {i : Nat} {k : Blk} (hk : p[i]? = some k) : k.kind = 0 ↔ i = 0 := by
  have := h.head i k hk
  unfold HeadOk at this
  split at this <;> omega
theorem ShapeP.fun0 {p : Prg} (h : ShapeP p) : ∀ k, p[0]? = some k → k.kind ≠ 1 := by
  intro k hk
  have := (h.kind0 hk).2 rfl
  omega
theorem ShapeP.decl0 {p : Prg} (h : ShapeP p) {k : Blk} (hk : p[0]? = some k) {d : Int} (hd : d = 9 ∨ d = 10) : k.dc d = [] := by
  have hnil : declAll k d = [] := by
    simp only [declAll, List.map_eq_nil_iff, List.filter_eq_nil_iff]
    intro s hs hsd
    have hst := h.stm 0 k hk s hs
    have hk0 := (h.kind0 hk).2 rfl
    simp only [decide_eq_true_eq] at hsd
    rcases hd with rfl | rfl
    · simp [StmOk, hsd, hk0] at hst
    · simp [StmOk, hsd, hk0] at hst
  simp only [Blk.dc, hnil, sorted]
  decide
theorem outerF_ge {p : Prg} {x : Int} : ∀ (n : Nat) (j : Int), -1 ≤ outerF p x n j
  | 0, _ => by simp [outerF]
  | n + 1, j => by
    simp only [outerF]
    repeat' split
    all_goals first | omega | exact outerF_ge n _
theorem outer_ge {p : Prg} {b : Nat} {x : Int} : -1 ≤ outer p b x := by
  unfold outer
  split
  · exact outerF_ge _ _
  · omega
theorem owner_ge {p : Prg} {b : Nat} {x : Int} : -1 ≤ owner p b x := by
  unfold owner
  repeat' split
  all_goals first | omega | exact outer_ge
theorem mem_sortedAt {xs : List Int} {n : Nat} (h : n < 8) : (n : Int) ∈ sorted xs ↔ (n : Int) ∈ xs := by
  rw [mem_sorted]
  exact ⟨fun h => h.1, fun h' => ⟨h', by omega, by omega⟩⟩
def rowTo (O : List Int) (x : Nat) : List Int := O.take x ++ List.replicate (8 - x) 0
section
variable {O : List Int} {x : Nat}
@[simp] theorem rowTo_len (hO : O.length = 8) (hx : x ≤ 8) : (rowTo O x).length = 8 := by simp [rowTo]; omega
theorem rowTo_zero : rowTo O 0 = List.replicate 8 0 := by simp [rowTo]
theorem rowTo_all (hO : O.length = 8) : rowTo O 8 = O := by simp [rowTo, List.take_of_length_le (Nat.le_of_eq hO)]
theorem rowTo_set {v : Int} (hO : O.length = 8) (hx : x < 8) (hv : O[x]? = some v) : (rowTo O x).set x v = rowTo O (x + 1) := by
  apply List.ext_getElem?
  intro i
  rw [List.getElem?_set, rowTo_len hO (by omega)]
  by_cases e : x = i
  · subst e
    rw [if_pos rfl, if_pos hx]
    have h1 : x < (O.take (x + 1)).length := by simp; omega
    rw [rowTo, List.getElem?_append_left h1, List.getElem?_take, if_pos (by omega), hv]
  · rw [if_neg e]
    by_cases h : i < x
    · have h1 : i < (O.take (x + 1)).length := by simp; omega
      have h2 : i < (O.take x).length := by simp; omega
      rw [rowTo, rowTo, List.getElem?_append_left h1, List.getElem?_append_left h2, List.getElem?_take, List.getElem?_take, if_pos h, if_pos (by omega)]
    · have h1 : (O.take (x + 1)).length ≤ i := by simp; omega
      have h2 : (O.take x).length ≤ i := by simp; omega
      rw [rowTo, rowTo, List.getElem?_append_right h1, List.getElem?_append_right h2, List.getElem?_replicate, List.getElem?_replicate]
      simp only [List.length_take, hO]
      congr 1
      simp only [eq_iff_iff]
      omega
end
theorem ownersRow_len {p : Prg} {b : Nat} {k : Blk} : (ownersRow p b k).length = 8 := by simp [ownersRow]
theorem ownersRow_get {p : Prg} {b x : Nat} {k : Blk} (hx : x < 8) : (ownersRow p b k)[x]? = some (if (x : Int) ∈ k.rd ∨ (x : Int) ∈ k.bd then owner p b x else -2) := by
  simp [ownersRow, hx]
def nilS : AV := .sc (.slice none 0 0)
def zblk : List AV := [iv 0, iv 0, nilS, nilS]
def pRow (n : Nm) (j : Nat) (k : Blk) : List AV := [iv k.kind, iv k.parent, .hs (.c n j 2) 1 0 k.params.length, .hs (.c n j 3) 4 0 k.body.length]
def cRows (n : Nm) (p : Prg) (i : Nat) : List (List AV) := p.mapIdx (fun j k => if j < i then pRow n j k else zblk)
structure CopP (hp : Nm → Option AO) (n : Nm) (p : Prg) (i : Nat) : Prop where
  top : hp n = some (.row 4 (cRows n p i))
  params : ∀ (j : Nat) k, j < i → p[j]? = some k → hp (.c n j 2) = some (.row 1 (irows k.params))
  body : ∀ (j : Nat) k, j < i → p[j]? = some k → hp (.c n j 3) = some (.row 4 (srows k.body))
section
variable {p : Prg} {i j a b : Nat} {n m k1 : Nm} {k : Blk} {f : Nm → Option Nm}
@[simp] theorem cRows_len : (cRows n p i).length = p.length := by simp [cRows]
theorem cRows_get (hk : p[j]? = some k) : (cRows n p i)[j]? = some (if j < i then pRow n j k else zblk) := by simp [cRows, hk]
theorem cRows_zero : List.replicate p.length zblk = cRows n p 0 := by
  apply List.ext_getElem?
  intro j
  cases hk : p[j]? with
  | none =>
    have := List.getElem?_eq_none_iff.1 hk
    rw [List.getElem?_eq_none (by simp; omega), List.getElem?_eq_none (by simp; omega)]
  | some k =>
    have := (gS hk).1
    rw [cRows_get hk]
    simp [this]
theorem cRows_all : cRows n p p.length = pRows n p := by
  apply List.ext_getElem?
  intro j
  cases hk : p[j]? with
  | none =>
    have := List.getElem?_eq_none_iff.1 hk
    rw [List.getElem?_eq_none (by simp; omega), List.getElem?_eq_none (by simp; omega)]
  | some k =>
    rw [cRows_get hk, if_pos (gS hk).1, pRows_get, hk]
    rfl
theorem cRows_tr (h : ∀ j l, j < i → f (.c n j l) = some (.c m j l)) : (cRows n p i).map (fun r => r.map (AV.tr f)) = cRows m p i := by
  apply List.ext_getElem?
  intro j
  rw [List.getElem?_map]
  cases hk : p[j]? with
  | none =>
    have := List.getElem?_eq_none_iff.1 hk
    rw [List.getElem?_eq_none (by simp; omega), List.getElem?_eq_none (by simp; omega)]
    rfl
  | some k =>
    rw [cRows_get hk, cRows_get hk]
    by_cases e : j < i
    · simp [e, pRow, h j _ e]
    · simp [e, zblk, nilS]
@[simp] theorem cRows_kl {d : Nat} (h : Nm.under (.s d) n = false) : (cRows n p i).map (fun r => r.map (AV.tr (kl (.s d)))) = cRows n p i := cRows_tr (by simp [h])
theorem cRows_set {d e : Nat} (hk : p[i]? = some k) (hd : Nm.under (.s d) n = false) (he : Nm.under (.s e) n = false) (hde : d ≠ e) (h2 : Nm.under (.c n i 2) n = false) (h3 : Nm.under (.c n i 3) n = false) :
    ((rowsSet (cRows n p i) i 0 [iv k.kind, iv k.parent, .hs (.s d) 1 0 k.params.length, .hs (.s e) 4 0 k.body.length]).map (fun r => r.map (AV.tr (mv (.s d) (.c n i 2))))).map (fun r => r.map (AV.tr (mv (.s e) (.c n i 3)))) = cRows n p (i + 1) := by
  apply List.ext_getElem?
  intro j
  simp only [rowsSet, List.getElem?_map, List.getElem?_modify]
  have hed : ¬ e = d := fun h => hde h.symm
  cases hj : p[j]? with
  | none =>
    have := List.getElem?_eq_none_iff.1 hj
    rw [List.getElem?_eq_none (by simp; omega), List.getElem?_eq_none (by simp; omega)]
    rfl
  | some q =>
    rw [cRows_get hj, cRows_get hj]
    by_cases e1 : i = j
    · subst e1
      rw [hk] at hj
      obtain rfl := Option.some.inj hj
      simp [pRow, zblk, hd, he, hed, h2, h3]
    · by_cases e2 : j < i
      · have e3 : j < i + 1 := by omega
        have e4 : ¬ j = i := by omega
        simp [e1, e2, e3, e4, pRow, hd, he, h2, h3]
      · have e3 : ¬ j < i + 1 := by omega
        simp [e1, e2, e3, zblk, nilS]
end
theorem setBody_self {p : Prg} {i : Nat} {k : Blk} (hk : p[i]? = some k) : setBody p i k.body = p := by
  apply List.ext_getElem?
  intro j
  cases hj : p[j]? with
  | none =>
    rw [List.getElem?_eq_none_iff] at hj ⊢
    rw [setBody_len]
    exact hj
  | some q =>
    rw [setBody_get hj]
    by_cases e : i = j
    · subst e
      rw [hk] at hj
      obtain rfl := Option.some.inj hj
      simp
    · simp [e]
theorem fullTo_one {p : Prg} {k : Blk} (hk : p[0]? = some k) : fullTo p 1 = p := by
  simp only [fullTo, hk, explicitL, if_true, List.nil_append]
  exact setBody_self hk
theorem fullP_get {p : Prg} {j : Nat} {k : Blk} (h : p[j]? = some k) : (fullP p)[j]? = some (fullBlk p j k) := by
  rw [fullP, fullTo_get h, if_pos (gS h).1]
theorem fullP_long {p : Prg} {i : Nat} {k : Blk} (hk : p[i]? = some k) (h : 12 < (explicitL p i k ++ k.body).length) : fullOk p = false := by
  have hs : shapeOk (fullP p) = false := by
    rw [Bool.eq_false_iff]
    intro hs
    have := (shapeOk_heads hs).2.2.2.1
    have hi := (gS hk).1
    have h2 := List.all_eq_true.1 this i (List.mem_range.2 (by simp [fullP]; exact hi))
    have h3 := (blkOk_head (fullP_get hk) h2).2.1
    simp only [fullBlk] at h3
    omega
  simp [fullOk, progOk, hs]
theorem explicitL_len {p : Prg} {i : Nat} {k : Blk} : (explicitL p i k).length ≤ 8 := by
  have h3 := k.rd_len
  unfold explicitL
  split
  · simp
  · exact Nat.le_trans (explicit_take _) h3
def pre {α : Type} (z : α) (l : List α) (i : Nat) : List α := l.take i ++ List.replicate (l.length - i) z
section
variable {α : Type} {z x : α} {l : List α} {i : Nat}
end
theorem srows_set {ss : List Stm} {i : Nat} {s : Stm} : rowsSet (srows ss) i 0 s.cells = srows (ss.set i s) := by
  simp only [rowsSet, srows]
  apply List.ext_getElem?
  intro j
  simp only [List.getElem?_modify, List.getElem?_map, List.getElem?_set]
  by_cases h : i = j
  · subst h
    cases hx : ss[i]? with
    | none =>
      have : ¬ i < ss.length := fun hl => by rw [gE hl] at hx; cases hx
      simp [this]
    | some y =>
      have : i < ss.length := (gS hx).1
      simp [this]
  · simp [h]
section
variable {X : Ctx} {st : St} {K : St → Prop} {E : AV → St → Prop} {ds : List (Option Nat)} {l : List Oper} {o : Oper}
theorem o_mv (n0 n1 : Nm) (h0 : n0.isU = false ∨ X.ext n0 = false) (h1 : n1.isU = false ∨ X.ext n1 = false) (h : SemOp X o K E (st.move n0 n1)) : SemOp X o K E st :=
  fun a w Q hR hE => h a w Q (hR.move n0 n1 h0 h1) hE
theorem o_mvPost (n0 n1 : Nm) (h0 : n0.isU = false ∨ X.ext n0 = false) (h1 : n1.isU = false ∨ X.ext n1 = false) (h : SemOp X o (fun s => K (s.move n0 n1)) E st) : SemOp X o K E st := by
  refine SemOp.post h ?_
  intro s a w hR hK
  exact ⟨_, hR.move n0 n1 h0 h1, hK⟩
end
section
variable {p : Prg} {i a b l j : Nat} {n q k1 : Nm} {k : Blk}
end
theorem under_usroot {U : Nm} (hU : U.isU = true) : ∀ {n : Nm}, Nm.under U n = true → n.sroot = false := by
  intro n
  induction n with
  | s d => intro h; cases U <;> simp [Nm.isU, Nm.under] at *
  | u k i j => intro _; rfl
  | c q i j ih =>
    intro h
    simp only [Nm.under, Bool.or_eq_true, decide_eq_true_eq] at h
    rcases h with h | h
    · rw [← h] at hU; cases hU
    · exact ih h
def hsub (U : Nm) (hp : Nm → Option AO) : Nm → Option AO := fun m => if Nm.under U m then hp m else none
section
variable {X : Ctx} {st : St} {K : St → Prop} {E : AV → St → Prop} {d f : Nat} {ty : TypeId} {pos : String} {aft : Array Edge} {g : Option (Nat × Bool)} {args : Array Operand} {Ts : Array TypeId} {as : List AV} {R : Nm → AV → (Nm → Option AO) → Prop}
theorem x_mut (U : Nm) (hU : U.isU = true) (hext : X.ext U = true → st.hp U ≠ none) (hd : d < X.n := by first | (simp; done) | fail) (ha : args.toList.map (ev st) = as := by simp [fx]; first | done | rfl)
    (hF : FnE X.P X.gl f (Nm.under U) as (hsub U st.hp) R noE) (h : ∀ y H', R (.s d) y H' → K ((st.call d (Nm.under U) (hsub U st.hp) H').put (some d) y)) :
    SemOp X ⟨some d, .call ⟨.value (.func f), args, Ts⟩, ty, pos, aft, g⟩ K E st := by
  subst ha
  refine call_sem (D := Nm.under U) (H := hsub U st.hp) (R := R) (E0 := noE) hF (ent_func hF.1 rfl) false ⟨rfl, fun j a a' h h' => ?_⟩ (fun n hn => ?_) (fun n hn => ?_) (fun n hn => ?_) (fun k i j he => ?_) (fun e he => by obtain rfl := Option.some.inj he; exact hd) (fun x H' hR => ?_) (fun _ _ h => h.elim)
  · rw [h] at h'
    obtain rfl := Option.some.inj h'
    exact .refl _
  · cases hx : Nm.under U n with
    | false => rfl
    | true =>
      have h1 := under_usroot hU hx
      have h2 := Nm.sroot_under (a := .s d) rfl hn
      rw [h1] at h2
      cases h2
  · simp [hsub, hn]
  · simp only [hsub] at hn
    split at hn
    · assumption
    · exact absurd rfl hn
  · cases hx : Nm.under U (.u k i j) with
    | false => exact .inl rfl
    | true =>
      right
      have : Nm.u k i j = U := by cases U <;> simp [Nm.isU, Nm.under] at * <;> exact ⟨hx.1, hx.2.1, hx.2.2⟩
      simp only [hsub, hx, if_true]
      rw [this] at he ⊢
      exact hext he
  · exact h x H' hR
end
section
variable {st : St} {d t : Nat} {D : Nm → Bool} {H H' : Nm → Option AO} {m : Nm}
@[simp] theorem call_tm : (st.call d D H H').tm t = (st.tm t).tr (cf d D H) := rfl
@[simp] theorem call_gl : (st.call d D H H').gl = st.gl := rfl
@[simp] theorem call_hp : (st.call d D H H').hp m = if D m || Nm.under (.s d) m then H' m else (st.hp m).map (AO.tr (cf d D H)) := rfl
@[simp] theorem cf_eq : cf d D H m = if Nm.under (.s d) m then none else if D m then (if m.isU && (H m).isSome then some m else none) else some m := rfl
@[simp] theorem hsub_eq {U : Nm} {hp : Nm → Option AO} : hsub U hp m = if Nm.under U m then hp m else none := rfl
end
theorem AV.tr_tr (f g : Nm → Option Nm) (a : AV) : (a.tr f).tr g = a.tr (fun m => (f m).bind g) := by
  refine AV.rec (motive_1 := fun a => (a.tr f).tr g = a.tr (fun m => (f m).bind g)) (motive_2 := fun l => trLL g (trLL f l) = trLL (fun m => (f m).bind g) l) (motive_3 := fun l => trL g (trL f l) = trL (fun m => (f m).bind g) l) ?_ ?_ ?_ ?_ ?_ ?_ ?_ ?_ ?_ ?_ ?_ ?_ ?_ ?_ ?_ ?_ a
  all_goals intros
  all_goals simp only [AV.tr, trL, trLL, *]
  all_goals (split <;> simp_all [AV.tr])
theorem AO.tr_tr (f g : Nm → Option Nm) (o : AO) : (o.tr f).tr g = o.tr (fun m => (f m).bind g) := by
  have h : AV.tr g ∘ AV.tr f = AV.tr (fun m => (f m).bind g) := funext fun a => AV.tr_tr f g a
  cases o with
  | row z rows => simp [AO.tr, h]
  | map es => simp [AO.tr, AV.tr_tr]
def rtf (N V : Nm) (d : Nat) (m : Nm) : Option Nm := if Nm.under N m then (if m = N then some N else none) else if Nm.under V m then none else if Nm.under (.s d) m then none else some m
def St.mutc (st : St) (N V : Nm) (d : Nat) (H' : Nm → Option AO) : St :=
  { tm := fun t => (st.tm t).tr (rtf N V d),
    hp := fun m => if Nm.under N m then (if mv V N (Nm.ren N V m) = some m then (H' (Nm.ren N V m)).map (AO.tr (mv V N)) else none) else if Nm.under V m then none else if Nm.under (.s d) m then (H' m).map (AO.tr (mv V N)) else (st.hp m).map (AO.tr (rtf N V d)),
    n := st.n, gl := st.gl }
section
variable {st : St} {N V m : Nm} {d t : Nat} {H' : Nm → Option AO}
@[simp] theorem rtf_eq : rtf N V d m = if Nm.under N m then (if m = N then some N else none) else if Nm.under V m then none else if Nm.under (.s d) m then none else some m := rfl
@[simp] theorem mutc_tm : (st.mutc N V d H').tm t = (st.tm t).tr (rtf N V d) := rfl
@[simp] theorem mutc_gl : (st.mutc N V d H').gl = st.gl := rfl
@[simp] theorem mutc_hp : (st.mutc N V d H').hp m = if Nm.under N m then (if mv V N (Nm.ren N V m) = some m then (H' (Nm.ren N V m)).map (AO.tr (mv V N)) else none) else if Nm.under V m then none else if Nm.under (.s d) m then (H' m).map (AO.tr (mv V N)) else (st.hp m).map (AO.tr (rtf N V d)) := rfl
end
theorem ren_isU {N V : Nm} {x : Nm} (h : Nm.under N x = true) (hne : x ≠ N) : (Nm.ren N V x).isU = false := by
  cases x with
  | s d => simp [Nm.under] at h; exact absurd h hne
  | u a b c => simp [Nm.under] at h; exact absurd h hne
  | c q i j => simp [Nm.ren, hne]
theorem under_s_u {V n : Nm} {d : Nat} (hV : V.isU = true) (h : Nm.under V n = true) : Nm.under (.s d) n = false := by
  cases hx : Nm.under (.s d) n with
  | false => rfl
  | true =>
    have h1 := under_usroot hV h
    have h2 := Nm.sroot_under (a := .s d) rfl hx
    rw [h1] at h2
    cases h2
theorem rtf_comp {N V : Nm} {d : Nat} {Hs : Nm → Option AO} (hV : V.isU = true) (hNV : Nm.under V N = false) (hs : (Hs V).isSome = true) : (fun m => ((mv N V m).bind (cf d (Nm.under V) Hs)).bind (mv V N)) = rtf N V d := by
  funext x
  by_cases hx : Nm.under N x = true
  · have hu : Nm.under V (Nm.ren N V x) = true := Nm.under_ren x hx
    have hsd := under_s_u (d := d) hV hu
    by_cases e : x = N
    · subst e
      simp [hV, hs, Nm.under_self, hsd] at hsd ⊢
      simp [hsd]
    · have := ren_isU (V := V) hx e
      simp [hx, hu, hsd, this, e]
  · simp only [Bool.not_eq_true] at hx
    by_cases hv : Nm.under V x = true
    · simp [hx, hv]
    · simp only [Bool.not_eq_true] at hv
      by_cases hd : Nm.under (.s d) x = true
      · simp [hx, hv, hd]
      · simp only [Bool.not_eq_true] at hd
        simp [hx, hv, hd]
theorem mutc_eq {st : St} {N V : Nm} {d : Nat} {H' : Nm → Option AO} {y : AV} (hV : V.isU = true) (hNV : Nm.under V N = false) (hs : (hsub V (st.move N V).hp V).isSome = true) :
    (((st.move N V).call d (Nm.under V) (hsub V (st.move N V).hp) H').put (some d) y).move V N = (st.mutc N V d H').put (some d) (y.tr (mv V N)) := by
  have hc := rtf_comp (N := N) (d := d) hV hNV hs
  have e1 : ∀ a : AV, ((a.tr (mv N V)).tr (cf d (Nm.under V) (hsub V (st.move N V).hp))).tr (mv V N) = a.tr (rtf N V d) := by
    intro a
    rw [AV.tr_tr (mv N V), AV.tr_tr, ← hc]
  have e2 : ∀ o : AO, ((o.tr (mv N V)).tr (cf d (Nm.under V) (hsub V (st.move N V).hp))).tr (mv V N) = o.tr (rtf N V d) := by
    intro o
    rw [AO.tr_tr (mv N V), AO.tr_tr, ← hc]
  unfold St.move
  simp only [St.nm, St.put, St.mutc]
  congr 1
  · funext t
    by_cases h : t = d
    · simp [h]
    · simp only [h, if_false]
      exact e1 _
  · funext m
    simp only [hmv]
    by_cases h1 : Nm.under N m = true
    · rw [if_pos h1, if_pos h1]
      have hu : Nm.under V (Nm.ren N V m) = true := Nm.under_ren m h1
      simp only [St.call, St.nm, hu, Bool.true_or, if_true]
    · simp only [Bool.not_eq_true] at h1
      simp only [h1, Bool.false_eq_true, if_false]
      by_cases h2 : Nm.under V m = true
      · simp only [h2, if_true]
      · simp only [Bool.not_eq_true] at h2
        simp only [h2, Bool.false_eq_true, if_false, St.call, St.nm, Bool.false_or]
        by_cases h3 : Nm.under (.s d) m = true
        · simp only [h3, if_true]
        · simp only [Bool.not_eq_true] at h3
          simp only [h3, Bool.false_eq_true, if_false, St.nm, St.move, hmv, h2, h1]
          cases st.hp m with
          | none => rfl
          | some o => simp only [Option.map_some]; exact congrArg some (e2 o)
section
variable {X : Ctx} {st : St} {K : St → Prop} {E : AV → St → Prop} {d f : Nat} {ty : TypeId} {pos : String} {aft : Array Edge} {g : Option (Nat × Bool)} {args : Array Operand} {Ts : Array TypeId} {as : List AV} {R : Nm → AV → (Nm → Option AO) → Prop}
theorem x_mutc (N V : Nm) (hV : V.isU = true := by rfl) (hN : N.isU = false := by rfl) (hNV : Nm.under V N = false := by first | (simp; done) | fail) (hext : X.ext V = false) (hs : (hsub V (st.move N V).hp V).isSome = true) (hd : d < X.n := by first | (simp; done) | fail)
    (ha : args.toList.map (ev (st.move N V)) = as := by simp [fx]; first | done | rfl)
    (hF : FnE X.P X.gl f (Nm.under V) as (hsub V (st.move N V).hp) R noE) (h : ∀ y H', R (.s d) y H' → K ((st.mutc N V d H').put (some d) (y.tr (mv V N)))) :
    SemOp X ⟨some d, .call ⟨.value (.func f), args, Ts⟩, ty, pos, aft, g⟩ K E st := by
  refine o_mv N V (.inl hN) (.inr hext) (o_mvPost V N (.inr hext) (.inl hN) ?_)
  refine x_mut V hV (fun e => by rw [hext] at e; cases e) hd ha hF fun y H' hR => ?_
  rw [mutc_eq hV hNV hs]
  exact h y H' hR
end
section
variable {p : Prg} {n : Nm} {i l d a b e : Nat}
@[simp] theorem pRows_rtf (hV : Nm.under (.u a b e) n = false) (hd : Nm.under (.s d) n = false) : (pRows n p).map (fun r => r.map (AV.tr (rtf (.c n i l) (.u a b e) d))) = pRows n p := by
  have hN : Nm.under (.c n i l) n = false := by
    cases h : Nm.under (.c n i l) n with
    | false => rfl
    | true => exact absurd rfl (Nm.under_not_c h).2
  refine pRows_tr fun i' j' _ => ?_
  by_cases h : i' = i ∧ j' = l
  · simp [h.1, h.2]
  · simp [hN, hV, hd, h]
@[simp] theorem pRows_mvself {m : Nm} : (pRows n p).map (fun r => r.map (AV.tr (mv n m))) = pRows m p := pRows_tr (by simp)
end
def markI (n : Nat) (c : Int) : List Int := (List.range n).map (fun i : Nat => c + i)
section
variable {p : Prg} {c : Int} {i j : Nat} {k : Blk} {n : Nm}
@[simp] theorem markI_len {n : Nat} : (markI n c).length = n := by simp [markI]
end
section
variable {X : Ctx} {st : St} {K : St → Prop} {E : AV → St → Prop}
theorem o_abs {o : Oper} (F : St → Prop) (h : F st) (k : ∀ s, F s → SemOp X o K E s) : SemOp X o K E st := k st h
theorem s_abs {ds : List (Option Nat)} {l : List Oper} (F : St → Prop) (h : F st) (k : ∀ s, F s → SemL X ds K E l s) : SemL X ds K E l st := k st h
theorem w_abs {c : Code} {Q : Ex → St → Prop} (F : St → Prop) (h : F st) (k : ∀ s, F s → SemCode X c Q s) : SemCode X c Q st := k st h
end
def fullG (p : Prg) : Prg := if fullOk p = true then fullP p else []
theorem fullG_sml {p : Prg} (hs : Sml p) : Sml (fullG p) := by
  unfold fullG
  split
  · rename_i h
    refine fullP_sml hs ?_
    simp only [fullOk, progOk, Bool.and_eq_true] at h
    exact h.1.1
  · exact ⟨by simp, by simp, by simp⟩
structure BoxP (st : St) (d : Nat) (p : Prg) : Prop where
  tm : st.tm d = .pt (.s d) 0
  hp : st.hp (.s d) = some (.row 1 [[.hs (.c (.s d) 0 0) 4 0 p.length]])
  own : OwnP st.hp (.c (.s d) 0 0) p
end Go.Hm
end
section
namespace Go.Hm
open Go Go.RowKit Go.ChangeShapes Go.WideShapes Go.Deep
def g0 (w : World) : Gh := { C := fun b => b < w.heap.size, φ := fun _ => none, κ := fun _ => 0 }
def ReadsAs {H : Type} (enc : TypeId × Value → H) (P : Program) (w : World) {α : Type} (t : TypeId) (cells : α → List AV) (Ok : α → Prop) : Prop :=
  ∀ (n : Nat) (cs : List Value) (y : DataW H × List MemPlace), DataW.trod enc P w 0 (fun _ => true) true n t cs = some y → (∀ m ∈ y.1.weights P t, m ≤ reachBytes) →
    ∃ x : α, Ok x ∧ (cells x).length = cs.length ∧ ∀ (j : Nat) v a, cs[j]? = some v → (cells x)[j]? = some a → RV (g0 w) w v a ∧ v.oneCell' = true
theorem weightsAll_in {H : Type} {P : Program} {e : TypeId} {d : DataW H} : ∀ {l : List (DataW H)}, d ∈ l → ∀ m ∈ d.weights P e, m ∈ DataW.weightsAll P e l
  | x :: l, h, m, hm => by
    simp only [DataW.weightsAll, List.mem_append]
    rcases List.mem_cons.1 h with rfl | h
    · exact .inl hm
    · exact .inr (weightsAll_in h m hm)
theorem cell_lt {w : World} {a : Addr} {v : Value} (h : w.cell? a = some v) : a.block < w.heap.size ∧ a.spot = none := by
  unfold World.cell? at h
  split at h
  · rename_i c t fr hb
    refine ⟨(Array.getElem?_eq_some_iff.1 hb).1, ?_⟩
    split at h
    · cases h
    · rename_i hs
      cases hsp : a.spot with
      | none => rfl
      | some _ => simp [hsp] at hs
  · cases h
theorem add_plain {a : Addr} (h : a.spot = none) (n : Nat) : a.add n = ⟨a.block, a.off + n, none⟩ := by
  obtain ⟨b, o, s⟩ := a
  obtain rfl : s = none := h
  unfold Addr.add
  split
  · simp_all
  · rfl
section
variable {H : Type} {enc : TypeId × Value → H} {P : Program} {w : World}
theorem rd_slice {t e : TypeId} {z : Nat} {α : Type} [Inhabited α] {cells : α → List AV} {Ok : α → Prop} (ht : P.underlying t = some (.slice e)) (hc : P.cellsOf e = z) (hz : 0 < z) (hby : 0 < P.bytesOf e) (hlen : ∀ x, (cells x).length = z)
    (hr : ReadsAs enc P w e cells Ok) : ReadsAs enc P w t (fun xs : List α => [.sl z (xs.map cells)]) (fun xs => xs.length ≤ 1152921504606846976 ∧ ∀ x ∈ xs, Ok x) := by
  intro n cs y h hw
  rcases open_slice ht h with ⟨rfl, rfl⟩ | ⟨a, len, cap, m, n', D, Pl, rfl, _, hl, _, hm, rfl, hi⟩
  · refine ⟨[], ⟨by simp, by simp⟩, rfl, fun j v x hv hx => ?_⟩
    cases j with
    | zero =>
      simp at hv hx
      subst hv; subst hx
      exact ⟨.slN _ _ _, rfl⟩
    | succ j => simp at hv
  · simp only [if_true] at hm
    subst hm
    have hw0 := hw (((List.map D (List.range len)).length + (List.map (fun j => D (len + j)) (List.range (m - len))).length) * P.bytesOf e) (by simp [DataW.weights, ht])
    have hll : len ≤ 1152921504606846976 := by
      simp only [List.length_map, List.length_range, reachBytes] at hw0
      have : len * 1 ≤ (len + (m - len)) * P.bytesOf e := Nat.mul_le_mul (by omega) hby
      omega
    have hel : ∀ i, i < len → ∃ x : α, Ok x ∧ ∀ j, j < z → ∃ v aa, w.cell? ((a.add (i * z)).add j) = some v ∧ (cells x)[j]? = some aa ∧ RV (g0 w) w v aa ∧ v.oneCell' = true := by
      intro i hil
      obtain ⟨cs', h1, h2⟩ := hi i (by omega)
      rw [hc] at h1
      obtain ⟨_, hcl, hat⟩ := World.cells?_some h1
      obtain ⟨x, hx, hxl, hxr⟩ := hr n' cs' _ h2 (fun q hq => hw q (by
        simp only [DataW.weights, ht, List.mem_cons, List.mem_append]
        exact .inr (.inl (weightsAll_in (List.mem_map.2 ⟨i, List.mem_range.2 hil, rfl⟩) q hq))))
      refine ⟨x, hx, fun j hj => ?_⟩
      have e1 := hat j hj
      have e2 : cs'[j]? = some (cs'[j]'(by omega)) := gE (by omega)
      have e3 : (cells x)[j]? = some ((cells x)[j]'(by rw [hlen]; exact hj)) := gE (by rw [hlen]; exact hj)
      obtain ⟨r1, r2⟩ := hxr j _ _ e2 e3
      exact ⟨_, _, e1.trans e2, e3, r1, r2⟩
    obtain ⟨X, hX⟩ := choose_lt hel
    have hav : ∀ i, i < len → (List.map X (List.range len))[i]? = some (X i) := by
      intro i hi
      simp [hi]
    refine ⟨(List.range len).map X, ⟨by simpa using hll, ?_⟩, rfl, fun j v x hv hx => ?_⟩
    · intro x hx
      obtain ⟨i, hi, rfl⟩ := List.mem_map.1 hx
      exact (hX i (List.mem_range.1 hi)).1
    · cases j with
      | succ j => simp at hv
      | zero =>
        simp only [List.getElem?_cons_zero, Option.some.injEq] at hv hx
        subst hv; subst hx
        refine ⟨?_, rfl⟩
        rcases Nat.eq_zero_or_pos len with rfl | hpos
        · exact .slN _ _ _
        · obtain ⟨v0, _, hc0, _⟩ := (hX 0 hpos).2 0 hz
          obtain ⟨hb, hsp⟩ := cell_lt hc0
          rw [Nat.zero_mul] at hb hsp
          have ha0 : (a.add 0).add 0 = a := by simp [Addr.add]
          rw [ha0] at hb hsp
          obtain ⟨b, off, s⟩ := a
          obtain rfl : s = none := hsp
          have hcell : ∀ i j, (((⟨b, off, none⟩ : Addr).add (i * z)).add j) = ⟨b, off + i * z + j, none⟩ := by
            intro i j
            rw [add_plain (a := ⟨b, off, none⟩) rfl, add_plain rfl]
          refine .slC b off m len z _ (fun i j => (w.cell? ⟨b, off + i * z + j, none⟩).getD undef) hb (by simp) hl ?_ ?_ ?_ ?_
          · intro r hr'
            obtain ⟨x, hx, rfl⟩ := List.mem_map.1 hr'
            exact hlen x
          · intro i j hi hj
            obtain ⟨v, _, h1, _⟩ := (hX i hi).2 j hj
            rw [hcell] at h1
            simp [h1]
          · intro i j hi hj
            obtain ⟨v, _, h1, _, _, h2⟩ := (hX i hi).2 j hj
            rw [hcell] at h1
            simpa [h1] using h2
          · intro i row hrow j aa haa
            have hil : i < len := by
              have := (gS hrow).1
              simpa using this
            simp [hil] at hrow
            subst hrow
            have hjz : j < z := by
              have := (gS haa).1
              rwa [hlen] at this
            obtain ⟨v, a', h1, h2, h3, _⟩ := (hX i hil).2 j hjz
            rw [hcell] at h1
            rw [haa] at h2
            cases h2
            simpa [h1] using h3
end
section
variable {H : Type} {enc : TypeId × Value → H} {P : Program} {w : World}
end
end Go.Hm
end
