/-
  Own texts, joined by mkclaim.py: Hm131, Hm132, Hm133, Hm134, Hm135, Hm136, Hm137, Hm138, Hm139, Hm140, Hm141, Hm142.
-/
import Derived.Test.YtmaoicgfcngciaaGreatDoorR15
import Derived.Lib.Split
import Derived.Lib.ItoaNum
import Derived.Shelf.Strings.Builder1
import Derived.Shelf.Strconv.Itoa3
import Derived.Shelf.Strings.Split
import Derived.WalkSmall
import Derived.Test.YtmaoicgfcngciaaGreatDoorR12
set_option linter.unusedSimpArgs false
set_option linter.unusedVariables false
set_option maxRecDepth 100000
set_option maxHeartbeats 4000000

section
namespace Go.Hm
open Go Go.RowKit
section
variable {s : Stm} {k : Blk} {p q : Prg} {l t w : Txt} {ls ws vs : List Txt} {i n K : Nat}
theorem kindW_in : kindW tIn = none := by decide
theorem rStm_line (hw : kindW w ≠ none) (e : splitL 32 l = w :: ws) : (match rStm w ws with | some (s, []) => some s | _ => none) = readS l := by
  obtain ⟨K, hK⟩ := Option.ne_none_iff_exists'.1 hw
  obtain ⟨h1, h2⟩ := kindW_of hK
  rw [h2]
  refine (rStm_eq h1).trans ?_
  unfold readS
  rw [e]
  simp only [hK]
  cases readNs ws <;> rfl
theorem readS_no (hw : kindW w = none) (e : splitL 32 l = w :: ws) : readS l = none := by
  unfold readS
  rw [e]
  simp only [hw]
theorem rStm_no (hw : kindW w = none) : rStm w ws = none := by
  unfold rStm
  rw [hw]
theorem readH_no (hw : w ≠ tIn) (e : splitL 32 l = w :: ws) : readH l = none := by
  unfold readH
  rw [e]
  split
  · rename_i a b c d e'
    injection e' with e1 e2
    subst e1
    rw [if_neg hw]
  · rfl
theorem head_line (e : splitL 32 l = tIn :: ws) : readH l = (match rHead ws with | some (k, []) => some k | _ => none) ∨ ((match rHead ws with | some (k, []) => some k | _ => none) = none ∧ ∃ k, readH l = some k ∧ 2 ≤ k.params.length) := by
  unfold readH rHead
  rw [e]
  rcases ws with _ | ⟨a, _ | ⟨b, ws⟩⟩
  · left; rfl
  · left
    cases ha : smallN a <;> simp [rNum, ha]
  · cases ha : smallN a with
    | none => left; simp [rNum, ha]
    | some x =>
      simp only [rNum, ha, if_true, Option.map_some]
      by_cases h1 : b = tFun
      · subst h1
        have hne : ¬ tFun = tClass := by decide
        simp only [hne, false_and, if_false, if_true]
        rcases ws with _ | ⟨c, _ | ⟨d, ws⟩⟩
        · left; simp [readNs_nil]
        · left
          cases hc : smallN c <;> simp [readNs_cons, readNs_nil, hc]
        · cases hr : readNs (c :: d :: ws) with
          | none =>
            left
            cases hc : smallN c <;> simp
          | some ns =>
            right
            have hlen : ns.length = (c :: d :: ws).length := by rw [(map_small hr).1]; simp
            refine ⟨?_, _, rfl, by simp [hlen]⟩
            cases hc : smallN c <;> simp
      · by_cases h2 : b = tClass
        · subst h2
          have hne : ¬ tClass = tFun := by decide
          cases ws <;> simp [hne]
        · left
          simp [h1, h2]
theorem lineI_eq : lineI p l = addLine p l ∨ (lineI p l = none ∧ ∃ k, addLine p l = some (p ++ [k]) ∧ 2 ≤ k.params.length) := by
  cases e : splitL 32 l with
  | nil => exact absurd e splitL_ne
  | cons w ws =>
    unfold lineI addLine
    rw [e]
    simp only
    by_cases hw : w = tIn
    · subst hw
      rw [if_pos rfl]
      have hS := readS_no kindW_in e
      rcases head_line e with h | ⟨h1, k, h2, h3⟩
      · left
        rw [h]
        cases rHead ws with
        | none => simp [hS]
        | some x =>
          obtain ⟨k, v⟩ := x
          cases v <;> simp [hS]
      · right
        rw [h2]
        refine ⟨?_, k, rfl, h3⟩
        cases hx : rHead ws with
        | none => rfl
        | some x =>
          obtain ⟨k, v⟩ := x
          rw [hx] at h1
          cases v with
          | nil => cases h1
          | cons _ _ => rfl
    · left
      rw [if_neg hw, readH_no hw e]
      simp only
      by_cases hk : kindW w = none
      · rw [rStm_no hk, readS_no hk e]
        rfl
      · rw [← rStm_line hk e]
        cases rStm w ws with
        | none => rfl
        | some x =>
          obtain ⟨s, v⟩ := x
          cases v <;> rfl
def Wide (p : Prg) : Prop := ∃ k ∈ p, 2 ≤ k.params.length
theorem wide_put (h : Wide p) : Wide (putS p s) := by
  obtain ⟨k, hk, h2⟩ := h
  obtain ⟨i, hi⟩ := List.getElem?_of_mem hk
  unfold putS
  have : (p.modify (p.length - 1) fun k => { k with body := k.body ++ [s] })[i]? = some (if p.length - 1 = i then { k with body := k.body ++ [s] } else k) := by
    rw [List.getElem?_modify, hi]
    split <;> rfl
  refine ⟨_, List.mem_of_getElem? this, ?_⟩
  split
  · exact h2
  · exact h2
theorem wide_parse : ∀ {ls : List Txt} {p : Prg}, Wide p → parseL ls p = some q → Wide q
  | [], p, hp, h => by
    rw [parseL] at h
    obtain rfl := Option.some.inj h
    exact hp
  | l :: ls, p, hp, h => by
    rw [parseL] at h
    cases ha : addLine p l with
    | none => rw [ha] at h; cases h
    | some r =>
      rw [ha] at h
      refine wide_parse (ls := ls) (p := r) ?_ h
      unfold addLine at ha
      cases hh : readH l with
      | some k =>
        rw [hh] at ha
        obtain rfl := Option.some.inj ha
        obtain ⟨g, hg, h2⟩ := hp
        exact ⟨g, List.mem_append_left _ hg, h2⟩
      | none =>
        rw [hh] at ha
        obtain ⟨s, _, rfl⟩ := Option.map_eq_some_iff.1 ha
        exact wide_put hp
theorem wide_bad (h : Wide p) : progOk p = false := by
  cases e : progOk p with
  | false => rfl
  | true =>
    exfalso
    simp only [progOk, Bool.and_eq_true] at e
    obtain ⟨h1, h2, h3, h4, _⟩ := shapeOk_heads e.1
    obtain ⟨k, hk, hl⟩ := h
    obtain ⟨i, hi⟩ := List.getElem?_of_mem hk
    have := (blkOk_head hi (List.all_eq_true.1 h4 i (List.mem_range.2 (gS hi).1))).1
    unfold HeadOk at this
    split at this <;> omega
theorem parseI_eq : ∀ {ls : List Txt} {p : Prg}, parseI ls p = parseL ls p ∨ (parseI ls p = none ∧ ∀ q, parseL ls p = some q → Wide q)
  | [], p => .inl rfl
  | l :: ls, p => by
    rw [parseI, parseL]
    rcases lineI_eq (p := p) (l := l) with h | ⟨h, k, h2, h3⟩
    · rw [h]
      cases addLine p l with
      | none => exact .inl rfl
      | some r => exact parseI_eq (ls := ls) (p := r)
    · rw [h, h2]
      exact .inr ⟨rfl, fun q hq => wide_parse ⟨k, by simp, h3⟩ hq⟩
def parseTI (s : Txt) : Option Prg := if (splitL 10 s).getLast? = some [] then match parseI (splitL 10 s).dropLast prg0 with
  | some p => if progOk p = true then some p else none
  | none => none else none
theorem parseTI_eq : parseTI t = parseT t := by
  unfold parseTI parseT
  by_cases hl : (splitL 10 t).getLast? = some []
  · rw [if_pos hl]
    simp only [hl, true_and]
    rcases parseI_eq (ls := (splitL 10 t).dropLast) (p := prg0) with h | ⟨h, h2⟩
    · rw [h]
      try (cases parseL (splitL 10 t).dropLast prg0 <;> rfl)
    · rw [h]
      cases e : parseL (splitL 10 t).dropLast prg0 with
      | none => rfl
      | some q =>
        simp only
        rw [wide_bad (h2 q e)]
        simp
  · rw [if_neg hl]
    cases parseL (splitL 10 t).dropLast prg0 <;> simp [hl]
end
end Go.Hm
end
section
namespace Go.Hm
open Go Go.RowKit
def endTx : List Txt := [[100, 111, 110, 101], [102, 117, 101, 108], [117, 110, 98, 111, 117, 110, 100], [102, 114, 101, 101], [110, 97, 109, 101], [116, 121, 112, 101], [97, 114, 103, 115], [97, 116, 116, 114]]
def tWrong : Txt := [119, 114, 111, 110, 103]
def runLines (p : Prg) (f : Nat) : List Txt := (meantW p f).out.map numI ++ [endTx.getD (meantW p f).en.toNat []]
def runText (s : Txt) (f : Int) : Txt := if 0 ≤ f ∧ f ≤ 150 then match parseT s with
  | some p => linesL 10 (runLines p f.toNat)
  | none => linesL 10 [tWrong] else []
abbrev bt (l : Txt) : ByteArray := ⟨l.toArray⟩
abbrev tx (l : Txt) : AV := .sc (.string (bt l))
section
variable {a b l : Txt} {i j : Nat}
@[simp] theorem bt_size : (bt l).size = l.length := by simp [ByteArray.size]
@[simp] theorem bt_app : bt a ++ bt b = bt (a ++ b) := by
  apply ByteArray.ext
  simp [ByteArray.data_append]
@[simp] theorem bt_extract : (bt l).extract i j = bt ((l.drop i).take (j - i)) := by
  apply ByteArray.ext
  simp [ByteArray.data_extract]
end
end Go.Hm
end
section
namespace Go.Hm
open Go Go.RowKit
section
variable {c : UInt8} {l m : Txt} {n : Nat}
theorem numN_dec : ∀ n : Nat, numN n = Lib.decDigits n
  | n => by
    rw [numN, Lib.decDigits]
    split
    · rfl
    · rw [numN_dec (n / 10)]
      rfl
theorem numI_dec {n : Int} : numI n = Lib.itoa n := by
  unfold numI Lib.itoa
  split
  · rw [numN_dec]
  · rw [numN_dec]
    congr 1
    omega
theorem index_no (h : c ∉ l) : Lib.index l [c] = -1 := by
  rw [Lib.index_one]
  induction l with
  | nil => rfl
  | cons x l ih =>
    simp only [List.mem_cons, not_or] at h
    have := ih h.2
    rw [Lib.indexByte, if_neg (by simpa using fun e => h.1 e.symm), this]
    rfl
theorem index_at (h : c ∉ l) : Lib.index (l ++ c :: m) [c] = l.length := by
  rw [Lib.index_one]
  induction l with
  | nil => simp [Lib.indexByte]
  | cons x l ih =>
    simp only [List.mem_cons, not_or] at h
    have := ih h.2
    rw [List.cons_append, Lib.indexByte, if_neg (by simpa using fun e => h.1 e.symm), this]
    rw [if_neg (by simp)]
    simp
theorem splitK_eq : ∀ (n : Nat) (l : Txt), l.length ≤ n → Lib.splitK [c] 0 (Lib.count l [c]) l = splitL c l
  | n, l, hn => by
    by_cases h : c ∈ l
    · obtain ⟨a, b, rfl, ha⟩ := List.eq_append_cons_of_mem h
      have hi := index_at (m := b) ha
      rw [Lib.count_hit (by simp) hi, Nat.add_comm 1, Lib.splitK, if_neg (by rw [hi]; simp), hi, splitL_app ha]
      have e1 : ((a.length : Int)).toNat = a.length := by omega
      have e2 : (a ++ c :: b).drop (a.length + [c].length) = b := by
        rw [List.drop_append, List.drop_eq_nil_of_le (by simp)]
        simp
      simp only [e1, Nat.add_zero]
      rw [e2]
      congr 1
      · simp
      · match n, hn with
        | 0, hn => simp at hn
        | n + 1, hn => exact splitK_eq n b (by simp at hn; omega)
    · rw [Lib.count_miss (index_no h), splitL_one h]
      rfl
theorem splitB_eq : Lib.splitB (bt [c]) 0 (Lib.countB (bt l) (bt [c])) (bt l) = (splitL c l).map bt := by
  have h := Lib.splitB_data (bt [c]) 0 (Lib.countB (bt l) (bt [c])) (bt l)
  have h2 : Lib.splitK [c] 0 (Lib.count l [c]) l = splitL c l := splitK_eq l.length l (Nat.le_refl _)
  have h3 : (Lib.splitB (bt [c]) 0 (Lib.countB (bt l) (bt [c])) (bt l)).map (fun x => x.data.toList) = splitL c l := h.trans h2
  rw [← h3, List.map_map]
  conv => lhs; rw [← List.map_id (Lib.splitB _ _ _ _)]
  apply List.map_congr_left
  intro x _
  apply ByteArray.ext
  simp
theorem splitB_len : Lib.countB (bt l) (bt [c]) + 1 = (splitL c l).length := by
  have key : ∀ (n : Nat) (l : Txt), l.length ≤ n → Lib.count l [c] + 1 = (splitL c l).length := by
    intro n
    induction n with
    | zero =>
      intro l hn
      obtain rfl := List.eq_nil_of_length_eq_zero (Nat.le_zero.1 hn)
      rfl
    | succ n ih =>
      intro l hn
      by_cases h : c ∈ l
      · obtain ⟨a, b, rfl, ha⟩ := List.eq_append_cons_of_mem h
        have hi := index_at (m := b) ha
        have e2 : (a ++ c :: b).drop (a.length + [c].length) = b := by
          rw [List.drop_append, List.drop_eq_nil_of_le (by simp)]
          simp
        rw [Lib.count_hit (by simp) hi, e2, splitL_app ha, List.length_cons, ← ih b (by simp at hn; omega)]
        omega
      · rw [Lib.count_miss (index_no h), splitL_one h]
        rfl
  exact key l.length l (Nat.le_refl _)
end
def xrows (ws : List Txt) : List (List AV) := ws.map fun w => [tx w]
section
variable {ws : List Txt} {i n : Nat} {f : Nm → Option Nm}
@[simp] theorem xrows_len : (xrows ws).length = ws.length := by simp [xrows]
@[simp] theorem xrows_get : (xrows ws)[i]? = (ws[i]?).map fun w => [tx w] := by simp [xrows]
@[simp] theorem xrows_getE {h : i < (xrows ws).length} : (xrows ws)[i] = [tx (ws[i]'(by simpa using h))] := by simp [xrows]
@[simp] theorem xrows_tr : (xrows ws).map (fun r => r.map (AV.tr f)) = xrows ws := by simp [xrows]
@[simp] theorem xrows_take : (xrows ws).take n = xrows (ws.take n) := by simp [xrows]
@[simp] theorem xrows_drop : (xrows ws).drop n = xrows (ws.drop n) := by simp [xrows]
theorem xrows_uni : ∀ r ∈ xrows ws, r.length = 1 := by simp [xrows]
@[simp] theorem xrows_nil : xrows [] = [] := rfl
abbrev xsl (ws : List Txt) : AV := .sl 1 (xrows ws)
end
theorem gl_cell {g : Gh} {w : World} {i : Nat} {v : Value} (h : RV g w (.pointer (some ⟨i, 0, none⟩)) (.el [.sc v] 0)) : w.cell? ⟨i, 0, none⟩ = some v := by
  generalize hp : Value.pointer (some ⟨i, 0, none⟩) = p at h
  cases h with
  | el b o off row f hC hcell ho hr =>
    have hb : b = i ∧ o = 0 := by
      injection hp with hp
      injection hp with hp
      injection hp with h1 h2 _
      omega
    obtain ⟨rfl, rfl⟩ := hb
    have h1 := hcell 0 (by simp)
    have h2 := (hr 0 (.sc v) rfl).sc_eq
    rw [h1, h2]
theorem texts_ok {P : Program} {gl : Nat → Option (List AV)} {f : FuncId} {az : List AV} {vs : List Value} {ws : List Txt} {T : TypeId} (hc : Callable P f) (has : az = vs.map .sc)
    (h : ∀ (w : World), (∀ i v, gl i = some [.sc v] → w.cell? ⟨i, 0, none⟩ = some v) → Calls P f vs.toArray w fun e w' => e = .returned (.slice (some ⟨w.heap.size, 0, none⟩) ws.length ws.length) ∧ w' = w.alloc (.cells (ws.map fun x => Value.string (bt x)).toArray T)) :
    FnOk P gl f az (fun _ y _ => y = xsl ws) := by
  subst has
  refine ⟨hc, fun root C w g args _ _ _ hinv hgl hsz hargs => ?_⟩
  have ha : args = vs.toArray := by
    apply Array.ext
    · simpa using hsz
    · intro j h1 h2
      have h3 : j < vs.length := by simpa using h2
      have := (hargs j args[j] (.sc vs[j]) (Array.getElem?_eq_getElem h1) (by simp [h3])).sc_eq
      simpa using this
  subst ha
  refine (h w fun i v e => gl_cell (hgl i _ e).1.1).mono fun e w' he => ?_
  obtain ⟨rfl, rfl⟩ := he
  have hold : ∀ b, b < w.heap.size → (w.alloc (.cells (ws.map fun x => Value.string (bt x)).toArray T)).heap[b]? = w.heap[b]? := fun b hb => alloc_old _ hb
  have hnew : (w.alloc (.cells (ws.map fun x => Value.string (bt x)).toArray T)).heap[w.heap.size]? = some (.cells (ws.map fun x => Value.string (bt x)).toArray T) := by
    exact heap_alloc_new w _
  have hsz' : (w.alloc (.cells (ws.map fun x => Value.string (bt x)).toArray T)).heap.size = w.heap.size + 1 := by simp
  refine ⟨fun b => C b ∨ b = w.heap.size, g.more (fun b => C b ∨ b = w.heap.size), noH, xsl ws, ⟨fun b hb => .inl hb, fun b hb => ?_, ⟨rfl, rfl, rfl, ?_, fun b hb _ => hold b hb, rfl, fun b hb => ?_, fun _ _ e => (by cases e), fun _ _ _ e => (by cases e), fun _ _ _ _ _ e => (by cases e)⟩, fun _ e => absurd rfl e, fun _ _ _ => ⟨rfl, rfl⟩, fun _ _ _ _ => ⟨rfl, rfl⟩⟩, ?_, rfl⟩
  · rcases hb with hb | rfl
    · exact .inl hb
    · exact .inr (.inl (Nat.le_refl _))
  · rw [hsz']; omega
  · rw [hsz']
    rcases hb with hb | rfl
    · have := hinv.clt b hb; omega
    · omega
  · refine .slC w.heap.size 0 ws.length ws.length 1 (xrows ws) (fun i _ => Value.string (bt (ws.getD i []))) (.inr rfl) (by simp) (Nat.le_refl _) xrows_uni ?_ ?_ ?_
    · intro i j hi hj
      obtain rfl : j = 0 := by omega
      simp only [World.cell?, hnew]
      simp [hi]
    · intro i j _ _
      rfl
    · intro i row hrow j a ha
      rw [xrows_get] at hrow
      obtain ⟨x, hx, rfl⟩ := Option.map_eq_some_iff.1 hrow
      match j, ha with
      | 0, ha =>
        obtain rfl := Option.some.inj ha
        simp only [List.getD_eq_getElem?_getD, hx, Option.getD_some]
        exact .sc _
end Go.Hm
end
section
namespace Go.Hm
open Go Go.RowKit Go.Proofs Go.Shelf
section
variable {P : Program} {w : World}
theorem owns0 {base : Nat} {e : TypeId} {v : Value} {n : Nat} {xs : List Value} (h : w.ownsRow base e 1 v n xs) : w.ownsRow 0 e 1 v n xs := by
  refine ⟨h.1, ?_⟩
  rcases h.2 with h | ⟨g, cap, cur, a1, _, a3⟩
  · exact .inl h
  · exact .inr ⟨g, cap, cur, a1, Nat.zero_le _, a3⟩
theorem run_app_str (w : World) (t u ty e : TypeId) (i : TypeInfo) (ht : P.underlying t = some (.slice e)) (hu : P.underlying u = some .string) (hi : P.info? e = some i) (hz : i.zero = some (.int .u8 0))
    (hsize : i.size = 1) (hby : i.bytes = 1) (v : Value) (n : Nat) (xs : List Value) (hown : w.ownsRow 0 e 1 v n xs) (s : ByteArray) (h63 : n + s.size ≤ maxLen) (hbytes : n + s.size ≤ 140737488355328) :
    ∃ v' w', (Builtin.append_ #[t, u] ty #[v, .string s]).run P w = .ok v' w' ∧ w'.ownsRow 0 e 1 v' (n + s.size) (xs ++ Lib.strCells s) ∧ w.grownBy w' v.ownBlock ∧ (v'.ownBlock = v.ownBlock ∨ ∃ g, v'.ownBlock = some g ∧ w.heap.size ≤ g) := by
  have hxl : xs.length = n := by simpa using hown.1
  rcases hown.2 with ⟨rfl, rfl⟩ | ⟨g, cap, cur, rfl, hbg, hg, hnc, hcm, hcs, htake⟩
  · have hx : xs = [] := List.eq_nil_of_length_eq_zero hxl
    subst hx
    obtain ⟨v', w', h1, h2, h3, h4⟩ := Lib.run_append_own_string (P := P) w w.heap.size t u ty e i ht hu hi hz hsize hby (.slice none 0 0) 0 [] (World.ownsRow_nil w _ e 1) s h63 hbytes (Nat.le_refl _)
    refine ⟨v', w', h1, owns0 h2, h3, ?_⟩
    rcases h2.2 with ⟨rfl, _⟩ | ⟨g, cap, cur, rfl, hbg, _⟩
    · exact .inl rfl
    · exact .inr ⟨g, rfl, hbg⟩
  · obtain ⟨v', w', h1, h2, h3, h4⟩ := Lib.run_append_own_string (P := P) w 0 t u ty e i ht hu hi hz hsize hby _ n xs hown s h63 hbytes (Nat.zero_le _)
    refine ⟨v', w', h1, h2, h3, ?_⟩
    by_cases hroom : n + s.size ≤ cap
    · have hcs1 : n + s.size ≤ cur.size := by
        have : cur.size = cap := by simpa using hcs
        omega
      have hr := Lib.run_append_room_string (P := P) w t u ty e i ht hu hi hsize g n cap cur hg s hroom hcs1
      rw [hr] at h1
      injection h1 with e1 e2
      exact .inl (by rw [← e1]; rfl)
    · have holds : ∀ j u, xs[j]? = some u → w.cell? ((⟨g, 0, none⟩ : Addr).add j) = some u := hown.cells (g := g) rfl
      have hr := Lib.run_append_grow_string (P := P) w t u ty e i (.int .u8 0) ht hu hi hz ⟨g, 0, none⟩ n cap xs (by rw [hsize]; simpa using hxl) holds s (by omega) (by unfold maxLen at h63; omega) (by rw [hby]; exact growslice_fits (by omega) (by omega))
      rw [hr] at h1
      injection h1 with e1 e2
      exact .inr ⟨w.heap.size, by rw [← e1]; rfl, Nat.le_refl _⟩
theorem wpList_app_str {ops : Array Oper} {rest : List Oper} {o : Oper} {a : Go.Act} {Q : Exit → Go.Act → World → Prop} (hgd : o.guard = none) (sl x : Operand) (t u : TypeId)
    (ho : o.op = .call { callee := .builtin .append, args := #[sl, x], argTypes := #[t, u] })
    (e : TypeId) (i : TypeInfo) (ht : P.underlying t = some (.slice e)) (hu : P.underlying u = some .string) (hi : P.info? e = some i) (hz : i.zero = some (.int .u8 0))
    (hsize : i.size = 1) (hby : i.bytes = 1)
    (v : Value) (n : Nat) (xs : List Value) (hs : a.eval sl = v) (hown : w.ownsRow 0 e 1 v n xs) (s : ByteArray) (hx : a.eval x = .string s)
    (h63 : n + s.size ≤ maxLen) (hbytes : n + s.size ≤ 140737488355328)
    (h : ∀ v' w', w'.ownsRow 0 e 1 v' (n + s.size) (xs ++ Lib.strCells s) → w.grownBy w' v.ownBlock → (v'.ownBlock = v.ownBlock ∨ ∃ g, v'.ownBlock = some g ∧ w.heap.size ≤ g) → wpList P ops Q rest (a.put o.dst v') w') : wpList P ops Q (o :: rest) a w := by
  refine wpList_plain hgd fun K hK => ?_
  obtain ⟨v', w', hr, h2, h3, h4⟩ := run_app_str (P := P) w t u o.type e i ht hu hi hz hsize hby v n xs hown s h63 hbytes
  unfold Oper.wp execOp
  simp only [ho, resolve, invoke, builtin, Sem.run_bind, Sem.run_pure, Result.andThen_ok, List.map_toArray, List.map_cons, List.map_nil, hs, hx, hr]
  exact hK _ _ (h v' w' h2 h3 h4)
end
section
variable {P : Program} {ρ : Ren}
structure Wrote (P : Program) (ρ : Ren) (w w' : World) (b : Nat) (v : Value) (bs : List Value) (s : ByteArray) (v' : Value) : Prop where
  top : w'.heap[b]? = some (.cells #[.pointer (some ⟨b, 0, none⟩), v'] (ρ.t 72) (0, 0))
  own : w'.ownsRow 0 (ρ.t 5) 1 v' (bs.length + s.size) (bs ++ Lib.strCells s)
  ne : v'.ownBlock ≠ some b
  blk : v'.ownBlock = v.ownBlock ∨ ∃ g, v'.ownBlock = some g ∧ w.heap.size ≤ g
  os : w'.os = w.os
  tape : w'.tape = w.tape
  output : w'.output = w.output
  size : w.heap.size ≤ w'.heap.size
  keep : ∀ k, k < w.heap.size → k ≠ b → v.ownBlock ≠ some k → w'.heap[k]? = w.heap[k]?
set_option maxHeartbeats 2000000 in
set_option maxRecDepth 100000 in
theorem wstr_raw (L : Lays.n166 P ρ) (X : Builder.Extra P ρ) (b : Nat) (p v : Value) (bs : List Value) (s : ByteArray) (w : World) (hbk0 : w.heap[b]? = some (.cells #[p, v] (ρ.t 72) (0, 0)))
    (hp : p = .pointer none ∨ p = .pointer (some ⟨b, 0, none⟩)) (hown0 : w.ownsRow 0 (ρ.t 5) 1 v bs.length bs) (hne0 : v.ownBlock ≠ some b) (hlen : bs.length + s.size ≤ 140737488355328) :
    Calls P (ρ.f 166) #[.pointer (some ⟨b, 0, none⟩), .string s] w fun e w' => e = .returned (.tuple #[.int .i64 s.size, .nilIface]) ∧ ∃ v', Wrote P ρ w w' b v bs s v' := by
  obtain ⟨i0, hi, hz0, hz1, hz2⟩ := info_parts X.infoByte
  have mixed := L.mixed
  have t72 := L.t72; have a72 := L.a72; have z72 := L.z72; have v72 := L.v72; have u72 := run_underlying L.t72
  have t70 := L.t70; have a70 := L.a70; have z70 := L.z70; have v70 := L.v70; have u70 := run_underlying L.t70
  have t37 := L.t37; have a37 := L.a37; have z37 := L.z37; have v37 := L.v37; have u37 := run_underlying L.t37
  have t3 := L.t3; have a3 := L.a3; have z3 := L.z3; have v3 := L.v3; have u3 := run_underlying L.t3
  have t9 := L.t9; have a9 := L.a9; have z9 := L.z9; have v9 := L.v9; have u9 := run_underlying L.t9
  have t4 := L.t4; have a4 := L.a4; have z4 := L.z4; have v4 := L.v4; have u4 := run_underlying L.t4
  have t164 := L.t164; have a164 := L.a164; have z164 := L.z164; have v164 := L.v164; have u164 := run_underlying L.t164
  have t5 := X.t5; have a5 := X.a5; have z5 := X.z5; have v5 := X.v5; have u5 := run_underlying X.t5
  have e240 : ∀ args w, (callFunc (ρ.f 240) args).run P w = .ok (.enter (ρ.f 240) args) w := enters_of L.f240 (by kernel_rfl) rfl
  have hlt0 : b < w.heap.size := by
    rcases Nat.lt_or_ge b w.heap.size with h' | h'
    · exact h'
    · simp [Array.getElem?_eq_none h'] at hbk0
  have hcc : Calls P (ρ.f 240) #[.pointer (some ⟨b, 0, none⟩)] w fun e w1 => e = .returned (.tuple #[]) ∧ w1.heap[b]? = some (.cells #[.pointer (some ⟨b, 0, none⟩), v] (ρ.t 72) (0, 0)) ∧ w1.os = w.os ∧ w1.tape = w.tape ∧ w1.output = w.output ∧ w1.heap.size = w.heap.size ∧ ∀ k, k ≠ b → w1.heap[k]? = w.heap[k]? := by
    have hB : Lib.BuilderAt (ρ.t 72) (ρ.t 5) 0 b p bs w := ⟨Nat.zero_le _, v, hbk0, hown0, hne0⟩
    rcases hp with rfl | rfl
    · refine (Any.Builder_copyCheck_fresh { L with } X.toX72 b w hB.cell0 hB.shape hB.frozen0).mono ?_
      rintro e w' ⟨rfl, rfl⟩
      refine ⟨rfl, ?_, rfl, rfl, rfl, ?_, fun k hk => ?_⟩
      · simp [World.setCell, Array.getElem?_modify, hbk0]
      · simp [World.setCell]
      · exact Below.heap_setCell _ _ _ _ (fun e => hk (by simp [e]))
    · refine (Any.Builder_copyCheck_used { L with } X.toX72 b w hB.cell0).mono ?_
      rintro e w' ⟨rfl, rfl⟩
      exact ⟨rfl, hbk0, rfl, rfl, rfl, rfl, fun _ _ => rfl⟩
  go_enter L.f166, Body.n166_ntmps ρ
  go_wp2_with (go_at_fn (ρ.f 240); refine hcc.mono ?_)
  rintro e w1 ⟨rfl, hbk, o1, o2, o3, o4, o5⟩
  have hown : w1.ownsRow 0 (ρ.t 5) 1 v bs.length bs := by
    refine ⟨hown0.1, ?_⟩
    rcases hown0.2 with h | ⟨g, cap, cur, rfl, a2, a3, a4⟩
    · exact .inl h
    · refine .inr ⟨g, cap, cur, rfl, a2, ?_, a4⟩
      rw [o5 g (fun e => hne0 (by rw [e]; rfl))]
      exact a3
  have c0 : w1.cell? ⟨b, 0, none⟩ = some (.pointer (some ⟨b, 0, none⟩)) := by rw [Lib.cell_of_heap hbk]; rfl
  have c1 : w1.cell? ⟨b, 1, none⟩ = some v := by rw [Lib.cell_of_heap hbk]; rfl
  go_wp2_with (at_builtin; refine wpList_app_str rfl _ _ (ρ.t 37) (ρ.t 9) rfl (ρ.t 5) i0 L.t37 L.t9 hi hz0 hz1 hz2 _ _ _ rfl hown s rfl ?c3 ?c4 ?_)
  case c3 => unfold maxLen; omega
  case c4 => omega
  intro v' w2 hown' hgrow hfr
  have hlt : b < w1.heap.size := by omega
  have hb2 : w2.heap[b]? = some (.cells #[.pointer (some ⟨b, 0, none⟩), v] (ρ.t 72) (0, 0)) := by
    rw [hgrow.block b hlt (fun e => hne0 e.symm)]
    exact hbk
  have d0 : w2.cell? ⟨b, 0, none⟩ = some (.pointer (some ⟨b, 0, none⟩)) := by rw [Lib.cell_of_heap hb2]; rfl
  have d1 : w2.cell? ⟨b, 1, none⟩ = some v := by rw [Lib.cell_of_heap hb2]; rfl
  have f1 : w2.frozen? ⟨b, 1, none⟩ = false := Lib.frozen_of_heap hb2 1
  obtain ⟨ao, n', cap, rfl⟩ : ∃ ao n' cap, v' = .slice ao n' cap := by
    rcases hown'.2 with ⟨hv, _⟩ | ⟨g, cap, cur, hv, _⟩
    · exact ⟨_, _, _, hv⟩
    · exact ⟨_, _, _, hv⟩
  go_wp2
  go_ret2
  have hne := Lib.ownBlock_ne hown' hb2 X.neB5
  have hset : ∀ k, k ≠ b → (w2.setCell ⟨b, 1, none⟩ (.slice ao n' cap)).heap[k]? = w2.heap[k]? := fun k hk => Below.heap_setCell _ _ _ _ (fun e => hk (by simp [e]))
  refine ⟨rfl, _, ?_, ?_, hne, ?_, ?_, ?_, ?_, ?_, ?_⟩
  · simp [World.setCell, Array.getElem?_modify, hb2]
  · exact hown'.kept (row := some b) ⟨rfl, rfl, rfl, by simp [World.setCell], fun k _ hk => hset k (fun e => hk (by simp [e]))⟩ (Or.inr hne)
  · exact hfr
  · exact hgrow.os.trans o1
  · exact hgrow.tape.trans o2
  · exact hgrow.output.trans o3
  · have := hgrow.size
    simp [World.setCell]
    omega
  · intro k hk hkb hkv
    rw [hset k hkb, hgrow.block k (by omega) (fun e => hkv e.symm), o5 k hkb]
end
end Go.Hm
end
section
namespace Go.Hm
open Go Go.RowKit Go.Proofs Go.Shelf
def bcells (l : Txt) : List Value := l.map fun c => Value.int .u8 c.toNat
def byrows (l : Txt) : List (List AV) := l.map fun c => [.sc (.int .u8 c.toNat)]
def bldH (V : Nm) (T e : TypeId) (a : AV) (l : Txt) : Nm → Option AO := fun n => if n = V then some (.trow T 2 true [[a, .hs (.c V 0 1) 1 0 l.length]]) else if n = .c V 0 1 then some (.trow e 1 false (byrows l)) else none
section
variable {V : Nm} {T e : TypeId} {a : AV} {l s : Txt} {g : Gh} {w : World}
@[simp] theorem bcells_len : (bcells l).length = l.length := by simp [bcells]
@[simp] theorem byrows_len : (byrows l).length = l.length := by simp [byrows]
theorem bcells_app : bcells (l ++ s) = bcells l ++ bcells s := by simp [bcells]
theorem c_ne {i j : Nat} : Nm.c V i j ≠ V := Nm.not_under_c (Nm.under_self V)
@[simp] theorem bldH_V : bldH V T e a l V = some (.trow T 2 true [[a, .hs (.c V 0 1) 1 0 l.length]]) := by simp [bldH]
@[simp] theorem bldH_b : bldH V T e a l (.c V 0 1) = some (.trow e 1 false (byrows l)) := by simp [bldH, c_ne]
theorem bldH_ne {n : Nm} (h : bldH V T e a l n ≠ none) : n = V ∨ n = .c V 0 1 := by
  unfold bldH at h
  split at h
  · exact .inl (by assumption)
  · split at h
    · exact .inr (by assumption)
    · exact absurd rfl h
def BldAt (H : Nm → Option AO) (V : Nm) (T e : TypeId) (l : Txt) : Prop :=
  (l = [] ∧ H V = some (.trow T 2 true [[.sc (.pointer none), .sc (.slice none 0 0)]])) ∨
  (l ≠ [] ∧ H V = some (.trow T 2 true [[.pt V 0, .hs (.c V 0 1) 1 0 l.length]]) ∧ H (.c V 0 1) = some (.trow e 1 false (byrows l)))
theorem owns_of {v : Value} (hv : RV g w v (.hs (.c V 0 1) 1 0 l.length)) (ho : OAt g w (.c V 0 1) (.trow e 1 false (byrows l))) : w.ownsRow 0 e 1 v l.length (bcells l) ∧ v.ownBlock = g.φ (.c V 0 1) := by
  generalize hn : l.length = len at hv
  refine ⟨⟨by simp [hn], ?_⟩, ?_⟩
  · cases hv with
    | hsN _ _ hk => exact .inl ⟨rfl, rfl⟩
    | hsB _ _ _ _ b cap ad hk h1 h2 h3 =>
      right
      subst hn
      simp only [OAt, hk] at ho
      obtain ⟨⟨cur, c1, c2, c3, c4, c5, c6, c7⟩, _, c8⟩ := ho
      have hc8 := c8 trivial
      have hcap : cap = g.κ (.c V 0 1) := by omega
      have had := h3 (by omega)
      rw [Nat.zero_mul] at had
      refine ⟨b, cap, cur, by rw [had], Nat.zero_le _, c1, h1, by omega, by rw [hcap]; exact c2, ?_⟩
      apply List.ext_getElem?
      intro i
      rw [List.getElem?_take, Nat.mul_one]
      by_cases hi : i < l.length
      · rw [if_pos hi]
        have h4 := (c7 i [.sc (.int .u8 l[i].toNat)] (by simp [byrows, hi]) 0 _ rfl).sc_eq
        have hlt : i < cur.size := by rw [c2]; omega
        simp only [Nat.mul_one, Nat.add_zero, Array.getD_eq_getD_getElem?, Array.getElem?_eq_getElem hlt, Option.getD_some] at h4
        simp [hlt, h4, bcells, hi]
      · rw [if_neg hi]
        simp [bcells, hi]
  · cases hv with
    | hsN _ _ hk => rw [hk]; rfl
    | hsB _ _ _ _ b cap ad hk h1 h2 h3 =>
      simp only [OAt, hk] at ho
      have hc8 := ho.2.2 trivial
      have had := h3 (by omega)
      rw [hk, had]
      rfl
theorem owns_to {v : Value} {b : Nat} (hk : v.ownBlock = g.φ (.c V 0 1)) (hcap : ∀ ad n cap, v = .slice ad n cap → g.κ (.c V 0 1) = cap) (h : w.ownsRow 0 e 1 v l.length (bcells l)) (h0 : 0 < l.length) :
    RV g w v (.hs (.c V 0 1) 1 0 l.length) ∧ OAt g w (.c V 0 1) (.trow e 1 false (byrows l)) := by
  rcases h.2 with ⟨rfl, hl⟩ | ⟨b, cap, cur, rfl, _, c1, c2, c3, c4, c5⟩
  · omega
  · have hk' : g.φ (.c V 0 1) = some b := hk.symm
    have hκ := hcap _ _ _ rfl
    have get : ∀ i (hi : i < l.length), cur.getD (i * 1 + 0) undef = Value.int .u8 l[i].toNat := by
      intro i hi
      have h1 : (cur.toList.take (l.length * 1))[i]? = (bcells l)[i]? := by rw [c5]
      rw [List.getElem?_take, Nat.mul_one, if_pos hi] at h1
      have hlt : i < cur.size := by omega
      simp [bcells, hi, hlt] at h1
      simp [Array.getD_eq_getD_getElem?, hlt, h1]
    refine ⟨.hsB _ _ _ _ b cap _ hk' c2 (by omega) (fun _ => by simp), ?_⟩
    simp only [OAt, hk']
    refine ⟨⟨cur, c1, by rw [hκ]; exact c4, by omega, by simp; omega, by simp [byrows], ?_, ?_⟩, fun e => (by cases e), fun _ => by omega⟩
    · intro j hj
      have hj' : j < l.length := by simpa using hj
      have := get j hj'
      simp only [Nat.mul_one, Nat.add_zero] at this
      rw [this]
      rfl
    · intro i row hrow j x hx
      simp only [byrows, List.getElem?_map] at hrow
      obtain ⟨c, hc, rfl⟩ := Option.map_eq_some_iff.1 hrow
      obtain ⟨hi, hE⟩ := gS hc
      match j, hx with
      | 0, hx =>
        obtain rfl := Option.some.inj hx
        rw [get i hi, hE]
        exact .sc _
end
def vcap : Value → Nat
  | .slice _ _ c => c
  | _ => 0
section
variable {P : Program} {ρ : Ren}
theorem bld_raw {H : Nm → Option AO} {V : Nm} {T e : TypeId} {l : Txt} {g : Gh} {w : World} {b : Nat} (hH : BldAt H V T e l) (hobj : ∀ n o, H n = some o → OAt g w n o) (hk : g.φ V = some b) :
    ∃ p v, w.heap[b]? = some (.cells #[p, v] T (0, 0)) ∧ (p = .pointer none ∨ p = .pointer (some ⟨b, 0, none⟩)) ∧ w.ownsRow 0 e 1 v l.length (bcells l) ∧ (∀ x, v.ownBlock = some x → ∃ o, H (.c V 0 1) = some o ∧ g.φ (.c V 0 1) = some x) ∧ H V ≠ none ∧ g.κ V = 1 := by
  have two : ∀ (cur : Array Value), cur.size = 1 * 2 → ∃ p v, cur = #[p, v] := by
    intro cur c2
    rcases cur with ⟨_ | ⟨a0, _ | ⟨a1, _ | ⟨a2, tl⟩⟩⟩⟩
    · simp at c2
    · simp at c2
    · exact ⟨a0, a1, rfl⟩
    · simp at c2
  rcases hH with ⟨rfl, hHV⟩ | ⟨_, hHV, hHB⟩
  · have h0 := hobj V _ hHV
    simp only [OAt, hk] at h0
    obtain ⟨⟨cur, c1, c2, c3, c4, c5, c6, c7⟩, c8, _⟩ := h0
    have hκ : g.κ V = 1 := c8 trivial
    rw [hκ] at c2
    obtain ⟨p, v, rfl⟩ := two cur c2
    have hp : p = .pointer none := (c7 0 _ rfl 0 _ rfl).sc_eq
    have hv : v = .slice none 0 0 := (c7 0 _ rfl 1 _ rfl).sc_eq
    subst hp hv
    exact ⟨_, _, c1, .inl rfl, World.ownsRow_nil w 0 e 1, fun x hx => (by cases hx), by rw [hHV]; simp, hκ⟩
  · have h0 := hobj V _ hHV
    have h1 := hobj (.c V 0 1) _ hHB
    simp only [OAt, hk] at h0
    obtain ⟨⟨cur, c1, c2, c3, c4, c5, c6, c7⟩, c8, _⟩ := h0
    have hκ : g.κ V = 1 := c8 trivial
    rw [hκ] at c2
    obtain ⟨p, v, rfl⟩ := two cur c2
    have hp : RV g w p (.pt V 0) := c7 0 _ rfl 0 _ rfl
    have hv : RV g w v (.hs (.c V 0 1) 1 0 l.length) := c7 0 _ rfl 1 _ rfl
    obtain ⟨ho, hob⟩ := owns_of hv h1
    have hpp : p = .pointer (some ⟨b, 0, none⟩) := by
      cases hp with
      | pt _ _ b' hk' =>
        rw [hk] at hk'
        obtain rfl := Option.some.inj hk'
        rfl
    exact ⟨p, v, c1, .inr hpp, ho, fun x hx => ⟨_, hHB, by rw [← hob]; exact hx⟩, by rw [hHV]; simp, hκ⟩
set_option maxHeartbeats 1000000 in
theorem wstr_fn (L : Lays.n166 P ρ) (X : Builder.Extra P ρ) (gl : Nat → Option (List AV)) (V : Nm) (l s : Txt) (hs : s ≠ []) (hlen : l.length + s.length ≤ 140737488355328)
    (H : Nm → Option AO) (hH : BldAt H V (ρ.t 72) (ρ.t 5) l) :
    FnE P gl (ρ.f 166) (Nm.under V) [.pt V 0, tx s] H (fun _ y H' => y = .tup [.sc (.int .i64 s.length), .sc .nilIface] ∧ BldAt H' V (ρ.t 72) (ρ.t 5) (l ++ s)) noE := by
  have hspos : 0 < s.length := List.length_pos_iff.2 hs
  refine ⟨⟨_, L.f166, by kernel_rfl, by kernel_rfl⟩, fun root C w g args hr hru hHD hinv hgl hsz hargs => ?_⟩
  obtain ⟨a0, a1, rfl⟩ : ∃ a0 a1, args = #[a0, a1] := by
    rcases args with ⟨_ | ⟨a0, _ | ⟨a1, _ | ⟨a2, tl⟩⟩⟩⟩
    · simp at hsz
    · simp at hsz
    · exact ⟨a0, a1, rfl⟩
    · simp at hsz
  have r0 := hargs 0 a0 (.pt V 0) rfl rfl
  have r1 := (hargs 1 a1 (tx s) rfl rfl).sc_eq
  subst r1
  cases r0 with
  | pt _ _ b hk =>
  obtain ⟨p, v, c1, hpp, ho, hob, hVn, hκ⟩ := bld_raw hH hinv.obj hk
  have hne : v.ownBlock ≠ some b := by
    intro e
    obtain ⟨o', e1, e2⟩ := hob b e
    obtain ⟨o, e3⟩ := Option.ne_none_iff_exists'.1 hVn
    exact c_ne (hinv.inj _ _ _ _ b e1 e3 e2 hk)
  refine (wstr_raw L X b p v (bcells l) (bt s) w c1 hpp (by simpa using ho) hne (by simpa using hlen)).mono fun e w' he => ?_
  obtain ⟨rfl, v', hW⟩ := he
  have hown : w'.ownsRow 0 (ρ.t 5) 1 v' (l ++ s).length (bcells (l ++ s)) := by
    have := hW.own
    simpa [bcells_app, Lib.strCells, bcells] using this
  have hlive : ∀ x, v'.ownBlock = some x → (¬ C x ∧ (w.heap.size ≤ x ∨ ownH g H x) ∧ x < w'.heap.size) := by
    intro x hx
    have hlt : x < w'.heap.size := by
      rcases hown.2 with ⟨rfl, _⟩ | ⟨y, cap, cur, rfl, _, d1, _⟩
      · cases hx
      · obtain rfl : y = x := Option.some.inj hx
        rcases Nat.lt_or_ge y w'.heap.size with h' | h'
        · exact h'
        · simp [Array.getElem?_eq_none h'] at d1
    rcases hW.blk with hb | ⟨y, hy, hb⟩
    · obtain ⟨o', e1, e2⟩ := hob x (hb.symm.trans hx)
      obtain ⟨x1, x2, _⟩ := hinv.blk _ _ x e1 e2
      exact ⟨x1, x2, hlt⟩
    · rw [hx] at hy
      obtain rfl := Option.some.inj hy
      exact ⟨fun hc => by have := hinv.clt _ hc; omega, .inl hb, hlt⟩
  let g' : Gh := { C := C, φ := fun n => if n = .c V 0 1 then v'.ownBlock else g.φ n, κ := fun n => if n = .c V 0 1 then vcap v' else g.κ n }
  have hφ : ∀ n, n ≠ .c V 0 1 → g'.φ n = g.φ n ∧ g'.κ n = g.κ n := fun n h => by
    constructor
    · show (if n = .c V 0 1 then v'.ownBlock else g.φ n) = _
      rw [if_neg h]
    · show (if n = .c V 0 1 then vcap v' else g.κ n) = _
      rw [if_neg h]
  have hV : g'.φ V = some b := by
    show (if V = .c V 0 1 then v'.ownBlock else g.φ V) = some b
    rw [if_neg c_ne.symm]
    exact hk
  have hVκ : g'.κ V = 1 := by
    show (if V = .c V 0 1 then vcap v' else g.κ V) = 1
    rw [if_neg c_ne.symm]
    exact hκ
  have hB : g'.φ (.c V 0 1) = v'.ownBlock := if_pos rfl
  have hBκ : g'.κ (.c V 0 1) = vcap v' := if_pos rfl
  obtain ⟨q1, q2⟩ := owns_to (V := V) (e := ρ.t 5) (l := l ++ s) (g := g') (w := w') (v := v') (b := b) hB.symm (fun ad n cap e => by rw [hBκ, e]; rfl) hown (by simp; omega)
  have hdom : ∀ n, bldH V (ρ.t 72) (ρ.t 5) (.pt V 0) (l ++ s) n ≠ none → n = V ∨ n = .c V 0 1 := fun n => bldH_ne
  refine ⟨C, g', bldH V (ρ.t 72) (ρ.t 5) (.pt V 0) (l ++ s), .tup [.sc (.int .i64 s.length), .sc .nilIface], ⟨fun _ h => h, fun _ h => .inl h, ⟨hW.os, hW.tape, hW.output, hW.size, ?_, rfl, ?_, ?_, ?_, ?_⟩, ?_, ?_, ?_⟩, ?_, rfl, .inr ⟨by simp [hs], bldH_V, bldH_b⟩⟩
  · intro k hk2 hno
    refine hW.keep k hk2 (fun e => hno ⟨V, hVn, by rw [e]; exact hk⟩) (fun e => by
      obtain ⟨o', e1, e2⟩ := hob _ e
      exact hno ⟨.c V 0 1, by rw [e1]; simp, e2⟩)
  · intro x hx
    exact Nat.lt_of_lt_of_le (hinv.clt x hx) hW.size
  · intro n o e
    have hn := hdom n (by rw [e]; simp)
    rcases hn with rfl | rfl
    · rw [bldH_V] at e
      obtain rfl := Option.some.inj e
      simp only [OAt, hV]
      refine ⟨⟨_, hW.top, by rw [hVκ]; rfl, by rw [hVκ]; decide, by rw [hVκ]; simp, by simp, ?_, ?_⟩, fun _ => by rw [hVκ]; rfl, fun e => (by cases e)⟩
      · intro j hj
        simp only [List.length_singleton, Nat.one_mul] at hj
        match j, hj with
        | 0, _ => rfl
        | 1, _ =>
          show v'.oneCell' = true
          rcases hown.2 with ⟨rfl, _⟩ | ⟨y, cap, cur, rfl, _⟩ <;> rfl
      · intro i row hrow j x hx
        match i, hrow with
        | 0, hrow =>
          obtain rfl := Option.some.inj hrow
          match j, hx with
          | 0, hx =>
            obtain rfl := Option.some.inj hx
            exact .pt _ _ b hV
          | 1, hx =>
            obtain rfl := Option.some.inj hx
            exact q1
    · rw [bldH_b] at e
      obtain rfl := Option.some.inj e
      exact q2
  · intro n o x e hx
    rcases hdom n (by rw [e]; simp) with rfl | rfl
    · rw [hV] at hx
      obtain rfl := Option.some.inj hx
      obtain ⟨o, e3⟩ := Option.ne_none_iff_exists'.1 hVn
      obtain ⟨x1, x2, x3⟩ := hinv.blk _ _ b e3 hk
      exact ⟨x1, x2, Nat.lt_of_lt_of_le x3 hW.size⟩
    · rw [hB] at hx
      exact hlive x hx
  · intro n n' o o' x e e' hx hx'
    rcases hdom n (by rw [e]; simp) with rfl | rfl <;> rcases hdom n' (by rw [e']; simp) with rfl | rfl
    · rfl
    · rw [hV] at hx
      rw [hB] at hx'
      exact absurd (hx'.trans hx.symm) hW.ne
    · rw [hB] at hx
      rw [hV] at hx'
      exact absurd (hx.trans hx'.symm) hW.ne
    · rfl
  · intro n hn
    rcases hdom n hn with rfl | rfl
    · exact .inl (Nm.under_self _)
    · exact .inl (by simp [Nm.under])
  · intro n hD _
    have : n ≠ .c V 0 1 := fun e => by rw [e] at hD; simp [Nm.under] at hD
    exact hφ _ this
  · intro k i j hn
    have : Nm.u k i j ≠ .c V 0 1 := fun e => by cases e
    exact hφ _ this
  · exact .tup [_, _] _ rfl fun j v x hv hx => by
      match j, hv, hx with
      | 0, hv, hx => simp at hv hx; subst hv; subst hx; exact .sc _
      | 1, hv, hx => simp at hv hx; subst hv; subst hx; exact .sc _
end
end Go.Hm
end
section
namespace Go.Hm
open Go Go.RowKit Go.Proofs Go.Shelf
structure KeptB (w w' : World) (b : Nat) : Prop where
  os : w'.os = w.os
  tape : w'.tape = w.tape
  output : w'.output = w.output
  size : w.heap.size ≤ w'.heap.size
  keep : ∀ k, k < w.heap.size → k ≠ b → w'.heap[k]? = w.heap[k]?
theorem kept_freeze {w : World} {b n : Nat} : KeptB w (w.drew.freeze ⟨b, 0, none⟩ n) b := by
  unfold World.freeze
  split
  · exact ⟨rfl, rfl, rfl, Nat.le_refl _, fun _ _ _ => rfl⟩
  · refine ⟨rfl, rfl, rfl, by simp, fun k _ hk => ?_⟩
    simp only [Array.getElem?_modify]
    rw [if_neg (fun e => hk e.symm)]
    rfl
section
variable {P : Program} {ρ : Ren}
set_option maxHeartbeats 1000000 in
set_option maxRecDepth 100000 in
theorem str_raw (L : Lays.n169 P ρ) (X : Builder.Extra P ρ) (b : Nat) (p v : Value) (l : Txt) (w : World) (hbk : w.heap[b]? = some (.cells #[p, v] (ρ.t 72) (0, 0)))
    (hown : w.ownsRow 0 (ρ.t 5) 1 v l.length (bcells l)) (h0 : l ≠ []) :
    Calls P (ρ.f 169) #[.pointer (some ⟨b, 0, none⟩)] w fun e w' => e = .returned (.string (bt l)) ∧ ∃ g, v.ownBlock = some g ∧ KeptB w w' g := by
  have hl0 : l.length ≠ 0 := by simpa using h0
  obtain ⟨g, cap, cur, rfl, hbg, hg, hnc, hcm, hcs, htake⟩ : ∃ g cap cur, v = .slice (some ⟨g, 0, none⟩) l.length cap ∧ 0 ≤ g ∧ w.heap[g]? = some (.cells cur (ρ.t 5) (0, 0)) ∧ l.length ≤ cap ∧ cap ≤ maxLen ∧ cur.size = cap * 1 ∧ cur.toList.take (l.length * 1) = bcells l := by
    rcases hown.2 with ⟨_, hz⟩ | ⟨g, cap, cur, hv, r⟩
    · exact absurd hz hl0
    · exact ⟨g, cap, cur, hv, r⟩
  have c1 : w.drew.cell? ⟨b, 1, none⟩ = some (.slice (some ⟨g, 0, none⟩) l.length cap) := by
    have : w.drew.heap[b]? = some (.cells #[p, .slice (some ⟨g, 0, none⟩) l.length cap] (ρ.t 72) (0, 0)) := hbk
    rw [Lib.cell_of_heap this]; rfl
  have hSD : (Builtin.unsafeSliceData_ #[(ρ.t 37)] (ρ.t 127) #[.slice (some ⟨g, 0, none⟩) l.length cap]).run P w.drew = .ok (.pointer (some ⟨g, 0, none⟩)) w.drew :=
    Lib.run_unsafeSliceData_row _ _ _ _ _ _ (by omega)
  have hUS : (Builtin.unsafeString_ #[(ρ.t 127), (ρ.t 3)] (ρ.t 9) #[.pointer (some ⟨g, 0, none⟩), .int .i64 l.length]).run P w.drew = .ok (.string ⟨l.toArray⟩) (w.drew.freeze ⟨g, 0, none⟩ l.length) := by
    refine Lib.run_unsafeString_row w.drew (ρ.t 127) (ρ.t 3) (ρ.t 9) (ρ.t 5) L.t127 X.cellsByte g cur.size (by have hg' : w.drew.heap[g]? = some (.cells cur (ρ.t 5) (0, 0)) := hg; simp [World.shape?, hg']) l h0 (by omega) (by unfold maxLen at hcm; omega) ?_
    intro j x hx
    have := hown.cells (g := g) rfl j (.int .u8 x.toNat) (by simp [bcells, hx])
    exact this
  have mixed := L.mixed
  have t72 := L.t72; have a72 := L.a72; have z72 := L.z72; have v72 := L.v72; have u72 := run_underlying L.t72
  have t70 := L.t70; have a70 := L.a70; have z70 := L.z70; have v70 := L.v70; have u70 := run_underlying L.t70
  have t37 := L.t37; have a37 := L.a37; have z37 := L.z37; have v37 := L.v37; have u37 := run_underlying L.t37
  have t127 := L.t127; have a127 := L.a127; have z127 := L.z127; have v127 := L.v127; have u127 := run_underlying L.t127
  have t3 := L.t3; have a3 := L.a3; have z3 := L.z3; have v3 := L.v3; have u3 := run_underlying L.t3
  have t9 := L.t9; have a9 := L.a9; have z9 := L.z9; have v9 := L.v9; have u9 := run_underlying L.t9
  have t5 := X.t5; have a5 := X.a5; have z5 := X.z5; have v5 := X.v5; have u5 := run_underlying X.t5
  go_enter L.f169, Body.n169_ntmps ρ
  go_wp2
  go_region_o
  all_goals (go_wp2; go_ret; exact ⟨rfl, g, rfl, kept_freeze⟩)
set_option maxHeartbeats 1000000 in
theorem str_fn (L : Lays.n169 P ρ) (X : Builder.Extra P ρ) (gl : Nat → Option (List AV)) (V : Nm) (l : Txt) (H : Nm → Option AO) (hH : BldAt H V (ρ.t 72) (ρ.t 5) l) :
    FnE P gl (ρ.f 169) (Nm.under V) [.pt V 0] H (fun _ y H' => y = tx l ∧ H' = noH) noE := by
  refine ⟨⟨_, L.f169, by kernel_rfl, by kernel_rfl⟩, fun root C w g args hr hru hHD hinv hgl hsz hargs => ?_⟩
  obtain ⟨a0, rfl⟩ : ∃ a0, args = #[a0] := by
    rcases args with ⟨_ | ⟨a0, _ | ⟨a1, tl⟩⟩⟩
    · simp at hsz
    · exact ⟨a0, rfl⟩
    · simp at hsz
  have r0 := hargs 0 a0 (.pt V 0) rfl rfl
  cases r0 with
  | pt _ _ b hk =>
  obtain ⟨p, v, c1, hpp, ho, hob, hVn, hκ⟩ := bld_raw hH hinv.obj hk
  have fin : ∀ w' : World, w'.os = w.os → w'.tape = w.tape → w'.output = w.output → w.heap.size ≤ w'.heap.size → (∀ k, k < w.heap.size → v.ownBlock ≠ some k → w'.heap[k]? = w.heap[k]?) →
      ∃ C' g' H' x, After (ownH g H) C w g (Nm.under V) root H H' C' g' w' ∧ RV g' w' (.string (bt l)) x ∧ x = tx l ∧ H' = noH := by
    intro w' q1 q2 q3 q4 q5
    refine ⟨C, g, noH, tx l, ⟨fun _ h => h, fun _ h => .inl h, ⟨q1, q2, q3, q4, ?_, hinv.hC, ?_, fun _ _ e => (by cases e), fun _ _ _ e => (by cases e), fun _ _ _ _ _ e => (by cases e)⟩, fun _ e => absurd rfl e, fun _ _ _ => ⟨rfl, rfl⟩, fun _ _ _ _ => ⟨rfl, rfl⟩⟩, .sc _, rfl, rfl⟩
    · intro k hk2 hno
      refine q5 k hk2 fun e => ?_
      obtain ⟨o', e1, e2⟩ := hob _ e
      exact hno ⟨.c V 0 1, by rw [e1]; simp, e2⟩
    · intro y hy
      exact Nat.lt_of_lt_of_le (hinv.clt y hy) q4
  rcases hH with ⟨rfl, hHV⟩ | ⟨h0, hHV, hHB⟩
  · have hv : v = .slice none 0 0 := by
      have o0 := hinv.obj V _ hHV
      simp only [OAt, hk] at o0
      obtain ⟨⟨cur, d1, d2, d3, d4, d5, d6, d7⟩, _⟩ := o0
      rw [d1] at c1
      injection c1 with c1
      injection c1 with c1 _ _
      have := (d7 0 _ rfl 1 _ rfl).sc_eq
      rw [c1] at this
      exact this
    subst hv
    refine (Any.Builder_String_nil L X w.heap.size b p w c1).mono fun e w' he => ?_
    obtain ⟨rfl, hb⟩ := he
    exact fin w' hb.os hb.tape hb.output hb.size fun k hk2 _ => hb.block k hk2
  · refine (str_raw L X b p v l w c1 ho h0).mono fun e w' he => ?_
    obtain ⟨rfl, x, hx, hW⟩ := he
    exact fin w' hW.os hW.tape hW.output hW.size fun k hk2 hne => hW.keep k hk2 fun e => hne (by rw [e]; exact hx)
end
end Go.Hm
end
section
namespace Go.Hm
open Go Go.RowKit
section
variable {P : Program} {own : Nat → Prop} {C : Nat → Prop} {w0 : World} {g : Gh} {st : St} {a : Go.Act} {w : World}
def bldSt (T : TypeId) (d : Nat) (st : St) : St :=
  ((st.kill (.s d)).setO (.s d) (.trow T 2 true [[.sc (.pointer none), .sc (.slice none 0 0)]])).put (some d) (.pt (.s d) 0)
theorem allocB_sound {o : Oper} {T : TypeId} {d : Nat} (h : Rg P own C w0 g st a w) (ho : o.op = .alloc T) (hd : o.dst = some d) (hn : d < st.n) (hq : zvals P T = some [.sc (.pointer none), .sc (.slice none 0 0)]) :
    Does P o a w fun a' w' => Rel P own C w0 g (bldSt T d st) a' w' := by
  obtain ⟨i, z, q1, q2, q3, q4, q5⟩ := zvals_spec hq
  have hz : z.cells = #[.pointer none, .slice none 0 0] := by
    have h2 : z.cells.toList = [.pointer none, .slice none 0 0] := by
      rcases hl : z.cells.toList with _ | ⟨x, _ | ⟨y, _ | ⟨u, tl⟩⟩⟩ <;> rw [hl] at q4 <;> simp at q4
      rw [q4.1, q4.2]
    apply Array.ext'
    exact h2
  refine .inl ⟨.pointer (some ⟨w.heap.size, 0, none⟩), w.alloc (.cells z.cells T), ?_, ?_⟩
  · simp [execOp, ho, Instr.alloc, zeroValue, typeInfo, q1, q2, newVar, newRow]
  · rw [hd, hz]
    have hm := h.made (.s d) (.trow T 2 true [[.sc (.pointer none), .sc (.slice none 0 0)]]) w.heap.size 1 (w.alloc (.cells #[.pointer none, .slice none 0 0] T)) [] (fun p hp => by cases hp) (fun _ => false) rfl rfl rfl (by simp) (.inl (Nat.le_refl _)) (by simp) (fun b' _ hb' => alloc_old _ hb') (by
      simp only [OAt, (fresh_self (g := g) (.s d) (some w.heap.size) 1).1, (fresh_self (g := g) (.s d) (some w.heap.size) 1).2]
      refine ⟨⟨_, heap_alloc_new w _, by simp, by decide, by simp, by simp, ?_, ?_⟩, fun _ => rfl, fun e => (by cases e)⟩
      · intro j hj
        match j, hj with
        | 0, _ => rfl
        | 1, _ => rfl
      · intro i row hrow j x hx
        match i, hrow with
        | 0, hrow =>
          obtain rfl := Option.some.inj hrow
          match j, hx with
          | 0, hx => obtain rfl := Option.some.inj hx; exact .sc _
          | 1, hx => obtain rfl := Option.some.inj hx; exact .sc _)
    have ek : (st.nm (kl (.s d)) (fun m => if (fun _ => false : Nm → Bool) m then none else hkl (.s d) st.hp m)) = st.kill (.s d) := by simp [St.kill]
    rw [ek] at hm
    have hp := hm.put (d := some d) (v := .pointer (some ⟨w.heap.size, 0, none⟩)) (x := .pt (.s d) 0) (fun t et => by
      obtain rfl := Option.some.inj et
      exact hn) (.pt _ _ _ (fresh_self _ _ _).1)
    exact ⟨_, Ust.fresh rfl, hp⟩
end
section
variable {X : Ctx} {st : St} {K : St → Prop} {E : AV → St → Prop} {ty : TypeId} {pos : String} {aft : Array Edge} {g : Option (Nat × Bool)} {d : Nat} {T : TypeId}
theorem x_allocB (hd : d < X.n := by first | (simp; done) | fail) (hq : zvals X.P T = some [.sc (.pointer none), .sc (.slice none 0 0)]) (h : K (bldSt T d st)) : SemOp X ⟨some d, .alloc T, ty, pos, aft, g⟩ K E st :=
  .of_rel (fun _ _ _ _ e' h => allocB_sound h rfl rfl (e' ▸ hd) hq) ⟨rfl, rfl⟩ h
end
end Go.Hm
end
section
namespace Go.Hm
open Go Go.RowKit Go.Proofs Go.Shelf
theorem args_sc {g : Gh} {w : World} {args : Array Value} {vs : List Value} (hsz : args.size = (vs.map AV.sc).length) (h : ∀ (j : Nat) v x, args[j]? = some v → (vs.map AV.sc)[j]? = some x → RV g w v x) : args = vs.toArray := by
  apply Array.ext
  · simpa using hsz
  · intro j h1 h2
    have h3 : j < vs.length := by simpa using h2
    have := (h j args[j] (.sc vs[j]) (Array.getElem?_eq_getElem h1) (by simp [h3])).sc_eq
    simpa using this
section
variable {P : Program} {ρ : Ren}
theorem split_fn (L : Lays.n146 P ρ) (hi9 : (P.info? (ρ.t 9)).map (fun i => (i.zero, i.size, i.bytes)) = some (some (.string ByteArray.empty), 1, 16)) (gl : Nat → Option (List AV)) (m : Int) (hg : gl (ρ.g 1) = some [.sc (.int .i64 m)]) (l : Txt) (c : UInt8) (hl : l.length < 4294967281) :
    FnOk P gl (ρ.f 146) [tx l, tx [c]] (fun _ y _ => y = xsl (splitL c l)) := by
  refine texts_ok (vs := [.string (bt l), .string (bt [c])]) (T := ρ.t 9) ⟨_, L.f146, by kernel_rfl, by kernel_rfl⟩ rfl fun w hw => ?_
  refine (Any.strings_Split L hi9 (bt l) (bt [c]) m w (by simpa using hl) (hw _ _ hg) (by simp)).mono fun e w' he => ?_
  obtain ⟨rfl, rfl⟩ := he
  rw [splitB_len, splitB_eq, List.map_map]
  exact ⟨rfl, rfl⟩
end
end Go.Hm
end
section
namespace Go.Hm
open Go Go.RowKit Go.ChangeShapes Go.WideShapes Go.Deep
def glV : List (Nat × List Value) → Nat → Option (List AV)
  | [], _ => none
  | (g, l) :: r, i => if i = g then some (l.map .sc) else glV r i
theorem glV_met {W : World} : ∀ {ts : List (Nat × List Value)}, (∀ t ∈ ts, 0 < t.2.length ∧ (∀ v ∈ t.2, v.oneCell' = true) ∧ ∀ i v, t.2[i]? = some v → W.cell? ⟨t.1, i, none⟩ = some v) → (∀ t ∈ ts, Exw W t.1 (t.2.map .sc)) →
    ∀ i row, glV ts i = some row → (RV (g0 W) W (.pointer (some ⟨i, 0, none⟩)) (.el row 0) ∧ Exw W i row) ∧ ∀ f : Nm → Option Nm, row.map (AV.tr f) = row
  | [], _, _, i, row, hr => by simp [glV] at hr
  | (g, l) :: r, h, hx, i, row, hr => by
    simp only [glV] at hr
    split at hr
    · rename_i e
      subst e
      obtain ⟨hl, ho, hc⟩ := h (i, l) (by simp)
      simp only at hl ho hc
      obtain rfl := Option.some.inj hr
      have hat : ∀ j, j < (l.map AV.sc).length → ∃ v, l[j]? = some v ∧ (l.map AV.sc)[j]? = some (.sc v) ∧ W.cell? ⟨i, j, none⟩ = some v ∧ v.oneCell' = true := by
        intro j hj
        have hj' : j < l.length := by simpa using hj
        exact ⟨l[j], gE hj', by simp [hj'], hc j _ (gE hj'), ho _ (List.getElem_mem hj')⟩
      refine ⟨⟨?_, hx (i, l) (by simp)⟩, fun f => ?_⟩
      · obtain ⟨k0, _, _, hc0, _⟩ := hat 0 (by simpa using hl)
        have := RV.el (g := g0 W) (w := W) i 0 0 (l.map AV.sc) (fun j => (W.cell? ⟨i, 0 + j, none⟩).getD undef) (cell_lt hc0).1 (fun j hj => ?_) (fun j hj => ?_) (fun j a ha => ?_)
        · simpa using this
        · obtain ⟨k, _, _, hc, _⟩ := hat j hj
          simp [hc]
        · obtain ⟨k, _, _, hc, h1⟩ := hat j hj
          simp [hc, h1]
        · have hj : j < (l.map AV.sc).length := (gS ha).1
          obtain ⟨k, _, h2, hc, _⟩ := hat j hj
          rw [h2] at ha
          cases ha
          simp only [Nat.zero_add, hc, Option.getD_some]
          exact .sc _
      · simp [AV.tr, Function.comp_def]
    · exact glV_met (ts := r) (fun t ht => h t (by simp [ht])) (fun t ht => hx t (by simp [ht])) i row hr
theorem exw_no {W : World} {i : Nat} {v : Value} {l : List Value} (h : ∀ z, v ≠ .int .u64 z) : Exw W i ((v :: l).map .sc) := by
  intro zs hz e
  cases zs with
  | nil => exact absurd rfl hz
  | cons z zs =>
    simp only [List.map_cons, List.cons.injEq, AV.sc.injEq] at e
    exact absurd e.1 (h z)
abbrev vtx (l : List Txt) : List Value := l.map fun x => .string (bt x)
theorem rd_tableS {H : Type} {enc : TypeId × Value → H} {P : Program} {w : World} {base : Nat} {spare : Nat → Bool} {held : Bool} {m n g : Nat} {t e : TypeId} {s : String} {cs : Array Value} {l : List Txt} {x : List MemPlace}
    (ht : P.underlying t = some (.array n e)) (he : P.underlying e = some .string) (hc : P.cellsOf e = 1) (hg : P.globalNamed s = some g) (hv : w.var? P s = some cs)
    (h : DataW.trod enc P w base spare held m t cs.toList = some (.agg (l.map fun k => .lit (.string k)), x)) : ∀ i v, (vtx l)[i]? = some v → w.cell? ⟨g, i, none⟩ = some v := by
  intro i v hv'
  rw [List.getElem?_map] at hv'
  obtain ⟨k, hk, rfl⟩ := Option.map_eq_some_iff.1 hv'
  obtain ⟨xs, m1, rfl, hx, hlen, hn, hel⟩ := DataW.trod_array ht h
  simp only [Prod.mk.injEq, DataW.agg.injEq] at hx
  have hil : i < l.length := (gS hk).1
  have hxl : l.length = xs.length := by simpa using congrArg List.length hx.1
  obtain ⟨y, hy⟩ : ∃ y, xs[i]? = some y := ⟨_, gE (by omega)⟩
  have h0 := hel i (by omega)
  rw [hy, hc] at h0
  obtain ⟨k', e1, e2, _⟩ := DataW.trod_string he h0
  have h3 := congrArg (fun z => z[i]?) hx.1
  simp only [List.getElem?_map, hk, hy, Option.map_some, Option.some.injEq] at h3
  rw [e2] at h3
  have hkk : k'.data.toList = k := by simpa using h3.symm
  subst hkk
  rw [World.var?_cell hg hv i]
  have e3 := congrArg (fun z => z[0]?) e1
  simp [List.getElem?_take, List.getElem?_drop] at e3
  simpa using e3
end Go.Hm
end
