/-
  Own texts, joined by mkclaim.py: Ul, Um, Un, Uo, Ut, Uu.
-/
import Derived.Test.YtmaoicgfcngciaaGreatDoorProg
import Derived.Test.YtmaoicgfcngciaaGreatDoorY16
import Derived.Test.YtmaoicgfcngciaaGreatDoorY14
set_option linter.unusedSimpArgs false
set_option linter.unusedVariables false
set_option maxRecDepth 100000
set_option maxHeartbeats 4000000

section
namespace Go.Proofs.YtmaoicgfcngciaaGreatDoor
open Go Go.Hm Go.Proofs
open Go.Shelf
def libRen : Ren := ⟨fun | 0 => 0 | 1 => 1 | 2 => 2 | 129 => 217 | 138 => 203 | 143 => 204 | 146 => 128 | 166 => 46 | 169 => 48 | 171 => 70 | 195 => 221 | 197 => 222 | 217 => 232 | 218 => 223 | 219 => 224 | 221 => 170 | 224 => 234 | 225 => 233 | 240 => 96 | 243 => 123 | 246 => 169 | 260 => 231 | 266 => 237 | 267 => 235 | 268 => 202 | 276 => 148 | 283 => 198 | 284 => 199 | 285 => 200 | 286 => 201 | 314 => 238 | 317 => 216 | 318 => 218 | 319 => 219 | 320 => 220 | 337 => 229 | 338 => 230 | 347 => 239 | 348 => 240 | 349 => 241 | 350 => 242 | 351 => 243 | 352 => 244 | 353 => 245 | 354 => 246 | 355 => 247 | 356 => 248 | 357 => 249 | 358 => 250 | 359 => 251 | 360 => 252 | 361 => 253 | 362 => 254 | 366 => 264 | 367 => 276 | n => n, fun | 0 => 0 | 1 => 1 | 2 => 2 | 3 => 3 | 4 => 4 | 5 => 5 | 6 => 6 | 7 => 7 | 8 => 8 | 9 => 9 | 10 => 10 | 11 => 11 | 12 => 12 | 13 => 13 | 14 => 14 | 15 => 15 | 16 => 16 | 17 => 17 | 18 => 18 | 19 => 19 | 20 => 20 | 21 => 21 | 26 => 57 | 27 => 265 | 28 => 41 | 29 => 132 | 30 => 125 | 31 => 64 | 34 => 93 | 36 => 140 | 37 => 37 | 46 => 280 | 47 => 281 | 51 => 278 | 52 => 290 | 53 => 259 | 54 => 260 | 55 => 284 | 61 => 188 | 70 => 71 | 71 => 72 | 72 => 73 | 74 => 74 | 75 => 75 | 76 => 76 | 77 => 77 | 80 => 80 | 81 => 162 | 83 => 69 | 84 => 232 | 103 => 45 | 104 => 29 | 105 => 282 | 106 => 283 | 111 => 68 | 113 => 233 | 114 => 139 | 119 => 294 | 127 => 138 | 131 => 220 | 137 => 295 | 138 => 296 | 139 => 297 | 146 => 298 | 150 => 264 | 151 => 299 | 164 => 195 | 165 => 196 | 171 => 258 | 172 => 261 | 173 => 262 | 174 => 263 | 211 => 276 | 212 => 277 | 213 => 279 | 232 => 292 | 233 => 293 | 238 => 300 | 239 => 301 | 240 => 302 | 241 => 303 | 242 => 304 | 243 => 305 | 244 => 306 | 245 => 307 | 246 => 308 | 247 => 309 | 248 => 310 | 249 => 311 | n => n, fun | 1 => 5 | 3 => 8 | 4 => 9 | 17 => 4 | 18 => 6 | 19 => 7 | n => n⟩
theorem lay166 : Lays.n166 Tryz.prog libRen := { mixed := by kernel_rfl, f166 := Tryz.func46.trans (congrArg some (by kernel_rfl)), f240 := Tryz.func96.trans (congrArg some (by kernel_rfl)), f276 := Tryz.func148.trans (congrArg some (by kernel_rfl)), t0 := Tryz.underlying0, a0 := Tryz.isAgg0, z0 := Tryz.sizeOf0, v0 := Tryz.zeroValue0, t3 := Tryz.underlying3, a3 := Tryz.isAgg3, z3 := Tryz.sizeOf3, v3 := Tryz.zeroValue3, t4 := Tryz.underlying4, a4 := Tryz.isAgg4, z4 := Tryz.sizeOf4, v4 := Tryz.zeroValue4, t9 := Tryz.underlying9, a9 := Tryz.isAgg9, z9 := Tryz.sizeOf9, v9 := Tryz.zeroValue9, t20 := Tryz.underlying20, a20 := Tryz.isAgg20, z20 := Tryz.sizeOf20, v20 := Tryz.zeroValue20, t37 := Tryz.underlying37, a37 := Tryz.isAgg37, z37 := Tryz.sizeOf37, v37 := Tryz.zeroValue37, t70 := Tryz.underlying71, a70 := Tryz.isAgg71, z70 := Tryz.sizeOf71, v70 := Tryz.zeroValue71, t72 := Tryz.underlying73, a72 := Tryz.isAgg73, z72 := Tryz.sizeOf73, v72 := Tryz.zeroValue73, t75 := Tryz.underlying75, a75 := Tryz.isAgg75, z75 := Tryz.sizeOf75, v75 := Tryz.zeroValue75, t164 := Tryz.underlying195, a164 := Tryz.isAgg195, z164 := Tryz.sizeOf195, v164 := Tryz.zeroValue195 }
theorem lay169 : Lays.n169 Tryz.prog libRen := { mixed := by kernel_rfl, f169 := Tryz.func48.trans (congrArg some (by kernel_rfl)), t0 := Tryz.underlying0, a0 := Tryz.isAgg0, z0 := Tryz.sizeOf0, v0 := Tryz.zeroValue0, t3 := Tryz.underlying3, a3 := Tryz.isAgg3, z3 := Tryz.sizeOf3, v3 := Tryz.zeroValue3, t9 := Tryz.underlying9, a9 := Tryz.isAgg9, z9 := Tryz.sizeOf9, v9 := Tryz.zeroValue9, t37 := Tryz.underlying37, a37 := Tryz.isAgg37, z37 := Tryz.sizeOf37, v37 := Tryz.zeroValue37, t70 := Tryz.underlying71, a70 := Tryz.isAgg71, z70 := Tryz.sizeOf71, v70 := Tryz.zeroValue71, t72 := Tryz.underlying73, a72 := Tryz.isAgg73, z72 := Tryz.sizeOf73, v72 := Tryz.zeroValue73, t127 := Tryz.underlying138, a127 := Tryz.isAgg138, z127 := Tryz.sizeOf138, v127 := Tryz.zeroValue138 }
theorem lay171 : Lays.n171 Tryz.prog libRen := { mixed := by kernel_rfl, f129 := Tryz.func217.trans (congrArg some (by kernel_rfl)), f171 := Tryz.func70.trans (congrArg some (by kernel_rfl)), f243 := Tryz.func123.trans (congrArg some (by kernel_rfl)), f246 := Tryz.func169.trans (congrArg some (by kernel_rfl)), f283 := Tryz.func198.trans (congrArg some (by kernel_rfl)), f284 := Tryz.func199.trans (congrArg some (by kernel_rfl)), f285 := Tryz.func200.trans (congrArg some (by kernel_rfl)), f286 := Tryz.func201.trans (congrArg some (by kernel_rfl)), f317 := Tryz.func216.trans (congrArg some (by kernel_rfl)), f318 := Tryz.func218.trans (congrArg some (by kernel_rfl)), f319 := Tryz.func219.trans (congrArg some (by kernel_rfl)), f320 := Tryz.func220.trans (congrArg some (by kernel_rfl)), f337 := Tryz.func229.trans (congrArg some (by kernel_rfl)), f338 := Tryz.func230.trans (congrArg some (by kernel_rfl)), t0 := Tryz.underlying0, a0 := Tryz.isAgg0, z0 := Tryz.sizeOf0, v0 := Tryz.zeroValue0, t2 := Tryz.underlying2, a2 := Tryz.isAgg2, z2 := Tryz.sizeOf2, v2 := Tryz.zeroValue2, t3 := Tryz.underlying3, a3 := Tryz.isAgg3, z3 := Tryz.sizeOf3, v3 := Tryz.zeroValue3, t4 := Tryz.underlying4, a4 := Tryz.isAgg4, z4 := Tryz.sizeOf4, v4 := Tryz.zeroValue4, t5 := Tryz.underlying5, a5 := Tryz.isAgg5, z5 := Tryz.sizeOf5, v5 := Tryz.zeroValue5, t9 := Tryz.underlying9, a9 := Tryz.isAgg9, z9 := Tryz.sizeOf9, v9 := Tryz.zeroValue9, t20 := Tryz.underlying20, a20 := Tryz.isAgg20, z20 := Tryz.sizeOf20, v20 := Tryz.zeroValue20, t37 := Tryz.underlying37, a37 := Tryz.isAgg37, z37 := Tryz.sizeOf37, v37 := Tryz.zeroValue37, t46 := Tryz.underlying280, a46 := Tryz.isAgg280, z46 := Tryz.sizeOf280, v46 := Tryz.zeroValue280, t51 := Tryz.underlying278, a51 := Tryz.isAgg278, z51 := Tryz.sizeOf278, v51 := Tryz.zeroValue278, t53 := Tryz.underlying259, a53 := Tryz.isAgg259, z53 := Tryz.sizeOf259, v53 := Tryz.zeroValue259, t171 := Tryz.underlying258, a171 := Tryz.isAgg258, z171 := Tryz.sizeOf258, v171 := Tryz.zeroValue258, t173 := Tryz.underlying262, a173 := Tryz.isAgg262, z173 := Tryz.sizeOf262, v173 := Tryz.zeroValue262, t212 := Tryz.underlying277, a212 := Tryz.isAgg277, z212 := Tryz.sizeOf277, v212 := Tryz.zeroValue277, t213 := Tryz.underlying279, a213 := Tryz.isAgg279, z213 := Tryz.sizeOf279, t232 := Tryz.underlying292, a232 := Tryz.isAgg292, z232 := Tryz.sizeOf292, v232 := Tryz.zeroValue292, t233 := Tryz.underlying293, a233 := Tryz.isAgg293, z233 := Tryz.sizeOf293, v233 := Tryz.zeroValue293, g17 := by kernel_rfl, g18 := by kernel_rfl, g19 := by kernel_rfl }
theorem lay146 : Lays.n146 Tryz.prog libRen := { mixed := by kernel_rfl, f138 := Tryz.func203.trans (congrArg some (by kernel_rfl)), f143 := Tryz.func204.trans (congrArg some (by kernel_rfl)), f146 := Tryz.func128.trans (congrArg some (by kernel_rfl)), f195 := Tryz.func221.trans (congrArg some (by kernel_rfl)), f197 := Tryz.func222.trans (congrArg some (by kernel_rfl)), f217 := Tryz.func232.trans (congrArg some (by kernel_rfl)), f218 := Tryz.func223.trans (congrArg some (by kernel_rfl)), f219 := Tryz.func224.trans (congrArg some (by kernel_rfl)), f221 := Tryz.func170.trans (congrArg some (by kernel_rfl)), f224 := Tryz.func234.trans (congrArg some (by kernel_rfl)), f225 := Tryz.func233.trans (congrArg some (by kernel_rfl)), f260 := Tryz.func231.trans (congrArg some (by kernel_rfl)), f266 := Tryz.func237.trans (congrArg some (by kernel_rfl)), f267 := Tryz.func235.trans (congrArg some (by kernel_rfl)), f268 := Tryz.func202.trans (congrArg some (by kernel_rfl)), f314 := Tryz.func238.trans (congrArg some (by kernel_rfl)), t0 := Tryz.underlying0, a0 := Tryz.isAgg0, z0 := Tryz.sizeOf0, v0 := Tryz.zeroValue0, t3 := Tryz.underlying3, a3 := Tryz.isAgg3, z3 := Tryz.sizeOf3, v3 := Tryz.zeroValue3, t4 := Tryz.underlying4, a4 := Tryz.isAgg4, z4 := Tryz.sizeOf4, v4 := Tryz.zeroValue4, t5 := Tryz.underlying5, a5 := Tryz.isAgg5, z5 := Tryz.sizeOf5, v5 := Tryz.zeroValue5, t9 := Tryz.underlying9, a9 := Tryz.isAgg9, z9 := Tryz.sizeOf9, v9 := Tryz.zeroValue9, t21 := Tryz.underlying21, a21 := Tryz.isAgg21, z21 := Tryz.sizeOf21, v21 := Tryz.zeroValue21, t31 := Tryz.underlying64, a31 := Tryz.isAgg64, z31 := Tryz.sizeOf64, v31 := Tryz.zeroValue64, t46 := Tryz.underlying280, a46 := Tryz.isAgg280, z46 := Tryz.sizeOf280, v46 := Tryz.zeroValue280, t51 := Tryz.underlying278, a51 := Tryz.isAgg278, z51 := Tryz.sizeOf278, v51 := Tryz.zeroValue278, t105 := Tryz.underlying282, a105 := Tryz.isAgg282, z105 := Tryz.sizeOf282, v105 := Tryz.zeroValue282, t119 := Tryz.underlying294, a119 := Tryz.isAgg294, z119 := Tryz.sizeOf294, t138 := Tryz.underlying296, a138 := Tryz.isAgg296, z138 := Tryz.sizeOf296, v138 := Tryz.zeroValue296, t139 := Tryz.underlying297, a139 := Tryz.isAgg297, z139 := Tryz.sizeOf297, v139 := Tryz.zeroValue297, t146 := Tryz.underlying298, a146 := Tryz.isAgg298, z146 := Tryz.sizeOf298, v146 := Tryz.zeroValue298, g1 := by kernel_rfl, g3 := by kernel_rfl, g4 := by kernel_rfl }
theorem layB : Builder.Extra Tryz.prog libRen := { sizeBuilder := by kernel_rfl, liesBuilder := by kernel_rfl, t5 := Tryz.underlying5, a5 := Tryz.isAgg5, z5 := Tryz.sizeOf5, v5 := Tryz.zeroValue5, infoByte := by kernel_rfl, cellsByte := by kernel_rfl, sizeByte := by kernel_rfl, neB5 := by decide }
theorem bld_zv : zvals Tryz.prog 73 = some [.sc (.pointer none), .sc (.slice none 0 0)] := by kernel_rfl
@[simp] theorem lib_b : libRen.t 72 = 73 := rfl
@[simp] theorem lib_u : libRen.t 5 = 5 := rfl
theorem itoa_at (gl) (n : Int) (h : 0 ≤ n ∧ n ≤ 99) : FnOk Tryz.prog gl 70 [iv n] (fun _ y _ => y = tx (numI n)) := by
  obtain ⟨m, rfl⟩ : ∃ m : Nat, n = m := ⟨n.toNat, by omega⟩
  exact itoa_fn lay171 gl m (by omega)
theorem split_at_fn (gl) {m : Int} (hgm : gl 5 = some [.sc (.int .i64 m)]) (l : Txt) (c : UInt8) (hl : l.length < 4294967281) : FnOk Tryz.prog gl 128 [tx l, tx [c]] (fun _ y _ => y = xsl (splitL c l)) :=
  split_fn lay146 (by kernel_rfl) gl m hgm l c hl
end Go.Proofs.YtmaoicgfcngciaaGreatDoor
end
section
namespace Go.Proofs.YtmaoicgfcngciaaGreatDoor
open Go Go.Hm Go.Proofs
attribute [local simp] slcAV
theorem u8w {n : Int} (h1 : 0 ≤ n) (h2 : n ≤ 255) : IntKind.u8.wrap n = n := by rw [IntKind.wrap_u8]; omega
theorem kindW_first {v : Txt} {i : Nat} {u : Txt} (hu : stmtW[i]? = some u) (he : u = v) (hno : ∀ j, j < i → ∀ x, stmtW[j]? = some x → x ≠ v) : kindW v = some i := by
  obtain ⟨hi, hE⟩ := gS hu
  unfold kindW
  rw [List.findIdx?_eq_some_iff_getElem]
  refine ⟨hi, by simp [hE, he], fun j hj => ?_⟩
  have := hno j hj _ (gE (by omega))
  simpa using this
theorem kindW_no {v : Txt} (hno : ∀ j, j < 12 → ∀ x, stmtW[j]? = some x → x ≠ v) : kindW v = none := by
  unfold kindW
  rw [List.findIdx?_eq_none_iff]
  intro x hx
  obtain ⟨j, hj⟩ := List.getElem?_of_mem hx
  have := hno j (gS hj).1 x hj
  simpa using this
def wordI (o : Option Nat) : Int := match o with | some n => n | none => -1
theorem kindOf_fn (gl) (hgl : gl 1 = some ((vtx stmtW).map AV.sc)) (v : Txt) : FnOk Tryz.prog gl 130 [tx v] (fun _ y _ => y = iv (wordI (kindW v))) := by
  have hol : stmtW.length = 12 := rfl
  have htk : List.take 12 stmtW = stmtW := rfl
  have htm : ∀ f : Txt → AV, List.take 12 (List.map f stmtW) = List.map f stmtW := fun f => rfl
  refine FnOk.of_sem Tryz.func130 rfl (by kernel_rfl) (rs := [.tmp 2]) rfl Tryz.ntmps130 (Nat.le_of_ble_eq_true rfl) fun C w g root => ?_
  have fx := And.intro hgl <| And.intro hol <| And.intro htk <| htm
  refine k_run ?_
  clear fx
  refine w_loop (fun n st => ∃ i : Nat, n = 12 - i ∧ i ≤ 12 ∧ st.tm 0 = tx v ∧ st.tm 5 = .agg ((vtx stmtW).map AV.sc) ∧ st.tm 6 = iv i ∧ ∀ j, j < i → ∀ x, stmtW[j]? = some x → x ≠ v) 12 ?_ ?_
  · exact ⟨0, by omega, by omega, by simp, by simp [htk, htm], by simp, fun j hj => absurd hj (by omega)⟩
  rintro n st - - ⟨i, rfl, hi, h0, h5, h6, hno⟩
  by_cases hil : i < 12
  · have hii : (i : Int) < 12 := by omega
    have hil' : i < stmtW.length := hil
    obtain ⟨u, hu⟩ : ∃ u, stmtW[i]? = some u := ⟨_, gE hil'⟩
    obtain ⟨_, huE⟩ := gS hu
    by_cases he : u = v
    · have hb : (u == v) = true := by simpa using he
      have fx := And.intro h0 <| And.intro h5 <| And.intro h6 <| And.intro hii <| And.intro hil <| And.intro hil' <| And.intro hu <| And.intro huE <| hb
      refine k_run ?_
      clear fx
      rw [kindW_first hu he hno]
      refine e_ret [] .nil (by simp; rfl) (by simp [wordI])
    · have hb : (u == v) = false := by simpa using he
      have fx := And.intro h0 <| And.intro h5 <| And.intro h6 <| And.intro hii <| And.intro hil <| And.intro hil' <| And.intro hu <| And.intro huE <| hb
      refine k_run ?_
      clear fx
      refine ⟨12 - (i + 1), by omega, i + 1, rfl, by omega, by simp [h0], by simp [h5], by simp [h6]; exact wrp (by omega) (by omega), fun j hj x hx => ?_⟩
      by_cases e : j = i
      · subst e
        rw [hu] at hx
        obtain rfl := Option.some.inj hx
        exact he
      · exact hno j (by omega) x hx
  · obtain rfl : i = 12 := by omega
    rw [kindW_no hno]
    have fx := And.intro h0 <| And.intro h5 <| h6
    refine k_run ?_
    clear fx
    refine e_ret [] .nil (by simp; rfl) (by simp [wordI])
end Go.Proofs.YtmaoicgfcngciaaGreatDoor
end
section
namespace Go.Proofs.YtmaoicgfcngciaaGreatDoor
open Go Go.Hm Go.Proofs
attribute [local simp] slcAV
def numI0 (o : Option Nat) : Int := match o with | some n => n | none => 0
theorem smallNumber_fn (gl) (v : Txt) (hv : v.length ≤ 1048577) : FnOk Tryz.prog gl 158 [tx v] (fun _ y _ => y = .tup [iv (numI0 (smallN v)), bv (smallN v).isSome]) := by
  refine FnOk.of_sem Tryz.func158 rfl (by kernel_rfl) (rs := [.tmp 2, .tmp 3]) rfl Tryz.ntmps158 (Nat.le_of_ble_eq_true rfl) fun C w g root => ?_
  by_cases h1 : v.length < 1
  · have hno := small_len (s := v) (.inl h1)
    have h1' : (v.length : Int) < 1 := by omega
    have fx := And.intro h1 <| h1'
    refine k_run ?_
    clear fx
    refine e_ret [] .nil (by simp; rfl) (by simp [hno, numI0])
  by_cases h2 : 2 < v.length
  · have hno := small_len (s := v) (.inr h2)
    have h1' : ¬ (v.length : Int) < 1 := by omega
    have h2' : (2 : Int) < v.length := by omega
    have fx := And.intro h1 <| And.intro h1' <| And.intro h2 <| h2'
    refine k_run ?_
    clear fx
    refine e_ret [] .nil (by simp; rfl) (by simp [hno, numI0])
  have h1' : ¬ (v.length : Int) < 1 := by omega
  have h2' : ¬ (2 : Int) < v.length := by omega
  have h3 : v.length = 1 ∨ v.length = 2 := by omega
  obtain ⟨c0, hc0⟩ : ∃ c, v[0]? = some c := ⟨_, gE (by omega)⟩
  obtain ⟨_, hcE⟩ := gS hc0
  by_cases hz : v.length = 2 ∧ c0 = 48
  · obtain ⟨hl, rfl⟩ := hz
    have hno := small_zero hl hc0
    have fx := And.intro h1 <| And.intro h1' <| And.intro h2 <| And.intro h2' <| And.intro hl <| And.intro hc0 <| hcE
    refine k_run ?_
    clear fx
    refine e_ret [] .nil (by simp; rfl) (by simp [hno, numI0])
  have hzz : v.length = 2 → v[0]? ≠ some 48 := fun e e2 => hz ⟨e, by rw [hc0] at e2; exact Option.some.inj e2⟩
  rcases h3 with hl | hl
  case' inl =>
    have fx := And.intro h1 <| And.intro h1' <| And.intro h2 <| And.intro h2' <| hl
    refine k_run ?_
    clear fx
  case' inr =>
    have hc48 : ¬ c0 = 48 := fun e => hz ⟨hl, e⟩
    have hcn : ¬ c0.toNat = 48 := fun e => hc48 (UInt8.toNat_inj.1 e)
    have hcb : ((c0.toNat : Int) == 48) = false := by simp; omega
    have fx := And.intro h1 <| And.intro h1' <| And.intro h2 <| And.intro h2' <| And.intro hl <| And.intro hc0 <| And.intro hcE <| And.intro hcn <| hcb
    refine k_run ?_
    clear fx
  all_goals
    refine w_loop (fun n st => ∃ i : Nat, n = v.length - i ∧ i ≤ v.length ∧ st.tm 0 = tx v ∧ st.tm 25 = iv v.length ∧ st.tm 26 = iv i ∧ st.tm 4 = iv (dval (v.take i)) ∧ ∀ c ∈ v.take i, 48 ≤ c.toNat ∧ c.toNat ≤ 57) v.length ?_ ?_
    · exact ⟨0, by omega, by omega, by simp, by simp [hl], by simp, by simp [dval], by simp⟩
    rintro n st - - ⟨i, rfl, hi, h0, h25, h26, h4, hd⟩
    by_cases hil : i < v.length
    · obtain ⟨c, hc⟩ : ∃ c, v[i]? = some c := ⟨_, gE hil⟩
      obtain ⟨_, hcE'⟩ := gS hc
      have hdt := dval_take hc
      have hdl : dval (v.take i) ≤ 9 := dval_le (by rw [List.length_take]; omega) hd
      have hcl := c.toNat_lt
      generalize dval (v.take i) = m at h4 hdt hdl
      by_cases hg : 48 ≤ c.toNat ∧ c.toNat ≤ 57
      · obtain ⟨g1, g2⟩ := hg
        have g1' : ¬ c.toNat < 48 := by omega
        have g2' : ¬ 57 < c.toNat := by omega
        have g1i : ¬ (c.toNat : Int) < 48 := by omega
        have g2i : ¬ (57 : Int) < (c.toNat : Int) := by omega
        obtain ⟨k, hk⟩ : ∃ k : Nat, k = c.toNat - 48 := ⟨_, rfl⟩
        have hw1 : IntKind.i64.wrap (10 * (m : Int)) = 10 * (m : Int) := wrp (by omega) (by omega)
        have hw2 : IntKind.u8.wrap ((c.toNat : Int) - 48) = (k : Int) := by rw [show (c.toNat : Int) - 48 = (k : Int) by omega]; exact u8w (by omega) (by omega)
        have hw3 : IntKind.i64.wrap (k : Int) = (k : Int) := wrp (by omega) (by omega)
        have hw4 : IntKind.i64.wrap (10 * (m : Int) + (k : Int)) = 10 * (m : Int) + (k : Int) := wrp (by omega) (by omega)
        have fx := And.intro h0 <| And.intro h25 <| And.intro h26 <| And.intro h4 <| And.intro hil <| And.intro hc <| And.intro hcE' <| And.intro g1' <| And.intro g2' <| And.intro g1i <| And.intro g2i <| And.intro hw1 <| And.intro hw2 <| And.intro hw3 <| hw4
        refine k_run ?_
        clear fx
        refine ⟨v.length - (i + 1), by omega, i + 1, rfl, by omega, by simp [h0], by simp [h25], by simp; exact wrp (by omega) (by omega), ?_, ?_⟩
        · simp [hdt, ← hk]
        · intro x hx
          rw [List.take_add_one, hc] at hx
          simp at hx
          rcases hx with hx | rfl
          · exact hd x hx
          · exact ⟨g1, g2⟩
      · have hno := small_bad1 hc hg
        by_cases g1 : c.toNat < 48
        · have g1i : (c.toNat : Int) < 48 := by omega
          have fx := And.intro h0 <| And.intro h25 <| And.intro h26 <| And.intro h4 <| And.intro hil <| And.intro hc <| And.intro hcE' <| And.intro g1 <| g1i
          refine k_run ?_
          clear fx
          refine e_ret [] .nil (by simp; rfl) (by simp [hno, numI0])
        · have g1i : ¬ (c.toNat : Int) < 48 := by omega
          have g2 : 57 < c.toNat := by omega
          have g2i : (57 : Int) < (c.toNat : Int) := by omega
          have fx := And.intro h0 <| And.intro h25 <| And.intro h26 <| And.intro h4 <| And.intro hil <| And.intro hc <| And.intro hcE' <| And.intro g1 <| And.intro g1i <| And.intro g2 <| g2i
          refine k_run ?_
          clear fx
          refine e_ret [] .nil (by simp; rfl) (by simp [hno, numI0])
    · obtain rfl : i = v.length := by omega
      rw [List.take_length] at h4 hd
      have hyes := small_digits (by omega) (by omega) hzz hd
      have fx := And.intro h0 <| And.intro h25 <| And.intro h26 <| And.intro h4 <| hil
      refine k_run ?_
      clear fx
      refine e_ret [] .nil (by simp [h4]; rfl) (by simp [hyes, numI0])
abbrev rdW (ls ws : List Txt) : AO := .row 2 [[xsl ls, xsl ws]]
theorem more_fn (gl) (H : Nm → Option AO) (ls ws : List Txt) (hH : H (.u 1 0 0) = some (rdW ls ws)) :
    FnE Tryz.prog gl 129 (Nm.under (.u 1 0 0)) [.pt (.u 1 0 0) 0] H (fun _ y H' => y = bv (!ws.isEmpty) ∧ H' (.u 1 0 0) = some (rdW ls ws)) noE := by
  refine FnE.of_sem Tryz.func129 rfl (by kernel_rfl) (rs := [.tmp 2]) rfl Tryz.ntmps129 (Nat.le_of_ble_eq_true rfl) (fun _ => under_usroot rfl) fun C w g root hroot => ?_
  have fx :=  hH
  refine k_run ?_
  clear fx
  refine e_ret [] .nil (by simp; rfl) ⟨?_, by simp [hH]⟩
  cases ws <;> simp
theorem word_fn (gl) (H : Nm → Option AO) (ls ws : List Txt) (hH : H (.u 1 0 0) = some (rdW ls ws)) :
    FnE Tryz.prog gl 77 (Nm.under (.u 1 0 0)) [.pt (.u 1 0 0) 0] H (fun _ y H' => ∃ w ws', ws = w :: ws' ∧ y = tx w ∧ H' (.u 1 0 0) = some (rdW ls ws')) (badQ (ws = [])) := by
  refine FnE.of_sem Tryz.func77 rfl (by kernel_rfl) (rs := [.tmp 2]) rfl Tryz.ntmps77 (Nat.le_of_ble_eq_true rfl) (fun _ => under_usroot rfl) fun C w g root hroot => ?_
  cases ws with
  | nil =>
    have fx :=  hH
    refine k_run ?_
    clear fx
    intro K hK
    refine x_pan (hx := by simp; first | done | exact ⟨rfl, rfl⟩) ?_
    exact ⟨[], .nil, ⟨_, _, rfl, .inl rfl⟩, rfl⟩
  | cons u us =>
    have hne : ((us.length : Int) + 1 == 0) = false := by simp; omega
    have h1 : (1 : Int) ≤ (us.length : Int) + 1 := by omega
    have fx := And.intro hH <| And.intro hne <| h1
    refine k_run ?_
    clear fx
    refine e_ret [] .nil (by simp; rfl) ⟨u, us, rfl, by simp, by simp⟩
theorem endLine_fn (gl) (H : Nm → Option AO) (ls ws : List Txt) (hH : H (.u 1 0 0) = some (rdW ls ws)) :
    FnE Tryz.prog gl 76 (Nm.under (.u 1 0 0)) [.pt (.u 1 0 0) 0] H (fun _ _ H' => ws = [] ∧ H' (.u 1 0 0) = some (rdW ls ws)) (badQ (ws ≠ [])) := by
  refine FnE.of_sem Tryz.func76 rfl (by kernel_rfl) (rs := []) rfl Tryz.ntmps76 (Nat.le_of_ble_eq_true rfl) (fun _ => under_usroot rfl) fun C w g root hroot => ?_
  have fx :=  hH
  refine k_run ?_
  clear fx
  intro K hK
  have fx := hH
  refine x_mut (.u 1 0 0) rfl (by simp [hH]) (hF := more_fn _ _ ls ws (by simp [hH])) (h := ?_)
  rintro y H1 ⟨rfl, hH1⟩
  clear fx
  cases ws with
  | nil =>
    have fx := And.intro hH <| hH1
    refine k_run ?_
    clear fx
    refine e_norm [] .nil (by simp; rfl) ⟨rfl, by simp [hH1]⟩
  | cons u us =>
    have fx := And.intro hH <| hH1
    refine k_run ?_
    clear fx
    intro K hK
    refine x_pan (hx := by simp; first | done | exact ⟨rfl, rfl⟩) ?_
    exact ⟨[], .nil, ⟨_, _, rfl, .inl rfl⟩, by simp⟩
end Go.Proofs.YtmaoicgfcngciaaGreatDoor
end
section
namespace Go.Proofs.YtmaoicgfcngciaaGreatDoor
open Go Go.Hm Go.Proofs
attribute [local simp] slcAV
theorem number_rd (gl) (H : Nm → Option AO) (ls ws : List Txt) (hws : ∀ v ∈ ws, v.length ≤ 1048577) (hH : H (.u 1 0 0) = some (rdW ls ws)) :
    FnE Tryz.prog gl 113 (Nm.under (.u 1 0 0)) [.pt (.u 1 0 0) 0] H (fun _ y H' => ∃ n ws', rNum ws = some (n, ws') ∧ y = iv n ∧ H' (.u 1 0 0) = some (rdW ls ws')) (badQ (rNum ws = none)) := by
  refine FnE.of_sem Tryz.func113 rfl (by kernel_rfl) (rs := [.tmp 2]) rfl Tryz.ntmps113 (Nat.le_of_ble_eq_true rfl) (fun _ => under_usroot rfl) fun C w g root hroot => ?_
  have fx :=  hH
  refine k_run ?_
  clear fx
  intro K hK
  have fx := hH
  refine x_mutE (.u 1 0 0) rfl (by simp [hH]) (hF := word_fn _ _ ls ws (by simp [hH])) (hE := fun x s hx hq => ⟨[], .nil, hx.tr, by rw [hq]; rfl⟩) (h := ?_)
  rintro y H1 ⟨v, vs, rfl, rfl, hH1⟩
  clear fx
  have hvl := hws v (by simp)
  cases hs : smallN v with
  | none =>
    have hq := smallNumber_fn gl v hvl
    rw [hs] at hq
    have fx :=  hH1
    have c1 := hq
    refine k_run ?_
    clear fx c1
    intro K hK
    refine x_pan (hx := by simp; first | done | exact ⟨rfl, rfl⟩) ?_
    exact ⟨[], .nil, ⟨_, _, rfl, .inl rfl⟩, by simp [rNum, hs]⟩
  | some n =>
    have hq := smallNumber_fn gl v hvl
    rw [hs] at hq
    have fx :=  hH1
    have c1 := hq
    refine k_run ?_
    clear fx c1
    refine e_ret [] .nil (by simp; rfl) ⟨n, vs, by simp [rNum, hs], by simp [numI0], by simp [hH1]⟩
theorem nextLine_fn (gl) {m : Int} (hgm : gl 5 = some [.sc (.int .i64 m)]) (H : Nm → Option AO) (ls : List Txt) (x : AV) (hls : ∀ v ∈ ls, v.length ≤ 1048577) (hH : H (.u 1 0 0) = some (.row 2 [[xsl ls, x]])) :
    FnE Tryz.prog gl 75 (Nm.under (.u 1 0 0)) [.pt (.u 1 0 0) 0] H (fun _ y H' => (ls = [] ∧ y = bv false) ∨ (∃ l ls', ls = l :: ls' ∧ y = bv true ∧ H' (.u 1 0 0) = some (rdW ls' (splitL 32 l)))) noE := by
  refine FnE.of_sem Tryz.func75 rfl (by kernel_rfl) (rs := [.tmp 2]) rfl Tryz.ntmps75 (Nat.le_of_ble_eq_true rfl) (fun _ => under_usroot rfl) fun C w g root hroot => ?_
  cases ls with
  | nil =>
    have fx :=  hH
    refine k_run ?_
    clear fx
    refine e_ret [] .nil (by simp; rfl) (.inl ⟨rfl, by simp⟩)
  | cons u us =>
    have hul := hls u (by simp)
    have hne : ((us.length : Int) + 1 == 0) = false := by simp; omega
    have h1 : (1 : Int) ≤ (us.length : Int) + 1 := by omega
    have hsp := split_at_fn gl hgm u 32 (by omega)
    have fx := And.intro hH <| And.intro hne <| h1
    have p1 := hsp
    refine k_runp ?_
    clear fx p1
    refine e_ret [] .nil (by simp; rfl) (.inr ⟨u, us, rfl, by simp, by simp⟩)
theorem ireader_fn (gl) {m : Int} (hgm : gl 5 = some [.sc (.int .i64 m)]) (s : Txt) (hs : s.length ≤ 1048576) :
    FnE Tryz.prog gl 74 noD [tx s] noH (fun r y H' => (splitL 10 s).getLast? = some [] ∧ y = .pt r 0 ∧ H' r = some (.row 2 [[xsl (splitL 10 s).dropLast, .hs (.c r 0 1) 1 0 0]])) (badQ ((splitL 10 s).getLast? ≠ some [])) := by
  have hsp := split_at_fn gl hgm s 10 (by omega)
  have hne := splitL_ne (c := 10) (l := s)
  have hlen := split_len (c := 10) (s := s)
  generalize splitL 10 s = L at hsp hne hlen ⊢
  obtain ⟨I, z, rfl⟩ : ∃ I z, L = I ++ [z] := ⟨L.dropLast, L.getLast hne, (List.dropLast_concat_getLast hne).symm⟩
  have hl1 : (I ++ [z]).length = I.length + 1 := by simp
  have hz : (I ++ [z])[I.length]? = some z := by simp
  have hw : IntKind.i64.wrap (I.length : Int) = I.length := wrp (by omega) (by omega)
  have hn1 : (I.length : Int) ≤ (I.length : Int) + 1 := by omega
  have hn0 : (0 : Int) ≤ (I.length : Int) := by omega
  refine FnE.of_sem Tryz.func74 rfl (by kernel_rfl) (rs := [.tmp 2]) rfl Tryz.ntmps74 (Nat.le_of_ble_eq_true rfl) (fun _ h => by cases h) fun C w g root hroot => ?_
  by_cases he : z = []
  · have hb : (z == []) = true := by simp [he]
    have fx := And.intro hl1 <| And.intro hz <| And.intro hw <| And.intro hb <| And.intro hn1 <| hn0
    have p1 := hsp
    refine k_runp ?_
    clear fx p1
    refine e_ret [(.s 2, root)] (.one rfl) (by simp; rfl) ⟨by simp [he], by simp, ?_⟩
    simp
  · have hb : (z == []) = false := by simpa using he
    have fx := And.intro hl1 <| And.intro hz <| And.intro hw <| And.intro hb <| And.intro hn1 <| hn0
    have p1 := hsp
    refine k_runp ?_
    clear fx p1
    intro K hK
    refine x_pan (hx := by simp; first | done | exact ⟨rfl, rfl⟩) ?_
    exact ⟨[], .nil, ⟨_, _, rfl, .inl rfl⟩, by simp [he]⟩
end Go.Proofs.YtmaoicgfcngciaaGreatDoor
end
section
namespace Go.Proofs.YtmaoicgfcngciaaGreatDoor
open Go Go.Hm Go.Proofs
attribute [local simp] slcAV
theorem rNum_tail {ws ws' : List Txt} {n : Nat} (h : rNum ws = some (n, ws')) : ∃ u, ws = u :: ws' := by
  cases ws with
  | nil => simp [rNum] at h
  | cons u l =>
    simp only [rNum] at h
    cases hs : smallN u with
    | none => rw [hs] at h; simp at h
    | some k => rw [hs] at h; simp at h; exact ⟨u, by rw [h.2]⟩
theorem rNum_le {ws ws' : List Txt} {n c : Nat} (h : rNum ws = some (n, ws')) (hw : ∀ v ∈ ws, v.length ≤ c) : ∀ v ∈ ws', v.length ≤ c := by
  obtain ⟨u, rfl⟩ := rNum_tail h
  exact fun v hv => hw v (by simp [hv])
theorem kindW_lt {v : Txt} {K : Nat} (h : kindW v = some K) : K < 12 := by
  unfold kindW at h
  have := (List.findIdx?_eq_some_iff_getElem.1 h).1
  exact this
theorem readStmt_fn (gl) (hgs : gl 1 = some ((vtx stmtW).map AV.sc)) (H : Nm → Option AO) (v : Txt) (ls ws : List Txt) (hws : ∀ v ∈ ws, v.length ≤ 1048577) (hH : H (.u 1 0 0) = some (rdW ls ws)) :
    FnE Tryz.prog gl 79 (Nm.under (.u 1 0 0)) [.pt (.u 1 0 0) 0, tx v] H (fun _ y H' => ∃ S ws', rStm v ws = some (S, ws') ∧ y = S.av ∧ H' (.u 1 0 0) = some (rdW ls ws')) (badQ (rStm v ws = none)) := by
  refine FnE.of_sem Tryz.func79 rfl (by kernel_rfl) (rs := [.cell 4 86]) rfl Tryz.ntmps79 (Nat.le_of_ble_eq_true rfl) (fun _ => under_usroot rfl) fun C w g root hroot => ?_
  have hq := kindOf_fn gl hgs v
  cases hk : kindW v with
  | none =>
    have hno : rStm v ws = none := by simp [rStm, hk]
    have hwi : wordI none = -1 := rfl
    rw [hk, hwi] at hq
    have fx :=  hH
    have c1 := hq
    refine k_run ?_
    clear fx c1
    intro K hK
    refine x_pan (hx := by simp; first | done | exact ⟨rfl, rfl⟩) ?_
    exact ⟨[], .nil, ⟨_, _, rfl, .inl rfl⟩, hno⟩
  | some c =>
    have hlt := kindW_lt hk
    have hwi : wordI (some c) = (c : Int) := rfl
    rw [hk, hwi] at hq
    have hcs : c = 0 ∨ c = 1 ∨ c = 2 ∨ c = 3 ∨ c = 4 ∨ c = 5 ∨ c = 6 ∨ c = 7 ∨ c = 8 ∨ c = 9 ∨ c = 10 ∨ c = 11 := by omega
    clear hlt
    rcases hcs with rfl | rfl | rfl | rfl | rfl | rfl | rfl | rfl | rfl | rfl | rfl | rfl
    · skip
      have fx :=  hH
      have c1 := hq
      refine k_run ?_
      clear fx c1
      intro K hK
      have fx := hH
      refine x_mutE (.u 1 0 0) rfl (by simp [hH]) (hF := number_rd _ _ ls ws hws (by simp [hH])) (hE := fun x s hx hq => ⟨[], .nil, hx.tr, by simp [rStm, hk, hq]⟩) (h := ?_)
      rintro y H1 ⟨n1, ws1, hn1, rfl, hH1⟩
      clear fx
      have fx := And.intro hH <| hH1
      have c1 := hq
      refine k_run ?_
      clear fx c1
      intro K hK
      have fx := And.intro hH <| hH1
      refine x_mutE (.u 1 0 0) rfl (by simp [hH, hH1]) (hF := number_rd _ _ ls ws1 (rNum_le hn1 hws) (by simp [hH, hH1])) (hE := fun x s hx hq => ⟨[], .nil, hx.tr, by simp [rStm, hk, hn1, hq]⟩) (h := ?_)
      rintro y H2 ⟨n2, ws2, hn2, rfl, hH2⟩
      clear fx
      have fx := And.intro hH <| And.intro hH1 <| hH2
      refine k_run ?_
      clear fx
      refine e_ret [] .nil (by simp; rfl) ⟨⟨0, n1, n2, 0⟩, ws2, by simp [rStm, hk, hn1, hn2], by simp, by simp [hH2]⟩
    · skip
      have fx :=  hH
      have c1 := hq
      refine k_run ?_
      clear fx c1
      intro K hK
      have fx := hH
      refine x_mutE (.u 1 0 0) rfl (by simp [hH]) (hF := number_rd _ _ ls ws hws (by simp [hH])) (hE := fun x s hx hq => ⟨[], .nil, hx.tr, by simp [rStm, hk, hq]⟩) (h := ?_)
      rintro y H1 ⟨n1, ws1, hn1, rfl, hH1⟩
      clear fx
      have fx := And.intro hH <| hH1
      have c1 := hq
      refine k_run ?_
      clear fx c1
      intro K hK
      have fx := And.intro hH <| hH1
      refine x_mutE (.u 1 0 0) rfl (by simp [hH, hH1]) (hF := number_rd _ _ ls ws1 (rNum_le hn1 hws) (by simp [hH, hH1])) (hE := fun x s hx hq => ⟨[], .nil, hx.tr, by simp [rStm, hk, hn1, hq]⟩) (h := ?_)
      rintro y H2 ⟨n2, ws2, hn2, rfl, hH2⟩
      clear fx
      have fx := And.intro hH <| And.intro hH1 <| hH2
      refine k_run ?_
      clear fx
      refine e_ret [] .nil (by simp; rfl) ⟨⟨1, n1, n2, 0⟩, ws2, by simp [rStm, hk, hn1, hn2], by simp, by simp [hH2]⟩
    · skip
      have fx :=  hH
      have c1 := hq
      refine k_run ?_
      clear fx c1
      intro K hK
      have fx := hH
      refine x_mutE (.u 1 0 0) rfl (by simp [hH]) (hF := number_rd _ _ ls ws hws (by simp [hH])) (hE := fun x s hx hq => ⟨[], .nil, hx.tr, by simp [rStm, hk, hq]⟩) (h := ?_)
      rintro y H1 ⟨n1, ws1, hn1, rfl, hH1⟩
      clear fx
      have fx := And.intro hH <| hH1
      have c1 := hq
      refine k_run ?_
      clear fx c1
      intro K hK
      have fx := And.intro hH <| hH1
      refine x_mutE (.u 1 0 0) rfl (by simp [hH, hH1]) (hF := number_rd _ _ ls ws1 (rNum_le hn1 hws) (by simp [hH, hH1])) (hE := fun x s hx hq => ⟨[], .nil, hx.tr, by simp [rStm, hk, hn1, hq]⟩) (h := ?_)
      rintro y H2 ⟨n2, ws2, hn2, rfl, hH2⟩
      clear fx
      have fx := And.intro hH <| And.intro hH1 <| hH2
      have c1 := hq
      refine k_run ?_
      clear fx c1
      intro K hK
      have fx := And.intro hH <| And.intro hH1 <| hH2
      refine x_mutE (.u 1 0 0) rfl (by simp [hH, hH1, hH2]) (hF := number_rd _ _ ls ws2 (rNum_le hn2 (rNum_le hn1 hws)) (by simp [hH, hH1, hH2])) (hE := fun x s hx hq => ⟨[], .nil, hx.tr, by simp [rStm, hk, hn1, hn2, hq]⟩) (h := ?_)
      rintro y H3 ⟨n3, ws3, hn3, rfl, hH3⟩
      clear fx
      have fx := And.intro hH <| And.intro hH1 <| And.intro hH2 <| hH3
      refine k_run ?_
      clear fx
      refine e_ret [] .nil (by simp; rfl) ⟨⟨2, n1, n2, n3⟩, ws3, by simp [rStm, hk, hn1, hn2, hn3], by simp, by simp [hH3]⟩
    · skip
      have fx :=  hH
      have c1 := hq
      refine k_run ?_
      clear fx c1
      intro K hK
      have fx := hH
      refine x_mutE (.u 1 0 0) rfl (by simp [hH]) (hF := number_rd _ _ ls ws hws (by simp [hH])) (hE := fun x s hx hq => ⟨[], .nil, hx.tr, by simp [rStm, hk, hq]⟩) (h := ?_)
      rintro y H1 ⟨n1, ws1, hn1, rfl, hH1⟩
      clear fx
      have fx := And.intro hH <| hH1
      have c1 := hq
      refine k_run ?_
      clear fx c1
      intro K hK
      have fx := And.intro hH <| hH1
      refine x_mutE (.u 1 0 0) rfl (by simp [hH, hH1]) (hF := number_rd _ _ ls ws1 (rNum_le hn1 hws) (by simp [hH, hH1])) (hE := fun x s hx hq => ⟨[], .nil, hx.tr, by simp [rStm, hk, hn1, hq]⟩) (h := ?_)
      rintro y H2 ⟨n2, ws2, hn2, rfl, hH2⟩
      clear fx
      have fx := And.intro hH <| And.intro hH1 <| hH2
      refine k_run ?_
      clear fx
      refine e_ret [] .nil (by simp; rfl) ⟨⟨3, n1, n2, 0⟩, ws2, by simp [rStm, hk, hn1, hn2], by simp, by simp [hH2]⟩
    · skip
      have fx :=  hH
      have c1 := hq
      refine k_run ?_
      clear fx c1
      intro K hK
      have fx := hH
      refine x_mutE (.u 1 0 0) rfl (by simp [hH]) (hF := number_rd _ _ ls ws hws (by simp [hH])) (hE := fun x s hx hq => ⟨[], .nil, hx.tr, by simp [rStm, hk, hq]⟩) (h := ?_)
      rintro y H1 ⟨n1, ws1, hn1, rfl, hH1⟩
      clear fx
      have fx := And.intro hH <| hH1
      have c1 := hq
      refine k_run ?_
      clear fx c1
      intro K hK
      have fx := And.intro hH <| hH1
      refine x_mutE (.u 1 0 0) rfl (by simp [hH, hH1]) (hF := number_rd _ _ ls ws1 (rNum_le hn1 hws) (by simp [hH, hH1])) (hE := fun x s hx hq => ⟨[], .nil, hx.tr, by simp [rStm, hk, hn1, hq]⟩) (h := ?_)
      rintro y H2 ⟨n2, ws2, hn2, rfl, hH2⟩
      clear fx
      have fx := And.intro hH <| And.intro hH1 <| hH2
      refine k_run ?_
      clear fx
      refine e_ret [] .nil (by simp; rfl) ⟨⟨4, n1, n2, 0⟩, ws2, by simp [rStm, hk, hn1, hn2], by simp, by simp [hH2]⟩
    · skip
      have fx :=  hH
      have c1 := hq
      refine k_run ?_
      clear fx c1
      intro K hK
      have fx := hH
      refine x_mutE (.u 1 0 0) rfl (by simp [hH]) (hF := number_rd _ _ ls ws hws (by simp [hH])) (hE := fun x s hx hq => ⟨[], .nil, hx.tr, by simp [rStm, hk, hq]⟩) (h := ?_)
      rintro y H1 ⟨n1, ws1, hn1, rfl, hH1⟩
      clear fx
      have fx := And.intro hH <| hH1
      have c1 := hq
      refine k_run ?_
      clear fx c1
      intro K hK
      have fx := And.intro hH <| hH1
      refine x_mutE (.u 1 0 0) rfl (by simp [hH, hH1]) (hF := number_rd _ _ ls ws1 (rNum_le hn1 hws) (by simp [hH, hH1])) (hE := fun x s hx hq => ⟨[], .nil, hx.tr, by simp [rStm, hk, hn1, hq]⟩) (h := ?_)
      rintro y H2 ⟨n2, ws2, hn2, rfl, hH2⟩
      clear fx
      have fx := And.intro hH <| And.intro hH1 <| hH2
      refine k_run ?_
      clear fx
      intro K hK
      have fx := And.intro hH <| And.intro hH1 <| hH2
      refine x_mut (.u 1 0 0) rfl (by simp [hH, hH1, hH2]) (hF := more_fn _ _ ls ws2 (by simp [hH, hH1, hH2])) (h := ?_)
      rintro y H3 ⟨rfl, hH3⟩
      clear fx
      cases ws2 with
      | nil =>
        have fx := And.intro hH <| And.intro hH1 <| And.intro hH2 <| hH3
        refine k_run ?_
        clear fx
        refine e_ret [] .nil (by simp; rfl) ⟨⟨5, n1, n2, -1⟩, [], by simp [rStm, hk, hn1, hn2], by simp, by simp [hH3]⟩
      | cons u us =>
        have fx := And.intro hH <| And.intro hH1 <| And.intro hH2 <| hH3
        refine k_run ?_
        clear fx
        intro K hK
        have fx := And.intro hH <| And.intro hH1 <| And.intro hH2 <| hH3
        refine x_mutE (.u 1 0 0) rfl (by simp [hH, hH1, hH2, hH3]) (hF := number_rd _ _ ls (u :: us) (rNum_le hn2 (rNum_le hn1 hws)) (by simp [hH, hH1, hH2, hH3])) (hE := fun x s hx hq => ⟨[], .nil, hx.tr, by simp [rStm, hk, hn1, hn2, hq]⟩) (h := ?_)
        rintro y H4 ⟨n3, ws3, hn3, rfl, hH4⟩
        clear fx
        have fx := And.intro hH <| And.intro hH1 <| And.intro hH2 <| And.intro hH3 <| hH4
        refine k_run ?_
        clear fx
        refine e_ret [] .nil (by simp; rfl) ⟨⟨5, n1, n2, n3⟩, ws3, by simp [rStm, hk, hn1, hn2, hn3], by simp, by simp [hH4]⟩
    · skip
      have fx :=  hH
      have c1 := hq
      refine k_run ?_
      clear fx c1
      intro K hK
      have fx := hH
      refine x_mutE (.u 1 0 0) rfl (by simp [hH]) (hF := number_rd _ _ ls ws hws (by simp [hH])) (hE := fun x s hx hq => ⟨[], .nil, hx.tr, by simp [rStm, hk, hq]⟩) (h := ?_)
      rintro y H1 ⟨n1, ws1, hn1, rfl, hH1⟩
      clear fx
      have fx := And.intro hH <| hH1
      have c1 := hq
      refine k_run ?_
      clear fx c1
      intro K hK
      have fx := And.intro hH <| hH1
      refine x_mutE (.u 1 0 0) rfl (by simp [hH, hH1]) (hF := number_rd _ _ ls ws1 (rNum_le hn1 hws) (by simp [hH, hH1])) (hE := fun x s hx hq => ⟨[], .nil, hx.tr, by simp [rStm, hk, hn1, hq]⟩) (h := ?_)
      rintro y H2 ⟨n2, ws2, hn2, rfl, hH2⟩
      clear fx
      have fx := And.intro hH <| And.intro hH1 <| hH2
      have c1 := hq
      refine k_run ?_
      clear fx c1
      intro K hK
      have fx := And.intro hH <| And.intro hH1 <| hH2
      refine x_mutE (.u 1 0 0) rfl (by simp [hH, hH1, hH2]) (hF := number_rd _ _ ls ws2 (rNum_le hn2 (rNum_le hn1 hws)) (by simp [hH, hH1, hH2])) (hE := fun x s hx hq => ⟨[], .nil, hx.tr, by simp [rStm, hk, hn1, hn2, hq]⟩) (h := ?_)
      rintro y H3 ⟨n3, ws3, hn3, rfl, hH3⟩
      clear fx
      have fx := And.intro hH <| And.intro hH1 <| And.intro hH2 <| hH3
      refine k_run ?_
      clear fx
      refine e_ret [] .nil (by simp; rfl) ⟨⟨6, n1, n2, n3⟩, ws3, by simp [rStm, hk, hn1, hn2, hn3], by simp, by simp [hH3]⟩
    · skip
      have fx :=  hH
      have c1 := hq
      refine k_run ?_
      clear fx c1
      intro K hK
      have fx := hH
      refine x_mutE (.u 1 0 0) rfl (by simp [hH]) (hF := number_rd _ _ ls ws hws (by simp [hH])) (hE := fun x s hx hq => ⟨[], .nil, hx.tr, by simp [rStm, hk, hq]⟩) (h := ?_)
      rintro y H1 ⟨n1, ws1, hn1, rfl, hH1⟩
      clear fx
      have fx := And.intro hH <| hH1
      refine k_run ?_
      clear fx
      refine e_ret [] .nil (by simp; rfl) ⟨⟨7, 0, n1, 0⟩, ws1, by simp [rStm, hk, hn1], by simp, by simp [hH1]⟩
    · skip
      have fx :=  hH
      have c1 := hq
      refine k_run ?_
      clear fx c1
      intro K hK
      have fx := hH
      refine x_mutE (.u 1 0 0) rfl (by simp [hH]) (hF := number_rd _ _ ls ws hws (by simp [hH])) (hE := fun x s hx hq => ⟨[], .nil, hx.tr, by simp [rStm, hk, hq]⟩) (h := ?_)
      rintro y H1 ⟨n1, ws1, hn1, rfl, hH1⟩
      clear fx
      have fx := And.intro hH <| hH1
      refine k_run ?_
      clear fx
      refine e_ret [] .nil (by simp; rfl) ⟨⟨8, 0, n1, 0⟩, ws1, by simp [rStm, hk, hn1], by simp, by simp [hH1]⟩
    · skip
      have fx :=  hH
      have c1 := hq
      refine k_run ?_
      clear fx c1
      intro K hK
      have fx := hH
      refine x_mutE (.u 1 0 0) rfl (by simp [hH]) (hF := number_rd _ _ ls ws hws (by simp [hH])) (hE := fun x s hx hq => ⟨[], .nil, hx.tr, by simp [rStm, hk, hq]⟩) (h := ?_)
      rintro y H1 ⟨n1, ws1, hn1, rfl, hH1⟩
      clear fx
      have fx := And.intro hH <| hH1
      refine k_run ?_
      clear fx
      refine e_ret [] .nil (by simp; rfl) ⟨⟨9, n1, 0, 0⟩, ws1, by simp [rStm, hk, hn1], by simp, by simp [hH1]⟩
    · skip
      have fx :=  hH
      have c1 := hq
      refine k_run ?_
      clear fx c1
      intro K hK
      have fx := hH
      refine x_mutE (.u 1 0 0) rfl (by simp [hH]) (hF := number_rd _ _ ls ws hws (by simp [hH])) (hE := fun x s hx hq => ⟨[], .nil, hx.tr, by simp [rStm, hk, hq]⟩) (h := ?_)
      rintro y H1 ⟨n1, ws1, hn1, rfl, hH1⟩
      clear fx
      have fx := And.intro hH <| hH1
      refine k_run ?_
      clear fx
      refine e_ret [] .nil (by simp; rfl) ⟨⟨10, n1, 0, 0⟩, ws1, by simp [rStm, hk, hn1], by simp, by simp [hH1]⟩
    · skip
      have fx :=  hH
      have c1 := hq
      refine k_run ?_
      clear fx c1
      intro K hK
      have fx := hH
      refine x_mutE (.u 1 0 0) rfl (by simp [hH]) (hF := number_rd _ _ ls ws hws (by simp [hH])) (hE := fun x s hx hq => ⟨[], .nil, hx.tr, by simp [rStm, hk, hq]⟩) (h := ?_)
      rintro y H1 ⟨n1, ws1, hn1, rfl, hH1⟩
      clear fx
      have fx := And.intro hH <| hH1
      refine k_run ?_
      clear fx
      refine e_ret [] .nil (by simp; rfl) ⟨⟨11, n1, 0, 0⟩, ws1, by simp [rStm, hk, hn1], by simp, by simp [hH1]⟩
end Go.Proofs.YtmaoicgfcngciaaGreatDoor
end
section
namespace Go.Proofs.YtmaoicgfcngciaaGreatDoor
open Go Go.Hm Go.Proofs
attribute [local simp] slcAV
theorem head_len {k : Blk} {ws ws' : List Txt} (h : rHead ws = some (k, ws')) : k.params.length ≤ 1 ∧ k.body = [] := by
  unfold rHead at h
  split at h
  · rename_i q f l _
    split at h
    · split at h
      · simp at h; obtain ⟨rfl, _⟩ := h; exact ⟨by simp, rfl⟩
      · rename_i x l' _
        cases hx : smallN x with
        | none => rw [hx] at h; simp at h
        | some n => rw [hx] at h; simp at h; obtain ⟨rfl, _⟩ := h; exact ⟨by simp, rfl⟩
    · split at h
      · simp at h; obtain ⟨rfl, _⟩ := h; exact ⟨by simp, rfl⟩
      · cases h
  · cases h
theorem readHead_fn (gl) (H : Nm → Option AO) (ls ws : List Txt) (hws : ∀ v ∈ ws, v.length ≤ 1048577) (hH : H (.u 1 0 0) = some (rdW ls ws)) :
    FnE Tryz.prog gl 78 (Nm.under (.u 1 0 0)) [.pt (.u 1 0 0) 0] H (fun r y H' => ∃ k ws', rHead ws = some (k, ws') ∧ y = .agg [iv k.kind, iv k.parent, .hs (.c r 0 2) 1 0 k.params.length, .hs (.c r 0 3) 4 0 0] ∧ H' (.c r 0 2) = some (.row 1 (irows k.params)) ∧ H' (.c r 0 3) = some (.row 4 []) ∧ H' (.u 1 0 0) = some (rdW ls ws')) (badQ (rHead ws = none)) := by
  refine FnE.of_sem Tryz.func78 rfl (by kernel_rfl) (rs := [.cell 2 44]) rfl Tryz.ntmps78 (Nat.le_of_ble_eq_true rfl) (fun _ => under_usroot rfl) fun C w g root hroot => ?_
  have hr0 := hroot root (Nm.under_self _)
  have fx :=  hH
  refine k_run ?_
  clear fx
  intro K hK
  have fx := hH
  refine x_mutE (.u 1 0 0) rfl (by simp [hH]) (hF := number_rd _ _ ls ws hws (by simp [hH])) (hE := fun x s hx hq => ⟨[], .nil, hx.tr, by simp [rHead, hq]⟩) (h := ?_)
  rintro y H1 ⟨q, ws1, hn, rfl, hH1⟩
  clear fx
  have fx := And.intro hH <| hH1
  refine k_run ?_
  clear fx
  intro K hK
  have fx := And.intro hH hH1
  refine x_mutE (.u 1 0 0) rfl (by simp [hH, hH1]) (hF := word_fn _ _ ls ws1 (by simp [hH, hH1])) (hE := fun x s hx hq => ⟨[], .nil, hx.tr, by simp [rHead, hn, hq]⟩) (h := ?_)
  rintro y H2 ⟨v, ws2, rfl, rfl, hH2⟩
  clear fx
  have hw1 := rNum_le hn hws
  have hw2 : ∀ u ∈ ws2, u.length ≤ 1048577 := fun u hu => hw1 u (by simp [hu])
  by_cases hf : v = tFun
  · have e1 : (v == [102, 117, 110]) = true := by rw [hf]; rfl
    have fx := And.intro hH <| And.intro hH1 <| And.intro hH2 <| e1
    refine k_run ?_
    clear fx
    intro K hK
    have fx := And.intro hH <| And.intro hH1 hH2
    refine x_mut (.u 1 0 0) rfl (by simp [hH, hH1, hH2]) (hF := more_fn _ _ ls ws2 (by simp [hH, hH1, hH2])) (h := ?_)
    rintro y H3 ⟨rfl, hH3⟩
    clear fx
    cases ws2 with
    | nil =>
      have fx := And.intro hH <| And.intro hH1 <| And.intro hH2 <| hH3
      refine k_run ?_
      clear fx
      refine e_ret [(.s 3, root)] (.one rfl) (by simp; rfl) ⟨⟨1, q, [], []⟩, [], by simp [rHead, hn, hf], ?_, ?_, ?_, ?_⟩
      · simp
      · simp [hr0, irows]
      · simp [hr0]
      · simp [hH3]
    | cons u us =>
      have fx := And.intro hH <| And.intro hH1 <| And.intro hH2 <| hH3
      refine k_run ?_
      clear fx
      intro K hK
      have fx := And.intro hH <| And.intro hH1 <| And.intro hH2 hH3
      refine x_mutE (.u 1 0 0) rfl (by simp [hH, hH1, hH2, hH3]) (hF := number_rd _ _ ls (u :: us) hw2 (by simp [hH, hH1, hH2, hH3])) (hE := fun x s hx hq => ⟨[], .nil, hx.tr, ?_⟩) (h := ?_)
      · cases hu : smallN u with
        | none => simp [rHead, hn, hf, hu]
        | some n => simp [rNum, hu] at hq
      rintro y H4 ⟨n, ws4, hn4, rfl, hH4⟩
      clear fx
      have hu : smallN u = some n ∧ us = ws4 := by
        cases hu : smallN u with
        | none => simp [rNum, hu] at hn4
        | some k => simp [rNum, hu] at hn4; exact ⟨by rw [hn4.1], hn4.2⟩
      obtain ⟨hu, rfl⟩ := hu
      have fx := And.intro hH <| And.intro hH1 <| And.intro hH2 <| And.intro hH3 <| hH4
      refine k_run ?_
      clear fx
      refine e_ret [(.s 3, root)] (.one rfl) (by simp; rfl) ⟨⟨1, q, [(n : Int)], []⟩, us, by simp [rHead, hn, hf, hu], by simp, by simp [hr0, irows], by simp [hr0], by simp [hH4]⟩
  have e1 : (v == [102, 117, 110]) = false := by simpa [tFun] using hf
  by_cases hc : v = tClass
  · have e2 : (v == [99, 108, 97, 115, 115]) = true := by rw [hc]; rfl
    have fx := And.intro hH <| And.intro hH1 <| And.intro hH2 <| And.intro e1 <| e2
    refine k_run ?_
    clear fx
    refine e_ret [(.s 3, root)] (.one rfl) (by simp; rfl) ⟨⟨2, q, [], []⟩, ws2, by simp [rHead, hn, hc, (show ¬ tClass = tFun by decide)], by simp, by simp [hr0, irows], by simp [hr0], by simp [hH2]⟩
  have e2 : (v == [99, 108, 97, 115, 115]) = false := by simpa [tClass] using hc
  have fx := And.intro hH <| And.intro hH1 <| And.intro hH2 <| And.intro e1 <| e2
  refine k_run ?_
  clear fx
  intro K hK
  refine x_pan (hx := by simp; first | done | exact ⟨rfl, rfl⟩) ?_
  exact ⟨[], .nil, ⟨_, _, rfl, .inl rfl⟩, by simp [rHead, hn, hf, hc]⟩
end Go.Proofs.YtmaoicgfcngciaaGreatDoor
end
