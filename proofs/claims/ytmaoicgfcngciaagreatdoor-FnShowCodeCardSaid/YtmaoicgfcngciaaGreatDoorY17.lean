/-
  Own texts, joined by mkclaim.py: Ul, Um, Un, Uo, Ga, Gb, Gc, Gd, Ge.
-/
import Derived.Test.YtmaoicgfcngciaaGreatDoorProg
import Derived.Test.YtmaoicgfcngciaaGreatDoorY16
import Derived.Test.YtmaoicgfcngciaaGreatDoorY15
import Derived.Test.YtmaoicgfcngciaaGreatDoorY09
import Derived.Test.YtmaoicgfcngciaaGreatDoorY12
import Derived.Test.YtmaoicgfcngciaaGreatDoorY08
set_option linter.unusedSimpArgs false
set_option linter.unusedVariables false
set_option maxRecDepth 100000
set_option maxHeartbeats 4000000

section
namespace Go.Proofs.YtmaoicgfcngciaaGreatDoor
open Go Go.Hm Go.Proofs
open Go.Shelf
def libRen : Ren := ⟨fun | 0 => 0 | 1 => 1 | 2 => 2 | 129 => 217 | 138 => 203 | 143 => 204 | 146 => 128 | 166 => 46 | 169 => 48 | 171 => 70 | 195 => 221 | 197 => 222 | 217 => 232 | 218 => 223 | 219 => 224 | 221 => 170 | 224 => 234 | 225 => 233 | 240 => 96 | 243 => 123 | 246 => 169 | 260 => 231 | 266 => 237 | 267 => 235 | 268 => 202 | 276 => 148 | 283 => 198 | 284 => 199 | 285 => 200 | 286 => 201 | 314 => 238 | 317 => 216 | 318 => 218 | 319 => 219 | 320 => 220 | 337 => 229 | 338 => 230 | 347 => 239 | 348 => 240 | 349 => 241 | 350 => 242 | 351 => 243 | 352 => 244 | 353 => 245 | 354 => 246 | 355 => 247 | 356 => 248 | 357 => 249 | 358 => 250 | 359 => 251 | 360 => 252 | 361 => 253 | 362 => 254 | 366 => 264 | 367 => 276 | n => n, fun | 0 => 0 | 1 => 1 | 2 => 2 | 3 => 3 | 4 => 4 | 5 => 5 | 6 => 6 | 7 => 7 | 8 => 8 | 9 => 9 | 10 => 10 | 11 => 11 | 12 => 12 | 13 => 13 | 14 => 14 | 15 => 15 | 16 => 16 | 17 => 17 | 18 => 18 | 19 => 19 | 20 => 20 | 21 => 21 | 26 => 57 | 27 => 265 | 28 => 41 | 29 => 132 | 30 => 125 | 31 => 64 | 34 => 93 | 36 => 140 | 37 => 37 | 46 => 280 | 47 => 281 | 51 => 278 | 52 => 290 | 53 => 259 | 54 => 260 | 55 => 284 | 61 => 188 | 70 => 71 | 71 => 72 | 72 => 73 | 74 => 74 | 75 => 75 | 76 => 76 | 77 => 77 | 80 => 80 | 81 => 162 | 83 => 69 | 84 => 232 | 103 => 45 | 104 => 29 | 105 => 282 | 106 => 283 | 111 => 68 | 113 => 233 | 114 => 139 | 119 => 294 | 127 => 138 | 131 => 220 | 137 => 295 | 138 => 296 | 139 => 297 | 146 => 298 | 150 => 264 | 151 => 299 | 164 => 195 | 165 => 196 | 171 => 258 | 172 => 261 | 173 => 262 | 174 => 263 | 211 => 276 | 212 => 277 | 213 => 279 | 232 => 292 | 233 => 293 | 238 => 300 | 239 => 301 | 240 => 302 | 241 => 303 | 242 => 304 | 243 => 305 | 244 => 306 | 245 => 307 | 246 => 308 | 247 => 309 | 248 => 310 | 249 => 311 | n => n, fun | 1 => 5 | 3 => 8 | 4 => 9 | 17 => 4 | 18 => 6 | 19 => 7 | n => n⟩
theorem lay166 : Lays.n166 Tryz.prog libRen := { mixed := by kernel_rfl, f166 := Tryz.func46.trans (congrArg some (by kernel_rfl)), f240 := Tryz.func96.trans (congrArg some (by kernel_rfl)), f276 := Tryz.func148.trans (congrArg some (by kernel_rfl)), t0 := Tryz.underlying0, a0 := Tryz.isAgg0, z0 := Tryz.sizeOf0, v0 := Tryz.zeroValue0, t3 := Tryz.underlying3, a3 := Tryz.isAgg3, z3 := Tryz.sizeOf3, v3 := Tryz.zeroValue3, t4 := Tryz.underlying4, a4 := Tryz.isAgg4, z4 := Tryz.sizeOf4, v4 := Tryz.zeroValue4, t9 := Tryz.underlying9, a9 := Tryz.isAgg9, z9 := Tryz.sizeOf9, v9 := Tryz.zeroValue9, t20 := Tryz.underlying20, a20 := Tryz.isAgg20, z20 := Tryz.sizeOf20, v20 := Tryz.zeroValue20, t37 := Tryz.underlying37, a37 := Tryz.isAgg37, z37 := Tryz.sizeOf37, v37 := Tryz.zeroValue37, t70 := Tryz.underlying71, a70 := Tryz.isAgg71, z70 := Tryz.sizeOf71, v70 := Tryz.zeroValue71, t72 := Tryz.underlying73, a72 := Tryz.isAgg73, z72 := Tryz.sizeOf73, v72 := Tryz.zeroValue73, t75 := Tryz.underlying75, a75 := Tryz.isAgg75, z75 := Tryz.sizeOf75, v75 := Tryz.zeroValue75, t164 := Tryz.underlying195, a164 := Tryz.isAgg195, z164 := Tryz.sizeOf195, v164 := Tryz.zeroValue195 }
theorem lay169 : Lays.n169 Tryz.prog libRen := { mixed := by kernel_rfl, f169 := Tryz.func48.trans (congrArg some (by kernel_rfl)), t0 := Tryz.underlying0, a0 := Tryz.isAgg0, z0 := Tryz.sizeOf0, v0 := Tryz.zeroValue0, t3 := Tryz.underlying3, a3 := Tryz.isAgg3, z3 := Tryz.sizeOf3, v3 := Tryz.zeroValue3, t9 := Tryz.underlying9, a9 := Tryz.isAgg9, z9 := Tryz.sizeOf9, v9 := Tryz.zeroValue9, t37 := Tryz.underlying37, a37 := Tryz.isAgg37, z37 := Tryz.sizeOf37, v37 := Tryz.zeroValue37, t70 := Tryz.underlying71, a70 := Tryz.isAgg71, z70 := Tryz.sizeOf71, v70 := Tryz.zeroValue71, t72 := Tryz.underlying73, a72 := Tryz.isAgg73, z72 := Tryz.sizeOf73, v72 := Tryz.zeroValue73, t127 := Tryz.underlying138, a127 := Tryz.isAgg138, z127 := Tryz.sizeOf138, v127 := Tryz.zeroValue138 }
theorem lay171 : Lays.n171 Tryz.prog libRen := { mixed := by kernel_rfl, f129 := Tryz.func217.trans (congrArg some (by kernel_rfl)), f171 := Tryz.func70.trans (congrArg some (by kernel_rfl)), f243 := Tryz.func123.trans (congrArg some (by kernel_rfl)), f246 := Tryz.func169.trans (congrArg some (by kernel_rfl)), f283 := Tryz.func198.trans (congrArg some (by kernel_rfl)), f284 := Tryz.func199.trans (congrArg some (by kernel_rfl)), f285 := Tryz.func200.trans (congrArg some (by kernel_rfl)), f286 := Tryz.func201.trans (congrArg some (by kernel_rfl)), f317 := Tryz.func216.trans (congrArg some (by kernel_rfl)), f318 := Tryz.func218.trans (congrArg some (by kernel_rfl)), f319 := Tryz.func219.trans (congrArg some (by kernel_rfl)), f320 := Tryz.func220.trans (congrArg some (by kernel_rfl)), f337 := Tryz.func229.trans (congrArg some (by kernel_rfl)), f338 := Tryz.func230.trans (congrArg some (by kernel_rfl)), t0 := Tryz.underlying0, a0 := Tryz.isAgg0, z0 := Tryz.sizeOf0, v0 := Tryz.zeroValue0, t2 := Tryz.underlying2, a2 := Tryz.isAgg2, z2 := Tryz.sizeOf2, v2 := Tryz.zeroValue2, t3 := Tryz.underlying3, a3 := Tryz.isAgg3, z3 := Tryz.sizeOf3, v3 := Tryz.zeroValue3, t4 := Tryz.underlying4, a4 := Tryz.isAgg4, z4 := Tryz.sizeOf4, v4 := Tryz.zeroValue4, t5 := Tryz.underlying5, a5 := Tryz.isAgg5, z5 := Tryz.sizeOf5, v5 := Tryz.zeroValue5, t9 := Tryz.underlying9, a9 := Tryz.isAgg9, z9 := Tryz.sizeOf9, v9 := Tryz.zeroValue9, t20 := Tryz.underlying20, a20 := Tryz.isAgg20, z20 := Tryz.sizeOf20, v20 := Tryz.zeroValue20, t37 := Tryz.underlying37, a37 := Tryz.isAgg37, z37 := Tryz.sizeOf37, v37 := Tryz.zeroValue37, t46 := Tryz.underlying280, a46 := Tryz.isAgg280, z46 := Tryz.sizeOf280, v46 := Tryz.zeroValue280, t51 := Tryz.underlying278, a51 := Tryz.isAgg278, z51 := Tryz.sizeOf278, v51 := Tryz.zeroValue278, t53 := Tryz.underlying259, a53 := Tryz.isAgg259, z53 := Tryz.sizeOf259, v53 := Tryz.zeroValue259, t171 := Tryz.underlying258, a171 := Tryz.isAgg258, z171 := Tryz.sizeOf258, v171 := Tryz.zeroValue258, t173 := Tryz.underlying262, a173 := Tryz.isAgg262, z173 := Tryz.sizeOf262, v173 := Tryz.zeroValue262, t212 := Tryz.underlying277, a212 := Tryz.isAgg277, z212 := Tryz.sizeOf277, v212 := Tryz.zeroValue277, t213 := Tryz.underlying279, a213 := Tryz.isAgg279, z213 := Tryz.sizeOf279, t232 := Tryz.underlying292, a232 := Tryz.isAgg292, z232 := Tryz.sizeOf292, v232 := Tryz.zeroValue292, t233 := Tryz.underlying293, a233 := Tryz.isAgg293, z233 := Tryz.sizeOf293, v233 := Tryz.zeroValue293, g17 := by kernel_rfl, g18 := by kernel_rfl, g19 := by kernel_rfl }
theorem lay146 : Lays.n146 Tryz.prog libRen := { mixed := by kernel_rfl, f138 := Tryz.func203.trans (congrArg some (by kernel_rfl)), f143 := Tryz.func204.trans (congrArg some (by kernel_rfl)), f146 := Tryz.func128.trans (congrArg some (by kernel_rfl)), f195 := Tryz.func221.trans (congrArg some (by kernel_rfl)), f197 := Tryz.func222.trans (congrArg some (by kernel_rfl)), f217 := Tryz.func232.trans (congrArg some (by kernel_rfl)), f218 := Tryz.func223.trans (congrArg some (by kernel_rfl)), f219 := Tryz.func224.trans (congrArg some (by kernel_rfl)), f221 := Tryz.func170.trans (congrArg some (by kernel_rfl)), f224 := Tryz.func234.trans (congrArg some (by kernel_rfl)), f225 := Tryz.func233.trans (congrArg some (by kernel_rfl)), f260 := Tryz.func231.trans (congrArg some (by kernel_rfl)), f266 := Tryz.func237.trans (congrArg some (by kernel_rfl)), f267 := Tryz.func235.trans (congrArg some (by kernel_rfl)), f268 := Tryz.func202.trans (congrArg some (by kernel_rfl)), f314 := Tryz.func238.trans (congrArg some (by kernel_rfl)), t0 := Tryz.underlying0, a0 := Tryz.isAgg0, z0 := Tryz.sizeOf0, v0 := Tryz.zeroValue0, t3 := Tryz.underlying3, a3 := Tryz.isAgg3, z3 := Tryz.sizeOf3, v3 := Tryz.zeroValue3, t4 := Tryz.underlying4, a4 := Tryz.isAgg4, z4 := Tryz.sizeOf4, v4 := Tryz.zeroValue4, t5 := Tryz.underlying5, a5 := Tryz.isAgg5, z5 := Tryz.sizeOf5, v5 := Tryz.zeroValue5, t9 := Tryz.underlying9, a9 := Tryz.isAgg9, z9 := Tryz.sizeOf9, v9 := Tryz.zeroValue9, t21 := Tryz.underlying21, a21 := Tryz.isAgg21, z21 := Tryz.sizeOf21, v21 := Tryz.zeroValue21, t31 := Tryz.underlying64, a31 := Tryz.isAgg64, z31 := Tryz.sizeOf64, v31 := Tryz.zeroValue64, t46 := Tryz.underlying280, a46 := Tryz.isAgg280, z46 := Tryz.sizeOf280, v46 := Tryz.zeroValue280, t51 := Tryz.underlying278, a51 := Tryz.isAgg278, z51 := Tryz.sizeOf278, v51 := Tryz.zeroValue278, t105 := Tryz.underlying282, a105 := Tryz.isAgg282, z105 := Tryz.sizeOf282, v105 := Tryz.zeroValue282, t119 := Tryz.underlying294, a119 := Tryz.isAgg294, z119 := Tryz.sizeOf294, t138 := Tryz.underlying296, a138 := Tryz.isAgg296, z138 := Tryz.sizeOf296, v138 := Tryz.zeroValue296, t139 := Tryz.underlying297, a139 := Tryz.isAgg297, z139 := Tryz.sizeOf297, v139 := Tryz.zeroValue297, t146 := Tryz.underlying298, a146 := Tryz.isAgg298, z146 := Tryz.sizeOf298, v146 := Tryz.zeroValue298, g1 := by kernel_rfl, g3 := by kernel_rfl, g4 := by kernel_rfl }
theorem layB : Builder.Extra Tryz.prog libRen := { sizeBuilder := by kernel_rfl, liesBuilder := by kernel_rfl, t5 := Tryz.underlying5, a5 := Tryz.isAgg5, z5 := Tryz.sizeOf5, v5 := Tryz.zeroValue5, infoByte := by kernel_rfl, cellsByte := by kernel_rfl, sizeByte := by kernel_rfl, neB5 := by decide }
theorem bld_zv : zvals Tryz.prog 73 = some [.sc (.pointer none), .sc (.slice none 0 0)] := by kernel_rfl
@[simp] theorem lib_b : libRen.t 72 = 73 := rfl
@[simp] theorem lib_u : libRen.t 5 = 5 := rfl
theorem itoa_at (gl) (n : Int) (h : 0 ≤ n ∧ n ≤ 99) : FnOk Tryz.prog gl 70 [iv n] (fun _ y _ => y = tx (numI n)) := by
  obtain ⟨m, rfl⟩ : ∃ m : Nat, n = m := ⟨n.toNat, by omega⟩
  exact itoa_fn lay171 gl m (by omega)
theorem split_at_fn (gl) {m : Int} (hgm : gl 5 = some [.sc (.int .i64 m)]) (l : Txt) (c : UInt8) (hl : l.length < 4294967281) : FnOk Tryz.prog gl 128 [tx l, tx [c]] (fun _ y _ => y = xsl (splitL c l)) :=
  split_fn lay146 (by kernel_rfl) gl m hgm l c hl
end Go.Proofs.YtmaoicgfcngciaaGreatDoor
end
section
namespace Go.Proofs.YtmaoicgfcngciaaGreatDoor
open Go Go.Hm Go.Proofs
attribute [local simp] slcAV
theorem u8w {n : Int} (h1 : 0 ≤ n) (h2 : n ≤ 255) : IntKind.u8.wrap n = n := by rw [IntKind.wrap_u8]; omega
theorem codeW_first {v : Txt} {i : Nat} {u : Txt} (hu : opW[i]? = some u) (he : u = v) (hno : ∀ j, j < i → ∀ x, opW[j]? = some x → x ≠ v) : codeW v = some i := by
  obtain ⟨hi, hE⟩ := gS hu
  unfold codeW
  rw [List.findIdx?_eq_some_iff_getElem]
  refine ⟨hi, by simp [hE, he], fun j hj => ?_⟩
  have := hno j hj _ (gE (by omega))
  simpa using this
theorem codeW_no {v : Txt} (hno : ∀ j, j < 21 → ∀ x, opW[j]? = some x → x ≠ v) : codeW v = none := by
  unfold codeW
  rw [List.findIdx?_eq_none_iff]
  intro x hx
  obtain ⟨j, hj⟩ := List.getElem?_of_mem hx
  have := hno j (gS hj).1 x hj
  simpa using this
def wordI (o : Option Nat) : Int := match o with | some n => n | none => -1
theorem codeOf_fn (gl) (hgl : gl 0 = some ((vtx opW).map AV.sc)) (v : Txt) : FnOk Tryz.prog gl 112 [tx v] (fun _ y _ => y = iv (wordI (codeW v))) := by
  have hol : opW.length = 21 := rfl
  have htk : List.take 21 opW = opW := rfl
  have htm : ∀ f : Txt → AV, List.take 21 (List.map f opW) = List.map f opW := fun f => rfl
  refine FnOk.of_sem Tryz.func112 rfl (by kernel_rfl) (rs := [.tmp 2]) rfl Tryz.ntmps112 (Nat.le_of_ble_eq_true rfl) fun C w g root => ?_
  have fx := And.intro hgl <| And.intro hol <| And.intro htk <| htm
  refine k_run ?_
  clear fx
  refine w_loop (fun n st => ∃ i : Nat, n = 21 - i ∧ i ≤ 21 ∧ st.tm 0 = tx v ∧ st.tm 5 = .agg ((vtx opW).map AV.sc) ∧ st.tm 6 = iv i ∧ ∀ j, j < i → ∀ x, opW[j]? = some x → x ≠ v) 21 ?_ ?_
  · exact ⟨0, by omega, by omega, by simp, by simp [htk, htm], by simp, fun j hj => absurd hj (by omega)⟩
  rintro n st - - ⟨i, rfl, hi, h0, h5, h6, hno⟩
  by_cases hil : i < 21
  · have hii : (i : Int) < 21 := by omega
    have hil' : i < opW.length := hil
    obtain ⟨u, hu⟩ : ∃ u, opW[i]? = some u := ⟨_, gE hil'⟩
    obtain ⟨_, huE⟩ := gS hu
    by_cases he : u = v
    · have hb : (u == v) = true := by simpa using he
      have fx := And.intro h0 <| And.intro h5 <| And.intro h6 <| And.intro hii <| And.intro hil <| And.intro hil' <| And.intro hu <| And.intro huE <| hb
      refine k_run ?_
      clear fx
      rw [codeW_first hu he hno]
      refine e_ret [] .nil (by simp; rfl) (by simp [wordI])
    · have hb : (u == v) = false := by simpa using he
      have fx := And.intro h0 <| And.intro h5 <| And.intro h6 <| And.intro hii <| And.intro hil <| And.intro hil' <| And.intro hu <| And.intro huE <| hb
      refine k_run ?_
      clear fx
      refine ⟨21 - (i + 1), by omega, i + 1, rfl, by omega, by simp [h0], by simp [h5], by simp [h6]; exact wrp (by omega) (by omega), fun j hj x hx => ?_⟩
      by_cases e : j = i
      · subst e
        rw [hu] at hx
        obtain rfl := Option.some.inj hx
        exact he
      · exact hno j (by omega) x hx
  · obtain rfl : i = 21 := by omega
    rw [codeW_no hno]
    have fx := And.intro h0 <| And.intro h5 <| h6
    refine k_run ?_
    clear fx
    refine e_ret [] .nil (by simp; rfl) (by simp [wordI])
end Go.Proofs.YtmaoicgfcngciaaGreatDoor
end
section
namespace Go.Proofs.YtmaoicgfcngciaaGreatDoor
open Go Go.Hm Go.Proofs
attribute [local simp] slcAV
def numI0 (o : Option Nat) : Int := match o with | some n => n | none => 0
theorem smallNumber_fn (gl) (v : Txt) (hv : v.length ≤ 1048577) : FnOk Tryz.prog gl 158 [tx v] (fun _ y _ => y = .tup [iv (numI0 (smallN v)), bv (smallN v).isSome]) := by
  refine FnOk.of_sem Tryz.func158 rfl (by kernel_rfl) (rs := [.tmp 2, .tmp 3]) rfl Tryz.ntmps158 (Nat.le_of_ble_eq_true rfl) fun C w g root => ?_
  by_cases h1 : v.length < 1
  · have hno := small_len (s := v) (.inl h1)
    have h1' : (v.length : Int) < 1 := by omega
    have fx := And.intro h1 <| h1'
    refine k_run ?_
    clear fx
    refine e_ret [] .nil (by simp; rfl) (by simp [hno, numI0])
  by_cases h2 : 2 < v.length
  · have hno := small_len (s := v) (.inr h2)
    have h1' : ¬ (v.length : Int) < 1 := by omega
    have h2' : (2 : Int) < v.length := by omega
    have fx := And.intro h1 <| And.intro h1' <| And.intro h2 <| h2'
    refine k_run ?_
    clear fx
    refine e_ret [] .nil (by simp; rfl) (by simp [hno, numI0])
  have h1' : ¬ (v.length : Int) < 1 := by omega
  have h2' : ¬ (2 : Int) < v.length := by omega
  have h3 : v.length = 1 ∨ v.length = 2 := by omega
  obtain ⟨c0, hc0⟩ : ∃ c, v[0]? = some c := ⟨_, gE (by omega)⟩
  obtain ⟨_, hcE⟩ := gS hc0
  by_cases hz : v.length = 2 ∧ c0 = 48
  · obtain ⟨hl, rfl⟩ := hz
    have hno := small_zero hl hc0
    have fx := And.intro h1 <| And.intro h1' <| And.intro h2 <| And.intro h2' <| And.intro hl <| And.intro hc0 <| hcE
    refine k_run ?_
    clear fx
    refine e_ret [] .nil (by simp; rfl) (by simp [hno, numI0])
  have hzz : v.length = 2 → v[0]? ≠ some 48 := fun e e2 => hz ⟨e, by rw [hc0] at e2; exact Option.some.inj e2⟩
  rcases h3 with hl | hl
  case' inl =>
    have fx := And.intro h1 <| And.intro h1' <| And.intro h2 <| And.intro h2' <| hl
    refine k_run ?_
    clear fx
  case' inr =>
    have hc48 : ¬ c0 = 48 := fun e => hz ⟨hl, e⟩
    have hcn : ¬ c0.toNat = 48 := fun e => hc48 (UInt8.toNat_inj.1 e)
    have hcb : ((c0.toNat : Int) == 48) = false := by simp; omega
    have fx := And.intro h1 <| And.intro h1' <| And.intro h2 <| And.intro h2' <| And.intro hl <| And.intro hc0 <| And.intro hcE <| And.intro hcn <| hcb
    refine k_run ?_
    clear fx
  all_goals
    refine w_loop (fun n st => ∃ i : Nat, n = v.length - i ∧ i ≤ v.length ∧ st.tm 0 = tx v ∧ st.tm 25 = iv v.length ∧ st.tm 26 = iv i ∧ st.tm 4 = iv (dval (v.take i)) ∧ ∀ c ∈ v.take i, 48 ≤ c.toNat ∧ c.toNat ≤ 57) v.length ?_ ?_
    · exact ⟨0, by omega, by omega, by simp, by simp [hl], by simp, by simp [dval], by simp⟩
    rintro n st - - ⟨i, rfl, hi, h0, h25, h26, h4, hd⟩
    by_cases hil : i < v.length
    · obtain ⟨c, hc⟩ : ∃ c, v[i]? = some c := ⟨_, gE hil⟩
      obtain ⟨_, hcE'⟩ := gS hc
      have hdt := dval_take hc
      have hdl : dval (v.take i) ≤ 9 := dval_le (by rw [List.length_take]; omega) hd
      have hcl := c.toNat_lt
      generalize dval (v.take i) = m at h4 hdt hdl
      by_cases hg : 48 ≤ c.toNat ∧ c.toNat ≤ 57
      · obtain ⟨g1, g2⟩ := hg
        have g1' : ¬ c.toNat < 48 := by omega
        have g2' : ¬ 57 < c.toNat := by omega
        have g1i : ¬ (c.toNat : Int) < 48 := by omega
        have g2i : ¬ (57 : Int) < (c.toNat : Int) := by omega
        obtain ⟨k, hk⟩ : ∃ k : Nat, k = c.toNat - 48 := ⟨_, rfl⟩
        have hw1 : IntKind.i64.wrap (10 * (m : Int)) = 10 * (m : Int) := wrp (by omega) (by omega)
        have hw2 : IntKind.u8.wrap ((c.toNat : Int) - 48) = (k : Int) := by rw [show (c.toNat : Int) - 48 = (k : Int) by omega]; exact u8w (by omega) (by omega)
        have hw3 : IntKind.i64.wrap (k : Int) = (k : Int) := wrp (by omega) (by omega)
        have hw4 : IntKind.i64.wrap (10 * (m : Int) + (k : Int)) = 10 * (m : Int) + (k : Int) := wrp (by omega) (by omega)
        have fx := And.intro h0 <| And.intro h25 <| And.intro h26 <| And.intro h4 <| And.intro hil <| And.intro hc <| And.intro hcE' <| And.intro g1' <| And.intro g2' <| And.intro g1i <| And.intro g2i <| And.intro hw1 <| And.intro hw2 <| And.intro hw3 <| hw4
        refine k_run ?_
        clear fx
        refine ⟨v.length - (i + 1), by omega, i + 1, rfl, by omega, by simp [h0], by simp [h25], by simp; exact wrp (by omega) (by omega), ?_, ?_⟩
        · simp [hdt, ← hk]
        · intro x hx
          rw [List.take_add_one, hc] at hx
          simp at hx
          rcases hx with hx | rfl
          · exact hd x hx
          · exact ⟨g1, g2⟩
      · have hno := small_bad1 hc hg
        by_cases g1 : c.toNat < 48
        · have g1i : (c.toNat : Int) < 48 := by omega
          have fx := And.intro h0 <| And.intro h25 <| And.intro h26 <| And.intro h4 <| And.intro hil <| And.intro hc <| And.intro hcE' <| And.intro g1 <| g1i
          refine k_run ?_
          clear fx
          refine e_ret [] .nil (by simp; rfl) (by simp [hno, numI0])
        · have g1i : ¬ (c.toNat : Int) < 48 := by omega
          have g2 : 57 < c.toNat := by omega
          have g2i : (57 : Int) < (c.toNat : Int) := by omega
          have fx := And.intro h0 <| And.intro h25 <| And.intro h26 <| And.intro h4 <| And.intro hil <| And.intro hc <| And.intro hcE' <| And.intro g1 <| And.intro g1i <| And.intro g2 <| g2i
          refine k_run ?_
          clear fx
          refine e_ret [] .nil (by simp; rfl) (by simp [hno, numI0])
    · obtain rfl : i = v.length := by omega
      rw [List.take_length] at h4 hd
      have hyes := small_digits (by omega) (by omega) hzz hd
      have fx := And.intro h0 <| And.intro h25 <| And.intro h26 <| And.intro h4 <| hil
      refine k_run ?_
      clear fx
      refine e_ret [] .nil (by simp [h4]; rfl) (by simp [hyes, numI0])
abbrev rdW (ls ws : List Txt) : AO := .row 2 [[xsl ls, xsl ws]]
theorem more_fn (gl) (H : Nm → Option AO) (ls ws : List Txt) (hH : H (.u 1 0 0) = some (rdW ls ws)) :
    FnE Tryz.prog gl 129 (Nm.under (.u 1 0 0)) [.pt (.u 1 0 0) 0] H (fun _ y H' => y = bv (!ws.isEmpty) ∧ H' (.u 1 0 0) = some (rdW ls ws)) noE := by
  refine FnE.of_sem Tryz.func129 rfl (by kernel_rfl) (rs := [.tmp 2]) rfl Tryz.ntmps129 (Nat.le_of_ble_eq_true rfl) (fun _ => under_usroot rfl) fun C w g root hroot => ?_
  have fx :=  hH
  refine k_run ?_
  clear fx
  refine e_ret [] .nil (by simp; rfl) ⟨?_, by simp [hH]⟩
  cases ws <;> simp
theorem word_fn (gl) (H : Nm → Option AO) (ls ws : List Txt) (hH : H (.u 1 0 0) = some (rdW ls ws)) :
    FnE Tryz.prog gl 77 (Nm.under (.u 1 0 0)) [.pt (.u 1 0 0) 0] H (fun _ y H' => ∃ w ws', ws = w :: ws' ∧ y = tx w ∧ H' (.u 1 0 0) = some (rdW ls ws')) (badQ (ws = [])) := by
  refine FnE.of_sem Tryz.func77 rfl (by kernel_rfl) (rs := [.tmp 2]) rfl Tryz.ntmps77 (Nat.le_of_ble_eq_true rfl) (fun _ => under_usroot rfl) fun C w g root hroot => ?_
  cases ws with
  | nil =>
    have fx :=  hH
    refine k_run ?_
    clear fx
    intro K hK
    refine x_pan (hx := by simp; first | done | exact ⟨rfl, rfl⟩) ?_
    exact ⟨[], .nil, ⟨_, _, rfl, .inl rfl⟩, rfl⟩
  | cons u us =>
    have hne : ((us.length : Int) + 1 == 0) = false := by simp; omega
    have h1 : (1 : Int) ≤ (us.length : Int) + 1 := by omega
    have fx := And.intro hH <| And.intro hne <| h1
    refine k_run ?_
    clear fx
    refine e_ret [] .nil (by simp; rfl) ⟨u, us, rfl, by simp, by simp⟩
theorem endLine_fn (gl) (H : Nm → Option AO) (ls ws : List Txt) (hH : H (.u 1 0 0) = some (rdW ls ws)) :
    FnE Tryz.prog gl 76 (Nm.under (.u 1 0 0)) [.pt (.u 1 0 0) 0] H (fun _ _ H' => ws = [] ∧ H' (.u 1 0 0) = some (rdW ls ws)) (badQ (ws ≠ [])) := by
  refine FnE.of_sem Tryz.func76 rfl (by kernel_rfl) (rs := []) rfl Tryz.ntmps76 (Nat.le_of_ble_eq_true rfl) (fun _ => under_usroot rfl) fun C w g root hroot => ?_
  have fx :=  hH
  refine k_run ?_
  clear fx
  intro K hK
  have fx := hH
  refine x_mut (.u 1 0 0) rfl (by simp [hH]) (hF := more_fn _ _ ls ws (by simp [hH])) (h := ?_)
  rintro y H1 ⟨rfl, hH1⟩
  clear fx
  cases ws with
  | nil =>
    have fx := And.intro hH <| hH1
    refine k_run ?_
    clear fx
    refine e_norm [] .nil (by simp; rfl) ⟨rfl, by simp [hH1]⟩
  | cons u us =>
    have fx := And.intro hH <| hH1
    refine k_run ?_
    clear fx
    intro K hK
    refine x_pan (hx := by simp; first | done | exact ⟨rfl, rfl⟩) ?_
    exact ⟨[], .nil, ⟨_, _, rfl, .inl rfl⟩, by simp⟩
end Go.Proofs.YtmaoicgfcngciaaGreatDoor
end
section
namespace Go.Proofs.YtmaoicgfcngciaaGreatDoor
open Go Go.Hm Go.Proofs
attribute [local simp] slcAV
theorem number_rd (gl) (H : Nm → Option AO) (ls ws : List Txt) (hws : ∀ v ∈ ws, v.length ≤ 1048577) (hH : H (.u 1 0 0) = some (rdW ls ws)) :
    FnE Tryz.prog gl 113 (Nm.under (.u 1 0 0)) [.pt (.u 1 0 0) 0] H (fun _ y H' => ∃ n ws', rNum ws = some (n, ws') ∧ y = iv n ∧ H' (.u 1 0 0) = some (rdW ls ws')) (badQ (rNum ws = none)) := by
  refine FnE.of_sem Tryz.func113 rfl (by kernel_rfl) (rs := [.tmp 2]) rfl Tryz.ntmps113 (Nat.le_of_ble_eq_true rfl) (fun _ => under_usroot rfl) fun C w g root hroot => ?_
  have fx :=  hH
  refine k_run ?_
  clear fx
  intro K hK
  have fx := hH
  refine x_mutE (.u 1 0 0) rfl (by simp [hH]) (hF := word_fn _ _ ls ws (by simp [hH])) (hE := fun x s hx hq => ⟨[], .nil, hx.tr, by rw [hq]; rfl⟩) (h := ?_)
  rintro y H1 ⟨v, vs, rfl, rfl, hH1⟩
  clear fx
  have hvl := hws v (by simp)
  cases hs : smallN v with
  | none =>
    have hq := smallNumber_fn gl v hvl
    rw [hs] at hq
    have fx :=  hH1
    have c1 := hq
    refine k_run ?_
    clear fx c1
    intro K hK
    refine x_pan (hx := by simp; first | done | exact ⟨rfl, rfl⟩) ?_
    exact ⟨[], .nil, ⟨_, _, rfl, .inl rfl⟩, by simp [rNum, hs]⟩
  | some n =>
    have hq := smallNumber_fn gl v hvl
    rw [hs] at hq
    have fx :=  hH1
    have c1 := hq
    refine k_run ?_
    clear fx c1
    refine e_ret [] .nil (by simp; rfl) ⟨n, vs, by simp [rNum, hs], by simp [numI0], by simp [hH1]⟩
theorem nextLine_fn (gl) {m : Int} (hgm : gl 5 = some [.sc (.int .i64 m)]) (H : Nm → Option AO) (ls : List Txt) (x : AV) (hls : ∀ v ∈ ls, v.length ≤ 1048577) (hH : H (.u 1 0 0) = some (.row 2 [[xsl ls, x]])) :
    FnE Tryz.prog gl 75 (Nm.under (.u 1 0 0)) [.pt (.u 1 0 0) 0] H (fun _ y H' => (ls = [] ∧ y = bv false) ∨ (∃ l ls', ls = l :: ls' ∧ y = bv true ∧ H' (.u 1 0 0) = some (rdW ls' (splitL 32 l)))) noE := by
  refine FnE.of_sem Tryz.func75 rfl (by kernel_rfl) (rs := [.tmp 2]) rfl Tryz.ntmps75 (Nat.le_of_ble_eq_true rfl) (fun _ => under_usroot rfl) fun C w g root hroot => ?_
  cases ls with
  | nil =>
    have fx :=  hH
    refine k_run ?_
    clear fx
    refine e_ret [] .nil (by simp; rfl) (.inl ⟨rfl, by simp⟩)
  | cons u us =>
    have hul := hls u (by simp)
    have hne : ((us.length : Int) + 1 == 0) = false := by simp; omega
    have h1 : (1 : Int) ≤ (us.length : Int) + 1 := by omega
    have hsp := split_at_fn gl hgm u 32 (by omega)
    have fx := And.intro hH <| And.intro hne <| h1
    have p1 := hsp
    refine k_runp ?_
    clear fx p1
    refine e_ret [] .nil (by simp; rfl) (.inr ⟨u, us, rfl, by simp, by simp⟩)
theorem ireader_fn (gl) {m : Int} (hgm : gl 5 = some [.sc (.int .i64 m)]) (s : Txt) (hs : s.length ≤ 1048576) :
    FnE Tryz.prog gl 74 noD [tx s] noH (fun r y H' => (splitL 10 s).getLast? = some [] ∧ y = .pt r 0 ∧ H' r = some (.row 2 [[xsl (splitL 10 s).dropLast, .hs (.c r 0 1) 1 0 0]])) (badQ ((splitL 10 s).getLast? ≠ some [])) := by
  have hsp := split_at_fn gl hgm s 10 (by omega)
  have hne := splitL_ne (c := 10) (l := s)
  have hlen := split_len (c := 10) (s := s)
  generalize splitL 10 s = L at hsp hne hlen ⊢
  obtain ⟨I, z, rfl⟩ : ∃ I z, L = I ++ [z] := ⟨L.dropLast, L.getLast hne, (List.dropLast_concat_getLast hne).symm⟩
  have hl1 : (I ++ [z]).length = I.length + 1 := by simp
  have hz : (I ++ [z])[I.length]? = some z := by simp
  have hw : IntKind.i64.wrap (I.length : Int) = I.length := wrp (by omega) (by omega)
  have hn1 : (I.length : Int) ≤ (I.length : Int) + 1 := by omega
  have hn0 : (0 : Int) ≤ (I.length : Int) := by omega
  refine FnE.of_sem Tryz.func74 rfl (by kernel_rfl) (rs := [.tmp 2]) rfl Tryz.ntmps74 (Nat.le_of_ble_eq_true rfl) (fun _ h => by cases h) fun C w g root hroot => ?_
  by_cases he : z = []
  · have hb : (z == []) = true := by simp [he]
    have fx := And.intro hl1 <| And.intro hz <| And.intro hw <| And.intro hb <| And.intro hn1 <| hn0
    have p1 := hsp
    refine k_runp ?_
    clear fx p1
    refine e_ret [(.s 2, root)] (.one rfl) (by simp; rfl) ⟨by simp [he], by simp, ?_⟩
    simp
  · have hb : (z == []) = false := by simpa using he
    have fx := And.intro hl1 <| And.intro hz <| And.intro hw <| And.intro hb <| And.intro hn1 <| hn0
    have p1 := hsp
    refine k_runp ?_
    clear fx p1
    intro K hK
    refine x_pan (hx := by simp; first | done | exact ⟨rfl, rfl⟩) ?_
    exact ⟨[], .nil, ⟨_, _, rfl, .inl rfl⟩, by simp [he]⟩
end Go.Proofs.YtmaoicgfcngciaaGreatDoor
end
section
namespace Go.Proofs.YtmaoicgfcngciaaGreatDoor
open Go Go.Hm Go.Proofs
theorem inRange_fn (gl) (n lo hi : Int) : FnOk Tryz.prog gl 39 [iv n, iv lo, iv hi] (fun _ x _ => x = bv (decide (lo ≤ n) && decide (n ≤ hi))) := by
  refine FnOk.of_sem Tryz.func39 rfl (by kernel_rfl) (rs := [.tmp 6]) rfl Tryz.ntmps39 (Nat.le_of_ble_eq_true rfl) fun C w g root => ?_
  all_goals have fx := fx0
  repeat' (first
   | refine w_seq ?_ | refine w_reg fun K hK => ?_
   | ((with_reducible refine s_end hK ?_); clear hK K)
   | (with_reducible first | refine then_normal ?_)
   | refine w_ret ?_
   | (with_reducible refine s_none ?_)
   | ((with_reducible refine g_id ?_); refine x_guard (h := ?_))
   | (with_reducible first | refine gx_tt ?_ | refine x_tf (h := ?_) | refine x_assign (h := ?_))
   | (with_reducible refine x_q (h := ?_))
   | (with_reducible refine gx_s (fun ht => ?_) (fun ht => ?_))
   | fail)
  all_goals try clear fx
  all_goals refine e_ret [] .nil (by simp; rfl) ?_
  all_goals simp_all
  omega
theorem spec_isName_fn (gl) (n : Int) : FnOk Tryz.prog gl 172 [iv n] (fun _ x _ => x = bv (decide (0 ≤ n) && decide (n ≤ 7))) := by
  refine FnOk.of_sem Tryz.func172 rfl (by kernel_rfl) (rs := [.tmp 2]) rfl Tryz.ntmps172 (Nat.le_of_ble_eq_true rfl) fun C w g root => ?_
  all_goals have fx := fx0
  repeat' (first
   | refine w_seq ?_ | refine w_reg fun K hK => ?_
   | ((with_reducible refine s_end hK ?_); clear hK K)
   | (with_reducible first | refine then_normal ?_)
   | refine w_ret ?_
   | (with_reducible first | refine s_none ?_ | refine x_assign (h := ?_))
   | ((with_reducible refine o_id 39 rfl ?_); refine x_call (hF := inRange_fn _ _ _ _) (h := ?_))
   | (with_reducible refine x_q (h := ?_))
   | fail)
  all_goals try clear fx
  refine e_ret [] .nil (by simp; rfl) (by simp)
theorem impl_isName_fn (gl) (n : Int) : FnOk Tryz.prog gl 153 [iv n] (fun _ x _ => x = bv (decide (0 ≤ n) && decide (n ≤ 7))) := by
  refine FnOk.of_sem Tryz.func153 rfl (by kernel_rfl) (rs := [.tmp 2]) rfl Tryz.ntmps153 (Nat.le_of_ble_eq_true rfl) fun C w g root => ?_
  all_goals have fx := fx0
  repeat' (first
   | refine w_seq ?_ | refine w_reg fun K hK => ?_
   | ((with_reducible refine s_end hK ?_); clear hK K)
   | (with_reducible first | refine then_normal ?_)
   | refine w_ret ?_
   | (with_reducible refine s_none ?_)
   | ((with_reducible refine g_id ?_); refine x_guard (h := ?_))
   | (with_reducible first | refine gx_tt ?_ | refine x_tf (h := ?_) | refine x_assign (h := ?_))
   | (with_reducible refine x_q (h := ?_))
   | (with_reducible refine gx_s (fun ht => ?_) (fun ht => ?_))
   | fail)
  all_goals try clear fx
  all_goals refine e_ret [] .nil (by simp; rfl) ?_
  all_goals simp_all
  omega
theorem placeIn_fn (gl) (xs : List Int) (x : Int) (hlen : xs.length ≤ 4294967296) : FnOk Tryz.prog gl 139 [isl xs, iv x] (fun _ z _ => z = iv (placeIn xs x)) := by
  refine FnOk.of_sem Tryz.func139 rfl (by kernel_rfl) (rs := [.tmp 4]) rfl Tryz.ntmps139 (Nat.le_of_ble_eq_true rfl) fun C w g root => ?_
  have fx := fx0
  refine k_run ?_
  clear fx
  refine w_loop (fun n st => ∃ i : Nat, n = xs.length - i ∧ i ≤ xs.length ∧ st.tm 0 = isl xs ∧ st.tm 1 = iv x ∧ st.tm 5 = iv i ∧ ∀ j < i, xs[j]? ≠ some x) xs.length ⟨0, by simp⟩ ?_
  rintro n st - - ⟨i, rfl, hi, h0, h1, h5, hno⟩
  have fx := And.intro h0 <| And.intro h1 <| h5
  refine k_run ?_
  clear fx
  refine w_if (by simp []; first | done | rfl | exact (Bool.not_not _).symm) (fun ht => ?_) (fun hf => ?_)
  · have hlt : i < xs.length := by simpa using ht
    obtain ⟨y, hy⟩ : ∃ y, xs[i]? = some y := ⟨xs[i], gE hlt⟩
    have fx := And.intro h0 <| And.intro h1 <| And.intro h5 <| hy
    refine k_run ?_
    clear fx
    refine w_if (by simp []; first | done | rfl | exact (Bool.not_not _).symm) (fun ht => ?_) (fun hf => ?_)
    · skip
      have fx := And.intro h0 <| And.intro h1 <| h5
      refine k_run ?_
      clear fx
      refine e_ret [] .nil (by simp [h5]; rfl) ?_
      have hyx : y = x := by simpa using ht
      subst hyx
      have : xs.findIdx? (· == y) = some i := by
        rw [List.findIdx?_eq_some_iff_getElem]
        refine ⟨hlt, ?_, fun j hj => ?_⟩
        · rw [gE hlt] at hy; simpa using Option.some.inj hy
        · have := hno j hj
          rw [gE (by omega)] at this
          simpa using this
      simp [placeIn, this]
    · skip
      have fx := And.intro h0 <| And.intro h1 <| h5
      refine k_run ?_
      clear fx
      refine ⟨xs.length - (i + 1), by omega, i + 1, rfl, by omega, ?_⟩
      simp [h0, h1]
      refine ⟨wrp (by omega) (by omega), fun j hj => ?_⟩
      rcases Nat.lt_succ_iff_lt_or_eq.1 hj with h | rfl
      · exact hno j h
      · rw [hy]; simpa using hf
  · skip
    have fx := And.intro h0 <| And.intro h1 <| h5
    refine k_run ?_
    clear fx
    refine e_ret [] .nil (by simp; rfl) ?_
    have hge : i = xs.length := by have : ¬ i < xs.length := by simpa using hf
                                   omega
    have : xs.findIdx? (· == x) = none := by
      rw [List.findIdx?_eq_none_iff]
      intro y hy
      obtain ⟨j, hj, rfl⟩ := List.getElem_of_mem hy
      have := hno j (by omega)
      rw [gE hj] at this
      simpa using this
    simp [placeIn, this]
theorem has_fn (gl) (xs : List Int) (x : Int) (hlen : xs.length ≤ 4294967296) : FnOk Tryz.prog gl 88 [isl xs, iv x] (fun _ z _ => z = bv (decide (x ∈ xs))) := by
  refine FnOk.of_sem Tryz.func88 rfl (by kernel_rfl) (rs := [.tmp 4]) rfl Tryz.ntmps88 (Nat.le_of_ble_eq_true rfl) fun C w g root => ?_
  all_goals have fx := fx0
  repeat' (first
   | refine w_seq ?_ | refine w_reg fun K hK => ?_
   | ((with_reducible refine s_end hK ?_); clear hK K)
   | (with_reducible first | refine then_normal ?_)
   | refine w_ret ?_
   | (with_reducible first | refine s_none ?_ | refine x_assign (h := ?_))
   | ((with_reducible refine o_id 139 rfl ?_); refine x_call (hF := placeIn_fn _ _ _ hlen) (h := ?_))
   | (with_reducible refine x_q (h := ?_))
   | fail)
  all_goals try clear fx
  refine e_ret [] .nil (by simp []; rfl) (by simp [placeIn_nonneg])
theorem sorted_fn (gl) (xs : List Int) (hlen : xs.length ≤ 4294967296) : FnOk Tryz.prog gl 138 [isl xs] (fun r y H' => y = .hs r 1 0 (sorted xs).length ∧ H' r = some (.row 1 (irows (sorted xs)))) := by
  refine FnOk.of_sem Tryz.func138 rfl (by kernel_rfl) (rs := [.tmp 2]) rfl Tryz.ntmps138 (Nat.le_of_ble_eq_true rfl) fun C w g root => ?_
  have fx := fx0
  refine k_run ?_
  clear fx
  refine w_loop (fun n st => ∃ i : Nat, n = 8 - i ∧ i ≤ 8 ∧ st.tm 0 = isl xs ∧ st.tm 4 = iv i ∧ st.tm 3 = .hs (.s 3) 1 0 (sortedTo xs i).length ∧ st.hp (.s 3) = some (.row 1 (irows (sortedTo xs i)))) 8 ?_ ?_
  · exact ⟨0, by simp [sortedTo]⟩
  rintro n st - - ⟨i, rfl, hi, h0, h4, h3, hp3⟩
  have hsl := sortedTo_len (xs := xs) i
  have fx := And.intro h0 <| And.intro h4 <| And.intro h3 <| hp3
  refine k_run ?_
  clear fx
  refine w_if (by simp []; first | done | rfl | exact (Bool.not_not _).symm) (fun ht => ?_) (fun hf => ?_)
  · have hlt : (i : Int) ≤ 7 := by simpa using ht
    all_goals have fx := And.intro h0 <| And.intro h4 <| And.intro h3 <| hp3
    repeat' (first
     | refine w_seq ?_ | refine w_block ?_ | refine w_skip ?_ | refine w_reg fun K hK => ?_
     | ((with_reducible refine s_end hK ?_); clear hK K)
     | (with_reducible first | refine then_normal ?_ | refine in_normal ?_ | refine then_exit ?_ | refine in_exit ?_ | refine then_ret ?_ | refine in_ret ?_ | refine in_other (by decide) ?_)
     | refine w_exit ?_
     | refine w_ret ?_
     | (with_reducible first | refine s_none ?_ | refine x_assign (h := ?_) | refine x_append0 (T := 41) (h := ?_) | refine x_append (T := 41) (h := ?_) | refine x_build (h := ?_))
     | ((with_reducible refine o_id 139 rfl ?_); refine x_call (hF := placeIn_fn _ _ _ hlen) (h := ?_))
     | (with_reducible refine x_q (h := ?_))
     | refine x_condt (h1 := ?_) | refine x_condf (h1 := ?_)
     | fail)
    all_goals try clear fx
    refine w_if (by simp []; first | done | rfl | exact (Bool.not_not _).symm) (fun ht => ?_) (fun hf => ?_)
    · have hm : (i : Int) ∈ xs := placeIn_nonneg.1 (by simpa using ht)
      have fx := And.intro h0 <| And.intro h4 <| And.intro h3 <| hp3
      refine k_run ?_
      clear fx
      refine ⟨8 - (i + 1), by omega, i + 1, rfl, by omega, ?_⟩
      simp [h0, h3, sortedTo, hm]
      exact wrp (by omega) (by omega)
    · have hm : ¬ (i : Int) ∈ xs := fun h => by simp [placeIn_nonneg.2 h] at hf
      have fx := And.intro h0 <| And.intro h4 <| And.intro h3 <| hp3
      refine k_run ?_
      clear fx
      refine ⟨8 - (i + 1), by omega, i + 1, rfl, by omega, ?_⟩
      simp [h0, h3, hp3, sortedTo, hm]
      exact wrp (by omega) (by omega)
  · have h8 : i = 8 := by
      have : ¬ (i : Int) ≤ 7 := by simpa using hf
      omega
    subst h8
    all_goals have fx := And.intro h0 <| And.intro h4 <| And.intro h3 <| hp3
    repeat' (first
     | refine w_seq ?_ | refine w_block ?_ | refine w_skip ?_ | refine w_reg fun K hK => ?_
     | ((with_reducible refine s_end hK ?_); clear hK K)
     | (with_reducible first | refine then_normal ?_ | refine in_normal ?_ | refine then_exit ?_ | refine in_exit ?_ | refine then_ret ?_ | refine in_ret ?_ | refine in_other (by decide) ?_)
     | refine w_exit ?_
     | refine w_ret ?_
     | (with_reducible first | refine s_none ?_ | refine x_assign (h := ?_) | refine x_append0 (T := 41) (h := ?_) | refine x_append (T := 41) (h := ?_) | refine x_build (h := ?_))
     | (with_reducible refine x_q (h := ?_))
     | refine x_condt (h1 := ?_) | refine x_condf (h1 := ?_)
     | fail)
    all_goals try clear fx
    exact e_list (t := 2) (by first | (simp [hp3]; done) | (simp [hp3]; rfl)) (by first | (simp [hp3]; done) | (simp [hp3]; rfl)) (by simp)
theorem readsOf_fn (gl) (s : Stm) : FnOk Tryz.prog gl 144 [Stm.av s] (fun r y H' => y = .hs r 1 0 s.reads.length ∧ H' r = some (.row 1 (irows s.reads))) := by
  refine FnOk.of_sem Tryz.func144 rfl (by kernel_rfl) (rs := [.tmp 2]) rfl Tryz.ntmps144 (Nat.le_of_ble_eq_true rfl) fun C w g root => ?_
  obtain ⟨kind, to, a, b⟩ := s
  all_goals have fx := fx0
  repeat' (first
   | refine w_seq ?_ | refine w_block ?_ | refine w_skip ?_ | refine w_reg fun K hK => ?_
   | ((with_reducible refine s_end hK ?_); clear hK K)
   | (with_reducible first | refine then_normal ?_ | refine then_ret ?_ | refine in_ret ?_)
   | refine w_ret ?_
   | (with_reducible first | refine s_none ?_ | refine x_assign (h := ?_) | refine x_box (h := ?_) | refine x_build (h := ?_))
   | (with_reducible refine x_q (h := ?_))
   | refine x_condt (h1 := ?_)
   | refine x_if (h1 := fun ht => ?_) (h2 := fun ht => ?_)
   | fail)
  all_goals try clear fx
  all_goals refine e_list (t := 2) ?_ ?_ ?_
  all_goals simp_all [Stm.reads, irows]
theorem sets_fn (gl) (s : Stm) : FnOk Tryz.prog gl 205 [Stm.av s] (fun _ x _ => x = bv (decide s.sets)) := by
  refine FnOk.of_sem Tryz.func205 rfl (by kernel_rfl) (rs := [.tmp 2]) rfl Tryz.ntmps205 (Nat.le_of_ble_eq_true rfl) fun C w g root => ?_
  all_goals have fx := fx0
  repeat' (first
   | refine w_seq ?_ | refine w_reg fun K hK => ?_
   | ((with_reducible refine s_end hK ?_); clear hK K)
   | (with_reducible first | refine then_normal ?_)
   | refine w_ret ?_
   | (with_reducible first | refine s_none ?_ | refine x_assign (h := ?_) | refine x_box (h := ?_))
   | ((with_reducible refine o_id 39 rfl ?_); refine x_call (hF := inRange_fn _ _ _ _) (h := ?_))
   | (with_reducible refine x_q (h := ?_))
   | fail)
  all_goals try clear fx
  refine e_ret [] .nil (by simp []; rfl) (by simp [])
theorem copyInts_fn (gl) (xs : List Int) (hlen : xs.length ≤ 4294967296) : FnOk Tryz.prog gl 90 [isl xs] (fun r y H' => y = .hs r 1 0 xs.length ∧ H' r = some (.row 1 (irows xs))) := by
  refine FnOk.of_sem Tryz.func90 rfl (by kernel_rfl) (rs := [.tmp 2]) rfl Tryz.ntmps90 (Nat.le_of_ble_eq_true rfl) fun C w g root => ?_
  have fx := fx0
  refine k_run ?_
  clear fx
  exact e_list (t := 2) (by first | (simp []; done) | (simp []; rfl)) (by first | (simp []; done) | (simp []; rfl)) (by simp)
theorem take_succ_readsAll {ss : List Stm} {s : Stm} {i : Nat} (h : ss[i]? = some s) : readsAll (ss.take (i + 1)) = readsAll (ss.take i) ++ s.reads := by
  rw [List.take_add_one, h]; simp [readsAll]
theorem read_fn (gl) (p : Prg) (b : Nat) (k : Blk) (hk : p[b]? = some k) (hlen : k.body.length ≤ 1048576) : FnOk Tryz.prog gl 175 [pav p, iv b] (fun r y H' => y = .hs r 1 0 (sorted (readsAll k.body)).length ∧ H' r = some (.row 1 (irows (sorted (readsAll k.body))))) := by
  refine FnOk.of_sem Tryz.func175 rfl (by kernel_rfl) (rs := [.tmp 4]) rfl Tryz.ntmps175 (Nat.le_of_ble_eq_true rfl) fun C w g root => ?_
  have fx := fx0
  refine k_run ?_
  clear fx
  refine w_loop (fun n st => ∃ i : Nat, n = k.body.length - i ∧ i ≤ k.body.length ∧ st.tm 1 = iv b ∧ st.tm 2 = .pt (.s 2) 0 ∧ st.hp (.s 2) = some (.row 1 [[ksl p]]) ∧ st.tm 6 = iv i ∧ st.tm 5 = .hs (.s 5) 1 0 (readsAll (k.body.take i)).length ∧ st.hp (.s 5) = some (.row 1 (irows (readsAll (k.body.take i))))) k.body.length ?_ ?_
  · exact ⟨0, by simp [readsAll]⟩
  rintro n st - - ⟨i, rfl, hi, h1, h2, hp2, h6, h5, hp5⟩
  have hrl := readsAll_len (k.body.take i)
  rw [List.length_take] at hrl
  have fx := And.intro h1 <| And.intro h2 <| And.intro hp2 <| And.intro h6 <| And.intro h5 <| And.intro hp5 <| hk
  refine k_run ?_
  clear fx
  refine w_if (by simp []; first | done | rfl | exact (Bool.not_not _).symm) (fun ht => ?_) (fun hf => ?_)
  · have hlt : i < k.body.length := by simpa using ht
    obtain ⟨s, hs⟩ : ∃ s, k.body[i]? = some s := ⟨_, gE hlt⟩
    have hsl := s.reads_len
    have fx := And.intro h1 <| And.intro h2 <| And.intro hp2 <| And.intro h6 <| And.intro h5 <| And.intro hp5 <| And.intro hk <| hs
    have d1 := readsOf_fn gl s
    refine k_run ?_
    clear fx d1
    refine ⟨k.body.length - (i + 1), by omega, i + 1, rfl, by omega, ?_⟩
    simp [h1, h2, hp2, h5, take_succ_readsAll hs]
    exact wrp (by omega) (by omega)
  · have h8 : i = k.body.length := by
      have : ¬ i < k.body.length := by simpa using hf
      omega
    subst h8
    have fx := And.intro h1 <| And.intro h2 <| And.intro hp2 <| And.intro h6 <| And.intro h5 <| And.intro hp5 <| hk
    have d1 := sorted_fn gl (readsAll k.body) (by rw [List.take_length] at hrl; omega)
    refine k_run ?_
    clear fx d1
    exact e_list (t := 4) (by first | (simp []; done) | (simp []; rfl)) (by first | (simp []; done) | (simp []; rfl)) (by simp)
end Go.Proofs.YtmaoicgfcngciaaGreatDoor
end
section
namespace Go.Proofs.YtmaoicgfcngciaaGreatDoor
open Go Go.Hm Go.Proofs
theorem bound_fn (gl) (p : Prg) (b : Nat) (k : Blk) (hk : p[b]? = some k) (hs : BSm k) : FnOk Tryz.prog gl 174 [pav p, iv b] (fun r y H' => y = .hs r 1 0 k.bd.length ∧ H' r = some (.row 1 (irows k.bd))) := by
  obtain ⟨hl1, hl2⟩ := hs
  refine FnOk.of_sem Tryz.func174 rfl (by kernel_rfl) (rs := [.tmp 4]) rfl Tryz.ntmps174 (Nat.le_of_ble_eq_true rfl) fun C w g root => ?_
  have fx :=  hk
  have d1 := copyInts_fn gl k.params (by omega)
  refine k_run ?_
  clear fx d1
  refine w_loop (fun n st => ∃ i : Nat, n = k.body.length - i ∧ i ≤ k.body.length ∧ st.tm 1 = iv b ∧ st.tm 2 = .pt (.s 2) 0 ∧ st.hp (.s 2) = some (.row 1 [[ksl p]]) ∧ st.tm 6 = iv i ∧ ∃ xs : List Int, xs = k.params ++ ((k.body.take i).filter (fun s => decide (s.sets ∨ s.kind = 11))).map Stm.to ∧ xs.length ≤ k.params.length + i ∧ st.tm 5 = .hs (.s 5) 1 0 xs.length ∧ st.hp (.s 5) = some (.row 1 (irows xs))) k.body.length ?_ ?_
  · exact ⟨0, by simp⟩
  rintro n st - - ⟨i, rfl, hi, h1, h2, hp2, h6, xs, hxs, hxl, h5, hp5⟩
  have fx := And.intro h1 <| And.intro h2 <| And.intro hp2 <| And.intro h6 <| And.intro h5 <| And.intro hp5 <| hk
  refine k_run ?_
  clear fx
  refine w_if (by simp []; first | done | rfl | exact (Bool.not_not _).symm) (fun ht => ?_) (fun hf => ?_)
  · have hlt : i < k.body.length := by simpa using ht
    obtain ⟨s, hs⟩ : ∃ s, k.body[i]? = some s := ⟨_, gE hlt⟩
    by_cases hc : s.sets <;> cases h11 : (s.kind == 11)
    all_goals have fx := And.intro h1 <| And.intro h2 <| And.intro hp2 <| And.intro h6 <| And.intro h5 <| And.intro hp5 <| And.intro hk <| And.intro hs <| And.intro hc <| h11
    repeat' (first
     | refine w_seq ?_ | refine w_block ?_ | refine w_skip ?_ | refine w_reg fun K hK => ?_
     | ((with_reducible refine s_end hK ?_); clear hK K)
     | (with_reducible first | refine then_normal ?_ | refine in_normal ?_ | refine then_exit ?_ | refine in_exit ?_ | refine then_ret ?_ | refine in_ret ?_ | refine in_other (by decide) ?_)
     | refine w_exit ?_
     | refine w_ret ?_
     | (with_reducible refine s_none ?_)
     | ((with_reducible refine g_id ?_); refine x_guard (h := ?_))
     | (with_reducible first | refine gx_tt ?_ | refine gx_ff ?_ | refine x_tf (h := ?_) | refine x_ft (h := ?_) | refine x_u (h := ?_) | refine x_assign (h := ?_) | refine x_box (h := ?_) | refine x_alloc (h := ?_) | refine x_store0 (h := ?_) | refine x_append0 (T := 41) (h := ?_) | refine x_append (T := 41) (h := ?_) | refine x_build (h := ?_))
     | ((with_reducible refine o_id 205 rfl ?_); refine x_call (hF := sets_fn _ s) (h := ?_))
     | (with_reducible refine x_q (h := ?_))
     | (with_reducible refine gx_s (fun ht => ?_) (fun ht => ?_))
     | refine x_condt (h1 := ?_) | refine x_condf (h1 := ?_)
     | fail)
    all_goals try clear fx
    all_goals refine ⟨k.body.length - (i + 1), by omega, i + 1, rfl, by omega, by simp [h1], by simp [h2], by simp [hp2], by simp; exact wrp (by omega) (by omega), _, rfl, ?_⟩
    all_goals simp at h11
    all_goals simp [take_succ_filter hs, hc, h11, h5, hp5, hxs]
    all_goals (rw [hxs] at hxl; simp at hxl; omega)
  · have h8 : i = k.body.length := by
      have : ¬ i < k.body.length := by simpa using hf
      omega
    subst h8
    have hb : boundAll k = xs := by rw [hxs]; simp [boundAll]
    have fx := And.intro h1 <| And.intro h2 <| And.intro hp2 <| And.intro h6 <| And.intro h5 <| And.intro hp5 <| hk
    have d1 := sorted_fn gl xs (by omega)
    refine k_run ?_
    clear fx d1
    rw [← hb]
    exact e_list (t := 4) (by first | (simp []; done) | (simp []; rfl)) (by first | (simp []; done) | (simp []; rfl)) (by simp)
theorem declared_fn (gl) (p : Prg) (b : Nat) (k : Blk) (d : Int) (hk : p[b]? = some k) (hs : BSm k) : FnOk Tryz.prog gl 87 [pav p, iv b, iv d] (fun r y H' => y = .hs r 1 0 (k.dc d).length ∧ H' r = some (.row 1 (irows (k.dc d)))) := by
  obtain ⟨hl1, hl2⟩ := hs
  refine FnOk.of_sem Tryz.func87 rfl (by kernel_rfl) (rs := [.tmp 6]) rfl Tryz.ntmps87 (Nat.le_of_ble_eq_true rfl) fun C w g root => ?_
  have fx :=  hk
  refine k_run ?_
  clear fx
  refine w_loop (fun n st => ∃ i : Nat, n = k.body.length - i ∧ i ≤ k.body.length ∧ st.tm 1 = iv b ∧ st.tm 2 = iv d ∧ st.tm 3 = .pt (.s 3) 0 ∧ st.hp (.s 3) = some (.row 1 [[ksl p]]) ∧ st.tm 8 = iv i ∧ ∃ xs : List Int, xs = ((k.body.take i).filter (fun s => decide (s.kind = d))).map Stm.to ∧ xs.length ≤ i ∧ st.tm 7 = .hs (.s 7) 1 0 xs.length ∧ st.hp (.s 7) = some (.row 1 (irows xs))) k.body.length ?_ ?_
  · exact ⟨0, by simp⟩
  rintro n st - - ⟨i, rfl, hi, h1, h2, h3, hp3, h8, xs, hxs, hxl, h7, hp7⟩
  have fx := And.intro h1 <| And.intro h2 <| And.intro h3 <| And.intro hp3 <| And.intro h8 <| And.intro h7 <| And.intro hp7 <| hk
  refine k_run ?_
  clear fx
  refine w_if (by simp []; first | done | rfl | exact (Bool.not_not _).symm) (fun ht => ?_) (fun hf => ?_)
  · have hlt : i < k.body.length := by simpa using ht
    obtain ⟨s, hs⟩ : ∃ s, k.body[i]? = some s := ⟨_, gE hlt⟩
    cases hc : (s.kind == d)
    all_goals have fx := And.intro h1 <| And.intro h2 <| And.intro h3 <| And.intro hp3 <| And.intro h8 <| And.intro h7 <| And.intro hp7 <| And.intro hk <| And.intro hs <| hc
    repeat' (first
     | refine w_seq ?_ | refine w_block ?_ | refine w_skip ?_ | refine w_reg fun K hK => ?_
     | ((with_reducible refine s_end hK ?_); clear hK K)
     | (with_reducible first | refine then_normal ?_ | refine in_normal ?_ | refine then_exit ?_ | refine in_exit ?_ | refine then_ret ?_ | refine in_ret ?_ | refine in_other (by decide) ?_)
     | refine w_exit ?_
     | refine w_ret ?_
     | (with_reducible first | refine s_none ?_ | refine x_assign (h := ?_) | refine x_box (h := ?_) | refine x_append0 (T := 41) (h := ?_) | refine x_append (T := 41) (h := ?_) | refine x_build (h := ?_))
     | (with_reducible refine x_q (h := ?_))
     | refine x_condt (h1 := ?_) | refine x_condf (h1 := ?_)
     | fail)
    all_goals try clear fx
    all_goals refine ⟨k.body.length - (i + 1), by omega, i + 1, rfl, by omega, by simp [h1], by simp [h2], by simp [h3], by simp [hp3], by simp; exact wrp (by omega) (by omega), _, rfl, ?_⟩
    all_goals simp at hc
    all_goals simp [take_succ_filter hs, hc, h7, hp7, hxs]
    all_goals (rw [hxs] at hxl; simp at hxl; omega)
  · have h8 : i = k.body.length := by
      have : ¬ i < k.body.length := by simpa using hf
      omega
    subst h8
    have hb : declAll k d = xs := by rw [hxs]; simp [declAll]
    have fx := And.intro h1 <| And.intro h2 <| And.intro h3 <| And.intro hp3 <| And.intro h8 <| And.intro h7 <| And.intro hp7 <| hk
    have d1 := sorted_fn gl xs (by omega)
    refine k_run ?_
    clear fx d1
    simp only [Blk.dc, hb]
    exact e_list (t := 6) (by first | (simp []; done) | (simp []; rfl)) (by first | (simp []; done) | (simp []; rfl)) (by simp)
theorem isLocal_fn (gl) (p : Prg) (b : Nat) (k : Blk) (x : Int) (hk : p[b]? = some k) (hs : BSm k) : FnOk Tryz.prog gl 140 [pav p, iv b, iv x] (fun _ y _ => y = bv (isLocal b k x)) := by
  refine FnOk.of_sem Tryz.func140 rfl (by kernel_rfl) (rs := [.tmp 6]) rfl Tryz.ntmps140 (Nat.le_of_ble_eq_true rfl) fun C w g root => ?_
  all_goals have fx :=  hk
  repeat' (first
   | refine w_seq ?_ | refine w_reg fun K hK => ?_
   | ((with_reducible refine s_end hK ?_); clear hK K)
   | (with_reducible first | refine then_normal ?_)
   | refine w_ret ?_
   | (with_reducible refine s_none ?_)
   | ((with_reducible refine g_id ?_); refine x_guard (h := ?_))
   | (with_reducible first | refine gx_tt ?_ | refine x_tf (h := ?_) | refine x_assign (h := ?_) | refine x_box (h := ?_))
   | ((with_reducible refine o_id 174 rfl ?_); refine x_callh (hF := bound_fn _ p b k hk hs) (h := ?_))
   | ((with_reducible refine o_id 88 rfl ?_); refine x_call (hF := has_fn _ _ _ (by first | exact Nat.le_trans (Blk.bd_len _) (by decide) | exact Nat.le_trans (Blk.dc_len _ _) (by decide) | exact Nat.le_trans (Blk.rd_len _) (by decide))) (h := ?_))
   | ((with_reducible refine o_id 87 rfl ?_); refine x_callh (hF := declared_fn _ p b k _ hk hs) (h := ?_))
   | (with_reducible refine x_q (h := ?_))
   | (with_reducible refine gx_s (fun ht => ?_) (fun ht => ?_))
   | fail)
  all_goals try clear fx
  all_goals refine e_ret [] .nil (by simp; rfl) ?_
  all_goals simp_all [isLocal]
end Go.Proofs.YtmaoicgfcngciaaGreatDoor
end
section
namespace Go.Proofs.YtmaoicgfcngciaaGreatDoor
open Go Go.Hm Go.Proofs
theorem outer_fn (gl) (p : Prg) (b : Nat) (k : Blk) (x : Int) (hk : p[b]? = some k) (hs : Sml p) (hh : Heads p) : FnOk Tryz.prog gl 89 [pav p, iv b, iv x] (fun _ y _ => y = iv (outer p b x)) := by
  refine FnOk.of_sem Tryz.func89 rfl (by kernel_rfl) (rs := [.tmp 6]) rfl Tryz.ntmps89 (Nat.le_of_ble_eq_true rfl) fun C w g root => ?_
  have fx :=  hk
  refine k_run ?_
  clear fx
  obtain ⟨hk1, hk2, _⟩ := hh b k hk
  have hbl : b < p.length := (gS hk).1
  refine w_loop (fun n st => ∃ j : Int, n = (j + 1).toNat ∧ -1 ≤ j ∧ j < p.length ∧ outerF p x p.length j = outer p b x ∧ st.tm 2 = iv x ∧ st.tm 3 = .pt (.s 3) 0 ∧ st.hp (.s 3) = some (.row 1 [[ksl p]]) ∧ st.tm 7 = iv j) (k.parent + 1).toNat ?_ ?_
  · exact ⟨k.parent, rfl, hk1, by omega, (outer_fuel hh hk).symm, by simp⟩
  rintro n st - - ⟨j, rfl, hj1, hj2, ho, h2, h3, hp3, h7⟩
  have fx := And.intro h2 <| And.intro h3 <| And.intro hp3 <| h7
  refine k_run ?_
  clear fx
  refine w_if (by simp []; first | done | rfl | exact (Bool.not_not _).symm) (fun ht => ?_) (fun hf => ?_)
  · have hj0 : 0 < j := by simpa using ht
    obtain ⟨j, rfl⟩ : ∃ i : Nat, j = i := ⟨j.toNat, by omega⟩
    have hj0 : 0 < j := by omega
    obtain ⟨q, hq⟩ : ∃ q, p[j]? = some q := ⟨_, gE (by omega)⟩
    rw [outerF_step hh hq hj0] at ho
    obtain ⟨hq1, hq2, hq3⟩ := hh j q hq
    cases hc : (q.kind == 1)
    · skip
      have fx := And.intro h2 <| And.intro h3 <| And.intro hp3 <| And.intro h7 <| And.intro hq <| And.intro hc <| @bne_def
      refine k_run ?_
      clear fx
      refine ⟨(q.parent + 1).toNat, by omega, q.parent, rfl, hq1, by omega, ?_, by simp [h2, h3, hp3]⟩
      rw [← ho, if_pos (by simpa using hc)]
    · rw [if_neg (by simpa using hc)] at ho
      all_goals have fx := And.intro h2 <| And.intro h3 <| And.intro hp3 <| And.intro h7 <| And.intro hq <| And.intro hc <| @bne_def
      repeat' (first
       | refine w_seq ?_ | refine w_block ?_ | refine w_skip ?_ | refine w_reg fun K hK => ?_
       | ((with_reducible refine s_end hK ?_); clear hK K)
       | (with_reducible first | refine then_normal ?_ | refine in_normal ?_ | refine then_exit ?_ | refine in_exit ?_ | refine then_ret ?_ | refine in_ret ?_ | refine in_other (by decide) ?_)
       | refine w_exit ?_
       | refine w_ret ?_
       | (with_reducible first | refine s_none ?_ | refine x_assign (h := ?_) | refine x_box (h := ?_))
       | ((with_reducible refine o_id 87 rfl ?_); refine x_callh (hF := declared_fn _ p j q _ hq (hs.bsm hq)) (h := ?_))
       | ((with_reducible refine o_id 88 rfl ?_); refine x_call (hF := has_fn _ _ _ (Nat.le_trans (Blk.dc_len _ _) (by decide))) (h := ?_))
       | (with_reducible refine x_q (h := ?_))
       | refine x_condt (h1 := ?_) | refine x_condf (h1 := ?_)
       | fail)
      all_goals try clear fx
      refine w_if (by simp []; first | done | rfl | exact (Bool.not_not _).symm) (fun ht => ?_) (fun hf => ?_)
      · have hm : x ∈ q.dc 9 := by simpa using ht
        rw [if_pos hm] at ho
        have fx := And.intro h2 <| And.intro h3 <| And.intro hp3 <| And.intro h7 <| hq
        refine k_run ?_
        clear fx
        refine e_ret [] .nil (by simp []; rfl) (by simp [← ho])
      · have hm : ¬ x ∈ q.dc 9 := by simpa using hf
        rw [if_neg hm] at ho
        have fx := And.intro h2 <| And.intro h3 <| And.intro hp3 <| And.intro h7 <| hq
        have c1 := isLocal_fn gl p j q x hq (hs.bsm hq)
        refine k_run ?_
        clear fx c1
        refine w_if (by simp []; first | done | rfl | exact (Bool.not_not _).symm) (fun ht => ?_) (fun hf => ?_)
        · rw [if_pos ht] at ho
          have fx := And.intro h2 <| And.intro h3 <| And.intro hp3 <| And.intro h7 <| hq
          refine k_run ?_
          clear fx
          refine e_ret [] .nil (by simp []; rfl) (by simp [← ho])
        · rw [if_neg (by simp [hf])] at ho
          have fx := And.intro h2 <| And.intro h3 <| And.intro hp3 <| And.intro h7 <| hq
          refine k_run ?_
          clear fx
          refine ⟨(q.parent + 1).toNat, by omega, q.parent, rfl, hq1, by omega, ho, by simp [h2, h3, hp3]⟩
  · have hj : j ≤ 0 := by simpa using hf
    rw [outerF_end hj] at ho
    have fx := fx0
    refine k_run ?_
    clear fx
    refine e_ret [] .nil (by simp []; rfl) (by simp [← ho])
end Go.Proofs.YtmaoicgfcngciaaGreatDoor
end
