/-
  Own texts, joined by mkclaim.py: Wf, Ha, Hb, Hc, Hd.
-/
import Derived.Shelf.SlIterI.Nil
import Derived.Shelf.SortM.Plain
import Derived.Shelf.SortM.SortNone
import Derived.Test.YtcbkblboonkfhaaGreatW17
import Derived.Test.YtcbkblboonkfhaaGreatW19
import Derived.Test.YtcbkblboonkfhaaGreatW12
import Derived.Test.YtcbkblboonkfhaaGreatW10
set_option linter.unusedSimpArgs false
set_option linter.unusedVariables false
set_option maxRecDepth 100000
set_option maxHeartbeats 4000000

section
namespace Go.Proofs.YtcbkblboonkfhaaGreat
open Go Go.Proofs Go.RowKit Go.Maps Go.Sort Go.Shelf
def keysA_ren : Go.Shelf.Ren := ⟨fun | 7 => 170 | 10 => 192 | n => n, fun | 23 => 163 | 26 => 3 | 3 => 119 | 28 => 203 | 0 => 0 | 27 => 202 | 33 => 81 | 4 => 4 | n => n, fun | n => n⟩
theorem keysA : Go.Proofs.SlLaysZI.n7 Tryz.prog keysA_ren where
  mixed := by kernel_rfl
  f7 := ⟨Tryz.f170.name, by decide, Tryz.func170.trans (congrArg some (by kernel_rfl))⟩
  f10 := ⟨Tryz.f192.name, by decide, Tryz.func192.trans (congrArg some (by kernel_rfl))⟩
  t0 := Tryz.underlying0
  a0 := Tryz.isAgg0
  z0 := Tryz.sizeOf0
  v0 := Tryz.zeroValue0
  t4 := Tryz.underlying4
  a4 := Tryz.isAgg4
  z4 := Tryz.sizeOf4
  v4 := Tryz.zeroValue4
  t23 := Tryz.underlying163
  a23 := Tryz.isAgg163
  z23 := Tryz.sizeOf163
  v23 := Tryz.zeroValue163
  t26 := Tryz.underlying3
  a26 := Tryz.isAgg3
  z26 := Tryz.sizeOf3
  v26 := Tryz.zeroValue3
  t27 := Tryz.underlying202
  a27 := Tryz.isAgg202
  z27 := Tryz.sizeOf202
  v27 := Tryz.zeroValue202
  t28 := Tryz.underlying203
  a28 := Tryz.isAgg203
  z28 := Tryz.sizeOf203
  v28 := Tryz.zeroValue203
  t33 := Tryz.underlying81
  a33 := Tryz.isAgg81
  z33 := Tryz.sizeOf81
  v33 := Tryz.zeroValue81
def sortedA_ren : Go.Shelf.Ren := ⟨fun | 6 => 169 | 8 => 190 | 9 => 191 | 11 => 203 | 13 => 205 | 12 => 204 | 23 => 219 | 24 => 220 | 14 => 210 | 15 => 211 | 16 => 212 | 17 => 213 | 18 => 214 | 19 => 215 | 20 => 216 | 21 => 217 | 22 => 218 | 25 => 222 | 26 => 223 | 27 => 224 | 28 => 225 | 29 => 226 | 30 => 227 | 31 => 228 | n => n, fun | 26 => 3 | 28 => 203 | 24 => 41 | 0 => 0 | 3 => 3 | 37 => 239 | 48 => 255 | 50 => 257 | 4 => 4 | 40 => 247 | 39 => 246 | 45 => 252 | 5 => 5 | 9 => 9 | 51 => 259 | 55 => 263 | 57 => 265 | 58 => 266 | 33 => 81 | n => n, fun | n => n⟩
theorem sortedA : Go.Proofs.SlLaysZI.n6 Tryz.prog sortedA_ren where
  mixed := by kernel_rfl
  f6 := ⟨Tryz.f169.name, by decide, Tryz.func169.trans (congrArg some (by kernel_rfl))⟩
  f8 := ⟨Tryz.f190.name, by decide, Tryz.func190.trans (congrArg some (by kernel_rfl))⟩
  f11 := ⟨Tryz.f203.name, by decide, Tryz.func203.trans (congrArg some (by kernel_rfl))⟩
  t0 := Tryz.underlying0
  a0 := Tryz.isAgg0
  z0 := Tryz.sizeOf0
  v0 := Tryz.zeroValue0
  t24 := Tryz.underlying41
  a24 := Tryz.isAgg41
  z24 := Tryz.sizeOf41
  v24 := Tryz.zeroValue41
  t26 := Tryz.underlying3
  a26 := Tryz.isAgg3
  z26 := Tryz.sizeOf3
  v26 := Tryz.zeroValue3
  t28 := Tryz.underlying203
  a28 := Tryz.isAgg203
  z28 := Tryz.sizeOf203
  v28 := Tryz.zeroValue203
  i26 := by kernel_rfl
def sortA_ren : Go.Shelf.Ren := ⟨fun | 5 => 191 | 8 => 205 | 7 => 204 | 19 => 219 | 20 => 220 | 10 => 210 | 11 => 211 | 12 => 212 | 13 => 213 | 14 => 214 | 15 => 215 | 16 => 216 | 17 => 217 | 18 => 218 | 30 => 222 | 31 => 223 | 32 => 224 | 33 => 225 | 34 => 226 | 35 => 227 | 40 => 228 | n => n, fun | 23 => 41 | 25 => 3 | 3 => 3 | 32 => 239 | 22 => 41 | 0 => 0 | 44 => 255 | 46 => 257 | 4 => 4 | 36 => 247 | 35 => 246 | 41 => 252 | 5 => 5 | 9 => 9 | 53 => 259 | 57 => 263 | 63 => 265 | 64 => 266 | n => n, fun | n => n⟩
theorem sortA : Go.Proofs.SlLaysM.n5 Tryz.prog sortA_ren where
  mixed := by kernel_rfl
  f5 := ⟨Tryz.f191.name, by decide, Tryz.func191.trans (congrArg some (by kernel_rfl))⟩
  f7 := ⟨Tryz.f204.name, by decide, Tryz.func204.trans (congrArg some (by kernel_rfl))⟩
  f8 := Tryz.func205.trans (congrArg some (by kernel_rfl))
  f10 := ⟨Tryz.f210.name, by decide, Tryz.func210.trans (congrArg some (by kernel_rfl))⟩
  f11 := ⟨Tryz.f211.name, by decide, Tryz.func211.trans (congrArg some (by kernel_rfl))⟩
  f12 := ⟨Tryz.f212.name, by decide, Tryz.func212.trans (congrArg some (by kernel_rfl))⟩
  f13 := ⟨Tryz.f213.name, by decide, Tryz.func213.trans (congrArg some (by kernel_rfl))⟩
  f14 := ⟨Tryz.f214.name, by decide, Tryz.func214.trans (congrArg some (by kernel_rfl))⟩
  f15 := ⟨Tryz.f215.name, by decide, Tryz.func215.trans (congrArg some (by kernel_rfl))⟩
  f16 := ⟨Tryz.f216.name, by decide, Tryz.func216.trans (congrArg some (by kernel_rfl))⟩
  f17 := ⟨Tryz.f217.name, by decide, Tryz.func217.trans (congrArg some (by kernel_rfl))⟩
  f18 := ⟨Tryz.f218.name, by decide, Tryz.func218.trans (congrArg some (by kernel_rfl))⟩
  f19 := Tryz.func219.trans (congrArg some (by kernel_rfl))
  f20 := Tryz.func220.trans (congrArg some (by kernel_rfl))
  f30 := ⟨Tryz.f222.name, by decide, Tryz.func222.trans (congrArg some (by kernel_rfl))⟩
  f31 := Tryz.func223.trans (congrArg some (by kernel_rfl))
  f32 := Tryz.func224.trans (congrArg some (by kernel_rfl))
  f33 := ⟨Tryz.f225.name, by decide, Tryz.func225.trans (congrArg some (by kernel_rfl))⟩
  f34 := ⟨Tryz.f226.name, by decide, Tryz.func226.trans (congrArg some (by kernel_rfl))⟩
  f35 := ⟨Tryz.f227.name, by decide, Tryz.func227.trans (congrArg some (by kernel_rfl))⟩
  f40 := ⟨Tryz.f228.name, by decide, Tryz.func228.trans (congrArg some (by kernel_rfl))⟩
  t0 := Tryz.underlying0
  a0 := Tryz.isAgg0
  z0 := Tryz.sizeOf0
  v0 := Tryz.zeroValue0
  t3 := Tryz.underlying3
  a3 := Tryz.isAgg3
  z3 := Tryz.sizeOf3
  v3 := Tryz.zeroValue3
  t4 := Tryz.underlying4
  a4 := Tryz.isAgg4
  z4 := Tryz.sizeOf4
  v4 := Tryz.zeroValue4
  t5 := Tryz.underlying5
  a5 := Tryz.isAgg5
  z5 := Tryz.sizeOf5
  v5 := Tryz.zeroValue5
  t9 := Tryz.underlying9
  a9 := Tryz.isAgg9
  z9 := Tryz.sizeOf9
  v9 := Tryz.zeroValue9
  t22 := Tryz.underlying41
  a22 := Tryz.isAgg41
  z22 := Tryz.sizeOf41
  v22 := Tryz.zeroValue41
  t23 := Tryz.underlying41
  a23 := Tryz.isAgg41
  z23 := Tryz.sizeOf41
  v23 := Tryz.zeroValue41
  t25 := Tryz.underlying3
  a25 := Tryz.isAgg3
  z25 := Tryz.sizeOf3
  v25 := Tryz.zeroValue3
  t32 := Tryz.underlying239
  a32 := Tryz.isAgg239
  z32 := Tryz.sizeOf239
  v32 := Tryz.zeroValue239
  t35 := Tryz.underlying246
  a35 := Tryz.isAgg246
  z35 := Tryz.sizeOf246
  v35 := Tryz.zeroValue246
  t36 := Tryz.underlying247
  a36 := Tryz.isAgg247
  z36 := Tryz.sizeOf247
  v36 := Tryz.zeroValue247
  t41 := Tryz.underlying252
  a41 := Tryz.isAgg252
  z41 := Tryz.sizeOf252
  v41 := Tryz.zeroValue252
  t44 := Tryz.underlying255
  a44 := Tryz.isAgg255
  z44 := Tryz.sizeOf255
  v44 := Tryz.zeroValue255
  t46 := Tryz.underlying257
  a46 := Tryz.isAgg257
  z46 := Tryz.sizeOf257
  v46 := Tryz.zeroValue257
  t53 := Tryz.underlying259
  a53 := Tryz.isAgg259
  z53 := Tryz.sizeOf259
  v53 := Tryz.zeroValue259
  t57 := Tryz.underlying263
  a57 := Tryz.isAgg263
  z57 := Tryz.sizeOf263
  v57 := Tryz.zeroValue263
  t63 := Tryz.underlying265
  a63 := Tryz.isAgg265
  z63 := Tryz.sizeOf265
  v63 := Tryz.zeroValue265
  t64 := Tryz.underlying266
  a64 := Tryz.isAgg266
  z64 := Tryz.sizeOf266
  v64 := Tryz.zeroValue266
theorem sortsA (m : Nat) : AnyZI.SortsIn Tryz.prog sortedA_ren Fence.wide m :=
  ⟨fun blk off cap ss W hH hblk hsz => callsIn_wide.2 (AnyM.slices_Sort_int sortA blk off cap ss W hH hblk hsz), fun p cap W => callsIn_wide.2 (AnyM.slices_Sort_int_none sortA p cap W)⟩
theorem sorted_calls {H : Type} (Bm b nn : Nat) (D0 : DataW H) (R : Value → Option (DataW H × List MemPlace)) (w : World) (hBm : Bm < w.heap.size) (hm : w.cell? ⟨Bm, 0, none⟩ = some (.map (some b))) (hown : w.ownsMap Tryz.prog 3 R b nn D0) (hmax : Maps.size D0 ≤ maxLen) (hbytes : Maps.size D0 * 8 ≤ 140737488355328) :
    Calls Tryz.prog 169 #[.func (.func 192) #[] #[.pointer (some ⟨Bm, 0, none⟩)]] w fun e w' => ∃ (v : Value) (ss : List Int), e = .returned v ∧ ss.Perm (intKeys D0) ∧
      w'.ownsRow w.heap.size 3 1 v ss.length ((ss.mergeSort (fun x y => decide (x ≤ y))).map encZ) ∧ (v = .slice none 0 0 ↔ ss = []) ∧ Below w.heap.size w w' := by
  have hseq : SeqGives Fence.wide 2 Tryz.prog 192 #[.pointer (some ⟨Bm, 0, none⟩)] encZ (fun ss => ss.Perm (intKeys D0)) (Maps.size D0) w :=
    AnyZI.keys_gives (ρ := keysA_ren) { keysA with } Fence.wide _ trivial rfl (by omega) Bm b nn D0 _ hBm hm hown
  have cS := AnyZI.sorted_in sortedA Fence.wide 5 trivial trivial trivial trivial rfl (by omega) (sortsA _) (enters_of Tryz.func191 (by kernel_rfl) rfl) 192 #[.pointer (some ⟨Bm, 0, none⟩)] trivial (enters_of Tryz.func192 (by kernel_rfl) rfl) _ _ hmax hbytes _ hseq
  exact (callsIn_wide (n := 5)).1 cS
end Go.Proofs.YtcbkblboonkfhaaGreat
end
section
namespace Go.Proofs.YtcbkblboonkfhaaGreat
open Go Go.Hm Go.Proofs
def formAV (s : Stm) : AV :=
  if s.kind = 0 then .ifc 182 (.agg [iv s.a]) else if s.kind = 1 then .ifc 184 (.agg [iv s.a]) else if s.kind = 2 then .ifc 186 (.agg [iv s.a, iv s.b])
  else if s.kind = 3 then .ifc 157 (.agg [iv 1, iv s.a]) else if s.kind = 4 then .ifc 157 (.agg [iv 2, iv s.a]) else if s.kind = 5 then .ifc 188 (.agg [iv s.a, iv s.b])
  else if s.kind = 6 then .ifc 190 (.agg [iv s.a, iv s.b]) else if s.kind = 7 then .ifc 192 (.agg [iv s.a]) else if s.kind = 8 then .ifc 193 (.agg [iv s.a])
  else if s.kind = 9 ∨ s.kind = 10 then .ifc 195 (.agg []) else if s.kind = 11 then .ifc 196 (.agg []) else .sc .nilIface
@[simp] theorem formAV_cln (s : Stm) : (formAV s).cln = true := by
  unfold formAV
  repeat' split
  all_goals simp
section
variable {n : Int} {to a b : Int}
@[simp] theorem formAV_0 : formAV ⟨0, to, a, b⟩ = .ifc 182 (.agg [iv a]) := by simp [formAV]
@[simp] theorem formAV_1 : formAV ⟨1, to, a, b⟩ = .ifc 184 (.agg [iv a]) := by simp [formAV]
@[simp] theorem formAV_2 : formAV ⟨2, to, a, b⟩ = .ifc 186 (.agg [iv a, iv b]) := by simp [formAV]
@[simp] theorem formAV_3 : formAV ⟨3, to, a, b⟩ = .ifc 157 (.agg [iv 1, iv a]) := by simp [formAV]
@[simp] theorem formAV_4 : formAV ⟨4, to, a, b⟩ = .ifc 157 (.agg [iv 2, iv a]) := by simp [formAV]
@[simp] theorem formAV_5 : formAV ⟨5, to, a, b⟩ = .ifc 188 (.agg [iv a, iv b]) := by simp [formAV]
@[simp] theorem formAV_6 : formAV ⟨6, to, a, b⟩ = .ifc 190 (.agg [iv a, iv b]) := by simp [formAV]
@[simp] theorem formAV_7 : formAV ⟨7, to, a, b⟩ = .ifc 192 (.agg [iv a]) := by simp [formAV]
@[simp] theorem formAV_8 : formAV ⟨8, to, a, b⟩ = .ifc 193 (.agg [iv a]) := by simp [formAV]
@[simp] theorem formAV_9 : formAV ⟨9, to, a, b⟩ = .ifc 195 (.agg []) := by simp [formAV]
@[simp] theorem formAV_10 : formAV ⟨10, to, a, b⟩ = .ifc 195 (.agg []) := by simp [formAV]
@[simp] theorem formAV_11 : formAV ⟨11, to, a, b⟩ = .ifc 196 (.agg []) := by simp [formAV]
theorem formAV_no {s : Stm} (h : ¬ (0 ≤ s.kind ∧ s.kind ≤ 11)) : formAV s = .sc .nilIface := by
  unfold formAV
  repeat' split
  all_goals first | rfl | omega
theorem kind_cases (n : Int) : n = 0 ∨ n = 1 ∨ n = 2 ∨ n = 3 ∨ n = 4 ∨ n = 5 ∨ n = 6 ∨ n = 7 ∨ n = 8 ∨ n = 9 ∨ n = 10 ∨ n = 11 ∨ ¬ (0 ≤ n ∧ n ≤ 11) := by omega
end
theorem formOf_fn (gl) (s : Stm) : FnOk Tryz.prog gl 129 [s.av] (fun _ x _ => x = formAV s) := by
  refine FnOk.of_sem Tryz.func129 rfl (by kernel_rfl) (rs := [.tmp 2]) rfl Tryz.ntmps129 (Nat.le_of_ble_eq_true rfl) fun C w g root => ?_
  all_goals have fx := fx0
  repeat' (first
   | refine w_seq ?_ | refine w_block ?_ | refine w_skip ?_ | refine w_reg fun K hK => ?_
   | ((with_reducible refine s_end hK ?_); clear hK K)
   | (with_reducible first | refine then_normal ?_ | refine then_ret ?_ | refine in_ret ?_)
   | refine w_ret ?_
   | (with_reducible first | refine s_none ?_ | refine x_assign (h := ?_) | refine x_box (h := ?_))
   | (with_reducible refine x_q (h := ?_))
   | refine x_condt (h1 := ?_)
   | refine x_if (h1 := fun ht => ?_) (h2 := fun ht => ?_)
   | fail)
  all_goals try clear fx
  all_goals refine e_ret [] .nil (by simp; rfl) ?_
  all_goals simp_all [formAV]
theorem binds_fn (gl) (s : Stm) : FnOk Tryz.prog gl 165 [s.av] (fun _ x _ => x = bv (decide (s.sets ∨ s.kind = 11))) := by
  obtain ⟨n, to, a, b⟩ := s
  refine FnOk.of_sem Tryz.func165 rfl (by kernel_rfl) (rs := [.tmp 2]) rfl Tryz.ntmps165 (Nat.le_of_ble_eq_true rfl) fun C w g root => ?_
  rcases kind_cases n with rfl | rfl | rfl | rfl | rfl | rfl | rfl | rfl | rfl | rfl | rfl | rfl | hn
  case inr.inr.inr.inr.inr.inr.inr.inr.inr.inr.inr.inr =>
    have hf : formAV ⟨n, to, a, b⟩ = .sc .nilIface := formAV_no hn
    have fx :=  hf
    have c1 := formOf_fn gl ⟨n, to, a, b⟩
    refine k_run ?_
    clear fx c1
    refine e_ret [] .nil (by simp; rfl) ?_
    have h1 : ¬ (0 ≤ n ∧ n ≤ 6 ∨ n = 11) := by omega
    simp [h1]
  all_goals
    all_goals have fx := fx0
    repeat' (first
     | refine w_seq ?_ | refine w_block ?_ | refine w_skip ?_ | refine w_reg fun K hK => ?_
     | ((with_reducible refine s_end hK ?_); clear hK K)
     | (with_reducible first | refine then_normal ?_ | refine in_normal ?_ | refine then_ret ?_ | refine in_ret ?_)
     | refine w_ret ?_
     | (with_reducible first | refine s_none ?_ | refine x_assign (h := ?_) | refine x_box (h := ?_))
     | ((with_reducible refine o_id 129 rfl ?_); refine x_call (hF := formOf_fn _ ⟨_, to, a, b⟩) (h := ?_))
     | (with_reducible refine x_q (h := ?_))
     | refine x_condt (h1 := ?_) | refine x_condf (h1 := ?_)
     | fail)
    all_goals try clear fx
  all_goals refine e_ret [] .nil (by simp; rfl) ?_
  all_goals simp
theorem impl_isBlock_fn (gl) (p : Prg) (b : Int) : FnOk Tryz.prog gl 82 [pav p, iv b] (fun _ x _ => x = bv (decide (0 ≤ b ∧ b < p.length))) := by
  refine FnOk.of_sem Tryz.func82 rfl (by kernel_rfl) (rs := [.tmp 4]) rfl Tryz.ntmps82 (Nat.le_of_ble_eq_true rfl) fun C w g root => ?_
  all_goals have fx := fx0
  repeat' (first
   | refine w_seq ?_ | refine w_reg fun K hK => ?_
   | ((with_reducible refine s_end hK ?_); clear hK K)
   | (with_reducible first | refine then_normal ?_)
   | refine w_ret ?_
   | (with_reducible refine s_none ?_)
   | ((with_reducible refine g_id ?_); refine x_guard (h := ?_))
   | (with_reducible first | refine gx_tt ?_ | refine x_tf (h := ?_) | refine x_assign (h := ?_) | refine x_box (h := ?_))
   | (with_reducible refine x_q (h := ?_))
   | (with_reducible refine gx_s (fun ht => ?_) (fun ht => ?_))
   | fail)
  all_goals try clear fx
  all_goals refine e_ret [] .nil (by simp; rfl) ?_
  all_goals simp_all
  all_goals omega
theorem fitsHead_fn (gl) (i : Nat) (k : Blk) : FnOk Tryz.prog gl 127 [iv i, k.av] (fun _ x _ => x = bv (headOk i k)) := by
  obtain ⟨kind, parent, params, body⟩ := k
  refine FnOk.of_sem Tryz.func127 rfl (by kernel_rfl) (rs := [.tmp 4]) rfl Tryz.ntmps127 (Nat.le_of_ble_eq_true rfl) fun C w g root => ?_
  rcases params with _ | ⟨x, _ | ⟨y, l⟩⟩
  · skip
    all_goals have fx := fx0
    repeat' (first
     | refine w_seq ?_ | refine w_block ?_ | refine w_skip ?_ | refine w_reg fun K hK => ?_
     | ((with_reducible refine s_end hK ?_); clear hK K)
     | (with_reducible first | refine then_normal ?_ | refine then_ret ?_ | refine in_ret ?_)
     | refine w_ret ?_
     | (with_reducible refine s_none ?_)
     | ((with_reducible refine g_id ?_); refine x_guard (h := ?_))
     | (with_reducible first | refine gx_tt ?_ | refine gx_ff ?_ | refine x_tf (h := ?_) | refine x_ft (h := ?_) | refine x_u (h := ?_) | refine x_assign (h := ?_) | refine x_box (h := ?_))
     | (with_reducible refine x_q (h := ?_))
     | (with_reducible refine gx_s (fun ht => ?_) (fun ht => ?_))
     | refine x_condt (h1 := ?_)
     | refine x_if (h1 := fun ht => ?_) (h2 := fun ht => ?_)
     | fail)
    all_goals try clear fx
    all_goals refine e_ret [] .nil (by simp; rfl) ?_
    all_goals simp_all [headOk, HeadOk]
    all_goals grind
  · skip
    all_goals have fx := fx0
    repeat' (first
     | refine w_seq ?_ | refine w_block ?_ | refine w_skip ?_ | refine w_reg fun K hK => ?_
     | ((with_reducible refine s_end hK ?_); clear hK K)
     | (with_reducible first | refine then_normal ?_ | refine then_ret ?_ | refine in_ret ?_)
     | refine w_ret ?_
     | (with_reducible refine s_none ?_)
     | ((with_reducible refine g_id ?_); refine x_guard (h := ?_))
     | (with_reducible first | refine gx_tt ?_ | refine gx_ff ?_ | refine x_tf (h := ?_) | refine x_ft (h := ?_) | refine x_assign (h := ?_) | refine x_box (h := ?_))
     | ((with_reducible refine o_id 85 rfl ?_); refine x_call (hF := impl_isName_fn _ x) (h := ?_))
     | (with_reducible refine x_q (h := ?_))
     | (with_reducible refine gx_s (fun ht => ?_) (fun ht => ?_))
     | refine x_condt (h1 := ?_)
     | refine x_if (h1 := fun ht => ?_) (h2 := fun ht => ?_)
     | fail)
    all_goals try clear fx
    all_goals refine e_ret [] .nil (by simp; rfl) ?_
    all_goals simp_all [headOk, HeadOk]
    all_goals grind
  · have h1 : ((l.length : Int) + 1 + 1 == 1) = false := by simp; omega
    have h0 : ((l.length : Int) + 1 + 1 == 0) = false := by simp; omega
    all_goals have fx := And.intro h0 <| h1
    repeat' (first
     | refine w_seq ?_ | refine w_block ?_ | refine w_skip ?_ | refine w_reg fun K hK => ?_
     | ((with_reducible refine s_end hK ?_); clear hK K)
     | (with_reducible first | refine then_normal ?_ | refine then_ret ?_ | refine in_ret ?_)
     | refine w_ret ?_
     | (with_reducible refine s_none ?_)
     | ((with_reducible refine g_id ?_); refine x_guard (h := ?_))
     | (with_reducible first | refine gx_tt ?_ | refine gx_ff ?_ | refine x_tf (h := ?_) | refine x_ft (h := ?_) | refine x_assign (h := ?_) | refine x_box (h := ?_))
     | (with_reducible refine x_q (h := ?_))
     | (with_reducible refine gx_s (fun ht => ?_) (fun ht => ?_))
     | refine x_condt (h1 := ?_)
     | refine x_if (h1 := fun ht => ?_) (h2 := fun ht => ?_)
     | fail)
    all_goals try clear fx
    all_goals refine e_ret [] .nil (by simp; rfl) ?_
    all_goals simp_all [headOk, HeadOk]
    all_goals grind
end Go.Proofs.YtcbkblboonkfhaaGreat
end
section
namespace Go.Proofs.YtcbkblboonkfhaaGreat
open Go Go.Hm Go.Proofs
theorem madeAs_at {p : Prg} {b j : Nat} {q : Blk} {d : Int} (hh : Heads p) (hq : p[j]? = some q) : madeAs p b j d = ((q.kind == d) && (q.parent == b)) := by
  have hj : j < p.length := (gS hq).1
  obtain ⟨_, h2, _⟩ := hh j q hq
  simp only [madeAs, Int.toNat_natCast, hq]
  by_cases h : q.parent = b
  · have : (b : Int) + 1 ≤ j ∧ (j : Int) ≤ p.length - 1 := by omega
    simp [this]
  · simp [h]
theorem madeAs_no {p : Prg} {b : Nat} {j d : Int} (h : ¬ (0 ≤ j ∧ j < p.length)) : madeAs p b j d = false := by
  have : ¬ ((b : Int) + 1 ≤ j ∧ j ≤ (p.length : Int) - 1) := by omega
  simp [madeAs, this]
theorem fitsStmt_fn (gl) (p : Prg) (b : Nat) (k : Blk) (s : Stm) (hk : p[b]? = some k) (hh : Heads p) (hd : HeadOk b k) : FnOk Tryz.prog gl 128 [pav p, iv b, s.av] (fun _ x _ => x = bv (StmOk p b k s)) := by
  obtain ⟨n, to, a, c⟩ := s
  have hb0 : (k.kind = 0) ↔ b = 0 := by
    unfold HeadOk at hd
    split at hd <;> omega
  refine FnOk.of_sem Tryz.func128 rfl (by kernel_rfl) (rs := [.tmp 6]) rfl Tryz.ntmps128 (Nat.le_of_ble_eq_true rfl) fun C w g root => ?_
  by_cases hto : 0 ≤ to ∧ to ≤ 7
  case neg =>
    have h1 : (decide (0 ≤ to) && decide (to ≤ 7)) = false := by simp; omega
    have fx :=  h1
    have c1 := impl_isName_fn gl to
    refine k_run ?_
    clear fx c1
    refine e_ret [] .nil (by simp; rfl) ?_
    simp [StmOk, h1]
  have h1 : (decide (0 ≤ to) && decide (to ≤ 7)) = true := by simp; omega
  rcases kind_cases n with rfl | rfl | rfl | rfl | rfl | rfl | rfl | rfl | rfl | rfl | rfl | rfl | hn
  case inr.inr.inr.inr.inr.inr.inr.inr.inr.inr.inr.inr =>
    have hf : formAV ⟨n, to, a, c⟩ = .sc .nilIface := formAV_no hn
    have fx := And.intro h1 <| hf
    have c1 := impl_isName_fn gl to
    have c2 := formOf_fn gl ⟨n, to, a, c⟩
    refine k_run ?_
    clear fx c1 c2
    refine e_ret [] .nil (by simp; rfl) ?_
    have h2 : ¬ (n = 0 ∨ n = 1 ∨ n = 2 ∨ n = 3 ∨ n = 4 ∨ n = 5 ∨ n = 6 ∨ n = 7 ∨ n = 8 ∨ n = 9 ∨ n = 10 ∨ n = 11) := by omega
    simp only [not_or] at h2
    simp [StmOk, h2]
  case inr.inr.inr.inl =>
    by_cases ha : 0 ≤ a ∧ a < p.length
    · obtain ⟨j, rfl⟩ : ∃ j : Nat, a = j := ⟨a.toNat, by omega⟩
      obtain ⟨q, hq⟩ : ∃ q, p[j]? = some q := ⟨_, gE (by omega)⟩
      obtain ⟨h2, h3⟩ := gS hq
      all_goals have fx := And.intro h1 <| And.intro hq <| And.intro h2 <| h3
      repeat' (first
       | refine w_seq ?_ | refine w_block ?_ | refine w_skip ?_ | refine w_reg fun K hK => ?_
       | ((with_reducible refine s_end hK ?_); clear hK K)
       | (with_reducible first | refine then_normal ?_ | refine in_normal ?_ | refine then_ret ?_ | refine in_ret ?_)
       | refine w_ret ?_
       | (with_reducible refine s_none ?_)
       | ((with_reducible refine g_id ?_); refine x_guard (h := ?_))
       | (with_reducible first | refine gx_tt ?_ | refine gx_ff ?_ | refine x_tf (h := ?_) | refine x_ft (h := ?_) | refine x_u (h := ?_) | refine x_assign (h := ?_) | refine x_box (h := ?_) | refine x_alloc (h := ?_) | refine x_store0 (h := ?_) | refine x_store (h := ?_))
       | ((with_reducible refine o_id 85 rfl ?_); refine x_call (hF := impl_isName_fn _ to) (h := ?_))
       | ((with_reducible refine o_id 129 rfl ?_); refine x_call (hF := formOf_fn _ ⟨_, to, _, c⟩) (h := ?_))
       | ((with_reducible refine o_id 82 rfl ?_); refine x_call (hF := impl_isBlock_fn _ p _) (h := ?_))
       | (with_reducible refine x_q (h := ?_))
       | (with_reducible refine gx_s (fun ht => ?_) (fun ht => ?_))
       | refine x_condt (h1 := ?_) | refine x_condf (h1 := ?_)
       | refine x_if (h1 := fun ht => ?_) (h2 := fun ht => ?_)
       | fail)
      all_goals try clear fx
      all_goals refine e_ret [] .nil (by simp; rfl) ?_
      all_goals simp_all [StmOk, madeAs_at, Stm.reads]
    · have h2 : ¬ (0 ≤ a ∧ a < p.length) := ha
      all_goals have fx := And.intro h1 <| h2
      repeat' (first
       | refine w_seq ?_ | refine w_block ?_ | refine w_skip ?_ | refine w_reg fun K hK => ?_
       | ((with_reducible refine s_end hK ?_); clear hK K)
       | (with_reducible first | refine then_normal ?_ | refine in_normal ?_ | refine then_ret ?_ | refine in_ret ?_)
       | refine w_ret ?_
       | (with_reducible refine s_none ?_)
       | ((with_reducible refine g_id ?_); refine x_guard (h := ?_))
       | (with_reducible first | refine gx_tt ?_ | refine gx_ff ?_ | refine x_tf (h := ?_) | refine x_ft (h := ?_) | refine x_u (h := ?_) | refine x_assign (h := ?_) | refine x_box (h := ?_) | refine x_alloc (h := ?_) | refine x_store0 (h := ?_) | refine x_store (h := ?_))
       | ((with_reducible refine o_id 85 rfl ?_); refine x_call (hF := impl_isName_fn _ to) (h := ?_))
       | ((with_reducible refine o_id 129 rfl ?_); refine x_call (hF := formOf_fn _ ⟨_, to, _, c⟩) (h := ?_))
       | ((with_reducible refine o_id 82 rfl ?_); refine x_call (hF := impl_isBlock_fn _ p _) (h := ?_))
       | (with_reducible refine x_q (h := ?_))
       | (with_reducible refine gx_s (fun ht => ?_) (fun ht => ?_))
       | refine x_condt (h1 := ?_) | refine x_condf (h1 := ?_)
       | refine x_if (h1 := fun ht => ?_) (h2 := fun ht => ?_)
       | fail)
      all_goals try clear fx
      all_goals refine e_ret [] .nil (by simp; rfl) ?_
      all_goals simp [StmOk, madeAs_no h2]
  case inr.inr.inr.inr.inl =>
    by_cases ha : 0 ≤ a ∧ a < p.length
    · obtain ⟨j, rfl⟩ : ∃ j : Nat, a = j := ⟨a.toNat, by omega⟩
      obtain ⟨q, hq⟩ : ∃ q, p[j]? = some q := ⟨_, gE (by omega)⟩
      obtain ⟨h2, h3⟩ := gS hq
      all_goals have fx := And.intro h1 <| And.intro hq <| And.intro h2 <| h3
      repeat' (first
       | refine w_seq ?_ | refine w_block ?_ | refine w_skip ?_ | refine w_reg fun K hK => ?_
       | ((with_reducible refine s_end hK ?_); clear hK K)
       | (with_reducible first | refine then_normal ?_ | refine in_normal ?_ | refine then_ret ?_ | refine in_ret ?_)
       | refine w_ret ?_
       | (with_reducible refine s_none ?_)
       | ((with_reducible refine g_id ?_); refine x_guard (h := ?_))
       | (with_reducible first | refine gx_tt ?_ | refine gx_ff ?_ | refine x_tf (h := ?_) | refine x_ft (h := ?_) | refine x_u (h := ?_) | refine x_assign (h := ?_) | refine x_box (h := ?_) | refine x_alloc (h := ?_) | refine x_store0 (h := ?_) | refine x_store (h := ?_))
       | ((with_reducible refine o_id 85 rfl ?_); refine x_call (hF := impl_isName_fn _ to) (h := ?_))
       | ((with_reducible refine o_id 129 rfl ?_); refine x_call (hF := formOf_fn _ ⟨_, to, _, c⟩) (h := ?_))
       | ((with_reducible refine o_id 82 rfl ?_); refine x_call (hF := impl_isBlock_fn _ p _) (h := ?_))
       | (with_reducible refine x_q (h := ?_))
       | (with_reducible refine gx_s (fun ht => ?_) (fun ht => ?_))
       | refine x_condt (h1 := ?_) | refine x_condf (h1 := ?_)
       | refine x_if (h1 := fun ht => ?_) (h2 := fun ht => ?_)
       | fail)
      all_goals try clear fx
      all_goals refine e_ret [] .nil (by simp; rfl) ?_
      all_goals simp_all [StmOk, madeAs_at, Stm.reads]
    · have h2 : ¬ (0 ≤ a ∧ a < p.length) := ha
      all_goals have fx := And.intro h1 <| h2
      repeat' (first
       | refine w_seq ?_ | refine w_block ?_ | refine w_skip ?_ | refine w_reg fun K hK => ?_
       | ((with_reducible refine s_end hK ?_); clear hK K)
       | (with_reducible first | refine then_normal ?_ | refine in_normal ?_ | refine then_ret ?_ | refine in_ret ?_)
       | refine w_ret ?_
       | (with_reducible refine s_none ?_)
       | ((with_reducible refine g_id ?_); refine x_guard (h := ?_))
       | (with_reducible first | refine gx_tt ?_ | refine gx_ff ?_ | refine x_tf (h := ?_) | refine x_ft (h := ?_) | refine x_u (h := ?_) | refine x_assign (h := ?_) | refine x_box (h := ?_) | refine x_alloc (h := ?_) | refine x_store0 (h := ?_) | refine x_store (h := ?_))
       | ((with_reducible refine o_id 85 rfl ?_); refine x_call (hF := impl_isName_fn _ to) (h := ?_))
       | ((with_reducible refine o_id 129 rfl ?_); refine x_call (hF := formOf_fn _ ⟨_, to, _, c⟩) (h := ?_))
       | ((with_reducible refine o_id 82 rfl ?_); refine x_call (hF := impl_isBlock_fn _ p _) (h := ?_))
       | (with_reducible refine x_q (h := ?_))
       | (with_reducible refine gx_s (fun ht => ?_) (fun ht => ?_))
       | refine x_condt (h1 := ?_) | refine x_condf (h1 := ?_)
       | refine x_if (h1 := fun ht => ?_) (h2 := fun ht => ?_)
       | fail)
      all_goals try clear fx
      all_goals refine e_ret [] .nil (by simp; rfl) ?_
      all_goals simp [StmOk, madeAs_no h2]
  all_goals
    all_goals have fx := And.intro h1 <| hk
    repeat' (first
     | refine w_seq ?_ | refine w_block ?_ | refine w_skip ?_ | refine w_reg fun K hK => ?_
     | ((with_reducible refine s_end hK ?_); clear hK K)
     | (with_reducible first | refine then_normal ?_ | refine in_normal ?_ | refine then_ret ?_ | refine in_ret ?_)
     | refine w_ret ?_
     | (with_reducible refine s_none ?_)
     | ((with_reducible refine g_id ?_); refine x_guard (h := ?_))
     | (with_reducible first | refine gx_tt ?_ | refine gx_ff ?_ | refine x_tf (h := ?_) | refine x_ft (h := ?_) | refine x_u (h := ?_) | refine x_assign (h := ?_) | refine x_box (h := ?_) | refine x_alloc (h := ?_) | refine x_store0 (h := ?_) | refine x_store (h := ?_))
     | ((with_reducible refine o_id 85 rfl ?_); refine x_call (hF := impl_isName_fn _ _) (h := ?_))
     | ((with_reducible refine o_id 129 rfl ?_); refine x_call (hF := formOf_fn _ ⟨_, to, a, c⟩) (h := ?_))
     | (with_reducible refine x_q (h := ?_))
     | (with_reducible refine gx_s (fun ht => ?_) (fun ht => ?_))
     | refine x_condt (h1 := ?_) | refine x_condf (h1 := ?_)
     | refine x_if (h1 := fun ht => ?_) (h2 := fun ht => ?_)
     | fail)
    all_goals try clear fx
  all_goals refine e_ret [] .nil (by simp [hk]; rfl) ?_
  all_goals simp_all [StmOk, Stm.reads]
  all_goals first | omega | grind
theorem tas_make {s : Stm} (h : s.kind = 3 ∨ s.kind = 4) : ∃ d, tasAV Tryz.prog 157 (formAV s) = some (.tup [.agg [iv d, iv s.a], bv true]) := by
  obtain ⟨n, to, a, b⟩ := s
  rcases h with h | h
  · simp only at h
    subst h
    exact ⟨1, by simp⟩
  · simp only at h
    subst h
    exact ⟨2, by simp⟩
theorem tas_no {s : Stm} (h : ¬ (s.kind = 3 ∨ s.kind = 4)) : tasAV Tryz.prog 157 (formAV s) = some (.tup [.agg [iv 0, iv 0], bv false]) := by
  simp only [not_or] at h
  obtain ⟨h3, h4⟩ := h
  unfold formAV
  rw [if_neg h3, if_neg h4]
  repeat' split
  all_goals simp
theorem impl_ValidShape_fn (gl) (p : Prg) (hs : Sml p) : FnOk Tryz.prog gl 81 [pav p] (fun _ y _ => y = bv (shapeOk p)) := by
  have hpl := hs.len
  refine FnOk.of_sem Tryz.func81 rfl (by kernel_rfl) (rs := [.tmp 2]) rfl Tryz.ntmps81 (Nat.le_of_ble_eq_true rfl) fun C w g root => ?_
  all_goals have fx := fx0
  repeat' (first
   | refine w_seq ?_ | refine w_block ?_ | refine w_skip ?_ | refine w_reg fun K hK => ?_
   | ((with_reducible refine s_end hK ?_); clear hK K)
   | (with_reducible first | refine then_normal ?_ | refine in_normal ?_ | refine then_exit ?_ | refine in_exit ?_ | refine then_ret ?_ | refine in_ret ?_ | refine in_other (by decide) ?_)
   | refine w_exit ?_
   | refine w_ret ?_
   | (with_reducible refine s_none ?_)
   | ((with_reducible refine g_id ?_); refine x_guard (h := ?_))
   | (with_reducible first | refine gx_tt ?_ | refine gx_ff ?_ | refine x_tf (h := ?_) | refine x_ft (h := ?_) | refine x_u (h := ?_) | refine x_assign (h := ?_) | refine x_box (h := ?_) | refine x_alloc (h := ?_) | refine x_store0 (h := ?_) | refine x_store (h := ?_))
   | (with_reducible refine x_q (h := ?_))
   | (with_reducible refine gx_s (fun ht => ?_) (fun ht => ?_))
   | refine x_condt (h1 := ?_) | refine x_condf (h1 := ?_)
   | refine x_if (h1 := fun ht => ?_) (h2 := fun ht => ?_)
   | fail)
  all_goals try clear fx
  · refine e_ret [] .nil (by simp; rfl) ?_
    have hno : (decide (1 ≤ p.length) && decide (p.length ≤ 7)) = false := by
      rw [Bool.eq_false_iff]
      intro h
      simp at h ht
      omega
    simp only [shapeOk, hno]
    rfl
  · refine e_ret [] .nil (by simp; rfl) ?_
    have hno : (decide (1 ≤ p.length) && decide (p.length ≤ 7)) = false := by
      rw [Bool.eq_false_iff]
      intro h
      simp at h ht
      omega
    simp only [shapeOk, hno]
    rfl
  rename_i ht1
  have hyes : 1 ≤ p.length ∧ p.length ≤ 7 := by
    simp at ht ht1
    omega
  clear ht ht1
  refine w_loop (fun n st => ∃ i : Nat, n = p.length - i ∧ i ≤ p.length ∧ st.tm 1 = .pt (.s 1) 0 ∧ st.hp (.s 1) = some (.row 1 [[ksl p]]) ∧ st.tm 24 = ksl p ∧ st.tm 25 = iv p.length ∧ st.tm 26 = iv i ∧ ∀ (j : Nat) q, j < i → p[j]? = some q → headOk j q = true ∧ q.body.length ≤ 12) p.length ?_ ?_
  · exact ⟨0, by simp⟩
  rintro n st - - ⟨i, rfl, hi, h1, hp1, h24, h25, h26, hal⟩
  have fx := And.intro h1 <| And.intro hp1 <| And.intro h24 <| And.intro h25 <| h26
  refine k_run ?_
  clear fx
  refine w_if (by simp []; first | done | rfl | exact (Bool.not_not _).symm) (fun ht => ?_) (fun hf => ?_)
  · have hlt : i < p.length := by simpa using ht
    obtain ⟨k, hk⟩ : ∃ k, p[i]? = some k := ⟨_, gE hlt⟩
    have fin : (headOk i k = true → ¬ k.body.length ≤ 12) → shapeOk p = false := fun h => by
      have : blkOk p i = false := by
        simp only [blkOk, hk, Bool.and_eq_false_iff, decide_eq_false_iff_not]
        cases hh : headOk i k with
        | false => exact .inl (.inl rfl)
        | true => exact .inl (.inr (h hh))
      simp only [shapeOk, range_false hlt this, Bool.and_false, Bool.false_and]
    have hbl := (hs.bsm hk).body
    clear ht
    all_goals have fx := And.intro h1 <| And.intro hp1 <| And.intro h24 <| And.intro h25 <| And.intro h26 <| hk
    repeat' (first
     | refine w_seq ?_ | refine w_block ?_ | refine w_skip ?_ | refine w_reg fun K hK => ?_
     | ((with_reducible refine s_end hK ?_); clear hK K)
     | (with_reducible first | refine then_normal ?_ | refine in_normal ?_ | refine then_exit ?_ | refine in_exit ?_ | refine then_ret ?_ | refine in_ret ?_ | refine in_other (by decide) ?_)
     | refine w_exit ?_
     | refine w_ret ?_
     | (with_reducible refine s_none ?_)
     | ((with_reducible refine g_id ?_); refine x_guard (h := ?_))
     | (with_reducible first | refine gx_tt ?_ | refine gx_ff ?_ | refine x_tf (h := ?_) | refine x_ft (h := ?_) | refine x_u (h := ?_) | refine x_assign (h := ?_) | refine x_box (h := ?_) | refine x_alloc (h := ?_) | refine x_store0 (h := ?_) | refine x_store (h := ?_))
     | ((with_reducible refine o_id 127 rfl ?_); refine x_call (hF := fitsHead_fn _ i k) (h := ?_))
     | (with_reducible refine x_q (h := ?_))
     | (with_reducible refine gx_s (fun ht => ?_) (fun ht => ?_))
     | refine x_condt (h1 := ?_) | refine x_condf (h1 := ?_)
     | refine x_if (h1 := fun ht => ?_) (h2 := fun ht => ?_)
     | fail)
    all_goals try clear fx
    · refine e_ret [] .nil (by simp; rfl) ?_
      rw [fin (fun h => by simp [h] at ht)]
      rfl
    · refine e_ret [] .nil (by simp; rfl) ?_
      rw [fin (fun _ h => by simp at ht; omega)]
      rfl
    · rename_i ht1
      refine ⟨p.length - (i + 1), by omega, i + 1, rfl, by omega, by simp [h1], by simp [hp1], by simp [h24], by simp [h25], by simp; exact wrp (by omega) (by omega), fun j q hj hq => ?_⟩
      rcases Nat.lt_succ_iff_lt_or_eq.1 hj with h | rfl
      · exact hal j q h hq
      · rw [hk] at hq
        obtain rfl := Option.some.inj hq
        refine ⟨by simpa using ht1, ?_⟩
        simp at ht
        omega
  have hge : i = p.length := by
    have : ¬ i < p.length := by simpa using hf
    omega
  subst hge
  clear hf hi
  have hal' : ∀ (j : Nat) q, p[j]? = some q → HeadOk j q ∧ q.body.length ≤ 12 := fun j q hq => by
    obtain ⟨h1, h2⟩ := hal j q (gS hq).1 hq
    exact ⟨by simpa only [headOk, decide_eq_true_eq] using h1, h2⟩
  clear hal
  have hh : Heads p := fun j q hq => (hal' j q hq).1.head
  have hb12 : ∀ q ∈ p, q.body.length ≤ 12 := fun q hq => by
    obtain ⟨j, hj⟩ := List.getElem?_of_mem hq
    exact (hal' j q hj).2
  have fx := And.intro h1 <| hp1
  refine k_run ?_
  clear fx
  refine w_loop (fun n st => ∃ i : Nat, n = p.length - i ∧ i ≤ p.length ∧ st.tm 1 = .pt (.s 1) 0 ∧ st.hp (.s 1) = some (.row 1 [[ksl p]]) ∧ st.tm 5 = .pt (.s 5) 0 ∧ st.hp (.s 5) = some (.row 7 [(madeL p [] i).map iv]) ∧ st.tm 43 = ksl p ∧ st.tm 44 = iv p.length ∧ st.tm 45 = iv i ∧ (List.range i).all (blkOk p) = true) p.length ?_ ?_
  · refine ⟨0, by simp, by simp, by simp [h1], by simp [hp1], by simp, ?_, by simp, by simp, by simp, by simp⟩
    simp [madeL, madeN, mkN]
    rfl
  clear h1 hp1 h24 h25 h26
  rintro n st - - ⟨i, rfl, hi, h1, hp1, h5, hp5, h43, h44, h45, hal⟩
  have fx := And.intro h1 <| And.intro hp1 <| And.intro h43 <| And.intro h44 <| h45
  refine k_run ?_
  clear fx
  refine w_if (by simp []; first | done | rfl | exact (Bool.not_not _).symm) (fun ht => ?_) (fun hf => ?_)
  · have hlt : i < p.length := by simpa using ht
    obtain ⟨k, hk⟩ : ∃ k, p[i]? = some k := ⟨_, gE hlt⟩
    have hbf : blkOk p i = (headOk i k && decide (k.body.length ≤ 12) && k.body.all (StmOk p i k)) := by simp only [blkOk, hk]
    obtain ⟨hhd, hbd⟩ := hal' i k hk
    have hhd' : headOk i k = true := by simpa only [headOk, decide_eq_true_eq] using hhd
    clear ht
    have fx := And.intro h1 <| And.intro hp1 <| And.intro h43 <| And.intro h44 <| And.intro h45 <| hk
    refine k_run ?_
    clear fx
    refine w_loop (fun n st => ∃ j : Nat, n = k.body.length - j ∧ j ≤ k.body.length ∧ st.tm 1 = .pt (.s 1) 0 ∧ st.hp (.s 1) = some (.row 1 [[ksl p]]) ∧ st.tm 5 = .pt (.s 5) 0 ∧ st.hp (.s 5) = some (.row 7 [(madeL p (k.body.take j) i).map iv]) ∧ st.tm 43 = ksl p ∧ st.tm 44 = iv p.length ∧ st.tm 45 = iv i ∧ st.tm 6 = iv i ∧ st.tm 51 = ssl k.body ∧ st.tm 52 = iv k.body.length ∧ st.tm 53 = iv j ∧ (k.body.take j).all (StmOk p i k) = true) k.body.length ?_ ?_
    · exact ⟨0, by simp [h1, hp1, h5, hp5, h43, h44, h45]⟩
    clear h1 hp1 h5 hp5 h43 h44 h45
    rintro n st - - ⟨j, rfl, hj, h1, hp1, h5, hp5, h43, h44, h45, h6, h51, h52, h53, haj⟩
    have fx := And.intro h51 <| And.intro h52 <| h53
    refine k_run ?_
    clear fx
    refine w_if (by simp []; first | done | rfl | exact (Bool.not_not _).symm) (fun ht => ?_) (fun hf => ?_)
    · have hlj : j < k.body.length := by simpa using ht
      obtain ⟨s, hsj⟩ : ∃ s, k.body[j]? = some s := ⟨_, gE hlj⟩
      clear ht
      cases hok : StmOk p i k s with
      | false =>
        have fx := And.intro h1 <| And.intro hp1 <| And.intro h51 <| And.intro h52 <| And.intro h53 <| And.intro h6 <| And.intro hsj <| hok
        have c1 := fitsStmt_fn gl p i k s hk hh hhd
        refine k_run ?_
        clear fx c1
        refine e_ret [] .nil (by simp; rfl) ?_
        have : blkOk p i = false := by rw [hbf, all_false (List.mem_of_getElem? hsj) hok]; simp
        simp only [shapeOk, range_false hlt this, Bool.and_false, Bool.false_and]
        rfl
      | true =>
        by_cases hm : s.kind = 3 ∨ s.kind = 4
        · obtain ⟨d, hta⟩ := tas_make hm
          obtain ⟨a, ha, hal7⟩ : ∃ a : Nat, s.a = a ∧ a < p.length := by
            have : ∃ d, madeAs p i s.a d = true := by
              rcases hm with h | h
              · simp [StmOk, h] at hok
                exact ⟨_, hok.2.2⟩
              · simp [StmOk, h] at hok
                exact ⟨_, hok.2.2⟩
            obtain ⟨d, hd⟩ := this
            simp only [madeAs, Bool.and_eq_true, decide_eq_true_eq] at hd
            exact ⟨s.a.toNat, by omega, by omega⟩
          have ha7 : a < 7 := by omega
          have ha8 : (a : Int) < 7 := by omega
          rw [ha] at hta
          have hget := madeL_get (p := p) (ss := k.body.take j) (n := i) ha7
          have hset := madeL_set (p := p) (n := i) hsj ha hm ha7
          have hml : (madeL p (k.body.take j) i).length = 7 := by simp [madeL]
          have hw : IntKind.i64.wrap (((madeN p a i + mkN (k.body.take j) a : Nat) : Int) + 1) = ((madeN p a i + mkN (k.body.take j) a : Nat) : Int) + 1 := by
            have h1 := madeN_le (b := a) hb12 i
            have h2 := mkN_le (k.body.take j) a
            have h3 := List.length_take_le j k.body
            exact wrp (by omega) (by omega)
          generalize hA : madeL p (k.body.take j) i = A at hp5 hget hset hml
          generalize hv : ((madeN p a i + mkN (k.body.take j) a : Nat) : Int) = v at hget hset hw
          obtain ⟨_, hge2⟩ := gS hget
          have fx := And.intro h1 <| And.intro hp1 <| And.intro h5 <| And.intro hp5 <| And.intro h51 <| And.intro h52 <| And.intro h53 <| And.intro h6 <| And.intro hsj <| And.intro hok <| And.intro hta <| And.intro ha7 <| And.intro ha8 <| And.intro hget <| And.intro hge2 <| And.intro hw <| hml
          have c1 := fitsStmt_fn gl p i k s hk hh hhd
          have c2 := formOf_fn gl s
          refine k_run ?_
          clear fx c1 c2
          refine ⟨k.body.length - (j + 1), by omega, j + 1, rfl, by omega, by simp [h1], by simp [hp1], by simp [h5], ?_, by simp [h43], by simp [h44], by simp [h45], by simp [h6], by simp [h51], by simp [h52], by simp; exact wrp (by omega) (by omega), ?_⟩
          · rw [← hset, ← iv_set (by omega)]
            simp [hge2, hw]
          · rw [List.take_add_one, hsj, List.all_append, haj]
            simpa using hok
        · have hta := tas_no hm
          have hskip := madeL_skip (p := p) (n := i) hsj hm
          have fx := And.intro h1 <| And.intro hp1 <| And.intro h51 <| And.intro h52 <| And.intro h53 <| And.intro h6 <| And.intro hsj <| And.intro hok <| hta
          have c1 := fitsStmt_fn gl p i k s hk hh hhd
          have c2 := formOf_fn gl s
          refine k_run ?_
          clear fx c1 c2
          refine ⟨k.body.length - (j + 1), by omega, j + 1, rfl, by omega, by simp [h1], by simp [hp1], by simp [h5], by simp [hp5, hskip], by simp [h43], by simp [h44], by simp [h45], by simp [h6], by simp [h51], by simp [h52], by simp; exact wrp (by omega) (by omega), ?_⟩
          rw [List.take_add_one, hsj, List.all_append, haj]
          simpa using hok
    · have hge : j = k.body.length := by
        have : ¬ j < k.body.length := by simpa using hf
        omega
      subst hge
      rw [List.take_length] at haj hp5
      rw [madeL_next hk] at hp5
      have fx := And.intro h51 <| And.intro h52 <| And.intro h53 <| h45
      refine k_run ?_
      clear fx
      refine ⟨p.length - (i + 1), by omega, i + 1, rfl, by omega, by simp [h1], by simp [hp1], by simp [h5], by simp [hp5], by simp [h43], by simp [h44], by simp; exact wrp (by omega) (by omega), ?_⟩
      rw [all_range_succ, hal, hbf, hhd', haj]
      simpa using hbd
  · have hge : i = p.length := by
      have : ¬ i < p.length := by simpa using hf
      omega
    subst hge
    have hshp : shapeOk p = (List.range p.length).all (fun i => i == 0 || madeIn p i == 1) := by
      simp only [shapeOk, hal, hyes, decide_true, Bool.and_true, Bool.true_and]
    have hv : ∀ (i : Nat) q, p[i]? = some q → ∀ s ∈ q.body, StmOk p i q s = true := fun i q hq s hs => by
      have := List.all_eq_true.1 hal i (List.mem_range.2 (gS hq).1)
      simp only [blkOk, hq, Bool.and_eq_true] at this
      exact List.all_eq_true.1 this.2 s hs
    clear hf hi
    have fx := And.intro h1 <| And.intro hp1 <| And.intro h43 <| And.intro h44 <| h45
    refine k_run ?_
    clear fx
    refine w_loop (fun n st => ∃ i : Nat, n = p.length - i ∧ i ≤ p.length ∧ 1 ≤ i ∧ st.tm 1 = .pt (.s 1) 0 ∧ st.hp (.s 1) = some (.row 1 [[ksl p]]) ∧ st.tm 5 = .pt (.s 5) 0 ∧ st.hp (.s 5) = some (.row 7 [(madeL p [] p.length).map iv]) ∧ st.tm 12 = iv i ∧ (List.range i).all (fun i => i == 0 || madeIn p i == 1) = true) (p.length - 1) ?_ ?_
    · exact ⟨1, by omega, by omega, by omega, by simp [h1], by simp [hp1], by simp [h5], by simp [hp5], by simp, by simp⟩
    clear h1 hp1 h5 hp5 h43 h44 h45
    rintro n st - - ⟨i, rfl, hi, hi1, h1, hp1, h5, hp5, h12, hmi⟩
    have fx := And.intro h1 <| And.intro hp1 <| h12
    refine k_run ?_
    clear fx
    refine w_if (by simp []; first | done | rfl | exact (Bool.not_not _).symm) (fun ht => ?_) (fun hf => ?_)
    · have hlt : i < p.length := by simpa using ht
      obtain ⟨k, hk⟩ : ∃ k, p[i]? = some k := ⟨_, gE hlt⟩
      have hi7 : i < 7 := by omega
      have hi8 : (i : Int) < 7 := by omega
      have hpk := (hh i k hk).2.2 (by omega)
      have hget : (madeL p [] p.length)[i]? = some (madeIn p i) := by
        rw [madeL_get hi7, ← madeN_at hh hk hv hpk]
        simp [mkN]
      generalize hA : madeL p [] p.length = A at hp5 hget
      clear ht
      all_goals have fx := And.intro h1 <| And.intro hp1 <| And.intro h5 <| And.intro hp5 <| And.intro h12 <| And.intro hi7 <| And.intro hi8 <| And.intro hget <| @bne_def
      repeat' (first
       | refine w_seq ?_ | refine w_block ?_ | refine w_skip ?_ | refine w_reg fun K hK => ?_
       | ((with_reducible refine s_end hK ?_); clear hK K)
       | (with_reducible first | refine then_normal ?_ | refine in_normal ?_ | refine then_exit ?_ | refine in_exit ?_ | refine then_ret ?_ | refine in_ret ?_ | refine in_other (by decide) ?_)
       | refine w_exit ?_
       | refine w_ret ?_
       | (with_reducible refine s_none ?_)
       | ((with_reducible refine g_id ?_); refine x_guard (h := ?_))
       | (with_reducible first | refine gx_tt ?_ | refine gx_ff ?_ | refine x_tf (h := ?_) | refine x_ft (h := ?_) | refine x_u (h := ?_) | refine x_assign (h := ?_) | refine x_box (h := ?_) | refine x_alloc (h := ?_) | refine x_store0 (h := ?_) | refine x_store (h := ?_))
       | (with_reducible refine x_q (h := ?_))
       | (with_reducible refine gx_s (fun ht => ?_) (fun ht => ?_))
       | refine x_condt (h1 := ?_) | refine x_condf (h1 := ?_)
       | refine x_if (h1 := fun ht => ?_) (h2 := fun ht => ?_)
       | fail)
      all_goals try clear fx
      · refine e_ret [] .nil (by simp; rfl) ?_
        rw [hshp, range_false hlt (show (i == 0 || madeIn p i == 1) = false by simp at ht ⊢; exact ⟨by omega, ht⟩)]
        rfl
      · refine ⟨p.length - (i + 1), by omega, i + 1, rfl, by omega, by omega, by simp [h1], by simp [hp1], by simp [h5], by simp [hp5], by simp; exact wrp (by omega) (by omega), ?_⟩
        rw [all_range_succ, hmi]
        simp at ht ⊢
        exact .inr ht
    · have hge : i = p.length := by
        have : ¬ i < p.length := by simpa using hf
        omega
      subst hge
      have fx := fx0
      refine k_run ?_
      clear fx
      refine e_ret [] .nil (by simp []; rfl) (by simp [hshp, hmi])
end Go.Proofs.YtcbkblboonkfhaaGreat
end
