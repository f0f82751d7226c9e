/-
  Own texts, joined by mkclaim.py: Hm66, Hm67, Hm70, Hm71, Hm72, Hm73, Hm74, Hm75, Hm76, Hm77, Hm78, Hm79, Hm81, Hm82, Hm83, Hm84, Hm85, Hm86, Hm87, Hm88, Hm89, Hm94, Hm95, Hm96, Hm99, Hm100.
-/
import Derived.Test.YtmaoicgfcngciaaGreatDoorY09
import Derived.Test.YtmaoicgfcngciaaGreatDoorY10
import Derived.Test.YtmaoicgfcngciaaGreatDoorY11
import Derived.ChangeVars
import Derived.Stop.Joined
set_option linter.unusedSimpArgs false
set_option linter.unusedVariables false
set_option maxRecDepth 100000
set_option maxHeartbeats 4000000

section
namespace Go.Hm
open Go Go.RowKit
section
variable {X : Ctx} {st : St} {K : St → Prop} {E : AV → St → Prop} {dst : Option Nat} {f f' : FuncId} {args : Array Operand} {Ts : Array TypeId} {ty : TypeId} {pos : String} {aft : Array Edge} {g : Option (Nat × Bool)} {P : Program} {gl : Nat → Option (List AV)} {az : List AV} {R : Nm → AV → (Nm → Option AO) → Prop}
theorem o_idc (_hF : FnOk P gl f' az R) (_hf : f = f') (h : SemOp X ⟨dst, .call ⟨.value (.func f), args, Ts⟩, ty, pos, aft, g⟩ K E st) : SemOp X ⟨dst, .call ⟨.value (.func f), args, Ts⟩, ty, pos, aft, g⟩ K E st := h
end
def AV.isHs : AV → Bool
  | .hs _ _ _ _ => true
  | _ => false
@[simp] theorem isHs_hs {n : Nm} {z lo len : Nat} : (AV.hs n z lo len).isHs = true := rfl
@[simp] theorem isHs_sc {v : Value} : (AV.sc v).isHs = false := rfl
section
variable {X : Ctx} {st st' : St} {K : St → Prop} {E : AV → St → Prop} {d : Nat} {ty : TypeId} {pos : String} {aft : Array Edge} {g : Option (Nat × Bool)}
theorem x_appendM {T F : TypeId} {s x : Operand} {z len : Nat} {n : Nm} {rows0 rows2 : List (List AV)} (hd : d < X.n := by first | (simp; done) | fail) (hT : tapp X.P T = some F := by simp [fx]; first | done | rfl) (hz : tsz X.P F = z := by simp [fx]; first | done | rfl) (hs : ev st s = .hs n z 0 len := by simp [fx]; first | done | rfl | exact ⟨rfl, rfl⟩ | exact ⟨rfl, rfl, rfl⟩)
    (hn : st.hp n = some (.row z rows0) := by simp [fx]; first | done | rfl) (hle : len ≤ rows0.length := by first | (simp [fx]; done) | (simp [fx]; omega) | omega)
    (hx : srcRows st z (ev st x) = some rows2 := by simp [fx]; first | done | rfl) (hm : (rows2.any fun r => r.any AV.isHs) = true := by first | (simp; done) | fail) (hlen : len + rows2.length ≤ 4294967296 := by first | (simp [fx]; done) | (simp [fx]; omega) | omega)
    (hq : Hm.canon (prcL (.s d) len rows2) ((apSt d z (len + rows2.length) (some n) (rows0.take len ++ rows2) st).mvc n (.s d)) = st' := by simp [fx]; first | done | rfl | exact (Bool.not_not _).symm) (h : K st') :
    SemOp X ⟨some d, .call ⟨.builtin .append, #[s, x], #[T, T]⟩, ty, pos, aft, g⟩ K E st := o_appendC hd hT hz hs hn hle hx hlen hq h
end
section
variable {X : Ctx} {st : St} {K : St → Prop} {E : AV → St → Prop} {d : Nat} {ty : TypeId} {pos : String} {aft : Array Edge} {g : Option (Nat × Bool)} {f : Nat} {args : Array Operand} {Ts : Array TypeId} {az avs : List AV}
theorem kx_call {x : AV} (hd : d < X.n := by first | (simp; done) | fail) (ha : args.toList.map (ev st) = avs := by simp [fx]; first | done | rfl | exact (Bool.not_not _).symm)
    (hB : BwL st.hp noD avs az := by
      first
      | ((repeat' (first | exact .nil | refine .cons ?_ ?_ | exact .refl _ | exact bw_ints (by simp [fx]; first | done | rfl) (by first | (simp [fx]; done) | (simp [fx]; omega) | omega) | exact bw_list (by simp [fx]; first | done | rfl) (by first | (simp [fx]; done) | (simp [fx]; omega) | omega) (by first | (simp; done) | fail) | exact bw_ords (by simp [fx]; first | done | rfl) (by first | (simp [fx]; done) | (simp [fx]; omega) | omega) | exact bw_stms (by simp [fx]; first | done | rfl) (by first | (simp [fx]; done) | (simp [fx]; omega) | omega) | exact bw_scopes ⟨(by first | (simp [hc1]; done) | fail), fun j k hj hk => (by first | (simp [hc2 j k hj hk]; done) | fail)⟩ hh rfl | exact bw_sc ⟨(by first | (simp [hc1]; done) | fail), fun j k hj hk => (by first | (simp [hc2 j k hj hk]; done) | fail)⟩ hh hk | exact bw_agg1 (bw_prog ⟨(by first | (simp [a1]; done) | fail), fun j r hj => (by first | (simp [a2 j r hj]; done) | fail), fun j r hj => (by first | (simp [a3 j r hj]; done) | fail)⟩ rfl) | exact bw_agg1 (bw_prog ⟨(by first | (simp [b1]; done) | fail), fun j r hj => (by first | (simp [b2 j r hj]; done) | fail), fun j r hj => (by first | (simp [b3 j r hj]; done) | fail)⟩ rfl) | exact bw_agg1 (bw_prog ⟨(by first | (simp [ho1]; done) | fail), fun j r hj => (by first | (simp [ho2 j r hj]; done) | fail), fun j r hj => (by first | (simp [ho3 j r hj]; done) | fail)⟩ rfl) | exact bw_codeA ⟨(by first | (simp [o1]; done) | fail), (by first | (simp [o2]; done) | fail), (by first | (simp [o3]; done) | fail), (by first | (simp [o4]; done) | fail), (by first | (simp [o5]; done) | fail)⟩ | exact bw_codeA ⟨(by first | (simp [q1]; done) | fail), (by first | (simp [q2]; done) | fail), (by first | (simp [q3]; done) | fail), (by first | (simp [q4]; done) | fail), (by first | (simp [q5]; done) | fail)⟩ | exact bw_codes ⟨(by first | (simp [kt]; done) | fail), fun i c hc => ⟨(by first | (simp [(ke i c hc).params]; done) | fail), (by first | (simp [(ke i c hc).fasts]; done) | fail), (by first | (simp [(ke i c hc).cells]; done) | fail), (by first | (simp [(ke i c hc).frees]; done) | fail), (by first | (simp [(ke i c hc).ops]; done) | fail)⟩⟩ rfl | exact bw_codes ⟨(by first | (simp [mt]; done) | fail), fun i c hc => ⟨(by first | (simp [(me i c hc).params]; done) | fail), (by first | (simp [(me i c hc).fasts]; done) | fail), (by first | (simp [(me i c hc).cells]; done) | fail), (by first | (simp [(me i c hc).frees]; done) | fail), (by first | (simp [(me i c hc).ops]; done) | fail)⟩⟩ rfl | exact bw_codes ⟨(by first | (simp [nt]; done) | fail), fun i c hc => ⟨(by first | (simp [(ne i c hc).params]; done) | fail), (by first | (simp [(ne i c hc).fasts]; done) | fail), (by first | (simp [(ne i c hc).cells]; done) | fail), (by first | (simp [(ne i c hc).frees]; done) | fail), (by first | (simp [(ne i c hc).ops]; done) | fail)⟩⟩ rfl)); done)
      | fail)
    (hF : FnOk X.P X.gl f az (fun _ y _ => y = x)) (hc : x.cln = true := by first | (simp [fx]; done) | fail) (h : K ((st.kill (.s d)).put (some d) x)) :
    SemOp X ⟨some d, .call ⟨.value (.func f), args, Ts⟩, ty, pos, aft, g⟩ K E st := o_call hd ha hB hF hc h
theorem kx_callh {z n : Nat} {rows : List (List AV)} (hd : d < X.n := by first | (simp; done) | fail) (ha : args.toList.map (ev st) = avs := by simp [fx]; first | done | rfl | exact (Bool.not_not _).symm)
    (hB : BwL st.hp noD avs az := by
      first
      | ((repeat' (first | exact .nil | refine .cons ?_ ?_ | exact .refl _ | exact bw_ints (by simp [fx]; first | done | rfl) (by first | (simp [fx]; done) | (simp [fx]; omega) | omega) | exact bw_list (by simp [fx]; first | done | rfl) (by first | (simp [fx]; done) | (simp [fx]; omega) | omega) (by first | (simp; done) | fail) | exact bw_ords (by simp [fx]; first | done | rfl) (by first | (simp [fx]; done) | (simp [fx]; omega) | omega) | exact bw_stms (by simp [fx]; first | done | rfl) (by first | (simp [fx]; done) | (simp [fx]; omega) | omega) | exact bw_scopes ⟨(by first | (simp [hc1]; done) | fail), fun j k hj hk => (by first | (simp [hc2 j k hj hk]; done) | fail)⟩ hh rfl | exact bw_sc ⟨(by first | (simp [hc1]; done) | fail), fun j k hj hk => (by first | (simp [hc2 j k hj hk]; done) | fail)⟩ hh hk | exact bw_agg1 (bw_prog ⟨(by first | (simp [a1]; done) | fail), fun j r hj => (by first | (simp [a2 j r hj]; done) | fail), fun j r hj => (by first | (simp [a3 j r hj]; done) | fail)⟩ rfl) | exact bw_agg1 (bw_prog ⟨(by first | (simp [b1]; done) | fail), fun j r hj => (by first | (simp [b2 j r hj]; done) | fail), fun j r hj => (by first | (simp [b3 j r hj]; done) | fail)⟩ rfl) | exact bw_agg1 (bw_prog ⟨(by first | (simp [ho1]; done) | fail), fun j r hj => (by first | (simp [ho2 j r hj]; done) | fail), fun j r hj => (by first | (simp [ho3 j r hj]; done) | fail)⟩ rfl) | exact bw_codeA ⟨(by first | (simp [o1]; done) | fail), (by first | (simp [o2]; done) | fail), (by first | (simp [o3]; done) | fail), (by first | (simp [o4]; done) | fail), (by first | (simp [o5]; done) | fail)⟩ | exact bw_codeA ⟨(by first | (simp [q1]; done) | fail), (by first | (simp [q2]; done) | fail), (by first | (simp [q3]; done) | fail), (by first | (simp [q4]; done) | fail), (by first | (simp [q5]; done) | fail)⟩ | exact bw_codes ⟨(by first | (simp [kt]; done) | fail), fun i c hc => ⟨(by first | (simp [(ke i c hc).params]; done) | fail), (by first | (simp [(ke i c hc).fasts]; done) | fail), (by first | (simp [(ke i c hc).cells]; done) | fail), (by first | (simp [(ke i c hc).frees]; done) | fail), (by first | (simp [(ke i c hc).ops]; done) | fail)⟩⟩ rfl | exact bw_codes ⟨(by first | (simp [mt]; done) | fail), fun i c hc => ⟨(by first | (simp [(me i c hc).params]; done) | fail), (by first | (simp [(me i c hc).fasts]; done) | fail), (by first | (simp [(me i c hc).cells]; done) | fail), (by first | (simp [(me i c hc).frees]; done) | fail), (by first | (simp [(me i c hc).ops]; done) | fail)⟩⟩ rfl | exact bw_codes ⟨(by first | (simp [nt]; done) | fail), fun i c hc => ⟨(by first | (simp [(ne i c hc).params]; done) | fail), (by first | (simp [(ne i c hc).fasts]; done) | fail), (by first | (simp [(ne i c hc).cells]; done) | fail), (by first | (simp [(ne i c hc).frees]; done) | fail), (by first | (simp [(ne i c hc).ops]; done) | fail)⟩⟩ rfl)); done)
      | fail)
    (hF : FnOk X.P X.gl f az (fun r y H' => y = .hs r z 0 n ∧ H' r = some (.row z rows))) (hc : rows.all (fun r => r.all AV.cln) = true := by first | (simp; done) | fail)
    (h : K (((st.kill (.s d)).setO (.s d) (.row z rows)).put (some d) (.hs (.s d) z 0 n))) : SemOp X ⟨some d, .call ⟨.value (.func f), args, Ts⟩, ty, pos, aft, g⟩ K E st := o_callh hd ha hB hF hc h
theorem kx_callg {R : Nm → AV → (Nm → Option AO) → Prop} (hd : d < X.n := by first | (simp; done) | fail) (ha : args.toList.map (ev st) = avs := by simp [fx]; first | done | rfl | exact (Bool.not_not _).symm)
    (hB : BwL st.hp noD avs az := by
      first
      | ((repeat' (first | exact .nil | refine .cons ?_ ?_ | exact .refl _ | exact bw_ints (by simp [fx]; first | done | rfl) (by first | (simp [fx]; done) | (simp [fx]; omega) | omega) | exact bw_list (by simp [fx]; first | done | rfl) (by first | (simp [fx]; done) | (simp [fx]; omega) | omega) (by first | (simp; done) | fail) | exact bw_ords (by simp [fx]; first | done | rfl) (by first | (simp [fx]; done) | (simp [fx]; omega) | omega) | exact bw_stms (by simp [fx]; first | done | rfl) (by first | (simp [fx]; done) | (simp [fx]; omega) | omega) | exact bw_scopes ⟨(by first | (simp [hc1]; done) | fail), fun j k hj hk => (by first | (simp [hc2 j k hj hk]; done) | fail)⟩ hh rfl | exact bw_sc ⟨(by first | (simp [hc1]; done) | fail), fun j k hj hk => (by first | (simp [hc2 j k hj hk]; done) | fail)⟩ hh hk | exact bw_agg1 (bw_prog ⟨(by first | (simp [a1]; done) | fail), fun j r hj => (by first | (simp [a2 j r hj]; done) | fail), fun j r hj => (by first | (simp [a3 j r hj]; done) | fail)⟩ rfl) | exact bw_agg1 (bw_prog ⟨(by first | (simp [b1]; done) | fail), fun j r hj => (by first | (simp [b2 j r hj]; done) | fail), fun j r hj => (by first | (simp [b3 j r hj]; done) | fail)⟩ rfl) | exact bw_agg1 (bw_prog ⟨(by first | (simp [ho1]; done) | fail), fun j r hj => (by first | (simp [ho2 j r hj]; done) | fail), fun j r hj => (by first | (simp [ho3 j r hj]; done) | fail)⟩ rfl) | exact bw_codeA ⟨(by first | (simp [o1]; done) | fail), (by first | (simp [o2]; done) | fail), (by first | (simp [o3]; done) | fail), (by first | (simp [o4]; done) | fail), (by first | (simp [o5]; done) | fail)⟩ | exact bw_codeA ⟨(by first | (simp [q1]; done) | fail), (by first | (simp [q2]; done) | fail), (by first | (simp [q3]; done) | fail), (by first | (simp [q4]; done) | fail), (by first | (simp [q5]; done) | fail)⟩ | exact bw_codes ⟨(by first | (simp [kt]; done) | fail), fun i c hc => ⟨(by first | (simp [(ke i c hc).params]; done) | fail), (by first | (simp [(ke i c hc).fasts]; done) | fail), (by first | (simp [(ke i c hc).cells]; done) | fail), (by first | (simp [(ke i c hc).frees]; done) | fail), (by first | (simp [(ke i c hc).ops]; done) | fail)⟩⟩ rfl | exact bw_codes ⟨(by first | (simp [mt]; done) | fail), fun i c hc => ⟨(by first | (simp [(me i c hc).params]; done) | fail), (by first | (simp [(me i c hc).fasts]; done) | fail), (by first | (simp [(me i c hc).cells]; done) | fail), (by first | (simp [(me i c hc).frees]; done) | fail), (by first | (simp [(me i c hc).ops]; done) | fail)⟩⟩ rfl | exact bw_codes ⟨(by first | (simp [nt]; done) | fail), fun i c hc => ⟨(by first | (simp [(ne i c hc).params]; done) | fail), (by first | (simp [(ne i c hc).fasts]; done) | fail), (by first | (simp [(ne i c hc).cells]; done) | fail), (by first | (simp [(ne i c hc).frees]; done) | fail), (by first | (simp [(ne i c hc).ops]; done) | fail)⟩⟩ rfl)); done)
      | fail)
    (hF : FnOk X.P X.gl f az R) (h : ∀ y H', R (.s d) y H' → y.cln = true ∧ K (((st.kill (.s d)).addH d (hcln H')).put (some d) y)) :
    SemOp X ⟨some d, .call ⟨.value (.func f), args, Ts⟩, ty, pos, aft, g⟩ K E st := o_callg hd ha hB hF h
end
structure KTag (p : Prop) : Prop where
  h : p
theorem k_run {G G' : Prop} (k : G') (h : KTag G' → G := by
  intro kk
  repeat' (first
    | refine w_seq ?_ | refine w_block ?_ | refine w_skip ?_ | refine w_label ?_ | refine w_reg fun K hK => ?_
    | ((with_reducible refine s_end hK ?_); clear hK K) | (with_reducible refine s_end hK ?_)
    | (with_reducible first | refine then_normal ?_ | refine in_normal ?_ | refine then_exit ?_ | refine in_exit ?_ | refine then_ret ?_ | refine in_ret ?_ | refine s_nil ?_ | refine in_other (by decide) ?_)
    | refine w_exit ?_
    | refine w_ret ?_
    | (with_reducible refine s_none ?_)
    | ((with_reducible refine g_id ?_); refine x_guard (h := ?_))
    | (with_reducible first | refine gx_tt ?_ | refine gx_ff ?_ | refine x_tf (h := ?_) | refine x_ft (h := ?_) | refine x_u (h := ?_) | refine x_assign (h := ?_) | refine x_box (h := ?_) | refine x_alloc (h := ?_) | refine x_store0 (h := ?_) | refine x_append0 (h := ?_) | refine x_appendM (h := ?_) | refine x_append (h := ?_) | refine x_store (h := ?_) | refine x_make (h := ?_) | refine x_build (h := ?_))
    | ((with_reducible refine o_idc c1 rfl ?_); refine kx_call (hF := c1) (h := ?_))
    | ((with_reducible refine o_idc c2 rfl ?_); refine kx_call (hF := c2) (h := ?_))
    | ((with_reducible refine o_idc c3 rfl ?_); refine kx_call (hF := c3) (h := ?_))
    | ((with_reducible refine o_idc c4 rfl ?_); refine kx_call (hF := c4) (h := ?_))
    | ((with_reducible refine o_idc c5 rfl ?_); refine kx_call (hF := c5) (h := ?_))
    | ((with_reducible refine o_idc c6 rfl ?_); refine kx_call (hF := c6) (h := ?_))
    | ((with_reducible refine o_idc d1 rfl ?_); refine kx_callh (hF := d1) (h := ?_))
    | ((with_reducible refine o_idc d2 rfl ?_); refine kx_callh (hF := d2) (h := ?_))
    | ((with_reducible refine o_idc d3 rfl ?_); refine kx_callh (hF := d3) (h := ?_))
    | ((with_reducible refine o_idc d4 rfl ?_); refine kx_callh (hF := d4) (h := ?_))
    | ((with_reducible refine o_idc e1 rfl ?_); refine kx_callg (hF := e1) (h := ?_))
    | ((with_reducible refine o_idc e2 rfl ?_); refine kx_callg (hF := e2) (h := ?_))
    | (with_reducible refine x_q (h := ?_))
    | (with_reducible refine gx_s (fun ht => ?_) (fun ht => ?_))
    | refine x_condt (h1 := ?_) | refine x_condf (h1 := ?_)
    | ((with_reducible refine a_end hK ?_); clear hK K) | (with_reducible refine a_end hK ?_)
    | ((with_reducible refine a_id ?_); first | refine xa_q (h := ?_) | refine xa_qt (h := ?_) | refine xa_qf (h := ?_) | refine xa_qu (h := ?_))
    | ((with_reducible refine a_id ?_); refine xa_gq (h1 := fun ht => ?_) (h2 := fun ht => ?_))
    | refine a_l rfl ?_ | refine a_l2 ?_ ?_ | (with_reducible refine And.intro ?_ ?_) | exact st_nil | refine xa_st (h2 := ?_)
    | fail)
  first | exact kk.h | (revert hK; revert K; exact kk.h)) : G := h ⟨k⟩
theorem k_rund {G G' : Prop} (k : G') (h : KTag G' → G := by
  intro kk K hK
  repeat' (first
    | refine w_seq ?_ | refine w_block ?_ | refine w_skip ?_ | refine w_label ?_ | refine w_reg fun K hK => ?_
    | ((with_reducible refine s_end hK ?_); clear hK K) | (with_reducible refine s_end hK ?_)
    | (with_reducible first | refine then_normal ?_ | refine in_normal ?_ | refine then_exit ?_ | refine in_exit ?_ | refine then_ret ?_ | refine in_ret ?_ | refine s_nil ?_ | refine in_other (by decide) ?_)
    | refine w_exit ?_
    | refine w_ret ?_
    | (with_reducible refine s_none ?_)
    | ((with_reducible refine g_id ?_); refine x_guard (h := ?_))
    | (with_reducible first | refine gx_tt ?_ | refine gx_ff ?_ | refine x_tf (h := ?_) | refine x_ft (h := ?_) | refine x_u (h := ?_) | refine x_assign (h := ?_) | refine x_box (h := ?_) | refine x_alloc (h := ?_) | refine x_store0 (h := ?_) | refine x_append0 (h := ?_) | refine x_appendM (h := ?_) | refine x_append (h := ?_) | refine x_store (h := ?_) | refine x_make (h := ?_) | refine x_build (h := ?_))
    | ((with_reducible refine o_idc c1 rfl ?_); refine kx_call (hF := c1) (h := ?_))
    | ((with_reducible refine o_idc c2 rfl ?_); refine kx_call (hF := c2) (h := ?_))
    | ((with_reducible refine o_idc c3 rfl ?_); refine kx_call (hF := c3) (h := ?_))
    | ((with_reducible refine o_idc c4 rfl ?_); refine kx_call (hF := c4) (h := ?_))
    | ((with_reducible refine o_idc c5 rfl ?_); refine kx_call (hF := c5) (h := ?_))
    | ((with_reducible refine o_idc c6 rfl ?_); refine kx_call (hF := c6) (h := ?_))
    | ((with_reducible refine o_idc d1 rfl ?_); refine kx_callh (hF := d1) (h := ?_))
    | ((with_reducible refine o_idc d2 rfl ?_); refine kx_callh (hF := d2) (h := ?_))
    | ((with_reducible refine o_idc d3 rfl ?_); refine kx_callh (hF := d3) (h := ?_))
    | ((with_reducible refine o_idc d4 rfl ?_); refine kx_callh (hF := d4) (h := ?_))
    | ((with_reducible refine o_idc e1 rfl ?_); refine kx_callg (hF := e1) (h := ?_))
    | ((with_reducible refine o_idc e2 rfl ?_); refine kx_callg (hF := e2) (h := ?_))
    | (with_reducible refine x_q (h := ?_))
    | (with_reducible refine gx_s (fun ht => ?_) (fun ht => ?_))
    | refine x_condt (h1 := ?_) | refine x_condf (h1 := ?_)
    | ((with_reducible refine a_end hK ?_); clear hK K) | (with_reducible refine a_end hK ?_)
    | ((with_reducible refine a_id ?_); first | refine xa_q (h := ?_) | refine xa_qt (h := ?_) | refine xa_qf (h := ?_) | refine xa_qu (h := ?_))
    | ((with_reducible refine a_id ?_); refine xa_gq (h1 := fun ht => ?_) (h2 := fun ht => ?_))
    | refine a_l rfl ?_ | refine a_l2 ?_ ?_ | (with_reducible refine And.intro ?_ ?_) | exact st_nil | refine xa_st (h2 := ?_)
    | fail)
  first | exact kk.h | (revert hK; revert K; exact kk.h)) : G := h ⟨k⟩
theorem k_runj {X : Ctx} {c : Code} {Q : Ex → St → Prop} {G : Prop} (I : St → Prop) (k : ∀ st, I st → SemCode X c Q st) (h : KTag (∀ st, I st → SemCode X c Q st) → G := by
  intro kk K hK
  repeat' (first
    | refine w_seq ?_ | refine w_block ?_ | refine w_skip ?_ | refine w_label ?_ | refine w_reg fun K hK => ?_
    | ((with_reducible refine s_end hK ?_); clear hK K) | (with_reducible refine s_end hK ?_)
    | (with_reducible first | refine then_normal ?_ | refine in_normal ?_ | refine then_exit ?_ | refine in_exit ?_ | refine then_ret ?_ | refine in_ret ?_ | refine s_nil ?_ | refine in_other (by decide) ?_)
    | refine w_exit ?_
    | refine w_ret ?_
    | (with_reducible refine s_none ?_)
    | ((with_reducible refine g_id ?_); refine x_guard (h := ?_))
    | (with_reducible first | refine gx_tt ?_ | refine gx_ff ?_ | refine x_tf (h := ?_) | refine x_ft (h := ?_) | refine x_u (h := ?_) | refine x_assign (h := ?_) | refine x_box (h := ?_) | refine x_alloc (h := ?_) | refine x_store0 (h := ?_) | refine x_append0 (h := ?_) | refine x_appendM (h := ?_) | refine x_append (h := ?_) | refine x_store (h := ?_) | refine x_make (h := ?_) | refine x_build (h := ?_))
    | ((with_reducible refine o_idc c1 rfl ?_); refine kx_call (hF := c1) (h := ?_))
    | ((with_reducible refine o_idc c2 rfl ?_); refine kx_call (hF := c2) (h := ?_))
    | ((with_reducible refine o_idc c3 rfl ?_); refine kx_call (hF := c3) (h := ?_))
    | ((with_reducible refine o_idc c4 rfl ?_); refine kx_call (hF := c4) (h := ?_))
    | ((with_reducible refine o_idc c5 rfl ?_); refine kx_call (hF := c5) (h := ?_))
    | ((with_reducible refine o_idc c6 rfl ?_); refine kx_call (hF := c6) (h := ?_))
    | ((with_reducible refine o_idc d1 rfl ?_); refine kx_callh (hF := d1) (h := ?_))
    | ((with_reducible refine o_idc d2 rfl ?_); refine kx_callh (hF := d2) (h := ?_))
    | ((with_reducible refine o_idc d3 rfl ?_); refine kx_callh (hF := d3) (h := ?_))
    | ((with_reducible refine o_idc d4 rfl ?_); refine kx_callh (hF := d4) (h := ?_))
    | ((with_reducible refine o_idc e1 rfl ?_); refine kx_callg (hF := e1) (h := ?_))
    | ((with_reducible refine o_idc e2 rfl ?_); refine kx_callg (hF := e2) (h := ?_))
    | (with_reducible refine x_q (h := ?_))
    | (with_reducible refine gx_s (fun ht => ?_) (fun ht => ?_))
    | refine x_condt (h1 := ?_) | refine x_condf (h1 := ?_)
    | ((with_reducible refine a_end hK ?_); clear hK K) | (with_reducible refine a_end hK ?_)
    | ((with_reducible refine a_id ?_); first | refine xa_q (h := ?_) | refine xa_qt (h := ?_) | refine xa_qf (h := ?_) | refine xa_qu (h := ?_))
    | ((with_reducible refine a_id ?_); refine xa_gq (h1 := fun ht => ?_) (h2 := fun ht => ?_))
    | refine a_l rfl ?_ | refine a_l2 ?_ ?_ | (with_reducible refine And.intro ?_ ?_) | exact st_nil | refine xa_st (h2 := ?_)
    | fail)
  all_goals exact kk.h _ (by simp [fx])) : G := h ⟨k⟩
end Go.Hm
end
section
namespace Go.Hm
open Go Go.RowKit Go.ChangeShapes Go.WideShapes Go.Deep
theorem two_vars {H : Type} {enc : TypeId × Value → H} {P : Program} {w : World} {spare : Nat → Bool} {n m : String} {gs : List (DataW H)} {ps : List MemPlace} (h : DataW.TrodVars enc P w spare [n, m] gs ps) : ∃ d e, gs = [d, e] := by
  cases gs with
  | nil => simp [DataW.TrodVars] at h
  | cons d ds =>
    obtain ⟨g, t, cs, fuel, p, q, h1, h2, h3, h4, hs, e⟩ := h
    obtain ⟨_, _, _, _, d', _, rfl, _⟩ := trodVars_one hs
    exact ⟨d, d', rfl⟩
end Go.Hm
end
section
namespace Go.Hm
open Go Go.RowKit
abbrev Val := Int × Int
abbrev Slt := Option Val
structure Act where
  blk : Nat
  up : Nat
  vars : List Slt
structure Wld where
  acts : List Act
  stack : List Nat
  globals : List Slt
  funs : List (Nat × Nat)
  classes : List (List Slt)
  out : List Int
  trace : List (Nat × Nat)
  en : Int
  left : Nat
abbrev noSlots : List Slt := List.replicate 8 none
def shown (v : Val) : Int := if v.1 = 1 then v.2 else if v.1 = 2 then -2 else if v.1 = 3 then -3 else -1
def Wld.blk (w : Wld) (at' : Nat) : Nat := match w.acts[at']? with | some a => a.blk | none => 0
def climb (acts : List Act) (o : Nat) : Nat → Nat → Nat
  | 0, a => a
  | n + 1, a => match acts[a]? with | some c => if c.blk = o then a else climb acts o n c.up | none => a
def Wld.loc (p : Prg) (w : Wld) (at' : Nat) (x : Int) : Option Nat := if owner p (w.blk at') x < 0 then none else some (climb w.acts (owner p (w.blk at') x).toNat at' at')
def Wld.vars (w : Wld) : Option Nat → List Slt
  | none => w.globals
  | some i => match w.acts[i]? with | some a => a.vars | none => []
def Wld.get (w : Wld) (l : Option Nat) (x : Int) : Slt := match (w.vars l)[x.toNat]? with | some s => s | none => none
def Wld.set (w : Wld) (l : Option Nat) (x : Int) (s : Slt) : Wld := match l with
  | none => { w with globals := w.globals.set x.toNat s }
  | some i => { w with acts := w.acts.modify i fun a => { a with vars := a.vars.set x.toNat s } }
def lack (p : Prg) (b : Nat) (o : Int) : Int := if o < 0 ∨ (o = b ∧ kindAt p b = 2) then 4 else if o = b then 2 else 3
def loadW (p : Prg) (w : Wld) (at' : Nat) (x : Int) : Wld × Val :=
  match w.get (w.loc p at' x) x with
  | some v => (w, v)
  | none =>
    if lack p (w.blk at') (owner p (w.blk at') x) = 4 then
      match w.get none x with
      | some v => (w, v)
      | none => if x = 7 then (w, (1, 70)) else ({ w with en := 4 }, (0, 0))
    else ({ w with en := lack p (w.blk at') (owner p (w.blk at') x) }, (0, 0))
def loadsW (p : Prg) (w : Wld) (at' : Nat) : List Int → Wld × List Val
  | [] => (w, [])
  | x :: l => if w.en ≠ 0 then (w, []) else
    ((loadsW p (loadW p w at' x).1 at' l).1, (loadW p w at' x).2 :: (loadsW p (loadW p w at' x).1 at' l).2)
def plusW (w : Wld) (a b : Val) : Wld × Val := if a.1 ≠ 1 ∨ b.1 ≠ 1 then ({ w with en := 5 }, (0, 0)) else (w, (1, (a.2 + b.2).tmod 1000))
def attrW (w : Wld) (v : Val) (x : Int) : Wld × Val := if v.1 ≠ 3 then ({ w with en := 5 }, (0, 0)) else
  match w.classes[v.2.toNat]? with
  | some c => match c[x.toNat]? with
    | some (some u) => (w, u)
    | _ => ({ w with en := 7 }, (0, 0))
  | none => ({ w with en := 7 }, (0, 0))
def bindP (ps : List Int) (vs : List Val) : List Slt := (ps.zip vs).foldl (fun l q => l.set q.1.toNat (some q.2)) noSlots
def beginW (p : Prg) (w : Wld) (b up : Nat) (vs : List Val) : Wld :=
  { w with acts := w.acts ++ [⟨b, up, bindP (match p[b]? with | some k => k.params | none => []) vs⟩], stack := w.stack ++ [w.acts.length] }
def endW (w : Wld) : Wld := if w.en = 0 then { w with stack := w.stack.dropLast } else w
def parN (p : Prg) (b : Nat) : Nat := match p[b]? with | some k => k.params.length | none => 0
section
variable (p : Prg) (R : Wld → Nat → Wld × Val)
def enterW (w : Wld) (b up : Nat) (vs : List Val) : Wld × Val := (endW (R (beginW p w b up vs) w.acts.length).1, (R (beginW p w b up vs) w.acts.length).2)
def callW (w : Wld) (f : Val) (vs : List Val) : Wld × Val := if f.1 ≠ 2 then ({ w with en := 5 }, (0, 0)) else
  match w.funs[f.2.toNat]? with
  | some g => if parN p g.1 ≠ vs.length then ({ w with en := 6 }, (0, 0)) else enterW p R w g.1 g.2 vs
  | none => (w, (0, 0))
def classW (w : Wld) (b at' : Nat) : Wld × Val :=
  if (enterW p R w b at' []).1.en ≠ 0 then ((enterW p R w b at' []).1, (0, 0)) else
  ({ (enterW p R w b at' []).1 with classes := (enterW p R w b at' []).1.classes ++ [(enterW p R w b at' []).1.vars (some w.acts.length)] }, (3, ((enterW p R w b at' []).1.classes.length : Int)))
def workW (w : Wld) (at' : Nat) (s : Stm) (vs : List Val) : Wld × Val :=
  if s.kind = 0 then (w, (1, s.a)) else if s.kind = 2 then plusW w (vs.getD 0 (0, 0)) (vs.getD 1 (0, 0))
  else if s.kind = 3 then ({ w with funs := w.funs ++ [(s.a.toNat, at')] }, (2, (w.funs.length : Int)))
  else if s.kind = 4 then classW p R w s.a.toNat at' else if s.kind = 5 then callW p R w (vs.getD 0 (0, 0)) vs.tail
  else if s.kind = 6 then attrW w (vs.getD 0 (0, 0)) s.b else (w, vs.getD 0 (0, 0))
def valueW (w : Wld) (at' : Nat) (s : Stm) : Wld × Val :=
  if (loadsW p w at' s.reads).1.en ≠ 0 then ((loadsW p w at' s.reads).1, (0, 0)) else workW p R (loadsW p w at' s.reads).1 at' s (loadsW p w at' s.reads).2
end
theorem StmOk.made {p : Prg} {b : Nat} {k : Blk} {s : Stm} (h : StmOk p b k s = true) (hk : s.kind = 3 ∨ s.kind = 4) : ∃ q, p[s.a.toNat]? = some q ∧ q.parent = b ∧ 0 < s.a ∧ q.kind = s.kind - 2 := by
  have key : ∀ d, madeAs p b s.a d = true → ∃ q, p[s.a.toNat]? = some q ∧ q.parent = b ∧ 0 < s.a ∧ q.kind = d := by
    intro d hm
    simp only [madeAs, Bool.and_eq_true, decide_eq_true_eq] at hm
    obtain ⟨⟨h1, h2⟩, h3⟩ := hm
    split at h3
    · rename_i q hq
      simp only [Bool.and_eq_true, beq_iff_eq] at h3
      exact ⟨q, hq, h3.2, by omega, h3.1⟩
    · cases h3
  rcases hk with e | e
  · simp only [StmOk, e] at h
    simp at h
    obtain ⟨q, h1, h2, h3, h4⟩ := key 1 h.2.2
    exact ⟨q, h1, h2, h3, by rw [h4, e]; rfl⟩
  · simp only [StmOk, e] at h
    simp at h
    obtain ⟨q, h1, h2, h3, h4⟩ := key 2 h.2.2
    exact ⟨q, h1, h2, h3, by rw [h4, e]; rfl⟩
theorem StmOk.num {p : Prg} {b : Nat} {k : Blk} {s : Stm} (h : StmOk p b k s = true) (hk : s.kind = 0) : 0 ≤ s.a ∧ s.a ≤ 99 := by
  simp only [StmOk, hk] at h
  simp at h
  omega
theorem StmOk.print {p : Prg} {R : Wld → Nat → Wld × Val} {w : Wld} {a : Nat} {s : Stm} (h : s.kind = 7) : valueW p R w a s = if (loadsW p w a s.reads).1.en ≠ 0 then ((loadsW p w a s.reads).1, (0, 0)) else ((loadsW p w a s.reads).1, (loadsW p w a s.reads).2.getD 0 (0, 0)) := by
  simp [valueW, workW, h]
end Go.Hm
end
section
namespace Go.Hm
open Go Go.RowKit
def slotC (s : Slt) : List AV := match s with | some v => [bv true, iv v.1, iv v.2] | none => [bv false, iv 0, iv 0]
@[simp] theorem slotC_none : slotC none = [bv false, iv 0, iv 0] := rfl
@[simp] theorem slotC_some {v : Val} : slotC (some v) = [bv true, iv v.1, iv v.2] := rfl
def slrows (l : List Slt) : List (List AV) := l.map slotC
section
variable {l : List Slt} {i : Nat} {f : Nm → Option Nm} {s : Slt}
@[simp] theorem slrows_nil : slrows [] = [] := rfl
end
def vrows (l : List Val) : List (List AV) := l.map fun v => [iv v.1, iv v.2]
section
variable {l m : List Val} {i : Nat} {f : Nm → Option Nm} {v : Val}
@[simp] theorem vrows_nil : vrows [] = [] := rfl
end
def nrows (l : List (Nat × Nat)) : List (List AV) := l.map fun v => [iv v.1, iv v.2]
section
variable {l m : List (Nat × Nat)} {i : Nat} {f : Nm → Option Nm}
@[simp] theorem nrows_nil : nrows [] = [] := rfl
end
section
variable {az : List Act} {cs : List (List Slt)} {fs : List (Nat × Nat)} {n m : Nm} {i : Nat} {f : Nm → Option Nm}
end
section
variable {l : Option Nat} {d : Nat}
end
abbrev NMap := List (Int × Val)
abbrev Val.av (v : Val) : AV := .agg [iv v.1, iv v.2]
def mrows (ms : NMap) : List (AV × AV) := ms.map fun q => (iv q.1, Val.av q.2)
section
variable {ms : NMap} {n m : Int} {v : Val} {f : Nm → Option Nm}
@[simp] theorem mrows_nil : mrows [] = [] := rfl
end
section
variable {X : Ctx} {st : St} {K : St → Prop} {E : AV → St → Prop} {d : Nat} {ty : TypeId} {pos : String} {aft : Array Edge} {g : Option (Nat × Bool)}
end
abbrev En (i : Nat) : Nm := .u 7 i 0
abbrev ptE (i : Nat) : AV := .pt (En i) 0
end Go.Hm
end
section
namespace Go.Hm
open Go Go.RowKit
def Du (f : Nat → Bool) : Nm → Bool
  | .s _ => false
  | .u k _ _ => f k
  | .c n _ _ => Du f n
section
variable {f : Nat → Bool} {n : Nm} {k i j d : Nat}
@[simp] theorem Du_s : Du f (.s d) = false := rfl
@[simp] theorem Du_u : Du f (.u k i j) = f k := rfl
@[simp] theorem Du_c : Du f (.c n i j) = Du f n := rfl
end
section
variable {X : Ctx} {st : St} {K : St → Prop} {E : AV → St → Prop} {d f : Nat} {ty : TypeId} {pos : String} {aft : Array Edge} {g : Option (Nat × Bool)} {c : Operand} {args : Array Operand} {Ts : Array TypeId} {xs ys az : List AV} {R : Nm → AV → (Nm → Option AO) → Prop}
end
end Go.Hm
end
section
set_option linter.unusedSectionVars false
namespace Go.Hm
open Go Go.RowKit
structure Pre (q : Bool) (w w' : Wld) : Prop where
  funs : w.funs <+: w'.funs
  cls : w.classes <+: w'.classes
  out : w.out <+: w'.out
  tr : w.trace <+: w'.trace
  left : q = true → w'.left ≤ w.left
theorem Pre.refl {q : Bool} (w : Wld) : Pre q w w := ⟨List.prefix_refl _, List.prefix_refl _, List.prefix_refl _, List.prefix_refl _, fun _ => Nat.le_refl _⟩
theorem Pre.trans {q : Bool} {w w' w'' : Wld} (h : Pre q w w') (h' : Pre q w' w'') : Pre q w w'' := ⟨h.funs.trans h'.funs, h.cls.trans h'.cls, h.out.trans h'.out, h.tr.trans h'.tr, fun e => Nat.le_trans (h'.left e) (h.left e)⟩
theorem Pre.weak {q : Bool} {w w' : Wld} (h : Pre q w w') : Pre false w w' := ⟨h.funs, h.cls, h.out, h.tr, fun e => by cases e⟩
theorem Pre.en {q : Bool} {w w' : Wld} (h : Pre q w w') {e : Int} : Pre q w { w' with en := e } := ⟨h.funs, h.cls, h.out, h.tr, h.left⟩
theorem Pre.set {q : Bool} {w : Wld} {l : Option Nat} {x : Int} {s : Slt} : Pre q w (w.set l x s) := by cases l <;> exact ⟨List.prefix_refl _, List.prefix_refl _, List.prefix_refl _, List.prefix_refl _, fun _ => Nat.le_refl _⟩
section
variable {p : Prg} {R : Wld → Nat → Wld × Val} {w : Wld} {a b i : Nat} {x : Int} {vs : List Val} {s : Stm} {v : Val} {q : Bool}
variable (hR : ∀ w a, Pre q w (R w a).1)
include hR
end
def addF (k : Nat) (w : Wld) : Wld := { w with left := w.left + k }
structure Lock2 (k : Nat) (w w' : Wld) : Prop where
  en : w.en = 1
  left : w.left = 0
  pre : Pre false w w'
  more : 0 < k → w.trace.length < w'.trace.length
theorem Lock2.trans {k : Nat} {w w' w'' : Wld} (h : Lock2 k w w') {q : Bool} (h' : Pre q w' w'') : Lock2 k w w'' := ⟨h.en, h.left, h.pre.trans h'.weak, fun hk => Nat.lt_of_lt_of_le (h.more hk) h'.tr.length_le⟩
def Lock (k : Nat) (r r' : Wld × Val) : Prop := (r.1.en ≠ 1 ∧ r' = (addF k r.1, r.2)) ∨ Lock2 k r.1 r'.1
section
variable {p : Prg} {R : Wld → Nat → Wld × Val} {k n : Nat} {w : Wld} {a b i : Nat} {x : Int} {l : Option Nat} {vs : List Val} {s : Stm} {v : Val}
@[simp] theorem addF_loc : (addF k w).loc p a x = w.loc p a x := rfl
@[simp] theorem addF_blk : (addF k w).blk a = w.blk a := rfl
@[simp] theorem addF_en : (addF k w).en = w.en := rfl
variable (hP : ∀ w a, Pre true w (R w a).1) (hR : ∀ w a, w.left + k < n → w.en = 0 → Lock k (R w a) (R (addF k w) a))
include hP hR
end
end Go.Hm
end
section
namespace Go.Hm
open Go Go.RowKit
section
variable {p : Prg} {R : Wld → Nat → Wld × Val} {n : Nat} {w : Wld} {a b i : Nat} {x : Int} {vs : List Val} {s : Stm} {v : Val} {k : Blk}
def one (b : Prop) [Decidable b] : Nat := if b then 1 else 0
end
section
variable {X : Ctx} {st : St} {K : St → Prop} {E : AV → St → Prop} {d f : Nat} {ty : TypeId} {pos : String} {aft : Array Edge} {g : Option (Nat × Bool)} {args : Array Operand} {Ts : Array TypeId} {az : List AV} {R : Nm → AV → (Nm → Option AO) → Prop}
end
end Go.Hm
end
section
namespace Go.Hm
open Go Go.RowKit
structure Rsl where
  out : List Int
  en : Int
  left : Int
  gl : List Int
def Rsl.own (n : Nm) (r : Rsl) : List AV := [.hs (.c n 0 0) 1 0 r.out.length, iv r.en, iv r.left, .hs (.c n 0 3) 1 0 r.gl.length]
@[simp] theorem Rsl.own_eq {n : Nm} {r : Rsl} : r.own n = [.hs (.c n 0 0) 1 0 r.out.length, iv r.en, iv r.left, .hs (.c n 0 3) 1 0 r.gl.length] := rfl
section
variable {n : Nm} {len i j : Nat} {f : Nm → Option Nm} {q : Int}
end
@[simp] theorem slc_hs {P : Program} {T : TypeId} {hp : Nm → Option AO} {n : Nm} {z q len : Nat} {lo hi : Option Int} : slcAV P T hp (.hs n z q len) lo hi = match tel P T with
    | some e => if z = tsz P e ∧ 0 ≤ lo.getD 0 ∧ lo.getD 0 ≤ hi.getD len ∧ (hi.getD len ≤ len ∨ q + (hi.getD len).toNat ≤ rowsIn hp n z) then some (.hs n z (q + (lo.getD 0).toNat) ((hi.getD len).toNat - (lo.getD 0).toNat)) else none
    | none => none := rfl
def fM (k : Nat) : Bool := k == 1 || k == 7 || k == 8
def DM : Nm → Bool := Du fM
def DM2 (n : Nm) : Bool := DM n || Nm.under (.u 2 0 0) n
section
variable {n : Nm} {k i j d : Nat}
@[simp] theorem DM_s : DM (.s d) = false := rfl
@[simp] theorem DM_u : DM (.u k i j) = fM k := rfl
@[simp] theorem DM_c : DM (.c n i j) = DM n := rfl
@[simp] theorem fM_1 : fM 1 = true := rfl
@[simp] theorem fM_2 : fM 2 = false := rfl
@[simp] theorem fM_7 : fM 7 = true := rfl
@[simp] theorem fM_8 : fM 8 = true := rfl
@[simp] theorem DM2_eq : DM2 n = (DM n || Nm.under (.u 2 0 0) n) := rfl
end
section
variable {l m : List Nat} {i : Nat} {f : Nm → Option Nm}
end
section
variable {F : Nat} {p : Prg} {gs : List (Nat × Nat)} {g : Nat × Nat} {cs : List (List Slt)} {c : List Slt} {n m : Nm} {i : Nat} {f : Nm → Option Nm}
end
def envRow (i : Nat) (a : Act) : List AV := [iv a.blk, .mp (.c (En i) 0 1), if i = 0 then nilP else ptE a.up]
@[simp] theorem envRow_len {i : Nat} {a : Act} : (envRow i a).length = 3 := rfl
def Wld.nms (w : Wld) (i : Nat) : List Slt := if i = 0 then w.globals else match w.acts[i]? with | some a => a.vars | none => []
section
variable {X : Ctx} {st : St} {K : St → Prop} {E : AV → St → Prop} {d f : Nat} {ty : TypeId} {pos : String} {aft : Array Edge} {g : Option (Nat × Bool)} {args : Array Operand} {Ts : Array TypeId} {az : List AV} {R : Nm → AV → (Nm → Option AO) → Prop}
end
end Go.Hm
end
section
namespace Go.Hm
open Go Go.RowKit
section
variable {l : List (Nat × Nat)} {c : Int} {i : Nat}
end
def Rsl.av (r : Rsl) : AV := .agg [isl r.out, iv r.en, iv r.left, isl r.gl]
@[simp] theorem Rsl.av_eq {r : Rsl} : r.av = .agg [isl r.out, iv r.en, iv r.left, isl r.gl] := rfl
def Rsl.mark (r : Rsl) (c : Int) : Rsl := ⟨markI r.out.length c, r.en, r.left, markI r.gl.length (c + r.out.length)⟩
section
variable {hp : Nm → Option AO} {n : Nm} {r : Rsl} {c : Int}
@[simp] theorem Rsl.mark_en : (r.mark c).en = r.en := rfl
@[simp] theorem Rsl.mark_left : (r.mark c).left = r.left := rfl
@[simp] theorem Rsl.mark_out : (r.mark c).out.length = r.out.length := by simp [Rsl.mark]
@[simp] theorem Rsl.mark_gl : (r.mark c).gl.length = r.gl.length := by simp [Rsl.mark]
end
section
variable {p : Prg} {f : Int}
end
end Go.Hm
end
section
namespace Go.Hm
open Go
structure ProgFacts (P : Program) : Prop where
  laid : laidOutB P = true
  maps : mapsRowed P = true
  stops : (P.stops == []) = true
  knobs : (P.stopKnobs == []) = true
  keys : P.plainKeys = true
  heard : P.stopsHeard = true
  may : P.mayEnter = true
  lifts : P.liftsFinal = false
  make : (P.make == some .cut) = true
theorem joined_of {P : Program} {f : FuncId} {fn : Func} {s : ChangeSpec} {c : OpenClaim} (hp : ProgFacts P)
    (h1 : c.wf (OpenSpec.ofChange s) = true) (h2 : fn.params.all (P.readableRec ·) = true) (h3 : namedTie P c.named s.vars = true) (h4 : (c.stops == []) = true) (h5 : (c.knobs == []) = true)
    (h6 : (c.inPlace == P.inPlace f) = true) (h7 : (c.unfollowed == P.unfollowed f) = true) (h8 : (c.recurses == P.recurses f) = true) (h9 : (c.named == P.varsNamed f) = true)
    (h10 : (c.maps == (fn.params.toList ++ s.plain.varTypes P).any (P.mapsRec ·)) = true) (h11 : (c.ifaces == (fn.params.toList ++ s.plain.varTypes P).any (P.ifacesRec ·)) = true) (h12 : (c.mapsOut == P.mapsAmong fn.resultTypes.toList) = true)
    (h13 : (c.loops == (fn.params.toList ++ s.plain.varTypes P).any (P.loopsFrom ·)) = true) (h14 : (c.wideKeys == (fn.params.toList ++ s.plain.varTypes P ++ fn.resultTypes.toList).any (P.wideKeysFrom ·)) = true)
    (h15 : s.vars.all (P.varReadable ·) = true) (h16 : fn.resultTypes.all (fun t => P.readableRec t && decide (t < P.types.size)) = true) (h17 : (c.ifacesOut == fn.resultTypes.toList.any (P.ifacesRec ·)) = true) (h18 : (c.loopsOut == fn.resultTypes.toList.any (P.loopsFrom ·)) = true)
    (h19 : c.plainKeys = true) (h20 : c.shortTexts.isNone = true) (h21 : c.lifted = false) (h22 : c.make = .cut)
    (h23 : (c.kinds == (if c.domain.isEmpty then [] else fn.params.toList.map fun t => match P.underlying t with | some (.int k) => some k | _ => none)) = true) (h24 : (c.pinned == c.pinnedBy) = true)
    (h25 : (c.veiled == (fn.params.toList ++ s.plain.varTypes P ++ fn.resultTypes.toList).any (P.veiledRec ·)) = true) (h26 : c.veiledFits P fn.params.toList (fn.params.toList ++ s.plain.varTypes P ++ fn.resultTypes.toList) = true) : joinedFacts P f fn s c = true := by
  have e1 : (c.plainKeys == P.plainKeys) = true := by rw [h19, hp.keys]; rfl
  have e2 : (c.lifted == P.liftsFinal) = true := by rw [h21, hp.lifts]; rfl
  have e3 : (P.make == some c.make) = true := by rw [h22]; exact hp.make
  unfold joinedFacts
  simp only [hp.laid, hp.maps, hp.stops, hp.knobs, hp.heard, hp.may, h1, h2, h3, h4, h5, h6, h7, h8, h9, h10, h11, h12, h13, h14, h15, h16, h17, h18, h20, h24, h25, h26, e1, e2, e3, Bool.and_true, Bool.true_and]
  exact h23
end Go.Hm
end
section
namespace Go.Hm
open Go Go.RowKit
section
variable {p : Prg} {f g n : Nat}
structure More (k : Nat) (w w' : Wld) : Prop where
  funs : w.funs.length ≤ w'.funs.length
  cls : w.classes.length ≤ w'.classes.length
  out : w.out <+: w'.out
  tr : w.trace <+: w'.trace
  same : w.en ≠ 1 → w' = addF k w
  none : w.en = 1 → w.left = 0
end
end Go.Hm
end
section
set_option linter.unusedSectionVars false
namespace Go.Hm
open Go Go.RowKit
def stl (t : List (Nat × Nat)) (k : Nat) (w : Wld) : Wld := { w with trace := t, left := k }
section
variable {p : Prg} {k m : Nat} {t : List (Nat × Nat)} {w : Wld} {a b i : Nat} {x : Int} {l : Option Nat} {vs : List Val} {s : Stm} {v : Val}
@[simp] theorem stl_stl {t' : List (Nat × Nat)} {k' : Nat} : stl t k (stl t' k' w) = stl t k w := rfl
@[simp] theorem stl_loc : (stl t k w).loc p a x = w.loc p a x := rfl
@[simp] theorem stl_blk : (stl t k w).blk a = w.blk a := rfl
@[simp] theorem stl_en : (stl t k w).en = w.en := rfl
@[simp] theorem stl_left : (stl t k w).left = k := rfl
@[simp] theorem stl_out : (stl t k w).out = w.out := rfl
end
def Sim (m : Nat) (r r' : Wld × Val) : Prop := (r.1.en ≠ 1 ∧ ∃ t, r' = (stl t m r.1, r.2)) ∨ (r.1.en = 1 ∧ (m = 0 → r'.1.out = r.1.out ∧ r'.1.left = 0))
section
variable {p : Prg} {R : Wld → Nat → Wld × Val} {R2 : Nat → Wld → Nat → Wld × Val} {n : Nat} {w : Wld} {a b i : Nat} {x : Int} {vs : List Val} {s : Stm} {v : Val}
variable (hR : ∀ w a, w.left < n → w.en = 0 → ∃ g, g + (R w a).1.left ≤ w.left ∧ ∀ N t m, g + m < N → Sim m (R w a) (R2 N (stl t (g + m) w) a))
include hR
end
end Go.Hm
end
section
set_option linter.unusedSectionVars false
namespace Go.Hm
open Go Go.RowKit
structure KB (w w' : Wld) : Prop where
  len : w.acts.length ≤ w'.acts.length
  blk : ∀ i, i < w.acts.length → w'.blk i = w.blk i
theorem KB.refl (w : Wld) : KB w w := ⟨Nat.le_refl _, fun _ _ => rfl⟩
theorem KB.trans {w w' w'' : Wld} (h : KB w w') (h' : KB w' w'') : KB w w'' := ⟨Nat.le_trans h.len h'.len, fun i hi => (h'.blk i (Nat.lt_of_lt_of_le hi h.len)).trans (h.blk i hi)⟩
theorem KB.same {w w' : Wld} (h : w'.acts = w.acts) : KB w w' := ⟨by rw [h]; exact Nat.le_refl _, fun i _ => by simp only [Wld.blk, h]⟩
theorem KB.set {w : Wld} {l : Option Nat} {x : Int} {s : Slt} : KB w (w.set l x s) := by
  cases l with
  | none => exact .same rfl
  | some i =>
    refine ⟨by simp [Wld.set], fun j _ => ?_⟩
    simp only [Wld.set, Wld.blk, List.getElem?_modify]
    by_cases e : i = j
    · subst e
      cases h : w.acts[i]? <;> simp
    · simp [e]
section
variable {p : Prg} {R : Wld → Nat → Wld × Val} {w : Wld} {a b i : Nat} {x : Int} {vs : List Val} {s : Stm} {v : Val}
variable (hR : ∀ w a, a < w.acts.length → KB w (R w a).1)
include hR
end
structure Alike (p q : Prg) : Prop where
  kind : ∀ b, kindAt p b = kindAt q b
  par : ∀ b : Nat, (match p[b]? with | some k => k.params | none => []) = (match q[b]? with | some k => k.params | none => [])
theorem Alike.parN {p q : Prg} (h : Alike p q) (b : Nat) : parN p b = parN q b := by
  have := congrArg List.length (h.par b)
  unfold Hm.parN
  cases h1 : p[b]? <;> cases h2 : q[b]? <;> simp [h1, h2] at this ⊢ <;> omega
section
variable {p q : Prg} {R S : Wld → Nat → Wld × Val} {w : Wld} {a b i : Nat} {x : Int} {vs : List Val} {s : Stm} {v : Val}
variable (hA : Alike p q)
include hA
variable (hR : ∀ w a, a < w.acts.length → R w a = S w a)
include hR
end
end Go.Hm
end
section
namespace Go.Hm
open Go Go.RowKit
section
variable {p q : Prg} {b : Nat} {k k' : Blk} {x : Int} {s : Stm}
end
section
variable {p : Prg} {b i : Nat} {k : Blk} {s : Stm}
end
end Go.Hm
end
section
namespace Go.Hm
open Go Go.RowKit
section
variable {X : Ctx} {st : St} {K : St → Prop} {E : AV → St → Prop}
def dfree (D : Nm → Bool) (hp : Nm → Option AO) : Nm → Option AO := fun m => if D m then none else hp m
def St.forget (D : Nm → Bool) (st : St) : St := { tm := st.tm, hp := dfree D st.hp, n := st.n, gl := st.gl }
@[simp] theorem forget_tm {D : Nm → Bool} {t : Nat} : (st.forget D).tm t = st.tm t := rfl
@[simp] theorem forget_hp {D : Nm → Bool} {m : Nm} : (st.forget D).hp m = if D m then none else st.hp m := rfl
end
section
variable {X : Ctx} {st : St} {K : St → Prop} {E : AV → St → Prop} {d f : Nat} {ty : TypeId} {pos : String} {aft : Array Edge} {g : Option (Nat × Bool)} {c : Operand} {args : Array Operand} {Ts : Array TypeId} {xs ys az : List AV}
end
section
variable {P : Program} {own : Nat → Prop} {C : Nat → Prop} {w0 : World} {g : Gh} {st : St} {a : Go.Act} {w : World}
end
section
variable {X : Ctx} {st : St} {K : St → Prop} {E : AV → St → Prop} {d : Nat} {ty : TypeId} {pos : String} {aft : Array Edge} {g : Option (Nat × Bool)}
end
theorem OkS.two {D : Nm → Bool} {root n m : Nm} {i j i' j' : Nat} (h : n.sroot = true) (h' : m.sroot = true) (hne : ¬ (i = i' ∧ j = j')) : OkS D root [(n, .c root i j), (m, .c root i' j')] := by
  refine ⟨by simp [h, h'], by simp, ?_⟩
  refine .cons (fun q hq => ?_) (.cons (fun q hq => by simp at hq) .nil)
  obtain rfl := by simpa using hq
  exact fun k hk => Nm.c_disj hne hk
def idleTo (p : Prg) (b i : Nat) : List Int := ((List.range i).filter fun j => idleAt p b j).map fun j : Nat => (j : Int)
section
variable {p : Prg} {b i : Nat} {k : Blk}
@[simp] theorem idleTo_zero : idleTo p b 0 = [] := rfl
end
structure Vw where
  block : Int
  names : List Int
  vals : List Int
  deriving DecidableEq, Inhabited
def Vw.own (n : Nm) (i : Nat) (v : Vw) : List AV := [iv v.block, .hs (.c n i 1) 1 0 v.names.length, .hs (.c n i 2) 1 0 v.vals.length]
@[simp] theorem Vw.own_eq {n : Nm} {i : Nat} {v : Vw} : v.own n i = [iv v.block, .hs (.c n i 1) 1 0 v.names.length, .hs (.c n i 2) 1 0 v.vals.length] := rfl
def vwRows (n : Nm) (cs : List Vw) : List (List AV) := cs.mapIdx fun i c => c.own n i
section
variable {cs : List Vw} {i a b d l : Nat} {n q k1 : Nm} {c : Vw}
@[simp] theorem vwRows_nil : vwRows n [] = [] := rfl
end
section
variable {p : Prg} {b c : Nat} {x : Int} {k : Blk} {l : List (Int × Slt)} {q : Int × Slt}
end
end Go.Hm
end
section
namespace Go.Hm
open Go Go.RowKit
section
variable {p : Prg} {b : Nat} {k : Blk}
end
def grows (g : Int → Slt) (l : List Int) : List (AV × AV) := l.map fun x => (iv x, .agg (slotC (g x)))
section
variable {g : Int → Slt} {l : List Int} {n : Int} {f : Nm → Option Nm}
@[simp] theorem grows_nil : grows g [] = [] := rfl
end
end Go.Hm
end
section
namespace Go.Hm
open Go Go.RowKit
structure Frm where
  blk : Nat
  pc : Nat
  fasts : List Slt
  cells : List Nat
  names : List Slt
  stack : List Val
structure Mch where
  cells : List Slt
  globals : List Slt
  funs : List (Nat × List Nat)
  classes : List (List Slt)
  frames : List Frm
  made : Nat
  deep : Nat
  out : List Int
  trace : List (Nat × Nat)
  en : Int
  left : Nat
def parAt (p : Prg) (b : Nat) : Nat := match p[b]? with | some k => k.parent.toNat | none => 0
def capsL (p : Prg) (b : Nat) : List Int := (freesL p b).map (cellPl p (parAt p b))
section
variable (p : Prg) (m : Mch) (fs : List Frm) (f : Frm) (o : Int × Int)
def Mch.top : Mch := { m with frames := fs ++ [f] }
def Mch.stop (e : Int) : Mch := { m.top fs f with en := e }
def Frm.push (v : Val) : Frm := { f with stack := f.stack ++ [v] }
def Frm.pop : Frm := { f with stack := f.stack.dropLast }
def Frm.tos : Val := f.stack.getLastD (0, 0)
def slAt (l : List Slt) (i : Nat) : Slt := match l[i]? with | some s => s | none => none
def getS : Slt :=
  if o.1 ≤ 4 then slAt f.fasts o.2.toNat
  else if o.1 ≤ 7 then slAt m.cells (f.cells.getD o.2.toNat 0)
  else if o.1 ≤ 10 then slAt m.globals o.2.toNat else slAt f.names o.2.toNat
def whyS : Int := if o.1 ≤ 4 then 2 else if o.1 ≤ 7 then (if o.2 < (cellsL p f.blk).length then 2 else 3) else 4
def setS (s : Slt) : Mch :=
  if o.1 ≤ 4 then m.top fs { f with fasts := f.fasts.set o.2.toNat s }
  else if o.1 ≤ 7 then { m.top fs f with cells := m.cells.set (f.cells.getD o.2.toNat 0) s }
  else if o.1 ≤ 10 then { m.top fs f with globals := m.globals.set o.2.toNat s } else m.top fs { f with names := f.names.set o.2.toNat s }
def loadM : Mch := match getS m f o with
  | some v => m.top fs (f.push v)
  | none => if whyS p f o = 4 then
      match slAt m.globals o.2.toNat with
      | some v => m.top fs (f.push v)
      | none => if o.2 = 7 then m.top fs (f.push (1, 70)) else m.stop fs f 4
    else m.stop fs f (whyS p f o)
def storeM : Mch := setS m fs f.pop o (some f.tos)
def delM : Mch := match getS m f o with
  | some _ => setS m fs f o none
  | none => m.stop fs f (whyS p f o)
def beginM (b : Nat) (cs : List Nat) (vs : List Val) : Mch :=
  let F : Frm := ⟨b, 0, List.replicate (fastsL p b).length none, ((List.range (cellsL p b).length).map (m.cells.length + ·)) ++ cs, noSlots, []⟩
  let M : Mch := { m with cells := m.cells ++ List.replicate (cellsL p b).length none, made := m.made + 1, deep := max m.deep (m.frames.length + 1), frames := m.frames ++ [F] }
  match (codeL p b).params, vs with
  | [x], [v] => if x ∈ fastsL p b then { M with frames := m.frames ++ [{ F with fasts := F.fasts.set (placeIn (fastsL p b) x).toNat (some v) }] }
    else { M with cells := M.cells.set (m.cells.length + (placeIn (cellsL p b) x).toNat) (some v) }
  | _, _ => M
def callM : Mch :=
  let n := o.2.toNat
  let k := f.stack.length - n - 1
  let F : Frm := { f with stack := f.stack.take k }
  let g := f.stack.getD k (0, 0)
  if g.1 ≠ 2 then m.stop fs F 5 else
  match m.funs[g.2.toNat]? with
  | some h => if parN p h.1 ≠ n then m.stop fs F 6 else beginM p (m.top fs F) h.1 h.2 (f.stack.drop (k + 1))
  | none => m.stop fs F 5
def capM (b : Nat) : List Nat := (capsL p b).map fun k => f.cells.getD k.toNat 0
def attrM : Mch :=
  let v := f.tos
  if v.1 ≠ 3 then m.stop fs f.pop 5 else
  match slAt (m.classes.getD v.2.toNat []) o.2.toNat with
  | some u => m.top fs (f.pop.push u)
  | none => m.stop fs f.pop 7
def addM : Mch :=
  let b := f.tos
  let a := f.pop.tos
  if a.1 ≠ 1 ∨ b.1 ≠ 1 then m.stop fs f.pop.pop 5 else m.top fs (f.pop.pop.push (1, (a.2 + b.2).tmod 1000))
def leaveM (v : Val) : Mch := match fs.getLast? with
  | some g => { m with frames := fs.dropLast ++ [g.push v] }
  | none => { m with frames := [] }
def endM : Mch := if kindAt p f.blk = 2 then leaveM { m with classes := m.classes ++ [f.names] } fs (3, m.classes.length) else leaveM m fs (0, 0)
def tickM : Mch := if m.left = 0 then m.stop fs f 1 else
  { m.top fs f with left := m.left - 1, trace := m.trace ++ [(f.blk, ticks ((opsL p f.blk).take (f.pc - 1)))] }
def workM : Mch :=
  if o.1 = 1 then m.top fs (f.push (1, o.2))
  else if o.1 = 14 then addM m fs f
  else if o.1 = 15 then { m.top fs (f.push (2, m.funs.length)) with funs := m.funs ++ [(o.2.toNat, capM p f o.2.toNat)] }
  else if o.1 = 16 then beginM p (m.top fs f) o.2.toNat (capM p f o.2.toNat) []
  else if o.1 = 17 then callM p m fs f o
  else if o.1 = 18 then attrM m fs f o
  else if o.1 = 19 then { m.top fs f.pop with out := m.out ++ [shown f.tos] }
  else leaveM m fs f.tos
def ordM : Mch :=
  if o.1 = 0 then tickM p m fs f
  else if 2 ≤ o.1 ∧ o.1 ≤ 13 then
    (if (o.1 - 2) % 3 = 0 then loadM p m fs f o else if (o.1 - 2) % 3 = 1 then storeM m fs f o else delM p m fs f o)
  else workM p m fs f o
end
def stepM (p : Prg) (m : Mch) : Mch := match m.frames.getLast? with
  | some f => match (opsL p f.blk)[f.pc]? with
    | some o => ordM p m m.frames.dropLast { f with pc := f.pc + 1 } o
    | none => endM p m m.frames.dropLast f
  | none => m
def Mch.ended (m : Mch) : Prop := m.frames = [] ∨ m.en ≠ 0
instance (m : Mch) : Decidable m.ended := decidable_of_iff (m.frames.length = 0 ∨ m.en ≠ 0) (by simp [Mch.ended])
def runM (p : Prg) : Nat → Mch → Mch
  | 0, m => m
  | n + 1, m => if m.ended then m else runM p n (stepM p m)
def emptyM (fuel : Nat) : Mch := ⟨[], noSlots, [], [], [], 0, 0, [], [], 0, fuel⟩
def startM (p : Prg) (fuel : Nat) : Mch := beginM p (emptyM fuel) 0 [] []
section
variable {p : Prg} {b o c : Nat} {k q : Blk} {x : Int}
end
end Go.Hm
end
