/-
  Own texts, joined by mkclaim.py: Hm66, Hm67, Hm70.
-/
import Derived.Test.YtmaoicgfcngciaaGreatDoorR10
import Derived.Test.YtmaoicgfcngciaaGreatDoorR11
import Derived.ChangeVars
set_option linter.unusedSimpArgs false
set_option linter.unusedVariables false
set_option maxRecDepth 100000
set_option maxHeartbeats 4000000

section
namespace Go.Hm
open Go Go.RowKit
section
variable {X : Ctx} {st : St} {K : St → Prop} {E : AV → St → Prop} {dst : Option Nat} {f f' : FuncId} {args : Array Operand} {Ts : Array TypeId} {ty : TypeId} {pos : String} {aft : Array Edge} {g : Option (Nat × Bool)} {P : Program} {gl : Nat → Option (List AV)} {az : List AV} {R : Nm → AV → (Nm → Option AO) → Prop}
theorem o_idc (_hF : FnOk P gl f' az R) (_hf : f = f') (h : SemOp X ⟨dst, .call ⟨.value (.func f), args, Ts⟩, ty, pos, aft, g⟩ K E st) : SemOp X ⟨dst, .call ⟨.value (.func f), args, Ts⟩, ty, pos, aft, g⟩ K E st := h
end
def AV.isHs : AV → Bool
  | .hs _ _ _ _ => true
  | _ => false
@[simp] theorem isHs_hs {n : Nm} {z lo len : Nat} : (AV.hs n z lo len).isHs = true := rfl
@[simp] theorem isHs_sc {v : Value} : (AV.sc v).isHs = false := rfl
section
variable {X : Ctx} {st st' : St} {K : St → Prop} {E : AV → St → Prop} {d : Nat} {ty : TypeId} {pos : String} {aft : Array Edge} {g : Option (Nat × Bool)}
theorem x_appendM {T F : TypeId} {s x : Operand} {z len : Nat} {n : Nm} {rows0 rows2 : List (List AV)} (hd : d < X.n := by first | (simp; done) | fail) (hT : tapp X.P T = some F := by simp [fx]; first | done | rfl) (hz : tsz X.P F = z := by simp [fx]; first | done | rfl) (hs : ev st s = .hs n z 0 len := by simp [fx]; first | done | rfl | exact ⟨rfl, rfl⟩ | exact ⟨rfl, rfl, rfl⟩)
    (hn : st.hp n = some (.row z rows0) := by simp [fx]; first | done | rfl) (hle : len ≤ rows0.length := by first | (simp [fx]; done) | (simp [fx]; omega) | omega)
    (hx : srcRows st z (ev st x) = some rows2 := by simp [fx]; first | done | rfl) (hm : (rows2.any fun r => r.any AV.isHs) = true := by first | (simp; done) | fail) (hlen : len + rows2.length ≤ 4294967296 := by first | (simp [fx]; done) | (simp [fx]; omega) | omega)
    (hq : Hm.canon (prcL (.s d) len rows2) ((apSt d z (len + rows2.length) (some n) (rows0.take len ++ rows2) st).mvc n (.s d)) = st' := by simp [fx]; first | done | rfl | exact (Bool.not_not _).symm) (h : K st') :
    SemOp X ⟨some d, .call ⟨.builtin .append, #[s, x], #[T, T]⟩, ty, pos, aft, g⟩ K E st := o_appendC hd hT hz hs hn hle hx hlen hq h
end
section
variable {X : Ctx} {st : St} {K : St → Prop} {E : AV → St → Prop} {d : Nat} {ty : TypeId} {pos : String} {aft : Array Edge} {g : Option (Nat × Bool)} {f : Nat} {args : Array Operand} {Ts : Array TypeId} {az avs : List AV}
theorem kx_call {x : AV} (hd : d < X.n := by first | (simp; done) | fail) (ha : args.toList.map (ev st) = avs := by simp [fx]; first | done | rfl | exact (Bool.not_not _).symm)
    (hB : BwL st.hp noD avs az := by
      first
      | ((repeat' (first | exact .nil | refine .cons ?_ ?_ | exact .refl _ | exact bw_ints (by simp [fx]; first | done | rfl) (by first | (simp [fx]; done) | (simp [fx]; omega) | omega) | exact bw_list (by simp [fx]; first | done | rfl) (by first | (simp [fx]; done) | (simp [fx]; omega) | omega) (by first | (simp; done) | fail) | exact bw_ords (by simp [fx]; first | done | rfl) (by first | (simp [fx]; done) | (simp [fx]; omega) | omega) | exact bw_stms (by simp [fx]; first | done | rfl) (by first | (simp [fx]; done) | (simp [fx]; omega) | omega) | exact bw_scopes ⟨(by first | (simp [hc1]; done) | fail), fun j k hj hk => (by first | (simp [hc2 j k hj hk]; done) | fail)⟩ hh rfl | exact bw_sc ⟨(by first | (simp [hc1]; done) | fail), fun j k hj hk => (by first | (simp [hc2 j k hj hk]; done) | fail)⟩ hh hk | exact bw_agg1 (bw_prog ⟨(by first | (simp [a1]; done) | fail), fun j r hj => (by first | (simp [a2 j r hj]; done) | fail), fun j r hj => (by first | (simp [a3 j r hj]; done) | fail)⟩ rfl) | exact bw_agg1 (bw_prog ⟨(by first | (simp [b1]; done) | fail), fun j r hj => (by first | (simp [b2 j r hj]; done) | fail), fun j r hj => (by first | (simp [b3 j r hj]; done) | fail)⟩ rfl) | exact bw_agg1 (bw_prog ⟨(by first | (simp [ho1]; done) | fail), fun j r hj => (by first | (simp [ho2 j r hj]; done) | fail), fun j r hj => (by first | (simp [ho3 j r hj]; done) | fail)⟩ rfl) | exact bw_codeA ⟨(by first | (simp [o1]; done) | fail), (by first | (simp [o2]; done) | fail), (by first | (simp [o3]; done) | fail), (by first | (simp [o4]; done) | fail), (by first | (simp [o5]; done) | fail)⟩ | exact bw_codeA ⟨(by first | (simp [q1]; done) | fail), (by first | (simp [q2]; done) | fail), (by first | (simp [q3]; done) | fail), (by first | (simp [q4]; done) | fail), (by first | (simp [q5]; done) | fail)⟩ | exact bw_codes ⟨(by first | (simp [kt]; done) | fail), fun i c hc => ⟨(by first | (simp [(ke i c hc).params]; done) | fail), (by first | (simp [(ke i c hc).fasts]; done) | fail), (by first | (simp [(ke i c hc).cells]; done) | fail), (by first | (simp [(ke i c hc).frees]; done) | fail), (by first | (simp [(ke i c hc).ops]; done) | fail)⟩⟩ rfl | exact bw_codes ⟨(by first | (simp [mt]; done) | fail), fun i c hc => ⟨(by first | (simp [(me i c hc).params]; done) | fail), (by first | (simp [(me i c hc).fasts]; done) | fail), (by first | (simp [(me i c hc).cells]; done) | fail), (by first | (simp [(me i c hc).frees]; done) | fail), (by first | (simp [(me i c hc).ops]; done) | fail)⟩⟩ rfl | exact bw_codes ⟨(by first | (simp [nt]; done) | fail), fun i c hc => ⟨(by first | (simp [(ne i c hc).params]; done) | fail), (by first | (simp [(ne i c hc).fasts]; done) | fail), (by first | (simp [(ne i c hc).cells]; done) | fail), (by first | (simp [(ne i c hc).frees]; done) | fail), (by first | (simp [(ne i c hc).ops]; done) | fail)⟩⟩ rfl)); done)
      | fail)
    (hF : FnOk X.P X.gl f az (fun _ y _ => y = x)) (hc : x.cln = true := by first | (simp [fx]; done) | fail) (h : K ((st.kill (.s d)).put (some d) x)) :
    SemOp X ⟨some d, .call ⟨.value (.func f), args, Ts⟩, ty, pos, aft, g⟩ K E st := o_call hd ha hB hF hc h
theorem kx_callh {z n : Nat} {rows : List (List AV)} (hd : d < X.n := by first | (simp; done) | fail) (ha : args.toList.map (ev st) = avs := by simp [fx]; first | done | rfl | exact (Bool.not_not _).symm)
    (hB : BwL st.hp noD avs az := by
      first
      | ((repeat' (first | exact .nil | refine .cons ?_ ?_ | exact .refl _ | exact bw_ints (by simp [fx]; first | done | rfl) (by first | (simp [fx]; done) | (simp [fx]; omega) | omega) | exact bw_list (by simp [fx]; first | done | rfl) (by first | (simp [fx]; done) | (simp [fx]; omega) | omega) (by first | (simp; done) | fail) | exact bw_ords (by simp [fx]; first | done | rfl) (by first | (simp [fx]; done) | (simp [fx]; omega) | omega) | exact bw_stms (by simp [fx]; first | done | rfl) (by first | (simp [fx]; done) | (simp [fx]; omega) | omega) | exact bw_scopes ⟨(by first | (simp [hc1]; done) | fail), fun j k hj hk => (by first | (simp [hc2 j k hj hk]; done) | fail)⟩ hh rfl | exact bw_sc ⟨(by first | (simp [hc1]; done) | fail), fun j k hj hk => (by first | (simp [hc2 j k hj hk]; done) | fail)⟩ hh hk | exact bw_agg1 (bw_prog ⟨(by first | (simp [a1]; done) | fail), fun j r hj => (by first | (simp [a2 j r hj]; done) | fail), fun j r hj => (by first | (simp [a3 j r hj]; done) | fail)⟩ rfl) | exact bw_agg1 (bw_prog ⟨(by first | (simp [b1]; done) | fail), fun j r hj => (by first | (simp [b2 j r hj]; done) | fail), fun j r hj => (by first | (simp [b3 j r hj]; done) | fail)⟩ rfl) | exact bw_agg1 (bw_prog ⟨(by first | (simp [ho1]; done) | fail), fun j r hj => (by first | (simp [ho2 j r hj]; done) | fail), fun j r hj => (by first | (simp [ho3 j r hj]; done) | fail)⟩ rfl) | exact bw_codeA ⟨(by first | (simp [o1]; done) | fail), (by first | (simp [o2]; done) | fail), (by first | (simp [o3]; done) | fail), (by first | (simp [o4]; done) | fail), (by first | (simp [o5]; done) | fail)⟩ | exact bw_codeA ⟨(by first | (simp [q1]; done) | fail), (by first | (simp [q2]; done) | fail), (by first | (simp [q3]; done) | fail), (by first | (simp [q4]; done) | fail), (by first | (simp [q5]; done) | fail)⟩ | exact bw_codes ⟨(by first | (simp [kt]; done) | fail), fun i c hc => ⟨(by first | (simp [(ke i c hc).params]; done) | fail), (by first | (simp [(ke i c hc).fasts]; done) | fail), (by first | (simp [(ke i c hc).cells]; done) | fail), (by first | (simp [(ke i c hc).frees]; done) | fail), (by first | (simp [(ke i c hc).ops]; done) | fail)⟩⟩ rfl | exact bw_codes ⟨(by first | (simp [mt]; done) | fail), fun i c hc => ⟨(by first | (simp [(me i c hc).params]; done) | fail), (by first | (simp [(me i c hc).fasts]; done) | fail), (by first | (simp [(me i c hc).cells]; done) | fail), (by first | (simp [(me i c hc).frees]; done) | fail), (by first | (simp [(me i c hc).ops]; done) | fail)⟩⟩ rfl | exact bw_codes ⟨(by first | (simp [nt]; done) | fail), fun i c hc => ⟨(by first | (simp [(ne i c hc).params]; done) | fail), (by first | (simp [(ne i c hc).fasts]; done) | fail), (by first | (simp [(ne i c hc).cells]; done) | fail), (by first | (simp [(ne i c hc).frees]; done) | fail), (by first | (simp [(ne i c hc).ops]; done) | fail)⟩⟩ rfl)); done)
      | fail)
    (hF : FnOk X.P X.gl f az (fun r y H' => y = .hs r z 0 n ∧ H' r = some (.row z rows))) (hc : rows.all (fun r => r.all AV.cln) = true := by first | (simp; done) | fail)
    (h : K (((st.kill (.s d)).setO (.s d) (.row z rows)).put (some d) (.hs (.s d) z 0 n))) : SemOp X ⟨some d, .call ⟨.value (.func f), args, Ts⟩, ty, pos, aft, g⟩ K E st := o_callh hd ha hB hF hc h
theorem kx_callg {R : Nm → AV → (Nm → Option AO) → Prop} (hd : d < X.n := by first | (simp; done) | fail) (ha : args.toList.map (ev st) = avs := by simp [fx]; first | done | rfl | exact (Bool.not_not _).symm)
    (hB : BwL st.hp noD avs az := by
      first
      | ((repeat' (first | exact .nil | refine .cons ?_ ?_ | exact .refl _ | exact bw_ints (by simp [fx]; first | done | rfl) (by first | (simp [fx]; done) | (simp [fx]; omega) | omega) | exact bw_list (by simp [fx]; first | done | rfl) (by first | (simp [fx]; done) | (simp [fx]; omega) | omega) (by first | (simp; done) | fail) | exact bw_ords (by simp [fx]; first | done | rfl) (by first | (simp [fx]; done) | (simp [fx]; omega) | omega) | exact bw_stms (by simp [fx]; first | done | rfl) (by first | (simp [fx]; done) | (simp [fx]; omega) | omega) | exact bw_scopes ⟨(by first | (simp [hc1]; done) | fail), fun j k hj hk => (by first | (simp [hc2 j k hj hk]; done) | fail)⟩ hh rfl | exact bw_sc ⟨(by first | (simp [hc1]; done) | fail), fun j k hj hk => (by first | (simp [hc2 j k hj hk]; done) | fail)⟩ hh hk | exact bw_agg1 (bw_prog ⟨(by first | (simp [a1]; done) | fail), fun j r hj => (by first | (simp [a2 j r hj]; done) | fail), fun j r hj => (by first | (simp [a3 j r hj]; done) | fail)⟩ rfl) | exact bw_agg1 (bw_prog ⟨(by first | (simp [b1]; done) | fail), fun j r hj => (by first | (simp [b2 j r hj]; done) | fail), fun j r hj => (by first | (simp [b3 j r hj]; done) | fail)⟩ rfl) | exact bw_agg1 (bw_prog ⟨(by first | (simp [ho1]; done) | fail), fun j r hj => (by first | (simp [ho2 j r hj]; done) | fail), fun j r hj => (by first | (simp [ho3 j r hj]; done) | fail)⟩ rfl) | exact bw_codeA ⟨(by first | (simp [o1]; done) | fail), (by first | (simp [o2]; done) | fail), (by first | (simp [o3]; done) | fail), (by first | (simp [o4]; done) | fail), (by first | (simp [o5]; done) | fail)⟩ | exact bw_codeA ⟨(by first | (simp [q1]; done) | fail), (by first | (simp [q2]; done) | fail), (by first | (simp [q3]; done) | fail), (by first | (simp [q4]; done) | fail), (by first | (simp [q5]; done) | fail)⟩ | exact bw_codes ⟨(by first | (simp [kt]; done) | fail), fun i c hc => ⟨(by first | (simp [(ke i c hc).params]; done) | fail), (by first | (simp [(ke i c hc).fasts]; done) | fail), (by first | (simp [(ke i c hc).cells]; done) | fail), (by first | (simp [(ke i c hc).frees]; done) | fail), (by first | (simp [(ke i c hc).ops]; done) | fail)⟩⟩ rfl | exact bw_codes ⟨(by first | (simp [mt]; done) | fail), fun i c hc => ⟨(by first | (simp [(me i c hc).params]; done) | fail), (by first | (simp [(me i c hc).fasts]; done) | fail), (by first | (simp [(me i c hc).cells]; done) | fail), (by first | (simp [(me i c hc).frees]; done) | fail), (by first | (simp [(me i c hc).ops]; done) | fail)⟩⟩ rfl | exact bw_codes ⟨(by first | (simp [nt]; done) | fail), fun i c hc => ⟨(by first | (simp [(ne i c hc).params]; done) | fail), (by first | (simp [(ne i c hc).fasts]; done) | fail), (by first | (simp [(ne i c hc).cells]; done) | fail), (by first | (simp [(ne i c hc).frees]; done) | fail), (by first | (simp [(ne i c hc).ops]; done) | fail)⟩⟩ rfl)); done)
      | fail)
    (hF : FnOk X.P X.gl f az R) (h : ∀ y H', R (.s d) y H' → y.cln = true ∧ K (((st.kill (.s d)).addH d (hcln H')).put (some d) y)) :
    SemOp X ⟨some d, .call ⟨.value (.func f), args, Ts⟩, ty, pos, aft, g⟩ K E st := o_callg hd ha hB hF h
end
structure KTag (p : Prop) : Prop where
  h : p
theorem k_run {G G' : Prop} (k : G') (h : KTag G' → G := by
  intro kk
  repeat' (first
    | refine w_seq ?_ | refine w_block ?_ | refine w_skip ?_ | refine w_label ?_ | refine w_reg fun K hK => ?_
    | ((with_reducible refine s_end hK ?_); clear hK K) | (with_reducible refine s_end hK ?_)
    | (with_reducible first | refine then_normal ?_ | refine in_normal ?_ | refine then_exit ?_ | refine in_exit ?_ | refine then_ret ?_ | refine in_ret ?_ | refine s_nil ?_ | refine in_other (by decide) ?_)
    | refine w_exit ?_
    | refine w_ret ?_
    | (with_reducible refine s_none ?_)
    | ((with_reducible refine g_id ?_); refine x_guard (h := ?_))
    | (with_reducible first | refine gx_tt ?_ | refine gx_ff ?_ | refine x_tf (h := ?_) | refine x_ft (h := ?_) | refine x_u (h := ?_) | refine x_assign (h := ?_) | refine x_box (h := ?_) | refine x_alloc (h := ?_) | refine x_store0 (h := ?_) | refine x_append0 (h := ?_) | refine x_appendM (h := ?_) | refine x_append (h := ?_) | refine x_store (h := ?_) | refine x_make (h := ?_) | refine x_build (h := ?_))
    | ((with_reducible refine o_idc c1 rfl ?_); refine kx_call (hF := c1) (h := ?_))
    | ((with_reducible refine o_idc c2 rfl ?_); refine kx_call (hF := c2) (h := ?_))
    | ((with_reducible refine o_idc c3 rfl ?_); refine kx_call (hF := c3) (h := ?_))
    | ((with_reducible refine o_idc c4 rfl ?_); refine kx_call (hF := c4) (h := ?_))
    | ((with_reducible refine o_idc c5 rfl ?_); refine kx_call (hF := c5) (h := ?_))
    | ((with_reducible refine o_idc c6 rfl ?_); refine kx_call (hF := c6) (h := ?_))
    | ((with_reducible refine o_idc d1 rfl ?_); refine kx_callh (hF := d1) (h := ?_))
    | ((with_reducible refine o_idc d2 rfl ?_); refine kx_callh (hF := d2) (h := ?_))
    | ((with_reducible refine o_idc d3 rfl ?_); refine kx_callh (hF := d3) (h := ?_))
    | ((with_reducible refine o_idc d4 rfl ?_); refine kx_callh (hF := d4) (h := ?_))
    | ((with_reducible refine o_idc e1 rfl ?_); refine kx_callg (hF := e1) (h := ?_))
    | ((with_reducible refine o_idc e2 rfl ?_); refine kx_callg (hF := e2) (h := ?_))
    | (with_reducible refine x_q (h := ?_))
    | (with_reducible refine gx_s (fun ht => ?_) (fun ht => ?_))
    | refine x_condt (h1 := ?_) | refine x_condf (h1 := ?_)
    | ((with_reducible refine a_end hK ?_); clear hK K) | (with_reducible refine a_end hK ?_)
    | ((with_reducible refine a_id ?_); first | refine xa_q (h := ?_) | refine xa_qt (h := ?_) | refine xa_qf (h := ?_) | refine xa_qu (h := ?_))
    | ((with_reducible refine a_id ?_); refine xa_gq (h1 := fun ht => ?_) (h2 := fun ht => ?_))
    | refine a_l rfl ?_ | refine a_l2 ?_ ?_ | (with_reducible refine And.intro ?_ ?_) | exact st_nil | refine xa_st (h2 := ?_)
    | fail)
  first | exact kk.h | (revert hK; revert K; exact kk.h)) : G := h ⟨k⟩
theorem k_rund {G G' : Prop} (k : G') (h : KTag G' → G := by
  intro kk K hK
  repeat' (first
    | refine w_seq ?_ | refine w_block ?_ | refine w_skip ?_ | refine w_label ?_ | refine w_reg fun K hK => ?_
    | ((with_reducible refine s_end hK ?_); clear hK K) | (with_reducible refine s_end hK ?_)
    | (with_reducible first | refine then_normal ?_ | refine in_normal ?_ | refine then_exit ?_ | refine in_exit ?_ | refine then_ret ?_ | refine in_ret ?_ | refine s_nil ?_ | refine in_other (by decide) ?_)
    | refine w_exit ?_
    | refine w_ret ?_
    | (with_reducible refine s_none ?_)
    | ((with_reducible refine g_id ?_); refine x_guard (h := ?_))
    | (with_reducible first | refine gx_tt ?_ | refine gx_ff ?_ | refine x_tf (h := ?_) | refine x_ft (h := ?_) | refine x_u (h := ?_) | refine x_assign (h := ?_) | refine x_box (h := ?_) | refine x_alloc (h := ?_) | refine x_store0 (h := ?_) | refine x_append0 (h := ?_) | refine x_appendM (h := ?_) | refine x_append (h := ?_) | refine x_store (h := ?_) | refine x_make (h := ?_) | refine x_build (h := ?_))
    | ((with_reducible refine o_idc c1 rfl ?_); refine kx_call (hF := c1) (h := ?_))
    | ((with_reducible refine o_idc c2 rfl ?_); refine kx_call (hF := c2) (h := ?_))
    | ((with_reducible refine o_idc c3 rfl ?_); refine kx_call (hF := c3) (h := ?_))
    | ((with_reducible refine o_idc c4 rfl ?_); refine kx_call (hF := c4) (h := ?_))
    | ((with_reducible refine o_idc c5 rfl ?_); refine kx_call (hF := c5) (h := ?_))
    | ((with_reducible refine o_idc c6 rfl ?_); refine kx_call (hF := c6) (h := ?_))
    | ((with_reducible refine o_idc d1 rfl ?_); refine kx_callh (hF := d1) (h := ?_))
    | ((with_reducible refine o_idc d2 rfl ?_); refine kx_callh (hF := d2) (h := ?_))
    | ((with_reducible refine o_idc d3 rfl ?_); refine kx_callh (hF := d3) (h := ?_))
    | ((with_reducible refine o_idc d4 rfl ?_); refine kx_callh (hF := d4) (h := ?_))
    | ((with_reducible refine o_idc e1 rfl ?_); refine kx_callg (hF := e1) (h := ?_))
    | ((with_reducible refine o_idc e2 rfl ?_); refine kx_callg (hF := e2) (h := ?_))
    | (with_reducible refine x_q (h := ?_))
    | (with_reducible refine gx_s (fun ht => ?_) (fun ht => ?_))
    | refine x_condt (h1 := ?_) | refine x_condf (h1 := ?_)
    | ((with_reducible refine a_end hK ?_); clear hK K) | (with_reducible refine a_end hK ?_)
    | ((with_reducible refine a_id ?_); first | refine xa_q (h := ?_) | refine xa_qt (h := ?_) | refine xa_qf (h := ?_) | refine xa_qu (h := ?_))
    | ((with_reducible refine a_id ?_); refine xa_gq (h1 := fun ht => ?_) (h2 := fun ht => ?_))
    | refine a_l rfl ?_ | refine a_l2 ?_ ?_ | (with_reducible refine And.intro ?_ ?_) | exact st_nil | refine xa_st (h2 := ?_)
    | fail)
  first | exact kk.h | (revert hK; revert K; exact kk.h)) : G := h ⟨k⟩
end Go.Hm
end
section
namespace Go.Hm
open Go Go.RowKit Go.ChangeShapes Go.WideShapes Go.Deep
theorem two_vars {H : Type} {enc : TypeId × Value → H} {P : Program} {w : World} {spare : Nat → Bool} {n m : String} {gs : List (DataW H)} {ps : List MemPlace} (h : DataW.TrodVars enc P w spare [n, m] gs ps) : ∃ d e, gs = [d, e] := by
  cases gs with
  | nil => simp [DataW.TrodVars] at h
  | cons d ds =>
    obtain ⟨g, t, cs, fuel, p, q, h1, h2, h3, h4, hs, e⟩ := h
    obtain ⟨_, _, _, _, d', _, rfl, _⟩ := trodVars_one hs
    exact ⟨d, d', rfl⟩
end Go.Hm
end
section
namespace Go.Hm
open Go Go.RowKit
abbrev Val := Int × Int
abbrev Slt := Option Val
structure Act where
  blk : Nat
  up : Nat
  vars : List Slt
structure Wld where
  acts : List Act
  stack : List Nat
  globals : List Slt
  funs : List (Nat × Nat)
  classes : List (List Slt)
  out : List Int
  trace : List (Nat × Nat)
  en : Int
  left : Nat
abbrev noSlots : List Slt := List.replicate 8 none
def shown (v : Val) : Int := if v.1 = 1 then v.2 else if v.1 = 2 then -2 else if v.1 = 3 then -3 else -1
def Wld.blk (w : Wld) (at' : Nat) : Nat := match w.acts[at']? with | some a => a.blk | none => 0
def climb (acts : List Act) (o : Nat) : Nat → Nat → Nat
  | 0, a => a
  | n + 1, a => match acts[a]? with | some c => if c.blk = o then a else climb acts o n c.up | none => a
def Wld.loc (p : Prg) (w : Wld) (at' : Nat) (x : Int) : Option Nat := if owner p (w.blk at') x < 0 then none else some (climb w.acts (owner p (w.blk at') x).toNat at' at')
def Wld.vars (w : Wld) : Option Nat → List Slt
  | none => w.globals
  | some i => match w.acts[i]? with | some a => a.vars | none => []
def Wld.get (w : Wld) (l : Option Nat) (x : Int) : Slt := match (w.vars l)[x.toNat]? with | some s => s | none => none
def Wld.set (w : Wld) (l : Option Nat) (x : Int) (s : Slt) : Wld := match l with
  | none => { w with globals := w.globals.set x.toNat s }
  | some i => { w with acts := w.acts.modify i fun a => { a with vars := a.vars.set x.toNat s } }
def lack (p : Prg) (b : Nat) (o : Int) : Int := if o < 0 ∨ (o = b ∧ kindAt p b = 2) then 4 else if o = b then 2 else 3
def loadW (p : Prg) (w : Wld) (at' : Nat) (x : Int) : Wld × Val :=
  match w.get (w.loc p at' x) x with
  | some v => (w, v)
  | none =>
    if lack p (w.blk at') (owner p (w.blk at') x) = 4 then
      match w.get none x with
      | some v => (w, v)
      | none => if x = 7 then (w, (1, 70)) else ({ w with en := 4 }, (0, 0))
    else ({ w with en := lack p (w.blk at') (owner p (w.blk at') x) }, (0, 0))
def loadsW (p : Prg) (w : Wld) (at' : Nat) : List Int → Wld × List Val
  | [] => (w, [])
  | x :: l => if w.en ≠ 0 then (w, []) else
    ((loadsW p (loadW p w at' x).1 at' l).1, (loadW p w at' x).2 :: (loadsW p (loadW p w at' x).1 at' l).2)
def storeW (p : Prg) (w : Wld) (at' : Nat) (x : Int) (v : Val) : Wld := w.set (w.loc p at' x) x (some v)
def takeW (p : Prg) (w : Wld) (at' : Nat) (x : Int) : Wld := match w.get (w.loc p at' x) x with
  | some _ => w.set (w.loc p at' x) x none
  | none => { w with en := lack p (w.blk at') (owner p (w.blk at') x) }
def plusW (w : Wld) (a b : Val) : Wld × Val := if a.1 ≠ 1 ∨ b.1 ≠ 1 then ({ w with en := 5 }, (0, 0)) else (w, (1, (a.2 + b.2).tmod 1000))
def attrW (w : Wld) (v : Val) (x : Int) : Wld × Val := if v.1 ≠ 3 then ({ w with en := 5 }, (0, 0)) else
  match w.classes[v.2.toNat]? with
  | some c => match c[x.toNat]? with
    | some (some u) => (w, u)
    | _ => ({ w with en := 7 }, (0, 0))
  | none => ({ w with en := 7 }, (0, 0))
def bindP (ps : List Int) (vs : List Val) : List Slt := (ps.zip vs).foldl (fun l q => l.set q.1.toNat (some q.2)) noSlots
def beginW (p : Prg) (w : Wld) (b up : Nat) (vs : List Val) : Wld :=
  { w with acts := w.acts ++ [⟨b, up, bindP (match p[b]? with | some k => k.params | none => []) vs⟩], stack := w.stack ++ [w.acts.length] }
def endW (w : Wld) : Wld := if w.en = 0 then { w with stack := w.stack.dropLast } else w
def parN (p : Prg) (b : Nat) : Nat := match p[b]? with | some k => k.params.length | none => 0
section
variable (p : Prg) (R : Wld → Nat → Wld × Val)
def enterW (w : Wld) (b up : Nat) (vs : List Val) : Wld × Val := (endW (R (beginW p w b up vs) w.acts.length).1, (R (beginW p w b up vs) w.acts.length).2)
def callW (w : Wld) (f : Val) (vs : List Val) : Wld × Val := if f.1 ≠ 2 then ({ w with en := 5 }, (0, 0)) else
  match w.funs[f.2.toNat]? with
  | some g => if parN p g.1 ≠ vs.length then ({ w with en := 6 }, (0, 0)) else enterW p R w g.1 g.2 vs
  | none => (w, (0, 0))
def classW (w : Wld) (b at' : Nat) : Wld × Val :=
  if (enterW p R w b at' []).1.en ≠ 0 then ((enterW p R w b at' []).1, (0, 0)) else
  ({ (enterW p R w b at' []).1 with classes := (enterW p R w b at' []).1.classes ++ [(enterW p R w b at' []).1.vars (some w.acts.length)] }, (3, ((enterW p R w b at' []).1.classes.length : Int)))
def workW (w : Wld) (at' : Nat) (s : Stm) (vs : List Val) : Wld × Val :=
  if s.kind = 0 then (w, (1, s.a)) else if s.kind = 2 then plusW w (vs.getD 0 (0, 0)) (vs.getD 1 (0, 0))
  else if s.kind = 3 then ({ w with funs := w.funs ++ [(s.a.toNat, at')] }, (2, (w.funs.length : Int)))
  else if s.kind = 4 then classW p R w s.a.toNat at' else if s.kind = 5 then callW p R w (vs.getD 0 (0, 0)) vs.tail
  else if s.kind = 6 then attrW w (vs.getD 0 (0, 0)) s.b else (w, vs.getD 0 (0, 0))
def valueW (w : Wld) (at' : Nat) (s : Stm) : Wld × Val :=
  if (loadsW p w at' s.reads).1.en ≠ 0 then ((loadsW p w at' s.reads).1, (0, 0)) else workW p R (loadsW p w at' s.reads).1 at' s (loadsW p w at' s.reads).2
def stmW (w : Wld) (at' : Nat) (s : Stm) : Wld :=
  if s.kind = 9 ∨ s.kind = 10 then w else if s.kind = 11 then takeW p w at' s.to else
  if (valueW p R w at' s).1.en ≠ 0 then (valueW p R w at' s).1
  else if s.kind = 7 then { (valueW p R w at' s).1 with out := (valueW p R w at' s).1.out ++ [shown (valueW p R w at' s).2] }
  else storeW p (valueW p R w at' s).1 at' s.to (valueW p R w at' s).2
def tickW (w : Wld) (at' i : Nat) : Wld := { w with left := w.left - 1, trace := w.trace ++ [(w.blk at', i)] }
def bodyW (at' : Nat) : Wld → Nat → List Stm → Wld × Val
  | w, _, [] => (w, (0, 0))
  | w, i, s :: l =>
    if w.left = 0 then ({ w with en := 1 }, (0, 0)) else
    if s.kind = 8 then loadW p (tickW w at' i) at' s.a else
    if (stmW p R (tickW w at' i) at' s).en ≠ 0 then (stmW p R (tickW w at' i) at' s, (0, 0)) else bodyW at' (stmW p R (tickW w at' i) at' s) (i + 1) l
end
def runW (p : Prg) : Nat → Wld → Nat → Wld × Val
  | 0, w, _ => (w, (0, 0))
  | n + 1, w, at' => bodyW p (runW p n) at' w 0 (match p[w.blk at']? with | some k => k.body | none => [])
def startW (fuel : Nat) : Wld := ⟨[⟨0, 0, noSlots⟩], [0], noSlots, [], [], [], [], 0, fuel⟩
def meantW (p : Prg) (fuel : Nat) : Wld := (runW p 151 (startW fuel) 0).1
def shownS (l : List Slt) : List Int := l.map fun s => match s with | some v => shown v | none => -9
end Go.Hm
end
