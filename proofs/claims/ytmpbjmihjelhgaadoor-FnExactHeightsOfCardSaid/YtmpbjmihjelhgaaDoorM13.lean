/-
  Own texts, joined by mkclaim.py: Hm66, Hm67.
-/
import Derived.Test.YtmpbjmihjelhgaaDoorM09
import Derived.Test.YtmpbjmihjelhgaaDoorM11
import Derived.Test.YtmpbjmihjelhgaaDoorM10
import Derived.Test.YtmpbjmihjelhgaaDoorM12
import Derived.ChangeVars
set_option linter.unusedSimpArgs false
set_option linter.unusedVariables false

section
/-
  The heap machine, part 66: a run through code in one word: what a walk's run tries stands here as a default tactic, once. Own work; generic in the program.
-/
set_option linter.unusedSimpArgs false
namespace Go.Hm
open Go Go.RowKit

section
variable {X : Ctx} {st : St} {K : St → Prop} {E : AV → St → Prop} {dst : Option Nat} {f f' : FuncId} {args : Array Operand} {Ts : Array TypeId} {ty : TypeId} {pos : String} {aft : Array Edge} {g : Option (Nat × Bool)} {P : Program} {gl : Nat → Option (List AV)} {as : List AV} {R : Nm → AV → (Nm → Option AO) → Prop}
/-- the callee is that of a contract -/
theorem o_idc (_hF : FnOk P gl f' as R) (_hf : f = f') (h : SemOp X ⟨dst, .call ⟨.value (.func f), args, Ts⟩, ty, pos, aft, g⟩ K E st) : SemOp X ⟨dst, .call ⟨.value (.func f), args, Ts⟩, ty, pos, aft, g⟩ K E st := h
end

def AV.isHs : AV → Bool
  | .hs _ _ _ _ => true
  | _ => false
@[simp] theorem isHs_hs {n : Nm} {z lo len : Nat} : (AV.hs n z lo len).isHs = true := rfl
@[simp] theorem isHs_sc {v : Value} : (AV.sc v).isHs = false := rfl
section
variable {X : Ctx} {st st' : St} {K : St → Prop} {E : AV → St → Prop} {d : Nat} {ty : TypeId} {pos : String} {aft : Array Edge} {g : Option (Nat × Bool)}
/-- elements that have memory of their own -/
theorem x_appendM {T F : TypeId} {s x : Operand} {z len : Nat} {n : Nm} {rows0 rows2 : List (List AV)} (hd : d < X.n := by first | (simp; done) | fail) (hT : tapp X.P T = some F := by simp [fx]; first | done | rfl) (hz : tsz X.P F = z := by simp [fx]; first | done | rfl) (hs : ev st s = .hs n z 0 len := by simp [fx]; first | done | rfl | exact ⟨rfl, rfl⟩ | exact ⟨rfl, rfl, rfl⟩)
    (hn : st.hp n = some (.row z rows0) := by simp [fx]; first | done | rfl) (hle : len ≤ rows0.length := by first | (simp [fx]; done) | (simp [fx]; omega) | omega)
    (hx : srcRows st z (ev st x) = some rows2 := by simp [fx]; first | done | rfl) (hm : (rows2.any fun r => r.any AV.isHs) = true := by first | (simp; done) | fail) (hlen : len + rows2.length ≤ 4294967296 := by first | (simp [fx]; done) | (simp [fx]; omega) | omega)
    (hq : Hm.canon (prcL (.s d) len rows2) ((apSt d z (len + rows2.length) (some n) (rows0.take len ++ rows2) st).mvc n (.s d)) = st' := by simp [fx]; first | done | rfl | exact (Bool.not_not _).symm) (h : K st') :
    SemOp X ⟨some d, .call ⟨.builtin .append, #[s, x], #[T, T]⟩, ty, pos, aft, g⟩ K E st := o_appendC hd hT hz hs hn hle hx hlen hq h
end
section
variable {X : Ctx} {st : St} {K : St → Prop} {E : AV → St → Prop} {d : Nat} {ty : TypeId} {pos : String} {aft : Array Edge} {g : Option (Nat × Bool)} {f : Nat} {args : Array Operand} {Ts : Array TypeId} {as avs : List AV}
theorem kx_call {x : AV} (hd : d < X.n := by first | (simp; done) | fail) (ha : args.toList.map (ev st) = avs := by simp [fx]; first | done | rfl | exact (Bool.not_not _).symm)
    (hB : BwL st.hp noD avs as := by
      first
      | ((repeat' (first | exact .nil | refine .cons ?_ ?_ | exact .refl _ | exact bw_ints (by simp [fx]; first | done | rfl) (by first | (simp [fx]; done) | (simp [fx]; omega) | omega) | exact bw_list (by simp [fx]; first | done | rfl) (by first | (simp [fx]; done) | (simp [fx]; omega) | omega) (by first | (simp; done) | fail) | exact bw_ords (by simp [fx]; first | done | rfl) (by first | (simp [fx]; done) | (simp [fx]; omega) | omega) | exact bw_stms (by simp [fx]; first | done | rfl) (by first | (simp [fx]; done) | (simp [fx]; omega) | omega) | exact bw_scopes ⟨(by first | (simp [hc1]; done) | fail), fun j k hj hk => (by first | (simp [hc2 j k hj hk]; done) | fail)⟩ hh rfl | exact bw_sc ⟨(by first | (simp [hc1]; done) | fail), fun j k hj hk => (by first | (simp [hc2 j k hj hk]; done) | fail)⟩ hh hk | exact bw_agg1 (bw_prog ⟨(by first | (simp [a1]; done) | fail), fun j r hj => (by first | (simp [a2 j r hj]; done) | fail), fun j r hj => (by first | (simp [a3 j r hj]; done) | fail)⟩ rfl) | exact bw_agg1 (bw_prog ⟨(by first | (simp [b1]; done) | fail), fun j r hj => (by first | (simp [b2 j r hj]; done) | fail), fun j r hj => (by first | (simp [b3 j r hj]; done) | fail)⟩ rfl) | exact bw_agg1 (bw_prog ⟨(by first | (simp [ho1]; done) | fail), fun j r hj => (by first | (simp [ho2 j r hj]; done) | fail), fun j r hj => (by first | (simp [ho3 j r hj]; done) | fail)⟩ rfl) | exact bw_codeA ⟨(by first | (simp [o1]; done) | fail), (by first | (simp [o2]; done) | fail), (by first | (simp [o3]; done) | fail), (by first | (simp [o4]; done) | fail), (by first | (simp [o5]; done) | fail)⟩ | exact bw_codeA ⟨(by first | (simp [q1]; done) | fail), (by first | (simp [q2]; done) | fail), (by first | (simp [q3]; done) | fail), (by first | (simp [q4]; done) | fail), (by first | (simp [q5]; done) | fail)⟩ | exact bw_codes ⟨(by first | (simp [kt]; done) | fail), fun i c hc => ⟨(by first | (simp [(ke i c hc).params]; done) | fail), (by first | (simp [(ke i c hc).fasts]; done) | fail), (by first | (simp [(ke i c hc).cells]; done) | fail), (by first | (simp [(ke i c hc).frees]; done) | fail), (by first | (simp [(ke i c hc).ops]; done) | fail)⟩⟩ rfl | exact bw_codes ⟨(by first | (simp [mt]; done) | fail), fun i c hc => ⟨(by first | (simp [(me i c hc).params]; done) | fail), (by first | (simp [(me i c hc).fasts]; done) | fail), (by first | (simp [(me i c hc).cells]; done) | fail), (by first | (simp [(me i c hc).frees]; done) | fail), (by first | (simp [(me i c hc).ops]; done) | fail)⟩⟩ rfl | exact bw_codes ⟨(by first | (simp [nt]; done) | fail), fun i c hc => ⟨(by first | (simp [(ne i c hc).params]; done) | fail), (by first | (simp [(ne i c hc).fasts]; done) | fail), (by first | (simp [(ne i c hc).cells]; done) | fail), (by first | (simp [(ne i c hc).frees]; done) | fail), (by first | (simp [(ne i c hc).ops]; done) | fail)⟩⟩ rfl)); done)
      | fail)
    (hF : FnOk X.P X.gl f as (fun _ y _ => y = x)) (hc : x.cln = true := by first | (simp [fx]; done) | fail) (h : K ((st.kill (.s d)).put (some d) x)) :
    SemOp X ⟨some d, .call ⟨.value (.func f), args, Ts⟩, ty, pos, aft, g⟩ K E st := o_call hd ha hB hF hc h
theorem kx_callh {z n : Nat} {rows : List (List AV)} (hd : d < X.n := by first | (simp; done) | fail) (ha : args.toList.map (ev st) = avs := by simp [fx]; first | done | rfl | exact (Bool.not_not _).symm)
    (hB : BwL st.hp noD avs as := by
      first
      | ((repeat' (first | exact .nil | refine .cons ?_ ?_ | exact .refl _ | exact bw_ints (by simp [fx]; first | done | rfl) (by first | (simp [fx]; done) | (simp [fx]; omega) | omega) | exact bw_list (by simp [fx]; first | done | rfl) (by first | (simp [fx]; done) | (simp [fx]; omega) | omega) (by first | (simp; done) | fail) | exact bw_ords (by simp [fx]; first | done | rfl) (by first | (simp [fx]; done) | (simp [fx]; omega) | omega) | exact bw_stms (by simp [fx]; first | done | rfl) (by first | (simp [fx]; done) | (simp [fx]; omega) | omega) | exact bw_scopes ⟨(by first | (simp [hc1]; done) | fail), fun j k hj hk => (by first | (simp [hc2 j k hj hk]; done) | fail)⟩ hh rfl | exact bw_sc ⟨(by first | (simp [hc1]; done) | fail), fun j k hj hk => (by first | (simp [hc2 j k hj hk]; done) | fail)⟩ hh hk | exact bw_agg1 (bw_prog ⟨(by first | (simp [a1]; done) | fail), fun j r hj => (by first | (simp [a2 j r hj]; done) | fail), fun j r hj => (by first | (simp [a3 j r hj]; done) | fail)⟩ rfl) | exact bw_agg1 (bw_prog ⟨(by first | (simp [b1]; done) | fail), fun j r hj => (by first | (simp [b2 j r hj]; done) | fail), fun j r hj => (by first | (simp [b3 j r hj]; done) | fail)⟩ rfl) | exact bw_agg1 (bw_prog ⟨(by first | (simp [ho1]; done) | fail), fun j r hj => (by first | (simp [ho2 j r hj]; done) | fail), fun j r hj => (by first | (simp [ho3 j r hj]; done) | fail)⟩ rfl) | exact bw_codeA ⟨(by first | (simp [o1]; done) | fail), (by first | (simp [o2]; done) | fail), (by first | (simp [o3]; done) | fail), (by first | (simp [o4]; done) | fail), (by first | (simp [o5]; done) | fail)⟩ | exact bw_codeA ⟨(by first | (simp [q1]; done) | fail), (by first | (simp [q2]; done) | fail), (by first | (simp [q3]; done) | fail), (by first | (simp [q4]; done) | fail), (by first | (simp [q5]; done) | fail)⟩ | exact bw_codes ⟨(by first | (simp [kt]; done) | fail), fun i c hc => ⟨(by first | (simp [(ke i c hc).params]; done) | fail), (by first | (simp [(ke i c hc).fasts]; done) | fail), (by first | (simp [(ke i c hc).cells]; done) | fail), (by first | (simp [(ke i c hc).frees]; done) | fail), (by first | (simp [(ke i c hc).ops]; done) | fail)⟩⟩ rfl | exact bw_codes ⟨(by first | (simp [mt]; done) | fail), fun i c hc => ⟨(by first | (simp [(me i c hc).params]; done) | fail), (by first | (simp [(me i c hc).fasts]; done) | fail), (by first | (simp [(me i c hc).cells]; done) | fail), (by first | (simp [(me i c hc).frees]; done) | fail), (by first | (simp [(me i c hc).ops]; done) | fail)⟩⟩ rfl | exact bw_codes ⟨(by first | (simp [nt]; done) | fail), fun i c hc => ⟨(by first | (simp [(ne i c hc).params]; done) | fail), (by first | (simp [(ne i c hc).fasts]; done) | fail), (by first | (simp [(ne i c hc).cells]; done) | fail), (by first | (simp [(ne i c hc).frees]; done) | fail), (by first | (simp [(ne i c hc).ops]; done) | fail)⟩⟩ rfl)); done)
      | fail)
    (hF : FnOk X.P X.gl f as (fun r y H' => y = .hs r z 0 n ∧ H' r = some (.row z rows))) (hc : rows.all (fun r => r.all AV.cln) = true := by first | (simp; done) | fail)
    (h : K (((st.kill (.s d)).setO (.s d) (.row z rows)).put (some d) (.hs (.s d) z 0 n))) : SemOp X ⟨some d, .call ⟨.value (.func f), args, Ts⟩, ty, pos, aft, g⟩ K E st := o_callh hd ha hB hF hc h
theorem kx_callg {R : Nm → AV → (Nm → Option AO) → Prop} (hd : d < X.n := by first | (simp; done) | fail) (ha : args.toList.map (ev st) = avs := by simp [fx]; first | done | rfl | exact (Bool.not_not _).symm)
    (hB : BwL st.hp noD avs as := by
      first
      | ((repeat' (first | exact .nil | refine .cons ?_ ?_ | exact .refl _ | exact bw_ints (by simp [fx]; first | done | rfl) (by first | (simp [fx]; done) | (simp [fx]; omega) | omega) | exact bw_list (by simp [fx]; first | done | rfl) (by first | (simp [fx]; done) | (simp [fx]; omega) | omega) (by first | (simp; done) | fail) | exact bw_ords (by simp [fx]; first | done | rfl) (by first | (simp [fx]; done) | (simp [fx]; omega) | omega) | exact bw_stms (by simp [fx]; first | done | rfl) (by first | (simp [fx]; done) | (simp [fx]; omega) | omega) | exact bw_scopes ⟨(by first | (simp [hc1]; done) | fail), fun j k hj hk => (by first | (simp [hc2 j k hj hk]; done) | fail)⟩ hh rfl | exact bw_sc ⟨(by first | (simp [hc1]; done) | fail), fun j k hj hk => (by first | (simp [hc2 j k hj hk]; done) | fail)⟩ hh hk | exact bw_agg1 (bw_prog ⟨(by first | (simp [a1]; done) | fail), fun j r hj => (by first | (simp [a2 j r hj]; done) | fail), fun j r hj => (by first | (simp [a3 j r hj]; done) | fail)⟩ rfl) | exact bw_agg1 (bw_prog ⟨(by first | (simp [b1]; done) | fail), fun j r hj => (by first | (simp [b2 j r hj]; done) | fail), fun j r hj => (by first | (simp [b3 j r hj]; done) | fail)⟩ rfl) | exact bw_agg1 (bw_prog ⟨(by first | (simp [ho1]; done) | fail), fun j r hj => (by first | (simp [ho2 j r hj]; done) | fail), fun j r hj => (by first | (simp [ho3 j r hj]; done) | fail)⟩ rfl) | exact bw_codeA ⟨(by first | (simp [o1]; done) | fail), (by first | (simp [o2]; done) | fail), (by first | (simp [o3]; done) | fail), (by first | (simp [o4]; done) | fail), (by first | (simp [o5]; done) | fail)⟩ | exact bw_codeA ⟨(by first | (simp [q1]; done) | fail), (by first | (simp [q2]; done) | fail), (by first | (simp [q3]; done) | fail), (by first | (simp [q4]; done) | fail), (by first | (simp [q5]; done) | fail)⟩ | exact bw_codes ⟨(by first | (simp [kt]; done) | fail), fun i c hc => ⟨(by first | (simp [(ke i c hc).params]; done) | fail), (by first | (simp [(ke i c hc).fasts]; done) | fail), (by first | (simp [(ke i c hc).cells]; done) | fail), (by first | (simp [(ke i c hc).frees]; done) | fail), (by first | (simp [(ke i c hc).ops]; done) | fail)⟩⟩ rfl | exact bw_codes ⟨(by first | (simp [mt]; done) | fail), fun i c hc => ⟨(by first | (simp [(me i c hc).params]; done) | fail), (by first | (simp [(me i c hc).fasts]; done) | fail), (by first | (simp [(me i c hc).cells]; done) | fail), (by first | (simp [(me i c hc).frees]; done) | fail), (by first | (simp [(me i c hc).ops]; done) | fail)⟩⟩ rfl | exact bw_codes ⟨(by first | (simp [nt]; done) | fail), fun i c hc => ⟨(by first | (simp [(ne i c hc).params]; done) | fail), (by first | (simp [(ne i c hc).fasts]; done) | fail), (by first | (simp [(ne i c hc).cells]; done) | fail), (by first | (simp [(ne i c hc).frees]; done) | fail), (by first | (simp [(ne i c hc).ops]; done) | fail)⟩⟩ rfl)); done)
      | fail)
    (hF : FnOk X.P X.gl f as R) (h : ∀ y H', R (.s d) y H' → y.cln = true ∧ K (((st.kill (.s d)).addH d (hcln H')).put (some d) y)) :
    SemOp X ⟨some d, .call ⟨.value (.func f), args, Ts⟩, ty, pos, aft, g⟩ K E st := o_callg hd ha hB hF h
end
/-- what a run leaves -/
structure KTag (p : Prop) : Prop where
  h : p
/-- a run: the contracts of what is called are facts c1 .. (a value), d1 .. (a list), e1 .. (with objects) -/
theorem k_run {G G' : Prop} (k : G') (h : KTag G' → G := by
  intro kk
  repeat' (first
    | refine w_seq ?_ | refine w_block ?_ | refine w_skip ?_ | refine w_label ?_ | refine w_reg fun K hK => ?_
    | ((with_reducible refine s_end hK ?_); clear hK K) | (with_reducible refine s_end hK ?_)
    | (with_reducible first | refine then_normal ?_ | refine in_normal ?_ | refine then_exit ?_ | refine in_exit ?_ | refine then_ret ?_ | refine in_ret ?_ | refine s_nil ?_ | refine in_other (by decide) ?_)
    | refine w_exit ?_
    | refine w_ret ?_
    | (with_reducible refine s_none ?_)
    | ((with_reducible refine g_id ?_); refine x_guard (h := ?_))
    | (with_reducible first | refine gx_tt ?_ | refine gx_ff ?_ | refine x_tf (h := ?_) | refine x_ft (h := ?_) | refine x_u (h := ?_) | refine x_assign (h := ?_) | refine x_box (h := ?_) | refine x_alloc (h := ?_) | refine x_store0 (h := ?_) | refine x_append0 (h := ?_) | refine x_appendM (h := ?_) | refine x_append (h := ?_) | refine x_store (h := ?_) | refine x_make (h := ?_) | refine x_build (h := ?_))
    | ((with_reducible refine o_idc c1 rfl ?_); refine kx_call (hF := c1) (h := ?_))
    | ((with_reducible refine o_idc c2 rfl ?_); refine kx_call (hF := c2) (h := ?_))
    | ((with_reducible refine o_idc c3 rfl ?_); refine kx_call (hF := c3) (h := ?_))
    | ((with_reducible refine o_idc c4 rfl ?_); refine kx_call (hF := c4) (h := ?_))
    | ((with_reducible refine o_idc c5 rfl ?_); refine kx_call (hF := c5) (h := ?_))
    | ((with_reducible refine o_idc c6 rfl ?_); refine kx_call (hF := c6) (h := ?_))
    | ((with_reducible refine o_idc d1 rfl ?_); refine kx_callh (hF := d1) (h := ?_))
    | ((with_reducible refine o_idc d2 rfl ?_); refine kx_callh (hF := d2) (h := ?_))
    | ((with_reducible refine o_idc d3 rfl ?_); refine kx_callh (hF := d3) (h := ?_))
    | ((with_reducible refine o_idc d4 rfl ?_); refine kx_callh (hF := d4) (h := ?_))
    | ((with_reducible refine o_idc e1 rfl ?_); refine kx_callg (hF := e1) (h := ?_))
    | ((with_reducible refine o_idc e2 rfl ?_); refine kx_callg (hF := e2) (h := ?_))
    | (with_reducible refine x_q (h := ?_))
    | (with_reducible refine gx_s (fun ht => ?_) (fun ht => ?_))
    | refine x_condt (h1 := ?_) | refine x_condf (h1 := ?_)
    | ((with_reducible refine a_end hK ?_); clear hK K) | (with_reducible refine a_end hK ?_)
    | ((with_reducible refine a_id ?_); first | refine xa_q (h := ?_) | refine xa_qt (h := ?_) | refine xa_qf (h := ?_) | refine xa_qu (h := ?_))
    | ((with_reducible refine a_id ?_); refine xa_gq (h1 := fun ht => ?_) (h2 := fun ht => ?_))
    | refine a_l rfl ?_ | refine a_l2 ?_ ?_ | (with_reducible refine And.intro ?_ ?_) | exact st_nil | refine xa_st (h2 := ?_)
    | fail)
  first | exact kk.h | (revert hK; revert K; exact kk.h)) : G := h ⟨k⟩

/-- a run of a region in an order that is drawn -/
theorem k_rund {G G' : Prop} (k : G') (h : KTag G' → G := by
  intro kk K hK
  repeat' (first
    | refine w_seq ?_ | refine w_block ?_ | refine w_skip ?_ | refine w_label ?_ | refine w_reg fun K hK => ?_
    | ((with_reducible refine s_end hK ?_); clear hK K) | (with_reducible refine s_end hK ?_)
    | (with_reducible first | refine then_normal ?_ | refine in_normal ?_ | refine then_exit ?_ | refine in_exit ?_ | refine then_ret ?_ | refine in_ret ?_ | refine s_nil ?_ | refine in_other (by decide) ?_)
    | refine w_exit ?_
    | refine w_ret ?_
    | (with_reducible refine s_none ?_)
    | ((with_reducible refine g_id ?_); refine x_guard (h := ?_))
    | (with_reducible first | refine gx_tt ?_ | refine gx_ff ?_ | refine x_tf (h := ?_) | refine x_ft (h := ?_) | refine x_u (h := ?_) | refine x_assign (h := ?_) | refine x_box (h := ?_) | refine x_alloc (h := ?_) | refine x_store0 (h := ?_) | refine x_append0 (h := ?_) | refine x_appendM (h := ?_) | refine x_append (h := ?_) | refine x_store (h := ?_) | refine x_make (h := ?_) | refine x_build (h := ?_))
    | ((with_reducible refine o_idc c1 rfl ?_); refine kx_call (hF := c1) (h := ?_))
    | ((with_reducible refine o_idc c2 rfl ?_); refine kx_call (hF := c2) (h := ?_))
    | ((with_reducible refine o_idc c3 rfl ?_); refine kx_call (hF := c3) (h := ?_))
    | ((with_reducible refine o_idc c4 rfl ?_); refine kx_call (hF := c4) (h := ?_))
    | ((with_reducible refine o_idc c5 rfl ?_); refine kx_call (hF := c5) (h := ?_))
    | ((with_reducible refine o_idc c6 rfl ?_); refine kx_call (hF := c6) (h := ?_))
    | ((with_reducible refine o_idc d1 rfl ?_); refine kx_callh (hF := d1) (h := ?_))
    | ((with_reducible refine o_idc d2 rfl ?_); refine kx_callh (hF := d2) (h := ?_))
    | ((with_reducible refine o_idc d3 rfl ?_); refine kx_callh (hF := d3) (h := ?_))
    | ((with_reducible refine o_idc d4 rfl ?_); refine kx_callh (hF := d4) (h := ?_))
    | ((with_reducible refine o_idc e1 rfl ?_); refine kx_callg (hF := e1) (h := ?_))
    | ((with_reducible refine o_idc e2 rfl ?_); refine kx_callg (hF := e2) (h := ?_))
    | (with_reducible refine x_q (h := ?_))
    | (with_reducible refine gx_s (fun ht => ?_) (fun ht => ?_))
    | refine x_condt (h1 := ?_) | refine x_condf (h1 := ?_)
    | ((with_reducible refine a_end hK ?_); clear hK K) | (with_reducible refine a_end hK ?_)
    | ((with_reducible refine a_id ?_); first | refine xa_q (h := ?_) | refine xa_qt (h := ?_) | refine xa_qf (h := ?_) | refine xa_qu (h := ?_))
    | ((with_reducible refine a_id ?_); refine xa_gq (h1 := fun ht => ?_) (h2 := fun ht => ?_))
    | refine a_l rfl ?_ | refine a_l2 ?_ ?_ | (with_reducible refine And.intro ?_ ?_) | exact st_nil | refine xa_st (h2 := ?_)
    | fail)
  first | exact kk.h | (revert hK; revert K; exact kk.h)) : G := h ⟨k⟩
/-- a run of a region in an order that is drawn, told by what is behind it in each order -/
theorem k_runj {X : Ctx} {c : Code} {Q : Ex → St → Prop} {G : Prop} (I : St → Prop) (k : ∀ st, I st → SemCode X c Q st) (h : KTag (∀ st, I st → SemCode X c Q st) → G := by
  intro kk K hK
  repeat' (first
    | refine w_seq ?_ | refine w_block ?_ | refine w_skip ?_ | refine w_label ?_ | refine w_reg fun K hK => ?_
    | ((with_reducible refine s_end hK ?_); clear hK K) | (with_reducible refine s_end hK ?_)
    | (with_reducible first | refine then_normal ?_ | refine in_normal ?_ | refine then_exit ?_ | refine in_exit ?_ | refine then_ret ?_ | refine in_ret ?_ | refine s_nil ?_ | refine in_other (by decide) ?_)
    | refine w_exit ?_
    | refine w_ret ?_
    | (with_reducible refine s_none ?_)
    | ((with_reducible refine g_id ?_); refine x_guard (h := ?_))
    | (with_reducible first | refine gx_tt ?_ | refine gx_ff ?_ | refine x_tf (h := ?_) | refine x_ft (h := ?_) | refine x_u (h := ?_) | refine x_assign (h := ?_) | refine x_box (h := ?_) | refine x_alloc (h := ?_) | refine x_store0 (h := ?_) | refine x_append0 (h := ?_) | refine x_appendM (h := ?_) | refine x_append (h := ?_) | refine x_store (h := ?_) | refine x_make (h := ?_) | refine x_build (h := ?_))
    | ((with_reducible refine o_idc c1 rfl ?_); refine kx_call (hF := c1) (h := ?_))
    | ((with_reducible refine o_idc c2 rfl ?_); refine kx_call (hF := c2) (h := ?_))
    | ((with_reducible refine o_idc c3 rfl ?_); refine kx_call (hF := c3) (h := ?_))
    | ((with_reducible refine o_idc c4 rfl ?_); refine kx_call (hF := c4) (h := ?_))
    | ((with_reducible refine o_idc c5 rfl ?_); refine kx_call (hF := c5) (h := ?_))
    | ((with_reducible refine o_idc c6 rfl ?_); refine kx_call (hF := c6) (h := ?_))
    | ((with_reducible refine o_idc d1 rfl ?_); refine kx_callh (hF := d1) (h := ?_))
    | ((with_reducible refine o_idc d2 rfl ?_); refine kx_callh (hF := d2) (h := ?_))
    | ((with_reducible refine o_idc d3 rfl ?_); refine kx_callh (hF := d3) (h := ?_))
    | ((with_reducible refine o_idc d4 rfl ?_); refine kx_callh (hF := d4) (h := ?_))
    | ((with_reducible refine o_idc e1 rfl ?_); refine kx_callg (hF := e1) (h := ?_))
    | ((with_reducible refine o_idc e2 rfl ?_); refine kx_callg (hF := e2) (h := ?_))
    | (with_reducible refine x_q (h := ?_))
    | (with_reducible refine gx_s (fun ht => ?_) (fun ht => ?_))
    | refine x_condt (h1 := ?_) | refine x_condf (h1 := ?_)
    | ((with_reducible refine a_end hK ?_); clear hK K) | (with_reducible refine a_end hK ?_)
    | ((with_reducible refine a_id ?_); first | refine xa_q (h := ?_) | refine xa_qt (h := ?_) | refine xa_qf (h := ?_) | refine xa_qu (h := ?_))
    | ((with_reducible refine a_id ?_); refine xa_gq (h1 := fun ht => ?_) (h2 := fun ht => ?_))
    | refine a_l rfl ?_ | refine a_l2 ?_ ?_ | (with_reducible refine And.intro ?_ ?_) | exact st_nil | refine xa_st (h2 := ?_)
    | fail)
  all_goals exact kk.h _ (by simp [fx])) : G := h ⟨k⟩
end Go.Hm
end

section
/-
  The heap machine, part 67: tables of integers in package variables, several; integers that are handed to a law. Own work; generic in the program.
-/
set_option linter.unusedSimpArgs false
namespace Go.Hm
open Go Go.RowKit Go.ChangeShapes Go.WideShapes Go.Deep

/-- tables of integers as rows -/
def glT : List (Nat × List Int) → Nat → Option (List AV)
  | [], _ => none
  | (g, l) :: r, i => if i = g then some (l.map iv) else glT r i
theorem glT_met {W : World} : ∀ {ts : List (Nat × List Int)}, (∀ t ∈ ts, 0 < t.2.length ∧ ∀ i k, t.2[i]? = some k → W.cell? ⟨t.1, i, none⟩ = some (.int .i64 k)) →
    ∀ i row, glT ts i = some row → RV (g0 W) W (.pointer (some ⟨i, 0, none⟩)) (.el row 0) ∧ ∀ f : Nm → Option Nm, row.map (AV.tr f) = row
  | [], _, i, row, hr => by simp [glT] at hr
  | (g, l) :: r, h, i, row, hr => by
    simp only [glT] at hr
    split at hr
    · rename_i e
      subst e
      obtain ⟨h1, h2⟩ := h (i, l) (by simp)
      exact glI_met (g := i) h1 h2 i row (by simpa [glI] using hr)
    · exact glT_met (ts := r) (fun t ht => h t (by simp [ht])) i row hr

theorem two_vars {H : Type} {enc : TypeId × Value → H} {P : Program} {w : World} {spare : Nat → Bool} {n m : String} {gs : List (DataW H)} {ps : List MemPlace} (h : DataW.TrodVars enc P w spare [n, m] gs ps) : ∃ d e, gs = [d, e] := by
  cases gs with
  | nil => simp [DataW.TrodVars] at h
  | cons d ds =>
    obtain ⟨g, t, cs, fuel, p, q, h1, h2, h3, h4, hs, e⟩ := h
    obtain ⟨_, _, _, _, d', _, rfl, _⟩ := trodVars_one hs
    exact ⟨d, d', rfl⟩
end Go.Hm
end
