/-
  Own texts, joined by mkclaim.py: Hm66, Hm67, Hm70, Hm71, Hm72, Hm73, Hm74, Hm75, Hm76, Hm77, Hm78, Hm79, Hm80, Hm81, Hm82, Hm83, Hm84, Hm85, Hm86, Hm87, Hm88, Hm89, Hm94, Hm95, Hm96, Hm99.
-/
import Derived.Test.YtbgmnmnoaamgkaaGreatDoorD09
import Derived.Test.YtbgmnmnoaamgkaaGreatDoorD10
import Derived.Test.YtbgmnmnoaamgkaaGreatDoorD11
import Derived.ChangeVars
import Derived.Stop.Joined
set_option linter.unusedSimpArgs false
set_option linter.unusedVariables false
set_option maxRecDepth 100000
set_option maxHeartbeats 4000000

section
namespace Go.Hm
open Go Go.RowKit
section
variable {X:Ctx} {st:St} {K:St→Prop} {E:AV→St→Prop} {dst:Option Nat} {f f':FuncId} {args:Array Operand} {Ts:Array TypeId} {ty:TypeId} {pos:String} {aft:Array Edge} {g:Option (Nat×Bool)} {P:Program} {gl:Nat→Option (List AV)} {az:List AV} {R:Nm→AV→(Nm→Option AO)→Prop}
theorem qx (_hF:qV P gl f' az R) (_hf:f=f') (h:qK X ⟨dst,.call ⟨.value (.func f),args,Ts⟩,ty,pos,aft,g⟩ K E st):qK X ⟨dst,.call ⟨.value (.func f),args,Ts⟩,ty,pos,aft,g⟩ K E st:=h
end
def AV.isHs:AV→Bool
 | .hs _ _ _ _=>true
 | _=>false
@[simp] theorem isHs_hs {n:Nm} {z lo len:Nat}:(AV.hs n z lo len).isHs=true:=rfl
@[simp] theorem isHs_sc {v:Value}:(AV.sc v).isHs=false:=rfl
section
variable {X:Ctx} {st st':St} {K:St→Prop} {E:AV→St→Prop} {d:Nat} {ty:TypeId} {pos:String} {aft:Array Edge} {g:Option (Nat×Bool)}
theorem kF {T F:TypeId} {s x:Operand} {z len:Nat} {n:Nm} {rows0 rows2:List (List AV)} (hd:d<X.n:=by first|(simp;done)|fail) (hT:uw X.P T=some F:=by simp [fx];first|done|rfl) (hz:tsz X.P F=z:=by simp [fx];first|done|rfl) (hs:ev st s=.hs n z 0 len:=by simp [fx];first|done|rfl|exact⟨rfl,rfl⟩|exact⟨rfl,rfl,rfl⟩)
  (hn:st.hp n=some (.row z rows0):=by simp [fx];first|done|rfl) (hle:len≤rows0.length:=by first|(simp [fx];done)|(simp [fx];omega)|omega)
  (hx:yD st z (ev st x)=some rows2:=by simp [fx];first|done|rfl) (hm:(rows2.any fun r=>r.any AV.isHs)=true:=by first|(simp;done)|fail) (hlen:len+rows2.length≤4294967296:=by first|(simp [fx];done)|(simp [fx];omega)|omega)
  (hq:Hm.canon (qNy (.s d) len rows2) ((qDQ d z (len+rows2.length) (some n) (rows0.take len++rows2) st).mvc n (.s d))=st':=by simp [fx];first|done|rfl|exact (Bool.not_not _).symm) (h:K st') :
  qK X ⟨some d,.call ⟨.builtin .append,#[s,x],#[T,T]⟩,ty,pos,aft,g⟩ K E st:=qGO hd hT hz hs hn hle hx hlen hq h
end
section
variable {X:Ctx} {st:St} {K:St→Prop} {E:AV→St→Prop} {d:Nat} {ty:TypeId} {pos:String} {aft:Array Edge} {g:Option (Nat×Bool)} {f:Nat} {args:Array Operand} {Ts:Array TypeId} {az avs:List AV}
theorem zQ {x:AV} (hd:d<X.n:=by first|(simp;done)|fail) (ha:args.toList.map (ev st)=avs:=by simp [fx];first|done|rfl|exact (Bool.not_not _).symm)
  (hB:BwL st.hp noD avs az:=by
    first
    | ((repeat' (first|exact .nil|refine .cons ?_ ?_|exact .refl _|exact yw (by simp [fx];first|done|rfl) (by first|(simp [fx];done)|(simp [fx];omega)|omega)|exact ur (by simp [fx];first|done|rfl) (by first|(simp [fx];done)|(simp [fx];omega)|omega) (by first|(simp;done)|fail)|exact qFJ (by simp [fx];first|done|rfl) (by first|(simp [fx];done)|(simp [fx];omega)|omega)|exact qFI (by simp [fx];first|done|rfl) (by first|(simp [fx];done)|(simp [fx];omega)|omega)|exact qAc ⟨(by first|(simp [hc1];done)|fail),fun j k hj hk=>(by first|(simp [hc2 j k hj hk];done)|fail)⟩ hh rfl|exact qOs ⟨(by first|(simp [hc1];done)|fail),fun j k hj hk=>(by first|(simp [hc2 j k hj hk];done)|fail)⟩ hh hk|exact ut (uq ⟨(by first|(simp [a1];done)|fail),fun j r hj=>(by first|(simp [a2 j r hj];done)|fail),fun j r hj=>(by first|(simp [a3 j r hj];done)|fail)⟩ rfl)|exact ut (uq ⟨(by first|(simp [b1];done)|fail),fun j r hj=>(by first|(simp [b2 j r hj];done)|fail),fun j r hj=>(by first|(simp [b3 j r hj];done)|fail)⟩ rfl)|exact ut (uq ⟨(by first|(simp [ho1];done)|fail),fun j r hj=>(by first|(simp [ho2 j r hj];done)|fail),fun j r hj=>(by first|(simp [ho3 j r hj];done)|fail)⟩ rfl)|exact wC ⟨(by first|(simp [o1];done)|fail),(by first|(simp [o2];done)|fail),(by first|(simp [o3];done)|fail),(by first|(simp [o4];done)|fail),(by first|(simp [o5];done)|fail)⟩|exact wC ⟨(by first|(simp [q1];done)|fail),(by first|(simp [q2];done)|fail),(by first|(simp [q3];done)|fail),(by first|(simp [q4];done)|fail),(by first|(simp [q5];done)|fail)⟩|exact yl ⟨(by first|(simp [kt];done)|fail),fun i c hc=>⟨(by first|(simp [(ke i c hc).params];done)|fail),(by first|(simp [(ke i c hc).fasts];done)|fail),(by first|(simp [(ke i c hc).cells];done)|fail),(by first|(simp [(ke i c hc).frees];done)|fail),(by first|(simp [(ke i c hc).ops];done)|fail)⟩⟩ rfl|exact yl ⟨(by first|(simp [mt];done)|fail),fun i c hc=>⟨(by first|(simp [(me i c hc).params];done)|fail),(by first|(simp [(me i c hc).fasts];done)|fail),(by first|(simp [(me i c hc).cells];done)|fail),(by first|(simp [(me i c hc).frees];done)|fail),(by first|(simp [(me i c hc).ops];done)|fail)⟩⟩ rfl|exact yl ⟨(by first|(simp [nt];done)|fail),fun i c hc=>⟨(by first|(simp [(ne i c hc).params];done)|fail),(by first|(simp [(ne i c hc).fasts];done)|fail),(by first|(simp [(ne i c hc).cells];done)|fail),(by first|(simp [(ne i c hc).frees];done)|fail),(by first|(simp [(ne i c hc).ops];done)|fail)⟩⟩ rfl));done)
    | fail)
  (hF:qV X.P X.gl f az (fun _ y _=>y=x)) (hc:x.cln=true:=by first|(simp [fx];done)|fail) (h:K ((st.kill (.s d)).put (some d) x)) :
  qK X ⟨some d,.call ⟨.value (.func f),args,Ts⟩,ty,pos,aft,g⟩ K E st:=qPW hd ha hB hF hc h
theorem zS {z n:Nat} {rows:List (List AV)} (hd:d<X.n:=by first|(simp;done)|fail) (ha:args.toList.map (ev st)=avs:=by simp [fx];first|done|rfl|exact (Bool.not_not _).symm)
  (hB:BwL st.hp noD avs az:=by
    first
    | ((repeat' (first|exact .nil|refine .cons ?_ ?_|exact .refl _|exact yw (by simp [fx];first|done|rfl) (by first|(simp [fx];done)|(simp [fx];omega)|omega)|exact ur (by simp [fx];first|done|rfl) (by first|(simp [fx];done)|(simp [fx];omega)|omega) (by first|(simp;done)|fail)|exact qFJ (by simp [fx];first|done|rfl) (by first|(simp [fx];done)|(simp [fx];omega)|omega)|exact qFI (by simp [fx];first|done|rfl) (by first|(simp [fx];done)|(simp [fx];omega)|omega)|exact qAc ⟨(by first|(simp [hc1];done)|fail),fun j k hj hk=>(by first|(simp [hc2 j k hj hk];done)|fail)⟩ hh rfl|exact qOs ⟨(by first|(simp [hc1];done)|fail),fun j k hj hk=>(by first|(simp [hc2 j k hj hk];done)|fail)⟩ hh hk|exact ut (uq ⟨(by first|(simp [a1];done)|fail),fun j r hj=>(by first|(simp [a2 j r hj];done)|fail),fun j r hj=>(by first|(simp [a3 j r hj];done)|fail)⟩ rfl)|exact ut (uq ⟨(by first|(simp [b1];done)|fail),fun j r hj=>(by first|(simp [b2 j r hj];done)|fail),fun j r hj=>(by first|(simp [b3 j r hj];done)|fail)⟩ rfl)|exact ut (uq ⟨(by first|(simp [ho1];done)|fail),fun j r hj=>(by first|(simp [ho2 j r hj];done)|fail),fun j r hj=>(by first|(simp [ho3 j r hj];done)|fail)⟩ rfl)|exact wC ⟨(by first|(simp [o1];done)|fail),(by first|(simp [o2];done)|fail),(by first|(simp [o3];done)|fail),(by first|(simp [o4];done)|fail),(by first|(simp [o5];done)|fail)⟩|exact wC ⟨(by first|(simp [q1];done)|fail),(by first|(simp [q2];done)|fail),(by first|(simp [q3];done)|fail),(by first|(simp [q4];done)|fail),(by first|(simp [q5];done)|fail)⟩|exact yl ⟨(by first|(simp [kt];done)|fail),fun i c hc=>⟨(by first|(simp [(ke i c hc).params];done)|fail),(by first|(simp [(ke i c hc).fasts];done)|fail),(by first|(simp [(ke i c hc).cells];done)|fail),(by first|(simp [(ke i c hc).frees];done)|fail),(by first|(simp [(ke i c hc).ops];done)|fail)⟩⟩ rfl|exact yl ⟨(by first|(simp [mt];done)|fail),fun i c hc=>⟨(by first|(simp [(me i c hc).params];done)|fail),(by first|(simp [(me i c hc).fasts];done)|fail),(by first|(simp [(me i c hc).cells];done)|fail),(by first|(simp [(me i c hc).frees];done)|fail),(by first|(simp [(me i c hc).ops];done)|fail)⟩⟩ rfl|exact yl ⟨(by first|(simp [nt];done)|fail),fun i c hc=>⟨(by first|(simp [(ne i c hc).params];done)|fail),(by first|(simp [(ne i c hc).fasts];done)|fail),(by first|(simp [(ne i c hc).cells];done)|fail),(by first|(simp [(ne i c hc).frees];done)|fail),(by first|(simp [(ne i c hc).ops];done)|fail)⟩⟩ rfl));done)
    | fail)
  (hF:qV X.P X.gl f az (fun r y H'=>y=.hs r z 0 n∧H' r=some (.row z rows))) (hc:rows.all (fun r=>r.all AV.cln)=true:=by first|(simp;done)|fail)
  (h:K (((st.kill (.s d)).setO (.s d) (.row z rows)).put (some d) (.hs (.s d) z 0 n))):qK X ⟨some d,.call ⟨.value (.func f),args,Ts⟩,ty,pos,aft,g⟩ K E st:=qLG hd ha hB hF hc h
theorem yz {R:Nm→AV→(Nm→Option AO)→Prop} (hd:d<X.n:=by first|(simp;done)|fail) (ha:args.toList.map (ev st)=avs:=by simp [fx];first|done|rfl|exact (Bool.not_not _).symm)
  (hB:BwL st.hp noD avs az:=by
    first
    | ((repeat' (first|exact .nil|refine .cons ?_ ?_|exact .refl _|exact yw (by simp [fx];first|done|rfl) (by first|(simp [fx];done)|(simp [fx];omega)|omega)|exact ur (by simp [fx];first|done|rfl) (by first|(simp [fx];done)|(simp [fx];omega)|omega) (by first|(simp;done)|fail)|exact qFJ (by simp [fx];first|done|rfl) (by first|(simp [fx];done)|(simp [fx];omega)|omega)|exact qFI (by simp [fx];first|done|rfl) (by first|(simp [fx];done)|(simp [fx];omega)|omega)|exact qAc ⟨(by first|(simp [hc1];done)|fail),fun j k hj hk=>(by first|(simp [hc2 j k hj hk];done)|fail)⟩ hh rfl|exact qOs ⟨(by first|(simp [hc1];done)|fail),fun j k hj hk=>(by first|(simp [hc2 j k hj hk];done)|fail)⟩ hh hk|exact ut (uq ⟨(by first|(simp [a1];done)|fail),fun j r hj=>(by first|(simp [a2 j r hj];done)|fail),fun j r hj=>(by first|(simp [a3 j r hj];done)|fail)⟩ rfl)|exact ut (uq ⟨(by first|(simp [b1];done)|fail),fun j r hj=>(by first|(simp [b2 j r hj];done)|fail),fun j r hj=>(by first|(simp [b3 j r hj];done)|fail)⟩ rfl)|exact ut (uq ⟨(by first|(simp [ho1];done)|fail),fun j r hj=>(by first|(simp [ho2 j r hj];done)|fail),fun j r hj=>(by first|(simp [ho3 j r hj];done)|fail)⟩ rfl)|exact wC ⟨(by first|(simp [o1];done)|fail),(by first|(simp [o2];done)|fail),(by first|(simp [o3];done)|fail),(by first|(simp [o4];done)|fail),(by first|(simp [o5];done)|fail)⟩|exact wC ⟨(by first|(simp [q1];done)|fail),(by first|(simp [q2];done)|fail),(by first|(simp [q3];done)|fail),(by first|(simp [q4];done)|fail),(by first|(simp [q5];done)|fail)⟩|exact yl ⟨(by first|(simp [kt];done)|fail),fun i c hc=>⟨(by first|(simp [(ke i c hc).params];done)|fail),(by first|(simp [(ke i c hc).fasts];done)|fail),(by first|(simp [(ke i c hc).cells];done)|fail),(by first|(simp [(ke i c hc).frees];done)|fail),(by first|(simp [(ke i c hc).ops];done)|fail)⟩⟩ rfl|exact yl ⟨(by first|(simp [mt];done)|fail),fun i c hc=>⟨(by first|(simp [(me i c hc).params];done)|fail),(by first|(simp [(me i c hc).fasts];done)|fail),(by first|(simp [(me i c hc).cells];done)|fail),(by first|(simp [(me i c hc).frees];done)|fail),(by first|(simp [(me i c hc).ops];done)|fail)⟩⟩ rfl|exact yl ⟨(by first|(simp [nt];done)|fail),fun i c hc=>⟨(by first|(simp [(ne i c hc).params];done)|fail),(by first|(simp [(ne i c hc).fasts];done)|fail),(by first|(simp [(ne i c hc).cells];done)|fail),(by first|(simp [(ne i c hc).frees];done)|fail),(by first|(simp [(ne i c hc).ops];done)|fail)⟩⟩ rfl));done)
    | fail)
  (hF:qV X.P X.gl f az R) (h:∀ y H',R (.s d) y H'→y.cln=true∧K (((st.kill (.s d)).addH d (hcln H')).put (some d) y)) :
  qK X ⟨some d,.call ⟨.value (.func f),args,Ts⟩,ty,pos,aft,g⟩ K E st:=qRT hd ha hB hF h
end
structure KTag (p:Prop):Prop where
 h:p
theorem qB {G G':Prop} (k:G') (h:KTag G'→G:=by
 intro kk
 repeat' (first
  | refine qf ?_|refine qS ?_|refine q7 ?_|refine qAl ?_|refine qj fun K hK=>?_
  | ((with_reducible refine qc hK ?_);clear hK K)|(with_reducible refine qc hK ?_)
  | (with_reducible first|refine qD ?_|refine qb ?_|refine qu ?_|refine zr ?_|refine qP ?_|refine zK ?_|refine qCL ?_|refine zP (by decide) ?_)
  | refine jS ?_
  | refine qw ?_
  | (with_reducible refine qO ?_)
  | ((with_reducible refine vR ?_);refine q6 (h:=?_))
  | (with_reducible first|refine jV ?_|refine y7 ?_|refine uz (h:=?_)|refine qAC (h:=?_)|refine x_u (h:=?_)|refine qG (h:=?_)|refine zp (h:=?_)|refine zk (h:=?_)|refine qp (h:=?_)|refine jA (h:=?_)|refine kF (h:=?_)|refine jP (h:=?_)|refine jn (h:=?_)|refine qBy (h:=?_)|refine jp (h:=?_))
  | ((with_reducible refine qx c1 rfl ?_);refine zQ (hF:=c1) (h:=?_))
  | ((with_reducible refine qx c2 rfl ?_);refine zQ (hF:=c2) (h:=?_))
  | ((with_reducible refine qx c3 rfl ?_);refine zQ (hF:=c3) (h:=?_))
  | ((with_reducible refine qx c4 rfl ?_);refine zQ (hF:=c4) (h:=?_))
  | ((with_reducible refine qx c5 rfl ?_);refine zQ (hF:=c5) (h:=?_))
  | ((with_reducible refine qx c6 rfl ?_);refine zQ (hF:=c6) (h:=?_))
  | ((with_reducible refine qx d1 rfl ?_);refine zS (hF:=d1) (h:=?_))
  | ((with_reducible refine qx d2 rfl ?_);refine zS (hF:=d2) (h:=?_))
  | ((with_reducible refine qx d3 rfl ?_);refine zS (hF:=d3) (h:=?_))
  | ((with_reducible refine qx d4 rfl ?_);refine zS (hF:=d4) (h:=?_))
  | ((with_reducible refine qx e1 rfl ?_);refine yz (hF:=e1) (h:=?_))
  | ((with_reducible refine qx e2 rfl ?_);refine yz (hF:=e2) (h:=?_))
  | (with_reducible refine x_q (h:=?_))
  | (with_reducible refine kB (fun ht=>?_) (fun ht=>?_))
  | refine qR (h1:=?_)|refine qg (h1:=?_)
  | ((with_reducible refine wL hK ?_);clear hK K)|(with_reducible refine wL hK ?_)
  | ((with_reducible refine qDo ?_);first|refine qKR (h:=?_)|refine qDv (h:=?_)|refine qDw (h:=?_)|refine qDu (h:=?_))
  | ((with_reducible refine qDo ?_);refine qDx (h1:=fun ht=>?_) (h2:=fun ht=>?_))
  | refine a_l rfl ?_|refine qPE ?_ ?_|refine qPD ?_ ?_ ?_|(with_reducible refine aI ?_ ?_)|exact kJ|refine qBw (h2:=?_)
  | fail)
 first|exact kk.h|(revert hK;revert K;exact kk.h)):G:=h ⟨k⟩
theorem qC {G G':Prop} (k:G') (h:KTag G'→G:=by
 intro kk K hK
 repeat' (first
  | refine qf ?_|refine qS ?_|refine q7 ?_|refine qAl ?_|refine qj fun K hK=>?_
  | ((with_reducible refine qc hK ?_);clear hK K)|(with_reducible refine qc hK ?_)
  | (with_reducible first|refine qD ?_|refine qb ?_|refine qu ?_|refine zr ?_|refine qP ?_|refine zK ?_|refine qCL ?_|refine zP (by decide) ?_)
  | refine jS ?_
  | refine qw ?_
  | (with_reducible refine qO ?_)
  | ((with_reducible refine vR ?_);refine q6 (h:=?_))
  | (with_reducible first|refine jV ?_|refine y7 ?_|refine uz (h:=?_)|refine qAC (h:=?_)|refine x_u (h:=?_)|refine qG (h:=?_)|refine zp (h:=?_)|refine zk (h:=?_)|refine qp (h:=?_)|refine jA (h:=?_)|refine kF (h:=?_)|refine jP (h:=?_)|refine jn (h:=?_)|refine qBy (h:=?_)|refine jp (h:=?_))
  | ((with_reducible refine qx c1 rfl ?_);refine zQ (hF:=c1) (h:=?_))
  | ((with_reducible refine qx c2 rfl ?_);refine zQ (hF:=c2) (h:=?_))
  | ((with_reducible refine qx c3 rfl ?_);refine zQ (hF:=c3) (h:=?_))
  | ((with_reducible refine qx c4 rfl ?_);refine zQ (hF:=c4) (h:=?_))
  | ((with_reducible refine qx c5 rfl ?_);refine zQ (hF:=c5) (h:=?_))
  | ((with_reducible refine qx c6 rfl ?_);refine zQ (hF:=c6) (h:=?_))
  | ((with_reducible refine qx d1 rfl ?_);refine zS (hF:=d1) (h:=?_))
  | ((with_reducible refine qx d2 rfl ?_);refine zS (hF:=d2) (h:=?_))
  | ((with_reducible refine qx d3 rfl ?_);refine zS (hF:=d3) (h:=?_))
  | ((with_reducible refine qx d4 rfl ?_);refine zS (hF:=d4) (h:=?_))
  | ((with_reducible refine qx e1 rfl ?_);refine yz (hF:=e1) (h:=?_))
  | ((with_reducible refine qx e2 rfl ?_);refine yz (hF:=e2) (h:=?_))
  | (with_reducible refine x_q (h:=?_))
  | (with_reducible refine kB (fun ht=>?_) (fun ht=>?_))
  | refine qR (h1:=?_)|refine qg (h1:=?_)
  | ((with_reducible refine wL hK ?_);clear hK K)|(with_reducible refine wL hK ?_)
  | ((with_reducible refine qDo ?_);first|refine qKR (h:=?_)|refine qDv (h:=?_)|refine qDw (h:=?_)|refine qDu (h:=?_))
  | ((with_reducible refine qDo ?_);refine qDx (h1:=fun ht=>?_) (h2:=fun ht=>?_))
  | refine a_l rfl ?_|refine qPE ?_ ?_|refine qPD ?_ ?_ ?_|(with_reducible refine aI ?_ ?_)|exact kJ|refine qBw (h2:=?_)
  | fail)
 first|exact kk.h|(revert hK;revert K;exact kk.h)):G:=h ⟨k⟩
theorem qP0 {X:Ctx} {c:Code} {Q:Ex→St→Prop} {G:Prop} (I:St→Prop) (k:∀ st,I st→qW X c Q st) (h:KTag (∀ st,I st→qW X c Q st)→G:=by
 intro kk K hK
 repeat' (first
  | refine qf ?_|refine qS ?_|refine q7 ?_|refine qAl ?_|refine qj fun K hK=>?_
  | ((with_reducible refine qc hK ?_);clear hK K)|(with_reducible refine qc hK ?_)
  | (with_reducible first|refine qD ?_|refine qb ?_|refine qu ?_|refine zr ?_|refine qP ?_|refine zK ?_|refine qCL ?_|refine zP (by decide) ?_)
  | refine jS ?_
  | refine qw ?_
  | (with_reducible refine qO ?_)
  | ((with_reducible refine vR ?_);refine q6 (h:=?_))
  | (with_reducible first|refine jV ?_|refine y7 ?_|refine uz (h:=?_)|refine qAC (h:=?_)|refine x_u (h:=?_)|refine qG (h:=?_)|refine zp (h:=?_)|refine zk (h:=?_)|refine qp (h:=?_)|refine jA (h:=?_)|refine kF (h:=?_)|refine jP (h:=?_)|refine jn (h:=?_)|refine qBy (h:=?_)|refine jp (h:=?_))
  | ((with_reducible refine qx c1 rfl ?_);refine zQ (hF:=c1) (h:=?_))
  | ((with_reducible refine qx c2 rfl ?_);refine zQ (hF:=c2) (h:=?_))
  | ((with_reducible refine qx c3 rfl ?_);refine zQ (hF:=c3) (h:=?_))
  | ((with_reducible refine qx c4 rfl ?_);refine zQ (hF:=c4) (h:=?_))
  | ((with_reducible refine qx c5 rfl ?_);refine zQ (hF:=c5) (h:=?_))
  | ((with_reducible refine qx c6 rfl ?_);refine zQ (hF:=c6) (h:=?_))
  | ((with_reducible refine qx d1 rfl ?_);refine zS (hF:=d1) (h:=?_))
  | ((with_reducible refine qx d2 rfl ?_);refine zS (hF:=d2) (h:=?_))
  | ((with_reducible refine qx d3 rfl ?_);refine zS (hF:=d3) (h:=?_))
  | ((with_reducible refine qx d4 rfl ?_);refine zS (hF:=d4) (h:=?_))
  | ((with_reducible refine qx e1 rfl ?_);refine yz (hF:=e1) (h:=?_))
  | ((with_reducible refine qx e2 rfl ?_);refine yz (hF:=e2) (h:=?_))
  | (with_reducible refine x_q (h:=?_))
  | (with_reducible refine kB (fun ht=>?_) (fun ht=>?_))
  | refine qR (h1:=?_)|refine qg (h1:=?_)
  | ((with_reducible refine wL hK ?_);clear hK K)|(with_reducible refine wL hK ?_)
  | ((with_reducible refine qDo ?_);first|refine qKR (h:=?_)|refine qDv (h:=?_)|refine qDw (h:=?_)|refine qDu (h:=?_))
  | ((with_reducible refine qDo ?_);refine qDx (h1:=fun ht=>?_) (h2:=fun ht=>?_))
  | refine a_l rfl ?_|refine qPE ?_ ?_|refine qPD ?_ ?_ ?_|(with_reducible refine aI ?_ ?_)|exact kJ|refine qBw (h2:=?_)
  | fail)
 all_goals exact kk.h _ (by simp [fx])):G:=h ⟨k⟩
end Go.Hm
end
section
namespace Go.Hm
open Go Go.RowKit Go.ChangeShapes Go.WideShapes Go.Deep
def glT:List (Nat×List Int)→Nat→Option (List AV)
 | [],_=>none
 | (g,l)::r,i=>if i=g then some (l.map iv) else glT r i
theorem qH8 {W:World}:∀ {ts:List (Nat×List Int)},(∀ t∈ts,0<t.2.length∧∀ i k,t.2[i]?=some k→W.cell? ⟨t.1,i,none⟩=some (.int .i64 k)) →
  ∀ i row,glT ts i=some row→(RV (g0 W) W (.pointer (some ⟨i,0,none⟩)) (.el row 0)∧Exw W i row)∧∀ f:Nm→Option Nm,row.map (AV.tr f)=row
 | [],_,i,row,hr=>by simp [glT] at hr
 | (g,l)::r,h,i,row,hr=>by
  simp only [glT] at hr
  split at hr
  ·rename_i e
   subst e
   obtain⟨h1,h2⟩:=h (i,l) (by simp)
   exact qR7 (g:=i) h1 h2 i row (by simpa [glI] using hr)
  ·exact qH8 (ts:=r) (fun t ht=>h t (by simp [ht])) i row hr
end Go.Hm
end
section
namespace Go.Hm
open Go Go.RowKit
abbrev Val:=Int×Int
abbrev Slt:=Option Val
structure Act where
 blk:Nat
 up:Nat
 vars:List Slt
structure Wld where
 acts:List Act
 stack:List Nat
 globals:List Slt
 funs:List (Nat×Nat)
 classes:List (List Slt)
 out:List Int
 trace:List (Nat×Nat)
 en:Int
 left:Nat
abbrev qe:List Slt:=List.replicate 8 none
def shown (v:Val):Int:=if v.1=1 then v.2 else if v.1=2 then -2 else if v.1=3 then -3 else -1
def Wld.blk (w:Wld) (at':Nat):Nat:=match w.acts[at']? with|some a=>a.blk|none=>0
def qRj (acts:List Act) (o:Nat):Nat→Nat→Nat
 | 0,a=>a
 | n+1,a=>match acts[a]? with|some c=>if c.blk=o then a else qRj acts o n c.up|none=>a
def Wld.loc (p:Prg) (w:Wld) (at':Nat) (x:Int):Option Nat:=if qz p (w.blk at') x<0 then none else some (qRj w.acts (qz p (w.blk at') x).toNat at' at')
def qXl (ps:List Int) (vs:List Val):List Slt:=(ps.zip vs).foldl (fun l q=>l.set q.1.toNat (some q.2)) qe
def beginW (p:Prg) (w:Wld) (b up:Nat) (vs:List Val):Wld :=
 { w with acts:=w.acts++[⟨b,up,qXl (match p[b]? with|some k=>k.params|none=>[]) vs⟩],stack:=w.stack++[w.acts.length] }
def qIZ (p:Prg) (b:Nat):Nat:=match p[b]? with|some k=>k.params.length|none=>0
def qCE (fuel:Nat):Wld:=⟨[⟨0,0,qe⟩],[0],qe,[],[],[],[],0,fuel⟩
structure VOk (nf nc:Nat) (v:Val):Prop where
 num:0≤v.2∧v.2≤1000
 fn:v.1=2→v.2<nf
 cls:v.1=3→v.2<nc
theorem VOk.zero {nf nc:Nat}:VOk nf nc (0,0):=⟨by simp,by simp,by simp⟩
theorem VOk.mono {nf nc nf' nc':Nat} {v:Val} (h:VOk nf nc v) (h1:nf≤nf') (h2:nc≤nc'):VOk nf' nc' v :=
 ⟨h.num,fun e=>by have:=h.fn e;omega,fun e=>by have:=h.cls e;omega⟩
def SOk (nf nc:Nat) (l:List Slt):Prop:=l.length=8∧∀ v,some v∈l→VOk nf nc v
theorem SOk.mono {nf nc nf' nc':Nat} {l:List Slt} (h:SOk nf nc l) (h1:nf≤nf') (h2:nc≤nc'):SOk nf' nc' l:=⟨h.1,fun v hv=>(h.2 v hv).mono h1 h2⟩
theorem SOk.none {nf nc:Nat}:SOk nf nc qe:=⟨by simp,fun v hv=>by simp at hv⟩
theorem SOk.set {nf nc:Nat} {l:List Slt} (h:SOk nf nc l) {i:Nat} {s:Slt} (hs:∀ v,s=some v→VOk nf nc v):SOk nf nc (l.set i s):=by
 refine⟨by simp [h.1],fun v hv=>?_⟩
 rcases List.mem_or_eq_of_mem_set hv with e|e
 ·exact h.2 v e
 ·exact hs v e.symm
theorem zo.made {p:Prg} {b:Nat} {k:Blk} {s:Stm} (h:zo p b k s=true) (hk:s.kind=3∨s.kind=4):∃ q,p[s.a.toNat]?=some q∧q.parent=b∧0<s.a∧q.kind=s.kind - 2:=by
 have key:∀ d,vF p b s.a d=true→∃ q,p[s.a.toNat]?=some q∧q.parent=b∧0<s.a∧q.kind=d:=by
  intro d hm
  simp only [vF,Bool.and_eq_true,decide_eq_true_eq] at hm
  obtain⟨⟨h1,h2⟩,h3⟩:=hm
  split at h3
  ·rename_i q hq
   simp only [Bool.and_eq_true,beq_iff_eq] at h3
   exact⟨q,hq,h3.2,by omega,h3.1⟩
  ·cases h3
 rcases hk with e|e
 ·simp only [zo,e] at h
  simp at h
  obtain⟨q,h1,h2,h3,h4⟩:=key 1 h.2.2
  exact⟨q,h1,h2,h3,by rw [h4,e];rfl⟩
 ·simp only [zo,e] at h
  simp at h
  obtain⟨q,h1,h2,h3,h4⟩:=key 2 h.2.2
  exact⟨q,h1,h2,h3,by rw [h4,e];rfl⟩
theorem zo.num {p:Prg} {b:Nat} {k:Blk} {s:Stm} (h:zo p b k s=true) (hk:s.kind=0):0≤s.a∧s.a≤99:=by
 simp only [zo,hk] at h
 simp at h
 omega
theorem qRa {nf nc:Nat} {vs:List Val} (h:∀ v∈vs,VOk nf nc v) (i:Nat):VOk nf nc (vs.getD i (0,0)):=by
 rw [List.getD_eq_getElem?_getD]
 cases hi:vs[i]? with
 | none=>exact .zero
 | some v=>exact h v (gM hi)
end Go.Hm
end
section
namespace Go.Hm
open Go Go.RowKit
def zx (s:Slt):List AV:=match s with|some v=>[bv true,iv v.1,iv v.2]|none=>[bv false,iv 0,iv 0]
@[simp] theorem uT {s:Slt}:(zx s).length=3:=by cases s <;> rfl
@[simp] theorem qNk {s:Slt} {f:Nm→Option Nm}:(zx s).map (AV.tr f)=zx s:=by cases s <;> rfl
@[simp] theorem uS:zx none=[bv false,iv 0,iv 0]:=rfl
@[simp] theorem uR {v:Val}:zx (some v)=[bv true,iv v.1,iv v.2]:=rfl
def qN (l:List Slt):List (List AV):=l.map zx
section
variable {l:List Slt} {i:Nat} {f:Nm→Option Nm} {s:Slt}
@[simp] theorem slrows_len:(qN l).length=l.length:=by simp [qN]
@[simp] theorem qJM:(qN l)[i]?=(l[i]?).map zx:=by simp [qN]
@[simp] theorem slrows_getE {h:i<(qN l).length}:(qN l)[i]=zx (l[i]'(by simpa using h)):=by simp [qN]
@[simp] theorem slrows_tr:(qN l).map (fun r=>r.map (AV.tr f))=qN l:=by simp [qN]
@[simp] theorem slrows_take {n:Nat}:(qN l).take n=qN (l.take n):=by simp [qN]
@[simp] theorem slrows_nil:qN []=[]:=rfl
theorem qJL:∀ r∈qN l,r.length=3:=by
 intro r hr
 simp only [qN,List.mem_map] at hr
 obtain⟨s,_,rfl⟩:=hr
 exact uT
@[simp] theorem slrows_cln:(qN l).all (fun r=>r.all AV.cln)=true:=by
 rw [List.all_eq_true]
 intro r hr
 simp only [qN,List.mem_map] at hr
 obtain⟨s,_,rfl⟩:=hr
 cases s <;> rfl
theorem qDY:qa (qN l) i 0 (zx s)=qN (l.set i s):=by
 apply List.ext_getElem?
 intro j
 simp only [qa,List.getElem?_modify,qJM,List.getElem?_set]
 by_cases e:i=j
 ·subst e
  cases h:l[i]? with
  | none =>
   have:¬ i<l.length:=fun hl=>by rw [gE hl] at h;cases h
   simp [this]
  | some y =>
   have:i<l.length:=(gS h).1
   simp [this]
 ·simp [e]
end
@[simp] theorem slrows_setS {l:List Slt} {i:Nat} {a b:Int}:qa (qN l) i 0 [bv true,iv a,iv b]=qN (l.set i (some (a,b))):=qDY (s:=some (a,b))
@[simp] theorem slrows_setN {l:List Slt} {i:Nat}:qa (qN l) i 0 [bv false,iv 0,iv 0]=qN (l.set i none):=qDY (s:=none)
def qt (l:List Val):List (List AV):=l.map fun v=>[iv v.1,iv v.2]
section
variable {l m:List Val} {i:Nat} {f:Nm→Option Nm} {v:Val}
@[simp] theorem vrows_len:(qt l).length=l.length:=by simp [qt]
@[simp] theorem vrows_getE {h:i<(qt l).length}:(qt l)[i]=[iv (l[i]'(by simpa using h)).1,iv (l[i]'(by simpa using h)).2]:=by simp [qt]
@[simp] theorem vrows_tr:(qt l).map (fun r=>r.map (AV.tr f))=qt l:=by simp [qt]
@[simp] theorem vrows_take {n:Nat}:(qt l).take n=qt (l.take n):=by simp [qt]
@[simp] theorem vrows_nil:qt []=[]:=rfl
end
def jq (l:List (Nat×Nat)):List (List AV):=l.map fun v=>[iv v.1,iv v.2]
section
variable {l m:List (Nat×Nat)} {i:Nat} {f:Nm→Option Nm}
@[simp] theorem nrows_len:(jq l).length=l.length:=by simp [jq]
@[simp] theorem nrows_getE {h:i<(jq l).length}:(jq l)[i]=[iv (l[i]'(by simpa using h)).1,iv (l[i]'(by simpa using h)).2]:=by simp [jq]
@[simp] theorem nrows_tr:(jq l).map (fun r=>r.map (AV.tr f))=jq l:=by simp [jq]
@[simp] theorem nrows_take {n:Nat}:(jq l).take n=jq (l.take n):=by simp [jq]
@[simp] theorem nrows_cln:(jq l).all (fun r=>r.all AV.cln)=true:=by simp [jq]
@[simp] theorem nrows_nil:jq []=[]:=rfl
theorem qD9 {a b:Nat}:jq l++[[iv a,iv b]]=jq (l++[(a,b)]):=by simp [jq]
end
def zg (l:List Nat):List Int:=l.map fun (n:Nat)=>(n:Int)
@[simp] theorem nints_len {l:List Nat}:(zg l).length=l.length:=by simp [zg]
abbrev qYS:=List (Int×Val)
abbrev Val.av (v:Val):AV:=.agg [iv v.1,iv v.2]
def qXU (ms:qYS):List (AV×AV):=ms.map fun q=>(iv q.1,Val.av q.2)
section
variable {ms:qYS} {n m:Int} {v:Val} {f:Nm→Option Nm}
@[simp] theorem mrows_nil:qXU []=[]:=rfl
end
abbrev En (i:Nat):Nm:=.u 7 i 0
abbrev ptE (i:Nat):AV:=.pt (En i) 0
def zA (l:List Nat):List (List AV):=l.map fun i=>[ptE i]
end Go.Hm
end
section
namespace Go.Hm
open Go Go.RowKit
def Du (f:Nat→Bool):Nm→Bool
 | .s _=>false
 | .u k _ _=>f k
 | .c n _ _=>Du f n
section
variable {f:Nat→Bool} {n:Nm} {k i j d:Nat}
@[simp] theorem Du_s:Du f (.s d)=false:=rfl
@[simp] theorem Du_u:Du f (.u k i j)=f k:=rfl
@[simp] theorem Du_c:Du f (.c n i j)=Du f n:=rfl
theorem qRt:∀ {n:Nm},Du f n=true→n.sroot=false:=by
 intro n
 induction n with
 | s d=>intro h;cases h
 | u a b c=>intro _;rfl
 | c q i j ih=>intro h;exact ih h
end
end Go.Hm
end
section
set_option linter.unusedSectionVars false
namespace Go.Hm
open Go Go.RowKit
structure Pre (q:Bool) (w w':Wld):Prop where
 funs:w.funs <+: w'.funs
 cls:w.classes <+: w'.classes
 out:w.out <+: w'.out
 tr:w.trace <+: w'.trace
 left:q=true→w'.left≤w.left
section
variable {p:Prg} {R:Wld→Nat→Wld×Val} {w:Wld} {a b i:Nat} {x:Int} {vs:List Val} {s:Stm} {v:Val} {q:Bool}
variable (hR:∀ w a,Pre q w (R w a).1)
include hR
end
def qYJ (k:Nat) (w:Wld):Wld:={ w with left:=w.left+k }
structure Lock2 (k:Nat) (w w':Wld):Prop where
 en:w.en=1
 left:w.left=0
 pre:Pre false w w'
 more:0<k→w.trace.length<w'.trace.length
def qYj (k:Nat) (r r':Wld×Val):Prop:=(r.1.en≠1∧r'=(qYJ k r.1,r.2))∨Lock2 k r.1 r'.1
section
variable {p:Prg} {R:Wld→Nat→Wld×Val} {k n:Nat} {w:Wld} {a b i:Nat} {x:Int} {l:Option Nat} {vs:List Val} {s:Stm} {v:Val}
variable (hP:∀ w a,Pre true w (R w a).1) (hR:∀ w a,w.left+k<n→w.en=0→qYj k (R w a) (R (qYJ k w) a))
include hP hR
end
end Go.Hm
end
section
namespace Go.Hm
open Go Go.RowKit
def qJI (p:Prg) (t:Nat×Nat):Option Stm:=match p[t.1]? with|some k=>k.body[t.2]?|none=>none
def qNg (p:Prg) (t:Nat×Nat):Int:=match qJI p t with|some s=>s.kind|none=>-1
section
variable {p:Prg} {R:Wld→Nat→Wld×Val} {n:Nat} {w:Wld} {a b i:Nat} {x:Int} {vs:List Val} {s:Stm} {v:Val} {k:Blk}
def one (b:Prop) [Decidable b]:Nat:=if b then 1 else 0
end
section
variable {X:Ctx} {st:St} {K:St→Prop} {E:AV→St→Prop} {d f:Nat} {ty:TypeId} {pos:String} {aft:Array Edge} {g:Option (Nat×Bool)} {args:Array Operand} {Ts:Array TypeId} {az:List AV} {R:Nm→AV→(Nm→Option AO)→Prop}
theorem jo (h1:(st.hp (.u 1 0 0)).isSome=true) (h2:(st.hp (.u 2 0 0)).isSome=true) (hd:d<X.n:=by first|(simp;done)|fail) (ha:args.toList.map (ev st)=az:=by simp [fx];first|done|rfl)
  (hF:FnE X.P X.gl f D12 az (jl D12 st.hp) R noE) (h:∀ y H',R (.s d) y H'→K ((st.call d D12 (jl D12 st.hp) H').put (some d) y)) :
  qK X ⟨some d,.call ⟨.value (.func f),args,Ts⟩,ty,pos,aft,g⟩ K E st:=by
 refine qDV (az:=az) D12 (fun n h=>zM h) (fun k i j he=>?_) hd ha hF h
 by_cases hu:Nm.u k i j=.u 1 0 0
 ·right
  rw [hu]
  simp
  exact Option.isSome_iff_ne_none.1 h1
 ·by_cases hu2:Nm.u k i j=.u 2 0 0
  ·right
   rw [hu2]
   simp
   exact Option.isSome_iff_ne_none.1 h2
  ·left
   simp at hu hu2
   simp only [qB7,Nm.under,Bool.or_eq_false_iff,decide_eq_false_iff_not]
   refine⟨fun e=>?_,fun e=>?_⟩
   ·injection e with e1 e2 e3
    exact hu e1 e2 e3
   ·injection e with e1 e2 e3
    exact hu2 e1 e2 e3
end
structure ValP (p:Prg):Prop where
 sh:ShapeP p
 pm:∀ (b:Nat) k,p[b]?=some k→∀ x∈k.params,qz p b x=b
theorem ValP.of {p:Prg} (hs:Sml p) (h:jY p=true):ValP p:=by
 simp only [jY,Bool.and_eq_true] at h
 have hp:=ShapeP.of hs h.1
 refine⟨hp,fun b k hk x hx=>?_⟩
 have hkm:=gM hk
 have hxr:=(hp.names k hkm).params x hx
 have hb0:0<b:=by
  cases b with
  | zero =>
   have:=hp.head 0 k hk
   simp only [jJ,if_true] at this
   rw [List.eq_nil_of_length_eq_zero this.2.2] at hx
   cases hx
  | succ b=>omega
 have hd:=List.all_eq_true.1 h.2 b (List.mem_range.2 (gS hk).1)
 have hbn:(b==0)=false:=by simp;omega
 rw [hbn,Bool.false_or] at hd
 simp only [jt,hk] at hd
 have hdx:=List.all_eq_true.1 hd x.toNat (List.mem_range.2 (by omega))
 rw [show ((x.toNat:Nat):Int)=x from by omega] at hdx
 have h9:x∉k.dc 9:=fun e=>by simp [yk,e,hx] at hdx
 have h10:x∉k.dc 10:=fun e=>by simp [yk,e,hx] at hdx
 have hbd:x∈k.bd:=by
  simp only [mem_sorted,Blk.bd,uv,List.mem_append]
  exact⟨.inl hx,hxr⟩
 exact qD8 hk (by simp [zZ,hb0,hbd,h9,h10]) h9
end Go.Hm
end
section
namespace Go.Hm
open Go Go.RowKit
def jC (p:Prg) (f:Int):Bool:=jY p&&(decide (0≤f)&&decide (f≤150))
structure Rsl where
 out:List Int
 en:Int
 left:Int
 gl:List Int
def Rsl.own (n:Nm) (r:Rsl):List AV:=[.hs (.c n 0 0) 1 0 r.out.length,iv r.en,iv r.left,.hs (.c n 0 3) 1 0 r.gl.length]
@[simp] theorem Rsl.own_eq {n:Nm} {r:Rsl}:r.own n=[.hs (.c n 0 0) 1 0 r.out.length,iv r.en,iv r.left,.hs (.c n 0 3) 1 0 r.gl.length]:=rfl
theorem vH {p:Prg} {f:Int} (h:jC p f=true):jY p=true∧∃ n:Nat,f=n∧n≤150:=by
 simp only [jC,Bool.and_eq_true,decide_eq_true_eq] at h
 exact⟨h.1,f.toNat,by omega,by omega⟩
@[simp] theorem qUI {P:Program} {T:TypeId} {hp:Nm→Option AO} {n:Nm} {z q len:Nat} {lo hi:Option Int}:qCH P T hp (.hs n z q len) lo hi=match tel P T with
  | some e=>if z=tsz P e∧0≤lo.getD 0∧lo.getD 0≤hi.getD len∧(hi.getD len≤len∨q+(hi.getD len).toNat≤kO hp n z) then some (.hs n z (q+(lo.getD 0).toNat) ((hi.getD len).toNat - (lo.getD 0).toNat)) else none
  | none=>none:=rfl
def fM (k:Nat):Bool:=k==1||k==7||k==8
def DM:Nm→Bool:=Du fM
def DM2 (n:Nm):Bool:=DM n||Nm.under (.u 2 0 0) n
section
variable {n:Nm} {k i j d:Nat}
@[simp] theorem DM_s:DM (.s d)=false:=rfl
@[simp] theorem DM_u:DM (.u k i j)=fM k:=rfl
@[simp] theorem DM_c:DM (.c n i j)=DM n:=rfl
@[simp] theorem fM_1:fM 1=true:=rfl
@[simp] theorem fM_2:fM 2=false:=rfl
@[simp] theorem fM_7:fM 7=true:=rfl
@[simp] theorem fM_8:fM 8=true:=rfl
@[simp] theorem DM2_eq:DM2 n=(DM n||Nm.under (.u 2 0 0) n):=rfl
theorem qH {n:Nm} (h:DM n=true):n.sroot=false:=qRt h
end
section
variable {l m:List Nat} {i:Nat} {f:Nm→Option Nm}
@[simp] theorem erows_len:(zA l).length=l.length:=by simp [zA]
@[simp] theorem qGd:(zA l)[i]?=(l[i]?).map fun i=>[ptE i]:=by simp [zA]
theorem qLw:zA l++zA m=zA (l++m):=by simp [zA]
@[simp] theorem erows_take {n:Nat}:(zA l).take n=zA (l.take n):=by simp [zA]
@[simp] theorem vn (h:∀ i,f (En i)=some (En i)):(zA l).map (fun r=>r.map (AV.tr f))=zA l:=by
 simp only [zA,List.map_map]
 apply List.map_congr_left
 intro j _
 simp [ptE,h j]
end
theorem qBp {l:List Nat} {f:Nm→Option Nm} (h:∀ i∈l,f (En i)=some (En i)):(zA l).map (fun r=>r.map (AV.tr f))=zA l:=by
 simp only [zA,List.map_map]
 apply List.map_congr_left
 intro j hj
 simp [ptE,h j hj]
def qUy (i:Nat) (a:Act):List AV:=[iv a.blk,.mp (.c (En i) 0 1),if i=0 then qFT else ptE a.up]
@[simp] theorem envRow_len {i:Nat} {a:Act}:(qUy i a).length=3:=rfl
section
variable {X:Ctx} {st:St} {K:St→Prop} {E:AV→St→Prop} {d f:Nat} {ty:TypeId} {pos:String} {aft:Array Edge} {g:Option (Nat×Bool)} {args:Array Operand} {Ts:Array TypeId} {az:List AV} {R:Nm→AV→(Nm→Option AO)→Prop}
theorem qHw (hext:∀ k i j,X.ext (.u k i j)=true→DM (.u k i j)=false∨(jl DM st.hp) (.u k i j)≠none) (hd:d<X.n:=by first|(simp;done)|fail) (ha:args.toList.map (ev st)=az:=by simp [fx];first|done|rfl)
  (hF:FnE X.P X.gl f DM az (jl DM st.hp) R noE) (h:∀ y H',R (.s d) y H'→K ((st.call d DM (jl DM st.hp) H').put (some d) y)) :
  qK X ⟨some d,.call ⟨.value (.func f),args,Ts⟩,ty,pos,aft,g⟩ K E st:=qDV DM (fun _=>qH) hext hd ha hF h
end
end Go.Hm
end
section

end
section

end
section

end
section
namespace Go.Hm
open Go
structure ProgFacts (P:Program):Prop where
 laid:laidOutB P=true
 maps:mapsRowed P=true
 stops:(P.stops==[])=true
 knobs:(P.stopKnobs==[])=true
 keys:P.plainKeys=true
 heard:P.stopsHeard=true
 may:P.mayEnter=true
 lifts:P.liftsFinal=false
 make:(P.make==some .cut)=true
theorem qGY {P:Program} {f:FuncId} {fn:Func} {s:ChangeSpec} {c:OpenClaim} (hp:ProgFacts P)
  (h1:c.wf (OpenSpec.ofChange s)=true) (h2:fn.params.all (P.readableRec ·)=true) (h3:namedTie P c.named s.vars=true) (h4:(c.stops==[])=true) (h5:(c.knobs==[])=true)
  (h6:(c.inPlace==P.inPlace f)=true) (h7:(c.unfollowed==P.unfollowed f)=true) (h8:(c.recurses==P.recurses f)=true) (h9:(c.named==P.varsNamed f)=true)
  (h10:(c.maps==(fn.params.toList++s.plain.varTypes P).any (P.mapsRec ·))=true) (h11:(c.ifaces==(fn.params.toList++s.plain.varTypes P).any (P.ifacesRec ·))=true) (h12:(c.mapsOut==P.mapsAmong fn.resultTypes.toList)=true)
  (h13:(c.loops==(fn.params.toList++s.plain.varTypes P).any (P.loopsFrom ·))=true) (h14:(c.wideKeys==(fn.params.toList++s.plain.varTypes P++fn.resultTypes.toList).any (P.wideKeysFrom ·))=true)
  (h15:s.vars.all (P.varReadable ·)=true) (h16:fn.resultTypes.all (fun t=>P.readableRec t&&decide (t<P.types.size))=true) (h17:(c.ifacesOut==fn.resultTypes.toList.any (P.ifacesRec ·))=true) (h18:(c.loopsOut==fn.resultTypes.toList.any (P.loopsFrom ·))=true)
  (h19:c.plainKeys=true) (h20:c.shortTexts.isNone=true) (h21:c.lifted=false) (h22:c.make=.cut)
  (h23:(c.kinds==(if c.domain.isEmpty then [] else fn.params.toList.map fun t=>match P.underlying t with|some (.int k)=>some k|_=>none))=true) (h24:(c.pinned==c.pinnedBy)=true)
  (h25:(c.veiled==(fn.params.toList++s.plain.varTypes P++fn.resultTypes.toList).any (P.veiledRec ·))=true) (h26:c.veiledFits P fn.params.toList (fn.params.toList++s.plain.varTypes P++fn.resultTypes.toList)=true):joinedFacts P f fn s c=true:=by
 have e1:(c.plainKeys==P.plainKeys)=true:=by rw [h19,hp.keys];rfl
 have e2:(c.lifted==P.liftsFinal)=true:=by rw [h21,hp.lifts];rfl
 have e3:(P.make==some c.make)=true:=by rw [h22];exact hp.make
 unfold joinedFacts
 simp only [hp.laid,hp.maps,hp.stops,hp.knobs,hp.heard,hp.may,h1,h2,h3,h4,h5,h6,h7,h8,h9,h10,h11,h12,h13,h14,h15,h16,h17,h18,h20,h24,h25,h26,e1,e2,e3,Bool.and_true,Bool.true_and]
 exact h23
end Go.Hm
end
section
namespace Go.Hm
open Go Go.RowKit
section
variable {p:Prg} {f g n:Nat}
structure More (k:Nat) (w w':Wld):Prop where
 funs:w.funs.length≤w'.funs.length
 cls:w.classes.length≤w'.classes.length
 out:w.out <+: w'.out
 tr:w.trace <+: w'.trace
 same:w.en≠1→w'=qYJ k w
 none:w.en=1→w.left=0
end
end Go.Hm
end
section
set_option linter.unusedSectionVars false
namespace Go.Hm
open Go Go.RowKit
def stl (t:List (Nat×Nat)) (k:Nat) (w:Wld):Wld:={ w with trace:=t,left:=k }
section
variable {p:Prg} {k m:Nat} {t:List (Nat×Nat)} {w:Wld} {a b i:Nat} {x:Int} {l:Option Nat} {vs:List Val} {s:Stm} {v:Val}
@[simp] theorem stl_stl {t':List (Nat×Nat)} {k':Nat}:stl t k (stl t' k' w)=stl t k w:=rfl
@[simp] theorem stl_loc:(stl t k w).loc p a x=w.loc p a x:=rfl
@[simp] theorem stl_blk:(stl t k w).blk a=w.blk a:=rfl
@[simp] theorem stl_en:(stl t k w).en=w.en:=rfl
@[simp] theorem stl_left:(stl t k w).left=k:=rfl
@[simp] theorem stl_out:(stl t k w).out=w.out:=rfl
end
def Sim (m:Nat) (r r':Wld×Val):Prop:=(r.1.en≠1∧∃ t,r'=(stl t m r.1,r.2))∨(r.1.en=1∧(m=0→r'.1.out=r.1.out∧r'.1.left=0))
section
variable {p:Prg} {R:Wld→Nat→Wld×Val} {R2:Nat→Wld→Nat→Wld×Val} {n:Nat} {w:Wld} {a b i:Nat} {x:Int} {vs:List Val} {s:Stm} {v:Val}
variable (hR:∀ w a,w.left<n→w.en=0→∃ g,g+(R w a).1.left≤w.left∧∀ N t m,g+m<N→Sim m (R w a) (R2 N (stl t (g+m) w) a))
include hR
end
end Go.Hm
end
section

end
section

end
section

end
section
namespace Go.Hm
open Go Go.RowKit
section
variable {X:Ctx} {st:St} {K:St→Prop} {E:AV→St→Prop}
def qRh (D:Nm→Bool) (hp:Nm→Option AO):Nm→Option AO:=fun m=>if D m then none else hp m
def St.forget (D:Nm→Bool) (st:St):St:={ tm:=st.tm,hp:=qRh D st.hp,n:=st.n,gl:=st.gl }
@[simp] theorem forget_tm {D:Nm→Bool} {t:Nat}:(st.forget D).tm t=st.tm t:=rfl
@[simp] theorem qG8 {D:Nm→Bool} {m:Nm}:(st.forget D).hp m=if D m then none else st.hp m:=rfl
theorem qLy {D:Nm→Bool}:∀ m o,qRh D st.hp m=some o→st.hp m=some o:=by
 intro m o h
 unfold qRh at h
 split at h
 ·cases h
 ·exact h
theorem qMl {c:Code} {Q:Ex→St→Prop} (D:Nm→Bool) (h:qW X c Q (st.forget D)):qW X c Q st:=fun a w hR=>h a w (hR.weaken _ qLy)
end
section
variable {P:Program} {own:Nat→Prop} {C:Nat→Prop} {w0:World} {g:Gh} {st:St} {a:Go.Act} {w:World}
theorem qLS {o:Oper} {x y:Operand} {ts:Array TypeId} {i j:Int} (h:Rg P own C w0 g st a w) (ho:o.op=.call { callee:=.builtin .max,args:=#[x,y],argTypes:=ts }) (hdn:∀ t,o.dst=some t→t<st.n)
  (hx:ev st x=iv i) (hy:ev st y=iv j):qJC P o a w fun a' w'=>Rel P own C w0 g (st.put o.dst (iv (if j > i then j else i))) a' w':=by
 have hxv:=h.ev x
 rw [hx] at hxv
 have hxv:=hxv.sc_eq
 have hyv:=h.ev y
 rw [hy] at hyv
 have hyv:=hyv.sc_eq
 refine .inl ⟨.int .i64 (if j > i then j else i),w,?_,g,.refl g,h.put hdn (.sc _)⟩
 simp only [execOp,ho,resolve,invoke,builtin,Sem.run_bind,Sem.run_pure,Result.andThen_ok,List.map_toArray,List.map_cons,List.map_nil,hxv,hyv,Builtin.max_,List.foldlM,Builtin.max2]
end
section
variable {X:Ctx} {st:St} {K:St→Prop} {E:AV→St→Prop} {d:Nat} {ty:TypeId} {pos:String} {aft:Array Edge} {g:Option (Nat×Bool)}
theorem qPq {x y:Operand} {ts:Array TypeId} {i j:Int} (m:Int) (hm:m=max i j) (hd:d<X.n:=by first|(simp;done)|fail) (hx:ev st x=iv i:=by simp [fx];first|done|rfl) (hy:ev st y=iv j:=by simp [fx];first|done|rfl)
  (h:K (st.put (some d) (iv m))):qK X ⟨some d,.call ⟨.builtin .max,#[x,y],ts⟩,ty,pos,aft,g⟩ K E st:=by
 have e:(if j > i then j else i)=m:=by rw [hm];split <;> omega
 refine .of_rel (st':=st.put (some d) (iv m)) (fun _ _ _ _ e' h'=>?_) ⟨qJc _ _ _,qD6 _ _ _⟩ h
 rw [← e]
 exact qLS (o:=⟨some d,.call ⟨.builtin .max,#[x,y],ts⟩,ty,pos,aft,g⟩) h' rfl (fun t et=>by obtain rfl:=sI et;rw [e'];exact hd) hx hy
end
def qUt (p:Prg) (b i:Nat):List Int:=((List.range i).filter fun j=>qUu p b j).map fun j:Nat=>(j:Int)
section
variable {p:Prg} {b i:Nat} {k:Blk}
@[simp] theorem idleTo_zero:qUt p b 0=[]:=rfl
end
end Go.Hm
end
section

end
section

end
section
namespace Go.Hm
open Go Go.RowKit
def grows (g:Int→Slt) (l:List Int):List (AV×AV):=l.map fun x=>(iv x,.agg (zx (g x)))
structure Frm where
 blk:Nat
 pc:Nat
 fasts:List Slt
 cells:List Nat
 names:List Slt
 stack:List Val
structure Mch where
 cells:List Slt
 globals:List Slt
 funs:List (Nat×List Nat)
 classes:List (List Slt)
 frames:List Frm
 made:Nat
 deep:Nat
 out:List Int
 trace:List (Nat×Nat)
 en:Int
 left:Nat
def vt (p:Prg) (b:Nat):Nat:=match p[b]? with|some k=>k.parent.toNat|none=>0
def zE (p:Prg) (b:Nat):List Int:=(qU p b).map (vS p (vt p b))
theorem u6 {p:Prg} {b:Nat}:(zE p b).length≤8:=by simp [zE,jW]
section
variable (p:Prg) (m:Mch) (fs:List Frm) (f:Frm) (o:Int×Int)
def Mch.top:Mch:={ m with frames:=fs++[f] }
def Mch.stop (e:Int):Mch:={ m.top fs f with en:=e }
def Frm.push (v:Val):Frm:={ f with stack:=f.stack++[v] }
def Frm.pop:Frm:={ f with stack:=f.stack.dropLast }
def Frm.tos:Val:=f.stack.getLastD (0,0)
def yn (l:List Slt) (i:Nat):Slt:=match l[i]? with|some s=>s|none=>none
def qA5:Slt :=
 if o.1≤4 then yn f.fasts o.2.toNat
 else if o.1≤7 then yn m.cells (f.cells.getD o.2.toNat 0)
 else if o.1≤10 then yn m.globals o.2.toNat else yn f.names o.2.toNat
def wE:Int:=if o.1≤4 then 2 else if o.1≤7 then (if o.2<(qE p f.blk).length then 2 else 3) else 4
def setS (s:Slt):Mch :=
 if o.1≤4 then m.top fs { f with fasts:=f.fasts.set o.2.toNat s }
 else if o.1≤7 then { m.top fs f with cells:=m.cells.set (f.cells.getD o.2.toNat 0) s }
 else if o.1≤10 then { m.top fs f with globals:=m.globals.set o.2.toNat s } else m.top fs { f with names:=f.names.set o.2.toNat s }
def jw:Mch:=match qA5 m f o with
 | some v=>m.top fs (f.push v)
 | none=>if wE p f o=4 then
   match yn m.globals o.2.toNat with
   | some v=>m.top fs (f.push v)
   | none=>if o.2=7 then m.top fs (f.push (1,70)) else m.stop fs f 4
  else m.stop fs f (wE p f o)
def qF9:Mch:=setS m fs f.pop o (some f.tos)
def qFA:Mch:=match qA5 m f o with
 | some _=>setS m fs f o none
 | none=>m.stop fs f (wE p f o)
def qk (b:Nat) (cs:List Nat) (vs:List Val):Mch :=
 let F:Frm:=⟨b,0,List.replicate (qI p b).length none,((List.range (qE p b).length).map (m.cells.length+·))++cs,qe,[]⟩
 let M:Mch:={ m with cells:=m.cells++List.replicate (qE p b).length none,made:=m.made+1,deep:=max m.deep (m.frames.length+1),frames:=m.frames++[F] }
 match (q8 p b).params,vs with
 | [x],[v]=>if x∈qI p b then { M with frames:=m.frames++[{ F with fasts:=F.fasts.set (qm (qI p b) x).toNat (some v) }] }
  else { M with cells:=M.cells.set (m.cells.length+(qm (qE p b) x).toNat) (some v) }
 | _,_=>M
def uo:Mch :=
 let n:=o.2.toNat
 let k:=f.stack.length - n - 1
 let F:Frm:={ f with stack:=f.stack.take k }
 let g:=f.stack.getD k (0,0)
 if g.1≠2 then m.stop fs F 5 else
 match m.funs[g.2.toNat]? with
 | some h=>if qIZ p h.1≠n then m.stop fs F 6 else qk p (m.top fs F) h.1 h.2 (f.stack.drop (k+1))
 | none=>m.stop fs F 5
def y8 (b:Nat):List Nat:=(zE p b).map fun k=>f.cells.getD k.toNat 0
def wK:Mch :=
 let v:=f.tos
 if v.1≠3 then m.stop fs f.pop 5 else
 match yn (m.classes.getD v.2.toNat []) o.2.toNat with
 | some u=>m.top fs (f.pop.push u)
 | none=>m.stop fs f.pop 7
def qIz:Mch :=
 let b:=f.tos
 let a:=f.pop.tos
 if a.1≠1∨b.1≠1 then m.stop fs f.pop.pop 5 else m.top fs (f.pop.pop.push (1,(a.2+b.2).tmod 1000))
def zD (v:Val):Mch:=match fs.getLast? with
 | some g=>{ m with frames:=fs.dropLast++[g.push v] }
 | none=>{ m with frames:=[] }
def qDk:Mch:=if qi p f.blk=2 then zD { m with classes:=m.classes++[f.names] } fs (3,m.classes.length) else zD m fs (0,0)
def vq:Mch:=if m.left=0 then m.stop fs f 1 else
 { m.top fs f with left:=m.left - 1,trace:=m.trace++[(f.blk,j7 ((jO p f.blk).take (f.pc - 1)))] }
def zI:Mch :=
 if o.1=1 then m.top fs (f.push (1,o.2))
 else if o.1=14 then qIz m fs f
 else if o.1=15 then { m.top fs (f.push (2,m.funs.length)) with funs:=m.funs++[(o.2.toNat,y8 p f o.2.toNat)] }
 else if o.1=16 then qk p (m.top fs f) o.2.toNat (y8 p f o.2.toNat) []
 else if o.1=17 then uo p m fs f o
 else if o.1=18 then wK m fs f o
 else if o.1=19 then { m.top fs f.pop with out:=m.out++[shown f.tos] }
 else zD m fs f.tos
def yq:Mch :=
 if o.1=0 then vq p m fs f
 else if 2≤o.1∧o.1≤13 then
  (if (o.1 - 2) % 3=0 then jw p m fs f o else if (o.1 - 2) % 3=1 then qF9 m fs f o else qFA p m fs f o)
 else zI p m fs f o
end
def yC (p:Prg) (m:Mch):Mch:=match m.frames.getLast? with
 | some f=>match (jO p f.blk)[f.pc]? with
  | some o=>yq p m m.frames.dropLast { f with pc:=f.pc+1 } o
  | none=>qDk p m m.frames.dropLast f
 | none=>m
def Mch.ended (m:Mch):Prop:=m.frames=[]∨m.en≠0
instance (m:Mch):Decidable m.ended:=decidable_of_iff (m.frames.length=0∨m.en≠0) (by simp [Mch.ended])
def zN (p:Prg):Nat→Mch→Mch
 | 0,m=>m
 | n+1,m=>if m.ended then m else zN p n (yC p m)
def qT (fuel:Nat):Mch:=⟨[],qe,[],[],[],0,0,[],[],0,fuel⟩
def qL (p:Prg) (fuel:Nat):Mch:=qk p (qT fuel) 0 [] []
end Go.Hm
end
