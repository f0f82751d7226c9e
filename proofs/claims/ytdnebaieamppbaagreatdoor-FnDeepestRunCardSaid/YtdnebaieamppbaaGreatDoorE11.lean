import Derived.Test.YtdnebaieamppbaaGreatDoorE10
import Derived.ChangeVars
set_option linter.unusedSimpArgs false
set_option linter.unusedVariables false
set_option maxRecDepth 100000
set_option maxHeartbeats 4000000

section
namespace Go.Hm
open Go Go.RowKit
section
variable {X:Ctx} {st:St} {K:St->Prop} {E:AV->St->Prop} {dst:Option Nat} {f f':FuncId} {args:Array Operand} {Ts:Array TypeId} {ty:TypeId} {pos:String} {aft:Array Edge} {g:Option (Nat×Bool)} {P:Program} {gl:Nat->Option (List AV)} {az:List AV} {R:Nm->AV->(Nm->Option AO)->Prop}
theorem zh (_hF:qb P gl f' az R) (_hf:f=f') (h:qS X ⟨dst,.call ⟨.value (.func f),args,Ts⟩,ty,pos,aft,g⟩ K E st):qS X ⟨dst,.call ⟨.value (.func f),args,Ts⟩,ty,pos,aft,g⟩ K E st:=h
end
def AV.qDu:AV->Bool
 | .hs _ _ _ _=>true
 | _=>false
@[simp] theorem isHs_hs {n:Nm} {z lo len:Nat}:(AV.hs n z lo len).qDu=true:=rfl
@[simp] theorem isHs_sc {v:Value}:(AV.sc v).qDu=false:=rfl
section
variable {X:Ctx} {st st':St} {K:St->Prop} {E:AV->St->Prop} {d:Nat} {ty:TypeId} {pos:String} {aft:Array Edge} {g:Option (Nat×Bool)}
theorem bD {T F:TypeId} {s x:Operand} {z len:Nat} {n:Nm} {rows0 rows2:List (List AV)} (hd:d<X.n:=by first|(simp;done)|fail) (hT:cG X.P T=some F:=by simp [fx];first|done|rfl) (hz:Zq X.P F=z:=by simp [fx];first|done|rfl) (hs:ev st s=.hs n z 0 len:=by simp [fx];first|done|rfl|exact⟨rfl,rfl⟩|exact⟨rfl,rfl,rfl⟩)
  (hn:st.hp n=some (.row z rows0):=by simp [fx];first|done|rfl) (hle:len<=rows0.length:=by first|(simp [fx];done)|(simp [fx];omega)|omega)
  (hx:uH st z (ev st x)=some rows2:=by simp [fx];first|done|rfl) (hm:(rows2.any λr=>r.any AV.qDu)=true:=by first|(simp;done)|fail) (hlen:len+rows2.length<=4294967296:=by first|(simp [fx];done)|(simp [fx];omega)|omega)
  (hq:Hm.canon (Pz (.s d) len rows2) ((xV d z (len+rows2.length) (some n) (rows0.take len++rows2) st).mvc n (.s d))=st':=by simp [fx];first|done|rfl|exact (ll _).symm) (h:K st') :
  qS X ⟨some d,.call ⟨.builtin .append,#[s,x],#[T,T]⟩,ty,pos,aft,g⟩ K E st:=Dd hd hT hz hs hn hle hx hlen hq h
end
section
variable {X:Ctx} {st:St} {K:St->Prop} {E:AV->St->Prop} {d:Nat} {ty:TypeId} {pos:String} {aft:Array Edge} {g:Option (Nat×Bool)} {f:Nat} {args:Array Operand} {Ts:Array TypeId} {az avs:List AV}
theorem zl {x:AV} (hd:d<X.n:=by first|(simp;done)|fail) (ha:args.toList.map (ev st)=avs:=by simp [fx];first|done|rfl|exact (ll _).symm)
  (hB:BwL st.hp noD avs az:=by
    first
    | ((repeat' (first|exact .nil|refine .cons ?_ ?_|exact .refl _|exact vF vt vw|exact km vt vw eL|exact CV vt vw|exact CU vt vw|exact dS ⟨oK,λj k hj hk=>oV⟩ hh rfl|exact OM ⟨oK,λj k hj hk=>oV⟩ hh hk|exact cX (cW ⟨Gz,λj r hj=>GW,λj r hj=>HG⟩ rfl)|exact cX (cW ⟨G5,λj r hj=>GL,λj r hj=>HA⟩ rfl)|exact cX (cW ⟨HE,λj r hj=>G1,λj r hj=>GV⟩ rfl)|exact iO ⟨Gq,Gu,GS,GU,Gv⟩|exact iO ⟨Gc,Ga,Gm,GH,Gy⟩|exact kn ⟨Gj,λi c hc=>⟨Gl,GO,Gt,GM,Gf⟩⟩ rfl|exact kn ⟨GP,λi c hc=>⟨Gb,HC,Gi,GK,GT⟩⟩ rfl|exact kn ⟨Gs,λi c hc=>⟨Gd,G4,Gg,G8,GJ⟩⟩ rfl));done)
    | fail)
  (hF:qb X.P X.gl f az (λ_ y _=>y=x)) (hc:x.cln=true:=by first|(simp [fx];done)|fail) (h:K ((st.kill (.s d)).put (some d) x)) :
  qS X ⟨some d,.call ⟨.value (.func f),args,Ts⟩,ty,pos,aft,g⟩ K E st:=Ro hd ha hB hF hc h
theorem jR {z n:Nat} {rows:List (List AV)} (hd:d<X.n:=by first|(simp;done)|fail) (ha:args.toList.map (ev st)=avs:=by simp [fx];first|done|rfl|exact (ll _).symm)
  (hB:BwL st.hp noD avs az:=by
    first
    | ((repeat' (first|exact .nil|refine .cons ?_ ?_|exact .refl _|exact vF vt vw|exact km vt vw eL|exact CV vt vw|exact CU vt vw|exact dS ⟨oK,λj k hj hk=>oV⟩ hh rfl|exact OM ⟨oK,λj k hj hk=>oV⟩ hh hk|exact cX (cW ⟨Gz,λj r hj=>GW,λj r hj=>HG⟩ rfl)|exact cX (cW ⟨G5,λj r hj=>GL,λj r hj=>HA⟩ rfl)|exact cX (cW ⟨HE,λj r hj=>G1,λj r hj=>GV⟩ rfl)|exact iO ⟨Gq,Gu,GS,GU,Gv⟩|exact iO ⟨Gc,Ga,Gm,GH,Gy⟩|exact kn ⟨Gj,λi c hc=>⟨Gl,GO,Gt,GM,Gf⟩⟩ rfl|exact kn ⟨GP,λi c hc=>⟨Gb,HC,Gi,GK,GT⟩⟩ rfl|exact kn ⟨Gs,λi c hc=>⟨Gd,G4,Gg,G8,GJ⟩⟩ rfl));done)
    | fail)
  (hF:qb X.P X.gl f az (λr y H'=>y=.hs r z 0 n/\H' r=some (.row z rows))) (hc:rows.all (λr=>r.all AV.cln)=true:=by first|(simp;done)|fail)
  (h:K (((st.kill (.s d)).Zp (.s d) (.row z rows)).put (some d) (.hs (.s d) z 0 n))):qS X ⟨some d,.call ⟨.value (.func f),args,Ts⟩,ty,pos,aft,g⟩ K E st:=M1 hd ha hB hF hc h
theorem we {R:Nm->AV->(Nm->Option AO)->Prop} (hd:d<X.n:=by first|(simp;done)|fail) (ha:args.toList.map (ev st)=avs:=by simp [fx];first|done|rfl|exact (ll _).symm)
  (hB:BwL st.hp noD avs az:=by
    first
    | ((repeat' (first|exact .nil|refine .cons ?_ ?_|exact .refl _|exact vF vt vw|exact km vt vw eL|exact CV vt vw|exact CU vt vw|exact dS ⟨oK,λj k hj hk=>oV⟩ hh rfl|exact OM ⟨oK,λj k hj hk=>oV⟩ hh hk|exact cX (cW ⟨Gz,λj r hj=>GW,λj r hj=>HG⟩ rfl)|exact cX (cW ⟨G5,λj r hj=>GL,λj r hj=>HA⟩ rfl)|exact cX (cW ⟨HE,λj r hj=>G1,λj r hj=>GV⟩ rfl)|exact iO ⟨Gq,Gu,GS,GU,Gv⟩|exact iO ⟨Gc,Ga,Gm,GH,Gy⟩|exact kn ⟨Gj,λi c hc=>⟨Gl,GO,Gt,GM,Gf⟩⟩ rfl|exact kn ⟨GP,λi c hc=>⟨Gb,HC,Gi,GK,GT⟩⟩ rfl|exact kn ⟨Gs,λi c hc=>⟨Gd,G4,Gg,G8,GJ⟩⟩ rfl));done)
    | fail)
  (hF:qb X.P X.gl f az R) (h:∀ y H',R (.s d) y H'->y.cln=true/\K (((st.kill (.s d)).qCg d (qAH H')).put (some d) y)) :
  qS X ⟨some d,.call ⟨.value (.func f),args,Ts⟩,ty,pos,aft,g⟩ K E st:=M2 hd ha hB hF h
end
structure Zx (p:Prop):Prop where
 h:p
theorem qG {G G':Prop} (k:G') (h:Zx G'->G:=by
 intro kk
 repeat' (first
  | refine vH ?_|refine jd ?_|refine yH ?_|refine fJ ?_|refine kL λK hK=>?_
  | ((with_reducible refine vA hK ?_);clear hK K)|(with_reducible refine vA hK ?_)
  | (with_reducible first|refine qV ?_|refine jS ?_|refine jQ ?_|refine vW ?_|refine j6 ?_|refine kH ?_|refine kz ?_|refine jx qO ?_)
  | refine kR ?_
  | refine aM ?_
  | (with_reducible refine jL ?_)
  | ((with_reducible refine NO ?_);refine bC (h:=?_))
  | (with_reducible first|refine sW ?_|refine BX ?_|refine Oy (h:=?_)|refine PC (h:=?_)|refine x_u (h:=?_)|refine zL (h:=?_)|refine lu (h:=?_)|refine u5 (h:=?_)|refine jA (h:=?_)|refine jW (h:=?_)|refine bD (h:=?_)|refine jw (h:=?_)|refine bB (h:=?_)|refine lr (h:=?_)|refine yV (h:=?_))
  | ((with_reducible refine zh c1 rfl ?_);refine zl (hF:=c1) (h:=?_))
  | ((with_reducible refine zh c2 rfl ?_);refine zl (hF:=c2) (h:=?_))
  | ((with_reducible refine zh c3 rfl ?_);refine zl (hF:=c3) (h:=?_))
  | ((with_reducible refine zh c4 rfl ?_);refine zl (hF:=c4) (h:=?_))
  | ((with_reducible refine zh c5 rfl ?_);refine zl (hF:=c5) (h:=?_))
  | ((with_reducible refine zh c6 rfl ?_);refine zl (hF:=c6) (h:=?_))
  | ((with_reducible refine zh d1 rfl ?_);refine jR (hF:=d1) (h:=?_))
  | ((with_reducible refine zh d2 rfl ?_);refine jR (hF:=d2) (h:=?_))
  | ((with_reducible refine zh d3 rfl ?_);refine jR (hF:=d3) (h:=?_))
  | ((with_reducible refine zh d4 rfl ?_);refine jR (hF:=d4) (h:=?_))
  | ((with_reducible refine zh e1 rfl ?_);refine we (hF:=e1) (h:=?_))
  | ((with_reducible refine zh e2 rfl ?_);refine we (hF:=e2) (h:=?_))
  | (with_reducible refine x_q (h:=?_))
  | (with_reducible refine dX (λht=>?_) (λht=>?_))
  | refine jr (h1:=?_)|refine yF (h1:=?_)
  | ((with_reducible refine u7 hK ?_);clear hK K)|(with_reducible refine u7 hK ?_)
  | ((with_reducible refine dZ ?_);first|refine nC (h:=?_)|refine pC (h:=?_)|refine pD (h:=?_)|refine pB (h:=?_))
  | ((with_reducible refine dZ ?_);refine pE (h1:=λht=>?_) (h2:=λht=>?_))
  | refine a_l rfl ?_|refine Kq ?_ ?_|refine Kp ?_ ?_ ?_|(with_reducible refine aI ?_ ?_)|exact vL|refine wj (h2:=?_)
  | fail)
 first|exact kk.h|(revert hK;revert K;exact kk.h)):G:=h ⟨k⟩
theorem qK {G G':Prop} (k:G') (h:Zx G'->G:=by
 intro kk
 first
  | refine vH ?_|refine jd ?_|refine yH ?_|refine fJ ?_|refine kL λK hK=>?_
  | ((with_reducible refine vA hK ?_);clear hK K)|(with_reducible refine vA hK ?_)
  | (with_reducible first|refine qV ?_|refine jS ?_|refine jQ ?_|refine vW ?_|refine j6 ?_|refine kH ?_|refine kz ?_|refine jx qO ?_)
  | refine kR ?_
  | refine aM ?_
  | (with_reducible refine jL ?_)
  | ((with_reducible refine NO ?_);refine bC (h:=?_))
  | (with_reducible first|refine sW ?_|refine BX ?_|refine Oy (h:=?_)|refine PC (h:=?_)|refine x_u (h:=?_)|refine zL (h:=?_)|refine lu (h:=?_)|refine u5 (h:=?_)|refine jA (h:=?_)|refine jW (h:=?_)|refine bD (h:=?_)|refine jw (h:=?_)|refine bB (h:=?_)|refine lr (h:=?_)|refine yV (h:=?_))
  | (with_reducible refine x_q (h:=?_))
  | refine jr (h1:=?_)|refine yF (h1:=?_)
 repeat' (first
  | refine vH ?_|refine jd ?_|refine yH ?_|refine fJ ?_|refine kL λK hK=>?_
  | ((with_reducible refine vA hK ?_);clear hK K)|(with_reducible refine vA hK ?_)
  | (with_reducible first|refine qV ?_|refine jS ?_|refine jQ ?_|refine vW ?_|refine j6 ?_|refine kH ?_|refine kz ?_|refine jx qO ?_)
  | refine kR ?_
  | refine aM ?_
  | (with_reducible refine jL ?_)
  | ((with_reducible refine NO ?_);refine bC (h:=?_))
  | (with_reducible first|refine sW ?_|refine BX ?_|refine Oy (h:=?_)|refine PC (h:=?_)|refine x_u (h:=?_)|refine zL (h:=?_)|refine lu (h:=?_)|refine u5 (h:=?_)|refine jA (h:=?_)|refine jW (h:=?_)|refine bD (h:=?_)|refine jw (h:=?_)|refine bB (h:=?_)|refine lr (h:=?_)|refine yV (h:=?_))
  | (with_reducible refine x_q (h:=?_))
  | refine jr (h1:=?_)|refine yF (h1:=?_))
 first|exact kk.h|(revert hK;revert K;exact kk.h)):G:=h ⟨k⟩
theorem qC {A G G':Prop} (k:G') (x:A) (h:A->Zx G'->G:=by
 intro fx kk;refine qG ?_;exact kk.h):G:=h x ⟨k⟩
theorem qZ {G G':Prop} (k:G') (h:Zx G'->G:=by
 intro kk K hK
 repeat' (first
  | refine vH ?_|refine jd ?_|refine yH ?_|refine fJ ?_|refine kL λK hK=>?_
  | ((with_reducible refine vA hK ?_);clear hK K)|(with_reducible refine vA hK ?_)
  | (with_reducible first|refine qV ?_|refine jS ?_|refine jQ ?_|refine vW ?_|refine j6 ?_|refine kH ?_|refine kz ?_|refine jx qO ?_)
  | refine kR ?_
  | refine aM ?_
  | (with_reducible refine jL ?_)
  | ((with_reducible refine NO ?_);refine bC (h:=?_))
  | (with_reducible first|refine sW ?_|refine BX ?_|refine Oy (h:=?_)|refine PC (h:=?_)|refine x_u (h:=?_)|refine zL (h:=?_)|refine lu (h:=?_)|refine u5 (h:=?_)|refine jA (h:=?_)|refine jW (h:=?_)|refine bD (h:=?_)|refine jw (h:=?_)|refine bB (h:=?_)|refine lr (h:=?_)|refine yV (h:=?_))
  | ((with_reducible refine zh c1 rfl ?_);refine zl (hF:=c1) (h:=?_))
  | ((with_reducible refine zh c2 rfl ?_);refine zl (hF:=c2) (h:=?_))
  | ((with_reducible refine zh c3 rfl ?_);refine zl (hF:=c3) (h:=?_))
  | ((with_reducible refine zh c4 rfl ?_);refine zl (hF:=c4) (h:=?_))
  | ((with_reducible refine zh c5 rfl ?_);refine zl (hF:=c5) (h:=?_))
  | ((with_reducible refine zh c6 rfl ?_);refine zl (hF:=c6) (h:=?_))
  | ((with_reducible refine zh d1 rfl ?_);refine jR (hF:=d1) (h:=?_))
  | ((with_reducible refine zh d2 rfl ?_);refine jR (hF:=d2) (h:=?_))
  | ((with_reducible refine zh d3 rfl ?_);refine jR (hF:=d3) (h:=?_))
  | ((with_reducible refine zh d4 rfl ?_);refine jR (hF:=d4) (h:=?_))
  | ((with_reducible refine zh e1 rfl ?_);refine we (hF:=e1) (h:=?_))
  | ((with_reducible refine zh e2 rfl ?_);refine we (hF:=e2) (h:=?_))
  | (with_reducible refine x_q (h:=?_))
  | (with_reducible refine dX (λht=>?_) (λht=>?_))
  | refine jr (h1:=?_)|refine yF (h1:=?_)
  | ((with_reducible refine u7 hK ?_);clear hK K)|(with_reducible refine u7 hK ?_)
  | ((with_reducible refine dZ ?_);first|refine nC (h:=?_)|refine pC (h:=?_)|refine pD (h:=?_)|refine pB (h:=?_))
  | ((with_reducible refine dZ ?_);refine pE (h1:=λht=>?_) (h2:=λht=>?_))
  | refine a_l rfl ?_|refine Kq ?_ ?_|refine Kp ?_ ?_ ?_|(with_reducible refine aI ?_ ?_)|exact vL|refine wj (h2:=?_)
  | fail)
 first|exact kk.h|(revert hK;revert K;exact kk.h)):G:=h ⟨k⟩
theorem Ru {X:Ctx} {c:Code} {Q:Ex->St->Prop} {G:Prop} (I:St->Prop) (k:∀ st,I st->qh X c Q st) (h:Zx (∀ st,I st->qh X c Q st)->G:=by
 intro kk K hK
 repeat' (first
  | refine vH ?_|refine jd ?_|refine yH ?_|refine fJ ?_|refine kL λK hK=>?_
  | ((with_reducible refine vA hK ?_);clear hK K)|(with_reducible refine vA hK ?_)
  | (with_reducible first|refine qV ?_|refine jS ?_|refine jQ ?_|refine vW ?_|refine j6 ?_|refine kH ?_|refine kz ?_|refine jx qO ?_)
  | refine kR ?_
  | refine aM ?_
  | (with_reducible refine jL ?_)
  | ((with_reducible refine NO ?_);refine bC (h:=?_))
  | (with_reducible first|refine sW ?_|refine BX ?_|refine Oy (h:=?_)|refine PC (h:=?_)|refine x_u (h:=?_)|refine zL (h:=?_)|refine lu (h:=?_)|refine u5 (h:=?_)|refine jA (h:=?_)|refine jW (h:=?_)|refine bD (h:=?_)|refine jw (h:=?_)|refine bB (h:=?_)|refine lr (h:=?_)|refine yV (h:=?_))
  | ((with_reducible refine zh c1 rfl ?_);refine zl (hF:=c1) (h:=?_))
  | ((with_reducible refine zh c2 rfl ?_);refine zl (hF:=c2) (h:=?_))
  | ((with_reducible refine zh c3 rfl ?_);refine zl (hF:=c3) (h:=?_))
  | ((with_reducible refine zh c4 rfl ?_);refine zl (hF:=c4) (h:=?_))
  | ((with_reducible refine zh c5 rfl ?_);refine zl (hF:=c5) (h:=?_))
  | ((with_reducible refine zh c6 rfl ?_);refine zl (hF:=c6) (h:=?_))
  | ((with_reducible refine zh d1 rfl ?_);refine jR (hF:=d1) (h:=?_))
  | ((with_reducible refine zh d2 rfl ?_);refine jR (hF:=d2) (h:=?_))
  | ((with_reducible refine zh d3 rfl ?_);refine jR (hF:=d3) (h:=?_))
  | ((with_reducible refine zh d4 rfl ?_);refine jR (hF:=d4) (h:=?_))
  | ((with_reducible refine zh e1 rfl ?_);refine we (hF:=e1) (h:=?_))
  | ((with_reducible refine zh e2 rfl ?_);refine we (hF:=e2) (h:=?_))
  | (with_reducible refine x_q (h:=?_))
  | (with_reducible refine dX (λht=>?_) (λht=>?_))
  | refine jr (h1:=?_)|refine yF (h1:=?_)
  | ((with_reducible refine u7 hK ?_);clear hK K)|(with_reducible refine u7 hK ?_)
  | ((with_reducible refine dZ ?_);first|refine nC (h:=?_)|refine pC (h:=?_)|refine pD (h:=?_)|refine pB (h:=?_))
  | ((with_reducible refine dZ ?_);refine pE (h1:=λht=>?_) (h2:=λht=>?_))
  | refine a_l rfl ?_|refine Kq ?_ ?_|refine Kp ?_ ?_ ?_|(with_reducible refine aI ?_ ?_)|exact vL|refine wj (h2:=?_)
  | fail)
 all_goals exact kk.h _ (by simp [fx])):G:=h ⟨k⟩
end Go.Hm
end
section
namespace Go.Hm
open Go Go.RowKit Go.ChangeShapes Go.WideShapes Go.Deep
def glT:List (Nat×List Int)->Nat->Option (List AV)
 | [],_=>none
 | (g,l)::r,i=>if i=g then some (l.map iv) else glT r i
theorem sY {W:World}:∀ {ts:List (Nat×List Int)},(∀ t∈ts,0<t.2.length/\∀ i k,t.2[i]?=some k->W.cell? ⟨t.1,i,none⟩=some (.int .i64 k)) ->
  ∀ i row,glT ts i=some row->(RV (g0 W) W (.pointer (some ⟨i,0,none⟩)) (.el row 0)/\Exw W i row)/\∀ f:Nm->Option Nm,row.map (AV.tr f)=row
 | [],_,i,row,hr=>by grind[glT]
 | (g,l)::r,h,i,row,hr=>by
  simp only [glT] at hr
  split at hr
  .rename_i e;subst e;obtain⟨h1,h2⟩:=h (i,l) qB;exact Tk (g:=i) h1 h2 i row qH
  .exact sY (ts:=r) (λt ht=>h t oI) i row hr
end Go.Hm
end
section
namespace Go.Hm
open Go Go.RowKit
abbrev Zd:=Int×Int
abbrev Zt:=Option Zd
structure Act where
 Z1:Nat
 up:Nat
 vars:List Zt
structure Z5 where
 ZX:List Act
 stack:List Nat
 globals:List Zt
 ZZ:List (Nat×Nat)
 ZV:List (List Zt)
 out:List Int
 trace:List (Nat×Nat)
 en:Int
 left:Nat
abbrev q9:List Zt:=List.replicate 8 none
def shown (v:Zd):Int:=if v.1=1 then v.2 else if v.1=2 then -2 else if v.1=3 then -3 else -1
def Z5.Z1 (w:Z5) (at':Nat):Nat:=match w.ZX[at']? with|some a=>a.Z1|none=>0
def uV (ZX:List Act) (o:Nat):Nat->Nat->Nat
 | 0,a=>a
 | n+1,a=>match ZX[a]? with|some c=>if c.Z1=o then a else uV ZX o n c.up|none=>a
def Z5.loc (p:Z0) (w:Z5) (at':Nat) (x:Int):Option Nat:=if q7 p (w.Z1 at') x<0 then none else some (uV w.ZX (q7 p (w.Z1 at') x).toNat at' at')
def Z5.vars (w:Z5):Option Nat->List Zt
 | none=>w.globals
 | some i=>match w.ZX[i]? with|some a=>a.vars|none=>[]
def Z5.get (w:Z5) (l:Option Nat) (x:Int):Zt:=match (w.vars l)[x.toNat]? with|some s=>s|none=>none
def Z5.set (w:Z5) (l:Option Nat) (x:Int) (s:Zt):Z5:=match l with
 | none=>{ w with globals:=w.globals.set x.toNat s }
 | some i=>{ w with ZX:=w.ZX.modify i λa=>{ a with vars:=a.vars.set x.toNat s } }
def qAG (p:Z0) (b:Nat) (o:Int):Int:=if o<0\/(o=b/\qg p b=2) then 4 else if o=b then 2 else 3
def zk (p:Z0) (w:Z5) (at':Nat) (x:Int):Z5×Zd :=
 match w.get (w.loc p at' x) x with
 | some v=>(w,v)
 | none =>
  if qAG p (w.Z1 at') (q7 p (w.Z1 at') x)=4 then
   match w.get none x with
   | some v=>(w,v)
   | none=>if x=7 then (w,(1,70)) else ({ w with en:=4 },(0,0))
  else ({ w with en:=qAG p (w.Z1 at') (q7 p (w.Z1 at') x) },(0,0))
def qY (p:Z0) (w:Z5) (at':Nat):List Int->Z5×List Zd
 | []=>(w,[])
 | x::l=>if w.en≠0 then (w,[]) else
  ((qY p (zk p w at' x).1 at' l).1,(zk p w at' x).2::(qY p (zk p w at' x).1 at' l).2)
def wm (p:Z0) (w:Z5) (at':Nat) (x:Int) (v:Zd):Z5:=w.set (w.loc p at' x) x (some v)
def bb (p:Z0) (w:Z5) (at':Nat) (x:Int):Z5:=match w.get (w.loc p at' x) x with
 | some _=>w.set (w.loc p at' x) x none
 | none=>{ w with en:=qAG p (w.Z1 at') (q7 p (w.Z1 at') x) }
def uw (w:Z5) (a b:Zd):Z5×Zd:=if a.1≠1\/b.1≠1 then ({ w with en:=5 },(0,0)) else (w,(1,(a.2+b.2).tmod 1000))
def kN (w:Z5) (v:Zd) (x:Int):Z5×Zd:=if v.1≠3 then ({ w with en:=5 },(0,0)) else
 match w.ZV[v.2.toNat]? with
 | some c=>match c[x.toNat]? with
  | some (some u)=>(w,u)
  | _=>({ w with en:=7 },(0,0))
 | none=>({ w with en:=7 },(0,0))
def wD (ps:List Int) (vs:List Zd):List Zt:=(ps.zip vs).foldl (λl q=>l.set q.1.toNat (some q.2)) q9
def qn (p:Z0) (w:Z5) (b up:Nat) (vs:List Zd):Z5 :=
 { w with ZX:=w.ZX++[⟨b,up,wD (match p[b]? with|some k=>k.params|none=>[]) vs⟩],stack:=w.stack++[w.ZX.length] }
def nh (w:Z5):Z5:=if w.en=0 then { w with stack:=w.stack.dropLast } else w
def cp (p:Z0) (b:Nat):Nat:=match p[b]? with|some k=>k.params.length|none=>0
section
variable (p:Z0) (R:Z5->Nat->Z5×Zd)
def qm (w:Z5) (b up:Nat) (vs:List Zd):Z5×Zd:=(nh (R (qn p w b up vs) w.ZX.length).1,(R (qn p w b up vs) w.ZX.length).2)
def u6 (w:Z5) (f:Zd) (vs:List Zd):Z5×Zd:=if f.1≠2 then ({ w with en:=5 },(0,0)) else
 match w.ZZ[f.2.toNat]? with
 | some g=>if cp p g.1≠vs.length then ({ w with en:=6 },(0,0)) else qm p R w g.1 g.2 vs
 | none=>(w,(0,0))
def kI (w:Z5) (b at':Nat):Z5×Zd :=
 if (qm p R w b at' []).1.en≠0 then ((qm p R w b at' []).1,(0,0)) else
 ({ (qm p R w b at' []).1 with ZV:=(qm p R w b at' []).1.ZV++[(qm p R w b at' []).1.vars (some w.ZX.length)] },(3,((qm p R w b at' []).1.ZV.length:Int)))
def ju (w:Z5) (at':Nat) (s:Z9) (vs:List Zd):Z5×Zd :=
 if s.kind=0 then (w,(1,s.a)) else if s.kind=2 then uw w (vs.getD 0 (0,0)) (vs.getD 1 (0,0))
 else if s.kind=3 then ({ w with ZZ:=w.ZZ++[(s.a.toNat,at')] },(2,(w.ZZ.length:Int)))
 else if s.kind=4 then kI p R w s.a.toNat at' else if s.kind=5 then u6 p R w (vs.getD 0 (0,0)) vs.tail
 else if s.kind=6 then kN w (vs.getD 0 (0,0)) s.b else (w,vs.getD 0 (0,0))
def zo (w:Z5) (at':Nat) (s:Z9):Z5×Zd :=
 if (qY p w at' s.reads).1.en≠0 then ((qY p w at' s.reads).1,(0,0)) else ju p R (qY p w at' s.reads).1 at' s (qY p w at' s.reads).2
def cd (w:Z5) (at':Nat) (s:Z9):Z5 :=
 if s.kind=9\/s.kind=10 then w else if s.kind=11 then bb p w at' s.to else
 if (zo p R w at' s).1.en≠0 then (zo p R w at' s).1
 else if s.kind=7 then { (zo p R w at' s).1 with out:=(zo p R w at' s).1.out++[shown (zo p R w at' s).2] }
 else wm p (zo p R w at' s).1 at' s.to (zo p R w at' s).2
def qq (w:Z5) (at' i:Nat):Z5:={ w with left:=w.left - 1,trace:=w.trace++[(w.Z1 at',i)] }
def vK (at':Nat):Z5->Nat->List Z9->Z5×Zd
 | w,_,[]=>(w,(0,0))
 | w,i,s::l =>
  if w.left=0 then ({ w with en:=1 },(0,0)) else
  if s.kind=8 then zk p (qq w at' i) at' s.a else
  if (cd p R (qq w at' i) at' s).en≠0 then (cd p R (qq w at' i) at' s,(0,0)) else vK at' (cd p R (qq w at' i) at' s) (i+1) l
end
def zY (p:Z0):Nat->Z5->Nat->Z5×Zd
 | 0,w,_=>(w,(0,0))
 | n+1,w,at'=>vK p (zY p n) at' w 0 (match p[w.Z1 at']? with|some k=>k.body|none=>[])
def zK (fuel:Nat):Z5:=⟨[⟨0,0,q9⟩],[0],q9,[],[],[],[],0,fuel⟩
def yI (p:Z0) (fuel:Nat):Z5:=(zY p 151 (zK fuel) 0).1
def yd (l:List Zt):List Int:=l.map λs=>match s with|some v=>shown v|none=>-9
end Go.Hm
end
