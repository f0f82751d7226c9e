import Derived.Test.YtjgpejikjhojcaaGreatDoorR09
import Derived.ChangeVars
set_option linter.unusedSimpArgs false
set_option linter.unusedVariables false
set_option maxRecDepth 100000
set_option maxHeartbeats 4000000

section
namespace Go.Hm
open Go Go.RowKit
section
variable {X:Ctx} {st:St} {K:St->Prop} {E:AV->St->Prop} {dst:Option Nat} {f f':FuncId} {args:Array Operand} {Ts:Array TypeId} {ty:TypeId} {pos:String} {aft:Array Edge} {g:Option (Nat×Bool)} {P:Program} {gl:Nat->Option (List AV)} {az:List AV} {R:Nm->AV->(Nm->Option AO)->Prop}
theorem zb (_hF:qM P gl f' az R) (_hf:f=f') (h:qn X ⟨dst,.call ⟨.value (.func f),args,Ts⟩,ty,pos,aft,g⟩ K E st):qn X ⟨dst,.call ⟨.value (.func f),args,Ts⟩,ty,pos,aft,g⟩ K E st:=h
end
def AV.Ew:AV->Bool
 | .hs _ _ _ _=>true
 | _=>false
@[simp] theorem isHs_hs {n:Nm} {z lo len:Nat}:(AV.hs n z lo len).Ew=true:=rfl
@[simp] theorem isHs_sc {v:Value}:(AV.sc v).Ew=false:=rfl
section
variable {X:Ctx} {st st':St} {K:St->Prop} {E:AV->St->Prop} {d:Nat} {ty:TypeId} {pos:String} {aft:Array Edge} {g:Option (Nat×Bool)}
theorem pn {T F:TypeId} {s x:Operand} {z len:Nat} {n:Nm} {rows0 rows2:List (List AV)} (hd:d<X.n:=by first|(simp;done)|fail) (hT:yQ X.P T=some F:=by simp [fx];first|done|rfl) (hz:qf X.P F=z:=by simp [fx];first|done|rfl) (hs:ev st s=.hs n z 0 len:=by simp [fx];first|done|rfl|exact⟨rfl,rfl⟩|exact⟨rfl,rfl,rfl⟩)
  (hn:st.hp n=some (.row z rows0):=by simp [fx];first|done|rfl) (hle:len<=rows0.length:=by first|(simp [fx];done)|(simp [fx];omega)|omega)
  (hx:bH st z (ev st x)=some rows2:=by simp [fx];first|done|rfl) (hm:(rows2.any λr=>r.any AV.Ew)=true:=by first|(simp;done)|fail) (hlen:len+rows2.length<=4294967296:=by first|(simp [fx];done)|(simp [fx];omega)|omega)
  (hq:Hm.canon (nS (.s d) len rows2) ((wH d z (len+rows2.length) (some n) (rows0.take len++rows2) st).uK n (.s d))=st':=by simp [fx];first|done|rfl|exact (ve _).symm) (h:K st') :
  qn X ⟨some d,.call ⟨.builtin .append,#[s,x],#[T,T]⟩,ty,pos,aft,g⟩ K E st:=UQ hd hT hz hs hn hle hx hlen hq h
end
section
variable {X:Ctx} {st:St} {K:St->Prop} {E:AV->St->Prop} {d:Nat} {ty:TypeId} {pos:String} {aft:Array Edge} {g:Option (Nat×Bool)} {f:Nat} {args:Array Operand} {Ts:Array TypeId} {az avs:List AV}
theorem vi {x:AV} (hd:d<X.n:=by first|(simp;done)|fail) (ha:args.toList.map (ev st)=avs:=by simp [fx];first|done|rfl|exact (ve _).symm)
  (hB:aP st.hp zn avs az:=by
    first
    | ((repeat' (first|exact .nil|refine .cons ?_ ?_|exact .refl _|exact dR wx wq|exact gb wx wq rW|exact BH wx wq|exact BK wx wq|exact BJ ⟨r8,λj k hj hk=>rq⟩ hh rfl|exact BI ⟨r8,λj k hj hk=>rq⟩ hh hk|exact ga (gc ⟨D6,λj r hj=>Dc,λj r hj=>Ds⟩ rfl)|exact ga (gc ⟨De,λj r hj=>Dn,λj r hj=>EN⟩ rfl)|exact ga (gc ⟨EG,λj r hj=>EK,λj r hj=>Dw⟩ rfl)|exact rP ⟨EL,EI,EA,Db,EQ⟩|exact rP ⟨Dm,ET,EF,D5,D7⟩|exact fO ⟨Dk,λi c hc=>⟨Dq,Do,Dz,Dd,Dj⟩⟩ rfl|exact fO ⟨Dg,λi c hc=>⟨EC,ED,ER,D4,EO⟩⟩ rfl|exact fO ⟨Dx,λi c hc=>⟨Df,Di,ES,Dh,Dr⟩⟩ rfl));done)
    | fail)
  (hF:qM X.P X.gl f az (λ_ y _=>y=x)) (hc:x.jU=true:=by first|(simp [fx];done)|fail) (h:K ((st.kill (.s d)).put (some d) x)) :
  qn X ⟨some d,.call ⟨.value (.func f),args,Ts⟩,ty,pos,aft,g⟩ K E st:=LF hd ha hB hF hc h
theorem kH {z n:Nat} {rows:List (List AV)} (hd:d<X.n:=by first|(simp;done)|fail) (ha:args.toList.map (ev st)=avs:=by simp [fx];first|done|rfl|exact (ve _).symm)
  (hB:aP st.hp zn avs az:=by
    first
    | ((repeat' (first|exact .nil|refine .cons ?_ ?_|exact .refl _|exact dR wx wq|exact gb wx wq rW|exact BH wx wq|exact BK wx wq|exact BJ ⟨r8,λj k hj hk=>rq⟩ hh rfl|exact BI ⟨r8,λj k hj hk=>rq⟩ hh hk|exact ga (gc ⟨D6,λj r hj=>Dc,λj r hj=>Ds⟩ rfl)|exact ga (gc ⟨De,λj r hj=>Dn,λj r hj=>EN⟩ rfl)|exact ga (gc ⟨EG,λj r hj=>EK,λj r hj=>Dw⟩ rfl)|exact rP ⟨EL,EI,EA,Db,EQ⟩|exact rP ⟨Dm,ET,EF,D5,D7⟩|exact fO ⟨Dk,λi c hc=>⟨Dq,Do,Dz,Dd,Dj⟩⟩ rfl|exact fO ⟨Dg,λi c hc=>⟨EC,ED,ER,D4,EO⟩⟩ rfl|exact fO ⟨Dx,λi c hc=>⟨Df,Di,ES,Dh,Dr⟩⟩ rfl));done)
    | fail)
  (hF:qM X.P X.gl f az (λr y H'=>y=.hs r z 0 n/\H' r=some (.row z rows))) (hc:rows.all (λr=>r.all AV.jU)=true:=by first|(simp;done)|fail)
  (h:K (((st.kill (.s d)).zT (.s d) (.row z rows)).put (some d) (.hs (.s d) z 0 n))):qn X ⟨some d,.call ⟨.value (.func f),args,Ts⟩,ty,pos,aft,g⟩ K E st:=LG hd ha hB hF hc h
theorem iC {R:Nm->AV->(Nm->Option AO)->Prop} (hd:d<X.n:=by first|(simp;done)|fail) (ha:args.toList.map (ev st)=avs:=by simp [fx];first|done|rfl|exact (ve _).symm)
  (hB:aP st.hp zn avs az:=by
    first
    | ((repeat' (first|exact .nil|refine .cons ?_ ?_|exact .refl _|exact dR wx wq|exact gb wx wq rW|exact BH wx wq|exact BK wx wq|exact BJ ⟨r8,λj k hj hk=>rq⟩ hh rfl|exact BI ⟨r8,λj k hj hk=>rq⟩ hh hk|exact ga (gc ⟨D6,λj r hj=>Dc,λj r hj=>Ds⟩ rfl)|exact ga (gc ⟨De,λj r hj=>Dn,λj r hj=>EN⟩ rfl)|exact ga (gc ⟨EG,λj r hj=>EK,λj r hj=>Dw⟩ rfl)|exact rP ⟨EL,EI,EA,Db,EQ⟩|exact rP ⟨Dm,ET,EF,D5,D7⟩|exact fO ⟨Dk,λi c hc=>⟨Dq,Do,Dz,Dd,Dj⟩⟩ rfl|exact fO ⟨Dg,λi c hc=>⟨EC,ED,ER,D4,EO⟩⟩ rfl|exact fO ⟨Dx,λi c hc=>⟨Df,Di,ES,Dh,Dr⟩⟩ rfl));done)
    | fail)
  (hF:qM X.P X.gl f az R) (h:∀ y H',R (.s d) y H'->y.jU=true/\K (((st.kill (.s d)).oP d (vh H')).put (some d) y)) :
  qn X ⟨some d,.call ⟨.value (.func f),args,Ts⟩,ty,pos,aft,g⟩ K E st:=UU hd ha hB hF h
end
structure jL (p:Prop):Prop where
 h:p
theorem qK {G G':Prop} (k:G') (h:jL G'->G:=by
 intro kk
 repeat' (first
  | refine wV ?_|refine bN ?_|refine af ?_|refine nr ?_|refine ae λK hK=>?_
  | ((with_reducible refine uz hK ?_);clear hK K)|(with_reducible refine uz hK ?_)
  | (with_reducible first|refine wT ?_|refine cY ?_|refine dE ?_|refine cX ?_|refine bL ?_|refine bi ?_|refine gA ?_|refine cZ qe ?_)
  | refine dG ?_
  | refine bO ?_
  | (with_reducible refine wB ?_)
  | ((with_reducible refine lL ?_);refine lp (h:=?_))
  | (with_reducible first|refine lM ?_|refine mw ?_|refine nw (h:=?_)|refine nu (h:=?_)|refine ny (h:=?_)|refine ag (h:=?_)|refine dk (h:=?_)|refine iX (h:=?_)|refine iY (h:=?_)|refine dH (h:=?_)|refine pn (h:=?_)|refine bP (h:=?_)|refine lr (h:=?_)|refine lq (h:=?_)|refine dI (h:=?_))
  | ((with_reducible refine zb c1 rfl ?_);refine vi (hF:=c1) (h:=?_))
  | ((with_reducible refine zb c2 rfl ?_);refine vi (hF:=c2) (h:=?_))
  | ((with_reducible refine zb c3 rfl ?_);refine vi (hF:=c3) (h:=?_))
  | ((with_reducible refine zb c4 rfl ?_);refine vi (hF:=c4) (h:=?_))
  | ((with_reducible refine zb c5 rfl ?_);refine vi (hF:=c5) (h:=?_))
  | ((with_reducible refine zb c6 rfl ?_);refine vi (hF:=c6) (h:=?_))
  | ((with_reducible refine zb d1 rfl ?_);refine kH (hF:=d1) (h:=?_))
  | ((with_reducible refine zb d2 rfl ?_);refine kH (hF:=d2) (h:=?_))
  | ((with_reducible refine zb d3 rfl ?_);refine kH (hF:=d3) (h:=?_))
  | ((with_reducible refine zb d4 rfl ?_);refine kH (hF:=d4) (h:=?_))
  | ((with_reducible refine zb e1 rfl ?_);refine iC (hF:=e1) (h:=?_))
  | ((with_reducible refine zb e2 rfl ?_);refine iC (hF:=e2) (h:=?_))
  | (with_reducible refine we (h:=?_))
  | (with_reducible refine ye (λht=>?_) (λht=>?_))
  | refine bz (h1:=?_)|refine dJ (h1:=?_)
  | ((with_reducible refine cE hK ?_);clear hK K)|(with_reducible refine cE hK ?_)
  | ((with_reducible refine ah ?_);first|refine lu (h:=?_)|refine pu (h:=?_)|refine pr (h:=?_)|refine pw (h:=?_))
  | ((with_reducible refine ah ?_);refine pq (h1:=λht=>?_) (h2:=λht=>?_))
  | refine ik rfl ?_|refine oN ?_ ?_|refine oO ?_ ?_ ?_|(with_reducible refine aI ?_ ?_)|exact iQ|refine iZ (h2:=?_)
  | fail)
 first|exact kk.h|(revert hK;revert K;exact kk.h)):G:=h ⟨k⟩
theorem zm {G G':Prop} (k:G') (h:jL G'->G:=by
 intro kk
 first
  | refine wV ?_|refine bN ?_|refine af ?_|refine nr ?_|refine ae λK hK=>?_
  | ((with_reducible refine uz hK ?_);clear hK K)|(with_reducible refine uz hK ?_)
  | (with_reducible first|refine wT ?_|refine cY ?_|refine dE ?_|refine cX ?_|refine bL ?_|refine bi ?_|refine gA ?_|refine cZ qe ?_)
  | refine dG ?_
  | refine bO ?_
  | (with_reducible refine wB ?_)
  | ((with_reducible refine lL ?_);refine lp (h:=?_))
  | (with_reducible first|refine lM ?_|refine mw ?_|refine nw (h:=?_)|refine nu (h:=?_)|refine ny (h:=?_)|refine ag (h:=?_)|refine dk (h:=?_)|refine iX (h:=?_)|refine iY (h:=?_)|refine dH (h:=?_)|refine pn (h:=?_)|refine bP (h:=?_)|refine lr (h:=?_)|refine lq (h:=?_)|refine dI (h:=?_))
  | (with_reducible refine we (h:=?_))
  | refine bz (h1:=?_)|refine dJ (h1:=?_)
 repeat' (first
  | refine wV ?_|refine bN ?_|refine af ?_|refine nr ?_|refine ae λK hK=>?_
  | ((with_reducible refine uz hK ?_);clear hK K)|(with_reducible refine uz hK ?_)
  | (with_reducible first|refine wT ?_|refine cY ?_|refine dE ?_|refine cX ?_|refine bL ?_|refine bi ?_|refine gA ?_|refine cZ qe ?_)
  | refine dG ?_
  | refine bO ?_
  | (with_reducible refine wB ?_)
  | ((with_reducible refine lL ?_);refine lp (h:=?_))
  | (with_reducible first|refine lM ?_|refine mw ?_|refine nw (h:=?_)|refine nu (h:=?_)|refine ny (h:=?_)|refine ag (h:=?_)|refine dk (h:=?_)|refine iX (h:=?_)|refine iY (h:=?_)|refine dH (h:=?_)|refine pn (h:=?_)|refine bP (h:=?_)|refine lr (h:=?_)|refine lq (h:=?_)|refine dI (h:=?_))
  | (with_reducible refine we (h:=?_))
  | refine bz (h1:=?_)|refine dJ (h1:=?_))
 first|exact kk.h|(revert hK;revert K;exact kk.h)):G:=h ⟨k⟩
theorem qJ {A G G':Prop} (k:G') (x:A) (h:A->jL G'->G:=by
 intro fx kk;refine qK ?_;exact kk.h):G:=h x ⟨k⟩
theorem zK {G G':Prop} (k:G') (h:jL G'->G:=by
 intro kk K hK
 repeat' (first
  | refine wV ?_|refine bN ?_|refine af ?_|refine nr ?_|refine ae λK hK=>?_
  | ((with_reducible refine uz hK ?_);clear hK K)|(with_reducible refine uz hK ?_)
  | (with_reducible first|refine wT ?_|refine cY ?_|refine dE ?_|refine cX ?_|refine bL ?_|refine bi ?_|refine gA ?_|refine cZ qe ?_)
  | refine dG ?_
  | refine bO ?_
  | (with_reducible refine wB ?_)
  | ((with_reducible refine lL ?_);refine lp (h:=?_))
  | (with_reducible first|refine lM ?_|refine mw ?_|refine nw (h:=?_)|refine nu (h:=?_)|refine ny (h:=?_)|refine ag (h:=?_)|refine dk (h:=?_)|refine iX (h:=?_)|refine iY (h:=?_)|refine dH (h:=?_)|refine pn (h:=?_)|refine bP (h:=?_)|refine lr (h:=?_)|refine lq (h:=?_)|refine dI (h:=?_))
  | ((with_reducible refine zb c1 rfl ?_);refine vi (hF:=c1) (h:=?_))
  | ((with_reducible refine zb c2 rfl ?_);refine vi (hF:=c2) (h:=?_))
  | ((with_reducible refine zb c3 rfl ?_);refine vi (hF:=c3) (h:=?_))
  | ((with_reducible refine zb c4 rfl ?_);refine vi (hF:=c4) (h:=?_))
  | ((with_reducible refine zb c5 rfl ?_);refine vi (hF:=c5) (h:=?_))
  | ((with_reducible refine zb c6 rfl ?_);refine vi (hF:=c6) (h:=?_))
  | ((with_reducible refine zb d1 rfl ?_);refine kH (hF:=d1) (h:=?_))
  | ((with_reducible refine zb d2 rfl ?_);refine kH (hF:=d2) (h:=?_))
  | ((with_reducible refine zb d3 rfl ?_);refine kH (hF:=d3) (h:=?_))
  | ((with_reducible refine zb d4 rfl ?_);refine kH (hF:=d4) (h:=?_))
  | ((with_reducible refine zb e1 rfl ?_);refine iC (hF:=e1) (h:=?_))
  | ((with_reducible refine zb e2 rfl ?_);refine iC (hF:=e2) (h:=?_))
  | (with_reducible refine we (h:=?_))
  | (with_reducible refine ye (λht=>?_) (λht=>?_))
  | refine bz (h1:=?_)|refine dJ (h1:=?_)
  | ((with_reducible refine cE hK ?_);clear hK K)|(with_reducible refine cE hK ?_)
  | ((with_reducible refine ah ?_);first|refine lu (h:=?_)|refine pu (h:=?_)|refine pr (h:=?_)|refine pw (h:=?_))
  | ((with_reducible refine ah ?_);refine pq (h1:=λht=>?_) (h2:=λht=>?_))
  | refine ik rfl ?_|refine oN ?_ ?_|refine oO ?_ ?_ ?_|(with_reducible refine aI ?_ ?_)|exact iQ|refine iZ (h2:=?_)
  | fail)
 first|exact kk.h|(revert hK;revert K;exact kk.h)):G:=h ⟨k⟩
theorem Jz {X:Ctx} {c:Code} {Q:Ex->St->Prop} {G:Prop} (I:St->Prop) (k:∀ st,I st->jD X c Q st) (h:jL (∀ st,I st->jD X c Q st)->G:=by
 intro kk K hK
 repeat' (first
  | refine wV ?_|refine bN ?_|refine af ?_|refine nr ?_|refine ae λK hK=>?_
  | ((with_reducible refine uz hK ?_);clear hK K)|(with_reducible refine uz hK ?_)
  | (with_reducible first|refine wT ?_|refine cY ?_|refine dE ?_|refine cX ?_|refine bL ?_|refine bi ?_|refine gA ?_|refine cZ qe ?_)
  | refine dG ?_
  | refine bO ?_
  | (with_reducible refine wB ?_)
  | ((with_reducible refine lL ?_);refine lp (h:=?_))
  | (with_reducible first|refine lM ?_|refine mw ?_|refine nw (h:=?_)|refine nu (h:=?_)|refine ny (h:=?_)|refine ag (h:=?_)|refine dk (h:=?_)|refine iX (h:=?_)|refine iY (h:=?_)|refine dH (h:=?_)|refine pn (h:=?_)|refine bP (h:=?_)|refine lr (h:=?_)|refine lq (h:=?_)|refine dI (h:=?_))
  | ((with_reducible refine zb c1 rfl ?_);refine vi (hF:=c1) (h:=?_))
  | ((with_reducible refine zb c2 rfl ?_);refine vi (hF:=c2) (h:=?_))
  | ((with_reducible refine zb c3 rfl ?_);refine vi (hF:=c3) (h:=?_))
  | ((with_reducible refine zb c4 rfl ?_);refine vi (hF:=c4) (h:=?_))
  | ((with_reducible refine zb c5 rfl ?_);refine vi (hF:=c5) (h:=?_))
  | ((with_reducible refine zb c6 rfl ?_);refine vi (hF:=c6) (h:=?_))
  | ((with_reducible refine zb d1 rfl ?_);refine kH (hF:=d1) (h:=?_))
  | ((with_reducible refine zb d2 rfl ?_);refine kH (hF:=d2) (h:=?_))
  | ((with_reducible refine zb d3 rfl ?_);refine kH (hF:=d3) (h:=?_))
  | ((with_reducible refine zb d4 rfl ?_);refine kH (hF:=d4) (h:=?_))
  | ((with_reducible refine zb e1 rfl ?_);refine iC (hF:=e1) (h:=?_))
  | ((with_reducible refine zb e2 rfl ?_);refine iC (hF:=e2) (h:=?_))
  | (with_reducible refine we (h:=?_))
  | (with_reducible refine ye (λht=>?_) (λht=>?_))
  | refine bz (h1:=?_)|refine dJ (h1:=?_)
  | ((with_reducible refine cE hK ?_);clear hK K)|(with_reducible refine cE hK ?_)
  | ((with_reducible refine ah ?_);first|refine lu (h:=?_)|refine pu (h:=?_)|refine pr (h:=?_)|refine pw (h:=?_))
  | ((with_reducible refine ah ?_);refine pq (h1:=λht=>?_) (h2:=λht=>?_))
  | refine ik rfl ?_|refine oN ?_ ?_|refine oO ?_ ?_ ?_|(with_reducible refine aI ?_ ?_)|exact iQ|refine iZ (h2:=?_)
  | fail)
 all_goals exact kk.h _ (by simp [fx])):G:=h ⟨k⟩
end Go.Hm
end
section
namespace Go.Hm
open Go Go.RowKit Go.ChangeShapes Go.WideShapes Go.Deep
theorem qAq {H:Type} {enc:TypeId×Value->H} {P:Program} {w:World} {spare:Nat->Bool} {n m:String} {gs:List (DataW H)} {ps:List MemPlace} (h:DataW.TrodVars enc P w spare [n,m] gs ps):∃ d e,gs=[d,e]:=by
 cases gs<;>grind[DataW.TrodVars,trodVars_one]
end Go.Hm
end
section
namespace Go.Hm
open Go Go.RowKit
abbrev qW:=Int×Int
abbrev qr:=Option qW
structure Act where
 qG:Nat
 up:Nat
 vars:List qr
structure qL where
 qI:List Act
 stack:List Nat
 globals:List qr
 qH:List (Nat×Nat)
 qT:List (List qr)
 out:List Int
 trace:List (Nat×Nat)
 en:Int
 left:Nat
abbrev jR:List qr:=List.replicate 8 none
def shown (v:qW):Int:=if v.1=1 then v.2 else if v.1=2 then -2 else if v.1=3 then -3 else -1
def qL.qG (w:qL) (at':Nat):Nat:=match w.qI[at']? with|some a=>a.qG|none=>0
def aA (qI:List Act) (o:Nat):Nat->Nat->Nat
 | 0,a=>a
 | n+1,a=>match qI[a]? with|some c=>if c.qG=o then a else aA qI o n c.up|none=>a
def qL.loc (p:qC) (w:qL) (at':Nat) (x:Int):Option Nat:=if zI p (w.qG at') x<0 then none else some (aA w.qI (zI p (w.qG at') x).toNat at' at')
def qL.vars (w:qL):Option Nat->List qr
 | none=>w.globals
 | some i=>match w.qI[i]? with|some a=>a.vars|none=>[]
def qL.get (w:qL) (l:Option Nat) (x:Int):qr:=match (w.vars l)[x.toNat]? with|some s=>s|none=>none
def qL.set (w:qL) (l:Option Nat) (x:Int) (s:qr):qL:=match l with
 | none=>{ w with globals:=w.globals.set x.toNat s }
 | some i=>{ w with qI:=w.qI.modify i λa=>{ a with vars:=a.vars.set x.toNat s } }
def yf (p:qC) (b:Nat) (o:Int):Int:=if o<0\/(o=b/\j9 p b=2) then 4 else if o=b then 2 else 3
def jY (p:qC) (w:qL) (at':Nat) (x:Int):qL×qW :=
 match w.get (w.loc p at' x) x with
 | some v=>(w,v)
 | none =>
  if yf p (w.qG at') (zI p (w.qG at') x)=4 then
   match w.get none x with
   | some v=>(w,v)
   | none=>if x=7 then (w,(1,70)) else ({ w with en:=4 },(0,0))
  else ({ w with en:=yf p (w.qG at') (zI p (w.qG at') x) },(0,0))
def zW (p:qC) (w:qL) (at':Nat):List Int->qL×List qW
 | []=>(w,[])
 | x::l=>if w.en≠0 then (w,[]) else
  ((zW p (jY p w at' x).1 at' l).1,(jY p w at' x).2::(zW p (jY p w at' x).1 at' l).2)
def di (p:qC) (w:qL) (at':Nat) (x:Int) (v:qW):qL:=w.set (w.loc p at' x) x (some v)
def aN (p:qC) (w:qL) (at':Nat) (x:Int):qL:=match w.get (w.loc p at' x) x with
 | some _=>w.set (w.loc p at' x) x none
 | none=>{ w with en:=yf p (w.qG at') (zI p (w.qG at') x) }
def uM (w:qL) (a b:qW):qL×qW:=if a.1≠1\/b.1≠1 then ({ w with en:=5 },(0,0)) else (w,(1,(a.2+b.2).tmod 1000))
def ut (w:qL) (v:qW) (x:Int):qL×qW:=if v.1≠3 then ({ w with en:=5 },(0,0)) else
 match w.qT[v.2.toNat]? with
 | some c=>match c[x.toNat]? with
  | some (some u)=>(w,u)
  | _=>({ w with en:=7 },(0,0))
 | none=>({ w with en:=7 },(0,0))
def cK (ps:List Int) (vs:List qW):List qr:=(ps.zip vs).foldl (λl q=>l.set q.1.toNat (some q.2)) jR
def j2 (p:qC) (w:qL) (b up:Nat) (vs:List qW):qL :=
 { w with qI:=w.qI++[⟨b,up,cK (match p[b]? with|some k=>k.params|none=>[]) vs⟩],stack:=w.stack++[w.qI.length] }
def aw (w:qL):qL:=if w.en=0 then { w with stack:=w.stack.dropLast } else w
def vl (p:qC) (b:Nat):Nat:=match p[b]? with|some k=>k.params.length|none=>0
section
variable (p:qC) (R:qL->Nat->qL×qW)
def j8 (w:qL) (b up:Nat) (vs:List qW):qL×qW:=(aw (R (j2 p w b up vs) w.qI.length).1,(R (j2 p w b up vs) w.qI.length).2)
def uH (w:qL) (f:qW) (vs:List qW):qL×qW:=if f.1≠2 then ({ w with en:=5 },(0,0)) else
 match w.qH[f.2.toNat]? with
 | some g=>if vl p g.1≠vs.length then ({ w with en:=6 },(0,0)) else j8 p R w g.1 g.2 vs
 | none=>(w,(0,0))
def bc (w:qL) (b at':Nat):qL×qW :=
 if (j8 p R w b at' []).1.en≠0 then ((j8 p R w b at' []).1,(0,0)) else
 ({ (j8 p R w b at' []).1 with qT:=(j8 p R w b at' []).1.qT++[(j8 p R w b at' []).1.vars (some w.qI.length)] },(3,((j8 p R w b at' []).1.qT.length:Int)))
def yN (w:qL) (at':Nat) (s:q8) (vs:List qW):qL×qW :=
 if s.kind=0 then (w,(1,s.a)) else if s.kind=2 then uM w (vs.getD 0 (0,0)) (vs.getD 1 (0,0))
 else if s.kind=3 then ({ w with qH:=w.qH++[(s.a.toNat,at')] },(2,(w.qH.length:Int)))
 else if s.kind=4 then bc p R w s.a.toNat at' else if s.kind=5 then uH p R w (vs.getD 0 (0,0)) vs.tail
 else if s.kind=6 then ut w (vs.getD 0 (0,0)) s.b else (w,vs.getD 0 (0,0))
def vO (w:qL) (at':Nat) (s:q8):qL×qW :=
 if (zW p w at' s.reads).1.en≠0 then ((zW p w at' s.reads).1,(0,0)) else yN p R (zW p w at' s.reads).1 at' s (zW p w at' s.reads).2
def uD (w:qL) (at':Nat) (s:q8):qL :=
 if s.kind=9\/s.kind=10 then w else if s.kind=11 then aN p w at' s.to else
 if (vO p R w at' s).1.en≠0 then (vO p R w at' s).1
 else if s.kind=7 then { (vO p R w at' s).1 with out:=(vO p R w at' s).1.out++[shown (vO p R w at' s).2] }
 else di p (vO p R w at' s).1 at' s.to (vO p R w at' s).2
def zV (w:qL) (at' i:Nat):qL:={ w with left:=w.left - 1,trace:=w.trace++[(w.qG at',i)] }
def vM (at':Nat):qL->Nat->List q8->qL×qW
 | w,_,[]=>(w,(0,0))
 | w,i,s::l =>
  if w.left=0 then ({ w with en:=1 },(0,0)) else
  if s.kind=8 then jY p (zV w at' i) at' s.a else
  if (uD p R (zV w at' i) at' s).en≠0 then (uD p R (zV w at' i) at' s,(0,0)) else vM at' (uD p R (zV w at' i) at' s) (i+1) l
end
def qi (p:qC):Nat->qL->Nat->qL×qW
 | 0,w,_=>(w,(0,0))
 | n+1,w,at'=>vM p (qi p n) at' w 0 (match p[w.qG at']? with|some k=>k.body|none=>[])
def j4 (fuel:Nat):qL:=⟨[⟨0,0,jR⟩],[0],jR,[],[],[],[],0,fuel⟩
def uB (p:qC) (fuel:Nat):qL:=(qi p 151 (j4 fuel) 0).1
def nh (l:List qr):List Int:=l.map λs=>match s with|some v=>shown v|none=>-9
end Go.Hm
end
