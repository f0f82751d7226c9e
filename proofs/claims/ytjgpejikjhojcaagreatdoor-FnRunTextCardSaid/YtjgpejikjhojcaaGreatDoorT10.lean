import Derived.Test.YtjgpejikjhojcaaGreatDoorT09
import Derived.ChangeVars
set_option linter.unusedSimpArgs false
set_option linter.unusedVariables false
set_option maxRecDepth 100000
set_option maxHeartbeats 4000000

section
namespace Go.Hm
open Go Go.RowKit
theorem FF {l:List (Int×Int)} {x y:Int}:uE l++[[iv x,iv y]]=uE (l++[(x,y)]):=io
structure vU where
 kind:Int
 params:List Int
 qw:List Int
 cells:List Int
 fW:List Int
 ops:List (Int×Int)
 deriving DecidableEq,Inhabited
def lO:vU:=⟨0,[],[],[],[],[]⟩
@[simp] theorem noCode_kind:lO.kind=0:=rfl
@[simp] theorem noCode_params:lO.params=[]:=rfl
@[simp] theorem noCode_fasts:lO.qw=[]:=rfl
@[simp] theorem noCode_cells:lO.cells=[]:=rfl
@[simp] theorem noCode_frees:lO.fW=[]:=rfl
@[simp] theorem noCode_ops:lO.ops=[]:=rfl
def zr (p:qC) (b:Nat):vU:=match p[b]? with|some k=>⟨k.kind,k.params,zK p b,qh p b,jF p b,zm p b⟩|none=>lO
def yl (p:qC) (n:Nat):List vU:=(List.range n).map (zr p)
theorem Pk {p:qC} {n:Nat}:yl p (n+1)=yl p n++[zr p n]:=by simp [yl,tM]
@[simp] theorem codesTo_len {p:qC} {n:Nat}:(yl p n).length=n:=by simp [yl]
@[simp] theorem codesTo_zero {p:qC}:yl p 0=[]:=rfl
abbrev vU.row (c:vU):List AV:=[iv c.kind,vJ c.params,vJ c.qw,vJ c.cells,vJ c.fW,xh c.ops]
abbrev vU.av (c:vU):AV:=.agg c.row
def gm (cs:List vU):List (List AV):=cs.map vU.row
abbrev bL (cs:List vU):AV:=.sl 6 (gm cs)
def vU.own (n:Nm) (i:Nat) (c:vU):List AV :=
 [iv c.kind,.hs (.c n i 1) 1 0 c.params.length,.hs (.c n i 2) 1 0 c.qw.length,.hs (.c n i 3) 1 0 c.cells.length,.hs (.c n i 4) 1 0 c.fW.length,.hs (.c n i 5) 2 0 c.ops.length]
@[simp] theorem vU.FM {n:Nm} {i:Nat} {c:vU}:c.own n i=[iv c.kind,.hs (.c n i 1) 1 0 c.params.length,.hs (.c n i 2) 1 0 c.qw.length,.hs (.c n i 3) 1 0 c.cells.length,.hs (.c n i 4) 1 0 c.fW.length,.hs (.c n i 5) 2 0 c.ops.length]:=rfl
structure eg (hp:Nm->Option AO) (n:Nm) (i:Nat) (c:vU):Prop where
 params:hp (.c n i 1)=some (.row 1 (qm c.params))
 qw:hp (.c n i 2)=some (.row 1 (qm c.qw))
 cells:hp (.c n i 3)=some (.row 1 (qm c.cells))
 fW:hp (.c n i 4)=some (.row 1 (qm c.fW))
 ops:hp (.c n i 5)=some (.row 2 (uE c.ops))
def kQ (n:Nm) (cs:List vU):List (List AV):=cs.mapIdx λi c=>c.own n i
structure Cn (hp:Nm->Option AO) (n:Nm) (cs:List vU):Prop where
 top:hp n=some (.row 6 (kQ n cs))
 each:∀ (i:Nat) c,cs[i]?=some c->eg hp n i c
section
variable {cs:List vU} {i a b d l:Nat} {n q k1:Nm} {c:vU}
@[simp] theorem kcrows_len:(gm cs).length=cs.length:=by simp [gm]
@[simp] theorem SJ:(gm cs)[i]?=(cs[i]?).map vU.row:=by simp [gm]
@[simp] theorem kcrows_tr {f:Nm->Option Nm}:(gm cs).map (λr=>r.map (AV.tr f))=gm cs:=by simp [gm]
@[simp] theorem kdRows_len:(kQ n cs).length=cs.length:=by simp [kQ]
@[simp] theorem J4:(kQ n cs)[i]?=(cs[i]?).map (λc=>c.own n i):=by simp [kQ]
@[simp] theorem kdRows_nil:kQ n []=[]:=rfl
@[simp] theorem kdRows_take:(kQ n cs).take cs.length=kQ n cs:=yU qB
theorem SK:kQ n (cs++[c])=kQ n cs++[c.own n cs.length]:=by simp [kQ]
theorem xT {f:Nm->Option Nm} {m:Nm} (h:∀ i j,i<cs.length->f (.c n i j)=some (.c m i j)):(kQ n cs).map (λr=>r.map (AV.tr f))=kQ m cs:=by
 apply vl;intro i;simp only [jg,J4,Option.map_map]
 cases hx:cs[i]? with
 | none=>rfl
 | some x=>simp [vU.own,h i _ (gS hx).1]
@[simp] theorem kdRows_kl (h:Nm.under (.s d) n=false):(kQ n cs).map (λr=>r.map (AV.tr (kl (.s d))))=kQ n cs:=xT gZ
@[simp] theorem kdRows_mv1 (h:Nm.under (.s a) n=true):(kQ n cs).map (λr=>r.map (AV.tr (mv (.s a) k1)))=kQ (Nm.qz (.s a) k1 n) cs:=xT gZ
@[simp] theorem kdRows_mvc:(kQ n cs).map (λr=>r.map (AV.tr (uD n k1)))=kQ k1 cs:=by
 refine xT λi j _=>?_;have:Nm.c n i j≠n:=Nm.mz (Nm.uH n);simp [this]
@[simp] theorem kdRows_mv4 {j:Nat} (hq:(q=n)=False) (hq':Nm.under (.c q a b) n=false) (hl:cs.length<=l):(kQ n cs).map (λr=>r.map (AV.tr (mv (.c q a b) (.c n l j))))=kQ n cs:=by
 have h1:¬ n=q:=λe=>by simp [e] at hq
 have h2:Nm.under (.c n l j) n=false:=by
  cases h:Nm.under (.c n l j) n with
  | false=>rfl
  | true=>exact absurd rfl (Nm.G3 h).2
 refine xT λi j hi=>?_;have h3:¬ i=l:=qA;simp [h1,hq',h2,h3]
end
theorem Hp {hp:Nm->Option AO} {n:Nm} {i:Nat} {c:vU} (h:eg hp n i c):∀ (j:Nat) a a',(c.own n i)[j]?=some a->c.row[j]?=some a'->Bw hp zf a a'
 | 0,a,a',ha,ha'=>by obtain rfl:=sI ha;obtain rfl:=sI ha';exact .refl _
 | 1,a,a',ha,ha'=>by obtain rfl:=sI ha;grind[dl,eg.params]
 | 2,a,a',ha,ha'=>by obtain rfl:=sI ha;grind[dl,eg.qw]
 | 3,a,a',ha,ha'=>by obtain rfl:=sI ha;grind[dl,eg.cells]
 | 4,a,a',ha,ha'=>by obtain rfl:=sI ha;obtain rfl:=sI ha';exact dl h.fW rfl
 | 5,a,a',ha,ha'=>by obtain rfl:=sI ha;obtain rfl:=sI ha';exact Ae h.ops rfl
 | j+6,a,a',ha,_=>qL
theorem ph {hp:Nm->Option AO} {n:Nm} {i:Nat} {c:vU} (h:eg hp n i c):Bw hp zf (.agg (c.own n i)) c.av:=.agg _ _ rfl (Hp h)
theorem gT {hp:Nm->Option AO} {n:Nm} {len:Nat} {cs:List vU} (h:Cn hp n cs) (hl:len=cs.length):Bw hp zf (.hs n 6 0 len) (bL cs):=by
 subst hl;refine .hs n 6 0 cs.length (kQ n cs) (gm cs) rfl h.top qB qB (by simp [gm]) λi r r' hr hr' j a a' ha ha'=>?_;rw [ia,J4] at hr;rw [SJ] at hr';obtain⟨x,hx,rfl⟩:=zg.1 hr;rw [hx] at hr';obtain rfl:=sI hr';exact Hp (h.each i x hx) j a a' ha ha'
theorem eg.uC {H':Nm->Option AO} {n:Nm} {i:Nat} {c:vU} (h:eg H' n i c):eg (uC H') n i c :=
 ⟨aN h.params qB,aN h.qw qB,aN h.cells qB,aN h.fW qB,aN h.ops qB⟩
theorem NA {l:List (Int×Int)} {i:Nat} {o:Int×Int} (h:l[i]?=some o):uc (l.take (i+1))=uc (l.take i)+(if o.1=0 then 1 else 0):=by
 grind[vM,uc]
theorem Zq {l:List (Int×Int)}:uc l<=l.length:=List.countP_le_length
theorem xg {p:qC} {b:Nat} (hp:z6 p):(zm p b).length<=60:=by
 unfold zm
 split
 .rename_i k hk;have h1:=Hf (p:=p) (b:=b) k.body;have h2:=hp.body k (gM hk);omega
 .simp
section
variable {X:Ctx} {st:St} {K:St->Prop} {E:AV->St->Prop} {dst:Option Nat} {f f':FuncId} {args:Array Operand} {Ts:Array TypeId} {ty:TypeId} {pos:String} {aft:Array Edge} {g:Option (Nat×Bool)} {P:Program} {gl:Nat->Option (List AV)} {az:List AV} {R:Nm->AV->(Nm->Option AO)->Prop}
theorem zX (_hF:qM P gl f' az R) (_hf:f=f') (h:q8 X ⟨dst,.call ⟨.value (.func f),args,Ts⟩,ty,pos,aft,g⟩ K E st):q8 X ⟨dst,.call ⟨.value (.func f),args,Ts⟩,ty,pos,aft,g⟩ K E st:=h
end
def AV.E5:AV->Bool
 | .hs _ _ _ _=>true
 | _=>false
@[simp] theorem isHs_hs {n:Nm} {z lo len:Nat}:(AV.hs n z lo len).E5=true:=rfl
@[simp] theorem isHs_sc {v:Value}:(AV.sc v).E5=false:=rfl
section
variable {X:Ctx} {st st':St} {K:St->Prop} {E:AV->St->Prop} {d:Nat} {ty:TypeId} {pos:String} {aft:Array Edge} {g:Option (Nat×Bool)}
theorem pP {T F:TypeId} {s x:Operand} {z len:Nat} {n:Nm} {rows0 rows2:List (List AV)} (hd:d<X.n:=by first|(simp;done)|fail) (hT:yN X.P T=some F:=by simp [fx];first|done|rfl) (hz:qd X.P F=z:=by simp [fx];first|done|rfl) (hs:ev st s=.hs n z 0 len:=by simp [fx];first|done|rfl|exact⟨rfl,rfl⟩|exact⟨rfl,rfl,rfl⟩)
  (hn:st.hp n=some (.row z rows0):=by simp [fx];first|done|rfl) (hle:len<=rows0.length:=by first|(simp [fx];done)|(simp [fx];omega)|omega)
  (hx:am st z (ev st x)=some rows2:=by simp [fx];first|done|rfl) (hm:(rows2.any λr=>r.any AV.E5)=true:=by first|(simp;done)|fail) (hlen:len+rows2.length<=4294967296:=by first|(simp [fx];done)|(simp [fx];omega)|omega)
  (hq:Hm.canon (lZ (.s d) len rows2) ((kf d z (len+rows2.length) (some n) (rows0.take len++rows2) st).uD n (.s d))=st':=by simp [fx];first|done|rfl|exact (vW _).symm) (h:K st') :
  q8 X ⟨some d,.call ⟨.builtin .append,#[s,x],#[T,T]⟩,ty,pos,aft,g⟩ K E st:=K7 hd hT hz hs hn hle hx hlen hq h
end
section
variable {X:Ctx} {st:St} {K:St->Prop} {E:AV->St->Prop} {d:Nat} {ty:TypeId} {pos:String} {aft:Array Edge} {g:Option (Nat×Bool)} {f:Nat} {args:Array Operand} {Ts:Array TypeId} {az avs:List AV}
theorem ve {x:AV} (hd:d<X.n:=by first|(simp;done)|fail) (ha:args.toList.map (ev st)=avs:=by simp [fx];first|done|rfl|exact (vW _).symm)
  (hB:aT st.hp zf avs az:=by
    first
    | ((repeat' (first|exact .nil|refine .cons ?_ ?_|exact .refl _|exact dl aJ aF|exact gU aJ aF rZ|exact Ae aJ aF|exact Ah aJ aF|exact Ag ⟨pp,λj k hj hk=>rE⟩ hh rfl|exact Af ⟨pp,λj k hj hk=>rE⟩ hh hk|exact gR (gV ⟨Dh,λj r hj=>D8,λj r hj=>DR⟩ rfl)|exact gR (gV ⟨D4,λj r hj=>Dg,λj r hj=>D2⟩ rfl)|exact gR (gV ⟨Dm,λj r hj=>Dj,λj r hj=>D6⟩ rfl)|exact ph ⟨Di,D3,DT,DX,DJ⟩|exact ph ⟨DH,D1,DN,Dq,Dw⟩|exact gT ⟨D9,λi c hc=>⟨DG,DK,De,DF,Dv⟩⟩ rfl|exact gT ⟨D7,λi c hc=>⟨Dt,Dc,DQ,Dn,Dz⟩⟩ rfl|exact gT ⟨DO,λi c hc=>⟨DP,Dl,Da,Dr,Dp⟩⟩ rfl));done)
    | fail)
  (hF:qM X.P X.gl f az (λ_ y _=>y=x)) (hc:x.jE=true:=by first|(simp [fx];done)|fail) (h:K ((st.kill (.s d)).put (some d) x)) :
  q8 X ⟨some d,.call ⟨.value (.func f),args,Ts⟩,ty,pos,aft,g⟩ K E st:=K8 hd ha hB hF hc h
theorem wL {z n:Nat} {rows:List (List AV)} (hd:d<X.n:=by first|(simp;done)|fail) (ha:args.toList.map (ev st)=avs:=by simp [fx];first|done|rfl|exact (vW _).symm)
  (hB:aT st.hp zf avs az:=by
    first
    | ((repeat' (first|exact .nil|refine .cons ?_ ?_|exact .refl _|exact dl aJ aF|exact gU aJ aF rZ|exact Ae aJ aF|exact Ah aJ aF|exact Ag ⟨pp,λj k hj hk=>rE⟩ hh rfl|exact Af ⟨pp,λj k hj hk=>rE⟩ hh hk|exact gR (gV ⟨Dh,λj r hj=>D8,λj r hj=>DR⟩ rfl)|exact gR (gV ⟨D4,λj r hj=>Dg,λj r hj=>D2⟩ rfl)|exact gR (gV ⟨Dm,λj r hj=>Dj,λj r hj=>D6⟩ rfl)|exact ph ⟨Di,D3,DT,DX,DJ⟩|exact ph ⟨DH,D1,DN,Dq,Dw⟩|exact gT ⟨D9,λi c hc=>⟨DG,DK,De,DF,Dv⟩⟩ rfl|exact gT ⟨D7,λi c hc=>⟨Dt,Dc,DQ,Dn,Dz⟩⟩ rfl|exact gT ⟨DO,λi c hc=>⟨DP,Dl,Da,Dr,Dp⟩⟩ rfl));done)
    | fail)
  (hF:qM X.P X.gl f az (λr y H'=>y=.hs r z 0 n/\H' r=some (.row z rows))) (hc:rows.all (λr=>r.all AV.jE)=true:=by first|(simp;done)|fail)
  (h:K (((st.kill (.s d)).zS (.s d) (.row z rows)).put (some d) (.hs (.s d) z 0 n))):q8 X ⟨some d,.call ⟨.value (.func f),args,Ts⟩,ty,pos,aft,g⟩ K E st:=K9 hd ha hB hF hc h
theorem gr {R:Nm->AV->(Nm->Option AO)->Prop} (hd:d<X.n:=by first|(simp;done)|fail) (ha:args.toList.map (ev st)=avs:=by simp [fx];first|done|rfl|exact (vW _).symm)
  (hB:aT st.hp zf avs az:=by
    first
    | ((repeat' (first|exact .nil|refine .cons ?_ ?_|exact .refl _|exact dl aJ aF|exact gU aJ aF rZ|exact Ae aJ aF|exact Ah aJ aF|exact Ag ⟨pp,λj k hj hk=>rE⟩ hh rfl|exact Af ⟨pp,λj k hj hk=>rE⟩ hh hk|exact gR (gV ⟨Dh,λj r hj=>D8,λj r hj=>DR⟩ rfl)|exact gR (gV ⟨D4,λj r hj=>Dg,λj r hj=>D2⟩ rfl)|exact gR (gV ⟨Dm,λj r hj=>Dj,λj r hj=>D6⟩ rfl)|exact ph ⟨Di,D3,DT,DX,DJ⟩|exact ph ⟨DH,D1,DN,Dq,Dw⟩|exact gT ⟨D9,λi c hc=>⟨DG,DK,De,DF,Dv⟩⟩ rfl|exact gT ⟨D7,λi c hc=>⟨Dt,Dc,DQ,Dn,Dz⟩⟩ rfl|exact gT ⟨DO,λi c hc=>⟨DP,Dl,Da,Dr,Dp⟩⟩ rfl));done)
    | fail)
  (hF:qM X.P X.gl f az R) (h:∀ y H',R (.s d) y H'->y.jE=true/\K (((st.kill (.s d)).nw d (uC H')).put (some d) y)) :
  q8 X ⟨some d,.call ⟨.value (.func f),args,Ts⟩,ty,pos,aft,g⟩ K E st:=UE hd ha hB hF h
end
structure jP (p:Prop):Prop where
 h:p
theorem qQ {G G':Prop} (k:G') (h:jP G'->G:=by
 intro kk
 repeat' (first
  | refine wu ?_|refine bV ?_|refine au ?_|refine nN ?_|refine bW λK hK=>?_
  | ((with_reducible refine kJ hK ?_);clear hK K)|(with_reducible refine kJ hK ?_)
  | (with_reducible first|refine wt ?_|refine bm ?_|refine cE ?_|refine bl ?_|refine aq ?_|refine bN ?_|refine fp ?_|refine bn qc ?_)
  | refine cF ?_
  | refine bX ?_
  | (with_reducible refine wQ ?_)
  | ((with_reducible refine lD ?_);refine lg (h:=?_))
  | (with_reducible first|refine lF ?_|refine lE ?_|refine li (h:=?_)|refine lf (h:=?_)|refine lj (h:=?_)|refine bY (h:=?_)|refine dh (h:=?_)|refine fw (h:=?_)|refine fz (h:=?_)|refine cG (h:=?_)|refine pP (h:=?_)|refine dC (h:=?_)|refine iP (h:=?_)|refine nP (h:=?_)|refine dD (h:=?_))
  | ((with_reducible refine zX c1 rfl ?_);refine ve (hF:=c1) (h:=?_))
  | ((with_reducible refine zX c2 rfl ?_);refine ve (hF:=c2) (h:=?_))
  | ((with_reducible refine zX c3 rfl ?_);refine ve (hF:=c3) (h:=?_))
  | ((with_reducible refine zX c4 rfl ?_);refine ve (hF:=c4) (h:=?_))
  | ((with_reducible refine zX c5 rfl ?_);refine ve (hF:=c5) (h:=?_))
  | ((with_reducible refine zX c6 rfl ?_);refine ve (hF:=c6) (h:=?_))
  | ((with_reducible refine zX d1 rfl ?_);refine wL (hF:=d1) (h:=?_))
  | ((with_reducible refine zX d2 rfl ?_);refine wL (hF:=d2) (h:=?_))
  | ((with_reducible refine zX d3 rfl ?_);refine wL (hF:=d3) (h:=?_))
  | ((with_reducible refine zX d4 rfl ?_);refine wL (hF:=d4) (h:=?_))
  | ((with_reducible refine zX e1 rfl ?_);refine gr (hF:=e1) (h:=?_))
  | ((with_reducible refine zX e2 rfl ?_);refine gr (hF:=e2) (h:=?_))
  | (with_reducible refine ww (h:=?_))
  | (with_reducible refine yd (λht=>?_) (λht=>?_))
  | refine cI (h1:=?_)|refine cH (h1:=?_)
  | ((with_reducible refine cO hK ?_);clear hK K)|(with_reducible refine cO hK ?_)
  | ((with_reducible refine aV ?_);first|refine ll (h:=?_)|refine nT (h:=?_)|refine nS (h:=?_)|refine nU (h:=?_))
  | ((with_reducible refine aV ?_);refine nR (h1:=λht=>?_) (h2:=λht=>?_))
  | refine iY rfl ?_|refine lw ?_ ?_|refine lz ?_ ?_ ?_|(with_reducible refine aI ?_ ?_)|exact iK|refine iQ (h2:=?_)
  | fail)
 first|exact kk.h|(revert hK;revert K;exact kk.h)):G:=h ⟨k⟩
theorem zl {G G':Prop} (k:G') (h:jP G'->G:=by
 intro kk
 first
  | refine wu ?_|refine bV ?_|refine au ?_|refine nN ?_|refine bW λK hK=>?_
  | ((with_reducible refine kJ hK ?_);clear hK K)|(with_reducible refine kJ hK ?_)
  | (with_reducible first|refine wt ?_|refine bm ?_|refine cE ?_|refine bl ?_|refine aq ?_|refine bN ?_|refine fp ?_|refine bn qc ?_)
  | refine cF ?_
  | refine bX ?_
  | (with_reducible refine wQ ?_)
  | ((with_reducible refine lD ?_);refine lg (h:=?_))
  | (with_reducible first|refine lF ?_|refine lE ?_|refine li (h:=?_)|refine lf (h:=?_)|refine lj (h:=?_)|refine bY (h:=?_)|refine dh (h:=?_)|refine fw (h:=?_)|refine fz (h:=?_)|refine cG (h:=?_)|refine pP (h:=?_)|refine dC (h:=?_)|refine iP (h:=?_)|refine nP (h:=?_)|refine dD (h:=?_))
  | (with_reducible refine ww (h:=?_))
  | refine cI (h1:=?_)|refine cH (h1:=?_)
 repeat' (first
  | refine wu ?_|refine bV ?_|refine au ?_|refine nN ?_|refine bW λK hK=>?_
  | ((with_reducible refine kJ hK ?_);clear hK K)|(with_reducible refine kJ hK ?_)
  | (with_reducible first|refine wt ?_|refine bm ?_|refine cE ?_|refine bl ?_|refine aq ?_|refine bN ?_|refine fp ?_|refine bn qc ?_)
  | refine cF ?_
  | refine bX ?_
  | (with_reducible refine wQ ?_)
  | ((with_reducible refine lD ?_);refine lg (h:=?_))
  | (with_reducible first|refine lF ?_|refine lE ?_|refine li (h:=?_)|refine lf (h:=?_)|refine lj (h:=?_)|refine bY (h:=?_)|refine dh (h:=?_)|refine fw (h:=?_)|refine fz (h:=?_)|refine cG (h:=?_)|refine pP (h:=?_)|refine dC (h:=?_)|refine iP (h:=?_)|refine nP (h:=?_)|refine dD (h:=?_))
  | (with_reducible refine ww (h:=?_))
  | refine cI (h1:=?_)|refine cH (h1:=?_))
 first|exact kk.h|(revert hK;revert K;exact kk.h)):G:=h ⟨k⟩
theorem qI {A G G':Prop} (k:G') (x:A) (h:A->jP G'->G:=by
 intro fx kk;refine qQ ?_;exact kk.h):G:=h x ⟨k⟩
theorem zQ {G G':Prop} (k:G') (h:jP G'->G:=by
 intro kk K hK
 repeat' (first
  | refine wu ?_|refine bV ?_|refine au ?_|refine nN ?_|refine bW λK hK=>?_
  | ((with_reducible refine kJ hK ?_);clear hK K)|(with_reducible refine kJ hK ?_)
  | (with_reducible first|refine wt ?_|refine bm ?_|refine cE ?_|refine bl ?_|refine aq ?_|refine bN ?_|refine fp ?_|refine bn qc ?_)
  | refine cF ?_
  | refine bX ?_
  | (with_reducible refine wQ ?_)
  | ((with_reducible refine lD ?_);refine lg (h:=?_))
  | (with_reducible first|refine lF ?_|refine lE ?_|refine li (h:=?_)|refine lf (h:=?_)|refine lj (h:=?_)|refine bY (h:=?_)|refine dh (h:=?_)|refine fw (h:=?_)|refine fz (h:=?_)|refine cG (h:=?_)|refine pP (h:=?_)|refine dC (h:=?_)|refine iP (h:=?_)|refine nP (h:=?_)|refine dD (h:=?_))
  | ((with_reducible refine zX c1 rfl ?_);refine ve (hF:=c1) (h:=?_))
  | ((with_reducible refine zX c2 rfl ?_);refine ve (hF:=c2) (h:=?_))
  | ((with_reducible refine zX c3 rfl ?_);refine ve (hF:=c3) (h:=?_))
  | ((with_reducible refine zX c4 rfl ?_);refine ve (hF:=c4) (h:=?_))
  | ((with_reducible refine zX c5 rfl ?_);refine ve (hF:=c5) (h:=?_))
  | ((with_reducible refine zX c6 rfl ?_);refine ve (hF:=c6) (h:=?_))
  | ((with_reducible refine zX d1 rfl ?_);refine wL (hF:=d1) (h:=?_))
  | ((with_reducible refine zX d2 rfl ?_);refine wL (hF:=d2) (h:=?_))
  | ((with_reducible refine zX d3 rfl ?_);refine wL (hF:=d3) (h:=?_))
  | ((with_reducible refine zX d4 rfl ?_);refine wL (hF:=d4) (h:=?_))
  | ((with_reducible refine zX e1 rfl ?_);refine gr (hF:=e1) (h:=?_))
  | ((with_reducible refine zX e2 rfl ?_);refine gr (hF:=e2) (h:=?_))
  | (with_reducible refine ww (h:=?_))
  | (with_reducible refine yd (λht=>?_) (λht=>?_))
  | refine cI (h1:=?_)|refine cH (h1:=?_)
  | ((with_reducible refine cO hK ?_);clear hK K)|(with_reducible refine cO hK ?_)
  | ((with_reducible refine aV ?_);first|refine ll (h:=?_)|refine nT (h:=?_)|refine nS (h:=?_)|refine nU (h:=?_))
  | ((with_reducible refine aV ?_);refine nR (h1:=λht=>?_) (h2:=λht=>?_))
  | refine iY rfl ?_|refine lw ?_ ?_|refine lz ?_ ?_ ?_|(with_reducible refine aI ?_ ?_)|exact iK|refine iQ (h2:=?_)
  | fail)
 first|exact kk.h|(revert hK;revert K;exact kk.h)):G:=h ⟨k⟩
theorem SI {X:Ctx} {c:Code} {Q:Ex->St->Prop} {G:Prop} (I:St->Prop) (k:∀ st,I st->zu X c Q st) (h:jP (∀ st,I st->zu X c Q st)->G:=by
 intro kk K hK
 repeat' (first
  | refine wu ?_|refine bV ?_|refine au ?_|refine nN ?_|refine bW λK hK=>?_
  | ((with_reducible refine kJ hK ?_);clear hK K)|(with_reducible refine kJ hK ?_)
  | (with_reducible first|refine wt ?_|refine bm ?_|refine cE ?_|refine bl ?_|refine aq ?_|refine bN ?_|refine fp ?_|refine bn qc ?_)
  | refine cF ?_
  | refine bX ?_
  | (with_reducible refine wQ ?_)
  | ((with_reducible refine lD ?_);refine lg (h:=?_))
  | (with_reducible first|refine lF ?_|refine lE ?_|refine li (h:=?_)|refine lf (h:=?_)|refine lj (h:=?_)|refine bY (h:=?_)|refine dh (h:=?_)|refine fw (h:=?_)|refine fz (h:=?_)|refine cG (h:=?_)|refine pP (h:=?_)|refine dC (h:=?_)|refine iP (h:=?_)|refine nP (h:=?_)|refine dD (h:=?_))
  | ((with_reducible refine zX c1 rfl ?_);refine ve (hF:=c1) (h:=?_))
  | ((with_reducible refine zX c2 rfl ?_);refine ve (hF:=c2) (h:=?_))
  | ((with_reducible refine zX c3 rfl ?_);refine ve (hF:=c3) (h:=?_))
  | ((with_reducible refine zX c4 rfl ?_);refine ve (hF:=c4) (h:=?_))
  | ((with_reducible refine zX c5 rfl ?_);refine ve (hF:=c5) (h:=?_))
  | ((with_reducible refine zX c6 rfl ?_);refine ve (hF:=c6) (h:=?_))
  | ((with_reducible refine zX d1 rfl ?_);refine wL (hF:=d1) (h:=?_))
  | ((with_reducible refine zX d2 rfl ?_);refine wL (hF:=d2) (h:=?_))
  | ((with_reducible refine zX d3 rfl ?_);refine wL (hF:=d3) (h:=?_))
  | ((with_reducible refine zX d4 rfl ?_);refine wL (hF:=d4) (h:=?_))
  | ((with_reducible refine zX e1 rfl ?_);refine gr (hF:=e1) (h:=?_))
  | ((with_reducible refine zX e2 rfl ?_);refine gr (hF:=e2) (h:=?_))
  | (with_reducible refine ww (h:=?_))
  | (with_reducible refine yd (λht=>?_) (λht=>?_))
  | refine cI (h1:=?_)|refine cH (h1:=?_)
  | ((with_reducible refine cO hK ?_);clear hK K)|(with_reducible refine cO hK ?_)
  | ((with_reducible refine aV ?_);first|refine ll (h:=?_)|refine nT (h:=?_)|refine nS (h:=?_)|refine nU (h:=?_))
  | ((with_reducible refine aV ?_);refine nR (h1:=λht=>?_) (h2:=λht=>?_))
  | refine iY rfl ?_|refine lw ?_ ?_|refine lz ?_ ?_ ?_|(with_reducible refine aI ?_ ?_)|exact iK|refine iQ (h2:=?_)
  | fail)
 all_goals exact kk.h _ (by simp [fx])):G:=h ⟨k⟩
end Go.Hm
end
section
namespace Go.Hm
open Go Go.RowKit Go.ChangeShapes Go.WideShapes Go.Deep
theorem ζ {H:Type} {enc:TypeId×Value->H} {P:Program} {w:World} {spare:Nat->Bool} {n m:String} {gs:List (DataW H)} {ps:List MemPlace} (h:DataW.TrodVars enc P w spare [n,m] gs ps):∃ d e,gs=[d,e]:=by
 cases gs<;>grind[DataW.TrodVars,trodVars_one]
end Go.Hm
end
section
namespace Go.Hm
open Go Go.RowKit
abbrev qR:=Int×Int
abbrev qu:=Option qR
structure Act where
 qD:Nat
 up:Nat
 vars:List qu
structure qK where
 qF:List Act
 stack:List Nat
 globals:List qu
 qJ:List (Nat×Nat)
 qO:List (List qu)
 out:List Int
 trace:List (Nat×Nat)
 en:Int
 left:Nat
abbrev j3:List qu:=List.replicate 8 none
def shown (v:qR):Int:=if v.1=1 then v.2 else if v.1=2 then -2 else if v.1=3 then -3 else -1
def qK.qD (w:qK) (at':Nat):Nat:=match w.qF[at']? with|some a=>a.qD|none=>0
def uZ (qF:List Act) (o:Nat):Nat->Nat->Nat
 | 0,a=>a
 | n+1,a=>match qF[a]? with|some c=>if c.qD=o then a else uZ qF o n c.up|none=>a
def qK.loc (p:qC) (w:qK) (at':Nat) (x:Int):Option Nat:=if zA p (w.qD at') x<0 then none else some (uZ w.qF (zA p (w.qD at') x).toNat at' at')
def qK.vars (w:qK):Option Nat->List qu
 | none=>w.globals
 | some i=>match w.qF[i]? with|some a=>a.vars|none=>[]
def qK.get (w:qK) (l:Option Nat) (x:Int):qu:=match (w.vars l)[x.toNat]? with|some s=>s|none=>none
def qK.set (w:qK) (l:Option Nat) (x:Int) (s:qu):qK:=match l with
 | none=>{ w with globals:=w.globals.set x.toNat s }
 | some i=>{ w with qF:=w.qF.modify i λa=>{ a with vars:=a.vars.set x.toNat s } }
def jd (p:qC) (b:Nat) (o:Int):Int:=if o<0\/(o=b/\zt p b=2) then 4 else if o=b then 2 else 3
def zh (p:qC) (w:qK) (at':Nat) (x:Int):qK×qR :=
 match w.get (w.loc p at' x) x with
 | some v=>(w,v)
 | none =>
  if jd p (w.qD at') (zA p (w.qD at') x)=4 then
   match w.get none x with
   | some v=>(w,v)
   | none=>if x=7 then (w,(1,70)) else ({ w with en:=4 },(0,0))
  else ({ w with en:=jd p (w.qD at') (zA p (w.qD at') x) },(0,0))
def zB (p:qC) (w:qK) (at':Nat):List Int->qK×List qR
 | []=>(w,[])
 | x::l=>if w.en≠0 then (w,[]) else
  ((zB p (zh p w at' x).1 at' l).1,(zh p w at' x).2::(zB p (zh p w at' x).1 at' l).2)
def cz (p:qC) (w:qK) (at':Nat) (x:Int) (v:qR):qK:=w.set (w.loc p at' x) x (some v)
def wo (p:qC) (w:qK) (at':Nat) (x:Int):qK:=match w.get (w.loc p at' x) x with
 | some _=>w.set (w.loc p at' x) x none
 | none=>{ w with en:=jd p (w.qD at') (zA p (w.qD at') x) }
def uF (w:qK) (a b:qR):qK×qR:=if a.1≠1\/b.1≠1 then ({ w with en:=5 },(0,0)) else (w,(1,(a.2+b.2).tmod 1000))
def uI (w:qK) (v:qR) (x:Int):qK×qR:=if v.1≠3 then ({ w with en:=5 },(0,0)) else
 match w.qO[v.2.toNat]? with
 | some c=>match c[x.toNat]? with
  | some (some u)=>(w,u)
  | _=>({ w with en:=7 },(0,0))
 | none=>({ w with en:=7 },(0,0))
def aD (ps:List Int) (vs:List qR):List qu:=(ps.zip vs).foldl (λl q=>l.set q.1.toNat (some q.2)) j3
def zd (p:qC) (w:qK) (b up:Nat) (vs:List qR):qK :=
 { w with qF:=w.qF++[⟨b,up,aD (match p[b]? with|some k=>k.params|none=>[]) vs⟩],stack:=w.stack++[w.qF.length] }
def kG (w:qK):qK:=if w.en=0 then { w with stack:=w.stack.dropLast } else w
def vT (p:qC) (b:Nat):Nat:=match p[b]? with|some k=>k.params.length|none=>0
section
variable (p:qC) (R:qK->Nat->qK×qR)
def z8 (w:qK) (b up:Nat) (vs:List qR):qK×qR:=(kG (R (zd p w b up vs) w.qF.length).1,(R (zd p w b up vs) w.qF.length).2)
def vb (w:qK) (f:qR) (vs:List qR):qK×qR:=if f.1≠2 then ({ w with en:=5 },(0,0)) else
 match w.qJ[f.2.toNat]? with
 | some g=>if vT p g.1≠vs.length then ({ w with en:=6 },(0,0)) else z8 p R w g.1 g.2 vs
 | none=>(w,(0,0))
def aZ (w:qK) (b at':Nat):qK×qR :=
 if (z8 p R w b at' []).1.en≠0 then ((z8 p R w b at' []).1,(0,0)) else
 ({ (z8 p R w b at' []).1 with qO:=(z8 p R w b at' []).1.qO++[(z8 p R w b at' []).1.vars (some w.qF.length)] },(3,((z8 p R w b at' []).1.qO.length:Int)))
def j9 (w:qK) (at':Nat) (s:qP) (vs:List qR):qK×qR :=
 if s.kind=0 then (w,(1,s.a)) else if s.kind=2 then uF w (vs.getD 0 (0,0)) (vs.getD 1 (0,0))
 else if s.kind=3 then ({ w with qJ:=w.qJ++[(s.a.toNat,at')] },(2,(w.qJ.length:Int)))
 else if s.kind=4 then aZ p R w s.a.toNat at' else if s.kind=5 then vb p R w (vs.getD 0 (0,0)) vs.tail
 else if s.kind=6 then uI w (vs.getD 0 (0,0)) s.b else (w,vs.getD 0 (0,0))
def y7 (w:qK) (at':Nat) (s:qP):qK×qR :=
 if (zB p w at' s.reads).1.en≠0 then ((zB p w at' s.reads).1,(0,0)) else j9 p R (zB p w at' s.reads).1 at' s (zB p w at' s.reads).2
def vE (w:qK) (at':Nat) (s:qP):qK :=
 if s.kind=9\/s.kind=10 then w else if s.kind=11 then wo p w at' s.to else
 if (y7 p R w at' s).1.en≠0 then (y7 p R w at' s).1
 else if s.kind=7 then { (y7 p R w at' s).1 with out:=(y7 p R w at' s).1.out++[shown (y7 p R w at' s).2] }
 else cz p (y7 p R w at' s).1 at' s.to (y7 p R w at' s).2
def zD (w:qK) (at' i:Nat):qK:={ w with left:=w.left - 1,trace:=w.trace++[(w.qD at',i)] }
def y9 (at':Nat):qK->Nat->List qP->qK×qR
 | w,_,[]=>(w,(0,0))
 | w,i,s::l =>
  if w.left=0 then ({ w with en:=1 },(0,0)) else
  if s.kind=8 then zh p (zD w at' i) at' s.a else
  if (vE p R (zD w at' i) at' s).en≠0 then (vE p R (zD w at' i) at' s,(0,0)) else y9 at' (vE p R (zD w at' i) at' s) (i+1) l
end
def qg (p:qC):Nat->qK->Nat->qK×qR
 | 0,w,_=>(w,(0,0))
 | n+1,w,at'=>y9 p (qg p n) at' w 0 (match p[w.qD at']? with|some k=>k.body|none=>[])
def jX (fuel:Nat):qK:=⟨[⟨0,0,j3⟩],[0],j3,[],[],[],[],0,fuel⟩
def vt (p:qC) (fuel:Nat):qK:=(qg p 151 (jX fuel) 0).1
def kx (l:List qu):List Int:=l.map λs=>match s with|some v=>shown v|none=>-9
end Go.Hm
end
