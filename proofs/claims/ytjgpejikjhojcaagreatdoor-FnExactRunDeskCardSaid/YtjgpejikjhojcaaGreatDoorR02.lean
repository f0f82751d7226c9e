import Derived.Test.YtjgpejikjhojcaaGreatDoorR01
set_option linter.unusedSimpArgs false
set_option linter.unusedVariables false
set_option maxRecDepth 100000
set_option maxHeartbeats 4000000

section
namespace Go.Hm
open Go Go.RowKit
section
variable {P:Program} {own:Nat->Prop} {C:Nat->Prop} {w0:World} {g:Gh} {st:St} {a:Act} {w:World}
def tP (op:UnOp):AV->Option AV
 | .sc (.bool b)=>match op with|.not=>some (.sc (.bool (!b)))|_=>none
 | .sc (.int k n)=>match op with|.neg=>some (.sc (.int k (k.wrap (-n))))|_=>none
 | _=>none
theorem Ye {op:UnOp} {v:Value} {x z:AV} (hv:RV g w v x) (h:tP op x=some z):∃ v',(Op.unary op v).run P w=.ok v' w/\RV g w v' z:=by
 unfold tP at h
 split at h
 .obtain rfl:=hv.zy
  cases op <;> simp at h
  subst h;exact⟨_,rfl,.sc _⟩
 .obtain rfl:=hv.zy
  cases op <;> simp at h
  subst h;exact⟨.int _ (IntKind.wrap _ (-_)),by simp [Op.unary,Op.intArith],.sc _⟩
 .cases h
def l8 (c x y:AV):Option AV :=
 match c with
 | .sc (.bool t)=>match x,y with
  | .sc (.bool p),.sc (.bool q)=>some (.sc (.bool (bif t then p else q)))
  | x,y=>some (bif t then x else y)
 | _=>none
theorem Y8 {vc vx vy:Value} {c x y z:AV} (hc:RV g w vc c) (hx:RV g w vx x) (hy:RV g w vy y) (h:l8 c x y=some z) :
  ∃ v',(do pure (if <- asBool vc then vx else vy):Sem Value).run P w=.ok v' w/\RV g w v' z:=by
 unfold l8 at h
 split at h
 .rename_i t;obtain rfl:=hc.zy
  split at h
  .obtain rfl:=hx.zy;obtain rfl:=hy.zy;obtain rfl:=sI h
   cases t <;> exact⟨_,rfl,.sc _⟩
  .obtain rfl:=sI h
   cases t
   .exact⟨_,rfl,hy⟩
   .exact⟨_,rfl,hx⟩
 .cases h
def lm (P:Program) (T:TypeId):Bool:=match P.underlying T with|some .string=>true|_=>false
def um (P:Program) (T:TypeId):Bool:=match P.underlying T with|some (.slice _)=>true|_=>false
def Ge (P:Program) (T:TypeId):Bool:=match P.underlying T with|some (.map _ _)=>true|_=>false
def lT (P:Program) (T:TypeId) (hp:Nm->Option AO):AV->Option AV
 | .sl _ rows=>if um P T then some (.sc (.int .i64 rows.length)) else none
 | .hs _ _ _ len=>if um P T then some (.sc (.int .i64 len)) else none
 | .sc (.slice none 0 0)=>if um P T then some (.sc (.int .i64 0)) else none
 | .sc (.string s)=>if lm P T then some (.sc (.int .i64 s.size)) else none
 | .mp n=>if Ge P T then (match hp n with|some (.map es)=>some (.sc (.int .i64 es.length))|_=>none) else none
 | _=>none
theorem A2 {T ty:TypeId} {ad:Option Addr} {n c:Nat} (h:um P T=true):(Builtin.len_ #[T] ty #[.slice ad n c]).run P w=.ok (.int .i64 n) w:=by
 unfold um at h
 split at h<;>simp_all[Builtin.len_,goInt,va]
theorem Y1 {T ty:TypeId} {v:Value} {x z:AV} (hi:Inv own C w0 g st.hp w) (hv:RV g w v x) (h:lT P T st.hp x=some z):∃ v',(Builtin.len_ #[T] ty #[v]).run P w=.ok v' w/\RV g w v' z:=by
 unfold lT at h
 split at h
 .split at h
  .rename_i ht;obtain rfl:=sI h
   cases hv with
   | yL=>exact⟨_,A2 ht,.sc _⟩
   | dA b off cap n E rows f hC hn=>subst hn;exact⟨_,A2 ht,.sc _⟩
  .cases h
 .split at h
  .rename_i ht;obtain rfl:=sI h
   cases hv with
   | cV=>exact⟨_,A2 ht,.sc _⟩
   | aV=>exact⟨_,A2 ht,.sc _⟩
  .cases h
 .split at h
  .rename_i ht;obtain rfl:=sI h;obtain rfl:=hv.zy;exact⟨_,A2 ht,.sc _⟩
  .cases h
 .split at h
  .rename_i ht;obtain rfl:=sI h;obtain rfl:=hv.zy;unfold lm at ht
   split at ht
   .rename_i hu;exact⟨_,by simp [Builtin.len_,va hu,goInt],.sc _⟩
   .cases ht
  .cases h
 .split at h
  .rename_i ht
   split at h
   .rename_i n es hes;obtain rfl:=sI h
    cases hv with
    | mp _ b hk =>
     have ho:=hi.obj _ _ hes;simp only [j6,hk] at ho;obtain⟨ms,clock,h1,_,h2,_⟩:=ho;unfold Ge at ht
     split at ht
     .rename_i k e hu;have hg:(getObj b).run P w=.ok (.map ms.toArray clock) w:=B4;exact⟨.int .i64 es.length,by simp_all[Builtin.len_,goInt,va],.sc _⟩
     .cases ht
   .cases h
  .cases h
 .cases h
def xh (i:Nat):AV->Option AV
 | .zX l=>l[i]?
 | _=>none
theorem YP {i:Nat} {v:Value} {x z:AV} (hv:RV g w v x) (h:xh i x=some z):∃ v',(Instr.extract v i).run P w=.ok v' w/\RV g w v' z:=by
 cases x with
 | zX l =>
  obtain⟨vs,rfl,_,hr⟩:=qAp hv;obtain⟨u,hu,hru⟩:=hr i z h
  simp_all[Instr.extract]
 | _=>simp [xh] at h
theorem MU {T:TypeId} {vs:List Value} {cs:List AV} {off:Nat} {z:AV} (hl:vs.length=cs.length) (hr:∀ (j:Nat) y,cs[j]?=some y->∃ u,vs[j]?=some u/\RV g w u y) (h:cU P T cs off=some z) :
  ∃ v',(part T vs.toArray off).run P w=.ok v' w/\RV g w v' z:=by
 unfold cU at h
 split at h
 .rename_i hagg
  split at h
  .rename_i hle;obtain rfl:=sI h;refine⟨.agg ((vs.drop off).take (qf P T)).toArray,?_,?_⟩
   .simp_all[part,tC,lh,Jn]
   constructor<;>grind
  .cases h
 .rename_i hagg;obtain⟨u,hu,hru⟩:=hr off z h
  simp_all[part,tC]
 .cases h
def sP (P:Program) (T:TypeId) (f:Nat):AV->Option AV
 | .agg cs=>match ql P T f with
  | some (o,e)=>cU P e cs o
  | none=>none
 | _=>none
theorem NT {T:TypeId} {f o:Nat} {e:TypeId} (h:ql P T f=some (o,e)):∃ fs fd,P.underlying T=some (.struct fs)/\fs[f]?=some fd/\fd.offset=o/\fd.type=e:=by
 grind[ql]
theorem YR {T:TypeId} {f:Nat} {v:Value} {x z:AV} (hv:RV g w v x) (h:sP P T f x=some z):∃ v',(Instr.field T v f).run P w=.ok v' w/\RV g w v' z:=by
 cases x with
 | agg cs =>
  simp only [sP] at h
  split at h
  .rename_i o e ht;obtain⟨fs,fd,hu,hfd,rfl,rfl⟩:=NT ht;obtain⟨vs,rfl,hl,hr⟩:=rD hv;obtain⟨v',h1,h2⟩:=MU hl hr h
   simp_all[Instr.field,asAgg,va]
  .cases h
 | _=>simp [sP] at h
def sR (P:Program) (T:TypeId) (x:AV) (n:Int):Option AV :=
 match x with
 | .sc (.string s)=>if lm P T/\0<=n then (s.data.toList[n.toNat]?).map (λb=>.sc (.int .u8 b.toNat)) else none
 | .agg cs=>match dD P T with
  | some (len,e)=>if 0<=n/\n<len then cU P e cs (n.toNat * qf P e) else none
  | none=>none
 | _=>none
theorem YY {T:TypeId} {k:IntKind} {n:Int} {v:Value} {x z:AV} (hv:RV g w v x) (h:sR P T x n=some z):∃ v',(Instr.index T v (.int k n)).run P w=.ok v' w/\RV g w v' z:=by
 unfold sR at h
 split at h
 .rename_i s;obtain rfl:=hv.zy
  split at h
  .rename_i hc;obtain⟨ht,h0⟩:=hc;obtain⟨b,hb,rfl⟩:=zu.1 h;unfold lm at ht
   split at ht
   .rename_i hu
    have hs:s[n.toNat]?=some b:=by
     have hlt:n.toNat<s.size:=by have:=(gS hb).1;simp_all
     have:s[n.toNat]?=some (s[n.toNat]'hlt):=getElem?_pos s n.toNat hlt;rw [this];have h2:=(gS hb).2;rw [<- h2]
     rfl
    exact⟨_,by simp_all[Instr.index,asIntOf,va],.sc _⟩
   .cases ht
  .cases h
 .rename_i cs
  split at h
  .rename_i len e ht
   split at h
   .rename_i hc;obtain⟨h0,h1⟩:=hc;obtain⟨hu,hi⟩:=NO ht;obtain⟨vs,rfl,hl,hr⟩:=rD hv;obtain⟨v',h2,h3⟩:=MU hl hr h
    simp_all[Instr.index,asIntOf,va,lh]
   .cases h
  .cases h
 .cases h
def wM (P:Program) (T:TypeId):Option Bool:=match P.underlying T with|some (.interface _)=>some true|some _=>some false|none=>none
def AF (P:Program) (T:TypeId) (x:AV):Option AV:=if wM P T=some false then some (.jE T x) else none
theorem Y7 {T:TypeId} {v:Value} {x z:AV} (hv:RV g w v x) (h:AF P T x=some z):∃ v',(Instr.makeInterface T v).run P w=.ok v' w/\RV g w v' z:=by
 unfold AF at h
 split at h
 .rename_i h1;obtain rfl:=sI h;refine⟨.iface T v,?_,.jE T v x hv⟩;unfold wM at h1
  cases hu:P.underlying T with
  | none=>simp_all
  | some d=>cases d <;> simp [hu] at h1 <;> simp [Instr.makeInterface,va hu]
 .cases h
def wg (P:Program) (T:TypeId):Option AV :=
 match (P.info? T).bind (·.zero) with
 | some (.agg cs)=>some (.agg (cs.toList.map .sc))
 | some v=>some (.sc v)
 | none=>none
theorem GK {T:TypeId} {z:AV} (h:wg P T=some z):∃ v,(zeroValue T).run P w=.ok v w/\RV g w v z:=by
 unfold wg at h
 split at h
 .rename_i cs hz;obtain rfl:=sI h;obtain⟨i,hi,hiz⟩:=fD.1 hz;refine⟨.agg cs,by simp_all[zeroValue,typeInfo],?_⟩
  have:=RV.agg (g:=g) (w:=w) cs.toList (cs.toList.map .sc) qB λj v y hv hy=>by
   rw [jZ,hv] at hy;obtain rfl:=sI hy;exact .sc _
  omega
 .rename_i v hn hz;obtain rfl:=sI h;obtain⟨i,hi,hiz⟩:=fD.1 hz;exact⟨v,by simp_all[zeroValue,typeInfo],.sc _⟩
 .cases h
def np (P:Program) (A:TypeId) (x:AV):Option AV :=
 if wM P A=some false then
  match x with
  | .jE t y=>if t=A then some (.zX [y,.sc (.bool true)]) else (wg P A).map (λz=>.zX [z,.sc (.bool false)])
  | .sc .nilIface=>(wg P A).map (λz=>.zX [z,.sc (.bool false)])
  | _=>none
 else none
theorem RV.Am {u v:Value} {x y:AV} (h1:RV g w u x) (h2:RV g w v y):RV g w (.tuple #[u,v]) (.zX [x,y]):=by
 constructor<;>grind
theorem Yd {T A:TypeId} {v:Value} {x z:AV} (hv:RV g w v x) (h:np P A x=some z):∃ v',(Instr.typeAssert v T A true).run P w=.ok v' w/\RV g w v' z:=by
 unfold np at h
 split at h
 .rename_i h1
  obtain⟨d,hu,hd⟩:∃ d,P.underlying A=some d/\∀ ms,d≠.interface ms:=by
   grind[wM]
  split at h
  .rename_i t y
   have hv':∃ u,v=.iface t u/\RV g w u y:=by
    cases hv<;>grind
   obtain⟨u,rfl,hy⟩:=hv'
   split at h
   .rename_i ht;subst ht;obtain rfl:=sI h;refine⟨.tuple #[u,.bool true],?_,.Am hy (.sc _)⟩
    simp_all[Instr.typeAssert,va]
   .rename_i ht;obtain⟨z0,hz0,rfl⟩:=zu.1 h;obtain⟨v0,hr0,hv0⟩:=GK (g:=g) (w:=w) hz0;refine⟨.tuple #[v0,.bool false],?_,.Am hv0 (.sc _)⟩
    simp_all[Instr.typeAssert,va]
  .obtain rfl:=hv.zy;obtain⟨z0,hz0,rfl⟩:=zu.1 h;obtain⟨v0,hr0,hv0⟩:=GK (g:=g) (w:=w) hz0;refine⟨.tuple #[v0,.bool false],?_,.Am hv0 (.sc _)⟩
   simp_all[Instr.typeAssert,va]
  .cases h
 .cases h
def Cp (P:Program) (T:TypeId):Option IntKind:=match P.underlying T with|some (.int k)=>some k|_=>none
def xd (P:Program) (S D:TypeId):AV->Option AV
 | .sc (.int _ n)=>match Cp P D,P.underlying S with|some k,some (.int _)=>some (.sc (.int k (k.wrap n)))|_,_=>none
 | _=>none
theorem YI {S D:TypeId} {v:Value} {x z:AV} (hv:RV g w v x) (h:xd P S D x=some z):∃ v',(convert S D v).run P w=.ok v' w/\RV g w v' z:=by
 unfold xd at h
 split at h
 .obtain rfl:=hv.zy
  split at h
  .rename_i k _ hk hs;obtain rfl:=sI h;unfold Cp at hk
   split at hk
   .rename_i k' hd;obtain rfl:=sI hk;exact⟨_,by simp_all[convert,Conv.intToInt,va],.sc _⟩
   .cases hk
  .cases h
 .cases h
def lJ (P:Program) (T:TypeId) (cs:List AV):List (Nat×AV)->Option (List AV)
 | []=>some cs
 | (i,x)::rest=>match ql P T i,x.cells with
  | some (o,e),some ds=>if ds.length=qf P e/\o+ds.length<=cs.length then lJ P T (cs.take o++ds++cs.drop (o+ds.length)) rest else none
  | _,_=>none
def yt (P:Program) (T:TypeId):Bool:=match P.underlying T with|some (.struct fs)=>fs.toList.all (λf=>(P.info? f.type).isSome)|_=>false
def rO (P:Program) (T:TypeId) (parts:List (Nat×AV)):Option AV :=
 if yt P T then
  match yC P T with
  | some z=>(lJ P T (z.map .sc) parts).map .agg
  | none=>none
 else none
theorem Y5 {α β:Type} {f:α->Sem β} {h:α->β}:∀ (l:List α),(∀ x∈l,(f x).run P w=.ok (h x) w)->(l.mapM f).run P w=.ok (l.map h) w
 := by intro x0;induction x0<;>simp_all
theorem Y4 {α β:Type} {f:α->Sem β} {h:α->β} (l:Array α) (hl:∀ x∈l,(f x).run P w=.ok (h x) w):(l.mapM f).run P w=.ok (l.map h) w:=by
 have:=Y5 (P:=P) (w:=w) (f:=f) (h:=h) l.toList (λx hx=>hl x qP)
 have e:l.mapM f=Functor.map List.toArray (l.toList.mapM f):=by
  rw [Array.mapM_eq_mapM_toList]
 simp_all<;>grind
theorem JY (o:Nat):∀ (us:List Value) (i:Nat) (cs:Array Value),o+i+us.length<=cs.size ->
  (us.zipIdx i).foldl (λcs (x:Value×Nat)=>cs.setIfInBounds (o+x.2) x.1) cs=(cs.toList.take (o+i)++us++cs.toList.drop (o+i+us.length)).toArray:=by
 intro us
 induction us with
 | nil=>simp
 | cons v us ih =>
  simp_all<;>grind[list_seg_step]
theorem Qm {T:TypeId} {fs:Array Field} (hu:P.underlying T=some (.struct fs)):∀ (parts:List (Nat×AV)) (vp:List (Nat×Value)) (cs:List AV) (vc:Array Value) (zs:List AV),
  vp.length=parts.length->(∀ (j:Nat) p q,vp[j]?=some p->parts[j]?=some q->p.1=q.1/\RV g w p.2 q.2) ->
  vc.size=cs.length->(∀ (j:Nat) y,cs[j]?=some y->∃ u,vc[j]?=some u/\RV g w u y)->lJ P T cs parts=some zs ->
  ∃ vz,Instr.fill ((fs.map (λf=>(f.offset,qf P f.type)))[·]?) vc vp=some vz/\vz.size=zs.length/\∀ (j:Nat) y,zs[j]?=some y->∃ u,vz[j]?=some u/\RV g w u y:=by
 intro parts
 induction parts with
 | nil =>
  grind[lJ,Instr.fill]
 | cons q parts ih =>
  intro vp cs vc zs hl hp hs hr h;obtain⟨i,x⟩:=q
  cases vp with
  | nil=>simp at hl
  | cons p vp =>
   obtain⟨i',v⟩:=p;obtain⟨e1,hv⟩:=hp 0 _ _ rfl rfl;simp only at e1 hv;subst e1;simp only [lJ] at h
   split at h
   .rename_i o e ds ht hc
    split at h
    .rename_i hcond;obtain⟨h1,h2⟩:=hcond;obtain⟨fs',fd,hu',hfd,rfl,rfl⟩:=NT ht;rw [hu] at hu'
     injection hu' with hu'
     injection hu' with hu'
     subst hu';obtain⟨c1,c2,c3⟩:=hv.cells hc;have hlen:v.cells.size=ds.length:=qA;have hplace:(fs.map (λf=>(f.offset,qf P f.type)))[i']?=some (fd.offset,qf P fd.type):=by simp [hfd]
     have hfold:(v.cells.zipIdx.foldl (λcs (x:Value×Nat)=>cs.setIfInBounds (fd.offset+x.2) x.1) vc)=(vc.toList.take fd.offset++v.cells.toList++vc.toList.drop (fd.offset+v.cells.toList.length)).toArray:=by
      have:=JY fd.offset v.cells.toList 0 vc qu
      grind[Array.size]
     obtain⟨vz,hz1,hz2,hz3⟩:=ih vp (cs.take fd.offset++ds++cs.drop (fd.offset+ds.length)) (vc.toList.take fd.offset++v.cells.toList++vc.toList.drop (fd.offset+v.cells.toList.length)).toArray zs qw
      (λj p q hj hq=>hp (j+1) p q qw qw)
      qu
      (λj y hy=>by
        grind[MJ]) h
     grind[Instr.fill]
    .cases h
   .cases h
theorem YH {T:TypeId} {parts:List (Nat×AV)} {vp:Array (Nat×Value)} {z:AV} (hl:vp.size=parts.length) (hp:∀ (j:Nat) p q,vp[j]?=some p->parts[j]?=some q->p.1=q.1/\RV g w p.2 q.2)
  (h:rO P T parts=some z):∃ v',(Instr.build T vp).run P w=.ok v' w/\RV g w v' z:=by
 unfold rO at h
 split at h
 .rename_i hf
  split at h
  .rename_i zc hz;obtain⟨zs,hzs,rfl⟩:=zu.1 h;unfold yt at hf
   split at hf
   .rename_i fs hu;unfold yC at hz;obtain⟨zv,hzv,rfl⟩:=zu.1 hz;obtain⟨i,hi,hiz⟩:=fD.1 hzv
    obtain⟨vz,h1,h2,h3⟩:=Qm (g:=g) (w:=w) hu parts vp.toList _ zv.cells zs qA (λj p q hj hq=>hp j p q qP hq) qB
     (λj y hy=>by
       rw [jZ] at hy;obtain⟨u,hu,rfl⟩:=zu.1 hy;exact⟨u,qP,.sc _⟩) hzs
    have hm:=Y4 (P:=P) (w:=w) (f:=λf:Field=>(do pure (f.offset,<- sizeOf f.type):Sem (Nat×Nat))) (h:=λf=>(f.offset,qf P f.type)) fs (λf hfm=>by
     have:=y5.1 hf f qP;simp [lh this])
    refine⟨.agg vz,?_,?_⟩
    .simp only [Instr.build,Sem.run_bind,zeroValue,typeInfo,run_program,hi,Result.andThen_ok,Sem.run_pure,hiz,va hu,hm,h1]
    constructor<;>grind
   .cases hf
  .cases h
 .cases h
end
section
variable {P:Program} {own:Nat->Prop} {C:Nat->Prop} {w0:World} {g:Gh} {st:St} {a:Act} {w:World}
def lX:Option AV->Option (Option (IntKind×Int))
 | none=>some none
 | some (.sc (.int k n))=>some (some (k,n))
 | _=>none
def pX (hp:Nm->Option AO) (n:Nm) (z:Nat):Nat:=match hp n with|some (.row z' rows)=>if z'=z then rows.length else 0|_=>0
theorem MK {hp:Nm->Option AO} {n:Nm} {z k:Nat} (h:k<pX hp n z):∃ rows,hp n=some (.row z rows)/\k<rows.length:=by
 grind[pX]
def wC (P:Program) (T:TypeId) (hp:Nm->Option AO) (x:AV) (lo hi:Option Int):Option AV :=
 match x with
 | .sc (.string s)=>if lm P T/\0<=lo.getD 0/\lo.getD 0<=hi.getD s.size/\hi.getD s.size<=s.size then some (.sc (.string (s.extract (lo.getD 0).toNat (hi.getD s.size).toNat))) else none
 | .sl z rows=>match yU P T with
  | some e=>if z=qf P e/\0<=lo.getD 0/\lo.getD 0<=hi.getD rows.length/\hi.getD rows.length<=rows.length then some (.sl z ((rows.drop (lo.getD 0).toNat).take ((hi.getD rows.length).toNat - (lo.getD 0).toNat))) else none
  | none=>none
 | .hs n z p len=>match yU P T with
  | some e=>if z=qf P e/\0<=lo.getD 0/\lo.getD 0<=hi.getD len/\(hi.getD len<=len\/p+(hi.getD len).toNat<=pX hp n z) then some (.hs n z (p+(lo.getD 0).toNat) ((hi.getD len).toNat - (lo.getD 0).toNat)) else none
  | none=>none
 | _=>none
theorem MR {b:Bool} {len cap:Nat} {lo hi:Option (IntKind×Int)} (h0:0<=(lo.map (λp:IntKind×Int=>p.2)).getD (0:Int)) (h1:(lo.map (λp:IntKind×Int=>p.2)).getD (0:Int)<=(hi.map (λp:IntKind×Int=>p.2)).getD (len:Int)) (h2:(hi.map (λp:IntKind×Int=>p.2)).getD (len:Int)<=cap) :
  (Instr.sliceBounds b len cap (lo.map λp=>.int p.1 p.2) (hi.map λp=>.int p.1 p.2) none).run P w=.ok (((lo.map (λp:IntKind×Int=>p.2)).getD (0:Int)).toNat,((hi.map (λp:IntKind×Int=>p.2)).getD (len:Int)).toNat,cap) w:=by
 have hb:∀ (k:IntKind) (i:Int) (y:Nat) (c:BoundsCode),0<=i->i<=y->(Instr.sliceBound (.int k i) y c).run P w=.ok i.toNat w:=by
  simp_all[Instr.sliceBound,asIntOf]
 cases lo with
 | none =>
  cases hi<;>simp_all[Instr.sliceBounds]
 | some p =>
  cases hi with
  | none =>
   simp_all[Instr.sliceBounds]
  | some q =>
   simp_all<;>grind[Instr.sliceBounds,Sem.run_bind,Sem.run_pure,Result.andThen_ok]
theorem C8 {T E:TypeId} {ad:Option Addr} {len cap:Nat} {lo hi:Option (IntKind×Int)} (ht:yU P T=some E) (h0:0<=(lo.map (λp:IntKind×Int=>p.2)).getD (0:Int)) (h1:(lo.map (λp:IntKind×Int=>p.2)).getD (0:Int)<=(hi.map (λp:IntKind×Int=>p.2)).getD (len:Int)) (h2:(hi.map (λp:IntKind×Int=>p.2)).getD (len:Int)<=cap) :
  (Instr.sliceAt T (.slice ad len cap) (lo.map λp=>.int p.1 p.2) (hi.map λp=>.int p.1 p.2) none).run P w =
    .ok (.slice (if cap=((lo.map (λp:IntKind×Int=>p.2)).getD (0:Int)).toNat then ad else ad.map (·.add (((lo.map (λp:IntKind×Int=>p.2)).getD (0:Int)).toNat * qf P E))) (((hi.map (λp:IntKind×Int=>p.2)).getD (len:Int)).toNat - ((lo.map (λp:IntKind×Int=>p.2)).getD (0:Int)).toNat) (cap - ((lo.map (λp:IntKind×Int=>p.2)).getD (0:Int)).toNat)) w:=by
 obtain⟨hu,hi'⟩:=NP ht
 simp_all[Instr.sliceAt,Instr.slice,va,MR,lh]
theorem Y9 {T:TypeId} {v:Value} {x z:AV} {lo hi:Option (IntKind×Int)} (hi0:Inv own C w0 g st.hp w) (hv:RV g w v x) (h:wC P T st.hp x (lo.map (·.2)) (hi.map (λp:IntKind×Int=>p.2))=some z) :
  ∃ v',(Instr.sliceAt T v (lo.map λp=>.int p.1 p.2) (hi.map λp=>.int p.1 p.2) none).run P w=.ok v' w/\RV g w v' z:=by
 unfold wC at h
 split at h
 .rename_i s;obtain rfl:=hv.zy
  split at h
  .rename_i hc;obtain⟨ht,h0,h1,h2⟩:=hc;obtain rfl:=sI h;unfold lm at ht
   split at ht
   .rename_i hu;refine⟨_,?_,.sc _⟩
    simp_all[Instr.sliceAt,Instr.slice,va,MR]
   .cases ht
  .cases h
 .rename_i z0 rows
  split at h
  .rename_i e ht
   split at h
   .rename_i hc;obtain⟨hz,h0,h1,h2⟩:=hc;obtain rfl:=sI h
    cases hv with
    | yL ad cap _ =>
     simp only [il] at h0 h1 h2 ⊢;have h2':(hi.map (λp:IntKind×Int=>p.2)).getD ((0:Nat):Int)<=(cap:Int):=Int.le_trans h2 qA;refine⟨_,C8 ht h0 h1 h2',?_⟩;have e:((hi.map (λp:IntKind×Int=>p.2)).getD ((0:Nat):Int)).toNat - ((lo.map (λp:IntKind×Int=>p.2)).getD (0:Int)).toNat=0:=qA;rw [e];constructor<;>grind
    | dA b off cap n _ rows f hC hn hcap hu hcell ho hr =>
     rw [hn] at h1 h2 ⊢;refine⟨_,C8 ht h0 h1 qA,?_⟩;generalize hL:((lo.map (λp:IntKind×Int=>p.2)).getD (0:Int)).toNat=L at *;generalize hH:((hi.map (λp:IntKind×Int=>p.2)).getD (n:Int)).toNat=H at *;have hLH:L<=H:=qA;have hHn:H<=n:=qA;by_cases he:H=L
     .subst he;rw [Nat.sub_self,List.take_zero];exact .yL _ _ _
     .rw [if_neg qA];simp only [u7,Addr.add_lit,<- hz];refine .dA b (off+L * z0) (cap - L) (H - L) z0 _ (λi j=>f (L+i) j) hC ?_ qA ?_ ?_ ?_ ?_<;>grind
   .cases h
  .cases h
 .rename_i n z0 p len
  split at h
  .rename_i e ht
   split at h
   .rename_i hc;obtain⟨hz,h0,h1,h2⟩:=hc;obtain rfl:=sI h
    cases hv with
    | cV _ _ hk =>
     have h3:(hi.map (λp:IntKind×Int=>p.2)).getD ((0:Nat):Int)<=((0:Nat):Int):=by
      rcases h2 with h2|h2
      .exact h2
      .refine Int.not_lt.1 λhlt=>?_;have h5:0<pX st.hp n z0:=qA;obtain⟨rows,hr,h2⟩:=MK h5;have ho:=hi0.obj _ _ hr
       grind[j6]
     refine⟨_,C8 ht h0 h1 h3,?_⟩;have e1:((hi.map (λp:IntKind×Int=>p.2)).getD ((0:Nat):Int)).toNat=0:=qA;have e2:((lo.map (λp:IntKind×Int=>p.2)).getD (0:Int)).toNat=0:=qA;rw [e1,e2];exact .cV n z0 hk
    | aV _ _ _ _ b cap ad hk g1 g2 g3 =>
     have h3:(hi.map (λp:IntKind×Int=>p.2)).getD (len:Int)<=(cap:Int):=by
      rcases h2 with h2|h2
      .omega
      .refine Int.not_lt.1 λhlt=>?_;obtain⟨rows,hr,h2⟩:=MK (uQ (by omega:p+((hi.map (λp:IntKind×Int=>p.2)).getD (len:Int)).toNat - 1<p+((hi.map (λp:IntKind×Int=>p.2)).getD (len:Int)).toNat) h2);have ho:=hi0.obj _ _ hr;simp only [j6,hk] at ho;obtain⟨cur,T',x1,x2,x3,x4,_⟩:=ho;omega
     refine⟨_,C8 ht h0 h1 h3,?_⟩;generalize hL:((lo.map (λp:IntKind×Int=>p.2)).getD (0:Int)).toNat=L at *;generalize hH:((hi.map (λp:IntKind×Int=>p.2)).getD (len:Int)).toNat=H at *;refine .aV n z0 (p+L) (H - L) b (cap - L) _ hk qA qA (λhlt=>?_)
     grind[Addr.add_lit]
   .cases h
  .cases h
 .cases h
def cg (k:IntKind) (n:Int):List (AV×AV)->Option AV
 | []=>none
 | (.sc (.int k' m),x)::l=>if k'=k then (if m=n then some x else cg k n l) else none
 | _::_=>none
def w7 (k:IntKind):List (AV×AV)->Bool
 | []=>true
 | (.sc (.int k' _),_)::l=>(k'==k)&&w7 k l
 | _::_=>false
def eg (P:Program) (T:TypeId):Option (IntKind×TypeId) :=
 match P.underlying T with
 | some (.map key e)=>match P.underlying key with
  | some (.int k)=>some (k,e)
  | _=>none
 | _=>none
def sf (P:Program) (T:TypeId) (hp:Nm->Option AO) (x i:AV) (ok:Bool):Option AV :=
 match eg P T,i with
 | some (k,e),.sc (.int k' n)=>if k'=k then (match x with
  | .mp m=>match hp m with
   | some (.map es)=>if w7 k es then (match cg k n es with
    | some y=>some (if ok then .zX [y,.sc (.bool true)] else y)
    | none=>(wg P e).map (λz=>if ok then .zX [z,.sc (.bool false)] else z)) else none
   | _=>none
  | _=>none) else none
 | _,_=>none
theorem xj {k:IntKind} {n:Int}:∀ (ms:List MapEntry) (es:List (AV×AV)) (p:Nat),ms.length=es.length->(∀ (i:Nat) m e,ms[i]?=some m->es[i]?=some e->RV g w m.key e.1/\RV g w m.val e.2)->w7 k es=true ->
  ∃ r,Instr.findNow (.int k) (.int k n) ms p=some r/\match cg k n es with
   | some y=>∃ i v,r=some (p+i,v)/\RV g w v y/\(∃ m,ms[i]?=some m/\m.val=v/\m.key=.int k n)/\i<ms.length
   | none=>r=none
 | [],es,p,hl,_,_=>by
  obtain rfl:=ai (by simpa using hl.symm);exact⟨none,rfl,rfl⟩
 | m::ms,[],p,hl,_,_=>by simp at hl
 | m::ms,(ek,ev)::es,p,hl,hr,hm=>by
  unfold w7 at hm
  split at hm
  .simp_all
  .rename_i k' m' x l he;obtain⟨e1,rfl⟩:=List.cons.inj he;obtain⟨rfl,rfl⟩:=fC e1;simp only [ju,beq_iff_eq] at hm;obtain⟨rfl,hm⟩:=hm;obtain⟨h1,h2⟩:=hr 0 m _ rfl rfl;have hk:=h1.zy;by_cases hn:m'=n
   .subst hn;refine⟨some (p,m.val),by grind[Instr.findNow,Instr.sameNow],?_⟩
    simp_all<;>grind[cg]
   .obtain⟨r,f1,f2⟩:=xj (n:=n) ms es (p+1) qP (λi m e hm he=>hr (i+1) m e qP qP) hm;have hne:(n==m')=false:=qw;refine⟨r,by grind[Instr.findNow,Instr.sameNow],?_⟩;simp only [cg,if_true,if_neg hn]
    split
    .rename_i y hy;rw [hy] at f2;obtain⟨i,v,e1,e2,⟨m2,e3,e4⟩,e5⟩:=f2
     simp_all<;>grind
    simp_all
  .cases hm
theorem Gf {T e:TypeId} {k:IntKind} (h:eg P T=some (k,e)):∃ key,P.underlying T=some (.map key e)/\P.underlying key=some (.int k):=by
 grind[eg]
theorem GH {key:TypeId} {k:IntKind} {n:Int} {b:Bool} (h:P.underlying key=some (.int k)):(Instr.checkKey b 10000 key (.int k n)).run P w=.ok () w:=by
 have:∀ d,(Instr.checkKey b (d+1) key (.int k n)).run P w=.ok () w:=by
  simp_all[Instr.checkKey,underlying]
 simp_all
theorem Y3 {T:TypeId} {v u:Value} {x i z:AV} {ok:Bool} (hi0:Inv own C w0 g st.hp w) (hv:RV g w v x) (hu:RV g w u i) (h:sf P T st.hp x i ok=some z) :
  ∃ v',(Instr.lookup T v u ok).run P w=.ok v' w/\RV g w v' z:=by
 unfold sf at h
 split at h
 .rename_i k e k' n ht
  split at h
  .rename_i hk;subst hk
   split at h
   .rename_i m
    split at h
    .rename_i es hm
     split at h
     .rename_i hmk;obtain⟨key,hT,hkey⟩:=Gf ht;obtain rfl:=hu.zy
      cases hv with
      | mp _ b hb =>
       have ho:=hi0.obj _ _ hm;simp only [j6,hb] at ho;obtain⟨ms,clock,h1,_,h2,h3⟩:=ho;have hg:(getObj b).run P w=.ok (.map ms.toArray clock) w:=B4;obtain⟨r,f1,f2⟩:=xj (n:=n) ms es 0 h2 h3 hmk;have hck:=λb=>GH (P:=P) (w:=w) (n:=n) (b:=b) hkey
       split at h
       .rename_i y hy;rw [hy] at f2;obtain⟨i',v',rfl,hv',_⟩:=f2;obtain rfl:=sI h
        cases ok
        .exact⟨v',IS,hv'⟩
        .exact⟨.tuple #[v',.bool true],IS,.Am hv' (.sc _)⟩
       .rename_i hy;rw [hy] at f2;subst f2;obtain⟨z0,hz0,rfl⟩:=zu.1 h;obtain⟨v0,hr0,hv0⟩:=GK (g:=g) (w:=w) hz0
        cases ok
        .exact⟨v0,IN,hv0⟩
        .exact⟨.tuple #[v0,.bool false],IN,.Am hv0 (.sc _)⟩
     .cases h
    .cases h
   .cases h
  .cases h
 .cases h
def Cl (P:Program) (A:TypeId) (x:AV):Option AV :=
 if wM P A=some false then
  match x with
  | .jE t y=>if t=A then some y else none
  | _=>none
 else none
theorem Yc {T A:TypeId} {v:Value} {x z:AV} (hv:RV g w v x) (h:Cl P A x=some z):∃ v',(Instr.typeAssert v T A false).run P w=.ok v' w/\RV g w v' z:=by
 unfold Cl at h
 split at h
 .rename_i h1
  obtain⟨d,hu,hd⟩:∃ d,P.underlying A=some d/\∀ ms,d≠.interface ms:=by
   grind[wM]
  split at h
  .rename_i t y
   split at h
   .rename_i ht;subst ht;obtain rfl:=sI h
    cases hv<;>simp_all[Instr.typeAssert,va]
   .cases h
  .cases h
 .cases h
def pS:AV->Option AV
 | .pt id o=>some (.pt id o)
 | .el r o=>some (.el r o)
 | .ep n z i o=>some (.ep n z i o)
 | .fn (.func f) x y=>some (.fn (.func f) x y)
 | .sc (.func (.func f) x y)=>some (.sc (.func (.func f) x y))
 | _=>none
def yk (P:Program) (st:St) (o:Oper):Option AV :=
 match o.op with
 | .move x=>some (ev st x)
 | .pick c x y=>l8 (ev st c) (ev st x) (ev st y)
 | .load T x=>(ar st (ev st x)).bind (λp=>cU P T p.1 p.2)
 | .nilCheck x=>pS (ev st x)
 | .binOp op T x y _=>bY P T op (match y with|.const _=>true|_=>false) (ev st x) (ev st y)
 | .unOp op _ x=>tP op (ev st x)
 | .convert S D x=>xd P S D (ev st x)
 | .makeInterface T x=>AF P T (ev st x)
 | .slice T x lo hi none=>(lX (lo.map (ev st))).bind λl=>(lX (hi.map (ev st))).bind λh=>wC P T st.hp (ev st x) (l.map (·.2)) (h.map (·.2))
 | .fieldAddr T x f=>pE P T f (ev st x)
 | .field T x f=>sP P T f (ev st x)
 | .indexAddr T x i=>match ev st i with|.sc (.int _ n)=>xn P T (ev st x) n|_=>none
 | .index T x i=>match ev st i with|.sc (.int _ n)=>sR P T (ev st x) n|_=>none
 | .extract x i=>xh i (ev st x)
 | .build T parts=>rO P T (parts.toList.map (λp=>(p.1,ev st p.2)))
 | .typeAssert x _ A true=>np P A (ev st x)
 | .typeAssert x _ A false=>Cl P A (ev st x)
 | .makeFunc f xs ys=>some (.fn f (xs.toList.map (ev st)) (ys.toList.map (ev st)))
 | .lookup T x i ok=>sf P T st.hp (ev st x) (ev st i) ok
 | .call c=>match c.callee,c.args.toList,c.argTypes.toList with
  | .builtin .len,[x],[T]=>lT P T st.hp (ev st x)
  | _,_,_=>none
 | _=>none
theorem LK {lo:Option Operand} {l:Option (IntKind×Int)} (h:Rg P own C w0 g st a w) (hl:lX (lo.map (ev st))=some l):lo.map a.eval=l.map λp=>Value.int p.1 p.2:=by
 cases lo with
 | none=>grind[lX]
 | some x =>
  have hv:=h.ev x;simp only [u7] at hl ⊢;generalize Hm.ev st x=y at hl hv;unfold lX at hl
  grind[RV.zy]
theorem Lh {o:Oper} {z:AV} (h:Rg P own C w0 g st a w) (hq:yk P st o=some z):∃ v,(execOp a.eval o).run P w=.ok (.value v) w/\RV g w v z:=by
 have wrap:∀ (s:Sem Value),(∃ v,s.run P w=.ok v w/\RV g w v z)->∃ v,(do pure (Next.value (<- s)):Sem Next).run P w=.ok (.value v) w/\RV g w v z:=by
  simp_all
 unfold yk at hq;unfold execOp
 split at hq
 all_goals (rename_i hop;first|rw [hop]|simp_all)
 .obtain rfl:=sI hq;exact⟨_,rfl,h.ev _⟩
 .obtain⟨v,h1,h2⟩:=Y8 (w:=w) (h.ev _) (h.ev _) (h.ev _) hq;refine⟨v,?_,h2⟩;simp only [Sem.run_bind,Sem.run_pure] at h1 ⊢;revert h1
  cases (asBool (a.eval _)).run P w with
  | ok t w' =>
   simp
  | halt x w'=>simp
 .obtain⟨⟨cs,off⟩,h1,h2⟩:=fD.1 hq;exact wrap _ (Y2 h rfl h1 h2)
 .rename_i x;have hv:=h.ev x;generalize Hm.ev st x=y at hq hv;unfold pS at hq
  split at hq
  .obtain rfl:=sI hq;obtain⟨ad,e⟩:=hv.tB (.inl ⟨_,_,rfl⟩)
   simp_all
  .obtain rfl:=sI hq;obtain⟨ad,e⟩:=hv.tB (.inr (.inl ⟨_,_,rfl⟩))
   simp_all
  .obtain rfl:=sI hq;obtain⟨ad,e⟩:=hv.tB (.inr (.inr ⟨_,_,_,_,rfl⟩))
   simp_all
  .rename_i f0 _ _;obtain rfl:=sI hq
   have e:∃ vs us,a.eval x=.func (.func f0) vs us:=by
    generalize a.eval x=v at hv
    cases hv<;>grind
   obtain⟨vs,us,e⟩:=e
   simp_all
  .obtain rfl:=sI hq;have e:=hv.zy
   simp_all
  .cases hq
 .rename_i op T x y yT;obtain⟨v,h1,h2⟩:=YG (xo:=x) (yo:=y) (λhc=>qw) (h.ev _) (h.ev _) hq;exact wrap _ ⟨v,h1,h2⟩
 .exact wrap _ (Ye (h.ev _) hq)
 .exact wrap _ (YI (h.ev _) hq)
 .exact wrap _ (Y7 (h.ev _) hq)
 .rename_i T x lo hi;obtain⟨l,hl,hq⟩:=fD.1 hq;obtain⟨u,hu,hq⟩:=fD.1 hq;have e1:=LK h hl;have e2:=LK h hu;refine wrap (Instr.sliceAt T (a.eval x) (lo.map a.eval) (hi.map a.eval) none) ?_;rw [e1,e2];exact Y9 h.inv (h.ev _) hq
 .exact wrap _ (YQ (h.ev _) hq)
 .exact wrap _ (YR (h.ev _) hq)
 .rename_i T x i
  split at hq
  .rename_i k n e;have hi:=h.ev i;rw [e] at hi;refine wrap (Instr.indexAt T (a.eval x) (a.eval i)) ?_;rw [hi.zy];exact YZ (h.ev _) hq
  .cases hq
 .rename_i T x i
  split at hq
  .rename_i k n e;have hi:=h.ev i;rw [e] at hi;refine wrap (Instr.index T (a.eval x) (a.eval i)) ?_;rw [hi.zy];exact YY (h.ev _) hq
  .cases hq
 .exact wrap _ (YP (h.ev _) hq)
 .rename_i T parts;refine wrap _ (YH qB (λj p q hp hq'=>?_) hq);rw [Array.getElem?_map] at hp;obtain⟨p0,hp0,rfl⟩:=zu.1 hp;rw [jZ] at hq';obtain⟨q0,hq0,rfl⟩:=zu.1 hq'
  have:p0=q0:=by
   simp_all
  subst this;exact⟨rfl,h.ev _⟩
 .exact wrap _ (Yd (h.ev _) hq)
 .exact wrap _ (Yc (h.ev _) hq)
 .rename_i f xs ys;obtain rfl:=sI hq;refine wrap (Instr.makeFunc f (xs.map a.eval) (ys.map a.eval)) ⟨.func f (xs.map a.eval) (ys.map a.eval),rfl,?_⟩
  have:=RV.fn (g:=g) (w:=w) f (xs.toList.map a.eval) (ys.toList.map a.eval) (xs.toList.map (Hm.ev st)) (ys.toList.map (Hm.ev st)) qB qB (λj v x hv hx=>by
   rw [jZ] at hv hx;obtain⟨o1,e1,rfl⟩:=zu.1 hv;rw [e1] at hx;obtain rfl:=sI hx;exact h.ev _) (λj v x hv hx=>by
   rw [jZ] at hv hx;obtain⟨o1,e1,rfl⟩:=zu.1 hv;rw [e1] at hx;obtain rfl:=sI hx;exact h.ev _)
  have e1:(xs.toList.map a.eval).toArray=xs.map a.eval:=qw;have e2:(ys.toList.map a.eval).toArray=ys.map a.eval:=qw
  simp_all
 .exact wrap _ (Y3 h.inv (h.ev _) (h.ev _) hq)
 .rename_i c
  split at hq
  .rename_i x T hc ha hT;obtain⟨v,h1,h2⟩:=Y1 (ty:=o.type) (w:=w) h.inv (h.ev x) hq;refine⟨v,?_,h2⟩;have ha':c.args=#[x]:=qw;have hT':c.argTypes=#[T]:=qw
   simp_all[resolve,invoke,builtin]
  .cases hq
end
def aQ (P:Program) (o:Oper) (a:Act) (w:World) (K:Act->World->Prop):Prop :=
 (∃ v w',(execOp a.eval o).run P w=.ok (.value v) w'/\K (a.put o.dst v) w')\/∃ w',(execOp a.eval o).run P w=.ok .skip w'/\K (a.put o.dst undef) w'
theorem aQ.wp {P:Program} {o:Oper} {a:Act} {w:World} {K:Act->World->Prop} (h:aQ P o a w K) (Q:Exit->Act->World->Prop):o.wp P a w K Q:=by
 unfold Oper.wp;rcases h with⟨v,w',e,h⟩|⟨w',e,h⟩
 .rw [e];exact h
 .rw [e];exact h
def Gd (P:Program):Nat->TypeId->List Nat
 | 0,_=>[]
 | n+1,T=>match P.underlying T with
  | some (.struct fs)=>fs.toList.flatMap λf=>Gd P n f.type
  | some (.array k e)=>(List.replicate k (Gd P n e)).flatten
  | some (.slice e)=>[qf P e]
  | some _=>List.replicate (qf P T) 0
  | none=>[]
def z8 (P:Program) (T:TypeId):List Nat:=Gd P 20 T
def uO:AV->Option Nm
 | .hs (.s t) _ _ _=>some (.s t)
 | .pt (.s t) _=>some (.s t)
 | .mp (.s t)=>some (.s t)
 | _=>none
def jV:AV->Bool
 | .sc (.slice none 0 0)=>true
 | _=>false
def zc (z:Nat) (k:Nm) (x:AV):AV:=if jV x then .hs k z 0 0 else x
def yu (key:Nat->Nm) (es:List Nat):Nat->List AV->List AV
 | _,[]=>[]
 | j,x::l=>zc (es.getD j 0) (key j) x::yu key es (j+1) l
def vG (key:Nat->Nm) (es:List Nat):Nat->List AV->List (Nm×Nat)
 | _,[]=>[]
 | j,x::l=>if jV x then (key j,es.getD j 0)::vG key es (j+1) l else vG key es (j+1) l
def kK (key:Nat->Nm):Nat->List AV->List (Nm×Nm)
 | _,[]=>[]
 | j,x::l=>match uO x with
  | some k=>(k,key j)::kK key (j+1) l
  | none=>kK key (j+1) l
def canon:List (Nm×Nm)->St->St
 | [],st=>st
 | p::l,st=>canon l (st.move p.1 p.2)
def St.kL:List (Nm×Nat)->St->St
 | [],st=>st
 | p::l,st=>(St.kL l st).zT p.1 (.row p.2 [])
def St.dP:List (Nm×Nat)->St->St
 | [],st=>st
 | p::l,st=>St.dP l ((st.kill p.1).zT p.1 (.row p.2 []))
theorem HJ (key:Nat->Nm) (es:List Nat):∀ (l:List AV) (j:Nat),(yu key es j l).length=l.length
 := by intro x0;induction x0<;>grind[yu]
theorem HI (key:Nat->Nm) (es:List Nat):∀ (l:List AV) (j i:Nat),(yu key es j l)[i]?=(l[i]?).map (λx=>zc (es.getD (j+i) 0) (key (j+i)) x)
 := by intro x0;induction x0<;>grind[yu]
theorem UF (key:Nat->Nm) (es:List Nat):∀ (l:List AV) (j i:Nat) (x:AV),l[i]?=some x->jV x=true->(key (j+i),es.getD (j+i) 0)∈vG key es j l
 := by intro x0;induction x0<;>grind[vG]
theorem AH (key:Nat->Nm) (es:List Nat):∀ (l:List AV) (j:Nat) p,p∈vG key es j l->∃ i,p.1=key i
 | [],_,_,h=>by grind[vG]
 | y::l,j,p,h=>by
  simp only [vG] at h
  split at h
  .rcases vQ.1 h with rfl|h
   .grind
   .exact AH key es l (j+1) p h
  .exact AH key es l (j+1) p h
theorem RV.zc {g:Gh} {w:World} {v:Value} {x:AV} {z:Nat} {k:Nm} (hv:RV g w v x) (hk:jV x=true->g.φ k=none):RV g w v (zc z k x):=by
 unfold Hm.zc
 split
 .rename_i hn
  have:x=.sc (.slice none 0 0):=by
   grind[jV]
  subst this;rw [hv.zy];exact .cV k z (hk hn)
 .exact hv
theorem ZG:∀ (l:List (Nm×Nat)) (st:St) (m:Nm) (o:AO),(St.kL l st).hp m=some o->(∃ p∈l,p.1=m/\o=.row p.2 [])\/((∀ p∈l,p.1≠m)/\st.hp m=some o)
 := Dp
theorem GT:∀ (l:List (Nm×Nat)) (st:St),(St.kL l st).tm=st.tm
 := Dp
theorem A7:∀ (l:List (Nm×Nat)) (st:St),(St.kL l st).n=st.n/\(St.kL l st).gl=st.gl
 := Dp
theorem DR:∀ (l:List (Nm×Nat)) (st:St),(St.dP l st).n=st.n/\(St.dP l st).gl=st.gl
 | [],_=>⟨rfl,rfl⟩
 | p::l,st=>by rw [St.dP,(DR l _).1,(DR l _).2];exact⟨rfl,rfl⟩
theorem xa:∀ (l:List (Nm×Nm)) (st:St),(canon l st).n=st.n/\(canon l st).gl=st.gl
 | [],_=>⟨rfl,rfl⟩
 | p::l,st=>by rw [canon,(xa l _).1,(xa l _).2];exact⟨rfl,rfl⟩
noncomputable def Gh.fresh (g:Gh) (n:Nm) (b:Option Nat) (cap:Nat):Gh :=
 { C:=g.C,φ:=λm=>if m=n then b else (g.tr (kl n)).φ m,κ:=λm=>if m=n then cap else (g.tr (kl n)).κ m }
section
variable {P:Program} {own:Nat->Prop} {C:Nat->Prop} {w0:World} {g:Gh} {st:St} {a:Act} {w:World}
theorem gY (o:Obj) {b:Nat} (h:b<w.heap.size):(w.alloc o).heap[b]?=w.heap[b]?:=Below.heap_alloc w o b h
def iI (l:List (Nm×Nm)):Prop:=∀ p∈l,p.1.z7=false/\p.2.z7=false
theorem Rg.canon (l:List (Nm×Nm)) (hl:iI l):∀ {st:St} {g:Gh},Rg P own C w0 g st a w->kA P own C w0 g (canon l st) a w:=by
 induction l with
 | nil=>grind[u6.refl,kA,Hm.canon]
 | cons p l ih =>
  intro st g h;obtain⟨g',h1,h2⟩:=ih (λq hq=>hl q gi) (h.move p.1 p.2);exact⟨g',(u6.mv (hl p qB).1 (hl p qB).2).trans h1,h2⟩
theorem MZ {x:AV} {k:Nm} (h:uO x=some k):k.z7=false:=by
 unfold uO at h
 grind[Nm.z7]
theorem AQ (key:Nat->Nm) (hk:∀ i,(key i).z7=false):∀ (l:List AV) (j:Nat),iI (kK key j l)
 | [],_=>by simp [kK,iI]
 | x::l,j=>by
  simp only [kK]
  split
  .rename_i k hx;intro p hp;rcases vQ.1 hp with rfl|hp
   .grind[MZ]
   .exact AQ key hk l (j+1) p hp
  .exact AQ key hk l (j+1)
theorem Gh.RL {n m:Nm} (h:g.φ m=none):(g.tr (kl n)).φ m=none:=by
 grind[sW,kl,eh]
theorem Rg.dP (l:List (Nm×Nat)) (hlu:∀ p∈l,p.1.z7=false):∀ {st:St} {g:Gh},Rg P own C w0 g st a w->∃ g',Rg P own C w0 g' (St.dP l st) a w/\(∀ p∈l,g'.φ p.1=none)/\(∀ m,g.φ m=none->g'.φ m=none)/\u6 g g':=by
 induction l with
 | nil=>grind[St.dP,u6]
 | cons p l ih =>
  intro st g h;have gf:∀ k k',kl p.1 k=some k'->(g.tr (kl p.1)).φ k'=g.φ k/\(g.tr (kl p.1)).κ k'=g.κ k:=λ_ _ e=>Gh.eh (λ_ _ _=>KG) e
  have hs:=h.step (g':=g.tr (kl p.1)) (w':=w) (f:=kl p.1) (hp':=((st.kill p.1).zT p.1 (.row p.2 [])).hp) rfl gf rfl rfl rfl (qa _) (λ_ _=>rfl) (λ_ _ _=>rfl) (λn' o' e=>by
   simp only [St.zT] at e
   split at e
   .grind[j6,sW,Nm.kj]
   .obtain⟨o,e1,e2,e3⟩:=Eo e
    grind)
  obtain⟨g',h1,h2,h3,h4⟩:=ih (λq hq=>hlu q gi) hs;refine⟨g',h1,?_,λx hx=>h3 x (Gh.RL hx),(u6.kl (hlu p qB)).trans h4⟩
  grind[sW,Nm.kj]
theorem Bu (n:Nm) (b:Option Nat) (cap:Nat):∀ k k',kl n k=some k'->(g.fresh n b cap).φ k'=g.φ k/\(g.fresh n b cap).κ k'=g.κ k:=by
 grind[Nm.kj,Gh.fresh,Gh.eh,kl]
theorem kV (n:Nm) (b:Option Nat) (cap:Nat):(g.fresh n b cap).φ n=b/\(g.fresh n b cap).κ n=cap:=by simp [Gh.fresh]
theorem Bv {n m:Nm} {b:Option Nat} {cap:Nat} (h:Nm.under n m=true) (hne:m≠n):(g.fresh n b cap).φ m=none:=by
 grind[Gh.fresh,sW]
theorem u6.fresh {n:Nm} {b:Option Nat} {cap:Nat} (h:n.z7=false):u6 g (g.fresh n b cap):=λk i j=>by
 grind[Nm.z7,Gh.fresh,kl,u6]
theorem Rg.made (h:Rg P own C w0 g st a w) (n:Nm) (o:AO) (b cap:Nat) (w':World) (nl:List (Nm×Nat)) (hnl:∀ p∈nl,Nm.under n p.1=true/\p.1≠n) (dr:Nm->Bool)
  (h1:w'.os=w.os) (h2:w'.tape=w.tape) (h3:w'.output=w.output) (h4:w.heap.size<=w'.heap.size) (hb:w.heap.size<=b\/∃ m o,dr m=true/\st.hp m=some o/\g.φ m=some b) (hlt:b<w'.heap.size)
  (hw:∀ b',b'≠b->b'<w.heap.size->w'.heap[b']?=w.heap[b']?) (ho:j6 (g.fresh n (some b) cap) w' n o) :
  Rg P own C w0 (g.fresh n (some b) cap) (((St.kL nl (st.nm (kl n) (λm=>if dr m then none else jw n st.hp m)))).zT n o) a w':=by
 have hcond:¬ C b/\(w0.heap.size<=b\/own b):=by
  rcases hb with hb|⟨m,o,_,hm,hk⟩
  .exact⟨λhC=>absurd (h.inv.uU b hC) qA,.inl (ur h.inv.size hb)⟩
  .obtain⟨x1,x2,_⟩:=h.inv.qG m o b hm hk
   simp_all
 have far:∀ m o,dr m=false->st.hp m=some o->g.φ m≠some b:=by
  intro m o hd hm hk;rcases hb with hb|⟨m',o',hd',hm',hk'⟩
  .have:=(h.inv.qG m o b hm hk).2.2;omega
  .have:=h.inv.inj m m' o o' b hm hm' hk hk'
   simp_all
 have gf:=Bu (g:=g) n (some b) cap
 have key:∀ m o',(((St.kL nl (st.nm (kl n) (λm=>if dr m then none else jw n st.hp m)))).zT n o).hp m=some o' ->
   (m=n/\o'=o)\/(m≠n/\(∃ p∈nl,p.1=m/\o'=.row p.2 []))\/∃ q,m≠n/\dr m=false/\kl n m=some m/\st.hp m=some q/\o'=q.tr (kl n):=by
  intro m o' e;simp only [St.zT] at e
  split at e
  .simp_all
  .rename_i hne;rcases ZG nl _ m o' e with⟨p,q1,q2⟩|⟨_,q2⟩<;>grind[St.nm,Eo]
 have hC':∀ b',C b'->w'.heap[b']?=w.heap[b']?:=λb' hC=>hw b' (λe=>hcond.1 (e ▸ hC)) (h.inv.uU b' hC)
 have hs:=h.step (g':=g.fresh n (some b) cap) (w':=w') (f:=kl n) (hp':=(((St.kL nl (st.nm (kl n) (λm=>if dr m then none else jw n st.hp m)))).zT n o).hp) rfl gf h1 h2 h3 h4 hC'
  (λb' hb' hno=>hw b' (λe=>by
    grind) (uQ hb' h.inv.size)) (λm o' e=>by
  rcases key m o' e with⟨rfl,rfl⟩|⟨hne,p,hp,rfl,rfl⟩|⟨q,hne,hd,e1,e2,e3⟩
  .grind[kV,Bv]
  .grind[j6,Bv]
  .refine .inl ⟨m,q,e1,e2,e3,λb' hb'=>hw b' (λe=>?_) (h.inv.qG m q b' e2 hb').2.2⟩
   simp_all)
 grind[GT,A7,St.nm,St.zT]
theorem Rg.C9 (h:Rg P own C w0 g st a w) {n:Nm} {b cap:Nat} {w':World} (hw:∀ b',C b'->w'.heap[b']?=w.heap[b']?) {v:Value} {x:AV} (hv:RV g w v x):RV (g.fresh n (some b) cap) w' v (x.tr (kl n)) :=
 h.rv (g':=g.fresh n (some b) cap) rfl hw (Bu n (some b) cap) hv
def oY (P:Program) (T:TypeId) (d:Nat) (x:AV) (st:St):St :=
 if jV x then ((((st.kill (.s d)).zT (.s d) (.row (((yU P T).map (qf P)).getD 0) []))).put (some d) (.hs (.s d) (((yU P T).map (qf P)).getD 0) 0 0))
 else match uO x with
  | some k=>if k=.s d then st.put (some d) x else (st.move k (.s d)).put (some d) (x.tr (mv k (.s d)))
  | none=>st.put (some d) x
theorem Oy {o:Oper} {x:Operand} {d:Nat} (h:Rg P own C w0 g st a w) (ho:o.op=.assign x) (hd:o.dst=some d) (hn:d<st.n) :
  aQ P o a w λa' w'=>kA P own C w0 g (oY P o.type d (ev st x) st) a' w':=by
 have hv:=h.ev x;refine .inl ⟨a.eval x,w,by simp [execOp,ho],?_⟩;rw [hd];have hd':∀ (s:St) t,s.n=st.n->some d=some t->t<s.n:=qP;unfold oY
 split
 .rename_i hnil;obtain⟨g',h1,h2,h3,_⟩:=h.Kw (.s d) (((yU P o.type).map (qf P)).getD 0);refine⟨g',h3 rfl,h1.put (λt e=>hd' _ t rfl e) ?_⟩
  grind[jV,RV.zy]
 .split
  .rename_i k hk
   split
   .exact⟨g,.refl g,h.put (λt e=>hd' _ t rfl e) hv⟩
   .exact⟨_,u6.mv (MZ hk) rfl,(h.move k (.s d)).put (λt e=>hd' _ t rfl e) (h.rv (g':=g.tr (mv k (.s d))) rfl (λ_ _=>rfl) (λ_ _ e=>Gh.eh (λ_ _ _=>CO) e) hv)⟩
  .exact⟨g,.refl g,h.put (λt e=>hd' _ t rfl e) hv⟩
def bZ (P:Program) (T:TypeId) (d:Nat) (cs:List AV) (st:St):St :=
 let c1:=cs.map (AV.tr (kl (.s d)))
 let c2:=yu (Nm.c (.s d) 0) (z8 P T) 0 c1
 canon (kK (Nm.c (.s d) 0) 0 c2) (((St.kL (vG (Nm.c (.s d) 0) (z8 P T) 0 c1) (st.kill (.s d))).zT (.s d) (.row (qf P T) [c2])).put (some d) (.pt (.s d) 0))
theorem Hx {T:TypeId} {d:Nat} {vs:List Value} {cs:List AV} (h:Rg P own C w0 g st a w) (hn:d<st.n) (hl:vs.length=cs.length) (hz:cs.length=qf P T) (ho:∀ v∈vs,v.oneCell'=true)
  (hr:∀ (j:Nat) v x,vs[j]?=some v->cs[j]?=some x->RV g w v x) :
  kA P own C w0 g (bZ P T d cs st) (a.put (some d) (.pointer (some ⟨w.heap.size,0,none⟩))) (w.alloc (.cells vs.toArray T)):=by
 unfold bZ;generalize hc1:cs.map (AV.tr (kl (.s d)))=c1;have hC':∀ b',C b'->(w.alloc (.cells vs.toArray T)).heap[b']?=w.heap[b']?:=λb' hC=>gY _ (h.inv.uU b' hC)
 have hm:=h.made (.s d) (.row (qf P T) [yu (Nm.c (.s d) 0) (z8 P T) 0 c1]) w.heap.size 1 (w.alloc (.cells vs.toArray T)) (vG (Nm.c (.s d) 0) (z8 P T) 0 c1)
  (λp hp=>by
    grind[AH,Nm.under]) (λ_=>false) rfl rfl rfl qB (.inl (qa _)) qB (λb' _ hb'=>gY _ hb') (by
    simp only [j6,(kV (g:=g) (.s d) (some w.heap.size) 1).1,(kV (g:=g) (.s d) (some w.heap.size) 1).2];refine⟨vs.toArray,T,heap_alloc_new w _,qP,qe,qB,?_,?_,?_⟩
    .grind[HJ]
    .simp_all
    .intro i row hrow j x hx
     match i,hrow with
     | 0,hrow =>
      simp at hrow;subst hrow;rw [HI,<- hc1,jZ] at hx;obtain⟨x1,hx1,rfl⟩:=zu.1 hx;obtain⟨x0,hx0,rfl⟩:=zu.1 hx1;have hj':j<vs.length:=qw;have:vs.toArray.getD (0 * qf P T+j) undef=vs[j]:=by simp [hj']
      rw [this];refine (h.C9 hC' (hr j _ x0 (gE hj') hx0)).zc λ_=>Bv ww qB)
 have e:(st.nm (kl (.s d)) (λm=>if (λ_=>false:Nm->Bool) m then none else jw (.s d) st.hp m))=st.kill (.s d):=sB;rw [e] at hm
 exact (hm.put (d:=some d) (λt e=>by
  obtain rfl:=sI e;simp only [St.zT,(A7 _ _).1];exact hn) (.pt _ _ _ (kV _ _ _).1)).canon _ (AQ _ (λ_=>rfl) _ _) |> λ⟨g',u,r⟩=>⟨g',(u6.fresh rfl).trans u,r⟩
theorem PS {o:Oper} {T:TypeId} {x:Operand} {d:Nat} {cs:List AV} (h:Rg P own C w0 g st a w) (ho:o.op=.box T x) (hd:o.dst=some d) (hn:d<st.n) (hq:(ev st x).cells=some cs) (hz:cs.length=qf P T) :
  aQ P o a w λa' w'=>kA P own C w0 g (bZ P T d cs st) a' w':=by
 refine .inl ⟨.pointer (some ⟨w.heap.size,0,none⟩),w.alloc (.cells (a.eval x).cells T),?_,?_⟩
 .simp [execOp,ho,Instr.box,newVar,newRow]
 .rw [hd];obtain⟨h1,h2,h3⟩:=(h.ev x).cells hq;have:=Hx (T:=T) h hn h1 hz h2 h3;omega
def jx (P:Program) (T:TypeId):Option (List AV):=(yC P T).bind λl=>if l.all Value.oneCell'&&(l.length==qf P T) then some (l.map .sc) else none
theorem HK {T:TypeId} {zv:List AV} (h:jx P T=some zv):∃ i z,P.info? T=some i/\i.zero=some z/\(∀ v∈z.cells.toList,v.oneCell'=true)/\zv=z.cells.toList.map .sc/\zv.length=qf P T:=by
 grind[jx,fD,yC]
theorem Ol {o:Oper} {T:TypeId} {d:Nat} {zs:List AV} (h:Rg P own C w0 g st a w) (ho:o.op=.alloc T) (hd:o.dst=some d) (hn:d<st.n) (hq:jx P T=some zs) :
  aQ P o a w λa' w'=>kA P own C w0 g (bZ P T d zs st) a' w':=by
 obtain⟨i,z,q1,q2,q3,rfl,q4⟩:=HK hq;refine .inl ⟨.pointer (some ⟨w.heap.size,0,none⟩),w.alloc (.cells z.cells T),?_,?_⟩
 .simp_all[execOp,Instr.alloc,zeroValue,typeInfo,newVar,newRow]
 .rw [hd]
  have:=Hx (T:=T) (vs:=z.cells.toList) h hn qB q4 q3 (λj v x hv hx=>by
   rw [jZ,hv] at hx;obtain rfl:=sI hx;exact .sc _)
  omega
end
end Go.Hm
end
