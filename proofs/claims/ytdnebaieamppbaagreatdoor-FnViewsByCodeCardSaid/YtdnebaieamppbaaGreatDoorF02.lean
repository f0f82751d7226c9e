import Derived.Test.YtdnebaieamppbaaGreatDoorF01
set_option linter.unusedSimpArgs false
set_option linter.unusedVariables false
set_option maxRecDepth 100000
set_option maxHeartbeats 4000000

section
namespace Go.Hm
open Go Go.RowKit
section
variable {P:Program} {own:Nat->Prop} {C:Nat->Prop} {w0:World} {g:Gh} {st:St} {a:Act} {w:World}
def TH (op:UnOp):AV->Option AV
 | .sc (.bool b)=>match op with|.not=>some (.sc (.bool (!b)))|_=>none
 | .sc (.int k n)=>match op with|.neg=>some (.sc (.int k (k.wrap (-n))))|_=>none
 | _=>none
theorem LA {op:UnOp} {v:Value} {x z:AV} (hv:RV g w v x) (h:TH op x=some z):∃ v',(Op.unary op v).run P w=.ok v' w/\RV g w v' z:=by
 unfold TH at h
 split at h
 .obtain rfl:=hv.Ye
  cases op <;> simp at h
  subst h;exact⟨_,rfl,.sc _⟩
 .obtain rfl:=hv.Ye
  cases op <;> simp at h
  subst h;exact⟨.int _ (IntKind.wrap _ (-_)),by simp [Op.unary,Op.intArith],.sc _⟩
 .cases h
def it (c x y:AV):Option AV :=
 match c with
 | .sc (.bool t)=>match x,y with
  | .sc (.bool p),.sc (.bool q)=>some (.sc (.bool (bif t then p else q)))
  | x,y=>some (bif t then x else y)
 | _=>none
theorem Ea {vc vx vy:Value} {c x y z:AV} (hc:RV g w vc c) (hx:RV g w vx x) (hy:RV g w vy y) (h:it c x y=some z) :
  ∃ v',(do pure (if <- asBool vc then vx else vy):Sem Value).run P w=.ok v' w/\RV g w v' z:=by
 unfold it at h
 split at h
 .rename_i t;obtain rfl:=hc.Ye
  split at h
  .obtain rfl:=hx.Ye;obtain rfl:=hy.Ye;obtain rfl:=sI h
   cases t <;> exact⟨_,rfl,.sc _⟩
  .obtain rfl:=sI h
   cases t
   .exact⟨_,rfl,hy⟩
   .exact⟨_,rfl,hx⟩
 .cases h
def Q3 (P:Program) (T:TypeId):Bool:=match P.underlying T with|some .string=>true|_=>false
def yQ (P:Program) (T:TypeId):Bool:=match P.underlying T with|some (.slice _)=>true|_=>false
def Vj (P:Program) (T:TypeId):Bool:=match P.underlying T with|some (.map _ _)=>true|_=>false
def AN (P:Program) (T:TypeId) (hp:Nm->Option AO):AV->Option AV
 | .sl _ rows=>if yQ P T then some (.sc (.int .i64 rows.length)) else none
 | .hs _ _ _ len=>if yQ P T then some (.sc (.int .i64 len)) else none
 | .sc (.slice none 0 0)=>if yQ P T then some (.sc (.int .i64 0)) else none
 | .sc (.string s)=>if Q3 P T then some (.sc (.int .i64 s.size)) else none
 | .mp n=>if Vj P T then (match hp n with|some (.map es)=>some (.sc (.int .i64 es.length))|_=>none) else none
 | _=>none
theorem um {T ty:TypeId} {ad:Option Addr} {n c:Nat} (h:yQ P T=true):(Builtin.len_ #[T] ty #[.slice ad n c]).run P w=.ok (.int .i64 n) w:=by
 unfold yQ at h
 split at h<;>simp_all[Builtin.len_,goInt,zk]
theorem Ie {T ty:TypeId} {v:Value} {x z:AV} (hi:Inv own C w0 g st.hp w) (hv:RV g w v x) (h:AN P T st.hp x=some z):∃ v',(Builtin.len_ #[T] ty #[v]).run P w=.ok v' w/\RV g w v' z:=by
 unfold AN at h
 split at h
 .split at h
  .rename_i ht;obtain rfl:=sI h
   cases hv with
   | Zv=>exact⟨_,um ht,.sc _⟩
   | slC b off cap n E rows f hC hn=>subst hn;exact⟨_,um ht,.sc _⟩
  .cases h
 .split at h
  .rename_i ht;obtain rfl:=sI h
   cases hv with
   | hsN=>exact⟨_,um ht,.sc _⟩
   | hsB=>exact⟨_,um ht,.sc _⟩
  .cases h
 .split at h
  .rename_i ht;obtain rfl:=sI h;obtain rfl:=hv.Ye;exact⟨_,um ht,.sc _⟩
  .cases h
 .split at h
  .rename_i ht;obtain rfl:=sI h;obtain rfl:=hv.Ye;unfold Q3 at ht
   split at ht
   .rename_i hu;exact⟨_,by simp [Builtin.len_,zk hu,goInt],.sc _⟩
   .cases ht
  .cases h
 .split at h
  .rename_i ht
   split at h
   .rename_i n es hes;obtain rfl:=sI h
    cases hv with
    | mp _ b hk =>
     have ho:=hi.obj _ _ hes;simp only [Zu,hk] at ho;obtain⟨ms,clock,h1,_,h2,_⟩:=ho;unfold Vj at ht
     split at ht
     .rename_i k e hu;have hg:(getObj b).run P w=.ok (.map ms.toArray clock) w:=BB;exact⟨.int .i64 es.length,by simp_all[Builtin.len_,goInt,zk],.sc _⟩
     .cases ht
   .cases h
  .cases h
 .cases h
def Ma (i:Nat):AV->Option AV
 | .Zg l=>l[i]?
 | _=>none
theorem Ih {i:Nat} {v:Value} {x z:AV} (hv:RV g w v x) (h:Ma i x=some z):∃ v',(Instr.extract v i).run P w=.ok v' w/\RV g w v' z:=by
 cases x with
 | Zg l =>
  obtain⟨vs,rfl,_,hr⟩:=KQ hv;obtain⟨u,hu,hru⟩:=hr i z h
  simp_all[Instr.extract]
 | _=>simp [Ma] at h
theorem Gw {T:TypeId} {vs:List Value} {cs:List AV} {off:Nat} {z:AV} (hl:vs.length=cs.length) (hr:∀ (j:Nat) y,cs[j]?=some y->∃ u,vs[j]?=some u/\RV g w u y) (h:H5 P T cs off=some z) :
  ∃ v',(part T vs.toArray off).run P w=.ok v' w/\RV g w v' z:=by
 unfold H5 at h
 split at h
 .rename_i hagg
  split at h
  .rename_i hle;obtain rfl:=sI h;refine⟨.agg ((vs.drop off).take (Yh P T)).toArray,?_,?_⟩
   .simp_all[part,wn,io,nC]
   constructor<;>grind
  .cases h
 .rename_i hagg;obtain⟨u,hu,hru⟩:=hr off z h
  simp_all[part,wn]
 .cases h
def JS (P:Program) (T:TypeId) (f:Nat):AV->Option AV
 | .agg cs=>match Yk P T f with
  | some (o,e)=>H5 P e cs o
  | none=>none
 | _=>none
theorem Gm {T:TypeId} {f o:Nat} {e:TypeId} (h:Yk P T f=some (o,e)):∃ fs fd,P.underlying T=some (.struct fs)/\fs[f]?=some fd/\fd.offset=o/\fd.type=e:=by
 grind[Yk]
theorem Ig {T:TypeId} {f:Nat} {v:Value} {x z:AV} (hv:RV g w v x) (h:JS P T f x=some z):∃ v',(Instr.field T v f).run P w=.ok v' w/\RV g w v' z:=by
 cases x with
 | agg cs =>
  simp only [JS] at h
  split at h
  .rename_i o e ht;obtain⟨fs,fd,hu,hfd,rfl,rfl⟩:=Gm ht;obtain⟨vs,rfl,hl,hr⟩:=cI hv;obtain⟨v',h1,h2⟩:=Gw hl hr h
   simp_all[Instr.field,asAgg,zk]
  .cases h
 | _=>simp [JS] at h
def JM (P:Program) (T:TypeId) (x:AV) (n:Int):Option AV :=
 match x with
 | .sc (.string s)=>if Q3 P T/\0<=n then (s.data.toList[n.toNat]?).map (λb=>.sc (.int .u8 b.toNat)) else none
 | .agg cs=>match Jp P T with
  | some (len,e)=>if 0<=n/\n<len then H5 P e cs (n.toNat * Yh P e) else none
  | none=>none
 | _=>none
theorem If {T:TypeId} {k:IntKind} {n:Int} {v:Value} {x z:AV} (hv:RV g w v x) (h:JM P T x n=some z):∃ v',(Instr.index T v (.int k n)).run P w=.ok v' w/\RV g w v' z:=by
 unfold JM at h
 split at h
 .rename_i s;obtain rfl:=hv.Ye
  split at h
  .rename_i hc;obtain⟨ht,h0⟩:=hc;obtain⟨b,hb,rfl⟩:=ui.1 h;unfold Q3 at ht
   split at ht
   .rename_i hu
    have hs:s[n.toNat]?=some b:=by
     have hlt:n.toNat<s.size:=by have:=(gS hb).1;simp_all
     have:s[n.toNat]?=some (s[n.toNat]'hlt):=getElem?_pos s n.toNat hlt;rw [this];have h2:=(gS hb).2;rw [<- h2]
     rfl
    exact⟨_,by simp_all[Instr.index,asIntOf,zk],.sc _⟩
   .cases ht
  .cases h
 .rename_i cs
  split at h
  .rename_i len e ht
   split at h
   .rename_i hc;obtain⟨h0,h1⟩:=hc;obtain⟨hu,hi⟩:=By ht;obtain⟨vs,rfl,hl,hr⟩:=cI hv;obtain⟨v',h2,h3⟩:=Gw hl hr h
    simp_all[Instr.index,asIntOf,zk,io]
   .cases h
  .cases h
 .cases h
def yv (P:Program) (T:TypeId):Option Bool:=match P.underlying T with|some (.interface _)=>some true|some _=>some false|none=>none
def Lb (P:Program) (T:TypeId) (x:AV):Option AV:=if yv P T=some false then some (.Zf T x) else none
theorem Ib {T:TypeId} {v:Value} {x z:AV} (hv:RV g w v x) (h:Lb P T x=some z):∃ v',(Instr.makeInterface T v).run P w=.ok v' w/\RV g w v' z:=by
 unfold Lb at h
 split at h
 .rename_i h1;obtain rfl:=sI h;refine⟨.iface T v,?_,.Zf T v x hv⟩;unfold yv at h1
  cases hu:P.underlying T with
  | none=>simp_all
  | some d=>cases d <;> simp [hu] at h1 <;> simp [Instr.makeInterface,zk hu]
 .cases h
def bY (P:Program) (T:TypeId):Option AV :=
 match (P.info? T).bind (·.zero) with
 | some (.agg cs)=>some (.agg (cs.toList.map .sc))
 | some v=>some (.sc v)
 | none=>none
theorem oc {T:TypeId} {z:AV} (h:bY P T=some z):∃ v,(zeroValue T).run P w=.ok v w/\RV g w v z:=by
 unfold bY at h
 split at h
 .rename_i cs hz;obtain rfl:=sI h;obtain⟨i,hi,hiz⟩:=sN.1 hz;refine⟨.agg cs,by simp_all[zeroValue,typeInfo],?_⟩
  have:=RV.agg (g:=g) (w:=w) cs.toList (cs.toList.map .sc) qB λj v y hv hy=>by
   rw [kU,hv] at hy;obtain rfl:=sI hy;exact .sc _
  omega
 .rename_i v hn hz;obtain rfl:=sI h;obtain⟨i,hi,hiz⟩:=sN.1 hz;exact⟨v,by simp_all[zeroValue,typeInfo],.sc _⟩
 .cases h
def Bx (P:Program) (A:TypeId) (x:AV):Option AV :=
 if yv P A=some false then
  match x with
  | .Zf t y=>if t=A then some (.Zg [y,.sc (.bool true)]) else (bY P A).map (λz=>.Zg [z,.sc (.bool false)])
  | .sc .nilIface=>(bY P A).map (λz=>.Zg [z,.sc (.bool false)])
  | _=>none
 else none
theorem RV.qBs {u v:Value} {x y:AV} (h1:RV g w u x) (h2:RV g w v y):RV g w (.tuple #[u,v]) (.Zg [x,y]):=by
 constructor<;>grind
theorem I9 {T A:TypeId} {v:Value} {x z:AV} (hv:RV g w v x) (h:Bx P A x=some z):∃ v',(Instr.typeAssert v T A true).run P w=.ok v' w/\RV g w v' z:=by
 unfold Bx at h
 split at h
 .rename_i h1
  obtain⟨d,hu,hd⟩:∃ d,P.underlying A=some d/\∀ ms,d≠.interface ms:=by
   grind[yv]
  split at h
  .rename_i t y
   have hv':∃ u,v=.iface t u/\RV g w u y:=by
    cases hv<;>grind
   obtain⟨u,rfl,hy⟩:=hv'
   split at h
   .rename_i ht;subst ht;obtain rfl:=sI h;refine⟨.tuple #[u,.bool true],?_,.qBs hy (.sc _)⟩
    simp_all[Instr.typeAssert,zk]
   .rename_i ht;obtain⟨z0,hz0,rfl⟩:=ui.1 h;obtain⟨v0,hr0,hv0⟩:=oc (g:=g) (w:=w) hz0;refine⟨.tuple #[v0,.bool false],?_,.qBs hv0 (.sc _)⟩
    simp_all[Instr.typeAssert,zk]
  .obtain rfl:=hv.Ye;obtain⟨z0,hz0,rfl⟩:=ui.1 h;obtain⟨v0,hr0,hv0⟩:=oc (g:=g) (w:=w) hz0;refine⟨.tuple #[v0,.bool false],?_,.qBs hv0 (.sc _)⟩
   simp_all[Instr.typeAssert,zk]
  .cases h
 .cases h
def V0 (P:Program) (T:TypeId):Option IntKind:=match P.underlying T with|some (.int k)=>some k|_=>none
def Mh (P:Program) (S D:TypeId):AV->Option AV
 | .sc (.int _ n)=>match V0 P D,P.underlying S with|some k,some (.int _)=>some (.sc (.int k (k.wrap n)))|_,_=>none
 | _=>none
theorem Ii {S D:TypeId} {v:Value} {x z:AV} (hv:RV g w v x) (h:Mh P S D x=some z):∃ v',(convert S D v).run P w=.ok v' w/\RV g w v' z:=by
 unfold Mh at h
 split at h
 .obtain rfl:=hv.Ye
  split at h
  .rename_i k _ hk hs;obtain rfl:=sI h;unfold V0 at hk
   split at hk
   .rename_i k' hd;obtain rfl:=sI hk;exact⟨_,by simp_all[convert,Conv.intToInt,zk],.sc _⟩
   .cases hk
  .cases h
 .cases h
def A8 (P:Program) (T:TypeId) (cs:List AV):List (Nat×AV)->Option (List AV)
 | []=>some cs
 | (i,x)::rest=>match Yk P T i,x.cells with
  | some (o,e),some ds=>if ds.length=Yh P e/\o+ds.length<=cs.length then A8 P T (cs.take o++ds++cs.drop (o+ds.length)) rest else none
  | _,_=>none
def vd (P:Program) (T:TypeId):Bool:=match P.underlying T with|some (.struct fs)=>fs.toList.all (λf=>(P.info? f.type).isSome)|_=>false
def Ja (P:Program) (T:TypeId) (parts:List (Nat×AV)):Option AV :=
 if vd P T then
  match yP P T with
  | some z=>(A8 P T (z.map .sc) parts).map .agg
  | none=>none
 else none
theorem xl {α β:Type} {f:α->Sem β} {h:α->β}:∀ (l:List α),(∀ x∈l,(f x).run P w=.ok (h x) w)->(l.mapM f).run P w=.ok (l.map h) w
 := by intro x0;induction x0<;>simp_all
theorem CR {α β:Type} {f:α->Sem β} {h:α->β} (l:Array α) (hl:∀ x∈l,(f x).run P w=.ok (h x) w):(l.mapM f).run P w=.ok (l.map h) w:=by
 have:=xl (P:=P) (w:=w) (f:=f) (h:=h) l.toList (λx hx=>hl x qH)
 have e:l.mapM f=Functor.map List.toArray (l.toList.mapM f):=by
  rw [Array.mapM_eq_mapM_toList]
 simp_all<;>grind
theorem DV (o:Nat):∀ (us:List Value) (i:Nat) (cs:Array Value),o+i+us.length<=cs.size ->
  (us.zipIdx i).foldl (λcs (x:Value×Nat)=>cs.setIfInBounds (o+x.2) x.1) cs=(cs.toList.take (o+i)++us++cs.toList.drop (o+i+us.length)).toArray:=by
 intro us
 induction us with
 | nil=>simp
 | cons v us ih =>
  simp_all<;>grind[list_seg_step]
theorem M7 {T:TypeId} {fs:Array Field} (hu:P.underlying T=some (.struct fs)):∀ (parts:List (Nat×AV)) (vp:List (Nat×Value)) (cs:List AV) (vc:Array Value) (zs:List AV),
  vp.length=parts.length->(∀ (j:Nat) p q,vp[j]?=some p->parts[j]?=some q->p.1=q.1/\RV g w p.2 q.2) ->
  vc.size=cs.length->(∀ (j:Nat) y,cs[j]?=some y->∃ u,vc[j]?=some u/\RV g w u y)->A8 P T cs parts=some zs ->
  ∃ vz,Instr.fill ((fs.map (λf=>(f.offset,Yh P f.type)))[·]?) vc vp=some vz/\vz.size=zs.length/\∀ (j:Nat) y,zs[j]?=some y->∃ u,vz[j]?=some u/\RV g w u y:=by
 intro parts
 induction parts with
 | nil =>
  grind[A8,Instr.fill]
 | cons q parts ih =>
  intro vp cs vc zs hl hp hs hr h;obtain⟨i,x⟩:=q
  cases vp with
  | nil=>simp at hl
  | cons p vp =>
   obtain⟨i',v⟩:=p;obtain⟨e1,hv⟩:=hp 0 _ _ rfl rfl;simp only at e1 hv;subst e1;simp only [A8] at h
   split at h
   .rename_i o e ds ht hc
    split at h
    .rename_i hcond;obtain⟨h1,h2⟩:=hcond;obtain⟨fs',fd,hu',hfd,rfl,rfl⟩:=Gm ht;rw [hu] at hu'
     injection hu' with hu'
     injection hu' with hu'
     subst hu';obtain⟨c1,c2,c3⟩:=hv.cells hc;have hlen:v.cells.size=ds.length:=qA;have hplace:(fs.map (λf=>(f.offset,Yh P f.type)))[i']?=some (fd.offset,Yh P fd.type):=by simp [hfd]
     have hfold:(v.cells.zipIdx.foldl (λcs (x:Value×Nat)=>cs.setIfInBounds (fd.offset+x.2) x.1) vc)=(vc.toList.take fd.offset++v.cells.toList++vc.toList.drop (fd.offset+v.cells.toList.length)).toArray:=by
      have:=DV fd.offset v.cells.toList 0 vc qv
      grind[Array.size]
     obtain⟨vz,hz1,hz2,hz3⟩:=ih vp (cs.take fd.offset++ds++cs.drop (fd.offset+ds.length)) (vc.toList.take fd.offset++v.cells.toList++vc.toList.drop (fd.offset+v.cells.toList.length)).toArray zs qe
      (λj p q hj hq=>hp (j+1) p q qe qe)
      qv
      (λj y hy=>by
        grind[dB]) h
     grind[Instr.fill]
    .cases h
   .cases h
theorem Ij {T:TypeId} {parts:List (Nat×AV)} {vp:Array (Nat×Value)} {z:AV} (hl:vp.size=parts.length) (hp:∀ (j:Nat) p q,vp[j]?=some p->parts[j]?=some q->p.1=q.1/\RV g w p.2 q.2)
  (h:Ja P T parts=some z):∃ v',(Instr.build T vp).run P w=.ok v' w/\RV g w v' z:=by
 unfold Ja at h
 split at h
 .rename_i hf
  split at h
  .rename_i zc hz;obtain⟨zs,hzs,rfl⟩:=ui.1 h;unfold vd at hf
   split at hf
   .rename_i fs hu;unfold yP at hz;obtain⟨zv,hzv,rfl⟩:=ui.1 hz;obtain⟨i,hi,hiz⟩:=sN.1 hzv
    obtain⟨vz,h1,h2,h3⟩:=M7 (g:=g) (w:=w) hu parts vp.toList _ zv.cells zs qA (λj p q hj hq=>hp j p q qH hq) qB
     (λj y hy=>by
       rw [kU] at hy;obtain⟨u,hu,rfl⟩:=ui.1 hy;exact⟨u,qH,.sc _⟩) hzs
    have hm:=CR (P:=P) (w:=w) (f:=λf:Field=>(do pure (f.offset,<- sizeOf f.type):Sem (Nat×Nat))) (h:=λf=>(f.offset,Yh P f.type)) fs (λf hfm=>by
     have:=uB.1 hf f qH;simp [io this])
    refine⟨.agg vz,?_,?_⟩
    .simp only [Instr.build,Sem.run_bind,zeroValue,typeInfo,run_program,hi,Result.andThen_ok,Sem.run_pure,hiz,zk hu,hm,h1]
    constructor<;>grind
   .cases hf
  .cases h
 .cases h
end
section
variable {P:Program} {own:Nat->Prop} {C:Nat->Prop} {w0:World} {g:Gh} {st:St} {a:Act} {w:World}
def iu:Option AV->Option (Option (IntKind×Int))
 | none=>some none
 | some (.sc (.int k n))=>some (some (k,n))
 | _=>none
def ft (hp:Nm->Option AO) (n:Nm) (z:Nat):Nat:=match hp n with|some (.row z' rows)=>if z'=z then rows.length else 0|_=>0
theorem oh {hp:Nm->Option AO} {n:Nm} {z k:Nat} (h:k<ft hp n z):∃ rows,hp n=some (.row z rows)/\k<rows.length:=by
 grind[ft]
def sY (P:Program) (T:TypeId) (hp:Nm->Option AO) (x:AV) (lo hi:Option Int):Option AV :=
 match x with
 | .sc (.string s)=>if Q3 P T/\0<=lo.getD 0/\lo.getD 0<=hi.getD s.size/\hi.getD s.size<=s.size then some (.sc (.string (s.extract (lo.getD 0).toNat (hi.getD s.size).toNat))) else none
 | .sl z rows=>match Zx P T with
  | some e=>if z=Yh P e/\0<=lo.getD 0/\lo.getD 0<=hi.getD rows.length/\hi.getD rows.length<=rows.length then some (.sl z ((rows.drop (lo.getD 0).toNat).take ((hi.getD rows.length).toNat - (lo.getD 0).toNat))) else none
  | none=>none
 | .hs n z p len=>match Zx P T with
  | some e=>if z=Yh P e/\0<=lo.getD 0/\lo.getD 0<=hi.getD len/\(hi.getD len<=len\/p+(hi.getD len).toNat<=ft hp n z) then some (.hs n z (p+(lo.getD 0).toNat) ((hi.getD len).toNat - (lo.getD 0).toNat)) else none
  | none=>none
 | _=>none
theorem tM {b:Bool} {len cap:Nat} {lo hi:Option (IntKind×Int)} (h0:0<=(lo.map (λp:IntKind×Int=>p.2)).getD (0:Int)) (h1:(lo.map (λp:IntKind×Int=>p.2)).getD (0:Int)<=(hi.map (λp:IntKind×Int=>p.2)).getD (len:Int)) (h2:(hi.map (λp:IntKind×Int=>p.2)).getD (len:Int)<=cap) :
  (Instr.sliceBounds b len cap (lo.map λp=>.int p.1 p.2) (hi.map λp=>.int p.1 p.2) none).run P w=.ok (((lo.map (λp:IntKind×Int=>p.2)).getD (0:Int)).toNat,((hi.map (λp:IntKind×Int=>p.2)).getD (len:Int)).toNat,cap) w:=by
 have hb:∀ (k:IntKind) (i:Int) (y:Nat) (c:BoundsCode),0<=i->i<=y->(Instr.sliceBound (.int k i) y c).run P w=.ok i.toNat w:=by
  simp_all[Instr.sliceBound,asIntOf]
 cases lo with
 | none =>
  cases hi<;>simp_all[Instr.sliceBounds]
 | some p =>
  cases hi with
  | none =>
   simp_all[Instr.sliceBounds]
  | some q =>
   simp_all<;>grind[Instr.sliceBounds,Sem.run_bind,Sem.run_pure,Result.andThen_ok]
theorem w6 {T E:TypeId} {ad:Option Addr} {len cap:Nat} {lo hi:Option (IntKind×Int)} (ht:Zx P T=some E) (h0:0<=(lo.map (λp:IntKind×Int=>p.2)).getD (0:Int)) (h1:(lo.map (λp:IntKind×Int=>p.2)).getD (0:Int)<=(hi.map (λp:IntKind×Int=>p.2)).getD (len:Int)) (h2:(hi.map (λp:IntKind×Int=>p.2)).getD (len:Int)<=cap) :
  (Instr.sliceAt T (.slice ad len cap) (lo.map λp=>.int p.1 p.2) (hi.map λp=>.int p.1 p.2) none).run P w =
    .ok (.slice (if cap=((lo.map (λp:IntKind×Int=>p.2)).getD (0:Int)).toNat then ad else ad.map (·.add (((lo.map (λp:IntKind×Int=>p.2)).getD (0:Int)).toNat * Yh P E))) (((hi.map (λp:IntKind×Int=>p.2)).getD (len:Int)).toNat - ((lo.map (λp:IntKind×Int=>p.2)).getD (0:Int)).toNat) (cap - ((lo.map (λp:IntKind×Int=>p.2)).getD (0:Int)).toNat)) w:=by
 obtain⟨hu,hi'⟩:=Gn ht
 simp_all[Instr.sliceAt,Instr.slice,zk,tM,io]
theorem Ia {T:TypeId} {v:Value} {x z:AV} {lo hi:Option (IntKind×Int)} (hi0:Inv own C w0 g st.hp w) (hv:RV g w v x) (h:sY P T st.hp x (lo.map (·.2)) (hi.map (λp:IntKind×Int=>p.2))=some z) :
  ∃ v',(Instr.sliceAt T v (lo.map λp=>.int p.1 p.2) (hi.map λp=>.int p.1 p.2) none).run P w=.ok v' w/\RV g w v' z:=by
 unfold sY at h
 split at h
 .rename_i s;obtain rfl:=hv.Ye
  split at h
  .rename_i hc;obtain⟨ht,h0,h1,h2⟩:=hc;obtain rfl:=sI h;unfold Q3 at ht
   split at ht
   .rename_i hu;refine⟨_,?_,.sc _⟩
    simp_all[Instr.sliceAt,Instr.slice,zk,tM]
   .cases ht
  .cases h
 .rename_i z0 rows
  split at h
  .rename_i e ht
   split at h
   .rename_i hc;obtain⟨hz,h0,h1,h2⟩:=hc;obtain rfl:=sI h
    cases hv with
    | Zv ad cap _ =>
     simp only [Dy] at h0 h1 h2 ⊢;have h2':(hi.map (λp:IntKind×Int=>p.2)).getD ((0:Nat):Int)<=(cap:Int):=Int.le_trans h2 qA;refine⟨_,w6 ht h0 h1 h2',?_⟩;have e:((hi.map (λp:IntKind×Int=>p.2)).getD ((0:Nat):Int)).toNat - ((lo.map (λp:IntKind×Int=>p.2)).getD (0:Int)).toNat=0:=qA;rw [e];constructor<;>grind
    | slC b off cap n _ rows f hC hn hcap hu hcell ho hr =>
     rw [hn] at h1 h2 ⊢;refine⟨_,w6 ht h0 h1 qA,?_⟩;generalize hL:((lo.map (λp:IntKind×Int=>p.2)).getD (0:Int)).toNat=L at *;generalize hH:((hi.map (λp:IntKind×Int=>p.2)).getD (n:Int)).toNat=H at *;have hLH:L<=H:=qA;have hHn:H<=n:=qA;by_cases he:H=L
     .subst he;rw [Dx,List.take_zero];exact .Zv _ _ _
     .rw [if_neg qA];simp only [bU,Addr.add_lit,<- hz];refine .slC b (off+L * z0) (cap - L) (H - L) z0 _ (λi j=>f (L+i) j) hC ?_ qA ?_ ?_ ?_ ?_<;>grind
   .cases h
  .cases h
 .rename_i n z0 p len
  split at h
  .rename_i e ht
   split at h
   .rename_i hc;obtain⟨hz,h0,h1,h2⟩:=hc;obtain rfl:=sI h
    cases hv with
    | hsN _ _ hk =>
     have h3:(hi.map (λp:IntKind×Int=>p.2)).getD ((0:Nat):Int)<=((0:Nat):Int):=by
      rcases h2 with h2|h2
      .exact h2
      .refine Int.not_lt.1 λhlt=>?_;have h5:0<ft st.hp n z0:=qA;obtain⟨rows,hr,h2⟩:=oh h5;have ho:=hi0.obj _ _ hr
       grind[Zu]
     refine⟨_,w6 ht h0 h1 h3,?_⟩;have e1:((hi.map (λp:IntKind×Int=>p.2)).getD ((0:Nat):Int)).toNat=0:=qA;have e2:((lo.map (λp:IntKind×Int=>p.2)).getD (0:Int)).toNat=0:=qA;rw [e1,e2];exact .hsN n z0 hk
    | hsB _ _ _ _ b cap ad hk g1 g2 g3 =>
     have h3:(hi.map (λp:IntKind×Int=>p.2)).getD (len:Int)<=(cap:Int):=by
      rcases h2 with h2|h2
      .omega
      .refine Int.not_lt.1 λhlt=>?_;obtain⟨rows,hr,h2⟩:=oh (ac (by omega:p+((hi.map (λp:IntKind×Int=>p.2)).getD (len:Int)).toNat - 1<p+((hi.map (λp:IntKind×Int=>p.2)).getD (len:Int)).toNat) h2);have ho:=hi0.obj _ _ hr;simp only [Zu,hk] at ho;obtain⟨cur,T',x1,x2,x3,x4,_⟩:=ho;omega
     refine⟨_,w6 ht h0 h1 h3,?_⟩;generalize hL:((lo.map (λp:IntKind×Int=>p.2)).getD (0:Int)).toNat=L at *;generalize hH:((hi.map (λp:IntKind×Int=>p.2)).getD (len:Int)).toNat=H at *;refine .hsB n z0 (p+L) (H - L) b (cap - L) _ hk qA qA (λhlt=>?_)
     grind[Addr.add_lit]
   .cases h
  .cases h
 .cases h
def ED (k:IntKind) (n:Int):List (AV×AV)->Option AV
 | []=>none
 | (.sc (.int k' m),x)::l=>if k'=k then (if m=n then some x else ED k n l) else none
 | _::_=>none
def bO (k:IntKind):List (AV×AV)->Bool
 | []=>true
 | (.sc (.int k' _),_)::l=>(k'==k)&&bO k l
 | _::_=>false
def lf (P:Program) (T:TypeId):Option (IntKind×TypeId) :=
 match P.underlying T with
 | some (.map key e)=>match P.underlying key with
  | some (.int k)=>some (k,e)
  | _=>none
 | _=>none
def Iz (P:Program) (T:TypeId) (hp:Nm->Option AO) (x i:AV) (ok:Bool):Option AV :=
 match lf P T,i with
 | some (k,e),.sc (.int k' n)=>if k'=k then (match x with
  | .mp m=>match hp m with
   | some (.map es)=>if bO k es then (match ED k n es with
    | some y=>some (if ok then .Zg [y,.sc (.bool true)] else y)
    | none=>(bY P e).map (λz=>if ok then .Zg [z,.sc (.bool false)] else z)) else none
   | _=>none
  | _=>none) else none
 | _,_=>none
theorem aO {k:IntKind} {n:Int}:∀ (ms:List MapEntry) (es:List (AV×AV)) (p:Nat),ms.length=es.length->(∀ (i:Nat) m e,ms[i]?=some m->es[i]?=some e->RV g w m.key e.1/\RV g w m.val e.2)->bO k es=true ->
  ∃ r,Instr.findNow (.int k) (.int k n) ms p=some r/\match ED k n es with
   | some y=>∃ i v,r=some (p+i,v)/\RV g w v y/\(∃ m,ms[i]?=some m/\m.val=v/\m.key=.int k n)/\i<ms.length
   | none=>r=none
 | [],es,p,hl,_,_=>by
  obtain rfl:=eh (by simpa using hl.symm);exact⟨none,rfl,rfl⟩
 | m::ms,[],p,hl,_,_=>by simp at hl
 | m::ms,(ek,ev)::es,p,hl,hr,hm=>by
  unfold bO at hm
  split at hm
  .simp_all
  .rename_i k' m' x l he;obtain⟨e1,rfl⟩:=List.cons.inj he;obtain⟨rfl,rfl⟩:=sP e1;simp only [uR,beq_iff_eq] at hm;obtain⟨rfl,hm⟩:=hm;obtain⟨h1,h2⟩:=hr 0 m _ rfl rfl;have hk:=h1.Ye;by_cases hn:m'=n
   .subst hn;refine⟨some (p,m.val),by grind[Instr.findNow,Instr.sameNow],?_⟩
    simp_all<;>grind[ED]
   .obtain⟨r,f1,f2⟩:=aO (n:=n) ms es (p+1) qH (λi m e hm he=>hr (i+1) m e qH qH) hm;have hne:(n==m')=false:=qe;refine⟨r,by grind[Instr.findNow,Instr.sameNow],?_⟩;simp only [ED,if_true,if_neg hn]
    split
    .rename_i y hy;rw [hy] at f2;obtain⟨i,v,e1,e2,⟨m2,e3,e4⟩,e5⟩:=f2
     simp_all<;>grind
    simp_all
  .cases hm
theorem ld {T e:TypeId} {k:IntKind} (h:lf P T=some (k,e)):∃ key,P.underlying T=some (.map key e)/\P.underlying key=some (.int k):=by
 grind[lf]
theorem wM {key:TypeId} {k:IntKind} {n:Int} {b:Bool} (h:P.underlying key=some (.int k)):(Instr.checkKey b 10000 key (.int k n)).run P w=.ok () w:=by
 have:∀ d,(Instr.checkKey b (d+1) key (.int k n)).run P w=.ok () w:=by
  simp_all[Instr.checkKey,underlying]
 simp_all
theorem Id {T:TypeId} {v u:Value} {x i z:AV} {ok:Bool} (hi0:Inv own C w0 g st.hp w) (hv:RV g w v x) (hu:RV g w u i) (h:Iz P T st.hp x i ok=some z) :
  ∃ v',(Instr.lookup T v u ok).run P w=.ok v' w/\RV g w v' z:=by
 unfold Iz at h
 split at h
 .rename_i k e k' n ht
  split at h
  .rename_i hk;subst hk
   split at h
   .rename_i m
    split at h
    .rename_i es hm
     split at h
     .rename_i hmk;obtain⟨key,hT,hkey⟩:=ld ht;obtain rfl:=hu.Ye
      cases hv with
      | mp _ b hb =>
       have ho:=hi0.obj _ _ hm;simp only [Zu,hb] at ho;obtain⟨ms,clock,h1,_,h2,h3⟩:=ho;have hg:(getObj b).run P w=.ok (.map ms.toArray clock) w:=BB;obtain⟨r,f1,f2⟩:=aO (n:=n) ms es 0 h2 h3 hmk;have hck:=λb=>wM (P:=P) (w:=w) (n:=n) (b:=b) hkey
       split at h
       .rename_i y hy;rw [hy] at f2;obtain⟨i',v',rfl,hv',_⟩:=f2;obtain rfl:=sI h
        cases ok
        .exact⟨v',NO,hv'⟩
        .exact⟨.tuple #[v',.bool true],NO,.qBs hv' (.sc _)⟩
       .rename_i hy;rw [hy] at f2;subst f2;obtain⟨z0,hz0,rfl⟩:=ui.1 h;obtain⟨v0,hr0,hv0⟩:=oc (g:=g) (w:=w) hz0
        cases ok
        .exact⟨v0,NM,hv0⟩
        .exact⟨.tuple #[v0,.bool false],NM,.qBs hv0 (.sc _)⟩
     .cases h
    .cases h
   .cases h
  .cases h
 .cases h
def V1 (P:Program) (A:TypeId) (x:AV):Option AV :=
 if yv P A=some false then
  match x with
  | .Zf t y=>if t=A then some y else none
  | _=>none
 else none
theorem E8 {T A:TypeId} {v:Value} {x z:AV} (hv:RV g w v x) (h:V1 P A x=some z):∃ v',(Instr.typeAssert v T A false).run P w=.ok v' w/\RV g w v' z:=by
 unfold V1 at h
 split at h
 .rename_i h1
  obtain⟨d,hu,hd⟩:∃ d,P.underlying A=some d/\∀ ms,d≠.interface ms:=by
   grind[yv]
  split at h
  .rename_i t y
   split at h
   .rename_i ht;subst ht;obtain rfl:=sI h
    cases hv<;>simp_all[Instr.typeAssert,zk]
   .cases h
  .cases h
 .cases h
def Eq:AV->Option AV
 | .pt id o=>some (.pt id o)
 | .el r o=>some (.el r o)
 | .ep n z i o=>some (.ep n z i o)
 | .fn (.func f) x y=>some (.fn (.func f) x y)
 | .sc (.func (.func f) x y)=>some (.sc (.func (.func f) x y))
 | _=>none
def qev (P:Program) (st:St) (o:Oper):Option AV :=
 match o.op with
 | .move x=>some (ev st x)
 | .pick c x y=>it (ev st c) (ev st x) (ev st y)
 | .load T x=>(ZI st (ev st x)).bind (λp=>H5 P T p.1 p.2)
 | .nilCheck x=>Eq (ev st x)
 | .binOp op T x y _=>iO P T op (match y with|.const _=>true|_=>false) (ev st x) (ev st y)
 | .unOp op _ x=>TH op (ev st x)
 | .convert S D x=>Mh P S D (ev st x)
 | .makeInterface T x=>Lb P T (ev st x)
 | .slice T x lo hi none=>(iu (lo.map (ev st))).bind λl=>(iu (hi.map (ev st))).bind λh=>sY P T st.hp (ev st x) (l.map (·.2)) (h.map (·.2))
 | .fieldAddr T x f=>gv P T f (ev st x)
 | .field T x f=>JS P T f (ev st x)
 | .indexAddr T x i=>match ev st i with|.sc (.int _ n)=>pP P T (ev st x) n|_=>none
 | .index T x i=>match ev st i with|.sc (.int _ n)=>JM P T (ev st x) n|_=>none
 | .extract x i=>Ma i (ev st x)
 | .build T parts=>Ja P T (parts.toList.map (λp=>(p.1,ev st p.2)))
 | .typeAssert x _ A true=>Bx P A (ev st x)
 | .typeAssert x _ A false=>V1 P A (ev st x)
 | .makeFunc f xs ys=>some (.fn f (xs.toList.map (ev st)) (ys.toList.map (ev st)))
 | .lookup T x i ok=>Iz P T st.hp (ev st x) (ev st i) ok
 | .call c=>match c.callee,c.args.toList,c.argTypes.toList with
  | .builtin .len,[x],[T]=>AN P T st.hp (ev st x)
  | _,_,_=>none
 | _=>none
theorem oy {lo:Option Operand} {l:Option (IntKind×Int)} (h:Rg P own C w0 g st a w) (hl:iu (lo.map (ev st))=some l):lo.map a.eval=l.map λp=>Value.int p.1 p.2:=by
 cases lo with
 | none=>grind[iu]
 | some x =>
  have hv:=h.ev x;simp only [bU] at hl ⊢;generalize Hm.ev st x=y at hl hv;unfold iu at hl
  grind[RV.Ye]
theorem C3 {o:Oper} {z:AV} (h:Rg P own C w0 g st a w) (hq:qev P st o=some z):∃ v,(execOp a.eval o).run P w=.ok (.value v) w/\RV g w v z:=by
 have wrap:∀ (s:Sem Value),(∃ v,s.run P w=.ok v w/\RV g w v z)->∃ v,(do pure (Next.value (<- s)):Sem Next).run P w=.ok (.value v) w/\RV g w v z:=by
  simp_all
 unfold qev at hq;unfold execOp
 split at hq
 all_goals (rename_i hop;first|rw [hop]|simp_all)
 .obtain rfl:=sI hq;exact⟨_,rfl,h.ev _⟩
 .obtain⟨v,h1,h2⟩:=Ea (w:=w) (h.ev _) (h.ev _) (h.ev _) hq;refine⟨v,?_,h2⟩;simp only [Sem.run_bind,Sem.run_pure] at h1 ⊢;revert h1
  cases (asBool (a.eval _)).run P w with
  | ok t w' =>
   simp
  | halt x w'=>simp
 .obtain⟨⟨cs,off⟩,h1,h2⟩:=sN.1 hq;exact wrap _ (Eb h rfl h1 h2)
 .rename_i x;have hv:=h.ev x;generalize Hm.ev st x=y at hq hv;unfold Eq at hq
  split at hq
  .obtain rfl:=sI hq;obtain⟨ad,e⟩:=hv.qAA (.inl ⟨_,_,rfl⟩)
   simp_all
  .obtain rfl:=sI hq;obtain⟨ad,e⟩:=hv.qAA (.inr (.inl ⟨_,_,rfl⟩))
   simp_all
  .obtain rfl:=sI hq;obtain⟨ad,e⟩:=hv.qAA (.inr (.inr ⟨_,_,_,_,rfl⟩))
   simp_all
  .rename_i f0 _ _;obtain rfl:=sI hq
   have e:∃ vs us,a.eval x=.func (.func f0) vs us:=by
    generalize a.eval x=v at hv
    cases hv<;>grind
   obtain⟨vs,us,e⟩:=e
   simp_all
  .obtain rfl:=sI hq;have e:=hv.Ye
   simp_all
  .cases hq
 .rename_i op T x y yT;obtain⟨v,h1,h2⟩:=Ik (xo:=x) (yo:=y) (λhc=>qe) (h.ev _) (h.ev _) hq;exact wrap _ ⟨v,h1,h2⟩
 .exact wrap _ (LA (h.ev _) hq)
 .exact wrap _ (Ii (h.ev _) hq)
 .exact wrap _ (Ib (h.ev _) hq)
 .rename_i T x lo hi;obtain⟨l,hl,hq⟩:=sN.1 hq;obtain⟨u,hu,hq⟩:=sN.1 hq;have e1:=oy h hl;have e2:=oy h hu;refine wrap (Instr.sliceAt T (a.eval x) (lo.map a.eval) (hi.map a.eval) none) ?_;rw [e1,e2];exact Ia h.inv (h.ev _) hq
 .exact wrap _ (CT (h.ev _) hq)
 .exact wrap _ (Ig (h.ev _) hq)
 .rename_i T x i
  split at hq
  .rename_i k n e;have hi:=h.ev i;rw [e] at hi;refine wrap (Instr.indexAt T (a.eval x) (a.eval i)) ?_;rw [hi.Ye];exact CS (h.ev _) hq
  .cases hq
 .rename_i T x i
  split at hq
  .rename_i k n e;have hi:=h.ev i;rw [e] at hi;refine wrap (Instr.index T (a.eval x) (a.eval i)) ?_;rw [hi.Ye];exact If (h.ev _) hq
  .cases hq
 .exact wrap _ (Ih (h.ev _) hq)
 .rename_i T parts;refine wrap _ (Ij qB (λj p q hp hq'=>?_) hq);rw [Array.getElem?_map] at hp;obtain⟨p0,hp0,rfl⟩:=ui.1 hp;rw [kU] at hq';obtain⟨q0,hq0,rfl⟩:=ui.1 hq'
  have:p0=q0:=by
   simp_all
  subst this;exact⟨rfl,h.ev _⟩
 .exact wrap _ (I9 (h.ev _) hq)
 .exact wrap _ (E8 (h.ev _) hq)
 .rename_i f xs ys;obtain rfl:=sI hq;refine wrap (Instr.makeFunc f (xs.map a.eval) (ys.map a.eval)) ⟨.func f (xs.map a.eval) (ys.map a.eval),rfl,?_⟩
  have:=RV.fn (g:=g) (w:=w) f (xs.toList.map a.eval) (ys.toList.map a.eval) (xs.toList.map (Hm.ev st)) (ys.toList.map (Hm.ev st)) qB qB (λj v x hv hx=>by
   rw [kU] at hv hx;obtain⟨o1,e1,rfl⟩:=ui.1 hv;rw [e1] at hx;obtain rfl:=sI hx;exact h.ev _) (λj v x hv hx=>by
   rw [kU] at hv hx;obtain⟨o1,e1,rfl⟩:=ui.1 hv;rw [e1] at hx;obtain rfl:=sI hx;exact h.ev _)
  have e1:(xs.toList.map a.eval).toArray=xs.map a.eval:=qe;have e2:(ys.toList.map a.eval).toArray=ys.map a.eval:=qe
  simp_all
 .exact wrap _ (Id h.inv (h.ev _) (h.ev _) hq)
 .rename_i c
  split at hq
  .rename_i x T hc ha hT;obtain⟨v,h1,h2⟩:=Ie (ty:=o.type) (w:=w) h.inv (h.ev x) hq;refine⟨v,?_,h2⟩;have ha':c.args=#[x]:=qe;have hT':c.argTypes=#[T]:=qe
   simp_all[resolve,invoke,builtin]
  .cases hq
end
def EC (P:Program) (o:Oper) (a:Act) (w:World) (K:Act->World->Prop):Prop :=
 (∃ v w',(execOp a.eval o).run P w=.ok (.value v) w'/\K (a.put o.dst v) w')\/∃ w',(execOp a.eval o).run P w=.ok .skip w'/\K (a.put o.dst undef) w'
theorem EC.wp {P:Program} {o:Oper} {a:Act} {w:World} {K:Act->World->Prop} (h:EC P o a w K) (Q:Exit->Act->World->Prop):o.wp P a w K Q:=by
 unfold Oper.wp;rcases h with⟨v,w',e,h⟩|⟨w',e,h⟩
 .rw [e];exact h
 .rw [e];exact h
def Vn (P:Program):Nat->TypeId->List Nat
 | 0,_=>[]
 | n+1,T=>match P.underlying T with
  | some (.struct fs)=>fs.toList.flatMap λf=>Vn P n f.type
  | some (.array k e)=>(List.replicate k (Vn P n e)).flatten
  | some (.slice e)=>[Yh P e]
  | some _=>List.replicate (Yh P T) 0
  | none=>[]
def ZR (P:Program) (T:TypeId):List Nat:=Vn P 20 T
def sNm:AV->Option Nm
 | .hs (.s t) _ _ _=>some (.s t)
 | .pt (.s t) _=>some (.s t)
 | .mp (.s t)=>some (.s t)
 | _=>none
def zH:AV->Bool
 | .sc (.slice none 0 0)=>true
 | _=>false
def zc (z:Nat) (k:Nm) (x:AV):AV:=if zH x then .hs k z 0 0 else x
def zcs (key:Nat->Nm) (es:List Nat):Nat->List AV->List AV
 | _,[]=>[]
 | j,x::l=>zc (es.getD j 0) (key j) x::zcs key es (j+1) l
def zY (key:Nat->Nm) (es:List Nat):Nat->List AV->List (Nm×Nat)
 | _,[]=>[]
 | j,x::l=>if zH x then (key j,es.getD j 0)::zY key es (j+1) l else zY key es (j+1) l
def prs (key:Nat->Nm):Nat->List AV->List (Nm×Nm)
 | _,[]=>[]
 | j,x::l=>match sNm x with
  | some k=>(k,key j)::prs key (j+1) l
  | none=>prs key (j+1) l
def canon:List (Nm×Nm)->St->St
 | [],st=>st
 | p::l,st=>canon l (st.move p.1 p.2)
def St.Yp:List (Nm×Nat)->St->St
 | [],st=>st
 | p::l,st=>(St.Yp l st).Yf p.1 (.row p.2 [])
def St.ZV:List (Nm×Nat)->St->St
 | [],st=>st
 | p::l,st=>St.ZV l ((st.kill p.1).Yf p.1 (.row p.2 []))
theorem l5 (key:Nat->Nm) (es:List Nat):∀ (l:List AV) (j:Nat),(zcs key es j l).length=l.length
 := by intro x0;induction x0<;>grind[zcs]
theorem EG (key:Nat->Nm) (es:List Nat):∀ (l:List AV) (j i:Nat),(zcs key es j l)[i]?=(l[i]?).map (λx=>zc (es.getD (j+i) 0) (key (j+i)) x)
 := by intro x0;induction x0<;>grind[zcs]
theorem Ep (key:Nat->Nm) (es:List Nat):∀ (l:List AV) (j i:Nat) (x:AV),l[i]?=some x->zH x=true->(key (j+i),es.getD (j+i) 0)∈zY key es j l
 := by intro x0;induction x0<;>grind[zY]
theorem aE (key:Nat->Nm) (es:List Nat):∀ (l:List AV) (j:Nat) p,p∈zY key es j l->∃ i,p.1=key i
 | [],_,_,h=>by grind[zY]
 | y::l,j,p,h=>by
  simp only [zY] at h
  split at h
  .rcases wH.1 h with rfl|h
   .grind
   .exact aE key es l (j+1) p h
  .exact aE key es l (j+1) p h
theorem RV.zc {g:Gh} {w:World} {v:Value} {x:AV} {z:Nat} {k:Nm} (hv:RV g w v x) (hk:zH x=true->g.φ k=none):RV g w v (zc z k x):=by
 unfold Hm.zc
 split
 .rename_i hn
  have:x=.sc (.slice none 0 0):=by
   grind[zH]
  subst this;rw [hv.Ye];exact .hsN k z (hk hn)
 .exact hv
theorem I3:∀ (l:List (Nm×Nat)) (st:St) (m:Nm) (o:AO),(St.Yp l st).hp m=some o->(∃ p∈l,p.1=m/\o=.row p.2 [])\/((∀ p∈l,p.1≠m)/\st.hp m=some o)
 := Fo
theorem lj:∀ (l:List (Nm×Nat)) (st:St),(St.Yp l st).tm=st.tm
 := Fo
theorem dg:∀ (l:List (Nm×Nat)) (st:St),(St.Yp l st).n=st.n/\(St.Yp l st).gl=st.gl
 := Fo
theorem sR:∀ (l:List (Nm×Nat)) (st:St),(St.ZV l st).n=st.n/\(St.ZV l st).gl=st.gl
 | [],_=>⟨rfl,rfl⟩
 | p::l,st=>by rw [St.ZV,(sR l _).1,(sR l _).2];exact⟨rfl,rfl⟩
theorem rD:∀ (l:List (Nm×Nm)) (st:St),(canon l st).n=st.n/\(canon l st).gl=st.gl
 | [],_=>⟨rfl,rfl⟩
 | p::l,st=>by rw [canon,(rD l _).1,(rD l _).2];exact⟨rfl,rfl⟩
noncomputable def Gh.fresh (g:Gh) (n:Nm) (b:Option Nat) (cap:Nat):Gh :=
 { C:=g.C,φ:=λm=>if m=n then b else (g.tr (kl n)).φ m,κ:=λm=>if m=n then cap else (g.tr (kl n)).κ m }
section
variable {P:Program} {own:Nat->Prop} {C:Nat->Prop} {w0:World} {g:Gh} {st:St} {a:Act} {w:World}
theorem kD (o:Obj) {b:Nat} (h:b<w.heap.size):(w.alloc o).heap[b]?=w.heap[b]?:=Below.heap_alloc w o b h
def Nt (l:List (Nm×Nm)):Prop:=∀ p∈l,p.1.ZN=false/\p.2.ZN=false
theorem Rg.canon (l:List (Nm×Nm)) (hl:Nt l):∀ {st:St} {g:Gh},Rg P own C w0 g st a w->Rel P own C w0 g (canon l st) a w:=by
 induction l with
 | nil=>grind[Ust.refl,Rel,Hm.canon]
 | cons p l ih =>
  intro st g h;obtain⟨g',h1,h2⟩:=ih (λq hq=>hl q gD) (h.move p.1 p.2);exact⟨g',(Ust.mv (hl p qB).1 (hl p qB).2).trans h1,h2⟩
theorem Ky {x:AV} {k:Nm} (h:sNm x=some k):k.ZN=false:=by
 unfold sNm at h
 grind[Nm.ZN]
theorem C4 (key:Nat->Nm) (hk:∀ i,(key i).ZN=false):∀ (l:List AV) (j:Nat),Nt (prs key j l)
 | [],_=>by simp [prs,Nt]
 | x::l,j=>by
  simp only [prs]
  split
  .rename_i k hx;intro p hp;rcases wH.1 hp with rfl|hp
   .grind[Ky]
   .exact C4 key hk l (j+1) p hp
  .exact C4 key hk l (j+1)
theorem Gh.qAv {n m:Nm} (h:g.φ m=none):(g.tr (kl n)).φ m=none:=by
 grind[uf,kl,Z0]
theorem Rg.ZV (l:List (Nm×Nat)) (hlu:∀ p∈l,p.1.ZN=false):∀ {st:St} {g:Gh},Rg P own C w0 g st a w->∃ g',Rg P own C w0 g' (St.ZV l st) a w/\(∀ p∈l,g'.φ p.1=none)/\(∀ m,g.φ m=none->g'.φ m=none)/\Ust g g':=by
 induction l with
 | nil=>grind[St.ZV,Ust]
 | cons p l ih =>
  intro st g h;have gf:∀ k k',kl p.1 k=some k'->(g.tr (kl p.1)).φ k'=g.φ k/\(g.tr (kl p.1)).κ k'=g.κ k:=λ_ _ e=>Gh.Z0 (λ_ _ _=>ML) e
  have hs:=h.step (g':=g.tr (kl p.1)) (w':=w) (f:=kl p.1) (hp':=((st.kill p.1).Yf p.1 (.row p.2 [])).hp) rfl gf rfl rfl rfl (qp _) (λ_ _=>rfl) (λ_ _ _=>rfl) (λn' o' e=>by
   simp only [St.Yf] at e
   split at e
   .grind[Zu,uf,Nm.Y0]
   .obtain⟨o,e1,e2,e3⟩:=pR e
    grind)
  obtain⟨g',h1,h2,h3,h4⟩:=ih (λq hq=>hlu q gD) hs;refine⟨g',h1,?_,λx hx=>h3 x (Gh.qAv hx),(Ust.kl (hlu p qB)).trans h4⟩
  grind[uf,Nm.Y0]
theorem nr (n:Nm) (b:Option Nat) (cap:Nat):∀ k k',kl n k=some k'->(g.fresh n b cap).φ k'=g.φ k/\(g.fresh n b cap).κ k'=g.κ k:=by
 grind[Nm.Y0,Gh.fresh,Gh.Z0,kl]
theorem zI (n:Nm) (b:Option Nat) (cap:Nat):(g.fresh n b cap).φ n=b/\(g.fresh n b cap).κ n=cap:=by simp [Gh.fresh]
theorem cZ {n m:Nm} {b:Option Nat} {cap:Nat} (h:Nm.under n m=true) (hne:m≠n):(g.fresh n b cap).φ m=none:=by
 grind[Gh.fresh,uf]
theorem Ust.fresh {n:Nm} {b:Option Nat} {cap:Nat} (h:n.ZN=false):Ust g (g.fresh n b cap):=λk i j=>by
 grind[Nm.ZN,Gh.fresh,kl,Ust]
theorem Rg.made (h:Rg P own C w0 g st a w) (n:Nm) (o:AO) (b cap:Nat) (w':World) (nl:List (Nm×Nat)) (hnl:∀ p∈nl,Nm.under n p.1=true/\p.1≠n) (dr:Nm->Bool)
  (h1:w'.os=w.os) (h2:w'.tape=w.tape) (h3:w'.output=w.output) (h4:w.heap.size<=w'.heap.size) (hb:w.heap.size<=b\/∃ m o,dr m=true/\st.hp m=some o/\g.φ m=some b) (hlt:b<w'.heap.size)
  (hw:∀ b',b'≠b->b'<w.heap.size->w'.heap[b']?=w.heap[b']?) (ho:Zu (g.fresh n (some b) cap) w' n o) :
  Rg P own C w0 (g.fresh n (some b) cap) (((St.Yp nl (st.nm (kl n) (λm=>if dr m then none else hkl n st.hp m)))).Yf n o) a w':=by
 have hcond:¬ C b/\(w0.heap.size<=b\/own b):=by
  rcases hb with hb|⟨m,o,_,hm,hk⟩
  .exact⟨λhC=>absurd (h.inv.clt b hC) qA,.inl (uS h.inv.size hb)⟩
  .obtain⟨x1,x2,_⟩:=h.inv.YS m o b hm hk
   simp_all
 have far:∀ m o,dr m=false->st.hp m=some o->g.φ m≠some b:=by
  intro m o hd hm hk;rcases hb with hb|⟨m',o',hd',hm',hk'⟩
  .have:=(h.inv.YS m o b hm hk).2.2;omega
  .have:=h.inv.inj m m' o o' b hm hm' hk hk'
   simp_all
 have gf:=nr (g:=g) n (some b) cap
 have key:∀ m o',(((St.Yp nl (st.nm (kl n) (λm=>if dr m then none else hkl n st.hp m)))).Yf n o).hp m=some o' ->
   (m=n/\o'=o)\/(m≠n/\(∃ p∈nl,p.1=m/\o'=.row p.2 []))\/∃ q,m≠n/\dr m=false/\kl n m=some m/\st.hp m=some q/\o'=q.tr (kl n):=by
  intro m o' e;simp only [St.Yf] at e
  split at e
  .simp_all
  .rename_i hne;rcases I3 nl _ m o' e with⟨p,q1,q2⟩|⟨_,q2⟩<;>grind[St.nm,pR]
 have hC':∀ b',C b'->w'.heap[b']?=w.heap[b']?:=λb' hC=>hw b' (λe=>hcond.1 (e ▸ hC)) (h.inv.clt b' hC)
 have hs:=h.step (g':=g.fresh n (some b) cap) (w':=w') (f:=kl n) (hp':=(((St.Yp nl (st.nm (kl n) (λm=>if dr m then none else hkl n st.hp m)))).Yf n o).hp) rfl gf h1 h2 h3 h4 hC'
  (λb' hb' hno=>hw b' (λe=>by
    grind) (ac hb' h.inv.size)) (λm o' e=>by
  rcases key m o' e with⟨rfl,rfl⟩|⟨hne,p,hp,rfl,rfl⟩|⟨q,hne,hd,e1,e2,e3⟩
  .grind[zI,cZ]
  .grind[Zu,cZ]
  .refine .inl ⟨m,q,e1,e2,e3,λb' hb'=>hw b' (λe=>?_) (h.inv.YS m q b' e2 hb').2.2⟩
   simp_all)
 grind[lj,dg,St.nm,St.Yf]
theorem Rg.qAg (h:Rg P own C w0 g st a w) {n:Nm} {b cap:Nat} {w':World} (hw:∀ b',C b'->w'.heap[b']?=w.heap[b']?) {v:Value} {x:AV} (hv:RV g w v x):RV (g.fresh n (some b) cap) w' v (x.tr (kl n)) :=
 h.rv (g':=g.fresh n (some b) cap) rfl hw (nr n (some b) cap) hv
def GU (P:Program) (T:TypeId) (d:Nat) (x:AV) (st:St):St :=
 if zH x then ((((st.kill (.s d)).Yf (.s d) (.row (((Zx P T).map (Yh P)).getD 0) []))).put (some d) (.hs (.s d) (((Zx P T).map (Yh P)).getD 0) 0 0))
 else match sNm x with
  | some k=>if k=.s d then st.put (some d) x else (st.move k (.s d)).put (some d) (x.tr (mv k (.s d)))
  | none=>st.put (some d) x
theorem N6 {o:Oper} {x:Operand} {d:Nat} (h:Rg P own C w0 g st a w) (ho:o.op=.assign x) (hd:o.dst=some d) (hn:d<st.n) :
  EC P o a w λa' w'=>Rel P own C w0 g (GU P o.type d (ev st x) st) a' w':=by
 have hv:=h.ev x;refine .inl ⟨a.eval x,w,by simp [execOp,ho],?_⟩;rw [hd];have hd':∀ (s:St) t,s.n=st.n->some d=some t->t<s.n:=qH;unfold GU
 split
 .rename_i hnil;obtain⟨g',h1,h2,h3,_⟩:=h.qCo (.s d) (((Zx P o.type).map (Yh P)).getD 0);refine⟨g',h3 rfl,h1.put (λt e=>hd' _ t rfl e) ?_⟩
  grind[zH,RV.Ye]
 .split
  .rename_i k hk
   split
   .exact⟨g,.refl g,h.put (λt e=>hd' _ t rfl e) hv⟩
   .exact⟨_,Ust.mv (Ky hk) rfl,(h.move k (.s d)).put (λt e=>hd' _ t rfl e) (h.rv (g':=g.tr (mv k (.s d))) rfl (λ_ _=>rfl) (λ_ _ e=>Gh.Z0 (λ_ _ _=>HN) e) hv)⟩
  .exact⟨g,.refl g,h.put (λt e=>hd' _ t rfl e) hv⟩
def iN (P:Program) (T:TypeId) (d:Nat) (cs:List AV) (st:St):St :=
 let c1:=cs.map (AV.tr (kl (.s d)))
 let c2:=zcs (Nm.c (.s d) 0) (ZR P T) 0 c1
 canon (prs (Nm.c (.s d) 0) 0 c2) (((St.Yp (zY (Nm.c (.s d) 0) (ZR P T) 0 c1) (st.kill (.s d))).Yf (.s d) (.row (Yh P T) [c2])).put (some d) (.pt (.s d) 0))
theorem Ht {T:TypeId} {d:Nat} {vs:List Value} {cs:List AV} (h:Rg P own C w0 g st a w) (hn:d<st.n) (hl:vs.length=cs.length) (hz:cs.length=Yh P T) (ho:∀ v∈vs,v.oneCell'=true)
  (hr:∀ (j:Nat) v x,vs[j]?=some v->cs[j]?=some x->RV g w v x) :
  Rel P own C w0 g (iN P T d cs st) (a.put (some d) (.pointer (some ⟨w.heap.size,0,none⟩))) (w.alloc (.cells vs.toArray T)):=by
 unfold iN;generalize hc1:cs.map (AV.tr (kl (.s d)))=c1;have hC':∀ b',C b'->(w.alloc (.cells vs.toArray T)).heap[b']?=w.heap[b']?:=λb' hC=>kD _ (h.inv.clt b' hC)
 have hm:=h.made (.s d) (.row (Yh P T) [zcs (Nm.c (.s d) 0) (ZR P T) 0 c1]) w.heap.size 1 (w.alloc (.cells vs.toArray T)) (zY (Nm.c (.s d) 0) (ZR P T) 0 c1)
  (λp hp=>by
    grind[aE,Nm.under]) (λ_=>false) rfl rfl rfl qB (.inl (qp _)) qB (λb' _ hb'=>kD _ hb') (by
    simp only [Zu,(zI (g:=g) (.s d) (some w.heap.size) 1).1,(zI (g:=g) (.s d) (some w.heap.size) 1).2];refine⟨vs.toArray,T,heap_alloc_new w _,qH,qL,qB,?_,?_,?_⟩
    .grind[l5]
    .simp_all
    .intro i row hrow j x hx
     match i,hrow with
     | 0,hrow =>
      simp at hrow;subst hrow;rw [EG,<- hc1,kU] at hx;obtain⟨x1,hx1,rfl⟩:=ui.1 hx;obtain⟨x0,hx0,rfl⟩:=ui.1 hx1;have hj':j<vs.length:=qe;have:vs.toArray.getD (0 * Yh P T+j) undef=vs[j]:=by simp [hj']
      rw [this];refine (h.qAg hC' (hr j _ x0 (gE hj') hx0)).zc λ_=>cZ aq qB)
 have e:(st.nm (kl (.s d)) (λm=>if (λ_=>false:Nm->Bool) m then none else hkl (.s d) st.hp m))=st.kill (.s d):=iI;rw [e] at hm
 exact (hm.put (d:=some d) (λt e=>by
  obtain rfl:=sI e;simp only [St.Yf,(dg _ _).1];exact hn) (.pt _ _ _ (zI _ _ _).1)).canon _ (C4 _ (λ_=>rfl) _ _) |> λ⟨g',u,r⟩=>⟨g',(Ust.fresh rfl).trans u,r⟩
theorem NU {o:Oper} {T:TypeId} {x:Operand} {d:Nat} {cs:List AV} (h:Rg P own C w0 g st a w) (ho:o.op=.box T x) (hd:o.dst=some d) (hn:d<st.n) (hq:(ev st x).cells=some cs) (hz:cs.length=Yh P T) :
  EC P o a w λa' w'=>Rel P own C w0 g (iN P T d cs st) a' w':=by
 refine .inl ⟨.pointer (some ⟨w.heap.size,0,none⟩),w.alloc (.cells (a.eval x).cells T),?_,?_⟩
 .simp [execOp,ho,Instr.box,newVar,newRow]
 .rw [hd];obtain⟨h1,h2,h3⟩:=(h.ev x).cells hq;have:=Ht (T:=T) h hn h1 hz h2 h3;omega
def yN (P:Program) (T:TypeId):Option (List AV):=(yP P T).bind λl=>if l.all Value.oneCell'&&(l.length==Yh P T) then some (l.map .sc) else none
theorem l0 {T:TypeId} {zv:List AV} (h:yN P T=some zv):∃ i z,P.info? T=some i/\i.zero=some z/\(∀ v∈z.cells.toList,v.oneCell'=true)/\zv=z.cells.toList.map .sc/\zv.length=Yh P T:=by
 grind[yN,sN,yP]
theorem GV {o:Oper} {T:TypeId} {d:Nat} {zs:List AV} (h:Rg P own C w0 g st a w) (ho:o.op=.alloc T) (hd:o.dst=some d) (hn:d<st.n) (hq:yN P T=some zs) :
  EC P o a w λa' w'=>Rel P own C w0 g (iN P T d zs st) a' w':=by
 obtain⟨i,z,q1,q2,q3,rfl,q4⟩:=l0 hq;refine .inl ⟨.pointer (some ⟨w.heap.size,0,none⟩),w.alloc (.cells z.cells T),?_,?_⟩
 .simp_all[execOp,Instr.alloc,zeroValue,typeInfo,newVar,newRow]
 .rw [hd]
  have:=Ht (T:=T) (vs:=z.cells.toList) h hn qB q4 q3 (λj v x hv hx=>by
   rw [kU,hv] at hx;obtain rfl:=sI hx;exact .sc _)
  omega
end
end Go.Hm
end
