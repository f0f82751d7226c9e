import Derived.Test.YtjgpejikjhojcaaGreatDoorD01
set_option linter.all false
set_option maxRecDepth 100000
set_option maxHeartbeats 4000000
open Option renaming some->Z,none->Y
open Bool renaming true->B,false->M
open List renaming length->O

section
namespace Go.Hm
open Go Go.RowKit
variable{A T e ty:TypeId}{ad:Option Addr}{b:Bool}{cap d f:Nat}{cs:List AV}{hi lo:Option (IntKind×Int)}{k:IntKind}{m n:Nm}{o:Oper}{u v:Value}{vs:List Value}{x y z:AV}
section
variable{P:Program}{own:Nat->Prop}{C:Nat->Prop}{w0:World}{g:Gh}{st:St}{a:Act}{w:World}
def AE(op:UnOp):AV->Option AV
 |.sc (.bool b)=>match op with|.not=>Z (.sc (.bool (!b)))|_=>Y
 |.sc (.int k n)=>match op with|.neg=>Z (.sc (.int k (k.wrap (-n))))|_=>Y
 |_=>Y
def qAr{op:UnOp}(hv:RV g w v x)(h:AE op x=Z z):∃v',(Op.unary op v).run P w=.ok v' w/\RV g w v' z:=by
 unfold AE at h
 split at h
 .obtain rfl:=hv.jF
  cases op<;>simp at h
  subst h;exact⟨_,rfl,.sc _⟩
 .obtain rfl:=hv.jF
  cases op<;>simp at h
  subst h;exact⟨.int _ (IntKind.wrap _ (-_)),by simp[Op.unary,Op.intArith],.sc _⟩
 .cases h
def nC(c x y:AV):Option AV:=
 match c with
 |.sc (.bool t)=>match x,y with
  |.sc (.bool p),.sc (.bool q)=>Z (.sc (.bool (bif t then p else q)))
  |x,y=>Z (bif t then x else y)
 |_=>Y
def qAl{vc vx vy:Value}{c:AV}(hc:RV g w vc c)(hx:RV g w vx x)(hy:RV g w vy y)(h:nC c x y=Z z):
  ∃v',(do pure (if <- asBool vc then vx else vy):Sem Value).run P w=.ok v' w/\RV g w v' z:=by
 unfold nC at h
 split at h
 .rename_i t;obtain rfl:=hc.jF
  split at h
  .obtain rfl:=hx.jF;obtain rfl:=hy.jF;obtain rfl:=sI h
   cases t<;>exact⟨_,rfl,.sc _⟩
  .obtain rfl:=sI h
   cases t
   .exact⟨_,rfl,hy⟩
   .exact⟨_,rfl,hx⟩
 .cases h
def nQ(P:Program)(T:TypeId):Bool:=match P.underlying T with|some .string=>B|_=>M
def uy(P:Program)(T:TypeId):Bool:=match P.underlying T with|some (.slice _)=>B|_=>M
def If(P:Program)(T:TypeId):Bool:=match P.underlying T with|some (.map _ _)=>B|_=>M
def mn(P:Program)(T:TypeId)(hp:Nm->Option AO):AV->Option AV
 |.sl _ rows=>if uy P T then Z (.sc (.int .i64 (O rows)))else Y
 |.hs _ _ _ len=>if uy P T then Z (.sc (.int .i64 len))else Y
 |.sc (.slice Y 0 0)=>if uy P T then Z (.sc (.int .i64 0))else Y
 |.sc (.string s)=>if nQ P T then Z (.sc (.int .i64 s.size))else Y
 |.mp n=>if If P T then(match hp n with|some (.map es)=>Z (.sc (.int .i64 (O es)))|_=>Y)else Y
 |_=>Y
theorem Bm{n c:Nat}(h:uy P T=B):(Builtin.len_ #[T] ty #[.slice ad n c]).run P w=.ok (.int .i64 n) w:=by
 unfold uy at h
 split at h<;>simp_all[Builtin.len_,goInt,uA]
theorem qAe(hi:Inv own C w0 g st.hp w)(hv:RV g w v x)(h:mn P T st.hp x=Z z):∃v',(Builtin.len_ #[T] ty #[v]).run P w=.ok v' w/\RV g w v' z:=by
 unfold mn at h
 split at h
 .split at h
  .rename_i ht;obtain rfl:=sI h
   cases hv with
   |yV=>exact⟨_,Bm ht,.sc _⟩
   |eL b off cap n E rows f hC hn=>subst hn;exact⟨_,Bm ht,.sc _⟩
  .cases h
 .split at h
  .rename_i ht;obtain rfl:=sI h
   cases hv with
   |de=>exact⟨_,Bm ht,.sc _⟩
   |bT=>exact⟨_,Bm ht,.sc _⟩
  .cases h
 .split at h
  .rename_i ht;obtain rfl:=sI h;obtain rfl:=hv.jF;exact⟨_,Bm ht,.sc _⟩
  .cases h
 .split at h
  .rename_i ht;obtain rfl:=sI h;obtain rfl:=hv.jF;unfold nQ at ht
   split at ht
   .rename_i hu;exact⟨_,by simp[Builtin.len_,uA hu,goInt],.sc _⟩
   .cases ht
  .cases h
 .split at h
  .rename_i ht
   split at h
   .rename_i n es hes;obtain rfl:=sI h
    cases hv with
    |mp _ b hk=>
     have ho:=hi.obj _ _ hes;simp only[jd,hk]at ho;obtain⟨ms,clock,h1,_,h2,_⟩:=ho;unfold If at ht
     split at ht
     .rename_i k e hu;have hg:(getObj b).run P w=.ok (.map ms.toArray clock) w:=Cy;exact⟨.int .i64 (O es),by simp_all[Builtin.len_,goInt,uA],.sc _⟩
     .cases ht
   .cases h
  .cases h
 .cases h
def BF(i:Nat):AV->Option AV
 |.zT l=>l[i]?
 |_=>Y
theorem qA2{i:Nat}(hv:RV g w v x)(h:BF i x=Z z):∃v',(Instr.extract v i).run P w=.ok v' w/\RV g w v' z:=by
 cases x with
 |zT l=>
  obtain⟨vs,rfl,_,hr⟩:=qD8 hv;obtain⟨u,hu,hru⟩:=hr i z h
  simp_all[Instr.extract]
 |_=>simp[BF]at h
theorem OZ{off:Nat}(hl:O vs=O cs)(hr:∀(j:Nat)y,cs[j]?=Z y->∃u,vs[j]?=Z u/\RV g w u y)(h:db P T cs off=Z z):
  ∃v',(part T vs.toArray off).run P w=.ok v' w/\RV g w v' z:=by
 unfold db at h
 split at h
 .rename_i hagg
  split at h
  .rename_i hle;obtain rfl:=sI h;refine⟨.agg ((vs.drop off).take (qi P T)).toArray,?_,?_⟩
   .simp_all[part,xn,nM,Lr]
   constructor<;>grind
  .cases h
 .rename_i hagg;obtain⟨u,hu,hru⟩:=hr off z h
  simp_all[part,xn]
 .cases h
def xG(P:Program)(T:TypeId)(f:Nat):AV->Option AV
 |.agg cs=>match qn P T f with
  |some (o,e)=>db P e cs o
  |none=>Y
 |_=>Y
theorem P5{o:Nat}(h:qn P T f=Z (o,e)):∃fs fd,P.underlying T=Z (.struct fs)/\fs[f]?=Z fd/\fd.offset=o/\fd.type=e:=by
 grind[qn]
theorem qA4(hv:RV g w v x)(h:xG P T f x=Z z):∃v',(Instr.field T v f).run P w=.ok v' w/\RV g w v' z:=by
 cases x with
 |agg cs=>
  simp only[xG]at h
  split at h
  .rename_i o e ht;obtain⟨fs,fd,hu,hfd,rfl,rfl⟩:=P5 ht;obtain⟨vs,rfl,hl,hr⟩:=sZ hv;obtain⟨v',h1,h2⟩:=OZ hl hr h
   simp_all[Instr.field,asAgg,uA]
  .cases h
 |_=>simp[xG]at h
def xI(P:Program)(T:TypeId)(x:AV)(n:Int):Option AV:=
 match x with
 |.sc (.string s)=>if nQ P T/\0<=n then(s.data.toList[n.toNat]?).map (λb=>.sc (.int .u8 b.toNat))else Y
 |.agg cs=>match eO P T with
  |some (len,e)=>if 0<=n/\n<len then db P e cs (n.toNat*qi P e)else Y
  |none=>Y
 |_=>Y
theorem qAb{n:Int}(hv:RV g w v x)(h:xI P T x n=Z z):∃v',(Instr.index T v (.int k n)).run P w=.ok v' w/\RV g w v' z:=by
 unfold xI at h
 split at h
 .rename_i s;obtain rfl:=hv.jF
  split at h
  .rename_i hc;obtain⟨ht,h0⟩:=hc;obtain⟨b,hb,rfl⟩:=zq.1 h;unfold nQ at ht
   split at ht
   .rename_i hu
    have hs:s[n.toNat]?=Z b:=by
     have hlt:n.toNat<s.size:=by have:=(gS hb).1;simp_all
     have:s[n.toNat]?=Z (s[n.toNat]'hlt):=getElem?_pos s n.toNat hlt;rw[this];have h2:=(gS hb).2;rw[<- h2]
     rfl
    exact⟨_,by simp_all[Instr.index,asIntOf,uA],.sc _⟩
   .cases ht
  .cases h
 .rename_i cs
  split at h
  .rename_i len e ht
   split at h
   .rename_i hc;obtain⟨h0,h1⟩:=hc;obtain⟨hu,hi⟩:=P0 ht;obtain⟨vs,rfl,hl,hr⟩:=sZ hv;obtain⟨v',h2,h3⟩:=OZ hl hr h
    simp_all[Instr.index,asIntOf,uA,nM]
   .cases h
  .cases h
 .cases h
def wu(P:Program)(T:TypeId):Option Bool:=match P.underlying T with|some (.interface _)=>Z B|some _=>Z M|none=>Y
def BZ(P:Program)(T:TypeId)(x:AV):Option AV:=if wu P T=Z M then Z (.jL T x)else Y
theorem qAk(hv:RV g w v x)(h:BZ P T x=Z z):∃v',(Instr.makeInterface T v).run P w=.ok v' w/\RV g w v' z:=by
 unfold BZ at h
 split at h
 .rename_i h1;obtain rfl:=sI h;refine⟨.iface T v,?_,.jL T v x hv⟩;unfold wu at h1
  cases hu:P.underlying T with
  |none=>simp_all
  |some d=>cases d<;>simp[hu]at h1<;>simp[Instr.makeInterface,uA hu]
 .cases h
def a7(P:Program)(T:TypeId):Option AV:=
 match(P.info? T).bind (·.zero)with
 |some (.agg cs)=>Z (.agg (cs.toList.map .sc))
 |some v=>Z (.sc v)
 |none=>Y
theorem II(h:a7 P T=Z z):∃v,(zeroValue T).run P w=.ok v w/\RV g w v z:=by
 unfold a7 at h
 split at h
 .rename_i cs hz;obtain rfl:=sI h;obtain⟨i,hi,hiz⟩:=gb.1 hz;refine⟨.agg cs,by simp_all[zeroValue,typeInfo],?_⟩
  have:=RV.agg (g:=g) (w:=w) cs.toList (cs.toList.map .sc) qB λj v y hv hy=>by
   rw[j3,hv]at hy;obtain rfl:=sI hy;exact .sc _
  omega
 .rename_i v hn hz;obtain rfl:=sI h;obtain⟨i,hi,hiz⟩:=gb.1 hz;exact⟨v,by simp_all[zeroValue,typeInfo],.sc _⟩
 .cases h
def pQ(P:Program)(A:TypeId)(x:AV):Option AV:=
 if wu P A=Z M then
  match x with
  |.jL t y=>if t=A then Z (.zT [y,.sc (.bool B)])else(a7 P A).map (λz=>.zT [z,.sc (.bool M)])
  |.sc .nilIface=>(a7 P A).map (λz=>.zT [z,.sc (.bool M)])
  |_=>Y
 else Y
theorem RV.CJ(h1:RV g w u x)(h2:RV g w v y):RV g w (.tuple #[u,v]) (.zT [x,y]):=by
 constructor<;>grind
theorem qAq(hv:RV g w v x)(h:pQ P A x=Z z):∃v',(Instr.typeAssert v T A B).run P w=.ok v' w/\RV g w v' z:=by
 unfold pQ at h
 split at h
 .rename_i h1
  obtain⟨d,hu,hd⟩:∃d,P.underlying A=Z d/\∀ms,d≠.interface ms:=by
   grind[wu]
  split at h
  .rename_i t y
   have hv':∃u,v=.iface t u/\RV g w u y:=by
    cases hv<;>grind
   obtain⟨u,rfl,hy⟩:=hv'
   split at h
   .rename_i ht;subst ht;obtain rfl:=sI h;refine⟨.tuple #[u,.bool B],?_,.CJ hy (.sc _)⟩
    simp_all[Instr.typeAssert,uA]
   .rename_i ht;obtain⟨z0,hz0,rfl⟩:=zq.1 h;obtain⟨v0,hr0,hv0⟩:=II (g:=g) (w:=w) hz0;refine⟨.tuple #[v0,.bool M],?_,.CJ hv0 (.sc _)⟩
    simp_all[Instr.typeAssert,uA]
  .obtain rfl:=hv.jF;obtain⟨z0,hz0,rfl⟩:=zq.1 h;obtain⟨v0,hr0,hv0⟩:=II (g:=g) (w:=w) hz0;refine⟨.tuple #[v0,.bool M],?_,.CJ hv0 (.sc _)⟩
   simp_all[Instr.typeAssert,uA]
  .cases h
 .cases h
def E6(P:Program)(T:TypeId):Option IntKind:=match P.underlying T with|some (.int k)=>Z k|_=>Y
def BB(P:Program)(S D:TypeId):AV->Option AV
 |.sc (.int _ n)=>match E6 P D,P.underlying S with|some k,Z (.int _)=>Z (.sc (.int k (k.wrap n)))|_,_=>Y
 |_=>Y
theorem qAV{S D:TypeId}(hv:RV g w v x)(h:BB P S D x=Z z):∃v',(convert S D v).run P w=.ok v' w/\RV g w v' z:=by
 unfold BB at h
 split at h
 .obtain rfl:=hv.jF
  split at h
  .rename_i k _ hk hs;obtain rfl:=sI h;unfold E6 at hk
   split at hk
   .rename_i k' hd;obtain rfl:=sI hk;exact⟨_,by simp_all[convert,Conv.intToInt,uA],.sc _⟩
   .cases hk
  .cases h
 .cases h
def ma(P:Program)(T:TypeId)(cs:List AV):List (Nat×AV)->Option (List AV)
 |[]=>Z cs
 |(i,x)::rest=>match qn P T i,x.cells with
  |some (o,e),Z ds=>if O ds=qi P e/\o+O ds<=O cs then ma P T (cs.take o++ds++cs.drop (o+O ds)) rest else Y
  |_,_=>Y
def vC(P:Program)(T:TypeId):Bool:=match P.underlying T with|some (.struct fs)=>fs.toList.all (λf=>(P.info? f.type).isSome)|_=>M
def sp(P:Program)(T:TypeId)(parts:List (Nat×AV)):Option AV:=
 if vC P T then
  match yH P T with
  |some z=>(ma P T (z.map .sc) parts).map .agg
  |none=>Y
 else Y
theorem qAi{α β:Type}{f:α->Sem β}{h:α->β}:∀(l:List α),(∀x∈l,(f x).run P w=.ok (h x) w)->(l.mapM f).run P w=.ok (l.map h) w
 :=by intro x0;induction x0<;>simp_all
theorem qAh{α β:Type}{f:α->Sem β}{h:α->β}(l:Array α)(hl:∀x∈l,(f x).run P w=.ok (h x) w):(l.mapM f).run P w=.ok (l.map h) w:=by
 have:=qAi (P:=P) (w:=w) (f:=f) (h:=h) l.toList (λx hx=>hl x qQ)
 have e:l.mapM f=Functor.map List.toArray (l.toList.mapM f):=by
  rw[Array.mapM_eq_mapM_toList]
 simp_all<;>grind
theorem L0(o:Nat):∀(us:List Value)(i:Nat)(cs:Array Value),o+i+O us<=cs.size ->
  (us.zipIdx i).foldl (λcs(x:Value×Nat)=>cs.setIfInBounds (o+x.2) x.1) cs=(cs.toList.take (o+i)++us++cs.toList.drop (o+i+O us)).toArray:=by
 intro us
 induction us with
 |nil=>simp
 |cons v us ih=>
  simp_all<;>grind[list_seg_step]
theorem TP{fs:Array Field}(hu:P.underlying T=Z (.struct fs)):∀(parts:List (Nat×AV))(vp:List (Nat×Value))(cs:List AV)(vc:Array Value)(zs:List AV),
  vp.length=O parts->(∀(j:Nat)p q,vp[j]?=Z p->parts[j]?=Z q->p.1=q.1/\RV g w p.2 q.2) ->
  vc.size=O cs->(∀(j:Nat)y,cs[j]?=Z y->∃u,vc[j]?=Z u/\RV g w u y)->ma P T cs parts=Z zs ->
  ∃vz,Instr.fill ((fs.map (λf=>(f.offset,qi P f.type)))[·]?) vc vp=Z vz/\vz.size=O zs/\∀(j:Nat)y,zs[j]?=Z y->∃u,vz[j]?=Z u/\RV g w u y:=by
 intro parts
 induction parts with
 |nil=>
  grind[ma,Instr.fill]
 |cons q parts ih=>
  intro vp cs vc zs hl hp hs hr h;obtain⟨i,x⟩:=q
  cases vp with
  |nil=>simp at hl
  |cons p vp=>
   obtain⟨i',v⟩:=p;obtain⟨e1,hv⟩:=hp 0 _ _ rfl rfl;simp only at e1 hv;subst e1;simp only[ma]at h
   split at h
   .rename_i o e ds ht hc
    split at h
    .rename_i hcond;obtain⟨h1,h2⟩:=hcond;obtain⟨fs',fd,hu',hfd,rfl,rfl⟩:=P5 ht;rw[hu]at hu'
     injection hu' with hu'
     injection hu' with hu'
     subst hu';obtain⟨c1,c2,c3⟩:=hv.cells hc;have hlen:v.cells.size=O ds:=qA;have hplace:(fs.map (λf=>(f.offset,qi P f.type)))[i']?=Z (fd.offset,qi P fd.type):=by simp[hfd]
     have hfold:(v.cells.zipIdx.foldl (λcs(x:Value×Nat)=>cs.setIfInBounds (fd.offset+x.2) x.1) vc)=(vc.toList.take fd.offset++v.cells.toList++vc.toList.drop (fd.offset+O v.cells.toList)).toArray:=by
      have:=L0 fd.offset v.cells.toList 0 vc qp
      grind[Array.size]
     obtain⟨vz,hz1,hz2,hz3⟩:=ih vp (cs.take fd.offset++ds++cs.drop (fd.offset+O ds)) (vc.toList.take fd.offset++v.cells.toList++vc.toList.drop (fd.offset+O v.cells.toList)).toArray zs qx
      (λj p q hj hq=>hp (j+1) p q qx qx)
      qp
      (λj y hy=>by
        grind[OO]) h
     grind[Instr.fill]
    .cases h
   .cases h
theorem qAU{parts:List (Nat×AV)}{vp:Array (Nat×Value)}(hl:vp.size=O parts)(hp:∀(j:Nat)p q,vp[j]?=Z p->parts[j]?=Z q->p.1=q.1/\RV g w p.2 q.2)
  (h:sp P T parts=Z z):∃v',(Instr.build T vp).run P w=.ok v' w/\RV g w v' z:=by
 unfold sp at h
 split at h
 .rename_i hf
  split at h
  .rename_i zc hz;obtain⟨zs,hzs,rfl⟩:=zq.1 h;unfold vC at hf
   split at hf
   .rename_i fs hu;unfold yH at hz;obtain⟨zv,hzv,rfl⟩:=zq.1 hz;obtain⟨i,hi,hiz⟩:=gb.1 hzv
    obtain⟨vz,h1,h2,h3⟩:=TP (g:=g) (w:=w) hu parts vp.toList _ zv.cells zs qA (λj p q hj hq=>hp j p q qQ hq) qB
     (λj y hy=>by
       rw[j3]at hy;obtain⟨u,hu,rfl⟩:=zq.1 hy;exact⟨u,qQ,.sc _⟩) hzs
    have hm:=qAh (P:=P) (w:=w) (f:=λf:Field=>(do pure (f.offset,<- sizeOf f.type):Sem (Nat×Nat))) (h:=λf=>(f.offset,qi P f.type)) fs (λf hfm=>by
     have:=yn.1 hf f qQ;simp[nM this])
    refine⟨.agg vz,?_,?_⟩
    .simp only[Instr.build,Sem.run_bind,zeroValue,typeInfo,run_program,hi,Result.andThen_ok,Sem.run_pure,hiz,uA hu,hm,h1]
    constructor<;>grind
   .cases hf
  .cases h
 .cases h
end
section
variable{P:Program}{own:Nat->Prop}{C:Nat->Prop}{w0:World}{g:Gh}{st:St}{a:Act}{w:World}
def mw:Option AV->Option (Option (IntKind×Int))
 |none=>Z Y
 |some (.sc (.int k n))=>Z (Z (k,n))
 |_=>Y
def lh(hp:Nm->Option AO)(n:Nm)(z:Nat):Nat:=match hp n with|some (.row z' rows)=>if z'=z then O rows else 0|_=>0
theorem OP{hp:Nm->Option AO}{z k:Nat}(h:k<lh hp n z):∃rows,hp n=Z (.row z rows)/\k<O rows:=by
 grind[lh]
def kM(P:Program)(T:TypeId)(hp:Nm->Option AO)(x:AV)(lo hi:Option Int):Option AV:=
 match x with
 |.sc (.string s)=>if nQ P T/\0<=lo.getD 0/\lo.getD 0<=hi.getD s.size/\hi.getD s.size<=s.size then Z (.sc (.string (s.extract (lo.getD 0).toNat (hi.getD s.size).toNat)))else Y
 |.sl z rows=>match y7 P T with
  |some e=>if z=qi P e/\0<=lo.getD 0/\lo.getD 0<=hi.getD (O rows)/\hi.getD (O rows)<=O rows then Z (.sl z ((rows.drop (lo.getD 0).toNat).take ((hi.getD (O rows)).toNat-(lo.getD 0).toNat)))else Y
  |none=>Y
 |.hs n z p len=>match y7 P T with
  |some e=>if z=qi P e/\0<=lo.getD 0/\lo.getD 0<=hi.getD len/\(hi.getD len<=len\/p+(hi.getD len).toNat<=lh hp n z)then Z (.hs n z (p+(lo.getD 0).toNat) ((hi.getD len).toNat-(lo.getD 0).toNat))else Y
  |none=>Y
 |_=>Y
theorem OW{len:Nat}(h0:0<=(lo.map (λp:IntKind×Int=>p.2)).getD (0:Int))(h1:(lo.map (λp:IntKind×Int=>p.2)).getD (0:Int)<=(hi.map (λp:IntKind×Int=>p.2)).getD (len:Int))(h2:(hi.map (λp:IntKind×Int=>p.2)).getD (len:Int)<=cap):
  (Instr.sliceBounds b len cap (lo.map λp=>.int p.1 p.2) (hi.map λp=>.int p.1 p.2) Y).run P w=.ok (((lo.map (λp:IntKind×Int=>p.2)).getD (0:Int)).toNat,((hi.map (λp:IntKind×Int=>p.2)).getD (len:Int)).toNat,cap) w:=by
 have hb:∀(k:IntKind)(i:Int)(y:Nat)(c:BoundsCode),0<=i->i<=y->(Instr.sliceBound (.int k i) y c).run P w=.ok i.toNat w:=by
  simp_all[Instr.sliceBound,asIntOf]
 cases lo with
 |none=>
  cases hi<;>simp_all[Instr.sliceBounds]
 |some p=>
  cases hi with
  |none=>
   simp_all[Instr.sliceBounds]
  |some q=>
   simp_all<;>grind[Instr.sliceBounds,Sem.run_bind,Sem.run_pure,Result.andThen_ok]
theorem EM{E:TypeId}{len:Nat}(ht:y7 P T=Z E)(h0:0<=(lo.map (λp:IntKind×Int=>p.2)).getD (0:Int))(h1:(lo.map (λp:IntKind×Int=>p.2)).getD (0:Int)<=(hi.map (λp:IntKind×Int=>p.2)).getD (len:Int))(h2:(hi.map (λp:IntKind×Int=>p.2)).getD (len:Int)<=cap):
  (Instr.sliceAt T (.slice ad len cap) (lo.map λp=>.int p.1 p.2) (hi.map λp=>.int p.1 p.2) Y).run P w =
    .ok (.slice (if cap=((lo.map (λp:IntKind×Int=>p.2)).getD (0:Int)).toNat then ad else ad.map (·.add (((lo.map (λp:IntKind×Int=>p.2)).getD (0:Int)).toNat*qi P E))) (((hi.map (λp:IntKind×Int=>p.2)).getD (len:Int)).toNat-((lo.map (λp:IntKind×Int=>p.2)).getD (0:Int)).toNat) (cap-((lo.map (λp:IntKind×Int=>p.2)).getD (0:Int)).toNat)) w:=by
 obtain⟨hu,hi'⟩:=P1 ht
 simp_all[Instr.sliceAt,Instr.slice,uA,OW,nM]
theorem qAm(hi0:Inv own C w0 g st.hp w)(hv:RV g w v x)(h:kM P T st.hp x (lo.map (·.2)) (hi.map (λp:IntKind×Int=>p.2))=Z z):
  ∃v',(Instr.sliceAt T v (lo.map λp=>.int p.1 p.2) (hi.map λp=>.int p.1 p.2) Y).run P w=.ok v' w/\RV g w v' z:=by
 unfold kM at h
 split at h
 .rename_i s;obtain rfl:=hv.jF
  split at h
  .rename_i hc;obtain⟨ht,h0,h1,h2⟩:=hc;obtain rfl:=sI h;unfold nQ at ht
   split at ht
   .rename_i hu;refine⟨_,?_,.sc _⟩
    simp_all[Instr.sliceAt,Instr.slice,uA,OW]
   .cases ht
  .cases h
 .rename_i z0 rows
  split at h
  .rename_i e ht
   split at h
   .rename_i hc;obtain⟨hz,h0,h1,h2⟩:=hc;obtain rfl:=sI h
    cases hv with
    |yV ad cap _=>
     simp only[mG]at h0 h1 h2 ⊢;have h2':(hi.map (λp:IntKind×Int=>p.2)).getD ((0:Nat):Int)<=(cap:Int):=Int.le_trans h2 qA;refine⟨_,EM ht h0 h1 h2',?_⟩;have e:((hi.map (λp:IntKind×Int=>p.2)).getD ((0:Nat):Int)).toNat-((lo.map (λp:IntKind×Int=>p.2)).getD (0:Int)).toNat=0:=qA;rw[e];constructor<;>grind
    |eL b off cap n _ rows f hC hn hcap hu hcell ho hr=>
     rw[hn]at h1 h2 ⊢;refine⟨_,EM ht h0 h1 qA,?_⟩;generalize hL:((lo.map (λp:IntKind×Int=>p.2)).getD (0:Int)).toNat=L at *;generalize hH:((hi.map (λp:IntKind×Int=>p.2)).getD (n:Int)).toNat=H at *;have hLH:L<=H:=qA;have hHn:H<=n:=qA;by_cases he:H=L
     .subst he;rw[Nat.sub_self,List.take_zero];exact .yV _ _ _
     .rw [if_neg qA];simp only[kB,Addr.add_lit,<- hz];refine .eL b (off+L*z0) (cap-L) (H-L) z0 _ (λi j=>f (L+i) j) hC ?_ qA ?_ ?_ ?_ ?_<;>grind
   .cases h
  .cases h
 .rename_i n z0 p len
  split at h
  .rename_i e ht
   split at h
   .rename_i hc;obtain⟨hz,h0,h1,h2⟩:=hc;obtain rfl:=sI h
    cases hv with
    |de _ _ hk=>
     have h3:(hi.map (λp:IntKind×Int=>p.2)).getD ((0:Nat):Int)<=((0:Nat):Int):=by
      rcases h2 with h2|h2
      .exact h2
      .refine Int.not_lt.1 λhlt=>?_;have h5:0<lh st.hp n z0:=qA;obtain⟨rows,hr,h2⟩:=OP h5;have ho:=hi0.obj _ _ hr
       grind[jd]
     refine⟨_,EM ht h0 h1 h3,?_⟩;have e1:((hi.map (λp:IntKind×Int=>p.2)).getD ((0:Nat):Int)).toNat=0:=qA;have e2:((lo.map (λp:IntKind×Int=>p.2)).getD (0:Int)).toNat=0:=qA;rw[e1,e2];exact .de n z0 hk
    |bT _ _ _ _ b cap ad hk g1 g2 g3=>
     have h3:(hi.map (λp:IntKind×Int=>p.2)).getD (len:Int)<=(cap:Int):=by
      rcases h2 with h2|h2
      .omega
      .refine Int.not_lt.1 λhlt=>?_;obtain⟨rows,hr,h2⟩:=OP (um (by omega:p+((hi.map (λp:IntKind×Int=>p.2)).getD (len:Int)).toNat - 1<p+((hi.map (λp:IntKind×Int=>p.2)).getD (len:Int)).toNat) h2);have ho:=hi0.obj _ _ hr;simp only[jd,hk]at ho;obtain⟨cur,T',x1,x2,x3,x4,_⟩:=ho;omega
     refine⟨_,EM ht h0 h1 h3,?_⟩;generalize hL:((lo.map (λp:IntKind×Int=>p.2)).getD (0:Int)).toNat=L at *;generalize hH:((hi.map (λp:IntKind×Int=>p.2)).getD (len:Int)).toNat=H at *;refine .bT n z0 (p+L) (H-L) b (cap-L) _ hk qA qA (λhlt=>?_)
     grind[Addr.add_lit]
   .cases h
  .cases h
 .cases h
def dq(k:IntKind)(n:Int):List (AV×AV)->Option AV
 |[]=>Y
 |(.sc (.int k' m),x)::l=>if k'=k then(if m=n then Z x else dq k n l)else Y
 |_::_=>Y
def aQ(k:IntKind):List (AV×AV)->Bool
 |[]=>B
 |(.sc (.int k' _),_)::l=>(k'==k)&&aQ k l
 |_::_=>M
def gJ(P:Program)(T:TypeId):Option (IntKind×TypeId):=
 match P.underlying T with
 |some (.map key e)=>match P.underlying key with
  |some (.int k)=>Z (k,e)
  |_=>Y
 |_=>Y
def xY(P:Program)(T:TypeId)(hp:Nm->Option AO)(x i:AV)(ok:Bool):Option AV:=
 match gJ P T,i with
 |some (k,e),.sc (.int k' n)=>if k'=k then(match x with
  |.mp m=>match hp m with
   |some (.map es)=>if aQ k es then(match dq k n es with
    |some y=>Z (if ok then .zT [y,.sc (.bool B)]else y)
    |none=>(a7 P e).map (λz=>if ok then .zT [z,.sc (.bool M)]else z))else Y
   |_=>Y
  |_=>Y)else Y
 |_,_=>Y
theorem BG{k:IntKind}{n:Int}:∀(ms:List MapEntry)(es:List (AV×AV))(p:Nat),O ms=O es->(∀(i:Nat)m e,ms[i]?=Z m->es[i]?=Z e->RV g w m.key e.1/\RV g w m.val e.2)->aQ k es=B ->
  ∃r,Instr.findNow (.int k) (.int k n) ms p=Z r/\match dq k n es with
   |some y=>∃i v,r=Z (p+i,v)/\RV g w v y/\(∃m,ms[i]?=Z m/\m.val=v/\m.key=.int k n)/\i<O ms
   |none=>r=Y
 |[],es,p,hl,_,_=>by
  obtain rfl:=bN (by simpa using hl.symm);exact⟨Y,rfl,rfl⟩
 |m::ms,[],p,hl,_,_=>by simp at hl
 |m::ms,(ek,ev)::es,p,hl,hr,hm=>by
  unfold aQ at hm
  split at hm
  .simp_all
  .rename_i k' m' x l he;obtain⟨e1,rfl⟩:=List.cons.inj he;obtain⟨rfl,rfl⟩:=ga e1;simp only[yF,beq_iff_eq]at hm;obtain⟨rfl,hm⟩:=hm;obtain⟨h1,h2⟩:=hr 0 m _ rfl rfl;have hk:=h1.jF;by_cases hn:m'=n
   .subst hn;refine⟨Z (p,m.val),by grind[Instr.findNow,Instr.sameNow],?_⟩
    simp_all<;>grind[dq]
   .obtain⟨r,f1,f2⟩:=BG (n:=n) ms es (p+1) qQ (λi m e hm he=>hr (i+1) m e qQ qQ) hm;have hne:(n==m')=M:=qx;refine⟨r,by grind[Instr.findNow,Instr.sameNow],?_⟩;simp only[dq,if_true,if_neg hn]
    split
    .rename_i y hy;rw[hy]at f2;obtain⟨i,v,e1,e2,⟨m2,e3,e4⟩,e5⟩:=f2
     simp_all<;>grind
    simp_all
  .cases hm
theorem Ig(h:gJ P T=Z (k,e)):∃key,P.underlying T=Z (.map key e)/\P.underlying key=Z (.int k):=by
 grind[gJ]
theorem IF{key:TypeId}{n:Int}(h:P.underlying key=Z (.int k)):(Instr.checkKey b 10000 key (.int k n)).run P w=.ok () w:=by
 have:∀d,(Instr.checkKey b (d+1) key (.int k n)).run P w=.ok () w:=by
  simp_all[Instr.checkKey,underlying]
 simp_all
def qAg{i:AV}{ok:Bool}(hi0:Inv own C w0 g st.hp w)(hv:RV g w v x)(hu:RV g w u i)(h:xY P T st.hp x i ok=Z z):
  ∃v',(Instr.lookup T v u ok).run P w=.ok v' w/\RV g w v' z:=by
 unfold xY at h
 split at h
 .rename_i k e k' n ht
  split at h
  .rename_i hk;subst hk
   split at h
   .rename_i m
    split at h
    .rename_i es hm
     split at h
     .rename_i hmk;obtain⟨key,hT,hkey⟩:=Ig ht;obtain rfl:=hu.jF
      cases hv with
      |mp _ b hb=>
       have ho:=hi0.obj _ _ hm;simp only[jd,hb]at ho;obtain⟨ms,clock,h1,_,h2,h3⟩:=ho;have hg:(getObj b).run P w=.ok (.map ms.toArray clock) w:=Cy;obtain⟨r,f1,f2⟩:=BG (n:=n) ms es 0 h2 h3 hmk;have hck:=λb=>IF (P:=P) (w:=w) (n:=n) (b:=b) hkey
       split at h
       .rename_i y hy;rw[hy]at f2;obtain⟨i',v',rfl,hv',_⟩:=f2;obtain rfl:=sI h
        cases ok
        .exact⟨v',KU,hv'⟩
        .exact⟨.tuple #[v',.bool B],KU,.CJ hv' (.sc _)⟩
       .rename_i hy;rw[hy]at f2;subst f2;obtain⟨z0,hz0,rfl⟩:=zq.1 h;obtain⟨v0,hr0,hv0⟩:=II (g:=g) (w:=w) hz0
        cases ok
        .exact⟨v0,KH,hv0⟩
        .exact⟨.tuple #[v0,.bool M],KH,.CJ hv0 (.sc _)⟩
     .cases h
    .cases h
   .cases h
  .cases h
 .cases h
def EZ(P:Program)(A:TypeId)(x:AV):Option AV:=
 if wu P A=Z M then
  match x with
  |.jL t y=>if t=A then Z y else Y
  |_=>Y
 else Y
theorem qAp(hv:RV g w v x)(h:EZ P A x=Z z):∃v',(Instr.typeAssert v T A M).run P w=.ok v' w/\RV g w v' z:=by
 unfold EZ at h
 split at h
 .rename_i h1
  obtain⟨d,hu,hd⟩:∃d,P.underlying A=Z d/\∀ms,d≠.interface ms:=by
   grind[wu]
  split at h
  .rename_i t y
   split at h
   .rename_i ht;subst ht;obtain rfl:=sI h
    cases hv<;>simp_all[Instr.typeAssert,uA]
   .cases h
  .cases h
 .cases h
def rz:AV->Option AV
 |.pt id o=>Z (.pt id o)
 |.el r o=>Z (.el r o)
 |.ep n z i o=>Z (.ep n z i o)
 |.fn (.func f) x y=>Z (.fn (.func f) x y)
 |.sc (.func (.func f) x y)=>Z (.sc (.func (.func f) x y))
 |_=>Y
def vA(P:Program)(st:St)(o:Oper):Option AV:=
 match o.op with
 |.move x=>Z (ev st x)
 |.pick c x y=>nC (ev st c) (ev st x) (ev st y)
 |.load T x=>(bu st (ev st x)).bind (λp=>db P T p.1 p.2)
 |.nilCheck x=>rz (ev st x)
 |.binOp op T x y _=>cd P T op (match y with|.const _=>B|_=>M) (ev st x) (ev st y)
 |.unOp op _ x=>AE op (ev st x)
 |.convert S D x=>BB P S D (ev st x)
 |.makeInterface T x=>BZ P T (ev st x)
 |.slice T x lo hi Y=>(mw (lo.map (ev st))).bind λl=>(mw (hi.map (ev st))).bind λh=>kM P T st.hp (ev st x) (l.map (·.2)) (h.map (·.2))
 |.fieldAddr T x f=>rg P T f (ev st x)
 |.field T x f=>xG P T f (ev st x)
 |.indexAddr T x i=>match ev st i with|.sc (.int _ n)=>BK P T (ev st x) n|_=>Y
 |.index T x i=>match ev st i with|.sc (.int _ n)=>xI P T (ev st x) n|_=>Y
 |.extract x i=>BF i (ev st x)
 |.build T parts=>sp P T (parts.toList.map (λp=>(p.1,ev st p.2)))
 |.typeAssert x _ A B=>pQ P A (ev st x)
 |.typeAssert x _ A M=>EZ P A (ev st x)
 |.makeFunc f xs ys=>Z (.fn f (xs.toList.map (ev st)) (ys.toList.map (ev st)))
 |.lookup T x i ok=>xY P T st.hp (ev st x) (ev st i) ok
 |.call c=>match c.callee,c.args.toList,c.argTypes.toList with
  |.builtin .len,[x],[T]=>mn P T st.hp (ev st x)
  |_,_,_=>Y
 |_=>Y
theorem NR{lo:Option Operand}{l:Option (IntKind×Int)}(h:Rg P own C w0 g st a w)(hl:mw (lo.map (ev st))=Z l):lo.map a.eval=l.map λp=>Value.int p.1 p.2:=by
 cases lo with
 |none=>grind[mw]
 |some x=>
  have hv:=h.ev x;simp only[kB]at hl ⊢;generalize Hm.ev st x=y at hl hv;unfold mw at hl
  grind[RV.jF]
theorem Nj(h:Rg P own C w0 g st a w)(hq:vA P st o=Z z):∃v,(execOp a.eval o).run P w=.ok (.value v) w/\RV g w v z:=by
 have wrap:∀(s:Sem Value),(∃v,s.run P w=.ok v w/\RV g w v z)->∃v,(do pure (Next.value (<- s)):Sem Next).run P w=.ok (.value v) w/\RV g w v z:=by
  simp_all
 unfold vA at hq;unfold execOp
 split at hq
 all_goals(rename_i hop;first|rw[hop]|simp_all)
 .obtain rfl:=sI hq;exact⟨_,rfl,h.ev _⟩
 .obtain⟨v,h1,h2⟩:=qAl (w:=w) (h.ev _) (h.ev _) (h.ev _) hq;refine⟨v,?_,h2⟩;simp only[Sem.run_bind,Sem.run_pure]at h1 ⊢;revert h1
  cases (asBool (a.eval _)).run P w with
  |ok t w'=>
   simp
  |halt x w'=>simp
 .obtain⟨⟨cs,off⟩,h1,h2⟩:=gb.1 hq;exact wrap _ (qAf h rfl h1 h2)
 .rename_i x;have hv:=h.ev x;generalize Hm.ev st x=y at hq hv;unfold rz at hq
  split at hq
  .obtain rfl:=sI hq;obtain⟨ad,e⟩:=hv.xm (.inl ⟨_,_,rfl⟩)
   simp_all
  .obtain rfl:=sI hq;obtain⟨ad,e⟩:=hv.xm (.inr (.inl ⟨_,_,rfl⟩))
   simp_all
  .obtain rfl:=sI hq;obtain⟨ad,e⟩:=hv.xm (.inr (.inr ⟨_,_,_,_,rfl⟩))
   simp_all
  .rename_i f0 _ _;obtain rfl:=sI hq
   have e:∃vs us,a.eval x=.func (.func f0) vs us:=by
    generalize a.eval x=v at hv
    cases hv<;>grind
   obtain⟨vs,us,e⟩:=e
   simp_all
  .obtain rfl:=sI hq;have e:=hv.jF
   simp_all
  .cases hq
 .rename_i op T x y yT;obtain⟨v,h1,h2⟩:=qAT (xo:=x) (yo:=y) (λhc=>qx) (h.ev _) (h.ev _) hq;exact wrap _ ⟨v,h1,h2⟩
 .exact wrap _ (qAr (h.ev _) hq)
 .exact wrap _ (qAV (h.ev _) hq)
 .exact wrap _ (qAk (h.ev _) hq)
 .rename_i T x lo hi;obtain⟨l,hl,hq⟩:=gb.1 hq;obtain⟨u,hu,hq⟩:=gb.1 hq;have e1:=NR h hl;have e2:=NR h hu;refine wrap (Instr.sliceAt T (a.eval x) (lo.map a.eval) (hi.map a.eval) Y) ?_;rw[e1,e2];exact qAm h.inv (h.ev _) hq
 .exact wrap _ (qA3 (h.ev _) hq)
 .exact wrap _ (qA4 (h.ev _) hq)
 .rename_i T x i
  split at hq
  .rename_i k n e;have hi:=h.ev i;rw[e]at hi;refine wrap (Instr.indexAt T (a.eval x) (a.eval i)) ?_;rw[hi.jF];exact qAc (h.ev _) hq
  .cases hq
 .rename_i T x i
  split at hq
  .rename_i k n e;have hi:=h.ev i;rw[e]at hi;refine wrap (Instr.index T (a.eval x) (a.eval i)) ?_;rw[hi.jF];exact qAb (h.ev _) hq
  .cases hq
 .exact wrap _ (qA2 (h.ev _) hq)
 .rename_i T parts;refine wrap _ (qAU qB (λj p q hp hq'=>?_) hq);rw[Array.getElem?_map]at hp;obtain⟨p0,hp0,rfl⟩:=zq.1 hp;rw[j3]at hq';obtain⟨q0,hq0,rfl⟩:=zq.1 hq'
  have:p0=q0:=by
   simp_all
  subst this;exact⟨rfl,h.ev _⟩
 .exact wrap _ (qAq (h.ev _) hq)
 .exact wrap _ (qAp (h.ev _) hq)
 .rename_i f xs ys;obtain rfl:=sI hq;refine wrap (Instr.makeFunc f (xs.map a.eval) (ys.map a.eval)) ⟨.func f (xs.map a.eval) (ys.map a.eval),rfl,?_⟩
  have:=RV.fn (g:=g) (w:=w) f (xs.toList.map a.eval) (ys.toList.map a.eval) (xs.toList.map (Hm.ev st)) (ys.toList.map (Hm.ev st)) qB qB (λj v x hv hx=>by
   rw[j3]at hv hx;obtain⟨o1,e1,rfl⟩:=zq.1 hv;rw[e1]at hx;obtain rfl:=sI hx;exact h.ev _) (λj v x hv hx=>by
   rw[j3]at hv hx;obtain⟨o1,e1,rfl⟩:=zq.1 hv;rw[e1]at hx;obtain rfl:=sI hx;exact h.ev _)
  have e1:(xs.toList.map a.eval).toArray=xs.map a.eval:=qx;have e2:(ys.toList.map a.eval).toArray=ys.map a.eval:=qx
  simp_all
 .exact wrap _ (qAg h.inv (h.ev _) (h.ev _) hq)
 .rename_i c
  split at hq
  .rename_i x T hc ha hT;obtain⟨v,h1,h2⟩:=qAe (ty:=o.type) (w:=w) h.inv (h.ev x) hq;refine⟨v,?_,h2⟩;have ha':c.args=#[x]:=qx;have hT':c.argTypes=#[T]:=qx
   simp_all[resolve,invoke,builtin]
  .cases hq
end
def bK(P:Program)(o:Oper)(a:Act)(w:World)(K:Act->World->Prop):Prop:=
 (∃v w',(execOp a.eval o).run P w=.ok (.value v) w'/\K (a.put o.dst v) w')\/∃w',(execOp a.eval o).run P w=.ok .skip w'/\K (a.put o.dst undef) w'
theorem bK.wp{P:Program}{o:Oper}{a:Act}{w:World}{K:Act->World->Prop}(h:bK P o a w K)(Q:Exit->Act->World->Prop):o.wp P a w K Q:=by
 unfold Oper.wp;rcases h with⟨v,w',e,h⟩|⟨w',e,h⟩
 .rw [e];exact h
 .rw [e];exact h
def Ie(P:Program):Nat->TypeId->List Nat
 |0,_=>[]
 |n+1,T=>match P.underlying T with
  |some (.struct fs)=>fs.toList.flatMap λf=>Ie P n f.type
  |some (.array k e)=>(List.replicate k (Ie P n e)).flatten
  |some (.slice e)=>[qi P e]
  |some _=>List.replicate (qi P T) 0
  |none=>[]
def zb(P:Program)(T:TypeId):List Nat:=Ie P 20 T
def uh:AV->Option Nm
 |.hs (.s t) _ _ _=>Z (.s t)
 |.pt (.s t) _=>Z (.s t)
 |.mp (.s t)=>Z (.s t)
 |_=>Y
def j5:AV->Bool
 |.sc (.slice Y 0 0)=>B
 |_=>M
def zc(z:Nat)(k:Nm)(x:AV):AV:=if j5 x then .hs k z 0 0 else x
def vM(key:Nat->Nm)(es:List Nat):Nat->List AV->List AV
 |_,[]=>[]
 |j,x::l=>zc (es.getD j 0) (key j) x::vM key es (j+1) l
def vX(key:Nat->Nm)(es:List Nat):Nat->List AV->List (Nm×Nat)
 |_,[]=>[]
 |j,x::l=>if j5 x then(key j,es.getD j 0)::vX key es (j+1) l else vX key es (j+1) l
def kg(key:Nat->Nm):Nat->List AV->List (Nm×Nm)
 |_,[]=>[]
 |j,x::l=>match uh x with
  |some k=>(k,key j)::kg key (j+1) l
  |none=>kg key (j+1) l
def canon:List (Nm×Nm)->St->St
 |[],st=>st
 |p::l,st=>canon l (st.move p.1 p.2)
def St.ki:List (Nm×Nat)->St->St
 |[],st=>st
 |p::l,st=>(St.ki l st).zW p.1 (.row p.2 [])
def St.eW:List (Nm×Nat)->St->St
 |[],st=>st
 |p::l,st=>St.eW l ((st.kill p.1).zW p.1 (.row p.2 []))
theorem JK(key:Nat->Nm)(es:List Nat):∀(l:List AV)(j:Nat),O (vM key es j l)=O l
 :=by intro x0;induction x0<;>grind[vM]
theorem JJ(key:Nat->Nm)(es:List Nat):∀(l:List AV)(j i:Nat),(vM key es j l)[i]?=(l[i]?).map (λx=>zc (es.getD (j+i) 0) (key (j+i)) x)
 :=by intro x0;induction x0<;>grind[vM]
theorem Wb(key:Nat->Nm)(es:List Nat):∀(l:List AV)(j i:Nat)(x:AV),l[i]?=Z x->j5 x=B->(key (j+i),es.getD (j+i) 0)∈vX key es j l
 :=by intro x0;induction x0<;>grind[vX]
theorem B1(key:Nat->Nm)(es:List Nat):∀(l:List AV)(j:Nat)p,p∈vX key es j l->∃i,p.1=key i
 |[],_,_,h=>by grind[vX]
 |y::l,j,p,h=>by
  simp only[vX]at h
  split at h
  .rcases vV.1 h with rfl|h
   .grind
   .exact B1 key es l (j+1) p h
  .exact B1 key es l (j+1) p h
theorem RV.zc{g:Gh}{w:World}{v:Value}{x:AV}{z:Nat}{k:Nm}(hv:RV g w v x)(hk:j5 x=B->g.φ k=Y):RV g w v (zc z k x):=by
 unfold Hm.zc
 split
 .rename_i hn
  have:x=.sc (.slice Y 0 0):=by
   grind[j5]
  subst this;rw[hv.jF];exact .de k z (hk hn)
 .exact hv
def qBU:∀(l:List (Nm×Nat))(st:St)(m:Nm)(o:AO),(St.ki l st).hp m=Z o->(∃p∈l,p.1=m/\o=.row p.2 [])\/((∀p∈l,p.1≠m)/\st.hp m=Z o)
 :=Fy
theorem IR:∀(l:List (Nm×Nat))(st:St),(St.ki l st).tm=st.tm
 :=Fy
theorem Bt:∀(l:List (Nm×Nat))(st:St),(St.ki l st).n=st.n/\(St.ki l st).gl=st.gl
 :=Fy
theorem Ez:∀(l:List (Nm×Nat))(st:St),(St.eW l st).n=st.n/\(St.eW l st).gl=st.gl
 |[],_=>⟨rfl,rfl⟩
 |p::l,st=>by rw[St.eW,(Ez l _).1,(Ez l _).2];exact⟨rfl,rfl⟩
theorem Ay:∀(l:List (Nm×Nm))(st:St),(canon l st).n=st.n/\(canon l st).gl=st.gl
 |[],_=>⟨rfl,rfl⟩
 |p::l,st=>by rw[canon,(Ay l _).1,(Ay l _).2];exact⟨rfl,rfl⟩
noncomputable def Gh.fresh(g:Gh)(n:Nm)(b:Option Nat)(cap:Nat):Gh:=
 {C:=g.C,φ:=λm=>if m=n then b else(g.tr (kl n)).φ m,κ:=λm=>if m=n then cap else(g.tr (kl n)).κ m}
section
variable{P:Program}{own:Nat->Prop}{C:Nat->Prop}{w0:World}{g:Gh}{st:St}{a:Act}{w:World}
def lC(o:Obj){b:Nat}(h:b<w.heap.size):(w.alloc o).heap[b]?=w.heap[b]?:=Below.heap_alloc w o b h
def l9(l:List (Nm×Nm)):Prop:=∀p∈l,p.1.z6=M/\p.2.z6=M
theorem Rg.canon(l:List (Nm×Nm))(hl:l9 l):∀{st:St}{g:Gh},Rg P own C w0 g st a w->kV P own C w0 g (canon l st) a w:=by
 induction l with
 |nil=>grind[kA.refl,kV,Hm.canon]
 |cons p l ih=>
  intro st g h;obtain⟨g',h1,h2⟩:=ih (λq hq=>hl q lL) (h.move p.1 p.2);exact⟨g',(kA.mv (hl p qB).1 (hl p qB).2).trans h1,h2⟩
theorem O4{k:Nm}(h:uh x=Z k):k.z6=M:=by
 unfold uh at h
 grind[Nm.z6]
theorem Ba(key:Nat->Nm)(hk:∀i,(key i).z6=M):∀(l:List AV)(j:Nat),l9 (kg key j l)
 |[],_=>by simp[kg,l9]
 |x::l,j=>by
  simp only[kg]
  split
  .rename_i k hx;intro p hp;rcases vV.1 hp with rfl|hp
   .grind[O4]
   .exact Ba key hk l (j+1) p hp
  .exact Ba key hk l (j+1)
theorem Gh.Tj(h:g.φ m=Y):(g.tr (kl n)).φ m=Y:=by
 grind[xN,kl,gK]
theorem Rg.eW(l:List (Nm×Nat))(hlu:∀p∈l,p.1.z6=M):∀{st:St}{g:Gh},Rg P own C w0 g st a w->∃g',Rg P own C w0 g' (St.eW l st) a w/\(∀p∈l,g'.φ p.1=Y)/\(∀m,g.φ m=Y->g'.φ m=Y)/\kA g g':=by
 induction l with
 |nil=>grind[St.eW,kA]
 |cons p l ih=>
  intro st g h;have gf:∀k k',kl p.1 k=Z k'->(g.tr (kl p.1)).φ k'=g.φ k/\(g.tr (kl p.1)).κ k'=g.κ k:=λ_ _ e=>Gh.gK (λ_ _ _=>MJ) e
  have hs:=h.step (g':=g.tr (kl p.1)) (w':=w) (f:=kl p.1) (hp':=((st.kill p.1).zW p.1 (.row p.2 [])).hp) rfl gf rfl rfl rfl (qb _) (λ_ _=>rfl) (λ_ _ _=>rfl) (λn' o' e=>by
   simp only[St.zW]at e
   split at e
   .grind[jd,xN,Nm.uQ]
   .obtain⟨o,e1,e2,e3⟩:=D4 e
    grind)
  obtain⟨g',h1,h2,h3,h4⟩:=ih (λq hq=>hlu q lL) hs;refine⟨g',h1,?_,λx hx=>h3 x (Gh.Tj hx),(kA.kl (hlu p qB)).trans h4⟩
  grind[xN,Nm.uQ]
theorem D1(n:Nm)(b:Option Nat)(cap:Nat):∀k k',kl n k=Z k'->(g.fresh n b cap).φ k'=g.φ k/\(g.fresh n b cap).κ k'=g.κ k:=by
 grind[Nm.uQ,Gh.fresh,Gh.gK,kl]
theorem wA(n:Nm)(b:Option Nat)(cap:Nat):(g.fresh n b cap).φ n=b/\(g.fresh n b cap).κ n=cap:=by simp[Gh.fresh]
theorem D2{b:Option Nat}(h:Nm.under n m=B)(hne:m≠n):(g.fresh n b cap).φ m=Y:=by
 grind[Gh.fresh,xN]
theorem kA.fresh{n:Nm}{b:Option Nat}{cap:Nat}(h:n.z6=M):kA g (g.fresh n b cap):=λk i j=>by
 grind[Nm.z6,Gh.fresh,kl,kA]
theorem Rg.made(h:Rg P own C w0 g st a w)(n:Nm)(o:AO)(b cap:Nat)(w':World)(nl:List (Nm×Nat))(hnl:∀p∈nl,Nm.under n p.1=B/\p.1≠n)(dr:Nm->Bool)
  (h1:w'.os=w.os)(h2:w'.tape=w.tape)(h3:w'.output=w.output)(h4:w.heap.size<=w'.heap.size)(hb:w.heap.size<=b\/∃m o,dr m=B/\st.hp m=Z o/\g.φ m=Z b)(hlt:b<w'.heap.size)
  (hw:∀b',b'≠b->b'<w.heap.size->w'.heap[b']?=w.heap[b']?)(ho:jd (g.fresh n (Z b) cap) w' n o):
  Rg P own C w0 (g.fresh n (Z b) cap) (((St.ki nl (st.nm (kl n) (λm=>if dr m then Y else jN n st.hp m)))).zW n o) a w':=by
 have hcond:¬C b/\(w0.heap.size<=b\/own b):=by
  rcases hb with hb|⟨m,o,_,hm,hk⟩
  .exact⟨λhC=>absurd (h.inv.ur b hC) qA,.inl (uV h.inv.size hb)⟩
  .obtain⟨x1,x2,_⟩:=h.inv.qG m o b hm hk
   simp_all
 have far:∀m o,dr m=M->st.hp m=Z o->g.φ m≠Z b:=by
  intro m o hd hm hk;rcases hb with hb|⟨m',o',hd',hm',hk'⟩
  .have:=(h.inv.qG m o b hm hk).2.2;omega
  .have:=h.inv.inj m m' o o' b hm hm' hk hk'
   simp_all
 have gf:=D1 (g:=g) n (Z b) cap
 have key:∀m o',(((St.ki nl (st.nm (kl n) (λm=>if dr m then Y else jN n st.hp m)))).zW n o).hp m=Z o' ->
   (m=n/\o'=o)\/(m≠n/\(∃p∈nl,p.1=m/\o'=.row p.2 []))\/∃q,m≠n/\dr m=M/\kl n m=Z m/\st.hp m=Z q/\o'=q.tr (kl n):=by
  intro m o' e;simp only[St.zW]at e
  split at e
  .simp_all
  .rename_i hne;rcases qBU nl _ m o' e with⟨p,q1,q2⟩|⟨_,q2⟩<;>grind[St.nm,D4]
 have hC':∀b',C b'->w'.heap[b']?=w.heap[b']?:=λb' hC=>hw b' (λe=>hcond.1 (e ▸ hC)) (h.inv.ur b' hC)
 have hs:=h.step (g':=g.fresh n (Z b) cap) (w':=w') (f:=kl n) (hp':=(((St.ki nl (st.nm (kl n) (λm=>if dr m then Y else jN n st.hp m)))).zW n o).hp) rfl gf h1 h2 h3 h4 hC'
  (λb' hb' hno=>hw b' (λe=>by
    grind) (um hb' h.inv.size)) (λm o' e=>by
  rcases key m o' e with⟨rfl,rfl⟩|⟨hne,p,hp,rfl,rfl⟩|⟨q,hne,hd,e1,e2,e3⟩
  .grind[wA,D2]
  .grind[jd,D2]
  .refine .inl ⟨m,q,e1,e2,e3,λb' hb'=>hw b' (λe=>?_) (h.inv.qG m q b' e2 hb').2.2⟩
   simp_all)
 grind[IR,Bt,St.nm,St.zW]
def Rg.EN(h:Rg P own C w0 g st a w){b:Nat}{w':World}(hw:∀b',C b'->w'.heap[b']?=w.heap[b']?)(hv:RV g w v x):RV (g.fresh n (Z b) cap) w' v (x.tr (kl n)):=
 h.rv (g':=g.fresh n (Z b) cap) rfl hw (D1 n (Z b) cap) hv
def rH(P:Program)(T:TypeId)(d:Nat)(x:AV)(st:St):St:=
 if j5 x then((((st.kill (.s d)).zW (.s d) (.row (((y7 P T).map (qi P)).getD 0) []))).put (Z d) (.hs (.s d) (((y7 P T).map (qi P)).getD 0) 0 0))
 else match uh x with
  |some k=>if k=.s d then st.put (Z d) x else(st.move k (.s d)).put (Z d) (x.tr (mv k (.s d)))
  |none=>st.put (Z d) x
theorem RM{x:Operand}(h:Rg P own C w0 g st a w)(ho:o.op=.assign x)(hd:o.dst=Z d)(hn:d<st.n):
  bK P o a w λa' w'=>kV P own C w0 g (rH P o.type d (ev st x) st) a' w':=by
 have hv:=h.ev x;refine .inl ⟨a.eval x,w,by simp[execOp,ho],?_⟩;rw[hd];have hd':∀(s:St)t,s.n=st.n->Z d=Z t->t<s.n:=qQ;unfold rH
 split
 .rename_i hnil;obtain⟨g',h1,h2,h3,_⟩:=h.NC (.s d) (((y7 P o.type).map (qi P)).getD 0);refine⟨g',h3 rfl,h1.put (λt e=>hd' _ t rfl e) ?_⟩
  grind[j5,RV.jF]
 .split
  .rename_i k hk
   split
   .exact⟨g,.refl g,h.put (λt e=>hd' _ t rfl e) hv⟩
   .exact⟨_,kA.mv (O4 hk) rfl,(h.move k (.s d)).put (λt e=>hd' _ t rfl e) (h.rv (g':=g.tr (mv k (.s d))) rfl (λ_ _=>rfl) (λ_ _ e=>Gh.gK (λ_ _ _=>Do) e) hv)⟩
  .exact⟨g,.refl g,h.put (λt e=>hd' _ t rfl e) hv⟩
def ce(P:Program)(T:TypeId)(d:Nat)(cs:List AV)(st:St):St:=
 let c1:=cs.map (AV.tr (kl (.s d)))
 let c2:=vM (Nm.c (.s d) 0) (zb P T) 0 c1
 canon (kg (Nm.c (.s d) 0) 0 c2) (((St.ki (vX (Nm.c (.s d) 0) (zb P T) 0 c1) (st.kill (.s d))).zW (.s d) (.row (qi P T) [c2])).put (Z d) (.pt (.s d) 0))
theorem Jz(h:Rg P own C w0 g st a w)(hn:d<st.n)(hl:O vs=O cs)(hz:O cs=qi P T)(ho:∀v∈vs,v.oneCell'=B)
  (hr:∀(j:Nat)v x,vs[j]?=Z v->cs[j]?=Z x->RV g w v x):
  kV P own C w0 g (ce P T d cs st) (a.put (Z d) (.pointer (Z ⟨w.heap.size,0,Y⟩))) (w.alloc (.cells vs.toArray T)):=by
 unfold ce;generalize hc1:cs.map (AV.tr (kl (.s d)))=c1;have hC':∀b',C b'->(w.alloc (.cells vs.toArray T)).heap[b']?=w.heap[b']?:=λb' hC=>lC _ (h.inv.ur b' hC)
 have hm:=h.made (.s d) (.row (qi P T) [vM (Nm.c (.s d) 0) (zb P T) 0 c1]) w.heap.size 1 (w.alloc (.cells vs.toArray T)) (vX (Nm.c (.s d) 0) (zb P T) 0 c1)
  (λp hp=>by
    grind[B1,Nm.under]) (λ_=>M) rfl rfl rfl qB (.inl (qb _)) qB (λb' _ hb'=>lC _ hb') (by
    simp only[jd,(wA (g:=g) (.s d) (Z w.heap.size) 1).1,(wA (g:=g) (.s d) (Z w.heap.size) 1).2];refine⟨vs.toArray,T,heap_alloc_new w _,qQ,qf,qB,?_,?_,?_⟩
    .grind[JK]
    .simp_all
    .intro i row hrow j x hx
     match i,hrow with
     |0,hrow=>
      simp at hrow;subst hrow;rw[JJ,<- hc1,j3]at hx;obtain⟨x1,hx1,rfl⟩:=zq.1 hx;obtain⟨x0,hx0,rfl⟩:=zq.1 hx1;have hj':j<O vs:=qx;have:vs.toArray.getD (0*qi P T+j) undef=vs[j]:=by simp[hj']
      rw[this];refine(h.EN hC' (hr j _ x0 (gE hj') hx0)).zc λ_=>D2 ag qB)
 have e:(st.nm (kl (.s d)) (λm=>if(λ_=>M:Nm->Bool) m then Y else jN (.s d) st.hp m))=st.kill (.s d):=tN;rw[e]at hm
 exact(hm.put (d:=Z d) (λt e=>by
  obtain rfl:=sI e;simp only[St.zW,(Bt _ _).1];exact hn) (.pt _ _ _ (wA _ _ _).1)).canon _ (Ba _ (λ_=>rfl) _ _) |> λ⟨g',u,r⟩=>⟨g',(kA.fresh rfl).trans u,r⟩
def Rf{x:Operand}(h:Rg P own C w0 g st a w)(ho:o.op=.box T x)(hd:o.dst=Z d)(hn:d<st.n)(hq:(ev st x).cells=Z cs)(hz:O cs=qi P T):
  bK P o a w λa' w'=>kV P own C w0 g (ce P T d cs st) a' w':=by
 refine .inl ⟨.pointer (Z ⟨w.heap.size,0,Y⟩),w.alloc (.cells (a.eval x).cells T),?_,?_⟩
 .simp [execOp,ho,Instr.box,newVar,newRow]
 .rw [hd];obtain⟨h1,h2,h3⟩:=(h.ev x).cells hq;have:=Jz (T:=T) h hn h1 hz h2 h3;omega
def yO(P:Program)(T:TypeId):Option (List AV):=(yH P T).bind λl=>if l.all Value.oneCell'&&(O l==qi P T)then Z (l.map .sc)else Y
theorem JL{zv:List AV}(h:yO P T=Z zv):∃i z,P.info? T=Z i/\i.zero=Z z/\(∀v∈z.cells.toList,v.oneCell'=B)/\zv=z.cells.toList.map .sc/\O zv=qi P T:=by
 grind[yO,gb,yH]
theorem Qz{zs:List AV}(h:Rg P own C w0 g st a w)(ho:o.op=.alloc T)(hd:o.dst=Z d)(hn:d<st.n)(hq:yO P T=Z zs):
  bK P o a w λa' w'=>kV P own C w0 g (ce P T d zs st) a' w':=by
 obtain⟨i,z,q1,q2,q3,rfl,q4⟩:=JL hq;refine .inl ⟨.pointer (Z ⟨w.heap.size,0,Y⟩),w.alloc (.cells z.cells T),?_,?_⟩
 .simp_all[execOp,Instr.alloc,zeroValue,typeInfo,newVar,newRow]
 .rw [hd]
  have:=Jz (T:=T) (vs:=z.cells.toList) h hn qB q4 q3 (λj v x hv hx=>by
   rw[j3,hv]at hx;obtain rfl:=sI hx;exact .sc _)
  omega
end
end Go.Hm
end
