import Derived.Test.YtdnebaieamppbaaGreatDoorF12
import Derived.Shelf.SlIterI.Nil
set_option linter.unusedSimpArgs false
set_option linter.unusedVariables false
set_option maxRecDepth 100000
set_option maxHeartbeats 4000000

section
namespace Go.Hm
open Go Go.RowKit
def sZ (p:YU) (b:Nat) (x:Nat):Bool:=match p[b]? with
 | some k=>k.kind != 1||qr b k x||qq (qN p b) x != -1
 | none=>false
section
variable {p:YU} {b:Nat} {k:Y4}
theorem nM (hh:zD p) (hk:p[b]?=some k) (hk1:k.kind=1) (hb0:0<b) {x:Int} (h:x∈qC p b):qr b k x=true:=by
 have hkk:qV p b=1:=cq;simp only [qC,hkk,if_true,mem_sorted,jT,jE] at h;obtain⟨⟨i,hi,h⟩,_⟩:=h;unfold an at h
 cases hq:p[b+1+i]? with
 | none=>simp_all
 | some q =>
  rw [hq] at h;have hf:=(Ds.1 h).2;simp only [uy,beq_iff_eq] at hf;simp only [qh,hq] at hf
  split at hf
  .omega
  .split at hf
   .omega
   .rw [jQ hh hq] at hf
    grind[dq]
theorem Iq {xs:List Int} {x:Int}:(qq xs x != -1)=decide (x∈xs):=by
 grind[qq]
theorem dd {xs ys:List Int} (h:∀ n:Nat,n<8->((n:Int)∈xs↔(n:Int)∈ys)):sorted xs=sorted ys:=by
 have:∀ m:Nat,m<=8->zG xs m=zG ys m:=by
  intro m
  induction m<;>grind[zG]
 exact this 8 (qp _)
theorem CK (hh:zD p) (hk:p[b]?=some k) (hb:k.kind=1->0<b):sorted (qw (sZ p b) 8)=yp p b:=by
 have hka:qV p b=k.kind:=kS;unfold yp;by_cases hk1:k.kind=1
 .grind[dd,jK,qG,yI,nM,sZ,Iq]
 .rw [if_neg qA]
  have hs:∀ n,sZ p b n=true:=by
   grind[sZ]
  have:sorted (qw (sZ p b) 8)=sorted oA:=by
   refine dd λn hn=>?_;rw [jK];have:(n:Int)∈oA:=by simp only [oA,wH,Jg,or_false];omega
   simp_all
  rw [this]
  decide
theorem QI {f:Nat->Bool} {x:Nat} (h:x<8):(ye (qw f x)).take x++bv (f x)::(ye (qw f x)).drop (x+1)=ye (qw f (x+1)):=by
 cases hf:f x<;>grind[qw,jK,ye,BV,List.take_append_drop,wi]
end
def vR (g:Int->Yj) (l:List Int):List (AV×AV):=l.map λx=>(iv x,.agg (jJ (g x)))
def gm (g:Int->Yj) (l:List Int) (x:Nat):List Int:=l.filter λy=>decide ((x:Int)<=y)||(g y).isSome
section
variable {g:Int->Yj} {l:List Int} {n:Int} {f:Nm->Option Nm}
@[simp] theorem grows_nil:vR g []=[]:=rfl
@[simp] theorem MQ:(vR g l).length=l.length:=by simp [vR]
@[simp] theorem grows_keys:bO .i64 (vR g l)=true:=by
 induction l with
 | nil=>rfl
 | cons q l ih=>simp only [vR,dT,bO] at ih ⊢;simpa using ih
@[simp] theorem grows_tr:(vR g l).map (λe=>(e.1.tr f,e.2.tr f))=vR g l:=by
 simp only [vR,sJ];refine lZ λx _=>?_;simp [Gs]
theorem DO:ED .i64 n (vR g l)=if n∈l then some (.agg (jJ (g n))) else none:=by
 induction l<;>grind[vR,ED]
theorem MR:EE .i64 n (vR g l)=vR g (l.erase n):=by
 induction l<;>grind[vR,EE]
theorem DN (h:n∉l):Er .i64 n (.agg (jJ (g n))) (vR g l)=vR g (l++[n]):=by
 induction l<;>grind[vR,Er]
theorem JG (h:∀ y∈l,0<=y/\y<=7):gm g l 0=l:=by
 simp_all[gm]
theorem Lz (h:∀ y∈l,0<=y/\y<=7):gm g l 8=l.filter λy=>(g y).isSome:=by
 grind[gm,List.filter_congr]
theorem Cl {x:Nat}:(x:Int)∈gm g l x↔(x:Int)∈l:=by simp [gm]
theorem te {x:Nat} (h:(x:Int)∈l->(g x).isSome=true):gm g l (x+1)=gm g l x:=by
 grind[gm,List.filter_congr]
theorem JH {x:Nat} (hd:l.Nodup) (h:(g x).isSome=false):gm g l (x+1)=(gm g l x).erase x:=by
 unfold gm;rw [List.Nodup.erase_eq_filter (hd.filter _)];rw [List.filter_filter]
 grind
theorem EI:uc (l.map λx=>(x,g x))=l.filter λy=>(g y).isSome:=by
 induction l<;>grind[uc]
theorem II:bZ (l.map λx=>(x,g x))=(l.filter λy=>(g y).isSome).map λy=>shown ((g y).getD (0,0)):=by
 induction l<;>grind[bZ]
theorem kW {xs:List Int}:∀ n:Nat,(zG xs n).Pairwise (·<·)
 | 0=>.nil
 | n+1=>by
  simp only [zG]
  split
  .refine List.pairwise_append.2 ⟨kW n,qB,?_⟩
   grind[aj]
  .exact kW n
theorem xf {p:YU} {b:Nat}:(yp p b).Pairwise (·<·):=by
 unfold yp
 split
 .exact kW 8
 .decide
end
end Go.Hm
end
section
namespace Go.Hm
open Go Go.RowKit Go.Proofs Go.Maps
def V2 (d:Nat) (l:List Int) (st:St):St:=((st.kill (.s d)).Yf (.s d) (.row 1 (qS l))).put (some d) (.hs (.s d) 1 0 l.length)
def xK (P:Program) (fs fk:Nat) (kt:TypeId):Prop:=∀ (Bm b nn:Nat) (D0:DataW Unit) (R:Value->Option (DataW Unit×List MemPlace)) (w:World),Bm<w.heap.size->w.cell? ⟨Bm,0,none⟩=some (.map (some b))->w.ownsMap P kt R b nn D0->Maps.size D0<=maxLen->Maps.size D0 * 8<=140737488355328 ->
 Calls P fs #[.func (.func fk) #[] #[.pointer (some ⟨Bm,0,none⟩)]] w λe w'=>∃ (v:Value) (ss:List Int),e=.returned v/\ss.Perm (intKeys D0) /\
  w'.ownsRow w.heap.size kt 1 v ss.length ((ss.mergeSort (λx y=>decide (x<=y))).map encZ)/\(v=.slice none 0 0↔ss=[])/\Below w.heap.size w w'
theorem Cj {ss l:List Int} (hp:ss.Perm l) (hs:l.Pairwise (·<·)):ss.mergeSort (λx y=>decide (x<=y))=l:=by
 have h1:(ss.mergeSort (λx y=>decide (x<=y))).Pairwise (λx y=>decide (x<=y)=true):=List.pairwise_mergeSort (λa b c h1 h2=>qe) (λa b=>qv) ss;refine List.Perm.eq_of_pairwise (le:=λx y=>x<=y) (λa b _ _ h1 h2=>qA) (h1.imp λh=>qH) (hs.imp λh=>qA) ((List.mergeSort_perm ss _).trans hp)
theorem Of {x:Int} (h:0<=x/\x<=7):(Lit.int .i64 x).wf=true:=by
 obtain⟨n,rfl⟩:∃ n:Nat,x=n:=⟨x.toNat,qA⟩;have:n<8:=qA
 match n,this with
 | 0,_|1,_|2,_|3,_|4,_|5,_|6,_|7,_=>decide
section
variable {X:Ctx} {C:Nat->Prop} {g:Gh} {a:Go.Act} {w:World} {st:St} {K:St->Prop} {E:AV->St->Prop} {ty:TypeId} {pos:String} {aft:Array Edge} {gd:Option (Nat×Bool)} {d:Nat} {args:Array Operand} {Ts:Array TypeId} {n N:Nm} {gs:Int->Yj} {l:List Int} {st':St} {fs fk:Nat} {kt:TypeId}
theorem Lj {P:Program} {b:Nat} (hk:P.underlying kt=some (.int .i64)) (h:TB g w b (vR gs l)) (h8:l.length<=8) (hr:∀ x∈l,0<=x/\x<=7):∃ D0:DataW Unit,w.ownsMap P kt (λ_=>some (.lit (.bool false),[])) b l.length D0/\(intKeys D0).Perm l/\Maps.size D0<=8:=by
 obtain⟨ms,clock,m1,mst,mlen,mr⟩:=h;simp only [MQ] at mlen
 have key:∀ (i:Nat) m,ms[i]?=some m->∃ x,l[i]?=some x/\m.key=.int .i64 x:=by
  intro i m hi;have hl:=(gS hi).1;obtain⟨x,hx⟩:∃ x,l[i]?=some x:=⟨_,gE qA⟩;refine⟨x,hx,?_⟩;have:=(mr i m (iv x,.agg (jJ (gs x))) hi (by simp [vR,hx])).1;exact this.Ye
 have rdk:∀ (i:Nat) m,ms[i]?=some m->∃ x,l[i]?=some x/\WideElems.rd (H:=Unit) P kt (λ_=>some (.lit (.bool false),[])) m=some (.int .i64 x,.lit (.bool false)):=by
  grind[WideElems.rd,keyOf_int_mk,Of]
 refine⟨_,⟨ms.toArray,clock,m1,⟨?_,mst,?_⟩,qv,rfl⟩,?_,?_⟩
 .grind[maxLen]
 .grind[ab]
 .simp only [intKeys];refine ((WideShapes.sorted_perm _).map _).trans ?_
  have:List.map (λp:Lit×DataW Unit=>intOf p.1) (List.map (WideElems.rg P kt λ_=>some (.lit (.bool false),[])) ms)=l:=by
   apply aW
   grind[intOf,WideElems.rg_of]
  simp_all
 .simp only [Maps.size];rw [(WideShapes.sorted_perm _).length_eq]
  simp_all
theorem Lm (h:Rg X.P X.own C X.w0 g st a w) (hn:st.n=X.n) (hd:d<X.n) {w':World} {v:Value} (hb:Below w.heap.size w w') (hv:w'.ownsRow w.heap.size kt 1 v l.length (l.map encZ)):∃ g',Ust g g'/\Rg X.P X.own C X.w0 g' (V2 d l st) (a.put (some d) v) w':=by
 rcases hv.2 with⟨rfl,hz⟩|⟨gb,cap,cur,rfl,hbase,hgb,r1,r2,r3,r4⟩
 .obtain rfl:l=[]:=eh hz;have gf:∀ k k',kl (.s d) k=some k'->(g.tr (kl (.s d))).φ k'=g.φ k/\(g.tr (kl (.s d))).κ k'=g.κ k:=λ_ _ e=>Gh.Z0 (λ_ _ _=>ML) e
  have hs:=h.step (g':=g.tr (kl (.s d))) (w':=w') (f:=kl (.s d)) (hp':=((st.kill (.s d)).Yf (.s d) (.row 1 [])).hp) rfl gf hb.os hb.tape hb.output hb.size (λb hC=>hb.block b (h.inv.clt b hC)) (λb h1 _=>hb.block b (ac h1 h.inv.size)) (λn' o' e=>by
   simp only [St.Yf] at e
   split at e
   .grind[Zu,uf,Nm.Y0]
   .obtain⟨o,e1,e2,e3⟩:=pR e;exact .inl ⟨n',o,e1,e2,e3,λb hk=>hb.block b (h.inv.YS _ _ _ e2 hk).2.2⟩)
  refine⟨g.tr (kl (.s d)),Ust.kl (n:=.s d) rfl,?_⟩;exact Rg.put (st:=(st.kill (.s d)).Yf (.s d) (.row 1 [])) hs (d:=some d) (λt e=>GM) (.hsN _ _ (uf (Nm.Y0 _)))
 .have hlt:=(B0.1 hgb).1
  have hm:=h.made (.s d) (.row 1 (qS l)) gb cap w' [] qB (λ_=>false) hb.os hb.tape hb.output hb.size (.inl hbase) hlt (λb' _ hb'=>hb.block b' hb') (by
   simp only [Zu,(zI (g:=g) (.s d) (some gb) cap).1,(zI (g:=g) (.s d) (some gb) cap).2]
   have hcur:∀ (i:Nat) x,l[i]?=some x->cur.getD i undef=.int .i64 x:=by
    intro i x hx;have hi:=(gS hx).1;have e:(cur.toList.take (l.length * 1))[i]?=some (encZ x):=qH;rw [Jk,if_pos qA] at e
    simp_all
   refine⟨cur,kt,hgb,r3,r2,qH,zU,?_,?_⟩
   .intro j hj;have hj':j<l.length:=qH;rw [hcur j _ (gE hj')]
    rfl
   .intro i row hi j x hx;simp only [qS,kU,ui] at hi;obtain⟨y,hy,rfl⟩:=hi
    match j with
    | 0 =>
     obtain rfl:iv y=x:=qH;rw [show i * 1+0=i from qA,hcur i y hy];exact .sc _
    | j+1=>simp at hx)
  have e:(st.nm (kl (.s d)) (λm=>if (λ_=>false:Nm->Bool) m then none else hkl (.s d) st.hp m))=st.kill (.s d):=iI;rw [e] at hm;refine⟨g.fresh (.s d) (some gb) cap,Ust.fresh (n:=.s d) rfl,?_⟩;exact hm.put (d:=some d) (x:=.hs (.s d) 1 0 l.length) (λt e=>GM) (.hsB _ _ _ _ gb cap _ (zI _ _ _).1 r1 Al (λ_=>qB))
theorem OG {S:List Int} (hcb:bF X.P fs) (hk:X.P.underlying kt=some (.int .i64)) (hcal:xK X.P fs fk kt)
  (hd:d<X.n:=by first|(simp;done)|fail) (ha:args.toList.map (ev st)=[.fn (.func fk) [] [.pt n 0]]:=by simp [fx];first|done|rfl) (hn:st.hp n=some (.row 1 [[.mp N]]):=by simp [fx];first|done|rfl) (hN:st.hp N=some (.map (vR gs l)):=by simp [fx];first|done|rfl) (h8:l.length<=8) (hs:S.Pairwise (·<·)) (hlS:l.Perm S) (hr:∀ x∈l,0<=x/\x<=7)
  (hst:V2 d S st=st':=by simp [fx,V2];first|done|rfl) (h:K st'):qO X ⟨some d,.call ⟨.value (.func fs),args,Ts⟩,ty,pos,aft,gd⟩ K E st:=by
 subst hst;intro a w Q hR hQ;obtain⟨C,g,h1,h2,h3,h4,h5,hg⟩:=hR;obtain⟨vs,hrun,hsz,hrel⟩:=fP (st:=st) (o:=⟨some d,.call ⟨.value (.func fs),args,Ts⟩,ty,pos,aft,gd⟩) hcb rfl _ _ _ _ _ _ hg;rw [ha] at hsz hrel;unfold Oper.wp;rw [hrun,Oper.upon_enter]
 obtain⟨v,rfl⟩:∃ v,vs=#[v]:=by
  rcases vs with⟨l⟩
  grind[GX]
 have hv:=hrel 0 v (.fn (.func fk) [] [.pt n 0]) rfl rfl
 cases hv with
 | fn _ us ws _ _ hl hl2 hr1 hr2 =>
 obtain rfl:us=[]:=eh hl;obtain⟨u,rfl⟩:=GX.1 hl2;have hu:=hr2 0 u (.pt n 0) rfl rfl
 cases hu with
 | pt _ _ b hb =>
 have hat:=hg.inv.obj n _ hn;simp only [Zu,hb] at hat;obtain⟨cur,T,c1,c2,c3,c4,c5,c6,c7⟩:=hat;have hm:=c7 0 _ rfl 0 _ rfl;simp only [GY,Dy] at c4;have hcs:0<cur.size:=qA
 have hcell:w.cell? ⟨b,0,none⟩=some (cur.getD (0 * 1+0) undef):=by
  simp_all[World.cell?]
 generalize cur.getD (0 * 1+0) undef=u0 at hm hcell
 cases hm with
 | mp _ bm hkm =>
 have hmat:=hg.inv.obj N _ hN;simp only [Zu,hkm] at hmat;obtain⟨D0,o1,o2,o3⟩:=Lj hk hmat h8 hr;have Ym:b<w.heap.size:=(B0.1 c1).1;refine (hcal b bm _ D0 _ w Ym hcell o1 (uS o3 qL) qA).mono ?_;rintro e w' ⟨v,ss,rfl,hp,hrow,hnil,hbel⟩;have hpl:=(hp.trans o2).trans hlS;rw [Cj hpl hs,hpl.length_eq] at hrow;obtain⟨g',hu',hg'⟩:=Lm (d:=d) (kt:=kt) hg h3 hd hbel hrow;exact⟨V2 d S st,⟨C,g',h1,h2,h3,h4,h5.step hu',hg'⟩,h⟩
end
end Go.Hm
end
section
namespace Go.Hm
open Go Go.RowKit
def Vw.row (v:Vw):List AV:=[iv v.block,ZD v.names,ZD v.vals]
@[simp] theorem Vw.qBD {v:Vw}:v.row=[iv v.block,ZD v.names,ZD v.vals]:=rfl
def vws (vs:List Vw):List (List AV):=vs.map Vw.row
abbrev vsl (vs:List Vw):AV:=.sl 3 (vws vs)
def Vw.cnt (v:Vw):Nat:=1+v.names.length+v.vals.length
def Vw.mark (v:Vw) (c:Int):Vw:=⟨c,dw v.names.length (c+1),dw v.vals.length (c+1+v.names.length)⟩
def fQ:List Vw->Nat
 | []=>0
 | v::l=>v.cnt+fQ l
def wN:List Vw->Int->List Vw
 | [],_=>[]
 | v::l,c=>v.mark c::wN l (c+v.cnt)
def vY (l:List Vw) (c:Int) (i:Nat):List Vw:=wN (l.take i) c++l.drop i
section
variable {hp:Nm->Option AO} {n:Nm} {vs l m:List Vw} {v k:Vw} {c:Int} {i j:Nat}
@[simp] theorem vws_len:(vws vs).length=vs.length:=by simp [vws]
@[simp] theorem RJ:(vws vs)[i]?=(vs[i]?).map Vw.row:=by simp [vws]
@[simp] theorem vws_getE {h:i<(vws vs).length}:(vws vs)[i]=(vs[i]' qH).row:=by simp [vws]
@[simp] theorem vws_tr {f:Nm->Option Nm}:(vws vs).map (λr=>r.map (AV.tr f))=vws vs:=by
 simp only [vws,sJ];refine lZ λv _=>?_;simp [Vw.row]
theorem vP {len:Nat} (h:ZE hp n vs) (hl:len=vs.length):Bw hp Z5 (.hs n 3 0 len) (vsl vs):=by
 subst hl;refine .hs n 3 0 vs.length (zt n vs) (vws vs) rfl h.top qB qB (by simp [vws]) λi r r' hr hr' j a a' ha ha'=>?_;rw [sK,l9] at hr;rw [RJ] at hr';obtain⟨x,hx,rfl⟩:=ui.1 hr;rw [hx] at hr';obtain rfl:=sI hr';have hv:=h.each i x hx
 match j,ha,ha' with
 | 0,ha,ha'=>obtain rfl:=sI ha;obtain rfl:=sI ha';exact .refl _
 | 1,ha,ha'=>obtain rfl:=sI ha;obtain rfl:=sI ha';exact ya hv.names rfl
 | 2,ha,ha'=>obtain rfl:=sI ha;obtain rfl:=sI ha';exact ya hv.vals rfl
 | j+3,ha,_=>simp at ha
@[simp] theorem Vw.mark_block:(v.mark c).block=c:=rfl
@[simp] theorem Vw.mark_names:(v.mark c).names.length=v.names.length:=by simp [Vw.mark]
@[simp] theorem Vw.mark_vals:(v.mark c).vals.length=v.vals.length:=by simp [Vw.mark]
@[simp] theorem bc:∀ {l:List Vw} {c:Int},(wN l c).length=l.length
 | [],_=>rfl
 | k::l,c=>by simp [wN,bc]
theorem Hi:∀ {l m:List Vw},fQ (l++m)=fQ l+fQ m
 | [],m=>by simp [fQ]
 | k::l,m=>by simp only [sk,fQ,Hi (l:=l)];omega
theorem Co:∀ {l m:List Vw} {c:Int},wN (l++m) c=wN l c++wN m (c+fQ l)
 | [],m,c=>by simp [wN,fQ]
 | k::l,m,c=>by
  simp only [sk,wN,fQ,Co (l:=l)]
  grind
@[simp] theorem Cp:vY l c 0=l:=by simp [vY,wN]
theorem Et:vY l c l.length=wN l c:=by simp [vY]
@[simp] theorem gi (h:i<=l.length):(vY l c i).length=l.length:=by simp [vY];omega
theorem D7 (h:l[i]?=some k):fQ (l.take (i+1))=fQ (l.take i)+k.cnt:=by
 grind[dN,Hi,fQ]
theorem Iv (h:l[i]?=some k):(vY l c i)[i]?=some k:=by
 grind[vY,bc]
theorem du (h:l[i]?=some k):(vY l c i).set i (k.mark (c+fQ (l.take i)))=vY l c (i+1):=by
 grind[BV,wN,fQ,Co,bc,vY,List.set_append_right]
theorem AK (hne:j≠i) (h:l[i]?=some k):(vY l c (i+1))[j]?=(vY l c i)[j]?:=by
 rw [<- du h,bT,if_neg (λe=>hne e.symm)]
theorem Cq (h:l[i]?=some k):(vY l c (i+1))[i]?=some (k.mark (c+fQ (l.take i))):=by
 have hi:=(gS h).1;rw [<- du h,bT,if_pos rfl,if_pos (by grind[gi])]
theorem HP:∀ {l:List Vw} {i:Nat} {c:Int} {k:Vw},l[i]?=some k->(wN l c)[i]?=some (k.mark (c+fQ (l.take i)))
 | [],i,c,k,h=>by simp at h
 | a::l,0,c,k,h=>by
  grind[wN,fQ]
 | a::l,i+1,c,k,h=>by
  have h':l[i]?=some k:=qH;simp only [wN,BY,List.take_succ_cons,fQ];rw [HP h']
  grind
@[simp] theorem vwRows_rtf {n:Nm} {i l d a b e:Nat} {cs:List Vw} (hV:Nm.under (.u a b e) n=false) (hd:Nm.under (.s d) n=false):(zt n cs).map (λr=>r.map (AV.tr (rtf (.c n i l) (.u a b e) d)))=zt n cs:=by
 have hN:Nm.under (.c n i l) n=false:=by
  cases h:Nm.under (.c n i l) n with
  | false=>rfl
  | true=>exact absurd rfl (Nm.ZB h).2
 refine jb λi' j' _=>?_;by_cases h:i'=i/\j'=l
 .simp [h.1,h.2]
 .simp [hN,hV,hd,h]
@[simp] theorem vwRows_mvself {n m:Nm} {cs:List Vw}:(zt n cs).map (λr=>r.map (AV.tr (mv n m)))=zt m cs:=jb qB
@[simp] theorem vwRows_rtf2 {n N:Nm} {d a b e:Nat} {cs:List Vw} (hN:Nm.under N n=false) (hN2:Nm.under n N=false) (hV:Nm.under (.u a b e) n=false) (hd:Nm.under (.s d) n=false):(zt n cs).map (λr=>r.map (AV.tr (rtf N (.u a b e) d)))=zt n cs:=by
 refine jb λi' j' _=>?_;have h:¬ Nm.c n i' j'=N:=λh=>by rw [<- h] at hN2;simp at hN2
 have h2:Nm.under N (.c n i' j')=false:=by
  simp only [Nm.under,Bool.or_eq_false_iff,decide_eq_false_iff_not];exact⟨h,hN⟩
 simp only [UA,h2,cH,if_false,OT,hV,OU,hd]
theorem IH {q:List Vw} {i:Nat} {w:Vw} {b:Int} (h:q[i]?=some v) (h1:w.names.length=v.names.length) (h2:w.vals.length=v.vals.length) (h3:w.block=b):qY (zt n q) i 0 [iv b]=zt n (q.set i w):=by
 have hi:=(gS h).1;apply aW;intro j;simp only [qY,nV,l9,bT];by_cases e:i=j<;>simp_all
theorem Mi {a:Nat}:∀ {l:List Vw},(∀ v∈l,v.cnt<=a)->fQ l<=l.length * a
 | [],_=>by simp [fQ]
 | v::l,h=>by
  have h1:=h v qB;have h2:=Mi (l:=l) λv hv=>h v (by simp [hv])
  grind[fQ,B5]
end
structure YZ where
 YS:Nat
 pc:Nat
 YV:List Yj
 cells:List Nat
 names:List Yj
 stack:List Y6
structure Y2 where
 cells:List Yj
 globals:List Yj
 YT:List (Nat×List Nat)
 YP:List (List Yj)
 YO:List YZ
 made:Nat
 deep:Nat
 out:List Int
 trace:List (Nat×Nat)
 en:Int
 left:Nat
def w8 (p:YU) (b:Nat):Nat:=match p[b]? with|some k=>k.parent.toNat|none=>0
def z8 (p:YU) (b:Nat):List Int:=(qN p b).map (vM p (w8 p b))
theorem cB {p:YU} {b:Nat}:(z8 p b).length<=8:=by simp [z8,j7]
section
variable (p:YU) (m:Y2) (fs:List YZ) (f:YZ) (o:Int×Int)
def Y2.top:Y2:={ m with YO:=fs++[f] }
def Y2.stop (e:Int):Y2:={ m.top fs f with en:=e }
def YZ.push (v:Y6):YZ:={ f with stack:=f.stack++[v] }
def YZ.pop:YZ:={ f with stack:=f.stack.dropLast }
def YZ.Yw:Y6:=f.stack.getLastD (0,0)
def ju (l:List Yj) (i:Nat):Yj:=match l[i]? with|some s=>s|none=>none
def gq:Yj :=
 if o.1<=4 then ju f.YV o.2.toNat
 else if o.1<=7 then ju m.cells (f.cells.getD o.2.toNat 0)
 else if o.1<=10 then ju m.globals o.2.toNat else ju f.names o.2.toNat
def dW:Int:=if o.1<=4 then 2 else if o.1<=7 then (if o.2<(qC p f.YS).length then 2 else 3) else 4
def Yy (s:Yj):Y2 :=
 if o.1<=4 then m.top fs { f with YV:=f.YV.set o.2.toNat s }
 else if o.1<=7 then { m.top fs f with cells:=m.cells.set (f.cells.getD o.2.toNat 0) s }
 else if o.1<=10 then { m.top fs f with globals:=m.globals.set o.2.toNat s } else m.top fs { f with names:=f.names.set o.2.toNat s }
def vw:Y2:=match gq m f o with
 | some v=>m.top fs (f.push v)
 | none=>if dW p f o=4 then
   match ju m.globals o.2.toNat with
   | some v=>m.top fs (f.push v)
   | none=>if o.2=7 then m.top fs (f.push (1,70)) else m.stop fs f 4
  else m.stop fs f (dW p f o)
def oT:Y2:=Yy m fs f.pop o (some f.Yw)
def EF:Y2:=match gq m f o with
 | some _=>Yy m fs f o none
 | none=>m.stop fs f (dW p f o)
def ze (b:Nat) (cs:List Nat) (vs:List Y6):Y2 :=
 let F:YZ:=⟨b,0,List.replicate (qG p b).length none,((List.range (qC p b).length).map (m.cells.length+·))++cs,qc,[]⟩
 let M:Y2:={ m with cells:=m.cells++List.replicate (qC p b).length none,made:=m.made+1,deep:=max m.deep (m.YO.length+1),YO:=m.YO++[F] }
 match (qd p b).params,vs with
 | [x],[v]=>if x∈qG p b then { M with YO:=m.YO++[{ F with YV:=F.YV.set (qq (qG p b) x).toNat (some v) }] }
  else { M with cells:=M.cells.set (m.cells.length+(qq (qC p b) x).toNat) (some v) }
 | _,_=>M
def fj:Y2 :=
 let n:=o.2.toNat
 let k:=f.stack.length - n - 1
 let F:YZ:={ f with stack:=f.stack.take k }
 let g:=f.stack.getD k (0,0)
 if g.1≠2 then m.stop fs F 5 else
 match m.YT[g.2.toNat]? with
 | some h=>if fH p h.1≠n then m.stop fs F 6 else ze p (m.top fs F) h.1 h.2 (f.stack.drop (k+1))
 | none=>m.stop fs F 5
def uM (b:Nat):List Nat:=(z8 p b).map λk=>f.cells.getD k.toNat 0
def iQ:Y2 :=
 let v:=f.Yw
 if v.1≠3 then m.stop fs f.pop 5 else
 match ju (m.YP.getD v.2.toNat []) o.2.toNat with
 | some u=>m.top fs (f.pop.push u)
 | none=>m.stop fs f.pop 7
def Jl:Y2 :=
 let b:=f.Yw
 let a:=f.pop.Yw
 if a.1≠1\/b.1≠1 then m.stop fs f.pop.pop 5 else m.top fs (f.pop.pop.push (1,(a.2+b.2).tmod 1000))
def zd (v:Y6):Y2:=match fs.getLast? with
 | some g=>{ m with YO:=fs.dropLast++[g.push v] }
 | none=>{ m with YO:=[] }
def D5:Y2:=if qV p f.YS=2 then zd { m with YP:=m.YP++[f.names] } fs (3,m.YP.length) else zd m fs (0,0)
def bI:Y2:=if m.left=0 then m.stop fs f 1 else
 { m.top fs f with left:=m.left - 1,trace:=m.trace++[(f.YS,uC ((yg p f.YS).take (f.pc - 1)))] }
def yd:Y2 :=
 if o.1=1 then m.top fs (f.push (1,o.2))
 else if o.1=14 then Jl m fs f
 else if o.1=15 then { m.top fs (f.push (2,m.YT.length)) with YT:=m.YT++[(o.2.toNat,uM p f o.2.toNat)] }
 else if o.1=16 then ze p (m.top fs f) o.2.toNat (uM p f o.2.toNat) []
 else if o.1=17 then fj p m fs f o
 else if o.1=18 then iQ m fs f o
 else if o.1=19 then { m.top fs f.pop with out:=m.out++[shown f.Yw] }
 else zd m fs f.Yw
def uq:Y2 :=
 if o.1=0 then bI p m fs f
 else if 2<=o.1/\o.1<=13 then
  (if (o.1 - 2) % 3=0 then vw p m fs f o else if (o.1 - 2) % 3=1 then oT m fs f o else EF p m fs f o)
 else yd p m fs f o
end
def wZ (p:YU) (m:Y2):Y2:=match m.YO.getLast? with
 | some f=>match (yg p f.YS)[f.pc]? with
  | some o=>uq p m m.YO.dropLast { f with pc:=f.pc+1 } o
  | none=>D5 p m m.YO.dropLast f
 | none=>m
def Y2.ended (m:Y2):Prop:=m.YO=[]\/m.en≠0
instance (m:Y2):Decidable m.ended:=decidable_of_iff (m.YO.length=0\/m.en≠0) (by simp [Y2.ended])
def yf (p:YU):Nat->Y2->Y2
 | 0,m=>m
 | n+1,m=>if m.ended then m else yf p n (wZ p m)
def zR (fuel:Nat):Y2:=⟨[],qc,[],[],[],0,0,[],[],0,fuel⟩
def qb (p:YU) (fuel:Nat):Y2:=ze p (zR fuel) 0 [] []
section
variable {p:YU} {b o c:Nat} {k q:Y4} {x:Int}
theorem DJ (hh:zD p):∀ c:Nat,c<p.length->qy p c b=true->qy p b o=true->qy p c o=true:=by
 intro c
 induction c using Nat.strongRecOn with
 | ind c ih =>
  intro hl h1 h2;have g1:=yD h1;have g2:=yD h2;by_cases e:c=b
  .simp_all
  .obtain⟨q,hq⟩:=gX hl;obtain⟨f1,f2,f3⟩:=hh c q hq;have f4:=f3 qA;obtain⟨m,hm⟩:∃ m:Nat,q.parent=m:=⟨q.parent.toNat,qA⟩
   grind[zZ]
theorem Eo (hh:zD p) (hk:p[b]?=some k) (hb0:0<b) {o:Int} (h0:0<o) (hob:o<b):∀ c:Nat,qy p c b=true->zX p x p.length c=o->outer p b x=o:=by
 intro c
 induction c using Nat.strongRecOn with
 | ind c ih =>
  intro hi h;have hbc:=yD hi;have hc0:0<c:=qA
  cases hq:p[c]? with
  | none =>
   by_cases e:c=b
   .simp_all
   .have:p.length=0\/∃ n,p.length=n+1:=by
     cases p.length<;>grind
    grind[zX]
  | some q =>
   rw [jh hh hq hc0] at h;obtain⟨g1,g2,g3⟩:=hh c q hq;have g4:=g3 hc0;obtain⟨m,hm⟩:∃ m:Nat,q.parent=m:=⟨q.parent.toNat,qA⟩
   grind[jQ,zZ]
theorem ga (hh:zD p):∀ (n:Nat) (j:Int),zX p x n j=o->0<o->qV p o=1
 | 0,j,h,h0=>by grind[zX]
 | n+1,j,h,h0=>by
  simp only [zX] at h
  split at h
  .omega
  .split at h
   .omega
   .rename_i q hq
    split at h
    .exact ga hh n _ h h0
    .rename_i hk1
     split at h
     .omega
     .split at h
      .grind[qV]
      .exact ga hh n _ h h0
theorem Pa (hq:p[c]?=some q) (hx:x∈q.us) (ho:qh p c x=o) (h0:0<o) (hob:o<b) (hi:qy p c b=true):x∈qN p b:=by
 have hbc:=yD hi;have hcl:=(gS hq).1;simp only [qN,mem_sorted,jL,jE];refine⟨⟨c - b,qA,?_⟩,(mem_sorted.1 hx).2⟩
 grind[wS,vl]
theorem Pz (hk:qV p o=1) (hq:p[c]?=some q) (hx:x∈q.us) (ho:qh p c x=o) (hc:o<c):x∈qC p o:=by
 have hcl:=(gS hq).1;simp only [qC,hk,if_true,mem_sorted,jT,jE];refine⟨⟨c - (o+1),qA,?_⟩,(mem_sorted.1 hx).2⟩
 grind[an,uy]
theorem mF (h:x∈qC p o) (hk:p[o]?=some k):qr o k x=true/\x∉k.dc 9/\k.kind=1:=by
 unfold qC at h
 split at h
 .rename_i h1;simp only [mem_sorted,jT,jE] at h
  grind[an,uy,gZ,qV]
 grind
theorem fN (h:x∈qN p b):0<b:=by
 simp only [qN,mem_sorted,jL,jE] at h
 grind[wS,vl]
theorem aN (hh:zD p) (hk:p[b]?=some k) (hx:x∈qN p b):∃ (o c:Nat) (q:Y4),0<o/\o<b/\outer p b x=o/\qy p b o=true/\p[c]?=some q/\x∈q.us/\qh p c x=o/\qy p c b=true:=by
 have hb0:=fN hx;simp only [qN,mem_sorted,jL,jE] at hx;obtain⟨⟨i,hi,hx⟩,_⟩:=hx;unfold wS at hx
 cases hq:p[b+i]? with
 | none=>simp_all
 | some q =>
  rw [hq] at hx;simp only at hx
  split at hx
  case isFalse=>simp at hx
  rename_i hin;obtain⟨hus,hf⟩:=Ds.1 hx;simp only [vl,uR,decide_eq_true_eq] at hf;obtain⟨o,hO⟩:∃ o:Nat,qh p (b+i) x=o:=⟨(qh p (b+i) x).toNat,qA⟩;rw [hO] at hf
  have key:outer p b x=o:=by
   have hO':=hO;simp only [qh,hq] at hO'
   split at hO'
   .omega
   .split at hO'
    .omega
    .by_cases e:i=0
     .simp_all
     .rw [jQ hh hq] at hO';obtain⟨g1,g2,g3⟩:=hh (b+i) q hq;have g4:=g3 qA;obtain⟨m,hm⟩:∃ m:Nat,q.parent=m:=⟨q.parent.toNat,qA⟩;have hs:=zZ hh (b:=(b:Int)) qA hq qA
      grind[Eo]
  grind[aL]
theorem DS (hh:zD p) (hk:p[b]?=some k) (hx:x∈qN p b) {o:Nat} (ho:outer p b x=o):x∈qC p o:=by
 obtain⟨o',c,q,h0,hob,e,hi,hq,hu,hw,hc⟩:=aN hh hk hx;obtain rfl:o=o':=qA
 have hk1:qV p o=1:=by
  rw [jQ hh hk] at e
  grind[ga]
 have:=yD hc
 grind[Pz]
theorem Ah (hh:zD p) (hk:p[b]?=some k) (hx:x∈qN p b) {o:Nat} (ho:outer p b x=o) :
  w8 p b<b/\(p[w8 p b]?).isSome/\0<o/\qy p (w8 p b) o=true/\((o=w8 p b/\x∈qC p (w8 p b))\/(o<w8 p b/\x∉qC p (w8 p b)/\x∈qN p (w8 p b)/\outer p (w8 p b) x=o)):=by
 have hcl:=DS hh hk hx ho;obtain⟨o',c,q,h0,hob,e,hi,hq,hu,hw,hc⟩:=aN hh hk hx;obtain rfl:o=o':=qA;have Ym:=(gS hk).1;have hcl':=(gS hq).1;obtain⟨g1,g2,g3⟩:=hh b k hk;have g4:=g3 qA;obtain⟨P,hP⟩:∃ P:Nat,k.parent=P:=⟨k.parent.toNat,qA⟩;have hpa:w8 p b=P:=by grind[w8]
 rw [hpa];obtain⟨kp,hkp⟩:∃ kp,p[P]?=some kp:=⟨_,gE qA⟩;have hs:=zZ hh (b:=(o:Int)) qA hk qA;rw [hi,hP] at hs;have hge:=yD hs.symm;refine⟨qA,by simp [hkp],h0,hs.symm,?_⟩;by_cases eo:o=P
 .simp_all
 have hbp:qy p b P=true:=by
  grind[zZ,zm]
 have hcp:=DJ hh c hcl' hc hbp;refine .inr ⟨qA,λhm=>?_,Pa hq hu hw h0 qA hcp,?_⟩
 .obtain⟨l1,l2,l3⟩:=mF hm hkp
  grind[jQ,jh]
 .rw [jQ hh hk,hP,jh hh hkp qA] at e
  grind[jQ]
end
def aX (p:YU) (m m':Y2):Prop:=∃ N,∀ k,yf p (N+k) m=yf p k m'
theorem aX.refl {p:YU} (m:Y2):aX p m m:=⟨0,λk=>qB⟩
theorem aX.trans {p:YU} {a b c:Y2} (h:aX p a b) (h':aX p b c):aX p a c:=by
 obtain⟨N,h⟩:=h;obtain⟨M,h'⟩:=h';exact⟨N+M,λk=>qe⟩
theorem aX.one {p:YU} {m:Y2} (h:¬ m.ended):aX p m (wZ p m):=⟨1,λk=>by grind[yf]⟩
theorem pB {m:Y2} {fs:List YZ} {f:YZ} (hf:m.YO=fs++[f]) (he:m.en=0):¬ m.ended:=by simp_all[Y2.ended]
theorem Zz {p:YU} {m:Y2} {fs:List YZ} {f:YZ} {o:Int×Int} (hf:m.YO=fs++[f]) (ho:(yg p f.YS)[f.pc]?=some o):wZ p m=uq p m fs { f with pc:=f.pc+1 } o:=by
 grind[wZ]
theorem step_end {p:YU} {m:Y2} {fs:List YZ} {f:YZ} (hf:m.YO=fs++[f]) (ho:(yg p f.YS)[f.pc]?=none):wZ p m=D5 p m fs f:=by
 grind[wZ]
theorem K9 {p:YU} {m:Y2} {fs:List YZ} {f:YZ} {o:Int×Int} (hf:m.YO=fs++[f]) (he:m.en=0) (ho:(yg p f.YS)[f.pc]?=some o):aX p m (uq p m fs { f with pc:=f.pc+1 } o):=by
 rw [<- Zz hf ho]
 grind[aX.one,pB]
def lU (p:YU) (YR:List Act) (B:List Nat) (x:Int) (o a:Nat):Nat:=B.getD (ua YR o a a) 0+(qq (qC p o) x).toNat
def aP (p:YU) (YR:List Act) (B:List Nat) (b up:Nat):List Nat:=(qN p b).map λx=>lU p YR B x (outer p b x).toNat up
def vf (p:YU) (YR:List Act) (B:List Nat) (a:Nat) (c:Act):List Nat:=(List.range (qC p c.YS).length).map (B.getD a 0+·)++aP p YR B c.YS c.up
structure Zp (p:YU) (YR:List Act) (B:List Nat) (a:Nat) (c:Act) (f:YZ):Prop where
 YS:f.YS=c.YS
 cells:f.cells=vf p YR B a c
 YV:f.YV=(qG p c.YS).map λx=>ju c.vars x.toNat
 names:qV p c.YS=2->f.names=c.vars
structure Ys (p:YU) (w:YY) (m:Y2) (B:List Nat):Prop where
 en:m.en=w.en
 out:m.out=w.out
 tr:m.trace=w.trace
 left:m.left=w.left
 Yd:m.globals=w.globals
 cls:m.YP=w.YP
 YT:m.YT=w.YT.map λg=>(g.1,aP p w.YR B g.1 g.2)
 made:m.made=w.YR.length
 qAe:B.length=w.YR.length
 top:∀ (a:Nat) c,w.YR[a]?=some c->B.getD a 0+(qC p c.YS).length<=m.cells.length
 dis:∀ (a a':Nat) c,a<a'->a'<w.YR.length->w.YR[a]?=some c->B.getD a 0+(qC p c.YS).length<=B.getD a' 0
 val:∀ (a j:Nat) c x,w.YR[a]?=some c->(qC p c.YS)[j]?=some x->m.cells[B.getD a 0+j]?=some (ju c.vars x.toNat)
 frl:m.YO.length=w.stack.length
 frs:∀ (i a:Nat) c f,w.stack[i]?=some a->w.YR[a]?=some c->m.YO[i]?=some f->Zp p w.YR B a c f
 Z7:w.stack.Pairwise (·<·)
 fk:∀ g∈w.YT,qV p g.1=1
section
variable {p:YU} {w:YY} {m:Y2} {B:List Nat} {a b o:Nat} {c:Act} {k:Y4} {f:YZ} {x:Int} {fs:List YZ}
theorem pp:(qC p b).Pairwise (·<·):=by
 unfold qC
 split
 .exact kW _
 simp
theorem ir {g:Nat->Bool}:∀ n:Nat,(qw g n).Pairwise (·<·)
 | 0=>.nil
 | n+1=>by
  simp only [qw]
  split
  .refine List.pairwise_append.2 ⟨ir n,qB,λu hu v hv=>?_⟩
   grind[j6]
  .exact ir n
theorem M8:(qG p b).Pairwise (·<·):=by
 unfold qG
 split<;>simp_all[ir]
theorem Ow {l:List Int} (h:l.Pairwise (·<·)):l.Nodup:=h.imp λh=>qA
theorem Ul {l:List Int} (h:l.Pairwise (·<·)) {i j:Nat} (hi:l[i]?=some x) (hj:l[j]?=some x):i=j :=
 (List.getElem?_inj (gS hi).1 (Ow h)).1 (hi.trans hj.symm)
theorem fT (h:x∈qC p b):0<=x/\x<=7:=by
 grind[qC,mem_sorted]
theorem pq (h:x∈qC p b):qV p b=1:=by
 grind[qC]
theorem mE (h:x∈qG p b):0<=x/\x<=7:=by
 grind[qG,j6]
theorem wg (h:x∈qG p b):x∉qC p b:=by
 grind[qG,j6,yI]
theorem xa {l:List Yj} {i:Nat} {s:Yj} (h:l[i]?=some s):ju l i=s:=by simp [ju,h]
theorem fC {l:List Yj} {i j:Nat} {s:Yj} (hi:i<l.length):ju (l.set i s) j=if j=i then s else ju l j:=by
 grind[ju]
theorem H4 {l:List Nat} {i v d:Nat} (h:l[i]?=some v):l.getD i d=v:=qH
def B7 (l l':List Act):Prop:=∀ i:Nat,(l[i]?).map (λc=>(c.YS,c.up))=(l'[i]?).map (λc=>(c.YS,c.up))
theorem xB {l l':List Act} (h:B7 l l'):∀ n a:Nat,ua l o n a=ua l' o n a
 | 0,_=>rfl
 | n+1,a=>by
  have ha:=h a;simp only [ua]
  cases h1:l[a]? with
  | none =>
   grind
  | some d =>
   cases h2:l'[a]? with
   | none=>simp_all
   | some e =>
    rw [h1,h2] at ha;simp only [bU,sL,Dw] at ha;simp only [ha.1,ha.2,xB h n]
theorem fU {l l':List Act} (h:B7 l l') {up:Nat}:aP p l B b up=aP p l' B b up:=by
 grind[aP,lU,xB]
theorem B7.modify {l:List Act} {i:Nat} {g:List Yj->List Yj}:B7 l (l.modify i λa=>{ a with vars:=g a.vars }):=by
 intro j
 grind
theorem Zp.same {l l':List Act} {c':Act} (h:Zp p l B a c f) (hs:B7 l l') (h1:c'.YS=c.YS) (h2:c'.up=c.up) (h3:f.YV=(qG p c.YS).map λx=>ju c'.vars x.toNat) (h4:qV p c.YS=2->f.names=c'.vars):Zp p l' B a c' f:=by
 refine⟨by grind[YS],?_,qH,qH⟩;rw [h.cells,vf,vf,h1,h2,fU hs]
theorem fK (hp:Y1 p) (hk:p[b]?=some k):k.kind=0\/k.kind=1\/k.kind=2:=by
 have h:=hp.head b k hk
 grind
theorem nh (hF:Zp p w.YR B a c f) {i:Nat} (hi:i<(qC p c.YS).length):f.cells.getD i 0=B.getD a 0+i:=by
 apply H4;rw [hF.cells,vf,dX qH];simp [hi]
theorem c9 (hF:Zp p w.YR B a c f) {i:Nat} (hi:(qN p c.YS)[i]?=some x):f.cells.getD ((qC p c.YS).length+i) 0=lU p w.YR B x (outer p c.YS x).toNat c.up:=by
 apply H4;rw [hF.cells,vf,kh qB];simp [aP,hi]
theorem A5 (hh:zD p) (hW:Yx p w) (hc:w.YR[a]?=some c) (hk:p[c.YS]?=some k) (hx:x∈qN p c.YS):∃ (o d:Nat) (e:Act) (j:Nat),0<o/\outer p c.YS x=o/\qy p c.YS o=true/\o≠c.YS/\d=ua w.YR o a a/\w.YR[d]?=some e/\e.YS=o/\x∈qC p o/\(qC p o)[j]?=some x/\lU p w.YR B x o c.up=B.getD d 0+j:=by
 obtain⟨o,c',q,h0,hob,hou,hi,_,_,_,_⟩:=aN hh hk hx;have hcl:=DS hh hk hx hou;have hb:=jq hc;have hal:=(gS hc).1;have hi':qy p (w.YS a) o=true:=qH;obtain⟨e,he,heb⟩:=ny hh hW h0 a a (qp _) hal hi'
 simp_all<;>grind[zQ,lU,fR]
theorem MT (hp:Y1 p) (hW:Yx p w) (hR:Ys p w m B) (hc:w.YR[a]?=some c) (hF:Zp p w.YR B a c f) (hk:p[c.YS]?=some k) (hu:x∈k.us) {v:Int} (hv:0<=v/\v<=2) :
  gq m f (qm p c.YS x v)=w.get (w.loc p a x) x/\dW p f (qm p c.YS x v)=ZO p c.YS (qh p c.YS x):=by
 have hx:0<=x/\x<=7:=by
  grind[Y4.us,mem_sorted]
 have hb:=jq hc;have hka:qV p c.YS=k.kind:=kS;rcases lz (w:=v) hp hk hu with⟨hs,e⟩|⟨hs,e⟩|⟨hs,i,e,hi,hil⟩|⟨hs,i,e,hi,hil⟩|⟨hs,i,e,hi,hil⟩
 .have ho:qh p c.YS x<0:=by
   grind[zh]
  refine⟨?_,?_⟩
  .rw [e,gq,if_neg qA,if_neg qA,if_pos qA,YY.loc,hb,if_pos ho,YY.get,YY.vars,hR.Yd]
   rfl
  grind[dW,ZO]
 all_goals
  have ho:¬ qh p c.YS x<0:=λh=>by grind[zh]
 .have hob:qh p c.YS x=c.YS/\qV p c.YS=2:=by
   grind[zh]
  refine⟨?_,?_⟩
  .rw [e,gq,if_neg qA,if_neg qA,if_neg qA,YY.loc,hb,if_neg ho,hob.1,a6 c.YS,jF hc rfl,YY.get,YY.vars,hc,hF.names hob.2]
   rfl
  grind[dW,ZO]
 .grind[zh,gq,YY.loc,jF,YY.get,YY.vars,Zp.YV,ju,Int.toNat,dW,ZO]
 .have hob:qh p c.YS x=c.YS/\¬ qV p c.YS=2:=by
   grind[zh]
  rw [dX hi] at hil;refine⟨?_,?_⟩
  .rw [e,gq,if_neg qA,if_pos qA,YY.loc,hb,if_neg ho,hob.1,a6 c.YS,jF hc rfl,YY.get,YY.vars,hc,a6,nh hF hi,xa (hR.val a i c x hc hil)]
   rfl
  grind[dW,Zp.YS,ZO]
 .rw [kh qA,Ji] at hil;obtain⟨hfx,hcx⟩:=xU hp hk hu hs
  have hob:qh p c.YS x≠c.YS:=by
   grind[zh]
  obtain⟨o,d,q,j,h0,hou,hi',hne,hd,hq,hqb,hcl,hj,hcn⟩:=A5 (B:=B) hp.Y9 hW hc hk hfx
  have hoo:qh p c.YS x=o:=by
   grind[qh]
  refine⟨?_,?_⟩
  .rw [e,gq,if_neg qA,if_pos qA,YY.loc,hb,if_neg ho,hoo,a6 o,<- hd,YY.get,YY.vars,hq,a6,c9 hF hil,hou,a6 o,hcn,xa (hR.val d j q x hq qH)]
   rfl
  grind[dW,Zp.YS,ZO]
end
section
variable {p:YU} {w:YY} {m:Y2} {B:List Nat} {a b o d:Nat} {c e:Act} {k:Y4} {f:YZ} {x:Int} {fs:List YZ} {s:Yj}
theorem Zp.Z7 {l:List Act} {g:YZ} (h:Zp p l B a c f) (h1:g.YS=f.YS) (h2:g.cells=f.cells) (h3:g.YV=f.YV) (h4:g.names=f.names):Zp p l B a c g :=
 ⟨h1.trans h.YS,h2.trans h.cells,h3.trans h.YV,λe=>h4.trans (h.names e)⟩
theorem Ys.Z2 {st:List Nat} (h:Ys p w (m.top fs f) B) (hs:w.stack=st++[a]) (hc:w.YR[a]?=some c):st.length=fs.length/\Zp p w.YR B a c f:=by
 have hl:st.length=fs.length:=by
  have:=h.frl
  grind[Y2.top]
 exact⟨hl,h.frs st.length a c f (by simp [hs]) hc (by simp [Y2.top,hl])⟩
theorem Ys.qAb {st:List Nat} {g:YZ} (h:Ys p w (m.top fs f) B) (h1:g.YS=f.YS) (h2:g.cells=f.cells) (h3:g.YV=f.YV) (h4:g.names=f.names):Ys p w (m.top fs g) B:=by
 refine⟨h.en,h.out,h.tr,h.left,h.Yd,h.cls,h.YT,h.made,h.qAe,h.top,h.dis,h.val,?_,λi a c q hi hc hq=>?_,h.Z7,h.fk⟩
 .have:=h.frl
  grind[Y2.top]
 .simp only [Y2.top] at hq;rcases dS i fs.length with e|e
  .rw [dX e] at hq;exact h.frs i a c q hi hc mO
  .rw [kh e] at hq
   have:i - fs.length=0:=by
    grind
   rw [this] at hq;simp only [fm,sL] at hq;subst hq;exact (h.frs i a c f hi hc mO).Z7 h1 h2 h3 h4
theorem Ys.qBG {E:Int} {g:YZ} (h:Ys p w (m.top fs f) B) (h1:g.YS=f.YS) (h2:g.cells=f.cells) (h3:g.YV=f.YV) (h4:g.names=f.names):Ys p { w with en:=E } (m.stop fs g E) B:=by
 have h:=h.qAb (st:=[]) h1 h2 h3 h4;exact⟨rfl,h.out,h.tr,h.left,h.Yd,h.cls,h.YT,h.made,h.qAe,h.top,h.dis,h.val,h.frl,h.frs,h.Z7,h.fk⟩
theorem bD {l:List Act} {g:List Yj->List Yj} {i:Nat} (h:(l.modify d λa=>{ a with vars:=g a.vars })[i]?=some c):∃ e,l[i]?=some e/\c.YS=e.YS/\c.up=e.up/\c.vars=if d=i then g e.vars else e.vars:=by
 grind
theorem Gu:w.set (some d) x s={ w with YR:=w.YR.modify d λa=>{ a with vars:=a.vars.set x.toNat s } }:=rfl
theorem JT {vars:List Yj} (hx:x∈qC p b) (hv:vars.length=8):((qG p b).map λy=>ju (vars.set x.toNat s) y.toNat)=(qG p b).map λy=>ju vars y.toNat:=by
 refine lZ λy hy=>?_;have h1:=fT hx;have h2:=mE hy
 grind[wg,fC]
theorem xc (hW:Yx p w) (hR:Ys p w m B) (hd:w.YR[d]?=some e) (hx:x∈qC p e.YS) {j:Nat} (hj:(qC p e.YS)[j]?=some x):Ys p (w.set (some d) x s) { m with cells:=m.cells.set (B.getD d 0+j) s } B:=by
 have hsm:B7 w.YR (w.YR.modify d λa=>{ a with vars:=a.vars.set x.toNat s }):=B7.modify (g:=λv=>v.set x.toNat s);have hx7:=fT hx;have hev:=(hW.vars d e hd).1;have hjl:=(gS hj).1;have hdl:=(gS hd).1;rw [Gu];refine⟨hR.en,hR.out,hR.tr,hR.left,hR.Yd,hR.cls,?_,by simp [hR.made],by simp [hR.qAe],λa q hq=>?_,λa a' q h1 h2 hq=>?_,λa i q y hq hy=>?_,hR.frl,λi a q f hi hq hf=>?_,hR.Z7,hR.fk⟩
 .grind[Ys.YT,fU]
 .obtain⟨q',h1,h2,_,_⟩:=bD (g:=λv=>v.set x.toNat s) hq;rw [h2]
  simpa using hR.top a q' h1
 .obtain⟨q',h3,h4,_,_⟩:=bD (g:=λv=>v.set x.toNat s) hq;rw [h4];exact hR.dis a a' q' h1 qH h3
 .obtain⟨q',h3,h4,_,h5⟩:=bD (g:=λv=>v.set x.toNat s) hq;rw [h4] at hy;have hyl:=(gS hy).1;have hy7:=fT (gM hy);have hval:=hR.val a i q' y h3 hy;have htop:=hR.top d e hd;by_cases ed:d=a
  .grind[fC,Ul,pp]
  .rw [h5,if_neg ed,List.getElem?_set_ne ?_,hval];have hal:=(gS h3).1;rcases dS d a with hlt|hge
   .have:=hR.dis d a e hlt hal hd;omega
   .have:=hR.dis a d q' qA hdl h3;omega
 .obtain⟨q',h3,h4,h4',h5⟩:=bD (g:=λv=>v.set x.toNat s) hq;have hF:=hR.frs i a q' f hi h3 hf;refine hF.same hsm h4 h4' ?_ λhk2=>?_
  .rw [h5];by_cases ed:d=a
   .subst ed;rw [hd] at h3;obtain rfl:=sI h3;rw [if_pos rfl,JT hx hev];exact hF.YV
   grind[Zp.YV]
  .rw [h5];by_cases ed:d=a
   .grind[pq]
   .rw [if_neg ed];exact hF.names hk2
theorem DX {vars:List Yj} {i:Nat} (hi:(qG p b)[i]?=some x) (hv:vars.length=8):((qG p b).map λy=>ju vars y.toNat).set i s=(qG p b).map λy=>ju (vars.set x.toNat s) y.toNat:=by
 have hx:=mE (gM hi);have hil:=(gS hi).1;apply aW;intro j;rw [bT,kU,kU];by_cases ej:i=j
 .grind[fC]
 .rw [if_neg ej]
  cases hy:(qG p b)[j]? with
  | none=>rfl
  | some y =>
   have hy7:=mE (gM hy)
   grind[Ul,M8,fC]
theorem E1 {st:List Nat} {g:YZ} (hW:Yx p w) (hR:Ys p w (m.top fs f) B) (hs:w.stack=st++[a]) (hc:w.YR[a]?=some c) (hx:0<=x/\x<=7) (hnc:x∉qC p c.YS) (h1:g.YS=f.YS) (h2:g.cells=f.cells) (h3:g.YV=(qG p c.YS).map λy=>ju (c.vars.set x.toNat s) y.toNat) (h4:qV p c.YS=2->g.names=c.vars.set x.toNat s) :
  Ys p (w.set (some a) x s) (m.top fs g) B:=by
 have hsm:B7 w.YR (w.YR.modify a λa=>{ a with vars:=a.vars.set x.toNat s }):=B7.modify (g:=λv=>v.set x.toNat s);have hev:=(hW.vars a c hc).1;obtain⟨hl,hF⟩:=hR.Z2 hs hc;rw [Gu];refine⟨hR.en,hR.out,hR.tr,hR.left,hR.Yd,hR.cls,?_,by have:=hR.made;grind[Y2.top],by simp [hR.qAe],λa' q hq=>?_,λa' a'' q e1 e2 hq=>?_,λa' i q y hq hy=>?_,?_,λi a' q f' hi hq hf=>?_,hR.Z7,hR.fk⟩
 .have:=hR.YT
  grind[Y2.top,fU]
 .obtain⟨q',e1,e2,_,_⟩:=bD (g:=λv=>v.set x.toNat s) hq;rw [e2];exact hR.top a' q' e1
 .obtain⟨q',e3,e4,_,_⟩:=bD (g:=λv=>v.set x.toNat s) hq;rw [e4];exact hR.dis a' a'' q' e1 qH e3
 .obtain⟨q',e3,e4,_,e5⟩:=bD (g:=λv=>v.set x.toNat s) hq;rw [e4] at hy;have hy7:=fT (gM hy);have hval:=hR.val a' i q' y e3 hy;by_cases ed:a=a'
  .subst ed;rw [hc] at e3;obtain rfl:=sI e3;have hyx:y.toNat≠x.toNat:=λe'=>hnc qe;rw [e5,if_pos rfl,fC qA,if_neg hyx];exact hval
  .rw [e5,if_neg ed];exact hval
 .grind[Y2.top]
 .obtain⟨q',e3,e4,e4',e5⟩:=bD (g:=λv=>v.set x.toNat s) hq;simp only [Y2.top] at hf;have hpw:=hR.Z7;have hil:i<w.stack.length:=(gS hi).1;rw [hs,wk,bS] at hil;by_cases ei:i=fs.length
  .subst ei;rw [kh (qp _),Dx] at hf;simp only [fm,sL] at hf;subst hf;rw [hs,kh qA,hl,Dx] at hi;simp only [fm,sL] at hi;subst hi;rw [hc] at e3;obtain rfl:=sI e3;refine⟨by grind[Zp.YS],?_,qH,λhk2=>qH⟩;rw [h2,hF.cells,vf,vf,e4,e4',fU hsm]
  .have hilt:i<fs.length:=qA;rw [dX hilt] at hf
   have hne:¬ a=a':=by
    grind
   have hF':=hR.frs i a' q' f' hi e3 mO;exact hF'.same hsm e4 e4' (by grind[Zp.YV]) λhk2=>by rw [e5,if_neg hne];exact hF'.names hk2
theorem Oh (hR:Ys p w m B):Ys p (w.set none x s) { m with globals:=m.globals.set x.toNat s } B :=
 ⟨hR.en,hR.out,hR.tr,hR.left,by simp only [YY.set,hR.Yd],hR.cls,hR.YT,hR.made,hR.qAe,hR.top,hR.dis,hR.val,hR.frl,hR.frs,hR.Z7,hR.fk⟩
theorem Kn {st:List Nat} {g:YZ} (hp:Y1 p) (hW:Yx p w) (hR:Ys p w (m.top fs f) B) (hs:w.stack=st++[a]) (hc:w.YR[a]?=some c) (hk:p[c.YS]?=some k) (hu:x∈k.us) {v:Int} (hv:0<=v/\v<=2) (h1:g.YS=f.YS) (h2:g.cells=f.cells) (h3:g.YV=f.YV) (h4:g.names=f.names) :
  Ys p (w.set (w.loc p a x) x s) (Yy m fs g (qm p c.YS x v) s) B/\∃ g',(Yy m fs g (qm p c.YS x v) s).YO=fs++[g']/\g'.YS=g.YS/\g'.pc=g.pc/\g'.stack=g.stack:=by
 have hR:=hR.qAb (st:=st) h1 h2 h3 h4;obtain⟨hl,hF⟩:=hR.Z2 hs hc
 have hx:0<=x/\x<=7:=by
  grind[Y4.us,mem_sorted]
 have hb:=jq hc;have hev:=(hW.vars a c hc).1;have hka:qV p c.YS=k.kind:=kS;rcases lz (w:=v) hp hk hu with⟨hs',e⟩|⟨hs',e⟩|⟨hs',i,e,hi,hil⟩|⟨hs',i,e,hi,hil⟩|⟨hs',i,e,hi,hil⟩
 .have ho:qh p c.YS x<0:=by
   grind[zh]
  rw [e,Yy,if_neg qA,if_neg qA,if_pos qA,YY.loc,hb,if_pos ho];exact⟨Oh hR,g,rfl,rfl,rfl,rfl⟩
 all_goals
  have ho:¬ qh p c.YS x<0:=λh=>by grind[zh]
 .have hob:qh p c.YS x=c.YS/\qV p c.YS=2:=by
   grind[zh]
  rw [e,Yy,if_neg qA,if_neg qA,if_neg qA,YY.loc,hb,if_neg ho,hob.1,a6 c.YS,jF hc rfl];have hnc:x∉qC p c.YS:=λh=>by grind[pq]
  have hnf:qG p c.YS=[]:=by grind[qG]
  refine⟨E1 hW hR hs hc hx hnc rfl rfl ?_ λhk2=>?_,_,rfl,rfl,rfl,rfl⟩
  .grind[Zp.YV]
  .simp only [hF.names hk2]
 .have hob:qh p c.YS x=c.YS/\¬ qV p c.YS=2:=by
   grind[zh]
  rw [e,Yy,if_pos qA,YY.loc,hb,if_neg ho,hob.1,a6 c.YS,jF hc rfl];have hnc:x∉qC p c.YS:=wg (gM hil);refine⟨E1 hW hR hs hc hx hnc rfl rfl ?_ λhk2=>absurd hk2 hob.2,_,rfl,rfl,rfl,rfl⟩;simp only [hF.YV,a6]
  grind[DX]
 .have hob:qh p c.YS x=c.YS:=by
   grind[zh]
  rw [dX hi] at hil;rw [e,Yy,if_neg qA,if_pos qA,YY.loc,hb,if_neg ho,hob,a6 c.YS,jF hc rfl];simp only [a6];rw [nh hF hi];exact⟨xc hW hR hc (gM hil) hil,g,rfl,rfl,rfl,rfl⟩
 .rw [kh qA,Ji] at hil;obtain⟨hfx,hcx⟩:=xU hp hk hu hs'
  have hob:qh p c.YS x≠c.YS:=by
   grind[zh]
  obtain⟨o,d,q,j,h0,hou,hi',hne,hd,hq,hqb,hcl,hj,hcn⟩:=A5 (B:=B) hp.Y9 hW hc hk hfx
  have hoo:qh p c.YS x=o:=by
   grind[qh]
  rw [e,Yy,if_neg qA,if_pos qA,YY.loc,hb,if_neg ho,hoo,a6 o,<- hd];simp only [a6];rw [c9 hF hil,hou,a6 o,hcn];exact⟨xc hW hR hq qH qH,g,rfl,rfl,rfl,rfl⟩
end
end Go.Hm
end
