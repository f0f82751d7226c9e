import Derived.Test.YtdnebaieamppbaaGreatDoorF09
import Derived.OpenShut
import Derived.FnData
import Derived.ChangeVars
set_option linter.unusedSimpArgs false
set_option linter.unusedVariables false
set_option maxRecDepth 100000
set_option maxHeartbeats 4000000

section
namespace Go.Hm
open Go Go.RowKit
def qw (f:Nat->Bool):Nat->List Int
 | 0=>[]
 | n+1=>if f n=true then qw f n++[(n:Int)] else qw f n
theorem j6 {f:Nat->Bool} {x:Int}:∀ {n:Nat},x∈qw f n↔∃ m:Nat,m<n/\f m=true/\x=m
 | 0=>by simp [qw]
 | n+1=>by
  simp only [qw]
  split
  .rename_i h;rw [cK,j6 (n:=n),kg]
   grind
  .rename_i h;rw [j6 (n:=n)]
   grind
theorem jK {f:Nat->Bool} {x n:Nat}:(x:Int)∈qw f n↔x<n/\f x=true:=by
 grind[j6]
theorem lr {f:Nat->Bool}:∀ n:Nat,(qw f n).length<=n
 | 0=>by simp [qw]
 | n+1=>by
  have:=lr (f:=f) n
  grind[qw]
theorem dl {f g:Nat->Bool}:∀ {n:Nat},(∀ x,x<n->f x=g x)->qw f n=qw g n
 | 0,_=>rfl
 | n+1,h=>by
  simp only [qw];rw [h n qA,dl (n:=n) λx hx=>h x qA]
theorem wz {l:List Int}:∀ n:Nat,zG l n=qw (λx=>decide ((x:Int)∈l)) n
 | 0=>rfl
 | n+1=>by
  simp only [zG,qw,wz n,decide_eq_true_eq]
theorem xZ {f:Nat->Bool}:sorted (qw f 8)=qw f 8:=by
 grind[sorted,wz,dl,jK]
theorem gP {l l':List Int} (h:∀ x:Nat,x<8->((x:Int)∈l↔(x:Int)∈l')):sorted l=sorted l':=by
 grind[sorted,wz,dl]
def aJ (g:Nat->List Int):Nat->List Int
 | 0=>[]
 | n+1=>aJ g n++g n
theorem jE {g:Nat->List Int} {x:Int}:∀ {n:Nat},x∈aJ g n↔∃ m:Nat,m<n/\x∈g m
 | 0=>by simp [aJ]
 | n+1=>by
  simp only [aJ,cK,jE (n:=n)]
  grind
theorem mC {g:Nat->List Int} (h:∀ i,(g i).length<=8):∀ n:Nat,(aJ g n).length<=8 * n
 | 0=>by simp [aJ]
 | n+1=>by
  have:=mC h n
  grind[aJ]
theorem lu {p:YU} {x:Int}:∀ (n:Nat) (j:Int),zX p x n j=-1\/0<zX p x n j
 | 0,_=>.inl rfl
 | n+1,j=>by
  simp only [zX]
  split
  .simp
  .rename_i hj
   split
   .simp
   .split
    .exact lu n _
    .split
     .simp
     .split
      .omega
      .exact lu n _
theorem uo {p:YU} {c:Nat} {x:Int}:qh p c x=-1\/0<qh p c x:=by
 grind[qh,outer,lu]
def vl (p:YU) (b c:Nat) (x:Int):Bool:=decide (0<qh p c x)&&decide (qh p c x<b)
def wS (p:YU) (b c:Nat):List Int:=match p[c]? with
 | some k=>if qy p c b=true then k.us.filter (vl p b c) else []
 | none=>[]
def jL (p:YU) (b:Nat):Nat->List Int:=aJ λi=>wS p b (b+i)
def qN (p:YU) (b:Nat):List Int:=sorted (jL p b (p.length - b))
def uy (p:YU) (b c:Nat) (x:Int):Bool:=qh p c x==b
def an (p:YU) (b c:Nat):List Int:=match p[c]? with
 | some k=>k.us.filter (uy p b c)
 | none=>[]
def jT (p:YU) (b:Nat):Nat->List Int:=aJ λi=>an p b (b+1+i)
def qV (p:YU) (b:Nat):Int:=match p[b]? with|some k=>k.kind|none=>-1
def qC (p:YU) (b:Nat):List Int:=if qV p b=1 then sorted (jT p b (p.length - (b+1))) else []
def yI (p:YU) (b:Nat) (x:Nat):Bool:=match p[b]? with
 | some k=>qr b k x&&!decide ((x:Int)∈qC p b)
 | none=>false
def qG (p:YU) (b:Nat):List Int:=if qV p b=1 then qw (yI p b) 8 else []
def zh (p:YU) (b:Nat) (x:Int):Int :=
 if qh p b x<0 then 0 else if qh p b x≠b then 1 else if qV p b=2 then 2 else if x∈qC p b then 3 else 4
def vM (p:YU) (b:Nat) (x:Int):Int:=if x∈qC p b then qq (qC p b) x else (qC p b).length+qq (qN p b) x
def qm (p:YU) (b:Nat) (x w:Int):Int×Int :=
 if zh p b x=0 then (8+w,x) else if zh p b x=2 then (11+w,x) else if zh p b x=4 then (2+w,qq (qG p b) x) else (5+w,vM p b x)
theorem pb {l:List Int} {f:Int->Bool} (h:l.length<=8):(l.filter f).length<=8:=uS (List.length_filter_le _ _) h
theorem JQ {p:YU} {b c:Nat}:(wS p b c).length<=8:=by
 grind[wS,Y4.qBB]
theorem J6 {p:YU} {b c:Nat}:(an p b c).length<=8:=by
 grind[an,Y4.qBB]
theorem nE {p:YU} {b n:Nat}:(jL p b n).length<=8 * n:=mC (λ_=>JQ) n
theorem Db {p:YU} {b n:Nat}:(jT p b n).length<=8 * n:=mC (λ_=>J6) n
theorem j7 {p:YU} {b:Nat}:(qN p b).length<=8:=ud
theorem zn {p:YU} {b:Nat}:(qC p b).length<=8:=by
 grind[qC,ud]
theorem vF {p:YU} {b:Nat}:(qG p b).length<=8:=by
 grind[qG,lr]
theorem A3 {p:YU} {b n:Nat}:jL p b (n+1)=jL p b n++wS p b (b+n):=rfl
theorem Ae {p:YU} {b n:Nat}:jT p b (n+1)=jT p b n++an p b (b+1+n):=rfl
theorem fG {xs:List Int} {x:Int}:-1<=qq xs x/\qq xs x<=xs.length:=by
 grind[qq,List.findIdx?_eq_some_iff_findIdx_eq]
theorem IR {p:YU} {b:Nat} {k:Y4} {x:Int} (hk:p[b]?=some k) (hk0:b=0↔k.kind=0) (hk2:k.kind=0\/k.kind=1\/k.kind=2) (h:zh p b x=3\/zh p b x=4):k.kind=1:=by
 grind[qV,zh,uo]
def nP (p:YU) (b c:Nat) (x:Nat):Bool:=match p[c]? with
 | some k=>qy p c b&&decide ((x:Int)∈k.us)&&(qh p c x != -1)&&!qy p (qh p c x) b
 | none=>false
def pW (p:YU) (b:Nat):Nat->List Int:=aJ λc=>qw (nP p b c) 8
def nQ (p:YU) (b c:Nat) (x:Nat):Bool:=match p[c]? with
 | some k=>(c != b)&&decide ((x:Int)∈k.us)&&(qh p c x==b)
 | none=>false
def pr (p:YU) (b:Nat):Nat->List Int:=aJ λc=>qw (nQ p b c) 8
theorem DK {p:YU} (hh:zD p) {b o:Nat}:∀ c:Nat,c<p.length->qy p c b=true->qy p c o=true->b<=o->qy p o b=true:=by
 intro c
 induction c using Nat.strongRecOn with
 | ind c ih =>
  intro hc h1 h2 hbo;have g2:=yD h2;by_cases e:o=c
  .simp_all
  .obtain⟨q,hq⟩:=gX hc;obtain⟨a1,a2,a3⟩:=hh c q hq;have a4:=a3 qA;obtain⟨m,hm⟩:∃ m:Nat,q.parent=m:=⟨q.parent.toNat,qA⟩
   grind[zZ]
theorem nA {p:YU} (hh:zD p) {b c:Nat} {k:Y4} {x:Int} (hk:p[c]?=some k) (hi:qy p c b=true) (ho:qh p c x ≠ -1):qy p (qh p c x) b=!decide (qh p c x<b):=by
 rcases uo (p:=p) (c:=c) (x:=x) with h|h
 .omega
 .obtain⟨o,e⟩:∃ o:Nat,qh p c x=o:=⟨(qh p c x).toNat,qA⟩
  grind[aK,zm,DK]
theorem P9 {p:YU} (hh:zD p) {b:Nat} (hb:b<p.length):sorted (pW p b p.length)=qN p b:=by
 unfold qN;apply gP;intro x hx;unfold pW jL;rw [jE,jE];constructor
 .rintro⟨c,hc,hm⟩;obtain⟨k,hk⟩:=gX hc;rw [jK] at hm;obtain⟨_,hm⟩:=hm;simp only [nP,hk,uR,decide_eq_true_eq,bne_iff_ne,ne_eq,sO] at hm;obtain⟨⟨⟨h1,h2⟩,h3⟩,h4⟩:=hm;have hge:=yD h1;rw [nA hh hk h1 h3] at h4;refine⟨c - b,qA,?_⟩
  grind[wS,vl,uo]
 .rintro⟨n,hn,hm⟩;have hc:b+n<p.length:=qA;obtain⟨k,hk⟩:=gX hc
  grind[wS,vl,jK,nP,nA]
theorem Py {p:YU} (hh:zD p) {b:Nat} (h0:0<b) (hb:b<p.length):sorted (pr p b p.length)=sorted (jT p b (p.length - (b+1))):=by
 apply gP;intro x hx;unfold pr jT;rw [jE,jE];constructor
 .rintro⟨c,hc,hm⟩;obtain⟨k,hk⟩:=gX hc;rw [jK] at hm;obtain⟨_,hm⟩:=hm;simp only [nQ,hk,uR,decide_eq_true_eq,bne_iff_ne,ne_eq,beq_iff_eq] at hm;obtain⟨⟨h1,h2⟩,h3⟩:=hm;have hge:=yD (aK hh h0 hk h3);refine⟨c - (b+1),qA,?_⟩
  grind[an,uy]
 .rintro⟨n,hn,hm⟩;have hc:b+1+n<p.length:=qA;obtain⟨k,hk⟩:=gX hc
  grind[an,uy,jK,nQ]
end Go.Hm
end
section
namespace Go.Hm
open Go Go.RowKit Go.ChangeShapes Go.WideShapes Go.Deep
theorem qX.qCm {P:Program} {gl:Nat->Option (List AV)} {f:FuncId} {az:List AV} {v0:Value} (h:qX P gl f az (λ_ y _=>y=.sc v0)) {W:World} {g:Gh} {args:Array Value} (hC:∀ b,g.C b->b<W.heap.size)
  (hgl:∀ i row,gl i=some row->(RV g W (.pointer (some ⟨i,0,none⟩)) (.el row 0)/\Exw W i row)/\∀ f:Nm->Option Nm,row.map (AV.tr f)=row) (hsz:args.size=az.length)
  (hargs:∀ (j:Nat) v x,args[j]?=some v->az[j]?=some x->RV g W v x):Calls P f args W λe W'=>e=.returned v0/\Below W.heap.size W W':=by
 have hinv:Inv (mx g noH) g.C W g noH W:=⟨rfl,rfl,rfl,qp _,λ_ _ _=>rfl,rfl,hC,λ_ _ e=>uN,λ_ _ _ e=>uN,λ_ _ _ _ _ e=>uN⟩;refine (h.2 (.s 0) g.C W g args (λ_ _=>rfl) rfl (λ_ e=>absurd rfl e) hinv hgl hsz hargs).mono λe w' he=>?_
 cases e with
 | returned v =>
  obtain⟨C',g',H',x,hA,hv,rfl⟩:=he;refine⟨by rw [hv.Ye],hA.inv.os,hA.inv.tape,hA.inv.output,hA.inv.size,λb hb=>hA.inv.qAQ b hb ?_⟩
  grind[mx,noH]
 | panicked ch=>obtain⟨_,_,_,_,_,_,_,_,e⟩:=he;exact e.elim
 | outgrown=>simp_all
abbrev glI (g:Nat) (l:List Int):Nat->Option (List AV):=λi=>if i=g then some (l.map iv) else none
theorem Sg {W:World} {g:Nat} {l:List Int} (hl:0<l.length) (h:∀ i k,l[i]?=some k->W.cell? ⟨g,i,none⟩=some (.int .i64 k)) :
  ∀ i row,glI g l i=some row->(RV (g0 W) W (.pointer (some ⟨i,0,none⟩)) (.el row 0)/\Exw W i row)/\∀ f:Nm->Option Nm,row.map (AV.tr f)=row:=by
 intro i row hr;by_cases hi:i=g
 .subst hi;simp only [glI,if_true,sL] at hr;subst hr
  have hat:∀ j,j<(l.map iv).length->∃ k,l[j]?=some k/\(l.map iv)[j]?=some (iv k)/\W.cell? ⟨i,j,none⟩=some (.int .i64 k):=by
   simp_all
  refine⟨⟨?_,λzs hz e=>?_⟩,λf=>?_⟩
  rotate_left
  .grind
  rotate_left
  .obtain⟨k0,_,_,hc0⟩:=hat 0 qH;have:=RV.el (g:=g0 W) (w:=W) i 0 0 (l.map iv) (λj=>(W.cell? ⟨i,0+j,none⟩).getD undef) (Mo hc0).1 (λj hj=>?_) (λj hj=>?_) (λj a ha=>?_)
   .omega
   .simp_all
   .grind[Value.oneCell']
   .have hj:j<(l.map iv).length:=(gS ha).1;obtain⟨k,_,h2,hc⟩:=hat j hj;rw [h2] at ha
    cases ha
    simp only [sK,hc,Option.getD_some];exact .sc _
  simp
 simp_all
theorem HC {H:Type} {enc:TypeId×Value->H} {P:Program} {w:World} {base:Nat} {spare:Nat->Bool} {held:Bool} {m n g:Nat} {t e:TypeId} {s:String} {cs:Array Value} {l:List Int} {x:List MemPlace}
  (ht:P.underlying t=some (.array n e)) (he:P.underlying e=some (.int .i64)) (hc:P.cellsOf e=1) (hg:P.globalNamed s=some g) (hv:w.var? P s=some cs)
  (h:DataW.trod enc P w base spare held m t cs.toList=some (.agg (l.map λk=>.lit (.int .i64 k)),x)):∀ i k,l[i]?=some k->w.cell? ⟨g,i,none⟩=some (.int .i64 k):=by
 intro i k hk;obtain⟨xs,m1,rfl,hx,hlen,hn,hel⟩:=DataW.trod_array ht h;simp only [Dw,DataW.agg.injEq] at hx;have hil:i<l.length:=(gS hk).1;have hxl:l.length=xs.length:=by simpa using congrArg List.length hx.1
 obtain⟨y,hy⟩:∃ y,xs[i]?=some y:=⟨_,gE qA⟩;have h0:=hel i qA;rw [hy,hc] at h0;obtain⟨k',e1,e2,_⟩:=DataW.trod_int he h0;have h3:=congrArg (λz=>z[i]?) hx.1;simp only [kU,hk,hy,bU,sL] at h3;rw [e2] at h3;have hkk:k'=k:=qH;subst hkk;rw [World.var?_cell hg hv i];have e3:=congrArg (λz=>z[0]?) e1
 grind
end Go.Hm
end
section
namespace Go.Hm
open Go Go.RowKit
def uh (l:List (Int×Int)):List (List AV):=l.map λo=>[iv o.1,iv o.2]
section
variable {l m:List (Int×Int)} {o:Int×Int} {i:Nat} {f:Nm->Option Nm}
@[simp] theorem orows_len:(uh l).length=l.length:=gH
@[simp] theorem orows_getE {h:i<(uh l).length}:(uh l)[i]=[iv (l[i]' qH).1,iv (l[i]' qH).2]:=gH
@[simp] theorem orows_tr:(uh l).map (λr=>r.map (AV.tr f))=uh l:=gH
@[simp] theorem orows_take:(uh l).take i=uh (l.take i):=gH
@[simp] theorem orows_drop:(uh l).drop i=uh (l.drop i):=gH
@[simp] theorem orows_app:uh l++uh m=uh (l++m):=gH
@[simp] theorem orows_nil:uh []=[]:=rfl
@[simp] theorem orows_cln:(uh l).all (λr=>r.all AV.Zh)=true:=gH
theorem LX:∀ r∈uh l,r.length=2:=by
 grind[uh]
abbrev osl (l:List (Int×Int)):AV:=.sl 2 (uh l)
theorem BO {hp:Nm->Option AO} {n:Nm} {len:Nat} (hn:hp n=some (.row 2 (uh l))) (hl:len=l.length):Bw hp Z5 (.hs n 2 0 len) (osl l):=kA hn (by simp [hl]) LX
end
def kK (p:YU) (b:Nat) (s:Y5):List (Int×Int):=s.reads.map λx=>qm p b x 0
def jH (s:Y5):List (Int×Int) :=
 if s.kind=0 then [(1,s.a)] else if s.kind=2 then [(14,0)] else if s.kind=3 then [(15,s.a)] else if s.kind=4 then [(16,s.a)] else if s.kind=5 then [(17,(s.reads.length:Int) - 1)]
 else if s.kind=6 then [(18,s.b)] else if s.kind=7 then [(19,0)] else if s.kind=8 then [(20,0)] else []
def b7 (p:YU) (b:Nat) (s:Y5):List (Int×Int):=if s.kind=11 then [qm p b s.to 2] else if 0<=s.kind/\s.kind<=6 then [qm p b s.to 1] else []
def dQ (p:YU) (b:Nat) (s:Y5):List (Int×Int):=(0,0)::(kK p b s++(jH s++b7 p b s))
def vb (p:YU) (b:Nat) (ss:List Y5):List (Int×Int):=ss.flatMap (dQ p b)
def yg (p:YU) (b:Nat):List (Int×Int):=match p[b]? with|some k=>vb p b k.body|none=>[]
theorem Bo (s:Y5):(jH s).length<=1:=by
 grind[jH]
theorem Oi {p:YU} {b:Nat} {s:Y5}:(b7 p b s).length<=1:=by
 grind[b7]
theorem LE {p:YU} {b:Nat} {s:Y5}:(kK p b s).length<=2:=by
 grind[Y5.ZT,kK]
theorem oU {p:YU} {b:Nat} {s:Y5}:(dQ p b s).length<=5:=by
 grind[Bo,Oi,LE,dQ]
theorem sF {p:YU} {b:Nat}:∀ ss:List Y5,(vb p b ss).length<=5 * ss.length
 := by intro x0;induction x0<;>grind[vb,oU]
theorem xG {p:YU} {b:Nat} {ss:List Y5} {i:Nat} {s:Y5} (h:ss[i]?=some s):vb p b (ss.take (i+1))=vb p b (ss.take i)++dQ p b s:=by
 grind[dN,vb]
def uC (l:List (Int×Int)):Nat:=l.countP λo=>o.1==0
theorem KV {l m:List (Int×Int)}:uC (l++m)=uC l+uC m:=by simp [uC]
theorem zQ {xs:List Int} {x:Int} (h:x∈xs):∃ i:Nat,qq xs x=i/\i<xs.length/\xs[i]?=some x:=by
 have h0:=zr.2 h
 grind[qq,List.findIdx?_eq_some_iff_getElem]
theorem dq {p:YU} {x:Int} {b:Nat}:∀ (n:Nat) (j:Int),zX p x n j=b->∃ k,p[b]?=some k/\qr b k x=true/\x∉k.dc 9
 := by intro x0;induction x0<;>grind[zX]
theorem gZ {p:YU} {x:Int} {b c:Nat} (h:qh p c x=b):∃ k,p[b]?=some k/\qr b k x=true/\x∉k.dc 9:=by
 grind[qh,outer,dq]
theorem tU {p:YU} {x:Int} {b:Nat} {k:Y4} (hk:p[b]?=some k) (hl:qr b k x=true) (hd:x∉k.dc 9):qh p b x=b:=by
 grind[qr,qh]
theorem ow {p:YU} {x:Int} (hh:zD p):∀ (n:Nat) (j:Int),zX p x n j=-1\/zX p x n j<=j
 | 0,_=>.inl rfl
 | n+1,j=>by
  simp only [zX]
  split
  .simp
  .split
   .simp
   .rename_i q hq;have h1:=(hh _ q hq).2.1;have ih:=ow hh (x:=x) n q.parent;omega
theorem PG {p:YU} {x:Int} {b:Nat} {k:Y4} (hh:zD p) (hk:p[b]?=some k) (h:qh p b x≠b):qh p b x<b:=by
 grind[qh,outer,ow,zD]
theorem Oa {p:YU} {b:Nat} {x:Int}:0<=zh p b x/\zh p b x<=4:=by
 grind[zh]
theorem O9 {p:YU} {b:Nat} {x:Int} (h:zh p b x=3):x∈qC p b:=by
 grind[zh]
theorem xV {p:YU} {b:Nat} {k:Y4} {x:Int} (hp:Y1 p) (hk:p[b]?=some k) (hx:0<=x/\x<=7) (h:zh p b x=4):x∈qG p b:=by
 have hka:qV p b=k.kind:=kS;unfold zh at h
 split at h
 .omega
 .rename_i h1
  split at h
  .omega
  .rename_i h2
   split at h
   .omega
   .rename_i h3
    split at h
    .omega
    .rename_i h4;have ho:qh p b x=b:=qA
     have hb:0<b:=by
      grind[uo]
     obtain⟨k',hk',hl,_⟩:=gZ ho;obtain rfl:k=k':=sI (hk.symm.trans hk');have hhd:=hp.head b k hk;unfold ym at hhd;rw [if_neg qA] at hhd;have hk1:qV p b=1:=qA;unfold qG;rw [if_pos hk1,j6];refine⟨x.toNat,qA,?_,qA⟩
     grind[yI]
theorem xU {p:YU} {b:Nat} {k:Y4} {x:Int} (hp:Y1 p) (hk:p[b]?=some k) (hu:x∈k.us) (h:zh p b x=1):x∈qN p b/\x∉qC p b:=by
 have Ym:=(gS hk).1
 have hx:0<=x/\x<=7:=by
  grind[Y4.us,mem_sorted]
 unfold zh at h
 split at h
 .omega
 .rename_i h1
  split at h
  rotate_left
  .omega
  .rename_i h2
   have hpos:0<qh p b x:=by
    grind[uo]
   have hlt:=PG hp.Y9 hk h2;refine⟨?_,λhc=>h2 ?_⟩
   .unfold qN jL;rw [mem_sorted,jE];refine⟨⟨0,qA,?_⟩,hx⟩
    grind[wS,vl,zm]
   .unfold qC at hc
    split at hc
    .unfold jT at hc
     grind[mem_sorted,jE,an,uy,gZ,tU]
    .cases hc
theorem lz {p:YU} {b:Nat} {k:Y4} {x w:Int} (hp:Y1 p) (hk:p[b]?=some k) (hu:x∈k.us) :
  (zh p b x=0/\qm p b x w=(8+w,x))\/(zh p b x=2/\qm p b x w=(11+w,x)) \/
  (zh p b x=4/\∃ i:Nat,qm p b x w=(2+w,(i:Int))/\i<(qG p b).length/\(qG p b)[i]?=some x) \/
  (zh p b x=3/\∃ i:Nat,qm p b x w=(5+w,(i:Int))/\i<(qC p b).length/\(qC p b++qN p b)[i]?=some x) \/
  (zh p b x=1/\∃ i:Nat,qm p b x w=(5+w,(((qC p b).length+i:Nat):Int))/\i<(qN p b).length/\(qC p b++qN p b)[(qC p b).length+i]?=some x):=by
 have hx:0<=x/\x<=7:=by
  grind[Y4.us,mem_sorted]
 obtain⟨s0,s4⟩:=Oa (p:=p) (b:=b) (x:=x);by_cases e0:zh p b x=0
 .grind[qm]
 by_cases e2:zh p b x=2
 .grind[qm]
 by_cases e4:zh p b x=4
 .simp_all[zQ,xV,qm]
 by_cases e3:zh p b x=3
 .grind[O9,zQ,qm,vM]
 have e1:zh p b x=1:=qA
 simp_all[xU,zQ,qm,vM,kh]
theorem pD {p:YU} {b:Nat} {x w:Int} (hw:0<=w):2<=(qm p b x w).1:=by
 grind[qm]
theorem xv {k:Y4} {s:Y5} {x:Int} (hn:qBW k) (hs:s∈k.body) (hx:x∈s.reads):x∈k.us:=by
 have h1:=hn.reads s hs x hx
 grind[Y4.us,mem_sorted,Y4.rd,jn,Y5.reads]
theorem RN {k:Y4} {s:Y5} (hn:qBW k) (hs:s∈k.body) (h:s.qAX\/s.kind=11):s.to∈k.us:=by
 have h1:=hn.Yw s hs
 grind[Y4.us,mem_sorted,Y4.bd,bB]
theorem IM {l:List (Int×Int)} (h:∀ o∈l,0<o.1):uC l=0:=by
 grind[uC]
theorem IS {p:YU} {b:Nat} {s:Y5}:∀ o∈kK p b s++(jH s++b7 p b s),0<o.1:=by
 intro o ho;simp only [cK] at ho;rcases ho with ho|ho|ho
 .simp only [kK,eg] at ho;obtain⟨x,_,rfl⟩:=ho;have:=pD (p:=p) (b:=b) (x:=x) (w:=0) qL;omega
 .grind[jH]
 .unfold b7 at ho
  split at ho
  .obtain rfl:=kg.1 ho;have:=pD (p:=p) (b:=b) (x:=s.to) (w:=2) qL;omega
  .split at ho
   .obtain rfl:=kg.1 ho;have:=pD (p:=p) (b:=b) (x:=s.to) (w:=1) qL;omega
   .cases ho
theorem IN {p:YU} {b:Nat} {s:Y5}:uC (dQ p b s)=1:=by
 have h:=IM (IS (p:=p) (b:=b) (s:=s))
 grind[uC,dQ]
theorem tD {p:YU} {b:Nat}:∀ ss:List Y5,uC (vb p b ss)=ss.length
 | []=>rfl
 | s::l=>by
  have h:=tD (p:=p) (b:=b) l
  grind[vb,KV,IN]
theorem bb {l:List (Int×Int)} {x y:Int}:uh l++[[iv x,iv y]]=uh (l++[(x,y)]):=gH
structure Cod where
 kind:Int
 params:List Int
 YV:List Int
 cells:List Int
 qAF:List Int
 ops:List (Int×Int)
 deriving DecidableEq,Inhabited
def dt:Cod:=⟨0,[],[],[],[],[]⟩
@[simp] theorem noCode_kind:dt.kind=0:=rfl
@[simp] theorem noCode_params:dt.params=[]:=rfl
@[simp] theorem noCode_fasts:dt.YV=[]:=rfl
@[simp] theorem noCode_cells:dt.cells=[]:=rfl
@[simp] theorem noCode_frees:dt.qAF=[]:=rfl
@[simp] theorem noCode_ops:dt.ops=[]:=rfl
def qd (p:YU) (b:Nat):Cod:=match p[b]? with|some k=>⟨k.kind,k.params,qG p b,qC p b,qN p b,yg p b⟩|none=>dt
def qg (p:YU) (n:Nat):List Cod:=(List.range n).map (qd p)
theorem nG {p:YU} {n:Nat}:qg p (n+1)=qg p n++[qd p n]:=by simp [qg,BU]
@[simp] theorem codesTo_len {p:YU} {n:Nat}:(qg p n).length=n:=by simp [qg]
@[simp] theorem codesTo_zero {p:YU}:qg p 0=[]:=rfl
abbrev Cod.row (c:Cod):List AV:=[iv c.kind,ZD c.params,ZD c.YV,ZD c.cells,ZD c.qAF,osl c.ops]
abbrev Cod.av (c:Cod):AV:=.agg c.row
def lI (cs:List Cod):List (List AV):=cs.map Cod.row
abbrev csl (cs:List Cod):AV:=.sl 6 (lI cs)
def Cod.own (n:Nm) (i:Nat) (c:Cod):List AV :=
 [iv c.kind,.hs (.c n i 1) 1 0 c.params.length,.hs (.c n i 2) 1 0 c.YV.length,.hs (.c n i 3) 1 0 c.cells.length,.hs (.c n i 4) 1 0 c.qAF.length,.hs (.c n i 5) 2 0 c.ops.length]
@[simp] theorem Cod.qA6 {n:Nm} {i:Nat} {c:Cod}:c.own n i=[iv c.kind,.hs (.c n i 1) 1 0 c.params.length,.hs (.c n i 2) 1 0 c.YV.length,.hs (.c n i 3) 1 0 c.cells.length,.hs (.c n i 4) 1 0 c.qAF.length,.hs (.c n i 5) 2 0 c.ops.length]:=rfl
structure qA7 (hp:Nm->Option AO) (n:Nm) (i:Nat) (c:Cod):Prop where
 params:hp (.c n i 1)=some (.row 1 (qS c.params))
 YV:hp (.c n i 2)=some (.row 1 (qS c.YV))
 cells:hp (.c n i 3)=some (.row 1 (qS c.cells))
 qAF:hp (.c n i 4)=some (.row 1 (qS c.qAF))
 ops:hp (.c n i 5)=some (.row 2 (uh c.ops))
def vj (n:Nm) (cs:List Cod):List (List AV):=cs.mapIdx λi c=>c.own n i
structure qCB (hp:Nm->Option AO) (n:Nm) (cs:List Cod):Prop where
 top:hp n=some (.row 6 (vj n cs))
 each:∀ (i:Nat) c,cs[i]?=some c->qA7 hp n i c
section
variable {cs:List Cod} {i a b d l:Nat} {n q k1:Nm} {c:Cod}
@[simp] theorem kcrows_len:(lI cs).length=cs.length:=ru
@[simp] theorem JI:(lI cs)[i]?=(cs[i]?).map Cod.row:=ru
@[simp] theorem kcrows_getE {h:i<(lI cs).length}:(lI cs)[i]=(cs[i]' ct).row:=ru
@[simp] theorem kcrows_tr {f:Nm->Option Nm}:(lI cs).map (λr=>r.map (AV.tr f))=lI cs:=ru
@[simp] theorem kdRows_len:(vj n cs).length=cs.length:=by simp [vj]
@[simp] theorem th:(vj n cs)[i]?=(cs[i]?).map (λc=>c.own n i):=by simp [vj]
@[simp] theorem kdRows_nil:vj n []=[]:=rfl
@[simp] theorem kdRows_take:(vj n cs).take cs.length=vj n cs:=bC qB
theorem tj:vj n (cs++[c])=vj n cs++[c.own n cs.length]:=by simp [vj]
theorem bn {f:Nm->Option Nm} {m:Nm} (h:∀ i j,i<cs.length->f (.c n i j)=some (.c m i j)):(vj n cs).map (λr=>r.map (AV.tr f))=vj m cs:=by
 apply aW;intro i;simp only [kU,th,Option.map_map]
 cases hx:cs[i]? with
 | none=>rfl
 | some x=>simp [Cod.own,h i _ (gS hx).1]
@[simp] theorem kdRows_kl (h:Nm.under (.s d) n=false):(vj n cs).map (λr=>r.map (AV.tr (kl (.s d))))=vj n cs:=bn bA
@[simp] theorem kdRows_mv1 (h:Nm.under (.s a) n=true):(vj n cs).map (λr=>r.map (AV.tr (mv (.s a) k1)))=vj (Nm.Yq (.s a) k1 n) cs:=bn bA
@[simp] theorem kdRows_mvc:(vj n cs).map (λr=>r.map (AV.tr (mvc n k1)))=vj k1 cs:=by
 refine bn λi j _=>?_;have:Nm.c n i j≠n:=Nm.ZJ (Nm.Y0 n);simp [this]
@[simp] theorem kdRows_mv4 {j:Nat} (hq:(q=n)=False) (hq':Nm.under (.c q a b) n=false) (hl:cs.length<=l):(vj n cs).map (λr=>r.map (AV.tr (mv (.c q a b) (.c n l j))))=vj n cs:=by
 have h1:¬ n=q:=λe=>by simp [e] at hq
 have h2:Nm.under (.c n l j) n=false:=by
  cases h:Nm.under (.c n l j) n with
  | false=>rfl
  | true=>exact absurd rfl (Nm.ZB h).2
 refine bn λi j hi=>?_;have h3:¬ i=l:=qA;simp [h1,hq',h2,h3]
end
theorem NT {hp:Nm->Option AO} {n:Nm} {i:Nat} {c:Cod} (h:qA7 hp n i c):∀ (j:Nat) a a',(c.own n i)[j]?=some a->c.row[j]?=some a'->Bw hp Z5 a a'
 | 0,a,a',ha,ha'=>by obtain rfl:=sI ha;obtain rfl:=sI ha';exact .refl _
 | 1,a,a',ha,ha'=>by obtain rfl:=sI ha;grind[ya,qA7.params]
 | 2,a,a',ha,ha'=>by obtain rfl:=sI ha;grind[ya,qA7.YV]
 | 3,a,a',ha,ha'=>by obtain rfl:=sI ha;grind[ya,qA7.cells]
 | 4,a,a',ha,ha'=>by obtain rfl:=sI ha;obtain rfl:=sI ha';exact ya h.qAF rfl
 | 5,a,a',ha,ha'=>by obtain rfl:=sI ha;obtain rfl:=sI ha';exact BO h.ops rfl
 | j+6,a,a',ha,_=>qH
theorem fW {hp:Nm->Option AO} {n:Nm} {i:Nat} {c:Cod} (h:qA7 hp n i c):Bw hp Z5 (.agg (c.own n i)) c.av:=.agg _ _ rfl (NT h)
theorem kB {hp:Nm->Option AO} {n:Nm} {len:Nat} {cs:List Cod} (h:qCB hp n cs) (hl:len=cs.length):Bw hp Z5 (.hs n 6 0 len) (csl cs):=by
 subst hl;refine .hs n 6 0 cs.length (vj n cs) (lI cs) rfl h.top qB qB ru λi r r' hr hr' j a a' ha ha'=>?_;rw [sK,th] at hr;rw [JI] at hr';obtain⟨x,hx,rfl⟩:=ui.1 hr;rw [hx] at hr';obtain rfl:=sI hr';exact NT (h.each i x hx) j a a' ha ha'
theorem qA7.Yv {H':Nm->Option AO} {n:Nm} {i:Nat} {c:Cod} (h:qA7 H' n i c):qA7 (Yv H') n i c :=
 ⟨yw h.params qB,yw h.YV qB,yw h.cells qB,yw h.qAF qB,yw h.ops qB⟩
theorem ez {l:List (Int×Int)} {i:Nat} {o:Int×Int} (h:l[i]?=some o):uC (l.take (i+1))=uC (l.take i)+(if o.1=0 then 1 else 0):=by
 grind[dN,uC]
theorem Gk {l:List (Int×Int)}:uC l<=l.length:=List.countP_le_length
theorem cW {p:YU} {b:Nat} (hp:Y1 p):(yg p b).length<=60:=by
 unfold yg
 split
 .rename_i k hk;have h1:=sF (p:=p) (b:=b) k.body;have h2:=hp.body k (gM hk);omega
 .simp
section
variable {X:Ctx} {st:St} {K:St->Prop} {E:AV->St->Prop} {dst:Option Nat} {f f':FuncId} {args:Array Operand} {Ts:Array TypeId} {ty:TypeId} {pos:String} {aft:Array Edge} {g:Option (Nat×Bool)} {P:Program} {gl:Nat->Option (List AV)} {az:List AV} {R:Nm->AV->(Nm->Option AO)->Prop}
theorem zV (_hF:qX P gl f' az R) (_hf:f=f') (h:qO X ⟨dst,.call ⟨.value (.func f),args,Ts⟩,ty,pos,aft,g⟩ K E st):qO X ⟨dst,.call ⟨.value (.func f),args,Ts⟩,ty,pos,aft,g⟩ K E st:=h
end
def AV.qC2:AV->Bool
 | .hs _ _ _ _=>true
 | _=>false
@[simp] theorem isHs_hs {n:Nm} {z lo len:Nat}:(AV.hs n z lo len).qC2=true:=rfl
@[simp] theorem isHs_sc {v:Value}:(AV.sc v).qC2=false:=rfl
section
variable {X:Ctx} {st st':St} {K:St->Prop} {E:AV->St->Prop} {d:Nat} {ty:TypeId} {pos:String} {aft:Array Edge} {g:Option (Nat×Bool)}
theorem wu {T F:TypeId} {s x:Operand} {z len:Nat} {n:Nm} {rows0 rows2:List (List AV)} (hd:d<X.n:=by first|(simp;done)|fail) (hT:bX X.P T=some F:=by simp [fx];first|done|rfl) (hz:Yh X.P F=z:=by simp [fx];first|done|rfl) (hs:ev st s=.hs n z 0 len:=by simp [fx];first|done|rfl|exact⟨rfl,rfl⟩|exact⟨rfl,rfl,rfl⟩)
  (hn:st.hp n=some (.row z rows0):=by simp [fx];first|done|rfl) (hle:len<=rows0.length:=by first|(simp [fx];done)|(simp [fx];omega)|omega)
  (hx:vV st z (ev st x)=some rows2:=by simp [fx];first|done|rfl) (hm:(rows2.any λr=>r.any AV.qC2)=true:=by first|(simp;done)|fail) (hlen:len+rows2.length<=4294967296:=by first|(simp [fx];done)|(simp [fx];omega)|omega)
  (hq:Hm.canon (Oz (.s d) len rows2) ((si d z (len+rows2.length) (some n) (rows0.take len++rows2) st).mvc n (.s d))=st':=by simp [fx];first|done|rfl|exact (iS _).symm) (h:K st') :
  qO X ⟨some d,.call ⟨.builtin .append,#[s,x],#[T,T]⟩,ty,pos,aft,g⟩ K E st:=Ce hd hT hz hs hn hle hx hlen hq h
end
section
variable {X:Ctx} {st:St} {K:St->Prop} {E:AV->St->Prop} {d:Nat} {ty:TypeId} {pos:String} {aft:Array Edge} {g:Option (Nat×Bool)} {f:Nat} {args:Array Operand} {Ts:Array TypeId} {az avs:List AV}
theorem z7 {x:AV} (hd:d<X.n:=by first|(simp;done)|fail) (ha:args.toList.map (ev st)=avs:=by simp [fx];first|done|rfl|exact (iS _).symm)
  (hB:BwL st.hp Z5 avs az:=by
    first
    | ((repeat' (first|exact .nil|refine .cons ?_ ?_|exact .refl _|exact ya vq vn|exact kA vq vn ec|exact BO vq vn|exact BN vq vn|exact ee ⟨mT,λj k hj hk=>mG⟩ hh rfl|exact QH ⟨mT,λj k hj hk=>mG⟩ hh hk|exact cx (cw ⟨FZ,λj r hj=>Fj,λj r hj=>GI⟩ rfl)|exact cx (cw ⟨Fp,λj r hj=>Fa,λj r hj=>F5⟩ rfl)|exact cx (cw ⟨Fw,λj r hj=>Fg,λj r hj=>F4⟩ rfl)|exact fW ⟨F2,F8,GG,Ft,GP⟩|exact fW ⟨GH,Fh,Fq,FX,GK⟩|exact kB ⟨Fx,λi c hc=>⟨F3,Fm,F6,Fb,Fs⟩⟩ rfl|exact kB ⟨GJ,λi c hc=>⟨F1,Fu,GB,FW,FY⟩⟩ rfl|exact kB ⟨Fy,λi c hc=>⟨F0,FV,GL,GE,GN⟩⟩ rfl));done)
    | fail)
  (hF:qX X.P X.gl f az (λ_ y _=>y=x)) (hc:x.Zh=true:=by first|(simp [fx];done)|fail) (h:K ((st.kill (.s d)).put (some d) x)) :
  qO X ⟨some d,.call ⟨.value (.func f),args,Ts⟩,ty,pos,aft,g⟩ K E st:=Q9 hd ha hB hF hc h
theorem zw {z n:Nat} {rows:List (List AV)} (hd:d<X.n:=by first|(simp;done)|fail) (ha:args.toList.map (ev st)=avs:=by simp [fx];first|done|rfl|exact (iS _).symm)
  (hB:BwL st.hp Z5 avs az:=by
    first
    | ((repeat' (first|exact .nil|refine .cons ?_ ?_|exact .refl _|exact ya vq vn|exact kA vq vn ec|exact BO vq vn|exact BN vq vn|exact ee ⟨mT,λj k hj hk=>mG⟩ hh rfl|exact QH ⟨mT,λj k hj hk=>mG⟩ hh hk|exact cx (cw ⟨FZ,λj r hj=>Fj,λj r hj=>GI⟩ rfl)|exact cx (cw ⟨Fp,λj r hj=>Fa,λj r hj=>F5⟩ rfl)|exact cx (cw ⟨Fw,λj r hj=>Fg,λj r hj=>F4⟩ rfl)|exact fW ⟨F2,F8,GG,Ft,GP⟩|exact fW ⟨GH,Fh,Fq,FX,GK⟩|exact kB ⟨Fx,λi c hc=>⟨F3,Fm,F6,Fb,Fs⟩⟩ rfl|exact kB ⟨GJ,λi c hc=>⟨F1,Fu,GB,FW,FY⟩⟩ rfl|exact kB ⟨Fy,λi c hc=>⟨F0,FV,GL,GE,GN⟩⟩ rfl));done)
    | fail)
  (hF:qX X.P X.gl f az (λr y H'=>y=.hs r z 0 n/\H' r=some (.row z rows))) (hc:rows.all (λr=>r.all AV.Zh)=true:=by first|(simp;done)|fail)
  (h:K (((st.kill (.s d)).Yf (.s d) (.row z rows)).put (some d) (.hs (.s d) z 0 n))):qO X ⟨some d,.call ⟨.value (.func f),args,Ts⟩,ty,pos,aft,g⟩ K E st:=LZ hd ha hB hF hc h
theorem kj {R:Nm->AV->(Nm->Option AO)->Prop} (hd:d<X.n:=by first|(simp;done)|fail) (ha:args.toList.map (ev st)=avs:=by simp [fx];first|done|rfl|exact (iS _).symm)
  (hB:BwL st.hp Z5 avs az:=by
    first
    | ((repeat' (first|exact .nil|refine .cons ?_ ?_|exact .refl _|exact ya vq vn|exact kA vq vn ec|exact BO vq vn|exact BN vq vn|exact ee ⟨mT,λj k hj hk=>mG⟩ hh rfl|exact QH ⟨mT,λj k hj hk=>mG⟩ hh hk|exact cx (cw ⟨FZ,λj r hj=>Fj,λj r hj=>GI⟩ rfl)|exact cx (cw ⟨Fp,λj r hj=>Fa,λj r hj=>F5⟩ rfl)|exact cx (cw ⟨Fw,λj r hj=>Fg,λj r hj=>F4⟩ rfl)|exact fW ⟨F2,F8,GG,Ft,GP⟩|exact fW ⟨GH,Fh,Fq,FX,GK⟩|exact kB ⟨Fx,λi c hc=>⟨F3,Fm,F6,Fb,Fs⟩⟩ rfl|exact kB ⟨GJ,λi c hc=>⟨F1,Fu,GB,FW,FY⟩⟩ rfl|exact kB ⟨Fy,λi c hc=>⟨F0,FV,GL,GE,GN⟩⟩ rfl));done)
    | fail)
  (hF:qX X.P X.gl f az R) (h:∀ y H',R (.s d) y H'->y.Zh=true/\K (((st.kill (.s d)).qBU d (Yv H')).put (some d) y)) :
  qO X ⟨some d,.call ⟨.value (.func f),args,Ts⟩,ty,pos,aft,g⟩ K E st:=L1 hd ha hB hF h
end
structure Yr (p:Prop):Prop where
 h:p
theorem qI {G G':Prop} (k:G') (h:Yr G'->G:=by
 intro kk
 repeat' (first
  | refine uZ ?_|refine ja ?_|refine yH ?_|refine dZ ?_|refine kJ λK hK=>?_
  | ((with_reducible refine vX hK ?_);clear hK K)|(with_reducible refine vX hK ?_)
  | (with_reducible first|refine q9 ?_|refine jC ?_|refine jB ?_|refine vI ?_|refine za ?_|refine vk ?_|refine w5 ?_|refine jo qL ?_)
  | refine kN ?_
  | refine kV ?_
  | (with_reducible refine jg ?_)
  | ((with_reducible refine Ha ?_);refine uj (h:=?_))
  | (with_reducible first|refine lL ?_|refine mD ?_|refine IF (h:=?_)|refine IG (h:=?_)|refine x_u (h:=?_)|refine zO (h:=?_)|refine dO (h:=?_)|refine vu (h:=?_)|refine yM (h:=?_)|refine jA (h:=?_)|refine wu (h:=?_)|refine jm (h:=?_)|refine uY (h:=?_)|refine iW (h:=?_)|refine vG (h:=?_))
  | ((with_reducible refine zV c1 rfl ?_);refine z7 (hF:=c1) (h:=?_))
  | ((with_reducible refine zV c2 rfl ?_);refine z7 (hF:=c2) (h:=?_))
  | ((with_reducible refine zV c3 rfl ?_);refine z7 (hF:=c3) (h:=?_))
  | ((with_reducible refine zV c4 rfl ?_);refine z7 (hF:=c4) (h:=?_))
  | ((with_reducible refine zV c5 rfl ?_);refine z7 (hF:=c5) (h:=?_))
  | ((with_reducible refine zV c6 rfl ?_);refine z7 (hF:=c6) (h:=?_))
  | ((with_reducible refine zV d1 rfl ?_);refine zw (hF:=d1) (h:=?_))
  | ((with_reducible refine zV d2 rfl ?_);refine zw (hF:=d2) (h:=?_))
  | ((with_reducible refine zV d3 rfl ?_);refine zw (hF:=d3) (h:=?_))
  | ((with_reducible refine zV d4 rfl ?_);refine zw (hF:=d4) (h:=?_))
  | ((with_reducible refine zV e1 rfl ?_);refine kj (hF:=e1) (h:=?_))
  | ((with_reducible refine zV e2 rfl ?_);refine kj (hF:=e2) (h:=?_))
  | (with_reducible refine x_q (h:=?_))
  | (with_reducible refine bq (λht=>?_) (λht=>?_))
  | refine j8 (h1:=?_)|refine jr (h1:=?_)
  | ((with_reducible refine wI hK ?_);clear hK K)|(with_reducible refine wI hK ?_)
  | ((with_reducible refine em ?_);first|refine su (h:=?_)|refine gL (h:=?_)|refine gN (h:=?_)|refine gK (h:=?_))
  | ((with_reducible refine em ?_);refine gO (h1:=λht=>?_) (h2:=λht=>?_))
  | refine a_l rfl ?_|refine G3 ?_ ?_|refine G1 ?_ ?_ ?_|(with_reducible refine aI ?_ ?_)|exact vi|refine cM (h2:=?_)
  | fail)
 first|exact kk.h|(revert hK;revert K;exact kk.h)):G:=h ⟨k⟩
theorem qK {G G':Prop} (k:G') (h:Yr G'->G:=by
 intro kk
 first
  | refine uZ ?_|refine ja ?_|refine yH ?_|refine dZ ?_|refine kJ λK hK=>?_
  | ((with_reducible refine vX hK ?_);clear hK K)|(with_reducible refine vX hK ?_)
  | (with_reducible first|refine q9 ?_|refine jC ?_|refine jB ?_|refine vI ?_|refine za ?_|refine vk ?_|refine w5 ?_|refine jo qL ?_)
  | refine kN ?_
  | refine kV ?_
  | (with_reducible refine jg ?_)
  | ((with_reducible refine Ha ?_);refine uj (h:=?_))
  | (with_reducible first|refine lL ?_|refine mD ?_|refine IF (h:=?_)|refine IG (h:=?_)|refine x_u (h:=?_)|refine zO (h:=?_)|refine dO (h:=?_)|refine vu (h:=?_)|refine yM (h:=?_)|refine jA (h:=?_)|refine wu (h:=?_)|refine jm (h:=?_)|refine uY (h:=?_)|refine iW (h:=?_)|refine vG (h:=?_))
  | (with_reducible refine x_q (h:=?_))
  | refine j8 (h1:=?_)|refine jr (h1:=?_)
 repeat' (first
  | refine uZ ?_|refine ja ?_|refine yH ?_|refine dZ ?_|refine kJ λK hK=>?_
  | ((with_reducible refine vX hK ?_);clear hK K)|(with_reducible refine vX hK ?_)
  | (with_reducible first|refine q9 ?_|refine jC ?_|refine jB ?_|refine vI ?_|refine za ?_|refine vk ?_|refine w5 ?_|refine jo qL ?_)
  | refine kN ?_
  | refine kV ?_
  | (with_reducible refine jg ?_)
  | ((with_reducible refine Ha ?_);refine uj (h:=?_))
  | (with_reducible first|refine lL ?_|refine mD ?_|refine IF (h:=?_)|refine IG (h:=?_)|refine x_u (h:=?_)|refine zO (h:=?_)|refine dO (h:=?_)|refine vu (h:=?_)|refine yM (h:=?_)|refine jA (h:=?_)|refine wu (h:=?_)|refine jm (h:=?_)|refine uY (h:=?_)|refine iW (h:=?_)|refine vG (h:=?_))
  | (with_reducible refine x_q (h:=?_))
  | refine j8 (h1:=?_)|refine jr (h1:=?_))
 first|exact kk.h|(revert hK;revert K;exact kk.h)):G:=h ⟨k⟩
theorem qD {A G G':Prop} (k:G') (x:A) (h:A->Yr G'->G:=by
 intro fx kk;refine qI ?_;exact kk.h):G:=h x ⟨k⟩
theorem qW {G G':Prop} (k:G') (h:Yr G'->G:=by
 intro kk K hK
 repeat' (first
  | refine uZ ?_|refine ja ?_|refine yH ?_|refine dZ ?_|refine kJ λK hK=>?_
  | ((with_reducible refine vX hK ?_);clear hK K)|(with_reducible refine vX hK ?_)
  | (with_reducible first|refine q9 ?_|refine jC ?_|refine jB ?_|refine vI ?_|refine za ?_|refine vk ?_|refine w5 ?_|refine jo qL ?_)
  | refine kN ?_
  | refine kV ?_
  | (with_reducible refine jg ?_)
  | ((with_reducible refine Ha ?_);refine uj (h:=?_))
  | (with_reducible first|refine lL ?_|refine mD ?_|refine IF (h:=?_)|refine IG (h:=?_)|refine x_u (h:=?_)|refine zO (h:=?_)|refine dO (h:=?_)|refine vu (h:=?_)|refine yM (h:=?_)|refine jA (h:=?_)|refine wu (h:=?_)|refine jm (h:=?_)|refine uY (h:=?_)|refine iW (h:=?_)|refine vG (h:=?_))
  | ((with_reducible refine zV c1 rfl ?_);refine z7 (hF:=c1) (h:=?_))
  | ((with_reducible refine zV c2 rfl ?_);refine z7 (hF:=c2) (h:=?_))
  | ((with_reducible refine zV c3 rfl ?_);refine z7 (hF:=c3) (h:=?_))
  | ((with_reducible refine zV c4 rfl ?_);refine z7 (hF:=c4) (h:=?_))
  | ((with_reducible refine zV c5 rfl ?_);refine z7 (hF:=c5) (h:=?_))
  | ((with_reducible refine zV c6 rfl ?_);refine z7 (hF:=c6) (h:=?_))
  | ((with_reducible refine zV d1 rfl ?_);refine zw (hF:=d1) (h:=?_))
  | ((with_reducible refine zV d2 rfl ?_);refine zw (hF:=d2) (h:=?_))
  | ((with_reducible refine zV d3 rfl ?_);refine zw (hF:=d3) (h:=?_))
  | ((with_reducible refine zV d4 rfl ?_);refine zw (hF:=d4) (h:=?_))
  | ((with_reducible refine zV e1 rfl ?_);refine kj (hF:=e1) (h:=?_))
  | ((with_reducible refine zV e2 rfl ?_);refine kj (hF:=e2) (h:=?_))
  | (with_reducible refine x_q (h:=?_))
  | (with_reducible refine bq (λht=>?_) (λht=>?_))
  | refine j8 (h1:=?_)|refine jr (h1:=?_)
  | ((with_reducible refine wI hK ?_);clear hK K)|(with_reducible refine wI hK ?_)
  | ((with_reducible refine em ?_);first|refine su (h:=?_)|refine gL (h:=?_)|refine gN (h:=?_)|refine gK (h:=?_))
  | ((with_reducible refine em ?_);refine gO (h1:=λht=>?_) (h2:=λht=>?_))
  | refine a_l rfl ?_|refine G3 ?_ ?_|refine G1 ?_ ?_ ?_|(with_reducible refine aI ?_ ?_)|exact vi|refine cM (h2:=?_)
  | fail)
 first|exact kk.h|(revert hK;revert K;exact kk.h)):G:=h ⟨k⟩
theorem Qe {X:Ctx} {c:Code} {Q:Ex->St->Prop} {G:Prop} (I:St->Prop) (k:∀ st,I st->qa X c Q st) (h:Yr (∀ st,I st->qa X c Q st)->G:=by
 intro kk K hK
 repeat' (first
  | refine uZ ?_|refine ja ?_|refine yH ?_|refine dZ ?_|refine kJ λK hK=>?_
  | ((with_reducible refine vX hK ?_);clear hK K)|(with_reducible refine vX hK ?_)
  | (with_reducible first|refine q9 ?_|refine jC ?_|refine jB ?_|refine vI ?_|refine za ?_|refine vk ?_|refine w5 ?_|refine jo qL ?_)
  | refine kN ?_
  | refine kV ?_
  | (with_reducible refine jg ?_)
  | ((with_reducible refine Ha ?_);refine uj (h:=?_))
  | (with_reducible first|refine lL ?_|refine mD ?_|refine IF (h:=?_)|refine IG (h:=?_)|refine x_u (h:=?_)|refine zO (h:=?_)|refine dO (h:=?_)|refine vu (h:=?_)|refine yM (h:=?_)|refine jA (h:=?_)|refine wu (h:=?_)|refine jm (h:=?_)|refine uY (h:=?_)|refine iW (h:=?_)|refine vG (h:=?_))
  | ((with_reducible refine zV c1 rfl ?_);refine z7 (hF:=c1) (h:=?_))
  | ((with_reducible refine zV c2 rfl ?_);refine z7 (hF:=c2) (h:=?_))
  | ((with_reducible refine zV c3 rfl ?_);refine z7 (hF:=c3) (h:=?_))
  | ((with_reducible refine zV c4 rfl ?_);refine z7 (hF:=c4) (h:=?_))
  | ((with_reducible refine zV c5 rfl ?_);refine z7 (hF:=c5) (h:=?_))
  | ((with_reducible refine zV c6 rfl ?_);refine z7 (hF:=c6) (h:=?_))
  | ((with_reducible refine zV d1 rfl ?_);refine zw (hF:=d1) (h:=?_))
  | ((with_reducible refine zV d2 rfl ?_);refine zw (hF:=d2) (h:=?_))
  | ((with_reducible refine zV d3 rfl ?_);refine zw (hF:=d3) (h:=?_))
  | ((with_reducible refine zV d4 rfl ?_);refine zw (hF:=d4) (h:=?_))
  | ((with_reducible refine zV e1 rfl ?_);refine kj (hF:=e1) (h:=?_))
  | ((with_reducible refine zV e2 rfl ?_);refine kj (hF:=e2) (h:=?_))
  | (with_reducible refine x_q (h:=?_))
  | (with_reducible refine bq (λht=>?_) (λht=>?_))
  | refine j8 (h1:=?_)|refine jr (h1:=?_)
  | ((with_reducible refine wI hK ?_);clear hK K)|(with_reducible refine wI hK ?_)
  | ((with_reducible refine em ?_);first|refine su (h:=?_)|refine gL (h:=?_)|refine gN (h:=?_)|refine gK (h:=?_))
  | ((with_reducible refine em ?_);refine gO (h1:=λht=>?_) (h2:=λht=>?_))
  | refine a_l rfl ?_|refine G3 ?_ ?_|refine G1 ?_ ?_ ?_|(with_reducible refine aI ?_ ?_)|exact vi|refine cM (h2:=?_)
  | fail)
 all_goals exact kk.h _ (by simp [fx])):G:=h ⟨k⟩
end Go.Hm
end
section
namespace Go.Hm
open Go Go.RowKit Go.ChangeShapes Go.WideShapes Go.Deep
def glT:List (Nat×List Int)->Nat->Option (List AV)
 | [],_=>none
 | (g,l)::r,i=>if i=g then some (l.map iv) else glT r i
theorem FA {W:World}:∀ {ts:List (Nat×List Int)},(∀ t∈ts,0<t.2.length/\∀ i k,t.2[i]?=some k->W.cell? ⟨t.1,i,none⟩=some (.int .i64 k)) ->
  ∀ i row,glT ts i=some row->(RV (g0 W) W (.pointer (some ⟨i,0,none⟩)) (.el row 0)/\Exw W i row)/\∀ f:Nm->Option Nm,row.map (AV.tr f)=row
 | [],_,i,row,hr=>by grind[glT]
 | (g,l)::r,h,i,row,hr=>by
  simp only [glT] at hr
  split at hr
  .rename_i e;subst e;obtain⟨h1,h2⟩:=h (i,l) qB;exact Sg (g:=i) h1 h2 i row qH
  .exact FA (ts:=r) (λt ht=>h t aU) i row hr
end Go.Hm
end
