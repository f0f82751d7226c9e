import Derived.Test.YtjgpejikjhojcaaGreatDoorD15
import Derived.Shelf.Strconv.Itoa3
import Derived.Shelf.Strings.Split
import Derived.WalkSmall
import Derived.Recover
import Derived.Handed
import Derived.HandedShaped
import Derived.Shelf.Vars
set_option linter.all false
set_option maxRecDepth 100000
set_option maxHeartbeats 4000000
open Option renaming some->Z,none->Y
open Bool renaming true->B,false->M
open List renaming length->O

section
namespace Go.Hm
open Go Go.RowKit Go.Proofs Go.Shelf
theorem RK{g:Gh}{w:World}{args:Array Value}{vs:List Value}(hsz:args.size=O (vs.map AV.sc))(h:∀(j:Nat)v x,args[j]?=Z v->(vs.map AV.sc)[j]?=Z x->RV g w v x):args=vs.toArray:=by
 apply Array.ext
 .simp_all
 .intro j h1 h2;have h3:j<O vs:=qA;have:=(h j args[j] (.sc vs[j]) (mI h1) jr).jF
  simp_all
section
variable{P:Program}{ρ:Ren}
def qCF(L:Lays.n146 P ρ)(hi9:(P.info? (ρ.t 9)).map (λi=>(i.zero,i.size,i.bytes))=Z (Z (.string ByteArray.empty),1,16))(gl:Nat->Option (List AV))(m:Int)(hg:gl (ρ.g 1)=Z [.sc (.int .i64 m)])(l:qZ)(c:UInt8)(hl:O l<4294967281):
  qL P gl (ρ.f 146) [tx l,tx [c]] (λ_ y _=>y=vD (zO c l)):=by
 refine qCu (vs:=[.string (bt l),.string (bt [c])]) (T:=ρ.t 9) ⟨_,L.f146,qc,qc⟩ rfl λw hw=>?_;refine(Any.strings_Split L hi9 (bt l) (bt [c]) m w qQ (hw _ _ hg) qB).mono λe w' he=>?_;obtain⟨rfl,rfl⟩:=he;rw[qCD,qCC,iy];exact⟨rfl,rfl⟩
end
end Go.Hm
end
section

end
section
namespace Go.Hm
open Go Go.RowKit Go.ChangeShapes Go.WideShapes Go.Deep
def BJ:List (Nat×List Value)->Nat->Option (List AV)
 |[],_=>Y
 |(g,l)::r,i=>if i=g then Z (l.map .sc)else BJ r i
theorem Lh{W:World}:∀{ts:List (Nat×List Value)},(∀t∈ts,0<O t.2/\(∀v∈t.2,v.oneCell'=B)/\∀i v,t.2[i]?=Z v->W.cell? ⟨t.1,i,Y⟩=Z v)->(∀t∈ts,dI W t.1 (t.2.map .sc)) ->
  ∀i row,BJ ts i=Z row->(RV (g0 W) W (.pointer (Z ⟨i,0,Y⟩)) (.el row 0)/\dI W i row)/\∀f:Nm->Option Nm,row.map (AV.tr f)=row
 |[],_,_,i,row,hr=>by grind[BJ]
 |(g,l)::r,h,hx,i,row,hr=>by
  simp only[BJ]at hr
  split at hr
  .rename_i e;subst e;obtain⟨hl,ho,hc⟩:=h (i,l) qB;simp only at hl ho hc;obtain rfl:=sI hr
   have hat:∀j,j<O (l.map AV.sc)->∃v,l[j]?=Z v/\(l.map AV.sc)[j]?=Z (.sc v)/\W.cell? ⟨i,j,Y⟩=Z v/\v.oneCell'=B:=by
    simp_all
   refine⟨⟨?_,hx (i,l) qB⟩,λf=>?_⟩
   .obtain⟨k0,_,_,hc0,_⟩:=hat 0 qQ;have:=RV.el (g:=g0 W) (w:=W) i 0 0 (l.map AV.sc) (λj=>(W.cell? ⟨i,0+j,Y⟩).getD undef) (Kg hc0).1 (λj hj=>?_) (λj hj=>?_) (λj a ha=>?_)
    .omega
    .simp_all
    .simp_all
    .have hj:j<O (l.map AV.sc):=(gS ha).1;obtain⟨k,_,h2,hc,_⟩:=hat j hj;rw[h2]at ha
     cases ha
     simp only[gc,hc,Option.getD_some];exact .sc _
   simp
  .exact Lh (ts:=r) (λt ht=>h t tZ) (λt ht=>hx t tZ) i row hr
theorem DX{W:World}{i:Nat}{v:Value}{l:List Value}(h:∀z,v≠.int .u64 z):dI W i ((v::l).map .sc):=by
 intro zs hz e
 cases zs<;>grind
abbrev eP(l:List qZ):List Value:=l.map λx=>.string (bt x)
theorem OG{H:Type}{enc:TypeId×Value->H}{P:Program}{w:World}{base:Nat}{spare:Nat->Bool}{held:Bool}{m n g:Nat}{t e:TypeId}{s:String}{cs:Array Value}{l:List qZ}{x:List MemPlace}
  (ht:P.underlying t=Z (.array n e))(he:P.underlying e=Z .string)(hc:P.cellsOf e=1)(hg:P.globalNamed s=Z g)(hv:w.var? P s=Z cs)
  (h:DataW.trod enc P w base spare held m t cs.toList=Z (.agg (l.map λk=>.lit (.string k)),x)):∀i v,(eP l)[i]?=Z v->w.cell? ⟨g,i,Y⟩=Z v:=by
 intro i v hv';rw[j3]at hv';obtain⟨k,hk,rfl⟩:=zq.1 hv';obtain⟨xs,m1,rfl,hx,hlen,hn,hel⟩:=DataW.trod_array ht h;simp only[s6,DataW.agg.injEq]at hx;have hil:i<O l:=(gS hk).1;have hxl:O l=O xs:=by simpa using congrArg List.length hx.1
 obtain⟨y,hy⟩:∃y,xs[i]?=Z y:=⟨_,gE qA⟩;have h0:=hel i qA;rw[hy,hc]at h0;obtain⟨k',e1,e2,_⟩:=DataW.trod_string he h0;have h3:=congrArg (λz=>z[i]?) hx.1;simp only[j3,hk,hy,kB,AS]at h3;rw[e2]at h3;have hkk:k'.data.toList=k:=qQ;subst hkk;rw[World.var?_cell hg hv i];have e3:=congrArg (λz=>z[0]?) e1
 grind[zq]
end Go.Hm
end
section
namespace Go.Hm
open Go Go.RowKit
variable{Q:Exit->Go.Act->World->Prop}{c:Code}{d:Option Nat}{ops:Array Oper}{s:qZ}{v:Value}
def wd(a:Go.Act):Go.Act:={a with defers:=[]}
def xD(v:Value):List Deferred:=match v with
 |.func fn first cap=>[{target:=.fn fn cap,args:=first++#[]}]
 |_=>[]
def DW(X:Ctx)(t:Nat)(st:St)(a:Go.Act)(w:World):Prop:=a.defers=xD (a.tmps.getD t undef)/\Rw X st (wd a) w
def JO(X:Ctx)(t:Nat)(st:St)(a:Go.Act)(w:World)(v:Value)(x:AV):Prop:=a.defers=xD (a.tmps.getD t undef)/\gW X st (wd a) w v x
section
variable{X:Ctx}{st:St}{a:Go.Act}{w:World}{K:St->Prop}{E:AV->St->Prop}{ds:List (Option Nat)}{o:Oper}{t:Nat}
theorem Xx(h:d≠Z t):(a.put d v).tmps.getD t undef=a.tmps.getD t undef:=by
 cases d<;>simp_all[Act.put]
theorem qEA:wd (a.put d v)=(wd a).put d v:=Ap
theorem Ni:(a.put d v).defers=a.defers:=Ap
theorem BE{w':World}(hd:a.defers=xD (a.tmps.getD t undef))(ht:d≠Z t)(h:∃st',Rw X st' ((wd a).put d v) w'/\K st'):∃st',DW X t st' (a.put d v) w'/\K st':=by
 grind[Ni,Xx,qEA,DW]
theorem qEK(hd:a.defers=xD (a.tmps.getD t undef))(ht:o.dst≠Z t)
  (h:o.wp X.P (wd a) w (λa' w'=>∃st',Rw X st' a' w'/\K st') (λe _ w'=>Q e a w')):o.wp X.P a w (λa' w'=>∃st',DW X t st' a' w'/\K st') Q:=by
 unfold Oper.wp at h ⊢;have e:(wd a).eval=a.eval:=rfl;rw[e]at h;generalize (execOp a.eval o).run X.P w=r at h ⊢;have out:LetsOut (λe(_:Go.Act)w'=>Q e a w')->LetsOut Q:=λ⟨_,w1,h1⟩=>⟨a,w1,h1⟩
 cases r with
 |ok n w'=>
  cases n with
  |value v=>exact BE hd ht h
  |skip=>exact BE hd ht h
  |defer d=>
   obtain⟨st',h2,_⟩:=h
   grind[Rg.defers,Ni,Rw]
  |enter f args=>
   refine Calls.mono (show Calls X.P f args w' _ from h) λe w'' he=>?_
   cases e with
   |returned v=>exact BE hd ht he
   |panicked ch=>exact he
   |outgrown=>grind
  |row row args=>exact Rows.mono (show Rows X.P row args w' _ from h) λv w'' he=>BE hd ht he
  |_=>exact(show False from h).elim
 |halt s w'=>
  cases s with
  |panic v=>exact h
  |_=>exact(show False from h).elim
def qEJ{i:Nat}(hd:a.defers=xD (a.tmps.getD t undef))(hi:ops[i]?=Z o)(ht:o.dst≠Z t)
  (h:wpOp X.P ops (λe _ w'=>Q e a w') i (λa' w'=>∃st',Rw X st' a' w'/\K st') (wd a) w):wpOp X.P ops Q i (λa' w'=>∃st',DW X t st' a' w'/\K st') a w:=by
 unfold wpOp at h ⊢;simp only[hi]at h ⊢;have ey:yielded ops (wd a).tmps=yielded ops a.tmps:=rfl;rw[ey]at h
 split at h
 .rename_i hw;rw[if_pos hw];rcases h with h|⟨h1,_,w1,h2⟩
  .exact .inl (qEK hd ht h)
  .exact .inr ⟨h1,a,w1,h2⟩
 .rename_i hw;rw[if_neg hw];exact BE hd ht h
def yQ.wd{ops:Array Oper}{Q:Exit->Go.Act->World->Prop}(hQ:∀a' w' st',DW X t st' a' w'->K st'->Q .normal a' w')(hE:∀a' v w' st' x,JO X t st' a' w' v x->E x st'->Q (.panic [{v:=v,recovered:=M}]) a' w'):
  ∀(l:List Oper)(k:Nat),ops.toList.drop k=l->(∀o∈l,o.dst≠Z t)->∀st,yQ X (ops.toList.map (·.dst)) K E l st->∀a w,DW X t st a w->wpOps X.P ops Q (List.range' k (O l)) a w
 |[],k,_,_,st,h,a,w,hR=>hQ a w st hR h
 |o::l,k,hl,ht,st,h,a,w,hR=>by
  have hk:ops[k]?=Z o:=by
   rw[<- bm,<- fJ k,<- AW,hl];rfl
  rw[fK,List.range'_succ,wpOps_cons];have h1:=h ops k rfl hk (Go.Hm.wd a) w (λe _ w'=>Q e a w') hR.2 (λv w' st' x h1 h2=>hE a v w' st' x ⟨hR.1,h1⟩ h2);refine wpOp_mono (λa' w' he=>?_) (qEJ hR.1 hk (ht o qB) h1);obtain⟨st',hR',hK'⟩:=he;refine yQ.wd hQ hE l (k+1) ?_ (λo' ho=>ht o' (by simp[ho])) st' hK' a' w' hR';rw[<- List.drop_drop,hl]
  rfl
end
section
variable{X:Ctx}{st:St}{t:Nat}{Q:Ex->St->Prop}
def pG(X:Ctx)(t:Nat)(Q:Ex->St->Prop):Exit->Go.Act->World->Prop
 |.normal,a,w=>∃st,DW X t st a w/\Q .normal st
 |.exit id,a,w=>∃st,DW X t st a w/\Q (.exit id) st
 |.goto l,a,w=>∃st,DW X t st a w/\Q (.goto l) st
 |.ret,a,w=>∃st,DW X t st a w/\Q .ret st
 |.panic ch,a,w=>∃st v x,JO X t st a w v x/\ch=[{v:=v,recovered:=M}]/\Q (.b9 x) st
 |.outgrown,_,_=>False
def cU(X:Ctx)(t:Nat)(c:Code)(Q:Ex->St->Prop)(st:St):Prop:=∀a w,DW X t st a w->c.wp X.P (pG X t Q) a w
def qEB(h:Q .normal st):cU X t .skip Q st:=λ_ _ hR=>wp_skip ⟨st,hR,h⟩
def Pn(h:Q .ret st):cU X t .ret Q st:=λ_ _ hR=>wp_ret ⟨st,hR,h⟩
def CK{d:Code}(h:cU X t c (thenS (cU X t d Q) Q) st):cU X t (.seq c d) Q st:=by
 intro a w hR;refine wp_seq (wp_mono (h a w hR) λe a' w' he=>?_)
 cases e with
 |normal=>obtain⟨st',hR',hQ⟩:=he;exact hQ a' w' hR'
 |exit id=>exact he
 |goto l=>exact he
 |ret=>exact he
 |panic ch=>exact he
 |outgrown=>exact he
theorem Pm{c:Operand}{x y:Code}{b:Bool}(hb:ev st c=.sc (.bool b))(h1:b=B->cU X t x Q st)(h2:b=M->cU X t y Q st):cU X t (.cond c x y) Q st:=by
 intro a w hR
 have hv:a.eval c=.bool b:=by
  obtain⟨C,g,_,_,_,_,_,hr⟩:=hR.2;exact(hb ▸ hr.ev c).jF
 grind[wp_cond_split,cU]
def Ed{id:Nat}(ht:∀o∈ops.toList,o.dst≠Z t)(h:∀K:St->Prop,(∀s,Q .normal s->K s)->yQ X (ops.toList.map (·.dst)) K (λx=>Q (.b9 x)) ops.toList st):cU X t (.region id ops M) Q st:=by
 intro a w hR;refine wp_region ?_;rw[List.range_eq_range'];have:=yQ.wd (ops:=ops) (t:=t) (Q:=pG X t Q) (λa' w' st' h1 h2=>⟨st',h1,h2⟩) (λa' v w' st' x h1 h2=>⟨st',v,x,h1,rfl,h2⟩) ops.toList 0 rfl ht st (h _ (λ_ h=>h)) a w hR;omega
theorem qDs{id:Nat}{l1 l2:List Oper}{od:Oper}{ats:Array TypeId}(hops:ops.toList=l1++od::l2)(hod:od.op=.defer ⟨.value (.tmp t),#[],ats⟩)(hdst:od.dst=Y)(hg:od.guard=Y)
  (ht:∀o∈l2,o.dst≠Z t)
  (h:yQ X (ops.toList.map (·.dst)) (λs1=>(∃f xs ys,s1.tm t=.fn f xs ys)/\yQ X (ops.toList.map (·.dst)) (cU X t c Q) (λx=>Q (.b9 x)) l2 s1) (λ_ _=>False) l1 st){a:Go.Act}{w:World}(hR:Rw X st a w):
  (Code.seq (.region id ops M) c).wp X.P (pG X t Q) a w:=by
 refine wp_seq (wp_region ?_);rw[List.range_eq_range'];have hsz:ops.size=O l1+(1+O l2):=by grind[Array.length_toList]
 have key:∀a' w' st',Rw X st' a' w'->((∃f xs ys,st'.tm t=.fn f xs ys)/\yQ X (ops.toList.map (·.dst)) (cU X t c Q) (λx=>Q (.b9 x)) l2 st') ->
   wpOps X.P ops (Exit.then (c.wp X.P (pG X t Q)) (pG X t Q)) (List.range' (O l1) (1+O l2)) a' w':=by
  rintro a' w' st' hR' ⟨⟨f,xs,ys,hv⟩,hl⟩
  have hk:ops[O l1]?=Z od:=by
   rw[<- bm,hops,bn (qb _)];simp
  rw[Nat.add_comm 1,List.range'_succ,wpOps_cons];obtain⟨C,g,e1,e2,e3,e4,e5,hg'⟩:=hR';have hr:=hg'.dG t;rw[hv]at hr;generalize hcv:a'.tmps.getD t undef=cv at hr;have hdf:a'.defers=[]:=hg'.defers;unfold wpOp;simp only[hk];rw[if_pos (by simp[Region.wanted,hg])];left
  cases hr with
  |fn _ vs us _ _ l1' l2' r1 r2=>
   have hev:a'.eval (.tmp t)=.func f vs.toArray us.toArray:=hcv
   have hx:(execOp a'.eval od).run X.P w'=.ok (.defer {target:=.fn f us.toArray,args:=vs.toArray++#[]}) w':=by
    simp_all[execOp,resolve,Deferred.ofValue]
   unfold Oper.wp;rw[hx,Oper.upon_defer,hdst]
   have hDW:DW X t st' ({a' with defers:={target:=.fn f us.toArray,args:=vs.toArray++#[]}::a'.defers}:Go.Act) w':=by
    refine⟨?_,⟨C,g,e1,e2,e3,e4,e5,?_⟩⟩
    .grind[xD]
    .have:wd ({a' with defers:={target:=.fn f us.toArray,args:=vs.toArray++#[]}::a'.defers}:Go.Act)=a':=by
      obtain⟨tm,dd⟩:=a';simp only at hdf;subst hdf
      rfl
     simp_all
   refine yQ.wd (ops:=ops) (t:=t) (K:=cU X t c Q) (E:=λx=>Q (.b9 x)) (λa1 w1 s1 h1 h2=>h2 a1 w1 h1) (λa1 v w1 s1 x h1 h2=>⟨s1,v,x,h1,rfl,h2⟩) l2 (O l1+1) ?_ ht st' hl _ w' hDW
   simp_all
 have main:∀(l:List Oper)(k:Nat),k+O l=O l1->(∀j o,l[j]?=Z o->ops[k+j]?=Z o)->∀s,yQ X (ops.toList.map (·.dst)) (λs1=>(∃f xs ys,s1.tm t=.fn f xs ys)/\yQ X (ops.toList.map (·.dst)) (cU X t c Q) (λx=>Q (.b9 x)) l2 s1) (λ_ _=>False) l s ->
   ∀a' w',Rw X s a' w'->wpOps X.P ops (Exit.then (c.wp X.P (pG X t Q)) (pG X t Q)) (List.range' k (O l+(1+O l2))) a' w':=by
  intro l
  induction l with
  |nil=>
   intro k hk hl s hs a' w' hR';simp only[mG,fJ]at hk;subst hk
   simpa using key a' w' s hR' hs
  |cons o l ih=>
   intro k hk hl s hs a' w' hR';have hko:ops[k]?=Z o:=hl 0 o rfl;rw[fK,show O l+1+(1+O l2)=(O l+(1+O l2))+1 by omega,List.range'_succ,wpOps_cons];refine wpOp_mono (λa1 w1 he=>?_) (hs ops k rfl hko a' w' _ hR' (λ_ _ _ _ _ h=>h.elim));obtain⟨s1,hR1,hK1⟩:=he;exact ih (k+1) qx (λj o' ho=>by have:=hl (j+1) o' ho;grind) s1 hK1 a1 w1 hR1
 have:=main l1 0 qB (λj o ho=>by
  rw[gc,<- bm,hops,ua (gS ho).1];exact ho) st h a w hR
 simp_all
end
section
variable{c x:UInt8}{s l:qZ}{i j n:Nat}
theorem qCE(hi:s[i]?=Z c)(hj:j<=i)(hno:c∉(s.drop j).take (i-j)):zO c (s.drop j)=(s.drop j).take (i-j)::zO c (s.drop (i+1)):=by
 have e:s.drop j=(s.drop j).take (i-j)++c::s.drop (i+1):=by
  conv=>lhs;rw[<- s9 (i-j) (s.drop j)]
  simp_all<;>grind[iz]
 grind[IZ]
theorem We(hi:s[i]?=Z x)(hx:x≠c)(hj:j<=i)(hno:c∉(s.drop j).take (i-j)):c∉(s.drop j).take (i+1-j):=by
 rw[show i+1-j=(i-j)+1 by omega,vd,AW,show j+(i-j)=i by omega,hi]
 grind
def vJ(l:qZ):Nat:=l.foldl (λn c=>10*n+(c.toNat-48)) 0
def Su:vJ (l++[c])=10*vJ l+(c.toNat-48):=by simp[vJ]
theorem Kv(hi:s[i]?=Z c):vJ (s.take (i+1))=10*vJ (s.take i)+(c.toNat-48):=by
 grind[vd,vJ]
theorem Ku:∀n:Nat,vJ (yx n)=n
 |n=>by
  rw[yx]
  split
  .grind[vJ,lM]
  .rename_i h;rw[Su,Ku (n/10),lM qA];omega
theorem qBe(h:vJ s<=99):jC s=if s=yx (vJ s)then Z (vJ s)else Y:=by
 split
 .grind[ET]
 .rename_i e
  cases hs:jC s<;>grind[ET,Ku]
theorem Oy(hi:s[i]?=Z c)(h:¬(48<=c.toNat/\c.toNat<=57)):jC s=Y:=by
 cases hs:jC s<;>grind[ET,HI]
theorem qBc(hi:i<O s)(h:9<vJ (s.take i)):jC s=Y:=by
 cases hs:jC s with
 |none=>rfl
 |some n=>
  obtain⟨hn,rfl⟩:=ET.1 hs;by_cases h10:n<10
  .simp_all[HK,vJ]
  .rw [Dr qA qA]at hi h;simp only[fK,mG]at hi;rcases(by omega:i=0\/i=1)with rfl|rfl<;>grind[vJ,lM]
end
section
variable{s:qZ}{c:UInt8}
def Oz(h:O s<1\/2<O s):jC s=Y:=by
 rcases s with _|⟨a,_|⟨b,_|⟨d,l⟩⟩⟩
 .rfl
 .simp at h
 .simp at h
 .rfl
theorem qBh(hl:O s=2)(h:s[0]?=Z 48):jC s=Y:=by
 rcases s with _|⟨a,_|⟨b,_|⟨d,l⟩⟩⟩<;>simp_all[jC]
theorem qBd(h1:1<=O s)(h2:O s<=2)(hz:O s=2->s[0]?≠Z 48)(hd:∀c∈s,48<=c.toNat/\c.toNat<=57):jC s=Z (vJ s):=by
 rcases s with _|⟨a,_|⟨b,_|⟨d,l⟩⟩⟩<;>grind[lS,jC,vJ]
end
def sH(s:qZ):Int:=match jC s with|some n=>n|none=>-1
def xv{n:Nat}(h:jC s=Z n):sH s=n:=Cd
def nN(h:jC s=Y):sH s=-1:=Cd
end Go.Hm
end
section
namespace Go.Hm
open Go Go.RowKit Go.Proofs Go.Shelf
section
variable{st:St}{H' hp:Nm->Option AO}{T e:TypeId}{l:qZ}{k a b c d:Nat}
@[simp]theorem byrows_tr{f:Nm->Option Nm}:(bo l).map (λr=>r.map (AV.tr f))=bo l:=by simp[bo]
theorem R6(h:cT H' (.u a b c) T e l):cT (st.mr (.s k) (.u a b c) d H').hp (.s k) T e l:=by
 rcases h with⟨rfl,h⟩|⟨hl,h1,h2⟩
 .exact .inl ⟨rfl,qQ⟩
 .refine .inr ⟨hl,?_,?_⟩<;>simp_all
theorem Jm(h:cT st.hp (.s k) T e l):cT (uL (.u a b c) (st.move (.s k) (.u a b c)).hp) (.u a b c) T e l:=by
 rcases h with⟨rfl,h⟩|⟨hl,h1,h2⟩
 .exact .inl ⟨rfl,qQ⟩
 .refine .inr ⟨hl,?_,?_⟩<;>simp_all
def Jl(h:cT hp (.u a b c) T e l):(hp (.u a b c)).isSome=B:=by
 rcases h with⟨_,h⟩|⟨_,h,_⟩<;>simp[h]
end
section
variable{X:Ctx}{st:St}{K:St->Prop}{E:AV->St->Prop}{d k:Nat}{ty:TypeId}{pos:String}{aft:Array Edge}{g:Option (Nat×Bool)}{args:Array Operand}{Ts:Array TypeId}{P:Program}{ρ:Ren}{l s:qZ}{f:FuncId}
abbrev Vn:Nm:=.u 3 0 0
theorem Pw(k:Nat)(L:Lays.n166 X.P ρ)(Y':Builder.Extra X.P ρ)(hf:ρ.f 166=f)(hext:X.ext Vn=M)(hB:cT st.hp (.s k) (ρ.t 72) (ρ.t 5) l)(hd:d<X.n:=by first|(simp;done)|fail)
  (ha:args.toList.map (ev (st.move (.s k) Vn))=[.pt Vn 0,tx s]:=by simp[fx];first|done|rfl)(hs:s≠[]:=by first|(simp;done)|assumption)(hlen:O l+O s<=140737488355328:=by first|(simp;omega)|omega)
  (h:∀st':St,st'.n=st.n->st'.gl=st.gl->(∀t,st'.tm t=if t=d then .zT [.sc (.int .i64 (O s)),.sc .nilIface]else(st.tm t).tr (fy (.s k) Vn d)) ->
    (∀m,Nm.under (.s k) m=M->Nm.under Vn m=M->Nm.under (.s d) m=M->st'.hp m=(st.hp m).map (AO.tr (fy (.s k) Vn d))) ->
    st'.hp (.s k)=Z (.uP (ρ.t 72) 2 B [[.pt (.s k) 0,.hs (.c (.s k) 0 1) 1 0 (O l+O s)]])->st'.hp (.c (.s k) 0 1)=Z (.uP (ρ.t 5) 1 M (bo (l++s)))->K st'):
  qe X ⟨Z d,.call ⟨.value (.func f),args,Ts⟩,ty,pos,aft,g⟩ K E st:=by
 subst hf;have hB':=Jm (a:=3) (b:=0) (c:=0) hB;refine Eg (.s k) Vn (hext:=hext) (hs:=(Jl hB')) (hd:=hd) (ha:=ha) (hF:=qEM L Y' X.gl Vn l s hs hlen _ hB') (h:=?_);rintro y H' ⟨rfl,hH⟩;rcases R6 (st:=st) (k:=k) (d:=d) hH with⟨e,_⟩|⟨_,e1,e2⟩
 .simp_all
 refine h _ rfl rfl (λt=>?_) (λm h1 h2 h3=>?_) (by simpa using e1) e2<;>simp_all
def cT.go{hp0 hp:Nm->Option AO}{V:Nm}{T e:TypeId}{l:qZ}(h:cT hp0 V T e l)
  (h1:hp0 V=Z (.uP T 2 B [[.sc (.pointer Y),.sc (.slice Y 0 0)]])->hp V=Z (.uP T 2 B [[.sc (.pointer Y),.sc (.slice Y 0 0)]]):=by intro e;simp[e,fx])
  (h2:hp0 V=Z (.uP T 2 B [[.pt V 0,.hs (.c V 0 1) 1 0 (O l)]])->hp V=Z (.uP T 2 B [[.pt V 0,.hs (.c V 0 1) 1 0 (O l)]]):=by intro e;simp[e,fx])
  (h3:hp0 (.c V 0 1)=Z (.uP e 1 M (bo l))->hp (.c V 0 1)=Z (.uP e 1 M (bo l)):=by intro e;simp[e,fx]):cT hp V T e l:=by
 rcases h with⟨rfl,h⟩|⟨hl,e1,e2⟩
 .exact .inl ⟨rfl,h1 h⟩
 .exact .inr ⟨hl,h2 e1,h3 e2⟩
theorem qEX(k:Nat)(L:Lays.n169 X.P ρ)(Y':Builder.Extra X.P ρ)(hf:ρ.f 169=f)(hext:X.ext Vn=M)(hB:cT st.hp (.s k) (ρ.t 72) (ρ.t 5) l)(hd:d<X.n:=by first|(simp;done)|fail)
  (ha:args.toList.map (ev (st.move (.s k) Vn))=[.pt Vn 0]:=by simp[fx];first|done|rfl)
  (h:K ((st.mr (.s k) Vn d y6).put (Z d) (tx l))):
  qe X ⟨Z d,.call ⟨.value (.func f),args,Ts⟩,ty,pos,aft,g⟩ K E st:=by
 subst hf;have hB':=Jm (a:=3) (b:=0) (c:=0) hB;refine Eg (.s k) Vn (hext:=hext) (hs:=(Jl hB')) (hd:=hd) (ha:=ha) (hF:=qC4 L Y' X.gl Vn l _ hB') (h:=?_)
 simp_all
end
def il(x:AV):Prop:=∃t y,x=.jL t y/\(y=.agg []\/∃v,y=.sc v)
def dP(Q:Prop):Nm->AV->(Nm->Option AO)->Prop:=λ_ x _=>il x/\Q
theorem il.tr{x:AV}(h:il x){f:Nm->Option Nm}:il (x.tr f):=by
 obtain⟨t,y,rfl,h⟩:=h;refine⟨t,y.tr f,rfl,?_⟩;rcases h with rfl|⟨v,rfl⟩<;>simp_all
section
variable{X:Ctx}{st:St}{K:St->Prop}{E:AV->St->Prop}{d f:Nat}{ty:TypeId}{pos:String}{aft:Array Edge}{g:Option (Nat×Bool)}{args:Array Operand}{Ts:Array TypeId}{bs:List AV}{R:Nm->AV->(Nm->Option AO)->Prop}{Q:Prop}
theorem uk(U:Nm)(hU:U.z6=B)(hext:X.ext U=B->st.hp U≠Y)(hd:d<X.n:=by first|(simp;done)|fail)(ha:args.toList.map (ev st)=bs:=by simp[fx];first|done|rfl)
  (hF:qX X.P X.gl f (Nm.under U) bs (uL U st.hp) R (dP Q))(hE:∀x s,il x->Q->E x s)(h:∀y H',R (.s d) y H'->K ((st.call d (Nm.under U) (uL U st.hp) H').put (Z d) y)):
  qe X ⟨Z d,.call ⟨.value (.func f),args,Ts⟩,ty,pos,aft,g⟩ K E st:=by
 subst ha;refine mY (D:=Nm.under U) (H:=uL U st.hp) (R:=R) (E0:=dP Q) hF (oc hF.1 rfl) M ⟨rfl,λj a a' h h'=>?_⟩ (λn hn=>?_) (λn hn=>?_) (λn hn=>?_) (λk i j he=>?_) (λe he=>qQ) (λx H' hR=>?_) (λx H' hx=>hE _ _ hx.1 hx.2)
 .rw [h]at h';obtain rfl:=sI h';exact .refl _
 .cases hx:Nm.under U n with
  |false=>rfl
  |true=>
   have h1:=y8 hU hx;have h2:=Nm.nO (a:=.s d) rfl hn
   simp_all
 .simp_all
 .simp_all
 .grind[Nm.under,uL]
 simp_all
theorem CN(N V:Nm)(hV:V.z6=B:=by rfl)(hN:N.z6=M:=by rfl)(hNV:Nm.under V N=M:=by first|(simp;done)|fail)(hext:X.ext V=M)(hs:(uL V (st.move N V).hp V).isSome=B)(hd:d<X.n:=by first|(simp;done)|fail)
  (ha:args.toList.map (ev (st.move N V))=bs:=by simp[fx];first|done|rfl)
  (hF:qX X.P X.gl f (Nm.under V) bs (uL V (st.move N V).hp) R (dP Q))(hE:∀x s,il x->Q->E x s)(h:∀y H',R (.s d) y H'->K ((st.mr N V d H').put (Z d) (y.tr (mv V N)))):
  qe X ⟨Z d,.call ⟨.value (.func f),args,Ts⟩,ty,pos,aft,g⟩ K E st:=by
 refine kU N V (.inl hN) (.inr hext) (dC V N (.inr hext) (.inl hN) ?_)
 grind[uk,Mt]
theorem qEV(hd:d<X.n:=by first|(simp;done)|fail)(ha:args.toList.map (ev st)=bs:=by simp[fx];first|done|rfl)(hF:qX X.P X.gl f zl bs y6 R (dP Q))(hE:∀x s,il x->Q->E x s)(h:∀y H',R (.s d) y H'->K ((st.call d zl y6 H').put (Z d) y)):
  qe X ⟨Z d,.call ⟨.value (.func f),args,Ts⟩,ty,pos,aft,g⟩ K E st:=by
 subst ha;refine mY (D:=zl) (H:=y6) (R:=R) (E0:=dP Q) hF (oc hF.1 rfl) M ⟨rfl,λj a a' h h'=>?_⟩ (λ_ _=>rfl) (λn hn=>by cases hn) (λn hn=>absurd rfl hn) (λk i j _=>.inl rfl) (λe he=>qQ) (λx H' hR=>?_) (λx H' hx=>hE _ _ hx.1 hx.2)
 .rw [h]at h';obtain rfl:=sI h';exact .refl _
 simp_all
end
end Go.Hm
end
section
namespace Go.Hm
open Go Go.RowKit
variable{G G':Prop}{T:TypeId}{a:Go.Act}{fn:Func}{g:Gh}{n:Nat}{n1 n2:Nm}{rs:List ResultVar}{v:Value}{w:World}
section
variable{X:Ctx}{st:St}{K:St->Prop}{E:AV->St->Prop}{d:Nat}{ty:TypeId}{pos:String}{aft:Array Edge}{g:Option (Nat×Bool)}{f:Nat}{args:Array Operand}{Ts:Array TypeId}{bs:List AV}
theorem fm{x:AV}(hd:d<X.n:=by first|(simp;done)|fail)(ha:args.toList.map (ev st)=bs:=by simp[fx];first|done|rfl|exact(vt _).symm)
  (hF:qL X.P X.gl f bs (λ_ y _=>y=x))(h:K ((st.kill (.s d)).put (Z d) x)):qe X ⟨Z d,.call ⟨.value (.func f),args,Ts⟩,ty,pos,aft,g⟩ K E st:=by
 refine qe.pT (Iw (K:=λs=>∃H',s=(st.call d zl y6 H').put (Z d) x) hd ha hF ?_) ?_
 .rintro y H' rfl
  grind
 .rintro s ⟨H',rfl⟩;refine⟨(st.kill (.s d)).hp,λm ob e=>?_,?_⟩<;>simp_all[St.kill,St.nm,jN,St.put,St.call,r8]
def Jc{P:Program}{zs:List AV}(_hq:yO P T=Z zs)(h:qe X ⟨Z d,.alloc T,ty,pos,aft,g⟩ K E st):qe X ⟨Z d,.alloc T,ty,pos,aft,g⟩ K E st:=h
end
def zk(k:G')(h:jH G'->G:=by
 intro kk
 repeat'(first
  |refine wL ?_|refine bF ?_|refine aZ ?_|refine pS ?_|refine aY λK hK=>?_
  |((with_reducible refine uu hK ?_);clear hK K)|(with_reducible refine uu hK ?_)
  |(with_reducible first|refine wK ?_|refine cD ?_|refine cO ?_|refine cC ?_|refine bE ?_|refine bU ?_|refine fC ?_|refine cE qf ?_)
  |refine cQ ?_
  |refine bG ?_
  |(with_reducible refine kh ?_)
  |((with_reducible refine lP ?_);refine lw (h:=?_))
  |(with_reducible first|refine lQ ?_|refine mc ?_|refine nV (h:=?_)|refine nR (h:=?_)|refine nW (h:=?_)|refine a6 (h:=?_)|refine eQ (h:=?_)|refine gN (h:=?_)|refine bh (h:=?_)|refine sQ (h:=?_)|refine bH (h:=?_)|refine ii (h:=?_)|refine nS (h:=?_)|refine cR (h:=?_))
  |((with_reducible refine Jc b1 ?_);refine Pt (hq:=b1) (h:=?_))|(with_reducible refine gL (h:=?_))
  |((with_reducible refine zg c1 rfl ?_);refine uD (hF:=c1) (h:=?_))
  |((with_reducible refine zg c2 rfl ?_);refine uD (hF:=c2) (h:=?_))
  |((with_reducible refine zg c3 rfl ?_);refine uD (hF:=c3) (h:=?_))
  |((with_reducible refine zg c4 rfl ?_);refine uD (hF:=c4) (h:=?_))
  |((with_reducible refine zg c5 rfl ?_);refine uD (hF:=c5) (h:=?_))
  |((with_reducible refine zg c6 rfl ?_);refine uD (hF:=c6) (h:=?_))
  |((with_reducible refine zg d1 rfl ?_);refine kf (hF:=d1) (h:=?_))
  |((with_reducible refine zg d2 rfl ?_);refine kf (hF:=d2) (h:=?_))
  |((with_reducible refine zg d3 rfl ?_);refine kf (hF:=d3) (h:=?_))
  |((with_reducible refine zg d4 rfl ?_);refine kf (hF:=d4) (h:=?_))
  |((with_reducible refine zg e1 rfl ?_);refine lZ (hF:=e1) (h:=?_))
  |((with_reducible refine zg e2 rfl ?_);refine lZ (hF:=e2) (h:=?_))
  |((with_reducible refine zg p1 rfl ?_);refine fm (hF:=p1) (h:=?_))
  |((with_reducible refine zg p2 rfl ?_);refine fm (hF:=p2) (h:=?_))
  |((with_reducible refine zg p3 rfl ?_);refine fm (hF:=p3) (h:=?_))
  |((with_reducible refine zg p4 rfl ?_);refine fm (hF:=p4) (h:=?_))
  |((with_reducible refine zg p5 rfl ?_);refine fm (hF:=p5) (h:=?_))
  |((with_reducible refine zg p6 rfl ?_);refine fm (hF:=p6) (h:=?_))
  |(with_reducible refine wc (h:=?_))
  |(with_reducible refine yr (λht=>?_) (λht=>?_))
  |refine bi (h1:=?_)|refine cS (h1:=?_)
  |((with_reducible refine bk hK ?_);clear hK K)|(with_reducible refine bk hK ?_)
  |((with_reducible refine wh ?_);first|refine ij (h:=?_)|refine ng (h:=?_)|refine na (h:=?_)|refine nh (h:=?_))
  |((with_reducible refine wh ?_);refine nZ (h1:=λht=>?_) (h2:=λht=>?_))
  |refine gZ rfl ?_|refine mE ?_ ?_|refine mF ?_ ?_ ?_|(with_reducible refine aI ?_ ?_)|exact gF|refine gO (h2:=?_)
  |fail)
 first|exact kk.h|(revert hK;revert K;exact kk.h)):G:=h ⟨k⟩
def vk(k:G')(h:jH G'->G:=by
 intro kk K hK
 repeat'(first
  |refine wL ?_|refine bF ?_|refine aZ ?_|refine pS ?_|refine aY λK hK=>?_
  |((with_reducible refine uu hK ?_);clear hK K)|(with_reducible refine uu hK ?_)
  |(with_reducible first|refine wK ?_|refine cD ?_|refine cO ?_|refine cC ?_|refine bE ?_|refine bU ?_|refine fC ?_|refine cE qf ?_)
  |refine cQ ?_
  |refine bG ?_
  |(with_reducible refine kh ?_)
  |((with_reducible refine lP ?_);refine lw (h:=?_))
  |(with_reducible first|refine lQ ?_|refine mc ?_|refine nV (h:=?_)|refine nR (h:=?_)|refine nW (h:=?_)|refine a6 (h:=?_)|refine eQ (h:=?_)|refine gN (h:=?_)|refine bh (h:=?_)|refine sQ (h:=?_)|refine bH (h:=?_)|refine ii (h:=?_)|refine nS (h:=?_)|refine cR (h:=?_))
  |((with_reducible refine Jc b1 ?_);refine Pt (hq:=b1) (h:=?_))|(with_reducible refine gL (h:=?_))
  |((with_reducible refine zg c1 rfl ?_);refine uD (hF:=c1) (h:=?_))
  |((with_reducible refine zg c2 rfl ?_);refine uD (hF:=c2) (h:=?_))
  |((with_reducible refine zg c3 rfl ?_);refine uD (hF:=c3) (h:=?_))
  |((with_reducible refine zg c4 rfl ?_);refine uD (hF:=c4) (h:=?_))
  |((with_reducible refine zg c5 rfl ?_);refine uD (hF:=c5) (h:=?_))
  |((with_reducible refine zg c6 rfl ?_);refine uD (hF:=c6) (h:=?_))
  |((with_reducible refine zg d1 rfl ?_);refine kf (hF:=d1) (h:=?_))
  |((with_reducible refine zg d2 rfl ?_);refine kf (hF:=d2) (h:=?_))
  |((with_reducible refine zg d3 rfl ?_);refine kf (hF:=d3) (h:=?_))
  |((with_reducible refine zg d4 rfl ?_);refine kf (hF:=d4) (h:=?_))
  |((with_reducible refine zg e1 rfl ?_);refine lZ (hF:=e1) (h:=?_))
  |((with_reducible refine zg e2 rfl ?_);refine lZ (hF:=e2) (h:=?_))
  |((with_reducible refine zg p1 rfl ?_);refine fm (hF:=p1) (h:=?_))
  |((with_reducible refine zg p2 rfl ?_);refine fm (hF:=p2) (h:=?_))
  |((with_reducible refine zg p3 rfl ?_);refine fm (hF:=p3) (h:=?_))
  |((with_reducible refine zg p4 rfl ?_);refine fm (hF:=p4) (h:=?_))
  |((with_reducible refine zg p5 rfl ?_);refine fm (hF:=p5) (h:=?_))
  |((with_reducible refine zg p6 rfl ?_);refine fm (hF:=p6) (h:=?_))
  |(with_reducible refine wc (h:=?_))
  |(with_reducible refine yr (λht=>?_) (λht=>?_))
  |refine bi (h1:=?_)|refine cS (h1:=?_)
  |((with_reducible refine bk hK ?_);clear hK K)|(with_reducible refine bk hK ?_)
  |((with_reducible refine wh ?_);first|refine ij (h:=?_)|refine ng (h:=?_)|refine na (h:=?_)|refine nh (h:=?_))
  |((with_reducible refine wh ?_);refine nZ (h1:=λht=>?_) (h2:=λht=>?_))
  |refine gZ rfl ?_|refine mE ?_ ?_|refine mF ?_ ?_ ?_|(with_reducible refine aI ?_ ?_)|exact gF|refine gO (h2:=?_)
  |fail)
 first|exact kk.h|(revert hK;revert K;exact kk.h)):G:=h ⟨k⟩
section
variable{P:Program}{gl:Nat->Option (List AV)}{f:FuncId}{D:Nm->Bool}{bs:List AV}{H:Nm->Option AO}{R:Nm->AV->(Nm->Option AO)->Prop}
def PY{o:Oper}{N:Go.Act->World->Prop}{x y:Operand}(h:o.wp P a w N (λ_ _ _=>False))(ho:o.op=.store T x y)(hd:o.dst=Y):∃w1,(Instr.storeAt T (a.eval x) (a.eval y)).run P w=.ok () w1/\N a w1:=by
 unfold Oper.wp at h;simp only[execOp,ho,Sem.run_bind]at h
 cases hr:(Instr.storeAt T (a.eval x) (a.eval y)).run P w with
 |ok u w1=>
  rw[hr]at h;refine⟨w1,rfl,?_⟩;simp only[Result.andThen_ok,Sem.run_pure,Oper.upon_skip,hd]at h;exact h
 |halt s w1=>
  rw[hr]at h
  cases s<;>exact(show False from h).elim
def IB(P:Program)(D:Nm->Bool)(root:Nm)(rs:List ResultVar)(R:Nm->AV->(Nm->Option AO)->Prop)(st:St):Prop:=∃sbs xs,eU D root sbs/\aU P st rs=Z xs/\R root ((iY xs).tr (zH D sbs)) (vW D sbs st.hp)
def Sp(X:Ctx)(P:Program)(D:Nm->Bool)(root:Nm)(rs:List ResultVar)(R:Nm->AV->(Nm->Option AO)->Prop)(t F s1 s2:Nat)(n1 n2:Nm)(o1 o2:Oper):Ex->St->Prop
 |.ret,st=>st.tm t=.fn (.func F) [] [.pt n1 0,.pt n2 0]/\IB P D root rs R st
 |.b9 x,st=>st.tm t=.fn (.func F) [] [.pt n1 0,.pt n2 0]/\st.tm s1=.pt n1 0/\st.tm s2=.pt n2 0/\il x/\qe X o1 (qe X o2 (IB P D root rs R) (λ_ _=>False)) (λ_ _=>False) st
 |_,_=>False
theorem O3{C:Nat->Prop}{root:Nm}{st:St}{w':World}(hrs:fn.results.toList=rs)(hroot:∀m,Nm.under root m=B->D m=M)(hHD:∀m,H m≠Y->D m=B)(hD:∀m,D m=B->m.zj=M)
  (hR:Rw (jt P C w g H n gl) st a w')(hq:IB P D root rs R st):
  a.defers=[]/\∃v,(results fn a.tmps).run P w'=.ok v w'/\∃C' g' H' x,dH (vn g H) C w g D root H H' C' g' w'/\RV g' w' v x/\R root x H':=by
 have key:∀{st:St}{a:Go.Act}{w':World}{C':Nat->Prop}{g1:Gh}(sbs:List (Nm×Nm)),eU D root sbs->(∀b,C b->C' b)->(∀b,C' b->C b\/w.heap.size<=b\/vn g H b)->mA (jt P C w g H n gl) g1->Rg P (vn g H) C' w g1 st a w' ->
   ∃g',dH (vn g H) C w g D root H (vW D sbs st.hp) C' g' w'/\∀v x,RV g1 w' v x->RV g' w' v (x.tr (zH D sbs)):=by
  intro st a w' C' g1 sbs hok hC1 hC2 hext hr;have hinj:=GY (D:=D) hroot hok.AD hok.GV
  let g':Gh:={C:=g1.C,φ:=λm=>if D m||Nm.under root m then(g1.tr (zH D sbs)).φ m else g.φ m,κ:=λm=>if D m||Nm.under root m then(g1.tr (zH D sbs)).κ m else g.κ m}
  have img:∀m m',zH D sbs m=Z m'->(D m'||Nm.under root m')=B:=by
   intro m m' e;rcases GX hok.AD e with⟨h1,rfl⟩|⟨p,hp,hp2⟩
   .simp [h1]
   .simp [Nm.ie (hok.AD p hp) hp2]
  have gf:∀m m',zH D sbs m=Z m'->g'.φ m'=g1.φ m/\g'.κ m'=g1.κ m:=by
   grind[Gh.gK]
  have old:∀m' o',vW D sbs st.hp m'=Z o'->∃m o,zH D sbs m=Z m'/\st.hp m=Z o/\o'=o.tr (zH D sbs):=by
   intro m' o' e;unfold vW at e
   split at e
   .rename_i hm;obtain⟨o,e1,rfl⟩:=zq.1 e;exact⟨m',o,mb hD hm hok.src,e1,rfl⟩
   grind[zq]
  have hs:=hr.step (g':=g') (w':=w') (f:=zH D sbs) (hp':=vW D sbs st.hp) rfl gf rfl rfl rfl (qb _) (λ_ _=>rfl) (λ_ _ _=>rfl) (λm' o' e=>by
   grind)
  refine⟨g',⟨hC1,hC2,hs.inv,λm hm=>?_,λm h1 h2=>qx,λk i j hk=>?_⟩,λv x hv=>hr.rv (g':=g') rfl (λ_ _=>rfl) gf hv⟩
  .obtain⟨o',ho'⟩:=dM.1 hm
   grind
  .have hd:=hHD _ hk;obtain⟨x1,x2⟩:=gf _ _ (mb hD hd hok.src)
   have he:(jt P C w g H n gl).ext (.u k i j)=B:=by
    obtain⟨o',ho'⟩:=dM.1 hk
    grind[jt]
   obtain⟨y1,y2⟩:=hext k i j he;exact⟨x1.trans y1,x2.trans y2⟩
 obtain⟨C',g1,h1,h2,_,_,h5,hr⟩:=hR;obtain⟨sbs,xs,hok,hx,hRx⟩:=hq;obtain⟨g',k1,k2⟩:=key sbs hok h1 h2 h5 hr;obtain⟨v,hrun,hv⟩:=O0 (fn:=fn) hr (by rw[hrs];exact hx);exact⟨hr.defers,v,hrun,C',g',_,_,k1,k2 v _ hv,hRx⟩
theorem O1{F:FuncId}(h:RV g w v (.fn (.func F) [] [.pt n1 0,.pt n2 0])):
  ∃b1 b2,v=.func (.func F) #[] #[.pointer (Z ⟨b1,0,Y⟩),.pointer (Z ⟨b2,0,Y⟩)]/\g.φ n1=Z b1/\g.φ n2=Z b2:=by
 cases h with
 |fn _ vs us _ _ l1 l2 r1 r2=>
  obtain rfl:=bN (by simpa using l1);rcases us with _|⟨u1,_|⟨u2,_|⟨u3,tl⟩⟩⟩
  .simp at l2
  .simp at l2
  .have q1:=r2 0 u1 _ rfl rfl;have q2:=r2 1 u2 _ rfl rfl
   cases q1 with
   |pt _ _ b1 k1=>
   cases q2<;>grind
  simp_all
theorem O2{n:Nm}(h:RV g w v (.pt n 0)):∃b,v=.pointer (Z ⟨b,0,Y⟩)/\g.φ n=Z b:=by
 cases h<;>grind
theorem qX.Wx{c:Code}{t F s1 s2:Nat}{T1 T2:TypeId}{v1 v2:Value}{o1 o2:Oper}
  (hf:P.funcs[f]?=Z fn)(hb:fn.body=Z c)(hname:(fn.name == "runtime.NumGoroutine")=M)(hrs:fn.results.toList=rs)(hn:fn.ntmps=n)(hle:O bs<=n)(hD:∀m,D m=B->m.zj=M)(hF:ly P F)
  (ho1:o1.op=.store T1 (.tmp s1) (.const v1))(hd1:o1.dst=Y)(ho2:o2.op=.store T2 (.tmp s2) (.const v2))(hd2:o2.dst=Y)
  (idle:∀(b1 b2:Nat)(w:World),CallsD P F #[.pointer (Z ⟨b1,0,Y⟩),.pointer (Z ⟨b2,0,Y⟩)] .returning w λe u' w'=>e=.returned (.tuple #[])/\u'=.returning/\w'=w)
  (catch_:∀(b1 b2:Nat)(ty:TypeId)(pv:Value)(w w1 w2:World),(Instr.storeAt T1 (.pointer (Z ⟨b1,0,Y⟩)) v1).run P w=.ok () w1->(Instr.storeAt T2 (.pointer (Z ⟨b2,0,Y⟩)) v2).run P w1=.ok () w2 ->
    CallsD P F #[.pointer (Z ⟨b1,0,Y⟩),.pointer (Z ⟨b2,0,Y⟩)] (.panicking [{v:=.iface ty pv,recovered:=M}]) w λe u' w'=>e=.returned (.tuple #[])/\u'=.panicking [{v:=.iface ty pv,recovered:=B}]/\w'=w2)
  (h:∀C w g root,(∀m,Nm.under root m=B->D m=M)->∀a w',Rw (jt P C w g H n gl) (w4 bs H n gl) a w'->c.wp P (pG (jt P C w g H n gl) t (Sp (jt P C w g H n gl) P D root rs R t F s1 s2 n1 n2 o1 o2)) a w'):qX P gl f D bs H R qw:=by
 refine⟨⟨fn,hf,hname,qx⟩,λroot C w g args hroot hru hHD hinv hgl hsz hargs=>?_⟩
 have hstart:Rw (jt P C w g H n gl) (w4 bs H n gl) {tmps:=args++Array.replicate (fn.ntmps-args.size) undef,defers:=[]} w:=by
  refine⟨C,g,λ_ h=>h,λ_ h=>.inl h,rfl,rfl,λ_ _ _ _=>⟨rfl,rfl⟩,hinv,rfl,?_,?_,hgl⟩
  .grind[w4]
  .intro t;simp only[w4];by_cases ht:t<args.size
   .have h1:bs[t]?=Z (bs[t]' qA):=gE _
    have h2:(args++Array.replicate (fn.ntmps-args.size) undef).getD t undef=args[t]:=by
     rw[oB,Array.getElem?_append_left ht,mI ht];rfl
    grind
   .have h1:bs[t]?=Y:=eX qA
    have h2:(args++Array.replicate (fn.ntmps-args.size) undef).getD t undef=undef:=by
     rw[oB,Array.getElem?_append_right qA,Array.getElem?_replicate]
     grind
    rw[h2,bO,h1];exact RV.sc _
 refine calls_of_wp_defers hf hb (wp_mono (h C w g root hroot _ _ hstart) λe a w' he=>?_)
 have inv:∀b1 b2:Nat,∀w0:World,(invoke (.fn (.func F) #[.pointer (Z ⟨b1,0,Y⟩),.pointer (Z ⟨b2,0,Y⟩)]) (#[]++#[])).run P w0=.ok (.enter F #[.pointer (Z ⟨b1,0,Y⟩),.pointer (Z ⟨b2,0,Y⟩)]) w0:=by
  grind[invoke,EK]
 cases e with
 |ret=>
  obtain⟨st,⟨hdf,hR⟩,hfn,hq⟩:=he;obtain⟨hd0,v,hrun,hrest⟩:=O3 hrs hroot hHD hD hR hq
  have hv:∃b1 b2,a.tmps.getD t undef=.func (.func F) #[] #[.pointer (Z ⟨b1,0,Y⟩),.pointer (Z ⟨b2,0,Y⟩)]:=by
   obtain⟨C',g1,_,_,_,_,_,hr⟩:=hR;have hs:=hr.dG t;rw[hfn]at hs;obtain⟨b1,b2,e,_⟩:=O1 hs;exact⟨b1,b2,e⟩
  obtain⟨b1,b2,hv⟩:=hv;rw[hv]at hdf
  show Leaves P fn a.tmps _ a.defers .returning w'
  rw[hdf];refine leaves_cons qB (inv b1 b2 w') ((idle b1 b2 w').mono ?_);rintro e u' w'' ⟨rfl,rfl,rfl⟩;exact⟨v,hrun,hrest⟩
 |panic ch=>
  obtain⟨st,v,x,⟨hdf,hRV⟩,rfl,hfn,hs1,hs2,hbad,hop⟩:=he;obtain⟨C',g1,q1,q2,q3,q4,q5,hr,hvx⟩:=hRV;have hR:Rw (jt P C w g H n gl) st (wd a) w':=⟨C',g1,q1,q2,q3,q4,q5,hr⟩;obtain⟨b1,b2,hv,k1,k2⟩:=O1 (by have:=hr.dG t;rwa[hfn]at this)
  have e1:(wd a).eval (.tmp s1)=.pointer (Z ⟨b1,0,Y⟩):=by
   have:=hr.dG s1;rw[hs1]at this;obtain⟨b,e,hb⟩:=O2 this;rw[k1]at hb;obtain rfl:=sI hb;exact e
  have e2:(wd a).eval (.tmp s2)=.pointer (Z ⟨b2,0,Y⟩):=by
   have:=hr.dG s2;rw[hs2]at this;obtain⟨b,e,hb⟩:=O2 this;rw[k2]at hb;obtain rfl:=sI hb;exact e
  obtain⟨w1,r1,st1,hR1,hop2⟩:=PY (hop (wd a) w' (λ_ _ _=>False) hR (λ_ _ _ _ _ h=>h.elim)) ho1 hd1;obtain⟨w2,r2,st2,hR2,hq⟩:=PY (hop2 (wd a) w1 (λ_ _ _=>False) hR1 (λ_ _ _ _ _ h=>h.elim)) ho2 hd2;rw[e1]at r1;rw[e2]at r2;obtain⟨hd0,u,hrun,hrest⟩:=O3 hrs hroot hHD hD hR2 hq;obtain⟨ty,y,rfl,_⟩:=hbad
  cases hvx with
  |jL _ pv _ hpv=>
   have hv':a.tmps.getD t undef=.func (.func F) #[] #[.pointer (Z ⟨b1,0,Y⟩),.pointer (Z ⟨b2,0,Y⟩)]:=hv;rw[hv']at hdf
   show Leaves P fn a.tmps _ a.defers (.panicking _) w'
   rw[hdf];refine leaves_cons qB (inv b1 b2 w') ((catch_ b1 b2 ty pv w' w1 w2 r1 r2).mono ?_);rintro e u' w'' ⟨rfl,rfl,rfl⟩;exact⟨u,hrun,hrest⟩
 |normal=>obtain⟨_,_,hQ⟩:=he;exact hQ.elim
 |exit id=>obtain⟨_,_,hQ⟩:=he;exact hQ.elim
 |goto l=>obtain⟨_,_,hQ⟩:=he;exact hQ.elim
 |outgrown=>exact he.elim
end
end Go.Hm
end
section

end
section
namespace Go.Hm
open Go Go.RowKit
variable{c:UInt8}{s:qZ}
@[simp]theorem xrows_cln{ws:List qZ}:(uJ ws).all (λr=>r.all AV.jX)=B:=by simp[uJ,AV.jX]
@[simp]theorem bldSt_eq{T:TypeId}{d:Nat}{st:St}:FH T d st=((st.kill (.s d)).zW (.s d) (.uP T 2 B [[.sc (.pointer Y),.sc (.slice Y 0 0)]])).put (Z d) (.pt (.s d) 0):=rfl
section
variable{n:Int}{ns:List Int}{s:qT}{k:qY}{p:qC}{w:qZ}{ls:List qZ}{b i:Nat}
theorem B3(h:0<=n/\n<=99):O (vL n)<=2:=by
 obtain⟨m,rfl⟩:∃m:Nat,n=m:=⟨n.toNat,qA⟩
 grind[xf,HK,Dr]
theorem qEF:uS w (ns++[n])=uS w ns++32::vL n:=by simp[uS]
theorem qEG(hi:ns[i]?=Z n):uS w (ns.take (i+1))=uS w (ns.take i)++32::vL n:=by
 grind[vd,qEF]
theorem Iq(h:cV ns):O (uS w ns)<=O w+3*O ns:=by
 induction ns with
 |nil=>simp[uS]
 |cons n ns ih=>
  have h1:=ih λx hx=>h x (by simp[hx]);have h2:=B3 (h n qB)
  grind[uS]
def qBg(h:cV ns):cV (ns.take i):=λx hx=>h x (mH hx)
theorem NK:O (em s)<=3:=by
 grind[em]
def PU:∀i,i<12->0<O (ye.getD i [])/\O (ye.getD i [])<=8:=qf
theorem On(h:vb s):0<O (cK s)/\O (cK s)<=17:=by
 have h1:=PU s.kind.toNat (by have:=h.kind;omega)
 grind[Iq,vb.NJ,NK,cK,uS]
def Gt:y5 10 (ls++[w])=y5 10 ls++(w++[10]):=tX
theorem Gs(h:∀w∈ls,O w<=100):O (y5 10 ls)<=101*O ls:=by
 induction ls<;>grind[y5]
structure iu(p:qC):Prop where
 bg:gY p
 len:O p<=7
 par:∀k∈p,O k.params<=1
 body:∀k∈p,O k.body<=1048576
theorem iu.of(hp:zi p)(hs:jm p):iu p:=by
 refine⟨.of hp,hp.sh.len.2,λk hk=>?_,λk hk=>?_⟩
 .obtain⟨i,hi⟩:=ko hk;have h0:=hp.sh.head i k hi
  grind
 .obtain⟨i,hi⟩:=ko hk;exact(hs.vu hi).body
theorem Om(h:sX k)(hp:O k.params<=1):0<O (aV k)/\O (aV k)<=17:=by
 grind[B3,sX.parent,Iq,uS,aX,aW,sX.params,aV,fK,cM]
def wo(p:qC)(b:Nat):List qZ:=((p.mapIdx lE).take b).flatten
def D0:wo p 0=[]:=rfl
theorem G4(hk:p[b]?=Z k):wo p (b+1)=wo p b++lE b k:=by
 grind[wo,vd]
theorem G3:wo p (O p)=lN p:=by
 grind[wo,lN,jg]
def wj(b:Nat)(k:qY)(i:Nat):List qZ:=(if b=0 then[]else[aV k])++(k.body.take i).map cK
def Jo:wj b k (O k.body)=lE b k:=by simp[wj,lE]
theorem R9(hs:k.body[i]?=Z s):wj b k (i+1)=wj b k i++[cK s]:=by
 grind[wj,vd]
theorem Jp(hp:iu p)(hk:p[b]?=Z k):(∀w∈wj b k i,O w<=100)/\O (wj b k i)<=1048577:=by
 have hm:=gM hk;constructor
 .intro w hw;unfold wj at hw;rw[yI]at hw;rcases hw with hw|hw
  .split at hw
   .cases hw
   .rw [vG]at hw;subst hw;have:=(Om (hp.bg.jK b k hk qA) (hp.par k hm)).2;omega
  .obtain⟨s,hs,rfl⟩:=wi.1 hw;have:=(On (hp.bg.eM k hm s (mH hs))).2;omega
 .have:=hp.body k hm
  grind[wj]
theorem DZ(hp:iu p):∀b,b<=O p->(∀w∈wo p b,O w<=100)/\O (wo p b)<=1048577*b
 |0,_=>by simp[D0]
 |b+1,hb=>by
  obtain⟨h1,h2⟩:=DZ hp b qA;obtain⟨k,hk⟩:∃k,p[b]?=Z k:=⟨_,gE qA⟩;rw[G4 hk,<- Jo]
  grind[Jp]
theorem TY(hp:iu p)(hk:p[b]?=Z k):O (y5 10 (wo p b++wj b k i))<=1000000000:=by
 grind[DZ,Jp,iu.len,Gs]
theorem TZ(hp:iu p)(hb:b<=O p):O (y5 10 (wo p b))<=1000000000:=by
 grind[DZ,iu.len,Gs]
end
section
variable{X:Ctx}{st:St}{K:St->Prop}{E:AV->St->Prop}{ty:TypeId}{pos:String}{aft:Array Edge}{g:Option (Nat×Bool)}{dst:Option Nat}{x:Operand}{t:TypeId}{y:AV}
theorem AG(hx:ev st x=.jL t y:=by simp[fx];first|done|rfl)(h:E (.jL t y) st):qe X ⟨dst,.panic x,ty,pos,aft,g⟩ K E st:=by
 intro a w Q hR hQ;have hR':=hR;obtain⟨C,g1,h1,h2,h3,h4,h5,hg⟩:=hR;have hv:=hg.ev x;rw[hx]at hv;have hv':=hv;generalize hu:a.eval x=u at hv
 cases hv with
 |jL _ v _ hv1=>
  have hrun:(execOp a.eval (⟨dst,.panic x,ty,pos,aft,g⟩:Oper)).run X.P w=.halt (.panic (.iface t v)) w:=by
   simp[execOp,hu,run_panic_iface]
  unfold Oper.wp;rw[hrun,Oper.upon_panic];refine hQ _ w st (.jL t y) ⟨C,g1,h1,h2,h3,h4,h5,hg,?_⟩ h
  simp_all
end
theorem Ss(hl:O s<=1)(h:∀c∈s,48<=c.toNat/\c.toNat<=57):vJ s<=9:=by
 rcases s with _|⟨a,_|⟨b,l⟩⟩<;>grind[vJ]
theorem xy:O (zO c s)<=O s+1:=by
 induction s<;>grind[zO]
theorem sJ:∀w∈zO c s,O w<=O s:=by
 induction s<;>grind[zO]
def XE(K:St->Prop):Ex->St->Prop
 |.normal,s=>K s
 |_,_=>False
section
variable{X:Ctx}{st:St}{K:St->Prop}{E:AV->St->Prop}{d f:Nat}{ty:TypeId}{pos:String}{aft:Array Edge}{g:Option (Nat×Bool)}{args:Array Operand}{Ts:Array TypeId}{bs:List AV}{R:Nm->AV->(Nm->Option AO)->Prop}{Q:Prop}
def qDu{x y:Code}{Q:Exit->Go.Act->World->Prop}(h:jJ X x (XE λs=>∀a w,Rw X s a w->y.wp X.P Q a w) st){a:Go.Act}{w:World}(hR:Rw X st a w):(Code.seq x y).wp X.P Q a w:=by
 refine wp_seq (wp_mono (h a w hR) λe a' w' he=>?_)
 cases e with
 |normal=>obtain⟨st',hR',hQ⟩:=he;exact hQ a' w' hR'
 |exit id=>obtain⟨_,_,hQ⟩:=he;exact hQ.elim
 |goto l=>obtain⟨_,_,hQ⟩:=he;exact hQ.elim
 |ret=>obtain⟨_,_,hQ⟩:=he;exact hQ.elim
 |panic ch=>obtain⟨_,_,_,_,_,hQ⟩:=he;exact hQ.elim
 |outgrown=>exact he.elim
theorem qEW(hd:d<X.n:=by first|(simp;done)|fail)(ha:args.toList.map (ev st)=bs:=by simp[fx];first|done|rfl)(hF:qX X.P X.gl f zl bs y6 R (dP Q))(hE:∀x H',il x->Q->E x (st.call d zl y6 H'))(h:∀y H',R (.s d) y H'->K ((st.call d zl y6 H').put (Z d) y)):
  qe X ⟨Z d,.call ⟨.value (.func f),args,Ts⟩,ty,pos,aft,g⟩ K E st:=by
 subst ha;refine mY (D:=zl) (H:=y6) (R:=R) (E0:=dP Q) hF (oc hF.1 rfl) M ⟨rfl,λj a a' h h'=>?_⟩ (λ_ _=>rfl) (λn hn=>by cases hn) (λn hn=>absurd rfl hn) (λk i j _=>.inl rfl) (λe he=>qQ) (λx H' hR=>?_) (λx H' hx=>?_)
 .rw [h]at h';obtain rfl:=sI h';exact .refl _
 .simp_all
 .exact hE x H' hx.1 hx.2
end
end Go.Hm
end
section
namespace Go.Hm
open Go
theorem UX{H:Type}{enc:TypeId×Value->H}{a:Assume}{C:Checked}{os:Os}{f:FuncId}{fn:Func}{s:ChangeSpec}{conds:List PathCond}{apart fresh handsOn again:Bool}{X:World->Array Value->Prop}
  (hX:∀(w w':World)(args:Array Value),w.heap=w'.heap->X w args->X w' args)
  (own:ownKnob C.prog.godebug=Y)(started:os.Started)(noInit:C.prog.inits.idxOf? f=Y)(hfn:C.prog.funcs[f]?=Z fn)
  (witness:∃(w:World)(tape:Tape)(i:Input),w.os=os/\(w.forCall tape i).Shaped C.prog/\i.vars=[]/\Input.okWide C.prog (w.forCall tape i) .any w.heap.size f i /\
    ((s.pre enc C.prog fn conds apart (w.forCall tape i).memory i.args/\X (w.forCall tape i).memory i.args)/\sizedMet enc C.prog fn (OpenSpec.ofChange s) apart (w.forCall tape i).memory i.args)/\a.holds C.prog (lone (Frame.enter C.prog f i.args .normal) [] (w.forCall tape i)))
  (contract:∀(W:World)(base:Nat)(args:Array Value)(ds gs:List (DataW H))(before:List MemPlace),W.ShapedOpen C.prog ->
    (∀(j:Nat)t v,fn.params[j]?=Z t->args[j]?=Z v->Value.okWide C.prog W .any base t v) ->
    DataW.Whole enc C.prog fn.params.toList s.vars apart W args.toList ds gs before ->
    conds.all (PathCond.test C.prog ⟨fn.params.toList,ds,s.plain.varTypes C.prog,gs⟩)=B ->
    (DataW.weightsEach C.prog (fn.params.toList++s.plain.varTypes C.prog) (ds++gs)).all (·<=reachBytes)=B->X W args ->
    a.holds C.prog (lone (Frame.enter C.prog f args .normal) [] W) ->
    Calls C.prog f args W λe W'=>∃v,e=.returned v/\s.post enc C.prog fn apart fresh handsOn again W args v W'):
  ReturnsInHanded a C os f .any (λw args=>(s.pre enc C.prog fn conds apart w args/\X w args)/\sizedMet enc C.prog fn (OpenSpec.ofChange s) apart w args) (s.post enc C.prog fn apart fresh handsOn again):=by
 refine returnsInHanded_of_calls own started noInit witness ?_;intro w tape i _ hsh _ hok hpre hholds;obtain⟨_,_,_,fn',hfn',_,_,_,_,hval⟩:=hok;have e:fn'=fn:=sI (hfn'.symm.trans hfn);subst e;obtain⟨⟨⟨ds,gs,before,hw,hc⟩,hx⟩,hz⟩:=hpre;have hw':=DataW.Whole.of_heap (w':=w.forCall tape i) cj hw;refine(contract (w.forCall tape i) w.heap.size i.args ds gs before hsh hval hw' hc (hz.weights hw) (hX _ _ _ cj hx) hholds).mono λe W'⟨v,he,hp⟩=>?_
 grind[ChangeSpec.post_blind]
end Go.Hm
end
