import Derived.Test.YtjgpejikjhojcaaGreatDoorD26
import Derived.RangeFuncFrom
import Derived.RangeFuncNested
import Derived.RangeFuncBound
import Derived.RangeFuncCalls
import Derived.RangeFuncLeaves
import Derived.Shelf.Abstract
import Derived.Shelf.RegionOpen
import Derived.OwnWalkIn
import Derived.TacticsInMore
import Derived.LoopNIn
import Derived.LoopIn
import Derived.Test.YtjgpejikjhojcaaGreatDoorD25
set_option linter.all false
set_option maxRecDepth 100000
set_option maxHeartbeats 4000000
open Option renaming some->Z,none->Y
open Bool renaming true->B,false->M
open List renaming length->O

section
namespace Go.Proofs.YtjgpejikjhojcaaGreatDoor
open Go Go.Hm Go.Proofs Tryz
abbrev Nl:qV:=xq<|.q 5<|.q 7<|.q 9<|.l 4 [9,7,5,2,1,0]<|.l 6 [9,7,2,1,0]<|.l 8 [9,2,1,0]<|.l 10 [2,1,0]<|.q 11<|.l 12 []<|.l 13 []<|.done
def ov{A G G2:Prop}(k:G2)(x:A)(h:A->jH G2->G:=by
 intro fx kk;refine qK ?_
 repeat((first|refine qP (id:=5) Nl mixed ?_);refine zC ?_;refine qK ?_)
 exact kk.h):G:=h x ⟨k⟩
def EQ(gl)(p:qC)(hs:jm p)(hh:ze p)(hn:∀k∈p,nr k):qL prog gl 60 [jB p] (λr y H'=>y=.hs r 1 0 (O p)/\gU H' r p (O p)):=by
 have hpl:=hs.len;refine qL.q9 func60 [.tmp 2] ntmps60 λC w g root=>?_;refine ov ?_<|qW;refine zK (λn st=>∃i:Nat,n=O p-i/\i<=O p/\st.tm 1=.pt (.s 1) 0/\st.hp (.s 1)=Z (.row 1 [[j6 p]])/\st.tm 3=.hs (.s 3) 1 0 (O p)/\st.tm 14=j6 p/\st.tm 15=iv (O p)/\st.tm 16=iv i/\gU st.hp (.s 3) p i) (O p) ?_ ?_
 .refine⟨0,qB,qB,qB,qB,qB,qB,qB,qB,⟨?_,λj k hj=>qA⟩⟩;rw[<- qAt];simp[au]
 rintro n st - - ⟨i,rfl,hi,h1,hp1,h3,h14,h15,h16,⟨ho1,ho2⟩⟩;refine ov ?_<|ql h14 h15<|h16;refine yk yq (λht=>?_) (λhf=>?_)
 .have hlt:i<O p:=yJ;obtain⟨k,hk⟩:=gX hlt;have hkm:=gM hk;obtain⟨hkp,hkb⟩:=hs.vu hk;clear ht
  all_goals have fx:=qz h14 h15 h16<|hk
  repeat'(first
   |refine wL ?_|refine bF ?_|refine aZ ?_|refine aY λK hK=>?_
   |((with_reducible refine uu hK ?_);clear hK K)
   |(with_reducible first|refine wK ?_|refine cD ?_|refine cO ?_|refine cC ?_|refine bE ?_|refine bU ?_|refine fC ?_|refine cE qf ?_)
   |refine cQ ?_
   |refine bG ?_
   |(with_reducible first|refine kh ?_|refine a6 (h:=?_)|refine eQ (h:=?_)|refine gL (h:=?_)|refine gN (h:=?_)|refine ii (h:=?_)|refine nS (h:=?_))
   |((with_reducible refine dB 96 rfl ?_);refine zL (hF:=Δ _ k (hn k hkm) (hs.vu hk)) (h:=?_))
   |((with_reducible refine dB 97 rfl ?_);refine zL (hF:=Re _ k (hn k hkm) (hs.vu hk)) (h:=?_))
   |((with_reducible refine dB 98 rfl ?_);refine zL (hF:=Sg _ k _ (hn k hkm) (hs.vu hk)) (h:=?_))
   |(with_reducible refine wc (h:=?_))
   |refine bi (h1:=?_)|refine cS (h1:=?_)
   |(refine qP (id:=5) Nl mixed λK hK=>?_)
   |((with_reducible refine bk hK ?_);clear hK K)
   |((with_reducible refine wh ?_);first|refine ij (h:=?_)|refine ng (h:=?_)|refine na (h:=?_)|refine nh (h:=?_))
   |((with_reducible refine wh ?_);refine nZ (h1:=λht=>?_) (h2:=λht=>?_))
   |refine gZ rfl ?_|refine mE ?_ ?_|refine mF ?_ ?_ ?_|(with_reducible refine aI ?_ ?_)|exact gF|refine gO (h2:=?_)
   |fail)
  all_goals try clear fx
  refine zK (λn st=>∃j:Nat,n=O k.params-j/\j<=O k.params/\st.tm 1=.pt (.s 1) 0/\st.hp (.s 1)=Z (.row 1 [[j6 p]])/\st.tm 3=.hs (.s 3) 1 0 (O p)/\st.tm 14=j6 p/\st.tm 15=iv (O p)/\st.tm 16=iv i/\gU st.hp (.s 3) p i/\st.tm 4=iv i/\st.tm 5=.pt (.s 5) 0/\st.hp (.s 5)=Z (.row 4 [k.cells])/\st.tm 6=.pt (.s 6) 0/\st.hp (.s 6)=Z (.row 43 [yb i k au (k.params.take j)])/\st.tm 35=jO k.params/\st.tm 36=iv (O k.params)/\st.tm 37=iv j) (O k.params) ?_ ?_
  .refine⟨0,qB,qB,zY,vY,jr,by simp[h14],tV,by simp[h16],⟨?_,λj q hj hq=>?_⟩,qB,qB,qB,qB,?_,qB,qB,qB⟩
   .simp [ho1]
   .simp [ho2 j q hj hq]
   .simp [yb,au]
    rfl
  clear h1 hp1 h3 h14 h15 h16 ho1 ho2;rintro n st - - ⟨j,rfl,hj,h1,hp1,h3,h14,h15,h16,⟨ho1,ho2⟩,h4,h5,hp5,h6,hp6,h35,h36,h37⟩;refine ov ?_<|ql h35 h36<|h37;refine yk yq (λht=>?_) (λhf=>?_)
  .have hlj:j<O k.params:=yJ;obtain⟨y,hy⟩:=gX hlj;have hto:=(hn k hkm).params y (gM hy);obtain⟨x,rfl⟩:∃x:Nat,y=x:=⟨y.toNat,qA⟩;have hx8:(x:Int)<8:=qA;clear ht;refine ov ?_<|zy h35 h36 h37 hy h6 hp6<|hx8;refine⟨O k.params-(j+1),qA,j+1,qB,qA,zY,vY,jr,by simp[h14],tV,by simp[h16],⟨?_,λj q hj hq=>?_⟩,vO,jh,kw,vZ,?_,by simp[h35],by simp[h36],zr⟩
   .simp [ho1]
   .simp [ho2 j q hj hq]
   .rw [vd,hy];simp[<- qAy (y:=(x:Int)) rfl (by omega:x<8)]
  .have hge:j=O k.params:=by
    have:¬j<O k.params:=vP;omega
   subst hge;rw[kC]at hp6;clear hf hj;obtain⟨hq1,hq2,hq3⟩:=hh i k hk;refine ov ?_<| h4;refine yk yq (λht=>?_) (λhf=>?_)
   .have hi0:0<i:=yJ;obtain⟨q,hq⟩:∃q:Nat,k.parent=q:=⟨k.parent.toNat,qA⟩;have hqi:q<i:=qA;have hqp:q<O p:=qA;have hsg:=Bo (n:=.s 3) (i:=i) hqp;rw[if_pos hqi]at hsg;obtain⟨_,hse⟩:=gS hsg;refine ov ?_<|qg h3 ho1 h4 h5 hp5 h6 hp6 hq hsg hse hlt hqp<|aI hqi<|h16;refine⟨O p-(i+1),qA,i+1,rfl,qA,zY,vY,jr,by simp[h14],tV,by simp[h16];exact qk qA qA,⟨?_,λj r hj hr=>?_⟩⟩
    .simp [ho1,O6]
    .rcases CY.1 hj with hlj|rfl
     .have hne:¬j=i:=qA;have hrp:=(hh j r hr).2.1;have ho:=XM (n:=.s 3) (a:=6) (i:=i) (q:=r.parent) qB qB qA;simp[ho2 j r hlj hr,hne,ho]
     .rw [hk]at hr;obtain rfl:=sI hr;have hne:¬q=j:=qA;have hso:=qBC (i:=j) (k:=k) (o:=au) (o':=.pt (.c (.s 3) q 0) 0) (ps:=k.params);simp[hq,XN,hp6,hne,hso]
   .have hi0:i=0:=by
     have:¬0<i:=vP;omega
    refine ov ?_<|zy h3 ho1 h4 h6 hp6 hlt<|h16;refine⟨O p-(i+1),qA,i+1,rfl,qA,zY,vY,jr,by simp[h14],tV,by simp[h16];exact qk qA qA,⟨?_,λj r hj hr=>?_⟩⟩
    .simp [ho1,O6]
    .obtain rfl:j=i:=qA;rw[hk]at hr;obtain rfl:=sI hr;rw[XO qA];simp[hp6]
 .have hge:i=O p:=by
   have:¬i<O p:=vP;omega
  subst hge;refine ov ?_<| h3;refine qE [(.s 2,root)] (.one rfl) qD ⟨qB,⟨?_,λj r hj hr=>?_⟩⟩
  .simp [ho1,Bp (n:=.s 2) (m:=root) (f:=zH zl [(.s 2,root)]) qB]
  .simp [ho2 j r hj hr,xj (n:=.s 2) (m:=root) (f:=zH zl [(.s 2,root)]) qB]
theorem GN(gl)(i:Nat)(k:qY)(o:AV)(ps:List Int)(x:Nat)(hx:x<8):qL prog gl 111 [.el (yb i k o ps) 0,iv x] (λ_ y _=>y=bv (decide ((x:Int)∈k.dc 9)||decide ((x:Int)∈k.dc 10))):=by
 have h8:(x:Int)<8:=qA;have hg:=EP (i:=i) (k:=k) (o:=o) (ps:=ps) hx;have hn:=Od (i:=i) (k:=k) (o:=o) (ps:=ps) hx;refine qL.q9 func111 [.tmp 4] ntmps111 λC w g root=>?_
 all_goals have fx:=ql h8 hg<|hn
 repeat'(first|refine zf ?_|refine λ(K:St->Prop)hK=>?_|(with_reducible refine yr (λht=>?_) (λht=>?_)))
 all_goals try clear fx
 all_goals refine qE [] .nil qD ?_
 all_goals simp_all
theorem IN(gl)(i:Nat)(k:qY)(o:AV)(ps:List Int)(x:Nat)(hx:x<8):qL prog gl 159 [.el (yb i k o ps) 0,iv x] (λ_ y _=>y=bv (k.kind != 0&&decide ((x:Int)∈k.bd)&&!(decide ((x:Int)∈k.dc 9)||decide ((x:Int)∈k.dc 10)))):=by
 have h8:(x:Int)<8:=qA;have hb:=Oc (i:=i) (k:=k) (o:=o) (ps:=ps) hx;refine qL.q9 func159 [.tmp 4] ntmps159 λC w g root=>?_
 all_goals have fx:=aI h8<|hb
 repeat'(first|refine zf ?_|refine λ(K:St->Prop)hK=>?_|refine zL (hF:=GN _ _ _ _ _ _ hx) (h:=?_)|(with_reducible refine yr (λht=>?_) (λht=>?_)))
 all_goals try clear fx
 all_goals refine qE [] .nil qD ?_
 all_goals simp_all
theorem qDg(gl)(i:Nat)(k:qY)(o:AV)(ps:List Int)(x:Nat)(hx:x<8):qL prog gl 165 [.el (yb i k o ps) 0,iv x] (λ_ y _=>y=bv (decide ((x:Int)∈k.rd)||decide ((x:Int)∈k.bd)||(decide ((x:Int)∈k.dc 9)||decide ((x:Int)∈k.dc 10)))):=by
 have h8:(x:Int)<8:=qA;have hb:=Oc (i:=i) (k:=k) (o:=o) (ps:=ps) hx;have hr:=qBB (i:=i) (k:=k) (o:=o) (ps:=ps) hx;refine qL.q9 func165 [.tmp 4] ntmps165 λC w g root=>?_
 all_goals have fx:=ql h8 hb<|hr
 repeat'(first|refine zf ?_|refine λ(K:St->Prop)hK=>?_|refine zL (hF:=GN _ _ _ _ _ _ hx) (h:=?_)|(with_reducible refine yr (λht=>?_) (λht=>?_)))
 all_goals try clear fx
 all_goals refine qE [] .nil qD ?_
 all_goals simp_all
end Go.Proofs.YtjgpejikjhojcaaGreatDoor
end
section
namespace Go.Proofs.YtjgpejikjhojcaaGreatDoor
open Go Go.Hm Go.Proofs Go.RowKit Go.Shelf Tryz
attribute [local go_sem] Oper.semAt_some
abbrev nn(g:Gh)(w0:World)(p:qC):={a:Option Addr×Nat // ∃q,p[a.2]?=Z q/\q.kind=1/\RV g w0 (.pointer a.1) (vB p a.2)}
def ru(v:Value)(W:World):Nat:=match v with
 |.pointer (Z a)=>(match W.cell? a with|some (.int _ j)=>j.toNat+1|_=>0)
 |_=>0
def Uo(n l Bn:Nat)(p:qC)(hh:ze p)(g:Gh)(w0:World)(hC:∀b,g.C b->b<w0.heap.size)(j0:Nat)(k0:qY)(hk0:p[j0]?=Z k0)(a0:Option Addr)(ha0:RV g w0 (.pointer a0) (vB p j0))(J Jx:List (nn g w0 p)->World->Prop)(hn:1<=n)
  (hY:∀pre x W,J pre W->O pre<O p->YieldAt Fence.wide (n-1) prog l #[.pointer x.1.1] W λe W'=>
    (e=.returned (.bool B)/\J (pre++[x]) W'/\Below w0.heap.size W W')\/(e=.returned (.bool M)/\Jx (pre++[x]) W'))
  (W:World)(hW:Below w0.heap.size w0 W)(hBn:W.cell? ⟨Bn,0,Y⟩=Z (.pointer a0))(h0:J [] W):
  CallsIn Fence.wide n prog 206 #[.func (.yield l) #[] #[],.pointer (Z ⟨Bn,0,Y⟩)] W λe W'=>(∃v,e=.returned v) /\
   ((∃ys,(∃j,j<0/\Path p k0.parent (ys.map (λy:nn g w0 p=>y.1.2)) j)/\J ys W')\/(∃pre,(∃j,Path p k0.parent (pre.map (λy:nn g w0 p=>y.1.2)) j)/\Jx pre W')):=by
 obtain⟨b0,o0,hb0,hs0⟩:=ha0.EO hh hk0;obtain rfl:a0=Z ⟨b0,o0,Y⟩:=by simpa using hb0
 obtain⟨a1,hc1,hr1⟩:=hs0.out;have hc1':W.cell? ⟨b0,o0+2,Y⟩=Z (.pointer a1):=(hW.cell (p:=⟨b0,o0+2,Y⟩) (hC b0 hs0.C)).trans hc1;refine callsIn_of_wp func206 rfl trivial ?_ rfl;simp only[ntmps206,List.size_toArray,fK,mG,Nat.reduceAdd,Nat.reduceSub,Array.replicate_succ,Array.replicate_zero,List.push_toArray,List.append_toArray,s7,gk]
 gi_wp2
 gi_loopw [3] (λv wr=>∃(pre:List (nn g w0 p))(j:Int),RV g w0 v (vB p j)/\(-1<=j/\j<O p)/\Path p k0.parent (pre.map (λy:nn g w0 p=>y.1.2)) j/\J pre wr/\Below w0.heap.size w0 wr) (λv wr=>ru v wr)
 case atStart=>
  have h1:=hh j0 k0 hk0;have h2:=(gS hk0).1;exact⟨[],k0.parent,hr1,qA,.nil _,h0,hW⟩
 case round=>
  obtain⟨pre,j,hr,hj,hpath,hJ,hB⟩:=hrel;by_cases hneg:j<0
  .obtain rfl:=hr.O7 hneg
   gi_wp2
   go_end0
   exact⟨⟨_,rfl⟩,.inl ⟨pre,⟨j,hneg,hpath⟩,hJ⟩⟩
  .obtain⟨j,rfl⟩:∃i:Nat,j=i:=⟨j.toNat,qA⟩;obtain⟨k,hk⟩:∃k,p[j]?=Z k:=⟨_,gE qA⟩;obtain⟨b,o,rfl,hs⟩:=hr.EO hh hk;have hb:=hC b hs.C;obtain⟨a2,hc2,hr2⟩:=hs.out;obtain⟨hp1,hp2,_⟩:=hh j k hk;have hv1:wr.cell? ⟨b,o+1,Y⟩=Z (.int .i64 k.kind):=(hB.cell (p:=⟨b,o+1,Y⟩) hb).trans hs.kind;have hv0:wr.cell? ⟨b,o,Y⟩=Z (.int .i64 j):=(hB.cell (p:=⟨b,o,Y⟩) hb).trans hs.idx;have hv2:wr.cell? ⟨b,o+2,Y⟩=Z (.pointer a2):=(hB.cell (p:=⟨b,o+2,Y⟩) hb).trans hc2
   have hlf:∀W',Below w0.heap.size w0 W'->ru (.pointer a2) W'<ru (.pointer (Z ⟨b,o,Y⟩)) wr:=by
    intro W' hB';have e:ru (.pointer (Z ⟨b,o,Y⟩)) wr=j+1:=by simp[ru,hv0]
    rw[e];by_cases hn:k.parent<0
    .have:(Value.pointer a2)=.pointer Y:=hr2.O7 hn;obtain rfl:a2=Y:=by simpa using this
     simp[ru]
    .obtain⟨q,hq⟩:∃q:Nat,k.parent=q:=⟨k.parent.toNat,qA⟩;obtain⟨r,hqr⟩:∃r,p[q]?=Z r:=⟨_,gE qA⟩;rw[hq]at hr2;obtain⟨b',o',e',hs'⟩:=hr2.EO hh hqr;obtain rfl:a2=Z ⟨b',o',Y⟩:=by simpa using e'
     have hb':=hC b' hs'.C;have:W'.cell? ⟨b',o',Y⟩=Z (.int .i64 q):=(hB'.cell (p:=⟨b',o',Y⟩) hb').trans hs'.idx;simp[ru,this];omega
   by_cases hk1:k.kind=1
   .rw [hk1]at hv1;have hlen:=hpath.len hh;have hjj:=(gS hk0).1;have hpp:=(hh j0 k0 hk0).2.1;simp only[rA]at hlen;obtain⟨fn,tmps,assign,body,hy,hR⟩:=hY pre ⟨(Z ⟨b,o,Y⟩,j),k,hk,hk1,hr⟩ wr hJ qA;dsimp only at hy
    gi_wp2
    refine hR.mono ?_;rintro e W3 (⟨rfl,hJ3,hk3⟩|⟨rfl,hJx3⟩)
    .have hB3:=hB.trans hk3;have hq3:W3.cell? ⟨b,o+2,Y⟩=Z (.pointer a2):=(hB3.cell (p:=⟨b,o+2,Y⟩) hb).trans hc2
     gi_wp2
     go_roundw
     case rel=>exact⟨_,k.parent,hr2,qA,by simpa using hpath.PN hk hk1,hJ3,hB3⟩
     case measure=>exact hlf _ hB3
    .gi_wp2
     refine bodyPost_ret (results_none rfl _ _ _) rfl ?_;exact⟨⟨_,rfl⟩,.inr ⟨_,⟨k.parent,by simpa using hpath.PN hk hk1⟩,hJx3⟩⟩
   .have hk2:(k.kind==1)=M:=Ck
    gi_wp2
    refine⟨λ_ h=>kv,?_⟩
    gi_wp2
    go_roundw
    case rel=>exact⟨_,k.parent,hr2,qA,hpath.qB2 hk hk1,hJ,hB⟩
    case measure=>exact hlf _ hB
def Up(n Bn:Nat)(p:qC)(hh:ze p)(g:Gh)(w0 w:World)(hC:∀b,g.C b->b<w0.heap.size)(j0:Nat)(k0:qY)(hk0:p[j0]?=Z k0)(a0:Option Addr)(ha0:RV g w0 (.pointer a0) (vB p j0))(hn:1<=n)
  (hw:Below w0.heap.size w0 w)(hBl:Bn<w.heap.size)(hc:w.cell? ⟨Bn,0,Y⟩=Z (.pointer a0)):
  SeqStopsK Fence.wide n prog 206 #[.pointer (Z ⟨Bn,0,Y⟩)] (λx:nn g w0 p=>#[Value.pointer x.1.1]) (Below w0.heap.size)
   (λys=>∃j,j<0/\Path p k0.parent (ys.map (λy:nn g w0 p=>y.1.2)) j) (λpre=>∃j,Path p k0.parent (pre.map (λy:nn g w0 p=>y.1.2)) j) (O p) w:=λl J Jx W hW _ _ hY h0=>
 Uo n l Bn p hh g w0 hC j0 k0 hk0 a0 ha0 J Jx hn hY W (hw.trans (hW.mono hw.size)) ((hW.cell (p:=⟨Bn,0,Y⟩) hBl).trans hc) h0
def Tz(n:Nat)(a0:Option Addr)(w:World):
  CallsIn Fence.wide n prog 158 #[.pointer a0] w λe w'=>e=.returned (.func (.func 206) #[] #[.pointer (Z ⟨w.heap.size,0,Y⟩)])/\w'=w.alloc (.cells #[.pointer a0] 129):=by
 refine callsIn_of_wp func158 rfl trivial ?_ rfl;simp only[ntmps158,List.size_toArray,fK,mG,Nat.reduceAdd,Nat.reduceSub,Array.replicate_succ,Array.replicate_zero,List.push_toArray,List.append_toArray,s7,gk]
 gi_wp2
 go_ret
 exact⟨rfl,rfl⟩
end Go.Proofs.YtjgpejikjhojcaaGreatDoor
end
section
namespace Go.Proofs.YtjgpejikjhojcaaGreatDoor
open Go Go.Hm Go.Proofs Go.RowKit Go.Shelf Tryz
variable{W:World}{a:Addr}{v:Value}
attribute [local go_sem] Oper.semAt_some
def SK{B':Nat}{t:TypeId}(h:W.heap[B']?=Z (.cells #[v] t (0,0))):W.cell? ⟨B',0,Y⟩=Z v/\W.frozen? ⟨B',0,Y⟩=M:=by
 constructor<;>simp[World.cell?,World.frozen?,h]
def GI(W:World)(v:Value)(t:TypeId):(W.alloc (.cells #[v] t)).cell? ⟨W.heap.size,0,Y⟩=Z v/\(W.alloc (.cells #[v] t)).frozen? ⟨W.heap.size,0,Y⟩=M:=SK (World.alloc_heap_new W _)
def GH(o:Obj)(h:W.cell? a=Z v):(W.alloc o).cell? a=Z v:=cell_kept h (World.grownBy_alloc W o Y) (λr e=>vi)
def Tu(o:Obj)(h:W.cell? a=Z v)(hf:W.frozen? a=M):(W.alloc o).frozen? a=M:=(frozen_kept h (World.grownBy_alloc W o Y) (λr e=>vi)).trans hf
def XS(n:Nat)(hn:3<=n)(p:qC)(hh:ze p)(hb0:∀k,p[0]?=Z k->k.kind≠1)(g:Gh)(w:World)(hC:∀b,g.C b->b<w.heap.size)(i:Nat)(k:qY)(hk:p[i]?=Z k)(a0:Option Addr)(ha:RV g w (.pointer a0) (vB p i))(x:Nat)(hx:x<8):
  CallsIn Fence.wide n prog 112 #[.pointer a0,.int .i64 x] w λe W'=>e=.returned (.int .i64 (yU p x (O p) k.parent))/\Below w.heap.size w W':=by
 have h1:1<=n:=qA;refine callsIn_of_wp_marks func112 rfl trivial ?_ rfl;simp only[ntmps112,List.size_toArray,fK,mG,Nat.reduceAdd,Nat.reduceSub,Array.replicate_succ,Array.replicate_zero,List.push_toArray,List.append_toArray,s7,gk]
 gi_wp2_with (refine⟨trivial,?_⟩;gi_at_call 158;refine(Tz (n-1) _ _).mono ?_;rintro e w' ⟨rfl,rfl⟩)
 have c0:=GI w (.int .i64 x) 3;have c1:=GI (w.alloc (.cells #[.int .i64 x] 3)) (.int .i64 0) 3;have c2:=GI ((w.alloc (.cells #[.int .i64 x] 3)).alloc (.cells #[.int .i64 0] 3)) (.pointer a0) 129;simp only[World.size_alloc]at c1 c2;have hB0:Below w.heap.size w (((w.alloc (.cells #[.int .i64 x] 3)).alloc (.cells #[.int .i64 0] 3)).alloc (.cells #[.pointer a0] 129)):=(((Below.refl _ w).alloc (qb _) _).alloc qB _).alloc qp _
 refine wpIn_rangeFunc_ownF rfl h1 (gf:=206) (lb:=#[.pointer (Z ⟨w.heap.size+1+1,0,Y⟩)]) rfl trivial (enters_of func206 qc rfl)
  (Up (n-1) (w.heap.size+1+1) p hh g w _ hC i k hk a0 ha qA hB0 qB c2.1) belowK_t (belowK_b qp) (Below.refl _ _) (λ_=>rfl)
  (λpre W=>((∀y∈pre,found p x y.1.2=Y)/\W.cell? ⟨w.heap.size,0,Y⟩=Z (.int .i64 x)/\W.cell? ⟨w.heap.size+1,0,Y⟩=Z (.int .i64 0)/\W.frozen? ⟨w.heap.size+1,0,Y⟩=M)/\Below w.heap.size w W)
  (λc pre W=>(c=.ret/\(∃l y r,pre=l++[y]/\(∀y∈l,found p x y.1.2=Y)/\found p x y.1.2=Z r/\W.cell? ⟨w.heap.size+1,0,Y⟩=Z (.int .i64 r)))/\Below w.heap.size w W)
  (OwnFrom.and (Own.from (λs A B' row hs hg hr=>⟨hs.1,cell_kept hs.2.1 hg hr,cell_kept hs.2.2.1 hg hr,(frozen_kept hs.2.2.1 hg hr).trans hs.2.2.2⟩) _) (ownFrom_below (qb _) qp))
  (λc=>OwnFrom.and (Own.from (λs A B' row hs hg hr=>⟨hs.1,by obtain⟨l,y,r,e1,e2,e3,e4⟩:=hs.2;exact⟨l,y,r,e1,e2,e3,cell_kept e4 hg hr⟩⟩) _) (ownFrom_below (qb _) qp))
  ⟨⟨qB,GH _ (GH _ c0.1),GH _ c1.1,Tu _ c1.1 c1.2⟩,hB0⟩
  (λy=>{tmps:=#[.pointer a0,.int .i64 x,undef,.pointer (Z ⟨w.heap.size,0,Y⟩),.pointer (Z ⟨w.heap.size+1,0,Y⟩),.pointer y.1.1,.pointer a0,.func (.func 206) #[] #[.pointer (Z ⟨w.heap.size+1+1,0,Y⟩)],.pointer y.1.1,undef,undef,undef,undef,undef,undef,undef,undef,undef,undef,undef,undef,undef],defers:=[]}) ?assign ?body ?done ?stop
 case assign=>
  intro l y W K hK
  gi_wp2
  exact hK
 case body=>
  rintro l pre ⟨⟨ay,j⟩,q,hq,hq1,hr⟩ W ⟨⟨hp,hcx,hcr,hfr⟩,hB⟩ _;dsimp only at hq hr ⊢
  obtain⟨b,o,rfl,hs⟩:∃b o,ay=Z ⟨b,o,Y⟩/\J1 g w p j q b o:=by
   obtain⟨b,o,e,h⟩:=hr.EO hh hq;exact⟨b,o,by simpa using e,h⟩
  have hb:=hC b hs.C;have hg:W.cell? ⟨b,o+(27+x),Y⟩=Z (.bool (decide ((x:Int)∈q.dc 9))):=(hB.cell (p:=⟨b,o+(27+x),Y⟩) hb).trans (hs.zM x hx);have hidx:W.cell? ⟨b,o,Y⟩=Z (.int .i64 j):=(hB.cell (p:=⟨b,o,Y⟩) hb).trans hs.idx;have h8:(x:Int)<8:=qA;have hg2:W.cell? ⟨b,o+27+x,Y⟩=Z (.bool (decide ((x:Int)∈q.dc 9))):=by rw[dL];exact hg
  have hmx:prog.follows .mixedOrders=B:=qc
  have hj0:0<j:=by
   rcases fN j with rfl|h
   .exact absurd hq1 (hb0 q hq)
   .exact h
  have hcall:∀W',Below w.heap.size w W'->Calls prog 159 #[.pointer (Z ⟨b,o,Y⟩),.int .i64 x] W' λe W''=>e=.returned (.bool (uW j q x))/\Below W'.heap.size W' W'':=by
   intro W' hB';have hF:=IN (λ_=>Y) j q (vB p q.parent) q.params x hx
   have e:(q.kind != 0&&decide ((x:Int)∈q.bd)&&!(decide ((x:Int)∈q.dc 9)||decide ((x:Int)∈q.dc 10)))=uW j q x:=by
    simp[uW,hq1,hj0,Bool.and_assoc]
   rw[e]at hF;refine qL.Zz hF (g:=g) (λb hb=>um (hC b hb) hB'.size) rfl ?_;intro a v y hv hy
   match a,hv,hy with
   |0,hv,hy=>
    obtain rfl:=sI hv;obtain rfl:=sI hy;have:=hr.Uy hC hB'
    rwa[eH hh hq]at this
   |1,hv,hy=>
    obtain rfl:=sI hv;obtain rfl:=sI hy;exact .sc _
   |a+2,hv,_=>simp at hv
  have hBd:Below w.heap.size w W.drew:=⟨hB.os,hB.tape,hB.output,hB.size,hB.block⟩;have hbW:b<W.drew.heap.size:=um hb hB.size
  have hrW:w.heap.size+1<W.drew.heap.size:=by
   refine Nat.lt_of_not_le λhge=>?_;have:W.heap[w.heap.size+1]?=Y:=Array.getElem?_eq_none hge;simp[World.cell?,this]at hcr
  have hko:∀w3,Below W.drew.heap.size W.drew w3->KeepsOthers W w3:=λw3 h=>⟨h.size,λk o hk _=>(h.block k (oA.1 hk).1).trans hk⟩;have hfd:found p x j=if(x:Int)∈q.dc 9 then Z (-1)else if uW j q x then Z (j:Int)else Y:=by simp only[found,hq]
  by_cases hm:(x:Int)∈q.dc 9
  .rw [decide_eq_true hm]at hg hg2;rw[if_pos hm]at hfd
   gi_wp2
   gi_region_o
   all_goals gi_wp2
   all_goals exact⟨(KeepsOthers.drew W).trans (KeepsOthers.setCell _ _ _),⟨rfl,pre,⟨(Z ⟨b,o,Y⟩,j),q,hq,hq1,hr⟩,-1,rfl,hp,hfd,World.cell?_setCell_same' _ _ _ (by rw[hcr];rfl)⟩,hBd.setCell (p:=⟨w.heap.size+1,0,Y⟩) qB _⟩
  .rw [decide_eq_false hm]at hg hg2;rw[if_neg hm]at hfd
   cases hl:uW j q x with
   |true=>
    rw[hl]at hcall;rw[if_pos hl]at hfd
    gi_wp2
    gi_region_o
    all_goals gi_wp2_with (refine⟨trivial,λ_=>qA,?_⟩;refine(CallsIn.inRound l (callsIn_wide.2 (hcall _ hBd))).mono ?_;rintro e w3 ⟨rfl,hbw⟩;have hi3:=(hbw.cell (p:=⟨b,o,Y⟩) hbW).trans hidx;have hc3:=(hbw.cell (p:=⟨w.heap.size+1,0,Y⟩) hrW).trans hcr;have hf3:=(hbw.frozen (p:=⟨w.heap.size+1,0,Y⟩) hrW).trans hfr)
    all_goals exact⟨(hko _ (by assumption)).trans (KeepsOthers.setCell _ _ _),⟨rfl,pre,⟨(Z ⟨b,o,Y⟩,j),q,hq,hq1,hr⟩,(j:Int),rfl,hp,hfd,World.cell?_setCell_same' _ _ _ (by rw[hc3];rfl)⟩,(hBd.trans (Below.mono (by assumption) hBd.size)).setCell (p:=⟨w.heap.size+1,0,Y⟩) qB _⟩
   |false=>
    rw[hl]at hcall;rw[if_neg (by rw[hl];decide)]at hfd
    gi_wp2
    gi_region_o
    all_goals gi_wp2_with (refine⟨trivial,λ_=>qA,?_⟩;refine(CallsIn.inRound l (callsIn_wide.2 (hcall _ hBd))).mono ?_;rintro e w3 ⟨rfl,hbw⟩)
    all_goals
     have hWw:Below W.drew.heap.size W.drew w3:=by assumption
     have hB3:Below w.heap.size W.drew w3:=hWw.mono hBd.size;have hBW:Below w.heap.size W w3:=⟨hB3.os,hB3.tape,hB3.output,hB3.size,hB3.block⟩;have hsW:w.heap.size<W.drew.heap.size:=Nat.lt_of_succ_lt hrW;refine⟨hko _ hWw,hBW,⟨λy hy=>?_,(hWw.cell (p:=⟨w.heap.size,0,Y⟩) hsW).trans hcx,(hWw.cell (p:=⟨w.heap.size+1,0,Y⟩) hrW).trans hcr,(hWw.frozen (p:=⟨w.heap.size+1,0,Y⟩) hrW).trans hfr⟩,hB.trans hBW⟩;rcases yI.1 hy with hy|hy
     .exact hp y hy
     .obtain rfl:=vG.1 hy;exact hfd
 case done=>
  rintro D ys W hD ⟨je,hneg,hpath⟩ ⟨⟨hne,_,hcr,hfr⟩,hB⟩ hK
  gi_wp2
  have hK':=(KeepsOthers.setCell W ⟨w.heap.size+1,0,Y⟩ (.int .i64 (-1))).same D _ hK rfl;refine⟨qB,.inl ⟨_,_,rfl,run_takeDeferred hK',?_⟩⟩;have hc5:=cell_kept (World.cell?_setCell_same' W ⟨w.heap.size+1,0,Y⟩ (.int .i64 (-1)) (by rw[hcr];rfl)) (grownBy_putObj' _ D (.deferred Y)) (λr e=>by cases e;exact⟨_,hK',rfl⟩)
  have hout:yU p x (O p) k.parent=-1:=by
   rw[hpath.outer hh hb0 (x:=x) (λy hy=>by obtain⟨z,hz,rfl⟩:=wi.1 hy;exact hne z hz),B6 qA]
  refine⟨.int .i64 (-1),?_,by rw[hout],(hB.setCell (p:=⟨w.heap.size+1,0,Y⟩) qB _).trans (belowK_b (w:=w) (qb _) _ D _ _ (by simp at hD;omega) hK' rfl rfl)⟩;simp[results,Tryz.f112,go_sem,hc5]
 case stop=>
  rintro D c pre W hD ⟨je,hpath⟩ ⟨⟨rfl,l,y,r,rfl,hno,hf,hcr⟩,hB⟩ hK
  gi_wp2
  refine⟨qB,.inl ⟨_,_,rfl,run_takeDeferred hK,?_⟩⟩;have hc5:=cell_kept hcr (grownBy_putObj' _ D (.deferred Y)) (λr e=>by cases e;exact⟨_,hK,rfl⟩)
  have hout:yU p x (O p) k.parent=r:=by
   rw[rF,List.map_singleton]at hpath;exact Path.found hh hpath hb0 (λy hy=>by obtain⟨z,hz,rfl⟩:=wi.1 hy;exact hno z hz) hf
  refine⟨.int .i64 r,?_,by rw[hout],hB.trans (belowK_b (w:=w) (qb _) W D _ _ (by simp at hD;omega) hK rfl rfl)⟩;simp[results,Tryz.f112,go_sem,hc5]
def XR(gl)(p:qC)(hh:ze p)(hb0:∀k,p[0]?=Z k->k.kind≠1)(i:Nat)(k:qY)(hk:p[i]?=Z k)(x:Nat)(hx:x<8):
  qL prog gl 112 [vB p i,iv x] (λ_ y _=>y=iv (outer p i x)):=by
 refine qL.Wz ⟨_,func112,qc,qc⟩ λw g args hC hsz hargs=>?_;rw[mz hh hk]
 obtain⟨v0,v1,rfl⟩:∃v0 v1,args=#[v0,v1]:=by
  refine⟨args[0]'(by simp at hsz;omega),args[1]'(by simp at hsz;omega),?_⟩;apply Array.ext
  .simpa using hsz
  .intro i h1 h2
   match i with
   |0=>rfl
   |1=>rfl
   |i+2=>simp at hsz;omega
 have h0:=hargs 0 v0 _ rfl rfl;have h1:=hargs 1 v1 _ rfl rfl;obtain⟨a0,rfl⟩:=h0.ptr;obtain rfl:=h1.jF;exact callsIn_wide.1 (XS 3 (qb _) p hh hb0 g w hC i k hk a0 h0 x hx)
end Go.Proofs.YtjgpejikjhojcaaGreatDoor
end
section
namespace Go.Proofs.YtjgpejikjhojcaaGreatDoor
open Go Go.Hm Go.Proofs Tryz
variable{j:Nat}{n:Nm}{p:qC}
abbrev lj(p:qC)(i:Nat)(k:qY):AV:=.el (yb i k (vB p k.parent) k.params) 0
def NV(gl)(p:qC)(hp:zw p)(i:Nat)(k:qY)(hk:p[i]?=Z k)(x:Nat)(hx:x<8):qL prog gl 112 [lj p i k,iv x] (λ_ y _=>y=iv (outer p i x)):=by
 have:=XR gl p hp.jK hp.Tv i k hk x hx
 rwa[eH hp.jK hk]at this
theorem eJ(gl)(p:qC)(hp:zw p)(i:Nat)(k:qY)(hk:p[i]?=Z k)(x:Nat)(hx:x<8):qL prog gl 137 [lj p i k,iv x] (λ_ y _=>y=iv (zN p i x)):=by
 have h8:(x:Int)<8:=qA;have hg:=EP (i:=i) (k:=k) (o:=vB p k.parent) (ps:=k.params) hx;have hk0:=hp.ei hk;refine qL.q9 func137 [.tmp 4] ntmps137 λC w g root=>?_
 all_goals have fx:=aI h8<|hg
 repeat'(first|refine zf ?_|refine λ(K:St->Prop)hK=>?_|refine zL (hF:=IN _ _ _ _ _ _ hx) (h:=?_)|refine zL (hF:=NV _ p hp i k hk x hx) (h:=?_)|(with_reducible refine yr (λht=>?_) (λht=>?_))|refine vr (h1:=λht=>?_) (h2:=λht=>?_))
 all_goals try clear fx
 all_goals refine qE [] .nil qD ?_
 all_goals simp_all[zN,uW]
 all_goals grind
theorem qDk(gl)(p:qC)(hp:zw p)(i:Nat)(k:qY)(hk:p[i]?=Z k):qL prog gl 73 [lj p i k] (λ_ y _=>y=bv (am p i)):=by
 have hdo:am p i=(List.range 8).all (λx=>aM p i k (x:Int)):=by simp only[am,hk]
 rw[hdo];refine qL.q9 func73 [.tmp 2] ntmps73 λC w g root=>?_;refine qH ?_<|qW;refine zK (λn st=>∃x:Nat,n=8-x/\x<=8/\st.tm 0=lj p i k/\st.tm 4=iv x/\(List.range x).all (λx=>aM p i k (x:Int))=B) 8 ⟨0,qB⟩ ?_;rintro n st - - ⟨x,rfl,hx,h0,h4,hal⟩;refine qH ?_<|aI h0<|h4;refine yk yq (λht=>?_) (λhf=>?_)
 .have h8:(x:Int)<8:=yJ;have hx8:x<8:=qA;have hg:=EP (i:=i) (k:=k) (o:=vB p k.parent) (ps:=k.params) hx8;have hn:=Od (i:=i) (k:=k) (o:=vB p k.parent) (ps:=k.params) hx8;have hq:=qBA (i:=i) (k:=k) (o:=vB p k.parent) (ps:=k.params) hx8;have hge:=XT (p:=p) (b:=i) (x:=x);have fin:aM p i k x=M->(List.range 8).all (λx=>aM p i k (x:Int))=M:=λh=>nH hx8 h;have nxt:aM p i k x=B->(List.range (x+1)).all (λx=>aM p i k (x:Int))=B:=λh=>by rw[oG,hal,h];rfl
  clear ht hal
  all_goals have fx:=zx h0 h4 h8 hg hn<|hq
  repeat'(first|refine zf ?_|refine λ(K:St->Prop)hK=>?_|refine zL (hF:=GN _ _ _ _ _ _ hx8) (h:=?_)|refine zL (hF:=NV _ p hp i k hk x hx8) (h:=?_)|(with_reducible refine yr (λht=>?_) (λht=>?_))|refine vr (h1:=λht=>?_) (h2:=λht=>?_))
  all_goals try clear fx
  all_goals clear hg hn hq
  all_goals first
   |(refine qE [] .nil qD ?_
     rw[fin (by simp only[aM];simp_all;done)]
     rfl)
   |(refine⟨8-(x+1),qA,x+1,rfl,qA,yL,zr,nxt ?_⟩
     simp only[aM]
     simp_all
     try omega)
 .have hge:x=8:=by
   have:¬(x:Int)<8:=vP;omega
  subst hge;refine qH ?_<|qW;refine qE [] .nil gx (by simp[hal])
def C8{hp:Nm->Option AO}{k:qY}(h:gU hp n p (O p))(hh:ze p)(hk:p[j]?=Z k):Bw hp zl (.pt (.c n j 0) 0) (lj p j k):=by
 have:=KG h hh j (gS hk).1
 rwa[eH hh hk]at this
def O5{len:Nat}(h:j<len):(kK n len len)[j]?=Z [AV.pt (.c n j 0) 0]:=by rw[Bo h,if_pos h]
def Sh(hp:zw p):am p 0=B:=by
 obtain⟨k,hk⟩:∃k,p[0]?=Z k:=⟨_,gE (by have:=hp.len.1;omega)⟩;simp only[am,hk,yn];intro x _;simp[aM,hp.Sf hk]
def df(gl)(p:qC)(hs:jm p):qL prog gl 37 [jB p] (λ_ y _=>y=bv (j2 p)):=by
 refine qL.q9 func37 [.tmp 2] ntmps37 λC w g root=>?_
 cases hsh:kL p with
 |false=>
  have fx:=hsh;have c1:=Lo gl p hs;refine qK ?_;clear fx c1;refine qE [] .nil qD ?_;simp[j2,hsh]
 |true=>
  have hp:=zw.of hs hsh;have hh:=hp.jK;have hl7:=hp.len;have hpo:j2 p=(List.range (O p)).all (λb=>b==0||am p b):=by simp only[j2,hsh,gj]
  rw[hpo];have fx:=hsh;have c1:=Lo gl p hs;have e1:=EQ gl p hs hh hp.names;refine qK ?_;clear fx c1 e1
  first|rintro K hK y H' ⟨rfl,hO⟩|rintro y H' ⟨rfl,hO⟩
  obtain⟨ho1,ho2⟩:=hO.vj;refine⟨qB,?_⟩;refine qH ?_<|qW;refine zK (λn st=>∃i:Nat,n=O p-i/\i<=O p/\st.tm 9=.hs (.s 9) 1 0 (O p)/\gU st.hp (.s 9) p (O p)/\st.tm 10=iv (O p)/\st.tm 11=iv i/\(List.range i).all (λb=>b==0||am p b)=B) (O p) ?_ ?_
  .exact⟨0,qB,qB,qB,⟨kR,λj k hj hk=>Cv⟩,qB,qB,qB⟩
  clear ho1 ho2 hO;rintro n st - - ⟨i,rfl,hi,h9,⟨ho1,ho2⟩,h10,h11,hal⟩;refine qH ?_<|aI h10<|h11;refine yk yq (λht=>?_) (λhf=>?_)
  .have hlt:i<O p:=yJ;obtain⟨k,hk⟩:=gX hlt;have hsg:=O5 (n:=.s 9) hlt;obtain⟨_,hse⟩:=gS hsg;clear ht
   all_goals have fx:=zy h9 ho1 h10 h11 hsg hse<|hlt
   repeat'(first|refine zf ?_|refine λ(K:St->Prop)hK=>?_|refine zL (hB:=(by first|((repeat'(first|exact .nil|refine .cons ?_ ?_|exact .refl _|exact ea ai ah|exact gu ai ah sy|exact C8 (n:=.s 9) (p:=p) (k:=k) ⟨kR,λj k hj hk=>Cv⟩ hh hk));done)|fail)) (hF:=qDk _ p hp i k hk) (h:=?_)|refine vr (h1:=λht=>?_) (h2:=λht=>?_))
   all_goals try clear fx
   .refine qE [] .nil qD ?_;have hd:am p i=M:=yJ;have hi0:i≠0:=λe=>by rw[e,Sh hp]at hd;cases hd
    rw[nH hlt (show(i==0||am p i)=M by simp[hd,hi0])]
    rfl
   .have hd:am p i=B:=yJ;refine⟨O p-(i+1),qA,i+1,rfl,qA,dV,⟨kR,λj k hj hk=>Cv⟩,dT,zr,?_⟩;rw[oG,hal,hd];simp
  .have hge:i=O p:=by
    have:¬i<O p:=vP;omega
   subst hge;refine qH ?_<|qW;refine qE [] .nil gx (by simp[hal])
end Go.Proofs.YtjgpejikjhojcaaGreatDoor
end
section

end
section

end
section

end
