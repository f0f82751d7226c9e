import Derived.Test.YtdnebaieamppbaaGreatDoorE31
import Derived.RangeFuncFrom
import Derived.RangeFuncNested
import Derived.RangeFuncBound
import Derived.RangeFuncCalls
import Derived.RangeFuncLeaves
import Derived.Shelf.Abstract
import Derived.Shelf.RegionOpen
import Derived.OwnWalkIn
import Derived.TacticsInMore
import Derived.LoopNIn
import Derived.LoopIn
import Derived.Test.YtdnebaieamppbaaGreatDoorE13
set_option linter.unusedSimpArgs false
set_option linter.unusedVariables false
set_option maxRecDepth 100000
set_option maxHeartbeats 4000000

section
namespace Go.Proofs.YtdnebaieamppbaaGreatDoor
open Go Go.Hm Go.Proofs Tryz
abbrev Vk:Zh:=DH<|.q 5<|.q 7<|.q 9<|.l 4 [9,7,5,2,1,0]<|.l 6 [9,7,2,1,0]<|.l 8 [9,2,1,0]<|.l 10 [2,1,0]<|.q 11<|.l 12 []<|.l 13 []<|.done
theorem bk {A G G2:Prop} (k:G2) (x:A) (h:A->Zx G2->G:=by
 intro fx kk;refine qG ?_
 repeat ((first|refine Ze (id:=5) Vk mixed ?_);refine qZ ?_;refine qG ?_)
 exact kk.h):G:=h x ⟨k⟩
theorem dh (gl) (p:Z0) (hs:Sml p) (hh:zS p) (hn:∀ k∈p,qCU k):qb prog gl 72 [pav p] (λr y H'=>y=.hs r 1 0 p.length/\qBc H' r p p.length):=by
 have hpl:=hs.len;refine qb.Zl func72 [.tmp 2] ntmps72 λC w g root=>?_;refine bk ?_<|Zk;refine qX (λn st=>∃ i:Nat,n=p.length - i/\i<=p.length/\st.tm 1=.pt (.s 1) 0/\st.hp (.s 1)=some (.row 1 [[ksl p]])/\st.tm 3=.hs (.s 3) 1 0 p.length/\st.tm 14=ksl p/\st.tm 15=iv p.length/\st.tm 16=iv i/\qBc st.hp (.s 3) p i) p.length ?_ ?_
 .refine⟨0,qB,qB,qB,qB,qB,qB,qB,qB,⟨?_,λj k hj=>qA⟩⟩;rw [<- J4];simp [Ca]
 rintro n st - - ⟨i,rfl,hi,h1,hp1,h3,h14,h15,h16,⟨ho1,ho2⟩⟩;refine bk ?_<|jI h14 h15<|h16;refine w9 zU (λht=>?_) (λhf=>?_)
 .have hlt:i<p.length:=zJ;obtain⟨k,hk⟩:=gX hlt;have hkm:=gM hk;obtain⟨hkp,hkb⟩:=hs.bsm hk;clear ht
  all_goals have fx:=yE h14 h15 h16<|hk
  repeat' (first
   | refine vH ?_|refine jd ?_|refine yH ?_|refine kL λK hK=>?_
   | ((with_reducible refine vA hK ?_);clear hK K)
   | (with_reducible first|refine qV ?_|refine jS ?_|refine jQ ?_|refine vW ?_|refine j6 ?_|refine kH ?_|refine kz ?_|refine jx qO ?_)
   | refine kR ?_
   | refine aM ?_
   | (with_reducible first|refine jL ?_|refine zL (h:=?_)|refine lu (h:=?_)|refine u5 (h:=?_)|refine jA (h:=?_)|refine bB (h:=?_)|refine lr (h:=?_))
   | ((with_reducible refine rr 121 rfl ?_);refine qJ (hF:=Jl _ k (hn k hkm) (hs.bsm hk)) (h:=?_))
   | ((with_reducible refine rr 122 rfl ?_);refine qJ (hF:=HJ _ k (hn k hkm) (hs.bsm hk)) (h:=?_))
   | ((with_reducible refine rr 123 rfl ?_);refine qJ (hF:=xT _ k _ (hn k hkm) (hs.bsm hk)) (h:=?_))
   | (with_reducible refine x_q (h:=?_))
   | refine jr (h1:=?_)|refine yF (h1:=?_)
   | (refine Ze (id:=5) Vk mixed λK hK=>?_)
   | ((with_reducible refine u7 hK ?_);clear hK K)
   | ((with_reducible refine dZ ?_);first|refine nC (h:=?_)|refine pC (h:=?_)|refine pD (h:=?_)|refine pB (h:=?_))
   | ((with_reducible refine dZ ?_);refine pE (h1:=λht=>?_) (h2:=λht=>?_))
   | refine a_l rfl ?_|refine Kq ?_ ?_|refine Kp ?_ ?_ ?_|(with_reducible refine aI ?_ ?_)|exact vL|refine wj (h2:=?_)
   | fail)
  all_goals try clear fx
  refine qX (λn st=>∃ j:Nat,n=k.params.length - j/\j<=k.params.length/\st.tm 1=.pt (.s 1) 0/\st.hp (.s 1)=some (.row 1 [[ksl p]])/\st.tm 3=.hs (.s 3) 1 0 p.length/\st.tm 14=ksl p/\st.tm 15=iv p.length/\st.tm 16=iv i/\qBc st.hp (.s 3) p i/\st.tm 4=iv i/\st.tm 5=.pt (.s 5) 0/\st.hp (.s 5)=some (.row 4 [k.cells])/\st.tm 6=.pt (.s 6) 0/\st.hp (.s 6)=some (.row 43 [qp i k Ca (k.params.take j)])/\st.tm 35=isl k.params/\st.tm 36=iv k.params.length/\st.tm 37=iv j) k.params.length ?_ ?_
  .refine⟨0,qB,qB,qy,jy,qt,cA,oG,by simp [h16],⟨?_,λj q hj hq=>?_⟩,qB,qB,qB,qB,?_,qB,qB,qB⟩
   .simp [ho1]
   .simp [ho2 j q hj hq]
   .simp [qp,Ca]
    rfl
  clear h1 hp1 h3 h14 h15 h16 ho1 ho2;rintro n st - - ⟨j,rfl,hj,h1,hp1,h3,h14,h15,h16,⟨ho1,ho2⟩,h4,h5,hp5,h6,hp6,h35,h36,h37⟩;refine bk ?_<|jI h35 h36<|h37;refine w9 zU (λht=>?_) (λhf=>?_)
  .have hlj:j<k.params.length:=zJ;obtain⟨y,hy⟩:=gX hlj;have hto:=(hn k hkm).params y (gM hy);obtain⟨x,rfl⟩:∃ x:Nat,y=x:=⟨y.toNat,qA⟩;have hx8:(x:Int)<8:=qA;clear ht;refine bk ?_<|u4 h35 h36 h37 hy h6 hp6<|hx8;refine⟨k.params.length - (j+1),qA,j+1,qB,qA,qy,jy,qt,cA,oG,by simp [h16],⟨?_,λj q hj hq=>?_⟩,jp,z7,kh,j3,?_,by simp [h35],by simp [h36],zD⟩
   .simp [ho1]
   .simp [ho2 j q hj hq]
   .rw [uQ,hy];simp [<- An (y:=(x:Int)) rfl (by omega:x<8)]
  .have hge:j=k.params.length:=by
    have:¬ j<k.params.length:=ze;omega
   subst hge;rw [an] at hp6;clear hf hj;obtain⟨hq1,hq2,hq3⟩:=hh i k hk;refine bk ?_<| h4;refine w9 zU (λht=>?_) (λhf=>?_)
   .have hi0:0<i:=zJ;obtain⟨q,hq⟩:∃ q:Nat,k.parent=q:=⟨k.parent.toNat,qA⟩;have hqi:q<i:=qA;have hqp:q<p.length:=qA;have hsg:=ci (n:=.s 3) (i:=i) hqp;rw [if_pos hqi] at hsg;obtain⟨_,hse⟩:=gS hsg;refine bk ?_<|qU h3 ho1 h4 h5 hp5 h6 hp6 hq hsg hse hlt hqp<|aI hqi<|h16;refine⟨p.length - (i+1),qA,i+1,rfl,qA,qy,jy,qt,cA,oG,by simp [h16];exact Zv qA qA,⟨?_,λj r hj hr=>?_⟩⟩
    .simp [ho1,DJ]
    .rcases E5.1 hj with hlj|rfl
     .have hne:¬ j=i:=qA;have hrp:=(hh j r hr).2.1;have ho:=QL (n:=.s 3) (a:=6) (i:=i) (q:=r.parent) qB qB qA;simp [ho2 j r hlj hr,hne,ho]
     .rw [hk] at hr;obtain rfl:=sI hr;have hne:¬ q=j:=qA;have hso:=Am (i:=j) (k:=k) (o:=Ca) (o':=.pt (.c (.s 3) q 0) 0) (ps:=k.params);simp [hq,QK,hp6,hne,hso]
   .have hi0:i=0:=by
     have:¬ 0<i:=ze;omega
    refine bk ?_<|u4 h3 ho1 h4 h6 hp6 hlt<|h16;refine⟨p.length - (i+1),qA,i+1,rfl,qA,qy,jy,qt,cA,oG,by simp [h16];exact Zv qA qA,⟨?_,λj r hj hr=>?_⟩⟩
    .simp [ho1,DJ]
    .obtain rfl:j=i:=qA;rw [hk] at hr;obtain rfl:=sI hr;rw [QJ qA];simp [hp6]
 .have hge:i=p.length:=by
   have:¬ i<p.length:=ze;omega
  subst hge;refine bk ?_<| h3;refine qD [(.s 2,root)] (.one rfl) qE ⟨qB,⟨?_,λj r hj hr=>?_⟩⟩
  .simp [ho1,gz (n:=.s 2) (m:=root) (f:=jc noD [(.s 2,root)]) qB]
  .simp [ho2 j r hj hr,iz (n:=.s 2) (m:=root) (f:=jc noD [(.s 2,root)]) qB]
theorem lT (gl) (i:Nat) (k:Za) (o:AV) (ps:List Int) (x:Nat) (hx:x<8):qb prog gl 126 [.el (qp i k o ps) 0,iv x] (λ_ y _=>y=bv (decide ((x:Int)∈k.dc 9)||decide ((x:Int)∈k.dc 10))):=by
 have h8:(x:Int)<8:=qA;have hg:=gy (i:=i) (k:=k) (o:=o) (ps:=ps) hx;have hn:=xk (i:=i) (k:=k) (o:=o) (ps:=ps) hx;refine qb.Zl func126 [.tmp 4] ntmps126 λC w g root=>?_
 all_goals have fx:=jI h8 hg<|hn
 repeat' (first|refine qK ?_|refine λ(K:St->Prop) hK=>?_|(with_reducible refine dX (λht=>?_) (λht=>?_)))
 all_goals try clear fx
 all_goals refine qD [] .nil qE ?_
 all_goals simp_all
theorem vZ (gl) (i:Nat) (k:Za) (o:AV) (ps:List Int) (x:Nat) (hx:x<8):qb prog gl 124 [.el (qp i k o ps) 0,iv x] (λ_ y _=>y=bv (k.kind != 0&&decide ((x:Int)∈k.bd)&&!(decide ((x:Int)∈k.dc 9)||decide ((x:Int)∈k.dc 10)))):=by
 have h8:(x:Int)<8:=qA;have hb:=xl (i:=i) (k:=k) (o:=o) (ps:=ps) hx;refine qb.Zl func124 [.tmp 4] ntmps124 λC w g root=>?_
 all_goals have fx:=aI h8<|hb
 repeat' (first|refine qK ?_|refine λ(K:St->Prop) hK=>?_|refine qJ (hF:=lT _ _ _ _ _ _ hx) (h:=?_)|(with_reducible refine dX (λht=>?_) (λht=>?_)))
 all_goals try clear fx
 all_goals refine qD [] .nil qE ?_
 all_goals simp_all
theorem S2 (gl) (i:Nat) (k:Za) (o:AV) (ps:List Int) (x:Nat) (hx:x<8):qb prog gl 75 [.el (qp i k o ps) 0,iv x] (λ_ y _=>y=bv (decide ((x:Int)∈k.rd)||decide ((x:Int)∈k.bd)||(decide ((x:Int)∈k.dc 9)||decide ((x:Int)∈k.dc 10)))):=by
 have h8:(x:Int)<8:=qA;have hb:=xl (i:=i) (k:=k) (o:=o) (ps:=ps) hx;have hr:=J2 (i:=i) (k:=k) (o:=o) (ps:=ps) hx;refine qb.Zl func75 [.tmp 4] ntmps75 λC w g root=>?_
 all_goals have fx:=jI h8 hb<|hr
 repeat' (first|refine qK ?_|refine λ(K:St->Prop) hK=>?_|refine qJ (hF:=lT _ _ _ _ _ _ hx) (h:=?_)|(with_reducible refine dX (λht=>?_) (λht=>?_)))
 all_goals try clear fx
 all_goals refine qD [] .nil qE ?_
 all_goals simp_all
end Go.Proofs.YtdnebaieamppbaaGreatDoor
end
section
namespace Go.Proofs.YtdnebaieamppbaaGreatDoor
open Go Go.Hm Go.Proofs Go.RowKit Go.Shelf Tryz
attribute [local go_sem] Oper.semAt_some
abbrev SF (g:Gh) (w0:World) (p:Z0):={ a:Option Addr×Nat // ∃ q,p[a.2]?=some q/\q.kind=1/\RV g w0 (.pointer a.1) (jK p a.2) }
def lft (v:Value) (W:World):Nat:=match v with
 | .pointer (some a)=>(match W.cell? a with|some (.int _ j)=>j.toNat+1|_=>0)
 | _=>0
theorem Th (n l Bn:Nat) (p:Z0) (hh:zS p) (g:Gh) (w0:World) (hC:∀ b,g.C b->b<w0.heap.size) (j0:Nat) (k0:Za) (hk0:p[j0]?=some k0) (a0:Option Addr) (ha0:RV g w0 (.pointer a0) (jK p j0)) (J Jx:List (SF g w0 p)->World->Prop) (hn:1<=n)
  (hY:∀ pre x W,J pre W->pre.length<p.length->YieldAt Fence.wide (n - 1) prog l #[.pointer x.1.1] W λe W' =>
    (e=.returned (.bool true)/\J (pre++[x]) W'/\Below w0.heap.size W W')\/(e=.returned (.bool false)/\Jx (pre++[x]) W'))
  (W:World) (hW:Below w0.heap.size w0 W) (hBn:W.cell? ⟨Bn,0,none⟩=some (.pointer a0)) (h0:J [] W) :
  CallsIn Fence.wide n prog 208 #[.func (.yield l) #[] #[],.pointer (some ⟨Bn,0,none⟩)] W λe W'=>(∃ v,e=.returned v) /\
   ((∃ ys,(∃ j,j<0/\Path p k0.parent (ys.map (λy:SF g w0 p=>y.1.2)) j)/\J ys W')\/(∃ pre,(∃ j,Path p k0.parent (pre.map (λy:SF g w0 p=>y.1.2)) j)/\Jx pre W')):=by
 obtain⟨b0,o0,hb0,hs0⟩:=ha0.qD2 hh hk0;obtain rfl:a0=some ⟨b0,o0,none⟩:=by simpa using hb0
 obtain⟨a1,hc1,hr1⟩:=hs0.out;have hc1':W.cell? ⟨b0,o0+2,none⟩=some (.pointer a1):=(hW.cell (p:=⟨b0,o0+2,none⟩) (hC b0 hs0.C)).trans hc1;refine callsIn_of_wp func208 rfl trivial ?_ rfl;simp only [ntmps208,List.size_toArray,Kg,Ek,Nat.reduceAdd,Nat.reduceSub,Array.replicate_succ,Array.replicate_zero,List.push_toArray,List.append_toArray,List.nil_append,Ec]
 gi_wp2
 gi_loopw [3] (λv wr=>∃ (pre:List (SF g w0 p)) (j:Int),RV g w0 v (jK p j)/\(-1<=j/\j<p.length)/\Path p k0.parent (pre.map (λy:SF g w0 p=>y.1.2)) j/\J pre wr/\Below w0.heap.size w0 wr) (λv wr=>lft v wr)
 case atStart =>
  have h1:=hh j0 k0 hk0;have h2:=(gS hk0).1;exact⟨[],k0.parent,hr1,qA,.nil _,h0,hW⟩
 case round =>
  obtain⟨pre,j,hr,hj,hpath,hJ,hB⟩:=hrel;by_cases hneg:j<0
  .obtain rfl:=hr.qDj hneg
   gi_wp2
   go_end0
   exact⟨⟨_,rfl⟩,.inl ⟨pre,⟨j,hneg,hpath⟩,hJ⟩⟩
  .obtain⟨j,rfl⟩:∃ i:Nat,j=i:=⟨j.toNat,qA⟩;obtain⟨k,hk⟩:∃ k,p[j]?=some k:=⟨_,gE qA⟩;obtain⟨b,o,rfl,hs⟩:=hr.qD2 hh hk;have hb:=hC b hs.C;obtain⟨a2,hc2,hr2⟩:=hs.out;obtain⟨hp1,hp2,_⟩:=hh j k hk;have hv1:wr.cell? ⟨b,o+1,none⟩=some (.int .i64 k.kind):=(hB.cell (p:=⟨b,o+1,none⟩) hb).trans hs.kind;have hv0:wr.cell? ⟨b,o,none⟩=some (.int .i64 j):=(hB.cell (p:=⟨b,o,none⟩) hb).trans hs.idx;have hv2:wr.cell? ⟨b,o+2,none⟩=some (.pointer a2):=(hB.cell (p:=⟨b,o+2,none⟩) hb).trans hc2
   have hlf:∀ W',Below w0.heap.size w0 W'->lft (.pointer a2) W'<lft (.pointer (some ⟨b,o,none⟩)) wr:=by
    intro W' hB';have e:lft (.pointer (some ⟨b,o,none⟩)) wr=j+1:=by simp [lft,hv0]
    rw [e];by_cases hn:k.parent<0
    .have:(Value.pointer a2)=.pointer none:=hr2.qDj hn;obtain rfl:a2=none:=by simpa using this
     simp [lft]
    .obtain⟨q,hq⟩:∃ q:Nat,k.parent=q:=⟨k.parent.toNat,qA⟩;obtain⟨r,hqr⟩:∃ r,p[q]?=some r:=⟨_,gE qA⟩;rw [hq] at hr2;obtain⟨b',o',e',hs'⟩:=hr2.qD2 hh hqr;obtain rfl:a2=some ⟨b',o',none⟩:=by simpa using e'
     have hb':=hC b' hs'.C;have:W'.cell? ⟨b',o',none⟩=some (.int .i64 q):=(hB'.cell (p:=⟨b',o',none⟩) hb').trans hs'.idx;simp [lft,this];omega
   by_cases hk1:k.kind=1
   .rw [hk1] at hv1;have hlen:=hpath.len hh;have hjj:=(gS hk0).1;have hpp:=(hh j0 k0 hk0).2.1;simp only [Eg] at hlen;obtain⟨fn,tmps,assign,body,hy,hR⟩:=hY pre ⟨(some ⟨b,o,none⟩,j),k,hk,hk1,hr⟩ wr hJ qA;dsimp only at hy
    gi_wp2
    refine hR.mono ?_;rintro e W3 (⟨rfl,hJ3,hk3⟩|⟨rfl,hJx3⟩)
    .have hB3:=hB.trans hk3;have hq3:W3.cell? ⟨b,o+2,none⟩=some (.pointer a2):=(hB3.cell (p:=⟨b,o+2,none⟩) hb).trans hc2
     gi_wp2
     go_roundw
     case rel=>exact⟨_,k.parent,hr2,qA,by simpa using hpath.qDg hk hk1,hJ3,hB3⟩
     case measure=>exact hlf _ hB3
    .gi_wp2
     refine bodyPost_ret (results_none rfl _ _ _) rfl ?_;exact⟨⟨_,rfl⟩,.inr ⟨_,⟨k.parent,by simpa using hpath.qDg hk hk1⟩,hJx3⟩⟩
   .have hk2:(k.kind==1)=false:=tM
    gi_wp2
    refine⟨λ_ h=>uA,?_⟩
    gi_wp2
    go_roundw
    case rel=>exact⟨_,k.parent,hr2,qA,hpath.qEJ hk hk1,hJ,hB⟩
    case measure=>exact hlf _ hB
theorem KJ (n Bn:Nat) (p:Z0) (hh:zS p) (g:Gh) (w0 w:World) (hC:∀ b,g.C b->b<w0.heap.size) (j0:Nat) (k0:Za) (hk0:p[j0]?=some k0) (a0:Option Addr) (ha0:RV g w0 (.pointer a0) (jK p j0)) (hn:1<=n)
  (hw:Below w0.heap.size w0 w) (hBl:Bn<w.heap.size) (hc:w.cell? ⟨Bn,0,none⟩=some (.pointer a0)) :
  SeqStopsK Fence.wide n prog 208 #[.pointer (some ⟨Bn,0,none⟩)] (λx:SF g w0 p=>#[Value.pointer x.1.1]) (Below w0.heap.size)
   (λys=>∃ j,j<0/\Path p k0.parent (ys.map (λy:SF g w0 p=>y.1.2)) j) (λpre=>∃ j,Path p k0.parent (pre.map (λy:SF g w0 p=>y.1.2)) j) p.length w:=λl J Jx W hW _ _ hY h0 =>
 Th n l Bn p hh g w0 hC j0 k0 hk0 a0 ha0 J Jx hn hY W (hw.trans (hW.mono hw.size)) ((hW.cell (p:=⟨Bn,0,none⟩) hBl).trans hc) h0
theorem lM (n:Nat) (a0:Option Addr) (w:World) :
  CallsIn Fence.wide n prog 174 #[.pointer a0] w λe w'=>e=.returned (.func (.func 208) #[] #[.pointer (some ⟨w.heap.size,0,none⟩)])/\w'=w.alloc (.cells #[.pointer a0] 133):=by
 refine callsIn_of_wp func174 rfl trivial ?_ rfl;simp only [ntmps174,List.size_toArray,Kg,Ek,Nat.reduceAdd,Nat.reduceSub,Array.replicate_succ,Array.replicate_zero,List.push_toArray,List.append_toArray,List.nil_append,Ec]
 gi_wp2
 go_ret
 exact⟨rfl,rfl⟩
end Go.Proofs.YtdnebaieamppbaaGreatDoor
end
section
namespace Go.Proofs.YtdnebaieamppbaaGreatDoor
open Go Go.Hm Go.Proofs Go.RowKit Go.Shelf Tryz
attribute [local go_sem] Oper.semAt_some
theorem GC {W:World} {B:Nat} {v:Value} {t:TypeId} (h:W.heap[B]?=some (.cells #[v] t (0,0))):W.cell? ⟨B,0,none⟩=some v/\W.frozen? ⟨B,0,none⟩=false:=by
 constructor <;> simp [World.cell?,World.frozen?,h]
theorem sr (W:World) (v:Value) (t:TypeId):(W.alloc (.cells #[v] t)).cell? ⟨W.heap.size,0,none⟩=some v/\(W.alloc (.cells #[v] t)).frozen? ⟨W.heap.size,0,none⟩=false:=GC (World.alloc_heap_new W _)
theorem lV {W:World} {a:Addr} {v:Value} (o:Obj) (h:W.cell? a=some v):(W.alloc o).cell? a=some v:=cell_kept h (World.grownBy_alloc W o none) (λr e=>um)
theorem BZ {W:World} {a:Addr} {v:Value} (o:Obj) (h:W.cell? a=some v) (hf:W.frozen? a=false):(W.alloc o).frozen? a=false:=(frozen_kept h (World.grownBy_alloc W o none) (λr e=>um)).trans hf
theorem BE (n:Nat) (hn:3<=n) (p:Z0) (hh:zS p) (hb0:∀ k,p[0]?=some k->k.kind≠1) (g:Gh) (w:World) (hC:∀ b,g.C b->b<w.heap.size) (i:Nat) (k:Za) (hk:p[i]?=some k) (a0:Option Addr) (ha:RV g w (.pointer a0) (jK p i)) (x:Nat) (hx:x<8) :
  CallsIn Fence.wide n prog 127 #[.pointer a0,.int .i64 x] w λe W'=>e=.returned (.int .i64 (zZ p x p.length k.parent))/\Below w.heap.size w W':=by
 have h1:1<=n:=qA;refine callsIn_of_wp_marks func127 rfl trivial ?_ rfl;simp only [ntmps127,List.size_toArray,Kg,Ek,Nat.reduceAdd,Nat.reduceSub,Array.replicate_succ,Array.replicate_zero,List.push_toArray,List.append_toArray,List.nil_append,Ec]
 gi_wp2_with (refine⟨trivial,?_⟩;gi_at_call 174;refine (lM (n - 1) _ _).mono ?_;rintro e w' ⟨rfl,rfl⟩)
 have c0:=sr w (.int .i64 x) 3;have c1:=sr (w.alloc (.cells #[.int .i64 x] 3)) (.int .i64 0) 3;have c2:=sr ((w.alloc (.cells #[.int .i64 x] 3)).alloc (.cells #[.int .i64 0] 3)) (.pointer a0) 133;simp only [World.size_alloc] at c1 c2;have hB0:Below w.heap.size w (((w.alloc (.cells #[.int .i64 x] 3)).alloc (.cells #[.int .i64 0] 3)).alloc (.cells #[.pointer a0] 133)):=(((Below.refl _ w).alloc (qf _) _).alloc qB _).alloc qc _
 refine wpIn_rangeFunc_ownF rfl h1 (gf:=208) (lb:=#[.pointer (some ⟨w.heap.size+1+1,0,none⟩)]) rfl trivial (enters_of func208 qI rfl)
  (KJ (n - 1) (w.heap.size+1+1) p hh g w _ hC i k hk a0 ha qA hB0 qB c2.1) belowK_t (belowK_b qc) (Below.refl _ _) (λ_=>rfl)
  (λpre W=>((∀ y∈pre,found p x y.1.2=none)/\W.cell? ⟨w.heap.size,0,none⟩=some (.int .i64 x)/\W.cell? ⟨w.heap.size+1,0,none⟩=some (.int .i64 0)/\W.frozen? ⟨w.heap.size+1,0,none⟩=false)/\Below w.heap.size w W)
  (λc pre W=>(c=.ret/\(∃ l y r,pre=l++[y]/\(∀ y∈l,found p x y.1.2=none)/\found p x y.1.2=some r/\W.cell? ⟨w.heap.size+1,0,none⟩=some (.int .i64 r)))/\Below w.heap.size w W)
  (OwnFrom.and (Own.from (λs A B row hs hg hr=>⟨hs.1,cell_kept hs.2.1 hg hr,cell_kept hs.2.2.1 hg hr,(frozen_kept hs.2.2.1 hg hr).trans hs.2.2.2⟩) _) (ownFrom_below (qf _) qc))
  (λc=>OwnFrom.and (Own.from (λs A B row hs hg hr=>⟨hs.1,by obtain⟨l,y,r,e1,e2,e3,e4⟩:=hs.2;exact⟨l,y,r,e1,e2,e3,cell_kept e4 hg hr⟩⟩) _) (ownFrom_below (qf _) qc))
  ⟨⟨qB,lV _ (lV _ c0.1),lV _ c1.1,BZ _ c1.1 c1.2⟩,hB0⟩
  (λy=>{ tmps:=#[.pointer a0,.int .i64 x,undef,.pointer (some ⟨w.heap.size,0,none⟩),.pointer (some ⟨w.heap.size+1,0,none⟩),.pointer y.1.1,.pointer a0,.func (.func 208) #[] #[.pointer (some ⟨w.heap.size+1+1,0,none⟩)],.pointer y.1.1,undef,undef,undef,undef,undef,undef,undef,undef,undef,undef,undef,undef,undef],defers:=[] }) ?assign ?body ?done ?stop
 case assign =>
  intro l y W K hK
  gi_wp2
  exact hK
 case body =>
  rintro l pre ⟨⟨ay,j⟩,q,hq,hq1,hr⟩ W ⟨⟨hp,hcx,hcr,hfr⟩,hB⟩ _;dsimp only at hq hr ⊢
  obtain⟨b,o,rfl,hs⟩:∃ b o,ay=some ⟨b,o,none⟩/\qE3 g w p j q b o:=by
   obtain⟨b,o,e,h⟩:=hr.qD2 hh hq;exact⟨b,o,by simpa using e,h⟩
  have hb:=hC b hs.C;have hg:W.cell? ⟨b,o+(27+x),none⟩=some (.bool (decide ((x:Int)∈q.dc 9))):=(hB.cell (p:=⟨b,o+(27+x),none⟩) hb).trans (hs.Zg x hx);have hidx:W.cell? ⟨b,o,none⟩=some (.int .i64 j):=(hB.cell (p:=⟨b,o,none⟩) hb).trans hs.idx;have h8:(x:Int)<8:=qA;have hg2:W.cell? ⟨b,o+27+x,none⟩=some (.bool (decide ((x:Int)∈q.dc 9))):=by rw [nA];exact hg
  have hmx:prog.follows .mixedOrders=true:=qI
  have hj0:0<j:=by
   rcases dV j with rfl|h
   .exact absurd hq1 (hb0 q hq)
   .exact h
  have hcall:∀ W',Below w.heap.size w W'->Calls prog 124 #[.pointer (some ⟨b,o,none⟩),.int .i64 x] W' λe W''=>e=.returned (.bool (qa j q x))/\Below W'.heap.size W' W'':=by
   intro W' hB';have hF:=vZ (λ_=>none) j q (jK p q.parent) q.params x hx
   have e:(q.kind != 0&&decide ((x:Int)∈q.bd)&&!(decide ((x:Int)∈q.dc 9)||decide ((x:Int)∈q.dc 10)))=qa j q x:=by
    simp [qa,hq1,hj0,Bool.and_assoc]
   rw [e] at hF;refine qb.raw hF (g:=g) (λb hb=>aR (hC b hb) hB'.size) rfl ?_;intro a v y hv hy
   match a,hv,hy with
   | 0,hv,hy =>
    obtain rfl:=sI hv;obtain rfl:=sI hy;have:=hr.qET hC hB'
    rwa [ji hh hq] at this
   | 1,hv,hy =>
    obtain rfl:=sI hv;obtain rfl:=sI hy;exact .sc _
   | a+2,hv,_=>simp at hv
  have hBd:Below w.heap.size w W.drew:=⟨hB.os,hB.tape,hB.output,hB.size,hB.block⟩;have hbW:b<W.drew.heap.size:=aR hb hB.size
  have hrW:w.heap.size+1<W.drew.heap.size:=by
   refine Nat.lt_of_not_le λhge=>?_;have:W.heap[w.heap.size+1]?=none:=Array.getElem?_eq_none hge;simp [World.cell?,this] at hcr
  have hko:∀ w3,Below W.drew.heap.size W.drew w3->KeepsOthers W w3:=λw3 h=>⟨h.size,λk o hk _=>(h.block k (C3.1 hk).1).trans hk⟩;have hfd:found p x j=if (x:Int)∈q.dc 9 then some (-1) else if qa j q x then some (j:Int) else none:=by simp only [found,hq]
  by_cases hm:(x:Int)∈q.dc 9
  .rw [decide_eq_true hm] at hg hg2;rw [if_pos hm] at hfd
   gi_wp2
   gi_region_o
   all_goals gi_wp2
   all_goals exact⟨(KeepsOthers.drew W).trans (KeepsOthers.setCell _ _ _),⟨rfl,pre,⟨(some ⟨b,o,none⟩,j),q,hq,hq1,hr⟩,-1,rfl,hp,hfd,World.cell?_setCell_same' _ _ _ (by rw [hcr];rfl)⟩,hBd.setCell (p:=⟨w.heap.size+1,0,none⟩) qB _⟩
  .rw [decide_eq_false hm] at hg hg2;rw [if_neg hm] at hfd
   cases hl:qa j q x with
   | true =>
    rw [hl] at hcall;rw [if_pos hl] at hfd
    gi_wp2
    gi_region_o
    all_goals gi_wp2_with (refine⟨trivial,λ_=>qA,?_⟩;refine (CallsIn.inRound l (callsIn_wide.2 (hcall _ hBd))).mono ?_;rintro e w3 ⟨rfl,hbw⟩;have hi3:=(hbw.cell (p:=⟨b,o,none⟩) hbW).trans hidx;have hc3:=(hbw.cell (p:=⟨w.heap.size+1,0,none⟩) hrW).trans hcr;have hf3:=(hbw.frozen (p:=⟨w.heap.size+1,0,none⟩) hrW).trans hfr)
    all_goals exact⟨(hko _ (by assumption)).trans (KeepsOthers.setCell _ _ _),⟨rfl,pre,⟨(some ⟨b,o,none⟩,j),q,hq,hq1,hr⟩,(j:Int),rfl,hp,hfd,World.cell?_setCell_same' _ _ _ (by rw [hc3];rfl)⟩,(hBd.trans (Below.mono (by assumption) hBd.size)).setCell (p:=⟨w.heap.size+1,0,none⟩) qB _⟩
   | false =>
    rw [hl] at hcall;rw [if_neg (by rw [hl];decide)] at hfd
    gi_wp2
    gi_region_o
    all_goals gi_wp2_with (refine⟨trivial,λ_=>qA,?_⟩;refine (CallsIn.inRound l (callsIn_wide.2 (hcall _ hBd))).mono ?_;rintro e w3 ⟨rfl,hbw⟩)
    all_goals
     have hWw:Below W.drew.heap.size W.drew w3:=by assumption
     have hB3:Below w.heap.size W.drew w3:=hWw.mono hBd.size;have hBW:Below w.heap.size W w3:=⟨hB3.os,hB3.tape,hB3.output,hB3.size,hB3.block⟩;have hsW:w.heap.size<W.drew.heap.size:=Nat.lt_of_succ_lt hrW;refine⟨hko _ hWw,hBW,⟨λy hy=>?_,(hWw.cell (p:=⟨w.heap.size,0,none⟩) hsW).trans hcx,(hWw.cell (p:=⟨w.heap.size+1,0,none⟩) hrW).trans hcr,(hWw.frozen (p:=⟨w.heap.size+1,0,none⟩) hrW).trans hfr⟩,hB.trans hBW⟩;rcases dY.1 hy with hy|hy
     .exact hp y hy
     .obtain rfl:=w6.1 hy;exact hfd
 case done =>
  rintro D ys W hD ⟨je,hneg,hpath⟩ ⟨⟨hne,_,hcr,hfr⟩,hB⟩ hK
  gi_wp2
  have hK':=(KeepsOthers.setCell W ⟨w.heap.size+1,0,none⟩ (.int .i64 (-1))).same D _ hK rfl;refine⟨qB,.inl ⟨_,_,rfl,run_takeDeferred hK',?_⟩⟩;have hc5:=cell_kept (World.cell?_setCell_same' W ⟨w.heap.size+1,0,none⟩ (.int .i64 (-1)) (by rw [hcr];rfl)) (grownBy_putObj' _ D (.deferred none)) (λr e=>by cases e;exact⟨_,hK',rfl⟩)
  have hout:zZ p x p.length k.parent=-1:=by
   rw [hpath.outer hh hb0 (x:=x) (λy hy=>by obtain⟨z,hz,rfl⟩:=fG.1 hy;exact hne z hz),ax qA]
  refine⟨.int .i64 (-1),?_,by rw [hout],(hB.setCell (p:=⟨w.heap.size+1,0,none⟩) qB _).trans (belowK_b (w:=w) (qf _) _ D _ _ (by simp at hD;omega) hK' rfl rfl)⟩;simp [results,Tryz.f127,go_sem,hc5]
 case stop =>
  rintro D c pre W hD ⟨je,hpath⟩ ⟨⟨rfl,l,y,r,rfl,hno,hf,hcr⟩,hB⟩ hK
  gi_wp2
  refine⟨qB,.inl ⟨_,_,rfl,run_takeDeferred hK,?_⟩⟩;have hc5:=cell_kept hcr (grownBy_putObj' _ D (.deferred none)) (λr e=>by cases e;exact⟨_,hK,rfl⟩)
  have hout:zZ p x p.length k.parent=r:=by
   rw [E6,List.map_singleton] at hpath;exact Path.found hh hpath hb0 (λy hy=>by obtain⟨z,hz,rfl⟩:=fG.1 hy;exact hno z hz) hf
  refine⟨.int .i64 r,?_,by rw [hout],hB.trans (belowK_b (w:=w) (qf _) W D _ _ (by simp at hD;omega) hK rfl rfl)⟩;simp [results,Tryz.f127,go_sem,hc5]
theorem BF (gl) (p:Z0) (hh:zS p) (hb0:∀ k,p[0]?=some k->k.kind≠1) (i:Nat) (k:Za) (hk:p[i]?=some k) (x:Nat) (hx:x<8) :
  qb prog gl 127 [jK p i,iv x] (λ_ y _=>y=iv (outer p i x)):=by
 refine qb.qDs ⟨_,func127,qI,qI⟩ λw g args hC hsz hargs=>?_;rw [jG hh hk]
 obtain⟨v0,v1,rfl⟩:∃ v0 v1,args=#[v0,v1]:=by
  refine⟨args[0]'(by simp at hsz;omega),args[1]'(by simp at hsz;omega),?_⟩;apply Array.ext
  .simpa using hsz
  .intro i h1 h2
   match i with
   | 0=>rfl
   | 1=>rfl
   | i+2=>simp at hsz;omega
 have h0:=hargs 0 v0 _ rfl rfl;have h1:=hargs 1 v1 _ rfl rfl;obtain⟨a0,rfl⟩:=h0.ptr;obtain rfl:=h1.Zo;exact callsIn_wide.1 (BE 3 (qf _) p hh hb0 g w hC i k hk a0 h0 x hx)
end Go.Proofs.YtdnebaieamppbaaGreatDoor
end
section
namespace Go.Proofs.YtdnebaieamppbaaGreatDoor
open Go Go.Hm Go.Proofs Tryz
abbrev Om (p:Z0) (i:Nat) (k:Za):AV:=.el (qp i k (jK p k.parent) k.params) 0
theorem cJ (gl) (p:Z0) (hp:Z7 p) (i:Nat) (k:Za) (hk:p[i]?=some k) (x:Nat) (hx:x<8):qb prog gl 127 [Om p i k,iv x] (λ_ y _=>y=iv (outer p i x)):=by
 have:=BF gl p hp.Zc hp.qEU i k hk x hx
 rwa [ji hp.Zc hk] at this
theorem zH (gl) (p:Z0) (hp:Z7 p) (i:Nat) (k:Za) (hk:p[i]?=some k) (x:Nat) (hx:x<8):qb prog gl 76 [Om p i k,iv x] (λ_ y _=>y=iv (q7 p i x)):=by
 have h8:(x:Int)<8:=qA;have hg:=gy (i:=i) (k:=k) (o:=jK p k.parent) (ps:=k.params) hx;have hk0:=hp.qAx hk;refine qb.Zl func76 [.tmp 4] ntmps76 λC w g root=>?_
 all_goals have fx:=aI h8<|hg
 repeat' (first|refine qK ?_|refine λ(K:St->Prop) hK=>?_|refine qJ (hF:=vZ _ _ _ _ _ _ hx) (h:=?_)|refine qJ (hF:=cJ _ p hp i k hk x hx) (h:=?_)|(with_reducible refine dX (λht=>?_) (λht=>?_))|refine gn (h1:=λht=>?_) (h2:=λht=>?_))
 all_goals try clear fx
 all_goals refine qD [] .nil qE ?_
 all_goals simp_all [q7,qa]
 all_goals grind
theorem iP (gl) (p:Z0) (hp:Z7 p) (i:Nat) (k:Za) (hk:p[i]?=some k):qb prog gl 91 [Om p i k] (λ_ y _=>y=bv (vD p i)):=by
 have hdo:vD p i=(List.range 8).all (λx=>qAI p i k (x:Int)):=by simp only [vD,hk]
 rw [hdo];refine qb.Zl func91 [.tmp 2] ntmps91 λC w g root=>?_;refine qC ?_<|Zk;refine qX (λn st=>∃ x:Nat,n=8 - x/\x<=8/\st.tm 0=Om p i k/\st.tm 4=iv x/\(List.range x).all (λx=>qAI p i k (x:Int))=true) 8 ⟨0,qB⟩ ?_;rintro n st - - ⟨x,rfl,hx,h0,h4,hal⟩;refine qC ?_<|aI h0<|h4;refine w9 zU (λht=>?_) (λhf=>?_)
 .have h8:(x:Int)<8:=zJ;have hx8:x<8:=qA;have hg:=gy (i:=i) (k:=k) (o:=jK p k.parent) (ps:=k.params) hx8;have hn:=xk (i:=i) (k:=k) (o:=jK p k.parent) (ps:=k.params) hx8;have hq:=J3 (i:=i) (k:=k) (o:=jK p k.parent) (ps:=k.params) hx8;have hge:=QI (p:=p) (b:=i) (x:=x);have fin:qAI p i k x=false->(List.range 8).all (λx=>qAI p i k (x:Int))=false:=λh=>vT hx8 h;have nxt:qAI p i k x=true->(List.range (x+1)).all (λx=>qAI p i k (x:Int))=true:=λh=>by rw [jz,hal,h];rfl
  clear ht hal
  all_goals have fx:=uD h0 h4 h8 hg hn<|hq
  repeat' (first|refine qK ?_|refine λ(K:St->Prop) hK=>?_|refine qJ (hF:=lT _ _ _ _ _ _ hx8) (h:=?_)|refine qJ (hF:=cJ _ p hp i k hk x hx8) (h:=?_)|(with_reducible refine dX (λht=>?_) (λht=>?_))|refine gn (h1:=λht=>?_) (h2:=λht=>?_))
  all_goals try clear fx
  all_goals clear hg hn hq
  all_goals first
   | (refine qD [] .nil qE ?_
      rw [fin (by simp only [qAI];simp_all;done)]
      rfl)
   | (refine⟨8 - (x+1),qA,x+1,rfl,qA,zR,zD,nxt ?_⟩
      simp only [qAI]
      simp_all
      try omega)
 .have hge:x=8:=by
   have:¬ (x:Int)<8:=ze;omega
  subst hge;refine qC ?_<|Zk;refine qD [] .nil bu (by simp [hal])
theorem OM {hp:Nm->Option AO} {n:Nm} {p:Z0} {j:Nat} {k:Za} (h:qBc hp n p p.length) (hh:zS p) (hk:p[j]?=some k):Bw hp noD (.pt (.c n j 0) 0) (Om p j k):=by
 have:=Im h hh j (gS hk).1
 rwa [ji hh hk] at this
theorem Hx {n:Nm} {len j:Nat} (h:j<len):(wQ n len len)[j]?=some [AV.pt (.c n j 0) 0]:=by rw [ci h,if_pos h]
theorem Qq {p:Z0} (hp:Z7 p):vD p 0=true:=by
 obtain⟨k,hk⟩:∃ k,p[0]?=some k:=⟨_,gE (by have:=hp.len.1;omega)⟩;simp only [vD,hk,dT];intro x _;simp [qAI,hp.qE1 hk]
theorem qM (gl) (p:Z0) (hs:Sml p):qb prog gl 39 [pav p] (λ_ y _=>y=bv (jF p)):=by
 refine qb.Zl func39 [.tmp 2] ntmps39 λC w g root=>?_
 cases hsh:jh p with
 | false =>
  have fx:= hsh;have c1:=bn gl p hs;refine qG ?_;clear fx c1;refine qD [] .nil qE ?_;simp [jF,hsh]
 | true =>
  have hp:=Z7.of hs hsh;have hh:=hp.Zc;have hl7:=hp.len;have hpo:jF p=(List.range p.length).all (λb=>b==0||vD p b):=by simp only [jF,hsh,pP]
  rw [hpo];have fx:= hsh;have c1:=bn gl p hs;have e1:=dh gl p hs hh hp.names;refine qG ?_;clear fx c1 e1
  first|rintro K hK y H' ⟨rfl,hO⟩|rintro y H' ⟨rfl,hO⟩
  obtain⟨ho1,ho2⟩:=hO.qAH;refine⟨qB,?_⟩;refine qC ?_<|Zk;refine qX (λn st=>∃ i:Nat,n=p.length - i/\i<=p.length/\st.tm 9=.hs (.s 9) 1 0 p.length/\qBc st.hp (.s 9) p p.length/\st.tm 10=iv p.length/\st.tm 11=iv i/\(List.range i).all (λb=>b==0||vD p b)=true) p.length ?_ ?_
  .exact⟨0,qB,qB,qB,⟨zp,λj k hj hk=>CF⟩,qB,qB,qB⟩
  clear ho1 ho2 hO;rintro n st - - ⟨i,rfl,hi,h9,⟨ho1,ho2⟩,h10,h11,hal⟩;refine qC ?_<|aI h10<|h11;refine w9 zU (λht=>?_) (λhf=>?_)
  .have hlt:i<p.length:=zJ;obtain⟨k,hk⟩:=gX hlt;have hsg:=Hx (n:=.s 9) hlt;obtain⟨_,hse⟩:=gS hsg;clear ht
   all_goals have fx:=u4 h9 ho1 h10 h11 hsg hse<|hlt
   repeat' (first|refine qK ?_|refine λ(K:St->Prop) hK=>?_|refine qJ (hB:=(by first|((repeat' (first|exact .nil|refine .cons ?_ ?_|exact .refl _|exact vF vt vw|exact km vt vw eL|exact OM (n:=.s 9) (p:=p) (k:=k) ⟨zp,λj k hj hk=>CF⟩ hh hk));done)|fail)) (hF:=iP _ p hp i k hk) (h:=?_)|refine gn (h1:=λht=>?_) (h2:=λht=>?_))
   all_goals try clear fx
   .refine qD [] .nil qE ?_;have hd:vD p i=false:=zJ;have hi0:i≠0:=λe=>by rw [e,Qq hp] at hd;cases hd
    rw [vT hlt (show (i==0||vD p i)=false by simp [hd,hi0])]
    rfl
   .have hd:vD p i=true:=zJ;refine⟨p.length - (i+1),qA,i+1,rfl,qA,b5,⟨zp,λj k hj hk=>CF⟩,bV,zD,?_⟩;rw [jz,hal,hd];simp
  .have hge:i=p.length:=by
    have:¬ i<p.length:=ze;omega
   subst hge;refine qC ?_<|Zk;refine qD [] .nil bu (by simp [hal])
abbrev YO:Zh:=yz<|.l 11 [5,4,1,0]<|.l 12 []<|.done
theorem uN (gl) (v:Zd):qb prog gl 102 [Zd.av v] (λ_ y _=>y=iv (Hm.shown v)):=by
 refine qb.Zl func102 [.tmp 2] ntmps102 λC w g root=>?_;by_cases h1:v.1=1
 .skip
  refine qC ?_<| h1;refine qD [] .nil qE (by simp [Hm.shown,h1])
 by_cases h2:v.1=2
 .skip
  refine qC ?_<|aI h1<|h2;refine qD [] .nil qE (by simp [Hm.shown,h1,h2])
 by_cases h3:v.1=3
 .skip
  refine qC ?_<|jI h1 h2<|h3;refine qD [] .nil qE CG
 .skip
  refine qC ?_<|jI h1 h2<|h3;refine qD [] .nil qE CG
theorem cH (gl) (H:Nm->Option AO) (F:Nat) (p:Z0) (W:Z5) (e:Int) (hO:Z4 H F p W) :
  Zj prog gl 155 DM [.pt Mn 0,iv e] H (λ_ y H'=>y=bv false/\Z4 H' F p { W with en:=e }) noE:=by
 have hT:=hO.top;simp only [uU] at hT;refine Zj.Zl func155 [.tmp 4] ntmps155 (λ_=>qN) λC w g root hroot=>?_;refine qC ?_<| hT;refine qD [] .nil qE ⟨qB,Z4.fin ⟨by simp [hO.top,uU,hT],⟨by simp [hO.scs.top,hT],λj k hj hk=>by simp [hO.scs.sc j k hj hk,hT]⟩,l5,lf,hO.run.imp λl hl=>⟨hl.1,by simp [hl.2,hT]⟩,l7,λk g hg=>by simp [hO.bx k g hg,hT],l8,λk c hc=>(hO.cls k c hc).imp λms hm=>⟨by simp [hm.1,hT],hm.2⟩,λi a ha=>by simp [hO.env i a ha,hT],λi hi=>(hO.nms i hi).imp λms hm=>⟨by simp [hm.1,hT],hm.2⟩,λk i j hk hn=>if e:k=1/\i=0/\j=0 then .inl e else hO.only k i j hk dN⟩⟩
theorem iH {A G G2:Prop} (k:G2) (x:A) (h:A->Zx G2->G:=by
 intro fx kk;refine qG ?_
 repeat ((first|refine Ze (id:=1) YO mixed ?_);refine qZ ?_;refine qG ?_)
 exact kk.h):G:=h x ⟨k⟩
theorem lL (gl) (H:Nm->Option AO) (F:Nat) (p:Z0) (W:Z5) (a x:Nat) (hP:Z7 p) (hw:Zy p W) (ha:a<W.ZX.length) (hx:x<8) (hO:Z4 H F p W) :
  Zj prog gl 194 DM [.pt Mn 0,ptE a,iv x] H (λ_ y H'=>y=.tup [ptE (BW (W.loc p a x)),iv (Hm.qAG p (W.Z1 a) (q7 p (W.Z1 a) x))]/\Z4 H' F p W) noE:=by
 have hh:=hP.Zc;obtain⟨c,hc⟩:=gX ha;have Zs:=hw.qBC a c hc;obtain⟨k,hk⟩:=gX Zs;obtain⟨_,hkE⟩:=gS hk;have hbk:=jq hc;have hT:=hO.top;have hc1:=hO.scs.top;have hc2:=hO.scs.sc;have hE:=hO.env a c hc;simp only [uU] at hT;simp only [yU] at hE;have hsr:=ci (n:=.c Mn 0 1) (len:=p.length) (i:=p.length) Zs;rw [if_pos Zs] at hsr;obtain⟨_,hsE⟩:=gS hsr;have hka:qg p c.Z1=k.kind:=bY;refine Zj.Zl func194 [.tmp 6,.tmp 7] ntmps194 (λ_=>qN) λC w g root hroot=>?_;rcases dn (x:=(x:Int)) hh hw ha with⟨h1,h2⟩|⟨o,i,d,ho,h1,h2,h3,hd,hdb,hins⟩
 .rw [hbk] at h1;have hl:Hm.qAG p (W.Z1 a) (q7 p (W.Z1 a) x)=4:=by rw [hbk,h1];simp [Hm.qAG]
  rw [hl,h2];have fx:=u4 hT hE hc1 hsr hsE Zs<|h1;have c1:=zH gl p hP c.Z1 k hk x hx;refine iH ?_<|fx;clear fx c1;refine qD [] .nil qE ⟨by simp [BW],Z4.fin (have om:=hO;Z4.re om)⟩
 .rw [hbk] at h1;have hon:((o:Int) == -1)=false:=vP;have hol:o<p.length:=by rw [<- hdb];exact hw.qBC i d hd
  rw [h2];by_cases hob:o=c.Z1
  .have hai:i=a:=by rw [h3,yD hc hob.symm]
   have hsame:((c.Z1:Int)==(c.Z1:Int))=true:=qB;subst hob;by_cases hk2:k.kind=2
   .have hl:Hm.qAG p (W.Z1 a) (q7 p (W.Z1 a) x)=4:=by
     rw [hbk,h1];simp [Hm.qAG,hka,hk2]
    rw [hl];have hkb:(k.kind==2)=true:=by simpa using hk2
    have hsc:=hc2 c.Z1 k Zs hk;have fx:=jJ hT hE hc1 hsr hsE Zs h1 hon hsame hsc<|aI hkb<|@qL;have c1:=zH gl p hP c.Z1 k hk x hx;refine iH ?_<|fx;clear fx c1;refine qD [] .nil qE ⟨by simp [BW,hai],Z4.fin (have om:=hO;Z4.re om)⟩
   .have hl:Hm.qAG p (W.Z1 a) (q7 p (W.Z1 a) x)=2:=by
     rw [hbk,h1];simp [Hm.qAG,hka,hk2]
    rw [hl];have hkb:(k.kind==2)=false:=by simpa using hk2
    have hsc:=hc2 c.Z1 k Zs hk;have fx:=jJ hT hE hc1 hsr hsE Zs h1 hon hsame hsc<|aI hkb<|@qL;have c1:=zH gl p hP c.Z1 k hk x hx;refine iH ?_<|fx;clear fx c1;refine qD [] .nil qE ⟨by simp [BW,hai],Z4.fin (have om:=hO;Z4.re om)⟩
  .have hl:Hm.qAG p (W.Z1 a) (q7 p (W.Z1 a) x)=3:=by
    have e1:¬ (o:Int)<0:=qA;have e2:¬ (o:Int)=c.Z1:=qA;rw [hbk,h1];simp [Hm.qAG,e1,e2]
   rw [hl];have hne:((o:Int)==(c.Z1:Int))=false:=vP;obtain⟨u1,u2,u3⟩:=ui hh hw hc (λe=>hob e.symm) ho hins;have ha0:¬ a=0:=qA;rw [if_neg ha0] at hE;have fx:=aJ hT hE hc1 hsr hsE Zs h1 hon hne<|@qL;have c1:=zH gl p hP c.Z1 k hk x hx;refine iH ?_<|fx;clear fx c1;refine qX (λn st=>∃ b:Nat,n=b/\b<W.ZX.length/\uV W.ZX o b b=i/\qi p (W.Z1 b) o=true/\st.tm 8=iv o/\st.tm 9=ptE b/\Z4 st.hp F p W) c.up ?_ ?_
   .exact⟨c.up,rfl,qA,by rw [<- eD hh hw ho hc (λe=>hob e.symm) hins];exact h3.symm,u3,qB,qB,(have om:=hO;Z4.re om)⟩
   clear hT hc1 hc2 hE hO;rintro n st - - ⟨b,rfl,hb,hcl,hib,t8,t9,hO⟩;obtain⟨e,he⟩:=gX hb;have hE:=hO.env n e he;simp only [yU] at hE;by_cases heb:e.Z1=o
   .have hni:n=i:=Ge;subst hni;subst heb;have hsame:((e.Z1:Int)==(e.Z1:Int))=true:=qB;refine iH ?_<|yS t8 t9 hE hsame<|@qL;refine qD [] .nil qE ⟨by simp [BW],Z4.fin (have om:=hO;Z4.re om)⟩
   .obtain⟨e1,e2,e3⟩:=ui hh hw he heb ho hib;have hneb:((e.Z1:Int)==(o:Int))=false:=vP;have hn0:¬ n=0:=qA;rw [if_neg hn0] at hE;refine iH ?_<|yS t8 t9 hE hneb<|@qL;refine⟨e.up,qA,e.up,rfl,qA,?_,e3,fz,qB,(have om:=hO;Z4.re om)⟩;rw [<- hcl,eD hh hw ho he heb hib]
end Go.Proofs.YtdnebaieamppbaaGreatDoor
end
