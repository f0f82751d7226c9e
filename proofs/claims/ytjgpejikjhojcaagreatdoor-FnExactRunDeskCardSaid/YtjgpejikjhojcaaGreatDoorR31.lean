import Derived.Test.YtjgpejikjhojcaaGreatDoorR30
import Derived.RangeFuncFrom
import Derived.RangeFuncNested
import Derived.RangeFuncBound
import Derived.RangeFuncCalls
import Derived.RangeFuncLeaves
import Derived.Shelf.Abstract
import Derived.Shelf.RegionOpen
import Derived.OwnWalkIn
import Derived.TacticsInMore
import Derived.LoopNIn
import Derived.LoopIn
import Derived.Test.YtjgpejikjhojcaaGreatDoorR12
set_option linter.unusedSimpArgs false
set_option linter.unusedVariables false
set_option maxRecDepth 100000
set_option maxHeartbeats 4000000

section
namespace Go.Proofs.YtjgpejikjhojcaaGreatDoor
open Go Go.Hm Go.Proofs Tryz
abbrev Lj:qV:=.q 0<|.q 1<|.q 2<|.q 3<|.q 5<|.q 7<|.q 9<|.l 4 [9,7,5,2,1,0]<|.l 6 [9,7,2,1,0]<|.l 8 [9,2,1,0]<|.l 10 [2,1,0]<|.q 11<|.l 12 []<|.l 13 []<|.done
theorem nC {A G G2:Prop} (k:G2) (x:A) (h:A->jL G2->G:=by
 intro fx kk;refine qK ?_
 repeat ((first|refine qQ (id:=5) Lj mixed ?_);refine zK ?_;refine qK ?_)
 exact kk.h):G:=h x ⟨k⟩
theorem Cc (gl) (p:qC) (hs:jt p) (hh:zj p) (hn:∀ k∈p,lz k):qM prog gl 60 [jB p] (λr y H'=>y=.hs r 1 0 p.length/\ez H' r p p.length):=by
 have hpl:=hs.len;refine qM.q9 func60 [.tmp 2] ntmps60 λC w g root=>?_;refine nC ?_<|qd;refine zQ (λn st=>∃ i:Nat,n=p.length - i/\i<=p.length/\st.tm 1=.pt (.s 1) 0/\st.hp (.s 1)=some (.row 1 [[jc p]])/\st.tm 3=.hs (.s 3) 1 0 p.length/\st.tm 14=jc p/\st.tm 15=iv p.length/\st.tm 16=iv i/\ez st.hp (.s 3) p i) p.length ?_ ?_
 .refine⟨0,qB,qB,qB,qB,qB,qB,qB,qB,⟨?_,λj k hj=>qA⟩⟩;rw [<- Yg];simp [aH]
 rintro n st - - ⟨i,rfl,hi,h1,hp1,h3,h14,h15,h16,⟨ho1,ho2⟩⟩;refine nC ?_<|qk h14 h15<|h16;refine vC vE (λht=>?_) (λhf=>?_)
 .have hlt:i<p.length:=yW;obtain⟨k,hk⟩:=gX hlt;have hkm:=gM hk;obtain⟨hkp,hkb⟩:=hs.ko hk;clear ht
  all_goals have fx:=zD h14 h15 h16<|hk
  repeat' (first
   | refine wV ?_|refine bN ?_|refine af ?_|refine ae λK hK=>?_
   | ((with_reducible refine uz hK ?_);clear hK K)
   | (with_reducible first|refine wT ?_|refine cY ?_|refine dE ?_|refine cX ?_|refine bL ?_|refine bi ?_|refine gA ?_|refine cZ qe ?_)
   | refine dG ?_
   | refine bO ?_
   | (with_reducible first|refine wB ?_|refine ag (h:=?_)|refine dk (h:=?_)|refine iX (h:=?_)|refine iY (h:=?_)|refine lr (h:=?_)|refine lq (h:=?_))
   | ((with_reducible refine cj 96 rfl ?_);refine zH (hF:=Xh _ k (hn k hkm) (hs.ko hk)) (h:=?_))
   | ((with_reducible refine cj 97 rfl ?_);refine zH (hF:=PR _ k (hn k hkm) (hs.ko hk)) (h:=?_))
   | ((with_reducible refine cj 98 rfl ?_);refine zH (hF:=QQ _ k _ (hn k hkm) (hs.ko hk)) (h:=?_))
   | (with_reducible refine we (h:=?_))
   | refine bz (h1:=?_)|refine dJ (h1:=?_)
   | (refine qQ (id:=5) Lj mixed λK hK=>?_)
   | ((with_reducible refine cE hK ?_);clear hK K)
   | ((with_reducible refine ah ?_);first|refine lu (h:=?_)|refine pu (h:=?_)|refine pr (h:=?_)|refine pw (h:=?_))
   | ((with_reducible refine ah ?_);refine pq (h1:=λht=>?_) (h2:=λht=>?_))
   | refine ik rfl ?_|refine oN ?_ ?_|refine oO ?_ ?_ ?_|(with_reducible refine aI ?_ ?_)|exact iQ|refine iZ (h2:=?_)
   | fail)
  all_goals try clear fx
  refine zQ (λn st=>∃ j:Nat,n=k.params.length - j/\j<=k.params.length/\st.tm 1=.pt (.s 1) 0/\st.hp (.s 1)=some (.row 1 [[jc p]])/\st.tm 3=.hs (.s 3) 1 0 p.length/\st.tm 14=jc p/\st.tm 15=iv p.length/\st.tm 16=iv i/\ez st.hp (.s 3) p i/\st.tm 4=iv i/\st.tm 5=.pt (.s 5) 0/\st.hp (.s 5)=some (.row 4 [k.cells])/\st.tm 6=.pt (.s 6) 0/\st.hp (.s 6)=some (.row 43 [yS i k aH (k.params.take j)])/\st.tm 35=jG k.params/\st.tm 36=iv k.params.length/\st.tm 37=iv j) k.params.length ?_ ?_
  .refine⟨0,qB,qB,zl,uS,uT,by simp [h14],by simp [h15],by simp [h16],⟨?_,λj q hj hq=>?_⟩,qB,qB,qB,qB,?_,qB,qB,qB⟩
   .simp [ho1]
   .simp [ho2 j q hj hq]
   .simp [yS,aH]
    rfl
  clear h1 hp1 h3 h14 h15 h16 ho1 ho2;rintro n st - - ⟨j,rfl,hj,h1,hp1,h3,h14,h15,h16,⟨ho1,ho2⟩,h4,h5,hp5,h6,hp6,h35,h36,h37⟩;refine nC ?_<|qk h35 h36<|h37;refine vC vE (λht=>?_) (λhf=>?_)
  .have hlj:j<k.params.length:=yW;obtain⟨y,hy⟩:=gX hlj;have hto:=(hn k hkm).params y (gM hy);obtain⟨x,rfl⟩:∃ x:Nat,y=x:=⟨y.toNat,qA⟩;have hx8:(x:Int)<8:=qA;clear ht;refine nC ?_<|jI h35 h36 h37 hy h6 hp6<|hx8;refine⟨k.params.length - (j+1),qA,j+1,qB,qA,zl,uS,uT,by simp [h14],by simp [h15],by simp [h16],⟨?_,λj q hj hq=>?_⟩,wv,yH,wt,vt,?_,by simp [h35],by simp [h36],jM⟩
   .simp [ho1]
   .simp [ho2 j q hj hq]
   .rw [uG,hy];simp [<- Yl (y:=(x:Int)) rfl (by omega:x<8)]
  .have hge:j=k.params.length:=by
    have:¬ j<k.params.length:=vT;omega
   subst hge;rw [kC] at hp6;clear hf hj;obtain⟨hq1,hq2,hq3⟩:=hh i k hk;refine nC ?_<| h4;refine vC vE (λht=>?_) (λhf=>?_)
   .have hi0:0<i:=yW;obtain⟨q,hq⟩:∃ q:Nat,k.parent=q:=⟨k.parent.toNat,qA⟩;have hqi:q<i:=qA;have hqp:q<p.length:=qA;have hsg:=A3 (n:=.s 3) (i:=i) hqp;rw [if_pos hqi] at hsg;obtain⟨_,hse⟩:=gS hsg;refine nC ?_<|qh h3 ho1 h4 h5 hp5 h6 hp6 hq hsg hse hlt hqp<|aI hqi<|h16;refine⟨p.length - (i+1),qA,i+1,rfl,qA,zl,uS,uT,by simp [h14],by simp [h15],by simp [h16];exact qm qA qA,⟨?_,λj r hj hr=>?_⟩⟩
    .simp [ho1,M1]
    .rcases BA.1 hj with hlj|rfl
     .have hne:¬ j=i:=qA;have hrp:=(hh j r hr).2.1;have ho:=Ud (n:=.s 3) (a:=6) (i:=i) (q:=r.parent) qB qB qA;simp [ho2 j r hlj hr,hne,ho]
     .rw [hk] at hr;obtain rfl:=sI hr;have hne:¬ q=j:=qA;have hso:=Yq (i:=j) (k:=k) (o:=aH) (o':=.pt (.c (.s 3) q 0) 0) (ps:=k.params);simp [hq,Ue,hp6,hne,hso]
   .have hi0:i=0:=by
     have:¬ 0<i:=vT;omega
    refine nC ?_<|jI h3 ho1 h4 h6 hp6 hlt<|h16;refine⟨p.length - (i+1),qA,i+1,rfl,qA,zl,uS,uT,by simp [h14],by simp [h15],by simp [h16];exact qm qA qA,⟨?_,λj r hj hr=>?_⟩⟩
    .simp [ho1,M1]
    .obtain rfl:j=i:=qA;rw [hk] at hr;obtain rfl:=sI hr;rw [Uf qA];simp [hp6]
 .have hge:i=p.length:=by
   have:¬ i<p.length:=vT;omega
  subst hge;refine nC ?_<| h3;refine qF [(.s 2,root)] (.one rfl) qE ⟨qB,⟨?_,λj r hj hr=>?_⟩⟩
  .simp [ho1,A4 (n:=.s 2) (m:=root) (f:=zL zn [(.s 2,root)]) qB]
  .simp [ho2 j r hj hr,sx (n:=.s 2) (m:=root) (f:=zL zn [(.s 2,root)]) qB]
theorem E4 (gl) (i:Nat) (k:qX) (o:AV) (ps:List Int) (x:Nat) (hx:x<8):qM prog gl 111 [.el (yS i k o ps) 0,iv x] (λ_ y _=>y=bv (decide ((x:Int)∈k.dc 9)||decide ((x:Int)∈k.dc 10))):=by
 have h8:(x:Int)<8:=qA;have hg:=Cb (i:=i) (k:=k) (o:=o) (ps:=ps) hx;have hn:=M8 (i:=i) (k:=k) (o:=o) (ps:=ps) hx;refine qM.q9 func111 [.tmp 4] ntmps111 λC w g root=>?_
 all_goals have fx:=qk h8 hg<|hn
 repeat' (first|refine zm ?_|refine λ(K:St->Prop) hK=>?_|(with_reducible refine ye (λht=>?_) (λht=>?_)))
 all_goals try clear fx
 all_goals refine qF [] .nil qE ?_
 all_goals simp_all
theorem GP (gl) (i:Nat) (k:qX) (o:AV) (ps:List Int) (x:Nat) (hx:x<8):qM prog gl 159 [.el (yS i k o ps) 0,iv x] (λ_ y _=>y=bv (k.kind != 0&&decide ((x:Int)∈k.bd)&&!(decide ((x:Int)∈k.dc 9)||decide ((x:Int)∈k.dc 10)))):=by
 have h8:(x:Int)<8:=qA;have hb:=M7 (i:=i) (k:=k) (o:=o) (ps:=ps) hx;refine qM.q9 func159 [.tmp 4] ntmps159 λC w g root=>?_
 all_goals have fx:=aI h8<|hb
 repeat' (first|refine zm ?_|refine λ(K:St->Prop) hK=>?_|refine zH (hF:=E4 _ _ _ _ _ _ hx) (h:=?_)|(with_reducible refine ye (λht=>?_) (λht=>?_)))
 all_goals try clear fx
 all_goals refine qF [] .nil qE ?_
 all_goals simp_all
theorem qAz (gl) (i:Nat) (k:qX) (o:AV) (ps:List Int) (x:Nat) (hx:x<8):qM prog gl 165 [.el (yS i k o ps) 0,iv x] (λ_ y _=>y=bv (decide ((x:Int)∈k.rd)||decide ((x:Int)∈k.bd)||(decide ((x:Int)∈k.dc 9)||decide ((x:Int)∈k.dc 10)))):=by
 have h8:(x:Int)<8:=qA;have hb:=M7 (i:=i) (k:=k) (o:=o) (ps:=ps) hx;have hr:=Yp (i:=i) (k:=k) (o:=o) (ps:=ps) hx;refine qM.q9 func165 [.tmp 4] ntmps165 λC w g root=>?_
 all_goals have fx:=qk h8 hb<|hr
 repeat' (first|refine zm ?_|refine λ(K:St->Prop) hK=>?_|refine zH (hF:=E4 _ _ _ _ _ _ hx) (h:=?_)|(with_reducible refine ye (λht=>?_) (λht=>?_)))
 all_goals try clear fx
 all_goals refine qF [] .nil qE ?_
 all_goals simp_all
end Go.Proofs.YtjgpejikjhojcaaGreatDoor
end
section
namespace Go.Proofs.YtjgpejikjhojcaaGreatDoor
open Go Go.Hm Go.Proofs Go.RowKit Go.Shelf Tryz
attribute [local go_sem] Oper.semAt_some
abbrev lx (g:Gh) (w0:World) (p:qC):={ a:Option Addr×Nat // ∃ q,p[a.2]?=some q/\q.kind=1/\RV g w0 (.pointer a.1) (yl p a.2) }
def pP (v:Value) (W:World):Nat:=match v with
 | .pointer (some a)=>(match W.cell? a with|some (.int _ j)=>j.toNat+1|_=>0)
 | _=>0
theorem SZ (n l Bn:Nat) (p:qC) (hh:zj p) (g:Gh) (w0:World) (hC:∀ b,g.C b->b<w0.heap.size) (j0:Nat) (k0:qX) (hk0:p[j0]?=some k0) (a0:Option Addr) (ha0:RV g w0 (.pointer a0) (yl p j0)) (J Jx:List (lx g w0 p)->World->Prop) (hn:1<=n)
  (hY:∀ pre x W,J pre W->pre.length<p.length->YieldAt Fence.wide (n - 1) prog l #[.pointer x.1.1] W λe W' =>
    (e=.returned (.bool true)/\J (pre++[x]) W'/\Below w0.heap.size W W')\/(e=.returned (.bool false)/\Jx (pre++[x]) W'))
  (W:World) (hW:Below w0.heap.size w0 W) (hBn:W.cell? ⟨Bn,0,none⟩=some (.pointer a0)) (h0:J [] W) :
  CallsIn Fence.wide n prog 206 #[.func (.yield l) #[] #[],.pointer (some ⟨Bn,0,none⟩)] W λe W'=>(∃ v,e=.returned v) /\
   ((∃ ys,(∃ j,j<0/\Path p k0.parent (ys.map (λy:lx g w0 p=>y.1.2)) j)/\J ys W')\/(∃ pre,(∃ j,Path p k0.parent (pre.map (λy:lx g w0 p=>y.1.2)) j)/\Jx pre W')):=by
 obtain⟨b0,o0,hb0,hs0⟩:=ha0.Ca hh hk0;obtain rfl:a0=some ⟨b0,o0,none⟩:=by simpa using hb0
 obtain⟨a1,hc1,hr1⟩:=hs0.out;have hc1':W.cell? ⟨b0,o0+2,none⟩=some (.pointer a1):=(hW.cell (p:=⟨b0,o0+2,none⟩) (hC b0 hs0.C)).trans hc1;refine callsIn_of_wp func206 rfl trivial ?_ rfl;simp only [ntmps206,List.size_toArray,fG,il,Nat.reduceAdd,Nat.reduceSub,Array.replicate_succ,Array.replicate_zero,List.push_toArray,List.append_toArray,rG,fK]
 gi_wp2
 gi_loopw [3] (λv wr=>∃ (pre:List (lx g w0 p)) (j:Int),RV g w0 v (yl p j)/\(-1<=j/\j<p.length)/\Path p k0.parent (pre.map (λy:lx g w0 p=>y.1.2)) j/\J pre wr/\Below w0.heap.size w0 wr) (λv wr=>pP v wr)
 case atStart =>
  have h1:=hh j0 k0 hk0;have h2:=(gS hk0).1;exact⟨[],k0.parent,hr1,qA,.nil _,h0,hW⟩
 case round =>
  obtain⟨pre,j,hr,hj,hpath,hJ,hB⟩:=hrel;by_cases hneg:j<0
  .obtain rfl:=hr.M3 hneg
   gi_wp2
   go_end0
   exact⟨⟨_,rfl⟩,.inl ⟨pre,⟨j,hneg,hpath⟩,hJ⟩⟩
  .obtain⟨j,rfl⟩:∃ i:Nat,j=i:=⟨j.toNat,qA⟩;obtain⟨k,hk⟩:∃ k,p[j]?=some k:=⟨_,gE qA⟩;obtain⟨b,o,rfl,hs⟩:=hr.Ca hh hk;have hb:=hC b hs.C;obtain⟨a2,hc2,hr2⟩:=hs.out;obtain⟨hp1,hp2,_⟩:=hh j k hk;have hv1:wr.cell? ⟨b,o+1,none⟩=some (.int .i64 k.kind):=(hB.cell (p:=⟨b,o+1,none⟩) hb).trans hs.kind;have hv0:wr.cell? ⟨b,o,none⟩=some (.int .i64 j):=(hB.cell (p:=⟨b,o,none⟩) hb).trans hs.idx;have hv2:wr.cell? ⟨b,o+2,none⟩=some (.pointer a2):=(hB.cell (p:=⟨b,o+2,none⟩) hb).trans hc2
   have hlf:∀ W',Below w0.heap.size w0 W'->pP (.pointer a2) W'<pP (.pointer (some ⟨b,o,none⟩)) wr:=by
    intro W' hB';have e:pP (.pointer (some ⟨b,o,none⟩)) wr=j+1:=by simp [pP,hv0]
    rw [e];by_cases hn:k.parent<0
    .have:(Value.pointer a2)=.pointer none:=hr2.M3 hn;obtain rfl:a2=none:=by simpa using this
     simp [pP]
    .obtain⟨q,hq⟩:∃ q:Nat,k.parent=q:=⟨k.parent.toNat,qA⟩;obtain⟨r,hqr⟩:∃ r,p[q]?=some r:=⟨_,gE qA⟩;rw [hq] at hr2;obtain⟨b',o',e',hs'⟩:=hr2.Ca hh hqr;obtain rfl:a2=some ⟨b',o',none⟩:=by simpa using e'
     have hb':=hC b' hs'.C;have:W'.cell? ⟨b',o',none⟩=some (.int .i64 q):=(hB'.cell (p:=⟨b',o',none⟩) hb').trans hs'.idx;simp [pP,this];omega
   by_cases hk1:k.kind=1
   .rw [hk1] at hv1;have hlen:=hpath.len hh;have hjj:=(gS hk0).1;have hpp:=(hh j0 k0 hk0).2.1;simp only [List.length_map] at hlen;obtain⟨fn,tmps,assign,body,hy,hR⟩:=hY pre ⟨(some ⟨b,o,none⟩,j),k,hk,hk1,hr⟩ wr hJ qA;dsimp only at hy
    gi_wp2
    refine hR.mono ?_;rintro e W3 (⟨rfl,hJ3,hk3⟩|⟨rfl,hJx3⟩)
    .have hB3:=hB.trans hk3;have hq3:W3.cell? ⟨b,o+2,none⟩=some (.pointer a2):=(hB3.cell (p:=⟨b,o+2,none⟩) hb).trans hc2
     gi_wp2
     go_roundw
     case rel=>exact⟨_,k.parent,hr2,qA,by simpa using hpath.NF hk hk1,hJ3,hB3⟩
     case measure=>exact hlf _ hB3
    .gi_wp2
     refine bodyPost_ret (results_none rfl _ _ _) rfl ?_;exact⟨⟨_,rfl⟩,.inr ⟨_,⟨k.parent,by simpa using hpath.NF hk hk1⟩,hJx3⟩⟩
   .have hk2:(k.kind==1)=false:=by simpa using hk1
    gi_wp2
    refine⟨λ_ h=>kR,?_⟩
    gi_wp2
    go_roundw
    case rel=>exact⟨_,k.parent,hr2,qA,hpath.ZL hk hk1,hJ,hB⟩
    case measure=>exact hlf _ hB
theorem S0 (n Bn:Nat) (p:qC) (hh:zj p) (g:Gh) (w0 w:World) (hC:∀ b,g.C b->b<w0.heap.size) (j0:Nat) (k0:qX) (hk0:p[j0]?=some k0) (a0:Option Addr) (ha0:RV g w0 (.pointer a0) (yl p j0)) (hn:1<=n)
  (hw:Below w0.heap.size w0 w) (hBl:Bn<w.heap.size) (hc:w.cell? ⟨Bn,0,none⟩=some (.pointer a0)) :
  SeqStopsK Fence.wide n prog 206 #[.pointer (some ⟨Bn,0,none⟩)] (λx:lx g w0 p=>#[Value.pointer x.1.1]) (Below w0.heap.size)
   (λys=>∃ j,j<0/\Path p k0.parent (ys.map (λy:lx g w0 p=>y.1.2)) j) (λpre=>∃ j,Path p k0.parent (pre.map (λy:lx g w0 p=>y.1.2)) j) p.length w:=λl J Jx W hW _ _ hY h0 =>
 SZ n l Bn p hh g w0 hC j0 k0 hk0 a0 ha0 J Jx hn hY W (hw.trans (hW.mono hw.size)) ((hW.cell (p:=⟨Bn,0,none⟩) hBl).trans hc) h0
theorem R5 (n:Nat) (a0:Option Addr) (w:World) :
  CallsIn Fence.wide n prog 158 #[.pointer a0] w λe w'=>e=.returned (.func (.func 206) #[] #[.pointer (some ⟨w.heap.size,0,none⟩)])/\w'=w.alloc (.cells #[.pointer a0] 129):=by
 refine callsIn_of_wp func158 rfl trivial ?_ rfl;simp only [ntmps158,List.size_toArray,fG,il,Nat.reduceAdd,Nat.reduceSub,Array.replicate_succ,Array.replicate_zero,List.push_toArray,List.append_toArray,rG,fK]
 gi_wp2
 go_ret
 exact⟨rfl,rfl⟩
end Go.Proofs.YtjgpejikjhojcaaGreatDoor
end
section
namespace Go.Proofs.YtjgpejikjhojcaaGreatDoor
open Go Go.Hm Go.Proofs Go.RowKit Go.Shelf Tryz
attribute [local go_sem] Oper.semAt_some
theorem Pk {W:World} {B:Nat} {v:Value} {t:TypeId} (h:W.heap[B]?=some (.cells #[v] t (0,0))):W.cell? ⟨B,0,none⟩=some v/\W.frozen? ⟨B,0,none⟩=false:=by
 constructor <;> simp [World.cell?,World.frozen?,h]
theorem EX (W:World) (v:Value) (t:TypeId):(W.alloc (.cells #[v] t)).cell? ⟨W.heap.size,0,none⟩=some v/\(W.alloc (.cells #[v] t)).frozen? ⟨W.heap.size,0,none⟩=false:=Pk (World.alloc_heap_new W _)
theorem EW {W:World} {a:Addr} {v:Value} (o:Obj) (h:W.cell? a=some v):(W.alloc o).cell? a=some v:=cell_kept h (World.grownBy_alloc W o none) (λr e=>vS)
theorem RX {W:World} {a:Addr} {v:Value} (o:Obj) (h:W.cell? a=some v) (hf:W.frozen? a=false):(W.alloc o).frozen? a=false:=(frozen_kept h (World.grownBy_alloc W o none) (λr e=>vS)).trans hf
theorem Uj (n:Nat) (hn:3<=n) (p:qC) (hh:zj p) (hb0:∀ k,p[0]?=some k->k.kind≠1) (g:Gh) (w:World) (hC:∀ b,g.C b->b<w.heap.size) (i:Nat) (k:qX) (hk:p[i]?=some k) (a0:Option Addr) (ha:RV g w (.pointer a0) (yl p i)) (x:Nat) (hx:x<8) :
  CallsIn Fence.wide n prog 112 #[.pointer a0,.int .i64 x] w λe W'=>e=.returned (.int .i64 (yK p x p.length k.parent))/\Below w.heap.size w W':=by
 have h1:1<=n:=qA;refine callsIn_of_wp_marks func112 rfl trivial ?_ rfl;simp only [ntmps112,List.size_toArray,fG,il,Nat.reduceAdd,Nat.reduceSub,Array.replicate_succ,Array.replicate_zero,List.push_toArray,List.append_toArray,rG,fK]
 gi_wp2_with (refine⟨trivial,?_⟩;gi_at_call 158;refine (R5 (n - 1) _ _).mono ?_;rintro e w' ⟨rfl,rfl⟩)
 have c0:=EX w (.int .i64 x) 3;have c1:=EX (w.alloc (.cells #[.int .i64 x] 3)) (.int .i64 0) 3;have c2:=EX ((w.alloc (.cells #[.int .i64 x] 3)).alloc (.cells #[.int .i64 0] 3)) (.pointer a0) 129;simp only [World.size_alloc] at c1 c2;have hB0:Below w.heap.size w (((w.alloc (.cells #[.int .i64 x] 3)).alloc (.cells #[.int .i64 0] 3)).alloc (.cells #[.pointer a0] 129)):=(((Below.refl _ w).alloc (qa _) _).alloc qB _).alloc qu _
 refine wpIn_rangeFunc_ownF rfl h1 (gf:=206) (lb:=#[.pointer (some ⟨w.heap.size+1+1,0,none⟩)]) rfl trivial (enters_of func206 qc rfl)
  (S0 (n - 1) (w.heap.size+1+1) p hh g w _ hC i k hk a0 ha qA hB0 qB c2.1) belowK_t (belowK_b qu) (Below.refl _ _) (λ_=>rfl)
  (λpre W=>((∀ y∈pre,found p x y.1.2=none)/\W.cell? ⟨w.heap.size,0,none⟩=some (.int .i64 x)/\W.cell? ⟨w.heap.size+1,0,none⟩=some (.int .i64 0)/\W.frozen? ⟨w.heap.size+1,0,none⟩=false)/\Below w.heap.size w W)
  (λc pre W=>(c=.ret/\(∃ l y r,pre=l++[y]/\(∀ y∈l,found p x y.1.2=none)/\found p x y.1.2=some r/\W.cell? ⟨w.heap.size+1,0,none⟩=some (.int .i64 r)))/\Below w.heap.size w W)
  (OwnFrom.and (Own.from (λs A B row hs hg hr=>⟨hs.1,cell_kept hs.2.1 hg hr,cell_kept hs.2.2.1 hg hr,(frozen_kept hs.2.2.1 hg hr).trans hs.2.2.2⟩) _) (ownFrom_below (qa _) qu))
  (λc=>OwnFrom.and (Own.from (λs A B row hs hg hr=>⟨hs.1,by obtain⟨l,y,r,e1,e2,e3,e4⟩:=hs.2;exact⟨l,y,r,e1,e2,e3,cell_kept e4 hg hr⟩⟩) _) (ownFrom_below (qa _) qu))
  ⟨⟨qB,EW _ (EW _ c0.1),EW _ c1.1,RX _ c1.1 c1.2⟩,hB0⟩
  (λy=>{ tmps:=#[.pointer a0,.int .i64 x,undef,.pointer (some ⟨w.heap.size,0,none⟩),.pointer (some ⟨w.heap.size+1,0,none⟩),.pointer y.1.1,.pointer a0,.func (.func 206) #[] #[.pointer (some ⟨w.heap.size+1+1,0,none⟩)],.pointer y.1.1,undef,undef,undef,undef,undef,undef,undef,undef,undef,undef,undef,undef,undef],defers:=[] }) ?assign ?body ?done ?stop
 case assign =>
  intro l y W K hK
  gi_wp2
  exact hK
 case body =>
  rintro l pre ⟨⟨ay,j⟩,q,hq,hq1,hr⟩ W ⟨⟨hp,hcx,hcr,hfr⟩,hB⟩ _;dsimp only at hq hr ⊢
  obtain⟨b,o,rfl,hs⟩:∃ b o,ay=some ⟨b,o,none⟩/\HX g w p j q b o:=by
   obtain⟨b,o,e,h⟩:=hr.Ca hh hq;exact⟨b,o,by simpa using e,h⟩
  have hb:=hC b hs.C;have hg:W.cell? ⟨b,o+(27+x),none⟩=some (.bool (decide ((x:Int)∈q.dc 9))):=(hB.cell (p:=⟨b,o+(27+x),none⟩) hb).trans (hs.zJ x hx);have hidx:W.cell? ⟨b,o,none⟩=some (.int .i64 j):=(hB.cell (p:=⟨b,o,none⟩) hb).trans hs.idx;have h8:(x:Int)<8:=qA;have hg2:W.cell? ⟨b,o+27+x,none⟩=some (.bool (decide ((x:Int)∈q.dc 9))):=by rw [cF];exact hg
  have hmx:prog.follows .mixedOrders=true:=qc
  have hj0:0<j:=by
   rcases tj j with rfl|h
   .exact absurd hq1 (hb0 q hq)
   .exact h
  have hcall:∀ W',Below w.heap.size w W'->Calls prog 159 #[.pointer (some ⟨b,o,none⟩),.int .i64 x] W' λe W''=>e=.returned (.bool (uA j q x))/\Below W'.heap.size W' W'':=by
   intro W' hB';have hF:=GP (λ_=>none) j q (yl p q.parent) q.params x hx
   have e:(q.kind != 0&&decide ((x:Int)∈q.bd)&&!(decide ((x:Int)∈q.dc 9)||decide ((x:Int)∈q.dc 10)))=uA j q x:=by
    simp [uA,hq1,hj0,Bool.and_assoc]
   rw [e] at hF;refine qM.XZ hF (g:=g) (λb hb=>uQ (hC b hb) hB'.size) rfl ?_;intro a v y hv hy
   match a,hv,hy with
   | 0,hv,hy =>
    obtain rfl:=sI hv;obtain rfl:=sI hy;have:=hr.S9 hC hB'
    rwa [cu hh hq] at this
   | 1,hv,hy =>
    obtain rfl:=sI hv;obtain rfl:=sI hy;exact .sc _
   | a+2,hv,_=>simp at hv
  have hBd:Below w.heap.size w W.drew:=⟨hB.os,hB.tape,hB.output,hB.size,hB.block⟩;have hbW:b<W.drew.heap.size:=uQ hb hB.size
  have hrW:w.heap.size+1<W.drew.heap.size:=by
   refine Nat.lt_of_not_le λhge=>?_;have:W.heap[w.heap.size+1]?=none:=Array.getElem?_eq_none hge;simp [World.cell?,this] at hcr
  have hko:∀ w3,Below W.drew.heap.size W.drew w3->KeepsOthers W w3:=λw3 h=>⟨h.size,λk o hk _=>(h.block k (mE.1 hk).1).trans hk⟩;have hfd:found p x j=if (x:Int)∈q.dc 9 then some (-1) else if uA j q x then some (j:Int) else none:=by simp only [found,hq]
  by_cases hm:(x:Int)∈q.dc 9
  .rw [decide_eq_true hm] at hg hg2;rw [if_pos hm] at hfd
   gi_wp2
   gi_region_o
   all_goals gi_wp2
   all_goals exact⟨(KeepsOthers.drew W).trans (KeepsOthers.setCell _ _ _),⟨rfl,pre,⟨(some ⟨b,o,none⟩,j),q,hq,hq1,hr⟩,-1,rfl,hp,hfd,World.cell?_setCell_same' _ _ _ (by rw [hcr];rfl)⟩,hBd.setCell (p:=⟨w.heap.size+1,0,none⟩) qB _⟩
  .rw [decide_eq_false hm] at hg hg2;rw [if_neg hm] at hfd
   cases hl:uA j q x with
   | true =>
    rw [hl] at hcall;rw [if_pos hl] at hfd
    gi_wp2
    gi_region_o
    all_goals gi_wp2_with (refine⟨trivial,λ_=>qA,?_⟩;refine (CallsIn.inRound l (callsIn_wide.2 (hcall _ hBd))).mono ?_;rintro e w3 ⟨rfl,hbw⟩;have hi3:=(hbw.cell (p:=⟨b,o,none⟩) hbW).trans hidx;have hc3:=(hbw.cell (p:=⟨w.heap.size+1,0,none⟩) hrW).trans hcr;have hf3:=(hbw.frozen (p:=⟨w.heap.size+1,0,none⟩) hrW).trans hfr)
    all_goals exact⟨(hko _ (by assumption)).trans (KeepsOthers.setCell _ _ _),⟨rfl,pre,⟨(some ⟨b,o,none⟩,j),q,hq,hq1,hr⟩,(j:Int),rfl,hp,hfd,World.cell?_setCell_same' _ _ _ (by rw [hc3];rfl)⟩,(hBd.trans (Below.mono (by assumption) hBd.size)).setCell (p:=⟨w.heap.size+1,0,none⟩) qB _⟩
   | false =>
    rw [hl] at hcall;rw [if_neg (by rw [hl];decide)] at hfd
    gi_wp2
    gi_region_o
    all_goals gi_wp2_with (refine⟨trivial,λ_=>qA,?_⟩;refine (CallsIn.inRound l (callsIn_wide.2 (hcall _ hBd))).mono ?_;rintro e w3 ⟨rfl,hbw⟩)
    all_goals
     have hWw:Below W.drew.heap.size W.drew w3:=by assumption
     have hB3:Below w.heap.size W.drew w3:=hWw.mono hBd.size;have hBW:Below w.heap.size W w3:=⟨hB3.os,hB3.tape,hB3.output,hB3.size,hB3.block⟩;have hsW:w.heap.size<W.drew.heap.size:=Nat.lt_of_succ_lt hrW;refine⟨hko _ hWw,hBW,⟨λy hy=>?_,(hWw.cell (p:=⟨w.heap.size,0,none⟩) hsW).trans hcx,(hWw.cell (p:=⟨w.heap.size+1,0,none⟩) hrW).trans hcr,(hWw.frozen (p:=⟨w.heap.size+1,0,none⟩) hrW).trans hfr⟩,hB.trans hBW⟩;rcases y9.1 hy with hy|hy
     .exact hp y hy
     .obtain rfl:=vD.1 hy;exact hfd
 case done =>
  rintro D ys W hD ⟨je,hneg,hpath⟩ ⟨⟨hne,_,hcr,hfr⟩,hB⟩ hK
  gi_wp2
  have hK':=(KeepsOthers.setCell W ⟨w.heap.size+1,0,none⟩ (.int .i64 (-1))).same D _ hK rfl;refine⟨qB,.inl ⟨_,_,rfl,run_takeDeferred hK',?_⟩⟩;have hc5:=cell_kept (World.cell?_setCell_same' W ⟨w.heap.size+1,0,none⟩ (.int .i64 (-1)) (by rw [hcr];rfl)) (grownBy_putObj' _ D (.deferred none)) (λr e=>by cases e;exact⟨_,hK',rfl⟩)
  have hout:yK p x p.length k.parent=-1:=by
   rw [hpath.outer hh hb0 (x:=x) (λy hy=>by obtain⟨z,hz,rfl⟩:=bV.1 hy;exact hne z hz),AM qA]
  refine⟨.int .i64 (-1),?_,by rw [hout],(hB.setCell (p:=⟨w.heap.size+1,0,none⟩) qB _).trans (belowK_b (w:=w) (qa _) _ D _ _ (by simp at hD;omega) hK' rfl rfl)⟩;simp [results,Tryz.f112,go_sem,hc5]
 case stop =>
  rintro D c pre W hD ⟨je,hpath⟩ ⟨⟨rfl,l,y,r,rfl,hno,hf,hcr⟩,hB⟩ hK
  gi_wp2
  refine⟨qB,.inl ⟨_,_,rfl,run_takeDeferred hK,?_⟩⟩;have hc5:=cell_kept hcr (grownBy_putObj' _ D (.deferred none)) (λr e=>by cases e;exact⟨_,hK,rfl⟩)
  have hout:yK p x p.length k.parent=r:=by
   rw [mJ,List.map_singleton] at hpath;exact Path.found hh hpath hb0 (λy hy=>by obtain⟨z,hz,rfl⟩:=bV.1 hy;exact hno z hz) hf
  refine⟨.int .i64 r,?_,by rw [hout],hB.trans (belowK_b (w:=w) (qa _) W D _ _ (by simp at hD;omega) hK rfl rfl)⟩;simp [results,Tryz.f112,go_sem,hc5]
theorem Ui (gl) (p:qC) (hh:zj p) (hb0:∀ k,p[0]?=some k->k.kind≠1) (i:Nat) (k:qX) (hk:p[i]?=some k) (x:Nat) (hx:x<8) :
  qM prog gl 112 [yl p i,iv x] (λ_ y _=>y=iv (outer p i x)):=by
 refine qM.U1 ⟨_,func112,qc,qc⟩ λw g args hC hsz hargs=>?_;rw [lZ hh hk]
 obtain⟨v0,v1,rfl⟩:∃ v0 v1,args=#[v0,v1]:=by
  refine⟨args[0]'(by simp at hsz;omega),args[1]'(by simp at hsz;omega),?_⟩;apply Array.ext
  .simpa using hsz
  .intro i h1 h2
   match i with
   | 0=>rfl
   | 1=>rfl
   | i+2=>simp at hsz;omega
 have h0:=hargs 0 v0 _ rfl rfl;have h1:=hargs 1 v1 _ rfl rfl;obtain⟨a0,rfl⟩:=h0.ptr;obtain rfl:=h1.zy;exact callsIn_wide.1 (Uj 3 (qa _) p hh hb0 g w hC i k hk a0 h0 x hx)
end Go.Proofs.YtjgpejikjhojcaaGreatDoor
end
section
namespace Go.Proofs.YtjgpejikjhojcaaGreatDoor
open Go Go.Hm Go.Proofs Tryz
abbrev iP (p:qC) (i:Nat) (k:qX):AV:=.el (yS i k (yl p k.parent) k.params) 0
theorem LO (gl) (p:qC) (hp:zr p) (i:Nat) (k:qX) (hk:p[i]?=some k) (x:Nat) (hx:x<8):qM prog gl 112 [iP p i k,iv x] (λ_ y _=>y=iv (outer p i x)):=by
 have:=Ui gl p hp.jj hp.RY i k hk x hx
 rwa [cu hp.jj hk] at this
theorem cx (gl) (p:qC) (hp:zr p) (i:Nat) (k:qX) (hk:p[i]?=some k) (x:Nat) (hx:x<8):qM prog gl 137 [iP p i k,iv x] (λ_ y _=>y=iv (zI p i x)):=by
 have h8:(x:Int)<8:=qA;have hg:=Cb (i:=i) (k:=k) (o:=yl p k.parent) (ps:=k.params) hx;have hk0:=hp.dW hk;refine qM.q9 func137 [.tmp 4] ntmps137 λC w g root=>?_
 all_goals have fx:=aI h8<|hg
 repeat' (first|refine zm ?_|refine λ(K:St->Prop) hK=>?_|refine zH (hF:=GP _ _ _ _ _ _ hx) (h:=?_)|refine zH (hF:=LO _ p hp i k hk x hx) (h:=?_)|(with_reducible refine ye (λht=>?_) (λht=>?_))|refine vb (h1:=λht=>?_) (h2:=λht=>?_))
 all_goals try clear fx
 all_goals refine qF [] .nil qE ?_
 all_goals simp_all [zI,uA]
 all_goals grind
theorem qBD (gl) (p:qC) (hp:zr p) (i:Nat) (k:qX) (hk:p[i]?=some k):qM prog gl 73 [iP p i k] (λ_ y _=>y=bv (aB p i)):=by
 have hdo:aB p i=(List.range 8).all (λx=>w4 p i k (x:Int)):=by simp only [aB,hk]
 rw [hdo];refine qM.q9 func73 [.tmp 2] ntmps73 λC w g root=>?_;refine qJ ?_<|qd;refine zQ (λn st=>∃ x:Nat,n=8 - x/\x<=8/\st.tm 0=iP p i k/\st.tm 4=iv x/\(List.range x).all (λx=>w4 p i k (x:Int))=true) 8 ⟨0,qB⟩ ?_;rintro n st - - ⟨x,rfl,hx,h0,h4,hal⟩;refine qJ ?_<|aI h0<|h4;refine vC vE (λht=>?_) (λhf=>?_)
 .have h8:(x:Int)<8:=yW;have hx8:x<8:=qA;have hg:=Cb (i:=i) (k:=k) (o:=yl p k.parent) (ps:=k.params) hx8;have hn:=M8 (i:=i) (k:=k) (o:=yl p k.parent) (ps:=k.params) hx8;have hq:=Yo (i:=i) (k:=k) (o:=yl p k.parent) (ps:=k.params) hx8;have hge:=Uk (p:=p) (b:=i) (x:=x);have fin:w4 p i k x=false->(List.range 8).all (λx=>w4 p i k (x:Int))=false:=λh=>ld hx8 h;have nxt:w4 p i k x=true->(List.range (x+1)).all (λx=>w4 p i k (x:Int))=true:=λh=>by rw [mL,hal,h];rfl
  clear ht hal
  all_goals have fx:=jH h0 h4 h8 hg hn<|hq
  repeat' (first|refine zm ?_|refine λ(K:St->Prop) hK=>?_|refine zH (hF:=E4 _ _ _ _ _ _ hx8) (h:=?_)|refine zH (hF:=LO _ p hp i k hk x hx8) (h:=?_)|(with_reducible refine ye (λht=>?_) (λht=>?_))|refine vb (h1:=λht=>?_) (h2:=λht=>?_))
  all_goals try clear fx
  all_goals clear hg hn hq
  all_goals first
   | (refine qF [] .nil qE ?_
      rw [fin (by simp only [w4];simp_all;done)]
      rfl)
   | (refine⟨8 - (x+1),qA,x+1,rfl,qA,vg,jM,nxt ?_⟩
      simp only [w4]
      simp_all
      try omega)
 .have hge:x=8:=by
   have:¬ (x:Int)<8:=vT;omega
  subst hge;refine qJ ?_<|qd;refine qF [] .nil fW (by simp [hal])
theorem BI {hp:Nm->Option AO} {n:Nm} {p:qC} {j:Nat} {k:qX} (h:ez hp n p p.length) (hh:zj p) (hk:p[j]?=some k):Bw hp zn (.pt (.c n j 0) 0) (iP p j k):=by
 have:=IE h hh j (gS hk).1
 rwa [cu hh hk] at this
theorem M0 {n:Nm} {len j:Nat} (h:j<len):(uj n len len)[j]?=some [AV.pt (.c n j 0) 0]:=by rw [A3 h,if_pos h]
theorem QR {p:qC} (hp:zr p):aB p 0=true:=by
 obtain⟨k,hk⟩:∃ k,p[0]?=some k:=⟨_,gE (by have:=hp.len.1;omega)⟩;simp only [aB,hk,y5];intro x _;simp [w4,hp.QP hk]
theorem cW (gl) (p:qC) (hs:jt p):qM prog gl 37 [jB p] (λ_ y _=>y=bv (jq p)):=by
 refine qM.q9 func37 [.tmp 2] ntmps37 λC w g root=>?_
 cases hsh:uk p with
 | false =>
  have fx:= hsh;have c1:=Jk gl p hs;refine qK ?_;clear fx c1;refine qF [] .nil qE ?_;simp [jq,hsh]
 | true =>
  have hp:=zr.of hs hsh;have hh:=hp.jj;have hl7:=hp.len;have hpo:jq p=(List.range p.length).all (λb=>b==0||aB p b):=by simp only [jq,hsh,fJ]
  rw [hpo];have fx:= hsh;have c1:=Jk gl p hs;have e1:=Cc gl p hs hh hp.names;refine qK ?_;clear fx c1 e1
  first|rintro K hK y H' ⟨rfl,hO⟩|rintro y H' ⟨rfl,hO⟩
  obtain⟨ho1,ho2⟩:=hO.vh;refine⟨qB,?_⟩;refine qJ ?_<|qd;refine zQ (λn st=>∃ i:Nat,n=p.length - i/\i<=p.length/\st.tm 9=.hs (.s 9) 1 0 p.length/\ez st.hp (.s 9) p p.length/\st.tm 10=iv p.length/\st.tm 11=iv i/\(List.range i).all (λb=>b==0||aB p b)=true) p.length ?_ ?_
  .exact⟨0,qB,qB,qB,⟨by simp [ho1],λj k hj hk=>Bc⟩,qB,qB,qB⟩
  clear ho1 ho2 hO;rintro n st - - ⟨i,rfl,hi,h9,⟨ho1,ho2⟩,h10,h11,hal⟩;refine qJ ?_<|aI h10<|h11;refine vC vE (λht=>?_) (λhf=>?_)
  .have hlt:i<p.length:=yW;obtain⟨k,hk⟩:=gX hlt;have hsg:=M0 (n:=.s 9) hlt;obtain⟨_,hse⟩:=gS hsg;clear ht
   all_goals have fx:=jI h9 ho1 h10 h11 hsg hse<|hlt
   repeat' (first|refine zm ?_|refine λ(K:St->Prop) hK=>?_|refine zH (hB:=(by first|((repeat' (first|exact .nil|refine .cons ?_ ?_|exact .refl _|exact dR wx wq|exact gb wx wq rW|exact BI (n:=.s 9) (p:=p) (k:=k) ⟨by simp [ho1],λj k hj hk=>Bc⟩ hh hk));done)|fail)) (hF:=qBD _ p hp i k hk) (h:=?_)|refine vb (h1:=λht=>?_) (h2:=λht=>?_))
   all_goals try clear fx
   .refine qF [] .nil qE ?_;have hd:aB p i=false:=yW;have hi0:i≠0:=λe=>by rw [e,QR hp] at hd;cases hd
    rw [ld hlt (show (i==0||aB p i)=false by simp [hd,hi0])]
    rfl
   .have hd:aB p i=true:=yW;refine⟨p.length - (i+1),qA,i+1,rfl,qA,cO,⟨by simp [ho1],λj k hj hk=>Bc⟩,cN,jM,?_⟩;rw [mL,hal,hd];simp
  .have hge:i=p.length:=by
    have:¬ i<p.length:=vT;omega
   subst hge;refine qJ ?_<|qd;refine qF [] .nil fW (by simp [hal])
abbrev Vh:qV:=kf<|.l 11 [5,4,1,0]<|.l 12 []<|.done
theorem Er (gl) (v:qW):qM prog gl 62 [qW.av v] (λ_ y _=>y=iv (Hm.shown v)):=by
 refine qM.q9 func62 [.tmp 2] ntmps62 λC w g root=>?_;by_cases h1:v.1=1
 .skip
  refine qJ ?_<| h1;refine qF [] .nil qE (by simp [Hm.shown,h1])
 by_cases h2:v.1=2
 .skip
  refine qJ ?_<|aI h1<|h2;refine qF [] .nil qE (by simp [Hm.shown,h1,h2])
 by_cases h3:v.1=3
 .skip
  refine qJ ?_<|qk h1 h2<|h3;refine qF [] .nil qE BM
 .skip
  refine qJ ?_<|qk h1 h2<|h3;refine qF [] .nil qE BM
theorem iS (gl) (H:Nm->Option AO) (F:Nat) (p:qC) (W:qL) (e:Int) (hO:qb H F p W) :
  qZ prog gl 99 DM [.pt Mn 0,iv e] H (λ_ y H'=>y=bv false/\qb H' F p { W with en:=e }) zG:=by
 have hT:=hO.top;simp only [zx] at hT;refine qZ.q9 func99 [.tmp 4] ntmps99 (λ_=>zC) λC w g root hroot=>?_;refine qJ ?_<| hT;refine qF [] .nil qE ⟨qB,qb.fin ⟨by simp [hO.top,zx,hT],⟨by simp [hO.kg.top,hT],λj k hj hk=>by simp [hO.kg.sc j k hj hk,hT]⟩,o8,o9,hO.run.imp λl hl=>⟨hl.1,by simp [hl.2,hT]⟩,o6,λk g hg=>by simp [hO.bx k g hg,hT],oi,λk c hc=>(hO.cls k c hc).imp λms hm=>⟨by simp [hm.1,hT],hm.2⟩,λi a ha=>by simp [hO.env i a ha,hT],λi hi=>(hO.yJ i hi).imp λms hm=>⟨by simp [hm.1,hT],hm.2⟩,λk i j hk hn=>if e:k=1/\i=0/\j=0 then .inl e else hO.only k i j hk mS⟩⟩
theorem sY {A G G2:Prop} (k:G2) (x:A) (h:A->jL G2->G:=by
 intro fx kk;refine qK ?_
 repeat ((first|refine qQ (id:=1) Vh mixed ?_);refine zK ?_;refine qK ?_)
 exact kk.h):G:=h x ⟨k⟩
theorem Ep (gl) (H:Nm->Option AO) (F:Nat) (p:qC) (W:qL) (a x:Nat) (hP:zr p) (hw:zF p W) (ha:a<W.qI.length) (hx:x<8) (hO:qb H F p W) :
  qZ prog gl 146 DM [.pt Mn 0,vo a,iv x] H (λ_ y H'=>y=.zX [vo (w6 (W.loc p a x)),iv (Hm.yf p (W.qG a) (zI p (W.qG a) x))]/\qb H' F p W) zG:=by
 have hh:=hP.jj;obtain⟨c,hc⟩:=gX ha;have qy:=hw.wo a c hc;obtain⟨k,hk⟩:=gX qy;obtain⟨_,hkE⟩:=gS hk;have hbk:=wI hc;have hT:=hO.top;have hc1:=hO.kg.top;have hc2:=hO.kg.sc;have hE:=hO.env a c hc;simp only [zx] at hT;simp only [ud] at hE;have hsr:=A3 (n:=.c Mn 0 1) (len:=p.length) (i:=p.length) qy;rw [if_pos qy] at hsr;obtain⟨_,hsE⟩:=gS hsr;have hka:j9 p c.qG=k.kind:=fP;refine qZ.q9 func146 [.tmp 6,.tmp 7] ntmps146 (λ_=>zC) λC w g root hroot=>?_;rcases se (x:=(x:Int)) hh hw ha with⟨h1,h2⟩|⟨o,i,d,ho,h1,h2,h3,hd,hdb,hins⟩
 .rw [hbk] at h1;have hl:Hm.yf p (W.qG a) (zI p (W.qG a) x)=4:=by rw [hbk,h1];simp [Hm.yf]
  rw [hl,h2];have fx:=jI hT hE hc1 hsr hsE qy<|h1;have c1:=cx gl p hP c.qG k hk x hx;refine sY ?_<|@fx;clear fx c1;refine qF [] .nil qE ⟨by simp [w6],qb.fin (have om:=hO;qb.re om)⟩
 .rw [hbk] at h1;have hon:((o:Int) == -1)=false:=ku;have hol:o<p.length:=by rw [<- hdb];exact hw.wo i d hd
  rw [h2];by_cases hob:o=c.qG
  .have hai:i=a:=by rw [h3,sK hc hob.symm]
   have hsame:((c.qG:Int)==(c.qG:Int))=true:=qB;subst hob;by_cases hk2:k.kind=2
   .have hl:Hm.yf p (W.qG a) (zI p (W.qG a) x)=4:=by
     rw [hbk,h1];simp [Hm.yf,hka,hk2]
    rw [hl];have hkb:(k.kind==2)=true:=by simpa using hk2
    have hsc:=hc2 c.qG k qy hk;have fx:=jS hT hE hc1 hsr hsE qy h1 hon hsame hsc<|aI hkb<|@qz;have c1:=cx gl p hP c.qG k hk x hx;refine sY ?_<|@fx;clear fx c1;refine qF [] .nil qE ⟨by simp [w6,hai],qb.fin (have om:=hO;qb.re om)⟩
   .have hl:Hm.yf p (W.qG a) (zI p (W.qG a) x)=2:=by
     rw [hbk,h1];simp [Hm.yf,hka,hk2]
    rw [hl];have hkb:(k.kind==2)=false:=by simpa using hk2
    have hsc:=hc2 c.qG k qy hk;have fx:=jS hT hE hc1 hsr hsE qy h1 hon hsame hsc<|aI hkb<|@qz;have c1:=cx gl p hP c.qG k hk x hx;refine sY ?_<|@fx;clear fx c1;refine qF [] .nil qE ⟨by simp [w6,hai],qb.fin (have om:=hO;qb.re om)⟩
  .have hl:Hm.yf p (W.qG a) (zI p (W.qG a) x)=3:=by
    have e1:¬ (o:Int)<0:=qA;have e2:¬ (o:Int)=c.qG:=qA;rw [hbk,h1];simp [Hm.yf,e1,e2]
   rw [hl];have hne:((o:Int)==(c.qG:Int))=false:=ku;obtain⟨u1,u2,u3⟩:=my hh hw hc (λe=>hob e.symm) ho hins;have ha0:¬ a=0:=qA;rw [if_neg ha0] at hE;have fx:=y8 hT hE hc1 hsr hsE qy h1 hon hne<|@qz;have c1:=cx gl p hP c.qG k hk x hx;refine sY ?_<|@fx;clear fx c1;refine zQ (λn st=>∃ b:Nat,n=b/\b<W.qI.length/\aA W.qI o b b=i/\jX p (W.qG b) o=true/\st.tm 8=iv o/\st.tm 9=vo b/\qb st.hp F p W) c.up ?_ ?_
   .exact⟨c.up,rfl,qA,by rw [<- Bk hh hw ho hc (λe=>hob e.symm) hins];exact h3.symm,u3,qB,qB,(have om:=hO;qb.re om)⟩
   clear hT hc1 hc2 hE hO;rintro n st - - ⟨b,rfl,hb,hcl,hib,t8,t9,hO⟩;obtain⟨e,he⟩:=gX hb;have hE:=hO.env n e he;simp only [ud] at hE;by_cases heb:e.qG=o
   .have hni:n=i:=by rw [<- hcl,sK he heb]
    subst hni;subst heb;have hsame:((e.qG:Int)==(e.qG:Int))=true:=qB;refine sY ?_<|zN t8 t9 hE hsame<|@qz;refine qF [] .nil qE ⟨by simp [w6],qb.fin (have om:=hO;qb.re om)⟩
   .obtain⟨e1,e2,e3⟩:=my hh hw he heb ho hib;have hneb:((e.qG:Int)==(o:Int))=false:=ku;have hn0:¬ n=0:=qA;rw [if_neg hn0] at hE;refine sY ?_<|zN t8 t9 hE hneb<|@qz;refine⟨e.up,qA,e.up,rfl,qA,?_,e3,fQ,qB,(have om:=hO;qb.re om)⟩;rw [<- hcl,Bk hh hw ho he heb hib]
end Go.Proofs.YtjgpejikjhojcaaGreatDoor
end
