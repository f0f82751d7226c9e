import Derived.Test.YtdnebaieamppbaaGreatDoorE52
import Derived.Test.YtdnebaieamppbaaGreatDoorE30
import Derived.Test.YtdnebaieamppbaaGreatDoorE48
set_option linter.unusedSimpArgs false
set_option linter.unusedVariables false
set_option maxRecDepth 100000
set_option maxHeartbeats 4000000

section
namespace Go.Proofs.YtdnebaieamppbaaGreatDoor
open Go Go.Hm Go.Proofs Tryz
abbrev X7:Zh:=yz<|.l 11 []<|.done
abbrev X6:Zh:=FY<|.done
abbrev X5:Zh:=FY<|.l 17 [16,15,14,13,12,11,10,9,8,7,6,5,4,3,2,1,0]<|.l 18 []<|.done
abbrev X4:Zh:=wP<|.l 14 [9,5,4,3,2,1,0]<|.l 15 [9,5,0]<|.q 16<|.q 17<|.l 18 []<|.done
abbrev X3:Zh:=aS<|.l 8 [4,3,2,1,0]<|.l 9 [0]<|.q 10<|.q 11<|.l 12 []<|.done
abbrev X2:Zh:=vi<|.l 12 [7,5,4,3,2,1,0]<|.l 13 [7,5,0]<|.q 14<|.q 15<|.l 16 []<|.done
abbrev X1:Zh:=yz<|.l 11 [6,5,4,3,2,1,0]<|.q 12<|.l 13 [4,3,2,1,0]<|.l 14 [0]<|.q 15<|.q 16<|.l 17 []<|.done
abbrev X0:Zh:=vi<|.l 12 [7,6,5,4,3,2,1,0]<|.l 13 [7,6,5,0]<|.q 14<|.q 15<|.l 16 []<|.done
abbrev XZ:Zh:=vi<|.l 12 [7,6,5,4,3,2,1,0]<|.l 13 [4,3,2,1,0]<|.l 14 [4,3,2,1,0]<|.l 15 [0]<|.q 16<|.q 17<|.l 18 []<|.done
abbrev XY:Zh:=wP<|.done
abbrev VU:Zh:=rP<|.l 18 [13,11,10,9,8,7,6,5,4,3,2,1,0]<|.l 19 [13,11,10,9,8,7,6,5,0]<|.q 20<|.q 21<|.l 22 []<|.done
abbrev VT:Zh:=wE<|.l 6 [4,3,2,1,0]<|.l 7 [4,3,2,1,0]<|.l 8 [4,3,2,1,0]<|.l 9 [0]<|.q 10<|.q 11<|.l 12 []<|.done
theorem vB {A G G2:Prop} (k:G2) (x:A) (h:A->Zx G2->G:=by
 intro fx kk;refine qG ?_
 repeat ((first|refine Ze (id:=0) X7 mixed ?_|refine Ze (id:=1) X6 mixed ?_|refine Ze (id:=3) X5 mixed ?_|refine Ze (id:=11) X4 mixed ?_);refine qZ ?_;refine qG ?_)
 exact kk.h):G:=h x ⟨k⟩
theorem sN {A G G2:Prop} (k:G2) (x:A) (h:A->Zx G2->G:=by
 intro fx kk;refine qG ?_
 repeat ((first|refine Ze (id:=3) X3 mixed ?_|refine Ze (id:=9) X2 mixed ?_|refine Ze (id:=11) X1 mixed ?_|refine Ze (id:=12) X0 mixed ?_|refine Ze (id:=14) XZ mixed ?_|refine Ze (id:=19) XY mixed ?_|refine Ze (id:=21) VU mixed ?_|refine Ze (id:=23) VT mixed ?_);refine qZ ?_;refine qG ?_)
 exact kk.h):G:=h x ⟨k⟩
theorem JT (gl) (H:Nm->Option AO) (p:Z0) (m:Zb) (fs:List Z8) (f:Z8) (dp:Nat) (hP:Zm p) (hM:MOk p m fs f) (hm:m.ZW=fs++[f]) (he:m.en=0) (hO:Z2 H p (.c Xn 0 6) m dp) (h2:H (.u 2 0 0)=none) :
  Zj prog gl 100 (Nm.under Xn) [.pt Xn 0] H (λ_ _ H'=>Z2 H' p (.c Xn 0 6) (uS p m) dp\/((uS p m).en≠0/\qAl H' p (uS p m) dp)) noE:=by
 have hmt:m=m.top fs f:=by cases m;simp only [Zb.top] at hm ⊢;rw [hm]
 have hol:=dl (p:=p) (b:=f.Z1) hP.sh;have hpc:=hM.top.pc;have hsl:=hM.top.sl;have hdp:=hM.deep;have hmd:=hM.made;have hp:=hM.top.Z1;obtain⟨k,hk⟩:=gX hp;have hcd:(qw p p.length)[f.Z1]?=some (zC p f.Z1):=tu;obtain⟨hcdl,hcdE⟩:=gS hcd;have hco:(zC p f.Z1).ops=vI p f.Z1:=em;have hw1:IntKind.i64.wrap (fs.length:Int)=fs.length:=Zv qA qA;have hl1:(fs.length:Int)<(fs.length:Int)+1:=qA;have hl0:(0:Int)<=(fs.length:Int):=qA;have hfl:fs.length<=1000:=qA
 have hgsl:∀ g∈fs,g.stack.length<=1000:=λg hg=>by
  have h1:=(hM.low g hg).sl;have h2:=(hM.low g hg).pc;have h3:=dl (p:=p) (b:=g.Z1) hP.sh;omega
 have hn8:=hM.top.nm.1;have hg8:=hM.Zg.1;refine Zj.Zl func100 [] ntmps100 (λ_=>qR rfl) λC w g root hroot=>?_
 cases ho:(vI p f.Z1)[f.pc]? with
 | none =>
  refine Oi (.c Xn 0 6) (.u 2 0 0) (.inl rfl) (.inr tE) ?_;refine uu (λs=>s.tm 0=.pt Xn 0/\Z2 s.hp p (.u 2 0 0) m dp) ⟨qB,hO.mvF (.inl ⟨rfl,rfl⟩)⟩ ?_;rintro s ⟨t0,hO⟩;obtain⟨L,j,hL,hat,hlt,hF,hf,hn,hsk⟩:=hO.qAj hm;obtain⟨_,hatE⟩:=gS hat;have hT:=hO.top;simp only [uX,hm,am,dU] at hT;have hpe:f.pc=(vI p f.Z1).length:=by have:=RM.1 ho;omega
  have hres:uS p m=Bb p m fs f:=Hm.step_end hm ho;rw [hres];have hnk:=hM.nk;refine vB ?_<|qU t0 hT hF hat hatE hlt hw1 hl1 hl0 hcd hcdl hcdE<|aI hco<|hpe;intro K hK;have fx:=aI t0 hT;refine yP (.u 2 0 0) (.c Xn 0 6) (.inr tE) (.inl rfl) ?_;refine yp qu dR (hF:=Fr _ _ p m fs f dp hp hm hfl hgsl hn8 qA (have h:=hO;Z2.re h)) (h:=?_);rintro y H1 hO1;clear fx;have hT1:=hO1.top;simp only [uX] at hT1;refine vB ?_<|jI t0 hT<|hT1;refine qD [] .nil qE (.inl (Z2.qCe ((Z2.mvF (have h:=hO1;Z2.re h) (.inr ⟨rfl,rfl⟩)))))
 | some o =>
  obtain⟨hol2,hoE⟩:=gS ho;have hOr:=IK hP.sh hk o (gM ho);have hcode:=hOr.code;have harg:=hOr.arg;have hres:uS p m=kM p m fs f.next o:=Hm.qBM hm ho;have hok:=hM.top.ok;rw [dy ho,C4] at hok;rw [hres];have hol3:(f.pc:Int)<((vI p f.Z1).length:Int):=qA;have hneb:¬ f.pc=(vI p f.Z1).length:=qA;have hneb2:((f.pc:Int)==((vI p f.Z1).length:Int))=false:=vP;have hwp:IntKind.i64.wrap ((f.pc:Int)+1)=(f.pc:Int)+1:=Zv qA qA;by_cases c0:o.1=0
  .obtain⟨L,j,hL,hat,hlt,hF,hf,hn,hsk⟩:=hO.qAj hm;obtain⟨_,hatE⟩:=gS hat;have hT:=hO.top;simp only [uX,hm,am,dU] at hT;have hftk:=Dz (p:=p) (n:=.c Xn 0 6) hat ho c0
   have htl:ub ((vI p f.Z1).take f.pc)<=60:=by
    have h1:=Hi (l:=(vI p f.Z1).take f.pc);simp at h1;omega
   have hord:kM p m fs f.next o=bE p m fs f.next:=by simp [kM,c0]
   rw [hord];obtain⟨c,a⟩:=o;simp only at c0;subst c0;have hlf:ux p f+1=((ub ((vI p f.Z1).take f.pc):Nat):Int):=by simp [ux]
   have hlw:IntKind.i64.wrap (ux p f+1)=ux p f+1:=Zv qA qA;by_cases hl:m.left=0
   .have ht:bE p m fs f.next=m.stop fs f.next 1:=by simp only [bE,hl,if_true]
    rw [ht];have hlk:=hO.fr;rw [hm] at hlk;refine vB ?_<|qU hT hF hat hatE hlt hw1 hl1 hl0 hcd hcdl hcdE hco<|kO ho hoE hol2 hol3 hneb hneb2 hwp<|hl;refine qD [] .nil qE (.inr ⟨qB,qAl.fin (qAl.mk ⟨_,_,_,by simp [hl];exact⟨rfl,rfl,rfl⟩⟩ (by simp [hO.cells]) (by simp [hO.Zg]) lc oO (by exact qBa.tick (fs:=fs) (g:=f.next) (x:=(f.pc:Int)+1) hlk hL rfl (by simp [hF,cj]))) (λ_=>qR rfl) (λ_ h=>h)⟩)
   .obtain⟨l,hll⟩:∃ l,m.left=l+1:=⟨m.left - 1,qA⟩
    have ht:bE p m fs f.next={ m.top fs f.next with left:=l,trace:=m.trace++[(f.Z1,ub ((vI p f.Z1).take f.pc))] }:=by
     simp only [bE,hl,if_false,hll]
     rfl
    rw [ht];have hTr:=hO.trc;have htr2:=hM.tr;have htl':m.trace.length<=1000:=qA;have hlb:((l:Int)+1==0)=false:=vP;have hwl:IntKind.i64.wrap (l:Int)=l:=Zv qA qA;have hap:yw m.trace++[[iv f.Z1,iv (ux p f+1)]]=yw (m.trace++[(f.Z1,ub ((vI p f.Z1).take f.pc))]):=by rw [hlf];exact iD
    have hR2:(qk (qz p (.c Xn 0 6) L) fs.length 1 [iv ((f.pc:Int)+1)])[fs.length]?=some [iv f.Z1,iv ((f.pc:Int)+1),iv (ux p f),.hs (.c (.c Xn 0 6) fs.length 3) 3 0 f.Z3.length,isl (jN f.cells),.hs (.c (.c Xn 0 6) fs.length 5) 3 0 8,.hs (.c (.c Xn 0 6) fs.length 6) 2 0 f.stack.length]:=by simp [qk,hat,jV]
    have hR3:(qk (qk (qz p (.c Xn 0 6) L) fs.length 1 [iv ((f.pc:Int)+1)]) fs.length 2 [iv (ux p f+1)])[fs.length]?=some [iv f.Z1,iv ((f.pc:Int)+1),iv (ux p f+1),.hs (.c (.c Xn 0 6) fs.length 3) 3 0 f.Z3.length,isl (jN f.cells),.hs (.c (.c Xn 0 6) fs.length 5) 3 0 8,.hs (.c (.c Xn 0 6) fs.length 6) 2 0 f.stack.length]:=by simp [qk,hat,jV]
    obtain⟨_,hR2E⟩:=gS hR2;obtain⟨_,hR3E⟩:=gS hR3;refine vB ?_<|qU hT hF hat hatE hlt hR2 hR3 hR2E hR3E hw1 hl1 hl0<|qU hcd hcdl hcdE hco ho hoE hol2 hol3 hneb hneb2 hwp hll<|yS hlb hwl hTr htl'<|hlw;refine zy [] .nil qE (.inl (Z2.qCe (have h:=hO;Z2.reT h hm hL rfl (by simp [cj,hftk]) (by simp [hf,Z8.next]) (by simp [hn,Z8.next]) ⟨j,by simp [hsk,Z8.next]⟩ (h0:=by simp [uX]) (h7:=tG))))
  .refine Oi (.c Xn 0 6) (.u 2 0 0) (.inl rfl) (.inr tE) ?_;refine uu (λs=>s.tm 0=.pt Xn 0/\Z2 s.hp p (.u 2 0 0) m dp) ⟨qB,hO.mvF (.inl ⟨rfl,rfl⟩)⟩ ?_;rintro s ⟨t0,hO⟩;obtain⟨L,j,hL,hat,hlt,hF,hf,hn,hsk⟩:=hO.qAj hm;obtain⟨_,hatE⟩:=gS hat;have hT:=hO.top;simp only [uX,hm,am,dU] at hT;have hfn:=EB (p:=p) (n:=.u 2 0 0) hat ho c0;have hsO:=λh13=>qDG.of hM hOr h13;have hnam:=hOr.name;obtain⟨c,a⟩:=o;obtain⟨x,rfl⟩:∃ x:Nat,a=x:=⟨a.toNat,eG⟩;simp only at hcode c0 hsO hnam;refine vB ?_<|qU t0 hT hF hat hatE hlt hw1 hl1 hl0 hcd hcdl hcdE<|kO hco ho hoE hol2 hol3 hneb hneb2<|hwp;refine uu (λs=>s.tm 0=.pt Xn 0/\s.tm 2=.ep (.u 2 0 0) 7 fs.length 0/\s.tm 3=.pt (.s 3) 0/\s.hp (.s 3)=some (.row 2 [[iv c,iv x]])/\s.tm 64=bv (c==0)/\Z2 s.hp p (.u 2 0 0) (m.top fs f.next) dp) ⟨vv,qB,qB,qB,qB,(have h:=hO;Z2.reT h hm hL rfl (by simp [cj,hfn]) (by simp [hf,Z8.next]) (by simp [hn,Z8.next]) ⟨j,by simp [hsk,Z8.next]⟩ (h0:=cB))⟩ ?_;clear t0 hT hF hf hn hsk hlt hat hatE hL hO hfn;rintro s ⟨t0,t2,t3,p3,t64,hO⟩;have hT:=hO.top;obtain⟨L,j,hL,hat,hlt,hF,hf,hn,hsk⟩:=hO.qAj rfl;simp only [uX,Zb.top] at hT;have cb0:(c==0)=false:=by simpa using c0
   have mv1:(Nm.u 2 0 0).isU=false\/(dz prog C w g H 135 gl).ext (.u 2 0 0)=false:=.inr tE;have hnsl:f.next.stack.length<=1000:=by simp only [Z8.next];omega
   simp only [zu] at hok;by_cases c13:2<=c/\c<=13
   .have hord:kM p m fs f.next (c,(x:Int))=if (c - 2) % 3=0 then vj p m fs f.next (c,(x:Int)) else if (c - 2) % 3=1 then rB m fs f.next (c,(x:Int)) else AL p m fs f.next (c,(x:Int)):=by
     simp only [kM];rw [if_neg c0,if_pos c13]
    have hst1:(c - 2) % 3=1->1<=f.next.stack.length:=by
     intro h1;have hc:c=3\/c=6\/c=9\/c=12:=qA;rcases hc with rfl|rfl|rfl|rfl <;> simp at hok <;> exact hok.1
    rw [hord];obtain⟨c13a,c13b⟩:=c13;have fx:=kO t0 t2 t3 p3 t64 cb0 c13a<|c13b;have c1:=jH gl c 2 13;refine vB ?_<|fx;clear fx c1;intro K hK;have fx:=aI t0 (aI t2 (aI t3 p3));refine rq (.u 2 0 0) (.c Xn 0 6) mv1 (.inl rfl) ?_;refine yp qu dR (hF:=FO _ _ p m fs f.next (c,(x:Int)) dp hp ⟨c13a,c13b⟩ ⟨(hsO ⟨c13a,c13b⟩).arg,(hsO ⟨c13a,c13b⟩).lt,(hsO ⟨c13a,c13b⟩).cell⟩ (λh=>hnam h c13b) hg8 hn8 hst1 hnsl (have h:=hO;Z2.re h) qB) (h:=?_);rintro y H1 ⟨fr,hfr,hO1⟩;clear fx;refine .inr ?_;have hT1:=hO1.top;simp only [uX] at hT1;refine vB ?_<|jI t0 hT<|hT1;refine zy [] .nil qE (Or.done (Z2.qCe ((Z2.mvF (have h:=hO1;Z2.re h) (.inr ⟨rfl,rfl⟩)))) hfr)
   have c13b:(decide (2<=c)&&decide (c<=13))=false:=by
    rw [Bool.and_eq_false_iff,decide_eq_false_iff_not,decide_eq_false_iff_not];omega
   have hir:=jH gl c 2 13;rw [c13b] at hir
   have hord:kM p m fs f.next (c,(x:Int))=ya p m fs f.next (c,(x:Int)):=by
    simp only [kM];rw [if_neg c0,if_neg c13]
   rw [hord];by_cases c17:c=17
   .subst c17;have hord:ya p m fs f.next (17,(x:Int))=dK p m fs f.next (17,(x:Int)):=aV;rw [hord];simp at hok;have hx1:=hOr.call rfl;simp only at hx1;have fx:=uD t0 t2 t3 p3 t64<|cb0;have c1:=hir;refine vB ?_<|fx;clear fx c1;intro K hK;have fx:=aI t0 (aI t2 (aI t3 p3));refine rq (.u 2 0 0) (.c Xn 0 6) mv1 (.inl rfl) ?_;refine yp qu dR (hF:=FP _ _ p m fs f.next x dp f.pc hP hM qA hok.1 hnsl hfl (have h:=hO;Z2.re h)) (h:=?_);rintro y H1 ⟨q,hq,hO1⟩;clear fx;have hT1:=hO1.top;simp only [uX] at hT1;rcases hq with rfl|rfl
    .refine .inr ?_;refine vB ?_<|jI t0 hT<|hT1;refine zy [] .nil qE (.inl (Z2.qCe ((Z2.mvF (have h:=hO1;Z2.re h) (.inr ⟨rfl,rfl⟩)))))
    .refine .inl ?_;refine vB ?_<|jI t0 hT<|hT1;refine zy [] .nil qE (.inl (Z2.qCe (have h:=hO1;Z2.re h)))
   by_cases c20:c=20
   .subst c20;have hord:ya p m fs f.next (20,(x:Int))=zW m fs f.next.tos:=aV;rw [hord];simp at hok;obtain⟨k1,hk1⟩:∃ k1,f.next.stack.length=k1+1:=⟨f.next.stack.length - 1,by have:f.next.stack.length=f.stack.length:=rfl;omega⟩;have fx:=uD t0 t2 t3 p3 t64<|cb0;have c1:=hir;refine vB ?_<|fx;clear fx c1;intro K hK;refine uJ (λs=>s.tm 131=.pt Xn 0/\s.tm 132=.ep (.u 2 0 0) 7 fs.length 0/\Z2 s.hp p (.u 2 0 0) (m.top fs f.next) dp) ⟨qB,qB,(have h:=hO;Z2.re h)⟩ ?_;clear t0 t2 t3 p3 t64 hT hF hf hn hsk hlt hat hL hO;rintro s ⟨t131,t132,hO⟩;have hT:=hO.top;obtain⟨js0,hF⟩:=hO.fr.top;simp only [uX] at hT;obtain⟨rows,a0,a1,a2,a3,a4,a5,vs,e1,e2,e3,e4,e5⟩:=hO.take hk1;have fx:=aI t131 (aI t132 hT);refine yp qu dR (hF:=lC gl D12 (λ_=>zG) _ rows fs.length k1 a0 a1 a2 a3 a4 a5 vs f.next.tos e2 e3 e4 e5 qA) (h:=?_);intro y H1 hw;clear fx;have hO1:=hO.taken e1 hk1 hw;obtain⟨rfl,-⟩:=hw;have hT1:=hO1.top;obtain⟨js1,hF1⟩:=hO1.fr.top;simp only [uX] at hT1
    have hlv:∀ v,zW (m.top fs f.next.pop) fs v=zW m fs v:=λv=>by
     unfold zW
     split <;> rfl
    refine vB ?_<|jI t131 hT<|hT1;have fx:=aI t131 (aI hT hT1);refine yP (.u 2 0 0) (.c Xn 0 6) mv1 (.inl rfl) ?_;refine yp bt (by simp [hF1]) (hF:=BS _ _ p (m.top fs f.next.pop) fs f.next.pop f.next.tos dp rfl hfl hgsl (have h:=hO1;Z2.re h)) (h:=?_);rintro y H2 hO2;clear fx;rw [hlv] at hO2;have hT2:=hO2.top;simp only [uX] at hT2;refine vB ?_<|yE t131 hT hT1<|hT2;refine zy [] .nil qE (.inl (Z2.qCe ((Z2.mvF (have h:=hO2;Z2.re h) (.inr ⟨rfl,rfl⟩)))))
   have hcs:c=1\/c=14\/c=15\/c=16\/c=18\/c=19:=qA;have cb17:(c==17)=false:=by simpa using c17
   have cb20:(c==20)=false:=by simpa using c20
   have hval:∀ H:Nm->Option AO,Z2 H p (.u 2 0 0) (m.top fs f.next) dp->H (.u 9 0 0)=none->Zj prog gl 154 D12 [.pt Xn 0,.ep (.u 2 0 0) 7 fs.length 0,.agg [iv c,iv x]] H (λ_ _ H'=>∃ q,(q=.u 2 0 0\/q=.c Xn 0 6)/\Or H' p q (ya p m fs f.next (c,(x:Int))) dp) noE:=by
    intro H hO h9;have h14:c=14->2<=f.next.stack.length:=by rintro rfl;simp at hok;exact hok.1
    have h18:c=18\/c=19->1<=f.next.stack.length:=OJ;rcases hcs with h|h|h|h|h|h
    .exact de gl H p m fs f.next (c,(x:Int)) dp f.pc hP hM hOr (.inl h) h14 h18 hnsl hfl hO h9
    .exact de gl H p m fs f.next (c,(x:Int)) dp f.pc hP hM hOr (.inr (.inl h)) h14 h18 hnsl hfl hO h9
    .exact de gl H p m fs f.next (c,(x:Int)) dp f.pc hP hM hOr (.inr (.inr h)) h14 h18 hnsl hfl hO h9
    .exact Ae gl H p m fs f.next (c,(x:Int)) dp f.pc hP hM hOr h h14 h18 hnsl hfl hO h9
    .exact mC gl H p m fs f.next (c,(x:Int)) dp f.pc hP hM hOr (.inl h) h14 h18 hnsl hfl hO h9
    .exact mC gl H p m fs f.next (c,(x:Int)) dp f.pc hP hM hOr (.inr h) h14 h18 hnsl hfl hO h9
   have fx:=kO t0 t2 t3 p3 t64 cb0 cb17<|cb20;have c1:=hir;refine sN ?_<|fx;clear fx c1;intro K hK;have fx:=aI t0 (aI t2 (aI t3 p3));refine rq (.u 2 0 0) (.c Xn 0 6) mv1 (.inl rfl) ?_;refine yp qu dR (hF:=hval _ (have h:=hO;Z2.re h) qB) (h:=?_);rintro y H1 ⟨q,hq,fr,hfr,hO1⟩;clear fx;have hT1:=hO1.top;simp only [uX] at hT1;rcases hq with rfl|rfl
   .refine .inr ?_;refine sN ?_<|jI t0 hT<|hT1;refine zy [] .nil qE (Or.done (Z2.qCe ((Z2.mvF (have h:=hO1;Z2.re h) (.inr ⟨rfl,rfl⟩)))) hfr)
   .refine .inl ?_;refine sN ?_<|jI t0 hT<|hT1;refine zy [] .nil qE (Or.done (Z2.qCe (have h:=hO1;Z2.re h)) hfr)
abbrev TE:Zh:=vi<|.l 12 [2,0]<|.l 13 [2,0]<|.l 14 [2]<|.l 15 []<|.done
theorem ET (gl) (p:Z0) (b:Nat) (k:Za) (hk:p[b]?=some k) (hP:Z7 p) (hL:qAw p):qb prog gl 98 [pav p,iv b] (λr y H'=>y=.hs r 1 0 (zt p b).length/\H' r=some (.row 1 (qT (zt p b)))):=by
 have Zs:=(gS hk).1;obtain⟨_,hkE⟩:=gS hk;have hlen:=hP.len;have hf8:=yY (p:=p) (b:=b);have hcl:=dJ (p:=p) (b:=b);have hfr:=B0 gl p b Zs hP.sml hP.Zc qA;refine qb.Zl func98 [.tmp 4] ntmps98 λC w g root=>?_;have fx:=Zk;have d1:=hfr;refine qG ?_
 repeat ((first|refine Ze (id:=6) TE mixed ?_);refine qZ ?_;refine qG ?_)
 clear fx d1;refine qX (λn st=>∃ i:Nat,n=(qd p b).length - i/\i<=(qd p b).length/\st.tm 1=iv b/\st.tm 2=.pt (.s 2) 0/\st.hp (.s 2)=some (.row 1 [[ksl p]])/\st.tm 5=.hs (.s 5) 1 0 i/\st.hp (.s 5)=some (.row 1 (qT ((zt p b).take i)))/\st.tm 6=.hs (.s 6) 1 0 (qd p b).length/\st.hp (.s 6)=some (.row 1 (qT (qd p b)))/\st.tm 7=iv i) (qd p b).length ?_ ?_
 .exact⟨0,qA,qA,qB,qB,qB,qB,qB,qB,qB,qB⟩
 rintro n st - - ⟨i,rfl,hi,t1,t2,p2,t5,p5,t6,p6,t7⟩;by_cases hil:i<(qd p b).length
 .obtain⟨x,hx⟩:=gX hil;obtain⟨_,hxE⟩:=gS hx;have hb0:=mj (gM hx);obtain⟨h1,h2,h3⟩:=hP.Zc b k hk;have h4:=h3 hb0;obtain⟨c,hc⟩:∃ c:Nat,k.parent=c:=⟨k.parent.toNat,qA⟩;obtain⟨kc,hkc⟩:∃ kc,p[c]?=some kc:=⟨_,gE qA⟩;have hpa:ac p b=c:=by simp [ac,hk,hc]
  have hcp:=oz gl p c kc x hkc hL;have htl:((zt p b).take i).length=i:=by simp [zt];omega
  have hi8:i<=8:=qA;have fx:=qU t1 t2 p2 t5 p5 t6 p6 t7 hil hk hkE Zs<|yS hc hx hxE htl<|hi8;have c1:=hcp;refine qG ?_
  repeat ((first|refine Ze (id:=6) TE mixed ?_);refine qZ ?_;refine qG ?_)
  clear fx c1
  have e1:(zt p b).take (i+1)=(zt p b).take i++[aE p c x]:=by
   rw [uQ];simp [zt,hx,hpa]
  have e2:qT ((zt p b).take i)++[[iv (aE p c x)]]=qT ((zt p b).take (i+1)):=by rw [e1];simp [qT]
  refine⟨(qd p b).length - (i+1),qA,i+1,rfl,qA,gH,yt,by simp [p2],qB,?_,cR,by simp [p6],by simp [t7];exact Zv qA qA⟩;simp [<- e2];rw [b9 qc]
 .obtain rfl:i=(qd p b).length:=qA;have hcl2:(zt p b).length=(qd p b).length:=by simp [zt]
  have htk:(zt p b).take (qd p b).length=zt p b:=b9 qA;rw [htk] at p5;have fx:=kO t1 t2 p2 t5 p5 t6 p6<|t7;refine qG ?_
  repeat ((first|refine Ze (id:=6) TE mixed ?_);refine qZ ?_;refine qG ?_)
  clear fx;exact jU (t:=4) OF OF qB
theorem GD (gl) (p:Z0) (b:Nat) (k:Za) (hk:p[b]?=some k) (hP:Z7 p) (hL:qAw p):qb prog gl 98 [pav p,iv b] (λ_ y _=>y=isl (zt p b)) :=
 (ET gl p b k hk hP hL).settle λr y H' hr=>⟨isl (zt p b),by rw [hr.1];exact vF hr.2 rfl,rfl⟩
theorem Qr (gl) (p:Z0) (hL:qAw p):qb prog gl 96 [pav p] (λ_ y _=>y=csl (qw p p.length)) :=
 (Af gl p hL).settle λr y H' hr=>⟨csl (qw p p.length),by rw [hr.1];exact kn hr.2 rfl,rfl⟩
abbrev TD:Zh:=bI<|.l 7 [4,3,2,1,0]<|.l 8 [4,3,2,1,0]<|.l 9 [0]<|.q 10<|.q 11<|.l 12 []<|.done
abbrev TC:Zh:=ir<|.l 10 [5,0]<|.q 11<|.q 12<|.l 13 []<|.done
theorem Oe:∀ {k:Nm},Nm.under (.u 1 0 0) k=true->Nm.under (.u 2 0 0) k=false
 | .s d,h=>by simp [Nm.under]
 | .u a b c,h=>by simp [Nm.under] at h ⊢;omega
 | .c q i j,h=>by
  simp [Nm.under] at h ⊢;exact Oe h
theorem bP {A G G2:Prop} (k:G2) (x:A) (h:A->Zx G2->G:=by
 intro fx kk;refine qG ?_
 repeat ((first|refine Ze (id:=6) TD mixed ?_|refine Ze (id:=9) TC mixed ?_);refine qZ ?_;refine qG ?_)
 exact kk.h):G:=h x ⟨k⟩
theorem Rm (gl) (H:Nm->Option AO) (p:Z0) (n:Nat) (hP:Zm p) (hL:qAw p) (hn:n<=150) (h1:H (.u 1 0 0)=none) (h2:H (.u 2 0 0)=none) :
  Zj prog gl 45 (Nm.under Xn) [pav p,iv n] H (λ_ y H'=>y=.pt Xn 0/\qAl H' p (wB p n) (wB p n).deep) noE:=by
 have hlen:=hP.sh.len;refine Zj.Zl func45 [.tmp 4] ntmps45 (λ_=>qR rfl) λC w g root hroot=>?_;have fx:=Zk;have p1:=Qr gl p hL;have d1:=ah gl;refine ol ?_
 repeat ((first|refine Ze (id:=6) TD mixed ?_|refine Ze (id:=9) TC mixed ?_);refine BU ?_;refine ol ?_)
 clear fx p1 d1;have hl1:1<=p.length:=qA;refine Oi (.s 5) (.u 1 0 0) (.inl rfl) (.inr (by simp [dz,h1])) (Oi (.s 33) (.c (.c Xn 0 1) 0 0) (.inl rfl) (.inl rfl) ?_);refine qX (λk s=>∃ b:Nat,k=p.length - b/\1<=b/\b<=p.length/\s.tm 2=.pt (.s 2) 0/\s.hp (.s 2)=some (.row 1 [[ksl p]])/\s.tm 5=.pt Xn 0/\s.tm 6=iv b/\qEB s.hp p n b) (p.length - 1) ?_ ?_
 .refine⟨1,rfl,qA,hl1,qB,qB,qB,qB,⟨qB,qB,qB,qB,qB,qB,qB,qB,qB⟩⟩
 rintro k s - - ⟨b,rfl,hb1,Zs,t2,p2,t5,t6,hX⟩;have hT:=hX.top;by_cases hil:b<p.length
 .obtain⟨k,hk⟩:=gX hil;have hC:=hX.qAZ;have hCl:=Np (p:=p) hb1;have hCa:=Nq (p:=p) hb1;have hb7:b<=7:=qA;have fx:=bA t2 p2 t5 t6 hT hC hCl hil<|hb7;have p1:=GD gl p b k hk hP.sh hL;refine ol ?_
  repeat ((first|refine Ze (id:=6) TD mixed ?_|refine Ze (id:=9) TC mixed ?_);refine BU ?_;refine ol ?_)
  clear fx p1;have htk:(pO p b).take b=pO p b:=b9 qA;exact⟨p.length - (b+1),qA,b+1,rfl,qA,qA,yt,by simp [p2],gG,zD,⟨qB,by simp [htk,hCa],by simp [hX.cells],by simp [hX.Zg],by simp [hX.ZZ],by simp [hX.Zw],by simp [hX.fr],by simp [hX.out],by simp [hX.trc]⟩⟩
 obtain rfl:b=p.length:=qA;have hOw:=hX.own qA;refine bP ?_<|yS t2 p2 t5 t6<|hT;intro K hK;refine rp 44 (.s 44) 1 0 [] ?_ ?_ rfl qB ?_
 .simp
 .simp
 refine pI (.c Xn 0 6) (.u 2 0 0) (.inl rfl) (.inr tE) ?_;refine uJ (λs=>s.tm 42=.pt Xn 0/\s.tm 43=.pt Xn 0/\s.tm 44=isl []/\s.tm 5=.pt Xn 0/\Z2 s.hp p (.u 2 0 0) (z6 n) 0) ⟨qB,qB,qB,gG,Z2.mvF (n:=.c Xn 0 6) (have h:=hOw;Z2.re h) (.inl ⟨rfl,rfl⟩)⟩ ?_;clear t2 p2 t5 t6 hT hX hOw;rintro s ⟨t42,t43,t44,t5,hO⟩;have hT:=hO.top;obtain⟨js,hF⟩:=hO.fr.top;simp only [uX,z6] at hT hF;have hBg:Oh p (z6 n) 0 [] 0 (List.replicate (qP p 0).length none) ([]++List.replicate (qF p 0).length none):=.inl ⟨rfl,rfl,rfl⟩;have hfin:=hBg.fin (cs:=[]) rfl;have hst:q8 p n=z8 p (z6 n) 0 [] []:=rfl;rw [<- hst] at hfin;have fx:=aI t42 (aI t43 t44);refine yP (.c (.s 45) 0 3) (.s 30) (.inl rfl) (.inl rfl) ?_;refine yP (.c (.s 45) 0 5) (.s 31) (.inl rfl) (.inl rfl) ?_;refine yP (.c (.s 45) 0 6) (.s 32) (.inl rfl) (.inl rfl) ?_;refine yp qu dR (hF:=lA _ _ p (z6 n) 0 [] 0 qA gD qB gD (have h:=hO;Z2.re h)) (h:=?_);rintro y H1 ⟨rfl,h3,h5,h6,hO1⟩;clear fx;have hT1:=hO1.top;obtain⟨js1,hF1⟩:=hO1.fr.top;simp only [uX,z6] at hT1 hF1;obtain⟨hfin1,hfin2⟩:q8 p n={ z6 n with cells:=List.replicate (qF p 0).length none,made:=1,deep:=1,ZW:=[⟨0,0,List.replicate (qP p 0).length none,(List.range (qF p 0).length).map ((z6 n).cells.length+·),q9,[]⟩] }/\True:=⟨by rw [hfin];simp [z6],trivial⟩;refine bP ?_<|jJ t42 t43 t44 t5 hT hF hT1 hF1 h3 h5<|h6
 have hr0:(z6 n).cells.length=0:=rfl;obtain⟨N,n1,n2,n3,n4⟩:=MO hP hn;refine qX (λk s=>∃ i:Nat,k=N - i/\i<=N/\s.tm 5=.pt Xn 0/\(Z2 s.hp p (.c Xn 0 6) (j7 p i (q8 p n)) (iR p i (q8 p n) 0)\/(i=N/\(j7 p i (q8 p n)).en≠0/\qAl s.hp p (j7 p i (q8 p n)) (iR p i (q8 p n) 0)))) N ?_ ?_
 .refine⟨0,qA,qA,by simp [t5,hT],.inl ?_⟩;simp only [j7,iR];rw [hfin1];refine⟨?_,?_,?_,?_,?_,?_,?_,?_,⟨[],?_⟩,λi1 g hg=>?_,λi1 g hg=>?_,λi1 g hg=>?_⟩
  .simp [uX,z6]
  .simp [hO1.qAZ]
  .have:=hO1.cells;simp [z6] at this;simp [this]
  .simp [hO1.Zg]
  .simp [hO1.ZZ]
  .simp [hO1.Zw]
  .simp [hO1.out]
  .simp [hO1.trc]
  .simp [qz,jV,ux,ub]
  .have:i1=0/\g=⟨0,0,List.replicate (qP p 0).length none,(List.range (qF p 0).length).map ((z6 n).cells.length+·),q9,[]⟩:=by
    have hl:=(gS hg).1;simp at hl;subst hl;simp at hg;exact⟨rfl,hg.symm⟩
   obtain⟨rfl,rfl⟩:=this;simp [h3]
  .have:i1=0/\g=⟨0,0,List.replicate (qP p 0).length none,(List.range (qF p 0).length).map ((z6 n).cells.length+·),q9,[]⟩:=by
    have hl:=(gS hg).1;simp at hl;subst hl;simp at hg;exact⟨rfl,hg.symm⟩
   obtain⟨rfl,rfl⟩:=this;simp [h5]
  .have:i1=0/\g=⟨0,0,List.replicate (qP p 0).length none,(List.range (qF p 0).length).map ((z6 n).cells.length+·),q9,[]⟩:=by
    have hl:=(gS hg).1;simp at hl;subst hl;simp at hg;exact⟨rfl,hg.symm⟩
   obtain⟨rfl,rfl⟩:=this;exact⟨[],by simp [h6,zn]⟩
 clear t42 t43 t44 t5 hT hF hT1 hF1 h3 h5 h6 hO hO1;rintro k s - - ⟨i,rfl,hi,t5,hI⟩;refine A6 (Nm.under (.u 2 0 0)) ?_;refine uu (λs=>s.tm 5=.pt Xn 0/\s.hp (.u 2 0 0)=none/\(Z2 s.hp p (.c Xn 0 6) (j7 p i (q8 p n)) (iR p i (q8 p n) 0)\/(i=N/\(j7 p i (q8 p n)).en≠0/\qAl s.hp p (j7 p i (q8 p n)) (iR p i (q8 p n) 0)))) ⟨gG,qB,?_⟩ ?_
 .have hk:∀ k,Nm.under Xn k=true->Nm.under (.u 2 0 0) k=false:=λk h=>Oe h;rcases hI with h|⟨h1,h2,h3⟩
  .exact .inl (h.qEM (F:=some) (λ_ _=>rfl) λq hq=>by rw [EE,hk q hq];cases s.hp q <;> simp [AO.Zr])
  .exact .inr ⟨h1,h2,h3.qCs λq hq=>by rw [EE,hk q hq];rfl⟩
 clear t5 hI s;rintro s ⟨t5,hU,hI⟩;by_cases hiN:i<N
 .have hne:=n1 i hiN;obtain⟨fs,f,hfr,hM⟩:=(DL hP hn i).resolve_left hne
  have hen:(j7 p i (q8 p n)).en=0:=by
   by_cases h:(j7 p i (q8 p n)).en=0
   .exact h
   .exact absurd (.inr h) hne
  have hO:=hI.resolve_right λh=>qA;have hsn:=rT i hne;have hnt:=xv (d:=0) i hne;rw [hfr] at hnt;simp only [am,dU] at hnt;have hT:=hO.top;obtain⟨js,hF⟩:=hO.fr.top;simp only [uX,hfr,hen,am,dU] at hT hF;have hl0:(0:Int)<(fs.length:Int)+1:=qA;refine bP ?_<|yE t5 hT hF<|hl0;intro K hK;have fx:=aI t5 (aI hT hF);refine PA (i:=(iR p i (q8 p n) 0:Int)) (j:=(fs.length:Int)+1) (iR p (i+1) (q8 p n) 0:Nat) (by rw [hnt];omega) (h:=?_);clear fx;refine bP ?_<|jI t5 hT<|hF;intro K hK;have fx:=aI t5 (aI hT hF);refine aL Xn rfl Bq (hF:=JT gl _ p (j7 p i (q8 p n)) fs f (iR p (i+1) (q8 p n) 0) hP hM hfr hen (have h:=hO;Z2.re h (h0:=by simp [uX,hfr,hen])) zb) (h:=?_);rintro y H1 hO1;clear fx;rw [<- hsn] at hO1;refine bP ?_<| t5;refine⟨N - (i+1),qA,i+1,rfl,qA,gG,?_⟩;rcases hO1 with h|⟨h1,h2⟩
  .exact .inl (have h:=h;Z2.re h)
  .have hN1:i+1=N:=by
    by_cases e:i+1<N
    .exact absurd (.inr h1) (n1 _ e)
    .omega
   exact .inr ⟨hN1,h1,h2.qCs λq hq=>cU⟩
 .obtain rfl:i=N:=qA;rw [n3,n4] at hI;rw [n3] at n2
  have hE:qAl s.hp p (wB p n) (wB p n).deep:=by
   rcases hI with h|⟨-,-,h⟩
   .exact h.qEZ
   .exact h
  obtain⟨b,c,d,hT⟩:=hE.top;obtain⟨k,hkl⟩:∃ k,(wB p n).ZW.length=k:=⟨_,rfl⟩;rw [hkl] at hT;have hk:k=0\/(wB p n).en≠0:=n2.imp (λh=>by rw [<- hkl,h];rfl) id;by_cases hk0:k=0
  .subst hk0;refine bP ?_<|aI t5<|hT;refine qD [] .nil qE ⟨rfl,qAl.fin (hE.qCs λq hq=>qB) (λ_=>qR rfl) (λ_ h=>h)⟩
  .have he:=hk.resolve_left hk0;have hk1:0<k:=qA;have heb:((wB p n).en==0)=false:=by simpa using he
   refine bP ?_<|yE t5 hT hk1<|heb;refine qD [] .nil qE ⟨rfl,qAl.fin (hE.qCs λq hq=>qB) (λ_=>qR rfl) (λ_ h=>h)⟩
theorem sX (gl) (l:List Zt) (hl:l.length=8):qb prog gl 49 [.sl 3 (qW l)] (λr y H'=>y=.hs r 1 0 (yd l).length/\H' r=some (.row 1 (qT (yd l)))):=by
 refine qb.Zl func49 [.tmp 2] ntmps49 λC w g root=>?_;refine qC ?_<| hl;refine qX (λn st=>∃ (i:Nat) (xs:List Int),n=l.length - i/\i<=l.length/\xs=yd (l.take i)/\xs.length=i/\st.tm 0=.sl 3 (qW l)/\st.tm 3=.hs (.s 3) 1 0 xs.length/\st.hp (.s 3)=some (.row 1 (qT xs))/\st.tm 4=iv i) l.length ?_ ?_
 .exact⟨0,[],qA,qA,by simp [yd],rfl,qB,qB,qB,qB⟩
 rintro n st - - ⟨i,xs,rfl,hi,hxs,hxl,h0,h3,hp3,h4⟩;by_cases hil:i<l.length
 .obtain⟨s,hs⟩:=gX hil;obtain⟨_,hsE⟩:=gS hs;have hx8:xs.length<=8:=qA;have hi8:(i:Int)<8:=qA
  have htk:yd (l.take (i+1))=yd (l.take i)++[match s with|some v=>Hm.shown v|none=>-9]:=by
   rw [uQ,hs]
   cases s <;> simp [yd]
  cases s with
  | none =>
   refine qC ?_<|aJ h0 h3 hp3 h4 hil hi8 hs hsE hx8<|hl;exact⟨l.length - (i+1),qA,i+1,xs++[-9],rfl,qA,by rw [htk,hxs],oM,zR,qB,qB,zD⟩
  | some v =>
   have hsh:=df gl v;obtain⟨v1,v2⟩:=v;have fx:=aJ h0 h3 hp3 h4 hil hi8 hs hsE hx8<|hl;have c1:=hsh;refine qG ?_;clear fx c1;exact⟨l.length - (i+1),qA,i+1,xs++[Hm.shown (v1,v2)],rfl,qA,by rw [htk,hxs],oM,zR,qB,qB,zD⟩
 .have hge:i=l.length:=qA;subst hge;rw [an] at hxs;subst hxs;refine qC ?_<|yS h0 h3 hp3 h4<|hil;refine qD [(.s 2,root)] (.one rfl) qE ⟨qB,jv⟩
abbrev TB:Zh:=.q 1<|.q 2<|.q 3<|.q 4<|.q 6<|.q 7<|.q 8<|.q 9<|.q 10<|.q 11<|.q 12<|.q 13<|.q 14<|.q 15<|.q 16<|.q 17<|.l 0 [17,16,15,14,13,12,11,10,9,8,7,6,4,3,2,1]<|.l 5 [17,16,15,14,13,12,11,10,9,8,7,6]<|.l 18 [13,12,11,10,9,8,7,6]<|.q 19<|.l 20 []<|.done
theorem rH (gl) (p:Z0) (f:Int) (hs:Sml p):qb prog gl 17 [pav p,iv f] (λr y H'=>y=.agg ((C9 p f).own r)/\qBf H' r (C9 p f)):=by
 refine qb.Zl func17 [.cell 4 34] ntmps17 λC w g root=>?_
 cases hv:jT p f
 .skip
  have fx:= hv;have c1:=hv ▸ kB gl p f hs;refine qG ?_
  repeat ((first|refine Ze (id:=4) TB mixed ?_);refine qZ ?_;refine qG ?_)
  clear fx c1;have hG:C9 p f=⟨[],0,0,[]⟩:=tX;rw [hG];refine qD [(.s 4,root)] (.one rfl) qE ⟨qB,⟨qB,qB⟩⟩
 .obtain⟨hpo,n,rfl,hn⟩:=jl hv;have hP:=Zm.of hs hpo;have hLk:qAw p:=⟨hs,hP.sh⟩;obtain⟨hb1,hb2,hgl8⟩:=og (n:=n) hP hn;have hol':(wB p n).out.length<=1000:=qA;have hG:C9 p n=Oo (wB p n):=tX;rw [hG];have fx:= hv;have c1:=hv ▸ kB gl p n hs;refine qG ?_
  repeat ((first|refine Ze (id:=4) TB mixed ?_);refine qZ ?_;refine qG ?_)
  clear fx c1;intro K hK;have fx:=Zk;refine aL Xn rfl Bq (hF:=Rm gl _ p n hP hLk hn cN cN) (h:=?_);rintro y H1 ⟨rfl,hO1⟩;clear fx;obtain⟨b,c,d,hT1⟩:=hO1.top;have hU1:=hO1.out;have hG1:=hO1.Zg;have hR1:=hO1.trc;have fx:=yS hT1 hU1 hG1 hol'<|hgl8;have d1:=sX gl (wB p n).globals hgl8;refine qG ?_
  repeat ((first|refine Ze (id:=4) TB mixed ?_);refine qZ ?_;refine qG ?_)
  clear fx d1;refine qD [(.s 4,root)] (.one rfl) qE ⟨by simp [Oo],⟨by simp [Oo],by simp [Oo]⟩⟩
theorem io (gl) (p:Z0) (f:Int) (hs:Sml p):qb prog gl 12 [pav p,iv f] (λr y H'=>y=.hs r 2 0 (JK p f).length/\H' r=some (.row 2 (yw (JK p f)))):=by
 refine qb.Zl func12 [.tmp 4] ntmps12 λC w g root=>?_
 cases hv:jT p f
 .skip
  have fx:= hv;have c1:=hv ▸ kB gl p f hs;refine qG ?_;clear fx c1;refine qD [(.s 4,root)] (.one rfl) qE tU
 .obtain⟨hpo,n,rfl,hn⟩:=jl hv;have hP:=Zm.of hs hpo;have hLk:qAw p:=⟨hs,hP.sh⟩;obtain⟨hb1,hb2,hgl8⟩:=og (n:=n) hP hn;have hol':(wB p n).trace.length<=1000:=qA;have hG:JK p n=(wB p n).trace:=tU;rw [hG];have fx:= hv;have c1:=hv ▸ kB gl p n hs;refine qG ?_;clear fx c1;intro K hK;have fx:=Zk;refine aL Xn rfl Bq (hF:=Rm gl _ p n hP hLk hn cN cN) (h:=?_);rintro y H1 ⟨rfl,hO1⟩;clear fx;obtain⟨b,c,d,hT1⟩:=hO1.top;have hU1:=hO1.out;have hG1:=hO1.Zg;have hR1:=hO1.trc;refine qC ?_<|jI hT1 hR1<|hol';refine qD [(.s 4,root)] (.one rfl) qE ⟨qB,qB⟩
end Go.Proofs.YtdnebaieamppbaaGreatDoor
end
