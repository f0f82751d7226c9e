import Derived.Test.YtjgpejikjhojcaaGreatDoorR28
import Derived.Test.YtjgpejikjhojcaaGreatDoorR24
set_option linter.unusedSimpArgs false
set_option linter.unusedVariables false
set_option maxRecDepth 100000
set_option maxHeartbeats 4000000

section
namespace Go.Proofs.YtjgpejikjhojcaaGreatDoor
open Go Go.Hm Go.Proofs Tryz
abbrev Wa:qV:=kf<|.l 11 []<|.done
abbrev Wb:qV:=GN<|.done
abbrev We:qV:=GN<|.l 17 [16,15,14,13,12,11,10,9,8,7,6,5,4,3,2,1,0]<|.l 18 []<|.done
abbrev Wf:qV:=ea<|.l 14 [9,5,4,3,2,1,0]<|.l 15 [9,5,0]<|.q 16<|.q 17<|.l 18 []<|.done
abbrev Wg:qV:=bF<|.l 8 [4,3,2,1,0]<|.l 9 [0]<|.q 10<|.q 11<|.l 12 []<|.done
abbrev Wh:qV:=aK<|.l 12 [7,5,4,3,2,1,0]<|.l 13 [7,5,0]<|.q 14<|.q 15<|.l 16 []<|.done
abbrev Wi:qV:=kf<|.l 11 [6,5,4,3,2,1,0]<|.q 12<|.l 13 [4,3,2,1,0]<|.l 14 [0]<|.q 15<|.q 16<|.l 17 []<|.done
abbrev Wj:qV:=aK<|.l 12 [7,6,5,4,3,2,1,0]<|.l 13 [7,6,5,0]<|.q 14<|.q 15<|.l 16 []<|.done
abbrev Wk:qV:=aK<|.l 12 [7,6,5,4,3,2,1,0]<|.l 13 [4,3,2,1,0]<|.l 14 [4,3,2,1,0]<|.l 15 [0]<|.q 16<|.q 17<|.l 18 []<|.done
abbrev Wl:qV:=ea<|.done
abbrev Wc:qV:=A6<|.l 18 [13,11,10,9,8,7,6,5,4,3,2,1,0]<|.l 19 [13,11,10,9,8,7,6,5,0]<|.q 20<|.q 21<|.l 22 []<|.done
abbrev Wd:qV:=aL<|.l 6 [4,3,2,1,0]<|.l 7 [4,3,2,1,0]<|.l 8 [4,3,2,1,0]<|.l 9 [0]<|.q 10<|.q 11<|.l 12 []<|.done
theorem dX {A G G2:Prop} (k:G2) (x:A) (h:A->jL G2->G:=by
 intro fx kk;refine qK ?_
 repeat ((first|refine qQ (id:=0) Wa mixed ?_|refine qQ (id:=1) Wb mixed ?_|refine qQ (id:=3) We mixed ?_|refine qQ (id:=11) Wf mixed ?_);refine zK ?_;refine qK ?_)
 exact kk.h):G:=h x ⟨k⟩
theorem FB {A G G2:Prop} (k:G2) (x:A) (h:A->jL G2->G:=by
 intro fx kk;refine qK ?_
 repeat ((first|refine qQ (id:=3) Wg mixed ?_|refine qQ (id:=9) Wh mixed ?_|refine qQ (id:=11) Wi mixed ?_|refine qQ (id:=12) Wj mixed ?_|refine qQ (id:=14) Wk mixed ?_|refine qQ (id:=19) Wl mixed ?_|refine qQ (id:=21) Wc mixed ?_|refine qQ (id:=23) Wd mixed ?_);refine zK ?_;refine qK ?_)
 exact kk.h):G:=h x ⟨k⟩
theorem Zw (gl) (H:Nm->Option AO) (p:qC) (m:qR) (fs:List qO) (f:qO) (dp:Nat) (hP:zk p) (hM:yV p m fs f) (hm:m.qN=fs++[f]) (he:m.en=0) (hO:qS H p (.c Xn 0 6) m dp) (h2:H (.u 2 0 0)=none) :
  qZ prog gl 131 (Nm.under Xn) [.pt Xn 0] H (λ_ _ H'=>qS H' p (.c Xn 0 6) (kh p m) dp\/((kh p m).en≠0/\wG H' p (kh p m) dp)) zG:=by
 have hmt:m=m.top fs f:=by cases m;simp only [qR.top] at hm ⊢;rw [hm]
 have hol:=pT (p:=p) (b:=f.qG) hP.sh;have hpc:=hM.top.pc;have hsl:=hM.top.sl;have hdp:=hM.deep;have hmd:=hM.made;have hp:=hM.top.qG;obtain⟨k,hk⟩:=gX hp;have hcd:(jb p p.length)[f.qG]?=some (zO p f.qG):=xH;obtain⟨hcdl,hcdE⟩:=gS hcd;have hco:(zO p f.qG).ops=zR p f.qG:=fT;have hw1:IntKind.i64.wrap (fs.length:Int)=fs.length:=qm qA qA;have hl1:(fs.length:Int)<(fs.length:Int)+1:=qA;have hl0:(0:Int)<=(fs.length:Int):=qA;have hfl:fs.length<=1000:=qA
 have hgsl:∀ g∈fs,g.stack.length<=1000:=λg hg=>by
  have h1:=(hM.low g hg).sl;have h2:=(hM.low g hg).pc;have h3:=pT (p:=p) (b:=g.qG) hP.sh;omega
 have hn8:=hM.top.nm.1;have hg8:=hM.zJ.1;refine qZ.q9 func131 [] ntmps131 (λ_=>vN rfl) λC w g root hroot=>?_
 cases ho:(zR p f.qG)[f.pc]? with
 | none =>
  refine iW (.c Xn 0 6) (.u 2 0 0) (.inl rfl) (.inr xY) ?_;refine uZ (λs=>s.tm 0=.pt Xn 0/\qS s.hp p (.u 2 0 0) m dp) ⟨qB,hO.nM (.inl ⟨rfl,rfl⟩)⟩ ?_;rintro s ⟨t0,hO⟩;obtain⟨L,j,hL,hat,hlt,hF,hf,hn,hsk⟩:=hO.uY hm;obtain⟨_,hatE⟩:=gS hat;have hT:=hO.top;simp only [zp,hm,ua,wm] at hT;have hpe:f.pc=(zR p f.qG).length:=by have:=List.getElem?_eq_none_iff.1 ho;omega
  have hres:kh p m=aC p m fs f:=Hm.step_end hm ho;rw [hres];have hnk:=hM.nk;refine dX ?_<|qh t0 hT hF hat hatE hlt hw1 hl1 hl0 hcd hcdl hcdE<|aI hco<|hpe;intro K hK;have fx:=aI t0 hT;refine bn (.u 2 0 0) (.c Xn 0 6) (.inr xY) (.inl rfl) ?_;refine wF zE dT (hF:=Q2 _ _ p m fs f dp hp hm hfl hgsl hn8 qA (have h:=hO;qS.re h)) (h:=?_);rintro y H1 hO1;clear fx;have hT1:=hO1.top;simp only [zp] at hT1;refine dX ?_<|qk t0 hT<|hT1;refine qF [] .nil qE (.inl (qS.mu ((qS.nM (have h:=hO1;qS.re h) (.inr ⟨rfl,rfl⟩)))))
 | some o =>
  obtain⟨hol2,hoE⟩:=gS ho;have hOr:=CV hP.sh hk o (gM ho);have hcode:=hOr.code;have harg:=hOr.arg;have hres:kh p m=jp p m fs f.next o:=Hm.Ah hm ho;have hok:=hM.top.ok;rw [mq ho,dq] at hok;rw [hres];have hol3:(f.pc:Int)<((zR p f.qG).length:Int):=qA;have hneb:¬ f.pc=(zR p f.qG).length:=qA;have hneb2:((f.pc:Int)==((zR p f.qG).length:Int))=false:=ku;have hwp:IntKind.i64.wrap ((f.pc:Int)+1)=(f.pc:Int)+1:=qm qA qA;by_cases c0:o.1=0
  .obtain⟨L,j,hL,hat,hlt,hF,hf,hn,hsk⟩:=hO.uY hm;obtain⟨_,hatE⟩:=gS hat;have hT:=hO.top;simp only [zp,hm,ua,wm] at hT;have hftk:=RU (p:=p) (n:=.c Xn 0 6) hat ho c0
   have htl:vB ((zR p f.qG).take f.pc)<=60:=by
    have h1:=NW (l:=(zR p f.qG).take f.pc);simp at h1;omega
   have hord:jp p m fs f.next o=wU p m fs f.next:=by simp [jp,c0]
   rw [hord];obtain⟨c,a⟩:=o;simp only at c0;subst c0;have hlf:v7 p f+1=((vB ((zR p f.qG).take f.pc):Nat):Int):=by simp [v7]
   have hlw:IntKind.i64.wrap (v7 p f+1)=v7 p f+1:=qm qA qA;by_cases hl:m.left=0
   .have ht:wU p m fs f.next=m.stop fs f.next 1:=by simp only [wU,hl,if_true]
    rw [ht];have hlk:=hO.fr;rw [hm] at hlk;refine dX ?_<|qh hT hF hat hatE hlt hw1 hl1 hl0 hcd hcdl hcdE hco<|jN ho hoE hol2 hol3 hneb hneb2 hwp<|hl;refine qF [] .nil qE (.inr ⟨qB,wG.fin (wG.mk ⟨_,_,_,by simp [hl];exact⟨rfl,rfl,rfl⟩⟩ (by simp [hO.cells]) (by simp [hO.zJ]) oe rr (by exact gO.tick (fs:=fs) (g:=f.next) (x:=(f.pc:Int)+1) hlk hL rfl (by simp [hF,A1]))) (λ_=>vN rfl) (λ_ h=>h)⟩)
   .obtain⟨l,hll⟩:∃ l,m.left=l+1:=⟨m.left - 1,qA⟩
    have ht:wU p m fs f.next={ m.top fs f.next with left:=l,trace:=m.trace++[(f.qG,vB ((zR p f.qG).take f.pc))] }:=by
     simp only [wU,hl,if_false,hll]
     rfl
    rw [ht];have hTr:=hO.zo;have htr2:=hM.tr;have htl':m.trace.length<=1000:=qA;have hlb:((l:Int)+1==0)=false:=ku;have hwl:IntKind.i64.wrap (l:Int)=l:=qm qA qA;have hap:yy m.trace++[[iv f.qG,iv (v7 p f+1)]]=yy (m.trace++[(f.qG,vB ((zR p f.qG).take f.pc))]):=by rw [hlf];exact CQ
    have hR2:(j3 (ji p (.c Xn 0 6) L) fs.length 1 [iv ((f.pc:Int)+1)])[fs.length]?=some [iv f.qG,iv ((f.pc:Int)+1),iv (v7 p f),.hs (.c (.c Xn 0 6) fs.length 3) 3 0 f.qq.length,jG (jK f.cells),.hs (.c (.c Xn 0 6) fs.length 5) 3 0 8,.hs (.c (.c Xn 0 6) fs.length 6) 2 0 f.stack.length]:=by simp [j3,hat,yd]
    have hR3:(j3 (j3 (ji p (.c Xn 0 6) L) fs.length 1 [iv ((f.pc:Int)+1)]) fs.length 2 [iv (v7 p f+1)])[fs.length]?=some [iv f.qG,iv ((f.pc:Int)+1),iv (v7 p f+1),.hs (.c (.c Xn 0 6) fs.length 3) 3 0 f.qq.length,jG (jK f.cells),.hs (.c (.c Xn 0 6) fs.length 5) 3 0 8,.hs (.c (.c Xn 0 6) fs.length 6) 2 0 f.stack.length]:=by simp [j3,hat,yd]
    obtain⟨_,hR2E⟩:=gS hR2;obtain⟨_,hR3E⟩:=gS hR3;refine dX ?_<|qh hT hF hat hatE hlt hR2 hR3 hR2E hR3E hw1 hl1 hl0<|qh hcd hcdl hcdE hco ho hoE hol2 hol3 hneb hneb2 hwp hll<|zN hlb hwl hTr htl'<|hlw;refine yb [] .nil qE (.inl (qS.mu (have h:=hO;qS.uC h hm hL rfl (by simp [A1,hftk]) (by simp [hf,qO.next]) (by simp [hn,qO.next]) ⟨j,by simp [hsk,qO.next]⟩ (h0:=by simp [zp]) (h7:=xM))))
  .refine iW (.c Xn 0 6) (.u 2 0 0) (.inl rfl) (.inr xY) ?_;refine uZ (λs=>s.tm 0=.pt Xn 0/\qS s.hp p (.u 2 0 0) m dp) ⟨qB,hO.nM (.inl ⟨rfl,rfl⟩)⟩ ?_;rintro s ⟨t0,hO⟩;obtain⟨L,j,hL,hat,hlt,hF,hf,hn,hsk⟩:=hO.uY hm;obtain⟨_,hatE⟩:=gS hat;have hT:=hO.top;simp only [zp,hm,ua,wm] at hT;have hfn:=RR (p:=p) (n:=.u 2 0 0) hat ho c0;have hsO:=λh13=>rA.of hM hOr h13;have hnam:=hOr.name;obtain⟨c,a⟩:=o;obtain⟨x,rfl⟩:∃ x:Nat,a=x:=⟨a.toNat,lC⟩;simp only at hcode c0 hsO hnam;refine dX ?_<|qh t0 hT hF hat hatE hlt hw1 hl1 hl0 hcd hcdl hcdE<|jN hco ho hoE hol2 hol3 hneb hneb2<|hwp;refine uZ (λs=>s.tm 0=.pt Xn 0/\s.tm 2=.ep (.u 2 0 0) 7 fs.length 0/\s.tm 3=.pt (.s 3) 0/\s.hp (.s 3)=some (.row 2 [[iv c,iv x]])/\s.tm 64=bv (c==0)/\qS s.hp p (.u 2 0 0) (m.top fs f.next) dp) ⟨uv,qB,qB,qB,qB,(have h:=hO;qS.uC h hm hL rfl (by simp [A1,hfn]) (by simp [hf,qO.next]) (by simp [hn,qO.next]) ⟨j,by simp [hsk,qO.next]⟩ (h0:=cP))⟩ ?_;clear t0 hT hF hf hn hsk hlt hat hatE hL hO hfn;rintro s ⟨t0,t2,t3,p3,t64,hO⟩;have hT:=hO.top;obtain⟨L,j,hL,hat,hlt,hF,hf,hn,hsk⟩:=hO.uY rfl;simp only [zp,qR.top] at hT;have cb0:(c==0)=false:=by simpa using c0
   have mv1:(Nm.u 2 0 0).z7=false\/(yR prog C w g H 135 gl).ext (.u 2 0 0)=false:=.inr xY;have hnsl:f.next.stack.length<=1000:=by simp only [qO.next];omega
   simp only [jz] at hok;by_cases c13:2<=c/\c<=13
   .have hord:jp p m fs f.next (c,(x:Int))=if (c - 2) % 3=0 then vj p m fs f.next (c,(x:Int)) else if (c - 2) % 3=1 then Aj m fs f.next (c,(x:Int)) else be p m fs f.next (c,(x:Int)):=by
     simp only [jp];rw [if_neg c0,if_pos c13]
    have hst1:(c - 2) % 3=1->1<=f.next.stack.length:=by
     intro h1;have hc:c=3\/c=6\/c=9\/c=12:=qA;rcases hc with rfl|rfl|rfl|rfl <;> simp at hok <;> exact hok.1
    rw [hord];obtain⟨c13a,c13b⟩:=c13;have fx:=jN t0 t2 t3 p3 t64 cb0 c13a<|c13b;have c1:=bh gl c 2 13;refine dX ?_<|@fx;clear fx c1;intro K hK;have fx:=aI t0 (aI t2 (aI t3 p3));refine FX (.u 2 0 0) (.c Xn 0 6) mv1 (.inl rfl) ?_;refine wF zE dT (hF:=Zv _ _ p m fs f.next (c,(x:Int)) dp hp ⟨c13a,c13b⟩ ⟨(hsO ⟨c13a,c13b⟩).arg,(hsO ⟨c13a,c13b⟩).lt,(hsO ⟨c13a,c13b⟩).cell⟩ (λh=>hnam h c13b) hg8 hn8 hst1 hnsl (have h:=hO;qS.re h) qB) (h:=?_);rintro y H1 ⟨fr,hfr,hO1⟩;clear fx;refine .inr ?_;have hT1:=hO1.top;simp only [zp] at hT1;refine dX ?_<|qk t0 hT<|hT1;refine yb [] .nil qE (gP.done (qS.mu ((qS.nM (have h:=hO1;qS.re h) (.inr ⟨rfl,rfl⟩)))) hfr)
   have c13b:(decide (2<=c)&&decide (c<=13))=false:=by
    rw [Bool.and_eq_false_iff,decide_eq_false_iff_not,decide_eq_false_iff_not];omega
   have hir:=bh gl c 2 13;rw [c13b] at hir
   have hord:jp p m fs f.next (c,(x:Int))=y3 p m fs f.next (c,(x:Int)):=by
    simp only [jp];rw [if_neg c0,if_neg c13]
   rw [hord];by_cases c17:c=17
   .subst c17;have hord:y3 p m fs f.next (17,(x:Int))=b9 p m fs f.next (17,(x:Int)):=ap;rw [hord];simp at hok;have hx1:=hOr.call rfl;simp only at hx1;have fx:=jH t0 t2 t3 p3 t64<|cb0;have c1:=hir;refine dX ?_<|@fx;clear fx c1;intro K hK;have fx:=aI t0 (aI t2 (aI t3 p3));refine FX (.u 2 0 0) (.c Xn 0 6) mv1 (.inl rfl) ?_;refine wF zE dT (hF:=Zu _ _ p m fs f.next x dp f.pc hP hM qA hok.1 hnsl hfl (have h:=hO;qS.re h)) (h:=?_);rintro y H1 ⟨q,hq,hO1⟩;clear fx;have hT1:=hO1.top;simp only [zp] at hT1;rcases hq with rfl|rfl
    .refine .inr ?_;refine dX ?_<|qk t0 hT<|hT1;refine yb [] .nil qE (.inl (qS.mu ((qS.nM (have h:=hO1;qS.re h) (.inr ⟨rfl,rfl⟩)))))
    .refine .inl ?_;refine dX ?_<|qk t0 hT<|hT1;refine yb [] .nil qE (.inl (qS.mu (have h:=hO1;qS.re h)))
   by_cases c20:c=20
   .subst c20;have hord:y3 p m fs f.next (20,(x:Int))=yq m fs f.next.zB:=ap;rw [hord];simp at hok;obtain⟨k1,hk1⟩:∃ k1,f.next.stack.length=k1+1:=⟨f.next.stack.length - 1,by have:f.next.stack.length=f.stack.length:=rfl;omega⟩;have fx:=jH t0 t2 t3 p3 t64<|cb0;have c1:=hir;refine dX ?_<|@fx;clear fx c1;intro K hK;refine kJ (λs=>s.tm 131=.pt Xn 0/\s.tm 132=.ep (.u 2 0 0) 7 fs.length 0/\qS s.hp p (.u 2 0 0) (m.top fs f.next) dp) ⟨qB,qB,(have h:=hO;qS.re h)⟩ ?_;clear t0 t2 t3 p3 t64 hT hF hf hn hsk hlt hat hL hO;rintro s ⟨t131,t132,hO⟩;have hT:=hO.top;obtain⟨js0,hF⟩:=hO.fr.top;simp only [zp] at hT;obtain⟨rows,a0,a1,a2,a3,a4,a5,vs,e1,e2,e3,e4,e5⟩:=hO.take hk1;have fx:=aI t131 (aI t132 hT);refine wF zE dT (hF:=pR gl zd (λ_=>vK) _ rows fs.length k1 a0 a1 a2 a3 a4 a5 vs f.next.zB e2 e3 e4 e5 qA) (h:=?_);intro y H1 hw;clear fx;have hO1:=hO.taken e1 hk1 hw;obtain⟨rfl,-⟩:=hw;have hT1:=hO1.top;obtain⟨js1,hF1⟩:=hO1.fr.top;simp only [zp] at hT1
    have hlv:∀ v,yq (m.top fs f.next.pop) fs v=yq m fs v:=λv=>by
     unfold yq
     split <;> rfl
    refine dX ?_<|qk t131 hT<|hT1;have fx:=aI t131 (aI hT hT1);refine bn (.u 2 0 0) (.c Xn 0 6) mv1 (.inl rfl) ?_;refine wF cM (by simp [hF1]) (hF:=FF _ _ p (m.top fs f.next.pop) fs f.next.pop f.next.zB dp rfl hfl hgsl (have h:=hO1;qS.re h)) (h:=?_);rintro y H2 hO2;clear fx;rw [hlv] at hO2;have hT2:=hO2.top;simp only [zp] at hT2;refine dX ?_<|zD t131 hT hT1<|hT2;refine yb [] .nil qE (.inl (qS.mu ((qS.nM (have h:=hO2;qS.re h) (.inr ⟨rfl,rfl⟩)))))
   have hcs:c=1\/c=14\/c=15\/c=16\/c=18\/c=19:=qA;have cb17:(c==17)=false:=by simpa using c17
   have cb20:(c==20)=false:=by simpa using c20
   have hval:∀ H:Nm->Option AO,qS H p (.u 2 0 0) (m.top fs f.next) dp->H (.u 9 0 0)=none->qZ prog gl 183 zd [.pt Xn 0,.ep (.u 2 0 0) 7 fs.length 0,.agg [iv c,iv x]] H (λ_ _ H'=>∃ q,(q=.u 2 0 0\/q=.c Xn 0 6)/\gP H' p q (y3 p m fs f.next (c,(x:Int))) dp) zG:=by
    intro H hO h9;have h14:c=14->2<=f.next.stack.length:=by rintro rfl;simp at hok;exact hok.1
    have h18:c=18\/c=19->1<=f.next.stack.length:=IG;rcases hcs with h|h|h|h|h|h
    .exact G6 gl H p m fs f.next (c,(x:Int)) dp f.pc hP hM hOr (.inl h) h14 h18 hnsl hfl hO h9
    .exact G6 gl H p m fs f.next (c,(x:Int)) dp f.pc hP hM hOr (.inr (.inl h)) h14 h18 hnsl hfl hO h9
    .exact G6 gl H p m fs f.next (c,(x:Int)) dp f.pc hP hM hOr (.inr (.inr h)) h14 h18 hnsl hfl hO h9
    .exact Zx gl H p m fs f.next (c,(x:Int)) dp f.pc hP hM hOr h h14 h18 hnsl hfl hO h9
    .exact NE gl H p m fs f.next (c,(x:Int)) dp f.pc hP hM hOr (.inl h) h14 h18 hnsl hfl hO h9
    .exact NE gl H p m fs f.next (c,(x:Int)) dp f.pc hP hM hOr (.inr h) h14 h18 hnsl hfl hO h9
   have fx:=jN t0 t2 t3 p3 t64 cb0 cb17<|cb20;have c1:=hir;refine FB ?_<|@fx;clear fx c1;intro K hK;have fx:=aI t0 (aI t2 (aI t3 p3));refine FX (.u 2 0 0) (.c Xn 0 6) mv1 (.inl rfl) ?_;refine wF zE dT (hF:=hval _ (have h:=hO;qS.re h) qB) (h:=?_);rintro y H1 ⟨q,hq,fr,hfr,hO1⟩;clear fx;have hT1:=hO1.top;simp only [zp] at hT1;rcases hq with rfl|rfl
   .refine .inr ?_;refine FB ?_<|qk t0 hT<|hT1;refine yb [] .nil qE (gP.done (qS.mu ((qS.nM (have h:=hO1;qS.re h) (.inr ⟨rfl,rfl⟩)))) hfr)
   .refine .inl ?_;refine FB ?_<|qk t0 hT<|hT1;refine yb [] .nil qE (gP.done (qS.mu (have h:=hO1;qS.re h)) hfr)
abbrev Fw:qV:=aK<|.l 12 [2,0]<|.l 13 [2,0]<|.l 14 [2]<|.l 15 []<|.done
theorem Pe (gl) (p:qC) (b:Nat) (k:qX) (hk:p[b]?=some k) (hP:zr p) (hL:aR p):qM prog gl 129 [jB p,iv b] (λr y H'=>y=.hs r 1 0 (zw p b).length/\H' r=some (.row 1 (qj (zw p b)))):=by
 have qy:=(gS hk).1;obtain⟨_,hkE⟩:=gS hk;have hlen:=hP.len;have hf8:=fg (p:=p) (b:=b);have hcl:=sH (p:=p) (b:=b);have hfr:=Ek gl p b qy hP.br hP.jj qA;refine qM.q9 func129 [.tmp 4] ntmps129 λC w g root=>?_;have fx:=qd;have d1:=hfr;refine qK ?_
 repeat ((first|refine qQ (id:=6) Fw mixed ?_);refine zK ?_;refine qK ?_)
 clear fx d1;refine zQ (λn st=>∃ i:Nat,n=(zZ p b).length - i/\i<=(zZ p b).length/\st.tm 1=iv b/\st.tm 2=.pt (.s 2) 0/\st.hp (.s 2)=some (.row 1 [[jc p]])/\st.tm 5=.hs (.s 5) 1 0 i/\st.hp (.s 5)=some (.row 1 (qj ((zw p b).take i)))/\st.tm 6=.hs (.s 6) 1 0 (zZ p b).length/\st.hp (.s 6)=some (.row 1 (qj (zZ p b)))/\st.tm 7=iv i) (zZ p b).length ?_ ?_
 .exact⟨0,qA,qA,qB,qB,qB,qB,qB,qB,qB,qB⟩
 rintro n st - - ⟨i,rfl,hi,t1,t2,p2,t5,p5,t6,p6,t7⟩;by_cases hil:i<(zZ p b).length
 .obtain⟨x,hx⟩:=gX hil;obtain⟨_,hxE⟩:=gS hx;have hb0:=xk (gM hx);obtain⟨h1,h2,h3⟩:=hP.jj b k hk;have h4:=h3 hb0;obtain⟨c,hc⟩:∃ c:Nat,k.parent=c:=⟨k.parent.toNat,qA⟩;obtain⟨kc,hkc⟩:∃ kc,p[c]?=some kc:=⟨_,gE qA⟩;have hpa:kZ p b=c:=by simp [kZ,hk,hc]
  have hcp:=Ic gl p c kc x hkc hL;have htl:((zw p b).take i).length=i:=by simp [zw];omega
  have hi8:i<=8:=qA;have fx:=qh t1 t2 p2 t5 p5 t6 p6 t7 hil hk hkE qy<|zN hc hx hxE htl<|hi8;have c1:=hcp;refine qK ?_
  repeat ((first|refine qQ (id:=6) Fw mixed ?_);refine zK ?_;refine qK ?_)
  clear fx c1
  have e1:(zw p b).take (i+1)=(zw p b).take i++[bb p c x]:=by
   rw [uG];simp [zw,hx,hpa]
  have e2:qj ((zw p b).take i)++[[iv (bb p c x)]]=qj ((zw p b).take (i+1)):=by rw [e1];simp [qj]
  refine⟨(zZ p b).length - (i+1),qA,i+1,rfl,qA,lG,kS,by simp [p2],qB,?_,iy,by simp [p6],by simp [t7];exact qm qA qA⟩;simp [<- e2];rw [yG qu]
 .obtain rfl:i=(zZ p b).length:=qA;have hcl2:(zw p b).length=(zZ p b).length:=by simp [zw]
  have htk:(zw p b).take (zZ p b).length=zw p b:=yG qA;rw [htk] at p5;have fx:=jN t1 t2 p2 t5 p5 t6 p6<|t7;refine qK ?_
  repeat ((first|refine qQ (id:=6) Fw mixed ?_);refine zK ?_;refine qK ?_)
  clear fx;exact y7 (t:=4) II II qB
theorem Pd (gl) (p:qC) (b:Nat) (k:qX) (hk:p[b]?=some k) (hP:zr p) (hL:aR p):qM prog gl 129 [jB p,iv b] (λ_ y _=>y=jG (zw p b)) :=
 (Pe gl p b k hk hP hL).settle λr y H' hr=>⟨jG (zw p b),by rw [hr.1];exact dR hr.2 rfl,rfl⟩
theorem QJ (gl) (p:qC) (hL:aR p):qM prog gl 128 [jB p] (λ_ y _=>y=uw (jb p p.length)) :=
 (Z7 gl p hL).settle λr y H' hr=>⟨uw (jb p p.length),by rw [hr.1];exact fO hr.2 rfl,rfl⟩
abbrev Fx:qV:=a7<|.l 7 [4,3,2,1,0]<|.l 8 [4,3,2,1,0]<|.l 9 [0]<|.q 10<|.q 11<|.l 12 []<|.done
abbrev Fy:qV:=A5<|.l 10 [5,0]<|.q 11<|.q 12<|.l 13 []<|.done
theorem H6:∀ {k:Nm},Nm.under (.u 1 0 0) k=true->Nm.under (.u 2 0 0) k=false
 | .s d,h=>by simp [Nm.under]
 | .u a b c,h=>by simp [Nm.under] at h ⊢;omega
 | .c q i j,h=>by
  simp [Nm.under] at h ⊢;exact H6 h
theorem pM {A G G2:Prop} (k:G2) (x:A) (h:A->jL G2->G:=by
 intro fx kk;refine qK ?_
 repeat ((first|refine qQ (id:=6) Fx mixed ?_|refine qQ (id:=9) Fy mixed ?_);refine zK ?_;refine qK ?_)
 exact kk.h):G:=h x ⟨k⟩
theorem Lz (gl) (H:Nm->Option AO) (p:qC) (n:Nat) (hP:zk p) (hL:aR p) (hn:n<=150) (h1:H (.u 1 0 0)=none) (h2:H (.u 2 0 0)=none) :
  qZ prog gl 87 (Nm.under Xn) [jB p,iv n] H (λ_ y H'=>y=.pt Xn 0/\wG H' p (yY p n) (yY p n).deep) zG:=by
 have hlen:=hP.sh.len;refine qZ.q9 func87 [.tmp 4] ntmps87 (λ_=>vN rfl) λC w g root hroot=>?_;have fx:=qd;have p1:=QJ gl p hL;have d1:=Bp gl;refine zf ?_
 repeat ((first|refine qQ (id:=6) Fx mixed ?_|refine qQ (id:=9) Fy mixed ?_);refine vU ?_;refine zf ?_)
 clear fx p1 d1;have hl1:1<=p.length:=qA;refine iW (.s 5) (.u 1 0 0) (.inl rfl) (.inr (by simp [yR,h1])) (iW (.s 33) (.c (.c Xn 0 1) 0 0) (.inl rfl) (.inl rfl) ?_);refine zQ (λk s=>∃ b:Nat,k=p.length - b/\1<=b/\b<=p.length/\s.tm 2=.pt (.s 2) 0/\s.hp (.s 2)=some (.row 1 [[jc p]])/\s.tm 5=.pt Xn 0/\s.tm 6=iv b/\DL s.hp p n b) (p.length - 1) ?_ ?_
 .refine⟨1,rfl,qA,hl1,qB,qB,qB,qB,⟨qB,qB,qB,qB,qB,qB,qB,qB,qB⟩⟩
 rintro k s - - ⟨b,rfl,hb1,qy,t2,p2,t5,t6,hX⟩;have hT:=hX.top;by_cases hil:b<p.length
 .obtain⟨k,hk⟩:=gX hil;have hC:=hX.yn;have hCl:=P8 (p:=p) hb1;have hCa:=P7 (p:=p) hb1;have hb7:b<=7:=qA;have fx:=vI t2 p2 t5 t6 hT hC hCl hil<|hb7;have p1:=Pd gl p b k hk hP.sh hL;refine zf ?_
  repeat ((first|refine qQ (id:=6) Fx mixed ?_|refine qQ (id:=9) Fy mixed ?_);refine vU ?_;refine zf ?_)
  clear fx p1;have htk:(eH p b).take b=eH p b:=yG qA;exact⟨p.length - (b+1),qA,b+1,rfl,qA,qA,kS,by simp [p2],fX,jM,⟨qB,by simp [htk,hCa],by simp [hX.cells],by simp [hX.zJ],by simp [hX.qH],by simp [hX.jA],by simp [hX.fr],by simp [hX.out],by simp [hX.zo]⟩⟩
 obtain rfl:b=p.length:=qA;have hOw:=hX.own qA;refine pM ?_<|zN t2 p2 t5 t6<|hT;intro K hK;refine FY 44 (.s 44) 1 0 [] ?_ ?_ rfl qB ?_
 .simp
 .simp
 refine wa (.c Xn 0 6) (.u 2 0 0) (.inl rfl) (.inr xY) ?_;refine kJ (λs=>s.tm 42=.pt Xn 0/\s.tm 43=.pt Xn 0/\s.tm 44=jG []/\s.tm 5=.pt Xn 0/\qS s.hp p (.u 2 0 0) (jQ n) 0) ⟨qB,qB,qB,fX,qS.nM (n:=.c Xn 0 6) (have h:=hOw;qS.re h) (.inl ⟨rfl,rfl⟩)⟩ ?_;clear t2 p2 t5 t6 hT hX hOw;rintro s ⟨t42,t43,t44,t5,hO⟩;have hT:=hO.top;obtain⟨js,hF⟩:=hO.fr.top;simp only [zp,jQ] at hT hF;have hBg:er p (jQ n) 0 [] 0 (List.replicate (qx p 0).length none) ([]++List.replicate (qY p 0).length none):=.inl ⟨rfl,rfl,rfl⟩;have hfin:=hBg.fin (cs:=[]) rfl;have hst:zU p n=jv p (jQ n) 0 [] []:=rfl;rw [<- hst] at hfin;have fx:=aI t42 (aI t43 t44);refine bn (.c (.s 45) 0 3) (.s 30) (.inl rfl) (.inl rfl) ?_;refine bn (.c (.s 45) 0 5) (.s 31) (.inl rfl) (.inl rfl) ?_;refine bn (.c (.s 45) 0 6) (.s 32) (.inl rfl) (.inl rfl) ?_;refine wF zE dT (hF:=FT _ _ p (jQ n) 0 [] 0 qA fU qB fU (have h:=hO;qS.re h)) (h:=?_);rintro y H1 ⟨rfl,h3,h5,h6,hO1⟩;clear fx;have hT1:=hO1.top;obtain⟨js1,hF1⟩:=hO1.fr.top;simp only [zp,jQ] at hT1 hF1;obtain⟨hfin1,hfin2⟩:zU p n={ jQ n with cells:=List.replicate (qY p 0).length none,made:=1,deep:=1,qN:=[⟨0,0,List.replicate (qx p 0).length none,(List.range (qY p 0).length).map ((jQ n).cells.length+·),jR,[]⟩] }/\True:=⟨by rw [hfin];simp [jQ],trivial⟩;refine pM ?_<|jS t42 t43 t44 t5 hT hF hT1 hF1 h3 h5<|h6
 have hr0:(jQ n).cells.length=0:=rfl;obtain⟨N,n1,n2,n3,n4⟩:=XY hP hn;refine zQ (λk s=>∃ i:Nat,k=N - i/\i<=N/\s.tm 5=.pt Xn 0/\(qS s.hp p (.c Xn 0 6) (zS p i (zU p n)) (bD p i (zU p n) 0)\/(i=N/\(zS p i (zU p n)).en≠0/\wG s.hp p (zS p i (zU p n)) (bD p i (zU p n) 0)))) N ?_ ?_
 .refine⟨0,qA,qA,by simp [t5,hT],.inl ?_⟩;simp only [zS,bD];rw [hfin1];refine⟨?_,?_,?_,?_,?_,?_,?_,?_,⟨[],?_⟩,λi1 g hg=>?_,λi1 g hg=>?_,λi1 g hg=>?_⟩
  .simp [zp,jQ]
  .simp [hO1.yn]
  .have:=hO1.cells;simp [jQ] at this;simp [this]
  .simp [hO1.zJ]
  .simp [hO1.qH]
  .simp [hO1.jA]
  .simp [hO1.out]
  .simp [hO1.zo]
  .simp [ji,yd,v7,vB]
  .have:i1=0/\g=⟨0,0,List.replicate (qx p 0).length none,(List.range (qY p 0).length).map ((jQ n).cells.length+·),jR,[]⟩:=by
    have hl:=(gS hg).1;simp at hl;subst hl;simp at hg;exact⟨rfl,hg.symm⟩
   obtain⟨rfl,rfl⟩:=this;simp [h3]
  .have:i1=0/\g=⟨0,0,List.replicate (qx p 0).length none,(List.range (qY p 0).length).map ((jQ n).cells.length+·),jR,[]⟩:=by
    have hl:=(gS hg).1;simp at hl;subst hl;simp at hg;exact⟨rfl,hg.symm⟩
   obtain⟨rfl,rfl⟩:=this;simp [h5]
  .have:i1=0/\g=⟨0,0,List.replicate (qx p 0).length none,(List.range (qY p 0).length).map ((jQ n).cells.length+·),jR,[]⟩:=by
    have hl:=(gS hg).1;simp at hl;subst hl;simp at hg;exact⟨rfl,hg.symm⟩
   obtain⟨rfl,rfl⟩:=this;exact⟨[],by simp [h6,zh]⟩
 clear t42 t43 t44 t5 hT hF hT1 hF1 h3 h5 h6 hO hO1;rintro k s - - ⟨i,rfl,hi,t5,hI⟩;refine qBM (Nm.under (.u 2 0 0)) ?_;refine uZ (λs=>s.tm 5=.pt Xn 0/\s.hp (.u 2 0 0)=none/\(qS s.hp p (.c Xn 0 6) (zS p i (zU p n)) (bD p i (zU p n) 0)\/(i=N/\(zS p i (zU p n)).en≠0/\wG s.hp p (zS p i (zU p n)) (bD p i (zU p n) 0)))) ⟨fX,qB,?_⟩ ?_
 .have hk:∀ k,Nm.under Xn k=true->Nm.under (.u 2 0 0) k=false:=λk h=>H6 h;rcases hI with h|⟨h1,h2,h3⟩
  .exact .inl (h.MH (F:=some) (λ_ _=>rfl) λq hq=>by rw [JZ,hk q hq];cases s.hp q <;> simp [AO.vv])
  .exact .inr ⟨h1,h2,h3.pC λq hq=>by rw [JZ,hk q hq];rfl⟩
 clear t5 hI s;rintro s ⟨t5,hU,hI⟩;by_cases hiN:i<N
 .have hne:=n1 i hiN;obtain⟨fs,f,hfr,hM⟩:=(pY hP hn i).resolve_left hne
  have hen:(zS p i (zU p n)).en=0:=by
   by_cases h:(zS p i (zU p n)).en=0
   .exact h
   .exact absurd (.inr h) hne
  have hO:=hI.resolve_right λh=>qA;have hsn:=GG i hne;have hnt:=Ky (d:=0) i hne;rw [hfr] at hnt;simp only [ua,wm] at hnt;have hT:=hO.top;obtain⟨js,hF⟩:=hO.fr.top;simp only [zp,hfr,hen,ua,wm] at hT hF;have hl0:(0:Int)<(fs.length:Int)+1:=qA;refine pM ?_<|zD t5 hT hF<|hl0;intro K hK;have fx:=aI t5 (aI hT hF);refine Ni (i:=(bD p i (zU p n) 0:Int)) (j:=(fs.length:Int)+1) (bD p (i+1) (zU p n) 0:Nat) (by rw [hnt];omega) (h:=?_);clear fx;refine pM ?_<|qk t5 hT<|hF;intro K hK;have fx:=aI t5 (aI hT hF);refine u0 Xn rfl tw (hF:=Zw gl _ p (zS p i (zU p n)) fs f (bD p (i+1) (zU p n) 0) hP hM hfr hen (have h:=hO;qS.re h (h0:=by simp [zp,hfr,hen])) (by simp [hU])) (h:=?_);rintro y H1 hO1;clear fx;rw [<- hsn] at hO1;refine pM ?_<| t5;refine⟨N - (i+1),qA,i+1,rfl,qA,fX,?_⟩;rcases hO1 with h|⟨h1,h2⟩
  .exact .inl (have h:=h;qS.re h)
  .have hN1:i+1=N:=by
    by_cases e:i+1<N
    .exact absurd (.inr h1) (n1 _ e)
    .omega
   exact .inr ⟨hN1,h1,h2.pC λq hq=>gi⟩
 .obtain rfl:i=N:=qA;rw [n3,n4] at hI;rw [n3] at n2
  have hE:wG s.hp p (yY p n) (yY p n).deep:=by
   rcases hI with h|⟨-,-,h⟩
   .exact h.Ix
   .exact h
  obtain⟨b,c,d,hT⟩:=hE.top;obtain⟨k,jw⟩:∃ k,(yY p n).qN.length=k:=⟨_,rfl⟩;rw [jw] at hT;have hk:k=0\/(yY p n).en≠0:=n2.imp (λh=>by rw [<- jw,h];rfl) id;by_cases hk0:k=0
  .subst hk0;refine pM ?_<|aI t5<|hT;refine qF [] .nil qE ⟨rfl,wG.fin (hE.pC λq hq=>qB) (λ_=>vN rfl) (λ_ h=>h)⟩
  .have he:=hk.resolve_left hk0;have hk1:0<k:=qA;have heb:((yY p n).en==0)=false:=oc;refine pM ?_<|zD t5 hT hk1<|heb;refine qF [] .nil qE ⟨rfl,wG.fin (hE.pC λq hq=>qB) (λ_=>vN rfl) (λ_ h=>h)⟩
end Go.Proofs.YtjgpejikjhojcaaGreatDoor
end
section

end
section
namespace Go.Proofs.YtjgpejikjhojcaaGreatDoor
open Go Go.Hm Go.Proofs Tryz
abbrev Fz:qV:=bF<|.l 8 [7,6,5,4]<|.l 9 []<|.done
theorem Z2 (gl) (p:qC) (f:Int) (hs:jt p):qM prog gl 48 [jB p,iv f] (λ_ y _=>y=iv (Bj p f)):=by
 refine qM.q9 func48 [.tmp 4] ntmps48 λC w g root=>?_
 cases hv:kF p f
 .skip
  have fx:= hv;have c1:=hv ▸ Ct gl p f hs;refine qK ?_;clear fx c1;refine qF [] .nil qE sA
 .obtain⟨hpo,n,rfl,hn⟩:=xl hv;have hP:=zk.of hs hpo;have hLk:aR p:=⟨hs,hP.sh⟩;obtain⟨hb1,hb2,hgl8⟩:=AW (n:=n) hP hn;have fx:= hv;have c1:=hv ▸ Ct gl p n hs;refine qK ?_;clear fx c1;intro K hK;have fx:=qd;refine u0 Xn rfl tw (hF:=Lz gl _ p n hP hLk hn lD lD) (h:=?_);rintro y H1 ⟨rfl,hO1⟩;clear fx;obtain⟨b,c,d,hT1⟩:=hO1.top;have hU1:=hO1.out;have hG1:=hO1.zJ;have hR1:=hO1.zo;refine qJ ?_<| hT1;refine qF [] .nil qE sA
theorem Z3 (gl) (p:qC) (f:Int) (hs:jt p):qM prog gl 49 [jB p,iv f] (λ_ y _=>y=.zX [iv (sQ p f).1,iv (sQ p f).2]):=by
 refine qM.q9 func49 [.tmp 4,.tmp 5] ntmps49 λC w g root=>?_
 cases hv:kF p f
 .skip
  have fx:= hv;have c1:=hv ▸ Ct gl p f hs;refine qK ?_
  repeat ((first|refine qQ (id:=4) Fz mixed ?_);refine zK ?_;refine qK ?_)
  clear fx c1;refine qF [] .nil qE rj
 .obtain⟨hpo,n,rfl,hn⟩:=xl hv;have hP:=zk.of hs hpo;have hLk:aR p:=⟨hs,hP.sh⟩;obtain⟨hb1,hb2,hgl8⟩:=AW (n:=n) hP hn;have fx:= hv;have c1:=hv ▸ Ct gl p n hs;refine qK ?_
  repeat ((first|refine qQ (id:=4) Fz mixed ?_);refine zK ?_;refine qK ?_)
  clear fx c1;intro K hK;have fx:=qd;refine u0 Xn rfl tw (hF:=Lz gl _ p n hP hLk hn lD lD) (h:=?_);rintro y H1 ⟨rfl,hO1⟩;clear fx;obtain⟨b,c,d,hT1⟩:=hO1.top;have hU1:=hO1.out;have hG1:=hO1.zJ;have hR1:=hO1.zo;have fx:= hT1;refine qK ?_
  repeat ((first|refine qQ (id:=4) Fz mixed ?_);refine zK ?_;refine qK ?_)
  clear fx;refine qF [] .nil qE rj
end Go.Proofs.YtjgpejikjhojcaaGreatDoor
end
