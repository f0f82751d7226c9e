import Derived.Test.YtdnebaieamppbaaGreatDoorF27
set_option linter.unusedSimpArgs false
set_option linter.unusedVariables false
set_option maxRecDepth 100000
set_option maxHeartbeats 4000000

section
namespace Go.Proofs.YtdnebaieamppbaaGreatDoor
open Go Go.Hm Go.Proofs Tryz
abbrev W6:Y8:=yq<|.l 11 []<|.done
abbrev W5:Y8:=E6<|.done
abbrev W4:Y8:=E6<|.l 17 [16,15,14,13,12,11,10,9,8,7,6,5,4,3,2,1,0]<|.l 18 []<|.done
abbrev W2:Y8:=bK<|.l 14 [9,5,4,3,2,1,0]<|.l 15 [9,5,0]<|.q 16<|.q 17<|.l 18 []<|.done
abbrev W1:Y8:=kr<|.l 8 [4,3,2,1,0]<|.l 9 [0]<|.q 10<|.q 11<|.l 12 []<|.done
abbrev W0:Y8:=vH<|.l 12 [7,5,4,3,2,1,0]<|.l 13 [7,5,0]<|.q 14<|.q 15<|.l 16 []<|.done
abbrev WZ:Y8:=yq<|.l 11 [6,5,4,3,2,1,0]<|.q 12<|.l 13 [4,3,2,1,0]<|.l 14 [0]<|.q 15<|.q 16<|.l 17 []<|.done
abbrev WY:Y8:=vH<|.l 12 [7,6,5,4,3,2,1,0]<|.l 13 [7,6,5,0]<|.q 14<|.q 15<|.l 16 []<|.done
abbrev WX:Y8:=vH<|.l 12 [7,6,5,4,3,2,1,0]<|.l 13 [4,3,2,1,0]<|.l 14 [4,3,2,1,0]<|.l 15 [0]<|.q 16<|.q 17<|.l 18 []<|.done
abbrev WW:Y8:=bK<|.done
abbrev US:Y8:=xj<|.l 18 [13,11,10,9,8,7,6,5,4,3,2,1,0]<|.l 19 [13,11,10,9,8,7,6,5,0]<|.q 20<|.q 21<|.l 22 []<|.done
abbrev UR:Y8:=kP<|.l 6 [4,3,2,1,0]<|.l 7 [4,3,2,1,0]<|.l 8 [4,3,2,1,0]<|.l 9 [0]<|.q 10<|.q 11<|.l 12 []<|.done
theorem yU {A G G2:Prop} (k:G2) (x:A) (h:A->Yr G2->G:=by
 intro fx kk;refine qI ?_
 repeat ((first|refine Y7 (id:=0) W6 mixed ?_|refine Y7 (id:=1) W5 mixed ?_|refine Y7 (id:=3) W4 mixed ?_|refine Y7 (id:=11) W2 mixed ?_);refine qW ?_;refine qI ?_)
 exact kk.h):G:=h x ⟨k⟩
theorem pL {A G G2:Prop} (k:G2) (x:A) (h:A->Yr G2->G:=by
 intro fx kk;refine qI ?_
 repeat ((first|refine Y7 (id:=3) W1 mixed ?_|refine Y7 (id:=9) W0 mixed ?_|refine Y7 (id:=11) WZ mixed ?_|refine Y7 (id:=12) WY mixed ?_|refine Y7 (id:=14) WX mixed ?_|refine Y7 (id:=19) WW mixed ?_|refine Y7 (id:=21) US mixed ?_|refine Y7 (id:=23) UR mixed ?_);refine qW ?_;refine qI ?_)
 exact kk.h):G:=h x ⟨k⟩
theorem IU (gl) (H:Nm->Option AO) (p:YU) (m:Y2) (fs:List YZ) (f:YZ) (dp:Nat) (hP:Yl p) (hM:MOk p m fs f) (hm:m.YO=fs++[f]) (he:m.en=0) (hO:YW H p (.c Xn 0 6) m dp) (h2:H (.u 2 0 0)=none) :
  Yc prog gl 100 (Nm.under Xn) [.pt Xn 0] H (λ_ _ H'=>YW H' p (.c Xn 0 6) (wZ p m) dp\/((wZ p m).en≠0/\Yu H' p (wZ p m) dp)) Yz:=by
 have hmt:m=m.top fs f:=by cases m;simp only [Y2.top] at hm ⊢;rw [hm]
 have hol:=cW (p:=p) (b:=f.YS) hP.sh;have hpc:=hM.top.pc;have hsl:=hM.top.sl;have hdp:=hM.deep;have hmd:=hM.made;have hp:=hM.top.YS;obtain⟨k,hk⟩:=gX hp;have hcd:(qg p p.length)[f.YS]?=some (qd p f.YS):=rj;obtain⟨hcdl,hcdE⟩:=gS hcd;have hco:(qd p f.YS).ops=yg p f.YS:=kR;have hw1:IntKind.i64.wrap (fs.length:Int)=fs.length:=Yi qA qA;have hl1:(fs.length:Int)<(fs.length:Int)+1:=qA;have hl0:(0:Int)<=(fs.length:Int):=qA;have hfl:fs.length<=1000:=qA
 have hgsl:∀ g∈fs,g.stack.length<=1000:=λg hg=>by
  have h1:=(hM.low g hg).sl;have h2:=(hM.low g hg).pc;have h3:=cW (p:=p) (b:=g.YS) hP.sh;omega
 have hn8:=hM.top.nm.1;have hg8:=hM.Yd.1;refine Yc.Yb func100 [] ntmps100 (λ_=>qZ rfl) λC w g root hroot=>?_
 cases ho:(yg p f.YS)[f.pc]? with
 | none =>
  refine Np (.c Xn 0 6) (.u 2 0 0) (.inl rfl) (.inr sC) ?_;refine uk (λs=>s.tm 0=.pt Xn 0/\YW s.hp p (.u 2 0 0) m dp) ⟨qB,hO.mvF (.inl ⟨rfl,rfl⟩)⟩ ?_;rintro s ⟨t0,hO⟩;obtain⟨L,j,hL,hat,hlt,hF,hf,hn,hsk⟩:=hO.Z2 hm;obtain⟨_,hatE⟩:=gS hat;have hT:=hO.top;simp only [vg,hm,wk,bS] at hT;have hpe:f.pc=(yg p f.YS).length:=by have:=List.getElem?_eq_none_iff.1 ho;omega
  have hres:wZ p m=D5 p m fs f:=Hm.step_end hm ho;rw [hres];have hnk:=hM.nk;refine yU ?_<|qQ t0 hT hF hat hatE hlt hw1 hl1 hl0 hcd hcdl hcdE<|aI hco<|hpe;intro K hK;have fx:=aI t0 hT;refine yu (.u 2 0 0) (.c Xn 0 6) (.inr sC) (.inl rfl) ?_;refine vS zB cE (hF:=FF _ _ p m fs f dp hp hm hfl hgsl hn8 qA (have h:=hO;YW.re h)) (h:=?_);rintro y H1 hO1;clear fx;have hT1:=hO1.top;simp only [vg] at hT1;refine yU ?_<|jD t0 hT<|hT1;refine qE [] .nil qF (.inl (YW.qBR ((YW.mvF (have h:=hO1;YW.re h) (.inr ⟨rfl,rfl⟩)))))
 | some o =>
  obtain⟨hol2,hoE⟩:=gS ho;have hOr:=HJ hP.sh hk o (gM ho);have hcode:=hOr.code;have harg:=hOr.arg;have hres:wZ p m=uq p m fs f.next o:=Hm.Zz hm ho;have hok:=hM.top.ok;rw [ca ho,so] at hok;rw [hres];have hol3:(f.pc:Int)<((yg p f.YS).length:Int):=qA;have hneb:¬ f.pc=(yg p f.YS).length:=qA;have hneb2:((f.pc:Int)==((yg p f.YS).length:Int))=false:=yY;have hwp:IntKind.i64.wrap ((f.pc:Int)+1)=(f.pc:Int)+1:=Yi qA qA;by_cases c0:o.1=0
  .obtain⟨L,j,hL,hat,hlt,hF,hf,hn,hsk⟩:=hO.Z2 hm;obtain⟨_,hatE⟩:=gS hat;have hT:=hO.top;simp only [vg,hm,wk,bS] at hT;have hftk:=DP (p:=p) (n:=.c Xn 0 6) hat ho c0
   have htl:uC ((yg p f.YS).take f.pc)<=60:=by
    have h1:=Gk (l:=(yg p f.YS).take f.pc);simp at h1;omega
   have hord:uq p m fs f.next o=bI p m fs f.next:=by simp [uq,c0]
   rw [hord];obtain⟨c,a⟩:=o;simp only at c0;subst c0;have hlf:u5 p f+1=((uC ((yg p f.YS).take f.pc):Nat):Int):=by simp [u5]
   have hlw:IntKind.i64.wrap (u5 p f+1)=u5 p f+1:=Yi qA qA;by_cases hl:m.left=0
   .have ht:bI p m fs f.next=m.stop fs f.next 1:=by simp only [bI,hl,if_true]
    rw [ht];have hlk:=hO.fr;rw [hm] at hlk;refine yU ?_<|qQ hT hF hat hatE hlt hw1 hl1 hl0 hcd hcdl hcdE hco<|ko ho hoE hol2 hol3 hneb hneb2 hwp<|hl;refine qE [] .nil qF (.inr ⟨qB,Yu.fin (Yu.mk ⟨_,_,_,by simp [hl];exact⟨rfl,rfl,rfl⟩⟩ (by simp [hO.cells]) (by simp [hO.Yd]) ma rR (by exact qAU.tick (fs:=fs) (g:=f.next) (x:=(f.pc:Int)+1) hlk hL rfl (by simp [hF,b9]))) (λ_=>qZ rfl) (λ_ h=>h)⟩)
   .obtain⟨l,hll⟩:∃ l,m.left=l+1:=⟨m.left - 1,qA⟩
    have ht:bI p m fs f.next={ m.top fs f.next with left:=l,trace:=m.trace++[(f.YS,uC ((yg p f.YS).take f.pc))] }:=by
     simp only [bI,hl,if_false,hll]
     rfl
    rw [ht];have hTr:=hO.Zb;have htr2:=hM.tr;have htl':m.trace.length<=1000:=qA;have hlb:((l:Int)+1==0)=false:=yY;have hwl:IntKind.i64.wrap (l:Int)=l:=Yi qA qA;have hap:vv m.trace++[[iv f.YS,iv (u5 p f+1)]]=vv (m.trace++[(f.YS,uC ((yg p f.YS).take f.pc))]):=by rw [hlf];exact ly
    have hR2:(qY (qt p (.c Xn 0 6) L) fs.length 1 [iv ((f.pc:Int)+1)])[fs.length]?=some [iv f.YS,iv ((f.pc:Int)+1),iv (u5 p f),.hs (.c (.c Xn 0 6) fs.length 3) 3 0 f.YV.length,ZD (zu f.cells),.hs (.c (.c Xn 0 6) fs.length 5) 3 0 8,.hs (.c (.c Xn 0 6) fs.length 6) 2 0 f.stack.length]:=by simp [qY,hat,zy]
    have hR3:(qY (qY (qt p (.c Xn 0 6) L) fs.length 1 [iv ((f.pc:Int)+1)]) fs.length 2 [iv (u5 p f+1)])[fs.length]?=some [iv f.YS,iv ((f.pc:Int)+1),iv (u5 p f+1),.hs (.c (.c Xn 0 6) fs.length 3) 3 0 f.YV.length,ZD (zu f.cells),.hs (.c (.c Xn 0 6) fs.length 5) 3 0 8,.hs (.c (.c Xn 0 6) fs.length 6) 2 0 f.stack.length]:=by simp [qY,hat,zy]
    obtain⟨_,hR2E⟩:=gS hR2;obtain⟨_,hR3E⟩:=gS hR3;refine yU ?_<|qQ hT hF hat hatE hlt hR2 hR3 hR2E hR3E hw1 hl1 hl0<|qQ hcd hcdl hcdE hco ho hoE hol2 hol3 hneb hneb2 hwp hll<|yl hlb hwl hTr htl'<|hlw;refine jS [] .nil qF (.inl (YW.qBR (have h:=hO;YW.reT h hm hL rfl (by simp [b9,hftk]) (by simp [hf,YZ.next]) (by simp [hn,YZ.next]) ⟨j,by simp [hsk,YZ.next]⟩ (h0:=by simp [vg]) (h7:=rX))))
  .refine Np (.c Xn 0 6) (.u 2 0 0) (.inl rfl) (.inr sC) ?_;refine uk (λs=>s.tm 0=.pt Xn 0/\YW s.hp p (.u 2 0 0) m dp) ⟨qB,hO.mvF (.inl ⟨rfl,rfl⟩)⟩ ?_;rintro s ⟨t0,hO⟩;obtain⟨L,j,hL,hat,hlt,hF,hf,hn,hsk⟩:=hO.Z2 hm;obtain⟨_,hatE⟩:=gS hat;have hT:=hO.top;simp only [vg,hm,wk,bS] at hT;have hfn:=DR (p:=p) (n:=.u 2 0 0) hat ho c0;have hsO:=λh13=>qBl.of hM hOr h13;have hnam:=hOr.name;obtain⟨c,a⟩:=o;obtain⟨x,rfl⟩:∃ x:Nat,a=x:=⟨a.toNat,cj⟩;simp only at hcode c0 hsO hnam;refine yU ?_<|qQ t0 hT hF hat hatE hlt hw1 hl1 hl0 hcd hcdl hcdE<|ko hco ho hoE hol2 hol3 hneb hneb2<|hwp;refine uk (λs=>s.tm 0=.pt Xn 0/\s.tm 2=.ep (.u 2 0 0) 7 fs.length 0/\s.tm 3=.pt (.s 3) 0/\s.hp (.s 3)=some (.row 2 [[iv c,iv x]])/\s.tm 64=bv (c==0)/\YW s.hp p (.u 2 0 0) (m.top fs f.next) dp) ⟨vr,qB,qB,qB,qB,(have h:=hO;YW.reT h hm hL rfl (by simp [b9,hfn]) (by simp [hf,YZ.next]) (by simp [hn,YZ.next]) ⟨j,by simp [hsk,YZ.next]⟩ (h0:=ar))⟩ ?_;clear t0 hT hF hf hn hsk hlt hat hatE hL hO hfn;rintro s ⟨t0,t2,t3,p3,t64,hO⟩;have hT:=hO.top;obtain⟨L,j,hL,hat,hlt,hF,hf,hn,hsk⟩:=hO.Z2 rfl;simp only [vg,Y2.top] at hT;have cb0:(c==0)=false:=by simpa using c0
   have mv1:(Nm.u 2 0 0).ZN=false\/(bz prog C w g H 135 gl).ext (.u 2 0 0)=false:=.inr sC;have hnsl:f.next.stack.length<=1000:=by simp only [YZ.next];omega
   simp only [zb] at hok;by_cases c13:2<=c/\c<=13
   .have hord:uq p m fs f.next (c,(x:Int))=if (c - 2) % 3=0 then vw p m fs f.next (c,(x:Int)) else if (c - 2) % 3=1 then oT m fs f.next (c,(x:Int)) else EF p m fs f.next (c,(x:Int)):=by
     simp only [uq];rw [if_neg c0,if_pos c13]
    have hst1:(c - 2) % 3=1->1<=f.next.stack.length:=by
     intro h1;have hc:c=3\/c=6\/c=9\/c=12:=qA;rcases hc with rfl|rfl|rfl|rfl <;> simp at hok <;> exact hok.1
    rw [hord];obtain⟨c13a,c13b⟩:=c13;have fx:=ko t0 t2 t3 p3 t64 cb0 c13a<|c13b;have c1:=jR gl c 2 13;refine yU ?_<|fx;clear fx c1;intro K hK;have fx:=aI t0 (aI t2 (aI t3 p3));refine pA (.u 2 0 0) (.c Xn 0 6) mv1 (.inl rfl) ?_;refine vS zB cE (hF:=EV _ _ p m fs f.next (c,(x:Int)) dp hp ⟨c13a,c13b⟩ ⟨(hsO ⟨c13a,c13b⟩).arg,(hsO ⟨c13a,c13b⟩).lt,(hsO ⟨c13a,c13b⟩).cell⟩ (λh=>hnam h c13b) hg8 hn8 hst1 hnsl (have h:=hO;YW.re h) qB) (h:=?_);rintro y H1 ⟨fr,hfr,hO1⟩;clear fx;refine .inr ?_;have hT1:=hO1.top;simp only [vg] at hT1;refine yU ?_<|jD t0 hT<|hT1;refine jS [] .nil qF (Nw.done (YW.qBR ((YW.mvF (have h:=hO1;YW.re h) (.inr ⟨rfl,rfl⟩)))) hfr)
   have c13b:(decide (2<=c)&&decide (c<=13))=false:=by
    rw [Bool.and_eq_false_iff,decide_eq_false_iff_not,decide_eq_false_iff_not];omega
   have hir:=jR gl c 2 13;rw [c13b] at hir
   have hord:uq p m fs f.next (c,(x:Int))=yd p m fs f.next (c,(x:Int)):=by
    simp only [uq];rw [if_neg c0,if_neg c13]
   rw [hord];by_cases c17:c=17
   .subst c17;have hord:yd p m fs f.next (17,(x:Int))=fj p m fs f.next (17,(x:Int)):=wV;rw [hord];simp at hok;have hx1:=hOr.call rfl;simp only at hx1;have fx:=kH t0 t2 t3 p3 t64<|cb0;have c1:=hir;refine yU ?_<|fx;clear fx c1;intro K hK;have fx:=aI t0 (aI t2 (aI t3 p3));refine pA (.u 2 0 0) (.c Xn 0 6) mv1 (.inl rfl) ?_;refine vS zB cE (hF:=EW _ _ p m fs f.next x dp f.pc hP hM qA hok.1 hnsl hfl (have h:=hO;YW.re h)) (h:=?_);rintro y H1 ⟨q,hq,hO1⟩;clear fx;have hT1:=hO1.top;simp only [vg] at hT1;rcases hq with rfl|rfl
    .refine .inr ?_;refine yU ?_<|jD t0 hT<|hT1;refine jS [] .nil qF (.inl (YW.qBR ((YW.mvF (have h:=hO1;YW.re h) (.inr ⟨rfl,rfl⟩)))))
    .refine .inl ?_;refine yU ?_<|jD t0 hT<|hT1;refine jS [] .nil qF (.inl (YW.qBR (have h:=hO1;YW.re h)))
   by_cases c20:c=20
   .subst c20;have hord:yd p m fs f.next (20,(x:Int))=zd m fs f.next.Yw:=wV;rw [hord];simp at hok;obtain⟨k1,hk1⟩:∃ k1,f.next.stack.length=k1+1:=⟨f.next.stack.length - 1,by have:f.next.stack.length=f.stack.length:=rfl;omega⟩;have fx:=kH t0 t2 t3 p3 t64<|cb0;have c1:=hir;refine yU ?_<|fx;clear fx c1;intro K hK;refine uD (λs=>s.tm 131=.pt Xn 0/\s.tm 132=.ep (.u 2 0 0) 7 fs.length 0/\YW s.hp p (.u 2 0 0) (m.top fs f.next) dp) ⟨qB,qB,(have h:=hO;YW.re h)⟩ ?_;clear t0 t2 t3 p3 t64 hT hF hf hn hsk hlt hat hL hO;rintro s ⟨t131,t132,hO⟩;have hT:=hO.top;obtain⟨js0,hF⟩:=hO.fr.top;simp only [vg] at hT;obtain⟨rows,a0,a1,a2,a3,a4,a5,vs,e1,e2,e3,e4,e5⟩:=hO.take hk1;have fx:=aI t131 (aI t132 hT);refine vS zB cE (hF:=gh gl ZK (λ_=>zi) _ rows fs.length k1 a0 a1 a2 a3 a4 a5 vs f.next.Yw e2 e3 e4 e5 qA) (h:=?_);intro y H1 hw;clear fx;have hO1:=hO.taken e1 hk1 hw;obtain⟨rfl,-⟩:=hw;have hT1:=hO1.top;obtain⟨js1,hF1⟩:=hO1.fr.top;simp only [vg] at hT1
    have hlv:∀ v,zd (m.top fs f.next.pop) fs v=zd m fs v:=λv=>by
     unfold zd
     split <;> rfl
    refine yU ?_<|jD t131 hT<|hT1;have fx:=aI t131 (aI hT hT1);refine yu (.u 2 0 0) (.c Xn 0 6) mv1 (.inl rfl) ?_;refine vS iE (by simp [hF1]) (hF:=AQ _ _ p (m.top fs f.next.pop) fs f.next.pop f.next.Yw dp rfl hfl hgsl (have h:=hO1;YW.re h)) (h:=?_);rintro y H2 hO2;clear fx;rw [hlv] at hO2;have hT2:=hO2.top;simp only [vg] at hT2;refine yU ?_<|j4 t131 hT hT1<|hT2;refine jS [] .nil qF (.inl (YW.qBR ((YW.mvF (have h:=hO2;YW.re h) (.inr ⟨rfl,rfl⟩)))))
   have hcs:c=1\/c=14\/c=15\/c=16\/c=18\/c=19:=qA;have cb17:(c==17)=false:=by simpa using c17
   have cb20:(c==20)=false:=by simpa using c20
   have hval:∀ H:Nm->Option AO,YW H p (.u 2 0 0) (m.top fs f.next) dp->H (.u 9 0 0)=none->Yc prog gl 154 ZK [.pt Xn 0,.ep (.u 2 0 0) 7 fs.length 0,.agg [iv c,iv x]] H (λ_ _ H'=>∃ q,(q=.u 2 0 0\/q=.c Xn 0 6)/\Nw H' p q (yd p m fs f.next (c,(x:Int))) dp) Yz:=by
    intro H hO h9;have h14:c=14->2<=f.next.stack.length:=by rintro rfl;simp at hok;exact hok.1
    have h18:c=18\/c=19->1<=f.next.stack.length:=NJ;rcases hcs with h|h|h|h|h|h
    .exact cQ gl H p m fs f.next (c,(x:Int)) dp f.pc hP hM hOr (.inl h) h14 h18 hnsl hfl hO h9
    .exact cQ gl H p m fs f.next (c,(x:Int)) dp f.pc hP hM hOr (.inr (.inl h)) h14 h18 hnsl hfl hO h9
    .exact cQ gl H p m fs f.next (c,(x:Int)) dp f.pc hP hM hOr (.inr (.inr h)) h14 h18 hnsl hfl hO h9
    .exact xX gl H p m fs f.next (c,(x:Int)) dp f.pc hP hM hOr h h14 h18 hnsl hfl hO h9
    .exact ie gl H p m fs f.next (c,(x:Int)) dp f.pc hP hM hOr (.inl h) h14 h18 hnsl hfl hO h9
    .exact ie gl H p m fs f.next (c,(x:Int)) dp f.pc hP hM hOr (.inr h) h14 h18 hnsl hfl hO h9
   have fx:=ko t0 t2 t3 p3 t64 cb0 cb17<|cb20;have c1:=hir;refine pL ?_<|fx;clear fx c1;intro K hK;have fx:=aI t0 (aI t2 (aI t3 p3));refine pA (.u 2 0 0) (.c Xn 0 6) mv1 (.inl rfl) ?_;refine vS zB cE (hF:=hval _ (have h:=hO;YW.re h) qB) (h:=?_);rintro y H1 ⟨q,hq,fr,hfr,hO1⟩;clear fx;have hT1:=hO1.top;simp only [vg] at hT1;rcases hq with rfl|rfl
   .refine .inr ?_;refine pL ?_<|jD t0 hT<|hT1;refine jS [] .nil qF (Nw.done (YW.qBR ((YW.mvF (have h:=hO1;YW.re h) (.inr ⟨rfl,rfl⟩)))) hfr)
   .refine .inl ?_;refine pL ?_<|jD t0 hT<|hT1;refine jS [] .nil qF (Nw.done (YW.qBR (have h:=hO1;YW.re h)) hfr)
abbrev SC:Y8:=ai<|.l 7 [0]<|.l 8 [0]<|.l 9 []<|.l 10 []<|.done
theorem MM {k:Int} (h:0<=k/\k<=11):k=0\/k=1\/k=2\/k=3\/k=4\/k=5\/k=6\/k=7\/k=8\/k=9\/k=10\/k=11:=qA
abbrev Ej (p:YU) (b:Nat) (s:Y5) (i:Nat):List (Int×Int):=(0,0)::(s.reads.take i).map λx=>qm p b x 0
theorem C6 {p:YU} {b:Nat} {s:Y5} {i:Nat} {u:Int} (h:s.reads[i]?=some u):Ej p b s (i+1)=Ej p b s i++[qm p b u 0]:=by
 simp [Ej,dN,h]
theorem CA {p:YU} {b:Nat} {s:Y5}:dQ p b s=Ej p b s s.reads.length++(jH s++b7 p b s):=by simp [dQ,Ej,kK]
theorem oX (gl) (p:YU) (b:Nat) (k:Y4) (s:Y5) (hk:p[b]?=some k) (hP:Zk p) (hkd:0<=s.kind/\s.kind<=11):qX prog gl 187 [Zc p,iv b,s.av] (λr y H'=>y=.hs r 2 0 (dQ p b s).length/\H' r=some (.row 2 (uh (dQ p b s)))):=by
 have hrl:=s.ZT;rw [CA];refine qX.Yb func187 [.tmp 6] ntmps187 λC w g root=>?_;have fx:=Ya;have d1:=lm gl s;refine qI ?_
 repeat ((first|refine Y7 (id:=6) SC mixed ?_);refine qW ?_;refine qI ?_)
 clear fx d1;refine qR (λn st=>∃ i:Nat,n=s.reads.length - i/\i<=s.reads.length/\st.tm 1=iv b/\st.tm 3=.pt (.s 3) 0/\st.hp (.s 3)=some (.row 1 [[ZY p]])/\st.tm 5=.pt (.s 5) 0/\st.hp (.s 5)=some (.row 4 [s.cells])/\st.tm 8=.hs (.s 8) 1 0 s.reads.length/\st.hp (.s 8)=some (.row 1 (qS s.reads))/\st.tm 9=iv i/\st.tm 7=.hs (.s 7) 2 0 (Ej p b s i).length/\st.hp (.s 7)=some (.row 2 (uh (Ej p b s i)))) s.reads.length ?_ ?_
 .exact⟨0,qA,qA,qB,qB,qB,qB,qB,qB,qB,qB,qB,gH⟩
 rintro n st - - ⟨i,rfl,hi,h1,h3,hp3,h5,hp5,h8,hp8,h9,h7,hp7⟩;have hll:(Ej p b s i).length<=10:=qv;by_cases hil:i<s.reads.length
 .obtain⟨u,hu⟩:=gX hil;obtain⟨_,huE⟩:=gS hu;have hnx:=C6 (p:=p) (b:=b) hu;generalize hL:Ej p b s i=L at h7 hp7 hnx hll;have fx:=qQ h1 h3 hp3 h5 hp5 h8 hp8 h9 h7 hp7 hu huE<|aI hil<|hll;have c1:=pE gl p b k u 0 hk hP qL qL;refine qI ?_
  repeat ((first|refine Y7 (id:=6) SC mixed ?_);refine qW ?_;refine qI ?_)
  clear fx c1;refine⟨s.reads.length - (i+1),qA,i+1,rfl,qA,qz,zN,yJ,zA,uz,wW,cg,q8,by simp [hnx],?_⟩;rw [hnx];simp [bb]
 .have hge:i=s.reads.length:=qA;rw [hge] at h7 hp7 hll;generalize hL:Ej p b s s.reads.length=L at h7 hp7 hll;have hw5:s.kind=5->IntKind.i64.wrap ((s.reads.length:Int) - 1)=(s.reads.length:Int) - 1:=λ_=>Yi qA qA;obtain⟨kd,to,a,c⟩:=s;simp only at hkd hw5;rcases MM hkd with rfl|rfl|rfl|rfl|rfl|rfl|rfl|rfl|rfl|rfl|rfl|rfl
  all_goals
   have fx:=qQ h1 h3 hp3 h5 hp5 h8 hp8 h9 h7 hp7 hil hge<|aI hll<|hw5;have c1:=pE gl p b k to 1 hk hP qL qL;have c2:=pE gl p b k to 2 hk hP qL qL;refine qI ?_
   repeat ((first|refine Y7 (id:=6) SC mixed ?_);refine qW ?_;refine qI ?_)
   clear fx c1 c2;refine zq (t:=6) ?_ ?_ ?_
   all_goals simp [jH,b7,bb,BT,bC,h7,hp7]
abbrev SB:Y8:=vH<|.q 13<|.q 14<|.q 16<|.q 17<|.q 19<|.q 20<|.l2 12 [20,19,17,16,14,13,6,5,4,3,2,1,0] (.l2 15 [20,19,17,16,6,5,4,3,2,1,0] (.l2 18 [20,19,6,5,4,3,2,1,0] (.l2 21 [6,5,4,3,2,1,0] (.q 22<|.l 23 [22,6,5,4,3,2,1,0]<|.l 24 []<|.done) 23 [20,19,6,5,4,3,2,1,0] (.l 21 [6,5,4,3,2,1,0]<|.q 22<|.l 24 []<|.done)) 23 [20,19,17,16,6,5,4,3,2,1,0] (.l 18 [20,19,6,5,4,3,2,1,0]<|.l 21 [6,5,4,3,2,1,0]<|.q 22<|.l 24 []<|.done)) 23 [20,19,17,16,14,13,6,5,4,3,2,1,0] (.l 15 [20,19,17,16,6,5,4,3,2,1,0]<|.l 18 [20,19,6,5,4,3,2,1,0]<|.l 21 [6,5,4,3,2,1,0]<|.q 22<|.l 24 []<|.done)) 23 [20,19,17,16,14,13,11,10,9,8,7,6,5,4,3,2,1,0] (.l 12 [20,19,17,16,14,13,6,5,4,3,2,1,0]<|.l 15 [20,19,17,16,6,5,4,3,2,1,0]<|.l 18 [20,19,6,5,4,3,2,1,0]<|.l 21 [6,5,4,3,2,1,0]<|.q 22<|.l 24 []<|.done)
abbrev SA:Y8:=oa<|.l 13 [7,6,5,4,1,0]<|.l 14 [7,6,5,4]<|.q 15<|.l 16 []<|.done
theorem nH (gl) (p:YU) (b:Nat) (k:Y4) (hk:p[b]?=some k) (hP:Zk p):qX prog gl 148 [Zc p,iv b] (λr y H'=>y=.agg ((qd p b).own r 0)/\qA7 H' r 0 (qd p b)):=by
 have hs:=hP.sml;have hh:=hP.Y9;have hl7:=hP.len;have hkm:=gM hk;obtain⟨Ym,hbE⟩:=gS hk;have hk12:=hP.sh.body k hkm;have hkinds:=(hP.sh.names k hkm).kinds;obtain⟨hpl,_⟩:=hs.bsm hk;have hcode:qd p b=⟨k.kind,k.params,qG p b,qC p b,qN p b,vb p b k.body⟩:=by simp [qd,yg,hk]
 rw [hcode];refine qX.Yb func148 [.cell 4 111] ntmps148 λC w g root=>?_;have fx:=jD hk hbE<|Ym;have d1:=gy gl k.params qA;have d2:=A9 gl p b k hk hP;have d3:=v7 gl p b k hk hs hh hl7;have d4:=nu gl p b Ym hs hh hl7;refine qI ?_
 first|refine Y7 (id:=1) SB mixed ?_|refine Y7 (id:=5) SA mixed ?_
 refine Qe (λst=>st.tm 1=iv b/\st.tm 2=.pt (.s 2) 0/\st.hp (.s 2)=some (.row 1 [[ZY p]])/\st.tm 6=iv 0/\st.tm 5=.pt (.s 5) 0/\st.tm 4=.pt (.s 4) 0/\st.hp (.s 4)=some (.row 6 [dt.own (.s 4) 0])/\st.hp (.s 5)=some (.row 6 [Cod.own (.s 5) 0 ⟨k.kind,k.params,qG p b,qC p b,qN p b,[]⟩])/\st.hp (.c (.s 5) 0 1)=some (.row 1 (qS k.params))/\st.hp (.c (.s 5) 0 2)=some (.row 1 (qS (qG p b)))/\st.hp (.c (.s 5) 0 3)=some (.row 1 (qS (qC p b)))/\st.hp (.c (.s 5) 0 4)=some (.row 1 (qS (qN p b)))/\st.hp (.c (.s 5) 0 5)=some (.row 2 [])) ?_;clear fx d1 d2 d3 d4;rintro st ⟨h1,h2,hp2,h6,h5,h4,hp4,hp5,q1,q2,q3,q4,q5⟩;refine qR (λn st=>∃ i:Nat,n=k.body.length - i/\i<=k.body.length/\st.tm 1=iv b/\st.tm 2=.pt (.s 2) 0/\st.hp (.s 2)=some (.row 1 [[ZY p]])/\st.tm 6=iv i/\st.tm 5=.pt (.s 5) 0/\st.tm 4=.pt (.s 4) 0/\st.hp (.s 4)=some (.row 6 [dt.own (.s 4) 0])/\∃ c:Cod,c=⟨k.kind,k.params,qG p b,qC p b,qN p b,vb p b (k.body.take i)⟩/\st.hp (.s 5)=some (.row 6 [c.own (.s 5) 0])/\qA7 st.hp (.s 5) 0 c) k.body.length ?_ ?_
 .refine⟨0,qA,qA,h1,h2,hp2,h6,h5,h4,hp4,_,rfl,?_,⟨?_,?_,?_,?_,?_⟩⟩
  all_goals simp [vb,hp5,q1,q2,q3,q4,q5]
 clear h1 h2 hp2 h6 h5 h4 hp4 hp5 q1 q2 q3 q4 q5;rintro n st - - ⟨i,rfl,hi,h1,h2,hp2,h6,h5,h4,hp4,c,hc,hp5,⟨o1,o2,o3,o4,o5⟩⟩;have hll:=sF (p:=p) (b:=b) (k.body.take i);rw [List.length_take] at hll;by_cases hil:i<k.body.length
 .obtain⟨s,hss⟩:=gX hil;obtain⟨_,hsE⟩:=gS hss;have hnx:=xG (p:=p) (b:=b) hss;have hsl:=oU (p:=p) (b:=b) (s:=s);generalize hL:vb p b (k.body.take i)=L at hc hnx hll;subst hc;simp only [Cod.qA6] at hp5 o1 o2 o3 o4 o5;have fx:=qQ h1 h2 hp2 h6 h5 hp5 o1 o2 o3 o4 o5 hk<|kG hbE Ym hss hsE hil hll<|hsl;have d1:=oX gl p b k s hk hP (hkinds s (gM hss));refine qI ?_
  repeat ((first|refine Y7 (id:=1) SB mixed ?_|refine Y7 (id:=5) SA mixed ?_);refine qW ?_;refine qI ?_)
  clear fx d1;refine⟨k.body.length - (i+1),qA,i+1,rfl,qA,qz,qj,qn,q8,zA,jW,wU,_,rfl,?_,⟨?_,?_,?_,?_,?_⟩⟩
  all_goals simp [hnx,o1,o2,o3,o4,o5,hp5]
 .have hge:i=k.body.length:=qA;subst hge;rw [kM] at hc;subst hc;simp only [Cod.qA6] at hp5 o1 o2 o3 o4 o5;have fx:=qQ h1 h2 hp2 h6 h5 h4 hp4 hp5 o1 o2 o3 o4<|yl o5 hk hbE Ym<|hil;refine qI ?_
  repeat ((first|refine Y7 (id:=1) SB mixed ?_|refine Y7 (id:=5) SA mixed ?_);refine qW ?_;refine qI ?_)
  clear fx;refine qE [(.s 5,root)] (.one rfl) BI ⟨?_,⟨?_,?_,?_,?_,?_⟩⟩
  all_goals simp [h4,o1,o2,o3,o4,o5]
theorem xY (gl) (p:YU) (hP:Zk p):qX prog gl 96 [Zc p] (λr y H'=>y=.hs r 6 0 (qg p p.length).length/\qCB H' r (qg p p.length)):=by
 have hl7:=hP.len;refine qX.Yb func96 [.tmp 2] ntmps96 λC w g root=>?_;refine qD ?_<|Ya;refine qR (λn st=>∃ i:Nat,n=p.length - i/\i<=p.length/\st.tm 1=.pt (.s 1) 0/\st.hp (.s 1)=some (.row 1 [[ZY p]])/\st.tm 4=iv i/\∃ cs:List Cod,cs=qg p i/\cs.length=i/\st.tm 3=.hs (.s 3) 6 0 cs.length/\qCB st.hp (.s 3) cs) p.length ?_ ?_
 .refine⟨0,qA,qA,qB,qB,qB,[],qB,rfl,qB,⟨qB,λi c h=>gA⟩⟩
 rintro n st - - ⟨i,rfl,hi,h1,hp1,h4,cs,hcs,hcl,h3,⟨ht,he⟩⟩;by_cases hil:i<p.length
 .obtain⟨k,hk⟩:=gX hil;have hnx:=nG (p:=p) (n:=i);have hcc:=nH gl p i k hk hP;rw [<- hcs] at hnx;generalize hC:qd p i=c at hcc hnx;have hcl7:cs.length<=7:=qA;have fx:=j4 h1 hp1 h4<|hil;have e1:=hcc;refine qI ?_;clear fx e1;rintro K hK y H' ⟨rfl,hO⟩;obtain⟨o1,o2,o3,o4,o5⟩:=hO.Yv;refine⟨qB,?_⟩;refine qD ?_<|jP h1 hp1 h4 h3 ht hcl7 o1 o2 o3 o4<|o5;refine⟨p.length - (i+1),qA,i+1,rfl,qA,qz,jp,GD,cs++[c],hnx.symm,by simp [hcl],qB,⟨?_,λj d hj=>?_⟩⟩
  .simp [ht,tj]
  .rcases dS j cs.length with hlj|hgj
   .rw [dX hlj] at hj;have hne:¬ j=cs.length:=qA;obtain⟨e1,e2,e3,e4,e5⟩:=he j d hj;exact⟨rO,r9,by simp [hne,e3],by simp [hne,e4],by simp [hne,e5]⟩
   .rw [kh hgj] at hj
    obtain rfl:j=cs.length:=by
     have:=(gS hj).1;simp at this;omega
    simp at hj;subst hj;exact⟨mY,mH,by simp [o3],by simp [o4],by simp [o5]⟩
 .have hge:i=p.length:=qA;subst hge;subst hcs;refine qD ?_<|kH h1 hp1 h4 hil h3<|ht;refine qE [(.s 2,root)] (.one rfl) qF ⟨qB,⟨by simp [ht,bn (n:=.s 2) (m:=root) (f:=jY Z5 [(.s 2,root)]) qB],λj d hj=>?_⟩⟩;obtain⟨e1,e2,e3,e4,e5⟩:=he j d hj;exact⟨by simp [e1],by simp [e2],by simp [e3],by simp [e4],by simp [e5]⟩
abbrev Ro:Y8:=vH<|.l 12 [2,0]<|.l 13 [2,0]<|.l 14 [2]<|.l 15 []<|.done
theorem Dg (gl) (p:YU) (b:Nat) (k:Y4) (hk:p[b]?=some k) (hP:Y1 p) (hL:Zk p):qX prog gl 98 [Zc p,iv b] (λr y H'=>y=.hs r 1 0 (z8 p b).length/\H' r=some (.row 1 (qS (z8 p b)))):=by
 have Ym:=(gS hk).1;obtain⟨_,hkE⟩:=gS hk;have hlen:=hP.len;have hf8:=j7 (p:=p) (b:=b);have hcl:=cB (p:=p) (b:=b);have hfr:=nu gl p b Ym hP.sml hP.Y9 qA;refine qX.Yb func98 [.tmp 4] ntmps98 λC w g root=>?_;have fx:=Ya;have d1:=hfr;refine qI ?_
 repeat ((first|refine Y7 (id:=6) Ro mixed ?_);refine qW ?_;refine qI ?_)
 clear fx d1;refine qR (λn st=>∃ i:Nat,n=(qN p b).length - i/\i<=(qN p b).length/\st.tm 1=iv b/\st.tm 2=.pt (.s 2) 0/\st.hp (.s 2)=some (.row 1 [[ZY p]])/\st.tm 5=.hs (.s 5) 1 0 i/\st.hp (.s 5)=some (.row 1 (qS ((z8 p b).take i)))/\st.tm 6=.hs (.s 6) 1 0 (qN p b).length/\st.hp (.s 6)=some (.row 1 (qS (qN p b)))/\st.tm 7=iv i) (qN p b).length ?_ ?_
 .exact⟨0,qA,qA,qB,qB,qB,qB,qB,qB,qB,qB⟩
 rintro n st - - ⟨i,rfl,hi,t1,t2,p2,t5,p5,t6,p6,t7⟩;by_cases hil:i<(qN p b).length
 .obtain⟨x,hx⟩:=gX hil;obtain⟨_,hxE⟩:=gS hx;have hb0:=fN (gM hx);obtain⟨h1,h2,h3⟩:=hP.Y9 b k hk;have h4:=h3 hb0;obtain⟨c,hc⟩:∃ c:Nat,k.parent=c:=⟨k.parent.toNat,qA⟩;obtain⟨kc,hkc⟩:∃ kc,p[c]?=some kc:=⟨_,gE qA⟩;have hpa:w8 p b=c:=by simp [w8,hk,hc]
  have hcp:=eH gl p c kc x hkc hL;have htl:((z8 p b).take i).length=i:=by simp [z8];omega
  have hi8:i<=8:=qA;have fx:=qQ t1 t2 p2 t5 p5 t6 p6 t7 hil hk hkE Ym<|yl hc hx hxE htl<|hi8;have c1:=hcp;refine qI ?_
  repeat ((first|refine Y7 (id:=6) Ro mixed ?_);refine qW ?_;refine qI ?_)
  clear fx c1
  have e1:(z8 p b).take (i+1)=(z8 p b).take i++[vM p c x]:=by
   rw [dN];simp [z8,hx,hpa]
  have e2:qS ((z8 p b).take i)++[[iv (vM p c x)]]=qS ((z8 p b).take (i+1)):=by rw [e1];simp [qS]
  refine⟨(qN p b).length - (i+1),qA,i+1,rfl,qA,ap,uQ,mM,qB,?_,aT,by simp [p6],by simp [t7];exact Yi qA qA⟩;simp [<- e2];rw [bC qv]
 .obtain rfl:i=(qN p b).length:=qA;have hcl2:(z8 p b).length=(qN p b).length:=by simp [z8]
  have htk:(z8 p b).take (qN p b).length=z8 p b:=bC qA;rw [htk] at p5;have fx:=ko t1 t2 p2 t5 p5 t6 p6<|t7;refine qI ?_
  repeat ((first|refine Y7 (id:=6) Ro mixed ?_);refine qW ?_;refine qI ?_)
  clear fx;exact zq (t:=4) ND ND qB
theorem FP (gl) (p:YU) (b:Nat) (k:Y4) (hk:p[b]?=some k) (hP:Y1 p) (hL:Zk p):qX prog gl 98 [Zc p,iv b] (λ_ y _=>y=ZD (z8 p b)) :=
 (Dg gl p b k hk hP hL).settle λr y H' hr=>⟨ZD (z8 p b),by rw [hr.1];exact ya hr.2 rfl,rfl⟩
theorem Ps (gl) (p:YU) (hL:Zk p):qX prog gl 96 [Zc p] (λ_ y _=>y=csl (qg p p.length)) :=
 (xY gl p hL).settle λr y H' hr=>⟨csl (qg p p.length),by rw [hr.1];exact kB hr.2 rfl,rfl⟩
abbrev Rn:Y8:=ai<|.l 7 [4,3,2,1,0]<|.l 8 [4,3,2,1,0]<|.l 9 [0]<|.q 10<|.q 11<|.l 12 []<|.done
abbrev Rm:Y8:=gV<|.l 10 [5,0]<|.q 11<|.q 12<|.l 13 []<|.done
theorem Ni:∀ {k:Nm},Nm.under (.u 1 0 0) k=true->Nm.under (.u 2 0 0) k=false
 | .s d,h=>by simp [Nm.under]
 | .u a b c,h=>by simp [Nm.under] at h ⊢;omega
 | .c q i j,h=>by
  simp [Nm.under] at h ⊢;exact Ni h
theorem aH {A G G2:Prop} (k:G2) (x:A) (h:A->Yr G2->G:=by
 intro fx kk;refine qI ?_
 repeat ((first|refine Y7 (id:=6) Rn mixed ?_|refine Y7 (id:=9) Rm mixed ?_);refine qW ?_;refine qI ?_)
 exact kk.h):G:=h x ⟨k⟩
theorem UH (gl) (H:Nm->Option AO) (p:YU) (n:Nat) (hP:Yl p) (hL:Zk p) (hn:n<=150) (h1:H (.u 1 0 0)=none) (h2:H (.u 2 0 0)=none) :
  Yc prog gl 45 (Nm.under Xn) [Zc p,iv n] H (λ_ y H'=>y=.pt Xn 0/\Yu H' p (aY p n) (aY p n).deep) Yz:=by
 have hlen:=hP.sh.len;refine Yc.Yb func45 [.tmp 4] ntmps45 (λ_=>qZ rfl) λC w g root hroot=>?_;have fx:=Ya;have p1:=Ps gl p hL;have d1:=lQ gl;refine mz ?_
 repeat ((first|refine Y7 (id:=6) Rn mixed ?_|refine Y7 (id:=9) Rm mixed ?_);refine AY ?_;refine mz ?_)
 clear fx p1 d1;have hl1:1<=p.length:=qA;refine Np (.s 5) (.u 1 0 0) (.inl rfl) (.inr (by simp [bz,h1])) (Np (.s 33) (.c (.c Xn 0 1) 0 0) (.inl rfl) (.inl rfl) ?_);refine qR (λk s=>∃ b:Nat,k=p.length - b/\1<=b/\b<=p.length/\s.tm 2=.pt (.s 2) 0/\s.hp (.s 2)=some (.row 1 [[ZY p]])/\s.tm 5=.pt Xn 0/\s.tm 6=iv b/\qCa s.hp p n b) (p.length - 1) ?_ ?_
 .refine⟨1,rfl,qA,hl1,qB,qB,qB,qB,⟨qB,qB,qB,qB,qB,qB,qB,qB,qB⟩⟩
 rintro k s - - ⟨b,rfl,hb1,Ym,t2,p2,t5,t6,hX⟩;have hT:=hX.top;by_cases hil:b<p.length
 .obtain⟨k,hk⟩:=gX hil;have hC:=hX.ZP;have hCl:=Mw (p:=p) hb1;have hCa:=Mx (p:=p) hb1;have hb7:b<=7:=qA;have fx:=er t2 p2 t5 t6 hT hC hCl hil<|hb7;have p1:=FP gl p b k hk hP.sh hL;refine mz ?_
  repeat ((first|refine Y7 (id:=6) Rn mixed ?_|refine Y7 (id:=9) Rm mixed ?_);refine AY ?_;refine mz ?_)
  clear fx p1;have htk:(nR p b).take b=nR p b:=bC qA;exact⟨p.length - (b+1),qA,b+1,rfl,qA,qA,uQ,mM,wG,q8,⟨qB,by simp [htk,hCa],by simp [hX.cells],by simp [hX.Yd],by simp [hX.YT],by simp [hX.Yt],by simp [hX.fr],by simp [hX.out],by simp [hX.Zb]⟩⟩
 obtain rfl:b=p.length:=qA;have hOw:=hX.own qA;refine aH ?_<|yl t2 p2 t5 t6<|hT;intro K hK;refine oz 44 (.s 44) 1 0 [] ?_ ?_ rfl qB ?_
 .simp
 .simp
 refine Ba (.c Xn 0 6) (.u 2 0 0) (.inl rfl) (.inr sC) ?_;refine uD (λs=>s.tm 42=.pt Xn 0/\s.tm 43=.pt Xn 0/\s.tm 44=ZD []/\s.tm 5=.pt Xn 0/\YW s.hp p (.u 2 0 0) (zR n) 0) ⟨qB,qB,qB,wG,YW.mvF (n:=.c Xn 0 6) (have h:=hOw;YW.re h) (.inl ⟨rfl,rfl⟩)⟩ ?_;clear t2 p2 t5 t6 hT hX hOw;rintro s ⟨t42,t43,t44,t5,hO⟩;have hT:=hO.top;obtain⟨js,hF⟩:=hO.fr.top;simp only [vg,zR] at hT hF;have hBg:No p (zR n) 0 [] 0 (List.replicate (qG p 0).length none) ([]++List.replicate (qC p 0).length none):=.inl ⟨rfl,rfl,rfl⟩;have hfin:=hBg.fin (cs:=[]) rfl;have hst:qb p n=ze p (zR n) 0 [] []:=rfl;rw [<- hst] at hfin;have fx:=aI t42 (aI t43 t44);refine yu (.c (.s 45) 0 3) (.s 30) (.inl rfl) (.inl rfl) ?_;refine yu (.c (.s 45) 0 5) (.s 31) (.inl rfl) (.inl rfl) ?_;refine yu (.c (.s 45) 0 6) (.s 32) (.inl rfl) (.inl rfl) ?_;refine vS zB cE (hF:=ge _ _ p (zR n) 0 [] 0 qA eK qB eK (have h:=hO;YW.re h)) (h:=?_);rintro y H1 ⟨rfl,h3,h5,h6,hO1⟩;clear fx;have hT1:=hO1.top;obtain⟨js1,hF1⟩:=hO1.fr.top;simp only [vg,zR] at hT1 hF1;obtain⟨hfin1,hfin2⟩:qb p n={ zR n with cells:=List.replicate (qC p 0).length none,made:=1,deep:=1,YO:=[⟨0,0,List.replicate (qG p 0).length none,(List.range (qC p 0).length).map ((zR n).cells.length+·),qc,[]⟩] }/\True:=⟨by rw [hfin];simp [zR],trivial⟩;refine aH ?_<|jP t42 t43 t44 t5 hT hF hT1 hF1 h3 h5<|h6
 have hr0:(zR n).cells.length=0:=rfl;obtain⟨N,n1,n2,n3,n4⟩:=LG hP hn;refine qR (λk s=>∃ i:Nat,k=N - i/\i<=N/\s.tm 5=.pt Xn 0/\(YW s.hp p (.c Xn 0 6) (yf p i (qb p n)) (ff p i (qb p n) 0)\/(i=N/\(yf p i (qb p n)).en≠0/\Yu s.hp p (yf p i (qb p n)) (ff p i (qb p n) 0)))) N ?_ ?_
 .refine⟨0,qA,qA,by simp [t5,hT],.inl ?_⟩;simp only [yf,ff];rw [hfin1];refine⟨?_,?_,?_,?_,?_,?_,?_,?_,⟨[],?_⟩,λi1 g hg=>?_,λi1 g hg=>?_,λi1 g hg=>?_⟩
  .simp [vg,zR]
  .simp [hO1.ZP]
  .have:=hO1.cells;simp [zR] at this;simp [this]
  .simp [hO1.Yd]
  .simp [hO1.YT]
  .simp [hO1.Yt]
  .simp [hO1.out]
  .simp [hO1.Zb]
  .simp [qt,zy,u5,uC]
  .have:i1=0/\g=⟨0,0,List.replicate (qG p 0).length none,(List.range (qC p 0).length).map ((zR n).cells.length+·),qc,[]⟩:=by
    have hl:=(gS hg).1;simp at hl;subst hl;simp at hg;exact⟨rfl,hg.symm⟩
   obtain⟨rfl,rfl⟩:=this;simp [h3]
  .have:i1=0/\g=⟨0,0,List.replicate (qG p 0).length none,(List.range (qC p 0).length).map ((zR n).cells.length+·),qc,[]⟩:=by
    have hl:=(gS hg).1;simp at hl;subst hl;simp at hg;exact⟨rfl,hg.symm⟩
   obtain⟨rfl,rfl⟩:=this;simp [h5]
  .have:i1=0/\g=⟨0,0,List.replicate (qG p 0).length none,(List.range (qC p 0).length).map ((zR n).cells.length+·),qc,[]⟩:=by
    have hl:=(gS hg).1;simp at hl;subst hl;simp at hg;exact⟨rfl,hg.symm⟩
   obtain⟨rfl,rfl⟩:=this;exact⟨[],by simp [h6,zf]⟩
 clear t42 t43 t44 t5 hT hF hT1 hF1 h3 h5 h6 hO hO1;rintro k s - - ⟨i,rfl,hi,t5,hI⟩;refine ON (Nm.under (.u 2 0 0)) ?_;refine uk (λs=>s.tm 5=.pt Xn 0/\s.hp (.u 2 0 0)=none/\(YW s.hp p (.c Xn 0 6) (yf p i (qb p n)) (ff p i (qb p n) 0)\/(i=N/\(yf p i (qb p n)).en≠0/\Yu s.hp p (yf p i (qb p n)) (ff p i (qb p n) 0)))) ⟨wG,qB,?_⟩ ?_
 .have hk:∀ k,Nm.under Xn k=true->Nm.under (.u 2 0 0) k=false:=λk h=>Ni h;rcases hI with h|⟨h1,h2,h3⟩
  .exact .inl (h.qCl (F:=some) (λ_ _=>rfl) λq hq=>by rw [DU,hk q hq];cases s.hp q <;> simp [AO.Yg])
  .exact .inr ⟨h1,h2,h3.qB3 λq hq=>by rw [DU,hk q hq];rfl⟩
 clear t5 hI s;rintro s ⟨t5,hU,hI⟩;by_cases hiN:i<N
 .have hne:=n1 i hiN;obtain⟨fs,f,hfr,hM⟩:=(CQ hP hn i).resolve_left hne
  have hen:(yf p i (qb p n)).en=0:=by
   by_cases h:(yf p i (qb p n)).en=0
   .exact h
   .exact absurd (.inr h) hne
  have hO:=hI.resolve_right λh=>qA;have hsn:=og i hne;have hnt:=tV (d:=0) i hne;rw [hfr] at hnt;simp only [wk,bS] at hnt;have hT:=hO.top;obtain⟨js,hF⟩:=hO.fr.top;simp only [vg,hfr,hen,wk,bS] at hT hF;have hl0:(0:Int)<(fs.length:Int)+1:=qA;refine aH ?_<|j4 t5 hT hF<|hl0;intro K hK;have fx:=aI t5 (aI hT hF);refine Tc (i:=(ff p i (qb p n) 0:Int)) (j:=(fs.length:Int)+1) (ff p (i+1) (qb p n) 0:Nat) (by rw [hnt];omega) (h:=?_);clear fx;refine aH ?_<|jD t5 hT<|hF;intro K hK;have fx:=aI t5 (aI hT hF);refine xN Xn rfl (by simp [bz,noH]) (hF:=IU gl _ p (yf p i (qb p n)) fs f (ff p (i+1) (qb p n) 0) hP hM hfr hen (have h:=hO;YW.re h (h0:=by simp [vg,hfr,hen])) zo) (h:=?_);rintro y H1 hO1;clear fx;rw [<- hsn] at hO1;refine aH ?_<| t5;refine⟨N - (i+1),qA,i+1,rfl,qA,wG,?_⟩;rcases hO1 with h|⟨h1,h2⟩
  .exact .inl (have h:=h;YW.re h)
  .have hN1:i+1=N:=by
    by_cases e:i+1<N
    .exact absurd (.inr h1) (n1 _ e)
    .omega
   exact .inr ⟨hN1,h1,h2.qB3 λq hq=>gD⟩
 .obtain rfl:i=N:=qA;rw [n3,n4] at hI;rw [n3] at n2
  have hE:Yu s.hp p (aY p n) (aY p n).deep:=by
   rcases hI with h|⟨-,-,h⟩
   .exact h.qCw
   .exact h
  obtain⟨b,c,d,hT⟩:=hE.top;obtain⟨k,hkl⟩:∃ k,(aY p n).YO.length=k:=⟨_,rfl⟩;rw [hkl] at hT;have hk:k=0\/(aY p n).en≠0:=n2.imp (λh=>by rw [<- hkl,h];rfl) id;by_cases hk0:k=0
  .subst hk0;refine aH ?_<|aI t5<|hT;refine qE [] .nil qF ⟨rfl,Yu.fin (hE.qB3 λq hq=>qB) (λ_=>qZ rfl) (λ_ h=>h)⟩
  .have he:=hk.resolve_left hk0;have hk1:0<k:=qA;have heb:((aY p n).en==0)=false:=by simpa using he
   refine aH ?_<|j4 t5 hT hk1<|heb;refine qE [] .nil qF ⟨rfl,Yu.fin (hE.qB3 λq hq=>qB) (λ_=>qZ rfl) (λ_ h=>h)⟩
end Go.Proofs.YtdnebaieamppbaaGreatDoor
end
