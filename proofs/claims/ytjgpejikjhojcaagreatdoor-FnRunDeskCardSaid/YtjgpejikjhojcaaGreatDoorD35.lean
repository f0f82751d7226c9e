import Derived.Test.YtjgpejikjhojcaaGreatDoorD34
import Derived.Test.YtjgpejikjhojcaaGreatDoorD25
import Derived.Test.YtjgpejikjhojcaaGreatDoorD19
set_option linter.all false
set_option maxRecDepth 100000
set_option maxHeartbeats 4000000
open Option renaming some->Z,none->Y
open Bool renaming true->B,false->M
open List renaming length->O

section
namespace Go.Proofs.YtjgpejikjhojcaaGreatDoor
open Go Go.Hm Go.Proofs Tryz
variable{A G G2:Prop}
abbrev ZL:qV:=wG<|.l 11 []<|.done
abbrev ZM:qV:=IL<|.done
abbrev ZP:qV:=IL<|.l 17 [16,15,14,13,12,11,10,9,8,7,6,5,4,3,2,1,0]<|.l 18 []<|.done
abbrev ZQ:qV:=gA<|.l 14 [9,5,4,3,2,1,0]<|.l 15 [9,5,0]<|.q 16<|.q 17<|.l 18 []<|.done
abbrev ZR:qV:=bB<|.l 8 [4,3,2,1,0]<|.l 9 [0]<|.q 10<|.q 11<|.l 12 []<|.done
abbrev ZS:qV:=ax<|.l 12 [7,5,4,3,2,1,0]<|.l 13 [7,5,0]<|.q 14<|.q 15<|.l 16 []<|.done
abbrev ZT:qV:=wG<|.l 11 [6,5,4,3,2,1,0]<|.q 12<|.l 13 [4,3,2,1,0]<|.l 14 [0]<|.q 15<|.q 16<|.l 17 []<|.done
abbrev ZU:qV:=ax<|.l 12 [7,6,5,4,3,2,1,0]<|.l 13 [7,6,5,0]<|.q 14<|.q 15<|.l 16 []<|.done
abbrev ZV:qV:=ax<|.l 12 [7,6,5,4,3,2,1,0]<|.l 13 [4,3,2,1,0]<|.l 14 [4,3,2,1,0]<|.l 15 [0]<|.q 16<|.q 17<|.l 18 []<|.done
abbrev ZW:qV:=gA<|.done
abbrev ZN:qV:=Br<|.l 18 [13,11,10,9,8,7,6,5,4,3,2,1,0]<|.l 19 [13,11,10,9,8,7,6,5,0]<|.q 20<|.q 21<|.l 22 []<|.done
abbrev ZO:qV:=bA<|.l 6 [4,3,2,1,0]<|.l 7 [4,3,2,1,0]<|.l 8 [4,3,2,1,0]<|.l 9 [0]<|.q 10<|.q 11<|.l 12 []<|.done
def ej(k:G2)(x:A)(h:A->jH G2->G:=by
 intro fx kk;refine qK ?_
 repeat((first|refine qP (id:=0) ZL mixed ?_|refine qP (id:=1) ZM mixed ?_|refine qP (id:=3) ZP mixed ?_|refine qP (id:=11) ZQ mixed ?_);refine zC ?_;refine qK ?_)
 exact kk.h):G:=h x ⟨k⟩
def Gl(k:G2)(x:A)(h:A->jH G2->G:=by
 intro fx kk;refine qK ?_
 repeat((first|refine qP (id:=3) ZR mixed ?_|refine qP (id:=9) ZS mixed ?_|refine qP (id:=11) ZT mixed ?_|refine qP (id:=12) ZU mixed ?_|refine qP (id:=14) ZV mixed ?_|refine qP (id:=19) ZW mixed ?_|refine qP (id:=21) ZN mixed ?_|refine qP (id:=23) ZO mixed ?_);refine zC ?_;refine qK ?_)
 exact kk.h):G:=h x ⟨k⟩
def qCQ(gl)(H:Nm->Option AO)(p:qC)(m:qR)(fs:List qO)(f:qO)(dp:Nat)(hP:zi p)(hM:yf p m fs f)(hm:m.qN=fs++[f])(he:m.en=0)(hO:qS H p (.c Xn 0 6) m dp)(h2:H (.u 2 0 0)=Y):
  qX prog gl 131 (Nm.under Xn) [.pt Xn 0] H (λ_ _ H'=>qS H' p (.c Xn 0 6) (wI p m) dp\/((wI p m).en≠0/\we H' p (wI p m) dp)) qw:=by
 have hmt:m=m.top fs f:=by cases m;simp only[qR.top]at hm ⊢;rw[hm]
 have hol:=sA (p:=p) (b:=f.qG) hP.sh;have hpc:=hM.top.pc;have hsl:=hM.top.sl;have hdp:=hM.deep;have hmd:=hM.made;have hp:=hM.top.qG;obtain⟨k,hk⟩:=gX hp;have hcd:(jo p (O p))[f.qG]?=Z (zQ p f.qG):=Av;obtain⟨hcdl,hcdE⟩:=gS hcd;have hco:(zQ p f.qG).ops=zS p f.qG:=gz;have hw1:IntKind.i64.wrap (O fs:Int)=O fs:=qk qA qA;have hl1:(O fs:Int)<(O fs:Int)+1:=qA;have hl0:(0:Int)<=(O fs:Int):=qA;have hfl:O fs<=1000:=qA
 have hgsl:∀g∈fs,O g.stack<=1000:=λg hg=>by
  have h1:=(hM.low g hg).sl;have h2:=(hM.low g hg).pc;have h3:=sA (p:=p) (b:=g.qG) hP.sh;omega
 have hn8:=hM.top.nm.1;have hg8:=hM.zM.1;refine qX.q9 func131 [] ntmps131 (λ_=>y8 rfl) λC w g root hroot=>?_
 cases ho:(zS p f.qG)[f.pc]? with
 |none=>
  refine lv (.c Xn 0 6) (.u 2 0 0) (.inl rfl) (.inr Ao) ?_;refine uR (λs=>s.tm 0=.pt Xn 0/\qS s.hp p (.u 2 0 0) m dp) ⟨qB,hO.pB (.inl ⟨rfl,rfl⟩)⟩ ?_;rintro s ⟨t0,hO⟩;obtain⟨L,j,hL,hat,hlt,hF,hf,hn,hsk⟩:=hO.ux hm;obtain⟨_,hatE⟩:=gS hat;have hT:=hO.top;simp only[zu,hm,u7,aG]at hT;have hpe:f.pc=O (zS p f.qG):=by have:=List.getElem?_eq_none_iff.1 ho;omega
  have hres:wI p m=an p m fs f:=Hm.step_end hm ho;rw[hres];have hnk:=hM.nk;refine ej ?_<|qg t0 hT hF hat hatE hlt hw1 hl1 hl0 hcd hcdl hcdE<|aI hco<|hpe;intro K hK;have fx:=aI t0 hT;refine dC (.u 2 0 0) (.c Xn 0 6) (.inr Ao) (.inl rfl) ?_;refine w9 zG eb (hF:=Sv _ _ p m fs f dp hp hm hfl hgsl hn8 qA (have h:=hO;qS.re h)) (h:=?_);rintro y H1 hO1;clear fx;have hT1:=hO1.top;simp only[zu]at hT1;refine ej ?_<|ql t0 hT<|hT1;refine qE [] .nil qD (.inl (qS.oe ((qS.pB (have h:=hO1;qS.re h) (.inr ⟨rfl,rfl⟩)))))
 |some o=>
  obtain⟨hol2,hoE⟩:=gS ho;have hOr:=Dx hP.sh hk o (gM ho);have hcode:=hOr.code;have harg:=hOr.arg;have hres:wI p m=yD p m fs f.next o:=Hm.CE hm ho;have hok:=hM.top.ok;rw[oa ho,fJ]at hok;rw[hres];have hol3:(f.pc:Int)<(O (zS p f.qG):Int):=qA;have hneb:¬f.pc=O (zS p f.qG):=qA;have hneb2:((f.pc:Int)==(O (zS p f.qG):Int))=M:=kQ;have hwp:IntKind.i64.wrap ((f.pc:Int)+1)=(f.pc:Int)+1:=qk qA qA;by_cases c0:o.1=0
  .obtain⟨L,j,hL,hat,hlt,hF,hf,hn,hsk⟩:=hO.ux hm;obtain⟨_,hatE⟩:=gS hat;have hT:=hO.top;simp only[zu,hm,u7,aG]at hT;have hftk:=Tr (p:=p) (n:=.c Xn 0 6) hat ho c0
   have htl:vU ((zS p f.qG).take f.pc)<=60:=by
    have h1:=P8 (l:=(zS p f.qG).take f.pc);simp at h1;omega
   have hord:yD p m fs f.next o=aD p m fs f.next:=by simp[yD,c0]
   rw[hord];obtain⟨c,a⟩:=o;simp only at c0;subst c0;have hlf:vv p f+1=((vU ((zS p f.qG).take f.pc):Nat):Int):=by simp[vv]
   have hlw:IntKind.i64.wrap (vv p f+1)=vv p f+1:=qk qA qA;by_cases hl:m.left=0
   .have ht:aD p m fs f.next=m.stop fs f.next 1:=by simp only[aD,hl,if_true]
    rw[ht];have hlk:=hO.fr;rw[hm]at hlk;refine ej ?_<|qg hT hF hat hatE hlt hw1 hl1 hl0 hcd hcdl hcdE hco<|jA ho hoE hol2 hol3 hneb hneb2 hwp<|hl;refine qE [] .nil qD (.inr ⟨qB,we.fin (we.mk ⟨_,_,_,by simp[hl];exact⟨rfl,rfl,rfl⟩⟩ (by simp[hO.cells]) (by simp[hO.zM]) rP tq (by exact iq.tick (fs:=fs) (g:=f.next) (x:=(f.pc:Int)+1) hlk hL rfl (by simp[hF,Bl]))) (λ_=>y8 rfl) (λ_ h=>h)⟩)
   .obtain⟨l,hll⟩:∃l,m.left=l+1:=⟨m.left - 1,qA⟩
    have ht:aD p m fs f.next={m.top fs f.next with left:=l,trace:=m.trace++[(f.qG,vU ((zS p f.qG).take f.pc))]}:=by
     simp only[aD,hl,if_false,hll]
     rfl
    rw[ht];have hTr:=hO.zt;have htr2:=hM.tr;have htl':O m.trace<=1000:=qA;have hlb:((l:Int)+1==0)=M:=kQ;have hwl:IntKind.i64.wrap (l:Int)=l:=qk qA qA;have hap:vR m.trace++[[iv f.qG,iv (vv p f+1)]]=vR (m.trace++[(f.qG,vU ((zS p f.qG).take f.pc))]):=by rw[hlf];exact Dq
    have hR2:(jn (ju p (.c Xn 0 6) L) (O fs) 1 [iv ((f.pc:Int)+1)])[O fs]?=Z [iv f.qG,iv ((f.pc:Int)+1),iv (vv p f),.hs (.c (.c Xn 0 6) (O fs) 3) 3 0 (O f.qt),jO (jQ f.cells),.hs (.c (.c Xn 0 6) (O fs) 5) 3 0 8,.hs (.c (.c Xn 0 6) (O fs) 6) 2 0 (O f.stack)]:=by simp[jn,hat,yv]
    have hR3:(jn (jn (ju p (.c Xn 0 6) L) (O fs) 1 [iv ((f.pc:Int)+1)]) (O fs) 2 [iv (vv p f+1)])[O fs]?=Z [iv f.qG,iv ((f.pc:Int)+1),iv (vv p f+1),.hs (.c (.c Xn 0 6) (O fs) 3) 3 0 (O f.qt),jO (jQ f.cells),.hs (.c (.c Xn 0 6) (O fs) 5) 3 0 8,.hs (.c (.c Xn 0 6) (O fs) 6) 2 0 (O f.stack)]:=by simp[jn,hat,yv]
    obtain⟨_,hR2E⟩:=gS hR2;obtain⟨_,hR3E⟩:=gS hR3;refine ej ?_<|qg hT hF hat hatE hlt hR2 hR3 hR2E hR3E hw1 hl1 hl0<|qg hcd hcdl hcdE hco ho hoE hol2 hol3 hneb hneb2 hwp hll<|zJ hlb hwl hTr htl'<|hlw;refine yu [] .nil qD (.inl (qS.oe (have h:=hO;qS.uY h hm hL rfl (by simp[Bl,hftk]) (by simp[hf,qO.next]) (by simp[hn,qO.next]) ⟨j,by simp[hsk,qO.next]⟩ (h0:=by simp[zu]) (h7:=Am))))
  .refine lv (.c Xn 0 6) (.u 2 0 0) (.inl rfl) (.inr Ao) ?_;refine uR (λs=>s.tm 0=.pt Xn 0/\qS s.hp p (.u 2 0 0) m dp) ⟨qB,hO.pB (.inl ⟨rfl,rfl⟩)⟩ ?_;rintro s ⟨t0,hO⟩;obtain⟨L,j,hL,hat,hlt,hF,hf,hn,hsk⟩:=hO.ux hm;obtain⟨_,hatE⟩:=gS hat;have hT:=hO.top;simp only[zu,hm,u7,aG]at hT;have hfn:=Tp (p:=p) (n:=.u 2 0 0) hat ho c0;have hsO:=λh13=>sV.of hM hOr h13;have hnam:=hOr.name;obtain⟨c,a⟩:=o;obtain⟨x,rfl⟩:∃x:Nat,a=x:=⟨a.toNat,mX⟩;simp only at hcode c0 hsO hnam;refine ej ?_<|qg t0 hT hF hat hatE hlt hw1 hl1 hl0 hcd hcdl hcdE<|jA hco ho hoE hol2 hol3 hneb hneb2<|hwp;refine uR (λs=>s.tm 0=.pt Xn 0/\s.tm 2=.ep (.u 2 0 0) 7 (O fs) 0/\s.tm 3=.pt (.s 3) 0/\s.hp (.s 3)=Z (.row 2 [[iv c,iv x]])/\s.tm 64=bv (c==0)/\qS s.hp p (.u 2 0 0) (m.top fs f.next) dp) ⟨ku,qB,qB,qB,qB,(have h:=hO;qS.uY h hm hL rfl (by simp[Bl,hfn]) (by simp[hf,qO.next]) (by simp[hn,qO.next]) ⟨j,by simp[hsk,qO.next]⟩ (h0:=dZ))⟩ ?_;clear t0 hT hF hf hn hsk hlt hat hatE hL hO hfn;rintro s ⟨t0,t2,t3,p3,t64,hO⟩;have hT:=hO.top;obtain⟨L,j,hL,hat,hlt,hF,hf,hn,hsk⟩:=hO.ux rfl;simp only[zu,qR.top]at hT;have cb0:(c==0)=M:=by simpa using c0
   have mv1:(Nm.u 2 0 0).z6=M\/(jt prog C w g H 135 gl).ext (.u 2 0 0)=M:=.inr Ao;have hnsl:O f.next.stack<=1000:=by simp only[qO.next];omega
   simp only[yN]at hok;by_cases c13:2<=c/\c<=13
   .have hord:yD p m fs f.next (c,(x:Int))=if(c-2)%3=0 then uE p m fs f.next (c,(x:Int))else if(c-2)%3=1 then CG m fs f.next (c,(x:Int))else cp p m fs f.next (c,(x:Int)):=by
     simp only[yD];rw[if_neg c0,if_pos c13]
    have hst1:(c-2)%3=1->1<=O f.next.stack:=by
     intro h1;have hc:c=3\/c=6\/c=9\/c=12:=qA;rcases hc with rfl|rfl|rfl|rfl<;>simp at hok<;>exact hok.1
    rw[hord];obtain⟨c13a,c13b⟩:=c13;have fx:=jA t0 t2 t3 p3 t64 cb0 c13a<|c13b;have c1:=cu gl c 2 13;refine ej ?_<|@fx;clear fx c1;intro K hK;have fx:=aI t0 (aI t2 (aI t3 p3));refine HM (.u 2 0 0) (.c Xn 0 6) mv1 (.inl rfl) ?_;refine w9 zG eb (hF:=qCP _ _ p m fs f.next (c,(x:Int)) dp hp ⟨c13a,c13b⟩ ⟨(hsO ⟨c13a,c13b⟩).arg,(hsO ⟨c13a,c13b⟩).lt,(hsO ⟨c13a,c13b⟩).cell⟩ (λh=>hnam h c13b) hg8 hn8 hst1 hnsl (have h:=hO;qS.re h) qB) (h:=?_);rintro y H1 ⟨fr,hfr,hO1⟩;clear fx;refine .inr ?_;have hT1:=hO1.top;simp only[zu]at hT1;refine ej ?_<|ql t0 hT<|hT1;refine yu [] .nil qD (io.done (qS.oe ((qS.pB (have h:=hO1;qS.re h) (.inr ⟨rfl,rfl⟩)))) hfr)
   have c13b:(decide (2<=c)&&decide (c<=13))=M:=by
    rw[Bool.and_eq_false_iff,decide_eq_false_iff_not,decide_eq_false_iff_not];omega
   have hir:=cu gl c 2 13;rw[c13b]at hir
   have hord:yD p m fs f.next (c,(x:Int))=yl p m fs f.next (c,(x:Int)):=by
    simp only[yD];rw[if_neg c0,if_neg c13]
   rw[hord];by_cases c17:c=17
   .subst c17;have hord:yl p m fs f.next (17,(x:Int))=ck p m fs f.next (17,(x:Int)):=br;rw[hord];simp at hok;have hx1:=hOr.call rfl;simp only at hx1;have fx:=zx t0 t2 t3 p3 t64<|cb0;have c1:=hir;refine ej ?_<|@fx;clear fx c1;intro K hK;have fx:=aI t0 (aI t2 (aI t3 p3));refine HM (.u 2 0 0) (.c Xn 0 6) mv1 (.inl rfl) ?_;refine w9 zG eb (hF:=qCO _ _ p m fs f.next x dp f.pc hP hM qA hok.1 hnsl hfl (have h:=hO;qS.re h)) (h:=?_);rintro y H1 ⟨q,hq,hO1⟩;clear fx;have hT1:=hO1.top;simp only[zu]at hT1;rcases hq with rfl|rfl
    .refine .inr ?_;refine ej ?_<|ql t0 hT<|hT1;refine yu [] .nil qD (.inl (qS.oe ((qS.pB (have h:=hO1;qS.re h) (.inr ⟨rfl,rfl⟩)))))
    .refine .inl ?_;refine ej ?_<|ql t0 hT<|hT1;refine yu [] .nil qD (.inl (qS.oe (have h:=hO1;qS.re h)))
   by_cases c20:c=20
   .subst c20;have hord:yl p m fs f.next (20,(x:Int))=vK m fs f.next.zE:=br;rw[hord];simp at hok;obtain⟨k1,hk1⟩:∃k1,O f.next.stack=k1+1:=⟨O f.next.stack - 1,by have:O f.next.stack=O f.stack:=rfl;omega⟩;have fx:=zx t0 t2 t3 p3 t64<|cb0;have c1:=hir;refine ej ?_<|@fx;clear fx c1;intro K hK;refine uM (λs=>s.tm 131=.pt Xn 0/\s.tm 132=.ep (.u 2 0 0) 7 (O fs) 0/\qS s.hp p (.u 2 0 0) (m.top fs f.next) dp) ⟨qB,qB,(have h:=hO;qS.re h)⟩ ?_;clear t0 t2 t3 p3 t64 hT hF hf hn hsk hlt hat hL hO;rintro s ⟨t131,t132,hO⟩;have hT:=hO.top;obtain⟨js0,hF⟩:=hO.fr.top;simp only[zu]at hT;obtain⟨rows,a0,a1,a2,a3,a4,a5,vs,e1,e2,e3,e4,e5⟩:=hO.take hk1;have fx:=aI t131 (aI t132 hT);refine w9 zG eb (hF:=ry gl zP (λ_=>vF) _ rows (O fs) k1 a0 a1 a2 a3 a4 a5 vs f.next.zE e2 e3 e4 e5 qA) (h:=?_);intro y H1 hw;clear fx;have hO1:=hO.taken e1 hk1 hw;obtain⟨rfl,-⟩:=hw;have hT1:=hO1.top;obtain⟨js1,hF1⟩:=hO1.fr.top;simp only[zu]at hT1
    have hlv:∀v,vK (m.top fs f.next.pop) fs v=vK m fs v:=λv=>by
     unfold vK
     split<;>rfl
    refine ej ?_<|ql t131 hT<|hT1;have fx:=aI t131 (aI hT hT1);refine dC (.u 2 0 0) (.c Xn 0 6) mv1 (.inl rfl) ?_;refine w9 dW (by simp[hF1]) (hF:=Gp _ _ p (m.top fs f.next.pop) fs f.next.pop f.next.zE dp rfl hfl hgsl (have h:=hO1;qS.re h)) (h:=?_);rintro y H2 hO2;clear fx;rw[hlv]at hO2;have hT2:=hO2.top;simp only[zu]at hT2;refine ej ?_<|qz t131 hT hT1<|hT2;refine yu [] .nil qD (.inl (qS.oe ((qS.pB (have h:=hO2;qS.re h) (.inr ⟨rfl,rfl⟩)))))
   have hcs:c=1\/c=14\/c=15\/c=16\/c=18\/c=19:=qA;have cb17:(c==17)=M:=by simpa using c17
   have cb20:(c==20)=M:=by simpa using c20
   have hval:∀H:Nm->Option AO,qS H p (.u 2 0 0) (m.top fs f.next) dp->H (.u 9 0 0)=Y->qX prog gl 183 zP [.pt Xn 0,.ep (.u 2 0 0) 7 (O fs) 0,.agg [iv c,iv x]] H (λ_ _ H'=>∃q,(q=.u 2 0 0\/q=.c Xn 0 6)/\io H' p q (yl p m fs f.next (c,(x:Int))) dp) qw:=by
    intro H hO h9;have h14:c=14->2<=O f.next.stack:=by rintro rfl;simp at hok;exact hok.1
    have h18:c=18\/c=19->1<=O f.next.stack:=KX;rcases hcs with h|h|h|h|h|h
    .exact I3 gl H p m fs f.next (c,(x:Int)) dp f.pc hP hM hOr (.inl h) h14 h18 hnsl hfl hO h9
    .exact I3 gl H p m fs f.next (c,(x:Int)) dp f.pc hP hM hOr (.inr (.inl h)) h14 h18 hnsl hfl hO h9
    .exact I3 gl H p m fs f.next (c,(x:Int)) dp f.pc hP hM hOr (.inr (.inr h)) h14 h18 hnsl hfl hO h9
    .exact qCR gl H p m fs f.next (c,(x:Int)) dp f.pc hP hM hOr h h14 h18 hnsl hfl hO h9
    .exact PO gl H p m fs f.next (c,(x:Int)) dp f.pc hP hM hOr (.inl h) h14 h18 hnsl hfl hO h9
    .exact PO gl H p m fs f.next (c,(x:Int)) dp f.pc hP hM hOr (.inr h) h14 h18 hnsl hfl hO h9
   have fx:=jA t0 t2 t3 p3 t64 cb0 cb17<|cb20;have c1:=hir;refine Gl ?_<|@fx;clear fx c1;intro K hK;have fx:=aI t0 (aI t2 (aI t3 p3));refine HM (.u 2 0 0) (.c Xn 0 6) mv1 (.inl rfl) ?_;refine w9 zG eb (hF:=hval _ (have h:=hO;qS.re h) qB) (h:=?_);rintro y H1 ⟨q,hq,fr,hfr,hO1⟩;clear fx;have hT1:=hO1.top;simp only[zu]at hT1;rcases hq with rfl|rfl
   .refine .inr ?_;refine Gl ?_<|ql t0 hT<|hT1;refine yu [] .nil qD (io.done (qS.oe ((qS.pB (have h:=hO1;qS.re h) (.inr ⟨rfl,rfl⟩)))) hfr)
   .refine .inl ?_;refine Gl ?_<|ql t0 hT<|hT1;refine yu [] .nil qD (io.done (qS.oe (have h:=hO1;qS.re h)) hfr)
abbrev Ht:qV:=ax<|.l 12 [2,0]<|.l 13 [2,0]<|.l 14 [2]<|.l 15 []<|.done
def SE(gl)(p:qC)(b:Nat)(k:qY)(hk:p[b]?=Z k)(hP:zw p)(hL:bL p):qL prog gl 129 [jB p,iv b] (λr y H'=>y=.hs r 1 0 (O (jD p b))/\H' r=Z (.row 1 (qh (jD p b)))):=by
 have qv:=(gS hk).1;obtain⟨_,hkE⟩:=gS hk;have hlen:=hP.len;have hf8:=iL (p:=p) (b:=b);have hcl:=xA (p:=p) (b:=b);have hfr:=G7 gl p b qv hP.bc hP.jK qA;refine qL.q9 func129 [.tmp 4] ntmps129 λC w g root=>?_;have fx:=qW;have d1:=hfr;refine qK ?_
 repeat((first|refine qP (id:=6) Ht mixed ?_);refine zC ?_;refine qK ?_)
 clear fx d1;refine zK (λn st=>∃i:Nat,n=O (za p b)-i/\i<=O (za p b)/\st.tm 1=iv b/\st.tm 2=.pt (.s 2) 0/\st.hp (.s 2)=Z (.row 1 [[j6 p]])/\st.tm 5=.hs (.s 5) 1 0 i/\st.hp (.s 5)=Z (.row 1 (qh ((jD p b).take i)))/\st.tm 6=.hs (.s 6) 1 0 (O (za p b))/\st.hp (.s 6)=Z (.row 1 (qh (za p b)))/\st.tm 7=iv i) (O (za p b)) ?_ ?_
 .exact⟨0,qA,qA,qB,qB,qB,qB,qB,qB,qB,qB⟩
 rintro n st - - ⟨i,rfl,hi,t1,t2,p2,t5,p5,t6,p6,t7⟩;by_cases hil:i<O (za p b)
 .obtain⟨x,hx⟩:=gX hil;obtain⟨_,hxE⟩:=gS hx;have hb0:=BH (gM hx);obtain⟨h1,h2,h3⟩:=hP.jK b k hk;have h4:=h3 hb0;obtain⟨c,hc⟩:∃c:Nat,k.parent=c:=⟨k.parent.toNat,qA⟩;obtain⟨kc,hkc⟩:∃kc,p[c]?=Z kc:=⟨_,gE qA⟩;have hpa:wE p b=c:=by simp[wE,hk,hc]
  have hcp:=Kf gl p c kc x hkc hL;have htl:O ((jD p b).take i)=i:=by simp[jD];omega
  have hi8:i<=8:=qA;have fx:=qg t1 t2 p2 t5 p5 t6 p6 t7 hil hk hkE qv<|zJ hc hx hxE htl<|hi8;have c1:=hcp;refine qK ?_
  repeat((first|refine qP (id:=6) Ht mixed ?_);refine zC ?_;refine qK ?_)
  clear fx c1
  have e1:(jD p b).take (i+1)=(jD p b).take i++[cn p c x]:=by
   rw[vd];simp[jD,hx,hpa]
  have e2:qh ((jD p b).take i)++[[iv (cn p c x)]]=qh ((jD p b).take (i+1)):=by rw[e1];simp[qh]
  refine⟨O (za p b)-(i+1),qA,i+1,rfl,qA,oX,kx,by simp[p2],qB,?_,mR,by simp[p6],by simp[t7];exact qk qA qA⟩;simp[<- e2];rw[jg qp]
 .obtain rfl:i=O (za p b):=qA;have hcl2:O (jD p b)=O (za p b):=by simp[jD]
  have htk:(jD p b).take (O (za p b))=jD p b:=jg qA;rw[htk]at p5;have fx:=jA t1 t2 p2 t5 p5 t6 p6<|t7;refine qK ?_
  repeat((first|refine qP (id:=6) Ht mixed ?_);refine zC ?_;refine qK ?_)
  clear fx;exact yg (t:=4) KW KW qB
def SD(gl)(p:qC)(b:Nat)(k:qY)(hk:p[b]?=Z k)(hP:zw p)(hL:bL p):qL prog gl 129 [jB p,iv b] (λ_ y _=>y=jO (jD p b)):=
 (SE gl p b k hk hP hL).settle λr y H' hr=>⟨jO (jD p b),by rw[hr.1];exact ea hr.2 rfl,rfl⟩
def S7(gl)(p:qC)(hL:bL p):qL prog gl 128 [jB p] (λ_ y _=>y=kS (jo p (O p))):=
 (qBr gl p hL).settle λr y H' hr=>⟨kS (jo p (O p)),by rw[hr.1];exact gt hr.2 rfl,rfl⟩
abbrev Hu:qV:=ba<|.l 7 [4,3,2,1,0]<|.l 8 [4,3,2,1,0]<|.l 9 [0]<|.q 10<|.q 11<|.l 12 []<|.done
abbrev Hv:qV:=Bq<|.l 10 [5,0]<|.q 11<|.q 12<|.l 13 []<|.done
def J4:∀{k:Nm},Nm.under (.u 1 0 0) k=B->Nm.under (.u 2 0 0) k=M
 |.s d,h=>by simp[Nm.under]
 |.u a b c,h=>by simp[Nm.under]at h ⊢;omega
 |.c q i j,h=>by
  simp[Nm.under]at h ⊢;exact J4 h
def rq(k:G2)(x:A)(h:A->jH G2->G:=by
 intro fx kk;refine qK ?_
 repeat((first|refine qP (id:=6) Hu mixed ?_|refine qP (id:=9) Hv mixed ?_);refine zC ?_;refine qK ?_)
 exact kk.h):G:=h x ⟨k⟩
def OD(gl)(H:Nm->Option AO)(p:qC)(n:Nat)(hP:zi p)(hL:bL p)(hn:n<=150)(h1:H (.u 1 0 0)=Y)(h2:H (.u 2 0 0)=Y):
  qX prog gl 87 (Nm.under Xn) [jB p,iv n] H (λ_ y H'=>y=.pt Xn 0/\we H' p (yj p n) (yj p n).deep) qw:=by
 have hlen:=hP.sh.len;refine qX.q9 func87 [.tmp 4] ntmps87 (λ_=>y8 rfl) λC w g root hroot=>?_;have fx:=qW;have p1:=S7 gl p hL;have d1:=DT gl;refine zk ?_
 repeat((first|refine qP (id:=6) Hu mixed ?_|refine qP (id:=9) Hv mixed ?_);refine vk ?_;refine zk ?_)
 clear fx p1 d1;have hl1:1<=O p:=qA;refine lv (.s 5) (.u 1 0 0) (.inl rfl) (.inr (by simp[jt,h1])) (lv (.s 33) (.c (.c Xn 0 1) 0 0) (.inl rfl) (.inl rfl) ?_);refine zK (λk s=>∃b:Nat,k=O p-b/\1<=b/\b<=O p/\s.tm 2=.pt (.s 2) 0/\s.hp (.s 2)=Z (.row 1 [[j6 p]])/\s.tm 5=.pt Xn 0/\s.tm 6=iv b/\Et s.hp p n b) (O p-1) ?_ ?_
 .refine⟨1,rfl,qA,hl1,qB,qB,qB,qB,⟨qB,qB,qB,qB,qB,qB,qB,qB,qB⟩⟩
 rintro k s - - ⟨b,rfl,hb1,qv,t2,p2,t5,t6,hX⟩;have hT:=hX.top;by_cases hil:b<O p
 .obtain⟨k,hk⟩:=gX hil;have hC:=hX.vI;have hCl:=Ry (p:=p) hb1;have hCa:=Rx (p:=p) hb1;have hb7:b<=7:=qA;have fx:=y9 t2 p2 t5 t6 hT hC hCl hil<|hb7;have p1:=SD gl p b k hk hP.sh hL;refine zk ?_
  repeat((first|refine qP (id:=6) Hu mixed ?_|refine qP (id:=9) Hv mixed ?_);refine vk ?_;refine zk ?_)
  clear fx p1;have htk:(fW p b).take b=fW p b:=jg qA;exact⟨O p-(b+1),qA,b+1,rfl,qA,qA,kx,by simp[p2],ee,zr,⟨qB,by simp[htk,hCa],by simp[hX.cells],by simp[hX.zM],by simp[hX.qI],by simp[hX.jG],by simp[hX.fr],by simp[hX.out],by simp[hX.zt]⟩⟩
 obtain rfl:b=O p:=qA;have hOw:=hX.own qA;refine rq ?_<|zJ t2 p2 t5 t6<|hT;intro K hK;refine HN 44 (.s 44) 1 0 [] ?_ ?_ rfl qB ?_
 .simp
 .simp
 refine kU (.c Xn 0 6) (.u 2 0 0) (.inl rfl) (.inr Ao) ?_;refine uM (λs=>s.tm 42=.pt Xn 0/\s.tm 43=.pt Xn 0/\s.tm 44=jO []/\s.tm 5=.pt Xn 0/\qS s.hp p (.u 2 0 0) (jY n) 0) ⟨qB,qB,qB,ee,qS.pB (n:=.c Xn 0 6) (have h:=hOw;qS.re h) (.inl ⟨rfl,rfl⟩)⟩ ?_;clear t2 p2 t5 t6 hT hX hOw;rintro s ⟨t42,t43,t44,t5,hO⟩;have hT:=hO.top;obtain⟨js,hF⟩:=hO.fr.top;simp only[zu,jY]at hT hF;have hBg:gR p (jY n) 0 [] 0 (List.replicate (O (zB p 0)) Y) ([]++List.replicate (O (qa p 0)) Y):=.inl ⟨rfl,rfl,rfl⟩;have hfin:=hBg.fin (cs:=[]) rfl;have hst:zX p n=yG p (jY n) 0 [] []:=rfl;rw[<- hst]at hfin;have fx:=aI t42 (aI t43 t44);refine dC (.c (.s 45) 0 3) (.s 30) (.inl rfl) (.inl rfl) ?_;refine dC (.c (.s 45) 0 5) (.s 31) (.inl rfl) (.inl rfl) ?_;refine dC (.c (.s 45) 0 6) (.s 32) (.inl rfl) (.inl rfl) ?_;refine w9 zG eb (hF:=HH _ _ p (jY n) 0 [] 0 qA iA qB iA (have h:=hO;qS.re h)) (h:=?_);rintro y H1 ⟨rfl,h3,h5,h6,hO1⟩;clear fx;have hT1:=hO1.top;obtain⟨js1,hF1⟩:=hO1.fr.top;simp only[zu,jY]at hT1 hF1;obtain⟨hfin1,hfin2⟩:zX p n={jY n with cells:=List.replicate (O (qa p 0)) Y,made:=1,deep:=1,qN:=[⟨0,0,List.replicate (O (zB p 0)) Y,(List.range (O (qa p 0))).map (O (jY n).cells+·),jZ,[]⟩]}/\True:=⟨by rw[hfin];simp[jY],trivial⟩;refine rq ?_<|jU t42 t43 t44 t5 hT hF hT1 hF1 h3 h5<|h6
 have hr0:O (jY n).cells=0:=rfl;obtain⟨N,n1,n2,n3,n4⟩:=Zy hP hn;refine zK (λk s=>∃i:Nat,k=N-i/\i<=N/\s.tm 5=.pt Xn 0/\(qS s.hp p (.c Xn 0 6) (zV p i (zX p n)) (cI p i (zX p n) 0)\/(i=N/\(zV p i (zX p n)).en≠0/\we s.hp p (zV p i (zX p n)) (cI p i (zX p n) 0)))) N ?_ ?_
 .refine⟨0,qA,qA,by simp[t5,hT],.inl ?_⟩;simp only[zV,cI];rw[hfin1];refine⟨?_,?_,?_,?_,?_,?_,?_,?_,⟨[],?_⟩,λi1 g hg=>?_,λi1 g hg=>?_,λi1 g hg=>?_⟩
  .simp [zu,jY]
  .simp [hO1.vI]
  .have:=hO1.cells;simp[jY]at this;simp[this]
  .simp [hO1.zM]
  .simp [hO1.qI]
  .simp [hO1.jG]
  .simp [hO1.out]
  .simp [hO1.zt]
  .simp [ju,yv,vv,vU]
  .have:i1=0/\g=⟨0,0,List.replicate (O (zB p 0)) Y,(List.range (O (qa p 0))).map (O (jY n).cells+·),jZ,[]⟩:=by
    have hl:=(gS hg).1;simp at hl;subst hl;simp at hg;exact⟨rfl,hg.symm⟩
   obtain⟨rfl,rfl⟩:=this;simp[h3]
  .have:i1=0/\g=⟨0,0,List.replicate (O (zB p 0)) Y,(List.range (O (qa p 0))).map (O (jY n).cells+·),jZ,[]⟩:=by
    have hl:=(gS hg).1;simp at hl;subst hl;simp at hg;exact⟨rfl,hg.symm⟩
   obtain⟨rfl,rfl⟩:=this;simp[h5]
  .have:i1=0/\g=⟨0,0,List.replicate (O (zB p 0)) Y,(List.range (O (qa p 0))).map (O (jY n).cells+·),jZ,[]⟩:=by
    have hl:=(gS hg).1;simp at hl;subst hl;simp at hg;exact⟨rfl,hg.symm⟩
   obtain⟨rfl,rfl⟩:=this;exact⟨[],by simp[h6,zm]⟩
 clear t42 t43 t44 t5 hT hF hT1 hF1 h3 h5 h6 hO hO1;rintro k s - - ⟨i,rfl,hi,t5,hI⟩;refine qDt (Nm.under (.u 2 0 0)) ?_;refine uR (λs=>s.tm 5=.pt Xn 0/\s.hp (.u 2 0 0)=Y/\(qS s.hp p (.c Xn 0 6) (zV p i (zX p n)) (cI p i (zX p n) 0)\/(i=N/\(zV p i (zX p n)).en≠0/\we s.hp p (zV p i (zX p n)) (cI p i (zX p n) 0)))) ⟨ee,qB,?_⟩ ?_
 .have hk:∀k,Nm.under Xn k=B->Nm.under (.u 2 0 0) k=M:=λk h=>J4 h;rcases hI with h|⟨h1,h2,h3⟩
  .exact .inl (h.OM (F:=Z) (λ_ _=>rfl) λq hq=>by rw[L1,hk q hq];cases s.hp q<;>simp[AO.uO])
  .exact .inr ⟨h1,h2,h3.ra λq hq=>by rw[L1,hk q hq];rfl⟩
 clear t5 hI s;rintro s ⟨t5,hU,hI⟩;by_cases hiN:i<N
 .have hne:=n1 i hiN;obtain⟨fs,f,hfr,hM⟩:=(sE hP hn i).resolve_left hne
  have hen:(zV p i (zX p n)).en=0:=by
   by_cases h:(zV p i (zX p n)).en=0
   .exact h
   .exact absurd (.inr h) hne
  have hO:=hI.resolve_right λh=>qA;have hsn:=IE i hne;have hnt:=NE (d:=0) i hne;rw[hfr]at hnt;simp only[u7,aG]at hnt;have hT:=hO.top;obtain⟨js,hF⟩:=hO.fr.top;simp only[zu,hfr,hen,u7,aG]at hT hF;have hl0:(0:Int)<(O fs:Int)+1:=qA;refine rq ?_<|qz t5 hT hF<|hl0;intro K hK;have fx:=aI t5 (aI hT hF);refine Pv (i:=(cI p i (zX p n) 0:Int)) (j:=(O fs:Int)+1) (cI p (i+1) (zX p n) 0:Nat) (by rw[hnt];omega) (h:=?_);clear fx;refine rq ?_<|ql t5 hT<|hF;intro K hK;have fx:=aI t5 (aI hT hF);refine uT Xn rfl Ah (hF:=qCQ gl _ p (zV p i (zX p n)) fs f (cI p (i+1) (zX p n) 0) hP hM hfr hen (have h:=hO;qS.re h (h0:=by simp[zu,hfr,hen])) vH) (h:=?_);rintro y H1 hO1;clear fx;rw[<- hsn]at hO1;refine rq ?_<| t5;refine⟨N-(i+1),qA,i+1,rfl,qA,ee,?_⟩;rcases hO1 with h|⟨h1,h2⟩
  .exact .inl (have h:=h;qS.re h)
  .have hN1:i+1=N:=by
    by_cases e:i+1<N
    .exact absurd (.inr h1) (n1 _ e)
    .omega
   exact .inr ⟨hN1,h1,h2.ra λq hq=>lL⟩
 .obtain rfl:i=N:=qA;rw[n3,n4]at hI;rw[n3]at n2
  have hE:we s.hp p (yj p n) (yj p n).deep:=by
   rcases hI with h|⟨-,-,h⟩
   .exact h.Kw
   .exact h
  obtain⟨b,c,d,hT⟩:=hE.top;obtain⟨k,jN⟩:∃k,O (yj p n).qN=k:=⟨_,rfl⟩;rw[jN]at hT;have hk:k=0\/(yj p n).en≠0:=n2.imp (λh=>by rw[<- jN,h];rfl) id;by_cases hk0:k=0
  .subst hk0;refine rq ?_<|aI t5<|hT;refine qE [] .nil qD ⟨rfl,we.fin (hE.ra λq hq=>qB) (λ_=>y8 rfl) (λ_ h=>h)⟩
  .have he:=hk.resolve_left hk0;have hk1:0<k:=qA;have heb:((yj p n).en==0)=M:=rJ;refine rq ?_<|qz t5 hT hk1<|heb;refine qE [] .nil qD ⟨rfl,we.fin (hE.ra λq hq=>qB) (λ_=>y8 rfl) (λ_ h=>h)⟩
end Go.Proofs.YtjgpejikjhojcaaGreatDoor
end
section

end
section
namespace Go.Proofs.YtjgpejikjhojcaaGreatDoor
open Go Go.Hm Go.Proofs Tryz
abbrev Hw:qV:=bB<|.l 8 [7,6,5,4]<|.l 9 []<|.done
def qBm(gl)(p:qC)(f:Int)(hs:jm p):qL prog gl 48 [jB p,iv f] (λ_ y _=>y=iv (DN p f)):=by
 refine qL.q9 func48 [.tmp 4] ntmps48 λC w g root=>?_
 cases hv:kZ p f
 .skip
  have fx:=hv;have c1:=hv ▸ Ea gl p f hs;refine qK ?_;clear fx c1;refine qE [] .nil qD tu
 .obtain⟨hpo,n,rfl,hn⟩:=BI hv;have hP:=zi.of hs hpo;have hLk:bL p:=⟨hs,hP.sh⟩;obtain⟨hb1,hb2,hgl8⟩:=Bf (n:=n) hP hn;have fx:=hv;have c1:=hv ▸ Ea gl p n hs;refine qK ?_;clear fx c1;intro K hK;have fx:=qW;refine uT Xn rfl Ah (hF:=OD gl _ p n hP hLk hn mP mP) (h:=?_);rintro y H1 ⟨rfl,hO1⟩;clear fx;obtain⟨b,c,d,hT1⟩:=hO1.top;have hU1:=hO1.out;have hG1:=hO1.zM;have hR1:=hO1.zt;refine qH ?_<| hT1;refine qE [] .nil qD tu
def qBn(gl)(p:qC)(f:Int)(hs:jm p):qL prog gl 49 [jB p,iv f] (λ_ y _=>y=.zT [iv (xH p f).1,iv (xH p f).2]):=by
 refine qL.q9 func49 [.tmp 4,.tmp 5] ntmps49 λC w g root=>?_
 cases hv:kZ p f
 .skip
  have fx:=hv;have c1:=hv ▸ Ea gl p f hs;refine qK ?_
  repeat((first|refine qP (id:=4) Hw mixed ?_);refine zC ?_;refine qK ?_)
  clear fx c1;refine qE [] .nil qD tg
 .obtain⟨hpo,n,rfl,hn⟩:=BI hv;have hP:=zi.of hs hpo;have hLk:bL p:=⟨hs,hP.sh⟩;obtain⟨hb1,hb2,hgl8⟩:=Bf (n:=n) hP hn;have fx:=hv;have c1:=hv ▸ Ea gl p n hs;refine qK ?_
  repeat((first|refine qP (id:=4) Hw mixed ?_);refine zC ?_;refine qK ?_)
  clear fx c1;intro K hK;have fx:=qW;refine uT Xn rfl Ah (hF:=OD gl _ p n hP hLk hn mP mP) (h:=?_);rintro y H1 ⟨rfl,hO1⟩;clear fx;obtain⟨b,c,d,hT1⟩:=hO1.top;have hU1:=hO1.out;have hG1:=hO1.zM;have hR1:=hO1.zt;have fx:=hT1;refine qK ?_
  repeat((first|refine qP (id:=4) Hw mixed ?_);refine zC ?_;refine qK ?_)
  clear fx;refine qE [] .nil qD tg
end Go.Proofs.YtjgpejikjhojcaaGreatDoor
end
