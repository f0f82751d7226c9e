/-
  Own texts, joined by mkclaim.py: Yg, Gg, Gh, Gi, Gl, Gn.
-/
import Derived.Test.YtbgmnmnoaamgkaaGreatDoorC22
import Derived.Test.YtbgmnmnoaamgkaaGreatDoorC16
import Derived.Test.YtbgmnmnoaamgkaaGreatDoorC21
import Derived.Test.YtbgmnmnoaamgkaaGreatDoorC08
import Derived.Test.YtbgmnmnoaamgkaaGreatDoorC12
import Derived.Test.YtbgmnmnoaamgkaaGreatDoorC10
set_option linter.unusedSimpArgs false
set_option linter.unusedVariables false
set_option maxRecDepth 100000
set_option maxHeartbeats 4000000

section
namespace Go.Proofs.YtbgmnmnoaamgkaaGreatDoor
open Go Go.Hm Go.Proofs
abbrev qAs:Sch:=.q 0<|.q 1<|.q 2<|.q 3<|.q 4<|.q 5<|.q 6<|.q 7<|.q 8<|.q 9<|.q 10<|.l 11 []<|.done
abbrev qAr:Sch:=.q 0<|.q 1<|.q 2<|.q 3<|.q 4<|.q 5<|.q 6<|.q 7<|.q 8<|.q 9<|.q 10<|.q 11<|.q 12<|.q 13<|.q 14<|.q 15<|.q 16<|.done
abbrev qAq:Sch:=.q 0<|.q 1<|.q 2<|.q 3<|.q 4<|.q 5<|.q 6<|.q 7<|.q 8<|.q 9<|.q 10<|.q 11<|.q 12<|.q 13<|.q 14<|.q 15<|.q 16<|.l 17 [16,15,14,13,12,11,10,9,8,7,6,5,4,3,2,1,0]<|.l 18 []<|.done
abbrev qAp:Sch:=.q 0<|.q 1<|.q 2<|.q 3<|.q 4<|.q 5<|.q 6<|.q 7<|.q 8<|.q 9<|.q 10<|.q 11<|.q 12<|.q 13<|.l 14 [9,5,4,3,2,1,0]<|.l 15 [9,5,0]<|.q 16<|.q 17<|.l 18 []<|.done
abbrev qQv:Sch:=.q 0<|.q 1<|.q 2<|.q 3<|.q 4<|.q 5<|.q 6<|.q 7<|.l 8 [4,3,2,1,0]<|.l 9 [0]<|.q 10<|.q 11<|.l 12 []<|.done
abbrev qQu:Sch:=.q 0<|.q 1<|.q 2<|.q 3<|.q 4<|.q 5<|.q 6<|.q 7<|.q 8<|.q 9<|.q 10<|.q 11<|.l 12 [7,5,4,3,2,1,0]<|.l 13 [7,5,0]<|.q 14<|.q 15<|.l 16 []<|.done
abbrev qQt:Sch:=.q 0<|.q 1<|.q 2<|.q 3<|.q 4<|.q 5<|.q 6<|.q 7<|.q 8<|.q 9<|.q 10<|.l 11 [6,5,4,3,2,1,0]<|.q 12<|.l 13 [4,3,2,1,0]<|.l 14 [0]<|.q 15<|.q 16<|.l 17 []<|.done
abbrev qQs:Sch:=.q 0<|.q 1<|.q 2<|.q 3<|.q 4<|.q 5<|.q 6<|.q 7<|.q 8<|.q 9<|.q 10<|.q 11<|.l 12 [7,6,5,4,3,2,1,0]<|.l 13 [7,6,5,0]<|.q 14<|.q 15<|.l 16 []<|.done
abbrev qQr:Sch:=.q 0<|.q 1<|.q 2<|.q 3<|.q 4<|.q 5<|.q 6<|.q 7<|.q 8<|.q 9<|.q 10<|.q 11<|.l 12 [7,6,5,4,3,2,1,0]<|.l 13 [4,3,2,1,0]<|.l 14 [4,3,2,1,0]<|.l 15 [0]<|.q 16<|.q 17<|.l 18 []<|.done
abbrev qQq:Sch:=.q 0<|.q 1<|.q 2<|.q 3<|.q 4<|.q 5<|.q 6<|.q 7<|.q 8<|.q 9<|.q 10<|.q 11<|.q 12<|.q 13<|.done
abbrev qKr:Sch:=.q 0<|.q 1<|.q 2<|.q 3<|.q 4<|.q 5<|.q 6<|.q 7<|.q 8<|.q 9<|.q 10<|.q 11<|.q 12<|.q 13<|.q 14<|.q 15<|.q 16<|.q 17<|.l 18 [13,11,10,9,8,7,6,5,4,3,2,1,0]<|.l 19 [13,11,10,9,8,7,6,5,0]<|.q 20<|.q 21<|.l 22 []<|.done
abbrev qKq:Sch:=.q 0<|.q 1<|.q 2<|.q 3<|.q 4<|.q 5<|.l 6 [4,3,2,1,0]<|.l 7 [4,3,2,1,0]<|.l 8 [4,3,2,1,0]<|.l 9 [0]<|.q 10<|.q 11<|.l 12 []<|.done
theorem qJC (gl) (H:Nm→Option AO) (p:Prg) (m:Mch) (fs:List Frm) (f:Frm) (dp:Nat) (hP:ValP p) (hM:MOk p m fs f) (hm:m.frames=fs++[f]) (he:m.en=0) (hO:OwnX H p (.c Xn 0 6) m dp) (h2:H (.u 2 0 0)=none) :
  FnE Tryz.prog gl 69 (Nm.under Xn) [.pt Xn 0] H (fun _ _ H'=>OwnX H' p (.c Xn 0 6) (uQ p m) dp∨((uQ p m).en≠0∧EndX0 H' p (uQ p m) dp)) noE:=by
 have hmt:m=m.top fs f:=by cases m;simp only [Mch.top] at hm ⊢;rw [hm]
 have hol:=ur (p:=p) (b:=f.blk) hP.sh
 have hpc:=hM.top.pc
 have hsl:=hM.top.sl
 have hdp:=hM.deep
 have hmd:=hM.made
 have hp:=hM.top.blk
 obtain⟨k,hk⟩:∃ k,p[f.blk]?=some k:=⟨_,gE hp⟩
 have hcd:(qf p p.length)[f.blk]?=some (qk p f.blk):=by simp [qf,hp]
 obtain⟨hcdl,hcdE⟩:=gS hcd
 have hco:(qk p f.blk).ops=jx p f.blk:=by simp [qk,hk]
 have hw1:IntKind.i64.wrap (fs.length:Int)=fs.length:=wrp (by omega) (by omega)
 have hl1:(fs.length:Int)<(fs.length:Int)+1:=by omega
 have hl0:(0:Int)≤(fs.length:Int):=by omega
 have hfl:fs.length≤1000:=by omega
 have hgsl:∀ g∈fs,g.stack.length≤1000:=fun g hg=>by
  have h1:=(hM.low g hg).sl
  have h2:=(hM.low g hg).pc
  have h3:=ur (p:=p) (b:=g.blk) hP.sh
  omega
 have hn8:=hM.top.nm.1
 have hg8:=hM.glob.1
 refine FnE.of_sem Tryz.func69 rfl (by kernel_rfl) (rs:=[]) rfl Tryz.ntmps69 (lB rfl) (fun _=>qu rfl) fun C w g root hroot=>?_
 cases ho:(jx p f.blk)[f.pc]? with
 | none =>
  refine qM4 (.c Xn 0 6) (.u 2 0 0) (.inl rfl) (.inr (by simp [ue,h2])) ?_
  refine vH (fun s=>s.tm 0=.pt Xn 0∧OwnX s.hp p (.u 2 0 0) m dp) ⟨by simp,hO.mvF (.inl ⟨rfl,rfl⟩)⟩ ?_
  rintro s ⟨t0,hO⟩
  obtain⟨L,j,hL,hat,hlt,hF,hf,hn,hsk⟩:=hO.topF hm
  obtain⟨_,hatE⟩:=gS hat
  have hT:=hO.top
  simp only [jQ,hm,List.length_append,List.length_singleton] at hT
  have hpe:f.pc=(jx p f.blk).length:=by have:=List.getElem?_eq_none_iff.1 ho;omega
  have hres:uQ p m=qG5 p m fs f:=Hm.step_end hm ho
  rw [hres]
  have hnk:=hM.nk
  have fx:=aI t0<|aI hT<|aI hF<|aI hat<|aI hatE<|aI hlt<|aI hw1<|aI hl1<|aI hl0<|aI hcd<|aI hcdl<|aI hcdE<|aI hco<|hpe
  refine qB ?_
  repeat ((first|refine wSc (id:=0) qAs qA ?_|refine wSc (id:=1) qAr qA ?_|refine wSc (id:=3) qAq qA ?_|refine wSc (id:=11) qAp qA ?_);refine qD ?_;refine qB ?_)
  clear fx
  intro K hK
  have fx:=aI t0 hT
  refine j6 (.u 2 0 0) (.c Xn 0 6) (.inr (by simp [ue,h2])) (.inl rfl) ?_
  refine jo (by simp [hT]) (by simp [hF]) (hF:=qH8 _ _ p m fs f dp hp hm hfl hgsl hn8 (by omega) (have h:=hO;OwnX.re h)) (h:=?_)
  rintro y H1 hO1
  clear fx
  have hT1:=hO1.top
  simp only [jQ] at hT1
  have fx:=aI t0<|aI hT<|hT1
  refine qB ?_
  repeat ((first|refine wSc (id:=0) qAs qA ?_|refine wSc (id:=1) qAr qA ?_|refine wSc (id:=3) qAq qA ?_|refine wSc (id:=11) qAp qA ?_);refine qD ?_;refine qB ?_)
  clear fx
  refine qH [] .nil (by simp;rfl) (.inl (OwnX.fin1 ((OwnX.mvF (have h:=hO1;OwnX.re h) (.inr ⟨rfl,rfl⟩)))))
 | some o =>
  obtain⟨hol2,hoE⟩:=gS ho
  have hOr:=qIS hP.sh hk o (gM ho)
  have hcode:=hOr.code
  have harg:=hOr.arg
  have hres:uQ p m=vQ p m fs f.next o:=Hm.step_ord hm ho
  have hok:=hM.top.ok
  rw [kC ho,Nat.add_zero] at hok
  rw [hres]
  have hol3:(f.pc:Int)<((jx p f.blk).length:Int):=by omega
  have hneb:¬ f.pc=(jx p f.blk).length:=by omega
  have hneb2:((f.pc:Int)==((jx p f.blk).length:Int))=false:=by rw [beq_eq_false_iff_ne];omega
  have hwp:IntKind.i64.wrap ((f.pc:Int)+1)=(f.pc:Int)+1:=wrp (by omega) (by omega)
  by_cases c0:o.1=0
  ·obtain⟨L,j,hL,hat,hlt,hF,hf,hn,hsk⟩:=hO.topF hm
   obtain⟨_,hatE⟩:=gS hat
   have hT:=hO.top
   simp only [jQ,hm,List.length_append,List.length_singleton] at hT
   have hftk:=qGW (p:=p) (n:=.c Xn 0 6) hat ho c0
   have htl:vI ((jx p f.blk).take f.pc)≤60:=by
    have h1:=qHs (l:=(jx p f.blk).take f.pc)
    simp at h1
    omega
   have hord:vQ p m fs f.next o=un p m fs f.next:=by simp [vQ,c0]
   rw [hord]
   obtain⟨c,a⟩:=o
   simp only at c0
   subst c0
   have hlf:vV p f+1=((vI ((jx p f.blk).take f.pc):Nat):Int):=by simp [vV]
   have hlw:IntKind.i64.wrap (vV p f+1)=vV p f+1:=wrp (by omega) (by omega)
   by_cases hl:m.left=0
   ·have ht:un p m fs f.next=m.stop fs f.next 1:=by simp only [un,hl,if_true]
    rw [ht]
    have fx:=aI hT<|aI hF<|aI hat<|aI hatE<|aI hlt<|aI hw1<|aI hl1<|aI hl0<|aI hcd<|aI hcdl<|aI hcdE<|aI hco<|aI ho<|aI hoE<|aI hol2<|aI hol3<|aI hneb<|aI hneb2<|aI hwp<|hl
    refine qB ?_
    repeat ((first|refine wSc (id:=0) qAs qA ?_|refine wSc (id:=1) qAr qA ?_|refine wSc (id:=3) qAq qA ?_|refine wSc (id:=11) qAp qA ?_);refine qD ?_;refine qB ?_)
    clear fx
    refine qH [] .nil (by simp;rfl) (.inr ⟨by simp,EndX0.fin (EndX0.mk ⟨_,_,_,_,_,by simp [hl];exact⟨rfl,rfl,rfl,rfl,rfl⟩⟩ (by simp [hO.cells]) (by simp [hO.glob]) (by simp [hO.out]) (by simp [hO.trc])) (fun _=>qu rfl) (fun _ h=>h)⟩)
   ·obtain⟨l,hll⟩:∃ l,m.left=l+1:=⟨m.left - 1,by omega⟩
    have ht:un p m fs f.next={ m.top fs f.next with left:=l,trace:=m.trace++[(f.blk,vI ((jx p f.blk).take f.pc))] }:=by
     simp only [un,hl,if_false,hll]
     rfl
    rw [ht]
    have hTr:=hO.trc
    have htr2:=hM.tr
    have htl':m.trace.length≤1000:=by omega
    have hlb:((l:Int)+1==0)=false:=by rw [beq_eq_false_iff_ne];omega
    have hwl:IntKind.i64.wrap (l:Int)=l:=wrp (by omega) (by omega)
    have hap:yI m.trace++[[iv f.blk,iv (vV p f+1)]]=yI (m.trace++[(f.blk,vI ((jx p f.blk).take f.pc))]):=by rw [hlf];exact qD7
    have hR2:(q8 (qq p (.c Xn 0 6) L) fs.length 1 [iv ((f.pc:Int)+1)])[fs.length]?=some [iv f.blk,iv ((f.pc:Int)+1),iv (vV p f),.hs (.c (.c Xn 0 6) fs.length 3) 3 0 f.fasts.length,isl (zm f.cells),.hs (.c (.c Xn 0 6) fs.length 5) 3 0 8,.hs (.c (.c Xn 0 6) fs.length 6) 2 0 f.stack.length]:=by simp [q8,hat,zg]
    have hR3:(q8 (q8 (qq p (.c Xn 0 6) L) fs.length 1 [iv ((f.pc:Int)+1)]) fs.length 2 [iv (vV p f+1)])[fs.length]?=some [iv f.blk,iv ((f.pc:Int)+1),iv (vV p f+1),.hs (.c (.c Xn 0 6) fs.length 3) 3 0 f.fasts.length,isl (zm f.cells),.hs (.c (.c Xn 0 6) fs.length 5) 3 0 8,.hs (.c (.c Xn 0 6) fs.length 6) 2 0 f.stack.length]:=by simp [q8,hat,zg]
    obtain⟨_,hR2E⟩:=gS hR2
    obtain⟨_,hR3E⟩:=gS hR3
    have fx:=aI hT<|aI hF<|aI hat<|aI hatE<|aI hlt<|aI hR2<|aI hR3<|aI hR2E<|aI hR3E<|aI hw1<|aI hl1<|aI hl0<|aI hcd<|aI hcdl<|aI hcdE<|aI hco<|aI ho<|aI hoE<|aI hol2<|aI hol3<|aI hneb<|aI hneb2<|aI hwp<|aI hll<|aI hlb<|aI hwl<|aI hTr<|aI htl'<|hlw
    refine qB ?_
    repeat ((first|refine wSc (id:=0) qAs qA ?_|refine wSc (id:=1) qAr qA ?_|refine wSc (id:=3) qAq qA ?_|refine wSc (id:=11) qAp qA ?_);refine qD ?_;refine qB ?_)
    clear fx
    refine zp [] .nil (by simp;rfl) (.inl (OwnX.fin1 (have h:=hO;OwnX.reT h hm hL rfl (by simp [wA,hftk]) (by simp [hf,Frm.next]) (by simp [hn,Frm.next]) ⟨j,by simp [hsk,Frm.next]⟩ (h0:=by simp [jQ]) (h7:=by simp [← hap]))))
  ·refine qM4 (.c Xn 0 6) (.u 2 0 0) (.inl rfl) (.inr (by simp [ue,h2])) ?_
   refine vH (fun s=>s.tm 0=.pt Xn 0∧OwnX s.hp p (.u 2 0 0) m dp) ⟨by simp,hO.mvF (.inl ⟨rfl,rfl⟩)⟩ ?_
   rintro s ⟨t0,hO⟩
   obtain⟨L,j,hL,hat,hlt,hF,hf,hn,hsk⟩:=hO.topF hm
   obtain⟨_,hatE⟩:=gS hat
   have hT:=hO.top
   simp only [jQ,hm,List.length_append,List.length_singleton] at hT
   have hfn:=qGX (p:=p) (n:=.u 2 0 0) hat ho c0
   have hsO:=fun h13=>SlOk.of hM hOr h13
   have hnam:=hOr.name
   obtain⟨c,a⟩:=o
   obtain⟨x,rfl⟩:∃ x:Nat,a=x:=⟨a.toNat,by simp only at harg;omega⟩
   simp only at hcode c0 hsO hnam
   have fx:=aI t0<|aI hT<|aI hF<|aI hat<|aI hatE<|aI hlt<|aI hw1<|aI hl1<|aI hl0<|aI hcd<|aI hcdl<|aI hcdE<|aI hco<|aI ho<|aI hoE<|aI hol2<|aI hol3<|aI hneb<|aI hneb2<|hwp
   refine qB ?_
   repeat ((first|refine wSc (id:=0) qAs qA ?_|refine wSc (id:=1) qAr qA ?_|refine wSc (id:=3) qAq qA ?_|refine wSc (id:=11) qAp qA ?_);refine qD ?_;refine qB ?_)
   clear fx
   refine vH (fun s=>s.tm 0=.pt Xn 0∧s.tm 2=.ep (.u 2 0 0) 7 fs.length 0∧s.tm 3=.pt (.s 3) 0∧s.hp (.s 3)=some (.row 2 [[iv c,iv x]])∧s.tm 64=bv (c==0)∧OwnX s.hp p (.u 2 0 0) (m.top fs f.next) dp) ⟨by simp [t0],by simp,by simp,by simp,by simp,(have h:=hO;OwnX.reT h hm hL rfl (by simp [wA,hfn]) (by simp [hf,Frm.next]) (by simp [hn,Frm.next]) ⟨j,by simp [hsk,Frm.next]⟩ (h0:=by simp [hT,jQ]))⟩ ?_
   clear t0 hT hF hf hn hsk hlt hat hatE hL hO hfn
   rintro s ⟨t0,t2,t3,p3,t64,hO⟩
   have hT:=hO.top
   obtain⟨L,j,hL,hat,hlt,hF,hf,hn,hsk⟩:=hO.topF rfl
   simp only [jQ,Mch.top] at hT
   have cb0:(c==0)=false:=by simpa using c0
   have mv1:(Nm.u 2 0 0).isU=false∨(ue Tryz.prog C w g H 135 gl).ext (.u 2 0 0)=false:=.inr (by simp [ue,h2])
   have hnsl:f.next.stack.length≤1000:=by simp only [Frm.next];omega
   simp only [zJ] at hok
   by_cases c13:2≤c∧c≤13
   ·have hord:vQ p m fs f.next (c,(x:Int))=if (c - 2) % 3=0 then yj p m fs f.next (c,(x:Int)) else if (c - 2) % 3=1 then qF4 m fs f.next (c,(x:Int)) else qIh p m fs f.next (c,(x:Int)):=by
     simp only [vQ]
     rw [if_neg c0,if_pos c13]
    have hst1:(c - 2) % 3=1→1≤f.next.stack.length:=by
     intro h1
     have hc:c=3∨c=6∨c=9∨c=12:=by omega
     rcases hc with rfl|rfl|rfl|rfl <;> simp at hok <;> exact hok.1
    rw [hord]
    obtain⟨c13a,c13b⟩:=c13
    have fx:=aI t0<|aI t2<|aI t3<|aI p3<|aI t64<|aI cb0<|aI c13a<|c13b
    have c1:=zn gl c 2 13
    refine qB ?_
    repeat ((first|refine wSc (id:=0) qAs qA ?_|refine wSc (id:=1) qAr qA ?_|refine wSc (id:=3) qAq qA ?_|refine wSc (id:=11) qAp qA ?_);refine qD ?_;refine qB ?_)
    clear fx c1
    intro K hK
    have fx:=aI t0 (aI t2 (aI t3 p3))
    refine qC3 (.u 2 0 0) (.c Xn 0 6) mv1 (.inl rfl) ?_
    refine jo (by simp [hT]) (by simp [hF]) (hF:=qGw _ _ p m fs f.next (c,(x:Int)) dp hp ⟨c13a,c13b⟩ ⟨(hsO ⟨c13a,c13b⟩).arg,(hsO ⟨c13a,c13b⟩).lt,(hsO ⟨c13a,c13b⟩).cell⟩ (fun h=>hnam h c13b) hg8 hn8 hst1 hnsl (have h:=hO;OwnX.re h) (by simp)) (h:=?_)
    rintro y H1 ⟨fr,hfr,hO1⟩
    clear fx
    refine .inr ?_
    have hT1:=hO1.top
    simp only [jQ] at hT1
    have fx:=aI t0<|aI hT<|hT1
    refine qB ?_
    repeat ((first|refine wSc (id:=0) qAs qA ?_|refine wSc (id:=1) qAr qA ?_|refine wSc (id:=3) qAq qA ?_|refine wSc (id:=11) qAp qA ?_);refine qD ?_;refine qB ?_)
    clear fx
    refine zp [] .nil (by simp;rfl) (qMb.done (OwnX.fin1 ((OwnX.mvF (have h:=hO1;OwnX.re h) (.inr ⟨rfl,rfl⟩)))) hfr)
   have c13b:(decide (2≤c)&&decide (c≤13))=false:=by
    rw [Bool.and_eq_false_iff,decide_eq_false_iff_not,decide_eq_false_iff_not]
    omega
   have hir:=zn gl c 2 13
   rw [c13b] at hir
   have hord:vQ p m fs f.next (c,(x:Int))=zS p m fs f.next (c,(x:Int)):=by
    simp only [vQ]
    rw [if_neg c0,if_neg c13]
   rw [hord]
   by_cases c17:c=17
   ·subst c17
    have hord:zS p m fs f.next (17,(x:Int))=qA9 p m fs f.next (17,(x:Int)):=by simp [zS]
    rw [hord]
    simp at hok
    have hx1:=hOr.call rfl
    simp only at hx1
    have fx:=aI t0<|aI t2<|aI t3<|aI p3<|aI t64<|cb0
    have c1:=hir
    refine qB ?_
    repeat ((first|refine wSc (id:=0) qAs qA ?_|refine wSc (id:=1) qAr qA ?_|refine wSc (id:=3) qAq qA ?_|refine wSc (id:=11) qAp qA ?_);refine qD ?_;refine qB ?_)
    clear fx c1
    intro K hK
    have fx:=aI t0 (aI t2 (aI t3 p3))
    refine qC3 (.u 2 0 0) (.c Xn 0 6) mv1 (.inl rfl) ?_
    refine jo (by simp [hT]) (by simp [hF]) (hF:=qGx _ _ p m fs f.next x dp f.pc hP hM (by omega) hok.1 hnsl hfl (have h:=hO;OwnX.re h)) (h:=?_)
    rintro y H1 ⟨q,hq,hO1⟩
    clear fx
    have hT1:=hO1.top
    simp only [jQ] at hT1
    rcases hq with rfl|rfl
    ·refine .inr ?_
     have fx:=aI t0<|aI hT<|hT1
     refine qB ?_
     repeat ((first|refine wSc (id:=0) qAs qA ?_|refine wSc (id:=1) qAr qA ?_|refine wSc (id:=3) qAq qA ?_|refine wSc (id:=11) qAp qA ?_);refine qD ?_;refine qB ?_)
     clear fx
     refine zp [] .nil (by simp;rfl) (.inl (OwnX.fin1 ((OwnX.mvF (have h:=hO1;OwnX.re h) (.inr ⟨rfl,rfl⟩)))))
    ·refine .inl ?_
     have fx:=aI t0<|aI hT<|hT1
     refine qB ?_
     repeat ((first|refine wSc (id:=0) qAs qA ?_|refine wSc (id:=1) qAr qA ?_|refine wSc (id:=3) qAq qA ?_|refine wSc (id:=11) qAp qA ?_);refine qD ?_;refine qB ?_)
     clear fx
     refine zp [] .nil (by simp;rfl) (.inl (OwnX.fin1 (have h:=hO1;OwnX.re h)))
   by_cases c20:c=20
   ·subst c20
    have hord:zS p m fs f.next (20,(x:Int))=zf m fs f.next.tos:=by simp [zS]
    rw [hord]
    simp at hok
    obtain⟨k1,hk1⟩:∃ k1,f.next.stack.length=k1+1:=⟨f.next.stack.length - 1,by have:f.next.stack.length=f.stack.length:=rfl;omega⟩
    have fx:=aI t0<|aI t2<|aI t3<|aI p3<|aI t64<|cb0
    have c1:=hir
    refine qB ?_
    repeat ((first|refine wSc (id:=0) qAs qA ?_|refine wSc (id:=1) qAr qA ?_|refine wSc (id:=3) qAq qA ?_|refine wSc (id:=11) qAp qA ?_);refine qD ?_;refine qB ?_)
    clear fx c1
    intro K hK
    refine yg (fun s=>s.tm 131=.pt Xn 0∧s.tm 132=.ep (.u 2 0 0) 7 fs.length 0∧OwnX s.hp p (.u 2 0 0) (m.top fs f.next) dp) ⟨by simp,by simp,(have h:=hO;OwnX.re h)⟩ ?_
    clear t0 t2 t3 p3 t64 hT hF hf hn hsk hlt hat hL hO
    rintro s ⟨t131,t132,hO⟩
    have hT:=hO.top
    obtain⟨js0,hF⟩:=hO.fr.top
    simp only [jQ] at hT
    obtain⟨rows,a0,a1,a2,a3,a4,a5,vs,e1,e2,e3,e4,e5⟩:=hO.take hk1
    have fx:=aI t131 (aI t132 hT)
    refine jo (by simp [hT]) (by simp [hF]) (hF:=ka gl D12 (fun _=>z7) _ rows fs.length k1 a0 a1 a2 a3 a4 a5 vs f.next.tos e2 e3 e4 e5 (by omega)) (h:=?_)
    intro y H1 hw
    clear fx
    have hO1:=hO.taken e1 hk1 hw
    obtain⟨rfl,-⟩:=hw
    have hT1:=hO1.top
    obtain⟨js1,hF1⟩:=hO1.fr.top
    simp only [jQ] at hT1
    have hlv:∀ v,zf (m.top fs f.next.pop) fs v=zf m fs v:=fun v=>by
     unfold zf
     split <;> rfl
    have fx:=aI t131<|aI hT<|hT1
    refine qB ?_
    repeat ((first|refine wSc (id:=0) qAs qA ?_|refine wSc (id:=1) qAr qA ?_|refine wSc (id:=3) qAq qA ?_|refine wSc (id:=11) qAp qA ?_);refine qD ?_;refine qB ?_)
    clear fx
    have fx:=aI t131 (aI hT hT1)
    refine j6 (.u 2 0 0) (.c Xn 0 6) mv1 (.inl rfl) ?_
    refine jo (by simp [hT1]) (by simp [hF1]) (hF:=qEh _ _ p (m.top fs f.next.pop) fs f.next.pop f.next.tos dp rfl hfl hgsl (have h:=hO1;OwnX.re h)) (h:=?_)
    rintro y H2 hO2
    clear fx
    rw [hlv] at hO2
    have hT2:=hO2.top
    simp only [jQ] at hT2
    have fx:=aI t131<|aI hT<|aI hT1<|hT2
    refine qB ?_
    repeat ((first|refine wSc (id:=0) qAs qA ?_|refine wSc (id:=1) qAr qA ?_|refine wSc (id:=3) qAq qA ?_|refine wSc (id:=11) qAp qA ?_);refine qD ?_;refine qB ?_)
    clear fx
    refine zp [] .nil (by simp;rfl) (.inl (OwnX.fin1 ((OwnX.mvF (have h:=hO2;OwnX.re h) (.inr ⟨rfl,rfl⟩)))))
   have hcs:c=1∨c=14∨c=15∨c=16∨c=18∨c=19:=by omega
   have cb17:(c==17)=false:=by simpa using c17
   have cb20:(c==20)=false:=by simpa using c20
   have hval:∀ H:Nm→Option AO,OwnX H p (.u 2 0 0) (m.top fs f.next) dp→H (.u 9 0 0)=none→FnE Tryz.prog gl 103 D12 [.pt Xn 0,.ep (.u 2 0 0) 7 fs.length 0,.agg [iv c,iv x]] H (fun _ _ H'=>∃ q,(q=.u 2 0 0∨q=.c Xn 0 6)∧qMb H' p q (zS p m fs f.next (c,(x:Int))) dp) noE:=by
    intro H hO h9
    have h14:c=14→2≤f.next.stack.length:=by rintro rfl;simp at hok;exact hok.1
    have h18:c=18∨c=19→1≤f.next.stack.length:=by rintro (rfl|rfl) <;> simp at hok <;> exact hok.1
    rcases hcs with h|h|h|h|h|h
    ·exact uo gl H p m fs f.next (c,(x:Int)) dp f.pc hP hM hOr (.inl h) h14 h18 hnsl hfl hO h9
    ·exact uo gl H p m fs f.next (c,(x:Int)) dp f.pc hP hM hOr (.inr (.inl h)) h14 h18 hnsl hfl hO h9
    ·exact uo gl H p m fs f.next (c,(x:Int)) dp f.pc hP hM hOr (.inr (.inr h)) h14 h18 hnsl hfl hO h9
    ·exact qEA gl H p m fs f.next (c,(x:Int)) dp f.pc hP hM hOr h h14 h18 hnsl hfl hO h9
    ·exact qAJ gl H p m fs f.next (c,(x:Int)) dp f.pc hP hM hOr (.inl h) h14 h18 hnsl hfl hO h9
    ·exact qAJ gl H p m fs f.next (c,(x:Int)) dp f.pc hP hM hOr (.inr h) h14 h18 hnsl hfl hO h9
   have fx:=aI t0<|aI t2<|aI t3<|aI p3<|aI t64<|aI cb0<|aI cb17<|cb20
   have c1:=hir
   refine qB ?_
   repeat ((first|refine wSc (id:=3) qQv qA ?_|refine wSc (id:=9) qQu qA ?_|refine wSc (id:=11) qQt qA ?_|refine wSc (id:=12) qQs qA ?_|refine wSc (id:=14) qQr qA ?_|refine wSc (id:=19) qQq qA ?_|refine wSc (id:=21) qKr qA ?_|refine wSc (id:=23) qKq qA ?_);refine qD ?_;refine qB ?_)
   clear fx c1
   intro K hK
   have fx:=aI t0 (aI t2 (aI t3 p3))
   refine qC3 (.u 2 0 0) (.c Xn 0 6) mv1 (.inl rfl) ?_
   refine jo (by simp [hT]) (by simp [hF]) (hF:=hval _ (have h:=hO;OwnX.re h) (by simp)) (h:=?_)
   rintro y H1 ⟨q,hq,fr,hfr,hO1⟩
   clear fx
   have hT1:=hO1.top
   simp only [jQ] at hT1
   rcases hq with rfl|rfl
   ·refine .inr ?_
    have fx:=aI t0<|aI hT<|hT1
    refine qB ?_
    repeat ((first|refine wSc (id:=3) qQv qA ?_|refine wSc (id:=9) qQu qA ?_|refine wSc (id:=11) qQt qA ?_|refine wSc (id:=12) qQs qA ?_|refine wSc (id:=14) qQr qA ?_|refine wSc (id:=19) qQq qA ?_|refine wSc (id:=21) qKr qA ?_|refine wSc (id:=23) qKq qA ?_);refine qD ?_;refine qB ?_)
    clear fx
    refine zp [] .nil (by simp;rfl) (qMb.done (OwnX.fin1 ((OwnX.mvF (have h:=hO1;OwnX.re h) (.inr ⟨rfl,rfl⟩)))) hfr)
   ·refine .inl ?_
    have fx:=aI t0<|aI hT<|hT1
    refine qB ?_
    repeat ((first|refine wSc (id:=3) qQv qA ?_|refine wSc (id:=9) qQu qA ?_|refine wSc (id:=11) qQt qA ?_|refine wSc (id:=12) qQs qA ?_|refine wSc (id:=14) qQr qA ?_|refine wSc (id:=19) qQq qA ?_|refine wSc (id:=21) qKr qA ?_|refine wSc (id:=23) qKq qA ?_);refine qD ?_;refine qB ?_)
    clear fx
    refine zp [] .nil (by simp;rfl) (qMb.done (OwnX.fin1 (have h:=hO1;OwnX.re h)) hfr)
theorem qFW (gl) (p:Prg) (b:Nat) (k:Blk) (s:Stm) (hk:p[b]?=some k) (hs:Sml p) (hb:b<p.length):qW Tryz.prog gl 127 [pav p,iv b,Stm.av s] (fun _ y _=>y=bv (zt p b k s)):=by
 refine qW.of_sem Tryz.func127 rfl (by kernel_rfl) (rs:=[.tmp 6]) rfl Tryz.ntmps127 (lB rfl) fun C w g root=>?_
 obtain⟨kind,to,a,c⟩:=s
 all_goals have fx:= hk
 repeat' (first
  | refine qN ?_|refine qJ ?_|refine qR ?_|refine qM fun K hK=>?_
  | ((with_reducible refine qK hK ?_);clear hK K)
  | (with_reducible first|refine qC ?_|refine qI ?_)
  | refine qX ?_
  | (with_reducible refine qG ?_)
  | (with_reducible first|refine qE (h:=?_)|refine zG (h:=?_))
  | ((with_reducible refine qv 163 rfl ?_);refine zk (hF:=qAn _ ⟨kind,to,a,c⟩) (h:=?_))
  | ((with_reducible refine qv 162 rfl ?_);refine qL (hF:=yz _ _) (h:=?_))
  | (with_reducible refine x_q (h:=?_))
  | refine uk (h1:=fun ht=>?_) (h2:=fun ht=>?_)
  | fail)
 all_goals try clear fx
 ·have hto:qMa to=false:=by
   rw [Bool.eq_false_iff]
   intro h
   simp at h ht
   omega
  refine qH [] .nil (by simp;rfl) ?_
  simp only [zt,hto]
  rfl
 have hto:qMa to=true:=by simpa using ht
 generalize hr:Stm.reads ⟨kind,to,a,c⟩=rs
 have hrl:rs.length≤2:=hr ▸ Stm.reads_len _
 refine q7 (fun n st=>∃ i:Nat,n=rs.length - i∧i≤rs.length∧st.tm 1=iv b∧st.tm 3=.pt (.s 3) 0∧st.hp (.s 3)=some (.row 1 [[ksl p]])∧st.tm 5=.pt (.s 5) 0∧st.hp (.s 5)=some (.row 4 [[iv kind,iv to,iv a,iv c]])∧st.tm 8=iv i∧st.tm 7=.hs (.s 7) 1 0 rs.length∧st.hp (.s 7)=some (.row 1 (qY rs))∧(rs.take i).all qMa=true) rs.length ?_ ?_
 ·exact⟨0,by simp [hr]⟩
 rintro n st - - ⟨i,rfl,hi,h1,h3,hp3,h5,hp5,h8,h7,hp7,hal⟩
 all_goals have fx:=aI h1<|aI h3<|aI hp3<|aI h5<|aI hp5<|aI h8<|aI h7<|hp7
 repeat' (first
  | refine qN ?_|refine qM fun K hK=>?_
  | ((with_reducible refine qK hK ?_);clear hK K)
  | (with_reducible first|refine qC ?_)
  | (with_reducible refine qG ?_)
  | (with_reducible refine x_q (h:=?_))
  | fail)
 all_goals try clear fx
 refine vk (by simp [];first|done|rfl|exact (Bool.not_not _).symm) (fun ht=>?_) (fun hf=>?_)
 ·have hlt:i<rs.length:=by simpa using ht
  obtain⟨y,hy⟩:∃ y,rs[i]?=some y:=⟨_,gE hlt⟩
  obtain⟨_,hy'⟩:=gS hy
  all_goals have fx:=aI h1<|aI h3<|aI hp3<|aI h5<|aI hp5<|aI h8<|aI h7<|aI hp7<|aI hy'<|hlt
  repeat' (first
   | refine qN ?_|refine qJ ?_|refine qR ?_|refine qM fun K hK=>?_
   | ((with_reducible refine qK hK ?_);clear hK K)
   | (with_reducible first|refine qC ?_|refine qI ?_|refine qc ?_)
   | refine qX ?_
   | (with_reducible refine qG ?_)
   | (with_reducible first|refine qE (h:=?_))
   | ((with_reducible refine qv 162 rfl ?_);refine qL (hF:=yz _ _) (h:=?_))
   | (with_reducible refine x_q (h:=?_))
   | refine uk (h1:=fun ht=>?_) (h2:=fun ht=>?_)
   | fail)
  all_goals try clear fx
  ·have hno:qMa y=false:=by
    rw [Bool.eq_false_iff]
    intro h
    simp at h ht
    omega
   refine qH [] .nil (by simp;rfl) ?_
   have hall:rs.all qMa=false:=by
    rw [Bool.eq_false_iff]
    intro h
    have:=List.all_eq_true.1 h y (gM hy)
    rw [hno] at this
    cases this
   simp only [zt,hr,hall]
   simp
  ·have hyes:qMa y=true:=by simpa using ht
   refine⟨rs.length - (i+1),by omega,i+1,rfl,by omega,by simp [h1],by simp [h3],by simp [hp3],by simp [h5],by simp [hp5],by simp;exact wrp (by omega) (by omega),by simp [h7],by simp [hp7],?_⟩
   rw [List.take_add_one,hy,List.all_append,hal]
   simp only [Option.toList_some,List.all_cons,List.all_nil,hyes]
   rfl
 ·have hge:i=rs.length:=by
   have:¬ i<rs.length:=by simpa using hf
   omega
  subst hge
  rw [List.take_length] at hal
  have hok:zt p b k ⟨kind,to,a,c⟩=(if kind=0 then decide (0≤a)&&decide (a≤99)&&c==0 else if kind=1 then c==0 else if kind=2∨kind=5 then true
   else if kind=3 then c==0&&vM p b a 1 else if kind=4 then c==0&&vM p b a 2 else if kind=6 then qMa c
   else if kind=7 then to==0&&c==0 else if kind=8 then to==0&&c==0&&k.kind==1
   else if kind=9∨kind=10 then a==0&&c==0&&k.kind != 0 else if kind=11 then a==0&&c==0 else false):=by
   simp only [zt,hr,hal,hto,Bool.true_and]
  rw [hok]
  clear hok
  all_goals have fx:=aI h1<|aI h3<|aI hp3<|aI h5<|aI hp5<|hk
  repeat' (first
   | refine qN ?_|refine qJ ?_|refine qR ?_|refine qM fun K hK=>?_
   | ((with_reducible refine qK hK ?_);clear hK K)
   | (with_reducible first|refine qC ?_|refine qI ?_|refine qc ?_)
   | refine qn ?_
   | refine qX ?_
   | (with_reducible refine qG ?_)
   | ((with_reducible refine yV ?_);refine q6 (h:=?_))
   | (with_reducible first|refine ze ?_|refine vG (h:=?_)|refine qE (h:=?_))
   | ((with_reducible refine qv 162 rfl ?_);refine qL (hF:=yz _ _) (h:=?_))
   | ((with_reducible refine qv 64 rfl ?_);refine qL (hF:=zn _ _ _ _) (h:=?_))
   | ((with_reducible refine qv 164 rfl ?_);refine qL (hF:=qL2 _ p b _ _ hs hb) (h:=?_))
   | (with_reducible refine x_q (h:=?_))
   | (with_reducible refine vC (fun ht=>?_) (fun ht=>?_))
   | refine qO (h1:=?_)
   | refine uk (h1:=fun ht=>?_) (h2:=fun ht=>?_)
   | fail)
  all_goals try clear fx
  all_goals refine qH [] .nil (by simp;rfl) ?_
  all_goals simp_all
  all_goals (intros;omega)
end Go.Proofs.YtbgmnmnoaamgkaaGreatDoor
end
section
namespace Go.Proofs.YtbgmnmnoaamgkaaGreatDoor
open Go Go.Hm Go.Proofs
theorem qL1 (gl) (p:Prg) (b:Nat) (k:Blk) (hk:p[b]?=some k) (h0:0<b) (hh:zj p) (hs:Sml p):qW Tryz.prog gl 128 [pav p,iv b] (fun _ y _=>y=iv (vY p b)):=by
 refine qW.of_sem Tryz.func128 rfl (by kernel_rfl) (rs:=[.tmp 4]) rfl Tryz.ntmps128 (lB rfl) fun C w g root=>?_
 obtain⟨hp1,hp2,hp3⟩:=hh b k hk
 have hbl:b<p.length:=(gS hk).1
 have hkp:=hp3 h0
 obtain⟨q,hq⟩:∃ q,p[k.parent.toNat]?=some q:=⟨_,gE (by omega)⟩
 have hmi:vY p b=((q.body.filter (fun s=>qAx s b)).length:Int):=by simp only [vY,hk,hq]
 rw [hmi]
 have hql:=(hs.bsm hq).body
 all_goals have fx:=aI hk<|aI hq<|hkp
 repeat' (first
  | refine qN ?_|refine qJ ?_|refine qM fun K hK=>?_
  | ((with_reducible refine qK hK ?_);clear hK K)
  | (with_reducible first|refine wL ?_)
  | (with_reducible refine qG ?_)
  | (with_reducible first|refine qE (h:=?_)|refine zG (h:=?_))
  | (refine wSc (id:=2) (.q 0<|.q 1<|.q 2<|.q 3<|.q 4<|.q 5<|.q 6<|.q 7<|.q 8<|.q 9<|.q 10<|.l 11 []<|.done) qA fun K hK=>?_)
  | ((with_reducible refine uF hK ?_);clear hK K)
  | ((with_reducible refine qAf ?_);first|refine qFT (h:=?_))
  | refine a_l rfl ?_|(with_reducible refine aI ?_ ?_)|exact vW
  | fail)
 all_goals try clear fx
 refine q7 (fun n st=>∃ i:Nat,n=q.body.length - i∧i≤q.body.length∧st.tm 1=iv b∧st.tm 6=ssl q.body∧st.tm 7=iv i∧∃ c:Nat,c=((q.body.take i).filter (fun s=>qAx s b)).length∧c≤i∧st.tm 5=iv c) q.body.length ?_ ?_
 ·exact⟨0,by simp⟩
 rintro n st - - ⟨i,rfl,hi,h1,h6,h7,c,hc,hci,h5⟩
 all_goals have fx:=aI h1<|aI h6<|aI h7<|h5
 repeat' (first
  | refine qN ?_|refine qM fun K hK=>?_
  | ((with_reducible refine qK hK ?_);clear hK K)
  | (with_reducible first|refine qC ?_)
  | (with_reducible refine qG ?_)
  | (with_reducible refine x_q (h:=?_))
  | fail)
 all_goals try clear fx
 refine vk (by simp [];first|done|rfl|exact (Bool.not_not _).symm) (fun ht=>?_) (fun hf=>?_)
 ·have hlt:i<q.body.length:=by simpa using ht
  obtain⟨s,hs⟩:∃ s,q.body[i]?=some s:=⟨_,gE hlt⟩
  all_goals have fx:=aI h1<|aI h6<|aI h7<|aI h5<|hs
  repeat' (first
   | refine qN ?_|refine qJ ?_|refine qR ?_|refine qM fun K hK=>?_
   | ((with_reducible refine qK hK ?_);clear hK K)
   | (with_reducible first|refine qC ?_)
   | (with_reducible refine qG ?_)
   | ((with_reducible refine yV ?_);refine q6 (h:=?_))
   | (with_reducible first|refine ze ?_|refine jE ?_|refine vG (h:=?_)|refine vj (h:=?_)|refine qE (h:=?_))
   | (with_reducible refine x_q (h:=?_))
   | (with_reducible refine vC (fun ht=>?_) (fun ht=>?_))
   | refine qS (h1:=?_)
   | refine uk (h1:=fun ht=>?_) (h2:=fun ht=>?_)
   | fail)
  all_goals try clear fx
  all_goals refine⟨q.body.length - (i+1),by omega,i+1,rfl,by omega,by simp [h1],by simp [h6],by simp;exact wrp (by omega) (by omega),?_⟩
  all_goals refine⟨_,rfl,?_⟩
  all_goals simp only [zH hs,List.length_append]
  all_goals simp_all [qAx]
  all_goals first|exact wrp (by omega) (by omega)|omega
 ·have hge:i=q.body.length:=by
   have:¬ i<q.body.length:=by simpa using hf
   omega
  subst hge
  rw [List.take_length] at hc
  all_goals have fx:= h5
  repeat' (first
   | refine qN ?_|refine qM fun K hK=>?_
   | ((with_reducible refine qK hK ?_);clear hK K)
   | (with_reducible first|refine qC ?_)
   | refine qn ?_
   | refine qX ?_
   | (with_reducible refine qG ?_)
   | (with_reducible first|refine qE (h:=?_))
   | (with_reducible refine x_q (h:=?_))
   | fail)
  all_goals try clear fx
  refine qH [] .nil (by simp [];rfl) (by simp [hc])
theorem qDF (gl) (p:Prg) (b:Nat) (k:Blk) (hk:p[b]?=some k) (hb:b<p.length) (hs:Sml p):qW Tryz.prog gl 126 [pav p,iv b] (fun _ y _=>y=bv (vO b k)):=qDv gl p b k hk hb hs
theorem qDu (gl) (p:Prg) (hs:Sml p):qW Tryz.prog gl 91 [pav p] (fun _ y _=>y=bv (j2 p)):=by
 have hpl:=hs.len
 refine qW.of_sem Tryz.func91 rfl (by kernel_rfl) (rs:=[.tmp 2]) rfl Tryz.ntmps91 (lB rfl) fun C w g root=>?_
 all_goals have fx:=fx0
 repeat' (first
  | refine qN ?_|refine qJ ?_|refine qR ?_|refine qM fun K hK=>?_
  | ((with_reducible refine qK hK ?_);clear hK K)
  | (with_reducible first|refine qC ?_|refine qI ?_)
  | refine qX ?_
  | (with_reducible refine qG ?_)
  | (with_reducible first|refine qE (h:=?_)|refine zG (h:=?_))
  | ((with_reducible refine qv 64 rfl ?_);refine qL (hF:=zn _ _ _ _) (h:=?_))
  | (with_reducible refine x_q (h:=?_))
  | refine uk (h1:=fun ht=>?_) (h2:=fun ht=>?_)
  | fail)
 all_goals try clear fx
 ·refine qH [] .nil (by simp;rfl) ?_
  have hno:(decide (1≤p.length)&&decide (p.length≤7))=false:=by
   rw [Bool.eq_false_iff]
   intro h
   simp at h ht
   omega
  simp only [j2,hno]
  rfl
 have hyes:(decide (1≤p.length)&&decide (p.length≤7))=true:=by
  simp at ht ⊢
  omega
 have hsh:j2 p=((List.range p.length).all (kL p)&&(List.range p.length).all (fun i=>i==0||vY p i==1)):=by
  simp only [j2,hyes,Bool.true_and]
 rw [hsh]
 clear hsh
 refine q7 (fun n st=>∃ i:Nat,n=p.length - i∧i≤p.length∧st.tm 1=.pt (.s 1) 0∧st.hp (.s 1)=some (.row 1 [[ksl p]])∧st.tm 3=iv i∧(List.range i).all (kL p)=true) p.length ?_ ?_
 ·exact⟨0,by simp⟩
 rintro n st - - ⟨i,rfl,hi,h1,hp1,h3,hal⟩
 all_goals have fx:=aI h1<|aI hp1<|h3
 repeat' (first
  | refine qN ?_|refine qM fun K hK=>?_
  | ((with_reducible refine qK hK ?_);clear hK K)
  | (with_reducible first|refine qC ?_)
  | (with_reducible refine qG ?_)
  | (with_reducible refine x_q (h:=?_))
  | fail)
 all_goals try clear fx
 refine vk (by simp [];first|done|rfl|exact (Bool.not_not _).symm) (fun ht=>?_) (fun hf=>?_)
 ·have hlt:i<p.length:=by simpa using ht
  obtain⟨k,hk⟩:∃ k,p[i]?=some k:=⟨_,gE hlt⟩
  have hbf:kL p i=(vO i k&&decide (k.body.length≤12)&&k.body.all (zt p i k)):=by simp only [kL,hk]
  have fin:∀ R:Bool,kL p i=false→((List.range p.length).all (kL p)&&R)=false:=fun R h=>by rw [j4 hlt h];rfl
  have hbl:=(hs.bsm hk).body
  all_goals have fx:=aI h1<|aI hp1<|aI h3<|hk
  repeat' (first
   | refine qN ?_|refine qJ ?_|refine qR ?_|refine qM fun K hK=>?_
   | ((with_reducible refine qK hK ?_);clear hK K)
   | (with_reducible first|refine qC ?_|refine qI ?_|refine qc ?_)
   | refine qX ?_
   | (with_reducible refine qG ?_)
   | ((with_reducible refine yV ?_);refine q6 (h:=?_))
   | (with_reducible first|refine jE ?_|refine vj (h:=?_)|refine qE (h:=?_))
   | ((with_reducible refine qv 126 rfl ?_);refine qL (hF:=qDF _ p i k hk hlt hs) (h:=?_))
   | (with_reducible refine x_q (h:=?_))
   | (with_reducible refine vC (fun ht=>?_) (fun ht=>?_))
   | refine qO (h1:=?_)
   | refine uk (h1:=fun ht=>?_) (h2:=fun ht=>?_)
   | fail)
  all_goals try clear fx
  ·refine qH [] .nil (by simp;rfl) ?_
   rw [fin _ (by rw [hbf,show vO i k=false by simpa using ht];rfl)]
   rfl
  ·refine qH [] .nil (by simp;rfl) ?_
   rw [fin _ (by rw [hbf,show decide (k.body.length≤12)=false by simp at ht ⊢;omega];simp)]
   rfl
  rename_i ht1
  have hhd:vO i k=true:=by simpa using ht1
  have hbd:k.body.length≤12:=by simp at ht;omega
  refine q7 (fun n st=>∃ j:Nat,n=k.body.length - j∧j≤k.body.length∧st.tm 1=.pt (.s 1) 0∧st.hp (.s 1)=some (.row 1 [[ksl p]])∧st.tm 3=iv i∧st.tm 4=iv j∧(k.body.take j).all (zt p i k)=true) k.body.length ?_ ?_
  ·exact⟨0,by simp [h1,hp1,h3]⟩
  clear h1 hp1 h3 ht ht1
  rintro n st - - ⟨j,rfl,hj,h1,hp1,h3,h4,haj⟩
  all_goals have fx:=aI h1<|aI hp1<|aI h3<|aI h4<|hk
  repeat' (first
   | refine qN ?_|refine qM fun K hK=>?_
   | ((with_reducible refine qK hK ?_);clear hK K)
   | (with_reducible first|refine qC ?_)
   | (with_reducible refine qG ?_)
   | (with_reducible refine x_q (h:=?_))
   | fail)
  all_goals try clear fx
  refine vk (by simp [];first|done|rfl|exact (Bool.not_not _).symm) (fun ht=>?_) (fun hf=>?_)
  ·have hlj:j<k.body.length:=by simpa using ht
   obtain⟨s,hsj⟩:∃ s,k.body[j]?=some s:=⟨_,gE hlj⟩
   all_goals have fx:=aI h1<|aI hp1<|aI h3<|aI h4<|aI hk<|hsj
   repeat' (first
    | refine qN ?_|refine qJ ?_|refine qR ?_|refine qM fun K hK=>?_
    | ((with_reducible refine qK hK ?_);clear hK K)
    | (with_reducible first|refine qC ?_|refine qI ?_|refine qc ?_|refine wL ?_)
    | refine qX ?_
    | (with_reducible refine qG ?_)
    | (with_reducible first|refine qE (h:=?_))
    | ((with_reducible refine qv 127 rfl ?_);refine qL (hF:=qFW _ p i k s hk hs hlt) (h:=?_))
    | (with_reducible refine x_q (h:=?_))
    | (refine wSc (id:=11) (.q 0<|.q 1<|.q 2<|.q 3<|.q 4<|.q 5<|.q 6<|.q 7<|.q 8<|.q 9<|.q 10<|.l 11 [5,4,3,2]<|.q 12<|.done) qA fun K hK=>?_)
    | ((with_reducible refine uF hK ?_);clear hK K)
    | ((with_reducible refine qAf ?_);first|refine qFT (h:=?_))
    | refine a_l rfl ?_|(with_reducible refine aI ?_ ?_)|exact vW|refine w7 (h2:=?_)
    | refine uk (h1:=fun ht=>?_) (h2:=fun ht=>?_)
    | fail)
   all_goals try clear fx
   ·refine qH [] .nil (by simp;rfl) ?_
    rw [fin _ (by rw [hbf,qGi (gM hsj) (show zt p i k s=false by simpa using ht)];simp)]
    rfl
   ·refine⟨k.body.length - (j+1),by omega,j+1,rfl,by omega,by simp [h1],by simp [hp1],by simp [h3],by simp;exact wrp (by omega) (by omega),?_⟩
    rw [List.take_add_one,hsj,List.all_append,haj]
    simpa using ht
  ·have hge:j=k.body.length:=by
    have:¬ j<k.body.length:=by simpa using hf
    omega
   subst hge
   rw [List.take_length] at haj
   all_goals have fx:=aI h1<|aI hp1<|aI h3<|aI h4<|hk
   repeat' (first
    | refine qM fun K hK=>?_
    | ((with_reducible refine qK hK ?_);clear hK K)
    | (with_reducible first|refine qC ?_)
    | refine qn ?_
    | (with_reducible refine qG ?_)
    | (with_reducible first|refine qE (h:=?_))
    | (with_reducible refine x_q (h:=?_))
    | fail)
   all_goals try clear fx
   refine⟨p.length - (i+1),by omega,i+1,rfl,by omega,by simp [h1],by simp [hp1],by simp;exact wrp (by omega) (by omega),?_⟩
   rw [zy,hal,hbf,hhd,haj]
   simpa using hbd
 ·have hge:i=p.length:=by
   have:¬ i<p.length:=by simpa using hf
   omega
  subst hge
  have hh:=qI6 hal
  rw [hal,Bool.true_and]
  all_goals have fx:=aI h1<|hp1
  repeat' (first
   | refine qN ?_|refine qJ ?_|refine qM fun K hK=>?_
   | ((with_reducible refine qK hK ?_);clear hK K)
   | refine qn ?_
   | (with_reducible refine qG ?_)
   | (with_reducible first|refine qE (h:=?_))
   | fail)
  all_goals try clear fx
  refine q7 (fun n st=>∃ i:Nat,n=p.length - i∧i≤p.length∧1≤i∧st.tm 1=.pt (.s 1) 0∧st.hp (.s 1)=some (.row 1 [[ksl p]])∧st.tm 5=iv i∧(List.range i).all (fun i=>i==0||vY p i==1)=true) (p.length - 1) ?_ ?_
  ·refine⟨1,by omega,?_,by omega,by simp [h1,hp1]⟩
   simp at hyes
   omega
  clear h1 hp1 h3 hi
  rintro n st - - ⟨i,rfl,hi,hi1,h1,hp1,h5,hmi⟩
  all_goals have fx:=aI h1<|aI hp1<|h5
  repeat' (first
   | refine qN ?_|refine qM fun K hK=>?_
   | ((with_reducible refine qK hK ?_);clear hK K)
   | (with_reducible first|refine qC ?_)
   | (with_reducible refine qG ?_)
   | (with_reducible refine x_q (h:=?_))
   | fail)
  all_goals try clear fx
  refine vk (by simp [];first|done|rfl|exact (Bool.not_not _).symm) (fun ht=>?_) (fun hf=>?_)
  ·have hlt:i<p.length:=by simpa using ht
   obtain⟨k,hk⟩:∃ k,p[i]?=some k:=⟨_,gE hlt⟩
   all_goals have fx:=aI h1<|aI hp1<|aI h5<|@qr
   repeat' (first
    | refine qN ?_|refine qJ ?_|refine qR ?_|refine qM fun K hK=>?_
    | ((with_reducible refine qK hK ?_);clear hK K)
    | (with_reducible first|refine qC ?_|refine qI ?_|refine qc ?_)
    | refine qX ?_
    | (with_reducible refine qG ?_)
    | (with_reducible first|refine qE (h:=?_))
    | ((with_reducible refine qv 128 rfl ?_);refine qL (hF:=qL1 _ p i k hk hi1 hh hs) (h:=?_))
    | (with_reducible refine x_q (h:=?_))
    | refine uk (h1:=fun ht=>?_) (h2:=fun ht=>?_)
    | fail)
   all_goals try clear fx
   ·refine qH [] .nil (by simp;rfl) ?_
    rw [j4 hlt (show (i==0||vY p i==1)=false by simp at ht ⊢;exact⟨by omega,ht⟩)]
    rfl
   ·refine⟨p.length - (i+1),by omega,i+1,rfl,by omega,by omega,by simp [h1],by simp [hp1],by simp;exact wrp (by omega) (by omega),?_⟩
    rw [zy,hmi]
    simp at ht ⊢
    exact .inr ht
  ·have hge:i=p.length:=by
    have:¬ i<p.length:=by simpa using hf
    omega
   subst hge
   all_goals have fx:=fx0
   repeat' (first
    | refine qN ?_|refine qM fun K hK=>?_
    | ((with_reducible refine qK hK ?_);clear hK K)
    | (with_reducible first|refine qC ?_)
    | refine qn ?_
    | refine qX ?_
    | (with_reducible refine qG ?_)
    | (with_reducible first|refine qE (h:=?_))
    | fail)
   all_goals try clear fx
   refine qH [] .nil (by simp [];rfl) (by simp [hmi])
theorem kO (gl) (p:Prg) (hs:Sml p):qW Tryz.prog gl 63 [pav p] (fun _ y _=>y=bv (yq p)):=by
 have hpl:=hs.len
 refine qW.of_sem Tryz.func63 rfl (by kernel_rfl) (rs:=[.tmp 2]) rfl Tryz.ntmps63 (lB rfl) fun C w g root=>?_
 all_goals have fx:=fx0
 repeat' (first
  | refine qN ?_|refine qJ ?_|refine qR ?_|refine qM fun K hK=>?_
  | ((with_reducible refine qK hK ?_);clear hK K)
  | (with_reducible first|refine qC ?_|refine qP ?_|refine qd ?_|refine zD ?_|refine qI ?_|refine qc ?_|refine ql (by decide) ?_)
  | refine qn ?_
  | refine qX ?_
  | (with_reducible refine qG ?_)
  | ((with_reducible refine yV ?_);refine q6 (h:=?_))
  | (with_reducible first|refine ze ?_|refine jE ?_|refine vG (h:=?_)|refine vj (h:=?_)|refine x_u (h:=?_)|refine qE (h:=?_)|refine zG (h:=?_))
  | ((with_reducible refine qv 91 rfl ?_);refine qL (hF:=qDu _ p hs) (h:=?_))
  | (with_reducible refine x_q (h:=?_))
  | (with_reducible refine vC (fun ht=>?_) (fun ht=>?_))
  | refine qO (h1:=?_)|refine qS (h1:=?_)
  | refine uk (h1:=fun ht=>?_) (h2:=fun ht=>?_)
  | fail)
 all_goals try clear fx
 ·refine qH [] .nil (by simp;rfl) ?_
  have:j2 p=false:=by simpa using ht
  simp only [yq,this]
  rfl
 have hsh:j2 p=true:=by simpa using ht
 obtain⟨hh,hl1,hl7,_,_⟩:=qAN hsh
 have hpo:yq p=(List.range p.length).all (fun b=>b==0||jr p b):=by simp only [yq,hsh,Bool.true_and]
 rw [hpo]
 clear hpo ht
 refine q7 (fun n st=>∃ i:Nat,n=p.length - i∧i≤p.length∧1≤i∧st.tm 1=.pt (.s 1) 0∧st.hp (.s 1)=some (.row 1 [[ksl p]])∧st.tm 3=iv i∧(List.range i).all (fun b=>b==0||jr p b)=true) (p.length - 1) ?_ ?_
 ·exact⟨1,rfl,hl1,by omega,by simp⟩
 rintro n st - - ⟨i,rfl,hi,hi1,h1,hp1,h3,hal⟩
 have fx:=aI h1<|aI hp1<|h3
 refine qB ?_
 clear fx
 refine vk (by simp [];first|done|rfl|exact (Bool.not_not _).symm) (fun ht=>?_) (fun hf=>?_)
 ·have hlt:i<p.length:=by simpa using ht
  obtain⟨k,hk⟩:∃ k,p[i]?=some k:=⟨_,gE hlt⟩
  have hpar:=(hs.bsm hk).params
  have hdo:jr p i=(List.range 8).all (fun x=>yl p i k (x:Int)):=by simp only [jr,hk]
  all_goals have fx:=aI h1<|aI hp1<|aI h3<|hk
  repeat' (first
   | refine qN ?_|refine qJ ?_|refine qR ?_|refine qM fun K hK=>?_
   | ((with_reducible refine qK hK ?_);clear hK K)
   | (with_reducible first|refine qC ?_|refine qP ?_|refine qd ?_|refine zD ?_|refine qI ?_|refine qc ?_|refine ql (by decide) ?_)
   | refine qn ?_
   | refine qX ?_
   | (with_reducible refine qG ?_)
   | ((with_reducible refine yV ?_);refine q6 (h:=?_))
   | (with_reducible first|refine ze ?_|refine jE ?_|refine vG (h:=?_)|refine vj (h:=?_)|refine x_u (h:=?_)|refine qE (h:=?_)|refine zG (h:=?_))
   | ((with_reducible refine qv 92 rfl ?_);refine zk (hF:=vw _ p i k _ hk (hs.bsm hk)) (h:=?_))
   | (with_reducible refine x_q (h:=?_))
   | (with_reducible refine vC (fun ht=>?_) (fun ht=>?_))
   | refine qO (h1:=?_)|refine qS (h1:=?_)
   | fail)
  all_goals try clear fx
  refine q7 (fun n st=>∃ x:Nat,n=8 - x∧x≤8∧st.tm 1=.pt (.s 1) 0∧st.hp (.s 1)=some (.row 1 [[ksl p]])∧st.tm 3=iv i∧st.tm 4=.hs (.s 4) 1 0 (k.dc 9).length∧st.hp (.s 4)=some (.row 1 (qY (k.dc 9)))∧st.tm 5=.hs (.s 5) 1 0 (k.dc 10).length∧st.hp (.s 5)=some (.row 1 (qY (k.dc 10)))∧st.tm 6=iv x∧(List.range x).all (fun x=>yl p i k (x:Int))=true) 8 ?_ ?_
  ·exact⟨0,by simp [h1,hp1,h3]⟩
  clear h1 hp1 h3 ht
  rintro n st - - ⟨x,rfl,hx,h1,hp1,h3,h4,hp4,h5,hp5,h6,hax⟩
  have fx:=aI h1<|aI hp1<|aI h3<|aI h4<|aI hp4<|aI h5<|aI hp5<|h6
  refine qB ?_
  clear fx
  refine vk (by simp [];first|done|rfl|exact (Bool.not_not _).symm) (fun ht=>?_) (fun hf=>?_)
  ·have hx7:(x:Int)≤7:=by simpa using ht
   have hx8:x<8:=by omega
   all_goals have fx:=aI h1<|aI hp1<|aI h3<|aI h4<|aI hp4<|aI h5<|aI hp5<|aI h6<|hk
   repeat' (first
    | refine qN ?_|refine qJ ?_|refine qR ?_|refine qM fun K hK=>?_
    | ((with_reducible refine qK hK ?_);clear hK K)
    | (with_reducible first|refine qC ?_|refine qP ?_|refine qd ?_|refine zD ?_|refine qI ?_|refine qc ?_|refine ql (by decide) ?_)
    | refine qn ?_
    | refine qX ?_
    | (with_reducible refine qG ?_)
    | ((with_reducible refine yV ?_);refine q6 (h:=?_))
    | (with_reducible first|refine ze ?_|refine jE ?_|refine vG (h:=?_)|refine vj (h:=?_)|refine x_u (h:=?_)|refine qE (h:=?_)|refine zG (h:=?_))
    | ((with_reducible refine qv 93 rfl ?_);refine qL (hF:=qCm _ _ _ (by first|exact Nat.le_trans (Blk.dc_len _ _) (by decide)|omega)) (h:=?_))
    | ((with_reducible refine qv 94 rfl ?_);refine qL (hF:=qIR _ p i k _ hk hs hh) (h:=?_))
    | (with_reducible refine x_q (h:=?_))
    | (with_reducible refine vC (fun ht=>?_) (fun ht=>?_))
    | refine qO (h1:=?_)|refine qS (h1:=?_)
    | refine uk (h1:=fun ht=>?_) (h2:=fun ht=>?_)
    | fail)
   all_goals try clear fx
   all_goals first
    | (have hd:yl p i k x=false:=by
        simp only [yl]
        clear hal hax hpar hs hh h1 hp1 h3 h4 hp4 h5 hp5 h6 hdo hsh hk
        simp_all
       refine qH [] .nil (by simp;rfl) ?_
       rw [j4 hlt (show (i==0||jr p i)=false by rw [hdo,j4 hx8 hd];simp;omega)]
       rfl)
    | (have hd:yl p i k x=true:=by
        simp only [yl]
        clear hal hax hpar hs hh h1 hp1 h3 h4 hp4 h5 hp5 h6 hdo hsh hk
        simp_all
       refine⟨8 - (x+1),by omega,x+1,rfl,by omega,by simp [h1],by simp [hp1],by simp [h3],by simp [h4],by simp [hp4],by simp [h5],by simp [hp5],by simp;exact wrp (by omega) (by omega),?_⟩
       rw [zy,hax,hd]
       rfl)
  ·have hge:x=8:=by
    have:¬ (x:Int)≤7:=by simpa using hf
    omega
   subst hge
   have fx:=aI h1<|aI hp1<|h3
   refine qB ?_
   clear fx
   refine⟨p.length - (i+1),by omega,i+1,rfl,by omega,by omega,by simp [h1],by simp [hp1],by simp;exact wrp (by omega) (by omega),?_⟩
   rw [zy,hal,hdo,hax]
   simp
 ·have hge:i=p.length:=by
   have:¬ i<p.length:=by simpa using hf
   omega
  subst hge
  have fx:=fx0
  refine qB ?_
  clear fx
  refine qH [] .nil (by simp [];rfl) (by simp [hal])
end Go.Proofs.YtbgmnmnoaamgkaaGreatDoor
end
section

end
section
namespace Go.Proofs.YtbgmnmnoaamgkaaGreatDoor
open Go Go.Hm Go.Proofs
theorem ud (gl) (p:Prg) (c b:Nat) (hs:Sml p) (hh:zj p) (hc:c<p.length):qW Tryz.prog gl 137 [pav p,iv c,iv b] (fun _ z _=>z=bv (zP p c b)):=by
 refine qW.of_sem Tryz.func137 rfl (by kernel_rfl) (rs:=[.tmp 6]) rfl Tryz.ntmps137 (lB rfl) fun C w g root=>?_
 all_goals have fx:=fx0
 repeat' (first
  | refine qN ?_|refine qJ ?_|refine qM fun K hK=>?_
  | ((with_reducible refine qK hK ?_);clear hK K)
  | (with_reducible first|refine qG ?_|refine qE (h:=?_)|refine zG (h:=?_))
  | fail)
 all_goals try clear fx
 refine q7 (fun n st=>∃ j:Int,n=(j+1).toNat ∧ -1≤j∧j<p.length∧zP p j b=zP p c b∧st.tm 1=iv j∧st.tm 2=iv b∧st.tm 3=.pt (.s 3) 0∧st.hp (.s 3)=some (.row 1 [[ksl p]])) (c+1) ?_ ?_
 ·exact⟨c,by omega,by omega,by omega,rfl,by simp⟩
 rintro n st - - ⟨j,rfl,hj1,hj2,ho,h1,h2,h3,hp3⟩
 all_goals have fx:=aI h1<|aI h2<|aI h3<|hp3
 repeat' (first
  | refine qN ?_|refine qM fun K hK=>?_
  | ((with_reducible refine qK hK ?_);clear hK K)
  | (with_reducible first|refine qC ?_)
  | (with_reducible first|refine qG ?_)
  | (with_reducible refine x_q (h:=?_))
  | fail)
 all_goals try clear fx
 refine vk (by simp [];first|done|rfl|exact (Bool.not_not _).symm) (fun ht=>?_) (fun hf=>?_)
 ·have hj0:(b:Int)<j:=by simpa using ht
  obtain⟨j,rfl⟩:∃ i:Nat,j=i:=⟨j.toNat,by omega⟩
  obtain⟨q,hq⟩:∃ q,p[j]?=some q:=⟨_,gE (by omega)⟩
  obtain⟨hq1,hq2,_⟩:=hh j q hq
  all_goals have fx:=aI h1<|aI h2<|aI h3<|aI hp3<|hq
  repeat' (first
   | refine qJ ?_|refine qR ?_|refine qM fun K hK=>?_
   | ((with_reducible refine qK hK ?_);clear hK K)
   | (with_reducible first|refine qC ?_|refine qP ?_)
   | (with_reducible first|refine qG ?_|refine qE (h:=?_))
   | (with_reducible refine x_q (h:=?_))
   | fail)
  all_goals try clear fx
  refine⟨(q.parent+1).toNat,by omega,q.parent,rfl,hq1,by omega,?_,by simp [h2,h3,hp3]⟩
  rw [← ho,jD hh (by omega) hq hj0]
 ·have hj:j≤b:=by simpa using hf
  all_goals have fx:=aI h1<|h2
  repeat' (first
   | refine qN ?_|refine qM fun K hK=>?_
   | ((with_reducible refine qK hK ?_);clear hK K)
   | (with_reducible first|refine qC ?_)
   | refine qn ?_
   | refine qX ?_
   | (with_reducible first|refine qG ?_|refine qE (h:=?_))
   | (with_reducible refine x_q (h:=?_))
   | fail)
  all_goals try clear fx
  rw [jR hj] at ho
  refine qH [] .nil (by simp;rfl) ?_
  rw [← ho]
  rfl
theorem qNy (gl) (p:Prg) (b:Nat) (k:Blk) (hk:p[b]?=some k) (hs:BSm k):qW Tryz.prog gl 167 [pav p,iv b] (fun r y H'=>y=.hs r 1 0 k.rd.length∧H' r=some (.row 1 (qY k.rd))):=qQj gl p b k hk hs.body
theorem qGn (gl) (p:Prg) (b:Nat) (k:Blk) (hk:p[b]?=some k) (hs:BSm k):qW Tryz.prog gl 136 [pav p,iv b] (fun r y H'=>y=.hs r 1 0 k.us.length∧H' r=some (.row 1 (qY k.us))):=by
 have l1:=k.rd_len
 have l2:=k.bd_len
 have l3:=k.dc_len 9
 have l4:=k.dc_len 10
 have t1:(k.rd++k.bd).take (k.rd.length+k.bd.length)=k.rd++k.bd:=List.take_of_length_le (by simp)
 have t2:(k.rd++(k.bd++k.dc 9)).take (k.rd.length+k.bd.length+(k.dc 9).length)=k.rd++(k.bd++k.dc 9):=List.take_of_length_le (by simp;omega)
 have hu:k.us=sorted (k.rd++(k.bd++(k.dc 9++k.dc 10))):=by simp [Blk.us]
 rw [hu]
 refine qW.of_sem Tryz.func136 rfl (by kernel_rfl) (rs:=[.tmp 4]) rfl Tryz.ntmps136 (lB rfl) fun C w g root=>?_
 all_goals have fx:=aI hk<|aI t1<|t2
 repeat' (first
  | refine qN ?_|refine qM fun K hK=>?_
  | ((with_reducible refine qK hK ?_);clear hK K)
  | (with_reducible first|refine qC ?_|refine wL ?_)
  | refine qX ?_
  | (with_reducible first|refine qG ?_|refine qE (h:=?_)|refine zG (h:=?_)|refine ji (T:=42) (h:=?_))
  | ((with_reducible refine qv 167 rfl ?_);refine zk (hF:=qNy _ p b k hk hs) (h:=?_))
  | ((with_reducible refine qv 165 rfl ?_);refine zk (hF:=qIq _ p b k hk hs) (h:=?_))
  | ((with_reducible refine qv 92 rfl ?_);refine zk (hF:=vw _ p b k _ hk hs) (h:=?_))
  | ((with_reducible refine qv 129 rfl ?_);refine zk (hF:=vJ _ (k.rd++(k.bd++(k.dc 9++k.dc 10))) (by simp;omega)) (h:=?_))
  | (refine wSc (id:=1) (.q 0<|.q 1<|.q 3<|.q 4<|.q 7<|.q 8<|.q 11<|.q 12<|.l 2 [12,11,8,7,4,3]<|.l 5 [12,11,8,7]<|.l 6 [12,11,8,7]<|.l 9 [12,11]<|.l 10 [12,11]<|.l 13 []<|.l 14 []<|.l 15 []<|.l 16 []<|.done) qA fun K hK=>?_)
  | ((with_reducible refine uF hK ?_);clear hK K)
  | ((with_reducible refine qAf ?_);first|refine qFT (h:=?_))
  | refine a_l rfl ?_|(with_reducible refine aI ?_ ?_)|exact vW|refine w7 (h2:=?_)
  | fail)
 all_goals try clear fx
 all_goals
  exact zZ (t:=4) (by first|(simp [];done)|(simp [];rfl)) (by first|(simp [];done)|(simp [];rfl)) (by simp)
end Go.Proofs.YtbgmnmnoaamgkaaGreatDoor
end
