/-
  Own texts, joined by mkclaim.py: Yg, Gg, Gh, Gi, Gl.
-/
import Derived.Test.YtbgmnmnoaamgkaaGreatDoorD23
import Derived.Test.YtbgmnmnoaamgkaaGreatDoorD17
import Derived.Test.YtbgmnmnoaamgkaaGreatDoorD22
import Derived.Test.YtbgmnmnoaamgkaaGreatDoorD08
import Derived.Test.YtbgmnmnoaamgkaaGreatDoorD12
import Derived.Test.YtbgmnmnoaamgkaaGreatDoorD09
set_option linter.unusedSimpArgs false
set_option linter.unusedVariables false
set_option maxRecDepth 100000
set_option maxHeartbeats 4000000

section
namespace Go.Proofs.YtbgmnmnoaamgkaaGreatDoor
open Go Go.Hm Go.Proofs
abbrev qAt:Sch:=.q 0<|.q 1<|.q 2<|.q 3<|.q 4<|.q 5<|.q 6<|.q 7<|.q 8<|.q 9<|.q 10<|.l 11 []<|.done
abbrev qAs:Sch:=.q 0<|.q 1<|.q 2<|.q 3<|.q 4<|.q 5<|.q 6<|.q 7<|.q 8<|.q 9<|.q 10<|.q 11<|.q 12<|.q 13<|.q 14<|.q 15<|.q 16<|.done
abbrev qAr:Sch:=.q 0<|.q 1<|.q 2<|.q 3<|.q 4<|.q 5<|.q 6<|.q 7<|.q 8<|.q 9<|.q 10<|.q 11<|.q 12<|.q 13<|.q 14<|.q 15<|.q 16<|.l 17 [16,15,14,13,12,11,10,9,8,7,6,5,4,3,2,1,0]<|.l 18 []<|.done
abbrev qAq:Sch:=.q 0<|.q 1<|.q 2<|.q 3<|.q 4<|.q 5<|.q 6<|.q 7<|.q 8<|.q 9<|.q 10<|.q 11<|.q 12<|.q 13<|.l 14 [9,5,4,3,2,1,0]<|.l 15 [9,5,0]<|.q 16<|.q 17<|.l 18 []<|.done
abbrev qRA:Sch:=.q 0<|.q 1<|.q 2<|.q 3<|.q 4<|.q 5<|.q 6<|.q 7<|.l 8 [4,3,2,1,0]<|.l 9 [0]<|.q 10<|.q 11<|.l 12 []<|.done
abbrev qQz:Sch:=.q 0<|.q 1<|.q 2<|.q 3<|.q 4<|.q 5<|.q 6<|.q 7<|.q 8<|.q 9<|.q 10<|.q 11<|.l 12 [7,5,4,3,2,1,0]<|.l 13 [7,5,0]<|.q 14<|.q 15<|.l 16 []<|.done
abbrev qQy:Sch:=.q 0<|.q 1<|.q 2<|.q 3<|.q 4<|.q 5<|.q 6<|.q 7<|.q 8<|.q 9<|.q 10<|.l 11 [6,5,4,3,2,1,0]<|.q 12<|.l 13 [4,3,2,1,0]<|.l 14 [0]<|.q 15<|.q 16<|.l 17 []<|.done
abbrev qQx:Sch:=.q 0<|.q 1<|.q 2<|.q 3<|.q 4<|.q 5<|.q 6<|.q 7<|.q 8<|.q 9<|.q 10<|.q 11<|.l 12 [7,6,5,4,3,2,1,0]<|.l 13 [7,6,5,0]<|.q 14<|.q 15<|.l 16 []<|.done
abbrev qQw:Sch:=.q 0<|.q 1<|.q 2<|.q 3<|.q 4<|.q 5<|.q 6<|.q 7<|.q 8<|.q 9<|.q 10<|.q 11<|.l 12 [7,6,5,4,3,2,1,0]<|.l 13 [4,3,2,1,0]<|.l 14 [4,3,2,1,0]<|.l 15 [0]<|.q 16<|.q 17<|.l 18 []<|.done
abbrev qQv:Sch:=.q 0<|.q 1<|.q 2<|.q 3<|.q 4<|.q 5<|.q 6<|.q 7<|.q 8<|.q 9<|.q 10<|.q 11<|.q 12<|.q 13<|.done
abbrev qKu:Sch:=.q 0<|.q 1<|.q 2<|.q 3<|.q 4<|.q 5<|.q 6<|.q 7<|.q 8<|.q 9<|.q 10<|.q 11<|.q 12<|.q 13<|.q 14<|.q 15<|.q 16<|.q 17<|.l 18 [13,11,10,9,8,7,6,5,4,3,2,1,0]<|.l 19 [13,11,10,9,8,7,6,5,0]<|.q 20<|.q 21<|.l 22 []<|.done
abbrev qKt:Sch:=.q 0<|.q 1<|.q 2<|.q 3<|.q 4<|.q 5<|.l 6 [4,3,2,1,0]<|.l 7 [4,3,2,1,0]<|.l 8 [4,3,2,1,0]<|.l 9 [0]<|.q 10<|.q 11<|.l 12 []<|.done
theorem qJK (gl) (H:Nm→Option AO) (p:Prg) (m:Mch) (fs:List Frm) (f:Frm) (dp:Nat) (hP:ValP p) (hM:MOk p m fs f) (hm:m.frames=fs++[f]) (he:m.en=0) (hO:OwnX H p (.c Xn 0 6) m dp) (h2:H (.u 2 0 0)=none) :
  FnE Tryz.prog gl 69 (Nm.under Xn) [.pt Xn 0] H (fun _ _ H'=>OwnX H' p (.c Xn 0 6) (yC p m) dp∨((yC p m).en≠0∧EndX0 H' p (yC p m) dp)) noE:=by
 have hmt:m=m.top fs f:=by cases m;simp only [Mch.top] at hm ⊢;rw [hm]
 have hol:=uh (p:=p) (b:=f.blk) hP.sh
 have hpc:=hM.top.pc
 have hsl:=hM.top.sl
 have hdp:=hM.deep
 have hmd:=hM.made
 have hp:=hM.top.blk
 obtain⟨k,hk⟩:∃ k,p[f.blk]?=some k:=⟨_,gE hp⟩
 have hcd:(qX p p.length)[f.blk]?=some (q8 p f.blk):=by simp [qX,hp]
 obtain⟨hcdl,hcdE⟩:=gS hcd
 have hco:(q8 p f.blk).ops=jO p f.blk:=by simp [q8,hk]
 have hw1:IntKind.i64.wrap (fs.length:Int)=fs.length:=wrp (by omega) (by omega)
 have hl1:(fs.length:Int)<(fs.length:Int)+1:=by omega
 have hl0:(0:Int)≤(fs.length:Int):=by omega
 have hfl:fs.length≤1000:=by omega
 have hgsl:∀ g∈fs,g.stack.length≤1000:=fun g hg=>by
  have h1:=(hM.low g hg).sl
  have h2:=(hM.low g hg).pc
  have h3:=uh (p:=p) (b:=g.blk) hP.sh
  omega
 have hn8:=hM.top.nm.1
 have hg8:=hM.glob.1
 refine FnE.of_sem Tryz.func69 rfl (by kernel_rfl) (rs:=[]) rfl Tryz.ntmps69 (lB rfl) (fun _=>q9 rfl) fun C w g root hroot=>?_
 cases ho:(jO p f.blk)[f.pc]? with
 | none =>
  refine qM4 (.c Xn 0 6) (.u 2 0 0) (.inl rfl) (.inr (by simp [un,h2])) ?_
  refine yd (fun s=>s.tm 0=.pt Xn 0∧OwnX s.hp p (.u 2 0 0) m dp) ⟨by simp,hO.mvF (.inl ⟨rfl,rfl⟩)⟩ ?_
  rintro s ⟨t0,hO⟩
  obtain⟨L,j,hL,hat,hlt,hF,hf,hn,hsk⟩:=hO.topF hm
  obtain⟨_,hatE⟩:=gS hat
  have hT:=hO.top
  simp only [jR,hm,List.length_append,List.length_singleton] at hT
  have hpe:f.pc=(jO p f.blk).length:=by have:=List.getElem?_eq_none_iff.1 ho;omega
  have hres:yC p m=qDk p m fs f:=Hm.step_end hm ho
  rw [hres]
  have hnk:=hM.nk
  have fx:=aI t0<|aI hT<|aI hF<|aI hat<|aI hatE<|aI hlt<|aI hw1<|aI hl1<|aI hl0<|aI hcd<|aI hcdl<|aI hcdE<|aI hco<|hpe
  refine qB ?_
  repeat ((first|refine wSc (id:=0) qAt qA ?_|refine wSc (id:=1) qAs qA ?_|refine wSc (id:=3) qAr qA ?_|refine wSc (id:=11) qAq qA ?_);refine qC ?_;refine qB ?_)
  clear fx
  intro K hK
  have fx:=aI t0 hT
  refine yM (.u 2 0 0) (.c Xn 0 6) (.inr (by simp [un,h2])) (.inl rfl) ?_
  refine jo (by simp [hT]) (by simp [hF]) (hF:=qHc _ _ p m fs f dp hp hm hfl hgsl hn8 (by omega) (have h:=hO;OwnX.re h)) (h:=?_)
  rintro y H1 hO1
  clear fx
  have hT1:=hO1.top
  simp only [jR] at hT1
  have fx:=aI t0<|aI hT<|hT1
  refine qB ?_
  repeat ((first|refine wSc (id:=0) qAt qA ?_|refine wSc (id:=1) qAs qA ?_|refine wSc (id:=3) qAr qA ?_|refine wSc (id:=11) qAq qA ?_);refine qC ?_;refine qB ?_)
  clear fx
  refine qF [] .nil (by simp;rfl) (.inl (OwnX.fin1 ((OwnX.mvF (have h:=hO1;OwnX.re h) (.inr ⟨rfl,rfl⟩)))))
 | some o =>
  obtain⟨hol2,hoE⟩:=gS ho
  have hOr:=qI1 hP.sh hk o (gM ho)
  have hcode:=hOr.code
  have harg:=hOr.arg
  have hres:yC p m=yq p m fs f.next o:=Hm.step_ord hm ho
  have hok:=hM.top.ok
  rw [uD ho,Nat.add_zero] at hok
  rw [hres]
  have hol3:(f.pc:Int)<((jO p f.blk).length:Int):=by omega
  have hneb:¬ f.pc=(jO p f.blk).length:=by omega
  have hneb2:((f.pc:Int)==((jO p f.blk).length:Int))=false:=by rw [beq_eq_false_iff_ne];omega
  have hwp:IntKind.i64.wrap ((f.pc:Int)+1)=(f.pc:Int)+1:=wrp (by omega) (by omega)
  by_cases c0:o.1=0
  ·obtain⟨L,j,hL,hat,hlt,hF,hf,hn,hsk⟩:=hO.topF hm
   obtain⟨_,hatE⟩:=gS hat
   have hT:=hO.top
   simp only [jR,hm,List.length_append,List.length_singleton] at hT
   have hftk:=qG5 (p:=p) (n:=.c Xn 0 6) hat ho c0
   have htl:j7 ((jO p f.blk).take f.pc)≤60:=by
    have h1:=qIB (l:=(jO p f.blk).take f.pc)
    simp at h1
    omega
   have hord:yq p m fs f.next o=vq p m fs f.next:=by simp [yq,c0]
   rw [hord]
   obtain⟨c,a⟩:=o
   simp only at c0
   subst c0
   have hlf:vN p f+1=((j7 ((jO p f.blk).take f.pc):Nat):Int):=by simp [vN]
   have hlw:IntKind.i64.wrap (vN p f+1)=vN p f+1:=wrp (by omega) (by omega)
   by_cases hl:m.left=0
   ·have ht:vq p m fs f.next=m.stop fs f.next 1:=by simp only [vq,hl,if_true]
    rw [ht]
    have fx:=aI hT<|aI hF<|aI hat<|aI hatE<|aI hlt<|aI hw1<|aI hl1<|aI hl0<|aI hcd<|aI hcdl<|aI hcdE<|aI hco<|aI ho<|aI hoE<|aI hol2<|aI hol3<|aI hneb<|aI hneb2<|aI hwp<|hl
    refine qB ?_
    repeat ((first|refine wSc (id:=0) qAt qA ?_|refine wSc (id:=1) qAs qA ?_|refine wSc (id:=3) qAr qA ?_|refine wSc (id:=11) qAq qA ?_);refine qC ?_;refine qB ?_)
    clear fx
    refine qF [] .nil (by simp;rfl) (.inr ⟨by simp,EndX0.fin (EndX0.mk ⟨_,_,_,_,_,by simp [hl];exact⟨rfl,rfl,rfl,rfl,rfl⟩⟩ (by simp [hO.cells]) (by simp [hO.glob]) (by simp [hO.out]) (by simp [hO.trc])) (fun _=>q9 rfl) (fun _ h=>h)⟩)
   ·obtain⟨l,hll⟩:∃ l,m.left=l+1:=⟨m.left - 1,by omega⟩
    have ht:vq p m fs f.next={ m.top fs f.next with left:=l,trace:=m.trace++[(f.blk,j7 ((jO p f.blk).take f.pc))] }:=by
     simp only [vq,hl,if_false,hll]
     rfl
    rw [ht]
    have hTr:=hO.trc
    have htr2:=hM.tr
    have htl':m.trace.length≤1000:=by omega
    have hlb:((l:Int)+1==0)=false:=by rw [beq_eq_false_iff_ne];omega
    have hwl:IntKind.i64.wrap (l:Int)=l:=wrp (by omega) (by omega)
    have hap:jq m.trace++[[iv f.blk,iv (vN p f+1)]]=jq (m.trace++[(f.blk,j7 ((jO p f.blk).take f.pc))]):=by rw [hlf];exact qD9
    have hR2:(qa (qh p (.c Xn 0 6) L) fs.length 1 [iv ((f.pc:Int)+1)])[fs.length]?=some [iv f.blk,iv ((f.pc:Int)+1),iv (vN p f),.hs (.c (.c Xn 0 6) fs.length 3) 3 0 f.fasts.length,isl (zg f.cells),.hs (.c (.c Xn 0 6) fs.length 5) 3 0 8,.hs (.c (.c Xn 0 6) fs.length 6) 2 0 f.stack.length]:=by simp [qa,hat,z9]
    have hR3:(qa (qa (qh p (.c Xn 0 6) L) fs.length 1 [iv ((f.pc:Int)+1)]) fs.length 2 [iv (vN p f+1)])[fs.length]?=some [iv f.blk,iv ((f.pc:Int)+1),iv (vN p f+1),.hs (.c (.c Xn 0 6) fs.length 3) 3 0 f.fasts.length,isl (zg f.cells),.hs (.c (.c Xn 0 6) fs.length 5) 3 0 8,.hs (.c (.c Xn 0 6) fs.length 6) 2 0 f.stack.length]:=by simp [qa,hat,z9]
    obtain⟨_,hR2E⟩:=gS hR2
    obtain⟨_,hR3E⟩:=gS hR3
    have fx:=aI hT<|aI hF<|aI hat<|aI hatE<|aI hlt<|aI hR2<|aI hR3<|aI hR2E<|aI hR3E<|aI hw1<|aI hl1<|aI hl0<|aI hcd<|aI hcdl<|aI hcdE<|aI hco<|aI ho<|aI hoE<|aI hol2<|aI hol3<|aI hneb<|aI hneb2<|aI hwp<|aI hll<|aI hlb<|aI hwl<|aI hTr<|aI htl'<|hlw
    refine qB ?_
    repeat ((first|refine wSc (id:=0) qAt qA ?_|refine wSc (id:=1) qAs qA ?_|refine wSc (id:=3) qAr qA ?_|refine wSc (id:=11) qAq qA ?_);refine qC ?_;refine qB ?_)
    clear fx
    refine zj [] .nil (by simp;rfl) (.inl (OwnX.fin1 (have h:=hO;OwnX.reT h hm hL rfl (by simp [kz,hftk]) (by simp [hf,Frm.next]) (by simp [hn,Frm.next]) ⟨j,by simp [hsk,Frm.next]⟩ (h0:=by simp [jR]) (h7:=by simp [← hap]))))
  ·refine qM4 (.c Xn 0 6) (.u 2 0 0) (.inl rfl) (.inr (by simp [un,h2])) ?_
   refine yd (fun s=>s.tm 0=.pt Xn 0∧OwnX s.hp p (.u 2 0 0) m dp) ⟨by simp,hO.mvF (.inl ⟨rfl,rfl⟩)⟩ ?_
   rintro s ⟨t0,hO⟩
   obtain⟨L,j,hL,hat,hlt,hF,hf,hn,hsk⟩:=hO.topF hm
   obtain⟨_,hatE⟩:=gS hat
   have hT:=hO.top
   simp only [jR,hm,List.length_append,List.length_singleton] at hT
   have hfn:=qG6 (p:=p) (n:=.u 2 0 0) hat ho c0
   have hsO:=fun h13=>SlOk.of hM hOr h13
   have hnam:=hOr.name
   obtain⟨c,a⟩:=o
   obtain⟨x,rfl⟩:∃ x:Nat,a=x:=⟨a.toNat,by simp only at harg;omega⟩
   simp only at hcode c0 hsO hnam
   have fx:=aI t0<|aI hT<|aI hF<|aI hat<|aI hatE<|aI hlt<|aI hw1<|aI hl1<|aI hl0<|aI hcd<|aI hcdl<|aI hcdE<|aI hco<|aI ho<|aI hoE<|aI hol2<|aI hol3<|aI hneb<|aI hneb2<|hwp
   refine qB ?_
   repeat ((first|refine wSc (id:=0) qAt qA ?_|refine wSc (id:=1) qAs qA ?_|refine wSc (id:=3) qAr qA ?_|refine wSc (id:=11) qAq qA ?_);refine qC ?_;refine qB ?_)
   clear fx
   refine yd (fun s=>s.tm 0=.pt Xn 0∧s.tm 2=.ep (.u 2 0 0) 7 fs.length 0∧s.tm 3=.pt (.s 3) 0∧s.hp (.s 3)=some (.row 2 [[iv c,iv x]])∧s.tm 64=bv (c==0)∧OwnX s.hp p (.u 2 0 0) (m.top fs f.next) dp) ⟨by simp [t0],by simp,by simp,by simp,by simp,(have h:=hO;OwnX.reT h hm hL rfl (by simp [kz,hfn]) (by simp [hf,Frm.next]) (by simp [hn,Frm.next]) ⟨j,by simp [hsk,Frm.next]⟩ (h0:=by simp [hT,jR]))⟩ ?_
   clear t0 hT hF hf hn hsk hlt hat hatE hL hO hfn
   rintro s ⟨t0,t2,t3,p3,t64,hO⟩
   have hT:=hO.top
   obtain⟨L,j,hL,hat,hlt,hF,hf,hn,hsk⟩:=hO.topF rfl
   simp only [jR,Mch.top] at hT
   have cb0:(c==0)=false:=by simpa using c0
   have mv1:(Nm.u 2 0 0).isU=false∨(un Tryz.prog C w g H 135 gl).ext (.u 2 0 0)=false:=.inr (by simp [un,h2])
   have hnsl:f.next.stack.length≤1000:=by simp only [Frm.next];omega
   simp only [zB] at hok
   by_cases c13:2≤c∧c≤13
   ·have hord:yq p m fs f.next (c,(x:Int))=if (c - 2) % 3=0 then jw p m fs f.next (c,(x:Int)) else if (c - 2) % 3=1 then qF9 m fs f.next (c,(x:Int)) else qFA p m fs f.next (c,(x:Int)):=by
     simp only [yq]
     rw [if_neg c0,if_pos c13]
    have hst1:(c - 2) % 3=1→1≤f.next.stack.length:=by
     intro h1
     have hc:c=3∨c=6∨c=9∨c=12:=by omega
     rcases hc with rfl|rfl|rfl|rfl <;> simp at hok <;> exact hok.1
    rw [hord]
    obtain⟨c13a,c13b⟩:=c13
    have fx:=aI t0<|aI t2<|aI t3<|aI p3<|aI t64<|aI cb0<|aI c13a<|c13b
    have c1:=zh gl c 2 13
    refine qB ?_
    repeat ((first|refine wSc (id:=0) qAt qA ?_|refine wSc (id:=1) qAs qA ?_|refine wSc (id:=3) qAr qA ?_|refine wSc (id:=11) qAq qA ?_);refine qC ?_;refine qB ?_)
    clear fx c1
    intro K hK
    have fx:=aI t0 (aI t2 (aI t3 p3))
    refine qC8 (.u 2 0 0) (.c Xn 0 6) mv1 (.inl rfl) ?_
    refine jo (by simp [hT]) (by simp [hF]) (hF:=qHD _ _ p m fs f.next (c,(x:Int)) dp hp ⟨c13a,c13b⟩ ⟨(hsO ⟨c13a,c13b⟩).arg,(hsO ⟨c13a,c13b⟩).lt,(hsO ⟨c13a,c13b⟩).cell⟩ (fun h=>hnam h c13b) hg8 hn8 hst1 hnsl (have h:=hO;OwnX.re h) (by simp)) (h:=?_)
    rintro y H1 ⟨fr,hfr,hO1⟩
    clear fx
    refine .inr ?_
    have hT1:=hO1.top
    simp only [jR] at hT1
    have fx:=aI t0<|aI hT<|hT1
    refine qB ?_
    repeat ((first|refine wSc (id:=0) qAt qA ?_|refine wSc (id:=1) qAs qA ?_|refine wSc (id:=3) qAr qA ?_|refine wSc (id:=11) qAq qA ?_);refine qC ?_;refine qB ?_)
    clear fx
    refine zj [] .nil (by simp;rfl) (qMb.done (OwnX.fin1 ((OwnX.mvF (have h:=hO1;OwnX.re h) (.inr ⟨rfl,rfl⟩)))) hfr)
   have c13b:(decide (2≤c)&&decide (c≤13))=false:=by
    rw [Bool.and_eq_false_iff,decide_eq_false_iff_not,decide_eq_false_iff_not]
    omega
   have hir:=zh gl c 2 13
   rw [c13b] at hir
   have hord:yq p m fs f.next (c,(x:Int))=zI p m fs f.next (c,(x:Int)):=by
    simp only [yq]
    rw [if_neg c0,if_neg c13]
   rw [hord]
   by_cases c17:c=17
   ·subst c17
    have hord:zI p m fs f.next (17,(x:Int))=uo p m fs f.next (17,(x:Int)):=by simp [zI]
    rw [hord]
    simp at hok
    have hx1:=hOr.call rfl
    simp only at hx1
    have fx:=aI t0<|aI t2<|aI t3<|aI p3<|aI t64<|cb0
    have c1:=hir
    refine qB ?_
    repeat ((first|refine wSc (id:=0) qAt qA ?_|refine wSc (id:=1) qAs qA ?_|refine wSc (id:=3) qAr qA ?_|refine wSc (id:=11) qAq qA ?_);refine qC ?_;refine qB ?_)
    clear fx c1
    intro K hK
    have fx:=aI t0 (aI t2 (aI t3 p3))
    refine qC8 (.u 2 0 0) (.c Xn 0 6) mv1 (.inl rfl) ?_
    refine jo (by simp [hT]) (by simp [hF]) (hF:=qHE _ _ p m fs f.next x dp f.pc hP hM (by omega) hok.1 hnsl hfl (have h:=hO;OwnX.re h)) (h:=?_)
    rintro y H1 ⟨q,hq,hO1⟩
    clear fx
    have hT1:=hO1.top
    simp only [jR] at hT1
    rcases hq with rfl|rfl
    ·refine .inr ?_
     have fx:=aI t0<|aI hT<|hT1
     refine qB ?_
     repeat ((first|refine wSc (id:=0) qAt qA ?_|refine wSc (id:=1) qAs qA ?_|refine wSc (id:=3) qAr qA ?_|refine wSc (id:=11) qAq qA ?_);refine qC ?_;refine qB ?_)
     clear fx
     refine zj [] .nil (by simp;rfl) (.inl (OwnX.fin1 ((OwnX.mvF (have h:=hO1;OwnX.re h) (.inr ⟨rfl,rfl⟩)))))
    ·refine .inl ?_
     have fx:=aI t0<|aI hT<|hT1
     refine qB ?_
     repeat ((first|refine wSc (id:=0) qAt qA ?_|refine wSc (id:=1) qAs qA ?_|refine wSc (id:=3) qAr qA ?_|refine wSc (id:=11) qAq qA ?_);refine qC ?_;refine qB ?_)
     clear fx
     refine zj [] .nil (by simp;rfl) (.inl (OwnX.fin1 (have h:=hO1;OwnX.re h)))
   by_cases c20:c=20
   ·subst c20
    have hord:zI p m fs f.next (20,(x:Int))=zD m fs f.next.tos:=by simp [zI]
    rw [hord]
    simp at hok
    obtain⟨k1,hk1⟩:∃ k1,f.next.stack.length=k1+1:=⟨f.next.stack.length - 1,by have:f.next.stack.length=f.stack.length:=rfl;omega⟩
    have fx:=aI t0<|aI t2<|aI t3<|aI p3<|aI t64<|cb0
    have c1:=hir
    refine qB ?_
    repeat ((first|refine wSc (id:=0) qAt qA ?_|refine wSc (id:=1) qAs qA ?_|refine wSc (id:=3) qAr qA ?_|refine wSc (id:=11) qAq qA ?_);refine qC ?_;refine qB ?_)
    clear fx c1
    intro K hK
    refine yr (fun s=>s.tm 131=.pt Xn 0∧s.tm 132=.ep (.u 2 0 0) 7 fs.length 0∧OwnX s.hp p (.u 2 0 0) (m.top fs f.next) dp) ⟨by simp,by simp,(have h:=hO;OwnX.re h)⟩ ?_
    clear t0 t2 t3 p3 t64 hT hF hf hn hsk hlt hat hL hO
    rintro s ⟨t131,t132,hO⟩
    have hT:=hO.top
    obtain⟨js0,hF⟩:=hO.fr.top
    simp only [jR] at hT
    obtain⟨rows,a0,a1,a2,a3,a4,a5,vs,e1,e2,e3,e4,e5⟩:=hO.take hk1
    have fx:=aI t131 (aI t132 hT)
    refine jo (by simp [hT]) (by simp [hF]) (hF:=kY gl D12 (fun _=>zM) _ rows fs.length k1 a0 a1 a2 a3 a4 a5 vs f.next.tos e2 e3 e4 e5 (by omega)) (h:=?_)
    intro y H1 hw
    clear fx
    have hO1:=hO.taken e1 hk1 hw
    obtain⟨rfl,-⟩:=hw
    have hT1:=hO1.top
    obtain⟨js1,hF1⟩:=hO1.fr.top
    simp only [jR] at hT1
    have hlv:∀ v,zD (m.top fs f.next.pop) fs v=zD m fs v:=fun v=>by
     unfold zD
     split <;> rfl
    have fx:=aI t131<|aI hT<|hT1
    refine qB ?_
    repeat ((first|refine wSc (id:=0) qAt qA ?_|refine wSc (id:=1) qAs qA ?_|refine wSc (id:=3) qAr qA ?_|refine wSc (id:=11) qAq qA ?_);refine qC ?_;refine qB ?_)
    clear fx
    have fx:=aI t131 (aI hT hT1)
    refine yM (.u 2 0 0) (.c Xn 0 6) mv1 (.inl rfl) ?_
    refine jo (by simp [hT1]) (by simp [hF1]) (hF:=qEk _ _ p (m.top fs f.next.pop) fs f.next.pop f.next.tos dp rfl hfl hgsl (have h:=hO1;OwnX.re h)) (h:=?_)
    rintro y H2 hO2
    clear fx
    rw [hlv] at hO2
    have hT2:=hO2.top
    simp only [jR] at hT2
    have fx:=aI t131<|aI hT<|aI hT1<|hT2
    refine qB ?_
    repeat ((first|refine wSc (id:=0) qAt qA ?_|refine wSc (id:=1) qAs qA ?_|refine wSc (id:=3) qAr qA ?_|refine wSc (id:=11) qAq qA ?_);refine qC ?_;refine qB ?_)
    clear fx
    refine zj [] .nil (by simp;rfl) (.inl (OwnX.fin1 ((OwnX.mvF (have h:=hO2;OwnX.re h) (.inr ⟨rfl,rfl⟩)))))
   have hcs:c=1∨c=14∨c=15∨c=16∨c=18∨c=19:=by omega
   have cb17:(c==17)=false:=by simpa using c17
   have cb20:(c==20)=false:=by simpa using c20
   have hval:∀ H:Nm→Option AO,OwnX H p (.u 2 0 0) (m.top fs f.next) dp→H (.u 9 0 0)=none→FnE Tryz.prog gl 103 D12 [.pt Xn 0,.ep (.u 2 0 0) 7 fs.length 0,.agg [iv c,iv x]] H (fun _ _ H'=>∃ q,(q=.u 2 0 0∨q=.c Xn 0 6)∧qMb H' p q (zI p m fs f.next (c,(x:Int))) dp) noE:=by
    intro H hO h9
    have h14:c=14→2≤f.next.stack.length:=by rintro rfl;simp at hok;exact hok.1
    have h18:c=18∨c=19→1≤f.next.stack.length:=by rintro (rfl|rfl) <;> simp at hok <;> exact hok.1
    rcases hcs with h|h|h|h|h|h
    ·exact uf gl H p m fs f.next (c,(x:Int)) dp f.pc hP hM hOr (.inl h) h14 h18 hnsl hfl hO h9
    ·exact uf gl H p m fs f.next (c,(x:Int)) dp f.pc hP hM hOr (.inr (.inl h)) h14 h18 hnsl hfl hO h9
    ·exact uf gl H p m fs f.next (c,(x:Int)) dp f.pc hP hM hOr (.inr (.inr h)) h14 h18 hnsl hfl hO h9
    ·exact qED gl H p m fs f.next (c,(x:Int)) dp f.pc hP hM hOr h h14 h18 hnsl hfl hO h9
    ·exact qAK gl H p m fs f.next (c,(x:Int)) dp f.pc hP hM hOr (.inl h) h14 h18 hnsl hfl hO h9
    ·exact qAK gl H p m fs f.next (c,(x:Int)) dp f.pc hP hM hOr (.inr h) h14 h18 hnsl hfl hO h9
   have fx:=aI t0<|aI t2<|aI t3<|aI p3<|aI t64<|aI cb0<|aI cb17<|cb20
   have c1:=hir
   refine qB ?_
   repeat ((first|refine wSc (id:=3) qRA qA ?_|refine wSc (id:=9) qQz qA ?_|refine wSc (id:=11) qQy qA ?_|refine wSc (id:=12) qQx qA ?_|refine wSc (id:=14) qQw qA ?_|refine wSc (id:=19) qQv qA ?_|refine wSc (id:=21) qKu qA ?_|refine wSc (id:=23) qKt qA ?_);refine qC ?_;refine qB ?_)
   clear fx c1
   intro K hK
   have fx:=aI t0 (aI t2 (aI t3 p3))
   refine qC8 (.u 2 0 0) (.c Xn 0 6) mv1 (.inl rfl) ?_
   refine jo (by simp [hT]) (by simp [hF]) (hF:=hval _ (have h:=hO;OwnX.re h) (by simp)) (h:=?_)
   rintro y H1 ⟨q,hq,fr,hfr,hO1⟩
   clear fx
   have hT1:=hO1.top
   simp only [jR] at hT1
   rcases hq with rfl|rfl
   ·refine .inr ?_
    have fx:=aI t0<|aI hT<|hT1
    refine qB ?_
    repeat ((first|refine wSc (id:=3) qRA qA ?_|refine wSc (id:=9) qQz qA ?_|refine wSc (id:=11) qQy qA ?_|refine wSc (id:=12) qQx qA ?_|refine wSc (id:=14) qQw qA ?_|refine wSc (id:=19) qQv qA ?_|refine wSc (id:=21) qKu qA ?_|refine wSc (id:=23) qKt qA ?_);refine qC ?_;refine qB ?_)
    clear fx
    refine zj [] .nil (by simp;rfl) (qMb.done (OwnX.fin1 ((OwnX.mvF (have h:=hO1;OwnX.re h) (.inr ⟨rfl,rfl⟩)))) hfr)
   ·refine .inl ?_
    have fx:=aI t0<|aI hT<|hT1
    refine qB ?_
    repeat ((first|refine wSc (id:=3) qRA qA ?_|refine wSc (id:=9) qQz qA ?_|refine wSc (id:=11) qQy qA ?_|refine wSc (id:=12) qQx qA ?_|refine wSc (id:=14) qQw qA ?_|refine wSc (id:=19) qQv qA ?_|refine wSc (id:=21) qKu qA ?_|refine wSc (id:=23) qKt qA ?_);refine qC ?_;refine qB ?_)
    clear fx
    refine zj [] .nil (by simp;rfl) (qMb.done (OwnX.fin1 (have h:=hO1;OwnX.re h)) hfr)
theorem qF4 (gl) (p:Prg) (b:Nat) (k:Blk) (s:Stm) (hk:p[b]?=some k) (hs:Sml p) (hb:b<p.length):qV Tryz.prog gl 127 [pav p,iv b,Stm.av s] (fun _ y _=>y=bv (zo p b k s)):=by
 refine qV.of_sem Tryz.func127 rfl (by kernel_rfl) (rs:=[.tmp 6]) rfl Tryz.ntmps127 (lB rfl) fun C w g root=>?_
 obtain⟨kind,to,a,c⟩:=s
 all_goals have fx:= hk
 repeat' (first
  | refine qf ?_|refine qS ?_|refine q7 ?_|refine qj fun K hK=>?_
  | ((with_reducible refine qc hK ?_);clear hK K)
  | (with_reducible first|refine qD ?_|refine qP ?_)
  | refine qw ?_
  | (with_reducible refine qO ?_)
  | (with_reducible first|refine qG (h:=?_)|refine zp (h:=?_))
  | ((with_reducible refine z7 163 rfl ?_);refine jK (hF:=qAp _ ⟨kind,to,a,c⟩) (h:=?_))
  | ((with_reducible refine z7 162 rfl ?_);refine qM (hF:=yy _ _) (h:=?_))
  | (with_reducible refine x_q (h:=?_))
  | refine qAF (h1:=fun ht=>?_) (h2:=fun ht=>?_)
  | fail)
 all_goals try clear fx
 ·have hto:qM9 to=false:=by
   rw [Bool.eq_false_iff]
   intro h
   simp at h ht
   omega
  refine qF [] .nil (by simp;rfl) ?_
  simp only [zo,hto]
  rfl
 have hto:qM9 to=true:=by simpa using ht
 generalize hr:Stm.reads ⟨kind,to,a,c⟩=rs
 have hrl:rs.length≤2:=hr ▸ Stm.reads_len _
 refine qY (fun n st=>∃ i:Nat,n=rs.length - i∧i≤rs.length∧st.tm 1=iv b∧st.tm 3=.pt (.s 3) 0∧st.hp (.s 3)=some (.row 1 [[ksl p]])∧st.tm 5=.pt (.s 5) 0∧st.hp (.s 5)=some (.row 4 [[iv kind,iv to,iv a,iv c]])∧st.tm 8=iv i∧st.tm 7=.hs (.s 7) 1 0 rs.length∧st.hp (.s 7)=some (.row 1 (qJ rs))∧(rs.take i).all qM9=true) rs.length ?_ ?_
 ·exact⟨0,by simp [hr]⟩
 rintro n st - - ⟨i,rfl,hi,h1,h3,hp3,h5,hp5,h8,h7,hp7,hal⟩
 all_goals have fx:=aI h1<|aI h3<|aI hp3<|aI h5<|aI hp5<|aI h8<|aI h7<|hp7
 repeat' (first
  | refine qf ?_|refine qj fun K hK=>?_
  | ((with_reducible refine qc hK ?_);clear hK K)
  | (with_reducible first|refine qD ?_)
  | (with_reducible refine qO ?_)
  | (with_reducible refine x_q (h:=?_))
  | fail)
 all_goals try clear fx
 refine ub (by simp [];first|done|rfl|exact (Bool.not_not _).symm) (fun ht=>?_) (fun hf=>?_)
 ·have hlt:i<rs.length:=by simpa using ht
  obtain⟨y,hy⟩:∃ y,rs[i]?=some y:=⟨_,gE hlt⟩
  obtain⟨_,hy'⟩:=gS hy
  all_goals have fx:=aI h1<|aI h3<|aI hp3<|aI h5<|aI hp5<|aI h8<|aI h7<|aI hp7<|aI hy'<|hlt
  repeat' (first
   | refine qf ?_|refine qS ?_|refine q7 ?_|refine qj fun K hK=>?_
   | ((with_reducible refine qc hK ?_);clear hK K)
   | (with_reducible first|refine qD ?_|refine qP ?_|refine zK ?_)
   | refine qw ?_
   | (with_reducible refine qO ?_)
   | (with_reducible first|refine qG (h:=?_))
   | ((with_reducible refine z7 162 rfl ?_);refine qM (hF:=yy _ _) (h:=?_))
   | (with_reducible refine x_q (h:=?_))
   | refine qAF (h1:=fun ht=>?_) (h2:=fun ht=>?_)
   | fail)
  all_goals try clear fx
  ·have hno:qM9 y=false:=by
    rw [Bool.eq_false_iff]
    intro h
    simp at h ht
    omega
   refine qF [] .nil (by simp;rfl) ?_
   have hall:rs.all qM9=false:=by
    rw [Bool.eq_false_iff]
    intro h
    have:=List.all_eq_true.1 h y (gM hy)
    rw [hno] at this
    cases this
   simp only [zo,hr,hall]
   simp
  ·have hyes:qM9 y=true:=by simpa using ht
   refine⟨rs.length - (i+1),by omega,i+1,rfl,by omega,by simp [h1],by simp [h3],by simp [hp3],by simp [h5],by simp [hp5],by simp;exact wrp (by omega) (by omega),by simp [h7],by simp [hp7],?_⟩
   rw [List.take_add_one,hy,List.all_append,hal]
   simp only [Option.toList_some,List.all_cons,List.all_nil,hyes]
   rfl
 ·have hge:i=rs.length:=by
   have:¬ i<rs.length:=by simpa using hf
   omega
  subst hge
  rw [List.take_length] at hal
  have hok:zo p b k ⟨kind,to,a,c⟩=(if kind=0 then decide (0≤a)&&decide (a≤99)&&c==0 else if kind=1 then c==0 else if kind=2∨kind=5 then true
   else if kind=3 then c==0&&vF p b a 1 else if kind=4 then c==0&&vF p b a 2 else if kind=6 then qM9 c
   else if kind=7 then to==0&&c==0 else if kind=8 then to==0&&c==0&&k.kind==1
   else if kind=9∨kind=10 then a==0&&c==0&&k.kind != 0 else if kind=11 then a==0&&c==0 else false):=by
   simp only [zo,hr,hal,hto,Bool.true_and]
  rw [hok]
  clear hok
  all_goals have fx:=aI h1<|aI h3<|aI hp3<|aI h5<|aI hp5<|hk
  repeat' (first
   | refine qf ?_|refine qS ?_|refine q7 ?_|refine qj fun K hK=>?_
   | ((with_reducible refine qc hK ?_);clear hK K)
   | (with_reducible first|refine qD ?_|refine qP ?_|refine zK ?_)
   | refine jS ?_
   | refine qw ?_
   | (with_reducible refine qO ?_)
   | ((with_reducible refine vR ?_);refine q6 (h:=?_))
   | (with_reducible first|refine jV ?_|refine uz (h:=?_)|refine qG (h:=?_))
   | ((with_reducible refine z7 162 rfl ?_);refine qM (hF:=yy _ _) (h:=?_))
   | ((with_reducible refine z7 64 rfl ?_);refine qM (hF:=zh _ _ _ _) (h:=?_))
   | ((with_reducible refine z7 164 rfl ?_);refine qM (hF:=qLY _ p b _ _ hs hb) (h:=?_))
   | (with_reducible refine x_q (h:=?_))
   | (with_reducible refine kB (fun ht=>?_) (fun ht=>?_))
   | refine qR (h1:=?_)
   | refine qAF (h1:=fun ht=>?_) (h2:=fun ht=>?_)
   | fail)
  all_goals try clear fx
  all_goals refine qF [] .nil (by simp;rfl) ?_
  all_goals simp_all
  all_goals (intros;omega)
end Go.Proofs.YtbgmnmnoaamgkaaGreatDoor
end
section
namespace Go.Proofs.YtbgmnmnoaamgkaaGreatDoor
open Go Go.Hm Go.Proofs
abbrev qRM:Sch:=.q 0<|.q 1<|.q 2<|.q 3<|.q 4<|.q 5<|.q 6<|.q 7<|.q 8<|.q 9<|.q 10<|.l 11 []<|.done
abbrev qH0:Sch:=.q 0<|.q 1<|.q 2<|.q 3<|.q 4<|.q 5<|.q 6<|.q 7<|.q 8<|.q 9<|.q 10<|.l 11 [5,4,3,2]<|.q 12<|.done
theorem qLX (gl) (p:Prg) (b:Nat) (k:Blk) (hk:p[b]?=some k) (h0:0<b) (hh:z6 p) (hs:Sml p):qV Tryz.prog gl 128 [pav p,iv b] (fun _ y _=>y=iv (vQ p b)):=by
 refine qV.of_sem Tryz.func128 rfl (by kernel_rfl) (rs:=[.tmp 4]) rfl Tryz.ntmps128 (lB rfl) fun C w g root=>?_
 obtain⟨hp1,hp2,hp3⟩:=hh b k hk
 have hbl:b<p.length:=(gS hk).1
 have hkp:=hp3 h0
 obtain⟨q,hq⟩:∃ q,p[k.parent.toNat]?=some q:=⟨_,gE (by omega)⟩
 have hmi:vQ p b=((q.body.filter (fun s=>qAz s b)).length:Int):=by simp only [vQ,hk,hq]
 rw [hmi]
 have hql:=(hs.bsm hq).body
 have fx:=aI hk<|aI hq<|hkp
 refine qB ?_
 repeat ((first|refine wSc (id:=2) qRM qA ?_);refine qC ?_;refine qB ?_)
 clear fx
 refine qY (fun n st=>∃ i:Nat,n=q.body.length - i∧i≤q.body.length∧st.tm 1=iv b∧st.tm 6=ssl q.body∧st.tm 7=iv i∧∃ c:Nat,c=((q.body.take i).filter (fun s=>qAz s b)).length∧c≤i∧st.tm 5=iv c) q.body.length ?_ ?_
 ·exact⟨0,by simp⟩
 rintro n st - - ⟨i,rfl,hi,h1,h6,h7,c,hc,hci,h5⟩
 have fx:=aI h1<|aI h6<|aI h7<|h5
 refine qB ?_
 repeat ((first|refine wSc (id:=2) qRM qA ?_);refine qC ?_;refine qB ?_)
 clear fx
 refine ub (by simp [];first|done|rfl|exact (Bool.not_not _).symm) (fun ht=>?_) (fun hf=>?_)
 ·have hlt:i<q.body.length:=by simpa using ht
  obtain⟨s,hs⟩:∃ s,q.body[i]?=some s:=⟨_,gE hlt⟩
  all_goals have fx:=aI h1<|aI h6<|aI h7<|aI h5<|hs
  repeat' (first
   | refine qf ?_|refine qS ?_|refine q7 ?_|refine qj fun K hK=>?_
   | ((with_reducible refine qc hK ?_);clear hK K)
   | (with_reducible first|refine qD ?_)
   | (with_reducible refine qO ?_)
   | ((with_reducible refine vR ?_);refine q6 (h:=?_))
   | (with_reducible first|refine jV ?_|refine y7 ?_|refine uz (h:=?_)|refine qAC (h:=?_)|refine qG (h:=?_))
   | (with_reducible refine x_q (h:=?_))
   | (with_reducible refine kB (fun ht=>?_) (fun ht=>?_))
   | refine qg (h1:=?_)
   | refine qAF (h1:=fun ht=>?_) (h2:=fun ht=>?_)
   | fail)
  all_goals try clear fx
  all_goals refine⟨q.body.length - (i+1),by omega,i+1,rfl,by omega,by simp [h1],by simp [h6],by simp;exact wrp (by omega) (by omega),?_⟩
  all_goals refine⟨_,rfl,?_⟩
  all_goals simp only [qy hs,List.length_append]
  all_goals simp_all [qAz]
  all_goals first|exact wrp (by omega) (by omega)|omega
 ·have hge:i=q.body.length:=by
   have:¬ i<q.body.length:=by simpa using hf
   omega
  subst hge
  rw [List.take_length] at hc
  have fx:= h5
  refine qB ?_
  repeat ((first|refine wSc (id:=2) qRM qA ?_);refine qC ?_;refine qB ?_)
  clear fx
  refine qF [] .nil (by simp [];rfl) (by simp [hc])
theorem qDD (gl) (p:Prg) (b:Nat) (k:Blk) (hk:p[b]?=some k) (hb:b<p.length) (hs:Sml p):qV Tryz.prog gl 126 [pav p,iv b] (fun _ y _=>y=bv (vG b k)):=qDz gl p b k hk hb hs
theorem qDy (gl) (p:Prg) (hs:Sml p):qV Tryz.prog gl 91 [pav p] (fun _ y _=>y=bv (j2 p)):=by
 have hpl:=hs.len
 refine qV.of_sem Tryz.func91 rfl (by kernel_rfl) (rs:=[.tmp 2]) rfl Tryz.ntmps91 (lB rfl) fun C w g root=>?_
 all_goals have fx:=fx0
 repeat' (first
  | refine qf ?_|refine qS ?_|refine q7 ?_|refine qj fun K hK=>?_
  | ((with_reducible refine qc hK ?_);clear hK K)
  | (with_reducible first|refine qD ?_|refine qP ?_)
  | refine qw ?_
  | (with_reducible refine qO ?_)
  | (with_reducible first|refine qG (h:=?_)|refine zp (h:=?_))
  | ((with_reducible refine z7 64 rfl ?_);refine qM (hF:=zh _ _ _ _) (h:=?_))
  | (with_reducible refine x_q (h:=?_))
  | refine qAF (h1:=fun ht=>?_) (h2:=fun ht=>?_)
  | fail)
 all_goals try clear fx
 ·refine qF [] .nil (by simp;rfl) ?_
  have hno:(decide (1≤p.length)&&decide (p.length≤7))=false:=by
   rw [Bool.eq_false_iff]
   intro h
   simp at h ht
   omega
  simp only [j2,hno]
  rfl
 have hyes:(decide (1≤p.length)&&decide (p.length≤7))=true:=by
  simp at ht ⊢
  omega
 have hsh:j2 p=((List.range p.length).all (kC p)&&(List.range p.length).all (fun i=>i==0||vQ p i==1)):=by
  simp only [j2,hyes,Bool.true_and]
 rw [hsh]
 clear hsh
 refine qY (fun n st=>∃ i:Nat,n=p.length - i∧i≤p.length∧st.tm 1=.pt (.s 1) 0∧st.hp (.s 1)=some (.row 1 [[ksl p]])∧st.tm 3=iv i∧(List.range i).all (kC p)=true) p.length ?_ ?_
 ·exact⟨0,by simp⟩
 rintro n st - - ⟨i,rfl,hi,h1,hp1,h3,hal⟩
 have fx:=aI h1<|aI hp1<|h3
 refine qB ?_
 repeat ((first|refine wSc (id:=11) qH0 qA ?_);refine qC ?_;refine qB ?_)
 clear fx
 refine ub (by simp [];first|done|rfl|exact (Bool.not_not _).symm) (fun ht=>?_) (fun hf=>?_)
 ·have hlt:i<p.length:=by simpa using ht
  obtain⟨k,hk⟩:∃ k,p[i]?=some k:=⟨_,gE hlt⟩
  have hbf:kC p i=(vG i k&&decide (k.body.length≤12)&&k.body.all (zo p i k)):=by simp only [kC,hk]
  have fin:∀ R:Bool,kC p i=false→((List.range p.length).all (kC p)&&R)=false:=fun R h=>by rw [j4 hlt h];rfl
  have hbl:=(hs.bsm hk).body
  all_goals have fx:=aI h1<|aI hp1<|aI h3<|hk
  repeat' (first
   | refine qf ?_|refine qS ?_|refine q7 ?_|refine qj fun K hK=>?_
   | ((with_reducible refine qc hK ?_);clear hK K)
   | (with_reducible first|refine qD ?_|refine qP ?_|refine zK ?_)
   | refine qw ?_
   | (with_reducible refine qO ?_)
   | ((with_reducible refine vR ?_);refine q6 (h:=?_))
   | (with_reducible first|refine y7 ?_|refine qAC (h:=?_)|refine qG (h:=?_))
   | ((with_reducible refine z7 126 rfl ?_);refine qM (hF:=qDD _ p i k hk hlt hs) (h:=?_))
   | (with_reducible refine x_q (h:=?_))
   | (with_reducible refine kB (fun ht=>?_) (fun ht=>?_))
   | refine qR (h1:=?_)
   | refine qAF (h1:=fun ht=>?_) (h2:=fun ht=>?_)
   | fail)
  all_goals try clear fx
  ·refine qF [] .nil (by simp;rfl) ?_
   rw [fin _ (by rw [hbf,show vG i k=false by simpa using ht];rfl)]
   rfl
  ·refine qF [] .nil (by simp;rfl) ?_
   rw [fin _ (by rw [hbf,show decide (k.body.length≤12)=false by simp at ht ⊢;omega];simp)]
   rfl
  rename_i ht1
  have hhd:vG i k=true:=by simpa using ht1
  have hbd:k.body.length≤12:=by simp at ht;omega
  refine qY (fun n st=>∃ j:Nat,n=k.body.length - j∧j≤k.body.length∧st.tm 1=.pt (.s 1) 0∧st.hp (.s 1)=some (.row 1 [[ksl p]])∧st.tm 3=iv i∧st.tm 4=iv j∧(k.body.take j).all (zo p i k)=true) k.body.length ?_ ?_
  ·exact⟨0,by simp [h1,hp1,h3]⟩
  clear h1 hp1 h3 ht ht1
  rintro n st - - ⟨j,rfl,hj,h1,hp1,h3,h4,haj⟩
  have fx:=aI h1<|aI hp1<|aI h3<|aI h4<|hk
  refine qB ?_
  repeat ((first|refine wSc (id:=11) qH0 qA ?_);refine qC ?_;refine qB ?_)
  clear fx
  refine ub (by simp [];first|done|rfl|exact (Bool.not_not _).symm) (fun ht=>?_) (fun hf=>?_)
  ·have hlj:j<k.body.length:=by simpa using ht
   obtain⟨s,hsj⟩:∃ s,k.body[j]?=some s:=⟨_,gE hlj⟩
   all_goals have fx:=aI h1<|aI hp1<|aI h3<|aI h4<|aI hk<|hsj
   repeat' (first
    | refine qf ?_|refine qS ?_|refine q7 ?_|refine qj fun K hK=>?_
    | ((with_reducible refine qc hK ?_);clear hK K)
    | (with_reducible first|refine qD ?_|refine qP ?_|refine zK ?_|refine qCL ?_)
    | refine qw ?_
    | (with_reducible refine qO ?_)
    | (with_reducible first|refine qG (h:=?_))
    | ((with_reducible refine z7 127 rfl ?_);refine qM (hF:=qF4 _ p i k s hk hs hlt) (h:=?_))
    | (with_reducible refine x_q (h:=?_))
    | (refine wSc (id:=11) qH0 qA fun K hK=>?_)
    | ((with_reducible refine wL hK ?_);clear hK K)
    | ((with_reducible refine qDo ?_);first|refine qKR (h:=?_))
    | refine a_l rfl ?_|(with_reducible refine aI ?_ ?_)|exact kJ|refine qBw (h2:=?_)
    | refine qAF (h1:=fun ht=>?_) (h2:=fun ht=>?_)
    | fail)
   all_goals try clear fx
   ·refine qF [] .nil (by simp;rfl) ?_
    rw [fin _ (by rw [hbf,qGr (gM hsj) (show zo p i k s=false by simpa using ht)];simp)]
    rfl
   ·refine⟨k.body.length - (j+1),by omega,j+1,rfl,by omega,by simp [h1],by simp [hp1],by simp [h3],by simp;exact wrp (by omega) (by omega),?_⟩
    rw [List.take_add_one,hsj,List.all_append,haj]
    simpa using ht
  ·have hge:j=k.body.length:=by
    have:¬ j<k.body.length:=by simpa using hf
    omega
   subst hge
   rw [List.take_length] at haj
   have fx:=aI h1<|aI hp1<|aI h3<|aI h4<|hk
   refine qB ?_
   repeat ((first|refine wSc (id:=11) qH0 qA ?_);refine qC ?_;refine qB ?_)
   clear fx
   refine⟨p.length - (i+1),by omega,i+1,rfl,by omega,by simp [h1],by simp [hp1],by simp;exact wrp (by omega) (by omega),?_⟩
   rw [zw,hal,hbf,hhd,haj]
   simpa using hbd
 ·have hge:i=p.length:=by
   have:¬ i<p.length:=by simpa using hf
   omega
  subst hge
  have hh:=qIg hal
  rw [hal,Bool.true_and]
  have fx:=aI h1<|hp1
  refine qB ?_
  repeat ((first|refine wSc (id:=11) qH0 qA ?_);refine qC ?_;refine qB ?_)
  clear fx
  refine qY (fun n st=>∃ i:Nat,n=p.length - i∧i≤p.length∧1≤i∧st.tm 1=.pt (.s 1) 0∧st.hp (.s 1)=some (.row 1 [[ksl p]])∧st.tm 5=iv i∧(List.range i).all (fun i=>i==0||vQ p i==1)=true) (p.length - 1) ?_ ?_
  ·refine⟨1,by omega,?_,by omega,by simp [h1,hp1]⟩
   simp at hyes
   omega
  clear h1 hp1 h3 hi
  rintro n st - - ⟨i,rfl,hi,hi1,h1,hp1,h5,hmi⟩
  have fx:=aI h1<|aI hp1<|h5
  refine qB ?_
  repeat ((first|refine wSc (id:=11) qH0 qA ?_);refine qC ?_;refine qB ?_)
  clear fx
  refine ub (by simp [];first|done|rfl|exact (Bool.not_not _).symm) (fun ht=>?_) (fun hf=>?_)
  ·have hlt:i<p.length:=by simpa using ht
   obtain⟨k,hk⟩:∃ k,p[i]?=some k:=⟨_,gE hlt⟩
   all_goals have fx:=aI h1<|aI hp1<|aI h5<|@zU
   repeat' (first
    | refine qf ?_|refine qS ?_|refine q7 ?_|refine qj fun K hK=>?_
    | ((with_reducible refine qc hK ?_);clear hK K)
    | (with_reducible first|refine qD ?_|refine qP ?_|refine zK ?_)
    | refine qw ?_
    | (with_reducible refine qO ?_)
    | (with_reducible first|refine qG (h:=?_))
    | ((with_reducible refine z7 128 rfl ?_);refine qM (hF:=qLX _ p i k hk hi1 hh hs) (h:=?_))
    | (with_reducible refine x_q (h:=?_))
    | refine qAF (h1:=fun ht=>?_) (h2:=fun ht=>?_)
    | fail)
   all_goals try clear fx
   ·refine qF [] .nil (by simp;rfl) ?_
    rw [j4 hlt (show (i==0||vQ p i==1)=false by simp at ht ⊢;exact⟨by omega,ht⟩)]
    rfl
   ·refine⟨p.length - (i+1),by omega,i+1,rfl,by omega,by omega,by simp [h1],by simp [hp1],by simp;exact wrp (by omega) (by omega),?_⟩
    rw [zw,hmi]
    simp at ht ⊢
    exact .inr ht
  ·have hge:i=p.length:=by
    have:¬ i<p.length:=by simpa using hf
    omega
   subst hge
   have fx:=fx0
   refine qB ?_
   repeat ((first|refine wSc (id:=11) qH0 qA ?_);refine qC ?_;refine qB ?_)
   clear fx
   refine qF [] .nil (by simp [];rfl) (by simp [hmi])
theorem jT (gl) (p:Prg) (hs:Sml p):qV Tryz.prog gl 63 [pav p] (fun _ y _=>y=bv (jY p)):=by
 have hpl:=hs.len
 refine qV.of_sem Tryz.func63 rfl (by kernel_rfl) (rs:=[.tmp 2]) rfl Tryz.ntmps63 (lB rfl) fun C w g root=>?_
 all_goals have fx:=fx0
 repeat' (first
  | refine qf ?_|refine qS ?_|refine q7 ?_|refine qj fun K hK=>?_
  | ((with_reducible refine qc hK ?_);clear hK K)
  | (with_reducible first|refine qD ?_|refine qb ?_|refine qu ?_|refine zr ?_|refine qP ?_|refine zK ?_|refine zP (by decide) ?_)
  | refine jS ?_
  | refine qw ?_
  | (with_reducible refine qO ?_)
  | ((with_reducible refine vR ?_);refine q6 (h:=?_))
  | (with_reducible first|refine jV ?_|refine y7 ?_|refine uz (h:=?_)|refine qAC (h:=?_)|refine x_u (h:=?_)|refine qG (h:=?_)|refine zp (h:=?_))
  | ((with_reducible refine z7 91 rfl ?_);refine qM (hF:=qDy _ p hs) (h:=?_))
  | (with_reducible refine x_q (h:=?_))
  | (with_reducible refine kB (fun ht=>?_) (fun ht=>?_))
  | refine qR (h1:=?_)|refine qg (h1:=?_)
  | refine qAF (h1:=fun ht=>?_) (h2:=fun ht=>?_)
  | fail)
 all_goals try clear fx
 ·refine qF [] .nil (by simp;rfl) ?_
  have:j2 p=false:=by simpa using ht
  simp only [jY,this]
  rfl
 have hsh:j2 p=true:=by simpa using ht
 obtain⟨hh,hl1,hl7,_,_⟩:=qAN hsh
 have hpo:jY p=(List.range p.length).all (fun b=>b==0||jt p b):=by simp only [jY,hsh,Bool.true_and]
 rw [hpo]
 clear hpo ht
 refine qY (fun n st=>∃ i:Nat,n=p.length - i∧i≤p.length∧1≤i∧st.tm 1=.pt (.s 1) 0∧st.hp (.s 1)=some (.row 1 [[ksl p]])∧st.tm 3=iv i∧(List.range i).all (fun b=>b==0||jt p b)=true) (p.length - 1) ?_ ?_
 ·exact⟨1,rfl,hl1,by omega,by simp⟩
 rintro n st - - ⟨i,rfl,hi,hi1,h1,hp1,h3,hal⟩
 have fx:=aI h1<|aI hp1<|h3
 refine qB ?_
 clear fx
 refine ub (by simp [];first|done|rfl|exact (Bool.not_not _).symm) (fun ht=>?_) (fun hf=>?_)
 ·have hlt:i<p.length:=by simpa using ht
  obtain⟨k,hk⟩:∃ k,p[i]?=some k:=⟨_,gE hlt⟩
  have hpar:=(hs.bsm hk).params
  have hdo:jt p i=(List.range 8).all (fun x=>yk p i k (x:Int)):=by simp only [jt,hk]
  all_goals have fx:=aI h1<|aI hp1<|aI h3<|hk
  repeat' (first
   | refine qf ?_|refine qS ?_|refine q7 ?_|refine qj fun K hK=>?_
   | ((with_reducible refine qc hK ?_);clear hK K)
   | (with_reducible first|refine qD ?_|refine qb ?_|refine qu ?_|refine zr ?_|refine qP ?_|refine zK ?_|refine zP (by decide) ?_)
   | refine jS ?_
   | refine qw ?_
   | (with_reducible refine qO ?_)
   | ((with_reducible refine vR ?_);refine q6 (h:=?_))
   | (with_reducible first|refine jV ?_|refine y7 ?_|refine uz (h:=?_)|refine qAC (h:=?_)|refine x_u (h:=?_)|refine qG (h:=?_)|refine zp (h:=?_))
   | ((with_reducible refine z7 92 rfl ?_);refine jK (hF:=zm _ p i k _ hk (hs.bsm hk)) (h:=?_))
   | (with_reducible refine x_q (h:=?_))
   | (with_reducible refine kB (fun ht=>?_) (fun ht=>?_))
   | refine qR (h1:=?_)|refine qg (h1:=?_)
   | fail)
  all_goals try clear fx
  refine qY (fun n st=>∃ x:Nat,n=8 - x∧x≤8∧st.tm 1=.pt (.s 1) 0∧st.hp (.s 1)=some (.row 1 [[ksl p]])∧st.tm 3=iv i∧st.tm 4=.hs (.s 4) 1 0 (k.dc 9).length∧st.hp (.s 4)=some (.row 1 (qJ (k.dc 9)))∧st.tm 5=.hs (.s 5) 1 0 (k.dc 10).length∧st.hp (.s 5)=some (.row 1 (qJ (k.dc 10)))∧st.tm 6=iv x∧(List.range x).all (fun x=>yk p i k (x:Int))=true) 8 ?_ ?_
  ·exact⟨0,by simp [h1,hp1,h3]⟩
  clear h1 hp1 h3 ht
  rintro n st - - ⟨x,rfl,hx,h1,hp1,h3,h4,hp4,h5,hp5,h6,hax⟩
  have fx:=aI h1<|aI hp1<|aI h3<|aI h4<|aI hp4<|aI h5<|aI hp5<|h6
  refine qB ?_
  clear fx
  refine ub (by simp [];first|done|rfl|exact (Bool.not_not _).symm) (fun ht=>?_) (fun hf=>?_)
  ·have hx7:(x:Int)≤7:=by simpa using ht
   have hx8:x<8:=by omega
   all_goals have fx:=aI h1<|aI hp1<|aI h3<|aI h4<|aI hp4<|aI h5<|aI hp5<|aI h6<|hk
   repeat' (first
    | refine qf ?_|refine qS ?_|refine q7 ?_|refine qj fun K hK=>?_
    | ((with_reducible refine qc hK ?_);clear hK K)
    | (with_reducible first|refine qD ?_|refine qb ?_|refine qu ?_|refine zr ?_|refine qP ?_|refine zK ?_|refine zP (by decide) ?_)
    | refine jS ?_
    | refine qw ?_
    | (with_reducible refine qO ?_)
    | ((with_reducible refine vR ?_);refine q6 (h:=?_))
    | (with_reducible first|refine jV ?_|refine y7 ?_|refine uz (h:=?_)|refine qAC (h:=?_)|refine x_u (h:=?_)|refine qG (h:=?_)|refine zp (h:=?_))
    | ((with_reducible refine z7 93 rfl ?_);refine qM (hF:=yJ _ _ _ (by first|exact Nat.le_trans (Blk.dc_len _ _) (by decide)|omega)) (h:=?_))
    | ((with_reducible refine z7 94 rfl ?_);refine qM (hF:=vX _ p i k _ hk hs hh) (h:=?_))
    | (with_reducible refine x_q (h:=?_))
    | (with_reducible refine kB (fun ht=>?_) (fun ht=>?_))
    | refine qR (h1:=?_)|refine qg (h1:=?_)
    | refine qAF (h1:=fun ht=>?_) (h2:=fun ht=>?_)
    | fail)
   all_goals try clear fx
   all_goals first
    | (have hd:yk p i k x=false:=by
        simp only [yk]
        clear hal hax hpar hs hh h1 hp1 h3 h4 hp4 h5 hp5 h6 hdo hsh hk
        simp_all
       refine qF [] .nil (by simp;rfl) ?_
       rw [j4 hlt (show (i==0||jt p i)=false by rw [hdo,j4 hx8 hd];simp;omega)]
       rfl)
    | (have hd:yk p i k x=true:=by
        simp only [yk]
        clear hal hax hpar hs hh h1 hp1 h3 h4 hp4 h5 hp5 h6 hdo hsh hk
        simp_all
       refine⟨8 - (x+1),by omega,x+1,rfl,by omega,by simp [h1],by simp [hp1],by simp [h3],by simp [h4],by simp [hp4],by simp [h5],by simp [hp5],by simp;exact wrp (by omega) (by omega),?_⟩
       rw [zw,hax,hd]
       rfl)
  ·have hge:x=8:=by
    have:¬ (x:Int)≤7:=by simpa using hf
    omega
   subst hge
   have fx:=aI h1<|aI hp1<|h3
   refine qB ?_
   clear fx
   refine⟨p.length - (i+1),by omega,i+1,rfl,by omega,by omega,by simp [h1],by simp [hp1],by simp;exact wrp (by omega) (by omega),?_⟩
   rw [zw,hal,hdo,hax]
   simp
 ·have hge:i=p.length:=by
   have:¬ i<p.length:=by simpa using hf
   omega
  subst hge
  have fx:=fx0
  refine qB ?_
  clear fx
  refine qF [] .nil (by simp [];rfl) (by simp [hal])
end Go.Proofs.YtbgmnmnoaamgkaaGreatDoor
end
section
namespace Go.Proofs.YtbgmnmnoaamgkaaGreatDoor
open Go Go.Hm Go.Proofs
abbrev qNw:Sch:=.q 0<|.q 1<|.q 2<|.q 3<|.q 4<|.q 5<|.q 6<|.q 7<|.q 10<|.q 11<|.l2 8 [11,10,5,4,3,2,1,0] (.l 9 [11,10,5,4,3,2,1,0]<|.l 12 [5,4,3,2,1,0]<|.q 13<|.l 14 [1,0]<|.l 15 []<|.q 16<|.l 17 []<|.done) 9 [11,10,7,6,5,4,3,2,1,0] (.l 8 [11,10,5,4,3,2,1,0]<|.l 12 [5,4,3,2,1,0]<|.q 13<|.l 14 [1,0]<|.l 15 []<|.q 16<|.l 17 []<|.done)
theorem qDO (gl) (p:Prg) (hs:Sml p):qV Tryz.prog gl 177 [pav p] (fun r y H'=>y=.agg [.hs r 4 0 p.length]∧OwnP H' r p):=by
 have hpl:=hs.len
 refine qV.of_sem Tryz.func177 rfl (by kernel_rfl) (rs:=[.cell 2 29]) rfl Tryz.ntmps177 (lB rfl) fun C w g root=>?_
 have fx:=fx0
 refine qB ?_
 repeat ((first|refine wSc (id:=6) qNw qA ?_);refine qC ?_;refine qB ?_)
 clear fx
 refine qY (fun n st=>∃ i:Nat,n=p.length - i∧i≤p.length∧st.tm 1=.pt (.s 1) 0∧st.hp (.s 1)=some (.row 1 [[ksl p]])∧st.tm 2=.pt (.s 2) 0∧st.hp (.s 2)=some (.row 1 [[.hs (.c (.s 2) 0 0) 4 0 0]])∧st.tm 3=.pt (.s 3) 0∧st.tm 4=iv i∧∃ q:Prg,q=p.take i∧q.length=i∧st.hp (.s 3)=some (.row 1 [[.hs (.c (.s 3) 0 0) 4 0 q.length]])∧OwnP st.hp (.c (.s 3) 0 0) q) p.length ?_ ?_
 ·refine⟨0,by omega,by omega,by simp,by simp,by simp,by simp,by simp,by simp,[],rfl,rfl,by simp,by simp,by simp,by simp⟩
 rintro n st - - ⟨i,rfl,hi,h1,hp1,h2,hp2,h3,h4,q,hq,hql,hp3,⟨ht1,ht2,ht3⟩⟩
 have fx:=aI h1<|aI hp1<|h4
 refine qB ?_
 repeat ((first|refine wSc (id:=6) qNw qA ?_);refine qC ?_;refine qB ?_)
 clear fx
 refine ub (by simp [];first|done|rfl|exact (Bool.not_not _).symm) (fun ht=>?_) (fun hf=>?_)
 ·have hlt:i<p.length:=by simpa using ht
  obtain⟨k,hk⟩:∃ k,p[i]?=some k:=⟨_,gE hlt⟩
  obtain⟨hkp,hkb⟩:=hs.bsm hk
  clear ht
  all_goals have fx:=aI h1<|aI hp1<|aI h4<|aI h3<|aI hp3<|aI ht1<|hk
  repeat' (first
   | refine qf ?_|refine qS ?_|refine q7 ?_|refine qj fun K hK=>?_
   | ((with_reducible refine qc hK ?_);clear hK K)
   | (with_reducible first|refine qD ?_|refine qb ?_|refine qu ?_|refine zr ?_|refine qP ?_|refine zK ?_|refine qCL ?_|refine zP (by decide) ?_)
   | refine jS ?_
   | refine qw ?_
   | (with_reducible first|refine qO ?_|refine qG (h:=?_)|refine zp (h:=?_)|refine zk (h:=?_)|refine qp (h:=?_)|refine jA (T:=43) (h:=?_)|refine jP (T:=43) (h:=?_)|refine jA (T:=27) (h:=?_)|refine qKT (T:=27) (h:=?_)|refine jn (h:=?_)|refine jp (h:=?_))
   | ((with_reducible refine z7 132 rfl ?_);refine jK (hF:=wt _ k.params (by omega)) (h:=?_))
   | (with_reducible refine x_q (h:=?_))
   | refine qR (h1:=?_)|refine qg (h1:=?_)
   | (refine wSc (id:=6) qNw qA fun K hK=>?_)
   | ((with_reducible refine wL hK ?_);clear hK K)
   | ((with_reducible refine qDo ?_);first|refine qKR (h:=?_)|refine qDv (h:=?_)|refine qDw (h:=?_)|refine qDu (h:=?_))
   | ((with_reducible refine qDo ?_);refine qDx (h1:=fun ht=>?_) (h2:=fun ht=>?_))
   | refine a_l rfl ?_|refine qPE ?_ ?_|refine qPD ?_ ?_ ?_|(with_reducible refine aI ?_ ?_)|exact kJ|refine qBw (h2:=?_)
   | fail)
  all_goals try clear fx
  all_goals
   refine⟨p.length - (i+1),by omega,i+1,rfl,by omega,by simp [h1],by simp [hp1],by simp [h2],by simp [hp2],by simp [h3],by simp;exact wrp (by omega) (by omega),q++[k],by rw [List.take_add_one,hk,hq];rfl,by simp [hql],by simp,⟨?_,?_,?_⟩⟩
   ·simp [ht1,qGJ]
   ·intro j r hj
    rcases Nat.lt_or_ge j q.length with hlj|hgj
    ·rw [List.getElem?_append_left hlj] at hj
     have hne:¬ j=q.length:=by omega
     simp [ht2 j r hj,hne]
    ·rw [List.getElem?_append_right hgj] at hj
     obtain rfl:j=q.length:=by
      have:=(gS hj).1
      simp at this
      omega
     simp at hj
     subst hj
     simp
   ·intro j r hj
    rcases Nat.lt_or_ge j q.length with hlj|hgj
    ·rw [List.getElem?_append_left hlj] at hj
     have hne:¬ j=q.length:=by omega
     simp [ht3 j r hj,hne]
    ·rw [List.getElem?_append_right hgj] at hj
     obtain rfl:j=q.length:=by
      have:=(gS hj).1
      simp at this
      omega
     simp at hj
     subst hj
     simp
 ·have hge:i=p.length:=by
   have:¬ i<p.length:=by simpa using hf
   omega
  have hqp:q=p:=by rw [hq,hge,List.take_length]
  subst hqp
  have fx:=aI h1<|aI h2<|aI hp2<|aI h3<|hp3
  refine qB ?_
  repeat ((first|refine wSc (id:=6) qNw qA ?_);refine qC ?_;refine qB ?_)
  clear fx
  refine qF [(.c (.s 3) 0 0,root)] (.one rfl) (by simp [h2];rfl) ⟨by simp,⟨?_,fun j r hj=>?_,fun j r hj=>?_⟩⟩
  ·simp [ht1,zO (n:=.c (.s 3) 0 0) (m:=root) (f:=zu noD [(.c (.s 3) 0 0,root)]) (p:=q) (by simp)]
  ·simp [ht2 j r hj]
  ·simp [ht3 j r hj]
end Go.Proofs.YtbgmnmnoaamgkaaGreatDoor
end
