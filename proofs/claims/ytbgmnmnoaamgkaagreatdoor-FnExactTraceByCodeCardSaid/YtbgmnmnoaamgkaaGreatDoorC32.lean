/-
  Own texts, joined by mkclaim.py: Zg, Zv, Zw.
-/
import Derived.Test.YtbgmnmnoaamgkaaGreatDoorC25
import Derived.Test.YtbgmnmnoaamgkaaGreatDoorC17
import Derived.Test.YtbgmnmnoaamgkaaGreatDoorC29
import Derived.Test.YtbgmnmnoaamgkaaGreatDoorC30
import Derived.Test.YtbgmnmnoaamgkaaGreatDoorC31
import Derived.Test.YtbgmnmnoaamgkaaGreatDoorC18
set_option linter.unusedSimpArgs false
set_option linter.unusedVariables false
set_option maxRecDepth 100000
set_option maxHeartbeats 4000000

section
namespace Go.Proofs.YtbgmnmnoaamgkaaGreatDoor
open Go Go.Hm Go.Proofs
abbrev qAT:Sch:=.q 0<|.q 1<|.q 2<|.q 3<|.q 4<|.q 5<|.q 6<|.q 7<|.q 8<|.q 9<|.q 10<|.q 11<|.q 12<|.done
abbrev yn:Sch:=.q 0<|.q 1<|.q 2<|.q 3<|.q 4<|.q 5<|.q 6<|.q 7<|.q 8<|.l 9 [4,2,1]<|.done
abbrev qAS:Sch:=.q 0<|.q 1<|.q 2<|.q 3<|.q 4<|.q 5<|.q 6<|.q 7<|.done
theorem qHl (gl) (H:Nm→Option AO) (p:Prg) (m:Mch) (fs:List Frm) (f:Frm) (c x:Nat) (hc:c=8∨c=11) (hx:x<8) (hg8:m.globals.length=8) (hn8:f.names.length=8) (hm0:m.en=0) (hfl:fs.length≤150) (hsl:f.stack.length≤1000) (hO:OwnY H p (m.top fs f)) :
  FnE Tryz.prog gl 151 DM [.pt Yn 0,.pt Yn (yo fs.length),.agg [iv c,iv x]] H (fun _ y H'=>y=bv (decide ((yj p m fs f (c,(x:Int))).en=0))∧OwnY H' p (yj p m fs f (c,(x:Int)))) noE:=by
 refine FnE.of_sem Tryz.func151 rfl (by kernel_rfl) (rs:=[.tmp 6]) rfl Tryz.ntmps151 (lB rfl) (fun _=>qQ) fun C w g root hroot=>?_
 have fx:=fx0
 refine qB ?_
 clear fx
 refine vH (fun s=>s.tm 0=.pt Yn 0∧s.tm 1=.pt Yn (yo fs.length)∧s.tm 5=.pt (.s 5) 0∧s.hp (.s 5)=some (.row 2 [[iv c,iv x]])∧OwnY s.hp p (m.top fs f)) ⟨by simp,by simp,by simp,by simp,hO.ren (f:=kl (.s 5)) (fun k hk=>by simp [kl,(D_s (fun _=>qQ) hk 5).2]) (fun k hk=>by have:=D_s (fun _=>qQ) hk 5;simp [this.1,this.2])⟩ ?_
 have h0:=hO
 clear hO
 rintro s ⟨t0,t1,t5,p5,hO⟩
 obtain⟨R,j,hT,tr,h2,h3,h28⟩:=hO.topT rfl (by omega)
 have hRl:=tr.len
 have f28:=tr.f28
 have yoh:yo fs.length+29≤4415:=by simp only [yo];omega
 have hwy:wH p f (c,(x:Int))=4:=by rcases hc with rfl|rfl <;> simp [wH]
 have g0:=tr.gl x 0 hx (by omega)
 have g1:=tr.gl x 1 hx (by omega)
 have g2:=tr.gl x 2 hx (by omega)
 have n0:=tr.nm x 0 hx (by omega)
 have n1:=tr.nm x 1 hx (by omega)
 have n2:=tr.nm x 2 hx (by omega)
 simp only [Mch.top,Nat.add_zero] at g0 g1 g2 n0
 rw [Nat.mul_comm] at g0 g1 g2 n0 n1 n2
 rw [← Nat.add_assoc] at g1 g2 n1 n2
 have hgN:∀ sn,yt f.names x=sn→qBc m f (((11:Nat):Int),(x:Int))=sn:=fun sn h=>by simp [qBc,h]
 have hgG:∀ sg,yt m.globals x=sg→qBc m f (((8:Nat):Int),(x:Int))=sg:=fun sg h=>by simp [qBc,h]
 have hrest:(c=8∨yt f.names x=none)→yj p m fs f (c,(x:Int))=match yt m.globals x with
   | some v=>m.top fs (f.push v)
   | none=>if (x:Int)=7 then m.top fs (f.push (1,70)) else m.stop fs f 4:=by
  intro h
  rcases hc with rfl|rfl
  ·cases hs:yt m.globals x with
   | some v=>simp only [yj,hgG _ hs]
   | none=>simp only [yj,hgG _ hs,hwy,if_true,Int.toNat_natCast,hs]
  ·rcases h with h|h
   ·cases h
   ·simp only [yj,hgN _ h,hwy,if_true,Int.toNat_natCast]
    rfl
 obtain⟨sn,hsn⟩:∃ sn,yt f.names x=sn:=⟨_,rfl⟩
 obtain⟨sg,hsg⟩:∃ sg,yt m.globals x=sg:=⟨_,rfl⟩
 rw [hsg] at g0 g1 g2 hrest
 rw [hsn] at n0 n1 n2
 have hx7:x≤7:=by omega
 have hlg:6+x * 3+3≤4415:=by omega
 have hln:yo fs.length+4+x * 3+3≤4415:=by omega
 have hxl:(x:Int)<8:=by omega
 rcases hc with rfl|rfl
 ·replace hrest:=hrest (.inl rfl)
  cases sg with
  | some v =>
   obtain⟨v1,v2⟩:=v
   simp only at hrest
   rw [hrest]
   simp only [ve,List.getElem?_cons_zero,List.getElem?_cons_succ] at g0 g1 g2
   obtain⟨_,g0E⟩:=gS g0
   have g12:=kw g1 g2
   have hl2:6+x * 3+1+2≤4415:=by omega
   have fx:=aI t0<|aI t1<|aI t5<|aI p5<|aI hT<|aI hRl<|aI hlg<|aI hl2<|aI g0<|aI g0E<|aI g12<|hxl
   refine qB ?_
   repeat ((first|refine wSc (id:=1) qAT qA ?_|refine wSc (id:=2) yn qA ?_|refine wSc (id:=4) qAS qA ?_|refine wSc (id:=5) yn qA ?_);refine qD ?_;refine qB ?_)
   clear fx
   intro K hK
   have fx:=aI t0<|aI t1<|aI t5<|aI p5<|aI hT<|aI hRl<|aI hlg<|aI hl2<|aI g0<|aI g0E<|aI g12<|hxl
   refine qZ h0 (have h:=hO;OwnY.re h) (Nat.le_refl _) (hF:=fun _=>jh gl DM (fun _=>qQ) _ R (yo fs.length) f.stack j (v1,v2) rfl rfl (by simp [hT]) f28 (by simp [h28]) hsl yoh) (h:=?_)
   intro y H1 hw
   clear fx
   have hO1:=OwnY.pushed (m:=m.top fs f) (by exact (have h:=hO;OwnY.re h)) rfl (by omega) rfl (by simp [hT]) hw
   obtain⟨R1,j1,hT1,tr1,-,-,-⟩:=OwnY.topT (f:=f.push (v1,v2)) hO1 rfl (by omega)
   have hR1l:=tr1.len
   have k12:=tr1.glv hx hsg
   have fx:=aI t0<|aI t1<|aI t5<|aI p5<|aI hT<|aI hT1<|aI hR1l<|aI hl2<|aI k12<|hxl
   refine qB ?_
   repeat ((first|refine wSc (id:=1) qAT qA ?_|refine wSc (id:=2) yn qA ?_|refine wSc (id:=4) qAS qA ?_|refine wSc (id:=5) yn qA ?_);refine qD ?_;refine qB ?_)
   clear fx
   refine qH [] .nil (by simp;rfl) ⟨by simp [Mch.top,hm0],OwnY.fin (have h:=hO1;OwnY.re h)⟩
  | none =>
   simp only at hrest
   simp only [vf,List.getElem?_cons_zero] at g0
   obtain⟨_,g0E⟩:=gS g0
   by_cases x7:x=7
   ·subst x7
    rw [if_pos (by rfl)] at hrest
    rw [hrest]
    have fx:=aI t0<|aI t1<|aI t5<|aI p5<|aI hT<|aI hRl<|aI g0<|g0E
    refine qB ?_
    repeat ((first|refine wSc (id:=1) qAT qA ?_|refine wSc (id:=2) yn qA ?_|refine wSc (id:=4) qAS qA ?_|refine wSc (id:=5) yn qA ?_);refine qD ?_;refine qB ?_)
    clear fx
    intro K hK
    have fx:=aI t0<|aI t1<|aI t5<|aI p5<|aI hT<|aI hRl<|aI g0<|g0E
    refine qZ h0 (have h:=hO;OwnY.re h) (Nat.le_refl _) (hF:=fun _=>jh gl DM (fun _=>qQ) _ R (yo fs.length) f.stack j (1,70) rfl rfl (by simp [hT]) f28 (by simp [h28]) hsl yoh) (h:=?_)
    intro y H1 hw
    clear fx
    have hO1:=OwnY.pushed (m:=m.top fs f) (by exact (have h:=hO;OwnY.re h)) rfl (by omega) rfl (by simp [hT]) hw
    have fx:=fx0
    refine qB ?_
    repeat ((first|refine wSc (id:=1) qAT qA ?_|refine wSc (id:=2) yn qA ?_|refine wSc (id:=4) qAS qA ?_|refine wSc (id:=5) yn qA ?_);refine qD ?_;refine qB ?_)
    clear fx
    refine qH [] .nil (by simp;rfl) ⟨by simp [Mch.top,hm0],OwnY.fin (have h:=hO1;OwnY.re h)⟩
   ·rw [if_neg (by omega)] at hrest
    rw [hrest]
    have x7':((x:Int)==7)=false:=by rw [beq_eq_false_iff_ne];omega
    have fx:=aI t0<|aI t1<|aI t5<|aI p5<|aI hT<|aI hRl<|aI hlg<|aI g0<|aI g0E<|aI x7'<|hxl
    refine qB ?_
    repeat ((first|refine wSc (id:=1) qAT qA ?_|refine wSc (id:=2) yn qA ?_|refine wSc (id:=4) qAS qA ?_|refine wSc (id:=5) yn qA ?_);refine qD ?_;refine qB ?_)
    clear fx
    intro K hK
    have fx:=aI t0 t1
    refine qZ h0 (have h:=hO;OwnY.re h) (Nat.le_refl _) (hF:=fun _=>yM gl DM (fun _=>qQ) _ R 4 (by simp [hT]) hRl) (h:=?_)
    intro y H1 hw
    clear fx
    have hO1:=OwnY.wrp (OwnY.stopped (m:=m.top fs f) (e:=4) (have h:=hO;OwnY.re h) rfl (by simp [hT])) hw
    obtain⟨rfl,-⟩:=hw
    have fx:=fx0
    refine qB ?_
    repeat ((first|refine wSc (id:=1) qAT qA ?_|refine wSc (id:=2) yn qA ?_|refine wSc (id:=4) qAS qA ?_|refine wSc (id:=5) yn qA ?_);refine qD ?_;refine qB ?_)
    clear fx
    refine qH [] .nil (by simp;rfl) ⟨by simp [Mch.stop],OwnY.fin (have h:=hO1;OwnY.re h)⟩
 ·cases sn with
  | some v =>
   obtain⟨v1,v2⟩:=v
   have hres:yj p m fs f (((11:Nat):Int),(x:Int))=m.top fs (f.push (v1,v2)):=by simp only [yj,hgN _ hsn]
   rw [hres]
   simp only [ve,List.getElem?_cons_zero,List.getElem?_cons_succ] at n0 n1 n2
   obtain⟨_,n0E⟩:=gS n0
   have n12:=kw n1 n2
   have hl2:yo fs.length+4+x * 3+1+2≤4415:=by omega
   have fx:=aI t0<|aI t1<|aI t5<|aI p5<|aI hT<|aI hRl<|aI hln<|aI hl2<|aI n0<|aI n0E<|aI n12<|hxl
   refine qB ?_
   repeat ((first|refine wSc (id:=1) qAT qA ?_|refine wSc (id:=2) yn qA ?_|refine wSc (id:=4) qAS qA ?_|refine wSc (id:=5) yn qA ?_);refine qD ?_;refine qB ?_)
   clear fx
   intro K hK
   have fx:=aI t0<|aI t1<|aI t5<|aI p5<|aI hT<|aI hRl<|aI hln<|aI hl2<|aI n0<|aI n0E<|aI n12<|hxl
   refine qZ h0 (have h:=hO;OwnY.re h) (Nat.le_refl _) (hF:=fun _=>jh gl DM (fun _=>qQ) _ R (yo fs.length) f.stack j (v1,v2) rfl rfl (by simp [hT]) f28 (by simp [h28]) hsl yoh) (h:=?_)
   intro y H1 hw
   clear fx
   have hO1:=OwnY.pushed (m:=m.top fs f) (by exact (have h:=hO;OwnY.re h)) rfl (by omega) rfl (by simp [hT]) hw
   obtain⟨R1,j1,hT1,tr1,-,-,-⟩:=OwnY.topT (f:=f.push (v1,v2)) hO1 rfl (by omega)
   have hR1l:=tr1.len
   have k12:=tr1.nmv hx hsn
   have fx:=aI t0<|aI t1<|aI t5<|aI p5<|aI hT<|aI hT1<|aI hR1l<|aI hl2<|aI k12<|hxl
   refine qB ?_
   repeat ((first|refine wSc (id:=1) qAT qA ?_|refine wSc (id:=2) yn qA ?_|refine wSc (id:=4) qAS qA ?_|refine wSc (id:=5) yn qA ?_);refine qD ?_;refine qB ?_)
   clear fx
   refine qH [] .nil (by simp;rfl) ⟨by simp [Mch.top,hm0],OwnY.fin (have h:=hO1;OwnY.re h)⟩
  | none =>
   replace hrest:=hrest (.inr hsn)
   simp only [vf,List.getElem?_cons_zero] at n0
   obtain⟨_,n0E⟩:=gS n0
   cases sg with
   | some v =>
    obtain⟨v1,v2⟩:=v
    simp only at hrest
    rw [hrest]
    simp only [ve,List.getElem?_cons_zero,List.getElem?_cons_succ] at g0 g1 g2
    obtain⟨_,g0E⟩:=gS g0
    have g12:=kw g1 g2
    have hl2:6+x * 3+1+2≤4415:=by omega
    have fx:=aI t0<|aI t1<|aI t5<|aI p5<|aI hln<|aI n0<|aI n0E<|aI hT<|aI hRl<|aI hlg<|aI hl2<|aI g0<|aI g0E<|aI g12<|hxl
    refine qB ?_
    repeat ((first|refine wSc (id:=1) qAT qA ?_|refine wSc (id:=2) yn qA ?_|refine wSc (id:=4) qAS qA ?_|refine wSc (id:=5) yn qA ?_);refine qD ?_;refine qB ?_)
    clear fx
    intro K hK
    have fx:=aI t0<|aI t1<|aI t5<|aI p5<|aI hln<|aI n0<|aI n0E<|aI hT<|aI hRl<|aI hlg<|aI hl2<|aI g0<|aI g0E<|aI g12<|hxl
    refine qZ h0 (have h:=hO;OwnY.re h) (Nat.le_refl _) (hF:=fun _=>jh gl DM (fun _=>qQ) _ R (yo fs.length) f.stack j (v1,v2) rfl rfl (by simp [hT]) f28 (by simp [h28]) hsl yoh) (h:=?_)
    intro y H1 hw
    clear fx
    have hO1:=OwnY.pushed (m:=m.top fs f) (by exact (have h:=hO;OwnY.re h)) rfl (by omega) rfl (by simp [hT]) hw
    obtain⟨R1,j1,hT1,tr1,-,-,-⟩:=OwnY.topT (f:=f.push (v1,v2)) hO1 rfl (by omega)
    have hR1l:=tr1.len
    have k12:=tr1.glv hx hsg
    have fx:=aI t0<|aI t1<|aI t5<|aI p5<|aI hT<|aI hT1<|aI hR1l<|aI hl2<|aI k12<|hxl
    refine qB ?_
    repeat ((first|refine wSc (id:=1) qAT qA ?_|refine wSc (id:=2) yn qA ?_|refine wSc (id:=4) qAS qA ?_|refine wSc (id:=5) yn qA ?_);refine qD ?_;refine qB ?_)
    clear fx
    refine qH [] .nil (by simp;rfl) ⟨by simp [Mch.top,hm0],OwnY.fin (have h:=hO1;OwnY.re h)⟩
   | none =>
    simp only at hrest
    simp only [vf,List.getElem?_cons_zero] at g0
    obtain⟨_,g0E⟩:=gS g0
    by_cases x7:x=7
    ·subst x7
     rw [if_pos (by rfl)] at hrest
     rw [hrest]
     have fx:=aI t0<|aI t1<|aI t5<|aI p5<|aI hln<|aI n0<|aI n0E<|aI hT<|aI hRl<|aI g0<|g0E
     refine qB ?_
     repeat ((first|refine wSc (id:=1) qAT qA ?_|refine wSc (id:=2) yn qA ?_|refine wSc (id:=4) qAS qA ?_|refine wSc (id:=5) yn qA ?_);refine qD ?_;refine qB ?_)
     clear fx
     intro K hK
     have fx:=aI t0<|aI t1<|aI t5<|aI p5<|aI hln<|aI n0<|aI n0E<|aI hT<|aI hRl<|aI g0<|g0E
     refine qZ h0 (have h:=hO;OwnY.re h) (Nat.le_refl _) (hF:=fun _=>jh gl DM (fun _=>qQ) _ R (yo fs.length) f.stack j (1,70) rfl rfl (by simp [hT]) f28 (by simp [h28]) hsl yoh) (h:=?_)
     intro y H1 hw
     clear fx
     have hO1:=OwnY.pushed (m:=m.top fs f) (by exact (have h:=hO;OwnY.re h)) rfl (by omega) rfl (by simp [hT]) hw
     have fx:=fx0
     refine qB ?_
     repeat ((first|refine wSc (id:=1) qAT qA ?_|refine wSc (id:=2) yn qA ?_|refine wSc (id:=4) qAS qA ?_|refine wSc (id:=5) yn qA ?_);refine qD ?_;refine qB ?_)
     clear fx
     refine qH [] .nil (by simp;rfl) ⟨by simp [Mch.top,hm0],OwnY.fin (have h:=hO1;OwnY.re h)⟩
    ·rw [if_neg (by omega)] at hrest
     rw [hrest]
     have x7':((x:Int)==7)=false:=by rw [beq_eq_false_iff_ne];omega
     have fx:=aI t0<|aI t1<|aI t5<|aI p5<|aI hln<|aI n0<|aI n0E<|aI hT<|aI hRl<|aI hlg<|aI g0<|aI g0E<|aI x7'<|hxl
     refine qB ?_
     repeat ((first|refine wSc (id:=1) qAT qA ?_|refine wSc (id:=2) yn qA ?_|refine wSc (id:=4) qAS qA ?_|refine wSc (id:=5) yn qA ?_);refine qD ?_;refine qB ?_)
     clear fx
     intro K hK
     have fx:=aI t0 t1
     refine qZ h0 (have h:=hO;OwnY.re h) (Nat.le_refl _) (hF:=fun _=>yM gl DM (fun _=>qQ) _ R 4 (by simp [hT]) hRl) (h:=?_)
     intro y H1 hw
     clear fx
     have hO1:=OwnY.wrp (OwnY.stopped (m:=m.top fs f) (e:=4) (have h:=hO;OwnY.re h) rfl (by simp [hT])) hw
     obtain⟨rfl,-⟩:=hw
     have fx:=fx0
     refine qB ?_
     repeat ((first|refine wSc (id:=1) qAT qA ?_|refine wSc (id:=2) yn qA ?_|refine wSc (id:=4) qAS qA ?_|refine wSc (id:=5) yn qA ?_);refine qD ?_;refine qB ?_)
     clear fx
     refine qH [] .nil (by simp;rfl) ⟨by simp [Mch.stop],OwnY.fin (have h:=hO1;OwnY.re h)⟩
abbrev yH:Sch:=.q 0<|.q 1<|.q 2<|.q 3<|.q 4<|.q 5<|.q 6<|.q 7<|.q 8<|.q 9<|.q 10<|.q 11<|.l 12 [2]<|.l 13 []<|.done
abbrev yG:Sch:=.q 0<|.q 1<|.q 2<|.q 3<|.q 4<|.q 5<|.q 6<|.q 7<|.q 8<|.q 9<|.q 10<|.q 11<|.q 12<|.q 13<|.q 14<|.done
abbrev yF:Sch:=.q 0<|.q 1<|.q 2<|.q 3<|.q 4<|.q 5<|.q 6<|.q 7<|.q 8<|.q 9<|.q 10<|.q 11<|.q 12<|.q 13<|.l 14 [3,2]<|.l 15 []<|.done
abbrev zQ:Sch:=.q 0<|.q 1<|.q 2<|.q 3<|.q 4<|.q 5<|.q 6<|.q 7<|.q 8<|.q 9<|.q 10<|.l 11 []<|.l 12 []<|.done
abbrev qUP:Sch:=.q 0<|.q 1<|.q 2<|.q 3<|.q 4<|.q 5<|.q 6<|.q 7<|.q 8<|.q 9<|.q 10<|.l 11 [6,5,4,3,2,1,0]<|.q 12<|.l 13 [4,3,2,1,0]<|.l 14 [0]<|.q 15<|.q 16<|.l 17 []<|.done
abbrev qUO:Sch:=.q 0<|.q 1<|.q 2<|.q 3<|.q 4<|.q 5<|.q 6<|.l 7 [2,1,0]<|.l 8 []<|.done
abbrev qUN:Sch:=.q 0<|.q 1<|.q 2<|.q 3<|.q 4<|.q 5<|.l 6 [4,3,2,1,0]<|.l 7 [4,3,2,1,0]<|.l 8 [4,3,2,1,0]<|.l 9 [0]<|.q 10<|.q 11<|.l 12 []<|.done
theorem qMd (gl) (H:Nm→Option AO) (p:Prg) (m:Mch) (fs:List Frm) (f:Frm) (o:Int×Int) (hP:ValP p) (hM:MOk p m fs f) (ho:(jx p f.blk)[f.pc]?=some o) (hm0:m.en=0) (h9:H (.u 9 0 0)=none) (hO:OwnY H p (m.top fs f.next)) :
  FnE Tryz.prog gl 116 DM [.pt Yn 0,.pt Yn (yo fs.length),.agg [iv o.1,iv o.2]] H (fun _ y H'=>y=bv (decide ((vQ p m fs f.next o).en=0))∧OwnY H' p (vQ p m fs f.next o)) noE:=by
 have h0:=hO
 have hol:=ur (p:=p) (b:=f.blk) hP.sh
 have hpc:=hM.top.pc
 have hsl:=hM.top.sl
 have hdp:=hM.deep
 have hmd:=hM.made
 have hp:=hM.top.blk
 have hp7:=hP.sh.len
 have htr:=hM.tr
 obtain⟨hol2,hoE⟩:=gS ho
 obtain⟨k,hk⟩:∃ k,p[f.blk]?=some k:=⟨_,gE hp⟩
 have hOr:=qIS hP.sh hk o (gM ho)
 have hcode:=hOr.code
 have harg:=hOr.arg
 have hok:=hM.top.ok
 rw [kC ho,Nat.add_zero] at hok
 have hgsl:∀ g∈fs,g.stack.length≤1000:=fun g hg=>by
  have h1:=(hM.low g hg).sl
  have h2:=(hM.low g hg).pc
  have h3:=ur (p:=p) (b:=g.blk) hP.sh
  omega
 have hnsl:f.next.stack.length≤1000:=by simp only [Frm.next];omega
 have hn8:=hM.top.nm.1
 have hg8:=hM.glob.1
 have hfl:fs.length≤150:=by omega
 have hsO:=fun h13=>SlOk.of hM hOr h13
 have hnam:=hOr.name
 have hfas:=hOr.fast
 have hatt:=hOr.attr
 have hbk:=hOr.blk
 have hcl1:=hOr.call
 have hret:=hOr.ret
 have hf16:o.1=16∨o.1=17→fs.length+1≤150:=fun h=>by
  have:=qRL hM ho h
  omega
 have hne20:o.1=20→fs≠[]:=fun h e=>by
  subst e
  have h1:=hM.b0 f (by simp)
  have h2:=hret h
  have h3:=(hP.sh.kind0 hk).2 h1
  simp [qt,hk,h3] at h2
 have hch:5≤o.1→o.1≤7→∃ c,f.cells[o.2.toNat]?=some c∧c<m.cells.length:=fun h1 h2=>by
  have h3:=(hsO ⟨by omega,by omega⟩).cell h1 h2
  exact⟨_,h3,hM.top.cr _ (gM h3)⟩
 have htick:=qHk gl
 obtain⟨c,a⟩:=o
 obtain⟨x,rfl⟩:∃ x:Nat,a=x:=⟨a.toNat,by simp only at harg;omega⟩
 simp only at hcode harg hsO hnam hfas hatt hbk hcl1 hret hf16 hne20 hch
 simp only [zJ] at hok
 refine FnE.of_sem Tryz.func116 rfl (by kernel_rfl) (rs:=[.tmp 6]) rfl Tryz.ntmps116 (lB rfl) (fun _=>qQ) fun C w g root hroot=>?_
 have fx:=fx0
 refine qB ?_
 clear fx
 refine vH (fun s=>s.tm 0=.pt Yn 0∧s.tm 1=.pt Yn (yo fs.length)∧s.tm 5=.pt (.s 5) 0∧s.hp (.s 5)=some (.row 2 [[iv c,iv x]])∧s.tm 9=iv c∧s.tm 10=bv (c==0)∧s.hp (.u 9 0 0)=none∧OwnY s.hp p (m.top fs f.next)) ⟨by simp,by simp,by simp,by simp,by simp,by simp,by simp [h9],(by repeat (first|(with_reducible exact hO)|refine vE ?_|refine jl (by rfl) ?_|refine jn ?_|refine ya ?_|refine jm ?_|refine vF ?_|exact (have h:=hO;OwnY.re h)))⟩ ?_
 clear hO
 rintro s ⟨t0,t1,t5,p5,t9,t10,h9,hO⟩
 obtain⟨R,j,hT,tr,h2,h3,h28⟩:=hO.topT rfl (by omega)
 have hRl:=tr.len
 have hnb:f.next.blk=f.blk:=rfl
 have hnp:f.next.pc=f.pc+1:=rfl
 have hnc:f.next.cells=f.cells:=rfl
 have hnf:f.next.fasts=f.fasts:=rfl
 have hns:f.next.stack=f.stack:=rfl
 have yoh:yo fs.length+29≤4415:=by simp only [yo];omega
 by_cases c0:c=0
 ·subst c0
  have hord:vQ p m fs f.next (0,(x:Int))=un p m fs f.next:=by simp [vQ]
  rw [hord]
  have fx:=aI t0<|aI t1<|aI t5<|aI p5<|aI t9<|t10
  refine qB ?_
  repeat ((first|refine wSc (id:=7) yH qA ?_|refine wSc (id:=12) yG qA ?_|refine wSc (id:=14) yF qA ?_|refine wSc (id:=20) zQ qA ?_|refine wSc (id:=23) zQ qA ?_);refine qD ?_;refine qB ?_)
  clear fx
  intro K hK
  have fx:=aI t0 t1
  refine qZ h0 (have h:=hO;OwnY.re h) (Nat.le_refl _) (hF:=fun hO=>qHk gl _ p m fs f.next (0,(x:Int)) (by rw [hnp];exact ho) rfl hp (by omega) hm0 hfl (by omega) (by omega) (by omega) (by rw [hnp];exact hol2) (by rw [hnb];omega) hO) (h:=?_)
  rintro y H1 ⟨rfl,hO1⟩
  clear fx
  have fx:=fx0
  refine qB ?_
  repeat ((first|refine wSc (id:=7) yH qA ?_|refine wSc (id:=12) yG qA ?_|refine wSc (id:=14) yF qA ?_|refine wSc (id:=20) zQ qA ?_|refine wSc (id:=23) zQ qA ?_);refine qD ?_;refine qB ?_)
  clear fx
  refine qH [] .nil (by simp;rfl) ⟨by simp,OwnY.fin (have h:=hO1;OwnY.re h)⟩
 have cb0:(c==0)=false:=by simpa using c0
 by_cases c13:2≤c∧c≤13
 ·have hst1:c=3∨c=6∨c=9∨c=12→1≤f.next.stack.length:=fun h=>by rcases h with rfl|rfl|rfl|rfl <;> simp at hok <;> exact hok.1
  have f2:=tr.f2
  obtain⟨f2l,f2E⟩:=gS f2
  have f0:=tr.f0
  obtain⟨f0l,f0E⟩:=gS f0
  have f3:=tr.f3
  obtain⟨f3l,f3E⟩:=gS f3
  have r0:=tr.r0
  obtain⟨_,r0E⟩:=gS r0
  have hcd:(qf p p.length)[f.blk]?=some (qk p f.blk):=by simp [qf,hp]
  obtain⟨hcdl,hcdE⟩:=gS hcd
  have hcc:(qk p f.blk).cells=qF p f.blk:=by simp [qk,hk]
  rw [hnb] at f0 f0E
  rw [hnc] at f3 f3E h3
  rw [hnf] at f2 f2E h2
  by_cases c4:c≤4
  ·have hxf:x<f.fasts.length:=by have:=hfas c13.1 c4;rw [hM.top.fl];omega
   have hc:c=2∨c=3∨c=4:=by omega
   rcases hc with rfl|rfl|rfl
   ·rw [qE8 (by decide) (by decide) rfl]
    have fx:=aI t0<|aI t1<|aI t5<|aI p5<|aI t9<|aI t10<|aI hT<|aI hRl<|aI f2<|aI f2E<|aI f2l<|aI yoh<|aI hxf<|h2
    refine qB ?_
    repeat ((first|refine wSc (id:=7) yH qA ?_|refine wSc (id:=12) yG qA ?_|refine wSc (id:=14) yF qA ?_|refine wSc (id:=20) zQ qA ?_|refine wSc (id:=23) zQ qA ?_);refine qD ?_;refine qB ?_)
    clear fx
    intro K hK
    have fx:=aI t0 (aI t1 (aI t5 p5))
    refine qZ h0 (have h:=hO;OwnY.re h) (Nat.le_refl _) (hF:=fun hO=>qAh gl _ p m fs f.next (2,(x:Int)) x 0 2 (by simp) rfl hxf hm0 (by decide) (by decide) hfl (fun h=>by cases h) hnsl (by simp [h9]) hO) (h:=?_)
    rintro y H1 ⟨rfl,hO1⟩
    clear fx
    have fx:=aI t0<|aI t1<|aI t5<|hT
    refine qB ?_
    repeat ((first|refine wSc (id:=7) yH qA ?_|refine wSc (id:=12) yG qA ?_|refine wSc (id:=14) yF qA ?_|refine wSc (id:=20) zQ qA ?_|refine wSc (id:=23) zQ qA ?_);refine qD ?_;refine qB ?_)
    clear fx
    refine qH [] .nil (by simp;rfl) ⟨by simp,OwnY.fin (have h:=hO1;OwnY.re h)⟩
   ·rw [qE8 (by decide) (by decide) rfl]
    have fx:=aI t0<|aI t1<|aI t5<|aI p5<|aI t9<|aI t10<|aI hT<|aI hRl<|aI f2<|aI f2E<|aI f2l<|aI yoh<|aI hxf<|h2
    refine qB ?_
    repeat ((first|refine wSc (id:=7) yH qA ?_|refine wSc (id:=12) yG qA ?_|refine wSc (id:=14) yF qA ?_|refine wSc (id:=20) zQ qA ?_|refine wSc (id:=23) zQ qA ?_);refine qD ?_;refine qB ?_)
    clear fx
    intro K hK
    have fx:=aI t0 (aI t1 (aI t5 p5))
    refine qZ h0 (have h:=hO;OwnY.re h) (Nat.le_refl _) (hF:=fun hO=>qAh gl _ p m fs f.next (3,(x:Int)) x 1 2 (by simp) rfl hxf hm0 (by decide) (by decide) hfl (fun _=>hst1 (by simp)) hnsl (by simp [h9]) hO) (h:=?_)
    rintro y H1 ⟨rfl,hO1⟩
    clear fx
    have fx:=aI t0<|aI t1<|aI t5<|hT
    refine qB ?_
    repeat ((first|refine wSc (id:=7) yH qA ?_|refine wSc (id:=12) yG qA ?_|refine wSc (id:=14) yF qA ?_|refine wSc (id:=20) zQ qA ?_|refine wSc (id:=23) zQ qA ?_);refine qD ?_;refine qB ?_)
    clear fx
    refine qH [] .nil (by simp;rfl) ⟨by simp,OwnY.fin (have h:=hO1;OwnY.re h)⟩
   ·rw [qE8 (by decide) (by decide) rfl]
    have fx:=aI t0<|aI t1<|aI t5<|aI p5<|aI t9<|aI t10<|aI hT<|aI hRl<|aI f2<|aI f2E<|aI f2l<|aI yoh<|aI hxf<|h2
    refine qB ?_
    repeat ((first|refine wSc (id:=7) yH qA ?_|refine wSc (id:=12) yG qA ?_|refine wSc (id:=14) yF qA ?_|refine wSc (id:=20) zQ qA ?_|refine wSc (id:=23) zQ qA ?_);refine qD ?_;refine qB ?_)
    clear fx
    intro K hK
    have fx:=aI t0 (aI t1 (aI t5 p5))
    refine qZ h0 (have h:=hO;OwnY.re h) (Nat.le_refl _) (hF:=fun hO=>qAh gl _ p m fs f.next (4,(x:Int)) x 2 2 (by simp) rfl hxf hm0 (by decide) (by decide) hfl (fun h=>by cases h) hnsl (by simp [h9]) hO) (h:=?_)
    rintro y H1 ⟨rfl,hO1⟩
    clear fx
    have fx:=aI t0<|aI t1<|aI t5<|hT
    refine qB ?_
    repeat ((first|refine wSc (id:=7) yH qA ?_|refine wSc (id:=12) yG qA ?_|refine wSc (id:=14) yF qA ?_|refine wSc (id:=20) zQ qA ?_|refine wSc (id:=23) zQ qA ?_);refine qD ?_;refine qB ?_)
    clear fx
    refine qH [] .nil (by simp;rfl) ⟨by simp,OwnY.fin (have h:=hO1;OwnY.re h)⟩
  by_cases c7:c≤7
  ·obtain⟨cc,hcc1,hcc2⟩:=hch (by omega) c7
   simp only [Int.toNat_natCast] at hcc1
   have hgd:f.next.cells.getD ((x:Int)).toNat 0=cc:=by rw [hnc,List.getD_eq_getElem?_getD,Int.toNat_natCast,hcc1];rfl
   obtain⟨hxl,_⟩:=gS hcc1
   have her:(zI f.cells)[x]?=some [.pt (.u 7 cc 0) 0]:=by rw [qG4];simp [hcc1,ptE]
   obtain⟨herl,herE⟩:=gS her
   have hc:c=5∨c=6∨c=7:=by omega
   by_cases hxc:(x:Int)<((qF p f.blk).length:Int)
   ·have hcond:∀ (c:Int) (w:Nat),5≤c→c≤7→((c - 2) % 3).toNat=w→vQ p m fs f.next (c,(x:Int))=zl m fs f.next (c,(x:Int)) w 2:=fun c w h1 h2 hw=>by rw [qIU h1 h2 hw,hnb,if_pos hxc]
    rcases hc with rfl|rfl|rfl
    ·rw [hcond _ _ (by decide) (by decide) rfl]
     have fx:=aI t0<|aI t1<|aI t5<|aI p5<|aI t9<|aI t10<|aI hT<|aI hRl<|aI r0<|aI r0E<|aI f0<|aI f0E<|aI f0l<|aI hcd<|aI hcdl<|aI hcdE<|aI hcc<|aI hxc<|aI f3<|aI f3E<|aI f3l<|aI yoh<|aI h3<|aI hxl<|aI her<|aI herE<|herl
     refine qB ?_
     repeat ((first|refine wSc (id:=7) yH qA ?_|refine wSc (id:=12) yG qA ?_|refine wSc (id:=14) yF qA ?_|refine wSc (id:=20) zQ qA ?_|refine wSc (id:=23) zQ qA ?_);refine qD ?_;refine qB ?_)
     clear fx
     intro K hK
     have fx:=aI t0 (aI t1 (aI t5 p5))
     refine qZ h0 (have h:=hO;OwnY.re h) (Nat.le_refl _) (hF:=fun hO=>vb gl _ p m fs f.next (5,(x:Int)) cc 0 2 (by simp) (by simp) hgd hcc2 hm0 (by decide) (by decide) hfl (fun h=>by cases h) hnsl hO) (h:=?_)
     rintro y H1 ⟨rfl,hO1⟩
     clear fx
     have fx:=aI t0<|aI t1<|aI t5<|hT
     refine qB ?_
     repeat ((first|refine wSc (id:=7) yH qA ?_|refine wSc (id:=12) yG qA ?_|refine wSc (id:=14) yF qA ?_|refine wSc (id:=20) zQ qA ?_|refine wSc (id:=23) zQ qA ?_);refine qD ?_;refine qB ?_)
     clear fx
     refine qH [] .nil (by simp;rfl) ⟨by simp,OwnY.fin (have h:=hO1;OwnY.re h)⟩
    ·rw [hcond _ _ (by decide) (by decide) rfl]
     have fx:=aI t0<|aI t1<|aI t5<|aI p5<|aI t9<|aI t10<|aI hT<|aI hRl<|aI r0<|aI r0E<|aI f0<|aI f0E<|aI f0l<|aI hcd<|aI hcdl<|aI hcdE<|aI hcc<|aI hxc<|aI f3<|aI f3E<|aI f3l<|aI yoh<|aI h3<|aI hxl<|aI her<|aI herE<|herl
     refine qB ?_
     repeat ((first|refine wSc (id:=7) yH qA ?_|refine wSc (id:=12) yG qA ?_|refine wSc (id:=14) yF qA ?_|refine wSc (id:=20) zQ qA ?_|refine wSc (id:=23) zQ qA ?_);refine qD ?_;refine qB ?_)
     clear fx
     intro K hK
     have fx:=aI t0 (aI t1 (aI t5 p5))
     refine qZ h0 (have h:=hO;OwnY.re h) (Nat.le_refl _) (hF:=fun hO=>vb gl _ p m fs f.next (6,(x:Int)) cc 1 2 (by simp) (by simp) hgd hcc2 hm0 (by decide) (by decide) hfl (fun _=>hst1 (by simp)) hnsl hO) (h:=?_)
     rintro y H1 ⟨rfl,hO1⟩
     clear fx
     have fx:=aI t0<|aI t1<|aI t5<|hT
     refine qB ?_
     repeat ((first|refine wSc (id:=7) yH qA ?_|refine wSc (id:=12) yG qA ?_|refine wSc (id:=14) yF qA ?_|refine wSc (id:=20) zQ qA ?_|refine wSc (id:=23) zQ qA ?_);refine qD ?_;refine qB ?_)
     clear fx
     refine qH [] .nil (by simp;rfl) ⟨by simp,OwnY.fin (have h:=hO1;OwnY.re h)⟩
    ·rw [hcond _ _ (by decide) (by decide) rfl]
     have fx:=aI t0<|aI t1<|aI t5<|aI p5<|aI t9<|aI t10<|aI hT<|aI hRl<|aI r0<|aI r0E<|aI f0<|aI f0E<|aI f0l<|aI hcd<|aI hcdl<|aI hcdE<|aI hcc<|aI hxc<|aI f3<|aI f3E<|aI f3l<|aI yoh<|aI h3<|aI hxl<|aI her<|aI herE<|herl
     refine qB ?_
     repeat ((first|refine wSc (id:=7) yH qA ?_|refine wSc (id:=12) yG qA ?_|refine wSc (id:=14) yF qA ?_|refine wSc (id:=20) zQ qA ?_|refine wSc (id:=23) zQ qA ?_);refine qD ?_;refine qB ?_)
     clear fx
     intro K hK
     have fx:=aI t0 (aI t1 (aI t5 p5))
     refine qZ h0 (have h:=hO;OwnY.re h) (Nat.le_refl _) (hF:=fun hO=>vb gl _ p m fs f.next (7,(x:Int)) cc 2 2 (by simp) (by simp) hgd hcc2 hm0 (by decide) (by decide) hfl (fun h=>by cases h) hnsl hO) (h:=?_)
     rintro y H1 ⟨rfl,hO1⟩
     clear fx
     have fx:=aI t0<|aI t1<|aI t5<|hT
     refine qB ?_
     repeat ((first|refine wSc (id:=7) yH qA ?_|refine wSc (id:=12) yG qA ?_|refine wSc (id:=14) yF qA ?_|refine wSc (id:=20) zQ qA ?_|refine wSc (id:=23) zQ qA ?_);refine qD ?_;refine qB ?_)
     clear fx
     refine qH [] .nil (by simp;rfl) ⟨by simp,OwnY.fin (have h:=hO1;OwnY.re h)⟩
   ·have hcond:∀ (c:Int) (w:Nat),5≤c→c≤7→((c - 2) % 3).toNat=w→vQ p m fs f.next (c,(x:Int))=zl m fs f.next (c,(x:Int)) w 3:=fun c w h1 h2 hw=>by rw [qIU h1 h2 hw,hnb,if_neg hxc]
    rcases hc with rfl|rfl|rfl
    ·rw [hcond _ _ (by decide) (by decide) rfl]
     have fx:=aI t0<|aI t1<|aI t5<|aI p5<|aI t9<|aI t10<|aI hT<|aI hRl<|aI r0<|aI r0E<|aI f0<|aI f0E<|aI f0l<|aI hcd<|aI hcdl<|aI hcdE<|aI hcc<|aI hxc<|aI f3<|aI f3E<|aI f3l<|aI yoh<|aI h3<|aI hxl<|aI her<|aI herE<|herl
     refine qB ?_
     repeat ((first|refine wSc (id:=7) yH qA ?_|refine wSc (id:=12) yG qA ?_|refine wSc (id:=14) yF qA ?_|refine wSc (id:=20) zQ qA ?_|refine wSc (id:=23) zQ qA ?_);refine qD ?_;refine qB ?_)
     clear fx
     intro K hK
     have fx:=aI t0 (aI t1 (aI t5 p5))
     refine qZ h0 (have h:=hO;OwnY.re h) (Nat.le_refl _) (hF:=fun hO=>vb gl _ p m fs f.next (5,(x:Int)) cc 0 3 (by simp) (by simp) hgd hcc2 hm0 (by decide) (by decide) hfl (fun h=>by cases h) hnsl hO) (h:=?_)
     rintro y H1 ⟨rfl,hO1⟩
     clear fx
     have fx:=aI t0<|aI t1<|aI t5<|hT
     refine qB ?_
     repeat ((first|refine wSc (id:=7) yH qA ?_|refine wSc (id:=12) yG qA ?_|refine wSc (id:=14) yF qA ?_|refine wSc (id:=20) zQ qA ?_|refine wSc (id:=23) zQ qA ?_);refine qD ?_;refine qB ?_)
     clear fx
     refine qH [] .nil (by simp;rfl) ⟨by simp,OwnY.fin (have h:=hO1;OwnY.re h)⟩
    ·rw [hcond _ _ (by decide) (by decide) rfl]
     have fx:=aI t0<|aI t1<|aI t5<|aI p5<|aI t9<|aI t10<|aI hT<|aI hRl<|aI r0<|aI r0E<|aI f0<|aI f0E<|aI f0l<|aI hcd<|aI hcdl<|aI hcdE<|aI hcc<|aI hxc<|aI f3<|aI f3E<|aI f3l<|aI yoh<|aI h3<|aI hxl<|aI her<|aI herE<|herl
     refine qB ?_
     repeat ((first|refine wSc (id:=7) yH qA ?_|refine wSc (id:=12) yG qA ?_|refine wSc (id:=14) yF qA ?_|refine wSc (id:=20) zQ qA ?_|refine wSc (id:=23) zQ qA ?_);refine qD ?_;refine qB ?_)
     clear fx
     intro K hK
     have fx:=aI t0 (aI t1 (aI t5 p5))
     refine qZ h0 (have h:=hO;OwnY.re h) (Nat.le_refl _) (hF:=fun hO=>vb gl _ p m fs f.next (6,(x:Int)) cc 1 3 (by simp) (by simp) hgd hcc2 hm0 (by decide) (by decide) hfl (fun _=>hst1 (by simp)) hnsl hO) (h:=?_)
     rintro y H1 ⟨rfl,hO1⟩
     clear fx
     have fx:=aI t0<|aI t1<|aI t5<|hT
     refine qB ?_
     repeat ((first|refine wSc (id:=7) yH qA ?_|refine wSc (id:=12) yG qA ?_|refine wSc (id:=14) yF qA ?_|refine wSc (id:=20) zQ qA ?_|refine wSc (id:=23) zQ qA ?_);refine qD ?_;refine qB ?_)
     clear fx
     refine qH [] .nil (by simp;rfl) ⟨by simp,OwnY.fin (have h:=hO1;OwnY.re h)⟩
    ·rw [hcond _ _ (by decide) (by decide) rfl]
     have fx:=aI t0<|aI t1<|aI t5<|aI p5<|aI t9<|aI t10<|aI hT<|aI hRl<|aI r0<|aI r0E<|aI f0<|aI f0E<|aI f0l<|aI hcd<|aI hcdl<|aI hcdE<|aI hcc<|aI hxc<|aI f3<|aI f3E<|aI f3l<|aI yoh<|aI h3<|aI hxl<|aI her<|aI herE<|herl
     refine qB ?_
     repeat ((first|refine wSc (id:=7) yH qA ?_|refine wSc (id:=12) yG qA ?_|refine wSc (id:=14) yF qA ?_|refine wSc (id:=20) zQ qA ?_|refine wSc (id:=23) zQ qA ?_);refine qD ?_;refine qB ?_)
     clear fx
     intro K hK
     have fx:=aI t0 (aI t1 (aI t5 p5))
     refine qZ h0 (have h:=hO;OwnY.re h) (Nat.le_refl _) (hF:=fun hO=>vb gl _ p m fs f.next (7,(x:Int)) cc 2 3 (by simp) (by simp) hgd hcc2 hm0 (by decide) (by decide) hfl (fun h=>by cases h) hnsl hO) (h:=?_)
     rintro y H1 ⟨rfl,hO1⟩
     clear fx
     have fx:=aI t0<|aI t1<|aI t5<|hT
     refine qB ?_
     repeat ((first|refine wSc (id:=7) yH qA ?_|refine wSc (id:=12) yG qA ?_|refine wSc (id:=14) yF qA ?_|refine wSc (id:=20) zQ qA ?_|refine wSc (id:=23) zQ qA ?_);refine qD ?_;refine qB ?_)
     clear fx
     refine qH [] .nil (by simp;rfl) ⟨by simp,OwnY.fin (have h:=hO1;OwnY.re h)⟩
  have hx7:x<8:=by have:=hnam (by omega) c13.2;omega
  have hxl:(x:Int)<8:=by omega
  have hx7':x≤7:=by omega
  have hc:c=8∨c=11∨c=9∨c=10∨c=12∨c=13:=by omega
  have hWg:∀ c:Int,8≤c→c≤10→WrY p m fs f.next (c,(x:Int)) (6+x * 3):=fun c h1 h2=>by rw [Nat.mul_comm];exact WrY.glob hg8 h1 h2 hx7
  have hWn:∀ c:Int,11≤c→WrY p m fs f.next (c,(x:Int)) (yo fs.length+4+x * 3):=fun c h1=>by rw [Nat.mul_comm];exact WrY.name hn8 (by omega) h1 hx7
  rcases hc with rfl|rfl|rfl|rfl|rfl|rfl
  ·rw [qIT (by simp)]
   have fx:=aI t0<|aI t1<|aI t5<|aI p5<|aI t9<|aI t10<|hxl
   refine qB ?_
   repeat ((first|refine wSc (id:=7) yH qA ?_|refine wSc (id:=12) yG qA ?_|refine wSc (id:=14) yF qA ?_|refine wSc (id:=20) zQ qA ?_|refine wSc (id:=23) zQ qA ?_);refine qD ?_;refine qB ?_)
   clear fx
   intro K hK
   have fx:=aI t0 (aI t1 (aI t5 p5))
   refine qZ h0 (have h:=hO;OwnY.re h) (Nat.le_refl _) (hF:=fun hO=>qHl gl _ p m fs f.next 8 x (by simp) hx7 hg8 hn8 hm0 hfl hnsl hO) (h:=?_)
   rintro y H1 ⟨rfl,hO1⟩
   clear fx
   have fx:=aI t0<|aI t1<|aI t5<|hT
   refine qB ?_
   repeat ((first|refine wSc (id:=7) yH qA ?_|refine wSc (id:=12) yG qA ?_|refine wSc (id:=14) yF qA ?_|refine wSc (id:=20) zQ qA ?_|refine wSc (id:=23) zQ qA ?_);refine qD ?_;refine qB ?_)
   clear fx
   refine qH [] .nil (by simp;rfl) ⟨by simp,OwnY.fin (have h:=hO1;OwnY.re h)⟩
  ·rw [qIT (by simp)]
   have fx:=aI t0<|aI t1<|aI t5<|aI p5<|aI t9<|aI t10<|hxl
   refine qB ?_
   repeat ((first|refine wSc (id:=7) yH qA ?_|refine wSc (id:=12) yG qA ?_|refine wSc (id:=14) yF qA ?_|refine wSc (id:=20) zQ qA ?_|refine wSc (id:=23) zQ qA ?_);refine qD ?_;refine qB ?_)
   clear fx
   intro K hK
   have fx:=aI t0 (aI t1 (aI t5 p5))
   refine qZ h0 (have h:=hO;OwnY.re h) (Nat.le_refl _) (hF:=fun hO=>qHl gl _ p m fs f.next 11 x (by simp) hx7 hg8 hn8 hm0 hfl hnsl hO) (h:=?_)
   rintro y H1 ⟨rfl,hO1⟩
   clear fx
   have fx:=aI t0<|aI t1<|aI t5<|hT
   refine qB ?_
   repeat ((first|refine wSc (id:=7) yH qA ?_|refine wSc (id:=12) yG qA ?_|refine wSc (id:=14) yF qA ?_|refine wSc (id:=20) zQ qA ?_|refine wSc (id:=23) zQ qA ?_);refine qD ?_;refine qB ?_)
   clear fx
   refine qH [] .nil (by simp;rfl) ⟨by simp,OwnY.fin (have h:=hO1;OwnY.re h)⟩
  ·rw [qE9 (by decide) (by decide) (by decide) rfl]
   have fx:=aI t0<|aI t1<|aI t5<|aI p5<|aI t9<|aI t10<|aI hxl<|aI hx7'<|yoh
   refine qB ?_
   repeat ((first|refine wSc (id:=7) yH qA ?_|refine wSc (id:=12) yG qA ?_|refine wSc (id:=14) yF qA ?_|refine wSc (id:=20) zQ qA ?_|refine wSc (id:=23) zQ qA ?_);refine qD ?_;refine qB ?_)
   clear fx
   intro K hK
   have fx:=aI t0 (aI t1 (aI t5 p5))
   refine qZ h0 (have h:=hO;OwnY.re h) (Nat.le_refl _) (hF:=fun hO=>kr gl _ p m fs f.next (9,(x:Int)) _ 1 4 (hWg _ (by decide) (by decide)) hm0 (by decide) (by decide) hfl (fun _=>hst1 (by simp)) hnsl hO) (h:=?_)
   rintro y H1 ⟨rfl,hO1⟩
   clear fx
   have fx:=aI t0<|aI t1<|aI t5<|hT
   refine qB ?_
   repeat ((first|refine wSc (id:=7) yH qA ?_|refine wSc (id:=12) yG qA ?_|refine wSc (id:=14) yF qA ?_|refine wSc (id:=20) zQ qA ?_|refine wSc (id:=23) zQ qA ?_);refine qD ?_;refine qB ?_)
   clear fx
   refine qH [] .nil (by simp;rfl) ⟨by simp,OwnY.fin (have h:=hO1;OwnY.re h)⟩
  ·rw [qE9 (by decide) (by decide) (by decide) rfl]
   have fx:=aI t0<|aI t1<|aI t5<|aI p5<|aI t9<|aI t10<|aI hxl<|aI hx7'<|yoh
   refine qB ?_
   repeat ((first|refine wSc (id:=7) yH qA ?_|refine wSc (id:=12) yG qA ?_|refine wSc (id:=14) yF qA ?_|refine wSc (id:=20) zQ qA ?_|refine wSc (id:=23) zQ qA ?_);refine qD ?_;refine qB ?_)
   clear fx
   intro K hK
   have fx:=aI t0 (aI t1 (aI t5 p5))
   refine qZ h0 (have h:=hO;OwnY.re h) (Nat.le_refl _) (hF:=fun hO=>kr gl _ p m fs f.next (10,(x:Int)) _ 2 4 (hWg _ (by decide) (by decide)) hm0 (by decide) (by decide) hfl (fun h=>by cases h) hnsl hO) (h:=?_)
   rintro y H1 ⟨rfl,hO1⟩
   clear fx
   have fx:=aI t0<|aI t1<|aI t5<|hT
   refine qB ?_
   repeat ((first|refine wSc (id:=7) yH qA ?_|refine wSc (id:=12) yG qA ?_|refine wSc (id:=14) yF qA ?_|refine wSc (id:=20) zQ qA ?_|refine wSc (id:=23) zQ qA ?_);refine qD ?_;refine qB ?_)
   clear fx
   refine qH [] .nil (by simp;rfl) ⟨by simp,OwnY.fin (have h:=hO1;OwnY.re h)⟩
  ·rw [qE9 (by decide) (by decide) (by decide) rfl]
   have fx:=aI t0<|aI t1<|aI t5<|aI p5<|aI t9<|aI t10<|aI hxl<|aI hx7'<|yoh
   refine qB ?_
   repeat ((first|refine wSc (id:=7) yH qA ?_|refine wSc (id:=12) yG qA ?_|refine wSc (id:=14) yF qA ?_|refine wSc (id:=20) zQ qA ?_|refine wSc (id:=23) zQ qA ?_);refine qD ?_;refine qB ?_)
   clear fx
   intro K hK
   have fx:=aI t0 (aI t1 (aI t5 p5))
   refine qZ h0 (have h:=hO;OwnY.re h) (Nat.le_refl _) (hF:=fun hO=>kr gl _ p m fs f.next (12,(x:Int)) _ 1 4 (hWn _ (by decide)) hm0 (by decide) (by decide) hfl (fun _=>hst1 (by simp)) hnsl hO) (h:=?_)
   rintro y H1 ⟨rfl,hO1⟩
   clear fx
   have fx:=aI t0<|aI t1<|aI t5<|hT
   refine qB ?_
   repeat ((first|refine wSc (id:=7) yH qA ?_|refine wSc (id:=12) yG qA ?_|refine wSc (id:=14) yF qA ?_|refine wSc (id:=20) zQ qA ?_|refine wSc (id:=23) zQ qA ?_);refine qD ?_;refine qB ?_)
   clear fx
   refine qH [] .nil (by simp;rfl) ⟨by simp,OwnY.fin (have h:=hO1;OwnY.re h)⟩
  ·rw [qE9 (by decide) (by decide) (by decide) rfl]
   have fx:=aI t0<|aI t1<|aI t5<|aI p5<|aI t9<|aI t10<|aI hxl<|aI hx7'<|yoh
   refine qB ?_
   repeat ((first|refine wSc (id:=7) yH qA ?_|refine wSc (id:=12) yG qA ?_|refine wSc (id:=14) yF qA ?_|refine wSc (id:=20) zQ qA ?_|refine wSc (id:=23) zQ qA ?_);refine qD ?_;refine qB ?_)
   clear fx
   intro K hK
   have fx:=aI t0 (aI t1 (aI t5 p5))
   refine qZ h0 (have h:=hO;OwnY.re h) (Nat.le_refl _) (hF:=fun hO=>kr gl _ p m fs f.next (13,(x:Int)) _ 2 4 (hWn _ (by decide)) hm0 (by decide) (by decide) hfl (fun h=>by cases h) hnsl hO) (h:=?_)
   rintro y H1 ⟨rfl,hO1⟩
   clear fx
   have fx:=aI t0<|aI t1<|aI t5<|hT
   refine qB ?_
   repeat ((first|refine wSc (id:=7) yH qA ?_|refine wSc (id:=12) yG qA ?_|refine wSc (id:=14) yF qA ?_|refine wSc (id:=20) zQ qA ?_|refine wSc (id:=23) zQ qA ?_);refine qD ?_;refine qB ?_)
   clear fx
   refine qH [] .nil (by simp;rfl) ⟨by simp,OwnY.fin (have h:=hO1;OwnY.re h)⟩
 rw [qON c0 c13]
 have hcs:c=1∨c=14∨c=15∨c=16∨c=17∨c=18∨c=19∨c=20:=by omega
 have cb:∀ k:Int,2≤k→k≤13→(c==k)=false:=fun k h1 h2=>by rw [beq_eq_false_iff_ne];omega
 have hval:∀ H:Nm→Option AO,OwnY H p (m.top fs f.next)→H (.u 9 0 0)=none→FnE Tryz.prog gl 152 DM [.pt Yn 0,.pt Yn (yo fs.length),.agg [iv c,iv x]] H (fun _ y H'=>y=bv (decide ((zS p m fs f.next (c,(x:Int))).en=0))∧OwnY H' p (zS p m fs f.next (c,(x:Int)))) noE:=by
  intro H hO h9
  have h17:c=17→(x:Int)≤1∧((x:Int)).toNat+1≤f.next.stack.length∧fs.length+1≤150:=fun h=>by
   refine⟨hcl1 h,?_,hf16 (.inr h)⟩
   subst h
   simp at hok
   exact hok.1
  have h14:c=14→2≤f.next.stack.length:=by rintro rfl;simp at hok;exact hok.1
  have h18:c=18→(x:Int)≤7∧1≤f.next.stack.length:=by rintro rfl;simp at hok;exact⟨hatt rfl,hok.1⟩
  have h19:c=19∨c=20→1≤f.next.stack.length:=by rintro (rfl|rfl) <;> simp at hok <;> exact hok.1
  rcases hcs with h|h|h|h|h|h|h|h
  ·exact qBo gl H p m fs f.next (c,(x:Int)) harg (.inl h) f.pc hP hM h17 h18 hnsl hfl hm0 hO
  ·exact qKI gl H p m fs f.next (c,(x:Int)) harg h f.pc hP hM (h14 h) hnsl hfl hm0 hO
  ·exact qFM gl H p m fs f.next (c,(x:Int)) harg (.inl h) f.pc hP hM (hbk (.inl h)) (fun h'=>hf16 (.inl h')) hnsl hfl hm0 h9 hO
  ·exact qFM gl H p m fs f.next (c,(x:Int)) harg (.inr h) f.pc hP hM (hbk (.inr h)) (fun h'=>hf16 (.inl h')) hnsl hfl hm0 h9 hO
  ·exact qBo gl H p m fs f.next (c,(x:Int)) harg (.inr (.inl h)) f.pc hP hM h17 h18 hnsl hfl hm0 hO
  ·exact qBo gl H p m fs f.next (c,(x:Int)) harg (.inr (.inr h)) f.pc hP hM h17 h18 hnsl hfl hm0 hO
  ·exact qFL gl H p m fs f.next (c,(x:Int)) harg (.inl h) f.pc hP hM (h19 (.inl h)) hret hgsl hne20 hnsl hfl hm0 h9 hO
  ·exact qFL gl H p m fs f.next (c,(x:Int)) harg (.inr h) f.pc hP hM (h19 (.inr h)) hret hgsl hne20 hnsl hfl hm0 h9 hO
 have e2:=cb 2 (by decide) (by decide)
 have e3:=cb 3 (by decide) (by decide)
 have e4:=cb 4 (by decide) (by decide)
 have e5:=cb 5 (by decide) (by decide)
 have e6:=cb 6 (by decide) (by decide)
 have e7:=cb 7 (by decide) (by decide)
 have e8:=cb 8 (by decide) (by decide)
 have e9:=cb 9 (by decide) (by decide)
 have e10:=cb 10 (by decide) (by decide)
 have e11:=cb 11 (by decide) (by decide)
 have e12:=cb 12 (by decide) (by decide)
 have e13:=cb 13 (by decide) (by decide)
 have fx:=aI t0<|aI t1<|aI t5<|aI p5<|aI t9<|aI t10<|aI cb0<|aI e2<|aI e3<|aI e4<|aI e5<|aI e6<|aI e7<|aI e8<|aI e9<|aI e10<|aI e11<|aI e12<|e13
 refine qB ?_
 repeat ((first|refine wSc (id:=10) qUP qA ?_|refine wSc (id:=13) qUO qA ?_|refine wSc (id:=19) qUN qA ?_);refine qD ?_;refine qB ?_)
 clear fx
 intro K hK
 have fx:=aI t0 (aI t1 (aI t5 p5))
 refine qZ h0 (have h:=hO;OwnY.re h) (Nat.le_refl _) (hF:=fun hO=>hval _ hO (by simp [h9])) (h:=?_)
 rintro y H1 ⟨rfl,hO1⟩
 clear fx
 have fx:=fx0
 refine qB ?_
 repeat ((first|refine wSc (id:=10) qUP qA ?_|refine wSc (id:=13) qUO qA ?_|refine wSc (id:=19) qUN qA ?_);refine qD ?_;refine qB ?_)
 clear fx
 refine qH [] .nil (by simp;rfl) ⟨by simp,OwnY.fin (have h:=hO1;OwnY.re h)⟩
end Go.Proofs.YtbgmnmnoaamgkaaGreatDoor
end
section
namespace Go.Proofs.YtbgmnmnoaamgkaaGreatDoor
open Go Go.Hm Go.Proofs
abbrev qDJ:Sch:=.q 0<|.q 1<|.q 2<|.q 3<|.q 4<|.q 5<|.q 6<|.q 7<|.q 8<|.q 9<|.q 10<|.l 11 []<|.done
theorem fM9:fM 9=false:=rfl
theorem qP8 (gl) (H:Nm→Option AO) (p:Prg) (n:Nat) (hP:ValP p) (hn:n≤150) (h9:H (.u 9 0 0)=none) (hO:OwnY H p (qi n)) :
  FnE Tryz.prog gl 75 DM [.pt Yn 0] H (fun _ _ H'=>∃ fr,OwnY H' p { uZ p n with frames:=fr }) noE:=by
 have h0:=hO
 have hp7:=hP.sh.len
 obtain⟨N,n1,n2,n3⟩:=qCQ hP hn
 have hN0:0<N:=by
  refine Nat.pos_of_ne_zero fun e=>?_
  subst e
  exact qNn hP n2
 have hh0:(qk p 0).params=[]:=qK1 hP
 refine FnE.of_sem Tryz.func75 rfl (by kernel_rfl) (rs:=[]) rfl Tryz.ntmps75 (lB rfl) (fun _=>qQ) fun C w g root hroot=>?_
 refine qMj 0 rfl (fun k s=>∃ i:Nat,k=N - i∧i<N∧s.tm 0=.pt Yn 0∧s.hp (.u 9 0 0)=none∧OwnY s.hp p (jN p i (qb p n))) ?_ ?_
 ·obtain⟨J,hJ,hT⟩:=hO.top
  have fx:= hT
  refine qB ?_
  repeat ((first|refine wSc (id:=2) qDJ qA ?_);refine qD ?_;refine qB ?_)
  clear fx
  intro K hK
  have fx:=hT
  refine qZ h0 (have h:=hO;OwnY.re h) (by simp [qi]) (hF:=fun hO=>(qBq gl _ p (qi n) 0 [] [] (by omega) (by omega) (by simp) (by simp) (by simp [qi]) (by simp [qi]) (by simp [qi]) (by simp [qi]) (.inl hh0) (by rw [hh0];rfl) (by simp [qi]) (by simp [qi]) hO).nil34) (h:=?_)
  rintro y H1 hO1
  clear fx
  replace hO1:OwnY H1 p (jN p 0 (qb p n)):=hO1
  have fx:= hT
  refine qB ?_
  repeat ((first|refine wSc (id:=2) qDJ qA ?_);refine qD ?_;refine qB ?_)
  clear fx
  exact⟨N,0,by omega,hN0,by simp [hT],by simp [h9,fM9],(have h:=hO1;OwnY.re h)⟩
 rintro k s - - ⟨i,rfl,hi,t0,h9,hO⟩
 have hne:=n1 i hi
 obtain⟨fs,f,hfr,hM⟩:=(qFe hP hn i).resolve_left hne
 have hen:(jN p i (qb p n)).en=0:=by
  by_cases h:(jN p i (qb p n)).en=0
  ·exact h
  ·exact absurd (.inr h) hne
 have hsn:=qAQ i hne
 have hc0:∀ i,(qi n).cells.length≤i:=fun i=>by simp [qi]
 generalize hmm:jN p i (qb p n)=m at *
 have hmt:m=m.top fs f:=by cases m;simp only [Mch.top] at hfr ⊢;rw [hfr]
 have hol:=ur (p:=p) (b:=f.blk) hP.sh
 have hpc:=hM.top.pc
 have hdp:=hM.deep
 have hmd:=hM.made
 have hp:=hM.top.blk
 have hfl:fs.length≤150:=by omega
 obtain⟨kk,hk⟩:∃ k,p[f.blk]?=some k:=⟨_,gE hp⟩
 have hcd:(qf p p.length)[f.blk]?=some (qk p f.blk):=by simp [qf,hp]
 obtain⟨hcdl,hcdE⟩:=gS hcd
 have hco:(qk p f.blk).ops=jx p f.blk:=by simp [qk,hk]
 have hnx:(jN p (i+1) (qb p n)).en=0→(jN p (i+1) (qb p n)).frames≠[]→i+1<N:=fun h1 h2=>by
  rcases Nat.lt_or_ge (i+1) N with h|h
  ·exact h
  ·have e:i+1=N:=by omega
   rw [e] at h1 h2
   rcases n2 with h|h
   ·exact absurd h h2
   ·exact absurd h1 h
 obtain⟨R,j,hT,tr,-⟩:=hO.topT hfr (by omega)
 have fx:= t0
 refine qB ?_
 repeat ((first|refine wSc (id:=2) qDJ qA ?_);refine qD ?_;refine qB ?_)
 clear fx
 intro K hK
 have fx:=t0
 refine qZ h0 (have h:=hO;OwnY.re h) (hc0 _) (hF:=fun _=>qDs gl DM (fun _=>qQ) rfl _ R fs.length (by simp [hT]) tr.h (by omega)) (h:=?_)
 intro y H1 hw
 clear fx
 have hO1:=OwnY.smp hO hw
 obtain⟨rfl,-⟩:=hw
 have fx:=aI t0<|hT
 refine qB ?_
 clear fx
 refine vH (fun s=>s.tm 0=.pt Yn 0∧s.tm 2=.pt Yn (yo fs.length)∧s.hp (.u 9 0 0)=none∧OwnY s.hp p m) ⟨by simp [t0,hT],by simp [hT],by simp [h9,fM9],(have h:=hO1;OwnY.re h)⟩ ?_
 clear t0 h9 hO hT tr hO1
 rintro s ⟨t0,t2,h9,hO⟩
 obtain⟨R,j,hT,tr,h2,h3,h28⟩:=hO.topT hfr (by omega)
 have hRl:=tr.len
 have r0:=tr.r0
 have f0:=tr.f0
 have f1:=tr.f1
 have rh:=tr.h
 obtain⟨_,r0E⟩:=gS r0
 obtain⟨_,rhE⟩:=gS rh
 obtain⟨f0l,f0E⟩:=gS f0
 obtain⟨f1l,f1E⟩:=gS f1
 cases ho:(jx p f.blk)[f.pc]? with
 | none =>
  have hpe:f.pc=(jx p f.blk).length:=by have:=List.getElem?_eq_none_iff.1 ho;omega
  have hres:uQ p m=qG5 p m fs f:=Hm.step_end hfr ho
  by_cases hfs:fs=[]
  ·subst hfs
   have hb0:f.blk=0:=hM.b0 f (by simp)
   have hk0:qt p f.blk=0:=by
    have:=(hP.sh.kind0 hk).2 hb0
    simp [qt,hk,this]
   have hend:qG5 p m [] f={ m with frames:=[] }:=by
    simp only [qG5,hk0]
    rfl
   simp only [List.length_nil] at t2 f0 f0E f0l f1 f1E f1l rh rhE
   have hlast:{ uZ p n with frames:=[f] }=m:=by
    have e1:(jN p (i+1) (qb p n)).ended:=.inl (by rw [hsn,hres,hend])
    rw [← qHO e1,hsn,hres,hend]
    cases m
    simp only at hfr
    simp [hfr]
   have fx:=aI t0<|aI t2<|aI hT<|aI hRl<|aI r0<|aI r0E<|aI f0<|aI f0E<|aI f0l<|aI f1<|aI f1E<|aI f1l<|aI rh<|aI rhE<|aI hcd<|aI hcdl<|aI hcdE<|aI hco<|hpe
   refine qB ?_
   repeat ((first|refine wSc (id:=2) qDJ qA ?_);refine qD ?_;refine qB ?_)
   clear fx
   refine qJi (zp [] .nil (by simp;rfl) ⟨[f],?_⟩)
   rw [hlast]
   exact OwnY.fin (have h:=hO;OwnY.re h)
  ·obtain⟨gs,g0,rfl⟩:∃ gs g0,fs=gs++[g0]:=⟨fs.dropLast,fs.getLast hfs,(List.dropLast_concat_getLast hfs).symm⟩
   simp only [List.length_append,List.length_singleton] at t2 f0 f0E f0l f1 f1E f1l rh rhE hfl
   have hlow:=hM.low g0 (by simp)
   have hlo1:=hlow.sl
   have hlo2:=hlow.pc
   have hlo3:=ur (p:=p) (b:=g0.blk) hP.sh
   have hnk:=hM.nk
   have hyf:=fun H hO=>qDS gl H p m gs g0 f (0,0) hp (by omega) (by omega) (by omega) hO
   have hee:(if qt p f.blk=2 then zf { m with classes:=m.classes++[f.names] } (gs++[g0]) (3,m.classes.length) else zf m (gs++[g0]) (0,0))=jN p (i+1) (qb p n):=by rw [hsn,hres];rfl
   rw [hee] at hyf
   have hgt:((gs.length:Int)+1+1 > 1):=by omega
   have fx:=aI t0<|aI t2<|aI hT<|aI hRl<|aI r0<|aI r0E<|aI f0<|aI f0E<|aI f0l<|aI f1<|aI f1E<|aI f1l<|aI rh<|aI rhE<|aI hcd<|aI hcdl<|aI hcdE<|aI hco<|aI hpe<|hgt
   refine qB ?_
   repeat ((first|refine wSc (id:=2) qDJ qA ?_);refine qD ?_;refine qB ?_)
   clear fx
   intro K hK
   have fx:=aI t0 t2
   refine qZ h0 (have h:=hO;OwnY.re h) (hc0 _) (hF:=fun hO=>hyf _ (by rw [← hmt];exact hO)) (h:=?_)
   intro y H1 hO1
   clear fx
   have hlt:=hnx (by rw [hsn,hres,← hen];simp only [qG5];split <;> exact qI2) (by rw [hsn,hres];simp only [qG5];split <;> exact qI1 hfs)
   have fx:=aI t0<|aI t2<|hT
   refine qB ?_
   repeat ((first|refine wSc (id:=2) qDJ qA ?_);refine qD ?_;refine qB ?_)
   clear fx
   refine qPL ?_
   repeat' (first|refine qF0 ?_|refine qI3 ?_)
   exact⟨N - (i+1),by omega,i+1,rfl,hlt,by simp [t0,hT],by simp [h9,fM9],(have h:=hO1;OwnY.re h)⟩
 | some o =>
  obtain⟨hol2,hoE⟩:=gS ho
  have hres:uQ p m=vQ p m fs f.next o:=Hm.step_ord hfr ho
  have hpl:(f.pc:Int)<((jx p f.blk).length:Int):=by omega
  have hwp:IntKind.i64.wrap ((f.pc:Int)+1)=((f.pc+1:Nat):Int):=wrp (by omega) (by omega)
  have fx:=aI t0<|aI t2<|aI hT<|aI hRl<|aI r0<|aI r0E<|aI f0<|aI f0E<|aI f0l<|aI f1<|aI f1E<|aI f1l<|aI hcd<|aI hcdl<|aI hcdE<|aI hco<|aI hpl<|aI hwp<|aI ho<|aI hoE<|hol2
  refine qB ?_
  repeat ((first|refine wSc (id:=2) qDJ qA ?_);refine qD ?_;refine qB ?_)
  clear fx
  intro K hK
  have hpc1:(f.pc:Int)+1=((f.pc+1:Nat):Int):=by omega
  refine yg (fun s=>s.tm 0=.pt Yn 0∧s.tm 33=.pt Yn 0∧s.tm 34=.pt Yn (yo fs.length)∧s.tm 35=osl (jx p f.blk)∧s.tm 38=.pt Yn (yo fs.length+1)∧s.hp (.u 9 0 0)=none∧OwnY s.hp p (m.top fs f.next)) ⟨by simp [t0],by simp [t0],by simp [t2],by simp,by simp [t2],by simp [h9],?_⟩ ?_
  ·refine OwnY.wrR hO hfr (m':=m.top fs f.next) (g:=f.next) rfl hT (g3:=⟨[],by simp [Frm.next]⟩) (fun J hJ e=>?_)
   rw [qAK,e,hpc1]
   exact qHm (fs:=fs++[f]) (i:=fs.length) (f:=f) (g:=f.next) (j:=1) hJ (by simp) (by omega) (by simp) qSW |>.trans (by simp;rfl)
  clear t0 t2 h9 hO hT tr h2 h3 h28 hRl r0 f0 f1 rh r0E rhE f0l f0E f1l f1E
  rintro s ⟨t0,t33,t34,t35,t38,h9,hO⟩
  obtain⟨R,j,hT,tr,-⟩:=hO.topT rfl (by omega)
  have f1:R[yo fs.length+1]?=some (iv ((f.pc:Int)+1)):=by rw [tr.f1];rfl
  have yoh:yo fs.length+29≤4415:=by simp only [yo];omega
  obtain⟨f1l,f1E⟩:=gS f1
  have hwq:IntKind.i64.wrap (f.pc:Int)=f.pc:=wrp (by omega) (by omega)
  rw [hres] at hsn
  have hOr:=qIS hP.sh hk o (gM ho)
  have hne20:o.1=20→fs≠[]:=fun h e=>by
   subst e
   have h1:=hM.b0 f (by simp)
   have h2:=hOr.ret h
   have h3:=(hP.sh.kind0 hk).2 h1
   simp [qt,hk,h3] at h2
  have fx:=aI t0<|aI t33<|aI t34<|aI t35<|aI t38<|aI hT<|aI f1<|aI f1E<|aI f1l<|aI ho<|aI hoE<|aI hol2<|aI hwq<|yoh
  refine qB ?_
  repeat ((first|refine wSc (id:=2) qDJ qA ?_);refine qD ?_;refine qB ?_)
  clear fx
  have fx:=aI t0 (aI t33 t34)
  refine qZ h0 (have h:=hO;OwnY.re h) (hc0 _) (hF:=fun hO=>qMd gl _ p m fs f o hP hM ho hen (by simp [h9,fM9]) hO) (h:=?_)
  rintro y H1 ⟨rfl,hO1⟩
  clear fx
  rw [← hsn] at hO1
  by_cases he:(vQ p m fs f.next o).en=0
  ·have hlt:=hnx (by rw [hsn];exact he) (by rw [hsn];exact qUT hOr.code hne20)
   have fx:=aI t0<|aI hT<|he
   refine qB ?_
   repeat ((first|refine wSc (id:=2) qDJ qA ?_);refine qD ?_;refine qB ?_)
   clear fx
   refine qPL ?_
   repeat' (first|refine qF0 ?_|refine qI3 ?_)
   exact⟨N - (i+1),by omega,i+1,rfl,hlt,by simp [t0,hT],by simp [h9,fM9],(have h:=hO1;OwnY.re h)⟩
  ·have e1:(jN p (i+1) (qb p n)).ended:=.inr (by rw [hsn];exact he)
   rw [qHO e1] at hO1
   have fx:=aI t0<|aI hT<|he
   refine qB ?_
   repeat ((first|refine wSc (id:=2) qDJ qA ?_);refine qD ?_;refine qB ?_)
   clear fx
   refine qR6 (qH [] .nil (by simp;rfl) ⟨(uZ p n).frames,?_⟩)
   exact OwnY.fin (have h:=hO1;OwnY.re h)
end Go.Proofs.YtbgmnmnoaamgkaaGreatDoor
end
