/-
  Own texts, joined by mkclaim.py: Zn, Zi, Zj, Zh, Qa, Zo.
-/
import Derived.Test.YtbgmnmnoaamgkaaGreatDoorC28
import Derived.Test.YtbgmnmnoaamgkaaGreatDoorC18
import Derived.Test.YtbgmnmnoaamgkaaGreatDoorC16
import Derived.Test.YtbgmnmnoaamgkaaGreatDoorC25
import Derived.Test.YtbgmnmnoaamgkaaGreatDoorC17
import Derived.Test.YtbgmnmnoaamgkaaGreatDoorC27
import Derived.Test.YtbgmnmnoaamgkaaGreatDoorC12
set_option linter.unusedSimpArgs false
set_option linter.unusedVariables false
set_option maxRecDepth 100000
set_option maxHeartbeats 4000000

section
namespace Go.Proofs.YtbgmnmnoaamgkaaGreatDoor
open Go Go.Hm Go.Proofs
abbrev qCS:Sch:=.q 0<|.q 1<|.q 2<|.q 3<|.q 4<|.q 5<|.q 6<|.q 7<|.l 8 [7,6,5,4,3,2,1,0]<|.l 9 []<|.done
abbrev qCR:Sch:=.q 0<|.q 1<|.q 2<|.q 3<|.q 4<|.q 5<|.q 6<|.q 7<|.q 8<|.q 9<|.q 10<|.q 11<|.done
theorem qMf (gl) (H:Nm→Option AO) (p:Prg) (m:Mch) (fs:List Frm) (f:Frm) (n pc0:Nat) (hP:ValP p) (h:MOk p m fs { f with pc:=pc0 }) (hn1:n≤1) (hst:n+1≤f.stack.length) (hsl:f.stack.length≤1000) (hfl:fs.length+1≤150) (hm0:m.en=0) (hO:OwnY H p (m.top fs f)) :
  FnE Tryz.prog gl 175 DM [.pt Yn 0,.pt Yn (yo fs.length),iv n] H (fun _ y H'=>y=bv (decide ((qA9 p m fs f (17,(n:Int))).en=0))∧OwnY H' p (qA9 p m fs f (17,(n:Int)))) noE:=by
 have h0:=hO
 have hcm:=qGe (p:=p) (m:=m) (fs:=fs) hst
 have hnw:IntKind.i64.wrap ((n:Int) - 1)=(n:Int) - 1:=wrp (by omega) (by omega)
 have yoh:yo fs.length+29≤4415:=by simp only [yo];omega
 have hrp:List.replicate n [iv 0,iv 0]=zB (List.replicate n (0,0)):=by simp [zB]
 refine FnE.of_sem Tryz.func175 rfl (by kernel_rfl) (rs:=[.tmp 6]) rfl Tryz.ntmps175 (lB rfl) (fun _=>qQ) fun C w g root hroot=>?_
 have fx:=aI hnw<|hn1
 refine qB ?_
 repeat ((first|refine wSc (id:=9) qCS qA ?_|refine wSc (id:=10) qCR qA ?_);refine qD ?_;refine qB ?_)
 clear fx
 refine q7 (fun k s=>∃ i:Nat,k=n - i∧i≤n∧s.tm 0=.pt Yn 0∧s.tm 1=.pt Yn (yo fs.length)∧s.tm 2=iv n∧s.tm 7=.hs (.s 7) 2 0 n∧s.hp (.s 7)=some (.row 2 (zB (List.replicate (n - i) (0,0)++f.stack.drop (f.stack.length - i))))∧s.tm 8=iv ((n:Int) - 1 - i)∧OwnY s.hp p (m.top fs (f.cut i))) n ?_ ?_
 ·exact⟨0,by omega,by omega,by simp,by simp,by simp,by simp,by simp [hrp],by simp,by rw [qIi];exact (by repeat (first|(with_reducible exact hO)|refine vE ?_|refine jl (by rfl) ?_|refine jn ?_|refine ya ?_|refine jm ?_|refine vF ?_|exact (have h:=hO;OwnY.re h)))⟩
 clear hO
 rintro k s - - ⟨i,rfl,hi,t0,t1,t2,t7,p7,t8,hO⟩
 have hk:=qHa (f:=f) (i:=i) (by omega)
 obtain⟨R,j,hT,tr,h2,h3,h28⟩:=hO.topT rfl (by omega)
 have f28:=tr.f28
 rw [hk] at f28
 by_cases hil:i<n
 ·obtain rfl:n=1:=by omega
  obtain rfl:i=0:=by omega
  have fx:=aI t0<|aI t1<|aI t2<|aI t7<|aI p7<|t8
  refine qB ?_
  repeat ((first|refine wSc (id:=9) qCS qA ?_|refine wSc (id:=10) qCR qA ?_);refine qD ?_;refine qB ?_)
  clear fx
  intro K hK
  have fx:=aI t0 (aI t1 (aI t7 p7))
  refine qZ h0 (have h:=hO;OwnY.re h) (Nat.le_refl _) (hF:=fun _=>uO gl DM (fun _=>qQ) _ R (yo fs.length) (f.stack.length - (0+1)) ((f.cut 0).stack++j) (f.cut 0).tos (by simp [hT]) f28 (by simp [h28]) (ja hk) (by omega) yoh) (h:=?_)
  intro y H1 hw
  clear fx
  have hO1:=OwnY.wrp (OwnY.popped (m:=m.top fs (f.cut 0)) (have h:=hO;OwnY.re h) rfl (by omega) (by simp [hT]) hk) hw
  obtain⟨rfl,-⟩:=hw
  have hO2:OwnY H1 p (m.top fs (f.cut 1)):=by have e:=qEv (f:=f) (i:=0) (by omega);simpa [Mch.top,e] using hO1
  have hdv:=qIj (f:=f) (i:=0) (by omega)
  generalize (f.cut 0).tos=v at *
  obtain⟨v1,v2⟩:=v
  have fx:=aI t0<|aI t1<|aI t2<|aI t7<|aI p7<|aI t8<|hT
  refine qB ?_
  repeat ((first|refine wSc (id:=9) qCS qA ?_|refine wSc (id:=10) qCR qA ?_);refine qD ?_;refine qB ?_)
  clear fx
  have hap:f.stack.drop (f.stack.length - 1)=[(v1,v2)]:=by rw [hdv];simp
  exact⟨0,by omega,1,rfl,by omega,by simp [t0,hT],by simp [t1,hT],by simp [t2],by simp [t7],by simp [hap,zB],by simp;decide,(by repeat (first|(with_reducible exact hO2)|refine vE ?_|refine jl (by rfl) ?_|refine jn ?_|refine ya ?_|refine jm ?_|refine vF ?_|exact (have h:=hO2;OwnY.re h)))⟩
 ·obtain rfl:i=n:=by omega
  have hdl:(f.stack.drop (f.stack.length - i)).length=i:=by simp;omega
  have htm:=h.top.sv _ (gM (qEu (f:=f) (i:=i) (by omega)))
  rw [hcm]
  have hil:(i:Int) - 1 - i=-1:=by omega
  rw [Nat.sub_self,List.replicate_zero,List.nil_append] at p7
  rw [hil] at t8
  have fx:=aI t0<|aI t1<|aI t2<|aI t7<|aI p7<|t8
  refine qB ?_
  repeat ((first|refine wSc (id:=9) qCS qA ?_|refine wSc (id:=10) qCR qA ?_);refine qD ?_;refine qB ?_)
  clear fx
  intro K hK
  have fx:=aI t0 t1
  refine qZ h0 (have h:=hO;OwnY.re h) (Nat.le_refl _) (hF:=fun _=>uO gl DM (fun _=>qQ) _ R (yo fs.length) (f.stack.length - (i+1)) ((f.cut i).stack++j) (f.cut i).tos (by simp [hT]) f28 (by simp [h28]) (ja hk) (by omega) yoh) (h:=?_)
  intro y H1 hw
  clear fx
  have hO1:=OwnY.wrp (OwnY.popped (m:=m.top fs (f.cut i)) (have h:=hO;OwnY.re h) rfl (by omega) (by simp [hT]) hk) hw
  obtain⟨rfl,-⟩:=hw
  have hO2:OwnY H1 p (m.top fs (f.cut (i+1))):=by have e:=qEv (f:=f) (i:=i) (by omega);simpa [Mch.top,e] using hO1
  generalize (f.cut i).tos=v at *
  obtain⟨v1,v2⟩:=v
  have fx:=aI t0<|aI t1<|aI t2<|aI t7<|aI p7<|hT
  refine qB ?_
  repeat ((first|refine wSc (id:=9) qCS qA ?_|refine wSc (id:=10) qCR qA ?_);refine qD ?_;refine qB ?_)
  clear fx
  refine vH (fun s=>s.tm 0=.pt Yn 0∧s.tm 1=.pt Yn (yo fs.length)∧s.tm 2=iv i∧s.tm 7=.hs (.s 7) 2 0 i∧s.hp (.s 7)=some (.row 2 (zB (f.stack.drop (f.stack.length - i))))∧s.tm 9=.pt (.s 9) 0∧s.hp (.s 9)=some (.row 2 [[iv v1,iv v2]])∧s.tm 28=bv (v1 != 2)∧OwnY s.hp p (m.top fs (f.cut (i+1)))) ⟨by simp [t0,hT],by simp [t1,hT],by simp [t2],by simp [t7],by simp [p7],by simp,by simp,by simp,(by repeat (first|(with_reducible exact hO2)|refine vE ?_|refine jl (by rfl) ?_|refine jn ?_|refine ya ?_|refine jm ?_|refine vF ?_|exact (have h:=hO2;OwnY.re h)))⟩ ?_
  clear hT tr h2 h3 h28 f28 t0 t1 t2 t7 p7 t8 hO hO1 hO2 j R
  rintro s ⟨t0,t1,t2,t7,p7,t9,p9,t28,hO⟩
  obtain⟨R,j,hT,tr,h2,h3,h28⟩:=hO.topT rfl (by omega)
  have hRl:=tr.len
  have r0:=tr.r0
  have r30:=tr.r30
  obtain⟨_,r0E⟩:=gS r0
  obtain⟨_,r30E⟩:=gS r30
  simp only [um] at r30 r30E
  by_cases h2:v1=2
  case neg =>
   have hb:(v1 != 2)=true:=by simpa using h2
   rw [if_pos h2]
   have fx:=aI t0<|aI t1<|aI t28<|aI hT<|hb
   refine qB ?_
   repeat ((first|refine wSc (id:=9) qCS qA ?_|refine wSc (id:=10) qCR qA ?_);refine qD ?_;refine qB ?_)
   clear fx
   intro K hK
   have fx:=aI t0 t1
   refine qZ h0 (have h:=hO;OwnY.re h) (Nat.le_refl _) (hF:=fun _=>yM gl DM (fun _=>qQ) _ R 5 (by simp [hT]) hRl) (h:=?_)
   intro y H1 hw
   clear fx
   have hO1:=OwnY.wrp (OwnY.stopped (m:=m.top fs (f.cut (i+1))) (e:=5) (have h:=hO;OwnY.re h) rfl (by simp [hT])) hw
   obtain⟨rfl,-⟩:=hw
   have fx:=fx0
   refine qB ?_
   repeat ((first|refine wSc (id:=9) qCS qA ?_|refine wSc (id:=10) qCR qA ?_);refine qD ?_;refine qB ?_)
   clear fx
   refine qH [] .nil (by simp;rfl) ⟨by simp [Mch.stop],OwnY.fin (have h:=hO1;OwnY.re h)⟩
  subst h2
  rw [if_neg (by simp)]
  have hv2:=htm.num
  have hv3:=htm.fn rfl
  simp only at hv2 hv3
  obtain⟨jf,rfl⟩:∃ jf:Nat,v2=jf:=⟨v2.toNat,by omega⟩
  have hjl:jf<m.funs.length:=by omega
  obtain⟨q,hq⟩:∃ q,m.funs[jf]?=some q:=⟨_,gE hjl⟩
  obtain⟨_,hqE⟩:=gS hq
  obtain⟨kq,hk1,hk2,hk3,hk4⟩:=h.funs q (gM hq)
  obtain⟨b,cs⟩:=q
  simp only at hk1 hk2 hk3 hk4
  have hFn:=hO.funs
  simp only [um] at hFn
  have hbl:=(gS hk1).1
  have hcd:(qf p p.length)[b]?=some (qk p b):=by simp [qf,hbl]
  obtain⟨hcdl,hcdE⟩:=gS hcd
  have hpn:(qk p b).params.length=qIP p b:=by simp [qk,hk1,qIP]
  simp only [Int.toNat_natCast,hq]
  by_cases hpi:qIP p b=i
  case neg =>
   rw [if_pos hpi]
   have hb:(((qIP p b:Nat):Int) != (i:Int))=true:=by rw [bne_iff_ne];omega
   have hb2:¬ ((qIP p b:Nat):Int)=(i:Int):=by omega
   have fx:=aI t0<|aI t1<|aI t2<|aI t7<|aI p7<|aI t9<|aI p9<|aI t28<|aI hT<|aI hRl<|aI r0<|aI r0E<|aI r30<|aI r30E<|aI hFn<|aI hq<|aI hqE<|aI hjl<|aI hcd<|aI hcdl<|aI hcdE<|aI hpn<|aI hb<|hb2
   refine qB ?_
   repeat ((first|refine wSc (id:=9) qCS qA ?_|refine wSc (id:=10) qCR qA ?_);refine qD ?_;refine qB ?_)
   clear fx
   intro K hK
   refine yg (fun s=>s.tm 51=.pt Yn 0∧OwnY s.hp p (m.top fs (f.cut (i+1)))) ⟨by simp,(by repeat (first|(with_reducible exact hO)|refine vE ?_|refine jl (by rfl) ?_|refine jn ?_|refine ya ?_|refine jm ?_|refine vF ?_|exact (have h:=hO;OwnY.re h)))⟩ ?_
   rintro s ⟨t51,hO⟩
   obtain⟨R,j,hT,tr,-⟩:=hO.topT rfl (by omega)
   have fx:=t51
   refine qZ h0 (have h:=hO;OwnY.re h) (Nat.le_refl _) (hF:=fun _=>yM gl DM (fun _=>qQ) _ R 6 (by simp [hT]) tr.len) (h:=?_)
   intro y H1 hw
   clear fx
   have hO1:=OwnY.wrp (OwnY.stopped (m:=m.top fs (f.cut (i+1))) (e:=6) (have h:=hO;OwnY.re h) rfl (by simp [hT])) hw
   obtain⟨rfl,-⟩:=hw
   have fx:=fx0
   refine qB ?_
   repeat ((first|refine wSc (id:=9) qCS qA ?_|refine wSc (id:=10) qCR qA ?_);refine qD ?_;refine qB ?_)
   clear fx
   refine qH [] .nil (by simp;rfl) ⟨by simp [Mch.stop],OwnY.fin (have h:=hO1;OwnY.re h)⟩
  rw [if_neg (by simpa using hpi)]
  have hc8:=jS (p:=p) (b:=b)
  have hmd:=h.made
  have hdp:=h.deep
  have hnc:=h.nc
  have fx:=aI t0<|aI t1<|aI t2<|aI t7<|aI p7<|aI t9<|aI p9<|aI t28<|aI hT<|aI hRl<|aI r0<|aI r0E<|aI r30<|aI r30E<|aI hFn<|aI hq<|aI hqE<|aI hjl<|aI hcd<|aI hcdl<|aI hcdE<|aI hpn<|hpi
  refine qB ?_
  repeat ((first|refine wSc (id:=9) qCS qA ?_|refine wSc (id:=10) qCR qA ?_);refine qD ?_;refine qB ?_)
  clear fx
  intro K hK
  refine yg (fun s=>s.tm 53=.pt Yn 0∧s.tm 55=iv b∧s.tm 57=.sl 1 (zI cs)∧s.tm 58=.hs (.s 7) 2 0 i∧s.hp (.s 7)=some (.row 2 (zB (f.stack.drop (f.stack.length - i))))∧OwnY s.hp p (m.top fs (f.cut (i+1)))) ⟨by simp,by simp,by simp,by simp,by simp [p7],(by repeat (first|(with_reducible exact hO)|refine vE ?_|refine jl (by rfl) ?_|refine jn ?_|refine ya ?_|refine jm ?_|refine vF ?_|exact (have h:=hO;OwnY.re h)))⟩ ?_
  rintro s ⟨t53,t55,t57,t58,p7,hO⟩
  refine qC2 58 (.s 7) 2 i (zB (f.stack.drop (f.stack.length - i))) t58 p7 (by simp [hdl]) qKO ?_
  have fx:=aI t53 (aI t55 t57)
  refine qZ h0 (ya hO) (Nat.le_refl _) (hF:=fun hO=>qBq gl _ p (m.top fs (f.cut (i+1))) b cs (f.stack.drop (f.stack.length - i)) hbl (by have:=hP.sh.len;omega) (by omega) hk4 (by simp only [kP];omega) (by simp only [qBg];omega) (by simp only [Mch.top];omega) (by simp [Mch.top];omega) (qUS hP hk1 (by omega)) (by rw [hpn,hdl,hpi]) (h.frc rfl) h.fnc hO) (h:=?_)
  rintro y H1 hO1
  clear fx
  have fx:=fx0
  refine qB ?_
  repeat ((first|refine wSc (id:=9) qCS qA ?_|refine wSc (id:=10) qCR qA ?_);refine qD ?_;refine qB ?_)
  clear fx
  refine qH [] .nil (by simp;rfl) ⟨by simp [qFG,Mch.top,hm0],OwnY.fin (have h:=hO1;OwnY.re h)⟩
abbrev qFw:Sch:=.q 0<|.q 1<|.q 2<|.q 3<|.q 4<|.q 5<|.q 6<|.q 7<|.q 8<|.q 9<|.q 10<|.q 11<|.done
abbrev qFv:Sch:=.q 0<|.q 1<|.q 2<|.q 3<|.q 4<|.q 5<|.q 6<|.q 7<|.q 8<|.l 9 [4,3,2,1,0]<|.l 10 [0]<|.q 11<|.q 12<|.l 13 []<|.done
abbrev qFu:Sch:=.q 0<|.q 2<|.l 1 [2]<|.l 3 []<|.done
theorem qRf (l:List Slt):∃ (b:Nat→Bool) (x y:Nat→Int),vR l=[bv (b 0),iv (x 0),iv (y 0),bv (b 1),iv (x 1),iv (y 1),bv (b 2),iv (x 2),iv (y 2),bv (b 3),iv (x 3),iv (y 3),bv (b 4),iv (x 4),iv (y 4),bv (b 5),iv (x 5),iv (y 5),bv (b 6),iv (x 6),iv (y 6),bv (b 7),iv (x 7),iv (y 7)]:=by
 refine⟨fun i=>(yt l i).isSome,fun i=>((yt l i).getD (0,0)).1,fun i=>((yt l i).getD (0,0)).2,?_⟩
 have h:∀ i,zu (yt l i)=[bv (yt l i).isSome,iv ((yt l i).getD (0,0)).1,iv ((yt l i).getD (0,0)).2]:=fun i=>by cases yt l i <;> rfl
 simp [vR,cat,List.range_succ,h]
theorem qDS (gl) (H:Nm→Option AO) (p:Prg) (m:Mch) (gs:List Frm) (g0 f:Frm) (v:Val) (hb:f.blk<p.length) (hfl:gs.length+1≤150) (hgl:g0.stack.length≤1000) (hcl:m.classes.length≤1000) (hO:OwnY H p (m.top (gs++[g0]) f)) :
  FnE Tryz.prog gl 117 DM [.pt Yn 0,Val.av v] H (fun _ _ H'=>OwnY H' p (if qt p f.blk=2 then zf { m with classes:=m.classes++[f.names] } (gs++[g0]) (3,m.classes.length) else zf m (gs++[g0]) v)) noE:=by
 obtain⟨v1,v2⟩:=v
 have yh:(gs++[g0]).length=gs.length+1:=by simp
 have yoh:yo (gs.length+1)+29≤4411:=by simp only [yo];omega
 refine FnE.of_sem Tryz.func117 rfl (by kernel_rfl) (rs:=[]) rfl Tryz.ntmps117 (lB rfl) (fun _=>qQ) fun C w g root hroot=>?_
 have fx:=fx0
 refine qB ?_
 clear fx
 intro K hK
 refine yg (fun s=>s.tm 5=.pt Yn 0∧s.tm 0=.pt Yn 0∧s.tm 3=.pt (.s 3) 0∧s.hp (.s 3)=some (.row 2 [[iv v1,iv v2]])∧OwnY s.hp p (m.top (gs++[g0]) f)) ⟨by simp,by simp,by simp,by simp,(OwnY.ren hO (f:=kl (.s 3)) (fun k hk=>by simp [kl,(D_s (fun _=>qQ) hk 3).2]) (fun k hk=>by have:=D_s (fun _=>qQ) hk 3;simp [this.1,this.2,hk]))⟩ ?_
 rintro s ⟨t5,t0,t3,p3,hO1⟩
 obtain⟨R,j,hT,tr,h2,h3,h28⟩:=hO1.topT rfl (by omega)
 have fx:=t5
 refine qZ hO (have h:=hO1;OwnY.re h) (Nat.le_refl _) (hF:=fun _=>qDs gl DM (fun _=>qQ) rfl _ R (gs++[g0]).length (by simp [hT]) tr.h (by omega)) (h:=?_)
 intro y H1 hw
 clear fx
 have hO2:=OwnY.smp hO1 hw
 obtain⟨rfl,-⟩:=hw
 have fx:=aI t0<|aI t3<|aI p3<|hT
 refine qB ?_
 clear fx
 refine vH (fun s=>s.tm 0=.pt Yn 0∧s.tm 3=.pt (.s 3) 0∧s.hp (.s 3)=some (.row 2 [[iv v1,iv v2]])∧s.tm 4=.pt Yn (yo (gs.length+1))∧OwnY s.hp p (m.top (gs++[g0]) f)) ⟨by simp [t0,hT],by simp [t3],by simp [p3],by simp [hT],(have h:=hO2;OwnY.re h)⟩ ?_
 have h0:=hO
 clear hO hO1 hO2 hT tr h2 h3 h28 R j t5 t0 t3 p3
 rintro s ⟨t0,t3,p3,t4,hO⟩
 obtain⟨R,j,hT,tr,h2,h3,h28⟩:=hO.topT rfl (by omega)
 have hRl:=tr.len
 have r0:=tr.r0
 have f0:=tr.f0
 have r31:=tr.r31
 have tb:=tr.tb
 rw [yh] at f0 tb
 simp only [Mch.top] at r31
 obtain⟨_,r0E⟩:=gS r0
 obtain⟨_,r31E⟩:=gS r31
 obtain⟨f0l,f0E⟩:=gS f0
 have hcd:(qf p p.length)[f.blk]?=some (qk p f.blk):=by simp [qf,hb]
 obtain⟨hcdl,hcdE⟩:=gS hcd
 obtain⟨k,hk⟩:∃ k,p[f.blk]?=some k:=⟨_,gE hb⟩
 have hki:(qk p f.blk).kind=qt p f.blk:=by simp [qk,qt,hk]
 by_cases hc:qt p f.blk=2
 ·have hcb:(qt p f.blk==2)=true:=by simp [hc]
  have hcy:=hO.clss
  simp only [Mch.top] at hcy
  obtain⟨b,x,y,hfx⟩:=qRf f.names
  rw [hfx] at tb
  have yob:yo (gs.length+1)+4+24≤4415:=by omega
  have hcl2:m.classes.length+1≤4294967296:=by omega
  have hwc:IntKind.i64.wrap (m.classes.length:Int)=m.classes.length:=wrp (by omega) (by omega)
  have fx:=aI t0<|aI t3<|aI p3<|aI t4<|aI hT<|aI hRl<|aI yoh<|aI yh<|aI r0<|aI r0E<|aI f0<|aI f0E<|aI f0l<|aI hcd<|aI hcdl<|aI hcdE<|aI hki<|aI hc<|aI hcb<|aI r31<|aI r31E<|aI tb<|aI hcy<|aI hcl<|aI yob<|hwc
  refine qB ?_
  repeat ((first|refine wSc (id:=2) qFw qA ?_|refine wSc (id:=3) qFv qA ?_|refine wSc (id:=7) qFu qA ?_);refine qD ?_;refine qB ?_)
  clear fx
  intro K hK
  have hcap:jc m.classes++[[bv (b 0),iv (x 0),iv (y 0),bv (b 1),iv (x 1),iv (y 1),bv (b 2),iv (x 2),iv (y 2),bv (b 3),iv (x 3),iv (y 3),bv (b 4),iv (x 4),iv (y 4),bv (b 5),iv (x 5),iv (y 5),bv (b 6),iv (x 6),iv (y 6),bv (b 7),iv (x 7),iv (y 7)]]=jc (m.classes++[f.names]):=by rw [← hfx];exact qJu
  let R1:List AV:=(R.map (AV.tr (mv (.s 29) (.c Yn 0 31))∘AV.tr (kl (.s 29))∘AV.tr (kl (.s 28)))).take 31++.hs (.c Yn 0 31) 24 0 (m.classes.length+1)::(R.map (AV.tr (mv (.s 29) (.c Yn 0 31))∘AV.tr (kl (.s 29))∘AV.tr (kl (.s 28)))).drop 32
  have hO1:OwnY (wrO Yn (.row 4415 [R1]) (wrO (.c Yn 0 31) (.row 24 (jc (m.classes++[f.names]))) s.hp)) p (({ m with classes:=m.classes++[f.names] }:Mch).top (gs++[g0]) f):=by
   have h:=hO
   rw [yh] at h2 h3 h28
   exact OwnY.reT (f:=f) (g:=f) (fs:=gs++[g0]) h rfl rfl rfl (qEO hT (R':=R1) (by simp [wrO]) (fun J hJ e=>by simp only [R1];rw [e];simp only [kD];exact qUv (m.classes++[f.names]) hJ (by simp) (fun j hj=>by simp [hj]))) (h5:=by simp [wrO]) (h6t:=by simp [wrO,h2]) (h7t:=by simp [wrO,h3]) (h8t:=⟨j,by simp [wrO,h28]⟩)
  refine yg (fun s=>s.tm 0=.pt Yn 0∧s.tm 42=.pt Yn 0∧s.tm 44=.pt Yn 4411∧s.tm 3=.pt (.s 3) 0∧s.hp (.s 3)=some (.row 2 [[iv 3,iv m.classes.length]])∧qHj s.hp p { ({ m with classes:=m.classes++[f.names] }:Mch) with frames:=gs++[g0] } (gs.length+2)) ⟨by simp [t0],by simp [t0],by simp [t0],by simp [t3],by simp [p3,hwc],?_⟩ ?_
  ·have h:=hO1
   have hR1:(wrO Yn (.row 4415 [R1]) (wrO (.c Yn 0 31) (.row 24 (jc (m.classes++[f.names]))) s.hp)) Yn=some (.row 4415 [R1]):=by simp [wrO]
   rw [show gs.length+2=(gs++[g0]).length+1 by simp]
   refine OwnY.endF (m:=({ m with classes:=m.classes++[f.names] }:Mch).top (gs++[g0]) f) h rfl (by omega) hR1 (vals:=[iv 0,iv 0,.hs (.c Yn 0 (yo (gs.length+1)+2)) 3 0 0,.hs (.c Yn 0 (yo (gs.length+1)+3)) 1 0 0]++(vR qm++[.hs (.c Yn 0 (yo (gs.length+1)+28)) 2 0 0])) (F:=fun m=>((kl (.c Yn 0 (yo (gs.length+1)+2)) m).bind (kl (.c Yn 0 (yo (gs.length+1)+3)))).bind (kl (.c Yn 0 (yo (gs.length+1)+28)))) (by simp) (fun j h1 h2 h3=>by rw [yh] at h1 h2 h3;simp [kl,h1,h2,h3]) (h0:=?_) (h1:=by simp [hO.caps]) (h2:=by simp [hO.out]) (h3:=by simp [hO.trc]) (h4:=by simp [hO.funs]) (h5:=by simp [← hcap]) (h6:=by intro i x hi hx;rw [yh] at hi;have e:=wZ hi;simp only [wrO] at hx;rw [if_neg (by simp),if_neg (by simp)] at hx;simp [hx,e.1,e.2.1,e.2.2.1,e.2.2.2]) (h7:=by intro i x hi hx;rw [yh] at hi;have e:=wZ hi;simp only [wrO] at hx;rw [if_neg (by simp),if_neg (by simp)] at hx;simp [hx,e.1,e.2.1,e.2.2.1,e.2.2.2]) (h8:=by intro i x hi hx;rw [yh] at hi;have e:=wZ hi;simp only [wrO] at hx;rw [if_neg (by simp),if_neg (by simp)] at hx;simp [hx,e.1,e.2.1,e.2.2.1,e.2.2.2]) (h9:=by intro c s hc;simp [hO.cell c s hc]) (hA:=by intro k i j hk e hn;simpa [wrO,hk,e] using hn)
   simp only [← kD]
   simp [spl,yh,qA4,R1]
   rfl
  rintro s ⟨t0,t42,t44,t3,p3,hY⟩
  obtain⟨R,hT,hRl,r4⟩:=hY.ht
  obtain⟨_,r4E⟩:=gS r4
  have hw1:IntKind.i64.wrap ((gs.length:Int)+2 - 1)=(gs.length:Int)+1:=by rw [wrp (by omega) (by omega)];omega
  have fx:=aI t0<|aI t42<|aI t44<|aI t3<|aI p3<|aI hT<|aI hRl<|aI r4<|aI r4E<|hw1
  refine qB ?_
  clear fx
  refine vH (fun s=>s.tm 0=.pt Yn 0∧s.tm 3=.pt (.s 3) 0∧s.hp (.s 3)=some (.row 2 [[iv ((3,(m.classes.length:Int))).1,iv ((3,(m.classes.length:Int))).2]])∧OwnY s.hp p { ({ m with classes:=m.classes++[f.names] }:Mch) with frames:=gs++[g0] }) ⟨by simp [t0],by simp [t3],by simp [p3],hY.done hT (by simp [spl,hw1]) (fun q hq hn=>by simp [hn])⟩ ?_
  clear hT hRl r4 r4E hY t0 t42 t44 t3 p3 s
  rintro s ⟨t0,t3,p3,hO⟩
  obtain⟨R,j,hT,tr,h2,h3,h28⟩:=OwnY.topT (f:=g0) hO rfl (by omega)
  have fx:=aI t0<|aI t3<|aI p3<|hT
  refine qB ?_
  repeat ((first|refine wSc (id:=2) qFw qA ?_|refine wSc (id:=3) qFv qA ?_|refine wSc (id:=7) qFu qA ?_);refine qD ?_;refine qB ?_)
  clear fx
  intro K hK
  have fx:=aI t0 (aI t3 p3)
  refine qZ h0 (have h:=hO;OwnY.re h) (Nat.le_refl _) (hF:=fun _=>qDs gl DM (fun _=>qQ) rfl _ R gs.length (by simp [hT]) tr.h (by omega)) (h:=?_)
  intro y H1 hw
  clear fx
  have hO1:=OwnY.smp (by exact (have h:=hO;OwnY.re h)) hw
  obtain⟨rfl,-⟩:=hw
  have fx:=aI t0<|aI t3<|aI p3<|hT
  refine qB ?_
  repeat ((first|refine wSc (id:=2) qFw qA ?_|refine wSc (id:=3) qFv qA ?_|refine wSc (id:=7) qFu qA ?_);refine qD ?_;refine qB ?_)
  clear fx
  obtain⟨R1,j1,hT1,tr1,h21,h31,h281⟩:=OwnY.topT (f:=g0) hO1 rfl (by omega)
  have yog:yo gs.length+29≤4415:=by simp only [yo];omega
  have fx:=aI t0 (aI t3 (aI p3 hT))
  refine qZ h0 (have h:=hO1;OwnY.re h) (Nat.le_refl _) (hF:=fun _=>jh gl DM (fun _=>qQ) _ R1 (yo gs.length) g0.stack j1 (3,(m.classes.length:Int)) rfl rfl (by simp [hT1]) tr1.f28 (by simp [h281]) hgl yog) (h:=?_)
  intro y2 H2 hw2
  clear fx
  have hO2:=OwnY.pushed (f:=g0) (by exact (have h:=hO1;OwnY.re h)) rfl (by omega) rfl (by simp [hT1]) hw2
  have fx:=aI t0<|aI t3<|aI p3<|aI hT<|hT1
  refine qB ?_
  repeat ((first|refine wSc (id:=2) qFw qA ?_|refine wSc (id:=3) qFv qA ?_|refine wSc (id:=7) qFu qA ?_);refine qD ?_;refine qB ?_)
  clear fx
  refine zp [] .nil (by simp;rfl) ?_
  rw [if_pos hc]
  exact OwnY.fin (by unfold zf;simp only [List.getLast?_append,List.getLast?_singleton,List.dropLast_concat,Option.some_or];exact (have h:=hO2;OwnY.re h))
 ·have hc':(qt p f.blk==2)=false:=by simpa using hc
  have fx:=aI t0<|aI t3<|aI p3<|aI t4<|aI hT<|aI hRl<|aI yoh<|aI yh<|aI r0<|aI r0E<|aI f0<|aI f0E<|aI f0l<|aI hcd<|aI hcdl<|aI hcdE<|aI hki<|hc'
  refine qB ?_
  repeat ((first|refine wSc (id:=2) qFw qA ?_|refine wSc (id:=3) qFv qA ?_|refine wSc (id:=7) qFu qA ?_);refine qD ?_;refine qB ?_)
  clear fx
  intro K hK
  refine yg (fun s=>s.tm 0=.pt Yn 0∧s.tm 42=.pt Yn 0∧s.tm 44=.pt Yn 4411∧s.tm 3=.pt (.s 3) 0∧s.hp (.s 3)=some (.row 2 [[iv ((v1,v2)).1,iv ((v1,v2)).2]])∧qHj s.hp p { m with frames:=gs++[g0] } (gs.length+2)) ⟨by simp [t0],by simp [t0],by simp [t0],by simp [t3],by simp [p3],?_⟩ ?_
  ·have hm':(m.top (gs++[g0]) f).frames=(gs++[g0])++[f]:=rfl
   have h:=hO
   rw [show gs.length+2=(gs++[g0]).length+1 by simp]
   refine OwnY.endF (m:=m.top (gs++[g0]) f) h hm' (by omega) hT (vals:=[iv 0,iv 0,.hs (.c Yn 0 (yo (gs.length+1)+2)) 3 0 0,.hs (.c Yn 0 (yo (gs.length+1)+3)) 1 0 0]++(vR qm++[.hs (.c Yn 0 (yo (gs.length+1)+28)) 2 0 0])) (F:=fun m=>((kl (.c Yn 0 (yo (gs.length+1)+2)) m).bind (kl (.c Yn 0 (yo (gs.length+1)+3)))).bind (kl (.c Yn 0 (yo (gs.length+1)+28)))) (by simp) (fun j h1 h2 h3=>by rw [yh] at h1 h2 h3;simp [kl,h1,h2,h3]) (h0:=?_) (h6:=by intro i x hi hx;rw [yh] at hi;have e:=wZ hi;simp [hx,e.1,e.2.1,e.2.2.1,e.2.2.2]) (h7:=by intro i x hi hx;rw [yh] at hi;have e:=wZ hi;simp [hx,e.1,e.2.1,e.2.2.1,e.2.2.2]) (h8:=by intro i x hi hx;rw [yh] at hi;have e:=wZ hi;simp [hx,e.1,e.2.1,e.2.2.1,e.2.2.2])
   simp only [← kD]
   simp [spl,yh,qA4]
  rintro s ⟨t0,t42,t44,t3,p3,hY⟩
  obtain⟨R,hT,hRl,r4⟩:=hY.ht
  obtain⟨_,r4E⟩:=gS r4
  have hw1:IntKind.i64.wrap ((gs.length:Int)+2 - 1)=(gs.length:Int)+1:=by rw [wrp (by omega) (by omega)];omega
  have fx:=aI t0<|aI t42<|aI t44<|aI t3<|aI p3<|aI hT<|aI hRl<|aI r4<|aI r4E<|hw1
  refine qB ?_
  clear fx
  refine vH (fun s=>s.tm 0=.pt Yn 0∧s.tm 3=.pt (.s 3) 0∧s.hp (.s 3)=some (.row 2 [[iv ((v1,v2)).1,iv ((v1,v2)).2]])∧OwnY s.hp p { m with frames:=gs++[g0] }) ⟨by simp [t0],by simp [t3],by simp [p3],hY.done hT (by simp [spl,hw1]) (fun q hq hn=>by simp [hn])⟩ ?_
  clear hT hRl r4 r4E hY t0 t42 t44 t3 p3 s
  rintro s ⟨t0,t3,p3,hO⟩
  obtain⟨R,j,hT,tr,h2,h3,h28⟩:=OwnY.topT (f:=g0) hO rfl (by omega)
  have fx:=aI t0<|aI t3<|aI p3<|hT
  refine qB ?_
  repeat ((first|refine wSc (id:=2) qFw qA ?_|refine wSc (id:=3) qFv qA ?_|refine wSc (id:=7) qFu qA ?_);refine qD ?_;refine qB ?_)
  clear fx
  intro K hK
  have fx:=aI t0 (aI t3 p3)
  refine qZ h0 (have h:=hO;OwnY.re h) (Nat.le_refl _) (hF:=fun _=>qDs gl DM (fun _=>qQ) rfl _ R gs.length (by simp [hT]) tr.h (by omega)) (h:=?_)
  intro y H1 hw
  clear fx
  have hO1:=OwnY.smp (by exact (have h:=hO;OwnY.re h)) hw
  obtain⟨rfl,-⟩:=hw
  have fx:=aI t0<|aI t3<|aI p3<|hT
  refine qB ?_
  repeat ((first|refine wSc (id:=2) qFw qA ?_|refine wSc (id:=3) qFv qA ?_|refine wSc (id:=7) qFu qA ?_);refine qD ?_;refine qB ?_)
  clear fx
  obtain⟨R1,j1,hT1,tr1,h21,h31,h281⟩:=OwnY.topT (f:=g0) hO1 rfl (by omega)
  have yog:yo gs.length+29≤4415:=by simp only [yo];omega
  have fx:=aI t0 (aI t3 (aI p3 hT))
  refine qZ h0 (have h:=hO1;OwnY.re h) (Nat.le_refl _) (hF:=fun _=>jh gl DM (fun _=>qQ) _ R1 (yo gs.length) g0.stack j1 (v1,v2) rfl rfl (by simp [hT1]) tr1.f28 (by simp [h281]) hgl yog) (h:=?_)
  intro y2 H2 hw2
  clear fx
  have hO2:=OwnY.pushed (f:=g0) (by exact (have h:=hO1;OwnY.re h)) rfl (by omega) rfl (by simp [hT1]) hw2
  have fx:=aI t0<|aI t3<|aI p3<|aI hT<|hT1
  refine qB ?_
  repeat ((first|refine wSc (id:=2) qFw qA ?_|refine wSc (id:=3) qFv qA ?_|refine wSc (id:=7) qFu qA ?_);refine qD ?_;refine qB ?_)
  clear fx
  refine zp [] .nil (by simp;rfl) ?_
  rw [if_neg hc]
  exact OwnY.fin (by unfold zf;simp only [List.getLast?_append,List.getLast?_singleton,List.dropLast_concat,Option.some_or];exact (have h:=hO2;OwnY.re h))
end Go.Proofs.YtbgmnmnoaamgkaaGreatDoor
end
section
namespace Go.Proofs.YtbgmnmnoaamgkaaGreatDoor
open Go Go.Hm Go.Proofs
theorem qKN (gl) (D:Nm→Bool) (hD:∀ k,D k=true→k.sroot=false) (H:Nm→Option AO) (p:Prg) (i0:Nat) (f:Frm) (b:Nat) (R:List AV) (hb:b<p.length) (hp7:p.length≤7) (hfl:i0≤150) (hT0:H Yn=some (.row 4415 [R])) (hRl0:R.length=4415) (r10:R[1]?=some (.hs (.c Yn 0 1) 1 0 p.length)) (f30:R[yo i0+3]?=some (.hs (.c Yn 0 (yo i0+3)) 1 0 f.cells.length))
  (hcp0:H (.c Yn 0 1)=some (.row 1 (jd p p.length))) (h30:H (.c Yn 0 (yo i0+3))=some (.row 1 (zI f.cells))) (hDE:∀ c,D (En c)=true) (hDc:∀ j,j=1∨j=yo i0+3→D (.c Yn 0 j)=true) (hDY:D Yn=true) (hc:∀ x∈zL p b,∃ k:Nat,x=k∧k<f.cells.length) (hcl:(zL p b).length≤8) :
  FnE Tryz.prog gl 174 D [.pt Yn 0,.pt Yn (yo i0),iv b] H (fun r y H'=>(y=.hs r 1 0 (y9 p f b).length∧H' r=some (.row 1 (zI (y9 p f b))))∧qBE D H' H) noE:=by
 obtain⟨_,r1E⟩:=gS r10
 have hcml:(y9 p f b).length=(zL p b).length:=by simp [y9]
 refine FnE.of_sem Tryz.func174 rfl (by kernel_rfl) (rs:=[.tmp 6]) rfl Tryz.ntmps174 (lB rfl) hD fun C w g root hroot=>?_
 have fx:=aI hT0<|aI hRl0<|aI r10<|aI r1E<|aI hcp0<|hb
 refine qB ?_
 clear fx
 refine q7 (fun n s=>∃ i:Nat,n=(zL p b).length - i∧i≤(zL p b).length∧s.tm 1=.pt Yn (yo i0)∧s.tm 16=isl (zL p b)∧s.tm 17=iv (zL p b).length∧s.tm 18=iv i∧s.tm 7=.hs (.s 7) 1 0 i∧s.hp (.s 7)=some (.row 1 (zI ((y9 p f b).take i)))∧qBE D s.hp H) (zL p b).length ?_ ?_
 ·have hS:qBE D (st0 [.pt Yn 0,.pt Yn (yo i0),iv b] H 34 gl).hp H:=qQb
  exact⟨0,by omega,by omega,by simp,by simp,by simp,by simp,by simp,by simp [zI],(by repeat (first|(with_reducible exact hS)|refine qK7 ?_|refine qGz hD ?_|refine qHB hD ?_|refine qHA hD ?_|refine qK8 hD ?_|exact hS))⟩
 clear r1E
 rintro n s - - ⟨i,rfl,hi,t1,t16,t17,t18,t7,p7,hSm⟩
 obtain⟨F,hF,hS⟩:=hSm
 have hSm:qBE D s.hp H:=⟨F,hF,hS⟩
 have hT:s.hp Yn=some (.row 4415 [R.map (AV.tr F)]):=by rw [hS _ hDY,hT0];rfl
 have f3:(R.map (AV.tr F))[yo i0+3]?=some (.hs (.c Yn 0 (yo i0+3)) 1 0 f.cells.length):=by rw [List.getElem?_map,f30];simp [AV.tr,hF _ (hDc _ (.inr rfl))]
 have h3:s.hp (.c Yn 0 (yo i0+3))=some (.row 1 (zI f.cells)):=by
  rw [hS _ (hDc _ (.inr rfl)),h30]
  simp only [Option.map_some,AO.tr]
  rw [vv fun c=>hF _ (hDE c)]
 have hRl:(R.map (AV.tr F)).length=4415:=by simp [hRl0]
 generalize R.map (AV.tr F)=R' at hT f3 hRl
 by_cases hil:i<(zL p b).length
 ·obtain⟨x,hx⟩:∃ x,(zL p b)[i]?=some x:=⟨_,gE hil⟩
  obtain⟨k,rfl,hkl⟩:=hc x (gM hx)
  obtain⟨_,hxE⟩:=gS hx
  obtain⟨c,hcc⟩:∃ c,f.cells[k]?=some c:=⟨_,gE hkl⟩
  obtain⟨_,hccE⟩:=gS hcc
  obtain⟨f3l,f3E⟩:=gS f3
  have yoh:yo i0+3+1≤4415:=by simp only [yo];omega
  have htl:((y9 p f b).take i).length=i:=by simp;omega
  have hi8:i≤8:=by omega
  have htt:((y9 p f b).take i).take i=(y9 p f b).take i:=List.take_of_length_le (by omega)
  have her:(zI f.cells)[k]?=some [ptE c]:=by simp [hcc]
  obtain⟨herl,herE⟩:=gS her
  have fx:=aI t1<|aI t16<|aI t17<|aI t18<|aI t7<|aI p7<|aI hil<|aI hT<|aI hRl<|aI f3<|aI f3E<|aI f3l<|aI yoh<|aI h3<|aI hx<|aI hxE<|aI hcc<|aI hccE<|aI her<|aI herE<|aI hkl<|aI htl<|hi8
  refine qB ?_
  clear fx
  have e1:(y9 p f b).take (i+1)=(y9 p f b).take i++[c]:=by
   rw [List.take_add_one]
   simp [y9,hx,hcc]
  have e2:zI ((y9 p f b).take i)++[[ptE c]]=zI ((y9 p f b).take (i+1)):=by rw [e1];simp [zI]
  exact⟨(zL p b).length - (i+1),by omega,i+1,rfl,by omega,by simp [t1],by simp [t16],by simp [t17],by simp [t18];exact wrp (by omega) (by omega),by simp,by simp [← e2,htt,ptE],(by repeat (first|(with_reducible exact hSm)|refine qK7 ?_|refine qGz hD ?_|refine qHB hD ?_|refine qHA hD ?_|refine qK8 hD ?_|exact hSm))⟩
 ·obtain rfl:i=(zL p b).length:=by omega
  have htk:(y9 p f b).take (zL p b).length=y9 p f b:=List.take_of_length_le (by omega)
  rw [htk] at p7
  have fx:=aI t1<|aI t16<|aI t17<|aI t18<|aI t7<|p7
  refine qB ?_
  clear fx
  have hDr:D root=false:=hroot root (by simp)
  refine qH [(.s 6,root)] (.one rfl) (by simp;rfl) ⟨⟨by simp [t7,hcml],by simp [hDr,p7];exact vv fun c=>by simp [jO,hDE]⟩,qUG hD (by simp [Nm.sroot]) (by repeat (first|(with_reducible exact hSm)|refine qK7 ?_|refine qGz hD ?_|refine qHB hD ?_|refine qHA hD ?_|refine qK8 hD ?_|exact hSm))⟩
theorem qGk (gl) (H:Nm→Option AO) (p:Prg) (m:Mch) (fs:List Frm) (f:Frm) (b:Nat) (hb:b<p.length) (hp7:p.length≤7) (hfl:fs.length≤150) (hc:∀ x∈zL p b,∃ k:Nat,x=k∧k<f.cells.length) (hcl:(zL p b).length≤8) (hO:OwnY H p (m.top fs f)) :
  FnE Tryz.prog gl 174 DM [.pt Yn 0,.pt Yn (yo fs.length),iv b] H (fun r y H'=>y=.hs r 1 0 (y9 p f b).length∧H' r=some (.row 1 (zI (y9 p f b)))∧OwnY H' p (m.top fs f)) noE:=by
 obtain⟨R,j,hT,tr,h2,h3,h28⟩:=hO.topT rfl (by omega)
 refine (qKN gl DM (fun _=>qQ) H p fs.length f b R hb hp7 hfl hT tr.len tr.r1 tr.f3 hO.caps h3 (fun _=>rfl) (fun _ _=>rfl) rfl hc hcl).mono (fun r y H' h=>⟨h.1.1,h.1.2,hO.same h.2⟩) fun _ _ _ h=>h
abbrev qKp:Sch:=.q 0<|.q 1<|.q 2<|.q 3<|.q 4<|.q 5<|.q 6<|.q 7<|.q 8<|.q 9<|.l 10 [9,8,7,6,5,4,3,2,1,0]<|.l 11 []<|.done
theorem qMg (gl) (H:Nm→Option AO) (p:Prg) (m:Mch) (fs:List Frm) (f:Frm) (x:Nat) (hx:x<8) (hst:1≤f.stack.length) (hsl:f.stack.length≤1000) (hv:f.tos.1=3→0≤f.tos.2∧f.tos.2<m.classes.length) (hm0:m.en=0) (hfl:fs.length≤150) (hO:OwnY H p (m.top fs f)) :
  FnE Tryz.prog gl 176 DM [.pt Yn 0,.pt Yn (yo fs.length),iv x] H (fun _ y H'=>y=bv (decide ((qBD m fs f (18,(x:Int))).en=0))∧OwnY H' p (qBD m fs f (18,(x:Int)))) noE:=by
 refine FnE.of_sem Tryz.func176 rfl (by kernel_rfl) (rs:=[.tmp 6]) rfl Tryz.ntmps176 (lB rfl) (fun _=>qQ) fun C w g root hroot=>?_
 obtain⟨k,hk⟩:∃ k,f.stack.length=k+1:=⟨f.stack.length - 1,by omega⟩
 have yoh:yo fs.length+29≤4415:=by simp only [yo];omega
 have ry0:=hO.topT rfl (by omega)
 obtain⟨R,j,hT,tr,h2,h3,h28⟩:=ry0
 have f28:=tr.f28
 rw [hk] at f28
 have fx:=fx0
 refine qB ?_
 clear fx
 intro K hK
 have fx:=fx0
 refine qZ hO (have h:=hO;OwnY.re h) (Nat.le_refl _) (hF:=fun _=>uO gl DM (fun _=>qQ) _ R (yo fs.length) k (f.stack++j) f.tos (by simp [hT]) f28 (by simp [h28]) (ja hk) (by omega) yoh) (h:=?_)
 intro y H1 hw
 clear fx
 have hO1:=OwnY.wrp (OwnY.popped (m:=m.top fs f) (have h:=hO;OwnY.re h) rfl (by omega) (by simp [hT]) hk) hw
 obtain⟨rfl,-⟩:=hw
 clear h28 h3 h2 tr f28
 have hT1n:=hT
 clear hT
 have hmp:({ (m.top fs f) with frames:=fs++[f.pop] }:Mch)=m.top fs f.pop:=rfl
 rw [hmp] at hO1
 have hpl:f.pop.stack.length≤1000:=by rw [vh hk];omega
 have hat:qBD m fs f (18,(x:Int))=(if f.tos.1≠3 then m.stop fs f.pop 5 else match yt (m.classes.getD f.tos.2.toNat []) x with
  | some u=>m.top fs (f.pop.push u)
  | none=>m.stop fs f.pop 7):=rfl
 generalize f.tos=v at *
 obtain⟨v1,v2⟩:=v
 simp only at hat hv
 by_cases c3:v1=3
 ·subst c3
  obtain⟨hv0,hv2⟩:=hv rfl
  obtain⟨n,rfl⟩:∃ n:Nat,v2=n:=⟨v2.toNat,by omega⟩
  have hnl:n<m.classes.length:=by omega
  obtain⟨C,hC⟩:∃ C,m.classes[n]?=some C:=⟨_,gE hnl⟩
  have hgd:m.classes.getD n []=C:=by simp [hC]
  simp only [ne_eq,not_true_eq_false,if_false,Int.toNat_natCast,hgd] at hat
  have fx:= hT1n
  refine qB ?_
  clear fx
  refine vH (fun s=>s.tm 0=.pt Yn 0∧s.tm 1=.pt Yn (yo fs.length)∧s.tm 2=iv x∧s.tm 7=.pt (.s 7) 0∧s.hp (.s 7)=some (.row 2 [[iv 3,iv n]])∧OwnY s.hp p (m.top fs f.pop)) ⟨by simp [hT1n],by simp [hT1n],by simp,by simp,by simp,(OwnY.ren hO1 (f:=kl (.s 7)) (fun k hk=>by simp [kl,(D_s (fun _=>qQ) hk 7).2]) (fun k hk=>by have:=D_s (fun _=>qQ) hk 7;simp [this.1,this.2,hk]))⟩ ?_
  have h0:=hO
  have h01:=hO1
  clear hO hO1
  rintro s ⟨t0,t1,t2,t7,p7,hO⟩
  obtain⟨R,j,hT,tr,h2,h3,h28⟩:=OwnY.topT (f:=f.pop) hO rfl (by omega)
  have hRl:=tr.len
  have r31:=tr.r31
  simp only [Mch.top] at r31
  obtain⟨_,r31E⟩:=gS r31
  have hcy:=hO.clss
  simp only [Mch.top] at hcy
  have hfl2:((vR C).drop (x * 3)).take 3=zu (yt C x):=by rw [Nat.mul_comm];exact qIe hx
  obtain⟨_,hCE⟩:=gS hC
  have hx0:(x:Int)<8:=by omega
  have hx3:x * 3+3≤24:=by omega
  obtain⟨sl,hsl2⟩:∃ sl,yt C x=sl:=⟨_,rfl⟩
  rw [hsl2] at hfl2 hat
  cases sl with
  | none =>
   simp only [vf] at hfl2
   simp only at hat
   have fx:=aI t0<|aI t1<|aI t2<|aI t7<|aI p7<|aI hT<|aI hRl<|aI r31<|aI r31E<|aI hcy<|aI hfl2<|aI hC<|aI hCE<|aI hnl<|aI hx0<|hx3
   refine qB ?_
   repeat ((first|refine wSc (id:=4) qKp qA ?_);refine qD ?_;refine qB ?_)
   clear fx
   intro K hK
   refine yg (fun s=>s.tm 29=.pt Yn 0∧OwnY s.hp p (m.top fs f.pop)) ⟨by simp [t0],(OwnY.ren hO (f:=kl (.s 8)) (fun k hk=>by simp [kl,(D_s (fun _=>qQ) hk 8).2]) (fun k hk=>by have:=D_s (fun _=>qQ) hk 8;simp [this.1,this.2,hk]))⟩ ?_
   rintro s ⟨t29,hO2⟩
   obtain⟨R,j,hT,tr,h2,h3,h28⟩:=OwnY.topT (f:=f.pop) hO2 rfl (by omega)
   have fx:=t29
   refine qZ h0 (have h:=hO2;OwnY.re h) (Nat.le_refl _) (hF:=fun _=>yM gl DM (fun _=>qQ) _ R 7 (by simp [hT]) tr.len) (h:=?_)
   intro y H1 hw
   clear fx
   have hO1:=OwnY.wrp (OwnY.stopped (m:=m.top fs f.pop) (e:=7) (have h:=hO2;OwnY.re h) rfl (by simp [hT])) hw
   obtain⟨rfl,-⟩:=hw
   have fx:=fx0
   refine qB ?_
   repeat ((first|refine wSc (id:=4) qKp qA ?_);refine qD ?_;refine qB ?_)
   clear fx
   refine qH [] .nil (by simp;rfl) ⟨by rw [hat];simp [Mch.stop],OwnY.fin (by rw [hat];exact (have h:=hO1;OwnY.re h))⟩
  | some u =>
   obtain⟨u1,u2⟩:=u
   simp only [ve] at hfl2
   simp only at hat
   have fx:=aI t0<|aI t1<|aI t2<|aI t7<|aI p7<|aI hT<|aI hRl<|aI r31<|aI r31E<|aI hcy<|aI hfl2<|aI hC<|aI hCE<|aI hnl<|aI hx0<|hx3
   refine qB ?_
   repeat ((first|refine wSc (id:=4) qKp qA ?_);refine qD ?_;refine qB ?_)
   clear fx
   intro K hK
   refine yg (fun s=>s.tm 31=.pt Yn (yo fs.length)∧s.tm 33=.agg [iv u1,iv u2]∧OwnY s.hp p (m.top fs f.pop)) ⟨by simp [t1],by simp,(OwnY.ren hO (f:=kl (.s 8)) (fun k hk=>by simp [kl,(D_s (fun _=>qQ) hk 8).2]) (fun k hk=>by have:=D_s (fun _=>qQ) hk 8;simp [this.1,this.2,hk]))⟩ ?_
   rintro s ⟨t31,t33,hO2⟩
   obtain⟨R,j,hT,tr,h2,h3,h28⟩:=OwnY.topT (f:=f.pop) hO2 rfl (by omega)
   have fx:=aI t31 t33
   refine qZ h0 (have h:=hO2;OwnY.re h) (Nat.le_refl _) (hF:=fun _=>jh gl DM (fun _=>qQ) _ R (yo fs.length) f.pop.stack j (u1,u2) rfl rfl (by simp [hT]) tr.f28 (by simp [h28]) hpl yoh) (h:=?_)
   intro y H1 hw
   clear fx
   have hO1:=OwnY.pushed (m:=m.top fs f.pop) (f:=f.pop) (by exact (have h:=hO2;OwnY.re h)) rfl (by omega) rfl (by simp [hT]) hw
   have fx:=fx0
   refine qB ?_
   repeat ((first|refine wSc (id:=4) qKp qA ?_);refine qD ?_;refine qB ?_)
   clear fx
   refine qH [] .nil (by simp;rfl) ⟨by rw [hat];simp [Mch.top,hm0],OwnY.fin (by rw [hat];exact (have h:=hO1;OwnY.re h))⟩
 ·rw [if_pos c3] at hat
  have c3':(v1==3)=false:=by simpa using c3
  have fx:=aI c3'<|aI @qr<|hT1n
  refine qB ?_
  clear fx
  intro K hK
  refine yg (fun s=>s.tm 14=.pt Yn 0∧OwnY s.hp p (m.top fs f.pop)) ⟨by simp [hT1n],(OwnY.ren hO1 (f:=kl (.s 7)) (fun k hk=>by simp [kl,(D_s (fun _=>qQ) hk 7).2]) (fun k hk=>by have:=D_s (fun _=>qQ) hk 7;simp [this.1,this.2,hk]))⟩ ?_
  rintro s ⟨t14,hO2⟩
  obtain⟨R,j,hT,tr,h2,h3,h28⟩:=OwnY.topT (f:=f.pop) hO2 rfl (by omega)
  have fx:=t14
  refine qZ hO (have h:=hO2;OwnY.re h) (Nat.le_refl _) (hF:=fun _=>yM gl DM (fun _=>qQ) _ R 5 (by simp [hT]) tr.len) (h:=?_)
  intro y H1 hw
  clear fx
  have hO1:=OwnY.wrp (OwnY.stopped (m:=m.top fs f.pop) (e:=5) (have h:=hO2;OwnY.re h) rfl (by simp [hT])) hw
  obtain⟨rfl,-⟩:=hw
  have fx:=fx0
  refine qB ?_
  repeat ((first|refine wSc (id:=4) qKp qA ?_);refine qD ?_;refine qB ?_)
  clear fx
  refine qH [] .nil (by simp;rfl) ⟨by rw [hat];simp [Mch.stop],OwnY.fin (by rw [hat];exact (have h:=hO1;OwnY.re h))⟩
end Go.Proofs.YtbgmnmnoaamgkaaGreatDoor
end
section
namespace Go.Proofs.YtbgmnmnoaamgkaaGreatDoor
open Go Go.Hm Go.Proofs
theorem kj (gl) (v:Val):qW Tryz.prog gl 87 [Val.av v] (fun _ y _=>y=iv (Hm.shown v)):=by
 refine qW.of_sem Tryz.func87 rfl (by kernel_rfl) (rs:=[.tmp 2]) rfl Tryz.ntmps87 (lB rfl) fun C w g root=>?_
 by_cases h1:v.1=1
 ·skip
  have fx:= h1
  refine qB ?_
  clear fx
  refine qH [] .nil (by simp;rfl) (by simp [Hm.shown,h1])
 by_cases h2:v.1=2
 ·skip
  have fx:=aI h1<|h2
  refine qB ?_
  clear fx
  refine qH [] .nil (by simp;rfl) (by simp [Hm.shown,h1,h2])
 by_cases h3:v.1=3
 ·skip
  have fx:=aI h1<|aI h2<|h3
  refine qB ?_
  clear fx
  refine qH [] .nil (by simp;rfl) (by simp [Hm.shown,h1,h2,h3])
 ·skip
  have fx:=aI h1<|aI h2<|h3
  refine qB ?_
  clear fx
  refine qH [] .nil (by simp;rfl) (by simp [Hm.shown,h1,h2,h3])
abbrev qJ6:Sch:=.q 0<|.q 1<|.q 2<|.q 3<|.q 4<|.q 5<|.q 6<|.q 7<|.q 8<|.q 9<|.q 10<|.l 11 [6,5,4,3,2,1,0]<|.q 12<|.l 13 [4,3,2,1,0]<|.l 14 [0]<|.q 15<|.q 16<|.l 17 []<|.done
abbrev qJ5:Sch:=.q 0<|.q 1<|.q 2<|.q 3<|.q 4<|.q 5<|.q 6<|.l 7 [2,1,0]<|.l 8 []<|.done
abbrev qJ4:Sch:=.q 0<|.q 1<|.q 2<|.q 3<|.q 4<|.q 5<|.l 6 [4,3,2,1,0]<|.l 7 [4,3,2,1,0]<|.l 8 [4,3,2,1,0]<|.l 9 [0]<|.q 10<|.q 11<|.l 12 []<|.done
theorem qBo (gl) (H:Nm→Option AO) (p:Prg) (m:Mch) (fs:List Frm) (f:Frm) (o:Int×Int) (harg:0≤o.2∧o.2≤1000) (hc:o.1=1∨o.1=17∨o.1=18) (pc0:Nat) (hP:ValP p) (hM:MOk p m fs { f with pc:=pc0 }) (h17:o.1=17→o.2≤1∧o.2.toNat+1≤f.stack.length∧fs.length+1≤150) (h18:o.1=18→o.2≤7∧1≤f.stack.length) (hsl:f.stack.length≤1000) (hfl:fs.length≤150) (hm0:m.en=0) (hO:OwnY H p (m.top fs f)) :
  FnE Tryz.prog gl 152 DM [.pt Yn 0,.pt Yn (yo fs.length),.agg [iv o.1,iv o.2]] H (fun _ y H'=>y=bv (decide ((zS p m fs f o).en=0))∧OwnY H' p (zS p m fs f o)) noE:=by
 have h0:=hO
 have yoh:yo fs.length+29≤4415:=by simp only [yo];omega
 obtain⟨c,a⟩:=o
 obtain⟨x,rfl⟩:∃ x:Nat,a=x:=⟨a.toNat,by simp only at harg;omega⟩
 simp only at hc h17 h18 harg
 refine FnE.of_sem Tryz.func152 rfl (by kernel_rfl) (rs:=[.tmp 6]) rfl Tryz.ntmps152 (lB rfl) (fun _=>qQ) fun C w g root hroot=>?_
 have fx:=fx0
 refine qB ?_
 clear fx
 refine vH (fun s=>s.tm 0=.pt Yn 0∧s.tm 1=.pt Yn (yo fs.length)∧s.tm 5=.pt (.s 5) 0∧s.hp (.s 5)=some (.row 2 [[iv c,iv x]])∧s.tm 10=iv c∧s.tm 11=bv (c==1)∧OwnY s.hp p (m.top fs f)) ⟨by simp,by simp,by simp,by simp,by simp,by simp,(by repeat (first|(with_reducible exact hO)|refine vE ?_|refine jl (by rfl) ?_|refine jn ?_|refine ya ?_|refine jm ?_|refine vF ?_|exact (have h:=hO;OwnY.re h)))⟩ ?_
 clear hO
 rintro s ⟨t0,t1,t5,p5,t10,t11,hO⟩
 obtain⟨R,j,hT,tr,h2,h3,h28⟩:=hO.topT rfl (by omega)
 have f28:=tr.f28
 rcases hc with rfl|rfl|rfl
 ·have hw:zS p m fs f (1,(x:Int))=m.top fs (f.push (1,x)):=by simp [zS]
  rw [hw]
  have fx:=aI t0<|aI t1<|aI t5<|aI p5<|aI t10<|t11
  refine qB ?_
  repeat ((first|refine wSc (id:=10) qJ6 qA ?_|refine wSc (id:=13) qJ5 qA ?_|refine wSc (id:=19) qJ4 qA ?_);refine qD ?_;refine qB ?_)
  clear fx
  intro K hK
  have fx:=aI t0 (aI t1 (aI t5 p5))
  refine qZ h0 (have h:=hO;OwnY.re h) (Nat.le_refl _) (hF:=fun _=>jh gl DM (fun _=>qQ) _ R (yo fs.length) f.stack j (1,(x:Int)) rfl rfl (by simp [hT]) f28 (by simp [h28]) hsl yoh) (h:=?_)
  intro y H1 hw1
  clear fx
  have hO1:=OwnY.pushed (m:=m.top fs f) (by exact (have h:=hO;OwnY.re h)) rfl (by omega) rfl (by simp [hT]) hw1
  have fx:=fx0
  refine qB ?_
  repeat ((first|refine wSc (id:=10) qJ6 qA ?_|refine wSc (id:=13) qJ5 qA ?_|refine wSc (id:=19) qJ4 qA ?_);refine qD ?_;refine qB ?_)
  clear fx
  refine qH [] .nil (by simp;rfl) ⟨by simp [Mch.top,hm0],OwnY.fin (have h:=hO1;OwnY.re h)⟩
 ·have hw:zS p m fs f (17,(x:Int))=qA9 p m fs f (17,(x:Int)):=by simp [zS]
  rw [hw]
  obtain⟨k1,k2,k3⟩:=h17 rfl
  simp only [Int.toNat_natCast] at k2
  have fx:=aI t0<|aI t1<|aI t5<|aI p5<|aI t10<|t11
  refine qB ?_
  repeat ((first|refine wSc (id:=10) qJ6 qA ?_|refine wSc (id:=13) qJ5 qA ?_|refine wSc (id:=19) qJ4 qA ?_);refine qD ?_;refine qB ?_)
  clear fx
  intro K hK
  have fx:=aI t0 (aI t1 (aI t5 p5))
  refine qZ h0 (have h:=hO;OwnY.re h) (Nat.le_refl _) (hF:=fun hO=>qMf gl _ p m fs f x pc0 hP hM (by omega) k2 hsl k3 hm0 hO) (h:=?_)
  rintro y H1 ⟨rfl,hO1⟩
  clear fx
  have fx:=fx0
  refine qB ?_
  repeat ((first|refine wSc (id:=10) qJ6 qA ?_|refine wSc (id:=13) qJ5 qA ?_|refine wSc (id:=19) qJ4 qA ?_);refine qD ?_;refine qB ?_)
  clear fx
  refine qH [] .nil (by simp;rfl) ⟨by simp,OwnY.fin (have h:=hO1;OwnY.re h)⟩
 ·have hw:zS p m fs f (18,(x:Int))=qBD m fs f (18,(x:Int)):=by simp [zS]
  rw [hw]
  obtain⟨k1,k2⟩:=h18 rfl
  have htm:=hM.top.sv _ (uP (f:=f) (by omega))
  have fx:=aI t0<|aI t1<|aI t5<|aI p5<|aI t10<|t11
  refine qB ?_
  repeat ((first|refine wSc (id:=10) qJ6 qA ?_|refine wSc (id:=13) qJ5 qA ?_|refine wSc (id:=19) qJ4 qA ?_);refine qD ?_;refine qB ?_)
  clear fx
  intro K hK
  have fx:=aI t0 (aI t1 (aI t5 p5))
  refine qZ h0 (have h:=hO;OwnY.re h) (Nat.le_refl _) (hF:=fun hO=>qMg gl _ p m fs f x (by omega) k2 hsl (fun h=>⟨htm.num.1,htm.cls h⟩) hm0 hfl hO) (h:=?_)
  rintro y H1 ⟨rfl,hO1⟩
  clear fx
  have fx:=fx0
  refine qB ?_
  repeat ((first|refine wSc (id:=10) qJ6 qA ?_|refine wSc (id:=13) qJ5 qA ?_|refine wSc (id:=19) qJ4 qA ?_);refine qD ?_;refine qB ?_)
  clear fx
  refine qH [] .nil (by simp;rfl) ⟨by simp,OwnY.fin (have h:=hO1;OwnY.re h)⟩
end Go.Proofs.YtbgmnmnoaamgkaaGreatDoor
end
