/-
  Own texts, joined by mkclaim.py: Gf, Pa, Pb, Pc, Yc, Yd, Ye.
-/
import Derived.Test.YtbgmnmnoaamgkaaGreatDoorD21
import Derived.Test.YtbgmnmnoaamgkaaGreatDoorD08
import Derived.Test.YtbgmnmnoaamgkaaGreatDoorD12
import Derived.Test.YtbgmnmnoaamgkaaGreatDoorD16
import Derived.Test.YtbgmnmnoaamgkaaGreatDoorD17
set_option linter.unusedSimpArgs false
set_option linter.unusedVariables false
set_option maxRecDepth 100000
set_option maxHeartbeats 4000000

section
namespace Go.Proofs.YtbgmnmnoaamgkaaGreatDoor
open Go Go.Hm Go.Proofs
theorem vW (gl) (p:Prg) (b:Nat) (k:Blk) (x:Int) (hk:p[b]?=some k) (hs:Sml p) (hh:z6 p):qV Tryz.prog gl 138 [pav p,iv b,iv x] (fun _ y _=>y=iv (qz p b x)):=by
 refine qV.of_sem Tryz.func138 rfl (by kernel_rfl) (rs:=[.tmp 6]) rfl Tryz.ntmps138 (lB rfl) fun C w g root=>?_
 all_goals have fx:= hk
 repeat' (first
  | refine qf ?_|refine q7 ?_|refine qj fun K hK=>?_
  | ((with_reducible refine qc hK ?_);clear hK K)
  | (with_reducible first|refine qD ?_|refine qP ?_)
  | refine qw ?_
  | (with_reducible refine qO ?_)
  | ((with_reducible refine vR ?_);refine q6 (h:=?_))
  | (with_reducible first|refine y7 ?_|refine qAC (h:=?_)|refine qG (h:=?_)|refine zp (h:=?_))
  | ((with_reducible refine z7 92 rfl ?_);refine jK (hF:=zm _ p b k _ hk (hs.bsm hk)) (h:=?_))
  | ((with_reducible refine z7 93 rfl ?_);refine qM (hF:=yJ _ _ _ (Nat.le_trans (Blk.dc_len _ _) (by decide))) (h:=?_))
  | ((with_reducible refine z7 131 rfl ?_);refine qM (hF:=uZ _ p b k x hk (hs.bsm hk)) (h:=?_))
  | ((with_reducible refine z7 94 rfl ?_);refine qM (hF:=vX _ p b k x hk hs hh) (h:=?_))
  | (with_reducible refine x_q (h:=?_))
  | (with_reducible refine kB (fun ht=>?_) (fun ht=>?_))
  | refine qR (h1:=?_)
  | refine qAF (h1:=fun ht=>?_) (h2:=fun ht=>?_)
  | fail)
 all_goals try clear fx
 all_goals refine qF [] .nil (by simp;rfl) ?_
 all_goals simp_all [qz]
theorem qLY (gl) (p:Prg) (b:Nat) (j kind:Int) (hs:Sml p) (hb:b<p.length):qV Tryz.prog gl 164 [pav p,iv b,iv j,iv kind] (fun _ y _=>y=bv (vF p b j kind)):=by
 have hpl:=hs.len
 have w1:IntKind.i64.wrap ((b:Int)+1)=b+1:=wrp (by omega) (by omega)
 have w2:IntKind.i64.wrap ((p.length:Int) - 1)=p.length - 1:=wrp (by omega) (by omega)
 refine qV.of_sem Tryz.func164 rfl (by kernel_rfl) (rs:=[.tmp 8]) rfl Tryz.ntmps164 (lB rfl) fun C w g root=>?_
 by_cases hj:(b:Int)+1≤j∧j≤(p.length:Int) - 1
 ·obtain⟨j,rfl⟩:∃ i:Nat,j=i:=⟨j.toNat,by omega⟩
  obtain⟨q,hq⟩:∃ q,p[j]?=some q:=⟨_,gE (by omega)⟩
  all_goals have fx:=aI hq<|aI w1<|aI w2<|hj
  repeat' (first
   | refine qf ?_|refine qj fun K hK=>?_
   | ((with_reducible refine qc hK ?_);clear hK K)
   | (with_reducible first|refine qD ?_)
   | refine qw ?_
   | (with_reducible refine qO ?_)
   | ((with_reducible refine vR ?_);refine q6 (h:=?_))
   | (with_reducible first|refine jV ?_|refine uz (h:=?_)|refine qG (h:=?_)|refine zp (h:=?_))
   | ((with_reducible refine z7 64 rfl ?_);refine qM (hF:=zh _ _ _ _) (h:=?_))
   | (with_reducible refine x_q (h:=?_))
   | (with_reducible refine kB (fun ht=>?_) (fun ht=>?_))
   | fail)
  all_goals try clear fx
  all_goals refine qF [] .nil (by simp;rfl) ?_
  all_goals simp_all [vF]
 ·have hj':(decide ((b:Int)+1≤j)&&decide (j≤(p.length:Int) - 1))=false:=by simpa using hj
  all_goals have fx:=aI w1<|aI w2<|hj'
  repeat' (first
   | refine qf ?_|refine qj fun K hK=>?_
   | ((with_reducible refine qc hK ?_);clear hK K)
   | (with_reducible first|refine qD ?_)
   | refine qw ?_
   | (with_reducible refine qO ?_)
   | ((with_reducible refine vR ?_);refine q6 (h:=?_))
   | (with_reducible first|refine uz (h:=?_)|refine qG (h:=?_)|refine zp (h:=?_))
   | ((with_reducible refine z7 64 rfl ?_);refine qM (hF:=zh _ _ _ _) (h:=?_))
   | (with_reducible refine x_q (h:=?_))
   | fail)
  all_goals try clear fx
  all_goals refine qF [] .nil (by simp;rfl) ?_
  all_goals simp_all [vF]
  intro h1 h2
  exact absurd (hj h1) (by omega)
theorem qDz (gl) (p:Prg) (b:Nat) (k:Blk) (hk:p[b]?=some k) (hb:b<p.length) (hs:Sml p):qV Tryz.prog gl 126 [pav p,iv b] (fun _ y _=>y=bv (decide (jJ b k))):=by
 have hpl:=hs.len
 have w2:IntKind.i64.wrap ((b:Int) - 1)=b - 1:=wrp (by omega) (by omega)
 refine qV.of_sem Tryz.func126 rfl (by kernel_rfl) (rs:=[.tmp 4]) rfl Tryz.ntmps126 (lB rfl) fun C w g root=>?_
 obtain⟨kind,parent,params,body⟩:=k
 by_cases hp:2≤params.length
 ·have c0:((params.length:Int)==0)=false:=by simp only [beq_eq_false_iff_ne,ne_eq];omega
  have c1:((params.length:Int)==1)=false:=by simp only [beq_eq_false_iff_ne,ne_eq];omega
  all_goals have fx:=aI hk<|aI w2<|aI c0<|c1
  repeat' (first
   | refine qf ?_|refine q7 ?_|refine qj fun K hK=>?_
   | ((with_reducible refine qc hK ?_);clear hK K)
   | (with_reducible first|refine qD ?_|refine qP ?_)
   | refine qw ?_
   | (with_reducible refine qO ?_)
   | ((with_reducible refine vR ?_);refine q6 (h:=?_))
   | (with_reducible first|refine jV ?_|refine y7 ?_|refine uz (h:=?_)|refine qAC (h:=?_)|refine qG (h:=?_)|refine zp (h:=?_)|refine zk (h:=?_)|refine qp (h:=?_))
   | ((with_reducible refine z7 64 rfl ?_);refine qM (hF:=zh _ _ _ _) (h:=?_))
   | (with_reducible refine x_q (h:=?_))
   | (with_reducible refine kB (fun ht=>?_) (fun ht=>?_))
   | refine qR (h1:=?_)
   | refine qAF (h1:=fun ht=>?_) (h2:=fun ht=>?_)
   | fail)
  all_goals try clear fx
  all_goals refine qF [] .nil (by simp;rfl) ?_
  all_goals simp_all [jJ]
  all_goals (intros;omega)
 ·rcases params with _|⟨x,_|⟨y,l⟩⟩
  rotate_left 2
  ·simp at hp
  all_goals have fx:=aI hk<|w2
  repeat' (first
   | refine qf ?_|refine q7 ?_|refine qj fun K hK=>?_
   | ((with_reducible refine qc hK ?_);clear hK K)
   | (with_reducible first|refine qD ?_|refine qP ?_)
   | refine qw ?_
   | (with_reducible refine qO ?_)
   | ((with_reducible refine vR ?_);refine q6 (h:=?_))
   | (with_reducible first|refine jV ?_|refine y7 ?_|refine uz (h:=?_)|refine qAC (h:=?_)|refine x_u (h:=?_)|refine qG (h:=?_)|refine zp (h:=?_)|refine zk (h:=?_)|refine qp (h:=?_))
   | ((with_reducible refine z7 64 rfl ?_);refine qM (hF:=zh _ _ _ _) (h:=?_))
   | ((with_reducible refine z7 162 rfl ?_);refine qM (hF:=yy _ _) (h:=?_))
   | (with_reducible refine x_q (h:=?_))
   | (with_reducible refine kB (fun ht=>?_) (fun ht=>?_))
   | refine qR (h1:=?_)
   | refine qAF (h1:=fun ht=>?_) (h2:=fun ht=>?_)
   | fail)
  all_goals try clear fx
  all_goals refine qF [] .nil (by simp;rfl) ?_
  all_goals simp_all [jJ]
  all_goals (intros;omega)
theorem qEE (gl) (v:Val):qV Tryz.prog gl 86 [Val.av v] (fun _ y _=>y=iv (Hm.shown v)):=by
 refine qV.of_sem Tryz.func86 rfl (by kernel_rfl) (rs:=[.tmp 2]) rfl Tryz.ntmps86 (lB rfl) fun C w g root=>?_
 by_cases h1:v.1=1
 ·skip
  have fx:= h1
  refine qB ?_
  clear fx
  refine qF [] .nil (by simp;rfl) (by simp [Hm.shown,h1])
 by_cases h2:v.1=2
 ·skip
  have fx:=aI h1<|h2
  refine qB ?_
  clear fx
  refine qF [] .nil (by simp;rfl) (by simp [Hm.shown,h1,h2])
 by_cases h3:v.1=3
 ·skip
  have fx:=aI h1<|aI h2<|h3
  refine qB ?_
  clear fx
  refine qF [] .nil (by simp;rfl) (by simp [Hm.shown,h1,h2,h3])
 ·skip
  have fx:=aI h1<|aI h2<|h3
  refine qB ?_
  clear fx
  refine qF [] .nil (by simp;rfl) (by simp [Hm.shown,h1,h2,h3])
end Go.Proofs.YtbgmnmnoaamgkaaGreatDoor
end
section

end
section
namespace Go.Proofs.YtbgmnmnoaamgkaaGreatDoor
open Go Go.Hm Go.Proofs
@[simp] theorem qUI {P:Program} {T:TypeId} {hp:Nm→Option AO} {n:Nm} {z q len:Nat} {lo hi:Option Int}:qCH P T hp (.hs n z q len) lo hi=match tel P T with
  | some e=>if z=tsz P e∧0≤lo.getD 0∧lo.getD 0≤hi.getD len∧(hi.getD len≤len∨q+(hi.getD len).toNat≤kO hp n z) then some (.hs n z (q+(lo.getD 0).toNat) ((hi.getD len).toNat - (lo.getD 0).toNat)) else none
  | none=>none:=rfl
@[simp] theorem mem_slrows {l:List Slt} {r:List AV}:r∈qN l↔∃ s∈l,zx s=r:=by simp [qN]
theorem qA8 (gl):qV Tryz.prog gl 66 [] (fun r y H'=>y=.hs r 3 0 8∧H' r=some (.row 3 (qN qe))):=by
 have h0:List.replicate 8 [bv false,iv 0,iv 0]=qN qe:=rfl
 refine qV.of_sem Tryz.func66 rfl (by kernel_rfl) (rs:=[.tmp 0]) rfl Tryz.ntmps66 (lB rfl) fun C w g root=>?_
 have fx:= h0
 refine qB ?_
 clear fx
 refine qF [(.s 0,root)] (.one rfl) (by simp;rfl) ⟨by simp,by simp [← h0]⟩
theorem qGe (gl) (l:List Slt) (hl:l.length=8):qV Tryz.prog gl 139 [.sl 3 (qN l)] (fun r y H'=>y=.hs r 3 0 8∧H' r=some (.row 3 (qN l))):=by
 refine qV.of_sem Tryz.func139 rfl (by kernel_rfl) (rs:=[.tmp 2]) rfl Tryz.ntmps139 (lB rfl) fun C w g root=>?_
 have fx:= hl
 refine qB ?_
 clear fx
 refine qF [(.s 2,root)] (.one rfl) (by simp;rfl) ⟨by simp,by simp⟩
abbrev qRF:Sch:=.q 0<|.q 1<|.q 2<|.q 3<|.q 4<|.q 5<|.q 6<|.q 7<|.q 8<|.q 9<|.q 10<|.q 11<|.q 12<|.q 13<|.l 14 []<|.done
abbrev qRE:Sch:=.q 0<|.q 1<|.q 2<|.q 3<|.q 4<|.q 5<|.q 6<|.q 7<|.q 8<|.q 9<|.q 10<|.l 11 []<|.done
abbrev qRD:Sch:=.q 0<|.q 1<|.q 2<|.q 3<|.q 4<|.q 5<|.l 6 [4,3,2,1,0]<|.l 7 [0]<|.q 8<|.q 9<|.l 10 []<|.done
abbrev qKw:Sch:=.q 0<|.q 1<|.q 2<|.q 3<|.q 4<|.q 5<|.q 6<|.q 7<|.q 8<|.q 9<|.q 10<|.q 11<|.done
abbrev qKv:Sch:=.q 0<|.q 1<|.q 2<|.q 3<|.q 4<|.q 5<|.q 6<|.q 7<|.q 8<|.l 9 [4,3,2,1,0]<|.l 10 [4,3,2,1,0]<|.l 11 [0]<|.q 12<|.q 13<|.l 14 []<|.done
theorem qEk (gl) (H:Nm→Option AO) (p:Prg) (m:Mch) (fs:List Frm) (f:Frm) (v:Val) (dp:Nat) (hm:m.frames=fs++[f]) (hfl:fs.length≤1000) (hsl:∀ g∈fs,g.stack.length≤1000) (hO:OwnX H p (.u 2 0 0) m dp) :
  FnE Tryz.prog gl 101 D12 [.pt Xn 0,Val.av v] H (fun _ _ H'=>OwnX H' p (.u 2 0 0) (zD m fs v) dp) noE:=by
 have hT:=hO.top
 obtain⟨L,j,hL,hat,hlt,hF,hf,hn,hsk⟩:=hO.topF hm
 simp only [jR,hm,List.length_append,List.length_singleton] at hT
 obtain⟨v1,v2⟩:=v
 have hw1:IntKind.i64.wrap (fs.length:Int)=fs.length:=wrp (by omega) (by omega)
 have hl1:(fs.length:Int)≤(fs.length:Int)+1:=by omega
 have hl0:(0:Int)≤(fs.length:Int):=by omega
 refine FnE.of_sem Tryz.func101 rfl (by kernel_rfl) (rs:=[]) rfl Tryz.ntmps101 (lB rfl) (fun _=>zM) fun C w g root hroot=>?_
 have fx:=aI hT<|aI hF<|aI hw1<|aI hl1<|aI hl0<|hlt
 refine qB ?_
 repeat ((first|refine wSc (id:=1) qRF qA ?_|refine wSc (id:=3) qRE qA ?_|refine wSc (id:=4) qRD qA ?_);refine qC ?_;refine qB ?_)
 clear fx
 refine yd (fun s=>s.tm 0=.pt Xn 0∧s.tm 3=.pt (.s 3) 0∧s.hp (.s 3)=some (.row 2 [[iv v1,iv v2]])∧s.tm 24=bv (decide (0<(fs.length:Int)))∧OwnX s.hp p (.u 2 0 0) { m with frames:=fs } dp) ⟨by simp [hT],by simp,by simp,by simp,?_⟩ ?_
 ·refine OwnX.ren (f:=kl (.s 3)) (hO.cut (hp':=fun k=>if k=Xn then some (.row 13 [jR p (.u 2 0 0) { m with frames:=fs } dp]) else H k) hm (by simp) (fun q h _=>by simp [h]) rfl) (.inr rfl) (fun q hq=>?_) (fun q hq=>?_)
  ·have:=(D_s (fun _=>zM) hq 3).2
   simp [this]
  ·have hq2:=(D_s (fun _=>zM) hq 3).1
   have hq3:=(D_s (fun _=>zM) hq 3).2
   by_cases e:q=Xn
   ·subst e
    simp [jR,AO.tr]
   ·simp [hq2,hq3,e]
 clear hT hF hf hn hsk hat hlt hL hO
 rintro s ⟨t0,t3,p3,t24,hO⟩
 have hT:=hO.top
 simp only [jR] at hT
 cases hgl:fs.getLast? with
 | none =>
  have hfs:fs=[]:=List.getLast?_eq_none_iff.1 hgl
  have hle:zD m fs (v1,v2)={ m with frames:=[] }:=by simp only [zD,hgl]
  subst hfs
  rw [hle]
  have fx:=aI t0<|aI t3<|aI p3<|aI t24<|hT
  refine qB ?_
  repeat ((first|refine wSc (id:=1) qRF qA ?_|refine wSc (id:=3) qRE qA ?_|refine wSc (id:=4) qRD qA ?_);refine qC ?_;refine qB ?_)
  clear fx
  refine zj [] .nil (by simp;rfl) (OwnX.fin (have h:=hO;OwnX.re h) (.inr rfl))
 | some g =>
  obtain⟨gs,rfl⟩:∃ gs,fs=gs++[g]:=by
   obtain⟨ys,hy⟩:=List.getLast?_eq_some_iff.1 hgl
   exact⟨ys,hy⟩
  have hle:zD m (gs++[g]) (v1,v2)={ m with frames:=gs++[g.push (v1,v2)] }:=by simp only [zD,hgl];simp
  rw [hle]
  have hsl:=hsl g (by simp)
  obtain⟨L,j,hL,hat,hlt,hF,hf,hn,hsk⟩:=OwnX.topF hO rfl
  obtain⟨_,hatE⟩:=gS hat
  simp only [List.length_append,List.length_singleton] at hfl hT t24
  have hw2:IntKind.i64.wrap (gs.length:Int)=gs.length:=wrp (by omega) (by omega)
  have hl1:(gs.length:Int)<(gs.length:Int)+1:=by omega
  have hl0:(0:Int)≤(gs.length:Int):=by omega
  have fx:=aI t0<|aI t3<|aI p3<|aI t24<|aI hT<|aI hF<|aI hw2<|aI hl1<|aI hl0<|aI hlt<|aI hat<|aI hatE<|aI hsk<|aI hsl<|hfl
  refine qB ?_
  repeat ((first|refine wSc (id:=1) qRF qA ?_|refine wSc (id:=3) qRE qA ?_|refine wSc (id:=4) qRD qA ?_);refine qC ?_;refine qB ?_)
  clear fx
  refine zj [] .nil (by simp;rfl) (OwnX.fin (have h:=hO;OwnX.reT h rfl hL rfl (by simp;exact zX hat) (by simp [hf,Frm.push]) (by simp [hn,Frm.push]) ⟨[],by simp [Frm.push,qt]⟩ (h0:=by simp [hT,jR])) (.inr rfl))
theorem qHc (gl) (H:Nm→Option AO) (p:Prg) (m:Mch) (fs:List Frm) (f:Frm) (dp:Nat) (hp:f.blk<p.length) (hm:m.frames=fs++[f]) (hfl:fs.length≤1000) (hsl:∀ g∈fs,g.stack.length≤1000) (hn8:f.names.length=8) (hcl:m.classes.length≤1000) (hO:OwnX H p (.u 2 0 0) m dp) :
  FnE Tryz.prog gl 98 D12 [.pt Xn 0,.ep (.u 2 0 0) 7 fs.length 0] H (fun _ _ H'=>OwnX H' p (.u 2 0 0) (qDk p m fs f) dp) noE:=by
 have hT:=hO.top
 obtain⟨L,j,hL,hat,hlt,hF,hf,hn,hsk⟩:=hO.topF hm
 obtain⟨_,hatE⟩:=gS hat
 simp only [jR,hm,List.length_append,List.length_singleton] at hT
 obtain⟨k,hk⟩:∃ k,p[f.blk]?=some k:=⟨_,gE hp⟩
 have hcd:(qX p p.length)[f.blk]?=some (q8 p f.blk):=by simp [qX,hp]
 obtain⟨hcdl,hcdE⟩:=gS hcd
 have hck:(q8 p f.blk).kind=qi p f.blk:=by simp [q8,hk,qi]
 have hcp:=qGe gl f.names hn8
 have hC:=hO.clss
 have hap:jX m.classes++[[.sl 3 (qN f.names)]]=jX (m.classes++[f.names]):=qHf
 have hwc:IntKind.i64.wrap (m.classes.length:Int)=m.classes.length:=wrp (by omega) (by omega)
 refine FnE.of_sem Tryz.func98 rfl (by kernel_rfl) (rs:=[]) rfl Tryz.ntmps98 (lB rfl) (fun _=>zM) fun C w g root hroot=>?_
 by_cases hk2:qi p f.blk=2
 ·have he:qDk p m fs f=zD { m with classes:=m.classes++[f.names] } fs (3,m.classes.length):=by rw [qDk,if_pos hk2]
  rw [he]
  rw [hk2] at hck
  have fx:=aI hT<|aI hF<|aI hat<|aI hatE<|aI hlt<|aI hn<|aI hcd<|aI hcdl<|aI hcdE<|aI hck<|aI hC<|aI hcl<|aI hn8<|hwc
  refine qB ?_
  repeat ((first|refine wSc (id:=0) qKw qA ?_|refine wSc (id:=1) qKv qA ?_);refine qC ?_;refine qB ?_)
  clear fx
  intro K hK
  have fx:=aI hT (aI hF (aI hat (aI hatE (aI hlt (aI hn (aI hC (aI hcl hn8)))))))
  refine qBx (fun K' h'=>zS (hF:=hcp) (h:=h')) (by simp [hn8]) qJL ?_
  clear fx
  have fx:=aI hT<|aI hF<|aI hat<|aI hatE<|aI hlt<|aI hn<|aI hcd<|aI hcdl<|aI hcdE<|aI hck<|aI hC<|aI hcl<|aI hn8<|hwc
  refine qB ?_
  repeat ((first|refine wSc (id:=0) qKw qA ?_|refine wSc (id:=1) qKv qA ?_);refine qC ?_;refine qB ?_)
  clear fx
  intro K hK
  have fx:=aI hT hF
  refine jo (by simp) (by simp [hF]) (hF:=qEk _ _ p { m with classes:=m.classes++[f.names] } fs f (3,m.classes.length) dp hm hfl hsl (have h:=hO;OwnX.re h (h0:=by simp [jR,hm]) (h5:=by simp [hap]))) (h:=?_)
  rintro y H1 hO1
  clear fx
  have hT1:=hO1.top
  have fx:= hT1
  refine qB ?_
  repeat ((first|refine wSc (id:=0) qKw qA ?_|refine wSc (id:=1) qKv qA ?_);refine qC ?_;refine qB ?_)
  clear fx
  refine qF [] .nil (by simp;rfl) (OwnX.fin (have h:=hO1;OwnX.re h) (.inr rfl))
 ·have he:qDk p m fs f=zD m fs (0,0):=by rw [qDk,if_neg hk2]
  rw [he]
  have hkb:(qi p f.blk==2)=false:=by simpa using hk2
  have fx:=aI hT<|aI hF<|aI hat<|aI hatE<|aI hlt<|aI hn<|aI hcd<|aI hcdl<|aI hcdE<|aI hck<|hkb
  refine qB ?_
  repeat ((first|refine wSc (id:=0) qKw qA ?_|refine wSc (id:=1) qKv qA ?_);refine qC ?_;refine qB ?_)
  clear fx
  intro K hK
  have fx:=aI hT hF
  refine jo (by simp [hT]) (by simp [hF]) (hF:=qEk _ _ p m fs f (0,0) dp hm hfl hsl (have h:=hO;OwnX.re h)) (h:=?_)
  rintro y H1 hO1
  clear fx
  have hT1:=hO1.top
  have fx:=aI hT<|hT1
  refine qB ?_
  repeat ((first|refine wSc (id:=0) qKw qA ?_|refine wSc (id:=1) qKv qA ?_);refine qC ?_;refine qB ?_)
  clear fx
  refine zj [] .nil (by simp;rfl) (OwnX.fin (have h:=hO1;OwnX.re h) (.inr rfl))
end Go.Proofs.YtbgmnmnoaamgkaaGreatDoor
end
section
namespace Go.Proofs.YtbgmnmnoaamgkaaGreatDoor
open Go Go.Hm Go.Proofs
abbrev qRC:Sch:=.q 0<|.q 1<|.q 2<|.q 3<|.l3 4 [0] (.l2 5 [0] (.q 6<|.l 7 [6,0]<|.l 8 []<|.done) 7 [0] (.l 5 [0]<|.q 6<|.l 8 []<|.done)) 5 [3,2,1,0] (.l2 4 [0] (.q 6<|.l 7 [6,0]<|.l 8 []<|.done) 7 [3,2,1,0] (.l 4 [0]<|.q 6<|.l 8 []<|.done)) 7 [3,2,1,0] (.l2 4 [0] (.l 5 [0]<|.q 6<|.l 8 []<|.done) 5 [3,2,1,0] (.l 4 [0]<|.q 6<|.l 8 []<|.done))
abbrev qRB:Sch:=.q 0<|.q 1<|.q 2<|.q 3<|.q 4<|.q 5<|.q 6<|.q 7<|.l 8 [3,2,1,0]<|.l 9 [3,2]<|.q 10<|.l 11 []<|.done
theorem qGQ (gl) (H:Nm→Option AO) (p:Prg) (m:Mch) (b:Nat) (cs:List Nat) (dp:Nat) (hb:b<p.length) (hcl:m.cells.length≤2000) (hcs:cs.length≤8) (hmd:m.made≤1000) (hO:OwnX H p (.u 2 0 0) m dp) :
  FnE Tryz.prog gl 68 D12 [.pt Xn 0,iv b,isl (zg cs)] H (fun r y H'=>y=.agg [iv b,iv 0,iv (-1),.hs (.c r 0 3) 3 0 (qI p b).length,.hs (.c r 0 4) 1 0 ((qE p b).length+cs.length),.hs (.c r 0 5) 3 0 8,.hs (.c r 0 6) 2 0 0]∧H' (.c r 0 3)=some (.row 3 (qN (List.replicate (qI p b).length none)))∧H' (.c r 0 4)=some (.row 1 (qJ (zg (((List.range (qE p b).length).map (m.cells.length+·))++cs))))∧H' (.c r 0 5)=some (.row 3 (qN qe))∧H' (.c r 0 6)=some (.row 2 [])∧OwnX H' p (.u 2 0 0) { m with cells:=m.cells++List.replicate (qE p b).length none,made:=m.made+1 } dp∧∀ q,Nm.under r q=true→D12 q=false) noE:=by
 have hT:=hO.top
 simp only [jR] at hT
 obtain⟨kk,hk⟩:∃ k,p[b]?=some k:=⟨_,gE hb⟩
 have hcd:(qX p p.length)[b]?=some (q8 p b):=by simp [qX,hb]
 obtain⟨hcdl,hcdE⟩:=gS hcd
 have hcf:(q8 p b).fasts=qI p b:=by simp [q8,hk]
 have hcc:(q8 p b).cells=qE p b:=by simp [q8,hk]
 have hf8:=yv (p:=p) (b:=b)
 have hc8:=zV (p:=p) (b:=b)
 refine FnE.of_sem Tryz.func68 rfl (by kernel_rfl) (rs:=[.cell 6 121]) rfl Tryz.ntmps68 (lB rfl) (fun _=>zM) fun C w g root hroot=>?_
 have hr0:=hroot root (Nm.under_self _)
 simp only [qB7,Bool.or_eq_false_iff] at hr0
 obtain⟨hr1,hr2⟩:=hr0
 have hrp:List.replicate (qI p b).length [bv false,iv 0,iv 0]=qN (List.replicate (qI p b).length none):=by simp [qN]
 refine qR2 (fun s=>s.tm 0=.pt Xn 0∧s.tm 1=iv b∧s.tm 2=isl (zg cs)∧s.tm 6=.pt (.s 6) 0∧s.tm 7=.pt (.s 7) 0∧s.hp (.s 7)=some (.row 6 [(q8 p b).row])∧s.tm 8=.pt (.s 8) 0∧s.hp (.s 8)=some (.row 7 [[iv b,iv 0,iv (-1),.hs (.c (.s 8) 0 3) 3 0 (qI p b).length,.hs (.c (.s 8) 0 4) 1 0 0,.hs (.c (.s 8) 0 5) 3 0 8,.hs (.c (.s 8) 0 6) 2 0 0]])∧s.hp (.c (.s 8) 0 3)=some (.row 3 (qN (List.replicate (qI p b).length none)))∧s.hp (.c (.s 8) 0 4)=some (.row 1 [])∧s.hp (.c (.s 8) 0 5)=some (.row 3 (qN qe))∧s.hp (.c (.s 8) 0 6)=some (.row 2 [])∧s.tm 9=iv 0∧(∃ r,s.hp (.s 6)=some (.row 7 [r])∧r.length=7)∧OwnX s.hp p (.u 2 0 0) m dp) ?_ (by
  intro kk
  all_goals have fx:=aI hT<|aI hcd<|aI hcdl<|aI hcdE<|aI hcf<|aI hcc<|aI hf8<|hc8
  repeat' (first
   | refine qf ?_|refine qS ?_|refine q7 ?_|refine qj fun K hK=>?_
   | ((with_reducible refine qc hK ?_);clear hK K)
   | (with_reducible first|refine qD ?_|refine qb ?_|refine qu ?_|refine zr ?_|refine qP ?_|refine zK ?_|refine qCL ?_|refine zP (by decide) ?_)
   | refine jS ?_
   | refine qw ?_
   | (with_reducible first|refine qO ?_|refine qG (h:=?_)|refine zk (h:=?_)|refine qp (h:=?_)|refine jA (T:=42) (h:=?_)|refine jP (T:=42) (h:=?_)|refine jA (T:=61) (h:=?_)|refine jP (T:=61) (h:=?_)|refine jn (h:=?_)|refine qBy (h:=?_)|refine jp (h:=?_))
   | ((with_reducible refine z7 66 rfl ?_);refine jK (hF:=qA8 gl) (h:=?_))
   | (with_reducible refine x_q (h:=?_))
   | refine qR (h1:=?_)|refine qg (h1:=?_)
   | (refine wSc (id:=2) qRC qA fun K hK=>?_)
   | (refine wSc (id:=7) qRB qA fun K hK=>?_)
   | ((with_reducible refine wL hK ?_);clear hK K)
   | ((with_reducible refine qDo ?_);first|refine qKR (h:=?_)|refine qDv (h:=?_)|refine qDw (h:=?_)|refine qDu (h:=?_))
   | ((with_reducible refine qDo ?_);refine qDx (h1:=fun ht=>?_) (h2:=fun ht=>?_))
   | refine a_l rfl ?_|refine qPE ?_ ?_|refine qPD ?_ ?_ ?_|(with_reducible refine aI ?_ ?_)|exact kJ|refine qBw (h2:=?_)
   | fail)
  all_goals try clear fx
  all_goals exact kk.h _ ⟨by simp [hT],by simp,by simp,by simp,by simp,by simp [hcf,hcc],by simp,by simp,by simp [hrp],by simp,by simp,by simp,by simp,⟨_,by simp;rfl,by simp⟩,(have h:=hO;OwnX.re h)⟩)
 clear hT
 rintro s ⟨t0,t1,t2,t6,t7,p7,t8,p8,p83,p84,p85,p86,t9,⟨r6,p6,h6⟩,hO1⟩
 refine qY (fun n st=>∃ i:Nat,n=(qE p b).length - i∧i≤(qE p b).length∧st.tm 0=.pt Xn 0∧st.tm 1=iv b∧st.tm 2=isl (zg cs)∧st.tm 6=.pt (.s 6) 0∧st.tm 7=.pt (.s 7) 0∧st.hp (.s 7)=some (.row 6 [(q8 p b).row])∧st.tm 8=.pt (.s 8) 0∧st.hp (.s 8)=some (.row 7 [[iv b,iv 0,iv (-1),.hs (.c (.s 8) 0 3) 3 0 (qI p b).length,.hs (.c (.s 8) 0 4) 1 0 i,.hs (.c (.s 8) 0 5) 3 0 8,.hs (.c (.s 8) 0 6) 2 0 0]])∧st.hp (.c (.s 8) 0 3)=some (.row 3 (qN (List.replicate (qI p b).length none)))∧st.hp (.c (.s 8) 0 4)=some (.row 1 (qJ (zg ((List.range i).map (m.cells.length+·)))))∧st.hp (.c (.s 8) 0 5)=some (.row 3 (qN qe))∧st.hp (.c (.s 8) 0 6)=some (.row 2 [])∧st.tm 9=iv i∧(∃ r,st.hp (.s 6)=some (.row 7 [r])∧r.length=7)∧OwnX st.hp p (.u 2 0 0) { m with cells:=m.cells++List.replicate i none } dp) (qE p b).length ?_ ?_
 ·exact⟨0,by omega,by omega,t0,t1,t2,t6,t7,p7,t8,p8,p83,by simp [p84,zg],p85,p86,t9,⟨r6,p6,h6⟩,by simpa using hO1⟩
 clear t0 t1 t2 t6 t7 p7 t8 p8 p83 p84 p85 p86 t9 hO1 p6
 rintro n st - - ⟨i,rfl,hi,t0,t1,t2,t6,t7,p7,t8,p8,p83,p84,p85,p86,t9,⟨r6,p6,h6⟩,hO1⟩
 have hT:=hO1.top
 have hC:=hO1.cells
 simp only [jR,List.length_append,List.length_replicate] at hT
 simp only at hC
 have hcl2:m.cells.length+i≤3000:=by omega
 have hil8:i≤8:=by omega
 by_cases hil:i<(qE p b).length
 ·have hwl:IntKind.i64.wrap ((m.cells.length:Int)+i)=(m.cells.length:Int)+i:=wrp (by omega) (by omega)
  have hap:qN (m.cells++List.replicate i none)++[[bv false,iv 0,iv 0]]=qN (m.cells++List.replicate (i+1) none):=by
   rw [List.replicate_succ']
   simp [qN]
  have hap2:qJ (zg ((List.range i).map (m.cells.length+·)))++[[iv ((m.cells.length:Int)+i)]]=qJ (zg ((List.range (i+1)).map (m.cells.length+·))):=by
   rw [List.range_succ]
   simp [zg,qJ]
  have hil1:(zg ((List.range i).map (m.cells.length+·))).length=i:=by simp
  have fx:=aI t0<|aI t1<|aI t2<|aI t6<|aI t7<|aI p7<|aI t8<|aI p8<|aI p83<|aI p84<|aI p85<|aI p86<|aI t9<|aI p6<|aI hT<|aI hC<|aI hcl2<|aI hil8<|aI hil<|aI hwl<|aI hil1<|hcc
  refine qB ?_
  repeat ((first|refine wSc (id:=2) qRC qA ?_|refine wSc (id:=7) qRB qA ?_);refine qC ?_;refine qB ?_)
  clear fx
  have htk2:(m.cells++List.replicate i none).take (m.cells.length+i)=m.cells++List.replicate i none:=List.take_of_length_le (by simp)
  have htk:(zg ((List.range i).map (m.cells.length+·))).take i=zg ((List.range i).map (m.cells.length+·)):=List.take_of_length_le (by simp)
  refine⟨(qE p b).length - (i+1),by omega,i+1,rfl,by omega,by simp [t0],by simp [t1],by simp [t2],by simp [t6],by simp [t7],by simp [p7],by simp [t8],by simp,by simp [p83],?_,by simp [p85],by simp [p86],by simp;exact wrp (by omega) (by omega),⟨_,by simp [p6];rfl,by simpa using h6⟩,(have h:=hO1;OwnX.re h (h0:=by simp [jR];omega) (h2:=by simp [← hap];rw [htk2]))⟩
  simp [← hap2,htk]
 ·obtain rfl:i=(qE p b).length:=by omega
  have hil1:(zg ((List.range (qE p b).length).map (m.cells.length+·))).length=(qE p b).length:=by simp
  have hwm:IntKind.i64.wrap ((m.made:Int)+1)=(m.made:Int)+1:=wrp (by omega) (by omega)
  have hd6:r6.drop 7=[]:=List.drop_eq_nil_of_le (by omega)
  have htk:(zg ((List.range (qE p b).length).map (m.cells.length+·))).take (qE p b).length=zg ((List.range (qE p b).length).map (m.cells.length+·)):=List.take_of_length_le (by simp)
  have fx:=aI t0<|aI t1<|aI t2<|aI t6<|aI t7<|aI p7<|aI t8<|aI p8<|aI p83<|aI p84<|aI p85<|aI p86<|aI t9<|aI p6<|aI hd6<|aI hT<|aI hC<|aI hil8<|aI hcc<|aI hil1<|aI hcs<|hwm
  refine qB ?_
  repeat ((first|refine wSc (id:=2) qRC qA ?_|refine wSc (id:=7) qRB qA ?_);refine qC ?_;refine qB ?_)
  clear fx
  refine qF [(.s 8,root)] (.one rfl) (by simp [t6,hd6];rfl) ⟨by simp,by simp [p83,hr1,hr2],?_,by simp [p85,hr1,hr2],by simp [p86,hr1,hr2],OwnX.fin (have h:=hO1;OwnX.re h) (.inr rfl),hroot⟩
  have hna:∀ a b:List Nat,zg (a++b)=zg a++zg b:=fun a b=>by simp [zg]
  rw [hna]
  simp [hr1,hr2,htk]
theorem wi (gl) (H:Nm→Option AO) (p:Prg) (m:Mch) (b:Nat) (cs:List Nat) (dp:Nat) (hb:b<p.length) (hcl:m.cells.length≤2000) (hcs:cs.length≤8) (hmd:m.made≤1000) (hO:OwnX H p (.u 2 0 0) m dp) :
  FnE Tryz.prog gl 68 D12 [.pt Xn 0,iv b,isl (zg cs)] H (fun r y H'=>y=.agg [iv b,iv 0,iv (-1),.hs (.c r 0 3) 3 0 (qI p b).length,isl (zg (((List.range (qE p b).length).map (m.cells.length+·))++cs)),.hs (.c r 0 5) 3 0 8,.hs (.c r 0 6) 2 0 0]∧H' (.c r 0 3)=some (.row 3 (qN (List.replicate (qI p b).length none)))∧H' (.c r 0 5)=some (.row 3 (qN qe))∧H' (.c r 0 6)=some (.row 2 [])∧OwnX H' p (.u 2 0 0) { m with cells:=m.cells++List.replicate (qE p b).length none,made:=m.made+1 } dp) noE:=by
 refine (qGQ gl H p m b cs dp hb hcl hcs hmd hO).settle (fun r n=>Nm.under (.c r 0 4) n) ?_
 rintro r y H' ⟨rfl,h3,h4,h5,h6,hO',hr⟩
 have hne:∀ q,D12 q=true→Nm.under (.c r 0 4) q=false:=by
  intro q hq
  cases h:Nm.under (.c r 0 4) q with
  | false=>rfl
  | true =>
   have:=hr q (Nm.under_trans (a:=r) (by simp) h)
   rw [this] at hq
   cases hq
 have hu:∀ j,j≠4→Nm.under (.c r 0 4) (.c r 0 j)=false:=by
  intro j hj
  have hx:Nm.under (.c r 0 4) r=false:=by
   cases h:Nm.under (.c r 0 4) r with
   | false=>rfl
   | true=>exact absurd rfl (Nm.under_not_c h).2
  simp [hx,hj]
 refine⟨.agg [iv b,iv 0,iv (-1),.hs (.c r 0 3) 3 0 (qI p b).length,isl (zg (((List.range (qE p b).length).map (m.cells.length+·))++cs)),.hs (.c r 0 5) 3 0 8,.hs (.c r 0 6) 2 0 0],.agg _ _ rfl fun j a a' ha ha'=>?_,rfl,?_,?_,?_,?_⟩
 ·match j,ha,ha' with
  | 0,ha,ha'=>obtain rfl:=sI ha;obtain rfl:=sI ha';exact .refl _
  | 1,ha,ha'=>obtain rfl:=sI ha;obtain rfl:=sI ha';exact .refl _
  | 2,ha,ha'=>obtain rfl:=sI ha;obtain rfl:=sI ha';exact .refl _
  | 3,ha,ha'=>obtain rfl:=sI ha;obtain rfl:=sI ha';exact .refl _
  | 4,ha,ha' =>
   obtain rfl:=sI ha
   obtain rfl:=sI ha'
   refine .hs (.c r 0 4) 1 0 _ _ _ (by simp) h4 (by simp) (by simp) (by simp [qJ]) fun i r1 r2 e1 e2 j a a' e3 e4=>?_
   rw [Nat.zero_add,e2] at e1
   obtain rfl:=sI e1
   rw [e3] at e4
   obtain rfl:=sI e4
   exact .refl _
  | 5,ha,ha'=>obtain rfl:=sI ha;obtain rfl:=sI ha';exact .refl _
  | 6,ha,ha'=>obtain rfl:=sI ha;obtain rfl:=sI ha';exact .refl _
  | j+7,ha,_=>simp at ha
 ·simp only [vJ,hu 3 (by decide),Bool.false_eq_true,if_false,h3]
 ·simp only [vJ,hu 5 (by decide),Bool.false_eq_true,if_false,h5]
 ·simp only [vJ,hu 6 (by decide),Bool.false_eq_true,if_false,h6]
 ·exact hO'.cong (.inr rfl) fun q hq=>by simp only [vJ,hne q hq,Bool.false_eq_true,if_false]
abbrev vU:Sch:=.q 0<|.q 1<|.q 2<|.q 3<|.q 4<|.q 5<|.q 6<|.q 7<|.l 8 [7,6,5,4,3,2,1,0]<|.l 9 []<|.done
abbrev qBd:Sch:=.q 0<|.q 1<|.q 2<|.q 3<|.q 4<|.q 5<|.q 6<|.l 7 []<|.l 8 []<|.done
abbrev qBc:Sch:=.q 0<|.q 1<|.q 2<|.q 3<|.q 4<|.q 5<|.q 6<|.q 7<|.q 8<|.q 9<|.q 10<|.q 11<|.q 12<|.q 16<|.l 13 [16,5,4,3,2,1,0]<|.q 14<|.q 15<|.q 17<|.l 18 []<|.done
abbrev qBb:Sch:=.q 0<|.q 1<|.q 2<|.q 3<|.q 4<|.q 5<|.l 6 [4,3,2,1,0]<|.l 7 [0]<|.q 8<|.q 9<|.l 10 []<|.done
theorem qHE (gl) (H:Nm→Option AO) (p:Prg) (m:Mch) (fs:List Frm) (f:Frm) (n dp pc0:Nat) (hP:ValP p) (h:MOk p m fs { f with pc:=pc0 }) (hn1:n≤1) (hst:n+1≤f.stack.length) (hsl:f.stack.length≤1000) (hfl:fs.length≤1000) (hO:OwnX H p (.u 2 0 0) (m.top fs f) dp) :
  FnE Tryz.prog gl 100 D12 [.pt Xn 0,.ep (.u 2 0 0) 7 fs.length 0,iv n] H (fun _ _ H'=>∃ q,(q=.u 2 0 0∨q=.c Xn 0 6)∧OwnX H' p q (uo p m fs f (17,(n:Int))) dp) noE:=by
 have hT:=hO.top
 have hF:=hO.fr.top
 refine FnE.of_sem Tryz.func100 rfl (by kernel_rfl) (rs:=[]) rfl Tryz.ntmps100 (lB rfl) (fun _=>zM) fun C w g root hroot=>?_
 have hcm:=qGl (p:=p) (m:=m) (fs:=fs) hst
 have fx:=fx0
 refine qB ?_
 repeat ((first|refine wSc (id:=8) vU qA ?_|refine wSc (id:=9) vU qA ?_|refine wSc (id:=17) qBd qA ?_|refine wSc (id:=20) qBc qA ?_|refine wSc (id:=21) qBb qA ?_);refine qC ?_;refine qB ?_)
 clear fx
 refine qY (fun k s=>∃ i:Nat,k=n - i∧i≤n∧s.tm 0=.pt Xn 0∧s.tm 1=.ep (.u 2 0 0) 7 fs.length 0∧s.tm 2=iv n∧s.tm 6=.hs (.s 6) 2 0 i∧s.hp (.s 6)=some (.row 2 (qt (f.stack.drop (f.stack.length - i))))∧s.tm 7=iv i∧OwnX s.hp p (.u 2 0 0) (m.top fs (f.cut i)) dp) n ?_ ?_
 ·exact⟨0,by omega,by omega,by simp,by simp,by simp,by simp,by simp [qt],by simp,by rw [qIq];exact (have h:=hO;OwnX.re h)⟩
 clear hT hF hO
 rintro k s - - ⟨i,rfl,hi,t0,t1,t2,t6,p6,t7,hO⟩
 have hT:=hO.top
 have hX0:s.hp Xn≠none:=by rw [hT];simp
 have hU0:s.hp (.u 2 0 0)≠none:=by obtain⟨js,e⟩:=hO.fr.top;rw [e];simp
 have hk:=qHe (f:=f) (i:=i) (by omega)
 obtain⟨rows,a0,a1,a2,a3,a4,a5,vs,e1,e2,e3,e4,e5⟩:=hO.take hk
 by_cases hil:i<n
 ·have hdl:(qt (f.stack.drop (f.stack.length - i))).length=i:=by simp;omega
  have hdv:=qIr (f:=f) (i:=i) (by omega)
  have fx:=aI t0<|aI t1<|aI t2<|aI t6<|aI p6<|aI t7<|hil
  refine qB ?_
  repeat ((first|refine wSc (id:=8) vU qA ?_|refine wSc (id:=9) vU qA ?_|refine wSc (id:=17) qBd qA ?_|refine wSc (id:=20) qBc qA ?_|refine wSc (id:=21) qBb qA ?_);refine qC ?_;refine qB ?_)
  clear fx
  intro K hK
  have fx:=aI t0 (aI t1 t6)
  refine jo (Option.isSome_iff_ne_none.2 hX0) (Option.isSome_iff_ne_none.2 hU0) (hF:=kY gl D12 (fun _=>zM) _ rows fs.length (f.stack.length - (i+1)) a0 a1 a2 a3 a4 a5 vs (f.cut i).tos e2 e3 e4 e5 (by omega)) (h:=?_)
  intro y H1 hw
  clear fx
  have hO1:=hO.taken e1 hk hw
  obtain⟨rfl,-⟩:=hw
  rw [qFC (by omega)] at hO1
  generalize (f.cut i).tos=v at *
  obtain⟨v1,v2⟩:=v
  have hT1:=hO1.top
  have hap:[[iv v1,iv v2]]++qt (f.stack.drop (f.stack.length - i))=qt (f.stack.drop (f.stack.length - (i+1))):=by rw [hdv];rfl
  have hi1:i≤1:=by omega
  have fx:=aI t0<|aI t1<|aI t2<|aI t6<|aI p6<|aI t7<|aI hT1<|aI hdl<|hi1
  refine qB ?_
  repeat ((first|refine wSc (id:=8) vU qA ?_|refine wSc (id:=9) vU qA ?_|refine wSc (id:=17) qBd qA ?_|refine wSc (id:=20) qBc qA ?_|refine wSc (id:=21) qBb qA ?_);refine qC ?_;refine qB ?_)
  clear fx
  have htk:(f.stack.drop (f.stack.length - i)).take i=f.stack.drop (f.stack.length - i):=List.take_of_length_le (by simp;omega)
  exact⟨n - (i+1),by omega,i+1,rfl,by omega,by simp [t0,hT],by simp [t1,e1],by simp [t2],by simp;omega,by simp [htk,← hap],by simp;exact wrp (by omega) (by omega),(have h:=hO1;OwnX.re h)⟩
 ·obtain rfl:i=n:=by omega
  have hdl:(f.stack.drop (f.stack.length - i)).length=i:=by simp;omega
  have htm:=h.top.sv _ (gM (qFB (f:=f) (i:=i) (by omega)))
  rw [hcm]
  have fx:=aI t0<|aI t1<|aI t2<|aI t6<|aI p6<|t7
  refine qB ?_
  repeat ((first|refine wSc (id:=8) vU qA ?_|refine wSc (id:=9) vU qA ?_|refine wSc (id:=17) qBd qA ?_|refine wSc (id:=20) qBc qA ?_|refine wSc (id:=21) qBb qA ?_);refine qC ?_;refine qB ?_)
  clear fx
  intro K hK
  have fx:=aI t0 (aI t1 t6)
  refine jo (Option.isSome_iff_ne_none.2 hX0) (Option.isSome_iff_ne_none.2 hU0) (hF:=kY gl D12 (fun _=>zM) _ rows fs.length (f.stack.length - (i+1)) a0 a1 a2 a3 a4 a5 vs (f.cut i).tos e2 e3 e4 e5 (by omega)) (h:=?_)
  intro y H1 hw
  clear fx
  have hO1:=hO.taken e1 hk hw
  obtain⟨rfl,-⟩:=hw
  rw [qFC (by omega)] at hO1
  generalize (f.cut i).tos=v at *
  obtain⟨v1,v2⟩:=v
  have hT1:=hO1.top
  have fx:=aI t0<|aI t1<|aI t2<|aI t6<|aI p6<|aI t7<|hT1
  refine qB ?_
  repeat ((first|refine wSc (id:=8) vU qA ?_|refine wSc (id:=9) vU qA ?_|refine wSc (id:=17) qBd qA ?_|refine wSc (id:=20) qBc qA ?_|refine wSc (id:=21) qBb qA ?_);refine qC ?_;refine qB ?_)
  clear fx
  refine yd (fun s=>s.tm 0=.pt Xn 0∧s.tm 1=.ep (.u 2 0 0) 7 fs.length 0∧s.tm 2=iv i∧s.tm 6=.hs (.s 6) 2 0 i∧s.hp (.s 6)=some (.row 2 (qt (f.stack.drop (f.stack.length - i))))∧s.tm 8=.pt (.s 8) 0∧s.hp (.s 8)=some (.row 2 [[iv v1,iv v2]])∧s.tm 30=bv (v1 != 2)∧OwnX s.hp p (.u 2 0 0) (m.top fs (f.cut (i+1))) dp) ⟨by simp [t0,hT],by simp [t1,e1],by simp [t2],by simp [t6],by simp [p6],by simp,by simp,by simp,(have h:=hO1;OwnX.re h)⟩ ?_
  clear hT hT1 e1 e2 e3 e4 e5 t0 t1 t2 t6 p6 t7 hO hO1 hX0 hU0 hdl
  rintro s ⟨t0,t1,t2,t6,p6,t8,p8,t30,hO⟩
  have hT:=hO.top
  simp only [jR,Mch.top] at hT
  by_cases h2:v1=2
  case neg =>
   have hb:(v1 != 2)=true:=by simpa using h2
   rw [if_pos h2]
   have fx:=aI t0<|aI t1<|aI t2<|aI t6<|aI p6<|aI t8<|aI p8<|aI t30<|aI hT<|hb
   refine qB ?_
   repeat ((first|refine wSc (id:=8) vU qA ?_|refine wSc (id:=9) vU qA ?_|refine wSc (id:=17) qBd qA ?_|refine wSc (id:=20) qBc qA ?_|refine wSc (id:=21) qBb qA ?_);refine qC ?_;refine qB ?_)
   clear fx
   refine qF [] .nil (by simp;rfl) ⟨_,.inl rfl,OwnX.fin (OwnX.ends hO rfl fun k hk=>?_) (.inr rfl)⟩
   simp [jR]
  subst h2
  rw [if_neg (by simp)]
  have hv2:=htm.num
  have hv3:=htm.fn rfl
  simp only at hv2 hv3
  obtain⟨jf,rfl⟩:∃ jf:Nat,v2=jf:=⟨v2.toNat,by omega⟩
  have hjl:jf<m.funs.length:=by omega
  obtain⟨q,hq⟩:∃ q,m.funs[jf]?=some q:=⟨_,gE hjl⟩
  obtain⟨_,hqE⟩:=gS hq
  obtain⟨kq,hk1,hk2,hk3,hk4⟩:=h.funs q (gM hq)
  obtain⟨b,cs⟩:=q
  simp only at hk1 hk2 hk3 hk4
  have hFn:=hO.funs
  simp only [ud] at hFn
  have hbl:=(gS hk1).1
  have hcd:(qX p p.length)[b]?=some (q8 p b):=by simp [qX,hbl]
  obtain⟨hcdl,hcdE⟩:=gS hcd
  have hpn:(q8 p b).params.length=qIZ p b:=by simp [q8,hk1,qIZ]
  simp only [Int.toNat_natCast,hq]
  by_cases hpi:qIZ p b=i
  case neg =>
   rw [if_pos hpi]
   have hb:(((qIZ p b:Nat):Int) != (i:Int))=true:=by rw [bne_iff_ne];omega
   have hb2:¬ ((qIZ p b:Nat):Int)=(i:Int):=by omega
   have fx:=aI t0<|aI t1<|aI t2<|aI t6<|aI p6<|aI t8<|aI p8<|aI t30<|aI hT<|aI hFn<|aI hq<|aI hqE<|aI hjl<|aI hcd<|aI hcdl<|aI hcdE<|aI hpn<|aI hb<|hb2
   refine qB ?_
   repeat ((first|refine wSc (id:=8) vU qA ?_|refine wSc (id:=9) vU qA ?_|refine wSc (id:=17) qBd qA ?_|refine wSc (id:=20) qBc qA ?_|refine wSc (id:=21) qBb qA ?_);refine qC ?_;refine qB ?_)
   clear fx
   refine qF [] .nil (by simp;rfl) ⟨_,.inl rfl,OwnX.fin (have h:=hO;OwnX.re h (h0:=by simp [jR])) (.inr rfl)⟩
  rw [if_neg (by simpa using hpi)]
  have fx:=aI t0<|aI t1<|aI t2<|aI t6<|aI p6<|aI t8<|aI p8<|aI t30<|aI hT<|aI hFn<|aI hq<|aI hqE<|aI hjl<|aI hcd<|aI hcdl<|aI hcdE<|aI hpn<|hpi
  refine qB ?_
  repeat ((first|refine wSc (id:=8) vU qA ?_|refine wSc (id:=9) vU qA ?_|refine wSc (id:=17) qBd qA ?_|refine wSc (id:=20) qBc qA ?_|refine wSc (id:=21) qBb qA ?_);refine qC ?_;refine qB ?_)
  clear fx
  obtain⟨js,hU⟩:=hO.fr.top
  have hc1:=h.nc
  have hc2:=h.made
  have hc3:=jW (p:=p) (b:=b)
  intro K hK
  have fx:=aI t0 hT
  refine jo (by simp [hT]) (by simp [hU]) (hF:=wi _ _ p (m.top fs (f.cut (i+1))) b cs dp hbl (by simp only [kG];omega) (by omega) (by simp only [qBl];omega) (have h:=hO;OwnX.re h)) (h:=?_)
  rintro y H1 ⟨rfl,h3,h5,h6,hO1⟩
  clear fx
  have hT1:=hO1.top
  have fx:=aI t0<|aI t1<|aI t2<|aI t6<|aI p6<|aI t8<|aI p8<|aI hT<|aI hT1<|aI h3<|aI h5<|h6
  refine qB ?_
  repeat ((first|refine wSc (id:=8) vU qA ?_|refine wSc (id:=9) vU qA ?_|refine wSc (id:=17) qBd qA ?_|refine wSc (id:=20) qBc qA ?_|refine wSc (id:=21) qBb qA ?_);refine qC ?_;refine qB ?_)
  clear fx
  have hcf:(q8 p b).fasts=qI p b:=by simp [q8,hk1]
  have hcc:(q8 p b).cells=qE p b:=by simp [q8,hk1]
  have hkp:(q8 p b).params=kq.params:=by simp [q8,hk1]
  have hf8:=yv (p:=p) (b:=b)
  have hc8:=zV (p:=p) (b:=b)
  simp only [kG] at h3 h5 h6 hO1
  refine qY (fun k s=>∃ (j:Nat) (fl C:List Slt),k=i - j∧j≤i∧qPH p m b (f.stack.drop (f.stack.length - i)) j fl C∧s.tm 0=.pt Xn 0∧s.tm 2=iv i∧s.tm 6=.hs (.s 6) 2 0 i∧s.hp (.s 6)=some (.row 2 (qt (f.stack.drop (f.stack.length - i))))∧s.tm 10=.pt (.s 10) 0∧s.hp (.s 10)=some (.row 6 [(q8 p b).row])∧s.tm 11=.pt (.s 11) 0∧s.hp (.s 11)=some (.row 7 [[iv b,iv 0,iv (-1),.hs (.c (.s 63) 0 3) 3 0 (qI p b).length,isl (zg ((List.range (qE p b).length).map (m.cells.length+·)++cs)),.hs (.c (.s 63) 0 5) 3 0 8,.hs (.c (.s 63) 0 6) 2 0 0]])∧s.hp (.c (.s 63) 0 3)=some (.row 3 (qN fl))∧s.hp (.c (.s 63) 0 5)=some (.row 3 (qN qe))∧s.hp (.c (.s 63) 0 6)=some (.row 2 [])∧s.tm 12=iv j∧OwnX s.hp p (.u 2 0 0) { m.top fs (f.cut (i+1)) with cells:=C,made:=m.made+1 } dp) i ?_ ?_
  ·exact⟨0,_,_,by omega,by omega,.inl ⟨rfl,rfl,rfl⟩,by simp [t0,hT],by simp [t2],by simp [t6],by simp [p6],by simp,by simp,by simp,by simp,by simp [h3],by simp [h5],by simp [h6],by simp,(have h:=hO1;OwnX.re h)⟩
  clear t0 t1 t2 t6 p6 t8 p8 t30 hT hT1 h3 h5 h6 hO1 hO hU
  rintro k s - - ⟨j,fl,C,rfl,hj,hB,t0,t2,t6,p6,t10,p10,t11,p11,h3,h5,h6,t12,hO⟩
  have hT:=hO.top
  simp only [jR,Mch.top] at hT
  have hC:=hO.cells
  simp only at hC
  have hBf:=hB.fl
  have hBc:=hB.cl
  by_cases hji:j<i
  ·obtain rfl:i=1:=by omega
   obtain rfl:j=0:=by omega
   obtain⟨x,hx⟩:∃ x,kq.params=[x]:=by
    have:kq.params.length=1:=by rw [← hkp,hpn];exact hpi
    match h:kq.params,this with
    | [x],_=>exact⟨x,rfl⟩
   have hdl:(f.stack.drop (f.stack.length - 1)).length=1:=by simp;omega
   obtain⟨v,hv⟩:∃ v,f.stack.drop (f.stack.length - 1)=[v]:=by
    match h:f.stack.drop (f.stack.length - 1),hdl with
    | [v],_=>exact⟨v,rfl⟩
   rw [hv] at hB p6
   rw [hx] at hkp
   have hxm:x∈kq.params:=by rw [hx];simp
   obtain⟨-,rfl,rfl⟩:0=0∧fl=List.replicate (qI p b).length none∧C=m.cells++List.replicate (qE p b).length none:=by
    rcases hB with h|⟨h,_⟩
    ·exact h
    ·omega
   obtain⟨v1,v2⟩:=v
   have hpl:=yY gl (qI p b) x (by omega)
   have hpc:=yY gl (qE p b) x (by omega)
   by_cases hxf:x∈qI p b
   ·obtain⟨z,hz,hzl,_⟩:=ju hxf
    rw [hz] at hpl
    have fx:=aI t0<|aI t2<|aI t6<|aI p6<|aI t10<|aI p10<|aI t11<|aI p11<|aI h3<|aI h5<|aI h6<|aI t12<|aI hT<|aI hC<|aI hcf<|aI hcc<|aI hkp<|hzl
    have c1:=hpl
    refine qB ?_
    repeat ((first|refine wSc (id:=8) vU qA ?_|refine wSc (id:=9) vU qA ?_|refine wSc (id:=17) qBd qA ?_|refine wSc (id:=20) qBc qA ?_|refine wSc (id:=21) qBb qA ?_);refine qC ?_;refine qB ?_)
    clear fx c1
    exact⟨0,by omega,1,_,_,by omega,by omega,.inr ⟨rfl,x,(v1,v2),hkp,hv,.inl ⟨hxf,rfl,rfl⟩⟩,by simp [t0,hT],by simp [t2],by simp [t6],by simp [p6,hv],by simp [t10],by simp [p10],by simp [t11],by simp [p11],by simp [hz],by simp [h5],by simp [h6],by simp;rfl,(have h:=hO;OwnX.re h)⟩
   ·have hxc:x∈qE p b:=(qC2 hP hk1 hxm).resolve_left hxf
    obtain⟨z,hz,hzl,_⟩:=ju hxc
    have hneg:qm (qI p b) x<0:=Int.not_le.1 fun e=>hxf (ze.1 e)
    have hneg2:¬ 0≤qm (qI p b) x:=Int.not_le.2 hneg
    rw [hz] at hpc
    have hzc:(zg ((List.range (qE p b).length).map (m.cells.length+·)++cs))[z]?=some (((m.cells.length+z:Nat)):Int):=by
     simp only [zg]
     rw [List.getElem?_map,List.getElem?_append_left (by simpa using hzl),List.getElem?_map,List.getElem?_range hzl]
     rfl
    obtain⟨hzcl,hzcE⟩:=gS hzc
    have hzm:m.cells.length+z<(m.cells++List.replicate (qE p b).length (none:Slt)).length:=by simp;omega
    have hzm2:z<(qE p b).length+cs.length:=by omega
    have hz1:((m.cells.length:Int)+z).toNat=m.cells.length+z:=by omega
    have hz0:(0:Int)≤(m.cells.length:Int)+z:=by omega
    have hz2:(m.cells.length:Int)+z<(m.cells.length:Int)+(qE p b).length:=by omega
    generalize qm (qI p b) x=u at hpl hneg hneg2
    have fx:=aI t0<|aI t2<|aI t6<|aI p6<|aI t10<|aI p10<|aI t11<|aI p11<|aI h3<|aI h5<|aI h6<|aI t12<|aI hT<|aI hC<|aI hcf<|aI hcc<|aI hkp<|aI hzl<|aI hneg<|aI hneg2<|aI hzc<|aI hzcl<|aI hzcE<|aI hzm<|aI hzm2<|aI hz1<|aI hz0<|hz2
    have c1:=hpl
    have c2:=hpc
    refine qB ?_
    repeat ((first|refine wSc (id:=8) vU qA ?_|refine wSc (id:=9) vU qA ?_|refine wSc (id:=17) qBd qA ?_|refine wSc (id:=20) qBc qA ?_|refine wSc (id:=21) qBb qA ?_);refine qC ?_;refine qB ?_)
    clear fx c1 c2
    exact⟨0,by omega,1,_,_,by omega,by omega,.inr ⟨rfl,x,(v1,v2),hkp,hv,.inr ⟨hxf,rfl,rfl⟩⟩,by simp [t0,hT],by simp [t2],by simp [t6],by simp [p6,hv],by simp [t10],by simp [p10],by simp [t11],by simp [p11],by simp [h3],by simp [h5],by simp [h6],by simp;rfl,(have h:=hO;OwnX.re h (h0:=by simp [hT,jR]) (h2:=by simp [hz]))⟩
  ·obtain rfl:j=i:=by omega
   obtain⟨js,hF⟩:=hO.fr.top
   have hvl:(f.stack.drop (f.stack.length - j)).length=j:=by simp;omega
   have hfin:=hB.fin (m:=m.top fs (f.cut (j+1))) (cs:=cs) hvl
   have hfl2:fs.length+1≤2000:=by omega
   refine qM4 (.c (.s 63) 0 3) (.s 20) (.inl rfl) (.inl rfl) (qM4 (.c (.s 63) 0 5) (.s 21) (.inl rfl) (.inl rfl) (qM4 (.c (.s 63) 0 6) (.s 22) (.inl rfl) (.inl rfl) ?_))
   have fx:=aI t0<|aI t2<|aI t6<|aI p6<|aI t10<|aI p10<|aI t11<|aI p11<|aI h3<|aI h5<|aI h6<|aI t12<|aI hT<|aI hF<|hfl2
   refine qB ?_
   repeat ((first|refine wSc (id:=8) vU qA ?_|refine wSc (id:=9) vU qA ?_|refine wSc (id:=17) qBd qA ?_|refine wSc (id:=20) qBc qA ?_|refine wSc (id:=21) qBb qA ?_);refine qC ?_;refine qB ?_)
   clear fx
   rw [hfin]
   refine zj [] .nil (by simp;rfl) ⟨_,.inr rfl,OwnX.fin ?_ (.inl (by simp))⟩
   have key:∀ (i1:Nat) g,(fs++[f.cut (j+1)]++[(⟨b,0,fl,(List.range (qE p b).length).map (m.cells.length+·)++cs,qe,[]⟩:Frm)])[i1]?=some g→(i1=fs.length+1∧g=⟨b,0,fl,(List.range (qE p b).length).map (m.cells.length+·)++cs,qe,[]⟩)∨(i1<fs.length+1∧(fs++[f.cut (j+1)])[i1]?=some g):=by
    intro i1 g hg
    rcases Nat.lt_trichotomy i1 (fs++[f.cut (j+1)]).length with e|e|e
    ·rw [List.getElem?_append_left e] at hg
     exact .inr ⟨by simpa using e,hg⟩
    ·subst e
     simp at hg
     exact .inl ⟨by simp,hg.symm⟩
    ·rw [List.getElem?_eq_none (by simp at e ⊢;omega)] at hg
     cases hg
   refine⟨?_,?_,?_,?_,?_,?_,?_,?_,⟨[],?_⟩,fun i1 g hg=>?_,fun i1 g hg=>?_,fun i1 g hg=>?_⟩
   ·simp [jR]
   ·simp [hO.caps]
   ·simp [hO.cells]
   ·simp [hO.glob]
   ·simp [hO.funs]
   ·simp [hO.clss]
   ·simp [hO.out]
   ·simp [hO.trc]
   ·simp
    rw [← List.map_take,qB2]
    have htk:(fs++f.cut (j+1)::js).take (fs.length+1)=fs++[f.cut (j+1)]:=by
     simp [List.take_append]
     exact List.take_of_length_le (by omega)
    rw [htk,qCo (m:=.c Xn 0 6) fun i1 g hg=>?_]
    ·have:=qCq (p:=p) (n:=.c Xn 0 6) (l:=fs++[f.cut (j+1)]) (f:=⟨b,0,fl,(List.range (qE p b).length).map (m.cells.length+·)++cs,qe,[]⟩)
     simp [z9,vN,hBf] at this
     exact this
    ·have hlt:=(gS hg).1
     have hne:¬ i1=fs.length+1:=by simp at hlt;omega
     simp [z9,hne]
   ·rcases key i1 g hg with⟨rfl,rfl⟩|⟨hl,hg⟩
    ·simp [h3]
    ·have hne:¬ i1=fs.length+1:=by omega
     simp [hO.fr.fasts i1 g hg,hne]
   ·rcases key i1 g hg with⟨rfl,rfl⟩|⟨hl,hg⟩
    ·simp [h5]
    ·have hne:¬ i1=fs.length+1:=by omega
     simp [hO.fr.names i1 g hg,hne]
   ·rcases key i1 g hg with⟨rfl,rfl⟩|⟨hl,hg⟩
    ·exact⟨[],by simp [h6,qt]⟩
    ·have hne:¬ i1=fs.length+1:=by omega
     exact (hO.fr.stack i1 g hg).imp fun j1 hj1=>by simp [hj1,hne]
end Go.Proofs.YtbgmnmnoaamgkaaGreatDoor
end
