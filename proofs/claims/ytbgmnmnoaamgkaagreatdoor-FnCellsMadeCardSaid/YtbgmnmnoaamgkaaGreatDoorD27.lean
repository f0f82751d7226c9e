/-
  Own texts, joined by mkclaim.py: He, Hf, Hg, Hh, Hi, Hj.
-/
import Derived.Test.YtbgmnmnoaamgkaaGreatDoorD26
import Derived.Test.YtbgmnmnoaamgkaaGreatDoorD10
import Derived.Test.YtbgmnmnoaamgkaaGreatDoorD12
import Derived.RangeFuncFrom
import Derived.RangeFuncNested
import Derived.RangeFuncBound
import Derived.RangeFuncCalls
import Derived.RangeFuncLeaves
import Derived.Shelf.Abstract
import Derived.Shelf.RegionOpen
import Derived.WalkKit
import Derived.OwnWalkIn
import Derived.TacticsInMore
import Derived.LoopNIn
import Derived.LoopIn
set_option linter.unusedSimpArgs false
set_option linter.unusedVariables false
set_option maxRecDepth 100000
set_option maxHeartbeats 4000000

section
namespace Go.Proofs.YtbgmnmnoaamgkaaGreatDoor
open Go Go.Hm Go.Proofs
theorem qLI (gl) (a:Int):qV Tryz.prog gl 209 [.agg [iv a]] (fun r y H'=>y=.hs r 1 0 0∧H' r=some (.row 1 [])):=by
 refine qV.of_sem Tryz.func209 rfl (by kernel_rfl) (rs:=[.tmp 2]) rfl Tryz.ntmps209 (lB rfl) fun C w g root=>?_
 have fx:=fx0
 refine qB ?_
 clear fx
 exact zY (t:=2) (by first|(simp [];done)|(simp [];rfl)) (by first|(simp [];done)|(simp [];rfl)) (by simp)
theorem qJy (gl) (a:Int):qV Tryz.prog gl 210 [.agg [iv a]] (fun r y H'=>y=.hs r 1 0 1∧H' r=some (.row 1 [[iv a]])):=by
 refine qV.of_sem Tryz.func210 rfl (by kernel_rfl) (rs:=[.tmp 2]) rfl Tryz.ntmps210 (lB rfl) fun C w g root=>?_
 have fx:=fx0
 refine qB ?_
 clear fx
 exact zY (t:=2) (by first|(simp [];done)|(simp [];rfl)) (by first|(simp [];done)|(simp [];rfl)) (by simp)
theorem qMW (gl) (a b:Int):qV Tryz.prog gl 211 [.agg [iv a,iv b]] (fun r y H'=>y=.hs r 1 0 2∧H' r=some (.row 1 [[iv a],[iv b]])):=by
 refine qV.of_sem Tryz.func211 rfl (by kernel_rfl) (rs:=[.tmp 2]) rfl Tryz.ntmps211 (lB rfl) fun C w g root=>?_
 have fx:=fx0
 refine qB ?_
 clear fx
 exact zY (t:=2) (by first|(simp [];done)|(simp [];rfl)) (by first|(simp [];done)|(simp [];rfl)) (by simp)
theorem qDc (gl) (a b:Int):qV Tryz.prog gl 208 [.agg [iv a,iv b]] (fun r y H'=>y=.hs r 1 0 0∧H' r=some (.row 1 [])):=by
 refine qV.of_sem Tryz.func208 rfl (by kernel_rfl) (rs:=[.tmp 2]) rfl Tryz.ntmps208 (lB rfl) fun C w g root=>?_
 have fx:=fx0
 refine qB ?_
 clear fx
 exact zY (t:=2) (by first|(simp [];done)|(simp [];rfl)) (by first|(simp [];done)|(simp [];rfl)) (by simp)
theorem qDl (gl) (a b:Int):qV Tryz.prog gl 188 [.agg [iv a,iv b]] (fun r y H'=>y=.hs r 1 0 (if b=-1 then [a] else [a,b]).length∧H' r=some (.row 1 (qJ (if b=-1 then [a] else [a,b])))):=by
 refine qV.of_sem Tryz.func188 rfl (by kernel_rfl) (rs:=[.tmp 2]) rfl Tryz.ntmps188 (lB rfl) fun C w g root=>?_
 by_cases hb:b=-1
 ·subst hb
  have fx:=fx0
  refine qB ?_
  clear fx
  exact zY (t:=2) (by first|(simp [];done)|(simp [];rfl)) (by first|(simp [];done)|(simp [];rfl)) (by simp)
 ·have h1:(b == -1)=false:=by simp [hb]
  rw [if_neg hb]
  have fx:= h1
  refine qB ?_
  clear fx
  exact zY (t:=2) (by first|(simp [];done)|(simp [];rfl)) (by first|(simp [];done)|(simp [];rfl)) (by simp)
theorem qLh (gl) (a b:Int):qV Tryz.prog gl 212 [.agg [iv a,iv b]] (fun r y H'=>y=.hs r 1 0 1∧H' r=some (.row 1 [[iv a]])):=by
 refine qV.of_sem Tryz.func212 rfl (by kernel_rfl) (rs:=[.tmp 2]) rfl Tryz.ntmps212 (lB rfl) fun C w g root=>?_
 have fx:=fx0
 refine qB ?_
 clear fx
 exact zY (t:=2) (by first|(simp [];done)|(simp [];rfl)) (by first|(simp [];done)|(simp [];rfl)) (by simp)
theorem qH1 (gl) (a:Int):qV Tryz.prog gl 213 [.agg [iv a]] (fun r y H'=>y=.hs r 1 0 1∧H' r=some (.row 1 [[iv a]])):=by
 refine qV.of_sem Tryz.func213 rfl (by kernel_rfl) (rs:=[.tmp 2]) rfl Tryz.ntmps213 (lB rfl) fun C w g root=>?_
 have fx:=fx0
 refine qB ?_
 clear fx
 exact zY (t:=2) (by first|(simp [];done)|(simp [];rfl)) (by first|(simp [];done)|(simp [];rfl)) (by simp)
theorem qFp (gl) (a:Int):qV Tryz.prog gl 214 [.agg [iv a]] (fun r y H'=>y=.hs r 1 0 1∧H' r=some (.row 1 [[iv a]])):=by
 refine qV.of_sem Tryz.func214 rfl (by kernel_rfl) (rs:=[.tmp 2]) rfl Tryz.ntmps214 (lB rfl) fun C w g root=>?_
 have fx:=fx0
 refine qB ?_
 clear fx
 exact zY (t:=2) (by first|(simp [];done)|(simp [];rfl)) (by first|(simp [];done)|(simp [];rfl)) (by simp)
theorem qA9 (gl):qV Tryz.prog gl 215 [.agg []] (fun r y H'=>y=.hs r 1 0 0∧H' r=some (.row 1 [])):=by
 refine qV.of_sem Tryz.func215 rfl (by kernel_rfl) (rs:=[.tmp 2]) rfl Tryz.ntmps215 (lB rfl) fun C w g root=>?_
 have fx:=fx0
 refine qB ?_
 clear fx
 exact zY (t:=2) (by first|(simp [];done)|(simp [];rfl)) (by first|(simp [];done)|(simp [];rfl)) (by simp)
theorem qJv (gl):qV Tryz.prog gl 216 [.agg []] (fun r y H'=>y=.hs r 1 0 0∧H' r=some (.row 1 [])):=by
 refine qV.of_sem Tryz.func216 rfl (by kernel_rfl) (rs:=[.tmp 2]) rfl Tryz.ntmps216 (lB rfl) fun C w g root=>?_
 have fx:=fx0
 refine qB ?_
 clear fx
 exact zY (t:=2) (by first|(simp [];done)|(simp [];rfl)) (by first|(simp [];done)|(simp [];rfl)) (by simp)
noncomputable def qIL (nm:String):Bool:=decide (qI6 Tryz.prog 198 nm=some 209)&&decide (qI6 Tryz.prog 200 nm=some 210)&&decide (qI6 Tryz.prog 202 nm=some 211)&&decide (qI6 Tryz.prog 168 nm=some 208)&&decide (qI6 Tryz.prog 204 nm=some 188)&&decide (qI6 Tryz.prog 206 nm=some 212)&&decide (qI6 Tryz.prog 208 nm=some 213)&&decide (qI6 Tryz.prog 209 nm=some 214)&&decide (qI6 Tryz.prog 211 nm=some 215)&&decide (qI6 Tryz.prog 212 nm=some 216)
theorem qFr (gl) {nm:String} (hm:qIL nm=true) (s:Stm) (h:0≤s.kind∧s.kind≤11):qVP Tryz.prog gl nm (za s) (fun r y H'=>y=.hs r 1 0 s.reads.length∧H' r=some (.row 1 (qJ s.reads))):=by
 simp only [qIL,Bool.and_eq_true,decide_eq_true_eq] at hm
 obtain⟨⟨⟨⟨⟨⟨⟨⟨⟨m_num,m_copy⟩,m_add⟩,m_make⟩,m_call⟩,m_get⟩,m_print⟩,m_return⟩,m_declare⟩,m_drop⟩:=hm
 obtain⟨n,to,a,b⟩:=s
 rcases wB n with rfl|rfl|rfl|rfl|rfl|rfl|rfl|rfl|rfl|rfl|rfl|rfl|hn
 case inr.inr.inr.inr.inr.inr.inr.inr.inr.inr.inr.inr=>exact absurd h hn
 ·exact⟨_,_,_,qOa,m_num,qLI _ _⟩
 ·exact⟨_,_,_,qO9,m_copy,qJy _ _⟩
 ·exact⟨_,_,_,qO8,m_add,qMW _ _ _⟩
 ·exact⟨_,_,_,qO7,m_make,qDc _ _ _⟩
 ·exact⟨_,_,_,qO6,m_make,qDc _ _ _⟩
 ·exact⟨_,_,_,qO5,m_call,qDl _ _ _⟩
 ·exact⟨_,_,_,qO4,m_get,qLh _ _ _⟩
 ·exact⟨_,_,_,qO3,m_print,qH1 _ _⟩
 ·exact⟨_,_,_,qO2,m_return,qFp _ _⟩
 ·exact⟨_,_,_,qO1,m_declare,qA9 _⟩
 ·exact⟨_,_,_,qLo,m_declare,qA9 _⟩
 ·exact⟨_,_,_,qLn,m_drop,qJv _⟩
theorem qDN (gl) (k:Blk) (d:Int) (hn:NmOk k) (hs:BSm k):qV Tryz.prog gl 84 [k.av,iv d] (fun _ y _=>y=.agg (jQ (k.dc d))):=by
 have hbl:=hs.body
 refine qV.of_sem Tryz.func84 rfl (by kernel_rfl) (rs:=[.cell 4 94]) rfl Tryz.ntmps84 (lB rfl) fun C w g root=>?_
 have fx:=fx0
 refine qB ?_
 clear fx
 refine qY (fun n st=>∃ i:Nat,n=k.body.length - i∧i≤k.body.length∧st.tm 1=iv d∧st.tm 4=.pt (.s 4) 0∧st.hp (.s 4)=some (.row 8 [jQ []])∧st.tm 5=.pt (.s 5) 0∧st.hp (.s 5)=some (.row 8 [jQ (((k.body.take i).filter (fun s=>decide (s.kind=d))).map Stm.to)])∧st.tm 9=ssl k.body∧st.tm 10=iv k.body.length∧st.tm 11=iv i) k.body.length ?_ ?_
 ·exact⟨0,by simp,by simp,by simp,by simp,by simp;rfl,by simp,by simp;rfl,by simp,by simp,by simp⟩
 rintro n st - - ⟨i,rfl,hi,h1,h4,hp4,h5,hp5,h9,h10,h11⟩
 have fx:=aI h9<|aI h10<|h11
 refine qB ?_
 clear fx
 refine ub (by simp [];first|done|rfl|exact (Bool.not_not _).symm) (fun ht=>?_) (fun hf=>?_)
 ·have hlt:i<k.body.length:=by simpa using ht
  obtain⟨s,hsi⟩:∃ s,k.body[i]?=some s:=⟨_,gE hlt⟩
  have hto:=hn.tos s (gM hsi)
  obtain⟨x,hx⟩:∃ x:Nat,s.to=x:=⟨s.to.toNat,by omega⟩
  have hx8:(x:Int)<8:=by omega
  clear ht
  have fx:=aI h9<|aI h10<|aI h11<|aI hsi<|h1
  refine qB ?_
  clear fx
  refine ub (by simp [];first|done|rfl|exact (Bool.not_not _).symm) (fun ht=>?_) (fun hf=>?_)
  ·have hkd:s.kind=d:=by simpa using ht
   have fx:=aI h9<|aI h10<|aI h11<|aI h5<|aI hp5<|aI hx<|hx8
   refine qB ?_
   clear fx
   refine⟨k.body.length - (i+1),by omega,i+1,by simp,by omega,by simp [h1],by simp [h4],by simp [hp4],by simp [h5],?_,by simp [h9],by simp [h10],by simp;exact wrp (by omega) (by omega)⟩
   rw [qy hsi]
   simp [hkd,← uE hx (by omega)]
  ·have hkd:¬ s.kind=d:=by simpa using hf
   have fx:=aI h9<|aI h10<|h11
   refine qB ?_
   clear fx
   refine⟨k.body.length - (i+1),by omega,i+1,by simp,by omega,by simp [h1],by simp [h4],by simp [hp4],by simp [h5],?_,by simp [h9],by simp [h10],by simp;exact wrp (by omega) (by omega)⟩
   rw [qy hsi]
   simp [hkd,hp5]
 ·have hge:i=k.body.length:=by
   have:¬ i<k.body.length:=by simpa using hf
   omega
  subst hge
  rw [List.take_length] at hp5
  have fx:=aI h4<|aI hp4<|aI h5<|hp5
  refine qB ?_
  clear fx
  refine qF [] .nil (by simp [h4];rfl) ?_
  simp [Blk.dc,uu,kj]
theorem qHj (gl) (k:Blk) (hn:NmOk k) (hs:BSm k):qV Tryz.prog gl 83 [k.av] (fun _ y _=>y=.agg (jQ k.bd)):=by
 have hbl:=hs.body
 have hpl:=hs.params
 refine qV.of_sem Tryz.func83 rfl (by kernel_rfl) (rs:=[.cell 2 94]) rfl Tryz.ntmps83 (lB rfl) fun C w g root=>?_
 have fx:=fx0
 refine qB ?_
 clear fx
 refine qY (fun n st=>∃ i:Nat,n=k.params.length - i∧i≤k.params.length∧st.tm 1=.pt (.s 1) 0∧st.hp (.s 1)=some (.row 4 [k.cells])∧st.tm 2=.pt (.s 2) 0∧st.hp (.s 2)=some (.row 8 [jQ []])∧st.tm 3=.pt (.s 3) 0∧st.hp (.s 3)=some (.row 8 [jQ (k.params.take i)])∧st.tm 9=isl k.params∧st.tm 10=iv k.params.length∧st.tm 11=iv i) k.params.length ?_ ?_
 ·exact⟨0,by simp,by simp,by simp,by simp,by simp,by simp;rfl,by simp,by simp;rfl,by simp,by simp,by simp⟩
 ·rintro n st - - ⟨i,rfl,hi,h1,hp1,h2,hp2,h3,hp3,h9,h10,h11⟩
  have fx:=aI h9<|aI h10<|h11
  refine qB ?_
  clear fx
  refine ub (by simp [];first|done|rfl|exact (Bool.not_not _).symm) (fun ht=>?_) (fun hf=>?_)
  ·have hlt:i<k.params.length:=by simpa using ht
   obtain⟨y,hy⟩:∃ y,k.params[i]?=some y:=⟨_,gE hlt⟩
   have hto:=hn.params y (gM hy)
   obtain⟨x,rfl⟩:∃ x:Nat,y=x:=⟨y.toNat,by omega⟩
   have hx8:(x:Int)<8:=by omega
   clear ht
   have fx:=aI h9<|aI h10<|aI h11<|aI hy<|aI h3<|aI hp3<|hx8
   refine qB ?_
   clear fx
   refine⟨k.params.length - (i+1),by omega,i+1,by simp,by omega,by simp [h1],by simp [hp1],by simp [h2],by simp [hp2],by simp [h3],?_,by simp [h9],by simp [h10],by simp;exact wrp (by omega) (by omega)⟩
   rw [List.take_add_one,hy]
   simp [← uE (y:=(x:Int)) rfl (by omega:x<8)]
  ·have hge:i=k.params.length:=by
    have:¬ i<k.params.length:=by simpa using hf
    omega
   subst hge
   rw [List.take_length] at hp3
   have fx:=aI h1<|hp1
   refine qB ?_
   clear fx
   refine qY (fun n st=>∃ i:Nat,n=k.body.length - i∧i≤k.body.length∧st.tm 2=.pt (.s 2) 0∧st.hp (.s 2)=some (.row 8 [jQ []])∧st.tm 3=.pt (.s 3) 0∧st.hp (.s 3)=some (.row 8 [jQ (k.params++((k.body.take i).filter (fun s=>decide (s.sets∨s.kind=11))).map Stm.to)])∧st.tm 19=ssl k.body∧st.tm 20=iv k.body.length∧st.tm 21=iv i) k.body.length ?_ ?_
   ·exact⟨0,by simp,by simp,by simp [h2],by simp [hp2],by simp [h3],by simp [hp3],by simp,by simp,by simp⟩
   clear h1 hp1 h2 hp2 h3 hp3 h9 h10 h11 hf hi
   rintro n st - - ⟨i,rfl,hi,h2,hp2,h3,hp3,h19,h20,h21⟩
   have fx:=aI h19<|aI h20<|h21
   refine qB ?_
   clear fx
   refine ub (by simp [];first|done|rfl|exact (Bool.not_not _).symm) (fun ht=>?_) (fun hf=>?_)
   ·have hlt:i<k.body.length:=by simpa using ht
    obtain⟨s,hsi⟩:∃ s,k.body[i]?=some s:=⟨_,gE hlt⟩
    have hto:=hn.tos s (gM hsi)
    obtain⟨x,hx⟩:∃ x:Nat,s.to=x:=⟨s.to.toNat,by omega⟩
    have hx8:(x:Int)<8:=by omega
    clear ht
    have fx:=aI h19<|aI h20<|aI h21<|hsi
    have c1:=qFK gl s
    refine qB ?_
    clear fx c1
    refine ub (by simp [];first|done|rfl|exact (Bool.not_not _).symm) (fun ht=>?_) (fun hf=>?_)
    ·skip
     have fx:=aI h19<|aI h20<|aI h21<|aI h3<|aI hp3<|aI hx<|hx8
     refine qB ?_
     clear fx
     refine⟨k.body.length - (i+1),by omega,i+1,by simp,by omega,by simp [h2],by simp [hp2],by simp [h3],?_,by simp [h19],by simp [h20],by simp;exact wrp (by omega) (by omega)⟩
     have hc:decide (s.sets∨s.kind=11)=true:=by simpa using ht
     have hadd:=uE (l:=k.params++((k.body.take i).filter (fun s=>decide (s.sets∨s.kind=11))).map Stm.to) hx (by omega)
     rw [qy hsi,if_pos hc,List.map_append]
     simp at hadd ⊢
     exact hadd
    ·skip
     have fx:=aI h19<|aI h20<|h21
     refine qB ?_
     clear fx
     refine⟨k.body.length - (i+1),by omega,i+1,by simp,by omega,by simp [h2],by simp [hp2],by simp [h3],?_,by simp [h19],by simp [h20],by simp;exact wrp (by omega) (by omega)⟩
     have hc:¬ decide (s.sets∨s.kind=11)=true:=by simpa using hf
     rw [qy hsi,if_neg hc]
     simp [hp3]
   ·have hge:i=k.body.length:=by
     have:¬ i<k.body.length:=by simpa using hf
     omega
    subst hge
    rw [List.take_length] at hp3
    have fx:=aI h2<|aI hp2<|aI h3<|hp3
    refine qB ?_
    clear fx
    refine qF [] .nil (by simp [h2];rfl) ?_
    simp [Blk.bd,uu,uv]
theorem qJ5 (gl) (k:Blk) (hn:NmOk k) (hs:BSm k):qV Tryz.prog gl 82 [k.av] (fun _ y _=>y=.agg (jQ k.rd)):=by
 have hbl:=hs.body
 refine qV.of_sem Tryz.func82 rfl (by kernel_rfl) (rs:=[.cell 2 94]) rfl Tryz.ntmps82 (lB rfl) fun C w g root=>?_
 have fx:=fx0
 refine qB ?_
 clear fx
 refine qY (fun n st=>∃ i:Nat,n=k.body.length - i∧i≤k.body.length∧st.tm 2=.pt (.s 2) 0∧st.hp (.s 2)=some (.row 8 [jQ []])∧st.tm 3=.pt (.s 3) 0∧st.hp (.s 3)=some (.row 8 [jQ (zq (k.body.take i))])∧st.tm 9=ssl k.body∧st.tm 10=iv k.body.length∧st.tm 11=iv i) k.body.length ?_ ?_
 ·exact⟨0,by simp,by simp,by simp,by simp;rfl,by simp,by simp;rfl,by simp,by simp,by simp⟩
 rintro n st - - ⟨i,rfl,hi,h2,hp2,h3,hp3,h9,h10,h11⟩
 have fx:=aI h9<|aI h10<|h11
 refine qB ?_
 clear fx
 refine ub (by simp [];first|done|rfl|exact (Bool.not_not _).symm) (fun ht=>?_) (fun hf=>?_)
 ·have hlt:i<k.body.length:=by simpa using ht
  obtain⟨s,hsi⟩:∃ s,k.body[i]?=some s:=⟨_,gE hlt⟩
  have hsm:=gM hsi
  have hrl:=s.reads_len
  clear ht
  all_goals have fx:=aI h9<|aI h10<|aI h11<|hsi
  repeat' (first
   | refine qf ?_|refine qS ?_|refine q7 ?_|refine qj fun K hK=>?_
   | ((with_reducible refine qc hK ?_);clear hK K)
   | (with_reducible first|refine qD ?_|refine qb ?_|refine qu ?_|refine zr ?_|refine qP ?_|refine zK ?_|refine zP (by decide) ?_)
   | refine jS ?_
   | refine qw ?_
   | (with_reducible first|refine qO ?_|refine qG (h:=?_)|refine zp (h:=?_)|refine zk (h:=?_)|refine qp (h:=?_))
   | ((with_reducible refine z7 108 rfl ?_);refine qM (hF:=jI _ s) (h:=?_))
   | (refine qPO (hF:=qFr _ (by kernel_rfl) s (hn.kinds s hsm)) (h:=?_))
   | (with_reducible refine x_q (h:=?_))
   | refine qR (h1:=?_)|refine qg (h1:=?_)
   | fail)
  all_goals try clear fx
  refine qY (fun n st=>∃ j:Nat,n=s.reads.length - j∧j≤s.reads.length∧st.tm 2=.pt (.s 2) 0∧st.hp (.s 2)=some (.row 8 [jQ []])∧st.tm 3=.pt (.s 3) 0∧st.hp (.s 3)=some (.row 8 [jQ (zq (k.body.take i)++s.reads.take j)])∧st.tm 9=ssl k.body∧st.tm 10=iv k.body.length∧st.tm 11=iv i∧st.tm 17=.hs (.s 17) 1 0 s.reads.length∧st.hp (.s 17)=some (.row 1 (qJ s.reads))∧st.tm 18=iv s.reads.length∧st.tm 19=iv j) s.reads.length ?_ ?_
  ·exact⟨0,by simp,by simp,by simp [h2],by simp [hp2],by simp [h3],by simp [hp3],by simp [h9],by simp [h10],by simp [h11],by simp,by simp,by simp,by simp⟩
  clear h2 hp2 h3 hp3 h9 h10 h11
  rintro n st - - ⟨j,rfl,hj,h2,hp2,h3,hp3,h9,h10,h11,h17,hp17,h18,h19⟩
  have fx:=aI h17<|aI h18<|h19
  refine qB ?_
  clear fx
  refine ub (by simp [];first|done|rfl|exact (Bool.not_not _).symm) (fun ht=>?_) (fun hf=>?_)
  ·have hlj:j<s.reads.length:=by simpa using ht
   obtain⟨y,hy⟩:∃ y,s.reads[j]?=some y:=⟨_,gE hlj⟩
   have hto:=hn.reads s hsm y (gM hy)
   obtain⟨x,rfl⟩:∃ x:Nat,y=x:=⟨y.toNat,by omega⟩
   obtain⟨_,hye⟩:=gS hy
   have hx8:(x:Int)<8:=by omega
   clear ht
   have fx:=aI h17<|aI hp17<|aI h18<|aI h19<|aI hy<|aI hye<|aI hlj<|aI h3<|aI hp3<|hx8
   refine qB ?_
   clear fx
   refine⟨s.reads.length - (j+1),by omega,j+1,by simp,by omega,by simp [h2],by simp [hp2],by simp [h3],?_,by simp [h9],by simp [h10],by simp [h11],by simp [h17],by simp [hp17],by simp [h18],by simp;exact wrp (by omega) (by omega)⟩
   have hadd:=uE (l:=zq (k.body.take i)++s.reads.take j) (y:=(x:Int)) rfl (by omega:x<8)
   rw [List.take_add_one,hy]
   simp at hadd ⊢
   exact hadd
  ·have hge:j=s.reads.length:=by
    have:¬ j<s.reads.length:=by simpa using hf
    omega
   subst hge
   rw [List.take_length] at hp3
   have fx:= h11
   refine qB ?_
   clear fx
   refine⟨k.body.length - (i+1),by omega,i+1,by simp,by omega,by simp [h2],by simp [hp2],by simp [h3],?_,by simp [h9],by simp [h10],by simp;exact wrp (by omega) (by omega)⟩
   rw [List.take_add_one,hsi]
   simp [zq,hp3]
 ·have hge:i=k.body.length:=by
   have:¬ i<k.body.length:=by simpa using hf
   omega
  subst hge
  rw [List.take_length] at hp3
  have fx:=aI h2<|aI hp2<|aI h3<|hp3
  refine qB ?_
  clear fx
  refine qF [] .nil (by simp [h2];rfl) ?_
  simp [Blk.rd,uu]
abbrev qE6:Sch:=.q 0<|.q 1<|.q 2<|.q 3<|.q 5<|.q 7<|.q 9<|.l 4 [9,7,5,2,1,0]<|.l 6 [9,7,2,1,0]<|.l 8 [9,2,1,0]<|.l 10 [2,1,0]<|.q 11<|.l 12 []<|.l 13 []<|.done
theorem w6 (gl) (p:Prg) (hs:Sml p) (hh:z6 p) (hn:∀ k∈p,NmOk k):qV Tryz.prog gl 50 [pav p] (fun r y H'=>y=.hs r 1 0 p.length∧OwnS H' r p p.length):=by
 have hpl:=hs.len
 refine qV.of_sem Tryz.func50 rfl (by kernel_rfl) (rs:=[.tmp 2]) rfl Tryz.ntmps50 (lB rfl) fun C w g root=>?_
 have fx:=fx0
 refine qB ?_
 repeat ((first|refine wSc (id:=5) qE6 qA ?_);refine qC ?_;refine qB ?_)
 clear fx
 refine qY (fun n st=>∃ i:Nat,n=p.length - i∧i≤p.length∧st.tm 1=.pt (.s 1) 0∧st.hp (.s 1)=some (.row 1 [[ksl p]])∧st.tm 3=.hs (.s 3) 1 0 p.length∧st.tm 14=ksl p∧st.tm 15=iv p.length∧st.tm 16=iv i∧OwnS st.hp (.s 3) p i) p.length ?_ ?_
 ·refine⟨0,by simp,by simp,by simp,by simp,by simp,by simp,by simp,by simp,⟨?_,fun j k hj=>by omega⟩⟩
  rw [← qJR]
  simp [qFT]
 rintro n st - - ⟨i,rfl,hi,h1,hp1,h3,h14,h15,h16,⟨ho1,ho2⟩⟩
 have fx:=aI h14<|aI h15<|h16
 refine qB ?_
 repeat ((first|refine wSc (id:=5) qE6 qA ?_);refine qC ?_;refine qB ?_)
 clear fx
 refine ub (by simp [];first|done|rfl|exact (Bool.not_not _).symm) (fun ht=>?_) (fun hf=>?_)
 ·have hlt:i<p.length:=by simpa using ht
  obtain⟨k,hk⟩:∃ k,p[i]?=some k:=⟨_,gE hlt⟩
  have hkm:=gM hk
  obtain⟨hkp,hkb⟩:=hs.bsm hk
  clear ht
  all_goals have fx:=aI h14<|aI h15<|aI h16<|hk
  repeat' (first
   | refine qf ?_|refine qS ?_|refine q7 ?_|refine qj fun K hK=>?_
   | ((with_reducible refine qc hK ?_);clear hK K)
   | (with_reducible first|refine qD ?_|refine qb ?_|refine qu ?_|refine zr ?_|refine qP ?_|refine zK ?_|refine qCL ?_|refine zP (by decide) ?_)
   | refine jS ?_
   | refine qw ?_
   | (with_reducible first|refine qO ?_|refine qG (h:=?_)|refine zp (h:=?_)|refine zk (h:=?_)|refine qp (h:=?_)|refine jn (h:=?_)|refine qBy (h:=?_))
   | ((with_reducible refine z7 82 rfl ?_);refine qM (hF:=qJ5 _ k (hn k hkm) (hs.bsm hk)) (h:=?_))
   | ((with_reducible refine z7 83 rfl ?_);refine qM (hF:=qHj _ k (hn k hkm) (hs.bsm hk)) (h:=?_))
   | ((with_reducible refine z7 84 rfl ?_);refine qM (hF:=qDN _ k _ (hn k hkm) (hs.bsm hk)) (h:=?_))
   | (with_reducible refine x_q (h:=?_))
   | refine qR (h1:=?_)|refine qg (h1:=?_)
   | (refine wSc (id:=5) qE6 qA fun K hK=>?_)
   | ((with_reducible refine wL hK ?_);clear hK K)
   | ((with_reducible refine qDo ?_);first|refine qKR (h:=?_)|refine qDv (h:=?_)|refine qDw (h:=?_)|refine qDu (h:=?_))
   | ((with_reducible refine qDo ?_);refine qDx (h1:=fun ht=>?_) (h2:=fun ht=>?_))
   | refine a_l rfl ?_|refine qPE ?_ ?_|refine qPD ?_ ?_ ?_|(with_reducible refine aI ?_ ?_)|exact kJ|refine qBw (h2:=?_)
   | fail)
  all_goals try clear fx
  refine qY (fun n st=>∃ j:Nat,n=k.params.length - j∧j≤k.params.length∧st.tm 1=.pt (.s 1) 0∧st.hp (.s 1)=some (.row 1 [[ksl p]])∧st.tm 3=.hs (.s 3) 1 0 p.length∧st.tm 14=ksl p∧st.tm 15=iv p.length∧st.tm 16=iv i∧OwnS st.hp (.s 3) p i∧st.tm 4=iv i∧st.tm 5=.pt (.s 5) 0∧st.hp (.s 5)=some (.row 4 [k.cells])∧st.tm 6=.pt (.s 6) 0∧st.hp (.s 6)=some (.row 43 [qZ i k qFT (k.params.take j)])∧st.tm 35=isl k.params∧st.tm 36=iv k.params.length∧st.tm 37=iv j) k.params.length ?_ ?_
  ·refine⟨0,by simp,by simp,by simp [h1],by simp [hp1],by simp [h3],by simp [h14],by simp [h15],by simp [h16],⟨?_,fun j q hj hq=>?_⟩,by simp,by simp,by simp,by simp,?_,by simp,by simp,by simp⟩
   ·simp [ho1]
   ·simp [ho2 j q hj hq]
   ·simp [qZ,qFT]
    rfl
  clear h1 hp1 h3 h14 h15 h16 ho1 ho2
  rintro n st - - ⟨j,rfl,hj,h1,hp1,h3,h14,h15,h16,⟨ho1,ho2⟩,h4,h5,hp5,h6,hp6,h35,h36,h37⟩
  have fx:=aI h35<|aI h36<|h37
  refine qB ?_
  repeat ((first|refine wSc (id:=5) qE6 qA ?_);refine qC ?_;refine qB ?_)
  clear fx
  refine ub (by simp [];first|done|rfl|exact (Bool.not_not _).symm) (fun ht=>?_) (fun hf=>?_)
  ·have hlj:j<k.params.length:=by simpa using ht
   obtain⟨y,hy⟩:∃ y,k.params[j]?=some y:=⟨_,gE hlj⟩
   have hto:=(hn k hkm).params y (gM hy)
   obtain⟨x,rfl⟩:∃ x:Nat,y=x:=⟨y.toNat,by omega⟩
   have hx8:(x:Int)<8:=by omega
   clear ht
   have fx:=aI h35<|aI h36<|aI h37<|aI hy<|aI h6<|aI hp6<|hx8
   refine qB ?_
   repeat ((first|refine wSc (id:=5) qE6 qA ?_);refine qC ?_;refine qB ?_)
   clear fx
   refine⟨k.params.length - (j+1),by omega,j+1,by simp,by omega,by simp [h1],by simp [hp1],by simp [h3],by simp [h14],by simp [h15],by simp [h16],⟨?_,fun j q hj hq=>?_⟩,by simp [h4],by simp [h5],by simp [hp5],by simp [h6],?_,by simp [h35],by simp [h36],by simp;exact wrp (by omega) (by omega)⟩
   ·simp [ho1]
   ·simp [ho2 j q hj hq]
   ·rw [List.take_add_one,hy]
    simp [← qEL (y:=(x:Int)) rfl (by omega:x<8)]
  ·have hge:j=k.params.length:=by
    have:¬ j<k.params.length:=by simpa using hf
    omega
   subst hge
   rw [List.take_length] at hp6
   clear hf hj
   obtain⟨hq1,hq2,hq3⟩:=hh i k hk
   have fx:= h4
   refine qB ?_
   repeat ((first|refine wSc (id:=5) qE6 qA ?_);refine qC ?_;refine qB ?_)
   clear fx
   refine ub (by simp [];first|done|rfl|exact (Bool.not_not _).symm) (fun ht=>?_) (fun hf=>?_)
   ·have hi0:0<i:=by simpa using ht
    obtain⟨q,hq⟩:∃ q:Nat,k.parent=q:=⟨k.parent.toNat,by omega⟩
    have hqi:q<i:=by omega
    have hqp:q<p.length:=by omega
    have hsg:=uU (n:=.s 3) (i:=i) hqp
    rw [if_pos hqi] at hsg
    obtain⟨_,hse⟩:=gS hsg
    have fx:=aI h3<|aI ho1<|aI h4<|aI h5<|aI hp5<|aI h6<|aI hp6<|aI hq<|aI hsg<|aI hse<|aI hlt<|aI hqp<|aI hqi<|h16
    refine qB ?_
    repeat ((first|refine wSc (id:=5) qE6 qA ?_);refine qC ?_;refine qB ?_)
    clear fx
    refine⟨p.length - (i+1),by omega,i+1,rfl,by omega,by simp [h1],by simp [hp1],by simp [h3],by simp [h14],by simp [h15],by simp [h16];exact wrp (by omega) (by omega),⟨?_,fun j r hj hr=>?_⟩⟩
    ·simp [ho1,qFj]
    ·rcases Nat.lt_succ_iff_lt_or_eq.1 hj with hlj|rfl
     ·have hne:¬ j=i:=by omega
      have hrp:=(hh j r hr).2.1
      have ho:=qOJ (n:=.s 3) (a:=6) (i:=i) (q:=r.parent) (by simp) (by simp) (by omega)
      simp [ho2 j r hlj hr,hne,ho]
     ·rw [hk] at hr
      obtain rfl:=sI hr
      have hne:¬ q=j:=by omega
      have hso:=qEK (i:=j) (k:=k) (o:=qFT) (o':=.pt (.c (.s 3) q 0) 0) (ps:=k.params)
      simp [hq,qOI,hp6,hne,hso]
   ·have hi0:i=0:=by
     have:¬ 0<i:=by simpa using hf
     omega
    have fx:=aI h3<|aI ho1<|aI h4<|aI h6<|aI hp6<|aI hlt<|h16
    refine qB ?_
    repeat ((first|refine wSc (id:=5) qE6 qA ?_);refine qC ?_;refine qB ?_)
    clear fx
    refine⟨p.length - (i+1),by omega,i+1,rfl,by omega,by simp [h1],by simp [hp1],by simp [h3],by simp [h14],by simp [h15],by simp [h16];exact wrp (by omega) (by omega),⟨?_,fun j r hj hr=>?_⟩⟩
    ·simp [ho1,qFj]
    ·obtain rfl:j=i:=by omega
     rw [hk] at hr
     obtain rfl:=sI hr
     rw [qOH (by omega)]
     simp [hp6]
 ·have hge:i=p.length:=by
   have:¬ i<p.length:=by simpa using hf
   omega
  subst hge
  have fx:= h3
  refine qB ?_
  repeat ((first|refine wSc (id:=5) qE6 qA ?_);refine qC ?_;refine qB ?_)
  clear fx
  refine qF [(.s 2,root)] (.one rfl) (by simp;rfl) ⟨by simp,⟨?_,fun j r hj hr=>?_⟩⟩
  ·simp [ho1,qBo (n:=.s 2) (m:=root) (f:=zu noD [(.s 2,root)]) (by simp)]
  ·simp [ho2 j r hj hr,qC4 (n:=.s 2) (m:=root) (f:=zu noD [(.s 2,root)]) (by simp)]
end Go.Proofs.YtbgmnmnoaamgkaaGreatDoor
end
section
namespace Go.Proofs.YtbgmnmnoaamgkaaGreatDoor
open Go Go.Hm Go.Proofs
theorem wo (gl) (i:Nat) (k:Blk) (o:AV) (ps:List Int) (x:Nat) (hx:x<8):qV Tryz.prog gl 109 [.el (qZ i k o ps) 0,iv x] (fun _ y _=>y=bv (decide ((x:Int)∈k.dc 9)||decide ((x:Int)∈k.dc 10))):=by
 have h8:(x:Int)<8:=by omega
 have hg:=ky (i:=i) (k:=k) (o:=o) (ps:=ps) hx
 have hn:=qD1 (i:=i) (k:=k) (o:=o) (ps:=ps) hx
 refine qV.of_sem Tryz.func109 rfl (by kernel_rfl) (rs:=[.tmp 4]) rfl Tryz.ntmps109 (lB rfl) fun C w g root=>?_
 all_goals have fx:=aI h8<|aI hg<|hn
 repeat' (first
  | refine qf ?_|refine qj fun K hK=>?_
  | ((with_reducible refine qc hK ?_);clear hK K)
  | (with_reducible first|refine qD ?_)
  | refine qw ?_
  | (with_reducible refine qO ?_)
  | ((with_reducible refine vR ?_);refine q6 (h:=?_))
  | (with_reducible first|refine y7 ?_|refine qAC (h:=?_)|refine qG (h:=?_))
  | (with_reducible refine x_q (h:=?_))
  | (with_reducible refine kB (fun ht=>?_) (fun ht=>?_))
  | fail)
 all_goals try clear fx
 all_goals refine qF [] .nil (by simp;rfl) ?_
 all_goals simp_all
theorem vK (gl) (i:Nat) (k:Blk) (o:AV) (ps:List Int) (x:Nat) (hx:x<8):qV Tryz.prog gl 121 [.el (qZ i k o ps) 0,iv x] (fun _ y _=>y=bv (k.kind != 0&&decide ((x:Int)∈k.bd)&&!(decide ((x:Int)∈k.dc 9)||decide ((x:Int)∈k.dc 10)))):=by
 have h8:(x:Int)<8:=by omega
 have hb:=qD2 (i:=i) (k:=k) (o:=o) (ps:=ps) hx
 refine qV.of_sem Tryz.func121 rfl (by kernel_rfl) (rs:=[.tmp 4]) rfl Tryz.ntmps121 (lB rfl) fun C w g root=>?_
 all_goals have fx:=aI h8<|hb
 repeat' (first
  | refine qf ?_|refine qj fun K hK=>?_
  | ((with_reducible refine qc hK ?_);clear hK K)
  | (with_reducible first|refine qD ?_)
  | refine qw ?_
  | (with_reducible refine qO ?_)
  | ((with_reducible refine vR ?_);refine q6 (h:=?_))
  | (with_reducible first|refine jV ?_|refine uz (h:=?_)|refine qG (h:=?_))
  | ((with_reducible refine z7 109 rfl ?_);refine qM (hF:=wo _ _ _ _ _ _ hx) (h:=?_))
  | (with_reducible refine x_q (h:=?_))
  | (with_reducible refine kB (fun ht=>?_) (fun ht=>?_))
  | fail)
 all_goals try clear fx
 all_goals refine qF [] .nil (by simp;rfl) ?_
 all_goals simp_all
theorem qPt (gl) (i:Nat) (k:Blk) (o:AV) (ps:List Int) (x:Nat) (hx:x<8):qV Tryz.prog gl 80 [.el (qZ i k o ps) 0,iv x] (fun _ y _=>y=bv (decide ((x:Int)∈k.rd)||decide ((x:Int)∈k.bd)||(decide ((x:Int)∈k.dc 9)||decide ((x:Int)∈k.dc 10)))):=by
 have h8:(x:Int)<8:=by omega
 have hb:=qD2 (i:=i) (k:=k) (o:=o) (ps:=ps) hx
 have hr:=qJP (i:=i) (k:=k) (o:=o) (ps:=ps) hx
 refine qV.of_sem Tryz.func80 rfl (by kernel_rfl) (rs:=[.tmp 4]) rfl Tryz.ntmps80 (lB rfl) fun C w g root=>?_
 all_goals have fx:=aI h8<|aI hb<|hr
 repeat' (first
  | refine qf ?_|refine qj fun K hK=>?_
  | ((with_reducible refine qc hK ?_);clear hK K)
  | (with_reducible first|refine qD ?_)
  | refine qw ?_
  | (with_reducible refine qO ?_)
  | ((with_reducible refine vR ?_);refine q6 (h:=?_))
  | (with_reducible first|refine y7 ?_|refine qAC (h:=?_)|refine qG (h:=?_))
  | ((with_reducible refine z7 109 rfl ?_);refine qM (hF:=wo _ _ _ _ _ _ hx) (h:=?_))
  | (with_reducible refine x_q (h:=?_))
  | (with_reducible refine kB (fun ht=>?_) (fun ht=>?_))
  | fail)
 all_goals try clear fx
 all_goals refine qF [] .nil (by simp;rfl) ?_
 all_goals simp_all
end Go.Proofs.YtbgmnmnoaamgkaaGreatDoor
end
section
namespace Go.Proofs.YtbgmnmnoaamgkaaGreatDoor
open Go Go.Hm Go.Proofs Go.RowKit Go.Shelf
attribute [local go_sem] Oper.semAt_some
abbrev qPb (g:Gh) (w0:World) (p:Prg):={ a:Option Addr×Nat // ∃ q,p[a.2]?=some q∧q.kind=1∧RV g w0 (.pointer a.1) (zW p a.2) }
def lft (v:Value) (W:World):Nat:=match v with
 | .pointer (some a)=>(match W.cell? a with|some (.int _ j)=>j.toNat+1|_=>0)
 | _=>0
theorem qR5 (n l Bn:Nat) (p:Prg) (hh:z6 p) (g:Gh) (w0:World) (hC:∀ b,g.C b→b<w0.heap.size) (j0:Nat) (k0:Blk) (hk0:p[j0]?=some k0) (a0:Option Addr) (ha0:RV g w0 (.pointer a0) (zW p j0)) (J Jx:List (qPb g w0 p)→World→Prop) (hn:1≤n)
  (hY:∀ pre x W,J pre W→pre.length<p.length→YieldAt Fence.wide (n - 1) Tryz.prog l #[.pointer x.1.1] W fun e W' =>
    (e=.returned (.bool true)∧J (pre++[x]) W'∧Below w0.heap.size W W')∨(e=.returned (.bool false)∧Jx (pre++[x]) W'))
  (W:World) (hW:Below w0.heap.size w0 W) (hBn:W.cell? ⟨Bn,0,none⟩=some (.pointer a0)) (h0:J [] W) :
  CallsIn Fence.wide n Tryz.prog 168 #[.func (.yield l) #[] #[],.pointer (some ⟨Bn,0,none⟩)] W fun e W'=>(∃ v,e=.returned v) ∧
   ((∃ ys,(∃ j,j<0∧Path p k0.parent (ys.map (fun y:qPb g w0 p=>y.1.2)) j)∧J ys W')∨(∃ pre,(∃ j,Path p k0.parent (pre.map (fun y:qPb g w0 p=>y.1.2)) j)∧Jx pre W')):=by
 obtain⟨b0,o0,hb0,hs0⟩:=ha0.scAt hh hk0
 obtain rfl:a0=some ⟨b0,o0,none⟩:=by simpa using hb0
 obtain⟨a1,hc1,hr1⟩:=hs0.out
 have hc1':W.cell? ⟨b0,o0+2,none⟩=some (.pointer a1):=(hW.cell (p:=⟨b0,o0+2,none⟩) (hC b0 hs0.C)).trans hc1
 refine callsIn_of_wp Tryz.func168 rfl trivial ?_ rfl
 simp only [Tryz.ntmps168,List.size_toArray,List.length_cons,List.length_nil,Nat.reduceAdd,Nat.reduceSub,Array.replicate_succ,Array.replicate_zero,List.push_toArray,List.append_toArray,List.nil_append,List.cons_append]
 gi_wp2
 gi_loopw [3] (fun v wr=>∃ (pre:List (qPb g w0 p)) (j:Int),RV g w0 v (zW p j)∧(-1≤j∧j<p.length)∧Path p k0.parent (pre.map (fun y:qPb g w0 p=>y.1.2)) j∧J pre wr∧Below w0.heap.size w0 wr) (fun v wr=>lft v wr)
 case atStart =>
  have h1:=hh j0 k0 hk0
  have h2:=(gS hk0).1
  exact⟨[],k0.parent,hr1,by omega,.nil _,h0,hW⟩
 case round =>
  obtain⟨pre,j,hr,hj,hpath,hJ,hB⟩:=hrel
  by_cases hneg:j<0
  ·obtain rfl:=hr.scNil hneg
   gi_wp2
   go_end0
   exact⟨⟨_,rfl⟩,.inl ⟨pre,⟨j,hneg,hpath⟩,hJ⟩⟩
  ·obtain⟨j,rfl⟩:∃ i:Nat,j=i:=⟨j.toNat,by omega⟩
   obtain⟨k,hk⟩:∃ k,p[j]?=some k:=⟨_,gE (by omega)⟩
   obtain⟨b,o,rfl,hs⟩:=hr.scAt hh hk
   have hb:=hC b hs.C
   obtain⟨a2,hc2,hr2⟩:=hs.out
   obtain⟨hp1,hp2,_⟩:=hh j k hk
   have hv1:wr.cell? ⟨b,o+1,none⟩=some (.int .i64 k.kind):=(hB.cell (p:=⟨b,o+1,none⟩) hb).trans hs.kind
   have hv0:wr.cell? ⟨b,o,none⟩=some (.int .i64 j):=(hB.cell (p:=⟨b,o,none⟩) hb).trans hs.idx
   have hv2:wr.cell? ⟨b,o+2,none⟩=some (.pointer a2):=(hB.cell (p:=⟨b,o+2,none⟩) hb).trans hc2
   have hlf:∀ W',Below w0.heap.size w0 W'→lft (.pointer a2) W'<lft (.pointer (some ⟨b,o,none⟩)) wr:=by
    intro W' hB'
    have e:lft (.pointer (some ⟨b,o,none⟩)) wr=j+1:=by simp [lft,hv0]
    rw [e]
    by_cases hn:k.parent<0
    ·have:(Value.pointer a2)=.pointer none:=hr2.scNil hn
     obtain rfl:a2=none:=by simpa using this
     simp [lft]
    ·obtain⟨q,hq⟩:∃ q:Nat,k.parent=q:=⟨k.parent.toNat,by omega⟩
     obtain⟨r,hqr⟩:∃ r,p[q]?=some r:=⟨_,gE (by omega)⟩
     rw [hq] at hr2
     obtain⟨b',o',e',hs'⟩:=hr2.scAt hh hqr
     obtain rfl:a2=some ⟨b',o',none⟩:=by simpa using e'
     have hb':=hC b' hs'.C
     have:W'.cell? ⟨b',o',none⟩=some (.int .i64 q):=(hB'.cell (p:=⟨b',o',none⟩) hb').trans hs'.idx
     simp [lft,this]
     omega
   by_cases hk1:k.kind=1
   ·rw [hk1] at hv1
    have hlen:=hpath.len hh
    have hjj:=(gS hk0).1
    have hpp:=(hh j0 k0 hk0).2.1
    simp only [List.length_map] at hlen
    obtain⟨fn,tmps,assign,body,hy,hR⟩:=hY pre ⟨(some ⟨b,o,none⟩,j),k,hk,hk1,hr⟩ wr hJ (by omega)
    dsimp only at hy
    gi_wp2
    refine hR.mono ?_
    rintro e W3 (⟨rfl,hJ3,hk3⟩|⟨rfl,hJx3⟩)
    ·have hB3:=hB.trans hk3
     have hq3:W3.cell? ⟨b,o+2,none⟩=some (.pointer a2):=(hB3.cell (p:=⟨b,o+2,none⟩) hb).trans hc2
     gi_wp2
     go_roundw
     case rel=>exact⟨_,k.parent,hr2,by omega,by simpa using hpath.stepR hk hk1,hJ3,hB3⟩
     case measure=>exact hlf _ hB3
    ·gi_wp2
     refine bodyPost_ret (results_none rfl _ _ _) rfl ?_
     exact⟨⟨_,rfl⟩,.inr ⟨_,⟨k.parent,by simpa using hpath.stepR hk hk1⟩,hJx3⟩⟩
   ·have hk2:(k.kind==1)=false:=by simpa using hk1
    gi_wp2
    refine⟨fun _ h=>(by cases h),?_⟩
    gi_wp2
    go_roundw
    case rel=>exact⟨_,k.parent,hr2,by omega,hpath.skipR hk hk1,hJ,hB⟩
    case measure=>exact hlf _ hB
theorem qJn (n Bn:Nat) (p:Prg) (hh:z6 p) (g:Gh) (w0 w:World) (hC:∀ b,g.C b→b<w0.heap.size) (j0:Nat) (k0:Blk) (hk0:p[j0]?=some k0) (a0:Option Addr) (ha0:RV g w0 (.pointer a0) (zW p j0)) (hn:1≤n)
  (hw:Below w0.heap.size w0 w) (hBl:Bn<w.heap.size) (hc:w.cell? ⟨Bn,0,none⟩=some (.pointer a0)) :
  SeqStopsK Fence.wide n Tryz.prog 168 #[.pointer (some ⟨Bn,0,none⟩)] (fun x:qPb g w0 p=>#[Value.pointer x.1.1]) (Below w0.heap.size)
   (fun ys=>∃ j,j<0∧Path p k0.parent (ys.map (fun y:qPb g w0 p=>y.1.2)) j) (fun pre=>∃ j,Path p k0.parent (pre.map (fun y:qPb g w0 p=>y.1.2)) j) p.length w:=fun l J Jx W hW _ _ hY h0 =>
 qR5 n l Bn p hh g w0 hC j0 k0 hk0 a0 ha0 J Jx hn hY W (hw.trans (hW.mono hw.size)) ((hW.cell (p:=⟨Bn,0,none⟩) hBl).trans hc) h0
theorem wl (n:Nat) (a0:Option Addr) (w:World) :
  CallsIn Fence.wide n Tryz.prog 144 #[.pointer a0] w fun e w'=>e=.returned (.func (.func 168) #[] #[.pointer (some ⟨w.heap.size,0,none⟩)])∧w'=w.alloc (.cells #[.pointer a0] 125):=by
 refine callsIn_of_wp Tryz.func144 rfl trivial ?_ rfl
 simp only [Tryz.ntmps144,List.size_toArray,List.length_cons,List.length_nil,Nat.reduceAdd,Nat.reduceSub,Array.replicate_succ,Array.replicate_zero,List.push_toArray,List.append_toArray,List.nil_append,List.cons_append]
 gi_wp2
 go_ret
 exact⟨rfl,rfl⟩
end Go.Proofs.YtbgmnmnoaamgkaaGreatDoor
end
section
namespace Go.Proofs.YtbgmnmnoaamgkaaGreatDoor
open Go Go.Hm Go.Proofs Go.RowKit Go.Shelf
attribute [local go_sem] Oper.semAt_some
theorem qHg {W:World} {B:Nat} {v:Value} {t:TypeId} (h:W.heap[B]?=some (.cells #[v] t (0,0))):W.cell? ⟨B,0,none⟩=some v∧W.frozen? ⟨B,0,none⟩=false:=by
 constructor <;> simp [World.cell?,World.frozen?,h]
theorem qCw (W:World) (v:Value) (t:TypeId):(W.alloc (.cells #[v] t)).cell? ⟨W.heap.size,0,none⟩=some v∧(W.alloc (.cells #[v] t)).frozen? ⟨W.heap.size,0,none⟩=false:=qHg (World.alloc_heap_new W _)
theorem wu {W:World} {a:Addr} {v:Value} (o:Obj) (h:W.cell? a=some v):(W.alloc o).cell? a=some v:=cell_kept h (World.grownBy_alloc W o none) (fun r e=>by cases e)
theorem qEt {W:World} {a:Addr} {v:Value} (o:Obj) (h:W.cell? a=some v) (hf:W.frozen? a=false):(W.alloc o).frozen? a=false:=(frozen_kept h (World.grownBy_alloc W o none) (fun r e=>by cases e)).trans hf
theorem qE9 (n:Nat) (hn:3≤n) (p:Prg) (hh:z6 p) (hb0:∀ k,p[0]?=some k→k.kind≠1) (g:Gh) (w:World) (hC:∀ b,g.C b→b<w.heap.size) (i:Nat) (k:Blk) (hk:p[i]?=some k) (a0:Option Addr) (ha:RV g w (.pointer a0) (zW p i)) (x:Nat) (hx:x<8) :
  CallsIn Fence.wide n Tryz.prog 110 #[.pointer a0,.int .i64 x] w fun e W'=>e=.returned (.int .i64 (zF p x p.length k.parent))∧Below w.heap.size w W':=by
 have h1:1≤n:=by omega
 refine callsIn_of_wp_marks Tryz.func110 rfl trivial ?_ rfl
 simp only [Tryz.ntmps110,List.size_toArray,List.length_cons,List.length_nil,Nat.reduceAdd,Nat.reduceSub,Array.replicate_succ,Array.replicate_zero,List.push_toArray,List.append_toArray,List.nil_append,List.cons_append]
 gi_wp2_with (refine⟨trivial,?_⟩;gi_at_call 144;refine (wl (n - 1) _ _).mono ?_;rintro e w' ⟨rfl,rfl⟩)
 have c0:=qCw w (.int .i64 x) 3
 have c1:=qCw (w.alloc (.cells #[.int .i64 x] 3)) (.int .i64 0) 3
 have c2:=qCw ((w.alloc (.cells #[.int .i64 x] 3)).alloc (.cells #[.int .i64 0] 3)) (.pointer a0) 125
 simp only [World.size_alloc] at c1 c2
 have hB0:Below w.heap.size w (((w.alloc (.cells #[.int .i64 x] 3)).alloc (.cells #[.int .i64 0] 3)).alloc (.cells #[.pointer a0] 125)):=(((Below.refl _ w).alloc (Nat.le_refl _) _).alloc (by simp) _).alloc (by simp;omega) _
 refine wpIn_rangeFunc_ownF rfl h1 (gf:=168) (lb:=#[.pointer (some ⟨w.heap.size+1+1,0,none⟩)]) rfl trivial (enters_of Tryz.func168 (by kernel_rfl) rfl)
  (qJn (n - 1) (w.heap.size+1+1) p hh g w _ hC i k hk a0 ha (by omega) hB0 (by simp) c2.1) belowK_t (belowK_b (by simp;omega)) (Below.refl _ _) (fun _=>rfl)
  (fun pre W=>((∀ y∈pre,found p x y.1.2=none)∧W.cell? ⟨w.heap.size,0,none⟩=some (.int .i64 x)∧W.cell? ⟨w.heap.size+1,0,none⟩=some (.int .i64 0)∧W.frozen? ⟨w.heap.size+1,0,none⟩=false)∧Below w.heap.size w W)
  (fun c pre W=>(c=.ret∧(∃ l y r,pre=l++[y]∧(∀ y∈l,found p x y.1.2=none)∧found p x y.1.2=some r∧W.cell? ⟨w.heap.size+1,0,none⟩=some (.int .i64 r)))∧Below w.heap.size w W)
  (OwnFrom.and (Own.from (fun s A B row hs hg hr=>⟨hs.1,cell_kept hs.2.1 hg hr,cell_kept hs.2.2.1 hg hr,(frozen_kept hs.2.2.1 hg hr).trans hs.2.2.2⟩) _) (ownFrom_below (Nat.le_refl _) (by simp;omega)))
  (fun c=>OwnFrom.and (Own.from (fun s A B row hs hg hr=>⟨hs.1,by obtain⟨l,y,r,e1,e2,e3,e4⟩:=hs.2;exact⟨l,y,r,e1,e2,e3,cell_kept e4 hg hr⟩⟩) _) (ownFrom_below (Nat.le_refl _) (by simp;omega)))
  ⟨⟨by simp,wu _ (wu _ c0.1),wu _ c1.1,qEt _ c1.1 c1.2⟩,hB0⟩
  (fun y=>{ tmps:=#[.pointer a0,.int .i64 x,undef,.pointer (some ⟨w.heap.size,0,none⟩),.pointer (some ⟨w.heap.size+1,0,none⟩),.pointer y.1.1,.pointer a0,.func (.func 168) #[] #[.pointer (some ⟨w.heap.size+1+1,0,none⟩)],.pointer y.1.1,undef,undef,undef,undef,undef,undef,undef,undef,undef,undef,undef,undef,undef],defers:=[] }) ?assign ?body ?done ?stop
 case assign =>
  intro l y W K hK
  gi_wp2
  exact hK
 case body =>
  rintro l pre ⟨⟨ay,j⟩,q,hq,hq1,hr⟩ W ⟨⟨hp,hcx,hcr,hfr⟩,hB⟩ _
  dsimp only at hq hr ⊢
  obtain⟨b,o,rfl,hs⟩:∃ b o,ay=some ⟨b,o,none⟩∧ScAt g w p j q b o:=by
   obtain⟨b,o,e,h⟩:=hr.scAt hh hq
   exact⟨b,o,by simpa using e,h⟩
  have hb:=hC b hs.C
  have hg:W.cell? ⟨b,o+(27+x),none⟩=some (.bool (decide ((x:Int)∈q.dc 9))):=(hB.cell (p:=⟨b,o+(27+x),none⟩) hb).trans (hs.glob x hx)
  have hidx:W.cell? ⟨b,o,none⟩=some (.int .i64 j):=(hB.cell (p:=⟨b,o,none⟩) hb).trans hs.idx
  have h8:(x:Int)<8:=by omega
  have hg2:W.cell? ⟨b,o+27+x,none⟩=some (.bool (decide ((x:Int)∈q.dc 9))):=by rw [Nat.add_assoc];exact hg
  have hmx:Tryz.prog.follows .mixedOrders=true:=by kernel_rfl
  have hj0:0<j:=by
   rcases Nat.eq_zero_or_pos j with rfl|h
   ·exact absurd hq1 (hb0 q hq)
   ·exact h
  have hcall:∀ W',Below w.heap.size w W'→Calls Tryz.prog 121 #[.pointer (some ⟨b,o,none⟩),.int .i64 x] W' fun e W''=>e=.returned (.bool (zZ j q x))∧Below W'.heap.size W' W'':=by
   intro W' hB'
   have hF:=vK (fun _=>none) j q (zW p q.parent) q.params x hx
   have e:(q.kind != 0&&decide ((x:Int)∈q.bd)&&!(decide ((x:Int)∈q.dc 9)||decide ((x:Int)∈q.dc 10)))=zZ j q x:=by
    simp [zZ,hq1,hj0,Bool.and_assoc]
   rw [e] at hF
   refine qV.raw hF (g:=g) (fun b hb=>Nat.lt_of_lt_of_le (hC b hb) hB'.size) rfl ?_
   intro a v y hv hy
   match a,hv,hy with
   | 0,hv,hy =>
    obtain rfl:=sI hv
    obtain rfl:=sI hy
    have:=hr.keepB hC hB'
    rwa [jG hh hq] at this
   | 1,hv,hy =>
    obtain rfl:=sI hv
    obtain rfl:=sI hy
    exact .sc _
   | a+2,hv,_=>simp at hv
  have hBd:Below w.heap.size w W.drew:=⟨hB.os,hB.tape,hB.output,hB.size,hB.block⟩
  have hbW:b<W.drew.heap.size:=Nat.lt_of_lt_of_le hb hB.size
  have hrW:w.heap.size+1<W.drew.heap.size:=by
   refine Nat.lt_of_not_le fun hge=>?_
   have:W.heap[w.heap.size+1]?=none:=Array.getElem?_eq_none hge
   simp [World.cell?,this] at hcr
  have hko:∀ w3,Below W.drew.heap.size W.drew w3→KeepsOthers W w3:=fun w3 h=>⟨h.size,fun k o hk _=>(h.block k (Array.getElem?_eq_some_iff.1 hk).1).trans hk⟩
  have hfd:found p x j=if (x:Int)∈q.dc 9 then some (-1) else if zZ j q x then some (j:Int) else none:=by simp only [found,hq]
  by_cases hm:(x:Int)∈q.dc 9
  ·rw [decide_eq_true hm] at hg hg2
   rw [if_pos hm] at hfd
   gi_wp2
   gi_region_o
   all_goals gi_wp2
   all_goals exact⟨(KeepsOthers.drew W).trans (KeepsOthers.setCell _ _ _),⟨rfl,pre,⟨(some ⟨b,o,none⟩,j),q,hq,hq1,hr⟩,-1,rfl,hp,hfd,World.cell?_setCell_same' _ _ _ (by rw [hcr];rfl)⟩,hBd.setCell (p:=⟨w.heap.size+1,0,none⟩) (by simp) _⟩
  ·rw [decide_eq_false hm] at hg hg2
   rw [if_neg hm] at hfd
   cases hl:zZ j q x with
   | true =>
    rw [hl] at hcall
    rw [if_pos hl] at hfd
    gi_wp2
    gi_region_o
    all_goals gi_wp2_with (refine⟨trivial,fun _=>by omega,?_⟩;refine (CallsIn.inRound l (callsIn_wide.2 (hcall _ hBd))).mono ?_;rintro e w3 ⟨rfl,hbw⟩;have hi3:=(hbw.cell (p:=⟨b,o,none⟩) hbW).trans hidx;have hc3:=(hbw.cell (p:=⟨w.heap.size+1,0,none⟩) hrW).trans hcr;have hf3:=(hbw.frozen (p:=⟨w.heap.size+1,0,none⟩) hrW).trans hfr)
    all_goals exact⟨(hko _ (by assumption)).trans (KeepsOthers.setCell _ _ _),⟨rfl,pre,⟨(some ⟨b,o,none⟩,j),q,hq,hq1,hr⟩,(j:Int),rfl,hp,hfd,World.cell?_setCell_same' _ _ _ (by rw [hc3];rfl)⟩,(hBd.trans (Below.mono (by assumption) hBd.size)).setCell (p:=⟨w.heap.size+1,0,none⟩) (by simp) _⟩
   | false =>
    rw [hl] at hcall
    rw [if_neg (by rw [hl];decide)] at hfd
    gi_wp2
    gi_region_o
    all_goals gi_wp2_with (refine⟨trivial,fun _=>by omega,?_⟩;refine (CallsIn.inRound l (callsIn_wide.2 (hcall _ hBd))).mono ?_;rintro e w3 ⟨rfl,hbw⟩)
    all_goals
     have hWw:Below W.drew.heap.size W.drew w3:=by assumption
     have hB3:Below w.heap.size W.drew w3:=hWw.mono hBd.size
     have hBW:Below w.heap.size W w3:=⟨hB3.os,hB3.tape,hB3.output,hB3.size,hB3.block⟩
     have hsW:w.heap.size<W.drew.heap.size:=Nat.lt_of_succ_lt hrW
     refine⟨hko _ hWw,hBW,⟨fun y hy=>?_,(hWw.cell (p:=⟨w.heap.size,0,none⟩) hsW).trans hcx,(hWw.cell (p:=⟨w.heap.size+1,0,none⟩) hrW).trans hcr,(hWw.frozen (p:=⟨w.heap.size+1,0,none⟩) hrW).trans hfr⟩,hB.trans hBW⟩
     rcases List.mem_append.1 hy with hy|hy
     ·exact hp y hy
     ·obtain rfl:=List.mem_singleton.1 hy
      exact hfd
 case done =>
  rintro D ys W hD ⟨je,hneg,hpath⟩ ⟨⟨hne,_,hcr,hfr⟩,hB⟩ hK
  gi_wp2
  have hK':=(KeepsOthers.setCell W ⟨w.heap.size+1,0,none⟩ (.int .i64 (-1))).same D _ hK rfl
  refine⟨by simp,.inl ⟨_,_,rfl,run_takeDeferred hK',?_⟩⟩
  have hc5:=cell_kept (World.cell?_setCell_same' W ⟨w.heap.size+1,0,none⟩ (.int .i64 (-1)) (by rw [hcr];rfl)) (grownBy_putObj' _ D (.deferred none)) (fun r e=>by cases e;exact⟨_,hK',rfl⟩)
  have hout:zF p x p.length k.parent=-1:=by
   rw [hpath.outer hh hb0 (x:=x) (fun y hy=>by obtain⟨z,hz,rfl⟩:=List.mem_map.1 hy;exact hne z hz),yp (by omega)]
  refine⟨.int .i64 (-1),?_,by rw [hout],(hB.setCell (p:=⟨w.heap.size+1,0,none⟩) (by simp) _).trans (belowK_b (w:=w) (Nat.le_refl _) _ D _ _ (by simp at hD;omega) hK' rfl rfl)⟩
  simp [results,Tryz.f110,go_sem,hc5]
 case stop =>
  rintro D c pre W hD ⟨je,hpath⟩ ⟨⟨rfl,l,y,r,rfl,hno,hf,hcr⟩,hB⟩ hK
  gi_wp2
  refine⟨by simp,.inl ⟨_,_,rfl,run_takeDeferred hK,?_⟩⟩
  have hc5:=cell_kept hcr (grownBy_putObj' _ D (.deferred none)) (fun r e=>by cases e;exact⟨_,hK,rfl⟩)
  have hout:zF p x p.length k.parent=r:=by
   rw [List.map_append,List.map_singleton] at hpath
   exact Path.found hh hpath hb0 (fun y hy=>by obtain⟨z,hz,rfl⟩:=List.mem_map.1 hy;exact hno z hz) hf
  refine⟨.int .i64 r,?_,by rw [hout],hB.trans (belowK_b (w:=w) (Nat.le_refl _) W D _ _ (by simp at hD;omega) hK rfl rfl)⟩
  simp [results,Tryz.f110,go_sem,hc5]
theorem qEa (gl) (p:Prg) (hh:z6 p) (hb0:∀ k,p[0]?=some k→k.kind≠1) (i:Nat) (k:Blk) (hk:p[i]?=some k) (x:Nat) (hx:x<8) :
  qV Tryz.prog gl 110 [zW p i,iv x] (fun _ y _=>y=iv (outer p i x)):=by
 refine qV.of_raw ⟨_,Tryz.func110,by kernel_rfl,by kernel_rfl⟩ fun w g args hC hsz hargs=>?_
 rw [jv hh hk]
 obtain⟨v0,v1,rfl⟩:∃ v0 v1,args=#[v0,v1]:=by
  refine⟨args[0]'(by simp at hsz;omega),args[1]'(by simp at hsz;omega),?_⟩
  apply Array.ext
  ·simpa using hsz
  ·intro i h1 h2
   match i with
   | 0=>rfl
   | 1=>rfl
   | i+2=>simp at hsz;omega
 have h0:=hargs 0 v0 _ rfl rfl
 have h1:=hargs 1 v1 _ rfl rfl
 obtain⟨a0,rfl⟩:=h0.ptr
 obtain rfl:=h1.sc_eq
 exact callsIn_wide.1 (qE9 3 (Nat.le_refl _) p hh hb0 g w hC i k hk a0 h0 x hx)
end Go.Proofs.YtbgmnmnoaamgkaaGreatDoor
end
section
namespace Go.Proofs.YtbgmnmnoaamgkaaGreatDoor
open Go Go.Hm Go.Proofs
abbrev qM6 (p:Prg) (i:Nat) (k:Blk):AV:=.el (qZ i k (zW p k.parent) k.params) 0
theorem wP (gl) (p:Prg) (hp:ShapeP p) (i:Nat) (k:Blk) (hk:p[i]?=some k) (x:Nat) (hx:x<8):qV Tryz.prog gl 110 [qM6 p i k,iv x] (fun _ y _=>y=iv (outer p i x)):=by
 have:=qEa gl p hp.heads hp.fun0 i k hk x hx
 rwa [jG hp.heads hk] at this
theorem zd (gl) (p:Prg) (hp:ShapeP p) (i:Nat) (k:Blk) (hk:p[i]?=some k) (x:Nat) (hx:x<8):qV Tryz.prog gl 81 [qM6 p i k,iv x] (fun _ y _=>y=iv (qz p i x)):=by
 have h8:(x:Int)<8:=by omega
 have hg:=ky (i:=i) (k:=k) (o:=zW p k.parent) (ps:=k.params) hx
 have hk0:=hp.kind0 hk
 refine qV.of_sem Tryz.func81 rfl (by kernel_rfl) (rs:=[.tmp 4]) rfl Tryz.ntmps81 (lB rfl) fun C w g root=>?_
 all_goals have fx:=aI h8<|hg
 repeat' (first
  | refine qf ?_|refine q7 ?_|refine qj fun K hK=>?_
  | ((with_reducible refine qc hK ?_);clear hK K)
  | (with_reducible first|refine qD ?_|refine qP ?_)
  | refine qw ?_
  | (with_reducible refine qO ?_)
  | ((with_reducible refine vR ?_);refine q6 (h:=?_))
  | (with_reducible first|refine y7 ?_|refine qAC (h:=?_)|refine qG (h:=?_))
  | ((with_reducible refine z7 121 rfl ?_);refine qM (hF:=vK _ _ _ _ _ _ hx) (h:=?_))
  | ((with_reducible refine z7 110 rfl ?_);refine qM (hF:=wP _ p hp i k hk x hx) (h:=?_))
  | (with_reducible refine x_q (h:=?_))
  | (with_reducible refine kB (fun ht=>?_) (fun ht=>?_))
  | refine qR (h1:=?_)
  | refine qAF (h1:=fun ht=>?_) (h2:=fun ht=>?_)
  | fail)
 all_goals try clear fx
 all_goals refine qF [] .nil (by simp;rfl) ?_
 all_goals simp_all [qz,zZ]
 all_goals grind
theorem wF (gl) (p:Prg) (hp:ShapeP p) (i:Nat) (k:Blk) (hk:p[i]?=some k):qV Tryz.prog gl 72 [qM6 p i k] (fun _ y _=>y=bv (jt p i)):=by
 have hdo:jt p i=(List.range 8).all (fun x=>yk p i k (x:Int)):=by simp only [jt,hk]
 rw [hdo]
 refine qV.of_sem Tryz.func72 rfl (by kernel_rfl) (rs:=[.tmp 2]) rfl Tryz.ntmps72 (lB rfl) fun C w g root=>?_
 have fx:=fx0
 refine qB ?_
 clear fx
 refine qY (fun n st=>∃ x:Nat,n=8 - x∧x≤8∧st.tm 0=qM6 p i k∧st.tm 4=iv x∧(List.range x).all (fun x=>yk p i k (x:Int))=true) 8 ⟨0,by simp⟩ ?_
 rintro n st - - ⟨x,rfl,hx,h0,h4,hal⟩
 have fx:=aI h0<|h4
 refine qB ?_
 clear fx
 refine ub (by simp [];first|done|rfl|exact (Bool.not_not _).symm) (fun ht=>?_) (fun hf=>?_)
 ·have h8:(x:Int)<8:=by simpa using ht
  have hx8:x<8:=by omega
  have hg:=ky (i:=i) (k:=k) (o:=zW p k.parent) (ps:=k.params) hx8
  have hn:=qD1 (i:=i) (k:=k) (o:=zW p k.parent) (ps:=k.params) hx8
  have hq:=qJQ (i:=i) (k:=k) (o:=zW p k.parent) (ps:=k.params) hx8
  have hge:=qOG (p:=p) (b:=i) (x:=x)
  have fin:yk p i k x=false→(List.range 8).all (fun x=>yk p i k (x:Int))=false:=fun h=>j4 hx8 h
  have nxt:yk p i k x=true→(List.range (x+1)).all (fun x=>yk p i k (x:Int))=true:=fun h=>by rw [zw,hal,h];rfl
  clear ht hal
  all_goals have fx:=aI h0<|aI h4<|aI h8<|aI hg<|aI hn<|hq
  repeat' (first
   | refine qf ?_|refine qS ?_|refine q7 ?_|refine qj fun K hK=>?_
   | ((with_reducible refine qc hK ?_);clear hK K)
   | (with_reducible first|refine qD ?_|refine qb ?_|refine qu ?_|refine zr ?_|refine qP ?_|refine zK ?_|refine zP (by decide) ?_)
   | refine jS ?_
   | refine qw ?_
   | (with_reducible refine qO ?_)
   | ((with_reducible refine vR ?_);refine q6 (h:=?_))
   | (with_reducible first|refine jV ?_|refine y7 ?_|refine uz (h:=?_)|refine qAC (h:=?_)|refine x_u (h:=?_)|refine qG (h:=?_))
   | ((with_reducible refine z7 109 rfl ?_);refine qM (hF:=wo _ _ _ _ _ _ hx8) (h:=?_))
   | ((with_reducible refine z7 110 rfl ?_);refine qM (hF:=wP _ p hp i k hk x hx8) (h:=?_))
   | (with_reducible refine x_q (h:=?_))
   | (with_reducible refine kB (fun ht=>?_) (fun ht=>?_))
   | refine qR (h1:=?_)|refine qg (h1:=?_)
   | refine qAF (h1:=fun ht=>?_) (h2:=fun ht=>?_)
   | fail)
  all_goals try clear fx
  all_goals clear hg hn hq
  all_goals first
   | (refine qF [] .nil (by simp;rfl) ?_
      rw [fin (by simp only [yk];simp_all;done)]
      rfl)
   | (refine⟨8 - (x+1),by omega,x+1,rfl,by omega,by simp [h0],by simp;exact wrp (by omega) (by omega),nxt ?_⟩
      simp only [yk]
      simp_all
      try omega)
 ·have hge:x=8:=by
   have:¬ (x:Int)<8:=by simpa using hf
   omega
  subst hge
  have fx:=fx0
  refine qB ?_
  clear fx
  refine qF [] .nil (by simp [];rfl) (by simp [hal])
end Go.Proofs.YtbgmnmnoaamgkaaGreatDoor
end
