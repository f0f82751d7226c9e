/-
  Own texts, joined by mkclaim.py: Hd, He, Hf, Hg, Hh.
-/
import Derived.Test.YtbgmnmnoaamgkaaGreatDoorC25
import Derived.Test.YtbgmnmnoaamgkaaGreatDoorC09
import Derived.Test.YtbgmnmnoaamgkaaGreatDoorC12
import Derived.RangeFuncFrom
import Derived.RangeFuncNested
import Derived.RangeFuncBound
import Derived.RangeFuncCalls
import Derived.RangeFuncLeaves
import Derived.Shelf.Abstract
import Derived.Shelf.RegionOpen
import Derived.WalkKit
import Derived.OwnWalkIn
import Derived.TacticsInMore
import Derived.LoopNIn
import Derived.LoopIn
set_option linter.unusedSimpArgs false
set_option linter.unusedVariables false
set_option maxRecDepth 100000
set_option maxHeartbeats 4000000

section
namespace Go.Proofs.YtbgmnmnoaamgkaaGreatDoor
open Go Go.Hm Go.Proofs
theorem qNj {s:Stm} (h:s.kind=3∨s.kind=4):∃ d,qF1 Tryz.prog 168 (zh s)=some (.tup [.agg [iv d,iv s.a],bv true]):=by
 obtain⟨n,to,a,b⟩:=s
 rcases h with h|h
 ·simp only at h
  subst h
  exact⟨1,by simp⟩
 ·simp only at h
  subst h
  exact⟨2,by simp⟩
theorem qUC {s:Stm} (h:¬ (s.kind=3∨s.kind=4)):qF1 Tryz.prog 168 (zh s)=some (.tup [.agg [iv 0,iv 0],bv false]):=by
 simp only [not_or] at h
 obtain⟨h3,h4⟩:=h
 unfold zh
 rw [if_neg h3,if_neg h4]
 repeat' split
 all_goals simp
theorem uK (gl) (p:Prg) (hs:Sml p):qW Tryz.prog gl 71 [pav p] (fun _ y _=>y=bv (j2 p)):=by
 have hpl:=hs.len
 refine qW.of_sem Tryz.func71 rfl (by kernel_rfl) (rs:=[.tmp 2]) rfl Tryz.ntmps71 (lB rfl) fun C w g root=>?_
 all_goals have fx:=fx0
 repeat' (first
  | refine qN ?_|refine qJ ?_|refine qR ?_|refine qM fun K hK=>?_
  | ((with_reducible refine qK hK ?_);clear hK K)
  | (with_reducible first|refine qC ?_|refine qP ?_|refine qd ?_|refine zD ?_|refine qI ?_|refine qc ?_|refine ql (by decide) ?_)
  | refine qn ?_
  | refine qX ?_
  | (with_reducible refine qG ?_)
  | ((with_reducible refine yV ?_);refine q6 (h:=?_))
  | (with_reducible first|refine ze ?_|refine jE ?_|refine vG (h:=?_)|refine vj (h:=?_)|refine x_u (h:=?_)|refine qE (h:=?_)|refine zG (h:=?_)|refine qg (h:=?_)|refine qU (h:=?_)|refine jY (h:=?_))
  | (with_reducible refine x_q (h:=?_))
  | (with_reducible refine vC (fun ht=>?_) (fun ht=>?_))
  | refine qO (h1:=?_)|refine qS (h1:=?_)
  | refine uk (h1:=fun ht=>?_) (h2:=fun ht=>?_)
  | fail)
 all_goals try clear fx
 ·refine qH [] .nil (by simp;rfl) ?_
  have hno:(decide (1≤p.length)&&decide (p.length≤7))=false:=by
   rw [Bool.eq_false_iff]
   intro h
   simp at h ht
   omega
  simp only [j2,hno]
  rfl
 ·refine qH [] .nil (by simp;rfl) ?_
  have hno:(decide (1≤p.length)&&decide (p.length≤7))=false:=by
   rw [Bool.eq_false_iff]
   intro h
   simp at h ht
   omega
  simp only [j2,hno]
  rfl
 rename_i ht1
 have hyes:1≤p.length∧p.length≤7:=by
  simp at ht ht1
  omega
 clear ht ht1
 refine q7 (fun n st=>∃ i:Nat,n=p.length - i∧i≤p.length∧st.tm 1=.pt (.s 1) 0∧st.hp (.s 1)=some (.row 1 [[ksl p]])∧st.tm 24=ksl p∧st.tm 25=iv p.length∧st.tm 26=iv i∧∀ (j:Nat) q,j<i→p[j]?=some q→vO j q=true∧q.body.length≤12) p.length ?_ ?_
 ·exact⟨0,by simp⟩
 rintro n st - - ⟨i,rfl,hi,h1,hp1,h24,h25,h26,hal⟩
 have fx:=aI h1<|aI hp1<|aI h24<|aI h25<|h26
 refine qB ?_
 clear fx
 refine vk (by simp [];first|done|rfl|exact (Bool.not_not _).symm) (fun ht=>?_) (fun hf=>?_)
 ·have hlt:i<p.length:=by simpa using ht
  obtain⟨k,hk⟩:∃ k,p[i]?=some k:=⟨_,gE hlt⟩
  have fin:(vO i k=true→¬ k.body.length≤12)→j2 p=false:=fun h=>by
   have:kL p i=false:=by
    simp only [kL,hk,Bool.and_eq_false_iff,decide_eq_false_iff_not]
    cases hh:vO i k with
    | false=>exact .inl (.inl rfl)
    | true=>exact .inl (.inr (h hh))
   simp only [j2,j4 hlt this,Bool.and_false,Bool.false_and]
  have hbl:=(hs.bsm hk).body
  clear ht
  all_goals have fx:=aI h1<|aI hp1<|aI h24<|aI h25<|aI h26<|hk
  repeat' (first
   | refine qN ?_|refine qJ ?_|refine qR ?_|refine qM fun K hK=>?_
   | ((with_reducible refine qK hK ?_);clear hK K)
   | (with_reducible first|refine qC ?_|refine qP ?_|refine qd ?_|refine zD ?_|refine qI ?_|refine qc ?_|refine ql (by decide) ?_)
   | refine qn ?_
   | refine qX ?_
   | (with_reducible refine qG ?_)
   | ((with_reducible refine yV ?_);refine q6 (h:=?_))
   | (with_reducible first|refine ze ?_|refine jE ?_|refine vG (h:=?_)|refine vj (h:=?_)|refine x_u (h:=?_)|refine qE (h:=?_)|refine zG (h:=?_)|refine qg (h:=?_)|refine qU (h:=?_)|refine jY (h:=?_))
   | ((with_reducible refine qv 106 rfl ?_);refine qL (hF:=qH4 _ i k) (h:=?_))
   | (with_reducible refine x_q (h:=?_))
   | (with_reducible refine vC (fun ht=>?_) (fun ht=>?_))
   | refine qO (h1:=?_)|refine qS (h1:=?_)
   | refine uk (h1:=fun ht=>?_) (h2:=fun ht=>?_)
   | fail)
  all_goals try clear fx
  ·refine qH [] .nil (by simp;rfl) ?_
   rw [fin (fun h=>by simp [h] at ht)]
   rfl
  ·refine qH [] .nil (by simp;rfl) ?_
   rw [fin (fun _ h=>by simp at ht;omega)]
   rfl
  ·rename_i ht1
   refine⟨p.length - (i+1),by omega,i+1,rfl,by omega,by simp [h1],by simp [hp1],by simp [h24],by simp [h25],by simp;exact wrp (by omega) (by omega),fun j q hj hq=>?_⟩
   rcases Nat.lt_succ_iff_lt_or_eq.1 hj with h|rfl
   ·exact hal j q h hq
   ·rw [hk] at hq
    obtain rfl:=sI hq
    refine⟨by simpa using ht1,?_⟩
    simp at ht
    omega
 have hge:i=p.length:=by
  have:¬ i<p.length:=by simpa using hf
  omega
 subst hge
 clear hf hi
 have hal':∀ (j:Nat) q,p[j]?=some q→jL j q∧q.body.length≤12:=fun j q hq=>by
  obtain⟨h1,h2⟩:=hal j q (gS hq).1 hq
  exact⟨by simpa only [vO,decide_eq_true_eq] using h1,h2⟩
 clear hal
 have hh:zj p:=fun j q hq=>(hal' j q hq).1.head
 have hb12:∀ q∈p,q.body.length≤12:=fun q hq=>by
  obtain⟨j,hj⟩:=List.getElem?_of_mem hq
  exact (hal' j q hj).2
 have fx:=aI h1<|hp1
 refine qB ?_
 clear fx
 refine q7 (fun n st=>∃ i:Nat,n=p.length - i∧i≤p.length∧st.tm 1=.pt (.s 1) 0∧st.hp (.s 1)=some (.row 1 [[ksl p]])∧st.tm 5=.pt (.s 5) 0∧st.hp (.s 5)=some (.row 7 [(ua p [] i).map iv])∧st.tm 43=ksl p∧st.tm 44=iv p.length∧st.tm 45=iv i∧(List.range i).all (kL p)=true) p.length ?_ ?_
 ·refine⟨0,by simp,by simp,by simp [h1],by simp [hp1],by simp,?_,by simp,by simp,by simp,by simp⟩
  simp [ua,kh,mkN]
  rfl
 clear h1 hp1 h24 h25 h26
 rintro n st - - ⟨i,rfl,hi,h1,hp1,h5,hp5,h43,h44,h45,hal⟩
 have fx:=aI h1<|aI hp1<|aI h43<|aI h44<|h45
 refine qB ?_
 clear fx
 refine vk (by simp [];first|done|rfl|exact (Bool.not_not _).symm) (fun ht=>?_) (fun hf=>?_)
 ·have hlt:i<p.length:=by simpa using ht
  obtain⟨k,hk⟩:∃ k,p[i]?=some k:=⟨_,gE hlt⟩
  have hbf:kL p i=(vO i k&&decide (k.body.length≤12)&&k.body.all (zt p i k)):=by simp only [kL,hk]
  obtain⟨hhd,hbd⟩:=hal' i k hk
  have hhd':vO i k=true:=by simpa only [vO,decide_eq_true_eq] using hhd
  clear ht
  have fx:=aI h1<|aI hp1<|aI h43<|aI h44<|aI h45<|hk
  refine qB ?_
  clear fx
  refine q7 (fun n st=>∃ j:Nat,n=k.body.length - j∧j≤k.body.length∧st.tm 1=.pt (.s 1) 0∧st.hp (.s 1)=some (.row 1 [[ksl p]])∧st.tm 5=.pt (.s 5) 0∧st.hp (.s 5)=some (.row 7 [(ua p (k.body.take j) i).map iv])∧st.tm 43=ksl p∧st.tm 44=iv p.length∧st.tm 45=iv i∧st.tm 6=iv i∧st.tm 51=ssl k.body∧st.tm 52=iv k.body.length∧st.tm 53=iv j∧(k.body.take j).all (zt p i k)=true) k.body.length ?_ ?_
  ·exact⟨0,by simp [h1,hp1,h5,hp5,h43,h44,h45]⟩
  clear h1 hp1 h5 hp5 h43 h44 h45
  rintro n st - - ⟨j,rfl,hj,h1,hp1,h5,hp5,h43,h44,h45,h6,h51,h52,h53,haj⟩
  have fx:=aI h51<|aI h52<|h53
  refine qB ?_
  clear fx
  refine vk (by simp [];first|done|rfl|exact (Bool.not_not _).symm) (fun ht=>?_) (fun hf=>?_)
  ·have hlj:j<k.body.length:=by simpa using ht
   obtain⟨s,hsj⟩:∃ s,k.body[j]?=some s:=⟨_,gE hlj⟩
   clear ht
   cases hok:zt p i k s with
   | false =>
    have fx:=aI h1<|aI hp1<|aI h51<|aI h52<|aI h53<|aI h6<|aI hsj<|hok
    have c1:=wq gl p i k s hk hh hhd
    refine qB ?_
    clear fx c1
    refine qH [] .nil (by simp;rfl) ?_
    have:kL p i=false:=by rw [hbf,qGi (gM hsj) hok];simp
    simp only [j2,j4 hlt this,Bool.and_false,Bool.false_and]
    rfl
   | true =>
    by_cases hm:s.kind=3∨s.kind=4
    ·obtain⟨d,hta⟩:=qNj hm
     obtain⟨a,ha,hal7⟩:∃ a:Nat,s.a=a∧a<p.length:=by
      have:∃ d,vM p i s.a d=true:=by
       rcases hm with h|h
       ·simp [zt,h] at hok
        exact⟨_,hok.2.2⟩
       ·simp [zt,h] at hok
        exact⟨_,hok.2.2⟩
      obtain⟨d,hd⟩:=this
      simp only [vM,Bool.and_eq_true,decide_eq_true_eq] at hd
      exact⟨s.a.toNat,by omega,by omega⟩
     have ha7:a<7:=by omega
     have ha8:(a:Int)<7:=by omega
     rw [ha] at hta
     have hget:=qGN (p:=p) (ss:=k.body.take j) (n:=i) ha7
     have vr:=qL0 (p:=p) (n:=i) hsj ha hm ha7
     have hml:(ua p (k.body.take j) i).length=7:=by simp [ua]
     have hw:IntKind.i64.wrap (((kh p a i+mkN (k.body.take j) a:Nat):Int)+1)=((kh p a i+mkN (k.body.take j) a:Nat):Int)+1:=by
      have h1:=qIY (b:=a) hb12 i
      have h2:=qPS (k.body.take j) a
      have h3:=List.length_take_le j k.body
      exact wrp (by omega) (by omega)
     generalize hA:ua p (k.body.take j) i=A at hp5 hget vr hml
     generalize hv:((kh p a i+mkN (k.body.take j) a:Nat):Int)=v at hget vr hw
     obtain⟨_,hge2⟩:=gS hget
     have fx:=aI h1<|aI hp1<|aI h5<|aI hp5<|aI h51<|aI h52<|aI h53<|aI h6<|aI hsj<|aI hok<|aI hta<|aI ha7<|aI ha8<|aI hget<|aI hge2<|aI hw<|hml
     have c1:=wq gl p i k s hk hh hhd
     have c2:=jK gl s
     refine qB ?_
     clear fx c1 c2
     refine⟨k.body.length - (j+1),by omega,j+1,rfl,by omega,by simp [h1],by simp [hp1],by simp [h5],?_,by simp [h43],by simp [h44],by simp [h45],by simp [h6],by simp [h51],by simp [h52],by simp;exact wrp (by omega) (by omega),?_⟩
     ·rw [← vr,← qU1 (by omega)]
      simp [hge2,hw]
     ·rw [List.take_add_one,hsj,List.all_append,haj]
      simpa using hok
    ·have hta:=qUC hm
     have hskip:=qJc (p:=p) (n:=i) hsj hm
     have fx:=aI h1<|aI hp1<|aI h51<|aI h52<|aI h53<|aI h6<|aI hsj<|aI hok<|hta
     have c1:=wq gl p i k s hk hh hhd
     have c2:=jK gl s
     refine qB ?_
     clear fx c1 c2
     refine⟨k.body.length - (j+1),by omega,j+1,rfl,by omega,by simp [h1],by simp [hp1],by simp [h5],by simp [hp5,hskip],by simp [h43],by simp [h44],by simp [h45],by simp [h6],by simp [h51],by simp [h52],by simp;exact wrp (by omega) (by omega),?_⟩
     rw [List.take_add_one,hsj,List.all_append,haj]
     simpa using hok
  ·have hge:j=k.body.length:=by
    have:¬ j<k.body.length:=by simpa using hf
    omega
   subst hge
   rw [List.take_length] at haj hp5
   rw [qJd hk] at hp5
   have fx:=aI h51<|aI h52<|aI h53<|h45
   refine qB ?_
   clear fx
   refine⟨p.length - (i+1),by omega,i+1,rfl,by omega,by simp [h1],by simp [hp1],by simp [h5],by simp [hp5],by simp [h43],by simp [h44],by simp;exact wrp (by omega) (by omega),?_⟩
   rw [zy,hal,hbf,hhd',haj]
   simpa using hbd
 ·have hge:i=p.length:=by
   have:¬ i<p.length:=by simpa using hf
   omega
  subst hge
  have hshp:j2 p=(List.range p.length).all (fun i=>i==0||vY p i==1):=by
   simp only [j2,hal,hyes,decide_true,Bool.and_true,Bool.true_and]
  have hv:∀ (i:Nat) q,p[i]?=some q→∀ s∈q.body,zt p i q s=true:=fun i q hq s hs=>by
   have:=List.all_eq_true.1 hal i (List.mem_range.2 (gS hq).1)
   simp only [kL,hq,Bool.and_eq_true] at this
   exact List.all_eq_true.1 this.2 s hs
  clear hf hi
  have fx:=aI h1<|aI hp1<|aI h43<|aI h44<|h45
  refine qB ?_
  clear fx
  refine q7 (fun n st=>∃ i:Nat,n=p.length - i∧i≤p.length∧1≤i∧st.tm 1=.pt (.s 1) 0∧st.hp (.s 1)=some (.row 1 [[ksl p]])∧st.tm 5=.pt (.s 5) 0∧st.hp (.s 5)=some (.row 7 [(ua p [] p.length).map iv])∧st.tm 12=iv i∧(List.range i).all (fun i=>i==0||vY p i==1)=true) (p.length - 1) ?_ ?_
  ·exact⟨1,by omega,by omega,by omega,by simp [h1],by simp [hp1],by simp [h5],by simp [hp5],by simp,by simp⟩
  clear h1 hp1 h5 hp5 h43 h44 h45
  rintro n st - - ⟨i,rfl,hi,hi1,h1,hp1,h5,hp5,h12,hmi⟩
  have fx:=aI h1<|aI hp1<|h12
  refine qB ?_
  clear fx
  refine vk (by simp [];first|done|rfl|exact (Bool.not_not _).symm) (fun ht=>?_) (fun hf=>?_)
  ·have hlt:i<p.length:=by simpa using ht
   obtain⟨k,hk⟩:∃ k,p[i]?=some k:=⟨_,gE hlt⟩
   have hi7:i<7:=by omega
   have hi8:(i:Int)<7:=by omega
   have hpk:=(hh i k hk).2.2 (by omega)
   have hget:(ua p [] p.length)[i]?=some (vY p i):=by
    rw [qGN hi7,← qOX hh hk hv hpk]
    simp [mkN]
   generalize hA:ua p [] p.length=A at hp5 hget
   clear ht
   all_goals have fx:=aI h1<|aI hp1<|aI h5<|aI hp5<|aI h12<|aI hi7<|aI hi8<|aI hget<|@qr
   repeat' (first
    | refine qN ?_|refine qJ ?_|refine qR ?_|refine qM fun K hK=>?_
    | ((with_reducible refine qK hK ?_);clear hK K)
    | (with_reducible first|refine qC ?_|refine qP ?_|refine qd ?_|refine zD ?_|refine qI ?_|refine qc ?_|refine ql (by decide) ?_)
    | refine qn ?_
    | refine qX ?_
    | (with_reducible refine qG ?_)
    | ((with_reducible refine yV ?_);refine q6 (h:=?_))
    | (with_reducible first|refine ze ?_|refine jE ?_|refine vG (h:=?_)|refine vj (h:=?_)|refine x_u (h:=?_)|refine qE (h:=?_)|refine zG (h:=?_)|refine qg (h:=?_)|refine qU (h:=?_)|refine jY (h:=?_))
    | (with_reducible refine x_q (h:=?_))
    | (with_reducible refine vC (fun ht=>?_) (fun ht=>?_))
    | refine qO (h1:=?_)|refine qS (h1:=?_)
    | refine uk (h1:=fun ht=>?_) (h2:=fun ht=>?_)
    | fail)
   all_goals try clear fx
   ·refine qH [] .nil (by simp;rfl) ?_
    rw [hshp,j4 hlt (show (i==0||vY p i==1)=false by simp at ht ⊢;exact⟨by omega,ht⟩)]
    rfl
   ·refine⟨p.length - (i+1),by omega,i+1,rfl,by omega,by omega,by simp [h1],by simp [hp1],by simp [h5],by simp [hp5],by simp;exact wrp (by omega) (by omega),?_⟩
    rw [zy,hmi]
    simp at ht ⊢
    exact .inr ht
  ·have hge:i=p.length:=by
    have:¬ i<p.length:=by simpa using hf
    omega
   subst hge
   have fx:=fx0
   refine qB ?_
   clear fx
   refine qH [] .nil (by simp [];rfl) (by simp [hshp,hmi])
theorem qLK (gl) (a:Int):qW Tryz.prog gl 209 [.agg [iv a]] (fun r y H'=>y=.hs r 1 0 0∧H' r=some (.row 1 [])):=by
 refine qW.of_sem Tryz.func209 rfl (by kernel_rfl) (rs:=[.tmp 2]) rfl Tryz.ntmps209 (lB rfl) fun C w g root=>?_
 have fx:=fx0
 refine qB ?_
 clear fx
 exact zZ (t:=2) (by first|(simp [];done)|(simp [];rfl)) (by first|(simp [];done)|(simp [];rfl)) (by simp)
theorem qJw (gl) (a:Int):qW Tryz.prog gl 210 [.agg [iv a]] (fun r y H'=>y=.hs r 1 0 1∧H' r=some (.row 1 [[iv a]])):=by
 refine qW.of_sem Tryz.func210 rfl (by kernel_rfl) (rs:=[.tmp 2]) rfl Tryz.ntmps210 (lB rfl) fun C w g root=>?_
 have fx:=fx0
 refine qB ?_
 clear fx
 exact zZ (t:=2) (by first|(simp [];done)|(simp [];rfl)) (by first|(simp [];done)|(simp [];rfl)) (by simp)
theorem qMU (gl) (a b:Int):qW Tryz.prog gl 211 [.agg [iv a,iv b]] (fun r y H'=>y=.hs r 1 0 2∧H' r=some (.row 1 [[iv a],[iv b]])):=by
 refine qW.of_sem Tryz.func211 rfl (by kernel_rfl) (rs:=[.tmp 2]) rfl Tryz.ntmps211 (lB rfl) fun C w g root=>?_
 have fx:=fx0
 refine qB ?_
 clear fx
 exact zZ (t:=2) (by first|(simp [];done)|(simp [];rfl)) (by first|(simp [];done)|(simp [];rfl)) (by simp)
theorem qDa (gl) (a b:Int):qW Tryz.prog gl 208 [.agg [iv a,iv b]] (fun r y H'=>y=.hs r 1 0 0∧H' r=some (.row 1 [])):=by
 refine qW.of_sem Tryz.func208 rfl (by kernel_rfl) (rs:=[.tmp 2]) rfl Tryz.ntmps208 (lB rfl) fun C w g root=>?_
 have fx:=fx0
 refine qB ?_
 clear fx
 exact zZ (t:=2) (by first|(simp [];done)|(simp [];rfl)) (by first|(simp [];done)|(simp [];rfl)) (by simp)
theorem qDj (gl) (a b:Int):qW Tryz.prog gl 188 [.agg [iv a,iv b]] (fun r y H'=>y=.hs r 1 0 (if b=-1 then [a] else [a,b]).length∧H' r=some (.row 1 (qY (if b=-1 then [a] else [a,b])))):=by
 refine qW.of_sem Tryz.func188 rfl (by kernel_rfl) (rs:=[.tmp 2]) rfl Tryz.ntmps188 (lB rfl) fun C w g root=>?_
 by_cases hb:b=-1
 ·subst hb
  have fx:=fx0
  refine qB ?_
  clear fx
  exact zZ (t:=2) (by first|(simp [];done)|(simp [];rfl)) (by first|(simp [];done)|(simp [];rfl)) (by simp)
 ·have h1:(b == -1)=false:=by simp [hb]
  rw [if_neg hb]
  have fx:= h1
  refine qB ?_
  clear fx
  exact zZ (t:=2) (by first|(simp [];done)|(simp [];rfl)) (by first|(simp [];done)|(simp [];rfl)) (by simp)
theorem qLd (gl) (a b:Int):qW Tryz.prog gl 212 [.agg [iv a,iv b]] (fun r y H'=>y=.hs r 1 0 1∧H' r=some (.row 1 [[iv a]])):=by
 refine qW.of_sem Tryz.func212 rfl (by kernel_rfl) (rs:=[.tmp 2]) rfl Tryz.ntmps212 (lB rfl) fun C w g root=>?_
 have fx:=fx0
 refine qB ?_
 clear fx
 exact zZ (t:=2) (by first|(simp [];done)|(simp [];rfl)) (by first|(simp [];done)|(simp [];rfl)) (by simp)
theorem qHU (gl) (a:Int):qW Tryz.prog gl 213 [.agg [iv a]] (fun r y H'=>y=.hs r 1 0 1∧H' r=some (.row 1 [[iv a]])):=by
 refine qW.of_sem Tryz.func213 rfl (by kernel_rfl) (rs:=[.tmp 2]) rfl Tryz.ntmps213 (lB rfl) fun C w g root=>?_
 have fx:=fx0
 refine qB ?_
 clear fx
 exact zZ (t:=2) (by first|(simp [];done)|(simp [];rfl)) (by first|(simp [];done)|(simp [];rfl)) (by simp)
theorem qFk (gl) (a:Int):qW Tryz.prog gl 214 [.agg [iv a]] (fun r y H'=>y=.hs r 1 0 1∧H' r=some (.row 1 [[iv a]])):=by
 refine qW.of_sem Tryz.func214 rfl (by kernel_rfl) (rs:=[.tmp 2]) rfl Tryz.ntmps214 (lB rfl) fun C w g root=>?_
 have fx:=fx0
 refine qB ?_
 clear fx
 exact zZ (t:=2) (by first|(simp [];done)|(simp [];rfl)) (by first|(simp [];done)|(simp [];rfl)) (by simp)
theorem qA6 (gl):qW Tryz.prog gl 215 [.agg []] (fun r y H'=>y=.hs r 1 0 0∧H' r=some (.row 1 [])):=by
 refine qW.of_sem Tryz.func215 rfl (by kernel_rfl) (rs:=[.tmp 2]) rfl Tryz.ntmps215 (lB rfl) fun C w g root=>?_
 have fx:=fx0
 refine qB ?_
 clear fx
 exact zZ (t:=2) (by first|(simp [];done)|(simp [];rfl)) (by first|(simp [];done)|(simp [];rfl)) (by simp)
theorem qJt (gl):qW Tryz.prog gl 216 [.agg []] (fun r y H'=>y=.hs r 1 0 0∧H' r=some (.row 1 [])):=by
 refine qW.of_sem Tryz.func216 rfl (by kernel_rfl) (rs:=[.tmp 2]) rfl Tryz.ntmps216 (lB rfl) fun C w g root=>?_
 have fx:=fx0
 refine qB ?_
 clear fx
 exact zZ (t:=2) (by first|(simp [];done)|(simp [];rfl)) (by first|(simp [];done)|(simp [];rfl)) (by simp)
noncomputable def qIB (nm:String):Bool:=decide (qIX Tryz.prog 198 nm=some 209)&&decide (qIX Tryz.prog 200 nm=some 210)&&decide (qIX Tryz.prog 202 nm=some 211)&&decide (qIX Tryz.prog 168 nm=some 208)&&decide (qIX Tryz.prog 204 nm=some 188)&&decide (qIX Tryz.prog 206 nm=some 212)&&decide (qIX Tryz.prog 208 nm=some 213)&&decide (qIX Tryz.prog 209 nm=some 214)&&decide (qIX Tryz.prog 211 nm=some 215)&&decide (qIX Tryz.prog 212 nm=some 216)
theorem qFm (gl) {nm:String} (hm:qIB nm=true) (s:Stm) (h:0≤s.kind∧s.kind≤11):qVS Tryz.prog gl nm (zh s) (fun r y H'=>y=.hs r 1 0 s.reads.length∧H' r=some (.row 1 (qY s.reads))):=by
 simp only [qIB,Bool.and_eq_true,decide_eq_true_eq] at hm
 obtain⟨⟨⟨⟨⟨⟨⟨⟨⟨m_num,m_copy⟩,m_add⟩,m_make⟩,m_call⟩,m_get⟩,m_print⟩,m_return⟩,m_declare⟩,m_drop⟩:=hm
 obtain⟨n,to,a,b⟩:=s
 rcases wD n with rfl|rfl|rfl|rfl|rfl|rfl|rfl|rfl|rfl|rfl|rfl|rfl|hn
 case inr.inr.inr.inr.inr.inr.inr.inr.inr.inr.inr.inr=>exact absurd h hn
 ·exact⟨_,_,_,qOg,m_num,qLK _ _⟩
 ·exact⟨_,_,_,qOf,m_copy,qJw _ _⟩
 ·exact⟨_,_,_,qOe,m_add,qMU _ _ _⟩
 ·exact⟨_,_,_,qOd,m_make,qDa _ _ _⟩
 ·exact⟨_,_,_,qOc,m_make,qDa _ _ _⟩
 ·exact⟨_,_,_,qOb,m_call,qDj _ _ _⟩
 ·exact⟨_,_,_,qOa,m_get,qLd _ _ _⟩
 ·exact⟨_,_,_,qO9,m_print,qHU _ _⟩
 ·exact⟨_,_,_,qO8,m_return,qFk _ _⟩
 ·exact⟨_,_,_,qO7,m_declare,qA6 _⟩
 ·exact⟨_,_,_,qLk,m_declare,qA6 _⟩
 ·exact⟨_,_,_,qLj,m_drop,qJt _⟩
theorem qDO (gl) (k:Blk) (d:Int) (hn:NmOk k) (hs:BSm k):qW Tryz.prog gl 84 [k.av,iv d] (fun _ y _=>y=.agg (jP (k.dc d))):=by
 have hbl:=hs.body
 refine qW.of_sem Tryz.func84 rfl (by kernel_rfl) (rs:=[.cell 4 94]) rfl Tryz.ntmps84 (lB rfl) fun C w g root=>?_
 have fx:=fx0
 refine qB ?_
 clear fx
 refine q7 (fun n st=>∃ i:Nat,n=k.body.length - i∧i≤k.body.length∧st.tm 1=iv d∧st.tm 4=.pt (.s 4) 0∧st.hp (.s 4)=some (.row 8 [jP []])∧st.tm 5=.pt (.s 5) 0∧st.hp (.s 5)=some (.row 8 [jP (((k.body.take i).filter (fun s=>decide (s.kind=d))).map Stm.to)])∧st.tm 9=ssl k.body∧st.tm 10=iv k.body.length∧st.tm 11=iv i) k.body.length ?_ ?_
 ·exact⟨0,by simp,by simp,by simp,by simp,by simp;rfl,by simp,by simp;rfl,by simp,by simp,by simp⟩
 rintro n st - - ⟨i,rfl,hi,h1,h4,hp4,h5,hp5,h9,h10,h11⟩
 have fx:=aI h9<|aI h10<|h11
 refine qB ?_
 clear fx
 refine vk (by simp [];first|done|rfl|exact (Bool.not_not _).symm) (fun ht=>?_) (fun hf=>?_)
 ·have hlt:i<k.body.length:=by simpa using ht
  obtain⟨s,hsi⟩:∃ s,k.body[i]?=some s:=⟨_,gE hlt⟩
  have hto:=hn.tos s (gM hsi)
  obtain⟨x,hx⟩:∃ x:Nat,s.to=x:=⟨s.to.toNat,by omega⟩
  have hx8:(x:Int)<8:=by omega
  clear ht
  have fx:=aI h9<|aI h10<|aI h11<|aI hsi<|h1
  refine qB ?_
  clear fx
  refine vk (by simp [];first|done|rfl|exact (Bool.not_not _).symm) (fun ht=>?_) (fun hf=>?_)
  ·have hkd:s.kind=d:=by simpa using ht
   have fx:=aI h9<|aI h10<|aI h11<|aI h5<|aI hp5<|aI hx<|hx8
   refine qB ?_
   clear fx
   refine⟨k.body.length - (i+1),by omega,i+1,by simp,by omega,by simp [h1],by simp [h4],by simp [hp4],by simp [h5],?_,by simp [h9],by simp [h10],by simp;exact wrp (by omega) (by omega)⟩
   rw [zH hsi]
   simp [hkd,← uN hx (by omega)]
  ·have hkd:¬ s.kind=d:=by simpa using hf
   have fx:=aI h9<|aI h10<|h11
   refine qB ?_
   clear fx
   refine⟨k.body.length - (i+1),by omega,i+1,by simp,by omega,by simp [h1],by simp [h4],by simp [hp4],by simp [h5],?_,by simp [h9],by simp [h10],by simp;exact wrp (by omega) (by omega)⟩
   rw [zH hsi]
   simp [hkd,hp5]
 ·have hge:i=k.body.length:=by
   have:¬ i<k.body.length:=by simpa using hf
   omega
  subst hge
  rw [List.take_length] at hp5
  have fx:=aI h4<|aI hp4<|aI h5<|hp5
  refine qB ?_
  clear fx
  refine qH [] .nil (by simp [h4];rfl) ?_
  simp [Blk.dc,kG,km]
theorem qHf (gl) (k:Blk) (hn:NmOk k) (hs:BSm k):qW Tryz.prog gl 83 [k.av] (fun _ y _=>y=.agg (jP k.bd)):=by
 have hbl:=hs.body
 have hpl:=hs.params
 refine qW.of_sem Tryz.func83 rfl (by kernel_rfl) (rs:=[.cell 2 94]) rfl Tryz.ntmps83 (lB rfl) fun C w g root=>?_
 have fx:=fx0
 refine qB ?_
 clear fx
 refine q7 (fun n st=>∃ i:Nat,n=k.params.length - i∧i≤k.params.length∧st.tm 1=.pt (.s 1) 0∧st.hp (.s 1)=some (.row 4 [k.cells])∧st.tm 2=.pt (.s 2) 0∧st.hp (.s 2)=some (.row 8 [jP []])∧st.tm 3=.pt (.s 3) 0∧st.hp (.s 3)=some (.row 8 [jP (k.params.take i)])∧st.tm 9=isl k.params∧st.tm 10=iv k.params.length∧st.tm 11=iv i) k.params.length ?_ ?_
 ·exact⟨0,by simp,by simp,by simp,by simp,by simp,by simp;rfl,by simp,by simp;rfl,by simp,by simp,by simp⟩
 ·rintro n st - - ⟨i,rfl,hi,h1,hp1,h2,hp2,h3,hp3,h9,h10,h11⟩
  have fx:=aI h9<|aI h10<|h11
  refine qB ?_
  clear fx
  refine vk (by simp [];first|done|rfl|exact (Bool.not_not _).symm) (fun ht=>?_) (fun hf=>?_)
  ·have hlt:i<k.params.length:=by simpa using ht
   obtain⟨y,hy⟩:∃ y,k.params[i]?=some y:=⟨_,gE hlt⟩
   have hto:=hn.params y (gM hy)
   obtain⟨x,rfl⟩:∃ x:Nat,y=x:=⟨y.toNat,by omega⟩
   have hx8:(x:Int)<8:=by omega
   clear ht
   have fx:=aI h9<|aI h10<|aI h11<|aI hy<|aI h3<|aI hp3<|hx8
   refine qB ?_
   clear fx
   refine⟨k.params.length - (i+1),by omega,i+1,by simp,by omega,by simp [h1],by simp [hp1],by simp [h2],by simp [hp2],by simp [h3],?_,by simp [h9],by simp [h10],by simp;exact wrp (by omega) (by omega)⟩
   rw [List.take_add_one,hy]
   simp [← uN (y:=(x:Int)) rfl (by omega:x<8)]
  ·have hge:i=k.params.length:=by
    have:¬ i<k.params.length:=by simpa using hf
    omega
   subst hge
   rw [List.take_length] at hp3
   have fx:=aI h1<|hp1
   refine qB ?_
   clear fx
   refine q7 (fun n st=>∃ i:Nat,n=k.body.length - i∧i≤k.body.length∧st.tm 2=.pt (.s 2) 0∧st.hp (.s 2)=some (.row 8 [jP []])∧st.tm 3=.pt (.s 3) 0∧st.hp (.s 3)=some (.row 8 [jP (k.params++((k.body.take i).filter (fun s=>decide (s.sets∨s.kind=11))).map Stm.to)])∧st.tm 19=ssl k.body∧st.tm 20=iv k.body.length∧st.tm 21=iv i) k.body.length ?_ ?_
   ·exact⟨0,by simp,by simp,by simp [h2],by simp [hp2],by simp [h3],by simp [hp3],by simp,by simp,by simp⟩
   clear h1 hp1 h2 hp2 h3 hp3 h9 h10 h11 hf hi
   rintro n st - - ⟨i,rfl,hi,h2,hp2,h3,hp3,h19,h20,h21⟩
   have fx:=aI h19<|aI h20<|h21
   refine qB ?_
   clear fx
   refine vk (by simp [];first|done|rfl|exact (Bool.not_not _).symm) (fun ht=>?_) (fun hf=>?_)
   ·have hlt:i<k.body.length:=by simpa using ht
    obtain⟨s,hsi⟩:∃ s,k.body[i]?=some s:=⟨_,gE hlt⟩
    have hto:=hn.tos s (gM hsi)
    obtain⟨x,hx⟩:∃ x:Nat,s.to=x:=⟨s.to.toNat,by omega⟩
    have hx8:(x:Int)<8:=by omega
    clear ht
    have fx:=aI h19<|aI h20<|aI h21<|hsi
    have c1:=qFE gl s
    refine qB ?_
    clear fx c1
    refine vk (by simp [];first|done|rfl|exact (Bool.not_not _).symm) (fun ht=>?_) (fun hf=>?_)
    ·skip
     have fx:=aI h19<|aI h20<|aI h21<|aI h3<|aI hp3<|aI hx<|hx8
     refine qB ?_
     clear fx
     refine⟨k.body.length - (i+1),by omega,i+1,by simp,by omega,by simp [h2],by simp [hp2],by simp [h3],?_,by simp [h19],by simp [h20],by simp;exact wrp (by omega) (by omega)⟩
     have hc:decide (s.sets∨s.kind=11)=true:=by simpa using ht
     have hadd:=uN (l:=k.params++((k.body.take i).filter (fun s=>decide (s.sets∨s.kind=11))).map Stm.to) hx (by omega)
     rw [zH hsi,if_pos hc,List.map_append]
     simp at hadd ⊢
     exact hadd
    ·skip
     have fx:=aI h19<|aI h20<|h21
     refine qB ?_
     clear fx
     refine⟨k.body.length - (i+1),by omega,i+1,by simp,by omega,by simp [h2],by simp [hp2],by simp [h3],?_,by simp [h19],by simp [h20],by simp;exact wrp (by omega) (by omega)⟩
     have hc:¬ decide (s.sets∨s.kind=11)=true:=by simpa using hf
     rw [zH hsi,if_neg hc]
     simp [hp3]
   ·have hge:i=k.body.length:=by
     have:¬ i<k.body.length:=by simpa using hf
     omega
    subst hge
    rw [List.take_length] at hp3
    have fx:=aI h2<|aI hp2<|aI h3<|hp3
    refine qB ?_
    clear fx
    refine qH [] .nil (by simp [h2];rfl) ?_
    simp [Blk.bd,kG,kH]
theorem qJY (gl) (k:Blk) (hn:NmOk k) (hs:BSm k):qW Tryz.prog gl 82 [k.av] (fun _ y _=>y=.agg (jP k.rd)):=by
 have hbl:=hs.body
 refine qW.of_sem Tryz.func82 rfl (by kernel_rfl) (rs:=[.cell 2 94]) rfl Tryz.ntmps82 (lB rfl) fun C w g root=>?_
 have fx:=fx0
 refine qB ?_
 clear fx
 refine q7 (fun n st=>∃ i:Nat,n=k.body.length - i∧i≤k.body.length∧st.tm 2=.pt (.s 2) 0∧st.hp (.s 2)=some (.row 8 [jP []])∧st.tm 3=.pt (.s 3) 0∧st.hp (.s 3)=some (.row 8 [jP (zw (k.body.take i))])∧st.tm 9=ssl k.body∧st.tm 10=iv k.body.length∧st.tm 11=iv i) k.body.length ?_ ?_
 ·exact⟨0,by simp,by simp,by simp,by simp;rfl,by simp,by simp;rfl,by simp,by simp,by simp⟩
 rintro n st - - ⟨i,rfl,hi,h2,hp2,h3,hp3,h9,h10,h11⟩
 have fx:=aI h9<|aI h10<|h11
 refine qB ?_
 clear fx
 refine vk (by simp [];first|done|rfl|exact (Bool.not_not _).symm) (fun ht=>?_) (fun hf=>?_)
 ·have hlt:i<k.body.length:=by simpa using ht
  obtain⟨s,hsi⟩:∃ s,k.body[i]?=some s:=⟨_,gE hlt⟩
  have hsm:=gM hsi
  have hrl:=s.reads_len
  clear ht
  all_goals have fx:=aI h9<|aI h10<|aI h11<|hsi
  repeat' (first
   | refine qN ?_|refine qJ ?_|refine qR ?_|refine qM fun K hK=>?_
   | ((with_reducible refine qK hK ?_);clear hK K)
   | (with_reducible first|refine qC ?_|refine qP ?_|refine qd ?_|refine zD ?_|refine qI ?_|refine qc ?_|refine ql (by decide) ?_)
   | refine qn ?_
   | refine qX ?_
   | (with_reducible first|refine qG ?_|refine qE (h:=?_)|refine zG (h:=?_)|refine qg (h:=?_)|refine qU (h:=?_))
   | ((with_reducible refine qv 108 rfl ?_);refine qL (hF:=jK _ s) (h:=?_))
   | (refine qPK (hF:=qFm _ (by kernel_rfl) s (hn.kinds s hsm)) (h:=?_))
   | (with_reducible refine x_q (h:=?_))
   | refine qO (h1:=?_)|refine qS (h1:=?_)
   | fail)
  all_goals try clear fx
  refine q7 (fun n st=>∃ j:Nat,n=s.reads.length - j∧j≤s.reads.length∧st.tm 2=.pt (.s 2) 0∧st.hp (.s 2)=some (.row 8 [jP []])∧st.tm 3=.pt (.s 3) 0∧st.hp (.s 3)=some (.row 8 [jP (zw (k.body.take i)++s.reads.take j)])∧st.tm 9=ssl k.body∧st.tm 10=iv k.body.length∧st.tm 11=iv i∧st.tm 17=.hs (.s 17) 1 0 s.reads.length∧st.hp (.s 17)=some (.row 1 (qY s.reads))∧st.tm 18=iv s.reads.length∧st.tm 19=iv j) s.reads.length ?_ ?_
  ·exact⟨0,by simp,by simp,by simp [h2],by simp [hp2],by simp [h3],by simp [hp3],by simp [h9],by simp [h10],by simp [h11],by simp,by simp,by simp,by simp⟩
  clear h2 hp2 h3 hp3 h9 h10 h11
  rintro n st - - ⟨j,rfl,hj,h2,hp2,h3,hp3,h9,h10,h11,h17,hp17,h18,h19⟩
  have fx:=aI h17<|aI h18<|h19
  refine qB ?_
  clear fx
  refine vk (by simp [];first|done|rfl|exact (Bool.not_not _).symm) (fun ht=>?_) (fun hf=>?_)
  ·have hlj:j<s.reads.length:=by simpa using ht
   obtain⟨y,hy⟩:∃ y,s.reads[j]?=some y:=⟨_,gE hlj⟩
   have hto:=hn.reads s hsm y (gM hy)
   obtain⟨x,rfl⟩:∃ x:Nat,y=x:=⟨y.toNat,by omega⟩
   obtain⟨_,hye⟩:=gS hy
   have hx8:(x:Int)<8:=by omega
   clear ht
   have fx:=aI h17<|aI hp17<|aI h18<|aI h19<|aI hy<|aI hye<|aI hlj<|aI h3<|aI hp3<|hx8
   refine qB ?_
   clear fx
   refine⟨s.reads.length - (j+1),by omega,j+1,by simp,by omega,by simp [h2],by simp [hp2],by simp [h3],?_,by simp [h9],by simp [h10],by simp [h11],by simp [h17],by simp [hp17],by simp [h18],by simp;exact wrp (by omega) (by omega)⟩
   have hadd:=uN (l:=zw (k.body.take i)++s.reads.take j) (y:=(x:Int)) rfl (by omega:x<8)
   rw [List.take_add_one,hy]
   simp at hadd ⊢
   exact hadd
  ·have hge:j=s.reads.length:=by
    have:¬ j<s.reads.length:=by simpa using hf
    omega
   subst hge
   rw [List.take_length] at hp3
   have fx:= h11
   refine qB ?_
   clear fx
   refine⟨k.body.length - (i+1),by omega,i+1,by simp,by omega,by simp [h2],by simp [hp2],by simp [h3],?_,by simp [h9],by simp [h10],by simp;exact wrp (by omega) (by omega)⟩
   rw [List.take_add_one,hsi]
   simp [zw,hp3]
 ·have hge:i=k.body.length:=by
   have:¬ i<k.body.length:=by simpa using hf
   omega
  subst hge
  rw [List.take_length] at hp3
  have fx:=aI h2<|aI hp2<|aI h3<|hp3
  refine qB ?_
  clear fx
  refine qH [] .nil (by simp [h2];rfl) ?_
  simp [Blk.rd,kG]
end Go.Proofs.YtbgmnmnoaamgkaaGreatDoor
end
section
namespace Go.Proofs.YtbgmnmnoaamgkaaGreatDoor
open Go Go.Hm Go.Proofs
abbrev qE2:Sch:=.q 0<|.q 1<|.q 2<|.q 3<|.q 5<|.q 7<|.q 9<|.l 4 [9,7,5,2,1,0]<|.l 6 [9,7,2,1,0]<|.l 8 [9,2,1,0]<|.l 10 [2,1,0]<|.q 11<|.l 12 []<|.l 13 []<|.done
theorem qCF (gl) (p:Prg) (hs:Sml p) (hh:zj p) (hn:∀ k∈p,NmOk k):qW Tryz.prog gl 50 [pav p] (fun r y H'=>y=.hs r 1 0 p.length∧OwnS H' r p p.length):=by
 have hpl:=hs.len
 refine qW.of_sem Tryz.func50 rfl (by kernel_rfl) (rs:=[.tmp 2]) rfl Tryz.ntmps50 (lB rfl) fun C w g root=>?_
 have fx:=fx0
 refine qB ?_
 repeat ((first|refine wSc (id:=5) qE2 qA ?_);refine qD ?_;refine qB ?_)
 clear fx
 refine q7 (fun n st=>∃ i:Nat,n=p.length - i∧i≤p.length∧st.tm 1=.pt (.s 1) 0∧st.hp (.s 1)=some (.row 1 [[ksl p]])∧st.tm 3=.hs (.s 3) 1 0 p.length∧st.tm 14=ksl p∧st.tm 15=iv p.length∧st.tm 16=iv i∧OwnS st.hp (.s 3) p i) p.length ?_ ?_
 ·refine⟨0,by simp,by simp,by simp,by simp,by simp,by simp,by simp,by simp,⟨?_,fun j k hj=>by omega⟩⟩
  rw [← qJK]
  simp [qFK]
 rintro n st - - ⟨i,rfl,hi,h1,hp1,h3,h14,h15,h16,⟨ho1,ho2⟩⟩
 have fx:=aI h14<|aI h15<|h16
 refine qB ?_
 repeat ((first|refine wSc (id:=5) qE2 qA ?_);refine qD ?_;refine qB ?_)
 clear fx
 refine vk (by simp [];first|done|rfl|exact (Bool.not_not _).symm) (fun ht=>?_) (fun hf=>?_)
 ·have hlt:i<p.length:=by simpa using ht
  obtain⟨k,hk⟩:∃ k,p[i]?=some k:=⟨_,gE hlt⟩
  have hkm:=gM hk
  obtain⟨hkp,hkb⟩:=hs.bsm hk
  clear ht
  all_goals have fx:=aI h14<|aI h15<|aI h16<|hk
  repeat' (first
   | refine qN ?_|refine qJ ?_|refine qR ?_|refine qM fun K hK=>?_
   | ((with_reducible refine qK hK ?_);clear hK K)
   | (with_reducible first|refine qC ?_|refine qP ?_|refine qd ?_|refine zD ?_|refine qI ?_|refine qc ?_|refine wL ?_|refine ql (by decide) ?_)
   | refine qn ?_
   | refine qX ?_
   | (with_reducible first|refine qG ?_|refine qE (h:=?_)|refine zG (h:=?_)|refine qg (h:=?_)|refine qU (h:=?_)|refine jY (h:=?_)|refine wO (h:=?_))
   | ((with_reducible refine qv 82 rfl ?_);refine qL (hF:=qJY _ k (hn k hkm) (hs.bsm hk)) (h:=?_))
   | ((with_reducible refine qv 83 rfl ?_);refine qL (hF:=qHf _ k (hn k hkm) (hs.bsm hk)) (h:=?_))
   | ((with_reducible refine qv 84 rfl ?_);refine qL (hF:=qDO _ k _ (hn k hkm) (hs.bsm hk)) (h:=?_))
   | (with_reducible refine x_q (h:=?_))
   | refine qO (h1:=?_)|refine qS (h1:=?_)
   | (refine wSc (id:=5) qE2 qA fun K hK=>?_)
   | ((with_reducible refine uF hK ?_);clear hK K)
   | ((with_reducible refine qAf ?_);first|refine qFT (h:=?_)|refine qBt (h:=?_)|refine qBu (h:=?_)|refine qBs (h:=?_))
   | ((with_reducible refine qAf ?_);refine qBv (h1:=fun ht=>?_) (h2:=fun ht=>?_))
   | refine a_l rfl ?_|refine qMY ?_ ?_|refine qMX ?_ ?_ ?_|(with_reducible refine aI ?_ ?_)|exact vW|refine w7 (h2:=?_)
   | fail)
  all_goals try clear fx
  refine q7 (fun n st=>∃ j:Nat,n=k.params.length - j∧j≤k.params.length∧st.tm 1=.pt (.s 1) 0∧st.hp (.s 1)=some (.row 1 [[ksl p]])∧st.tm 3=.hs (.s 3) 1 0 p.length∧st.tm 14=ksl p∧st.tm 15=iv p.length∧st.tm 16=iv i∧OwnS st.hp (.s 3) p i∧st.tm 4=iv i∧st.tm 5=.pt (.s 5) 0∧st.hp (.s 5)=some (.row 4 [k.cells])∧st.tm 6=.pt (.s 6) 0∧st.hp (.s 6)=some (.row 43 [qh i k qFK (k.params.take j)])∧st.tm 35=isl k.params∧st.tm 36=iv k.params.length∧st.tm 37=iv j) k.params.length ?_ ?_
  ·refine⟨0,by simp,by simp,by simp [h1],by simp [hp1],by simp [h3],by simp [h14],by simp [h15],by simp [h16],⟨?_,fun j q hj hq=>?_⟩,by simp,by simp,by simp,by simp,?_,by simp,by simp,by simp⟩
   ·simp [ho1]
   ·simp [ho2 j q hj hq]
   ·simp [qh,qFK]
    rfl
  clear h1 hp1 h3 h14 h15 h16 ho1 ho2
  rintro n st - - ⟨j,rfl,hj,h1,hp1,h3,h14,h15,h16,⟨ho1,ho2⟩,h4,h5,hp5,h6,hp6,h35,h36,h37⟩
  have fx:=aI h35<|aI h36<|h37
  refine qB ?_
  repeat ((first|refine wSc (id:=5) qE2 qA ?_);refine qD ?_;refine qB ?_)
  clear fx
  refine vk (by simp [];first|done|rfl|exact (Bool.not_not _).symm) (fun ht=>?_) (fun hf=>?_)
  ·have hlj:j<k.params.length:=by simpa using ht
   obtain⟨y,hy⟩:∃ y,k.params[j]?=some y:=⟨_,gE hlj⟩
   have hto:=(hn k hkm).params y (gM hy)
   obtain⟨x,rfl⟩:∃ x:Nat,y=x:=⟨y.toNat,by omega⟩
   have hx8:(x:Int)<8:=by omega
   clear ht
   have fx:=aI h35<|aI h36<|aI h37<|aI hy<|aI h6<|aI hp6<|hx8
   refine qB ?_
   repeat ((first|refine wSc (id:=5) qE2 qA ?_);refine qD ?_;refine qB ?_)
   clear fx
   refine⟨k.params.length - (j+1),by omega,j+1,by simp,by omega,by simp [h1],by simp [hp1],by simp [h3],by simp [h14],by simp [h15],by simp [h16],⟨?_,fun j q hj hq=>?_⟩,by simp [h4],by simp [h5],by simp [hp5],by simp [h6],?_,by simp [h35],by simp [h36],by simp;exact wrp (by omega) (by omega)⟩
   ·simp [ho1]
   ·simp [ho2 j q hj hq]
   ·rw [List.take_add_one,hy]
    simp [← qEG (y:=(x:Int)) rfl (by omega:x<8)]
  ·have hge:j=k.params.length:=by
    have:¬ j<k.params.length:=by simpa using hf
    omega
   subst hge
   rw [List.take_length] at hp6
   clear hf hj
   obtain⟨hq1,hq2,hq3⟩:=hh i k hk
   have fx:= h4
   refine qB ?_
   repeat ((first|refine wSc (id:=5) qE2 qA ?_);refine qD ?_;refine qB ?_)
   clear fx
   refine vk (by simp [];first|done|rfl|exact (Bool.not_not _).symm) (fun ht=>?_) (fun hf=>?_)
   ·have hi0:0<i:=by simpa using ht
    obtain⟨q,hq⟩:∃ q:Nat,k.parent=q:=⟨k.parent.toNat,by omega⟩
    have hqi:q<i:=by omega
    have hqp:q<p.length:=by omega
    have hsg:=u3 (n:=.s 3) (i:=i) hqp
    rw [if_pos hqi] at hsg
    obtain⟨_,hse⟩:=gS hsg
    have fx:=aI h3<|aI ho1<|aI h4<|aI h5<|aI hp5<|aI h6<|aI hp6<|aI hq<|aI hsg<|aI hse<|aI hlt<|aI hqp<|aI hqi<|h16
    refine qB ?_
    repeat ((first|refine wSc (id:=5) qE2 qA ?_);refine qD ?_;refine qB ?_)
    clear fx
    refine⟨p.length - (i+1),by omega,i+1,rfl,by omega,by simp [h1],by simp [hp1],by simp [h3],by simp [h14],by simp [h15],by simp [h16];exact wrp (by omega) (by omega),⟨?_,fun j r hj hr=>?_⟩⟩
    ·simp [ho1,qFd]
    ·rcases Nat.lt_succ_iff_lt_or_eq.1 hj with hlj|rfl
     ·have hne:¬ j=i:=by omega
      have hrp:=(hh j r hr).2.1
      have ho:=qOM (n:=.s 3) (a:=6) (i:=i) (q:=r.parent) (by simp) (by simp) (by omega)
      simp [ho2 j r hlj hr,hne,ho]
     ·rw [hk] at hr
      obtain rfl:=sI hr
      have hne:¬ q=j:=by omega
      have hso:=qEF (i:=j) (k:=k) (o:=qFK) (o':=.pt (.c (.s 3) q 0) 0) (ps:=k.params)
      simp [hq,qOL,hp6,hne,hso]
   ·have hi0:i=0:=by
     have:¬ 0<i:=by simpa using hf
     omega
    have fx:=aI h3<|aI ho1<|aI h4<|aI h6<|aI hp6<|aI hlt<|h16
    refine qB ?_
    repeat ((first|refine wSc (id:=5) qE2 qA ?_);refine qD ?_;refine qB ?_)
    clear fx
    refine⟨p.length - (i+1),by omega,i+1,rfl,by omega,by simp [h1],by simp [hp1],by simp [h3],by simp [h14],by simp [h15],by simp [h16];exact wrp (by omega) (by omega),⟨?_,fun j r hj hr=>?_⟩⟩
    ·simp [ho1,qFd]
    ·obtain rfl:j=i:=by omega
     rw [hk] at hr
     obtain rfl:=sI hr
     rw [qOK (by omega)]
     simp [hp6]
 ·have hge:i=p.length:=by
   have:¬ i<p.length:=by simpa using hf
   omega
  subst hge
  have fx:= h3
  refine qB ?_
  repeat ((first|refine wSc (id:=5) qE2 qA ?_);refine qD ?_;refine qB ?_)
  clear fx
  refine qH [(.s 2,root)] (.one rfl) (by simp;rfl) ⟨by simp,⟨?_,fun j r hj hr=>?_⟩⟩
  ·simp [ho1,qBi (n:=.s 2) (m:=root) (f:=jO noD [(.s 2,root)]) (by simp)]
  ·simp [ho2 j r hj hr,qCZ (n:=.s 2) (m:=root) (f:=jO noD [(.s 2,root)]) (by simp)]
theorem wu (gl) (i:Nat) (k:Blk) (o:AV) (ps:List Int) (x:Nat) (hx:x<8):qW Tryz.prog gl 109 [.el (qh i k o ps) 0,iv x] (fun _ y _=>y=bv (decide ((x:Int)∈k.dc 9)||decide ((x:Int)∈k.dc 10))):=by
 have h8:(x:Int)<8:=by omega
 have hg:=kz (i:=i) (k:=k) (o:=o) (ps:=ps) hx
 have hn:=qDY (i:=i) (k:=k) (o:=o) (ps:=ps) hx
 refine qW.of_sem Tryz.func109 rfl (by kernel_rfl) (rs:=[.tmp 4]) rfl Tryz.ntmps109 (lB rfl) fun C w g root=>?_
 all_goals have fx:=aI h8<|aI hg<|hn
 repeat' (first
  | refine qN ?_|refine qM fun K hK=>?_
  | ((with_reducible refine qK hK ?_);clear hK K)
  | (with_reducible first|refine qC ?_)
  | refine qX ?_
  | (with_reducible refine qG ?_)
  | ((with_reducible refine yV ?_);refine q6 (h:=?_))
  | (with_reducible first|refine jE ?_|refine vj (h:=?_)|refine qE (h:=?_))
  | (with_reducible refine x_q (h:=?_))
  | (with_reducible refine vC (fun ht=>?_) (fun ht=>?_))
  | fail)
 all_goals try clear fx
 all_goals refine qH [] .nil (by simp;rfl) ?_
 all_goals simp_all
theorem vS (gl) (i:Nat) (k:Blk) (o:AV) (ps:List Int) (x:Nat) (hx:x<8):qW Tryz.prog gl 121 [.el (qh i k o ps) 0,iv x] (fun _ y _=>y=bv (k.kind != 0&&decide ((x:Int)∈k.bd)&&!(decide ((x:Int)∈k.dc 9)||decide ((x:Int)∈k.dc 10)))):=by
 have h8:(x:Int)<8:=by omega
 have hb:=qDZ (i:=i) (k:=k) (o:=o) (ps:=ps) hx
 refine qW.of_sem Tryz.func121 rfl (by kernel_rfl) (rs:=[.tmp 4]) rfl Tryz.ntmps121 (lB rfl) fun C w g root=>?_
 all_goals have fx:=aI h8<|hb
 repeat' (first
  | refine qN ?_|refine qM fun K hK=>?_
  | ((with_reducible refine qK hK ?_);clear hK K)
  | (with_reducible first|refine qC ?_)
  | refine qX ?_
  | (with_reducible refine qG ?_)
  | ((with_reducible refine yV ?_);refine q6 (h:=?_))
  | (with_reducible first|refine ze ?_|refine vG (h:=?_)|refine qE (h:=?_))
  | ((with_reducible refine qv 109 rfl ?_);refine qL (hF:=wu _ _ _ _ _ _ hx) (h:=?_))
  | (with_reducible refine x_q (h:=?_))
  | (with_reducible refine vC (fun ht=>?_) (fun ht=>?_))
  | fail)
 all_goals try clear fx
 all_goals refine qH [] .nil (by simp;rfl) ?_
 all_goals simp_all
theorem qPk (gl) (i:Nat) (k:Blk) (o:AV) (ps:List Int) (x:Nat) (hx:x<8):qW Tryz.prog gl 80 [.el (qh i k o ps) 0,iv x] (fun _ y _=>y=bv (decide ((x:Int)∈k.rd)||decide ((x:Int)∈k.bd)||(decide ((x:Int)∈k.dc 9)||decide ((x:Int)∈k.dc 10)))):=by
 have h8:(x:Int)<8:=by omega
 have hb:=qDZ (i:=i) (k:=k) (o:=o) (ps:=ps) hx
 have hr:=qJI (i:=i) (k:=k) (o:=o) (ps:=ps) hx
 refine qW.of_sem Tryz.func80 rfl (by kernel_rfl) (rs:=[.tmp 4]) rfl Tryz.ntmps80 (lB rfl) fun C w g root=>?_
 all_goals have fx:=aI h8<|aI hb<|hr
 repeat' (first
  | refine qN ?_|refine qM fun K hK=>?_
  | ((with_reducible refine qK hK ?_);clear hK K)
  | (with_reducible first|refine qC ?_)
  | refine qX ?_
  | (with_reducible refine qG ?_)
  | ((with_reducible refine yV ?_);refine q6 (h:=?_))
  | (with_reducible first|refine jE ?_|refine vj (h:=?_)|refine qE (h:=?_))
  | ((with_reducible refine qv 109 rfl ?_);refine qL (hF:=wu _ _ _ _ _ _ hx) (h:=?_))
  | (with_reducible refine x_q (h:=?_))
  | (with_reducible refine vC (fun ht=>?_) (fun ht=>?_))
  | fail)
 all_goals try clear fx
 all_goals refine qH [] .nil (by simp;rfl) ?_
 all_goals simp_all
end Go.Proofs.YtbgmnmnoaamgkaaGreatDoor
end
section
namespace Go.Proofs.YtbgmnmnoaamgkaaGreatDoor
open Go Go.Hm Go.Proofs Go.RowKit Go.Shelf
attribute [local go_sem] Oper.semAt_some
abbrev qP4 (g:Gh) (w0:World) (p:Prg):={ a:Option Addr×Nat // ∃ q,p[a.2]?=some q∧q.kind=1∧RV g w0 (.pointer a.1) (z8 p a.2) }
def lft (v:Value) (W:World):Nat:=match v with
 | .pointer (some a)=>(match W.cell? a with|some (.int _ j)=>j.toNat+1|_=>0)
 | _=>0
theorem qR8 (n l Bn:Nat) (p:Prg) (hh:zj p) (g:Gh) (w0:World) (hC:∀ b,g.C b→b<w0.heap.size) (j0:Nat) (k0:Blk) (hk0:p[j0]?=some k0) (a0:Option Addr) (ha0:RV g w0 (.pointer a0) (z8 p j0)) (J Jx:List (qP4 g w0 p)→World→Prop) (hn:1≤n)
  (hY:∀ pre x W,J pre W→pre.length<p.length→YieldAt Fence.wide (n - 1) Tryz.prog l #[.pointer x.1.1] W fun e W' =>
    (e=.returned (.bool true)∧J (pre++[x]) W'∧Below w0.heap.size W W')∨(e=.returned (.bool false)∧Jx (pre++[x]) W'))
  (W:World) (hW:Below w0.heap.size w0 W) (hBn:W.cell? ⟨Bn,0,none⟩=some (.pointer a0)) (h0:J [] W) :
  CallsIn Fence.wide n Tryz.prog 168 #[.func (.yield l) #[] #[],.pointer (some ⟨Bn,0,none⟩)] W fun e W'=>(∃ v,e=.returned v) ∧
   ((∃ ys,(∃ j,j<0∧Path p k0.parent (ys.map (fun y:qP4 g w0 p=>y.1.2)) j)∧J ys W')∨(∃ pre,(∃ j,Path p k0.parent (pre.map (fun y:qP4 g w0 p=>y.1.2)) j)∧Jx pre W')):=by
 obtain⟨b0,o0,hb0,hs0⟩:=ha0.scAt hh hk0
 obtain rfl:a0=some ⟨b0,o0,none⟩:=by simpa using hb0
 obtain⟨a1,hc1,hr1⟩:=hs0.out
 have hc1':W.cell? ⟨b0,o0+2,none⟩=some (.pointer a1):=(hW.cell (p:=⟨b0,o0+2,none⟩) (hC b0 hs0.C)).trans hc1
 refine callsIn_of_wp Tryz.func168 rfl trivial ?_ rfl
 simp only [Tryz.ntmps168,List.size_toArray,List.length_cons,List.length_nil,Nat.reduceAdd,Nat.reduceSub,Array.replicate_succ,Array.replicate_zero,List.push_toArray,List.append_toArray,List.nil_append,List.cons_append]
 gi_wp2
 gi_loopw [3] (fun v wr=>∃ (pre:List (qP4 g w0 p)) (j:Int),RV g w0 v (z8 p j)∧(-1≤j∧j<p.length)∧Path p k0.parent (pre.map (fun y:qP4 g w0 p=>y.1.2)) j∧J pre wr∧Below w0.heap.size w0 wr) (fun v wr=>lft v wr)
 case atStart =>
  have h1:=hh j0 k0 hk0
  have h2:=(gS hk0).1
  exact⟨[],k0.parent,hr1,by omega,.nil _,h0,hW⟩
 case round =>
  obtain⟨pre,j,hr,hj,hpath,hJ,hB⟩:=hrel
  by_cases hneg:j<0
  ·obtain rfl:=hr.scNil hneg
   gi_wp2
   go_end0
   exact⟨⟨_,rfl⟩,.inl ⟨pre,⟨j,hneg,hpath⟩,hJ⟩⟩
  ·obtain⟨j,rfl⟩:∃ i:Nat,j=i:=⟨j.toNat,by omega⟩
   obtain⟨k,hk⟩:∃ k,p[j]?=some k:=⟨_,gE (by omega)⟩
   obtain⟨b,o,rfl,hs⟩:=hr.scAt hh hk
   have hb:=hC b hs.C
   obtain⟨a2,hc2,hr2⟩:=hs.out
   obtain⟨hp1,hp2,_⟩:=hh j k hk
   have hv1:wr.cell? ⟨b,o+1,none⟩=some (.int .i64 k.kind):=(hB.cell (p:=⟨b,o+1,none⟩) hb).trans hs.kind
   have hv0:wr.cell? ⟨b,o,none⟩=some (.int .i64 j):=(hB.cell (p:=⟨b,o,none⟩) hb).trans hs.idx
   have hv2:wr.cell? ⟨b,o+2,none⟩=some (.pointer a2):=(hB.cell (p:=⟨b,o+2,none⟩) hb).trans hc2
   have hlf:∀ W',Below w0.heap.size w0 W'→lft (.pointer a2) W'<lft (.pointer (some ⟨b,o,none⟩)) wr:=by
    intro W' hB'
    have e:lft (.pointer (some ⟨b,o,none⟩)) wr=j+1:=by simp [lft,hv0]
    rw [e]
    by_cases hn:k.parent<0
    ·have:(Value.pointer a2)=.pointer none:=hr2.scNil hn
     obtain rfl:a2=none:=by simpa using this
     simp [lft]
    ·obtain⟨q,hq⟩:∃ q:Nat,k.parent=q:=⟨k.parent.toNat,by omega⟩
     obtain⟨r,hqr⟩:∃ r,p[q]?=some r:=⟨_,gE (by omega)⟩
     rw [hq] at hr2
     obtain⟨b',o',e',hs'⟩:=hr2.scAt hh hqr
     obtain rfl:a2=some ⟨b',o',none⟩:=by simpa using e'
     have hb':=hC b' hs'.C
     have:W'.cell? ⟨b',o',none⟩=some (.int .i64 q):=(hB'.cell (p:=⟨b',o',none⟩) hb').trans hs'.idx
     simp [lft,this]
     omega
   by_cases hk1:k.kind=1
   ·rw [hk1] at hv1
    have hlen:=hpath.len hh
    have hjj:=(gS hk0).1
    have hpp:=(hh j0 k0 hk0).2.1
    simp only [List.length_map] at hlen
    obtain⟨fn,tmps,assign,body,hy,hR⟩:=hY pre ⟨(some ⟨b,o,none⟩,j),k,hk,hk1,hr⟩ wr hJ (by omega)
    dsimp only at hy
    gi_wp2
    refine hR.mono ?_
    rintro e W3 (⟨rfl,hJ3,hk3⟩|⟨rfl,hJx3⟩)
    ·have hB3:=hB.trans hk3
     have hq3:W3.cell? ⟨b,o+2,none⟩=some (.pointer a2):=(hB3.cell (p:=⟨b,o+2,none⟩) hb).trans hc2
     gi_wp2
     go_roundw
     case rel=>exact⟨_,k.parent,hr2,by omega,by simpa using hpath.stepR hk hk1,hJ3,hB3⟩
     case measure=>exact hlf _ hB3
    ·gi_wp2
     refine bodyPost_ret (results_none rfl _ _ _) rfl ?_
     exact⟨⟨_,rfl⟩,.inr ⟨_,⟨k.parent,by simpa using hpath.stepR hk hk1⟩,hJx3⟩⟩
   ·have hk2:(k.kind==1)=false:=by simpa using hk1
    gi_wp2
    refine⟨fun _ h=>(by cases h),?_⟩
    gi_wp2
    go_roundw
    case rel=>exact⟨_,k.parent,hr2,by omega,hpath.skipR hk hk1,hJ,hB⟩
    case measure=>exact hlf _ hB
theorem qJj (n Bn:Nat) (p:Prg) (hh:zj p) (g:Gh) (w0 w:World) (hC:∀ b,g.C b→b<w0.heap.size) (j0:Nat) (k0:Blk) (hk0:p[j0]?=some k0) (a0:Option Addr) (ha0:RV g w0 (.pointer a0) (z8 p j0)) (hn:1≤n)
  (hw:Below w0.heap.size w0 w) (hBl:Bn<w.heap.size) (hc:w.cell? ⟨Bn,0,none⟩=some (.pointer a0)) :
  SeqStopsK Fence.wide n Tryz.prog 168 #[.pointer (some ⟨Bn,0,none⟩)] (fun x:qP4 g w0 p=>#[Value.pointer x.1.1]) (Below w0.heap.size)
   (fun ys=>∃ j,j<0∧Path p k0.parent (ys.map (fun y:qP4 g w0 p=>y.1.2)) j) (fun pre=>∃ j,Path p k0.parent (pre.map (fun y:qP4 g w0 p=>y.1.2)) j) p.length w:=fun l J Jx W hW _ _ hY h0 =>
 qR8 n l Bn p hh g w0 hC j0 k0 hk0 a0 ha0 J Jx hn hY W (hw.trans (hW.mono hw.size)) ((hW.cell (p:=⟨Bn,0,none⟩) hBl).trans hc) h0
theorem wo (n:Nat) (a0:Option Addr) (w:World) :
  CallsIn Fence.wide n Tryz.prog 144 #[.pointer a0] w fun e w'=>e=.returned (.func (.func 168) #[] #[.pointer (some ⟨w.heap.size,0,none⟩)])∧w'=w.alloc (.cells #[.pointer a0] 125):=by
 refine callsIn_of_wp Tryz.func144 rfl trivial ?_ rfl
 simp only [Tryz.ntmps144,List.size_toArray,List.length_cons,List.length_nil,Nat.reduceAdd,Nat.reduceSub,Array.replicate_succ,Array.replicate_zero,List.push_toArray,List.append_toArray,List.nil_append,List.cons_append]
 gi_wp2
 go_ret
 exact⟨rfl,rfl⟩
end Go.Proofs.YtbgmnmnoaamgkaaGreatDoor
end
