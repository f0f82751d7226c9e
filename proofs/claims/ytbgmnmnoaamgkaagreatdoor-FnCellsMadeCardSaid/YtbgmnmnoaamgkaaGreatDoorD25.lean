/-
  Own texts, joined by mkclaim.py: Gn, Ka, Kb, Kj, Kl, Yh.
-/
import Derived.Test.YtbgmnmnoaamgkaaGreatDoorD24
import Derived.Test.YtbgmnmnoaamgkaaGreatDoorD10
import Derived.Test.YtbgmnmnoaamgkaaGreatDoorD12
import Derived.Test.YtbgmnmnoaamgkaaGreatDoorD11
import Derived.Test.YtbgmnmnoaamgkaaGreatDoorD16
import Derived.Test.YtbgmnmnoaamgkaaGreatDoorD14
set_option linter.unusedSimpArgs false
set_option linter.unusedVariables false
set_option maxRecDepth 100000
set_option maxHeartbeats 4000000

section
namespace Go.Proofs.YtbgmnmnoaamgkaaGreatDoor
open Go Go.Hm Go.Proofs
theorem u3 (gl) (p:Prg) (c b:Nat) (hs:Sml p) (hh:z6 p) (hc:c<p.length):qV Tryz.prog gl 137 [pav p,iv c,iv b] (fun _ z _=>z=bv (zJ p c b)):=by
 refine qV.of_sem Tryz.func137 rfl (by kernel_rfl) (rs:=[.tmp 6]) rfl Tryz.ntmps137 (lB rfl) fun C w g root=>?_
 have fx:=fx0
 refine qB ?_
 clear fx
 refine qY (fun n st=>∃ j:Int,n=(j+1).toNat ∧ -1≤j∧j<p.length∧zJ p j b=zJ p c b∧st.tm 1=iv j∧st.tm 2=iv b∧st.tm 3=.pt (.s 3) 0∧st.hp (.s 3)=some (.row 1 [[ksl p]])) (c+1) ?_ ?_
 ·exact⟨c,by omega,by omega,by omega,rfl,by simp⟩
 rintro n st - - ⟨j,rfl,hj1,hj2,ho,h1,h2,h3,hp3⟩
 have fx:=aI h1<|aI h2<|aI h3<|hp3
 refine qB ?_
 clear fx
 refine ub (by simp [];first|done|rfl|exact (Bool.not_not _).symm) (fun ht=>?_) (fun hf=>?_)
 ·have hj0:(b:Int)<j:=by simpa using ht
  obtain⟨j,rfl⟩:∃ i:Nat,j=i:=⟨j.toNat,by omega⟩
  obtain⟨q,hq⟩:∃ q,p[j]?=some q:=⟨_,gE (by omega)⟩
  obtain⟨hq1,hq2,_⟩:=hh j q hq
  have fx:=aI h1<|aI h2<|aI h3<|aI hp3<|hq
  refine qB ?_
  clear fx
  refine⟨(q.parent+1).toNat,by omega,q.parent,rfl,hq1,by omega,?_,by simp [h2,h3,hp3]⟩
  rw [← ho,jB hh (by omega) hq hj0]
 ·have hj:j≤b:=by simpa using hf
  all_goals have fx:=aI h1<|h2
  repeat' (first
   | refine qf ?_|refine qj fun K hK=>?_
   | ((with_reducible refine qc hK ?_);clear hK K)
   | (with_reducible first|refine qD ?_)
   | refine jS ?_
   | refine qw ?_
   | (with_reducible first|refine qO ?_|refine qG (h:=?_))
   | (with_reducible refine x_q (h:=?_))
   | fail)
  all_goals try clear fx
  rw [jU hj] at ho
  refine qF [] .nil (by simp;rfl) ?_
  rw [← ho]
  rfl
theorem qNr (gl) (p:Prg) (b:Nat) (k:Blk) (hk:p[b]?=some k) (hs:BSm k):qV Tryz.prog gl 167 [pav p,iv b] (fun r y H'=>y=.hs r 1 0 k.rd.length∧H' r=some (.row 1 (qJ k.rd))):=qQp gl p b k hk hs.body
theorem qGw (gl) (p:Prg) (b:Nat) (k:Blk) (hk:p[b]?=some k) (hs:BSm k):qV Tryz.prog gl 136 [pav p,iv b] (fun r y H'=>y=.hs r 1 0 k.us.length∧H' r=some (.row 1 (qJ k.us))):=by
 have l1:=k.rd_len
 have l2:=k.bd_len
 have l3:=k.dc_len 9
 have l4:=k.dc_len 10
 have t1:(k.rd++k.bd).take (k.rd.length+k.bd.length)=k.rd++k.bd:=List.take_of_length_le (by simp)
 have t2:(k.rd++(k.bd++k.dc 9)).take (k.rd.length+k.bd.length+(k.dc 9).length)=k.rd++(k.bd++k.dc 9):=List.take_of_length_le (by simp;omega)
 have hu:k.us=sorted (k.rd++(k.bd++(k.dc 9++k.dc 10))):=by simp [Blk.us]
 rw [hu]
 refine qV.of_sem Tryz.func136 rfl (by kernel_rfl) (rs:=[.tmp 4]) rfl Tryz.ntmps136 (lB rfl) fun C w g root=>?_
 all_goals have fx:=aI hk<|aI t1<|t2
 repeat' (first
  | refine qf ?_|refine qj fun K hK=>?_
  | ((with_reducible refine qc hK ?_);clear hK K)
  | (with_reducible first|refine qD ?_|refine qCL ?_)
  | refine qw ?_
  | (with_reducible first|refine qO ?_|refine qG (h:=?_)|refine zp (h:=?_)|refine jP (T:=42) (h:=?_))
  | ((with_reducible refine z7 167 rfl ?_);refine jK (hF:=qNr _ p b k hk hs) (h:=?_))
  | ((with_reducible refine z7 165 rfl ?_);refine jK (hF:=qIx _ p b k hk hs) (h:=?_))
  | ((with_reducible refine z7 92 rfl ?_);refine jK (hF:=zm _ p b k _ hk hs) (h:=?_))
  | ((with_reducible refine z7 129 rfl ?_);refine jK (hF:=vD _ (k.rd++(k.bd++(k.dc 9++k.dc 10))) (by simp;omega)) (h:=?_))
  | (refine wSc (id:=1) (.q 0<|.q 1<|.q 3<|.q 4<|.q 7<|.q 8<|.q 11<|.q 12<|.l 2 [12,11,8,7,4,3]<|.l 5 [12,11,8,7]<|.l 6 [12,11,8,7]<|.l 9 [12,11]<|.l 10 [12,11]<|.l 13 []<|.l 14 []<|.l 15 []<|.l 16 []<|.done) qA fun K hK=>?_)
  | ((with_reducible refine wL hK ?_);clear hK K)
  | ((with_reducible refine qDo ?_);first|refine qKR (h:=?_))
  | refine a_l rfl ?_|(with_reducible refine aI ?_ ?_)|exact kJ|refine qBw (h2:=?_)
  | fail)
 all_goals try clear fx
 all_goals
  exact zY (t:=4) (by first|(simp [];done)|(simp [];rfl)) (by first|(simp [];done)|(simp [];rfl)) (by simp)
abbrev qE5:Sch:=.q 0<|.q 1<|.q 2<|.q 3<|.q 4<|.q 5<|.q 7<|.l 6 [7]<|.q 8<|.done
abbrev qDJ:Sch:=.q 0<|.q 1<|.q 2<|.q 3<|.q 4<|.q 5<|.l 6 []<|.l 7 []<|.done
theorem qFF {p:Prg} {b c:Nat} (h:b+1≤c):jD p b (c+1 - (b+1))=jD p b (c - (b+1))++uy p b c:=by
 rw [show c+1 - (b+1)=c - (b+1)+1 by omega,qFE,show b+1+(c - (b+1))=c by omega]
theorem qEw {p:Prg} {b c:Nat} (h:b≤c):zi p b (c+1 - b)=zi p b (c - b)++vm p b c:=by
 rw [show c+1 - b=c - b+1 by omega,qEv,show b+(c - b)=c by omega]
theorem y5 (gl) (p:Prg) (b:Nat) (k:Blk) (hk:p[b]?=some k) (hs:Sml p) (hh:z6 p) (hl7:p.length≤7):qV Tryz.prog gl 134 [pav p,iv b] (fun r y H'=>y=.hs r 1 0 (qE p b).length∧H' r=some (.row 1 (qJ (qE p b)))):=by
 obtain⟨hbl,hbE⟩:=gS hk
 have hka:qi p b=k.kind:=by simp [qi,hk]
 have hw:IntKind.i64.wrap ((b:Int)+1)=((b+1:Nat):Int):=by rw [wrp (by omega) (by omega)];rfl
 refine qV.of_sem Tryz.func134 rfl (by kernel_rfl) (rs:=[.tmp 4]) rfl Tryz.ntmps134 (lB rfl) fun C w g root=>?_
 cases hkd:(k.kind==1)
 ·have hc:qE p b=sorted []:=by
   have:¬ k.kind=1:=by simpa using hkd
   simp [qE,hka,this]
   rfl
  rw [hc]
  have fx:= hw
  refine qB ?_
  repeat ((first|refine wSc (id:=9) qE5 qA ?_);refine qC ?_;refine qB ?_)
  clear fx
  refine qY (fun n st=>n=0∧st.tm 1=iv b∧st.tm 2=.pt (.s 2) 0∧st.hp (.s 2)=some (.row 1 [[ksl p]])∧st.tm 6=iv ((b+1:Nat):Int)∧st.tm 5=.hs (.s 5) 1 0 0∧st.hp (.s 5)=some (.row 1 [])) 0 ?_ ?_
  ·exact⟨rfl,by simp⟩
  rintro n st - - ⟨rfl,h1,h2,hp2,h6,h5,hp5⟩
  generalize hc0:b+1=c at h6
  by_cases hlt:c<p.length
  ·skip
   have fx:=aI h1<|aI h2<|aI hp2<|aI h6<|aI h5<|aI hp5<|aI hk<|aI hbE<|aI hkd<|aI hlt<|hbl
   have d1:=vD gl [] (by simp)
   refine qB ?_
   repeat ((first|refine wSc (id:=9) qE5 qA ?_);refine qC ?_;refine qB ?_)
   clear fx d1
   exact zY (t:=4) (by first|(simp [];done)|(simp [];rfl)) (by first|(simp [];done)|(simp [];rfl)) (by simp)
  ·skip
   have fx:=aI h1<|aI h2<|aI hp2<|aI h6<|aI h5<|aI hp5<|aI hk<|aI hbE<|aI hkd<|aI hlt<|hbl
   have d1:=vD gl [] (by simp)
   refine qB ?_
   repeat ((first|refine wSc (id:=9) qE5 qA ?_);refine qC ?_;refine qB ?_)
   clear fx d1
   exact zY (t:=4) (by first|(simp [];done)|(simp [];rfl)) (by first|(simp [];done)|(simp [];rfl)) (by simp)
 have hc:qE p b=sorted (jD p b (p.length - (b+1))):=by
  have:k.kind=1:=by simpa using hkd
  simp [qE,hka,this]
 rw [hc]
 have fx:= hw
 refine qB ?_
 repeat ((first|refine wSc (id:=9) qE5 qA ?_);refine qC ?_;refine qB ?_)
 clear fx
 refine qY (fun n st=>∃ c:Nat,n=p.length - c∧b+1≤c∧c≤p.length∧st.tm 1=iv b∧st.tm 2=.pt (.s 2) 0∧st.hp (.s 2)=some (.row 1 [[ksl p]])∧st.tm 6=iv c∧st.tm 5=.hs (.s 5) 1 0 (jD p b (c - (b+1))).length∧st.hp (.s 5)=some (.row 1 (qJ (jD p b (c - (b+1)))))) (p.length - (b+1)) ?_ ?_
 ·exact⟨b+1,rfl,by omega,by omega,by simp,by simp,by simp,by simp,by simp [jD,vj],by simp [jD,vj]⟩
 rintro n st - - ⟨c,rfl,hc1,hc2,h1,h2,hp2,h6,h5,hp5⟩
 have hcl:=qB3 (p:=p) (b:=b) (n:=c)
 have hrl:=qGg (p:=p) (b:=b) (n:=c - (b+1))
 by_cases hlt:c<p.length
 ·obtain⟨q,hq⟩:∃ q,p[c]?=some q:=⟨_,gE hlt⟩
  have hul:=q.us_len
  have hnext:=qFF (p:=p) hc1
  have hat:uy p b c=q.us.filter (vI p b c):=by simp [uy,hq]
  rw [hat] at hnext
  generalize hR:jD p b (c - (b+1))=R at h5 hp5 hnext hrl
  have fx:=aI h1<|aI h2<|aI hp2<|aI h6<|aI h5<|aI hp5<|aI hk<|aI hbE<|aI hkd<|aI hlt<|aI hbl<|hq
  have d1:=qGw gl p c q hq (hs.bsm hq)
  refine qB ?_
  repeat ((first|refine wSc (id:=9) qE5 qA ?_);refine qC ?_;refine qB ?_)
  clear fx d1
  refine qY (fun n st=>∃ i:Nat,n=q.us.length - i∧i≤q.us.length∧st.tm 1=iv b∧st.tm 2=.pt (.s 2) 0∧st.hp (.s 2)=some (.row 1 [[ksl p]])∧st.tm 6=iv c∧st.tm 7=.hs (.s 7) 1 0 q.us.length∧st.hp (.s 7)=some (.row 1 (qJ q.us))∧st.tm 8=iv i∧st.tm 5=.hs (.s 5) 1 0 (R++(q.us.take i).filter (vI p b c)).length∧st.hp (.s 5)=some (.row 1 (qJ (R++(q.us.take i).filter (vI p b c))))) q.us.length ?_ ?_
  ·exact⟨0,by omega,by omega,by simp [h1],by simp [h2],by simp [hp2],by simp [h6],by simp,by simp,by simp,by simp [h5],by simp [hp5]⟩
  clear h1 h2 hp2 h6 h5 hp5
  rintro n st - - ⟨i,rfl,hi,h1,h2,hp2,h6,h7,hp7,h8,h5,hp5⟩
  have hfl:((q.us.take i).filter (vI p b c)).length≤8:=um (Nat.le_trans (List.length_take_le' _ _) hul)
  have hLl:(R++(q.us.take i).filter (vI p b c)).length≤1000:=by simp;omega
  by_cases hil:i<q.us.length
  ·obtain⟨u,hu⟩:∃ u,q.us[i]?=some u:=⟨_,gE hil⟩
   obtain⟨_,huE⟩:=gS hu
   have hnx:R++(q.us.take (i+1)).filter (vI p b c)=R++(q.us.take i).filter (vI p b c)++(if vI p b c u=true then [u] else []):=by rw [qy hu,List.append_assoc]
   generalize hL:R++(q.us.take i).filter (vI p b c)=L at h5 hp5 hnx hLl
   cases ho:(qz p c u==(b:Int))
   ·rw [if_neg (by simp only [vI,ho];decide),List.append_nil] at hnx
    have fx:=aI h1<|aI h2<|aI hp2<|aI h6<|aI h7<|aI hp7<|aI h8<|aI h5<|aI hp5<|aI hq<|aI hu<|aI huE<|aI hil<|ho
    have c1:=vW gl p c q u hq hs hh
    refine qB ?_
    repeat ((first|refine wSc (id:=9) qE5 qA ?_);refine qC ?_;refine qB ?_)
    clear fx c1
    exact⟨q.us.length - (i+1),by omega,i+1,rfl,by omega,by simp [h1],by simp [h2],by simp [hp2],by simp [h6],by simp [h7],by simp [hp7],by simp;exact wrp (by omega) (by omega),by simp [hnx,h5],by simp [hnx,hp5]⟩
   ·rw [if_pos (by simp only [vI,ho])] at hnx
    have fx:=aI h1<|aI h2<|aI hp2<|aI h6<|aI h7<|aI hp7<|aI h8<|aI h5<|aI hp5<|aI hq<|aI hu<|aI huE<|aI hil<|aI ho<|hLl
    have c1:=vW gl p c q u hq hs hh
    refine qB ?_
    repeat ((first|refine wSc (id:=9) qE5 qA ?_);refine qC ?_;refine qB ?_)
    clear fx c1
    refine⟨q.us.length - (i+1),by omega,i+1,rfl,by omega,by simp [h1],by simp [h2],by simp [hp2],by simp [h6],by simp [h7],by simp [hp7],by simp;exact wrp (by omega) (by omega),by simp [hnx,h5],?_⟩
    rw [hnx]
    simp [hp5,qJ]
  ·have hge:i=q.us.length:=by omega
   rw [hge,List.take_length,← hnext] at h5 hp5
   have fx:=aI h1<|aI h2<|aI hp2<|aI h6<|aI h7<|aI hp7<|aI h8<|hil
   refine qB ?_
   repeat ((first|refine wSc (id:=9) qE5 qA ?_);refine qC ?_;refine qB ?_)
   clear fx
   exact⟨p.length - (c+1),by omega,c+1,rfl,by omega,by omega,by simp [h1],by simp [h2],by simp [hp2],by simp [h6];exact wrp (by omega) (by omega),by simp [h5],by simp [hp5]⟩
 ·have hge:c=p.length:=by omega
  subst hge
  have fx:=aI h1<|aI h2<|aI hp2<|aI h6<|aI h5<|aI hp5<|aI hk<|aI hbE<|aI hkd<|aI hlt<|hbl
  have d1:=vD gl (jD p b (p.length - (b+1))) (by omega)
  refine qB ?_
  repeat ((first|refine wSc (id:=9) qE5 qA ?_);refine qC ?_;refine qB ?_)
  clear fx d1
  exact zY (t:=4) (by first|(simp [];done)|(simp [];rfl)) (by first|(simp [];done)|(simp [];rfl)) (by simp)
theorem qEu (gl) (p:Prg) (b:Nat) (hbl:b<p.length) (hs:Sml p) (hh:z6 p) (hl7:p.length≤7):qV Tryz.prog gl 96 [pav p,iv b] (fun r y H'=>y=.hs r 1 0 (qU p b).length∧H' r=some (.row 1 (qJ (qU p b)))):=by
 have hc:qU p b=sorted (zi p b (p.length - b)):=rfl
 rw [hc]
 refine qV.of_sem Tryz.func96 rfl (by kernel_rfl) (rs:=[.tmp 4]) rfl Tryz.ntmps96 (lB rfl) fun C w g root=>?_
 have fx:=fx0
 refine qB ?_
 repeat ((first|refine wSc (id:=9) qDJ qA ?_);refine qC ?_;refine qB ?_)
 clear fx
 refine qY (fun n st=>∃ c:Nat,n=p.length - c∧b≤c∧c≤p.length∧st.tm 1=iv b∧st.tm 2=.pt (.s 2) 0∧st.hp (.s 2)=some (.row 1 [[ksl p]])∧st.tm 6=iv c∧st.tm 5=.hs (.s 5) 1 0 (zi p b (c - b)).length∧st.hp (.s 5)=some (.row 1 (qJ (zi p b (c - b))))) (p.length - b) ?_ ?_
 ·exact⟨b,rfl,by omega,by omega,by simp,by simp,by simp,by simp,by simp [zi,vj],by simp [zi,vj]⟩
 rintro n st - - ⟨c,rfl,hc1,hc2,h1,h2,hp2,h6,h5,hp5⟩
 have hrl:=qB3 (p:=p) (b:=b) (n:=c - b)
 by_cases hlt:c<p.length
 ·obtain⟨q,hq⟩:∃ q,p[c]?=some q:=⟨_,gE hlt⟩
  have hul:=q.us_len
  have hnext:=qEw (p:=p) hc1
  cases hin:zJ p c b
  ·have hat:vm p b c=[]:=by simp [vm,hq,hin]
   rw [hat,List.append_nil] at hnext
   generalize hR:zi p b (c - b)=R at h5 hp5 hnext hrl
   have fx:=aI h1<|aI h2<|aI hp2<|aI h6<|aI h5<|aI hp5<|aI hlt<|hq
   have d1:=qGw gl p c q hq (hs.bsm hq)
   refine qB ?_
   repeat ((first|refine wSc (id:=9) qDJ qA ?_);refine qC ?_;refine qB ?_)
   clear fx d1
   refine qY (fun n st=>n=0∧st.tm 1=iv b∧st.tm 2=.pt (.s 2) 0∧st.hp (.s 2)=some (.row 1 [[ksl p]])∧st.tm 6=iv c∧st.tm 7=.hs (.s 7) 1 0 q.us.length∧st.hp (.s 7)=some (.row 1 (qJ q.us))∧st.tm 8=iv 0∧st.tm 5=.hs (.s 5) 1 0 R.length∧st.hp (.s 5)=some (.row 1 (qJ R))) 0 ?_ ?_
   ·exact⟨rfl,by simp [h1],by simp [h2],by simp [hp2],by simp [h6],by simp,by simp,by simp,by simp [h5],by simp [hp5]⟩
   clear h1 h2 hp2 h6 h5 hp5
   rintro n st - - ⟨rfl,h1,h2,hp2,h6,h7,hp7,h8,h5,hp5⟩
   by_cases hu0:0<q.us.length
   ·skip
    have fx:=aI h1<|aI h2<|aI hp2<|aI h6<|aI h7<|aI hp7<|aI h8<|aI h5<|aI hp5<|aI hq<|aI hu0<|hin
    have c1:=u3 gl p c b hs hh hlt
    refine qB ?_
    repeat ((first|refine wSc (id:=9) qDJ qA ?_);refine qC ?_;refine qB ?_)
    clear fx c1
    exact⟨p.length - (c+1),by omega,c+1,rfl,by omega,by omega,by simp [h1],by simp [h2],by simp [hp2],by simp [h6];exact wrp (by omega) (by omega),by simp [hnext,h5],by simp [hnext,hp5]⟩
   ·skip
    have fx:=aI h1<|aI h2<|aI hp2<|aI h6<|aI h7<|aI hp7<|aI h8<|aI h5<|aI hp5<|aI hq<|aI hu0<|hin
    have c1:=u3 gl p c b hs hh hlt
    refine qB ?_
    repeat ((first|refine wSc (id:=9) qDJ qA ?_);refine qC ?_;refine qB ?_)
    clear fx c1
    exact⟨p.length - (c+1),by omega,c+1,rfl,by omega,by omega,by simp [h1],by simp [h2],by simp [hp2],by simp [h6];exact wrp (by omega) (by omega),by simp [hnext,h5],by simp [hnext,hp5]⟩
  have hat:vm p b c=q.us.filter (yK p b c):=by simp [vm,hq,hin]
  rw [hat] at hnext
  generalize hR:zi p b (c - b)=R at h5 hp5 hnext hrl
  have fx:=aI h1<|aI h2<|aI hp2<|aI h6<|aI h5<|aI hp5<|aI hlt<|hq
  have d1:=qGw gl p c q hq (hs.bsm hq)
  refine qB ?_
  repeat ((first|refine wSc (id:=9) qDJ qA ?_);refine qC ?_;refine qB ?_)
  clear fx d1
  refine qY (fun n st=>∃ i:Nat,n=q.us.length - i∧i≤q.us.length∧st.tm 1=iv b∧st.tm 2=.pt (.s 2) 0∧st.hp (.s 2)=some (.row 1 [[ksl p]])∧st.tm 6=iv c∧st.tm 7=.hs (.s 7) 1 0 q.us.length∧st.hp (.s 7)=some (.row 1 (qJ q.us))∧st.tm 8=iv i∧st.tm 5=.hs (.s 5) 1 0 (R++(q.us.take i).filter (yK p b c)).length∧st.hp (.s 5)=some (.row 1 (qJ (R++(q.us.take i).filter (yK p b c))))) q.us.length ?_ ?_
  ·exact⟨0,by omega,by omega,by simp [h1],by simp [h2],by simp [hp2],by simp [h6],by simp,by simp,by simp,by simp [h5],by simp [hp5]⟩
  clear h1 h2 hp2 h6 h5 hp5
  rintro n st - - ⟨i,rfl,hi,h1,h2,hp2,h6,h7,hp7,h8,h5,hp5⟩
  have hfl:((q.us.take i).filter (yK p b c)).length≤8:=um (Nat.le_trans (List.length_take_le' _ _) hul)
  have hLl:(R++(q.us.take i).filter (yK p b c)).length≤1000:=by simp;omega
  by_cases hil:i<q.us.length
  ·obtain⟨u,hu⟩:∃ u,q.us[i]?=some u:=⟨_,gE hil⟩
   obtain⟨_,huE⟩:=gS hu
   have hnx:R++(q.us.take (i+1)).filter (yK p b c)=R++(q.us.take i).filter (yK p b c)++(if yK p b c u=true then [u] else []):=by rw [qy hu,List.append_assoc]
   generalize hL:R++(q.us.take i).filter (yK p b c)=L at h5 hp5 hnx hLl
   have no:yK p b c u=false→R++(q.us.take (i+1)).filter (yK p b c)=L:=fun h=>by rw [hnx,h,if_neg (by decide),List.append_nil]
   cases ho:decide (0<qz p c u)
   ·have hno:=no (by simp only [yK,ho];rfl)
    have fx:=aI h1<|aI h2<|aI hp2<|aI h6<|aI h7<|aI hp7<|aI h8<|aI h5<|aI hp5<|aI hq<|aI hu<|aI huE<|aI hil<|aI hin<|ho
    have c1:=u3 gl p c b hs hh hlt
    have c2:=vW gl p c q u hq hs hh
    refine qB ?_
    repeat ((first|refine wSc (id:=9) qDJ qA ?_);refine qC ?_;refine qB ?_)
    clear fx c1 c2
    exact⟨q.us.length - (i+1),by omega,i+1,rfl,by omega,by simp [h1],by simp [h2],by simp [hp2],by simp [h6],by simp [h7],by simp [hp7],by simp;exact wrp (by omega) (by omega),by simp [hno,h5],by simp [hno,hp5]⟩
   cases ho2:decide (qz p c u<b)
   ·have hno:=no (by simp only [yK,ho2];simp)
    have fx:=aI h1<|aI h2<|aI hp2<|aI h6<|aI h7<|aI hp7<|aI h8<|aI h5<|aI hp5<|aI hq<|aI hu<|aI huE<|aI hil<|aI hin<|aI ho<|ho2
    have c1:=u3 gl p c b hs hh hlt
    have c2:=vW gl p c q u hq hs hh
    refine qB ?_
    repeat ((first|refine wSc (id:=9) qDJ qA ?_);refine qC ?_;refine qB ?_)
    clear fx c1 c2
    exact⟨q.us.length - (i+1),by omega,i+1,rfl,by omega,by simp [h1],by simp [h2],by simp [hp2],by simp [h6],by simp [h7],by simp [hp7],by simp;exact wrp (by omega) (by omega),by simp [hno,h5],by simp [hno,hp5]⟩
   ·rw [if_pos (by simp only [yK,ho,ho2];rfl)] at hnx
    have fx:=aI h1<|aI h2<|aI hp2<|aI h6<|aI h7<|aI hp7<|aI h8<|aI h5<|aI hp5<|aI hq<|aI hu<|aI huE<|aI hil<|aI hin<|aI ho<|aI ho2<|hLl
    have c1:=u3 gl p c b hs hh hlt
    have c2:=vW gl p c q u hq hs hh
    refine qB ?_
    repeat ((first|refine wSc (id:=9) qDJ qA ?_);refine qC ?_;refine qB ?_)
    clear fx c1 c2
    refine⟨q.us.length - (i+1),by omega,i+1,rfl,by omega,by simp [h1],by simp [h2],by simp [hp2],by simp [h6],by simp [h7],by simp [hp7],by simp;exact wrp (by omega) (by omega),by simp [hnx,h5],?_⟩
    rw [hnx]
    simp [hp5,qJ]
  ·have hge:i=q.us.length:=by omega
   rw [hge,List.take_length,← hnext] at h5 hp5
   have fx:=aI h1<|aI h2<|aI hp2<|aI h6<|aI h7<|aI hp7<|aI h8<|aI hil<|hin
   have c1:=u3 gl p c b hs hh hlt
   refine qB ?_
   repeat ((first|refine wSc (id:=9) qDJ qA ?_);refine qC ?_;refine qB ?_)
   clear fx c1
   exact⟨p.length - (c+1),by omega,c+1,rfl,by omega,by omega,by simp [h1],by simp [h2],by simp [hp2],by simp [h6];exact wrp (by omega) (by omega),by simp [h5],by simp [hp5]⟩
 ·have hge:c=p.length:=by omega
  subst hge
  have fx:=aI h1<|aI h2<|aI hp2<|aI h6<|aI h5<|aI hp5<|hlt
  have d1:=vD gl (zi p b (p.length - b)) (by omega)
  refine qB ?_
  repeat ((first|refine wSc (id:=9) qDJ qA ?_);refine qC ?_;refine qB ?_)
  clear fx d1
  exact zY (t:=4) (by first|(simp [];done)|(simp [];rfl)) (by first|(simp [];done)|(simp [];rfl)) (by simp)
end Go.Proofs.YtbgmnmnoaamgkaaGreatDoor
end
section
namespace Go.Proofs.YtbgmnmnoaamgkaaGreatDoor
open Go Go.Hm Go.Proofs
structure LookP (p:Prg):Prop where
 sml:Sml p
 sh:ShapeP p
theorem LookP.heads {p:Prg} (h:LookP p):z6 p:=h.sh.heads
theorem LookP.len {p:Prg} (h:LookP p):p.length≤7:=h.sh.len.2
theorem qIp (gl) (p:Prg) (b:Nat) (k:Blk) (hk:p[b]?=some k) (hP:LookP p):qV Tryz.prog gl 133 [pav p,iv b] (fun r y H'=>y=.hs r 1 0 (qI p b).length∧H' r=some (.row 1 (qJ (qI p b)))):=by
 have hs:=hP.sml
 have hh:=hP.heads
 have hl7:=hP.len
 obtain⟨hbl,hbE⟩:=gS hk
 have hka:qi p b=k.kind:=by simp [qi,hk]
 have hcl:=zV (p:=p) (b:=b)
 refine qV.of_sem Tryz.func133 rfl (by kernel_rfl) (rs:=[.tmp 4]) rfl Tryz.ntmps133 (lB rfl) fun C w g root=>?_
 cases hkd:(k.kind==1)
 ·have hc:qI p b=[]:=by
   have:¬ k.kind=1:=by simpa using hkd
   simp [qI,hka,this]
  rw [hc]
  have fx:=fx0
  have d1:=y5 gl p b k hk hs hh hl7
  refine qB ?_
  clear fx d1
  refine qY (fun n st=>n=0∧st.tm 1=iv b∧st.tm 2=.pt (.s 2) 0∧st.hp (.s 2)=some (.row 1 [[ksl p]])∧st.tm 7=iv 0∧st.tm 5=.hs (.s 5) 1 0 0∧st.hp (.s 5)=some (.row 1 [])) 0 ?_ ?_
  ·exact⟨rfl,by simp⟩
  rintro n st - - ⟨rfl,h1,h2,hp2,h7,h5,hp5⟩
  have fx:=aI h1<|aI h2<|aI hp2<|aI h7<|aI h5<|aI hp5<|aI hk<|aI hbE<|aI hkd<|hbl
  refine qB ?_
  clear fx
  exact zY (t:=4) (by first|(simp [hp5];done)|(simp [hp5];rfl)) (by first|(simp [hp5];done)|(simp [hp5];rfl)) (by simp)
 have hc:qI p b=qq (jz p b) 8:=by
  have:k.kind=1:=by simpa using hkd
  simp [qI,hka,this]
 rw [hc]
 have fx:=fx0
 have d1:=y5 gl p b k hk hs hh hl7
 refine qB ?_
 clear fx d1
 refine qY (fun n st=>∃ x:Nat,n=8 - x∧x≤8∧st.tm 1=iv b∧st.tm 2=.pt (.s 2) 0∧st.hp (.s 2)=some (.row 1 [[ksl p]])∧st.tm 7=iv x∧st.tm 6=.hs (.s 6) 1 0 (qE p b).length∧st.hp (.s 6)=some (.row 1 (qJ (qE p b)))∧st.tm 5=.hs (.s 5) 1 0 (qq (jz p b) x).length∧st.hp (.s 5)=some (.row 1 (qJ (qq (jz p b) x)))) 8 ?_ ?_
 ·exact⟨0,by omega,by omega,by simp,by simp,by simp,by simp,by simp,by simp,by simp [qq],by simp [qq]⟩
 rintro n st - - ⟨x,rfl,hx,h1,h2,hp2,h7,h6,hp6,h5,hp5⟩
 have hll:=qAu (f:=jz p b) x
 by_cases hlt:x<8
 ·have hx7:(x:Int)≤7:=by omega
  have hfi:jz p b x=(zZ b k x&&!decide ((x:Int)∈qE p b)):=by simp only [jz,hk]
  have hnext:qq (jz p b) (x+1)=if jz p b x=true then qq (jz p b) x++[(x:Int)] else qq (jz p b) x:=rfl
  generalize hL:qq (jz p b) x=L at h5 hp5 hnext hll
  cases hlo:zZ b k x
  ·rw [if_neg (by rw [hfi,hlo];simp)] at hnext
   all_goals have fx:=aI h1<|aI h2<|aI hp2<|aI h7<|aI h6<|aI hp6<|aI h5<|aI hp5<|aI hk<|aI hbE<|aI hkd<|aI hbl<|aI hx7<|hlo
   repeat' (first
    | refine qf ?_|refine qS ?_|refine q7 ?_|refine qj fun K hK=>?_
    | ((with_reducible refine qc hK ?_);clear hK K)
    | (with_reducible first|refine qD ?_)
    | (with_reducible refine qO ?_)
    | ((with_reducible refine vR ?_);refine q6 (h:=?_))
    | (with_reducible first|refine jV ?_|refine uz (h:=?_)|refine qG (h:=?_))
    | ((with_reducible refine z7 131 rfl ?_);refine qM (hF:=uZ _ p b k x hk (hs.bsm hk)) (h:=?_))
    | (with_reducible refine x_q (h:=?_))
    | refine qR (h1:=?_)|refine qg (h1:=?_)
    | fail)
   all_goals try clear fx
   exact⟨8 - (x+1),by omega,x+1,rfl,by omega,by simp [h1],by simp [h2],by simp [hp2],by simp [h7];exact wrp (by omega) (by omega),by simp [h6],by simp [hp6],by simp [hnext,h5],by simp [hnext,hp5]⟩
  cases hce:decide ((x:Int)∈qE p b)
  rotate_left
  ·rw [if_neg (by rw [hfi,hlo,hce];decide)] at hnext
   all_goals have fx:=aI h1<|aI h2<|aI hp2<|aI h7<|aI h6<|aI hp6<|aI h5<|aI hp5<|aI hk<|aI hbE<|aI hkd<|aI hbl<|aI hx7<|aI hlo<|hce
   repeat' (first
    | refine qf ?_|refine qS ?_|refine q7 ?_|refine qj fun K hK=>?_
    | ((with_reducible refine qc hK ?_);clear hK K)
    | (with_reducible first|refine qD ?_)
    | (with_reducible refine qO ?_)
    | ((with_reducible refine vR ?_);refine q6 (h:=?_))
    | (with_reducible first|refine jV ?_|refine qG (h:=?_))
    | ((with_reducible refine z7 131 rfl ?_);refine qM (hF:=uZ _ p b k x hk (hs.bsm hk)) (h:=?_))
    | ((with_reducible refine z7 93 rfl ?_);refine qM (hF:=yJ _ _ _ (Nat.le_trans zV (by decide))) (h:=?_))
    | (with_reducible refine x_q (h:=?_))
    | refine qR (h1:=?_)|refine qg (h1:=?_)
    | fail)
   all_goals try clear fx
   exact⟨8 - (x+1),by omega,x+1,rfl,by omega,by simp [h1],by simp [h2],by simp [hp2],by simp [h7];exact wrp (by omega) (by omega),by simp [h6],by simp [hp6],by simp [hnext,h5],by simp [hnext,hp5]⟩
  ·rw [if_pos (by rw [hfi,hlo,hce];rfl)] at hnext
   all_goals have fx:=aI h1<|aI h2<|aI hp2<|aI h7<|aI h6<|aI hp6<|aI h5<|aI hp5<|aI hk<|aI hbE<|aI hkd<|aI hbl<|aI hx7<|aI hlo<|hce
   repeat' (first
    | refine qf ?_|refine qS ?_|refine q7 ?_|refine qj fun K hK=>?_
    | ((with_reducible refine qc hK ?_);clear hK K)
    | (with_reducible first|refine qD ?_)
    | (with_reducible refine qO ?_)
    | ((with_reducible refine vR ?_);refine q6 (h:=?_))
    | (with_reducible first|refine jV ?_|refine qG (h:=?_)|refine jP (T:=42) (h:=?_)|refine jp (h:=?_))
    | ((with_reducible refine z7 131 rfl ?_);refine qM (hF:=uZ _ p b k x hk (hs.bsm hk)) (h:=?_))
    | ((with_reducible refine z7 93 rfl ?_);refine qM (hF:=yJ _ _ _ (Nat.le_trans zV (by decide))) (h:=?_))
    | (with_reducible refine x_q (h:=?_))
    | refine qR (h1:=?_)
    | fail)
   all_goals try clear fx
   refine⟨8 - (x+1),by omega,x+1,rfl,by omega,by simp [h1],by simp [h2],by simp [hp2],by simp [h7];exact wrp (by omega) (by omega),by simp [h6],by simp [hp6],by simp [hnext,h5],?_⟩
   rw [hnext]
   simp [hp5,qJ]
 ·have hge:x=8:=by omega
  subst hge
  have fx:=aI h1<|aI h2<|aI hp2<|aI h7<|aI h5<|aI hp5<|aI hk<|aI hbE<|aI hkd<|hbl
  refine qB ?_
  clear fx
  exact zY (t:=4) (by first|(simp [hp5];done)|(simp [hp5];rfl)) (by first|(simp [hp5];done)|(simp [hp5];rfl)) (by simp)
theorem qB6 (gl) (p:Prg) (b:Nat) (k:Blk) (x:Int) (hk:p[b]?=some k) (hP:LookP p):qV Tryz.prog gl 97 [pav p,iv b,iv x] (fun _ y _=>y=iv (vS p b x)):=by
 have hs:=hP.sml
 have hh:=hP.heads
 have hl7:=hP.len
 have hbl:=(gS hk).1
 have hcl:=zV (p:=p) (b:=b)
 have hfl:=jW (p:=p) (b:=b)
 have hbd:=wA (xs:=qU p b) (x:=x)
 have hw:IntKind.i64.wrap (((qE p b).length:Int)+qm (qU p b) x)=(qE p b).length+qm (qU p b) x:=wrp (by omega) (by omega)
 refine qV.of_sem Tryz.func97 rfl (by kernel_rfl) (rs:=[.tmp 6]) rfl Tryz.ntmps97 (lB rfl) fun C w g root=>?_
 by_cases hm:x∈qE p b
 ·have h0:0≤qm (qE p b) x:=ze.2 hm
  all_goals have fx:= h0
  repeat' (first
   | refine qf ?_|refine qj fun K hK=>?_
   | ((with_reducible refine qc hK ?_);clear hK K)
   | (with_reducible first|refine qD ?_|refine qP ?_)
   | refine qw ?_
   | (with_reducible first|refine qO ?_|refine qG (h:=?_)|refine zp (h:=?_))
   | ((with_reducible refine z7 134 rfl ?_);refine jK (hF:=y5 _ p b k hk hs hh hl7) (h:=?_))
   | ((with_reducible refine z7 130 rfl ?_);refine qM (hF:=yY _ (qE p b) _ (by omega)) (h:=?_))
   | (with_reducible refine x_q (h:=?_))
   | refine qR (h1:=?_)
   | fail)
  all_goals try clear fx
  refine qF [] .nil (by simp;rfl) ?_
  simp [vS,hm]
 ·have h0:¬ 0≤qm (qE p b) x:=fun h=>hm (ze.1 h)
  all_goals have fx:=aI h0<|hw
  repeat' (first
   | refine qf ?_|refine q7 ?_|refine qj fun K hK=>?_
   | ((with_reducible refine qc hK ?_);clear hK K)
   | (with_reducible first|refine qD ?_)
   | refine qw ?_
   | (with_reducible first|refine qO ?_|refine qG (h:=?_)|refine zp (h:=?_))
   | ((with_reducible refine z7 134 rfl ?_);refine jK (hF:=y5 _ p b k hk hs hh hl7) (h:=?_))
   | ((with_reducible refine z7 96 rfl ?_);refine jK (hF:=qEu _ p b hbl hs hh hl7) (h:=?_))
   | ((with_reducible refine z7 130 rfl ?_);refine qM (hF:=yY _ (qE p b) _ (by omega)) (h:=?_))
   | ((with_reducible refine z7 130 rfl ?_);refine qM (hF:=yY _ (qU p b) _ (by omega)) (h:=?_))
   | (with_reducible refine x_q (h:=?_))
   | refine qg (h1:=?_)
   | fail)
  all_goals try clear fx
  refine qF [] .nil (by simp;rfl) ?_
  simp [vS,hm]
theorem qAJ (gl) (p:Prg) (b:Nat) (k:Blk) (x:Int) (hk:p[b]?=some k) (hP:LookP p):qV Tryz.prog gl 186 [pav p,iv b,iv x] (fun _ y _=>y=iv (zl p b x)):=by
 have hs:=hP.sml
 have hh:=hP.heads
 have hl7:=hP.len
 obtain⟨hbl,hbE⟩:=gS hk
 have hka:qi p b=k.kind:=by simp [qi,hk]
 refine qV.of_sem Tryz.func186 rfl (by kernel_rfl) (rs:=[.tmp 6]) rfl Tryz.ntmps186 (lB rfl) fun C w g root=>?_
 cases ho:decide (qz p b x<0)
 rotate_left
 ·skip
  have fx:= ho
  have c1:=vW gl p b k x hk hs hh
  refine qB ?_
  clear fx c1
  refine qF [] .nil (by simp;rfl) ?_
  have ho':qz p b x<0:=by simpa using ho
  simp [zl,ho']
 cases hb:(qz p b x==(b:Int))
 ·skip
  have fx:=aI ho<|aI hb<|@zU
  have c1:=vW gl p b k x hk hs hh
  refine qB ?_
  clear fx c1
  refine qF [] .nil (by simp;rfl) ?_
  have ho':¬ qz p b x<0:=by simpa using ho
  have hb':¬ qz p b x=b:=by simpa using hb
  simp only [zl,if_neg ho',if_pos hb']
  rfl
 have hb':qz p b x=b:=by simpa using hb
 have hnl:¬ qz p b x<0:=by omega
 have hnn:¬ qz p b x≠b:=fun h=>h hb'
 cases hkd:(k.kind==2)
 rotate_left
 ·skip
  have fx:=aI ho<|aI hb<|aI @zU<|aI hk<|aI hbE<|aI hbl<|hkd
  have c1:=vW gl p b k x hk hs hh
  refine qB ?_
  clear fx c1
  refine qF [] .nil (by simp;rfl) ?_
  have hkd':k.kind=2:=by simpa using hkd
  simp only [zl,if_neg hnl,if_neg hnn,hka,if_pos hkd']
  rfl
 have hkd':¬ k.kind=2:=by simpa using hkd
 cases hce:decide (x∈qE p b)
 all_goals
  all_goals have fx:=aI ho<|aI hb<|aI @zU<|aI hk<|aI hbE<|aI hbl<|aI hkd<|hce
  repeat' (first
   | refine qf ?_|refine qS ?_|refine q7 ?_|refine qj fun K hK=>?_
   | ((with_reducible refine qc hK ?_);clear hK K)
   | (with_reducible first|refine qD ?_|refine qP ?_|refine zK ?_)
   | refine qw ?_
   | (with_reducible first|refine qO ?_|refine qG (h:=?_)|refine zp (h:=?_))
   | ((with_reducible refine z7 138 rfl ?_);refine qM (hF:=vW _ p b k x hk hs hh) (h:=?_))
   | ((with_reducible refine z7 134 rfl ?_);refine jK (hF:=y5 _ p b k hk hs hh hl7) (h:=?_))
   | ((with_reducible refine z7 93 rfl ?_);refine qM (hF:=yJ _ _ _ (Nat.le_trans zV (by decide))) (h:=?_))
   | (with_reducible refine x_q (h:=?_))
   | refine qR (h1:=?_)|refine qg (h1:=?_)
   | fail)
  all_goals try clear fx
  refine qF [] .nil (by simp;rfl) ?_
  simp at hce
  simp only [zl,if_neg hnl,if_neg hnn,hka,if_neg hkd',hce]
  rfl
theorem qCd (gl) (p:Prg) (b:Nat) (k:Blk) (x w:Int) (hk:p[b]?=some k) (hP:LookP p) (hw0:0≤w) (hw2:w≤2):qV Tryz.prog gl 166 [pav p,iv b,iv x,iv w] (fun _ y _=>y=.agg [iv (zG p b x w).1,iv (zG p b x w).2]):=by
 have hw8:IntKind.i64.wrap (8+w)=8+w:=wrp (by omega) (by omega)
 have hw11:IntKind.i64.wrap (11+w)=11+w:=wrp (by omega) (by omega)
 have hw22:IntKind.i64.wrap (2+w)=2+w:=wrp (by omega) (by omega)
 have hw5:IntKind.i64.wrap (5+w)=5+w:=wrp (by omega) (by omega)
 refine qV.of_sem Tryz.func166 rfl (by kernel_rfl) (rs:=[.cell 8 157]) rfl Tryz.ntmps166 (lB rfl) fun C w g root=>?_
 cases h0:(zl p b x==0)
 rotate_left
 ·have h0':zl p b x=0:=by simpa using h0
  have fx:=aI h0<|hw8
  have c1:=qAJ gl p b k x hk hP
  refine qB ?_
  clear fx c1
  refine qF [] .nil (by simp;rfl) ?_
  simp [zG,h0']
 have h0':¬ zl p b x=0:=by simpa using h0
 cases h2:(zl p b x==2)
 rotate_left
 ·have h2':zl p b x=2:=by simpa using h2
  have fx:=aI h0<|aI h2<|hw11
  have c1:=qAJ gl p b k x hk hP
  refine qB ?_
  clear fx c1
  refine qF [] .nil (by simp;rfl) ?_
  simp [zG,h2']
 have h2':¬ zl p b x=2:=by simpa using h2
 cases h4:(zl p b x==4)
 rotate_left
 ·have h4':zl p b x=4:=by simpa using h4
  all_goals have fx:=aI h0<|aI h2<|aI h4<|hw22
  repeat' (first
   | refine qf ?_|refine qS ?_|refine qj fun K hK=>?_
   | ((with_reducible refine qc hK ?_);clear hK K)
   | (with_reducible first|refine qD ?_|refine qP ?_|refine zK ?_)
   | refine qw ?_
   | (with_reducible first|refine qO ?_|refine qG (h:=?_)|refine zp (h:=?_)|refine zk (h:=?_)|refine qp (h:=?_))
   | ((with_reducible refine z7 186 rfl ?_);refine qM (hF:=qAJ _ p b k x hk hP) (h:=?_))
   | ((with_reducible refine z7 133 rfl ?_);refine jK (hF:=qIp _ p b k hk hP) (h:=?_))
   | ((with_reducible refine z7 130 rfl ?_);refine qM (hF:=yY _ (qI p b) _ (Nat.le_trans yv (by decide))) (h:=?_))
   | (with_reducible refine x_q (h:=?_))
   | refine qR (h1:=?_)|refine qg (h1:=?_)
   | fail)
  all_goals try clear fx
  refine qF [] .nil (by simp;rfl) ?_
  simp [zG,h4']
 have h4':¬ zl p b x=4:=by simpa using h4
 have fx:=aI h0<|aI h2<|aI h4<|hw5
 have c1:=qAJ gl p b k x hk hP
 have c2:=qB6 gl p b k x hk hP
 refine qB ?_
 clear fx c1 c2
 refine qF [] .nil (by simp;rfl) ?_
 simp only [zG,if_neg h0',if_neg h2',if_neg h4']
 rfl
abbrev qRL:Sch:=.q 0<|.q 1<|.q 2<|.q 3<|.q 4<|.q 5<|.q 6<|.l 7 [0]<|.l 8 [0]<|.l 9 []<|.l 10 []<|.done
theorem qLd {k:Int} (h:0≤k∧k≤11):k=0∨k=1∨k=2∨k=3∨k=4∨k=5∨k=6∨k=7∨k=8∨k=9∨k=10∨k=11:=by omega
abbrev qH2 (p:Prg) (b:Nat) (s:Stm) (i:Nat):List (Int×Int):=(0,0)::(s.reads.take i).map fun x=>zG p b x 0
theorem qGF {p:Prg} {b:Nat} {s:Stm} {i:Nat} {u:Int} (h:s.reads[i]?=some u):qH2 p b s (i+1)=qH2 p b s i++[zG p b u 0]:=by
 simp [qH2,List.take_add_one,h]
theorem qFa {p:Prg} {b:Nat} {s:Stm}:vC p b s=qH2 p b s s.reads.length++(jh s++kD p b s):=by simp [vC,qH2,yg]
theorem qCG (gl) (p:Prg) (b:Nat) (k:Blk) (s:Stm) (hk:p[b]?=some k) (hP:LookP p) (hkd:0≤s.kind∧s.kind≤11):qV Tryz.prog gl 135 [pav p,iv b,s.av] (fun r y H'=>y=.hs r 2 0 (vC p b s).length∧H' r=some (.row 2 (j9 (vC p b s)))):=by
 have hrl:=s.reads_len
 rw [qFa]
 refine qV.of_sem Tryz.func135 rfl (by kernel_rfl) (rs:=[.tmp 6]) rfl Tryz.ntmps135 (lB rfl) fun C w g root=>?_
 have fx:=fx0
 have d1:=qAp gl s
 refine qB ?_
 repeat ((first|refine wSc (id:=6) qRL qA ?_);refine qC ?_;refine qB ?_)
 clear fx d1
 refine qY (fun n st=>∃ i:Nat,n=s.reads.length - i∧i≤s.reads.length∧st.tm 1=iv b∧st.tm 3=.pt (.s 3) 0∧st.hp (.s 3)=some (.row 1 [[ksl p]])∧st.tm 5=.pt (.s 5) 0∧st.hp (.s 5)=some (.row 4 [s.cells])∧st.tm 8=.hs (.s 8) 1 0 s.reads.length∧st.hp (.s 8)=some (.row 1 (qJ s.reads))∧st.tm 9=iv i∧st.tm 7=.hs (.s 7) 2 0 (qH2 p b s i).length∧st.hp (.s 7)=some (.row 2 (j9 (qH2 p b s i)))) s.reads.length ?_ ?_
 ·exact⟨0,by omega,by omega,by simp,by simp,by simp,by simp,by simp,by simp,by simp,by simp,by simp,by simp [j9]⟩
 rintro n st - - ⟨i,rfl,hi,h1,h3,hp3,h5,hp5,h8,hp8,h9,h7,hp7⟩
 have hll:(qH2 p b s i).length≤10:=by simp;omega
 by_cases hil:i<s.reads.length
 ·obtain⟨u,hu⟩:∃ u,s.reads[i]?=some u:=⟨_,gE hil⟩
  obtain⟨_,huE⟩:=gS hu
  have hnx:=qGF (p:=p) (b:=b) hu
  generalize hL:qH2 p b s i=L at h7 hp7 hnx hll
  have fx:=aI h1<|aI h3<|aI hp3<|aI h5<|aI hp5<|aI h8<|aI hp8<|aI h9<|aI h7<|aI hp7<|aI hu<|aI huE<|aI hil<|hll
  have c1:=qCd gl p b k u 0 hk hP (by decide) (by decide)
  refine qB ?_
  repeat ((first|refine wSc (id:=6) qRL qA ?_);refine qC ?_;refine qB ?_)
  clear fx c1
  refine⟨s.reads.length - (i+1),by omega,i+1,rfl,by omega,by simp [h1],by simp [h3],by simp [hp3],by simp [h5],by simp [hp5],by simp [h8],by simp [hp8],by simp;exact wrp (by omega) (by omega),by simp [hnx],?_⟩
  rw [hnx]
  simp [uV]
 ·have hge:i=s.reads.length:=by omega
  rw [hge] at h7 hp7 hll
  generalize hL:qH2 p b s s.reads.length=L at h7 hp7 hll
  have hw5:s.kind=5→IntKind.i64.wrap ((s.reads.length:Int) - 1)=(s.reads.length:Int) - 1:=fun _=>wrp (by omega) (by omega)
  obtain⟨kd,to,a,c⟩:=s
  simp only at hkd hw5
  rcases qLd hkd with rfl|rfl|rfl|rfl|rfl|rfl|rfl|rfl|rfl|rfl|rfl|rfl
  all_goals
   have fx:=aI h1<|aI h3<|aI hp3<|aI h5<|aI hp5<|aI h8<|aI hp8<|aI h9<|aI h7<|aI hp7<|aI hil<|aI hge<|aI hll<|hw5
   have c1:=qCd gl p b k to 1 hk hP (by decide) (by decide)
   have c2:=qCd gl p b k to 2 hk hP (by decide) (by decide)
   refine qB ?_
   repeat ((first|refine wSc (id:=6) qRL qA ?_);refine qC ?_;refine qB ?_)
   clear fx c1 c2
   refine zY (t:=6) ?_ ?_ ?_
   all_goals simp [jh,kD,uV,List.take_append,List.take_of_length_le,h7,hp7]
end Go.Proofs.YtbgmnmnoaamgkaaGreatDoor
end
section
namespace Go.Proofs.YtbgmnmnoaamgkaaGreatDoor
open Go Go.Hm Go.Proofs
abbrev qRK:Sch:=.q 0<|.q 1<|.q 2<|.q 3<|.q 4<|.q 5<|.q 6<|.q 7<|.q 8<|.q 9<|.q 10<|.q 11<|.q 13<|.q 14<|.q 16<|.q 17<|.q 19<|.q 20<|.l2 12 [20,19,17,16,14,13,6,5,4,3,2,1,0] (.l2 15 [20,19,17,16,6,5,4,3,2,1,0] (.l2 18 [20,19,6,5,4,3,2,1,0] (.l2 21 [6,5,4,3,2,1,0] (.q 22<|.l 23 [22,6,5,4,3,2,1,0]<|.l 24 []<|.done) 23 [20,19,6,5,4,3,2,1,0] (.l 21 [6,5,4,3,2,1,0]<|.q 22<|.l 24 []<|.done)) 23 [20,19,17,16,6,5,4,3,2,1,0] (.l 18 [20,19,6,5,4,3,2,1,0]<|.l 21 [6,5,4,3,2,1,0]<|.q 22<|.l 24 []<|.done)) 23 [20,19,17,16,14,13,6,5,4,3,2,1,0] (.l 15 [20,19,17,16,6,5,4,3,2,1,0]<|.l 18 [20,19,6,5,4,3,2,1,0]<|.l 21 [6,5,4,3,2,1,0]<|.q 22<|.l 24 []<|.done)) 23 [20,19,17,16,14,13,11,10,9,8,7,6,5,4,3,2,1,0] (.l 12 [20,19,17,16,14,13,6,5,4,3,2,1,0]<|.l 15 [20,19,17,16,6,5,4,3,2,1,0]<|.l 18 [20,19,6,5,4,3,2,1,0]<|.l 21 [6,5,4,3,2,1,0]<|.q 22<|.l 24 []<|.done)
abbrev qRJ:Sch:=.q 0<|.q 1<|.q 2<|.q 3<|.q 4<|.q 5<|.q 6<|.q 7<|.q 8<|.q 9<|.q 10<|.q 11<|.q 12<|.l 13 [7,6,5,4,1,0]<|.l 14 [7,6,5,4]<|.q 15<|.l 16 []<|.done
theorem qOV {p:Prg} (hs:Sml p) (h:jY p=true):LookP p:=by
 simp only [jY,Bool.and_eq_true] at h
 exact⟨hs,ShapeP.of hs h.1⟩
theorem qB9 (gl) (p:Prg) (b:Nat) (k:Blk) (hk:p[b]?=some k) (hP:LookP p):qV Tryz.prog gl 95 [pav p,iv b] (fun r y H'=>y=.agg ((q8 p b).own r 0)∧OwnK H' r 0 (q8 p b)):=by
 have hs:=hP.sml
 have hh:=hP.heads
 have hl7:=hP.len
 have hkm:=gM hk
 obtain⟨hbl,hbE⟩:=gS hk
 have hk12:=hP.sh.body k hkm
 have hkinds:=(hP.sh.names k hkm).kinds
 obtain⟨hpl,_⟩:=hs.bsm hk
 have hcode:q8 p b=⟨k.kind,k.params,qI p b,qE p b,qU p b,yE p b k.body⟩:=by simp [q8,jO,hk]
 rw [hcode]
 refine qV.of_sem Tryz.func95 rfl (by kernel_rfl) (rs:=[.cell 4 152]) rfl Tryz.ntmps95 (lB rfl) fun C w g root=>?_
 have fx:=aI hk<|aI hbE<|hbl
 have d1:=wt gl k.params (by omega)
 have d2:=qIp gl p b k hk hP
 have d3:=y5 gl p b k hk hs hh hl7
 have d4:=qEu gl p b hbl hs hh hl7
 refine qB ?_
 first|refine wSc (id:=1) qRK qA ?_|refine wSc (id:=5) qRJ qA ?_
 refine qP0 (fun st=>st.tm 1=iv b∧st.tm 2=.pt (.s 2) 0∧st.hp (.s 2)=some (.row 1 [[ksl p]])∧st.tm 6=iv 0∧st.tm 5=.pt (.s 5) 0∧st.tm 4=.pt (.s 4) 0∧st.hp (.s 4)=some (.row 6 [kW.own (.s 4) 0])∧st.hp (.s 5)=some (.row 6 [Cod.own (.s 5) 0 ⟨k.kind,k.params,qI p b,qE p b,qU p b,[]⟩])∧st.hp (.c (.s 5) 0 1)=some (.row 1 (qJ k.params))∧st.hp (.c (.s 5) 0 2)=some (.row 1 (qJ (qI p b)))∧st.hp (.c (.s 5) 0 3)=some (.row 1 (qJ (qE p b)))∧st.hp (.c (.s 5) 0 4)=some (.row 1 (qJ (qU p b)))∧st.hp (.c (.s 5) 0 5)=some (.row 2 [])) ?_
 clear fx d1 d2 d3 d4
 rintro st ⟨h1,h2,hp2,h6,h5,h4,hp4,hp5,q1,q2,q3,q4,q5⟩
 refine qY (fun n st=>∃ i:Nat,n=k.body.length - i∧i≤k.body.length∧st.tm 1=iv b∧st.tm 2=.pt (.s 2) 0∧st.hp (.s 2)=some (.row 1 [[ksl p]])∧st.tm 6=iv i∧st.tm 5=.pt (.s 5) 0∧st.tm 4=.pt (.s 4) 0∧st.hp (.s 4)=some (.row 6 [kW.own (.s 4) 0])∧∃ c:Cod,c=⟨k.kind,k.params,qI p b,qE p b,qU p b,yE p b (k.body.take i)⟩∧st.hp (.s 5)=some (.row 6 [c.own (.s 5) 0])∧OwnK st.hp (.s 5) 0 c) k.body.length ?_ ?_
 ·refine⟨0,by omega,by omega,h1,h2,hp2,h6,h5,h4,hp4,_,rfl,?_,⟨?_,?_,?_,?_,?_⟩⟩
  all_goals simp [yE,hp5,q1,q2,q3,q4,q5]
 clear h1 h2 hp2 h6 h5 h4 hp4 hp5 q1 q2 q3 q4 q5
 rintro n st - - ⟨i,rfl,hi,h1,h2,hp2,h6,h5,h4,hp4,c,hc,hp5,⟨o1,o2,o3,o4,o5⟩⟩
 have hll:=qAe (p:=p) (b:=b) (k.body.take i)
 rw [List.length_take] at hll
 by_cases hil:i<k.body.length
 ·obtain⟨s,hss⟩:∃ s,k.body[i]?=some s:=⟨_,gE hil⟩
  obtain⟨_,hsE⟩:=gS hss
  have hnx:=qDm (p:=p) (b:=b) hss
  have hsl:=qCB (p:=p) (b:=b) (s:=s)
  generalize hL:yE p b (k.body.take i)=L at hc hnx hll
  subst hc
  simp only [Cod.own_eq] at hp5 o1 o2 o3 o4 o5
  have fx:=aI h1<|aI h2<|aI hp2<|aI h6<|aI h5<|aI hp5<|aI o1<|aI o2<|aI o3<|aI o4<|aI o5<|aI hk<|aI hbE<|aI hbl<|aI hss<|aI hsE<|aI hil<|aI hll<|hsl
  have d1:=qCG gl p b k s hk hP (hkinds s (gM hss))
  refine qB ?_
  repeat ((first|refine wSc (id:=1) qRK qA ?_|refine wSc (id:=5) qRJ qA ?_);refine qC ?_;refine qB ?_)
  clear fx d1
  refine⟨k.body.length - (i+1),by omega,i+1,rfl,by omega,by simp [h1],by simp [h2],by simp [hp2],by simp;exact wrp (by omega) (by omega),by simp [h5],by simp [h4],by simp [hp4],_,rfl,?_,⟨?_,?_,?_,?_,?_⟩⟩
  all_goals simp [hnx,o1,o2,o3,o4,o5,hp5]
 ·have hge:i=k.body.length:=by omega
  subst hge
  rw [List.take_length] at hc
  subst hc
  simp only [Cod.own_eq] at hp5 o1 o2 o3 o4 o5
  have fx:=aI h1<|aI h2<|aI hp2<|aI h6<|aI h5<|aI h4<|aI hp4<|aI hp5<|aI o1<|aI o2<|aI o3<|aI o4<|aI o5<|aI hk<|aI hbE<|aI hbl<|hil
  refine qB ?_
  repeat ((first|refine wSc (id:=1) qRK qA ?_|refine wSc (id:=5) qRJ qA ?_);refine qC ?_;refine qB ?_)
  clear fx
  refine qF [(.s 5,root)] (.one rfl) (by simp [h4];rfl) ⟨?_,⟨?_,?_,?_,?_,?_⟩⟩
  all_goals simp [h4,o1,o2,o3,o4,o5]
theorem qEF (gl) (p:Prg) (hP:LookP p):qV Tryz.prog gl 65 [pav p] (fun r y H'=>y=.hs r 6 0 (qX p p.length).length∧OwnC H' r (qX p p.length)):=by
 have hl7:=hP.len
 refine qV.of_sem Tryz.func65 rfl (by kernel_rfl) (rs:=[.tmp 2]) rfl Tryz.ntmps65 (lB rfl) fun C w g root=>?_
 have fx:=fx0
 refine qB ?_
 clear fx
 refine qY (fun n st=>∃ i:Nat,n=p.length - i∧i≤p.length∧st.tm 1=.pt (.s 1) 0∧st.hp (.s 1)=some (.row 1 [[ksl p]])∧st.tm 4=iv i∧∃ cs:List Cod,cs=qX p i∧cs.length=i∧st.tm 3=.hs (.s 3) 6 0 cs.length∧OwnC st.hp (.s 3) cs) p.length ?_ ?_
 ·refine⟨0,by omega,by omega,by simp,by simp,by simp,[],by simp,rfl,by simp,⟨by simp,fun i c h=>by simp at h⟩⟩
 rintro n st - - ⟨i,rfl,hi,h1,hp1,h4,cs,hcs,hcl,h3,⟨ht,he⟩⟩
 by_cases hil:i<p.length
 ·obtain⟨k,hk⟩:∃ k,p[i]?=some k:=⟨_,gE hil⟩
  have hnx:=qB4 (p:=p) (n:=i)
  have hcc:=qB9 gl p i k hk hP
  rw [← hcs] at hnx
  generalize hC:q8 p i=c at hcc hnx
  have hcl7:cs.length≤7:=by omega
  have fx:=aI h1<|aI hp1<|aI h4<|hil
  have e1:=hcc
  refine qB ?_
  clear fx e1
  rintro K hK y H' ⟨rfl,hO⟩
  obtain⟨o1,o2,o3,o4,o5⟩:=hO.hcln
  refine⟨by simp,?_⟩
  have fx:=aI h1<|aI hp1<|aI h4<|aI h3<|aI ht<|aI hcl7<|aI o1<|aI o2<|aI o3<|aI o4<|o5
  refine qB ?_
  clear fx
  refine⟨p.length - (i+1),by omega,i+1,rfl,by omega,by simp [h1],by simp [hp1],by simp [h4];exact wrp (by omega) (by omega),cs++[c],hnx.symm,by simp [hcl],by simp,⟨?_,fun j d hj=>?_⟩⟩
  ·simp [ht,qDf]
  ·rcases Nat.lt_or_ge j cs.length with hlj|hgj
   ·rw [List.getElem?_append_left hlj] at hj
    have hne:¬ j=cs.length:=by omega
    obtain⟨e1,e2,e3,e4,e5⟩:=he j d hj
    exact⟨by simp [hne,e1],by simp [hne,e2],by simp [hne,e3],by simp [hne,e4],by simp [hne,e5]⟩
   ·rw [List.getElem?_append_right hgj] at hj
    obtain rfl:j=cs.length:=by
     have:=(gS hj).1
     simp at this
     omega
    simp at hj
    subst hj
    exact⟨by simp [o1],by simp [o2],by simp [o3],by simp [o4],by simp [o5]⟩
 ·have hge:i=p.length:=by omega
  subst hge
  subst hcs
  have fx:=aI h1<|aI hp1<|aI h4<|aI hil<|aI h3<|ht
  refine qB ?_
  clear fx
  refine qF [(.s 2,root)] (.one rfl) (by simp;rfl) ⟨by simp,⟨by simp [ht,uY (n:=.s 2) (m:=root) (f:=zu noD [(.s 2,root)]) (by simp)],fun j d hj=>?_⟩⟩
  obtain⟨e1,e2,e3,e4,e5⟩:=he j d hj
  exact⟨by simp [e1],by simp [e2],by simp [e3],by simp [e4],by simp [e5]⟩
abbrev qQu:Sch:=.q 0<|.q 1<|.q 2<|.q 3<|.q 4<|.q 5<|.q 6<|.q 7<|.q 8<|.q 9<|.q 10<|.q 11<|.l 12 [2,0]<|.l 13 [2,0]<|.l 14 [2]<|.l 15 []<|.done
theorem qGk (gl) (p:Prg) (b:Nat) (k:Blk) (hk:p[b]?=some k) (hP:ShapeP p) (hL:LookP p):qV Tryz.prog gl 67 [pav p,iv b] (fun r y H'=>y=.hs r 1 0 (zE p b).length∧H' r=some (.row 1 (qJ (zE p b)))):=by
 have hbl:=(gS hk).1
 obtain⟨_,hkE⟩:=gS hk
 have hlen:=hP.len
 have hf8:=jW (p:=p) (b:=b)
 have hcl:=u6 (p:=p) (b:=b)
 have hfr:=qEu gl p b hbl hP.sml hP.heads (by omega)
 refine qV.of_sem Tryz.func67 rfl (by kernel_rfl) (rs:=[.tmp 4]) rfl Tryz.ntmps67 (lB rfl) fun C w g root=>?_
 have fx:=fx0
 have d1:=hfr
 refine qB ?_
 repeat ((first|refine wSc (id:=6) qQu qA ?_);refine qC ?_;refine qB ?_)
 clear fx d1
 refine qY (fun n st=>∃ i:Nat,n=(qU p b).length - i∧i≤(qU p b).length∧st.tm 1=iv b∧st.tm 2=.pt (.s 2) 0∧st.hp (.s 2)=some (.row 1 [[ksl p]])∧st.tm 5=.hs (.s 5) 1 0 i∧st.hp (.s 5)=some (.row 1 (qJ ((zE p b).take i)))∧st.tm 6=.hs (.s 6) 1 0 (qU p b).length∧st.hp (.s 6)=some (.row 1 (qJ (qU p b)))∧st.tm 7=iv i) (qU p b).length ?_ ?_
 ·exact⟨0,by omega,by omega,by simp,by simp,by simp,by simp,by simp,by simp,by simp,by simp⟩
 rintro n st - - ⟨i,rfl,hi,t1,t2,p2,t5,p5,t6,p6,t7⟩
 by_cases hil:i<(qU p b).length
 ·obtain⟨x,hx⟩:∃ x,(qU p b)[i]?=some x:=⟨_,gE hil⟩
  obtain⟨_,hxE⟩:=gS hx
  have hb0:=qA6 (gM hx)
  obtain⟨h1,h2,h3⟩:=hP.heads b k hk
  have h4:=h3 hb0
  obtain⟨c,hc⟩:∃ c:Nat,k.parent=c:=⟨k.parent.toNat,by omega⟩
  obtain⟨kc,hkc⟩:∃ kc,p[c]?=some kc:=⟨_,gE (by omega)⟩
  have hpa:vt p b=c:=by simp [vt,hk,hc]
  have hcp:=qB6 gl p c kc x hkc hL
  have htl:((zE p b).take i).length=i:=by simp [zE];omega
  have hi8:i≤8:=by omega
  have fx:=aI t1<|aI t2<|aI p2<|aI t5<|aI p5<|aI t6<|aI p6<|aI t7<|aI hil<|aI hk<|aI hkE<|aI hbl<|aI hc<|aI hx<|aI hxE<|aI htl<|hi8
  have c1:=hcp
  refine qB ?_
  repeat ((first|refine wSc (id:=6) qQu qA ?_);refine qC ?_;refine qB ?_)
  clear fx c1
  have e1:(zE p b).take (i+1)=(zE p b).take i++[vS p c x]:=by
   rw [List.take_add_one]
   simp [zE,hx,hpa]
  have e2:qJ ((zE p b).take i)++[[iv (vS p c x)]]=qJ ((zE p b).take (i+1)):=by rw [e1];simp [qJ]
  refine⟨(qU p b).length - (i+1),by omega,i+1,rfl,by omega,by simp [t1],by simp [t2],by simp [p2],by simp,?_,by simp [t6],by simp [p6],by simp [t7];exact wrp (by omega) (by omega)⟩
  simp [← e2]
  rw [List.take_of_length_le (by simp;omega)]
 ·obtain rfl:i=(qU p b).length:=by omega
  have hcl2:(zE p b).length=(qU p b).length:=by simp [zE]
  have htk:(zE p b).take (qU p b).length=zE p b:=List.take_of_length_le (by omega)
  rw [htk] at p5
  have fx:=aI t1<|aI t2<|aI p2<|aI t5<|aI p5<|aI t6<|aI p6<|t7
  refine qB ?_
  repeat ((first|refine wSc (id:=6) qQu qA ?_);refine qC ?_;refine qB ?_)
  clear fx
  exact zY (t:=4) (by first|(simp [t5,p5,hcl2];done)|(simp [t5,p5,hcl2];rfl)) (by first|(simp [t5,p5,hcl2];done)|(simp [t5,p5,hcl2];rfl)) (by simp)
theorem qHh (gl) (p:Prg) (b:Nat) (k:Blk) (hk:p[b]?=some k) (hP:ShapeP p) (hL:LookP p):qV Tryz.prog gl 67 [pav p,iv b] (fun _ y _=>y=isl (zE p b)) :=
 (qGk gl p b k hk hP hL).settle fun r y H' hr=>⟨isl (zE p b),by rw [hr.1];exact yw hr.2 rfl,rfl⟩
theorem qOi (gl) (p:Prg) (hL:LookP p):qV Tryz.prog gl 65 [pav p] (fun _ y _=>y=csl (qX p p.length)) :=
 (qEF gl p hL).settle fun r y H' hr=>⟨csl (qX p p.length),by rw [hr.1];exact yl hr.2 rfl,rfl⟩
end Go.Proofs.YtbgmnmnoaamgkaaGreatDoor
end
