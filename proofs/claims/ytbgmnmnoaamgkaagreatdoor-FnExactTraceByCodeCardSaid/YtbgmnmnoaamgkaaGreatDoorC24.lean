/-
  Own texts, joined by mkclaim.py: Ka, Kb, Kj, Kl, Yh.
-/
import Derived.Test.YtbgmnmnoaamgkaaGreatDoorC23
import Derived.Test.YtbgmnmnoaamgkaaGreatDoorC11
import Derived.Test.YtbgmnmnoaamgkaaGreatDoorC12
import Derived.Test.YtbgmnmnoaamgkaaGreatDoorC15
import Derived.Test.YtbgmnmnoaamgkaaGreatDoorC14
set_option linter.unusedSimpArgs false
set_option linter.unusedVariables false
set_option maxRecDepth 100000
set_option maxHeartbeats 4000000

section
namespace Go.Proofs.YtbgmnmnoaamgkaaGreatDoor
open Go Go.Hm Go.Proofs
abbrev qE1:Sch:=.q 0<|.q 1<|.q 2<|.q 3<|.q 4<|.q 5<|.q 7<|.l 6 [7]<|.q 8<|.done
abbrev qDL:Sch:=.q 0<|.q 1<|.q 2<|.q 3<|.q 4<|.q 5<|.l 6 []<|.l 7 []<|.done
theorem qEz {p:Prg} {b c:Nat} (h:b+1≤c):jG p b (c+1 - (b+1))=jG p b (c - (b+1))++kI p b c:=by
 rw [show c+1 - (b+1)=c - (b+1)+1 by omega,qEy,show b+1+(c - (b+1))=c by omega]
theorem qEq {p:Prg} {b c:Nat} (h:b≤c):zo p b (c+1 - b)=zo p b (c - b)++vu p b c:=by
 rw [show c+1 - b=c - b+1 by omega,qEp,show b+(c - b)=c by omega]
theorem y8 (gl) (p:Prg) (b:Nat) (k:Blk) (hk:p[b]?=some k) (hs:Sml p) (hh:zj p) (hl7:p.length≤7):qW Tryz.prog gl 134 [pav p,iv b] (fun r y H'=>y=.hs r 1 0 (qF p b).length∧H' r=some (.row 1 (qY (qF p b)))):=by
 obtain⟨hbl,hbE⟩:=gS hk
 have hka:qt p b=k.kind:=by simp [qt,hk]
 have hw:IntKind.i64.wrap ((b:Int)+1)=((b+1:Nat):Int):=by rw [wrp (by omega) (by omega)];rfl
 refine qW.of_sem Tryz.func134 rfl (by kernel_rfl) (rs:=[.tmp 4]) rfl Tryz.ntmps134 (lB rfl) fun C w g root=>?_
 cases hkd:(k.kind==1)
 ·have hc:qF p b=sorted []:=by
   have:¬ k.kind=1:=by simpa using hkd
   simp [qF,hka,this]
   rfl
  rw [hc]
  have fx:= hw
  refine qB ?_
  repeat ((first|refine wSc (id:=9) qE1 qA ?_);refine qD ?_;refine qB ?_)
  clear fx
  refine q7 (fun n st=>n=0∧st.tm 1=iv b∧st.tm 2=.pt (.s 2) 0∧st.hp (.s 2)=some (.row 1 [[ksl p]])∧st.tm 6=iv ((b+1:Nat):Int)∧st.tm 5=.hs (.s 5) 1 0 0∧st.hp (.s 5)=some (.row 1 [])) 0 ?_ ?_
  ·exact⟨rfl,by simp⟩
  rintro n st - - ⟨rfl,h1,h2,hp2,h6,h5,hp5⟩
  generalize hc0:b+1=c at h6
  by_cases hlt:c<p.length
  ·skip
   have fx:=aI h1<|aI h2<|aI hp2<|aI h6<|aI h5<|aI hp5<|aI hk<|aI hbE<|aI hkd<|aI hlt<|hbl
   have d1:=vJ gl [] (by simp)
   refine qB ?_
   repeat ((first|refine wSc (id:=9) qE1 qA ?_);refine qD ?_;refine qB ?_)
   clear fx d1
   exact zZ (t:=4) (by first|(simp [];done)|(simp [];rfl)) (by first|(simp [];done)|(simp [];rfl)) (by simp)
  ·skip
   have fx:=aI h1<|aI h2<|aI hp2<|aI h6<|aI h5<|aI hp5<|aI hk<|aI hbE<|aI hkd<|aI hlt<|hbl
   have d1:=vJ gl [] (by simp)
   refine qB ?_
   repeat ((first|refine wSc (id:=9) qE1 qA ?_);refine qD ?_;refine qB ?_)
   clear fx d1
   exact zZ (t:=4) (by first|(simp [];done)|(simp [];rfl)) (by first|(simp [];done)|(simp [];rfl)) (by simp)
 have hc:qF p b=sorted (jG p b (p.length - (b+1))):=by
  have:k.kind=1:=by simpa using hkd
  simp [qF,hka,this]
 rw [hc]
 have fx:= hw
 refine qB ?_
 repeat ((first|refine wSc (id:=9) qE1 qA ?_);refine qD ?_;refine qB ?_)
 clear fx
 refine q7 (fun n st=>∃ c:Nat,n=p.length - c∧b+1≤c∧c≤p.length∧st.tm 1=iv b∧st.tm 2=.pt (.s 2) 0∧st.hp (.s 2)=some (.row 1 [[ksl p]])∧st.tm 6=iv c∧st.tm 5=.hs (.s 5) 1 0 (jG p b (c - (b+1))).length∧st.hp (.s 5)=some (.row 1 (qY (jG p b (c - (b+1)))))) (p.length - (b+1)) ?_ ?_
 ·exact⟨b+1,rfl,by omega,by omega,by simp,by simp,by simp,by simp,by simp [jG,vo],by simp [jG,vo]⟩
 rintro n st - - ⟨c,rfl,hc1,hc2,h1,h2,hp2,h6,h5,hp5⟩
 have hcl:=qBZ (p:=p) (b:=b) (n:=c)
 have hrl:=qG8 (p:=p) (b:=b) (n:=c - (b+1))
 by_cases hlt:c<p.length
 ·obtain⟨q,hq⟩:∃ q,p[c]?=some q:=⟨_,gE hlt⟩
  have hul:=q.us_len
  have hnext:=qEz (p:=p) hc1
  have hat:kI p b c=q.us.filter (vP p b c):=by simp [kI,hq]
  rw [hat] at hnext
  generalize hR:jG p b (c - (b+1))=R at h5 hp5 hnext hrl
  have fx:=aI h1<|aI h2<|aI hp2<|aI h6<|aI h5<|aI hp5<|aI hk<|aI hbE<|aI hkd<|aI hlt<|aI hbl<|hq
  have d1:=qGn gl p c q hq (hs.bsm hq)
  refine qB ?_
  repeat ((first|refine wSc (id:=9) qE1 qA ?_);refine qD ?_;refine qB ?_)
  clear fx d1
  refine q7 (fun n st=>∃ i:Nat,n=q.us.length - i∧i≤q.us.length∧st.tm 1=iv b∧st.tm 2=.pt (.s 2) 0∧st.hp (.s 2)=some (.row 1 [[ksl p]])∧st.tm 6=iv c∧st.tm 7=.hs (.s 7) 1 0 q.us.length∧st.hp (.s 7)=some (.row 1 (qY q.us))∧st.tm 8=iv i∧st.tm 5=.hs (.s 5) 1 0 (R++(q.us.take i).filter (vP p b c)).length∧st.hp (.s 5)=some (.row 1 (qY (R++(q.us.take i).filter (vP p b c))))) q.us.length ?_ ?_
  ·exact⟨0,by omega,by omega,by simp [h1],by simp [h2],by simp [hp2],by simp [h6],by simp,by simp,by simp,by simp [h5],by simp [hp5]⟩
  clear h1 h2 hp2 h6 h5 hp5
  rintro n st - - ⟨i,rfl,hi,h1,h2,hp2,h6,h7,hp7,h8,h5,hp5⟩
  have hfl:((q.us.take i).filter (vP p b c)).length≤8:=kB (Nat.le_trans (List.length_take_le' _ _) hul)
  have hLl:(R++(q.us.take i).filter (vP p b c)).length≤1000:=by simp;omega
  by_cases hil:i<q.us.length
  ·obtain⟨u,hu⟩:∃ u,q.us[i]?=some u:=⟨_,gE hil⟩
   obtain⟨_,huE⟩:=gS hu
   have hnx:R++(q.us.take (i+1)).filter (vP p b c)=R++(q.us.take i).filter (vP p b c)++(if vP p b c u=true then [u] else []):=by rw [zH hu,List.append_assoc]
   generalize hL:R++(q.us.take i).filter (vP p b c)=L at h5 hp5 hnx hLl
   cases ho:(zE p c u==(b:Int))
   ·rw [if_neg (by simp only [vP,ho];decide),List.append_nil] at hnx
    have fx:=aI h1<|aI h2<|aI hp2<|aI h6<|aI h7<|aI hp7<|aI h8<|aI h5<|aI hp5<|aI hq<|aI hu<|aI huE<|aI hil<|ho
    have c1:=v7 gl p c q u hq hs hh
    refine qB ?_
    repeat ((first|refine wSc (id:=9) qE1 qA ?_);refine qD ?_;refine qB ?_)
    clear fx c1
    exact⟨q.us.length - (i+1),by omega,i+1,rfl,by omega,by simp [h1],by simp [h2],by simp [hp2],by simp [h6],by simp [h7],by simp [hp7],by simp;exact wrp (by omega) (by omega),by simp [hnx,h5],by simp [hnx,hp5]⟩
   ·rw [if_pos (by simp only [vP,ho])] at hnx
    have fx:=aI h1<|aI h2<|aI hp2<|aI h6<|aI h7<|aI hp7<|aI h8<|aI h5<|aI hp5<|aI hq<|aI hu<|aI huE<|aI hil<|aI ho<|hLl
    have c1:=v7 gl p c q u hq hs hh
    refine qB ?_
    repeat ((first|refine wSc (id:=9) qE1 qA ?_);refine qD ?_;refine qB ?_)
    clear fx c1
    refine⟨q.us.length - (i+1),by omega,i+1,rfl,by omega,by simp [h1],by simp [h2],by simp [hp2],by simp [h6],by simp [h7],by simp [hp7],by simp;exact wrp (by omega) (by omega),by simp [hnx,h5],?_⟩
    rw [hnx]
    simp [hp5,qY]
  ·have hge:i=q.us.length:=by omega
   rw [hge,List.take_length,← hnext] at h5 hp5
   have fx:=aI h1<|aI h2<|aI hp2<|aI h6<|aI h7<|aI hp7<|aI h8<|hil
   refine qB ?_
   repeat ((first|refine wSc (id:=9) qE1 qA ?_);refine qD ?_;refine qB ?_)
   clear fx
   exact⟨p.length - (c+1),by omega,c+1,rfl,by omega,by omega,by simp [h1],by simp [h2],by simp [hp2],by simp [h6];exact wrp (by omega) (by omega),by simp [h5],by simp [hp5]⟩
 ·have hge:c=p.length:=by omega
  subst hge
  have fx:=aI h1<|aI h2<|aI hp2<|aI h6<|aI h5<|aI hp5<|aI hk<|aI hbE<|aI hkd<|aI hlt<|hbl
  have d1:=vJ gl (jG p b (p.length - (b+1))) (by omega)
  refine qB ?_
  repeat ((first|refine wSc (id:=9) qE1 qA ?_);refine qD ?_;refine qB ?_)
  clear fx d1
  exact zZ (t:=4) (by first|(simp [];done)|(simp [];rfl)) (by first|(simp [];done)|(simp [];rfl)) (by simp)
theorem qEo (gl) (p:Prg) (b:Nat) (hbl:b<p.length) (hs:Sml p) (hh:zj p) (hl7:p.length≤7):qW Tryz.prog gl 96 [pav p,iv b] (fun r y H'=>y=.hs r 1 0 (q9 p b).length∧H' r=some (.row 1 (qY (q9 p b)))):=by
 have hc:q9 p b=sorted (zo p b (p.length - b)):=rfl
 rw [hc]
 refine qW.of_sem Tryz.func96 rfl (by kernel_rfl) (rs:=[.tmp 4]) rfl Tryz.ntmps96 (lB rfl) fun C w g root=>?_
 have fx:=fx0
 refine qB ?_
 repeat ((first|refine wSc (id:=9) qDL qA ?_);refine qD ?_;refine qB ?_)
 clear fx
 refine q7 (fun n st=>∃ c:Nat,n=p.length - c∧b≤c∧c≤p.length∧st.tm 1=iv b∧st.tm 2=.pt (.s 2) 0∧st.hp (.s 2)=some (.row 1 [[ksl p]])∧st.tm 6=iv c∧st.tm 5=.hs (.s 5) 1 0 (zo p b (c - b)).length∧st.hp (.s 5)=some (.row 1 (qY (zo p b (c - b))))) (p.length - b) ?_ ?_
 ·exact⟨b,rfl,by omega,by omega,by simp,by simp,by simp,by simp,by simp [zo,vo],by simp [zo,vo]⟩
 rintro n st - - ⟨c,rfl,hc1,hc2,h1,h2,hp2,h6,h5,hp5⟩
 have hrl:=qBZ (p:=p) (b:=b) (n:=c - b)
 by_cases hlt:c<p.length
 ·obtain⟨q,hq⟩:∃ q,p[c]?=some q:=⟨_,gE hlt⟩
  have hul:=q.us_len
  have hnext:=qEq (p:=p) hc1
  cases hin:zP p c b
  ·have hat:vu p b c=[]:=by simp [vu,hq,hin]
   rw [hat,List.append_nil] at hnext
   generalize hR:zo p b (c - b)=R at h5 hp5 hnext hrl
   have fx:=aI h1<|aI h2<|aI hp2<|aI h6<|aI h5<|aI hp5<|aI hlt<|hq
   have d1:=qGn gl p c q hq (hs.bsm hq)
   refine qB ?_
   repeat ((first|refine wSc (id:=9) qDL qA ?_);refine qD ?_;refine qB ?_)
   clear fx d1
   refine q7 (fun n st=>n=0∧st.tm 1=iv b∧st.tm 2=.pt (.s 2) 0∧st.hp (.s 2)=some (.row 1 [[ksl p]])∧st.tm 6=iv c∧st.tm 7=.hs (.s 7) 1 0 q.us.length∧st.hp (.s 7)=some (.row 1 (qY q.us))∧st.tm 8=iv 0∧st.tm 5=.hs (.s 5) 1 0 R.length∧st.hp (.s 5)=some (.row 1 (qY R))) 0 ?_ ?_
   ·exact⟨rfl,by simp [h1],by simp [h2],by simp [hp2],by simp [h6],by simp,by simp,by simp,by simp [h5],by simp [hp5]⟩
   clear h1 h2 hp2 h6 h5 hp5
   rintro n st - - ⟨rfl,h1,h2,hp2,h6,h7,hp7,h8,h5,hp5⟩
   by_cases hu0:0<q.us.length
   ·skip
    have fx:=aI h1<|aI h2<|aI hp2<|aI h6<|aI h7<|aI hp7<|aI h8<|aI h5<|aI hp5<|aI hq<|aI hu0<|hin
    have c1:=ud gl p c b hs hh hlt
    refine qB ?_
    repeat ((first|refine wSc (id:=9) qDL qA ?_);refine qD ?_;refine qB ?_)
    clear fx c1
    exact⟨p.length - (c+1),by omega,c+1,rfl,by omega,by omega,by simp [h1],by simp [h2],by simp [hp2],by simp [h6];exact wrp (by omega) (by omega),by simp [hnext,h5],by simp [hnext,hp5]⟩
   ·skip
    have fx:=aI h1<|aI h2<|aI hp2<|aI h6<|aI h7<|aI hp7<|aI h8<|aI h5<|aI hp5<|aI hq<|aI hu0<|hin
    have c1:=ud gl p c b hs hh hlt
    refine qB ?_
    repeat ((first|refine wSc (id:=9) qDL qA ?_);refine qD ?_;refine qB ?_)
    clear fx c1
    exact⟨p.length - (c+1),by omega,c+1,rfl,by omega,by omega,by simp [h1],by simp [h2],by simp [hp2],by simp [h6];exact wrp (by omega) (by omega),by simp [hnext,h5],by simp [hnext,hp5]⟩
  have hat:vu p b c=q.us.filter (yL p b c):=by simp [vu,hq,hin]
  rw [hat] at hnext
  generalize hR:zo p b (c - b)=R at h5 hp5 hnext hrl
  have fx:=aI h1<|aI h2<|aI hp2<|aI h6<|aI h5<|aI hp5<|aI hlt<|hq
  have d1:=qGn gl p c q hq (hs.bsm hq)
  refine qB ?_
  repeat ((first|refine wSc (id:=9) qDL qA ?_);refine qD ?_;refine qB ?_)
  clear fx d1
  refine q7 (fun n st=>∃ i:Nat,n=q.us.length - i∧i≤q.us.length∧st.tm 1=iv b∧st.tm 2=.pt (.s 2) 0∧st.hp (.s 2)=some (.row 1 [[ksl p]])∧st.tm 6=iv c∧st.tm 7=.hs (.s 7) 1 0 q.us.length∧st.hp (.s 7)=some (.row 1 (qY q.us))∧st.tm 8=iv i∧st.tm 5=.hs (.s 5) 1 0 (R++(q.us.take i).filter (yL p b c)).length∧st.hp (.s 5)=some (.row 1 (qY (R++(q.us.take i).filter (yL p b c))))) q.us.length ?_ ?_
  ·exact⟨0,by omega,by omega,by simp [h1],by simp [h2],by simp [hp2],by simp [h6],by simp,by simp,by simp,by simp [h5],by simp [hp5]⟩
  clear h1 h2 hp2 h6 h5 hp5
  rintro n st - - ⟨i,rfl,hi,h1,h2,hp2,h6,h7,hp7,h8,h5,hp5⟩
  have hfl:((q.us.take i).filter (yL p b c)).length≤8:=kB (Nat.le_trans (List.length_take_le' _ _) hul)
  have hLl:(R++(q.us.take i).filter (yL p b c)).length≤1000:=by simp;omega
  by_cases hil:i<q.us.length
  ·obtain⟨u,hu⟩:∃ u,q.us[i]?=some u:=⟨_,gE hil⟩
   obtain⟨_,huE⟩:=gS hu
   have hnx:R++(q.us.take (i+1)).filter (yL p b c)=R++(q.us.take i).filter (yL p b c)++(if yL p b c u=true then [u] else []):=by rw [zH hu,List.append_assoc]
   generalize hL:R++(q.us.take i).filter (yL p b c)=L at h5 hp5 hnx hLl
   have no:yL p b c u=false→R++(q.us.take (i+1)).filter (yL p b c)=L:=fun h=>by rw [hnx,h,if_neg (by decide),List.append_nil]
   cases ho:decide (0<zE p c u)
   ·have hno:=no (by simp only [yL,ho];rfl)
    have fx:=aI h1<|aI h2<|aI hp2<|aI h6<|aI h7<|aI hp7<|aI h8<|aI h5<|aI hp5<|aI hq<|aI hu<|aI huE<|aI hil<|aI hin<|ho
    have c1:=ud gl p c b hs hh hlt
    have c2:=v7 gl p c q u hq hs hh
    refine qB ?_
    repeat ((first|refine wSc (id:=9) qDL qA ?_);refine qD ?_;refine qB ?_)
    clear fx c1 c2
    exact⟨q.us.length - (i+1),by omega,i+1,rfl,by omega,by simp [h1],by simp [h2],by simp [hp2],by simp [h6],by simp [h7],by simp [hp7],by simp;exact wrp (by omega) (by omega),by simp [hno,h5],by simp [hno,hp5]⟩
   cases ho2:decide (zE p c u<b)
   ·have hno:=no (by simp only [yL,ho2];simp)
    have fx:=aI h1<|aI h2<|aI hp2<|aI h6<|aI h7<|aI hp7<|aI h8<|aI h5<|aI hp5<|aI hq<|aI hu<|aI huE<|aI hil<|aI hin<|aI ho<|ho2
    have c1:=ud gl p c b hs hh hlt
    have c2:=v7 gl p c q u hq hs hh
    refine qB ?_
    repeat ((first|refine wSc (id:=9) qDL qA ?_);refine qD ?_;refine qB ?_)
    clear fx c1 c2
    exact⟨q.us.length - (i+1),by omega,i+1,rfl,by omega,by simp [h1],by simp [h2],by simp [hp2],by simp [h6],by simp [h7],by simp [hp7],by simp;exact wrp (by omega) (by omega),by simp [hno,h5],by simp [hno,hp5]⟩
   ·rw [if_pos (by simp only [yL,ho,ho2];rfl)] at hnx
    have fx:=aI h1<|aI h2<|aI hp2<|aI h6<|aI h7<|aI hp7<|aI h8<|aI h5<|aI hp5<|aI hq<|aI hu<|aI huE<|aI hil<|aI hin<|aI ho<|aI ho2<|hLl
    have c1:=ud gl p c b hs hh hlt
    have c2:=v7 gl p c q u hq hs hh
    refine qB ?_
    repeat ((first|refine wSc (id:=9) qDL qA ?_);refine qD ?_;refine qB ?_)
    clear fx c1 c2
    refine⟨q.us.length - (i+1),by omega,i+1,rfl,by omega,by simp [h1],by simp [h2],by simp [hp2],by simp [h6],by simp [h7],by simp [hp7],by simp;exact wrp (by omega) (by omega),by simp [hnx,h5],?_⟩
    rw [hnx]
    simp [hp5,qY]
  ·have hge:i=q.us.length:=by omega
   rw [hge,List.take_length,← hnext] at h5 hp5
   have fx:=aI h1<|aI h2<|aI hp2<|aI h6<|aI h7<|aI hp7<|aI h8<|aI hil<|hin
   have c1:=ud gl p c b hs hh hlt
   refine qB ?_
   repeat ((first|refine wSc (id:=9) qDL qA ?_);refine qD ?_;refine qB ?_)
   clear fx c1
   exact⟨p.length - (c+1),by omega,c+1,rfl,by omega,by omega,by simp [h1],by simp [h2],by simp [hp2],by simp [h6];exact wrp (by omega) (by omega),by simp [h5],by simp [hp5]⟩
 ·have hge:c=p.length:=by omega
  subst hge
  have fx:=aI h1<|aI h2<|aI hp2<|aI h6<|aI h5<|aI hp5<|hlt
  have d1:=vJ gl (zo p b (p.length - b)) (by omega)
  refine qB ?_
  repeat ((first|refine wSc (id:=9) qDL qA ?_);refine qD ?_;refine qB ?_)
  clear fx d1
  exact zZ (t:=4) (by first|(simp [];done)|(simp [];rfl)) (by first|(simp [];done)|(simp [];rfl)) (by simp)
structure LookP (p:Prg):Prop where
 sml:Sml p
 sh:ShapeP p
theorem LookP.heads {p:Prg} (h:LookP p):zj p:=h.sh.heads
theorem LookP.len {p:Prg} (h:LookP p):p.length≤7:=h.sh.len.2
theorem qIg (gl) (p:Prg) (b:Nat) (k:Blk) (hk:p[b]?=some k) (hP:LookP p):qW Tryz.prog gl 133 [pav p,iv b] (fun r y H'=>y=.hs r 1 0 (qT p b).length∧H' r=some (.row 1 (qY (qT p b)))):=by
 have hs:=hP.sml
 have hh:=hP.heads
 have hl7:=hP.len
 obtain⟨hbl,hbE⟩:=gS hk
 have hka:qt p b=k.kind:=by simp [qt,hk]
 have hcl:=jB (p:=p) (b:=b)
 refine qW.of_sem Tryz.func133 rfl (by kernel_rfl) (rs:=[.tmp 4]) rfl Tryz.ntmps133 (lB rfl) fun C w g root=>?_
 cases hkd:(k.kind==1)
 ·have hc:qT p b=[]:=by
   have:¬ k.kind=1:=by simpa using hkd
   simp [qT,hka,this]
  rw [hc]
  all_goals have fx:=fx0
  repeat' (first
   | refine qN ?_|refine qJ ?_|refine qM fun K hK=>?_
   | ((with_reducible refine qK hK ?_);clear hK K)
   | (with_reducible refine qG ?_)
   | (with_reducible first|refine qE (h:=?_)|refine zG (h:=?_)|refine yD (h:=?_))
   | ((with_reducible refine qv 134 rfl ?_);refine zk (hF:=y8 _ p b k hk hs hh hl7) (h:=?_))
   | (with_reducible refine x_q (h:=?_))
   | fail)
  all_goals try clear fx
  refine q7 (fun n st=>n=0∧st.tm 1=iv b∧st.tm 2=.pt (.s 2) 0∧st.hp (.s 2)=some (.row 1 [[ksl p]])∧st.tm 7=iv 0∧st.tm 5=.hs (.s 5) 1 0 0∧st.hp (.s 5)=some (.row 1 [])) 0 ?_ ?_
  ·exact⟨rfl,by simp⟩
  rintro n st - - ⟨rfl,h1,h2,hp2,h7,h5,hp5⟩
  all_goals have fx:=aI h1<|aI h2<|aI hp2<|aI h7<|aI h5<|aI hp5<|aI hk<|aI hbE<|aI hkd<|hbl
  repeat' (first
   | refine qN ?_|refine qM fun K hK=>?_
   | ((with_reducible refine qK hK ?_);clear hK K)
   | (with_reducible first|refine qC ?_)
   | refine qn ?_
   | refine qX ?_
   | (with_reducible refine qG ?_)
   | ((with_reducible refine yV ?_);refine q6 (h:=?_))
   | (with_reducible first|refine ze ?_|refine qE (h:=?_))
   | (with_reducible refine x_q (h:=?_))
   | refine qS (h1:=?_)
   | fail)
  all_goals try clear fx
  exact zZ (t:=4) (by first|(simp [hp5];done)|(simp [hp5];rfl)) (by first|(simp [hp5];done)|(simp [hp5];rfl)) (by simp)
 have hc:qT p b=qz (jz p b) 8:=by
  have:k.kind=1:=by simpa using hkd
  simp [qT,hka,this]
 rw [hc]
 all_goals have fx:=fx0
 repeat' (first
  | refine qN ?_|refine qJ ?_|refine qM fun K hK=>?_
  | ((with_reducible refine qK hK ?_);clear hK K)
  | (with_reducible refine qG ?_)
  | (with_reducible first|refine qE (h:=?_)|refine zG (h:=?_)|refine yD (h:=?_))
  | ((with_reducible refine qv 134 rfl ?_);refine zk (hF:=y8 _ p b k hk hs hh hl7) (h:=?_))
  | (with_reducible refine x_q (h:=?_))
  | fail)
 all_goals try clear fx
 refine q7 (fun n st=>∃ x:Nat,n=8 - x∧x≤8∧st.tm 1=iv b∧st.tm 2=.pt (.s 2) 0∧st.hp (.s 2)=some (.row 1 [[ksl p]])∧st.tm 7=iv x∧st.tm 6=.hs (.s 6) 1 0 (qF p b).length∧st.hp (.s 6)=some (.row 1 (qY (qF p b)))∧st.tm 5=.hs (.s 5) 1 0 (qz (jz p b) x).length∧st.hp (.s 5)=some (.row 1 (qY (qz (jz p b) x)))) 8 ?_ ?_
 ·exact⟨0,by omega,by omega,by simp,by simp,by simp,by simp,by simp,by simp,by simp [qz],by simp [qz]⟩
 rintro n st - - ⟨x,rfl,hx,h1,h2,hp2,h7,h6,hp6,h5,hp5⟩
 have hll:=qAt (f:=jz p b) x
 by_cases hlt:x<8
 ·have hx7:(x:Int)≤7:=by omega
  have hfi:jz p b x=(za b k x&&!decide ((x:Int)∈qF p b)):=by simp only [jz,hk]
  have hnext:qz (jz p b) (x+1)=if jz p b x=true then qz (jz p b) x++[(x:Int)] else qz (jz p b) x:=rfl
  generalize hL:qz (jz p b) x=L at h5 hp5 hnext hll
  cases hlo:za b k x
  ·rw [if_neg (by rw [hfi,hlo];simp)] at hnext
   all_goals have fx:=aI h1<|aI h2<|aI hp2<|aI h7<|aI h6<|aI hp6<|aI h5<|aI hp5<|aI hk<|aI hbE<|aI hkd<|aI hbl<|aI hx7<|hlo
   repeat' (first
    | refine qN ?_|refine qJ ?_|refine qR ?_|refine qM fun K hK=>?_
    | ((with_reducible refine qK hK ?_);clear hK K)
    | (with_reducible first|refine qC ?_)
    | (with_reducible refine qG ?_)
    | ((with_reducible refine yV ?_);refine q6 (h:=?_))
    | (with_reducible first|refine ze ?_|refine vG (h:=?_)|refine qE (h:=?_))
    | ((with_reducible refine qv 131 rfl ?_);refine qL (hF:=uc _ p b k x hk (hs.bsm hk)) (h:=?_))
    | (with_reducible refine x_q (h:=?_))
    | refine qO (h1:=?_)|refine qS (h1:=?_)
    | fail)
   all_goals try clear fx
   exact⟨8 - (x+1),by omega,x+1,rfl,by omega,by simp [h1],by simp [h2],by simp [hp2],by simp [h7];exact wrp (by omega) (by omega),by simp [h6],by simp [hp6],by simp [hnext,h5],by simp [hnext,hp5]⟩
  cases hce:decide ((x:Int)∈qF p b)
  rotate_left
  ·rw [if_neg (by rw [hfi,hlo,hce];decide)] at hnext
   all_goals have fx:=aI h1<|aI h2<|aI hp2<|aI h7<|aI h6<|aI hp6<|aI h5<|aI hp5<|aI hk<|aI hbE<|aI hkd<|aI hbl<|aI hx7<|aI hlo<|hce
   repeat' (first
    | refine qN ?_|refine qJ ?_|refine qR ?_|refine qM fun K hK=>?_
    | ((with_reducible refine qK hK ?_);clear hK K)
    | (with_reducible first|refine qC ?_)
    | (with_reducible refine qG ?_)
    | ((with_reducible refine yV ?_);refine q6 (h:=?_))
    | (with_reducible first|refine ze ?_|refine qE (h:=?_))
    | ((with_reducible refine qv 131 rfl ?_);refine qL (hF:=uc _ p b k x hk (hs.bsm hk)) (h:=?_))
    | ((with_reducible refine qv 93 rfl ?_);refine qL (hF:=qCm _ _ _ (Nat.le_trans jB (by decide))) (h:=?_))
    | (with_reducible refine x_q (h:=?_))
    | refine qO (h1:=?_)|refine qS (h1:=?_)
    | fail)
   all_goals try clear fx
   exact⟨8 - (x+1),by omega,x+1,rfl,by omega,by simp [h1],by simp [h2],by simp [hp2],by simp [h7];exact wrp (by omega) (by omega),by simp [h6],by simp [hp6],by simp [hnext,h5],by simp [hnext,hp5]⟩
  ·rw [if_pos (by rw [hfi,hlo,hce];rfl)] at hnext
   all_goals have fx:=aI h1<|aI h2<|aI hp2<|aI h7<|aI h6<|aI hp6<|aI h5<|aI hp5<|aI hk<|aI hbE<|aI hkd<|aI hbl<|aI hx7<|aI hlo<|hce
   repeat' (first
    | refine qN ?_|refine qJ ?_|refine qR ?_|refine qM fun K hK=>?_
    | ((with_reducible refine qK hK ?_);clear hK K)
    | (with_reducible first|refine qC ?_)
    | (with_reducible refine qG ?_)
    | ((with_reducible refine yV ?_);refine q6 (h:=?_))
    | (with_reducible first|refine ze ?_|refine qE (h:=?_)|refine ji (T:=42) (h:=?_)|refine yD (h:=?_))
    | ((with_reducible refine qv 131 rfl ?_);refine qL (hF:=uc _ p b k x hk (hs.bsm hk)) (h:=?_))
    | ((with_reducible refine qv 93 rfl ?_);refine qL (hF:=qCm _ _ _ (Nat.le_trans jB (by decide))) (h:=?_))
    | (with_reducible refine x_q (h:=?_))
    | refine qO (h1:=?_)
    | fail)
   all_goals try clear fx
   refine⟨8 - (x+1),by omega,x+1,rfl,by omega,by simp [h1],by simp [h2],by simp [hp2],by simp [h7];exact wrp (by omega) (by omega),by simp [h6],by simp [hp6],by simp [hnext,h5],?_⟩
   rw [hnext]
   simp [hp5,qY]
 ·have hge:x=8:=by omega
  subst hge
  all_goals have fx:=aI h1<|aI h2<|aI hp2<|aI h7<|aI h5<|aI hp5<|aI hk<|aI hbE<|aI hkd<|hbl
  repeat' (first
   | refine qN ?_|refine qM fun K hK=>?_
   | ((with_reducible refine qK hK ?_);clear hK K)
   | (with_reducible first|refine qC ?_)
   | refine qn ?_
   | refine qX ?_
   | (with_reducible refine qG ?_)
   | ((with_reducible refine yV ?_);refine q6 (h:=?_))
   | (with_reducible first|refine vG (h:=?_)|refine qE (h:=?_))
   | (with_reducible refine x_q (h:=?_))
   | refine qS (h1:=?_)
   | fail)
  all_goals try clear fx
  exact zZ (t:=4) (by first|(simp [hp5];done)|(simp [hp5];rfl)) (by first|(simp [hp5];done)|(simp [hp5];rfl)) (by simp)
theorem qB2 (gl) (p:Prg) (b:Nat) (k:Blk) (x:Int) (hk:p[b]?=some k) (hP:LookP p):qW Tryz.prog gl 97 [pav p,iv b,iv x] (fun _ y _=>y=iv (vZ p b x)):=by
 have hs:=hP.sml
 have hh:=hP.heads
 have hl7:=hP.len
 have hbl:=(gS hk).1
 have hcl:=jB (p:=p) (b:=b)
 have hfl:=jS (p:=p) (b:=b)
 have hbd:=wC (xs:=q9 p b) (x:=x)
 have hw:IntKind.i64.wrap (((qF p b).length:Int)+qx (q9 p b) x)=(qF p b).length+qx (q9 p b) x:=wrp (by omega) (by omega)
 refine qW.of_sem Tryz.func97 rfl (by kernel_rfl) (rs:=[.tmp 6]) rfl Tryz.ntmps97 (lB rfl) fun C w g root=>?_
 by_cases hm:x∈qF p b
 ·have h0:0≤qx (qF p b) x:=zi.2 hm
  all_goals have fx:= h0
  repeat' (first
   | refine qN ?_|refine qR ?_|refine qM fun K hK=>?_
   | ((with_reducible refine qK hK ?_);clear hK K)
   | (with_reducible first|refine qC ?_|refine qI ?_)
   | refine qX ?_
   | (with_reducible first|refine qG ?_|refine qE (h:=?_)|refine zG (h:=?_))
   | ((with_reducible refine qv 134 rfl ?_);refine zk (hF:=y8 _ p b k hk hs hh hl7) (h:=?_))
   | ((with_reducible refine qv 130 rfl ?_);refine qL (hF:=y4 _ (qF p b) _ (by omega)) (h:=?_))
   | (with_reducible refine x_q (h:=?_))
   | refine qO (h1:=?_)|refine qS (h1:=?_)
   | fail)
  all_goals try clear fx
  refine qH [] .nil (by simp;rfl) ?_
  simp [vZ,hm]
 ·have h0:¬ 0≤qx (qF p b) x:=fun h=>hm (zi.1 h)
  all_goals have fx:=aI h0<|hw
  repeat' (first
   | refine qN ?_|refine qR ?_|refine qM fun K hK=>?_
   | ((with_reducible refine qK hK ?_);clear hK K)
   | (with_reducible first|refine qC ?_|refine qI ?_)
   | refine qX ?_
   | (with_reducible first|refine qG ?_|refine qE (h:=?_)|refine zG (h:=?_))
   | ((with_reducible refine qv 134 rfl ?_);refine zk (hF:=y8 _ p b k hk hs hh hl7) (h:=?_))
   | ((with_reducible refine qv 96 rfl ?_);refine zk (hF:=qEo _ p b hbl hs hh hl7) (h:=?_))
   | ((with_reducible refine qv 130 rfl ?_);refine qL (hF:=y4 _ (qF p b) _ (by omega)) (h:=?_))
   | ((with_reducible refine qv 130 rfl ?_);refine qL (hF:=y4 _ (q9 p b) _ (by omega)) (h:=?_))
   | (with_reducible refine x_q (h:=?_))
   | refine qO (h1:=?_)|refine qS (h1:=?_)
   | fail)
  all_goals try clear fx
  refine qH [] .nil (by simp;rfl) ?_
  simp [vZ,hm]
theorem qAI (gl) (p:Prg) (b:Nat) (k:Blk) (x:Int) (hk:p[b]?=some k) (hP:LookP p):qW Tryz.prog gl 186 [pav p,iv b,iv x] (fun _ y _=>y=iv (zq p b x)):=by
 have hs:=hP.sml
 have hh:=hP.heads
 have hl7:=hP.len
 obtain⟨hbl,hbE⟩:=gS hk
 have hka:qt p b=k.kind:=by simp [qt,hk]
 refine qW.of_sem Tryz.func186 rfl (by kernel_rfl) (rs:=[.tmp 6]) rfl Tryz.ntmps186 (lB rfl) fun C w g root=>?_
 cases ho:decide (zE p b x<0)
 rotate_left
 ·skip
  all_goals have fx:= ho
  repeat' (first
   | refine qN ?_|refine qJ ?_|refine qR ?_|refine qM fun K hK=>?_
   | ((with_reducible refine qK hK ?_);clear hK K)
   | (with_reducible first|refine qC ?_|refine qP ?_|refine qI ?_|refine qc ?_)
   | refine qX ?_
   | (with_reducible first|refine qG ?_|refine qE (h:=?_)|refine zG (h:=?_))
   | ((with_reducible refine qv 138 rfl ?_);refine qL (hF:=v7 _ p b k x hk hs hh) (h:=?_))
   | (with_reducible refine x_q (h:=?_))
   | refine qO (h1:=?_)|refine qS (h1:=?_)
   | fail)
  all_goals try clear fx
  refine qH [] .nil (by simp;rfl) ?_
  have ho':zE p b x<0:=by simpa using ho
  simp [zq,ho']
 cases hb:(zE p b x==(b:Int))
 ·skip
  all_goals have fx:=aI ho<|aI hb<|@qr
  repeat' (first
   | refine qN ?_|refine qJ ?_|refine qR ?_|refine qM fun K hK=>?_
   | ((with_reducible refine qK hK ?_);clear hK K)
   | (with_reducible first|refine qC ?_|refine qP ?_|refine qI ?_|refine qc ?_)
   | refine qX ?_
   | (with_reducible first|refine qG ?_|refine qE (h:=?_)|refine zG (h:=?_))
   | ((with_reducible refine qv 138 rfl ?_);refine qL (hF:=v7 _ p b k x hk hs hh) (h:=?_))
   | (with_reducible refine x_q (h:=?_))
   | refine qO (h1:=?_)|refine qS (h1:=?_)
   | fail)
  all_goals try clear fx
  refine qH [] .nil (by simp;rfl) ?_
  have ho':¬ zE p b x<0:=by simpa using ho
  have hb':¬ zE p b x=b:=by simpa using hb
  simp only [zq,if_neg ho',if_pos hb']
  rfl
 have hb':zE p b x=b:=by simpa using hb
 have hnl:¬ zE p b x<0:=by omega
 have hnn:¬ zE p b x≠b:=fun h=>h hb'
 cases hkd:(k.kind==2)
 rotate_left
 ·skip
  all_goals have fx:=aI ho<|aI hb<|aI @qr<|aI hk<|aI hbE<|aI hbl<|hkd
  repeat' (first
   | refine qN ?_|refine qJ ?_|refine qR ?_|refine qM fun K hK=>?_
   | ((with_reducible refine qK hK ?_);clear hK K)
   | (with_reducible first|refine qC ?_|refine qP ?_|refine qI ?_|refine qc ?_)
   | refine qX ?_
   | (with_reducible first|refine qG ?_|refine qE (h:=?_)|refine zG (h:=?_))
   | ((with_reducible refine qv 138 rfl ?_);refine qL (hF:=v7 _ p b k x hk hs hh) (h:=?_))
   | (with_reducible refine x_q (h:=?_))
   | refine qO (h1:=?_)|refine qS (h1:=?_)
   | fail)
  all_goals try clear fx
  refine qH [] .nil (by simp;rfl) ?_
  have hkd':k.kind=2:=by simpa using hkd
  simp only [zq,if_neg hnl,if_neg hnn,hka,if_pos hkd']
  rfl
 have hkd':¬ k.kind=2:=by simpa using hkd
 cases hce:decide (x∈qF p b)
 all_goals
  all_goals have fx:=aI ho<|aI hb<|aI @qr<|aI hk<|aI hbE<|aI hbl<|aI hkd<|hce
  repeat' (first
   | refine qN ?_|refine qJ ?_|refine qR ?_|refine qM fun K hK=>?_
   | ((with_reducible refine qK hK ?_);clear hK K)
   | (with_reducible first|refine qC ?_|refine qP ?_|refine qI ?_|refine qc ?_)
   | refine qX ?_
   | (with_reducible first|refine qG ?_|refine qE (h:=?_)|refine zG (h:=?_))
   | ((with_reducible refine qv 138 rfl ?_);refine qL (hF:=v7 _ p b k x hk hs hh) (h:=?_))
   | ((with_reducible refine qv 134 rfl ?_);refine zk (hF:=y8 _ p b k hk hs hh hl7) (h:=?_))
   | ((with_reducible refine qv 93 rfl ?_);refine qL (hF:=qCm _ _ _ (Nat.le_trans jB (by decide))) (h:=?_))
   | (with_reducible refine x_q (h:=?_))
   | refine qO (h1:=?_)|refine qS (h1:=?_)
   | fail)
  all_goals try clear fx
  refine qH [] .nil (by simp;rfl) ?_
  simp at hce
  simp only [zq,if_neg hnl,if_neg hnn,hka,if_neg hkd',hce]
  rfl
theorem qC7 (gl) (p:Prg) (b:Nat) (k:Blk) (x w:Int) (hk:p[b]?=some k) (hP:LookP p) (hw0:0≤w) (hw2:w≤2):qW Tryz.prog gl 166 [pav p,iv b,iv x,iv w] (fun _ y _=>y=.agg [iv (zU p b x w).1,iv (zU p b x w).2]):=by
 have hw8:IntKind.i64.wrap (8+w)=8+w:=wrp (by omega) (by omega)
 have hw11:IntKind.i64.wrap (11+w)=11+w:=wrp (by omega) (by omega)
 have hw22:IntKind.i64.wrap (2+w)=2+w:=wrp (by omega) (by omega)
 have hw5:IntKind.i64.wrap (5+w)=5+w:=wrp (by omega) (by omega)
 refine qW.of_sem Tryz.func166 rfl (by kernel_rfl) (rs:=[.cell 8 157]) rfl Tryz.ntmps166 (lB rfl) fun C w g root=>?_
 cases h0:(zq p b x==0)
 rotate_left
 ·have h0':zq p b x=0:=by simpa using h0
  all_goals have fx:=aI h0<|hw8
  repeat' (first
   | refine qN ?_|refine qJ ?_|refine qR ?_|refine qM fun K hK=>?_
   | ((with_reducible refine qK hK ?_);clear hK K)
   | (with_reducible first|refine qC ?_|refine qP ?_|refine qI ?_|refine qc ?_)
   | refine qX ?_
   | (with_reducible first|refine qG ?_|refine qE (h:=?_)|refine zG (h:=?_)|refine qg (h:=?_)|refine qU (h:=?_))
   | ((with_reducible refine qv 186 rfl ?_);refine qL (hF:=qAI _ p b k x hk hP) (h:=?_))
   | (with_reducible refine x_q (h:=?_))
   | refine qO (h1:=?_)|refine qS (h1:=?_)
   | fail)
  all_goals try clear fx
  refine qH [] .nil (by simp;rfl) ?_
  simp [zU,h0']
 have h0':¬ zq p b x=0:=by simpa using h0
 cases h2:(zq p b x==2)
 rotate_left
 ·have h2':zq p b x=2:=by simpa using h2
  all_goals have fx:=aI h0<|aI h2<|hw11
  repeat' (first
   | refine qN ?_|refine qJ ?_|refine qR ?_|refine qM fun K hK=>?_
   | ((with_reducible refine qK hK ?_);clear hK K)
   | (with_reducible first|refine qC ?_|refine qP ?_|refine qI ?_|refine qc ?_)
   | refine qX ?_
   | (with_reducible first|refine qG ?_|refine qE (h:=?_)|refine zG (h:=?_)|refine qg (h:=?_)|refine qU (h:=?_))
   | ((with_reducible refine qv 186 rfl ?_);refine qL (hF:=qAI _ p b k x hk hP) (h:=?_))
   | (with_reducible refine x_q (h:=?_))
   | refine qO (h1:=?_)|refine qS (h1:=?_)
   | fail)
  all_goals try clear fx
  refine qH [] .nil (by simp;rfl) ?_
  simp [zU,h2']
 have h2':¬ zq p b x=2:=by simpa using h2
 cases h4:(zq p b x==4)
 rotate_left
 ·have h4':zq p b x=4:=by simpa using h4
  all_goals have fx:=aI h0<|aI h2<|aI h4<|hw22
  repeat' (first
   | refine qN ?_|refine qJ ?_|refine qR ?_|refine qM fun K hK=>?_
   | ((with_reducible refine qK hK ?_);clear hK K)
   | (with_reducible first|refine qC ?_|refine qP ?_|refine qI ?_|refine qc ?_)
   | refine qX ?_
   | (with_reducible first|refine qG ?_|refine qE (h:=?_)|refine zG (h:=?_)|refine qg (h:=?_)|refine qU (h:=?_))
   | ((with_reducible refine qv 186 rfl ?_);refine qL (hF:=qAI _ p b k x hk hP) (h:=?_))
   | ((with_reducible refine qv 133 rfl ?_);refine zk (hF:=qIg _ p b k hk hP) (h:=?_))
   | ((with_reducible refine qv 130 rfl ?_);refine qL (hF:=y4 _ (qT p b) _ (Nat.le_trans yy (by decide))) (h:=?_))
   | (with_reducible refine x_q (h:=?_))
   | refine qO (h1:=?_)|refine qS (h1:=?_)
   | fail)
  all_goals try clear fx
  refine qH [] .nil (by simp;rfl) ?_
  simp [zU,h4']
 have h4':¬ zq p b x=4:=by simpa using h4
 all_goals have fx:=aI h0<|aI h2<|aI h4<|hw5
 repeat' (first
  | refine qN ?_|refine qJ ?_|refine qR ?_|refine qM fun K hK=>?_
  | ((with_reducible refine qK hK ?_);clear hK K)
  | (with_reducible first|refine qC ?_|refine qP ?_|refine qI ?_|refine qc ?_)
  | refine qX ?_
  | (with_reducible first|refine qG ?_|refine qE (h:=?_)|refine zG (h:=?_)|refine qg (h:=?_)|refine qU (h:=?_))
  | ((with_reducible refine qv 186 rfl ?_);refine qL (hF:=qAI _ p b k x hk hP) (h:=?_))
  | ((with_reducible refine qv 97 rfl ?_);refine qL (hF:=qB2 _ p b k x hk hP) (h:=?_))
  | (with_reducible refine x_q (h:=?_))
  | refine qO (h1:=?_)|refine qS (h1:=?_)
  | fail)
 all_goals try clear fx
 refine qH [] .nil (by simp;rfl) ?_
 simp only [zU,if_neg h0',if_neg h2',if_neg h4']
 rfl
end Go.Proofs.YtbgmnmnoaamgkaaGreatDoor
end
section
namespace Go.Proofs.YtbgmnmnoaamgkaaGreatDoor
open Go Go.Hm Go.Proofs
abbrev qRG:Sch:=.q 0<|.q 1<|.q 2<|.q 3<|.q 4<|.q 5<|.q 6<|.l 7 [0]<|.l 8 [0]<|.l 9 []<|.l 10 []<|.done
theorem qL7 {k:Int} (h:0≤k∧k≤11):k=0∨k=1∨k=2∨k=3∨k=4∨k=5∨k=6∨k=7∨k=8∨k=9∨k=10∨k=11:=by omega
abbrev qHW (p:Prg) (b:Nat) (s:Stm) (i:Nat):List (Int×Int):=(0,0)::(s.reads.take i).map fun x=>zU p b x 0
theorem qFz {p:Prg} {b:Nat} {s:Stm} {i:Nat} {u:Int} (h:s.reads[i]?=some u):qHW p b s (i+1)=qHW p b s i++[zU p b u 0]:=by
 simp [qHW,List.take_add_one,h]
theorem qF5 {p:Prg} {b:Nat} {s:Stm}:wK p b s=qHW p b s s.reads.length++(yb s++qAe p b s):=by simp [wK,qHW,uR]
theorem qCC (gl) (p:Prg) (b:Nat) (k:Blk) (s:Stm) (hk:p[b]?=some k) (hP:LookP p) (hkd:0≤s.kind∧s.kind≤11):qW Tryz.prog gl 135 [pav p,iv b,s.av] (fun r y H'=>y=.hs r 2 0 (wK p b s).length∧H' r=some (.row 2 (zb (wK p b s)))):=by
 have hrl:=s.reads_len
 rw [qF5]
 refine qW.of_sem Tryz.func135 rfl (by kernel_rfl) (rs:=[.tmp 6]) rfl Tryz.ntmps135 (lB rfl) fun C w g root=>?_
 have fx:=fx0
 have d1:=qAn gl s
 refine qB ?_
 repeat ((first|refine wSc (id:=6) qRG qA ?_);refine qD ?_;refine qB ?_)
 clear fx d1
 refine q7 (fun n st=>∃ i:Nat,n=s.reads.length - i∧i≤s.reads.length∧st.tm 1=iv b∧st.tm 3=.pt (.s 3) 0∧st.hp (.s 3)=some (.row 1 [[ksl p]])∧st.tm 5=.pt (.s 5) 0∧st.hp (.s 5)=some (.row 4 [s.cells])∧st.tm 8=.hs (.s 8) 1 0 s.reads.length∧st.hp (.s 8)=some (.row 1 (qY s.reads))∧st.tm 9=iv i∧st.tm 7=.hs (.s 7) 2 0 (qHW p b s i).length∧st.hp (.s 7)=some (.row 2 (zb (qHW p b s i)))) s.reads.length ?_ ?_
 ·exact⟨0,by omega,by omega,by simp,by simp,by simp,by simp,by simp,by simp,by simp,by simp,by simp,by simp [zb]⟩
 rintro n st - - ⟨i,rfl,hi,h1,h3,hp3,h5,hp5,h8,hp8,h9,h7,hp7⟩
 have hll:(qHW p b s i).length≤10:=by simp;omega
 by_cases hil:i<s.reads.length
 ·obtain⟨u,hu⟩:∃ u,s.reads[i]?=some u:=⟨_,gE hil⟩
  obtain⟨_,huE⟩:=gS hu
  have hnx:=qFz (p:=p) (b:=b) hu
  generalize hL:qHW p b s i=L at h7 hp7 hnx hll
  have fx:=aI h1<|aI h3<|aI hp3<|aI h5<|aI hp5<|aI h8<|aI hp8<|aI h9<|aI h7<|aI hp7<|aI hu<|aI huE<|aI hil<|hll
  have c1:=qC7 gl p b k u 0 hk hP (by decide) (by decide)
  refine qB ?_
  repeat ((first|refine wSc (id:=6) qRG qA ?_);refine qD ?_;refine qB ?_)
  clear fx c1
  refine⟨s.reads.length - (i+1),by omega,i+1,rfl,by omega,by simp [h1],by simp [h3],by simp [hp3],by simp [h5],by simp [hp5],by simp [h8],by simp [hp8],by simp;exact wrp (by omega) (by omega),by simp [hnx],?_⟩
  rw [hnx]
  simp [u5]
 ·have hge:i=s.reads.length:=by omega
  rw [hge] at h7 hp7 hll
  generalize hL:qHW p b s s.reads.length=L at h7 hp7 hll
  have hw5:s.kind=5→IntKind.i64.wrap ((s.reads.length:Int) - 1)=(s.reads.length:Int) - 1:=fun _=>wrp (by omega) (by omega)
  obtain⟨kd,to,a,c⟩:=s
  simp only at hkd hw5
  rcases qL7 hkd with rfl|rfl|rfl|rfl|rfl|rfl|rfl|rfl|rfl|rfl|rfl|rfl
  all_goals
   have fx:=aI h1<|aI h3<|aI hp3<|aI h5<|aI hp5<|aI h8<|aI hp8<|aI h9<|aI h7<|aI hp7<|aI hil<|aI hge<|aI hll<|hw5
   have c1:=qC7 gl p b k to 1 hk hP (by decide) (by decide)
   have c2:=qC7 gl p b k to 2 hk hP (by decide) (by decide)
   refine qB ?_
   repeat ((first|refine wSc (id:=6) qRG qA ?_);refine qD ?_;refine qB ?_)
   clear fx c1 c2
   refine zZ (t:=6) ?_ ?_ ?_
   all_goals simp [yb,qAe,u5,List.take_append,List.take_of_length_le,h7,hp7]
abbrev qRF:Sch:=.q 0<|.q 1<|.q 2<|.q 3<|.q 4<|.q 5<|.q 6<|.q 7<|.q 8<|.q 9<|.q 10<|.q 11<|.q 13<|.q 14<|.q 16<|.q 17<|.q 19<|.q 20<|.l2 12 [20,19,17,16,14,13,6,5,4,3,2,1,0] (.l2 15 [20,19,17,16,6,5,4,3,2,1,0] (.l2 18 [20,19,6,5,4,3,2,1,0] (.l2 21 [6,5,4,3,2,1,0] (.q 22<|.l 23 [22,6,5,4,3,2,1,0]<|.l 24 []<|.done) 23 [20,19,6,5,4,3,2,1,0] (.l 21 [6,5,4,3,2,1,0]<|.q 22<|.l 24 []<|.done)) 23 [20,19,17,16,6,5,4,3,2,1,0] (.l 18 [20,19,6,5,4,3,2,1,0]<|.l 21 [6,5,4,3,2,1,0]<|.q 22<|.l 24 []<|.done)) 23 [20,19,17,16,14,13,6,5,4,3,2,1,0] (.l 15 [20,19,17,16,6,5,4,3,2,1,0]<|.l 18 [20,19,6,5,4,3,2,1,0]<|.l 21 [6,5,4,3,2,1,0]<|.q 22<|.l 24 []<|.done)) 23 [20,19,17,16,14,13,11,10,9,8,7,6,5,4,3,2,1,0] (.l 12 [20,19,17,16,14,13,6,5,4,3,2,1,0]<|.l 15 [20,19,17,16,6,5,4,3,2,1,0]<|.l 18 [20,19,6,5,4,3,2,1,0]<|.l 21 [6,5,4,3,2,1,0]<|.q 22<|.l 24 []<|.done)
abbrev qRE:Sch:=.q 0<|.q 1<|.q 2<|.q 3<|.q 4<|.q 5<|.q 6<|.q 7<|.q 8<|.q 9<|.q 10<|.q 11<|.q 12<|.l 13 [7,6,5,4,1,0]<|.l 14 [7,6,5,4]<|.q 15<|.l 16 []<|.done
theorem qB3 (gl) (p:Prg) (b:Nat) (k:Blk) (hk:p[b]?=some k) (hP:LookP p):qW Tryz.prog gl 95 [pav p,iv b] (fun r y H'=>y=.agg ((qk p b).own r 0)∧OwnK H' r 0 (qk p b)):=by
 have hs:=hP.sml
 have hh:=hP.heads
 have hl7:=hP.len
 have hkm:=gM hk
 obtain⟨hbl,hbE⟩:=gS hk
 have hk12:=hP.sh.body k hkm
 have hkinds:=(hP.sh.names k hkm).kinds
 obtain⟨hpl,_⟩:=hs.bsm hk
 have hcode:qk p b=⟨k.kind,k.params,qT p b,qF p b,q9 p b,uE p b k.body⟩:=by simp [qk,jx,hk]
 rw [hcode]
 refine qW.of_sem Tryz.func95 rfl (by kernel_rfl) (rs:=[.cell 4 152]) rfl Tryz.ntmps95 (lB rfl) fun C w g root=>?_
 have fx:=aI hk<|aI hbE<|hbl
 have d1:=qCx gl k.params (by omega)
 have d2:=qIg gl p b k hk hP
 have d3:=y8 gl p b k hk hs hh hl7
 have d4:=qEo gl p b hbl hs hh hl7
 refine qB ?_
 first|refine wSc (id:=1) qRF qA ?_|refine wSc (id:=5) qRE qA ?_
 refine qPU (fun st=>st.tm 1=iv b∧st.tm 2=.pt (.s 2) 0∧st.hp (.s 2)=some (.row 1 [[ksl p]])∧st.tm 6=iv 0∧st.tm 5=.pt (.s 5) 0∧st.tm 4=.pt (.s 4) 0∧st.hp (.s 4)=some (.row 6 [kY.own (.s 4) 0])∧st.hp (.s 5)=some (.row 6 [Cod.own (.s 5) 0 ⟨k.kind,k.params,qT p b,qF p b,q9 p b,[]⟩])∧st.hp (.c (.s 5) 0 1)=some (.row 1 (qY k.params))∧st.hp (.c (.s 5) 0 2)=some (.row 1 (qY (qT p b)))∧st.hp (.c (.s 5) 0 3)=some (.row 1 (qY (qF p b)))∧st.hp (.c (.s 5) 0 4)=some (.row 1 (qY (q9 p b)))∧st.hp (.c (.s 5) 0 5)=some (.row 2 [])) ?_
 clear fx d1 d2 d3 d4
 rintro st ⟨h1,h2,hp2,h6,h5,h4,hp4,hp5,q1,q2,q3,q4,q5⟩
 refine q7 (fun n st=>∃ i:Nat,n=k.body.length - i∧i≤k.body.length∧st.tm 1=iv b∧st.tm 2=.pt (.s 2) 0∧st.hp (.s 2)=some (.row 1 [[ksl p]])∧st.tm 6=iv i∧st.tm 5=.pt (.s 5) 0∧st.tm 4=.pt (.s 4) 0∧st.hp (.s 4)=some (.row 6 [kY.own (.s 4) 0])∧∃ c:Cod,c=⟨k.kind,k.params,qT p b,qF p b,q9 p b,uE p b (k.body.take i)⟩∧st.hp (.s 5)=some (.row 6 [c.own (.s 5) 0])∧OwnK st.hp (.s 5) 0 c) k.body.length ?_ ?_
 ·refine⟨0,by omega,by omega,h1,h2,hp2,h6,h5,h4,hp4,_,rfl,?_,⟨?_,?_,?_,?_,?_⟩⟩
  all_goals simp [uE,hp5,q1,q2,q3,q4,q5]
 clear h1 h2 hp2 h6 h5 h4 hp4 hp5 q1 q2 q3 q4 q5
 rintro n st - - ⟨i,rfl,hi,h1,h2,hp2,h6,h5,h4,hp4,c,hc,hp5,⟨o1,o2,o3,o4,o5⟩⟩
 have hll:=qAc (p:=p) (b:=b) (k.body.take i)
 rw [List.length_take] at hll
 by_cases hil:i<k.body.length
 ·obtain⟨s,hss⟩:∃ s,k.body[i]?=some s:=⟨_,gE hil⟩
  obtain⟨_,hsE⟩:=gS hss
  have hnx:=qDk (p:=p) (b:=b) hss
  have hsl:=qBy (p:=p) (b:=b) (s:=s)
  generalize hL:uE p b (k.body.take i)=L at hc hnx hll
  subst hc
  simp only [Cod.own_eq] at hp5 o1 o2 o3 o4 o5
  have fx:=aI h1<|aI h2<|aI hp2<|aI h6<|aI h5<|aI hp5<|aI o1<|aI o2<|aI o3<|aI o4<|aI o5<|aI hk<|aI hbE<|aI hbl<|aI hss<|aI hsE<|aI hil<|aI hll<|hsl
  have d1:=qCC gl p b k s hk hP (hkinds s (gM hss))
  refine qB ?_
  repeat ((first|refine wSc (id:=1) qRF qA ?_|refine wSc (id:=5) qRE qA ?_);refine qD ?_;refine qB ?_)
  clear fx d1
  refine⟨k.body.length - (i+1),by omega,i+1,rfl,by omega,by simp [h1],by simp [h2],by simp [hp2],by simp;exact wrp (by omega) (by omega),by simp [h5],by simp [h4],by simp [hp4],_,rfl,?_,⟨?_,?_,?_,?_,?_⟩⟩
  all_goals simp [hnx,o1,o2,o3,o4,o5,hp5]
 ·have hge:i=k.body.length:=by omega
  subst hge
  rw [List.take_length] at hc
  subst hc
  simp only [Cod.own_eq] at hp5 o1 o2 o3 o4 o5
  have fx:=aI h1<|aI h2<|aI hp2<|aI h6<|aI h5<|aI h4<|aI hp4<|aI hp5<|aI o1<|aI o2<|aI o3<|aI o4<|aI o5<|aI hk<|aI hbE<|aI hbl<|hil
  refine qB ?_
  repeat ((first|refine wSc (id:=1) qRF qA ?_|refine wSc (id:=5) qRE qA ?_);refine qD ?_;refine qB ?_)
  clear fx
  refine qH [(.s 5,root)] (.one rfl) (by simp [h4];rfl) ⟨?_,⟨?_,?_,?_,?_,?_⟩⟩
  all_goals simp [h4,o1,o2,o3,o4,o5]
theorem qEB (gl) (p:Prg) (hP:LookP p):qW Tryz.prog gl 65 [pav p] (fun r y H'=>y=.hs r 6 0 (qf p p.length).length∧OwnC H' r (qf p p.length)):=by
 have hl7:=hP.len
 refine qW.of_sem Tryz.func65 rfl (by kernel_rfl) (rs:=[.tmp 2]) rfl Tryz.ntmps65 (lB rfl) fun C w g root=>?_
 have fx:=fx0
 refine qB ?_
 clear fx
 refine q7 (fun n st=>∃ i:Nat,n=p.length - i∧i≤p.length∧st.tm 1=.pt (.s 1) 0∧st.hp (.s 1)=some (.row 1 [[ksl p]])∧st.tm 4=iv i∧∃ cs:List Cod,cs=qf p i∧cs.length=i∧st.tm 3=.hs (.s 3) 6 0 cs.length∧OwnC st.hp (.s 3) cs) p.length ?_ ?_
 ·refine⟨0,by omega,by omega,by simp,by simp,by simp,[],by simp,rfl,by simp,⟨by simp,fun i c h=>by simp at h⟩⟩
 rintro n st - - ⟨i,rfl,hi,h1,hp1,h4,cs,hcs,hcl,h3,⟨ht,he⟩⟩
 by_cases hil:i<p.length
 ·obtain⟨k,hk⟩:∃ k,p[i]?=some k:=⟨_,gE hil⟩
  have hnx:=qB0 (p:=p) (n:=i)
  have hcc:=qB3 gl p i k hk hP
  rw [← hcs] at hnx
  generalize hC:qk p i=c at hcc hnx
  have hcl7:cs.length≤7:=by omega
  have fx:=aI h1<|aI hp1<|aI h4<|hil
  have e1:=hcc
  refine qB ?_
  clear fx e1
  rintro K hK y H' ⟨rfl,hO⟩
  obtain⟨o1,o2,o3,o4,o5⟩:=hO.hcln
  refine⟨by simp,?_⟩
  have fx:=aI h1<|aI hp1<|aI h4<|aI h3<|aI ht<|aI hcl7<|aI o1<|aI o2<|aI o3<|aI o4<|o5
  refine qB ?_
  clear fx
  refine⟨p.length - (i+1),by omega,i+1,rfl,by omega,by simp [h1],by simp [hp1],by simp [h4];exact wrp (by omega) (by omega),cs++[c],hnx.symm,by simp [hcl],by simp,⟨?_,fun j d hj=>?_⟩⟩
  ·simp [ht,qDd]
  ·rcases Nat.lt_or_ge j cs.length with hlj|hgj
   ·rw [List.getElem?_append_left hlj] at hj
    have hne:¬ j=cs.length:=by omega
    obtain⟨e1,e2,e3,e4,e5⟩:=he j d hj
    exact⟨by simp [hne,e1],by simp [hne,e2],by simp [hne,e3],by simp [hne,e4],by simp [hne,e5]⟩
   ·rw [List.getElem?_append_right hgj] at hj
    obtain rfl:j=cs.length:=by
     have:=(gS hj).1
     simp at this
     omega
    simp at hj
    subst hj
    exact⟨by simp [o1],by simp [o2],by simp [o3],by simp [o4],by simp [o5]⟩
 ·have hge:i=p.length:=by omega
  subst hge
  subst hcs
  have fx:=aI h1<|aI hp1<|aI h4<|aI hil<|aI h3<|ht
  refine qB ?_
  clear fx
  refine qH [(.s 2,root)] (.one rfl) (by simp;rfl) ⟨by simp,⟨by simp [ht,ub (n:=.s 2) (m:=root) (f:=jO noD [(.s 2,root)]) (by simp)],fun j d hj=>?_⟩⟩
  obtain⟨e1,e2,e3,e4,e5⟩:=he j d hj
  exact⟨by simp [e1],by simp [e2],by simp [e3],by simp [e4],by simp [e5]⟩
end Go.Proofs.YtbgmnmnoaamgkaaGreatDoor
end
section
namespace Go.Proofs.YtbgmnmnoaamgkaaGreatDoor
open Go Go.Hm Go.Proofs
abbrev qQp:Sch:=.q 0<|.q 1<|.q 2<|.q 3<|.q 4<|.q 5<|.q 6<|.q 7<|.q 8<|.q 9<|.q 10<|.q 11<|.l 12 [2,0]<|.l 13 [2,0]<|.l 14 [2]<|.l 15 []<|.done
theorem qGd (gl) (p:Prg) (b:Nat) (k:Blk) (hk:p[b]?=some k) (hP:ShapeP p) (hL:LookP p):qW Tryz.prog gl 67 [pav p,iv b] (fun r y H'=>y=.hs r 1 0 (zL p b).length∧H' r=some (.row 1 (qY (zL p b)))):=by
 have hbl:=(gS hk).1
 obtain⟨_,hkE⟩:=gS hk
 have hlen:=hP.len
 have hf8:=jS (p:=p) (b:=b)
 have hcl:=ug (p:=p) (b:=b)
 have hfr:=qEo gl p b hbl hP.sml hP.heads (by omega)
 refine qW.of_sem Tryz.func67 rfl (by kernel_rfl) (rs:=[.tmp 4]) rfl Tryz.ntmps67 (lB rfl) fun C w g root=>?_
 have fx:=fx0
 have d1:=hfr
 refine qB ?_
 repeat ((first|refine wSc (id:=6) qQp qA ?_);refine qD ?_;refine qB ?_)
 clear fx d1
 refine q7 (fun n st=>∃ i:Nat,n=(q9 p b).length - i∧i≤(q9 p b).length∧st.tm 1=iv b∧st.tm 2=.pt (.s 2) 0∧st.hp (.s 2)=some (.row 1 [[ksl p]])∧st.tm 5=.hs (.s 5) 1 0 i∧st.hp (.s 5)=some (.row 1 (qY ((zL p b).take i)))∧st.tm 6=.hs (.s 6) 1 0 (q9 p b).length∧st.hp (.s 6)=some (.row 1 (qY (q9 p b)))∧st.tm 7=iv i) (q9 p b).length ?_ ?_
 ·exact⟨0,by omega,by omega,by simp,by simp,by simp,by simp,by simp,by simp,by simp,by simp⟩
 rintro n st - - ⟨i,rfl,hi,t1,t2,p2,t5,p5,t6,p6,t7⟩
 by_cases hil:i<(q9 p b).length
 ·obtain⟨x,hx⟩:∃ x,(q9 p b)[i]?=some x:=⟨_,gE hil⟩
  obtain⟨_,hxE⟩:=gS hx
  have hb0:=qA3 (gM hx)
  obtain⟨h1,h2,h3⟩:=hP.heads b k hk
  have h4:=h3 hb0
  obtain⟨c,hc⟩:∃ c:Nat,k.parent=c:=⟨k.parent.toNat,by omega⟩
  obtain⟨kc,hkc⟩:∃ kc,p[c]?=some kc:=⟨_,gE (by omega)⟩
  have hpa:uD p b=c:=by simp [uD,hk,hc]
  have hcp:=qB2 gl p c kc x hkc hL
  have htl:((zL p b).take i).length=i:=by simp [zL];omega
  have hi8:i≤8:=by omega
  have fx:=aI t1<|aI t2<|aI p2<|aI t5<|aI p5<|aI t6<|aI p6<|aI t7<|aI hil<|aI hk<|aI hkE<|aI hbl<|aI hc<|aI hx<|aI hxE<|aI htl<|hi8
  have c1:=hcp
  refine qB ?_
  repeat ((first|refine wSc (id:=6) qQp qA ?_);refine qD ?_;refine qB ?_)
  clear fx c1
  have e1:(zL p b).take (i+1)=(zL p b).take i++[vZ p c x]:=by
   rw [List.take_add_one]
   simp [zL,hx,hpa]
  have e2:qY ((zL p b).take i)++[[iv (vZ p c x)]]=qY ((zL p b).take (i+1)):=by rw [e1];simp [qY]
  refine⟨(q9 p b).length - (i+1),by omega,i+1,rfl,by omega,by simp [t1],by simp [t2],by simp [p2],by simp,?_,by simp [t6],by simp [p6],by simp [t7];exact wrp (by omega) (by omega)⟩
  simp [← e2]
  rw [List.take_of_length_le (by simp;omega)]
 ·obtain rfl:i=(q9 p b).length:=by omega
  have hcl2:(zL p b).length=(q9 p b).length:=by simp [zL]
  have htk:(zL p b).take (q9 p b).length=zL p b:=List.take_of_length_le (by omega)
  rw [htk] at p5
  have fx:=aI t1<|aI t2<|aI p2<|aI t5<|aI p5<|aI t6<|aI p6<|t7
  refine qB ?_
  repeat ((first|refine wSc (id:=6) qQp qA ?_);refine qD ?_;refine qB ?_)
  clear fx
  exact zZ (t:=4) (by first|(simp [t5,p5,hcl2];done)|(simp [t5,p5,hcl2];rfl)) (by first|(simp [t5,p5,hcl2];done)|(simp [t5,p5,hcl2];rfl)) (by simp)
theorem qHd (gl) (p:Prg) (b:Nat) (k:Blk) (hk:p[b]?=some k) (hP:ShapeP p) (hL:LookP p):qW Tryz.prog gl 67 [pav p,iv b] (fun _ y _=>y=isl (zL p b)) :=
 (qGd gl p b k hk hP hL).settle fun r y H' hr=>⟨isl (zL p b),by rw [hr.1];exact jF hr.2 rfl,rfl⟩
theorem qOm (gl) (p:Prg) (hL:LookP p):qW Tryz.prog gl 65 [pav p] (fun _ y _=>y=csl (qf p p.length)) :=
 (qEB gl p hL).settle fun r y H' hr=>⟨csl (qf p p.length),by rw [hr.1];exact ym hr.2 rfl,rfl⟩
end Go.Proofs.YtbgmnmnoaamgkaaGreatDoor
end
