/-
  Own texts, joined by mkclaim.py: Kc, Zm.
-/
import Derived.Test.YtbgmnmnoaamgkaaGreatDoorC27
import Derived.Test.YtbgmnmnoaamgkaaGreatDoorC11
import Derived.Test.YtbgmnmnoaamgkaaGreatDoorC25
import Derived.Test.YtbgmnmnoaamgkaaGreatDoorC18
import Derived.Test.YtbgmnmnoaamgkaaGreatDoorC16
set_option linter.unusedSimpArgs false
set_option linter.unusedVariables false
set_option maxRecDepth 100000
set_option maxHeartbeats 4000000

section
namespace Go.Proofs.YtbgmnmnoaamgkaaGreatDoor
open Go Go.Hm Go.Proofs
theorem wd {f:Nat→Bool}:∀ {n:Nat},(∀ x,x<n→f x=false)→qz f n=[]
 | 0,_=>rfl
 | n+1,h=>by
  rw [qz,if_neg (by rw [h n (by omega)];decide),wd (n:=n) fun x hx=>h x (by omega)]
theorem wc {f:Nat→Bool} {n:Nat}:qz f (n+1)=if f n=true then qz f n++[(n:Int)] else qz f n:=rfl
theorem vi (gl) (xs:List Int) (x:Int) (hlen:xs.length≤1048576):qW Tryz.prog gl 148 [isl xs,iv x] (fun _ z _=>z=iv (qx xs x)):=by
 refine qW.of_sem Tryz.func148 rfl (by kernel_rfl) (rs:=[.tmp 4]) rfl Tryz.ntmps148 (lB rfl) fun C w g root=>?_
 all_goals have fx:=fx0
 repeat' (first
  | refine qN ?_|refine qJ ?_|refine qM fun K hK=>?_
  | ((with_reducible refine qK hK ?_);clear hK K)
  | (with_reducible first|refine qG ?_|refine qE (h:=?_))
  | (with_reducible refine x_q (h:=?_))
  | fail)
 all_goals try clear fx
 refine q7 (fun n st=>∃ i:Nat,n=xs.length - i∧i≤xs.length∧st.tm 7=isl xs∧st.tm 8=iv xs.length∧st.tm 1=iv x∧st.tm 9=iv i∧∀ j<i,xs[j]?≠some x) xs.length ⟨0,by simp⟩ ?_
 rintro n st - - ⟨i,rfl,hi,h7,h8,h1,h9,hno⟩
 by_cases hlt:i<xs.length
 ·obtain⟨y,hy⟩:∃ y,xs[i]?=some y:=⟨xs[i],gE hlt⟩
  obtain⟨_,hyE⟩:=gS hy
  cases hyx:(y==x)
  rotate_left
  ·skip
   all_goals have fx:=aI h7<|aI h8<|aI h1<|aI h9<|aI hy<|aI hyE<|aI hlt<|hyx
   repeat' (first
    | refine qN ?_|refine qJ ?_|refine qR ?_|refine qM fun K hK=>?_
    | ((with_reducible refine qK hK ?_);clear hK K)
    | (with_reducible first|refine qC ?_|refine qI ?_|refine qc ?_)
    | refine qX ?_
    | (with_reducible first|refine qG ?_|refine qE (h:=?_))
    | (with_reducible refine x_q (h:=?_))
    | refine qO (h1:=?_)
    | fail)
   all_goals try clear fx
   refine qH [] .nil (by simp;rfl) ?_
   have hyx:y=x:=by simpa using hyx
   subst hyx
   have:xs.findIdx? (·==y)=some i:=by
    rw [List.findIdx?_eq_some_iff_getElem]
    refine⟨hlt,by simp [hyE],fun j hj=>?_⟩
    have:=hno j hj
    rw [gE (by omega)] at this
    simpa using this
   simp [qx,this]
  ·skip
   all_goals have fx:=aI h7<|aI h8<|aI h1<|aI h9<|aI hy<|aI hyE<|aI hlt<|hyx
   repeat' (first
    | refine qN ?_|refine qJ ?_|refine qR ?_|refine qM fun K hK=>?_
    | ((with_reducible refine qK hK ?_);clear hK K)
    | (with_reducible first|refine qC ?_)
    | (with_reducible first|refine qG ?_|refine qE (h:=?_))
    | (with_reducible refine x_q (h:=?_))
    | refine qO (h1:=?_)|refine qS (h1:=?_)
    | fail)
   all_goals try clear fx
   refine⟨xs.length - (i+1),by omega,i+1,rfl,by omega,by simp [h7],by simp [h8],by simp [h1],by simp;exact wrp (by omega) (by omega),fun j hj=>?_⟩
   rcases Nat.lt_succ_iff_lt_or_eq.1 hj with h|rfl
   ·exact hno j h
   ·rw [hy];simpa using hyx
 ·skip
  all_goals have fx:=aI h7<|aI h8<|aI h1<|aI h9<|hlt
  repeat' (first
   | refine qN ?_|refine qM fun K hK=>?_
   | ((with_reducible refine qK hK ?_);clear hK K)
   | (with_reducible first|refine qC ?_)
   | refine qn ?_
   | refine qX ?_
   | (with_reducible first|refine qG ?_|refine qE (h:=?_))
   | (with_reducible refine x_q (h:=?_))
   | refine qS (h1:=?_)
   | fail)
  all_goals try clear fx
  refine qH [] .nil (by simp;rfl) ?_
  have:xs.findIdx? (·==x)=none:=by
   rw [List.findIdx?_eq_none_iff]
   intro y hy
   obtain⟨j,hj,rfl⟩:=List.getElem_of_mem hy
   have:=hno j (by omega)
   rw [gE hj] at this
   simpa using this
  simp [qx,this]
theorem uf (gl) (p:Prg) (hp:ShapeP p) (b:Nat) (k:Blk) (hk:p[b]?=some k):qW Tryz.prog gl 49 [qAC p,iv b] (fun _ y _=>y=.agg (jP (qF p b))):=by
 have hh:=hp.heads
 have hl7:=hp.len
 obtain⟨hbl,hbE⟩:=gS hk
 have hka:qt p b=k.kind:=by simp [qt,hk]
 have hsg:=yY (p:=p) hbl
 rw [jJ hh hk] at hsg
 obtain⟨_,hse⟩:=gS hsg
 refine qW.of_sem Tryz.func49 rfl (by kernel_rfl) (rs:=[.cell 4 94]) rfl Tryz.ntmps49 (lB rfl) fun C w g root=>?_
 cases hkd:(k.kind==1)
 ·have hc:qF p b=[]:=by
   have:¬ k.kind=1:=by simpa using hkd
   simp [qF,hka,this]
  rw [hc]
  all_goals have fx:=aI hsg<|aI hse<|aI hkd<|aI hbl<|@qr
  repeat' (first
   | refine qN ?_|refine qJ ?_|refine qR ?_|refine qM fun K hK=>?_
   | ((with_reducible refine qK hK ?_);clear hK K)
   | (with_reducible first|refine qC ?_|refine qP ?_|refine qd ?_|refine zD ?_|refine qI ?_|refine qc ?_|refine ql (by decide) ?_)
   | refine qn ?_
   | refine qX ?_
   | (with_reducible refine qG ?_)
   | ((with_reducible refine yV ?_);refine q6 (h:=?_))
   | (with_reducible first|refine ze ?_|refine jE ?_|refine vG (h:=?_)|refine vj (h:=?_)|refine x_u (h:=?_)|refine qE (h:=?_)|refine qg (h:=?_)|refine qU (h:=?_))
   | (with_reducible refine x_q (h:=?_))
   | (with_reducible refine vC (fun ht=>?_) (fun ht=>?_))
   | refine qO (h1:=?_)|refine qS (h1:=?_)
   | fail)
  all_goals try clear fx
  refine qH [] .nil (by simp;rfl) ?_
  rfl
 have hk1:k.kind=1:=by simpa using hkd
 have h0:0<b:=by
  rcases Nat.eq_zero_or_pos b with e|e
  ·have:=(hp.kind0 hk).2 e
   omega
  ·exact e
 have hc:jP (qF p b)=jP (qCz p b p.length):=by
  simp only [qF,hka,hk1,if_true]
  rw [← qOn hh h0 hbl,kG]
 rw [hc]
 all_goals have fx:=aI hsg<|aI hse<|aI hkd<|aI hbl<|@qr
 repeat' (first
  | refine qN ?_|refine qJ ?_|refine qR ?_|refine qM fun K hK=>?_
  | ((with_reducible refine qK hK ?_);clear hK K)
  | (with_reducible first|refine qC ?_|refine qP ?_|refine qd ?_|refine zD ?_|refine qI ?_|refine qc ?_|refine ql (by decide) ?_)
  | refine qn ?_
  | refine qX ?_
  | (with_reducible refine qG ?_)
  | ((with_reducible refine yV ?_);refine q6 (h:=?_))
  | (with_reducible first|refine ze ?_|refine jE ?_|refine vG (h:=?_)|refine vj (h:=?_)|refine x_u (h:=?_)|refine qE (h:=?_)|refine qg (h:=?_)|refine qU (h:=?_))
  | (with_reducible refine x_q (h:=?_))
  | (with_reducible refine vC (fun ht=>?_) (fun ht=>?_))
  | refine qO (h1:=?_)|refine qS (h1:=?_)
  | fail)
 all_goals try clear fx
 refine q7 (fun n st=>∃ c:Nat,n=p.length - c∧c≤p.length∧st.tm 1=iv b∧st.tm 4=.pt (.s 4) 0∧st.hp (.s 4)=some (.row 8 [jP []])∧st.tm 5=.pt (.s 5) 0∧st.hp (.s 5)=some (.row 8 [jP (qCz p b c)])∧st.tm 18=qAC p∧st.tm 19=iv p.length∧st.tm 20=iv c) p.length ?_ ?_
 ·exact⟨0,by omega,by omega,by simp,by simp,by simp;rfl,by simp,by simp;rfl,by simp,by simp,by simp⟩
 clear hsg hse
 rintro n st - - ⟨c,rfl,hc2,h1,h4,hp4,h5,hp5,h18,h19,h20⟩
 by_cases hlt:c<p.length
 ·obtain⟨q,hq⟩:∃ q,p[c]?=some q:=⟨_,gE hlt⟩
  have hsg:=yY (p:=p) hlt
  rw [jJ hh hq] at hsg
  obtain⟨_,hse⟩:=gS hsg
  have hnext:qCz p b (c+1)=qCz p b c++qz (qBe p b c) 8:=rfl
  generalize hR:qCz p b c=R at hp5 hnext
  cases hcb:((c:Int)==b)
  rotate_left
  ·have hcb':c=b:=by
    have:(c:Int)=b:=by simpa using hcb
    omega
   rw [wd (fun x _=>by simp only [qBe,hq];simp [hcb']),List.append_nil] at hnext
   all_goals have fx:=aI h1<|aI h4<|aI hp4<|aI h5<|aI hp5<|aI h18<|aI h19<|aI h20<|aI hlt<|aI hsg<|aI hse<|hcb
   repeat' (first
    | refine qN ?_|refine qJ ?_|refine qR ?_|refine qM fun K hK=>?_
    | ((with_reducible refine qK hK ?_);clear hK K)
    | (with_reducible first|refine qC ?_|refine qP ?_|refine qd ?_|refine zD ?_|refine qI ?_|refine qc ?_|refine ql (by decide) ?_)
    | refine qn ?_
    | refine qX ?_
    | (with_reducible refine qG ?_)
    | ((with_reducible refine yV ?_);refine q6 (h:=?_))
    | (with_reducible first|refine ze ?_|refine jE ?_|refine vG (h:=?_)|refine vj (h:=?_)|refine x_u (h:=?_)|refine qE (h:=?_)|refine qg (h:=?_)|refine qU (h:=?_))
    | (with_reducible refine x_q (h:=?_))
    | (with_reducible refine vC (fun ht=>?_) (fun ht=>?_))
    | refine qO (h1:=?_)|refine qS (h1:=?_)
    | fail)
   all_goals try clear fx
   exact⟨p.length - (c+1),by omega,c+1,rfl,by omega,by simp [h1],by simp [h4],by simp [hp4],by simp [h5],by simp [hp5,hnext],by simp [h18],by simp [h19],by simp;exact wrp (by omega) (by omega)⟩
  have hcb':(c != b)=true:=by
   have:¬ (c:Int)=b:=by simpa using hcb
   simp
   omega
  all_goals have fx:=aI h1<|aI h4<|aI hp4<|aI h5<|aI hp5<|aI h18<|aI h19<|aI h20<|aI hlt<|aI hsg<|aI hse<|hcb
  repeat' (first
   | refine qN ?_|refine qJ ?_|refine qR ?_|refine qM fun K hK=>?_
   | ((with_reducible refine qK hK ?_);clear hK K)
   | (with_reducible first|refine qC ?_|refine qP ?_|refine qd ?_|refine zD ?_|refine qI ?_|refine qc ?_|refine ql (by decide) ?_)
   | refine qn ?_
   | refine qX ?_
   | (with_reducible refine qG ?_)
   | ((with_reducible refine yV ?_);refine q6 (h:=?_))
   | (with_reducible first|refine ze ?_|refine jE ?_|refine vG (h:=?_)|refine vj (h:=?_)|refine x_u (h:=?_)|refine qE (h:=?_)|refine qg (h:=?_)|refine qU (h:=?_))
   | (with_reducible refine x_q (h:=?_))
   | (with_reducible refine vC (fun ht=>?_) (fun ht=>?_))
   | refine qO (h1:=?_)|refine qS (h1:=?_)
   | fail)
  all_goals try clear fx
  refine q7 (fun n st=>∃ x:Nat,n=8 - x∧x≤8∧st.tm 1=iv b∧st.tm 4=.pt (.s 4) 0∧st.hp (.s 4)=some (.row 8 [jP []])∧st.tm 5=.pt (.s 5) 0∧st.hp (.s 5)=some (.row 8 [jP (R++qz (qBe p b c) x)])∧st.tm 7=qM6 p c q∧st.tm 18=qAC p∧st.tm 19=iv p.length∧st.tm 20=iv c∧st.tm 30=iv x) 8 ?_ ?_
  ·exact⟨0,by omega,by omega,by simp [h1],by simp [h4],by simp [hp4],by simp [h5],by simp [hp5,qz],by simp,by simp [h18],by simp [h19],by simp [h20],by simp⟩
  clear h1 h4 hp4 h5 hp5 h18 h19 h20
  rintro n st - - ⟨x,rfl,hx,h1,h4,hp4,h5,hp5,h7,h18,h19,h20,h30⟩
  by_cases hx8:x<8
  ·have hx8':(x:Int)<8:=by omega
   have hfi:qBe p b c x=(decide ((x:Int)∈q.us)&&(zE p c x==b)):=by simp only [qBe,hq,hcb',Bool.true_and]
   have hn2:=wc (f:=qBe p b c) (n:=x)
   cases hus:decide ((x:Int)∈q.us)
   ·rw [if_neg (by rw [hfi,hus];simp)] at hn2
    all_goals have fx:=aI h1<|aI h5<|aI hp5<|aI h7<|aI h30<|aI hx8<|aI hx8'<|hus
    repeat' (first
     | refine qN ?_|refine qJ ?_|refine qR ?_|refine qM fun K hK=>?_
     | ((with_reducible refine qK hK ?_);clear hK K)
     | (with_reducible first|refine qC ?_|refine qP ?_|refine qd ?_|refine zD ?_|refine qI ?_|refine qc ?_|refine ql (by decide) ?_)
     | refine qn ?_
     | refine qX ?_
     | (with_reducible refine qG ?_)
     | ((with_reducible refine yV ?_);refine q6 (h:=?_))
     | (with_reducible first|refine ze ?_|refine jE ?_|refine vG (h:=?_)|refine vj (h:=?_)|refine x_u (h:=?_)|refine qE (h:=?_)|refine qg (h:=?_)|refine qU (h:=?_))
     | ((with_reducible refine qv 80 rfl ?_);refine qL (hF:=ul _ p c q x hx8) (h:=?_))
     | ((with_reducible refine qv 81 rfl ?_);refine qL (hF:=zV _ p hp c q hq x hx8) (h:=?_))
     | (with_reducible refine x_q (h:=?_))
     | (with_reducible refine vC (fun ht=>?_) (fun ht=>?_))
     | refine qO (h1:=?_)|refine qS (h1:=?_)
     | fail)
    all_goals try clear fx
    exact⟨8 - (x+1),by omega,x+1,rfl,by omega,by simp [h1],by simp [h4],by simp [hp4],by simp [h5],by simp [hp5,hn2],by simp [h7],by simp [h18],by simp [h19],by simp [h20],by simp;exact wrp (by omega) (by omega)⟩
   cases ho:(zE p c x==(b:Int))
   ·rw [if_neg (by rw [hfi,ho];simp)] at hn2
    all_goals have fx:=aI h1<|aI h5<|aI hp5<|aI h7<|aI h30<|aI hx8<|aI hx8'<|aI hus<|ho
    repeat' (first
     | refine qN ?_|refine qJ ?_|refine qR ?_|refine qM fun K hK=>?_
     | ((with_reducible refine qK hK ?_);clear hK K)
     | (with_reducible first|refine qC ?_|refine qP ?_|refine qd ?_|refine zD ?_|refine qI ?_|refine qc ?_|refine ql (by decide) ?_)
     | refine qn ?_
     | refine qX ?_
     | (with_reducible refine qG ?_)
     | ((with_reducible refine yV ?_);refine q6 (h:=?_))
     | (with_reducible first|refine ze ?_|refine jE ?_|refine vG (h:=?_)|refine vj (h:=?_)|refine x_u (h:=?_)|refine qE (h:=?_)|refine qg (h:=?_)|refine qU (h:=?_))
     | ((with_reducible refine qv 80 rfl ?_);refine qL (hF:=ul _ p c q x hx8) (h:=?_))
     | ((with_reducible refine qv 81 rfl ?_);refine qL (hF:=zV _ p hp c q hq x hx8) (h:=?_))
     | (with_reducible refine x_q (h:=?_))
     | (with_reducible refine vC (fun ht=>?_) (fun ht=>?_))
     | refine qO (h1:=?_)|refine qS (h1:=?_)
     | fail)
    all_goals try clear fx
    exact⟨8 - (x+1),by omega,x+1,rfl,by omega,by simp [h1],by simp [h4],by simp [hp4],by simp [h5],by simp [hp5,hn2],by simp [h7],by simp [h18],by simp [h19],by simp [h20],by simp;exact wrp (by omega) (by omega)⟩
   ·rw [if_pos (by rw [hfi,hus,ho];rfl)] at hn2
    have hnM:R++qz (qBe p b c) (x+1)=R++qz (qBe p b c) x++[(x:Int)]:=by rw [hn2,List.append_assoc]
    generalize R++qz (qBe p b c) x=M at hp5 hnM
    all_goals have fx:=aI h1<|aI h5<|aI hp5<|aI h7<|aI h30<|aI hx8<|aI hx8'<|aI hus<|ho
    repeat' (first
     | refine qN ?_|refine qJ ?_|refine qR ?_|refine qM fun K hK=>?_
     | ((with_reducible refine qK hK ?_);clear hK K)
     | (with_reducible first|refine qC ?_|refine qP ?_|refine qd ?_|refine zD ?_|refine qI ?_|refine qc ?_|refine ql (by decide) ?_)
     | refine qn ?_
     | refine qX ?_
     | (with_reducible refine qG ?_)
     | ((with_reducible refine yV ?_);refine q6 (h:=?_))
     | (with_reducible first|refine ze ?_|refine jE ?_|refine vG (h:=?_)|refine vj (h:=?_)|refine x_u (h:=?_)|refine qE (h:=?_)|refine qg (h:=?_)|refine qU (h:=?_))
     | ((with_reducible refine qv 80 rfl ?_);refine qL (hF:=ul _ p c q x hx8) (h:=?_))
     | ((with_reducible refine qv 81 rfl ?_);refine qL (hF:=zV _ p hp c q hq x hx8) (h:=?_))
     | (with_reducible refine x_q (h:=?_))
     | (with_reducible refine vC (fun ht=>?_) (fun ht=>?_))
     | refine qO (h1:=?_)|refine qS (h1:=?_)
     | fail)
    all_goals try clear fx
    refine⟨8 - (x+1),by omega,x+1,rfl,by omega,by simp [h1],by simp [h4],by simp [hp4],by simp [h5],?_,by simp [h7],by simp [h18],by simp [h19],by simp [h20],by simp;exact wrp (by omega) (by omega)⟩
    rw [hnM]
    simp [← uN (l:=M) (y:=(x:Int)) rfl hx8]
  ·have hge:x=8:=by omega
   subst hge
   rw [← hnext] at hp5
   all_goals have fx:=aI h1<|aI h5<|aI hp5<|aI h18<|aI h19<|aI h20<|h30
   repeat' (first
    | refine qN ?_|refine qJ ?_|refine qR ?_|refine qM fun K hK=>?_
    | ((with_reducible refine qK hK ?_);clear hK K)
    | (with_reducible first|refine qC ?_|refine qP ?_|refine qd ?_|refine zD ?_|refine qI ?_|refine qc ?_|refine ql (by decide) ?_)
    | refine qn ?_
    | refine qX ?_
    | (with_reducible refine qG ?_)
    | ((with_reducible refine yV ?_);refine q6 (h:=?_))
    | (with_reducible first|refine ze ?_|refine jE ?_|refine vG (h:=?_)|refine vj (h:=?_)|refine x_u (h:=?_)|refine qE (h:=?_)|refine qg (h:=?_)|refine qU (h:=?_))
    | (with_reducible refine x_q (h:=?_))
    | (with_reducible refine vC (fun ht=>?_) (fun ht=>?_))
    | refine qO (h1:=?_)|refine qS (h1:=?_)
    | fail)
   all_goals try clear fx
   exact⟨p.length - (c+1),by omega,c+1,rfl,by omega,by simp [h1],by simp [h4],by simp [hp4],by simp [h5],by simp [hp5],by simp [h18],by simp [h19],by simp [h20];exact wrp (by omega) (by omega)⟩
 ·have hge:c=p.length:=by omega
  subst hge
  all_goals have fx:=aI h4<|aI hp4<|aI h5<|aI hp5<|aI h19<|h20
  repeat' (first
   | refine qN ?_|refine qJ ?_|refine qR ?_|refine qM fun K hK=>?_
   | ((with_reducible refine qK hK ?_);clear hK K)
   | (with_reducible first|refine qC ?_|refine qP ?_|refine qd ?_|refine zD ?_|refine qI ?_|refine qc ?_|refine ql (by decide) ?_)
   | refine qn ?_
   | refine qX ?_
   | (with_reducible refine qG ?_)
   | ((with_reducible refine yV ?_);refine q6 (h:=?_))
   | (with_reducible first|refine ze ?_|refine jE ?_|refine vG (h:=?_)|refine vj (h:=?_)|refine x_u (h:=?_)|refine qE (h:=?_)|refine qg (h:=?_)|refine qU (h:=?_))
   | (with_reducible refine x_q (h:=?_))
   | (with_reducible refine vC (fun ht=>?_) (fun ht=>?_))
   | refine qO (h1:=?_)|refine qS (h1:=?_)
   | fail)
  all_goals try clear fx
  refine qH [] .nil (by simp [h4];rfl) ?_
  simp
theorem qBC (gl) (p:Prg) (hp:ShapeP p) (b:Nat) (hbl:b<p.length):qW Tryz.prog gl 112 [qAC p,iv b] (fun r y H'=>y=.hs r 1 0 (q9 p b).length∧H' r=some (.row 1 (qY (q9 p b)))):=by
 have hh:=hp.heads
 have hl7:=hp.len
 rw [← qO5 hh hbl]
 refine qW.of_sem Tryz.func112 rfl (by kernel_rfl) (rs:=[.tmp 4]) rfl Tryz.ntmps112 (lB rfl) fun C w g root=>?_
 all_goals have fx:=fx0
 repeat' (first
  | refine qN ?_|refine qJ ?_|refine qM fun K hK=>?_
  | ((with_reducible refine qK hK ?_);clear hK K)
  | (with_reducible refine qG ?_)
  | (with_reducible first|refine qE (h:=?_)|refine qg (h:=?_))
  | (with_reducible refine x_q (h:=?_))
  | fail)
 all_goals try clear fx
 refine q7 (fun n st=>∃ c:Nat,n=p.length - c∧c≤p.length∧st.tm 0=qAC p∧st.tm 1=iv b∧st.tm 5=.pt (.s 5) 0∧st.hp (.s 5)=some (.row 8 [jP (qCt p b c)])∧st.tm 10=qAC p∧st.tm 11=iv p.length∧st.tm 12=iv c) p.length ?_ ?_
 ·exact⟨0,by omega,by omega,by simp,by simp,by simp,by simp;rfl,by simp,by simp,by simp⟩
 rintro n st - - ⟨c,rfl,hc2,h0,h1,h5,hp5,h10,h11,h12⟩
 by_cases hlt:c<p.length
 ·obtain⟨q,hq⟩:∃ q,p[c]?=some q:=⟨_,gE hlt⟩
  have hsg:=yY (p:=p) hlt
  rw [jJ hh hq] at hsg
  obtain⟨_,hse⟩:=gS hsg
  have hnext:qCt p b (c+1)=qCt p b c++qz (qBd p b c) 8:=rfl
  generalize hR:qCt p b c=R at hp5 hnext
  cases hin:zP p c b
  ·rw [wd (fun x _=>by simp only [qBd,hq,hin];simp),List.append_nil] at hnext
   all_goals have fx:=aI h0<|aI h1<|aI h5<|aI hp5<|aI h10<|aI h11<|aI h12<|aI hlt<|aI hsg<|aI hse<|hin
   repeat' (first
    | refine qN ?_|refine qJ ?_|refine qR ?_|refine qM fun K hK=>?_
    | ((with_reducible refine qK hK ?_);clear hK K)
    | (with_reducible first|refine qC ?_)
    | refine qn ?_
    | (with_reducible refine qG ?_)
    | (with_reducible first|refine qE (h:=?_))
    | ((with_reducible refine qv 147 rfl ?_);refine qL (hF:=uy _ p hh c q hq b) (h:=?_))
    | (with_reducible refine x_q (h:=?_))
    | refine qO (h1:=?_)
    | fail)
   all_goals try clear fx
   exact⟨p.length - (c+1),by omega,c+1,rfl,by omega,by simp [h0],by simp [h1],by simp [h5],by simp [hp5,hnext],by simp [h10],by simp [h11],by simp;exact wrp (by omega) (by omega)⟩
  all_goals have fx:=aI h0<|aI h1<|aI h5<|aI hp5<|aI h10<|aI h11<|aI h12<|aI hlt<|aI hsg<|aI hse<|hin
  repeat' (first
   | refine qN ?_|refine qJ ?_|refine qR ?_|refine qM fun K hK=>?_
   | ((with_reducible refine qK hK ?_);clear hK K)
   | (with_reducible first|refine qC ?_)
   | (with_reducible refine qG ?_)
   | (with_reducible first|refine qE (h:=?_))
   | ((with_reducible refine qv 147 rfl ?_);refine qL (hF:=uy _ p hh c q hq b) (h:=?_))
   | (with_reducible refine x_q (h:=?_))
   | refine qO (h1:=?_)|refine qS (h1:=?_)
   | fail)
  all_goals try clear fx
  refine q7 (fun n st=>∃ x:Nat,n=8 - x∧x≤8∧st.tm 0=qAC p∧st.tm 1=iv b∧st.tm 5=.pt (.s 5) 0∧st.hp (.s 5)=some (.row 8 [jP (R++qz (qBd p b c) x)])∧st.tm 7=qM6 p c q∧st.tm 10=qAC p∧st.tm 11=iv p.length∧st.tm 12=iv c∧st.tm 20=iv x) 8 ?_ ?_
  ·exact⟨0,by omega,by omega,by simp [h0],by simp [h1],by simp [h5],by simp [hp5,qz],by simp,by simp [h10],by simp [h11],by simp [h12],by simp⟩
  clear h0 h1 h5 hp5 h10 h11 h12 hsg hse
  rintro n st - - ⟨x,rfl,hx,h0,h1,h5,hp5,h7,h10,h11,h12,h20⟩
  by_cases hx8:x<8
  ·have hx8':(x:Int)<8:=by omega
   have hfi:qBd p b c x=(decide ((x:Int)∈q.us)&&(zE p c x != -1)&&!zP p (zE p c x) b):=by simp only [qBd,hq,hin,Bool.true_and]
   have hn2:=wc (f:=qBd p b c) (n:=x)
   cases hus:decide ((x:Int)∈q.us)
   ·rw [if_neg (by rw [hfi,hus];simp)] at hn2
    all_goals have fx:=aI h1<|aI h5<|aI hp5<|aI h7<|aI h20<|aI hx8<|aI hx8'<|hus
    repeat' (first
     | refine qN ?_|refine qJ ?_|refine qR ?_|refine qM fun K hK=>?_
     | ((with_reducible refine qK hK ?_);clear hK K)
     | (with_reducible first|refine qC ?_)
     | refine qn ?_
     | (with_reducible refine qG ?_)
     | (with_reducible first|refine qE (h:=?_))
     | ((with_reducible refine qv 80 rfl ?_);refine qL (hF:=ul _ p c q x hx8) (h:=?_))
     | (with_reducible refine x_q (h:=?_))
     | refine qO (h1:=?_)
     | fail)
    all_goals try clear fx
    exact⟨8 - (x+1),by omega,x+1,rfl,by omega,by simp [h0],by simp [h1],by simp [h5],by simp [hp5,hn2],by simp [h7],by simp [h10],by simp [h11],by simp [h12],by simp;exact wrp (by omega) (by omega)⟩
   cases hno:(zE p c x == -1)
   rotate_left
   ·rw [if_neg (by rw [hfi,bne,hno];simp)] at hn2
    all_goals have fx:=aI h1<|aI h5<|aI hp5<|aI h7<|aI h20<|aI hx8<|aI hx8'<|aI hus<|aI hno<|@qr
    repeat' (first
     | refine qN ?_|refine qJ ?_|refine qR ?_|refine qM fun K hK=>?_
     | ((with_reducible refine qK hK ?_);clear hK K)
     | (with_reducible first|refine qC ?_)
     | (with_reducible refine qG ?_)
     | ((with_reducible refine yV ?_);refine q6 (h:=?_))
     | (with_reducible first|refine vG (h:=?_)|refine qE (h:=?_))
     | ((with_reducible refine qv 80 rfl ?_);refine qL (hF:=ul _ p c q x hx8) (h:=?_))
     | ((with_reducible refine qv 81 rfl ?_);refine qL (hF:=zV _ p hp c q hq x hx8) (h:=?_))
     | (with_reducible refine x_q (h:=?_))
     | refine qO (h1:=?_)|refine qS (h1:=?_)
     | fail)
    all_goals try clear fx
    exact⟨8 - (x+1),by omega,x+1,rfl,by omega,by simp [h0],by simp [h1],by simp [h5],by simp [hp5,hn2],by simp [h7],by simp [h10],by simp [h11],by simp [h12],by simp;exact wrp (by omega) (by omega)⟩
   have hno':¬ zE p c x=-1:=by simpa using hno
   obtain⟨o,hO⟩:∃ o:Nat,zE p c x=o:=⟨(zE p c x).toNat,by rcases vL (p:=p) (c:=c) (x:=(x:Int)) with h|h <;> omega⟩
   have hol:o<p.length:=by
    have h1:=vL (p:=p) (c:=c) (x:=(x:Int))
    have h2:=jb (vq hh (by omega) hq hO)
    omega
   obtain⟨qo,hqo⟩:∃ q,p[o]?=some q:=⟨_,gE hol⟩
   have hsg:=yY (p:=p) hol
   rw [jJ hh hqo] at hsg
   obtain⟨_,hse⟩:=gS hsg
   rw [hO] at hno hfi
   cases hio:zP p o b
   rotate_left
   ·rw [if_neg (by rw [hfi,hio];simp)] at hn2
    all_goals have fx:=aI h0<|aI h1<|aI h5<|aI hp5<|aI h7<|aI h20<|aI hx8<|aI hx8'<|aI hus<|aI hO<|aI hno<|aI hol<|aI hsg<|aI hse<|aI hio<|@qr
    repeat' (first
     | refine qN ?_|refine qJ ?_|refine qR ?_|refine qM fun K hK=>?_
     | ((with_reducible refine qK hK ?_);clear hK K)
     | (with_reducible first|refine qC ?_)
     | (with_reducible refine qG ?_)
     | ((with_reducible refine yV ?_);refine q6 (h:=?_))
     | (with_reducible first|refine ze ?_|refine qE (h:=?_))
     | ((with_reducible refine qv 80 rfl ?_);refine qL (hF:=ul _ p c q x hx8) (h:=?_))
     | ((with_reducible refine qv 81 rfl ?_);refine qL (hF:=zV _ p hp c q hq x hx8) (h:=?_))
     | ((with_reducible refine qv 147 rfl ?_);refine qL (hF:=uy _ p hh o qo hqo b) (h:=?_))
     | (with_reducible refine x_q (h:=?_))
     | refine qO (h1:=?_)|refine qS (h1:=?_)
     | fail)
    all_goals try clear fx
    exact⟨8 - (x+1),by omega,x+1,rfl,by omega,by simp [h0],by simp [h1],by simp [h5],by simp [hp5,hn2],by simp [h7],by simp [h10],by simp [h11],by simp [h12],by simp;exact wrp (by omega) (by omega)⟩
   ·rw [if_pos (by rw [hfi,hus,bne,hno,hio];rfl)] at hn2
    have hnM:R++qz (qBd p b c) (x+1)=R++qz (qBd p b c) x++[(x:Int)]:=by rw [hn2,List.append_assoc]
    generalize R++qz (qBd p b c) x=M at hp5 hnM
    all_goals have fx:=aI h0<|aI h1<|aI h5<|aI hp5<|aI h7<|aI h20<|aI hx8<|aI hx8'<|aI hus<|aI hO<|aI hno<|aI hol<|aI hsg<|aI hse<|aI hio<|@qr
    repeat' (first
     | refine qN ?_|refine qJ ?_|refine qR ?_|refine qM fun K hK=>?_
     | ((with_reducible refine qK hK ?_);clear hK K)
     | (with_reducible first|refine qC ?_)
     | (with_reducible refine qG ?_)
     | ((with_reducible refine yV ?_);refine q6 (h:=?_))
     | (with_reducible first|refine ze ?_|refine qE (h:=?_)|refine qU (h:=?_))
     | ((with_reducible refine qv 80 rfl ?_);refine qL (hF:=ul _ p c q x hx8) (h:=?_))
     | ((with_reducible refine qv 81 rfl ?_);refine qL (hF:=zV _ p hp c q hq x hx8) (h:=?_))
     | ((with_reducible refine qv 147 rfl ?_);refine qL (hF:=uy _ p hh o qo hqo b) (h:=?_))
     | (with_reducible refine x_q (h:=?_))
     | refine qO (h1:=?_)|refine qS (h1:=?_)
     | fail)
    all_goals try clear fx
    refine⟨8 - (x+1),by omega,x+1,rfl,by omega,by simp [h0],by simp [h1],by simp [h5],?_,by simp [h7],by simp [h10],by simp [h11],by simp [h12],by simp;exact wrp (by omega) (by omega)⟩
    rw [hnM]
    simp [← uN (l:=M) (y:=(x:Int)) rfl hx8]
  ·have hge:x=8:=by omega
   subst hge
   rw [← hnext] at hp5
   all_goals have fx:=aI h1<|aI h5<|aI hp5<|aI h10<|aI h11<|aI h12<|h20
   repeat' (first
    | refine qN ?_|refine qM fun K hK=>?_
    | ((with_reducible refine qK hK ?_);clear hK K)
    | (with_reducible first|refine qC ?_)
    | refine qn ?_
    | (with_reducible refine qG ?_)
    | (with_reducible refine x_q (h:=?_))
    | refine qS (h1:=?_)
    | fail)
   all_goals try clear fx
   exact⟨p.length - (c+1),by omega,c+1,rfl,by omega,by simp [h0],by simp [h1],by simp [h5],by simp [hp5],by simp [h10],by simp [h11],by simp [h12];exact wrp (by omega) (by omega)⟩
 ·have hge:c=p.length:=by omega
  subst hge
  all_goals have fx:=aI h5<|aI hp5<|aI h11<|h12
  repeat' (first
   | refine qN ?_|refine qM fun K hK=>?_
   | ((with_reducible refine qK hK ?_);clear hK K)
   | (with_reducible first|refine qC ?_)
   | refine qn ?_
   | refine qX ?_
   | (with_reducible refine qG ?_)
   | (with_reducible first|refine qE (h:=?_))
   | ((with_reducible refine qv 51 rfl ?_);refine zk (hF:=qEf _ (qCt p b p.length)) (h:=?_))
   | (with_reducible refine x_q (h:=?_))
   | refine qS (h1:=?_)
   | fail)
  all_goals try clear fx
  exact zZ (t:=4) (by first|(simp [];done)|(simp [];rfl)) (by first|(simp [];done)|(simp [];rfl)) (by simp)
abbrev qHT:Sch:=.q 0<|.q 1<|.q 2<|.q 3<|.q 4<|.q 5<|.q 6<|.l 7 []<|.done
abbrev qHS:Sch:=.q 0<|.q 1<|.q 2<|.q 3<|.q 4<|.q 6<|.l 5 [6,1,0]<|.q 7<|.l 8 []<|.done
abbrev qHR:Sch:=.q 0<|.q 1<|.q 2<|.q 3<|.q 4<|.q 5<|.q 6<|.q 7<|.q 8<|.l 9 []<|.done
abbrev qHQ:Sch:=.q 0<|.q 1<|.q 2<|.q 3<|.q 4<|.q 5<|.q 6<|.q 7<|.q 8<|.l 9 [0]<|.q 10<|.q 11<|.l 12 []<|.done
abbrev qHP:Sch:=.q 0<|.q 1<|.q 2<|.q 3<|.q 4<|.q 5<|.q 6<|.q 7<|.q 8<|.q 9<|.l 10 []<|.done
def qGg (p:Prg) (b:Nat) (vs:List Val):List Slt:=match (qk p b).params,vs with
 | [x],[v]=>if x∈qT p b then (List.replicate (qT p b).length none).set (qx (qT p b) x).toNat (some v) else List.replicate (qT p b).length none
 | _,_=>List.replicate (qT p b).length none
def qPZ (p:Prg) (m:Mch) (b:Nat) (vs:List Val):List Slt:=match (qk p b).params,vs with
 | [x],[v]=>if x∈qT p b then m.cells++List.replicate (qF p b).length none else (m.cells++List.replicate (qF p b).length none).set (m.cells.length+(qx (qF p b) x).toNat) (some v)
 | _,_=>m.cells++List.replicate (qF p b).length none
structure Beg (s:St) (p:Prg) (m:Mch) (b:Nat) (cs:List Nat) (vs:List Val) (n:Nat) (fa C:List Slt):Prop where
 t0:s.tm 0=.pt Yn 0
 t2:s.tm 2=.sl 1 (zI cs)
 t3:s.tm 3=.sl 2 (zB vs)
 t8:s.tm 8=.pt (.s 8) 0
 p8:s.hp (.s 8)=some (.row 6 [(qk p b).row])
 t9:s.tm 9=.pt (.s 9) 0
 p9:s.hp (.s 9)=some (.row 29 [[iv b,iv 0,.hs (.c (.s 9) 0 2) 3 0 (qT p b).length,.hs (.c (.s 9) 0 3) 1 0 n,bv false,iv 0,iv 0,bv false,iv 0,iv 0,bv false,iv 0,iv 0,bv false,iv 0,iv 0,bv false,iv 0,iv 0,bv false,iv 0,iv 0,bv false,iv 0,iv 0,bv false,iv 0,iv 0,.hs (.c (.s 9) 0 28) 2 0 0]])
 p92:s.hp (.c (.s 9) 0 2)=some (.row 3 (qV fa))
 p93:s.hp (.c (.s 9) 0 3)=some (.row 1 (zI ((List.range n).map (m.cells.length+·))))
 p928:s.hp (.c (.s 9) 0 28)=some (.row 2 [])
 own:jH s.hp p m C
theorem qBq (gl) (H:Nm→Option AO) (p:Prg) (m:Mch) (b:Nat) (cs:List Nat) (vs:List Val) (hb:b<p.length) (hp7:p.length≤7) (hcs:cs.length≤8) (hcr:∀ c∈cs,c<m.cells.length) (hcl:m.cells.length≤2000) (hmd:m.made≤1000) (hdp:m.deep≤1000) (hfl:m.frames.length≤150) (hpar:(qk p b).params=[]∨∃ x,(qk p b).params=[x]∧((x∈qT p b∧x∉qF p b)∨(x∉qT p b∧x∈qF p b))) (hvs:vs.length=(qk p b).params.length) (hfr:∀ f∈m.frames,∀ c∈f.cells,c<m.cells.length) (hfn:∀ g∈m.funs,∀ c∈g.2,c<m.cells.length) (hO:OwnY H p m) :
  FnE Tryz.prog gl 114 DM [.pt Yn 0,iv b,.sl 1 (zI cs),.sl 2 (zB vs)] H (fun _ _ H'=>OwnY H' p (z6 p m b cs vs)) noE:=by
 have hOc:=hO.yc
 obtain⟨R,hT,hRl,r0⟩:∃ R,H Yn=some (.row 4415 [R])∧R.length=4415∧R[0]?=some (csl (qf p p.length)):=by
  obtain⟨J,hJ,e,_⟩:=hOc
  exact⟨_,e,yN (j8 hJ),qPI⟩
 obtain⟨r0l,r0E⟩:=gS r0
 obtain⟨kk,hk⟩:∃ k,p[b]?=some k:=⟨_,gE hb⟩
 have hcd:(qf p p.length)[b]?=some (qk p b):=by simp [qf,hb]
 obtain⟨hcdl,hcdE⟩:=gS hcd
 have hcf:(qk p b).fasts=qT p b:=by simp [qk,hk]
 have hcc:(qk p b).cells=qF p b:=by simp [qk,hk]
 have hf8:=yy (p:=p) (b:=b)
 have hc8:=jB (p:=p) (b:=b)
 refine FnE.of_sem Tryz.func114 rfl (by kernel_rfl) (rs:=[]) rfl Tryz.ntmps114 (lB rfl) (fun _=>qQ) fun C w g root hroot=>?_
 have fx:=aI hT<|aI hRl<|aI r0<|aI r0E<|aI hcd<|aI hcdl<|aI hcdE<|aI hcf<|aI hcc<|aI hf8<|hc8
 refine qB ?_
 clear fx
 have hrp:List.replicate (qT p b).length [bv false,iv 0,iv 0]=qV (List.replicate (qT p b).length none):=by simp [qV]
 have hun:∀ k i j,DM k=true→Nm.under (.c (.s 9) i j) k=false:=fun k i j hk=>by
  cases h:Nm.under (.c (.s 9) i j) k with
  | false=>rfl
  | true=>have:=(Nm.under_not_c h).1;rw [(D_s (fun _=>qQ) hk 9).2] at this;cases this
 refine q7 (fun n s=>∃ i:Nat,n=(qF p b).length - i∧i≤(qF p b).length∧Beg s p m b cs vs i (List.replicate (qT p b).length none) (m.cells++List.replicate i none)∧s.tm 29=iv (qF p b).length∧s.tm 30=iv i) (qF p b).length ?_ ?_
 ·refine⟨0,by omega,by omega,⟨by simp,by simp,by simp,by simp,by simp [hcf,hcc],by simp,by simp,by simp [hrp],by simp [zI],by simp,?_⟩,by simp,by simp⟩
  rw [List.replicate_zero,List.append_nil]
  have hst:jH (st0 [.pt Yn 0,iv b,.sl 1 (zI cs),.sl 2 (zB vs)] H 125 gl).hp p m m.cells:=hOc.ren (F:=some) (fun _ _=>rfl) fun k hk=>by cases h:H k <;> simp [h,AO.tr_some]
  exact (by repeat (first|(with_reducible exact hst)|refine qBG ?_|refine w4 (by rfl) ?_|refine w6 (by rfl) ?_|refine w5 (by rfl) (by rfl) ?_|refine qBp (by rfl) ?_|exact hst))
 clear hT hRl r0E r0l r0 R
 rintro n s - - ⟨i,rfl,hi,hB,t29,t30⟩
 have t0:=hB.t0
 have t2:=hB.t2
 have t3:=hB.t3
 have t8:=hB.t8
 have p8:=hB.p8
 have t9:=hB.t9
 have p9:=hB.p9
 have p92:=hB.p92
 have p93:=hB.p93
 have p928:=hB.p928
 by_cases hil:i<(qF p b).length
 ·have hil1:((List.range i).map (m.cells.length+·)).length=i:=by simp
  have hi8:i≤8:=by omega
  have hu:(ue Tryz.prog C w g H 125 gl).ext (.u 7 (m.cells.length+i) 0)=false:=by simp [ue,hO.free (c:=m.cells.length+i) (by omega)]
  have fx:=aI t0<|aI t2<|aI t3<|aI t8<|aI p8<|aI t9<|aI p9<|aI p92<|aI p928<|aI t29<|aI t30<|aI hil<|aI hil1<|hi8
  refine qB ?_
  repeat ((first|refine wSc (id:=12) qHT qA ?_|refine wSc (id:=13) qHS qA ?_|refine wSc (id:=16) qHR qA ?_|refine wSc (id:=19) qHQ qA ?_|refine wSc (id:=20) qHP qA ?_);refine qD ?_;refine qB ?_)
  clear fx
  intro K hK
  refine qOR (.c (.s 36) 0 0) (.u 7 (m.cells.length+i) 0) (.inl rfl) (.inr hu) ?_
  have hCl:(m.cells++List.replicate i none).length=m.cells.length+i:=by simp
  have hrl:∀ F:Nm→Option Nm,(∀ c,c<m.cells.length+i→F (En c)=some (En c))→(zI ((List.range i).map (m.cells.length+·))).map (fun r=>r.map (AV.tr F))=zI ((List.range i).map (m.cells.length+·)):=fun F hF=>qBl fun c hc=>by
   simp only [List.mem_map,List.mem_range] at hc
   obtain⟨a,ha,rfl⟩:=hc
   exact hF _ (by omega)
  have hmv:∀ c,c<m.cells.length+i→mv (.c (.s 36) 0 0) (.u 7 (m.cells.length+i) 0) (En c)=some (En c):=fun c hc=>by simp [mv,Nat.ne_of_lt hc]
  have hcsF:(zI cs).map (fun r=>r.map (AV.tr (mv (.c (.s 36) 0 0) (.u 7 (m.cells.length+i) 0))))=zI cs:=qBl fun c hc=>hmv c (by have:=hcr c hc;omega)
  have hOB:=hB.own
  refine yg (fun s=>s.tm 33=.hs (.c (.s 9) 0 3) 1 0 i∧s.tm 36=.hs (.s 36) 1 0 1∧s.hp (.s 36)=some (.row 1 [[.pt (.u 7 (m.cells.length+i) 0) 0]])∧Beg s p m b cs vs i (List.replicate (qT p b).length none) (m.cells++List.replicate (i+1) none)∧s.tm 29=iv (qF p b).length∧s.tm 30=iv i) ⟨by simp,by simp,by simp,⟨by simp [t0],by simp [t2,hcsF],by simp [t3],by simp [t8],by simp [p8],by simp [t9],by simp [p9],by simp [p92],by simp [p93,hrl _ hmv],by simp [p928],?_⟩,by simp [t29],by simp [t30]⟩ ?_
  ·rw [List.replicate_succ',← List.append_assoc]
   exact jH.add' (n0:=.c (.s 36) 0 0) (s:=none) (by simp) rfl (by repeat (first|(with_reducible exact hOB)|refine qBG ?_|refine w4 (by rfl) ?_|refine w6 (by rfl) ?_|refine w5 (by rfl) (by rfl) ?_|refine qBp (by rfl) ?_|exact hOB)) (by simp) (fun f hf c hc=>by have:=hfr f hf c hc;simp;omega) (fun g hg c hc=>by have:=hfn g hg c hc;simp;omega)
  clear t0 t2 t3 t8 p8 t9 p9 p92 p93 p928 t29 t30 hB hOB
  rintro s ⟨t33,t36,p36,hB,t29,t30⟩
  have t0:=hB.t0
  have t2:=hB.t2
  have t3:=hB.t3
  have t8:=hB.t8
  have p8:=hB.p8
  have t9:=hB.t9
  have p9:=hB.p9
  have p92:=hB.p92
  have p93:=hB.p93
  have p928:=hB.p928
  have hOB:=hB.own
  have fx:=aI t0<|aI t2<|aI t3<|aI t8<|aI p8<|aI t9<|aI p9<|aI p92<|aI p93<|aI p928<|aI t29<|aI t30<|aI t33<|aI t36<|aI p36<|aI hil<|aI hil1<|hi8
  refine qB ?_
  repeat ((first|refine wSc (id:=12) qHT qA ?_|refine wSc (id:=13) qHS qA ?_|refine wSc (id:=16) qHR qA ?_|refine wSc (id:=19) qHQ qA ?_|refine wSc (id:=20) qHP qA ?_);refine qD ?_;refine qB ?_)
  clear fx
  have hap:zI ((List.range i).map (m.cells.length+·))++[[.pt (.u 7 (m.cells.length+i) 0) 0]]=zI ((List.range (i+1)).map (m.cells.length+·)):=by simp [zI,List.range_succ,ptE]
  have htt:((List.range i).map (m.cells.length+·)).take i=(List.range i).map (m.cells.length+·):=List.take_of_length_le (by simp)
  refine⟨(qF p b).length - (i+1),by omega,i+1,rfl,by omega,⟨by simp [t0],by simp [t2],by simp [t3],by simp [t8],by simp [p8],by simp [t9],by simp,by simp [p92],by simp [← hap,htt],by simp [p928],(by repeat (first|(with_reducible exact hOB)|refine qBG ?_|refine w4 (by rfl) ?_|refine w6 (by rfl) ?_|refine w5 (by rfl) (by rfl) ?_|refine qBp (by rfl) ?_|exact hOB))⟩,by simp [t29],by simp [t30];exact wrp (by omega) (by omega)⟩
 ·obtain rfl:i=(qF p b).length:=by omega
  have hOB:=hB.own
  have fx:=aI t0<|aI t2<|aI t3<|aI t8<|aI p8<|aI t9<|aI p9<|aI p92<|aI p93<|aI p928<|aI t29<|t30
  refine qB ?_
  clear fx
  refine vH (fun s=>Beg s p m b cs vs (qF p b).length (List.replicate (qT p b).length none) (m.cells++List.replicate (qF p b).length none)∧s.tm 41=isl (qk p b).params∧s.tm 42=iv (qk p b).params.length∧s.tm 43=iv 0) ⟨⟨by simp [t0],by simp [t2],by simp [t3],by simp [t8],by simp [p8],by simp [t9],by simp [p9],by simp [p92],by simp [p93],by simp [p928],(by repeat (first|(with_reducible exact hOB)|refine qBG ?_|refine w4 (by rfl) ?_|refine w6 (by rfl) ?_|refine w5 (by rfl) (by rfl) ?_|refine qBp (by rfl) ?_|exact hOB))⟩,by simp,by simp,by simp⟩ ?_
  clear t0 t2 t3 t8 p8 t9 p9 p92 p93 p928 t29 t30 hB hOB
  rintro s ⟨hB,t41,t42,t43⟩
  refine q7 (fun n s=>∃ (i:Nat) (fa C:List Slt),n=(qk p b).params.length - i∧i≤(qk p b).params.length∧Beg s p m b cs vs (qF p b).length fa C∧fa.length=(qT p b).length∧C.length=m.cells.length+(qF p b).length∧(i=0→fa=List.replicate (qT p b).length none∧C=m.cells++List.replicate (qF p b).length none)∧(i=(qk p b).params.length→fa=qGg p b vs∧C=qPZ p m b vs)∧s.tm 41=isl (qk p b).params∧s.tm 42=iv (qk p b).params.length∧s.tm 43=iv i) (qk p b).params.length ?_ ?_
  ·exact⟨0,_,_,by omega,by omega,hB,by simp,by simp,fun _=>⟨rfl,rfl⟩,fun h=>by have h1:=List.eq_nil_of_length_eq_zero h.symm;simp [qGg,qPZ,h1],t41,t42,t43⟩
  clear t41 t42 t43 hB
  rintro n s - - ⟨i,fa,C,rfl,hi,hB,hfa,hC,hi0,hi1,t41,t42,t43⟩
  have t0:=hB.t0
  have t2:=hB.t2
  have t3:=hB.t3
  have t8:=hB.t8
  have p8:=hB.p8
  have t9:=hB.t9
  have p9:=hB.p9
  have p92:=hB.p92
  have p93:=hB.p93
  have p928:=hB.p928
  have hOB:=hB.own
  by_cases hil:i<(qk p b).params.length
  ·obtain⟨x,hx,hx2⟩:∃ x,(qk p b).params=[x]∧((x∈qT p b∧x∉qF p b)∨(x∉qT p b∧x∈qF p b)):=by
    rcases hpar with h|h
    ·rw [h] at hil;simp at hil
    ·exact h
   have hl1:(qk p b).params.length=1:=by rw [hx];rfl
   obtain rfl:i=0:=by omega
   obtain⟨rfl,rfl⟩:=hi0 rfl
   obtain⟨v,rfl⟩:∃ v,vs=[v]:=List.length_eq_one_iff.1 (by rw [hvs,hl1])
   obtain⟨v1,v2⟩:=v
   rw [hx] at t41 t42
   have hpc:=vi gl (qF p b) x (by omega)
   have hpf:=vi gl (qT p b) x (by omega)
   rcases hx2 with⟨hxf,hxc⟩|⟨hxf,hxc⟩
   ·obtain⟨q,hq,hql,-⟩:=jv hxf
    have hpn:qx (qF p b) x=-1:=by
     have h1:=wC (xs:=qF p b) (x:=x)
     have h2:¬ 0≤qx (qF p b) x:=fun h=>hxc (zi.1 h)
     omega
    rw [hpn] at hpc
    rw [hq] at hpf
    have hqi:(q:Int)<(qT p b).length:=by omega
    have fx:=aI t0<|aI t2<|aI t3<|aI t8<|aI p8<|aI t9<|aI p9<|aI p92<|aI p93<|aI p928<|aI t41<|aI t42<|aI t43<|aI hcc<|aI hcf<|aI hql<|hqi
    have c1:=hpc
    have c2:=hpf
    refine qB ?_
    repeat ((first|refine wSc (id:=12) qHT qA ?_|refine wSc (id:=13) qHS qA ?_|refine wSc (id:=16) qHR qA ?_|refine wSc (id:=19) qHQ qA ?_|refine wSc (id:=20) qHP qA ?_);refine qD ?_;refine qB ?_)
    clear fx c1 c2
    have hfF:qGg p b [(v1,v2)]=(List.replicate (qT p b).length none).set q (some (v1,v2)):=by simp [qGg,hx,hxf,hq]
    have hfC:qPZ p m b [(v1,v2)]=m.cells++List.replicate (qF p b).length none:=by simp [qPZ,hx,hxf]
    exact⟨0,by omega,1,(List.replicate (qT p b).length none).set q (some (v1,v2)),m.cells++List.replicate (qF p b).length none,by omega,by omega,⟨by simp [t0],by simp [t2],by simp [t3],by simp [t8],by simp [p8],by simp [t9],by simp [p9],by simp [p92],by simp [p93],by simp [p928],(by repeat (first|(with_reducible exact hOB)|refine qBG ?_|refine w4 (by rfl) ?_|refine w6 (by rfl) ?_|refine w5 (by rfl) (by rfl) ?_|refine qBp (by rfl) ?_|exact hOB))⟩,by simp,by simp,fun h=>by omega,fun _=>⟨hfF.symm,hfC.symm⟩,by simp [t41,hx],by simp [t42,hx],by simp [t43];rfl⟩
   ·obtain⟨q,hq,hql,-⟩:=jv hxc
    rw [hq] at hpc
    have hqi:(q:Int)<(qF p b).length:=by omega
    have hqn:((q:Int) == -1)=false:=by rw [beq_eq_false_iff_ne];omega
    have hcl2:m.cells.length+q<(m.cells++List.replicate (qF p b).length none).length:=by simp;omega
    have e9:m.cells.length+q - m.cells.length=q:=by omega
    have hcq:(m.cells++List.replicate (qF p b).length none)[m.cells.length+q]?=some (none:Slt):=by
     rw [List.getElem?_append_right (by omega),e9]
     simp [hql]
    have hE:s.hp (.u 7 (m.cells.length+q) 0)=some (.row 3 [[bv false,iv 0,iv 0]]):=by
     obtain⟨J,hJ,e,hOw⟩:=hOB
     have:=hOw.cell (m.cells.length+q) none hcq
     simpa [wrO] using this
    have her:(zI ((List.range (qF p b).length).map (m.cells.length+·)))[q]?=some [.pt (.u 7 (m.cells.length+q) 0) 0]:=by rw [qG4];simp [hql,ptE]
    obtain⟨herl,herE⟩:=gS her
    have fx:=aI t0<|aI t2<|aI t3<|aI t8<|aI p8<|aI t9<|aI p9<|aI p92<|aI p93<|aI p928<|aI t41<|aI t42<|aI t43<|aI hcc<|aI hcf<|aI hql<|aI hqi<|aI hqn<|aI @qr<|aI hE<|aI her<|aI herE<|herl
    have c1:=hpc
    refine qB ?_
    repeat ((first|refine wSc (id:=12) qHT qA ?_|refine wSc (id:=13) qHS qA ?_|refine wSc (id:=16) qHR qA ?_|refine wSc (id:=19) qHQ qA ?_|refine wSc (id:=20) qHP qA ?_);refine qD ?_;refine qB ?_)
    clear fx c1
    have hfF:qGg p b [(v1,v2)]=List.replicate (qT p b).length none:=by simp [qGg,hx,hxf]
    have hfC:qPZ p m b [(v1,v2)]=(m.cells++List.replicate (qF p b).length none).set (m.cells.length+q) (some (v1,v2)):=by simp [qPZ,hx,hxf,hq]
    refine⟨0,by omega,1,List.replicate (qT p b).length none,(m.cells++List.replicate (qF p b).length none).set (m.cells.length+q) (some (v1,v2)),by omega,by omega,⟨by simp [t0],by simp [t2],by simp [t3],by simp [t8],by simp [p8],by simp [t9],by simp [p9],by simp [p92],by simp [p93],by simp [p928],?_⟩,by simp,by simp,fun h=>by omega,fun _=>⟨hfF.symm,hfC.symm⟩,by simp [t41,hx],by simp [t42,hx],by simp [t43];rfl⟩
    repeat (refine qBG ?_)
    exact qPa (some (v1,v2)) hcl2 (by repeat (first|(with_reducible exact hOB)|refine qBG ?_|refine w4 (by rfl) ?_|refine w6 (by rfl) ?_|refine w5 (by rfl) (by rfl) ?_|refine qBp (by rfl) ?_|exact hOB))
  ·obtain rfl:i=(qk p b).params.length:=by omega
   have hil1:((List.range (qF p b).length).map (m.cells.length+·)).length=(qF p b).length:=by simp
   have hsum:(qF p b).length+cs.length≤16:=by omega
   have htt:((List.range (qF p b).length).map (m.cells.length+·)).take (qF p b).length=(List.range (qF p b).length).map (m.cells.length+·):=List.take_of_length_le (by simp)
   have fx:=aI t0<|aI t2<|aI t3<|aI t8<|aI p8<|aI t9<|aI p9<|aI p92<|aI p93<|aI p928<|aI t41<|aI t42<|aI t43<|aI hil1<|aI hsum<|hcs
   refine qB ?_
   clear fx
   refine vH (fun s=>s.tm 0=.pt Yn 0∧s.tm 8=.pt (.s 8) 0∧s.hp (.s 8)=some (.row 6 [(qk p b).row])∧s.tm 9=.pt (.s 9) 0∧s.hp (.s 9)=some (.row 29 [[iv b,iv 0,.hs (.c (.s 9) 0 2) 3 0 (qT p b).length,.hs (.c (.s 9) 0 3) 1 0 ((qF p b).length+cs.length),bv false,iv 0,iv 0,bv false,iv 0,iv 0,bv false,iv 0,iv 0,bv false,iv 0,iv 0,bv false,iv 0,iv 0,bv false,iv 0,iv 0,bv false,iv 0,iv 0,bv false,iv 0,iv 0,.hs (.c (.s 9) 0 28) 2 0 0]])∧s.hp (.c (.s 9) 0 2)=some (.row 3 (qV fa))∧s.hp (.c (.s 9) 0 3)=some (.row 1 (zI ((List.range (qF p b).length).map (m.cells.length+·)++cs)))∧s.hp (.c (.s 9) 0 28)=some (.row 2 [])∧jH s.hp p m C) ⟨by simp [t0],by simp [t8],by simp [p8],by simp [t9],by simp,by simp [p92],by simp [htt,← qLs],by simp [p928],(by repeat (first|(with_reducible exact hOB)|refine qBG ?_|refine w4 (by rfl) ?_|refine w6 (by rfl) ?_|refine w5 (by rfl) (by rfl) ?_|refine qBp (by rfl) ?_|exact hOB))⟩ ?_
   clear t0 t2 t3 t8 p8 t9 p9 p92 p93 p928 hOB t41 t42 t43 hB
   rintro s ⟨t0,t8,p8,t9,p9,p92,p93,p928,hOB⟩
   obtain⟨R,hT,hRl,r4⟩:∃ R,s.hp Yn=some (.row 4415 [R])∧R.length=4415∧R[4411]?=some (iv m.frames.length):=by
    obtain⟨J,hJ,e,_⟩:=hOB
    exact⟨_,e,yN (j8 hJ),qAD (j8 hJ)⟩
   obtain⟨_,r4E⟩:=gS r4
   have hfl2:(m.frames.length:Int)<151:=by omega
   have hfl3:(0:Int)≤(m.frames.length:Int):=by omega
   have hfl4:32+m.frames.length * 29+29≤4415:=by omega
   refine qM4 (.c (.s 9) 0 2) (.s 20) (.inl rfl) (.inl rfl) (qM4 (.c (.s 9) 0 3) (.s 21) (.inl rfl) (.inl rfl) (qM4 (.c (.s 9) 0 28) (.s 22) (.inl rfl) (.inl rfl) ?_))
   have fx:=aI t0<|aI t8<|aI p8<|aI t9<|aI p9<|aI p92<|aI p93<|aI p928<|aI hT<|aI hRl<|aI r4<|aI r4E<|aI hfl2<|aI hfl3<|hfl4
   refine qB ?_
   repeat ((first|refine wSc (id:=12) qHT qA ?_|refine wSc (id:=13) qHS qA ?_|refine wSc (id:=16) qHR qA ?_|refine wSc (id:=19) qHQ qA ?_|refine wSc (id:=20) qHP qA ?_);refine qD ?_;refine qB ?_)
   clear fx
   intro K hK
   have hmc:m.frames.length * 29=29 * m.frames.length:=Nat.mul_comm _ _
   obtain⟨M,hM⟩:∃ M:Mch,M={ m with cells:=C,made:=m.made+1,deep:=max m.deep (m.frames.length+1),frames:=m.frames++[⟨b,0,fa,(List.range (qF p b).length).map (m.cells.length+·)++cs,qm,[]⟩] }:=⟨_,rfl⟩
   refine yg (fun s=>s.tm 0=.pt Yn 0∧s.tm 89=.pt Yn 0∧s.tm 91=.pt Yn 4411∧s.tm 8=.pt (.s 8) 0∧s.hp (.s 8)=some (.row 6 [(qk p b).row])∧qDQ s.hp p m M m.frames.length) ⟨by simp [t0],by simp,by simp,by simp [t8],by simp [p8],?_⟩ ?_
   ·rw [hM]
    simp only [hmc]
    have h:=hOB
    refine jH.beg (g:=⟨b,0,fa,(List.range (qF p b).length).map (m.cells.length+·)++cs,qm,[]⟩) h (by omega) hT (F:=fun q=>(((((mv (.c (.s 9) 0 2) (.s 20) q).bind (mv (.c (.s 9) 0 3) (.s 21))).bind (mv (.c (.s 9) 0 28) (.s 22))).bind (mv (.s 20) (.c Yn 0 (yo m.frames.length+2)))).bind (mv (.s 21) (.c Yn 0 (yo m.frames.length+3)))).bind (mv (.s 22) (.c Yn 0 (yo m.frames.length+28)))) (fun j h1 h2 h3=>by simp [mv,h1,h2,h3]) (h0:=?_) (h6t:=?_) (h7t:=?_) (h8t:=?_)
    ·simp only [← kD]
     simp [spl,yfr,qA4,hfa]
    ·simp [p92]
    ·simp [p93]
    ·simp [p928]
   have hbg:z6 p m b cs vs=M:=by
    obtain⟨e1,e2⟩:=hi1 rfl
    rw [hM,e1,e2]
    rcases hpar with h|⟨x,hx,hx2⟩
    ·simp [z6,qGg,qPZ,h]
    ·obtain⟨v,rfl⟩:∃ v,vs=[v]:=List.length_eq_one_iff.1 (by rw [hvs,hx];rfl)
     rcases hx2 with⟨h1,h2⟩|⟨h1,h2⟩ <;> simp [z6,qGg,qPZ,hx,h1]
   have hMc:M.cells=C:=by rw [hM]
   have hMl:M.frames.length=m.frames.length+1:=by rw [hM];simp
   have hMr:∀ (h:Nat) (c:Nat→List AV),qw p { m with made:=m.made+1,deep:=max m.deep (m.frames.length+1),cells:=C } h c=qw p M h c:=fun h c=>by rw [hM];rfl
   clear hM
   have hw1:IntKind.i64.wrap ((m.frames.length:Int)+1)=((m.frames.length+1:Nat):Int):=wrp (by omega) (by omega)
   have hw2:IntKind.i64.wrap ((m.made:Int)+1)=((m.made+1:Nat):Int):=wrp (by omega) (by omega)
   have hw3:IntKind.i64.wrap ((m.cells.length:Int)+((qF p b).length:Int))=((C.length:Nat):Int):=by rw [hC,wrp (by omega) (by omega)];omega
   clear t0 t8 p8 t9 p9 p92 p93 p928 hOB hT r4 r4E hRl
   rintro s ⟨t0,t89,t91,t8,p8,hY⟩
   obtain⟨R,hT,hRl,r4,r2,r3,r1⟩:=hY.row
   obtain⟨_,r4E⟩:=gS r4
   obtain⟨_,r3E⟩:=gS r3
   obtain⟨_,r2E⟩:=gS r2
   obtain⟨_,r1E⟩:=gS r1
   have fx:=aI t0<|aI t89<|aI t91<|aI t8<|aI p8<|aI hT<|aI hRl<|aI r4<|aI r4E<|aI r3<|aI r3E<|aI r2<|aI r2E<|aI hw1<|hw2
   refine qB ?_
   repeat ((first|refine wSc (id:=12) qHT qA ?_|refine wSc (id:=13) qHS qA ?_|refine wSc (id:=16) qHR qA ?_|refine wSc (id:=19) qHQ qA ?_|refine wSc (id:=20) qHP qA ?_);refine qD ?_;refine qB ?_)
   clear fx
   intro K hK
   have fx:=aI t0 (aI t8 (aI p8 (aI hT (aI hRl (aI r4 (aI r4E (aI r2 r2E)))))))
   refine qSb (i:=(m.deep:Int)) (j:=(m.frames.length:Int)+1) ((max m.deep (m.frames.length+1):Nat):Int) (by omega) (h:=?_)
   clear fx
   have fx:=aI t0<|aI t8<|aI p8<|aI hT<|aI hRl<|aI r4<|aI r4E<|aI r3<|aI r3E<|aI r2<|aI r2E<|aI r1<|aI r1E<|aI hcc<|aI hw1<|aI hw2<|hw3
   refine qB ?_
   repeat ((first|refine wSc (id:=12) qHT qA ?_|refine wSc (id:=13) qHS qA ?_|refine wSc (id:=16) qHR qA ?_|refine wSc (id:=19) qHQ qA ?_|refine wSc (id:=20) qHP qA ?_);refine qD ?_;refine qB ?_)
   clear fx
   refine zp [] .nil (by simp;rfl) (OwnY.fin ?_)
   have h1:=hY.set (hp':=wrO Yn (.row 4415 [spl R 4411 [iv (m.frames.length+1:Nat)]]) s.hp) hT rfl (fun J hJ=>qPC hJ) (fun q hq hn=>by simp [wrO,hn])
   have h2:=h1.set (hp':=wrO Yn (.row 4415 [spl (spl R 4411 [iv (m.frames.length+1:Nat)]) 4413 [iv (m.made+1:Nat)]]) s.hp) rfl rfl (fun J hJ=>qSY hJ) (fun q hq hn=>by simp [wrO,hn])
   have h3:=h2.set (hp':=wrO Yn (.row 4415 [spl (spl (spl R 4411 [iv (m.frames.length+1:Nat)]) 4413 [iv (m.made+1:Nat)]) 4412 [iv (max m.deep (m.frames.length+1):Nat)]]) s.hp) rfl rfl (fun J hJ=>qS0 hJ) (fun q hq hn=>by simp [wrO,hn])
   rw [hbg]
   refine qDQ.done (m:={ m with made:=m.made+1,deep:=max m.deep (m.frames.length+1),cells:=C }) (h:=m.frames.length+1) ?_ fun J=>by rw [hMr,hMl]
   refine h3.set rfl (k:=4414) (v:=iv (C.length:Nat)) ?_ (fun J hJ=>qS1 hJ) (fun q hq hn=>by simp [wrO,hn])
   simp [spl,hRl,List.take_append,List.drop_append]
end Go.Proofs.YtbgmnmnoaamgkaaGreatDoor
end
