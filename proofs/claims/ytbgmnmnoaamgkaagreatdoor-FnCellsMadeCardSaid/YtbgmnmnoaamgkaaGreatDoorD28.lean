/-
  Own texts, joined by mkclaim.py: Hk, Hp, Ta, Tb, Kc.
-/
import Derived.Test.YtbgmnmnoaamgkaaGreatDoorD27
import Derived.Test.YtbgmnmnoaamgkaaGreatDoorD12
import Derived.Test.YtbgmnmnoaamgkaaGreatDoorD10
import Derived.Test.YtbgmnmnoaamgkaaGreatDoorD11
set_option linter.unusedSimpArgs false
set_option linter.unusedVariables false
set_option maxRecDepth 100000
set_option maxHeartbeats 4000000

section
namespace Go.Proofs.YtbgmnmnoaamgkaaGreatDoor
open Go Go.Hm Go.Proofs
theorem qOs {hp:Nm→Option AO} {n:Nm} {p:Prg} {j:Nat} {k:Blk} (h:OwnS hp n p p.length) (hh:z6 p) (hk:p[j]?=some k):Bw hp noD (.pt (.c n j 0) 0) (qM6 p j k):=by
 have:=qIu h hh j (gS hk).1
 rwa [jG hh hk] at this
theorem qNn {n:Nm} {len j:Nat} (h:j<len):(vr n len len)[j]?=some [AV.pt (.c n j 0) 0]:=by rw [uU h,if_pos h]
theorem qOh {p:Prg} (hp:ShapeP p):jt p 0=true:=by
 obtain⟨k,hk⟩:∃ k,p[0]?=some k:=⟨_,gE (by have:=hp.len.1;omega)⟩
 simp only [jt,hk,List.all_eq_true]
 intro x _
 simp [yk,hp.decl0 hk]
theorem qd (gl) (p:Prg) (hs:Sml p):qV Tryz.prog gl 42 [pav p] (fun _ y _=>y=bv (jY p)):=by
 refine qV.of_sem Tryz.func42 rfl (by kernel_rfl) (rs:=[.tmp 2]) rfl Tryz.ntmps42 (lB rfl) fun C w g root=>?_
 cases hsh:j2 p with
 | false =>
  have fx:= hsh
  have c1:=uB gl p hs
  refine qB ?_
  clear fx c1
  refine qF [] .nil (by simp;rfl) ?_
  simp [jY,hsh]
 | true =>
  have hp:=ShapeP.of hs hsh
  have hh:=hp.heads
  have hl7:=hp.len
  have hpo:jY p=(List.range p.length).all (fun b=>b==0||jt p b):=by simp only [jY,hsh,Bool.true_and]
  rw [hpo]
  have fx:= hsh
  have c1:=uB gl p hs
  have e1:=w6 gl p hs hh hp.names
  refine qB ?_
  clear fx c1 e1
  first|rintro K hK y H' ⟨rfl,hO⟩|rintro y H' ⟨rfl,hO⟩
  obtain⟨ho1,ho2⟩:=hO.hcln
  refine⟨by simp,?_⟩
  have fx:=fx0
  refine qB ?_
  clear fx
  refine qY (fun n st=>∃ i:Nat,n=p.length - i∧i≤p.length∧st.tm 9=.hs (.s 9) 1 0 p.length∧OwnS st.hp (.s 9) p p.length∧st.tm 10=iv p.length∧st.tm 11=iv i∧(List.range i).all (fun b=>b==0||jt p b)=true) p.length ?_ ?_
  ·exact⟨0,by simp,by simp,by simp,⟨by simp [ho1],fun j k hj hk=>by simp [ho2 j k hj hk]⟩,by simp,by simp,by simp⟩
  clear ho1 ho2 hO
  rintro n st - - ⟨i,rfl,hi,h9,⟨ho1,ho2⟩,h10,h11,hal⟩
  have fx:=aI h10<|h11
  refine qB ?_
  clear fx
  refine ub (by simp [];first|done|rfl|exact (Bool.not_not _).symm) (fun ht=>?_) (fun hf=>?_)
  ·have hlt:i<p.length:=by simpa using ht
   obtain⟨k,hk⟩:∃ k,p[i]?=some k:=⟨_,gE hlt⟩
   have hsg:=qNn (n:=.s 9) hlt
   obtain⟨_,hse⟩:=gS hsg
   clear ht
   all_goals have fx:=aI h9<|aI ho1<|aI h10<|aI h11<|aI hsg<|aI hse<|hlt
   repeat' (first
    | refine qf ?_|refine qS ?_|refine q7 ?_|refine qj fun K hK=>?_
    | ((with_reducible refine qc hK ?_);clear hK K)
    | (with_reducible first|refine qD ?_|refine qb ?_|refine qu ?_|refine zr ?_|refine qP ?_|refine zK ?_|refine zP (by decide) ?_)
    | refine jS ?_
    | refine qw ?_
    | (with_reducible first|refine qO ?_|refine qG (h:=?_)|refine zp (h:=?_))
    | ((with_reducible refine z7 72 rfl ?_);refine qM (hB:=(by first|((repeat' (first|exact .nil|refine .cons ?_ ?_|exact .refl _|exact yw (by simp [fx];first|done|rfl) (by first|(simp [fx];done)|(simp [fx];omega)|omega)|exact ur (by simp [fx];first|done|rfl) (by first|(simp [fx];done)|(simp [fx];omega)|omega) (by first|(simp;done)|fail)|exact qOs (n:=.s 9) (p:=p) (k:=k) ⟨by simp [ho1],fun j k hj hk=>by simp [ho2 j k hj hk]⟩ hh hk));done)|fail)) (hF:=wF _ p hp i k hk) (h:=?_))
    | (with_reducible refine x_q (h:=?_))
    | refine qR (h1:=?_)|refine qg (h1:=?_)
    | refine qAF (h1:=fun ht=>?_) (h2:=fun ht=>?_)
    | fail)
   all_goals try clear fx
   ·refine qF [] .nil (by simp;rfl) ?_
    have hd:jt p i=false:=by simpa using ht
    have hi0:i≠0:=fun e=>by rw [e,qOh hp] at hd;cases hd
    rw [j4 hlt (show (i==0||jt p i)=false by simp [hd,hi0])]
    rfl
   ·have hd:jt p i=true:=by simpa using ht
    refine⟨p.length - (i+1),by omega,i+1,rfl,by omega,by simp [h9],⟨by simp [ho1],fun j k hj hk=>by simp [ho2 j k hj hk]⟩,by simp [h10],by simp;exact wrp (by omega) (by omega),?_⟩
    rw [zw,hal,hd]
    simp
  ·have hge:i=p.length:=by
    have:¬ i<p.length:=by simpa using hf
    omega
   subst hge
   have fx:=fx0
   refine qB ?_
   clear fx
   refine qF [] .nil (by simp [];rfl) (by simp [hal])
@[simp] theorem scRows_tr {p:Prg} {f:Nm→Option Nm}:(wN p).map (fun r=>r.map (AV.tr f))=wN p:=by simp [wN]
theorem qBM (p:Prg) (j:Int):zW p j=qFT∨∃ r,zW p j=.el r 0:=by
 unfold zW
 cases p.length with
 | zero=>exact .inl rfl
 | succ n =>
  rw [vP]
  split
  ·exact .inl rfl
  ·split
   ·exact .inl rfl
   ·exact .inr ⟨_,rfl⟩
@[simp] theorem scopeA_isNil {p:Prg} {j:Int}:qn (zW p j)=false:=by
 rcases qBM p j with h|⟨r,h⟩ <;> rw [h] <;> rfl
@[simp] theorem scopeA_sNm {p:Prg} {j:Int}:sNm (zW p j)=none:=by
 rcases qBM p j with h|⟨r,h⟩ <;> rw [h] <;> rfl
theorem uk (gl) (p:Prg) (hh:z6 p) (i:Nat) (k:Blk) (hk:p[i]?=some k) (b:Nat):qV Tryz.prog gl 147 [qM6 p i k,iv b] (fun _ y _=>y=bv (zJ p i b)):=by
 have hil:=(gS hk).1
 refine qV.of_sem Tryz.func147 rfl (by kernel_rfl) (rs:=[.tmp 4]) rfl Tryz.ntmps147 (lB rfl) fun C w g root=>?_
 have fx:=fx0
 refine qB ?_
 clear fx
 refine qY (fun n st=>∃ j:Int,n=(j+1).toNat ∧ -1≤j∧j<p.length∧st.tm 1=iv b∧st.tm 5=zW p j∧zJ p i b=zJ p j b) (i+1) ?_ ?_
 ·exact⟨i,by omega,by omega,by omega,by simp,by simp [jG hh hk],rfl⟩
 rintro n st - - ⟨j,rfl,hj1,hj,h1,h5,hin⟩
 rcases Int.lt_or_le j 0 with hn|hn
 ·rw [qAn hn,qFT] at h5
  have hfa:zJ p i b=false:=by
   rw [hin,jU (by omega)]
   exact decide_eq_false (by omega)
  have fx:=aI h1<|h5
  refine qB ?_
  clear fx
  refine qF [] .nil (by simp;rfl) ?_
  simp [hfa]
 ·obtain⟨J,rfl⟩:∃ J:Nat,j=J:=⟨j.toNat,by omega⟩
  obtain⟨q,hq⟩:∃ q,p[J]?=some q:=⟨_,gE (by omega)⟩
  obtain⟨hq1,hq2,_⟩:=hh J q hq
  rw [jG hh hq] at h5
  cases hjb:((J:Int)==b)
  ·have hne:¬ (J:Int)=b:=by simpa using hjb
   have hin2:zJ p i b=zJ p q.parent b:=by
    rw [hin]
    rcases Int.lt_or_le b J with h|h
    ·exact jB hh (by omega) hq h
    ·rw [jU h,jU (by omega),decide_eq_false hne,decide_eq_false (by omega)]
   have fx:=aI h1<|aI h5<|hjb
   refine qB ?_
   clear fx
   exact⟨(q.parent+1).toNat,by omega,q.parent,rfl,hq1,by omega,by simp [h1],by simp,hin2⟩
  ·have he:(J:Int)=b:=by simpa using hjb
   have htr:zJ p i b=true:=by
    rw [hin,jU (by omega)]
    exact decide_eq_true he
   have fx:=aI h1<|aI h5<|hjb
   refine qB ?_
   clear fx
   refine qF [] .nil (by simp;rfl) ?_
   simp [htr]
theorem qSi {k:Blk} {y:Nat} (hy:y<8):(decide ((y:Int)∈k.rd)||decide ((y:Int)∈k.bd)||(decide ((y:Int)∈k.dc 9)||decide ((y:Int)∈k.dc 10)))=decide ((y:Int)∈k.us):=by
 have e:=qGR (xs:=k.rd++k.bd++k.dc 9++k.dc 10) hy
 simp only [Blk.us,e,List.mem_append]
 by_cases h1:(y:Int)∈k.rd <;> by_cases h2:(y:Int)∈k.bd <;> by_cases h3:(y:Int)∈k.dc 9 <;> by_cases h4:(y:Int)∈k.dc 10 <;> simp [h1,h2,h3,h4]
theorem uc (gl) (p:Prg) (i:Nat) (k:Blk) (x:Nat) (hx:x<8):qV Tryz.prog gl 80 [qM6 p i k,iv x] (fun _ y _=>y=bv (decide ((x:Int)∈k.us))):=by
 have:=qPt gl i k (zW p k.parent) k.params x hx
 rwa [qSi hx] at this
theorem qCf (gl) (p:Prg) (hp:ShapeP p) (i:Nat) (k:Blk) (hk:p[i]?=some k) (x:Nat) (hx:x<8):qV Tryz.prog gl 121 [qM6 p i k,iv x] (fun _ y _=>y=bv (zZ i k x)):=by
 have h:=vK gl i k (zW p k.parent) k.params x hx
 have hk0:=hp.kind0 hk
 have e:(k.kind != 0&&decide ((x:Int)∈k.bd)&&!(decide ((x:Int)∈k.dc 9)||decide ((x:Int)∈k.dc 10)))=zZ i k x:=by
  by_cases h0:i=0
  ·have:(k.kind != 0)=false:=by simp [hk0,h0]
   rw [this]
   simp [zZ,h0]
  ·have:(k.kind != 0)=true:=by simp [hk0,h0]
   rw [this]
   have h1:decide (0<i)=true:=decide_eq_true (by omega)
   simp only [zZ,h1]
   simp [Bool.and_assoc]
 rwa [e] at h
end Go.Proofs.YtbgmnmnoaamgkaaGreatDoor
end
section

end
section
namespace Go.Proofs.YtbgmnmnoaamgkaaGreatDoor
open Go Go.Hm Go.Proofs
theorem qGn {l:List Int} {x:Nat} (h:x<8) (hx:(x:Int)∉l):(jQ l).take x++bv false::(jQ l).drop (x+1)=jQ l:=by
 have hl:x<(jQ l).length:=by simp;omega
 have vJ:=List.set_eq_take_append_cons_drop (l:=jQ l) (i:=x) (a:=bv false)
 rw [if_pos hl] at vJ
 rw [← vJ]
 apply List.ext_getElem?
 intro i
 rw [List.getElem?_set]
 by_cases e:x=i
 ·subst e
  rw [if_pos rfl,if_pos hl,wD h]
  simp [hx]
 ·rw [if_neg e]
theorem qEi (gl) (l:List Int):qV Tryz.prog gl 51 [.agg (jQ l)] (fun r z H'=>z=.hs r 1 0 (sorted l).length∧H' r=some (.row 1 (qJ (sorted l)))):=by
 refine qV.of_sem Tryz.func51 rfl (by kernel_rfl) (rs:=[.tmp 2]) rfl Tryz.ntmps51 (lB rfl) fun C w g root=>?_
 have fx:=fx0
 refine qB ?_
 clear fx
 refine qY (fun n st=>∃ x:Nat,n=8 - x∧x≤8∧st.tm 6=.agg (jQ l)∧st.tm 7=iv x∧st.tm 3=.hs (.s 3) 1 0 (qv l x).length∧st.hp (.s 3)=some (.row 1 (qJ (qv l x)))∧(qv l x).length≤x) 8 ?_ ?_
 ·exact⟨0,by omega,by omega,by simp,by simp,by simp [qv],by simp [qv],by simp [qv]⟩
 rintro n st - - ⟨x,rfl,hx,h6,h7,h3,hp3,hle⟩
 have fx:= h7
 refine qB ?_
 clear fx
 refine ub (by simp [];first|done|rfl|exact (Bool.not_not _).symm) (fun ht=>?_) (fun hf=>?_)
 ·have hx8':(x:Int)<8:=by simpa using ht
  have hx8:x<8:=by omega
  have hbg:=wD (l:=l) hx8
  obtain⟨hbl,hbE⟩:=gS hbg
  clear ht
  by_cases hm:(x:Int)∈l
  ·have he:qv l (x+1)=qv l x++[(x:Int)]:=by simp [qv,hm]
   generalize hL:qv l x=L at h3 hp3 he hle
   have fx:=aI h6<|aI h7<|aI hbg<|aI hbE<|aI hx8<|aI hx8'<|aI hm<|aI h3<|hp3
   refine qB ?_
   clear fx
   refine⟨8 - (x+1),by omega,x+1,rfl,by omega,by simp [h6],by simp;exact wrp (by omega) (by omega),by simp [he],?_,by simp [he];omega⟩
   rw [he]
   simp [hp3,qJ]
  ·have he:qv l (x+1)=qv l x:=by simp [qv,hm]
   have fx:=aI h6<|aI h7<|aI hbg<|aI hbE<|aI hx8<|aI hx8'<|hm
   refine qB ?_
   clear fx
   exact⟨8 - (x+1),by omega,x+1,rfl,by omega,by simp [h6],by simp;exact wrp (by omega) (by omega),by simp [he,h3],by simp [he,hp3],by rw [he];omega⟩
 ·have hge:x=8:=by
   have:¬ (x:Int)<8:=by simpa using hf
   omega
  subst hge
  have fx:=aI h3<|hp3
  refine qB ?_
  clear fx
  exact zY (t:=2) (by first|(simp [hp3];done)|(simp [hp3];rfl)) (by first|(simp [hp3];done)|(simp [hp3];rfl)) (by simp)
theorem wc {f:Nat→Bool}:∀ {n:Nat},(∀ x,x<n→f x=false)→qq f n=[]
 | 0,_=>rfl
 | n+1,h=>by
  rw [qq,if_neg (by rw [h n (by omega)];decide),wc (n:=n) fun x hx=>h x (by omega)]
theorem w9 {f:Nat→Bool} {n:Nat}:qq f (n+1)=if f n=true then qq f n++[(n:Int)] else qq f n:=rfl
theorem v9 (gl) (xs:List Int) (x:Int) (hlen:xs.length≤1048576):qV Tryz.prog gl 148 [isl xs,iv x] (fun _ z _=>z=iv (qm xs x)):=by
 refine qV.of_sem Tryz.func148 rfl (by kernel_rfl) (rs:=[.tmp 4]) rfl Tryz.ntmps148 (lB rfl) fun C w g root=>?_
 have fx:=fx0
 refine qB ?_
 clear fx
 refine qY (fun n st=>∃ i:Nat,n=xs.length - i∧i≤xs.length∧st.tm 7=isl xs∧st.tm 8=iv xs.length∧st.tm 1=iv x∧st.tm 9=iv i∧∀ j<i,xs[j]?≠some x) xs.length ⟨0,by simp⟩ ?_
 rintro n st - - ⟨i,rfl,hi,h7,h8,h1,h9,hno⟩
 by_cases hlt:i<xs.length
 ·obtain⟨y,hy⟩:∃ y,xs[i]?=some y:=⟨xs[i],gE hlt⟩
  obtain⟨_,hyE⟩:=gS hy
  cases hyx:(y==x)
  rotate_left
  ·skip
   have fx:=aI h7<|aI h8<|aI h1<|aI h9<|aI hy<|aI hyE<|aI hlt<|hyx
   refine qB ?_
   clear fx
   refine qF [] .nil (by simp;rfl) ?_
   have hyx:y=x:=by simpa using hyx
   subst hyx
   have:xs.findIdx? (·==y)=some i:=by
    rw [List.findIdx?_eq_some_iff_getElem]
    refine⟨hlt,by simp [hyE],fun j hj=>?_⟩
    have:=hno j hj
    rw [gE (by omega)] at this
    simpa using this
   simp [qm,this]
  ·skip
   have fx:=aI h7<|aI h8<|aI h1<|aI h9<|aI hy<|aI hyE<|aI hlt<|hyx
   refine qB ?_
   clear fx
   refine⟨xs.length - (i+1),by omega,i+1,rfl,by omega,by simp [h7],by simp [h8],by simp [h1],by simp;exact wrp (by omega) (by omega),fun j hj=>?_⟩
   rcases Nat.lt_succ_iff_lt_or_eq.1 hj with h|rfl
   ·exact hno j h
   ·rw [hy];simpa using hyx
 ·skip
  have fx:=aI h7<|aI h8<|aI h1<|aI h9<|hlt
  refine qB ?_
  clear fx
  refine qF [] .nil (by simp;rfl) ?_
  have:xs.findIdx? (·==x)=none:=by
   rw [List.findIdx?_eq_none_iff]
   intro y hy
   obtain⟨j,hj,rfl⟩:=List.getElem_of_mem hy
   have:=hno j (by omega)
   rw [gE hj] at this
   simpa using this
  simp [qm,this]
theorem va (gl) (p:Prg) (hp:ShapeP p) (b:Nat) (k:Blk) (hk:p[b]?=some k):qV Tryz.prog gl 49 [qAD p,iv b] (fun _ y _=>y=.agg (jQ (qE p b))):=by
 have hh:=hp.heads
 have hl7:=hp.len
 obtain⟨hbl,hbE⟩:=gS hk
 have hka:qi p b=k.kind:=by simp [qi,hk]
 have hsg:=yX (p:=p) hbl
 rw [jG hh hk] at hsg
 obtain⟨_,hse⟩:=gS hsg
 refine qV.of_sem Tryz.func49 rfl (by kernel_rfl) (rs:=[.cell 4 94]) rfl Tryz.ntmps49 (lB rfl) fun C w g root=>?_
 cases hkd:(k.kind==1)
 ·have hc:qE p b=[]:=by
   have:¬ k.kind=1:=by simpa using hkd
   simp [qE,hka,this]
  rw [hc]
  have fx:=aI hsg<|aI hse<|aI hkd<|aI hbl<|@zU
  refine qB ?_
  clear fx
  refine qF [] .nil (by simp;rfl) ?_
  rfl
 have hk1:k.kind=1:=by simpa using hkd
 have h0:0<b:=by
  rcases Nat.eq_zero_or_pos b with e|e
  ·have:=(hp.kind0 hk).2 e
   omega
  ·exact e
 have hc:jQ (qE p b)=jQ (qCv p b p.length):=by
  simp only [qE,hka,hk1,if_true]
  rw [← qOj hh h0 hbl,uu]
 rw [hc]
 have fx:=aI hsg<|aI hse<|aI hkd<|aI hbl<|@zU
 refine qB ?_
 clear fx
 refine qY (fun n st=>∃ c:Nat,n=p.length - c∧c≤p.length∧st.tm 1=iv b∧st.tm 4=.pt (.s 4) 0∧st.hp (.s 4)=some (.row 8 [jQ []])∧st.tm 5=.pt (.s 5) 0∧st.hp (.s 5)=some (.row 8 [jQ (qCv p b c)])∧st.tm 18=qAD p∧st.tm 19=iv p.length∧st.tm 20=iv c) p.length ?_ ?_
 ·exact⟨0,by omega,by omega,by simp,by simp,by simp;rfl,by simp,by simp;rfl,by simp,by simp,by simp⟩
 clear hsg hse
 rintro n st - - ⟨c,rfl,hc2,h1,h4,hp4,h5,hp5,h18,h19,h20⟩
 by_cases hlt:c<p.length
 ·obtain⟨q,hq⟩:∃ q,p[c]?=some q:=⟨_,gE hlt⟩
  have hsg:=yX (p:=p) hlt
  rw [jG hh hq] at hsg
  obtain⟨_,hse⟩:=gS hsg
  have hnext:qCv p b (c+1)=qCv p b c++qq (qBi p b c) 8:=rfl
  generalize hR:qCv p b c=R at hp5 hnext
  cases hcb:((c:Int)==b)
  rotate_left
  ·have hcb':c=b:=by
    have:(c:Int)=b:=by simpa using hcb
    omega
   rw [wc (fun x _=>by simp only [qBi,hq];simp [hcb']),List.append_nil] at hnext
   have fx:=aI h1<|aI h4<|aI hp4<|aI h5<|aI hp5<|aI h18<|aI h19<|aI h20<|aI hlt<|aI hsg<|aI hse<|hcb
   refine qB ?_
   clear fx
   exact⟨p.length - (c+1),by omega,c+1,rfl,by omega,by simp [h1],by simp [h4],by simp [hp4],by simp [h5],by simp [hp5,hnext],by simp [h18],by simp [h19],by simp;exact wrp (by omega) (by omega)⟩
  have hcb':(c != b)=true:=by
   have:¬ (c:Int)=b:=by simpa using hcb
   simp
   omega
  have fx:=aI h1<|aI h4<|aI hp4<|aI h5<|aI hp5<|aI h18<|aI h19<|aI h20<|aI hlt<|aI hsg<|aI hse<|hcb
  refine qB ?_
  clear fx
  refine qY (fun n st=>∃ x:Nat,n=8 - x∧x≤8∧st.tm 1=iv b∧st.tm 4=.pt (.s 4) 0∧st.hp (.s 4)=some (.row 8 [jQ []])∧st.tm 5=.pt (.s 5) 0∧st.hp (.s 5)=some (.row 8 [jQ (R++qq (qBi p b c) x)])∧st.tm 7=qM6 p c q∧st.tm 18=qAD p∧st.tm 19=iv p.length∧st.tm 20=iv c∧st.tm 30=iv x) 8 ?_ ?_
  ·exact⟨0,by omega,by omega,by simp [h1],by simp [h4],by simp [hp4],by simp [h5],by simp [hp5,qq],by simp,by simp [h18],by simp [h19],by simp [h20],by simp⟩
  clear h1 h4 hp4 h5 hp5 h18 h19 h20
  rintro n st - - ⟨x,rfl,hx,h1,h4,hp4,h5,hp5,h7,h18,h19,h20,h30⟩
  by_cases hx8:x<8
  ·have hx8':(x:Int)<8:=by omega
   have hfi:qBi p b c x=(decide ((x:Int)∈q.us)&&(qz p c x==b)):=by simp only [qBi,hq,hcb',Bool.true_and]
   have hn2:=w9 (f:=qBi p b c) (n:=x)
   cases hus:decide ((x:Int)∈q.us)
   ·rw [if_neg (by rw [hfi,hus];simp)] at hn2
    all_goals have fx:=aI h1<|aI h5<|aI hp5<|aI h7<|aI h30<|aI hx8<|aI hx8'<|hus
    repeat' (first
     | refine qf ?_|refine qS ?_|refine q7 ?_|refine qj fun K hK=>?_
     | ((with_reducible refine qc hK ?_);clear hK K)
     | (with_reducible first|refine qD ?_)
     | (with_reducible refine qO ?_)
     | ((with_reducible refine vR ?_);refine q6 (h:=?_))
     | (with_reducible first|refine uz (h:=?_)|refine qG (h:=?_))
     | ((with_reducible refine z7 80 rfl ?_);refine qM (hF:=uc _ p c q x hx8) (h:=?_))
     | (with_reducible refine x_q (h:=?_))
     | refine qR (h1:=?_)|refine qg (h1:=?_)
     | fail)
    all_goals try clear fx
    exact⟨8 - (x+1),by omega,x+1,rfl,by omega,by simp [h1],by simp [h4],by simp [hp4],by simp [h5],by simp [hp5,hn2],by simp [h7],by simp [h18],by simp [h19],by simp [h20],by simp;exact wrp (by omega) (by omega)⟩
   cases ho:(qz p c x==(b:Int))
   ·rw [if_neg (by rw [hfi,ho];simp)] at hn2
    all_goals have fx:=aI h1<|aI h5<|aI hp5<|aI h7<|aI h30<|aI hx8<|aI hx8'<|aI hus<|ho
    repeat' (first
     | refine qf ?_|refine qS ?_|refine q7 ?_|refine qj fun K hK=>?_
     | ((with_reducible refine qc hK ?_);clear hK K)
     | (with_reducible first|refine qD ?_)
     | (with_reducible refine qO ?_)
     | ((with_reducible refine vR ?_);refine q6 (h:=?_))
     | (with_reducible first|refine jV ?_|refine qG (h:=?_))
     | ((with_reducible refine z7 80 rfl ?_);refine qM (hF:=uc _ p c q x hx8) (h:=?_))
     | ((with_reducible refine z7 81 rfl ?_);refine qM (hF:=zd _ p hp c q hq x hx8) (h:=?_))
     | (with_reducible refine x_q (h:=?_))
     | refine qR (h1:=?_)|refine qg (h1:=?_)
     | fail)
    all_goals try clear fx
    exact⟨8 - (x+1),by omega,x+1,rfl,by omega,by simp [h1],by simp [h4],by simp [hp4],by simp [h5],by simp [hp5,hn2],by simp [h7],by simp [h18],by simp [h19],by simp [h20],by simp;exact wrp (by omega) (by omega)⟩
   ·rw [if_pos (by rw [hfi,hus,ho];rfl)] at hn2
    have hnM:R++qq (qBi p b c) (x+1)=R++qq (qBi p b c) x++[(x:Int)]:=by rw [hn2,List.append_assoc]
    generalize R++qq (qBi p b c) x=M at hp5 hnM
    all_goals have fx:=aI h1<|aI h5<|aI hp5<|aI h7<|aI h30<|aI hx8<|aI hx8'<|aI hus<|ho
    repeat' (first
     | refine qf ?_|refine qS ?_|refine q7 ?_|refine qj fun K hK=>?_
     | ((with_reducible refine qc hK ?_);clear hK K)
     | (with_reducible first|refine qD ?_)
     | (with_reducible refine qO ?_)
     | ((with_reducible refine vR ?_);refine q6 (h:=?_))
     | (with_reducible first|refine jV ?_|refine qG (h:=?_)|refine qp (h:=?_))
     | ((with_reducible refine z7 80 rfl ?_);refine qM (hF:=uc _ p c q x hx8) (h:=?_))
     | ((with_reducible refine z7 81 rfl ?_);refine qM (hF:=zd _ p hp c q hq x hx8) (h:=?_))
     | (with_reducible refine x_q (h:=?_))
     | refine qR (h1:=?_)
     | fail)
    all_goals try clear fx
    refine⟨8 - (x+1),by omega,x+1,rfl,by omega,by simp [h1],by simp [h4],by simp [hp4],by simp [h5],?_,by simp [h7],by simp [h18],by simp [h19],by simp [h20],by simp;exact wrp (by omega) (by omega)⟩
    rw [hnM]
    simp [← uE (l:=M) (y:=(x:Int)) rfl hx8]
  ·have hge:x=8:=by omega
   subst hge
   rw [← hnext] at hp5
   have fx:=aI h1<|aI h5<|aI hp5<|aI h18<|aI h19<|aI h20<|h30
   refine qB ?_
   clear fx
   exact⟨p.length - (c+1),by omega,c+1,rfl,by omega,by simp [h1],by simp [h4],by simp [hp4],by simp [h5],by simp [hp5],by simp [h18],by simp [h19],by simp [h20];exact wrp (by omega) (by omega)⟩
 ·have hge:c=p.length:=by omega
  subst hge
  have fx:=aI h4<|aI hp4<|aI h5<|aI hp5<|aI h19<|h20
  refine qB ?_
  clear fx
  refine qF [] .nil (by simp [h4];rfl) ?_
  simp
theorem qBG (gl) (p:Prg) (hp:ShapeP p) (b:Nat) (hbl:b<p.length):qV Tryz.prog gl 112 [qAD p,iv b] (fun r y H'=>y=.hs r 1 0 (qU p b).length∧H' r=some (.row 1 (qJ (qU p b)))):=by
 have hh:=hp.heads
 have hl7:=hp.len
 rw [← qOZ hh hbl]
 refine qV.of_sem Tryz.func112 rfl (by kernel_rfl) (rs:=[.tmp 4]) rfl Tryz.ntmps112 (lB rfl) fun C w g root=>?_
 have fx:=fx0
 refine qB ?_
 clear fx
 refine qY (fun n st=>∃ c:Nat,n=p.length - c∧c≤p.length∧st.tm 0=qAD p∧st.tm 1=iv b∧st.tm 5=.pt (.s 5) 0∧st.hp (.s 5)=some (.row 8 [jQ (qCr p b c)])∧st.tm 10=qAD p∧st.tm 11=iv p.length∧st.tm 12=iv c) p.length ?_ ?_
 ·exact⟨0,by omega,by omega,by simp,by simp,by simp,by simp;rfl,by simp,by simp,by simp⟩
 rintro n st - - ⟨c,rfl,hc2,h0,h1,h5,hp5,h10,h11,h12⟩
 by_cases hlt:c<p.length
 ·obtain⟨q,hq⟩:∃ q,p[c]?=some q:=⟨_,gE hlt⟩
  have hsg:=yX (p:=p) hlt
  rw [jG hh hq] at hsg
  obtain⟨_,hse⟩:=gS hsg
  have hnext:qCr p b (c+1)=qCr p b c++qq (qBh p b c) 8:=rfl
  generalize hR:qCr p b c=R at hp5 hnext
  cases hin:zJ p c b
  ·rw [wc (fun x _=>by simp only [qBh,hq,hin];simp),List.append_nil] at hnext
   have fx:=aI h0<|aI h1<|aI h5<|aI hp5<|aI h10<|aI h11<|aI h12<|aI hlt<|aI hsg<|aI hse<|hin
   have c1:=uk gl p hh c q hq b
   refine qB ?_
   clear fx c1
   exact⟨p.length - (c+1),by omega,c+1,rfl,by omega,by simp [h0],by simp [h1],by simp [h5],by simp [hp5,hnext],by simp [h10],by simp [h11],by simp;exact wrp (by omega) (by omega)⟩
  have fx:=aI h0<|aI h1<|aI h5<|aI hp5<|aI h10<|aI h11<|aI h12<|aI hlt<|aI hsg<|aI hse<|hin
  have c1:=uk gl p hh c q hq b
  refine qB ?_
  clear fx c1
  refine qY (fun n st=>∃ x:Nat,n=8 - x∧x≤8∧st.tm 0=qAD p∧st.tm 1=iv b∧st.tm 5=.pt (.s 5) 0∧st.hp (.s 5)=some (.row 8 [jQ (R++qq (qBh p b c) x)])∧st.tm 7=qM6 p c q∧st.tm 10=qAD p∧st.tm 11=iv p.length∧st.tm 12=iv c∧st.tm 20=iv x) 8 ?_ ?_
  ·exact⟨0,by omega,by omega,by simp [h0],by simp [h1],by simp [h5],by simp [hp5,qq],by simp,by simp [h10],by simp [h11],by simp [h12],by simp⟩
  clear h0 h1 h5 hp5 h10 h11 h12 hsg hse
  rintro n st - - ⟨x,rfl,hx,h0,h1,h5,hp5,h7,h10,h11,h12,h20⟩
  by_cases hx8:x<8
  ·have hx8':(x:Int)<8:=by omega
   have hfi:qBh p b c x=(decide ((x:Int)∈q.us)&&(qz p c x != -1)&&!zJ p (qz p c x) b):=by simp only [qBh,hq,hin,Bool.true_and]
   have hn2:=w9 (f:=qBh p b c) (n:=x)
   cases hus:decide ((x:Int)∈q.us)
   ·rw [if_neg (by rw [hfi,hus];simp)] at hn2
    all_goals have fx:=aI h1<|aI h5<|aI hp5<|aI h7<|aI h20<|aI hx8<|aI hx8'<|hus
    repeat' (first
     | refine qf ?_|refine qS ?_|refine q7 ?_|refine qj fun K hK=>?_
     | ((with_reducible refine qc hK ?_);clear hK K)
     | (with_reducible first|refine qD ?_)
     | refine jS ?_
     | (with_reducible refine qO ?_)
     | (with_reducible first|refine qG (h:=?_))
     | ((with_reducible refine z7 80 rfl ?_);refine qM (hF:=uc _ p c q x hx8) (h:=?_))
     | (with_reducible refine x_q (h:=?_))
     | refine qR (h1:=?_)
     | fail)
    all_goals try clear fx
    exact⟨8 - (x+1),by omega,x+1,rfl,by omega,by simp [h0],by simp [h1],by simp [h5],by simp [hp5,hn2],by simp [h7],by simp [h10],by simp [h11],by simp [h12],by simp;exact wrp (by omega) (by omega)⟩
   cases hno:(qz p c x == -1)
   rotate_left
   ·rw [if_neg (by rw [hfi,bne,hno];simp)] at hn2
    all_goals have fx:=aI h1<|aI h5<|aI hp5<|aI h7<|aI h20<|aI hx8<|aI hx8'<|aI hus<|aI hno<|@zU
    repeat' (first
     | refine qf ?_|refine qS ?_|refine q7 ?_|refine qj fun K hK=>?_
     | ((with_reducible refine qc hK ?_);clear hK K)
     | (with_reducible first|refine qD ?_)
     | (with_reducible refine qO ?_)
     | ((with_reducible refine vR ?_);refine q6 (h:=?_))
     | (with_reducible first|refine uz (h:=?_)|refine qG (h:=?_))
     | ((with_reducible refine z7 80 rfl ?_);refine qM (hF:=uc _ p c q x hx8) (h:=?_))
     | ((with_reducible refine z7 81 rfl ?_);refine qM (hF:=zd _ p hp c q hq x hx8) (h:=?_))
     | (with_reducible refine x_q (h:=?_))
     | refine qR (h1:=?_)|refine qg (h1:=?_)
     | fail)
    all_goals try clear fx
    exact⟨8 - (x+1),by omega,x+1,rfl,by omega,by simp [h0],by simp [h1],by simp [h5],by simp [hp5,hn2],by simp [h7],by simp [h10],by simp [h11],by simp [h12],by simp;exact wrp (by omega) (by omega)⟩
   have hno':¬ qz p c x=-1:=by simpa using hno
   obtain⟨o,hO⟩:∃ o:Nat,qz p c x=o:=⟨(qz p c x).toNat,by rcases vE (p:=p) (c:=c) (x:=(x:Int)) with h|h <;> omega⟩
   have hol:o<p.length:=by
    have h1:=vE (p:=p) (c:=c) (x:=(x:Int))
    have h2:=ja (vk hh (by omega) hq hO)
    omega
   obtain⟨qo,hqo⟩:∃ q,p[o]?=some q:=⟨_,gE hol⟩
   have hsg:=yX (p:=p) hol
   rw [jG hh hqo] at hsg
   obtain⟨_,hse⟩:=gS hsg
   rw [hO] at hno hfi
   cases hio:zJ p o b
   rotate_left
   ·rw [if_neg (by rw [hfi,hio];simp)] at hn2
    all_goals have fx:=aI h0<|aI h1<|aI h5<|aI hp5<|aI h7<|aI h20<|aI hx8<|aI hx8'<|aI hus<|aI hO<|aI hno<|aI hol<|aI hsg<|aI hse<|aI hio<|@zU
    repeat' (first
     | refine qf ?_|refine qS ?_|refine q7 ?_|refine qj fun K hK=>?_
     | ((with_reducible refine qc hK ?_);clear hK K)
     | (with_reducible first|refine qD ?_)
     | (with_reducible refine qO ?_)
     | ((with_reducible refine vR ?_);refine q6 (h:=?_))
     | (with_reducible first|refine jV ?_|refine qG (h:=?_))
     | ((with_reducible refine z7 80 rfl ?_);refine qM (hF:=uc _ p c q x hx8) (h:=?_))
     | ((with_reducible refine z7 81 rfl ?_);refine qM (hF:=zd _ p hp c q hq x hx8) (h:=?_))
     | ((with_reducible refine z7 147 rfl ?_);refine qM (hF:=uk _ p hh o qo hqo b) (h:=?_))
     | (with_reducible refine x_q (h:=?_))
     | refine qR (h1:=?_)|refine qg (h1:=?_)
     | fail)
    all_goals try clear fx
    exact⟨8 - (x+1),by omega,x+1,rfl,by omega,by simp [h0],by simp [h1],by simp [h5],by simp [hp5,hn2],by simp [h7],by simp [h10],by simp [h11],by simp [h12],by simp;exact wrp (by omega) (by omega)⟩
   ·rw [if_pos (by rw [hfi,hus,bne,hno,hio];rfl)] at hn2
    have hnM:R++qq (qBh p b c) (x+1)=R++qq (qBh p b c) x++[(x:Int)]:=by rw [hn2,List.append_assoc]
    generalize R++qq (qBh p b c) x=M at hp5 hnM
    all_goals have fx:=aI h0<|aI h1<|aI h5<|aI hp5<|aI h7<|aI h20<|aI hx8<|aI hx8'<|aI hus<|aI hO<|aI hno<|aI hol<|aI hsg<|aI hse<|aI hio<|@zU
    repeat' (first
     | refine qf ?_|refine qS ?_|refine q7 ?_|refine qj fun K hK=>?_
     | ((with_reducible refine qc hK ?_);clear hK K)
     | (with_reducible first|refine qD ?_)
     | (with_reducible refine qO ?_)
     | ((with_reducible refine vR ?_);refine q6 (h:=?_))
     | (with_reducible first|refine jV ?_|refine qG (h:=?_)|refine qp (h:=?_))
     | ((with_reducible refine z7 80 rfl ?_);refine qM (hF:=uc _ p c q x hx8) (h:=?_))
     | ((with_reducible refine z7 81 rfl ?_);refine qM (hF:=zd _ p hp c q hq x hx8) (h:=?_))
     | ((with_reducible refine z7 147 rfl ?_);refine qM (hF:=uk _ p hh o qo hqo b) (h:=?_))
     | (with_reducible refine x_q (h:=?_))
     | refine qR (h1:=?_)|refine qg (h1:=?_)
     | fail)
    all_goals try clear fx
    refine⟨8 - (x+1),by omega,x+1,rfl,by omega,by simp [h0],by simp [h1],by simp [h5],?_,by simp [h7],by simp [h10],by simp [h11],by simp [h12],by simp;exact wrp (by omega) (by omega)⟩
    rw [hnM]
    simp [← uE (l:=M) (y:=(x:Int)) rfl hx8]
  ·have hge:x=8:=by omega
   subst hge
   rw [← hnext] at hp5
   have fx:=aI h1<|aI h5<|aI hp5<|aI h10<|aI h11<|aI h12<|h20
   refine qB ?_
   clear fx
   exact⟨p.length - (c+1),by omega,c+1,rfl,by omega,by simp [h0],by simp [h1],by simp [h5],by simp [hp5],by simp [h10],by simp [h11],by simp [h12];exact wrp (by omega) (by omega)⟩
 ·have hge:c=p.length:=by omega
  subst hge
  have fx:=aI h5<|aI hp5<|aI h11<|h12
  have d1:=qEi gl (qCr p b p.length)
  refine qB ?_
  clear fx d1
  exact zY (t:=4) (by first|(simp [];done)|(simp [];rfl)) (by first|(simp [];done)|(simp [];rfl)) (by simp)
end Go.Proofs.YtbgmnmnoaamgkaaGreatDoor
end
