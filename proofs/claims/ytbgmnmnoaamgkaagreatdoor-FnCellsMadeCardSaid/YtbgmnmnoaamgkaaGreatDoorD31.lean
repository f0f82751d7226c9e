/-
  Own texts, joined by mkclaim.py: Kd, Kk, Kn, Km, Ko, Kp, Zc, Zd, Ze.
-/
import Derived.Test.YtbgmnmnoaamgkaaGreatDoorD28
import Derived.Test.YtbgmnmnoaamgkaaGreatDoorD12
import Derived.Test.YtbgmnmnoaamgkaaGreatDoorD25
import Derived.Test.YtbgmnmnoaamgkaaGreatDoorD26
import Derived.Test.YtbgmnmnoaamgkaaGreatDoorD17
set_option linter.unusedSimpArgs false
set_option linter.unusedVariables false
set_option maxRecDepth 100000
set_option maxHeartbeats 4000000

section
namespace Go.Proofs.YtbgmnmnoaamgkaaGreatDoor
open Go Go.Hm Go.Proofs
theorem qHK {p:Prg} (h:ShapeP p) {i:Nat} {k:Blk} (hk:p[i]?=some k):k.kind=0∨k.kind=1∨k.kind=2:=by
 have:=h.head i k hk
 unfold jJ at this
 split at this <;> omega
theorem qHF {l:List Int}:sorted (sorted l)=sorted l:=w4 fun x hx=>by
 rw [Go.Hm.mem_sorted]
 exact⟨fun h=>h.1,fun h=>⟨h,by omega,by omega⟩⟩
theorem qBK {p:Prg} {b:Nat}:sorted (qE p b)=qE p b:=by
 unfold qE
 split
 ·exact qHF
 ·rfl
theorem qGG {xs:List Int} {x:Int}:(qm xs x == -1)=!decide (x∈xs):=by
 have h1:=ze (xs:=xs) (x:=x)
 have h2:=wA (xs:=xs) (x:=x)
 by_cases h:x∈xs
 ·have:=h1.2 h
  simp [h]
  omega
 ·have:¬ 0≤qm xs x:=fun e=>h (h1.1 e)
  simp [h]
  omega
theorem qDj (gl) (p:Prg) (hp:ShapeP p) (b:Nat) (k:Blk) (hk:p[b]?=some k) (hk1:k.kind=1):qV Tryz.prog gl 145 [qAD p,iv b] (fun r y H'=>y=.hs r 1 0 (qI p b).length∧H' r=some (.row 1 (qJ (qI p b)))):=by
 have hh:=hp.heads
 have hl7:=hp.len
 obtain⟨hbl,hbE⟩:=gS hk
 have hka:qi p b=k.kind:=by simp [qi,hk]
 have hsg:=yX (p:=p) hbl
 rw [jG hh hk] at hsg
 obtain⟨_,hse⟩:=gS hsg
 have hc:qI p b=sorted (qq (jz p b) 8):=by
  rw [qEG]
  simp [qI,hka,hk1]
 have hkd:(k.kind==1)=true:=by simpa using hk1
 rw [hc]
 refine qV.of_sem Tryz.func145 rfl (by kernel_rfl) (rs:=[.tmp 4]) rfl Tryz.ntmps145 (lB rfl) fun C w g root=>?_
 have fx:=aI hsg<|aI hse<|aI hkd<|aI hbl<|@zU
 have c1:=va gl p hp b k hk
 refine qB ?_
 clear fx c1
 refine qY (fun n st=>∃ x:Nat,n=8 - x∧x≤8∧st.tm 0=qAD p∧st.tm 1=iv b∧st.tm 5=.pt (.s 5) 0∧st.hp (.s 5)=some (.row 8 [jQ (qq (jz p b) x)])∧st.tm 6=.pt (.s 6) 0∧st.hp (.s 6)=some (.row 8 [jQ (qE p b)])∧st.tm 19=iv x) 8 ?_ ?_
 ·exact⟨0,by omega,by omega,by simp,by simp,by simp,by simp;rfl,by simp,by simp,by simp⟩
 rintro n st - - ⟨x,rfl,hx,h0,h1,h5,hp5,h6,hp6,h19⟩
 by_cases hx8:x<8
 ·have hx8':(x:Int)<8:=by omega
  have hfi:jz p b x=(zZ b k x&&!decide ((x:Int)∈qE p b)):=by simp only [jz,hk]
  have hn2:=w9 (f:=jz p b) (n:=x)
  have hno:(x:Int)∉qq (jz p b) x:=fun h=>by
   rw [jd] at h
   omega
  have hbg:=wD (l:=qE p b) hx8
  obtain⟨hbgl,hbgE⟩:=gS hbg
  generalize hL:qq (jz p b) x=L at hp5 hn2 hno
  cases hlo:zZ b k x
  ·rw [if_neg (by rw [hfi,hlo];simp)] at hn2
   all_goals have fx:=aI h0<|aI h1<|aI h5<|aI hp5<|aI h6<|aI hp6<|aI h19<|aI hx8<|aI hx8'<|aI hsg<|aI hse<|aI hbl<|hlo
   repeat' (first
    | refine qf ?_|refine qS ?_|refine q7 ?_|refine qj fun K hK=>?_
    | ((with_reducible refine qc hK ?_);clear hK K)
    | (with_reducible first|refine qD ?_)
    | (with_reducible refine qO ?_)
    | ((with_reducible refine vR ?_);refine q6 (h:=?_))
    | (with_reducible first|refine uz (h:=?_)|refine qG (h:=?_)|refine qp (h:=?_))
    | ((with_reducible refine z7 121 rfl ?_);refine qM (hF:=qCf _ p hp b k hk x hx8) (h:=?_))
    | (with_reducible refine x_q (h:=?_))
    | refine qR (h1:=?_)
    | fail)
   all_goals try clear fx
   exact⟨8 - (x+1),by omega,x+1,rfl,by omega,by simp [h0],by simp [h1],by simp [h5],by simp [hn2,qGn hx8 hno],by simp [h6],by simp [hp6],by simp;exact wrp (by omega) (by omega)⟩
  cases hce:decide ((x:Int)∈qE p b)
  rotate_left
  ·rw [if_neg (by rw [hfi,hlo,hce];decide)] at hn2
   all_goals have fx:=aI h0<|aI h1<|aI h5<|aI hp5<|aI h6<|aI hp6<|aI h19<|aI hx8<|aI hx8'<|aI hsg<|aI hse<|aI hbl<|aI hlo<|aI hbg<|aI hbgE<|aI hbgl<|hce
   repeat' (first
    | refine qf ?_|refine qS ?_|refine q7 ?_|refine qj fun K hK=>?_
    | ((with_reducible refine qc hK ?_);clear hK K)
    | (with_reducible first|refine qD ?_)
    | (with_reducible refine qO ?_)
    | ((with_reducible refine vR ?_);refine q6 (h:=?_))
    | (with_reducible first|refine jV ?_|refine qG (h:=?_)|refine qp (h:=?_))
    | ((with_reducible refine z7 121 rfl ?_);refine qM (hF:=qCf _ p hp b k hk x hx8) (h:=?_))
    | (with_reducible refine x_q (h:=?_))
    | refine qR (h1:=?_)
    | fail)
   all_goals try clear fx
   exact⟨8 - (x+1),by omega,x+1,rfl,by omega,by simp [h0],by simp [h1],by simp [h5],by simp [hn2,qGn hx8 hno],by simp [h6],by simp [hp6],by simp;exact wrp (by omega) (by omega)⟩
  ·rw [if_pos (by rw [hfi,hlo,hce];rfl)] at hn2
   all_goals have fx:=aI h0<|aI h1<|aI h5<|aI hp5<|aI h6<|aI hp6<|aI h19<|aI hx8<|aI hx8'<|aI hsg<|aI hse<|aI hbl<|aI hlo<|aI hbg<|aI hbgE<|aI hbgl<|hce
   repeat' (first
    | refine qf ?_|refine qS ?_|refine q7 ?_|refine qj fun K hK=>?_
    | ((with_reducible refine qc hK ?_);clear hK K)
    | (with_reducible first|refine qD ?_)
    | (with_reducible refine qO ?_)
    | ((with_reducible refine vR ?_);refine q6 (h:=?_))
    | (with_reducible first|refine jV ?_|refine qG (h:=?_)|refine qp (h:=?_))
    | ((with_reducible refine z7 121 rfl ?_);refine qM (hF:=qCf _ p hp b k hk x hx8) (h:=?_))
    | (with_reducible refine x_q (h:=?_))
    | refine qR (h1:=?_)
    | fail)
   all_goals try clear fx
   refine⟨8 - (x+1),by omega,x+1,rfl,by omega,by simp [h0],by simp [h1],by simp [h5],?_,by simp [h6],by simp [hp6],by simp;exact wrp (by omega) (by omega)⟩
   rw [hn2]
   simp [← uE (l:=L) (y:=(x:Int)) rfl hx8]
 ·have hge:x=8:=by omega
  subst hge
  have fx:=aI h5<|aI hp5<|h19
  have d1:=qEi gl (qq (jz p b) 8)
  refine qB ?_
  clear fx d1
  exact zY (t:=4) (by first|(simp [];done)|(simp [];rfl)) (by first|(simp [];done)|(simp [];rfl)) (by simp)
theorem yu (gl) (p:Prg) (hp:ShapeP p) (b:Nat) (k:Blk) (hk:p[b]?=some k) (x:Nat) (hx:x<8):qV Tryz.prog gl 113 [qAD p,iv b,iv x] (fun _ y _=>y=iv (vS p b x)):=by
 have hbl:=(gS hk).1
 have hcl:=zV (p:=p) (b:=b)
 have hfl:=jW (p:=p) (b:=b)
 have hbd:=wA (xs:=qU p b) (x:=(x:Int))
 have hw:IntKind.i64.wrap (((qE p b).length:Int)+qm (qU p b) x)=(qE p b).length+qm (qU p b) x:=wrp (by omega) (by omega)
 have hli:=qEi gl (qE p b)
 rw [qBK] at hli
 have hpn:=qGG (xs:=qE p b) (x:=(x:Int))
 refine qV.of_sem Tryz.func113 rfl (by kernel_rfl) (rs:=[.tmp 6]) rfl Tryz.ntmps113 (lB rfl) fun C w g root=>?_
 by_cases hm:(x:Int)∈qE p b
 ·have hpn':(qm (qE p b) x == -1)=false:=by rw [hpn];simp [hm]
  all_goals have fx:=aI hpn'<|@zU
  repeat' (first
   | refine qf ?_|refine qj fun K hK=>?_
   | ((with_reducible refine qc hK ?_);clear hK K)
   | (with_reducible first|refine qD ?_|refine qP ?_)
   | refine qw ?_
   | (with_reducible first|refine qO ?_|refine qG (h:=?_))
   | ((with_reducible refine z7 49 rfl ?_);refine qM (hF:=va _ p hp b k hk) (h:=?_))
   | ((with_reducible refine z7 51 rfl ?_);refine jK (hF:=hli) (h:=?_))
   | ((with_reducible refine z7 148 rfl ?_);refine qM (hF:=v9 _ (qE p b) _ (by omega)) (h:=?_))
   | (with_reducible refine x_q (h:=?_))
   | refine qR (h1:=?_)
   | fail)
  all_goals try clear fx
  refine qF [] .nil (by simp;rfl) ?_
  simp [vS,hm]
 ·have hpn':(qm (qE p b) x == -1)=true:=by rw [hpn];simp [hm]
  all_goals have fx:=aI hpn'<|aI hw<|@zU
  repeat' (first
   | refine qf ?_|refine q7 ?_|refine qj fun K hK=>?_
   | ((with_reducible refine qc hK ?_);clear hK K)
   | (with_reducible first|refine qD ?_)
   | refine qw ?_
   | (with_reducible first|refine qO ?_|refine qG (h:=?_))
   | ((with_reducible refine z7 49 rfl ?_);refine qM (hF:=va _ p hp b k hk) (h:=?_))
   | ((with_reducible refine z7 51 rfl ?_);refine jK (hF:=hli) (h:=?_))
   | ((with_reducible refine z7 148 rfl ?_);refine qM (hF:=v9 _ (qE p b) _ (by omega)) (h:=?_))
   | ((with_reducible refine z7 112 rfl ?_);refine jK (hF:=qBG _ p hp b hbl) (h:=?_))
   | ((with_reducible refine z7 148 rfl ?_);refine qM (hF:=v9 _ (qU p b) _ (by omega)) (h:=?_))
   | (with_reducible refine x_q (h:=?_))
   | refine qg (h1:=?_)
   | fail)
  all_goals try clear fx
  refine qF [] .nil (by simp;rfl) ?_
  simp [vS,hm]
theorem vb (gl) (p:Prg) (hp:ShapeP p) (b:Nat) (k:Blk) (hk:p[b]?=some k) (x:Nat) (hx:x<8):qV Tryz.prog gl 187 [qAD p,iv b,iv x] (fun _ y _=>y=iv (zl p b x)):=by
 have hh:=hp.heads
 have hl7:=hp.len
 obtain⟨hbl,hbE⟩:=gS hk
 have hka:qi p b=k.kind:=by simp [qi,hk]
 have hsg:=yX (p:=p) hbl
 rw [jG hh hk] at hsg
 obtain⟨_,hse⟩:=gS hsg
 have hop:=vE (p:=p) (c:=b) (x:=(x:Int))
 have hx8:(x:Int)<8:=by omega
 refine qV.of_sem Tryz.func187 rfl (by kernel_rfl) (rs:=[.tmp 6]) rfl Tryz.ntmps187 (lB rfl) fun C w g root=>?_
 cases ho:(qz p b x == -1)
 rotate_left
 ·skip
  have fx:=aI hsg<|aI hse<|aI hbl<|ho
  have c1:=zd gl p hp b k hk x hx
  refine qB ?_
  clear fx c1
  refine qF [] .nil (by simp;rfl) ?_
  have ho':qz p b x=-1:=by simpa using ho
  simp [zl,ho']
 have hno:¬ qz p b x=-1:=by simpa using ho
 have hnl:¬ qz p b x<0:=by omega
 cases hb:(qz p b x==(b:Int))
 ·skip
  have fx:=aI hsg<|aI hse<|aI hbl<|aI ho<|aI hb<|@zU
  have c1:=zd gl p hp b k hk x hx
  refine qB ?_
  clear fx c1
  refine qF [] .nil (by simp;rfl) ?_
  have hb':¬ qz p b x=b:=by simpa using hb
  simp only [zl,if_neg hnl,if_pos hb']
  rfl
 have hb':qz p b x=b:=by simpa using hb
 have hnn:¬ qz p b x≠b:=fun h=>h hb'
 cases hkd:(k.kind==2)
 rotate_left
 ·skip
  have fx:=aI hsg<|aI hse<|aI hbl<|aI ho<|aI hb<|aI @zU<|hkd
  have c1:=zd gl p hp b k hk x hx
  refine qB ?_
  clear fx c1
  refine qF [] .nil (by simp;rfl) ?_
  have hkd':k.kind=2:=by simpa using hkd
  simp only [zl,if_neg hnl,if_neg hnn,hka,if_pos hkd']
  rfl
 have hkd':¬ k.kind=2:=by simpa using hkd
 have hbg:=wD (l:=qE p b) hx
 obtain⟨hbgl,hbgE⟩:=gS hbg
 cases hce:decide ((x:Int)∈qE p b)
 all_goals
  have fx:=aI hsg<|aI hse<|aI hbl<|aI ho<|aI hb<|aI @zU<|aI hkd<|aI hbg<|aI hbgE<|aI hbgl<|aI hx<|aI hx8<|hce
  have c1:=zd gl p hp b k hk x hx
  have c2:=va gl p hp b k hk
  refine qB ?_
  clear fx c1 c2
  refine qF [] .nil (by simp;rfl) ?_
  simp at hce
  simp only [zl,if_neg hnl,if_neg hnn,hka,if_neg hkd',hce]
  rfl
abbrev kn:List AV:=[iv 8,iv 5,iv 11,iv 5,iv 2]
theorem qAB (gl:Nat→Option (List AV)) (hgl:gl 0=some kn) (p:Prg) (hp:ShapeP p) (b:Nat) (k:Blk) (hk:p[b]?=some k) (x:Nat) (hx:x<8) (w:Int) (hw0:0≤w) (hw2:w≤2):qV Tryz.prog gl 169 [qAD p,iv b,iv x,iv w] (fun _ y _=>y=.agg [iv (zG p b x w).1,iv (zG p b x w).2]):=by
 have hw8:IntKind.i64.wrap (8+w)=8+w:=wrp (by omega) (by omega)
 have hw11:IntKind.i64.wrap (11+w)=11+w:=wrp (by omega) (by omega)
 have hw22:IntKind.i64.wrap (2+w)=2+w:=wrp (by omega) (by omega)
 have hw5:IntKind.i64.wrap (5+w)=5+w:=wrp (by omega) (by omega)
 have hsf:=qJH (x:=(x:Int)) hk (hp.kind0 hk).symm (qHK hp hk)
 have hfl:=yv (p:=p) (b:=b)
 have hs5:zl p b x=0∨zl p b x=1∨zl p b x=2∨zl p b x=3∨zl p b x=4:=by
  unfold zl
  split
  ·simp
  ·split
   ·simp
   ·split
    ·simp
    ·split <;> simp
 refine qV.of_sem Tryz.func169 rfl (by kernel_rfl) (rs:=[.cell 8 157]) rfl Tryz.ntmps169 (lB rfl) fun C w g root=>?_
 rcases hs5 with h|h|h|h|h
 ·skip
  have fx:=aI h<|aI hgl<|hw8
  have c1:=vb gl p hp b k hk x hx
  refine qB ?_
  clear fx c1
  refine qF [] .nil (by simp;rfl) ?_
  simp [zG,h]
 ·skip
  have fx:=aI h<|aI hgl<|hw5
  have c1:=vb gl p hp b k hk x hx
  have c2:=yu gl p hp b k hk x hx
  refine qB ?_
  clear fx c1 c2
  refine qF [] .nil (by simp;rfl) ?_
  simp [zG,h]
 ·skip
  have fx:=aI h<|aI hgl<|hw11
  have c1:=vb gl p hp b k hk x hx
  refine qB ?_
  clear fx c1
  refine qF [] .nil (by simp;rfl) ?_
  simp [zG,h]
 ·skip
  have fx:=aI h<|aI hgl<|hw5
  have c1:=vb gl p hp b k hk x hx
  have c2:=yu gl p hp b k hk x hx
  refine qB ?_
  clear fx c1 c2
  refine qF [] .nil (by simp;rfl) ?_
  simp [zG,h]
 ·skip
  all_goals have fx:=aI h<|aI hgl<|hw22
  repeat' (first
   | refine qf ?_|refine qS ?_|refine qj fun K hK=>?_
   | ((with_reducible refine qc hK ?_);clear hK K)
   | (with_reducible first|refine qD ?_)
   | refine qw ?_
   | (with_reducible first|refine qO ?_|refine qG (h:=?_)|refine zk (h:=?_)|refine qp (h:=?_))
   | ((with_reducible refine z7 187 rfl ?_);refine qM (hF:=vb _ p hp b k hk x hx) (h:=?_))
   | ((with_reducible refine z7 145 rfl ?_);refine jK (hF:=qDj _ p hp b k hk (hsf (.inr h))) (h:=?_))
   | ((with_reducible refine z7 148 rfl ?_);refine qM (hF:=v9 _ (qI p b) _ (by omega)) (h:=?_))
   | (with_reducible refine x_q (h:=?_))
   | refine qR (h1:=?_)
   | fail)
  all_goals try clear fx
  refine qF [] .nil (by simp;rfl) ?_
  simp [zG,h]
theorem qAk (gl) (s:Stm) (hkd:0≤s.kind∧s.kind≤11):qV Tryz.prog gl 170 [s.av] (fun r y H'=>y=.hs r 2 0 (jh s).length∧H' r=some (.row 2 (j9 (jh s)))):=by
 have hrl:=s.reads_len
 have hw5:IntKind.i64.wrap ((s.reads.length:Int) - 1)=(s.reads.length:Int) - 1:=wrp (by omega) (by omega)
 obtain⟨kd,to,a,c⟩:=s
 simp only at hkd
 refine qV.of_sem Tryz.func170 rfl (by kernel_rfl) (rs:=[.tmp 2]) rfl Tryz.ntmps170 (lB rfl) fun C w g root=>?_
 rcases qLd hkd with rfl|rfl|rfl|rfl|rfl|rfl|rfl|rfl|rfl|rfl|rfl|rfl
 case inr.inr.inr.inr.inr.inl =>
  have hrd:(⟨5,to,a,c⟩:Stm).reads=if c=-1 then [a] else [a,c]:=by simp [Stm.reads]
  rw [hrd] at hw5
  have hcr:=qDl gl a c
  generalize hL:(if c=-1 then [a] else [a,c])=L at hw5 hcr hrd
  have fx:= hw5
  have c1:=jI gl ⟨5,to,a,c⟩
  have d1:=hcr
  refine qB ?_
  clear fx c1 d1
  refine zY (t:=2) ?_ ?_ ?_
  all_goals simp [jh,j9,hrd]
 all_goals
  all_goals have fx:=fx0
  repeat' (first
   | refine qf ?_|refine qS ?_|refine q7 ?_|refine qj fun K hK=>?_
   | ((with_reducible refine qc hK ?_);clear hK K)
   | (with_reducible first|refine qD ?_|refine qb ?_|refine qP ?_|refine zK ?_)
   | refine qw ?_
   | (with_reducible first|refine qO ?_|refine qG (h:=?_)|refine zp (h:=?_)|refine zk (h:=?_)|refine qp (h:=?_)|refine jp (h:=?_))
   | ((with_reducible refine z7 108 rfl ?_);refine qM (hF:=jI _ ⟨_,to,a,c⟩) (h:=?_))
   | (with_reducible refine x_q (h:=?_))
   | refine qR (h1:=?_)|refine qg (h1:=?_)
   | fail)
  all_goals try clear fx
  refine zY (t:=2) ?_ ?_ ?_
  all_goals simp [jh,j9]
theorem qCl (gl:Nat→Option (List AV)) (hgl:gl 0=some kn) (p:Prg) (b:Nat) (k:Blk) (s:Stm) (hp:ShapeP p) (hk:p[b]?=some k) (hsm:s∈k.body):qV Tryz.prog gl 146 [qAD p,iv b,s.av] (fun r y H'=>y=.hs r 2 0 (vC p b s).length∧H' r=some (.row 2 (j9 (vC p b s)))):=by
 have hrl:=s.reads_len
 have hn:=hp.names k (gM hk)
 have hkd:=hn.kinds s hsm
 obtain⟨ht0,ht7⟩:=hn.tos s hsm
 obtain⟨T,hT⟩:∃ T:Nat,s.to=T:=⟨s.to.toNat,by omega⟩
 have hT8:T<8:=by omega
 have hav:s.av=.agg [iv s.kind,iv T,iv s.a,iv s.b]:=by rw [← hT]
 rw [qFa]
 refine qV.of_sem Tryz.func146 rfl (by kernel_rfl) (rs:=[.tmp 6]) rfl Tryz.ntmps146 (lB rfl) fun C w g root=>?_
 all_goals have fx:=fx0
 repeat' (first
  | refine qf ?_|refine qS ?_|refine q7 ?_|refine qj fun K hK=>?_
  | ((with_reducible refine qc hK ?_);clear hK K)
  | (with_reducible first|refine qD ?_|refine qb ?_|refine qu ?_|refine zr ?_|refine qP ?_|refine zK ?_|refine zP (by decide) ?_)
  | refine jS ?_
  | refine qw ?_
  | (with_reducible first|refine qO ?_|refine qG (h:=?_)|refine zp (h:=?_)|refine jA (T:=150) (h:=?_)|refine jP (T:=150) (h:=?_)|refine jp (h:=?_))
  | ((with_reducible refine z7 108 rfl ?_);refine qM (hF:=jI _ s) (h:=?_))
  | (refine qPO (hF:=qFr _ (by kernel_rfl) s hkd) (h:=?_))
  | (with_reducible refine x_q (h:=?_))
  | refine qR (h1:=?_)|refine qg (h1:=?_)
  | fail)
 all_goals try clear fx
 refine qY (fun n st=>∃ i:Nat,n=s.reads.length - i∧i≤s.reads.length∧st.tm 0=qAD p∧st.tm 1=iv b∧st.tm 5=.pt (.s 5) 0∧st.hp (.s 5)=some (.row 4 [s.cells])∧st.tm 14=.hs (.s 14) 1 0 s.reads.length∧st.hp (.s 14)=some (.row 1 (qJ s.reads))∧st.tm 15=iv s.reads.length∧st.tm 16=iv i∧st.tm 7=.hs (.s 7) 2 0 (qH2 p b s i).length∧st.hp (.s 7)=some (.row 2 (j9 (qH2 p b s i)))) s.reads.length ?_ ?_
 ·exact⟨0,by omega,by omega,by simp,by simp,by simp,by simp,by simp,by simp,by simp,by simp,by simp,by simp [j9]⟩
 rintro n st - - ⟨i,rfl,hi,h0,h1,h5,hp5,h14,hp14,h15,h16,h7,hp7⟩
 have hll:(qH2 p b s i).length≤10:=by simp;omega
 by_cases hil:i<s.reads.length
 ·obtain⟨u,hu⟩:∃ u,s.reads[i]?=some u:=⟨_,gE hil⟩
  obtain⟨_,huE⟩:=gS hu
  obtain⟨hu0,hu7⟩:=hn.reads s hsm u (gM hu)
  obtain⟨U,rfl⟩:∃ U:Nat,u=U:=⟨u.toNat,by omega⟩
  have hnx:=qGF (p:=p) (b:=b) hu
  generalize hL:qH2 p b s i=L at h7 hp7 hnx hll
  have fx:=aI h0<|aI h1<|aI h5<|aI hp5<|aI h14<|aI hp14<|aI h15<|aI h16<|aI h7<|aI hp7<|aI hu<|aI huE<|aI hil<|hll
  have c1:=qAB gl hgl p hp b k hk U (by omega) 0 (by decide) (by decide)
  refine qB ?_
  clear fx c1
  refine⟨s.reads.length - (i+1),by omega,i+1,rfl,by omega,by simp [h0],by simp [h1],by simp [h5],by simp [hp5],by simp [h14],by simp [hp14],by simp [h15],by simp;exact wrp (by omega) (by omega),by simp [hnx],?_⟩
  rw [hnx]
  simp [j9]
 ·have hge:i=s.reads.length:=by omega
  rw [hge] at h7 hp7 hll
  have hwl:=qF3 s
  generalize hL:qH2 p b s s.reads.length=L at h7 hp7 hll
  by_cases hk11:s.kind=11
  ·have vJ:kD p b s=[zG p b T 2]:=by simp [kD,hk11,hT]
   rw [vJ]
   generalize hWL:jh s=WL at hwl
   have hwo:=qAk gl s hkd
   rw [hWL,hav] at hwo
   have hk11':(s.kind==11)=true:=by simpa using hk11
   have fx:=aI h0<|aI h1<|aI h5<|aI hp5<|aI h14<|aI hp14<|aI h15<|aI h16<|aI h7<|aI hp7<|aI hil<|aI hge<|aI hll<|aI hwl<|aI hk11'<|hT
   have d1:=hwo
   have c1:=qAB gl hgl p hp b k hk T hT8 2 (by decide) (by decide)
   refine qB ?_
   clear fx d1 c1
   refine zY (t:=6) ?_ ?_ ?_
   all_goals simp [uV,List.take_append,List.take_of_length_le,Nat.add_assoc]
  ·have hk11':(s.kind==11)=false:=by simpa using hk11
   by_cases vJ:0≤s.kind∧s.kind≤6
   ·have hsl:kD p b s=[zG p b T 1]:=by simp [kD,hk11,hT,vJ]
    rw [hsl]
    generalize hWL:jh s=WL at hwl
    have hwo:=qAk gl s hkd
    rw [hWL,hav] at hwo
    have hbi:=qFK gl s
    rw [decide_eq_true (.inl vJ:s.sets∨s.kind=11),hav] at hbi
    have fx:=aI h0<|aI h1<|aI h5<|aI hp5<|aI h14<|aI hp14<|aI h15<|aI h16<|aI h7<|aI hp7<|aI hil<|aI hge<|aI hll<|aI hwl<|aI hk11'<|hT
    have d1:=hwo
    have c1:=hbi
    have c2:=qAB gl hgl p hp b k hk T hT8 1 (by decide) (by decide)
    refine qB ?_
    clear fx d1 c1 c2
    refine zY (t:=6) ?_ ?_ ?_
    all_goals simp [uV,List.take_append,List.take_of_length_le,Nat.add_assoc]
   ·have hsl:kD p b s=[]:=by simp only [kD,if_neg hk11,if_neg vJ]
    rw [hsl]
    generalize hWL:jh s=WL at hwl
    have hwo:=qAk gl s hkd
    rw [hWL] at hwo
    have hbi:=qFK gl s
    rw [decide_eq_false (fun h:s.sets∨s.kind=11=>h.elim vJ hk11)] at hbi
    have fx:=aI h0<|aI h1<|aI h5<|aI hp5<|aI h14<|aI hp14<|aI h15<|aI h16<|aI h7<|aI hp7<|aI hil<|aI hge<|aI hll<|aI hwl<|hk11'
    have d1:=hwo
    have c1:=hbi
    refine qB ?_
    clear fx d1 c1
    refine zY (t:=6) ?_ ?_ ?_
    all_goals simp [uV,List.take_append,List.take_of_length_le,Nat.add_assoc]
end Go.Proofs.YtbgmnmnoaamgkaaGreatDoor
end
section

end
section
namespace Go.Proofs.YtbgmnmnoaamgkaaGreatDoor
open Go Go.Hm Go.Proofs
abbrev qRI:Sch:=.q 0<|.q 1<|.q 2<|.q 3<|.q 5<|.q 6<|.q 8<|.q 9<|.q 12<|.q 13<|.l2 4 [13,12,9,8,6,5,1,0] (.l2 7 [13,12,9,8,1,0] (.l2 10 [13,12,1,0] (.l2 11 [13,12,1,0] (.l2 14 [1,0] (.q 15<|.l 16 [15,1,0]<|.l 17 []<|.done) 16 [13,12,1,0] (.l 14 [1,0]<|.q 15<|.l 17 []<|.done)) 16 [13,12,1,0] (.l 11 [13,12,1,0]<|.l 14 [1,0]<|.q 15<|.l 17 []<|.done)) 16 [13,12,9,8,1,0] (.l 10 [13,12,1,0]<|.l 11 [13,12,1,0]<|.l 14 [1,0]<|.q 15<|.l 17 []<|.done)) 16 [13,12,9,8,6,5,1,0] (.l 7 [13,12,9,8,1,0]<|.l 10 [13,12,1,0]<|.l 11 [13,12,1,0]<|.l 14 [1,0]<|.q 15<|.l 17 []<|.done)) 16 [13,12,9,8,6,5,3,2,1,0] (.l 4 [13,12,9,8,6,5,1,0]<|.l 7 [13,12,9,8,1,0]<|.l 10 [13,12,1,0]<|.l 11 [13,12,1,0]<|.l 14 [1,0]<|.q 15<|.l 17 []<|.done)
abbrev qRH:Sch:=.q 0<|.q 1<|.q 2<|.q 3<|.q 4<|.l 5 [1,0]<|.l 6 []<|.q 7<|.l 8 []<|.done
theorem qHb (gl) (p:Prg) (hp:ShapeP p) (b:Nat) (k:Blk) (hk:p[b]?=some k):qV Tryz.prog gl 145 [qAD p,iv b] (fun r y H'=>y=.hs r 1 0 (qI p b).length∧H' r=some (.row 1 (qJ (qI p b)))):=by
 by_cases hk1:k.kind=1
 ·exact qDj gl p hp b k hk hk1
 have hh:=hp.heads
 obtain⟨hbl,hbE⟩:=gS hk
 have hka:qi p b=k.kind:=by simp [qi,hk]
 have hsg:=yX (p:=p) hbl
 rw [jG hh hk] at hsg
 obtain⟨_,hse⟩:=gS hsg
 have hc:qI p b=[]:=by simp [qI,hka,hk1]
 have hkd:(k.kind==1)=false:=by simpa using hk1
 rw [hc]
 refine qV.of_sem Tryz.func145 rfl (by kernel_rfl) (rs:=[.tmp 4]) rfl Tryz.ntmps145 (lB rfl) fun C w g root=>?_
 have fx:=aI hsg<|aI hse<|aI hkd<|aI hbl<|@zU
 refine qB ?_
 clear fx
 exact zY (t:=4) (by first|(simp [];done)|(simp [];rfl)) (by first|(simp [];done)|(simp [];rfl)) (by simp)
theorem qB5 (gl) (p:Prg) (b:Nat):qV Tryz.prog gl 51 [.agg (jQ (qE p b))] (fun r z H'=>z=.hs r 1 0 (qE p b).length∧H' r=some (.row 1 (qJ (qE p b)))):=by
 have hli:=qEi gl (qE p b)
 rw [qBK] at hli
 exact hli
theorem wI (gl:Nat→Option (List AV)) (hgl:gl 0=some kn) (p:Prg) (hp:ShapeP p) (b:Nat) (k:Blk) (hk:p[b]?=some k):qV Tryz.prog gl 111 [pav p,qAD p,iv b] (fun r y H'=>y=.agg ((q8 p b).own r 0)∧OwnK H' r 0 (q8 p b)):=by
 have hl7:=hp.len.2
 have hkm:=gM hk
 obtain⟨hbl,hbE⟩:=gS hk
 have hk12:=hp.body k hkm
 obtain⟨hpl,_⟩:=hp.sml.bsm hk
 have hcode:q8 p b=⟨k.kind,k.params,qI p b,qE p b,qU p b,yE p b k.body⟩:=by simp [q8,jO,hk]
 have hfl:=yv (p:=p) (b:=b)
 have hcl:=zV (p:=p) (b:=b)
 have hrl:=jW (p:=p) (b:=b)
 rw [hcode]
 refine qV.of_sem Tryz.func111 rfl (by kernel_rfl) (rs:=[.cell 6 152]) rfl Tryz.ntmps111 (lB rfl) fun C w g root=>?_
 have fx:=aI hk<|aI hbE<|aI hbl<|hpl
 have c1:=va gl p hp b k hk
 have d1:=qHb gl p hp b k hk
 have d2:=qB5 gl p b
 have d3:=qBG gl p hp b hbl
 refine qB ?_
 first|refine wSc (id:=2) qRI qA ?_|refine wSc (id:=6) qRH qA ?_
 refine qP0 (fun st=>st.tm 1=qAD p∧st.tm 2=iv b∧st.tm 6=.pt (.s 6) 0∧st.hp (.s 6)=some (.row 6 [kW.own (.s 6) 0])∧st.tm 8=.pt (.s 8) 0∧st.tm 33=ssl k.body∧st.tm 34=iv k.body.length∧st.tm 35=iv 0∧st.hp (.s 8)=some (.row 6 [Cod.own (.s 8) 0 ⟨k.kind,k.params,qI p b,qE p b,qU p b,[]⟩])∧st.hp (.c (.s 8) 0 1)=some (.row 1 (qJ k.params))∧st.hp (.c (.s 8) 0 2)=some (.row 1 (qJ (qI p b)))∧st.hp (.c (.s 8) 0 3)=some (.row 1 (qJ (qE p b)))∧st.hp (.c (.s 8) 0 4)=some (.row 1 (qJ (qU p b)))∧st.hp (.c (.s 8) 0 5)=some (.row 2 [])) ?_
 clear fx c1 d1 d2 d3
 rintro st ⟨h1,h2,h6,hp6,h8,h33,h34,h35,hp8,q1,q2,q3,q4,q5⟩
 refine qY (fun n st=>∃ i:Nat,n=k.body.length - i∧i≤k.body.length∧st.tm 1=qAD p∧st.tm 2=iv b∧st.tm 6=.pt (.s 6) 0∧st.hp (.s 6)=some (.row 6 [kW.own (.s 6) 0])∧st.tm 8=.pt (.s 8) 0∧st.tm 33=ssl k.body∧st.tm 34=iv k.body.length∧st.tm 35=iv i∧∃ c:Cod,c=⟨k.kind,k.params,qI p b,qE p b,qU p b,yE p b (k.body.take i)⟩∧st.hp (.s 8)=some (.row 6 [c.own (.s 8) 0])∧OwnK st.hp (.s 8) 0 c) k.body.length ?_ ?_
 ·refine⟨0,by omega,by omega,h1,h2,h6,hp6,h8,h33,h34,h35,_,rfl,?_,⟨?_,?_,?_,?_,?_⟩⟩
  all_goals simp [yE,hp8,q1,q2,q3,q4,q5]
 clear h1 h2 h6 hp6 h8 h33 h34 h35 hp8 q1 q2 q3 q4 q5
 rintro n st - - ⟨i,rfl,hi,h1,h2,h6,hp6,h8,h33,h34,h35,c,hc,hp8,⟨o1,o2,o3,o4,o5⟩⟩
 have hll:=qAe (p:=p) (b:=b) (k.body.take i)
 rw [List.length_take] at hll
 by_cases hil:i<k.body.length
 ·obtain⟨s,hss⟩:∃ s,k.body[i]?=some s:=⟨_,gE hil⟩
  obtain⟨_,hsE⟩:=gS hss
  have hnx:=qDm (p:=p) (b:=b) hss
  have hsl:=qCB (p:=p) (b:=b) (s:=s)
  generalize hL:yE p b (k.body.take i)=L at hc hnx hll
  subst hc
  simp only [Cod.own_eq] at hp8 o1 o2 o3 o4 o5
  have fx:=aI h1<|aI h2<|aI h6<|aI hp6<|aI h8<|aI h33<|aI h34<|aI h35<|aI hp8<|aI o1<|aI o2<|aI o3<|aI o4<|aI o5<|aI hss<|aI hsE<|aI hil<|aI hll<|hsl
  have d1:=qCl gl hgl p b k s hp hk (gM hss)
  refine qB ?_
  repeat ((first|refine wSc (id:=2) qRI qA ?_|refine wSc (id:=6) qRH qA ?_);refine qC ?_;refine qB ?_)
  clear fx d1
  refine⟨k.body.length - (i+1),by omega,i+1,rfl,by omega,by simp [h1],by simp [h2],by simp [h6],by simp [hp6],by simp [h8],by simp [h33],by simp [h34],by simp;exact wrp (by omega) (by omega),_,rfl,?_,⟨?_,?_,?_,?_,?_⟩⟩
  all_goals simp [Cod.own,hnx,o1,o2,o3,o4,o5,hp8]
 ·have hge:i=k.body.length:=by omega
  subst hge
  rw [List.take_length] at hc
  subst hc
  simp only [Cod.own_eq] at hp8 o1 o2 o3 o4 o5
  have fx:=aI h1<|aI h2<|aI h6<|aI hp6<|aI h8<|aI h33<|aI h34<|aI h35<|aI hp8<|aI o1<|aI o2<|aI o3<|aI o4<|aI o5<|hil
  refine qB ?_
  repeat ((first|refine wSc (id:=2) qRI qA ?_|refine wSc (id:=6) qRH qA ?_);refine qC ?_;refine qB ?_)
  clear fx
  refine qF [(.s 8,root)] (.one rfl) (by simp [h6];rfl) ⟨?_,⟨?_,?_,?_,?_,?_⟩⟩
  all_goals simp [h6,o1,o2,o3,o4,o5]
theorem qA4 (gl:Nat→Option (List AV)) (hgl:gl 0=some kn) (p:Prg) (hp:ShapeP p):qV Tryz.prog gl 73 [pav p,qAD p] (fun r y H'=>y=.hs r 6 0 (qX p p.length).length∧OwnC H' r (qX p p.length)):=by
 have hl7:=hp.len.2
 refine qV.of_sem Tryz.func73 rfl (by kernel_rfl) (rs:=[.tmp 4]) rfl Tryz.ntmps73 (lB rfl) fun C w g root=>?_
 have fx:=fx0
 refine qB ?_
 clear fx
 refine qY (fun n st=>∃ i:Nat,n=p.length - i∧i≤p.length∧st.tm 1=qAD p∧st.tm 2=.pt (.s 2) 0∧st.hp (.s 2)=some (.row 1 [[ksl p]])∧st.tm 9=iv p.length∧st.tm 10=iv i∧∃ cs:List Cod,cs=qX p i∧cs.length=i∧st.tm 5=.hs (.s 5) 6 0 cs.length∧OwnC st.hp (.s 5) cs) p.length ?_ ?_
 ·refine⟨0,by omega,by omega,by simp,by simp,by simp,by simp,by simp,[],by simp,rfl,by simp,⟨by simp,fun i c h=>by simp at h⟩⟩
 rintro n st - - ⟨i,rfl,hi,h1,h2,hp2,h9,h10,cs,hcs,hcl,h5,⟨ht,he⟩⟩
 by_cases hil:i<p.length
 ·obtain⟨k,hk⟩:∃ k,p[i]?=some k:=⟨_,gE hil⟩
  have hnx:=qB4 (p:=p) (n:=i)
  have hcc:=wI gl hgl p hp i k hk
  rw [← hcs] at hnx
  generalize hC:q8 p i=c at hcc hnx
  have hcl7:cs.length≤7:=by omega
  have fx:=aI h1<|aI h2<|aI hp2<|aI h9<|aI h10<|hil
  have e1:=hcc
  refine qB ?_
  clear fx e1
  rintro K hK y H' ⟨rfl,hO⟩
  obtain⟨o1,o2,o3,o4,o5⟩:=hO.hcln
  refine⟨by simp,?_⟩
  have fx:=aI h1<|aI h2<|aI hp2<|aI h9<|aI h10<|aI h5<|aI ht<|aI hcl7<|aI o1<|aI o2<|aI o3<|aI o4<|o5
  refine qB ?_
  clear fx
  refine⟨p.length - (i+1),by omega,i+1,rfl,by omega,by simp [h1],by simp [h2],by simp [hp2],by simp [h9],by simp;exact wrp (by omega) (by omega),cs++[c],hnx.symm,by simp [hcl],by simp,⟨?_,fun j d hj=>?_⟩⟩
  ·simp [ht,qDf]
  ·rcases Nat.lt_or_ge j cs.length with hlj|hgj
   ·rw [List.getElem?_append_left hlj] at hj
    have hne:¬ j=cs.length:=by omega
    obtain⟨e1,e2,e3,e4,e5⟩:=he j d hj
    exact⟨by simp [hne,e1],by simp [hne,e2],by simp [hne,e3],by simp [hne,e4],by simp [hne,e5]⟩
   ·rw [List.getElem?_append_right hgj] at hj
    obtain rfl:j=cs.length:=by
     have:=(gS hj).1
     simp at this
     omega
    simp at hj
    subst hj
    exact⟨by simp [o1],by simp [o2],by simp [o3],by simp [o4],by simp [o5]⟩
 ·have hge:i=p.length:=by omega
  subst hge
  subst hcs
  have fx:=aI h1<|aI h2<|aI hp2<|aI h9<|aI h10<|aI hil<|aI h5<|ht
  refine qB ?_
  clear fx
  refine qF [(.s 4,root)] (.one rfl) (by simp;rfl) ⟨by simp,⟨by simp [ht,uY (n:=.s 4) (m:=root) (f:=zu noD [(.s 4,root)]) (by simp)],fun j d hj=>?_⟩⟩
  obtain⟨e1,e2,e3,e4,e5⟩:=he j d hj
  exact⟨by simp [e1],by simp [e2],by simp [e3],by simp [e4],by simp [e5]⟩
end Go.Proofs.YtbgmnmnoaamgkaaGreatDoor
end
section

end
section
namespace Go.Proofs.YtbgmnmnoaamgkaaGreatDoor
open Go Go.Hm Go.Proofs
attribute [local simp] qCH kO
theorem qL0 (gl) (l:List (Int×Int)) (A:Nat) (hA:A<l.length) (hl:l.length≤1000):qV Tryz.prog gl 172 [osl l,iv A] (fun _ y _=>y=iv ((j7 (l.take (A+1)):Int) - 1)):=by
 have hw:IntKind.i64.wrap ((A:Int)+1)=((A+1:Nat):Int):=by rw [wrp (by omega) (by omega)];rfl
 have hA1:A+1≤l.length:=by omega
 have hmin:min (A+1) l.length=A+1:=Nat.min_eq_left hA1
 generalize hB:A+1=B at hw hA1 hmin
 refine qV.of_sem Tryz.func172 rfl (by kernel_rfl) (rs:=[.tmp 4]) rfl Tryz.ntmps172 (lB rfl) fun C w g root=>?_
 have fx:=aI hw<|aI hA1<|hmin
 refine qB ?_
 clear fx
 refine qY (fun n st=>∃ i:Nat,n=B - i∧i≤B∧st.tm 11=osl (l.take B)∧st.tm 12=iv B∧st.tm 13=iv i∧st.tm 5=iv ((j7 (l.take i):Int) - 1)) B ?_ ?_
 ·exact⟨0,by omega,by omega,by simp,by simp [hmin],by simp,by simp [j7]⟩
 rintro n st - - ⟨i,rfl,hi,h11,h12,h13,h5⟩
 by_cases hil:i<B
 ·have hil2:i<l.length:=by omega
  obtain⟨o,ho⟩:∃ o,l[i]?=some o:=⟨_,gE hil2⟩
  have ho2:(l.take B)[i]?=some o:=by rw [List.getElem?_take,if_pos hil,ho]
  obtain⟨hoL,hoE⟩:=gS ho2
  have htk:=ku ho
  have htl:j7 (l.take i)≤i:=Nat.le_trans qIB (by simp;omega)
  have hLl:(l.take B).length=B:=by simp;omega
  generalize l.take B=L at h11 ho2 hoL hoE hLl ⊢
  generalize j7 (l.take i)=T at h5 htk htl
  have hwT:IntKind.i64.wrap ((T:Int) - 1+1)=(T:Int):=by
   rw [show (T:Int) - 1+1=T by omega]
   exact wrp (by omega) (by omega)
  cases ho0:(o.1==0)
  ·have e0:¬ o.1=0:=by simpa using ho0
   have fx:=aI h11<|aI h12<|aI h13<|aI h5<|aI ho2<|aI hoE<|aI hoL<|aI hil<|ho0
   refine qB ?_
   clear fx
   exact⟨B - (i+1),by omega,i+1,rfl,by omega,by simp [h11],by simp [h12],by simp;exact wrp (by omega) (by omega),by simp [htk,e0,h5]⟩
  ·have e0:o.1=0:=by simpa using ho0
   have e1:((T+1:Nat):Int) - 1=T:=by omega
   have hwT':IntKind.i64.wrap (T:Int)=(T:Int):=wrp (by omega) (by omega)
   have fx:=aI h11<|aI h12<|aI h13<|aI h5<|aI ho2<|aI hoE<|aI hoL<|aI hil<|aI ho0<|hwT
   refine qB ?_
   clear fx
   refine⟨B - (i+1),by omega,i+1,rfl,by omega,by simp [h11],by simp [h12],by simp;exact wrp (by omega) (by omega),?_⟩
   rw [htk,if_pos e0,e1]
   simp [hwT']
 ·have hge:i=B:=by omega
  have fx:=aI h11<|aI h12<|aI h13<|aI h5<|hil
  refine qB ?_
  clear fx
  refine qF [] .nil (by simp;rfl) ?_
  rw [← hge]
  simp
end Go.Proofs.YtbgmnmnoaamgkaaGreatDoor
end
section
namespace Go.Proofs.YtbgmnmnoaamgkaaGreatDoor
open Go Go.Hm Go.Proofs
abbrev qQs:Sch:=.q 0<|.q 1<|.q 2<|.q 3<|.q 4<|.q 5<|.q 6<|.q 7<|.q 8<|.q 9<|.q 10<|.q 11<|.q 12<|.q 13<|.q 14<|.q 15<|.l 16 [11,6,5,4,2,1,0]<|.l 17 []<|.done
abbrev qQr:Sch:=.q 0<|.q 1<|.q 2<|.q 3<|.q 4<|.q 5<|.q 6<|.q 7<|.q 8<|.q 9<|.q 10<|.l 11 [5,4,3,2,1,0]<|.l 12 [5,0]<|.q 13<|.q 14<|.l 15 []<|.done
theorem qHs (gl) (H:Nm→Option AO) (p:Prg) (m:Mch) (fs:List Frm) (f:Frm) (o:Int×Int) (ho:(jO p f.blk)[f.pc - 1]?=some o) (ho0:o.1=0) (hb:f.blk<p.length) (hp7:p.length≤7) (he:m.en=0) (hfl:fs.length≤150) (hlf:m.left≤150) (htl:m.trace.length≤1000) (hpc1:1≤f.pc) (hpc:f.pc≤(jO p f.blk).length) (hol:(jO p f.blk).length≤60) (hO:OwnY H p (m.top fs f)) :
  FnE Tryz.prog gl 149 DM [.pt Yn 0,.pt Yn (yo fs.length)] H (fun _ y H'=>y=bv (decide ((vq p m fs f).en=0))∧OwnY H' p (vq p m fs f)) noE:=by
 obtain⟨R,j,hT,tr,h2,h3,h28⟩:=hO.topT rfl (by omega)
 have hRl:=tr.len
 have r2:=tr.r2
 have r0:=tr.r0
 have f0:=tr.f0
 have f1:=tr.f1
 obtain⟨r2l,r2E⟩:=gS r2
 simp only [Mch.top] at r2 r2E
 refine FnE.of_sem Tryz.func149 rfl (by kernel_rfl) (rs:=[.tmp 4]) rfl Tryz.ntmps149 (lB rfl) (fun _=>qH) fun C w g root hroot=>?_
 by_cases hl:m.left=0
 ·have ht:vq p m fs f=m.stop fs f 1:=by simp only [vq,hl,if_true]
  rw [ht]
  have fx:=aI hT<|aI r2<|aI r2E<|aI hRl<|hl
  refine qB ?_
  repeat ((first|refine wSc (id:=4) qQs qA ?_|refine wSc (id:=5) qQr qA ?_);refine qC ?_;refine qB ?_)
  clear fx
  intro K hK
  have fx:=fx0
  refine qQ hO (have h:=hO;OwnY.re h) (Nat.le_refl _) (hF:=fun hO=>yL gl DM (fun _=>qH) _ R 1 (by simp [hT]) hRl) (h:=?_)
  rintro y H1 hw
  clear fx
  have hO1:=OwnY.wrp (OwnY.stopped (e:=1) (have h:=hO;OwnY.re h) rfl (by simp [hT])) hw
  obtain⟨rfl,-⟩:=hw
  have fx:=fx0
  refine qB ?_
  repeat ((first|refine wSc (id:=4) qQs qA ?_|refine wSc (id:=5) qQr qA ?_);refine qC ?_;refine qB ?_)
  clear fx
  refine qF [] .nil (by simp;rfl) ⟨by simp,OwnY.fin (have h:=hO1;OwnY.re h)⟩
 ·obtain⟨l,hll⟩:∃ l,m.left=l+1:=⟨m.left - 1,by omega⟩
  have ht:vq p m fs f={ m.top fs f with left:=l,trace:=m.trace++[(f.blk,j7 ((jO p f.blk).take (f.pc - 1)))] }:=by
   simp only [vq,hl,if_false,hll]
   rfl
  rw [ht]
  have hlb:((l:Int)+1==0)=false:=by rw [beq_eq_false_iff_ne];omega
  have hwl:IntKind.i64.wrap (l:Int)=l:=wrp (by omega) (by omega)
  have fx:=aI hT<|aI r2<|aI r2E<|aI hRl<|aI hll<|aI hlb<|hwl
  refine qB ?_
  clear fx
  refine yd (fun s=>s.tm 0=.pt Yn 0∧s.tm 1=.pt Yn (yo fs.length)∧OwnY s.hp p ({ m with left:=l }.top fs f)) ⟨by simp,by simp,?_⟩ ?_
  ·have h:=hO
   exact OwnY.reT h rfl rfl rfl (qBO (R':=spl R 2 [iv l]) hT (by simp [spl]) (fun J hJ e=>by rw [e];exact qS8)) (h6t:=by simp [h2]) (h7t:=by simp [h3]) (h8t:=⟨j,by simp [h28]⟩)
  clear hT tr r2E r2l r2 r0 f0 f1 hRl h2 h3 h28 hO j R
  rintro s ⟨t0,t1,hO⟩
  obtain⟨R,j,hT,tr,h2,h3,h28⟩:=hO.topT rfl (by omega)
  have hRl:=tr.len
  have r5:=tr.r5
  have r0:=tr.r0
  have f0:=tr.f0
  have f1:=tr.f1
  simp only [Mch.top] at r5
  obtain⟨_,r5E⟩:=gS r5
  obtain⟨_,r0E⟩:=gS r0
  obtain⟨f0l,f0E⟩:=gS f0
  obtain⟨f1l,f1E⟩:=gS f1
  have hcd:(qX p p.length)[f.blk]?=some (q8 p f.blk):=by simp [qX,hb]
  obtain⟨hcdl,hcdE⟩:=gS hcd
  obtain⟨k,hk⟩:∃ k,p[f.blk]?=some k:=⟨_,gE hb⟩
  have hco:(q8 p f.blk).ops=jO p f.blk:=by simp [q8,hk]
  have hpw:IntKind.i64.wrap ((f.pc:Int) - 1)=((f.pc - 1:Nat):Int):=by rw [wrp (by omega) (by omega)];omega
  have hla:=qL0 gl (jO p f.blk) (f.pc - 1) (by omega) (by omega)
  have hpe:f.pc - 1+1=f.pc:=by omega
  rw [hpe] at hla
  have hTr:=hO.trc
  have fx:=aI t0<|aI t1<|aI hT<|aI r0<|aI r0E<|aI r5<|aI r5E<|aI f0<|aI f0E<|aI f0l<|aI f1<|aI f1E<|aI f1l<|aI hcd<|aI hcdl<|aI hcdE<|aI hco<|aI hpw<|aI hRl<|aI hTr<|htl
  have c1:=hla
  refine qB ?_
  repeat ((first|refine wSc (id:=4) qQs qA ?_|refine wSc (id:=5) qQr qA ?_);refine qC ?_;refine qB ?_)
  clear fx c1
  have htk:((j7 ((jO p f.blk).take f.pc):Nat):Int) - 1=j7 ((jO p f.blk).take (f.pc - 1)):=by
   have:=ku ho
   rw [hpe,if_pos ho0] at this
   rw [this]
   omega
  have hap:jq m.trace++[[iv f.blk,iv (((j7 ((jO p f.blk).take f.pc):Nat):Int) - 1)]]=jq (m.trace++[(f.blk,j7 ((jO p f.blk).take (f.pc - 1)))]):=by rw [htk];exact qD9
  refine qF [] .nil (by simp;rfl) ⟨by simp [Mch.top,he],OwnY.fin ?_⟩
  have h:=hO
  exact OwnY.reT h rfl rfl rfl (qET hT (by simp;rfl) (fun J hJ e=>by rw [e];simp only [km];exact qXj (m.trace++[(f.blk,j7 ((jO p f.blk).take (f.pc - 1)))]) hJ (by simp) (fun j hj=>by simp [hj]))) (h3:=by simp [← hap]) (h6t:=by simp [h2]) (h7t:=by simp [h3]) (h8t:=⟨j,by simp [h28]⟩)
theorem kr (gl) (H:Nm→Option AO) (p:Prg) (m:Mch) (fs:List Frm) (f:Frm) (o:Int×Int) (off wy:Nat) (e:Int) (hW:WrY p m fs f o off) (hm0:m.en=0) (he:e≠0) (hwy:wy≤2) (hfl:fs.length≤150) (hst:wy=1→1≤f.stack.length) (hsl:f.stack.length≤1000) (hO:OwnY H p (m.top fs f)) :
  FnE Tryz.prog gl 150 DM [.pt Yn 0,.pt Yn (yo fs.length),.pt Yn off,iv wy,iv e] H (fun _ y H'=>y=bv (decide ((zf m fs f o wy e).en=0))∧OwnY H' p (zf m fs f o wy e)) noE:=by
 obtain⟨R,j,hT,tr,h2,h3,h28⟩:=hO.topT rfl (by omega)
 have hRl:=tr.len
 have f28:=tr.f28
 have hle:=hW.le
 have hrd:=hW.rd f R rfl tr
 have s0:=hrd 0 (by omega)
 have s1:=hrd 1 (by omega)
 have s2:=hrd 2 (by omega)
 rw [Nat.add_zero] at s0
 have yoh:yo fs.length+29≤4415:=by simp only [yo];omega
 refine FnE.of_sem Tryz.func150 rfl (by kernel_rfl) (rs:=[.tmp 10]) rfl Tryz.ntmps150 (lB rfl) (fun _=>qH) fun C w g root hroot=>?_
 by_cases w1:wy=1
 ·subst w1
  have hres:zf m fs f o 1 e=setS m fs f.pop o (some f.tos):=rfl
  rw [hres]
  obtain⟨k,hk⟩:∃ k,f.stack.length=k+1:=⟨f.stack.length - 1,by have:=hst rfl;omega⟩
  rw [hk] at f28
  obtain⟨G,hG,g1,g2,g3,c1,c2,c3,c4,c5,c6,hR⟩:=hW.wr f.pop (some f.tos) rfl rfl
  have fx:= hT
  refine qB ?_
  clear fx
  intro K hK
  have fx:=fx0
  refine qQ hO (have h:=hO;OwnY.re h) (Nat.le_refl _) (hF:=fun _=>uG gl DM (fun _=>qH) _ R (yo fs.length) k (f.stack++j) f.tos (by simp [hT]) f28 (by simp [h28]) (j8 hk) (by omega) yoh) (h:=?_)
  intro y H1 hw
  clear fx
  have hO1:=OwnY.wrp (OwnY.popped (m:=m.top fs f) (have h:=hO;OwnY.re h) rfl (by omega) (by simp [hT]) hk) hw
  obtain⟨rfl,-⟩:=hw
  obtain⟨R1,j1,hT1,tr1,h21,h31,h281⟩:=OwnY.topT (f:=f.pop) hO1 rfl (by omega)
  have hR1l:=tr1.len
  generalize hv:f.tos=v at *
  obtain⟨v1,v2⟩:=v
  have fx:=aI hT<|aI hT1<|aI hR1l<|hle
  refine qB ?_
  clear fx
  refine qF [] .nil (by simp;rfl) ⟨by simp [c6,hm0],OwnY.fin ?_⟩
  have h:=hO1
  exact OwnY.reT h rfl hG (by rw [c1];rfl) (qBO (R':=spl R1 off (zx (some (v1,v2)))) hT1 (by simp [spl]) (fun J hJ e=>by rw [e];exact hR J hJ)) (h2:=by simp [h.out,c2]) (h3:=by simp [h.trc,c3]) (h4:=by simp [h.funs,c4]) (h5:=by simp [h.clss,c5]) (h6t:=by simp [h21,g1]) (h7t:=by simp [h31,g2]) (h8t:=⟨j1,by simp [h281,g3]⟩) (h9:=by rw [c1];intro c s hc;simp [h.cell c s hc])
 ·have w1':((wy:Int)==1)=false:=by rw [beq_eq_false_iff_ne];omega
  cases hs:qA5 m f o with
  | none =>
   have hres:zf m fs f o wy e=m.stop fs f e:=by simp only [zf,if_neg w1,hs]
   rw [hres]
   rw [hs] at s0
   simp only [uS,List.getElem?_cons_zero] at s0
   obtain⟨s0l,s0E⟩:=gS s0
   have fx:=aI w1'<|aI hT<|aI s0<|aI s0E<|aI s0l<|aI hRl<|hle
   refine qB ?_
   clear fx
   intro K hK
   have fx:=fx0
   refine qQ hO (have h:=hO;OwnY.re h) (Nat.le_refl _) (hF:=fun _=>yL gl DM (fun _=>qH) _ R e (by simp [hT]) hRl) (h:=?_)
   intro y H1 hw
   clear fx
   have hO1:=OwnY.wrp (OwnY.stopped (m:=m.top fs f) (e:=e) (have h:=hO;OwnY.re h) rfl (by simp [hT])) hw
   obtain⟨rfl,-⟩:=hw
   have fx:=fx0
   refine qB ?_
   clear fx
   refine qF [] .nil (by simp;rfl) ⟨by simp [Mch.stop,he],OwnY.fin (have h:=hO1;OwnY.re h)⟩
  | some v =>
   obtain⟨v1,v2⟩:=v
   rw [hs] at s0 s1 s2
   simp only [uR,List.getElem?_cons_zero,List.getElem?_cons_succ] at s0 s1 s2
   obtain⟨s0l,s0E⟩:=gS s0
   have s12:=kv s1 s2
   have hle2:off+1+2≤4415:=by omega
   by_cases w0:wy=0
   ·subst w0
    have hres:zf m fs f o 0 e=m.top fs (f.push (v1,v2)):=by simp only [zf,if_neg w1,hs,if_true]
    rw [hres]
    have fx:=aI w1'<|aI hT<|aI s0<|aI s0E<|aI s0l<|aI s12<|aI hRl<|hle2
    refine qB ?_
    clear fx
    intro K hK
    have fx:=aI hT s12
    refine qQ hO (have h:=hO;OwnY.re h) (Nat.le_refl _) (hF:=fun _=>jj gl DM (fun _=>qH) _ R (yo fs.length) f.stack j (v1,v2) rfl rfl (by simp [hT]) f28 (by simp [h28]) hsl yoh) (h:=?_)
    intro y H1 hw
    clear fx
    have hO1:=OwnY.pushed (m:=m.top fs f) (by exact (have h:=hO;OwnY.re h)) rfl (by omega) rfl (by simp [hT]) hw
    have fx:=fx0
    refine qB ?_
    clear fx
    refine qF [] .nil (by simp;rfl) ⟨by simp [Mch.top,hm0],OwnY.fin (have h:=hO1;OwnY.re h)⟩
   ·have hres:zf m fs f o wy e=setS m fs f o none:=by simp only [zf,if_neg w1,hs,if_neg w0]
    rw [hres]
    have w0':((wy:Int)==0)=false:=by rw [beq_eq_false_iff_ne];omega
    obtain⟨G,hG,g1,g2,g3,c1,c2,c3,c4,c5,c6,hR⟩:=hW.wr f none rfl rfl
    have fx:=aI w1'<|aI w0'<|aI hT<|aI s0<|aI s0E<|aI s0l<|aI hRl<|hle
    refine qB ?_
    clear fx
    refine qF [] .nil (by simp;rfl) ⟨by simp [c6,hm0],OwnY.fin ?_⟩
    have h:=hO
    exact OwnY.reT h rfl hG (by rw [c1];rfl) (qBO (R':=spl R off (zx none)) hT (by simp [spl]) (fun J hJ e=>by rw [e];exact hR J hJ)) (h2:=by simp [h.out,c2]) (h3:=by simp [h.trc,c3]) (h4:=by simp [h.funs,c4]) (h5:=by simp [h.clss,c5]) (h6t:=by simp [h2,g1]) (h7t:=by simp [h3,g2]) (h8t:=⟨j,by simp [h28,g3]⟩) (h9:=by rw [c1];intro c s hc;simp [h.cell c s hc])
end Go.Proofs.YtbgmnmnoaamgkaaGreatDoor
end
section
namespace Go.Proofs.YtbgmnmnoaamgkaaGreatDoor
open Go Go.Hm Go.Proofs
theorem v4 (gl) (H:Nm→Option AO) (p:Prg) (m:Mch) (fs:List Frm) (f:Frm) (o:Int×Int) (c wy:Nat) (e:Int) (h5:5≤o.1) (h7:o.1≤7) (hc:f.cells.getD o.2.toNat 0=c) (hcl:c<m.cells.length) (hm0:m.en=0) (he:e≠0) (hwy:wy≤2) (hfl:fs.length≤150) (hst:wy=1→1≤f.stack.length) (hsl:f.stack.length≤1000) (hO:OwnY H p (m.top fs f)) :
  FnE Tryz.prog gl 150 DM [.pt Yn 0,.pt Yn (yo fs.length),.pt (En c) 0,iv wy,iv e] H (fun _ y H'=>y=bv (decide ((zf m fs f o wy e).en=0))∧OwnY H' p (zf m fs f o wy e)) noE:=by
 obtain⟨R,j,hT,tr,h2,h3,h28⟩:=hO.topT rfl (by omega)
 have hRl:=tr.len
 have f28:=tr.f28
 have e1:¬ o.1≤4:=by omega
 have vJ:∀ g s,g.cells=f.cells→setS m fs g o s={ m.top fs g with cells:=m.cells.set c s }:=fun g s hg=>by
  simp only [setS,if_neg e1,if_pos h7,hg,hc]
 have yoh:yo fs.length+29≤4415:=by simp only [yo];omega
 obtain⟨s,hs1⟩:∃ s,m.cells[c]?=some s:=⟨_,gE hcl⟩
 have hs:qA5 m f o=s:=by simp [qA5,e1,h7,-List.getD_eq_getElem?_getD,hc,yn,hs1]
 have hE:=hO.cell c s hs1
 have hcs:∀ (s':Slt) (hp':Nm→Option AO),hp' (En c)=some (.row 3 [zx s'])→(∀ c',c'≠c→∀ s,m.cells[c']?=some s→hp' (En c')=some (.row 3 [zx s]))→∀ (c':Nat) s,(m.cells.set c s')[c']?=some s→hp' (En c')=some (.row 3 [zx s]):=by
  intro s' hp' h1 h2 c' s hc'
  rw [List.getElem?_set] at hc'
  by_cases e:c=c'
  ·subst e
   rw [if_pos rfl,if_pos hcl] at hc'
   obtain rfl:=sI hc'
   exact h1
  ·rw [if_neg e] at hc'
   exact h2 c' (fun h=>e h.symm) s hc'
 refine FnE.of_sem Tryz.func150 rfl (by kernel_rfl) (rs:=[.tmp 10]) rfl Tryz.ntmps150 (lB rfl) (fun _=>qH) fun C w g root hroot=>?_
 by_cases w1:wy=1
 ·subst w1
  have hres:zf m fs f o 1 e=setS m fs f.pop o (some f.tos):=rfl
  rw [hres,vJ f.pop _ rfl]
  obtain⟨k,hk⟩:∃ k,f.stack.length=k+1:=⟨f.stack.length - 1,by have:=hst rfl;omega⟩
  rw [hk] at f28
  have fx:= hT
  refine qB ?_
  clear fx
  intro K hK
  have fx:=fx0
  refine qQ hO (have h:=hO;OwnY.re h) (Nat.le_refl _) (hF:=fun _=>uG gl DM (fun _=>qH) _ R (yo fs.length) k (f.stack++j) f.tos (by simp [hT]) f28 (by simp [h28]) (j8 hk) (by omega) yoh) (h:=?_)
  intro y H1 hw
  clear fx
  have hO1:=OwnY.wrp (OwnY.popped (m:=m.top fs f) (have h:=hO;OwnY.re h) rfl (by omega) (by simp [hT]) hk) hw
  obtain⟨rfl,-⟩:=hw
  obtain⟨R1,j1,hT1,tr1,h21,h31,h281⟩:=OwnY.topT (f:=f.pop) hO1 rfl (by omega)
  have hE1:=hO1.cell c s hs1
  generalize hv:f.tos=v at *
  obtain⟨v1,v2⟩:=v
  have hd:(zx s).drop 3=[]:=List.drop_eq_nil_of_le (by simp)
  have fx:=aI hE<|aI hE1<|hd
  refine qB ?_
  clear fx
  refine qF [] .nil (by simp;rfl) ⟨by simp [hm0,Mch.top],OwnY.fin ?_⟩
  have h:=hO1
  exact OwnY.reT h rfl (m':={ m.top fs f.pop with cells:=m.cells.set c (some (v1,v2)) }) rfl (by simp [Mch.top]) (qBO (R':=R1) hT1 (by simp [hT1]) (fun J hJ e=>e.trans (by simp [ql,yA,yB,yZ,Mch.top]))) (h6t:=by simp [h21]) (h7t:=by simp [h31]) (h8t:=⟨j1,by simp [h281]⟩) (h9:=hcs _ _ (by simp) (fun c' hn s hc'=>by simp [hn,h.cell c' s hc'])) (hA:=by intro k i j hk e hn;by_cases e2:k=7∧i=c∧j=0;(obtain⟨rfl,rfl,rfl⟩:=e2;rw [hE1];simp);simpa [hk,e,e2] using hn)
 ·have w1':((wy:Int)==1)=false:=by rw [beq_eq_false_iff_ne];omega
  cases s with
  | none =>
   have hres:zf m fs f o wy e=m.stop fs f e:=by simp only [zf,if_neg w1,hs]
   rw [hres]
   have fx:=aI w1'<|hE
   refine qB ?_
   clear fx
   intro K hK
   have fx:=fx0
   refine qQ hO (have h:=hO;OwnY.re h) (Nat.le_refl _) (hF:=fun _=>yL gl DM (fun _=>qH) _ R e (by simp [hT]) hRl) (h:=?_)
   intro y H1 hw
   clear fx
   have hO1:=OwnY.wrp (OwnY.stopped (m:=m.top fs f) (e:=e) (have h:=hO;OwnY.re h) rfl (by simp [hT])) hw
   obtain⟨rfl,-⟩:=hw
   have fx:=fx0
   refine qB ?_
   clear fx
   refine qF [] .nil (by simp;rfl) ⟨by simp [Mch.stop,he],OwnY.fin (have h:=hO1;OwnY.re h)⟩
  | some v =>
   obtain⟨v1,v2⟩:=v
   by_cases w0:wy=0
   ·subst w0
    have hres:zf m fs f o 0 e=m.top fs (f.push (v1,v2)):=by simp only [zf,if_neg w1,hs,if_true]
    rw [hres]
    have fx:=aI w1'<|hE
    refine qB ?_
    clear fx
    intro K hK
    have fx:=hE
    refine qQ hO (have h:=hO;OwnY.re h) (Nat.le_refl _) (hF:=fun _=>jj gl DM (fun _=>qH) _ R (yo fs.length) f.stack j (v1,v2) rfl rfl (by simp [hT]) f28 (by simp [h28]) hsl yoh) (h:=?_)
    intro y H1 hw
    clear fx
    have hO1:=OwnY.pushed (m:=m.top fs f) (by exact (have h:=hO;OwnY.re h)) rfl (by omega) rfl (by simp [hT]) hw
    have fx:=fx0
    refine qB ?_
    clear fx
    refine qF [] .nil (by simp;rfl) ⟨by simp [Mch.top,hm0],OwnY.fin (have h:=hO1;OwnY.re h)⟩
   ·have hres:zf m fs f o wy e=setS m fs f o none:=by simp only [zf,if_neg w1,hs,if_neg w0]
    rw [hres,vJ f _ rfl]
    have w0':((wy:Int)==0)=false:=by rw [beq_eq_false_iff_ne];omega
    have fx:=aI w1'<|aI w0'<|hE
    refine qB ?_
    clear fx
    refine qF [] .nil (by simp;rfl) ⟨by simp [hm0,Mch.top],OwnY.fin ?_⟩
    have h:=hO
    exact OwnY.reT h rfl (m':={ m.top fs f with cells:=m.cells.set c none }) rfl (by simp [Mch.top]) (qBO (R':=R) hT (by simp [hT]) (fun J hJ e=>e.trans (by simp [ql,yA,yB,yZ,Mch.top]))) (h6t:=by simp [h2]) (h7t:=by simp [h3]) (h8t:=⟨j,by simp [h28]⟩) (h9:=hcs _ _ (by simp) (fun c' hn s hc'=>by simp [hn,h.cell c' s hc'])) (hA:=by intro k i j hk e hn;by_cases e2:k=7∧i=c∧j=0;(obtain⟨rfl,rfl,rfl⟩:=e2;rw [hE];simp);simpa [hk,e,e2] using hn)
end Go.Proofs.YtbgmnmnoaamgkaaGreatDoor
end
