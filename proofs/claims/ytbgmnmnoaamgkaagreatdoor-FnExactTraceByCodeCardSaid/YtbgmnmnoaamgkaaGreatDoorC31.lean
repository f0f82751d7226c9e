/-
  Own texts, joined by mkclaim.py: Kk, Kn, Km, Ko, Kp, Zc, Zd, Ze, Zf.
-/
import Derived.Test.YtbgmnmnoaamgkaaGreatDoorC30
import Derived.Test.YtbgmnmnoaamgkaaGreatDoorC24
import Derived.Test.YtbgmnmnoaamgkaaGreatDoorC25
import Derived.Test.YtbgmnmnoaamgkaaGreatDoorC17
set_option linter.unusedSimpArgs false
set_option linter.unusedVariables false
set_option maxRecDepth 100000
set_option maxHeartbeats 4000000

section
namespace Go.Proofs.YtbgmnmnoaamgkaaGreatDoor
open Go Go.Hm Go.Proofs
theorem qAi (gl) (s:Stm) (hkd:0≤s.kind∧s.kind≤11):qW Tryz.prog gl 170 [s.av] (fun r y H'=>y=.hs r 2 0 (yb s).length∧H' r=some (.row 2 (zb (yb s)))):=by
 have hrl:=s.reads_len
 have hw5:IntKind.i64.wrap ((s.reads.length:Int) - 1)=(s.reads.length:Int) - 1:=wrp (by omega) (by omega)
 obtain⟨kd,to,a,c⟩:=s
 simp only at hkd
 refine qW.of_sem Tryz.func170 rfl (by kernel_rfl) (rs:=[.tmp 2]) rfl Tryz.ntmps170 (lB rfl) fun C w g root=>?_
 rcases qL7 hkd with rfl|rfl|rfl|rfl|rfl|rfl|rfl|rfl|rfl|rfl|rfl|rfl
 case inr.inr.inr.inr.inr.inl =>
  have hrd:(⟨5,to,a,c⟩:Stm).reads=if c=-1 then [a] else [a,c]:=by simp [Stm.reads]
  rw [hrd] at hw5
  have hcr:=qDj gl a c
  generalize hL:(if c=-1 then [a] else [a,c])=L at hw5 hcr hrd
  have fx:= hw5
  have c1:=jK gl ⟨5,to,a,c⟩
  have d1:=hcr
  refine qB ?_
  clear fx c1 d1
  refine zZ (t:=2) ?_ ?_ ?_
  all_goals simp [yb,zb,hrd]
 all_goals
  all_goals have fx:=fx0
  repeat' (first
   | refine qN ?_|refine qJ ?_|refine qR ?_|refine qM fun K hK=>?_
   | ((with_reducible refine qK hK ?_);clear hK K)
   | (with_reducible first|refine qC ?_|refine qP ?_|refine qI ?_|refine qc ?_)
   | refine qX ?_
   | (with_reducible first|refine qG ?_|refine qE (h:=?_)|refine zG (h:=?_)|refine qg (h:=?_)|refine qU (h:=?_)|refine yD (h:=?_))
   | ((with_reducible refine qv 108 rfl ?_);refine qL (hF:=jK _ ⟨_,to,a,c⟩) (h:=?_))
   | (with_reducible refine x_q (h:=?_))
   | refine qO (h1:=?_)|refine qS (h1:=?_)
   | fail)
  all_goals try clear fx
  refine zZ (t:=2) ?_ ?_ ?_
  all_goals simp [yb,zb]
theorem qCj (gl:Nat→Option (List AV)) (hgl:gl 0=some uM) (p:Prg) (b:Nat) (k:Blk) (s:Stm) (hp:ShapeP p) (hk:p[b]?=some k) (hsm:s∈k.body):qW Tryz.prog gl 146 [qAC p,iv b,s.av] (fun r y H'=>y=.hs r 2 0 (wK p b s).length∧H' r=some (.row 2 (zb (wK p b s)))):=by
 have hrl:=s.reads_len
 have hn:=hp.names k (gM hk)
 have hkd:=hn.kinds s hsm
 obtain⟨ht0,ht7⟩:=hn.tos s hsm
 obtain⟨T,hT⟩:∃ T:Nat,s.to=T:=⟨s.to.toNat,by omega⟩
 have hT8:T<8:=by omega
 have hav:s.av=.agg [iv s.kind,iv T,iv s.a,iv s.b]:=by rw [← hT]
 rw [qF5]
 refine qW.of_sem Tryz.func146 rfl (by kernel_rfl) (rs:=[.tmp 6]) rfl Tryz.ntmps146 (lB rfl) fun C w g root=>?_
 all_goals have fx:=fx0
 repeat' (first
  | refine qN ?_|refine qJ ?_|refine qR ?_|refine qM fun K hK=>?_
  | ((with_reducible refine qK hK ?_);clear hK K)
  | (with_reducible first|refine qC ?_|refine qP ?_|refine qd ?_|refine zD ?_|refine qI ?_|refine qc ?_|refine ql (by decide) ?_)
  | refine qn ?_
  | refine qX ?_
  | (with_reducible first|refine qG ?_|refine qE (h:=?_)|refine zG (h:=?_)|refine j9 (T:=150) (h:=?_)|refine ji (T:=150) (h:=?_)|refine yD (h:=?_))
  | ((with_reducible refine qv 108 rfl ?_);refine qL (hF:=jK _ s) (h:=?_))
  | (refine qPK (hF:=qFm _ (by kernel_rfl) s hkd) (h:=?_))
  | (with_reducible refine x_q (h:=?_))
  | refine qO (h1:=?_)|refine qS (h1:=?_)
  | fail)
 all_goals try clear fx
 refine q7 (fun n st=>∃ i:Nat,n=s.reads.length - i∧i≤s.reads.length∧st.tm 0=qAC p∧st.tm 1=iv b∧st.tm 5=.pt (.s 5) 0∧st.hp (.s 5)=some (.row 4 [s.cells])∧st.tm 14=.hs (.s 14) 1 0 s.reads.length∧st.hp (.s 14)=some (.row 1 (qY s.reads))∧st.tm 15=iv s.reads.length∧st.tm 16=iv i∧st.tm 7=.hs (.s 7) 2 0 (qHW p b s i).length∧st.hp (.s 7)=some (.row 2 (zb (qHW p b s i)))) s.reads.length ?_ ?_
 ·exact⟨0,by omega,by omega,by simp,by simp,by simp,by simp,by simp,by simp,by simp,by simp,by simp,by simp [zb]⟩
 rintro n st - - ⟨i,rfl,hi,h0,h1,h5,hp5,h14,hp14,h15,h16,h7,hp7⟩
 have hll:(qHW p b s i).length≤10:=by simp;omega
 by_cases hil:i<s.reads.length
 ·obtain⟨u,hu⟩:∃ u,s.reads[i]?=some u:=⟨_,gE hil⟩
  obtain⟨_,huE⟩:=gS hu
  obtain⟨hu0,hu7⟩:=hn.reads s hsm u (gM hu)
  obtain⟨U,rfl⟩:∃ U:Nat,u=U:=⟨u.toNat,by omega⟩
  have hnx:=qFz (p:=p) (b:=b) hu
  generalize hL:qHW p b s i=L at h7 hp7 hnx hll
  have fx:=aI h0<|aI h1<|aI h5<|aI hp5<|aI h14<|aI hp14<|aI h15<|aI h16<|aI h7<|aI hp7<|aI hu<|aI huE<|aI hil<|hll
  have c1:=qAA gl hgl p hp b k hk U (by omega) 0 (by decide) (by decide)
  refine qB ?_
  clear fx c1
  refine⟨s.reads.length - (i+1),by omega,i+1,rfl,by omega,by simp [h0],by simp [h1],by simp [h5],by simp [hp5],by simp [h14],by simp [hp14],by simp [h15],by simp;exact wrp (by omega) (by omega),by simp [hnx],?_⟩
  rw [hnx]
  simp [zb]
 ·have hge:i=s.reads.length:=by omega
  rw [hge] at h7 hp7 hll
  have hwl:=qFV s
  generalize hL:qHW p b s s.reads.length=L at h7 hp7 hll
  by_cases hk11:s.kind=11
  ·have vr:qAe p b s=[zU p b T 2]:=by simp [qAe,hk11,hT]
   rw [vr]
   generalize hWL:yb s=WL at hwl
   have hwo:=qAi gl s hkd
   rw [hWL,hav] at hwo
   have hk11':(s.kind==11)=true:=by simpa using hk11
   have fx:=aI h0<|aI h1<|aI h5<|aI hp5<|aI h14<|aI hp14<|aI h15<|aI h16<|aI h7<|aI hp7<|aI hil<|aI hge<|aI hll<|aI hwl<|aI hk11'<|hT
   have d1:=hwo
   have c1:=qAA gl hgl p hp b k hk T hT8 2 (by decide) (by decide)
   refine qB ?_
   clear fx d1 c1
   refine zZ (t:=6) ?_ ?_ ?_
   all_goals simp [u5,List.take_append,List.take_of_length_le,Nat.add_assoc]
  ·have hk11':(s.kind==11)=false:=by simpa using hk11
   by_cases vr:0≤s.kind∧s.kind≤6
   ·have hsl:qAe p b s=[zU p b T 1]:=by simp [qAe,hk11,hT,vr]
    rw [hsl]
    generalize hWL:yb s=WL at hwl
    have hwo:=qAi gl s hkd
    rw [hWL,hav] at hwo
    have hbi:=qFE gl s
    rw [decide_eq_true (.inl vr:s.sets∨s.kind=11),hav] at hbi
    have fx:=aI h0<|aI h1<|aI h5<|aI hp5<|aI h14<|aI hp14<|aI h15<|aI h16<|aI h7<|aI hp7<|aI hil<|aI hge<|aI hll<|aI hwl<|aI hk11'<|hT
    have d1:=hwo
    have c1:=hbi
    have c2:=qAA gl hgl p hp b k hk T hT8 1 (by decide) (by decide)
    refine qB ?_
    clear fx d1 c1 c2
    refine zZ (t:=6) ?_ ?_ ?_
    all_goals simp [u5,List.take_append,List.take_of_length_le,Nat.add_assoc]
   ·have hsl:qAe p b s=[]:=by simp only [qAe,if_neg hk11,if_neg vr]
    rw [hsl]
    generalize hWL:yb s=WL at hwl
    have hwo:=qAi gl s hkd
    rw [hWL] at hwo
    have hbi:=qFE gl s
    rw [decide_eq_false (fun h:s.sets∨s.kind=11=>h.elim vr hk11)] at hbi
    have fx:=aI h0<|aI h1<|aI h5<|aI hp5<|aI h14<|aI hp14<|aI h15<|aI h16<|aI h7<|aI hp7<|aI hil<|aI hge<|aI hll<|aI hwl<|hk11'
    have d1:=hwo
    have c1:=hbi
    refine qB ?_
    clear fx d1 c1
    refine zZ (t:=6) ?_ ?_ ?_
    all_goals simp [u5,List.take_append,List.take_of_length_le,Nat.add_assoc]
end Go.Proofs.YtbgmnmnoaamgkaaGreatDoor
end
section

end
section
namespace Go.Proofs.YtbgmnmnoaamgkaaGreatDoor
open Go Go.Hm Go.Proofs
abbrev qRD:Sch:=.q 0<|.q 1<|.q 2<|.q 3<|.q 5<|.q 6<|.q 8<|.q 9<|.q 12<|.q 13<|.l2 4 [13,12,9,8,6,5,1,0] (.l2 7 [13,12,9,8,1,0] (.l2 10 [13,12,1,0] (.l2 11 [13,12,1,0] (.l2 14 [1,0] (.q 15<|.l 16 [15,1,0]<|.l 17 []<|.done) 16 [13,12,1,0] (.l 14 [1,0]<|.q 15<|.l 17 []<|.done)) 16 [13,12,1,0] (.l 11 [13,12,1,0]<|.l 14 [1,0]<|.q 15<|.l 17 []<|.done)) 16 [13,12,9,8,1,0] (.l 10 [13,12,1,0]<|.l 11 [13,12,1,0]<|.l 14 [1,0]<|.q 15<|.l 17 []<|.done)) 16 [13,12,9,8,6,5,1,0] (.l 7 [13,12,9,8,1,0]<|.l 10 [13,12,1,0]<|.l 11 [13,12,1,0]<|.l 14 [1,0]<|.q 15<|.l 17 []<|.done)) 16 [13,12,9,8,6,5,3,2,1,0] (.l 4 [13,12,9,8,6,5,1,0]<|.l 7 [13,12,9,8,1,0]<|.l 10 [13,12,1,0]<|.l 11 [13,12,1,0]<|.l 14 [1,0]<|.q 15<|.l 17 []<|.done)
abbrev qRC:Sch:=.q 0<|.q 1<|.q 2<|.q 3<|.q 4<|.l 5 [1,0]<|.l 6 []<|.q 7<|.l 8 []<|.done
theorem qH5 (gl) (p:Prg) (hp:ShapeP p) (b:Nat) (k:Blk) (hk:p[b]?=some k):qW Tryz.prog gl 145 [qAC p,iv b] (fun r y H'=>y=.hs r 1 0 (qT p b).length∧H' r=some (.row 1 (qY (qT p b)))):=by
 by_cases hk1:k.kind=1
 ·exact qDi gl p hp b k hk hk1
 have hh:=hp.heads
 obtain⟨hbl,hbE⟩:=gS hk
 have hka:qt p b=k.kind:=by simp [qt,hk]
 have hsg:=yY (p:=p) hbl
 rw [jJ hh hk] at hsg
 obtain⟨_,hse⟩:=gS hsg
 have hc:qT p b=[]:=by simp [qT,hka,hk1]
 have hkd:(k.kind==1)=false:=by simpa using hk1
 rw [hc]
 refine qW.of_sem Tryz.func145 rfl (by kernel_rfl) (rs:=[.tmp 4]) rfl Tryz.ntmps145 (lB rfl) fun C w g root=>?_
 have fx:=aI hsg<|aI hse<|aI hkd<|aI hbl<|@qr
 refine qB ?_
 clear fx
 exact zZ (t:=4) (by first|(simp [];done)|(simp [];rfl)) (by first|(simp [];done)|(simp [];rfl)) (by simp)
theorem qG9 (gl) (p:Prg) (b:Nat):qW Tryz.prog gl 51 [.agg (jP (qF p b))] (fun r z H'=>z=.hs r 1 0 (qF p b).length∧H' r=some (.row 1 (qY (qF p b)))):=by
 have hli:=qEf gl (qF p b)
 rw [qBI] at hli
 exact hli
theorem wM (gl:Nat→Option (List AV)) (hgl:gl 0=some uM) (p:Prg) (hp:ShapeP p) (b:Nat) (k:Blk) (hk:p[b]?=some k):qW Tryz.prog gl 111 [pav p,qAC p,iv b] (fun r y H'=>y=.agg ((qk p b).own r 0)∧OwnK H' r 0 (qk p b)):=by
 have hl7:=hp.len.2
 have hkm:=gM hk
 obtain⟨hbl,hbE⟩:=gS hk
 have hk12:=hp.body k hkm
 obtain⟨hpl,_⟩:=hp.sml.bsm hk
 have hcode:qk p b=⟨k.kind,k.params,qT p b,qF p b,q9 p b,uE p b k.body⟩:=by simp [qk,jx,hk]
 have hfl:=yy (p:=p) (b:=b)
 have hcl:=jB (p:=p) (b:=b)
 have hrl:=jS (p:=p) (b:=b)
 rw [hcode]
 refine qW.of_sem Tryz.func111 rfl (by kernel_rfl) (rs:=[.cell 6 152]) rfl Tryz.ntmps111 (lB rfl) fun C w g root=>?_
 have fx:=aI hk<|aI hbE<|aI hbl<|hpl
 have c1:=uf gl p hp b k hk
 have d1:=qH5 gl p hp b k hk
 have d2:=qG9 gl p b
 have d3:=qBC gl p hp b hbl
 refine qB ?_
 first|refine wSc (id:=2) qRD qA ?_|refine wSc (id:=6) qRC qA ?_
 refine qPU (fun st=>st.tm 1=qAC p∧st.tm 2=iv b∧st.tm 6=.pt (.s 6) 0∧st.hp (.s 6)=some (.row 6 [kY.own (.s 6) 0])∧st.tm 8=.pt (.s 8) 0∧st.tm 33=ssl k.body∧st.tm 34=iv k.body.length∧st.tm 35=iv 0∧st.hp (.s 8)=some (.row 6 [Cod.own (.s 8) 0 ⟨k.kind,k.params,qT p b,qF p b,q9 p b,[]⟩])∧st.hp (.c (.s 8) 0 1)=some (.row 1 (qY k.params))∧st.hp (.c (.s 8) 0 2)=some (.row 1 (qY (qT p b)))∧st.hp (.c (.s 8) 0 3)=some (.row 1 (qY (qF p b)))∧st.hp (.c (.s 8) 0 4)=some (.row 1 (qY (q9 p b)))∧st.hp (.c (.s 8) 0 5)=some (.row 2 [])) ?_
 clear fx c1 d1 d2 d3
 rintro st ⟨h1,h2,h6,hp6,h8,h33,h34,h35,hp8,q1,q2,q3,q4,q5⟩
 refine q7 (fun n st=>∃ i:Nat,n=k.body.length - i∧i≤k.body.length∧st.tm 1=qAC p∧st.tm 2=iv b∧st.tm 6=.pt (.s 6) 0∧st.hp (.s 6)=some (.row 6 [kY.own (.s 6) 0])∧st.tm 8=.pt (.s 8) 0∧st.tm 33=ssl k.body∧st.tm 34=iv k.body.length∧st.tm 35=iv i∧∃ c:Cod,c=⟨k.kind,k.params,qT p b,qF p b,q9 p b,uE p b (k.body.take i)⟩∧st.hp (.s 8)=some (.row 6 [c.own (.s 8) 0])∧OwnK st.hp (.s 8) 0 c) k.body.length ?_ ?_
 ·refine⟨0,by omega,by omega,h1,h2,h6,hp6,h8,h33,h34,h35,_,rfl,?_,⟨?_,?_,?_,?_,?_⟩⟩
  all_goals simp [uE,hp8,q1,q2,q3,q4,q5]
 clear h1 h2 h6 hp6 h8 h33 h34 h35 hp8 q1 q2 q3 q4 q5
 rintro n st - - ⟨i,rfl,hi,h1,h2,h6,hp6,h8,h33,h34,h35,c,hc,hp8,⟨o1,o2,o3,o4,o5⟩⟩
 have hll:=qAc (p:=p) (b:=b) (k.body.take i)
 rw [List.length_take] at hll
 by_cases hil:i<k.body.length
 ·obtain⟨s,hss⟩:∃ s,k.body[i]?=some s:=⟨_,gE hil⟩
  obtain⟨_,hsE⟩:=gS hss
  have hnx:=qDk (p:=p) (b:=b) hss
  have hsl:=qBy (p:=p) (b:=b) (s:=s)
  generalize hL:uE p b (k.body.take i)=L at hc hnx hll
  subst hc
  simp only [Cod.own_eq] at hp8 o1 o2 o3 o4 o5
  have fx:=aI h1<|aI h2<|aI h6<|aI hp6<|aI h8<|aI h33<|aI h34<|aI h35<|aI hp8<|aI o1<|aI o2<|aI o3<|aI o4<|aI o5<|aI hss<|aI hsE<|aI hil<|aI hll<|hsl
  have d1:=qCj gl hgl p b k s hp hk (gM hss)
  refine qB ?_
  repeat ((first|refine wSc (id:=2) qRD qA ?_|refine wSc (id:=6) qRC qA ?_);refine qD ?_;refine qB ?_)
  clear fx d1
  refine⟨k.body.length - (i+1),by omega,i+1,rfl,by omega,by simp [h1],by simp [h2],by simp [h6],by simp [hp6],by simp [h8],by simp [h33],by simp [h34],by simp;exact wrp (by omega) (by omega),_,rfl,?_,⟨?_,?_,?_,?_,?_⟩⟩
  all_goals simp [Cod.own,hnx,o1,o2,o3,o4,o5,hp8]
 ·have hge:i=k.body.length:=by omega
  subst hge
  rw [List.take_length] at hc
  subst hc
  simp only [Cod.own_eq] at hp8 o1 o2 o3 o4 o5
  have fx:=aI h1<|aI h2<|aI h6<|aI hp6<|aI h8<|aI h33<|aI h34<|aI h35<|aI hp8<|aI o1<|aI o2<|aI o3<|aI o4<|aI o5<|hil
  refine qB ?_
  repeat ((first|refine wSc (id:=2) qRD qA ?_|refine wSc (id:=6) qRC qA ?_);refine qD ?_;refine qB ?_)
  clear fx
  refine qH [(.s 8,root)] (.one rfl) (by simp [h6];rfl) ⟨?_,⟨?_,?_,?_,?_,?_⟩⟩
  all_goals simp [h6,o1,o2,o3,o4,o5]
theorem qA1 (gl:Nat→Option (List AV)) (hgl:gl 0=some uM) (p:Prg) (hp:ShapeP p):qW Tryz.prog gl 73 [pav p,qAC p] (fun r y H'=>y=.hs r 6 0 (qf p p.length).length∧OwnC H' r (qf p p.length)):=by
 have hl7:=hp.len.2
 refine qW.of_sem Tryz.func73 rfl (by kernel_rfl) (rs:=[.tmp 4]) rfl Tryz.ntmps73 (lB rfl) fun C w g root=>?_
 have fx:=fx0
 refine qB ?_
 clear fx
 refine q7 (fun n st=>∃ i:Nat,n=p.length - i∧i≤p.length∧st.tm 1=qAC p∧st.tm 2=.pt (.s 2) 0∧st.hp (.s 2)=some (.row 1 [[ksl p]])∧st.tm 9=iv p.length∧st.tm 10=iv i∧∃ cs:List Cod,cs=qf p i∧cs.length=i∧st.tm 5=.hs (.s 5) 6 0 cs.length∧OwnC st.hp (.s 5) cs) p.length ?_ ?_
 ·refine⟨0,by omega,by omega,by simp,by simp,by simp,by simp,by simp,[],by simp,rfl,by simp,⟨by simp,fun i c h=>by simp at h⟩⟩
 rintro n st - - ⟨i,rfl,hi,h1,h2,hp2,h9,h10,cs,hcs,hcl,h5,⟨ht,he⟩⟩
 by_cases hil:i<p.length
 ·obtain⟨k,hk⟩:∃ k,p[i]?=some k:=⟨_,gE hil⟩
  have hnx:=qB0 (p:=p) (n:=i)
  have hcc:=wM gl hgl p hp i k hk
  rw [← hcs] at hnx
  generalize hC:qk p i=c at hcc hnx
  have hcl7:cs.length≤7:=by omega
  have fx:=aI h1<|aI h2<|aI hp2<|aI h9<|aI h10<|hil
  have e1:=hcc
  refine qB ?_
  clear fx e1
  rintro K hK y H' ⟨rfl,hO⟩
  obtain⟨o1,o2,o3,o4,o5⟩:=hO.hcln
  refine⟨by simp,?_⟩
  have fx:=aI h1<|aI h2<|aI hp2<|aI h9<|aI h10<|aI h5<|aI ht<|aI hcl7<|aI o1<|aI o2<|aI o3<|aI o4<|o5
  refine qB ?_
  clear fx
  refine⟨p.length - (i+1),by omega,i+1,rfl,by omega,by simp [h1],by simp [h2],by simp [hp2],by simp [h9],by simp;exact wrp (by omega) (by omega),cs++[c],hnx.symm,by simp [hcl],by simp,⟨?_,fun j d hj=>?_⟩⟩
  ·simp [ht,qDd]
  ·rcases Nat.lt_or_ge j cs.length with hlj|hgj
   ·rw [List.getElem?_append_left hlj] at hj
    have hne:¬ j=cs.length:=by omega
    obtain⟨e1,e2,e3,e4,e5⟩:=he j d hj
    exact⟨by simp [hne,e1],by simp [hne,e2],by simp [hne,e3],by simp [hne,e4],by simp [hne,e5]⟩
   ·rw [List.getElem?_append_right hgj] at hj
    obtain rfl:j=cs.length:=by
     have:=(gS hj).1
     simp at this
     omega
    simp at hj
    subst hj
    exact⟨by simp [o1],by simp [o2],by simp [o3],by simp [o4],by simp [o5]⟩
 ·have hge:i=p.length:=by omega
  subst hge
  subst hcs
  have fx:=aI h1<|aI h2<|aI hp2<|aI h9<|aI h10<|aI hil<|aI h5<|ht
  refine qB ?_
  clear fx
  refine qH [(.s 4,root)] (.one rfl) (by simp;rfl) ⟨by simp,⟨by simp [ht,ub (n:=.s 4) (m:=root) (f:=jO noD [(.s 4,root)]) (by simp)],fun j d hj=>?_⟩⟩
  obtain⟨e1,e2,e3,e4,e5⟩:=he j d hj
  exact⟨by simp [e1],by simp [e2],by simp [e3],by simp [e4],by simp [e5]⟩
end Go.Proofs.YtbgmnmnoaamgkaaGreatDoor
end
section

end
section
namespace Go.Proofs.YtbgmnmnoaamgkaaGreatDoor
open Go Go.Hm Go.Proofs
attribute [local simp] qHC qCN
theorem qL4 (gl) (l:List (Int×Int)) (A:Nat) (hA:A<l.length) (hl:l.length≤1000):qW Tryz.prog gl 172 [osl l,iv A] (fun _ y _=>y=iv ((vI (l.take (A+1)):Int) - 1)):=by
 have hw:IntKind.i64.wrap ((A:Int)+1)=((A+1:Nat):Int):=by rw [wrp (by omega) (by omega)];rfl
 have hA1:A+1≤l.length:=by omega
 have hmin:min (A+1) l.length=A+1:=Nat.min_eq_left hA1
 generalize hB:A+1=B at hw hA1 hmin
 refine qW.of_sem Tryz.func172 rfl (by kernel_rfl) (rs:=[.tmp 4]) rfl Tryz.ntmps172 (lB rfl) fun C w g root=>?_
 have fx:=aI hw<|aI hA1<|hmin
 refine qB ?_
 clear fx
 refine q7 (fun n st=>∃ i:Nat,n=B - i∧i≤B∧st.tm 11=osl (l.take B)∧st.tm 12=iv B∧st.tm 13=iv i∧st.tm 5=iv ((vI (l.take i):Int) - 1)) B ?_ ?_
 ·exact⟨0,by omega,by omega,by simp,by simp [hmin],by simp,by simp [vI]⟩
 rintro n st - - ⟨i,rfl,hi,h11,h12,h13,h5⟩
 by_cases hil:i<B
 ·have hil2:i<l.length:=by omega
  obtain⟨o,ho⟩:∃ o,l[i]?=some o:=⟨_,gE hil2⟩
  have ho2:(l.take B)[i]?=some o:=by rw [List.getElem?_take,if_pos hil,ho]
  obtain⟨hoL,hoE⟩:=gS ho2
  have htk:=kv ho
  have htl:vI (l.take i)≤i:=Nat.le_trans qHs (by simp;omega)
  have hLl:(l.take B).length=B:=by simp;omega
  generalize l.take B=L at h11 ho2 hoL hoE hLl ⊢
  generalize vI (l.take i)=T at h5 htk htl
  have hwT:IntKind.i64.wrap ((T:Int) - 1+1)=(T:Int):=by
   rw [show (T:Int) - 1+1=T by omega]
   exact wrp (by omega) (by omega)
  cases ho0:(o.1==0)
  ·have e0:¬ o.1=0:=by simpa using ho0
   have fx:=aI h11<|aI h12<|aI h13<|aI h5<|aI ho2<|aI hoE<|aI hoL<|aI hil<|ho0
   refine qB ?_
   clear fx
   exact⟨B - (i+1),by omega,i+1,rfl,by omega,by simp [h11],by simp [h12],by simp;exact wrp (by omega) (by omega),by simp [htk,e0,h5]⟩
  ·have e0:o.1=0:=by simpa using ho0
   have e1:((T+1:Nat):Int) - 1=T:=by omega
   have hwT':IntKind.i64.wrap (T:Int)=(T:Int):=wrp (by omega) (by omega)
   have fx:=aI h11<|aI h12<|aI h13<|aI h5<|aI ho2<|aI hoE<|aI hoL<|aI hil<|aI ho0<|hwT
   refine qB ?_
   clear fx
   refine⟨B - (i+1),by omega,i+1,rfl,by omega,by simp [h11],by simp [h12],by simp;exact wrp (by omega) (by omega),?_⟩
   rw [htk,if_pos e0,e1]
   simp [hwT']
 ·have hge:i=B:=by omega
  have fx:=aI h11<|aI h12<|aI h13<|aI h5<|hil
  refine qB ?_
  clear fx
  refine qH [] .nil (by simp;rfl) ?_
  rw [← hge]
  simp
end Go.Proofs.YtbgmnmnoaamgkaaGreatDoor
end
section
namespace Go.Proofs.YtbgmnmnoaamgkaaGreatDoor
open Go Go.Hm Go.Proofs
abbrev qQm:Sch:=.q 0<|.q 1<|.q 2<|.q 3<|.q 4<|.q 5<|.q 6<|.q 7<|.q 8<|.q 9<|.q 10<|.q 11<|.q 12<|.q 13<|.q 14<|.q 15<|.l 16 [11,6,5,4,2,1,0]<|.l 17 []<|.done
abbrev qQl:Sch:=.q 0<|.q 1<|.q 2<|.q 3<|.q 4<|.q 5<|.q 6<|.q 7<|.q 8<|.q 9<|.q 10<|.l 11 [5,4,3,2,1,0]<|.l 12 [5,0]<|.q 13<|.q 14<|.l 15 []<|.done
theorem qHk (gl) (H:Nm→Option AO) (p:Prg) (m:Mch) (fs:List Frm) (f:Frm) (o:Int×Int) (ho:(jx p f.blk)[f.pc - 1]?=some o) (ho0:o.1=0) (hb:f.blk<p.length) (hp7:p.length≤7) (he:m.en=0) (hfl:fs.length≤150) (hlf:m.left≤150) (htl:m.trace.length≤1000) (hpc1:1≤f.pc) (hpc:f.pc≤(jx p f.blk).length) (hol:(jx p f.blk).length≤60) (hO:OwnY H p (m.top fs f)) :
  FnE Tryz.prog gl 149 DM [.pt Yn 0,.pt Yn (yo fs.length)] H (fun _ y H'=>y=bv (decide ((un p m fs f).en=0))∧OwnY H' p (un p m fs f)) noE:=by
 obtain⟨R,j,hT,tr,h2,h3,h28⟩:=hO.topT rfl (by omega)
 have hRl:=tr.len
 have r2:=tr.r2
 have r0:=tr.r0
 have f0:=tr.f0
 have f1:=tr.f1
 obtain⟨r2l,r2E⟩:=gS r2
 simp only [Mch.top] at r2 r2E
 refine FnE.of_sem Tryz.func149 rfl (by kernel_rfl) (rs:=[.tmp 4]) rfl Tryz.ntmps149 (lB rfl) (fun _=>qQ) fun C w g root hroot=>?_
 by_cases hl:m.left=0
 ·have ht:un p m fs f=m.stop fs f 1:=by simp only [un,hl,if_true]
  rw [ht]
  have fx:=aI hT<|aI r2<|aI r2E<|aI hRl<|hl
  refine qB ?_
  repeat ((first|refine wSc (id:=4) qQm qA ?_|refine wSc (id:=5) qQl qA ?_);refine qD ?_;refine qB ?_)
  clear fx
  intro K hK
  have fx:=fx0
  refine qZ hO (have h:=hO;OwnY.re h) (Nat.le_refl _) (hF:=fun hO=>yM gl DM (fun _=>qQ) _ R 1 (by simp [hT]) hRl) (h:=?_)
  rintro y H1 hw
  clear fx
  have hO1:=OwnY.wrp (OwnY.stopped (e:=1) (have h:=hO;OwnY.re h) rfl (by simp [hT])) hw
  obtain⟨rfl,-⟩:=hw
  have fx:=fx0
  refine qB ?_
  repeat ((first|refine wSc (id:=4) qQm qA ?_|refine wSc (id:=5) qQl qA ?_);refine qD ?_;refine qB ?_)
  clear fx
  refine qH [] .nil (by simp;rfl) ⟨by simp,OwnY.fin (have h:=hO1;OwnY.re h)⟩
 ·obtain⟨l,hll⟩:∃ l,m.left=l+1:=⟨m.left - 1,by omega⟩
  have ht:un p m fs f={ m.top fs f with left:=l,trace:=m.trace++[(f.blk,vI ((jx p f.blk).take (f.pc - 1)))] }:=by
   simp only [un,hl,if_false,hll]
   rfl
  rw [ht]
  have hlb:((l:Int)+1==0)=false:=by rw [beq_eq_false_iff_ne];omega
  have hwl:IntKind.i64.wrap (l:Int)=l:=wrp (by omega) (by omega)
  have fx:=aI hT<|aI r2<|aI r2E<|aI hRl<|aI hll<|aI hlb<|hwl
  refine qB ?_
  clear fx
  refine vH (fun s=>s.tm 0=.pt Yn 0∧s.tm 1=.pt Yn (yo fs.length)∧OwnY s.hp p ({ m with left:=l }.top fs f)) ⟨by simp,by simp,?_⟩ ?_
  ·have h:=hO
   exact OwnY.reT h rfl rfl rfl (qBL (R':=spl R 2 [iv l]) hT (by simp [spl]) (fun J hJ e=>by rw [e];exact qS5)) (h6t:=by simp [h2]) (h7t:=by simp [h3]) (h8t:=⟨j,by simp [h28]⟩)
  clear hT tr r2E r2l r2 r0 f0 f1 hRl h2 h3 h28 hO j R
  rintro s ⟨t0,t1,hO⟩
  obtain⟨R,j,hT,tr,h2,h3,h28⟩:=hO.topT rfl (by omega)
  have hRl:=tr.len
  have r5:=tr.r5
  have r0:=tr.r0
  have f0:=tr.f0
  have f1:=tr.f1
  simp only [Mch.top] at r5
  obtain⟨_,r5E⟩:=gS r5
  obtain⟨_,r0E⟩:=gS r0
  obtain⟨f0l,f0E⟩:=gS f0
  obtain⟨f1l,f1E⟩:=gS f1
  have hcd:(qf p p.length)[f.blk]?=some (qk p f.blk):=by simp [qf,hb]
  obtain⟨hcdl,hcdE⟩:=gS hcd
  obtain⟨k,hk⟩:∃ k,p[f.blk]?=some k:=⟨_,gE hb⟩
  have hco:(qk p f.blk).ops=jx p f.blk:=by simp [qk,hk]
  have hpw:IntKind.i64.wrap ((f.pc:Int) - 1)=((f.pc - 1:Nat):Int):=by rw [wrp (by omega) (by omega)];omega
  have hla:=qL4 gl (jx p f.blk) (f.pc - 1) (by omega) (by omega)
  have hpe:f.pc - 1+1=f.pc:=by omega
  rw [hpe] at hla
  have hTr:=hO.trc
  have fx:=aI t0<|aI t1<|aI hT<|aI r0<|aI r0E<|aI r5<|aI r5E<|aI f0<|aI f0E<|aI f0l<|aI f1<|aI f1E<|aI f1l<|aI hcd<|aI hcdl<|aI hcdE<|aI hco<|aI hpw<|aI hRl<|aI hTr<|htl
  have c1:=hla
  refine qB ?_
  repeat ((first|refine wSc (id:=4) qQm qA ?_|refine wSc (id:=5) qQl qA ?_);refine qD ?_;refine qB ?_)
  clear fx c1
  have htk:((vI ((jx p f.blk).take f.pc):Nat):Int) - 1=vI ((jx p f.blk).take (f.pc - 1)):=by
   have:=kv ho
   rw [hpe,if_pos ho0] at this
   rw [this]
   omega
  have hap:yI m.trace++[[iv f.blk,iv (((vI ((jx p f.blk).take f.pc):Nat):Int) - 1)]]=yI (m.trace++[(f.blk,vI ((jx p f.blk).take (f.pc - 1)))]):=by rw [htk];exact qD7
  refine qH [] .nil (by simp;rfl) ⟨by simp [Mch.top,he],OwnY.fin ?_⟩
  have h:=hO
  exact OwnY.reT h rfl rfl rfl (qEO hT (by simp;rfl) (fun J hJ e=>by rw [e];simp only [kD];exact qXp (m.trace++[(f.blk,vI ((jx p f.blk).take (f.pc - 1)))]) hJ (by simp) (fun j hj=>by simp [hj]))) (h3:=by simp [← hap]) (h6t:=by simp [h2]) (h7t:=by simp [h3]) (h8t:=⟨j,by simp [h28]⟩)
theorem kr (gl) (H:Nm→Option AO) (p:Prg) (m:Mch) (fs:List Frm) (f:Frm) (o:Int×Int) (off wy:Nat) (e:Int) (hW:WrY p m fs f o off) (hm0:m.en=0) (he:e≠0) (hwy:wy≤2) (hfl:fs.length≤150) (hst:wy=1→1≤f.stack.length) (hsl:f.stack.length≤1000) (hO:OwnY H p (m.top fs f)) :
  FnE Tryz.prog gl 150 DM [.pt Yn 0,.pt Yn (yo fs.length),.pt Yn off,iv wy,iv e] H (fun _ y H'=>y=bv (decide ((zl m fs f o wy e).en=0))∧OwnY H' p (zl m fs f o wy e)) noE:=by
 obtain⟨R,j,hT,tr,h2,h3,h28⟩:=hO.topT rfl (by omega)
 have hRl:=tr.len
 have f28:=tr.f28
 have hle:=hW.le
 have hrd:=hW.rd f R rfl tr
 have s0:=hrd 0 (by omega)
 have s1:=hrd 1 (by omega)
 have s2:=hrd 2 (by omega)
 rw [Nat.add_zero] at s0
 have yoh:yo fs.length+29≤4415:=by simp only [yo];omega
 refine FnE.of_sem Tryz.func150 rfl (by kernel_rfl) (rs:=[.tmp 10]) rfl Tryz.ntmps150 (lB rfl) (fun _=>qQ) fun C w g root hroot=>?_
 by_cases w1:wy=1
 ·subst w1
  have hres:zl m fs f o 1 e=setS m fs f.pop o (some f.tos):=rfl
  rw [hres]
  obtain⟨k,hk⟩:∃ k,f.stack.length=k+1:=⟨f.stack.length - 1,by have:=hst rfl;omega⟩
  rw [hk] at f28
  obtain⟨G,hG,g1,g2,g3,c1,c2,c3,c4,c5,c6,hR⟩:=hW.wr f.pop (some f.tos) rfl rfl
  have fx:= hT
  refine qB ?_
  clear fx
  intro K hK
  have fx:=fx0
  refine qZ hO (have h:=hO;OwnY.re h) (Nat.le_refl _) (hF:=fun _=>uO gl DM (fun _=>qQ) _ R (yo fs.length) k (f.stack++j) f.tos (by simp [hT]) f28 (by simp [h28]) (ja hk) (by omega) yoh) (h:=?_)
  intro y H1 hw
  clear fx
  have hO1:=OwnY.wrp (OwnY.popped (m:=m.top fs f) (have h:=hO;OwnY.re h) rfl (by omega) (by simp [hT]) hk) hw
  obtain⟨rfl,-⟩:=hw
  obtain⟨R1,j1,hT1,tr1,h21,h31,h281⟩:=OwnY.topT (f:=f.pop) hO1 rfl (by omega)
  have hR1l:=tr1.len
  generalize hv:f.tos=v at *
  obtain⟨v1,v2⟩:=v
  have fx:=aI hT<|aI hT1<|aI hR1l<|hle
  refine qB ?_
  clear fx
  refine qH [] .nil (by simp;rfl) ⟨by simp [c6,hm0],OwnY.fin ?_⟩
  have h:=hO1
  exact OwnY.reT h rfl hG (by rw [c1];rfl) (qBL (R':=spl R1 off (zu (some (v1,v2)))) hT1 (by simp [spl]) (fun J hJ e=>by rw [e];exact hR J hJ)) (h2:=by simp [h.out,c2]) (h3:=by simp [h.trc,c3]) (h4:=by simp [h.funs,c4]) (h5:=by simp [h.clss,c5]) (h6t:=by simp [h21,g1]) (h7t:=by simp [h31,g2]) (h8t:=⟨j1,by simp [h281,g3]⟩) (h9:=by rw [c1];intro c s hc;simp [h.cell c s hc])
 ·have w1':((wy:Int)==1)=false:=by rw [beq_eq_false_iff_ne];omega
  cases hs:qBc m f o with
  | none =>
   have hres:zl m fs f o wy e=m.stop fs f e:=by simp only [zl,if_neg w1,hs]
   rw [hres]
   rw [hs] at s0
   simp only [vf,List.getElem?_cons_zero] at s0
   obtain⟨s0l,s0E⟩:=gS s0
   have fx:=aI w1'<|aI hT<|aI s0<|aI s0E<|aI s0l<|aI hRl<|hle
   refine qB ?_
   clear fx
   intro K hK
   have fx:=fx0
   refine qZ hO (have h:=hO;OwnY.re h) (Nat.le_refl _) (hF:=fun _=>yM gl DM (fun _=>qQ) _ R e (by simp [hT]) hRl) (h:=?_)
   intro y H1 hw
   clear fx
   have hO1:=OwnY.wrp (OwnY.stopped (m:=m.top fs f) (e:=e) (have h:=hO;OwnY.re h) rfl (by simp [hT])) hw
   obtain⟨rfl,-⟩:=hw
   have fx:=fx0
   refine qB ?_
   clear fx
   refine qH [] .nil (by simp;rfl) ⟨by simp [Mch.stop,he],OwnY.fin (have h:=hO1;OwnY.re h)⟩
  | some v =>
   obtain⟨v1,v2⟩:=v
   rw [hs] at s0 s1 s2
   simp only [ve,List.getElem?_cons_zero,List.getElem?_cons_succ] at s0 s1 s2
   obtain⟨s0l,s0E⟩:=gS s0
   have s12:=kw s1 s2
   have hle2:off+1+2≤4415:=by omega
   by_cases w0:wy=0
   ·subst w0
    have hres:zl m fs f o 0 e=m.top fs (f.push (v1,v2)):=by simp only [zl,if_neg w1,hs,if_true]
    rw [hres]
    have fx:=aI w1'<|aI hT<|aI s0<|aI s0E<|aI s0l<|aI s12<|aI hRl<|hle2
    refine qB ?_
    clear fx
    intro K hK
    have fx:=aI hT s12
    refine qZ hO (have h:=hO;OwnY.re h) (Nat.le_refl _) (hF:=fun _=>jh gl DM (fun _=>qQ) _ R (yo fs.length) f.stack j (v1,v2) rfl rfl (by simp [hT]) f28 (by simp [h28]) hsl yoh) (h:=?_)
    intro y H1 hw
    clear fx
    have hO1:=OwnY.pushed (m:=m.top fs f) (by exact (have h:=hO;OwnY.re h)) rfl (by omega) rfl (by simp [hT]) hw
    have fx:=fx0
    refine qB ?_
    clear fx
    refine qH [] .nil (by simp;rfl) ⟨by simp [Mch.top,hm0],OwnY.fin (have h:=hO1;OwnY.re h)⟩
   ·have hres:zl m fs f o wy e=setS m fs f o none:=by simp only [zl,if_neg w1,hs,if_neg w0]
    rw [hres]
    have w0':((wy:Int)==0)=false:=by rw [beq_eq_false_iff_ne];omega
    obtain⟨G,hG,g1,g2,g3,c1,c2,c3,c4,c5,c6,hR⟩:=hW.wr f none rfl rfl
    have fx:=aI w1'<|aI w0'<|aI hT<|aI s0<|aI s0E<|aI s0l<|aI hRl<|hle
    refine qB ?_
    clear fx
    refine qH [] .nil (by simp;rfl) ⟨by simp [c6,hm0],OwnY.fin ?_⟩
    have h:=hO
    exact OwnY.reT h rfl hG (by rw [c1];rfl) (qBL (R':=spl R off (zu none)) hT (by simp [spl]) (fun J hJ e=>by rw [e];exact hR J hJ)) (h2:=by simp [h.out,c2]) (h3:=by simp [h.trc,c3]) (h4:=by simp [h.funs,c4]) (h5:=by simp [h.clss,c5]) (h6t:=by simp [h2,g1]) (h7t:=by simp [h3,g2]) (h8t:=⟨j,by simp [h28,g3]⟩) (h9:=by rw [c1];intro c s hc;simp [h.cell c s hc])
end Go.Proofs.YtbgmnmnoaamgkaaGreatDoor
end
section
namespace Go.Proofs.YtbgmnmnoaamgkaaGreatDoor
open Go Go.Hm Go.Proofs
theorem vb (gl) (H:Nm→Option AO) (p:Prg) (m:Mch) (fs:List Frm) (f:Frm) (o:Int×Int) (c wy:Nat) (e:Int) (h5:5≤o.1) (h7:o.1≤7) (hc:f.cells.getD o.2.toNat 0=c) (hcl:c<m.cells.length) (hm0:m.en=0) (he:e≠0) (hwy:wy≤2) (hfl:fs.length≤150) (hst:wy=1→1≤f.stack.length) (hsl:f.stack.length≤1000) (hO:OwnY H p (m.top fs f)) :
  FnE Tryz.prog gl 150 DM [.pt Yn 0,.pt Yn (yo fs.length),.pt (En c) 0,iv wy,iv e] H (fun _ y H'=>y=bv (decide ((zl m fs f o wy e).en=0))∧OwnY H' p (zl m fs f o wy e)) noE:=by
 obtain⟨R,j,hT,tr,h2,h3,h28⟩:=hO.topT rfl (by omega)
 have hRl:=tr.len
 have f28:=tr.f28
 have e1:¬ o.1≤4:=by omega
 have vr:∀ g s,g.cells=f.cells→setS m fs g o s={ m.top fs g with cells:=m.cells.set c s }:=fun g s hg=>by
  simp only [setS,if_neg e1,if_pos h7,hg,hc]
 have yoh:yo fs.length+29≤4415:=by simp only [yo];omega
 obtain⟨s,hs1⟩:∃ s,m.cells[c]?=some s:=⟨_,gE hcl⟩
 have hs:qBc m f o=s:=by simp [qBc,e1,h7,-List.getD_eq_getElem?_getD,hc,yt,hs1]
 have hE:=hO.cell c s hs1
 have hcs:∀ (s':Slt) (hp':Nm→Option AO),hp' (En c)=some (.row 3 [zu s'])→(∀ c',c'≠c→∀ s,m.cells[c']?=some s→hp' (En c')=some (.row 3 [zu s]))→∀ (c':Nat) s,(m.cells.set c s')[c']?=some s→hp' (En c')=some (.row 3 [zu s]):=by
  intro s' hp' h1 h2 c' s hc'
  rw [List.getElem?_set] at hc'
  by_cases e:c=c'
  ·subst e
   rw [if_pos rfl,if_pos hcl] at hc'
   obtain rfl:=sI hc'
   exact h1
  ·rw [if_neg e] at hc'
   exact h2 c' (fun h=>e h.symm) s hc'
 refine FnE.of_sem Tryz.func150 rfl (by kernel_rfl) (rs:=[.tmp 10]) rfl Tryz.ntmps150 (lB rfl) (fun _=>qQ) fun C w g root hroot=>?_
 by_cases w1:wy=1
 ·subst w1
  have hres:zl m fs f o 1 e=setS m fs f.pop o (some f.tos):=rfl
  rw [hres,vr f.pop _ rfl]
  obtain⟨k,hk⟩:∃ k,f.stack.length=k+1:=⟨f.stack.length - 1,by have:=hst rfl;omega⟩
  rw [hk] at f28
  have fx:= hT
  refine qB ?_
  clear fx
  intro K hK
  have fx:=fx0
  refine qZ hO (have h:=hO;OwnY.re h) (Nat.le_refl _) (hF:=fun _=>uO gl DM (fun _=>qQ) _ R (yo fs.length) k (f.stack++j) f.tos (by simp [hT]) f28 (by simp [h28]) (ja hk) (by omega) yoh) (h:=?_)
  intro y H1 hw
  clear fx
  have hO1:=OwnY.wrp (OwnY.popped (m:=m.top fs f) (have h:=hO;OwnY.re h) rfl (by omega) (by simp [hT]) hk) hw
  obtain⟨rfl,-⟩:=hw
  obtain⟨R1,j1,hT1,tr1,h21,h31,h281⟩:=OwnY.topT (f:=f.pop) hO1 rfl (by omega)
  have hE1:=hO1.cell c s hs1
  generalize hv:f.tos=v at *
  obtain⟨v1,v2⟩:=v
  have hd:(zu s).drop 3=[]:=List.drop_eq_nil_of_le (by simp)
  have fx:=aI hE<|aI hE1<|hd
  refine qB ?_
  clear fx
  refine qH [] .nil (by simp;rfl) ⟨by simp [hm0,Mch.top],OwnY.fin ?_⟩
  have h:=hO1
  exact OwnY.reT h rfl (m':={ m.top fs f.pop with cells:=m.cells.set c (some (v1,v2)) }) rfl (by simp [Mch.top]) (qBL (R':=R1) hT1 (by simp [hT1]) (fun J hJ e=>e.trans (by simp [qw,yA,yB,yZ,Mch.top]))) (h6t:=by simp [h21]) (h7t:=by simp [h31]) (h8t:=⟨j1,by simp [h281]⟩) (h9:=hcs _ _ (by simp) (fun c' hn s hc'=>by simp [hn,h.cell c' s hc'])) (hA:=by intro k i j hk e hn;by_cases e2:k=7∧i=c∧j=0;(obtain⟨rfl,rfl,rfl⟩:=e2;rw [hE1];simp);simpa [hk,e,e2] using hn)
 ·have w1':((wy:Int)==1)=false:=by rw [beq_eq_false_iff_ne];omega
  cases s with
  | none =>
   have hres:zl m fs f o wy e=m.stop fs f e:=by simp only [zl,if_neg w1,hs]
   rw [hres]
   have fx:=aI w1'<|hE
   refine qB ?_
   clear fx
   intro K hK
   have fx:=fx0
   refine qZ hO (have h:=hO;OwnY.re h) (Nat.le_refl _) (hF:=fun _=>yM gl DM (fun _=>qQ) _ R e (by simp [hT]) hRl) (h:=?_)
   intro y H1 hw
   clear fx
   have hO1:=OwnY.wrp (OwnY.stopped (m:=m.top fs f) (e:=e) (have h:=hO;OwnY.re h) rfl (by simp [hT])) hw
   obtain⟨rfl,-⟩:=hw
   have fx:=fx0
   refine qB ?_
   clear fx
   refine qH [] .nil (by simp;rfl) ⟨by simp [Mch.stop,he],OwnY.fin (have h:=hO1;OwnY.re h)⟩
  | some v =>
   obtain⟨v1,v2⟩:=v
   by_cases w0:wy=0
   ·subst w0
    have hres:zl m fs f o 0 e=m.top fs (f.push (v1,v2)):=by simp only [zl,if_neg w1,hs,if_true]
    rw [hres]
    have fx:=aI w1'<|hE
    refine qB ?_
    clear fx
    intro K hK
    have fx:=hE
    refine qZ hO (have h:=hO;OwnY.re h) (Nat.le_refl _) (hF:=fun _=>jh gl DM (fun _=>qQ) _ R (yo fs.length) f.stack j (v1,v2) rfl rfl (by simp [hT]) f28 (by simp [h28]) hsl yoh) (h:=?_)
    intro y H1 hw
    clear fx
    have hO1:=OwnY.pushed (m:=m.top fs f) (by exact (have h:=hO;OwnY.re h)) rfl (by omega) rfl (by simp [hT]) hw
    have fx:=fx0
    refine qB ?_
    clear fx
    refine qH [] .nil (by simp;rfl) ⟨by simp [Mch.top,hm0],OwnY.fin (have h:=hO1;OwnY.re h)⟩
   ·have hres:zl m fs f o wy e=setS m fs f o none:=by simp only [zl,if_neg w1,hs,if_neg w0]
    rw [hres,vr f _ rfl]
    have w0':((wy:Int)==0)=false:=by rw [beq_eq_false_iff_ne];omega
    have fx:=aI w1'<|aI w0'<|hE
    refine qB ?_
    clear fx
    refine qH [] .nil (by simp;rfl) ⟨by simp [hm0,Mch.top],OwnY.fin ?_⟩
    have h:=hO
    exact OwnY.reT h rfl (m':={ m.top fs f with cells:=m.cells.set c none }) rfl (by simp [Mch.top]) (qBL (R':=R) hT (by simp [hT]) (fun J hJ e=>e.trans (by simp [qw,yA,yB,yZ,Mch.top]))) (h6t:=by simp [h2]) (h7t:=by simp [h3]) (h8t:=⟨j,by simp [h28]⟩) (h9:=hcs _ _ (by simp) (fun c' hn s hc'=>by simp [hn,h.cell c' s hc'])) (hA:=by intro k i j hk e hn;by_cases e2:k=7∧i=c∧j=0;(obtain⟨rfl,rfl,rfl⟩:=e2;rw [hE];simp);simpa [hk,e,e2] using hn)
theorem qAh (gl) (H:Nm→Option AO) (p:Prg) (m:Mch) (fs:List Frm) (f:Frm) (o:Int×Int) (q wy:Nat) (e:Int) (h4:o.1≤4) (hq:o.2.toNat=q) (hql:q<f.fasts.length) (hm0:m.en=0) (he:e≠0) (hwy:wy≤2) (hfl:fs.length≤150) (hst:wy=1→1≤f.stack.length) (hsl:f.stack.length≤1000) (h9:H (.u 9 0 0)=none) (hO:OwnY H p (m.top fs f)) :
  FnE Tryz.prog gl 150 DM [.pt Yn 0,.pt Yn (yo fs.length),.ep (.c Yn 0 (yo fs.length+2)) 3 q 0,iv wy,iv e] H (fun _ y H'=>y=bv (decide ((zl m fs f o wy e).en=0))∧OwnY H' p (zl m fs f o wy e)) noE:=by
 obtain⟨R,j,hT,tr,h2,h3,h28⟩:=hO.topT rfl (by omega)
 have hRl:=tr.len
 have f28:=tr.f28
 have f2:=tr.f2
 have vr:∀ g s,g.fasts=f.fasts→setS m fs g o s=m.top fs { g with fasts:=f.fasts.set q s }:=fun g s hg=>by
  simp only [setS,if_pos h4,hg,hq]
 have yoh:yo fs.length+29≤4415:=by simp only [yo];omega
 obtain⟨s,hs1⟩:∃ s,f.fasts[q]?=some s:=⟨_,gE hql⟩
 obtain⟨_,hs1E⟩:=gS hs1
 have hs:qBc m f o=s:=by simp [qBc,h4,hq,yt,hs1]
 have hrow:∀ (g:Frm) s J,g.blk=g.blk→(∀ i:Nat,(J i:List AV).length=29)→qw p (m.top fs g) (fs.length+1) (yc (fs++[g]) J)=qw p (m.top fs { g with fasts:=g.fasts.set q s }) (fs.length+1) (yc (fs++[{ g with fasts:=g.fasts.set q s }]) J):=by
  intro g s J _ hJ
  have:=qHm (p:=p) (m:=m.top fs g) (h:=fs.length+1) (J:=J) (fs:=fs++[g]) (i:=fs.length) (f:=g) (g:={ g with fasts:=g.fasts.set q s }) (j:=0) (vals:=[]) hJ (by simp) (by omega) (by simp) (by simp [spl,yfr])
  have e:spl (qw p (m.top fs g) (fs.length+1) (yc (fs++[g]) J)) (32+(29 * fs.length+0)) []=qw p (m.top fs g) (fs.length+1) (yc (fs++[g]) J):=by simp [spl]
  rw [e] at this
  refine this.trans ?_
  simp [qw,yA,yB,yZ,Mch.top]
 refine FnE.of_sem Tryz.func150 rfl (by kernel_rfl) (rs:=[.tmp 10]) rfl Tryz.ntmps150 (lB rfl) (fun _=>qQ) fun C w g root hroot=>?_
 by_cases w1:wy=1
 ·subst w1
  have hres:zl m fs f o 1 e=setS m fs f.pop o (some f.tos):=rfl
  rw [hres,vr f.pop _ rfl]
  obtain⟨k,hk⟩:∃ k,f.stack.length=k+1:=⟨f.stack.length - 1,by have:=hst rfl;omega⟩
  have fx:= h2
  refine qB ?_
  clear fx
  intro K hK
  have hO0:OwnY (st0 [.pt Yn 0,.pt Yn (yo fs.length),.ep (.c Yn 0 (yo fs.length+2)) 3 q 0,iv 1,iv e] H 37 gl).hp p (m.top fs f):=(have h:=hO;OwnY.re h)
  obtain⟨R0,R',vs,k1,k2,k3,k4,k5,k6⟩:=OwnY.keep (j:=yo fs.length+2) hO0 rfl (by omega) hk (by omega)
  have fx:=h2
  refine qHo DM (.c Yn 0 (yo fs.length+2)) (.u 9 0 0) Yn (.row 4415 [spl R0 (yo fs.length+28) [.hs (.c Yn 0 (yo fs.length+28)) 2 0 k]]) (Val.av f.tos) (hV:=rfl) (hN:=rfl) (hVe:=by simp [ue,h9]) (fun _=>qQ) (by simp) (fun _=>qRr) (fun _=>qYT) (by simp [h2]) (fun k i j he=>?_) rfl (by simp) (by simp) (hF:=by rw [k6];exact uO gl DY9 (fun _=>qFH) _ R' (yo fs.length) k vs f.tos k2 k3 k4 k5 (by omega) yoh) (h:=?_)
  ·rcases hO.ext hO0 (Nat.le_refl _) k i j he with h|h
   ·exact .inl h
   ·refine .inr fun h'=>h ?_
    simp only [yC]
    split
    ·exact h'
    ·rfl
  intro hp' hS
  clear fx
  have hO1:=(OwnY.popped (m:=m.top fs f) hO0 rfl (by omega) k1 hk).same hS
  obtain⟨R1,j1,hT1,tr1,h21,h31,h281⟩:=OwnY.topT (f:=f.pop) hO1 rfl (by omega)
  have h21':hp' (.c Yn 0 (yo fs.length+2))=some (.row 3 (qV f.fasts)):=h21
  generalize hv:f.tos=v at *
  obtain⟨v1,v2⟩:=v
  have fx:=aI h2<|aI h21'<|hql
  refine qB ?_
  clear fx
  refine qH [] .nil (by simp;rfl) ⟨by simp [hm0,Mch.top],OwnY.fin ?_⟩
  have h:=hO1
  exact OwnY.reT h rfl (m':=m.top fs { f.pop with fasts:=f.fasts.set q (some (v1,v2)) }) rfl rfl (qBL (R':=R1) hT1 (by simp [hT1]) (fun J hJ e=>e.trans (hrow f.pop _ J rfl hJ))) (h6t:=by simp) (h7t:=by simp [h31]) (h8t:=⟨j1,by simp [h281]⟩)
 ·have w1':((wy:Int)==1)=false:=by rw [beq_eq_false_iff_ne];omega
  cases s with
  | none =>
   have hres:zl m fs f o wy e=m.stop fs f e:=by simp only [zl,if_neg w1,hs]
   rw [hres]
   have fx:=aI w1'<|aI h2<|aI hs1<|aI hs1E<|hql
   refine qB ?_
   clear fx
   intro K hK
   have fx:=fx0
   refine qZ hO (have h:=hO;OwnY.re h) (Nat.le_refl _) (hF:=fun _=>yM gl DM (fun _=>qQ) _ R e (by simp [hT]) hRl) (h:=?_)
   intro y H1 hw
   clear fx
   have hO1:=OwnY.wrp (OwnY.stopped (m:=m.top fs f) (e:=e) (have h:=hO;OwnY.re h) rfl (by simp [hT])) hw
   obtain⟨rfl,-⟩:=hw
   have fx:=fx0
   refine qB ?_
   clear fx
   refine qH [] .nil (by simp;rfl) ⟨by simp [Mch.stop,he],OwnY.fin (have h:=hO1;OwnY.re h)⟩
  | some v =>
   obtain⟨v1,v2⟩:=v
   by_cases w0:wy=0
   ·subst w0
    have hres:zl m fs f o 0 e=m.top fs (f.push (v1,v2)):=by simp only [zl,if_neg w1,hs,if_true]
    rw [hres]
    have fx:=aI w1'<|aI h2<|aI hs1<|aI hs1E<|hql
    refine qB ?_
    clear fx
    intro K hK
    have fx:=aI h2 (aI hs1 hs1E)
    refine qZ hO (have h:=hO;OwnY.re h) (Nat.le_refl _) (hF:=fun _=>jh gl DM (fun _=>qQ) _ R (yo fs.length) f.stack j (v1,v2) rfl rfl (by simp [hT]) f28 (by simp [h28]) hsl yoh) (h:=?_)
    intro y H1 hw
    clear fx
    have hO1:=OwnY.pushed (m:=m.top fs f) (by exact (have h:=hO;OwnY.re h)) rfl (by omega) rfl (by simp [hT]) hw
    have fx:=fx0
    refine qB ?_
    clear fx
    refine qH [] .nil (by simp;rfl) ⟨by simp [Mch.top,hm0],OwnY.fin (have h:=hO1;OwnY.re h)⟩
   ·have hres:zl m fs f o wy e=setS m fs f o none:=by simp only [zl,if_neg w1,hs,if_neg w0]
    rw [hres,vr f _ rfl]
    have w0':((wy:Int)==0)=false:=by rw [beq_eq_false_iff_ne];omega
    have fx:=aI w1'<|aI w0'<|aI h2<|aI hs1<|aI hs1E<|hql
    refine qB ?_
    clear fx
    refine qH [] .nil (by simp;rfl) ⟨by simp [hm0,Mch.top],OwnY.fin ?_⟩
    have h:=hO
    exact OwnY.reT h rfl (m':=m.top fs { f with fasts:=f.fasts.set q none }) rfl rfl (qBL (R':=R) hT (by simp [hT]) (fun J hJ e=>e.trans (hrow f _ J rfl hJ))) (h6t:=by simp) (h7t:=by simp [h3]) (h8t:=⟨j,by simp [h28]⟩)
end Go.Proofs.YtbgmnmnoaamgkaaGreatDoor
end
