/-
  Own texts, joined by mkclaim.py: Yi, Pd, Pe, Pf, Pg, Ph, Phr, Yj, Za, Zb, Ha, Hb, Hc.
-/
import Derived.Test.YtbgmnmnoaamgkaaGreatDoorC23
import Derived.Test.YtbgmnmnoaamgkaaGreatDoorC24
import Derived.Test.YtbgmnmnoaamgkaaGreatDoorC15
import Derived.Test.YtbgmnmnoaamgkaaGreatDoorC17
import Derived.Test.YtbgmnmnoaamgkaaGreatDoorC12
import Derived.Test.YtbgmnmnoaamgkaaGreatDoorC19
set_option linter.unusedSimpArgs false
set_option linter.unusedVariables false
set_option maxRecDepth 100000
set_option maxHeartbeats 4000000

section
namespace Go.Proofs.YtbgmnmnoaamgkaaGreatDoor
open Go Go.Hm Go.Proofs
abbrev qES:Sch:=.q 0<|.q 1<|.q 2<|.q 3<|.q 4<|.q 5<|.q 6<|.l 7 [4,3,2,1,0]<|.l 8 [4,3,2,1,0]<|.l 9 [0]<|.q 10<|.q 11<|.l 12 []<|.done
abbrev qER:Sch:=.q 0<|.q 1<|.q 2<|.q 3<|.q 4<|.q 5<|.q 6<|.q 7<|.q 8<|.q 9<|.l 10 [5,0]<|.q 11<|.q 12<|.l 13 []<|.done
theorem qMZ:∀ {k:Nm},Nm.under (.u 1 0 0) k=true→Nm.under (.u 2 0 0) k=false
 | .s d,h=>by simp [Nm.under]
 | .u a b c,h=>by simp [Nm.under] at h ⊢;omega
 | .c q i j,h=>by
  simp [Nm.under] at h ⊢
  exact qMZ h
theorem qIC (gl) (H:Nm→Option AO) (p:Prg) (n:Nat) (hP:ValP p) (hL:LookP p) (hn:n≤150) (h1:H (.u 1 0 0)=none) (h2:H (.u 2 0 0)=none) :
  FnE Tryz.prog gl 40 (Nm.under Xn) [pav p,iv n] H (fun _ y H'=>y=.pt Xn 0∧EndX0 H' p (uZ p n) (uZ p n).deep) noE:=by
 have hlen:=hP.sh.len
 refine FnE.of_sem Tryz.func40 rfl (by kernel_rfl) (rs:=[.tmp 4]) rfl Tryz.ntmps40 (lB rfl) (fun _=>qu rfl) fun C w g root hroot=>?_
 have fx:=fx0
 have p1:=qOm gl p hL
 have d1:=qA5 gl
 refine qBU ?_
 repeat ((first|refine wSc (id:=6) qES qA ?_|refine wSc (id:=9) qER qA ?_);refine qEk ?_;refine qBU ?_)
 clear fx p1 d1
 have hl1:1≤p.length:=by omega
 refine qM4 (.s 5) (.u 1 0 0) (.inl rfl) (.inr (by simp [ue,h1])) (qM4 (.s 33) (.c (.c Xn 0 1) 0 0) (.inl rfl) (.inl rfl) ?_)
 refine q7 (fun k s=>∃ b:Nat,k=p.length - b∧1≤b∧b≤p.length∧s.tm 2=.pt (.s 2) 0∧s.hp (.s 2)=some (.row 1 [[ksl p]])∧s.tm 5=.pt Xn 0∧s.tm 6=iv b∧PreX s.hp p n b) (p.length - 1) ?_ ?_
 ·refine⟨1,rfl,by omega,hl1,by simp,by simp,by simp,by simp,⟨by simp,by simp,by simp,by simp,by simp,by simp,by simp,by simp,by simp⟩⟩
 rintro k s - - ⟨b,rfl,hb1,hbl,t2,p2,t5,t6,hX⟩
 have hT:=hX.top
 by_cases hil:b<p.length
 ·obtain⟨k,hk⟩:∃ k,p[b]?=some k:=⟨_,gE hil⟩
  have hC:=hX.caps
  have hCl:=qMG (p:=p) hb1
  have hCa:=qMH (p:=p) hb1
  have hb7:b≤7:=by omega
  have fx:=aI t2<|aI p2<|aI t5<|aI t6<|aI hT<|aI hC<|aI hCl<|aI hil<|hb7
  have p1:=qHd gl p b k hk hP.sh hL
  refine qBU ?_
  repeat ((first|refine wSc (id:=6) qES qA ?_|refine wSc (id:=9) qER qA ?_);refine qEk ?_;refine qBU ?_)
  clear fx p1
  have htk:(qBf p b).take b=qBf p b:=List.take_of_length_le (by omega)
  exact⟨p.length - (b+1),by omega,b+1,rfl,by omega,by omega,by simp [t2],by simp [p2],by simp [t5],by simp;exact wrp (by omega) (by omega),⟨by simp,by simp [htk,hCa],by simp [hX.cells],by simp [hX.glob],by simp [hX.funs],by simp [hX.clss],by simp [hX.fr],by simp [hX.out],by simp [hX.trc]⟩⟩
 obtain rfl:b=p.length:=by omega
 have hOw:=hX.own (by omega)
 have fx:=aI t2<|aI p2<|aI t5<|aI t6<|hT
 refine qB ?_
 repeat ((first|refine wSc (id:=6) qES qA ?_|refine wSc (id:=9) qER qA ?_);refine qD ?_;refine qB ?_)
 clear fx
 intro K hK
 refine qC2 44 (.s 44) 1 0 [] ?_ ?_ rfl (by simp) ?_
 ·simp
 ·simp
 refine qOR (.c Xn 0 6) (.u 2 0 0) (.inl rfl) (.inr (by simp [ue,h2])) ?_
 refine yg (fun s=>s.tm 42=.pt Xn 0∧s.tm 43=.pt Xn 0∧s.tm 44=isl []∧s.tm 5=.pt Xn 0∧OwnX s.hp p (.u 2 0 0) (qi n) 0) ⟨by simp,by simp,by simp,by simp [t5],OwnX.mvF (n:=.c Xn 0 6) (have h:=hOw;OwnX.re h) (.inl ⟨rfl,rfl⟩)⟩ ?_
 clear t2 p2 t5 t6 hT hX hOw
 rintro s ⟨t42,t43,t44,t5,hO⟩
 have hT:=hO.top
 obtain⟨js,hF⟩:=hO.fr.top
 simp only [jQ,qi] at hT hF
 have hBg:qPA p (qi n) 0 [] 0 (List.replicate (qT p 0).length none) ([]++List.replicate (qF p 0).length none):=.inl ⟨rfl,rfl,rfl⟩
 have hfin:=hBg.fin (cs:=[]) rfl
 have hst:qb p n=z6 p (qi n) 0 [] []:=rfl
 rw [← hst] at hfin
 have fx:=aI t42 (aI t43 t44)
 refine j6 (.c (.s 45) 0 3) (.s 30) (.inl rfl) (.inl rfl) ?_
 refine j6 (.c (.s 45) 0 5) (.s 31) (.inl rfl) (.inl rfl) ?_
 refine j6 (.c (.s 45) 0 6) (.s 32) (.inl rfl) (.inl rfl) ?_
 refine jo (by simp [hT]) (by simp [hF]) (hF:=wj _ _ p (qi n) 0 [] 0 (by omega) (by simp [qi]) (by simp) (by simp [qi]) (have h:=hO;OwnX.re h)) (h:=?_)
 rintro y H1 ⟨rfl,h3,h5,h6,hO1⟩
 clear fx
 have hT1:=hO1.top
 obtain⟨js1,hF1⟩:=hO1.fr.top
 simp only [jQ,qi] at hT1 hF1
 obtain⟨hfin1,hfin2⟩:qb p n={ qi n with cells:=List.replicate (qF p 0).length none,made:=1,deep:=1,frames:=[⟨0,0,List.replicate (qT p 0).length none,(List.range (qF p 0).length).map ((qi n).cells.length+·),qm,[]⟩] }∧True:=⟨by rw [hfin];simp [qi],trivial⟩
 have fx:=aI t42<|aI t43<|aI t44<|aI t5<|aI hT<|aI hF<|aI hT1<|aI hF1<|aI h3<|aI h5<|h6
 refine qB ?_
 repeat ((first|refine wSc (id:=6) qES qA ?_|refine wSc (id:=9) qER qA ?_);refine qD ?_;refine qB ?_)
 clear fx
 have hr0:(qi n).cells.length=0:=rfl
 obtain⟨N,n1,n2,n3,n4⟩:=qKn hP hn
 refine q7 (fun k s=>∃ i:Nat,k=N - i∧i≤N∧s.tm 5=.pt Xn 0∧(OwnX s.hp p (.c Xn 0 6) (jN p i (qb p n)) (kK p i (qb p n) 0)∨(i=N∧(jN p i (qb p n)).en≠0∧EndX0 s.hp p (jN p i (qb p n)) (kK p i (qb p n) 0)))) N ?_ ?_
 ·refine⟨0,by omega,by omega,by simp [t5,hT],.inl ?_⟩
  simp only [jN,kK]
  rw [hfin1]
  refine⟨?_,?_,?_,?_,?_,?_,?_,?_,⟨[],?_⟩,fun i1 g hg=>?_,fun i1 g hg=>?_,fun i1 g hg=>?_⟩
  ·simp [jQ,qi]
  ·simp [hO1.caps]
  ·have:=hO1.cells
   simp [qi] at this
   simp [this]
  ·simp [hO1.glob]
  ·simp [hO1.funs]
  ·simp [hO1.clss]
  ·simp [hO1.out]
  ·simp [hO1.trc]
  ·simp [qq,zg,vV,vI]
  ·have:i1=0∧g=⟨0,0,List.replicate (qT p 0).length none,(List.range (qF p 0).length).map ((qi n).cells.length+·),qm,[]⟩:=by
    have hl:=(gS hg).1
    simp at hl
    subst hl
    simp at hg
    exact⟨rfl,hg.symm⟩
   obtain⟨rfl,rfl⟩:=this
   simp [h3]
  ·have:i1=0∧g=⟨0,0,List.replicate (qT p 0).length none,(List.range (qF p 0).length).map ((qi n).cells.length+·),qm,[]⟩:=by
    have hl:=(gS hg).1
    simp at hl
    subst hl
    simp at hg
    exact⟨rfl,hg.symm⟩
   obtain⟨rfl,rfl⟩:=this
   simp [h5]
  ·have:i1=0∧g=⟨0,0,List.replicate (qT p 0).length none,(List.range (qF p 0).length).map ((qi n).cells.length+·),qm,[]⟩:=by
    have hl:=(gS hg).1
    simp at hl
    subst hl
    simp at hg
    exact⟨rfl,hg.symm⟩
   obtain⟨rfl,rfl⟩:=this
   exact⟨[],by simp [h6,zB]⟩
 clear t42 t43 t44 t5 hT hF hT1 hF1 h3 h5 h6 hO hO1
 rintro k s - - ⟨i,rfl,hi,t5,hI⟩
 refine qMl (Nm.under (.u 2 0 0)) ?_
 refine vH (fun s=>s.tm 5=.pt Xn 0∧s.hp (.u 2 0 0)=none∧(OwnX s.hp p (.c Xn 0 6) (jN p i (qb p n)) (kK p i (qb p n) 0)∨(i=N∧(jN p i (qb p n)).en≠0∧EndX0 s.hp p (jN p i (qb p n)) (kK p i (qb p n) 0)))) ⟨by simp [t5],by simp,?_⟩ ?_
 ·have hk:∀ k,Nm.under Xn k=true→Nm.under (.u 2 0 0) k=false:=fun k h=>qMZ h
  rcases hI with h|⟨h1,h2,h3⟩
  ·exact .inl (h.ren1 (F:=some) (fun _ _=>rfl) fun q hq=>by rw [qGZ,hk q hq];cases s.hp q <;> simp [AO.tr_some])
  ·exact .inr ⟨h1,h2,h3.cong fun q hq=>by rw [qGZ,hk q hq];rfl⟩
 clear t5 hI s
 rintro s ⟨t5,hU,hI⟩
 by_cases hiN:i<N
 ·have hne:=n1 i hiN
  obtain⟨fs,f,hfr,hM⟩:=(qFe hP hn i).resolve_left hne
  have hen:(jN p i (qb p n)).en=0:=by
   by_cases h:(jN p i (qb p n)).en=0
   ·exact h
   ·exact absurd (.inr h) hne
  have hO:=hI.resolve_right fun h=>by omega
  have hsn:=qAQ i hne
  have hnt:=qAv (d:=0) i hne
  rw [hfr] at hnt
  simp only [List.length_append,List.length_singleton] at hnt
  have hT:=hO.top
  obtain⟨js,hF⟩:=hO.fr.top
  simp only [jQ,hfr,hen,List.length_append,List.length_singleton] at hT hF
  have hl0:(0:Int)<(fs.length:Int)+1:=by omega
  have fx:=aI t5<|aI hT<|aI hF<|hl0
  refine qB ?_
  repeat ((first|refine wSc (id:=6) qES qA ?_|refine wSc (id:=9) qER qA ?_);refine qD ?_;refine qB ?_)
  clear fx
  intro K hK
  have fx:=aI t5 (aI hT hF)
  refine qSb (i:=(kK p i (qb p n) 0:Int)) (j:=(fs.length:Int)+1) (kK p (i+1) (qb p n) 0:Nat) (by rw [hnt];omega) (h:=?_)
  clear fx
  have fx:=aI t5<|aI hT<|hF
  refine qB ?_
  repeat ((first|refine wSc (id:=6) qES qA ?_|refine wSc (id:=9) qER qA ?_);refine qD ?_;refine qB ?_)
  clear fx
  intro K hK
  have fx:=aI t5 (aI hT hF)
  refine qGm Xn rfl (by simp [ue,noH]) (hF:=qJC gl _ p (jN p i (qb p n)) fs f (kK p (i+1) (qb p n) 0) hP hM hfr hen (have h:=hO;OwnX.re h (h0:=by simp [jQ,hfr,hen])) (by simp [hU])) (h:=?_)
  rintro y H1 hO1
  clear fx
  rw [← hsn] at hO1
  have fx:= t5
  refine qB ?_
  repeat ((first|refine wSc (id:=6) qES qA ?_|refine wSc (id:=9) qER qA ?_);refine qD ?_;refine qB ?_)
  clear fx
  refine⟨N - (i+1),by omega,i+1,rfl,by omega,by simp [t5],?_⟩
  rcases hO1 with h|⟨h1,h2⟩
  ·exact .inl (have h:=h;OwnX.re h)
  ·have hN1:i+1=N:=by
    by_cases e:i+1<N
    ·exact absurd (.inr h1) (n1 _ e)
    ·omega
   exact .inr ⟨hN1,h1,h2.cong fun q hq=>by simp [hq]⟩
 ·obtain rfl:i=N:=by omega
  rw [n3,n4] at hI
  rw [n3] at n2
  have hE:EndX0 s.hp p (uZ p n) (uZ p n).deep:=by
   rcases hI with h|⟨-,-,h⟩
   ·exact h.end0
   ·exact h
  obtain⟨a,b,c,d,k,hT⟩:=hE.top
  have hk:k=0∨(uZ p n).en≠0:=by
   rcases hI with h|⟨-,h,-⟩
   ·rcases n2 with h1|h1
    ·have h2:=h.top
     rw [hT] at h2
     simp only [jQ,h1] at h2
     injection h2 with h2
     injection h2 with _ h2
     injection h2 with h2
     injection h2 with _ h2
     injection h2 with _ h2
     injection h2 with _ h2
     injection h2 with _ h2
     injection h2 with _ h2
     injection h2 with _ h2
     injection h2 with h2
     injection h2 with _ _ _ h2
     exact .inl h2
    ·exact .inr h1
   ·exact .inr h
  by_cases hk0:k=0
  ·subst hk0
   have fx:=aI t5<|hT
   refine qB ?_
   repeat ((first|refine wSc (id:=6) qES qA ?_|refine wSc (id:=9) qER qA ?_);refine qD ?_;refine qB ?_)
   clear fx
   refine qH [] .nil (by simp;rfl) ⟨rfl,EndX0.fin (hE.cong fun q hq=>by simp) (fun _=>qu rfl) (fun _ h=>h)⟩
  ·have he:=hk.resolve_left hk0
   have hk1:0<k:=by omega
   have heb:((uZ p n).en==0)=false:=by simpa using he
   have fx:=aI t5<|aI hT<|aI hk1<|heb
   refine qB ?_
   repeat ((first|refine wSc (id:=6) qES qA ?_|refine wSc (id:=9) qER qA ?_);refine qD ?_;refine qB ?_)
   clear fx
   refine qH [] .nil (by simp;rfl) ⟨rfl,EndX0.fin (hE.cong fun q hq=>by simp) (fun _=>qu rfl) (fun _ h=>h)⟩
end Go.Proofs.YtbgmnmnoaamgkaaGreatDoor
end
section

end
section

end
section

end
section

end
section
namespace Go.Proofs.YtbgmnmnoaamgkaaGreatDoor
open Go Go.Hm Go.Proofs
theorem jU (gl) (p:Prg) (f:Int) (hs:Sml p):qW Tryz.prog gl 39 [pav p,iv f] (fun _ y _=>y=bv (zr p f)):=by
 refine qW.of_sem Tryz.func39 rfl (by kernel_rfl) (rs:=[.tmp 4]) rfl Tryz.ntmps39 (lB rfl) fun C w g root=>?_
 cases hv:yq p
 ·skip
  have fx:= hv
  have c1:=hv ▸ kO gl p hs
  refine qB ?_
  clear fx c1
  refine qH [] .nil (by simp;rfl) (by simp [zr,hv])
 ·skip
  have fx:= hv
  have c1:=hv ▸ kO gl p hs
  have c2:=zn gl f 0 150
  refine qB ?_
  clear fx c1 c2
  refine qH [] .nil (by simp;rfl) (by simp [zr,hv])
theorem qCn (gl) (l:List Slt) (hl:l.length=8):qW Tryz.prog gl 54 [.sl 3 (qV l)] (fun r y H'=>y=.hs r 1 0 (ye l).length∧H' r=some (.row 1 (qY (ye l)))):=by
 refine qW.of_sem Tryz.func54 rfl (by kernel_rfl) (rs:=[.tmp 2]) rfl Tryz.ntmps54 (lB rfl) fun C w g root=>?_
 have fx:= hl
 refine qB ?_
 clear fx
 refine q7 (fun n st=>∃ (i:Nat) (xs:List Int),n=l.length - i∧i≤l.length∧xs=ye (l.take i)∧xs.length=i∧st.tm 0=.sl 3 (qV l)∧st.tm 3=.hs (.s 3) 1 0 xs.length∧st.hp (.s 3)=some (.row 1 (qY xs))∧st.tm 4=iv i) l.length ?_ ?_
 ·exact⟨0,[],by omega,by omega,by simp [ye],rfl,by simp,by simp,by simp,by simp⟩
 rintro n st - - ⟨i,xs,rfl,hi,hxs,hxl,h0,h3,hp3,h4⟩
 by_cases hil:i<l.length
 ·obtain⟨s,hs⟩:∃ s,l[i]?=some s:=⟨_,gE hil⟩
  obtain⟨_,hsE⟩:=gS hs
  have hx8:xs.length≤8:=by omega
  have hi8:(i:Int)<8:=by omega
  have htk:ye (l.take (i+1))=ye (l.take i)++[match s with|some v=>Hm.shown v|none=>-9]:=by
   rw [List.take_add_one,hs]
   cases s <;> simp [ye]
  cases s with
  | none =>
   have fx:=aI h0<|aI h3<|aI hp3<|aI h4<|aI hil<|aI hi8<|aI hs<|aI hsE<|aI hx8<|hl
   refine qB ?_
   clear fx
   exact⟨l.length - (i+1),by omega,i+1,xs++[-9],rfl,by omega,by rw [htk,hxs],by simp [hxl],by simp [h0],by simp,by simp,by simp;exact wrp (by omega) (by omega)⟩
  | some v =>
   have hsh:=qAL gl v
   obtain⟨v1,v2⟩:=v
   have fx:=aI h0<|aI h3<|aI hp3<|aI h4<|aI hil<|aI hi8<|aI hs<|aI hsE<|aI hx8<|hl
   have c1:=hsh
   refine qB ?_
   clear fx c1
   exact⟨l.length - (i+1),by omega,i+1,xs++[Hm.shown (v1,v2)],rfl,by omega,by rw [htk,hxs],by simp [hxl],by simp [h0],by simp,by simp,by simp;exact wrp (by omega) (by omega)⟩
 ·have hge:i=l.length:=by omega
  subst hge
  rw [List.take_length] at hxs
  subst hxs
  have fx:=aI h0<|aI h3<|aI hp3<|aI h4<|hil
  refine qB ?_
  clear fx
  refine qH [(.s 2,root)] (.one rfl) (by simp;rfl) ⟨by simp,by simp [hp3]⟩
end Go.Proofs.YtbgmnmnoaamgkaaGreatDoor
end
section
namespace Go.Proofs.YtbgmnmnoaamgkaaGreatDoor
open Go Go.Hm Go.Proofs
abbrev qQo:Sch:=.q 1<|.q 2<|.q 3<|.q 4<|.q 6<|.q 7<|.q 8<|.q 9<|.q 10<|.q 11<|.q 12<|.q 13<|.q 14<|.q 15<|.q 16<|.q 17<|.l 0 [17,16,15,14,13,12,11,10,9,8,7,6,4,3,2,1]<|.l 5 [17,16,15,14,13,12,11,10,9,8,7,6]<|.l 18 [13,12,11,10,9,8,7,6]<|.q 19<|.l 20 []<|.done
abbrev qQn:Sch:=.q 0<|.q 1<|.q 2<|.q 3<|.q 4<|.q 5<|.q 6<|.q 7<|.l 8 [7,6,5,4]<|.l 9 []<|.done
theorem qCD (gl) (p:Prg) (f:Int) (hs:Sml p):qW Tryz.prog gl 27 [pav p,iv f] (fun r y H'=>y=.agg ((qFJ p f).own r)∧OwnR H' r (qFJ p f)):=by
 refine qW.of_sem Tryz.func27 rfl (by kernel_rfl) (rs:=[.cell 4 53]) rfl Tryz.ntmps27 (lB rfl) fun C w g root=>?_
 cases hv:zr p f
 ·skip
  have fx:= hv
  have c1:=hv ▸ jU gl p f hs
  refine qB ?_
  repeat ((first|refine wSc (id:=4) qQo qA ?_);refine qD ?_;refine qB ?_)
  clear fx c1
  have hG:qFJ p f=⟨[],0,0,[]⟩:=by simp [qFJ,hv]
  rw [hG]
  refine qH [(.s 4,root)] (.one rfl) (by simp;rfl) ⟨by simp,⟨by simp,by simp⟩⟩
 ·obtain⟨hpo,n,rfl,hn⟩:=yK hv
  have hP:=ValP.of hs hpo
  have hLk:LookP p:=⟨hs,hP.sh⟩
  obtain⟨hb1,hb2,hgl8⟩:=wS (n:=n) hP hn
  have hol':(uZ p n).out.length≤1000:=by omega
  have hG:qFJ p n=qPO (uZ p n):=by simp [qFJ,hv]
  rw [hG]
  have fx:= hv
  have c1:=hv ▸ jU gl p n hs
  refine qB ?_
  repeat ((first|refine wSc (id:=4) qQo qA ?_);refine qD ?_;refine qB ?_)
  clear fx c1
  intro K hK
  have fx:=fx0
  refine qGm Xn rfl (by simp [ue,noH]) (hF:=qIC gl _ p n hP hLk hn (by simp [noH]) (by simp [noH])) (h:=?_)
  rintro y H1 ⟨rfl,hO1⟩
  clear fx
  obtain⟨a,b,c,d,k,hT1⟩:=hO1.top
  have hU1:=hO1.out
  have hG1:=hO1.glob
  have hR1:=hO1.trc
  have fx:=aI hT1<|aI hU1<|aI hG1<|aI hol'<|hgl8
  have d1:=qCn gl (uZ p n).globals hgl8
  refine qB ?_
  repeat ((first|refine wSc (id:=4) qQo qA ?_);refine qD ?_;refine qB ?_)
  clear fx d1
  refine qH [(.s 4,root)] (.one rfl) (by simp;rfl) ⟨by simp [qPO],⟨by simp [qPO],by simp [qPO]⟩⟩
theorem w8 (gl) (p:Prg) (f:Int) (hs:Sml p):qW Tryz.prog gl 22 [pav p,iv f] (fun r y H'=>y=.hs r 2 0 (qHr p f).length∧H' r=some (.row 2 (yI (qHr p f)))):=by
 refine qW.of_sem Tryz.func22 rfl (by kernel_rfl) (rs:=[.tmp 4]) rfl Tryz.ntmps22 (lB rfl) fun C w g root=>?_
 cases hv:zr p f
 ·skip
  have fx:= hv
  have c1:=hv ▸ jU gl p f hs
  refine qB ?_
  clear fx c1
  refine qH [(.s 4,root)] (.one rfl) (by simp;rfl) (by simp [qHr,hv])
 ·obtain⟨hpo,n,rfl,hn⟩:=yK hv
  have hP:=ValP.of hs hpo
  have hLk:LookP p:=⟨hs,hP.sh⟩
  obtain⟨hb1,hb2,hgl8⟩:=wS (n:=n) hP hn
  have hol':(uZ p n).trace.length≤1000:=by omega
  have hG:qHr p n=(uZ p n).trace:=by simp [qHr,hv]
  rw [hG]
  have fx:= hv
  have c1:=hv ▸ jU gl p n hs
  refine qB ?_
  clear fx c1
  intro K hK
  have fx:=fx0
  refine qGm Xn rfl (by simp [ue,noH]) (hF:=qIC gl _ p n hP hLk hn (by simp [noH]) (by simp [noH])) (h:=?_)
  rintro y H1 ⟨rfl,hO1⟩
  clear fx
  obtain⟨a,b,c,d,k,hT1⟩:=hO1.top
  have hU1:=hO1.out
  have hG1:=hO1.glob
  have hR1:=hO1.trc
  have fx:=aI hT1<|aI hR1<|hol'
  refine qB ?_
  clear fx
  refine qH [(.s 4,root)] (.one rfl) (by simp;rfl) ⟨by simp,by simp⟩
theorem qAk (gl) (p:Prg) (f:Int) (hs:Sml p):qW Tryz.prog gl 12 [pav p,iv f] (fun _ y _=>y=iv (qB1 p f)):=by
 refine qW.of_sem Tryz.func12 rfl (by kernel_rfl) (rs:=[.tmp 4]) rfl Tryz.ntmps12 (lB rfl) fun C w g root=>?_
 cases hv:zr p f
 ·skip
  have fx:= hv
  have c1:=hv ▸ jU gl p f hs
  refine qB ?_
  clear fx c1
  refine qH [] .nil (by simp;rfl) (by simp [qB1,hv])
 ·obtain⟨hpo,n,rfl,hn⟩:=yK hv
  have hP:=ValP.of hs hpo
  have hLk:LookP p:=⟨hs,hP.sh⟩
  obtain⟨hb1,hb2,hgl8⟩:=wS (n:=n) hP hn
  have fx:= hv
  have c1:=hv ▸ jU gl p n hs
  refine qB ?_
  clear fx c1
  intro K hK
  have fx:=fx0
  refine qGm Xn rfl (by simp [ue,noH]) (hF:=qIC gl _ p n hP hLk hn (by simp [noH]) (by simp [noH])) (h:=?_)
  rintro y H1 ⟨rfl,hO1⟩
  clear fx
  obtain⟨a,b,c,d,k,hT1⟩:=hO1.top
  have hU1:=hO1.out
  have hG1:=hO1.glob
  have hR1:=hO1.trc
  have fx:= hT1
  refine qB ?_
  clear fx
  refine qH [] .nil (by simp;rfl) (by simp [qB1,hv])
theorem qAM (gl) (p:Prg) (f:Int) (hs:Sml p):qW Tryz.prog gl 16 [pav p,iv f] (fun _ y _=>y=.tup [iv (uX p f).1,iv (uX p f).2]):=by
 refine qW.of_sem Tryz.func16 rfl (by kernel_rfl) (rs:=[.tmp 4,.tmp 5]) rfl Tryz.ntmps16 (lB rfl) fun C w g root=>?_
 cases hv:zr p f
 ·skip
  have fx:= hv
  have c1:=hv ▸ jU gl p f hs
  refine qB ?_
  repeat ((first|refine wSc (id:=4) qQn qA ?_);refine qD ?_;refine qB ?_)
  clear fx c1
  refine qH [] .nil (by simp;rfl) (by simp [uX,hv])
 ·obtain⟨hpo,n,rfl,hn⟩:=yK hv
  have hP:=ValP.of hs hpo
  have hLk:LookP p:=⟨hs,hP.sh⟩
  obtain⟨hb1,hb2,hgl8⟩:=wS (n:=n) hP hn
  have fx:= hv
  have c1:=hv ▸ jU gl p n hs
  refine qB ?_
  repeat ((first|refine wSc (id:=4) qQn qA ?_);refine qD ?_;refine qB ?_)
  clear fx c1
  intro K hK
  have fx:=fx0
  refine qGm Xn rfl (by simp [ue,noH]) (hF:=qIC gl _ p n hP hLk hn (by simp [noH]) (by simp [noH])) (h:=?_)
  rintro y H1 ⟨rfl,hO1⟩
  clear fx
  obtain⟨a,b,c,d,k,hT1⟩:=hO1.top
  have hU1:=hO1.out
  have hG1:=hO1.glob
  have hR1:=hO1.trc
  have fx:= hT1
  refine qB ?_
  repeat ((first|refine wSc (id:=4) qQn qA ?_);refine qD ?_;refine qB ?_)
  clear fx
  refine qH [] .nil (by simp;rfl) (by simp [uX,hv])
theorem uO (gl) (D:Nm→Bool) (hD:∀ k,D k=true→k.sroot=false) (H:Nm→Option AO) (R:List AV) (off k:Nat) (vs:List Val) (v:Val) (hr:H Yn=some (.row 4415 [R])) (hi:R[off+28]?=some (.hs (.c Yn 0 (off+28)) 2 0 (k+1))) (hs:H (.c Yn 0 (off+28))=some (.row 2 (zB vs))) (hv:vs[k]?=some v) (hk:k≤1000) (ho:off+29≤4415) :
  FnE Tryz.prog gl 173 D [.pt Yn off] H (qDn D (Val.av v) Yn (.row 4415 [spl R (off+28) [.hs (.c Yn 0 (off+28)) 2 0 k]]) H) noE:=by
 obtain⟨hil,hiE⟩:=gS hi
 obtain⟨hvl,hvE⟩:=gS hv
 obtain⟨v1,v2⟩:=v
 have hw1:IntKind.i64.wrap (k:Int)=k:=wrp (by omega) (by omega)
 have hl1:(k:Int)<(k:Int)+1:=by omega
 have hl2:(k:Int)≤(k:Int)+1:=by omega
 have hl0:(0:Int)≤(k:Int):=by omega
 refine FnE.of_sem Tryz.func173 rfl (by kernel_rfl) (rs:=[.cell 2 73]) rfl Tryz.ntmps173 (lB rfl) hD fun C w g root hroot=>?_
 have ho2:off+28+1≤4415:=ho
 have fx:=aI hr<|aI hi<|aI hiE<|aI hil<|aI ho2<|aI hs<|aI hv<|aI hvE<|aI hvl<|aI hw1<|aI hl0<|aI hl1<|hl2
 refine qB ?_
 repeat ((first|refine wSc (id:=1) (.q 0<|.q 1<|.q 2<|.q 3<|.q 4<|.q 5<|.q 6<|.q 7<|.q 8<|.q 9<|.q 10<|.q 11<|.l 12 [11,10,9,8,7,6,5,4,3,2,1,0]<|.l 13 []<|.done) qA ?_|refine wSc (id:=2) (.q 0<|.q 1<|.q 2<|.q 3<|.q 4<|.q 5<|.q 6<|.q 7<|.q 8<|.q 9<|.q 10<|.q 11<|.q 12<|.q 13<|.l 14 []<|.done) qA ?_);refine qD ?_;refine qB ?_)
 clear fx
 refine qH [] .nil (by simp;rfl) ⟨by simp,fun q hq=>?_⟩
 have hq2:=fun d=>(D_s hD hq d).1
 have hq3:=fun d=>(D_s hD hq d).2
 by_cases e:q=Yn
 ·subst e
  simp only [wX,hq,if_true]
  simp [AO.tr,spl,List.map_take,List.map_drop,qOi hD,-List.map_map]
 ·simp [wX,hq,hq2,hq3,e,qLm hD,-Option.map_map]
theorem jh (gl) (D:Nm→Bool) (hD:∀ k,D k=true→k.sroot=false) (H:Nm→Option AO) (R:List AV) (off:Nat) (vs js:List Val) (v:Val) (hDY:D Yn=true) (hDS:D (.c Yn 0 (off+28))=true) (hr:H Yn=some (.row 4415 [R])) (hi:R[off+28]?=some (.hs (.c Yn 0 (off+28)) 2 0 vs.length)) (hs:H (.c Yn 0 (off+28))=some (.row 2 (zB (vs++js)))) (hk:vs.length≤1000) (ho:off+29≤4415) :
  FnE Tryz.prog gl 153 D [.pt Yn off,Val.av v] H (qP2 D (.c Yn 0 (off+28)) (off+28) R (vs++[v]) H) noE:=by
 obtain⟨hil,hiE⟩:=gS hi
 obtain⟨v1,v2⟩:=v
 have ho2:off+28+1≤4415:=ho
 refine FnE.of_sem Tryz.func153 rfl (by kernel_rfl) (rs:=[]) rfl Tryz.ntmps153 (lB rfl) hD fun C w g root hroot=>?_
 have fx:=aI hr<|aI hi<|aI hiE<|aI hil<|aI ho2<|aI hs<|hk
 refine qB ?_
 repeat ((first|refine wSc (id:=1) (.q 0<|.q 1<|.q 2<|.q 3<|.q 4<|.q 5<|.l 6 [4,3,2,1,0]<|.l 7 [0]<|.q 8<|.q 9<|.l 10 []<|.done) qA ?_);refine qD ?_;refine qB ?_)
 clear fx
 refine zp [] .nil (by simp;rfl) ⟨?_,?_,fun q hq h1 h2=>?_⟩
 ·have e:=qYe (a:=3) (b:=10) (c:=11) (l:=R) hD hDS
  simp only [List.map_map] at e
  simp only [wX,hDY,if_true]
  simp [e,hDS,spl]
 ·simp only [wX,hDS,if_true]
  simp [zB]
 ·have hq2:=fun d=>(D_s hD hq d).1
  have hq3:=fun d=>(D_s hD hq d).2
  have h3:¬ Nm.c Yn 0 (off+28)=q:=by rintro rfl;simp at h2
  have e:=qYd (a:=3) (b:=10) (c:=11) (o:=H q) hD hDS
  simp only [Option.map_map] at e
  simp only [wX,hq,if_true]
  simp [hq2,hq3,h1,h2,h3,-Option.map_map,e]
  simp [e]
end Go.Proofs.YtbgmnmnoaamgkaaGreatDoor
end
section
namespace Go.Proofs.YtbgmnmnoaamgkaaGreatDoor
open Go Go.Hm Go.Proofs
theorem yM (gl) (D:Nm→Bool) (hD:∀ k,D k=true→k.sroot=false) (H:Nm→Option AO) (R:List AV) (e:Int) (hr:H Yn=some (.row 4415 [R])) (hl:R.length=4415) :
  FnE Tryz.prog gl 171 D [.pt Yn 0,iv e] H (qDn D (bv false) Yn (.row 4415 [spl R 3 [iv e]]) H) noE:=by
 refine FnE.of_sem Tryz.func171 rfl (by kernel_rfl) (rs:=[.tmp 4]) rfl Tryz.ntmps171 (lB rfl) hD fun C w g root hroot=>?_
 have fx:=aI hr<|hl
 refine qB ?_
 clear fx
 refine qH [] .nil (by simp;rfl) ⟨by simp,fun q hq=>?_⟩
 have hq2:=fun d=>(D_s hD hq d).1
 have hq3:=fun d=>(D_s hD hq d).2
 by_cases e:q=Yn
 ·subst e
  simp only [wX,hq,if_true]
  simp [AO.tr,spl,List.map_take,List.map_drop]
 ·simp [wX,hq,hq2,hq3,e]
theorem qDs (gl) (D:Nm→Bool) (hD:∀ k,D k=true→k.sroot=false) (hDY:D Yn=true) (H:Nm→Option AO) (R:List AV) (i:Nat) (hr:H Yn=some (.row 4415 [R])) (h:R[4411]?=some (iv ((i:Int)+1))) (hi:i<151) :
  FnE Tryz.prog gl 115 D [.pt Yn 0] H (qP0 D (.pt Yn (yo i)) H) noE:=by
 obtain⟨hil,hiE⟩:=gS h
 have hw1:IntKind.i64.wrap (i:Int)=i:=wrp (by omega) (by omega)
 have hl0:(0:Int)≤(i:Int):=by omega
 have hl1:(i:Int)<151:=by omega
 refine FnE.of_sem Tryz.func115 rfl (by kernel_rfl) (rs:=[.tmp 2]) rfl Tryz.ntmps115 (lB rfl) hD fun C w g root hroot=>?_
 have fx:=aI hr<|aI h<|aI hil<|aI hiE<|aI hw1<|aI hl0<|aI hl1<|hi
 refine qB ?_
 repeat ((first|refine wSc (id:=1) (.q 0<|.q 1<|.q 2<|.q 3<|.q 4<|.q 5<|.q 6<|.q 7<|.q 8<|.l 9 []<|.done) qA ?_);refine qD ?_;refine qB ?_)
 clear fx
 refine qH [] .nil (by simp;rfl) ⟨by simp [hDY,yo,Nat.mul_comm],fun q hq=>?_⟩
 have hq2:=fun d=>(D_s hD hq d).1
 have hq3:=fun d=>(D_s hD hq d).2
 simp [wX,hq,hq2,hq3]
def zh (s:Stm):AV :=
 if s.kind=0 then .ifc 198 (.agg [iv s.a]) else if s.kind=1 then .ifc 200 (.agg [iv s.a]) else if s.kind=2 then .ifc 202 (.agg [iv s.a,iv s.b])
 else if s.kind=3 then .ifc 168 (.agg [iv 1,iv s.a]) else if s.kind=4 then .ifc 168 (.agg [iv 2,iv s.a]) else if s.kind=5 then .ifc 204 (.agg [iv s.a,iv s.b])
 else if s.kind=6 then .ifc 206 (.agg [iv s.a,iv s.b]) else if s.kind=7 then .ifc 208 (.agg [iv s.a]) else if s.kind=8 then .ifc 209 (.agg [iv s.a])
 else if s.kind=9∨s.kind=10 then .ifc 211 (.agg []) else if s.kind=11 then .ifc 212 (.agg []) else .sc .nilIface
@[simp] theorem formAV_cln (s:Stm):(zh s).cln=true:=by
 unfold zh
 repeat' split
 all_goals simp
section
variable {n:Int} {to a b:Int}
@[simp] theorem qOg:zh ⟨0,to,a,b⟩=.ifc 198 (.agg [iv a]):=by simp [zh]
@[simp] theorem qOf:zh ⟨1,to,a,b⟩=.ifc 200 (.agg [iv a]):=by simp [zh]
@[simp] theorem qOe:zh ⟨2,to,a,b⟩=.ifc 202 (.agg [iv a,iv b]):=by simp [zh]
@[simp] theorem qOd:zh ⟨3,to,a,b⟩=.ifc 168 (.agg [iv 1,iv a]):=by simp [zh]
@[simp] theorem qOc:zh ⟨4,to,a,b⟩=.ifc 168 (.agg [iv 2,iv a]):=by simp [zh]
@[simp] theorem qOb:zh ⟨5,to,a,b⟩=.ifc 204 (.agg [iv a,iv b]):=by simp [zh]
@[simp] theorem qOa:zh ⟨6,to,a,b⟩=.ifc 206 (.agg [iv a,iv b]):=by simp [zh]
@[simp] theorem qO9:zh ⟨7,to,a,b⟩=.ifc 208 (.agg [iv a]):=by simp [zh]
@[simp] theorem qO8:zh ⟨8,to,a,b⟩=.ifc 209 (.agg [iv a]):=by simp [zh]
@[simp] theorem qO7:zh ⟨9,to,a,b⟩=.ifc 211 (.agg []):=by simp [zh]
@[simp] theorem qLk:zh ⟨10,to,a,b⟩=.ifc 211 (.agg []):=by simp [zh]
@[simp] theorem qLj:zh ⟨11,to,a,b⟩=.ifc 212 (.agg []):=by simp [zh]
theorem qGY {s:Stm} (h:¬ (0≤s.kind∧s.kind≤11)):zh s=.sc .nilIface:=by
 unfold zh
 repeat' split
 all_goals first|rfl|omega
theorem wD (n:Int):n=0∨n=1∨n=2∨n=3∨n=4∨n=5∨n=6∨n=7∨n=8∨n=9∨n=10∨n=11∨¬ (0≤n∧n≤11):=by omega
end
theorem jK (gl) (s:Stm):qW Tryz.prog gl 108 [s.av] (fun _ x _=>x=zh s):=by
 refine qW.of_sem Tryz.func108 rfl (by kernel_rfl) (rs:=[.tmp 2]) rfl Tryz.ntmps108 (lB rfl) fun C w g root=>?_
 all_goals have fx:=fx0
 repeat' (first
  | refine qN ?_|refine qJ ?_|refine qR ?_|refine qM fun K hK=>?_
  | ((with_reducible refine qK hK ?_);clear hK K)
  | (with_reducible first|refine qC ?_|refine qI ?_|refine qc ?_)
  | refine qX ?_
  | (with_reducible first|refine qG ?_|refine qE (h:=?_)|refine zG (h:=?_))
  | (with_reducible refine x_q (h:=?_))
  | refine qO (h1:=?_)
  | refine uk (h1:=fun ht=>?_) (h2:=fun ht=>?_)
  | fail)
 all_goals try clear fx
 all_goals refine qH [] .nil (by simp;rfl) ?_
 all_goals simp_all [zh]
theorem qFE (gl) (s:Stm):qW Tryz.prog gl 122 [s.av] (fun _ x _=>x=bv (decide (s.sets∨s.kind=11))):=by
 obtain⟨n,to,a,b⟩:=s
 refine qW.of_sem Tryz.func122 rfl (by kernel_rfl) (rs:=[.tmp 2]) rfl Tryz.ntmps122 (lB rfl) fun C w g root=>?_
 rcases wD n with rfl|rfl|rfl|rfl|rfl|rfl|rfl|rfl|rfl|rfl|rfl|rfl|hn
 case inr.inr.inr.inr.inr.inr.inr.inr.inr.inr.inr.inr =>
  have hf:zh ⟨n,to,a,b⟩=.sc .nilIface:=qGY hn
  have fx:= hf
  have c1:=jK gl ⟨n,to,a,b⟩
  refine qB ?_
  clear fx c1
  refine qH [] .nil (by simp;rfl) ?_
  have h1:¬ (0≤n∧n≤6∨n=11):=by omega
  simp [h1]
 all_goals
  all_goals have fx:=fx0
  repeat' (first
   | refine qN ?_|refine qJ ?_|refine qR ?_|refine qM fun K hK=>?_
   | ((with_reducible refine qK hK ?_);clear hK K)
   | (with_reducible first|refine qC ?_|refine qP ?_|refine qI ?_|refine qc ?_)
   | refine qX ?_
   | (with_reducible first|refine qG ?_|refine qE (h:=?_)|refine zG (h:=?_))
   | ((with_reducible refine qv 108 rfl ?_);refine qL (hF:=jK _ ⟨_,to,a,b⟩) (h:=?_))
   | (with_reducible refine x_q (h:=?_))
   | refine qO (h1:=?_)|refine qS (h1:=?_)
   | fail)
  all_goals try clear fx
 all_goals refine qH [] .nil (by simp;rfl) ?_
 all_goals simp
theorem yk (gl) (p:Prg) (b:Int):qW Tryz.prog gl 48 [pav p,iv b] (fun _ x _=>x=bv (decide (0≤b∧b<p.length))):=by
 refine qW.of_sem Tryz.func48 rfl (by kernel_rfl) (rs:=[.tmp 4]) rfl Tryz.ntmps48 (lB rfl) fun C w g root=>?_
 all_goals have fx:=fx0
 repeat' (first
  | refine qN ?_|refine qM fun K hK=>?_
  | ((with_reducible refine qK hK ?_);clear hK K)
  | (with_reducible first|refine qC ?_)
  | refine qX ?_
  | (with_reducible refine qG ?_)
  | ((with_reducible refine yV ?_);refine q6 (h:=?_))
  | (with_reducible first|refine ze ?_|refine vG (h:=?_)|refine qE (h:=?_)|refine zG (h:=?_))
  | (with_reducible refine x_q (h:=?_))
  | (with_reducible refine vC (fun ht=>?_) (fun ht=>?_))
  | fail)
 all_goals try clear fx
 all_goals refine qH [] .nil (by simp;rfl) ?_
 all_goals simp_all
 all_goals omega
end Go.Proofs.YtbgmnmnoaamgkaaGreatDoor
end
section
namespace Go.Proofs.YtbgmnmnoaamgkaaGreatDoor
open Go Go.Hm Go.Proofs
theorem qH4 (gl) (i:Nat) (k:Blk):qW Tryz.prog gl 106 [iv i,k.av] (fun _ x _=>x=bv (vO i k)):=by
 obtain⟨kind,parent,params,body⟩:=k
 refine qW.of_sem Tryz.func106 rfl (by kernel_rfl) (rs:=[.tmp 4]) rfl Tryz.ntmps106 (lB rfl) fun C w g root=>?_
 rcases params with _|⟨x,_|⟨y,l⟩⟩
 ·skip
  all_goals have fx:=fx0
  repeat' (first
   | refine qN ?_|refine qJ ?_|refine qR ?_|refine qM fun K hK=>?_
   | ((with_reducible refine qK hK ?_);clear hK K)
   | (with_reducible first|refine qC ?_|refine qI ?_|refine qc ?_)
   | refine qX ?_
   | (with_reducible refine qG ?_)
   | ((with_reducible refine yV ?_);refine q6 (h:=?_))
   | (with_reducible first|refine ze ?_|refine jE ?_|refine vG (h:=?_)|refine vj (h:=?_)|refine x_u (h:=?_)|refine qE (h:=?_)|refine zG (h:=?_))
   | (with_reducible refine x_q (h:=?_))
   | (with_reducible refine vC (fun ht=>?_) (fun ht=>?_))
   | refine qO (h1:=?_)
   | refine uk (h1:=fun ht=>?_) (h2:=fun ht=>?_)
   | fail)
  all_goals try clear fx
  all_goals refine qH [] .nil (by simp;rfl) ?_
  all_goals simp_all [vO,jL]
  all_goals grind
 ·skip
  all_goals have fx:=fx0
  repeat' (first
   | refine qN ?_|refine qJ ?_|refine qR ?_|refine qM fun K hK=>?_
   | ((with_reducible refine qK hK ?_);clear hK K)
   | (with_reducible first|refine qC ?_|refine qI ?_|refine qc ?_)
   | refine qX ?_
   | (with_reducible refine qG ?_)
   | ((with_reducible refine yV ?_);refine q6 (h:=?_))
   | (with_reducible first|refine ze ?_|refine jE ?_|refine vG (h:=?_)|refine vj (h:=?_)|refine qE (h:=?_)|refine zG (h:=?_))
   | ((with_reducible refine qv 143 rfl ?_);refine qL (hF:=zx _ x) (h:=?_))
   | (with_reducible refine x_q (h:=?_))
   | (with_reducible refine vC (fun ht=>?_) (fun ht=>?_))
   | refine qO (h1:=?_)
   | refine uk (h1:=fun ht=>?_) (h2:=fun ht=>?_)
   | fail)
  all_goals try clear fx
  all_goals refine qH [] .nil (by simp;rfl) ?_
  all_goals simp_all [vO,jL]
  all_goals grind
 ·have h1:((l.length:Int)+1+1==1)=false:=by simp;omega
  have h0:((l.length:Int)+1+1==0)=false:=by simp;omega
  all_goals have fx:=aI h0<|h1
  repeat' (first
   | refine qN ?_|refine qJ ?_|refine qR ?_|refine qM fun K hK=>?_
   | ((with_reducible refine qK hK ?_);clear hK K)
   | (with_reducible first|refine qC ?_|refine qI ?_|refine qc ?_)
   | refine qX ?_
   | (with_reducible refine qG ?_)
   | ((with_reducible refine yV ?_);refine q6 (h:=?_))
   | (with_reducible first|refine ze ?_|refine jE ?_|refine vG (h:=?_)|refine vj (h:=?_)|refine qE (h:=?_)|refine zG (h:=?_))
   | (with_reducible refine x_q (h:=?_))
   | (with_reducible refine vC (fun ht=>?_) (fun ht=>?_))
   | refine qO (h1:=?_)
   | refine uk (h1:=fun ht=>?_) (h2:=fun ht=>?_)
   | fail)
  all_goals try clear fx
  all_goals refine qH [] .nil (by simp;rfl) ?_
  all_goals simp_all [vO,jL]
  all_goals grind
theorem qGP {p:Prg} {b j:Nat} {q:Blk} {d:Int} (hh:zj p) (hq:p[j]?=some q):vM p b j d=((q.kind==d)&&(q.parent==b)):=by
 have hj:j<p.length:=(gS hq).1
 obtain⟨_,h2,_⟩:=hh j q hq
 simp only [vM,Int.toNat_natCast,hq]
 by_cases h:q.parent=b
 ·have:(b:Int)+1≤j∧(j:Int)≤p.length - 1:=by omega
  simp [this]
 ·simp [h]
theorem qGO {p:Prg} {b:Nat} {j d:Int} (h:¬ (0≤j∧j<p.length)):vM p b j d=false:=by
 have:¬ ((b:Int)+1≤j∧j≤(p.length:Int) - 1):=by omega
 simp [vM,this]
theorem wq (gl) (p:Prg) (b:Nat) (k:Blk) (s:Stm) (hk:p[b]?=some k) (hh:zj p) (hd:jL b k):qW Tryz.prog gl 107 [pav p,iv b,s.av] (fun _ x _=>x=bv (zt p b k s)):=by
 obtain⟨n,to,a,c⟩:=s
 have hb0:(k.kind=0)↔b=0:=by
  unfold jL at hd
  split at hd <;> omega
 refine qW.of_sem Tryz.func107 rfl (by kernel_rfl) (rs:=[.tmp 6]) rfl Tryz.ntmps107 (lB rfl) fun C w g root=>?_
 by_cases hto:0≤to∧to≤7
 case neg =>
  have h1:(decide (0≤to)&&decide (to≤7))=false:=by simp;omega
  have fx:= h1
  have c1:=zx gl to
  refine qB ?_
  clear fx c1
  refine qH [] .nil (by simp;rfl) ?_
  simp [zt,h1]
 have h1:(decide (0≤to)&&decide (to≤7))=true:=by simp;omega
 rcases wD n with rfl|rfl|rfl|rfl|rfl|rfl|rfl|rfl|rfl|rfl|rfl|rfl|hn
 case inr.inr.inr.inr.inr.inr.inr.inr.inr.inr.inr.inr =>
  have hf:zh ⟨n,to,a,c⟩=.sc .nilIface:=qGY hn
  have fx:=aI h1<|hf
  have c1:=zx gl to
  have c2:=jK gl ⟨n,to,a,c⟩
  refine qB ?_
  clear fx c1 c2
  refine qH [] .nil (by simp;rfl) ?_
  have h2:¬ (n=0∨n=1∨n=2∨n=3∨n=4∨n=5∨n=6∨n=7∨n=8∨n=9∨n=10∨n=11):=by omega
  simp only [not_or] at h2
  simp [zt,h2]
 case inr.inr.inr.inl =>
  by_cases ha:0≤a∧a<p.length
  ·obtain⟨j,rfl⟩:∃ j:Nat,a=j:=⟨a.toNat,by omega⟩
   obtain⟨q,hq⟩:∃ q,p[j]?=some q:=⟨_,gE (by omega)⟩
   obtain⟨h2,h3⟩:=gS hq
   all_goals have fx:=aI h1<|aI hq<|aI h2<|h3
   repeat' (first
    | refine qN ?_|refine qJ ?_|refine qR ?_|refine qM fun K hK=>?_
    | ((with_reducible refine qK hK ?_);clear hK K)
    | (with_reducible first|refine qC ?_|refine qP ?_|refine qI ?_|refine qc ?_)
    | refine qX ?_
    | (with_reducible refine qG ?_)
    | ((with_reducible refine yV ?_);refine q6 (h:=?_))
    | (with_reducible first|refine ze ?_|refine jE ?_|refine vG (h:=?_)|refine vj (h:=?_)|refine x_u (h:=?_)|refine qE (h:=?_)|refine zG (h:=?_)|refine qg (h:=?_)|refine qU (h:=?_)|refine jY (h:=?_))
    | ((with_reducible refine qv 143 rfl ?_);refine qL (hF:=zx _ to) (h:=?_))
    | ((with_reducible refine qv 108 rfl ?_);refine qL (hF:=jK _ ⟨_,to,_,c⟩) (h:=?_))
    | ((with_reducible refine qv 48 rfl ?_);refine qL (hF:=yk _ p _) (h:=?_))
    | (with_reducible refine x_q (h:=?_))
    | (with_reducible refine vC (fun ht=>?_) (fun ht=>?_))
    | refine qO (h1:=?_)|refine qS (h1:=?_)
    | refine uk (h1:=fun ht=>?_) (h2:=fun ht=>?_)
    | fail)
   all_goals try clear fx
   all_goals refine qH [] .nil (by simp;rfl) ?_
   all_goals simp_all [zt,qGP,Stm.reads]
  ·have h2:¬ (0≤a∧a<p.length):=ha
   all_goals have fx:=aI h1<|h2
   repeat' (first
    | refine qN ?_|refine qJ ?_|refine qR ?_|refine qM fun K hK=>?_
    | ((with_reducible refine qK hK ?_);clear hK K)
    | (with_reducible first|refine qC ?_|refine qP ?_|refine qI ?_|refine qc ?_)
    | refine qX ?_
    | (with_reducible refine qG ?_)
    | ((with_reducible refine yV ?_);refine q6 (h:=?_))
    | (with_reducible first|refine ze ?_|refine jE ?_|refine vG (h:=?_)|refine vj (h:=?_)|refine x_u (h:=?_)|refine qE (h:=?_)|refine zG (h:=?_)|refine qg (h:=?_)|refine qU (h:=?_)|refine jY (h:=?_))
    | ((with_reducible refine qv 143 rfl ?_);refine qL (hF:=zx _ to) (h:=?_))
    | ((with_reducible refine qv 108 rfl ?_);refine qL (hF:=jK _ ⟨_,to,_,c⟩) (h:=?_))
    | ((with_reducible refine qv 48 rfl ?_);refine qL (hF:=yk _ p _) (h:=?_))
    | (with_reducible refine x_q (h:=?_))
    | (with_reducible refine vC (fun ht=>?_) (fun ht=>?_))
    | refine qO (h1:=?_)|refine qS (h1:=?_)
    | refine uk (h1:=fun ht=>?_) (h2:=fun ht=>?_)
    | fail)
   all_goals try clear fx
   all_goals refine qH [] .nil (by simp;rfl) ?_
   all_goals simp [zt,qGO h2]
 case inr.inr.inr.inr.inl =>
  by_cases ha:0≤a∧a<p.length
  ·obtain⟨j,rfl⟩:∃ j:Nat,a=j:=⟨a.toNat,by omega⟩
   obtain⟨q,hq⟩:∃ q,p[j]?=some q:=⟨_,gE (by omega)⟩
   obtain⟨h2,h3⟩:=gS hq
   all_goals have fx:=aI h1<|aI hq<|aI h2<|h3
   repeat' (first
    | refine qN ?_|refine qJ ?_|refine qR ?_|refine qM fun K hK=>?_
    | ((with_reducible refine qK hK ?_);clear hK K)
    | (with_reducible first|refine qC ?_|refine qP ?_|refine qI ?_|refine qc ?_)
    | refine qX ?_
    | (with_reducible refine qG ?_)
    | ((with_reducible refine yV ?_);refine q6 (h:=?_))
    | (with_reducible first|refine ze ?_|refine jE ?_|refine vG (h:=?_)|refine vj (h:=?_)|refine x_u (h:=?_)|refine qE (h:=?_)|refine zG (h:=?_)|refine qg (h:=?_)|refine qU (h:=?_)|refine jY (h:=?_))
    | ((with_reducible refine qv 143 rfl ?_);refine qL (hF:=zx _ to) (h:=?_))
    | ((with_reducible refine qv 108 rfl ?_);refine qL (hF:=jK _ ⟨_,to,_,c⟩) (h:=?_))
    | ((with_reducible refine qv 48 rfl ?_);refine qL (hF:=yk _ p _) (h:=?_))
    | (with_reducible refine x_q (h:=?_))
    | (with_reducible refine vC (fun ht=>?_) (fun ht=>?_))
    | refine qO (h1:=?_)|refine qS (h1:=?_)
    | refine uk (h1:=fun ht=>?_) (h2:=fun ht=>?_)
    | fail)
   all_goals try clear fx
   all_goals refine qH [] .nil (by simp;rfl) ?_
   all_goals simp_all [zt,qGP,Stm.reads]
  ·have h2:¬ (0≤a∧a<p.length):=ha
   all_goals have fx:=aI h1<|h2
   repeat' (first
    | refine qN ?_|refine qJ ?_|refine qR ?_|refine qM fun K hK=>?_
    | ((with_reducible refine qK hK ?_);clear hK K)
    | (with_reducible first|refine qC ?_|refine qP ?_|refine qI ?_|refine qc ?_)
    | refine qX ?_
    | (with_reducible refine qG ?_)
    | ((with_reducible refine yV ?_);refine q6 (h:=?_))
    | (with_reducible first|refine ze ?_|refine jE ?_|refine vG (h:=?_)|refine vj (h:=?_)|refine x_u (h:=?_)|refine qE (h:=?_)|refine zG (h:=?_)|refine qg (h:=?_)|refine qU (h:=?_)|refine jY (h:=?_))
    | ((with_reducible refine qv 143 rfl ?_);refine qL (hF:=zx _ to) (h:=?_))
    | ((with_reducible refine qv 108 rfl ?_);refine qL (hF:=jK _ ⟨_,to,_,c⟩) (h:=?_))
    | ((with_reducible refine qv 48 rfl ?_);refine qL (hF:=yk _ p _) (h:=?_))
    | (with_reducible refine x_q (h:=?_))
    | (with_reducible refine vC (fun ht=>?_) (fun ht=>?_))
    | refine qO (h1:=?_)|refine qS (h1:=?_)
    | refine uk (h1:=fun ht=>?_) (h2:=fun ht=>?_)
    | fail)
   all_goals try clear fx
   all_goals refine qH [] .nil (by simp;rfl) ?_
   all_goals simp [zt,qGO h2]
 all_goals
  all_goals have fx:=aI h1<|hk
  repeat' (first
   | refine qN ?_|refine qJ ?_|refine qR ?_|refine qM fun K hK=>?_
   | ((with_reducible refine qK hK ?_);clear hK K)
   | (with_reducible first|refine qC ?_|refine qP ?_|refine qI ?_|refine qc ?_)
   | refine qX ?_
   | (with_reducible refine qG ?_)
   | ((with_reducible refine yV ?_);refine q6 (h:=?_))
   | (with_reducible first|refine ze ?_|refine jE ?_|refine vG (h:=?_)|refine vj (h:=?_)|refine x_u (h:=?_)|refine qE (h:=?_)|refine zG (h:=?_)|refine qg (h:=?_)|refine qU (h:=?_)|refine jY (h:=?_))
   | ((with_reducible refine qv 143 rfl ?_);refine qL (hF:=zx _ _) (h:=?_))
   | ((with_reducible refine qv 108 rfl ?_);refine qL (hF:=jK _ ⟨_,to,a,c⟩) (h:=?_))
   | (with_reducible refine x_q (h:=?_))
   | (with_reducible refine vC (fun ht=>?_) (fun ht=>?_))
   | refine qO (h1:=?_)|refine qS (h1:=?_)
   | refine uk (h1:=fun ht=>?_) (h2:=fun ht=>?_)
   | fail)
  all_goals try clear fx
 all_goals refine qH [] .nil (by simp [hk];rfl) ?_
 all_goals simp_all [zt,Stm.reads]
 all_goals first|omega|grind
end Go.Proofs.YtbgmnmnoaamgkaaGreatDoor
end
