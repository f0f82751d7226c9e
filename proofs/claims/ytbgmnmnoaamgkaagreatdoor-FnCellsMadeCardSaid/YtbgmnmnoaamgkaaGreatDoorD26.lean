/-
  Own texts, joined by mkclaim.py: Yi, Pd, Pe, Pf, Pg, Ph, Phr, Yj, Za, Zb, Ha, Hb, Hc, Hd.
-/
import Derived.Test.YtbgmnmnoaamgkaaGreatDoorD24
import Derived.Test.YtbgmnmnoaamgkaaGreatDoorD25
import Derived.Test.YtbgmnmnoaamgkaaGreatDoorD15
import Derived.Test.YtbgmnmnoaamgkaaGreatDoorD17
import Derived.Test.YtbgmnmnoaamgkaaGreatDoorD12
import Derived.Test.YtbgmnmnoaamgkaaGreatDoorD20
import Derived.Test.YtbgmnmnoaamgkaaGreatDoorD09
set_option linter.unusedSimpArgs false
set_option linter.unusedVariables false
set_option maxRecDepth 100000
set_option maxHeartbeats 4000000

section
namespace Go.Proofs.YtbgmnmnoaamgkaaGreatDoor
open Go Go.Hm Go.Proofs
abbrev qEW:Sch:=.q 0<|.q 1<|.q 2<|.q 3<|.q 4<|.q 5<|.q 6<|.l 7 [4,3,2,1,0]<|.l 8 [4,3,2,1,0]<|.l 9 [0]<|.q 10<|.q 11<|.l 12 []<|.done
abbrev qEV:Sch:=.q 0<|.q 1<|.q 2<|.q 3<|.q 4<|.q 5<|.q 6<|.q 7<|.q 8<|.q 9<|.l 10 [5,0]<|.q 11<|.q 12<|.l 13 []<|.done
theorem qMY:∀ {k:Nm},Nm.under (.u 1 0 0) k=true→Nm.under (.u 2 0 0) k=false
 | .s d,h=>by simp [Nm.under]
 | .u a b c,h=>by simp [Nm.under] at h ⊢;omega
 | .c q i j,h=>by
  simp [Nm.under] at h ⊢
  exact qMY h
theorem qPV (gl) (H:Nm→Option AO) (p:Prg) (n:Nat) (hP:ValP p) (hL:LookP p) (hn:n≤150) (h1:H (.u 1 0 0)=none) (h2:H (.u 2 0 0)=none) :
  FnE Tryz.prog gl 40 (Nm.under Xn) [pav p,iv n] H (fun _ y H'=>y=.pt Xn 0∧EndX0 H' p (uJ p n) (uJ p n).deep) noE:=by
 have hlen:=hP.sh.len
 refine FnE.of_sem Tryz.func40 rfl (by kernel_rfl) (rs:=[.tmp 4]) rfl Tryz.ntmps40 (lB rfl) (fun _=>q9 rfl) fun C w g root hroot=>?_
 have fx:=fx0
 have p1:=qOi gl p hL
 have d1:=qA8 gl
 refine qBY ?_
 repeat ((first|refine wSc (id:=6) qEW qA ?_|refine wSc (id:=9) qEV qA ?_);refine qEp ?_;refine qBY ?_)
 clear fx p1 d1
 have hl1:1≤p.length:=by omega
 refine qM4 (.s 5) (.u 1 0 0) (.inl rfl) (.inr (by simp [un,h1])) (qM4 (.s 33) (.c (.c Xn 0 1) 0 0) (.inl rfl) (.inl rfl) ?_)
 refine qY (fun k s=>∃ b:Nat,k=p.length - b∧1≤b∧b≤p.length∧s.tm 2=.pt (.s 2) 0∧s.hp (.s 2)=some (.row 1 [[ksl p]])∧s.tm 5=.pt Xn 0∧s.tm 6=iv b∧PreX s.hp p n b) (p.length - 1) ?_ ?_
 ·refine⟨1,rfl,by omega,hl1,by simp,by simp,by simp,by simp,⟨by simp,by simp,by simp,by simp,by simp,by simp,by simp,by simp,by simp⟩⟩
 rintro k s - - ⟨b,rfl,hb1,hbl,t2,p2,t5,t6,hX⟩
 have hT:=hX.top
 by_cases hil:b<p.length
 ·obtain⟨k,hk⟩:∃ k,p[b]?=some k:=⟨_,gE hil⟩
  have hC:=hX.caps
  have hCl:=qMI (p:=p) hb1
  have hCa:=qMJ (p:=p) hb1
  have hb7:b≤7:=by omega
  have fx:=aI t2<|aI p2<|aI t5<|aI t6<|aI hT<|aI hC<|aI hCl<|aI hil<|hb7
  have p1:=qHh gl p b k hk hP.sh hL
  refine qBY ?_
  repeat ((first|refine wSc (id:=6) qEW qA ?_|refine wSc (id:=9) qEV qA ?_);refine qEp ?_;refine qBY ?_)
  clear fx p1
  have htk:(qBj p b).take b=qBj p b:=List.take_of_length_le (by omega)
  exact⟨p.length - (b+1),by omega,b+1,rfl,by omega,by omega,by simp [t2],by simp [p2],by simp [t5],by simp;exact wrp (by omega) (by omega),⟨by simp,by simp [htk,hCa],by simp [hX.cells],by simp [hX.glob],by simp [hX.funs],by simp [hX.clss],by simp [hX.fr],by simp [hX.out],by simp [hX.trc]⟩⟩
 obtain rfl:b=p.length:=by omega
 have hOw:=hX.own (by omega)
 have fx:=aI t2<|aI p2<|aI t5<|aI t6<|hT
 refine qB ?_
 repeat ((first|refine wSc (id:=6) qEW qA ?_|refine wSc (id:=9) qEV qA ?_);refine qC ?_;refine qB ?_)
 clear fx
 intro K hK
 refine qC7 44 (.s 44) 1 0 [] ?_ ?_ rfl (by simp) ?_
 ·simp
 ·simp
 refine qOO (.c Xn 0 6) (.u 2 0 0) (.inl rfl) (.inr (by simp [un,h2])) ?_
 refine yr (fun s=>s.tm 42=.pt Xn 0∧s.tm 43=.pt Xn 0∧s.tm 44=isl []∧s.tm 5=.pt Xn 0∧OwnX s.hp p (.u 2 0 0) (qT n) 0) ⟨by simp,by simp,by simp,by simp [t5],OwnX.mvF (n:=.c Xn 0 6) (have h:=hOw;OwnX.re h) (.inl ⟨rfl,rfl⟩)⟩ ?_
 clear t2 p2 t5 t6 hT hX hOw
 rintro s ⟨t42,t43,t44,t5,hO⟩
 have hT:=hO.top
 obtain⟨js,hF⟩:=hO.fr.top
 simp only [jR,qT] at hT hF
 have hBg:qPH p (qT n) 0 [] 0 (List.replicate (qI p 0).length none) ([]++List.replicate (qE p 0).length none):=.inl ⟨rfl,rfl,rfl⟩
 have hfin:=hBg.fin (cs:=[]) rfl
 have hst:qL p n=qk p (qT n) 0 [] []:=rfl
 rw [← hst] at hfin
 have fx:=aI t42 (aI t43 t44)
 refine yM (.c (.s 45) 0 3) (.s 30) (.inl rfl) (.inl rfl) ?_
 refine yM (.c (.s 45) 0 5) (.s 31) (.inl rfl) (.inl rfl) ?_
 refine yM (.c (.s 45) 0 6) (.s 32) (.inl rfl) (.inl rfl) ?_
 refine jo (by simp [hT]) (by simp [hF]) (hF:=wi _ _ p (qT n) 0 [] 0 (by omega) (by simp [qT]) (by simp) (by simp [qT]) (have h:=hO;OwnX.re h)) (h:=?_)
 rintro y H1 ⟨rfl,h3,h5,h6,hO1⟩
 clear fx
 have hT1:=hO1.top
 obtain⟨js1,hF1⟩:=hO1.fr.top
 simp only [jR,qT] at hT1 hF1
 obtain⟨hfin1,hfin2⟩:qL p n={ qT n with cells:=List.replicate (qE p 0).length none,made:=1,deep:=1,frames:=[⟨0,0,List.replicate (qI p 0).length none,(List.range (qE p 0).length).map ((qT n).cells.length+·),qe,[]⟩] }∧True:=⟨by rw [hfin];simp [qT],trivial⟩
 have fx:=aI t42<|aI t43<|aI t44<|aI t5<|aI hT<|aI hF<|aI hT1<|aI hF1<|aI h3<|aI h5<|h6
 refine qB ?_
 repeat ((first|refine wSc (id:=6) qEW qA ?_|refine wSc (id:=9) qEV qA ?_);refine qC ?_;refine qB ?_)
 clear fx
 have hr0:(qT n).cells.length=0:=rfl
 obtain⟨N,n1,n2,n3,n4⟩:=qKp hP hn
 refine qY (fun k s=>∃ i:Nat,k=N - i∧i≤N∧s.tm 5=.pt Xn 0∧(OwnX s.hp p (.c Xn 0 6) (zN p i (qL p n)) (kA p i (qL p n) 0)∨(i=N∧(zN p i (qL p n)).en≠0∧EndX0 s.hp p (zN p i (qL p n)) (kA p i (qL p n) 0)))) N ?_ ?_
 ·refine⟨0,by omega,by omega,by simp [t5,hT],.inl ?_⟩
  simp only [zN,kA]
  rw [hfin1]
  refine⟨?_,?_,?_,?_,?_,?_,?_,?_,⟨[],?_⟩,fun i1 g hg=>?_,fun i1 g hg=>?_,fun i1 g hg=>?_⟩
  ·simp [jR,qT]
  ·simp [hO1.caps]
  ·have:=hO1.cells
   simp [qT] at this
   simp [this]
  ·simp [hO1.glob]
  ·simp [hO1.funs]
  ·simp [hO1.clss]
  ·simp [hO1.out]
  ·simp [hO1.trc]
  ·simp [qh,z9,vN,j7]
  ·have:i1=0∧g=⟨0,0,List.replicate (qI p 0).length none,(List.range (qE p 0).length).map ((qT n).cells.length+·),qe,[]⟩:=by
    have hl:=(gS hg).1
    simp at hl
    subst hl
    simp at hg
    exact⟨rfl,hg.symm⟩
   obtain⟨rfl,rfl⟩:=this
   simp [h3]
  ·have:i1=0∧g=⟨0,0,List.replicate (qI p 0).length none,(List.range (qE p 0).length).map ((qT n).cells.length+·),qe,[]⟩:=by
    have hl:=(gS hg).1
    simp at hl
    subst hl
    simp at hg
    exact⟨rfl,hg.symm⟩
   obtain⟨rfl,rfl⟩:=this
   simp [h5]
  ·have:i1=0∧g=⟨0,0,List.replicate (qI p 0).length none,(List.range (qE p 0).length).map ((qT n).cells.length+·),qe,[]⟩:=by
    have hl:=(gS hg).1
    simp at hl
    subst hl
    simp at hg
    exact⟨rfl,hg.symm⟩
   obtain⟨rfl,rfl⟩:=this
   exact⟨[],by simp [h6,qt]⟩
 clear t42 t43 t44 t5 hT hF hT1 hF1 h3 h5 h6 hO hO1
 rintro k s - - ⟨i,rfl,hi,t5,hI⟩
 refine qMl (Nm.under (.u 2 0 0)) ?_
 refine yd (fun s=>s.tm 5=.pt Xn 0∧s.hp (.u 2 0 0)=none∧(OwnX s.hp p (.c Xn 0 6) (zN p i (qL p n)) (kA p i (qL p n) 0)∨(i=N∧(zN p i (qL p n)).en≠0∧EndX0 s.hp p (zN p i (qL p n)) (kA p i (qL p n) 0)))) ⟨by simp [t5],by simp,?_⟩ ?_
 ·have hk:∀ k,Nm.under Xn k=true→Nm.under (.u 2 0 0) k=false:=fun k h=>qMY h
  rcases hI with h|⟨h1,h2,h3⟩
  ·exact .inl (h.ren1 (F:=some) (fun _ _=>rfl) fun q hq=>by rw [qG8,hk q hq];cases s.hp q <;> simp [AO.tr_some])
  ·exact .inr ⟨h1,h2,h3.cong fun q hq=>by rw [qG8,hk q hq];rfl⟩
 clear t5 hI s
 rintro s ⟨t5,hU,hI⟩
 by_cases hiN:i<N
 ·have hne:=n1 i hiN
  obtain⟨fs,f,hfr,hM⟩:=(qCN hP hn i).resolve_left hne
  have hen:(zN p i (qL p n)).en=0:=by
   by_cases h:(zN p i (qL p n)).en=0
   ·exact h
   ·exact absurd (.inr h) hne
  have hO:=hI.resolve_right fun h=>by omega
  have hsn:=qAQ i hne
  have hnt:=qAx (d:=0) i hne
  rw [hfr] at hnt
  simp only [List.length_append,List.length_singleton] at hnt
  have hT:=hO.top
  obtain⟨js,hF⟩:=hO.fr.top
  simp only [jR,hfr,hen,List.length_append,List.length_singleton] at hT hF
  have hl0:(0:Int)<(fs.length:Int)+1:=by omega
  have fx:=aI t5<|aI hT<|aI hF<|hl0
  refine qB ?_
  repeat ((first|refine wSc (id:=6) qEW qA ?_|refine wSc (id:=9) qEV qA ?_);refine qC ?_;refine qB ?_)
  clear fx
  intro K hK
  have fx:=aI t5 (aI hT hF)
  refine qPq (i:=(kA p i (qL p n) 0:Int)) (j:=(fs.length:Int)+1) (kA p (i+1) (qL p n) 0:Nat) (by rw [hnt];omega) (h:=?_)
  clear fx
  have fx:=aI t5<|aI hT<|hF
  refine qB ?_
  repeat ((first|refine wSc (id:=6) qEW qA ?_|refine wSc (id:=9) qEV qA ?_);refine qC ?_;refine qB ?_)
  clear fx
  intro K hK
  have fx:=aI t5 (aI hT hF)
  refine qKS Xn rfl (by simp [un,noH]) (hF:=qJK gl _ p (zN p i (qL p n)) fs f (kA p (i+1) (qL p n) 0) hP hM hfr hen (have h:=hO;OwnX.re h (h0:=by simp [jR,hfr,hen])) (by simp [hU])) (h:=?_)
  rintro y H1 hO1
  clear fx
  rw [← hsn] at hO1
  have fx:= t5
  refine qB ?_
  repeat ((first|refine wSc (id:=6) qEW qA ?_|refine wSc (id:=9) qEV qA ?_);refine qC ?_;refine qB ?_)
  clear fx
  refine⟨N - (i+1),by omega,i+1,rfl,by omega,by simp [t5],?_⟩
  rcases hO1 with h|⟨h1,h2⟩
  ·exact .inl (have h:=h;OwnX.re h)
  ·have hN1:i+1=N:=by
    by_cases e:i+1<N
    ·exact absurd (.inr h1) (n1 _ e)
    ·omega
   exact .inr ⟨hN1,h1,h2.cong fun q hq=>by simp [hq]⟩
 ·obtain rfl:i=N:=by omega
  rw [n3,n4] at hI
  rw [n3] at n2
  have hE:EndX0 s.hp p (uJ p n) (uJ p n).deep:=by
   rcases hI with h|⟨-,-,h⟩
   ·exact h.end0
   ·exact h
  obtain⟨a,b,c,d,k,hT⟩:=hE.top
  have hk:k=0∨(uJ p n).en≠0:=by
   rcases hI with h|⟨-,h,-⟩
   ·rcases n2 with h1|h1
    ·have h2:=h.top
     rw [hT] at h2
     simp only [jR,h1] at h2
     injection h2 with h2
     injection h2 with _ h2
     injection h2 with h2
     injection h2 with _ h2
     injection h2 with _ h2
     injection h2 with _ h2
     injection h2 with _ h2
     injection h2 with _ h2
     injection h2 with _ h2
     injection h2 with h2
     injection h2 with _ _ _ h2
     exact .inl h2
    ·exact .inr h1
   ·exact .inr h
  by_cases hk0:k=0
  ·subst hk0
   have fx:=aI t5<|hT
   refine qB ?_
   repeat ((first|refine wSc (id:=6) qEW qA ?_|refine wSc (id:=9) qEV qA ?_);refine qC ?_;refine qB ?_)
   clear fx
   refine qF [] .nil (by simp;rfl) ⟨rfl,EndX0.fin (hE.cong fun q hq=>by simp) (fun _=>q9 rfl) (fun _ h=>h)⟩
  ·have he:=hk.resolve_left hk0
   have hk1:0<k:=by omega
   have heb:((uJ p n).en==0)=false:=by simpa using he
   have fx:=aI t5<|aI hT<|aI hk1<|heb
   refine qB ?_
   repeat ((first|refine wSc (id:=6) qEW qA ?_|refine wSc (id:=9) qEV qA ?_);refine qC ?_;refine qB ?_)
   clear fx
   refine qF [] .nil (by simp;rfl) ⟨rfl,EndX0.fin (hE.cong fun q hq=>by simp) (fun _=>q9 rfl) (fun _ h=>h)⟩
end Go.Proofs.YtbgmnmnoaamgkaaGreatDoor
end
section

end
section

end
section

end
section

end
section
namespace Go.Proofs.YtbgmnmnoaamgkaaGreatDoor
open Go Go.Hm Go.Proofs
theorem vw (gl) (p:Prg) (f:Int) (hs:Sml p):qV Tryz.prog gl 39 [pav p,iv f] (fun _ y _=>y=bv (jC p f)):=by
 refine qV.of_sem Tryz.func39 rfl (by kernel_rfl) (rs:=[.tmp 4]) rfl Tryz.ntmps39 (lB rfl) fun C w g root=>?_
 cases hv:jY p
 ·skip
  have fx:= hv
  have c1:=hv ▸ jT gl p hs
  refine qB ?_
  clear fx c1
  refine qF [] .nil (by simp;rfl) (by simp [jC,hv])
 ·skip
  have fx:= hv
  have c1:=hv ▸ jT gl p hs
  have c2:=zh gl f 0 150
  refine qB ?_
  clear fx c1 c2
  refine qF [] .nil (by simp;rfl) (by simp [jC,hv])
end Go.Proofs.YtbgmnmnoaamgkaaGreatDoor
end
section

end
section
namespace Go.Proofs.YtbgmnmnoaamgkaaGreatDoor
open Go Go.Hm Go.Proofs
abbrev qQt:Sch:=.q 0<|.q 1<|.q 2<|.q 3<|.q 4<|.q 5<|.q 6<|.q 7<|.l 8 [7,6,5,4]<|.l 9 []<|.done
theorem qAm (gl) (p:Prg) (f:Int) (hs:Sml p):qV Tryz.prog gl 12 [pav p,iv f] (fun _ y _=>y=iv (u5 p f)):=by
 refine qV.of_sem Tryz.func12 rfl (by kernel_rfl) (rs:=[.tmp 4]) rfl Tryz.ntmps12 (lB rfl) fun C w g root=>?_
 cases hv:jC p f
 ·skip
  have fx:= hv
  have c1:=hv ▸ vw gl p f hs
  refine qB ?_
  clear fx c1
  refine qF [] .nil (by simp;rfl) (by simp [u5,hv])
 ·obtain⟨hpo,n,rfl,hn⟩:=vH hv
  have hP:=ValP.of hs hpo
  have hLk:LookP p:=⟨hs,hP.sh⟩
  obtain⟨hb1,hb2,hgl8⟩:=qCU (n:=n) hP hn
  have fx:= hv
  have c1:=hv ▸ vw gl p n hs
  refine qB ?_
  clear fx c1
  intro K hK
  have fx:=fx0
  refine qKS Xn rfl (by simp [un,noH]) (hF:=qPV gl _ p n hP hLk hn (by simp [noH]) (by simp [noH])) (h:=?_)
  rintro y H1 ⟨rfl,hO1⟩
  clear fx
  obtain⟨a,b,c,d,k,hT1⟩:=hO1.top
  have hU1:=hO1.out
  have hG1:=hO1.glob
  have hR1:=hO1.trc
  have fx:= hT1
  refine qB ?_
  clear fx
  refine qF [] .nil (by simp;rfl) (by simp [u5,hv])
theorem qAM (gl) (p:Prg) (f:Int) (hs:Sml p):qV Tryz.prog gl 16 [pav p,iv f] (fun _ y _=>y=.tup [iv (yU p f).1,iv (yU p f).2]):=by
 refine qV.of_sem Tryz.func16 rfl (by kernel_rfl) (rs:=[.tmp 4,.tmp 5]) rfl Tryz.ntmps16 (lB rfl) fun C w g root=>?_
 cases hv:jC p f
 ·skip
  have fx:= hv
  have c1:=hv ▸ vw gl p f hs
  refine qB ?_
  repeat ((first|refine wSc (id:=4) qQt qA ?_);refine qC ?_;refine qB ?_)
  clear fx c1
  refine qF [] .nil (by simp;rfl) (by simp [yU,hv])
 ·obtain⟨hpo,n,rfl,hn⟩:=vH hv
  have hP:=ValP.of hs hpo
  have hLk:LookP p:=⟨hs,hP.sh⟩
  obtain⟨hb1,hb2,hgl8⟩:=qCU (n:=n) hP hn
  have fx:= hv
  have c1:=hv ▸ vw gl p n hs
  refine qB ?_
  repeat ((first|refine wSc (id:=4) qQt qA ?_);refine qC ?_;refine qB ?_)
  clear fx c1
  intro K hK
  have fx:=fx0
  refine qKS Xn rfl (by simp [un,noH]) (hF:=qPV gl _ p n hP hLk hn (by simp [noH]) (by simp [noH])) (h:=?_)
  rintro y H1 ⟨rfl,hO1⟩
  clear fx
  obtain⟨a,b,c,d,k,hT1⟩:=hO1.top
  have hU1:=hO1.out
  have hG1:=hO1.glob
  have hR1:=hO1.trc
  have fx:= hT1
  refine qB ?_
  repeat ((first|refine wSc (id:=4) qQt qA ?_);refine qC ?_;refine qB ?_)
  clear fx
  refine qF [] .nil (by simp;rfl) (by simp [yU,hv])
theorem uG (gl) (D:Nm→Bool) (hD:∀ k,D k=true→k.sroot=false) (H:Nm→Option AO) (R:List AV) (off k:Nat) (vs:List Val) (v:Val) (hr:H Yn=some (.row 4415 [R])) (hi:R[off+28]?=some (.hs (.c Yn 0 (off+28)) 2 0 (k+1))) (hs:H (.c Yn 0 (off+28))=some (.row 2 (qt vs))) (hv:vs[k]?=some v) (hk:k≤1000) (ho:off+29≤4415) :
  FnE Tryz.prog gl 173 D [.pt Yn off] H (qDp D (Val.av v) Yn (.row 4415 [spl R (off+28) [.hs (.c Yn 0 (off+28)) 2 0 k]]) H) noE:=by
 obtain⟨hil,hiE⟩:=gS hi
 obtain⟨hvl,hvE⟩:=gS hv
 obtain⟨v1,v2⟩:=v
 have hw1:IntKind.i64.wrap (k:Int)=k:=wrp (by omega) (by omega)
 have hl1:(k:Int)<(k:Int)+1:=by omega
 have hl2:(k:Int)≤(k:Int)+1:=by omega
 have hl0:(0:Int)≤(k:Int):=by omega
 refine FnE.of_sem Tryz.func173 rfl (by kernel_rfl) (rs:=[.cell 2 73]) rfl Tryz.ntmps173 (lB rfl) hD fun C w g root hroot=>?_
 have ho2:off+28+1≤4415:=ho
 have fx:=aI hr<|aI hi<|aI hiE<|aI hil<|aI ho2<|aI hs<|aI hv<|aI hvE<|aI hvl<|aI hw1<|aI hl0<|aI hl1<|hl2
 refine qB ?_
 repeat ((first|refine wSc (id:=1) (.q 0<|.q 1<|.q 2<|.q 3<|.q 4<|.q 5<|.q 6<|.q 7<|.q 8<|.q 9<|.q 10<|.q 11<|.l 12 [11,10,9,8,7,6,5,4,3,2,1,0]<|.l 13 []<|.done) qA ?_|refine wSc (id:=2) (.q 0<|.q 1<|.q 2<|.q 3<|.q 4<|.q 5<|.q 6<|.q 7<|.q 8<|.q 9<|.q 10<|.q 11<|.q 12<|.q 13<|.l 14 []<|.done) qA ?_);refine qC ?_;refine qB ?_)
 clear fx
 refine qF [] .nil (by simp;rfl) ⟨by simp,fun q hq=>?_⟩
 have hq2:=fun d=>(D_s hD hq d).1
 have hq3:=fun d=>(D_s hD hq d).2
 by_cases e:q=Yn
 ·subst e
  simp only [wS,hq,if_true]
  simp [AO.tr,spl,List.map_take,List.map_drop,qOe hD,-List.map_map]
 ·simp [wS,hq,hq2,hq3,e,qLq hD,-Option.map_map]
theorem jj (gl) (D:Nm→Bool) (hD:∀ k,D k=true→k.sroot=false) (H:Nm→Option AO) (R:List AV) (off:Nat) (vs js:List Val) (v:Val) (hDY:D Yn=true) (hDS:D (.c Yn 0 (off+28))=true) (hr:H Yn=some (.row 4415 [R])) (hi:R[off+28]?=some (.hs (.c Yn 0 (off+28)) 2 0 vs.length)) (hs:H (.c Yn 0 (off+28))=some (.row 2 (qt (vs++js)))) (hk:vs.length≤1000) (ho:off+29≤4415) :
  FnE Tryz.prog gl 153 D [.pt Yn off,Val.av v] H (qP9 D (.c Yn 0 (off+28)) (off+28) R (vs++[v]) H) noE:=by
 obtain⟨hil,hiE⟩:=gS hi
 obtain⟨v1,v2⟩:=v
 have ho2:off+28+1≤4415:=ho
 refine FnE.of_sem Tryz.func153 rfl (by kernel_rfl) (rs:=[]) rfl Tryz.ntmps153 (lB rfl) hD fun C w g root hroot=>?_
 have fx:=aI hr<|aI hi<|aI hiE<|aI hil<|aI ho2<|aI hs<|hk
 refine qB ?_
 repeat ((first|refine wSc (id:=1) (.q 0<|.q 1<|.q 2<|.q 3<|.q 4<|.q 5<|.l 6 [4,3,2,1,0]<|.l 7 [0]<|.q 8<|.q 9<|.l 10 []<|.done) qA ?_);refine qC ?_;refine qB ?_)
 clear fx
 refine zj [] .nil (by simp;rfl) ⟨?_,?_,fun q hq h1 h2=>?_⟩
 ·have e:=qY8 (a:=3) (b:=10) (c:=11) (l:=R) hD hDS
  simp only [List.map_map] at e
  simp only [wS,hDY,if_true]
  simp [e,hDS,spl]
 ·simp only [wS,hDS,if_true]
  simp [qt]
 ·have hq2:=fun d=>(D_s hD hq d).1
  have hq3:=fun d=>(D_s hD hq d).2
  have h3:¬ Nm.c Yn 0 (off+28)=q:=by rintro rfl;simp at h2
  have e:=qY7 (a:=3) (b:=10) (c:=11) (o:=H q) hD hDS
  simp only [Option.map_map] at e
  simp only [wS,hq,if_true]
  simp [hq2,hq3,h1,h2,h3,-Option.map_map,e]
  simp [e]
end Go.Proofs.YtbgmnmnoaamgkaaGreatDoor
end
section
namespace Go.Proofs.YtbgmnmnoaamgkaaGreatDoor
open Go Go.Hm Go.Proofs
theorem yL (gl) (D:Nm→Bool) (hD:∀ k,D k=true→k.sroot=false) (H:Nm→Option AO) (R:List AV) (e:Int) (hr:H Yn=some (.row 4415 [R])) (hl:R.length=4415) :
  FnE Tryz.prog gl 171 D [.pt Yn 0,iv e] H (qDp D (bv false) Yn (.row 4415 [spl R 3 [iv e]]) H) noE:=by
 refine FnE.of_sem Tryz.func171 rfl (by kernel_rfl) (rs:=[.tmp 4]) rfl Tryz.ntmps171 (lB rfl) hD fun C w g root hroot=>?_
 have fx:=aI hr<|hl
 refine qB ?_
 clear fx
 refine qF [] .nil (by simp;rfl) ⟨by simp,fun q hq=>?_⟩
 have hq2:=fun d=>(D_s hD hq d).1
 have hq3:=fun d=>(D_s hD hq d).2
 by_cases e:q=Yn
 ·subst e
  simp only [wS,hq,if_true]
  simp [AO.tr,spl,List.map_take,List.map_drop]
 ·simp [wS,hq,hq2,hq3,e]
theorem qDt (gl) (D:Nm→Bool) (hD:∀ k,D k=true→k.sroot=false) (hDY:D Yn=true) (H:Nm→Option AO) (R:List AV) (i:Nat) (hr:H Yn=some (.row 4415 [R])) (h:R[4411]?=some (iv ((i:Int)+1))) (hi:i<151) :
  FnE Tryz.prog gl 115 D [.pt Yn 0] H (qP7 D (.pt Yn (yo i)) H) noE:=by
 obtain⟨hil,hiE⟩:=gS h
 have hw1:IntKind.i64.wrap (i:Int)=i:=wrp (by omega) (by omega)
 have hl0:(0:Int)≤(i:Int):=by omega
 have hl1:(i:Int)<151:=by omega
 refine FnE.of_sem Tryz.func115 rfl (by kernel_rfl) (rs:=[.tmp 2]) rfl Tryz.ntmps115 (lB rfl) hD fun C w g root hroot=>?_
 have fx:=aI hr<|aI h<|aI hil<|aI hiE<|aI hw1<|aI hl0<|aI hl1<|hi
 refine qB ?_
 repeat ((first|refine wSc (id:=1) (.q 0<|.q 1<|.q 2<|.q 3<|.q 4<|.q 5<|.q 6<|.q 7<|.q 8<|.l 9 []<|.done) qA ?_);refine qC ?_;refine qB ?_)
 clear fx
 refine qF [] .nil (by simp;rfl) ⟨by simp [hDY,yo,Nat.mul_comm],fun q hq=>?_⟩
 have hq2:=fun d=>(D_s hD hq d).1
 have hq3:=fun d=>(D_s hD hq d).2
 simp [wS,hq,hq2,hq3]
def za (s:Stm):AV :=
 if s.kind=0 then .ifc 198 (.agg [iv s.a]) else if s.kind=1 then .ifc 200 (.agg [iv s.a]) else if s.kind=2 then .ifc 202 (.agg [iv s.a,iv s.b])
 else if s.kind=3 then .ifc 168 (.agg [iv 1,iv s.a]) else if s.kind=4 then .ifc 168 (.agg [iv 2,iv s.a]) else if s.kind=5 then .ifc 204 (.agg [iv s.a,iv s.b])
 else if s.kind=6 then .ifc 206 (.agg [iv s.a,iv s.b]) else if s.kind=7 then .ifc 208 (.agg [iv s.a]) else if s.kind=8 then .ifc 209 (.agg [iv s.a])
 else if s.kind=9∨s.kind=10 then .ifc 211 (.agg []) else if s.kind=11 then .ifc 212 (.agg []) else .sc .nilIface
@[simp] theorem formAV_cln (s:Stm):(za s).cln=true:=by
 unfold za
 repeat' split
 all_goals simp
section
variable {n:Int} {to a b:Int}
@[simp] theorem qOa:za ⟨0,to,a,b⟩=.ifc 198 (.agg [iv a]):=by simp [za]
@[simp] theorem qO9:za ⟨1,to,a,b⟩=.ifc 200 (.agg [iv a]):=by simp [za]
@[simp] theorem qO8:za ⟨2,to,a,b⟩=.ifc 202 (.agg [iv a,iv b]):=by simp [za]
@[simp] theorem qO7:za ⟨3,to,a,b⟩=.ifc 168 (.agg [iv 1,iv a]):=by simp [za]
@[simp] theorem qO6:za ⟨4,to,a,b⟩=.ifc 168 (.agg [iv 2,iv a]):=by simp [za]
@[simp] theorem qO5:za ⟨5,to,a,b⟩=.ifc 204 (.agg [iv a,iv b]):=by simp [za]
@[simp] theorem qO4:za ⟨6,to,a,b⟩=.ifc 206 (.agg [iv a,iv b]):=by simp [za]
@[simp] theorem qO3:za ⟨7,to,a,b⟩=.ifc 208 (.agg [iv a]):=by simp [za]
@[simp] theorem qO2:za ⟨8,to,a,b⟩=.ifc 209 (.agg [iv a]):=by simp [za]
@[simp] theorem qO1:za ⟨9,to,a,b⟩=.ifc 211 (.agg []):=by simp [za]
@[simp] theorem qLo:za ⟨10,to,a,b⟩=.ifc 211 (.agg []):=by simp [za]
@[simp] theorem qLn:za ⟨11,to,a,b⟩=.ifc 212 (.agg []):=by simp [za]
theorem qG7 {s:Stm} (h:¬ (0≤s.kind∧s.kind≤11)):za s=.sc .nilIface:=by
 unfold za
 repeat' split
 all_goals first|rfl|omega
theorem wB (n:Int):n=0∨n=1∨n=2∨n=3∨n=4∨n=5∨n=6∨n=7∨n=8∨n=9∨n=10∨n=11∨¬ (0≤n∧n≤11):=by omega
end
theorem jI (gl) (s:Stm):qV Tryz.prog gl 108 [s.av] (fun _ x _=>x=za s):=by
 refine qV.of_sem Tryz.func108 rfl (by kernel_rfl) (rs:=[.tmp 2]) rfl Tryz.ntmps108 (lB rfl) fun C w g root=>?_
 all_goals have fx:=fx0
 repeat' (first
  | refine qf ?_|refine qS ?_|refine q7 ?_|refine qj fun K hK=>?_
  | ((with_reducible refine qc hK ?_);clear hK K)
  | (with_reducible first|refine qD ?_|refine qP ?_|refine zK ?_)
  | refine qw ?_
  | (with_reducible first|refine qO ?_|refine qG (h:=?_)|refine zp (h:=?_))
  | (with_reducible refine x_q (h:=?_))
  | refine qR (h1:=?_)
  | refine qAF (h1:=fun ht=>?_) (h2:=fun ht=>?_)
  | fail)
 all_goals try clear fx
 all_goals refine qF [] .nil (by simp;rfl) ?_
 all_goals simp_all [za]
theorem qFK (gl) (s:Stm):qV Tryz.prog gl 122 [s.av] (fun _ x _=>x=bv (decide (s.sets∨s.kind=11))):=by
 obtain⟨n,to,a,b⟩:=s
 refine qV.of_sem Tryz.func122 rfl (by kernel_rfl) (rs:=[.tmp 2]) rfl Tryz.ntmps122 (lB rfl) fun C w g root=>?_
 rcases wB n with rfl|rfl|rfl|rfl|rfl|rfl|rfl|rfl|rfl|rfl|rfl|rfl|hn
 case inr.inr.inr.inr.inr.inr.inr.inr.inr.inr.inr.inr =>
  have hf:za ⟨n,to,a,b⟩=.sc .nilIface:=qG7 hn
  have fx:= hf
  have c1:=jI gl ⟨n,to,a,b⟩
  refine qB ?_
  clear fx c1
  refine qF [] .nil (by simp;rfl) ?_
  have h1:¬ (0≤n∧n≤6∨n=11):=by omega
  simp [h1]
 all_goals
  all_goals have fx:=fx0
  repeat' (first
   | refine qf ?_|refine qS ?_|refine q7 ?_|refine qj fun K hK=>?_
   | ((with_reducible refine qc hK ?_);clear hK K)
   | (with_reducible first|refine qD ?_|refine qb ?_|refine qP ?_|refine zK ?_)
   | refine qw ?_
   | (with_reducible first|refine qO ?_|refine qG (h:=?_)|refine zp (h:=?_))
   | ((with_reducible refine z7 108 rfl ?_);refine qM (hF:=jI _ ⟨_,to,a,b⟩) (h:=?_))
   | (with_reducible refine x_q (h:=?_))
   | refine qR (h1:=?_)|refine qg (h1:=?_)
   | fail)
  all_goals try clear fx
 all_goals refine qF [] .nil (by simp;rfl) ?_
 all_goals simp
theorem jr (gl) (p:Prg) (b:Int):qV Tryz.prog gl 48 [pav p,iv b] (fun _ x _=>x=bv (decide (0≤b∧b<p.length))):=by
 refine qV.of_sem Tryz.func48 rfl (by kernel_rfl) (rs:=[.tmp 4]) rfl Tryz.ntmps48 (lB rfl) fun C w g root=>?_
 all_goals have fx:=fx0
 repeat' (first
  | refine qf ?_|refine qj fun K hK=>?_
  | ((with_reducible refine qc hK ?_);clear hK K)
  | (with_reducible first|refine qD ?_)
  | refine qw ?_
  | (with_reducible refine qO ?_)
  | ((with_reducible refine vR ?_);refine q6 (h:=?_))
  | (with_reducible first|refine jV ?_|refine uz (h:=?_)|refine qG (h:=?_)|refine zp (h:=?_))
  | (with_reducible refine x_q (h:=?_))
  | (with_reducible refine kB (fun ht=>?_) (fun ht=>?_))
  | fail)
 all_goals try clear fx
 all_goals refine qF [] .nil (by simp;rfl) ?_
 all_goals simp_all
 all_goals omega
end Go.Proofs.YtbgmnmnoaamgkaaGreatDoor
end
section
namespace Go.Proofs.YtbgmnmnoaamgkaaGreatDoor
open Go Go.Hm Go.Proofs
theorem qHa (gl) (i:Nat) (k:Blk):qV Tryz.prog gl 106 [iv i,k.av] (fun _ x _=>x=bv (vG i k)):=by
 obtain⟨kind,parent,params,body⟩:=k
 refine qV.of_sem Tryz.func106 rfl (by kernel_rfl) (rs:=[.tmp 4]) rfl Tryz.ntmps106 (lB rfl) fun C w g root=>?_
 rcases params with _|⟨x,_|⟨y,l⟩⟩
 ·skip
  all_goals have fx:=fx0
  repeat' (first
   | refine qf ?_|refine qS ?_|refine q7 ?_|refine qj fun K hK=>?_
   | ((with_reducible refine qc hK ?_);clear hK K)
   | (with_reducible first|refine qD ?_|refine qP ?_|refine zK ?_)
   | refine qw ?_
   | (with_reducible refine qO ?_)
   | ((with_reducible refine vR ?_);refine q6 (h:=?_))
   | (with_reducible first|refine jV ?_|refine y7 ?_|refine uz (h:=?_)|refine qAC (h:=?_)|refine x_u (h:=?_)|refine qG (h:=?_)|refine zp (h:=?_))
   | (with_reducible refine x_q (h:=?_))
   | (with_reducible refine kB (fun ht=>?_) (fun ht=>?_))
   | refine qR (h1:=?_)
   | refine qAF (h1:=fun ht=>?_) (h2:=fun ht=>?_)
   | fail)
  all_goals try clear fx
  all_goals refine qF [] .nil (by simp;rfl) ?_
  all_goals simp_all [vG,jJ]
  all_goals grind
 ·skip
  all_goals have fx:=fx0
  repeat' (first
   | refine qf ?_|refine qS ?_|refine q7 ?_|refine qj fun K hK=>?_
   | ((with_reducible refine qc hK ?_);clear hK K)
   | (with_reducible first|refine qD ?_|refine qP ?_|refine zK ?_)
   | refine qw ?_
   | (with_reducible refine qO ?_)
   | ((with_reducible refine vR ?_);refine q6 (h:=?_))
   | (with_reducible first|refine jV ?_|refine y7 ?_|refine uz (h:=?_)|refine qAC (h:=?_)|refine qG (h:=?_)|refine zp (h:=?_))
   | ((with_reducible refine z7 143 rfl ?_);refine qM (hF:=zt _ x) (h:=?_))
   | (with_reducible refine x_q (h:=?_))
   | (with_reducible refine kB (fun ht=>?_) (fun ht=>?_))
   | refine qR (h1:=?_)
   | refine qAF (h1:=fun ht=>?_) (h2:=fun ht=>?_)
   | fail)
  all_goals try clear fx
  all_goals refine qF [] .nil (by simp;rfl) ?_
  all_goals simp_all [vG,jJ]
  all_goals grind
 ·have h1:((l.length:Int)+1+1==1)=false:=by simp;omega
  have h0:((l.length:Int)+1+1==0)=false:=by simp;omega
  all_goals have fx:=aI h0<|h1
  repeat' (first
   | refine qf ?_|refine qS ?_|refine q7 ?_|refine qj fun K hK=>?_
   | ((with_reducible refine qc hK ?_);clear hK K)
   | (with_reducible first|refine qD ?_|refine qP ?_|refine zK ?_)
   | refine qw ?_
   | (with_reducible refine qO ?_)
   | ((with_reducible refine vR ?_);refine q6 (h:=?_))
   | (with_reducible first|refine jV ?_|refine y7 ?_|refine uz (h:=?_)|refine qAC (h:=?_)|refine qG (h:=?_)|refine zp (h:=?_))
   | (with_reducible refine x_q (h:=?_))
   | (with_reducible refine kB (fun ht=>?_) (fun ht=>?_))
   | refine qR (h1:=?_)
   | refine qAF (h1:=fun ht=>?_) (h2:=fun ht=>?_)
   | fail)
  all_goals try clear fx
  all_goals refine qF [] .nil (by simp;rfl) ?_
  all_goals simp_all [vG,jJ]
  all_goals grind
theorem qGW {p:Prg} {b j:Nat} {q:Blk} {d:Int} (hh:z6 p) (hq:p[j]?=some q):vF p b j d=((q.kind==d)&&(q.parent==b)):=by
 have hj:j<p.length:=(gS hq).1
 obtain⟨_,h2,_⟩:=hh j q hq
 simp only [vF,Int.toNat_natCast,hq]
 by_cases h:q.parent=b
 ·have:(b:Int)+1≤j∧(j:Int)≤p.length - 1:=by omega
  simp [this]
 ·simp [h]
theorem qGV {p:Prg} {b:Nat} {j d:Int} (h:¬ (0≤j∧j<p.length)):vF p b j d=false:=by
 have:¬ ((b:Int)+1≤j∧j≤(p.length:Int) - 1):=by omega
 simp [vF,this]
theorem wm (gl) (p:Prg) (b:Nat) (k:Blk) (s:Stm) (hk:p[b]?=some k) (hh:z6 p) (hd:jJ b k):qV Tryz.prog gl 107 [pav p,iv b,s.av] (fun _ x _=>x=bv (zo p b k s)):=by
 obtain⟨n,to,a,c⟩:=s
 have hb0:(k.kind=0)↔b=0:=by
  unfold jJ at hd
  split at hd <;> omega
 refine qV.of_sem Tryz.func107 rfl (by kernel_rfl) (rs:=[.tmp 6]) rfl Tryz.ntmps107 (lB rfl) fun C w g root=>?_
 by_cases hto:0≤to∧to≤7
 case neg =>
  have h1:(decide (0≤to)&&decide (to≤7))=false:=by simp;omega
  have fx:= h1
  have c1:=zt gl to
  refine qB ?_
  clear fx c1
  refine qF [] .nil (by simp;rfl) ?_
  simp [zo,h1]
 have h1:(decide (0≤to)&&decide (to≤7))=true:=by simp;omega
 rcases wB n with rfl|rfl|rfl|rfl|rfl|rfl|rfl|rfl|rfl|rfl|rfl|rfl|hn
 case inr.inr.inr.inr.inr.inr.inr.inr.inr.inr.inr.inr =>
  have hf:za ⟨n,to,a,c⟩=.sc .nilIface:=qG7 hn
  have fx:=aI h1<|hf
  have c1:=zt gl to
  have c2:=jI gl ⟨n,to,a,c⟩
  refine qB ?_
  clear fx c1 c2
  refine qF [] .nil (by simp;rfl) ?_
  have h2:¬ (n=0∨n=1∨n=2∨n=3∨n=4∨n=5∨n=6∨n=7∨n=8∨n=9∨n=10∨n=11):=by omega
  simp only [not_or] at h2
  simp [zo,h2]
 case inr.inr.inr.inl =>
  by_cases ha:0≤a∧a<p.length
  ·obtain⟨j,rfl⟩:∃ j:Nat,a=j:=⟨a.toNat,by omega⟩
   obtain⟨q,hq⟩:∃ q,p[j]?=some q:=⟨_,gE (by omega)⟩
   obtain⟨h2,h3⟩:=gS hq
   all_goals have fx:=aI h1<|aI hq<|aI h2<|h3
   repeat' (first
    | refine qf ?_|refine qS ?_|refine q7 ?_|refine qj fun K hK=>?_
    | ((with_reducible refine qc hK ?_);clear hK K)
    | (with_reducible first|refine qD ?_|refine qb ?_|refine qP ?_|refine zK ?_)
    | refine qw ?_
    | (with_reducible refine qO ?_)
    | ((with_reducible refine vR ?_);refine q6 (h:=?_))
    | (with_reducible first|refine jV ?_|refine y7 ?_|refine uz (h:=?_)|refine qAC (h:=?_)|refine x_u (h:=?_)|refine qG (h:=?_)|refine zp (h:=?_)|refine zk (h:=?_)|refine qp (h:=?_)|refine jn (h:=?_))
    | ((with_reducible refine z7 143 rfl ?_);refine qM (hF:=zt _ to) (h:=?_))
    | ((with_reducible refine z7 108 rfl ?_);refine qM (hF:=jI _ ⟨_,to,_,c⟩) (h:=?_))
    | ((with_reducible refine z7 48 rfl ?_);refine qM (hF:=jr _ p _) (h:=?_))
    | (with_reducible refine x_q (h:=?_))
    | (with_reducible refine kB (fun ht=>?_) (fun ht=>?_))
    | refine qR (h1:=?_)|refine qg (h1:=?_)
    | refine qAF (h1:=fun ht=>?_) (h2:=fun ht=>?_)
    | fail)
   all_goals try clear fx
   all_goals refine qF [] .nil (by simp;rfl) ?_
   all_goals simp_all [zo,qGW,Stm.reads]
  ·have h2:¬ (0≤a∧a<p.length):=ha
   all_goals have fx:=aI h1<|h2
   repeat' (first
    | refine qf ?_|refine qS ?_|refine q7 ?_|refine qj fun K hK=>?_
    | ((with_reducible refine qc hK ?_);clear hK K)
    | (with_reducible first|refine qD ?_|refine qb ?_|refine qP ?_|refine zK ?_)
    | refine qw ?_
    | (with_reducible refine qO ?_)
    | ((with_reducible refine vR ?_);refine q6 (h:=?_))
    | (with_reducible first|refine jV ?_|refine y7 ?_|refine uz (h:=?_)|refine qAC (h:=?_)|refine x_u (h:=?_)|refine qG (h:=?_)|refine zp (h:=?_)|refine zk (h:=?_)|refine qp (h:=?_)|refine jn (h:=?_))
    | ((with_reducible refine z7 143 rfl ?_);refine qM (hF:=zt _ to) (h:=?_))
    | ((with_reducible refine z7 108 rfl ?_);refine qM (hF:=jI _ ⟨_,to,_,c⟩) (h:=?_))
    | ((with_reducible refine z7 48 rfl ?_);refine qM (hF:=jr _ p _) (h:=?_))
    | (with_reducible refine x_q (h:=?_))
    | (with_reducible refine kB (fun ht=>?_) (fun ht=>?_))
    | refine qR (h1:=?_)|refine qg (h1:=?_)
    | refine qAF (h1:=fun ht=>?_) (h2:=fun ht=>?_)
    | fail)
   all_goals try clear fx
   all_goals refine qF [] .nil (by simp;rfl) ?_
   all_goals simp [zo,qGV h2]
 case inr.inr.inr.inr.inl =>
  by_cases ha:0≤a∧a<p.length
  ·obtain⟨j,rfl⟩:∃ j:Nat,a=j:=⟨a.toNat,by omega⟩
   obtain⟨q,hq⟩:∃ q,p[j]?=some q:=⟨_,gE (by omega)⟩
   obtain⟨h2,h3⟩:=gS hq
   all_goals have fx:=aI h1<|aI hq<|aI h2<|h3
   repeat' (first
    | refine qf ?_|refine qS ?_|refine q7 ?_|refine qj fun K hK=>?_
    | ((with_reducible refine qc hK ?_);clear hK K)
    | (with_reducible first|refine qD ?_|refine qb ?_|refine qP ?_|refine zK ?_)
    | refine qw ?_
    | (with_reducible refine qO ?_)
    | ((with_reducible refine vR ?_);refine q6 (h:=?_))
    | (with_reducible first|refine jV ?_|refine y7 ?_|refine uz (h:=?_)|refine qAC (h:=?_)|refine x_u (h:=?_)|refine qG (h:=?_)|refine zp (h:=?_)|refine zk (h:=?_)|refine qp (h:=?_)|refine jn (h:=?_))
    | ((with_reducible refine z7 143 rfl ?_);refine qM (hF:=zt _ to) (h:=?_))
    | ((with_reducible refine z7 108 rfl ?_);refine qM (hF:=jI _ ⟨_,to,_,c⟩) (h:=?_))
    | ((with_reducible refine z7 48 rfl ?_);refine qM (hF:=jr _ p _) (h:=?_))
    | (with_reducible refine x_q (h:=?_))
    | (with_reducible refine kB (fun ht=>?_) (fun ht=>?_))
    | refine qR (h1:=?_)|refine qg (h1:=?_)
    | refine qAF (h1:=fun ht=>?_) (h2:=fun ht=>?_)
    | fail)
   all_goals try clear fx
   all_goals refine qF [] .nil (by simp;rfl) ?_
   all_goals simp_all [zo,qGW,Stm.reads]
  ·have h2:¬ (0≤a∧a<p.length):=ha
   all_goals have fx:=aI h1<|h2
   repeat' (first
    | refine qf ?_|refine qS ?_|refine q7 ?_|refine qj fun K hK=>?_
    | ((with_reducible refine qc hK ?_);clear hK K)
    | (with_reducible first|refine qD ?_|refine qb ?_|refine qP ?_|refine zK ?_)
    | refine qw ?_
    | (with_reducible refine qO ?_)
    | ((with_reducible refine vR ?_);refine q6 (h:=?_))
    | (with_reducible first|refine jV ?_|refine y7 ?_|refine uz (h:=?_)|refine qAC (h:=?_)|refine x_u (h:=?_)|refine qG (h:=?_)|refine zp (h:=?_)|refine zk (h:=?_)|refine qp (h:=?_)|refine jn (h:=?_))
    | ((with_reducible refine z7 143 rfl ?_);refine qM (hF:=zt _ to) (h:=?_))
    | ((with_reducible refine z7 108 rfl ?_);refine qM (hF:=jI _ ⟨_,to,_,c⟩) (h:=?_))
    | ((with_reducible refine z7 48 rfl ?_);refine qM (hF:=jr _ p _) (h:=?_))
    | (with_reducible refine x_q (h:=?_))
    | (with_reducible refine kB (fun ht=>?_) (fun ht=>?_))
    | refine qR (h1:=?_)|refine qg (h1:=?_)
    | refine qAF (h1:=fun ht=>?_) (h2:=fun ht=>?_)
    | fail)
   all_goals try clear fx
   all_goals refine qF [] .nil (by simp;rfl) ?_
   all_goals simp [zo,qGV h2]
 all_goals
  all_goals have fx:=aI h1<|hk
  repeat' (first
   | refine qf ?_|refine qS ?_|refine q7 ?_|refine qj fun K hK=>?_
   | ((with_reducible refine qc hK ?_);clear hK K)
   | (with_reducible first|refine qD ?_|refine qb ?_|refine qP ?_|refine zK ?_)
   | refine qw ?_
   | (with_reducible refine qO ?_)
   | ((with_reducible refine vR ?_);refine q6 (h:=?_))
   | (with_reducible first|refine jV ?_|refine y7 ?_|refine uz (h:=?_)|refine qAC (h:=?_)|refine x_u (h:=?_)|refine qG (h:=?_)|refine zp (h:=?_)|refine zk (h:=?_)|refine qp (h:=?_)|refine jn (h:=?_))
   | ((with_reducible refine z7 143 rfl ?_);refine qM (hF:=zt _ _) (h:=?_))
   | ((with_reducible refine z7 108 rfl ?_);refine qM (hF:=jI _ ⟨_,to,a,c⟩) (h:=?_))
   | (with_reducible refine x_q (h:=?_))
   | (with_reducible refine kB (fun ht=>?_) (fun ht=>?_))
   | refine qR (h1:=?_)|refine qg (h1:=?_)
   | refine qAF (h1:=fun ht=>?_) (h2:=fun ht=>?_)
   | fail)
  all_goals try clear fx
 all_goals refine qF [] .nil (by simp [hk];rfl) ?_
 all_goals simp_all [zo,Stm.reads]
 all_goals first|omega|grind
end Go.Proofs.YtbgmnmnoaamgkaaGreatDoor
end
section
namespace Go.Proofs.YtbgmnmnoaamgkaaGreatDoor
open Go Go.Hm Go.Proofs
theorem qNc {s:Stm} (h:s.kind=3∨s.kind=4):∃ d,qF7 Tryz.prog 168 (za s)=some (.tup [.agg [iv d,iv s.a],bv true]):=by
 obtain⟨n,to,a,b⟩:=s
 rcases h with h|h
 ·simp only at h
  subst h
  exact⟨1,by simp⟩
 ·simp only at h
  subst h
  exact⟨2,by simp⟩
theorem qUD {s:Stm} (h:¬ (s.kind=3∨s.kind=4)):qF7 Tryz.prog 168 (za s)=some (.tup [.agg [iv 0,iv 0],bv false]):=by
 simp only [not_or] at h
 obtain⟨h3,h4⟩:=h
 unfold za
 rw [if_neg h3,if_neg h4]
 repeat' split
 all_goals simp
theorem uB (gl) (p:Prg) (hs:Sml p):qV Tryz.prog gl 71 [pav p] (fun _ y _=>y=bv (j2 p)):=by
 have hpl:=hs.len
 refine qV.of_sem Tryz.func71 rfl (by kernel_rfl) (rs:=[.tmp 2]) rfl Tryz.ntmps71 (lB rfl) fun C w g root=>?_
 all_goals have fx:=fx0
 repeat' (first
  | refine qf ?_|refine qS ?_|refine q7 ?_|refine qj fun K hK=>?_
  | ((with_reducible refine qc hK ?_);clear hK K)
  | (with_reducible first|refine qD ?_|refine qb ?_|refine qu ?_|refine zr ?_|refine qP ?_|refine zK ?_|refine zP (by decide) ?_)
  | refine jS ?_
  | refine qw ?_
  | (with_reducible refine qO ?_)
  | ((with_reducible refine vR ?_);refine q6 (h:=?_))
  | (with_reducible first|refine jV ?_|refine y7 ?_|refine uz (h:=?_)|refine qAC (h:=?_)|refine x_u (h:=?_)|refine qG (h:=?_)|refine zp (h:=?_)|refine zk (h:=?_)|refine qp (h:=?_)|refine jn (h:=?_))
  | (with_reducible refine x_q (h:=?_))
  | (with_reducible refine kB (fun ht=>?_) (fun ht=>?_))
  | refine qR (h1:=?_)|refine qg (h1:=?_)
  | refine qAF (h1:=fun ht=>?_) (h2:=fun ht=>?_)
  | fail)
 all_goals try clear fx
 ·refine qF [] .nil (by simp;rfl) ?_
  have hno:(decide (1≤p.length)&&decide (p.length≤7))=false:=by
   rw [Bool.eq_false_iff]
   intro h
   simp at h ht
   omega
  simp only [j2,hno]
  rfl
 ·refine qF [] .nil (by simp;rfl) ?_
  have hno:(decide (1≤p.length)&&decide (p.length≤7))=false:=by
   rw [Bool.eq_false_iff]
   intro h
   simp at h ht
   omega
  simp only [j2,hno]
  rfl
 rename_i ht1
 have hyes:1≤p.length∧p.length≤7:=by
  simp at ht ht1
  omega
 clear ht ht1
 refine qY (fun n st=>∃ i:Nat,n=p.length - i∧i≤p.length∧st.tm 1=.pt (.s 1) 0∧st.hp (.s 1)=some (.row 1 [[ksl p]])∧st.tm 24=ksl p∧st.tm 25=iv p.length∧st.tm 26=iv i∧∀ (j:Nat) q,j<i→p[j]?=some q→vG j q=true∧q.body.length≤12) p.length ?_ ?_
 ·exact⟨0,by simp⟩
 rintro n st - - ⟨i,rfl,hi,h1,hp1,h24,h25,h26,hal⟩
 have fx:=aI h1<|aI hp1<|aI h24<|aI h25<|h26
 refine qB ?_
 clear fx
 refine ub (by simp [];first|done|rfl|exact (Bool.not_not _).symm) (fun ht=>?_) (fun hf=>?_)
 ·have hlt:i<p.length:=by simpa using ht
  obtain⟨k,hk⟩:∃ k,p[i]?=some k:=⟨_,gE hlt⟩
  have fin:(vG i k=true→¬ k.body.length≤12)→j2 p=false:=fun h=>by
   have:kC p i=false:=by
    simp only [kC,hk,Bool.and_eq_false_iff,decide_eq_false_iff_not]
    cases hh:vG i k with
    | false=>exact .inl (.inl rfl)
    | true=>exact .inl (.inr (h hh))
   simp only [j2,j4 hlt this,Bool.and_false,Bool.false_and]
  have hbl:=(hs.bsm hk).body
  clear ht
  all_goals have fx:=aI h1<|aI hp1<|aI h24<|aI h25<|aI h26<|hk
  repeat' (first
   | refine qf ?_|refine qS ?_|refine q7 ?_|refine qj fun K hK=>?_
   | ((with_reducible refine qc hK ?_);clear hK K)
   | (with_reducible first|refine qD ?_|refine qb ?_|refine qu ?_|refine zr ?_|refine qP ?_|refine zK ?_|refine zP (by decide) ?_)
   | refine jS ?_
   | refine qw ?_
   | (with_reducible refine qO ?_)
   | ((with_reducible refine vR ?_);refine q6 (h:=?_))
   | (with_reducible first|refine jV ?_|refine y7 ?_|refine uz (h:=?_)|refine qAC (h:=?_)|refine x_u (h:=?_)|refine qG (h:=?_)|refine zp (h:=?_)|refine zk (h:=?_)|refine qp (h:=?_)|refine jn (h:=?_))
   | ((with_reducible refine z7 106 rfl ?_);refine qM (hF:=qHa _ i k) (h:=?_))
   | (with_reducible refine x_q (h:=?_))
   | (with_reducible refine kB (fun ht=>?_) (fun ht=>?_))
   | refine qR (h1:=?_)|refine qg (h1:=?_)
   | refine qAF (h1:=fun ht=>?_) (h2:=fun ht=>?_)
   | fail)
  all_goals try clear fx
  ·refine qF [] .nil (by simp;rfl) ?_
   rw [fin (fun h=>by simp [h] at ht)]
   rfl
  ·refine qF [] .nil (by simp;rfl) ?_
   rw [fin (fun _ h=>by simp at ht;omega)]
   rfl
  ·rename_i ht1
   refine⟨p.length - (i+1),by omega,i+1,rfl,by omega,by simp [h1],by simp [hp1],by simp [h24],by simp [h25],by simp;exact wrp (by omega) (by omega),fun j q hj hq=>?_⟩
   rcases Nat.lt_succ_iff_lt_or_eq.1 hj with h|rfl
   ·exact hal j q h hq
   ·rw [hk] at hq
    obtain rfl:=sI hq
    refine⟨by simpa using ht1,?_⟩
    simp at ht
    omega
 have hge:i=p.length:=by
  have:¬ i<p.length:=by simpa using hf
  omega
 subst hge
 clear hf hi
 have hal':∀ (j:Nat) q,p[j]?=some q→jJ j q∧q.body.length≤12:=fun j q hq=>by
  obtain⟨h1,h2⟩:=hal j q (gS hq).1 hq
  exact⟨by simpa only [vG,decide_eq_true_eq] using h1,h2⟩
 clear hal
 have hh:z6 p:=fun j q hq=>(hal' j q hq).1.head
 have hb12:∀ q∈p,q.body.length≤12:=fun q hq=>by
  obtain⟨j,hj⟩:=List.getElem?_of_mem hq
  exact (hal' j q hj).2
 have fx:=aI h1<|hp1
 refine qB ?_
 clear fx
 refine qY (fun n st=>∃ i:Nat,n=p.length - i∧i≤p.length∧st.tm 1=.pt (.s 1) 0∧st.hp (.s 1)=some (.row 1 [[ksl p]])∧st.tm 5=.pt (.s 5) 0∧st.hp (.s 5)=some (.row 7 [(uX p [] i).map iv])∧st.tm 43=ksl p∧st.tm 44=iv p.length∧st.tm 45=iv i∧(List.range i).all (kC p)=true) p.length ?_ ?_
 ·refine⟨0,by simp,by simp,by simp [h1],by simp [hp1],by simp,?_,by simp,by simp,by simp,by simp⟩
  simp [uX,kf,mkN]
  rfl
 clear h1 hp1 h24 h25 h26
 rintro n st - - ⟨i,rfl,hi,h1,hp1,h5,hp5,h43,h44,h45,hal⟩
 have fx:=aI h1<|aI hp1<|aI h43<|aI h44<|h45
 refine qB ?_
 clear fx
 refine ub (by simp [];first|done|rfl|exact (Bool.not_not _).symm) (fun ht=>?_) (fun hf=>?_)
 ·have hlt:i<p.length:=by simpa using ht
  obtain⟨k,hk⟩:∃ k,p[i]?=some k:=⟨_,gE hlt⟩
  have hbf:kC p i=(vG i k&&decide (k.body.length≤12)&&k.body.all (zo p i k)):=by simp only [kC,hk]
  obtain⟨hhd,hbd⟩:=hal' i k hk
  have hhd':vG i k=true:=by simpa only [vG,decide_eq_true_eq] using hhd
  clear ht
  have fx:=aI h1<|aI hp1<|aI h43<|aI h44<|aI h45<|hk
  refine qB ?_
  clear fx
  refine qY (fun n st=>∃ j:Nat,n=k.body.length - j∧j≤k.body.length∧st.tm 1=.pt (.s 1) 0∧st.hp (.s 1)=some (.row 1 [[ksl p]])∧st.tm 5=.pt (.s 5) 0∧st.hp (.s 5)=some (.row 7 [(uX p (k.body.take j) i).map iv])∧st.tm 43=ksl p∧st.tm 44=iv p.length∧st.tm 45=iv i∧st.tm 6=iv i∧st.tm 51=ssl k.body∧st.tm 52=iv k.body.length∧st.tm 53=iv j∧(k.body.take j).all (zo p i k)=true) k.body.length ?_ ?_
  ·exact⟨0,by simp [h1,hp1,h5,hp5,h43,h44,h45]⟩
  clear h1 hp1 h5 hp5 h43 h44 h45
  rintro n st - - ⟨j,rfl,hj,h1,hp1,h5,hp5,h43,h44,h45,h6,h51,h52,h53,haj⟩
  have fx:=aI h51<|aI h52<|h53
  refine qB ?_
  clear fx
  refine ub (by simp [];first|done|rfl|exact (Bool.not_not _).symm) (fun ht=>?_) (fun hf=>?_)
  ·have hlj:j<k.body.length:=by simpa using ht
   obtain⟨s,hsj⟩:∃ s,k.body[j]?=some s:=⟨_,gE hlj⟩
   clear ht
   cases hok:zo p i k s with
   | false =>
    have fx:=aI h1<|aI hp1<|aI h51<|aI h52<|aI h53<|aI h6<|aI hsj<|hok
    have c1:=wm gl p i k s hk hh hhd
    refine qB ?_
    clear fx c1
    refine qF [] .nil (by simp;rfl) ?_
    have:kC p i=false:=by rw [hbf,qGr (gM hsj) hok];simp
    simp only [j2,j4 hlt this,Bool.and_false,Bool.false_and]
    rfl
   | true =>
    by_cases hm:s.kind=3∨s.kind=4
    ·obtain⟨d,hta⟩:=qNc hm
     obtain⟨a,ha,hal7⟩:∃ a:Nat,s.a=a∧a<p.length:=by
      have:∃ d,vF p i s.a d=true:=by
       rcases hm with h|h
       ·simp [zo,h] at hok
        exact⟨_,hok.2.2⟩
       ·simp [zo,h] at hok
        exact⟨_,hok.2.2⟩
      obtain⟨d,hd⟩:=this
      simp only [vF,Bool.and_eq_true,decide_eq_true_eq] at hd
      exact⟨s.a.toNat,by omega,by omega⟩
     have ha7:a<7:=by omega
     have ha8:(a:Int)<7:=by omega
     rw [ha] at hta
     have hget:=qGU (p:=p) (ss:=k.body.take j) (n:=i) ha7
     have vJ:=qLW (p:=p) (n:=i) hsj ha hm ha7
     have hml:(uX p (k.body.take j) i).length=7:=by simp [uX]
     have hw:IntKind.i64.wrap (((kf p a i+mkN (k.body.take j) a:Nat):Int)+1)=((kf p a i+mkN (k.body.take j) a:Nat):Int)+1:=by
      have h1:=qI8 (b:=a) hb12 i
      have h2:=qPY (k.body.take j) a
      have h3:=List.length_take_le j k.body
      exact wrp (by omega) (by omega)
     generalize hA:uX p (k.body.take j) i=A at hp5 hget vJ hml
     generalize hv:((kf p a i+mkN (k.body.take j) a:Nat):Int)=v at hget vJ hw
     obtain⟨_,hge2⟩:=gS hget
     have fx:=aI h1<|aI hp1<|aI h5<|aI hp5<|aI h51<|aI h52<|aI h53<|aI h6<|aI hsj<|aI hok<|aI hta<|aI ha7<|aI ha8<|aI hget<|aI hge2<|aI hw<|hml
     have c1:=wm gl p i k s hk hh hhd
     have c2:=jI gl s
     refine qB ?_
     clear fx c1 c2
     refine⟨k.body.length - (j+1),by omega,j+1,rfl,by omega,by simp [h1],by simp [hp1],by simp [h5],?_,by simp [h43],by simp [h44],by simp [h45],by simp [h6],by simp [h51],by simp [h52],by simp;exact wrp (by omega) (by omega),?_⟩
     ·rw [← vJ,← qU1 (by omega)]
      simp [hge2,hw]
     ·rw [List.take_add_one,hsj,List.all_append,haj]
      simpa using hok
    ·have hta:=qUD hm
     have hskip:=qJg (p:=p) (n:=i) hsj hm
     have fx:=aI h1<|aI hp1<|aI h51<|aI h52<|aI h53<|aI h6<|aI hsj<|aI hok<|hta
     have c1:=wm gl p i k s hk hh hhd
     have c2:=jI gl s
     refine qB ?_
     clear fx c1 c2
     refine⟨k.body.length - (j+1),by omega,j+1,rfl,by omega,by simp [h1],by simp [hp1],by simp [h5],by simp [hp5,hskip],by simp [h43],by simp [h44],by simp [h45],by simp [h6],by simp [h51],by simp [h52],by simp;exact wrp (by omega) (by omega),?_⟩
     rw [List.take_add_one,hsj,List.all_append,haj]
     simpa using hok
  ·have hge:j=k.body.length:=by
    have:¬ j<k.body.length:=by simpa using hf
    omega
   subst hge
   rw [List.take_length] at haj hp5
   rw [qJh hk] at hp5
   have fx:=aI h51<|aI h52<|aI h53<|h45
   refine qB ?_
   clear fx
   refine⟨p.length - (i+1),by omega,i+1,rfl,by omega,by simp [h1],by simp [hp1],by simp [h5],by simp [hp5],by simp [h43],by simp [h44],by simp;exact wrp (by omega) (by omega),?_⟩
   rw [zw,hal,hbf,hhd',haj]
   simpa using hbd
 ·have hge:i=p.length:=by
   have:¬ i<p.length:=by simpa using hf
   omega
  subst hge
  have hshp:j2 p=(List.range p.length).all (fun i=>i==0||vQ p i==1):=by
   simp only [j2,hal,hyes,decide_true,Bool.and_true,Bool.true_and]
  have hv:∀ (i:Nat) q,p[i]?=some q→∀ s∈q.body,zo p i q s=true:=fun i q hq s hs=>by
   have:=List.all_eq_true.1 hal i (List.mem_range.2 (gS hq).1)
   simp only [kC,hq,Bool.and_eq_true] at this
   exact List.all_eq_true.1 this.2 s hs
  clear hf hi
  have fx:=aI h1<|aI hp1<|aI h43<|aI h44<|h45
  refine qB ?_
  clear fx
  refine qY (fun n st=>∃ i:Nat,n=p.length - i∧i≤p.length∧1≤i∧st.tm 1=.pt (.s 1) 0∧st.hp (.s 1)=some (.row 1 [[ksl p]])∧st.tm 5=.pt (.s 5) 0∧st.hp (.s 5)=some (.row 7 [(uX p [] p.length).map iv])∧st.tm 12=iv i∧(List.range i).all (fun i=>i==0||vQ p i==1)=true) (p.length - 1) ?_ ?_
  ·exact⟨1,by omega,by omega,by omega,by simp [h1],by simp [hp1],by simp [h5],by simp [hp5],by simp,by simp⟩
  clear h1 hp1 h5 hp5 h43 h44 h45
  rintro n st - - ⟨i,rfl,hi,hi1,h1,hp1,h5,hp5,h12,hmi⟩
  have fx:=aI h1<|aI hp1<|h12
  refine qB ?_
  clear fx
  refine ub (by simp [];first|done|rfl|exact (Bool.not_not _).symm) (fun ht=>?_) (fun hf=>?_)
  ·have hlt:i<p.length:=by simpa using ht
   obtain⟨k,hk⟩:∃ k,p[i]?=some k:=⟨_,gE hlt⟩
   have hi7:i<7:=by omega
   have hi8:(i:Int)<7:=by omega
   have hpk:=(hh i k hk).2.2 (by omega)
   have hget:(uX p [] p.length)[i]?=some (vQ p i):=by
    rw [qGU hi7,← qOT hh hk hv hpk]
    simp [mkN]
   generalize hA:uX p [] p.length=A at hp5 hget
   clear ht
   all_goals have fx:=aI h1<|aI hp1<|aI h5<|aI hp5<|aI h12<|aI hi7<|aI hi8<|aI hget<|@zU
   repeat' (first
    | refine qf ?_|refine qS ?_|refine q7 ?_|refine qj fun K hK=>?_
    | ((with_reducible refine qc hK ?_);clear hK K)
    | (with_reducible first|refine qD ?_|refine qb ?_|refine qu ?_|refine zr ?_|refine qP ?_|refine zK ?_|refine zP (by decide) ?_)
    | refine jS ?_
    | refine qw ?_
    | (with_reducible refine qO ?_)
    | ((with_reducible refine vR ?_);refine q6 (h:=?_))
    | (with_reducible first|refine jV ?_|refine y7 ?_|refine uz (h:=?_)|refine qAC (h:=?_)|refine x_u (h:=?_)|refine qG (h:=?_)|refine zp (h:=?_)|refine zk (h:=?_)|refine qp (h:=?_)|refine jn (h:=?_))
    | (with_reducible refine x_q (h:=?_))
    | (with_reducible refine kB (fun ht=>?_) (fun ht=>?_))
    | refine qR (h1:=?_)|refine qg (h1:=?_)
    | refine qAF (h1:=fun ht=>?_) (h2:=fun ht=>?_)
    | fail)
   all_goals try clear fx
   ·refine qF [] .nil (by simp;rfl) ?_
    rw [hshp,j4 hlt (show (i==0||vQ p i==1)=false by simp at ht ⊢;exact⟨by omega,ht⟩)]
    rfl
   ·refine⟨p.length - (i+1),by omega,i+1,rfl,by omega,by omega,by simp [h1],by simp [hp1],by simp [h5],by simp [hp5],by simp;exact wrp (by omega) (by omega),?_⟩
    rw [zw,hmi]
    simp at ht ⊢
    exact .inr ht
  ·have hge:i=p.length:=by
    have:¬ i<p.length:=by simpa using hf
    omega
   subst hge
   have fx:=fx0
   refine qB ?_
   clear fx
   refine qF [] .nil (by simp [];rfl) (by simp [hshp,hmi])
end Go.Proofs.YtbgmnmnoaamgkaaGreatDoor
end
