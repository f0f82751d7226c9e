/-
  Own texts, joined by mkclaim.py: Hm170, Hm171, Hm172, Hm173, Hm174, Hm175, Hm176, Hm177, Hm178, Hm179.
-/
import Derived.Test.YtbgmnmnoaamgkaaGreatDoorC16
import Derived.Test.YtbgmnmnoaamgkaaGreatDoorC12
set_option linter.unusedSimpArgs false
set_option linter.unusedVariables false
set_option maxRecDepth 100000
set_option maxHeartbeats 4000000

section
namespace Go.Hm
open Go Go.RowKit
def qBf (p:Prg) (b:Nat):List (List AV):=[qOs]::(List.range (b - 1)).map fun b=>[isl (zL p (b+1))]
structure PreX (hp:Nm→Option AO) (p:Prg) (n b:Nat):Prop where
 top:hp Xn=some (.row 13 [[csl (qf p p.length),.hs (.c Xn 0 1) 1 0 b,.hs (.c Xn 0 2) 3 0 0,.hs (.c Xn 0 3) 3 0 8,.hs (.c Xn 0 4) 2 0 0,.hs (.c Xn 0 5) 1 0 0,.hs (.c Xn 0 6) 7 0 0,iv 0,iv 0,.hs (.c Xn 0 9) 1 0 0,.hs (.c Xn 0 10) 2 0 0,iv 0,iv n]])
 caps:hp (.c Xn 0 1)=some (.row 1 (qBf p b))
 cells:hp (.c Xn 0 2)=some (.row 3 [])
 glob:hp (.c Xn 0 3)=some (.row 3 (qV qm))
 funs:hp (.c Xn 0 4)=some (.row 2 [])
 clss:hp (.c Xn 0 5)=some (.row 1 [])
 fr:hp (.c Xn 0 6)=some (.row 7 [])
 out:hp (.c Xn 0 9)=some (.row 1 [])
 trc:hp (.c Xn 0 10)=some (.row 2 [])
section
variable {hp hp':Nm→Option AO} {p:Prg} {m:Mch} {n b dp:Nat} {F:Nm→Option Nm}
@[simp] theorem capTo_tr:(qBf p b).map (fun r=>r.map (AV.tr F))=qBf p b:=by
 have h:AV.tr F .bot=.bot:=rfl
 simp [qBf,h]
theorem qMG (h:1≤b):(qBf p b).length=b:=by simp [qBf];omega
theorem qMH (h:1≤b):qBf p b++[[isl (zL p b)]]=qBf p (b+1):=by
 obtain⟨c,rfl⟩:∃ c,b=c+1:=⟨b - 1,by omega⟩
 simp [qBf,List.range_succ]
@[simp] theorem capTo_one:qBf p 1=[[qOs]]:=rfl
theorem PreX.own (h:PreX hp p n p.length) (h0:0<p.length):OwnX hp p (.c Xn 0 6) (qi n) 0:=by
 refine⟨?_,?_,?_,?_,?_,?_,?_,?_,⟨[],?_⟩,fun i f hf=>?_,fun i f hf=>?_,fun i f hf=>?_⟩
 ·rw [h.top];simp [jQ,qi]
 ·rw [h.caps];rfl
 ·rw [h.cells];simp [qi]
 ·rw [h.glob];rfl
 ·rw [h.funs];simp [qi]
 ·rw [h.clss];simp [qi]
 ·rw [h.out];rfl
 ·rw [h.trc];rfl
 ·rw [h.fr];simp [qi]
 ·simp [qi] at hf
 ·simp [qi] at hf
 ·simp [qi] at hf
theorem qKn (hP:ValP p) (hn:n≤150):∃ N,(∀ i,i<N→¬ (jN p i (qb p n)).ended)∧(jN p N (qb p n)).ended∧jN p N (qb p n)=uZ p n∧kK p N (qb p n) 0=(uZ p n).deep:=by
 obtain⟨N,h1,h2,h3⟩:=qCQ (n:=n) hP hn
 have hI:=qLa (n:=n) (t:=8) hP
 have hs:qb p n={ qi n with cells:=(qb p n).cells,made:=1,deep:=1,frames:=(qb p n).frames }∧(qb p n).frames.length=1:=by
  unfold qb z6
  split
  ·split <;> exact⟨rfl,rfl⟩
  ·exact⟨rfl,rfl⟩
 have hd:(qb p n).deep=max 0 (qb p n).frames.length:=by
  rw [hs.2,hs.1]
  rfl
 cases N with
 | zero =>
  exfalso
  rcases h2 with h2|h2
  ·simp only [jN] at h2
   have:=hs.2
   rw [h2] at this
   simp at this
  ·simp only [jN] at h2
   rw [hs.1] at h2
   exact h2 rfl
 | succ N =>
  refine⟨N+1,h1,h2,h3,?_⟩
  rw [← h3]
  exact qLM (fun b=>jB) hI hd (h1 N (by omega)) h2
end
def fS (D:Nm→Bool) (S:Nm) (k:Nm):Option Nm:=if Nm.under S k then none else if D k then some k else none
section
variable {hp hp' H H':Nm→Option AO} {p:Prg} {m:Mch} {fs:List Frm} {f g:Frm} {R:List AV} {v:Val} {F:Nm→Option Nm} {D:Nm→Bool} {a b c d:Nat} {S:Nm} {l:List AV} {o:Option AO} {x:AV}
theorem qLq (hD:∀ k,D k=true→k.sroot=false) (hS:D S=true):(fun m=>((((kl (.s a) m).bind (kl (.s b))).bind (kl (.s c))).bind (mv (.s c) S)).bind (jO D []))=fS D S:=by
 funext m
 by_cases hx:D m=true
 ·have h1:=(D_s hD hx a).2
  have h2:=(D_s hD hx b).2
  have h3:=(D_s hD hx c).2
  by_cases hu:Nm.under S m=true
  ·simp [h1,h2,h3,fS,hu]
  ·simp only [Bool.not_eq_true] at hu
   simp [h1,h2,h3,fS,hu,hx,jO]
 ·simp only [Bool.not_eq_true] at hx
  by_cases ha:Nm.under (.s a) m=true
  ·simp [fS,ha,hx]
  ·simp only [Bool.not_eq_true] at ha
   by_cases hb:Nm.under (.s b) m=true
   ·simp [fS,ha,hb,hx]
   ·simp only [Bool.not_eq_true] at hb
    by_cases hc:Nm.under (.s c) m=true
    ·simp [fS,ha,hb,hc,hx]
    ·simp only [Bool.not_eq_true] at hc
     by_cases hu:Nm.under S m=true
     ·simp [fS,ha,hb,hc,hu]
     ·simp only [Bool.not_eq_true] at hu
      simp [fS,ha,hb,hc,hu,hx,jO]
theorem qYf (hD:∀ k,D k=true→k.sroot=false) (hS:D S=true):(((((x.tr (kl (.s a))).tr (kl (.s b))).tr (kl (.s c))).tr (mv (.s c) S)).tr (jO D []))=x.tr (fS D S):=by
 rw [AV.tr_tr,AV.tr_tr,AV.tr_tr,AV.tr_tr]
 congr 1
 have:=qLq (a:=a) (b:=b) (c:=c) hD hS
 rw [← this]
 funext m
 cases kl (.s a) m with
 | none=>rfl
 | some m1 =>
  simp only [Option.bind_some]
  cases kl (.s b) m1 with
  | none=>rfl
  | some m2 =>
   simp only [Option.bind_some]
   cases kl (.s c) m2 <;> rfl
theorem qYe (hD:∀ k,D k=true→k.sroot=false) (hS:D S=true):(((l.map (AV.tr (kl (.s c))∘AV.tr (kl (.s b))∘AV.tr (kl (.s a)))).map (AV.tr (mv (.s c) S))).map (AV.tr (jO D [])))=l.map (AV.tr (fS D S)):=by
 simp only [List.map_map]
 exact List.map_congr_left fun x _=>qYf hD hS
theorem qYd (hD:∀ k,D k=true→k.sroot=false) (hS:D S=true):(((((o.map (AO.tr (kl (.s a)))).map (AO.tr (kl (.s b)))).map (AO.tr (kl (.s c)))).map (AO.tr (mv (.s c) S))).map (AO.tr (jO D [])))=o.map (AO.tr (fS D S)):=by
 cases o with
 | none=>rfl
 | some o =>
  simp only [Option.map_some]
  rw [AO.tr_tr,AO.tr_tr,AO.tr_tr,AO.tr_tr]
  congr 2
  have:=qLq (a:=a) (b:=b) (c:=c) hD hS
  rw [← this]
  funext m
  cases kl (.s a) m with
  | none=>rfl
  | some m1 =>
   simp only [Option.bind_some]
   cases kl (.s b) m1 with
   | none=>rfl
   | some m2 =>
    simp only [Option.bind_some]
    cases kl (.s c) m2 <;> rfl
def qP2 (D:Nm→Bool) (S:Nm) (off:Nat) (R:List AV) (vs:List Val) (H:Nm→Option AO):Nm→AV→(Nm→Option AO)→Prop:=fun _ _ H' =>
 H' Yn=some (.row 4415 [spl (R.map (AV.tr (fS D S))) off [.hs S 2 0 vs.length]])∧H' S=some (.row 2 (zB vs))∧∀ q,D q=true→q≠Yn→Nm.under S q=false→H' q=(H q).map (AO.tr (fS D S))
theorem OwnY.pushed (h:OwnY hp p m) (hm:m.frames=fs++[f]) (hi:fs.length<151) (hS:S=.c Yn 0 (yo fs.length+28)) (hr:hp Yn=some (.row 4415 [R])) {y:AV} {r:Nm} (hw:qP2 DM S (yo fs.length+28) R (f.stack++[v]) (yC DM hp) r y H'):OwnY H' p { m with frames:=fs++[f.push v] }:=by
 obtain⟨J,j,hJ,hT,h2,h3,h28⟩:=h.topF hm
 obtain rfl:R=qw p m (fs.length+1) (yc (fs++[f]) J):=by
  rw [hr] at hT
  injection hT with e
  injection e with e1 e2
  injection e2
 obtain⟨w1,w2,w3⟩:=hw
 have hF:∀ k,DM k=true→Nm.under S k=false→fS DM S k=some k:=fun k h1 h2=>by simp only [fS,h1,h2,if_true,Bool.false_eq_true,if_false]
 have hc:∀ j,j≠yo fs.length+28→Nm.under S (.c Yn 0 j)=false:=fun j hj=>by subst hS;simp [hj]
 have hE:∀ i,Nm.under S (En i)=false:=fun i=>by subst hS;simp
 have hw3:∀ q o,DM q=true→q≠Yn→Nm.under S q=false→hp q=some o→H' q=some (o.tr (fS DM S)):=fun q o a1 a2 a3 a4=>by
  rw [w3 q a1 a2 a3]
  simp only [yC,a1,if_true,a4,Option.map_some]
 have hcN:∀ j,j≠yo fs.length+28→fS DM S (.c Yn 0 j)=some (.c Yn 0 j):=fun j hj=>hF _ rfl (hc j hj)
 have hEN:∀ i,fS DM S (En i)=some (En i):=fun i=>hF _ rfl (hE i)
 have hne:∀ i k,i≠fs.length∨k≠28→k<29→yo i+k≠yo fs.length+28:=fun i k h1 h2=>by simp only [yo];omega
 have hsp:fS DM S S=none:=by simp [fS]
 have hfix:∀ i g,i≠fs.length→(yfr i g).map (AV.tr (fS DM S))=yfr i g:=by
  intro i g hi
  simp only [yfr,List.map_append,kA,List.map_cons,List.map_nil]
  have e2:=hcN _ (hne i 2 (.inl hi) (by omega))
  have e3:=hcN _ (hne i 3 (.inl hi) (by omega))
  have e28:=hcN _ (hne i 28 (.inl hi) (by omega))
  simp only [yo] at e2 e3 e28
  simp [AV.tr,e2,e3,e28]
 have hrow:spl ((qw p m (fs.length+1) (yc (fs++[f]) J)).map (AV.tr (fS DM S))) (yo fs.length+28) [.hs S 2 0 (f.stack++[v]).length]=qw p m (fs.length+1) (yc (fs++[f.push v]) fun i=>(J i).map (AV.tr (fS DM S))):=by
  have hmap:(qw p m (fs.length+1) (yc (fs++[f]) J)).map (AV.tr (fS DM S))=qw p m (fs.length+1) fun i=>(yc (fs++[f]) J i).map (AV.tr (fS DM S)):=by
   have h1:(cat (yc (fs++[f]) J) 151).map (AV.tr (fS DM S))=cat (fun i=>(yc (fs++[f]) J i).map (AV.tr (fS DM S))) 151:=qIk fun i _=>rfl
   have hk:∀ j,j<32→fS DM S (.c Yn 0 j)=some (.c Yn 0 j):=fun j hj=>hcN j (by simp only [yo];omega)
   simp only [qw,List.map_append,h1,kA]
   simp [yA,yB,yZ,hk,AV.tr,jM]
  rw [hmap]
  have:=qHn (p:=p) (m:=m) (h:=fs.length+1) (c:=fun i=>(yc (fs++[f]) J i).map (AV.tr (fS DM S))) (c':=yc (fs++[f.push v]) fun i=>(J i).map (AV.tr (fS DM S))) (i:=fs.length) (j:=28) (vals:=[.hs S 2 0 (f.stack++[v]).length]) (fun i=>by simp [j8 hJ]) hi (by simp) (fun k hk=>?_) ?_
  ·rw [← Nat.add_assoc] at this
   exact this
  ·unfold yc
   rcases Nat.lt_trichotomy k fs.length with e|e|e
   ·rw [List.getElem?_append_left e,List.getElem?_append_left e,gE e]
    simp only
    rw [hfix k _ hk]
   ·exact absurd e hk
   ·rw [List.getElem?_eq_none (by simp;omega),List.getElem?_eq_none (by simp;omega)]
  ·have h1:(fs++[f])[fs.length]?=some f:=by simp
   have h2:(fs++[f.push v])[fs.length]?=some (f.push v):=by simp
   rw [qGl h1,qGl h2]
   have e2:=hcN _ (hne fs.length 2 (.inr (by omega)) (by omega))
   have e3:=hcN _ (hne fs.length 3 (.inr (by omega)) (by omega))
   simp only [yo] at e2 e3
   have h3:(yfr fs.length f).map (AV.tr (fS DM S))=[iv f.blk,iv f.pc,.hs (.c Yn 0 (32+29 * fs.length+2)) 3 0 f.fasts.length,.hs (.c Yn 0 (32+29 * fs.length+3)) 1 0 f.cells.length]++(vR f.names++[AV.bot]):=by
    have hb:fS DM S (.c Yn 0 (32+29 * fs.length+28))=none:=by rw [← hS];exact hsp
    simp only [yfr,List.map_append,kA,List.map_cons,List.map_nil]
    simp [AV.tr,e2,e3,hb]
   rw [h3,hS]
   have h4:([iv f.blk,iv f.pc,.hs (.c Yn 0 (32+29 * fs.length+2)) 3 0 f.fasts.length,.hs (.c Yn 0 (32+29 * fs.length+3)) 1 0 f.cells.length]++vR f.names).length=28:=by simp
   rw [← List.append_assoc]
   unfold spl
   rw [List.take_append_of_le_length (by rw [h4];exact Nat.le_refl _),List.take_of_length_le (by rw [h4];exact Nat.le_refl _),List.drop_eq_nil_of_le (by simp)]
   simp [yfr,Frm.push]
 have key:∀ (i:Nat) f',(fs++[f.push v])[i]?=some f'→(i=fs.length∧f'=f.push v)∨(i<fs.length∧m.frames[i]?=some f'):=by
  intro i f' hf
  rcases Nat.lt_trichotomy i fs.length with e|e|e
  ·rw [List.getElem?_append_left e] at hf
   exact .inr ⟨e,by rw [hm,List.getElem?_append_left e];exact hf⟩
  ·subst e
   simp at hf
   exact .inl ⟨rfl,hf.symm⟩
  ·rw [List.getElem?_eq_none (by simp;omega)] at hf
   cases hf
 have hy:∀ j,(.c Yn 0 j:Nm)≠Yn:=fun j e=>by cases e
 refine⟨⟨fun i=>(J i).map (AV.tr (fS DM S)),fun i=>by simp [hJ],?_⟩,?_,?_,?_,?_,?_,fun i f' hf=>?_,fun i f' hf=>?_,fun i f' hf=>?_,fun c s hs=>?_,fun a b c ha hn=>?_⟩
 ·rw [w1,hrow]
  simp only [List.length_append,List.length_singleton]
  rfl
 ·rw [hw3 _ _ rfl (hy 1) (hc 1 (by simp only [yo];omega)) h.caps];simp [AO.tr]
 ·rw [hw3 _ _ rfl (hy 4) (hc 4 (by simp only [yo];omega)) h.out];simp [AO.tr]
 ·rw [hw3 _ _ rfl (hy 5) (hc 5 (by simp only [yo];omega)) h.trc];simp [AO.tr]
 ·rw [hw3 _ _ rfl (hy 30) (hc 30 (by simp only [yo];omega)) h.funs]
  simp only [AO.tr]
  rw [qDf hEN]
 ·rw [hw3 _ _ rfl (hy 31) (hc 31 (by simp only [yo];omega)) h.clss];simp [AO.tr]
 ·rcases key i f' hf with⟨rfl,rfl⟩|⟨hl,hf⟩
  ·rw [hw3 _ _ rfl (hy _) (hc _ (hne fs.length 2 (.inr (by omega)) (by omega))) h2];simp [AO.tr,Frm.push]
  ·rw [hw3 _ _ rfl (hy _) (hc _ (hne i 2 (.inl (by omega)) (by omega))) (h.fasts i f' hf)];simp [AO.tr]
 ·rcases key i f' hf with⟨rfl,rfl⟩|⟨hl,hf⟩
  ·rw [hw3 _ _ rfl (hy _) (hc _ (hne fs.length 3 (.inr (by omega)) (by omega))) h3]
   simp only [AO.tr]
   rw [vv hEN]
   rfl
  ·rw [hw3 _ _ rfl (hy _) (hc _ (hne i 3 (.inl (by omega)) (by omega))) (h.cls i f' hf)]
   simp only [AO.tr]
   rw [vv hEN]
 ·rcases key i f' hf with⟨rfl,rfl⟩|⟨hl,hf⟩
  ·exact⟨[],by rw [← hS,w2];simp [Frm.push]⟩
  ·exact (h.stack i f' hf).imp fun j hj=>by rw [hw3 _ _ rfl (hy _) (hc _ (hne i 28 (.inl (by omega)) (by omega))) hj];simp [AO.tr]
 ·rw [hw3 _ _ rfl (by simp) (hE c) (h.cell c s hs)];simp [AO.tr]
 ·by_cases e:a=1∧b=0∧c=0
  ·exact .inl e
  ·refine h.only a b c ha fun e'=>hn ?_
   rw [w3 (.u a b c) ha (by simpa using e) (by subst hS;simp)]
   have hd:DM (.u a b c)=true:=ha
   simp only [yC,hd,if_true,e',Option.map_none]
end
end Go.Hm
end
section
namespace Go.Hm
open Go Go.RowKit
noncomputable def qB1 (p:Prg) (f:Int):Int:=if zr p f=true then (uZ p f.toNat).cells.length else -1
noncomputable def uX (p:Prg) (f:Int):Int×Int:=if zr p f=true then ((uZ p f.toNat).made,(uZ p f.toNat).deep) else (-1,-1)
def qPO (m:Mch):Rsl:=⟨m.out,m.en,m.left,ye m.globals⟩
noncomputable def qFJ (p:Prg) (f:Int):Rsl:=if zr p f=true then qPO (uZ p f.toNat) else ⟨[],0,0,[]⟩
noncomputable def qHr (p:Prg) (f:Int):List (Nat×Nat):=if zr p f=true then (uZ p f.toNat).trace else []
section
variable {p:Prg} {f:Int}
theorem qNw (hs:Sml p):(qFJ p f).out.length≤1000∧(qFJ p f).gl.length≤8:=by
 unfold qFJ
 split
 ·rename_i h
  obtain⟨hpo,n,rfl,hn⟩:=yK h
  have hb:=wS (n:=n) (ValP.of hs hpo) hn
  simp only [qPO,ye,List.length_map,Int.toNat_natCast]
  omega
 ·simp
theorem qMp (hs:Sml p):(qHr p f).length≤1000:=by
 unfold qHr
 split
 ·rename_i h
  obtain⟨hpo,n,rfl,hn⟩:=yK h
  have hb:=wS (n:=n) (ValP.of hs hpo) hn
  simp only [Int.toNat_natCast]
  omega
 ·simp
end
section
variable {hp hp':Nm→Option AO} {p:Prg} {m m':Mch} {fs:List Frm} {f g:Frm} {R R':List AV} {i:Nat} {e:Int} {v:Val}
theorem qCO {o:List AV} (h:hp Yn=some (.row 4415 [R])) (h':hp Yn=some (.row 4415 [o])):o=R:=by
 rw [h] at h'
 injection h' with e
 injection e with e1 e2
 injection e2 with e3
 exact e3.symm
theorem wZ {i k:Nat} (h:i<k):¬ i=k∧(29 * i=29 * k)=False∧(∀ a,a<29→(32+29 * i+a=yo k)=False)∧∀ a,(32+29 * i=yo k+a)=False :=
 ⟨by omega,eq_false (by omega),fun a ha=>eq_false (by simp only [yo];omega),fun a=>eq_false (by simp only [yo];omega)⟩
theorem OwnY.reT (h:OwnY hp p m) (hm:m.frames=fs++[f]) (hm':m'.frames=fs++[g]) (hc:m'.cells.length=m.cells.length)
  (h0:∀ J:Nat→List AV,(∀ i,(J i).length=29)→hp Yn=some (.row 4415 [qw p m (fs.length+1) (yc (fs++[f]) J)])→∃ J':Nat→List AV,(∀ i,(J' i).length=29)∧hp' Yn=some (.row 4415 [qw p m' (fs.length+1) (yc (fs++[g]) J')]))
  (h1:hp' (.c Yn 0 1)=some (.row 1 (jd p p.length)):=by simp [h.caps])
  (h2:hp' (.c Yn 0 4)=some (.row 1 (qY m'.out)):=by simp [h.out])
  (h3:hp' (.c Yn 0 5)=some (.row 2 (yI m'.trace)):=by simp [h.trc])
  (h4:hp' (.c Yn 0 30)=some (.row 2 (jW m'.funs)):=by simp [h.funs])
  (h5:hp' (.c Yn 0 31)=some (.row 24 (jc m'.classes)):=by simp [h.clss])
  (h6:∀ (i:Nat) x,i<fs.length→hp (.c Yn 0 (32+29 * i+2))=some (.row 3 (qV x))→hp' (.c Yn 0 (32+29 * i+2))=some (.row 3 (qV x)):=by intro i x hi hx;have e:=wZ hi;simp [hx,e.1,e.2.1,e.2.2.1,e.2.2.2])
  (h6t:hp' (.c Yn 0 (yo fs.length+2))=some (.row 3 (qV g.fasts)):=by simp [h.fasts])
  (h7:∀ (i:Nat) x,i<fs.length→hp (.c Yn 0 (32+29 * i+3))=some (.row 1 (zI x))→hp' (.c Yn 0 (32+29 * i+3))=some (.row 1 (zI x)):=by intro i x hi hx;have e:=wZ hi;simp [hx,e.1,e.2.1,e.2.2.1,e.2.2.2])
  (h7t:hp' (.c Yn 0 (yo fs.length+3))=some (.row 1 (zI g.cells)))
  (h8:∀ (i:Nat) x,i<fs.length→hp (.c Yn 0 (32+29 * i+28))=some (.row 2 (zB x))→hp' (.c Yn 0 (32+29 * i+28))=some (.row 2 (zB x)):=by intro i x hi hx;have e:=wZ hi;simp [hx,e.1,e.2.1,e.2.2.1,e.2.2.2])
  (h8t:∃ j,hp' (.c Yn 0 (yo fs.length+28))=some (.row 2 (zB (g.stack++j))))
  (h9:∀ (c:Nat) s,m'.cells[c]?=some s→hp' (En c)=some (.row 3 [zu s]):=by intro c s hc;simp [h.cell c s hc])
  (hA:∀ k i j,fM k=true→¬ (k=1∧i=0∧j=0)→hp' (.u k i j)≠none→hp (.u k i j)≠none:=by intro k i j hk e hn;simpa [hk,e] using hn):OwnY hp' p m':=by
 have key:∀ (i:Nat) f',m'.frames[i]?=some f'→(i=fs.length∧f'=g)∨(i<fs.length∧m.frames[i]?=some f'):=by
  intro i f' hf
  rw [hm'] at hf
  rcases Nat.lt_trichotomy i fs.length with e|e|e
  ·rw [List.getElem?_append_left e] at hf
   exact .inr ⟨e,by rw [hm,List.getElem?_append_left e];exact hf⟩
  ·subst e
   simp at hf
   exact .inl ⟨rfl,hf.symm⟩
  ·rw [List.getElem?_eq_none (by simp;omega)] at hf
   cases hf
 refine⟨?_,h1,h2,h3,h4,h5,fun i f' hf=>?_,fun i f' hf=>?_,fun i f' hf=>?_,h9,fun k i j hk hn=>?_⟩
 ·obtain⟨J,hJ,e⟩:=h.top
  rw [hm] at e
  simp only [List.length_append,List.length_singleton] at e
  obtain⟨J',hJ',e'⟩:=h0 J hJ e
  refine⟨J',hJ',?_⟩
  rw [e',hm']
  simp
 ·rcases key i f' hf with⟨rfl,rfl⟩|⟨h1,h2⟩
  ·exact h6t
  ·exact h6 i _ h1 (h.fasts i f' h2)
 ·rcases key i f' hf with⟨rfl,rfl⟩|⟨h1,h2⟩
  ·exact h7t
  ·exact h7 i _ h1 (h.cls i f' h2)
 ·rcases key i f' hf with⟨rfl,rfl⟩|⟨h1,h2⟩
  ·exact h8t
  ·obtain⟨j,hj⟩:=h.stack i f' h2
   exact⟨j,h8 i _ h1 hj⟩
 ·by_cases e:k=1∧i=0∧j=0
  ·exact .inl e
  ·rw [hc]
   exact h.only k i j hk (hA k i j hk e hn)
theorem OwnY.topT (h:OwnY hp p m) (hm:m.frames=fs++[f]) (hi:fs.length<151):∃ R j,hp Yn=some (.row 4415 [R])∧TopR p m fs.length f R∧hp (.c Yn 0 (yo fs.length+2))=some (.row 3 (qV f.fasts))∧hp (.c Yn 0 (yo fs.length+3))=some (.row 1 (zI f.cells))∧hp (.c Yn 0 (yo fs.length+28))=some (.row 2 (zB (f.stack++j))):=by
 obtain⟨J,j,hJ,hT,h2,h3,h28⟩:=h.topF hm
 exact⟨_,j,hT,qY3 hJ hi,h2,h3,h28⟩
theorem qBL (hr:hp Yn=some (.row 4415 [R])) (h':hp' Yn=some (.row 4415 [R'])) (h0:∀ J:Nat→List AV,(∀ i,(J i).length=29)→R=qw p m (fs.length+1) (yc (fs++[f]) J)→R'=qw p m' (fs.length+1) (yc (fs++[g]) J)) :
  ∀ J:Nat→List AV,(∀ i,(J i).length=29)→hp Yn=some (.row 4415 [qw p m (fs.length+1) (yc (fs++[f]) J)])→∃ J':Nat→List AV,(∀ i,(J' i).length=29)∧hp' Yn=some (.row 4415 [qw p m' (fs.length+1) (yc (fs++[g]) J')]):=fun J hJ e =>
 ⟨J,hJ,by rw [h',h0 J hJ (qCO hr e).symm]⟩
theorem qEO (hr:hp Yn=some (.row 4415 [R])) (h':hp' Yn=some (.row 4415 [R'])) (h0:∀ J:Nat→List AV,(∀ i,(J i).length=29)→R=qw p m (fs.length+1) (yc (fs++[f]) J)→∃ J':Nat→List AV,(∀ i,(J' i).length=29)∧R'=qw p m' (fs.length+1) (yc (fs++[g]) J')) :
  ∀ J:Nat→List AV,(∀ i,(J i).length=29)→hp Yn=some (.row 4415 [qw p m (fs.length+1) (yc (fs++[f]) J)])→∃ J':Nat→List AV,(∀ i,(J' i).length=29)∧hp' Yn=some (.row 4415 [qw p m' (fs.length+1) (yc (fs++[g]) J')]):=fun J hJ e=>by
 obtain⟨J',hJ',e'⟩:=h0 J hJ (qCO hr e).symm
 exact⟨J',hJ',by rw [h',e']⟩
@[simp] theorem yo_ne {k:Nat} (h:k<32):(32+29 * i=k)↔False:=iff_false_intro (by omega)
theorem kD {a b:Nm→Option Nm}:(AV.tr a∘AV.tr b)=AV.tr (fun m=>(b m).bind a):=by
 funext x
 exact AV.tr_tr b a x
theorem qAK {l:List AV} {v:AV} {k:Nat}:l.take k++v::l.drop (k+1)=spl l k [v]:=by simp [spl]
section
variable {F:Nm→Option Nm} {h:Nat} {c J:Nat→List AV} {x:AV} {L:List Frm}
theorem qPB:(qw p m h c).map (AV.tr F)=(yA p m).map (AV.tr F)++(vR m.globals++((yB m).map (AV.tr F)++(cat (fun i=>(c i).map (AV.tr F)) 151++yZ m h))):=by
 have h1:(cat c 151).map (AV.tr F)=cat (fun i=>(c i).map (AV.tr F)) 151:=qIk fun i _=>rfl
 simp only [qw,List.map_append,h1,kA]
 simp [yZ]
theorem qFN (hF:∀ j,32≤j→F (.c Yn 0 j)=some (.c Yn 0 j)):(fun i=>(yc L J i).map (AV.tr F))=yc L fun i=>(J i).map (AV.tr F):=by
 funext i
 unfold yc
 split
 ·simp [yfr,hF _ (show 32≤32+29 * i+2 by omega),hF _ (show 32≤32+29 * i+3 by omega),hF _ (show 32≤32+29 * i+28 by omega),AV.tr]
 ·rfl
theorem qS7 (hF:∀ j,j≠4→F (.c Yn 0 j)=some (.c Yn 0 j)):spl ((qw p m h (yc L J)).map (AV.tr F)) 4 [x]=spl (qw p m h (yc L fun i=>(J i).map (AV.tr F))) 4 [x]:=by
 rw [qPB,qFN fun j hj=>hF j (by omega)]
 simp [qw,yA,yB,hF 1 (by decide),hF 5 (by decide),hF 30 (by decide),hF 31 (by decide),AV.tr,jM,spl]
theorem qS6 (hF:∀ j,j≠5→F (.c Yn 0 j)=some (.c Yn 0 j)):spl ((qw p m h (yc L J)).map (AV.tr F)) 5 [x]=spl (qw p m h (yc L fun i=>(J i).map (AV.tr F))) 5 [x]:=by
 rw [qPB,qFN fun j hj=>hF j (by omega)]
 simp [qw,yA,yB,hF 1 (by decide),hF 4 (by decide),hF 30 (by decide),hF 31 (by decide),AV.tr,jM,spl]
theorem qPD {a b a' b' x:AV} {S:List AV} {P:List AV} {k:Nat} (hP:P.length=30) (hk:(k=30∧b=b')∨(k=31∧a=a')):spl (P++([a,b]++S)) k [x]=spl (P++([a',b']++S)) k [x]:=by
 rcases hk with⟨rfl,rfl⟩|⟨rfl,rfl⟩
 ·have h1:=kR (P:=P) (X:=[a,b]) (S:=S) (k:=0) (vals:=[x]) (by simp)
  have h2:=kR (P:=P) (X:=[a',b]) (S:=S) (k:=0) (vals:=[x]) (by simp)
  rw [hP] at h1 h2
  rw [h1,h2]
  rfl
 ·have h1:=kR (P:=P) (X:=[a,b]) (S:=S) (k:=1) (vals:=[x]) (by simp)
  have h2:=kR (P:=P) (X:=[a,b']) (S:=S) (k:=1) (vals:=[x]) (by simp)
  rw [hP] at h1 h2
  rw [h1,h2]
  rfl
theorem qPf (hF:∀ j,j≠30→F (.c Yn 0 j)=some (.c Yn 0 j)):spl ((qw p m h (yc L J)).map (AV.tr F)) 30 [x]=spl (qw p m h (yc L fun i=>(J i).map (AV.tr F))) 30 [x]:=by
 rw [qPB,qFN fun j hj=>hF j (by omega),qPJ]
 have e:(yA p m).map (AV.tr F)=yA p m:=by simp [yA,hF 1 (by decide),hF 4 (by decide),hF 5 (by decide),AV.tr,jM]
 rw [e,← List.append_assoc]
 exact qPD (by simp [yA]) (.inl ⟨rfl,by simp [hF 31 (by decide),AV.tr]⟩)
theorem qPe (hF:∀ j,j≠31→F (.c Yn 0 j)=some (.c Yn 0 j)):spl ((qw p m h (yc L J)).map (AV.tr F)) 31 [x]=spl (qw p m h (yc L fun i=>(J i).map (AV.tr F))) 31 [x]:=by
 rw [qPB,qFN fun j hj=>hF j (by omega),qPJ]
 have e:(yA p m).map (AV.tr F)=yA p m:=by simp [yA,hF 1 (by decide),hF 4 (by decide),hF 5 (by decide),AV.tr,jM]
 rw [e,← List.append_assoc]
 exact qPD (by simp [yA]) (.inr ⟨rfl,by simp [hF 30 (by decide),AV.tr]⟩)
theorem qY6 {o:List (Nat×Nat)} (hF:∀ j,j≠5→F (.c Yn 0 j)=some (.c Yn 0 j)):spl ((qw p m h (yc L J)).map (AV.tr F)) 5 [.hs (.c Yn 0 5) 2 0 o.length]=qw p { m with trace:=o } h (yc L fun i=>(J i).map (AV.tr F)):=by rw [qS6 hF,qS2]
theorem qY7 {o:List Int} (hF:∀ j,j≠4→F (.c Yn 0 j)=some (.c Yn 0 j)):spl ((qw p m h (yc L J)).map (AV.tr F)) 4 [.hs (.c Yn 0 4) 1 0 o.length]=qw p { m with out:=o } h (yc L fun i=>(J i).map (AV.tr F)):=by rw [qS7 hF,qS3]
theorem qXV {o:List (Nat×List Nat)} (hF:∀ j,j≠30→F (.c Yn 0 j)=some (.c Yn 0 j)):spl ((qw p m h (yc L J)).map (AV.tr F)) 30 [.hs (.c Yn 0 30) 2 0 o.length]=qw p { m with funs:=o } h (yc L fun i=>(J i).map (AV.tr F)):=by rw [qPf hF,qPd]
theorem qXU {o:List (List Slt)} (hF:∀ j,j≠31→F (.c Yn 0 j)=some (.c Yn 0 j)):spl ((qw p m h (yc L J)).map (AV.tr F)) 31 [.hs (.c Yn 0 31) 24 0 o.length]=qw p { m with classes:=o } h (yc L fun i=>(J i).map (AV.tr F)):=by rw [qPe hF,qPc]
theorem qXq (o:List Int) {v:AV} (hJ:∀ i,(J i).length=29) (hv:v=.hs (.c Yn 0 4) 1 0 o.length) (hF:∀ j,j≠4→F (.c Yn 0 j)=some (.c Yn 0 j)):∃ J':Nat→List AV,(∀ i,(J' i).length=29)∧((qw p m h (yc L J)).map (AV.tr F)).take 4++v::((qw p m h (yc L J)).map (AV.tr F)).drop 5=qw p { m with out:=o } h (yc L J') :=
 ⟨fun i=>(J i).map (AV.tr F),fun i=>by simp [hJ],by rw [qAK,hv,qY7 hF]⟩
theorem qXp (o:List (Nat×Nat)) {v:AV} (hJ:∀ i,(J i).length=29) (hv:v=.hs (.c Yn 0 5) 2 0 o.length) (hF:∀ j,j≠5→F (.c Yn 0 j)=some (.c Yn 0 j)):∃ J':Nat→List AV,(∀ i,(J' i).length=29)∧((qw p m h (yc L J)).map (AV.tr F)).take 5++v::((qw p m h (yc L J)).map (AV.tr F)).drop 6=qw p { m with trace:=o } h (yc L J') :=
 ⟨fun i=>(J i).map (AV.tr F),fun i=>by simp [hJ],by rw [qAK,hv,qY6 hF]⟩
theorem qUw (o:List (Nat×List Nat)) {v:AV} (hJ:∀ i,(J i).length=29) (hv:v=.hs (.c Yn 0 30) 2 0 o.length) (hF:∀ j,j≠30→F (.c Yn 0 j)=some (.c Yn 0 j)):∃ J':Nat→List AV,(∀ i,(J' i).length=29)∧((qw p m h (yc L J)).map (AV.tr F)).take 30++v::((qw p m h (yc L J)).map (AV.tr F)).drop 31=qw p { m with funs:=o } h (yc L J') :=
 ⟨fun i=>(J i).map (AV.tr F),fun i=>by simp [hJ],by rw [qAK,hv,qXV hF]⟩
theorem qUv (o:List (List Slt)) {v:AV} (hJ:∀ i,(J i).length=29) (hv:v=.hs (.c Yn 0 31) 24 0 o.length) (hF:∀ j,j≠31→F (.c Yn 0 j)=some (.c Yn 0 j)):∃ J':Nat→List AV,(∀ i,(J' i).length=29)∧((qw p m h (yc L J)).map (AV.tr F)).take 31++v::((qw p m h (yc L J)).map (AV.tr F)).drop 32=qw p { m with classes:=o } h (yc L J') :=
 ⟨fun i=>(J i).map (AV.tr F),fun i=>by simp [hJ],by rw [qAK,hv,qXU hF]⟩
end
theorem OwnY.wrR (h:OwnY hp p m) (hm:m.frames=fs++[f]) (hm':m'.frames=fs++[g]) (hr:hp Yn=some (.row 4415 [R])) (h0:∀ J:Nat→List AV,(∀ i,(J i).length=29)→R=qw p m (fs.length+1) (yc (fs++[f]) J)→R'=qw p m' (fs.length+1) (yc (fs++[g]) J))
  (e1:m'.cells=m.cells:=by rfl) (e2:m'.out=m.out:=by rfl) (e3:m'.trace=m.trace:=by rfl) (e4:m'.funs=m.funs:=by rfl) (e5:m'.classes=m.classes:=by rfl) (g1:g.fasts=f.fasts:=by rfl) (g2:g.cells=f.cells:=by rfl) (g3:∃ l,f.stack=g.stack++l:=by exact⟨[],by simp⟩) :
  OwnY (wrO Yn (.row 4415 [R']) hp) p m':=by
 have hf:m.frames[fs.length]?=some f:=by simp [hm]
 refine h.reT hm hm' (by rw [e1]) (qBL hr (by simp [wrO]) h0) (by simp [wrO,h.caps]) (by simp [wrO,h.out,e2]) (by simp [wrO,h.trc,e3]) (by simp [wrO,h.funs,e4]) (by simp [wrO,h.clss,e5]) (fun i x _ hx=>by simp [wrO,hx]) ?_ (fun i x _ hx=>by simp [wrO,hx]) ?_ (fun i x _ hx=>by simp [wrO,hx]) ?_ (fun c s hc=>?_) (fun k i j hk e hn=>?_)
 ·rw [g1];simp [wrO,h.fasts _ f hf]
 ·rw [g2];simp [wrO,h.cls _ f hf]
 ·obtain⟨j,hj⟩:=h.stack _ f hf
  obtain⟨l,hl⟩:=g3
  exact⟨l++j,by simp [wrO,hj,hl]⟩
 ·rw [e1] at hc
  simp [wrO,h.cell c s hc]
 ·simp only [wrO] at hn
  rwa [if_neg (by simpa using e)] at hn
theorem OwnY.stopped (h:OwnY hp p m) (hm:m.frames=fs++[f]) (hr:hp Yn=some (.row 4415 [R])):OwnY (wrO Yn (.row 4415 [spl R 3 [iv e]]) hp) p { m with en:=e } :=
 h.wrR hm (m':={ m with en:=e }) (g:=f) hm hr (fun J _ e=>by rw [e];exact qS4)
end
end Go.Hm
end
section
namespace Go.Hm
open Go Go.RowKit
def zl (m:Mch) (fs:List Frm) (f:Frm) (o:Int×Int) (w:Nat) (e:Int):Mch :=
 if w=1 then setS m fs f.pop o (some f.tos) else match qBc m f o with
  | none=>m.stop fs f e
  | some v=>if w=0 then m.top fs (f.push v) else setS m fs f o none
structure WrY (p:Prg) (m:Mch) (fs:List Frm) (f:Frm) (o:Int×Int) (off:Nat):Prop where
 le:off+3≤4411
 rd:∀ g R,g.names=f.names→TopR p (m.top fs g) fs.length g R→∀ j,j<3→R[off+j]?=(zu (qBc m f o))[j]?
 wr:∀ g s,g.names=f.names→g.cells=f.cells→∃ G,(setS m fs g o s).frames=fs++[G]∧G.fasts=g.fasts∧G.cells=g.cells∧G.stack=g.stack∧(setS m fs g o s).cells=m.cells∧(setS m fs g o s).out=m.out∧(setS m fs g o s).trace=m.trace∧(setS m fs g o s).funs=m.funs∧(setS m fs g o s).classes=m.classes∧(setS m fs g o s).en=m.en ∧
  ∀ J:Nat→List AV,(∀ i,(J i).length=29)→spl (qw p (m.top fs g) (fs.length+1) (yc (fs++[g]) J)) off (zu s)=qw p (setS m fs g o s) (fs.length+1) (yc (fs++[G]) J)
section
variable {p:Prg} {m:Mch} {fs:List Frm} {f g:Frm} {o:Int×Int} {x:Nat}
theorem WrY.glob (hg:m.globals.length=8) (h1:8≤o.1) (h2:o.1≤10) (hx:o.2.toNat<8):WrY p m fs f o (6+3 * o.2.toNat):=by
 have e1:¬ o.1≤4:=by omega
 have e2:¬ o.1≤7:=by omega
 refine⟨by omega,fun g R _ tr j hj=>?_,fun g s _ _=>⟨g,?_⟩⟩
 ·rw [Nat.add_assoc,tr.gl _ j hx hj]
  simp [qBc,e1,e2,h2,Mch.top]
 ·have e:setS m fs g o s={ m.top fs g with globals:=m.globals.set o.2.toNat s }:=by simp [setS,e1,e2,h2]
  rw [e]
  exact⟨rfl,rfl,rfl,rfl,rfl,rfl,rfl,rfl,rfl,rfl,fun J hJ=>qSZ (m:=m.top fs g) hg hx⟩
theorem WrY.name (hn:f.names.length=8) (hi:fs.length<151) (h1:11≤o.1) (hx:o.2.toNat<8):WrY p m fs f o (yo fs.length+4+3 * o.2.toNat):=by
 have e1:¬ o.1≤4:=by omega
 have e2:¬ o.1≤7:=by omega
 have e3:¬ o.1≤10:=by omega
 refine⟨by simp only [yo];omega,fun g R hg tr j hj=>?_,fun g s hg _=>⟨{ g with names:=g.names.set o.2.toNat s },?_⟩⟩
 ·rw [Nat.add_assoc,tr.nm _ j hx hj]
  simp [qBc,e1,e2,e3,hg]
 ·have e:setS m fs g o s=m.top fs { g with names:=g.names.set o.2.toNat s }:=by simp [setS,e1,e2,e3]
  rw [e]
  refine⟨rfl,rfl,rfl,rfl,rfl,rfl,rfl,rfl,rfl,rfl,fun J hJ=>?_⟩
  have:=qHm (p:=p) (m:=m.top fs g) (h:=fs.length+1) (J:=J) (fs:=fs++[g]) (i:=fs.length) (f:=g) (g:={ g with names:=g.names.set o.2.toNat s }) (j:=4+3 * o.2.toNat) (vals:=zu s) hJ (by simp) hi (by simp;omega) (qKL (by rw [hg];exact hn) hx)
  rw [← Nat.add_assoc,← Nat.add_assoc] at this
  refine this.trans ?_
  simp [qw,yA,yB,yZ,Mch.top]
end
def DY9:Nm→Bool:=fun k=>DM k||Nm.under (.u 9 0 0) k
theorem qFH {q:Nm} (h:DY9 q=true):q.sroot=false:=by
 rcases Bool.or_eq_true _ _ ▸ h with h|h
 ·exact qQ h
 ·exact qu rfl h
theorem qYT {q:Nm} (h:Nm.under (.u 9 0 0) q=true):DM q=false:=by
 induction q with
 | s d=>simp at h
 | u a b c =>
  simp at h
  obtain⟨rfl,rfl,rfl⟩:=h
  rfl
 | c r i j ih =>
  simp only [qDw] at h
  exact ih h
theorem qYp {q:Nm} (h:Nm.under Yn q=true):DM q=true:=by
 induction q with
 | s d=>simp at h
 | u a b c =>
  simp at h
  obtain⟨rfl,rfl,rfl⟩:=h
  rfl
 | c r i j ih =>
  simp only [qDw] at h
  exact ih h
theorem qRr {q:Nm} {j:Nat} (h:Nm.under (.c Yn 0 j) q=true):DM q=true:=qYp (Nm.under_trans (by simp) h)
section
variable {hp hp':Nm→Option AO} {p:Prg} {m:Mch} {fs:List Frm} {f:Frm} {k j:Nat}
theorem qQ9 {g:AV→AV} {l vals:List AV} {k:Nat}:(spl l k vals).map g=spl (l.map g) k (vals.map g):=by simp [spl,List.map_take,List.map_drop]
theorem OwnY.same (h:OwnY hp p m) (hs:qBE DM hp' hp):OwnY hp' p m:=by
 obtain⟨F,h1,h2⟩:=hs
 exact h.ren h1 h2
theorem OwnY.keep (h:OwnY hp p m) (hm:m.frames=fs++[f]) (hi:fs.length<151) (hk:f.stack.length=k+1) (hj:j≠yo fs.length+28):∃ (R R':List AV) (vs:List Val),hp Yn=some (.row 4415 [R])∧(yC DY9 (hmv (.c Yn 0 j) (.u 9 0 0) hp)) Yn=some (.row 4415 [R'])∧R'[yo fs.length+28]?=some (.hs (.c Yn 0 (yo fs.length+28)) 2 0 (k+1))∧(yC DY9 (hmv (.c Yn 0 j) (.u 9 0 0) hp)) (.c Yn 0 (yo fs.length+28))=some (.row 2 (zB vs))∧vs[k]?=some f.tos ∧
  (AO.row 4415 [spl R (yo fs.length+28) [.hs (.c Yn 0 (yo fs.length+28)) 2 0 k]]).tr (mv (.c Yn 0 j) (.u 9 0 0))=.row 4415 [spl R' (yo fs.length+28) [.hs (.c Yn 0 (yo fs.length+28)) 2 0 k]]:=by
 obtain⟨R,i,hT,tr,h2,h3,h28⟩:=h.topT hm hi
 have e1:Nm.under (.c Yn 0 j) Yn=false:=by simp
 have e2:Nm.under (.c Yn 0 j) (.c Yn 0 (yo fs.length+28))=false:=by simp [Ne.symm hj]
 have hm:mv (.c Yn 0 j) (.u 9 0 0) (.c Yn 0 (yo fs.length+28))=some (.c Yn 0 (yo fs.length+28)):=by simp only [mv,e2,Bool.false_eq_true,if_false];simp
 have he:∀ q,(AV.hs (.c Yn 0 (yo fs.length+28)) 2 0 q).tr (mv (.c Yn 0 j) (.u 9 0 0))=.hs (.c Yn 0 (yo fs.length+28)) 2 0 q:=fun q=>by simp only [AV.tr,hm]
 refine⟨R,R.map (AV.tr (mv (.c Yn 0 j) (.u 9 0 0))),f.stack++i,hT,?_,?_,?_,ja hk,?_⟩
 ·simp only [yC,DY9,hmv,e1,hT]
  simp [AO.tr]
 ·rw [List.getElem?_map,tr.f28,hk]
  simp only [Option.map_some,he]
 ·simp only [yC,DY9,hmv,e2,h28]
  simp [AO.tr]
 ·simp only [AO.tr,qQ9,List.map_cons,List.map_nil,he]
theorem TopR.glv {i x:Nat} {v:Val} {R:List AV} (tr:TopR p m i f R) (hx:x<8) (h:yt m.globals x=some v):(R.drop (6+x * 3+1)).take 2=[iv v.1,iv v.2]:=by
 have g1:=tr.gl x 1 hx (by omega)
 have g2:=tr.gl x 2 hx (by omega)
 rw [h,Nat.mul_comm,← Nat.add_assoc] at g1 g2
 exact kw g1 g2
theorem TopR.nmv {i x:Nat} {v:Val} {R:List AV} (tr:TopR p m i f R) (hx:x<8) (h:yt f.names x=some v):(R.drop (yo i+4+x * 3+1)).take 2=[iv v.1,iv v.2]:=by
 have g1:=tr.nm x 1 hx (by omega)
 have g2:=tr.nm x 2 hx (by omega)
 rw [h,Nat.mul_comm,← Nat.add_assoc] at g1 g2
 exact kw g1 g2
end
end Go.Hm
end
section
namespace Go.Hm
open Go Go.RowKit
def qHj (hp:Nm→Option AO) (p:Prg) (m:Mch) (h:Nat):Prop:=∃ J:Nat→List AV,(∀ i,(J i).length=29)∧hp Yn=some (.row 4415 [qw p m h (yc m.frames J)])∧OwnY (wrO Yn (.row 4415 [qw p m m.frames.length (yc m.frames J)]) hp) p m
section
variable {hp hp':Nm→Option AO} {p:Prg} {m:Mch} {fs:List Frm} {f:Frm} {h:Nat} {F:Nm→Option Nm} {J:Nat→List AV} {vals R:List AV}
theorem qUJ (hJ:∀ i,(J i).length=29) (hi:fs.length<151) (hv:vals.length=29) (hF:∀ j,j≠yo fs.length+2→j≠yo fs.length+3→j≠yo fs.length+28→F (.c Yn 0 j)=some (.c Yn 0 j)) :
  spl ((qw p m h (yc (fs++[f]) J)).map (AV.tr F)) (yo fs.length) vals=qw p m h (yc fs fun k=>if k=fs.length then vals else (J k).map (AV.tr F)):=by
 have hl:∀ j,j<32→F (.c Yn 0 j)=some (.c Yn 0 j):=fun j hj=>hF j (by simp only [yo];omega) (by simp only [yo];omega) (by simp only [yo];omega)
 have eA:(yA p m).map (AV.tr F)=yA p m:=by simp [yA,hl,AV.tr,jM]
 have eB:(yB m).map (AV.tr F)=yB m:=by simp [yB,hl,AV.tr,jM]
 rw [qPB,eA,eB]
 have e:yA p m++(vR m.globals++(yB m++(cat (fun i=>(yc (fs++[f]) J i).map (AV.tr F)) 151++yZ m h)))=qw p m h fun i=>(yc (fs++[f]) J i).map (AV.tr F):=rfl
 rw [e,show yo fs.length=32+(29 * fs.length+0) by simp only [yo];omega]
 refine qHn (fun i=>by simp [j8 hJ]) hi (by omega) (fun k hk=>?_) ?_
 ·unfold yc
  rcases Nat.lt_trichotomy k fs.length with e|e|e
  ·rw [List.getElem?_append_left e,gE e]
   have h1:∀ a,a<29→a=2∨a=3∨a=28→F (.c Yn 0 (32+29 * k+a))=some (.c Yn 0 (32+29 * k+a)):=fun a ha _=>hF _ (by simp only [yo];omega) (by simp only [yo];omega) (by simp only [yo];omega)
   have h2:=h1 2 (by omega) (by omega)
   have h3:=h1 3 (by omega) (by omega)
   have h28:=h1 28 (by omega) (by omega)
   simp only [yfr,List.map_append,kA,List.map_cons,List.map_nil]
   simp [AV.tr,h2,h3,h28]
  ·exact absurd e hk
  ·rw [List.getElem?_eq_none (by omega),List.getElem?_eq_none (by simp;omega)]
   simp [hk]
 ·have h1:((yc (fs++[f]) J fs.length).map (AV.tr F)).length=29:=by simp [j8 hJ]
  have h2:yc fs (fun k=>if k=fs.length then vals else (J k).map (AV.tr F)) fs.length=vals:=by simp [yc]
  rw [h2]
  simp [spl,List.drop_eq_nil_of_le,hv,h1,j8 hJ]
theorem OwnY.endF (h:OwnY hp p m) (hm:m.frames=fs++[f]) (hi:fs.length<151) (hr:hp Yn=some (.row 4415 [R]))
  (hv:vals.length=29) (hF:∀ j,j≠yo fs.length+2→j≠yo fs.length+3→j≠yo fs.length+28→F (.c Yn 0 j)=some (.c Yn 0 j))
  (h0:hp' Yn=some (.row 4415 [spl (R.map (AV.tr F)) (yo fs.length) vals]))
  (h1:hp' (.c Yn 0 1)=some (.row 1 (jd p p.length)):=by simp [h.caps])
  (h2:hp' (.c Yn 0 4)=some (.row 1 (qY m.out)):=by simp [h.out])
  (h3:hp' (.c Yn 0 5)=some (.row 2 (yI m.trace)):=by simp [h.trc])
  (h4:hp' (.c Yn 0 30)=some (.row 2 (jW m.funs)):=by simp [h.funs])
  (h5:hp' (.c Yn 0 31)=some (.row 24 (jc m.classes)):=by simp [h.clss])
  (h6:∀ (i:Nat) x,i<fs.length→hp (.c Yn 0 (32+29 * i+2))=some (.row 3 (qV x))→hp' (.c Yn 0 (32+29 * i+2))=some (.row 3 (qV x)):=by intro i x hi hx;have e:=wZ hi;simp [hx,e.1,e.2.1,e.2.2.1,e.2.2.2])
  (h7:∀ (i:Nat) x,i<fs.length→hp (.c Yn 0 (32+29 * i+3))=some (.row 1 (zI x))→hp' (.c Yn 0 (32+29 * i+3))=some (.row 1 (zI x)):=by intro i x hi hx;have e:=wZ hi;simp [hx,e.1,e.2.1,e.2.2.1,e.2.2.2])
  (h8:∀ (i:Nat) x,i<fs.length→hp (.c Yn 0 (32+29 * i+28))=some (.row 2 (zB x))→hp' (.c Yn 0 (32+29 * i+28))=some (.row 2 (zB x)):=by intro i x hi hx;have e:=wZ hi;simp [hx,e.1,e.2.1,e.2.2.1,e.2.2.2])
  (h9:∀ (c:Nat) s,m.cells[c]?=some s→hp' (En c)=some (.row 3 [zu s]):=by intro c s hc;simp [h.cell c s hc])
  (hA:∀ k i j,fM k=true→¬ (k=1∧i=0∧j=0)→hp' (.u k i j)≠none→hp (.u k i j)≠none:=by intro k i j hk e hn;simpa [hk,e] using hn) :
  qHj hp' p { m with frames:=fs } (fs.length+1):=by
 obtain⟨J,hJ,e⟩:=h.top
 have hR:R=qw p m (fs.length+1) (yc (fs++[f]) J):=by
  rw [hm] at e
  simp only [List.length_append,List.length_singleton] at e
  exact (qCO hr e).symm
 have key:∀ (i:Nat) f',fs[i]?=some f'→i<fs.length∧m.frames[i]?=some f':=fun i f' hf=>by
  have hl:=(gS hf).1
  exact⟨hl,by rw [hm,List.getElem?_append_left hl];exact hf⟩
 have hrow:=qUJ (p:=p) (m:=m) (f:=f) (h:=fs.length+1) hJ hi hv hF
 refine⟨fun k=>if k=fs.length then vals else (J k).map (AV.tr F),fun i=>?_,?_,⟨fun k=>if k=fs.length then vals else (J k).map (AV.tr F),fun i=>?_,?_⟩,by simpa [wrO] using h1,by simpa [wrO] using h2,by simpa [wrO] using h3,by simpa [wrO] using h4,by simpa [wrO] using h5,fun i f' hf=>?_,fun i f' hf=>?_,fun i f' hf=>?_,fun c s hc=>?_,fun k i j hk hn=>?_⟩
 ·show (if i=fs.length then vals else (J i).map (AV.tr F)).length=29
  split
  ·exact hv
  ·simp [hJ]
 ·rw [h0,hR,hrow]
  rfl
 ·show (if i=fs.length then vals else (J i).map (AV.tr F)).length=29
  split
  ·exact hv
  ·simp [hJ]
 ·simp [wrO]
 ·obtain⟨a,b⟩:=key i f' hf
  simp only [wrO];rw [if_neg (by simp)]
  exact h6 i _ a (h.fasts i f' b)
 ·obtain⟨a,b⟩:=key i f' hf
  simp only [wrO];rw [if_neg (by simp)]
  exact h7 i _ a (h.cls i f' b)
 ·obtain⟨a,b⟩:=key i f' hf
  obtain⟨j,hj⟩:=h.stack i f' b
  refine⟨j,?_⟩
  simp only [wrO];rw [if_neg (by simp)]
  exact h8 i _ a hj
 ·simp only [wrO];rw [if_neg (by simp)]
  exact h9 c s hc
 ·by_cases e:k=1∧i=0∧j=0
  ·exact .inl e
  ·refine h.only k i j hk (hA k i j hk e ?_)
   simp only [wrO] at hn
   rwa [if_neg (by simpa using e)] at hn
theorem qHj.done (hY:qHj hp p m h) (hr:hp Yn=some (.row 4415 [R])) (h0:hp' Yn=some (.row 4415 [spl R 4411 [iv (m.frames.length:Nat)]])) (hh:∀ q,DM q=true→q≠Yn→hp' q=hp q):OwnY hp' p m:=by
 obtain⟨J,hJ,e,hO⟩:=hY
 refine hO.ren (f:=some) (fun _ _=>rfl) fun q hq=>?_
 by_cases hq1:q=Yn
 ·subst hq1
  have:=qCO hr e
  rw [h0,← this,qPC (j8 hJ)]
  simp only [wrO,if_true,Option.map_some,AO.tr_some]
 ·rw [hh q hq hq1]
  simp only [wrO]
  rw [if_neg hq1]
  cases hp q <;> simp [AO.tr_some]
theorem qHj.ht (hY:qHj hp p m h):∃ R,hp Yn=some (.row 4415 [R])∧R.length=4415∧R[4411]?=some (iv h):=by
 obtain⟨J,hJ,e,_⟩:=hY
 exact⟨_,e,yN (j8 hJ),qAD (j8 hJ)⟩
end
section
variable {st:St} {p:Prg} {m:Mch} {d:Option Nat} {a:AV} {i j:Nat} {o:AO}
theorem vE (h:OwnY st.hp p m):OwnY (st.put d a).hp p m:=by cases d <;> exact h
theorem jl {n:Nm} (hn:DM n=false) (h:OwnY st.hp p m):OwnY (st.setO n o).hp p m:=by
 refine h.ren (f:=some) (fun _ _=>rfl) fun k hk=>?_
 have:k≠n:=fun e=>by rw [e,hn] at hk;cases hk
 rw [qEE,if_neg this]
 cases st.hp k <;> simp [AO.tr_some]
theorem jn (h:OwnY st.hp p m):OwnY (st.kill (.s i)).hp p m :=
 h.ren (f:=kl (.s i)) (fun k hk=>by simp [kl,(D_s (fun _=>qQ) hk i).2]) fun k hk=>by
  have:=(D_s (fun _=>qQ) hk i).2
  simp [this]
theorem jm (h:OwnY st.hp p m):OwnY (st.move (.s i) (.s j)).hp p m :=
 h.ren (f:=mv (.s i) (.s j)) (fun k hk=>by simp [mv,(D_s (fun _=>qQ) hk i).2,(D_s (fun _=>qQ) hk j).2]) fun k hk=>by
  have h1:=(D_s (fun _=>qQ) hk i).2
  have h2:=(D_s (fun _=>qQ) hk j).2
  rw [qEa,h1,h2]
  simp
theorem vF (h:OwnY st.hp p m):OwnY (st.apd i (some (.s j))).hp p m :=
 h.ren (f:=kl (.s i)) (fun k hk=>by simp [kl,(D_s (fun _=>qQ) hk i).2]) fun k hk=>by
  have h1:=(D_s (fun _=>qQ) hk i).2
  have h2:=(D_s (fun _=>qQ) hk j).1
  rw [qMR,if_neg (fun e=>h2 (sI e).symm)]
  simp [h1]
end
end Go.Hm
end
section
namespace Go.Hm
open Go Go.RowKit
def jH (hp:Nm→Option AO) (p:Prg) (m:Mch) (C:List Slt):Prop:=∃ J:Nat→List AV,(∀ i,(J i).length=29)∧hp Yn=some (.row 4415 [qw p m m.frames.length (yc m.frames J)])∧OwnY (wrO Yn (.row 4415 [qw p { m with cells:=C } m.frames.length (yc m.frames J)]) hp) p { m with cells:=C }
section
variable {hp hp' H:Nm→Option AO} {p:Prg} {m:Mch} {C:List Slt} {F:Nm→Option Nm} {st:St} {d:Option Nat} {a:AV} {i j c:Nat} {o:AO} {s:Slt}
theorem OwnY.yc (h:OwnY hp p m):jH hp p m m.cells:=by
 obtain⟨J,hJ,e⟩:=h.top
 refine⟨J,hJ,e,h.ren (f:=some) (fun _ _=>rfl) fun q hq=>?_⟩
 by_cases h1:q=Yn
 ·subst h1
  rw [e]
  simp only [wrO,if_true,Option.map_some,AO.tr_some]
 ·simp only [wrO]
  rw [if_neg h1]
  cases hp q <;> simp [AO.tr_some]
theorem qBr {h:Nat} {L:List Frm} {J:Nat→List AV} (hc:∀ j,F (.c Yn 0 j)=some (.c Yn 0 j)):(qw p m h (yc L J)).map (AV.tr F)=qw p m h (yc L fun i=>(J i).map (AV.tr F)):=by
 rw [qPB,qFN fun j _=>hc j]
 simp [qw,yA,yB,hc,AV.tr,jM]
theorem jH.ren (h:jH hp p m C) (hf:∀ k,DM k=true→F k=some k) (hh:∀ k,DM k=true→hp' k=(hp k).map (AO.tr F)):jH hp' p m C:=by
 obtain⟨J,hJ,e,hO⟩:=h
 refine⟨fun i=>(J i).map (AV.tr F),fun i=>by simp [hJ],?_,hO.ren (f:=F) hf fun q hq=>?_⟩
 ·rw [hh _ rfl,e]
  simp only [Option.map_some,AO.tr,List.map_cons,List.map_nil]
  rw [qBr fun j=>hf _ rfl]
 ·by_cases h1:q=Yn
  ·subst h1
   simp only [wrO,if_true,Option.map_some,AO.tr,List.map_cons,List.map_nil]
   rw [qBr fun j=>hf _ rfl]
  ·simp only [wrO]
   rw [if_neg h1,if_neg h1,hh q hq]
theorem yQ {n:Nm} (hn:n.sroot=true):∀ k,DM k=true→Nm.under n k=false:=fun k hk=>by
 cases h:Nm.under n k with
 | false=>rfl
 | true=>have:=Nm.sroot_under hn h;rw [qQ hk] at this;cases this
theorem qOz {n:Nm} (hn:n.sroot=true):DM n=false:=by
 cases h:DM n with
 | false=>rfl
 | true=>rw [qQ h] at hn;cases hn
theorem qBG (h:jH st.hp p m C):jH (st.put d a).hp p m C:=by cases d <;> exact h
theorem w4 {n:Nm} (hn:n.sroot=true) (h:jH st.hp p m C):jH (st.setO n o).hp p m C:=by
 refine h.ren (F:=some) (fun _ _=>rfl) fun k hk=>?_
 have:k≠n:=fun e=>by rw [e,qOz hn] at hk;cases hk
 rw [qEE,if_neg this]
 cases st.hp k <;> simp [AO.tr_some]
theorem w6 {n:Nm} (hn:n.sroot=true) (h:jH st.hp p m C):jH (st.kill n).hp p m C :=
 h.ren (F:=kl n) (fun k hk=>by simp [kl,yQ hn k hk]) fun k hk=>by
  rw [qR4,yQ hn k hk]
  simp
theorem w5 {n n':Nm} (hn:n.sroot=true) (hn':n'.sroot=true) (h:jH st.hp p m C):jH (st.move n n').hp p m C :=
 h.ren (F:=mv n n') (fun k hk=>by simp [mv,yQ hn k hk,yQ hn' k hk]) fun k hk=>by
  rw [qEa,yQ hn k hk,yQ hn' k hk]
  simp
theorem qBp {n:Nm} (hn:n.sroot=true) (h:jH st.hp p m C):jH (st.apd i (some n)).hp p m C :=
 h.ren (F:=kl (.s i)) (fun k hk=>by simp [kl,(D_s (fun _=>qQ) hk i).2]) fun k hk=>by
  have h1:=(D_s (fun _=>qQ) hk i).2
  rw [qMR,if_neg (fun e=>by rw [sI e] at hn;rw [qQ hk] at hn;cases hn)]
  simp [h1]
theorem OwnY.free (h:OwnY hp p m) (hc:m.cells.length≤c):hp (.u 7 c 0)=none:=by
 cases e:hp (.u 7 c 0) with
 | none=>rfl
 | some o =>
  rcases h.only 7 c 0 rfl (by rw [e];simp) with⟨h1,_⟩|⟨_,h2,_⟩
  ·cases h1
  ·omega
theorem jH.set (h:jH hp p m C) (hc:c<C.length) (hw:hp' (En c)=some (.row 3 [zu s])) (hh:∀ q,DM q=true→q≠En c→hp' q=hp q):jH hp' p m (C.set c s):=by
 obtain⟨J,hJ,e,hO⟩:=h
 have hY:Yn≠En c:=by simp
 have hE:∀ j,Nm.c Yn 0 j≠En c:=fun j=>by simp
 have hE2:∀ j,Nm.c Yn 0 j≠Yn:=fun j=>by simp
 have rd:∀ q,DM q=true→q≠En c→q≠Yn→∀ z,wrO Yn z hp' q=wrO Yn (.row 4415 [qw p { m with cells:=C } m.frames.length (yc m.frames J)]) hp q:=fun q h1 h2 h3 z=>by
  simp only [wrO]
  rw [if_neg h3,if_neg h3,hh q h1 h2]
 refine⟨J,hJ,by rw [hh _ rfl hY];exact e,⟨J,hJ,by simp [wrO]⟩,?_,?_,?_,?_,?_,fun i f hf=>?_,fun i f hf=>?_,fun i f hf=>?_,fun c' s' hs'=>?_,fun k i j hk hn=>?_⟩
 ·rw [rd _ rfl (hE _) (hE2 _)];exact hO.caps
 ·rw [rd _ rfl (hE _) (hE2 _)];exact hO.out
 ·rw [rd _ rfl (hE _) (hE2 _)];exact hO.trc
 ·rw [rd _ rfl (hE _) (hE2 _)];exact hO.funs
 ·rw [rd _ rfl (hE _) (hE2 _)];exact hO.clss
 ·rw [rd _ rfl (hE _) (hE2 _)];exact hO.fasts i f hf
 ·rw [rd _ rfl (hE _) (hE2 _)];exact hO.cls i f hf
 ·obtain⟨j,hj⟩:=hO.stack i f hf
  exact⟨j,by rw [rd _ rfl (hE _) (hE2 _)];exact hj⟩
 ·simp only [List.getElem?_set] at hs'
  by_cases e1:c=c'
  ·subst e1
   rw [if_pos rfl,if_pos hc] at hs'
   obtain rfl:=sI hs'
   simp only [wrO]
   rw [if_neg (by simp)]
   exact hw
  ·rw [if_neg e1] at hs'
   rw [rd _ rfl (by simp [Ne.symm e1]) (by simp)]
   exact hO.cell c' s' hs'
 ·simp only [List.length_set]
  by_cases e1:Nm.u k i j=En c
  ·right
   injection e1 with a b d
   subst a b d
   exact⟨rfl,hc,rfl⟩
  ·by_cases e2:k=1∧i=0∧j=0
   ·exact .inl e2
   ·refine hO.only k i j hk fun e3=>hn ?_
    rw [rd (.u k i j) hk e1 (by simpa using e2)]
    exact e3
theorem qPa (s:Slt) (hc:c<C.length) (h:jH st.hp p m C):jH (st.setO (.u 7 c 0) (.row 3 [zu s])).hp p m (C.set c s) :=
 jH.set h hc (by simp) fun q _ hn=>by rw [qEE,if_neg hn]
theorem qLg {l:List (Nat×List Nat)} (h:∀ g∈l,∀ i∈g.2,F (En i)=some (En i)):(jW l).map (fun y=>y.map (AV.tr F))=jW l:=by
 simp only [jW,List.map_map]
 apply List.map_congr_left
 intro g hg
 have:(zI g.2).map (fun y=>y.map (AV.tr F))=zI g.2:=qBl (h g hg)
 simp [AV.tr,jM,this]
theorem jH.add {n0:Nm} (h0:n0.sroot=true) (h:jH st.hp p m C) (hs:st.hp n0=some (.row 3 [zu s])) (hfr:∀ f∈m.frames,∀ c∈f.cells,c<C.length) (hfn:∀ g∈m.funs,∀ c∈g.2,c<C.length):jH (st.move n0 (.u 7 C.length 0)).hp p m (C++[s]):=by
 obtain⟨J,hJ,e,hO⟩:=h
 have rd:∀ q,Nm.under (.u 7 C.length 0) q=false→Nm.under n0 q=false→(st.move n0 (.u 7 C.length 0)).hp q=(st.hp q).map (AO.tr (mv n0 (.u 7 C.length 0))):=fun q h1 h2=>by
  rw [qEa,h1,h2];simp
 have rc:∀ j,(st.move n0 (.u 7 C.length 0)).hp (.c Yn 0 j)=(st.hp (.c Yn 0 j)).map (AO.tr (mv n0 (.u 7 C.length 0))):=fun j=>rd _ (by simp) (yQ h0 _ rfl)
 have fc:∀ j,mv n0 (.u 7 C.length 0) (.c Yn 0 j)=some (.c Yn 0 j):=fun j=>by simp [mv,yQ h0 (.c Yn 0 j) rfl]
 have fe:∀ c,c<C.length→mv n0 (.u 7 C.length 0) (En c)=some (En c):=fun c hc=>by
  have:¬ C.length=c:=by omega
  simp [mv,Nat.ne_of_lt hc,yQ h0 (En c) rfl]
 have o1:=hO.caps
 have o2:=hO.out
 have o3:=hO.trc
 have o4:=hO.funs
 have o5:=hO.clss
 simp only [wrO] at o1 o2 o3 o4 o5
 rw [if_neg (by simp)] at o1 o2 o3 o4 o5
 have eY:(st.move n0 (.u 7 C.length 0)).hp Yn=some (.row 4415 [qw p m m.frames.length (yc m.frames fun k=>(J k).map (AV.tr (mv n0 (.u 7 C.length 0))))]):=by
  rw [rd _ (by simp) (yQ h0 _ rfl),e]
  simp only [Option.map_some,AO.tr,List.map_cons,List.map_nil]
  rw [qBr fc]
 refine⟨fun k=>(J k).map (AV.tr (mv n0 (.u 7 C.length 0))),fun k=>by simp [hJ],eY,⟨fun k=>(J k).map (AV.tr (mv n0 (.u 7 C.length 0))),fun k=>by simp [hJ],by simp [wrO]⟩,?_,?_,?_,?_,?_,fun i f hf=>?_,fun i f hf=>?_,fun i f hf=>?_,fun c' s' hs'=>?_,fun k a b hk hn=>?_⟩
 ·simp only [wrO];rw [if_neg (by simp),rc,o1];simp [AO.tr]
 ·simp only [wrO];rw [if_neg (by simp),rc,o2];simp [AO.tr]
 ·simp only [wrO];rw [if_neg (by simp),rc,o3];simp [AO.tr]
 ·simp only [wrO];rw [if_neg (by simp),rc,o4]
  simp only [Option.map_some,AO.tr]
  rw [qLg fun g hg c hc=>fe c (hfn g hg c hc)]
 ·simp only [wrO];rw [if_neg (by simp),rc,o5];simp [AO.tr]
 ·have o:=hO.fasts i f hf
  simp only [wrO] at o ⊢
  rw [if_neg (by simp)] at o ⊢
  rw [rc,o];simp [AO.tr]
 ·have o:=hO.cls i f hf
  simp only [wrO] at o ⊢
  rw [if_neg (by simp)] at o ⊢
  rw [rc,o]
  simp only [Option.map_some,AO.tr]
  rw [qBl fun c hc=>fe c (hfr f (gM hf) c hc)]
 ·obtain⟨j,o⟩:=hO.stack i f hf
  simp only [wrO] at o ⊢
  rw [if_neg (by simp)] at o ⊢
  exact⟨j,by rw [rc,o];simp [AO.tr]⟩
 ·simp only [wrO];rw [if_neg (by simp)]
  rcases Nat.lt_trichotomy c' C.length with e1|e1|e1
  ·have o:=hO.cell c' s' (by simp only at hs' ⊢;rwa [List.getElem?_append_left e1] at hs')
   simp only [wrO] at o
   rw [if_neg (by simp)] at o
   rw [rd _ (by simp [Nat.ne_of_lt e1]) (yQ h0 _ rfl),o]
   simp [AO.tr]
  ·subst e1
   simp at hs'
   subst hs'
   simp [hs,AO.tr]
  ·simp only at hs'
   rw [List.getElem?_eq_none (by simp;omega)] at hs'
   cases hs'
 ·simp only [List.length_append,List.length_singleton]
  by_cases e1:k=7∧a=C.length∧b=0
  ·obtain⟨rfl,rfl,rfl⟩:=e1
   exact .inr ⟨rfl,by omega,rfl⟩
  ·by_cases e2:k=1∧a=0∧b=0
   ·exact .inl e2
   ·have hn2:wrO Yn (.row 4415 [qw p { m with cells:=C } m.frames.length (yc m.frames J)]) st.hp (.u k a b)≠none:=fun e3=>hn (by
     simp only [wrO] at e3 ⊢
     rw [if_neg (by simpa using e2)] at e3 ⊢
     rw [rd _ (by simpa using e1) (yQ h0 (.u k a b) hk),e3];rfl)
    rcases hO.only k a b hk hn2 with h1|⟨h1,h2,h3⟩
    ·exact .inl h1
    ·simp only at h2
     exact .inr ⟨h1,by omega,h3⟩
theorem jH.add' {n0:Nm} {L:Nat} (hL:L=C.length) (h0:n0.sroot=true) (h:jH st.hp p m C) (hs:st.hp n0=some (.row 3 [zu s])) (hfr:∀ f∈m.frames,∀ c∈f.cells,c<C.length) (hfn:∀ g∈m.funs,∀ c∈g.2,c<C.length):jH (st.move n0 (.u 7 L 0)).hp p m (C++[s]):=by
 subst hL
 exact jH.add h0 h hs hfr hfn
end
section
variable {p:Prg} {m:Mch} {fs:List Frm} {g:Frm} {h:Nat} {F:Nm→Option Nm} {J:Nat→List AV}
theorem qUK (hJ:∀ i,(J i).length=29) (hi:fs.length<151) (hF:∀ j,j≠yo fs.length+2→j≠yo fs.length+3→j≠yo fs.length+28→F (.c Yn 0 j)=some (.c Yn 0 j)) :
  spl ((qw p m h (yc fs J)).map (AV.tr F)) (yo fs.length) (yfr fs.length g)=qw p m h (yc (fs++[g]) fun k=>(J k).map (AV.tr F)):=by
 have hl:∀ j,j<32→F (.c Yn 0 j)=some (.c Yn 0 j):=fun j hj=>hF j (by simp only [yo];omega) (by simp only [yo];omega) (by simp only [yo];omega)
 have eA:(yA p m).map (AV.tr F)=yA p m:=by simp [yA,hl,AV.tr,jM]
 have eB:(yB m).map (AV.tr F)=yB m:=by simp [yB,hl,AV.tr,jM]
 rw [qPB,eA,eB]
 have e:yA p m++(vR m.globals++(yB m++(cat (fun i=>(yc fs J i).map (AV.tr F)) 151++yZ m h)))=qw p m h fun i=>(yc fs J i).map (AV.tr F):=rfl
 rw [e,show yo fs.length=32+(29 * fs.length+0) by simp only [yo];omega]
 refine qHn (fun i=>by simp [j8 hJ]) hi (by simp) (fun k hk=>?_) ?_
 ·unfold yc
  rcases Nat.lt_trichotomy k fs.length with e|e|e
  ·rw [List.getElem?_append_left e,gE e]
   have h1:∀ a,a<29→F (.c Yn 0 (32+29 * k+a))=some (.c Yn 0 (32+29 * k+a)):=fun a ha=>hF _ (by simp only [yo];omega) (by simp only [yo];omega) (by simp only [yo];omega)
   have h2:=h1 2 (by omega)
   have h3:=h1 3 (by omega)
   have h28:=h1 28 (by omega)
   simp only [yfr,List.map_append,kA,List.map_cons,List.map_nil]
   simp [AV.tr,h2,h3,h28]
  ·exact absurd e hk
  ·rw [List.getElem?_eq_none (by simp;omega),List.getElem?_eq_none (by omega)]
 ·have h1:((yc fs J fs.length).map (AV.tr F)).length=29:=by simp [j8 hJ]
  have h2:yc (fs++[g]) (fun k=>(J k).map (AV.tr F)) fs.length=yfr fs.length g:=qGl (by simp)
  rw [h2]
  simp [spl,List.drop_eq_nil_of_le,h1,j8 hJ]
end
end Go.Hm
end
