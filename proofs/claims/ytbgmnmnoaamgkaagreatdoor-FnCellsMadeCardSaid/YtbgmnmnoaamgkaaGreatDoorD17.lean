/-
  Own texts, joined by mkclaim.py: Hm166, Hm167, Hm168, Hm169, Hm170, Hm171, Hm172, Hm173, Hm174, Hm175.
-/
import Derived.Test.YtbgmnmnoaamgkaaGreatDoorD15
import Derived.Test.YtbgmnmnoaamgkaaGreatDoorD16
import Derived.Test.YtbgmnmnoaamgkaaGreatDoorD12
set_option linter.unusedSimpArgs false
set_option linter.unusedVariables false
set_option maxRecDepth 100000
set_option maxHeartbeats 4000000

section
namespace Go.Hm
open Go Go.RowKit
section
variable {D:Nm→Bool} {a b c:Nat} {l:List AV}
theorem qLr (hD:∀ k,D k=true→k.sroot=false):(l.map (AV.tr (kl (.s a)))).map (AV.tr (zu D []))=l.map (AV.tr (zu D [])):=by
 rw [List.map_map]
 exact List.map_congr_left fun x _=>qLs hD
theorem qOe (hD:∀ k,D k=true→k.sroot=false):(l.map (AV.tr (kl (.s a))∘AV.tr (kl (.s b)))).map (AV.tr (zu D []))=l.map (AV.tr (zu D [])):=by
 rw [← List.map_map,qLr hD,qLr hD]
end
abbrev yo (i:Nat):Nat:=32+29 * i
def qP7 (D:Nm→Bool) (v:AV) (H:Nm→Option AO):Nm→AV→(Nm→Option AO)→Prop:=fun _ y H'=>y=v∧∀ k,D k=true→H' k=(H k).map (AO.tr (zu D []))
section
variable {hp hp' H H':Nm→Option AO} {p:Prg} {m m0 m':Mch} {fs:List Frm} {f g:Frm} {R:List AV} {k:Nat} {r:Nm} {y v:AV} {o:AO}
variable {P:Program} {C:Nat→Prop} {w:World} {g0:Gh} {gl:Nat→Option (List AV)} {n:Nat} {st:St} {K:St→Prop} {E:AV→St→Prop} {d c:Nat} {ty:TypeId} {pos:String} {aft:Array Edge} {gd:Option (Nat×Bool)} {args:Array Operand} {Ts:Array TypeId} {az:List AV} {Rr:Nm→AV→(Nm→Option AO)→Prop}
theorem qQ (h0:OwnY H p m0) (hO:OwnY st.hp p m) (hl:m0.cells.length≤m.cells.length) (hd:d<n:=by first|(simp;done)|fail) (ha:args.toList.map (ev st)=az:=by simp [fx];first|done|rfl)
  (hF:OwnY (jl DM st.hp) p m→FnE P gl c DM az (jl DM st.hp) Rr noE) (h:∀ y H',Rr (.s d) y H'→K ((st.call d DM (jl DM st.hp) H').put (some d) y)) :
  qK (un P C w g0 H n gl) ⟨some d,.call ⟨.value (.func c),args,Ts⟩,ty,pos,aft,gd⟩ K E st:=qDV DM (fun _=>qH) (fun k i j he=>h0.ext hO hl k i j he) hd ha (hF hO.sub) h
theorem OwnY.post (h:OwnY hp p m) (hh:∀ q,DM q=true→hp' q=(hp q).map (AO.tr (zu DM []))):OwnY hp' p m :=
 h.ren (f:=zu DM []) (fun q hq=>by simp only [zu,hq,if_true]) hh
theorem OwnY.smp (h:OwnY hp p m) (hw:qP7 DM v (jl DM hp) r y H'):OwnY H' p m:=by
 refine h.post fun q hq=>?_
 rw [hw.2 q hq]
 simp only [jl,hq,if_true]
theorem OwnY.wrp (h:OwnY (wrO Yn o hp) p m) (hw:qDp DM v Yn o (jl DM hp) r y H'):OwnY H' p m:=by
 refine h.post fun q hq=>?_
 rw [hw.2 q hq]
 simp only [wrO,jl,hq,if_true]
theorem OwnY.topF (h:OwnY hp p m) (hm:m.frames=fs++[f]):∃ (J:Nat→List AV) (j:List Val),(∀ i,(J i).length=29)∧hp Yn=some (.row 4415 [ql p m (fs.length+1) (yc (fs++[f]) J)])∧hp (.c Yn 0 (yo fs.length+2))=some (.row 3 (qN f.fasts))∧hp (.c Yn 0 (yo fs.length+3))=some (.row 1 (zA f.cells))∧hp (.c Yn 0 (yo fs.length+28))=some (.row 2 (qt (f.stack++j))):=by
 obtain⟨J,hJ,e⟩:=h.top
 have hf:m.frames[fs.length]?=some f:=by simp [hm]
 obtain⟨j,hs⟩:=h.stack _ f hf
 refine⟨J,j,hJ,?_,h.fasts _ f hf,h.cls _ f hf,hs⟩
 rw [e,hm]
 simp
structure TopR (p:Prg) (m:Mch) (i:Nat) (f:Frm) (R:List AV):Prop where
 len:R.length=4415
 r0:R[0]?=some (csl (qX p p.length))
 r1:R[1]?=some (.hs (.c Yn 0 1) 1 0 p.length)
 r2:R[2]?=some (iv m.left)
 r3:R[3]?=some (iv m.en)
 r4:R[4]?=some (.hs (.c Yn 0 4) 1 0 m.out.length)
 r5:R[5]?=some (.hs (.c Yn 0 5) 2 0 m.trace.length)
 r30:R[30]?=some (.hs (.c Yn 0 30) 2 0 m.funs.length)
 r31:R[31]?=some (.hs (.c Yn 0 31) 24 0 m.classes.length)
 h:R[4411]?=some (iv ((i:Int)+1))
 f0:R[yo i]?=some (iv f.blk)
 f1:R[yo i+1]?=some (iv f.pc)
 f2:R[yo i+2]?=some (.hs (.c Yn 0 (yo i+2)) 3 0 f.fasts.length)
 f3:R[yo i+3]?=some (.hs (.c Yn 0 (yo i+3)) 1 0 f.cells.length)
 f28:R[yo i+28]?=some (.hs (.c Yn 0 (yo i+28)) 2 0 f.stack.length)
 gl:∀ x j:Nat,x<8→j<3→R[6+(3 * x+j)]?=(zx (yn m.globals x))[j]?
 nm:∀ x j:Nat,x<8→j<3→R[yo i+4+(3 * x+j)]?=(zx (yn f.names x))[j]?
 tb:(R.drop (yo i+4)).take 24=vo f.names
theorem qYW {J:Nat→List AV} (hJ:∀ i,(J i).length=29) (hi:fs.length<151):TopR p m fs.length f (ql p m (fs.length+1) (yc (fs++[f]) J)):=by
 have hc:=jm (fs:=fs++[f]) hJ
 have hf:(fs++[f])[fs.length]?=some f:=by simp
 have hat:∀ {j:Nat},j<29→(ql p m (fs.length+1) (yc (fs++[f]) J))[yo fs.length+j]?=(yfr fs.length f)[j]?:=by
  intro j hj
  rw [Nat.add_assoc,qYT hc hi hj,qGv hf]
 refine⟨yx hc,qPM,qSf,qSe,qSd,qSc,qPL,qPn,qPm,?_,?_,?_,?_,?_,?_,fun x j hx hj=>qSb hx hj,fun x j hx hj=>?_,?_⟩
 ·rw [qAE hc];simp
 ·exact (hat (j:=0) (by omega)).trans rfl
 ·rw [hat (by omega)];rfl
 ·rw [hat (by omega)];rfl
 ·rw [hat (by omega)];rfl
 ·rw [hat (by omega)];exact qKP
 ·rw [Nat.add_assoc,hat (by omega)];exact qMe hx hj
 ·rw [show yo fs.length+4=32+(29 * fs.length+4) from Nat.add_assoc _ _ _,qV5 hc hi (by omega),qGv hf]
  exact qKM
theorem kv {a b:AV} {i:Nat} (h1:R[i]?=some a) (h2:R[i+1]?=some b):(R.drop i).take 2=[a,b]:=by
 obtain⟨l1,e1⟩:=gS h1
 obtain⟨l2,e2⟩:=gS h2
 rw [List.drop_eq_getElem_cons l1,List.drop_eq_getElem_cons l2,e1,e2]
 rfl
theorem OwnY.popped (h:OwnY hp p m) (hm:m.frames=fs++[f]) (hi:fs.length<151) (hr:hp Yn=some (.row 4415 [R])) (hk:f.stack.length=k+1):OwnY (wrO Yn (.row 4415 [spl R (yo fs.length+28) [.hs (.c Yn 0 (yo fs.length+28)) 2 0 k]]) hp) p { m with frames:=fs++[f.pop] }:=by
 obtain⟨J,j,hJ,hT,h2,h3,h28⟩:=h.topF hm
 obtain rfl:R=ql p m (fs.length+1) (yc (fs++[f]) J):=by
  rw [hr] at hT
  injection hT with e
  injection e with e1 e2
  injection e2
 have hlen:=v8 hk
 have hs:spl (ql p m (fs.length+1) (yc (fs++[f]) J)) (yo fs.length+28) [.hs (.c Yn 0 (yo fs.length+28)) 2 0 k]=ql p m (fs.length+1) (yc (fs++[f.pop]) J):=by
  have:=qHu (p:=p) (m:=m) (h:=fs.length+1) (fs:=fs++[f]) (i:=fs.length) (f:=f) (g:=f.pop) (j:=28) (vals:=[.hs (.c Yn 0 (yo fs.length+28)) 2 0 k]) hJ (by simp) hi (by simp) (by
   have:=qKN (i:=fs.length) (f:=f) (l:=f.pop.stack)
   rw [hlen] at this
   exact this)
  rw [← Nat.add_assoc] at this
  rw [this]
  simp
 rw [hs]
 have key:∀ (i:Nat) f',(fs++[f.pop])[i]?=some f'→∃ f'',m.frames[i]?=some f''∧f'.fasts=f''.fasts∧f'.cells=f''.cells∧∃ l,f''.stack=f'.stack++l:=by
  intro i f' hf
  rcases Nat.lt_trichotomy i fs.length with e|e|e
  ·rw [List.getElem?_append_left e] at hf
   exact⟨f',by rw [hm,List.getElem?_append_left e];exact hf,rfl,rfl,[],by simp⟩
  ·subst e
   simp at hf
   subst hf
   exact⟨f,by simp [hm],rfl,rfl,[f.tos],qCF hk⟩
  ·rw [List.getElem?_eq_none (by simp;omega)] at hf
   cases hf
 refine⟨⟨J,hJ,?_⟩,by simp [h.caps],by simp [h.out],by simp [h.trc],by simp [h.funs],by simp [h.clss],fun i f' hf=>?_,fun i f' hf=>?_,fun i f' hf=>?_,fun c s hc=>by simp [h.cell c s hc],fun a b c ha hn=>?_⟩
 ·simp only [wrO,if_true,List.length_append,List.length_singleton]
  rfl
 ·obtain⟨f'',h1,h2,_,_⟩:=key i f' hf
  rw [h2];simp [h.fasts i f'' h1]
 ·obtain⟨f'',h1,_,h2,_⟩:=key i f' hf
  rw [h2];simp [h.cls i f'' h1]
 ·obtain⟨f'',h1,_,_,l,h2⟩:=key i f' hf
  obtain⟨j',hj'⟩:=h.stack i f'' h1
  exact⟨l++j',by simp [hj',h2]⟩
 ·by_cases e:a=1∧b=0∧c=0
  ·exact .inl e
  ·refine h.only a b c ha fun e'=>hn ?_
   simp only [wrO]
   rw [if_neg (by simpa using e),e']
end
def Frm.cut (f:Frm) (i:Nat):Frm:={ f with stack:=f.stack.take (f.stack.length - i) }
section
variable {f:Frm} {i n:Nat} {p:Prg} {m:Mch} {fs:List Frm}
theorem qIq:f.cut 0=f:=by simp [Frm.cut]
theorem qHe (h:i<f.stack.length):(f.cut i).stack.length=(f.stack.length - (i+1))+1:=by simp [Frm.cut];omega
theorem qFC (h:i<f.stack.length):(f.cut i).pop=f.cut (i+1):=by
 simp only [Frm.pop,Frm.cut]
 congr 1
 rw [List.dropLast_eq_take,List.take_take,List.length_take]
 congr 1
 omega
theorem qFB (h:i<f.stack.length):f.stack[f.stack.length - (i+1)]?=some (f.cut i).tos:=by
 have h1:=j8 (f:=f.cut i) (j:=[]) (qHe h)
 rw [List.append_nil] at h1
 rw [← h1]
 simp only [Frm.cut]
 rw [List.getElem?_take,if_pos (by omega)]
theorem qIr (h:i<f.stack.length):f.stack.drop (f.stack.length - (i+1))=(f.cut i).tos::f.stack.drop (f.stack.length - i):=by
 have h1:=qFB h
 obtain⟨hl,hE⟩:=gS h1
 rw [List.drop_eq_getElem_cons hl,hE]
 congr 2
 omega
theorem qGl (h:n+1≤f.stack.length):uo p m fs f (17,(n:Int))=if (f.cut n).tos.1≠2 then m.stop fs (f.cut (n+1)) 5 else match m.funs[(f.cut n).tos.2.toNat]? with
  | some g=>if qIZ p g.1≠n then m.stop fs (f.cut (n+1)) 6 else qk p (m.top fs (f.cut (n+1))) g.1 g.2 (f.stack.drop (f.stack.length - n))
  | none=>m.stop fs (f.cut (n+1)) 5:=by
 have h1:=qFB (f:=f) (i:=n) (by omega)
 have h2:f.stack.getD (f.stack.length - n - 1) (0,0)=(f.cut n).tos:=by
  rw [List.getD_eq_getElem?_getD,Nat.sub_sub,h1]
  rfl
 have h3:({ f with stack:=f.stack.take (f.stack.length - n - 1) }:Frm)=f.cut (n+1):=by rw [Nat.sub_sub];rfl
 have h4:f.stack.length - n - 1+1=f.stack.length - n:=by omega
 simp only [uo,Int.toNat_natCast]
 rw [h2,h3,h4]
 rfl
def qPH (p:Prg) (m:Mch) (b:Nat) (vs:List Val) (j:Nat) (fl C:List Slt):Prop :=
 (j=0∧fl=List.replicate (qI p b).length none∧C=m.cells++List.replicate (qE p b).length none) ∨
 (j=1∧∃ x v,(q8 p b).params=[x]∧vs=[v]∧((x∈qI p b∧fl=(List.replicate (qI p b).length none).set (qm (qI p b) x).toNat (some v)∧C=m.cells++List.replicate (qE p b).length none) ∨
   (x∉qI p b∧fl=List.replicate (qI p b).length none∧C=(m.cells++List.replicate (qE p b).length none).set (m.cells.length+(qm (qE p b) x).toNat) (some v))))
theorem qPH.fl {b j:Nat} {vs:List Val} {fl C:List Slt} (h:qPH p m b vs j fl C):fl.length=(qI p b).length:=by
 rcases h with⟨_,rfl,_⟩|⟨_,_,_,_,_,⟨_,rfl,_⟩|⟨_,rfl,_⟩⟩ <;> simp
theorem qPH.cl {b j:Nat} {vs:List Val} {fl C:List Slt} (h:qPH p m b vs j fl C):C.length=m.cells.length+(qE p b).length:=by
 rcases h with⟨_,_,rfl⟩|⟨_,_,_,_,_,⟨_,_,rfl⟩|⟨_,_,rfl⟩⟩ <;> simp
theorem qPH.fin {b j:Nat} {cs:List Nat} {vs:List Val} {fl C:List Slt} (h:qPH p m b vs j fl C) (hj:vs.length=j):qk p m b cs vs={ m with cells:=C,made:=m.made+1,deep:=max m.deep (m.frames.length+1),frames:=m.frames++[⟨b,0,fl,(List.range (qE p b).length).map (m.cells.length+·)++cs,qe,[]⟩] }:=by
 rcases h with⟨rfl,rfl,rfl⟩|⟨rfl,x,v,hx,rfl,⟨h1,rfl,rfl⟩|⟨h1,rfl,rfl⟩⟩
 ·have:vs=[]:=List.eq_nil_of_length_eq_zero hj
  subst this
  unfold qk
  split
  ·rename_i e;cases e
  ·rfl
 ·simp only [qk,hx,h1,if_true]
 ·simp only [qk,hx,h1,if_false]
end
end Go.Hm
end
section
namespace Go.Hm
open Go Go.RowKit
section
variable {hp:Nm→Option AO} {p:Prg} {n:Nm} {m:Mch} {dp i b e nf nk nc:Nat} {fs L:List Frm} {f:Frm} {k:Blk}
theorem qIv (h:OwnX hp p n m dp) (h0:0<p.length):Bw hp noD (.pt Xn 0) (.el [csl (qX p p.length),.sl 1 (yV qOo p),.hs (.c Xn 0 2) 3 0 m.cells.length,.hs (.c Xn 0 3) 3 0 8,.hs (.c Xn 0 4) 2 0 m.funs.length,.hs (.c Xn 0 5) 1 0 m.classes.length,.hs n 7 0 m.frames.length,iv m.made,iv dp,.hs (.c Xn 0 9) 1 0 m.out.length,.hs (.c Xn 0 10) 2 0 m.trace.length,iv m.en,iv m.left] 0):=by
 refine .pt Xn 13 0 _ _ [] rfl h.top rfl fun j a a' ha ha'=>?_
 match j,ha,ha' with
 | 0,ha,ha'=>obtain rfl:=sI ha;obtain rfl:=sI ha';exact .refl _
 | 1,ha,ha' =>
  obtain rfl:=sI ha
  obtain rfl:=sI ha'
  refine .hs (.c Xn 0 1) 1 0 _ _ _ rfl h.caps (by rw [qCx h0];omega) (qCx h0) (by simp [yV]) fun i r1 r2 e1 e2 j a a' e3 e4=>?_
  rw [Nat.zero_add,e2] at e1
  obtain rfl:=sI e1
  rw [e3] at e4
  obtain rfl:=sI e4
  exact .refl _
 | 2,ha,ha'=>obtain rfl:=sI ha;obtain rfl:=sI ha';exact .refl _
 | 3,ha,ha'=>obtain rfl:=sI ha;obtain rfl:=sI ha';exact .refl _
 | 4,ha,ha'=>obtain rfl:=sI ha;obtain rfl:=sI ha';exact .refl _
 | 5,ha,ha'=>obtain rfl:=sI ha;obtain rfl:=sI ha';exact .refl _
 | 6,ha,ha'=>obtain rfl:=sI ha;obtain rfl:=sI ha';exact .refl _
 | 7,ha,ha'=>obtain rfl:=sI ha;obtain rfl:=sI ha';exact .refl _
 | 8,ha,ha'=>obtain rfl:=sI ha;obtain rfl:=sI ha';exact .refl _
 | 9,ha,ha'=>obtain rfl:=sI ha;obtain rfl:=sI ha';exact .refl _
 | 10,ha,ha'=>obtain rfl:=sI ha;obtain rfl:=sI ha';exact .refl _
 | 11,ha,ha'=>obtain rfl:=sI ha;obtain rfl:=sI ha';exact .refl _
 | 12,ha,ha'=>obtain rfl:=sI ha;obtain rfl:=sI ha';exact .refl _
 | j+13,ha,_=>simp [jR] at ha
theorem qMM (hF:hp n=some (.row 7 (qh p n L))) (hat:L[i]?=some f):Bw hp noD (.ep n 7 i 0) (.el (z9 p n i f) 0):=by
 refine .ep n 7 i 0 _ _ _ rfl hF (by rw [zT,hat];rfl) rfl fun j a a' ha ha'=>?_
 rw [ha] at ha'
 obtain rfl:=sI ha'
 exact .refl _
theorem qMH (hh:z6 p) (h:FOk p nf nk nc f e) (hk:p[b]?=some k) (hpar:k.parent=f.blk) (i:Nat) (y:Int) (hy:(zE p b)[i]?=some y):∃ z:Nat,y=z∧∃ c,(zg f.cells)[z]?=some c∧((y8 p f b)[i]?).map (fun (x:Nat)=>(x:Int))=some c:=by
 have hpa:vt p b=f.blk:=by simp [vt,hk,hpar]
 have hr:=qMG hh hk y (gM hy)
 rw [hpa] at hr
 have hcl:=h.cl
 have hlt:y.toNat<f.cells.length:=by omega
 refine⟨y.toNat,by omega,(f.cells[y.toNat]:Nat),?_,?_⟩
 ·simp [zg,hlt]
 ·simp only [y8,List.getElem?_map,hy,Option.map_some,List.getD_eq_getElem?_getD,gE hlt]
  rfl
theorem qIt (b:Nat):(y8 p f b).length=(zE p b).length:=by simp [y8]
end
theorem qC8 {X:Ctx} {st:St} {K:St→Prop} {E:AV→St→Prop} {o:Oper} (n0 n1:Nm) (h0:n0.isU=false∨X.ext n0=false) (h1:n1.isU=false∨X.ext n1=false) (h:qK X o (fun s=>K s∨K (s.move n0 n1)) E st):qK X o K E st:=by
 refine qK.post h ?_
 rintro s a w hR (hK|hK)
 ·exact⟨_,hR,hK⟩
 ·exact⟨_,hR.move n0 n1 h0 h1,hK⟩
structure EndX0 (hp:Nm→Option AO) (p:Prg) (m:Mch) (dp:Nat):Prop where
 top:∃ (a b c d:AV) (k:Nat),hp Xn=some (.row 13 [[a,b,.hs (.c Xn 0 2) 3 0 m.cells.length,.hs (.c Xn 0 3) 3 0 8,c,d,.hs (.c Xn 0 6) 7 0 k,iv m.made,iv dp,.hs (.c Xn 0 9) 1 0 m.out.length,.hs (.c Xn 0 10) 2 0 m.trace.length,iv m.en,iv m.left]])
 cells:hp (.c Xn 0 2)=some (.row 3 (qN m.cells))
 glob:hp (.c Xn 0 3)=some (.row 3 (qN m.globals))
 out:hp (.c Xn 0 9)=some (.row 1 (qJ m.out))
 trc:hp (.c Xn 0 10)=some (.row 2 (jq m.trace))
section
variable {hp hp':Nm→Option AO} {p:Prg} {n:Nm} {m:Mch} {dp:Nat} {fs L:List Frm} {f g:Frm} {o:Int×Int}
theorem OwnX.end0 (h:OwnX hp p (.c Xn 0 6) m dp):EndX0 hp p m dp:=⟨⟨_,_,_,_,_,h.top⟩,h.cells,h.glob,h.out,h.trc⟩
theorem qMb.done {fr:List Frm} (h:OwnX hp p (.c Xn 0 6) { m with frames:=fr } dp) (h1:m.en=0→fr=m.frames):OwnX hp p (.c Xn 0 6) m dp∨(m.en≠0∧EndX0 hp p m dp):=by
 by_cases e:m.en=0
 ·left
  have:=h1 e
  subst this
  exact h
 ·have h3:=h.end0
  exact .inr ⟨e,h3.top,h3.cells,h3.glob,h3.out,h3.trc⟩
theorem EndX0.ren (h:EndX0 hp p m dp) {F:Nm→Option Nm} (hF:∀ k,Nm.under Xn k=true→F k=some k) (hh:∀ k,Nm.under Xn k=true→hp' k=(hp k).map (AO.tr F)):EndX0 hp' p m dp:=by
 have hc:∀ j,Nm.under Xn (.c Xn 0 j)=true:=fun j=>by simp
 obtain⟨a,b,c,d,e,ht⟩:=h.top
 refine⟨⟨a.tr F,b.tr F,c.tr F,d.tr F,e,?_⟩,?_,?_,?_,?_⟩
 ·rw [hh _ (by simp),ht];simp [AO.tr,hF _ (hc 2),hF _ (hc 3),hF _ (hc 6),hF _ (hc 9),hF _ (hc 10)]
 ·rw [hh _ (hc 2),h.cells];simp [AO.tr]
 ·rw [hh _ (hc 3),h.glob];simp [AO.tr]
 ·rw [hh _ (hc 9),h.out];simp [AO.tr]
 ·rw [hh _ (hc 10),h.trc];simp [AO.tr]
theorem EndX0.cong (h:EndX0 hp p m dp) (hh:∀ k,Nm.under Xn k=true→hp' k=hp k):EndX0 hp' p m dp:=by
 refine h.ren (F:=some) (fun _ _=>rfl) fun q hq=>?_
 rw [hh q hq]
 cases hp q with
 | none=>rfl
 | some o=>simp [AO.tr_some]
theorem EndX0.fin (h:EndX0 hp p m dp) {D:Nm→Bool} (hD:∀ k,D k=true→k.sroot=false) (hW:∀ k,Nm.under Xn k=true→D k=true):EndX0 (wS D [] hp) p m dp :=
 h.ren (F:=zu D []) (fun k hk=>by simp only [zu,hW k hk,if_true]) (fun k hk=>by simp only [wS,hW k hk,if_true])
theorem OwnX.ren1 (h:OwnX hp p (.c Xn 0 6) m dp) {F:Nm→Option Nm} (hF:∀ k,Nm.under Xn k=true→F k=some k) (hh:∀ k,Nm.under Xn k=true→hp' k=(hp k).map (AO.tr F)):OwnX hp' p (.c Xn 0 6) m dp:=by
 have hc:∀ j,Nm.under Xn (.c Xn 0 j)=true:=fun j=>by simp
 have hq:∀ i j,Nm.under Xn (.c (.c Xn 0 6) i j)=true:=fun i j=>by simp
 refine⟨?_,?_,?_,?_,?_,?_,?_,?_,h.fr.top.imp fun js hj=>?_,fun i g hg=>?_,fun i g hg=>?_,fun i g hg=>(h.fr.stack i g hg).imp fun j hj=>?_⟩
 ·rw [hh _ (by simp),h.top]
  simp [jR,AO.tr,AV.tr,jL,hF _ (hc 1),hF _ (hc 2),hF _ (hc 3),hF _ (hc 4),hF _ (hc 5),hF _ (hc 9),hF _ (hc 10),hF _ (hc 6)]
 ·rw [hh _ (hc 1),h.caps];simp [AO.tr,AV.tr]
 ·rw [hh _ (hc 2),h.cells];simp [AO.tr]
 ·rw [hh _ (hc 3),h.glob];simp [AO.tr]
 ·rw [hh _ (hc 4),h.funs];simp [AO.tr]
 ·rw [hh _ (hc 5),h.clss];simp [AO.tr]
 ·rw [hh _ (hc 9),h.out];simp [AO.tr]
 ·rw [hh _ (hc 10),h.trc];simp [AO.tr]
 ·rw [hh _ (hc 6),hj]
  simp only [Option.map_some,AO.tr]
  rw [qCp fun i j=>hF _ (hq i j)]
 ·rw [hh _ (hq i 3),h.fr.fasts i g hg];simp [AO.tr]
 ·rw [hh _ (hq i 5),h.fr.names i g hg];simp [AO.tr]
 ·rw [hh _ (hq i 6),hj];simp [AO.tr]
theorem OwnX.fin1 (h:OwnX hp p (.c Xn 0 6) m dp):OwnX (wS (Nm.under Xn) [] hp) p (.c Xn 0 6) m dp :=
 h.ren1 (F:=zu (Nm.under Xn) []) (fun k hk=>by simp only [zu,hk,if_true]) (fun k hk=>by simp only [wS,hk,if_true])
theorem qJj (ho:(jO p f.blk)[f.pc]?=some o) (h:o.1≠0):vN p f.next=vN p f:=by
 simp only [vN,Frm.next]
 rw [ku ho,if_neg h]
 rfl
theorem qJi (ho:(jO p f.blk)[f.pc]?=some o) (h:o.1=0):vN p f.next=vN p f+1:=by
 simp only [vN,Frm.next]
 rw [ku ho,if_pos h]
 omega
theorem qG6 (hat:L[fs.length]?=some f) (ho:(jO p f.blk)[f.pc]?=some o) (h:o.1≠0):qa (qh p n L) fs.length 1 [iv ((f.pc:Int)+1)]=qh p n (L.set fs.length f.next):=by
 refine qCn hat ?_
 have:=qJj ho h
 simp only [z9,this]
 simp [Frm.next]
theorem qG5 (hat:L[fs.length]?=some f) (ho:(jO p f.blk)[f.pc]?=some o) (h:o.1=0):qa (qa (qh p n L) fs.length 1 [iv ((f.pc:Int)+1)]) fs.length 2 [iv (vN p f+1)]=qh p n (L.set fs.length f.next):=by
 have hl:=(gS hat).1
 apply List.ext_getElem?
 intro j
 simp only [qa,List.getElem?_modify,zT,List.getElem?_set]
 by_cases e:fs.length=j
 ·subst e
  rw [hat]
  have:=qJi ho h
  simp only [Option.map_some,if_true,hl,z9,this]
  simp [Frm.next]
 ·simp [e]
end
end Go.Hm
end
section
namespace Go.Hm
open Go Go.RowKit
def qBj (p:Prg) (b:Nat):List (List AV):=[qOo]::(List.range (b - 1)).map fun b=>[isl (zE p (b+1))]
structure PreX (hp:Nm→Option AO) (p:Prg) (n b:Nat):Prop where
 top:hp Xn=some (.row 13 [[csl (qX p p.length),.hs (.c Xn 0 1) 1 0 b,.hs (.c Xn 0 2) 3 0 0,.hs (.c Xn 0 3) 3 0 8,.hs (.c Xn 0 4) 2 0 0,.hs (.c Xn 0 5) 1 0 0,.hs (.c Xn 0 6) 7 0 0,iv 0,iv 0,.hs (.c Xn 0 9) 1 0 0,.hs (.c Xn 0 10) 2 0 0,iv 0,iv n]])
 caps:hp (.c Xn 0 1)=some (.row 1 (qBj p b))
 cells:hp (.c Xn 0 2)=some (.row 3 [])
 glob:hp (.c Xn 0 3)=some (.row 3 (qN qe))
 funs:hp (.c Xn 0 4)=some (.row 2 [])
 clss:hp (.c Xn 0 5)=some (.row 1 [])
 fr:hp (.c Xn 0 6)=some (.row 7 [])
 out:hp (.c Xn 0 9)=some (.row 1 [])
 trc:hp (.c Xn 0 10)=some (.row 2 [])
section
variable {hp hp':Nm→Option AO} {p:Prg} {m:Mch} {n b dp:Nat} {F:Nm→Option Nm}
@[simp] theorem capTo_tr:(qBj p b).map (fun r=>r.map (AV.tr F))=qBj p b:=by
 have h:AV.tr F .bot=.bot:=rfl
 simp [qBj,h]
theorem qMI (h:1≤b):(qBj p b).length=b:=by simp [qBj];omega
theorem qMJ (h:1≤b):qBj p b++[[isl (zE p b)]]=qBj p (b+1):=by
 obtain⟨c,rfl⟩:∃ c,b=c+1:=⟨b - 1,by omega⟩
 simp [qBj,List.range_succ]
@[simp] theorem capTo_one:qBj p 1=[[qOo]]:=rfl
theorem PreX.own (h:PreX hp p n p.length) (h0:0<p.length):OwnX hp p (.c Xn 0 6) (qT n) 0:=by
 refine⟨?_,?_,?_,?_,?_,?_,?_,?_,⟨[],?_⟩,fun i f hf=>?_,fun i f hf=>?_,fun i f hf=>?_⟩
 ·rw [h.top];simp [jR,qT]
 ·rw [h.caps];rfl
 ·rw [h.cells];simp [qT]
 ·rw [h.glob];rfl
 ·rw [h.funs];simp [qT]
 ·rw [h.clss];simp [qT]
 ·rw [h.out];rfl
 ·rw [h.trc];rfl
 ·rw [h.fr];simp [qT]
 ·simp [qT] at hf
 ·simp [qT] at hf
 ·simp [qT] at hf
theorem qKp (hP:ValP p) (hn:n≤150):∃ N,(∀ i,i<N→¬ (zN p i (qL p n)).ended)∧(zN p N (qL p n)).ended∧zN p N (qL p n)=uJ p n∧kA p N (qL p n) 0=(uJ p n).deep:=by
 obtain⟨N,h1,h2,h3⟩:=vg (n:=n) hP hn
 have hI:=qGZ (n:=n) (t:=8) hP
 have hs:qL p n={ qT n with cells:=(qL p n).cells,made:=1,deep:=1,frames:=(qL p n).frames }∧(qL p n).frames.length=1:=by
  unfold qL qk
  split
  ·split <;> exact⟨rfl,rfl⟩
  ·exact⟨rfl,rfl⟩
 have hd:(qL p n).deep=max 0 (qL p n).frames.length:=by
  rw [hs.2,hs.1]
  rfl
 cases N with
 | zero =>
  exfalso
  rcases h2 with h2|h2
  ·simp only [zN] at h2
   have:=hs.2
   rw [h2] at this
   simp at this
  ·simp only [zN] at h2
   rw [hs.1] at h2
   exact h2 rfl
 | succ N =>
  refine⟨N+1,h1,h2,h3,?_⟩
  rw [← h3]
  exact qLJ (fun b=>zV) hI hd (h1 N (by omega)) h2
end
def fS (D:Nm→Bool) (S:Nm) (k:Nm):Option Nm:=if Nm.under S k then none else if D k then some k else none
section
variable {hp hp' H H':Nm→Option AO} {p:Prg} {m:Mch} {fs:List Frm} {f g:Frm} {R:List AV} {v:Val} {F:Nm→Option Nm} {D:Nm→Bool} {a b c d:Nat} {S:Nm} {l:List AV} {o:Option AO} {x:AV}
theorem qLu (hD:∀ k,D k=true→k.sroot=false) (hS:D S=true):(fun m=>((((kl (.s a) m).bind (kl (.s b))).bind (kl (.s c))).bind (mv (.s c) S)).bind (zu D []))=fS D S:=by
 funext m
 by_cases hx:D m=true
 ·have h1:=(D_s hD hx a).2
  have h2:=(D_s hD hx b).2
  have h3:=(D_s hD hx c).2
  by_cases hu:Nm.under S m=true
  ·simp [h1,h2,h3,fS,hu]
  ·simp only [Bool.not_eq_true] at hu
   simp [h1,h2,h3,fS,hu,hx,zu]
 ·simp only [Bool.not_eq_true] at hx
  by_cases ha:Nm.under (.s a) m=true
  ·simp [fS,ha,hx]
  ·simp only [Bool.not_eq_true] at ha
   by_cases hb:Nm.under (.s b) m=true
   ·simp [fS,ha,hb,hx]
   ·simp only [Bool.not_eq_true] at hb
    by_cases hc:Nm.under (.s c) m=true
    ·simp [fS,ha,hb,hc,hx]
    ·simp only [Bool.not_eq_true] at hc
     by_cases hu:Nm.under S m=true
     ·simp [fS,ha,hb,hc,hu]
     ·simp only [Bool.not_eq_true] at hu
      simp [fS,ha,hb,hc,hu,hx,zu]
theorem qY9 (hD:∀ k,D k=true→k.sroot=false) (hS:D S=true):(((((x.tr (kl (.s a))).tr (kl (.s b))).tr (kl (.s c))).tr (mv (.s c) S)).tr (zu D []))=x.tr (fS D S):=by
 rw [AV.tr_tr,AV.tr_tr,AV.tr_tr,AV.tr_tr]
 congr 1
 have:=qLu (a:=a) (b:=b) (c:=c) hD hS
 rw [← this]
 funext m
 cases kl (.s a) m with
 | none=>rfl
 | some m1 =>
  simp only [Option.bind_some]
  cases kl (.s b) m1 with
  | none=>rfl
  | some m2 =>
   simp only [Option.bind_some]
   cases kl (.s c) m2 <;> rfl
theorem qY8 (hD:∀ k,D k=true→k.sroot=false) (hS:D S=true):(((l.map (AV.tr (kl (.s c))∘AV.tr (kl (.s b))∘AV.tr (kl (.s a)))).map (AV.tr (mv (.s c) S))).map (AV.tr (zu D [])))=l.map (AV.tr (fS D S)):=by
 simp only [List.map_map]
 exact List.map_congr_left fun x _=>qY9 hD hS
theorem qY7 (hD:∀ k,D k=true→k.sroot=false) (hS:D S=true):(((((o.map (AO.tr (kl (.s a)))).map (AO.tr (kl (.s b)))).map (AO.tr (kl (.s c)))).map (AO.tr (mv (.s c) S))).map (AO.tr (zu D [])))=o.map (AO.tr (fS D S)):=by
 cases o with
 | none=>rfl
 | some o =>
  simp only [Option.map_some]
  rw [AO.tr_tr,AO.tr_tr,AO.tr_tr,AO.tr_tr]
  congr 2
  have:=qLu (a:=a) (b:=b) (c:=c) hD hS
  rw [← this]
  funext m
  cases kl (.s a) m with
  | none=>rfl
  | some m1 =>
   simp only [Option.bind_some]
   cases kl (.s b) m1 with
   | none=>rfl
   | some m2 =>
    simp only [Option.bind_some]
    cases kl (.s c) m2 <;> rfl
def qP9 (D:Nm→Bool) (S:Nm) (off:Nat) (R:List AV) (vs:List Val) (H:Nm→Option AO):Nm→AV→(Nm→Option AO)→Prop:=fun _ _ H' =>
 H' Yn=some (.row 4415 [spl (R.map (AV.tr (fS D S))) off [.hs S 2 0 vs.length]])∧H' S=some (.row 2 (qt vs))∧∀ q,D q=true→q≠Yn→Nm.under S q=false→H' q=(H q).map (AO.tr (fS D S))
theorem OwnY.pushed (h:OwnY hp p m) (hm:m.frames=fs++[f]) (hi:fs.length<151) (hS:S=.c Yn 0 (yo fs.length+28)) (hr:hp Yn=some (.row 4415 [R])) {y:AV} {r:Nm} (hw:qP9 DM S (yo fs.length+28) R (f.stack++[v]) (jl DM hp) r y H'):OwnY H' p { m with frames:=fs++[f.push v] }:=by
 obtain⟨J,j,hJ,hT,h2,h3,h28⟩:=h.topF hm
 obtain rfl:R=ql p m (fs.length+1) (yc (fs++[f]) J):=by
  rw [hr] at hT
  injection hT with e
  injection e with e1 e2
  injection e2
 obtain⟨w1,w2,w3⟩:=hw
 have hF:∀ k,DM k=true→Nm.under S k=false→fS DM S k=some k:=fun k h1 h2=>by simp only [fS,h1,h2,if_true,Bool.false_eq_true,if_false]
 have hc:∀ j,j≠yo fs.length+28→Nm.under S (.c Yn 0 j)=false:=fun j hj=>by subst hS;simp [hj]
 have hE:∀ i,Nm.under S (En i)=false:=fun i=>by subst hS;simp
 have hw3:∀ q o,DM q=true→q≠Yn→Nm.under S q=false→hp q=some o→H' q=some (o.tr (fS DM S)):=fun q o a1 a2 a3 a4=>by
  rw [w3 q a1 a2 a3]
  simp only [jl,a1,if_true,a4,Option.map_some]
 have hcN:∀ j,j≠yo fs.length+28→fS DM S (.c Yn 0 j)=some (.c Yn 0 j):=fun j hj=>hF _ rfl (hc j hj)
 have hEN:∀ i,fS DM S (En i)=some (En i):=fun i=>hF _ rfl (hE i)
 have hne:∀ i k,i≠fs.length∨k≠28→k<29→yo i+k≠yo fs.length+28:=fun i k h1 h2=>by simp only [yo];omega
 have hsp:fS DM S S=none:=by simp [fS]
 have hfix:∀ i g,i≠fs.length→(yfr i g).map (AV.tr (fS DM S))=yfr i g:=by
  intro i g hi
  simp only [yfr,List.map_append,ki,List.map_cons,List.map_nil]
  have e2:=hcN _ (hne i 2 (.inl hi) (by omega))
  have e3:=hcN _ (hne i 3 (.inl hi) (by omega))
  have e28:=hcN _ (hne i 28 (.inl hi) (by omega))
  simp only [yo] at e2 e3 e28
  simp [AV.tr,e2,e3,e28]
 have hrow:spl ((ql p m (fs.length+1) (yc (fs++[f]) J)).map (AV.tr (fS DM S))) (yo fs.length+28) [.hs S 2 0 (f.stack++[v]).length]=ql p m (fs.length+1) (yc (fs++[f.push v]) fun i=>(J i).map (AV.tr (fS DM S))):=by
  have hmap:(ql p m (fs.length+1) (yc (fs++[f]) J)).map (AV.tr (fS DM S))=ql p m (fs.length+1) fun i=>(yc (fs++[f]) J i).map (AV.tr (fS DM S)):=by
   have h1:(cat (yc (fs++[f]) J) 151).map (AV.tr (fS DM S))=cat (fun i=>(yc (fs++[f]) J i).map (AV.tr (fS DM S))) 151:=qIs fun i _=>rfl
   have hk:∀ j,j<32→fS DM S (.c Yn 0 j)=some (.c Yn 0 j):=fun j hj=>hcN j (by simp only [yo];omega)
   simp only [ql,List.map_append,h1,ki]
   simp [yA,yB,yZ,hk,AV.tr,jL]
  rw [hmap]
  have:=qHv (p:=p) (m:=m) (h:=fs.length+1) (c:=fun i=>(yc (fs++[f]) J i).map (AV.tr (fS DM S))) (c':=yc (fs++[f.push v]) fun i=>(J i).map (AV.tr (fS DM S))) (i:=fs.length) (j:=28) (vals:=[.hs S 2 0 (f.stack++[v]).length]) (fun i=>by simp [jm hJ]) hi (by simp) (fun k hk=>?_) ?_
  ·rw [← Nat.add_assoc] at this
   exact this
  ·unfold yc
   rcases Nat.lt_trichotomy k fs.length with e|e|e
   ·rw [List.getElem?_append_left e,List.getElem?_append_left e,gE e]
    simp only
    rw [hfix k _ hk]
   ·exact absurd e hk
   ·rw [List.getElem?_eq_none (by simp;omega),List.getElem?_eq_none (by simp;omega)]
  ·have h1:(fs++[f])[fs.length]?=some f:=by simp
   have h2:(fs++[f.push v])[fs.length]?=some (f.push v):=by simp
   rw [qGv h1,qGv h2]
   have e2:=hcN _ (hne fs.length 2 (.inr (by omega)) (by omega))
   have e3:=hcN _ (hne fs.length 3 (.inr (by omega)) (by omega))
   simp only [yo] at e2 e3
   have h3:(yfr fs.length f).map (AV.tr (fS DM S))=[iv f.blk,iv f.pc,.hs (.c Yn 0 (32+29 * fs.length+2)) 3 0 f.fasts.length,.hs (.c Yn 0 (32+29 * fs.length+3)) 1 0 f.cells.length]++(vo f.names++[AV.bot]):=by
    have hb:fS DM S (.c Yn 0 (32+29 * fs.length+28))=none:=by rw [← hS];exact hsp
    simp only [yfr,List.map_append,ki,List.map_cons,List.map_nil]
    simp [AV.tr,e2,e3,hb]
   rw [h3,hS]
   have h4:([iv f.blk,iv f.pc,.hs (.c Yn 0 (32+29 * fs.length+2)) 3 0 f.fasts.length,.hs (.c Yn 0 (32+29 * fs.length+3)) 1 0 f.cells.length]++vo f.names).length=28:=by simp
   rw [← List.append_assoc]
   unfold spl
   rw [List.take_append_of_le_length (by rw [h4];exact Nat.le_refl _),List.take_of_length_le (by rw [h4];exact Nat.le_refl _),List.drop_eq_nil_of_le (by simp)]
   simp [yfr,Frm.push]
 have key:∀ (i:Nat) f',(fs++[f.push v])[i]?=some f'→(i=fs.length∧f'=f.push v)∨(i<fs.length∧m.frames[i]?=some f'):=by
  intro i f' hf
  rcases Nat.lt_trichotomy i fs.length with e|e|e
  ·rw [List.getElem?_append_left e] at hf
   exact .inr ⟨e,by rw [hm,List.getElem?_append_left e];exact hf⟩
  ·subst e
   simp at hf
   exact .inl ⟨rfl,hf.symm⟩
  ·rw [List.getElem?_eq_none (by simp;omega)] at hf
   cases hf
 have hy:∀ j,(.c Yn 0 j:Nm)≠Yn:=fun j e=>by cases e
 refine⟨⟨fun i=>(J i).map (AV.tr (fS DM S)),fun i=>by simp [hJ],?_⟩,?_,?_,?_,?_,?_,fun i f' hf=>?_,fun i f' hf=>?_,fun i f' hf=>?_,fun c s hs=>?_,fun a b c ha hn=>?_⟩
 ·rw [w1,hrow]
  simp only [List.length_append,List.length_singleton]
  rfl
 ·rw [hw3 _ _ rfl (hy 1) (hc 1 (by simp only [yo];omega)) h.caps];simp [AO.tr]
 ·rw [hw3 _ _ rfl (hy 4) (hc 4 (by simp only [yo];omega)) h.out];simp [AO.tr]
 ·rw [hw3 _ _ rfl (hy 5) (hc 5 (by simp only [yo];omega)) h.trc];simp [AO.tr]
 ·rw [hw3 _ _ rfl (hy 30) (hc 30 (by simp only [yo];omega)) h.funs]
  simp only [AO.tr]
  rw [qDg hEN]
 ·rw [hw3 _ _ rfl (hy 31) (hc 31 (by simp only [yo];omega)) h.clss];simp [AO.tr]
 ·rcases key i f' hf with⟨rfl,rfl⟩|⟨hl,hf⟩
  ·rw [hw3 _ _ rfl (hy _) (hc _ (hne fs.length 2 (.inr (by omega)) (by omega))) h2];simp [AO.tr,Frm.push]
  ·rw [hw3 _ _ rfl (hy _) (hc _ (hne i 2 (.inl (by omega)) (by omega))) (h.fasts i f' hf)];simp [AO.tr]
 ·rcases key i f' hf with⟨rfl,rfl⟩|⟨hl,hf⟩
  ·rw [hw3 _ _ rfl (hy _) (hc _ (hne fs.length 3 (.inr (by omega)) (by omega))) h3]
   simp only [AO.tr]
   rw [vn hEN]
   rfl
  ·rw [hw3 _ _ rfl (hy _) (hc _ (hne i 3 (.inl (by omega)) (by omega))) (h.cls i f' hf)]
   simp only [AO.tr]
   rw [vn hEN]
 ·rcases key i f' hf with⟨rfl,rfl⟩|⟨hl,hf⟩
  ·exact⟨[],by rw [← hS,w2];simp [Frm.push]⟩
  ·exact (h.stack i f' hf).imp fun j hj=>by rw [hw3 _ _ rfl (hy _) (hc _ (hne i 28 (.inl (by omega)) (by omega))) hj];simp [AO.tr]
 ·rw [hw3 _ _ rfl (by simp) (hE c) (h.cell c s hs)];simp [AO.tr]
 ·by_cases e:a=1∧b=0∧c=0
  ·exact .inl e
  ·refine h.only a b c ha fun e'=>hn ?_
   rw [w3 (.u a b c) ha (by simpa using e) (by subst hS;simp)]
   have hd:DM (.u a b c)=true:=ha
   simp only [jl,hd,if_true,e',Option.map_none]
end
end Go.Hm
end
section
namespace Go.Hm
open Go Go.RowKit
noncomputable def u5 (p:Prg) (f:Int):Int:=if jC p f=true then (uJ p f.toNat).cells.length else -1
noncomputable def yU (p:Prg) (f:Int):Int×Int:=if jC p f=true then ((uJ p f.toNat).made,(uJ p f.toNat).deep) else (-1,-1)
noncomputable def qPR (p:Prg) (f:Int):List (Nat×Nat):=if jC p f=true then (uJ p f.toNat).trace else []
section
variable {hp hp':Nm→Option AO} {p:Prg} {m m':Mch} {fs:List Frm} {f g:Frm} {R R':List AV} {i:Nat} {e:Int} {v:Val}
theorem qCS {o:List AV} (h:hp Yn=some (.row 4415 [R])) (h':hp Yn=some (.row 4415 [o])):o=R:=by
 rw [h] at h'
 injection h' with e
 injection e with e1 e2
 injection e2 with e3
 exact e3.symm
theorem wU {i k:Nat} (h:i<k):¬ i=k∧(29 * i=29 * k)=False∧(∀ a,a<29→(32+29 * i+a=yo k)=False)∧∀ a,(32+29 * i=yo k+a)=False :=
 ⟨by omega,eq_false (by omega),fun a ha=>eq_false (by simp only [yo];omega),fun a=>eq_false (by simp only [yo];omega)⟩
theorem OwnY.reT (h:OwnY hp p m) (hm:m.frames=fs++[f]) (hm':m'.frames=fs++[g]) (hc:m'.cells.length=m.cells.length)
  (h0:∀ J:Nat→List AV,(∀ i,(J i).length=29)→hp Yn=some (.row 4415 [ql p m (fs.length+1) (yc (fs++[f]) J)])→∃ J':Nat→List AV,(∀ i,(J' i).length=29)∧hp' Yn=some (.row 4415 [ql p m' (fs.length+1) (yc (fs++[g]) J')]))
  (h1:hp' (.c Yn 0 1)=some (.row 1 (jc p p.length)):=by simp [h.caps])
  (h2:hp' (.c Yn 0 4)=some (.row 1 (qJ m'.out)):=by simp [h.out])
  (h3:hp' (.c Yn 0 5)=some (.row 2 (jq m'.trace)):=by simp [h.trc])
  (h4:hp' (.c Yn 0 30)=some (.row 2 (jZ m'.funs)):=by simp [h.funs])
  (h5:hp' (.c Yn 0 31)=some (.row 24 (jb m'.classes)):=by simp [h.clss])
  (h6:∀ (i:Nat) x,i<fs.length→hp (.c Yn 0 (32+29 * i+2))=some (.row 3 (qN x))→hp' (.c Yn 0 (32+29 * i+2))=some (.row 3 (qN x)):=by intro i x hi hx;have e:=wU hi;simp [hx,e.1,e.2.1,e.2.2.1,e.2.2.2])
  (h6t:hp' (.c Yn 0 (yo fs.length+2))=some (.row 3 (qN g.fasts)):=by simp [h.fasts])
  (h7:∀ (i:Nat) x,i<fs.length→hp (.c Yn 0 (32+29 * i+3))=some (.row 1 (zA x))→hp' (.c Yn 0 (32+29 * i+3))=some (.row 1 (zA x)):=by intro i x hi hx;have e:=wU hi;simp [hx,e.1,e.2.1,e.2.2.1,e.2.2.2])
  (h7t:hp' (.c Yn 0 (yo fs.length+3))=some (.row 1 (zA g.cells)))
  (h8:∀ (i:Nat) x,i<fs.length→hp (.c Yn 0 (32+29 * i+28))=some (.row 2 (qt x))→hp' (.c Yn 0 (32+29 * i+28))=some (.row 2 (qt x)):=by intro i x hi hx;have e:=wU hi;simp [hx,e.1,e.2.1,e.2.2.1,e.2.2.2])
  (h8t:∃ j,hp' (.c Yn 0 (yo fs.length+28))=some (.row 2 (qt (g.stack++j))))
  (h9:∀ (c:Nat) s,m'.cells[c]?=some s→hp' (En c)=some (.row 3 [zx s]):=by intro c s hc;simp [h.cell c s hc])
  (hA:∀ k i j,fM k=true→¬ (k=1∧i=0∧j=0)→hp' (.u k i j)≠none→hp (.u k i j)≠none:=by intro k i j hk e hn;simpa [hk,e] using hn):OwnY hp' p m':=by
 have key:∀ (i:Nat) f',m'.frames[i]?=some f'→(i=fs.length∧f'=g)∨(i<fs.length∧m.frames[i]?=some f'):=by
  intro i f' hf
  rw [hm'] at hf
  rcases Nat.lt_trichotomy i fs.length with e|e|e
  ·rw [List.getElem?_append_left e] at hf
   exact .inr ⟨e,by rw [hm,List.getElem?_append_left e];exact hf⟩
  ·subst e
   simp at hf
   exact .inl ⟨rfl,hf.symm⟩
  ·rw [List.getElem?_eq_none (by simp;omega)] at hf
   cases hf
 refine⟨?_,h1,h2,h3,h4,h5,fun i f' hf=>?_,fun i f' hf=>?_,fun i f' hf=>?_,h9,fun k i j hk hn=>?_⟩
 ·obtain⟨J,hJ,e⟩:=h.top
  rw [hm] at e
  simp only [List.length_append,List.length_singleton] at e
  obtain⟨J',hJ',e'⟩:=h0 J hJ e
  refine⟨J',hJ',?_⟩
  rw [e',hm']
  simp
 ·rcases key i f' hf with⟨rfl,rfl⟩|⟨h1,h2⟩
  ·exact h6t
  ·exact h6 i _ h1 (h.fasts i f' h2)
 ·rcases key i f' hf with⟨rfl,rfl⟩|⟨h1,h2⟩
  ·exact h7t
  ·exact h7 i _ h1 (h.cls i f' h2)
 ·rcases key i f' hf with⟨rfl,rfl⟩|⟨h1,h2⟩
  ·exact h8t
  ·obtain⟨j,hj⟩:=h.stack i f' h2
   exact⟨j,h8 i _ h1 hj⟩
 ·by_cases e:k=1∧i=0∧j=0
  ·exact .inl e
  ·rw [hc]
   exact h.only k i j hk (hA k i j hk e hn)
theorem OwnY.topT (h:OwnY hp p m) (hm:m.frames=fs++[f]) (hi:fs.length<151):∃ R j,hp Yn=some (.row 4415 [R])∧TopR p m fs.length f R∧hp (.c Yn 0 (yo fs.length+2))=some (.row 3 (qN f.fasts))∧hp (.c Yn 0 (yo fs.length+3))=some (.row 1 (zA f.cells))∧hp (.c Yn 0 (yo fs.length+28))=some (.row 2 (qt (f.stack++j))):=by
 obtain⟨J,j,hJ,hT,h2,h3,h28⟩:=h.topF hm
 exact⟨_,j,hT,qYW hJ hi,h2,h3,h28⟩
theorem qBO (hr:hp Yn=some (.row 4415 [R])) (h':hp' Yn=some (.row 4415 [R'])) (h0:∀ J:Nat→List AV,(∀ i,(J i).length=29)→R=ql p m (fs.length+1) (yc (fs++[f]) J)→R'=ql p m' (fs.length+1) (yc (fs++[g]) J)) :
  ∀ J:Nat→List AV,(∀ i,(J i).length=29)→hp Yn=some (.row 4415 [ql p m (fs.length+1) (yc (fs++[f]) J)])→∃ J':Nat→List AV,(∀ i,(J' i).length=29)∧hp' Yn=some (.row 4415 [ql p m' (fs.length+1) (yc (fs++[g]) J')]):=fun J hJ e =>
 ⟨J,hJ,by rw [h',h0 J hJ (qCS hr e).symm]⟩
theorem qET (hr:hp Yn=some (.row 4415 [R])) (h':hp' Yn=some (.row 4415 [R'])) (h0:∀ J:Nat→List AV,(∀ i,(J i).length=29)→R=ql p m (fs.length+1) (yc (fs++[f]) J)→∃ J':Nat→List AV,(∀ i,(J' i).length=29)∧R'=ql p m' (fs.length+1) (yc (fs++[g]) J')) :
  ∀ J:Nat→List AV,(∀ i,(J i).length=29)→hp Yn=some (.row 4415 [ql p m (fs.length+1) (yc (fs++[f]) J)])→∃ J':Nat→List AV,(∀ i,(J' i).length=29)∧hp' Yn=some (.row 4415 [ql p m' (fs.length+1) (yc (fs++[g]) J')]):=fun J hJ e=>by
 obtain⟨J',hJ',e'⟩:=h0 J hJ (qCS hr e).symm
 exact⟨J',hJ',by rw [h',e']⟩
@[simp] theorem yo_ne {k:Nat} (h:k<32):(32+29 * i=k)↔False:=iff_false_intro (by omega)
theorem km {a b:Nm→Option Nm}:(AV.tr a∘AV.tr b)=AV.tr (fun m=>(b m).bind a):=by
 funext x
 exact AV.tr_tr b a x
theorem qAL {l:List AV} {v:AV} {k:Nat}:l.take k++v::l.drop (k+1)=spl l k [v]:=by simp [spl]
section
variable {F:Nm→Option Nm} {h:Nat} {c J:Nat→List AV} {x:AV} {L:List Frm}
theorem qPI:(ql p m h c).map (AV.tr F)=(yA p m).map (AV.tr F)++(vo m.globals++((yB m).map (AV.tr F)++(cat (fun i=>(c i).map (AV.tr F)) 151++yZ m h))):=by
 have h1:(cat c 151).map (AV.tr F)=cat (fun i=>(c i).map (AV.tr F)) 151:=qIs fun i _=>rfl
 simp only [ql,List.map_append,h1,ki]
 simp [yZ]
theorem qFX (hF:∀ j,32≤j→F (.c Yn 0 j)=some (.c Yn 0 j)):(fun i=>(yc L J i).map (AV.tr F))=yc L fun i=>(J i).map (AV.tr F):=by
 funext i
 unfold yc
 split
 ·simp [yfr,hF _ (show 32≤32+29 * i+2 by omega),hF _ (show 32≤32+29 * i+3 by omega),hF _ (show 32≤32+29 * i+28 by omega),AV.tr]
 ·rfl
theorem qSa (hF:∀ j,j≠4→F (.c Yn 0 j)=some (.c Yn 0 j)):spl ((ql p m h (yc L J)).map (AV.tr F)) 4 [x]=spl (ql p m h (yc L fun i=>(J i).map (AV.tr F))) 4 [x]:=by
 rw [qPI,qFX fun j hj=>hF j (by omega)]
 simp [ql,yA,yB,hF 1 (by decide),hF 5 (by decide),hF 30 (by decide),hF 31 (by decide),AV.tr,jL,spl]
theorem qS9 (hF:∀ j,j≠5→F (.c Yn 0 j)=some (.c Yn 0 j)):spl ((ql p m h (yc L J)).map (AV.tr F)) 5 [x]=spl (ql p m h (yc L fun i=>(J i).map (AV.tr F))) 5 [x]:=by
 rw [qPI,qFX fun j hj=>hF j (by omega)]
 simp [ql,yA,yB,hF 1 (by decide),hF 4 (by decide),hF 30 (by decide),hF 31 (by decide),AV.tr,jL,spl]
theorem qPK {a b a' b' x:AV} {S:List AV} {P:List AV} {k:Nat} (hP:P.length=30) (hk:(k=30∧b=b')∨(k=31∧a=a')):spl (P++([a,b]++S)) k [x]=spl (P++([a',b']++S)) k [x]:=by
 rcases hk with⟨rfl,rfl⟩|⟨rfl,rfl⟩
 ·have h1:=kK (P:=P) (X:=[a,b]) (S:=S) (k:=0) (vals:=[x]) (by simp)
  have h2:=kK (P:=P) (X:=[a',b]) (S:=S) (k:=0) (vals:=[x]) (by simp)
  rw [hP] at h1 h2
  rw [h1,h2]
  rfl
 ·have h1:=kK (P:=P) (X:=[a,b]) (S:=S) (k:=1) (vals:=[x]) (by simp)
  have h2:=kK (P:=P) (X:=[a,b']) (S:=S) (k:=1) (vals:=[x]) (by simp)
  rw [hP] at h1 h2
  rw [h1,h2]
  rfl
theorem qPl (hF:∀ j,j≠30→F (.c Yn 0 j)=some (.c Yn 0 j)):spl ((ql p m h (yc L J)).map (AV.tr F)) 30 [x]=spl (ql p m h (yc L fun i=>(J i).map (AV.tr F))) 30 [x]:=by
 rw [qPI,qFX fun j hj=>hF j (by omega),qPN]
 have e:(yA p m).map (AV.tr F)=yA p m:=by simp [yA,hF 1 (by decide),hF 4 (by decide),hF 5 (by decide),AV.tr,jL]
 rw [e,← List.append_assoc]
 exact qPK (by simp [yA]) (.inl ⟨rfl,by simp [hF 31 (by decide),AV.tr]⟩)
theorem qPk (hF:∀ j,j≠31→F (.c Yn 0 j)=some (.c Yn 0 j)):spl ((ql p m h (yc L J)).map (AV.tr F)) 31 [x]=spl (ql p m h (yc L fun i=>(J i).map (AV.tr F))) 31 [x]:=by
 rw [qPI,qFX fun j hj=>hF j (by omega),qPN]
 have e:(yA p m).map (AV.tr F)=yA p m:=by simp [yA,hF 1 (by decide),hF 4 (by decide),hF 5 (by decide),AV.tr,jL]
 rw [e,← List.append_assoc]
 exact qPK (by simp [yA]) (.inr ⟨rfl,by simp [hF 30 (by decide),AV.tr]⟩)
theorem qY0 {o:List (Nat×Nat)} (hF:∀ j,j≠5→F (.c Yn 0 j)=some (.c Yn 0 j)):spl ((ql p m h (yc L J)).map (AV.tr F)) 5 [.hs (.c Yn 0 5) 2 0 o.length]=ql p { m with trace:=o } h (yc L fun i=>(J i).map (AV.tr F)):=by rw [qS9 hF,qS5]
theorem qY1 {o:List Int} (hF:∀ j,j≠4→F (.c Yn 0 j)=some (.c Yn 0 j)):spl ((ql p m h (yc L J)).map (AV.tr F)) 4 [.hs (.c Yn 0 4) 1 0 o.length]=ql p { m with out:=o } h (yc L fun i=>(J i).map (AV.tr F)):=by rw [qSa hF,qS6]
theorem qXR {o:List (Nat×List Nat)} (hF:∀ j,j≠30→F (.c Yn 0 j)=some (.c Yn 0 j)):spl ((ql p m h (yc L J)).map (AV.tr F)) 30 [.hs (.c Yn 0 30) 2 0 o.length]=ql p { m with funs:=o } h (yc L fun i=>(J i).map (AV.tr F)):=by rw [qPl hF,qPj]
theorem qXQ {o:List (List Slt)} (hF:∀ j,j≠31→F (.c Yn 0 j)=some (.c Yn 0 j)):spl ((ql p m h (yc L J)).map (AV.tr F)) 31 [.hs (.c Yn 0 31) 24 0 o.length]=ql p { m with classes:=o } h (yc L fun i=>(J i).map (AV.tr F)):=by rw [qPk hF,qPi]
theorem qXk (o:List Int) {v:AV} (hJ:∀ i,(J i).length=29) (hv:v=.hs (.c Yn 0 4) 1 0 o.length) (hF:∀ j,j≠4→F (.c Yn 0 j)=some (.c Yn 0 j)):∃ J':Nat→List AV,(∀ i,(J' i).length=29)∧((ql p m h (yc L J)).map (AV.tr F)).take 4++v::((ql p m h (yc L J)).map (AV.tr F)).drop 5=ql p { m with out:=o } h (yc L J') :=
 ⟨fun i=>(J i).map (AV.tr F),fun i=>by simp [hJ],by rw [qAL,hv,qY1 hF]⟩
theorem qXj (o:List (Nat×Nat)) {v:AV} (hJ:∀ i,(J i).length=29) (hv:v=.hs (.c Yn 0 5) 2 0 o.length) (hF:∀ j,j≠5→F (.c Yn 0 j)=some (.c Yn 0 j)):∃ J':Nat→List AV,(∀ i,(J' i).length=29)∧((ql p m h (yc L J)).map (AV.tr F)).take 5++v::((ql p m h (yc L J)).map (AV.tr F)).drop 6=ql p { m with trace:=o } h (yc L J') :=
 ⟨fun i=>(J i).map (AV.tr F),fun i=>by simp [hJ],by rw [qAL,hv,qY0 hF]⟩
theorem qUw (o:List (Nat×List Nat)) {v:AV} (hJ:∀ i,(J i).length=29) (hv:v=.hs (.c Yn 0 30) 2 0 o.length) (hF:∀ j,j≠30→F (.c Yn 0 j)=some (.c Yn 0 j)):∃ J':Nat→List AV,(∀ i,(J' i).length=29)∧((ql p m h (yc L J)).map (AV.tr F)).take 30++v::((ql p m h (yc L J)).map (AV.tr F)).drop 31=ql p { m with funs:=o } h (yc L J') :=
 ⟨fun i=>(J i).map (AV.tr F),fun i=>by simp [hJ],by rw [qAL,hv,qXR hF]⟩
theorem qUv (o:List (List Slt)) {v:AV} (hJ:∀ i,(J i).length=29) (hv:v=.hs (.c Yn 0 31) 24 0 o.length) (hF:∀ j,j≠31→F (.c Yn 0 j)=some (.c Yn 0 j)):∃ J':Nat→List AV,(∀ i,(J' i).length=29)∧((ql p m h (yc L J)).map (AV.tr F)).take 31++v::((ql p m h (yc L J)).map (AV.tr F)).drop 32=ql p { m with classes:=o } h (yc L J') :=
 ⟨fun i=>(J i).map (AV.tr F),fun i=>by simp [hJ],by rw [qAL,hv,qXQ hF]⟩
end
theorem OwnY.wrR (h:OwnY hp p m) (hm:m.frames=fs++[f]) (hm':m'.frames=fs++[g]) (hr:hp Yn=some (.row 4415 [R])) (h0:∀ J:Nat→List AV,(∀ i,(J i).length=29)→R=ql p m (fs.length+1) (yc (fs++[f]) J)→R'=ql p m' (fs.length+1) (yc (fs++[g]) J))
  (e1:m'.cells=m.cells:=by rfl) (e2:m'.out=m.out:=by rfl) (e3:m'.trace=m.trace:=by rfl) (e4:m'.funs=m.funs:=by rfl) (e5:m'.classes=m.classes:=by rfl) (g1:g.fasts=f.fasts:=by rfl) (g2:g.cells=f.cells:=by rfl) (g3:∃ l,f.stack=g.stack++l:=by exact⟨[],by simp⟩) :
  OwnY (wrO Yn (.row 4415 [R']) hp) p m':=by
 have hf:m.frames[fs.length]?=some f:=by simp [hm]
 refine h.reT hm hm' (by rw [e1]) (qBO hr (by simp [wrO]) h0) (by simp [wrO,h.caps]) (by simp [wrO,h.out,e2]) (by simp [wrO,h.trc,e3]) (by simp [wrO,h.funs,e4]) (by simp [wrO,h.clss,e5]) (fun i x _ hx=>by simp [wrO,hx]) ?_ (fun i x _ hx=>by simp [wrO,hx]) ?_ (fun i x _ hx=>by simp [wrO,hx]) ?_ (fun c s hc=>?_) (fun k i j hk e hn=>?_)
 ·rw [g1];simp [wrO,h.fasts _ f hf]
 ·rw [g2];simp [wrO,h.cls _ f hf]
 ·obtain⟨j,hj⟩:=h.stack _ f hf
  obtain⟨l,hl⟩:=g3
  exact⟨l++j,by simp [wrO,hj,hl]⟩
 ·rw [e1] at hc
  simp [wrO,h.cell c s hc]
 ·simp only [wrO] at hn
  rwa [if_neg (by simpa using e)] at hn
theorem OwnY.stopped (h:OwnY hp p m) (hm:m.frames=fs++[f]) (hr:hp Yn=some (.row 4415 [R])):OwnY (wrO Yn (.row 4415 [spl R 3 [iv e]]) hp) p { m with en:=e } :=
 h.wrR hm (m':={ m with en:=e }) (g:=f) hm hr (fun J _ e=>by rw [e];exact qS7)
end
end Go.Hm
end
section
namespace Go.Hm
open Go Go.RowKit
def zf (m:Mch) (fs:List Frm) (f:Frm) (o:Int×Int) (w:Nat) (e:Int):Mch :=
 if w=1 then setS m fs f.pop o (some f.tos) else match qA5 m f o with
  | none=>m.stop fs f e
  | some v=>if w=0 then m.top fs (f.push v) else setS m fs f o none
structure WrY (p:Prg) (m:Mch) (fs:List Frm) (f:Frm) (o:Int×Int) (off:Nat):Prop where
 le:off+3≤4411
 rd:∀ g R,g.names=f.names→TopR p (m.top fs g) fs.length g R→∀ j,j<3→R[off+j]?=(zx (qA5 m f o))[j]?
 wr:∀ g s,g.names=f.names→g.cells=f.cells→∃ G,(setS m fs g o s).frames=fs++[G]∧G.fasts=g.fasts∧G.cells=g.cells∧G.stack=g.stack∧(setS m fs g o s).cells=m.cells∧(setS m fs g o s).out=m.out∧(setS m fs g o s).trace=m.trace∧(setS m fs g o s).funs=m.funs∧(setS m fs g o s).classes=m.classes∧(setS m fs g o s).en=m.en ∧
  ∀ J:Nat→List AV,(∀ i,(J i).length=29)→spl (ql p (m.top fs g) (fs.length+1) (yc (fs++[g]) J)) off (zx s)=ql p (setS m fs g o s) (fs.length+1) (yc (fs++[G]) J)
section
variable {p:Prg} {m:Mch} {fs:List Frm} {f g:Frm} {o:Int×Int} {x:Nat}
theorem WrY.glob (hg:m.globals.length=8) (h1:8≤o.1) (h2:o.1≤10) (hx:o.2.toNat<8):WrY p m fs f o (6+3 * o.2.toNat):=by
 have e1:¬ o.1≤4:=by omega
 have e2:¬ o.1≤7:=by omega
 refine⟨by omega,fun g R _ tr j hj=>?_,fun g s _ _=>⟨g,?_⟩⟩
 ·rw [Nat.add_assoc,tr.gl _ j hx hj]
  simp [qA5,e1,e2,h2,Mch.top]
 ·have e:setS m fs g o s={ m.top fs g with globals:=m.globals.set o.2.toNat s }:=by simp [setS,e1,e2,h2]
  rw [e]
  exact⟨rfl,rfl,rfl,rfl,rfl,rfl,rfl,rfl,rfl,rfl,fun J hJ=>qS2 (m:=m.top fs g) hg hx⟩
theorem WrY.name (hn:f.names.length=8) (hi:fs.length<151) (h1:11≤o.1) (hx:o.2.toNat<8):WrY p m fs f o (yo fs.length+4+3 * o.2.toNat):=by
 have e1:¬ o.1≤4:=by omega
 have e2:¬ o.1≤7:=by omega
 have e3:¬ o.1≤10:=by omega
 refine⟨by simp only [yo];omega,fun g R hg tr j hj=>?_,fun g s hg _=>⟨{ g with names:=g.names.set o.2.toNat s },?_⟩⟩
 ·rw [Nat.add_assoc,tr.nm _ j hx hj]
  simp [qA5,e1,e2,e3,hg]
 ·have e:setS m fs g o s=m.top fs { g with names:=g.names.set o.2.toNat s }:=by simp [setS,e1,e2,e3]
  rw [e]
  refine⟨rfl,rfl,rfl,rfl,rfl,rfl,rfl,rfl,rfl,rfl,fun J hJ=>?_⟩
  have:=qHu (p:=p) (m:=m.top fs g) (h:=fs.length+1) (J:=J) (fs:=fs++[g]) (i:=fs.length) (f:=g) (g:={ g with names:=g.names.set o.2.toNat s }) (j:=4+3 * o.2.toNat) (vals:=zx s) hJ (by simp) hi (by simp;omega) (qKO (by rw [hg];exact hn) hx)
  rw [← Nat.add_assoc,← Nat.add_assoc] at this
  refine this.trans ?_
  simp [ql,yA,yB,yZ,Mch.top]
end
def DY9:Nm→Bool:=fun k=>DM k||Nm.under (.u 9 0 0) k
theorem qFR {q:Nm} (h:DY9 q=true):q.sroot=false:=by
 rcases Bool.or_eq_true _ _ ▸ h with h|h
 ·exact qH h
 ·exact q9 rfl h
theorem qYK {q:Nm} (h:Nm.under (.u 9 0 0) q=true):DM q=false:=by
 induction q with
 | s d=>simp at h
 | u a b c =>
  simp at h
  obtain⟨rfl,rfl,rfl⟩:=h
  rfl
 | c r i j ih =>
  simp only [qEA] at h
  exact ih h
theorem qYk {q:Nm} (h:Nm.under Yn q=true):DM q=true:=by
 induction q with
 | s d=>simp at h
 | u a b c =>
  simp at h
  obtain⟨rfl,rfl,rfl⟩:=h
  rfl
 | c r i j ih =>
  simp only [qEA] at h
  exact ih h
theorem qRu {q:Nm} {j:Nat} (h:Nm.under (.c Yn 0 j) q=true):DM q=true:=qYk (Nm.under_trans (by simp) h)
section
variable {hp hp':Nm→Option AO} {p:Prg} {m:Mch} {fs:List Frm} {f:Frm} {k j:Nat}
theorem qQe {g:AV→AV} {l vals:List AV} {k:Nat}:(spl l k vals).map g=spl (l.map g) k (vals.map g):=by simp [spl,List.map_take,List.map_drop]
theorem OwnY.same (h:OwnY hp p m) (hs:qBH DM hp' hp):OwnY hp' p m:=by
 obtain⟨F,h1,h2⟩:=hs
 exact h.ren h1 h2
theorem OwnY.keep (h:OwnY hp p m) (hm:m.frames=fs++[f]) (hi:fs.length<151) (hk:f.stack.length=k+1) (hj:j≠yo fs.length+28):∃ (R R':List AV) (vs:List Val),hp Yn=some (.row 4415 [R])∧(jl DY9 (hmv (.c Yn 0 j) (.u 9 0 0) hp)) Yn=some (.row 4415 [R'])∧R'[yo fs.length+28]?=some (.hs (.c Yn 0 (yo fs.length+28)) 2 0 (k+1))∧(jl DY9 (hmv (.c Yn 0 j) (.u 9 0 0) hp)) (.c Yn 0 (yo fs.length+28))=some (.row 2 (qt vs))∧vs[k]?=some f.tos ∧
  (AO.row 4415 [spl R (yo fs.length+28) [.hs (.c Yn 0 (yo fs.length+28)) 2 0 k]]).tr (mv (.c Yn 0 j) (.u 9 0 0))=.row 4415 [spl R' (yo fs.length+28) [.hs (.c Yn 0 (yo fs.length+28)) 2 0 k]]:=by
 obtain⟨R,i,hT,tr,h2,h3,h28⟩:=h.topT hm hi
 have e1:Nm.under (.c Yn 0 j) Yn=false:=by simp
 have e2:Nm.under (.c Yn 0 j) (.c Yn 0 (yo fs.length+28))=false:=by simp [Ne.symm hj]
 have hm:mv (.c Yn 0 j) (.u 9 0 0) (.c Yn 0 (yo fs.length+28))=some (.c Yn 0 (yo fs.length+28)):=by simp only [mv,e2,Bool.false_eq_true,if_false];simp
 have he:∀ q,(AV.hs (.c Yn 0 (yo fs.length+28)) 2 0 q).tr (mv (.c Yn 0 j) (.u 9 0 0))=.hs (.c Yn 0 (yo fs.length+28)) 2 0 q:=fun q=>by simp only [AV.tr,hm]
 refine⟨R,R.map (AV.tr (mv (.c Yn 0 j) (.u 9 0 0))),f.stack++i,hT,?_,?_,?_,j8 hk,?_⟩
 ·simp only [jl,DY9,hmv,e1,hT]
  simp [AO.tr]
 ·rw [List.getElem?_map,tr.f28,hk]
  simp only [Option.map_some,he]
 ·simp only [jl,DY9,hmv,e2,h28]
  simp [AO.tr]
 ·simp only [AO.tr,qQe,List.map_cons,List.map_nil,he]
theorem TopR.glv {i x:Nat} {v:Val} {R:List AV} (tr:TopR p m i f R) (hx:x<8) (h:yn m.globals x=some v):(R.drop (6+x * 3+1)).take 2=[iv v.1,iv v.2]:=by
 have g1:=tr.gl x 1 hx (by omega)
 have g2:=tr.gl x 2 hx (by omega)
 rw [h,Nat.mul_comm,← Nat.add_assoc] at g1 g2
 exact kv g1 g2
theorem TopR.nmv {i x:Nat} {v:Val} {R:List AV} (tr:TopR p m i f R) (hx:x<8) (h:yn f.names x=some v):(R.drop (yo i+4+x * 3+1)).take 2=[iv v.1,iv v.2]:=by
 have g1:=tr.nm x 1 hx (by omega)
 have g2:=tr.nm x 2 hx (by omega)
 rw [h,Nat.mul_comm,← Nat.add_assoc] at g1 g2
 exact kv g1 g2
end
end Go.Hm
end
