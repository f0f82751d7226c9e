/-
  Own texts, joined by mkclaim.py: Hm120, Hm121, Hm122, Hm123, Hm124, Hm125, Hm126, Hm127, Hm128, Hm129, Hm130, Hm131, Hm132, Hm133, Hm134, Hm135, Hm136, Hm137, Hm138, Hm139, Hm140, Hm141, Hm142, Hm143, Hm144, Hm145, Hm146, Hm147, Hm148, Hm149.
-/
import Derived.Test.YtbgmnmnoaamgkaaGreatDoorD14
import Derived.Test.YtbgmnmnoaamgkaaGreatDoorD12
set_option linter.unusedSimpArgs false
set_option linter.unusedVariables false
set_option maxRecDepth 100000
set_option maxHeartbeats 4000000

section
namespace Go.Hm
open Go Go.RowKit
abbrev Xn:Nm:=.u 1 0 0
def vN (p:Prg) (f:Frm):Int:=(j7 ((jO p f.blk).take f.pc):Int) - 1
def z9 (p:Prg) (n:Nm) (i:Nat) (f:Frm):List AV:=[iv f.blk,iv f.pc,iv (vN p f),.hs (.c n i 3) 3 0 f.fasts.length,isl (zg f.cells),.hs (.c n i 5) 3 0 8,.hs (.c n i 6) 2 0 f.stack.length]
def qh (p:Prg) (n:Nm) (l:List Frm):List (List AV):=l.mapIdx fun i f=>z9 p n i f
section
variable {p:Prg} {n m:Nm} {i:Nat} {f g:Frm} {l:List Frm} {r:Nm→Option Nm}
@[simp] theorem frmRow_len:(z9 p n i f).length=7:=rfl
@[simp] theorem frmRow_0:(z9 p n i f)[0]?=some (iv f.blk):=rfl
@[simp] theorem frmRow_1:(z9 p n i f)[1]?=some (iv f.pc):=rfl
@[simp] theorem frmRow_2:(z9 p n i f)[2]?=some (iv (vN p f)):=rfl
@[simp] theorem frmRow_3:(z9 p n i f)[3]?=some (.hs (.c n i 3) 3 0 f.fasts.length):=rfl
@[simp] theorem frmRow_4:(z9 p n i f)[4]?=some (isl (zg f.cells)):=rfl
@[simp] theorem frmRow_5:(z9 p n i f)[5]?=some (.hs (.c n i 5) 3 0 8):=rfl
@[simp] theorem frmRow_6:(z9 p n i f)[6]?=some (.hs (.c n i 6) 2 0 f.stack.length):=rfl
@[simp] theorem frmRows_len:(qh p n l).length=l.length:=by simp [qh]
@[simp] theorem zT:(qh p n l)[i]?=(l[i]?).map fun f=>z9 p n i f:=by simp [qh]
@[simp] theorem frmRows_getE {h:i<(qh p n l).length}:(qh p n l)[i]=z9 p n i (l[i]'(by simpa using h)):=by simp [qh]
@[simp] theorem frmRows_nil:qh p n []=[]:=rfl
theorem qLl (h3:r (.c n i 3)=some (.c m i 3)) (h5:r (.c n i 5)=some (.c m i 5)) (h6:r (.c n i 6)=some (.c m i 6)):(z9 p n i f).map (AV.tr r)=z9 p m i f:=by simp [z9,h3,h5,h6]
theorem qDh (h:∀ i j,i<l.length→r (.c n i j)=some (.c m i j)):(qh p n l).map (fun x=>x.map (AV.tr r))=qh p m l:=by
 apply List.ext_getElem?
 intro j
 rw [List.getElem?_map,zT,zT]
 cases hj:l[j]? with
 | none=>rfl
 | some a =>
  have hl:=(gS hj).1
  simp only [Option.map_some]
  rw [qLl (h j 3 hl) (h j 5 hl) (h j 6 hl)]
@[simp] theorem qCp (h:∀ i j,r (.c n i j)=some (.c n i j)):(qh p n l).map (fun x=>x.map (AV.tr r))=qh p n l:=qDh fun i j _=>h i j
theorem qCo {k:List AV→List AV} (h:∀ (i:Nat) f,l[i]?=some f→k (z9 p n i f)=z9 p m i f):(qh p n l).map k=qh p m l:=by
 apply List.ext_getElem?
 intro j
 rw [List.getElem?_map,zT,zT]
 cases hj:l[j]? with
 | none=>rfl
 | some a=>simp only [Option.map_some];rw [h j a hj]
theorem qCq:qh p n l++[z9 p n l.length f]=qh p n (l++[f]):=by simp [qh]
theorem qB2 {k:Nat}:(qh p n l).take k=qh p n (l.take k):=by
 apply List.ext_getElem?
 intro j
 rw [List.getElem?_take,zT,zT,List.getElem?_take]
 split <;> rfl
theorem qCn {off:Nat} {vals:List AV} (hi:l[i]?=some f) (h:(z9 p n i f).take off++vals++(z9 p n i f).drop (off+vals.length)=z9 p n i g):qa (qh p n l) i off vals=qh p n (l.set i g):=by
 have hl:=(gS hi).1
 apply List.ext_getElem?
 intro j
 simp only [qa,List.getElem?_modify,zT,List.getElem?_set]
 by_cases e:i=j
 ·subst e
  rw [hi]
  simp only [Option.map_some,if_true,hl]
  exact congrArg some h
 ·simp [e]
end
def y4 (l:List (Nat×List Nat)):List (List AV):=l.map fun g=>[iv g.1,isl (zg g.2)]
def jX (l:List (List Slt)):List (List AV):=l.map fun c=>[.sl 3 (qN c)]
abbrev qOo:AV:=.bot
def yV (x:AV) (p:Prg):List (List AV):=[x]::(List.range (p.length - 1)).map fun b=>[isl (zE p (b+1))]
section
variable {l:List (Nat×List Nat)} {cs:List (List Slt)} {i:Nat} {r:Nm→Option Nm} {g:Nat×List Nat} {c:List Slt} {x:AV} {p:Prg}
@[simp] theorem fnRows_len:(y4 l).length=l.length:=by simp [y4]
@[simp] theorem fnRows_getE {h:i<(y4 l).length}:(y4 l)[i]=[iv (l[i]'(by simpa using h)).1,isl (zg (l[i]'(by simpa using h)).2)]:=by simp [y4]
@[simp] theorem fnRows_tr:(y4 l).map (fun y=>y.map (AV.tr r))=y4 l:=by simp [y4]
@[simp] theorem fnRows_take {k:Nat}:(y4 l).take k=y4 (l.take k):=by simp [y4]
theorem qJt:y4 l++[[iv g.1,isl (zg g.2)]]=y4 (l++[g]):=by simp [y4]
@[simp] theorem fnRows_nil:y4 []=[]:=rfl
@[simp] theorem clzRows_len:(jX cs).length=cs.length:=by simp [jX]
@[simp] theorem clzRows_getE {h:i<(jX cs).length}:(jX cs)[i]=[AV.sl 3 (qN (cs[i]'(by simpa using h)))]:=by simp [jX]
@[simp] theorem clzRows_tr:(jX cs).map (fun y=>y.map (AV.tr r))=jX cs:=by
 simp only [jX,List.map_map]
 apply List.map_congr_left
 intro c _
 simp [jL,AV.tr]
@[simp] theorem clzRows_take {k:Nat}:(jX cs).take k=jX (cs.take k):=by simp [jX]
theorem qHf:jX cs++[[.sl 3 (qN c)]]=jX (cs++[c]):=by simp [jX]
@[simp] theorem clzRows_nil:jX []=[]:=rfl
theorem qCx (h:0<p.length):(yV x p).length=p.length:=by simp [yV];omega
theorem qHi (h:0<i) (hl:i<p.length):(yV x p)[i]?=some [isl (zE p i)]:=by
 obtain⟨j,rfl⟩:∃ j,i=j+1:=⟨i - 1,by omega⟩
 simp only [yV,List.getElem?_cons_succ,List.getElem?_map]
 rw [gE (by simp;omega)]
 simp
@[simp] theorem capRows_tr:(yV x p).map (fun y=>y.map (AV.tr r))=yV (x.tr r) p:=by simp [yV]
end
structure OwnF (hp:Nm→Option AO) (p:Prg) (n:Nm) (l:List Frm):Prop where
 top:∃ js,hp n=some (.row 7 (qh p n (l++js)))
 fasts:∀ (i:Nat) f,l[i]?=some f→hp (.c n i 3)=some (.row 3 (qN f.fasts))
 names:∀ (i:Nat) f,l[i]?=some f→hp (.c n i 5)=some (.row 3 (qN f.names))
 stack:∀ (i:Nat) f,l[i]?=some f→∃ j,hp (.c n i 6)=some (.row 2 (qt (f.stack++j)))
def jR (p:Prg) (n:Nm) (m:Mch) (dp:Nat):List AV:=[csl (qX p p.length),.hs (.c Xn 0 1) 1 0 p.length,.hs (.c Xn 0 2) 3 0 m.cells.length,.hs (.c Xn 0 3) 3 0 8,.hs (.c Xn 0 4) 2 0 m.funs.length,.hs (.c Xn 0 5) 1 0 m.classes.length,.hs n 7 0 m.frames.length,iv m.made,iv dp,.hs (.c Xn 0 9) 1 0 m.out.length,.hs (.c Xn 0 10) 2 0 m.trace.length,iv m.en,iv m.left]
structure OwnX (hp:Nm→Option AO) (p:Prg) (n:Nm) (m:Mch) (dp:Nat):Prop where
 top:hp Xn=some (.row 13 [jR p n m dp])
 caps:hp (.c Xn 0 1)=some (.row 1 (yV qOo p))
 cells:hp (.c Xn 0 2)=some (.row 3 (qN m.cells))
 glob:hp (.c Xn 0 3)=some (.row 3 (qN m.globals))
 funs:hp (.c Xn 0 4)=some (.row 2 (y4 m.funs))
 clss:hp (.c Xn 0 5)=some (.row 1 (jX m.classes))
 out:hp (.c Xn 0 9)=some (.row 1 (qJ m.out))
 trc:hp (.c Xn 0 10)=some (.row 2 (jq m.trace))
 fr:OwnF hp p n m.frames
section
variable {hp hp':Nm→Option AO} {p:Prg} {n n':Nm} {m m':Mch} {dp dp':Nat} {l l':List Frm}
theorem OwnF.re (h:OwnF hp p n l)
  (h0:∀ js,hp n=some (.row 7 (qh p n (l++js)))→hp' n=some (.row 7 (qh p n (l++js))):=by intro js hj;simp [hj])
  (h1:∀ (i:Nat) f,l[i]?=some f→hp (.c n i 3)=some (.row 3 (qN f.fasts))→hp' (.c n i 3)=some (.row 3 (qN f.fasts)):=by intro i f _ hf;simp [hf])
  (h2:∀ (i:Nat) f,l[i]?=some f→hp (.c n i 5)=some (.row 3 (qN f.names))→hp' (.c n i 5)=some (.row 3 (qN f.names)):=by intro i f _ hf;simp [hf])
  (h3:∀ (i:Nat) f j,l[i]?=some f→hp (.c n i 6)=some (.row 2 (qt (f.stack++j)))→hp' (.c n i 6)=some (.row 2 (qt (f.stack++j))):=by intro i f j _ hf;simp [hf]):OwnF hp' p n l:=by
 obtain⟨js,hj⟩:=h.top
 exact⟨⟨js,h0 js hj⟩,fun i f hf=>h1 i f hf (h.fasts i f hf),fun i f hf=>h2 i f hf (h.names i f hf),fun i f hf=>by obtain⟨j,hj⟩:=h.stack i f hf;exact⟨j,h3 i f j hf hj⟩⟩
theorem OwnX.re (h:OwnX hp p n m dp)
  (h0:hp' Xn=some (.row 13 [jR p n' m' dp']):=by simp [h.top,jR])
  (h1:hp' (.c Xn 0 1)=some (.row 1 (yV qOo p)):=by simp [h.caps])
  (h2:hp' (.c Xn 0 2)=some (.row 3 (qN m'.cells)):=by simp [h.cells])
  (h3:hp' (.c Xn 0 3)=some (.row 3 (qN m'.globals)):=by simp [h.glob])
  (h4:hp' (.c Xn 0 4)=some (.row 2 (y4 m'.funs)):=by simp [h.funs])
  (h5:hp' (.c Xn 0 5)=some (.row 1 (jX m'.classes)):=by simp [h.clss])
  (h6:hp' (.c Xn 0 9)=some (.row 1 (qJ m'.out)):=by simp [h.out])
  (h7:hp' (.c Xn 0 10)=some (.row 2 (jq m'.trace)):=by simp [h.trc])
  (h8:OwnF hp' p n' m'.frames:=by exact h.fr.re):OwnX hp' p n' m' dp' :=
 ⟨h0,h1,h2,h3,h4,h5,h6,h7,h8⟩
theorem OwnF.ren (h:OwnF hp p n l) {f:Nm→Option Nm} (hf:∀ k,Nm.under n k=true→f k=some k) (hh:∀ k,Nm.under n k=true→hp' k=(hp k).map (AO.tr f)):OwnF hp' p n l:=by
 have hu:∀ i j,Nm.under n (.c n i j)=true:=fun i j=>by simp [Nm.under]
 refine⟨h.top.imp fun js hj=>?_,fun i g hg=>?_,fun i g hg=>?_,fun i g hg=>(h.stack i g hg).imp fun j hj=>?_⟩
 ·rw [hh n (Nm.under_self n),hj]
  simp only [Option.map_some,AO.tr]
  rw [qCp fun i j=>hf _ (hu i j)]
 ·rw [hh _ (hu i 3),h.fasts i g hg];simp [AO.tr]
 ·rw [hh _ (hu i 5),h.names i g hg];simp [AO.tr]
 ·rw [hh _ (hu i 6),hj];simp [AO.tr]
theorem OwnX.ren (h:OwnX hp p n m dp) {f:Nm→Option Nm} (hn:Nm.under Xn n=true∨n=.u 2 0 0) (hf:∀ k,D12 k=true→f k=some k) (hh:∀ k,D12 k=true→hp' k=(hp k).map (AO.tr f)):OwnX hp' p n m dp:=by
 have hc:∀ j,D12 (.c Xn 0 j)=true:=fun j=>by simp [Nm.under]
 have hD:∀ k,Nm.under n k=true→D12 k=true:=by
  intro k hk
  rcases hn with hn|rfl
  ·simp only [qB7,Bool.or_eq_true]
   exact .inl (Nm.under_trans hn hk)
  ·simp only [qB7,Bool.or_eq_true]
   exact .inr hk
 have hnn:f n=some n:=hf _ (hD n (Nm.under_self n))
 refine⟨?_,?_,?_,?_,?_,?_,?_,?_,h.fr.ren (fun k hk=>hf k (hD k hk)) fun k hk=>hh k (hD k hk)⟩
 ·rw [hh _ (by simp [Nm.under]),h.top]
  simp [jR,AO.tr,AV.tr,jL,hf _ (hc 1),hf _ (hc 2),hf _ (hc 3),hf _ (hc 4),hf _ (hc 5),hf _ (hc 9),hf _ (hc 10),hnn]
 ·rw [hh _ (hc 1),h.caps];simp [AO.tr,AV.tr]
 ·rw [hh _ (hc 2),h.cells];simp [AO.tr]
 ·rw [hh _ (hc 3),h.glob];simp [AO.tr]
 ·rw [hh _ (hc 4),h.funs];simp [AO.tr]
 ·rw [hh _ (hc 5),h.clss];simp [AO.tr]
 ·rw [hh _ (hc 9),h.out];simp [AO.tr]
 ·rw [hh _ (hc 10),h.trc];simp [AO.tr]
end
section
variable {p:Prg} {m M:Mch} {b d n i j N t:Nat} {fs:List Frm} {f g:Frm} {o:Int×Int} {v:Val} {k:Blk} {x:Int}
structure StD (m m':Mch):Prop where
 dp:m'.deep=max m.deep m'.frames.length
 gr:m'.frames.length≤m.frames.length∨(m'.en=m.en∧m'.frames≠[])
theorem StD.of (h:m.frames.length≤m.deep) (h1:M.frames.length≤m.frames.length) (h2:M.deep=m.deep):StD m M:=⟨by omega,.inl h1⟩
theorem qQc (h:m.frames.length≤m.deep) (hl:fs.length+1=m.frames.length):StD m (m.top fs f):=.of h (by simp [Mch.top];omega) rfl
theorem qIG {s:Slt} (h:m.frames.length≤m.deep) (hl:fs.length+1=m.frames.length):StD m (setS m fs f o s):=by
 unfold setS
 repeat' split
 all_goals exact .of h (by simp [Mch.top];omega) rfl
theorem qFc {cs:List Nat} {vs:List Val} (h:m.frames.length≤m.deep) (hl:fs.length+1=m.frames.length):StD m (qk p (m.top fs f) b cs vs):=by
 unfold qk
 split
 ·split
  ·exact⟨by simp [Mch.top],.inr ⟨rfl,by simp⟩⟩
  ·exact⟨by simp [Mch.top],.inr ⟨rfl,by simp⟩⟩
 ·exact⟨by simp [Mch.top],.inr ⟨rfl,by simp⟩⟩
theorem qCD (h:m.frames.length≤m.deep) (hl:fs.length+1=m.frames.length) (h1:M.deep=m.deep) (h2:M.frames=m.frames):StD m (zD M fs v):=by
 unfold zD
 split
 ·rename_i g hg
  refine .of h ?_ h1
  simp only [List.length_append,List.length_dropLast,List.length_singleton]
  have:fs.length≠0:=fun e=>by rw [List.eq_nil_of_length_eq_zero e] at hg;cases hg
  omega
 ·exact .of h (by simp) h1
theorem qIF (h:m.frames.length≤m.deep):StD m (yC p m):=by
 unfold yC
 split
 ·rename_i f hf
  have hl:m.frames.dropLast.length+1=m.frames.length:=by
   have:m.frames.length≠0:=fun e=>by rw [List.eq_nil_of_length_eq_zero e] at hf;cases hf
   rw [List.length_dropLast]
   omega
  have hT:∀ F:Frm,StD m (m.top m.frames.dropLast F):=fun F=>qQc h hl
  have hS:∀ (F:Frm) (E:Int),StD m (m.stop m.frames.dropLast F E):=fun F E=>.of h (by simp [Mch.stop,Mch.top];omega) rfl
  split
  ·rename_i o ho
   unfold yq
   split
   ·unfold vq
    split
    ·exact hS _ _
    ·exact .of h (by simp [Mch.top];omega) rfl
   ·split
    ·split
     ·unfold jw
      repeat' split
      all_goals first|exact hT _|exact hS _ _
     ·split
      ·exact qIG h hl
      ·unfold qFA
       split
       ·exact qIG h hl
       ·exact hS _ _
    ·unfold zI
     split
     ·exact hT _
     ·split
      ·unfold qIz
       dsimp only
       split
       ·exact hS _ _
       ·exact hT _
      ·split
       ·exact .of h (by simp [Mch.top];omega) rfl
       ·split
        ·exact qFc h hl
        ·split
         ·unfold uo
          dsimp only
          split
          ·exact hS _ _
          ·split
           ·split
            ·exact hS _ _
            ·exact qFc h hl
           ·exact hS _ _
         ·split
          ·unfold wK
           dsimp only
           split
           ·exact hS _ _
           ·split
            ·exact hT _
            ·exact hS _ _
          ·split
           ·exact .of h (by simp [Mch.top];omega) rfl
           ·exact qCD h hl rfl rfl
  ·unfold qDk
   split
   ·exact qCD (M:={ m with classes:=m.classes++[f.names] }) h hl rfl rfl
   ·exact qCD h hl rfl rfl
 ·exact .of h (Nat.le_refl _) rfl
def kA (p:Prg):Nat→Mch→Nat→Nat
 | 0,_,d=>d
 | i+1,m,d=>if m.ended then d else kA p i (yC p m) (max d m.frames.length)
theorem qDa (ht:∀ b,(qE p b).length≤t):∀ (i:Nat) {m:Mch} {d:Nat},McIn p t m→m.deep=max d m.frames.length→(zN p i m).deep=max (kA p i m d) (zN p i m).frames.length
 | 0,m,d,_,hd=>hd
 | i+1,m,d,h,hd=>by
  rw [zN,kA]
  split
  ·exact hd
  ·exact qDa ht i (qIe ht h) (by rw [(qIF h.fr).dp,hd])
theorem qAQ:∀ (i:Nat) {m:Mch},¬ (zN p i m).ended→zN p (i+1) m=yC p (zN p i m)
 | 0,m,h=>by
  rw [zN] at h
  simp only [zN,if_neg h]
 | i+1,m,h=>by
  by_cases e:m.ended
  ·rw [zN,if_pos e] at h
   exact absurd e h
  ·rw [zN,if_neg e] at h ⊢
   rw [qAQ i h,zN,if_neg e]
theorem qAx:∀ (i:Nat) {m:Mch} {d:Nat},¬ (zN p i m).ended→kA p (i+1) m d=max (kA p i m d) (zN p i m).frames.length
 | 0,m,d,h=>by
  rw [zN] at h
  simp only [zN,kA,if_neg h]
 | i+1,m,d,h=>by
  by_cases e:m.ended
  ·rw [zN,if_pos e] at h
   exact absurd e h
  ·rw [zN,if_neg e] at h
   rw [kA,if_neg e,qAx i h,kA,if_neg e,zN,if_neg e]
theorem qLJ (ht:∀ b,(qE p b).length≤t) (h:McIn p t m) (hd:m.deep=max d m.frames.length) (hN:¬ (zN p N m).ended) (he:(zN p (N+1) m).ended):kA p (N+1) m d=(zN p (N+1) m).deep:=by
 have h1:=qDa ht (N+1) h hd
 have h2:=qAx (d:=d) N hN
 have hI:=qH7 ht N h
 have h3:=(qIF (p:=p) hI.fr).gr
 rw [← qAQ N hN] at h3
 rcases h3 with h3|⟨h3,h4⟩
 ·omega
 ·rcases he with he|he
  ·exact absurd he h4
  ·rw [h3] at he
   exact absurd (.inr he) hN
end
end Go.Hm
end
section
namespace Go.Hm
open Go Go.RowKit
def spl (l:List AV) (off:Nat) (vals:List AV):List AV:=l.take off++vals++l.drop (off+vals.length)
section
variable {P X S vals l:List AV} {k off j i n z:Nat} {c c':Nat→List AV}
theorem qQf (h:off+vals.length≤l.length):(spl l off vals).length=l.length:=by simp [spl];omega
theorem kK (hk:k+vals.length≤X.length):spl (P++(X++S)) (P.length+k) vals=P++(spl X k vals++S):=by
 unfold spl
 rw [List.take_append,List.drop_append,List.take_append,List.drop_append,List.take_of_length_le (Nat.le_add_right _ _)]
 have e1:P.length+k - P.length=k:=by omega
 have e2:P.length+k+vals.length - P.length=k+vals.length:=by omega
 have e3:k - X.length=0:=by omega
 have e4:k+vals.length - X.length=0:=by omega
 have e5:P.drop (P.length+k+vals.length)=[]:=List.drop_eq_nil_of_le (by omega)
 rw [e1,e2,e3,e4,e5]
 simp
theorem qK8 (hk:k+vals.length≤X.length):spl (X++S) k vals=spl X k vals++S:=by
 have:=kK (P:=[]) (S:=S) hk
 simpa using this
theorem qNj (hk:k+vals.length≤X.length):spl (P++X) (P.length+k) vals=P++spl X k vals:=by
 have:=kK (P:=P) (S:=[]) hk
 simpa using this
theorem qH9 (hk:k<X.length):(P++(X++S))[P.length+k]?=X[k]?:=by
 rw [List.getElem?_append_right (Nat.le_add_right _ _),Nat.add_sub_cancel_left,List.getElem?_append_left hk]
theorem qHd (hk:k+n≤X.length):((P++(X++S)).drop (P.length+k)).take n=(X.drop k).take n:=by
 rw [List.drop_append,List.drop_append,List.drop_eq_nil_of_le (by omega:P.length≤P.length+k)]
 have e1:P.length+k - P.length=k:=by omega
 have e3:k - X.length=0:=by omega
 rw [e1,e3,List.nil_append,List.take_append]
 have e4:n - (X.drop k).length=0:=by simp;omega
 rw [e4]
 simp
def cat (c:Nat→List AV) (n:Nat):List AV:=(List.range n).flatMap c
theorem vZ:cat c (n+1)=cat c n++c n:=by simp [cat,List.range_succ]
theorem uQ (hc:∀ i,(c i).length=z):(cat c n).length=z * n:=by
 induction n with
 | zero=>simp [cat]
 | succ n ih=>rw [vZ,List.length_append,ih,hc,Nat.mul_succ]
theorem qGj (h:∀ i,i<n→c' i=c i):cat c' n=cat c n:=by
 induction n with
 | zero=>rfl
 | succ n ih=>rw [vZ,vZ,ih fun i hi=>h i (by omega),h n (by omega)]
theorem qGi (hi:i<n):∃ S,cat c n=cat c i++(c i++S):=by
 induction n with
 | zero=>omega
 | succ n ih =>
  rw [vZ]
  by_cases e:i=n
  ·subst e
   exact⟨[],by simp⟩
  ·obtain⟨S,hS⟩:=ih (by omega)
   exact⟨S++c n,by rw [hS];simp⟩
theorem qME (hc:∀ i,(c i).length=z) (hi:i<n) (hj:j<z):(cat c n)[z * i+j]?=(c i)[j]?:=by
 obtain⟨S,hS⟩:=qGi (c:=c) hi
 rw [hS,← uQ (n:=i) hc]
 exact qH9 (by rw [hc];exact hj)
theorem qMF (hc:∀ i,(c i).length=z) (hi:i<n) (hj:j+k≤z):((cat c n).drop (z * i+j)).take k=((c i).drop j).take k:=by
 obtain⟨S,hS⟩:=qGi (c:=c) hi
 rw [hS,← uQ (n:=i) hc]
 exact qHd (by rw [hc];exact hj)
theorem qMD (hc:∀ i,(c i).length=z) (hi:i<n) (hj:j+vals.length≤z) (h:∀ k,k≠i→c' k=c k) (hx:spl (c i) j vals=c' i):spl (cat c n) (z * i+j) vals=cat c' n:=by
 induction n with
 | zero=>omega
 | succ n ih =>
  rw [vZ,vZ]
  by_cases e:i=n
  ·subst e
   rw [← uQ (n:=i) hc,qNj (by rw [hc];exact hj),hx,qGj fun k hk=>(h k (by omega)).symm]
  ·rw [qK8,ih (by omega),h n (fun e'=>e e'.symm)]
   rw [uQ hc]
   have:z * (i+1)≤z * n:=Nat.mul_le_mul_left z (by omega)
   rw [Nat.mul_succ] at this
   omega
theorem qIs {f:Nm→Option Nm} (h:∀ i,i<n→(c i).map (AV.tr f)=c' i):(cat c n).map (AV.tr f)=cat c' n:=by
 induction n with
 | zero=>rfl
 | succ n ih=>rw [vZ,vZ,List.map_append,ih fun i hi=>h i (by omega),h n (by omega)]
end
def vo (l:List Slt):List AV:=cat (fun i=>zx (yn l i)) 8
section
variable {l:List Slt} {i j:Nat} {s:Slt} {f:Nm→Option Nm}
@[simp] theorem qOb:(vo l).length=24:=uQ (z:=3) fun _=>uT
@[simp] theorem ki:(vo l).map (AV.tr f)=vo l:=qIs fun _ _=>qNk
theorem qIn (hi:i<8) (hj:j<3):(vo l)[3 * i+j]?=(zx (yn l i))[j]?:=qME (fun _=>uT) hi hj
theorem qOc (hi:i<8):((vo l).drop (3 * i)).take 3=zx (yn l i):=by
 have:=qMF (c:=fun i=>zx (yn l i)) (j:=0) (k:=3) (fun _=>uT) hi (by omega)
 rw [Nat.add_zero] at this
 rw [vo,this]
 simp only [List.drop_zero]
 exact List.take_of_length_le (by simp)
theorem qIm (hl:l.length=8) (hi:i<8):spl (vo l) (3 * i) (zx s)=vo (l.set i s):=by
 have:=qMD (c:=fun i=>zx (yn l i)) (c':=fun k=>zx (yn (l.set i s) k)) (n:=8) (i:=i) (j:=0) (vals:=zx s) (z:=3) (fun _=>uT) hi (by simp) (fun k hk=>by
  rw [qIH (by omega),if_neg hk]) (by
  rw [qIH (by omega),if_pos rfl]
  have h1:(zx (yn l i)).length=3:=uT
  simp [spl,List.drop_eq_nil_of_le,h1])
 rwa [Nat.add_zero] at this
end
abbrev Yn:Nm:=.u 1 0 0
def yA (p:Prg) (m:Mch):List AV:=[csl (qX p p.length),.hs (.c Yn 0 1) 1 0 p.length,iv m.left,iv m.en,.hs (.c Yn 0 4) 1 0 m.out.length,.hs (.c Yn 0 5) 2 0 m.trace.length]
def yB (m:Mch):List AV:=[.hs (.c Yn 0 30) 2 0 m.funs.length,.hs (.c Yn 0 31) 24 0 m.classes.length]
def yZ (m:Mch) (h:Nat):List AV:=[iv h,iv m.deep,iv m.made,iv m.cells.length]
def ql (p:Prg) (m:Mch) (h:Nat) (c:Nat→List AV):List AV:=yA p m++(vo m.globals++(yB m++(cat c 151++yZ m h)))
def yfr (i:Nat) (f:Frm):List AV:=[iv f.blk,iv f.pc,.hs (.c Yn 0 (32+29 * i+2)) 3 0 f.fasts.length,.hs (.c Yn 0 (32+29 * i+3)) 1 0 f.cells.length]++(vo f.names++[.hs (.c Yn 0 (32+29 * i+28)) 2 0 f.stack.length])
def yc (fs:List Frm) (J:Nat→List AV) (i:Nat):List AV:=match fs[i]? with|some f=>yfr i f|none=>J i
section
variable {p:Prg} {m:Mch} {h h' i j k x:Nat} {c c' J:Nat→List AV} {fs:List Frm} {f g:Frm} {s:Slt} {vals:List AV} {e:Int} {r:Nm→Option Nm}
@[simp] theorem yfr_len:(yfr i f).length=29:=by simp [yfr]
theorem jm (hJ:∀ i,(J i).length=29) (i:Nat):(yc fs J i).length=29:=by
 unfold yc
 split
 ·simp
 ·exact hJ i
theorem yx (hc:∀ i,(c i).length=29):(ql p m h c).length=4415:=by simp [ql,yA,yB,yZ,uQ hc]
@[simp] theorem qPM:(ql p m h c)[0]?=some (csl (qX p p.length)):=rfl
@[simp] theorem qSf:(ql p m h c)[1]?=some (.hs (.c Yn 0 1) 1 0 p.length):=rfl
@[simp] theorem qSe:(ql p m h c)[2]?=some (iv m.left):=rfl
@[simp] theorem qSd:(ql p m h c)[3]?=some (iv m.en):=rfl
@[simp] theorem qSc:(ql p m h c)[4]?=some (.hs (.c Yn 0 4) 1 0 m.out.length):=rfl
@[simp] theorem qPL:(ql p m h c)[5]?=some (.hs (.c Yn 0 5) 2 0 m.trace.length):=rfl
theorem qFZ {P X S:List AV} {q:Nat} (hq:q=P.length+k) (hk:k<X.length) (hR:ql p m h c=P++(X++S)):(ql p m h c)[q]?=X[k]?:=by rw [hR,hq];exact qH9 hk
theorem qV6 {P X S:List AV} {q n:Nat} (hq:q=P.length+k) (hk:k+n≤X.length) (hR:ql p m h c=P++(X++S)):((ql p m h c).drop q).take n=(X.drop k).take n:=by rw [hR,hq];exact qHd hk
theorem qFY {P X S:List AV} {q:Nat} (hq:q=P.length+k) (hk:k+vals.length≤X.length) (hR:ql p m h c=P++(X++S)):spl (ql p m h c) q vals=P++(spl X k vals++S):=by rw [hR,hq];exact kK hk
theorem qYM:ql p m h c=yA p m++(vo m.globals++(yB m++(cat c 151++yZ m h))):=rfl
theorem qPN:ql p m h c=(yA p m++vo m.globals)++(yB m++(cat c 151++yZ m h)):=by simp [ql]
theorem qVS:ql p m h c=(yA p m++(vo m.globals++yB m))++(cat c 151++yZ m h):=by simp [ql]
theorem qKI:ql p m h c=(yA p m++(vo m.globals++(yB m++cat c 151)))++(yZ m h++[]):=by simp [ql]
theorem qYO:(yA p m).length=6:=rfl
theorem qVV:(yA p m++vo m.globals).length=30:=by simp [yA]
theorem qXV:(yA p m++(vo m.globals++yB m)).length=32:=by simp [yA,yB]
theorem qPZ (hc:∀ i,(c i).length=29):(yA p m++(vo m.globals++(yB m++cat c 151))).length=4411:=by simp [yA,yB,uQ hc]
@[simp] theorem qPn:(ql p m h c)[30]?=some (.hs (.c Yn 0 30) 2 0 m.funs.length):=by rw [qFZ (k:=0) (by rw [qVV]) (by simp [yB]) qPN];rfl
@[simp] theorem qPm:(ql p m h c)[31]?=some (.hs (.c Yn 0 31) 24 0 m.classes.length):=by rw [qFZ (k:=1) (by rw [qVV]) (by simp [yB]) qPN];rfl
theorem qAE (hc:∀ i,(c i).length=29):(ql p m h c)[4411]?=some (iv h):=by rw [qFZ (k:=0) (by rw [qPZ hc]) (by simp [yZ]) qKI];rfl
theorem qF2 (hc:∀ i,(c i).length=29):(ql p m h c)[4412]?=some (iv m.deep):=by rw [qFZ (k:=1) (by rw [qPZ hc]) (by simp [yZ]) qKI];rfl
theorem qF1 (hc:∀ i,(c i).length=29):(ql p m h c)[4413]?=some (iv m.made):=by rw [qFZ (k:=2) (by rw [qPZ hc]) (by simp [yZ]) qKI];rfl
theorem qF0 (hc:∀ i,(c i).length=29):(ql p m h c)[4414]?=some (iv m.cells.length):=by rw [qFZ (k:=3) (by rw [qPZ hc]) (by simp [yZ]) qKI];rfl
theorem qSb (hx:x<8) (hj:j<3):(ql p m h c)[6+(3 * x+j)]?=(zx (yn m.globals x))[j]?:=by
 rw [qFZ (k:=3 * x+j) (by rw [qYO]) (by simp;omega) qYM]
 exact qIn hx hj
theorem qYT (hc:∀ i,(c i).length=29) (hi:i<151) (hj:j<29):(ql p m h c)[32+(29 * i+j)]?=(c i)[j]?:=by
 rw [qFZ (k:=29 * i+j) (by rw [qXV]) (by rw [uQ hc];omega) qVS]
 exact qME hc hi hj
theorem qV5 (hc:∀ i,(c i).length=29) (hi:i<151) (hj:j+k≤29):((ql p m h c).drop (32+(29 * i+j))).take k=((c i).drop j).take k:=by
 rw [qV6 (k:=29 * i+j) (n:=k) (by rw [qXV]) (by rw [uQ hc];omega) qVS]
 exact qMF hc hi hj
theorem qS8:spl (ql p m h c) 2 [iv x]=ql p { m with left:=x } h c:=rfl
theorem qS7:spl (ql p m h c) 3 [iv e]=ql p { m with en:=e } h c:=rfl
theorem qS6 {o:List Int}:spl (ql p m h c) 4 [.hs (.c Yn 0 4) 1 0 o.length]=ql p { m with out:=o } h c:=rfl
theorem qS5 {o:List (Nat×Nat)}:spl (ql p m h c) 5 [.hs (.c Yn 0 5) 2 0 o.length]=ql p { m with trace:=o } h c:=rfl
theorem qPj {o:List (Nat×List Nat)}:spl (ql p m h c) 30 [.hs (.c Yn 0 30) 2 0 o.length]=ql p { m with funs:=o } h c:=by
 rw [qFY (k:=0) (by rw [qVV]) (by simp [yB]) qPN,qPN]
 rfl
theorem qPi {o:List (List Slt)}:spl (ql p m h c) 31 [.hs (.c Yn 0 31) 24 0 o.length]=ql p { m with classes:=o } h c:=by
 rw [qFY (k:=1) (by rw [qVV]) (by simp [yB]) qPN,qPN]
 rfl
theorem qPJ (hc:∀ i,(c i).length=29):spl (ql p m h c) 4411 [iv h']=ql p m h' c:=by
 rw [qFY (k:=0) (by rw [qPZ hc]) (by simp [yZ]) qKI,qKI]
 rfl
theorem qS3 (hc:∀ i,(c i).length=29):spl (ql p m h c) 4412 [iv x]=ql p { m with deep:=x } h c:=by
 rw [qFY (k:=1) (by rw [qPZ hc]) (by simp [yZ]) qKI,qKI]
 rfl
theorem qS1 (hc:∀ i,(c i).length=29):spl (ql p m h c) 4413 [iv x]=ql p { m with made:=x } h c:=by
 rw [qFY (k:=2) (by rw [qPZ hc]) (by simp [yZ]) qKI,qKI]
 rfl
theorem qS4 (hc:∀ i,(c i).length=29) {o:List Slt}:spl (ql p m h c) 4414 [iv o.length]=ql p { m with cells:=o } h c:=by
 rw [qFY (k:=3) (by rw [qPZ hc]) (by simp [yZ]) qKI,qKI]
 rfl
theorem qS2 (hl:m.globals.length=8) (hx:x<8):spl (ql p m h c) (6+3 * x) (zx s)=ql p { m with globals:=m.globals.set x s } h c:=by
 rw [qFY (k:=3 * x) (by rw [qYO]) (by simp;omega) qYM,qIm hl hx]
 rfl
theorem qHv (hc:∀ i,(c i).length=29) (hi:i<151) (hj:j+vals.length≤29) (hk:∀ k,k≠i→c' k=c k) (hx:spl (c i) j vals=c' i):spl (ql p m h c) (32+(29 * i+j)) vals=ql p m h c':=by
 rw [qFY (k:=29 * i+j) (by rw [qXV]) (by rw [uQ hc];omega) qVS,qMD hc hi hj hk hx,qVS]
theorem qS0 (hi:i<fs.length) (hk:k≠i):yc (fs.set i g) J k=yc fs J k:=by
 unfold yc
 rw [List.getElem?_set,if_neg (fun e=>hk e.symm)]
theorem qGv (hi:fs[i]?=some f):yc fs J i=yfr i f:=by simp [yc,hi]
theorem qHu (hJ:∀ i,(J i).length=29) (hf:fs[i]?=some f) (hi:i<151) (hj:j+vals.length≤29) (hx:spl (yfr i f) j vals=yfr i g):spl (ql p m h (yc fs J)) (32+(29 * i+j)) vals=ql p m h (yc (fs.set i g) J):=by
 have hl:=(gS hf).1
 refine qHv (jm hJ) hi hj (fun k hk=>qS0 hl hk) ?_
 rw [qGv hf,hx,qGv (f:=g) (by simp [hl])]
end
end Go.Hm
end
section
namespace Go.Hm
open Go Go.RowKit
def jZ (l:List (Nat×List Nat)):List (List AV):=l.map fun g=>[iv g.1,.sl 1 (zA g.2)]
def jb (l:List (List Slt)):List (List AV):=l.map vo
def jc (p:Prg) (n:Nat):List (List AV):=(List.range n).map fun b=>[isl (zE p b)]
section
variable {l:List (Nat×List Nat)} {cs:List (List Slt)} {i n:Nat} {r:Nm→Option Nm} {g:Nat×List Nat} {c:List Slt} {p:Prg}
@[simp] theorem fyRows_len:(jZ l).length=l.length:=by simp [jZ]
@[simp] theorem fyRows_getE {h:i<(jZ l).length}:(jZ l)[i]=[iv (l[i]'(by simpa using h)).1,.sl 1 (zA (l[i]'(by simpa using h)).2)]:=by simp [jZ]
@[simp] theorem qDg (h:∀ i,r (En i)=some (En i)):(jZ l).map (fun y=>y.map (AV.tr r))=jZ l:=by
 simp only [jZ,List.map_map]
 apply List.map_congr_left
 intro g _
 have:(zA g.2).map (fun y=>y.map (AV.tr r))=zA g.2:=vn h
 simp [AV.tr,jL,this]
@[simp] theorem fyRows_take {k:Nat}:(jZ l).take k=jZ (l.take k):=by simp [jZ]
theorem qJq:jZ l++[[iv g.1,.sl 1 (zA g.2)]]=jZ (l++[g]):=by simp [jZ]
@[simp] theorem fyRows_nil:jZ []=[]:=rfl
@[simp] theorem cyRows_len:(jb cs).length=cs.length:=by simp [jb]
@[simp] theorem cyRows_getE {h:i<(jb cs).length}:(jb cs)[i]=vo (cs[i]'(by simpa using h)):=by simp [jb]
@[simp] theorem cyRows_tr:(jb cs).map (fun y=>y.map (AV.tr r))=jb cs:=by simp [jb]
@[simp] theorem cyRows_take {k:Nat}:(jb cs).take k=jb (cs.take k):=by simp [jb]
theorem qJw:jb cs++[vo c]=jb (cs++[c]):=by simp [jb]
@[simp] theorem cyRows_nil:jb []=[]:=rfl
@[simp] theorem cpRows_len:(jc p n).length=n:=by simp [jc]
@[simp] theorem cpRows_getE {h:i<(jc p n).length}:(jc p n)[i]=[isl (zE p i)]:=by simp [jc]
@[simp] theorem cpRows_tr:(jc p n).map (fun y=>y.map (AV.tr r))=jc p n:=by simp [jc]
theorem qJx:jc p n++[[isl (zE p n)]]=jc p (n+1):=by simp [jc,List.range_succ]
@[simp] theorem cpRows_zero:jc p 0=[]:=rfl
end
section
variable {i n k:Nat} {f:Frm} {r:Nm→Option Nm} {p:Prg} {m:Mch} {h:Nat} {c:Nat→List AV}
theorem qSZ:spl (yfr i f) 1 [iv n]=yfr i { f with pc:=n }:=rfl
theorem qKN {l:List Val}:spl (yfr i f) 28 [.hs (.c Yn 0 (32+29 * i+28)) 2 0 l.length]=yfr i { f with stack:=l }:=by
 have h1:(yfr i f).take 28=[iv f.blk,iv f.pc,.hs (.c Yn 0 (32+29 * i+2)) 3 0 f.fasts.length,.hs (.c Yn 0 (32+29 * i+3)) 1 0 f.cells.length]++vo f.names:=by
  unfold yfr
  rw [List.take_append,List.take_append]
  have:(vo f.names).length=24:=qOb
  simp
  exact List.take_of_length_le (by simp)
 have h2:(yfr i f).drop 29=[]:=List.drop_eq_nil_of_le (by simp)
 unfold spl
 rw [h1]
 simp only [List.length_singleton,Nat.reduceAdd]
 rw [h2]
 simp [yfr]
theorem qKO {x:Nat} {s:Slt} (hl:f.names.length=8) (hx:x<8):spl (yfr i f) (4+3 * x) (zx s)=yfr i { f with names:=f.names.set x s }:=by
 have h4:∀ a b d e:AV,[a,b,d,e].length=4:=fun _ _ _ _=>rfl
 have:=kK (P:=[iv f.blk,iv f.pc,.hs (.c Yn 0 (32+29 * i+2)) 3 0 f.fasts.length,.hs (.c Yn 0 (32+29 * i+3)) 1 0 f.cells.length]) (X:=vo f.names) (S:=[.hs (.c Yn 0 (32+29 * i+28)) 2 0 f.stack.length]) (k:=3 * x) (vals:=zx s) (by simp;omega)
 rw [h4,qIm hl hx] at this
 exact this
@[simp] theorem yfr_get0:(yfr i f)[0]?=some (iv f.blk):=rfl
@[simp] theorem yfr_get1:(yfr i f)[1]?=some (iv f.pc):=rfl
@[simp] theorem yfr_get2:(yfr i f)[2]?=some (.hs (.c Yn 0 (32+29 * i+2)) 3 0 f.fasts.length):=rfl
@[simp] theorem yfr_get3:(yfr i f)[3]?=some (.hs (.c Yn 0 (32+29 * i+3)) 1 0 f.cells.length):=rfl
@[simp] theorem qKP:(yfr i f)[28]?=some (.hs (.c Yn 0 (32+29 * i+28)) 2 0 f.stack.length):=by
 unfold yfr
 rw [List.getElem?_append_right (by simp),List.getElem?_append_right (by simp)]
 simp
theorem qMe {x j:Nat} (hx:x<8) (hj:j<3):(yfr i f)[4+(3 * x+j)]?=(zx (yn f.names x))[j]?:=by
 have:=qH9 (P:=[iv f.blk,iv f.pc,.hs (.c Yn 0 (32+29 * i+2)) 3 0 f.fasts.length,.hs (.c Yn 0 (32+29 * i+3)) 1 0 f.cells.length]) (X:=vo f.names) (S:=[.hs (.c Yn 0 (32+29 * i+28)) 2 0 f.stack.length]) (k:=3 * x+j) (by simp;omega)
 rw [qIn hx hj] at this
 exact this
theorem qKM:((yfr i f).drop 4).take 24=vo f.names:=by
 have:=qHd (P:=[iv f.blk,iv f.pc,.hs (.c Yn 0 (32+29 * i+2)) 3 0 f.fasts.length,.hs (.c Yn 0 (32+29 * i+3)) 1 0 f.cells.length]) (X:=vo f.names) (S:=[.hs (.c Yn 0 (32+29 * i+28)) 2 0 f.stack.length]) (k:=0) (n:=24) (by simp)
 rw [List.drop_zero] at this
 exact this.trans (List.take_of_length_le (by simp))
theorem qPg (hr:∀ j,r (.c Yn 0 j)=some (.c Yn 0 j)):(yfr i f).map (AV.tr r)=yfr i f:=by simp [yfr,hr]
end
structure OwnY (hp:Nm→Option AO) (p:Prg) (m:Mch):Prop where
 top:∃ J:Nat→List AV,(∀ i,(J i).length=29)∧hp Yn=some (.row 4415 [ql p m m.frames.length (yc m.frames J)])
 caps:hp (.c Yn 0 1)=some (.row 1 (jc p p.length))
 out:hp (.c Yn 0 4)=some (.row 1 (qJ m.out))
 trc:hp (.c Yn 0 5)=some (.row 2 (jq m.trace))
 funs:hp (.c Yn 0 30)=some (.row 2 (jZ m.funs))
 clss:hp (.c Yn 0 31)=some (.row 24 (jb m.classes))
 fasts:∀ (i:Nat) f,m.frames[i]?=some f→hp (.c Yn 0 (32+29 * i+2))=some (.row 3 (qN f.fasts))
 cls:∀ (i:Nat) f,m.frames[i]?=some f→hp (.c Yn 0 (32+29 * i+3))=some (.row 1 (zA f.cells))
 stack:∀ (i:Nat) f,m.frames[i]?=some f→∃ j,hp (.c Yn 0 (32+29 * i+28))=some (.row 2 (qt (f.stack++j)))
 cell:∀ (c:Nat) s,m.cells[c]?=some s→hp (En c)=some (.row 3 [zx s])
 only:∀ k i j,fM k=true→hp (.u k i j)≠none→(k=1∧i=0∧j=0)∨(k=7∧i<m.cells.length∧j=0)
section
variable {hp hp' H:Nm→Option AO} {p:Prg} {m m' m0:Mch}
theorem OwnY.re (h:OwnY hp p m)
  (h0:∀ J:Nat→List AV,(∀ i,(J i).length=29)→hp Yn=some (.row 4415 [ql p m m.frames.length (yc m.frames J)])→hp' Yn=some (.row 4415 [ql p m m.frames.length (yc m.frames J)]):=by intro J _ hJ;simp [hJ])
  (h1:hp' (.c Yn 0 1)=some (.row 1 (jc p p.length)):=by simp [h.caps])
  (h2:hp' (.c Yn 0 4)=some (.row 1 (qJ m.out)):=by simp [h.out])
  (h3:hp' (.c Yn 0 5)=some (.row 2 (jq m.trace)):=by simp [h.trc])
  (h4:hp' (.c Yn 0 30)=some (.row 2 (jZ m.funs)):=by simp [h.funs])
  (h5:hp' (.c Yn 0 31)=some (.row 24 (jb m.classes)):=by simp [h.clss])
  (h6:∀ (i:Nat) f,m.frames[i]?=some f→hp (.c Yn 0 (32+29 * i+2))=some (.row 3 (qN f.fasts))→hp' (.c Yn 0 (32+29 * i+2))=some (.row 3 (qN f.fasts)):=by intro i f _ hf;simp [hf])
  (h7:∀ (i:Nat) f,m.frames[i]?=some f→hp (.c Yn 0 (32+29 * i+3))=some (.row 1 (zA f.cells))→hp' (.c Yn 0 (32+29 * i+3))=some (.row 1 (zA f.cells)):=by intro i f _ hf;simp [hf])
  (h8:∀ (i:Nat) f j,m.frames[i]?=some f→hp (.c Yn 0 (32+29 * i+28))=some (.row 2 (qt (f.stack++j)))→hp' (.c Yn 0 (32+29 * i+28))=some (.row 2 (qt (f.stack++j))):=by intro i f j _ hf;simp [hf])
  (h9:∀ (c:Nat) s,m.cells[c]?=some s→hp' (En c)=some (.row 3 [zx s]):=by intro c s hc;simp [h.cell c s hc])
  (hA:∀ k i j,fM k=true→¬ (k=1∧i=0∧j=0)→hp' (.u k i j)≠none→hp (.u k i j)≠none:=by intro k i j hk e hn;simpa [hk,e] using hn):OwnY hp' p m :=
 ⟨by obtain⟨J,hJ,e⟩:=h.top;exact⟨J,hJ,h0 J hJ e⟩,h1,h2,h3,h4,h5,fun i f hf=>h6 i f hf (h.fasts i f hf),fun i f hf=>h7 i f hf (h.cls i f hf),fun i f hf=>(h.stack i f hf).imp fun j hj=>h8 i f j hf hj,h9,
   fun k i j hk hn=>if e:k=1∧i=0∧j=0 then .inl e else h.only k i j hk (hA k i j hk e hn)⟩
theorem OwnY.ren (h:OwnY hp p m) {f:Nm→Option Nm} (hf:∀ k,DM k=true→f k=some k) (hh:∀ k,DM k=true→hp' k=(hp k).map (AO.tr f)):OwnY hp' p m:=by
 have hE:∀ i,f (En i)=some (En i):=fun i=>hf _ rfl
 have hc:∀ j,f (.c Yn 0 j)=some (.c Yn 0 j):=fun j=>hf _ rfl
 refine⟨?_,?_,?_,?_,?_,?_,fun i g hg=>?_,fun i g hg=>?_,fun i g hg=>(h.stack i g hg).imp fun j hj=>?_,fun c s hs=>?_,fun k i j hk hn=>?_⟩
 ·obtain⟨J,hJ,e⟩:=h.top
  refine⟨fun i=>(J i).map (AV.tr f),fun i=>by simp [hJ],?_⟩
  rw [hh _ rfl,e]
  have h1:(cat (yc m.frames J) 151).map (AV.tr f)=cat (yc m.frames fun i=>(J i).map (AV.tr f)) 151:=qIs fun i _=>by
   unfold yc
   split
   ·exact qPg hc
   ·rfl
  simp only [Option.map_some,AO.tr,List.map_cons,List.map_nil,ql,List.map_append,h1,ki]
  simp [yA,yB,yZ,hc,AV.tr,jL]
 ·rw [hh _ rfl,h.caps];simp [AO.tr]
 ·rw [hh _ rfl,h.out];simp [AO.tr]
 ·rw [hh _ rfl,h.trc];simp [AO.tr]
 ·rw [hh _ rfl,h.funs]
  simp only [Option.map_some,AO.tr]
  rw [qDg hE]
 ·rw [hh _ rfl,h.clss];simp [AO.tr]
 ·rw [hh _ rfl,h.fasts i g hg];simp [AO.tr]
 ·rw [hh _ rfl,h.cls i g hg]
  simp only [Option.map_some,AO.tr]
  rw [vn hE]
 ·rw [hh _ rfl,hj];simp [AO.tr]
 ·rw [hh _ rfl,h.cell c s hs];simp [AO.tr]
 ·refine h.only k i j hk fun e=>hn ?_
  rw [hh (.u k i j) hk,e];rfl
theorem OwnY.sub (h:OwnY hp p m) {D:Nm→Bool} (hD:∀ k,DM k=true→D k=true:=by intro m hm;first|exact hm|simp [hm]):OwnY (jl D hp) p m:=by
 refine h.ren (f:=some) (fun _ _=>rfl) (fun k hk=>?_)
 rw [qLx,if_pos (hD k hk)]
 cases hp k with
 | none=>rfl
 | some o=>simp [AO.tr_some]
theorem OwnY.ext (h0:OwnY H p m0) (h:OwnY hp p m) (hc:m0.cells.length≤m.cells.length):∀ k i j,(H (.u k i j)).isSome=true→DM (.u k i j)=false∨(jl DM hp) (.u k i j)≠none:=by
 intro k i j hs
 cases hD:fM k with
 | false=>exact .inl hD
 | true =>
  right
  have hd:DM (.u k i j)=true:=hD
  rw [qLx,if_pos hd]
  rcases h0.only k i j hD (by intro e;rw [e] at hs;cases hs) with⟨rfl,rfl,rfl⟩|⟨rfl,hi,rfl⟩
  ·obtain⟨J,_,e⟩:=h.top
   rw [e];simp
  ·have hi':i<m.cells.length:=by omega
   rw [h.cell i _ (gE hi')];simp
end
section
variable {hp:Nm→Option AO} {p:Prg} {m:Mch} {n:Nm} {dp:Nat} {D:Nm→Bool} {sbs:List (Nm×Nm)}
theorem OwnY.fin (h:OwnY hp p m) (hD:∀ k,D k=true→k.sroot=false:=by exact fun _=>qH) (hW:∀ k,DM k=true→D k=true:=by exact fun _ h=>h) (hs:∀ q∈sbs,q.1.sroot=true:=by simp [Nm.sroot]):OwnY (wS D sbs hp) p m :=
 h.ren (f:=zu D sbs) (fun k hk=>qDi hD (hW k hk) hs) (fun k hk=>by simp only [wS,hW k hk,if_true])
theorem OwnX.fin (h:OwnX hp p n m dp) (hn:Nm.under Xn n=true∨n=.u 2 0 0) (hD:∀ k,D k=true→k.sroot=false:=by exact fun _=>zM) (hW:∀ k,D12 k=true→D k=true:=by exact fun _ h=>h) (hs:∀ q∈sbs,q.1.sroot=true:=by simp [Nm.sroot]):OwnX (wS D sbs hp) p n m dp :=
 h.ren hn (f:=zu D sbs) (fun k hk=>qDi hD (hW k hk) hs) (fun k hk=>by simp only [wS,hW k hk,if_true])
end
end Go.Hm
end
section
namespace Go.Hm
open Go Go.RowKit
abbrev Txt:=List UInt8
def qPX (s:Stm):List Int :=
 if s.kind=0∨s.kind=1∨s.kind=3∨s.kind=4 then [s.to,s.a]
 else if s.kind=2∨s.kind=6 then [s.to,s.a,s.b]
 else if s.kind=5 then (if s.b=-1 then [s.to,s.a] else [s.to,s.a,s.b])
 else if s.kind=7∨s.kind=8 then [s.a] else [s.to]
section
variable {s:Stm} {k:Blk} {p q:Prg} {l w:Txt} {ns:List Int} {ks:List Nat} {ls ws:List Txt} {i n:Nat}
def qFQ (ns:List Int):Prop:=∀ n∈ns,0≤n∧n≤99
structure TxtS (s:Stm):Prop where
 kind:0≤s.kind∧s.kind≤11
 nums:qFQ (qPX s)
 to:s.kind=7∨s.kind=8→s.to=0∧s.b=0
 b:s.kind=0∨s.kind=1∨s.kind=3∨s.kind=4→s.b=0
 a:9≤s.kind→s.a=0∧s.b=0
end
end Go.Hm
end
section
namespace Go.Hm
open Go Go.RowKit
section
variable {s:Stm} {k:Blk} {p q:Prg} {l w:Txt} {ns:List Int} {ls ws rest:List Txt} {i n:Nat} {body:List Stm} {ks:List Blk}
structure TxtH (k:Blk):Prop where
 kind:k.kind=1∨k.kind=2
 parent:0≤k.parent∧k.parent≤99
 params:qFQ k.params
 cls:k.kind=2→k.params=[]
end
section
variable {s:Stm} {k k0:Blk} {p q P:Prg} {l t:Txt} {ls rest:List Txt} {i n:Nat} {body:List Stm} {ks:List Blk}
structure TxtP (p:Prg):Prop where
 head:∃ b ks,p=⟨0,-1,[],b⟩::ks
 heads:∀ (i:Nat) k,p[i]?=some k→0<i→TxtH k
 stms:∀ k∈p,∀ s∈k.body,TxtS s
end
end Go.Hm
end
section

end
section

end
section

end
section

end
section

end
section

end
section

end
section

end
section

end
section
namespace Go.Hm
open Go Go.RowKit
section
variable {P:Program} {own:Nat→Prop} {C:Nat→Prop} {w0:World} {g:Gh} {st:St} {a:Go.Act} {w:World}
def qVC (T:TypeId) (d:Nat) (st:St):St :=
 ((st.kill (.s d)).setO (.s d) (.trow T 2 true [[.sc (.pointer none),.sc (.slice none 0 0)]])).put (some d) (.pt (.s d) 0)
theorem qGq {o:Oper} {T:TypeId} {d:Nat} (h:Rg P own C w0 g st a w) (ho:o.op=.alloc T) (hd:o.dst=some d) (hn:d<st.n) (hq:jg P T=some [.sc (.pointer none),.sc (.slice none 0 0)]) :
  qJC P o a w fun a' w'=>Rel P own C w0 g (qVC T d st) a' w':=by
 obtain⟨i,z,q1,q2,q3,q4,q5⟩:=qAh hq
 have hz:z.cells=#[.pointer none,.slice none 0 0]:=by
  have h2:z.cells.toList=[.pointer none,.slice none 0 0]:=by
   rcases hl:z.cells.toList with _|⟨x,_|⟨y,_|⟨u,tl⟩⟩⟩ <;> rw [hl] at q4 <;> simp at q4
   rw [q4.1,q4.2]
  apply Array.ext'
  exact h2
 refine .inl ⟨.pointer (some ⟨w.heap.size,0,none⟩),w.alloc (.cells z.cells T),?_,?_⟩
 ·simp [execOp,ho,Instr.alloc,zeroValue,typeInfo,q1,q2,newVar,newRow]
 ·rw [hd,hz]
  have hm:=h.made (.s d) (.trow T 2 true [[.sc (.pointer none),.sc (.slice none 0 0)]]) w.heap.size 1 (w.alloc (.cells #[.pointer none,.slice none 0 0] T)) [] (fun p hp=>by cases hp) (fun _=>false) rfl rfl rfl (by simp) (.inl (Nat.le_refl _)) (by simp) (fun b' _ hb'=>u7 _ hb') (by
   simp only [OAt,(zC (g:=g) (.s d) (some w.heap.size) 1).1,(zC (g:=g) (.s d) (some w.heap.size) 1).2]
   refine⟨⟨_,heap_alloc_new w _,by simp,by decide,by simp,by simp,?_,?_⟩,fun _=>rfl,fun e=>(by cases e)⟩
   ·intro j hj
    match j,hj with
    | 0,_=>rfl
    | 1,_=>rfl
   ·intro i row hrow j x hx
    match i,hrow with
    | 0,hrow =>
     obtain rfl:=sI hrow
     match j,hx with
     | 0,hx=>obtain rfl:=sI hx;exact .sc _
     | 1,hx=>obtain rfl:=sI hx;exact .sc _)
  have ek:(st.nm (kl (.s d)) (fun m=>if (fun _=>false:Nm→Bool) m then none else hkl (.s d) st.hp m))=st.kill (.s d):=by simp [St.kill]
  rw [ek] at hm
  have hp:=hm.put (d:=some d) (v:=.pointer (some ⟨w.heap.size,0,none⟩)) (x:=.pt (.s d) 0) (fun t et=>by
   obtain rfl:=sI et
   exact hn) (.pt _ _ _ (zC _ _ _).1)
  exact⟨_,Ust.fresh rfl,hp⟩
end
section
variable {X:Ctx} {st:St} {K:St→Prop} {E:AV→St→Prop} {ty:TypeId} {pos:String} {aft:Array Edge} {g:Option (Nat×Bool)} {d:Nat} {T:TypeId}
theorem qHy (hd:d<X.n:=by first|(simp;done)|fail) (hq:jg X.P T=some [.sc (.pointer none),.sc (.slice none 0 0)]) (h:K (qVC T d st)):qK X ⟨some d,.alloc T,ty,pos,aft,g⟩ K E st :=
 .of_rel (fun _ _ _ _ e' h=>qGq h rfl rfl (e' ▸ hd) hq) ⟨rfl,rfl⟩ h
end
end Go.Hm
end
section

end
section

end
section

end
section

end
section

end
section

end
section
namespace Go.Hm
open Go Go.RowKit
section
variable {X:Ctx} {st:St} {K:St→Prop} {E:AV→St→Prop} {d:Nat} {ty:TypeId} {pos:String} {aft:Array Edge} {g:Option (Nat×Bool)} {f:Nat} {args:Array Operand} {Ts:Array TypeId} {bs:List AV}
theorem yN {x:AV} (hd:d<X.n:=by first|(simp;done)|fail) (ha:args.toList.map (ev st)=bs:=by simp [fx];first|done|rfl|exact (Bool.not_not _).symm)
  (hF:qV X.P X.gl f bs (fun _ y _=>y=x)) (h:K ((st.kill (.s d)).put (some d) x)):qK X ⟨some d,.call ⟨.value (.func f),args,Ts⟩,ty,pos,aft,g⟩ K E st:=by
 refine qK.weak (qPp (K:=fun s=>∃ H',s=(st.call d noD noH H').put (some d) x) hd ha hF ?_) ?_
 ·rintro y H' rfl
  exact⟨H',rfl⟩
 ·rintro s ⟨H',rfl⟩
  refine⟨(st.kill (.s d)).hp,fun m ob e=>?_,?_⟩
  ·simp only [St.kill,St.nm,hkl] at e
   simp only [St.put,St.call,St.nm]
   split at e
   ·cases e
   ·rename_i hu
    simp [hu,noD,qAa,e]
  ·simpa only [St.put,St.call,St.nm,St.kill,qAa] using h
theorem qYR {P:Program} {T:TypeId} {zs:List AV} (_hq:jg P T=some zs) (h:qK X ⟨some d,.alloc T,ty,pos,aft,g⟩ K E st):qK X ⟨some d,.alloc T,ty,pos,aft,g⟩ K E st:=h
end
theorem qBY {G G':Prop} (k:G') (h:KTag G'→G:=by
 intro kk
 repeat' (first
  | refine qf ?_|refine qS ?_|refine q7 ?_|refine qAl ?_|refine qj fun K hK=>?_
  | ((with_reducible refine qc hK ?_);clear hK K)|(with_reducible refine qc hK ?_)
  | (with_reducible first|refine qD ?_|refine qb ?_|refine qu ?_|refine zr ?_|refine qP ?_|refine zK ?_|refine qCL ?_|refine zP (by decide) ?_)
  | refine jS ?_
  | refine qw ?_
  | (with_reducible refine qO ?_)
  | ((with_reducible refine vR ?_);refine q6 (h:=?_))
  | (with_reducible first|refine jV ?_|refine y7 ?_|refine uz (h:=?_)|refine qAC (h:=?_)|refine x_u (h:=?_)|refine qG (h:=?_)|refine zp (h:=?_)|refine qp (h:=?_)|refine jA (h:=?_)|refine kF (h:=?_)|refine jP (h:=?_)|refine jn (h:=?_)|refine qBy (h:=?_)|refine jp (h:=?_))
  | ((with_reducible refine qYR b1 ?_);refine qHy (hq:=b1) (h:=?_))|(with_reducible refine zk (h:=?_))
  | ((with_reducible refine qx c1 rfl ?_);refine zQ (hF:=c1) (h:=?_))
  | ((with_reducible refine qx c2 rfl ?_);refine zQ (hF:=c2) (h:=?_))
  | ((with_reducible refine qx c3 rfl ?_);refine zQ (hF:=c3) (h:=?_))
  | ((with_reducible refine qx c4 rfl ?_);refine zQ (hF:=c4) (h:=?_))
  | ((with_reducible refine qx c5 rfl ?_);refine zQ (hF:=c5) (h:=?_))
  | ((with_reducible refine qx c6 rfl ?_);refine zQ (hF:=c6) (h:=?_))
  | ((with_reducible refine qx d1 rfl ?_);refine zS (hF:=d1) (h:=?_))
  | ((with_reducible refine qx d2 rfl ?_);refine zS (hF:=d2) (h:=?_))
  | ((with_reducible refine qx d3 rfl ?_);refine zS (hF:=d3) (h:=?_))
  | ((with_reducible refine qx d4 rfl ?_);refine zS (hF:=d4) (h:=?_))
  | ((with_reducible refine qx e1 rfl ?_);refine yz (hF:=e1) (h:=?_))
  | ((with_reducible refine qx e2 rfl ?_);refine yz (hF:=e2) (h:=?_))
  | ((with_reducible refine qx p1 rfl ?_);refine yN (hF:=p1) (h:=?_))
  | ((with_reducible refine qx p2 rfl ?_);refine yN (hF:=p2) (h:=?_))
  | ((with_reducible refine qx p3 rfl ?_);refine yN (hF:=p3) (h:=?_))
  | ((with_reducible refine qx p4 rfl ?_);refine yN (hF:=p4) (h:=?_))
  | ((with_reducible refine qx p5 rfl ?_);refine yN (hF:=p5) (h:=?_))
  | ((with_reducible refine qx p6 rfl ?_);refine yN (hF:=p6) (h:=?_))
  | (with_reducible refine x_q (h:=?_))
  | (with_reducible refine kB (fun ht=>?_) (fun ht=>?_))
  | refine qR (h1:=?_)|refine qg (h1:=?_)
  | ((with_reducible refine wL hK ?_);clear hK K)|(with_reducible refine wL hK ?_)
  | ((with_reducible refine qDo ?_);first|refine qKR (h:=?_)|refine qDv (h:=?_)|refine qDw (h:=?_)|refine qDu (h:=?_))
  | ((with_reducible refine qDo ?_);refine qDx (h1:=fun ht=>?_) (h2:=fun ht=>?_))
  | refine a_l rfl ?_|refine qPE ?_ ?_|refine qPD ?_ ?_ ?_|(with_reducible refine aI ?_ ?_)|exact kJ|refine qBw (h2:=?_)
  | fail)
 first|exact kk.h|(revert hK;revert K;exact kk.h)):G:=h ⟨k⟩
theorem qEp {G G':Prop} (k:G') (h:KTag G'→G:=by
 intro kk K hK
 repeat' (first
  | refine qf ?_|refine qS ?_|refine q7 ?_|refine qAl ?_|refine qj fun K hK=>?_
  | ((with_reducible refine qc hK ?_);clear hK K)|(with_reducible refine qc hK ?_)
  | (with_reducible first|refine qD ?_|refine qb ?_|refine qu ?_|refine zr ?_|refine qP ?_|refine zK ?_|refine qCL ?_|refine zP (by decide) ?_)
  | refine jS ?_
  | refine qw ?_
  | (with_reducible refine qO ?_)
  | ((with_reducible refine vR ?_);refine q6 (h:=?_))
  | (with_reducible first|refine jV ?_|refine y7 ?_|refine uz (h:=?_)|refine qAC (h:=?_)|refine x_u (h:=?_)|refine qG (h:=?_)|refine zp (h:=?_)|refine qp (h:=?_)|refine jA (h:=?_)|refine kF (h:=?_)|refine jP (h:=?_)|refine jn (h:=?_)|refine qBy (h:=?_)|refine jp (h:=?_))
  | ((with_reducible refine qYR b1 ?_);refine qHy (hq:=b1) (h:=?_))|(with_reducible refine zk (h:=?_))
  | ((with_reducible refine qx c1 rfl ?_);refine zQ (hF:=c1) (h:=?_))
  | ((with_reducible refine qx c2 rfl ?_);refine zQ (hF:=c2) (h:=?_))
  | ((with_reducible refine qx c3 rfl ?_);refine zQ (hF:=c3) (h:=?_))
  | ((with_reducible refine qx c4 rfl ?_);refine zQ (hF:=c4) (h:=?_))
  | ((with_reducible refine qx c5 rfl ?_);refine zQ (hF:=c5) (h:=?_))
  | ((with_reducible refine qx c6 rfl ?_);refine zQ (hF:=c6) (h:=?_))
  | ((with_reducible refine qx d1 rfl ?_);refine zS (hF:=d1) (h:=?_))
  | ((with_reducible refine qx d2 rfl ?_);refine zS (hF:=d2) (h:=?_))
  | ((with_reducible refine qx d3 rfl ?_);refine zS (hF:=d3) (h:=?_))
  | ((with_reducible refine qx d4 rfl ?_);refine zS (hF:=d4) (h:=?_))
  | ((with_reducible refine qx e1 rfl ?_);refine yz (hF:=e1) (h:=?_))
  | ((with_reducible refine qx e2 rfl ?_);refine yz (hF:=e2) (h:=?_))
  | ((with_reducible refine qx p1 rfl ?_);refine yN (hF:=p1) (h:=?_))
  | ((with_reducible refine qx p2 rfl ?_);refine yN (hF:=p2) (h:=?_))
  | ((with_reducible refine qx p3 rfl ?_);refine yN (hF:=p3) (h:=?_))
  | ((with_reducible refine qx p4 rfl ?_);refine yN (hF:=p4) (h:=?_))
  | ((with_reducible refine qx p5 rfl ?_);refine yN (hF:=p5) (h:=?_))
  | ((with_reducible refine qx p6 rfl ?_);refine yN (hF:=p6) (h:=?_))
  | (with_reducible refine x_q (h:=?_))
  | (with_reducible refine kB (fun ht=>?_) (fun ht=>?_))
  | refine qR (h1:=?_)|refine qg (h1:=?_)
  | ((with_reducible refine wL hK ?_);clear hK K)|(with_reducible refine wL hK ?_)
  | ((with_reducible refine qDo ?_);first|refine qKR (h:=?_)|refine qDv (h:=?_)|refine qDw (h:=?_)|refine qDu (h:=?_))
  | ((with_reducible refine qDo ?_);refine qDx (h1:=fun ht=>?_) (h2:=fun ht=>?_))
  | refine a_l rfl ?_|refine qPE ?_ ?_|refine qPD ?_ ?_ ?_|(with_reducible refine aI ?_ ?_)|exact kJ|refine qBw (h2:=?_)
  | fail)
 first|exact kk.h|(revert hK;revert K;exact kk.h)):G:=h ⟨k⟩
end Go.Hm
end
section

end
section

end
section

end
