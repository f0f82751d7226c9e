import Derived.Test.YtjgpejikjhojcaaGreatDoorR13
set_option linter.unusedSimpArgs false
set_option linter.unusedVariables false
set_option maxRecDepth 100000
set_option maxHeartbeats 4000000

section
namespace Go.Hm
open Go Go.RowKit
section
variable {p:qC} {m:qR} {b d n i j N M t:Nat} {fs:List qO} {f g:qO} {o:Int×Int} {v:qW} {k:qX} {x:Int}
structure kQ (p:qC) (t:Nat) (m:qR):Prop where
 fr:m.qN.length<=m.deep
 dm:m.deep<=m.made
 d1:1<=m.deep
 cells:m.cells.length<=t * (m.made - 1)
theorem kQ.of {m':qR} (h:kQ p t m) (h1:m'.qN.length<=m.qN.length) (h2:m'.deep=m.deep) (h3:m'.made=m.made) (h4:m'.cells.length=m.cells.length):kQ p t m' :=
 ⟨by grind[fr],by grind[dm],by grind[d1],by rw [h4,h3];exact h.cells⟩
theorem SS (h:kQ p t m) (hl:fs.length+1=m.qN.length):kQ p t (m.top fs f):=h.of (by grind[qR.top]) rfl rfl rfl
theorem Js {s:qr} (h:kQ p t m) (hl:fs.length+1=m.qN.length):kQ p t (jr m fs f o s):=by
 unfold jr
 repeat' split
 all_goals exact h.of (by grind[qR.top]) rfl rfl cL
theorem Jr {cs:List Nat} {vs:List qW} (ht:∀ b,(qY p b).length<=t) (h:kQ p t m):kQ p t (jv p m b cs vs):=by
 have hb:=ht b;have h1:=h.fr;have h2:=h.dm;have h3:=h.d1;have h4:=h.cells
 have key:∀ {C:List qr} {F:List qO},C.length=m.cells.length+(qY p b).length->F.length=m.qN.length+1->kQ p t { m with cells:=C,made:=m.made+1,deep:=max m.deep (m.qN.length+1),qN:=F }:=by
  intro C F e1 e2;refine⟨qw,qw,qw,?_⟩;simp only [e1];obtain⟨q,hq⟩:∃ q,m.made=q+1:=⟨m.made - 1,qA⟩
  grind[Nat.mul_succ]
 unfold jv
 split<;>grind
theorem Eu (h:kQ p t m) (hl:fs.length+1=m.qN.length):kQ p t (yq m fs v):=by
 unfold yq
 split
 .rename_i g hg;refine h.of ?_ rfl rfl rfl
  grind
 .exact h.of qB rfl rfl rfl
theorem Ju (ht:∀ b,(qY p b).length<=t) (h:kQ p t m):kQ p t (kh p m):=by
 unfold kh
 split
 .rename_i f hf
  have hl:m.qN.dropLast.length+1=m.qN.length:=by
   grind
  have hT:∀ F:qO,kQ p t (m.top m.qN.dropLast F):=λF=>SS h hl;have hS:∀ (F:qO) (E:Int),kQ p t (m.stop m.qN.dropLast F E):=λF E=>(hT F).of (qa _) rfl rfl rfl
  split
  .rename_i o ho;unfold jp
   split
   .unfold wU
    split
    .grind
    .exact (hT _).of (qa _) rfl rfl rfl
   .split
    .split
     .grind[vj]
     .split
      .exact Js h hl
      grind[be,Js]
    .unfold y3
     split
     .exact hT _
     .split
      .grind[dl]
      .split
       .exact (hT _).of (qa _) rfl rfl rfl
       .split
        .grind[Jr]
        .split
         .grind[b9,Jr]
         .split
          .grind[cI]
          .split
           .exact (hT _).of (qa _) rfl rfl rfl
           grind[Eu]
  .unfold aC
   split
   .exact Eu (m:={ m with qT:=m.qT++[f.names] }) (h.of (qa _) rfl rfl rfl) hl
   grind[Eu]
 .exact h
theorem Ev (ht:∀ b,(qY p b).length<=t):∀ (i:Nat) {m:qR},kQ p t m->kQ p t (zS p i m)
 | 0,_,h=>h
 | i+1,m,h=>by
  rw [zS]
  split
  .exact h
  .exact Ev ht i (Ju ht h)
theorem Jt (hp:zk p):kQ p t (zU p n):=by
 obtain⟨hR,f,hf,_⟩:=Zr (n:=n) hp;have hl:=hp.sh.len;obtain⟨k,hk⟩:∃ k,p[0]?=some k:=⟨_,gE qA⟩;have hk0:=(hp.sh.dW hk).2 rfl;have hka:j9 p 0=0:=by grind[j9]
 have hc0:qY p 0=[]:=by grind[qY]
 have hps:(zO p 0).params=[]:=by
  have:=hp.sh.head 0 k hk
  grind[zO]
 unfold zU jv;rw [hps];exact⟨qw,fU,qw,oo⟩
open Classical in
noncomputable def yY (p:qC) (n:Nat):qR:=if h:∃ N,(zS p N (zU p n)).ended then zS p (Classical.choose h) (zU p n) else zU p n
theorem AU (h:(zS p i (zU p n)).ended):zS p i (zU p n)=yY p n:=by
 have hE:∃ N,(zS p N (zU p n)).ended:=⟨i,h⟩
 grind[yY,MN]
theorem AX (hp:zk p) (hn:n<=150):∃ N,(∀ i,i<N->¬ (zS p i (zU p n)).ended)/\(zS p N (zU p n)).ended/\zS p N (zU p n)=yY p n:=by
 obtain⟨N,hN⟩:=YJ (n:=n) hp hn
 have key:∀ N,(zS p N (zU p n)).ended->∃ M,(∀ i,i<M->¬ (zS p i (zU p n)).ended)/\(zS p M (zU p n)).ended:=by
  intro N
  induction N<;>grind[MN]
 grind[AU]
theorem AW (hp:zk p) (hn:n<=150):(yY p n).out.length<=151/\(yY p n).trace.length<=151/\(yY p n).globals.length=8:=by
 grind[AX,MQ]
theorem XX (hp:zk p) (hn:n<=150) (ht:∀ b,(qY p b).length<=t):kQ p t (yY p n):=by
 grind[AX,Ev,Jt]
end
end Go.Hm
end
section

end
section

end
section
namespace Go.Hm
open Go Go.RowKit
def yX (S:Nm->Bool) (H:Nm->Option AO):Nm->Option AO:=λn=>if S n=true then none else H n
section
variable {own:Nat->Prop} {C C':Nat->Prop} {w w':World} {g g':Gh} {D:Nm->Bool} {root:Nm} {H H':Nm->Option AO}
def Bl (S:Nm->Bool) (C:Nat->Prop) (g:Gh) (H:Nm->Option AO) (b:Nat):Prop:=C b\/∃ n o,S n=true/\H n=some o/\g.φ n=some b
theorem cA.settle (h:cA own C w g D root H H' C' g' w') (S:Nm->Bool) (hw:∀ n,H n≠none->D n=true):cA own C w g D root H (yX S H') (Bl S C' g' H') (g'.more (Bl S C' g' H')) w':=by
 have hC:∀ b,g'.C b->Bl S C' g' H' b:=λb hb=>.inl (h.inv.hC ▸ hb)
 have old:∀ n o,yX S H' n=some o->H' n=some o/\S n≠true:=by
  grind[yX]
 refine⟨λb hb=>.inl (h.mono b hb),?_,⟨h.inv.os,h.inv.tape,h.inv.output,h.inv.size,h.inv.wN,rfl,?_,?_,?_,?_⟩,?_,h.same,h.Gl⟩
 .rintro b (hb|⟨n,o,_,ho,hk⟩)
  .exact h.new b hb
  .exact .inr (h.inv.qG n o b ho hk).2.1
 .rintro b (hb|⟨n,o,_,ho,hk⟩)
  .exact h.inv.uU b hb
  .exact (h.inv.qG n o b ho hk).2.2
 .intro n o e;have:=(h.inv.obj n o (old n o e).1).tr (g':=g'.more (Bl S C' g' H')) (w':=w') (n':=n) (f:=some) hC (λ_ _=>rfl) (λk k' e=>by obtain rfl:=sI e;exact⟨rfl,rfl⟩) rfl (λ_ _=>rfl)
  grind[AO.vv]
 .intro n o b e hk;obtain⟨e1,e2⟩:=old n o e;obtain⟨x1,x2,x3⟩:=h.inv.qG n o b e1 hk;refine⟨?_,x2,x3⟩;rintro (hb|⟨n',o',hs,ho',hk'⟩)
  .exact x1 hb
  .exact e2 (h.inv.inj n' n o' o b ho' e1 hk' hk ▸ hs)
 .intro n n' o o' b e e' hk hk';exact h.inv.inj n n' o o' b (old n o e).1 (old n' o' e').1 hk hk'
 .intro n hn;refine h.QW n λe=>hn ?_
  grind[yX]
end
section
variable {P:Program} {gl:Nat->Option (List AV)} {f:FuncId} {D:Nm->Bool} {az:List AV} {H:Nm->Option AO} {R R':Nm->AV->(Nm->Option AO)->Prop}
theorem qZ.settle (S:Nm->Nm->Bool) (h:qZ P gl f D az H R zG) (hR:∀ r y H',R r y H'->∃ y',Bw H' (λn=>!S r n) y y'/\R' r y' (yX (S r) H')):qZ P gl f D az H R' zG:=by
 refine⟨h.1,λroot C w g args h1 h2 h3 h4 h5 h6 h7=>?_⟩;refine (h.2 root C w g args h1 h2 h3 h4 h5 h6 h7).mono λe w' he=>?_
 cases e with
 | returned v =>
  obtain⟨C',g',H',x,hA,hv,hr⟩:=he;obtain⟨y',hb,hr'⟩:=hR _ _ _ hr;refine⟨_,_,_,y',hA.settle (S root) h3,?_,hr'⟩;exact RV.bw hA.inv (λb hb=>.inl hb) (λn o b hS ho hk=>.inr ⟨n,o,qP,ho,hk⟩) hb hv
 | panicked ch =>
  omega
 | outgrown=>omega
theorem qM.settle (h:qM P gl f az R) {S:AV->Prop} (hR:∀ r y H',R r y H'->∃ y',Bw H' zn y y'/\S y'):qM P gl f az (λ_ y _=>S y) :=
 qZ.settle (λ_ _=>true) h λr y H' hr=>by
  obtain⟨y',h1,h2⟩:=hR r y H' hr;exact⟨y',h1,h2⟩
end
abbrev Xn:Nm:=.u 1 0 0
def v7 (p:qC) (f:qO):Int:=(vB ((zR p f.qG).take f.pc):Int) - 1
def yd (p:qC) (n:Nm) (i:Nat) (f:qO):List AV:=[iv f.qG,iv f.pc,iv (v7 p f),.hs (.c n i 3) 3 0 f.qq.length,jG (jK f.cells),.hs (.c n i 5) 3 0 8,.hs (.c n i 6) 2 0 f.stack.length]
def ji (p:qC) (n:Nm) (l:List qO):List (List AV):=l.mapIdx λi f=>yd p n i f
section
variable {p:qC} {n m:Nm} {i:Nat} {f g:qO} {l:List qO} {r:Nm->Option Nm}
@[simp] theorem frmRow_len:(yd p n i f).length=7:=rfl
@[simp] theorem frmRow_0:(yd p n i f)[0]?=some (iv f.qG):=rfl
@[simp] theorem frmRow_1:(yd p n i f)[1]?=some (iv f.pc):=rfl
@[simp] theorem frmRow_2:(yd p n i f)[2]?=some (iv (v7 p f)):=rfl
@[simp] theorem frmRow_3:(yd p n i f)[3]?=some (.hs (.c n i 3) 3 0 f.qq.length):=rfl
@[simp] theorem frmRow_4:(yd p n i f)[4]?=some (jG (jK f.cells)):=rfl
@[simp] theorem frmRow_5:(yd p n i f)[5]?=some (.hs (.c n i 5) 3 0 8):=rfl
@[simp] theorem frmRow_6:(yd p n i f)[6]?=some (.hs (.c n i 6) 2 0 f.stack.length):=rfl
@[simp] theorem frmRows_len:(ji p n l).length=l.length:=by simp [ji]
@[simp] theorem gq:(ji p n l)[i]?=(l[i]?).map λf=>yd p n i f:=by simp [ji]
@[simp] theorem frmRows_getE {h:i<(ji p n l).length}:(ji p n l)[i]=yd p n i (l[i]' lA):=by simp [ji]
@[simp] theorem frmRows_nil:ji p n []=[]:=rfl
theorem RQ (h3:r (.c n i 3)=some (.c m i 3)) (h5:r (.c n i 5)=some (.c m i 5)) (h6:r (.c n i 6)=some (.c m i 6)):(yd p n i f).map (AV.tr r)=yd p m i f:=by simp_all[yd]
theorem J8 (h:∀ i j,i<l.length->r (.c n i j)=some (.c m i j)):(ji p n l).map (λx=>x.map (AV.tr r))=ji p m l:=by
 apply y6;intro j;rw [jZ,gq,gq]
 grind[RQ]
@[simp] theorem frmRows_fix (h:∀ i j,r (.c n i j)=some (.c n i j)):(ji p n l).map (λx=>x.map (AV.tr r))=ji p n l:=J8 λi j _=>h i j
theorem J5 {k:List AV->List AV} (h:∀ (i:Nat) f,l[i]?=some f->k (yd p n i f)=yd p m i f):(ji p n l).map k=ji p m l:=by
 apply y6
 grind[gq]
theorem J4:ji p n l++[yd p n l.length f]=ji p n (l++[f]):=by simp [ji]
theorem J7 {k:Nat}:(ji p n l).take k=ji p n (l.take k):=by
 apply y6
 grind[gq]
theorem J6 {off:Nat} {vals:List AV} (hi:l[i]?=some f) (h:(yd p n i f).take off++vals++(yd p n i f).drop (off+vals.length)=yd p n i g):j3 (ji p n l) i off vals=ji p n (l.set i g):=by
 have hl:=(gS hi).1;apply y6
 grind[j3,gq]
end
def ax (l:List (Nat×List Nat)):List (List AV):=l.map λg=>[iv g.1,jG (jK g.2)]
def wK (l:List (List qr)):List (List AV):=l.map λc=>[.sl 3 (zA c)]
abbrev lI:AV:=.bot
def ba (x:AV) (p:qC):List (List AV):=[x]::(List.range (p.length - 1)).map λb=>[jG (zw p (b+1))]
section
variable {l:List (Nat×List Nat)} {cs:List (List qr)} {i:Nat} {r:Nm->Option Nm} {g:Nat×List Nat} {c:List qr} {x:AV} {p:qC}
@[simp] theorem fnRows_len:(ax l).length=l.length:=xD
@[simp] theorem fnRows_getE {h:i<(ax l).length}:(ax l)[i]=[iv (l[i]' lA).1,jG (jK (l[i]' lA).2)]:=xD
@[simp] theorem fnRows_tr:(ax l).map (λy=>y.map (AV.tr r))=ax l:=xD
@[simp] theorem fnRows_take {k:Nat}:(ax l).take k=ax (l.take k):=xD
theorem Qu:ax l++[[iv g.1,jG (jK g.2)]]=ax (l++[g]):=xD
@[simp] theorem fnRows_nil:ax []=[]:=rfl
@[simp] theorem clzRows_len:(wK cs).length=cs.length:=by simp [wK]
@[simp] theorem clzRows_getE {h:i<(wK cs).length}:(wK cs)[i]=[AV.sl 3 (zA (cs[i]' lA))]:=by simp [wK]
@[simp] theorem clzRows_tr:(wK cs).map (λy=>y.map (AV.tr r))=wK cs:=by
 simp only [wK,gU];apply mH;intro c _;simp [tO,AV.tr]
@[simp] theorem clzRows_take {k:Nat}:(wK cs).take k=wK (cs.take k):=by simp [wK]
theorem QC:wK cs++[[.sl 3 (zA c)]]=wK (cs++[c]):=by simp [wK]
@[simp] theorem clzRows_nil:wK []=[]:=rfl
theorem I4 (h:0<p.length):(ba x p).length=p.length:=by grind[ba]
theorem P6 (h:0<i) (hl:i<p.length):(ba x p)[i]?=some [jG (zw p i)]:=by
 grind[ba]
@[simp] theorem capRows_tr:(ba x p).map (λy=>y.map (AV.tr r))=ba (x.tr r) p:=by simp [ba]
end
structure eu (hp:Nm->Option AO) (p:qC) (n:Nm) (l:List qO):Prop where
 top:∃ js,hp n=some (.row 7 (ji p n (l++js)))
 qq:∀ (i:Nat) f,l[i]?=some f->hp (.c n i 3)=some (.row 3 (zA f.qq))
 names:∀ (i:Nat) f,l[i]?=some f->hp (.c n i 5)=some (.row 3 (zA f.names))
 stack:∀ (i:Nat) f,l[i]?=some f->∃ j,hp (.c n i 6)=some (.row 2 (zh (f.stack++j)))
def zp (p:qC) (n:Nm) (m:qR) (dp:Nat):List AV:=[uw (jb p p.length),.hs (.c Xn 0 1) 1 0 p.length,.hs (.c Xn 0 2) 3 0 m.cells.length,.hs (.c Xn 0 3) 3 0 8,.hs (.c Xn 0 4) 2 0 m.qH.length,.hs (.c Xn 0 5) 1 0 m.qT.length,.hs n 7 0 m.qN.length,iv m.made,iv dp,.hs (.c Xn 0 9) 1 0 m.out.length,.hs (.c Xn 0 10) 2 0 m.trace.length,iv m.en,iv m.left]
structure qS (hp:Nm->Option AO) (p:qC) (n:Nm) (m:qR) (dp:Nat):Prop where
 top:hp Xn=some (.row 13 [zp p n m dp])
 yn:hp (.c Xn 0 1)=some (.row 1 (ba lI p))
 cells:hp (.c Xn 0 2)=some (.row 3 (zA m.cells))
 zJ:hp (.c Xn 0 3)=some (.row 3 (zA m.globals))
 qH:hp (.c Xn 0 4)=some (.row 2 (ax m.qH))
 jA:hp (.c Xn 0 5)=some (.row 1 (wK m.qT))
 out:hp (.c Xn 0 9)=some (.row 1 (qj m.out))
 zo:hp (.c Xn 0 10)=some (.row 2 (yy m.trace))
 fr:eu hp p n m.qN
section
variable {hp hp':Nm->Option AO} {p:qC} {n n':Nm} {m m':qR} {dp dp':Nat} {l l':List qO}
theorem eu.re (h:eu hp p n l)
  (h0:∀ js,hp n=some (.row 7 (ji p n (l++js)))->hp' n=some (.row 7 (ji p n (l++js))):=by intro js hj;simp [hj])
  (h1:∀ (i:Nat) f,l[i]?=some f->hp (.c n i 3)=some (.row 3 (zA f.qq))->hp' (.c n i 3)=some (.row 3 (zA f.qq)):=by intro i f _ hf;simp [hf])
  (h2:∀ (i:Nat) f,l[i]?=some f->hp (.c n i 5)=some (.row 3 (zA f.names))->hp' (.c n i 5)=some (.row 3 (zA f.names)):=by intro i f _ hf;simp [hf])
  (h3:∀ (i:Nat) f j,l[i]?=some f->hp (.c n i 6)=some (.row 2 (zh (f.stack++j)))->hp' (.c n i 6)=some (.row 2 (zh (f.stack++j))):=by intro i f j _ hf;simp [hf]):eu hp' p n l:=by
 obtain⟨js,hj⟩:=h.top;exact⟨⟨js,h0 js hj⟩,λi f hf=>h1 i f hf (h.qq i f hf),λi f hf=>h2 i f hf (h.names i f hf),λi f hf=>by obtain⟨j,hj⟩:=h.stack i f hf;grind⟩
theorem qS.re (h:qS hp p n m dp)
  (h0:hp' Xn=some (.row 13 [zp p n' m' dp']):=by simp [h.top,zp])
  (h1:hp' (.c Xn 0 1)=some (.row 1 (ba lI p)):=by simp [h.yn])
  (h2:hp' (.c Xn 0 2)=some (.row 3 (zA m'.cells)):=by simp [h.cells])
  (h3:hp' (.c Xn 0 3)=some (.row 3 (zA m'.globals)):=by simp [h.zJ])
  (h4:hp' (.c Xn 0 4)=some (.row 2 (ax m'.qH)):=by simp [h.qH])
  (h5:hp' (.c Xn 0 5)=some (.row 1 (wK m'.qT)):=by simp [h.jA])
  (h6:hp' (.c Xn 0 9)=some (.row 1 (qj m'.out)):=by simp [h.out])
  (h7:hp' (.c Xn 0 10)=some (.row 2 (yy m'.trace)):=by simp [h.zo])
  (h8:eu hp' p n' m'.qN:=by exact h.fr.re):qS hp' p n' m' dp' :=
 ⟨h0,h1,h2,h3,h4,h5,h6,h7,h8⟩
theorem eu.qv (h:eu hp p n l) {f:Nm->Option Nm} (hf:∀ k,Nm.under n k=true->f k=some k) (hh:∀ k,Nm.under n k=true->hp' k=(hp k).map (AO.tr f)):eu hp' p n l:=by
 have hu:∀ i j,Nm.under n (.c n i j)=true:=λi j=>qB;refine⟨h.top.imp λjs hj=>?_,λi g hg=>?_,λi g hg=>?_,λi g hg=>(h.stack i g hg).imp λj hj=>?_⟩
 .simp_all
 .rw [hh _ (hu i 3),h.qq i g hg];simp
 .rw [hh _ (hu i 5),h.names i g hg];simp
 simp_all
theorem qS.qv (h:qS hp p n m dp) {f:Nm->Option Nm} (hn:Nm.under Xn n=true\/n=.u 2 0 0) (hf:∀ k,zd k=true->f k=some k) (hh:∀ k,zd k=true->hp' k=(hp k).map (AO.tr f)):qS hp' p n m dp:=by
 have hc:∀ j,zd (.c Xn 0 j)=true:=λj=>qB
 have hD:∀ k,Nm.under n k=true->zd k=true:=by
  grind[py,Nm.gH]
 have hnn:f n=some n:=hf _ (hD n (Nm.kj n));refine⟨?_,?_,?_,?_,?_,?_,?_,?_,h.fr.qv (λk hk=>hf k (hD k hk)) λk hk=>hh k (hD k hk)⟩
 .rw [hh _ qB,h.top]
  simp_all[zp]
 .rw [hh _ (hc 1),h.yn];simp
 .rw [hh _ (hc 2),h.cells];simp
 .rw [hh _ (hc 3),h.zJ];simp
 .rw [hh _ (hc 4),h.qH];simp
 .rw [hh _ (hc 5),h.jA];simp
 .rw [hh _ (hc 9),h.out];simp
 .rw [hh _ (hc 10),h.zo];simp
end
section
variable {p:qC} {m M:qR} {b d n i j N t:Nat} {fs:List qO} {f g:qO} {o:Int×Int} {v:qW} {k:qX} {x:Int}
structure bS (m m':qR):Prop where
 dp:m'.deep=max m.deep m'.qN.length
 gr:m'.qN.length<=m.qN.length\/(m'.en=m.en/\m'.qN≠[])
theorem bS.of (h:m.qN.length<=m.deep) (h1:M.qN.length<=m.qN.length) (h2:M.deep=m.deep):bS m M:=⟨qA,.inl h1⟩
theorem Zt (h:m.qN.length<=m.deep) (hl:fs.length+1=m.qN.length):bS m (m.top fs f):=.of h (by grind[qR.top]) rfl
theorem NB {s:qr} (h:m.qN.length<=m.deep) (hl:fs.length+1=m.qN.length):bS m (jr m fs f o s):=by
 grind[jr,bS.of,qR.top]
theorem Zs {cs:List Nat} {vs:List qW} (h:m.qN.length<=m.deep) (hl:fs.length+1=m.qN.length):bS m (jv p (m.top fs f) b cs vs):=by
 unfold jv
 split
 .constructor<;>grind[qR.top]
 constructor<;>grind[qR.top]
theorem NA (h:m.qN.length<=m.deep) (hl:fs.length+1=m.qN.length) (h1:M.deep=m.deep) (h2:M.qN=m.qN):bS m (yq M fs v):=by
 grind[yq,bS.of]
theorem NC (h:m.qN.length<=m.deep):bS m (kh p m):=by
 unfold kh
 split
 .rename_i f hf
  have hl:m.qN.dropLast.length+1=m.qN.length:=by
   grind
  have hT:∀ F:qO,bS m (m.top m.qN.dropLast F):=λF=>Zt h hl;have hS:∀ (F:qO) (E:Int),bS m (m.stop m.qN.dropLast F E):=λF E=>.of h (by grind[qR.stop,qR.top]) rfl
  split
  .rename_i o ho;unfold jp
   split
   .grind[wU,bS.of,qR.top]
   .split
    .split
     .grind[vj]
     .split
      .exact NB h hl
      grind[be,NB]
    grind[y3,dl,bS.of,qR.top,Zs,b9,cI,NA]
  grind[aC,NA]
 grind[bS.of]
def bD (p:qC):Nat->qR->Nat->Nat
 | 0,_,d=>d
 | i+1,m,d=>if m.ended then d else bD p i (kh p m) (max d m.qN.length)
theorem Kx (ht:∀ b,(qY p b).length<=t):∀ (i:Nat) {m:qR} {d:Nat},kQ p t m->m.deep=max d m.qN.length->(zS p i m).deep=max (bD p i m d) (zS p i m).qN.length
 | 0,m,d,_,hd=>hd
 | i+1,m,d,h,hd=>by
  rw [zS,bD]
  split
  .exact hd
  .exact Kx ht i (Ju ht h) (by grind[bS.dp,NC])
theorem GG:∀ (i:Nat) {m:qR},¬ (zS p i m).ended->zS p (i+1) m=kh p (zS p i m)
 := by intro x0;induction x0<;>grind[zS]
theorem Ky:∀ (i:Nat) {m:qR} {d:Nat},¬ (zS p i m).ended->bD p (i+1) m d=max (bD p i m d) (zS p i m).qN.length
 := by intro x0;induction x0<;>grind[zS,bD]
theorem UJ (ht:∀ b,(qY p b).length<=t) (h:kQ p t m) (hd:m.deep=max d m.qN.length) (hN:¬ (zS p N m).ended) (he:(zS p (N+1) m).ended):bD p (N+1) m d=(zS p (N+1) m).deep:=by
 have h1:=Kx ht (N+1) h hd;have h2:=Ky (d:=d) N hN;have hI:=Ev ht N h;have h3:=(NC (p:=p) hI.fr).gr
 grind[GG,qR.ended]
end
def qp (l:List AV) (off:Nat) (vals:List AV):List AV:=l.take off++vals++l.drop (off+vals.length)
section
variable {P X S vals l:List AV} {k off j i n z:Nat} {c c':Nat->List AV}
theorem Ze (h:off+vals.length<=l.length):(qp l off vals).length=l.length:=by grind[qp]
theorem tJ (hk:k+vals.length<=X.length):qp (P++(X++S)) (P.length+k) vals=P++(qp X k vals++S):=by
 unfold qp;rw [gW,th,gW,th,yG (Nat.le_add_right _ _)];have e1:P.length+k - P.length=k:=qA;have e2:P.length+k+vals.length - P.length=k+vals.length:=qA;have e3:k - X.length=0:=qA
 simp_all<;>omega
theorem Zc (hk:k+vals.length<=X.length):qp (X++S) k vals=qp X k vals++S:=by
 grind[qp]
theorem Zd (hk:k+vals.length<=X.length):qp (P++X) (P.length+k) vals=P++qp X k vals:=by
 have:=tJ (P:=P) (S:=[]) hk
 simp_all
theorem Rd (hk:k<X.length):(P++(X++S))[P.length+k]?=X[k]?:=by
 grind
theorem E3 (hk:k+n<=X.length):((P++(X++S)).drop (P.length+k)).take n=(X.drop k).take n:=by
 simp_all<;>grind
def yx (c:Nat->List AV) (n:Nat):List AV:=(List.range n).flatMap c
theorem oy:yx c (n+1)=yx c n++c n:=by simp [yx,oU]
theorem ml (hc:∀ i,(c i).length=z):(yx c n).length=z * n:=by
 induction n<;>grind[yx,oy]
theorem I6 (h:∀ i,i<n->c' i=c i):yx c' n=yx c n:=by
 induction n with
 | zero=>rfl
 | succ n ih=>grind[oy]
theorem Ia (hi:i<n):∃ S,yx c n=yx c i++(c i++S):=by
 induction n with
 | zero=>omega
 | succ n ih =>
  rw [oy];by_cases e:i=n
  .simp_all
  grind
theorem I8 (hc:∀ i,(c i).length=z) (hi:i<n) (hj:j<z):(yx c n)[z * i+j]?=(c i)[j]?:=by
 obtain⟨S,hS⟩:=Ia (c:=c) hi
 grind[ml]
theorem I7 (hc:∀ i,(c i).length=z) (hi:i<n) (hj:j+k<=z):((yx c n).drop (z * i+j)).take k=((c i).drop j).take k:=by
 obtain⟨S,hS⟩:=Ia (c:=c) hi
 grind[ml,E3]
theorem I9 (hc:∀ i,(c i).length=z) (hi:i<n) (hj:j+vals.length<=z) (h:∀ k,k≠i->c' k=c k) (hx:qp (c i) j vals=c' i):qp (yx c n) (z * i+j) vals=yx c' n:=by
 induction n with
 | zero=>omega
 | succ n ih =>
  rw [oy,oy];by_cases e:i=n
  .grind[ml,Zd,I6]
  .rw [Zc,ih qA,h n (λe'=>e e'.symm)];rw [ml hc];have:z * (i+1)<=z * n:=Nat.mul_le_mul_left z qA
   grind
theorem Bi {f:Nm->Option Nm} (h:∀ i,i<n->(c i).map (AV.tr f)=c' i):(yx c n).map (AV.tr f)=yx c' n:=by
 induction n with
 | zero=>rfl
 | succ n ih=>grind[oy]
end
def jn (l:List qr):List AV:=yx (λi=>jk (jW l i)) 8
section
variable {l:List qr} {i j:Nat} {s:qr} {f:Nm->Option Nm}
@[simp] theorem Qt:(jn l).length=24:=ml (z:=3) λ_=>Ab
@[simp] theorem Eg:(jn l).map (AV.tr f)=jn l:=Bi λ_ _=>ZP
theorem JU (hi:i<8) (hj:j<3):(jn l)[3 * i+j]?=(jk (jW l i))[j]?:=I8 (λ_=>Ab) hi hj
theorem Qr (hi:i<8):((jn l).drop (3 * i)).take 3=jk (jW l i):=by
 have:=I7 (c:=λi=>jk (jW l i)) (j:=0) (k:=3) (λ_=>Ab) hi qA
 grind[jn,Ab]
theorem JV (hl:l.length=8) (hi:i<8):qp (jn l) (3 * i) (jk s)=jn (l.set i s):=by
 have:=I9 (c:=λi=>jk (jW l i)) (c':=λk=>jk (jW (l.set i s) k)) (n:=8) (i:=i) (j:=0) (vals:=jk s) (z:=3) (λ_=>Ab) hi qB (λk hk=>by
  grind[ZM]) (by
  simp_all[jW,qp])
 grind[jn]
end
abbrev Yn:Nm:=.u 1 0 0
def yA (p:qC) (m:qR):List AV:=[uw (jb p p.length),.hs (.c Yn 0 1) 1 0 p.length,iv m.left,iv m.en,.hs (.c Yn 0 4) 1 0 m.out.length,.hs (.c Yn 0 5) 2 0 m.trace.length]
def yB (m:qR):List AV:=[.hs (.c Yn 0 30) 2 0 m.qH.length,.hs (.c Yn 0 31) 24 0 m.qT.length]
def yZ (m:qR) (h:Nat):List AV:=[iv h,iv m.deep,iv m.made,iv m.cells.length]
def qg (p:qC) (m:qR) (h:Nat) (c:Nat->List AV):List AV:=yA p m++(jn m.globals++(yB m++(yx c 151++yZ m h)))
def y4 (i:Nat) (f:qO):List AV:=[iv f.qG,iv f.pc,.hs (.c Yn 0 (32+29 * i+2)) 3 0 f.qq.length,.hs (.c Yn 0 (32+29 * i+3)) 1 0 f.cells.length]++(jn f.names++[.hs (.c Yn 0 (32+29 * i+28)) 2 0 f.stack.length])
def yc (fs:List qO) (J:Nat->List AV) (i:Nat):List AV:=match fs[i]? with|some f=>y4 i f|none=>J i
section
variable {p:qC} {m:qR} {h h' i j k x:Nat} {c c' J:Nat->List AV} {fs:List qO} {f g:qO} {s:qr} {vals:List AV} {e:Int} {r:Nm->Option Nm}
@[simp] theorem yfr_len:(y4 i f).length=29:=by simp [y4]
theorem aO (hJ:∀ i,(J i).length=29) (i:Nat):(yc fs J i).length=29:=by
 unfold yc
 split<;>simp_all
theorem oA (hc:∀ i,(c i).length=29):(qg p m h c).length=4415:=by simp [qg,yA,yB,yZ,ml hc]
@[simp] theorem No:(qg p m h c)[0]?=some (uw (jb p p.length)):=rfl
@[simp] theorem qBi:(qg p m h c)[1]?=some (.hs (.c Yn 0 1) 1 0 p.length):=rfl
@[simp] theorem qBj:(qg p m h c)[2]?=some (iv m.left):=rfl
@[simp] theorem qBk:(qg p m h c)[3]?=some (iv m.en):=rfl
@[simp] theorem qBn:(qg p m h c)[4]?=some (.hs (.c Yn 0 4) 1 0 m.out.length):=rfl
@[simp] theorem qBo:(qg p m h c)[5]?=some (.hs (.c Yn 0 5) 2 0 m.trace.length):=rfl
theorem oB {P X S:List AV} {q:Nat} (hq:q=P.length+k) (hk:k<X.length) (hR:qg p m h c=P++(X++S)):(qg p m h c)[q]?=X[k]?:=qw
theorem qBf {P X S:List AV} {q n:Nat} (hq:q=P.length+k) (hk:k+n<=X.length) (hR:qg p m h c=P++(X++S)):((qg p m h c).drop q).take n=(X.drop k).take n:=by grind[E3]
theorem oC {P X S:List AV} {q:Nat} (hq:q=P.length+k) (hk:k+vals.length<=X.length) (hR:qg p m h c=P++(X++S)):qp (qg p m h c) q vals=P++(qp X k vals++S):=by grind[tJ]
theorem Nn:qg p m h c=yA p m++(jn m.globals++(yB m++(yx c 151++yZ m h))):=rfl
theorem nz:qg p m h c=(yA p m++jn m.globals)++(yB m++(yx c 151++yZ m h)):=by simp [qg]
theorem DB:qg p m h c=(yA p m++(jn m.globals++yB m))++(yx c 151++yZ m h):=by simp [qg]
theorem ej:qg p m h c=(yA p m++(jn m.globals++(yB m++yx c 151)))++(yZ m h++[]):=by simp [qg]
theorem KY:(yA p m).length=6:=rfl
theorem CK:(yA p m++jn m.globals).length=30:=by simp [yA]
theorem FG:(yA p m++(jn m.globals++yB m)).length=32:=by simp [yA,yB]
theorem TK (hc:∀ i,(c i).length=29):(yA p m++(jn m.globals++(yB m++yx c 151))).length=4411:=by simp [yA,yB,ml hc]
@[simp] theorem qBl:(qg p m h c)[30]?=some (.hs (.c Yn 0 30) 2 0 m.qH.length):=by rw [oB (k:=0) (by rw [CK]) (by simp [yB]) nz];rfl
@[simp] theorem qBm:(qg p m h c)[31]?=some (.hs (.c Yn 0 31) 24 0 m.qT.length):=by rw [oB (k:=1) (by rw [CK]) (by simp [yB]) nz];rfl
theorem DC (hc:∀ i,(c i).length=29):(qg p m h c)[4411]?=some (iv h):=by rw [oB (k:=0) mc mU ej];rfl
theorem Np (hc:∀ i,(c i).length=29):(qg p m h c)[4412]?=some (iv m.deep):=by rw [oB (k:=1) mc mU ej];rfl
theorem Nq (hc:∀ i,(c i).length=29):(qg p m h c)[4413]?=some (iv m.made):=by rw [oB (k:=2) mc mU ej];rfl
theorem Nr (hc:∀ i,(c i).length=29):(qg p m h c)[4414]?=some (iv m.cells.length):=by rw [oB (k:=3) mc mU ej];rfl
theorem qBp (hx:x<8) (hj:j<3):(qg p m h c)[6+(3 * x+j)]?=(jk (jW m.globals x))[j]?:=by
 rw [oB (k:=3 * x+j) (by rw [KY]) qu Nn];exact JU hx hj
theorem qBg (hc:∀ i,(c i).length=29) (hi:i<151) (hj:j<29):(qg p m h c)[32+(29 * i+j)]?=(c i)[j]?:=by
 rw [oB (k:=29 * i+j) (by rw [FG]) EU DB]
 simp_all[I8]
theorem qBh (hc:∀ i,(c i).length=29) (hi:i<151) (hj:j+k<=29):((qg p m h c).drop (32+(29 * i+j))).take k=((c i).drop j).take k:=by
 rw [qBf (k:=29 * i+j) (n:=k) (by rw [FG]) EU DB]
 simp_all[I7]
theorem qBu:qp (qg p m h c) 2 [iv x]=qg p { m with left:=x } h c:=rfl
theorem qBv:qp (qg p m h c) 3 [iv e]=qg p { m with en:=e } h c:=rfl
theorem qBy {o:List Int}:qp (qg p m h c) 4 [.hs (.c Yn 0 4) 1 0 o.length]=qg p { m with out:=o } h c:=rfl
theorem qBz {o:List (Nat×Nat)}:qp (qg p m h c) 5 [.hs (.c Yn 0 5) 2 0 o.length]=qg p { m with trace:=o } h c:=rfl
theorem qBw {o:List (Nat×List Nat)}:qp (qg p m h c) 30 [.hs (.c Yn 0 30) 2 0 o.length]=qg p { m with qH:=o } h c:=by
 rw [oC (k:=0) (by rw [CK]) (by simp [yB]) nz,nz]
 rfl
theorem qBx {o:List (List qr)}:qp (qg p m h c) 31 [.hs (.c Yn 0 31) 24 0 o.length]=qg p { m with qT:=o } h c:=by
 rw [oC (k:=1) (by rw [CK]) (by simp [yB]) nz,nz]
 rfl
theorem Nt (hc:∀ i,(c i).length=29):qp (qg p m h c) 4411 [iv h']=qg p m h' c:=by
 rw [oC (k:=0) mc mU ej,ej]
 rfl
theorem qCB (hc:∀ i,(c i).length=29):qp (qg p m h c) 4412 [iv x]=qg p { m with deep:=x } h c:=by
 rw [oC (k:=1) mc mU ej,ej]
 rfl
theorem qCD (hc:∀ i,(c i).length=29):qp (qg p m h c) 4413 [iv x]=qg p { m with made:=x } h c:=by
 rw [oC (k:=2) mc mU ej,ej]
 rfl
theorem qCA (hc:∀ i,(c i).length=29) {o:List qr}:qp (qg p m h c) 4414 [iv o.length]=qg p { m with cells:=o } h c:=by
 rw [oC (k:=3) mc mU ej,ej]
 rfl
theorem qCC (hl:m.globals.length=8) (hx:x<8):qp (qg p m h c) (6+3 * x) (jk s)=qg p { m with globals:=m.globals.set x s } h c:=by
 rw [oC (k:=3 * x) (by rw [KY]) qu Nn,JV hl hx]
 rfl
theorem DD (hc:∀ i,(c i).length=29) (hi:i<151) (hj:j+vals.length<=29) (hk:∀ k,k≠i->c' k=c k) (hx:qp (c i) j vals=c' i):qp (qg p m h c) (32+(29 * i+j)) vals=qg p m h c':=by
 rw [oC (k:=29 * i+j) (by rw [FG]) EU DB,I9 hc hi hj hk hx,DB]
theorem qCF (hi:i<fs.length) (hk:k≠i):yc (fs.set i g) J k=yc fs J k:=by
 grind[yc]
theorem tT (hi:fs[i]?=some f):yc fs J i=y4 i f:=by simp [yc,hi]
theorem DE (hJ:∀ i,(J i).length=29) (hf:fs[i]?=some f) (hi:i<151) (hj:j+vals.length<=29) (hx:qp (y4 i f) j vals=y4 i g):qp (qg p m h (yc fs J)) (32+(29 * i+j)) vals=qg p m h (yc (fs.set i g) J):=by
 grind[DD,aO,qCF,tT]
end
def uV (l:List (Nat×List Nat)):List (List AV):=l.map λg=>[iv g.1,.sl 1 (za g.2)]
def kv (l:List (List qr)):List (List AV):=l.map jn
def uc (p:qC) (n:Nat):List (List AV):=(List.range n).map λb=>[jG (zw p b)]
section
variable {l:List (Nat×List Nat)} {cs:List (List qr)} {i n:Nat} {r:Nm->Option Nm} {g:Nat×List Nat} {c:List qr} {p:qC}
@[simp] theorem fyRows_len:(uV l).length=l.length:=by simp [uV]
@[simp] theorem fyRows_getE {h:i<(uV l).length}:(uV l)[i]=[iv (l[i]' lA).1,.sl 1 (za (l[i]' lA).2)]:=by simp [uV]
@[simp] theorem R7 (h:∀ i,r (En i)=some (En i)):(uV l).map (λy=>y.map (AV.tr r))=uV l:=by
 simp only [uV,gU];apply mH;intro g _;have:(za g.2).map (λy=>y.map (AV.tr r))=za g.2:=sN h;simp [AV.tr,tO,this]
@[simp] theorem fyRows_take {k:Nat}:(uV l).take k=uV (l.take k):=by simp [uV]
theorem R6:uV l++[[iv g.1,.sl 1 (za g.2)]]=uV (l++[g]):=by simp [uV]
@[simp] theorem fyRows_nil:uV []=[]:=rfl
@[simp] theorem cyRows_len:(kv cs).length=cs.length:=xG
@[simp] theorem cyRows_getE {h:i<(kv cs).length}:(kv cs)[i]=jn (cs[i]' lA):=xG
@[simp] theorem cyRows_tr:(kv cs).map (λy=>y.map (AV.tr r))=kv cs:=xG
@[simp] theorem cyRows_take {k:Nat}:(kv cs).take k=kv (cs.take k):=xG
theorem QO:kv cs++[jn c]=kv (cs++[c]):=xG
@[simp] theorem cyRows_nil:kv []=[]:=rfl
@[simp] theorem cpRows_len:(uc p n).length=n:=by simp [uc]
@[simp] theorem cpRows_getE {h:i<(uc p n).length}:(uc p n)[i]=[jG (zw p i)]:=by simp [uc]
@[simp] theorem cpRows_tr:(uc p n).map (λy=>y.map (AV.tr r))=uc p n:=by simp [uc]
theorem QM:uc p n++[[jG (zw p n)]]=uc p (n+1):=by simp [uc,oU]
@[simp] theorem cpRows_zero:uc p 0=[]:=rfl
end
section
variable {i n k:Nat} {f:qO} {r:Nm->Option Nm} {p:qC} {m:qR} {h:Nat} {c:Nat->List AV}
theorem qCN:qp (y4 i f) 1 [iv n]=y4 i { f with pc:=n }:=rfl
theorem qCO {l:List qW}:qp (y4 i f) 28 [.hs (.c Yn 0 (32+29 * i+28)) 2 0 l.length]=y4 i { f with stack:=l }:=by
 have h1:(y4 i f).take 28=[iv f.qG,iv f.pc,.hs (.c Yn 0 (32+29 * i+2)) 3 0 f.qq.length,.hs (.c Yn 0 (32+29 * i+3)) 1 0 f.cells.length]++jn f.names:=by
  grind[y4,Qt]
 simp_all[y4,qp]
theorem qCM {x:Nat} {s:qr} (hl:f.names.length=8) (hx:x<8):qp (y4 i f) (4+3 * x) (jk s)=y4 i { f with names:=f.names.set x s }:=by
 have h4:∀ a b d e:AV,[a,b,d,e].length=4:=λ_ _ _ _=>rfl;have:=tJ (P:=[iv f.qG,iv f.pc,.hs (.c Yn 0 (32+29 * i+2)) 3 0 f.qq.length,.hs (.c Yn 0 (32+29 * i+3)) 1 0 f.cells.length]) (X:=jn f.names) (S:=[.hs (.c Yn 0 (32+29 * i+28)) 2 0 f.stack.length]) (k:=3 * x) (vals:=jk s) qu;rw [h4,JV hl hx] at this;exact this
@[simp] theorem yfr_get0:(y4 i f)[0]?=some (iv f.qG):=rfl
@[simp] theorem yfr_get1:(y4 i f)[1]?=some (iv f.pc):=rfl
@[simp] theorem yfr_get2:(y4 i f)[2]?=some (.hs (.c Yn 0 (32+29 * i+2)) 3 0 f.qq.length):=rfl
@[simp] theorem yfr_get3:(y4 i f)[3]?=some (.hs (.c Yn 0 (32+29 * i+3)) 1 0 f.cells.length):=rfl
@[simp] theorem qCK:(y4 i f)[28]?=some (.hs (.c Yn 0 (32+29 * i+28)) 2 0 f.stack.length):=by
 simp_all[y4]
theorem qCL {x j:Nat} (hx:x<8) (hj:j<3):(y4 i f)[4+(3 * x+j)]?=(jk (jW f.names x))[j]?:=by
 have:=Rd (P:=[iv f.qG,iv f.pc,.hs (.c Yn 0 (32+29 * i+2)) 3 0 f.qq.length,.hs (.c Yn 0 (32+29 * i+3)) 1 0 f.cells.length]) (X:=jn f.names) (S:=[.hs (.c Yn 0 (32+29 * i+28)) 2 0 f.stack.length]) (k:=3 * x+j) qu;rw [JU hx hj] at this;exact this
theorem qCP:((y4 i f).drop 4).take 24=jn f.names:=by
 have:=E3 (P:=[iv f.qG,iv f.pc,.hs (.c Yn 0 (32+29 * i+2)) 3 0 f.qq.length,.hs (.c Yn 0 (32+29 * i+3)) 1 0 f.cells.length]) (X:=jn f.names) (S:=[.hs (.c Yn 0 (32+29 * i+28)) 2 0 f.stack.length]) (k:=0) (n:=24) qB;rw [List.drop_zero] at this;exact this.trans (yG qB)
theorem qCJ (hr:∀ j,r (.c Yn 0 j)=some (.c Yn 0 j)):(y4 i f).map (AV.tr r)=y4 i f:=by simp [y4,hr]
end
structure qD (hp:Nm->Option AO) (p:qC) (m:qR):Prop where
 top:∃ J:Nat->List AV,(∀ i,(J i).length=29)/\hp Yn=some (.row 4415 [qg p m m.qN.length (yc m.qN J)])
 yn:hp (.c Yn 0 1)=some (.row 1 (uc p p.length))
 out:hp (.c Yn 0 4)=some (.row 1 (qj m.out))
 zo:hp (.c Yn 0 5)=some (.row 2 (yy m.trace))
 qH:hp (.c Yn 0 30)=some (.row 2 (uV m.qH))
 jA:hp (.c Yn 0 31)=some (.row 24 (kv m.qT))
 qq:∀ (i:Nat) f,m.qN[i]?=some f->hp (.c Yn 0 (32+29 * i+2))=some (.row 3 (zA f.qq))
 cls:∀ (i:Nat) f,m.qN[i]?=some f->hp (.c Yn 0 (32+29 * i+3))=some (.row 1 (za f.cells))
 stack:∀ (i:Nat) f,m.qN[i]?=some f->∃ j,hp (.c Yn 0 (32+29 * i+28))=some (.row 2 (zh (f.stack++j)))
 cell:∀ (c:Nat) s,m.cells[c]?=some s->hp (En c)=some (.row 3 [jk s])
 only:∀ k i j,fM k=true->hp (.u k i j)≠none->(k=1/\i=0/\j=0)\/(k=7/\i<m.cells.length/\j=0)
section
variable {hp hp' H:Nm->Option AO} {p:qC} {m m' m0:qR}
theorem qD.re (h:qD hp p m)
  (h0:∀ J:Nat->List AV,(∀ i,(J i).length=29)->hp Yn=some (.row 4415 [qg p m m.qN.length (yc m.qN J)])->hp' Yn=some (.row 4415 [qg p m m.qN.length (yc m.qN J)]):=by intro J _ hJ;simp [hJ])
  (h1:hp' (.c Yn 0 1)=some (.row 1 (uc p p.length)):=by simp [h.yn])
  (h2:hp' (.c Yn 0 4)=some (.row 1 (qj m.out)):=by simp [h.out])
  (h3:hp' (.c Yn 0 5)=some (.row 2 (yy m.trace)):=by simp [h.zo])
  (h4:hp' (.c Yn 0 30)=some (.row 2 (uV m.qH)):=by simp [h.qH])
  (h5:hp' (.c Yn 0 31)=some (.row 24 (kv m.qT)):=by simp [h.jA])
  (h6:∀ (i:Nat) f,m.qN[i]?=some f->hp (.c Yn 0 (32+29 * i+2))=some (.row 3 (zA f.qq))->hp' (.c Yn 0 (32+29 * i+2))=some (.row 3 (zA f.qq)):=by intro i f _ hf;simp [hf])
  (h7:∀ (i:Nat) f,m.qN[i]?=some f->hp (.c Yn 0 (32+29 * i+3))=some (.row 1 (za f.cells))->hp' (.c Yn 0 (32+29 * i+3))=some (.row 1 (za f.cells)):=by intro i f _ hf;simp [hf])
  (h8:∀ (i:Nat) f j,m.qN[i]?=some f->hp (.c Yn 0 (32+29 * i+28))=some (.row 2 (zh (f.stack++j)))->hp' (.c Yn 0 (32+29 * i+28))=some (.row 2 (zh (f.stack++j))):=by intro i f j _ hf;simp [hf])
  (h9:∀ (c:Nat) s,m.cells[c]?=some s->hp' (En c)=some (.row 3 [jk s]):=by intro c s hc;simp [h.cell c s hc])
  (hA:∀ k i j,fM k=true->¬ (k=1/\i=0/\j=0)->hp' (.u k i j)≠none->hp (.u k i j)≠none:=by intro k i j hk e hn;simpa [hk,e] using hn):qD hp' p m :=
 ⟨by grind[top],h1,h2,h3,h4,h5,λi f hf=>h6 i f hf (h.qq i f hf),λi f hf=>h7 i f hf (h.cls i f hf),λi f hf=>(h.stack i f hf).imp λj hj=>h8 i f j hf hj,h9,
   λk i j hk hn=>if e:k=1/\i=0/\j=0 then .inl e else h.only k i j hk (hA k i j hk e hn)⟩
theorem qD.qv (h:qD hp p m) {f:Nm->Option Nm} (hf:∀ k,DM k=true->f k=some k) (hh:∀ k,DM k=true->hp' k=(hp k).map (AO.tr f)):qD hp' p m:=by
 have hE:∀ i,f (En i)=some (En i):=λi=>hf _ rfl;have hc:∀ j,f (.c Yn 0 j)=some (.c Yn 0 j):=λj=>hf _ rfl;refine⟨?_,?_,?_,?_,?_,?_,λi g hg=>?_,λi g hg=>?_,λi g hg=>(h.stack i g hg).imp λj hj=>?_,λc s hs=>?_,λk i j hk hn=>?_⟩
 .obtain⟨J,hJ,e⟩:=h.top;refine⟨λi=>(J i).map (AV.tr f),λi=>fV,?_⟩;rw [hh _ rfl,e]
  have h1:(yx (yc m.qN J) 151).map (AV.tr f)=yx (yc m.qN λi=>(J i).map (AV.tr f)) 151:=Bi λi _=>by
   unfold yc
   split<;>grind[qCJ]
  simp_all[qg,yA,yB,yZ]
 .rw [hh _ rfl,h.yn];simp
 .rw [hh _ rfl,h.out];simp
 .rw [hh _ rfl,h.zo];simp
 .rw [hh _ rfl,h.qH]
  simp_all
 .rw [hh _ rfl,h.jA];simp
 .rw [hh _ rfl,h.qq i g hg];simp
 .rw [hh _ rfl,h.cls i g hg]
  simp_all
 .rw [hh _ rfl,hj];simp
 .rw [hh _ rfl,h.cell c s hs];simp
 .refine h.only k i j hk λe=>hn ?_
  simp_all
theorem qD.sub (h:qD hp p m) {D:Nm->Bool} (hD:∀ k,DM k=true->D k=true:=by intro m hm;first|exact hm|simp [hm]):qD (z6 D hp) p m:=by
 refine h.qv (f:=some) (λ_ _=>rfl) (λk hk=>?_);rw [xf,if_pos (hD k hk)]
 cases hp k<;>grind[AO.vv]
theorem qD.ext (h0:qD H p m0) (h:qD hp p m) (hc:m0.cells.length<=m.cells.length):∀ k i j,(H (.u k i j)).isSome=true->DM (.u k i j)=false\/(z6 DM hp) (.u k i j)≠none:=by
 intro k i j hs
 cases hD:fM k with
 | false=>simp_all
 | true =>
  right;have hd:DM (.u k i j)=true:=hD;rw [xf,if_pos hd];rcases h0.only k i j hD qw with⟨rfl,rfl,rfl⟩|⟨rfl,hi,rfl⟩
  .grind[top]
  .have hi':i<m.cells.length:=qA;rw [h.cell i _ (gE hi')];simp
end
section
variable {hp:Nm->Option AO} {p:qC} {m:qR} {n:Nm} {dp:Nat} {D:Nm->Bool} {sbs:List (Nm×Nm)}
theorem qD.fin (h:qD hp p m) (hD:∀ k,D k=true->k.zg=false:=by exact λ_=>zC) (hW:∀ k,DM k=true->D k=true:=by exact λ_ h=>h) (hs:∀ q∈sbs,q.1.zg=true:=by simp [Nm.zg]):qD (vF D sbs hp) p m :=
 h.qv (f:=zL D sbs) (λk hk=>lK hD (hW k hk) hs) (λk hk=>qP)
theorem qS.fin (h:qS hp p n m dp) (hn:Nm.under Xn n=true\/n=.u 2 0 0) (hD:∀ k,D k=true->k.zg=false:=by exact λ_=>vK) (hW:∀ k,zd k=true->D k=true:=by exact λ_ h=>h) (hs:∀ q∈sbs,q.1.zg=true:=by simp [Nm.zg]):qS (vF D sbs hp) p n m dp :=
 h.qv hn (f:=zL D sbs) (λk hk=>lK hD (hW k hk) hs) (λk hk=>qP)
end
abbrev qU:=List UInt8
def dg (n:Nat):UInt8:=UInt8.ofNat (48+n)
def yr (n:Nat):qU:=if n<10 then [dg n] else yr (n / 10)++[dg (n % 10)]
def ug (n:Int):qU:=if n<0 then 45::yr n.natAbs else yr n.natAbs
theorem gp {n:Nat} (h:n<10):(dg n).toNat=48+n:=by
 grind[dg,UInt8.toNat_ofNat']
theorem LC {n:Nat} (h:n<10):yr n=[dg n]:=by grind[yr]
theorem FV {n:Nat} (h:10<=n) (h':n<100):yr n=[dg (n / 10),dg (n % 10)]:=by
 grind[yr]
theorem LB:∀ (n:Nat),∀ c∈yr n,48<=c.toNat/\c.toNat<=57
 | n=>by
  intro c hc;rw [yr] at hc
  split at hc
  .grind[gp]
  .rw [y9,vD] at hc;rcases hc with hc|rfl
   .exact LB (n / 10) c hc
   grind[gp]
def zM (c:UInt8):qU->List qU
 | []=>[[]]
 | x::l=>if x=c then []::zM c l else match zM c l with
  | w::ws=>(x::w)::ws
  | []=>[[x]]
section
variable {c:UInt8} {l m w:qU} {ls ws:List qU}
theorem eb:zM c l≠[]:=by
 cases l<;>grind[zM]
theorem Ag (h:c∉l):zM c l=[l]:=by
 induction l<;>grind[zM]
theorem G1 (h:c∉l):zM c (l++c::m)=l::zM c m:=by
 induction l<;>grind[zM]
def bB (c:UInt8):List qU->qU
 | []=>[]
 | [w]=>w
 | w::w'::ws=>w++c::bB c (w'::ws)
theorem Bz:∀ {l:qU},bB c (zM c l)=l
 | []=>rfl
 | x::l=>by
  have ih:=Bz (l:=l);rw [zM]
  split
  .rename_i h
   cases e:zM c l<;>grind[eb,bB]
  .cases e:zM c l with
   | nil=>grind[eb]
   | cons w ws =>
    rw [e] at ih
    cases ws<;>grind[bB]
def kI (c:UInt8) (ls:List qU):qU:=ls.flatMap (·++[c])
theorem K4:kI c (w::ls)=w++c::kI c ls:=xT
theorem TS:kI c ls=bB c (ls++[[]]):=by
 induction ls with
 | nil=>rfl
 | cons w ls ih =>
  rw [K4,ih]
  cases ls with
  | nil=>rfl
  | cons v vs=>rfl
theorem TU (h:(zM c l).getLast?=some []):l=kI c (zM c l).dropLast:=by
 grind[TS,Ay,Bz]
end
def gu (c:UInt8):Bool:=decide (48<=c.toNat)&&decide (c.toNat<=57)
def zq:qU->Option Nat
 | [a]=>if gu a=true then some (a.toNat - 48) else none
 | [a,b]=>if gu a=true/\gu b=true/\a≠48 then some (10 * (a.toNat - 48)+(b.toNat - 48)) else none
 | _=>none
theorem Jv {n:Nat} (h:n<10):gu (dg n)=true:=by
 grind[gu,gp]
theorem Ea {c:UInt8} (h:gu c=true):c=dg (c.toNat - 48):=by
 grind[gu,UInt8.toNat_inj,gp]
theorem ZY {n:Nat} (h:n<=99):zq (yr n)=some n:=by
 by_cases h1:n<10
 .grind[zq,Jv,gp,yr]
 .have h2:n / 10<10:=qA;have h3:n % 10<10:=qA;rw [FV qA qA]
  have h4:dg (n / 10)≠48:=by
   intro e;have:=congrArg UInt8.toNat e
   grind[gp]
  grind[zq,Jv,gp]
theorem FW {s:qU} {n:Nat} (h:zq s=some n):n<=99/\s=yr n:=by
 unfold zq at h
 split at h
 .grind[Ea,gu,yr]
 .rename_i a b
  split at h
  .rename_i hab;obtain⟨ha,hb,h0⟩:=hab;have hda:=Ea ha;have hdb:=Ea hb;simp only [gu,ju,decide_eq_true_eq] at ha hb;have hn:a.toNat≠48:=λe=>h0 (UInt8.toNat_inj.1 (by rw [e];rfl))
   grind[FV]
  .cases h
 .cases h
theorem Cf {s:qU} {n:Nat}:zq s=some n↔n<=99/\s=yr n:=⟨FW,λ⟨h,e⟩=>e ▸ ZY h⟩
def bu:qU:=[105,110]
def bK:qU:=[102,117,110]
def dB:qU:=[99,108,97,115,115]
def vH:List qU:=[[110,117,109],[99,111,112,121],[97,100,100],[100,101,102],dB,[99,97,108,108],[103,101,116],[112,114,105,110,116],[114,101,116,117,114,110],[103,108,111,98,97,108],[110,111,110,108,111,99,97,108],[100,101,108]]
def CR (s:q8):List Int :=
 if s.kind=0\/s.kind=1\/s.kind=3\/s.kind=4 then [s.to,s.a]
 else if s.kind=2\/s.kind=6 then [s.to,s.a,s.b]
 else if s.kind=5 then (if s.b=-1 then [s.to,s.a] else [s.to,s.a,s.b])
 else if s.kind=7\/s.kind=8 then [s.a] else [s.to]
def gJ (w:qU) (ns:List Int):qU:=w++ns.flatMap λn=>32::ug n
def tF (s:q8):qU:=gJ (vH.getD s.kind.toNat []) (CR s)
def ng (k:qX):qU:=if k.kind=2 then gJ bu [k.parent]++32::dB else gJ (gJ bu [k.parent]++32::bK) k.params
def BC (b:Nat) (k:qX):List qU:=(if b=0 then [] else [ng k])++k.body.map tF
def pH (p:qC):List qU:=(p.mapIdx BC).flatten
def JW (p:qC):qU:=kI 10 (pH p)
def vA (ws:List qU):Option (List Nat):=ws.mapM zq
def wO (w:qU):Option Nat:=vH.findIdx? (·==w)
def ac (kind:Nat) (ns:List Nat):Option q8 :=
 match ns with
 | [x]=>if kind=7\/kind=8 then some ⟨kind,0,x,0⟩ else if 9<=kind then some ⟨kind,x,0,0⟩ else none
 | [x,y]=>if kind<7/\kind≠2/\kind≠6 then some ⟨kind,x,y,if kind=5 then -1 else 0⟩ else none
 | [x,y,z]=>if kind=2\/kind=6\/kind=5 then some ⟨kind,x,y,z⟩ else none
 | _=>none
def df (line:qU):Option q8:=match zM 32 line with
 | w::ws=>match wO w,vA ws with
  | some k,some ns=>ac k ns
  | _,_=>none
 | []=>none
def bq (line:qU):Option qX:=match zM 32 line with
 | i::n::f::ws=>if i=bu then match zq n with
   | some q=>if f=dB/\ws=[] then some ⟨2,q,[],[]⟩ else if f=bK then (vA ws).map λns=>⟨1,q,ns.map λ(n:Nat)=>(n:Int),[]⟩ else none
   | none=>none
  else none
 | _=>none
def iK (p:qC) (s:q8):qC:=p.modify (p.length - 1) λk=>{ k with body:=k.body++[s] }
def wX (p:qC) (line:qU):Option qC:=match bq line with
 | some k=>some (p++[k])
 | none=>(df line).map (iK p)
def uL (ls:List qU) (p:qC):Option qC:=match ls with
 | []=>some p
 | l::ls=>match wX p l with
  | some q=>uL ls q
  | none=>none
def uN:qC:=[⟨0,-1,[],[]⟩]
def vn (s:qU):Option qC:=match uL (zM 10 s).dropLast uN with
 | some p=>if (zM 10 s).getLast?=some []/\jq p=true then some p else none
 | none=>none
section
variable {s:q8} {k:qX} {p q:qC} {l w:qU} {ns:List Int} {ks:List Nat} {ls ws:List qU} {i n:Nat}
theorem AJ:ug (n:Int)=yr n:=by
 grind[ug]
theorem Gp (w:qU) (ns:List Int):gJ w ns=bB 32 (w::ns.map ug):=by
 unfold gJ
 induction ns generalizing w<;>grind[bB]
theorem Ey (h:ls≠[]):bB 32 (ls++[w])=bB 32 ls++32::w:=by
 induction ls with
 | nil=>simp_all
 | cons v vs ih =>
  cases vs<;>grind[bB]
theorem S5 (h:ls≠[]):gJ (bB 32 ls) ns=bB 32 (ls++ns.map ug):=by
 induction ns generalizing ls with
 | nil=>simp [gJ]
 | cons n ns ih =>
  have:=ih (ls:=ls++[ug n]) qB
  grind[Ey,gJ]
theorem Mh:ng k=bB 32 (bu::ug k.parent::(if k.kind=2 then [dB] else bK::k.params.map ug)):=by
 unfold ng
 split
 .rename_i h;rw [Gp,<- Ey qB]
  rfl
 .rename_i h
  have e:gJ bu [k.parent]++32::bK=bB 32 [bu,ug k.parent,bK]:=by
   rw [Gp,<- Ey qB]
   rfl
  grind[S5]
def ta (ns:List Int):Prop:=∀ n∈ns,0<=n/\n<=99
theorem FK (h:vA ws=some ks):ws=(ks.map λ(n:Nat)=>(n:Int)).map ug/\ta (ks.map λ(n:Nat)=>(n:Int)):=by
 unfold vA at h
 induction ws generalizing ks with
 | nil =>
  grind[ta]
 | cons w ws ih =>
  simp only [List.mapM_cons] at h
  cases h1:zq w with
  | none=>simp_all
  | some n =>
   cases h2:ws.mapM zq with
   | none=>simp_all
   | some ms =>
    rw [h1,h2] at h;obtain rfl:=sI h;obtain⟨e1,e2⟩:=FW h1;obtain⟨f1,f2⟩:=ih h2;refine⟨?_,?_⟩
    .grind[AJ]
    .intro x hx;simp only [al,vQ] at hx;rcases hx with rfl|hx
     .omega
     .exact f2 x hx
theorem Sc:∀ i,i<12->wO (vH.getD i [])=some i:=qe
theorem KE {w:qU} (h:wO w=some i):i<12/\w=vH.getD i []:=by
 unfold wO at h;obtain⟨h1,h2,_⟩:=rH.1 h;refine⟨h1,?_⟩
 simp_all
structure H5 (s:q8):Prop where
 kind:0<=s.kind/\s.kind<=11
 nums:ta (CR s)
 to:s.kind=7\/s.kind=8->s.to=0/\s.b=0
 b:s.kind=0\/s.kind=1\/s.kind=3\/s.kind=4->s.b=0
 a:9<=s.kind->s.a=0/\s.b=0
end
end Go.Hm
end
