import Derived.Test.YtjgpejikjhojcaaGreatDoorD13
set_option linter.all false
set_option maxRecDepth 100000
set_option maxHeartbeats 4000000
open Option renaming some->Z,none->Y
open Bool renaming true->B,false->M
open List renaming length->O

section
namespace Go.Hm
open Go Go.RowKit
section
variable{p:qC}{m:qR}{b d n i j N M' t:Nat}{fs:List qO}{f g:qO}{o:Int×Int}{v:q8}{k:qY}{x:Int}
structure kn(p:qC)(t:Nat)(m:qR):Prop where
 fr:O m.qN<=m.deep
 dm:m.deep<=m.made
 d1:1<=m.deep
 cells:O m.cells<=t*(m.made-1)
theorem kn.of{m':qR}(h:kn p t m)(h1:O m'.qN<=O m.qN)(h2:m'.deep=m.deep)(h3:m'.made=m.made)(h4:O m'.cells=O m.cells):kn p t m':=
 ⟨by grind[fr],by grind[dm],by grind[d1],by rw[h4,h3];exact h.cells⟩
theorem Ui(h:kn p t m)(hl:O fs+1=O m.qN):kn p t (m.top fs f):=h.of (by grind[qR.top]) rfl rfl rfl
theorem Lw{s:qr}(h:kn p t m)(hl:O fs+1=O m.qN):kn p t (yE m fs f o s):=by
 unfold yE
 repeat' split
 all_goals exact h.of (by grind[qR.top]) rfl rfl dY
theorem Lv{cs:List Nat}{vs:List q8}(ht:∀b,O (qa p b)<=t)(h:kn p t m):kn p t (yG p m b cs vs):=by
 have hb:=ht b;have h1:=h.fr;have h2:=h.dm;have h3:=h.d1;have h4:=h.cells
 have key:∀{C:List qr}{F:List qO},O C=O m.cells+O (qa p b)->O F=O m.qN+1->kn p t {m with cells:=C,made:=m.made+1,deep:=max m.deep (O m.qN+1),qN:=F}:=by
  intro C F e1 e2;refine⟨qx,qx,qx,?_⟩;simp only[e1];obtain⟨q,hq⟩:∃q,m.made=q+1:=⟨m.made - 1,qA⟩
  grind[Nat.mul_succ]
 unfold yG
 split<;>grind
theorem Ge(h:kn p t m)(hl:O fs+1=O m.qN):kn p t (vK m fs v):=by
 unfold vK
 split
 .rename_i g hg;refine h.of ?_ rfl rfl rfl
  grind
 .exact h.of qB rfl rfl rfl
theorem Ly(ht:∀b,O (qa p b)<=t)(h:kn p t m):kn p t (wI p m):=by
 unfold wI
 split
 .rename_i f hf
  have hl:O m.qN.dropLast+1=O m.qN:=by
   grind
  have hT:∀F:qO,kn p t (m.top m.qN.dropLast F):=λF=>Ui h hl;have hS:∀(F:qO)(E:Int),kn p t (m.stop m.qN.dropLast F E):=λF E=>(hT F).of (qb _) rfl rfl rfl
  split
  .rename_i o ho;unfold yD
   split
   .unfold aD
    split
    .grind
    .exact (hT _).of (qb _) rfl rfl rfl
   .split
    .split
     .grind[uE]
     .split
      .exact Lw h hl
      grind[cp,Lw]
    .unfold yl
     split
     .exact hT _
     .split
      .grind[fI]
      .split
       .exact (hT _).of (qb _) rfl rfl rfl
       .split
        .grind[Lv]
        .split
         .grind[ck,Lv]
         .split
          .grind[dO]
          .split
           .exact (hT _).of (qb _) rfl rfl rfl
           grind[Ge]
  .unfold an
   split
   .exact Ge (m:={m with qU:=m.qU++[f.names]}) (h.of (qb _) rfl rfl rfl) hl
   grind[Ge]
 .exact h
theorem Gf(ht:∀b,O (qa p b)<=t):∀(i:Nat){m:qR},kn p t m->kn p t (zV p i m)
 |0,_,h=>h
 |i+1,m,h=>by
  rw[zV]
  split
  .exact h
  .exact Gf ht i (Ly ht h)
theorem Lx(hp:zi p):kn p t (zX p n):=by
 obtain⟨hR,f,hf,_⟩:=qCL (n:=n) hp;have hl:=hp.sh.len;obtain⟨k,hk⟩:∃k,p[0]?=Z k:=⟨_,gE qA⟩;have hk0:=(hp.sh.ei hk).2 rfl;have hka:jk p 0=0:=by grind[jk]
 have hc0:qa p 0=[]:=by grind[qa]
 have hps:(zQ p 0).params=[]:=by
  have:=hp.sh.head 0 k hk
  grind[zQ]
 unfold zX yG;rw[hps];exact⟨qx,iA,qx,rU⟩
open Classical in
noncomputable def yj(p:qC)(n:Nat):qR:=if h:∃N,(zV p N (zX p n)).ended then zV p (Classical.choose h) (zX p n)else zX p n
theorem Be(h:(zV p i (zX p n)).ended):zV p i (zX p n)=yj p n:=by
 have hE:∃N,(zV p N (zX p n)).ended:=⟨i,h⟩
 grind[yj,OS]
theorem Bg(hp:zi p)(hn:n<=150):∃N,(∀i,i<N->¬(zV p i (zX p n)).ended)/\(zV p N (zX p n)).ended/\zV p N (zX p n)=yj p n:=by
 obtain⟨N,hN⟩:=qAW (n:=n) hp hn
 have key:∀N,(zV p N (zX p n)).ended->∃M',(∀i,i<M'->¬(zV p i (zX p n)).ended)/\(zV p M' (zX p n)).ended:=by
  intro N
  induction N<;>grind[OS]
 grind[Be]
theorem Bf(hp:zi p)(hn:n<=150):O (yj p n).out<=151/\O (yj p n).trace<=151/\O (yj p n).globals=8:=by
 grind[Bg,OV]
theorem Zx(hp:zi p)(hn:n<=150)(ht:∀b,O (qa p b)<=t):kn p t (yj p n):=by
 grind[Bg,Gf,Lx]
end
end Go.Hm
end
section

end
section

end
section
namespace Go.Hm
open Go Go.RowKit
variable{P S X:List AV}{f:Nm->Option Nm}{k n q x:Nat}{s:qr}
def jz(S:Nm->Bool)(H:Nm->Option AO):Nm->Option AO:=λn=>if S n=B then Y else H n
section
variable{own:Nat->Prop}{C C':Nat->Prop}{w w':World}{g g':Gh}{D:Nm->Bool}{root:Nm}{H H':Nm->Option AO}
def DP(S:Nm->Bool)(C:Nat->Prop)(g:Gh)(H:Nm->Option AO)(b:Nat):Prop:=C b\/∃n o,S n=B/\H n=Z o/\g.φ n=Z b
theorem dH.settle(h:dH own C w g D root H H' C' g' w')(S:Nm->Bool)(hw:∀n,H n≠Y->D n=B):dH own C w g D root H (jz S H') (DP S C' g' H') (g'.more (DP S C' g' H')) w':=by
 have hC:∀b,g'.C b->DP S C' g' H' b:=λb hb=>.inl (h.inv.hC ▸ hb)
 have old:∀n o,jz S H' n=Z o->H' n=Z o/\S n≠B:=by
  grind[jz]
 refine⟨λb hb=>.inl (h.mono b hb),?_,⟨h.inv.os,h.inv.tape,h.inv.output,h.inv.size,h.inv.wx,rfl,?_,?_,?_,?_⟩,?_,h.same,h.Im⟩
 .rintro b (hb|⟨n,o,_,ho,hk⟩)
  .exact h.new b hb
  .exact .inr (h.inv.qG n o b ho hk).2.1
 .rintro b (hb|⟨n,o,_,ho,hk⟩)
  .exact h.inv.ur b hb
  .exact (h.inv.qG n o b ho hk).2.2
 .intro n o e;have:=(h.inv.obj n o (old n o e).1).tr (g':=g'.more (DP S C' g' H')) (w':=w') (n':=n) (f:=Z) hC (λ_ _=>rfl) (λk k' e=>by obtain rfl:=sI e;exact⟨rfl,rfl⟩) rfl (λ_ _=>rfl)
  grind[AO.uO]
 .intro n o b e hk;obtain⟨e1,e2⟩:=old n o e;obtain⟨x1,x2,x3⟩:=h.inv.qG n o b e1 hk;refine⟨?_,x2,x3⟩;rintro(hb|⟨n',o',hs,ho',hk'⟩)
  .exact x1 hb
  .exact e2 (h.inv.inj n' n o' o b ho' e1 hk' hk ▸ hs)
 .intro n n' o o' b e e' hk hk';exact h.inv.inj n n' o o' b (old n o e).1 (old n' o' e').1 hk hk'
 .intro n hn;refine h.So n λe=>hn ?_
  grind[jz]
end
section
variable{P:Program}{gl:Nat->Option (List AV)}{f:FuncId}{D:Nm->Bool}{az:List AV}{H:Nm->Option AO}{R R':Nm->AV->(Nm->Option AO)->Prop}
def qX.settle(S:Nm->Nm->Bool)(h:qX P gl f D az H R qw)(hR:∀r y H',R r y H'->∃y',Bw H' (λn=>!S r n) y y'/\R' r y' (jz (S r) H')):qX P gl f D az H R' qw:=by
 refine⟨h.1,λroot C w g args h1 h2 h3 h4 h5 h6 h7=>?_⟩;refine(h.2 root C w g args h1 h2 h3 h4 h5 h6 h7).mono λe w' he=>?_
 cases e with
 |returned v=>
  obtain⟨C',g',H',x,hA,hv,hr⟩:=he;obtain⟨y',hb,hr'⟩:=hR _ _ _ hr;refine⟨_,_,_,y',hA.settle (S root) h3,?_,hr'⟩;exact RV.bw hA.inv (λb hb=>.inl hb) (λn o b hS ho hk=>.inr ⟨n,o,qQ,ho,hk⟩) hb hv
 |panicked ch=>
  omega
 |outgrown=>omega
def qL.settle(h:qL P gl f az R){S:AV->Prop}(hR:∀r y H',R r y H'->∃y',Bw H' zl y y'/\S y'):qL P gl f az (λ_ y _=>S y):=
 qX.settle (λ_ _=>B) h λr y H' hr=>by
  obtain⟨y',h1,h2⟩:=hR r y H' hr;exact⟨y',h1,h2⟩
end
abbrev Xn:Nm:=.u 1 0 0
def vv(p:qC)(f:qO):Int:=(vU ((zS p f.qG).take f.pc):Int)-1
def yv(p:qC)(n:Nm)(i:Nat)(f:qO):List AV:=[iv f.qG,iv f.pc,iv (vv p f),.hs (.c n i 3) 3 0 (O f.qt),jO (jQ f.cells),.hs (.c n i 5) 3 0 8,.hs (.c n i 6) 2 0 (O f.stack)]
def ju(p:qC)(n:Nm)(l:List qO):List (List AV):=l.mapIdx λi f=>yv p n i f
section
variable{p:qC}{n m:Nm}{i:Nat}{f g:qO}{l:List qO}{r:Nm->Option Nm}
@[simp]theorem frmRow_len:O (yv p n i f)=7:=rfl
@[simp]theorem frmRow_0:(yv p n i f)[0]?=Z (iv f.qG):=rfl
@[simp]theorem frmRow_1:(yv p n i f)[1]?=Z (iv f.pc):=rfl
@[simp]theorem frmRow_2:(yv p n i f)[2]?=Z (iv (vv p f)):=rfl
@[simp]theorem frmRow_3:(yv p n i f)[3]?=Z (.hs (.c n i 3) 3 0 (O f.qt)):=rfl
@[simp]theorem frmRow_4:(yv p n i f)[4]?=Z (jO (jQ f.cells)):=rfl
@[simp]theorem frmRow_5:(yv p n i f)[5]?=Z (.hs (.c n i 5) 3 0 8):=rfl
@[simp]theorem frmRow_6:(yv p n i f)[6]?=Z (.hs (.c n i 6) 2 0 (O f.stack)):=rfl
@[simp]theorem frmRows_len:O (ju p n l)=O l:=by simp[ju]
@[simp]theorem lO:(ju p n l)[i]?=(l[i]?).map λf=>yv p n i f:=by simp[ju]
@[simp]theorem frmRows_getE{h:i<O (ju p n l)}:(ju p n l)[i]=yv p n i (l[i]' mV):=by simp[ju]
@[simp]theorem frmRows_nil:ju p n []=[]:=rfl
theorem To(h3:r (.c n i 3)=Z (.c m i 3))(h5:r (.c n i 5)=Z (.c m i 5))(h6:r (.c n i 6)=Z (.c m i 6)):(yv p n i f).map (AV.tr r)=yv p m i f:=by simp_all[yv]
theorem Lb(h:∀i j,i<O l->r (.c n i j)=Z (.c m i j)):(ju p n l).map (λx=>x.map (AV.tr r))=ju p m l:=by
 apply yp;intro j;rw[j3,lO,lO]
 grind[To]
@[simp]theorem frmRows_fix(h:∀i j,r (.c n i j)=Z (.c n i j)):(ju p n l).map (λx=>x.map (AV.tr r))=ju p n l:=Lb λi j _=>h i j
theorem L8{k:List AV->List AV}(h:∀(i:Nat)f,l[i]?=Z f->k (yv p n i f)=yv p m i f):(ju p n l).map k=ju p m l:=by
 apply yp
 grind[lO]
def L7:ju p n l++[yv p n (O l) f]=ju p n (l++[f]):=by simp[ju]
theorem La:(ju p n l).take k=ju p n (l.take k):=by
 apply yp
 grind[lO]
theorem L9{off:Nat}{vals:List AV}(hi:l[i]?=Z f)(h:(yv p n i f).take off++vals++(yv p n i f).drop (off+O vals)=yv p n i g):jn (ju p n l) i off vals=ju p n (l.set i g):=by
 have hl:=(gS hi).1;apply yp
 grind[jn,lO]
end
def cB(l:List (Nat×List Nat)):List (List AV):=l.map λg=>[iv g.1,jO (jQ g.2)]
def wn(l:List (List qr)):List (List AV):=l.map λc=>[.sl 3 (zD c)]
abbrev mZ:AV:=.bot
def cm(x:AV)(p:qC):List (List AV):=[x]::(List.range (O p-1)).map λb=>[jO (jD p (b+1))]
section
variable{l:List (Nat×List Nat)}{cs:List (List qr)}{i:Nat}{r:Nm->Option Nm}{g:Nat×List Nat}{c:List qr}{x:AV}{p:qC}
@[simp]theorem fnRows_len:O (cB l)=O l:=A4
@[simp]theorem fnRows_getE{h:i<O (cB l)}:(cB l)[i]=[iv (l[i]' mV).1,jO (jQ (l[i]' mV).2)]:=A4
@[simp]theorem fnRows_tr:(cB l).map (λy=>y.map (AV.tr r))=cB l:=A4
@[simp]theorem fnRows_take:(cB l).take k=cB (l.take k):=A4
def T3:cB l++[[iv g.1,jO (jQ g.2)]]=cB (l++[g]):=A4
@[simp]theorem fnRows_nil:cB []=[]:=rfl
@[simp]theorem clzRows_len:O (wn cs)=O cs:=by simp[wn]
@[simp]theorem clzRows_getE{h:i<O (wn cs)}:(wn cs)[i]=[AV.sl 3 (zD (cs[i]' mV))]:=by simp[wn]
@[simp]theorem clzRows_tr:(wn cs).map (λy=>y.map (AV.tr r))=wn cs:=by
 simp only[wn,iy];apply oD;intro c _;simp[AC,AV.tr]
@[simp]theorem clzRows_take:(wn cs).take k=wn (cs.take k):=by simp[wn]
def S2:wn cs++[[.sl 3 (zD c)]]=wn (cs++[c]):=by simp[wn]
@[simp]theorem clzRows_nil:wn []=[]:=rfl
theorem K7(h:0<O p):O (cm x p)=O p:=by grind[cm]
theorem Rv(h:0<i)(hl:i<O p):(cm x p)[i]?=Z [jO (jD p i)]:=by
 grind[cm]
@[simp]theorem capRows_tr:(cm x p).map (λy=>y.map (AV.tr r))=cm (x.tr r) p:=by simp[cm]
end
structure gT(hp:Nm->Option AO)(p:qC)(n:Nm)(l:List qO):Prop where
 top:∃js,hp n=Z (.row 7 (ju p n (l++js)))
 qt:∀(i:Nat)f,l[i]?=Z f->hp (.c n i 3)=Z (.row 3 (zD f.qt))
 names:∀(i:Nat)f,l[i]?=Z f->hp (.c n i 5)=Z (.row 3 (zD f.names))
 stack:∀(i:Nat)f,l[i]?=Z f->∃j,hp (.c n i 6)=Z (.row 2 (zm (f.stack++j)))
def zu(p:qC)(n:Nm)(m:qR)(dp:Nat):List AV:=[kS (jo p (O p)),.hs (.c Xn 0 1) 1 0 (O p),.hs (.c Xn 0 2) 3 0 (O m.cells),.hs (.c Xn 0 3) 3 0 8,.hs (.c Xn 0 4) 2 0 (O m.qI),.hs (.c Xn 0 5) 1 0 (O m.qU),.hs n 7 0 (O m.qN),iv m.made,iv dp,.hs (.c Xn 0 9) 1 0 (O m.out),.hs (.c Xn 0 10) 2 0 (O m.trace),iv m.en,iv m.left]
structure qS(hp:Nm->Option AO)(p:qC)(n:Nm)(m:qR)(dp:Nat):Prop where
 top:hp Xn=Z (.row 13 [zu p n m dp])
 vI:hp (.c Xn 0 1)=Z (.row 1 (cm mZ p))
 cells:hp (.c Xn 0 2)=Z (.row 3 (zD m.cells))
 zM:hp (.c Xn 0 3)=Z (.row 3 (zD m.globals))
 qI:hp (.c Xn 0 4)=Z (.row 2 (cB m.qI))
 jG:hp (.c Xn 0 5)=Z (.row 1 (wn m.qU))
 out:hp (.c Xn 0 9)=Z (.row 1 (qh m.out))
 zt:hp (.c Xn 0 10)=Z (.row 2 (vR m.trace))
 fr:gT hp p n m.qN
section
variable{hp hp':Nm->Option AO}{p:qC}{n n':Nm}{m m':qR}{dp dp':Nat}{l l':List qO}
theorem gT.re(h:gT hp p n l)
  (h0:∀js,hp n=Z (.row 7 (ju p n (l++js)))->hp' n=Z (.row 7 (ju p n (l++js))):=by intro js hj;simp[hj])
  (h1:∀(i:Nat)f,l[i]?=Z f->hp (.c n i 3)=Z (.row 3 (zD f.qt))->hp' (.c n i 3)=Z (.row 3 (zD f.qt)):=by intro i f _ hf;simp[hf])
  (h2:∀(i:Nat)f,l[i]?=Z f->hp (.c n i 5)=Z (.row 3 (zD f.names))->hp' (.c n i 5)=Z (.row 3 (zD f.names)):=by intro i f _ hf;simp[hf])
  (h3:∀(i:Nat)f j,l[i]?=Z f->hp (.c n i 6)=Z (.row 2 (zm (f.stack++j)))->hp' (.c n i 6)=Z (.row 2 (zm (f.stack++j))):=by intro i f j _ hf;simp[hf]):gT hp' p n l:=by
 obtain⟨js,hj⟩:=h.top;exact⟨⟨js,h0 js hj⟩,λi f hf=>h1 i f hf (h.qt i f hf),λi f hf=>h2 i f hf (h.names i f hf),λi f hf=>by obtain⟨j,hj⟩:=h.stack i f hf;grind⟩
def qS.re(h:qS hp p n m dp)
  (h0:hp' Xn=Z (.row 13 [zu p n' m' dp']):=by simp[h.top,zu])
  (h1:hp' (.c Xn 0 1)=Z (.row 1 (cm mZ p)):=by simp[h.vI])
  (h2:hp' (.c Xn 0 2)=Z (.row 3 (zD m'.cells)):=by simp[h.cells])
  (h3:hp' (.c Xn 0 3)=Z (.row 3 (zD m'.globals)):=by simp[h.zM])
  (h4:hp' (.c Xn 0 4)=Z (.row 2 (cB m'.qI)):=by simp[h.qI])
  (h5:hp' (.c Xn 0 5)=Z (.row 1 (wn m'.qU)):=by simp[h.jG])
  (h6:hp' (.c Xn 0 9)=Z (.row 1 (qh m'.out)):=by simp[h.out])
  (h7:hp' (.c Xn 0 10)=Z (.row 2 (vR m'.trace)):=by simp[h.zt])
  (h8:gT hp' p n' m'.qN:=by exact h.fr.re):qS hp' p n' m' dp':=
 ⟨h0,h1,h2,h3,h4,h5,h6,h7,h8⟩
theorem gT.qy(h:gT hp p n l)(hf:∀k,Nm.under n k=B->f k=Z k)(hh:∀k,Nm.under n k=B->hp' k=(hp k).map (AO.tr f)):gT hp' p n l:=by
 have hu:∀i j,Nm.under n (.c n i j)=B:=λi j=>qB;refine⟨h.top.imp λjs hj=>?_,λi g hg=>?_,λi g hg=>?_,λi g hg=>(h.stack i g hg).imp λj hj=>?_⟩
 .simp_all
 .rw [hh _ (hu i 3),h.qt i g hg];simp
 .rw [hh _ (hu i 5),h.names i g hg];simp
 simp_all
theorem qS.qy(h:qS hp p n m dp){f:Nm->Option Nm}(hn:Nm.under Xn n=B\/n=.u 2 0 0)(hf:∀k,zP k=B->f k=Z k)(hh:∀k,zP k=B->hp' k=(hp k).map (AO.tr f)):qS hp' p n m dp:=by
 have hc:∀j,zP (.c Xn 0 j)=B:=λj=>qB
 have hD:∀k,Nm.under n k=B->zP k=B:=by
  grind[sT,Nm.ie]
 have hnn:f n=Z n:=hf _ (hD n (Nm.uQ n));refine⟨?_,?_,?_,?_,?_,?_,?_,?_,h.fr.qy (λk hk=>hf k (hD k hk)) λk hk=>hh k (hD k hk)⟩
 .rw [hh _ qB,h.top]
  simp_all[zu]
 .rw [hh _ (hc 1),h.vI];simp
 .rw [hh _ (hc 2),h.cells];simp
 .rw [hh _ (hc 3),h.zM];simp
 .rw [hh _ (hc 4),h.qI];simp
 .rw [hh _ (hc 5),h.jG];simp
 .rw [hh _ (hc 9),h.out];simp
 .rw [hh _ (hc 10),h.zt];simp
end
section
variable{p:qC}{m M':qR}{b d n i j N t:Nat}{fs:List qO}{f g:qO}{o:Int×Int}{v:q8}{k:qY}{x:Int}
structure cW(m m':qR):Prop where
 dp:m'.deep=max m.deep (O m'.qN)
 gr:O m'.qN<=O m.qN\/(m'.en=m.en/\m'.qN≠[])
theorem cW.of(h:O m.qN<=m.deep)(h1:O M'.qN<=O m.qN)(h2:M'.deep=m.deep):cW m M':=⟨qA,.inl h1⟩
theorem qCN(h:O m.qN<=m.deep)(hl:O fs+1=O m.qN):cW m (m.top fs f):=.of h (by grind[qR.top]) rfl
theorem PK(h:O m.qN<=m.deep)(hl:O fs+1=O m.qN):cW m (yE m fs f o s):=by
 grind[yE,cW.of,qR.top]
theorem qCM{cs:List Nat}{vs:List q8}(h:O m.qN<=m.deep)(hl:O fs+1=O m.qN):cW m (yG p (m.top fs f) b cs vs):=by
 unfold yG
 split
 .constructor<;>grind[qR.top]
 constructor<;>grind[qR.top]
theorem PJ(h:O m.qN<=m.deep)(hl:O fs+1=O m.qN)(h1:M'.deep=m.deep)(h2:M'.qN=m.qN):cW m (vK M' fs v):=by
 grind[vK,cW.of]
theorem PL(h:O m.qN<=m.deep):cW m (wI p m):=by
 unfold wI
 split
 .rename_i f hf
  have hl:O m.qN.dropLast+1=O m.qN:=by
   grind
  have hT:∀F:qO,cW m (m.top m.qN.dropLast F):=λF=>qCN h hl;have hS:∀(F:qO)(E:Int),cW m (m.stop m.qN.dropLast F E):=λF E=>.of h (by grind[qR.stop,qR.top]) rfl
  split
  .rename_i o ho;unfold yD
   split
   .grind[aD,cW.of,qR.top]
   .split
    .split
     .grind[uE]
     .split
      .exact PK h hl
      grind[cp,PK]
    grind[yl,fI,cW.of,qR.top,qCM,ck,dO,PJ]
  grind[an,PJ]
 grind[cW.of]
def cI(p:qC):Nat->qR->Nat->Nat
 |0,_,d=>d
 |i+1,m,d=>if m.ended then d else cI p i (wI p m) (max d (O m.qN))
theorem ND(ht:∀b,O (qa p b)<=t):∀(i:Nat){m:qR}{d:Nat},kn p t m->m.deep=max d (O m.qN)->(zV p i m).deep=max (cI p i m d) (O (zV p i m).qN)
 |0,m,d,_,hd=>hd
 |i+1,m,d,h,hd=>by
  rw[zV,cI]
  split
  .exact hd
  .exact ND ht i (Ly ht h) (by grind[cW.dp,PL])
theorem IE:∀(i:Nat){m:qR},¬(zV p i m).ended->zV p (i+1) m=wI p (zV p i m)
 :=by intro x0;induction x0<;>grind[zV]
theorem NE:∀(i:Nat){m:qR}{d:Nat},¬(zV p i m).ended->cI p (i+1) m d=max (cI p i m d) (O (zV p i m).qN)
 :=by intro x0;induction x0<;>grind[zV,cI]
theorem Wf(ht:∀b,O (qa p b)<=t)(h:kn p t m)(hd:m.deep=max d (O m.qN))(hN:¬(zV p N m).ended)(he:(zV p (N+1) m).ended):cI p (N+1) m d=(zV p (N+1) m).deep:=by
 have h1:=ND ht (N+1) h hd;have h2:=NE (d:=d) N hN;have hI:=Gf ht N h;have h3:=(PL (p:=p) hI.fr).gr
 grind[IE,qR.ended]
end
def qq(l:List AV)(off:Nat)(vals:List AV):List AV:=l.take off++vals++l.drop (off+O vals)
section
variable{P X S vals l:List AV}{k off j i n z:Nat}{c c':Nat->List AV}
theorem qBy(h:off+O vals<=O l):O (qq l off vals)=O l:=by grind[qq]
theorem xx(hk:k+O vals<=O X):qq (P++(X++S)) (O P+k) vals=P++(qq X k vals++S):=by
 unfold qq;rw[lA,AU,lA,AU,jg (Nat.le_add_right _ _)];have e1:O P+k-O P=k:=qA;have e2:O P+k+O vals-O P=k+O vals:=qA;have e3:k-O X=0:=qA
 simp_all<;>omega
theorem qBw(hk:k+O vals<=O X):qq (X++S) k vals=qq X k vals++S:=by
 grind[qq]
theorem qBx(hk:k+O vals<=O X):qq (P++X) (O P+k) vals=P++qq X k vals:=by
 have:=xx (P:=P) (S:=[]) hk
 simp_all
theorem UH(hk:k<O X):(P++(X++S))[O P+k]?=X[k]?:=by
 grind
theorem GM(hk:k+n<=O X):((P++(X++S)).drop (O P+k)).take n=(X.drop k).take n:=by
 simp_all<;>grind
def vQ(c:Nat->List AV)(n:Nat):List AV:=(List.range n).flatMap c
theorem rZ:vQ c (n+1)=vQ c n++c n:=by simp[vQ,rC]
theorem o6(hc:∀i,O (c i)=z):O (vQ c n)=z*n:=by
 induction n<;>grind[vQ,rZ]
theorem K9(h:∀i,i<n->c' i=c i):vQ c' n=vQ c n:=by
 induction n with
 |zero=>rfl
 |succ n ih=>grind[rZ]
theorem Kd(hi:i<n):∃S,vQ c n=vQ c i++(c i++S):=by
 induction n with
 |zero=>omega
 |succ n ih=>
  rw[rZ];by_cases e:i=n
  .simp_all
  grind
theorem Kb(hc:∀i,O (c i)=z)(hi:i<n)(hj:j<z):(vQ c n)[z*i+j]?=(c i)[j]?:=by
 obtain⟨S,hS⟩:=Kd (c:=c) hi
 grind[o6]
theorem Ka(hc:∀i,O (c i)=z)(hi:i<n)(hj:j+k<=z):((vQ c n).drop (z*i+j)).take k=((c i).drop j).take k:=by
 obtain⟨S,hS⟩:=Kd (c:=c) hi
 grind[o6,GM]
theorem Kc(hc:∀i,O (c i)=z)(hi:i<n)(hj:j+O vals<=z)(h:∀k,k≠i->c' k=c k)(hx:qq (c i) j vals=c' i):qq (vQ c n) (z*i+j) vals=vQ c' n:=by
 induction n with
 |zero=>omega
 |succ n ih=>
  rw[rZ,rZ];by_cases e:i=n
  .grind[o6,qBx,K9]
  .rw [qBw,ih qA,h n (λe'=>e e'.symm)];rw[o6 hc];have:z*(i+1)<=z*n:=Nat.mul_le_mul_left z qA
   grind
theorem DL(h:∀i,i<n->(c i).map (AV.tr f)=c' i):(vQ c n).map (AV.tr f)=vQ c' n:=by
 induction n with
 |zero=>rfl
 |succ n ih=>grind[rZ]
end
def jy(l:List qr):List AV:=vQ (λi=>jv (j7 l i)) 8
section
variable{l:List qr}{i j:Nat}{s:qr}{f:Nm->Option Nm}
@[simp]theorem TW:O (jy l)=24:=o6 (z:=3) λ_=>By
@[simp]theorem G0:(jy l).map (AV.tr f)=jy l:=DL λ_ _=>qB6
def LW(hi:i<8)(hj:j<3):(jy l)[3*i+j]?=(jv (j7 l i))[j]?:=Kb (λ_=>By) hi hj
theorem TU(hi:i<8):((jy l).drop (3*i)).take 3=jv (j7 l i):=by
 have:=Ka (c:=λi=>jv (j7 l i)) (j:=0) (k:=3) (λ_=>By) hi qA
 grind[jy,By]
theorem LX(hl:O l=8)(hi:i<8):qq (jy l) (3*i) (jv s)=jy (l.set i s):=by
 have:=Kc (c:=λi=>jv (j7 l i)) (c':=λk=>jv (j7 (l.set i s) k)) (n:=8) (i:=i) (j:=0) (vals:=jv s) (z:=3) (λ_=>By) hi qB (λk hk=>by
  grind[qB3]) (by
  simp_all[j7,qq])
 grind[jy]
end
abbrev Yn:Nm:=.u 1 0 0
def yA(p:qC)(m:qR):List AV:=[kS (jo p (O p)),.hs (.c Yn 0 1) 1 0 (O p),iv m.left,iv m.en,.hs (.c Yn 0 4) 1 0 (O m.out),.hs (.c Yn 0 5) 2 0 (O m.trace)]
def yB(m:qR):List AV:=[.hs (.c Yn 0 30) 2 0 (O m.qI),.hs (.c Yn 0 31) 24 0 (O m.qU)]
def yZ(m:qR)(h:Nat):List AV:=[iv h,iv m.deep,iv m.made,iv (O m.cells)]
def qj(p:qC)(m:qR)(h:Nat)(c:Nat->List AV):List AV:=yA p m++(jy m.globals++(yB m++(vQ c 151++yZ m h)))
def ym(i:Nat)(f:qO):List AV:=[iv f.qG,iv f.pc,.hs (.c Yn 0 (32+29*i+2)) 3 0 (O f.qt),.hs (.c Yn 0 (32+29*i+3)) 1 0 (O f.cells)]++(jy f.names++[.hs (.c Yn 0 (32+29*i+28)) 2 0 (O f.stack)])
def yc(fs:List qO)(J:Nat->List AV)(i:Nat):List AV:=match fs[i]? with|some f=>ym i f|none=>J i
section
variable{p:qC}{m:qR}{h h' i j k x:Nat}{c c' J:Nat->List AV}{fs:List qO}{f g:qO}{s:qr}{vals:List AV}{e:Int}{r:Nm->Option Nm}
@[simp]theorem yfr_len:O (ym i f)=29:=by simp[ym]
theorem bI(hJ:∀i,O (J i)=29)(i:Nat):O (yc fs J i)=29:=by
 unfold yc
 split<;>simp_all
theorem pW(hc:∀i,O (c i)=29):O (qj p m h c)=4415:=by simp[qj,yA,yB,yZ,o6 hc]
@[simp]theorem Py:(qj p m h c)[0]?=Z (kS (jo p (O p))):=rfl
@[simp]theorem qE3:(qj p m h c)[1]?=Z (.hs (.c Yn 0 1) 1 0 (O p)):=rfl
@[simp]theorem qE4:(qj p m h c)[2]?=Z (iv m.left):=rfl
@[simp]theorem qE5:(qj p m h c)[3]?=Z (iv m.en):=rfl
@[simp]theorem qE8:(qj p m h c)[4]?=Z (.hs (.c Yn 0 4) 1 0 (O m.out)):=rfl
@[simp]theorem qE9:(qj p m h c)[5]?=Z (.hs (.c Yn 0 5) 2 0 (O m.trace)):=rfl
def pX(hq:q=O P+k)(hk:k<O X)(hR:qj p m h c=P++(X++S)):(qj p m h c)[q]?=X[k]?:=qx
theorem qE0(hq:q=O P+k)(hk:k+n<=O X)(hR:qj p m h c=P++(X++S)):((qj p m h c).drop q).take n=(X.drop k).take n:=by grind[GM]
theorem pY(hq:q=O P+k)(hk:k+O vals<=O X)(hR:qj p m h c=P++(X++S)):qq (qj p m h c) q vals=P++(qq X k vals++S):=by grind[xx]
def Px:qj p m h c=yA p m++(jy m.globals++(yB m++(vQ c 151++yZ m h))):=rfl
def pV:qj p m h c=(yA p m++jy m.globals)++(yB m++(vQ c 151++yZ m h)):=by simp[qj]
def Ei:qj p m h c=(yA p m++(jy m.globals++yB m))++(vQ c 151++yZ m h):=by simp[qj]
def gP:qj p m h c=(yA p m++(jy m.globals++(yB m++vQ c 151)))++(yZ m h++[]):=by simp[qj]
def M3:O (yA p m)=6:=rfl
def Dj:O (yA p m++jy m.globals)=30:=by simp[yA]
def Gq:O (yA p m++(jy m.globals++yB m))=32:=by simp[yA,yB]
def Va(hc:∀i,O (c i)=29):O (yA p m++(jy m.globals++(yB m++vQ c 151)))=4411:=by simp[yA,yB,o6 hc]
@[simp]theorem qE6:(qj p m h c)[30]?=Z (.hs (.c Yn 0 30) 2 0 (O m.qI)):=by rw[pX (k:=0) (by rw[Dj]) (by simp[yB]) pV];rfl
@[simp]theorem qE7:(qj p m h c)[31]?=Z (.hs (.c Yn 0 31) 24 0 (O m.qU)):=by rw[pX (k:=1) (by rw[Dj]) (by simp[yB]) pV];rfl
theorem Ej(hc:∀i,O (c i)=29):(qj p m h c)[4411]?=Z (iv h):=by rw[pX (k:=0) oT oP gP];rfl
theorem Pz(hc:∀i,O (c i)=29):(qj p m h c)[4412]?=Z (iv m.deep):=by rw[pX (k:=1) oT oP gP];rfl
theorem QA(hc:∀i,O (c i)=29):(qj p m h c)[4413]?=Z (iv m.made):=by rw[pX (k:=2) oT oP gP];rfl
theorem QB(hc:∀i,O (c i)=29):(qj p m h c)[4414]?=Z (iv (O m.cells)):=by rw[pX (k:=3) oT oP gP];rfl
def qEa(hx:x<8)(hj:j<3):(qj p m h c)[6+(3*x+j)]?=(jv (j7 m.globals x))[j]?:=by
 rw[pX (k:=3*x+j) (by rw[M3]) qp Px];exact LW hx hj
theorem qE1(hc:∀i,O (c i)=29)(hi:i<151)(hj:j<29):(qj p m h c)[32+(29*i+j)]?=(c i)[j]?:=by
 rw[pX (k:=29*i+j) (by rw[Gq]) F6 Ei]
 simp_all[Kb]
theorem qE2(hc:∀i,O (c i)=29)(hi:i<151)(hj:j+k<=29):((qj p m h c).drop (32+(29*i+j))).take k=((c i).drop j).take k:=by
 rw[qE0 (k:=29*i+j) (n:=k) (by rw[Gq]) F6 Ei]
 simp_all[Ka]
def qEf:qq (qj p m h c) 2 [iv x]=qj p {m with left:=x} h c:=rfl
theorem qEg:qq (qj p m h c) 3 [iv e]=qj p {m with en:=e} h c:=rfl
def qEj{o:List Int}:qq (qj p m h c) 4 [.hs (.c Yn 0 4) 1 0 (O o)]=qj p {m with out:=o} h c:=rfl
def qEk{o:List (Nat×Nat)}:qq (qj p m h c) 5 [.hs (.c Yn 0 5) 2 0 (O o)]=qj p {m with trace:=o} h c:=rfl
def qEh{o:List (Nat×List Nat)}:qq (qj p m h c) 30 [.hs (.c Yn 0 30) 2 0 (O o)]=qj p {m with qI:=o} h c:=by
 rw[pY (k:=0) (by rw[Dj]) (by simp[yB]) pV,pV]
 rfl
def qEi{o:List (List qr)}:qq (qj p m h c) 31 [.hs (.c Yn 0 31) 24 0 (O o)]=qj p {m with qU:=o} h c:=by
 rw[pY (k:=1) (by rw[Dj]) (by simp[yB]) pV,pV]
 rfl
theorem QD(hc:∀i,O (c i)=29):qq (qj p m h c) 4411 [iv h']=qj p m h' c:=by
 rw[pY (k:=0) oT oP gP,gP]
 rfl
def qEm(hc:∀i,O (c i)=29):qq (qj p m h c) 4412 [iv x]=qj p {m with deep:=x} h c:=by
 rw[pY (k:=1) oT oP gP,gP]
 rfl
def qEo(hc:∀i,O (c i)=29):qq (qj p m h c) 4413 [iv x]=qj p {m with made:=x} h c:=by
 rw[pY (k:=2) oT oP gP,gP]
 rfl
def qEl(hc:∀i,O (c i)=29){o:List qr}:qq (qj p m h c) 4414 [iv (O o)]=qj p {m with cells:=o} h c:=by
 rw[pY (k:=3) oT oP gP,gP]
 rfl
def qEn(hl:O m.globals=8)(hx:x<8):qq (qj p m h c) (6+3*x) (jv s)=qj p {m with globals:=m.globals.set x s} h c:=by
 rw[pY (k:=3*x) (by rw[M3]) qp Px,LX hl hx]
 rfl
theorem Ek(hc:∀i,O (c i)=29)(hi:i<151)(hj:j+O vals<=29)(hk:∀k,k≠i->c' k=c k)(hx:qq (c i) j vals=c' i):qq (qj p m h c) (32+(29*i+j)) vals=qj p m h c':=by
 rw[pY (k:=29*i+j) (by rw[Gq]) F6 Ei,Kc hc hi hj hk hx,Ei]
theorem qEq(hi:i<O fs)(hk:k≠i):yc (fs.set i g) J k=yc fs J k:=by
 grind[yc]
theorem AH(hi:fs[i]?=Z f):yc fs J i=ym i f:=by simp[yc,hi]
theorem El(hJ:∀i,O (J i)=29)(hf:fs[i]?=Z f)(hi:i<151)(hj:j+O vals<=29)(hx:qq (ym i f) j vals=ym i g):qq (qj p m h (yc fs J)) (32+(29*i+j)) vals=qj p m h (yc (fs.set i g) J):=by
 grind[Ek,bI,qEq,AH]
end
def ut(l:List (Nat×List Nat)):List (List AV):=l.map λg=>[iv g.1,.sl 1 (zd g.2)]
def wQ(l:List (List qr)):List (List AV):=l.map jy
def kE(p:qC)(n:Nat):List (List AV):=(List.range n).map λb=>[jO (jD p b)]
section
variable{l:List (Nat×List Nat)}{cs:List (List qr)}{i n:Nat}{r:Nm->Option Nm}{g:Nat×List Nat}{c:List qr}{p:qC}
@[simp]theorem fyRows_len:O (ut l)=O l:=by simp[ut]
@[simp]theorem fyRows_getE{h:i<O (ut l)}:(ut l)[i]=[iv (l[i]' mV).1,.sl 1 (zd (l[i]' mV).2)]:=by simp[ut]
@[simp]theorem UB(h:∀i,r (En i)=Z (En i)):(ut l).map (λy=>y.map (AV.tr r))=ut l:=by
 simp only[ut,iy];apply oD;intro g _;have:(zd g.2).map (λy=>y.map (AV.tr r))=zd g.2:=xE h;simp[AV.tr,AC,this]
@[simp]theorem fyRows_take:(ut l).take k=ut (l.take k):=by simp[ut]
def UA:ut l++[[iv g.1,.sl 1 (zd g.2)]]=ut (l++[g]):=by simp[ut]
@[simp]theorem fyRows_nil:ut []=[]:=rfl
@[simp]theorem cyRows_len:O (wQ cs)=O cs:=As
@[simp]theorem cyRows_getE{h:i<O (wQ cs)}:(wQ cs)[i]=jy (cs[i]' mV):=As
@[simp]theorem cyRows_tr:(wQ cs).map (λy=>y.map (AV.tr r))=wQ cs:=As
@[simp]theorem cyRows_take:(wQ cs).take k=wQ (cs.take k):=As
def Se:wQ cs++[jy c]=wQ (cs++[c]):=As
@[simp]theorem cyRows_nil:wQ []=[]:=rfl
@[simp]theorem cpRows_len:O (kE p n)=n:=by simp[kE]
@[simp]theorem cpRows_getE{h:i<O (kE p n)}:(kE p n)[i]=[jO (jD p i)]:=by simp[kE]
@[simp]theorem cpRows_tr:(kE p n).map (λy=>y.map (AV.tr r))=kE p n:=by simp[kE]
def Sc:kE p n++[[jO (jD p n)]]=kE p (n+1):=by simp[kE,rC]
@[simp]theorem cpRows_zero:kE p 0=[]:=rfl
end
section
variable{i n k:Nat}{f:qO}{r:Nm->Option Nm}{p:qC}{m:qR}{h:Nat}{c:Nat->List AV}
def qEy:qq (ym i f) 1 [iv n]=ym i {f with pc:=n}:=rfl
theorem qEz{l:List q8}:qq (ym i f) 28 [.hs (.c Yn 0 (32+29*i+28)) 2 0 (O l)]=ym i {f with stack:=l}:=by
 have h1:(ym i f).take 28=[iv f.qG,iv f.pc,.hs (.c Yn 0 (32+29*i+2)) 3 0 (O f.qt),.hs (.c Yn 0 (32+29*i+3)) 1 0 (O f.cells)]++jy f.names:=by
  grind[ym,TW]
 simp_all[ym,qq]
def qEx(hl:O f.names=8)(hx:x<8):qq (ym i f) (4+3*x) (jv s)=ym i {f with names:=f.names.set x s}:=by
 have h4:∀a b d e:AV,O [a,b,d,e]=4:=λ_ _ _ _=>rfl;have:=xx (P:=[iv f.qG,iv f.pc,.hs (.c Yn 0 (32+29*i+2)) 3 0 (O f.qt),.hs (.c Yn 0 (32+29*i+3)) 1 0 (O f.cells)]) (X:=jy f.names) (S:=[.hs (.c Yn 0 (32+29*i+28)) 2 0 (O f.stack)]) (k:=3*x) (vals:=jv s) qp;rw[h4,LX hl hx]at this;exact this
@[simp]theorem yfr_get0:(ym i f)[0]?=Z (iv f.qG):=rfl
@[simp]theorem yfr_get1:(ym i f)[1]?=Z (iv f.pc):=rfl
@[simp]theorem yfr_get2:(ym i f)[2]?=Z (.hs (.c Yn 0 (32+29*i+2)) 3 0 (O f.qt)):=rfl
@[simp]theorem yfr_get3:(ym i f)[3]?=Z (.hs (.c Yn 0 (32+29*i+3)) 1 0 (O f.cells)):=rfl
@[simp]theorem qEv:(ym i f)[28]?=Z (.hs (.c Yn 0 (32+29*i+28)) 2 0 (O f.stack)):=by
 simp_all[ym]
theorem qEw{j:Nat}(hx:x<8)(hj:j<3):(ym i f)[4+(3*x+j)]?=(jv (j7 f.names x))[j]?:=by
 have:=UH (P:=[iv f.qG,iv f.pc,.hs (.c Yn 0 (32+29*i+2)) 3 0 (O f.qt),.hs (.c Yn 0 (32+29*i+3)) 1 0 (O f.cells)]) (X:=jy f.names) (S:=[.hs (.c Yn 0 (32+29*i+28)) 2 0 (O f.stack)]) (k:=3*x+j) qp;rw[LW hx hj]at this;exact this
theorem qFA:((ym i f).drop 4).take 24=jy f.names:=by
 have:=GM (P:=[iv f.qG,iv f.pc,.hs (.c Yn 0 (32+29*i+2)) 3 0 (O f.qt),.hs (.c Yn 0 (32+29*i+3)) 1 0 (O f.cells)]) (X:=jy f.names) (S:=[.hs (.c Yn 0 (32+29*i+28)) 2 0 (O f.stack)]) (k:=0) (n:=24) qB;rw[List.drop_zero]at this;exact this.trans (jg qB)
theorem qEu(hr:∀j,r (.c Yn 0 j)=Z (.c Yn 0 j)):(ym i f).map (AV.tr r)=ym i f:=by simp[ym,hr]
end
structure qF(hp:Nm->Option AO)(p:qC)(m:qR):Prop where
 top:∃J:Nat->List AV,(∀i,O (J i)=29)/\hp Yn=Z (.row 4415 [qj p m (O m.qN) (yc m.qN J)])
 vI:hp (.c Yn 0 1)=Z (.row 1 (kE p (O p)))
 out:hp (.c Yn 0 4)=Z (.row 1 (qh m.out))
 zt:hp (.c Yn 0 5)=Z (.row 2 (vR m.trace))
 qI:hp (.c Yn 0 30)=Z (.row 2 (ut m.qI))
 jG:hp (.c Yn 0 31)=Z (.row 24 (wQ m.qU))
 qt:∀(i:Nat)f,m.qN[i]?=Z f->hp (.c Yn 0 (32+29*i+2))=Z (.row 3 (zD f.qt))
 cls:∀(i:Nat)f,m.qN[i]?=Z f->hp (.c Yn 0 (32+29*i+3))=Z (.row 1 (zd f.cells))
 stack:∀(i:Nat)f,m.qN[i]?=Z f->∃j,hp (.c Yn 0 (32+29*i+28))=Z (.row 2 (zm (f.stack++j)))
 cell:∀(c:Nat)s,m.cells[c]?=Z s->hp (En c)=Z (.row 3 [jv s])
 only:∀k i j,fM k=B->hp (.u k i j)≠Y->(k=1/\i=0/\j=0)\/(k=7/\i<O m.cells/\j=0)
section
variable{hp hp' H:Nm->Option AO}{p:qC}{m m' m0:qR}
theorem qF.re(h:qF hp p m)
  (h0:∀J:Nat->List AV,(∀i,O (J i)=29)->hp Yn=Z (.row 4415 [qj p m (O m.qN) (yc m.qN J)])->hp' Yn=Z (.row 4415 [qj p m (O m.qN) (yc m.qN J)]):=by intro J _ hJ;simp[hJ])
  (h1:hp' (.c Yn 0 1)=Z (.row 1 (kE p (O p))):=by simp[h.vI])
  (h2:hp' (.c Yn 0 4)=Z (.row 1 (qh m.out)):=by simp[h.out])
  (h3:hp' (.c Yn 0 5)=Z (.row 2 (vR m.trace)):=by simp[h.zt])
  (h4:hp' (.c Yn 0 30)=Z (.row 2 (ut m.qI)):=by simp[h.qI])
  (h5:hp' (.c Yn 0 31)=Z (.row 24 (wQ m.qU)):=by simp[h.jG])
  (h6:∀(i:Nat)f,m.qN[i]?=Z f->hp (.c Yn 0 (32+29*i+2))=Z (.row 3 (zD f.qt))->hp' (.c Yn 0 (32+29*i+2))=Z (.row 3 (zD f.qt)):=by intro i f _ hf;simp[hf])
  (h7:∀(i:Nat)f,m.qN[i]?=Z f->hp (.c Yn 0 (32+29*i+3))=Z (.row 1 (zd f.cells))->hp' (.c Yn 0 (32+29*i+3))=Z (.row 1 (zd f.cells)):=by intro i f _ hf;simp[hf])
  (h8:∀(i:Nat)f j,m.qN[i]?=Z f->hp (.c Yn 0 (32+29*i+28))=Z (.row 2 (zm (f.stack++j)))->hp' (.c Yn 0 (32+29*i+28))=Z (.row 2 (zm (f.stack++j))):=by intro i f j _ hf;simp[hf])
  (h9:∀(c:Nat)s,m.cells[c]?=Z s->hp' (En c)=Z (.row 3 [jv s]):=by intro c s hc;simp[h.cell c s hc])
  (hA:∀k i j,fM k=B->¬(k=1/\i=0/\j=0)->hp' (.u k i j)≠Y->hp (.u k i j)≠Y:=by intro k i j hk e hn;simpa[hk,e]using hn):qF hp' p m:=
 ⟨by grind[top],h1,h2,h3,h4,h5,λi f hf=>h6 i f hf (h.qt i f hf),λi f hf=>h7 i f hf (h.cls i f hf),λi f hf=>(h.stack i f hf).imp λj hj=>h8 i f j hf hj,h9,
   λk i j hk hn=>if e:k=1/\i=0/\j=0 then .inl e else h.only k i j hk (hA k i j hk e hn)⟩
theorem qF.qy(h:qF hp p m)(hf:∀k,DM k=B->f k=Z k)(hh:∀k,DM k=B->hp' k=(hp k).map (AO.tr f)):qF hp' p m:=by
 have hE:∀i,f (En i)=Z (En i):=λi=>hf _ rfl;have hc:∀j,f (.c Yn 0 j)=Z (.c Yn 0 j):=λj=>hf _ rfl;refine⟨?_,?_,?_,?_,?_,?_,λi g hg=>?_,λi g hg=>?_,λi g hg=>(h.stack i g hg).imp λj hj=>?_,λc s hs=>?_,λk i j hk hn=>?_⟩
 .obtain⟨J,hJ,e⟩:=h.top;refine⟨λi=>(J i).map (AV.tr f),λi=>iG,?_⟩;rw[hh _ rfl,e]
  have h1:(vQ (yc m.qN J) 151).map (AV.tr f)=vQ (yc m.qN λi=>(J i).map (AV.tr f)) 151:=DL λi _=>by
   unfold yc
   split<;>grind[qEu]
  simp_all[qj,yA,yB,yZ]
 .rw [hh _ rfl,h.vI];simp
 .rw [hh _ rfl,h.out];simp
 .rw [hh _ rfl,h.zt];simp
 .rw [hh _ rfl,h.qI]
  simp_all
 .rw [hh _ rfl,h.jG];simp
 .rw [hh _ rfl,h.qt i g hg];simp
 .rw [hh _ rfl,h.cls i g hg]
  simp_all
 .rw [hh _ rfl,hj];simp
 .rw [hh _ rfl,h.cell c s hs];simp
 .refine h.only k i j hk λe=>hn ?_
  simp_all
theorem qF.sub(h:qF hp p m){D:Nm->Bool}(hD:∀k,DM k=B->D k=B:=by intro m hm;first|exact hm|simp[hm]):qF (zU D hp) p m:=by
 refine h.qy (f:=Z) (λ_ _=>rfl) (λk hk=>?_);rw[BD,if_pos (hD k hk)]
 cases hp k<;>grind[AO.uO]
theorem qF.ext(h0:qF H p m0)(h:qF hp p m)(hc:O m0.cells<=O m.cells):∀k i j,(H (.u k i j)).isSome=B->DM (.u k i j)=M\/(zU DM hp) (.u k i j)≠Y:=by
 intro k i j hs
 cases hD:fM k with
 |false=>simp_all
 |true=>
  right;have hd:DM (.u k i j)=B:=hD;rw[BD,if_pos hd];rcases h0.only k i j hD qx with⟨rfl,rfl,rfl⟩|⟨rfl,hi,rfl⟩
  .grind[top]
  .have hi':i<O m.cells:=qA;rw[h.cell i _ (gE hi')];simp
end
section
variable{hp:Nm->Option AO}{p:qC}{m:qR}{n:Nm}{dp:Nat}{D:Nm->Bool}{sbs:List (Nm×Nm)}
def qF.fin(h:qF hp p m)(hD:∀k,D k=B->k.zj=M:=by exact λ_=>zF)(hW:∀k,DM k=B->D k=B:=by exact λ_ h=>h)(hs:∀q∈sbs,q.1.zj=B:=by simp[Nm.zj]):qF (vW D sbs hp) p m:=
 h.qy (f:=zH D sbs) (λk hk=>mb hD (hW k hk) hs) (λk hk=>qQ)
def qS.fin(h:qS hp p n m dp)(hn:Nm.under Xn n=B\/n=.u 2 0 0)(hD:∀k,D k=B->k.zj=M:=by exact λ_=>vF)(hW:∀k,zP k=B->D k=B:=by exact λ_ h=>h)(hs:∀q∈sbs,q.1.zj=B:=by simp[Nm.zj]):qS (vW D sbs hp) p n m dp:=
 h.qy hn (f:=zH D sbs) (λk hk=>mb hD (hW k hk) hs) (λk hk=>qQ)
end
abbrev qZ:=List UInt8
def dg(n:Nat):UInt8:=UInt8.ofNat (48+n)
def yx(n:Nat):qZ:=if n<10 then[dg n]else yx (n/10)++[dg (n%10)]
def vL(n:Int):qZ:=if n<0 then 45::yx n.natAbs else yx n.natAbs
theorem lM(h:n<10):(dg n).toNat=48+n:=by
 grind[dg,UInt8.toNat_ofNat']
theorem HK(h:n<10):yx n=[dg n]:=by grind[yx]
theorem Dr(h:10<=n)(h':n<100):yx n=[dg (n/10),dg (n%10)]:=by
 grind[yx]
theorem HI:∀(n:Nat),∀c∈yx n,48<=c.toNat/\c.toNat<=57
 |n=>by
  intro c hc;rw[yx]at hc
  split at hc
  .grind[lM]
  .rw [yI,vG]at hc;rcases hc with hc|rfl
   .exact HI (n/10) c hc
   grind[lM]
def zO(c:UInt8):qZ->List qZ
 |[]=>[[]]
 |x::l=>if x=c then[]::zO c l else match zO c l with
  |w::ws=>(x::w)::ws
  |[]=>[[x]]
section
variable{c:UInt8}{l m w:qZ}{ls ws:List qZ}
theorem gB:zO c l≠[]:=by
 cases l<;>grind[zO]
theorem CD(h:c∉l):zO c l=[l]:=by
 induction l<;>grind[zO]
theorem IZ(h:c∉l):zO c (l++c::m)=l::zO c m:=by
 induction l<;>grind[zO]
def cH(c:UInt8):List qZ->qZ
 |[]=>[]
 |[w]=>w
 |w::w'::ws=>w++c::cH c (w'::ws)
theorem D6:∀{l:qZ},cH c (zO c l)=l
 |[]=>rfl
 |x::l=>by
  have ih:=D6 (l:=l);rw[zO]
  split
  .rename_i h
   cases e:zO c l<;>grind[gB,cH]
  .cases e:zO c l with
   |nil=>grind[gB]
   |cons w ws=>
    rw[e]at ih
    cases ws<;>grind[cH]
def y5(c:UInt8)(ls:List qZ):qZ:=ls.flatMap (·++[c])
theorem Gr:y5 c (w::ls)=w++c::y5 c ls:=tX
theorem Vi:y5 c ls=cH c (ls++[[]]):=by
 induction ls with
 |nil=>rfl
 |cons w ls ih=>
  rw[Gr,ih]
  cases ls with
  |nil=>rfl
  |cons v vs=>rfl
theorem Vk(h:(zO c l).getLast?=Z []):l=y5 c (zO c l).dropLast:=by
 grind[Vi,CW,D6]
theorem Vj(h:∀w∈ls,c∉w):(y5 c ls).count c=O ls:=by
 induction ls with
 |nil=>rfl
 |cons w ls ih=>
  simp_all<;>grind[Gr]
end
def lS(c:UInt8):Bool:=decide (48<=c.toNat)&&decide (c.toNat<=57)
def jC:qZ->Option Nat
 |[a]=>if lS a=B then Z (a.toNat-48)else Y
 |[a,b]=>if lS a=B/\lS b=B/\a≠48 then Z (10*(a.toNat-48)+(b.toNat-48))else Y
 |_=>Y
theorem Lz(h:n<10):lS (dg n)=B:=by
 grind[lS,lM]
theorem GU{c:UInt8}(h:lS c=B):c=dg (c.toNat-48):=by
 grind[lS,UInt8.toNat_inj,lM]
theorem qBf(h:n<=99):jC (yx n)=Z n:=by
 by_cases h1:n<10
 .grind[jC,Lz,lM,yx]
 .have h2:n/10<10:=qA;have h3:n%10<10:=qA;rw[Dr qA qA]
  have h4:dg (n/10)≠48:=by
   intro e;have:=congrArg UInt8.toNat e
   grind[lM]
  grind[jC,Lz,lM]
theorem HL{s:qZ}(h:jC s=Z n):n<=99/\s=yx n:=by
 unfold jC at h
 split at h
 .grind[GU,lS,yx]
 .rename_i a b
  split at h
  .rename_i hab;obtain⟨ha,hb,h0⟩:=hab;have hda:=GU ha;have hdb:=GU hb;simp only[lS,yF,decide_eq_true_eq]at ha hb;have hn:a.toNat≠48:=λe=>h0 (UInt8.toNat_inj.1 (by rw[e];rfl))
   grind[Dr]
  .cases h
 .cases h
theorem ET{s:qZ}:jC s=Z n↔n<=99/\s=yx n:=⟨HL,λ⟨h,e⟩=>e ▸ qBf h⟩
def aX:qZ:=[105,110]
def aW:qZ:=[102,117,110]
def cM:qZ:=[99,108,97,115,115]
def ye:List qZ:=[[110,117,109],[99,111,112,121],[97,100,100],[100,101,102],cM,[99,97,108,108],[103,101,116],[112,114,105,110,116],[114,101,116,117,114,110],[103,108,111,98,97,108],[110,111,110,108,111,99,97,108],[100,101,108]]
def em(s:qT):List Int:=
 if s.kind=0\/s.kind=1\/s.kind=3\/s.kind=4 then[s.to,s.a]
 else if s.kind=2\/s.kind=6 then[s.to,s.a,s.b]
 else if s.kind=5 then(if s.b=-1 then[s.to,s.a]else[s.to,s.a,s.b])
 else if s.kind=7\/s.kind=8 then[s.a]else[s.to]
def uS(w:qZ)(ns:List Int):qZ:=w++ns.flatMap λn=>32::vL n
def cK(s:qT):qZ:=uS (ye.getD s.kind.toNat []) (em s)
def aV(k:qY):qZ:=if k.kind=2 then uS aX [k.parent]++32::cM else uS (uS aX [k.parent]++32::aW) k.params
def lE(b:Nat)(k:qY):List qZ:=(if b=0 then[]else[aV k])++k.body.map cK
def lN(p:qC):List qZ:=(p.mapIdx lE).flatten
def rl(p:qC):qZ:=y5 10 (lN p)
def vT(ws:List qZ):Option (List Nat):=ws.mapM jC
def ww(w:qZ):Option Nat:=ye.findIdx? (·==w)
def bf(kind:Nat)(ns:List Nat):Option qT:=
 match ns with
 |[x]=>if kind=7\/kind=8 then Z ⟨kind,0,x,0⟩else if 9<=kind then Z ⟨kind,x,0,0⟩else Y
 |[x,y]=>if kind<7/\kind≠2/\kind≠6 then Z ⟨kind,x,y,if kind=5 then -1 else 0⟩else Y
 |[x,y,z]=>if kind=2\/kind=6\/kind=5 then Z ⟨kind,x,y,z⟩else Y
 |_=>Y
def fB(line:qZ):Option qT:=match zO 32 line with
 |w::ws=>match ww w,vT ws with
  |some k,Z ns=>bf k ns
  |_,_=>Y
 |[]=>Y
def dF(line:qZ):Option qY:=match zO 32 line with
 |i::n::f::ws=>if i=aX then match jC n with
  |some q=>if f=cM/\ws=[]then Z ⟨2,q,[],[]⟩else if f=aW then(vT ws).map λns=>⟨1,q,ns.map λ(n:Nat)=>(n:Int),[]⟩else Y
  |none=>Y
  else Y
 |_=>Y
def lc(p:qC)(s:qT):qC:=p.modify (O p-1) λk=>{k with body:=k.body++[s]}
def aE(p:qC)(line:qZ):Option qC:=match dF line with
 |some k=>Z (p++[k])
 |none=>(fB line).map (lc p)
def ue(ls:List qZ)(p:qC):Option qC:=match ls with
 |[]=>Z p
 |l::ls=>match aE p l with
  |some q=>ue ls q
  |none=>Y
def ug:qC:=[⟨0,-1,[],[]⟩]
def vo(s:qZ):Option qC:=match ue (zO 10 s).dropLast ug with
 |some p=>if(zO 10 s).getLast?=Z []/\j2 p=B then Z p else Y
 |none=>Y
section
variable{s:qT}{k:qY}{p q:qC}{l w:qZ}{ns:List Int}{ks:List Nat}{ls ws:List qZ}{i n:Nat}
theorem xf:vL (n:Int)=yx n:=by
 grind[vL]
theorem Ip(w:qZ)(ns:List Int):uS w ns=cH 32 (w::ns.map vL):=by
 unfold uS
 induction ns generalizing w<;>grind[cH]
theorem Gi(h:ls≠[]):cH 32 (ls++[w])=cH 32 ls++32::w:=by
 induction ls with
 |nil=>simp_all
 |cons v vs ih=>
  cases vs<;>grind[cH]
theorem Uu(h:ls≠[]):uS (cH 32 ls) ns=cH 32 (ls++ns.map vL):=by
 induction ns generalizing ls with
 |nil=>simp[uS]
 |cons n ns ih=>
  have:=ih (ls:=ls++[vL n]) qB
  grind[Gi,uS]
theorem Ol:aV k=cH 32 (aX::vL k.parent::(if k.kind=2 then[cM]else aW::k.params.map vL)):=by
 unfold aV
 split
 .rename_i h;rw[Ip,<- Gi qB]
  rfl
 .rename_i h
  have e:uS aX [k.parent]++32::aW=cH 32 [aX,vL k.parent,aW]:=by
   rw[Ip,<- Gi qB]
   rfl
  grind[Uu]
def cV(ns:List Int):Prop:=∀n∈ns,0<=n/\n<=99
theorem Gz(h:vT ws=Z ks):ws=(ks.map λ(n:Nat)=>(n:Int)).map vL/\cV (ks.map λ(n:Nat)=>(n:Int)):=by
 unfold vT at h
 induction ws generalizing ks with
 |nil=>
  grind[cV]
 |cons w ws ih=>
  simp only[List.mapM_cons]at h
  cases h1:jC w with
  |none=>simp_all
  |some n=>
   cases h2:ws.mapM jC with
   |none=>simp_all
   |some ms=>
    rw[h1,h2]at h;obtain rfl:=sI h;obtain⟨e1,e2⟩:=HL h1;obtain⟨f1,f2⟩:=ih h2;refine⟨?_,?_⟩
    .grind[xf]
    .intro x hx;simp only[cX,vV]at hx;rcases hx with rfl|hx
     .omega
     .exact f2 x hx
def VB:∀i,i<12->ww (ye.getD i [])=Z i:=qf
theorem MH(h:ww w=Z i):i<12/\w=ye.getD i []:=by
 unfold ww at h;obtain⟨h1,h2,_⟩:=s8.1 h;refine⟨h1,?_⟩
 simp_all
structure vb(s:qT):Prop where
 kind:0<=s.kind/\s.kind<=11
 NJ:cV (em s)
 to:s.kind=7\/s.kind=8->s.to=0/\s.b=0
 b:s.kind=0\/s.kind=1\/s.kind=3\/s.kind=4->s.b=0
 a:9<=s.kind->s.a=0/\s.b=0
end
end Go.Hm
end
