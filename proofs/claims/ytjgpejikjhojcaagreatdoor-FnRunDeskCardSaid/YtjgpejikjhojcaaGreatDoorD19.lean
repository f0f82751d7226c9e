import Derived.Test.YtjgpejikjhojcaaGreatDoorD18
set_option linter.all false
set_option maxRecDepth 100000
set_option maxHeartbeats 4000000
open Option renaming some->Z,none->Y
open Bool renaming true->B,false->M
open List renaming length->O

section
namespace Go.Hm
open Go Go.RowKit
variable{R l:List AV}{i k x:Nat}{n n0 q:Nm}
def fS(D:Nm->Bool)(S:Nm)(k:Nm):Option Nm:=if Nm.under S k then Y else if D k then Z k else Y
section
variable{hp hp' H H':Nm->Option AO}{p:qC}{m:qR}{fs:List qO}{f g:qO}{R:List AV}{v:q8}{F:Nm->Option Nm}{D:Nm->Bool}{a b c d:Nat}{S:Nm}{l:List AV}{o:Option AO}{x:AV}
def LH(hD:∀k,D k=B->k.zj=M)(hS:D S=B):(λm=>((((kl (.s a) m).bind (kl (.s b))).bind (kl (.s c))).bind (mv (.s c) S)).bind (zH D []))=fS D S:=by
 funext m
 by_cases hx:D m=B
 .have h1:=(jp hD hx a).2;have h2:=(jp hD hx b).2;have h3:=(jp hD hx c).2;by_cases hu:Nm.under S m=B
  .simp [h1,h2,h3,fS,hu]
  .simp only[kr]at hu;simp[h1,h2,h3,fS,hu,hx,zH]
 .simp only[kr]at hx;by_cases ha:Nm.under (.s a) m=B
  .simp [fS,ha,hx]
  .simp only[kr]at ha;by_cases hb:Nm.under (.s b) m=B
   .simp [fS,ha,hb,hx]
   .simp only[kr]at hb;by_cases hc:Nm.under (.s c) m=B
    .simp [fS,ha,hb,hc,hx]
    .simp only[kr]at hc;by_cases hu:Nm.under S m=B
     .simp [fS,ha,hb,hc,hu]
     .simp only[kr]at hu;simp[fS,ha,hb,hc,hu,hx,zH]
def TI(hD:∀k,D k=B->k.zj=M)(hS:D S=B):(((((x.tr (kl (.s a))).tr (kl (.s b))).tr (kl (.s c))).tr (mv (.s c) S)).tr (zH D []))=x.tr (fS D S):=by
 rw[AV.ui,AV.ui,AV.ui,AV.ui]
 congr 1
 have:=LH (a:=a) (b:=b) (c:=c) hD hS;rw[<- this]
 funext m
 cases kl (.s a) m with
 |none=>rfl
 |some m1=>
  simp only[oC]
  cases kl (.s b) m1 with
  |none=>rfl
  |some m2=>
   simp only[oC]
   cases kl (.s c) m2<;>rfl
def TJ(hD:∀k,D k=B->k.zj=M)(hS:D S=B):(((l.map (AV.tr (kl (.s c))∘AV.tr (kl (.s b))∘AV.tr (kl (.s a)))).map (AV.tr (mv (.s c) S))).map (AV.tr (zH D [])))=l.map (AV.tr (fS D S)):=by
 simp only[iy];exact oD λx _=>TI hD hS
def TK(hD:∀k,D k=B->k.zj=M)(hS:D S=B):(((((o.map (AO.tr (kl (.s a)))).map (AO.tr (kl (.s b)))).map (AO.tr (kl (.s c)))).map (AO.tr (mv (.s c) S))).map (AO.tr (zH D [])))=o.map (AO.tr (fS D S)):=by
 cases o with
 |none=>rfl
 |some o=>
  simp only[kB];rw[AO.ui,AO.ui,AO.ui,AO.ui]
  congr 2
  have:=LH (a:=a) (b:=b) (c:=c) hD hS;rw[<- this]
  funext m
  cases kl (.s a) m with
  |none=>rfl
  |some m1=>
   simp only[oC]
   cases kl (.s b) m1 with
   |none=>rfl
   |some m2=>
    simp only[oC]
    cases kl (.s c) m2<;>rfl
def JZ(D:Nm->Bool)(S:Nm)(off:Nat)(R:List AV)(vs:List q8)(H:Nm->Option AO):Nm->AV->(Nm->Option AO)->Prop:=λ_ _ H'=>
 H' Yn=Z (.row 4415 [qq (R.map (AV.tr (fS D S))) off [.hs S 2 0 (O vs)]])/\H' S=Z (.row 2 (zm vs))/\∀q,D q=B->q≠Yn->Nm.under S q=M->H' q=(H q).map (AO.tr (fS D S))
def qF.eD(h:qF hp p m)(hm:m.qN=fs++[f])(hi:O fs<151)(hS:S=.c Yn 0 (yo (O fs)+28))(hr:hp Yn=Z (.row 4415 [R])){y:AV}{r:Nm}(hw:JZ DM S (yo (O fs)+28) R (f.stack++[v]) (zU DM hp) r y H'):qF H' p {m with qN:=fs++[f.push v]}:=by
 obtain⟨J,j,hJ,hT,h2,h3,h28⟩:=h.ux hm
 obtain rfl:R=qj p m (O fs+1) (yc (fs++[f]) J):=by
  rw[hr]at hT
  injection hT with e
  injection e with e1 e2
  injection e2
 obtain⟨w1,w2,w3⟩:=hw;have hF:∀k,DM k=B->Nm.under S k=M->fS DM S k=Z k:=λk h1 h2=>by simp only[fS,h1,h2,if_true,aF,if_false]
 have hc:∀j,j≠yo (O fs)+28->Nm.under S (.c Yn 0 j)=M:=λj hj=>by subst hS;simp[hj]
 have hE:∀i,Nm.under S (En i)=M:=λi=>by subst hS;simp
 have hw3:∀q o,DM q=B->q≠Yn->Nm.under S q=M->hp q=Z o->H' q=Z (o.tr (fS DM S)):=λq o a1 a2 a3 a4=>by
  rw[w3 q a1 a2 a3];simp only[zU,a1,if_true,a4,kB]
 have hcN:∀j,j≠yo (O fs)+28->fS DM S (.c Yn 0 j)=Z (.c Yn 0 j):=λj hj=>hF _ rfl (hc j hj);have hEN:∀i,fS DM S (En i)=Z (En i):=λi=>hF _ rfl (hE i);have hne:∀i k,i≠O fs\/k≠28->k<29->yo i+k≠yo (O fs)+28:=λi k h1 h2=>kP;have hsp:fS DM S S=Y:=by simp[fS]
 have hfix:∀i g,i≠O fs->(ym i g).map (AV.tr (fS DM S))=ym i g:=by
  intro i g hi;simp only[ym,rF,G0,cX,rE];have e2:=hcN _ (hne i 2 (.inl hi) qA);have e3:=hcN _ (hne i 3 (.inl hi) qA);have e28:=hcN _ (hne i 28 (.inl hi) qA);simp only[yo]at e2 e3 e28;simp[AV.tr,e2,e3,e28]
 have hrow:qq ((qj p m (O fs+1) (yc (fs++[f]) J)).map (AV.tr (fS DM S))) (yo (O fs)+28) [.hs S 2 0 (O (f.stack++[v]))]=qj p m (O fs+1) (yc (fs++[f.push v]) λi=>(J i).map (AV.tr (fS DM S))):=by
  have hmap:(qj p m (O fs+1) (yc (fs++[f]) J)).map (AV.tr (fS DM S))=qj p m (O fs+1) λi=>(yc (fs++[f]) J i).map (AV.tr (fS DM S)):=by
   have h1:(vQ (yc (fs++[f]) J) 151).map (AV.tr (fS DM S))=vQ (λi=>(yc (fs++[f]) J i).map (AV.tr (fS DM S))) 151:=DL λi _=>rfl;have hk:∀j,j<32->fS DM S (.c Yn 0 j)=Z (.c Yn 0 j):=λj hj=>hcN j kP;simp only[qj,rF,h1,G0];simp[yA,yB,yZ,hk,AV.tr,AC]
  rw[hmap];have:=Ek (p:=p) (m:=m) (h:=O fs+1) (c:=λi=>(yc (fs++[f]) J i).map (AV.tr (fS DM S))) (c':=yc (fs++[f.push v]) λi=>(J i).map (AV.tr (fS DM S))) (i:=O fs) (j:=28) (vals:=[.hs S 2 0 (O (f.stack++[v]))]) (λi=>by simp[bI hJ]) hi qB (λk hk=>?_) ?_
  .rw [<- dL]at this;exact this
  .unfold yc;rcases oE k (O fs)with e|e|e
   .rw [ua e,ua e,gE e];simp only;rw[hfix k _ hk]
   .exact absurd e hk
   .rw [eX qp,eX qp]
  .have h1:(fs++[f])[O fs]?=Z f:=qB;have h2:(fs++[f.push v])[O fs]?=Z (f.push v):=qB;rw[AH h1,AH h2];have e2:=hcN _ (hne (O fs) 2 (.inr qA) qA);have e3:=hcN _ (hne (O fs) 3 (.inr qA) qA);simp only[yo]at e2 e3
   have h3:(ym (O fs) f).map (AV.tr (fS DM S))=[iv f.qG,iv f.pc,.hs (.c Yn 0 (32+29*O fs+2)) 3 0 (O f.qt),.hs (.c Yn 0 (32+29*O fs+3)) 1 0 (O f.cells)]++(jy f.names++[AV.bot]):=by
    have hb:fS DM S (.c Yn 0 (32+29*O fs+28))=Y:=by rw[<- hS];exact hsp
    simp only[ym,rF,G0,cX,rE];simp[AV.tr,e2,e3,hb]
   rw[h3,hS];have h4:O ([iv f.qG,iv f.pc,.hs (.c Yn 0 (32+29*O fs+2)) 3 0 (O f.qt),.hs (.c Yn 0 (32+29*O fs+3)) 1 0 (O f.cells)]++jy f.names)=28:=qB;rw[<- gm];unfold qq;rw[List.take_append_of_le_length (by rw[h4];exact qb _),jg (by rw[h4];exact qb _),CX qB];simp[ym,qO.push]
 have key:∀(i:Nat)f',(fs++[f.push v])[i]?=Z f'->(i=O fs/\f'=f.push v)\/(i<O fs/\m.qN[i]?=Z f'):=by
  intro i f' hf;rcases oE i (O fs)with e|e|e
  .rw [ua e]at hf;exact .inr ⟨e,by rw[hm,ua e];exact hf⟩
  .subst e;simp at hf;exact .inl ⟨rfl,hf.symm⟩
  .rw [eX qp]at hf
   cases hf
 have hy:∀j,(.c Yn 0 j:Nm)≠Yn:=λj e=>vi;refine⟨⟨λi=>(J i).map (AV.tr (fS DM S)),λi=>iG,?_⟩,?_,?_,?_,?_,?_,λi f' hf=>?_,λi f' hf=>?_,λi f' hf=>?_,λc s hs=>?_,λa b c ha hn=>?_⟩
 .rw [w1,hrow];simp only[u7,aG]
  rfl
 .rw [hw3 _ _ rfl (hy 1) (hc 1 kP) h.vI];simp[AO.tr]
 .rw [hw3 _ _ rfl (hy 4) (hc 4 kP) h.out];simp[AO.tr]
 .rw [hw3 _ _ rfl (hy 5) (hc 5 kP) h.zt];simp[AO.tr]
 .rw [hw3 _ _ rfl (hy 30) (hc 30 kP) h.qI];simp only[AO.tr];rw[UB hEN]
 .rw [hw3 _ _ rfl (hy 31) (hc 31 kP) h.jG];simp[AO.tr]
 .rcases key i f' hf with⟨rfl,rfl⟩|⟨hl,hf⟩
  .rw [hw3 _ _ rfl (hy _) (hc _ (hne (O fs) 2 (.inr qA) qA)) h2];simp[AO.tr,qO.push]
  .rw [hw3 _ _ rfl (hy _) (hc _ (hne i 2 (.inl qA) qA)) (h.qt i f' hf)];simp[AO.tr]
 .rcases key i f' hf with⟨rfl,rfl⟩|⟨hl,hf⟩
  .rw [hw3 _ _ rfl (hy _) (hc _ (hne (O fs) 3 (.inr qA) qA)) h3];simp only[AO.tr];rw[xE hEN]
   rfl
  .rw [hw3 _ _ rfl (hy _) (hc _ (hne i 3 (.inl qA) qA)) (h.cls i f' hf)];simp only[AO.tr];rw[xE hEN]
 .rcases key i f' hf with⟨rfl,rfl⟩|⟨hl,hf⟩
  .exact⟨[],by rw[<- hS,w2];simp[qO.push]⟩
  .exact (h.stack i f' hf).imp λj hj=>by rw[hw3 _ _ rfl (hy _) (hc _ (hne i 28 (.inl qA) qA)) hj];simp[AO.tr]
 .rw [hw3 _ _ rfl qB (hE c) (h.cell c s hs)];simp[AO.tr]
 .by_cases e:a=1/\b=0/\c=0
  .exact .inl e
  .refine h.only a b c ha λe'=>hn ?_;rw[w3 (.u a b c) ha (by simpa using e) (by subst hS;simp)];have hd:DM (.u a b c)=B:=ha;simp only[zU,hd,if_true,e',Option.map_none]
end
noncomputable def DN(p:qC)(f:Int):Int:=if kZ p f=B then O (yj p f.toNat).cells else -1
noncomputable def xH(p:qC)(f:Int):Int×Int:=if kZ p f=B then((yj p f.toNat).made,(yj p f.toNat).deep)else(-1,-1)
section
variable{hp hp':Nm->Option AO}{p:qC}{m m':qR}{fs:List qO}{f g:qO}{R R':List AV}{i:Nat}{e:Int}{v:q8}
theorem qAJ{o:List AV}(h:hp Yn=Z (.row 4415 [R]))(h':hp Yn=Z (.row 4415 [o])):o=R:=by
 simp_all
theorem ik(h:i<k):¬i=k/\(29*i=29*k)=False/\(∀a,a<29->(32+29*i+a=yo k)=False)/\∀a,(32+29*i=yo k+a)=False:=
 ⟨qA,eq_false qA,λa ha=>eq_false qx,λa=>eq_false qx⟩
theorem qF.uY(h:qF hp p m)(hm:m.qN=fs++[f])(hm':m'.qN=fs++[g])(hc:O m'.cells=O m.cells)
  (h0:∀J:Nat->List AV,(∀i,O (J i)=29)->hp Yn=Z (.row 4415 [qj p m (O fs+1) (yc (fs++[f]) J)])->∃J':Nat->List AV,(∀i,O (J' i)=29)/\hp' Yn=Z (.row 4415 [qj p m' (O fs+1) (yc (fs++[g]) J')]))
  (h1:hp' (.c Yn 0 1)=Z (.row 1 (kE p (O p))):=by simp[h.vI])
  (h2:hp' (.c Yn 0 4)=Z (.row 1 (qh m'.out)):=by simp[h.out])
  (h3:hp' (.c Yn 0 5)=Z (.row 2 (vR m'.trace)):=by simp[h.zt])
  (h4:hp' (.c Yn 0 30)=Z (.row 2 (ut m'.qI)):=by simp[h.qI])
  (h5:hp' (.c Yn 0 31)=Z (.row 24 (wQ m'.qU)):=by simp[h.jG])
  (h6:∀(i:Nat)x,i<O fs->hp (.c Yn 0 (32+29*i+2))=Z (.row 3 (zD x))->hp' (.c Yn 0 (32+29*i+2))=Z (.row 3 (zD x)):=by intro i x hi hx;have e:=ik hi;simp[hx,e.1,e.2.1,e.2.2.1,e.2.2.2])
  (h6t:hp' (.c Yn 0 (yo (O fs)+2))=Z (.row 3 (zD g.qt)):=by simp[h.qt])
  (h7:∀(i:Nat)x,i<O fs->hp (.c Yn 0 (32+29*i+3))=Z (.row 1 (zd x))->hp' (.c Yn 0 (32+29*i+3))=Z (.row 1 (zd x)):=by intro i x hi hx;have e:=ik hi;simp[hx,e.1,e.2.1,e.2.2.1,e.2.2.2])
  (h7t:hp' (.c Yn 0 (yo (O fs)+3))=Z (.row 1 (zd g.cells)))
  (h8:∀(i:Nat)x,i<O fs->hp (.c Yn 0 (32+29*i+28))=Z (.row 2 (zm x))->hp' (.c Yn 0 (32+29*i+28))=Z (.row 2 (zm x)):=by intro i x hi hx;have e:=ik hi;simp[hx,e.1,e.2.1,e.2.2.1,e.2.2.2])
  (h8t:∃j,hp' (.c Yn 0 (yo (O fs)+28))=Z (.row 2 (zm (g.stack++j))))
  (h9:∀(c:Nat)s,m'.cells[c]?=Z s->hp' (En c)=Z (.row 3 [jv s]):=by intro c s hc;simp[h.cell c s hc])
  (hA:∀k i j,fM k=B->¬(k=1/\i=0/\j=0)->hp' (.u k i j)≠Y->hp (.u k i j)≠Y:=by intro k i j hk e hn;simpa[hk,e]using hn):qF hp' p m':=by
 have key:∀(i:Nat)f',m'.qN[i]?=Z f'->(i=O fs/\f'=g)\/(i<O fs/\m.qN[i]?=Z f'):=by
  grind
 refine⟨?_,h1,h2,h3,h4,h5,λi f' hf=>?_,λi f' hf=>?_,λi f' hf=>?_,h9,λk i j hk hn=>?_⟩
 .grind[top]
 .rcases key i f' hf with⟨rfl,rfl⟩|⟨h1,h2⟩
  .exact h6t
  .exact h6 i _ h1 (h.qt i f' h2)
 .rcases key i f' hf with⟨rfl,rfl⟩|⟨h1,h2⟩
  .exact h7t
  .exact h7 i _ h1 (h.cls i f' h2)
 .rcases key i f' hf with⟨rfl,rfl⟩|⟨h1,h2⟩
  .exact h8t
  .obtain⟨j,hj⟩:=h.stack i f' h2
   grind
 .by_cases e:k=1/\i=0/\j=0
  .omega
  .rw [hc];exact h.only k i j hk (hA k i j hk e hn)
theorem qF.yX(h:qF hp p m)(hm:m.qN=fs++[f])(hi:O fs<151):∃R j,hp Yn=Z (.row 4415 [R])/\nw p m (O fs) f R/\hp (.c Yn 0 (yo (O fs)+2))=Z (.row 3 (zD f.qt))/\hp (.c Yn 0 (yo (O fs)+3))=Z (.row 1 (zd f.cells))/\hp (.c Yn 0 (yo (O fs)+28))=Z (.row 2 (zm (f.stack++j))):=by
 obtain⟨J,j,hJ,hT,h2,h3,h28⟩:=h.ux hm
 grind[qDT]
theorem pJ(hr:hp Yn=Z (.row 4415 [R]))(h':hp' Yn=Z (.row 4415 [R']))(h0:∀J:Nat->List AV,(∀i,O (J i)=29)->R=qj p m (O fs+1) (yc (fs++[f]) J)->R'=qj p m' (O fs+1) (yc (fs++[g]) J)):
  ∀J:Nat->List AV,(∀i,O (J i)=29)->hp Yn=Z (.row 4415 [qj p m (O fs+1) (yc (fs++[f]) J)])->∃J':Nat->List AV,(∀i,O (J' i)=29)/\hp' Yn=Z (.row 4415 [qj p m' (O fs+1) (yc (fs++[g]) J')]):=λJ hJ e=>
 ⟨J,hJ,qx⟩
theorem EI(hr:hp Yn=Z (.row 4415 [R]))(h':hp' Yn=Z (.row 4415 [R']))(h0:∀J:Nat->List AV,(∀i,O (J i)=29)->R=qj p m (O fs+1) (yc (fs++[f]) J)->∃J':Nat->List AV,(∀i,O (J' i)=29)/\R'=qj p m' (O fs+1) (yc (fs++[g]) J')):
  ∀J:Nat->List AV,(∀i,O (J i)=29)->hp Yn=Z (.row 4415 [qj p m (O fs+1) (yc (fs++[f]) J)])->∃J':Nat->List AV,(∀i,O (J' i)=29)/\hp' Yn=Z (.row 4415 [qj p m' (O fs+1) (yc (fs++[g]) J')]):=λJ hJ e=>by
 grind
@[simp]theorem yo_ne(h:k<32):(32+29*i=k)↔False:=iff_false_intro qA
theorem o8{a b:Nm->Option Nm}:(AV.tr a∘AV.tr b)=AV.tr (λm=>(b m).bind a):=by
 grind[AV.ui]
theorem CC{v:AV}:l.take k++v::l.drop (k+1)=qq l k [v]:=Ac
section
variable{F:Nm->Option Nm}{h:Nat}{c J:Nat->List AV}{x:AV}{L:List qO}
theorem pZ:(qj p m h c).map (AV.tr F)=(yA p m).map (AV.tr F)++(jy m.globals++((yB m).map (AV.tr F)++(vQ (λi=>(c i).map (AV.tr F)) 151++yZ m h))):=by
 have h1:(vQ c 151).map (AV.tr F)=vQ (λi=>(c i).map (AV.tr F)) 151:=DL λi _=>rfl
 simp_all[qj,yZ]
def CO(hF:∀j,32<=j->F (.c Yn 0 j)=Z (.c Yn 0 j)):(λi=>(yc L J i).map (AV.tr F))=yc L λi=>(J i).map (AV.tr F):=by
 funext i
 unfold yc
 split
 .simp [ym,hF _ (show 32<=32+29*i+2 by omega),hF _ (show 32<=32+29*i+3 by omega),hF _ (show 32<=32+29*i+28 by omega),AV.tr]
 .rfl
theorem qEd(hF:∀j,j≠4->F (.c Yn 0 j)=Z (.c Yn 0 j)):qq ((qj p m h (yc L J)).map (AV.tr F)) 4 [x]=qq (qj p m h (yc L λi=>(J i).map (AV.tr F))) 4 [x]:=by
 rw[pZ,CO λj hj=>hF j qA]
 simp_all[qj,yA,yB,qq]
theorem qEe(hF:∀j,j≠5->F (.c Yn 0 j)=Z (.c Yn 0 j)):qq ((qj p m h (yc L J)).map (AV.tr F)) 5 [x]=qq (qj p m h (yc L λi=>(J i).map (AV.tr F))) 5 [x]:=by
 rw[pZ,CO λj hj=>hF j qA]
 simp_all[qj,yA,yB,qq]
theorem QC{a b a' b':AV}{S:List AV}{P:List AV}(hP:O P=30)(hk:(k=30/\b=b')\/(k=31/\a=a')):qq (P++([a,b]++S)) k [x]=qq (P++([a',b']++S)) k [x]:=by
 rcases hk with⟨rfl,rfl⟩|⟨rfl,rfl⟩
 .have h1:=xx (P:=P) (X:=[a,b]) (S:=S) (k:=0) (vals:=[x]) qB
  grind[qq]
 .have h1:=xx (P:=P) (X:=[a,b]) (S:=S) (k:=1) (vals:=[x]) qB;have h2:=xx (P:=P) (X:=[a,b']) (S:=S) (k:=1) (vals:=[x]) qB
  grind[qq]
theorem qEb(hF:∀j,j≠30->F (.c Yn 0 j)=Z (.c Yn 0 j)):qq ((qj p m h (yc L J)).map (AV.tr F)) 30 [x]=qq (qj p m h (yc L λi=>(J i).map (AV.tr F))) 30 [x]:=by
 rw[pZ,CO λj hj=>hF j qA,pV];have e:(yA p m).map (AV.tr F)=yA p m:=by simp_all[yA]
 rw[e,<- gm];exact QC (by simp[yA]) (.inl ⟨rfl,qQ⟩)
theorem qEc(hF:∀j,j≠31->F (.c Yn 0 j)=Z (.c Yn 0 j)):qq ((qj p m h (yc L J)).map (AV.tr F)) 31 [x]=qq (qj p m h (yc L λi=>(J i).map (AV.tr F))) 31 [x]:=by
 rw[pZ,CO λj hj=>hF j qA,pV];have e:(yA p m).map (AV.tr F)=yA p m:=by simp_all[yA]
 rw[e,<- gm];exact QC (by simp[yA]) (.inr ⟨rfl,qQ⟩)
theorem qAG{o:List (Nat×Nat)}(hF:∀j,j≠5->F (.c Yn 0 j)=Z (.c Yn 0 j)):qq ((qj p m h (yc L J)).map (AV.tr F)) 5 [.hs (.c Yn 0 5) 2 0 (O o)]=qj p {m with trace:=o} h (yc L λi=>(J i).map (AV.tr F)):=by rw[qEe hF,qEk]
theorem qAF{o:List Int}(hF:∀j,j≠4->F (.c Yn 0 j)=Z (.c Yn 0 j)):qq ((qj p m h (yc L J)).map (AV.tr F)) 4 [.hs (.c Yn 0 4) 1 0 (O o)]=qj p {m with out:=o} h (yc L λi=>(J i).map (AV.tr F)):=by rw[qEd hF,qEj]
theorem qAD{o:List (Nat×List Nat)}(hF:∀j,j≠30->F (.c Yn 0 j)=Z (.c Yn 0 j)):qq ((qj p m h (yc L J)).map (AV.tr F)) 30 [.hs (.c Yn 0 30) 2 0 (O o)]=qj p {m with qI:=o} h (yc L λi=>(J i).map (AV.tr F)):=by rw[qEb hF,qEh]
theorem qAE{o:List (List qr)}(hF:∀j,j≠31->F (.c Yn 0 j)=Z (.c Yn 0 j)):qq ((qj p m h (yc L J)).map (AV.tr F)) 31 [.hs (.c Yn 0 31) 24 0 (O o)]=qj p {m with qU:=o} h (yc L λi=>(J i).map (AV.tr F)):=by rw[qEc hF,qEi]
theorem US(o:List Int){v:AV}(hJ:∀i,O (J i)=29)(hv:v=.hs (.c Yn 0 4) 1 0 (O o))(hF:∀j,j≠4->F (.c Yn 0 j)=Z (.c Yn 0 j)):∃J':Nat->List AV,(∀i,O (J' i)=29)/\((qj p m h (yc L J)).map (AV.tr F)).take 4++v::((qj p m h (yc L J)).map (AV.tr F)).drop 5=qj p {m with out:=o} h (yc L J'):=
 ⟨λi=>(J i).map (AV.tr F),λi=>iG,by grind[CC,qAF]⟩
theorem UT(o:List (Nat×Nat)){v:AV}(hJ:∀i,O (J i)=29)(hv:v=.hs (.c Yn 0 5) 2 0 (O o))(hF:∀j,j≠5->F (.c Yn 0 j)=Z (.c Yn 0 j)):∃J':Nat->List AV,(∀i,O (J' i)=29)/\((qj p m h (yc L J)).map (AV.tr F)).take 5++v::((qj p m h (yc L J)).map (AV.tr F)).drop 6=qj p {m with trace:=o} h (yc L J'):=
 ⟨λi=>(J i).map (AV.tr F),λi=>iG,by grind[CC,qAG]⟩
theorem UQ(o:List (Nat×List Nat)){v:AV}(hJ:∀i,O (J i)=29)(hv:v=.hs (.c Yn 0 30) 2 0 (O o))(hF:∀j,j≠30->F (.c Yn 0 j)=Z (.c Yn 0 j)):∃J':Nat->List AV,(∀i,O (J' i)=29)/\((qj p m h (yc L J)).map (AV.tr F)).take 30++v::((qj p m h (yc L J)).map (AV.tr F)).drop 31=qj p {m with qI:=o} h (yc L J'):=
 ⟨λi=>(J i).map (AV.tr F),λi=>iG,by grind[CC,qAD]⟩
theorem UR(o:List (List qr)){v:AV}(hJ:∀i,O (J i)=29)(hv:v=.hs (.c Yn 0 31) 24 0 (O o))(hF:∀j,j≠31->F (.c Yn 0 j)=Z (.c Yn 0 j)):∃J':Nat->List AV,(∀i,O (J' i)=29)/\((qj p m h (yc L J)).map (AV.tr F)).take 31++v::((qj p m h (yc L J)).map (AV.tr F)).drop 32=qj p {m with qU:=o} h (yc L J'):=
 ⟨λi=>(J i).map (AV.tr F),λi=>iG,by grind[CC,qAE]⟩
end
theorem qF.Ps(h:qF hp p m)(hm:m.qN=fs++[f])(hm':m'.qN=fs++[g])(hr:hp Yn=Z (.row 4415 [R]))(h0:∀J:Nat->List AV,(∀i,O (J i)=29)->R=qj p m (O fs+1) (yc (fs++[f]) J)->R'=qj p m' (O fs+1) (yc (fs++[g]) J))
  (e1:m'.cells=m.cells:=by rfl)(e2:m'.out=m.out:=by rfl)(e3:m'.trace=m.trace:=by rfl)(e4:m'.qI=m.qI:=by rfl)(e5:m'.qU=m.qU:=by rfl)(g1:g.qt=f.qt:=by rfl)(g2:g.cells=f.cells:=by rfl)(g3:∃l,f.stack=g.stack++l:=by exact⟨[],qB⟩):
  qF (zR Yn (.row 4415 [R']) hp) p m':=by
 have hf:m.qN[O fs]?=Z f:=dS;refine h.uY hm hm' (by rw[e1]) (pJ hr th h0) (by simp[zR,h.vI]) (by grind[zR,out]) (by grind[zR,zt]) (by grind[zR,qI]) (by grind[zR,jG]) (λi x _ hx=>qQ) ?_ (λi x _ hx=>qQ) ?_ (λi x _ hx=>qQ) ?_ (λc s hc=>?_) (λk i j hk e hn=>?_)
 .rw [g1];simp[zR,h.qt _ f hf]
 .rw [g2];simp[zR,h.cls _ f hf]
 .obtain⟨j,hj⟩:=h.stack _ f hf
  grind[zR]
 .rw [e1]at hc;simp[zR,h.cell c s hc]
 grind[zR]
theorem qF.gG(h:qF hp p m)(hm:m.qN=fs++[f])(hr:hp Yn=Z (.row 4415 [R])):qF (zR Yn (.row 4415 [qq R 3 [iv e]]) hp) p {m with en:=e}:=
 h.Ps hm (m':={m with en:=e}) (g:=f) hm hr (λJ _ e=>by grind[qEg])
end
def uN(m:qR)(fs:List qO)(f:qO)(o:Int×Int)(w:Nat)(e:Int):qR:=
 if w=1 then yE m fs f.pop o (Z f.zE)else match ka m f o with
  |none=>m.stop fs f e
  |some v=>if w=0 then m.top fs (f.push v)else yE m fs f o Y
structure mD(p:qC)(m:qR)(fs:List qO)(f:qO)(o:Int×Int)(off:Nat):Prop where
 le:off+3<=4411
 rd:∀g R,g.names=f.names->nw p (m.top fs g) (O fs) g R->∀j,j<3->R[off+j]?=(jv (ka m f o))[j]?
 wr:∀g s,g.names=f.names->g.cells=f.cells->∃G,(yE m fs g o s).qN=fs++[G]/\G.qt=g.qt/\G.cells=g.cells/\G.stack=g.stack/\(yE m fs g o s).cells=m.cells/\(yE m fs g o s).out=m.out/\(yE m fs g o s).trace=m.trace/\(yE m fs g o s).qI=m.qI/\(yE m fs g o s).qU=m.qU/\(yE m fs g o s).en=m.en /\
  ∀J:Nat->List AV,(∀i,O (J i)=29)->qq (qj p (m.top fs g) (O fs+1) (yc (fs++[g]) J)) off (jv s)=qj p (yE m fs g o s) (O fs+1) (yc (fs++[G]) J)
section
variable{p:qC}{m:qR}{fs:List qO}{f g:qO}{o:Int×Int}{x:Nat}
theorem mD.zM(hg:O m.globals=8)(h1:8<=o.1)(h2:o.1<=10)(hx:o.2.toNat<8):mD p m fs f o (6+3*o.2.toNat):=by
 have e1:¬o.1<=4:=qA;have e2:¬o.1<=7:=qA;refine⟨qA,λg R _ tr j hj=>?_,λg s _ _=>⟨g,?_⟩⟩
 .rw [dL,tr.gl _ j hx hj]
  grind[ka,qR.top]
 .have e:yE m fs g o s={m.top fs g with globals:=m.globals.set o.2.toNat s}:=by grind[yE]
  simp_all[qEn]
theorem mD.name(hn:O f.names=8)(hi:O fs<151)(h1:11<=o.1)(hx:o.2.toNat<8):mD p m fs f o (yo (O fs)+4+3*o.2.toNat):=by
 have e1:¬o.1<=4:=qA;have e2:¬o.1<=7:=qA;have e3:¬o.1<=10:=qA;refine⟨qx,λg R hg tr j hj=>?_,λg s hg _=>⟨{g with names:=g.names.set o.2.toNat s},?_⟩⟩
 .rw [dL,tr.nm _ j hx hj]
  grind[ka]
 .have e:yE m fs g o s=m.top fs {g with names:=g.names.set o.2.toNat s}:=by grind[yE]
  rw[e];refine⟨rfl,rfl,rfl,rfl,rfl,rfl,rfl,rfl,rfl,rfl,λJ hJ=>?_⟩;have:=El (p:=p) (m:=m.top fs g) (h:=O fs+1) (J:=J) (fs:=fs++[g]) (i:=O fs) (f:=g) (g:={g with names:=g.names.set o.2.toNat s}) (j:=4+3*o.2.toNat) (vals:=jv s) hJ qB hi qp (qEx qQ hx)
  grind[qj,yA,yB,yZ,qR.top]
end
def im:Nm->Bool:=λk=>DM k||Nm.under (.u 9 0 0) k
def JP(h:im q=B):q.zj=M:=by
 rcases AX _ _ ▸ h with h|h
 .exact zF h
 .exact y8 rfl h
theorem Er(h:Nm.under (.u 9 0 0) q=B):DM q=M:=by
 induction q with
 |s d=>simp at h
 |u a b c=>
  simp at h;obtain⟨rfl,rfl,rfl⟩:=h
  rfl
 |c r i j ih=>
  simp_all
theorem QV(h:Nm.under Yn q=B):DM q=B:=by
 induction q<;>simp_all
def Ep{j:Nat}(h:Nm.under (.c Yn 0 j) q=B):DM q=B:=QV (Nm.ie qB h)
section
variable{hp hp':Nm->Option AO}{p:qC}{m:qR}{fs:List qO}{f:qO}{k j:Nat}
theorem qBz{g:AV->AV}{vals:List AV}:(qq l k vals).map g=qq (l.map g) k (vals.map g):=by simp_all[qq]
def qF.same(h:qF hp p m)(hs:u6 DM hp' hp):qF hp' p m:=by
 obtain⟨F,h1,h2⟩:=hs;exact h.qy h1 h2
theorem qF.wx(h:qF hp p m)(hm:m.qN=fs++[f])(hi:O fs<151)(hk:O f.stack=k+1)(hj:j≠yo (O fs)+28):∃(R R':List AV)(vs:List q8),hp Yn=Z (.row 4415 [R])/\(zU im (jP (.c Yn 0 j) (.u 9 0 0) hp)) Yn=Z (.row 4415 [R'])/\R'[yo (O fs)+28]?=Z (.hs (.c Yn 0 (yo (O fs)+28)) 2 0 (k+1))/\(zU im (jP (.c Yn 0 j) (.u 9 0 0) hp)) (.c Yn 0 (yo (O fs)+28))=Z (.row 2 (zm vs))/\vs[k]?=Z f.zE /\
  (AO.row 4415 [qq R (yo (O fs)+28) [.hs (.c Yn 0 (yo (O fs)+28)) 2 0 k]]).tr (mv (.c Yn 0 j) (.u 9 0 0))=.row 4415 [qq R' (yo (O fs)+28) [.hs (.c Yn 0 (yo (O fs)+28)) 2 0 k]]:=by
 obtain⟨R,i,hT,tr,h2,h3,h28⟩:=h.yX hm hi;have e1:Nm.under (.c Yn 0 j) Yn=M:=qB;have e2:Nm.under (.c Yn 0 j) (.c Yn 0 (yo (O fs)+28))=M:=by simp[Ne.symm hj]
 have hm:mv (.c Yn 0 j) (.u 9 0 0) (.c Yn 0 (yo (O fs)+28))=Z (.c Yn 0 (yo (O fs)+28)):=qQ;have he:∀q,(AV.hs (.c Yn 0 (yo (O fs)+28)) 2 0 q).tr (mv (.c Yn 0 j) (.u 9 0 0))=.hs (.c Yn 0 (yo (O fs)+28)) 2 0 q:=λq=>qQ;refine⟨R,R.map (AV.tr (mv (.c Yn 0 j) (.u 9 0 0))),f.stack++i,hT,?_,?_,?_,ib hk,?_⟩
 .simp_all[im,jP]
 .grind[nw.f28]
 .simp_all[im,jP]
 simp_all[qBz]
theorem nw.Li{v:q8}(tr:nw p m i f R)(hx:x<8)(h:j7 m.globals x=Z v):(R.drop (6+x*3+1)).take 2=[iv v.1,iv v.2]:=by
 have g1:=tr.gl x 1 hx qA;have g2:=tr.gl x 2 hx qA
 simp_all<;>grind[AB]
theorem nw.Wd{v:q8}(tr:nw p m i f R)(hx:x<8)(h:j7 f.names x=Z v):(R.drop (yo i+4+x*3+1)).take 2=[iv v.1,iv v.2]:=by
 have g1:=tr.nm x 1 hx qA;have g2:=tr.nm x 2 hx qA
 simp_all<;>grind[AB]
end
def pf(hp:Nm->Option AO)(p:qC)(m:qR)(h:Nat):Prop:=∃J:Nat->List AV,(∀i,O (J i)=29)/\hp Yn=Z (.row 4415 [qj p m h (yc m.qN J)])/\qF (zR Yn (.row 4415 [qj p m (O m.qN) (yc m.qN J)]) hp) p m
section
variable{hp hp':Nm->Option AO}{p:qC}{m:qR}{fs:List qO}{f:qO}{h:Nat}{F:Nm->Option Nm}{J:Nat->List AV}{vals R:List AV}
theorem qAI(hJ:∀i,O (J i)=29)(hi:O fs<151)(hv:O vals=29)(hF:∀j,j≠yo (O fs)+2->j≠yo (O fs)+3->j≠yo (O fs)+28->F (.c Yn 0 j)=Z (.c Yn 0 j)):
  qq ((qj p m h (yc (fs++[f]) J)).map (AV.tr F)) (yo (O fs)) vals=qj p m h (yc fs λk=>if k=O fs then vals else(J k).map (AV.tr F)):=by
 have hl:∀j,j<32->F (.c Yn 0 j)=Z (.c Yn 0 j):=λj hj=>hF j qx qx qx;have eA:(yA p m).map (AV.tr F)=yA p m:=by simp_all[yA]
 have eB:(yB m).map (AV.tr F)=yB m:=by simp_all[yB]
 rw[pZ,eA,eB];have e:yA p m++(jy m.globals++(yB m++(vQ (λi=>(yc (fs++[f]) J i).map (AV.tr F)) 151++yZ m h)))=qj p m h λi=>(yc (fs++[f]) J i).map (AV.tr F):=rfl;rw[e,show yo (O fs)=32+(29*O fs+0)by simp];refine Ek (λi=>by simp[bI hJ]) hi qA (λk hk=>?_) ?_
 .unfold yc;rcases oE k (O fs)with e|e|e
  .rw [ua e,gE e];have h1:∀a,a<29->a=2\/a=3\/a=28->F (.c Yn 0 (32+29*k+a))=Z (.c Yn 0 (32+29*k+a)):=λa ha _=>hF _ qx qx qx
   simp_all[ym]
  .omega
  .rw [eX qA,eX qp];simp[hk]
 simp_all[yc,qq]
theorem qF.Kx(h:qF hp p m)(hm:m.qN=fs++[f])(hi:O fs<151)(hr:hp Yn=Z (.row 4415 [R]))
  (hv:O vals=29)(hF:∀j,j≠yo (O fs)+2->j≠yo (O fs)+3->j≠yo (O fs)+28->F (.c Yn 0 j)=Z (.c Yn 0 j))
  (h0:hp' Yn=Z (.row 4415 [qq (R.map (AV.tr F)) (yo (O fs)) vals]))
  (h1:hp' (.c Yn 0 1)=Z (.row 1 (kE p (O p))):=by simp[h.vI])
  (h2:hp' (.c Yn 0 4)=Z (.row 1 (qh m.out)):=by simp[h.out])
  (h3:hp' (.c Yn 0 5)=Z (.row 2 (vR m.trace)):=by simp[h.zt])
  (h4:hp' (.c Yn 0 30)=Z (.row 2 (ut m.qI)):=by simp[h.qI])
  (h5:hp' (.c Yn 0 31)=Z (.row 24 (wQ m.qU)):=by simp[h.jG])
  (h6:∀(i:Nat)x,i<O fs->hp (.c Yn 0 (32+29*i+2))=Z (.row 3 (zD x))->hp' (.c Yn 0 (32+29*i+2))=Z (.row 3 (zD x)):=by intro i x hi hx;have e:=ik hi;simp[hx,e.1,e.2.1,e.2.2.1,e.2.2.2])
  (h7:∀(i:Nat)x,i<O fs->hp (.c Yn 0 (32+29*i+3))=Z (.row 1 (zd x))->hp' (.c Yn 0 (32+29*i+3))=Z (.row 1 (zd x)):=by intro i x hi hx;have e:=ik hi;simp[hx,e.1,e.2.1,e.2.2.1,e.2.2.2])
  (h8:∀(i:Nat)x,i<O fs->hp (.c Yn 0 (32+29*i+28))=Z (.row 2 (zm x))->hp' (.c Yn 0 (32+29*i+28))=Z (.row 2 (zm x)):=by intro i x hi hx;have e:=ik hi;simp[hx,e.1,e.2.1,e.2.2.1,e.2.2.2])
  (h9:∀(c:Nat)s,m.cells[c]?=Z s->hp' (En c)=Z (.row 3 [jv s]):=by intro c s hc;simp[h.cell c s hc])
  (hA:∀k i j,fM k=B->¬(k=1/\i=0/\j=0)->hp' (.u k i j)≠Y->hp (.u k i j)≠Y:=by intro k i j hk e hn;simpa[hk,e]using hn):
  pf hp' p {m with qN:=fs} (O fs+1):=by
 obtain⟨J,hJ,e⟩:=h.top
 have hR:R=qj p m (O fs+1) (yc (fs++[f]) J):=by
  simp_all
 have key:∀(i:Nat)f',fs[i]?=Z f'->i<O fs/\m.qN[i]?=Z f':=λi f' hf=>by
  grind
 have hrow:=qAI (p:=p) (m:=m) (f:=f) (h:=O fs+1) hJ hi hv hF;refine⟨λk=>if k=O fs then vals else(J k).map (AV.tr F),λi=>?_,?_,⟨λk=>if k=O fs then vals else(J k).map (AV.tr F),λi=>?_,?_⟩,qQ,qQ,qQ,qQ,qQ,λi f' hf=>?_,λi f' hf=>?_,λi f' hf=>?_,λc s hc=>?_,λk i j hk hn=>?_⟩
 .grind
 .rw [h0,hR,hrow]
  rfl
 .grind
 .simp [zR]
 .obtain⟨a,b⟩:=key i f' hf;simp only[zR];rw[if_neg qB];exact h6 i _ a (h.qt i f' b)
 .obtain⟨a,b⟩:=key i f' hf;simp only[zR];rw[if_neg qB];exact h7 i _ a (h.cls i f' b)
 .obtain⟨a,b⟩:=key i f' hf;obtain⟨j,hj⟩:=h.stack i f' b
  grind[zR]
 .simp_all
 .by_cases e:k=1/\i=0/\j=0
  .omega
  .refine h.only k i j hk (hA k i j hk e ?_)
   simp_all
theorem pf.done(hY:pf hp p m h)(hr:hp Yn=Z (.row 4415 [R]))(h0:hp' Yn=Z (.row 4415 [qq R 4411 [iv (O m.qN:Nat)]]))(hh:∀q,DM q=B->q≠Yn->hp' q=hp q):qF hp' p m:=by
 obtain⟨J,hJ,e,hO⟩:=hY;refine hO.qy (f:=Z) (λ_ _=>rfl) λq hq=>?_;by_cases hq1:q=Yn
 .grind[QD,bI,zR,AO.uO]
 .rw [hh q hq hq1];simp only[zR];rw[if_neg hq1]
  cases hp q<;>simp[AO.uO]
theorem pf.ht(hY:pf hp p m h):∃R,hp Yn=Z (.row 4415 [R])/\O R=4415/\R[4411]?=Z (iv h):=by
 obtain⟨J,hJ,e,_⟩:=hY
 grind[pW,bI,Ej]
end
section
variable{st:St}{p:qC}{m:qR}{d:Option Nat}{a:AV}{i j:Nat}{o:AO}
def JG(h:qF st.hp p m):qF (st.put d a).hp p m:=by cases d<;>exact h
theorem JH(hn:DM n=M)(h:qF st.hp p m):qF (st.zW n o).hp p m:=by
 refine h.qy (f:=Z) (λ_ _=>rfl) λk hk=>?_;have:k≠n:=λe=>qQ;rw[IS,if_neg this]
 cases st.hp k<;>simp[AO.uO]
def JE(h:qF st.hp p m):qF (st.kill (.s i)).hp p m:=
 h.qy (f:=kl (.s i)) (λk hk=>Cq) λk hk=>by
  have:=(jp (λ_=>zF) hk i).2;simp[this]
theorem JF(h:qF st.hp p m):qF (st.move (.s i) (.s j)).hp p m:=
 h.qy (f:=mv (.s i) (.s j)) (λk hk=>by simp[mv,(jp (λ_=>zF) hk i).2,(jp (λ_=>zF) hk j).2]) λk hk=>by
  have h1:=(jp (λ_=>zF) hk i).2;have h2:=(jp (λ_=>zF) hk j).2
  simp_all
def JD(h:qF st.hp p m):qF (st.gn i (Z (.s j))).hp p m:=
 h.qy (f:=kl (.s i)) (λk hk=>Cq) λk hk=>by
  have h1:=(jp (λ_=>zF) hk i).2;have h2:=(jp (λ_=>zF) hk j).1;rw[FB,if_neg (λe=>h2 (sI e).symm)];simp[h1]
end
def jq(hp:Nm->Option AO)(p:qC)(m:qR)(C:List qr):Prop:=∃J:Nat->List AV,(∀i,O (J i)=29)/\hp Yn=Z (.row 4415 [qj p m (O m.qN) (yc m.qN J)])/\qF (zR Yn (.row 4415 [qj p {m with cells:=C} (O m.qN) (yc m.qN J)]) hp) p {m with cells:=C}
section
variable{hp hp' H:Nm->Option AO}{p:qC}{m:qR}{C:List qr}{F:Nm->Option Nm}{st:St}{d:Option Nat}{a:AV}{i j c:Nat}{o:AO}{s:qr}
theorem qF.yc(h:qF hp p m):jq hp p m m.cells:=by
 obtain⟨J,hJ,e⟩:=h.top;refine⟨J,hJ,e,h.qy (f:=Z) (λ_ _=>rfl) λq hq=>?_⟩;by_cases h1:q=Yn
 .subst h1;rw[e];simp only[zR,if_true,kB,AO.uO]
 .simp only[zR];rw[if_neg h1]
  cases hp q<;>simp[AO.uO]
theorem Iz{h:Nat}{L:List qO}{J:Nat->List AV}(hc:∀j,F (.c Yn 0 j)=Z (.c Yn 0 j)):(qj p m h (yc L J)).map (AV.tr F)=qj p m h (yc L λi=>(J i).map (AV.tr F)):=by
 rw[pZ,CO λj _=>hc j]
 simp_all[qj,yA,yB]
theorem jq.qy(h:jq hp p m C)(hf:∀k,DM k=B->F k=Z k)(hh:∀k,DM k=B->hp' k=(hp k).map (AO.tr F)):jq hp' p m C:=by
 obtain⟨J,hJ,e,hO⟩:=h;refine⟨λi=>(J i).map (AV.tr F),λi=>iG,?_,hO.qy (f:=F) hf λq hq=>?_⟩
 .rw [hh _ rfl,e];simp only[kB,AO.tr,cX,rE];rw[Iz λj=>hf _ rfl]
 .by_cases h1:q=Yn
  .subst h1;simp only[zR,if_true,kB,AO.tr,cX,rE];rw[Iz λj=>hf _ rfl]
  simp_all
theorem lz(hn:n.zj=B):∀k,DM k=B->Nm.under n k=M:=λk hk=>by
 cases h:Nm.under n k with
 |false=>rfl
 |true=>have:=Nm.nO hn h;grind[zF]
theorem QW(hn:n.zj=B):DM n=M:=by
 grind[zF]
def JB(h:jq st.hp p m C):jq (st.put d a).hp p m C:=by cases d<;>exact h
theorem QJ(hn:n.zj=B)(h:jq st.hp p m C):jq (st.zW n o).hp p m C:=by
 refine h.qy (F:=Z) (λ_ _=>rfl) λk hk=>?_;have:k≠n:=λe=>by grind[QW]
 rw[IS,if_neg this]
 cases st.hp k<;>simp[AO.uO]
theorem QH(hn:n.zj=B)(h:jq st.hp p m C):jq (st.kill n).hp p m C:=
 h.qy (F:=kl n) (λk hk=>by grind[kl,lz]) λk hk=>by
  simp_all[lz]
theorem QI{n':Nm}(hn:n.zj=B)(hn':n'.zj=B)(h:jq st.hp p m C):jq (st.move n n').hp p m C:=
 h.qy (F:=mv n n') (λk hk=>by grind[mv,lz]) λk hk=>by
  simp_all[lz]
theorem QF(hn:n.zj=B)(h:jq st.hp p m C):jq (st.gn i (Z n)).hp p m C:=
 h.qy (F:=kl (.s i)) (λk hk=>Cq) λk hk=>by
  have h1:=(jp (λ_=>zF) hk i).2;rw[FB,if_neg (λe=>by grind[zF])];simp[h1]
theorem qF.free(h:qF hp p m)(hc:O m.cells<=c):hp (.u 7 c 0)=Y:=by
 cases e:hp (.u 7 c 0)with
 |none=>rfl
 |some o=>
  rcases h.only 7 c 0 rfl Aw with⟨h1,_⟩|⟨_,h2,_⟩<;>grind
theorem jq.set(h:jq hp p m C)(hc:c<O C)(hw:hp' (En c)=Z (.row 3 [jv s]))(hh:∀q,DM q=B->q≠En c->hp' q=hp q):jq hp' p m (C.set c s):=by
 obtain⟨J,hJ,e,hO⟩:=h;have hY:Yn≠En c:=qB;have hE:∀j,Nm.c Yn 0 j≠En c:=λj=>qB;have hE2:∀j,Nm.c Yn 0 j≠Yn:=λj=>qB
 have rd:∀q,DM q=B->q≠En c->q≠Yn->∀z,zR Yn z hp' q=zR Yn (.row 4415 [qj p {m with cells:=C} (O m.qN) (yc m.qN J)]) hp q:=λq h1 h2 h3 z=>by
  simp_all
 refine⟨J,hJ,by rw[hh _ rfl hY];exact e,⟨J,hJ,th⟩,?_,?_,?_,?_,?_,λi f hf=>?_,λi f hf=>?_,λi f hf=>?_,λc' s' hs'=>?_,λk i j hk hn=>?_⟩
 .rw [rd _ rfl (hE _) (hE2 _)];exact hO.vI
 .rw [rd _ rfl (hE _) (hE2 _)];exact hO.out
 .rw [rd _ rfl (hE _) (hE2 _)];exact hO.zt
 .rw [rd _ rfl (hE _) (hE2 _)];exact hO.qI
 .rw [rd _ rfl (hE _) (hE2 _)];exact hO.jG
 .rw [rd _ rfl (hE _) (hE2 _)];exact hO.qt i f hf
 .rw [rd _ rfl (hE _) (hE2 _)];exact hO.cls i f hf
 .obtain⟨j,hj⟩:=hO.stack i f hf;exact⟨j,by rw[rd _ rfl (hE _) (hE2 _)];exact hj⟩
 .simp only[fL]at hs';by_cases e1:c=c'
  .simp_all
  .rw [if_neg e1]at hs';rw[rd _ rfl qx qB];exact hO.cell c' s' hs'
 .simp only[List.length_set];by_cases e1:Nm.u k i j=En c
  .simp_all
  .by_cases e2:k=1/\i=0/\j=0
   .omega
   .refine hO.only k i j hk λe3=>hn ?_;rw[rd (.u k i j) hk e1 qQ];exact e3
theorem qEr(s:qr)(hc:c<O C)(h:jq st.hp p m C):jq (st.zW (.u 7 c 0) (.row 3 [jv s])).hp p m (C.set c s):=
 jq.set h hc qB λq _ hn=>qQ
theorem UC{l:List (Nat×List Nat)}(h:∀g∈l,∀i∈g.2,F (En i)=Z (En i)):(ut l).map (λy=>y.map (AV.tr F))=ut l:=by
 simp only[ut,iy];apply oD;intro g hg;have:(zd g.2).map (λy=>y.map (AV.tr F))=zd g.2:=xF (h g hg)
 simp_all
theorem jq.add(h0:n0.zj=B)(h:jq st.hp p m C)(hs:st.hp n0=Z (.row 3 [jv s]))(hfr:∀f∈m.qN,∀c∈f.cells,c<O C)(hfn:∀g∈m.qI,∀c∈g.2,c<O C):jq (st.move n0 (.u 7 (O C) 0)).hp p m (C++[s]):=by
 obtain⟨J,hJ,e,hO⟩:=h
 have rd:∀q,Nm.under (.u 7 (O C) 0) q=M->Nm.under n0 q=M->(st.move n0 (.u 7 (O C) 0)).hp q=(st.hp q).map (AO.tr (mv n0 (.u 7 (O C) 0))):=λq h1 h2=>by
  simp_all
 have rc:∀j,(st.move n0 (.u 7 (O C) 0)).hp (.c Yn 0 j)=(st.hp (.c Yn 0 j)).map (AO.tr (mv n0 (.u 7 (O C) 0))):=λj=>rd _ qB (lz h0 _ rfl);have fc:∀j,mv n0 (.u 7 (O C) 0) (.c Yn 0 j)=Z (.c Yn 0 j):=λj=>by simp[mv,lz h0 (.c Yn 0 j) rfl]
 have fe:∀c,c<O C->mv n0 (.u 7 (O C) 0) (En c)=Z (En c):=λc hc=>by
  have:¬O C=c:=qA;simp[mv,sd hc,lz h0 (En c) rfl]
 have o1:=hO.vI;have o2:=hO.out;have o3:=hO.zt;have o4:=hO.qI;have o5:=hO.jG;simp only[zR]at o1 o2 o3 o4 o5;rw[if_neg qB]at o1 o2 o3 o4 o5
 have eY:(st.move n0 (.u 7 (O C) 0)).hp Yn=Z (.row 4415 [qj p m (O m.qN) (yc m.qN λk=>(J k).map (AV.tr (mv n0 (.u 7 (O C) 0))))]):=by
  rw[rd _ qB (lz h0 _ rfl),e]
  simp_all[Iz]
 refine⟨λk=>(J k).map (AV.tr (mv n0 (.u 7 (O C) 0))),λk=>iG,eY,⟨λk=>(J k).map (AV.tr (mv n0 (.u 7 (O C) 0))),λk=>iG,th⟩,?_,?_,?_,?_,?_,λi f hf=>?_,λi f hf=>?_,λi f hf=>?_,λc' s' hs'=>?_,λk a b hk hn=>?_⟩
 .simp only[zR];rw[if_neg qB,rc,o1];simp
 .simp only[zR];rw[if_neg qB,rc,o2];simp
 .simp only[zR];rw[if_neg qB,rc,o3];simp
 .simp only[zR];rw[if_neg qB,rc,o4];simp only[kB,AO.tr];rw[UC λg hg c hc=>fe c (hfn g hg c hc)]
 .simp only[zR];rw[if_neg qB,rc,o5];simp
 .have o:=hO.qt i f hf;simp only[zR]at o ⊢;rw[if_neg qB]at o ⊢;rw[rc,o];simp
 .have o:=hO.cls i f hf
  grind[zR,AO.tr,xF]
 .obtain⟨j,o⟩:=hO.stack i f hf;simp only[zR]at o ⊢;rw[if_neg qB]at o ⊢;exact⟨j,by rw[rc,o];simp⟩
 .simp only[zR];rw[if_neg qB];rcases oE c' (O C)with e1|e1|e1
  .have o:=hO.cell c' s' qx;simp only[zR]at o;rw[if_neg qB]at o;rw[rd _ (by simp[sd e1]) (lz h0 _ rfl),o];simp
  .simp_all
  grind
 .simp only[u7,aG];by_cases e1:k=7/\a=O C/\b=0
  .omega
  .by_cases e2:k=1/\a=0/\b=0
   .omega
   .have hn2:zR Yn (.row 4415 [qj p {m with cells:=C} (O m.qN) (yc m.qN J)]) st.hp (.u k a b)≠Y:=λe3=>hn (by
     simp only[zR]at e3 ⊢;rw[if_neg qQ]at e3 ⊢
     simp_all)
    rcases hO.only k a b hk hn2 with h1|⟨h1,h2,h3⟩<;>grind
def jq.Qn{L:Nat}(hL:L=O C)(h0:n0.zj=B)(h:jq st.hp p m C)(hs:st.hp n0=Z (.row 3 [jv s]))(hfr:∀f∈m.qN,∀c∈f.cells,c<O C)(hfn:∀g∈m.qI,∀c∈g.2,c<O C):jq (st.move n0 (.u 7 L 0)).hp p m (C++[s]):=by
 subst hL;exact jq.add h0 h hs hfr hfn
end
section
variable{p:qC}{m:qR}{fs:List qO}{g:qO}{h:Nat}{F:Nm->Option Nm}{J:Nat->List AV}
theorem qAH(hJ:∀i,O (J i)=29)(hi:O fs<151)(hF:∀j,j≠yo (O fs)+2->j≠yo (O fs)+3->j≠yo (O fs)+28->F (.c Yn 0 j)=Z (.c Yn 0 j)):
  qq ((qj p m h (yc fs J)).map (AV.tr F)) (yo (O fs)) (ym (O fs) g)=qj p m h (yc (fs++[g]) λk=>(J k).map (AV.tr F)):=by
 have hl:∀j,j<32->F (.c Yn 0 j)=Z (.c Yn 0 j):=λj hj=>hF j qx qx qx;have eA:(yA p m).map (AV.tr F)=yA p m:=by simp_all[yA]
 have eB:(yB m).map (AV.tr F)=yB m:=by simp_all[yB]
 rw[pZ,eA,eB];have e:yA p m++(jy m.globals++(yB m++(vQ (λi=>(yc fs J i).map (AV.tr F)) 151++yZ m h)))=qj p m h λi=>(yc fs J i).map (AV.tr F):=rfl;rw[e,show yo (O fs)=32+(29*O fs+0)by simp];refine Ek (λi=>by simp[bI hJ]) hi qB (λk hk=>?_) ?_
 .unfold yc;rcases oE k (O fs)with e|e|e
  .rw [ua e,gE e];have h1:∀a,a<29->F (.c Yn 0 (32+29*k+a))=Z (.c Yn 0 (32+29*k+a)):=λa ha=>hF _ qx qx qx
   simp_all[ym]
  .omega
  .rw [eX qp,eX qA]
 simp_all[bI,AH,qq]
end
def ip(hp:Nm->Option AO)(p:qC)(m M':qR)(h:Nat):Prop:=∃J:Nat->List AV,(∀i,O (J i)=29)/\hp Yn=Z (.row 4415 [qj p m h (yc M'.qN J)])/\qF (zR Yn (.row 4415 [qj p M' (O M'.qN) (yc M'.qN J)]) hp) p M'
section
variable{hp hp':Nm->Option AO}{p:qC}{m m' M':qR}{h h' k:Nat}{R:List AV}{v:AV}
theorem ip.row(hY:ip hp p m M' h):∃R,hp Yn=Z (.row 4415 [R])/\O R=4415/\R[4411]?=Z (iv h)/\R[4412]?=Z (iv m.deep)/\R[4413]?=Z (iv m.made)/\R[4414]?=Z (iv (O m.cells)):=by
 obtain⟨J,hJ,e,_⟩:=hY;have hc:=bI (fs:=M'.qN) hJ
 grind[pW,Ej,Pz,QA,QB]
theorem ip.set(hY:ip hp p m M' h)(hr:hp Yn=Z (.row 4415 [R]))(h0:hp' Yn=Z (.row 4415 [qq R k [v]]))
  (hs:∀J:Nat->List AV,(∀i,O (yc M'.qN J i)=29)->qq (qj p m h (yc M'.qN J)) k [v]=qj p m' h' (yc M'.qN J))(hh:∀q,DM q=B->q≠Yn->hp' q=hp q):ip hp' p m' M' h':=by
 obtain⟨J,hJ,e,hO⟩:=hY;refine⟨J,hJ,?_,hO.qy (f:=Z) (λ_ _=>rfl) λq hq=>?_⟩
 .grind[bI]
 .by_cases h1:q=Yn
  .grind[zR,AO.uO]
  .simp only[zR];rw[if_neg h1,if_neg h1,hh q hq h1]
   cases hp q<;>simp[AO.uO]
theorem ip.done(hY:ip hp p m M' h)(hs:∀J:Nat->List AV,qj p m h (yc M'.qN J)=qj p M' (O M'.qN) (yc M'.qN J)):qF hp p M':=by
 obtain⟨J,hJ,e,hO⟩:=hY;refine hO.qy (f:=Z) (λ_ _=>rfl) λq hq=>?_;by_cases h1:q=Yn
 .grind[zR,AO.uO]
 .simp only[zR];rw[if_neg h1]
  cases hp q<;>simp[AO.uO]
end
section
variable{p:qC}{m:qR}{fs:List qO}{f g:qO}{o:Int×Int}{v:q8}
theorem HP(h1:2<=o.1)(h2:o.1<=13)(n8:o.1≠8)(n11:o.1≠11):yD p m fs f o=uN m fs f o ((o.1-2)%3).toNat (u0 p f o):=by
 have h0:¬o.1=0:=qA;simp only[yD];rw[if_neg h0,if_pos ⟨h1,h2⟩];have h3:(o.1-2)%3=0\/(o.1-2)%3=1\/(o.1-2)%3=2:=qA;rcases h3 with h|h|h
 .grind[u0,uE,uN]
 .rw [h,if_neg qA,if_pos rfl]
  rfl
 grind[cp,uN]
theorem NT(h:o.1=8\/o.1=11):yD p m fs f o=uE p m fs f o:=by
 grind[yD]
theorem XJ(h0:¬o.1=0)(h:¬(2<=o.1/\o.1<=13)):yD p m fs f o=yl p m fs f o:=by
 grind[yD]
end
def DY:jy jZ=[bv M,iv 0,iv 0,bv M,iv 0,iv 0,bv M,iv 0,iv 0,bv M,iv 0,iv 0,bv M,iv 0,iv 0,bv M,iv 0,iv 0,bv M,iv 0,iv 0,bv M,iv 0,iv 0]:=rfl
section
variable{hp hp':Nm->Option AO}{p:qC}{m:qR}{C:List qr}{g:qO}{F:Nm->Option Nm}{R:List AV}{mk dp i c:Nat}{f:qO}{s:qr}
theorem jq.vI(h:jq hp p m C):hp (.c Yn 0 1)=Z (.row 1 (kE p (O p))):=by grind[zR,qF.vI,jq]
theorem jq.out(h:jq hp p m C):hp (.c Yn 0 4)=Z (.row 1 (qh m.out)):=by obtain⟨J,_,_,hO⟩:=h;simpa[zR]using hO.out
theorem jq.zt(h:jq hp p m C):hp (.c Yn 0 5)=Z (.row 2 (vR m.trace)):=by obtain⟨J,_,_,hO⟩:=h;simpa[zR]using hO.zt
theorem jq.qI(h:jq hp p m C):hp (.c Yn 0 30)=Z (.row 2 (ut m.qI)):=by obtain⟨J,_,_,hO⟩:=h;simpa[zR]using hO.qI
theorem jq.jG(h:jq hp p m C):hp (.c Yn 0 31)=Z (.row 24 (wQ m.qU)):=by obtain⟨J,_,_,hO⟩:=h;simpa[zR]using hO.jG
def jq.cell(h:jq hp p m C)(hc:C[c]?=Z s):hp (En c)=Z (.row 3 [jv s]):=by obtain⟨J,_,_,hO⟩:=h;simpa[zR]using hO.cell c s hc
theorem jq.RW(h:jq hp p m C)(hi:O m.qN<151)(hr:hp Yn=Z (.row 4415 [R]))
  (hF:∀j,j≠yo (O m.qN)+2->j≠yo (O m.qN)+3->j≠yo (O m.qN)+28->F (.c Yn 0 j)=Z (.c Yn 0 j))
  (h0:hp' Yn=Z (.row 4415 [qq (R.map (AV.tr F)) (yo (O m.qN)) (ym (O m.qN) g)]))
  (h6t:hp' (.c Yn 0 (yo (O m.qN)+2))=Z (.row 3 (zD g.qt)))(h7t:hp' (.c Yn 0 (yo (O m.qN)+3))=Z (.row 1 (zd g.cells)))(h8t:hp' (.c Yn 0 (yo (O m.qN)+28))=Z (.row 2 (zm g.stack)))
  (h1:hp' (.c Yn 0 1)=Z (.row 1 (kE p (O p))):=by simp[h.vI])
  (h2:hp' (.c Yn 0 4)=Z (.row 1 (qh m.out)):=by simp[h.out])
  (h3:hp' (.c Yn 0 5)=Z (.row 2 (vR m.trace)):=by simp[h.zt])
  (h4:hp' (.c Yn 0 30)=Z (.row 2 (ut m.qI)):=by simp[h.qI])
  (h5:hp' (.c Yn 0 31)=Z (.row 24 (wQ m.qU)):=by simp[h.jG])
  (h6:∀(i:Nat)x,i<O m.qN->hp (.c Yn 0 (32+29*i+2))=Z (.row 3 (zD x))->hp' (.c Yn 0 (32+29*i+2))=Z (.row 3 (zD x)):=by intro i x hi hx;have e:=ik hi;simp[hx,e.1,e.2.1,e.2.2.1,e.2.2.2])
  (h7:∀(i:Nat)x,i<O m.qN->hp (.c Yn 0 (32+29*i+3))=Z (.row 1 (zd x))->hp' (.c Yn 0 (32+29*i+3))=Z (.row 1 (zd x)):=by intro i x hi hx;have e:=ik hi;simp[hx,e.1,e.2.1,e.2.2.1,e.2.2.2])
  (h8:∀(i:Nat)x,i<O m.qN->hp (.c Yn 0 (32+29*i+28))=Z (.row 2 (zm x))->hp' (.c Yn 0 (32+29*i+28))=Z (.row 2 (zm x)):=by intro i x hi hx;have e:=ik hi;simp[hx,e.1,e.2.1,e.2.2.1,e.2.2.2])
  (h9:∀(c:Nat)s,C[c]?=Z s->hp' (En c)=Z (.row 3 [jv s]):=by intro c s hc;simp[h.cell hc])
  (hA:∀k i j,fM k=B->¬(k=1/\i=0/\j=0)->hp' (.u k i j)≠Y->hp (.u k i j)≠Y:=by intro k i j hk e hn;simpa[hk,e]using hn):
  ip hp' p m {m with cells:=C,made:=mk,deep:=dp,qN:=m.qN++[g]} (O m.qN):=by
 obtain⟨J,hJ,e,hO⟩:=h;have hrow:=qAH (p:=p) (m:=m) (g:=g) (h:=O m.qN) (F:=F) hJ hi hF;have hJ':∀i,O ((λk=>(J k).map (AV.tr F)) i)=29:=λi=>iG
 have key:∀(i:Nat)f',(m.qN++[g])[i]?=Z f'->(i=O m.qN/\f'=g)\/(i<O m.qN/\m.qN[i]?=Z f'):=by
  grind
 refine⟨λk=>(J k).map (AV.tr F),hJ',?_,⟨λk=>(J k).map (AV.tr F),hJ',?_⟩,qQ,qQ,qQ,qQ,qQ,λi f' hf=>?_,λi f' hf=>?_,λi f' hf=>?_,λc s hc=>?_,λk i j hk hn=>?_⟩
 .simp_all
 .simp [zR]
 .simp only[zR];rw[if_neg qB];rcases key i f' hf with⟨rfl,rfl⟩|⟨a,b⟩
  .exact h6t
  .have:=hO.qt i f' b
   grind[zR]
 .simp only[zR];rw[if_neg qB];rcases key i f' hf with⟨rfl,rfl⟩|⟨a,b⟩
  .exact h7t
  .have:=hO.cls i f' b
   grind[zR]
 .simp only[zR];rw[if_neg qB];rcases key i f' hf with⟨rfl,rfl⟩|⟨a,b⟩
  .exact⟨[],qQ⟩
  .obtain⟨j,this⟩:=hO.stack i f' b
   grind[zR]
 .simp_all
 .by_cases e:k=1/\i=0/\j=0
  .omega
  .refine hO.only k i j hk ?_
   grind[zR]
end
section
variable{p:qC}{m:qR}{fs:List qO}{f:qO}{b n:Nat}{k:qY}
theorem X4(hP:zi p)(hk:p[b]?=Z k)(hl:uG p b<=1):(zQ p b).params=[]\/∃x,(zQ p b).params=[x]/\((x∈zB p b/\x∉qa p b)\/(x∉zB p b/\x∈qa p b)):=by
 have hkp:(zQ p b).params=k.params:=gz;have hpn:O k.params<=1:=by grind[uG]
 rw[hkp]
 match h:k.params,hpn with
 |[],_=>simp
 |[x],_=>
  grind[TL,N1]
theorem qDp{l:List q8}:∀r∈zm l,O r=2:=by
 grind[zm]
theorem LD{l:List Nat}:∀r∈zd l,O r=1:=by
 grind[zd]
theorem FF{cs:List Nat}{vs:List q8}:(yG p m b cs vs).en=m.en:=by
 unfold yG
 grind
theorem M0{v:q8}:(vK m fs v).en=m.en:=by
 grind[vK]
def CP{st:St}{t:Nat}{x:AV}(h:qF st.hp p m):qF (st.wJ t (.s i) x).hp p m:=
 h.qy (f:=kl (.s i)) (λk hk=>Cq) λk hk=>by
  have:=(jp (λ_=>zF) hk i).2;simp[this]
def yf.L5{g:qO}(h:yf p m fs f)(hg:g.cells=f.cells):∀f'∈fs++[g],∀c∈f'.cells,c<O m.cells:=by
 intro f' hf c hc;rw[yI,vG]at hf;rcases hf with hf|rfl
 .exact (h.low f' hf).cr c hc
 .rw [hg]at hc;exact h.top.cr c hc
def yf.LZ(h:yf p m fs f):∀g∈m.qI,∀c∈g.2,c<O m.cells:=λg hg=>by
 obtain⟨k,_,_,_,h4⟩:=h.qI g hg;exact h4
end
end Go.Hm
end
