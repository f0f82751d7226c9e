import Derived.Test.YtdnebaieamppbaaGreatDoorE20
set_option linter.unusedSimpArgs false
set_option linter.unusedVariables false
set_option maxRecDepth 100000
set_option maxHeartbeats 4000000

section
namespace Go.Hm
open Go Go.RowKit
section
variable {p:Z0} {m:Zb} {fs:List Z8} {f:Z8} {o:Int×Int} {b n:Nat} {v:Zd} {k:Za}
theorem Lf (hP:Zm p):(zC p 0).params=[]:=by
 have hl:=hP.sh.len;obtain⟨k,hk⟩:∃ k,p[0]?=some k:=⟨_,gE qA⟩;have:=hP.sh.head 0 k hk
 grind[zC]
theorem Iu {cs:List Nat} {vs:List Zd}:(z8 p m b cs vs).ZW≠[]:=by
 unfold z8
 split
 .split <;> simp
 .simp
theorem P8 (hP:Zm p):¬ (q8 p n).ended:=by
 rintro (h|h)
 .exact Iu h
 .exact h CX
theorem IV (h:fs≠[]):(zW m fs v).ZW≠[]:=by
 unfold zW
 split<;>simp_all
theorem Lu {s:Zt}:(qAD m fs f o s).ZW≠[]:=by
 unfold qAD
 repeat' split<;>simp_all
theorem Vq (hc:0<=o.1/\o.1<=20) (h:o.1=20->fs≠[]):(kM p m fs f o).ZW≠[]:=by
 have hT:∀ g:Z8,(m.top fs g).ZW≠[]:=λg=>qB;have hS:∀ (g:Z8) (e:Int),(m.stop fs g e).ZW≠[]:=λg e=>qB;unfold kM
 split
 .grind[bE]
 .split
  .split
   .grind[vj]
   .split
    .exact Lu
    grind[AL,Lu]
  grind[ya,Iu,HU,dK,ge,IV]
end
section
variable {key:Nat->Nm} {es:List Nat} {l l':List AV} {i j z n:Nat} {x:AV} {m:Nm}
theorem SI:zcs key es j (l++l')=zcs key es j l++zcs key es (j+l.length) l':=by
 induction l generalizing j<;>grind[zcs]
theorem SH:(zcs key es j l).length=l.length:=by
 induction l generalizing j<;>simp_all
theorem De (hk:∀ a b,key a=key b->a=b) (h:l[i]?=some x) (hx:zT x=true):(zj key es j l).find? (λp=>decide (p.1=key (j+i)))=some (key (j+i),es.getD (j+i) 0):=by
 induction l generalizing i j with
 | nil=>cases h
 | cons y l ih =>
  cases i<;>grind[zj]
theorem ru (h:∀ a,m≠key a):(zj key es j l).find? (λp=>decide (p.1=m))=none:=by
 induction l generalizing j<;>grind[zj]
theorem Qw:cat (λi=>(l.drop (z * i)).take z) n=l.take (z * n):=by
 induction n with
 | zero=>simp [cat]
 | succ n ih=>rw [eE,ih,Nat.mul_succ,List.take_add]
end
structure qCM (hp:Nm->Option AO) (p:Z0) (n b:Nat):Prop where
 top:∃ J:Nat->List AV,(∀ i,(J i).length=29)/\hp Yn=some (.row 4415 [Zz (zV p (z6 n) 0 J) 1 [.hs (.c Yn 0 1) 1 0 b]])
 qAZ:hp (.c Yn 0 1)=some (.row 1 (ve p b))
 out:hp (.c Yn 0 4)=some (.row 1 [])
 trc:hp (.c Yn 0 5)=some (.row 2 [])
 ZZ:hp (.c Yn 0 30)=some (.row 2 [])
 Zw:hp (.c Yn 0 31)=some (.row 24 [])
 only:∀ k i j,fM k=true->hp (.u k i j)≠none->k=1/\i=0/\j=0
section
variable {hp hp':Nm->Option AO} {p:Z0} {n b:Nat} {R:List AV}
theorem qCM.own (h:qCM hp p n p.length):ZY hp p (z6 n):=by
 obtain⟨J,hJ,e⟩:=h.top;refine⟨⟨J,hJ,?_⟩,h.qAZ,by grind[z6,qT,out],by grind[z6,yw,trc],by simpa [z6] using h.ZZ,by simpa [z6] using h.Zw,λi f hf=>tN,λi f hf=>tN,λi f hf=>tN,λc s hs=>tN,λk i j hk hn=>.inl (h.only k i j hk hn)⟩;rw [e]
 rfl
theorem qCM.row (h:qCM hp p n b):∃ R,hp Yn=some (.row 4415 [R])/\R.length=4415/\R[1]?=some (.hs (.c Yn 0 1) 1 0 b):=by
 obtain⟨J,hJ,e⟩:=h.top;exact⟨_,e,by grind[Sg,w8],rfl⟩
theorem qCM.step {b':Nat} {R':List AV} (h:qCM hp p n b) (hr:hp Yn=some (.row 4415 [R])) (h0:hp' Yn=some (.row 4415 [R'])) (hR:∃ F:Nm->Option Nm,(∀ j,j≠1->F (.c Yn 0 j)=some (.c Yn 0 j))/\R'=(R.map (AV.tr F)).take 1++.hs (.c Yn 0 1) 1 0 b'::(R.map (AV.tr F)).drop 2)
  (h1:hp' (.c Yn 0 1)=some (.row 1 (ve p b')))
  (h2:hp' (.c Yn 0 4)=some (.row 1 []):=by simp [h.out]) (h3:hp' (.c Yn 0 5)=some (.row 2 []):=by simp [h.trc])
  (h4:hp' (.c Yn 0 30)=some (.row 2 []):=by simp [h.ZZ]) (h5:hp' (.c Yn 0 31)=some (.row 24 []):=by simp [h.Zw])
  (hA:∀ k i j,fM k=true->¬ (k=1/\i=0/\j=0)->hp' (.u k i j)≠none->hp (.u k i j)≠none:=by intro k i j hk e hn;simpa [hk,e] using hn):qCM hp' p n b':=by
 obtain⟨J,hJ,e⟩:=h.top;obtain⟨F,hF,rfl⟩:=hR;refine⟨⟨λi=>(J i).map (AV.tr F),λi=>gI,?_⟩,h1,h2,h3,h4,h5,λk i j hk hn=>?_⟩
 .rw [h0,<- VA hr e]
  have hm:(zV p (z6 n) 0 J).map (AV.tr F)=(yA p (z6 n)).map (AV.tr F)++(aK q9++(yB (z6 n)++(cat (λi=>(J i).map (AV.tr F)) 151++yZ (z6 n) 0))):=by
   simp_all[RZ,yB,z6]
  simp only [Zz,E6,HQ,List.map_drop,hm]
  simp_all[zV,yA,z6]
 .by_cases e:k=1/\i=0/\j=0
  .exact e
  .exact h.only k i j hk (hA k i j hk e hn)
theorem MR {P:Program} {T:TypeId} {st:St} {Z:List AV} {d:Nat} (hz:Z.length=4415) (hz1:Z.take 32=[.sc (.slice none 0 0),.sc (.slice none 0 0),iv 0,iv 0,.sc (.slice none 0 0),.sc (.slice none 0 0)]++(aK q9++[.sc (.slice none 0 0),.sc (.slice none 0 0)])) (hz2:Z.drop 4411=[iv 0,iv 0,iv 0,iv 0])
  (he:∀ k,(k=1\/k=4)->(tce P T).getD k 0=1) (he2:∀ k,(k=5\/k=30)->(tce P T).getD k 0=2) (he31:(tce P T).getD 31 0=24)
  (hD:∀ k i j,fM k=true->st.hp (.u k i j)=none) :
  qCM ((((St.qAA (zj (Nm.c (.s d) 0) (tce P T) 0 (Zz (Zz (Zz Z 0 [csl (qw p p.length)]) 2 [iv n]) 3 [iv 0])) (st.kill (.s d))).Zp (.s d) (.row 4415 [zcs (Nm.c (.s d) 0) (tce P T) 0 (Zz (Zz (Zz Z 0 [csl (qw p p.length)]) 2 [iv n]) 3 [iv 0])])).move (.s d) Yn).hp) p n 0:=by
 obtain⟨mid,hmid,hml⟩:∃ mid,Z.drop 32=mid++[iv 0,iv 0,iv 0,iv 0]/\mid.length=29 * 151:=by
  refine⟨(Z.drop 32).take 4379,?_,by simp [hz]⟩
  grind[List.take_append_drop,List.drop_drop]
 have hZ:Z=([.sc (.slice none 0 0),.sc (.slice none 0 0),iv 0,iv 0,.sc (.slice none 0 0),.sc (.slice none 0 0)]++(aK q9++[.sc (.slice none 0 0),.sc (.slice none 0 0)]))++(mid++[iv 0,iv 0,iv 0,iv 0]):=by
  grind[List.take_append_drop]
 obtain⟨C,hC⟩:∃ C,C=Zz (Zz (Zz Z 0 [csl (qw p p.length)]) 2 [iv n]) 3 [iv 0]:=⟨_,rfl⟩
 have hC2:C=([csl (qw p p.length),.sc (.slice none 0 0),iv n,iv 0,.sc (.slice none 0 0),.sc (.slice none 0 0)]++(aK q9++[.sc (.slice none 0 0),.sc (.slice none 0 0)]))++(mid++[iv 0,iv 0,iv 0,iv 0]):=by
  simp_all[Zz]
 have e1:=he 1 (.inl rfl);have e4:=he 4 (.inr rfl);have e5:=he2 5 (.inl rfl);have e30:=he2 30 (.inr rfl);rw [<- hC];generalize tce P T=es at *
 have hrow:zcs (Nm.c (.s d) 0) es 0 C=([csl (qw p p.length),.hs (.c (.s d) 0 1) 1 0 0,iv n,iv 0,.hs (.c (.s d) 0 4) 1 0 0,.hs (.c (.s d) 0 5) 2 0 0]++(aK q9++[.hs (.c (.s d) 0 30) 2 0 0,.hs (.c (.s d) 0 31) 24 0 0]))++(zcs (Nm.c (.s d) 0) es 32 mid++[iv 0,iv 0,iv 0,iv 0]):=by
  rw [hC2];simp only [xC] at e1 e4 e5 e30 he31;simp [pa,SI,zcs,zc,zT,e1,e4,e5,e30,he31]
 have hk:∀ k z,C[k]?=some (.sc (.slice none 0 0))->es.getD k 0=z->(St.qAA (zj (Nm.c (.s d) 0) es 0 C) (st.kill (.s d))).hp (.c (.s d) 0 k)=some (.row z []):=by
  intro k z h1 h2;have:=De (es:=es) (j:=0) (key:=Nm.c (.s d) 0) (λa b e=>by injection e) h1 rfl
  grind[iq]
 have hc:∀ k,k<32->C[k]?=([csl (qw p p.length),.sc (.slice none 0 0),iv n,iv 0,.sc (.slice none 0 0),.sc (.slice none 0 0)]++(aK q9++[.sc (.slice none 0 0),.sc (.slice none 0 0)]))[k]?:=λk hk=>by
  grind
 have g1:=hk 1 1 qH e1;have g4:=hk 4 1 qH e4;have g5:=hk 5 2 qH e5;have g30:=hk 30 2 qH e30;have g31:=hk 31 24 qH he31;rw [hrow];obtain⟨mm,hmm⟩:∃ mm,mm=(zcs (Nm.c (.s d) 0) es 32 mid).map (AV.tr (mv (.s d) Yn)):=⟨_,rfl⟩;have hmml:mm.length=29 * 151:=by grind[SH]
 obtain⟨J,hJ1,hJ2⟩:∃ J:Nat->List AV,(∀ i,(J i).length=29)/\cat J 151=mm:=by
  refine⟨λi=>if i<151 then (mm.drop (29 * i)).take 29 else List.replicate 29 .bot,λi=>?_,?_⟩
  .dsimp only
   split
   .simp [hmml];omega
   .simp
  simp_all[ES,Qw,b9]
 refine⟨⟨J,hJ1,?_⟩,qH,qH,qH,qH,qH,λk i j hk hn=>?_⟩
 .simp_all[zV,yA,yB,yZ,Zz,z6]
 .by_cases e:k=1/\i=0/\j=0
  .exact e
  .refine absurd ?_ hn
   have hno:(St.qAA (zj (Nm.c (.s d) 0) es 0 C) (st.kill (.s d))).hp (.u k i j)=none:=by
    rw [iq,ru λa e=>um]
    simp_all
   simp_all
end
section
variable {P:Program} {T:TypeId} {l:List Value} {a b c:AV} {e0 e2 e3:TypeId} {key:Nat->Nm} {es:List Nat} {j:Nat} {L:List AV} {x:AV}
theorem OY (h1:vh P T=true) (h2:yb P T=some l) (hl:l.length=4415) (f0:Zu P T 0=some (0,e0)) (f2:Zu P T 2=some (2,e2)) (f3:Zu P T 3=some (3,e3)) (s0:Zq P e0=1) (s2:Zq P e2=1) (s3:Zq P e3=1)
  (ha:a.cells=some [a]) (hb:b.cells=some [b]) (hc:c.cells=some [c]):Kb P T [(0,a),(2,b),(3,c)]=some (.agg (Zz (Zz (Zz (l.map .sc) 0 [a]) 2 [b]) 3 [c])):=by
 simp_all[Zz]
theorem SG (h:x∈zcs key es j L):(∃ k z,x=.hs (key k) z 0 0)\/x∈L:=by
 induction L generalizing j<;>grind[zcs,zc]
end
section
variable {X:Ctx} {st:St} {K:St->Prop} {E:AV->St->Prop} {d:Nat} {ty:TypeId} {pos:String} {aft:Array Edge} {g:Option (Nat×Bool)}
theorem Ud {T:TypeId} {x:Operand} {cs:List AV} (hd:d<X.n) (hq:(ev st x).cells=some cs) (z:Nat) (hz:cs.length=z) (hsz:Zq X.P T=z) (hs:∀ y∈cs,(∃ v,y=.sc v)\/∃ z rows,y=.sl z rows/\y.tr (kl (.s d))=y)
  (h:K (((St.qAA (zj (Nm.c (.s d) 0) (tce X.P T) 0 cs) (st.kill (.s d))).Zp (.s d) (.row z [zcs (Nm.c (.s d) 0) (tce X.P T) 0 cs])).put (some d) (.pt (.s d) 0))) :
  qS X ⟨some d,.box T x,ty,pos,aft,g⟩ K E st:=by
 subst hsz;refine lu hd hq hz ?_ h
 have hkl:cs.map (AV.tr (kl (.s d)))=cs:=by
  rw [mz (g:=id) λy hy=>?_,List.map_id];rcases hs y hy with⟨v,rfl⟩|⟨z,rows,_,e⟩<;>simp_all
 unfold lg;simp only [hkl];rw [IE λy hy=>?_]
 .rfl
 .rcases SG hy with⟨k,z,rfl⟩|hy
  .rfl
  .rcases hs y hy with⟨v,rfl⟩|⟨z,rows,rfl,_⟩ <;> rfl
end
end Go.Hm
end
