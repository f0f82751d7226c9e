import Derived.Test.YtjgpejikjhojcaaGreatDoorR19
set_option linter.unusedSimpArgs false
set_option linter.unusedVariables false
set_option maxRecDepth 100000
set_option maxHeartbeats 4000000

section
namespace Go.Hm
open Go Go.RowKit
section
variable {p:qC} {m:qR} {fs:List qO} {f:qO} {o:Int×Int} {b n:Nat} {v:qW} {k:qX}
theorem Zq (hP:zk p):(zO p 0).params=[]:=by
 have hl:=hP.sh.len;obtain⟨k,hk⟩:∃ k,p[0]?=some k:=⟨_,gE qA⟩;have:=hP.sh.head 0 k hk
 grind[zO]
theorem Hj {cs:List Nat} {vs:List qW}:(jv p m b cs vs).qN≠[]:=by
 unfold jv
 split
 .split <;> simp
 .simp
theorem Zp (hP:zk p):¬ (zU p n).ended:=by
 rintro (h|h)
 .exact Hj h
 .exact h DZ
theorem KW (h:fs≠[]):(yq m fs v).qN≠[]:=by
 unfold yq
 split<;>simp_all
theorem Md {s:qr}:(jr m fs f o s).qN≠[]:=by
 unfold jr
 repeat' split<;>simp_all
theorem U9 (hc:0<=o.1/\o.1<=20) (h:o.1=20->fs≠[]):(jp p m fs f o).qN≠[]:=by
 have hT:∀ g:qO,(m.top fs g).qN≠[]:=λg=>qB;have hS:∀ (g:qO) (e:Int),(m.stop fs g e).qN≠[]:=λg e=>qB;unfold jp
 split
 .grind[wU]
 .split
  .split
   .grind[vj]
   .split
    .exact Md
    grind[be,Md]
  grind[y3,Hj,dl,b9,cI,KW]
end
section
variable {key:Nat->Nm} {es:List Nat} {l l':List AV} {i j z n:Nat} {x:AV} {m:Nm}
theorem qCU:yu key es j (l++l')=yu key es j l++yu key es (j+l.length) l':=by
 induction l generalizing j<;>grind[yu]
theorem qCW:(yu key es j l).length=l.length:=by
 induction l generalizing j<;>simp_all
theorem UE (hk:∀ a b,key a=key b->a=b) (h:l[i]?=some x) (hx:jV x=true):(vG key es j l).find? (λp=>decide (p.1=key (j+i)))=some (key (j+i),es.getD (j+i) 0):=by
 induction l generalizing i j with
 | nil=>cases h
 | cons y l ih =>
  cases i<;>grind[vG]
theorem Kv (h:∀ a,m≠key a):(vG key es j l).find? (λp=>decide (p.1=m))=none:=by
 induction l generalizing j<;>grind[vG]
theorem Pf:yx (λi=>(l.drop (z * i)).take z) n=l.take (z * n):=by
 induction n with
 | zero=>simp [yx]
 | succ n ih=>rw [oy,ih,Nat.mul_succ,List.take_add]
end
structure fA (hp:Nm->Option AO) (p:qC) (n b:Nat):Prop where
 top:∃ J:Nat->List AV,(∀ i,(J i).length=29)/\hp Yn=some (.row 4415 [qp (qg p (jQ n) 0 J) 1 [.hs (.c Yn 0 1) 1 0 b]])
 yn:hp (.c Yn 0 1)=some (.row 1 (uc p b))
 out:hp (.c Yn 0 4)=some (.row 1 [])
 zo:hp (.c Yn 0 5)=some (.row 2 [])
 qH:hp (.c Yn 0 30)=some (.row 2 [])
 jA:hp (.c Yn 0 31)=some (.row 24 [])
 only:∀ k i j,fM k=true->hp (.u k i j)≠none->k=1/\i=0/\j=0
section
variable {hp hp':Nm->Option AO} {p:qC} {n b:Nat} {R:List AV}
theorem fA.own (h:fA hp p n p.length):qD hp p (jQ n):=by
 obtain⟨J,hJ,e⟩:=h.top;refine⟨⟨J,hJ,?_⟩,h.yn,by grind[jQ,qj,out],by grind[jQ,yy,zo],by simpa [jQ] using h.qH,by simpa [jQ] using h.jA,λi f hf=>oo,λi f hf=>oo,λi f hf=>oo,λc s hs=>oo,λk i j hk hn=>.inl (h.only k i j hk hn)⟩;rw [e]
 rfl
theorem fA.row (h:fA hp p n b):∃ R,hp Yn=some (.row 4415 [R])/\R.length=4415/\R[1]?=some (.hs (.c Yn 0 1) 1 0 b):=by
 obtain⟨J,hJ,e⟩:=h.top;exact⟨_,e,by grind[Ze,oA],rfl⟩
theorem fA.step {b':Nat} {R':List AV} (h:fA hp p n b) (hr:hp Yn=some (.row 4415 [R])) (h0:hp' Yn=some (.row 4415 [R'])) (hR:∃ F:Nm->Option Nm,(∀ j,j≠1->F (.c Yn 0 j)=some (.c Yn 0 j))/\R'=(R.map (AV.tr F)).take 1++.hs (.c Yn 0 1) 1 0 b'::(R.map (AV.tr F)).drop 2)
  (h1:hp' (.c Yn 0 1)=some (.row 1 (uc p b')))
  (h2:hp' (.c Yn 0 4)=some (.row 1 []):=by simp [h.out]) (h3:hp' (.c Yn 0 5)=some (.row 2 []):=by simp [h.zo])
  (h4:hp' (.c Yn 0 30)=some (.row 2 []):=by simp [h.qH]) (h5:hp' (.c Yn 0 31)=some (.row 24 []):=by simp [h.jA])
  (hA:∀ k i j,fM k=true->¬ (k=1/\i=0/\j=0)->hp' (.u k i j)≠none->hp (.u k i j)≠none:=by intro k i j hk e hn;simpa [hk,e] using hn):fA hp' p n b':=by
 obtain⟨J,hJ,e⟩:=h.top;obtain⟨F,hF,rfl⟩:=hR;refine⟨⟨λi=>(J i).map (AV.tr F),λi=>fV,?_⟩,h1,h2,h3,h4,h5,λk i j hk hn=>?_⟩
 .rw [h0,<- Xw hr e]
  have hm:(qg p (jQ n) 0 J).map (AV.tr F)=(yA p (jQ n)).map (AV.tr F)++(jn jR++(yB (jQ n)++(yx (λi=>(J i).map (AV.tr F)) 151++yZ (jQ n) 0))):=by
   simp_all[oD,yB,jQ]
  simp only [qp,mJ,rL,List.map_drop,hm]
  simp_all[qg,yA,jQ]
 .by_cases e:k=1/\i=0/\j=0
  .exact e
  .exact h.only k i j hk (hA k i j hk e hn)
theorem VR {P:Program} {T:TypeId} {st:St} {Z:List AV} {d:Nat} (hz:Z.length=4415) (hz1:Z.take 32=[.sc (.slice none 0 0),.sc (.slice none 0 0),iv 0,iv 0,.sc (.slice none 0 0),.sc (.slice none 0 0)]++(jn jR++[.sc (.slice none 0 0),.sc (.slice none 0 0)])) (hz2:Z.drop 4411=[iv 0,iv 0,iv 0,iv 0])
  (he:∀ k,(k=1\/k=4)->(z8 P T).getD k 0=1) (he2:∀ k,(k=5\/k=30)->(z8 P T).getD k 0=2) (he31:(z8 P T).getD 31 0=24)
  (hD:∀ k i j,fM k=true->st.hp (.u k i j)=none) :
  fA ((((St.kL (vG (Nm.c (.s d) 0) (z8 P T) 0 (qp (qp (qp Z 0 [uw (jb p p.length)]) 2 [iv n]) 3 [iv 0])) (st.kill (.s d))).zT (.s d) (.row 4415 [yu (Nm.c (.s d) 0) (z8 P T) 0 (qp (qp (qp Z 0 [uw (jb p p.length)]) 2 [iv n]) 3 [iv 0])])).move (.s d) Yn).hp) p n 0:=by
 obtain⟨mid,hmid,hml⟩:∃ mid,Z.drop 32=mid++[iv 0,iv 0,iv 0,iv 0]/\mid.length=29 * 151:=by
  refine⟨(Z.drop 32).take 4379,?_,by simp [hz]⟩
  grind[rI,List.drop_drop]
 have hZ:Z=([.sc (.slice none 0 0),.sc (.slice none 0 0),iv 0,iv 0,.sc (.slice none 0 0),.sc (.slice none 0 0)]++(jn jR++[.sc (.slice none 0 0),.sc (.slice none 0 0)]))++(mid++[iv 0,iv 0,iv 0,iv 0]):=by
  grind[rI]
 obtain⟨C,hC⟩:∃ C,C=qp (qp (qp Z 0 [uw (jb p p.length)]) 2 [iv n]) 3 [iv 0]:=⟨_,rfl⟩
 have hC2:C=([uw (jb p p.length),.sc (.slice none 0 0),iv n,iv 0,.sc (.slice none 0 0),.sc (.slice none 0 0)]++(jn jR++[.sc (.slice none 0 0),.sc (.slice none 0 0)]))++(mid++[iv 0,iv 0,iv 0,iv 0]):=by
  simp_all[qp]
 have e1:=he 1 (.inl rfl);have e4:=he 4 (.inr rfl);have e5:=he2 5 (.inl rfl);have e30:=he2 30 (.inr rfl);rw [<- hC];generalize z8 P T=es at *
 have hrow:yu (Nm.c (.s d) 0) es 0 C=([uw (jb p p.length),.hs (.c (.s d) 0 1) 1 0 0,iv n,iv 0,.hs (.c (.s d) 0 4) 1 0 0,.hs (.c (.s d) 0 5) 2 0 0]++(jn jR++[.hs (.c (.s d) 0 30) 2 0 0,.hs (.c (.s d) 0 31) 24 0 0]))++(yu (Nm.c (.s d) 0) es 32 mid++[iv 0,iv 0,iv 0,iv 0]):=by
  rw [hC2];simp only [bT] at e1 e4 e5 e30 he31;simp [Bt,qCU,yu,zc,jV,e1,e4,e5,e30,he31]
 have hk:∀ k z,C[k]?=some (.sc (.slice none 0 0))->es.getD k 0=z->(St.kL (vG (Nm.c (.s d) 0) es 0 C) (st.kill (.s d))).hp (.c (.s d) 0 k)=some (.row z []):=by
  intro k z h1 h2;have:=UE (es:=es) (j:=0) (key:=Nm.c (.s d) 0) (λa b e=>by injection e) h1 rfl
  grind[GS]
 have hc:∀ k,k<32->C[k]?=([uw (jb p p.length),.sc (.slice none 0 0),iv n,iv 0,.sc (.slice none 0 0),.sc (.slice none 0 0)]++(jn jR++[.sc (.slice none 0 0),.sc (.slice none 0 0)]))[k]?:=λk hk=>by
  grind
 have g1:=hk 1 1 qP e1;have g4:=hk 4 1 qP e4;have g5:=hk 5 2 qP e5;have g30:=hk 30 2 qP e30;have g31:=hk 31 24 qP he31;rw [hrow];obtain⟨mm,hmm⟩:∃ mm,mm=(yu (Nm.c (.s d) 0) es 32 mid).map (AV.tr (mv (.s d) Yn)):=⟨_,rfl⟩;have hmml:mm.length=29 * 151:=by grind[qCW]
 obtain⟨J,hJ1,hJ2⟩:∃ J:Nat->List AV,(∀ i,(J i).length=29)/\yx J 151=mm:=by
  refine⟨λi=>if i<151 then (mm.drop (29 * i)).take 29 else List.replicate 29 .bot,λi=>?_,?_⟩
  .dsimp only
   split
   .simp [hmml];omega
   .simp
  simp_all[I6,Pf,yG]
 refine⟨⟨J,hJ1,?_⟩,qP,qP,qP,qP,qP,λk i j hk hn=>?_⟩
 .simp_all[qg,yA,yB,yZ,qp,jQ]
 .by_cases e:k=1/\i=0/\j=0
  .exact e
  .refine absurd ?_ hn
   have hno:(St.kL (vG (Nm.c (.s d) 0) es 0 C) (st.kill (.s d))).hp (.u k i j)=none:=by
    rw [GS,Kv λa e=>vS]
    simp_all
   simp_all
end
section
variable {P:Program} {T:TypeId} {l:List Value} {a b c:AV} {e0 e2 e3:TypeId} {key:Nat->Nm} {es:List Nat} {j:Nat} {L:List AV} {x:AV}
theorem PL (h1:yt P T=true) (h2:yC P T=some l) (hl:l.length=4415) (f0:ql P T 0=some (0,e0)) (f2:ql P T 2=some (2,e2)) (f3:ql P T 3=some (3,e3)) (s0:qf P e0=1) (s2:qf P e2=1) (s3:qf P e3=1)
  (ha:a.cells=some [a]) (hb:b.cells=some [b]) (hc:c.cells=some [c]):rO P T [(0,a),(2,b),(3,c)]=some (.agg (qp (qp (qp (l.map .sc) 0 [a]) 2 [b]) 3 [c])):=by
 simp_all[qp]
theorem qCX (h:x∈yu key es j L):(∃ k z,x=.hs (key k) z 0 0)\/x∈L:=by
 induction L generalizing j<;>grind[yu,zc]
end
section
variable {X:Ctx} {st:St} {K:St->Prop} {E:AV->St->Prop} {d:Nat} {ty:TypeId} {pos:String} {aft:Array Edge} {g:Option (Nat×Bool)}
theorem qB4 {T:TypeId} {x:Operand} {cs:List AV} (hd:d<X.n) (hq:(ev st x).cells=some cs) (z:Nat) (hz:cs.length=z) (hsz:qf X.P T=z) (hs:∀ y∈cs,(∃ v,y=.sc v)\/∃ z rows,y=.sl z rows/\y.tr (kl (.s d))=y)
  (h:K (((St.kL (vG (Nm.c (.s d) 0) (z8 X.P T) 0 cs) (st.kill (.s d))).zT (.s d) (.row z [yu (Nm.c (.s d) 0) (z8 X.P T) 0 cs])).put (some d) (.pt (.s d) 0))) :
  qn X ⟨some d,.box T x,ty,pos,aft,g⟩ K E st:=by
 subst hsz;refine dk hd hq hz ?_ h
 have jw:cs.map (AV.tr (kl (.s d)))=cs:=by
  rw [mH (g:=id) λy hy=>?_,List.map_id];rcases hs y hy with⟨v,rfl⟩|⟨z,rows,_,e⟩<;>simp_all
 unfold bZ;simp only [jw];rw [Lb λy hy=>?_]
 .rfl
 .rcases qCX hy with⟨k,z,rfl⟩|hy
  .rfl
  .rcases hs y hy with⟨v,rfl⟩|⟨z,rows,rfl,_⟩ <;> rfl
end
section
variable {p:qC} {m m':qR} {b n:Nat} {fs:List qO} {f g:qO} {o:Int×Int} {v:qW} {s:qr} {l:List (Int×Int)} {S:q8} {x w:Int}
def bX:List (Int×Int)->Nat
 | []=>0
 | o::l=>if o.1=0 then 0 else (if o.1=16\/o.1=17 then 1 else 0)+bX l
def xr (S:q8):Nat:=if S.kind=4\/S.kind=5 then 1 else 0
theorem DX (hw:0<=w/\w<=2):bX (jy p b x w::l)=bX l:=by
 grind[bX,jy]
theorem DV:∀ ss:List q8,bX (vr p b ss)=0
 | []=>rfl
 | s::ss=>by simp [vr,kM,bX]
theorem PE (hk:0<=S.kind/\S.kind<=11) (hl:bX l=0):bX (ui p b S++(vP S++(vY p b S++l)))<=xr S:=by
 obtain⟨kd,to,a,c⟩:=S;simp only at hk;have p0:=λx l=>DX (p:=p) (b:=b) (x:=x) (l:=l) (w:=0) qA;have p1:=λx l=>DX (p:=p) (b:=b) (x:=x) (l:=l) (w:=1) qA;have p2:=λx l=>DX (p:=p) (b:=b) (x:=x) (l:=l) (w:=2) qA;have q:∀ (c a:Int) (l:List (Int×Int)),c≠0->bX ((c,a)::l)=(if c=16\/c=17 then 1 else 0)+bX l:=λc a l h=>by simp [bX,h]
 have hd:kd=0\/kd=1\/kd=2\/kd=3\/kd=4\/kd=5\/kd=6\/kd=7\/kd=8\/kd=9\/kd=10\/kd=11:=qA;rcases hd with rfl|rfl|rfl|rfl|rfl|rfl|rfl|rfl|rfl|rfl|rfl|rfl<;>grind[ui,q8.reads,vP,vY,xr]
theorem PF (ss:List q8) (hk:∀ s∈ss,0<=s.kind/\s.kind<=11):∀ i o,(vr p b ss)[i]?=some o->o.1=0->∃ s,ss[vB ((vr p b ss).take i)]?=some s/\bX ((vr p b ss).drop (i+1))<=xr s:=by
 induction ss with
 | nil=>grind[vr]
 | cons s ss ih =>
  intro i o h h0;have e:vr p b (s::ss)=kM p b s++vr p b ss:=by simp [vr]
  rw [e] at h ⊢;by_cases hi:i<(kM p b s).length
  .have hi0:i=0:=by
    rw [ub hi] at h
    cases i with
    | zero=>rfl
    | succ j =>
     have hm:o∈ui p b s++(vP s++vY p b s):=by
      grind[kM]
     have:=NJ o hm;omega
   grind[vB,PE,DV,kM]
  .have hi:(kM p b s).length<=i:=qA;rw [cG hi] at h;obtain⟨s',h1,h2⟩:=ih (λt ht=>hk t ry) _ o h h0;refine⟨s',?_,?_⟩
   .rw [gW,yG hi,qA3,qA4,Nat.add_comm,fI];exact h1
   grind[th,Az]
def fN (p:qC) (f:qO):Nat:=bX ((zR p f.qG).drop f.pc)
def gZ (p:qC) (fs:List qO):Nat:=(fs.map (fN p)).sum
def mj (p:qC) (tr:List (Nat×Nat)):Nat:=tr.countP λt=>tL p t==4||tL p t==5
structure wi (p:qC) (m:qR):Prop where
 le:m.made<=1+mj p m.trace
 pe:m.en=0->m.made+gZ p m.qN<=1+mj p m.trace
 tr:∀ t∈m.trace,∃ s,pg p t=some s
theorem DY (ho:(zR p f.qG)[f.pc]?=some o):fN p f=if o.1=0 then 0 else (if o.1=16\/o.1=17 then 1 else 0)+bX ((zR p f.qG).drop (f.pc+1)):=by
 unfold fN;rw [mq ho]
 rfl
theorem it:gZ p (fs++[f])=gZ p fs+fN p f:=by simp [gZ]
theorem PZ (h:wi p m) (hm:m.qN=fs++[f]) (h0:m.en=0) (ho:(zR p f.qG)[f.pc]?=some o) (hn:o.1≠0) (hf:∃ g,m'.qN=fs++[g]/\g.qG=f.qG/\g.pc=f.pc+1) (h1:m'.made=m.made) (h2:m'.trace=m.trace):wi p m':=by
 obtain⟨g,hg,e1,e2⟩:=hf;have h3:=h.pe h0;rw [hm,it,DY ho,if_neg hn] at h3;refine⟨qw,λ_=>?_,by grind[wi.tr]⟩
 grind[it,fN]
theorem IZ {cs:List Nat} {vs:List qW} (hp:zk p) (h:wi p m) (hm:m.qN=fs++[f]) (h0:m.en=0) (ho:(zR p f.qG)[f.pc]?=some o) (hn:o.1=16\/o.1=17) (e1:g.qG=f.qG) (e2:g.pc=f.pc+1):wi p (jv p (m.top fs g) b cs vs):=by
 have h3:=h.pe h0;rw [hm,it,DY ho,if_neg qA,if_pos hn] at h3
 have key:∀ (C:List qr) (F:qO),F.qG=b->F.pc=0->wi p { m.top fs g with cells:=C,made:=m.made+1,deep:=max m.deep (fs.length+1+1),qN:=fs++[g]++[F] }:=λC F a1 a2=>by
  have hF:fN p F=0:=by
   unfold fN;rw [a1,a2,List.drop_zero];unfold zR
   split
   .exact DV _
   .rfl
  have hG:fN p g=bX ((zR p f.qG).drop (f.pc+1)):=by grind[fN]
  refine⟨?_,λ_=>?_,h.tr⟩<;>grind[qR.top,it]
 unfold jv;have hl:(m.top fs g).qN.length=fs.length+1:=cL;rw [hl]
 split
 .split
  .exact key _ _ rfl rfl
  .exact key _ _ rfl rfl
 .exact key _ _ rfl rfl
theorem I0 (h:wi p m) (hm:m.qN=fs++[f]) (h0:m.en=0) (h1:m'.made=m.made) (h2:m'.trace=m.trace):wi p (yq m' fs v):=by
 have h3:=h.pe h0;rw [hm,it] at h3;unfold yq
 split
 .rename_i g hl
  have hs:gZ p (fs.dropLast++[g.push v])=gZ p fs:=by
   have e:fs=fs.dropLast++[g]:=by
    have hne:fs≠[]:=λe=>qP
    grind[ip]
   conv=>rhs;rw [e]
   rw [it,it]
   rfl
  refine⟨qw,λ_=>?_,by grind[wi.tr]⟩
  grind
 .refine⟨qw,λ_=>?_,by grind[wi.tr]⟩
  grind[gZ]
theorem PY (hp:zk p) (h:wi p m) (hm:m.qN=fs++[f]) (h0:m.en=0) (hM:yV p m fs f):wi p (kh p m):=by
 cases ho:(zR p f.qG)[f.pc]? with
 | none =>
  rw [Hm.step_end hm ho]
  grind[aC,I0]
 | some o =>
  rw [Hm.Ah hm ho];unfold jp
  split
  .rename_i hz;unfold wU
   split
   .exact⟨h.le,λe=>absurd e (show ¬ (1:Int)=0 by decide),h.tr⟩
   .obtain⟨k,hk⟩:=gX hM.top.qG;have hops:zR p f.qG=vr p f.qG k.body:=by simp [zR,hk]
    obtain⟨s,e1,e2⟩:=PF (p:=p) (b:=f.qG) k.body (λs hs=>(hp.sh.names k (gM hk)).kinds s hs) f.pc o qP hz;have hst:pg p (f.qG,vB ((zR p f.qG).take (f.pc+1 - 1)))=some s:=by grind[pg]
    have h3:=h.pe h0;rw [hm,it,DY ho,if_pos hz] at h3
    have hc:mj p (m.trace++[(f.qG,vB ((zR p f.qG).take (f.pc+1 - 1)))])=mj p m.trace+xr s:=by
     grind[mj,tL,xr]
    have hle:=h.le;refine⟨?_,λ_=>?_,?_⟩
    .show m.made<=1+mj p (m.trace++[(f.qG,vB ((zR p f.qG).take (f.pc+1 - 1)))])
     omega
    .show m.made+gZ p (fs++[f.next])<=1+mj p (m.trace++[(f.qG,vB ((zR p f.qG).take (f.pc+1 - 1)))])
     grind[it,fN,qO.next]
    .intro t ht;simp only [qR.top,y9,vD] at ht;rcases ht with ht|rfl
     .exact h.tr t ht
     simp_all
  .rename_i hz;have hG:∀ m':qR,(∃ g,m'.qN=fs++[g]/\g.qG=f.qG/\g.pc=f.pc+1)->m'.made=m.made->m'.trace=m.trace->wi p m':=λm' a b c=>PZ h hm h0 ho hz a b c;have hT:∀ g:qO,g.qG=f.qG->g.pc=f.pc+1->wi p (m.top fs g):=λg a b=>hG _ ⟨g,rfl,a,b⟩ rfl rfl;have hS:∀ (g:qO) (e:Int),g.qG=f.qG->g.pc=f.pc+1->wi p (m.stop fs g e):=λg e a b=>hG _ ⟨g,rfl,a,b⟩ rfl rfl
   have hR:∀ (g:qO) (s:qr),g.qG=f.qG->g.pc=f.pc+1->wi p (jr m fs g o s):=λg s a b=>by
    unfold jr
    repeat' split
    all_goals exact hG _ ⟨_,rfl,a,b⟩ rfl rfl
   split
   .split
    .unfold vj
     repeat' split
     all_goals first|exact hT _ rfl rfl|simp_all
    .split
     .exact hR _ _ rfl rfl
     grind[be]
   .unfold y3
    split
    .exact hT _ rfl rfl
    split
    .unfold dl;dsimp only
     split
     .exact hS _ _ rfl rfl
     .exact hT _ rfl rfl
    split
    .exact hG _ ⟨_,rfl,rfl,rfl⟩ rfl rfl
    split
    .grind[IZ]
    split
    .grind[b9,IZ]
    split
    .unfold cI;dsimp only
     split
     .exact hS _ _ rfl rfl
     .split
      .exact hT _ rfl rfl
      .exact hS _ _ rfl rfl
    split
    .exact hG _ ⟨_,rfl,rfl,rfl⟩ rfl rfl
    grind[I0]
theorem PX (hp:zk p) (hn:n<=150):wi p (yY p n):=by
 have key:∀ i,wi p (zS p i (zU p n)):=by
  intro i
  induction i with
  | zero =>
   have e:zS p 0 (zU p n)=jv p (jQ n) 0 [] []:=rfl;obtain⟨⟨g,h1⟩,h2,h3,h4,h5⟩:=Em (p:=p) (m:=jQ n) (b:=0) (cs:=[]) (vs:=[])
   obtain⟨fs,f,hfr,hM⟩:=(pY hp hn 0).resolve_left (by
    rintro (e1|e1)
    .simp_all
    .exact e1 (by rw [e];unfold jv;split <;> (try split) <;> rfl))
   rw [e] at hfr;refine⟨oo,λ_=>?_,oo⟩
   have hb:gZ p (jv p (jQ n) 0 [] []).qN=0:=by
    have hpc:∀ x∈(jv p (jQ n) 0 [] []).qN,x.pc=0:=by
     unfold jv
     grind[jQ]
    rw [h1] at hpc ⊢;have hg:=hpc g qB;simp only [jQ,gZ,rG,al,oW,List.sum_cons,List.sum_nil,fN,hg,List.drop_zero];unfold zR
    split
    .simp [DV]
    .rfl
   grind[jQ]
  | succ i ih =>
   by_cases he:(zS p i (zU p n)).ended
   .grind[lg]
   .rw [lg,if_neg he];obtain⟨fs,f,h1,h2⟩:=(pY hp hn i).resolve_left he
    have hen:(zS p i (zU p n)).en=0:=by
     by_cases h:(zS p i (zU p n)).en=0
     .exact h
     .exact absurd (.inr h) he
    grind[PY]
 grind[AX]
end
section
variable {p:qC} {l:List (Nat×Nat)} {i:Nat} {t:Nat×Nat} {f:Int}
theorem PW:mj p l<=l.length:=List.countP_le_length
end
end Go.Hm
end
section
namespace Go.Hm
open Go Go.RowKit Go.ChangeShapes Go.WideShapes Go.Deep
variable {H:Type} {enc:TypeId×Value->H} {P:Program} {w:World}
theorem X3 {t:TypeId} (ht:P.underlying t=some .string):DN enc P w t (λl:qU=>[tx l]) (λl=>l.length<=maxLen):=by
 intro n cs y h _;obtain⟨s,rfl,_,hw⟩:=DataW.trod_string ht h;refine⟨s.data.toList,by simpa using hw,rfl,λj v a hv ha=>?_⟩
 cases j with
 | zero =>
  simp at hv ha;subst hv;subst ha;exact⟨.sc _,rfl⟩
 | succ j=>simp at hv
theorem X4 {t e:TypeId} (ht:P.underlying t=some (.slice e)) (he:P.underlying e=some .string) (hc:P.cellsOf e=1) (hby:0<P.bytesOf e)
  {r:Reach} {b0:Nat} {v:Value} {d:DataW H} {p:List MemPlace} (hv:Value.okWide P w r b0 t v) (h:DataW.Trod enc P w 0 (λ_=>true) true t v d p) (hw:∀ m∈d.weights P t,m<=reachBytes) :
  ∃ ws:List qU,(ws.length<=1152921504606846976/\∀ x∈ws,x.length<=maxLen)/\RV (g0 w) w v (jd ws):=by
 obtain⟨a,len,cap,rfl⟩:=okWide_slice ht hv;obtain⟨fuel,hf⟩:=h;obtain⟨x,hx,hl,hr⟩:=X1 (enc:=enc) (w:=w) ht hc qA hby (λ_=>rfl) (X3 he) _ _ _ hf hw;exact⟨x,hx,(hr 0 _ _ rfl rfl).1⟩
end Go.Hm
end
section
namespace Go.Hm
open Go Go.RowKit
section
variable {p:qC}
theorem UL (n:Nat):(yr n).length<=n+1:=by
 induction n using Nat.strongRecOn with
 | _ n ih =>
  rw [yr]
  split
  .simp
  .have:=ih (n / 10) qA;simp;omega
theorem E8 (hs:jt p) (hpo:jq p=true):∃ c n d:Nat,Bj p 150=(c:Int)/\(yY p 150).cells.length=c/\sQ p 150=((n:Int),(d:Int))/\(yY p 150).made=n/\c<=1300/\n<=152:=by
 have hP:=zk.of hs hpo;have hc:=PX (n:=150) hP qA;have hI:=XX (n:=150) (t:=8) hP qA λb=>cT;have hb:=AW (n:=150) hP qA;have h45:=PW (p:=p) (l:=(yY p 150).trace);have hv:kF p 150=true:=by simp [kF,hpo]
 have hcl:=hc.le;have h3:=hI.cells;exact⟨_,_,(yY p 150).deep,sA,rfl,rj,rfl,qA,qA⟩
theorem F5 {b x:Nat} (hh:zj p) (hl:p.length<=7):-2<=aZ p b x/\aZ p b x<=7:=by
 unfold aZ
 split
 .rename_i h;obtain⟨k,hk⟩:=gX h.1;have h1:=CW (p:=p) (x:=(x:Int)) hh b k.parent;have h2:=hh b k hk;have h3:=LN (p:=p) (x:=(x:Int)) b k.parent;simp only [zI,hk,outer]
  split
  .omega
  .split <;> omega
 .omega
theorem DS {l:qU} (hs:jt p) (hpo:jq p=true):(am p l).length<=2000:=by
 have hP:=zk.of hs hpo;have hl:=hP.sh.len;have hm:=(nL hP.sh (f:=150) qA);obtain⟨c,n,d,_,e2,_,e4,h1,h2⟩:=E8 hs hpo
 have hn:∀ x:Int,0<=x->x<=1300->(ug x).length<=1302:=by
  intro x h0 h1;have:=UL x.natAbs;unfold ug
  split
  .omega
  .omega
 have hw:(un p l).length<=2000:=by
  unfold un;rw [e2,e4];have hen:=hm.ok.eK;have htr:=hm.tr
  have hee:∀ i,(aD.getD i []).length<=10:=by
   intro i
   match i with
   | 0|1|2|3|4|5|6|7=>decide
   | i+8=>simp [aD]
  have:=hn (p.length:Int) qA qA;have:=hn (150 - ((uB p 150).left:Int)) qA qA;have:=hn (c:Int) qA qA;have:=hn (n:Int) qA qA;have:=hee (uB p 150).en.toNat
  repeat' split
  all_goals first|omega|decide
 have ho:∀ b x:Nat,(l0 (aZ p b x)).length<=2000:=by
  intro b x;obtain⟨r1,r2⟩:=F5 (b:=b) (x:=x) hP.sh.jj hl.2;unfold l0
  split
  .decide
  .split
   .decide
   .have:=hn (aZ p b x) qA qA;omega
 unfold am
 repeat' split
 all_goals first|exact hw|exact ho _ _
end
end Go.Hm
end
section
namespace Go.Hm
open Go Go.RowKit Go.ChangeShapes Go.WideShapes Go.Deep
theorem qA1 {H:Type} {enc:TypeId×Value->H} {P:Program} {w:World} {spare:Nat->Bool} {n m k:String} {gs:List (DataW H)} {ps:List MemPlace} (h:DataW.TrodVars enc P w spare [n,m,k] gs ps):∃ d e f,gs=[d,e,f]:=by
 cases gs with
 | nil=>simp [DataW.TrodVars] at h
 | cons d gs =>
  have key:∃ q,DataW.TrodVars enc P w spare [m,k] gs q:=by
   grind[DataW.TrodVars]
  obtain⟨q,hq⟩:=key;obtain⟨e,f,rfl⟩:=qAq hq;exact⟨d,e,f,rfl⟩
end Go.Hm
end
