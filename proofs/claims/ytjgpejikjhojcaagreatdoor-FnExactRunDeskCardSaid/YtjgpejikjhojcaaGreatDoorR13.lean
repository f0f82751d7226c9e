import Derived.Test.YtjgpejikjhojcaaGreatDoorR12
set_option linter.unusedSimpArgs false
set_option linter.unusedVariables false
set_option maxRecDepth 100000
set_option maxHeartbeats 4000000

section
namespace Go.Hm
open Go Go.RowKit
section
variable {p:qC} {b o c:Nat} {k q:qX} {x:Int}
theorem SR (hh:zj p):∀ c:Nat,c<p.length->jX p c b=true->jX p b o=true->jX p c o=true:=by
 intro c
 induction c using Nat.strongRecOn with
 | ind c ih =>
  intro hl h1 h2;have g1:=fh h1;have g2:=fh h2;by_cases e:c=b
  .simp_all
  .obtain⟨q,hq⟩:=gX hl;obtain⟨f1,f2,f3⟩:=hh c q hq;have f4:=f3 qA;obtain⟨m,hm⟩:∃ m:Nat,q.parent=m:=⟨q.parent.toNat,qA⟩
   grind[dV]
theorem Ul (hh:zj p) (hk:p[b]?=some k) (hb0:0<b) {o:Int} (h0:0<o) (hob:o<b):∀ c:Nat,jX p c b=true->yK p x p.length c=o->outer p b x=o:=by
 intro c
 induction c using Nat.strongRecOn with
 | ind c ih =>
  intro hi h;have hbc:=fh hi;have hc0:0<c:=qA
  cases hq:p[c]? with
  | none =>
   by_cases e:c=b
   .simp_all
   .have:p.length=0\/∃ n,p.length=n+1:=by
     cases p.length<;>grind
    grind[yK]
  | some q =>
   rw [lY hh hq hc0] at h;obtain⟨g1,g2,g3⟩:=hh c q hq;have g4:=g3 hc0;obtain⟨m,hm⟩:∃ m:Nat,q.parent=m:=⟨q.parent.toNat,qA⟩
   grind[lZ,dV]
theorem F2 (hh:zj p):∀ (n:Nat) (j:Int),yK p x n j=o->0<o->j9 p o=1
 | 0,j,h,h0=>by grind[yK]
 | n+1,j,h,h0=>by
  simp only [yK] at h
  split at h
  .omega
  .split at h
   .omega
   .rename_i q hq
    split at h
    .exact F2 hh n _ h h0
    .rename_i hk1
     split at h
     .omega
     .split at h
      .grind[j9]
      .exact F2 hh n _ h h0
theorem RM (hq:p[c]?=some q) (hx:x∈q.us) (ho:zI p c x=o) (h0:0<o) (hob:o<b) (hi:jX p c b=true):x∈zZ p b:=by
 have hbc:=fh hi;have hcl:=(gS hq).1;simp only [zZ,mem_sorted,wL,eS];refine⟨⟨c - b,qA,?_⟩,(mem_sorted.1 hx).2⟩
 grind[bg,kw]
theorem Pj (hk:j9 p o=1) (hq:p[c]?=some q) (hx:x∈q.us) (ho:zI p c x=o) (hc:o<c):x∈qY p o:=by
 have hcl:=(gS hq).1;simp only [qY,hk,if_true,mem_sorted,wz,eS];refine⟨⟨c - (o+1),qA,?_⟩,(mem_sorted.1 hx).2⟩
 grind[eI,aT]
theorem Pi (h:x∈qY p o) (hk:p[o]?=some k):uA o k x=true/\x∉k.dc 9/\k.kind=1:=by
 unfold qY at h
 split at h
 .rename_i h1;simp only [mem_sorted,wz,eS] at h
  grind[eI,aT,F6,j9]
 grind
theorem xk (h:x∈zZ p b):0<b:=by
 simp only [zZ,mem_sorted,wL,eS] at h
 grind[bg,kw]
theorem Ei (hh:zj p) (hk:p[b]?=some k) (hx:x∈zZ p b):∃ (o c:Nat) (q:qX),0<o/\o<b/\outer p b x=o/\jX p b o=true/\p[c]?=some q/\x∈q.us/\zI p c x=o/\jX p c b=true:=by
 have hb0:=xk hx;simp only [zZ,mem_sorted,wL,eS] at hx;obtain⟨⟨i,hi,hx⟩,_⟩:=hx;unfold bg at hx
 cases hq:p[b+i]? with
 | none=>simp_all
 | some q =>
  rw [hq] at hx;simp only at hx
  split at hx
  case isFalse=>simp at hx
  rename_i hin;obtain⟨hus,hf⟩:=List.mem_filter.1 hx;simp only [kw,ju,decide_eq_true_eq] at hf;obtain⟨o,hO⟩:∃ o:Nat,zI p (b+i) x=o:=⟨(zI p (b+i) x).toNat,qA⟩;rw [hO] at hf
  have key:outer p b x=o:=by
   have hO':=hO;simp only [zI,hq] at hO'
   split at hO'
   .omega
   .split at hO'
    .omega
    .by_cases e:i=0
     .simp_all
     .rw [lZ hh hq] at hO';obtain⟨g1,g2,g3⟩:=hh (b+i) q hq;have g4:=g3 qA;obtain⟨m,hm⟩:∃ m:Nat,q.parent=m:=⟨q.parent.toNat,qA⟩;have hs:=dV hh (b:=(b:Int)) qA hq qA
      grind[Ul]
  grind[Jp]
theorem RK (hh:zj p) (hk:p[b]?=some k) (hx:x∈zZ p b) {o:Nat} (ho:outer p b x=o):x∈qY p o:=by
 obtain⟨o',c,q,h0,hob,e,hi,hq,hu,hw,hc⟩:=Ei hh hk hx;obtain rfl:o=o':=qA
 have hk1:j9 p o=1:=by
  rw [lZ hh hk] at e
  grind[F2]
 have:=fh hc
 grind[Pj]
theorem Pa (hh:zj p) (hk:p[b]?=some k) (hx:x∈zZ p b) {o:Nat} (ho:outer p b x=o) :
  kZ p b<b/\(p[kZ p b]?).isSome/\0<o/\jX p (kZ p b) o=true/\((o=kZ p b/\x∈qY p (kZ p b))\/(o<kZ p b/\x∉qY p (kZ p b)/\x∈zZ p (kZ p b)/\outer p (kZ p b) x=o)):=by
 have hcl:=RK hh hk hx ho;obtain⟨o',c,q,h0,hob,e,hi,hq,hu,hw,hc⟩:=Ei hh hk hx;obtain rfl:o=o':=qA;have qy:=(gS hk).1;have hcl':=(gS hq).1;obtain⟨g1,g2,g3⟩:=hh b k hk;have g4:=g3 qA;obtain⟨P,hP⟩:∃ P:Nat,k.parent=P:=⟨k.parent.toNat,qA⟩;have hpa:kZ p b=P:=by grind[kZ]
 rw [hpa];obtain⟨kp,hkp⟩:∃ kp,p[P]?=some kp:=⟨_,gE qA⟩;have hs:=dV hh (b:=(o:Int)) qA hk qA;rw [hi,hP] at hs;have hge:=fh hs.symm;refine⟨qA,by simp [hkp],h0,hs.symm,?_⟩;by_cases eo:o=P
 .simp_all
 have hbp:jX p b P=true:=by
  grind[dV,bA]
 have hcp:=SR hh c hcl' hc hbp;refine .inr ⟨qA,λhm=>?_,RM hq hu hw h0 qA hcp,?_⟩
 .obtain⟨l1,l2,l3⟩:=Pi hm hkp
  grind[lZ,lY]
 .rw [lZ hh hk,hP,lY hh hkp qA] at e
  grind[lZ]
end
def Steps (p:qC) (m m':qR):Prop:=∃ N,∀ k,zS p (N+k) m=zS p k m'
theorem Ah {p:qC} {m:qR} {fs:List qO} {f:qO} {o:Int×Int} (hf:m.qN=fs++[f]) (ho:(zR p f.qG)[f.pc]?=some o):kh p m=jp p m fs { f with pc:=f.pc+1 } o:=by
 grind[kh]
theorem step_end {p:qC} {m:qR} {fs:List qO} {f:qO} (hf:m.qN=fs++[f]) (ho:(zR p f.qG)[f.pc]?=none):kh p m=aC p m fs f:=by
 grind[kh]
def Ph (p:qC) (qI:List Act) (B:List Nat) (x:Int) (o a:Nat):Nat:=B.getD (aA qI o a a) 0+(yj (qY p o) x).toNat
def Bh (p:qC) (qI:List Act) (B:List Nat) (b up:Nat):List Nat:=(zZ p b).map λx=>Ph p qI B x (outer p b x).toNat up
def H7 (p:qC) (qI:List Act) (B:List Nat) (a:Nat) (c:Act):List Nat:=(List.range (qY p c.qG).length).map (B.getD a 0+·)++Bh p qI B c.qG c.up
structure OM (p:qC) (qI:List Act) (B:List Nat) (a:Nat) (c:Act) (f:qO):Prop where
 qG:f.qG=c.qG
 cells:f.cells=H7 p qI B a c
 qq:f.qq=(qx p c.qG).map λx=>jW c.vars x.toNat
 names:j9 p c.qG=2->f.names=c.vars
structure OT (p:qC) (w:qL) (m:qR) (B:List Nat):Prop where
 en:m.en=w.en
 out:m.out=w.out
 tr:m.trace=w.trace
 left:m.left=w.left
 zJ:m.globals=w.globals
 cls:m.qT=w.qT
 qH:m.qH=w.qH.map λg=>(g.1,Bh p w.qI B g.1 g.2)
 made:m.made=w.qI.length
 blen:B.length=w.qI.length
 top:∀ (a:Nat) c,w.qI[a]?=some c->B.getD a 0+(qY p c.qG).length<=m.cells.length
 Eb:∀ (a a':Nat) c,a<a'->a'<w.qI.length->w.qI[a]?=some c->B.getD a 0+(qY p c.qG).length<=B.getD a' 0
 val:∀ (a j:Nat) c x,w.qI[a]?=some c->(qY p c.qG)[j]?=some x->m.cells[B.getD a 0+j]?=some (jW c.vars x.toNat)
 frl:m.qN.length=w.stack.length
 frs:∀ (i a:Nat) c f,w.stack[i]?=some a->w.qI[a]?=some c->m.qN[i]?=some f->OM p w.qI B a c f
 jl:w.stack.Pairwise (·<·)
 fk:∀ g∈w.qH,j9 p g.1=1
section
variable {p:qC} {w:qL} {m:qR} {B:List Nat} {a b o:Nat} {c:Act} {k:qX} {f:qO} {x:Int} {fs:List qO}
theorem Qi (h:x∈qx p b):x∉qY p b:=by
 grind[qx,AD,kU]
theorem ZM {l:List qr} {i j:Nat} {s:qr} (hi:i<l.length):jW (l.set i s) j=if j=i then s else jW l j:=by
 grind[jW]
theorem CA (hp:zr p) (hk:p[b]?=some k):k.kind=0\/k.kind=1\/k.kind=2:=by
 have h:=hp.head b k hk
 grind
end
end Go.Hm
end
section

end
section
namespace Go.Hm
open Go Go.RowKit
section
variable {p:qC} {w:qL} {m:qR} {B:List Nat} {a b o d up:Nat} {c e:Act} {k:qX} {f:qO} {x:Int} {fs:List qO} {vs:List qW} {cs:List Nat}
theorem P5 {qI:List Act}:Bh p qI B 0 up=[]:=by
 have:zZ p 0=[]:=by
  rw [Ax];intro x hx;exact absurd (xk hx) qe
 grind[Bh]
end
section
variable {p:qC} {w:qL} {m:qR} {B:List Nat} {a b o d up:Nat} {c e:Act} {k:qX} {f:qO} {x:Int} {fs:List qO} {vs:List qW} {cs:List Nat} {st:List Nat} {s:q8}
def qO.next (f:qO):qO:={ f with pc:=f.pc+1 }
end
section
variable {p:qC} {w:qL} {m:qR} {B:List Nat} {a b o d up:Nat} {c e:Act} {k:qX} {f:qO} {x:Int} {fs:List qO} {vs:List qW} {cs:List Nat} {st:List Nat} {s:q8} {n:Nat} {R:qL->Nat->qL×qW}
theorem KZ {l:List qW} (h:l.length=2):∃ u v,l=[u,v]:=by
 match l,h with
 | [u,v],_=>simp
end
end Go.Hm
end
section

end
section

end
section
namespace Go.Hm
open Go Go.RowKit
section
variable {p:qC} {m:qR} {n i j:Nat}
theorem lg:∀ (i:Nat) (m:qR),zS p (i+1) m=if (zS p i m).ended then zS p i m else kh p (zS p i m)
 := by intro x0;induction x0<;>grind[zS]
theorem MN (h:(zS p i m).ended) (hij:i<=j):zS p j m=zS p i m:=by
 induction hij<;>grind[lg]
theorem Zr (hp:zk p):OT p (j4 n) (zU p n) [0]/\∃ f,(zU p n).qN=[]++[f]/\f.qG=0/\f.pc=0/\f.stack=[]:=by
 have hl:=hp.sh.len;obtain⟨k,hk⟩:∃ k,p[0]?=some k:=⟨_,gE qA⟩;have hk0:=(hp.sh.dW hk).2 rfl;have hka:j9 p 0=0:=by grind[j9]
 have hc0:qY p 0=[]:=by grind[qY]
 have hf0:qx p 0=[]:=by grind[qx]
 have hps:(zO p 0).params=[]:=by
  have:=hp.sh.head 0 k hk
  grind[zO]
 have hM:zU p n=⟨[],jR,[],[],[⟨0,0,[],[],jR,[]⟩],1,1,[],[],0,n⟩:=by
  unfold zU jv
  simp_all[jQ]
 rw [hM]
 have hone:∀ (i:Nat) c,(j4 n).qI[i]?=some c->i=0/\c=⟨0,0,jR⟩:=by
  grind[j4]
 refine⟨⟨rfl,rfl,rfl,rfl,rfl,rfl,rfl,rfl,rfl,λa c hc=>?_,λa a' c h1 h2 hc=>?_,λa j c x hc hx=>?_,rfl,λi a c f hi hc hf=>?_,gk,λg hg=>by grind[j4]⟩,_,rfl,rfl,rfl,rfl⟩
 .grind
 .simp_all
 .grind
 .obtain⟨rfl,rfl⟩:=hone a c hc;have hil:=(gS hf).1;constructor<;>grind[H7,P5]
end
def yg:List (Int×Int)->Nat
 | []=>0
 | o::l=>if o.1=0 then 0 else (if o.1=15\/o.1=16\/o.1=17\/o.1=19 then 1 else 0)+yg l
def jz:Nat->List (Int×Int)->Prop
 | h,[]=>h=0
 | h,o::l =>
  if o.1=0 then h=0/\yg l<=1/\jz 0 l
  else if o.1=1\/o.1=2\/o.1=5\/o.1=8\/o.1=11\/o.1=15\/o.1=16 then jz (h+1) l
  else if o.1=3\/o.1=6\/o.1=9\/o.1=12\/o.1=19\/o.1=20 then 1<=h/\jz (h - 1) l
  else if o.1=14 then 2<=h/\jz (h - 1) l
  else if o.1=17 then o.2.toNat+1<=h/\jz (h - o.2.toNat) l
  else if o.1=18 then 1<=h/\jz h l
  else jz h l
structure pz (p:qC) (b:Nat) (o:Int×Int):Prop where
 code:0<=o.1/\o.1<=20
 arg:0<=o.2/\o.2<=1000
 JI:2<=o.1->o.1<=4->o.2<(qx p b).length
 cell:5<=o.1->o.1<=7->o.2<((qY p b).length:Int)+(zZ p b).length
 name:8<=o.1->o.1<=13->o.2<=7
 attr:o.1=18->o.2<=7
 qG:o.1=15\/o.1=16->∃ q,p[o.2.toNat]?=some q/\q.parent=b/\0<o.2/\q.kind=o.1 - 14
 call:o.1=17->o.2<=1
 ret:o.1=20->j9 p b=1
section
variable {p:qC} {b:Nat} {k:qX} {s:q8} {x:Int} {h:Nat} {l:List (Int×Int)}
theorem sw (hr:jz (h+1) l):jz h (jy p b x 0::l):=by
 grind[jz,jy]
theorem U5 (hr:jz h l):jz (h+1) (jy p b x 1::l):=by
 have key:∀ c:Int,c=9\/c=12\/c=3\/c=6->∀ a,jz (h+1) ((c,a)::l):=by
  simp_all[jz]
 grind[jy]
theorem U4 (hr:jz h l):jz h (jy p b x 2::l):=by
 have key:∀ c:Int,c=10\/c=13\/c=4\/c=7->∀ a,jz h ((c,a)::l):=by
  intro c hc a;rcases hc with rfl|rfl|rfl|rfl <;> simpa [jz] using hr
 grind[jy]
theorem F9 {v:Int} (hv:v=0\/v=1\/v=2):yg (jy p b x v::l)=yg l:=by
 grind[yg,jy]
structure px (l:List (Int×Int)):Prop where
 ok:jz 0 l
 kz:yg l=0
theorem ι (hk:0<=s.kind/\s.kind<=11) (hl:px l):px (kM p b s++l):=by
 obtain⟨h1,h2⟩:=hl;have e:kM p b s++l=(0,0)::(ui p b s++(vP s++(vY p b s++l))):=by simp [kM]
 rw [e];refine⟨?_,iz⟩
 have g:yg (ui p b s++(vP s++(vY p b s++l)))<=1/\jz 0 (ui p b s++(vP s++(vY p b s++l))):=by
  obtain⟨kd,to,a,c⟩:=s;simp only at hk;have p0:=λx l=>F9 (p:=p) (b:=b) (x:=x) (l:=l) (v:=0) (.inl rfl);have p1:=λx l=>F9 (p:=p) (b:=b) (x:=x) (l:=l) (v:=1) (.inr (.inl rfl));have p2:=λx l=>F9 (p:=p) (b:=b) (x:=x) (l:=l) (v:=2) (.inr (.inr rfl));have s1:jz 1 (jy p b to 1::l):=U5 h1;have q1:∀ (a:Int) (l:List (Int×Int)),yg ((1,a)::l)=yg l:=λa l=>iz;have q14:∀ (a:Int) (l:List (Int×Int)),yg ((14,a)::l)=yg l:=λa l=>iz;have q18:∀ (a:Int) (l:List (Int×Int)),yg ((18,a)::l)=yg l:=λa l=>iz;have q20:∀ (a:Int) (l:List (Int×Int)),yg ((20,a)::l)=yg l:=λa l=>iz;have q15:∀ (a:Int) (l:List (Int×Int)),yg ((15,a)::l)=1+yg l:=λa l=>iz;have q16:∀ (a:Int) (l:List (Int×Int)),yg ((16,a)::l)=1+yg l:=λa l=>iz;have q17:∀ (a:Int) (l:List (Int×Int)),yg ((17,a)::l)=1+yg l:=λa l=>iz;have q19:∀ (a:Int) (l:List (Int×Int)),yg ((19,a)::l)=1+yg l:=λa l=>iz;have hd:kd=0\/kd=1\/kd=2\/kd=3\/kd=4\/kd=5\/kd=6\/kd=7\/kd=8\/kd=9\/kd=10\/kd=11:=qA;rcases hd with rfl|rfl|rfl|rfl|rfl|rfl|rfl|rfl|rfl|rfl|rfl|rfl
  .grind[ui,q8.reads,vP,vY,jz]
  .grind[ui,q8.reads,vP,vY,sw]
  .grind[ui,q8.reads,vP,vY,sw,jz]
  .grind[ui,q8.reads,vP,vY,jz]
  .grind[ui,q8.reads,vP,vY,jz]
  .grind[ui,q8.reads,vP,vY,sw,jz]
  .grind[ui,q8.reads,vP,vY,sw,jz]
  .grind[ui,q8.reads,vP,vY,sw,jz]
  .grind[ui,q8.reads,vP,vY,sw,jz]
  .grind[ui,q8.reads,vP,vY]
  .grind[ui,q8.reads,vP,vY]
  grind[ui,q8.reads,vP,vY,U4]
 grind[jz]
theorem Hu:∀ ss:List q8,(∀ s∈ss,0<=s.kind/\s.kind<=11)->px (vr p b ss)
 | [],_=>⟨rfl,rfl⟩
 | s::ss,h=>by
  have e:vr p b (s::ss)=kM p b s++vr p b ss:=by simp [vr]
  rw [e];exact ι (h s qB) (Hu ss λt ht=>h t ry)
theorem U7 (hp:zr p) (hk:p[b]?=some k):px (zR p b):=by
 rw [zR,hk];exact Hu _ (hp.names k (gM hk)).kinds
theorem Kq (hp:zr p) (hk:p[b]?=some k) (hu:x∈k.us) {v:Int} (h0:0<=v) (h2:v<=2):pz p b (jy p b x v):=by
 have hx:0<=x/\x<=7:=by
  grind[qX.us,mem_sorted]
 have f1:=pD (p:=p) (b:=b);have f2:=cT (p:=p) (b:=b);have f3:=fg (p:=p) (b:=b);rcases UA (w:=v) hp hk hu with⟨_,e⟩|⟨_,e⟩|⟨_,i,e,hi,_⟩|⟨_,i,e,hi,_⟩|⟨_,i,e,hi,_⟩ <;> rw [e] <;> refine⟨?_,?_,?_,?_,?_,?_,?_,?_,?_⟩ <;> simp only [] <;> omega
theorem CV (hp:zr p) (hk:p[b]?=some k):∀ o∈zR p b,pz p b o:=by
 have hn:=hp.names k (gM hk);intro o ho;simp only [zR,hk,vr,List.mem_flatMap] at ho;obtain⟨s,hs,ho⟩:=ho;have hst:=hp.ed b k hk s hs;have hkd:=hn.kinds s hs;have hka:j9 p b=k.kind:=fP;simp only [kM,vQ,y9] at ho;rcases ho with rfl|ho|ho|ho
 .refine⟨?_,?_,?_,?_,?_,?_,?_,?_,?_⟩ <;> simp only [] <;> omega
 .grind[ui,Kq,Xm]
 .unfold vP at ho;by_cases k0:s.kind=0
  .rw [if_pos k0] at ho;obtain rfl:=vD.1 ho;have:=zt.num hst k0;refine⟨?_,?_,?_,?_,?_,?_,?_,?_,?_⟩ <;> simp only [] <;> omega
  rw [if_neg k0] at ho;by_cases k2:s.kind=2
  .rw [if_pos k2] at ho;obtain rfl:=vD.1 ho;refine⟨?_,?_,?_,?_,?_,?_,?_,?_,?_⟩ <;> simp only [] <;> omega
  rw [if_neg k2] at ho;by_cases k3:s.kind=3
  .rw [if_pos k3] at ho;obtain rfl:=vD.1 ho;obtain⟨q,q1,q2,q3,q4⟩:=zt.made hst (.inl k3);have hql:=(gS q1).1;have:=hp.len;refine⟨?_,?_,?_,?_,?_,?_,λ_=>⟨q,q1,q2,q3,?_⟩,?_,?_⟩ <;> simp only [] <;> omega
  rw [if_neg k3] at ho;by_cases k4:s.kind=4
  .rw [if_pos k4] at ho;obtain rfl:=vD.1 ho;obtain⟨q,q1,q2,q3,q4⟩:=zt.made hst (.inr k4);have hql:=(gS q1).1;have:=hp.len;refine⟨?_,?_,?_,?_,?_,?_,λ_=>⟨q,q1,q2,q3,?_⟩,?_,?_⟩ <;> simp only [] <;> omega
  rw [if_neg k4] at ho;by_cases k5:s.kind=5
  .rw [if_pos k5] at ho;obtain rfl:=vD.1 ho
   have:s.reads.length=1\/s.reads.length=2:=by
    grind[q8.reads]
   refine⟨?_,?_,?_,?_,?_,?_,?_,?_,?_⟩ <;> simp only [] <;> omega
  rw [if_neg k5] at ho;by_cases k6:s.kind=6
  .rw [if_pos k6] at ho;obtain rfl:=vD.1 ho
   have:0<=s.b/\s.b<=7:=by
    grind[zt]
   refine⟨?_,?_,?_,?_,?_,?_,?_,?_,?_⟩ <;> simp only [] <;> omega
  rw [if_neg k6] at ho;by_cases k7:s.kind=7
  .rw [if_pos k7] at ho;obtain rfl:=vD.1 ho;refine⟨?_,?_,?_,?_,?_,?_,?_,?_,?_⟩ <;> simp only [] <;> omega
  rw [if_neg k7] at ho;by_cases k8:s.kind=8
  .rw [if_pos k8] at ho;obtain rfl:=vD.1 ho
   have:k.kind=1:=by
    grind[zt]
   refine⟨?_,?_,?_,?_,?_,?_,?_,?_,?_⟩ <;> simp only [] <;> omega
  simp_all
 grind[vY,Kq,qAb]
end
structure ig (p:qC) (nf nk nc:Nat) (f:qO) (e:Nat):Prop where
 qG:f.qG<p.length
 fl:f.qq.length=(qx p f.qG).length
 fv:∀ v,some v∈f.qq->ze nf nk v
 cl:f.cells.length=(qY p f.qG).length+(zZ p f.qG).length
 cr:∀ c∈f.cells,c<nc
 nm:vL nf nk f.names
 sv:∀ v∈f.stack,ze nf nk v
 sl:f.stack.length+e<=f.pc
 pc:f.pc<=(zR p f.qG).length
 ok:jz (f.stack.length+e) ((zR p f.qG).drop f.pc)
def yz (p:qC) (f:qO):Nat:=yg ((zR p f.qG).drop f.pc)
def l6 (p:qC) (fs:List qO):Nat:=(fs.map (yz p)).sum
structure yV (p:qC) (m:qR) (fs:List qO) (f:qO):Prop where
 cells:∀ v,some v∈m.cells->ze m.qH.length m.qT.length v
 zJ:vL m.qH.length m.qT.length m.globals
 cls:∀ c∈m.qT,vL m.qH.length m.qT.length c
 qH:∀ g∈m.qH,∃ k,p[g.1]?=some k/\k.kind=1/\g.2.length=(zZ p g.1).length/\∀ c∈g.2,c<m.cells.length
 low:∀ g∈fs,ig p m.qH.length m.qT.length m.cells.length g 1
 top:ig p m.qH.length m.qT.length m.cells.length f 0
 made:m.made+m.left+(l6 p fs+yz p f)<=151
 nf:m.qH.length+m.left+(l6 p fs+yz p f)<=150
 nk:m.qT.length+(fs.length+1)<=m.made
 nc:m.cells.length<=8 * m.made
 out:m.out.length+m.left+(l6 p fs+yz p f)<=150
 tr:m.trace.length+m.left<=150
 deep:fs.length+1<=m.deep/\m.deep<=m.made
 b0:∀ g,(fs++[f])[0]?=some g->g.qG=0
section
variable {p:qC} {m:qR} {nf nk nc nf' nk' nc' b e:Nat} {fs:List qO} {f g:qO} {o:Int×Int} {v:qW} {k:qX} {x:Int}
theorem ig.mono (h:ig p nf nk nc f e) (h1:nf<=nf') (h2:nk<=nk') (h3:nc<=nc'):ig p nf' nk' nc' f e :=
 ⟨h.qG,h.fl,λv hv=>(h.fv v hv).mono h1 h2,h.cl,λc hc=>uQ (h.cr c hc) h3,h.nm.mono h1 h2,λv hv=>(h.sv v hv).mono h1 h2,h.sl,h.pc,h.ok⟩
theorem mq (ho:(zR p f.qG)[f.pc]?=some o):(zR p f.qG).drop f.pc=o::(zR p f.qG).drop (f.pc+1):=by
 grind[gV]
theorem tG {l:List qr} {i:Nat} (h:jW l i=some v):some v∈l:=by
 grind[jW]
theorem iU (h:1<=f.stack.length):f.zB∈f.stack:=by
 grind[qO.zB,List.mem_of_getLast?]
theorem la:f.pop.stack.length=f.stack.length - 1:=by simp [qO.pop]
theorem nQ {v:qW} (h:v∈f.pop.stack):v∈f.stack:=List.dropLast_subset _ h
theorem yV.re {pc:Nat} {st:List qW} (h:yV p m fs f) (ho:(zR p f.qG)[f.pc]?=some o) (hpc:pc=f.pc+1) (hv:∀ v∈st,ze m.qH.length m.qT.length v) (hl:st.length<=pc) (hok:jz st.length ((zR p f.qG).drop (f.pc+1))) (h0:o.1≠0):yV p m fs { f with pc:=pc,stack:=st }:=by
 subst hpc;have hd:=mq ho;have hpl:=(gS ho).1
 have hp1:yz p { f with pc:=f.pc+1,stack:=st }<=yz p f:=by
  grind[yz,yg]
 have h1:=h.made;have h2:=h.nf;have h3:=h.out;refine⟨h.cells,h.zJ,h.cls,h.qH,h.low,⟨h.top.qG,h.top.fl,h.top.fv,h.top.cl,h.top.cr,h.top.nm,hv,hl,hpl,hok⟩,qA,qA,h.nk,h.nc,qA,h.tr,h.deep,λg hg=>?_⟩
 cases fs with
 | nil=>simp at hg;subst hg;exact h.b0 f qB
 | cons a l=>exact h.b0 g qP
theorem yV.qN {X:List qO} (h:yV p m fs f):yV p { m with qN:=X } fs f :=
 ⟨h.cells,h.zJ,h.cls,h.qH,h.low,h.top,h.made,h.nf,h.nk,h.nc,h.out,h.tr,h.deep,h.b0⟩
def ly (p:qC) (m:qR):Prop:=∃ fs f,m.qN=fs++[f]/\yV p m fs f
theorem ly.of (h:yV p m fs f):ly p (m.top fs f):=⟨fs,f,rfl,h.qN⟩
theorem Ra (h:yV p m fs f) (hg:kG m f o=some v):ze m.qH.length m.qT.length v:=by
 unfold kG at hg
 split at hg
 .exact h.top.fv v (tG hg)
 .split at hg
  .exact h.cells v (tG hg)
  .split at hg
   .exact h.zJ.2 v (tG hg)
   .exact h.top.nm.2 v (tG hg)
theorem Lc (h:yV p m fs f) (ho:(zR p f.qG)[f.pc]?=some o) (h0:o.1≠0) (hok:jz (f.stack.length+1) ((zR p f.qG).drop (f.pc+1))) (hv:ze m.qH.length m.qT.length v):yV p m fs (f.next.push v):=by
 have hsl:=h.top.sl;refine h.re ho rfl (λu hu=>?_) ?_ ?_ h0
 .rcases y9.1 hu with e|e
  .exact h.top.sv u e
  simp_all
 .grind[qO.next]
 grind[qO.next]
theorem Mg {l:List qr} {i:Nat} {s:qr} {u:qW} (h:some u∈l.set i s):some u∈l\/s=some u:=by
 grind
theorem Me {s:qr} (h:yV p m fs f) (hs:∀ v,s=some v->ze m.qH.length m.qT.length v):ly p (jr m fs f o s):=by
 unfold jr
 split
 .refine .of ⟨h.cells,h.zJ,h.cls,h.qH,h.low,⟨h.top.qG,by simp [h.top.fl],λv hv=>?_,h.top.cl,h.top.cr,h.top.nm,h.top.sv,h.top.sl,h.top.pc,h.top.ok⟩,h.made,h.nf,h.nk,h.nc,h.out,h.tr,h.deep,λg hg=>?_⟩
  .rcases Mg hv with e|e
   .exact h.top.fv v e
   simp_all
  .cases fs with
   | nil=>simp at hg;subst hg;exact h.b0 f qB
   | cons a l=>exact h.b0 g qP
 .split
  .refine⟨fs,f,rfl,⟨λv hv=>?_,h.zJ,h.cls,λg hg=>?_,λg hg=>(h.low g hg).mono (qa _) (qa _) qB,h.top.mono (qa _) (qa _) qB,h.made,h.nf,h.nk,?_,h.out,h.tr,h.deep,h.b0⟩⟩
   .rcases Mg hv with e|e
    .exact h.cells v e
    .exact hs v e
   .obtain⟨q,q1,q2,q3,q4⟩:=h.qH g hg
    simp_all
   grind[yV.nc,qR.top]
  .split
   .exact⟨fs,f,rfl,⟨h.cells,h.zJ.set hs,h.cls,h.qH,h.low,h.top,h.made,h.nf,h.nk,h.nc,h.out,h.tr,h.deep,h.b0⟩⟩
   .refine .of ⟨h.cells,h.zJ,h.cls,h.qH,h.low,⟨h.top.qG,h.top.fl,h.top.fv,h.top.cl,h.top.cr,h.top.nm.set hs,h.top.sv,h.top.sl,h.top.pc,h.top.ok⟩,h.made,h.nf,h.nk,h.nc,h.out,h.tr,h.deep,λg hg=>?_⟩
    cases fs with
    | nil=>simp at hg;subst hg;exact h.b0 f qB
    | cons a l=>exact h.b0 g qP
theorem I5 (hh:zj p) (hk:p[b]?=some k):∀ y∈zw p b,0<=y/\y<((qY p (kZ p b)).length:Int)+(zZ p (kZ p b)).length:=by
 intro y hy;simp only [zw,bV] at hy;obtain⟨x,hx,rfl⟩:=hy;obtain⟨o,_,_,_,_,ho,_⟩:=Ei hh hk hx;obtain⟨_,_,_,_,hcase⟩:=Pa hh hk hx ho
 grind[nO,bb]
theorem Bg (hh:zj p) (h:ig p nf nk nc f e) (hk:p[b]?=some k) (hpar:k.parent=f.qG):(jF p f b).length=(zZ p b).length/\∀ c∈jF p f b,c<nc:=by
 have hpa:kZ p b=f.qG:=by grind[kZ]
 refine⟨by simp [jF,zw],λc hc=>?_⟩;simp only [jF,bV] at hc;obtain⟨y,hy,rfl⟩:=hc;have hr:=I5 hh hk y hy;rw [hpa] at hr;have hcl:=h.cl;obtain⟨c,hc⟩:∃ c,f.cells[y.toNat]?=some c:=⟨_,gE qA⟩;rw [bT,hc];exact h.cr c (gM hc)
theorem LJ (hp:zr p) (hb:b<p.length):jz 0 (zR p b)/\yg (zR p b)=0:=by
 obtain⟨k,hk⟩:=gX hb
 grind[U7,px.ok,px.kz]
theorem LZ (hp:zk p) (hk:p[b]?=some k) (hx:x∈k.params):x∈qx p b\/x∈qY p b:=by
 have hkm:=gM hk;have hxr:=(hp.sh.names k hkm).params x hx;have how:=hp.pm b k hk x hx;have hhd:=hp.sh.head b k hk
 grind[j9,NN,zk.sh,j5]
theorem PG {cs:List Nat} {vs:List qW} {pd:Nat} (hp:zk p) (hb:b<p.length) (h0:0<b)
  (hcells:∀ v,some v∈m.cells->ze m.qH.length m.qT.length v) (hglob:vL m.qH.length m.qT.length m.globals) (hcls:∀ c∈m.qT,vL m.qH.length m.qT.length c)
  (hfuns:∀ g∈m.qH,∃ k,p[g.1]?=some k/\k.kind=1/\g.2.length=(zZ p g.1).length/\∀ c∈g.2,c<m.cells.length)
  (hlow:∀ g∈m.qN,ig p m.qH.length m.qT.length m.cells.length g 1) (hne:m.qN≠[]) (hpd:l6 p m.qN=pd)
  (hmade:m.made+1+m.left+pd<=151) (hnf:m.qH.length+m.left+pd<=150) (hnk:m.qT.length+m.qN.length<=m.made) (hnc:m.cells.length<=8 * m.made) (hout:m.out.length+m.left+pd<=150) (htr:m.trace.length+m.left<=150) (hdeep:m.qN.length<=m.deep/\m.deep<=m.made) (hb0:∀ g,m.qN[0]?=some g->g.qG=0)
  (hcsl:cs.length=(zZ p b).length) (hcs:∀ c∈cs,c<m.cells.length) (hvs:∀ v∈vs,ze m.qH.length m.qT.length v):ly p (jv p m b cs vs):=by
 obtain⟨k,hk⟩:=gX hb;have hpar:(zO p b).params=k.params:=fT;obtain⟨o1,o2⟩:=LJ hp.sh hb;have c8:=cT (p:=p) (b:=b)
 have base:∀ (F:qO) (C:List qr),F.qG=b->F.pc=0->F.stack=[]->F.names=jR->F.cells=((List.range (qY p b).length).map (m.cells.length+·))++cs->F.qq.length=(qx p b).length->(∀ v,some v∈F.qq->ze m.qH.length m.qT.length v)->C.length=m.cells.length+(qY p b).length->(∀ v,some v∈C->ze m.qH.length m.qT.length v) ->
   ly p { m with cells:=C,made:=m.made+1,deep:=max m.deep (m.qN.length+1),qN:=m.qN++[F] }:=by
  intro F C f1 f2 f3 f4 f5 f6 f7 c1 c2;have hpF:yz p F=0:=by grind[yz]
  refine⟨m.qN,F,rfl,⟨c2,hglob,hcls,λg hg=>?_,λg hg=>(hlow g hg).mono (qa _) (qa _) qP,⟨qA,qP,f7,?_,λc hc=>?_,by grind[vL.none],qP,qP,qA,?_⟩,?_,?_,?_,?_,?_,htr,?_,λg hg=>?_⟩⟩
  .grind
  .simp_all
  .grind
  .simp_all
  .simp_all
  .simp_all
  .grind
  .grind
  .simp_all
  .grind
  grind
 unfold jv
 split
 .grind
 simp_all
end
section
variable {p:qC} {m:qR} {b e:Nat} {fs:List qO} {f g:qO} {o:Int×Int} {v:qW} {k:qX} {x:Int} {l:List (Int×Int)}
def rB (p:qC) (m:qR):Prop:=m.en≠0\/m.qN=[]\/ly p m
theorem G9 {l:List qO} {a:qO}:l6 p (l++[a])=l6 p l+yz p a:=by simp [l6]
theorem KX (h:yV p m fs f) (hv:ze m.qH.length m.qT.length v):rB p (yq m fs v):=by
 unfold yq
 cases hl:fs.getLast? with
 | none=>exact .inr (.inl rfl)
 | some g =>
  obtain⟨gs,rfl⟩:∃ gs,fs=gs++[g]:=by
   grind[Ay]
  have hg:=h.low g qB;have h1:=h.made;have h2:=h.nf;have h3:=h.out;have h4:=h.nk;have h5:=h.deep;rw [G9] at h1 h2 h3;have hp1:yz p (g.push v)=yz p g:=rfl;simp only [ua,wm] at h4 h5;refine .inr (.inr ⟨gs,g.push v,qB,⟨h.cells,h.zJ,h.cls,h.qH,λq hq=>h.low q gi,⟨hg.qG,hg.fl,hg.fv,hg.cl,hg.cr,hg.nm,λu hu=>?_,?_,hg.pc,?_⟩,qw,qw,qw,h.nc,qw,h.tr,qw,λq hq=>?_⟩⟩)
  .rcases y9.1 hu with e|e
   .exact hg.sv u e
   simp_all
  .have:=hg.sl
   grind[qO.push]
  .simpa [qO.push] using hg.ok
  .cases gs with
   | nil =>
    simp at hq;subst hq;exact h.b0 g qB
   | cons a l=>exact h.b0 q qP
theorem O8 {c:List qr} (h:yV p m fs f) (hc:vL m.qH.length m.qT.length c) (hn:m.qT.length+1+fs.length<=m.made):rB p (yq { m with qT:=m.qT++[c] } fs (3,m.qT.length)):=by
 have hl:m.qT.length<=(m.qT++[c]).length:=qB;have hm:=h.made;unfold yq
 cases hlst:fs.getLast? with
 | none=>exact .inr (.inl rfl)
 | some g =>
  obtain⟨gs,rfl⟩:∃ gs,fs=gs++[g]:=by
   grind[Ay]
  have hg:=(h.low g qB).mono (nf':=m.qH.length) (nk':=(m.qT++[c]).length) (nc':=m.cells.length) (qa _) hl (qa _);have h1:=h.made;have h2:=h.nf;have h3:=h.out;have h5:=h.deep;rw [G9] at h1 h2 h3;have hp1:∀ u,yz p (g.push u)=yz p g:=λ_=>rfl;simp only [ua,wm] at hn h5;refine .inr (.inr ⟨gs,g.push (3,(m.qT.length:Int)),qB,⟨λu hu=>(h.cells u hu).mono (qa _) hl,h.zJ.mono (qa _) hl,λq hq=>?_,h.qH,λq hq=>(h.low q gi).mono (qa _) hl (qa _),⟨hg.qG,hg.fl,hg.fv,hg.cl,hg.cr,hg.nm,λu hu=>?_,?_,hg.pc,?_⟩,qw,qw,qP,h.nc,qw,h.tr,qw,λq hq=>?_⟩⟩)
  .rcases y9.1 hq with e|e
   .exact (h.cls q e).mono (qa _) hl
   .simp only [vD] at e;subst e;exact hc.mono (qa _) hl
  .rcases y9.1 hu with e|e
   .exact hg.sv u e
   constructor<;>grind
  .have:=hg.sl
   grind[qO.push]
  .simpa [qO.push] using hg.ok
  .cases gs with
   | nil =>
    simp at hq;subst hq;exact h.b0 g qB
   | cons a l=>exact h.b0 q qP
theorem ZJ {st:List qW} (h:yV p m fs f) (ho:(zR p f.qG)[f.pc]?=some o) (h0:o.1≠0) (hs:∀ u∈st,u∈f.stack) (hl:st.length<=f.stack.length) (hok:jz st.length ((zR p f.qG).drop (f.pc+1))):yV p m fs { f with pc:=f.pc+1,stack:=st } :=
 h.re ho rfl (λu hu=>h.top.sv u (hs u hu)) (by have:=h.top.sl;omega) hok h0
theorem J1 {st:List qW} {b:Nat} {cs:List Nat} {vs:List qW} (hp:zk p) (h:yV p m fs f) (ho:(zR p f.qG)[f.pc]?=some o) (h0:o.1=16\/o.1=17) (hs:∀ u∈st,u∈f.stack) (hl:st.length+1<=f.pc+1) (hok:jz (st.length+1) ((zR p f.qG).drop (f.pc+1)))
  (hb:b<p.length) (hb0:0<b) (hcsl:cs.length=(zZ p b).length) (hcs:∀ c∈cs,c<m.cells.length) (hvs:∀ v∈vs,ze m.qH.length m.qT.length v):ly p (jv p (m.top fs { f with pc:=f.pc+1,stack:=st }) b cs vs):=by
 have hd:=mq ho;have hpl:=(gS ho).1
 have hp1:yz p f=1+yz p { f with pc:=f.pc+1,stack:=st }:=by
  grind[yz,yg]
 have h1:=h.made;have h2:=h.nf;have h3:=h.out;have h4:=h.nk;have h5:=h.deep;refine PG (pd:=l6 p fs+yz p { f with pc:=f.pc+1,stack:=st }) hp hb hb0 h.cells h.zJ h.cls h.qH (λg hg=>?_) cL (by grind[qR.top,G9]) ?_ ?_ ?_ h.nc ?_ h.tr ?_ (λg hg=>?_) hcsl hcs hvs
 .simp only [qR.top,y9,vD] at hg;rcases hg with e|e
  .exact h.low g e
  .subst e;exact⟨h.top.qG,h.top.fl,h.top.fv,h.top.cl,h.top.cr,h.top.nm,λu hu=>h.top.sv u (hs u hu),hl,hpl,hok⟩
 .grind[qR.top]
 .grind[qR.top]
 .grind[qR.top]
 .grind[qR.top]
 .grind[qR.top]
 .simp only [qR.top] at hg
  cases fs with
  | nil=>simp at hg;subst hg;exact h.b0 f qB
  | cons a l=>exact h.b0 g qP
theorem QI {c:Int} (h:0<=c/\c<=20):c=0\/c=1\/(2<=c/\c<=13)\/c=14\/c=15\/c=16\/c=17\/c=18\/c=19\/c=20:=qA
theorem U8 (hp:zk p) (h:yV p m fs f) (ho:(zR p f.qG)[f.pc]?=some o):rB p (jp p m fs f.next o):=by
 obtain⟨k,hk⟩:=gX h.top.qG;have hO:=CV hp.sh hk o (gM ho);have hd:=mq ho;have hok:=h.top.ok;rw [hd,dq] at hok;obtain⟨l,hl⟩:∃ l,l=(zR p f.qG).drop (f.pc+1):=⟨_,rfl⟩;rw [<- hl] at hok hd;have h1:=h.made;have h2:=h.nf;have h3:=h.out;have hsl:=h.top.sl;obtain⟨c,a⟩:=o;simp only [jz] at hok;have hstop:∀ (F:qO) (e:Int),e≠0->rB p (m.stop fs F e):=λF e he=>.inl he;rcases QI hO.code with rfl|rfl|⟨n2,n13⟩|rfl|rfl|rfl|rfl|rfl|rfl|rfl
 · -- a statement begins
  simp at hok;have e0:jp p m fs f.next (0,a)=wU p m fs f.next:=by simp [jp]
  rw [e0,wU];by_cases hz:m.left=0
  .simp_all
  .rw [if_neg hz];have hpl:=(gS ho).1;have hpf:yz p f=0:=by grind[yz,yg]
   have hpn:yz p f.next=yg l:=by grind[yz,qO.next]
   have htr:=h.tr;refine .inr (.inr ⟨fs,f.next,rfl,⟨h.cells,h.zJ,h.cls,h.qH,h.low,⟨h.top.qG,h.top.fl,h.top.fv,h.top.cl,h.top.cr,h.top.nm,h.top.sv,by grind[qO.next],hpl,?_⟩,?_,?_,h.nk,h.nc,?_,?_,h.deep,λg hg=>?_⟩⟩)
   .show jz (f.stack.length+0) ((zR p f.qG).drop (f.pc+1))
    simp_all
   .grind[qR.top]
   .grind[qR.top]
   .grind[qR.top]
   .grind
   .cases fs with
    | nil=>simp at hg;subst hg;exact h.b0 f qB
    | cons a l=>exact h.b0 g qP
 .simp at hok;have e0:jp p m fs f.next (1,a)=m.top fs (f.next.push (1,a)):=mV;rw [e0];refine .inr (.inr (.of (Lc h ho qB qP ?_)));have:=hO.arg;constructor<;>grind
 · -- names
  have e0:jp p m fs f.next (c,a)=if (c - 2) % 3=0 then vj p m fs f.next (c,a) else if (c - 2) % 3=1 then Aj m fs f.next (c,a) else be p m fs f.next (c,a):=by
   grind[jp]
  rw [e0];have hn:∀ st:List qW,(∀ u∈st,u∈f.stack)->st.length<=f.stack.length->jz st.length l->yV p m fs { f with pc:=f.pc+1,stack:=st }:=λst q1 q2 q3=>ZJ h ho qA q1 q2 qw;by_cases m0:(c - 2) % 3=0
  .rw [if_pos m0];have hc:c=2\/c=5\/c=8\/c=11:=qA
   have hok':jz (f.stack.length+1) l:=by
    grind
   have push:∀ v,ze m.qH.length m.qT.length v->rB p (m.top fs (f.next.push v)):=λv hv=>.inr (.inr (.of (Lc h ho qA qw hv)));unfold vj;have hgs:kG m f.next (c,a)=kG m f (c,a):=rfl;rw [hgs]
   cases hg:kG m f (c,a) with
   | some v=>grind[Ra]
   | none =>
    simp only
    split
    .split
     .rename_i v hv;exact push v (h.zJ.2 v (tG hv))
     .split
      .exact push _ ⟨qe,qB,qB⟩
      grind
    grind[uE]
  .rw [if_neg m0];by_cases m1:(c - 2) % 3=1
   .rw [if_pos m1];have hc:c=3\/c=6\/c=9\/c=12:=qA
    have hok':1<=f.stack.length/\jz (f.stack.length - 1) l:=by
     rcases hc with rfl|rfl|rfl|rfl <;> simpa using hok
    have hM:=hn f.pop.stack (λu hu=>nQ hu) (by grind[la]) (by grind[la]);refine .inr (.inr (Me (f:=f.next.pop) hM λv hv=>?_));obtain rfl:=sI hv;exact h.top.sv _ (iU hok'.1)
   .rw [if_neg m1];have hc:c=4\/c=7\/c=10\/c=13:=qA
    have hok':jz f.stack.length l:=by
     rcases hc with rfl|rfl|rfl|rfl <;> simpa using hok
    have hM:=hn f.stack (λu hu=>hu) (qa _) hok';unfold be
    split
    .exact .inr (.inr (Me (f:=f.next) hM λv hv=>by cases hv))
    grind[uE]
 .simp at hok;have e0:jp p m fs f.next (14,a)=dl m fs f.next:=mV;rw [e0,dl];have hp2:f.next.pop.pop.stack.length=f.stack.length - 2:=by grind[la,qO.next]
  have hv1:=h.top.sv _ (iU (f:=f) qA);have hv2:=h.top.sv _ (nQ (iU (f:=f.pop) (by grind[la])))
  split
  .simp_all
  .refine .inr (.inr (.of ?_));refine h.re ho rfl (λu hu=>?_) ?_ ?_ qB
   .rcases y9.1 hu with e|e
    .exact h.top.sv u (nQ (nQ e))
    .simp only [vD] at e;subst e;have e1:f.next.pop.zB=f.pop.zB:=rfl;have e2:f.next.zB=f.zB:=rfl;rw [e1,e2];have q1:=hv1.num;have q2:=hv2.num;constructor<;>grind
   .constructor<;>grind
   grind
 .simp at hok;obtain⟨q,q1,q2,q3,q4⟩:=hO.qG (.inl rfl);simp only at q1 q3 q4;have e0:jp p m fs f.next (15,a)={ m.top fs (f.next.push (2,m.qH.length)) with qH:=m.qH++[(a.toNat,jF p f.next a.toNat)] }:=mV;rw [e0];obtain⟨c1,c2⟩:=Bg hp.sh.jj h.top q1 q2;have hfl:m.qH.length<=(m.qH++[(a.toNat,jF p f.next a.toNat)]).length:=qB;have hpf:yz p f=1+yg l:=by grind[yz,yg]
  have hpn:yz p (f.next.push (2,(m.qH.length:Int)))=yg l:=by grind[yz,qO.next,qO.push]
  have hpl:=(gS ho).1;have hT:=h.top.mono (nf':=(m.qH++[(a.toNat,jF p f.next a.toNat)]).length) hfl (qa _) (qa _);refine .inr (.inr ⟨fs,_,rfl,⟨λu hu=>(h.cells u hu).mono hfl (qa _),h.zJ.mono hfl (qa _),λu hu=>(h.cls u hu).mono hfl (qa _),λu hu=>?_,λu hu=>(h.low u hu).mono hfl (qa _) (qa _),⟨hT.qG,hT.fl,hT.fv,hT.cl,hT.cr,hT.nm,λu hu=>?_,?_,hpl,?_⟩,?_,?_,h.nk,h.nc,?_,h.tr,h.deep,λg hg=>?_⟩⟩)
  .rcases y9.1 hu with e|e
   .exact h.qH u e
   .simp only [vD] at e;subst e;exact⟨q,q1,qA,c1,c2⟩
  .rcases y9.1 hu with e|e
   .exact hT.sv u e
   constructor<;>grind
  .grind[qO.push,qO.next]
  .grind[qO.push,qO.next]
  .grind[qR.top]
  .grind[qR.top]
  .grind[qR.top]
  .cases fs with
   | nil=>simp at hg;subst hg;exact h.b0 f qB
   | cons a l=>exact h.b0 g qP
 .simp at hok;obtain⟨q,q1,q2,q3,q4⟩:=hO.qG (.inr rfl);simp only at q1 q3 q4;have e0:jp p m fs f.next (16,a)=jv p (m.top fs f.next) a.toNat (jF p f.next a.toNat) []:=mV;rw [e0];obtain⟨c1,c2⟩:=Bg hp.sh.jj h.top q1 q2;exact .inr (.inr (J1 (st:=f.stack) hp h ho (.inl rfl) (λu hu=>hu) qA qP (gS q1).1 qA c1 c2 (λv hv=>rZ)))
 .simp at hok;have e0:jp p m fs f.next (17,a)=b9 p m fs f.next (17,a):=mV;rw [e0,b9];simp only;obtain⟨n,hn⟩:∃ n,a.toNat=n:=⟨_,rfl⟩;rw [hn] at hok ⊢;have hnl:f.next.stack.length=f.stack.length:=rfl;have hns:f.next.stack=f.stack:=rfl;rw [hns];have jw:f.stack.length - n - 1<f.stack.length:=qA;have hg:ze m.qH.length m.qT.length (f.stack.getD (f.stack.length - n - 1) (0,0)):=Bx h.top.sv _
  split
  .simp_all
  .rename_i hg2;have hg2':(f.stack.getD (f.stack.length - n - 1) (0,0)).1=2:=qA
   split
   .rename_i q hq
    split
    .simp_all
    .obtain⟨kb,r1,r2,r3,r4⟩:=h.qH q (gM hq)
     have hq0:0<q.1:=by
      rcases tj q.1 with e|e
      .rw [e] at r1;have:=(hp.sh.dW r1).2 rfl;omega
      .exact e
     have hls:(f.stack.take (f.stack.length - n - 1)).length=f.stack.length - n - 1:=qu;refine .inr (.inr (J1 (st:=f.stack.take (f.stack.length - n - 1)) hp h ho (.inr rfl) (λu hu=>List.mem_of_mem_take hu) qA ?_ (gS r1).1 hq0 r3 r4 (λv hv=>h.top.sv v (List.mem_of_mem_drop hv))))
     grind
   simp_all
 .simp at hok;have e0:jp p m fs f.next (18,a)=cI m fs f.next (18,a):=mV;rw [e0,cI];simp only
  split
  .simp_all
  .split
   .rename_i u hu
    have hv:ze m.qH.length m.qT.length u:=by
     have hm:=tG hu;rw [bT] at hm
     cases hc:m.qT[f.next.zB.2.toNat]? with
     | none=>simp_all
     | some cl =>
      rw [hc] at hm;exact (h.cls cl (gM hc)).2 u hm
    refine .inr (.inr (.of ?_));have hp1:f.next.pop.stack.length=f.stack.length - 1:=by rw [la];rfl
    refine h.re ho rfl (λw hw=>?_) ?_ ?_ qB
    .rcases y9.1 hw with e|e
     .exact h.top.sv w (nQ e)
     simp_all
    .constructor<;>grind
    simp_all
   simp_all
 .simp at hok;have e0:jp p m fs f.next (19,a)={ m.top fs f.next.pop with out:=m.out++[shown f.next.zB] }:=mV;rw [e0];have hpf:yz p f=1+yg l:=by grind[yz,yg]
  have hpn:yz p f.next.pop=yg l:=by grind[yz,qO.next,qO.pop]
  have hpl:=(gS ho).1;have hp1:f.next.pop.stack.length=f.stack.length - 1:=by rw [la];rfl
  refine .inr (.inr ⟨fs,f.next.pop,rfl,⟨h.cells,h.zJ,h.cls,h.qH,h.low,⟨h.top.qG,h.top.fl,h.top.fv,h.top.cl,h.top.cr,h.top.nm,λu hu=>h.top.sv u (nQ hu),?_,hpl,?_⟩,?_,?_,h.nk,h.nc,?_,h.tr,h.deep,λg hg=>?_⟩⟩)
  .grind[qO.pop,qO.next]
  .grind[qO.pop,qO.next]
  .grind[qR.top]
  .grind[qR.top]
  .grind[qR.top]
  .cases fs with
   | nil=>simp at hg;subst hg;exact h.b0 f qB
   | cons a l=>exact h.b0 g qP
 .simp at hok;have e0:jp p m fs f.next (20,a)=yq m fs f.next.zB:=mV;rw [e0];exact KX h (h.top.sv _ (iU hok.1))
theorem Zy (hp:zk p) (hf:m.qN=fs++[f]) (h:yV p m fs f):rB p (kh p m):=by
 cases ho:(zR p f.qG)[f.pc]? with
 | some o =>
  rw [Ah hf ho];exact U8 hp h ho
 | none =>
  rw [step_end hf ho,aC]
  split
  .have:=h.nk;exact O8 h h.top.nm qA
  .exact KX h .zero
theorem pY (hp:zk p) {n:Nat} (hn:n<=150):∀ i,(zS p i (zU p n)).ended\/ly p (zS p i (zU p n))
 | 0=>by
  right;have hl:=hp.sh.len;obtain⟨k,hk⟩:∃ k,p[0]?=some k:=⟨_,gE qA⟩;have hk0:=(hp.sh.dW hk).2 rfl;have hka:j9 p 0=0:=by grind[j9]
  have hc0:qY p 0=[]:=by grind[qY]
  have hf0:qx p 0=[]:=by grind[qx]
  have hr0:zZ p 0=[]:=by
   rw [Ax];intro x hx;exact absurd (xk hx) qe
  have hps:(zO p 0).params=[]:=by
   have:=hp.sh.head 0 k hk
   grind[zO]
  have hM:zU p n=⟨[],jR,[],[],[⟨0,0,[],[],jR,[]⟩],1,1,[],[],0,n⟩:=by
   unfold zU jv
   simp_all[jQ]
  obtain⟨o1,o2⟩:=LJ (b:=0) hp.sh qA;simp only [zS,hM];have hpF:yz p ⟨0,0,[],[],jR,[]⟩=0:=by grind[yz]
  have hpS:l6 p []=0:=rfl;refine⟨[],_,rfl,⟨qB,.none,qB,qB,qB,⟨qw,by simp [hf0],qB,qP,qB,.none,qB,qB,qB,qP⟩,?_,?_,?_,?_,?_,?_,?_,?_⟩⟩
  all_goals try simp only [hpF,hpS,il]
  all_goals first|omega|simp
 | i+1=>by
  rw [lg];rcases pY hp hn i with h|h
  .simp_all
  .by_cases he:(zS p i (zU p n)).ended
   .simp_all
   .rw [if_neg he];obtain⟨fs,f,h1,h2⟩:=h;rcases Zy hp h1 h2 with e|e|e
    .exact .inl (.inr e)
    .exact .inl (.inl e)
    simp_all
end
section
variable {p:qC} {m m':qR} {b n:Nat} {fs:List qO} {f g:qO} {o:Int×Int} {v:qW} {s:qr}
def nI (f:qO):Nat:=61 - f.pc
def lS (m:qR):Nat:=(151 - m.made) * 62+(m.qN.map nI).sum
def tW (m:qR) (fs:List qO) (pc:Nat) (m':qR):Prop:=(∃ g,m'.qN=fs++[g]/\g.pc=pc)/\m'.made=m.made/\m'.out.length<=m.out.length+1/\m'.trace.length<=m.trace.length+1/\m'.globals.length=m.globals.length
theorem Rj (h:g.pc=f.pc):tW m fs f.pc (m.top fs g):=⟨⟨g,rfl,h⟩,rfl,cL,cL,rfl⟩
theorem Ri {e:Int} (h:g.pc=f.pc):tW m fs f.pc (m.stop fs g e):=⟨⟨g,rfl,h⟩,rfl,by simp [qR.stop,qR.top],by simp [qR.stop,qR.top],rfl⟩
theorem Jg (h:g.pc=f.pc):tW m fs f.pc (jr m fs g o s):=by
 unfold jr
 repeat' split
 all_goals exact⟨⟨_,rfl,h⟩,rfl,cL,cL,cL⟩
theorem Em {cs:List Nat} {vs:List qW}:(∃ g,(jv p m b cs vs).qN=m.qN++[g])/\(jv p m b cs vs).made=m.made+1/\(jv p m b cs vs).out=m.out/\(jv p m b cs vs).trace=m.trace/\(jv p m b cs vs).globals=m.globals:=by
 unfold jv
 split<;>grind
def oF (m m':qR):Prop:=lS m'<lS m/\m'.out.length<=m.out.length+1/\m'.trace.length<=m.trace.length+1/\m'.globals.length=m.globals.length
theorem TM (hm:m.qN=fs++[f]) (hp:f.pc<61) (h:tW m fs (f.pc+1) m'):oF m m':=by
 obtain⟨⟨g,h1,h2⟩,h3,h4⟩:=h;refine⟨?_,h4⟩
 grind[lS,nI]
theorem K0 {cs:List Nat} {vs:List qW} (hm:m.qN=fs++[f]) (hp:f.pc<61) (hg:g.pc=f.pc+1) (hmd:m.made<=150):oF m (jv p (m.top fs g) b cs vs):=by
 obtain⟨⟨x,h1⟩,h2,h3,h4,h5⟩:=Em (p:=p) (m:=m.top fs g) (b:=b) (cs:=cs) (vs:=vs);refine⟨?_,by rw [h3];exact Nat.le_succ _,by rw [h4];exact Nat.le_succ _,by rw [h5];rfl⟩;have h6:(m.top fs g).qN=fs++[g]:=rfl;have h7:(m.top fs g).made=m.made:=rfl
 grind[lS,nI]
theorem K3 (hm:m.qN=fs++[f]) (hp:f.pc<61) (hf:m'.made=m.made) (ho:m'.out=m.out) (ht:m'.trace=m.trace) (hg:m'.globals=m.globals):oF m (yq m' fs v):=by
 unfold yq
 split
 .rename_i g hl
  have hs:((fs.dropLast++[g.push v]).map nI).sum=(fs.map nI).sum:=by
   have e:fs=fs.dropLast++[g]:=by
    have hne:fs≠[]:=λe=>qP
    grind[ip]
   grind[nI,qO.push]
  refine⟨?_,by simp [ho],ry,by simp [hg]⟩
  grind[lS,nI]
 .refine⟨?_,by simp [ho],ry,by simp [hg]⟩
  grind[lS,nI]
theorem NG (hp:zk p) (hm:m.qN=fs++[f]) (hM:yV p m fs f):oF m (kh p m):=by
 have hol:=pT (p:=p) (b:=f.qG) hp.sh;have hpc:=hM.top.pc;have h61:f.pc<61:=qA
 cases ho:(zR p f.qG)[f.pc]? with
 | none =>
  rw [Hm.step_end hm ho]
  grind[aC,K3]
 | some o =>
  rw [Hm.Ah hm ho];have hmd:=hM.made
  have hpend:o.1=16\/o.1=17->m.made<=150:=λh=>by
   have h2:1<=yz p f:=by
    unfold yz;rw [mq ho]
    grind[yg]
   omega
  have hG:∀ m',tW m fs f.next.pc m'->oF m m':=λm' h=>TM hm h61 h;have hT:∀ g:qO,g.pc=f.next.pc->oF m (m.top fs g):=λg h=>hG _ (Rj h);have hS:∀ (g:qO) (e:Int),g.pc=f.next.pc->oF m (m.stop fs g e):=λg e h=>hG _ (Ri h);unfold jp
  split
  .unfold wU
   split
   .exact hS _ _ rfl
   .exact hG _ ⟨⟨_,rfl,rfl⟩,rfl,cL,qB,rfl⟩
  .split
   .split
    .unfold vj
     repeat' split
     all_goals first|exact hT _ rfl|exact hS _ _ rfl
    .split
     .exact hG _ (Jg rfl)
     .unfold be
      split
      .exact hG _ (Jg rfl)
      .exact hS _ _ rfl
   .unfold y3
    split
    .exact hT _ rfl
    split
    .unfold dl;dsimp only
     split
     .exact hS _ _ rfl
     .exact hT _ rfl
    split
    .exact hG _ ⟨⟨_,rfl,rfl⟩,rfl,cL,cL,rfl⟩
    split
    .grind[K0]
    split
    .unfold b9;dsimp only
     split
     .exact hS _ _ rfl
     .split
      .split
       .exact hS _ _ rfl
       grind[K0]
      .exact hS _ _ rfl
    split
    .unfold cI;dsimp only
     split
     .exact hS _ _ rfl
     .split
      .exact hT _ rfl
      .exact hS _ _ rfl
    split
    .exact hG _ ⟨⟨_,rfl,rfl⟩,rfl,qB,cL,rfl⟩
    grind[K3]
theorem YJ (hp:zk p) (hn:n<=150):∃ N,(zS p N (zU p n)).ended:=by
 have key:∀ i,(zS p i (zU p n)).ended\/lS (zS p i (zU p n))+i<=lS (zU p n):=by
  intro i
  induction i with
  | zero=>exact .inr (qa _)
  | succ i ih =>
   rcases ih with h|h
   .grind[lg]
   .by_cases he:(zS p i (zU p n)).ended
    .grind[lg]
    .right;rw [lg,if_neg he];obtain⟨fs,f,h1,h2⟩:=(pY hp hn i).resolve_left he;have:=(NG hp h1 h2).1;omega
 rcases key (lS (zU p n)+1) with h|h<;>grind
theorem MQ (hp:zk p) (hn:n<=150):∀ i,(zS p i (zU p n)).out.length<=151/\(zS p i (zU p n)).trace.length<=151/\(zS p i (zU p n)).globals.length=8
 | 0=>by
  grind[Em,jQ,zS,zU]
 | i+1=>by
  have ih:=MQ hp hn i;by_cases he:(zS p i (zU p n)).ended
  .grind[lg]
  .rw [lg,if_neg he];obtain⟨fs,f,h1,h2⟩:=(pY hp hn i).resolve_left he;obtain⟨_,h3,h4,h5⟩:=NG hp h1 h2;have h6:=h2.out;have h7:=h2.tr;omega
end
end Go.Hm
end
section

end
