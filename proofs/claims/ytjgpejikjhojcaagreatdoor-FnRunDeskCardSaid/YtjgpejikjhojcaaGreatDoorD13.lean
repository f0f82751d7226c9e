import Derived.Test.YtjgpejikjhojcaaGreatDoorD12
set_option linter.all false
set_option maxRecDepth 100000
set_option maxHeartbeats 4000000
open Option renaming some->Z,none->Y
open Bool renaming true->B
open List renaming length->O

section
namespace Go.Hm
open Go Go.RowKit
variable{f:qO}{fs:List qO}{m:qR}{p:qC}
section
variable{p:qC}{b o c:Nat}{k q:qY}{x:Int}
theorem Uh(hh:ze p):∀c:Nat,c<O p->j8 p c b=B->j8 p b o=B->j8 p c o=B:=by
 intro c
 induction c using Nat.strongRecOn with
 |ind c ih=>
  intro hl h1 h2;have g1:=iM h1;have g2:=iM h2;by_cases e:c=b
  .simp_all
  .obtain⟨q,hq⟩:=gX hl;obtain⟨f1,f2,f3⟩:=hh c q hq;have f4:=f3 qA;obtain⟨m,hm⟩:∃m:Nat,q.parent=m:=⟨q.parent.toNat,qA⟩
   grind[eh]
theorem XU(hh:ze p)(hk:p[b]?=Z k)(hb0:0<b){o:Int}(h0:0<o)(hob:o<b):∀c:Nat,j8 p c b=B->yU p x (O p) c=o->outer p b x=o:=by
 intro c
 induction c using Nat.strongRecOn with
 |ind c ih=>
  intro hi h;have hbc:=iM hi;have hc0:0<c:=qA
  cases hq:p[c]? with
  |none=>
   by_cases e:c=b
   .simp_all
   .have:O p=0\/∃n,O p=n+1:=by
     cases O p<;>grind
    grind[yU]
  |some q=>
   rw[mx hh hq hc0]at h;obtain⟨g1,g2,g3⟩:=hh c q hq;have g4:=g3 hc0;obtain⟨m,hm⟩:∃m:Nat,q.parent=m:=⟨q.parent.toNat,qA⟩
   grind[mz,eh]
theorem HR(hh:ze p):∀(n:Nat)(j:Int),yU p x n j=o->0<o->jk p o=1
 |0,j,h,h0=>by grind[yU]
 |n+1,j,h,h0=>by
  simp only[yU]at h
  split at h
  .omega
  .split at h
   .omega
   .rename_i q hq
    split at h
    .exact HR hh n _ h h0
    .rename_i hk1
     split at h
     .omega
     .split at h
      .grind[jk]
      .exact HR hh n _ h h0
theorem Tk(hq:p[c]?=Z q)(hx:x∈q.us)(ho:zN p c x=o)(h0:0<o)(hob:o<b)(hi:j8 p c b=B):x∈za p b:=by
 have hbc:=iM hi;have hcl:=(gS hq).1;simp only[za,mem_sorted,wt,fp];refine⟨⟨c-b,qA,?_⟩,(mem_sorted.1 hx).2⟩
 grind[ct,wR]
theorem SJ(hk:jk p o=1)(hq:p[c]?=Z q)(hx:x∈q.us)(ho:zN p c x=o)(hc:o<c):x∈qa p o:=by
 have hcl:=(gS hq).1;simp only[qa,hk,if_true,mem_sorted,aj,fp];refine⟨⟨c-(o+1),qA,?_⟩,(mem_sorted.1 hx).2⟩
 grind[fX,bQ]
theorem SI(h:x∈qa p o)(hk:p[o]?=Z k):uW o k x=B/\x∉k.dc 9/\k.kind=1:=by
 unfold qa at h
 split at h
 .rename_i h1;simp only[mem_sorted,aj,fp]at h
  grind[fX,bQ,HV,jk]
 grind
theorem BH(h:x∈za p b):0<b:=by
 simp only[za,mem_sorted,wt,fp]at h
 grind[ct,wR]
theorem G5(hh:ze p)(hk:p[b]?=Z k)(hx:x∈za p b):∃(o c:Nat)(q:qY),0<o/\o<b/\outer p b x=o/\j8 p b o=B/\p[c]?=Z q/\x∈q.us/\zN p c x=o/\j8 p c b=B:=by
 have hb0:=BH hx;simp only[za,mem_sorted,wt,fp]at hx;obtain⟨⟨i,hi,hx⟩,_⟩:=hx;unfold ct at hx
 cases hq:p[b+i]? with
 |none=>simp_all
 |some q=>
  rw[hq]at hx;simp only at hx
  split at hx
  case isFalse=>simp at hx
  rename_i hin;obtain⟨hus,hf⟩:=List.mem_filter.1 hx;simp only[wR,yF,decide_eq_true_eq]at hf;obtain⟨o,hO⟩:∃o:Nat,zN p (b+i) x=o:=⟨(zN p (b+i) x).toNat,qA⟩;rw[hO]at hf
  have key:outer p b x=o:=by
   have hO':=hO;simp only[zN,hq]at hO'
   split at hO'
   .omega
   .split at hO'
    .omega
    .by_cases e:i=0
     .simp_all
     .rw [mz hh hq]at hO';obtain⟨g1,g2,g3⟩:=hh (b+i) q hq;have g4:=g3 qA;obtain⟨m,hm⟩:∃m:Nat,q.parent=m:=⟨q.parent.toNat,qA⟩;have hs:=eh hh (b:=(b:Int)) qA hq qA
      grind[XU]
  grind[Lt]
theorem Ti(hh:ze p)(hk:p[b]?=Z k)(hx:x∈za p b)(ho:outer p b x=o):x∈qa p o:=by
 obtain⟨o',c,q,h0,hob,e,hi,hq,hu,hw,hc⟩:=G5 hh hk hx;obtain rfl:o=o':=qA
 have hk1:jk p o=1:=by
  rw[mz hh hk]at e
  grind[HR]
 have:=iM hc
 grind[SJ]
theorem SA(hh:ze p)(hk:p[b]?=Z k)(hx:x∈za p b)(ho:outer p b x=o):
  wE p b<b/\(p[wE p b]?).isSome/\0<o/\j8 p (wE p b) o=B/\((o=wE p b/\x∈qa p (wE p b))\/(o<wE p b/\x∉qa p (wE p b)/\x∈za p (wE p b)/\outer p (wE p b) x=o)):=by
 have hcl:=Ti hh hk hx ho;obtain⟨o',c,q,h0,hob,e,hi,hq,hu,hw,hc⟩:=G5 hh hk hx;obtain rfl:o=o':=qA;have qv:=(gS hk).1;have hcl':=(gS hq).1;obtain⟨g1,g2,g3⟩:=hh b k hk;have g4:=g3 qA;obtain⟨P,hP⟩:∃P:Nat,k.parent=P:=⟨k.parent.toNat,qA⟩;have hpa:wE p b=P:=by grind[wE]
 rw[hpa];obtain⟨kp,hkp⟩:∃kp,p[P]?=Z kp:=⟨_,gE qA⟩;have hs:=eh hh (b:=(o:Int)) qA hk qA;rw[hi,hP]at hs;have hge:=iM hs.symm;refine⟨qA,by simp[hkp],h0,hs.symm,?_⟩;by_cases eo:o=P
 .simp_all
 have hbp:j8 p b P=B:=by
  grind[eh,cF]
 have hcp:=Uh hh c hcl' hc hbp;refine .inr ⟨qA,λhm=>?_,Tk hq hu hw h0 qA hcp,?_⟩
 .obtain⟨l1,l2,l3⟩:=SI hm hkp
  grind[mz,mx]
 .rw [mz hh hk,hP,mx hh hkp qA]at e
  grind[mz]
end
def Steps(p:qC)(m m':qR):Prop:=∃N,∀k,zV p (N+k) m=zV p k m'
theorem CE{o:Int×Int}(hf:m.qN=fs++[f])(ho:(zS p f.qG)[f.pc]?=Z o):wI p m=yD p m fs {f with pc:=f.pc+1} o:=by
 grind[wI]
theorem step_end(hf:m.qN=fs++[f])(ho:(zS p f.qG)[f.pc]?=Y):wI p m=an p m fs f:=by
 grind[wI]
def SH(p:qC)(qJ:List Act)(B':List Nat)(x:Int)(o a:Nat):Nat:=B'.getD (ak qJ o a a) 0+(yz (qa p o) x).toNat
def DK(p:qC)(qJ:List Act)(B':List Nat)(b up:Nat):List Nat:=(za p b).map λx=>SH p qJ B' x (outer p b x).toNat up
def J5(p:qC)(qJ:List Act)(B':List Nat)(a:Nat)(c:Act):List Nat:=(List.range (O (qa p c.qG))).map (B'.getD a 0+·)++DK p qJ B' c.qG c.up
structure Q1(p:qC)(qJ:List Act)(B':List Nat)(a:Nat)(c:Act)(f:qO):Prop where
 qG:f.qG=c.qG
 cells:f.cells=J5 p qJ B' a c
 qt:f.qt=(zB p c.qG).map λx=>j7 c.vars x.toNat
 names:jk p c.qG=2->f.names=c.vars
structure Q8(p:qC)(w:qM)(m:qR)(B':List Nat):Prop where
 en:m.en=w.en
 out:m.out=w.out
 tr:m.trace=w.trace
 left:m.left=w.left
 zM:m.globals=w.globals
 cls:m.qU=w.qU
 qI:m.qI=w.qI.map λg=>(g.1,DK p w.qJ B' g.1 g.2)
 made:m.made=O w.qJ
 blen:O B'=O w.qJ
 top:∀(a:Nat)c,w.qJ[a]?=Z c->B'.getD a 0+O (qa p c.qG)<=O m.cells
 GV:∀(a a':Nat)c,a<a'->a'<O w.qJ->w.qJ[a]?=Z c->B'.getD a 0+O (qa p c.qG)<=B'.getD a' 0
 val:∀(a j:Nat)c x,w.qJ[a]?=Z c->(qa p c.qG)[j]?=Z x->m.cells[B'.getD a 0+j]?=Z (j7 c.vars x.toNat)
 frl:O m.qN=O w.stack
 frs:∀(i a:Nat)c f,w.stack[i]?=Z a->w.qJ[a]?=Z c->m.qN[i]?=Z f->Q1 p w.qJ B' a c f
 jw:w.stack.Pairwise (·<·)
 fk:∀g∈w.qI,jk p g.1=1
section
variable{p:qC}{w:qM}{m:qR}{B':List Nat}{a b o:Nat}{c:Act}{k:qY}{f:qO}{x:Int}{fs:List qO}
theorem TL(h:x∈zB p b):x∉qa p b:=by
 grind[zB,BX,kz]
theorem qB3{l:List qr}{i j:Nat}{s:qr}(hi:i<O l):j7 (l.set i s) j=if j=i then s else j7 l j:=by
 grind[j7]
theorem D7(hp:zw p)(hk:p[b]?=Z k):k.kind=0\/k.kind=1\/k.kind=2:=by
 have h:=hp.head b k hk
 grind
end
end Go.Hm
end
section

end
section
namespace Go.Hm
open Go Go.RowKit
section
variable{p:qC}{w:qM}{m:qR}{B':List Nat}{a b o d up:Nat}{c e:Act}{k:qY}{f:qO}{x:Int}{fs:List qO}{vs:List q8}{cs:List Nat}
theorem Ru{qJ:List Act}:DK p qJ B' 0 up=[]:=by
 have:za p 0=[]:=by
  rw[CV];intro x hx;exact absurd (BH hx) qf
 grind[DK]
end
section
variable{p:qC}{w:qM}{m:qR}{B':List Nat}{a b o d up:Nat}{c e:Act}{k:qY}{f:qO}{x:Int}{fs:List qO}{vs:List q8}{cs:List Nat}{st:List Nat}{s:qT}
def qO.next(f:qO):qO:={f with pc:=f.pc+1}
end
section
variable{p:qC}{w:qM}{m:qR}{B':List Nat}{a b o d up:Nat}{c e:Act}{k:qY}{f:qO}{x:Int}{fs:List qO}{vs:List q8}{cs:List Nat}{st:List Nat}{s:qT}{n:Nat}{R:qM->Nat->qM×q8}
def M4{l:List q8}(h:O l=2):∃u v,l=[u,v]:=by
 match l,h with
 |[u,v],_=>simp
end
end Go.Hm
end
section

end
section

end
section
namespace Go.Hm
open Go Go.RowKit
variable{cs:List Nat}{i:Nat}{l:List qr}{s:qr}{st vs:List q8}{v:Int}
section
variable{p:qC}{m:qR}{n i j:Nat}
theorem nL:∀(i:Nat)(m:qR),zV p (i+1) m=if(zV p i m).ended then zV p i m else wI p (zV p i m)
 :=by intro x0;induction x0<;>grind[zV]
theorem OS(h:(zV p i m).ended)(hij:i<=j):zV p j m=zV p i m:=by
 induction hij<;>grind[nL]
theorem qCL(hp:zi p):Q8 p (jb n) (zX p n) [0]/\∃f,(zX p n).qN=[]++[f]/\f.qG=0/\f.pc=0/\f.stack=[]:=by
 have hl:=hp.sh.len;obtain⟨k,hk⟩:∃k,p[0]?=Z k:=⟨_,gE qA⟩;have hk0:=(hp.sh.ei hk).2 rfl;have hka:jk p 0=0:=by grind[jk]
 have hc0:qa p 0=[]:=by grind[qa]
 have hf0:zB p 0=[]:=by grind[zB]
 have hps:(zQ p 0).params=[]:=by
  have:=hp.sh.head 0 k hk
  grind[zQ]
 have hM:zX p n=⟨[],jZ,[],[],[⟨0,0,[],[],jZ,[]⟩],1,1,[],[],0,n⟩:=by
  unfold zX yG
  simp_all[jY]
 rw[hM]
 have hone:∀(i:Nat)c,(jb n).qJ[i]?=Z c->i=0/\c=⟨0,0,jZ⟩:=by
  grind[jb]
 refine⟨⟨rfl,rfl,rfl,rfl,rfl,rfl,rfl,rfl,rfl,λa c hc=>?_,λa a' c h1 h2 hc=>?_,λa j c x hc hx=>?_,rfl,λi a c f hi hc hf=>?_,lK,λg hg=>by grind[jb]⟩,_,rfl,rfl,rfl,rfl⟩
 .grind
 .simp_all
 .grind
 .obtain⟨rfl,rfl⟩:=hone a c hc;have hil:=(gS hf).1;constructor<;>grind[J5,Ru]
end
def yy:List (Int×Int)->Nat
 |[]=>0
 |o::l=>if o.1=0 then 0 else(if o.1=15\/o.1=16\/o.1=17\/o.1=19 then 1 else 0)+yy l
def yN:Nat->List (Int×Int)->Prop
 |h,[]=>h=0
 |h,o::l=>
  if o.1=0 then h=0/\yy l<=1/\yN 0 l
  else if o.1=1\/o.1=2\/o.1=5\/o.1=8\/o.1=11\/o.1=15\/o.1=16 then yN (h+1) l
  else if o.1=3\/o.1=6\/o.1=9\/o.1=12\/o.1=19\/o.1=20 then 1<=h/\yN (h-1) l
  else if o.1=14 then 2<=h/\yN (h-1) l
  else if o.1=17 then o.2.toNat+1<=h/\yN (h-o.2.toNat) l
  else if o.1=18 then 1<=h/\yN h l
  else yN h l
structure sU(p:qC)(b:Nat)(o:Int×Int):Prop where
 code:0<=o.1/\o.1<=20
 arg:0<=o.2/\o.2<=1000
 LI:2<=o.1->o.1<=4->o.2<O (zB p b)
 cell:5<=o.1->o.1<=7->o.2<(O (qa p b):Int)+O (za p b)
 name:8<=o.1->o.1<=13->o.2<=7
 attr:o.1=18->o.2<=7
 qG:o.1=15\/o.1=16->∃q,p[o.2.toNat]?=Z q/\q.parent=b/\0<o.2/\q.kind=o.1-14
 call:o.1=17->o.2<=1
 ret:o.1=20->jk p b=1
section
variable{p:qC}{b:Nat}{k:qY}{s:qT}{x:Int}{h:Nat}{l:List (Int×Int)}
theorem xh(hr:yN (h+1) l):yN h (yM p b x 0::l):=by
 grind[yN,yM]
theorem XD(hr:yN h l):yN (h+1) (yM p b x 1::l):=by
 have key:∀c:Int,c=9\/c=12\/c=3\/c=6->∀a,yN (h+1) ((c,a)::l):=by
  simp_all[yN]
 grind[yM]
theorem XC(hr:yN h l):yN h (yM p b x 2::l):=by
 have key:∀c:Int,c=10\/c=13\/c=4\/c=7->∀a,yN h ((c,a)::l):=by
  intro c hc a;rcases hc with rfl|rfl|rfl|rfl<;>simpa[yN]using hr
 grind[yM]
theorem HY(hv:v=0\/v=1\/v=2):yy (yM p b x v::l)=yy l:=by
 grind[yy,yM]
structure sS(l:List (Int×Int)):Prop where
 ok:yN 0 l
 wW:yy l=0
theorem qCZ(hk:0<=s.kind/\s.kind<=11)(hl:sS l):sS (kj p b s++l):=by
 obtain⟨h1,h2⟩:=hl;have e:kj p b s++l=(0,0)::(kJ p b s++(vg s++(vq p b s++l))):=by simp[kj]
 rw[e];refine⟨?_,mQ⟩
 have g:yy (kJ p b s++(vg s++(vq p b s++l)))<=1/\yN 0 (kJ p b s++(vg s++(vq p b s++l))):=by
  obtain⟨kd,to,a,c⟩:=s;simp only at hk;have p0:=λx l=>HY (p:=p) (b:=b) (x:=x) (l:=l) (v:=0) (.inl rfl);have p1:=λx l=>HY (p:=p) (b:=b) (x:=x) (l:=l) (v:=1) (.inr (.inl rfl));have p2:=λx l=>HY (p:=p) (b:=b) (x:=x) (l:=l) (v:=2) (.inr (.inr rfl));have s1:yN 1 (yM p b to 1::l):=XD h1;have q1:∀(a:Int)(l:List (Int×Int)),yy ((1,a)::l)=yy l:=λa l=>mQ;have q14:∀(a:Int)(l:List (Int×Int)),yy ((14,a)::l)=yy l:=λa l=>mQ;have q18:∀(a:Int)(l:List (Int×Int)),yy ((18,a)::l)=yy l:=λa l=>mQ;have q20:∀(a:Int)(l:List (Int×Int)),yy ((20,a)::l)=yy l:=λa l=>mQ;have q15:∀(a:Int)(l:List (Int×Int)),yy ((15,a)::l)=1+yy l:=λa l=>mQ;have q16:∀(a:Int)(l:List (Int×Int)),yy ((16,a)::l)=1+yy l:=λa l=>mQ;have q17:∀(a:Int)(l:List (Int×Int)),yy ((17,a)::l)=1+yy l:=λa l=>mQ;have q19:∀(a:Int)(l:List (Int×Int)),yy ((19,a)::l)=1+yy l:=λa l=>mQ;have hd:kd=0\/kd=1\/kd=2\/kd=3\/kd=4\/kd=5\/kd=6\/kd=7\/kd=8\/kd=9\/kd=10\/kd=11:=qA;rcases hd with rfl|rfl|rfl|rfl|rfl|rfl|rfl|rfl|rfl|rfl|rfl|rfl
  .grind[kJ,qT.reads,vg,vq,yN]
  .grind[kJ,qT.reads,vg,vq,xh]
  .grind[kJ,qT.reads,vg,vq,xh,yN]
  .grind[kJ,qT.reads,vg,vq,yN]
  .grind[kJ,qT.reads,vg,vq,yN]
  .grind[kJ,qT.reads,vg,vq,xh,yN]
  .grind[kJ,qT.reads,vg,vq,xh,yN]
  .grind[kJ,qT.reads,vg,vq,xh,yN]
  .grind[kJ,qT.reads,vg,vq,xh,yN]
  .grind[kJ,qT.reads,vg,vq]
  .grind[kJ,qT.reads,vg,vq]
  grind[kJ,qT.reads,vg,vq,XC]
 grind[yN]
def Jv:∀ss:List qT,(∀s∈ss,0<=s.kind/\s.kind<=11)->sS (uK p b ss)
 |[],_=>⟨rfl,rfl⟩
 |s::ss,h=>by
  have e:uK p b (s::ss)=kj p b s++uK p b ss:=by simp[uK]
  rw[e];exact qCZ (h s qB) (Jv ss λt ht=>h t tZ)
theorem XG(hp:zw p)(hk:p[b]?=Z k):sS (zS p b):=by
 rw[zS,hk];exact Jv _ (hp.names k (gM hk)).kinds
theorem Mw(hp:zw p)(hk:p[b]?=Z k)(hu:x∈k.us)(h0:0<=v)(h2:v<=2):sU p b (yM p b x v):=by
 have hx:0<=x/\x<=7:=by
  grind[qY.us,mem_sorted]
 have f1:=rf (p:=p) (b:=b);have f2:=da (p:=p) (b:=b);have f3:=iL (p:=p) (b:=b);rcases W4 (w:=v) hp hk hu with⟨_,e⟩|⟨_,e⟩|⟨_,i,e,hi,_⟩|⟨_,i,e,hi,_⟩|⟨_,i,e,hi,_⟩<;>rw[e]<;>refine⟨?_,?_,?_,?_,?_,?_,?_,?_,?_⟩<;>simp only[]<;>omega
theorem Dx(hp:zw p)(hk:p[b]?=Z k):∀o∈zS p b,sU p b o:=by
 have hn:=hp.names k (gM hk);intro o ho;simp only[zS,hk,uK,List.mem_flatMap]at ho;obtain⟨s,hs,ho⟩:=ho;have hst:=hp.fD b k hk s hs;have hkd:=hn.kinds s hs;have hka:jk p b=k.kind:=iF;simp only[kj,vV,yI]at ho;rcases ho with rfl|ho|ho|ho
 .refine⟨?_,?_,?_,?_,?_,?_,?_,?_,?_⟩<;>simp only[]<;>omega
 .grind[kJ,Mw,Ω]
 .unfold vg at ho;by_cases k0:s.kind=0
  .rw [if_pos k0]at ho;obtain rfl:=vG.1 ho;have:=zp.num hst k0;refine⟨?_,?_,?_,?_,?_,?_,?_,?_,?_⟩<;>simp only[]<;>omega
  rw[if_neg k0]at ho;by_cases k2:s.kind=2
  .rw [if_pos k2]at ho;obtain rfl:=vG.1 ho;refine⟨?_,?_,?_,?_,?_,?_,?_,?_,?_⟩<;>simp only[]<;>omega
  rw[if_neg k2]at ho;by_cases k3:s.kind=3
  .rw [if_pos k3]at ho;obtain rfl:=vG.1 ho;obtain⟨q,q1,q2,q3,q4⟩:=zp.made hst (.inl k3);have hql:=(gS q1).1;have:=hp.len;refine⟨?_,?_,?_,?_,?_,?_,λ_=>⟨q,q1,q2,q3,?_⟩,?_,?_⟩<;>simp only[]<;>omega
  rw[if_neg k3]at ho;by_cases k4:s.kind=4
  .rw [if_pos k4]at ho;obtain rfl:=vG.1 ho;obtain⟨q,q1,q2,q3,q4⟩:=zp.made hst (.inr k4);have hql:=(gS q1).1;have:=hp.len;refine⟨?_,?_,?_,?_,?_,?_,λ_=>⟨q,q1,q2,q3,?_⟩,?_,?_⟩<;>simp only[]<;>omega
  rw[if_neg k4]at ho;by_cases k5:s.kind=5
  .rw [if_pos k5]at ho;obtain rfl:=vG.1 ho
   have:O s.reads=1\/O s.reads=2:=by
    grind[qT.reads]
   refine⟨?_,?_,?_,?_,?_,?_,?_,?_,?_⟩<;>simp only[]<;>omega
  rw[if_neg k5]at ho;by_cases k6:s.kind=6
  .rw [if_pos k6]at ho;obtain rfl:=vG.1 ho
   have:0<=s.b/\s.b<=7:=by
    grind[zp]
   refine⟨?_,?_,?_,?_,?_,?_,?_,?_,?_⟩<;>simp only[]<;>omega
  rw[if_neg k6]at ho;by_cases k7:s.kind=7
  .rw [if_pos k7]at ho;obtain rfl:=vG.1 ho;refine⟨?_,?_,?_,?_,?_,?_,?_,?_,?_⟩<;>simp only[]<;>omega
  rw[if_neg k7]at ho;by_cases k8:s.kind=8
  .rw [if_pos k8]at ho;obtain rfl:=vG.1 ho
   have:k.kind=1:=by
    grind[zp]
   refine⟨?_,?_,?_,?_,?_,?_,?_,?_,?_⟩<;>simp only[]<;>omega
  simp_all
 grind[vq,Mw,qDS]
end
structure mB(p:qC)(nf nk nc:Nat)(f:qO)(e:Nat):Prop where
 qG:f.qG<O p
 fl:O f.qt=O (zB p f.qG)
 fv:∀v,Z v∈f.qt->zh nf nk v
 cl:O f.cells=O (qa p f.qG)+O (za p f.qG)
 cr:∀c∈f.cells,c<nc
 nm:va nf nk f.names
 sv:∀v∈f.stack,zh nf nk v
 sl:O f.stack+e<=f.pc
 pc:f.pc<=O (zS p f.qG)
 ok:yN (O f.stack+e) ((zS p f.qG).drop f.pc)
def vS(p:qC)(f:qO):Nat:=yy ((zS p f.qG).drop f.pc)
def nB(p:qC)(fs:List qO):Nat:=(fs.map (vS p)).sum
structure yf(p:qC)(m:qR)(fs:List qO)(f:qO):Prop where
 cells:∀v,Z v∈m.cells->zh (O m.qI) (O m.qU) v
 zM:va (O m.qI) (O m.qU) m.globals
 cls:∀c∈m.qU,va (O m.qI) (O m.qU) c
 qI:∀g∈m.qI,∃k,p[g.1]?=Z k/\k.kind=1/\O g.2=O (za p g.1)/\∀c∈g.2,c<O m.cells
 low:∀g∈fs,mB p (O m.qI) (O m.qU) (O m.cells) g 1
 top:mB p (O m.qI) (O m.qU) (O m.cells) f 0
 made:m.made+m.left+(nB p fs+vS p f)<=151
 nf:O m.qI+m.left+(nB p fs+vS p f)<=150
 nk:O m.qU+(O fs+1)<=m.made
 nc:O m.cells<=8*m.made
 out:O m.out+m.left+(nB p fs+vS p f)<=150
 tr:O m.trace+m.left<=150
 deep:O fs+1<=m.deep/\m.deep<=m.made
 b0:∀g,(fs++[f])[0]?=Z g->g.qG=0
section
variable{p:qC}{m:qR}{nf nk nc nf' nk' nc' b e:Nat}{fs:List qO}{f g:qO}{o:Int×Int}{v:q8}{k:qY}{x:Int}
theorem mB.mono(h:mB p nf nk nc f e)(h1:nf<=nf')(h2:nk<=nk')(h3:nc<=nc'):mB p nf' nk' nc' f e:=
 ⟨h.qG,h.fl,λv hv=>(h.fv v hv).mono h1 h2,h.cl,λc hc=>um (h.cr c hc) h3,h.nm.mono h1 h2,λv hv=>(h.sv v hv).mono h1 h2,h.sl,h.pc,h.ok⟩
theorem oa(ho:(zS p f.qG)[f.pc]?=Z o):(zS p f.qG).drop f.pc=o::(zS p f.qG).drop (f.pc+1):=by
 grind[iz]
theorem xu(h:j7 l i=Z v):Z v∈l:=by
 grind[j7]
theorem lq(h:1<=O f.stack):f.zE∈f.stack:=by
 grind[qO.zE,List.mem_of_getLast?]
theorem nE:O f.pop.stack=O f.stack-1:=by simp[qO.pop]
def pF(h:v∈f.pop.stack):v∈f.stack:=List.dropLast_subset _ h
theorem yf.re{pc:Nat}(h:yf p m fs f)(ho:(zS p f.qG)[f.pc]?=Z o)(hpc:pc=f.pc+1)(hv:∀v∈st,zh (O m.qI) (O m.qU) v)(hl:O st<=pc)(hok:yN (O st) ((zS p f.qG).drop (f.pc+1)))(h0:o.1≠0):yf p m fs {f with pc:=pc,stack:=st}:=by
 subst hpc;have hd:=oa ho;have hpl:=(gS ho).1
 have hp1:vS p {f with pc:=f.pc+1,stack:=st}<=vS p f:=by
  grind[vS,yy]
 have h1:=h.made;have h2:=h.nf;have h3:=h.out;refine⟨h.cells,h.zM,h.cls,h.qI,h.low,⟨h.top.qG,h.top.fl,h.top.fv,h.top.cl,h.top.cr,h.top.nm,hv,hl,hpl,hok⟩,qA,qA,h.nk,h.nc,qA,h.tr,h.deep,λg hg=>?_⟩
 cases fs with
 |nil=>simp at hg;subst hg;exact h.b0 f qB
 |cons a l=>exact h.b0 g qQ
def yf.qN{X:List qO}(h:yf p m fs f):yf p {m with qN:=X} fs f:=
 ⟨h.cells,h.zM,h.cls,h.qI,h.low,h.top,h.made,h.nf,h.nk,h.nc,h.out,h.tr,h.deep,h.b0⟩
def nq(p:qC)(m:qR):Prop:=∃fs f,m.qN=fs++[f]/\yf p m fs f
theorem nq.of(h:yf p m fs f):nq p (m.top fs f):=⟨fs,f,rfl,h.qN⟩
theorem UE(h:yf p m fs f)(hg:ka m f o=Z v):zh (O m.qI) (O m.qU) v:=by
 unfold ka at hg
 split at hg
 .exact h.top.fv v (xu hg)
 .split at hg
  .exact h.cells v (xu hg)
  .split at hg
   .exact h.zM.2 v (xu hg)
   .exact h.top.nm.2 v (xu hg)
theorem Nd(h:yf p m fs f)(ho:(zS p f.qG)[f.pc]?=Z o)(h0:o.1≠0)(hok:yN (O f.stack+1) ((zS p f.qG).drop (f.pc+1)))(hv:zh (O m.qI) (O m.qU) v):yf p m fs (f.next.push v):=by
 have hsl:=h.top.sl;refine h.re ho rfl (λu hu=>?_) ?_ ?_ h0
 .rcases yI.1 hu with e|e
  .exact h.top.sv u e
  simp_all
 .grind[qO.next]
 grind[qO.next]
theorem Oj{u:q8}(h:Z u∈l.set i s):Z u∈l\/s=Z u:=by
 grind
theorem Oh(h:yf p m fs f)(hs:∀v,s=Z v->zh (O m.qI) (O m.qU) v):nq p (yE m fs f o s):=by
 unfold yE
 split
 .refine .of ⟨h.cells,h.zM,h.cls,h.qI,h.low,⟨h.top.qG,by simp[h.top.fl],λv hv=>?_,h.top.cl,h.top.cr,h.top.nm,h.top.sv,h.top.sl,h.top.pc,h.top.ok⟩,h.made,h.nf,h.nk,h.nc,h.out,h.tr,h.deep,λg hg=>?_⟩
  .rcases Oj hv with e|e
   .exact h.top.fv v e
   simp_all
  .cases fs with
   |nil=>simp at hg;subst hg;exact h.b0 f qB
   |cons a l=>exact h.b0 g qQ
 .split
  .refine⟨fs,f,rfl,⟨λv hv=>?_,h.zM,h.cls,λg hg=>?_,λg hg=>(h.low g hg).mono (qb _) (qb _) qB,h.top.mono (qb _) (qb _) qB,h.made,h.nf,h.nk,?_,h.out,h.tr,h.deep,h.b0⟩⟩
   .rcases Oj hv with e|e
    .exact h.cells v e
    .exact hs v e
   .obtain⟨q,q1,q2,q3,q4⟩:=h.qI g hg
    simp_all
   grind[yf.nc,qR.top]
  .split
   .exact⟨fs,f,rfl,⟨h.cells,h.zM.set hs,h.cls,h.qI,h.low,h.top,h.made,h.nf,h.nk,h.nc,h.out,h.tr,h.deep,h.b0⟩⟩
   .refine .of ⟨h.cells,h.zM,h.cls,h.qI,h.low,⟨h.top.qG,h.top.fl,h.top.fv,h.top.cl,h.top.cr,h.top.nm.set hs,h.top.sv,h.top.sl,h.top.pc,h.top.ok⟩,h.made,h.nf,h.nk,h.nc,h.out,h.tr,h.deep,λg hg=>?_⟩
    cases fs with
    |nil=>simp at hg;subst hg;exact h.b0 f qB
    |cons a l=>exact h.b0 g qQ
theorem K8(hh:ze p)(hk:p[b]?=Z k):∀y∈jD p b,0<=y/\y<(O (qa p (wE p b)):Int)+O (za p (wE p b)):=by
 intro y hy;simp only[jD,wi]at hy;obtain⟨x,hx,rfl⟩:=hy;obtain⟨o,_,_,_,_,ho,_⟩:=G5 hh hk hx;obtain⟨_,_,_,_,hcase⟩:=SA hh hk hx ho
 grind[pD,cn]
theorem DJ(hh:ze p)(h:mB p nf nk nc f e)(hk:p[b]?=Z k)(hpar:k.parent=f.qG):O (jM p f b)=O (za p b)/\∀c∈jM p f b,c<nc:=by
 have hpa:wE p b=f.qG:=by grind[wE]
 refine⟨by simp[jM,jD],λc hc=>?_⟩;simp only[jM,wi]at hc;obtain⟨y,hy,rfl⟩:=hc;have hr:=K8 hh hk y hy;rw[hpa]at hr;have hcl:=h.cl;obtain⟨c,hc⟩:∃c,f.cells[y.toNat]?=Z c:=⟨_,gE qA⟩;rw[bO,hc];exact h.cr c (gM hc)
theorem NQ(hp:zw p)(hb:b<O p):yN 0 (zS p b)/\yy (zS p b)=0:=by
 obtain⟨k,hk⟩:=gX hb
 grind[XG,sS.ok,sS.wW]
theorem N1(hp:zi p)(hk:p[b]?=Z k)(hx:x∈k.params):x∈zB p b\/x∈qa p b:=by
 have hkm:=gM hk;have hxr:=(hp.sh.names k hkm).params x hx;have how:=hp.pm b k hk x hx;have hhd:=hp.sh.head b k hk
 grind[jk,PZ,zi.sh,jc]
theorem RZ{pd:Nat}(hp:zi p)(hb:b<O p)(h0:0<b)
  (hcells:∀v,Z v∈m.cells->zh (O m.qI) (O m.qU) v)(hglob:va (O m.qI) (O m.qU) m.globals)(hcls:∀c∈m.qU,va (O m.qI) (O m.qU) c)
  (hfuns:∀g∈m.qI,∃k,p[g.1]?=Z k/\k.kind=1/\O g.2=O (za p g.1)/\∀c∈g.2,c<O m.cells)
  (hlow:∀g∈m.qN,mB p (O m.qI) (O m.qU) (O m.cells) g 1)(hne:m.qN≠[])(hpd:nB p m.qN=pd)
  (hmade:m.made+1+m.left+pd<=151)(hnf:O m.qI+m.left+pd<=150)(hnk:O m.qU+O m.qN<=m.made)(hnc:O m.cells<=8*m.made)(hout:O m.out+m.left+pd<=150)(htr:O m.trace+m.left<=150)(hdeep:O m.qN<=m.deep/\m.deep<=m.made)(hb0:∀g,m.qN[0]?=Z g->g.qG=0)
  (hcsl:O cs=O (za p b))(hcs:∀c∈cs,c<O m.cells)(hvs:∀v∈vs,zh (O m.qI) (O m.qU) v):nq p (yG p m b cs vs):=by
 obtain⟨k,hk⟩:=gX hb;have hpar:(zQ p b).params=k.params:=gz;obtain⟨o1,o2⟩:=NQ hp.sh hb;have c8:=da (p:=p) (b:=b)
 have base:∀(F:qO)(C:List qr),F.qG=b->F.pc=0->F.stack=[]->F.names=jZ->F.cells=((List.range (O (qa p b))).map (O m.cells+·))++cs->O F.qt=O (zB p b)->(∀v,Z v∈F.qt->zh (O m.qI) (O m.qU) v)->O C=O m.cells+O (qa p b)->(∀v,Z v∈C->zh (O m.qI) (O m.qU) v) ->
   nq p {m with cells:=C,made:=m.made+1,deep:=max m.deep (O m.qN+1),qN:=m.qN++[F]}:=by
  intro F C f1 f2 f3 f4 f5 f6 f7 c1 c2;have hpF:vS p F=0:=by grind[vS]
  refine⟨m.qN,F,rfl,⟨c2,hglob,hcls,λg hg=>?_,λg hg=>(hlow g hg).mono (qb _) (qb _) qQ,⟨qA,qQ,f7,?_,λc hc=>?_,by grind[va.none],qQ,qQ,qA,?_⟩,?_,?_,?_,?_,?_,htr,?_,λg hg=>?_⟩⟩
  .grind
  .simp_all
  .grind
  .simp_all
  .simp_all
  .simp_all
  .grind
  .grind
  .simp_all
  .grind
  grind
 unfold yG
 split
 .grind
 simp_all
end
section
variable{p:qC}{m:qR}{b e:Nat}{fs:List qO}{f g:qO}{o:Int×Int}{v:q8}{k:qY}{x:Int}{l:List (Int×Int)}
def sW(p:qC)(m:qR):Prop:=m.en≠0\/m.qN=[]\/nq p m
theorem I9{l:List qO}{a:qO}:nB p (l++[a])=nB p l+vS p a:=by simp[nB]
theorem M2(h:yf p m fs f)(hv:zh (O m.qI) (O m.qU) v):sW p (vK m fs v):=by
 unfold vK
 cases hl:fs.getLast? with
 |none=>exact .inr (.inl rfl)
 |some g=>
  obtain⟨gs,rfl⟩:∃gs,fs=gs++[g]:=by
   grind[CW]
  have hg:=h.low g qB;have h1:=h.made;have h2:=h.nf;have h3:=h.out;have h4:=h.nk;have h5:=h.deep;rw[I9]at h1 h2 h3;have hp1:vS p (g.push v)=vS p g:=rfl;simp only[u7,aG]at h4 h5;refine .inr (.inr ⟨gs,g.push v,qB,⟨h.cells,h.zM,h.cls,h.qI,λq hq=>h.low q lL,⟨hg.qG,hg.fl,hg.fv,hg.cl,hg.cr,hg.nm,λu hu=>?_,?_,hg.pc,?_⟩,qx,qx,qx,h.nc,qx,h.tr,qx,λq hq=>?_⟩⟩)
  .rcases yI.1 hu with e|e
   .exact hg.sv u e
   simp_all
  .have:=hg.sl
   grind[qO.push]
  .simpa [qO.push]using hg.ok
  .cases gs with
   |nil=>
    simp at hq;subst hq;exact h.b0 g qB
   |cons a l=>exact h.b0 q qQ
theorem Qp{c:List qr}(h:yf p m fs f)(hc:va (O m.qI) (O m.qU) c)(hn:O m.qU+1+O fs<=m.made):sW p (vK {m with qU:=m.qU++[c]} fs (3,O m.qU)):=by
 have hl:O m.qU<=O (m.qU++[c]):=qB;have hm:=h.made;unfold vK
 cases hlst:fs.getLast? with
 |none=>exact .inr (.inl rfl)
 |some g=>
  obtain⟨gs,rfl⟩:∃gs,fs=gs++[g]:=by
   grind[CW]
  have hg:=(h.low g qB).mono (nf':=O m.qI) (nk':=O (m.qU++[c])) (nc':=O m.cells) (qb _) hl (qb _);have h1:=h.made;have h2:=h.nf;have h3:=h.out;have h5:=h.deep;rw[I9]at h1 h2 h3;have hp1:∀u,vS p (g.push u)=vS p g:=λ_=>rfl;simp only[u7,aG]at hn h5;refine .inr (.inr ⟨gs,g.push (3,(O m.qU:Int)),qB,⟨λu hu=>(h.cells u hu).mono (qb _) hl,h.zM.mono (qb _) hl,λq hq=>?_,h.qI,λq hq=>(h.low q lL).mono (qb _) hl (qb _),⟨hg.qG,hg.fl,hg.fv,hg.cl,hg.cr,hg.nm,λu hu=>?_,?_,hg.pc,?_⟩,qx,qx,qQ,h.nc,qx,h.tr,qx,λq hq=>?_⟩⟩)
  .rcases yI.1 hq with e|e
   .exact (h.cls q e).mono (qb _) hl
   .simp only[vG]at e;subst e;exact hc.mono (qb _) hl
  .rcases yI.1 hu with e|e
   .exact hg.sv u e
   constructor<;>grind
  .have:=hg.sl
   grind[qO.push]
  .simpa [qO.push]using hg.ok
  .cases gs with
   |nil=>
    simp at hq;subst hq;exact h.b0 g qB
   |cons a l=>exact h.b0 q qQ
def qBY(h:yf p m fs f)(ho:(zS p f.qG)[f.pc]?=Z o)(h0:o.1≠0)(hs:∀u∈st,u∈f.stack)(hl:O st<=O f.stack)(hok:yN (O st) ((zS p f.qG).drop (f.pc+1))):yf p m fs {f with pc:=f.pc+1,stack:=st}:=
 h.re ho rfl (λu hu=>h.top.sv u (hs u hu)) (by have:=h.top.sl;omega) hok h0
theorem L4(hp:zi p)(h:yf p m fs f)(ho:(zS p f.qG)[f.pc]?=Z o)(h0:o.1=16\/o.1=17)(hs:∀u∈st,u∈f.stack)(hl:O st+1<=f.pc+1)(hok:yN (O st+1) ((zS p f.qG).drop (f.pc+1)))
  (hb:b<O p)(hb0:0<b)(hcsl:O cs=O (za p b))(hcs:∀c∈cs,c<O m.cells)(hvs:∀v∈vs,zh (O m.qI) (O m.qU) v):nq p (yG p (m.top fs {f with pc:=f.pc+1,stack:=st}) b cs vs):=by
 have hd:=oa ho;have hpl:=(gS ho).1
 have hp1:vS p f=1+vS p {f with pc:=f.pc+1,stack:=st}:=by
  grind[vS,yy]
 have h1:=h.made;have h2:=h.nf;have h3:=h.out;have h4:=h.nk;have h5:=h.deep;refine RZ (pd:=nB p fs+vS p {f with pc:=f.pc+1,stack:=st}) hp hb hb0 h.cells h.zM h.cls h.qI (λg hg=>?_) dY (by grind[qR.top,I9]) ?_ ?_ ?_ h.nc ?_ h.tr ?_ (λg hg=>?_) hcsl hcs hvs
 .simp only[qR.top,yI,vG]at hg;rcases hg with e|e
  .exact h.low g e
  .subst e;exact⟨h.top.qG,h.top.fl,h.top.fv,h.top.cl,h.top.cr,h.top.nm,λu hu=>h.top.sv u (hs u hu),hl,hpl,hok⟩
 .grind[qR.top]
 .grind[qR.top]
 .grind[qR.top]
 .grind[qR.top]
 .grind[qR.top]
 .simp only[qR.top]at hg
  cases fs with
  |nil=>simp at hg;subst hg;exact h.b0 f qB
  |cons a l=>exact h.b0 g qQ
def S6{c:Int}(h:0<=c/\c<=20):c=0\/c=1\/(2<=c/\c<=13)\/c=14\/c=15\/c=16\/c=17\/c=18\/c=19\/c=20:=qA
theorem XH(hp:zi p)(h:yf p m fs f)(ho:(zS p f.qG)[f.pc]?=Z o):sW p (yD p m fs f.next o):=by
 obtain⟨k,hk⟩:=gX h.top.qG;have hO:=Dx hp.sh hk o (gM ho);have hd:=oa ho;have hok:=h.top.ok;rw[hd,fJ]at hok;obtain⟨l,hl⟩:∃l,l=(zS p f.qG).drop (f.pc+1):=⟨_,rfl⟩;rw[<- hl]at hok hd;have h1:=h.made;have h2:=h.nf;have h3:=h.out;have hsl:=h.top.sl;obtain⟨c,a⟩:=o;simp only[yN]at hok;have hstop:∀(F:qO)(e:Int),e≠0->sW p (m.stop fs F e):=λF e he=>.inl he;rcases S6 hO.code with rfl|rfl|⟨n2,n13⟩|rfl|rfl|rfl|rfl|rfl|rfl|rfl
 · -- a statement begins
  simp at hok;have e0:yD p m fs f.next (0,a)=aD p m fs f.next:=by simp[yD]
  rw[e0,aD];by_cases hz:m.left=0
  .simp_all
  .rw [if_neg hz];have hpl:=(gS ho).1;have hpf:vS p f=0:=by grind[vS,yy]
   have hpn:vS p f.next=yy l:=by grind[vS,qO.next]
   have htr:=h.tr;refine .inr (.inr ⟨fs,f.next,rfl,⟨h.cells,h.zM,h.cls,h.qI,h.low,⟨h.top.qG,h.top.fl,h.top.fv,h.top.cl,h.top.cr,h.top.nm,h.top.sv,by grind[qO.next],hpl,?_⟩,?_,?_,h.nk,h.nc,?_,?_,h.deep,λg hg=>?_⟩⟩)
   .show yN (O f.stack+0) ((zS p f.qG).drop (f.pc+1))
    simp_all
   .grind[qR.top]
   .grind[qR.top]
   .grind[qR.top]
   .grind
   .cases fs with
    |nil=>simp at hg;subst hg;exact h.b0 f qB
    |cons a l=>exact h.b0 g qQ
 .simp at hok;have e0:yD p m fs f.next (1,a)=m.top fs (f.next.push (1,a)):=oU;rw[e0];refine .inr (.inr (.of (Nd h ho qB qQ ?_)));have:=hO.arg;constructor<;>grind
 · -- names
  have e0:yD p m fs f.next (c,a)=if(c-2)%3=0 then uE p m fs f.next (c,a)else if(c-2)%3=1 then CG m fs f.next (c,a)else cp p m fs f.next (c,a):=by
   grind[yD]
  rw[e0];have hn:∀st:List q8,(∀u∈st,u∈f.stack)->O st<=O f.stack->yN (O st) l->yf p m fs {f with pc:=f.pc+1,stack:=st}:=λst q1 q2 q3=>qBY h ho qA q1 q2 qx;by_cases m0:(c-2)%3=0
  .rw [if_pos m0];have hc:c=2\/c=5\/c=8\/c=11:=qA
   have hok':yN (O f.stack+1) l:=by
    grind
   have push:∀v,zh (O m.qI) (O m.qU) v->sW p (m.top fs (f.next.push v)):=λv hv=>.inr (.inr (.of (Nd h ho qA qx hv)));unfold uE;have hgs:ka m f.next (c,a)=ka m f (c,a):=rfl;rw[hgs]
   cases hg:ka m f (c,a)with
   |some v=>grind[UE]
   |none=>
    simp only
    split
    .split
     .rename_i v hv;exact push v (h.zM.2 v (xu hv))
     .split
      .exact push _ ⟨qf,qB,qB⟩
      grind
    grind[u0]
  .rw [if_neg m0];by_cases m1:(c-2)%3=1
   .rw [if_pos m1];have hc:c=3\/c=6\/c=9\/c=12:=qA
    have hok':1<=O f.stack/\yN (O f.stack-1) l:=by
     rcases hc with rfl|rfl|rfl|rfl<;>simpa using hok
    have hM:=hn f.pop.stack (λu hu=>pF hu) (by grind[nE]) (by grind[nE]);refine .inr (.inr (Oh (f:=f.next.pop) hM λv hv=>?_));obtain rfl:=sI hv;exact h.top.sv _ (lq hok'.1)
   .rw [if_neg m1];have hc:c=4\/c=7\/c=10\/c=13:=qA
    have hok':yN (O f.stack) l:=by
     rcases hc with rfl|rfl|rfl|rfl<;>simpa using hok
    have hM:=hn f.stack (λu hu=>hu) (qb _) hok';unfold cp
    split
    .exact .inr (.inr (Oh (f:=f.next) hM λv hv=>by cases hv))
    grind[u0]
 .simp at hok;have e0:yD p m fs f.next (14,a)=fI m fs f.next:=oU;rw[e0,fI];have hp2:O f.next.pop.pop.stack=O f.stack-2:=by grind[nE,qO.next]
  have hv1:=h.top.sv _ (lq (f:=f) qA);have hv2:=h.top.sv _ (pF (lq (f:=f.pop) (by grind[nE])))
  split
  .simp_all
  .refine .inr (.inr (.of ?_));refine h.re ho rfl (λu hu=>?_) ?_ ?_ qB
   .rcases yI.1 hu with e|e
    .exact h.top.sv u (pF (pF e))
    .simp only[vG]at e;subst e;have e1:f.next.pop.zE=f.pop.zE:=rfl;have e2:f.next.zE=f.zE:=rfl;rw[e1,e2];have q1:=hv1.num;have q2:=hv2.num;constructor<;>grind
   .constructor<;>grind
   grind
 .simp at hok;obtain⟨q,q1,q2,q3,q4⟩:=hO.qG (.inl rfl);simp only at q1 q3 q4;have e0:yD p m fs f.next (15,a)={m.top fs (f.next.push (2,O m.qI))with qI:=m.qI++[(a.toNat,jM p f.next a.toNat)]}:=oU;rw[e0];obtain⟨c1,c2⟩:=DJ hp.sh.jK h.top q1 q2;have hfl:O m.qI<=O (m.qI++[(a.toNat,jM p f.next a.toNat)]):=qB;have hpf:vS p f=1+yy l:=by grind[vS,yy]
  have hpn:vS p (f.next.push (2,(O m.qI:Int)))=yy l:=by grind[vS,qO.next,qO.push]
  have hpl:=(gS ho).1;have hT:=h.top.mono (nf':=O (m.qI++[(a.toNat,jM p f.next a.toNat)])) hfl (qb _) (qb _);refine .inr (.inr ⟨fs,_,rfl,⟨λu hu=>(h.cells u hu).mono hfl (qb _),h.zM.mono hfl (qb _),λu hu=>(h.cls u hu).mono hfl (qb _),λu hu=>?_,λu hu=>(h.low u hu).mono hfl (qb _) (qb _),⟨hT.qG,hT.fl,hT.fv,hT.cl,hT.cr,hT.nm,λu hu=>?_,?_,hpl,?_⟩,?_,?_,h.nk,h.nc,?_,h.tr,h.deep,λg hg=>?_⟩⟩)
  .rcases yI.1 hu with e|e
   .exact h.qI u e
   .simp only[vG]at e;subst e;exact⟨q,q1,qA,c1,c2⟩
  .rcases yI.1 hu with e|e
   .exact hT.sv u e
   constructor<;>grind
  .grind[qO.push,qO.next]
  .grind[qO.push,qO.next]
  .grind[qR.top]
  .grind[qR.top]
  .grind[qR.top]
  .cases fs with
   |nil=>simp at hg;subst hg;exact h.b0 f qB
   |cons a l=>exact h.b0 g qQ
 .simp at hok;obtain⟨q,q1,q2,q3,q4⟩:=hO.qG (.inr rfl);simp only at q1 q3 q4;have e0:yD p m fs f.next (16,a)=yG p (m.top fs f.next) a.toNat (jM p f.next a.toNat) []:=oU;rw[e0];obtain⟨c1,c2⟩:=DJ hp.sh.jK h.top q1 q2;exact .inr (.inr (L4 (st:=f.stack) hp h ho (.inl rfl) (λu hu=>hu) qA qQ (gS q1).1 qA c1 c2 (λv hv=>tD)))
 .simp at hok;have e0:yD p m fs f.next (17,a)=ck p m fs f.next (17,a):=oU;rw[e0,ck];simp only;obtain⟨n,hn⟩:∃n,a.toNat=n:=⟨_,rfl⟩;rw[hn]at hok ⊢;have hnl:O f.next.stack=O f.stack:=rfl;have hns:f.next.stack=f.stack:=rfl;rw[hns];have jN:O f.stack-n-1<O f.stack:=qA;have hg:zh (O m.qI) (O m.qU) (f.stack.getD (O f.stack-n-1) (0,0)):=D3 h.top.sv _
  split
  .simp_all
  .rename_i hg2;have hg2':(f.stack.getD (O f.stack-n-1) (0,0)).1=2:=qA
   split
   .rename_i q hq
    split
    .simp_all
    .obtain⟨kb,r1,r2,r3,r4⟩:=h.qI q (gM hq)
     have hq0:0<q.1:=by
      rcases fN q.1 with e|e
      .rw [e]at r1;have:=(hp.sh.ei r1).2 rfl;omega
      .exact e
     have hls:O (f.stack.take (O f.stack-n-1))=O f.stack-n-1:=qp;refine .inr (.inr (L4 (st:=f.stack.take (O f.stack-n-1)) hp h ho (.inr rfl) (λu hu=>mH hu) qA ?_ (gS r1).1 hq0 r3 r4 (λv hv=>h.top.sv v (List.mem_of_mem_drop hv))))
     grind
   simp_all
 .simp at hok;have e0:yD p m fs f.next (18,a)=dO m fs f.next (18,a):=oU;rw[e0,dO];simp only
  split
  .simp_all
  .split
   .rename_i u hu
    have hv:zh (O m.qI) (O m.qU) u:=by
     have hm:=xu hu;rw[bO]at hm
     cases hc:m.qU[f.next.zE.2.toNat]? with
     |none=>simp_all
     |some cl=>
      rw[hc]at hm;exact(h.cls cl (gM hc)).2 u hm
    refine .inr (.inr (.of ?_));have hp1:O f.next.pop.stack=O f.stack-1:=by rw[nE];rfl
    refine h.re ho rfl (λw hw=>?_) ?_ ?_ qB
    .rcases yI.1 hw with e|e
     .exact h.top.sv w (pF e)
     simp_all
    .constructor<;>grind
    simp_all
   simp_all
 .simp at hok;have e0:yD p m fs f.next (19,a)={m.top fs f.next.pop with out:=m.out++[shown f.next.zE]}:=oU;rw[e0];have hpf:vS p f=1+yy l:=by grind[vS,yy]
  have hpn:vS p f.next.pop=yy l:=by grind[vS,qO.next,qO.pop]
  have hpl:=(gS ho).1;have hp1:O f.next.pop.stack=O f.stack-1:=by rw[nE];rfl
  refine .inr (.inr ⟨fs,f.next.pop,rfl,⟨h.cells,h.zM,h.cls,h.qI,h.low,⟨h.top.qG,h.top.fl,h.top.fv,h.top.cl,h.top.cr,h.top.nm,λu hu=>h.top.sv u (pF hu),?_,hpl,?_⟩,?_,?_,h.nk,h.nc,?_,h.tr,h.deep,λg hg=>?_⟩⟩)
  .grind[qO.pop,qO.next]
  .grind[qO.pop,qO.next]
  .grind[qR.top]
  .grind[qR.top]
  .grind[qR.top]
  .cases fs with
   |nil=>simp at hg;subst hg;exact h.b0 f qB
   |cons a l=>exact h.b0 g qQ
 .simp at hok;have e0:yD p m fs f.next (20,a)=vK m fs f.next.zE:=oU;rw[e0];exact M2 h (h.top.sv _ (lq hok.1))
def qCS(hp:zi p)(hf:m.qN=fs++[f])(h:yf p m fs f):sW p (wI p m):=by
 cases ho:(zS p f.qG)[f.pc]? with
 |some o=>
  rw[CE hf ho];exact XH hp h ho
 |none=>
  rw[step_end hf ho,an]
  split
  .have:=h.nk;exact Qp h h.top.nm qA
  .exact M2 h .zero
theorem sE(hp:zi p){n:Nat}(hn:n<=150):∀i,(zV p i (zX p n)).ended\/nq p (zV p i (zX p n))
 |0=>by
  right;have hl:=hp.sh.len;obtain⟨k,hk⟩:∃k,p[0]?=Z k:=⟨_,gE qA⟩;have hk0:=(hp.sh.ei hk).2 rfl;have hka:jk p 0=0:=by grind[jk]
  have hc0:qa p 0=[]:=by grind[qa]
  have hf0:zB p 0=[]:=by grind[zB]
  have hr0:za p 0=[]:=by
   rw[CV];intro x hx;exact absurd (BH hx) qf
  have hps:(zQ p 0).params=[]:=by
   have:=hp.sh.head 0 k hk
   grind[zQ]
  have hM:zX p n=⟨[],jZ,[],[],[⟨0,0,[],[],jZ,[]⟩],1,1,[],[],0,n⟩:=by
   unfold zX yG
   simp_all[jY]
  obtain⟨o1,o2⟩:=NQ (b:=0) hp.sh qA;simp only[zV,hM];have hpF:vS p ⟨0,0,[],[],jZ,[]⟩=0:=by grind[vS]
  have hpS:nB p []=0:=rfl;refine⟨[],_,rfl,⟨qB,.none,qB,qB,qB,⟨qx,by simp[hf0],qB,qQ,qB,.none,qB,qB,qB,qQ⟩,?_,?_,?_,?_,?_,?_,?_,?_⟩⟩
  all_goals try simp only[hpF,hpS,mG]
  all_goals first|omega|simp
 |i+1=>by
  rw[nL];rcases sE hp hn i with h|h
  .simp_all
  .by_cases he:(zV p i (zX p n)).ended
   .simp_all
   .rw [if_neg he];obtain⟨fs,f,h1,h2⟩:=h;rcases qCS hp h1 h2 with e|e|e
    .exact .inl (.inr e)
    .exact .inl (.inl e)
    simp_all
end
section
variable{p:qC}{m m':qR}{b n:Nat}{fs:List qO}{f g:qO}{o:Int×Int}{v:q8}{s:qr}
def oy(f:qO):Nat:=61-f.pc
def ml(m:qR):Nat:=(151-m.made)*62+(m.qN.map oy).sum
def AM(m:qR)(fs:List qO)(pc:Nat)(m':qR):Prop:=(∃g,m'.qN=fs++[g]/\g.pc=pc)/\m'.made=m.made/\O m'.out<=O m.out+1/\O m'.trace<=O m.trace+1/\O m'.globals=O m.globals
def UM(h:g.pc=f.pc):AM m fs f.pc (m.top fs g):=⟨⟨g,rfl,h⟩,rfl,dY,dY,rfl⟩
def UL{e:Int}(h:g.pc=f.pc):AM m fs f.pc (m.stop fs g e):=⟨⟨g,rfl,h⟩,rfl,by simp[qR.stop,qR.top],by simp[qR.stop,qR.top],rfl⟩
def Lj(h:g.pc=f.pc):AM m fs f.pc (yE m fs g o s):=by
 unfold yE
 repeat' split
 all_goals exact⟨⟨_,rfl,h⟩,rfl,dY,dY,dY⟩
theorem G9:(∃g,(yG p m b cs vs).qN=m.qN++[g])/\(yG p m b cs vs).made=m.made+1/\(yG p m b cs vs).out=m.out/\(yG p m b cs vs).trace=m.trace/\(yG p m b cs vs).globals=m.globals:=by
 unfold yG
 split<;>grind
def pb(m m':qR):Prop:=ml m'<ml m/\O m'.out<=O m.out+1/\O m'.trace<=O m.trace+1/\O m'.globals=O m.globals
theorem Vc(hm:m.qN=fs++[f])(hp:f.pc<61)(h:AM m fs (f.pc+1) m'):pb m m':=by
 obtain⟨⟨g,h1,h2⟩,h3,h4⟩:=h;refine⟨?_,h4⟩
 grind[ml,oy]
theorem M5(hm:m.qN=fs++[f])(hp:f.pc<61)(hg:g.pc=f.pc+1)(hmd:m.made<=150):pb m (yG p (m.top fs g) b cs vs):=by
 obtain⟨⟨x,h1⟩,h2,h3,h4,h5⟩:=G9 (p:=p) (m:=m.top fs g) (b:=b) (cs:=cs) (vs:=vs);refine⟨?_,by rw[h3];exact Nat.le_succ _,by rw[h4];exact Nat.le_succ _,by rw[h5];rfl⟩;have h6:(m.top fs g).qN=fs++[g]:=rfl;have h7:(m.top fs g).made=m.made:=rfl
 grind[ml,oy]
theorem M6(hm:m.qN=fs++[f])(hp:f.pc<61)(hf:m'.made=m.made)(ho:m'.out=m.out)(ht:m'.trace=m.trace)(hg:m'.globals=m.globals):pb m (vK m' fs v):=by
 unfold vK
 split
 .rename_i g hl
  have hs:((fs.dropLast++[g.push v]).map oy).sum=(fs.map oy).sum:=by
   have e:fs=fs.dropLast++[g]:=by
    have hne:fs≠[]:=λe=>qQ
    grind[mJ]
   grind[oy,qO.push]
  refine⟨?_,by simp[ho],tZ,by simp[hg]⟩
  grind[ml,oy]
 .refine⟨?_,by simp[ho],tZ,by simp[hg]⟩
  grind[ml,oy]
theorem PP(hp:zi p)(hm:m.qN=fs++[f])(hM:yf p m fs f):pb m (wI p m):=by
 have hol:=sA (p:=p) (b:=f.qG) hp.sh;have hpc:=hM.top.pc;have h61:f.pc<61:=qA
 cases ho:(zS p f.qG)[f.pc]? with
 |none=>
  rw[Hm.step_end hm ho]
  grind[an,M6]
 |some o=>
  rw[Hm.CE hm ho];have hmd:=hM.made
  have hpend:o.1=16\/o.1=17->m.made<=150:=λh=>by
   have h2:1<=vS p f:=by
    unfold vS;rw[oa ho]
    grind[yy]
   omega
  have hG:∀m',AM m fs f.next.pc m'->pb m m':=λm' h=>Vc hm h61 h;have hT:∀g:qO,g.pc=f.next.pc->pb m (m.top fs g):=λg h=>hG _ (UM h);have hS:∀(g:qO)(e:Int),g.pc=f.next.pc->pb m (m.stop fs g e):=λg e h=>hG _ (UL h);unfold yD
  split
  .unfold aD
   split
   .exact hS _ _ rfl
   .exact hG _ ⟨⟨_,rfl,rfl⟩,rfl,dY,qB,rfl⟩
  .split
   .split
    .unfold uE
     repeat' split
     all_goals first|exact hT _ rfl|exact hS _ _ rfl
    .split
     .exact hG _ (Lj rfl)
     .unfold cp
      split
      .exact hG _ (Lj rfl)
      .exact hS _ _ rfl
   .unfold yl
    split
    .exact hT _ rfl
    split
    .unfold fI;dsimp only
     split
     .exact hS _ _ rfl
     .exact hT _ rfl
    split
    .exact hG _ ⟨⟨_,rfl,rfl⟩,rfl,dY,dY,rfl⟩
    split
    .grind[M5]
    split
    .unfold ck;dsimp only
     split
     .exact hS _ _ rfl
     .split
      .split
       .exact hS _ _ rfl
       grind[M5]
      .exact hS _ _ rfl
    split
    .unfold dO;dsimp only
     split
     .exact hS _ _ rfl
     .split
      .exact hT _ rfl
      .exact hS _ _ rfl
    split
    .exact hG _ ⟨⟨_,rfl,rfl⟩,rfl,qB,dY,rfl⟩
    grind[M6]
theorem qAW(hp:zi p)(hn:n<=150):∃N,(zV p N (zX p n)).ended:=by
 have key:∀i,(zV p i (zX p n)).ended\/ml (zV p i (zX p n))+i<=ml (zX p n):=by
  intro i
  induction i with
  |zero=>exact .inr (qb _)
  |succ i ih=>
   rcases ih with h|h
   .grind[nL]
   .by_cases he:(zV p i (zX p n)).ended
    .grind[nL]
    .right;rw[nL,if_neg he];obtain⟨fs,f,h1,h2⟩:=(sE hp hn i).resolve_left he;have:=(PP hp h1 h2).1;omega
 rcases key (ml (zX p n)+1)with h|h<;>grind
theorem OV(hp:zi p)(hn:n<=150):∀i,O (zV p i (zX p n)).out<=151/\O (zV p i (zX p n)).trace<=151/\O (zV p i (zX p n)).globals=8
 |0=>by
  grind[G9,jY,zV,zX]
 |i+1=>by
  have ih:=OV hp hn i;by_cases he:(zV p i (zX p n)).ended
  .grind[nL]
  .rw [nL,if_neg he];obtain⟨fs,f,h1,h2⟩:=(sE hp hn i).resolve_left he;obtain⟨_,h3,h4,h5⟩:=PP hp h1 h2;have h6:=h2.out;have h7:=h2.tr;omega
end
end Go.Hm
end
section

end
