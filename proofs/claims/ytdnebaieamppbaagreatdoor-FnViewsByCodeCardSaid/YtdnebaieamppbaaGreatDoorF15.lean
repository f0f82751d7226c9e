import Derived.Test.YtdnebaieamppbaaGreatDoorF14
set_option linter.unusedSimpArgs false
set_option linter.unusedVariables false
set_option maxRecDepth 100000
set_option maxHeartbeats 4000000

section
namespace Go.Hm
open Go Go.RowKit
section
variable {p:YU} {m:Y2} {n i j:Nat}
theorem aD:∀ (i:Nat) (m:Y2),yf p (i+1) m=if (yf p i m).ended then yf p i m else wZ p (yf p i m)
 := by intro x0;induction x0<;>grind[yf]
theorem CW (h:(yf p i m).ended) (hij:i<=j):yf p j m=yf p i m:=by
 induction hij<;>grind[aD]
structure qBa (p:YU) (w:YY) (m:Y2):Prop where
 en:m.en=w.en
 out:m.out=w.out
 tr:m.trace=w.trace
 left:m.left=w.left
 Yd:m.globals=w.globals
 made:m.made=w.YR.length
 fin:w.en=0->m.YO=[]
 err:w.en≠0->∃ B,Ys p w m B
theorem CD (hp:Yl p):Ys p (zg n) (qb p n) [0]/\∃ f,(qb p n).YO=[]++[f]/\f.YS=0/\f.pc=0/\f.stack=[]:=by
 have hl:=hp.sh.len;obtain⟨k,hk⟩:∃ k,p[0]?=some k:=⟨_,gE qA⟩;have hk0:=(hp.sh.Ze hk).2 rfl;have hka:qV p 0=0:=cq;have hc0:qC p 0=[]:=by grind[qC]
 have hf0:qG p 0=[]:=by grind[qG]
 have hps:(qd p 0).params=[]:=by
  have:=hp.sh.head 0 k hk
  grind[qd]
 have hM:qb p n=⟨[],qc,[],[],[⟨0,0,[],[],qc,[]⟩],1,1,[],[],0,n⟩:=by
  unfold qb ze
  simp_all[zR]
 rw [hM]
 have hone:∀ (i:Nat) c,(zg n).YR[i]?=some c->i=0/\c=⟨0,0,qc⟩:=by
  grind[zg]
 refine⟨⟨rfl,rfl,rfl,rfl,rfl,rfl,rfl,rfl,rfl,λa c hc=>?_,λa a' c h1 h2 hc=>?_,λa j c x hc hx=>?_,rfl,λi a c f hi hc hf=>?_,ce,λg hg=>mS⟩,_,rfl,rfl,rfl,rfl⟩
 .grind
 .simp_all
 .grind
 .obtain⟨rfl,rfl⟩:=hone a c hc;have hil:=(gS hf).1;constructor<;>grind[vf,xE]
theorem Pt (hp:Yl p) (hn:n<=150):∃ N,(yf p N (qb p n)).ended/\qBa p (ji p n) (yf p N (qb p n)):=by
 obtain⟨hR,f,hf,hb,hpc,hst⟩:=CD (n:=n) hp;have hl:=hp.sh.len;obtain⟨k,hk⟩:∃ k,p[0]?=some k:=⟨_,gE qA⟩;have hk0:=(hp.sh.Ze hk).2 rfl;have hka:qV p 0=0:=cq;obtain⟨m',B',⟨N,s1⟩,s2,_,s4⟩:=LB hp 151 (zg n) 0 (qb p n) [0] [] f [] (b6 hp.sh hn) mS rfl rfl hR hf (by rw [hb];rfl) hpc hst;have hm:(jv p 151 (zg n) 0).1=ji p n:=rfl;rw [hm] at s2 s4;by_cases he:(ji p n).en=0
 .obtain⟨f',t1,t2,t3⟩:=s4 he;have hne:¬ m'.ended:=pB (fs:=[]) t1 (s2.en.trans he);rw [TK,if_neg qH] at t3;have hlv:∀ v,zd m' [] v={ m' with YO:=[] }:=λ_=>rfl;rw [hlv] at t3
  have hr:yf p (N+1) (qb p n)={ m' with YO:=[] }:=by
   grind[yf]
  refine⟨N+1,?_,?_⟩
  .constructor<;>grind
  constructor<;>grind[Ys.en,Ys.out,Ys.tr,Ys.left,Ys.Yd,Ys.made]
 .have hE:m'.ended:=.inr (by grind[Ys.en])
  have hr:yf p N (qb p n)=m':=by
   have:=s1 0;rw [so] at this;exact this
  refine⟨N,qH,?_⟩;constructor<;>grind[Ys.en,Ys.out,Ys.tr,Ys.left,Ys.Yd,Ys.made]
end
def vA:List (Int×Int)->Nat
 | []=>0
 | o::l=>if o.1=0 then 0 else (if o.1=15\/o.1=16\/o.1=17\/o.1=19 then 1 else 0)+vA l
def zb:Nat->List (Int×Int)->Prop
 | h,[]=>h=0
 | h,o::l =>
  if o.1=0 then h=0/\vA l<=1/\zb 0 l
  else if o.1=1\/o.1=2\/o.1=5\/o.1=8\/o.1=11\/o.1=15\/o.1=16 then zb (h+1) l
  else if o.1=3\/o.1=6\/o.1=9\/o.1=12\/o.1=19\/o.1=20 then 1<=h/\zb (h - 1) l
  else if o.1=14 then 2<=h/\zb (h - 1) l
  else if o.1=17 then o.2.toNat+1<=h/\zb (h - o.2.toNat) l
  else if o.1=18 then 1<=h/\zb h l
  else zb h l
structure qBA (p:YU) (b:Nat) (o:Int×Int):Prop where
 code:0<=o.1/\o.1<=20
 arg:0<=o.2/\o.2<=1000
 qCt:2<=o.1->o.1<=4->o.2<(qG p b).length
 cell:5<=o.1->o.1<=7->o.2<((qC p b).length:Int)+(qN p b).length
 name:8<=o.1->o.1<=13->o.2<=7
 attr:o.1=18->o.2<=7
 YS:o.1=15\/o.1=16->∃ q,p[o.2.toNat]?=some q/\q.parent=b/\0<o.2/\q.kind=o.1 - 14
 call:o.1=17->o.2<=1
 ret:o.1=20->qV p b=1
section
variable {p:YU} {b:Nat} {k:Y4} {s:Y5} {x:Int} {h:Nat} {l:List (Int×Int)}
theorem lw (hr:zb (h+1) l):zb h (qm p b x 0::l):=by
 grind[zb,qm]
theorem PM (hr:zb h l):zb (h+1) (qm p b x 1::l):=by
 have key:∀ c:Int,c=9\/c=12\/c=3\/c=6->∀ a,zb (h+1) ((c,a)::l):=by
  simp_all[zb]
 grind[qm]
theorem Ur (hr:zb h l):zb h (qm p b x 2::l):=by
 have key:∀ c:Int,c=10\/c=13\/c=4\/c=7->∀ a,zb h ((c,a)::l):=by
  intro c hc a;rcases hc with rfl|rfl|rfl|rfl <;> simpa [zb] using hr
 grind[qm]
theorem oq {v:Int} (hv:v=0\/v=1\/v=2):vA (qm p b x v::l)=vA l:=by
 grind[vA,qm]
structure qA8 (l:List (Int×Int)):Prop where
 ok:zb 0 l
 qA5:vA l=0
theorem RU (hk:0<=s.kind/\s.kind<=11) (hl:qA8 l):qA8 (dQ p b s++l):=by
 obtain⟨h1,h2⟩:=hl;have e:dQ p b s++l=(0,0)::(kK p b s++(jH s++(b7 p b s++l))):=by simp [dQ]
 rw [e];refine⟨?_,cu⟩
 have g:vA (kK p b s++(jH s++(b7 p b s++l)))<=1/\zb 0 (kK p b s++(jH s++(b7 p b s++l))):=by
  obtain⟨kd,to,a,c⟩:=s;simp only at hk;have p0:=λx l=>oq (p:=p) (b:=b) (x:=x) (l:=l) (v:=0) (.inl rfl);have p1:=λx l=>oq (p:=p) (b:=b) (x:=x) (l:=l) (v:=1) (.inr (.inl rfl));have p2:=λx l=>oq (p:=p) (b:=b) (x:=x) (l:=l) (v:=2) (.inr (.inr rfl));have s1:zb 1 (qm p b to 1::l):=PM h1;have q1:∀ (a:Int) (l:List (Int×Int)),vA ((1,a)::l)=vA l:=λa l=>cu;have q14:∀ (a:Int) (l:List (Int×Int)),vA ((14,a)::l)=vA l:=λa l=>cu;have q18:∀ (a:Int) (l:List (Int×Int)),vA ((18,a)::l)=vA l:=λa l=>cu;have q20:∀ (a:Int) (l:List (Int×Int)),vA ((20,a)::l)=vA l:=λa l=>cu;have q15:∀ (a:Int) (l:List (Int×Int)),vA ((15,a)::l)=1+vA l:=λa l=>cu;have q16:∀ (a:Int) (l:List (Int×Int)),vA ((16,a)::l)=1+vA l:=λa l=>cu;have q17:∀ (a:Int) (l:List (Int×Int)),vA ((17,a)::l)=1+vA l:=λa l=>cu;have q19:∀ (a:Int) (l:List (Int×Int)),vA ((19,a)::l)=1+vA l:=λa l=>cu;have hd:kd=0\/kd=1\/kd=2\/kd=3\/kd=4\/kd=5\/kd=6\/kd=7\/kd=8\/kd=9\/kd=10\/kd=11:=qA;rcases hd with rfl|rfl|rfl|rfl|rfl|rfl|rfl|rfl|rfl|rfl|rfl|rfl
  .grind[kK,Y5.reads,jH,b7,zb]
  .grind[kK,Y5.reads,jH,b7,lw]
  .grind[kK,Y5.reads,jH,b7,lw,zb]
  .grind[kK,Y5.reads,jH,b7,zb]
  .grind[kK,Y5.reads,jH,b7,zb]
  .grind[kK,Y5.reads,jH,b7,lw,zb]
  .grind[kK,Y5.reads,jH,b7,lw,zb]
  .grind[kK,Y5.reads,jH,b7,lw,zb]
  .grind[kK,Y5.reads,jH,b7,lw,zb]
  .grind[kK,Y5.reads,jH,b7]
  .grind[kK,Y5.reads,jH,b7]
  grind[kK,Y5.reads,jH,b7,Ur]
 grind[zb]
theorem NW:∀ ss:List Y5,(∀ s∈ss,0<=s.kind/\s.kind<=11)->qA8 (vb p b ss)
 | [],_=>⟨rfl,rfl⟩
 | s::ss,h=>by
  have e:vb p b (s::ss)=dQ p b s++vb p b ss:=by simp [vb]
  rw [e];exact RU (h s qB) (NW ss λt ht=>h t aU)
theorem Up (hp:Y1 p) (hk:p[b]?=some k):qA8 (yg p b):=by
 rw [yg,hk];exact NW _ (hp.names k (gM hk)).kinds
theorem Ci (hp:Y1 p) (hk:p[b]?=some k) (hu:x∈k.us) {v:Int} (h0:0<=v) (h2:v<=2):qBA p b (qm p b x v):=by
 have hx:0<=x/\x<=7:=by
  grind[Y4.us,mem_sorted]
 have f1:=vF (p:=p) (b:=b);have f2:=zn (p:=p) (b:=b);have f3:=j7 (p:=p) (b:=b);rcases lz (w:=v) hp hk hu with⟨_,e⟩|⟨_,e⟩|⟨_,i,e,hi,_⟩|⟨_,i,e,hi,_⟩|⟨_,i,e,hi,_⟩ <;> rw [e] <;> refine⟨?_,?_,?_,?_,?_,?_,?_,?_,?_⟩ <;> simp only [] <;> omega
theorem HJ (hp:Y1 p) (hk:p[b]?=some k):∀ o∈yg p b,qBA p b o:=by
 have hn:=hp.names k (gM hk);intro o ho;simp only [yg,hk,vb,List.mem_flatMap] at ho;obtain⟨s,hs,ho⟩:=ho;have hst:=hp.stm b k hk s hs;have hkd:=hn.kinds s hs;have hka:qV p b=k.kind:=kS;simp only [dQ,wH,cK] at ho;rcases ho with rfl|ho|ho|ho
 .refine⟨?_,?_,?_,?_,?_,?_,?_,?_,?_⟩ <;> simp only [] <;> omega
 .grind[kK,Ci,xv]
 .unfold jH at ho;by_cases k0:s.kind=0
  .rw [if_pos k0] at ho;obtain rfl:=kg.1 ho;have:=zP.num hst k0;refine⟨?_,?_,?_,?_,?_,?_,?_,?_,?_⟩ <;> simp only [] <;> omega
  rw [if_neg k0] at ho;by_cases k2:s.kind=2
  .rw [if_pos k2] at ho;obtain rfl:=kg.1 ho;refine⟨?_,?_,?_,?_,?_,?_,?_,?_,?_⟩ <;> simp only [] <;> omega
  rw [if_neg k2] at ho;by_cases k3:s.kind=3
  .rw [if_pos k3] at ho;obtain rfl:=kg.1 ho;obtain⟨q,q1,q2,q3,q4⟩:=zP.made hst (.inl k3);have hql:=(gS q1).1;have:=hp.len;refine⟨?_,?_,?_,?_,?_,?_,λ_=>⟨q,q1,q2,q3,?_⟩,?_,?_⟩ <;> simp only [] <;> omega
  rw [if_neg k3] at ho;by_cases k4:s.kind=4
  .rw [if_pos k4] at ho;obtain rfl:=kg.1 ho;obtain⟨q,q1,q2,q3,q4⟩:=zP.made hst (.inr k4);have hql:=(gS q1).1;have:=hp.len;refine⟨?_,?_,?_,?_,?_,?_,λ_=>⟨q,q1,q2,q3,?_⟩,?_,?_⟩ <;> simp only [] <;> omega
  rw [if_neg k4] at ho;by_cases k5:s.kind=5
  .rw [if_pos k5] at ho;obtain rfl:=kg.1 ho
   have:s.reads.length=1\/s.reads.length=2:=by
    grind[Y5.reads]
   refine⟨?_,?_,?_,?_,?_,?_,?_,?_,?_⟩ <;> simp only [] <;> omega
  rw [if_neg k5] at ho;by_cases k6:s.kind=6
  .rw [if_pos k6] at ho;obtain rfl:=kg.1 ho
   have:0<=s.b/\s.b<=7:=by
    grind[zP]
   refine⟨?_,?_,?_,?_,?_,?_,?_,?_,?_⟩ <;> simp only [] <;> omega
  rw [if_neg k6] at ho;by_cases k7:s.kind=7
  .rw [if_pos k7] at ho;obtain rfl:=kg.1 ho;refine⟨?_,?_,?_,?_,?_,?_,?_,?_,?_⟩ <;> simp only [] <;> omega
  rw [if_neg k7] at ho;by_cases k8:s.kind=8
  .rw [if_pos k8] at ho;obtain rfl:=kg.1 ho
   have:k.kind=1:=by
    grind[zP]
   refine⟨?_,?_,?_,?_,?_,?_,?_,?_,?_⟩ <;> simp only [] <;> omega
  simp_all
 grind[b7,Ci,RN]
end
structure FOk (p:YU) (nf nk nc:Nat) (f:YZ) (e:Nat):Prop where
 YS:f.YS<p.length
 fl:f.YV.length=(qG p f.YS).length
 fv:∀ v,some v∈f.YV->ZQ nf nk v
 cl:f.cells.length=(qC p f.YS).length+(qN p f.YS).length
 cr:∀ c∈f.cells,c<nc
 nm:SOk nf nk f.names
 sv:∀ v∈f.stack,ZQ nf nk v
 sl:f.stack.length+e<=f.pc
 pc:f.pc<=(yg p f.YS).length
 ok:zb (f.stack.length+e) ((yg p f.YS).drop f.pc)
def vQ (p:YU) (f:YZ):Nat:=vA ((yg p f.YS).drop f.pc)
def xx (p:YU) (fs:List YZ):Nat:=(fs.map (vQ p)).sum
structure MOk (p:YU) (m:Y2) (fs:List YZ) (f:YZ):Prop where
 cells:∀ v,some v∈m.cells->ZQ m.YT.length m.YP.length v
 Yd:SOk m.YT.length m.YP.length m.globals
 cls:∀ c∈m.YP,SOk m.YT.length m.YP.length c
 YT:∀ g∈m.YT,∃ k,p[g.1]?=some k/\k.kind=1/\g.2.length=(qN p g.1).length/\∀ c∈g.2,c<m.cells.length
 low:∀ g∈fs,FOk p m.YT.length m.YP.length m.cells.length g 1
 top:FOk p m.YT.length m.YP.length m.cells.length f 0
 made:m.made+m.left+(xx p fs+vQ p f)<=151
 nf:m.YT.length+m.left+(xx p fs+vQ p f)<=150
 nk:m.YP.length+(fs.length+1)<=m.made
 nc:m.cells.length<=8 * m.made
 out:m.out.length+m.left+(xx p fs+vQ p f)<=150
 tr:m.trace.length+m.left<=150
 deep:fs.length+1<=m.deep/\m.deep<=m.made
 b0:∀ g,(fs++[f])[0]?=some g->g.YS=0
section
variable {p:YU} {m:Y2} {nf nk nc nf' nk' nc' b e:Nat} {fs:List YZ} {f g:YZ} {o:Int×Int} {v:Y6} {k:Y4} {x:Int}
theorem FOk.mono (h:FOk p nf nk nc f e) (h1:nf<=nf') (h2:nk<=nk') (h3:nc<=nc'):FOk p nf' nk' nc' f e :=
 ⟨h.YS,h.fl,λv hv=>(h.fv v hv).mono h1 h2,h.cl,λc hc=>ac (h.cr c hc) h3,h.nm.mono h1 h2,λv hv=>(h.sv v hv).mono h1 h2,h.sl,h.pc,h.ok⟩
theorem ca (ho:(yg p f.YS)[f.pc]?=some o):(yg p f.YS).drop f.pc=o::(yg p f.YS).drop (f.pc+1):=by
 grind[BV]
theorem fD {l:List Yj} {i:Nat} (h:ju l i=some v):some v∈l:=by
 grind[ju]
theorem bH (h:1<=f.stack.length):f.Yw∈f.stack:=by
 grind[YZ.Yw,List.mem_of_getLast?]
theorem cV:f.pop.stack.length=f.stack.length - 1:=by simp [YZ.pop]
theorem dk {v:Y6} (h:v∈f.pop.stack):v∈f.stack:=List.dropLast_subset _ h
theorem MOk.re {pc:Nat} {st:List Y6} (h:MOk p m fs f) (ho:(yg p f.YS)[f.pc]?=some o) (hpc:pc=f.pc+1) (hv:∀ v∈st,ZQ m.YT.length m.YP.length v) (hl:st.length<=pc) (hok:zb st.length ((yg p f.YS).drop (f.pc+1))) (h0:o.1≠0):MOk p m fs { f with pc:=pc,stack:=st }:=by
 subst hpc;have hd:=ca ho;have hpl:=(gS ho).1
 have hp1:vQ p { f with pc:=f.pc+1,stack:=st }<=vQ p f:=by
  grind[vQ,vA]
 have h1:=h.made;have h2:=h.nf;have h3:=h.out;refine⟨h.cells,h.Yd,h.cls,h.YT,h.low,⟨h.top.YS,h.top.fl,h.top.fv,h.top.cl,h.top.cr,h.top.nm,hv,hl,hpl,hok⟩,qA,qA,h.nk,h.nc,qA,h.tr,h.deep,λg hg=>?_⟩
 cases fs with
 | nil=>simp at hg;subst hg;exact h.b0 f qB
 | cons a l=>exact h.b0 g qH
theorem MOk.YO {X:List YZ} (h:MOk p m fs f):MOk p { m with YO:=X } fs f :=
 ⟨h.cells,h.Yd,h.cls,h.YT,h.low,h.top,h.made,h.nf,h.nk,h.nc,h.out,h.tr,h.deep,h.b0⟩
def Qn (p:YU) (m:Y2):Prop:=∃ fs f,m.YO=fs++[f]/\MOk p m fs f
theorem Qn.of (h:MOk p m fs f):Qn p (m.top fs f):=⟨fs,f,rfl,h.YO⟩
theorem Sj (h:MOk p m fs f) (hg:gq m f o=some v):ZQ m.YT.length m.YP.length v:=by
 unfold gq at hg
 split at hg
 .exact h.top.fv v (fD hg)
 .split at hg
  .exact h.cells v (fD hg)
  .split at hg
   .exact h.Yd.2 v (fD hg)
   .exact h.top.nm.2 v (fD hg)
theorem LK (h:MOk p m fs f) (ho:(yg p f.YS)[f.pc]?=some o) (h0:o.1≠0) (hok:zb (f.stack.length+1) ((yg p f.YS).drop (f.pc+1))) (hv:ZQ m.YT.length m.YP.length v):MOk p m fs (f.next.push v):=by
 have hsl:=h.top.sl;refine h.re ho rfl (λu hu=>?_) ?_ ?_ h0
 .rcases cK.1 hu with e|e
  .exact h.top.sv u e
  simp_all
 .grind[YZ.next]
 grind[YZ.next]
theorem Ko {l:List Yj} {i:Nat} {s:Yj} {u:Y6} (h:some u∈l.set i s):some u∈l\/s=some u:=by
 grind
theorem Kp {s:Yj} (h:MOk p m fs f) (hs:∀ v,s=some v->ZQ m.YT.length m.YP.length v):Qn p (Yy m fs f o s):=by
 unfold Yy
 split
 .refine .of ⟨h.cells,h.Yd,h.cls,h.YT,h.low,⟨h.top.YS,by simp [h.top.fl],λv hv=>?_,h.top.cl,h.top.cr,h.top.nm,h.top.sv,h.top.sl,h.top.pc,h.top.ok⟩,h.made,h.nf,h.nk,h.nc,h.out,h.tr,h.deep,λg hg=>?_⟩
  .rcases Ko hv with e|e
   .exact h.top.fv v e
   simp_all
  .cases fs with
   | nil=>simp at hg;subst hg;exact h.b0 f qB
   | cons a l=>exact h.b0 g qH
 .split
  .refine⟨fs,f,rfl,⟨λv hv=>?_,h.Yd,h.cls,λg hg=>?_,λg hg=>(h.low g hg).mono (qp _) (qp _) qB,h.top.mono (qp _) (qp _) qB,h.made,h.nf,h.nk,?_,h.out,h.tr,h.deep,h.b0⟩⟩
   .rcases Ko hv with e|e
    .exact h.cells v e
    .exact hs v e
   .obtain⟨q,q1,q2,q3,q4⟩:=h.YT g hg
    simp_all
   grind[MOk.nc,Y2.top]
  .split
   .exact⟨fs,f,rfl,⟨h.cells,h.Yd.set hs,h.cls,h.YT,h.low,h.top,h.made,h.nf,h.nk,h.nc,h.out,h.tr,h.deep,h.b0⟩⟩
   .refine .of ⟨h.cells,h.Yd,h.cls,h.YT,h.low,⟨h.top.YS,h.top.fl,h.top.fv,h.top.cl,h.top.cr,h.top.nm.set hs,h.top.sv,h.top.sl,h.top.pc,h.top.ok⟩,h.made,h.nf,h.nk,h.nc,h.out,h.tr,h.deep,λg hg=>?_⟩
    cases fs with
    | nil=>simp at hg;subst hg;exact h.b0 f qB
    | cons a l=>exact h.b0 g qH
theorem Mu (hh:zD p) (hk:p[b]?=some k):∀ y∈z8 p b,0<=y/\y<((qC p (w8 p b)).length:Int)+(qN p (w8 p b)).length:=by
 intro y hy;simp only [z8,eg] at hy;obtain⟨x,hx,rfl⟩:=hy;obtain⟨o,_,_,_,_,ho,_⟩:=aN hh hk hx;obtain⟨_,_,_,_,hcase⟩:=Ah hh hk hx ho
 grind[zQ,vM]
theorem Ai (hh:zD p) (h:FOk p nf nk nc f e) (hk:p[b]?=some k) (hpar:k.parent=f.YS):(uM p f b).length=(qN p b).length/\∀ c∈uM p f b,c<nc:=by
 have hpa:w8 p b=f.YS:=by grind[w8]
 refine⟨by simp [uM,z8],λc hc=>?_⟩;simp only [uM,eg] at hc;obtain⟨y,hy,rfl⟩:=hc;have hr:=Mu hh hk y hy;rw [hpa] at hr;have hcl:=h.cl;obtain⟨c,hc⟩:∃ c,f.cells[y.toNat]?=some c:=⟨_,gE qA⟩;rw [sM,hc];exact h.cr c (gM hc)
theorem Cc (hp:Y1 p) (hb:b<p.length):zb 0 (yg p b)/\vA (yg p b)=0:=by
 obtain⟨k,hk⟩:=gX hb
 grind[Up,qA8.ok,qA8.qA5]
theorem ot (hp:Yl p) (hk:p[b]?=some k) (hx:x∈k.params):x∈qG p b\/x∈qC p b:=by
 have hkm:=gM hk;have hxr:=(hp.sh.names k hkm).params x hx;have how:=hp.pm b k hk x hx;have hhd:=hp.sh.head b k hk
 grind[qV,xV,Yl.sh,zh]
theorem QM {cs:List Nat} {vs:List Y6} {pd:Nat} (hp:Yl p) (hb:b<p.length) (h0:0<b)
  (hcells:∀ v,some v∈m.cells->ZQ m.YT.length m.YP.length v) (hglob:SOk m.YT.length m.YP.length m.globals) (hcls:∀ c∈m.YP,SOk m.YT.length m.YP.length c)
  (hfuns:∀ g∈m.YT,∃ k,p[g.1]?=some k/\k.kind=1/\g.2.length=(qN p g.1).length/\∀ c∈g.2,c<m.cells.length)
  (hlow:∀ g∈m.YO,FOk p m.YT.length m.YP.length m.cells.length g 1) (hne:m.YO≠[]) (hpd:xx p m.YO=pd)
  (hmade:m.made+1+m.left+pd<=151) (hnf:m.YT.length+m.left+pd<=150) (hnk:m.YP.length+m.YO.length<=m.made) (hnc:m.cells.length<=8 * m.made) (hout:m.out.length+m.left+pd<=150) (htr:m.trace.length+m.left<=150) (hdeep:m.YO.length<=m.deep/\m.deep<=m.made) (hb0:∀ g,m.YO[0]?=some g->g.YS=0)
  (hcsl:cs.length=(qN p b).length) (hcs:∀ c∈cs,c<m.cells.length) (hvs:∀ v∈vs,ZQ m.YT.length m.YP.length v):Qn p (ze p m b cs vs):=by
 obtain⟨k,hk⟩:=gX hb;have hpar:(qd p b).params=k.params:=kR;obtain⟨o1,o2⟩:=Cc hp.sh hb;have c8:=zn (p:=p) (b:=b)
 have base:∀ (F:YZ) (C:List Yj),F.YS=b->F.pc=0->F.stack=[]->F.names=qc->F.cells=((List.range (qC p b).length).map (m.cells.length+·))++cs->F.YV.length=(qG p b).length->(∀ v,some v∈F.YV->ZQ m.YT.length m.YP.length v)->C.length=m.cells.length+(qC p b).length->(∀ v,some v∈C->ZQ m.YT.length m.YP.length v) ->
   Qn p { m with cells:=C,made:=m.made+1,deep:=max m.deep (m.YO.length+1),YO:=m.YO++[F] }:=by
  intro F C f1 f2 f3 f4 f5 f6 f7 c1 c2;have hpF:vQ p F=0:=by grind[vQ]
  refine⟨m.YO,F,rfl,⟨c2,hglob,hcls,λg hg=>?_,λg hg=>(hlow g hg).mono (qp _) (qp _) qH,⟨qA,qH,f7,?_,λc hc=>?_,by grind[SOk.none],qH,qH,qA,?_⟩,?_,?_,?_,?_,?_,htr,?_,λg hg=>?_⟩⟩
  .grind
  .simp_all
  .grind
  .simp_all
  .simp_all
  .simp_all
  .grind
  .grind
  .simp_all
  .grind
  grind
 unfold ze
 split
 .grind
 simp_all
end
section
variable {p:YU} {m:Y2} {b e:Nat} {fs:List YZ} {f g:YZ} {o:Int×Int} {v:Y6} {k:Y4} {x:Int} {l:List (Int×Int)}
def xJ (p:YU) (m:Y2):Prop:=m.en≠0\/m.YO=[]\/Qn p m
theorem ET {l:List YZ} {a:YZ}:xx p (l++[a])=xx p l+vQ p a:=by simp [xx]
theorem HS (h:MOk p m fs f) (hv:ZQ m.YT.length m.YP.length v):xJ p (zd m fs v):=by
 unfold zd
 cases hl:fs.getLast? with
 | none=>exact .inr (.inl rfl)
 | some g =>
  obtain⟨gs,rfl⟩:∃ gs,fs=gs++[g]:=by
   grind[List.getLast?_eq_some_iff]
  have hg:=h.low g qB;have h1:=h.made;have h2:=h.nf;have h3:=h.out;have h4:=h.nk;have h5:=h.deep;rw [ET] at h1 h2 h3;have hp1:vQ p (g.push v)=vQ p g:=rfl;simp only [wk,bS] at h4 h5;refine .inr (.inr ⟨gs,g.push v,qB,⟨h.cells,h.Yd,h.cls,h.YT,λq hq=>h.low q gD,⟨hg.YS,hg.fl,hg.fv,hg.cl,hg.cr,hg.nm,λu hu=>?_,?_,hg.pc,?_⟩,qe,qe,qe,h.nc,qe,h.tr,qe,λq hq=>?_⟩⟩)
  .rcases cK.1 hu with e|e
   .exact hg.sv u e
   simp_all
  .have:=hg.sl
   grind[YZ.push]
  .simpa [YZ.push] using hg.ok
  .cases gs with
   | nil =>
    simp at hq;subst hq;exact h.b0 g qB
   | cons a l=>exact h.b0 q qH
theorem Nh {c:List Yj} (h:MOk p m fs f) (hc:SOk m.YT.length m.YP.length c) (hn:m.YP.length+1+fs.length<=m.made):xJ p (zd { m with YP:=m.YP++[c] } fs (3,m.YP.length)):=by
 have hl:m.YP.length<=(m.YP++[c]).length:=qB;have hm:=h.made;unfold zd
 cases hlst:fs.getLast? with
 | none=>exact .inr (.inl rfl)
 | some g =>
  obtain⟨gs,rfl⟩:∃ gs,fs=gs++[g]:=by
   grind[List.getLast?_eq_some_iff]
  have hg:=(h.low g qB).mono (nf':=m.YT.length) (nk':=(m.YP++[c]).length) (nc':=m.cells.length) (qp _) hl (qp _);have h1:=h.made;have h2:=h.nf;have h3:=h.out;have h5:=h.deep;rw [ET] at h1 h2 h3;have hp1:∀ u,vQ p (g.push u)=vQ p g:=λ_=>rfl;simp only [wk,bS] at hn h5;refine .inr (.inr ⟨gs,g.push (3,(m.YP.length:Int)),qB,⟨λu hu=>(h.cells u hu).mono (qp _) hl,h.Yd.mono (qp _) hl,λq hq=>?_,h.YT,λq hq=>(h.low q gD).mono (qp _) hl (qp _),⟨hg.YS,hg.fl,hg.fv,hg.cl,hg.cr,hg.nm,λu hu=>?_,?_,hg.pc,?_⟩,qe,qe,qH,h.nc,qe,h.tr,qe,λq hq=>?_⟩⟩)
  .rcases cK.1 hq with e|e
   .exact (h.cls q e).mono (qp _) hl
   .simp only [kg] at e;subst e;exact hc.mono (qp _) hl
  .rcases cK.1 hu with e|e
   .exact hg.sv u e
   constructor<;>grind
  .have:=hg.sl
   grind[YZ.push]
  .simpa [YZ.push] using hg.ok
  .cases gs with
   | nil =>
    simp at hq;subst hq;exact h.b0 g qB
   | cons a l=>exact h.b0 q qH
theorem R6 {st:List Y6} (h:MOk p m fs f) (ho:(yg p f.YS)[f.pc]?=some o) (h0:o.1≠0) (hs:∀ u∈st,u∈f.stack) (hl:st.length<=f.stack.length) (hok:zb st.length ((yg p f.YS).drop (f.pc+1))):MOk p m fs { f with pc:=f.pc+1,stack:=st } :=
 h.re ho rfl (λu hu=>h.top.sv u (hs u hu)) (by have:=h.top.sl;omega) hok h0
theorem Hb {st:List Y6} {b:Nat} {cs:List Nat} {vs:List Y6} (hp:Yl p) (h:MOk p m fs f) (ho:(yg p f.YS)[f.pc]?=some o) (h0:o.1=16\/o.1=17) (hs:∀ u∈st,u∈f.stack) (hl:st.length+1<=f.pc+1) (hok:zb (st.length+1) ((yg p f.YS).drop (f.pc+1)))
  (hb:b<p.length) (hb0:0<b) (hcsl:cs.length=(qN p b).length) (hcs:∀ c∈cs,c<m.cells.length) (hvs:∀ v∈vs,ZQ m.YT.length m.YP.length v):Qn p (ze p (m.top fs { f with pc:=f.pc+1,stack:=st }) b cs vs):=by
 have hd:=ca ho;have hpl:=(gS ho).1
 have hp1:vQ p f=1+vQ p { f with pc:=f.pc+1,stack:=st }:=by
  grind[vQ,vA]
 have h1:=h.made;have h2:=h.nf;have h3:=h.out;have h4:=h.nk;have h5:=h.deep;refine QM (pd:=xx p fs+vQ p { f with pc:=f.pc+1,stack:=st }) hp hb hb0 h.cells h.Yd h.cls h.YT (λg hg=>?_) cC (by grind[Y2.top,ET]) ?_ ?_ ?_ h.nc ?_ h.tr ?_ (λg hg=>?_) hcsl hcs hvs
 .simp only [Y2.top,cK,kg] at hg;rcases hg with e|e
  .exact h.low g e
  .subst e;exact⟨h.top.YS,h.top.fl,h.top.fv,h.top.cl,h.top.cr,h.top.nm,λu hu=>h.top.sv u (hs u hu),hl,hpl,hok⟩
 .grind[Y2.top]
 .grind[Y2.top]
 .grind[Y2.top]
 .grind[Y2.top]
 .grind[Y2.top]
 .simp only [Y2.top] at hg
  cases fs with
  | nil=>simp at hg;subst hg;exact h.b0 f qB
  | cons a l=>exact h.b0 g qH
theorem J3 {c:Int} (h:0<=c/\c<=20):c=0\/c=1\/(2<=c/\c<=13)\/c=14\/c=15\/c=16\/c=17\/c=18\/c=19\/c=20:=qA
theorem LY (hp:Yl p) (h:MOk p m fs f) (ho:(yg p f.YS)[f.pc]?=some o):xJ p (uq p m fs f.next o):=by
 obtain⟨k,hk⟩:=gX h.top.YS;have hO:=HJ hp.sh hk o (gM ho);have hd:=ca ho;have hok:=h.top.ok;rw [hd,so] at hok;obtain⟨l,hl⟩:∃ l,l=(yg p f.YS).drop (f.pc+1):=⟨_,rfl⟩;rw [<- hl] at hok hd;have h1:=h.made;have h2:=h.nf;have h3:=h.out;have hsl:=h.top.sl;obtain⟨c,a⟩:=o;simp only [zb] at hok;have hstop:∀ (F:YZ) (e:Int),e≠0->xJ p (m.stop fs F e):=λF e he=>.inl he;rcases J3 hO.code with rfl|rfl|⟨n2,n13⟩|rfl|rfl|rfl|rfl|rfl|rfl|rfl
 ·-- a statement begins
  simp at hok;have e0:uq p m fs f.next (0,a)=bI p m fs f.next:=by simp [uq]
  rw [e0,bI];by_cases hz:m.left=0
  .simp_all
  .rw [if_neg hz];have hpl:=(gS ho).1;have hpf:vQ p f=0:=by grind[vQ,vA]
   have hpn:vQ p f.next=vA l:=by grind[vQ,YZ.next]
   have htr:=h.tr;refine .inr (.inr ⟨fs,f.next,rfl,⟨h.cells,h.Yd,h.cls,h.YT,h.low,⟨h.top.YS,h.top.fl,h.top.fv,h.top.cl,h.top.cr,h.top.nm,h.top.sv,sB,hpl,?_⟩,?_,?_,h.nk,h.nc,?_,?_,h.deep,λg hg=>?_⟩⟩)
   .show zb (f.stack.length+0) ((yg p f.YS).drop (f.pc+1))
    simp_all
   .grind[Y2.top]
   .grind[Y2.top]
   .grind[Y2.top]
   .grind
   .cases fs with
    | nil=>simp at hg;subst hg;exact h.b0 f qB
    | cons a l=>exact h.b0 g qH
 .simp at hok;have e0:uq p m fs f.next (1,a)=m.top fs (f.next.push (1,a)):=aV;rw [e0];refine .inr (.inr (.of (LK h ho qB qH ?_)));have:=hO.arg;constructor<;>grind
 ·-- names
  have e0:uq p m fs f.next (c,a)=if (c - 2) % 3=0 then vw p m fs f.next (c,a) else if (c - 2) % 3=1 then oT m fs f.next (c,a) else EF p m fs f.next (c,a):=by
   grind[uq]
  rw [e0];have hn:∀ st:List Y6,(∀ u∈st,u∈f.stack)->st.length<=f.stack.length->zb st.length l->MOk p m fs { f with pc:=f.pc+1,stack:=st }:=λst q1 q2 q3=>R6 h ho qA q1 q2 qe;by_cases m0:(c - 2) % 3=0
  .rw [if_pos m0];have hc:c=2\/c=5\/c=8\/c=11:=qA
   have hok':zb (f.stack.length+1) l:=by
    grind
   have push:∀ v,ZQ m.YT.length m.YP.length v->xJ p (m.top fs (f.next.push v)):=λv hv=>.inr (.inr (.of (LK h ho qA qe hv)));unfold vw;have hgs:gq m f.next (c,a)=gq m f (c,a):=rfl;rw [hgs]
   cases hg:gq m f (c,a) with
   | some v=>grind[Sj]
   | none =>
    simp only
    split
    .split
     .rename_i v hv;exact push v (h.Yd.2 v (fD hv))
     .split
      .exact push _ ⟨qL,qB,qB⟩
      grind
    grind[dW]
  .rw [if_neg m0];by_cases m1:(c - 2) % 3=1
   .rw [if_pos m1];have hc:c=3\/c=6\/c=9\/c=12:=qA
    have hok':1<=f.stack.length/\zb (f.stack.length - 1) l:=by
     rcases hc with rfl|rfl|rfl|rfl <;> simpa using hok
    have hM:=hn f.pop.stack (λu hu=>dk hu) (by grind[cV]) (by grind[cV]);refine .inr (.inr (Kp (f:=f.next.pop) hM λv hv=>?_));obtain rfl:=sI hv;exact h.top.sv _ (bH hok'.1)
   .rw [if_neg m1];have hc:c=4\/c=7\/c=10\/c=13:=qA
    have hok':zb f.stack.length l:=by
     rcases hc with rfl|rfl|rfl|rfl <;> simpa using hok
    have hM:=hn f.stack (λu hu=>hu) (qp _) hok';unfold EF
    split
    .exact .inr (.inr (Kp (f:=f.next) hM λv hv=>by cases hv))
    grind[dW]
 .simp at hok;have e0:uq p m fs f.next (14,a)=Jl m fs f.next:=aV;rw [e0,Jl];have hp2:f.next.pop.pop.stack.length=f.stack.length - 2:=by grind[cV,YZ.next]
  have hv1:=h.top.sv _ (bH (f:=f) qA);have hv2:=h.top.sv _ (dk (bH (f:=f.pop) (by grind[cV])))
  split
  .simp_all
  .refine .inr (.inr (.of ?_));refine h.re ho rfl (λu hu=>?_) ?_ ?_ qB
   .rcases cK.1 hu with e|e
    .exact h.top.sv u (dk (dk e))
    .simp only [kg] at e;subst e;have e1:f.next.pop.Yw=f.pop.Yw:=rfl;have e2:f.next.Yw=f.Yw:=rfl;rw [e1,e2];have q1:=hv1.num;have q2:=hv2.num;constructor<;>grind
   .constructor<;>grind
   grind
 .simp at hok;obtain⟨q,q1,q2,q3,q4⟩:=hO.YS (.inl rfl);simp only at q1 q3 q4;have e0:uq p m fs f.next (15,a)={ m.top fs (f.next.push (2,m.YT.length)) with YT:=m.YT++[(a.toNat,uM p f.next a.toNat)] }:=aV;rw [e0];obtain⟨c1,c2⟩:=Ai hp.sh.Y9 h.top q1 q2;have hfl:m.YT.length<=(m.YT++[(a.toNat,uM p f.next a.toNat)]).length:=qB;have hpf:vQ p f=1+vA l:=by grind[vQ,vA]
  have hpn:vQ p (f.next.push (2,(m.YT.length:Int)))=vA l:=by grind[vQ,YZ.next,YZ.push]
  have hpl:=(gS ho).1;have hT:=h.top.mono (nf':=(m.YT++[(a.toNat,uM p f.next a.toNat)]).length) hfl (qp _) (qp _);refine .inr (.inr ⟨fs,_,rfl,⟨λu hu=>(h.cells u hu).mono hfl (qp _),h.Yd.mono hfl (qp _),λu hu=>(h.cls u hu).mono hfl (qp _),λu hu=>?_,λu hu=>(h.low u hu).mono hfl (qp _) (qp _),⟨hT.YS,hT.fl,hT.fv,hT.cl,hT.cr,hT.nm,λu hu=>?_,?_,hpl,?_⟩,?_,?_,h.nk,h.nc,?_,h.tr,h.deep,λg hg=>?_⟩⟩)
  .rcases cK.1 hu with e|e
   .exact h.YT u e
   .simp only [kg] at e;subst e;exact⟨q,q1,qA,c1,c2⟩
  .rcases cK.1 hu with e|e
   .exact hT.sv u e
   constructor<;>grind
  .grind[YZ.push,YZ.next]
  .grind[YZ.push,YZ.next]
  .grind[Y2.top]
  .grind[Y2.top]
  .grind[Y2.top]
  .cases fs with
   | nil=>simp at hg;subst hg;exact h.b0 f qB
   | cons a l=>exact h.b0 g qH
 .simp at hok;obtain⟨q,q1,q2,q3,q4⟩:=hO.YS (.inr rfl);simp only at q1 q3 q4;have e0:uq p m fs f.next (16,a)=ze p (m.top fs f.next) a.toNat (uM p f.next a.toNat) []:=aV;rw [e0];obtain⟨c1,c2⟩:=Ai hp.sh.Y9 h.top q1 q2;exact .inr (.inr (Hb (st:=f.stack) hp h ho (.inl rfl) (λu hu=>hu) qA qH (gS q1).1 qA c1 c2 (λv hv=>cp)))
 .simp at hok;have e0:uq p m fs f.next (17,a)=fj p m fs f.next (17,a):=aV;rw [e0,fj];simp only;obtain⟨n,hn⟩:∃ n,a.toNat=n:=⟨_,rfl⟩;rw [hn] at hok ⊢;have hnl:f.next.stack.length=f.stack.length:=rfl;have hns:f.next.stack=f.stack:=rfl;rw [hns];have hkl:f.stack.length - n - 1<f.stack.length:=qA;have hg:ZQ m.YT.length m.YP.length (f.stack.getD (f.stack.length - n - 1) (0,0)):=A1 h.top.sv _
  split
  .simp_all
  .rename_i hg2;have hg2':(f.stack.getD (f.stack.length - n - 1) (0,0)).1=2:=qA
   split
   .rename_i q hq
    split
    .simp_all
    .obtain⟨kb,r1,r2,r3,r4⟩:=h.YT q (gM hq)
     have hq0:0<q.1:=by
      rcases iR q.1 with e|e
      .rw [e] at r1;have:=(hp.sh.Ze r1).2 rfl;omega
      .exact e
     have hls:(f.stack.take (f.stack.length - n - 1)).length=f.stack.length - n - 1:=qv;refine .inr (.inr (Hb (st:=f.stack.take (f.stack.length - n - 1)) hp h ho (.inr rfl) (λu hu=>G0 hu) qA ?_ (gS r1).1 hq0 r3 r4 (λv hv=>h.top.sv v (List.mem_of_mem_drop hv))))
     grind
   simp_all
 .simp at hok;have e0:uq p m fs f.next (18,a)=iQ m fs f.next (18,a):=aV;rw [e0,iQ];simp only
  split
  .simp_all
  .split
   .rename_i u hu
    have hv:ZQ m.YT.length m.YP.length u:=by
     have hm:=fD hu;rw [sM] at hm
     cases hc:m.YP[f.next.Yw.2.toNat]? with
     | none=>simp_all
     | some cl =>
      rw [hc] at hm;exact (h.cls cl (gM hc)).2 u hm
    refine .inr (.inr (.of ?_));have hp1:f.next.pop.stack.length=f.stack.length - 1:=by rw [cV];rfl
    refine h.re ho rfl (λw hw=>?_) ?_ ?_ qB
    .rcases cK.1 hw with e|e
     .exact h.top.sv w (dk e)
     simp_all
    .constructor<;>grind
    simp_all
   simp_all
 .simp at hok;have e0:uq p m fs f.next (19,a)={ m.top fs f.next.pop with out:=m.out++[shown f.next.Yw] }:=aV;rw [e0];have hpf:vQ p f=1+vA l:=by grind[vQ,vA]
  have hpn:vQ p f.next.pop=vA l:=by grind[vQ,YZ.next,YZ.pop]
  have hpl:=(gS ho).1;have hp1:f.next.pop.stack.length=f.stack.length - 1:=by rw [cV];rfl
  refine .inr (.inr ⟨fs,f.next.pop,rfl,⟨h.cells,h.Yd,h.cls,h.YT,h.low,⟨h.top.YS,h.top.fl,h.top.fv,h.top.cl,h.top.cr,h.top.nm,λu hu=>h.top.sv u (dk hu),?_,hpl,?_⟩,?_,?_,h.nk,h.nc,?_,h.tr,h.deep,λg hg=>?_⟩⟩)
  .grind[YZ.pop,YZ.next]
  .grind[YZ.pop,YZ.next]
  .grind[Y2.top]
  .grind[Y2.top]
  .grind[Y2.top]
  .cases fs with
   | nil=>simp at hg;subst hg;exact h.b0 f qB
   | cons a l=>exact h.b0 g qH
 .simp at hok;have e0:uq p m fs f.next (20,a)=zd m fs f.next.Yw:=aV;rw [e0];exact HS h (h.top.sv _ (bH hok.1))
theorem IT (hp:Yl p) (hf:m.YO=fs++[f]) (h:MOk p m fs f):xJ p (wZ p m):=by
 cases ho:(yg p f.YS)[f.pc]? with
 | some o =>
  rw [Zz hf ho];exact LY hp h ho
 | none =>
  rw [step_end hf ho,D5]
  split
  .have:=h.nk;exact Nh h h.top.nm qA
  .exact HS h .zero
theorem CQ (hp:Yl p) {n:Nat} (hn:n<=150):∀ i,(yf p i (qb p n)).ended\/Qn p (yf p i (qb p n))
 | 0=>by
  right;have hl:=hp.sh.len;obtain⟨k,hk⟩:∃ k,p[0]?=some k:=⟨_,gE qA⟩;have hk0:=(hp.sh.Ze hk).2 rfl;have hka:qV p 0=0:=cq;have hc0:qC p 0=[]:=by grind[qC]
  have hf0:qG p 0=[]:=by grind[qG]
  have hr0:qN p 0=[]:=by
   rw [List.eq_nil_iff_forall_not_mem];intro x hx;exact absurd (fN hx) qL
  have hps:(qd p 0).params=[]:=by
   have:=hp.sh.head 0 k hk
   grind[qd]
  have hM:qb p n=⟨[],qc,[],[],[⟨0,0,[],[],qc,[]⟩],1,1,[],[],0,n⟩:=by
   unfold qb ze
   simp_all[zR]
  obtain⟨o1,o2⟩:=Cc (b:=0) hp.sh qA;simp only [yf,hM];have hpF:vQ p ⟨0,0,[],[],qc,[]⟩=0:=by grind[vQ]
  have hpS:xx p []=0:=rfl;refine⟨[],_,rfl,⟨qB,.none,qB,qB,qB,⟨qe,by simp [hf0],qB,qH,qB,.none,qB,qB,qB,qH⟩,?_,?_,?_,?_,?_,?_,?_,?_⟩⟩
  all_goals try simp only [hpF,hpS,Dy]
  all_goals first|omega|simp
 | i+1=>by
  rw [aD];rcases CQ hp hn i with h|h
  .simp_all
  .by_cases he:(yf p i (qb p n)).ended
   .simp_all
   .rw [if_neg he];obtain⟨fs,f,h1,h2⟩:=h;rcases IT hp h1 h2 with e|e|e
    .exact .inl (.inr e)
    .exact .inl (.inl e)
    simp_all
end
section
variable {p:YU} {m m':Y2} {b n:Nat} {fs:List YZ} {f g:YZ} {o:Int×Int} {v:Y6} {s:Yj}
def DC (f:YZ):Nat:=61 - f.pc
def AP (m:Y2):Nat:=(151 - m.made) * 62+(m.YO.map DC).sum
def VV (m:Y2) (fs:List YZ) (pc:Nat) (m':Y2):Prop:=(∃ g,m'.YO=fs++[g]/\g.pc=pc)/\m'.made=m.made/\m'.out.length<=m.out.length+1/\m'.trace.length<=m.trace.length+1/\m'.globals.length=m.globals.length
theorem P7 (h:g.pc=f.pc):VV m fs f.pc (m.top fs g):=⟨⟨g,rfl,h⟩,rfl,cC,cC,rfl⟩
theorem MS {e:Int} (h:g.pc=f.pc):VV m fs f.pc (m.stop fs g e):=⟨⟨g,rfl,h⟩,rfl,by simp [Y2.stop,Y2.top],by simp [Y2.stop,Y2.top],rfl⟩
theorem H0 (h:g.pc=f.pc):VV m fs f.pc (Yy m fs g o s):=by
 unfold Yy
 repeat' split
 all_goals exact⟨⟨_,rfl,h⟩,rfl,cC,cC,cC⟩
theorem tk {cs:List Nat} {vs:List Y6}:(∃ g,(ze p m b cs vs).YO=m.YO++[g])/\(ze p m b cs vs).made=m.made+1/\(ze p m b cs vs).out=m.out/\(ze p m b cs vs).trace=m.trace/\(ze p m b cs vs).globals=m.globals:=by
 unfold ze
 split<;>grind
def TC (m m':Y2):Prop:=AP m'<AP m/\m'.out.length<=m.out.length+1/\m'.trace.length<=m.trace.length+1/\m'.globals.length=m.globals.length
theorem Ly (hm:m.YO=fs++[f]) (hp:f.pc<61) (h:VV m fs (f.pc+1) m'):TC m m':=by
 obtain⟨⟨g,h1,h2⟩,h3,h4⟩:=h;refine⟨?_,h4⟩
 grind[AP,DC]
theorem td {cs:List Nat} {vs:List Y6} (hm:m.YO=fs++[f]) (hp:f.pc<61) (hg:g.pc=f.pc+1) (hmd:m.made<=150):TC m (ze p (m.top fs g) b cs vs):=by
 obtain⟨⟨x,h1⟩,h2,h3,h4,h5⟩:=tk (p:=p) (m:=m.top fs g) (b:=b) (cs:=cs) (vs:=vs);refine⟨?_,by rw [h3];exact Nat.le_succ _,by rw [h4];exact Nat.le_succ _,by rw [h5];rfl⟩;have h6:(m.top fs g).YO=fs++[g]:=rfl;have h7:(m.top fs g).made=m.made:=rfl
 grind[AP,DC]
theorem tc (hm:m.YO=fs++[f]) (hp:f.pc<61) (hf:m'.made=m.made) (ho:m'.out=m.out) (ht:m'.trace=m.trace) (hg:m'.globals=m.globals):TC m (zd m' fs v):=by
 unfold zd
 split
 .rename_i g hl
  have hs:((fs.dropLast++[g.push v]).map DC).sum=(fs.map DC).sum:=by
   have e:fs=fs.dropLast++[g]:=by
    have hne:fs≠[]:=λe=>qH
    grind[QR]
   grind[DC,YZ.push]
  refine⟨?_,by simp [ho],aU,by simp [hg]⟩
  grind[AP,DC]
 .refine⟨?_,by simp [ho],aU,by simp [hg]⟩
  grind[AP,DC]
theorem CB (hp:Yl p) (hm:m.YO=fs++[f]) (hM:MOk p m fs f):TC m (wZ p m):=by
 have hol:=cW (p:=p) (b:=f.YS) hp.sh;have hpc:=hM.top.pc;have h61:f.pc<61:=qA
 cases ho:(yg p f.YS)[f.pc]? with
 | none =>
  rw [Hm.step_end hm ho]
  grind[D5,tc]
 | some o =>
  rw [Hm.Zz hm ho];have hmd:=hM.made
  have hpend:o.1=16\/o.1=17->m.made<=150:=λh=>by
   have h2:1<=vQ p f:=by
    unfold vQ;rw [ca ho]
    grind[vA]
   omega
  have hG:∀ m',VV m fs f.next.pc m'->TC m m':=λm' h=>Ly hm h61 h;have hT:∀ g:YZ,g.pc=f.next.pc->TC m (m.top fs g):=λg h=>hG _ (P7 h);have hS:∀ (g:YZ) (e:Int),g.pc=f.next.pc->TC m (m.stop fs g e):=λg e h=>hG _ (MS h);unfold uq
  split
  .unfold bI
   split
   .exact hS _ _ rfl
   .exact hG _ ⟨⟨_,rfl,rfl⟩,rfl,cC,qB,rfl⟩
  .split
   .split
    .unfold vw
     repeat' split
     all_goals first|exact hT _ rfl|exact hS _ _ rfl
    .split
     .exact hG _ (H0 rfl)
     .unfold EF
      split
      .exact hG _ (H0 rfl)
      .exact hS _ _ rfl
   .unfold yd
    split
    .exact hT _ rfl
    split
    .unfold Jl;dsimp only
     split
     .exact hS _ _ rfl
     .exact hT _ rfl
    split
    .exact hG _ ⟨⟨_,rfl,rfl⟩,rfl,cC,cC,rfl⟩
    split
    .grind[td]
    split
    .unfold fj;dsimp only
     split
     .exact hS _ _ rfl
     .split
      .split
       .exact hS _ _ rfl
       grind[td]
      .exact hS _ _ rfl
    split
    .unfold iQ;dsimp only
     split
     .exact hS _ _ rfl
     .split
      .exact hT _ rfl
      .exact hS _ _ rfl
    split
    .exact hG _ ⟨⟨_,rfl,rfl⟩,rfl,qB,cC,rfl⟩
    grind[tc]
theorem On (hp:Yl p) (hn:n<=150):∃ N,(yf p N (qb p n)).ended:=by
 have key:∀ i,(yf p i (qb p n)).ended\/AP (yf p i (qb p n))+i<=AP (qb p n):=by
  intro i
  induction i with
  | zero=>exact .inr (qp _)
  | succ i ih =>
   rcases ih with h|h
   .grind[aD]
   .by_cases he:(yf p i (qb p n)).ended
    .grind[aD]
    .right;rw [aD,if_neg he];obtain⟨fs,f,h1,h2⟩:=(CQ hp hn i).resolve_left he;have:=(CB hp h1 h2).1;omega
 rcases key (AP (qb p n)+1) with h|h<;>grind
theorem Q6 (hp:Yl p) (hn:n<=150):∀ i,(yf p i (qb p n)).out.length<=151/\(yf p i (qb p n)).trace.length<=151/\(yf p i (qb p n)).globals.length=8
 | 0=>by
  grind[tk,zR,yf,qb]
 | i+1=>by
  have ih:=Q6 hp hn i;by_cases he:(yf p i (qb p n)).ended
  .grind[aD]
  .rw [aD,if_neg he];obtain⟨fs,f,h1,h2⟩:=(CQ hp hn i).resolve_left he;obtain⟨_,h3,h4,h5⟩:=CB hp h1 h2;have h6:=h2.out;have h7:=h2.tr;omega
end
end Go.Hm
end
section

end
section
namespace Go.Hm
open Go Go.RowKit
section
variable {p:YU} {m:Y2} {b d n i j N M t:Nat} {fs:List YZ} {f g:YZ} {o:Int×Int} {v:Y6} {k:Y4} {x:Int}
structure Zt (p:YU) (t:Nat) (m:Y2):Prop where
 fr:m.YO.length<=m.deep
 dm:m.deep<=m.made
 d1:1<=m.deep
 cells:m.cells.length<=t * (m.made - 1)
theorem Zt.of {m':Y2} (h:Zt p t m) (h1:m'.YO.length<=m.YO.length) (h2:m'.deep=m.deep) (h3:m'.made=m.made) (h4:m'.cells.length=m.cells.length):Zt p t m' :=
 ⟨by grind[fr],by grind[dm],by grind[d1],by rw [h4,h3];exact h.cells⟩
theorem Se (h:Zt p t m) (hl:fs.length+1=m.YO.length):Zt p t (m.top fs f):=h.of mO rfl rfl rfl
theorem HY {s:Yj} (h:Zt p t m) (hl:fs.length+1=m.YO.length):Zt p t (Yy m fs f o s):=by
 unfold Yy
 repeat' split
 all_goals exact h.of mO rfl rfl cC
theorem DH {cs:List Nat} {vs:List Y6} (ht:∀ b,(qC p b).length<=t) (h:Zt p t m):Zt p t (ze p m b cs vs):=by
 have hb:=ht b;have h1:=h.fr;have h2:=h.dm;have h3:=h.d1;have h4:=h.cells
 have key:∀ {C:List Yj} {F:List YZ},C.length=m.cells.length+(qC p b).length->F.length=m.YO.length+1->Zt p t { m with cells:=C,made:=m.made+1,deep:=max m.deep (m.YO.length+1),YO:=F }:=by
  intro C F e1 e2;refine⟨qe,qe,qe,?_⟩;simp only [e1];obtain⟨q,hq⟩:∃ q,m.made=q+1:=⟨m.made - 1,qA⟩
  grind[Nat.mul_succ]
 unfold ze
 split<;>grind
theorem pO (h:Zt p t m) (hl:fs.length+1=m.YO.length):Zt p t (zd m fs v):=by
 unfold zd
 split
 .rename_i g hg;refine h.of ?_ rfl rfl rfl
  grind
 .exact h.of qB rfl rfl rfl
theorem HX (ht:∀ b,(qC p b).length<=t) (h:Zt p t m):Zt p t (wZ p m):=by
 unfold wZ
 split
 .rename_i f hf
  have hl:m.YO.dropLast.length+1=m.YO.length:=by
   grind
  have hT:∀ F:YZ,Zt p t (m.top m.YO.dropLast F):=λF=>Se h hl;have hS:∀ (F:YZ) (E:Int),Zt p t (m.stop m.YO.dropLast F E):=λF E=>(hT F).of (qp _) rfl rfl rfl
  split
  .rename_i o ho;unfold uq
   split
   .unfold bI
    split
    .grind
    .exact (hT _).of (qp _) rfl rfl rfl
   .split
    .split
     .grind[vw]
     .split
      .exact HY h hl
      grind[EF,HY]
    .unfold yd
     split
     .exact hT _
     .split
      .grind[Jl]
      .split
       .exact (hT _).of (qp _) rfl rfl rfl
       .split
        .grind[DH]
        .split
         .grind[fj,DH]
         .split
          .grind[iQ]
          .split
           .exact (hT _).of (qp _) rfl rfl rfl
           grind[pO]
  .unfold D5
   split
   .exact pO (m:={ m with YP:=m.YP++[f.names] }) (h.of (qp _) rfl rfl rfl) hl
   grind[pO]
 .exact h
theorem Ez (ht:∀ b,(qC p b).length<=t):∀ (i:Nat) {m:Y2},Zt p t m->Zt p t (yf p i m)
 | 0,_,h=>h
 | i+1,m,h=>by
  rw [yf]
  split
  .exact h
  .exact Ez ht i (HX ht h)
theorem DG (hp:Yl p):Zt p t (qb p n):=by
 obtain⟨hR,f,hf,_⟩:=CD (n:=n) hp;have hl:=hp.sh.len;obtain⟨k,hk⟩:∃ k,p[0]?=some k:=⟨_,gE qA⟩;have hk0:=(hp.sh.Ze hk).2 rfl;have hka:qV p 0=0:=cq;have hc0:qC p 0=[]:=by grind[qC]
 have hps:(qd p 0).params=[]:=by
  have:=hp.sh.head 0 k hk
  grind[qd]
 unfold qb ze;rw [hps];exact⟨qe,eK,qe,rN⟩
open Classical in
noncomputable def aY (p:YU) (n:Nat):Y2:=if h:∃ N,(yf p N (qb p n)).ended then yf p (Classical.choose h) (qb p n) else qb p n
theorem lp (h:(yf p i (qb p n)).ended):yf p i (qb p n)=aY p n:=by
 have hE:∃ N,(yf p N (qb p n)).ended:=⟨i,h⟩
 grind[aY,CW]
theorem iq (hp:Yl p) (hn:n<=150):∃ N,(∀ i,i<N->¬ (yf p i (qb p n)).ended)/\(yf p N (qb p n)).ended/\yf p N (qb p n)=aY p n:=by
 obtain⟨N,hN⟩:=On (n:=n) hp hn
 have key:∀ N,(yf p N (qb p n)).ended->∃ M,(∀ i,i<M->¬ (yf p i (qb p n)).ended)/\(yf p M (qb p n)).ended:=by
  intro N
  induction N<;>grind[CW]
 grind[lp]
theorem LH (hp:Yl p) (hn:n<=150):(aY p n).ended/\qBa p (ji p n) (aY p n):=by
 grind[Pt,lp]
theorem UI (hp:Yl p) (hn:n<=150):(aY p n).out.length<=151/\(aY p n).trace.length<=151/\(aY p n).globals.length=8:=by
 grind[iq,Q6]
theorem Rl (hp:Yl p) (hn:n<=150) (ht:∀ b,(qC p b).length<=t):Zt p t (aY p n):=by
 grind[iq,Ez,DG]
end
end Go.Hm
end
