import Derived.Test.YtjgpejikjhojcaaGreatDoorT14
set_option linter.unusedSimpArgs false
set_option linter.unusedVariables false
set_option maxRecDepth 100000
set_option maxHeartbeats 4000000

section
namespace Go.Hm
open Go Go.RowKit
section
variable {p:qC} {m:qU} {b e:Nat} {fs:List qN} {f g:qN} {o:Int×Int} {v:qR} {k:qT} {x:Int} {l:List (Int×Int)}
def pS (p:qC) (m:qU):Prop:=m.en≠0\/m.qW=[]\/lr p m
theorem GR {l:List qN} {a:qN}:lV p (l++[a])=lV p l+yn p a:=by simp [lV]
theorem Jr (h:yy p m fs f) (hv:zO m.qJ.length m.qO.length v):pS p (vr m fs v):=by
 unfold vr
 cases hl:fs.getLast? with
 | none=>exact .inr (.inl rfl)
 | some g =>
  obtain⟨gs,rfl⟩:∃ gs,fs=gs++[g]:=by
   grind[List.getLast?_eq_some_iff]
  have hg:=h.low g qB;have h1:=h.made;have h2:=h.nf;have h3:=h.out;have h4:=h.nk;have h5:=h.deep;rw [GR] at h1 h2 h3;have hp1:yn p (g.push v)=yn p g:=rfl;simp only [kC,b8] at h4 h5;refine .inr (.inr ⟨gs,g.push v,qB,⟨h.cells,h.zJ,h.cls,h.qJ,λq hq=>h.low q ik,⟨hg.qD,hg.fl,hg.fv,hg.cl,hg.cr,hg.nm,λu hu=>?_,?_,hg.pc,?_⟩,qp,qp,qp,h.nc,qp,h.tr,qp,λq hq=>?_⟩⟩)
  .rcases jo.1 hu with e|e
   .exact hg.sv u e
   simp_all
  .have:=hg.sl
   grind[qN.push]
  .simpa [qN.push] using hg.ok
  .cases gs with
   | nil =>
    simp at hq;subst hq;exact h.b0 g qB
   | cons a l=>exact h.b0 q qL
theorem ON {c:List qu} (h:yy p m fs f) (hc:vF m.qJ.length m.qO.length c) (hn:m.qO.length+1+fs.length<=m.made):pS p (vr { m with qO:=m.qO++[c] } fs (3,m.qO.length)):=by
 have hl:m.qO.length<=(m.qO++[c]).length:=qB;have hm:=h.made;unfold vr
 cases hlst:fs.getLast? with
 | none=>exact .inr (.inl rfl)
 | some g =>
  obtain⟨gs,rfl⟩:∃ gs,fs=gs++[g]:=by
   grind[List.getLast?_eq_some_iff]
  have hg:=(h.low g qB).mono (nf':=m.qJ.length) (nk':=(m.qO++[c]).length) (nc':=m.cells.length) (qX _) hl (qX _);have h1:=h.made;have h2:=h.nf;have h3:=h.out;have h5:=h.deep;rw [GR] at h1 h2 h3;have hp1:∀ u,yn p (g.push u)=yn p g:=λ_=>rfl;simp only [kC,b8] at hn h5;refine .inr (.inr ⟨gs,g.push (3,(m.qO.length:Int)),qB,⟨λu hu=>(h.cells u hu).mono (qX _) hl,h.zJ.mono (qX _) hl,λq hq=>?_,h.qJ,λq hq=>(h.low q ik).mono (qX _) hl (qX _),⟨hg.qD,hg.fl,hg.fv,hg.cl,hg.cr,hg.nm,λu hu=>?_,?_,hg.pc,?_⟩,qp,qp,qL,h.nc,qp,h.tr,qp,λq hq=>?_⟩⟩)
  .rcases jo.1 hq with e|e
   .exact (h.cls q e).mono (qX _) hl
   .simp only [yj] at e;subst e;exact hc.mono (qX _) hl
  .rcases jo.1 hu with e|e
   .exact hg.sv u e
   constructor<;>grind
  .have:=hg.sl
   grind[qN.push]
  .simpa [qN.push] using hg.ok
  .cases gs with
   | nil =>
    simp at hq;subst hq;exact h.b0 g qB
   | cons a l=>exact h.b0 q qL
theorem YT {st:List qR} (h:yy p m fs f) (ho:(zm p f.qD)[f.pc]?=some o) (h0:o.1≠0) (hs:∀ u∈st,u∈f.stack) (hl:st.length<=f.stack.length) (hok:jw st.length ((zm p f.qD).drop (f.pc+1))):yy p m fs { f with pc:=f.pc+1,stack:=st } :=
 h.re ho rfl (λu hu=>h.top.sv u (hs u hu)) (by have:=h.top.sl;omega) hok h0
theorem JA {st:List qR} {b:Nat} {cs:List Nat} {vs:List qR} (hp:zq p) (h:yy p m fs f) (ho:(zm p f.qD)[f.pc]?=some o) (h0:o.1=16\/o.1=17) (hs:∀ u∈st,u∈f.stack) (hl:st.length+1<=f.pc+1) (hok:jw (st.length+1) ((zm p f.qD).drop (f.pc+1)))
  (hb:b<p.length) (hb0:0<b) (hcsl:cs.length=(jF p b).length) (hcs:∀ c∈cs,c<m.cells.length) (hvs:∀ v∈vs,zO m.qJ.length m.qO.length v):lr p (vP p (m.top fs { f with pc:=f.pc+1,stack:=st }) b cs vs):=by
 have hd:=rp ho;have hpl:=(gS ho).1
 have hp1:yn p f=1+yn p { f with pc:=f.pc+1,stack:=st }:=by
  grind[yn,y4]
 have h1:=h.made;have h2:=h.nf;have h3:=h.out;have h4:=h.nk;have h5:=h.deep;refine On (pd:=lV p fs+yn p { f with pc:=f.pc+1,stack:=st }) hp hb hb0 h.cells h.zJ h.cls h.qJ (λg hg=>?_) dy (by grind[qU.top,GR]) ?_ ?_ ?_ h.nc ?_ h.tr ?_ (λg hg=>?_) hcsl hcs hvs
 .simp only [qU.top,jo,yj] at hg;rcases hg with e|e
  .exact h.low g e
  .subst e;exact⟨h.top.qD,h.top.fl,h.top.fv,h.top.cl,h.top.cr,h.top.nm,λu hu=>h.top.sv u (hs u hu),hl,hpl,hok⟩
 .grind[qU.top]
 .grind[qU.top]
 .grind[qU.top]
 .grind[qU.top]
 .grind[qU.top]
 .simp only [qU.top] at hg
  cases fs with
  | nil=>simp at hg;subst hg;exact h.b0 f qB
  | cons a l=>exact h.b0 g qL
theorem Pi {c:Int} (h:0<=c/\c<=20):c=0\/c=1\/(2<=c/\c<=13)\/c=14\/c=15\/c=16\/c=17\/c=18\/c=19\/c=20:=qA
theorem UV (hp:zq p) (h:yy p m fs f) (ho:(zm p f.qD)[f.pc]?=some o):pS p (jW p m fs f.next o):=by
 obtain⟨k,hk⟩:=gX h.top.qD;have hO:=FD hp.sh hk o (gM ho);have hd:=rp ho;have hok:=h.top.ok;rw [hd,dj] at hok;obtain⟨l,hl⟩:∃ l,l=(zm p f.qD).drop (f.pc+1):=⟨_,rfl⟩;rw [<- hl] at hok hd;have h1:=h.made;have h2:=h.nf;have h3:=h.out;have hsl:=h.top.sl;obtain⟨c,a⟩:=o;simp only [jw] at hok;have hstop:∀ (F:qN) (e:Int),e≠0->pS p (m.stop fs F e):=λF e he=>.inl he;rcases Pi hO.code with rfl|rfl|⟨n2,n13⟩|rfl|rfl|rfl|rfl|rfl|rfl|rfl
 · -- a statement begins
  simp at hok;have e0:jW p m fs f.next (0,a)=dB p m fs f.next:=by simp [jW]
  rw [e0,dB];by_cases hz:m.left=0
  .simp_all
  .rw [if_neg hz];have hpl:=(gS ho).1;have hpf:yn p f=0:=by grind[yn,y4]
   have hpn:yn p f.next=y4 l:=by grind[yn,qN.next]
   have htr:=h.tr;refine .inr (.inr ⟨fs,f.next,rfl,⟨h.cells,h.zJ,h.cls,h.qJ,h.low,⟨h.top.qD,h.top.fl,h.top.fv,h.top.cl,h.top.cr,h.top.nm,h.top.sv,tu,hpl,?_⟩,?_,?_,h.nk,h.nc,?_,?_,h.deep,λg hg=>?_⟩⟩)
   .show jw (f.stack.length+0) ((zm p f.qD).drop (f.pc+1))
    simp_all
   .grind[qU.top]
   .grind[qU.top]
   .grind[qU.top]
   .grind
   .cases fs with
    | nil=>simp at hg;subst hg;exact h.b0 f qB
    | cons a l=>exact h.b0 g qL
 .simp at hok;have e0:jW p m fs f.next (1,a)=m.top fs (f.next.push (1,a)):=bi;rw [e0];refine .inr (.inr (.of (LA h ho qB qL ?_)));have:=hO.arg;constructor<;>grind
 · -- names
  have e0:jW p m fs f.next (c,a)=if (c - 2) % 3=0 then wc p m fs f.next (c,a) else if (c - 2) % 3=1 then CW m fs f.next (c,a) else mb p m fs f.next (c,a):=by
   grind[jW]
  rw [e0];have hn:∀ st:List qR,(∀ u∈st,u∈f.stack)->st.length<=f.stack.length->jw st.length l->yy p m fs { f with pc:=f.pc+1,stack:=st }:=λst q1 q2 q3=>YT h ho qA q1 q2 qp;by_cases m0:(c - 2) % 3=0
  .rw [if_pos m0];have hc:c=2\/c=5\/c=8\/c=11:=qA
   have hok':jw (f.stack.length+1) l:=by
    grind
   have push:∀ v,zO m.qJ.length m.qO.length v->pS p (m.top fs (f.next.push v)):=λv hv=>.inr (.inr (.of (LA h ho qA qp hv)));unfold wc;have hgs:uB m f.next (c,a)=uB m f (c,a):=rfl;rw [hgs]
   cases hg:uB m f (c,a) with
   | some v=>grind[RJ]
   | none =>
    simp only
    split
    .split
     .rename_i v hv;exact push v (h.zJ.2 v (sd hv))
     .split
      .exact push _ ⟨qc,qB,qB⟩
      grind
    grind[wS]
  .rw [if_neg m0];by_cases m1:(c - 2) % 3=1
   .rw [if_pos m1];have hc:c=3\/c=6\/c=9\/c=12:=qA
    have hok':1<=f.stack.length/\jw (f.stack.length - 1) l:=by
     rcases hc with rfl|rfl|rfl|rfl <;> simpa using hok
    have hM:=hn f.pop.stack (λu hu=>pB hu) (by grind[pA]) (by grind[pA]);refine .inr (.inr (MG (f:=f.next.pop) hM λv hv=>?_));obtain rfl:=sI hv;exact h.top.sv _ (pM hok'.1)
   .rw [if_neg m1];have hc:c=4\/c=7\/c=10\/c=13:=qA
    have hok':jw f.stack.length l:=by
     rcases hc with rfl|rfl|rfl|rfl <;> simpa using hok
    have hM:=hn f.stack (λu hu=>hu) (qX _) hok';unfold mb
    split
    .exact .inr (.inr (MG (f:=f.next) hM λv hv=>by cases hv))
    grind[wS]
 .simp at hok;have e0:jW p m fs f.next (14,a)=iZ m fs f.next:=bi;rw [e0,iZ];have hp2:f.next.pop.pop.stack.length=f.stack.length - 2:=by grind[pA,qN.next]
  have hv1:=h.top.sv _ (pM (f:=f) qA);have hv2:=h.top.sv _ (pB (pM (f:=f.pop) (by grind[pA])))
  split
  .simp_all
  .refine .inr (.inr (.of ?_));refine h.re ho rfl (λu hu=>?_) ?_ ?_ qB
   .rcases jo.1 hu with e|e
    .exact h.top.sv u (pB (pB e))
    .simp only [yj] at e;subst e;have e1:f.next.pop.zN=f.pop.zN:=rfl;have e2:f.next.zN=f.zN:=rfl;rw [e1,e2];have q1:=hv1.num;have q2:=hv2.num;constructor<;>grind
   .constructor<;>grind
   grind
 .simp at hok;obtain⟨q,q1,q2,q3,q4⟩:=hO.qD (.inl rfl);simp only at q1 q3 q4;have e0:jW p m fs f.next (15,a)={ m.top fs (f.next.push (2,m.qJ.length)) with qJ:=m.qJ++[(a.toNat,jV p f.next a.toNat)] }:=bi;rw [e0];obtain⟨c1,c2⟩:=EB hp.sh.jR h.top q1 q2;have hfl:m.qJ.length<=(m.qJ++[(a.toNat,jV p f.next a.toNat)]).length:=qB;have hpf:yn p f=1+y4 l:=by grind[yn,y4]
  have hpn:yn p (f.next.push (2,(m.qJ.length:Int)))=y4 l:=by grind[yn,qN.next,qN.push]
  have hpl:=(gS ho).1;have hT:=h.top.mono (nf':=(m.qJ++[(a.toNat,jV p f.next a.toNat)]).length) hfl (qX _) (qX _);refine .inr (.inr ⟨fs,_,rfl,⟨λu hu=>(h.cells u hu).mono hfl (qX _),h.zJ.mono hfl (qX _),λu hu=>(h.cls u hu).mono hfl (qX _),λu hu=>?_,λu hu=>(h.low u hu).mono hfl (qX _) (qX _),⟨hT.qD,hT.fl,hT.fv,hT.cl,hT.cr,hT.nm,λu hu=>?_,?_,hpl,?_⟩,?_,?_,h.nk,h.nc,?_,h.tr,h.deep,λg hg=>?_⟩⟩)
  .rcases jo.1 hu with e|e
   .exact h.qJ u e
   .simp only [yj] at e;subst e;exact⟨q,q1,qA,c1,c2⟩
  .rcases jo.1 hu with e|e
   .exact hT.sv u e
   constructor<;>grind
  .grind[qN.push,qN.next]
  .grind[qN.push,qN.next]
  .grind[qU.top]
  .grind[qU.top]
  .grind[qU.top]
  .cases fs with
   | nil=>simp at hg;subst hg;exact h.b0 f qB
   | cons a l=>exact h.b0 g qL
 .simp at hok;obtain⟨q,q1,q2,q3,q4⟩:=hO.qD (.inr rfl);simp only at q1 q3 q4;have e0:jW p m fs f.next (16,a)=vP p (m.top fs f.next) a.toNat (jV p f.next a.toNat) []:=bi;rw [e0];obtain⟨c1,c2⟩:=EB hp.sh.jR h.top q1 q2;exact .inr (.inr (JA (st:=f.stack) hp h ho (.inl rfl) (λu hu=>hu) qA qL (gS q1).1 qA c1 c2 (λv hv=>oH)))
 .simp at hok;have e0:jW p m fs f.next (17,a)=eE p m fs f.next (17,a):=bi;rw [e0,eE];simp only;obtain⟨n,hn⟩:∃ n,a.toNat=n:=⟨_,rfl⟩;rw [hn] at hok ⊢;have hnl:f.next.stack.length=f.stack.length:=rfl;have hns:f.next.stack=f.stack:=rfl;rw [hns];have jG:f.stack.length - n - 1<f.stack.length:=qA;have hg:zO m.qJ.length m.qO.length (f.stack.getD (f.stack.length - n - 1) (0,0)):=BW h.top.sv _
  split
  .simp_all
  .rename_i hg2;have hg2':(f.stack.getD (f.stack.length - n - 1) (0,0)).1=2:=qA
   split
   .rename_i q hq
    split
    .simp_all
    .obtain⟨kb,r1,r2,r3,r4⟩:=h.qJ q (gM hq)
     have hq0:0<q.1:=by
      rcases dJ q.1 with e|e
      .rw [e] at r1;have:=(hp.sh.dS r1).2 rfl;omega
      .exact e
     have hls:(f.stack.take (f.stack.length - n - 1)).length=f.stack.length - n - 1:=qn;refine .inr (.inr (JA (st:=f.stack.take (f.stack.length - n - 1)) hp h ho (.inr rfl) (λu hu=>gJ hu) qA ?_ (gS r1).1 hq0 r3 r4 (λv hv=>h.top.sv v (List.mem_of_mem_drop hv))))
     grind
   simp_all
 .simp at hok;have e0:jW p m fs f.next (18,a)=fH m fs f.next (18,a):=bi;rw [e0,fH];simp only
  split
  .simp_all
  .split
   .rename_i u hu
    have hv:zO m.qJ.length m.qO.length u:=by
     have hm:=sd hu;rw [bC] at hm
     cases hc:m.qO[f.next.zN.2.toNat]? with
     | none=>simp_all
     | some cl =>
      rw [hc] at hm;exact (h.cls cl (gM hc)).2 u hm
    refine .inr (.inr (.of ?_));have hp1:f.next.pop.stack.length=f.stack.length - 1:=by rw [pA];rfl
    refine h.re ho rfl (λw hw=>?_) ?_ ?_ qB
    .rcases jo.1 hw with e|e
     .exact h.top.sv w (pB e)
     simp_all
    .constructor<;>grind
    simp_all
   simp_all
 .simp at hok;have e0:jW p m fs f.next (19,a)={ m.top fs f.next.pop with out:=m.out++[shown f.next.zN] }:=bi;rw [e0];have hpf:yn p f=1+y4 l:=by grind[yn,y4]
  have hpn:yn p f.next.pop=y4 l:=by grind[yn,qN.next,qN.pop]
  have hpl:=(gS ho).1;have hp1:f.next.pop.stack.length=f.stack.length - 1:=by rw [pA];rfl
  refine .inr (.inr ⟨fs,f.next.pop,rfl,⟨h.cells,h.zJ,h.cls,h.qJ,h.low,⟨h.top.qD,h.top.fl,h.top.fv,h.top.cl,h.top.cr,h.top.nm,λu hu=>h.top.sv u (pB hu),?_,hpl,?_⟩,?_,?_,h.nk,h.nc,?_,h.tr,h.deep,λg hg=>?_⟩⟩)
  .grind[qN.pop,qN.next]
  .grind[qN.pop,qN.next]
  .grind[qU.top]
  .grind[qU.top]
  .grind[qU.top]
  .cases fs with
   | nil=>simp at hg;subst hg;exact h.b0 f qB
   | cons a l=>exact h.b0 g qL
 .simp at hok;have e0:jW p m fs f.next (20,a)=vr m fs f.next.zN:=bi;rw [e0];exact Jr h (h.top.sv _ (pM hok.1))
theorem Yx (hp:zq p) (hf:m.qW=fs++[f]) (h:yy p m fs f):pS p (cD p m):=by
 cases ho:(zm p f.qD)[f.pc]? with
 | some o =>
  rw [AL hf ho];exact UV hp h ho
 | none =>
  rw [step_end hf ho,iz]
  split
  .have:=h.nk;exact ON h h.top.nm qA
  .exact Jr h .zero
theorem CI (hp:zq p) {n:Nat} (hn:n<=150):∀ i,(jH p i (j7 p n)).ended\/lr p (jH p i (j7 p n))
 | 0=>by
  right;have hl:=hp.sh.len;obtain⟨k,hk⟩:∃ k,p[0]?=some k:=⟨_,gE qA⟩;have hk0:=(hp.sh.dS hk).2 rfl;have hka:zt p 0=0:=xC;have hc0:qh p 0=[]:=by grind[qh]
  have hf0:zK p 0=[]:=by grind[zK]
  have hr0:jF p 0=[]:=by
   rw [A8];intro x hx;exact absurd (BT hx) qc
  have hps:(zr p 0).params=[]:=by
   have:=hp.sh.head 0 k hk
   grind[zr]
  have hM:j7 p n=⟨[],j3,[],[],[⟨0,0,[],[],j3,[]⟩],1,1,[],[],0,n⟩:=by
   unfold j7 vP
   simp_all[uj]
  obtain⟨o1,o2⟩:=Kc (b:=0) hp.sh qA;simp only [jH,hM];have hpF:yn p ⟨0,0,[],[],j3,[]⟩=0:=by grind[yn]
  have hpS:lV p []=0:=rfl;refine⟨[],_,rfl,⟨qB,.none,qB,qB,qB,⟨qp,by simp [hf0],qB,qL,qB,.none,qB,qB,qB,qL⟩,?_,?_,?_,?_,?_,?_,?_,?_⟩⟩
  all_goals try simp only [hpF,hpS,gH]
  all_goals first|omega|simp
 | i+1=>by
  rw [pH];rcases CI hp hn i with h|h
  .simp_all
  .by_cases he:(jH p i (j7 p n)).ended
   .simp_all
   .rw [if_neg he];obtain⟨fs,f,h1,h2⟩:=h;rcases Yx hp h1 h2 with e|e|e
    .exact .inl (.inr e)
    .exact .inl (.inl e)
    simp_all
end
section
variable {p:qC} {m m':qU} {b n:Nat} {fs:List qN} {f g:qN} {o:Int×Int} {v:qR} {s:qu}
def mx (f:qN):Nat:=61 - f.pc
def lK (m:qU):Nat:=(151 - m.made) * 62+(m.qW.map mx).sum
def tG (m:qU) (fs:List qN) (pc:Nat) (m':qU):Prop:=(∃ g,m'.qW=fs++[g]/\g.pc=pc)/\m'.made=m.made/\m'.out.length<=m.out.length+1/\m'.trace.length<=m.trace.length+1/\m'.globals.length=m.globals.length
theorem RQ (h:g.pc=f.pc):tG m fs f.pc (m.top fs g):=⟨⟨g,rfl,h⟩,rfl,dy,dy,rfl⟩
theorem RP {e:Int} (h:g.pc=f.pc):tG m fs f.pc (m.stop fs g e):=⟨⟨g,rfl,h⟩,rfl,by simp [qU.stop,qU.top],by simp [qU.stop,qU.top],rfl⟩
theorem JP (h:g.pc=f.pc):tG m fs f.pc (yY m fs g o s):=by
 unfold yY
 repeat' split
 all_goals exact⟨⟨_,rfl,h⟩,rfl,dy,dy,dy⟩
theorem JO {cs:List Nat} {vs:List qR}:(∃ g,(vP p m b cs vs).qW=m.qW++[g])/\(vP p m b cs vs).made=m.made+1/\(vP p m b cs vs).out=m.out/\(vP p m b cs vs).trace=m.trace/\(vP p m b cs vs).globals=m.globals:=by
 unfold vP
 split<;>grind
def na (m m':qU):Prop:=lK m'<lK m/\m'.out.length<=m.out.length+1/\m'.trace.length<=m.trace.length+1/\m'.globals.length=m.globals.length
theorem Sq (hm:m.qW=fs++[f]) (hp:f.pc<61) (h:tG m fs (f.pc+1) m'):na m m':=by
 obtain⟨⟨g,h1,h2⟩,h3,h4⟩:=h;refine⟨?_,h4⟩
 grind[lK,mx]
theorem Js {cs:List Nat} {vs:List qR} (hm:m.qW=fs++[f]) (hp:f.pc<61) (hg:g.pc=f.pc+1) (hmd:m.made<=150):na m (vP p (m.top fs g) b cs vs):=by
 obtain⟨⟨x,h1⟩,h2,h3,h4,h5⟩:=JO (p:=p) (m:=m.top fs g) (b:=b) (cs:=cs) (vs:=vs);refine⟨?_,by rw [h3];exact Nat.le_succ _,by rw [h4];exact Nat.le_succ _,by rw [h5];rfl⟩;have h6:(m.top fs g).qW=fs++[g]:=rfl;have h7:(m.top fs g).made=m.made:=rfl
 grind[lK,mx]
theorem Jt (hm:m.qW=fs++[f]) (hp:f.pc<61) (hf:m'.made=m.made) (ho:m'.out=m.out) (ht:m'.trace=m.trace) (hg:m'.globals=m.globals):na m (vr m' fs v):=by
 unfold vr
 split
 .rename_i g hl
  have hs:((fs.dropLast++[g.push v]).map mx).sum=(fs.map mx).sum:=by
   have e:fs=fs.dropLast++[g]:=by
    have hne:fs≠[]:=λe=>qL
    grind[mH]
   grind[mx,qN.push]
  refine⟨?_,by simp [ho],by simp [ht],by simp [hg]⟩
  grind[lK,mx]
 .refine⟨?_,by simp [ho],by simp [ht],by simp [hg]⟩
  grind[lK,mx]
theorem Mg (hp:zq p) (hm:m.qW=fs++[f]) (hM:yy p m fs f):na m (cD p m):=by
 have hol:=xg (p:=p) (b:=f.qD) hp.sh;have hpc:=hM.top.pc;have h61:f.pc<61:=qA
 cases ho:(zm p f.qD)[f.pc]? with
 | none =>
  rw [Hm.step_end hm ho]
  grind[iz,Jt]
 | some o =>
  rw [Hm.AL hm ho];have hmd:=hM.made
  have hpend:o.1=16\/o.1=17->m.made<=150:=λh=>by
   have h2:1<=yn p f:=by
    unfold yn;rw [rp ho]
    grind[y4]
   omega
  have hG:∀ m',tG m fs f.next.pc m'->na m m':=λm' h=>Sq hm h61 h;have hT:∀ g:qN,g.pc=f.next.pc->na m (m.top fs g):=λg h=>hG _ (RQ h);have hS:∀ (g:qN) (e:Int),g.pc=f.next.pc->na m (m.stop fs g e):=λg e h=>hG _ (RP h);unfold jW
  split
  .unfold dB
   split
   .exact hS _ _ rfl
   .exact hG _ ⟨⟨_,rfl,rfl⟩,rfl,dy,qB,rfl⟩
  .split
   .split
    .unfold wc
     repeat' split
     all_goals first|exact hT _ rfl|exact hS _ _ rfl
    .split
     .exact hG _ (JP rfl)
     .unfold mb
      split
      .exact hG _ (JP rfl)
      .exact hS _ _ rfl
   .unfold ur
    split
    .exact hT _ rfl
    split
    .unfold iZ;dsimp only
     split
     .exact hS _ _ rfl
     .exact hT _ rfl
    split
    .exact hG _ ⟨⟨_,rfl,rfl⟩,rfl,dy,dy,rfl⟩
    split
    .grind[Js]
    split
    .unfold eE;dsimp only
     split
     .exact hS _ _ rfl
     .split
      .split
       .exact hS _ _ rfl
       grind[Js]
      .exact hS _ _ rfl
    split
    .unfold fH;dsimp only
     split
     .exact hS _ _ rfl
     .split
      .exact hT _ rfl
      .exact hS _ _ rfl
    split
    .exact hG _ ⟨⟨_,rfl,rfl⟩,rfl,qB,dy,rfl⟩
    grind[Jt]
theorem XO (hp:zq p) (hn:n<=150):∃ N,(jH p N (j7 p n)).ended:=by
 have key:∀ i,(jH p i (j7 p n)).ended\/lK (jH p i (j7 p n))+i<=lK (j7 p n):=by
  intro i
  induction i with
  | zero=>exact .inr (qX _)
  | succ i ih =>
   rcases ih with h|h
   .grind[pH]
   .by_cases he:(jH p i (j7 p n)).ended
    .grind[pH]
    .right;rw [pH,if_neg he];obtain⟨fs,f,h1,h2⟩:=(CI hp hn i).resolve_left he;have:=(Mg hp h1 h2).1;omega
 rcases key (lK (j7 p n)+1) with h|h<;>grind
theorem Lj (hp:zq p) (hn:n<=150):∀ i,(jH p i (j7 p n)).out.length<=151/\(jH p i (j7 p n)).trace.length<=151/\(jH p i (j7 p n)).globals.length=8
 | 0=>by
  grind[JO,uj,jH,j7]
 | i+1=>by
  have ih:=Lj hp hn i;by_cases he:(jH p i (j7 p n)).ended
  .grind[pH]
  .rw [pH,if_neg he];obtain⟨fs,f,h1,h2⟩:=(CI hp hn i).resolve_left he;obtain⟨_,h3,h4,h5⟩:=Mg hp h1 h2;have h6:=h2.out;have h7:=h2.tr;omega
end
end Go.Hm
end
section

end
section
namespace Go.Hm
open Go Go.RowKit
section
variable {p:qC} {m:qU} {b d n i j N M t:Nat} {fs:List qN} {f g:qN} {o:Int×Int} {v:qR} {k:qT} {x:Int}
open Classical in
noncomputable def uP (p:qC) (n:Nat):qU:=if h:∃ N,(jH p N (j7 p n)).ended then jH p (Classical.choose h) (j7 p n) else j7 p n
theorem sZ (h:(jH p i (j7 p n)).ended):jH p i (j7 p n)=uP p n:=by
 have hE:∃ N,(jH p N (j7 p n)).ended:=⟨i,h⟩
 grind[uP,Lg]
theorem LZ (hp:zq p) (hn:n<=150):∃ N,(∀ i,i<N->¬ (jH p i (j7 p n)).ended)/\(jH p N (j7 p n)).ended/\jH p N (j7 p n)=uP p n:=by
 obtain⟨N,hN⟩:=XO (n:=n) hp hn
 have key:∀ N,(jH p N (j7 p n)).ended->∃ M,(∀ i,i<M->¬ (jH p i (j7 p n)).ended)/\(jH p M (j7 p n)).ended:=by
  intro N
  induction N<;>grind[Lg]
 grind[sZ]
theorem W0 (hp:zq p) (hn:n<=150):(uP p n).ended/\pR p (vt p n) (uP p n):=by
 grind[Pj,sZ]
theorem WZ (hp:zq p) (hn:n<=150):(uP p n).out.length<=151/\(uP p n).trace.length<=151/\(uP p n).globals.length=8:=by
 grind[LZ,Lj]
end
end Go.Hm
end
section

end
section

end
section
namespace Go.Hm
open Go Go.RowKit
def yG (S:Nm->Bool) (H:Nm->Option AO):Nm->Option AO:=λn=>if S n=true then none else H n
section
variable {own:Nat->Prop} {C C':Nat->Prop} {w w':World} {g g':Gh} {D:Nm->Bool} {root:Nm} {H H':Nm->Option AO}
def BK (S:Nm->Bool) (C:Nat->Prop) (g:Gh) (H:Nm->Option AO) (b:Nat):Prop:=C b\/∃ n o,S n=true/\H n=some o/\g.φ n=some b
theorem cK.settle (h:cK own C w g D root H H' C' g' w') (S:Nm->Bool) (hw:∀ n,H n≠none->D n=true):cK own C w g D root H (yG S H') (BK S C' g' H') (g'.more (BK S C' g' H')) w':=by
 have hC:∀ b,g'.C b->BK S C' g' H' b:=λb hb=>.inl (h.inv.hC ▸ hb)
 have old:∀ n o,yG S H' n=some o->H' n=some o/\S n≠true:=by
  grind[yG]
 refine⟨λb hb=>.inl (h.mono b hb),?_,⟨h.inv.os,h.inv.tape,h.inv.output,h.inv.size,h.inv.a8,rfl,?_,?_,?_,?_⟩,?_,h.same,h.G6⟩
 .rintro b (hb|⟨n,o,_,ho,hk⟩)
  .exact h.new b hb
  .exact .inr (h.inv.qD n o b ho hk).2.1
 .rintro b (hb|⟨n,o,_,ho,hk⟩)
  .exact h.inv.u0 b hb
  .exact (h.inv.qD n o b ho hk).2.2
 .intro n o e;have:=(h.inv.obj n o (old n o e).1).tr (g':=g'.more (BK S C' g' H')) (w':=w') (n':=n) (f:=some) hC (λ_ _=>rfl) (λk k' e=>by obtain rfl:=sI e;exact⟨rfl,rfl⟩) rfl (λ_ _=>rfl)
  grind[AO.ud]
 .intro n o b e hk;obtain⟨e1,e2⟩:=old n o e;obtain⟨x1,x2,x3⟩:=h.inv.qD n o b e1 hk;refine⟨?_,x2,x3⟩;rintro (hb|⟨n',o',hs,ho',hk'⟩)
  .exact x1 hb
  .exact e2 (h.inv.inj n' n o' o b ho' e1 hk' hk ▸ hs)
 .intro n n' o o' b e e' hk hk';exact h.inv.inj n n' o o' b (old n o e).1 (old n' o' e').1 hk hk'
 .intro n hn;refine h.QC n λe=>hn ?_
  grind[yG]
end
section
variable {P:Program} {gl:Nat->Option (List AV)} {f:FuncId} {D:Nm->Bool} {az:List AV} {H:Nm->Option AO} {R R':Nm->AV->(Nm->Option AO)->Prop}
theorem qV.settle (S:Nm->Nm->Bool) (h:qV P gl f D az H R qy) (hR:∀ r y H',R r y H'->∃ y',Bw H' (λn=>!S r n) y y'/\R' r y' (yG (S r) H')):qV P gl f D az H R' qy:=by
 refine⟨h.1,λroot C w g args h1 h2 h3 h4 h5 h6 h7=>?_⟩;refine (h.2 root C w g args h1 h2 h3 h4 h5 h6 h7).mono λe w' he=>?_
 cases e with
 | returned v =>
  obtain⟨C',g',H',x,hA,hv,hr⟩:=he;obtain⟨y',hb,hr'⟩:=hR _ _ _ hr;refine⟨_,_,_,y',hA.settle (S root) h3,?_,hr'⟩;exact RV.bw hA.inv (λb hb=>.inl hb) (λn o b hS ho hk=>.inr ⟨n,o,qL,ho,hk⟩) hb hv
 | panicked ch =>
  omega
 | outgrown=>omega
theorem qM.settle (h:qM P gl f az R) {S:AV->Prop} (hR:∀ r y H',R r y H'->∃ y',Bw H' zf y y'/\S y'):qM P gl f az (λ_ y _=>S y) :=
 qV.settle (λ_ _=>true) h λr y H' hr=>by
  obtain⟨y',h1,h2⟩:=hR r y H' hr;exact⟨y',h1,h2⟩
end
abbrev Xn:Nm:=.u 1 0 0
section
variable {p:qC} {m M:qU} {b d n i j N t:Nat} {fs:List qN} {f g:qN} {o:Int×Int} {v:qR} {k:qT} {x:Int}
def Tt (p:qC):Nat->qU->Nat->Nat
 | 0,_,d=>d
 | i+1,m,d=>if m.ended then d else Tt p i (cD p m) (max d m.qW.length)
theorem XH:∀ (i:Nat) {m:qU},¬ (jH p i m).ended->jH p (i+1) m=cD p (jH p i m)
 := by intro x0;induction x0<;>grind[jH]
end
def ql (l:List AV) (off:Nat) (vals:List AV):List AV:=l.take off++vals++l.drop (off+vals.length)
section
variable {P X S vals l:List AV} {k off j i n z:Nat} {c c':Nat->List AV}
theorem Yj (h:off+vals.length<=l.length):(ql l off vals).length=l.length:=by grind[ql]
theorem sq (hk:k+vals.length<=X.length):ql (P++(X++S)) (P.length+k) vals=P++(ql X k vals++S):=by
 unfold ql;rw [pZ,List.drop_append,pZ,List.drop_append,yU (Nat.le_add_right _ _)];have e1:P.length+k - P.length=k:=qA;have e2:P.length+k+vals.length - P.length=k+vals.length:=qA;have e3:k - X.length=0:=qA
 simp_all<;>omega
theorem Yh (hk:k+vals.length<=X.length):ql (X++S) k vals=ql X k vals++S:=by
 grind[ql]
theorem Yi (hk:k+vals.length<=X.length):ql (P++X) (P.length+k) vals=P++ql X k vals:=by
 have:=sq (P:=P) (S:=[]) hk
 simp_all
theorem RL (hk:k<X.length):(P++(X++S))[P.length+k]?=X[k]?:=by
 grind
theorem EJ (hk:k+n<=X.length):((P++(X++S)).drop (P.length+k)).take n=(X.drop k).take n:=by
 simp_all<;>grind
def yk (c:Nat->List AV) (n:Nat):List AV:=(List.range n).flatMap c
theorem oV:yk c (n+1)=yk c n++c n:=by simp [yk,tM]
theorem mY (hc:∀ i,(c i).length=z):(yk c n).length=z * n:=by
 induction n<;>grind[yk,oV]
theorem IL (h:∀ i,i<n->c' i=c i):yk c' n=yk c n:=by
 induction n with
 | zero=>rfl
 | succ n ih=>grind[oV]
theorem IQ (hi:i<n):∃ S,yk c n=yk c i++(c i++S):=by
 induction n with
 | zero=>omega
 | succ n ih =>
  rw [oV];by_cases e:i=n
  .simp_all
  grind
theorem IN (hc:∀ i,(c i).length=z) (hi:i<n) (hj:j<z):(yk c n)[z * i+j]?=(c i)[j]?:=by
 obtain⟨S,hS⟩:=IQ (c:=c) hi
 grind[mY]
theorem IM (hc:∀ i,(c i).length=z) (hi:i<n) (hj:j+k<=z):((yk c n).drop (z * i+j)).take k=((c i).drop j).take k:=by
 obtain⟨S,hS⟩:=IQ (c:=c) hi
 grind[mY,EJ]
theorem IP (hc:∀ i,(c i).length=z) (hi:i<n) (hj:j+vals.length<=z) (h:∀ k,k≠i->c' k=c k) (hx:ql (c i) j vals=c' i):ql (yk c n) (z * i+j) vals=yk c' n:=by
 induction n with
 | zero=>omega
 | succ n ih =>
  rw [oV,oV];by_cases e:i=n
  .grind[mY,Yi,IL]
  .rw [Yh,ih qA,h n (λe'=>e e'.symm)];rw [mY hc];have:z * (i+1)<=z * n:=Nat.mul_le_mul_left z qA
   grind
theorem BI {f:Nm->Option Nm} (h:∀ i,i<n->(c i).map (AV.tr f)=c' i):(yk c n).map (AV.tr f)=yk c' n:=by
 induction n with
 | zero=>rfl
 | succ n ih=>grind[oV]
end
def jN (l:List qu):List AV:=yk (λi=>j6 (zn l i)) 8
section
variable {l:List qu} {i j:Nat} {s:qu} {f:Nm->Option Nm}
@[simp] theorem Iu:(jN l).length=24:=mY (z:=3) λ_=>AG
@[simp] theorem BQ:(jN l).map (AV.tr f)=jN l:=BI λ_ _=>YZ
theorem It (hi:i<8) (hj:j<3):(jN l)[3 * i+j]?=(j6 (zn l i))[j]?:=IN (λ_=>AG) hi hj
theorem Is (hi:i<8):((jN l).drop (3 * i)).take 3=j6 (zn l i):=by
 have:=IM (c:=λi=>j6 (zn l i)) (j:=0) (k:=3) (λ_=>AG) hi qA
 grind[jN,AG]
theorem Iv (hl:l.length=8) (hi:i<8):ql (jN l) (3 * i) (j6 s)=jN (l.set i s):=by
 have:=IP (c:=λi=>j6 (zn l i)) (c':=λk=>j6 (zn (l.set i s) k)) (n:=8) (i:=i) (j:=0) (vals:=j6 s) (z:=3) (λ_=>AG) hi qB (λk hk=>by
  grind[se]) (by
  simp_all[zn,ql])
 grind[jN]
end
abbrev Yn:Nm:=.u 1 0 0
def yA (p:qC) (m:qU):List AV:=[bL (yl p p.length),.hs (.c Yn 0 1) 1 0 p.length,iv m.left,iv m.en,.hs (.c Yn 0 4) 1 0 m.out.length,.hs (.c Yn 0 5) 2 0 m.trace.length]
def yB (m:qU):List AV:=[.hs (.c Yn 0 30) 2 0 m.qJ.length,.hs (.c Yn 0 31) 24 0 m.qO.length]
def yZ (m:qU) (h:Nat):List AV:=[iv h,iv m.deep,iv m.made,iv m.cells.length]
def qe (p:qC) (m:qU) (h:Nat) (c:Nat->List AV):List AV:=yA p m++(jN m.globals++(yB m++(yk c 151++yZ m h)))
def yR (i:Nat) (f:qN):List AV:=[iv f.qD,iv f.pc,.hs (.c Yn 0 (32+29 * i+2)) 3 0 f.qw.length,.hs (.c Yn 0 (32+29 * i+3)) 1 0 f.cells.length]++(jN f.names++[.hs (.c Yn 0 (32+29 * i+28)) 2 0 f.stack.length])
def yc (fs:List qN) (J:Nat->List AV) (i:Nat):List AV:=match fs[i]? with|some f=>yR i f|none=>J i
section
variable {p:qC} {m:qU} {h h' i j k x:Nat} {c c' J:Nat->List AV} {fs:List qN} {f g:qN} {s:qu} {vals:List AV} {e:Int} {r:Nm->Option Nm}
@[simp] theorem yfr_len:(yR i f).length=29:=by simp [yR]
theorem cJ (hJ:∀ i,(J i).length=29) (i:Nat):(yc fs J i).length=29:=by
 unfold yc
 split<;>simp_all
theorem nW (hc:∀ i,(c i).length=29):(qe p m h c).length=4415:=by simp [qe,yA,yB,yZ,mY hc]
@[simp] theorem N0:(qe p m h c)[0]?=some (bL (yl p p.length)):=rfl
@[simp] theorem qA9:(qe p m h c)[1]?=some (.hs (.c Yn 0 1) 1 0 p.length):=rfl
@[simp] theorem N1:(qe p m h c)[2]?=some (iv m.left):=rfl
@[simp] theorem N2:(qe p m h c)[3]?=some (iv m.en):=rfl
@[simp] theorem N3:(qe p m h c)[4]?=some (.hs (.c Yn 0 4) 1 0 m.out.length):=rfl
@[simp] theorem qAf:(qe p m h c)[5]?=some (.hs (.c Yn 0 5) 2 0 m.trace.length):=rfl
theorem nX {P X S:List AV} {q:Nat} (hq:q=P.length+k) (hk:k<X.length) (hR:qe p m h c=P++(X++S)):(qe p m h c)[q]?=X[k]?:=qp
theorem NZ {P X S:List AV} {q n:Nat} (hq:q=P.length+k) (hk:k+n<=X.length) (hR:qe p m h c=P++(X++S)):((qe p m h c).drop q).take n=(X.drop k).take n:=by grind[EJ]
theorem nY {P X S:List AV} {q:Nat} (hq:q=P.length+k) (hk:k+vals.length<=X.length) (hR:qe p m h c=P++(X++S)):ql (qe p m h c) q vals=P++(ql X k vals++S):=by grind[sq]
theorem Gk:qe p m h c=yA p m++(jN m.globals++(yB m++(yk c 151++yZ m h))):=rfl
theorem nV:qe p m h c=(yA p m++jN m.globals)++(yB m++(yk c 151++yZ m h)):=by simp [qe]
theorem Ce:qe p m h c=(yA p m++(jN m.globals++yB m))++(yk c 151++yZ m h):=by simp [qe]
theorem ee:qe p m h c=(yA p m++(jN m.globals++(yB m++yk c 151)))++(yZ m h++[]):=by simp [qe]
theorem E9:(yA p m).length=6:=rfl
theorem Bh:(yA p m++jN m.globals).length=30:=by simp [yA]
theorem Ea:(yA p m++(jN m.globals++yB m)).length=32:=by simp [yA,yB]
theorem So (hc:∀ i,(c i).length=29):(yA p m++(jN m.globals++(yB m++yk c 151))).length=4411:=by simp [yA,yB,mY hc]
@[simp] theorem qAa:(qe p m h c)[30]?=some (.hs (.c Yn 0 30) 2 0 m.qJ.length):=by rw [nX (k:=0) (by rw [Bh]) (by simp [yB]) nV];rfl
@[simp] theorem qAb:(qe p m h c)[31]?=some (.hs (.c Yn 0 31) 24 0 m.qO.length):=by rw [nX (k:=1) (by rw [Bh]) (by simp [yB]) nV];rfl
theorem Cf (hc:∀ i,(c i).length=29):(qe p m h c)[4411]?=some (iv h):=by rw [nX (k:=0) mW mT ee];rfl
theorem qAc (hc:∀ i,(c i).length=29):(qe p m h c)[4412]?=some (iv m.deep):=by rw [nX (k:=1) mW mT ee];rfl
theorem qAd (hc:∀ i,(c i).length=29):(qe p m h c)[4413]?=some (iv m.made):=by rw [nX (k:=2) mW mT ee];rfl
theorem qAe (hc:∀ i,(c i).length=29):(qe p m h c)[4414]?=some (iv m.cells.length):=by rw [nX (k:=3) mW mT ee];rfl
theorem qAg (hx:x<8) (hj:j<3):(qe p m h c)[6+(3 * x+j)]?=(j6 (zn m.globals x))[j]?:=by
 rw [nX (k:=3 * x+j) (by rw [E9]) qn Gk];exact It hx hj
theorem qAv:((qe p m h c).drop 6).take 24=jN m.globals:=by
 rw [NZ (k:=0) (n:=24) (by rw [E9]) qB Gk]
 simp_all[yU]
theorem qA7 (hc:∀ i,(c i).length=29) (hi:i<151) (hj:j<29):(qe p m h c)[32+(29 * i+j)]?=(c i)[j]?:=by
 rw [nX (k:=29 * i+j) (by rw [Ea]) DS Ce]
 simp_all[IN]
theorem qA8 (hc:∀ i,(c i).length=29) (hi:i<151) (hj:j+k<=29):((qe p m h c).drop (32+(29 * i+j))).take k=((c i).drop j).take k:=by
 rw [NZ (k:=29 * i+j) (n:=k) (by rw [Ea]) DS Ce]
 simp_all[IM]
theorem qAl:ql (qe p m h c) 2 [iv x]=qe p { m with left:=x } h c:=rfl
theorem qAm:ql (qe p m h c) 3 [iv e]=qe p { m with en:=e } h c:=rfl
theorem qAp {o:List Int}:ql (qe p m h c) 4 [.hs (.c Yn 0 4) 1 0 o.length]=qe p { m with out:=o } h c:=rfl
theorem qAq {o:List (Nat×Nat)}:ql (qe p m h c) 5 [.hs (.c Yn 0 5) 2 0 o.length]=qe p { m with trace:=o } h c:=rfl
theorem qAn {o:List (Nat×List Nat)}:ql (qe p m h c) 30 [.hs (.c Yn 0 30) 2 0 o.length]=qe p { m with qJ:=o } h c:=by
 rw [nY (k:=0) (by rw [Bh]) (by simp [yB]) nV,nV]
 rfl
theorem qAo {o:List (List qu)}:ql (qe p m h c) 31 [.hs (.c Yn 0 31) 24 0 o.length]=qe p { m with qO:=o } h c:=by
 rw [nY (k:=1) (by rw [Bh]) (by simp [yB]) nV,nV]
 rfl
theorem N5 (hc:∀ i,(c i).length=29):ql (qe p m h c) 4411 [iv h']=qe p m h' c:=by
 rw [nY (k:=0) mW mT ee,ee]
 rfl
theorem qAs (hc:∀ i,(c i).length=29):ql (qe p m h c) 4412 [iv x]=qe p { m with deep:=x } h c:=by
 rw [nY (k:=1) mW mT ee,ee]
 rfl
theorem qAu (hc:∀ i,(c i).length=29):ql (qe p m h c) 4413 [iv x]=qe p { m with made:=x } h c:=by
 rw [nY (k:=2) mW mT ee,ee]
 rfl
theorem qAr (hc:∀ i,(c i).length=29) {o:List qu}:ql (qe p m h c) 4414 [iv o.length]=qe p { m with cells:=o } h c:=by
 rw [nY (k:=3) mW mT ee,ee]
 rfl
theorem qAt (hl:m.globals.length=8) (hx:x<8):ql (qe p m h c) (6+3 * x) (j6 s)=qe p { m with globals:=m.globals.set x s } h c:=by
 rw [nY (k:=3 * x) (by rw [E9]) qn Gk,Iv hl hx]
 rfl
theorem Cg (hc:∀ i,(c i).length=29) (hi:i<151) (hj:j+vals.length<=29) (hk:∀ k,k≠i->c' k=c k) (hx:ql (c i) j vals=c' i):ql (qe p m h c) (32+(29 * i+j)) vals=qe p m h c':=by
 rw [nY (k:=29 * i+j) (by rw [Ea]) DS Ce,IP hc hi hj hk hx,Ce]
theorem qAx (hi:i<fs.length) (hk:k≠i):yc (fs.set i g) J k=yc fs J k:=by
 grind[yc]
theorem tC (hi:fs[i]?=some f):yc fs J i=yR i f:=by simp [yc,hi]
theorem Ch (hJ:∀ i,(J i).length=29) (hf:fs[i]?=some f) (hi:i<151) (hj:j+vals.length<=29) (hx:ql (yR i f) j vals=yR i g):ql (qe p m h (yc fs J)) (32+(29 * i+j)) vals=qe p m h (yc (fs.set i g) J):=by
 grind[Cg,cJ,qAx,tC]
end
def u6 (l:List (Nat×List Nat)):List (List AV):=l.map λg=>[iv g.1,.sl 1 (zV g.2)]
def ki (l:List (List qu)):List (List AV):=l.map jN
def ui (p:qC) (n:Nat):List (List AV):=(List.range n).map λb=>[vJ (jr p b)]
section
variable {l:List (Nat×List Nat)} {cs:List (List qu)} {i n:Nat} {r:Nm->Option Nm} {g:Nat×List Nat} {c:List qu} {p:qC}
@[simp] theorem fyRows_len:(u6 l).length=l.length:=by simp [u6]
@[simp] theorem fyRows_getE {h:i<(u6 l).length}:(u6 l)[i]=[iv (l[i]' tp).1,.sl 1 (zV (l[i]' tp).2)]:=by simp [u6]
@[simp] theorem RE (h:∀ i,r (En i)=some (En i)):(u6 l).map (λy=>y.map (AV.tr r))=u6 l:=by
 simp only [u6,ie];apply fE;intro g _;have:(zV g.2).map (λy=>y.map (AV.tr r))=zV g.2:=rq h;simp [AV.tr,C5,this]
@[simp] theorem fyRows_take {k:Nat}:(u6 l).take k=u6 (l.take k):=by simp [u6]
theorem RD:u6 l++[[iv g.1,.sl 1 (zV g.2)]]=u6 (l++[g]):=by simp [u6]
@[simp] theorem fyRows_nil:u6 []=[]:=rfl
@[simp] theorem cyRows_len:(ki cs).length=cs.length:=tT
@[simp] theorem cyRows_getE {h:i<(ki cs).length}:(ki cs)[i]=jN (cs[i]' tp):=tT
@[simp] theorem cyRows_tr:(ki cs).map (λy=>y.map (AV.tr r))=ki cs:=tT
@[simp] theorem cyRows_take {k:Nat}:(ki cs).take k=ki (cs.take k):=tT
theorem Pv:ki cs++[jN c]=ki (cs++[c]):=tT
@[simp] theorem cyRows_nil:ki []=[]:=rfl
@[simp] theorem cpRows_len:(ui p n).length=n:=by simp [ui]
@[simp] theorem cpRows_getE {h:i<(ui p n).length}:(ui p n)[i]=[vJ (jr p i)]:=by simp [ui]
@[simp] theorem cpRows_tr:(ui p n).map (λy=>y.map (AV.tr r))=ui p n:=by simp [ui]
theorem Pq:ui p n++[[vJ (jr p n)]]=ui p (n+1):=by simp [ui,tM]
@[simp] theorem cpRows_zero:ui p 0=[]:=rfl
end
section
variable {i n k:Nat} {f:qN} {r:Nm->Option Nm} {p:qC} {m:qU} {h:Nat} {c:Nat->List AV}
theorem qBF:ql (yR i f) 1 [iv n]=yR i { f with pc:=n }:=rfl
theorem qBG {l:List qR}:ql (yR i f) 28 [.hs (.c Yn 0 (32+29 * i+28)) 2 0 l.length]=yR i { f with stack:=l }:=by
 have h1:(yR i f).take 28=[iv f.qD,iv f.pc,.hs (.c Yn 0 (32+29 * i+2)) 3 0 f.qw.length,.hs (.c Yn 0 (32+29 * i+3)) 1 0 f.cells.length]++jN f.names:=by
  grind[yR,Iu]
 simp_all[yR,ql]
theorem qBE {x:Nat} {s:qu} (hl:f.names.length=8) (hx:x<8):ql (yR i f) (4+3 * x) (j6 s)=yR i { f with names:=f.names.set x s }:=by
 have h4:∀ a b d e:AV,[a,b,d,e].length=4:=λ_ _ _ _=>rfl;have:=sq (P:=[iv f.qD,iv f.pc,.hs (.c Yn 0 (32+29 * i+2)) 3 0 f.qw.length,.hs (.c Yn 0 (32+29 * i+3)) 1 0 f.cells.length]) (X:=jN f.names) (S:=[.hs (.c Yn 0 (32+29 * i+28)) 2 0 f.stack.length]) (k:=3 * x) (vals:=j6 s) qn;rw [h4,Iv hl hx] at this;exact this
@[simp] theorem yfr_get0:(yR i f)[0]?=some (iv f.qD):=rfl
@[simp] theorem yfr_get1:(yR i f)[1]?=some (iv f.pc):=rfl
@[simp] theorem yfr_get2:(yR i f)[2]?=some (.hs (.c Yn 0 (32+29 * i+2)) 3 0 f.qw.length):=rfl
@[simp] theorem yfr_get3:(yR i f)[3]?=some (.hs (.c Yn 0 (32+29 * i+3)) 1 0 f.cells.length):=rfl
@[simp] theorem qBC:(yR i f)[28]?=some (.hs (.c Yn 0 (32+29 * i+28)) 2 0 f.stack.length):=by
 simp_all[yR]
theorem qBD {x j:Nat} (hx:x<8) (hj:j<3):(yR i f)[4+(3 * x+j)]?=(j6 (zn f.names x))[j]?:=by
 have:=RL (P:=[iv f.qD,iv f.pc,.hs (.c Yn 0 (32+29 * i+2)) 3 0 f.qw.length,.hs (.c Yn 0 (32+29 * i+3)) 1 0 f.cells.length]) (X:=jN f.names) (S:=[.hs (.c Yn 0 (32+29 * i+28)) 2 0 f.stack.length]) (k:=3 * x+j) qn;rw [It hx hj] at this;exact this
theorem qBH:((yR i f).drop 4).take 24=jN f.names:=by
 have:=EJ (P:=[iv f.qD,iv f.pc,.hs (.c Yn 0 (32+29 * i+2)) 3 0 f.qw.length,.hs (.c Yn 0 (32+29 * i+3)) 1 0 f.cells.length]) (X:=jN f.names) (S:=[.hs (.c Yn 0 (32+29 * i+28)) 2 0 f.stack.length]) (k:=0) (n:=24) qB;rw [List.drop_zero] at this;exact this.trans (yU qB)
theorem qBB (hr:∀ j,r (.c Yn 0 j)=some (.c Yn 0 j)):(yR i f).map (AV.tr r)=yR i f:=by simp [yR,hr]
end
structure qE (hp:Nm->Option AO) (p:qC) (m:qU):Prop where
 top:∃ J:Nat->List AV,(∀ i,(J i).length=29)/\hp Yn=some (.row 4415 [qe p m m.qW.length (yc m.qW J)])
 aK:hp (.c Yn 0 1)=some (.row 1 (ui p p.length))
 out:hp (.c Yn 0 4)=some (.row 1 (qm m.out))
 yH:hp (.c Yn 0 5)=some (.row 2 (vf m.trace))
 qJ:hp (.c Yn 0 30)=some (.row 2 (u6 m.qJ))
 jk:hp (.c Yn 0 31)=some (.row 24 (ki m.qO))
 qw:∀ (i:Nat) f,m.qW[i]?=some f->hp (.c Yn 0 (32+29 * i+2))=some (.row 3 (j4 f.qw))
 cls:∀ (i:Nat) f,m.qW[i]?=some f->hp (.c Yn 0 (32+29 * i+3))=some (.row 1 (zV f.cells))
 stack:∀ (i:Nat) f,m.qW[i]?=some f->∃ j,hp (.c Yn 0 (32+29 * i+28))=some (.row 2 (jZ (f.stack++j)))
 cell:∀ (c:Nat) s,m.cells[c]?=some s->hp (En c)=some (.row 3 [j6 s])
 only:∀ k i j,fM k=true->hp (.u k i j)≠none->(k=1/\i=0/\j=0)\/(k=7/\i<m.cells.length/\j=0)
section
variable {hp hp' H:Nm->Option AO} {p:qC} {m m' m0:qU}
theorem qE.re (h:qE hp p m)
  (h0:∀ J:Nat->List AV,(∀ i,(J i).length=29)->hp Yn=some (.row 4415 [qe p m m.qW.length (yc m.qW J)])->hp' Yn=some (.row 4415 [qe p m m.qW.length (yc m.qW J)]):=by intro J _ hJ;simp [hJ])
  (h1:hp' (.c Yn 0 1)=some (.row 1 (ui p p.length)):=by simp [h.aK])
  (h2:hp' (.c Yn 0 4)=some (.row 1 (qm m.out)):=by simp [h.out])
  (h3:hp' (.c Yn 0 5)=some (.row 2 (vf m.trace)):=by simp [h.yH])
  (h4:hp' (.c Yn 0 30)=some (.row 2 (u6 m.qJ)):=by simp [h.qJ])
  (h5:hp' (.c Yn 0 31)=some (.row 24 (ki m.qO)):=by simp [h.jk])
  (h6:∀ (i:Nat) f,m.qW[i]?=some f->hp (.c Yn 0 (32+29 * i+2))=some (.row 3 (j4 f.qw))->hp' (.c Yn 0 (32+29 * i+2))=some (.row 3 (j4 f.qw)):=by intro i f _ hf;simp [hf])
  (h7:∀ (i:Nat) f,m.qW[i]?=some f->hp (.c Yn 0 (32+29 * i+3))=some (.row 1 (zV f.cells))->hp' (.c Yn 0 (32+29 * i+3))=some (.row 1 (zV f.cells)):=by intro i f _ hf;simp [hf])
  (h8:∀ (i:Nat) f j,m.qW[i]?=some f->hp (.c Yn 0 (32+29 * i+28))=some (.row 2 (jZ (f.stack++j)))->hp' (.c Yn 0 (32+29 * i+28))=some (.row 2 (jZ (f.stack++j))):=by intro i f j _ hf;simp [hf])
  (h9:∀ (c:Nat) s,m.cells[c]?=some s->hp' (En c)=some (.row 3 [j6 s]):=by intro c s hc;simp [h.cell c s hc])
  (hA:∀ k i j,fM k=true->¬ (k=1/\i=0/\j=0)->hp' (.u k i j)≠none->hp (.u k i j)≠none:=by intro k i j hk e hn;simpa [hk,e] using hn):qE hp' p m :=
 ⟨by grind[top],h1,h2,h3,h4,h5,λi f hf=>h6 i f hf (h.qw i f hf),λi f hf=>h7 i f hf (h.cls i f hf),λi f hf=>(h.stack i f hf).imp λj hj=>h8 i f j hf hj,h9,
   λk i j hk hn=>if e:k=1/\i=0/\j=0 then .inl e else h.only k i j hk (hA k i j hk e hn)⟩
theorem qE.qz (h:qE hp p m) {f:Nm->Option Nm} (hf:∀ k,DM k=true->f k=some k) (hh:∀ k,DM k=true->hp' k=(hp k).map (AO.tr f)):qE hp' p m:=by
 have hE:∀ i,f (En i)=some (En i):=λi=>hf _ rfl;have hc:∀ j,f (.c Yn 0 j)=some (.c Yn 0 j):=λj=>hf _ rfl;refine⟨?_,?_,?_,?_,?_,?_,λi g hg=>?_,λi g hg=>?_,λi g hg=>(h.stack i g hg).imp λj hj=>?_,λc s hs=>?_,λk i j hk hn=>?_⟩
 .obtain⟨J,hJ,e⟩:=h.top;refine⟨λi=>(J i).map (AV.tr f),λi=>fN,?_⟩;rw [hh _ rfl,e]
  have h1:(yk (yc m.qW J) 151).map (AV.tr f)=yk (yc m.qW λi=>(J i).map (AV.tr f)) 151:=BI λi _=>by
   unfold yc
   split<;>grind[qBB]
  simp_all[qe,yA,yB,yZ]
 .rw [hh _ rfl,h.aK];simp
 .rw [hh _ rfl,h.out];simp
 .rw [hh _ rfl,h.yH];simp
 .rw [hh _ rfl,h.qJ]
  simp_all
 .rw [hh _ rfl,h.jk];simp
 .rw [hh _ rfl,h.qw i g hg];simp
 .rw [hh _ rfl,h.cls i g hg]
  simp_all
 .rw [hh _ rfl,hj];simp
 .rw [hh _ rfl,h.cell c s hs];simp
 .refine h.only k i j hk λe=>hn ?_
  simp_all
theorem qE.sub (h:qE hp p m) {D:Nm->Bool} (hD:∀ k,DM k=true->D k=true:=by intro m hm;first|exact hm|simp [hm]):qE (ze D hp) p m:=by
 refine h.qz (f:=some) (λ_ _=>rfl) (λk hk=>?_);rw [xL,if_pos (hD k hk)]
 cases hp k<;>grind[AO.ud]
theorem qE.ext (h0:qE H p m0) (h:qE hp p m) (hc:m0.cells.length<=m.cells.length):∀ k i j,(H (.u k i j)).isSome=true->DM (.u k i j)=false\/(ze DM hp) (.u k i j)≠none:=by
 intro k i j hs
 cases hD:fM k with
 | false=>simp_all
 | true =>
  right;have hd:DM (.u k i j)=true:=hD;rw [xL,if_pos hd];rcases h0.only k i j hD qp with⟨rfl,rfl,rfl⟩|⟨rfl,hi,rfl⟩
  .grind[top]
  .have hi':i<m.cells.length:=qA;rw [h.cell i _ (gE hi')];simp
end
section
variable {hp:Nm->Option AO} {p:qC} {m:qU} {n:Nm} {dp:Nat} {D:Nm->Bool} {sbs:List (Nm×Nm)}
theorem qE.fin (h:qE hp p m) (hD:∀ k,D k=true->k.zo=false:=by exact λ_=>qv) (hW:∀ k,DM k=true->D k=true:=by exact λ_ h=>h) (hs:∀ q∈sbs,q.1.zo=true:=by simp [Nm.zo]):qE (vd D sbs hp) p m :=
 h.qz (f:=zE D sbs) (λk hk=>md hD (hW k hk) hs) (λk hk=>qL)
end
end Go.Hm
end
