/-
  Own texts, joined by mkclaim.py: Hm113, Hm192, Hm114, Hm115, Hm117, Hm118, Hm119.
-/
import Derived.Test.YtbgmnmnoaamgkaaGreatDoorD13
import Derived.Test.YtbgmnmnoaamgkaaGreatDoorD10
set_option linter.unusedSimpArgs false
set_option linter.unusedVariables false
set_option maxRecDepth 100000
set_option maxHeartbeats 4000000

section
namespace Go.Hm
open Go Go.RowKit
section
variable {p:Prg} {m:Mch} {b e:Nat} {fs:List Frm} {f g:Frm} {o:Int×Int} {v:Val} {k:Blk} {x:Int} {l:List (Int×Int)}
def qDq (p:Prg) (m:Mch):Prop:=m.en≠0∨m.frames=[]∨qPa p m
theorem qHB {l:List Frm} {a:Frm}:qE8 p (l++[a])=qE8 p l+jk p a:=by simp [qE8]
theorem qIa (h:MOk p m fs f) (hv:VOk m.funs.length m.classes.length v):qDq p (zD m fs v):=by
 unfold zD
 cases hl:fs.getLast? with
 | none=>exact .inr (.inl rfl)
 | some g =>
  obtain⟨gs,rfl⟩:∃ gs,fs=gs++[g]:=by
   obtain⟨ys,hy⟩:=List.getLast?_eq_some_iff.1 hl
   exact⟨ys,hy⟩
  have hg:=h.low g (by simp)
  have h1:=h.made
  have h2:=h.nf
  have h3:=h.out
  have h4:=h.nk
  have h5:=h.deep
  rw [qHB] at h1 h2 h3
  have hp1:jk p (g.push v)=jk p g:=rfl
  simp only [List.length_append,List.length_singleton] at h4 h5
  refine .inr (.inr ⟨gs,g.push v,by simp,⟨h.cells,h.glob,h.cls,h.funs,fun q hq=>h.low q (by simp [hq]),⟨hg.blk,hg.fl,hg.fv,hg.cl,hg.cr,hg.nm,fun u hu=>?_,?_,hg.pc,?_⟩,by rw [hp1];simp only;omega,by rw [hp1];simp only;omega,by simp only;omega,h.nc,by rw [hp1];simp only;omega,h.tr,by simp only;omega,fun q hq=>?_⟩⟩)
  ·rcases List.mem_append.1 hu with e|e
   ·exact hg.sv u e
   ·simp only [List.mem_singleton] at e;subst e;exact hv
  ·have:=hg.sl
   simp [Frm.push]
   omega
  ·simpa [Frm.push] using hg.ok
  ·cases gs with
   | nil =>
    simp at hq;subst hq
    exact h.b0 g (by simp)
   | cons a l=>exact h.b0 q (by simpa using hq)
theorem qMX {c:List Slt} (h:MOk p m fs f) (hc:SOk m.funs.length m.classes.length c) (hn:m.classes.length+1+fs.length≤m.made):qDq p (zD { m with classes:=m.classes++[c] } fs (3,m.classes.length)):=by
 have hl:m.classes.length≤(m.classes++[c]).length:=by simp
 have hm:=h.made
 unfold zD
 cases hlst:fs.getLast? with
 | none=>exact .inr (.inl rfl)
 | some g =>
  obtain⟨gs,rfl⟩:∃ gs,fs=gs++[g]:=by
   obtain⟨ys,hy⟩:=List.getLast?_eq_some_iff.1 hlst
   exact⟨ys,hy⟩
  have hg:=(h.low g (by simp)).mono (nf':=m.funs.length) (nk':=(m.classes++[c]).length) (nc':=m.cells.length) (Nat.le_refl _) hl (Nat.le_refl _)
  have h1:=h.made
  have h2:=h.nf
  have h3:=h.out
  have h5:=h.deep
  rw [qHB] at h1 h2 h3
  have hp1:∀ u,jk p (g.push u)=jk p g:=fun _=>rfl
  simp only [List.length_append,List.length_singleton] at hn h5
  refine .inr (.inr ⟨gs,g.push (3,(m.classes.length:Int)),by simp,⟨fun u hu=>(h.cells u hu).mono (Nat.le_refl _) hl,h.glob.mono (Nat.le_refl _) hl,fun q hq=>?_,h.funs,fun q hq=>(h.low q (by simp [hq])).mono (Nat.le_refl _) hl (Nat.le_refl _),⟨hg.blk,hg.fl,hg.fv,hg.cl,hg.cr,hg.nm,fun u hu=>?_,?_,hg.pc,?_⟩,by rw [hp1];simp only;omega,by rw [hp1];simp only;omega,by simp only [List.length_append,List.length_singleton];omega,h.nc,by rw [hp1];simp only;omega,h.tr,by simp only;omega,fun q hq=>?_⟩⟩)
  ·rcases List.mem_append.1 hq with e|e
   ·exact (h.cls q e).mono (Nat.le_refl _) hl
   ·simp only [List.mem_singleton] at e;subst e
    exact hc.mono (Nat.le_refl _) hl
  ·rcases List.mem_append.1 hu with e|e
   ·exact hg.sv u e
   ·simp only [List.mem_singleton] at e;subst e
    exact⟨by simp only;omega,fun e=>by simp at e,fun _=>by simp only [List.length_append,List.length_singleton];omega⟩
  ·have:=hg.sl
   simp [Frm.push]
   omega
  ·simpa [Frm.push] using hg.ok
  ·cases gs with
   | nil =>
    simp at hq;subst hq
    exact h.b0 g (by simp)
   | cons a l=>exact h.b0 q (by simpa using hq)
theorem qQh {st:List Val} (h:MOk p m fs f) (ho:(jO p f.blk)[f.pc]?=some o) (h0:o.1≠0) (hs:∀ u∈st,u∈f.stack) (hl:st.length≤f.stack.length) (hok:zB st.length ((jO p f.blk).drop (f.pc+1))):MOk p m fs { f with pc:=f.pc+1,stack:=st } :=
 h.re ho rfl (fun u hu=>h.top.sv u (hs u hu)) (by have:=h.top.sl;omega) hok h0
theorem qIl {st:List Val} {b:Nat} {cs:List Nat} {vs:List Val} (hp:ValP p) (h:MOk p m fs f) (ho:(jO p f.blk)[f.pc]?=some o) (h0:o.1=16∨o.1=17) (hs:∀ u∈st,u∈f.stack) (hl:st.length+1≤f.pc+1) (hok:zB (st.length+1) ((jO p f.blk).drop (f.pc+1)))
  (hb:b<p.length) (hb0:0<b) (hcsl:cs.length=(qU p b).length) (hcs:∀ c∈cs,c<m.cells.length) (hvs:∀ v∈vs,VOk m.funs.length m.classes.length v):qPa p (qk p (m.top fs { f with pc:=f.pc+1,stack:=st }) b cs vs):=by
 have hd:=uD ho
 have hpl:=(gS ho).1
 have hp1:jk p f=1+jk p { f with pc:=f.pc+1,stack:=st }:=by
  simp only [jk,hd,zy]
  rw [if_neg (by omega),if_pos (by omega)]
 have h1:=h.made
 have h2:=h.nf
 have h3:=h.out
 have h4:=h.nk
 have h5:=h.deep
 refine qOv (pd:=qE8 p fs+jk p { f with pc:=f.pc+1,stack:=st }) hp hb hb0 h.cells h.glob h.cls h.funs (fun g hg=>?_) (by simp [Mch.top]) (by simp only [Mch.top];exact qHB) ?_ ?_ ?_ h.nc ?_ h.tr ?_ (fun g hg=>?_) hcsl hcs hvs
 ·simp only [Mch.top,List.mem_append,List.mem_singleton] at hg
  rcases hg with e|e
  ·exact h.low g e
  ·subst e
   exact⟨h.top.blk,h.top.fl,h.top.fv,h.top.cl,h.top.cr,h.top.nm,fun u hu=>h.top.sv u (hs u hu),hl,hpl,hok⟩
 ·simp only [Mch.top];omega
 ·simp only [Mch.top];omega
 ·simp only [Mch.top,List.length_append,List.length_singleton];omega
 ·simp only [Mch.top];omega
 ·simp only [Mch.top,List.length_append,List.length_singleton];omega
 ·simp only [Mch.top] at hg
  cases fs with
  | nil=>simp at hg;subst hg;exact h.b0 f (by simp)
  | cons a l=>exact h.b0 g (by simpa using hg)
theorem qJz {c:Int} (h:0≤c∧c≤20):c=0∨c=1∨(2≤c∧c≤13)∨c=14∨c=15∨c=16∨c=17∨c=18∨c=19∨c=20:=by omega
theorem qLF (hp:ValP p) (h:MOk p m fs f) (ho:(jO p f.blk)[f.pc]?=some o):qDq p (yq p m fs f.next o):=by
 obtain⟨k,hk⟩:∃ k,p[f.blk]?=some k:=⟨_,gE h.top.blk⟩
 have hO:=qI1 hp.sh hk o (gM ho)
 have hd:=uD ho
 have hok:=h.top.ok
 rw [hd,Nat.add_zero] at hok
 obtain⟨l,hl⟩:∃ l,l=(jO p f.blk).drop (f.pc+1):=⟨_,rfl⟩
 rw [← hl] at hok hd
 have h1:=h.made
 have h2:=h.nf
 have h3:=h.out
 have hsl:=h.top.sl
 obtain⟨c,a⟩:=o
 simp only [zB] at hok
 have hstop:∀ (F:Frm) (e:Int),e≠0→qDq p (m.stop fs F e):=fun F e he=>.inl he
 rcases qJz hO.code with rfl|rfl|⟨n2,n13⟩|rfl|rfl|rfl|rfl|rfl|rfl|rfl
 ·-- a statement begins
  simp at hok
  have e0:yq p m fs f.next (0,a)=vq p m fs f.next:=by simp [yq]
  rw [e0,vq]
  by_cases hz:m.left=0
  ·rw [if_pos hz]
   exact hstop _ _ (by decide)
  ·rw [if_neg hz]
   have hpl:=(gS ho).1
   have hpf:jk p f=0:=by simp [jk,hd,zy]
   have hpn:jk p f.next=zy l:=by simp only [jk,Frm.next,← hl]
   have htr:=h.tr
   refine .inr (.inr ⟨fs,f.next,rfl,⟨h.cells,h.glob,h.cls,h.funs,h.low,⟨h.top.blk,h.top.fl,h.top.fv,h.top.cl,h.top.cr,h.top.nm,h.top.sv,by simp only [Frm.next];omega,hpl,?_⟩,?_,?_,h.nk,h.nc,?_,?_,h.deep,fun g hg=>?_⟩⟩)
   ·show zB (f.stack.length+0) ((jO p f.blk).drop (f.pc+1))
    rw [← hl,hok.1]
    exact hok.2.2
   ·simp only [Mch.top,hpn];omega
   ·simp only [Mch.top,hpn];omega
   ·simp only [Mch.top,hpn];omega
   ·simp only [Mch.top,List.length_append,List.length_singleton];omega
   ·cases fs with
    | nil=>simp at hg;subst hg;exact h.b0 f (by simp)
    | cons a l=>exact h.b0 g (by simpa using hg)
 ·simp at hok
  have e0:yq p m fs f.next (1,a)=m.top fs (f.next.push (1,a)):=by simp [yq,zI]
  rw [e0]
  refine .inr (.inr (.of (qKy h ho (by simp) (by rw [← hl];exact hok) ?_)))
  have:=hO.arg
  exact⟨this,by simp,by simp⟩
 ·-- names
  have e0:yq p m fs f.next (c,a)=if (c - 2) % 3=0 then jw p m fs f.next (c,a) else if (c - 2) % 3=1 then qF9 m fs f.next (c,a) else qFA p m fs f.next (c,a):=by
   unfold yq
   rw [if_neg (by simp only;omega),if_pos ⟨n2,n13⟩]
  rw [e0]
  have hn:∀ st:List Val,(∀ u∈st,u∈f.stack)→st.length≤f.stack.length→zB st.length l→MOk p m fs { f with pc:=f.pc+1,stack:=st }:=fun st q1 q2 q3=>qQh h ho (by simp only;omega) q1 q2 (by rw [← hl];exact q3)
  by_cases m0:(c - 2) % 3=0
  ·rw [if_pos m0]
   have hc:c=2∨c=5∨c=8∨c=11:=by omega
   have hok':zB (f.stack.length+1) l:=by
    rcases hc with rfl|rfl|rfl|rfl <;> simpa using hok
   have push:∀ v,VOk m.funs.length m.classes.length v→qDq p (m.top fs (f.next.push v)):=fun v hv=>.inr (.inr (.of (qKy h ho (by simp only;omega) (by rw [← hl];exact hok') hv)))
   unfold jw
   have hgs:qA5 m f.next (c,a)=qA5 m f (c,a):=rfl
   rw [hgs]
   cases hg:qA5 m f (c,a) with
   | some v=>exact push v (qR9 h hg)
   | none =>
    simp only
    split
    ·split
     ·rename_i v hv
      exact push v (h.glob.2 v (kw hv))
     ·split
      ·exact push _ ⟨by decide,by simp,by simp⟩
      ·exact hstop _ _ (by decide)
    ·refine hstop _ _ ?_
     unfold wE
     repeat' split
     all_goals decide
  ·rw [if_neg m0]
   by_cases m1:(c - 2) % 3=1
   ·rw [if_pos m1]
    have hc:c=3∨c=6∨c=9∨c=12:=by omega
    have hok':1≤f.stack.length∧zB (f.stack.length - 1) l:=by
     rcases hc with rfl|rfl|rfl|rfl <;> simpa using hok
    have hM:=hn f.pop.stack (fun u hu=>kR hu) (by rw [uL];omega) (by rw [uL];exact hok'.2)
    refine .inr (.inr (qKb (f:=f.next.pop) hM fun v hv=>?_))
    obtain rfl:=sI hv
    exact h.top.sv _ (uI hok'.1)
   ·rw [if_neg m1]
    have hc:c=4∨c=7∨c=10∨c=13:=by omega
    have hok':zB f.stack.length l:=by
     rcases hc with rfl|rfl|rfl|rfl <;> simpa using hok
    have hM:=hn f.stack (fun u hu=>hu) (Nat.le_refl _) hok'
    unfold qFA
    split
    ·exact .inr (.inr (qKb (f:=f.next) hM fun v hv=>by cases hv))
    ·refine hstop _ _ ?_
     unfold wE
     repeat' split
     all_goals decide
 ·simp at hok
  have e0:yq p m fs f.next (14,a)=qIz m fs f.next:=by simp [yq,zI]
  rw [e0,qIz]
  have hp2:f.next.pop.pop.stack.length=f.stack.length - 2:=by rw [uL,uL];simp [Frm.next];omega
  have hv1:=h.top.sv _ (uI (f:=f) (by omega))
  have hv2:=h.top.sv _ (kR (uI (f:=f.pop) (by rw [uL];omega)))
  split
  ·exact hstop _ _ (by decide)
  ·refine .inr (.inr (.of ?_))
   refine h.re ho rfl (fun u hu=>?_) ?_ ?_ (by simp)
   ·rcases List.mem_append.1 hu with e|e
    ·exact h.top.sv u (kR (kR e))
    ·simp only [List.mem_singleton] at e;subst e
     have e1:f.next.pop.tos=f.pop.tos:=rfl
     have e2:f.next.tos=f.tos:=rfl
     rw [e1,e2]
     have q1:=hv1.num
     have q2:=hv2.num
     refine⟨⟨Int.tmod_nonneg _ (by omega),?_⟩,by simp,by simp⟩
     have:=Int.tmod_lt_of_pos (f.pop.tos.2+f.tos.2) (show (0:Int)<1000 by decide)
     simp only
     omega
   ·simp only [List.length_append,List.length_singleton]
    rw [hp2]
    show f.stack.length - 2+1≤f.pc+1
    omega
   ·simp only [List.length_append,List.length_singleton]
    rw [hp2,← hl]
    have:f.stack.length - 2+1=f.stack.length - 1:=by omega
    rw [this]
    exact hok.2
 ·simp at hok
  obtain⟨q,q1,q2,q3,q4⟩:=hO.blk (.inl rfl)
  simp only at q1 q3 q4
  have e0:yq p m fs f.next (15,a)={ m.top fs (f.next.push (2,m.funs.length)) with funs:=m.funs++[(a.toNat,y8 p f.next a.toNat)] }:=by simp [yq,zI]
  rw [e0]
  obtain⟨c1,c2⟩:=qFH hp.sh.heads h.top q1 q2
  have hfl:m.funs.length≤(m.funs++[(a.toNat,y8 p f.next a.toNat)]).length:=by simp
  have hpf:jk p f=1+zy l:=by simp [jk,hd,zy]
  have hpn:jk p (f.next.push (2,(m.funs.length:Int)))=zy l:=by simp only [jk,Frm.next,Frm.push,← hl]
  have hpl:=(gS ho).1
  have hT:=h.top.mono (nf':=(m.funs++[(a.toNat,y8 p f.next a.toNat)]).length) hfl (Nat.le_refl _) (Nat.le_refl _)
  refine .inr (.inr ⟨fs,_,rfl,⟨fun u hu=>(h.cells u hu).mono hfl (Nat.le_refl _),h.glob.mono hfl (Nat.le_refl _),fun u hu=>(h.cls u hu).mono hfl (Nat.le_refl _),fun u hu=>?_,fun u hu=>(h.low u hu).mono hfl (Nat.le_refl _) (Nat.le_refl _),⟨hT.blk,hT.fl,hT.fv,hT.cl,hT.cr,hT.nm,fun u hu=>?_,?_,hpl,?_⟩,?_,?_,h.nk,h.nc,?_,h.tr,h.deep,fun g hg=>?_⟩⟩)
  ·rcases List.mem_append.1 hu with e|e
   ·exact h.funs u e
   ·simp only [List.mem_singleton] at e;subst e
    exact⟨q,q1,by omega,c1,c2⟩
  ·rcases List.mem_append.1 hu with e|e
   ·exact hT.sv u e
   ·simp only [List.mem_singleton] at e;subst e
    exact⟨by simp only;omega,fun _=>by simp only [List.length_append,List.length_singleton];omega,by simp⟩
  ·simp [Frm.push,Frm.next];omega
  ·simpa [Frm.push,Frm.next,← hl] using hok
  ·simp only [Mch.top,hpn];omega
  ·simp only [Mch.top,hpn,List.length_append,List.length_singleton];omega
  ·simp only [Mch.top,hpn];omega
  ·cases fs with
   | nil=>simp at hg;subst hg;exact h.b0 f (by simp)
   | cons a l=>exact h.b0 g (by simpa using hg)
 ·simp at hok
  obtain⟨q,q1,q2,q3,q4⟩:=hO.blk (.inr rfl)
  simp only at q1 q3 q4
  have e0:yq p m fs f.next (16,a)=qk p (m.top fs f.next) a.toNat (y8 p f.next a.toNat) []:=by simp [yq,zI]
  rw [e0]
  obtain⟨c1,c2⟩:=qFH hp.sh.heads h.top q1 q2
  exact .inr (.inr (qIl (st:=f.stack) hp h ho (.inl rfl) (fun u hu=>hu) (by omega) (by rw [← hl];exact hok) (gS q1).1 (by omega) c1 c2 (fun v hv=>by simp at hv)))
 ·simp at hok
  have e0:yq p m fs f.next (17,a)=uo p m fs f.next (17,a):=by simp [yq,zI]
  rw [e0,uo]
  simp only
  obtain⟨n,hn⟩:∃ n,a.toNat=n:=⟨_,rfl⟩
  rw [hn] at hok ⊢
  have hnl:f.next.stack.length=f.stack.length:=rfl
  have hns:f.next.stack=f.stack:=rfl
  rw [hns]
  have hkl:f.stack.length - n - 1<f.stack.length:=by omega
  have hg:VOk m.funs.length m.classes.length (f.stack.getD (f.stack.length - n - 1) (0,0)):=qRa h.top.sv _
  split
  ·exact hstop _ _ (by decide)
  ·rename_i hg2
   have hg2':(f.stack.getD (f.stack.length - n - 1) (0,0)).1=2:=by simpa using hg2
   split
   ·rename_i q hq
    split
    ·exact hstop _ _ (by decide)
    ·obtain⟨kb,r1,r2,r3,r4⟩:=h.funs q (gM hq)
     have hq0:0<q.1:=by
      rcases Nat.eq_zero_or_pos q.1 with e|e
      ·rw [e] at r1
       have:=(hp.sh.kind0 r1).2 rfl
       omega
      ·exact e
     have hls:(f.stack.take (f.stack.length - n - 1)).length=f.stack.length - n - 1:=by simp;omega
     refine .inr (.inr (qIl (st:=f.stack.take (f.stack.length - n - 1)) hp h ho (.inr rfl) (fun u hu=>List.mem_of_mem_take hu) (by rw [hls];omega) ?_ (gS r1).1 hq0 r3 r4 (fun v hv=>h.top.sv v (List.mem_of_mem_drop hv))))
     rw [hls,← hl]
     have:f.stack.length - n - 1+1=f.stack.length - n:=by omega
     rw [this]
     exact hok.2
   ·exact hstop _ _ (by decide)
 ·simp at hok
  have e0:yq p m fs f.next (18,a)=wK m fs f.next (18,a):=by simp [yq,zI]
  rw [e0,wK]
  simp only
  split
  ·exact hstop _ _ (by decide)
  ·split
   ·rename_i u hu
    have hv:VOk m.funs.length m.classes.length u:=by
     have hm:=kw hu
     rw [List.getD_eq_getElem?_getD] at hm
     cases hc:m.classes[f.next.tos.2.toNat]? with
     | none=>rw [hc] at hm;simp at hm
     | some cl =>
      rw [hc] at hm
      exact (h.cls cl (gM hc)).2 u hm
    refine .inr (.inr (.of ?_))
    have hp1:f.next.pop.stack.length=f.stack.length - 1:=by rw [uL];rfl
    refine h.re ho rfl (fun w hw=>?_) ?_ ?_ (by simp)
    ·rcases List.mem_append.1 hw with e|e
     ·exact h.top.sv w (kR e)
     ·simp only [List.mem_singleton] at e;subst e;exact hv
    ·simp only [List.length_append,List.length_singleton]
     rw [hp1]
     show f.stack.length - 1+1≤f.pc+1
     omega
    ·simp only [List.length_append,List.length_singleton]
     rw [hp1,← hl]
     have:f.stack.length - 1+1=f.stack.length:=by omega
     rw [this]
     exact hok.2
   ·exact hstop _ _ (by decide)
 ·simp at hok
  have e0:yq p m fs f.next (19,a)={ m.top fs f.next.pop with out:=m.out++[shown f.next.tos] }:=by simp [yq,zI]
  rw [e0]
  have hpf:jk p f=1+zy l:=by simp [jk,hd,zy]
  have hpn:jk p f.next.pop=zy l:=by simp only [jk,Frm.next,Frm.pop,← hl]
  have hpl:=(gS ho).1
  have hp1:f.next.pop.stack.length=f.stack.length - 1:=by rw [uL];rfl
  refine .inr (.inr ⟨fs,f.next.pop,rfl,⟨h.cells,h.glob,h.cls,h.funs,h.low,⟨h.top.blk,h.top.fl,h.top.fv,h.top.cl,h.top.cr,h.top.nm,fun u hu=>h.top.sv u (kR hu),?_,hpl,?_⟩,?_,?_,h.nk,h.nc,?_,h.tr,h.deep,fun g hg=>?_⟩⟩)
  ·rw [hp1];simp only [Frm.pop,Frm.next];omega
  ·rw [Nat.add_zero,hp1]
   simp only [Frm.pop,Frm.next,← hl]
   exact hok.2
  ·simp only [Mch.top,hpn];omega
  ·simp only [Mch.top,hpn];omega
  ·simp only [Mch.top,hpn,List.length_append,List.length_singleton];omega
  ·cases fs with
   | nil=>simp at hg;subst hg;exact h.b0 f (by simp)
   | cons a l=>exact h.b0 g (by simpa using hg)
 ·simp at hok
  have e0:yq p m fs f.next (20,a)=zD m fs f.next.tos:=by simp [yq,zI]
  rw [e0]
  exact qIa h (h.top.sv _ (uI hok.1))
theorem qJJ (hp:ValP p) (hf:m.frames=fs++[f]) (h:MOk p m fs f):qDq p (yC p m):=by
 cases ho:(jO p f.blk)[f.pc]? with
 | some o =>
  rw [step_ord hf ho]
  exact qLF hp h ho
 | none =>
  rw [step_end hf ho,qDk]
  split
  ·have:=h.nk
   exact qMX h h.top.nm (by omega)
  ·exact qIa h .zero
theorem qCN (hp:ValP p) {n:Nat} (hn:n≤150):∀ i,(zN p i (qL p n)).ended∨qPa p (zN p i (qL p n))
 | 0=>by
  right
  have hl:=hp.sh.len
  obtain⟨k,hk⟩:∃ k,p[0]?=some k:=⟨_,gE (by omega)⟩
  have hk0:=(hp.sh.kind0 hk).2 rfl
  have hka:qi p 0=0:=by simp [qi,hk,hk0]
  have hc0:qE p 0=[]:=by unfold qE;rw [if_neg (by omega)]
  have hf0:qI p 0=[]:=by unfold qI;rw [if_neg (by omega)]
  have hr0:qU p 0=[]:=by
   rw [List.eq_nil_iff_forall_not_mem]
   intro x hx
   exact absurd (qA6 hx) (by decide)
  have hps:(q8 p 0).params=[]:=by
   have:=hp.sh.head 0 k hk
   unfold jJ at this
   rw [if_pos rfl] at this
   simp only [q8,hk]
   exact List.eq_nil_of_length_eq_zero this.2.2
  have hM:qL p n=⟨[],qe,[],[],[⟨0,0,[],[],qe,[]⟩],1,1,[],[],0,n⟩:=by
   unfold qL qk
   rw [hps]
   simp [qT,hc0,hf0]
  obtain⟨o1,o2⟩:=qGM (b:=0) hp.sh (by omega)
  simp only [zN,hM]
  have hpF:jk p ⟨0,0,[],[],qe,[]⟩=0:=by simp only [jk,List.drop_zero,o2]
  have hpS:qE8 p []=0:=rfl
  refine⟨[],_,rfl,⟨by simp,.none,by simp,by simp,by simp,⟨by simp only;omega,by simp [hf0],by simp,by simp [hc0,hr0],by simp,.none,by simp,by simp,by simp,by simpa using o1⟩,?_,?_,?_,?_,?_,?_,?_,?_⟩⟩
  all_goals try simp only [hpF,hpS,List.length_nil]
  all_goals first|omega|(intro g hg;simp at hg;subst hg;rfl)
 | i+1=>by
  rw [zn]
  rcases qCN hp hn i with h|h
  ·rw [if_pos h];exact .inl h
  ·by_cases he:(zN p i (qL p n)).ended
   ·rw [if_pos he];exact .inl he
   ·rw [if_neg he]
    obtain⟨fs,f,h1,h2⟩:=h
    rcases qJJ hp h1 h2 with e|e|e
    ·exact .inl (.inr e)
    ·exact .inl (.inl e)
    ·exact .inr e
end
section
variable {p:Prg} {m m':Mch} {b n:Nat} {fs:List Frm} {f g:Frm} {o:Int×Int} {v:Val} {s:Slt}
def qDL (f:Frm):Nat:=61 - f.pc
def qCg (m:Mch):Nat:=(151 - m.made) * 62+(m.frames.map qDL).sum
def qVQ (m:Mch) (fs:List Frm) (pc:Nat) (m':Mch):Prop:=(∃ g,m'.frames=fs++[g]∧g.pc=pc)∧m'.made=m.made∧m'.out.length≤m.out.length+1∧m'.trace.length≤m.trace.length+1∧m'.globals.length=m.globals.length
theorem qOY (h:g.pc=f.pc):qVQ m fs f.pc (m.top fs g):=⟨⟨g,rfl,h⟩,rfl,by simp [Mch.top],by simp [Mch.top],rfl⟩
theorem qLg {e:Int} (h:g.pc=f.pc):qVQ m fs f.pc (m.stop fs g e):=⟨⟨g,rfl,h⟩,rfl,by simp [Mch.stop,Mch.top],by simp [Mch.stop,Mch.top],rfl⟩
theorem qIi (h:g.pc=f.pc):qVQ m fs f.pc (setS m fs g o s):=by
 unfold setS
 repeat' split
 all_goals exact⟨⟨_,rfl,h⟩,rfl,by simp [Mch.top],by simp [Mch.top],by simp [Mch.top]⟩
theorem qBF {cs:List Nat} {vs:List Val}:(∃ g,(qk p m b cs vs).frames=m.frames++[g])∧(qk p m b cs vs).made=m.made+1∧(qk p m b cs vs).out=m.out∧(qk p m b cs vs).trace=m.trace∧(qk p m b cs vs).globals=m.globals:=by
 unfold qk
 split
 ·split <;> exact⟨⟨_,rfl⟩,rfl,rfl,rfl,rfl⟩
 ·exact⟨⟨_,rfl⟩,rfl,rfl,rfl,rfl⟩
def qRs (m m':Mch):Prop:=qCg m'<qCg m∧m'.out.length≤m.out.length+1∧m'.trace.length≤m.trace.length+1∧m'.globals.length=m.globals.length
theorem qL1 (hm:m.frames=fs++[f]) (hp:f.pc<61) (h:qVQ m fs (f.pc+1) m'):qRs m m':=by
 obtain⟨⟨g,h1,h2⟩,h3,h4⟩:=h
 refine⟨?_,h4⟩
 simp only [qCg,hm,h1,h3,List.map_append,List.map_cons,List.map_nil,List.sum_append_nat,List.sum_cons,List.sum_nil,qDL,h2]
 omega
theorem qDd {cs:List Nat} {vs:List Val} (hm:m.frames=fs++[f]) (hp:f.pc<61) (hg:g.pc=f.pc+1) (hmd:m.made≤150):qRs m (qk p (m.top fs g) b cs vs):=by
 obtain⟨⟨x,h1⟩,h2,h3,h4,h5⟩:=qBF (p:=p) (m:=m.top fs g) (b:=b) (cs:=cs) (vs:=vs)
 refine⟨?_,by rw [h3];exact Nat.le_succ _,by rw [h4];exact Nat.le_succ _,by rw [h5];rfl⟩
 have h6:(m.top fs g).frames=fs++[g]:=rfl
 have h7:(m.top fs g).made=m.made:=rfl
 simp only [qCg,hm,h1,h2,h6,h7,List.map_append,List.map_cons,List.map_nil,List.sum_append_nat,List.sum_cons,List.sum_nil,qDL,hg]
 omega
theorem qBA (hm:m.frames=fs++[f]) (hp:f.pc<61) (hf:m'.made=m.made) (ho:m'.out=m.out) (ht:m'.trace=m.trace) (hg:m'.globals=m.globals):qRs m (zD m' fs v):=by
 unfold zD
 split
 ·rename_i g hl
  have hs:((fs.dropLast++[g.push v]).map qDL).sum=(fs.map qDL).sum:=by
   have e:fs=fs.dropLast++[g]:=by
    have hne:fs≠[]:=fun e=>by rw [e] at hl;cases hl
    rw [List.getLast?_eq_some_getLast hne] at hl
    obtain rfl:=sI hl
    exact (List.dropLast_concat_getLast hne).symm
   conv=>rhs;rw [e]
   simp [qDL,Frm.push]
  refine⟨?_,by simp [ho],by simp [ht],by simp [hg]⟩
  have e1:qCg { m' with frames:=fs.dropLast++[g.push v] }=(151 - m'.made) * 62+(fs.map qDL).sum:=by rw [← hs];rfl
  have e2:qCg m=(151 - m.made) * 62+((fs.map qDL).sum+(61 - f.pc)):=by simp [qCg,hm,qDL]
  rw [e1,e2,hf]
  omega
 ·refine⟨?_,by simp [ho],by simp [ht],by simp [hg]⟩
  simp only [qCg,hf,hm,List.map_append,List.map_cons,List.map_nil,List.sum_append_nat,List.sum_cons,List.sum_nil,qDL]
  omega
theorem qFb (hp:ValP p) (hm:m.frames=fs++[f]) (hM:MOk p m fs f):qRs m (yC p m):=by
 have hol:=uh (p:=p) (b:=f.blk) hp.sh
 have hpc:=hM.top.pc
 have h61:f.pc<61:=by omega
 cases ho:(jO p f.blk)[f.pc]? with
 | none =>
  rw [Hm.step_end hm ho]
  unfold qDk
  split
  ·exact qBA hm h61 rfl rfl rfl rfl
  ·exact qBA hm h61 rfl rfl rfl rfl
 | some o =>
  rw [Hm.step_ord hm ho]
  have hmd:=hM.made
  have hpend:o.1=16∨o.1=17→m.made≤150:=fun h=>by
   have h2:1≤jk p f:=by
    unfold jk
    rw [uD ho]
    simp only [zy]
    rw [if_neg (by omega),if_pos (by omega)]
    omega
   omega
  have hG:∀ m',qVQ m fs f.next.pc m'→qRs m m':=fun m' h=>qL1 hm h61 h
  have hT:∀ g:Frm,g.pc=f.next.pc→qRs m (m.top fs g):=fun g h=>hG _ (qOY h)
  have hS:∀ (g:Frm) (e:Int),g.pc=f.next.pc→qRs m (m.stop fs g e):=fun g e h=>hG _ (qLg h)
  unfold yq
  split
  ·unfold vq
   split
   ·exact hS _ _ rfl
   ·exact hG _ ⟨⟨_,rfl,rfl⟩,rfl,by simp [Mch.top],by simp,rfl⟩
  ·split
   ·split
    ·unfold jw
     repeat' split
     all_goals first|exact hT _ rfl|exact hS _ _ rfl
    ·split
     ·exact hG _ (qIi rfl)
     ·unfold qFA
      split
      ·exact hG _ (qIi rfl)
      ·exact hS _ _ rfl
   ·unfold zI
    split
    ·exact hT _ rfl
    split
    ·unfold qIz
     dsimp only
     split
     ·exact hS _ _ rfl
     ·exact hT _ rfl
    split
    ·exact hG _ ⟨⟨_,rfl,rfl⟩,rfl,by simp [Mch.top],by simp [Mch.top],rfl⟩
    split
    ·exact qDd hm h61 rfl (hpend (by omega))
    split
    ·unfold uo
     dsimp only
     split
     ·exact hS _ _ rfl
     ·split
      ·split
       ·exact hS _ _ rfl
       ·exact qDd hm h61 rfl (hpend (by omega))
      ·exact hS _ _ rfl
    split
    ·unfold wK
     dsimp only
     split
     ·exact hS _ _ rfl
     ·split
      ·exact hT _ rfl
      ·exact hS _ _ rfl
    split
    ·exact hG _ ⟨⟨_,rfl,rfl⟩,rfl,by simp,by simp [Mch.top],rfl⟩
    ·exact qBA hm h61 rfl rfl rfl rfl
theorem qNo (hp:ValP p) (hn:n≤150):∃ N,(zN p N (qL p n)).ended:=by
 have key:∀ i,(zN p i (qL p n)).ended∨qCg (zN p i (qL p n))+i≤qCg (qL p n):=by
  intro i
  induction i with
  | zero=>exact .inr (Nat.le_refl _)
  | succ i ih =>
   rcases ih with h|h
   ·left
    rw [zn,if_pos h]
    exact h
   ·by_cases he:(zN p i (qL p n)).ended
    ·left
     rw [zn,if_pos he]
     exact he
    ·right
     rw [zn,if_neg he]
     obtain⟨fs,f,h1,h2⟩:=(qCN hp hn i).resolve_left he
     have:=(qFb hp h1 h2).1
     omega
 rcases key (qCg (qL p n)+1) with h|h
 ·exact⟨_,h⟩
 ·omega
theorem qPS (hp:ValP p) (hn:n≤150):∀ i,(zN p i (qL p n)).out.length≤151∧(zN p i (qL p n)).trace.length≤151∧(zN p i (qL p n)).globals.length=8
 | 0=>by
  obtain⟨_,_,h3,h4,h5⟩:=qBF (p:=p) (m:=qT n) (b:=0) (cs:=[]) (vs:=[])
  have e:zN p 0 (qL p n)=qk p (qT n) 0 [] []:=rfl
  rw [e,h3,h4,h5]
  exact⟨by simp [qT],by simp [qT],by simp [qT]⟩
 | i+1=>by
  have ih:=qPS hp hn i
  by_cases he:(zN p i (qL p n)).ended
  ·rw [zn,if_pos he]
   exact ih
  ·rw [zn,if_neg he]
   obtain⟨fs,f,h1,h2⟩:=(qCN hp hn i).resolve_left he
   obtain⟨_,h3,h4,h5⟩:=qFb hp h1 h2
   have h6:=h2.out
   have h7:=h2.tr
   have h8:=h2.glob.1
   exact⟨by omega,by omega,by omega⟩
end
end Go.Hm
end
section
namespace Go.Hm
open Go Go.RowKit
section
variable {p:Prg} {m:Mch} {b e d n i j N M:Nat} {fs:List Frm} {f g:Frm} {o:Int×Int} {v:Val} {k:Blk} {x:Int} {l:List (Int×Int)}
def Mch.add (d:Nat) (m:Mch):Mch:={ m with left:=m.left+d }
theorem qRo:(m.add d).top fs f=(m.top fs f).add d:=rfl
theorem qPA {E:Int}:(m.add d).stop fs f E=(m.stop fs f E).add d:=rfl
theorem qIy {s:Slt}:setS (m.add d) fs f o s=(setS m fs f o s).add d:=by
 unfold setS
 repeat' split
 all_goals rfl
theorem qPB:jw p (m.add d) fs f o=(jw p m fs f o).add d:=by
 unfold jw
 have h1:qA5 (m.add d) f o=qA5 m f o:=rfl
 have h2:yn (m.add d).globals o.2.toNat=yn m.globals o.2.toNat:=rfl
 rw [h1,h2]
 repeat' split
 all_goals rfl
theorem qRp:qFA p (m.add d) fs f o=(qFA p m fs f o).add d:=by
 unfold qFA
 have h1:qA5 (m.add d) f o=qA5 m f o:=rfl
 rw [h1]
 split
 ·exact qIy
 ·rfl
theorem qDA {cs:List Nat} {vs:List Val}:qk p (m.add d) b cs vs=(qk p m b cs vs).add d:=by
 unfold qk
 split
 ·split <;> rfl
 ·rfl
theorem qPC:uo p (m.add d) fs f o=(uo p m fs f o).add d:=by
 unfold uo
 have h1:(m.add d).funs=m.funs:=rfl
 simp only [h1,qRo,qPA,qDA]
 repeat' split
 all_goals rfl
theorem qGt:zD (m.add d) fs v=(zD m fs v).add d:=by
 unfold zD
 split <;> rfl
theorem qOz:zI p (m.add d) fs f o=(zI p m fs f o).add d:=by
 unfold zI
 split
 ·rfl
 ·split
  ·unfold qIz
   dsimp only
   split <;> rfl
  ·split
   ·rfl
   ·split
    ·exact qDA (m:=m.top fs f)
    ·split
     ·exact qPC
     ·split
      ·unfold wK
       have h1:(m.add d).classes=m.classes:=rfl
       simp only [h1]
       repeat' split
       all_goals rfl
      ·split
       ·rfl
       ·exact qGt
theorem qNh:yC p (m.add d)=(yC p m).add d∨((yC p m).en=1∧(yC p m).cells=m.cells∧(yC p m).made=m.made∧(yC p m).deep=m.deep∧(yC p m).frames.length=m.frames.length):=by
 unfold yC
 have h1:(m.add d).frames=m.frames:=rfl
 rw [h1]
 cases hf:m.frames.getLast? with
 | none=>exact .inl rfl
 | some f =>
  simp only
  cases ho:(jO p f.blk)[f.pc]? with
  | none =>
   simp only
   left
   unfold qDk
   split
   ·unfold zD
    split <;> rfl
   ·exact qGt
  | some o =>
   simp only
   unfold yq
   split
   ·unfold vq
    by_cases hl:m.left=0
    ·right
     rw [if_pos hl]
     refine⟨rfl,rfl,rfl,rfl,?_⟩
     obtain⟨ys,hy⟩:=List.getLast?_eq_some_iff.1 hf
     simp [Mch.stop,Mch.top,hy]
    ·left
     have hl':(m.add d).left≠0:=by simp only [Mch.add];omega
     rw [if_neg hl,if_neg hl']
     simp only [Mch.add,Mch.top]
     congr 1
     omega
   ·left
    split
    ·split
     ·exact qPB
     ·split
      ·exact qIy
      ·exact qRp
    ·exact qOz
structure Gr (m m':Mch):Prop where
 cells:m.cells.length≤m'.cells.length
 made:m.made≤m'.made
 deep:m.deep≤m'.deep
theorem Gr.refl (m:Mch):Gr m m:=⟨Nat.le_refl _,Nat.le_refl _,Nat.le_refl _⟩
theorem Gr.trans {a b c:Mch} (h:Gr a b) (h':Gr b c):Gr a c:=⟨Nat.le_trans h.cells h'.cells,Nat.le_trans h.made h'.made,Nat.le_trans h.deep h'.deep⟩
theorem qLf {s:Slt}:Gr m (setS m fs f o s):=by
 unfold setS
 repeat' split
 all_goals exact⟨by simp [Mch.top],by simp [Mch.top],by simp [Mch.top]⟩
theorem qOX {cs:List Nat} {vs:List Val}:Gr m (qk p m b cs vs):=by
 unfold qk
 split
 ·split
  ·exact⟨by simp,by simp,by simp only;omega⟩
  ·exact⟨by simp,by simp,by simp only;omega⟩
 ·exact⟨by simp,by simp,by simp only;omega⟩
theorem qG4 {cs:List Nat} {vs:List Val}:Gr m (qk p (m.top fs f) b cs vs):=by
 have h:=qOX (p:=p) (m:=m.top fs f) (b:=b) (cs:=cs) (vs:=vs)
 exact⟨h.cells,h.made,h.deep⟩
theorem qIh:Gr m (zD m fs v):=by
 unfold zD
 split <;> exact⟨Nat.le_refl _,Nat.le_refl _,Nat.le_refl _⟩
theorem qQb:Gr m (yC p m):=by
 unfold yC
 split
 ·rename_i f hf
  split
  ·rename_i o ho
   unfold yq
   split
   ·unfold vq
    split <;> exact⟨Nat.le_refl _,Nat.le_refl _,Nat.le_refl _⟩
   ·split
    ·split
     ·unfold jw
      repeat' split
      all_goals exact⟨Nat.le_refl _,Nat.le_refl _,Nat.le_refl _⟩
     ·split
      ·exact qLf
      ·unfold qFA
       split
       ·exact qLf
       ·exact⟨Nat.le_refl _,Nat.le_refl _,Nat.le_refl _⟩
    ·unfold zI
     split
     ·exact⟨Nat.le_refl _,Nat.le_refl _,Nat.le_refl _⟩
     ·split
      ·unfold qIz
       dsimp only
       split <;> exact⟨Nat.le_refl _,Nat.le_refl _,Nat.le_refl _⟩
      ·split
       ·exact⟨Nat.le_refl _,Nat.le_refl _,Nat.le_refl _⟩
       ·split
        ·exact qG4
        ·split
         ·unfold uo
          simp only
          split
          ·exact⟨Nat.le_refl _,Nat.le_refl _,Nat.le_refl _⟩
          ·split
           ·split
            ·exact⟨Nat.le_refl _,Nat.le_refl _,Nat.le_refl _⟩
            ·exact qG4
           ·exact⟨Nat.le_refl _,Nat.le_refl _,Nat.le_refl _⟩
         ·split
          ·unfold wK
           simp only
           split
           ·exact⟨Nat.le_refl _,Nat.le_refl _,Nat.le_refl _⟩
           ·split <;> exact⟨Nat.le_refl _,Nat.le_refl _,Nat.le_refl _⟩
          ·split
           ·exact⟨Nat.le_refl _,Nat.le_refl _,Nat.le_refl _⟩
           ·exact qIh
  ·unfold qDk
   split
   ·unfold zD
    split <;> exact⟨Nat.le_refl _,Nat.le_refl _,Nat.le_refl _⟩
   ·exact qIh
 ·exact⟨Nat.le_refl _,Nat.le_refl _,Nat.le_refl _⟩
theorem qKl (h:i≤j) (m:Mch):Gr (zN p i m) (zN p j m):=by
 induction h with
 | refl=>exact .refl _
 | step _ ih =>
  refine ih.trans ?_
  rw [zn]
  split
  ·exact .refl _
  ·exact qQb
theorem qK6:qL p (n+d)=(qL p n).add d:=by
 unfold qL
 have:qT (n+d)=(qT n).add d:=rfl
 rw [this,qDA]
theorem qKm:∀ i:Nat,zN p i (m.add d)=(zN p i m).add d∨∃ j,j<i∧zN p j (m.add d)=(zN p j m).add d∧(zN p (j+1) m).en=1∧(zN p (j+1) m).cells=(zN p j m).cells∧(zN p (j+1) m).made=(zN p j m).made∧(zN p (j+1) m).deep=(zN p j m).deep∧(zN p (j+1) m).frames.length=(zN p j m).frames.length
 | 0=>.inl rfl
 | i+1=>by
  rcases qKm i with h|⟨j,hj,h⟩
  ·have he:(zN p i (m.add d)).ended↔(zN p i m).ended:=by rw [h];rfl
   by_cases hE:(zN p i m).ended
   ·left
    rw [zn,zn,if_pos hE,if_pos (he.2 hE),h]
   ·rcases qNh (p:=p) (m:=zN p i m) (d:=d) with h1|⟨h1,h2,h3,h4,h5⟩
    ·left
     rw [zn,zn,if_neg hE,if_neg (fun x=>hE (he.1 x)),h,h1]
    ·right
     have e:zN p (i+1) m=yC p (zN p i m):=by rw [zn,if_neg hE]
     exact⟨i,by omega,h,by rw [e];exact h1,by rw [e];exact h2,by rw [e];exact h3,by rw [e];exact h4,by rw [e];exact h5⟩
  ·exact .inr ⟨j,by omega,h⟩
theorem qRg (hN:(zN p N (qL p n)).ended) (hM:(zN p M (qL p (n+d))).ended):Gr (zN p N (qL p n)) (zN p M (qL p (n+d))):=by
 rw [qK6] at hM ⊢
 rcases qKm (p:=p) (m:=qL p n) (d:=d) N with h|⟨j,hj,h,_,h2,h3,h4,_⟩
 ·have hE:(zN p N ((qL p n).add d)).ended:=by rw [h];exact hN
  have:zN p M ((qL p n).add d)=zN p N ((qL p n).add d):=by
   rcases Nat.le_total N M with hle|hle
   ·exact vf hE hle
   ·exact (vf hM hle).symm
  rw [this,h]
  exact⟨Nat.le_refl _,Nat.le_refl _,Nat.le_refl _⟩
 ·have hEj:(zN p (j+1) (qL p n)).ended:=by
   right
   have:(zN p (j+1) (qL p n)).en=1:=by assumption
   rw [this]
   decide
  have e1:zN p N (qL p n)=zN p (j+1) (qL p n):=vf hEj (by omega)
  rw [e1]
  have hg:Gr (zN p (j+1) (qL p n)) (zN p j ((qL p n).add d)):=by
   rw [h]
   exact⟨by rw [h2];exact Nat.le_refl _,by rw [h3];exact Nat.le_refl _,by rw [h4];exact Nat.le_refl _⟩
  refine hg.trans ?_
  rcases Nat.le_total j M with hle|hle
  ·exact qKl hle _
  ·rw [← vf hM hle]
   exact .refl _
end
section
variable {p:Prg} {m:Mch} {b d n i j N M t:Nat} {fs:List Frm} {f g:Frm} {o:Int×Int} {v:Val} {k:Blk} {x:Int}
structure McIn (p:Prg) (t:Nat) (m:Mch):Prop where
 fr:m.frames.length≤m.deep
 dm:m.deep≤m.made
 d1:1≤m.deep
 cells:m.cells.length≤t * (m.made - 1)
theorem McIn.of {m':Mch} (h:McIn p t m) (h1:m'.frames.length≤m.frames.length) (h2:m'.deep=m.deep) (h3:m'.made=m.made) (h4:m'.cells.length=m.cells.length):McIn p t m' :=
 ⟨by have:=h.fr;omega,by have:=h.dm;omega,by have:=h.d1;omega,by rw [h4,h3];exact h.cells⟩
theorem qR6 (h:McIn p t m) (hl:fs.length+1=m.frames.length):McIn p t (m.top fs f):=h.of (by simp [Mch.top];omega) rfl rfl rfl
theorem qIf {s:Slt} (h:McIn p t m) (hl:fs.length+1=m.frames.length):McIn p t (setS m fs f o s):=by
 unfold setS
 repeat' split
 all_goals exact h.of (by simp [Mch.top];omega) rfl rfl (by simp [Mch.top])
theorem qG0 {cs:List Nat} {vs:List Val} (ht:∀ b,(qE p b).length≤t) (h:McIn p t m):McIn p t (qk p m b cs vs):=by
 have hb:=ht b
 have h1:=h.fr
 have h2:=h.dm
 have h3:=h.d1
 have h4:=h.cells
 have key:∀ {C:List Slt} {F:List Frm},C.length=m.cells.length+(qE p b).length→F.length=m.frames.length+1→McIn p t { m with cells:=C,made:=m.made+1,deep:=max m.deep (m.frames.length+1),frames:=F }:=by
  intro C F e1 e2
  refine⟨by simp only;omega,by simp only;omega,by simp only;omega,?_⟩
  simp only [e1]
  obtain⟨q,hq⟩:∃ q,m.made=q+1:=⟨m.made - 1,by omega⟩
  rw [hq] at h4 ⊢
  simp only [Nat.add_sub_cancel] at h4 ⊢
  rw [Nat.mul_succ]
  omega
 unfold qk
 split
 ·split
  ·exact key (by simp) (by simp)
  ·exact key (by simp) (by simp)
 ·exact key (by simp) (by simp)
theorem qCj (h:McIn p t m) (hl:fs.length+1=m.frames.length):McIn p t (zD m fs v):=by
 unfold zD
 split
 ·rename_i g hg
  refine h.of ?_ rfl rfl rfl
  simp only [List.length_append,List.length_dropLast,List.length_singleton]
  have:fs.length≠0:=fun e=>by rw [List.eq_nil_of_length_eq_zero e] at hg;cases hg
  omega
 ·exact h.of (by simp) rfl rfl rfl
theorem qIe (ht:∀ b,(qE p b).length≤t) (h:McIn p t m):McIn p t (yC p m):=by
 unfold yC
 split
 ·rename_i f hf
  have hl:m.frames.dropLast.length+1=m.frames.length:=by
   have:m.frames.length≠0:=fun e=>by rw [List.eq_nil_of_length_eq_zero e] at hf;cases hf
   rw [List.length_dropLast]
   omega
  have hT:∀ F:Frm,McIn p t (m.top m.frames.dropLast F):=fun F=>qR6 h hl
  have hS:∀ (F:Frm) (E:Int),McIn p t (m.stop m.frames.dropLast F E):=fun F E=>(hT F).of (Nat.le_refl _) rfl rfl rfl
  split
  ·rename_i o ho
   unfold yq
   split
   ·unfold vq
    split
    ·exact hS _ _
    ·exact (hT _).of (Nat.le_refl _) rfl rfl rfl
   ·split
    ·split
     ·unfold jw
      repeat' split
      all_goals first|exact hT _|exact hS _ _
     ·split
      ·exact qIf h hl
      ·unfold qFA
       split
       ·exact qIf h hl
       ·exact hS _ _
    ·unfold zI
     split
     ·exact hT _
     ·split
      ·unfold qIz
       dsimp only
       split
       ·exact hS _ _
       ·exact hT _
      ·split
       ·exact (hT _).of (Nat.le_refl _) rfl rfl rfl
       ·split
        ·exact qG0 ht (hT _)
        ·split
         ·unfold uo
          dsimp only
          split
          ·exact hS _ _
          ·split
           ·split
            ·exact hS _ _
            ·exact qG0 ht (hT _)
           ·exact hS _ _
         ·split
          ·unfold wK
           dsimp only
           split
           ·exact hS _ _
           ·split
            ·exact hT _
            ·exact hS _ _
          ·split
           ·exact (hT _).of (Nat.le_refl _) rfl rfl rfl
           ·exact qCj h hl
  ·unfold qDk
   split
   ·exact qCj (m:={ m with classes:=m.classes++[f.names] }) (h.of (Nat.le_refl _) rfl rfl rfl) hl
   ·exact qCj h hl
 ·exact h
theorem qH7 (ht:∀ b,(qE p b).length≤t):∀ (i:Nat) {m:Mch},McIn p t m→McIn p t (zN p i m)
 | 0,_,h=>h
 | i+1,m,h=>by
  rw [zN]
  split
  ·exact h
  ·exact qH7 ht i (qIe ht h)
theorem qGZ (hp:ValP p):McIn p t (qL p n):=by
 obtain⟨hR,f,hf,_⟩:=qK4 (n:=n) hp
 have hl:=hp.sh.len
 obtain⟨k,hk⟩:∃ k,p[0]?=some k:=⟨_,gE (by omega)⟩
 have hk0:=(hp.sh.kind0 hk).2 rfl
 have hka:qi p 0=0:=by simp [qi,hk,hk0]
 have hc0:qE p 0=[]:=by unfold qE;rw [if_neg (by omega)]
 have hps:(q8 p 0).params=[]:=by
  have:=hp.sh.head 0 k hk
  unfold jJ at this
  rw [if_pos rfl] at this
  simp only [q8,hk]
  exact List.eq_nil_of_length_eq_zero this.2.2
 unfold qL qk
 rw [hps]
 exact⟨by simp [qT],by simp [qT],by simp [qT],by simp [qT,hc0]⟩
open Classical in
noncomputable def uJ (p:Prg) (n:Nat):Mch:=if h:∃ N,(zN p N (qL p n)).ended then zN p (Classical.choose h) (qL p n) else qL p n
theorem qHU (h:(zN p i (qL p n)).ended):zN p i (qL p n)=uJ p n:=by
 have hE:∃ N,(zN p N (qL p n)).ended:=⟨i,h⟩
 unfold uJ
 rw [dif_pos hE]
 have h2:=Classical.choose_spec hE
 rcases Nat.le_total i (Classical.choose hE) with hle|hle
 ·exact (vf h hle).symm
 ·exact vf h2 hle
theorem vg (hp:ValP p) (hn:n≤150):∃ N,(∀ i,i<N→¬ (zN p i (qL p n)).ended)∧(zN p N (qL p n)).ended∧zN p N (qL p n)=uJ p n:=by
 obtain⟨N,hN⟩:=qNo (n:=n) hp hn
 have key:∀ N,(zN p N (qL p n)).ended→∃ M,(∀ i,i<M→¬ (zN p i (qL p n)).ended)∧(zN p M (qL p n)).ended:=by
  intro N
  induction N with
  | zero=>exact fun h=>⟨0,by simp,h⟩
  | succ N ih =>
   intro h
   by_cases hE:(zN p N (qL p n)).ended
   ·exact ih hE
   ·refine⟨N+1,fun i hi hi'=>?_,h⟩
    exact hE (by rw [vf hi' (show i≤N by omega)];exact hi')
 obtain⟨M,h1,h2⟩:=key N hN
 exact⟨M,h1,h2,qHU h2⟩
theorem qCU (hp:ValP p) (hn:n≤150):(uJ p n).out.length≤151∧(uJ p n).trace.length≤151∧(uJ p n).globals.length=8:=by
 obtain⟨N,_,_,h⟩:=vg (n:=n) hp hn
 rw [← h]
 exact qPS hp hn N
theorem qKq (hp:ValP p) (hn:n≤150) (ht:∀ b,(qE p b).length≤t):McIn p t (uJ p n):=by
 obtain⟨N,_,_,h⟩:=vg (n:=n) hp hn
 rw [← h]
 exact qH7 ht N (qGZ hp)
theorem qNt (hp:ValP p) (hnm:n≤j) (hj:j≤150):Gr (uJ p n) (uJ p j):=by
 obtain⟨N,_,h1,h2⟩:=vg (n:=n) hp (by omega)
 obtain⟨M,_,h3,h4⟩:=vg (n:=j) hp hj
 obtain⟨d,rfl⟩:∃ d,j=n+d:=⟨j - n,by omega⟩
 rw [← h2,← h4]
 exact qRg h1 h3
end
end Go.Hm
end
section

end
section

end
section
namespace Go.Hm
open Go Go.RowKit
def vJ (S:Nm→Bool) (H:Nm→Option AO):Nm→Option AO:=fun n=>if S n=true then none else H n
section
variable {own:Nat→Prop} {C C':Nat→Prop} {w w':World} {g g':Gh} {D:Nm→Bool} {root:Nm} {H H':Nm→Option AO}
def qVW (S:Nm→Bool) (C:Nat→Prop) (g:Gh) (H:Nm→Option AO) (b:Nat):Prop:=C b∨∃ n o,S n=true∧H n=some o∧g.φ n=some b
theorem After.settle (h:After own C w g D root H H' C' g' w') (S:Nm→Bool) (hw:∀ n,H n≠none→D n=true):After own C w g D root H (vJ S H') (qVW S C' g' H') (g'.more (qVW S C' g' H')) w':=by
 have hC:∀ b,g'.C b→qVW S C' g' H' b:=fun b hb=>.inl (h.inv.hC ▸ hb)
 have old:∀ n o,vJ S H' n=some o→H' n=some o∧S n≠true:=by
  intro n o e
  unfold vJ at e
  split at e
  ·cases e
  ·exact⟨e,by assumption⟩
 refine⟨fun b hb=>.inl (h.mono b hb),?_,⟨h.inv.os,h.inv.tape,h.inv.output,h.inv.size,h.inv.keep,rfl,?_,?_,?_,?_⟩,?_,h.same,h.ust⟩
 ·rintro b (hb|⟨n,o,_,ho,hk⟩)
  ·exact h.new b hb
  ·exact .inr (h.inv.blk n o b ho hk).2.1
 ·rintro b (hb|⟨n,o,_,ho,hk⟩)
  ·exact h.inv.clt b hb
  ·exact (h.inv.blk n o b ho hk).2.2
 ·intro n o e
  have:=(h.inv.obj n o (old n o e).1).tr (g':=g'.more (qVW S C' g' H')) (w':=w') (n':=n) (f:=some) hC (fun _ _=>rfl) (fun k k' e=>by obtain rfl:=sI e;exact⟨rfl,rfl⟩) rfl (fun _ _=>rfl)
  rwa [AO.tr_some] at this
 ·intro n o b e hk
  obtain⟨e1,e2⟩:=old n o e
  obtain⟨x1,x2,x3⟩:=h.inv.blk n o b e1 hk
  refine⟨?_,x2,x3⟩
  rintro (hb|⟨n',o',hs,ho',hk'⟩)
  ·exact x1 hb
  ·exact e2 (h.inv.inj n' n o' o b ho' e1 hk' hk ▸ hs)
 ·intro n n' o o' b e e' hk hk'
  exact h.inv.inj n n' o o' b (old n o e).1 (old n' o' e').1 hk hk'
 ·intro n hn
  refine h.dom n fun e=>hn ?_
  unfold vJ
  split
  ·rfl
  ·exact e
end
section
variable {P:Program} {gl:Nat→Option (List AV)} {f:FuncId} {D:Nm→Bool} {az:List AV} {H:Nm→Option AO} {R R':Nm→AV→(Nm→Option AO)→Prop}
theorem FnE.settle (S:Nm→Nm→Bool) (h:FnE P gl f D az H R noE) (hR:∀ r y H',R r y H'→∃ y',Bw H' (fun n=>!S r n) y y'∧R' r y' (vJ (S r) H')):FnE P gl f D az H R' noE:=by
 refine⟨h.1,fun root C w g args h1 h2 h3 h4 h5 h6 h7=>?_⟩
 refine (h.2 root C w g args h1 h2 h3 h4 h5 h6 h7).mono fun e w' he=>?_
 cases e with
 | returned v =>
  obtain⟨C',g',H',x,hA,hv,hr⟩:=he
  obtain⟨y',hb,hr'⟩:=hR _ _ _ hr
  refine⟨_,_,_,y',hA.settle (S root) h3,?_,hr'⟩
  exact RV.bw hA.inv (fun b hb=>.inl hb) (fun n o b hS ho hk=>.inr ⟨n,o,by simpa using hS,ho,hk⟩) hb hv
 | panicked ch =>
  obtain⟨_,_,_,_,_,_,_,_,hx⟩:=he
  exact hx.elim
 | outgrown=>exact he.elim
theorem qV.settle (h:qV P gl f az R) {S:AV→Prop} (hR:∀ r y H',R r y H'→∃ y',Bw H' noD y y'∧S y'):qV P gl f az (fun _ y _=>S y) :=
 FnE.settle (fun _ _=>true) h fun r y H' hr=>by
  obtain⟨y',h1,h2⟩:=hR r y H' hr
  exact⟨y',h1,h2⟩
end
end Go.Hm
end
