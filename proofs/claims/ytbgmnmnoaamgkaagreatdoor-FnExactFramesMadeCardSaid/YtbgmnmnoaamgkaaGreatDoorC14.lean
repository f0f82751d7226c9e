/-
  Own texts, joined by mkclaim.py: Hm113, Hm192, Hm114, Hm115, Hm117, Hm118, Hm119, Hm120, Hm121.
-/
import Derived.Test.YtbgmnmnoaamgkaaGreatDoorC13
import Derived.Test.YtbgmnmnoaamgkaaGreatDoorC10
import Derived.Test.YtbgmnmnoaamgkaaGreatDoorC12
set_option linter.unusedSimpArgs false
set_option linter.unusedVariables false
set_option maxRecDepth 100000
set_option maxHeartbeats 4000000

section
namespace Go.Hm
open Go Go.RowKit
section
variable {p:Prg} {m:Mch} {b e:Nat} {fs:List Frm} {f g:Frm} {o:Int×Int} {v:Val} {k:Blk} {x:Int} {l:List (Int×Int)}
def qDo (p:Prg) (m:Mch):Prop:=m.en≠0∨m.frames=[]∨qP3 p m
theorem qGu {l:List Frm} {a:Frm}:qE4 p (l++[a])=qE4 p l+jk p a:=by simp [qE4]
theorem qI0 (h:MOk p m fs f) (hv:VOk m.funs.length m.classes.length v):qDo p (zf m fs v):=by
 unfold zf
 cases hl:fs.getLast? with
 | none=>exact .inr (.inl rfl)
 | some g =>
  obtain⟨gs,rfl⟩:∃ gs,fs=gs++[g]:=by
   obtain⟨ys,hy⟩:=List.getLast?_eq_some_iff.1 hl
   exact⟨ys,hy⟩
  have hg:=h.low g (by simp)
  have h1:=h.made
  have h2:=h.nf
  have h3:=h.out
  have h4:=h.nk
  have h5:=h.deep
  rw [qGu] at h1 h2 h3
  have hp1:jk p (g.push v)=jk p g:=rfl
  simp only [List.length_append,List.length_singleton] at h4 h5
  refine .inr (.inr ⟨gs,g.push v,by simp,⟨h.cells,h.glob,h.cls,h.funs,fun q hq=>h.low q (by simp [hq]),⟨hg.blk,hg.fl,hg.fv,hg.cl,hg.cr,hg.nm,fun u hu=>?_,?_,hg.pc,?_⟩,by rw [hp1];simp only;omega,by rw [hp1];simp only;omega,by simp only;omega,h.nc,by rw [hp1];simp only;omega,h.tr,by simp only;omega,fun q hq=>?_⟩⟩)
  ·rcases List.mem_append.1 hu with e|e
   ·exact hg.sv u e
   ·simp only [List.mem_singleton] at e;subst e;exact hv
  ·have:=hg.sl
   simp [Frm.push]
   omega
  ·simpa [Frm.push] using hg.ok
  ·cases gs with
   | nil =>
    simp at hq;subst hq
    exact h.b0 g (by simp)
   | cons a l=>exact h.b0 q (by simpa using hq)
theorem qMW {c:List Slt} (h:MOk p m fs f) (hc:SOk m.funs.length m.classes.length c) (hn:m.classes.length+1+fs.length≤m.made):qDo p (zf { m with classes:=m.classes++[c] } fs (3,m.classes.length)):=by
 have hl:m.classes.length≤(m.classes++[c]).length:=by simp
 have hm:=h.made
 unfold zf
 cases hlst:fs.getLast? with
 | none=>exact .inr (.inl rfl)
 | some g =>
  obtain⟨gs,rfl⟩:∃ gs,fs=gs++[g]:=by
   obtain⟨ys,hy⟩:=List.getLast?_eq_some_iff.1 hlst
   exact⟨ys,hy⟩
  have hg:=(h.low g (by simp)).mono (nf':=m.funs.length) (nk':=(m.classes++[c]).length) (nc':=m.cells.length) (Nat.le_refl _) hl (Nat.le_refl _)
  have h1:=h.made
  have h2:=h.nf
  have h3:=h.out
  have h5:=h.deep
  rw [qGu] at h1 h2 h3
  have hp1:∀ u,jk p (g.push u)=jk p g:=fun _=>rfl
  simp only [List.length_append,List.length_singleton] at hn h5
  refine .inr (.inr ⟨gs,g.push (3,(m.classes.length:Int)),by simp,⟨fun u hu=>(h.cells u hu).mono (Nat.le_refl _) hl,h.glob.mono (Nat.le_refl _) hl,fun q hq=>?_,h.funs,fun q hq=>(h.low q (by simp [hq])).mono (Nat.le_refl _) hl (Nat.le_refl _),⟨hg.blk,hg.fl,hg.fv,hg.cl,hg.cr,hg.nm,fun u hu=>?_,?_,hg.pc,?_⟩,by rw [hp1];simp only;omega,by rw [hp1];simp only;omega,by simp only [List.length_append,List.length_singleton];omega,h.nc,by rw [hp1];simp only;omega,h.tr,by simp only;omega,fun q hq=>?_⟩⟩)
  ·rcases List.mem_append.1 hq with e|e
   ·exact (h.cls q e).mono (Nat.le_refl _) hl
   ·simp only [List.mem_singleton] at e;subst e
    exact hc.mono (Nat.le_refl _) hl
  ·rcases List.mem_append.1 hu with e|e
   ·exact hg.sv u e
   ·simp only [List.mem_singleton] at e;subst e
    exact⟨by simp only;omega,fun e=>by simp at e,fun _=>by simp only [List.length_append,List.length_singleton];omega⟩
  ·have:=hg.sl
   simp [Frm.push]
   omega
  ·simpa [Frm.push] using hg.ok
  ·cases gs with
   | nil =>
    simp at hq;subst hq
    exact h.b0 g (by simp)
   | cons a l=>exact h.b0 q (by simpa using hq)
theorem qQc {st:List Val} (h:MOk p m fs f) (ho:(jx p f.blk)[f.pc]?=some o) (h0:o.1≠0) (hs:∀ u∈st,u∈f.stack) (hl:st.length≤f.stack.length) (hok:zJ st.length ((jx p f.blk).drop (f.pc+1))):MOk p m fs { f with pc:=f.pc+1,stack:=st } :=
 h.re ho rfl (fun u hu=>h.top.sv u (hs u hu)) (by have:=h.top.sl;omega) hok h0
theorem qIa {st:List Val} {b:Nat} {cs:List Nat} {vs:List Val} (hp:ValP p) (h:MOk p m fs f) (ho:(jx p f.blk)[f.pc]?=some o) (h0:o.1=16∨o.1=17) (hs:∀ u∈st,u∈f.stack) (hl:st.length+1≤f.pc+1) (hok:zJ (st.length+1) ((jx p f.blk).drop (f.pc+1)))
  (hb:b<p.length) (hb0:0<b) (hcsl:cs.length=(q9 p b).length) (hcs:∀ c∈cs,c<m.cells.length) (hvs:∀ v∈vs,VOk m.funs.length m.classes.length v):qP3 p (z6 p (m.top fs { f with pc:=f.pc+1,stack:=st }) b cs vs):=by
 have hd:=kC ho
 have hpl:=(gS ho).1
 have hp1:jk p f=1+jk p { f with pc:=f.pc+1,stack:=st }:=by
  simp only [jk,hd,jA]
  rw [if_neg (by omega),if_pos (by omega)]
 have h1:=h.made
 have h2:=h.nf
 have h3:=h.out
 have h4:=h.nk
 have h5:=h.deep
 refine qOx (pd:=qE4 p fs+jk p { f with pc:=f.pc+1,stack:=st }) hp hb hb0 h.cells h.glob h.cls h.funs (fun g hg=>?_) (by simp [Mch.top]) (by simp only [Mch.top];exact qGu) ?_ ?_ ?_ h.nc ?_ h.tr ?_ (fun g hg=>?_) hcsl hcs hvs
 ·simp only [Mch.top,List.mem_append,List.mem_singleton] at hg
  rcases hg with e|e
  ·exact h.low g e
  ·subst e
   exact⟨h.top.blk,h.top.fl,h.top.fv,h.top.cl,h.top.cr,h.top.nm,fun u hu=>h.top.sv u (hs u hu),hl,hpl,hok⟩
 ·simp only [Mch.top];omega
 ·simp only [Mch.top];omega
 ·simp only [Mch.top,List.length_append,List.length_singleton];omega
 ·simp only [Mch.top];omega
 ·simp only [Mch.top,List.length_append,List.length_singleton];omega
 ·simp only [Mch.top] at hg
  cases fs with
  | nil=>simp at hg;subst hg;exact h.b0 f (by simp)
  | cons a l=>exact h.b0 g (by simpa using hg)
theorem qJx {c:Int} (h:0≤c∧c≤20):c=0∨c=1∨(2≤c∧c≤13)∨c=14∨c=15∨c=16∨c=17∨c=18∨c=19∨c=20:=by omega
theorem qLF (hp:ValP p) (h:MOk p m fs f) (ho:(jx p f.blk)[f.pc]?=some o):qDo p (vQ p m fs f.next o):=by
 obtain⟨k,hk⟩:∃ k,p[f.blk]?=some k:=⟨_,gE h.top.blk⟩
 have hO:=qIS hp.sh hk o (gM ho)
 have hd:=kC ho
 have hok:=h.top.ok
 rw [hd,Nat.add_zero] at hok
 obtain⟨l,hl⟩:∃ l,l=(jx p f.blk).drop (f.pc+1):=⟨_,rfl⟩
 rw [← hl] at hok hd
 have h1:=h.made
 have h2:=h.nf
 have h3:=h.out
 have hsl:=h.top.sl
 obtain⟨c,a⟩:=o
 simp only [zJ] at hok
 have hstop:∀ (F:Frm) (e:Int),e≠0→qDo p (m.stop fs F e):=fun F e he=>.inl he
 rcases qJx hO.code with rfl|rfl|⟨n2,n13⟩|rfl|rfl|rfl|rfl|rfl|rfl|rfl
 ·-- a statement begins
  simp at hok
  have e0:vQ p m fs f.next (0,a)=un p m fs f.next:=by simp [vQ]
  rw [e0,un]
  by_cases hz:m.left=0
  ·rw [if_pos hz]
   exact hstop _ _ (by decide)
  ·rw [if_neg hz]
   have hpl:=(gS ho).1
   have hpf:jk p f=0:=by simp [jk,hd,jA]
   have hpn:jk p f.next=jA l:=by simp only [jk,Frm.next,← hl]
   have htr:=h.tr
   refine .inr (.inr ⟨fs,f.next,rfl,⟨h.cells,h.glob,h.cls,h.funs,h.low,⟨h.top.blk,h.top.fl,h.top.fv,h.top.cl,h.top.cr,h.top.nm,h.top.sv,by simp only [Frm.next];omega,hpl,?_⟩,?_,?_,h.nk,h.nc,?_,?_,h.deep,fun g hg=>?_⟩⟩)
   ·show zJ (f.stack.length+0) ((jx p f.blk).drop (f.pc+1))
    rw [← hl,hok.1]
    exact hok.2.2
   ·simp only [Mch.top,hpn];omega
   ·simp only [Mch.top,hpn];omega
   ·simp only [Mch.top,hpn];omega
   ·simp only [Mch.top,List.length_append,List.length_singleton];omega
   ·cases fs with
    | nil=>simp at hg;subst hg;exact h.b0 f (by simp)
    | cons a l=>exact h.b0 g (by simpa using hg)
 ·simp at hok
  have e0:vQ p m fs f.next (1,a)=m.top fs (f.next.push (1,a)):=by simp [vQ,zS]
  rw [e0]
  refine .inr (.inr (.of (qKw h ho (by simp) (by rw [← hl];exact hok) ?_)))
  have:=hO.arg
  exact⟨this,by simp,by simp⟩
 ·-- names
  have e0:vQ p m fs f.next (c,a)=if (c - 2) % 3=0 then yj p m fs f.next (c,a) else if (c - 2) % 3=1 then qF4 m fs f.next (c,a) else qIh p m fs f.next (c,a):=by
   unfold vQ
   rw [if_neg (by simp only;omega),if_pos ⟨n2,n13⟩]
  rw [e0]
  have hn:∀ st:List Val,(∀ u∈st,u∈f.stack)→st.length≤f.stack.length→zJ st.length l→MOk p m fs { f with pc:=f.pc+1,stack:=st }:=fun st q1 q2 q3=>qQc h ho (by simp only;omega) q1 q2 (by rw [← hl];exact q3)
  by_cases m0:(c - 2) % 3=0
  ·rw [if_pos m0]
   have hc:c=2∨c=5∨c=8∨c=11:=by omega
   have hok':zJ (f.stack.length+1) l:=by
    rcases hc with rfl|rfl|rfl|rfl <;> simpa using hok
   have push:∀ v,VOk m.funs.length m.classes.length v→qDo p (m.top fs (f.next.push v)):=fun v hv=>.inr (.inr (.of (qKw h ho (by simp only;omega) (by rw [← hl];exact hok') hv)))
   unfold yj
   have hgs:qBc m f.next (c,a)=qBc m f (c,a):=rfl
   rw [hgs]
   cases hg:qBc m f (c,a) with
   | some v=>exact push v (qRc h hg)
   | none =>
    simp only
    split
    ·split
     ·rename_i v hv
      exact push v (h.glob.2 v (kx hv))
     ·split
      ·exact push _ ⟨by decide,by simp,by simp⟩
      ·exact hstop _ _ (by decide)
    ·refine hstop _ _ ?_
     unfold wH
     repeat' split
     all_goals decide
  ·rw [if_neg m0]
   by_cases m1:(c - 2) % 3=1
   ·rw [if_pos m1]
    have hc:c=3∨c=6∨c=9∨c=12:=by omega
    have hok':1≤f.stack.length∧zJ (f.stack.length - 1) l:=by
     rcases hc with rfl|rfl|rfl|rfl <;> simpa using hok
    have hM:=hn f.pop.stack (fun u hu=>kV hu) (by rw [uT];omega) (by rw [uT];exact hok'.2)
    refine .inr (.inr (qK9 (f:=f.next.pop) hM fun v hv=>?_))
    obtain rfl:=sI hv
    exact h.top.sv _ (uP hok'.1)
   ·rw [if_neg m1]
    have hc:c=4∨c=7∨c=10∨c=13:=by omega
    have hok':zJ f.stack.length l:=by
     rcases hc with rfl|rfl|rfl|rfl <;> simpa using hok
    have hM:=hn f.stack (fun u hu=>hu) (Nat.le_refl _) hok'
    unfold qIh
    split
    ·exact .inr (.inr (qK9 (f:=f.next) hM fun v hv=>by cases hv))
    ·refine hstop _ _ ?_
     unfold wH
     repeat' split
     all_goals decide
 ·simp at hok
  have e0:vQ p m fs f.next (14,a)=qMV m fs f.next:=by simp [vQ,zS]
  rw [e0,qMV]
  have hp2:f.next.pop.pop.stack.length=f.stack.length - 2:=by rw [uT,uT];simp [Frm.next];omega
  have hv1:=h.top.sv _ (uP (f:=f) (by omega))
  have hv2:=h.top.sv _ (kV (uP (f:=f.pop) (by rw [uT];omega)))
  split
  ·exact hstop _ _ (by decide)
  ·refine .inr (.inr (.of ?_))
   refine h.re ho rfl (fun u hu=>?_) ?_ ?_ (by simp)
   ·rcases List.mem_append.1 hu with e|e
    ·exact h.top.sv u (kV (kV e))
    ·simp only [List.mem_singleton] at e;subst e
     have e1:f.next.pop.tos=f.pop.tos:=rfl
     have e2:f.next.tos=f.tos:=rfl
     rw [e1,e2]
     have q1:=hv1.num
     have q2:=hv2.num
     refine⟨⟨Int.tmod_nonneg _ (by omega),?_⟩,by simp,by simp⟩
     have:=Int.tmod_lt_of_pos (f.pop.tos.2+f.tos.2) (show (0:Int)<1000 by decide)
     simp only
     omega
   ·simp only [List.length_append,List.length_singleton]
    rw [hp2]
    show f.stack.length - 2+1≤f.pc+1
    omega
   ·simp only [List.length_append,List.length_singleton]
    rw [hp2,← hl]
    have:f.stack.length - 2+1=f.stack.length - 1:=by omega
    rw [this]
    exact hok.2
 ·simp at hok
  obtain⟨q,q1,q2,q3,q4⟩:=hO.blk (.inl rfl)
  simp only at q1 q3 q4
  have e0:vQ p m fs f.next (15,a)={ m.top fs (f.next.push (2,m.funs.length)) with funs:=m.funs++[(a.toNat,y9 p f.next a.toNat)] }:=by simp [vQ,zS]
  rw [e0]
  obtain⟨c1,c2⟩:=qFB hp.sh.heads h.top q1 q2
  have hfl:m.funs.length≤(m.funs++[(a.toNat,y9 p f.next a.toNat)]).length:=by simp
  have hpf:jk p f=1+jA l:=by simp [jk,hd,jA]
  have hpn:jk p (f.next.push (2,(m.funs.length:Int)))=jA l:=by simp only [jk,Frm.next,Frm.push,← hl]
  have hpl:=(gS ho).1
  have hT:=h.top.mono (nf':=(m.funs++[(a.toNat,y9 p f.next a.toNat)]).length) hfl (Nat.le_refl _) (Nat.le_refl _)
  refine .inr (.inr ⟨fs,_,rfl,⟨fun u hu=>(h.cells u hu).mono hfl (Nat.le_refl _),h.glob.mono hfl (Nat.le_refl _),fun u hu=>(h.cls u hu).mono hfl (Nat.le_refl _),fun u hu=>?_,fun u hu=>(h.low u hu).mono hfl (Nat.le_refl _) (Nat.le_refl _),⟨hT.blk,hT.fl,hT.fv,hT.cl,hT.cr,hT.nm,fun u hu=>?_,?_,hpl,?_⟩,?_,?_,h.nk,h.nc,?_,h.tr,h.deep,fun g hg=>?_⟩⟩)
  ·rcases List.mem_append.1 hu with e|e
   ·exact h.funs u e
   ·simp only [List.mem_singleton] at e;subst e
    exact⟨q,q1,by omega,c1,c2⟩
  ·rcases List.mem_append.1 hu with e|e
   ·exact hT.sv u e
   ·simp only [List.mem_singleton] at e;subst e
    exact⟨by simp only;omega,fun _=>by simp only [List.length_append,List.length_singleton];omega,by simp⟩
  ·simp [Frm.push,Frm.next];omega
  ·simpa [Frm.push,Frm.next,← hl] using hok
  ·simp only [Mch.top,hpn];omega
  ·simp only [Mch.top,hpn,List.length_append,List.length_singleton];omega
  ·simp only [Mch.top,hpn];omega
  ·cases fs with
   | nil=>simp at hg;subst hg;exact h.b0 f (by simp)
   | cons a l=>exact h.b0 g (by simpa using hg)
 ·simp at hok
  obtain⟨q,q1,q2,q3,q4⟩:=hO.blk (.inr rfl)
  simp only at q1 q3 q4
  have e0:vQ p m fs f.next (16,a)=z6 p (m.top fs f.next) a.toNat (y9 p f.next a.toNat) []:=by simp [vQ,zS]
  rw [e0]
  obtain⟨c1,c2⟩:=qFB hp.sh.heads h.top q1 q2
  exact .inr (.inr (qIa (st:=f.stack) hp h ho (.inl rfl) (fun u hu=>hu) (by omega) (by rw [← hl];exact hok) (gS q1).1 (by omega) c1 c2 (fun v hv=>by simp at hv)))
 ·simp at hok
  have e0:vQ p m fs f.next (17,a)=qA9 p m fs f.next (17,a):=by simp [vQ,zS]
  rw [e0,qA9]
  simp only
  obtain⟨n,hn⟩:∃ n,a.toNat=n:=⟨_,rfl⟩
  rw [hn] at hok ⊢
  have hnl:f.next.stack.length=f.stack.length:=rfl
  have hns:f.next.stack=f.stack:=rfl
  rw [hns]
  have hkl:f.stack.length - n - 1<f.stack.length:=by omega
  have hg:VOk m.funs.length m.classes.length (f.stack.getD (f.stack.length - n - 1) (0,0)):=qRd h.top.sv _
  split
  ·exact hstop _ _ (by decide)
  ·rename_i hg2
   have hg2':(f.stack.getD (f.stack.length - n - 1) (0,0)).1=2:=by simpa using hg2
   split
   ·rename_i q hq
    split
    ·exact hstop _ _ (by decide)
    ·obtain⟨kb,r1,r2,r3,r4⟩:=h.funs q (gM hq)
     have hq0:0<q.1:=by
      rcases Nat.eq_zero_or_pos q.1 with e|e
      ·rw [e] at r1
       have:=(hp.sh.kind0 r1).2 rfl
       omega
      ·exact e
     have hls:(f.stack.take (f.stack.length - n - 1)).length=f.stack.length - n - 1:=by simp;omega
     refine .inr (.inr (qIa (st:=f.stack.take (f.stack.length - n - 1)) hp h ho (.inr rfl) (fun u hu=>List.mem_of_mem_take hu) (by rw [hls];omega) ?_ (gS r1).1 hq0 r3 r4 (fun v hv=>h.top.sv v (List.mem_of_mem_drop hv))))
     rw [hls,← hl]
     have:f.stack.length - n - 1+1=f.stack.length - n:=by omega
     rw [this]
     exact hok.2
   ·exact hstop _ _ (by decide)
 ·simp at hok
  have e0:vQ p m fs f.next (18,a)=qBD m fs f.next (18,a):=by simp [vQ,zS]
  rw [e0,qBD]
  simp only
  split
  ·exact hstop _ _ (by decide)
  ·split
   ·rename_i u hu
    have hv:VOk m.funs.length m.classes.length u:=by
     have hm:=kx hu
     rw [List.getD_eq_getElem?_getD] at hm
     cases hc:m.classes[f.next.tos.2.toNat]? with
     | none=>rw [hc] at hm;simp at hm
     | some cl =>
      rw [hc] at hm
      exact (h.cls cl (gM hc)).2 u hm
    refine .inr (.inr (.of ?_))
    have hp1:f.next.pop.stack.length=f.stack.length - 1:=by rw [uT];rfl
    refine h.re ho rfl (fun w hw=>?_) ?_ ?_ (by simp)
    ·rcases List.mem_append.1 hw with e|e
     ·exact h.top.sv w (kV e)
     ·simp only [List.mem_singleton] at e;subst e;exact hv
    ·simp only [List.length_append,List.length_singleton]
     rw [hp1]
     show f.stack.length - 1+1≤f.pc+1
     omega
    ·simp only [List.length_append,List.length_singleton]
     rw [hp1,← hl]
     have:f.stack.length - 1+1=f.stack.length:=by omega
     rw [this]
     exact hok.2
   ·exact hstop _ _ (by decide)
 ·simp at hok
  have e0:vQ p m fs f.next (19,a)={ m.top fs f.next.pop with out:=m.out++[shown f.next.tos] }:=by simp [vQ,zS]
  rw [e0]
  have hpf:jk p f=1+jA l:=by simp [jk,hd,jA]
  have hpn:jk p f.next.pop=jA l:=by simp only [jk,Frm.next,Frm.pop,← hl]
  have hpl:=(gS ho).1
  have hp1:f.next.pop.stack.length=f.stack.length - 1:=by rw [uT];rfl
  refine .inr (.inr ⟨fs,f.next.pop,rfl,⟨h.cells,h.glob,h.cls,h.funs,h.low,⟨h.top.blk,h.top.fl,h.top.fv,h.top.cl,h.top.cr,h.top.nm,fun u hu=>h.top.sv u (kV hu),?_,hpl,?_⟩,?_,?_,h.nk,h.nc,?_,h.tr,h.deep,fun g hg=>?_⟩⟩)
  ·rw [hp1];simp only [Frm.pop,Frm.next];omega
  ·rw [Nat.add_zero,hp1]
   simp only [Frm.pop,Frm.next,← hl]
   exact hok.2
  ·simp only [Mch.top,hpn];omega
  ·simp only [Mch.top,hpn];omega
  ·simp only [Mch.top,hpn,List.length_append,List.length_singleton];omega
  ·cases fs with
   | nil=>simp at hg;subst hg;exact h.b0 f (by simp)
   | cons a l=>exact h.b0 g (by simpa using hg)
 ·simp at hok
  have e0:vQ p m fs f.next (20,a)=zf m fs f.next.tos:=by simp [vQ,zS]
  rw [e0]
  exact qI0 h (h.top.sv _ (uP hok.1))
theorem qJB (hp:ValP p) (hf:m.frames=fs++[f]) (h:MOk p m fs f):qDo p (uQ p m):=by
 cases ho:(jx p f.blk)[f.pc]? with
 | some o =>
  rw [step_ord hf ho]
  exact qLF hp h ho
 | none =>
  rw [step_end hf ho,qG5]
  split
  ·have:=h.nk
   exact qMW h h.top.nm (by omega)
  ·exact qI0 h .zero
theorem qFe (hp:ValP p) {n:Nat} (hn:n≤150):∀ i,(jN p i (qb p n)).ended∨qP3 p (jN p i (qb p n))
 | 0=>by
  right
  have hl:=hp.sh.len
  obtain⟨k,hk⟩:∃ k,p[0]?=some k:=⟨_,gE (by omega)⟩
  have hk0:=(hp.sh.kind0 hk).2 rfl
  have hka:qt p 0=0:=by simp [qt,hk,hk0]
  have hc0:qF p 0=[]:=by unfold qF;rw [if_neg (by omega)]
  have hf0:qT p 0=[]:=by unfold qT;rw [if_neg (by omega)]
  have hr0:q9 p 0=[]:=by
   rw [List.eq_nil_iff_forall_not_mem]
   intro x hx
   exact absurd (qA3 hx) (by decide)
  have hps:(qk p 0).params=[]:=by
   have:=hp.sh.head 0 k hk
   unfold jL at this
   rw [if_pos rfl] at this
   simp only [qk,hk]
   exact List.eq_nil_of_length_eq_zero this.2.2
  have hM:qb p n=⟨[],qm,[],[],[⟨0,0,[],[],qm,[]⟩],1,1,[],[],0,n⟩:=by
   unfold qb z6
   rw [hps]
   simp [qi,hc0,hf0]
  obtain⟨o1,o2⟩:=qGE (b:=0) hp.sh (by omega)
  simp only [jN,hM]
  have hpF:jk p ⟨0,0,[],[],qm,[]⟩=0:=by simp only [jk,List.drop_zero,o2]
  have hpS:qE4 p []=0:=rfl
  refine⟨[],_,rfl,⟨by simp,.none,by simp,by simp,by simp,⟨by simp only;omega,by simp [hf0],by simp,by simp [hc0,hr0],by simp,.none,by simp,by simp,by simp,by simpa using o1⟩,?_,?_,?_,?_,?_,?_,?_,?_⟩⟩
  all_goals try simp only [hpF,hpS,List.length_nil]
  all_goals first|omega|(intro g hg;simp at hg;subst hg;rfl)
 | i+1=>by
  rw [vK]
  rcases qFe hp hn i with h|h
  ·rw [if_pos h];exact .inl h
  ·by_cases he:(jN p i (qb p n)).ended
   ·rw [if_pos he];exact .inl he
   ·rw [if_neg he]
    obtain⟨fs,f,h1,h2⟩:=h
    rcases qJB hp h1 h2 with e|e|e
    ·exact .inl (.inr e)
    ·exact .inl (.inl e)
    ·exact .inr e
end
section
variable {p:Prg} {m m':Mch} {b n:Nat} {fs:List Frm} {f g:Frm} {o:Int×Int} {v:Val} {s:Slt}
def qDN (f:Frm):Nat:=61 - f.pc
def qC9 (m:Mch):Nat:=(151 - m.made) * 62+(m.frames.map qDN).sum
def qVT (m:Mch) (fs:List Frm) (pc:Nat) (m':Mch):Prop:=(∃ g,m'.frames=fs++[g]∧g.pc=pc)∧m'.made=m.made∧m'.out.length≤m.out.length+1∧m'.trace.length≤m.trace.length+1∧m'.globals.length=m.globals.length
theorem qO4 (h:g.pc=f.pc):qVT m fs f.pc (m.top fs g):=⟨⟨g,rfl,h⟩,rfl,by simp [Mch.top],by simp [Mch.top],rfl⟩
theorem qLc {e:Int} (h:g.pc=f.pc):qVT m fs f.pc (m.stop fs g e):=⟨⟨g,rfl,h⟩,rfl,by simp [Mch.stop,Mch.top],by simp [Mch.stop,Mch.top],rfl⟩
theorem qI7 (h:g.pc=f.pc):qVT m fs f.pc (setS m fs g o s):=by
 unfold setS
 repeat' split
 all_goals exact⟨⟨_,rfl,h⟩,rfl,by simp [Mch.top],by simp [Mch.top],by simp [Mch.top]⟩
theorem qDe {cs:List Nat} {vs:List Val}:(∃ g,(z6 p m b cs vs).frames=m.frames++[g])∧(z6 p m b cs vs).made=m.made+1∧(z6 p m b cs vs).out=m.out∧(z6 p m b cs vs).trace=m.trace∧(z6 p m b cs vs).globals=m.globals:=by
 unfold z6
 split
 ·split <;> exact⟨⟨_,rfl⟩,rfl,rfl,rfl,rfl⟩
 ·exact⟨⟨_,rfl⟩,rfl,rfl,rfl,rfl⟩
def qRp (m m':Mch):Prop:=qC9 m'<qC9 m∧m'.out.length≤m.out.length+1∧m'.trace.length≤m.trace.length+1∧m'.globals.length=m.globals.length
theorem qL5 (hm:m.frames=fs++[f]) (hp:f.pc<61) (h:qVT m fs (f.pc+1) m'):qRp m m':=by
 obtain⟨⟨g,h1,h2⟩,h3,h4⟩:=h
 refine⟨?_,h4⟩
 simp only [qC9,hm,h1,h3,List.map_append,List.map_cons,List.map_nil,List.sum_append_nat,List.sum_cons,List.sum_nil,qDN,h2]
 omega
theorem qDb {cs:List Nat} {vs:List Val} (hm:m.frames=fs++[f]) (hp:f.pc<61) (hg:g.pc=f.pc+1) (hmd:m.made≤150):qRp m (z6 p (m.top fs g) b cs vs):=by
 obtain⟨⟨x,h1⟩,h2,h3,h4,h5⟩:=qDe (p:=p) (m:=m.top fs g) (b:=b) (cs:=cs) (vs:=vs)
 refine⟨?_,by rw [h3];exact Nat.le_succ _,by rw [h4];exact Nat.le_succ _,by rw [h5];rfl⟩
 have h6:(m.top fs g).frames=fs++[g]:=rfl
 have h7:(m.top fs g).made=m.made:=rfl
 simp only [qC9,hm,h1,h2,h6,h7,List.map_append,List.map_cons,List.map_nil,List.sum_append_nat,List.sum_cons,List.sum_nil,qDN,hg]
 omega
theorem qAy (hm:m.frames=fs++[f]) (hp:f.pc<61) (hf:m'.made=m.made) (ho:m'.out=m.out) (ht:m'.trace=m.trace) (hg:m'.globals=m.globals):qRp m (zf m' fs v):=by
 unfold zf
 split
 ·rename_i g hl
  have hs:((fs.dropLast++[g.push v]).map qDN).sum=(fs.map qDN).sum:=by
   have e:fs=fs.dropLast++[g]:=by
    have hne:fs≠[]:=fun e=>by rw [e] at hl;cases hl
    rw [List.getLast?_eq_some_getLast hne] at hl
    obtain rfl:=sI hl
    exact (List.dropLast_concat_getLast hne).symm
   conv=>rhs;rw [e]
   simp [qDN,Frm.push]
  refine⟨?_,by simp [ho],by simp [ht],by simp [hg]⟩
  have e1:qC9 { m' with frames:=fs.dropLast++[g.push v] }=(151 - m'.made) * 62+(fs.map qDN).sum:=by rw [← hs];rfl
  have e2:qC9 m=(151 - m.made) * 62+((fs.map qDN).sum+(61 - f.pc)):=by simp [qC9,hm,qDN]
  rw [e1,e2,hf]
  omega
 ·refine⟨?_,by simp [ho],by simp [ht],by simp [hg]⟩
  simp only [qC9,hf,hm,List.map_append,List.map_cons,List.map_nil,List.sum_append_nat,List.sum_cons,List.sum_nil,qDN]
  omega
theorem qF6 (hp:ValP p) (hm:m.frames=fs++[f]) (hM:MOk p m fs f):qRp m (uQ p m):=by
 have hol:=ur (p:=p) (b:=f.blk) hp.sh
 have hpc:=hM.top.pc
 have h61:f.pc<61:=by omega
 cases ho:(jx p f.blk)[f.pc]? with
 | none =>
  rw [Hm.step_end hm ho]
  unfold qG5
  split
  ·exact qAy hm h61 rfl rfl rfl rfl
  ·exact qAy hm h61 rfl rfl rfl rfl
 | some o =>
  rw [Hm.step_ord hm ho]
  have hmd:=hM.made
  have hpend:o.1=16∨o.1=17→m.made≤150:=fun h=>by
   have h2:1≤jk p f:=by
    unfold jk
    rw [kC ho]
    simp only [jA]
    rw [if_neg (by omega),if_pos (by omega)]
    omega
   omega
  have hG:∀ m',qVT m fs f.next.pc m'→qRp m m':=fun m' h=>qL5 hm h61 h
  have hT:∀ g:Frm,g.pc=f.next.pc→qRp m (m.top fs g):=fun g h=>hG _ (qO4 h)
  have hS:∀ (g:Frm) (e:Int),g.pc=f.next.pc→qRp m (m.stop fs g e):=fun g e h=>hG _ (qLc h)
  unfold vQ
  split
  ·unfold un
   split
   ·exact hS _ _ rfl
   ·exact hG _ ⟨⟨_,rfl,rfl⟩,rfl,by simp [Mch.top],by simp,rfl⟩
  ·split
   ·split
    ·unfold yj
     repeat' split
     all_goals first|exact hT _ rfl|exact hS _ _ rfl
    ·split
     ·exact hG _ (qI7 rfl)
     ·unfold qIh
      split
      ·exact hG _ (qI7 rfl)
      ·exact hS _ _ rfl
   ·unfold zS
    split
    ·exact hT _ rfl
    split
    ·unfold qMV
     dsimp only
     split
     ·exact hS _ _ rfl
     ·exact hT _ rfl
    split
    ·exact hG _ ⟨⟨_,rfl,rfl⟩,rfl,by simp [Mch.top],by simp [Mch.top],rfl⟩
    split
    ·exact qDb hm h61 rfl (hpend (by omega))
    split
    ·unfold qA9
     dsimp only
     split
     ·exact hS _ _ rfl
     ·split
      ·split
       ·exact hS _ _ rfl
       ·exact qDb hm h61 rfl (hpend (by omega))
      ·exact hS _ _ rfl
    split
    ·unfold qBD
     dsimp only
     split
     ·exact hS _ _ rfl
     ·split
      ·exact hT _ rfl
      ·exact hS _ _ rfl
    split
    ·exact hG _ ⟨⟨_,rfl,rfl⟩,rfl,by simp,by simp [Mch.top],rfl⟩
    ·exact qAy hm h61 rfl rfl rfl rfl
theorem qNt (hp:ValP p) (hn:n≤150):∃ N,(jN p N (qb p n)).ended:=by
 have key:∀ i,(jN p i (qb p n)).ended∨qC9 (jN p i (qb p n))+i≤qC9 (qb p n):=by
  intro i
  induction i with
  | zero=>exact .inr (Nat.le_refl _)
  | succ i ih =>
   rcases ih with h|h
   ·left
    rw [vK,if_pos h]
    exact h
   ·by_cases he:(jN p i (qb p n)).ended
    ·left
     rw [vK,if_pos he]
     exact he
    ·right
     rw [vK,if_neg he]
     obtain⟨fs,f,h1,h2⟩:=(qFe hp hn i).resolve_left he
     have:=(qF6 hp h1 h2).1
     omega
 rcases key (qC9 (qb p n)+1) with h|h
 ·exact⟨_,h⟩
 ·omega
theorem qPN (hp:ValP p) (hn:n≤150):∀ i,(jN p i (qb p n)).out.length≤151∧(jN p i (qb p n)).trace.length≤151∧(jN p i (qb p n)).globals.length=8
 | 0=>by
  obtain⟨_,_,h3,h4,h5⟩:=qDe (p:=p) (m:=qi n) (b:=0) (cs:=[]) (vs:=[])
  have e:jN p 0 (qb p n)=z6 p (qi n) 0 [] []:=rfl
  rw [e,h3,h4,h5]
  exact⟨by simp [qi],by simp [qi],by simp [qi]⟩
 | i+1=>by
  have ih:=qPN hp hn i
  by_cases he:(jN p i (qb p n)).ended
  ·rw [vK,if_pos he]
   exact ih
  ·rw [vK,if_neg he]
   obtain⟨fs,f,h1,h2⟩:=(qFe hp hn i).resolve_left he
   obtain⟨_,h3,h4,h5⟩:=qF6 hp h1 h2
   have h6:=h2.out
   have h7:=h2.tr
   have h8:=h2.glob.1
   exact⟨by omega,by omega,by omega⟩
end
end Go.Hm
end
section

end
section
namespace Go.Hm
open Go Go.RowKit
section
variable {p:Prg} {m:Mch} {b d n i j N M t:Nat} {fs:List Frm} {f g:Frm} {o:Int×Int} {v:Val} {k:Blk} {x:Int}
structure McIn (p:Prg) (t:Nat) (m:Mch):Prop where
 fr:m.frames.length≤m.deep
 dm:m.deep≤m.made
 d1:1≤m.deep
 cells:m.cells.length≤t * (m.made - 1)
theorem McIn.of {m':Mch} (h:McIn p t m) (h1:m'.frames.length≤m.frames.length) (h2:m'.deep=m.deep) (h3:m'.made=m.made) (h4:m'.cells.length=m.cells.length):McIn p t m' :=
 ⟨by have:=h.fr;omega,by have:=h.dm;omega,by have:=h.d1;omega,by rw [h4,h3];exact h.cells⟩
theorem qR9 (h:McIn p t m) (hl:fs.length+1=m.frames.length):McIn p t (m.top fs f):=h.of (by simp [Mch.top];omega) rfl rfl rfl
theorem qI5 {s:Slt} (h:McIn p t m) (hl:fs.length+1=m.frames.length):McIn p t (setS m fs f o s):=by
 unfold setS
 repeat' split
 all_goals exact h.of (by simp [Mch.top];omega) rfl rfl (by simp [Mch.top])
theorem qGR {cs:List Nat} {vs:List Val} (ht:∀ b,(qF p b).length≤t) (h:McIn p t m):McIn p t (z6 p m b cs vs):=by
 have hb:=ht b
 have h1:=h.fr
 have h2:=h.dm
 have h3:=h.d1
 have h4:=h.cells
 have key:∀ {C:List Slt} {F:List Frm},C.length=m.cells.length+(qF p b).length→F.length=m.frames.length+1→McIn p t { m with cells:=C,made:=m.made+1,deep:=max m.deep (m.frames.length+1),frames:=F }:=by
  intro C F e1 e2
  refine⟨by simp only;omega,by simp only;omega,by simp only;omega,?_⟩
  simp only [e1]
  obtain⟨q,hq⟩:∃ q,m.made=q+1:=⟨m.made - 1,by omega⟩
  rw [hq] at h4 ⊢
  simp only [Nat.add_sub_cancel] at h4 ⊢
  rw [Nat.mul_succ]
  omega
 unfold z6
 split
 ·split
  ·exact key (by simp) (by simp)
  ·exact key (by simp) (by simp)
 ·exact key (by simp) (by simp)
theorem qCh (h:McIn p t m) (hl:fs.length+1=m.frames.length):McIn p t (zf m fs v):=by
 unfold zf
 split
 ·rename_i g hg
  refine h.of ?_ rfl rfl rfl
  simp only [List.length_append,List.length_dropLast,List.length_singleton]
  have:fs.length≠0:=fun e=>by rw [List.eq_nil_of_length_eq_zero e] at hg;cases hg
  omega
 ·exact h.of (by simp) rfl rfl rfl
theorem qI4 (ht:∀ b,(qF p b).length≤t) (h:McIn p t m):McIn p t (uQ p m):=by
 unfold uQ
 split
 ·rename_i f hf
  have hl:m.frames.dropLast.length+1=m.frames.length:=by
   have:m.frames.length≠0:=fun e=>by rw [List.eq_nil_of_length_eq_zero e] at hf;cases hf
   rw [List.length_dropLast]
   omega
  have hT:∀ F:Frm,McIn p t (m.top m.frames.dropLast F):=fun F=>qR9 h hl
  have hS:∀ (F:Frm) (E:Int),McIn p t (m.stop m.frames.dropLast F E):=fun F E=>(hT F).of (Nat.le_refl _) rfl rfl rfl
  split
  ·rename_i o ho
   unfold vQ
   split
   ·unfold un
    split
    ·exact hS _ _
    ·exact (hT _).of (Nat.le_refl _) rfl rfl rfl
   ·split
    ·split
     ·unfold yj
      repeat' split
      all_goals first|exact hT _|exact hS _ _
     ·split
      ·exact qI5 h hl
      ·unfold qIh
       split
       ·exact qI5 h hl
       ·exact hS _ _
    ·unfold zS
     split
     ·exact hT _
     ·split
      ·unfold qMV
       dsimp only
       split
       ·exact hS _ _
       ·exact hT _
      ·split
       ·exact (hT _).of (Nat.le_refl _) rfl rfl rfl
       ·split
        ·exact qGR ht (hT _)
        ·split
         ·unfold qA9
          dsimp only
          split
          ·exact hS _ _
          ·split
           ·split
            ·exact hS _ _
            ·exact qGR ht (hT _)
           ·exact hS _ _
         ·split
          ·unfold qBD
           dsimp only
           split
           ·exact hS _ _
           ·split
            ·exact hT _
            ·exact hS _ _
          ·split
           ·exact (hT _).of (Nat.le_refl _) rfl rfl rfl
           ·exact qCh h hl
  ·unfold qG5
   split
   ·exact qCh (m:={ m with classes:=m.classes++[f.names] }) (h.of (Nat.le_refl _) rfl rfl rfl) hl
   ·exact qCh h hl
 ·exact h
theorem qLb (ht:∀ b,(qF p b).length≤t):∀ (i:Nat) {m:Mch},McIn p t m→McIn p t (jN p i m)
 | 0,_,h=>h
 | i+1,m,h=>by
  rw [jN]
  split
  ·exact h
  ·exact qLb ht i (qI4 ht h)
theorem qLa (hp:ValP p):McIn p t (qb p n):=by
 obtain⟨hR,f,hf,_⟩:=qK0 (n:=n) hp
 have hl:=hp.sh.len
 obtain⟨k,hk⟩:∃ k,p[0]?=some k:=⟨_,gE (by omega)⟩
 have hk0:=(hp.sh.kind0 hk).2 rfl
 have hka:qt p 0=0:=by simp [qt,hk,hk0]
 have hc0:qF p 0=[]:=by unfold qF;rw [if_neg (by omega)]
 have hps:(qk p 0).params=[]:=by
  have:=hp.sh.head 0 k hk
  unfold jL at this
  rw [if_pos rfl] at this
  simp only [qk,hk]
  exact List.eq_nil_of_length_eq_zero this.2.2
 unfold qb z6
 rw [hps]
 exact⟨by simp [qi],by simp [qi],by simp [qi],by simp [qi,hc0]⟩
open Classical in
noncomputable def uZ (p:Prg) (n:Nat):Mch:=if h:∃ N,(jN p N (qb p n)).ended then jN p (Classical.choose h) (qb p n) else qb p n
theorem qHO (h:(jN p i (qb p n)).ended):jN p i (qb p n)=uZ p n:=by
 have hE:∃ N,(jN p N (qb p n)).ended:=⟨i,h⟩
 unfold uZ
 rw [dif_pos hE]
 have h2:=Classical.choose_spec hE
 rcases Nat.le_total i (Classical.choose hE) with hle|hle
 ·exact (qCK h hle).symm
 ·exact qCK h2 hle
theorem qCQ (hp:ValP p) (hn:n≤150):∃ N,(∀ i,i<N→¬ (jN p i (qb p n)).ended)∧(jN p N (qb p n)).ended∧jN p N (qb p n)=uZ p n:=by
 obtain⟨N,hN⟩:=qNt (n:=n) hp hn
 have key:∀ N,(jN p N (qb p n)).ended→∃ M,(∀ i,i<M→¬ (jN p i (qb p n)).ended)∧(jN p M (qb p n)).ended:=by
  intro N
  induction N with
  | zero=>exact fun h=>⟨0,by simp,h⟩
  | succ N ih =>
   intro h
   by_cases hE:(jN p N (qb p n)).ended
   ·exact ih hE
   ·refine⟨N+1,fun i hi hi'=>?_,h⟩
    exact hE (by rw [qCK hi' (show i≤N by omega)];exact hi')
 obtain⟨M,h1,h2⟩:=key N hN
 exact⟨M,h1,h2,qHO h2⟩
theorem wS (hp:ValP p) (hn:n≤150):(uZ p n).out.length≤151∧(uZ p n).trace.length≤151∧(uZ p n).globals.length=8:=by
 obtain⟨N,_,_,h⟩:=qCQ (n:=n) hp hn
 rw [← h]
 exact qPN hp hn N
end
end Go.Hm
end
section

end
section

end
section
namespace Go.Hm
open Go Go.RowKit
def vr (S:Nm→Bool) (H:Nm→Option AO):Nm→Option AO:=fun n=>if S n=true then none else H n
section
variable {own:Nat→Prop} {C C':Nat→Prop} {w w':World} {g g':Gh} {D:Nm→Bool} {root:Nm} {H H':Nm→Option AO}
def qVZ (S:Nm→Bool) (C:Nat→Prop) (g:Gh) (H:Nm→Option AO) (b:Nat):Prop:=C b∨∃ n o,S n=true∧H n=some o∧g.φ n=some b
theorem After.settle (h:After own C w g D root H H' C' g' w') (S:Nm→Bool) (hw:∀ n,H n≠none→D n=true):After own C w g D root H (vr S H') (qVZ S C' g' H') (g'.more (qVZ S C' g' H')) w':=by
 have hC:∀ b,g'.C b→qVZ S C' g' H' b:=fun b hb=>.inl (h.inv.hC ▸ hb)
 have old:∀ n o,vr S H' n=some o→H' n=some o∧S n≠true:=by
  intro n o e
  unfold vr at e
  split at e
  ·cases e
  ·exact⟨e,by assumption⟩
 refine⟨fun b hb=>.inl (h.mono b hb),?_,⟨h.inv.os,h.inv.tape,h.inv.output,h.inv.size,h.inv.keep,rfl,?_,?_,?_,?_⟩,?_,h.same,h.ust⟩
 ·rintro b (hb|⟨n,o,_,ho,hk⟩)
  ·exact h.new b hb
  ·exact .inr (h.inv.blk n o b ho hk).2.1
 ·rintro b (hb|⟨n,o,_,ho,hk⟩)
  ·exact h.inv.clt b hb
  ·exact (h.inv.blk n o b ho hk).2.2
 ·intro n o e
  have:=(h.inv.obj n o (old n o e).1).tr (g':=g'.more (qVZ S C' g' H')) (w':=w') (n':=n) (f:=some) hC (fun _ _=>rfl) (fun k k' e=>by obtain rfl:=sI e;exact⟨rfl,rfl⟩) rfl (fun _ _=>rfl)
  rwa [AO.tr_some] at this
 ·intro n o b e hk
  obtain⟨e1,e2⟩:=old n o e
  obtain⟨x1,x2,x3⟩:=h.inv.blk n o b e1 hk
  refine⟨?_,x2,x3⟩
  rintro (hb|⟨n',o',hs,ho',hk'⟩)
  ·exact x1 hb
  ·exact e2 (h.inv.inj n' n o' o b ho' e1 hk' hk ▸ hs)
 ·intro n n' o o' b e e' hk hk'
  exact h.inv.inj n n' o o' b (old n o e).1 (old n' o' e').1 hk hk'
 ·intro n hn
  refine h.dom n fun e=>hn ?_
  unfold vr
  split
  ·rfl
  ·exact e
end
section
variable {P:Program} {gl:Nat→Option (List AV)} {f:FuncId} {D:Nm→Bool} {az:List AV} {H:Nm→Option AO} {R R':Nm→AV→(Nm→Option AO)→Prop}
theorem FnE.settle (S:Nm→Nm→Bool) (h:FnE P gl f D az H R noE) (hR:∀ r y H',R r y H'→∃ y',Bw H' (fun n=>!S r n) y y'∧R' r y' (vr (S r) H')):FnE P gl f D az H R' noE:=by
 refine⟨h.1,fun root C w g args h1 h2 h3 h4 h5 h6 h7=>?_⟩
 refine (h.2 root C w g args h1 h2 h3 h4 h5 h6 h7).mono fun e w' he=>?_
 cases e with
 | returned v =>
  obtain⟨C',g',H',x,hA,hv,hr⟩:=he
  obtain⟨y',hb,hr'⟩:=hR _ _ _ hr
  refine⟨_,_,_,y',hA.settle (S root) h3,?_,hr'⟩
  exact RV.bw hA.inv (fun b hb=>.inl hb) (fun n o b hS ho hk=>.inr ⟨n,o,by simpa using hS,ho,hk⟩) hb hv
 | panicked ch =>
  obtain⟨_,_,_,_,_,_,_,_,hx⟩:=he
  exact hx.elim
 | outgrown=>exact he.elim
theorem qW.settle (h:qW P gl f az R) {S:AV→Prop} (hR:∀ r y H',R r y H'→∃ y',Bw H' noD y y'∧S y'):qW P gl f az (fun _ y _=>S y) :=
 FnE.settle (fun _ _=>true) h fun r y H' hr=>by
  obtain⟨y',h1,h2⟩:=hR r y H' hr
  exact⟨y',h1,h2⟩
end
abbrev Xn:Nm:=.u 1 0 0
def vV (p:Prg) (f:Frm):Int:=(vI ((jx p f.blk).take f.pc):Int) - 1
def zg (p:Prg) (n:Nm) (i:Nat) (f:Frm):List AV:=[iv f.blk,iv f.pc,iv (vV p f),.hs (.c n i 3) 3 0 f.fasts.length,isl (zm f.cells),.hs (.c n i 5) 3 0 8,.hs (.c n i 6) 2 0 f.stack.length]
def qq (p:Prg) (n:Nm) (l:List Frm):List (List AV):=l.mapIdx fun i f=>zg p n i f
section
variable {p:Prg} {n m:Nm} {i:Nat} {f g:Frm} {l:List Frm} {r:Nm→Option Nm}
@[simp] theorem frmRow_len:(zg p n i f).length=7:=rfl
@[simp] theorem frmRow_0:(zg p n i f)[0]?=some (iv f.blk):=rfl
@[simp] theorem frmRow_1:(zg p n i f)[1]?=some (iv f.pc):=rfl
@[simp] theorem frmRow_2:(zg p n i f)[2]?=some (iv (vV p f)):=rfl
@[simp] theorem frmRow_3:(zg p n i f)[3]?=some (.hs (.c n i 3) 3 0 f.fasts.length):=rfl
@[simp] theorem frmRow_4:(zg p n i f)[4]?=some (isl (zm f.cells)):=rfl
@[simp] theorem frmRow_5:(zg p n i f)[5]?=some (.hs (.c n i 5) 3 0 8):=rfl
@[simp] theorem frmRow_6:(zg p n i f)[6]?=some (.hs (.c n i 6) 2 0 f.stack.length):=rfl
@[simp] theorem frmRows_len:(qq p n l).length=l.length:=by simp [qq]
@[simp] theorem zY:(qq p n l)[i]?=(l[i]?).map fun f=>zg p n i f:=by simp [qq]
@[simp] theorem frmRows_getE {h:i<(qq p n l).length}:(qq p n l)[i]=zg p n i (l[i]'(by simpa using h)):=by simp [qq]
@[simp] theorem frmRows_nil:qq p n []=[]:=rfl
theorem qLh (h3:r (.c n i 3)=some (.c m i 3)) (h5:r (.c n i 5)=some (.c m i 5)) (h6:r (.c n i 6)=some (.c m i 6)):(zg p n i f).map (AV.tr r)=zg p m i f:=by simp [zg,h3,h5,h6]
theorem qDg (h:∀ i j,i<l.length→r (.c n i j)=some (.c m i j)):(qq p n l).map (fun x=>x.map (AV.tr r))=qq p m l:=by
 apply List.ext_getElem?
 intro j
 rw [List.getElem?_map,zY,zY]
 cases hj:l[j]? with
 | none=>rfl
 | some a =>
  have hl:=(gS hj).1
  simp only [Option.map_some]
  rw [qLh (h j 3 hl) (h j 5 hl) (h j 6 hl)]
@[simp] theorem qCr (h:∀ i j,r (.c n i j)=some (.c n i j)):(qq p n l).map (fun x=>x.map (AV.tr r))=qq p n l:=qDg fun i j _=>h i j
theorem qCq {k:List AV→List AV} (h:∀ (i:Nat) f,l[i]?=some f→k (zg p n i f)=zg p m i f):(qq p n l).map k=qq p m l:=by
 apply List.ext_getElem?
 intro j
 rw [List.getElem?_map,zY,zY]
 cases hj:l[j]? with
 | none=>rfl
 | some a=>simp only [Option.map_some];rw [h j a hj]
theorem qCs:qq p n l++[zg p n l.length f]=qq p n (l++[f]):=by simp [qq]
theorem qBY {k:Nat}:(qq p n l).take k=qq p n (l.take k):=by
 apply List.ext_getElem?
 intro j
 rw [List.getElem?_take,zY,zY,List.getElem?_take]
 split <;> rfl
theorem qCp {off:Nat} {vals:List AV} (hi:l[i]?=some f) (h:(zg p n i f).take off++vals++(zg p n i f).drop (off+vals.length)=zg p n i g):q8 (qq p n l) i off vals=qq p n (l.set i g):=by
 have hl:=(gS hi).1
 apply List.ext_getElem?
 intro j
 simp only [q8,List.getElem?_modify,zY,List.getElem?_set]
 by_cases e:i=j
 ·subst e
  rw [hi]
  simp only [Option.map_some,if_true,hl]
  exact congrArg some h
 ·simp [e]
end
def y7 (l:List (Nat×List Nat)):List (List AV):=l.map fun g=>[iv g.1,isl (zm g.2)]
def jT (l:List (List Slt)):List (List AV):=l.map fun c=>[.sl 3 (qV c)]
abbrev qOs:AV:=.bot
def yW (x:AV) (p:Prg):List (List AV):=[x]::(List.range (p.length - 1)).map fun b=>[isl (zL p (b+1))]
section
variable {l:List (Nat×List Nat)} {cs:List (List Slt)} {i:Nat} {r:Nm→Option Nm} {g:Nat×List Nat} {c:List Slt} {x:AV} {p:Prg}
@[simp] theorem fnRows_len:(y7 l).length=l.length:=by simp [y7]
@[simp] theorem fnRows_getE {h:i<(y7 l).length}:(y7 l)[i]=[iv (l[i]'(by simpa using h)).1,isl (zm (l[i]'(by simpa using h)).2)]:=by simp [y7]
@[simp] theorem fnRows_tr:(y7 l).map (fun y=>y.map (AV.tr r))=y7 l:=by simp [y7]
@[simp] theorem fnRows_take {k:Nat}:(y7 l).take k=y7 (l.take k):=by simp [y7]
theorem qJo:y7 l++[[iv g.1,isl (zm g.2)]]=y7 (l++[g]):=by simp [y7]
@[simp] theorem fnRows_nil:y7 []=[]:=rfl
@[simp] theorem clzRows_len:(jT cs).length=cs.length:=by simp [jT]
@[simp] theorem clzRows_getE {h:i<(jT cs).length}:(jT cs)[i]=[AV.sl 3 (qV (cs[i]'(by simpa using h)))]:=by simp [jT]
@[simp] theorem clzRows_tr:(jT cs).map (fun y=>y.map (AV.tr r))=jT cs:=by
 simp only [jT,List.map_map]
 apply List.map_congr_left
 intro c _
 simp [jM,AV.tr]
@[simp] theorem clzRows_take {k:Nat}:(jT cs).take k=jT (cs.take k):=by simp [jT]
theorem qHb:jT cs++[[.sl 3 (qV c)]]=jT (cs++[c]):=by simp [jT]
@[simp] theorem clzRows_nil:jT []=[]:=rfl
theorem qDB (h:0<p.length):(yW x p).length=p.length:=by simp [yW];omega
theorem qHe (h:0<i) (hl:i<p.length):(yW x p)[i]?=some [isl (zL p i)]:=by
 obtain⟨j,rfl⟩:∃ j,i=j+1:=⟨i - 1,by omega⟩
 simp only [yW,List.getElem?_cons_succ,List.getElem?_map]
 rw [gE (by simp;omega)]
 simp
@[simp] theorem capRows_tr:(yW x p).map (fun y=>y.map (AV.tr r))=yW (x.tr r) p:=by simp [yW]
end
structure OwnF (hp:Nm→Option AO) (p:Prg) (n:Nm) (l:List Frm):Prop where
 top:∃ js,hp n=some (.row 7 (qq p n (l++js)))
 fasts:∀ (i:Nat) f,l[i]?=some f→hp (.c n i 3)=some (.row 3 (qV f.fasts))
 names:∀ (i:Nat) f,l[i]?=some f→hp (.c n i 5)=some (.row 3 (qV f.names))
 stack:∀ (i:Nat) f,l[i]?=some f→∃ j,hp (.c n i 6)=some (.row 2 (zB (f.stack++j)))
def jQ (p:Prg) (n:Nm) (m:Mch) (dp:Nat):List AV:=[csl (qf p p.length),.hs (.c Xn 0 1) 1 0 p.length,.hs (.c Xn 0 2) 3 0 m.cells.length,.hs (.c Xn 0 3) 3 0 8,.hs (.c Xn 0 4) 2 0 m.funs.length,.hs (.c Xn 0 5) 1 0 m.classes.length,.hs n 7 0 m.frames.length,iv m.made,iv dp,.hs (.c Xn 0 9) 1 0 m.out.length,.hs (.c Xn 0 10) 2 0 m.trace.length,iv m.en,iv m.left]
structure OwnX (hp:Nm→Option AO) (p:Prg) (n:Nm) (m:Mch) (dp:Nat):Prop where
 top:hp Xn=some (.row 13 [jQ p n m dp])
 caps:hp (.c Xn 0 1)=some (.row 1 (yW qOs p))
 cells:hp (.c Xn 0 2)=some (.row 3 (qV m.cells))
 glob:hp (.c Xn 0 3)=some (.row 3 (qV m.globals))
 funs:hp (.c Xn 0 4)=some (.row 2 (y7 m.funs))
 clss:hp (.c Xn 0 5)=some (.row 1 (jT m.classes))
 out:hp (.c Xn 0 9)=some (.row 1 (qY m.out))
 trc:hp (.c Xn 0 10)=some (.row 2 (yI m.trace))
 fr:OwnF hp p n m.frames
section
variable {hp hp':Nm→Option AO} {p:Prg} {n n':Nm} {m m':Mch} {dp dp':Nat} {l l':List Frm}
theorem OwnF.re (h:OwnF hp p n l)
  (h0:∀ js,hp n=some (.row 7 (qq p n (l++js)))→hp' n=some (.row 7 (qq p n (l++js))):=by intro js hj;simp [hj])
  (h1:∀ (i:Nat) f,l[i]?=some f→hp (.c n i 3)=some (.row 3 (qV f.fasts))→hp' (.c n i 3)=some (.row 3 (qV f.fasts)):=by intro i f _ hf;simp [hf])
  (h2:∀ (i:Nat) f,l[i]?=some f→hp (.c n i 5)=some (.row 3 (qV f.names))→hp' (.c n i 5)=some (.row 3 (qV f.names)):=by intro i f _ hf;simp [hf])
  (h3:∀ (i:Nat) f j,l[i]?=some f→hp (.c n i 6)=some (.row 2 (zB (f.stack++j)))→hp' (.c n i 6)=some (.row 2 (zB (f.stack++j))):=by intro i f j _ hf;simp [hf]):OwnF hp' p n l:=by
 obtain⟨js,hj⟩:=h.top
 exact⟨⟨js,h0 js hj⟩,fun i f hf=>h1 i f hf (h.fasts i f hf),fun i f hf=>h2 i f hf (h.names i f hf),fun i f hf=>by obtain⟨j,hj⟩:=h.stack i f hf;exact⟨j,h3 i f j hf hj⟩⟩
theorem OwnX.re (h:OwnX hp p n m dp)
  (h0:hp' Xn=some (.row 13 [jQ p n' m' dp']):=by simp [h.top,jQ])
  (h1:hp' (.c Xn 0 1)=some (.row 1 (yW qOs p)):=by simp [h.caps])
  (h2:hp' (.c Xn 0 2)=some (.row 3 (qV m'.cells)):=by simp [h.cells])
  (h3:hp' (.c Xn 0 3)=some (.row 3 (qV m'.globals)):=by simp [h.glob])
  (h4:hp' (.c Xn 0 4)=some (.row 2 (y7 m'.funs)):=by simp [h.funs])
  (h5:hp' (.c Xn 0 5)=some (.row 1 (jT m'.classes)):=by simp [h.clss])
  (h6:hp' (.c Xn 0 9)=some (.row 1 (qY m'.out)):=by simp [h.out])
  (h7:hp' (.c Xn 0 10)=some (.row 2 (yI m'.trace)):=by simp [h.trc])
  (h8:OwnF hp' p n' m'.frames:=by exact h.fr.re):OwnX hp' p n' m' dp' :=
 ⟨h0,h1,h2,h3,h4,h5,h6,h7,h8⟩
theorem OwnF.ren (h:OwnF hp p n l) {f:Nm→Option Nm} (hf:∀ k,Nm.under n k=true→f k=some k) (hh:∀ k,Nm.under n k=true→hp' k=(hp k).map (AO.tr f)):OwnF hp' p n l:=by
 have hu:∀ i j,Nm.under n (.c n i j)=true:=fun i j=>by simp [Nm.under]
 refine⟨h.top.imp fun js hj=>?_,fun i g hg=>?_,fun i g hg=>?_,fun i g hg=>(h.stack i g hg).imp fun j hj=>?_⟩
 ·rw [hh n (Nm.under_self n),hj]
  simp only [Option.map_some,AO.tr]
  rw [qCr fun i j=>hf _ (hu i j)]
 ·rw [hh _ (hu i 3),h.fasts i g hg];simp [AO.tr]
 ·rw [hh _ (hu i 5),h.names i g hg];simp [AO.tr]
 ·rw [hh _ (hu i 6),hj];simp [AO.tr]
theorem OwnX.ren (h:OwnX hp p n m dp) {f:Nm→Option Nm} (hn:Nm.under Xn n=true∨n=.u 2 0 0) (hf:∀ k,D12 k=true→f k=some k) (hh:∀ k,D12 k=true→hp' k=(hp k).map (AO.tr f)):OwnX hp' p n m dp:=by
 have hc:∀ j,D12 (.c Xn 0 j)=true:=fun j=>by simp [Nm.under]
 have hD:∀ k,Nm.under n k=true→D12 k=true:=by
  intro k hk
  rcases hn with hn|rfl
  ·simp only [qDp,Bool.or_eq_true]
   exact .inl (Nm.under_trans hn hk)
  ·simp only [qDp,Bool.or_eq_true]
   exact .inr hk
 have hnn:f n=some n:=hf _ (hD n (Nm.under_self n))
 refine⟨?_,?_,?_,?_,?_,?_,?_,?_,h.fr.ren (fun k hk=>hf k (hD k hk)) fun k hk=>hh k (hD k hk)⟩
 ·rw [hh _ (by simp [Nm.under]),h.top]
  simp [jQ,AO.tr,AV.tr,jM,hf _ (hc 1),hf _ (hc 2),hf _ (hc 3),hf _ (hc 4),hf _ (hc 5),hf _ (hc 9),hf _ (hc 10),hnn]
 ·rw [hh _ (hc 1),h.caps];simp [AO.tr,AV.tr]
 ·rw [hh _ (hc 2),h.cells];simp [AO.tr]
 ·rw [hh _ (hc 3),h.glob];simp [AO.tr]
 ·rw [hh _ (hc 4),h.funs];simp [AO.tr]
 ·rw [hh _ (hc 5),h.clss];simp [AO.tr]
 ·rw [hh _ (hc 9),h.out];simp [AO.tr]
 ·rw [hh _ (hc 10),h.trc];simp [AO.tr]
end
end Go.Hm
end
section
namespace Go.Hm
open Go Go.RowKit
section
variable {p:Prg} {m M:Mch} {b d n i j N t:Nat} {fs:List Frm} {f g:Frm} {o:Int×Int} {v:Val} {k:Blk} {x:Int}
structure StD (m m':Mch):Prop where
 dp:m'.deep=max m.deep m'.frames.length
 gr:m'.frames.length≤m.frames.length∨(m'.en=m.en∧m'.frames≠[])
theorem StD.of (h:m.frames.length≤m.deep) (h1:M.frames.length≤m.frames.length) (h2:M.deep=m.deep):StD m M:=⟨by omega,.inl h1⟩
theorem qQ7 (h:m.frames.length≤m.deep) (hl:fs.length+1=m.frames.length):StD m (m.top fs f):=.of h (by simp [Mch.top];omega) rfl
theorem qHx {s:Slt} (h:m.frames.length≤m.deep) (hl:fs.length+1=m.frames.length):StD m (setS m fs f o s):=by
 unfold setS
 repeat' split
 all_goals exact .of h (by simp [Mch.top];omega) rfl
theorem qF7 {cs:List Nat} {vs:List Val} (h:m.frames.length≤m.deep) (hl:fs.length+1=m.frames.length):StD m (z6 p (m.top fs f) b cs vs):=by
 unfold z6
 split
 ·split
  ·exact⟨by simp [Mch.top],.inr ⟨rfl,by simp⟩⟩
  ·exact⟨by simp [Mch.top],.inr ⟨rfl,by simp⟩⟩
 ·exact⟨by simp [Mch.top],.inr ⟨rfl,by simp⟩⟩
theorem qBz (h:m.frames.length≤m.deep) (hl:fs.length+1=m.frames.length) (h1:M.deep=m.deep) (h2:M.frames=m.frames):StD m (zf M fs v):=by
 unfold zf
 split
 ·rename_i g hg
  refine .of h ?_ h1
  simp only [List.length_append,List.length_dropLast,List.length_singleton]
  have:fs.length≠0:=fun e=>by rw [List.eq_nil_of_length_eq_zero e] at hg;cases hg
  omega
 ·exact .of h (by simp) h1
theorem qHw (h:m.frames.length≤m.deep):StD m (uQ p m):=by
 unfold uQ
 split
 ·rename_i f hf
  have hl:m.frames.dropLast.length+1=m.frames.length:=by
   have:m.frames.length≠0:=fun e=>by rw [List.eq_nil_of_length_eq_zero e] at hf;cases hf
   rw [List.length_dropLast]
   omega
  have hT:∀ F:Frm,StD m (m.top m.frames.dropLast F):=fun F=>qQ7 h hl
  have hS:∀ (F:Frm) (E:Int),StD m (m.stop m.frames.dropLast F E):=fun F E=>.of h (by simp [Mch.stop,Mch.top];omega) rfl
  split
  ·rename_i o ho
   unfold vQ
   split
   ·unfold un
    split
    ·exact hS _ _
    ·exact .of h (by simp [Mch.top];omega) rfl
   ·split
    ·split
     ·unfold yj
      repeat' split
      all_goals first|exact hT _|exact hS _ _
     ·split
      ·exact qHx h hl
      ·unfold qIh
       split
       ·exact qHx h hl
       ·exact hS _ _
    ·unfold zS
     split
     ·exact hT _
     ·split
      ·unfold qMV
       dsimp only
       split
       ·exact hS _ _
       ·exact hT _
      ·split
       ·exact .of h (by simp [Mch.top];omega) rfl
       ·split
        ·exact qF7 h hl
        ·split
         ·unfold qA9
          dsimp only
          split
          ·exact hS _ _
          ·split
           ·split
            ·exact hS _ _
            ·exact qF7 h hl
           ·exact hS _ _
         ·split
          ·unfold qBD
           dsimp only
           split
           ·exact hS _ _
           ·split
            ·exact hT _
            ·exact hS _ _
          ·split
           ·exact .of h (by simp [Mch.top];omega) rfl
           ·exact qBz h hl rfl rfl
  ·unfold qG5
   split
   ·exact qBz (M:={ m with classes:=m.classes++[f.names] }) h hl rfl rfl
   ·exact qBz h hl rfl rfl
 ·exact .of h (Nat.le_refl _) rfl
def kK (p:Prg):Nat→Mch→Nat→Nat
 | 0,_,d=>d
 | i+1,m,d=>if m.ended then d else kK p i (uQ p m) (max d m.frames.length)
theorem qD8 (ht:∀ b,(qF p b).length≤t):∀ (i:Nat) {m:Mch} {d:Nat},McIn p t m→m.deep=max d m.frames.length→(jN p i m).deep=max (kK p i m d) (jN p i m).frames.length
 | 0,m,d,_,hd=>hd
 | i+1,m,d,h,hd=>by
  rw [jN,kK]
  split
  ·exact hd
  ·exact qD8 ht i (qI4 ht h) (by rw [(qHw h.fr).dp,hd])
theorem qAQ:∀ (i:Nat) {m:Mch},¬ (jN p i m).ended→jN p (i+1) m=uQ p (jN p i m)
 | 0,m,h=>by
  rw [jN] at h
  simp only [jN,if_neg h]
 | i+1,m,h=>by
  by_cases e:m.ended
  ·rw [jN,if_pos e] at h
   exact absurd e h
  ·rw [jN,if_neg e] at h ⊢
   rw [qAQ i h,jN,if_neg e]
theorem qAv:∀ (i:Nat) {m:Mch} {d:Nat},¬ (jN p i m).ended→kK p (i+1) m d=max (kK p i m d) (jN p i m).frames.length
 | 0,m,d,h=>by
  rw [jN] at h
  simp only [jN,kK,if_neg h]
 | i+1,m,d,h=>by
  by_cases e:m.ended
  ·rw [jN,if_pos e] at h
   exact absurd e h
  ·rw [jN,if_neg e] at h
   rw [kK,if_neg e,qAv i h,kK,if_neg e,jN,if_neg e]
theorem qLM (ht:∀ b,(qF p b).length≤t) (h:McIn p t m) (hd:m.deep=max d m.frames.length) (hN:¬ (jN p N m).ended) (he:(jN p (N+1) m).ended):kK p (N+1) m d=(jN p (N+1) m).deep:=by
 have h1:=qD8 ht (N+1) h hd
 have h2:=qAv (d:=d) N hN
 have hI:=qLb ht N h
 have h3:=(qHw (p:=p) hI.fr).gr
 rw [← qAQ N hN] at h3
 rcases h3 with h3|⟨h3,h4⟩
 ·omega
 ·rcases he with he|he
  ·exact absurd he h4
  ·rw [h3] at he
   exact absurd (.inr he) hN
end
end Go.Hm
end
