/-
  Own texts, joined by mkclaim.py: Hm15, Hm16, Hm17.
-/
import Derived.Test.YtbgmnmnoaamgkaaGreatDoorD05
set_option linter.unusedSimpArgs false
set_option linter.unusedVariables false
set_option maxRecDepth 100000
set_option maxHeartbeats 4000000

section
namespace Go.Hm
open Go Go.RowKit
def Nm.sroot:Nm→Bool
 | .s _=>true
 | .u _ _ _=>false
 | .c n _ _=>n.sroot
theorem Nm.under_trans {a b:Nm} (h:Nm.under a b=true):∀ {c:Nm},Nm.under b c=true→Nm.under a c=true:=by
 intro c
 induction c with
 | s d=>intro h';simp [Nm.under] at h';rw [← h'] at h;exact h
 | u k i j=>intro h';simp [Nm.under] at h';rw [← h'] at h;exact h
 | c n i j ih =>
  intro h'
  simp only [Nm.under,Bool.or_eq_true,decide_eq_true_eq] at h'
  rcases h' with h'|h'
  ·rw [← h'] at h;exact h
  ·simp [Nm.under,ih h']
theorem Nm.sroot_under {a b:Nm} (ha:a.sroot=true):Nm.under a b=true→b.sroot=true:=by
 induction b with
 | s d=>intro _;rfl
 | u k i j=>intro h;simp [Nm.under] at h;rw [← h] at ha;exact ha
 | c n i j ih =>
  intro h
  simp only [Nm.under,Bool.or_eq_true,decide_eq_true_eq] at h
  rcases h with h|h
  ·rw [← h] at ha;exact ha
  ·exact ih h
theorem Nm.under_not_c {n m:Nm} {i j:Nat} (h:Nm.under (.c n i j) m=true):Nm.under n m=true∧m≠n:=by
 induction m with
 | s d=>simp [Nm.under] at h
 | u k i j=>simp [Nm.under] at h
 | c q i' j' ih =>
  simp only [Nm.under,Bool.or_eq_true,decide_eq_true_eq] at h
  have hu:Nm.under n q=true:=by
   rcases h with h|h
   ·injection h with e1 e2 e3;rw [e1];exact Nm.under_self n
   ·exact (ih h).1
  refine⟨by simp [Nm.under,hu],?_⟩
  exact Nm.not_under_c hu
def zu (D:Nm→Bool):List (Nm×Nm)→Nm→Option Nm
 | [],m=>if D m then some m else none
 | p::l,m=>if Nm.under p.1 m then some (Nm.ren p.1 p.2 m) else zu D l m
def qRd:List (Nm×Nm)→Nm→Option Nm
 | [],_=>none
 | p::l,m=>if Nm.under p.2 m then some (Nm.ren p.2 p.1 m) else qRd l m
def wS (D:Nm→Bool) (sbs:List (Nm×Nm)) (hp:Nm→Option AO):Nm→Option AO:=fun m =>
 if D m then (hp m).map (AO.tr (zu D sbs)) else match qRd sbs m with
  | some q=>if zu D sbs q=some m then (hp q).map (AO.tr (zu D sbs)) else none
  | none=>none
structure OkS (D:Nm→Bool) (root:Nm) (sbs:List (Nm×Nm)):Prop where
 src:∀ p∈sbs,p.1.sroot=true
 tgt:∀ p∈sbs,Nm.under root p.2=true
 dis:sbs.Pairwise (fun p q=>∀ m,Nm.under p.2 m=true→Nm.under q.2 m=false)
theorem OkS.nil {D:Nm→Bool} {root:Nm}:OkS D root []:=⟨by simp,by simp,by simp⟩
theorem OkS.one {D:Nm→Bool} {root n:Nm} (h:n.sroot=true):OkS D root [(n,root)]:=⟨by simp [h],by simp [Nm.under_self],by simp⟩
theorem qDi {D:Nm→Bool} {m:Nm} (hD:∀ m,D m=true→m.sroot=false) (hm:D m=true):∀ {sbs:List (Nm×Nm)},(∀ p∈sbs,p.1.sroot=true)→zu D sbs m=some m
 | [],_=>by simp [zu,hm]
 | p::l,h=>by
  have:Nm.under p.1 m=false:=by
   cases e:Nm.under p.1 m with
   | false=>rfl
   | true =>
    have:=Nm.sroot_under (h p (by simp)) e
    rw [hD m hm] at this
    cases this
  simp only [zu,this]
  exact qDi hD hm (fun q hq=>h q (by simp [hq]))
theorem qEx {D:Nm→Bool} {root:Nm}:∀ {sbs:List (Nm×Nm)} {m x:Nm},(∀ p∈sbs,Nm.under root p.2=true)→zu D sbs m=some x→(D m=true∧x=m)∨∃ p∈sbs,Nm.under p.2 x=true
 | [],m,x,_,h=>by
  simp only [zu] at h
  split at h
  ·rename_i hD;exact .inl ⟨hD,(sI h).symm⟩
  ·cases h
 | p::l,m,x,ht,h=>by
  simp only [zu] at h
  split at h
  ·rename_i hu
   obtain rfl:=sI h
   exact .inr ⟨p,by simp,Nm.under_ren m hu⟩
  ·rcases qEx (fun q hq=>ht q (by simp [hq])) h with h|⟨q,h1,h2⟩
   ·exact .inl h
   ·exact .inr ⟨q,by simp [h1],h2⟩
theorem qIo {D:Nm→Bool} {root:Nm} (hroot:∀ m,Nm.under root m=true→D m=false):∀ {sbs:List (Nm×Nm)},(∀ p∈sbs,Nm.under root p.2=true)→sbs.Pairwise (fun p q=>∀ m,Nm.under p.2 m=true→Nm.under q.2 m=false) →
  ∀ k k' x,zu D sbs k=some x→zu D sbs k'=some x→k=k'
 | [],_,_,k,k',x,h,h'=>by
  simp only [zu] at h h'
  split at h
  ·split at h'
   ·exact (sI h).trans (sI h').symm
   ·cases h'
  ·cases h
 | p::l,ht,hd,k,k',x,h,h'=>by
  have hl:=List.pairwise_cons.1 hd
  have cross:∀ k k' x,Nm.under p.1 k=true→some (Nm.ren p.1 p.2 k)=some x→zu D l k'=some x→False:=by
   intro k k' x hu e e'
   obtain rfl:=sI e
   have hx:=Nm.under_ren (k1:=p.2) k hu
   rcases qEx (fun q hq=>ht q (by simp [hq])) e' with⟨hD,e2⟩|⟨q,hq,hq2⟩
   ·have:=hroot _ (Nm.under_trans (ht p (by simp)) hx)
    rw [e2,hD] at this
    cases this
   ·have:=hl.1 q hq _ hx
    rw [hq2] at this
    cases this
  simp only [zu] at h h'
  split at h
  ·rename_i hu
   split at h'
   ·rename_i hu'
    exact Nm.ren_inj _ _ hu hu' ((sI h).trans (sI h').symm)
   ·exact (cross k k' x hu h h').elim
  ·split at h'
   ·rename_i hu'
    exact (cross k' k x hu' h' h).elim
   ·exact qIo hroot (fun q hq=>ht q (by simp [hq])) hl.2 k k' x h h'
def qFS (P:Program) (st:St):List ResultVar→Option (List AV)
 | []=>some []
 | .tmp t::l=>(qFS P st l).map (st.tm t::·)
 | .cell t T::l=>((cellsAt st (st.tm t)).bind (fun p=>qIj P T p.1 p.2)).bind fun x=>(qFS P st l).map (x::·)
def qM7:List AV→AV
 | [x]=>x
 | l=>.tup l
def qFq (tmps:Array Value):ResultVar→Sem Value
 | .tmp t=>pure (tmps.getD t undef)
 | .cell x t=>do loadVar t (← asAddr (tmps.getD x undef))
section
variable {P:Program} {own:Nat→Prop} {C:Nat→Prop} {w0:World} {g:Gh} {st:St} {a:Act} {w:World}
theorem qHT (h:Rg P own C w0 g st a w):∀ (l:List ResultVar) (xs:List AV),qFS P st l=some xs →
  ∃ vs:List Value,(l.mapM (qFq a.tmps)).run P w=.ok vs w∧vs.length=xs.length∧∀ (j:Nat) v x,vs[j]?=some v→xs[j]?=some x→RV g w v x
 | [],xs,hq=>by
  simp only [qFS] at hq
  obtain rfl:=sI hq
  exact⟨[],by simp,rfl,by simp⟩
 | .tmp t::l,xs,hq=>by
  simp only [qFS] at hq
  obtain⟨m,hm,rfl⟩:=Option.map_eq_some_iff.1 hq
  obtain⟨vs,e1,e2,e3⟩:=qHT h l m hm
  refine⟨a.tmps.getD t undef::vs,?_,by simp [e2],fun j v x hv hx=>?_⟩
  ·simp only [List.mapM_cons,qFq,Sem.run_bind,Sem.run_pure,Result.andThen_ok,e1]
  ·cases j with
   | zero =>
    obtain rfl:=sI hv
    obtain rfl:=sI hx
    exact h.slots t
   | succ j=>exact e3 j v x (by simpa using hv) (by simpa using hx)
 | .cell t T::l,xs,hq=>by
  simp only [qFS] at hq
  obtain⟨y,hy,hq⟩:=Option.bind_eq_some_iff.1 hq
  obtain⟨m,hm,rfl⟩:=Option.map_eq_some_iff.1 hq
  obtain⟨⟨cs,off⟩,h1,h2⟩:=Option.bind_eq_some_iff.1 hy
  obtain⟨vs,e1,e2,e3⟩:=qHT h l m hm
  obtain⟨b,o,f,e,hcell,_,hr⟩:=h.cellsAt (h.slots t) h1
  obtain⟨v,hrun,hrv⟩:=qIJ (P:=P) h2 hcell hr
  refine⟨v::vs,?_,by simp [e2],fun j u x hu hx=>?_⟩
  ·simp only [List.mapM_cons,qFq,Sem.run_bind,Sem.run_pure,Result.andThen_ok,e1,e,asAddr,hrun]
  ·cases j with
   | zero =>
    obtain rfl:=sI hu
    obtain rfl:=sI hx
    exact hrv
   | succ j=>exact e3 j u x (by simpa using hu) (by simpa using hx)
theorem qHO {fn:Func} {xs:List AV} (h:Rg P own C w0 g st a w) (hq:qFS P st fn.results.toList=some xs) :
  ∃ v,(results fn a.tmps).run P w=.ok v w∧RV g w v (qM7 xs):=by
 obtain⟨vs,e1,e2,e3⟩:=qHT h fn.results.toList xs hq
 have hrun:(fn.results.mapM (qFq a.tmps)).run P w=.ok vs.toArray w:=by
  rw [Array.mapM_eq_mapM_toList]
  simp [e1]
 have hres:results fn a.tmps=(do let vs ← fn.results.mapM (qFq a.tmps);pure (if h:vs.size=1 then vs[0] else .tuple vs)):=rfl
 rw [hres]
 simp only [Sem.run_bind,hrun,Result.andThen_ok,Sem.run_pure]
 refine⟨_,rfl,?_⟩
 cases xs with
 | nil =>
  obtain rfl:=List.eq_nil_of_length_eq_zero e2
  exact .tup [] [] rfl (by simp)
 | cons x l =>
  cases vs with
  | nil=>simp at e2
  | cons v vs =>
   cases l with
   | nil =>
    obtain rfl:=List.eq_nil_of_length_eq_zero (by simpa using e2)
    exact e3 0 v x rfl rfl
   | cons y l =>
    cases vs with
    | nil=>simp at e2
    | cons u vs =>
     have:¬ ((v::u::vs).toArray.size=1):=by simp
     rw [dif_neg this]
     exact .tup _ _ (by simpa using e2) e3
end
def qGa (P:Program) (D:Nm→Bool) (root:Nm) (rs:List ResultVar) (R E:Nm→AV→(Nm→Option AO)→Prop):Ex→St→Prop
 | .normal,st=>∃ sbs xs,OkS D root sbs∧qFS P st rs=some xs∧R root ((qM7 xs).tr (zu D sbs)) (wS D sbs st.hp)
 | .ret,st=>∃ sbs xs,OkS D root sbs∧qFS P st rs=some xs∧R root ((qM7 xs).tr (zu D sbs)) (wS D sbs st.hp)
 | .pan x,st=>∃ sbs,OkS D root sbs∧E root (x.tr (zu D sbs)) (wS D sbs st.hp)
 | _,_=>False
def st0 (az:List AV) (H:Nm→Option AO) (n:Nat) (gl:Nat→Option (List AV)):St:={ tm:=fun t=>az.getD t (.sc undef),hp:=H,n:=n,gl:=gl }
def un (P:Program) (C:Nat→Prop) (w:World) (g:Gh) (H:Nm→Option AO) (n:Nat) (gl:Nat→Option (List AV)):Ctx :=
 { P:=P,own:=qBe g H,C0:=C,w0:=w,n:=n,gl:=gl,ext:=fun m=>(H m).isSome,g0:=g }
theorem FnE.of_sem {P:Program} {gl:Nat→Option (List AV)} {f:FuncId} {D:Nm→Bool} {az:List AV} {H:Nm→Option AO} {R E:Nm→AV→(Nm→Option AO)→Prop} {fn:Func} {c:Code} {rs:List ResultVar} {n:Nat}
  (hf:P.funcs[f]?=some fn) (hb:fn.body=some c) (hname:(fn.name == "runtime.NumGoroutine")=false) (hrs:fn.results.toList=rs) (hn:fn.ntmps=n) (hle:az.length≤n) (hD:∀ m,D m=true→m.sroot=false)
  (h:∀ C w g root,(∀ m,Nm.under root m=true→D m=false)→qW (un P C w g H n gl) c (qGa P D root rs R E) (st0 az H n gl)):FnE P gl f D az H R E:=by
 refine⟨⟨fn,hf,hname,by rw [hb];rfl⟩,fun root C w g args hroot hru hHD hinv hgl hsz hargs=>?_⟩
 have hstart:Rw (un P C w g H n gl) (st0 az H n gl) { tmps:=args++Array.replicate (fn.ntmps - args.size) undef,defers:=[] } w:=by
  refine⟨C,g,fun _ h=>h,fun _ h=>.inl h,rfl,rfl,fun _ _ _ _=>⟨rfl,rfl⟩,hinv,rfl,?_,?_,hgl⟩
  ·simp [st0]
   omega
  ·intro t
   simp only [st0]
   by_cases ht:t<args.size
   ·have h1:az[t]?=some (az[t]'(by omega)):=gE _
    have h2:(args++Array.replicate (fn.ntmps - args.size) undef).getD t undef=args[t]:=by
     rw [Array.getD_eq_getD_getElem?,Array.getElem?_append_left ht,Array.getElem?_eq_getElem ht];rfl
    rw [h2,List.getD_eq_getElem?_getD,h1]
    exact hargs t _ _ (Array.getElem?_eq_getElem ht) h1
   ·have h1:az[t]?=none:=List.getElem?_eq_none (by omega)
    have h2:(args++Array.replicate (fn.ntmps - args.size) undef).getD t undef=undef:=by
     rw [Array.getD_eq_getD_getElem?,Array.getElem?_append_right (by omega),Array.getElem?_replicate]
     split <;> rfl
    rw [h2,List.getD_eq_getElem?_getD,h1]
    exact RV.sc _
 have key:∀ {st:St} {a:Act} {w':World} {C':Nat→Prop} {g1:Gh} (sbs:List (Nm×Nm)),OkS D root sbs→(∀ b,C b→C' b)→(∀ b,C' b→C b∨w.heap.size≤b∨qBe g H b)→Ext (un P C w g H n gl) g1→Rg P (qBe g H) C' w g1 st a w' →
   ∃ g',After (qBe g H) C w g D root H (wS D sbs st.hp) C' g' w'∧∀ v x,RV g1 w' v x→RV g' w' v (x.tr (zu D sbs)):=by
  intro st a w' C' g1 sbs hok hC1 hC2 hext hr
  have hinj:=qIo (D:=D) hroot hok.tgt hok.dis
  let g':Gh:={ C:=g1.C,φ:=fun m=>if D m||Nm.under root m then (g1.tr (zu D sbs)).φ m else g.φ m,κ:=fun m=>if D m||Nm.under root m then (g1.tr (zu D sbs)).κ m else g.κ m }
  have img:∀ m m',zu D sbs m=some m'→(D m'||Nm.under root m')=true:=by
   intro m m' e
   rcases qEx hok.tgt e with⟨h1,rfl⟩|⟨p,hp,hp2⟩
   ·simp [h1]
   ·simp [Nm.under_trans (hok.tgt p hp) hp2]
  have gf:∀ m m',zu D sbs m=some m'→g'.φ m'=g1.φ m∧g'.κ m'=g1.κ m:=by
   intro m m' e
   simp only [g',img m m' e,if_true]
   exact Gh.tr_spec hinj e
  have old:∀ m' o',wS D sbs st.hp m'=some o'→∃ m o,zu D sbs m=some m'∧st.hp m=some o∧o'=o.tr (zu D sbs):=by
   intro m' o' e
   unfold wS at e
   split at e
   ·rename_i hm
    obtain⟨o,e1,rfl⟩:=Option.map_eq_some_iff.1 e
    exact⟨m',o,qDi hD hm hok.src,e1,rfl⟩
   ·split at e
    ·rename_i q hq
     split at e
     ·rename_i hc
      obtain⟨o,e1,rfl⟩:=Option.map_eq_some_iff.1 e
      exact⟨q,o,hc,e1,rfl⟩
     ·cases e
    ·cases e
  have hs:=hr.step (g':=g') (w':=w') (f:=zu D sbs) (hp':=wS D sbs st.hp) rfl gf rfl rfl rfl (Nat.le_refl _) (fun _ _=>rfl) (fun _ _ _=>rfl) (fun m' o' e=>by
   obtain⟨m,o,e1,e2,e3⟩:=old m' o' e
   exact .inl ⟨m,o,e1,e2,e3,fun _ _=>rfl⟩)
  refine⟨g',⟨hC1,hC2,hs.inv,fun m hm=>?_,fun m h1 h2=>by simp [g',h1,h2],fun k i j hk=>?_⟩,fun v x hv=>hr.rv (g':=g') rfl (fun _ _=>rfl) gf hv⟩
  ·obtain⟨o',ho'⟩:=Option.ne_none_iff_exists'.1 hm
   obtain⟨m0,o,e1,_,_⟩:=old m o' ho'
   have:=img m0 m e1
   simpa using this
  ·have hd:=hHD _ hk
   obtain⟨x1,x2⟩:=gf _ _ (qDi hD hd hok.src)
   have he:(un P C w g H n gl).ext (.u k i j)=true:=by
    obtain⟨o',ho'⟩:=Option.ne_none_iff_exists'.1 hk
    simp [un,ho']
   obtain⟨y1,y2⟩:=hext k i j he
   exact⟨x1.trans y1,x2.trans y2⟩
 have done:∀ st (a:Act) w',Rw (un P C w g H n gl) st a w'→(∃ sbs xs,OkS D root sbs∧qFS P st rs=some xs∧R root ((qM7 xs).tr (zu D sbs)) (wS D sbs st.hp)) →
   a.defers=[]∧∃ v,(results fn a.tmps).run P w'=.ok v w'∧∃ C' g' H' x,After (qBe g H) C w g D root H H' C' g' w'∧RV g' w' v x∧R root x H':=by
  intro st a w' hR hq
  obtain⟨C',g1,h1,h2,_,_,h5,hr⟩:=hR
  obtain⟨sbs,xs,hok,hx,hRx⟩:=hq
  obtain⟨g',k1,k2⟩:=key sbs hok h1 h2 h5 hr
  obtain⟨v,hrun,hv⟩:=qHO (fn:=fn) hr (by rw [hrs];exact hx)
  exact⟨hr.defers,v,hrun,C',g',_,_,k1,k2 v _ hv,hRx⟩
 refine calls_of_wp hf hb (wp_mono (h C w g root hroot _ _ hstart) fun e a w' he=>?_)
 cases e with
 | normal=>obtain⟨st',hR,hQ⟩:=he;exact done st' a w' hR hQ
 | ret=>obtain⟨st',hR,hQ⟩:=he;exact done st' a w' hR hQ
 | panic ch =>
  obtain⟨st',v,x,hR,rfl,hQ⟩:=he
  obtain⟨C',g1,h1,h2,_,_,h5,hr,hv⟩:=hR
  obtain⟨sbs,hok,hEx⟩:=hQ
  obtain⟨g',k1,k2⟩:=key sbs hok h1 h2 h5 hr
  exact⟨hr.defers,C',g',_,_,v,k1,rfl,k2 v _ hv,hEx⟩
 | exit id=>obtain⟨_,_,hQ⟩:=he;exact hQ.elim
 | goto l=>obtain⟨_,_,hQ⟩:=he;exact hQ.elim
 | outgrown=>exact he.elim
theorem FnE.mono {P:Program} {gl:Nat→Option (List AV)} {f:FuncId} {D:Nm→Bool} {az:List AV} {H:Nm→Option AO} {R E R' E':Nm→AV→(Nm→Option AO)→Prop} (h:FnE P gl f D az H R E)
  (hR:∀ r x H',R r x H'→R' r x H') (hE:∀ r x H',E r x H'→E' r x H'):FnE P gl f D az H R' E':=by
 refine⟨h.1,fun root C w g args h1 h2 h3 h4 h5 h6 h7=>(h.2 root C w g args h1 h2 h3 h4 h5 h6 h7).mono fun e w' he=>?_⟩
 cases e with
 | returned v=>obtain⟨C',g',H',x,x1,x2,x3⟩:=he;exact⟨C',g',H',x,x1,x2,hR _ _ _ x3⟩
 | panicked ch=>obtain⟨C',g',H',x,v,x1,x2,x3,x4⟩:=he;exact⟨C',g',H',x,v,x1,x2,x3,hE _ _ _ x4⟩
 | outgrown=>exact he
inductive Sch where
 | done
 | q (i:Nat) (r:Sch)
 | l (i:Nat) (ps:List Nat) (r:Sch)
 | l2 (i:Nat) (ps:List Nat) (r:Sch) (j:Nat) (qs:List Nat) (s:Sch)
 | l3 (i:Nat) (ps:List Nat) (r:Sch) (j:Nat) (qs:List Nat) (s:Sch) (k:Nat) (us:List Nat) (t:Sch)
def isQ:Op→Bool
 | .move _|.pick _ _ _|.load _ _|.nilCheck _|.binOp _ _ _ _ _|.unOp _ _ _|.convert _ _ _|.makeInterface _ _|.slice _ _ _ _ none|.fieldAddr _ _ _|.field _ _ _
 | .indexAddr _ _ _|.index _ _ _|.extract _ _|.build _ _|.typeAssert _ _ _ _|.lookup _ _ _ _|.makeFunc _ _ _|.call ⟨.builtin .len,_,_⟩=>true
 | _=>false
def prd (ops:Array Oper) (i:Nat):List Nat:=match ops[i]? with|some o=>(o.after.toList.filter (fun e=>Region.binds .any e)).map (·.on)|none=>[]
def vY (ops:Array Oper) (i:Nat):Option Nat:=(ops[i]?).bind (·.dst)
def qui (ops:Array Oper) (i:Nat):Bool:=match ops[i]? with|some o=>isQ o.op&&o.dst.isSome|none=>false
def rdy (ops:Array Oper) (LV:List Nat) (i:Nat):Bool:=!LV.contains i&&(prd ops i).all (fun j=>LV.contains j)
def qPT (ops:Array Oper) (LV:List Nat):List Nat:=(List.range ops.size).filter (rdy ops LV)
def wfD (ops:Array Oper):Bool :=
 Region.noSelect ops &&
 (List.range ops.size).all (fun i=>(List.range ops.size).all fun j=>i==j||vY ops i==none||vY ops i != vY ops j) &&
 (List.range ops.size).all (fun i=>match ops[i]? with|some o=>(o.looksAt ops).all (fun t=>(List.range ops.size).all fun j=>!(vY ops j==some t)||!qui ops j||(prd ops i).contains j)|none=>false)
def qXS (ops:Array Oper):Nat→List Nat→List Nat
 | 0,s=>s
 | n+1,s=>s++qXS ops n (s.flatMap (prd ops))
theorem qIY {ops:Array Oper} {L:Nat→Prop} (h:∀ q,L q→∀ j∈prd ops q,L j):∀ (n:Nat) (s:List Nat),(∀ q∈s,L q)→∀ q∈qXS ops n s,L q
 | 0,_,hs=>hs
 | n+1,s,hs=>fun q hq=>by
  rcases List.mem_append.1 hq with e|e
  ·exact hs q e
  ·refine qIY h n _ (fun j hj=>?_) q e
   obtain⟨x,h1,h2⟩:=List.mem_flatMap.1 hj
   exact h x (hs x h1) j h2
def qY2 (ops:Array Oper) (i:Nat):List Nat:=qXS ops 3 (prd ops i)
def qGH (ops:Array Oper) (LV:List Nat) (i:Nat):List Nat :=
 LV.filter fun q=>qui ops q&&!(i::LV).any (fun l=>!qui ops l&&(qY2 ops l).contains q)
def okD (ops:Array Oper):Sch→List Nat→Bool
 | .done,LV=>(List.range ops.size).all (fun i=>LV.contains i)
 | .q i r,LV=>i<ops.size&&qui ops i&&rdy ops LV i&&okD ops r (i::LV)
 | .l i ps r,LV=>qPT ops LV==[i]&&!qui ops i&&(qGH ops LV i).all (fun q=>ps.contains q)&&okD ops r (i::LV)
 | .l2 i ps r j qs s,LV=>qPT ops LV==[i,j]&&!qui ops i&&!qui ops j&&(qGH ops LV i).all (fun q=>ps.contains q)&&(qGH ops LV j).all (fun q=>qs.contains q)&&okD ops r (i::LV)&&okD ops s (j::LV)
 | .l3 i ps r j qs s k us t,LV=>qPT ops LV==[i,j,k]&&!qui ops i&&!qui ops j&&!qui ops k&&(qGH ops LV i).all (fun q=>ps.contains q)&&(qGH ops LV j).all (fun q=>qs.contains q)&&(qGH ops LV k).all (fun q=>us.contains q)&&okD ops r (i::LV)&&okD ops s (j::LV)&&okD ops t (k::LV)
def qFe (X:Ctx) (ds:List (Option Nat)) (o:Oper) (st:St):Prop :=
 match o.dst with
 | some d=>(match o.guard with
  | none=>qev X.P st o=some (st.tm d)
  | some (j,want)=>match ds[j]? with
   | some (some e)=>match st.tm e with
    | .sc (.bool t)=>(t=want→qev X.P st o=some (st.tm d))∧(t=!want→st.tm d=.sc undef)
    | .sc v=>v=undef∧st.tm d=.sc undef
    | _=>False
   | _=>False)
 | none=>False
def kI (X:Ctx) (ops:List Oper) (ds:List (Option Nat)):List Nat→St→Prop
 | [],_=>True
 | q::l,st=>(match ops[q]? with|some o=>qFe X ds o st|none=>False)∧kI X ops ds l st
def QOp (X:Ctx) (o:Oper) (K:St→Prop) (st:St):Prop:=∃ d z,o.dst=some d∧d<X.n∧qev X.P st o=some z∧K (st.put (some d) z)
def QG (X:Ctx) (ds:List (Option Nat)) (o:Oper) (K:St→Prop) (st:St):Prop :=
 (o.guard=none∧QOp X o K st) ∨
 (∃ j want d t,o.guard=some (j,want)∧ds[j]?=some (some d)∧st.tm d=.sc (.bool t)∧(t=want→QOp X o K st)∧(t=!want→(∀ e,o.dst=some e→e<X.n)∧K (st.put o.dst (.sc undef)))) ∨
 ∃ j want d,o.guard=some (j,want)∧ds[j]?=some (some d)∧st.tm d=.sc undef∧(∀ e,o.dst=some e→e<X.n)∧K (st.put o.dst (.sc undef))
def yW (X:Ctx) (ops:List Oper) (ds:List (Option Nat)) (K:St→Prop):Sch→St→Prop
 | .done,st=>K st
 | .q i r,st=>match ops[i]? with|some o=>QG X ds o (yW X ops ds K r) st|none=>False
 | .l i ps r,st=>match ops[i]? with|some o=>qKG X ds o (fun s=>kI X ops ds ps s∧yW X ops ds K r s) (fun _ _=>False) st|none=>False
 | .l2 i ps r j qs s,st=>(match ops[i]? with|some o=>qKG X ds o (fun s=>kI X ops ds ps s∧yW X ops ds K r s) (fun _ _=>False) st|none=>False) ∧
   (match ops[j]? with|some o=>qKG X ds o (fun s'=>kI X ops ds qs s'∧yW X ops ds K s s') (fun _ _=>False) st|none=>False)
 | .l3 i ps r j qs s k us t,st=>(match ops[i]? with|some o=>qKG X ds o (fun s=>kI X ops ds ps s∧yW X ops ds K r s) (fun _ _=>False) st|none=>False) ∧
   (match ops[j]? with|some o=>qKG X ds o (fun s'=>kI X ops ds qs s'∧yW X ops ds K s s') (fun _ _=>False) st|none=>False) ∧
   (match ops[k]? with|some o=>qKG X ds o (fun s'=>kI X ops ds us s'∧yW X ops ds K t s') (fun _ _=>False) st|none=>False)
section
variable {X:Ctx} {ops:Array Oper} {st:St}
structure WfD (ops:Array Oper):Prop where
 sel:∀ (j:Nat) (o:Oper) (cs:Array SelectCase) (b:Bool),ops[j]?=some o→o.op≠.select cs b
 dist:∀ i j d,i<ops.size→j<ops.size→vY ops i=some d→vY ops j=some d→i=j
 look:∀ i o t j,ops[i]?=some o→t∈o.looksAt ops→j<ops.size→vY ops j=some t→qui ops j=true→j∈prd ops i
theorem qMi (h:wfD ops=true):WfD ops:=by
 simp only [wfD,Bool.and_eq_true] at h
 obtain⟨⟨h1,h2⟩,h3⟩:=h
 refine⟨fun j o cs b ho=>Region.noSelect_spec h1 j o cs b ho,fun i j d hi hj e1 e2=>?_,fun i o t j ho ht hj e1 e2=>?_⟩
 ·have:=List.all_eq_true.1 (List.all_eq_true.1 h2 i (List.mem_range.2 hi)) j (List.mem_range.2 hj)
  rw [e1,e2] at this
  simpa using this
 ·have hi:i<ops.size:=(Array.getElem?_eq_some_iff.1 ho).1
  have:=List.all_eq_true.1 h3 i (List.mem_range.2 hi)
  rw [ho] at this
  have:=List.all_eq_true.1 (List.all_eq_true.1 this t ht) j (List.mem_range.2 hj)
  rw [e1,e2] at this
  simpa using this
structure Agr (D:Nat→Prop) (a b:Act):Prop where
 defers:a.defers=b.defers
 size:a.tmps.size=b.tmps.size
 tmps:∀ t,¬ D t→a.tmps[t]?=b.tmps[t]?
theorem Agr.exec {D:Nat→Prop} {a b:Act} {o:Oper} (h:Agr D a b) (hs:∀ cs b,o.op≠.select cs b) (hl:∀ t∈o.looksAt ops,¬ D t):execOp a.eval o=execOp b.eval o:=by
 refine execOp_congr o hs fun x hx=>?_
 cases x with
 | tmp t =>
  have ht:t∈o.looksAt ops:=List.mem_append_left _ (List.mem_filterMap.2 ⟨.tmp t,by simpa using hx,rfl⟩)
  simp only [Act.eval,Array.getD_eq_getD_getElem?,h.tmps t (hl t ht)]
 | _=>rfl
theorem Agr.wanted {D:Nat→Prop} {a b:Act} {o:Oper} (h:Agr D a b) (hl:∀ t∈o.looksAt ops,¬ D t):Region.wanted o (yielded ops a.tmps)=Region.wanted o (yielded ops b.tmps):=by
 unfold Region.wanted
 cases hg:o.guard with
 | none=>rfl
 | some gw =>
  obtain⟨j,want⟩:=gw
  have hy:yielded ops a.tmps j=yielded ops b.tmps j:=by
   unfold yielded
   cases ht:(ops[j]?).bind (·.dst) with
   | none=>rfl
   | some t =>
    have hm:t∈o.looksAt ops:=by simp [Oper.looksAt,hg,ht]
    simp only [Option.bind_some,h.tmps t (hl t hm)]
  simp only [hy]
theorem Agr.put {D D':Nat→Prop} {a b:Act} (h:Agr D a b) (dst:Option Nat) (v:Value) (hD:∀ t,¬ D' t→dst=some t∨¬ D t):Agr D' (a.put dst v) (b.put dst v):=by
 cases dst with
 | none=>exact⟨h.defers,h.size,fun t ht=>h.tmps t ((hD t ht).resolve_left (by simp))⟩
 | some d =>
  refine⟨h.defers,by simp [Act.put,h.size],fun t ht=>?_⟩
  simp only [Act.put]
  by_cases e:d=t
  ·subst e
   by_cases hs:d<a.tmps.size
   ·rw [Array.getElem?_setIfInBounds_self_of_lt hs,Array.getElem?_setIfInBounds_self_of_lt (by rw [← h.size];exact hs)]
   ·rw [Array.getElem?_eq_none (by simp;omega),Array.getElem?_eq_none (by simp [← h.size];omega)]
  ·rw [Array.getElem?_setIfInBounds_ne e,Array.getElem?_setIfInBounds_ne e]
   exact h.tmps t ((hD t ht).resolve_left (by simpa using e))
def qRr (P:Program) (ops:Array Oper) (b:Act) (w:World) (q:Nat):Prop :=
 ∃ o d,ops[q]?=some o∧o.dst=some d∧d<b.tmps.size∧((Region.wanted o (yielded ops b.tmps)=true∧(execOp b.eval o).run P w=.ok (.value (b.tmps.getD d undef)) w)∨(Region.wanted o (yielded ops b.tmps)=false∧b.tmps.getD d undef=undef))
theorem qRr.put {P:Program} {b:Act} {w:World} {q:Nat} (h:qRr P ops b w q) (hw:WfD ops) (d:Nat) (v:Value) (hl:∀ o,ops[q]?=some o→d∉o.looksAt ops) (hd:vY ops q≠some d):qRr P ops (b.put (some d) v) w q:=by
 obtain⟨o,e,ho,he,hlt,h⟩:=h
 have hag:Agr (fun t=>t=d) (b.put (some d) v) b:=⟨rfl,by simp [Act.put],fun t ht=>by simp only [Act.put];rw [Array.getElem?_setIfInBounds_ne (fun e=>ht e.symm)]⟩
 have hla:∀ t∈o.looksAt ops,¬ t=d:=fun t ht e=>hl o ho (e ▸ ht)
 have hne:e≠d:=fun e'=>hd (by simp [vY,ho,he,e'])
 have hslot:(b.put (some d) v).tmps.getD e undef=b.tmps.getD e undef:=by
  simp only [Act.put,Array.getD_eq_getD_getElem?]
  rw [Array.getElem?_setIfInBounds_ne (fun x=>hne x.symm)]
 refine⟨o,e,ho,he,by simpa [Act.put] using hlt,?_⟩
 rw [hag.wanted hla,hag.exec (hw.sel q o · · ho) hla,hslot]
 exact h
def qM0 (ops:Array Oper):List Nat→Prop
 | []=>True
 | x::l=>x∉l∧x<ops.size∧(∀ j∈prd ops x,j∈l)∧qM0 ops l
theorem qM0.prd:∀ {l:List Nat},qM0 ops l→∀ q∈l,∀ j∈prd ops q,j∈l
 | [],_,_,h,_,_=>by cases h
 | x::l,h,q,hq,j,hj=>by
  rcases List.mem_cons.1 hq with rfl|hq
  ·exact List.mem_cons_of_mem _ (h.2.2.1 j hj)
  ·exact List.mem_cons_of_mem _ (qM0.prd h.2.2.2 q hq j hj)
theorem qM0.lt:∀ {l:List Nat},qM0 ops l→∀ q∈l,q<ops.size
 | [],_,_,h=>by cases h
 | x::l,h,q,hq=>by
  rcases List.mem_cons.1 hq with rfl|hq
  ·exact h.2.1
  ·exact qM0.lt h.2.2.2 q hq
structure DI (X:Ctx) (ops:Array Oper) (LV:List Nat) (listed:Array Bool) (st:St) (a b:Act) (w:World):Prop where
 rw:Rw X st b w
 len:listed.size=ops.size
 sub:∀ i,i<ops.size→listed.getD i true=true→i∈LV
 closed:∀ i,i<ops.size→listed.getD i true=true→∀ j∈prd ops i,listed.getD j false=true
 pend:∀ q∈LV,listed.getD q true=false→qui ops q=true∧qRr X.P ops b w q
 agr:Agr (fun t=>∃ q∈LV,listed.getD q true=false∧vY ops q=some t) a b
 ord:qM0 ops LV
end
end Go.Hm
end
section
namespace Go.Hm
open Go Go.RowKit
section
variable {X:Ctx} {ops:Array Oper} {st:St} {K:St→Prop}
theorem Rw.put {a:Act} {w:World} {d:Nat} {v:Value} {z:AV} (h:Rw X st a w) (hd:d<X.n) (hv:∀ C g,Rg X.P X.own C X.w0 g st a w→RV g w v z):Rw X (st.put (some d) z) (a.put (some d) v) w:=h.mono_put hd hv
theorem Rw.qev {a:Act} {w:World} {o:Oper} {z:AV} (h:Rw X st a w) (hq:qev X.P st o=some z) (d:Nat) (hd:d<X.n):∃ v,(execOp a.eval o).run X.P w=.ok (.value v) w∧Rw X (st.put (some d) z) (a.put (some d) v) w:=by
 obtain⟨C,g,h1,h2,h3,h4,h5,hr⟩:=h
 obtain⟨v,e1,e2⟩:=qGC hr hq
 exact⟨v,e1,C,g,h1,h2,h3,h4,h5,hr.put (fun t e=>by obtain rfl:=sI e;rw [h3];exact hd) e2⟩
theorem qNx {a:Act} {d:Nat} {v:Value} (h:d<a.tmps.size):(a.put (some d) v).tmps.getD d undef=v:=by
 simp [Act.put,h]
theorem qD4 {o:Oper} {i:Nat} {K':St→Prop} {b:Act} {w:World} (hw:WfD ops) (ho:ops[i]?=some o) (hq:qui ops i=true) (hi:i∉prd ops i) (hR:Rw X st b w)
  (h:QG X (ops.toList.map (·.dst)) o K' st):∃ d v st',o.dst=some d∧K' st'∧Rw X st' (b.put (some d) v) w∧qRr X.P ops (b.put (some d) v) w i:=by
 have hlt:i<ops.size:=(Array.getElem?_eq_some_iff.1 ho).1
 simp only [qui,ho,Bool.and_eq_true] at hq
 obtain⟨hq1,hq2⟩:=hq
 obtain⟨d,hd⟩:=Option.isSome_iff_exists.1 hq2
 have hdi:vY ops i=some d:=by simp [vY,ho,hd]
 have hla:d∉o.looksAt ops:=fun hm=>hi (hw.look i o d i ho hm hlt hdi (by simp [qui,ho,hq1,hd]))
 have pend:∀ v,d<b.tmps.size→((Region.wanted o (yielded ops b.tmps)=true∧(execOp b.eval o).run X.P w=.ok (.value v) w)∨(Region.wanted o (yielded ops b.tmps)=false∧v=undef))→qRr X.P ops (b.put (some d) v) w i:=by
  intro v hlt h
  have hag:Agr (fun t=>t=d) (b.put (some d) v) b:=⟨rfl,by simp [Act.put],fun t ht=>by simp only [Act.put];rw [Array.getElem?_setIfInBounds_ne (fun e=>ht e.symm)]⟩
  have hl:∀ t∈o.looksAt ops,¬ t=d:=fun t ht e=>hla (e ▸ ht)
  refine⟨o,d,ho,hd,by simpa [Act.put] using hlt,?_⟩
  rw [hag.wanted hl,hag.exec (hw.sel i o · · ho) hl,qNx hlt]
  exact h
 have hsz:=hR.size
 rcases h with⟨hg,h⟩|⟨j,want,e,t,hg,hde,ht,h1,h2⟩|⟨j,want,e,hg,hde,ht,hn,hK⟩
 ·obtain⟨d',z,e1,hn,hz,hK⟩:=h
  rw [hd] at e1
  obtain rfl:=sI e1
  obtain⟨v,hrun,hR'⟩:=hR.qev hz d hn
  exact⟨d,v,_,hd,hK,hR',pend v (by rw [hsz];exact hn) (.inl ⟨qBz hg,hrun⟩)⟩
 ·have hy:=hR.yielded hde ht
  by_cases htw:t=want
  ·obtain⟨d',z,e1,hn,hz,hK⟩:=h1 htw
   rw [hd] at e1
   obtain rfl:=sI e1
   obtain⟨v,hrun,hR'⟩:=hR.qev hz d hn
   exact⟨d,v,_,hd,hK,hR',pend v (by rw [hsz];exact hn) (.inl ⟨by simp [Region.wanted,hg,hy,htw],hrun⟩)⟩
  ·have hnot:t=!want:=by cases t <;> cases want <;> simp_all
   obtain⟨hn,hK⟩:=h2 hnot
   rw [hd] at hK
   have hn':=hn d hd
   exact⟨d,undef,_,hd,hK,hR.put hn' (fun _ _ _=>RV.sc _),pend undef (by rw [hsz];exact hn') (.inr ⟨by simp [Region.wanted,hg,hy,htw],rfl⟩)⟩
 ·have hy:yielded ops b.tmps j=none:=hR.yieldedU hde ht
  rw [hd] at hK
  have hn':=hn d hd
  exact⟨d,undef,_,hd,hK,hR.put hn' (fun _ _ _=>RV.sc _),pend undef (by rw [hsz];exact hn') (.inr ⟨by simp [Region.wanted,hg,hy],rfl⟩)⟩
theorem zH {l:List Nat} {x:Nat}:l.contains x=true↔x∈l:=by simp
theorem qMV (hw:WfD ops):∀ (sch:Sch) {LV:List Nat} {listed:Array Bool} {st:St} {a b:Act} {w:World},okD ops sch LV=true→yW X ops.toList (ops.toList.map (·.dst)) K sch st→DI X ops LV listed st a b w →
  ∃ sch' LV' st' b',(∀ i r,sch'≠.q i r)∧okD ops sch' LV'=true∧yW X ops.toList (ops.toList.map (·.dst)) K sch' st'∧DI X ops LV' listed st' a b' w:=by
 intro sch
 induction sch with
 | done=>intro LV listed st a b w h1 h2 h3;exact⟨_,LV,st,b,(by intros;simp),h1,h2,h3⟩
 | l i ps r _=>intro LV listed st a b w h1 h2 h3;exact⟨_,LV,st,b,(by intros;simp),h1,h2,h3⟩
 | l2 i ps r j qs s _ _=>intro LV listed st a b w h1 h2 h3;exact⟨_,LV,st,b,(by intros;simp),h1,h2,h3⟩
 | l3 i ps r j qs s k us t _ _ _=>intro LV listed st a b w h1 h2 h3;exact⟨_,LV,st,b,(by intros;simp),h1,h2,h3⟩
 | q i r ih =>
  intro LV listed st a b w h1 h2 h3
  simp only [okD,Bool.and_eq_true,decide_eq_true_eq] at h1
  obtain⟨⟨⟨hlt,hq⟩,hr⟩,hok⟩:=h1
  simp only [rdy,Bool.and_eq_true,Bool.not_eq_true'] at hr
  obtain⟨hni,hpr⟩:=hr
  have hni:i∉LV:=fun hm=>by rw [zH.2 hm] at hni;cases hni
  have hpr:∀ j∈prd ops i,j∈LV:=fun j hj=>zH.1 (List.all_eq_true.1 hpr j hj)
  have ho:ops[i]?=some ops[i]:=Array.getElem?_eq_getElem hlt
  simp only [yW,Array.getElem?_toList,ho] at h2
  obtain⟨d,v,st',hd,hK,hR',hP⟩:=qD4 hw ho hq (fun hm=>hni (hpr i hm)) h3.rw h2
  have hdi:vY ops i=some d:=by simp [vY,ho,hd]
  have hnl:listed.getD i true=false:=by
   cases e:listed.getD i true with
   | false=>rfl
   | true=>exact absurd (h3.sub i hlt e) hni
  refine ih (LV:=i::LV) (listed:=listed) (st:=st') (a:=a) (b:=b.put (some d) v) (w:=w) hok hK ⟨hR',h3.len,fun k hk e=>List.mem_cons_of_mem _ (h3.sub k hk e),h3.closed,?_,?_,⟨hni,hlt,hpr,h3.ord⟩⟩
  ·intro q hqc e
   rcases List.mem_cons.1 hqc with rfl|hqm
   ·exact⟨hq,hP⟩
   ·obtain⟨x1,x2⟩:=h3.pend q hqm e
    have hqlt:=h3.ord.lt q hqm
    refine⟨x1,x2.put hw d v (fun o' ho' hm=>?_) (fun e'=>?_)⟩
    ·have:=hw.look q o' d i ho' hm hlt hdi hq
     exact hni (h3.ord.prd q hqm i this)
    ·obtain rfl:=hw.dist q i d hqlt hlt e' hdi
     exact hni hqm
  ·refine⟨h3.agr.defers,by simpa [Act.put] using h3.agr.size,fun t ht=>?_⟩
   have htd:t≠d:=fun e=>ht ⟨i,by simp,hnl,by rw [hdi,e]⟩
   simp only [Act.put]
   rw [Array.getElem?_setIfInBounds_ne (fun e=>htd e.symm)]
   exact h3.agr.tmps t (fun⟨q,x1,x2,x3⟩=>ht ⟨q,List.mem_cons_of_mem _ x1,x2,x3⟩)
theorem qFd:∀ {ps:List Nat},kI X ops.toList (ops.toList.map (·.dst)) ps st→∀ q∈ps,∃ o,ops[q]?=some o∧qFe X (ops.toList.map (·.dst)) o st
 | [],_,_,h=>by cases h
 | p::ps,h,q,hq=>by
  obtain⟨h1,h2⟩:=h
  rcases List.mem_cons.1 hq with rfl|hq
  ·split at h1
   ·rename_i o ho
    exact⟨o,by rw [← Array.getElem?_toList];exact ho,h1⟩
   ·exact h1.elim
  ·exact qFd h2 q hq
theorem qUN (hw:WfD ops) {listed:Array Bool} {b:Act} {w:World} (hR:Rw X st b w):∀ (l:List Nat),qM0 ops l →
  (∀ q∈l,listed.getD q true=false→qui ops q=true∧∃ o,ops[q]?=some o∧qFe X (ops.toList.map (·.dst)) o st∧∀ d,o.dst=some d→d<X.n) →
  ∃ b',Rw X st b' w∧(∀ q∈l,listed.getD q true=false→qRr X.P ops b' w q)∧Agr (fun t=>∃ q∈l,listed.getD q true=false∧vY ops q=some t) b' b
 | [],_,_=>⟨b,hR,by simp,⟨rfl,rfl,fun _ _=>rfl⟩⟩
 | x::l,hl,hs=>by
  obtain⟨b1,hR1,hp1,hag⟩:=qUN hw hR l hl.2.2.2 (fun q hq=>hs q (List.mem_cons_of_mem _ hq))
  cases hlx:listed.getD x true with
  | true =>
   refine⟨b1,hR1,fun q hq e=>?_,⟨hag.defers,hag.size,fun t ht=>hag.tmps t (fun⟨q,x1,x2,x3⟩=>ht ⟨q,List.mem_cons_of_mem _ x1,x2,x3⟩)⟩⟩
   rcases List.mem_cons.1 hq with rfl|hq
   ·rw [hlx] at e;cases e
   ·exact hp1 q hq e
  | false =>
   obtain⟨hq,o,ho,hst,hdn⟩:=hs x (by simp) hlx
   have hlt:=hl.2.1
   obtain⟨hq1,hq2⟩:isQ o.op=true∧o.dst.isSome=true:=by simpa [qui,ho] using hq
   obtain⟨d,hd⟩:=Option.isSome_iff_exists.1 hq2
   have hdi:vY ops x=some d:=by simp [vY,ho,hd]
   have hxx:x∉prd ops x:=fun hm=>hl.1 (hl.2.2.1 x hm)
   -- the operation,az the state holds it
   have hag':QG X (ops.toList.map (·.dst)) o (fun s=>s=st) st:=by
    have hdX:=hdn d hd
    have quiet:qev X.P st o=some (st.tm d)→QOp X o (fun s=>s=st) st:=fun hz=>⟨d,_,hd,hdX,hz,vV rfl⟩
    unfold qFe at hst
    rw [hd] at hst
    simp only at hst
    split at hst
    ·rename_i hg;exact .inl ⟨hg,quiet hst⟩
    ·rename_i j want hg
     split at hst
     ·rename_i e hde
      split at hst
      ·rename_i t ht
       refine .inr (.inl ⟨j,want,e,t,hg,hde,ht,fun e'=>quiet (hst.1 e'),fun e'=>⟨hdn,?_⟩⟩)
       rw [hd]
       exact vV (hst.2 e')
      ·rename_i v _ hv
       refine .inr (.inr ⟨j,want,e,hg,hde,by rw [hv,hst.1],hdn,?_⟩)
       rw [hd]
       exact vV hst.2
      ·exact hst.elim
     ·exact hst.elim
   obtain⟨d',v,st',hd',rfl,hR2,hP⟩:=qD4 hw ho hq hxx hR1 hag'
   rw [hd] at hd'
   obtain rfl:=sI hd'
   refine⟨b1.put (some d) v,hR2,fun q hqc e=>?_,⟨hag.defers,by simpa [Act.put] using hag.size,fun t ht=>?_⟩⟩
   ·rcases List.mem_cons.1 hqc with rfl|hq'
    ·exact hP
    ·refine (hp1 q hq' e).put hw d v (fun o' ho' hm=>?_) (fun e'=>?_)
     ·exact hl.1 (hl.2.2.2.prd q hq' x (hw.look q o' d x ho' hm hlt hdi hq))
     ·obtain rfl:=hw.dist q x d (hl.2.2.2.lt q hq') hlt e' hdi
      exact hl.1 hq'
   ·have htd:t≠d:=fun e=>ht ⟨x,by simp,hlx,by rw [hdi,e]⟩
    simp only [Act.put]
    rw [Array.getElem?_setIfInBounds_ne (fun e=>htd e.symm)]
    exact hag.tmps t (fun⟨q,x1,x2,x3⟩=>ht ⟨q,List.mem_cons_of_mem _ x1,x2,x3⟩)
end
end Go.Hm
end
