/-
  Own texts, joined by mkclaim.py: Hm12, Hm13, Hm14.
-/
import Derived.Test.YtbgmnmnoaamgkaaGreatDoorD04
set_option linter.unusedSimpArgs false
set_option linter.unusedVariables false
set_option maxRecDepth 100000
set_option maxHeartbeats 4000000

section
namespace Go.Hm
open Go Go.RowKit
inductive Bw (hp:Nm→Option AO) (D:Nm→Bool):AV→AV→Prop
 | refl (a:AV):Bw hp D a a
 | nil (z:Nat):Bw hp D (.sc (.slice none 0 0)) (.sl z [])
 | emp (z z':Nat):Bw hp D (.sl z []) (.sl z' [])
 | sl (z:Nat) (rows rows':List (List AV)) (hl:rows.length=rows'.length) (hz:∀ (i:Nat) r r',rows[i]?=some r→rows'[i]?=some r'→r.length=r'.length)
   (h:∀ (i:Nat) r r',rows[i]?=some r→rows'[i]?=some r'→∀ (j:Nat) a a',r[j]?=some a→r'[j]?=some a'→Bw hp D a a'):Bw hp D (.sl z rows) (.sl z rows')
 | hs (n:Nm) (z lo len:Nat) (rows rows':List (List AV)) (hD:D n=false) (hn:hp n=some (.row z rows)) (hle:lo+len≤rows.length) (hl:rows'.length=len) (hz:∀ r'∈rows',r'.length=z)
   (h:∀ (i:Nat) r r',rows[lo+i]?=some r→rows'[i]?=some r'→∀ (j:Nat) a a',r[j]?=some a→r'[j]?=some a'→Bw hp D a a'):Bw hp D (.hs n z lo len) (.sl z rows')
 | pt (n:Nm) (z off:Nat) (r r':List AV) (rows:List (List AV)) (hD:D n=false) (hn:hp n=some (.row z (r::rows))) (hl:r.length=r'.length) (h:∀ (j:Nat) a a',r[j]?=some a→r'[j]?=some a'→Bw hp D a a'):Bw hp D (.pt n off) (.el r' off)
 | ep (n:Nm) (z i off:Nat) (r r':List AV) (rows:List (List AV)) (hD:D n=false) (hn:hp n=some (.row z rows)) (hi:rows[i]?=some r) (hl:r.length=r'.length) (h:∀ (j:Nat) a a',r[j]?=some a→r'[j]?=some a'→Bw hp D a a'):Bw hp D (.ep n z i off) (.el r' off)
 | agg (cs cs':List AV) (hl:cs.length=cs'.length) (h:∀ (j:Nat) a a',cs[j]?=some a→cs'[j]?=some a'→Bw hp D a a'):Bw hp D (.agg cs) (.agg cs')
 | tup (cs cs':List AV) (hl:cs.length=cs'.length) (h:∀ (j:Nat) a a',cs[j]?=some a→cs'[j]?=some a'→Bw hp D a a'):Bw hp D (.tup cs) (.tup cs')
 | ifc (t:TypeId) (a a':AV) (h:Bw hp D a a'):Bw hp D (.ifc t a) (.ifc t a')
 | fn (f:Fn) (xs xs' ys ys':List AV) (hl:xs.length=xs'.length) (hl2:ys.length=ys'.length) (h:∀ (j:Nat) a a',xs[j]?=some a→xs'[j]?=some a'→Bw hp D a a') (h2:∀ (j:Nat) a a',ys[j]?=some a→ys'[j]?=some a'→Bw hp D a a'):Bw hp D (.fn f xs ys) (.fn f xs' ys')
def Gh.more (g:Gh) (C:Nat→Prop):Gh:={ C:=C,φ:=g.φ,κ:=g.κ }
theorem RV.more {g:Gh} {w:World} {v:Value} {a:AV} {C:Nat→Prop} (h:RV g w v a) (hC:∀ b,g.C b→C b):RV (g.more C) w v a :=
 h.same hC (fun _ _=>rfl) (fun _=>⟨rfl,rfl⟩)
theorem RV.bw {own:Nat→Prop} {C:Nat→Prop} {w0:World} {g:Gh} {hp:Nm→Option AO} {w:World} {D:Nm→Bool} {C':Nat→Prop} (hi:Inv own C w0 g hp w) (hC:∀ b,C b→C' b)
  (hD:∀ n o b,D n=false→hp n=some o→g.φ n=some b→C' b) {a a':AV} (hb:Bw hp D a a'):∀ {v:Value},RV g w v a→RV (g.more C') w v a':=by
 have hgC:∀ b,g.C b→C' b:=fun b h=>hC b (hi.hC ▸ h)
 induction hb with
 | refl a=>exact fun h=>h.more hgC
 | nil z=>intro v h;rw [h.sc_eq];exact .slN _ _ _
 | emp z z' =>
  intro v h
  cases h with
  | slN=>exact .slN _ _ _
  | slC b off cap n z rows f hCb hn hcap=>simp at hn;subst hn;exact .slN _ _ _
 | sl z rows rows' hl hz _ ih =>
  intro v h
  cases h with
  | slN ad cap z =>
   have:rows'=[]:=List.eq_nil_of_length_eq_zero (by simpa using hl.symm)
   subst this
   exact .slN _ _ _
  | slC b off cap n z rows f hCb hn hcap hu hcell ho hr =>
   refine .slC b off cap n z rows' f (hgC b hCb) (by rw [← hl];exact hn) hcap ?_ hcell ho ?_
   ·intro r hr'
    obtain⟨i,hi'⟩:=List.getElem?_of_mem hr'
    have hlt:i<rows.length:=by rw [hl];exact (gS hi').1
    rw [← hz i _ r (gE hlt) hi']
    exact hu _ (List.getElem_mem hlt)
   ·intro i row hrow j a ha
    have hlt:i<rows.length:=by rw [hl];exact (gS hrow).1
    have e:=hz i _ row (gE hlt) hrow
    have hj:j<rows[i].length:=by rw [e];exact (gS ha).1
    exact ih i _ row (gE hlt) hrow j _ a (gE hj) ha (hr i _ (gE hlt) j _ (gE hj))
 | hs n z lo len rows rows' hDn hn hle hl hz _ ih =>
  intro v h
  cases h with
  | hsN =>
   have:rows'=[]:=List.eq_nil_of_length_eq_zero hl
   subst this
   exact .slN _ _ _
  | hsB _ _ _ _ b cap ad hk h1 h2 h3 =>
   by_cases h0:len=0
   ·subst h0
    have:rows'=[]:=List.eq_nil_of_length_eq_zero hl
    subst this
    exact .slN _ _ _
   ·rw [h3 (by omega)]
    have ho:=hi.obj n _ hn
    simp only [OAt,hk] at ho
    obtain⟨cur,T,c1,c2,c3,c4,c5,c6,c7⟩:=ho
    have bnd:∀ i j,i<len→j<z→(lo+i) * z+j<rows.length * z:=by
     intro i j hi hj
     have:(lo+i+1) * z≤rows.length * z:=Nat.mul_le_mul_right _ (by omega)
     rw [Nat.add_mul (lo+i),Nat.one_mul] at this
     omega
    have hcs:rows.length * z≤cur.size:=by rw [c2];exact Nat.mul_le_mul_right _ c4
    refine .slC b (lo * z) cap len z rows' (fun i j=>cur.getD ((lo+i) * z+j) undef) (hD n _ b hDn hn hk) hl h1 hz ?_ ?_ ?_
    ·intro i j hi hj
     have hb:=bnd i j hi hj
     rw [show lo * z+i * z+j=(lo+i) * z+j from by rw [Nat.add_mul],cell_of_row w _ _ _ T _ c1]
     have:(lo+i) * z+j<cur.size:=by omega
     simp [this]
    ·intro i j hi hj
     exact c6 _ (bnd i j hi hj)
    ·intro i row hrow j a ha
     have hi':lo+i<rows.length:=by
      have:=(gS hrow).1
      omega
     have hr0:=c5 _ (List.getElem_mem hi')
     have hj:j<rows[lo+i].length:=by rw [hr0,← hz row (gM hrow)];exact (gS ha).1
     exact ih i _ row (gE hi') hrow j _ a (gE hj) ha (c7 (lo+i) _ (gE hi') j _ (gE hj))
 | pt n z off r r' rows hDn hn hl _ ih =>
  intro v h
  cases h with
  | pt _ _ b hk =>
   obtain⟨f,f1,f2,f3⟩:=hi.rowAt hn hk (i:=0) rfl
   have:=RV.el (g:=g.more C') (w:=w) b 0 off r' f (hD n _ b hDn hn hk) (fun j hj=>by simpa using f1 j (by rw [hl];exact hj)) (fun j hj=>f2 j (by rw [hl];exact hj)) (fun j a ha=>by
    have hj:j<r.length:=by rw [hl];exact (gS ha).1
    exact ih j _ a (gE hj) ha (f3 j _ (gE hj)))
   rwa [Nat.zero_add] at this
 | ep n z i off r r' rows hDn hn hi' hl _ ih =>
  intro v h
  cases h with
  | ep _ _ _ _ b hk =>
   obtain⟨f,f1,f2,f3⟩:=hi.rowAt hn hk hi'
   exact RV.el (g:=g.more C') (w:=w) b (i * z) off r' f (hD n _ b hDn hn hk) (fun j hj=>f1 j (by rw [hl];exact hj)) (fun j hj=>f2 j (by rw [hl];exact hj)) (fun j a ha=>by
    have hj:j<r.length:=by rw [hl];exact (gS ha).1
    exact ih j _ a (gE hj) ha (f3 j _ (gE hj)))
 | agg cs cs' hl _ ih =>
  intro v h
  cases h with
  | agg vs _ hl2 hr =>
   refine .agg vs cs' (hl2.trans hl) fun j u a hu ha=>?_
   have hj:j<cs.length:=by rw [hl];exact (gS ha).1
   exact ih j _ a (gE hj) ha (hr j u _ hu (gE hj))
 | tup cs cs' hl _ ih =>
  intro v h
  cases h with
  | tup vs _ hl2 hr =>
   refine .tup vs cs' (hl2.trans hl) fun j u a hu ha=>?_
   have hj:j<cs.length:=by rw [hl];exact (gS ha).1
   exact ih j _ a (gE hj) ha (hr j u _ hu (gE hj))
 | ifc t a a' _ ih =>
  intro v h
  cases h with
  | ifc _ v _ h=>exact .ifc t v a' (ih h)
 | fn f xs xs' ys ys' hl hl2 _ _ ih ih2 =>
  intro v h
  cases h with
  | fn _ vs us _ _ k1 k2 hr hr2 =>
   refine .fn f vs us xs' ys' (k1.trans hl) (k2.trans hl2) (fun j u a hu ha=>?_) (fun j u a hu ha=>?_)
   ·have hj:j<xs.length:=by rw [hl];exact (gS ha).1
    exact ih j _ a (gE hj) ha (hr j u _ hu (gE hj))
   ·have hj:j<ys.length:=by rw [hl2];exact (gS ha).1
    exact ih2 j _ a (gE hj) ha (hr2 j u _ hu (gE hj))
mutual
def AV.cln:AV→Bool
 | .sc _=>true
 | .sl _ rows=>rows.isEmpty
 | .el _ _=>false
 | .hs _ _ _ _=>true
 | .pt _ _=>true
 | .ep _ _ _ _=>true
 | .mp _=>true
 | .agg cs=>qRi cs
 | .tup cs=>qRi cs
 | .ifc _ a=>AV.cln a
 | .fn _ xs ys=>qRi xs&&qRi ys
 | .bot=>true
def qRi:List AV→Bool
 | []=>true
 | a::l=>AV.cln a&&qRi l
end
theorem qCu (l:List AV):qRi l=l.all AV.cln:=by
 induction l with
 | nil=>rfl
 | cons a l ih=>simp [qRi,ih]
def AO.cln:AO→Bool
 | .row _ rows=>rows.all (fun r=>r.all AV.cln)
 | .map es=>es.all (fun e=>e.1.cln&&e.2.cln)
 | .trow _ _ _ rows=>rows.all (fun r=>r.all AV.cln)
theorem RV.cln {g:Gh} {w:World} {v:Value} {a:AV} (C':Nat→Prop) (h:RV g w v a) (hc:a.cln=true):RV (g.more C') w v a:=by
 induction h with
 | sc v=>exact .sc v
 | slN ad cap z=>exact .slN ad cap z
 | slC b off cap n z rows f hC hn hcap hu hcell ho hr ih =>
  simp only [AV.cln,List.isEmpty_iff] at hc
  subst hc
  simp only [List.length_nil] at hn
  subst hn
  exact .slN _ _ _
 | el b o off row f hC hcell ho hr ih=>simp [AV.cln] at hc
 | hsN n z hk=>exact .hsN n z hk
 | hsB n z lo len b cap ad hk h1 h2 h3=>exact .hsB n z lo len b cap ad hk h1 h2 h3
 | pt n off b hk=>exact .pt n off b hk
 | ep n z i off b hk=>exact .ep n z i off b hk
 | mp n b hk=>exact .mp n b hk
 | agg vs cs hl hr ih =>
  simp only [AV.cln,qCu] at hc
  exact .agg vs cs hl (fun j v a hv ha=>ih j v a hv ha (List.all_eq_true.1 hc a (gM ha)))
 | tup vs cs hl hr ih =>
  simp only [AV.cln,qCu] at hc
  exact .tup vs cs hl (fun j v a hv ha=>ih j v a hv ha (List.all_eq_true.1 hc a (gM ha)))
 | ifc t v a h ih=>exact .ifc t v a (ih hc)
 | fn f vs us xs ys hl hl2 hr hr2 ih ih2 =>
  simp only [AV.cln,qCu,Bool.and_eq_true] at hc
  exact .fn f vs us xs ys hl hl2 (fun j v a hv ha=>ih j v a hv ha (List.all_eq_true.1 hc.1 a (gM ha))) (fun j v a hv ha=>ih2 j v a hv ha (List.all_eq_true.1 hc.2 a (gM ha)))
 | bot v=>exact .bot v
def qAg (P:Program) (f:FuncId):Prop:=∃ fn,P.funcs[f]?=some fn∧(fn.name == "runtime.NumGoroutine")=false∧fn.body.isNone=false
structure After (own:Nat→Prop) (C:Nat→Prop) (w:World) (g:Gh) (D:Nm→Bool) (root:Nm) (H:Nm→Option AO) (H':Nm→Option AO) (C':Nat→Prop) (g':Gh) (w':World):Prop where
 mono:∀ b,C b→C' b
 new:∀ b,C' b→C b∨w.heap.size≤b∨own b
 inv:Inv own C' w g' H' w'
 dom:∀ n,H' n≠none→D n=true∨Nm.under root n=true
 same:∀ n,D n=false→Nm.under root n=false→g'.φ n=g.φ n∧g'.κ n=g.κ n
 ust:∀ k i j,H (.u k i j)≠none→g'.φ (.u k i j)=g.φ (.u k i j)∧g'.κ (.u k i j)=g.κ (.u k i j)
def qBe (g:Gh) (H:Nm→Option AO) (b:Nat):Prop:=∃ n,H n≠none∧g.φ n=some b
def FnE (P:Program) (gl:Nat→Option (List AV)) (f:FuncId) (D:Nm→Bool) (az:List AV) (H:Nm→Option AO) (R E:Nm→AV→(Nm→Option AO)→Prop):Prop :=
 qAg P f∧∀ (root:Nm) (C:Nat→Prop) (w:World) (g:Gh) (args:Array Value),
  (∀ n,Nm.under root n=true→D n=false)→root.isU=false→(∀ n,H n≠none→D n=true) →
  Inv (qBe g H) C w g H w →
  (∀ i row,gl i=some row→(RV g w (.pointer (some ⟨i,0,none⟩)) (.el row 0)∧Exw w i row)∧∀ f:Nm→Option Nm,row.map (AV.tr f)=row) →
  args.size=az.length→(∀ (j:Nat) v x,args[j]?=some v→az[j]?=some x→RV g w v x) →
  Calls P f args w fun
   | .returned v,w'=>∃ C' g' H' x,After (qBe g H) C w g D root H H' C' g' w'∧RV g' w' v x∧R root x H'
   | .panicked ch,w'=>∃ C' g' H' x v,After (qBe g H) C w g D root H H' C' g' w'∧ch=[{ v:=v,recovered:=false }]∧RV g' w' v x∧E root x H'
   | .outgrown,_=>False
def noE:Nm→AV→(Nm→Option AO)→Prop:=fun _ _ _=>False
def noD:Nm→Bool:=fun _=>false
def noH:Nm→Option AO:=fun _=>none
def qV (P:Program) (gl:Nat→Option (List AV)) (f:FuncId) (az:List AV) (R:Nm→AV→(Nm→Option AO)→Prop):Prop:=FnE P gl f noD az noH R noE
section
variable {P:Program} {own:Nat→Prop} {C:Nat→Prop} {w0:World} {g:Gh} {st:St} {a:Act} {w:World}
theorem Rg.stepC (h:Rg P own C w0 g st a w) {C':Nat→Prop} {g':Gh} {w':World} {f:Nm→Option Nm} {hp':Nm→Option AO}
  (gC:g'.C=C') (hCC:∀ b,C b→C' b) (hclt:∀ b,C' b→b<w'.heap.size) (gf:∀ n n',f n=some n'→g'.φ n'=g.φ n∧g'.κ n'=g.κ n)
  (h1:w'.os=w.os) (h2:w'.tape=w.tape) (h3:w'.output=w.output) (h4:w.heap.size≤w'.heap.size)
  (hw:∀ b,C b→w'.heap[b]?=w.heap[b]?) (hkeep:∀ b,b<w0.heap.size→¬ own b→w'.heap[b]?=w.heap[b]?)
  (hobj:∀ n' o',hp' n'=some o' →
    (∃ n o,f n=some n'∧st.hp n=some o∧o'=o.tr f∧∀ b,g.φ n=some b→w'.heap[b]?=w.heap[b]?∧¬ C' b) ∨
    (OAt g' w' n' o'∧∀ b,g'.φ n'=some b→(¬ C' b∧(w0.heap.size≤b∨own b)∧b<w'.heap.size)∧∀ n'' o'',hp' n''=some o''→g'.φ n''=some b→n''=n')) :
  Rg P own C' w0 g' (st.nm f hp') a w':=by
 obtain⟨i,hd,hs,hsl,hgl⟩:=h
 have hwg:∀ b,g.C b→w'.heap[b]?=w.heap[b]?:=fun b hb=>hw b (i.hC ▸ hb)
 have gCf:∀ b,g.C b→g'.C b:=fun b hb=>by rw [gC];exact hCC b (i.hC ▸ hb)
 have rv:∀ {v:Value} {x:AV},RV g w v x→RV g' w' v (x.tr f):=fun hv=>hv.tr gCf hwg gf
 have old:∀ n' o' b,hp' n'=some o'→g'.φ n'=some b →
   (∃ n o,f n=some n'∧st.hp n=some o∧g.φ n=some b∧¬ C' b)∨((¬ C' b∧(w0.heap.size≤b∨own b)∧b<w'.heap.size)∧∀ n'' o'',hp' n''=some o''→g'.φ n''=some b→n''=n'):=by
  intro n' o' b hn' hb
  rcases hobj n' o' hn' with⟨n,o,e1,e2,_,e4⟩|⟨_,e⟩
  ·have hk:=(gf n n' e1).1.symm.trans hb
   exact .inl ⟨n,o,e1,e2,hk,(e4 b hk).2⟩
  ·exact .inr (e b hb)
 refine⟨⟨h1.trans i.os,h2.trans i.tape,h3.trans i.output,Nat.le_trans i.size h4,fun b hb ho=>(hkeep b hb ho).trans (i.keep b hb ho),gC,hclt,?_,?_,?_⟩,
  hd,hs,fun t=>rv (hsl t),fun j row e=>⟨?_,(hgl j row e).2⟩⟩
 ·intro n' o' hn'
  rcases hobj n' o' hn' with⟨n,o,e1,e2,rfl,e4⟩|⟨e,_⟩
  ·exact (i.obj n o e2).tr gCf hwg gf e1 (fun b hb=>(e4 b hb).1)
  ·exact e
 ·intro n' o' b hn' hb
  rcases old n' o' b hn' hb with⟨n,o,_,e2,e3,e4⟩|⟨e,_⟩
  ·obtain⟨x1,x2,x3⟩:=i.blk n o b e2 e3
   exact⟨e4,x2,Nat.lt_of_lt_of_le x3 h4⟩
  ·exact e
 ·intro n1 n2 o1 o2 b hn1 hn2 hb1 hb2
  rcases old n1 o1 b hn1 hb1 with⟨m1,p1,e1,e2,e3,_⟩|⟨_,e⟩
  ·rcases old n2 o2 b hn2 hb2 with⟨m2,p2,f1,f2,f3,_⟩|⟨_,e'⟩
   ·have:=i.inj m1 m2 p1 p2 b e2 f2 e3 f3
    subst this
    exact sI (e1.symm.trans f1)
   ·exact e' n1 o1 hn1 hb1
  ·exact (e n2 o2 hn2 hb2).symm
 ·refine⟨?_,(hgl j row e).1.2.same (hgl j row e).1.1 hwg⟩
  have:=rv (hgl j row e).1.1
  simpa only [AV.tr,wM,(hgl j row e).2 f] using this
def cf (d:Nat) (D:Nm→Bool) (H:Nm→Option AO) (m:Nm):Option Nm :=
 if Nm.under (.s d) m then none else if D m then (if m.isU&&(H m).isSome then some m else none) else some m
def St.call (st:St) (d:Nat) (D:Nm→Bool) (H H':Nm→Option AO):St :=
 st.nm (cf d D H) (fun m=>if D m||Nm.under (.s d) m then H' m else (st.hp m).map (AO.tr (cf d D H)))
def hcln (H':Nm→Option AO):Nm→Option AO:=fun m=>match H' m with|some o=>if o.cln then some o else none|none=>none
def qMh (x:AV):AV:=if x.cln then x else .bot
theorem qRk {d:Nat} {D:Nm→Bool} {H:Nm→Option AO} {m m':Nm} (h:cf d D H m=some m'):m=m'∧Nm.under (.s d) m=false∧(D m=true→m.isU=true∧H m≠none):=by
 unfold cf at h
 split at h
 ·cases h
 ·rename_i hu
  split at h
  ·rename_i hD
   split at h
   ·rename_i hc
    simp only [Bool.and_eq_true] at hc
    refine⟨sI h,by simpa using hu,fun _=>⟨hc.1,fun e=>?_⟩⟩
    rw [e] at hc
    simp at hc
   ·cases h
  ·rename_i hD
   exact⟨sI h,by simpa using hu,fun e=>absurd e hD⟩
theorem Rg.after (h:Rg P own C w0 g st a w) {d:Nat} {D:Nm→Bool} {H H' H'':Nm→Option AO} {C1 C' C'':Nat→Prop} {g':Gh} {w':World}
  (hH:∀ n,D n=true→st.hp n=H n) (hHD:∀ n,H n≠none→D n=true) (hf:After (qBe g H) C1 w (g.more C1) D (.s d) H H' C' g' w')
  (hCC:∀ b,C b→C'' b) (hC'':∀ b,C'' b→C b∨C' b∧(w.heap.size≤b∨qBe g H b)) (qG3:∀ n o,H'' n=some o→H' n=some o) (hob:∀ n o,H'' n=some o→OAt (g'.more C'') w' n o) :
  Rg P own C'' w0 (g'.more C'') (st.call d D H H'') a w'∧∀ k i j,D (.u k i j)=false∨H (.u k i j)≠none→(g'.more C'').φ (.u k i j)=g.φ (.u k i j)∧(g'.more C'').κ (.u k i j)=g.κ (.u k i j):=by
 have ownlt:∀ b,qBe g H b→¬ C b∧(w0.heap.size≤b∨own b)∧b<w.heap.size:=by
  rintro b ⟨n,hn,hk⟩
  obtain⟨o,ho⟩:=Option.ne_none_iff_exists'.1 hn
  exact h.inv.blk n o b (by rw [hH n (hHD n hn)];exact ho) hk
 have frame:∀ m o b,D m=false→st.hp m=some o→g.φ m=some b→¬ qBe g H b:=by
  rintro m o b hD hm hk ⟨n,hn,hk'⟩
  obtain⟨o',ho'⟩:=Option.ne_none_iff_exists'.1 hn
  have:=h.inv.inj m n o o' b hm (by rw [hH n (hHD n hn)];exact ho') hk hk'
  rw [this,hHD n hn] at hD
  cases hD
 have keep:∀ b,b<w.heap.size→¬ qBe g H b→w'.heap[b]?=w.heap[b]?:=fun b hb ho=>hf.inv.keep b hb ho
 have gf:∀ n n',cf d D H n=some n'→(g'.more C'').φ n'=g.φ n∧(g'.more C'').κ n'=g.κ n:=by
  intro n n' e
  obtain⟨rfl,e2,e3⟩:=qRk e
  cases hD:D n with
  | false=>exact hf.same n hD e2
  | true =>
   obtain⟨x1,x2⟩:=e3 hD
   cases n with
   | u k i j=>exact hf.ust k i j x2
   | s _=>simp [Nm.isU] at x1
   | c _ _ _=>simp [Nm.isU] at x1
 have old1:∀ m o b,D m=false→Nm.under (.s d) m=false→st.hp m=some o→g.φ m=some b→w'.heap[b]?=w.heap[b]?∧¬ C'' b:=by
  intro m o b hD hu hm hk
  obtain⟨x1,x2,x3⟩:=h.inv.blk m o b hm hk
  have hno:=frame m o b hD hm hk
  refine⟨keep b x3 hno,fun hc=>?_⟩
  rcases hC'' b hc with hc|⟨_,hc|hc⟩
  ·exact x1 hc
  ·omega
  ·exact hno hc
 have newb:∀ n o b,H'' n=some o→g'.φ n=some b→¬ C' b∧(w.heap.size≤b∨qBe g H b)∧b<w'.heap.size:=fun n o b hn hk=>hf.inv.blk n o b (qG3 n o hn) hk
 have key:∀ n' o',(st.call d D H H'').hp n'=some o'→(H'' n'=some o'∧(D n'=true∨Nm.under (.s d) n'=true))∨∃ o,D n'=false∧Nm.under (.s d) n'=false∧st.hp n'=some o∧o'=o.tr (cf d D H):=by
  intro n' o' e
  simp only [St.call,St.nm] at e
  split at e
  ·rename_i hc
   simp only [Bool.or_eq_true] at hc
   exact .inl ⟨e,hc⟩
  ·rename_i hc
   simp only [Bool.or_eq_true,not_or,Bool.not_eq_true] at hc
   obtain⟨o,e1,e2⟩:=Option.map_eq_some_iff.1 e
   exact .inr ⟨o,hc.1,hc.2,e1,e2.symm⟩
 refine⟨h.stepC (g':=g'.more C'') (f:=cf d D H) (hp':=(st.call d D H H'').hp) rfl hCC (fun b hb=>?_) gf hf.inv.os hf.inv.tape hf.inv.output hf.inv.size ?_ ?_ ?_,?_⟩
 ·rcases hC'' b hb with hc|⟨hc,_⟩
  ·exact Nat.lt_of_lt_of_le (h.inv.clt b hc) hf.inv.size
  ·exact hf.inv.clt b hc
 ·intro b hb
  exact keep b (h.inv.clt b hb) (fun ho=>(ownlt b ho).1 hb)
 ·intro b hb hno
  refine keep b (Nat.lt_of_lt_of_le hb h.inv.size) (fun ho=>?_)
  rcases (ownlt b ho).2.1 with x|x
  ·omega
  ·exact hno x
 ·intro n' o' e
  rcases key n' o' e with⟨e1,e2⟩|⟨o,e1,e2,e3,e4⟩
  ·right
   refine⟨hob n' o' e1,fun b hb=>?_⟩
   obtain⟨x1,x2,x3⟩:=newb n' o' b e1 hb
   refine⟨⟨fun hc=>?_,?_,x3⟩,fun n'' o'' e'' hb''=>?_⟩
   ·rcases hC'' b hc with hc|⟨hc,_⟩
    ·rcases x2 with x2|x2
     ·have:=h.inv.clt b hc;omega
     ·exact (ownlt b x2).1 hc
    ·exact x1 hc
   ·rcases x2 with x2|x2
    ·exact .inl (Nat.le_trans h.inv.size x2)
    ·exact (ownlt b x2).2.1
   ·rcases key n'' o'' e'' with⟨f1,f2⟩|⟨o2,f1,f2,f3,f4⟩
    ·exact hf.inv.inj n'' n' o'' o' b (qG3 _ _ f1) (qG3 _ _ e1) hb'' hb
    ·have hk2:g.φ n''=some b:=(hf.same n'' f1 f2).1.symm.trans hb''
     have hlt:=(h.inv.blk n'' o2 b f3 hk2).2.2
     rcases x2 with x2|x2
     ·omega
     ·exact absurd x2 (frame n'' o2 b f1 f3 hk2)
  ·exact .inl ⟨n',o,by simp [cf,e1,e2],e3,e4,fun b hb=>old1 n' o b e1 e2 e3 hb⟩
 ·intro k i j hk
  have hu:Nm.under (.s d) (.u k i j)=false:=by simp [Nm.under]
  cases hD:D (.u k i j) with
  | false=>exact hf.same _ hD hu
  | true =>
   rcases hk with hk|hk
   ·rw [hD] at hk;cases hk
   ·exact hf.ust k i j hk
end
end Go.Hm
end
section
namespace Go.Hm
open Go Go.RowKit
def Ent (P:Program) (st:St) (o:Oper) (f:FuncId) (avs:List AV):Prop :=
 ∀ (own C:Nat→Prop) (w0:World) (g:Gh) (a:Act) (w:World),Rg P own C w0 g st a w →
  ∃ args:Array Value,(execOp a.eval o).run P w=.ok (.enter f args) w∧args.size=avs.length∧∀ (j:Nat) v x,args[j]?=some v→avs[j]?=some x→RV g w v x
def BwL (hp:Nm→Option AO) (D:Nm→Bool) (l l':List AV):Prop:=l.length=l'.length∧∀ (j:Nat) a a',l[j]?=some a→l'[j]?=some a'→Bw hp D a a'
theorem BwL.nil {hp:Nm→Option AO} {D:Nm→Bool}:BwL hp D [] []:=⟨rfl,by simp⟩
theorem BwL.cons {hp:Nm→Option AO} {D:Nm→Bool} {x y:AV} {l l':List AV} (h:Bw hp D x y) (h':BwL hp D l l'):BwL hp D (x::l) (y::l'):=by
 refine⟨by simp [h'.1],fun j a a' ha ha'=>?_⟩
 cases j with
 | zero=>simp at ha ha';subst ha;subst ha';exact h
 | succ j=>exact h'.2 j a a' (by simpa using ha) (by simpa using ha')
theorem qBN {P:Program} {w:World} {f:FuncId} {xs:Array Value} (hc:qAg P f):(callFunc f xs).run P w=.ok (.enter f xs) w:=by
 obtain⟨fn,h1,h2,h3⟩:=hc
 have hp:(program:Sem Program).run P w=.ok P w:=rfl
 simp only [callFunc,Sem.run_bind,hp,Result.andThen_ok,h1,h2,h3,Bool.false_eq_true,if_false,Sem.run_pure]
section
variable {P:Program} {st:St} {o:Oper} {f:FuncId}
theorem qBq {args:Array Operand} {Ts:Array TypeId} (hc:qAg P f) (ho:o.op=.call ⟨.value (.func f),args,Ts⟩):Ent P st o f (args.toList.map (ev st)):=by
 intro own C w0 g a w h
 refine⟨args.map a.eval,?_,by simp,fun j v x hv hx=>?_⟩
 ·simp [execOp,ho,resolve,Act.eval,Deferred.ofValue,invoke,qBN hc]
 ·rw [Array.getElem?_map] at hv
  obtain⟨o',ho',rfl⟩:=Option.map_eq_some_iff.1 hv
  rw [List.getElem?_map] at hx
  obtain⟨o2,ho2,rfl⟩:=Option.map_eq_some_iff.1 hx
  rw [Array.getElem?_toList,ho'] at ho2
  obtain rfl:=sI ho2
  exact h.ev o'
def qI6 (P:Program) (t:TypeId) (name:String):Option FuncId :=
 match P.info? t with
 | some i=>match i.methods.find? (·.name==name) with
  | some m=>match m.func,P.underlying t with
   | some (f,false),some d=>match d with
    | .pointer _=>none
    | _=>if m.path.isEmpty then some f else none
   | some (f,true),some (.pointer _)=>if m.path.isEmpty then some f else none
   | _,_=>none
  | none=>none
 | none=>none
theorem qJV {w:World} {t:TypeId} {name:String} {v:Value} (hm:qI6 P t name=some f) (k:Nat):(method (k+1) t v name).run P w=.ok (f,v) w:=by
 unfold qI6 at hm
 split at hm
 ·rename_i i hi
  split at hm
  ·rename_i m hfind
   split at hm
   ·rename_i f' d hmf hu
    split at hm
    ·cases hm
    ·rename_i hd
     split at hm
     ·rename_i hp
      obtain rfl:=sI hm
      have hp':m.path.toList=[]:=by simpa using hp
      simp only [method,typeInfo,Sem.run_bind,run_program,Result.andThen_ok,hi,Sem.run_pure,hfind,hp',follow,hmf]
      have:(receiverAt t (.val v) false (if m.path.isEmpty then some ((name.splitOn ".").getLastD name) else none)).run P w=.ok v w:=by
       unfold receiverAt
       simp only [Sem.run_bind,zR hu,Result.andThen_ok]
       cases d <;> first|rfl|exact absurd rfl (hd _)
      simp only [this,Result.andThen_ok]
     ·cases hm
   ·rename_i f' e hmf hu
    split at hm
    ·rename_i hp
     obtain rfl:=sI hm
     have hp':m.path.toList=[]:=by simpa using hp
     simp only [method,typeInfo,Sem.run_bind,run_program,Result.andThen_ok,hi,Sem.run_pure,hfind,hp',follow,hmf]
     have:(receiverAt t (.val v) true (if m.path.isEmpty then some ((name.splitOn ".").getLastD name) else none)).run P w=.ok v w:=by
      unfold receiverAt
      simp only [Sem.run_bind,zR hu,Result.andThen_ok]
      rfl
     simp only [this,Result.andThen_ok]
    ·cases hm
   ·cases hm
  ·cases hm
 ·cases hm
theorem qRf {args:Array Operand} {Ts:Array TypeId} {c:Operand} {name:String} {t:TypeId} {y:AV} (hc:qAg P f) (ho:o.op=.call ⟨.invoke c name,args,Ts⟩) (hv:ev st c=.ifc t y) (hm:qI6 P t name=some f):Ent P st o f (y::args.toList.map (ev st)):=by
 intro own C w0 g a w h
 have hr:=h.ev c
 rw [hv] at hr
 generalize hcv:a.eval c=cv at hr
 cases hr with
 | ifc _ v _ hy =>
  refine⟨#[v]++args.map a.eval,?_,by simp;omega,fun j u x hu hx=>?_⟩
  ·have hmt:(method (P.types.size+Made.depth) t v name).run P w=.ok (f,v) w:=by
    have hpos:0<Made.depth:=by decide
    have hk:P.types.size+Made.depth=(P.types.size+Made.depth - 1)+1:=by omega
    rw [hk]
    exact qJV hm _
   have hex:(#[Value.iface t v]++args.map a.eval).extract 1 (#[Value.iface t v]++args.map a.eval).size=args.map a.eval:=by
    apply Array.ext'
    simp only [Array.toList_extract,Array.toList_append,List.extract_eq_take_drop]
    simp
    exact List.take_of_length_le (by simp)
   have h0:(#[Value.iface t v]++args.map a.eval)[0]?=some (.iface t v):=by rw [Array.getElem?_append_left (by simp)];rfl
   simp only [execOp,ho,resolve,hcv,Sem.run_bind,Sem.run_pure,Result.andThen_ok,invoke,h0,hex,callMethod,run_program,hmt,qBN hc]
  ·cases j with
   | zero =>
    rw [Array.getElem?_append_left (by simp)] at hu
    obtain rfl:v=u:=by simpa using hu
    obtain rfl:y=x:=by simpa using hx
    exact hy
   | succ j =>
    have hu':(args.map a.eval)[j]?=some u:=by
     rw [Array.getElem?_append_right (by simp)] at hu
     simpa using hu
    rw [Array.getElem?_map] at hu'
    obtain⟨o',ho',rfl⟩:=Option.map_eq_some_iff.1 hu'
    simp only [List.getElem?_cons_succ,List.getElem?_map] at hx
    obtain⟨o2,ho2,rfl⟩:=Option.map_eq_some_iff.1 hx
    rw [Array.getElem?_toList,ho'] at ho2
    obtain rfl:=sI ho2
    exact h.ev o'
end
section
variable {X:Ctx} {st:St} {K:St→Prop} {E:AV→St→Prop} {o:Oper} {f:FuncId} {D:Nm→Bool} {H:Nm→Option AO} {az avs:List AV} {R E0:Nm→AV→(Nm→Option AO)→Prop}
theorem qAb (hF:FnE X.P X.gl f D az H R E0) (hEnt:Ent X.P st o f avs) (bor:Bool) (hB:BwL st.hp (if bor then D else fun _=>true) avs az) (hroot:∀ n,Nm.under (.s (o.dst.getD X.n)) n=true→D n=false)
  (hH:∀ n,D n=true→st.hp n=H n) (hHD:∀ n,H n≠none→D n=true) (hext:∀ k i j,X.ext (.u k i j)=true→D (.u k i j)=false∨H (.u k i j)≠none) (hdn:∀ d,o.dst=some d→d<X.n)
  (hK:∀ x H',R (.s (o.dst.getD X.n)) x H'→K ((st.call (o.dst.getD X.n) D H (if bor then hcln H' else H')).put o.dst (if bor then qMh x else x)))
  (hE:∀ x H',E0 (.s (o.dst.getD X.n)) x H'→E (if bor then qMh x else x) (st.call (o.dst.getD X.n) D H (if bor then hcln H' else H'))):qK X o K E st:=by
 intro a w Q hR hQ
 obtain⟨C,g,h1,h2,h3,h4,h5,hg⟩:=hR
 obtain⟨args,hrun,hsz,hrel⟩:=hEnt _ _ _ _ _ _ hg
 unfold Oper.wp
 rw [hrun,Oper.upon_enter]
 let C1:Nat→Prop:=if bor then (fun b=>b<w.heap.size∧¬ qBe g H b) else C
 have ownlt:∀ b,qBe g H b→¬ C b∧b<w.heap.size:=by
  rintro b ⟨n,hn,hk⟩
  obtain⟨o,ho⟩:=Option.ne_none_iff_exists'.1 hn
  obtain⟨x1,_,x3⟩:=hg.inv.blk n o b (by rw [hH n (hHD n hn)];exact ho) hk
  exact⟨x1,x3⟩
 have hC1:∀ b,C b→C1 b:=by
  intro b hb
  cases bor with
  | true=>exact⟨hg.inv.clt b hb,fun ho=>(ownlt b ho).1 hb⟩
  | false=>exact hb
 have hC1lt:∀ b,C1 b→b<w.heap.size:=by
  intro b hb
  cases bor with
  | true=>exact hb.1
  | false=>exact hg.inv.clt b hb
 have hC1o:∀ b,qBe g H b→¬ C1 b:=by
  intro b ho hb
  cases bor with
  | true=>exact hb.2 ho
  | false=>exact (ownlt b ho).1 hb
 have same:∀ {v:Value} {x:AV},RV g w v x→RV (g.more C1) w v x:=fun hv=>hv.more (fun b hb=>hC1 b (hg.inv.hC ▸ hb))
 have hinv:Inv (qBe (g.more C1) H) C1 w (g.more C1) H w:=by
  have get:∀ n o,H n=some o→st.hp n=some o:=fun n o e=>by rw [hH n (hHD n (by rw [e];simp)),e]
  refine⟨rfl,rfl,rfl,Nat.le_refl _,fun _ _ _=>rfl,rfl,hC1lt,?_,?_,?_⟩
  ·intro n o e
   have:=(hg.inv.obj n o (get n o e)).tr (g':=g.more C1) (w':=w) (n':=n) (f:=some) (fun b hb=>hC1 b (hg.inv.hC ▸ hb)) (fun _ _=>rfl) (fun k k' e=>by obtain rfl:=sI e;exact⟨rfl,rfl⟩) rfl (fun _ _=>rfl)
   rwa [AO.tr_some] at this
  ·intro n o b e hk
   have ho:qBe g H b:=⟨n,by rw [e];simp,hk⟩
   exact⟨hC1o b ho,.inr ho,(ownlt b ho).2⟩
  ·intro n n' o o' b e e' hk hk'
   exact hg.inv.inj n n' o o' b (get n o e) (get n' o' e') hk hk'
 have hargs:args.size=az.length∧∀ (j:Nat) v x,args[j]?=some v→az[j]?=some x→RV (g.more C1) w v x:=by
  refine⟨hsz.trans hB.1,fun j v x hv hx=>?_⟩
  have hj:j<avs.length:=by rw [hB.1];exact (gS hx).1
  have hb:=hB.2 j _ x (gE hj) hx
  have hr:=hrel j v _ hv (gE hj)
  refine RV.bw hg.inv hC1 (fun n o b hD hn hk=>?_) hb hr
  cases bor with
  | true =>
   obtain⟨_,_,x3⟩:=hg.inv.blk n o b hn hk
   refine⟨x3,?_⟩
   rintro⟨n',hn',hk'⟩
   obtain⟨o',ho'⟩:=Option.ne_none_iff_exists'.1 hn'
   have:=hg.inv.inj n n' o o' b hn (by rw [hH n' (hHD n' hn')];exact ho') hk hk'
   simp only [if_true] at hD
   rw [this,hHD n' hn'] at hD
   cases hD
  | false=>simp at hD
 have hgl:∀ i row,X.gl i=some row→(RV (g.more C1) w (.pointer (some ⟨i,0,none⟩)) (.el row 0)∧Exw w i row)∧∀ f:Nm→Option Nm,row.map (AV.tr f)=row:=by
  intro i row e
  obtain⟨x1,x2⟩:=hg.glob i row (by rw [h4];exact e)
  exact⟨⟨same x1.1,x1.2⟩,x2⟩
 -- the state behind
 have fin:∀ {C':Nat→Prop} {g':Gh} {H':Nm→Option AO} {x:AV} {v:Value} {w':World},After (qBe (g.more C1) H) C1 w (g.more C1) D (.s (o.dst.getD X.n)) H H' C' g' w'→RV g' w' v x →
   ∃ C'' g'',(∀ b,X.C0 b→C'' b)∧(∀ b,C'' b→X.C0 b∨X.w0.heap.size≤b∨X.own b)∧Ext X g''∧Rg X.P X.own C'' X.w0 g'' (st.call (o.dst.getD X.n) D H (if bor then hcln H' else H')) a w'∧RV g'' w' v (if bor then qMh x else x):=by
  intro C' g' H' x v w' hA hv
  have ownw0:∀ b,qBe g H b→X.w0.heap.size≤b∨X.own b:=by
   rintro b ⟨n,hn,hk⟩
   obtain⟨o,ho⟩:=Option.ne_none_iff_exists'.1 hn
   exact (hg.inv.blk n o b (by rw [hH n (hHD n hn)];exact ho) hk).2.1
  have ext:∀ g'':Gh,(∀ k i j,D (.u k i j)=false∨H (.u k i j)≠none→g''.φ (.u k i j)=g.φ (.u k i j)∧g''.κ (.u k i j)=g.κ (.u k i j))→Ext X g'':=by
   intro g'' hu k i j e
   obtain⟨x1,x2⟩:=hu k i j (hext k i j e)
   obtain⟨y1,y2⟩:=h5 k i j e
   exact⟨x1.trans y1,x2.trans y2⟩
  cases bor with
  | false =>
   have hA':After (qBe g H) C1 w (g.more C1) D (.s (o.dst.getD X.n)) H H' C' g' w':=hA
   have gg:g'.more C'=g':=by
    have:=hA.inv.hC
    obtain⟨c,p,k⟩:=g'
    simp only at this
    subst this
    rfl
   obtain⟨r1,r2⟩:=hg.after (C'':=C') (H'':=H') hH hHD hA' (fun b hb=>hA.mono b hb) (fun b hb=>by
    rcases hA.new b hb with x|x
    ·exact .inl x
    ·exact .inr ⟨hb,x⟩) (fun _ _ e=>e) (fun n o' e=>by rw [gg];exact hA.inv.obj n o' e)
   rw [gg] at r1 r2
   refine⟨C',g',fun b hb=>hA.mono b (h1 b hb),fun b hb=>?_,ext g' r2,r1,hv⟩
   rcases hA.new b hb with x|x|x
   ·exact h2 b x
   ·exact .inr (.inl (Nat.le_trans hg.inv.size x))
   ·exact .inr (ownw0 b x)
  | true =>
   have hA':After (qBe g H) C1 w (g.more C1) D (.s (o.dst.getD X.n)) H H' C' g' w':=hA
   obtain⟨r1,r2⟩:=hg.after (C'':=C) (H'':=hcln H') hH hHD hA' (fun b hb=>hb) (fun b hb=>.inl hb) (fun n o' e=>by
    simp only [hcln] at e
    split at e
    ·rename_i o2 e2
     split at e
     ·rw [e2];exact e
     ·cases e
    ·cases e) (fun n o' e=>by
    simp only [hcln] at e
    split at e
    ·rename_i o2 e2
     split at e
     ·rename_i hcl
      obtain rfl:=sI e
      have ho:=hA.inv.obj n o2 e2
      cases o2 with
      | row z rows =>
       simp only [OAt] at ho ⊢
       change match g'.φ n with|some b=>qMZ (g'.more C) w' b (g'.κ n) z rows|none=>rows=[]
       cases hk:g'.φ n with
       | none=>rw [hk] at ho;exact ho
       | some b =>
        rw [hk] at ho
        obtain⟨cur,T,c1,c2,c3,c4,c5,c6,c7⟩:=ho
        exact⟨cur,T,c1,c2,c3,c4,c5,c6,fun i row hrow j y hy=>(c7 i row hrow j y hy).cln C (List.all_eq_true.1 (List.all_eq_true.1 hcl row (gM hrow)) y (gM hy))⟩
      | trow T z ex rows =>
       simp only [OAt] at ho ⊢
       change match g'.φ n with|some b=>qP8 (g'.more C) w' b (g'.κ n) T z rows∧(ex=true→g'.κ n=rows.length)∧(ex=false→0<g'.κ n)|none=>rows=[]
       cases hk:g'.φ n with
       | none=>rw [hk] at ho;exact ho
       | some b =>
        rw [hk] at ho
        obtain⟨⟨cur,c1,c2,c3,c4,c5,c6,c7⟩,c8⟩:=ho
        exact⟨⟨cur,c1,c2,c3,c4,c5,c6,fun i row hrow j y hy=>(c7 i row hrow j y hy).cln C (List.all_eq_true.1 (List.all_eq_true.1 hcl row (gM hrow)) y (gM hy))⟩,c8⟩
      | map es =>
       simp only [OAt] at ho ⊢
       change match g'.φ n with|some b=>qVO (g'.more C) w' b es|none=>False
       cases hk:g'.φ n with
       | none=>rw [hk] at ho;exact ho
       | some b =>
        rw [hk] at ho
        obtain⟨ms,clock,c1,cs,c2,c3⟩:=ho
        refine⟨ms,clock,c1,cs,c2,fun i m e' hm he'=>?_⟩
        have:=List.all_eq_true.1 hcl e' (gM he')
        simp only [Bool.and_eq_true] at this
        exact⟨(c3 i m e' hm he').1.cln C this.1,(c3 i m e' hm he').2.cln C this.2⟩
     ·cases e
    ·cases e)
   refine⟨C,g'.more C,h1,h2,ext _ r2,r1,?_⟩
   simp only [if_true,qMh]
   split
   ·rename_i hcl
    exact hv.cln C hcl
   ·exact .bot v
 refine (hF.2 (.s (o.dst.getD X.n)) C1 w (g.more C1) args hroot rfl hHD hinv hgl hargs.1 hargs.2).mono ?_
 intro e w' he
 cases e with
 | returned v =>
  obtain⟨C',g',H',x,hA,hv,hRx⟩:=he
  obtain⟨C'',g'',x1,x2,x3,x4,x5⟩:=fin hA hv
  refine⟨_,⟨C'',g'',x1,x2,?_,?_,x3,x4.put (fun t e=>?_) x5⟩,hK x H' hRx⟩
  ·rw [qJc];exact h3
  ·rw [qD6];exact h4
  ·show t<st.n
   rw [h3];exact hdn t e
 | panicked ch =>
  obtain⟨C',g',H',x,v,hA,rfl,hv,hRx⟩:=he
  obtain⟨C'',g'',x1,x2,x3,x4,x5⟩:=fin hA hv
  exact hQ v w' (st.call (o.dst.getD X.n) D H (if bor then hcln H' else H')) (if bor then qMh x else x) ⟨C'',g'',x1,x2,h3,h4,x3,x4,x5⟩ (hE x H' hRx)
 | outgrown=>exact he.elim
end
inductive Ex where
 | normal
 | exit (id:Nat)
 | goto (l:Nat)
 | ret
 | pan (x:AV)
def qNz (X:Ctx) (Q:Ex→St→Prop):Exit→Act→World→Prop
 | .normal,a,w=>∃ st,Rw X st a w∧Q .normal st
 | .exit id,a,w=>∃ st,Rw X st a w∧Q (.exit id) st
 | .goto l,a,w=>∃ st,Rw X st a w∧Q (.goto l) st
 | .ret,a,w=>∃ st,Rw X st a w∧Q .ret st
 | .panic ch,a,w=>∃ st v x,RwV X st a w v x∧ch=[{ v:=v,recovered:=false }]∧Q (.pan x) st
 | .outgrown,_,_=>False
def qW (X:Ctx) (c:Code) (Q:Ex→St→Prop) (st:St):Prop:=∀ a w,Rw X st a w→c.wp X.P (qNz X Q) a w
def qKG (X:Ctx) (ds:List (Option Nat)) (o:Oper) (K:St→Prop) (E:AV→St→Prop) (st:St):Prop :=
 ∀ (ops:Array Oper) (i:Nat),ops.toList.map (·.dst)=ds→ops[i]?=some o →
  ∀ (a:Act) (w:World) (Q:Exit→Act→World→Prop),Rw X st a w→(∀ v w' st' x,RwV X st' a w' v x→E x st'→Q (.panic [{ v:=v,recovered:=false }]) a w') →
   wpOp X.P ops Q i (fun a' w'=>∃ st',Rw X st' a' w'∧K st') a w
def wT (X:Ctx) (ds:List (Option Nat)) (K:St→Prop) (E:AV→St→Prop):List Oper→St→Prop
 | [],st=>K st
 | o::l,st=>qKG X ds o (wT X ds K E l) E st
def qVX (X:Ctx) (ops:Array Oper) (K:St→Prop) (E:AV→St→Prop) (st:St):Prop :=
 ∀ (a:Act) (w:World) (Q:Exit→Act→World→Prop),Rw X st a w→(∀ a' w' st',Rw X st' a' w'→K st'→Q .normal a' w')→(∀ a' v w' st' x,RwV X st' a' w' v x→E x st'→Q (.panic [{ v:=v,recovered:=false }]) a' w') →
  wpAny X.P .any ops Q ops.size (Array.replicate ops.size false) a w
section
variable {X:Ctx} {st:St} {a:Act} {w:World} {K:St→Prop} {E:AV→St→Prop} {ds:List (Option Nat)} {o:Oper}
theorem qBz {o:Oper} {y:Nat→Option Bool} (h:o.guard=none):Region.wanted o y=true:=by simp [Region.wanted,h]
theorem vV {d:Nat} {x:AV} (h:st.tm d=x):st.put (some d) x=st:=by
 obtain⟨tm,hp,n,gl⟩:=st
 simp only [St.put] at h ⊢
 congr 1
 funext t
 split
 ·rename_i e;rw [e,h]
 ·rfl
theorem Rw.slot_sc {t:Nat} {u:Value} (h:Rw X st a w) (ht:st.tm t=.sc u):a.tmps.getD t undef=u:=by
 obtain⟨C,g,_,_,_,_,_,hr⟩:=h
 have:=hr.slots t
 rw [ht] at this
 exact this.sc_eq
theorem Rw.size (h:Rw X st a w):a.tmps.size=X.n:=by
 obtain⟨C,g,_,_,h3,_,_,hr⟩:=h
 rw [hr.size,h3]
theorem Rw.yielded {ops:Array Oper} {j d:Nat} {t:Bool} (h:Rw X st a w) (hd:(ops.toList.map (·.dst))[j]?=some (some d)) (ht:st.tm d=.sc (.bool t)):yielded ops a.tmps j=some t:=by
 have hd:(ops[j]?).bind (·.dst)=some d:=by
  rw [List.getElem?_map] at hd
  obtain⟨o',ho',e⟩:=Option.map_eq_some_iff.1 hd
  rw [Array.getElem?_toList] at ho'
  rw [ho']
  exact e
 have hv:=h.slot_sc ht
 have hlt:d<a.tmps.size:=by
  refine Nat.lt_of_not_le fun hge=>?_
  rw [Array.getD_eq_getD_getElem?,Array.getElem?_eq_none hge] at hv
  simp [undef] at hv
 unfold Go.yielded
 rw [hd]
 simp only [Option.bind_some]
 rw [Array.getD_eq_getD_getElem?,Array.getElem?_eq_getElem hlt] at hv
 simp only [Option.getD_some] at hv
 rw [Array.getElem?_eq_getElem hlt,hv]
theorem Rw.putU (h:Rw X st a w) (dst:Option Nat) (hn:∀ d,dst=some d→d<X.n):Rw X (st.put dst (.sc undef)) (a.put dst undef) w:=by
 obtain⟨C,g,h1,h2,h3,h4,h5,hr⟩:=h
 exact⟨C,g,h1,h2,(qJc _ _ _).trans h3,(qD6 _ _ _).trans h4,h5,hr.put (fun t e=>by rw [h3];exact hn t e) (.sc _)⟩
theorem qUx (hg:o.guard=none) (h:qK X o K E st):qKG X ds o K E st:=by
 intro ops i hds hi a w Q hR hE
 unfold wpOp
 simp only [hi]
 rw [if_pos (qBz hg)]
 exact .inl (h a w Q hR hE)
theorem qLi {j d:Nat} {want t:Bool} (hg:o.guard=some (j,want)) (hd:ds[j]?=some (some d)) (ht:st.tm d=.sc (.bool t)) (h1:t=want→qK X o K E st) (h2:t=!want→(∀ e,o.dst=some e→e<X.n)∧K (st.put o.dst (.sc undef))):qKG X ds o K E st:=by
 intro ops i hds hi a w Q hR hE
 unfold wpOp
 simp only [hi]
 have hy:=hR.yielded (ops:=ops) (by rw [hds];exact hd) ht
 by_cases htw:t=want
 ·rw [if_pos (by simp [Region.wanted,hg,hy,htw])]
  exact .inl (h1 htw a w Q hR hE)
 ·rw [if_neg (by simp [Region.wanted,hg,hy,htw])]
  have hnot:t=!want:=by cases t <;> cases want <;> simp_all
  obtain⟨hn,hK⟩:=h2 hnot
  exact⟨_,hR.putU o.dst hn,hK⟩
theorem qP2 {j d:Nat} {want:Bool} (hg:o.guard=some (j,want)) (hd:ds[j]?=some (some d)) (ht:st.tm d=.sc (.bool want)) (h:qK X o K E st):qKG X ds o K E st :=
 qLi hg hd ht (fun _=>h) (fun e=>by cases want <;> cases e)
theorem qLj {j d:Nat} {want:Bool} (hg:o.guard=some (j,want)) (hd:ds[j]?=some (some d)) (ht:st.tm d=.sc (.bool (!want))) (hn:∀ e,o.dst=some e→e<X.n) (h:K (st.put o.dst (.sc undef))):qKG X ds o K E st :=
 qLi hg hd ht (fun e=>by cases want <;> cases e) (fun _=>⟨hn,h⟩)
theorem Rw.yieldedU {ops:Array Oper} {j d:Nat} {a:Act} {w:World} (hR:Rw X st a w) (hd:(ops.toList.map (·.dst))[j]?=some (some d)) (ht:st.tm d=.sc undef):Go.yielded ops a.tmps j=none:=by
 have hd:(ops[j]?).bind (·.dst)=some d:=by
  rw [List.getElem?_map] at hd
  obtain⟨o',ho',e⟩:=Option.map_eq_some_iff.1 hd
  rw [Array.getElem?_toList] at ho'
  rw [ho']
  exact e
 have hv:=hR.slot_sc ht
 unfold Go.yielded
 rw [hd]
 simp only [Option.bind_some]
 rw [Array.getD_eq_getD_getElem?] at hv
 cases hx:a.tmps[d]? with
 | none=>rfl
 | some v =>
  rw [hx] at hv
  simp only [Option.getD_some] at hv
  rw [hv]
  rfl
theorem qRb {j d:Nat} {want:Bool} (hg:o.guard=some (j,want)) (hd:ds[j]?=some (some d)) (ht:st.tm d=.sc undef) (hn:∀ e,o.dst=some e→e<X.n) (h:K (st.put o.dst (.sc undef))):qKG X ds o K E st:=by
 intro ops i hds hi a w Q hR hE
 unfold wpOp
 simp only [hi]
 have hy:yielded ops a.tmps j=none:=by
  have hd:(ops[j]?).bind (·.dst)=some d:=by
   rw [← hds,List.getElem?_map] at hd
   obtain⟨o',ho',e⟩:=Option.map_eq_some_iff.1 hd
   rw [Array.getElem?_toList] at ho'
   rw [ho']
   exact e
  have hv:=hR.slot_sc ht
  unfold Go.yielded
  rw [hd]
  simp only [Option.bind_some]
  rw [Array.getD_eq_getD_getElem?] at hv
  cases hx:a.tmps[d]? with
  | none=>rfl
  | some v =>
   rw [hx] at hv
   simp only [Option.getD_some] at hv
   rw [hv]
   rfl
 rw [if_neg (by simp [Region.wanted,hg,hy])]
 exact⟨_,hR.putU o.dst hn,h⟩
theorem wT.sound {ops:Array Oper} {Q:Exit→Act→World→Prop} (hQ:∀ a' w' st',Rw X st' a' w'→K st'→Q .normal a' w') (hE:∀ a' v w' st' x,RwV X st' a' w' v x→E x st'→Q (.panic [{ v:=v,recovered:=false }]) a' w') :
  ∀ (l:List Oper) (k:Nat),ops.toList.drop k=l→∀ st,wT X (ops.toList.map (·.dst)) K E l st→∀ a w,Rw X st a w→wpOps X.P ops Q (List.range' k l.length) a w
 | [],k,_,st,h,a,w,hR=>hQ a w st hR h
 | o::l,k,hl,st,h,a,w,hR=>by
  have hk:ops[k]?=some o:=by
   rw [← Array.getElem?_toList,← Nat.add_zero k,← List.getElem?_drop,hl];rfl
  rw [List.length_cons,List.range'_succ,wpOps_cons]
  refine wpOp_mono (fun a' w' he=>?_) (h ops k rfl hk a w Q hR (fun v w' st' x h1 h2=>hE a v w' st' x h1 h2))
  obtain⟨st',hR',hK'⟩:=he
  refine wT.sound hQ hE l (k+1) ?_ st' hK' a' w' hR'
  rw [← List.drop_drop,hl]
  rfl
theorem Rw.drawn (h:Rw X st a w) (k:Nat):Rw X st a { w with drawn:=k }:=by
 obtain⟨C,g,h1,h2,h3,h4,h5,hr⟩:=h
 have s1:=hr.step (g':=g) (w':={ w with drawn:=k }) (f:=some) (hp':=st.hp) rfl (fun n n' e=>by obtain rfl:=sI e;exact⟨rfl,rfl⟩) rfl rfl rfl (Nat.le_refl _) (fun _ _=>rfl) (fun _ _ _=>rfl)
  (fun n o e=>.inl ⟨n,o,rfl,e,(AO.tr_some o).symm,fun _ _=>rfl⟩)
 have e:st.nm some st.hp=st:=by simp only [St.nm,AV.tr_some]
 rw [e] at s1
 exact⟨C,g,h1,h2,h3,h4,h5,s1⟩
def qHA (K:St→Prop) (Q:Ex→St→Prop):Ex→St→Prop
 | .normal,st=>K st
 | e,st=>Q e st
def uA (id:Nat) (Q:Ex→St→Prop):Ex→St→Prop
 | .exit id',st=>if id'=id then Q .normal st else Q (.exit id') st
 | e,st=>Q e st
theorem qJd {Q Q':Ex→St→Prop} (hQ:∀ e s,Q e s→Q' e s):∀ e a w,qNz X Q e a w→qNz X Q' e a w:=by
 intro e a w h
 cases e with
 | normal=>obtain⟨s,h1,h2⟩:=h;exact⟨s,h1,hQ _ _ h2⟩
 | exit id=>obtain⟨s,h1,h2⟩:=h;exact⟨s,h1,hQ _ _ h2⟩
 | goto l=>obtain⟨s,h1,h2⟩:=h;exact⟨s,h1,hQ _ _ h2⟩
 | ret=>obtain⟨s,h1,h2⟩:=h;exact⟨s,h1,hQ _ _ h2⟩
 | panic ch=>obtain⟨s,v,x,h1,h2,h3⟩:=h;exact⟨s,v,x,h1,h2,hQ _ _ h3⟩
 | outgrown=>exact h
theorem qW.mono {c:Code} {Q Q':Ex→St→Prop} (h:qW X c Q st) (hQ:∀ e s,Q e s→Q' e s):qW X c Q' st :=
 fun a w hR=>wp_mono (h a w hR) (qJd hQ)
theorem q7 {Q:Ex→St→Prop} (h:Q .normal st):qW X .skip Q st:=fun _ _ hR=>wp_skip ⟨st,hR,h⟩
theorem qAl {l:Nat} {Q:Ex→St→Prop} (h:Q .normal st):qW X (.label l) Q st:=fun _ _ hR=>wp_label ⟨st,hR,h⟩
theorem jS {id:Nat} {Q:Ex→St→Prop} (h:Q (.exit id) st):qW X (.exit id) Q st:=fun _ _ hR=>wp_exit ⟨st,hR,h⟩
theorem qPP {l:Nat} {Q:Ex→St→Prop} (h:Q (.goto l) st):qW X (.goto l) Q st:=fun _ _ hR=>wp_goto ⟨st,hR,h⟩
theorem qw {Q:Ex→St→Prop} (h:Q .ret st):qW X .ret Q st:=fun _ _ hR=>wp_ret ⟨st,hR,h⟩
theorem qf {c d:Code} {Q:Ex→St→Prop} (h:qW X c (qHA (qW X d Q) Q) st):qW X (.seq c d) Q st:=by
 intro a w hR
 refine wp_seq (wp_mono (h a w hR) fun e a' w' he=>?_)
 cases e with
 | normal=>obtain⟨st',hR',hQ⟩:=he;exact hQ a' w' hR'
 | exit id=>exact he
 | goto l=>exact he
 | ret=>exact he
 | panic ch=>exact he
 | outgrown=>exact he
theorem qHz {c:Operand} {x y:Code} {Q:Ex→St→Prop} {t:Bool} (ht:ev st c=.sc (.bool t)) (h1:t=true→qW X x Q st) (h2:t=false→qW X y Q st):qW X (.cond c x y) Q st:=by
 intro a w hR
 have hv:a.eval c=.bool t:=by
  obtain⟨C,g,_,_,_,_,_,hr⟩:=hR
  exact (ht ▸ hr.ev c).sc_eq
 exact wp_cond_split hv (fun e=>h1 e a w hR) (fun e=>h2 e a w hR)
theorem qMm {c:Operand} {x y:Code} {Q:Ex→St→Prop} (h1:qW X x Q st) (ht:ev st c=.sc (.bool true)):qW X (.cond c x y) Q st:=qHz ht (fun _=>h1) (fun e=>by cases e)
theorem qMn {c:Operand} {x y:Code} {Q:Ex→St→Prop} (h1:qW X y Q st) (ht:ev st c=.sc (.bool false)):qW X (.cond c x y) Q st:=qHz ht (fun e=>by cases e) (fun _=>h1)
theorem qS {id:Nat} {c:Code} {Q:Ex→St→Prop} (h:qW X c (uA id Q) st):qW X (.block id c) Q st:=by
 intro a w hR
 refine wp_block (wp_mono (h a w hR) fun e a' w' he=>?_)
 cases e with
 | exit id' =>
  obtain⟨st',hR',hQ⟩:=he
  simp only [Exit.inBlock]
  simp only [uA] at hQ
  split
  ·rename_i e;rw [if_pos e] at hQ;exact⟨st',hR',hQ⟩
  ·rename_i e;rw [if_neg e] at hQ;exact⟨st',hR',hQ⟩
 | normal=>exact he
 | goto l=>exact he
 | ret=>exact he
 | panic ch=>exact he
 | outgrown=>exact he
theorem qJk {p:Nat→Prop} (h:∃ n,p n):∃ n,p n∧∀ m,p m→n≤m:=by
 obtain⟨n,hn⟩:=h
 induction n using Nat.strongRecOn with
 | _ n ih =>
  by_cases hl:∃ m,m<n∧p m
  ·obtain⟨m,h1,h2⟩:=hl
   exact ih m h1 h2
  ·exact⟨n,hn,fun m hm=>Nat.le_of_not_lt fun hlt=>hl ⟨m,hlt,hm⟩⟩
theorem qY {c:Code} {Q:Ex→St→Prop} (I:Nat→St→Prop) (n0:Nat) (h0:I n0 st) (hround:∀ n s,s.n=X.n→s.gl=X.gl→I n s→qW X c (qHA (fun s'=>∃ m,m<n∧I m s') Q) s):qW X (.loop c) Q st:=by
 intro a w hR
 let J:Nat→Act→World→Prop:=fun n a w=>∃ st,Rw X st a w∧I n st
 let μ:Act→World→Nat:=fun a w=>open Classical in if h:∃ n,J n a w then (qJk h).choose else 0
 have hμ:∀ n a w,J n a w→μ a w≤n:=by
  intro n a w hJ
  have hex:∃ n,J n a w:=⟨n,hJ⟩
  simp only [μ,dif_pos hex]
  exact (qJk hex).choose_spec.2 n hJ
 refine wp_loop (fun a w=>∃ n,J n a w) μ ⟨n0,st,hR,h0⟩ fun a w hJ=>?_
 have hspec:J (μ a w) a w:=by
  simp only [μ,dif_pos hJ]
  exact (qJk hJ).choose_spec.1
 obtain⟨st1,hR1,hI1⟩:=hspec
 have hR1':=hR1
 obtain⟨C,g,x1,x2,x3,x4,x5,x6⟩:=hR1
 refine wp_mono (hround _ st1 x3 x4 hI1 a w hR1') fun e a' w' he=>?_
 cases e with
 | normal =>
  obtain⟨st',hR',m,hlt,hI⟩:=he
  exact⟨⟨m,st',hR',hI⟩,Nat.lt_of_le_of_lt (hμ m a' w' ⟨st',hR',hI⟩) hlt⟩
 | exit id=>exact he
 | goto l=>exact he
 | ret=>exact he
 | panic ch=>exact he
 | outgrown=>exact he
theorem qMk {id:Nat} {ops:Array Oper} {Q:Ex→St→Prop} (h:∀ K:St→Prop,(∀ s,Q .normal s→K s)→wT X (ops.toList.map (·.dst)) K (fun x=>Q (.pan x)) ops.toList st):qW X (.region id ops false) Q st:=by
 intro a w hR
 refine wp_region ?_
 rw [List.range_eq_range']
 have:=wT.sound (ops:=ops) (Q:=qNz X Q) (fun a' w' st' h1 h2=>⟨st',h1,h2⟩) (fun a' v w' st' x h1 h2=>⟨st',v,x,h1,rfl,h2⟩) ops.toList 0 rfl st (h _ (fun _ h=>h)) a w hR
 simpa using this
theorem qSh {id:Nat} {ops:Array Oper} {Q:Ex→St→Prop} (hm:X.P.follows .mixedOrders=true) (h:∀ K:St→Prop,(∀ s,Q .normal s→K s)→qVX X ops K (fun x=>Q (.pan x)) st):qW X (.region id ops true) Q st:=by
 intro a w hR
 exact wp_region_any hm (h _ (fun _ h=>h) a _ _ (hR.drawn _) (fun a' w' st' h1 h2=>⟨st',h1,h2⟩) (fun a' v w' st' x h1 h2=>⟨st',v,x,h1,rfl,h2⟩))
theorem qD {K:St→Prop} {Q:Ex→St→Prop} (h:K st):qHA K Q .normal st:=h
theorem zr {Q:Ex→St→Prop} {id:Nat} (h:Q .normal st):uA id Q (.exit id) st:=by simp [uA,h]
theorem zP {Q:Ex→St→Prop} {id id':Nat} (hne:id'≠id) (h:Q (.exit id') st):uA id Q (.exit id') st:=by simp [uA,hne,h]
end
end Go.Hm
end
