/-
  Own texts, joined by mkclaim.py: Hm1, Hm2, Hm3.
-/
import Derived.WalkKit
import Derived.MapKept
import Derived.Laws.StructEq
import Derived.Laws.CopyRow
set_option linter.unusedSimpArgs false
set_option linter.unusedVariables false
set_option maxRecDepth 100000
set_option maxHeartbeats 4000000

section
namespace Go.Hm
open Go Go.RowKit
theorem aI {a b:Prop} (x:a) (y:b):a∧b:=⟨x,y⟩
theorem sI {α:Type _} {a b:α} (h:some a=some b):a=b:=Option.some.inj h
theorem lB {a b:Nat} (h:Nat.ble a b=true):a≤b:=Nat.le_of_ble_eq_true h
theorem gM {α:Type _} {l:List α} {i:Nat} {a:α} (h:l[i]?=some a):a∈l:=List.mem_of_getElem? h
theorem gS {α:Type _} {l:List α} {i:Nat} {a:α} (h:l[i]?=some a):∃ h:i<l.length,l[i]=a:=List.getElem?_eq_some_iff.1 h
theorem gE {α:Type _} {l:List α} {i:Nat} (h:i<l.length):l[i]?=some l[i]:=List.getElem?_eq_getElem h
inductive Nm where
 | s (d:Nat)
 | c (n:Nm) (i j:Nat)
 | u (k i j:Nat)
 deriving DecidableEq
def Nm.under (k0:Nm):Nm→Bool
 | .s d=>decide (Nm.s d=k0)
 | .u k i j=>decide (Nm.u k i j=k0)
 | .c q i j=>decide (Nm.c q i j=k0)||Nm.under k0 q
def Nm.ren (k0 k1:Nm):Nm→Nm
 | .s d=>if Nm.s d=k0 then k1 else .s d
 | .u k i j=>if Nm.u k i j=k0 then k1 else .u k i j
 | .c q i j=>if Nm.c q i j=k0 then k1 else .c (Nm.ren k0 k1 q) i j
def mv (k0 k1 k:Nm):Option Nm:=if Nm.under k0 k then some (Nm.ren k0 k1 k) else if Nm.under k1 k then none else some k
def kl (k0 k:Nm):Option Nm:=if Nm.under k0 k then none else some k
inductive AV where
 | sc (v:Value)
 | sl (z:Nat) (rows:List (List AV))
 | el (row:List AV) (off:Nat)
 | hs (n:Nm) (z lo len:Nat)
 | pt (n:Nm) (off:Nat)
 | ep (n:Nm) (z i off:Nat)
 | mp (n:Nm)
 | agg (cs:List AV)
 | tup (cs:List AV)
 | ifc (t:TypeId) (a:AV)
 | fn (f:Fn) (xs ys:List AV)
 | bot
inductive AO where
 | row (z:Nat) (rows:List (List AV))
 | map (es:List (AV×AV))
 | trow (T:TypeId) (z:Nat) (ex:Bool) (rows:List (List AV))
mutual
def AV.tr (f:Nm→Option Nm):AV→AV
 | .sc v=>.sc v
 | .sl z rows=>.sl z (qM5 f rows)
 | .el row off=>.el (trL f row) off
 | .hs n z lo len=>match f n with|some n'=>.hs n' z lo len|none=>.bot
 | .pt n off=>match f n with|some n'=>.pt n' off|none=>.bot
 | .ep n z i off=>match f n with|some n'=>.ep n' z i off|none=>.bot
 | .mp n=>match f n with|some n'=>.mp n'|none=>.bot
 | .agg cs=>.agg (trL f cs)
 | .tup cs=>.tup (trL f cs)
 | .ifc t a=>.ifc t (AV.tr f a)
 | .fn g xs ys=>.fn g (trL f xs) (trL f ys)
 | .bot=>.bot
def trL (f:Nm→Option Nm):List AV→List AV
 | []=>[]
 | a::l=>AV.tr f a::trL f l
def qM5 (f:Nm→Option Nm):List (List AV)→List (List AV)
 | []=>[]
 | r::l=>trL f r::qM5 f l
end
theorem wM (f:Nm→Option Nm) (l:List AV):trL f l=l.map (AV.tr f):=by
 induction l with
 | nil=>rfl
 | cons a l ih=>simp [trL,ih]
theorem jL (f:Nm→Option Nm) (l:List (List AV)):qM5 f l=l.map (fun r=>r.map (AV.tr f)):=by
 induction l with
 | nil=>rfl
 | cons a l ih=>simp [qM5,wM,ih]
def AO.tr (f:Nm→Option Nm):AO→AO
 | .row z rows=>.row z (rows.map (fun r=>r.map (AV.tr f)))
 | .map es=>.map (es.map (fun e=>(e.1.tr f,e.2.tr f)))
 | .trow T z ex rows=>.trow T z ex (rows.map (fun r=>r.map (AV.tr f)))
theorem Nm.under_self (k:Nm):Nm.under k k=true:=by cases k <;> simp [Nm.under]
theorem Nm.under_ren {k0 k1:Nm}:∀ k,Nm.under k0 k=true→Nm.under k1 (Nm.ren k0 k1 k)=true:=by
 intro k
 induction k with
 | s d=>intro h;simp [Nm.under] at h;simp [Nm.ren,h,Nm.under_self]
 | u a b d=>intro h;simp [Nm.under] at h;simp [Nm.ren,h,Nm.under_self]
 | c q i j ih =>
  intro h
  by_cases hq:Nm.c q i j=k0
  ·simp [Nm.ren,hq,Nm.under_self]
  ·simp [Nm.under,hq] at h
   simp [Nm.ren,hq,Nm.under,ih h]
theorem Nm.not_under_c {k0 q:Nm} {i j:Nat} (h:Nm.under k0 q=true):Nm.c q i j≠k0:=by
 have size:∀ k:Nm,Nm.under k0 k=true→SizeOf.sizeOf k0≤SizeOf.sizeOf k:=by
  intro k
  induction k with
  | s d=>intro h;simp [Nm.under] at h;simp [h]
  | u a b d=>intro h;simp [Nm.under] at h;simp [h]
  | c q i j ih =>
   intro h
   simp [Nm.under] at h
   rcases h with h|h
   ·simp [h]
   ·have:=ih h;simp;omega
 intro e
 have:=size q h
 rw [← e] at this
 simp at this
 omega
theorem Nm.ren_inj {k0 k1:Nm}:∀ k k',Nm.under k0 k=true→Nm.under k0 k'=true→Nm.ren k0 k1 k=Nm.ren k0 k1 k'→k=k':=by
 have base:∀ k:Nm,k=k0→Nm.ren k0 k1 k=k1:=by
  intro k e
  cases k <;> simp [Nm.ren,e]
 have leaf:∀ k k',k=k0→Nm.under k0 k'=true→Nm.ren k0 k1 k=Nm.ren k0 k1 k'→k=k':=by
  intro k k' h h' e
  rw [base k h] at e
  cases k' with
  | s d'=>simp [Nm.under] at h';rw [h,h']
  | u a b d=>simp [Nm.under] at h';rw [h,h']
  | c q i j =>
   by_cases hq:Nm.c q i j=k0
   ·rw [h,hq]
   ·simp [Nm.under,hq] at h'
    simp only [Nm.ren,hq,if_false] at e
    have:=Nm.not_under_c (i:=i) (j:=j) (Nm.under_ren (k1:=k1) q h')
    exact absurd e.symm this
 intro k
 induction k with
 | s d=>intro k' h h' e;simp [Nm.under] at h;exact leaf _ k' h h' e
 | u a b d=>intro k' h h' e;simp [Nm.under] at h;exact leaf _ k' h h' e
 | c q i j ih =>
  intro k' h h' e
  by_cases hq:Nm.c q i j=k0
  ·exact leaf _ k' hq h' e
  ·by_cases hk':k'=k0
   ·exact (leaf k' _ hk' h e.symm).symm
   ·simp [Nm.under,hq] at h
    have e0:Nm.ren k0 k1 (.c q i j)=.c (Nm.ren k0 k1 q) i j:=by simp [Nm.ren,hq]
    rw [e0] at e
    cases k' with
    | s d'=>simp [Nm.under,hk'] at h'
    | u a b d=>simp [Nm.under,hk'] at h'
    | c q' i' j' =>
     simp [Nm.under,hk'] at h'
     simp only [Nm.ren,hk',if_false] at e
     injection e with e1 e2 e3
     rw [ih q' h h' e1,e2,e3]
theorem qI5 {k0 k1 k k' x:Nm} (h:mv k0 k1 k=some x) (h':mv k0 k1 k'=some x):k=k':=by
 unfold mv at h h'
 split at h
 ·rename_i u
  split at h'
  ·rename_i u'
   exact Nm.ren_inj _ _ u u' ((sI h).trans (sI h').symm)
  ·split at h'
   ·cases h'
   ·rename_i u' u1
    have:=Nm.under_ren (k1:=k1) k u
    rw [sI h,← sI h'] at this
    exact absurd this u1
 ·rename_i u
  split at h
  ·cases h
  ·rename_i u1
   split at h'
   ·rename_i u'
    have:=Nm.under_ren (k1:=k1) k' u'
    rw [sI h',← sI h] at this
    exact absurd this u1
   ·split at h'
    ·cases h'
    ·exact (sI h).trans (sI h').symm
theorem qCi {k0 k x:Nm} (h:kl k0 k=some x):k=x∧Nm.under k0 x=false:=by
 unfold kl at h
 split at h
 ·cases h
 ·rename_i u
  obtain rfl:=sI h
  exact⟨rfl,by simpa using u⟩
theorem qGX {k0 k k' x:Nm} (h:kl k0 k=some x) (h':kl k0 k'=some x):k=k':=(qCi h).1.trans (qCi h').1.symm
theorem vM {α:Type} {r:List α} {off:Nat} {vals:List α} (h:off+vals.length≤r.length) (j:Nat) :
  (r.take off++vals++r.drop (off+vals.length))[j]?=if off≤j∧j<off+vals.length then vals[j - off]? else r[j]?:=by
 have ht:(r.take off).length=off:=by rw [List.length_take];omega
 rw [List.append_assoc,List.getElem?_append,ht]
 by_cases h1:j<off
 ·rw [if_pos h1,if_neg (by omega),List.getElem?_take,if_pos h1]
 ·rw [if_neg h1,List.getElem?_append]
  by_cases h2:j - off<vals.length
  ·rw [if_pos h2,if_pos (by omega)]
  ·rw [if_neg h2,if_neg (by omega),List.getElem?_drop]
   congr 1
   omega
theorem qDG {α:Type} {r:List α} {off:Nat} {vals:List α} (h:off+vals.length≤r.length):(r.take off++vals++r.drop (off+vals.length)).length=r.length:=by
 simp only [List.length_append,List.length_take,List.length_drop]
 omega
theorem qBn (cur:List Value) (o:Nat) (nv:List Value) (h:o+nv.length≤cur.length) (p:Nat) :
  ((cur.take o++nv++cur.drop (o+nv.length)).toArray).getD p undef=if o≤p∧p<o+nv.length then nv.getD (p - o) undef else cur.getD p undef:=by
 have e:((cur.take o++nv++cur.drop (o+nv.length)).toArray).getD p undef=(cur.take o++nv++cur.drop (o+nv.length)).getD p undef:=by simp
 rw [e,List.getD_eq_getElem?_getD,List.getD_eq_getElem?_getD,List.getD_eq_getElem?_getD,vM h]
 split <;> rfl
def tsz (P:Program) (T:TypeId):Nat:=((P.info? T).map (·.size)).getD 0
structure Gh where
 C:Nat→Prop
 φ:Nm→Option Nat
 κ:Nm→Nat
inductive RV (g:Gh) (w:World):Value→AV→Prop
 | sc (v:Value):RV g w v (.sc v)
 | slN (ad:Option Addr) (cap:Nat) (z:Nat):RV g w (.slice ad 0 cap) (.sl z [])
 | slC (b off cap n z:Nat) (rows:List (List AV)) (f:Nat→Nat→Value) (hC:g.C b) (hn:rows.length=n) (hcap:n≤cap) (hu:∀ r∈rows,r.length=z)
   (hcell:∀ i j,i<n→j<z→w.cell? ⟨b,off+i * z+j,none⟩=some (f i j))
   (ho:∀ i j,i<n→j<z→(f i j).oneCell'=true)
   (hr:∀ (i:Nat) row,rows[i]?=some row→∀ (j:Nat) a,row[j]?=some a→RV g w (f i j) a):RV g w (.slice (some ⟨b,off,none⟩) n cap) (.sl z rows)
 | el (b o off:Nat) (row:List AV) (f:Nat→Value) (hC:g.C b)
   (hcell:∀ j,j<row.length→w.cell? ⟨b,o+j,none⟩=some (f j))
   (ho:∀ j,j<row.length→(f j).oneCell'=true)
   (hr:∀ (j:Nat) a,row[j]?=some a→RV g w (f j) a):RV g w (.pointer (some ⟨b,o+off,none⟩)) (.el row off)
 | hsN (n:Nm) (z:Nat) (hk:g.φ n=none):RV g w (.slice none 0 0) (.hs n z 0 0)
 | hsB (n:Nm) (z lo len b cap:Nat) (ad:Option Addr) (hk:g.φ n=some b) (h1:len≤cap) (h2:lo+cap=g.κ n) (h3:0<cap→ad=some ⟨b,lo * z,none⟩) :
   RV g w (.slice ad len cap) (.hs n z lo len)
 | pt (n:Nm) (off b:Nat) (hk:g.φ n=some b):RV g w (.pointer (some ⟨b,off,none⟩)) (.pt n off)
 | ep (n:Nm) (z i off b:Nat) (hk:g.φ n=some b):RV g w (.pointer (some ⟨b,i * z+off,none⟩)) (.ep n z i off)
 | mp (n:Nm) (b:Nat) (hk:g.φ n=some b):RV g w (.map (some b)) (.mp n)
 | agg (vs:List Value) (cs:List AV) (hl:vs.length=cs.length) (hr:∀ (j:Nat) v a,vs[j]?=some v→cs[j]?=some a→RV g w v a):RV g w (.agg vs.toArray) (.agg cs)
 | tup (vs:List Value) (cs:List AV) (hl:vs.length=cs.length) (hr:∀ (j:Nat) v a,vs[j]?=some v→cs[j]?=some a→RV g w v a):RV g w (.tuple vs.toArray) (.tup cs)
 | ifc (t:TypeId) (v:Value) (a:AV) (h:RV g w v a):RV g w (.iface t v) (.ifc t a)
 | fn (f:Fn) (vs us:List Value) (xs ys:List AV) (hl:vs.length=xs.length) (hl2:us.length=ys.length) (hr:∀ (j:Nat) v a,vs[j]?=some v→xs[j]?=some a→RV g w v a)
   (hr2:∀ (j:Nat) v a,us[j]?=some v→ys[j]?=some a→RV g w v a):RV g w (.func f vs.toArray us.toArray) (.fn f xs ys)
 | bot (v:Value):RV g w v .bot
theorem RV.tr {g g':Gh} {w w':World} {v:Value} {a:AV} {f:Nm→Option Nm} (h:RV g w v a) (hC:∀ b,g.C b→g'.C b) (hw:∀ b,g.C b→w'.heap[b]?=w.heap[b]?)
  (hf:∀ n n',f n=some n'→g'.φ n'=g.φ n∧g'.κ n'=g.κ n):RV g' w' v (a.tr f):=by
 have cell:∀ (b o:Nat),g.C b→w'.cell? ⟨b,o,none⟩=w.cell? ⟨b,o,none⟩:=by
  intro b o hb
  simp only [World.cell?,hw b hb]
 induction h with
 | sc v=>exact .sc v
 | slN ad cap z=>exact .slN ad cap z
 | slC b off cap n z rows fv hCb hn hcap hu hcell ho _ ih =>
  simp only [AV.tr,jL]
  refine .slC b off cap n z _ fv (hC b hCb) (by rw [List.length_map];exact hn) hcap ?_ (fun i j hi hj=>by rw [cell _ _ hCb];exact hcell i j hi hj) ho ?_
  ·intro r hr
   obtain⟨r0,h0,rfl⟩:=List.mem_map.1 hr
   rw [List.length_map]
   exact hu r0 h0
  ·intro i row hrow j a ha
   rw [List.getElem?_map] at hrow
   obtain⟨r0,h0,rfl⟩:=Option.map_eq_some_iff.1 hrow
   rw [List.getElem?_map] at ha
   obtain⟨a0,ha0,rfl⟩:=Option.map_eq_some_iff.1 ha
   exact ih i r0 h0 j a0 ha0
 | el b o off row fv hCb hcell ho _ ih =>
  simp only [AV.tr,wM]
  refine .el b o off _ fv (hC b hCb) (fun j hj=>by rw [cell _ _ hCb];exact hcell j (by simpa using hj)) (fun j hj=>ho j (by simpa using hj)) ?_
  intro j a ha
  rw [List.getElem?_map] at ha
  obtain⟨a0,ha0,rfl⟩:=Option.map_eq_some_iff.1 ha
  exact ih j a0 ha0
 | hsN n z hk =>
  simp only [AV.tr]
  cases e:f n with
  | none=>exact .bot _
  | some n'=>exact .hsN n' z ((hf n n' e).1.trans hk)
 | hsB n z lo len b cap ad hk h1 h2 h3 =>
  simp only [AV.tr]
  cases e:f n with
  | none=>exact .bot _
  | some n'=>exact .hsB n' z lo len b cap ad ((hf n n' e).1.trans hk) h1 (h2.trans (hf n n' e).2.symm) h3
 | pt n off b hk =>
  simp only [AV.tr]
  cases e:f n with
  | none=>exact .bot _
  | some n'=>exact .pt n' off b ((hf n n' e).1.trans hk)
 | ep n z i off b hk =>
  simp only [AV.tr]
  cases e:f n with
  | none=>exact .bot _
  | some n'=>exact .ep n' z i off b ((hf n n' e).1.trans hk)
 | mp n b hk =>
  simp only [AV.tr]
  cases e:f n with
  | none=>exact .bot _
  | some n'=>exact .mp n' b ((hf n n' e).1.trans hk)
 | agg vs cs hl _ ih =>
  simp only [AV.tr,wM]
  refine .agg vs _ (by rw [List.length_map];exact hl) fun j v a hv ha=>?_
  rw [List.getElem?_map] at ha
  obtain⟨a0,ha0,rfl⟩:=Option.map_eq_some_iff.1 ha
  exact ih j v a0 hv ha0
 | tup vs cs hl _ ih =>
  simp only [AV.tr,wM]
  refine .tup vs _ (by rw [List.length_map];exact hl) fun j v a hv ha=>?_
  rw [List.getElem?_map] at ha
  obtain⟨a0,ha0,rfl⟩:=Option.map_eq_some_iff.1 ha
  exact ih j v a0 hv ha0
 | ifc t v a _ ih=>exact .ifc t v _ ih
 | fn fv vs us xs ys hl hl2 _ _ ih ih2 =>
  simp only [AV.tr,wM]
  refine .fn fv vs us _ _ (by rw [List.length_map];exact hl) (by rw [List.length_map];exact hl2) (fun j v a hv ha=>?_) (fun j v a hv ha=>?_)
  ·rw [List.getElem?_map] at ha
   obtain⟨a0,ha0,rfl⟩:=Option.map_eq_some_iff.1 ha
   exact ih j v a0 hv ha0
  ·rw [List.getElem?_map] at ha
   obtain⟨a0,ha0,rfl⟩:=Option.map_eq_some_iff.1 ha
   exact ih2 j v a0 hv ha0
 | bot v=>exact .bot v
theorem AV.tr_some (a:AV):a.tr some=a:=by
 refine AV.rec (motive_1:=fun a=>a.tr some=a) (motive_2:=fun l=>qM5 some l=l) (motive_3:=fun l=>trL some l=l) ?_ ?_ ?_ ?_ ?_ ?_ ?_ ?_ ?_ ?_ ?_ ?_ ?_ ?_ ?_ ?_ a
 all_goals (intros;simp_all [AV.tr,trL,qM5])
theorem AO.tr_some (o:AO):o.tr some=o:=by
 cases o with
 | row z rows =>
  have:(fun r:List AV=>r.map (AV.tr some))=id:=by
   funext r
   have e:AV.tr some=id:=by funext a;exact AV.tr_some a
   rw [e];simp
  simp only [AO.tr,this,List.map_id]
 | map es=>simp [AO.tr,AV.tr_some]
 | trow T z ex rows =>
  have:(fun r:List AV=>r.map (AV.tr some))=id:=by
   funext r
   have e:AV.tr some=id:=by funext a;exact AV.tr_some a
   rw [e];simp
  simp only [AO.tr,this,List.map_id]
theorem RV.same {g g':Gh} {w w':World} {v:Value} {a:AV} (h:RV g w v a) (hC:∀ b,g.C b→g'.C b) (hw:∀ b,g.C b→w'.heap[b]?=w.heap[b]?)
  (hf:∀ n,g'.φ n=g.φ n∧g'.κ n=g.κ n):RV g' w' v a:=by
 have:=h.tr (f:=some) hC hw (fun n n' e=>by obtain rfl:=sI e;exact hf n)
 rwa [AV.tr_some] at this
def qMZ (g:Gh) (w:World) (b cap z:Nat) (rows:List (List AV)):Prop :=
 ∃ (cur:Array Value) (T:TypeId),w.heap[b]?=some (.cells cur T (0,0))∧cur.size=cap * z∧cap≤maxLen∧rows.length≤cap∧(∀ r∈rows,r.length=z) ∧
  (∀ j,j<rows.length * z→(cur.getD j undef).oneCell'=true)∧∀ (i:Nat) row,rows[i]?=some row→∀ (j:Nat) a,row[j]?=some a→RV g w (cur.getD (i * z+j) undef) a
def qP8 (g:Gh) (w:World) (b cap:Nat) (T:TypeId) (z:Nat) (rows:List (List AV)):Prop :=
 ∃ (cur:Array Value),w.heap[b]?=some (.cells cur T (0,0))∧cur.size=cap * z∧cap≤maxLen∧rows.length≤cap∧(∀ r∈rows,r.length=z) ∧
  (∀ j,j<rows.length * z→(cur.getD j undef).oneCell'=true)∧∀ (i:Nat) row,rows[i]?=some row→∀ (j:Nat) a,row[j]?=some a→RV g w (cur.getD (i * z+j) undef) a
def qVO (g:Gh) (w:World) (b:Nat) (es:List (AV×AV)):Prop :=
 ∃ (ms:List MapEntry) (clock:Nat),w.heap[b]?=some (.map ms.toArray clock)∧MapKept.Stamped ms.toArray clock∧ms.length=es.length∧∀ (i:Nat) m e,ms[i]?=some m→es[i]?=some e→RV g w m.key e.1∧RV g w m.val e.2
def OAt (g:Gh) (w:World) (n:Nm):AO→Prop
 | .row z rows=>match g.φ n with|some b=>qMZ g w b (g.κ n) z rows|none=>rows=[]
 | .map es=>match g.φ n with|some b=>qVO g w b es|none=>False
 | .trow T z ex rows=>match g.φ n with|some b=>qP8 g w b (g.κ n) T z rows∧(ex=true→g.κ n=rows.length)∧(ex=false→0<g.κ n)|none=>rows=[]
theorem OAt.tr {g g':Gh} {w w':World} {n n':Nm} {o:AO} {f:Nm→Option Nm} (h:OAt g w n o) (hC:∀ b,g.C b→g'.C b) (hw:∀ b,g.C b→w'.heap[b]?=w.heap[b]?)
  (hf:∀ n n',f n=some n'→g'.φ n'=g.φ n∧g'.κ n'=g.κ n) (hn:f n=some n') (hb:∀ b,g.φ n=some b→w'.heap[b]?=w.heap[b]?):OAt g' w' n' (o.tr f):=by
 obtain⟨e1,e2⟩:=hf n n' hn
 cases o with
 | row z rows =>
  simp only [OAt,AO.tr,e1,e2] at h ⊢
  cases e:g.φ n with
  | none=>rw [e] at h;simp only at h;subst h;rfl
  | some b =>
   rw [e] at h
   obtain⟨cur,T,h1,h2,h3,h4,h5,h6,h7⟩:=h
   refine⟨cur,T,(hb b e).trans h1,h2,h3,by rw [List.length_map];exact h4,?_,by rw [List.length_map];exact h6,?_⟩
   ·intro r hr
    obtain⟨r0,h0,rfl⟩:=List.mem_map.1 hr
    rw [List.length_map]
    exact h5 r0 h0
   ·intro i row hrow j a ha
    rw [List.getElem?_map] at hrow
    obtain⟨r0,h0,rfl⟩:=Option.map_eq_some_iff.1 hrow
    rw [List.getElem?_map] at ha
    obtain⟨a0,ha0,rfl⟩:=Option.map_eq_some_iff.1 ha
    exact (h7 i r0 h0 j a0 ha0).tr hC hw hf
 | map es =>
  simp only [OAt,AO.tr,e1] at h ⊢
  cases e:g.φ n with
  | none=>rw [e] at h;exact h.elim
  | some b =>
   rw [e] at h
   obtain⟨ms,clock,h1,hst,h2,h3⟩:=h
   refine⟨ms,clock,(hb b e).trans h1,hst,by rw [List.length_map];exact h2,fun i m en hm he=>?_⟩
   rw [List.getElem?_map] at he
   obtain⟨e0,he0,rfl⟩:=Option.map_eq_some_iff.1 he
   obtain⟨r1,r2⟩:=h3 i m e0 hm he0
   exact⟨r1.tr hC hw hf,r2.tr hC hw hf⟩
 | trow T z ex rows =>
  simp only [OAt,AO.tr,e1,e2] at h ⊢
  cases e:g.φ n with
  | none=>rw [e] at h;simp only at h;subst h;rfl
  | some b =>
   rw [e] at h
   obtain⟨⟨cur,h1,h2,h3,h4,h5,h6,h7⟩,h8⟩:=h
   refine⟨⟨cur,(hb b e).trans h1,h2,h3,by rw [List.length_map];exact h4,?_,by rw [List.length_map];exact h6,?_⟩,fun he=>by rw [List.length_map];exact h8.1 he,h8.2⟩
   ·intro r hr
    obtain⟨r0,h0,rfl⟩:=List.mem_map.1 hr
    rw [List.length_map]
    exact h5 r0 h0
   ·intro i row hrow j a ha
    rw [List.getElem?_map] at hrow
    obtain⟨r0,h0,rfl⟩:=Option.map_eq_some_iff.1 hrow
    rw [List.getElem?_map] at ha
    obtain⟨a0,ha0,rfl⟩:=Option.map_eq_some_iff.1 ha
    exact (h7 i r0 h0 j a0 ha0).tr hC hw hf
structure Inv (own:Nat→Prop) (C:Nat→Prop) (w0:World) (g:Gh) (hp:Nm→Option AO) (w:World):Prop where
 os:w.os=w0.os
 tape:w.tape=w0.tape
 output:w.output=w0.output
 size:w0.heap.size≤w.heap.size
 keep:∀ b,b<w0.heap.size→¬ own b→w.heap[b]?=w0.heap[b]?
 hC:g.C=C
 clt:∀ b,C b→b<w.heap.size
 obj:∀ n o,hp n=some o→OAt g w n o
 blk:∀ n o b,hp n=some o→g.φ n=some b→¬ C b∧(w0.heap.size≤b∨own b)∧b<w.heap.size
 inj:∀ n n' o o' b,hp n=some o→hp n'=some o'→g.φ n=some b→g.φ n'=some b→n=n'
structure St where
 tm:Nat→AV
 hp:Nm→Option AO
 n:Nat
 gl:Nat→Option (List AV)
def Exw (w:World) (i:Nat) (row:List AV):Prop:=∀ zs:List Int,zs≠[]→row=zs.map (fun z=>.sc (.int .u64 z))→∃ T b,w.heap[i]?=some (.cells (zs.map fun z=>Value.int .u64 z).toArray T b)
theorem Exw.same {g:Gh} {w w':World} {i:Nat} {row:List AV} (h:Exw w i row) (hv:RV g w (.pointer (some ⟨i,0,none⟩)) (.el row 0)) (hw:∀ b,g.C b→w'.heap[b]?=w.heap[b]?):Exw w' i row:=by
 intro zs h1 h2
 have hC:g.C i:=by
  generalize hp:Value.pointer (some ⟨i,0,none⟩)=p at hv
  cases hv with
  | el b o off row f hC hcell ho hr =>
   injection hp with hp
   injection hp with hp
   injection hp with h1 h2 _
   rw [h1]
   exact hC
 rw [hw i hC]
 exact h zs h1 h2
structure Rg (P:Program) (own:Nat→Prop) (C:Nat→Prop) (w0:World) (g:Gh) (st:St) (a:Act) (w:World):Prop where
 inv:Inv own C w0 g st.hp w
 defers:a.defers=[]
 size:a.tmps.size=st.n
 slots:∀ t,RV g w (a.tmps.getD t undef) (st.tm t)
 glob:∀ i row,st.gl i=some row→(RV g w (.pointer (some ⟨i,0,none⟩)) (.el row 0)∧Exw w i row)∧∀ f:Nm→Option Nm,row.map (AV.tr f)=row
def Ust (g g':Gh):Prop:=∀ k i j,g'.φ (.u k i j)=g.φ (.u k i j)∧g'.κ (.u k i j)=g.κ (.u k i j)
theorem Ust.refl (g:Gh):Ust g g:=fun _ _ _=>⟨rfl,rfl⟩
theorem Ust.trans {g g' g'':Gh} (h:Ust g g') (h':Ust g' g''):Ust g g'':=fun k i j=>⟨(h' k i j).1.trans (h k i j).1,(h' k i j).2.trans (h k i j).2⟩
def Nm.isU:Nm→Bool
 | .u _ _ _=>true
 | _=>false
theorem qEB {n:Nm} {k i j:Nat} (h:n.isU=false):Nm.under n (.u k i j)=false:=by
 cases n <;> simp [Nm.isU,Nm.under] at *
def Rel (P:Program) (own:Nat→Prop) (C:Nat→Prop) (w0:World) (g0:Gh) (st:St) (a:Act) (w:World):Prop:=∃ g,Ust g0 g∧Rg P own C w0 g st a w
def St.nm (f:Nm→Option Nm) (hp:Nm→Option AO) (st:St):St:={ tm:=fun t=>(st.tm t).tr f,hp:=hp,n:=st.n,gl:=st.gl }
def hkl (n:Nm) (hp:Nm→Option AO):Nm→Option AO:=fun m=>if Nm.under n m then none else (hp m).map (AO.tr (kl n))
def hmv (n0 n1:Nm) (hp:Nm→Option AO):Nm→Option AO:=fun m =>
 if Nm.under n1 m then (if mv n0 n1 (Nm.ren n1 n0 m)=some m then (hp (Nm.ren n1 n0 m)).map (AO.tr (mv n0 n1)) else none) else if Nm.under n0 m then none else (hp m).map (AO.tr (mv n0 n1))
def St.kill (n:Nm) (st:St):St:=st.nm (kl n) (hkl n st.hp)
def St.move (n0 n1:Nm) (st:St):St:=st.nm (mv n0 n1) (hmv n0 n1 st.hp)
def St.put (st:St) (d:Option Nat) (a:AV):St :=
 match d with
 | some d=>{ tm:=fun t=>if t=d then a else st.tm t,hp:=st.hp,n:=st.n,gl:=st.gl }
 | none=>st
def St.setO (st:St) (n:Nm) (o:AO):St:={ tm:=st.tm,hp:=fun m=>if m=n then some o else st.hp m,n:=st.n,gl:=st.gl }
section
variable {P:Program} {own:Nat→Prop} {C:Nat→Prop} {w0:World} {g:Gh} {st:St} {a:Act} {w:World}
theorem Rg.rv (h:Rg P own C w0 g st a w) {g':Gh} {w':World} {f:Nm→Option Nm} (gC:g'.C=g.C) (hw:∀ b,C b→w'.heap[b]?=w.heap[b]?)
  (gf:∀ n n',f n=some n'→g'.φ n'=g.φ n∧g'.κ n'=g.κ n) {v:Value} {x:AV} (hv:RV g w v x):RV g' w' v (x.tr f) :=
 hv.tr (fun b hb=>by rw [gC];exact hb) (fun b hb=>hw b (h.inv.hC ▸ hb)) gf
theorem Rg.step (h:Rg P own C w0 g st a w) {g':Gh} {w':World} {f:Nm→Option Nm} {hp':Nm→Option AO}
  (gC:g'.C=g.C) (gf:∀ n n',f n=some n'→g'.φ n'=g.φ n∧g'.κ n'=g.κ n)
  (h1:w'.os=w.os) (h2:w'.tape=w.tape) (h3:w'.output=w.output) (h4:w.heap.size≤w'.heap.size)
  (hw:∀ b,C b→w'.heap[b]?=w.heap[b]?) (hkeep:∀ b,b<w0.heap.size→¬ own b→w'.heap[b]?=w.heap[b]?)
  (hobj:∀ n' o',hp' n'=some o' →
    (∃ n o,f n=some n'∧st.hp n=some o∧o'=o.tr f∧∀ b,g.φ n=some b→w'.heap[b]?=w.heap[b]?) ∨
    (OAt g' w' n' o'∧∀ b,g'.φ n'=some b→(¬ C b∧(w0.heap.size≤b∨own b)∧b<w'.heap.size)∧∀ n'' o'',hp' n''=some o''→g'.φ n''=some b→n''=n')) :
  Rg P own C w0 g' (st.nm f hp') a w':=by
 obtain⟨i,hd,hs,hsl,hgl⟩:=h
 have h0:Rg P own C w0 g st a w:=⟨i,hd,hs,hsl,hgl⟩
 have hwg:∀ b,g.C b→w'.heap[b]?=w.heap[b]?:=fun b hb=>hw b (i.hC ▸ hb)
 have gCf:∀ b,g.C b→g'.C b:=fun b hb=>by rw [gC];exact hb
 have old:∀ n' o' b,hp' n'=some o'→g'.φ n'=some b →
   (∃ n o,f n=some n'∧st.hp n=some o∧g.φ n=some b)∨((¬ C b∧(w0.heap.size≤b∨own b)∧b<w'.heap.size)∧∀ n'' o'',hp' n''=some o''→g'.φ n''=some b→n''=n'):=by
  intro n' o' b hn' hb
  rcases hobj n' o' hn' with⟨n,o,e1,e2,_,_⟩|⟨_,e⟩
  ·exact .inl ⟨n,o,e1,e2,(gf n n' e1).1.symm.trans hb⟩
  ·exact .inr (e b hb)
 refine⟨⟨h1.trans i.os,h2.trans i.tape,h3.trans i.output,Nat.le_trans i.size h4,fun b hb ho=>(hkeep b hb ho).trans (i.keep b hb ho),gC.trans i.hC,fun b hb=>Nat.lt_of_lt_of_le (i.clt b hb) h4,?_,?_,?_⟩,
  hd,hs,fun t=>h0.rv gC hw gf (hsl t),fun j row e=>⟨?_,(hgl j row e).2⟩⟩
 ·intro n' o' hn'
  rcases hobj n' o' hn' with⟨n,o,e1,e2,rfl,e4⟩|⟨e,_⟩
  ·exact (i.obj n o e2).tr gCf hwg gf e1 e4
  ·exact e
 ·intro n' o' b hn' hb
  rcases old n' o' b hn' hb with⟨n,o,_,e2,e3⟩|⟨e,_⟩
  ·obtain⟨x1,x2,x3⟩:=i.blk n o b e2 e3
   exact⟨x1,x2,Nat.lt_of_lt_of_le x3 h4⟩
  ·exact e
 ·intro n1 n2 o1 o2 b hn1 hn2 hb1 hb2
  rcases old n1 o1 b hn1 hb1 with⟨m1,p1,e1,e2,e3⟩|⟨_,e⟩
  ·rcases old n2 o2 b hn2 hb2 with⟨m2,p2,f1,f2,f3⟩|⟨_,e'⟩
   ·have:=i.inj m1 m2 p1 p2 b e2 f2 e3 f3
    subst this
    exact sI (e1.symm.trans f1)
   ·exact e' n1 o1 hn1 hb1
  ·exact (e n2 o2 hn2 hb2).symm
 ·refine⟨?_,(hgl j row e).1.2.same (hgl j row e).1.1 hwg⟩
  have:=h0.rv gC hw gf (hgl j row e).1.1
  simpa only [AV.tr,wM,(hgl j row e).2 f] using this
noncomputable def Gh.tr (f:Nm→Option Nm) (g:Gh):Gh :=
 { C:=g.C,φ:=fun x=>open Classical in if h:∃ k,f k=some x then g.φ h.choose else none,κ:=fun x=>open Classical in if h:∃ k,f k=some x then g.κ h.choose else 0 }
theorem Gh.tr_spec {f:Nm→Option Nm} (hf:∀ k k' x,f k=some x→f k'=some x→k=k') {k k':Nm} (h:f k=some k'):(g.tr f).φ k'=g.φ k∧(g.tr f).κ k'=g.κ k:=by
 have he:∃ k,f k=some k':=⟨k,h⟩
 simp only [Gh.tr,dif_pos he]
 rw [hf _ _ _ he.choose_spec h]
 exact⟨rfl,rfl⟩
theorem Ust.kl {n:Nm} (h:n.isU=false):Ust g (g.tr (kl n)):=fun k i j=>by
 have e:Hm.kl n (.u k i j)=some (.u k i j):=by simp [Hm.kl,qEB h]
 exact Gh.tr_spec (fun _ _ _=>qGX) e
theorem Ust.mv {n0 n1:Nm} (h:n0.isU=false) (h':n1.isU=false):Ust g (g.tr (mv n0 n1)):=fun k i j=>by
 have e:Hm.mv n0 n1 (.u k i j)=some (.u k i j):=by simp [Hm.mv,qEB h,qEB h']
 exact Gh.tr_spec (fun _ _ _=>qI5) e
theorem Rg.rename (h:Rg P own C w0 g st a w) {f:Nm→Option Nm} {hp':Nm→Option AO} (hf:∀ k k' x,f k=some x→f k'=some x→k=k')
  (hobj:∀ n' o',hp' n'=some o'→∃ n o,f n=some n'∧st.hp n=some o∧o'=o.tr f):Rg P own C w0 (g.tr f) (st.nm f hp') a w :=
 h.step rfl (fun _ _ e=>Gh.tr_spec hf e) rfl rfl rfl (Nat.le_refl _) (fun _ _=>rfl) (fun _ _ _=>rfl) (fun n' o' e=>by
  obtain⟨n,o,e1,e2,e3⟩:=hobj n' o' e
  exact .inl ⟨n,o,e1,e2,e3,fun _ _=>rfl⟩)
theorem qEs {n:Nm} {hp:Nm→Option AO} {n':Nm} {o':AO} (e:hkl n hp n'=some o'):∃ o,kl n n'=some n'∧hp n'=some o∧o'=o.tr (kl n):=by
 unfold hkl at e
 split at e
 ·cases e
 ·rename_i hu
  obtain⟨o,e1,rfl⟩:=Option.map_eq_some_iff.1 e
  exact⟨o,by simp [kl,hu],e1,rfl⟩
theorem Rg.move (h:Rg P own C w0 g st a w) (n0 n1:Nm):Rg P own C w0 (g.tr (mv n0 n1)) (st.move n0 n1) a w :=
 h.rename (fun _ _ _=>qI5) (fun n' o' e=>by
  unfold hmv at e
  split at e
  ·split at e
   ·rename_i hm
    obtain⟨o,e1,rfl⟩:=Option.map_eq_some_iff.1 e
    exact⟨_,o,hm,e1,rfl⟩
   ·cases e
  ·split at e
   ·cases e
   ·rename_i h1 h0
    obtain⟨o,e1,rfl⟩:=Option.map_eq_some_iff.1 e
    exact⟨n',o,by simp [mv,h0,h1],e1,rfl⟩)
theorem y3 {n m:Nm} (h:Nm.under n m=true):(g.tr (kl n)).φ m=none:=by
 have:¬ ∃ k,kl n k=some m:=by
  rintro⟨k,e⟩
  rw [(qCi e).2] at h
  cases h
 simp only [Gh.tr,dif_neg this]
theorem Rg.put {d:Option Nat} {v:Value} {x:AV} (h:Rg P own C w0 g st a w) (hd:∀ t,d=some t→t<st.n) (hv:RV g w v x):Rg P own C w0 g (st.put d x) (a.put d v) w:=by
 cases d with
 | none=>exact h
 | some d =>
  obtain⟨i,hdf,hs,hsl,hgl⟩:=h
  refine⟨i,hdf,by simpa [Act.put,St.put] using hs,fun t=>?_,hgl⟩
  simp only [Act.put,St.put]
  have hdn:d<a.tmps.size:=by rw [hs];exact hd d rfl
  by_cases ht:t=d
  ·subst ht
   simp [hdn,hv]
  ·have:(a.tmps.setIfInBounds d v).getD t undef=a.tmps.getD t undef:=by
    simp [Array.getElem?_setIfInBounds_ne (Ne.symm ht)]
   rw [this,if_neg ht]
   exact hsl t
theorem Rg.weaken (h:Rg P own C w0 g st a w) (hp':Nm→Option AO) (sub:∀ m o,hp' m=some o→st.hp m=some o):Rg P own C w0 g { tm:=st.tm,hp:=hp',n:=st.n,gl:=st.gl } a w:=by
 obtain⟨i,hd,hs,hsl,hgl⟩:=h
 exact⟨⟨i.os,i.tape,i.output,i.size,i.keep,i.hC,i.clt,fun m o e=>i.obj m o (sub m o e),fun m o b e=>i.blk m o b (sub m o e),fun m m' o o' b e e'=>i.inj m m' o o' b (sub m o e) (sub m' o' e')⟩,hd,hs,hsl,hgl⟩
theorem Rg.nilO (h:Rg P own C w0 g st a w) (n:Nm) (z:Nat):∃ g',Rg P own C w0 g' ((st.kill n).setO n (.row z [])) a w∧RV g' w (.slice none 0 0) (.hs n z 0 0)∧(n.isU=false→Ust g g')∧∀ v x,RV g w v x→RV g' w v (x.tr (kl n)):=by
 have gf:∀ k k',kl n k=some k'→(g.tr (kl n)).φ k'=g.φ k∧(g.tr (kl n)).κ k'=g.κ k:=fun _ _ e=>Gh.tr_spec (fun _ _ _=>qGX) e
 have hs:=h.step (g':=g.tr (kl n)) (w':=w) (f:=kl n) (hp':=((st.kill n).setO n (.row z [])).hp) rfl gf rfl rfl rfl (Nat.le_refl _) (fun _ _=>rfl) (fun _ _ _=>rfl) (fun n' o' e=>by
  simp only [St.setO] at e
  split at e
  ·rename_i e'
   subst e'
   obtain rfl:=sI e
   refine .inr ⟨?_,fun b hb=>?_⟩
   ·simp only [OAt,y3 (Nm.under_self n')]
   ·rw [y3 (Nm.under_self n')] at hb;cases hb
  ·obtain⟨o,e1,e2,e3⟩:=qEs e
   exact .inl ⟨n',o,e1,e2,e3,fun _ _=>rfl⟩)
 exact⟨_,hs,.hsN n z (y3 (Nm.under_self n)),fun hu=>.kl hu,fun v x hx=>h.rv (g':=g.tr (kl n)) rfl (fun _ _=>rfl) gf hx⟩
end
end Go.Hm
end
section
namespace Go.Hm
open Go Go.RowKit
def uF (P:Program) (T:TypeId):Option Bool :=
 if (P.info? T).isSome then
  match P.underlying T with
  | some (.struct _)=>some true
  | some (.array _ _)=>some true
  | some _=>some false
  | none=>none
 else none
def tel (P:Program) (T:TypeId):Option TypeId :=
 match P.underlying T with
 | some (.slice e)=>if (P.info? e).isSome then some e else none
 | _=>none
def qKJ (P:Program) (T:TypeId):Option (Nat×TypeId) :=
 match P.underlying T with
 | some (.array n e)=>if (P.info? e).isSome then some (n,e) else none
 | _=>none
def tfo (P:Program) (T:TypeId) (f:Nat):Option (Nat×TypeId) :=
 match P.underlying T with
 | some (.struct fs)=>match fs[f]? with
  | some fd=>if tsz P fd.type=0 then none else some (fd.offset,fd.type)
  | none=>none
 | _=>none
def ji (P:Program) (T:TypeId):Option (List Value):=((P.info? T).bind (·.zero)).map (fun z=>z.cells.toList)
theorem qAO {P:Program} {w:World} {T:TypeId} (h:(P.info? T).isSome):(sizeOf T).run P w=.ok (tsz P T) w:=by
 obtain⟨i,hi⟩:=Option.isSome_iff_exists.1 h
 simp [sizeOf,typeInfo,hi,tsz]
theorem zR {P:Program} {w:World} {T:TypeId} {d:TypeDesc} (h:P.underlying T=some d):(underlying T).run P w=.ok d w:=by
 simp [underlying,h]
theorem qEq {P:Program} {T:TypeId} (h:tsz P T≠0):(P.info? T).isSome:=by
 unfold tsz at h
 cases hi:P.info? T with
 | none=>simp [hi] at h
 | some i=>rfl
theorem v7 {P:Program} {w:World} {T:TypeId} {t:Bool} (h:uF P T=some t):(isAgg T).run P w=.ok t w:=by
 unfold uF at h
 split at h
 ·cases hu:P.underlying T with
  | none=>simp [hu] at h
  | some d=>cases d <;> simp [hu] at h <;> simp [isAgg,underlying,hu,h]
 ·cases h
theorem qB1 {P:Program} {T:TypeId} {t:Bool} (h:uF P T=some t):(P.info? T).isSome:=by
 unfold uF at h
 split at h
 ·assumption
 ·cases h
def AV.one:AV→Bool
 | .sc v=>v.oneCell'
 | .agg _=>false
 | .tup _=>false
 | .bot=>false
 | _=>true
def AV.cells:AV→Option (List AV)
 | .agg cs=>if cs.all AV.one then some cs else none
 | a=>if a.one then some [a] else none
def qIj (P:Program) (T:TypeId) (cs:List AV) (off:Nat):Option AV :=
 match uF P T with
 | some true=>if off+tsz P T≤cs.length then some (.agg ((cs.drop off).take (tsz P T))) else none
 | some false=>cs[off]?
 | none=>none
theorem qGf {v:Value} (h:v.oneCell'=true):v.cells=#[v]:=by
 cases v <;> first|rfl|simp [Value.oneCell'] at h
section
variable {P:Program} {own:Nat→Prop} {C:Nat→Prop} {w0:World} {g:Gh} {st:St} {a:Act} {w:World}
theorem RV.sc_eq {v u:Value} (h:RV g w v (.sc u)):v=u:=by
 cases h;rfl
theorem ua {v:Value} {cs:List AV} (h:RV g w v (.agg cs)):∃ vs:List Value,v=.agg vs.toArray∧vs.length=cs.length∧∀ (j:Nat) y,cs[j]?=some y→∃ u,vs[j]?=some u∧RV g w u y:=by
 cases h with
 | agg vs cs hl hr =>
  refine⟨vs,rfl,hl,fun j y hy=>?_⟩
  have hlt:j<vs.length:=by rw [hl];exact (gS hy).1
  exact⟨_,gE hlt,hr j _ y (gE hlt) hy⟩
theorem qKV {v:Value} {cs:List AV} (h:RV g w v (.tup cs)):∃ vs:List Value,v=.tuple vs.toArray∧vs.length=cs.length∧∀ (j:Nat) y,cs[j]?=some y→∃ u,vs[j]?=some u∧RV g w u y:=by
 cases h with
 | tup vs cs hl hr =>
  refine⟨vs,rfl,hl,fun j y hy=>?_⟩
  have hlt:j<vs.length:=by rw [hl];exact (gS hy).1
  exact⟨_,gE hlt,hr j _ y (gE hlt) hy⟩
theorem RV.oneCell {v:Value} {x:AV} (h:RV g w v x) (ho:x.one=true):v.oneCell'=true:=by
 cases h <;> first|rfl|exact ho|(simp [AV.one] at ho;done)
theorem RV.cells {v:Value} {x:AV} {cs:List AV} (h:RV g w v x) (hc:x.cells=some cs) :
  v.cells.toList.length=cs.length∧(∀ u∈v.cells.toList,u.oneCell'=true)∧∀ (j:Nat) u y,v.cells.toList[j]?=some u→cs[j]?=some y→RV g w u y:=by
 by_cases hx:∃ ds,x=.agg ds
 ·obtain⟨ds,rfl⟩:=hx
  simp only [AV.cells] at hc
  split at hc
  ·rename_i hall
   obtain rfl:=sI hc
   have hone:∀ y∈ds,y.one=true:=fun y hy=>List.all_eq_true.1 hall y hy
   cases h with
   | agg vs cs hl hr =>
    refine⟨by simpa [Value.cells] using hl,?_,fun j u y hu hy=>hr j u y (by simpa [Value.cells] using hu) hy⟩
    intro u hu
    simp only [Value.cells] at hu
    obtain⟨j,hj⟩:=List.getElem?_of_mem hu
    have hlt:j<ds.length:=by rw [← hl];exact (gS hj).1
    exact (hr j u _ hj (gE hlt)).oneCell (hone _ (List.getElem_mem hlt))
  ·cases hc
 ·have hc':(if x.one then some [x] else none)=some cs:=by
   cases x <;> first|exact hc|exact absurd ⟨_,rfl⟩ hx
  split at hc'
  ·rename_i ho
   obtain rfl:=sI hc'
   have h1:=h.oneCell ho
   rw [qGf h1]
   refine⟨rfl,?_,?_⟩
   ·intro u hu
    simp at hu
    subst hu
    exact h1
   ·intro j u y hu hy
    match j,hu,hy with
    | 0,hu,hy =>
     simp at hu hy
     subst hu
     subst hy
     exact h
  ·cases hc'
theorem qIJ {T:TypeId} {cs:List AV} {off:Nat} {x:AV} {b o:Nat} {f:Nat→Value} (hq:qIj P T cs off=some x)
  (hcell:∀ j,j<cs.length→w.cell? ⟨b,o+j,none⟩=some (f j)) (hr:∀ (j:Nat) y,cs[j]?=some y→RV g w (f j) y) :
  ∃ v,(loadVar T ⟨b,o+off,none⟩).run P w=.ok v w∧RV g w v x:=by
 unfold qIj at hq
 split at hq
 ·rename_i hagg
  split at hq
  ·rename_i hle
   obtain rfl:=sI hq
   have hl:=run_loadCells (P:=P) (w:=w) ⟨b,o+off,none⟩ (tsz P T) (fun j=>f (off+j)) (fun j hj=>by rw [Addr.add_lit,Nat.add_assoc];exact hcell (off+j) (by omega))
   refine⟨.agg ((List.range (tsz P T)).map (fun j=>f (off+j))).toArray,?_,?_⟩
   ·simp only [loadVar,Sem.run_bind,v7 hagg,Result.andThen_ok,if_true,qAO (qB1 hagg),hl,Sem.run_pure]
   ·refine .agg _ _ (by simp;omega) fun j v y hv hy=>?_
    rw [List.getElem?_map] at hv
    obtain⟨j',hj',rfl⟩:=Option.map_eq_some_iff.1 hv
    obtain⟨hj1,hj2⟩:=gS hj'
    simp at hj2 hj1
    subst hj2
    rw [List.getElem?_take,if_pos hj1,List.getElem?_drop] at hy
    exact hr (off+j) y hy
  ·cases hq
 ·rename_i hagg
  have hlt:off<cs.length:=(gS hq).1
  refine⟨f off,?_,hr off x hq⟩
  simp only [loadVar,Sem.run_bind,v7 hagg,Result.andThen_ok,Bool.false_eq_true,if_false,run_load,hcell off hlt]
 ·cases hq
def ev (st:St):Operand→AV
 | .tmp t=>st.tm t
 | .const v=>.sc v
 | .global i=>match st.gl i with|some row=>.el row 0|none=>.bot
 | .func f=>.sc (.func (.func f) #[] #[])
theorem Rg.ev (h:Rg P own C w0 g st a w) (x:Operand):RV g w (a.eval x) (ev st x):=by
 cases x with
 | tmp t=>exact h.slots t
 | const v=>exact .sc v
 | global i =>
  simp only [Hm.ev,Act.eval]
  split
  ·rename_i row hrow
   exact (h.glob i row hrow).1.1
  ·exact .bot _
 | func f=>exact .sc _
def cellsAt (st:St):AV→Option (List AV×Nat)
 | .pt n off=>match st.hp n with
  | some (.row _ (r::_))=>some (r,off)
  | _=>none
 | .el row off=>some (row,off)
 | .ep n z i off=>match st.hp n with
  | some (.row z' rows)=>if z'=z then (rows[i]?).map (fun r=>(r,off)) else none
  | _=>none
 | _=>none
theorem Inv.rowAt {own:Nat→Prop} {C:Nat→Prop} {w0:World} {g:Gh} {hp:Nm→Option AO} {w:World} (h:Inv own C w0 g hp w) {n:Nm} {b z i:Nat} {rows:List (List AV)} {row:List AV} (hn:hp n=some (.row z rows)) (hk:g.φ n=some b) (hi:rows[i]?=some row) :
  ∃ f:Nat→Value,(∀ j,j<row.length→w.cell? ⟨b,i * z+j,none⟩=some (f j))∧(∀ j,j<row.length→(f j).oneCell'=true)∧∀ (j:Nat) y,row[j]?=some y→RV g w (f j) y:=by
 have ho:=h.obj n _ hn
 simp only [OAt,hk] at ho
 obtain⟨cur,T,h1,h2,h3,h4,h5,h6,h7⟩:=ho
 have hlen:row.length=z:=h5 row (gM hi)
 have hlt:i<rows.length:=(gS hi).1
 have hin:∀ j,j<row.length→i * z+j<rows.length * z:=by
  intro j hj
  have:(i+1) * z≤rows.length * z:=Nat.mul_le_mul_right _ hlt
  rw [Nat.add_mul] at this
  omega
 have hcur:∀ j,j<row.length→i * z+j<cur.size:=by
  intro j hj
  have h8:=hin j hj
  have:rows.length * z≤g.κ n * z:=Nat.mul_le_mul_right _ h4
  rw [h2]
  omega
 refine⟨fun j=>cur.getD (i * z+j) undef,?_,fun j hj=>h6 _ (hin j hj),fun j y hy=>h7 i row hi j y hy⟩
 intro j hj
 rw [cell_of_row w _ _ _ T _ h1]
 simp [hcur j hj]
theorem Rg.cellsAt (h:Rg P own C w0 g st a w) {v:Value} {x:AV} {cs:List AV} {off:Nat} (hv:RV g w v x) (hq:cellsAt st x=some (cs,off)) :
  ∃ (b o:Nat) (f:Nat→Value),v=.pointer (some ⟨b,o+off,none⟩)∧(∀ j,j<cs.length→w.cell? ⟨b,o+j,none⟩=some (f j))∧(∀ j,j<cs.length→(f j).oneCell'=true)∧∀ (j:Nat) y,cs[j]?=some y→RV g w (f j) y:=by
 cases x with
 | pt n o =>
  simp only [Hm.cellsAt] at hq
  split at hq
  ·rename_i z r rest hn
   obtain⟨rfl,rfl⟩:=Prod.mk.inj (sI hq)
   cases hv with
   | pt _ _ b hk =>
    obtain⟨f,f1,f2,f3⟩:=h.inv.rowAt hn hk (i:=0) rfl
    exact⟨b,0,f,by rw [Nat.zero_add],fun j hj=>by simpa using f1 j hj,f2,f3⟩
  ·cases hq
 | el row o =>
  simp only [Hm.cellsAt] at hq
  obtain⟨rfl,rfl⟩:=Prod.mk.inj (sI hq)
  cases hv with
  | el b o' off row f hC hcell ho hr=>exact⟨b,o',f,rfl,hcell,ho,fun j y hy=>hr j y hy⟩
 | ep n z i o =>
  simp only [Hm.cellsAt] at hq
  split at hq
  ·rename_i z' rows hn
   split at hq
   ·rename_i hz
    subst hz
    obtain⟨r,hr0,e⟩:=Option.map_eq_some_iff.1 hq
    obtain⟨rfl,rfl⟩:=Prod.mk.inj e
    cases hv with
    | ep _ _ _ _ b hk =>
     obtain⟨f,f1,f2,f3⟩:=h.inv.rowAt hn hk hr0
     exact⟨b,i * z' ,f,rfl,f1,f2,f3⟩
   ·cases hq
  ·cases hq
 | _=>simp [Hm.cellsAt] at hq
theorem qHQ {T:TypeId} {x:Operand} {y z:AV} {cs:List AV} {off:Nat} (h:Rg P own C w0 g st a w) (hy:ev st x=y) (h1:cellsAt st y=some (cs,off)) (h2:qIj P T cs off=some z) :
  ∃ v,(Instr.loadAt T (a.eval x)).run P w=.ok v w∧RV g w v z:=by
 have hv:=h.ev x
 rw [hy] at hv
 obtain⟨b,o,f,e,hcell,_,hr⟩:=h.cellsAt hv h1
 obtain⟨v,hrun,hrv⟩:=qIJ h2 hcell hr
 refine⟨v,?_,hrv⟩
 rw [e]
 simp only [Instr.loadAt,Instr.sureAddr,Sem.run_bind,Sem.run_pure,Result.andThen_ok,hrun]
def wn (P:Program) (T:TypeId) (f:Nat):AV→Option AV
 | .pt n off=>(tfo P T f).map (fun p=>.pt n (off+p.1))
 | .el row off=>(tfo P T f).map (fun p=>.el row (off+p.1))
 | .ep n z i off=>(tfo P T f).map (fun p=>.ep n z i (off+p.1))
 | _=>none
theorem vL {T:TypeId} {f:Nat} {o:Nat} {e:TypeId} {b p:Nat} (ht:tfo P T f=some (o,e)):(Instr.fieldAt T (.pointer (some ⟨b,p,none⟩)) f).run P w=.ok (.pointer (some ⟨b,p+o,none⟩)) w:=by
 unfold tfo at ht
 split at ht
 ·rename_i fs hu
  split at ht
  ·rename_i fd hfd
   split at ht
   ·cases ht
   ·rename_i hz
    obtain⟨rfl,rfl⟩:=Prod.mk.inj (sI ht)
    simp only [Instr.fieldAt,Sem.run_bind,zR hu,Result.andThen_ok,hfd,Instr.sureAddr,Sem.run_pure,fieldPlace,qAO (qEq hz),hz,if_false,Addr.add_lit]
  ·cases ht
 ·cases ht
theorem qFm {T:TypeId} {f:Nat} {v:Value} {y z:AV} (hv:RV g w v y) (h1:wn P T f y=some z):∃ v',(Instr.fieldAt T v f).run P w=.ok v' w∧RV g w v' z:=by
 cases y with
 | pt n off =>
  obtain⟨⟨o,e⟩,ht,rfl⟩:=Option.map_eq_some_iff.1 h1
  cases hv with
  | pt _ _ b hk=>exact⟨_,vL ht,.pt n (off+o) b hk⟩
 | el row off =>
  obtain⟨⟨o,e⟩,ht,rfl⟩:=Option.map_eq_some_iff.1 h1
  cases hv with
  | el b o' off row f hC hcell ho hr=>exact⟨_,vL ht,by rw [Nat.add_assoc];exact .el b o' (off+o) row f hC hcell ho hr⟩
 | ep n z i off =>
  obtain⟨⟨o,e⟩,ht,rfl⟩:=Option.map_eq_some_iff.1 h1
  cases hv with
  | ep _ _ _ _ b hk=>exact⟨_,vL ht,by rw [Nat.add_assoc];exact .ep n z i (off+o) b hk⟩
 | _=>simp [wn] at h1
def qCk (P:Program) (T:TypeId) (x:AV) (n:Int):Option AV :=
 match tel P T with
 | some e=>match x with
  | .sl z rows=>if z=tsz P e∧0≤n then (rows[n.toNat]?).map (fun r=>.el r 0) else none
  | .hs m z lo len=>if z=tsz P e∧0≤n∧n<len then some (.ep m z (lo+n.toNat) 0) else none
  | _=>none
 | none=>match qKJ P T with
  | some (len,e)=>if 0≤n∧n<len then (match x with
   | .pt m off=>some (.pt m (off+n.toNat * tsz P e))
   | .el row off=>some (.el row (off+n.toNat * tsz P e))
   | .ep m z i off=>some (.ep m z i (off+n.toNat * tsz P e))
   | _=>none) else none
  | none=>none
theorem qID {T e:TypeId} (h:tel P T=some e):P.underlying T=some (.slice e)∧(P.info? e).isSome:=by
 unfold tel at h
 split at h
 ·rename_i e' hu
  split at h
  ·rename_i hi
   obtain rfl:=sI h
   exact⟨hu,hi⟩
  ·cases h
 ·cases h
theorem qF8 {T e:TypeId} {n:Nat} (h:qKJ P T=some (n,e)):P.underlying T=some (.array n e)∧(P.info? e).isSome:=by
 unfold qKJ at h
 split at h
 ·rename_i n' e' hu
  split at h
  ·rename_i hi
   obtain⟨rfl,rfl⟩:=Prod.mk.inj (sI h)
   exact⟨hu,hi⟩
  ·cases h
 ·cases h
theorem kM {T e:TypeId} {b p len cap:Nat} {k:IntKind} {n:Int} (ht:tel P T=some e) (h0:0≤n) (h1:n<len) :
  (Instr.indexAt T (.slice (some ⟨b,p,none⟩) len cap) (.int k n)).run P w=.ok (.pointer (some ⟨b,p+n.toNat * tsz P e,none⟩)) w:=by
 obtain⟨hu,hi⟩:=qID ht
 simp only [Instr.indexAt,asIntOf,Sem.run_bind,Sem.run_pure,Result.andThen_ok,zR hu,h0,h1,and_self,if_true,qAO hi,Addr.add_lit]
theorem ug {T e:TypeId} {b p len:Nat} {k:IntKind} {n:Int} (ht:qKJ P T=some (len,e)) (h0:0≤n) (h1:n<len) :
  (Instr.indexAt T (.pointer (some ⟨b,p,none⟩)) (.int k n)).run P w=.ok (.pointer (some ⟨b,p+n.toNat * tsz P e,none⟩)) w:=by
 obtain⟨hu,hi⟩:=qF8 ht
 simp only [Instr.indexAt,asIntOf,Sem.run_bind,Sem.run_pure,Result.andThen_ok,zR hu,Instr.sureAddr,h0,h1,and_self,if_true,qAO hi,Addr.add_lit]
theorem qFl {T:TypeId} {v:Value} {y z:AV} {k:IntKind} {n:Int} (hv:RV g w v y) (h1:qCk P T y n=some z):∃ v',(Instr.indexAt T v (.int k n)).run P w=.ok v' w∧RV g w v' z:=by
 unfold qCk at h1
 split at h1
 ·rename_i e ht
  cases y with
  | sl E rows =>
   simp only at h1
   split at h1
   ·rename_i hc
    obtain⟨rfl,h0⟩:=hc
    obtain⟨r,hr0,rfl⟩:=Option.map_eq_some_iff.1 h1
    cases hv with
    | slN=>simp at hr0
    | slC b off cap len E rows f hC hn hcap hu hcell ho hr =>
     have hlt:n.toNat<len:=by rw [← hn];exact (gS hr0).1
     have hlen:r.length=tsz P e:=hu r (gM hr0)
     refine⟨_,kM ht h0 (by omega),?_⟩
     exact .el b (off+n.toNat * tsz P e) 0 r (f n.toNat) hC (fun j hj=>hcell n.toNat j hlt (by rw [← hlen];exact hj)) (fun j hj=>ho n.toNat j hlt (by rw [← hlen];exact hj)) (fun j y hy=>hr n.toNat r hr0 j y hy)
   ·cases h1
  | hs m z' lo len =>
   simp only at h1
   split at h1
   ·rename_i hc
    obtain⟨rfl,h0,hlt⟩:=hc
    obtain rfl:=sI h1
    cases hv with
    | hsN=>simp at hlt;omega
    | hsB _ _ _ _ b cap ad hk g1 g2 g3 =>
     rw [g3 (by omega)]
     refine⟨_,kM ht h0 (by omega),?_⟩
     have:=RV.ep (g:=g) (w:=w) m (tsz P e) (lo+n.toNat) 0 b hk
     rw [Nat.add_mul,Nat.add_zero] at this
     exact this
   ·cases h1
  | _=>simp at h1
 ·split at h1
  ·rename_i len e ht
   split at h1
   ·rename_i hc
    obtain⟨h0,hlt⟩:=hc
    cases y with
    | pt m off =>
     obtain rfl:=sI h1
     cases hv with
     | pt _ _ b hk=>exact⟨_,ug ht h0 hlt,.pt m _ b hk⟩
    | el row off =>
     obtain rfl:=sI h1
     cases hv with
     | el b o' off row f hC hcell ho hr=>exact⟨_,ug ht h0 hlt,by rw [Nat.add_assoc];exact .el b o' _ row f hC hcell ho hr⟩
    | ep m z' i off =>
     obtain rfl:=sI h1
     cases hv with
     | ep _ _ _ _ b hk=>exact⟨_,ug ht h0 hlt,by rw [Nat.add_assoc];exact .ep m z' i _ b hk⟩
    | _=>simp at h1
   ·cases h1
  ·cases h1
end
end Go.Hm
end
