/-
  Own texts, joined by mkclaim.py: Hm9, Hm10, Hm11.
-/
import Derived.Test.YtbgmnmnoaamgkaaGreatDoorD03
import Derived.Maps.AppendAt
import Derived.ArgAppend
set_option linter.unusedSimpArgs false
set_option linter.unusedVariables false
set_option maxRecDepth 100000
set_option maxHeartbeats 4000000

section
namespace Go.Hm
open Go Go.RowKit
def uw (P:Program) (T:TypeId):Option TypeId :=
 match P.underlying T with
 | some (.slice e)=>match P.info? e with
  | some i=>match i.zero with
   | some z=>if z.cells.size=i.size∧0<i.size∧i.bytes≤32768 then some e else none
   | none=>none
  | none=>none
 | _=>none
theorem qAH {P:Program} {T e:TypeId} (h:uw P T=some e):∃ i z,P.underlying T=some (.slice e)∧P.info? e=some i∧i.zero=some z∧z.cells.size=i.size∧0<i.size∧i.bytes≤32768∧tsz P e=i.size:=by
 unfold uw at h
 split at h
 ·rename_i e' hu
  split at h
  ·rename_i i hi
   split at h
   ·rename_i z hz
    split at h
    ·rename_i hc
     obtain rfl:=sI h
     exact⟨i,z,hu,hi,hz,hc.1,hc.2.1,hc.2.2,by simp [tsz,hi]⟩
    ·cases h
   ·cases h
  ·cases h
 ·cases h
def yD (st:St) (z:Nat):AV→Option (List (List AV))
 | .sl z' rows=>if z'=z then some rows else none
 | .hs n z' lo len=>match st.hp n with
  | some (.row z'' rows)=>if z'=z∧z''=z∧lo+len≤rows.length then some ((rows.drop lo).take len) else none
  | _=>none
 | .sc (.slice none 0 0)=>some []
 | _=>none
def qDb (f:Nat→Nat→Value) (m sz:Nat):List Value:=(List.range (m * sz)).map (fun t=>f (t / sz) (t % sz))
theorem uj (f:Nat→Nat→Value) (m sz:Nat):(qDb f m sz).length=m * sz:=by simp [qDb]
theorem qAy (f:Nat→Nat→Value) {m sz t:Nat} (h:t<m * sz):(qDb f m sz)[t]?=some (f (t / sz) (t % sz)):=by
 simp [qDb,h]
theorem qLQ (f:Nat→Nat→Value) {m sz i j:Nat} (hi:i<m) (hj:j<sz):(qDb f m sz)[i * sz+j]?=some (f i j):=by
 have h:i * sz+j<m * sz:=by
  have:(i+1) * sz≤m * sz:=Nat.mul_le_mul_right _ hi
  rw [Nat.add_mul,Nat.one_mul] at this
  omega
 rw [qAy f h]
 have h1:(i * sz+j) / sz=i:=by
  rw [Nat.add_comm,Nat.add_mul_div_right _ _ (by omega),Nat.div_eq_of_lt hj,Nat.zero_add]
 have h2:(i * sz+j) % sz=j:=by
  rw [Nat.add_comm,Nat.add_mul_mod_self_right,Nat.mod_eq_of_lt hj]
 rw [h1,h2]
def Src (g:Gh) (w:World) (v:Value) (z:Nat) (rows:List (List AV)):Prop :=
 (∃ ad c,v=.slice ad 0 c∧rows=[])∨∃ (ad:Addr) (c:Nat) (news:List Value),v=.slice (some ad) rows.length c∧news.length=rows.length * z∧(∀ j u,news[j]?=some u→w.cell? (ad.add j)=some u)∧(∀ u∈news,u.oneCell'=true) ∧
   (∀ r∈rows,r.length=z)∧∀ (i:Nat) row,rows[i]?=some row→∀ (j:Nat) x,row[j]?=some x→RV g w (news.getD (i * z+j) undef) x
section
variable {P:Program} {own:Nat→Prop} {C:Nat→Prop} {w0:World} {g:Gh} {st:St} {a:Act} {w:World}
theorem Src.make {z:Nat} {rows:List (List AV)} {b o c n:Nat} (f:Nat→Nat→Value) (hn:rows.length=n) (hu:∀ r∈rows,r.length=z)
  (hcell:∀ i j,i<n→j<z→w.cell? ⟨b,o+i * z+j,none⟩=some (f i j)) (ho:∀ i j,i<n→j<z→(f i j).oneCell'=true)
  (hr:∀ (i:Nat) row,rows[i]?=some row→∀ (j:Nat) x,row[j]?=some x→RV g w (f i j) x):Src g w (.slice (some ⟨b,o,none⟩) n c) z rows:=by
 subst hn
 have dm:∀ t,t<rows.length * z→t / z<rows.length∧t % z<z∧t / z * z+t % z=t:=by
  intro t ht
  have hpos:0<z:=Nat.pos_of_ne_zero (by rintro rfl;simp at ht)
  refine⟨(Nat.div_lt_iff_lt_mul hpos).2 ht,Nat.mod_lt _ hpos,?_⟩
  rw [Nat.mul_comm]
  exact Nat.div_add_mod t _
 refine .inr ⟨⟨b,o,none⟩,c,qDb f rows.length z,rfl,uj _ _ _,?_,?_,hu,?_⟩
 ·intro j u hj
  have hlt:j<rows.length * z:=by have:=(gS hj).1;rwa [uj] at this
  rw [qAy f hlt] at hj
  obtain rfl:=sI hj
  obtain⟨d1,d2,d3⟩:=dm j hlt
  have:=hcell _ _ d1 d2
  rw [Nat.add_assoc,d3] at this
  rw [Addr.add_lit]
  exact this
 ·intro u hu'
  obtain⟨j,hj⟩:=List.getElem?_of_mem hu'
  have hlt:j<rows.length * z:=by have:=(gS hj).1;rwa [uj] at this
  rw [qAy f hlt] at hj
  obtain rfl:=sI hj
  obtain⟨d1,d2,_⟩:=dm j hlt
  exact ho _ _ d1 d2
 ·intro i row hrow j x hx
  have hi:=(gS hrow).1
  have hj:j<z:=by rw [← hu row (gM hrow)];exact (gS hx).1
  rw [List.getD_eq_getElem?_getD,qLQ f hi hj]
  exact hr i row hrow j x hx
theorem Inv.partAt {hp:Nm→Option AO} (h:Inv own C w0 g hp w) {n:Nm} {b z lo len c:Nat} {rows:List (List AV)} (hn:hp n=some (.row z rows)) (hk:g.φ n=some b) (hle:lo+len≤rows.length) :
  Src g w (.slice (some ⟨b,lo * z,none⟩) len c) z ((rows.drop lo).take len):=by
 have ho:=h.obj n _ hn
 simp only [OAt,hk] at ho
 obtain⟨cur,T,h1,h2,h3,h4,h5,h6,h7⟩:=ho
 have bnd:∀ i j,i<len→j<z→(lo+i) * z+j<rows.length * z:=by
  intro i j hi hj
  have:(lo+i+1) * z≤rows.length * z:=Nat.mul_le_mul_right _ (by omega)
  rw [Nat.add_mul (lo+i),Nat.one_mul] at this
  omega
 have hcs:rows.length * z≤cur.size:=by rw [h2];exact Nat.mul_le_mul_right _ h4
 refine Src.make (fun i j=>cur.getD ((lo+i) * z+j) undef) (by rw [List.length_take,List.length_drop];omega) (fun r hr=>h5 r (List.mem_of_mem_drop (List.mem_of_mem_take hr))) ?_ ?_ ?_
 ·intro i j hi hj
  have hb:=bnd i j hi hj
  rw [show lo * z+i * z+j=(lo+i) * z+j from by rw [Nat.add_mul],cell_of_row w _ _ _ T _ h1]
  have:(lo+i) * z+j<cur.size:=by omega
  simp [this]
 ·intro i j hi hj
  exact h6 _ (bnd i j hi hj)
 ·intro i row hrow j x hx
  rw [List.getElem?_take] at hrow
  split at hrow
  ·rw [List.getElem?_drop] at hrow
   exact h7 (lo+i) row hrow j x hx
  ·cases hrow
theorem Rg.src (h:Rg P own C w0 g st a w) {v:Value} {x:AV} {z:Nat} {rows:List (List AV)} (hv:RV g w v x) (hs:yD st z x=some rows):Src g w v z rows:=by
 unfold yD at hs
 split at hs
 ·split at hs
  ·rename_i hz
   subst hz
   obtain rfl:=sI hs
   cases hv with
   | slN ad cap=>exact .inl ⟨ad,cap,rfl,rfl⟩
   | slC b off cap n _ rows f hC hn hcap hu hcell ho hr=>exact Src.make f hn hu hcell ho hr
  ·cases hs
 ·split at hs
  ·rename_i z'' rows' hn
   split at hs
   ·rename_i hc
    obtain⟨hz1,hz2,hle⟩:=hc
    subst hz1
    obtain rfl:=sI hs
    rw [hz2] at hn
    cases hv with
    | hsN=>exact .inl ⟨none,0,rfl,by simp⟩
    | hsB _ _ _ _ b cap ad hk h1 h2 h3 =>
     by_cases h0:0<cap
     ·rw [h3 h0]
      exact h.inv.partAt hn hk hle
     ·have h9:=h1
      rw [Nat.eq_zero_of_not_pos h0,Nat.le_zero] at h9
      subst h9
      exact .inl ⟨ad,cap,rfl,by simp⟩
   ·cases hs
  ·cases hs
 ·obtain rfl:=sI hs
  rw [hv.sc_eq]
  exact .inl ⟨none,0,rfl,rfl⟩
 ·cases hs
theorem qCP {t ty e:TypeId} {i:TypeInfo} (ht:P.underlying t=some (.slice e)) (hi:P.info? e=some i) (b off sLen sCap:Nat) (cur:Array Value) (T:TypeId) (hg:w.heap[b]?=some (.cells cur T (0,0)))
  (ad:Addr) (m c:Nat) (news:List Value) (hl:news.length=m * i.size) (hnews:∀ j u,news[j]?=some u→w.cell? (ad.add j)=some u) (h1:∀ u∈news,u.oneCell'=true)
  (hroom:sLen+m≤sCap) (hfit:off+sLen * i.size+news.length≤cur.size) :
  (Builtin.append_ #[t,t] ty #[.slice (some ⟨b,off,none⟩) sLen sCap,.slice (some ad) m c]).run P w =
    .ok (.slice (some ⟨b,off,none⟩) (sLen+m) sCap) (w.setRow b (cur.toList.take (off+sLen * i.size)++news++cur.toList.drop (off+sLen * i.size+news.length)).toArray):=by
 have hf:=run_firstCells_some (P:=P) w i.size m ad m c news hl hnews
 have hst:=run_storeCells_at P b (off+sLen * i.size) T news 0 cur w hg (by simpa using hfit) h1
 simp only [Nat.add_zero] at hst
 simp [Builtin.append_,run_underlying ht,sizeOf,typeInfo,hi,Builtin.lenOf,hroom,hf,Addr.add_lit,hst]
theorem j3 {t ty e:TypeId} {i:TypeInfo} (ht:P.underlying t=some (.slice e)) (hi:P.info? e=some i) (base ad:Option Addr) (n cap c:Nat) (hle:n≤cap) :
  (Builtin.append_ #[t,t] ty #[.slice base n cap,.slice ad 0 c]).run P w=.ok (.slice base n cap) w:=by
 cases ad with
 | none=>cases base <;> simp [Builtin.append_,run_underlying ht,sizeOf,typeInfo,hi,Builtin.lenOf,Builtin.firstCells,hle,storeCells]
 | some ad=>cases base <;> simp [Builtin.append_,run_underlying ht,sizeOf,typeInfo,hi,Builtin.lenOf,Builtin.firstCells,hle,storeCells,loadCells,loadCellsFrom]
def St.apd (st:St) (d:Nat) (n:Option Nm):St:=st.nm (kl (.s d)) (fun m=>if n=some m then none else hkl (.s d) st.hp m)
def qDQ (d z len:Nat) (n:Option Nm) (rows:List (List AV)) (st:St):St :=
 ((st.apd d n).setO (.s d) (.row z (rows.map (fun r=>r.map (AV.tr (kl (.s d))))))).put (some d) (.hs (.s d) z 0 len)
theorem qVD {d:Nat} {n:Option Nm}:st.nm (kl (.s d)) (fun m=>if (decide (n=some m)) then none else hkl (.s d) st.hp m)=st.apd d n:=by
 simp [St.apd]
theorem Rg.apDone (h:Rg P own C w0 g st a w) {d z len b cap:Nat} {n:Option Nm} {rows:List (List AV)} {w':World} {ad:Option Addr} (hn:d<st.n)
  (h1:w'.os=w.os) (h2:w'.tape=w.tape) (h3:w'.output=w.output) (h4:w.heap.size≤w'.heap.size) (hw:∀ b',b'≠b→b'<w.heap.size→w'.heap[b']?=w.heap[b']?)
  (hb:w.heap.size≤b∨∃ m o,n=some m∧st.hp m=some o∧g.φ m=some b) (hlt:b<w'.heap.size) (hcap:len≤cap) (had:0<cap→ad=some ⟨b,0,none⟩)
  (ho:qMZ (g.fresh (.s d) (some b) cap) w' b cap z (rows.map (fun r=>r.map (AV.tr (kl (.s d)))))) :
  Rel P own C w0 g (qDQ d z len n rows st) (a.put (some d) (.slice ad len cap)) w':=by
 have hm:=h.made (.s d) (.row z (rows.map (fun r=>r.map (AV.tr (kl (.s d)))))) b cap w' [] (by simp) (fun m=>decide (n=some m)) h1 h2 h3 h4 (by
  rcases hb with hb|⟨m,o,e1,e2,e3⟩
  ·exact .inl hb
  ·exact .inr ⟨m,o,by simp [e1],e2,e3⟩) hlt hw (by simp only [OAt,(zC (g:=g) (.s d) (some b) cap).1,(zC (g:=g) (.s d) (some b) cap).2];exact ho)
 simp only [St.setNils,qVD] at hm
 exact⟨_,.fresh rfl,hm.put (d:=some d) (fun t e=>by obtain rfl:=sI e;exact hn) (.hsB (.s d) z 0 len b cap ad (zC _ _ _).1 hcap (by simp [(zC (g:=g) (.s d) (some b) cap).2]) (fun h0=>by rw [had h0];simp))⟩
theorem Rg.apNil (h:Rg P own C w0 g st a w) {d z:Nat} {n:Option Nm} (hn:d<st.n):Rel P own C w0 g (qDQ d z 0 n [] st) (a.put (some d) (.slice none 0 0)) w:=by
 obtain⟨g',h1,h2,hu,_⟩:=h.nilO (.s d) z
 have h3:=h1.weaken (qDQ d z 0 n [] st).hp (fun m o e=>by
  simp only [qDQ,St.put,St.setO,St.apd,St.nm] at e
  simp only [St.setO,St.kill,St.nm]
  split at e
  ·rename_i e';rw [if_pos e'];exact e
  ·rename_i e'
   rw [if_neg e']
   split at e
   ·cases e
   ·exact e)
 exact⟨g',hu rfl,h3.put (d:=some d) (fun t e=>by obtain rfl:=sI e;exact hn) h2⟩
theorem qCT (h:Rg P own C w0 g st a w) {d z len m b cap:Nat} {T:TypeId} {w':World} {cur':Array Value} {old:Nat→Value} {news:List Value} {rows1 rows2:List (List AV)} (hC':∀ b',C b'→w'.heap[b']?=w.heap[b']?)
  (l1:rows1.length=len) (u1:∀ r∈rows1,r.length=z) (o1:∀ j,j<len * z→(old j).oneCell'=true) (r1:∀ (i:Nat) row,rows1[i]?=some row→∀ (j:Nat) x,row[j]?=some x→RV g w (old (i * z+j)) x)
  (l2:rows2.length=m) (u2:∀ r∈rows2,r.length=z) (ln:news.length=m * z) (o2:∀ u∈news,u.oneCell'=true) (r2:∀ (i:Nat) row,rows2[i]?=some row→∀ (j:Nat) x,row[j]?=some x→RV g w (news.getD (i * z+j) undef) x)
  (hheap:w'.heap[b]?=some (.cells cur' T (0,0))) (hsz:cur'.size=cap * z) (hmax:cap≤maxLen) (hle:len+m≤cap)
  (g1:∀ j,j<len * z→cur'.getD j undef=old j) (g2:∀ j,j<m * z→cur'.getD (len * z+j) undef=news.getD j undef) :
  qMZ (g.fresh (.s d) (some b) cap) w' b cap z ((rows1++rows2).map (fun r=>r.map (AV.tr (kl (.s d))))):=by
 refine⟨cur',T,hheap,hsz,hmax,by simp;omega,?_,?_,?_⟩
 ·intro r hr
  obtain⟨r0,h0,rfl⟩:=List.mem_map.1 hr
  rw [List.length_map]
  rcases List.mem_append.1 h0 with h0|h0
  ·exact u1 r0 h0
  ·exact u2 r0 h0
 ·intro j hj
  simp only [List.length_map,List.length_append,l1,l2,Nat.add_mul] at hj
  by_cases hlt:j<len * z
  ·rw [g1 j hlt];exact o1 j hlt
  ·have:j=len * z+(j - len * z):=by omega
   rw [this,g2 _ (by omega)]
   have hl:j - len * z<news.length:=by omega
   rw [List.getD_eq_getElem?_getD,gE hl]
   exact o2 _ (List.getElem_mem hl)
 ·intro i row hrow j x hx
  rw [List.getElem?_map] at hrow
  obtain⟨r0,h0,rfl⟩:=Option.map_eq_some_iff.1 hrow
  rw [List.getElem?_map] at hx
  obtain⟨x0,hx0,rfl⟩:=Option.map_eq_some_iff.1 hx
  rw [List.getElem?_append] at h0
  by_cases hlt:i<rows1.length
  ·rw [if_pos hlt] at h0
   have hj:j<z:=by rw [← u1 r0 (gM h0)];exact (gS hx0).1
   have h5:(i+1) * z≤len * z:=Nat.mul_le_mul_right _ (by omega)
   rw [Nat.add_mul,Nat.one_mul] at h5
   rw [g1 _ (by omega)]
   exact h.rvFresh hC' (r1 i r0 h0 j x0 hx0)
  ·rw [if_neg hlt] at h0
   have hj:j<z:=by rw [← u2 r0 (gM h0)];exact (gS hx0).1
   have hi:i - rows1.length<m:=by rw [← l2];exact (gS h0).1
   have h5:(i - rows1.length+1) * z≤m * z:=Nat.mul_le_mul_right _ hi
   rw [Nat.add_mul,Nat.one_mul] at h5
   have e:i * z+j=len * z+((i - rows1.length) * z+j):=by
    rw [Nat.sub_mul,l1]
    have:len * z≤i * z:=Nat.mul_le_mul_right _ (by omega)
    omega
   rw [e,g2 _ (by omega)]
   exact h.rvFresh hC' (r2 _ r0 h0 j x0 hx0)
theorem qRn {T ty E:TypeId} {z len:Nat} {n:Nm} {d:Nat} {v v2:Value} {rows0 rows2:List (List AV)} (h:Rg P own C w0 g st a w) (hd:d<st.n) (hT:uw P T=some E) (hz:tsz P E=z)
  (hv:RV g w v (.hs n z 0 len)) (hn:st.hp n=some (.row z rows0)) (hle:len≤rows0.length) (hlen:len+rows2.length≤4294967296) (hs:Src g w v2 z rows2) :
  ∃ v' w',(Builtin.append_ #[T,T] ty #[v,v2]).run P w=.ok v' w'∧Rel P own C w0 g (qDQ d z (len+rows2.length) (some n) (rows0.take len++rows2) st) (a.put (some d) v') w':=by
 obtain⟨i,zv,t1,t2,t3,t4,t5,t6,t7⟩:=qAH hT
 have hiz:i.size=z:=t7.symm.trans hz
 have hbytes:(len+rows2.length) * i.bytes≤140737488355328:=by
  have:=Nat.mul_le_mul hlen t6
  omega
 have ho:=h.inv.obj n _ hn
 cases hv with
 | hsN _ _ hk =>
  simp only [OAt,hk] at ho
  subst ho
  rcases hs with⟨ad,c,rfl,rfl⟩|⟨ad,c,news,rfl,e2,e3,e4,e5,e6⟩
  ·exact⟨.slice none 0 0,w,j3 t1 t2 none ad 0 0 c (Nat.le_refl _),h.apNil hd⟩
  ·by_cases hm:rows2.length=0
   ·obtain rfl:=List.eq_nil_of_length_eq_zero hm
    exact⟨.slice none 0 0,w,j3 t1 t2 none (some ad) 0 0 c (Nat.le_refl _),h.apNil hd⟩
   ·obtain⟨v',w',hrun,r1,r2,_,r4⟩:=run_append_own_at (P:=P) w 0 T ty E i zv z i.bytes t1 t2 t3 hiz rfl (t4.trans hiz) (by omega) (.slice none 0 0) 0 [] ⟨by simp,.inl ⟨rfl,rfl⟩⟩ ad rows2.length c news e2 e3 e4 (by simp only [maxLen];omega) hbytes (Nat.zero_le _)
    rcases r1.2 with⟨_,h0⟩|⟨b,cap,cur,rfl,_,q1,q2,q3,q4,q5⟩
    ·omega
    ·have hb:b=w.heap.size:=by
      rcases r4 with r4|r4 <;> simp [Value.ownBlock] at r4
      exact r4
     subst hb
     have hC':∀ b',C b'→w'.heap[b']?=w.heap[b']?:=fun b' hC=>r2.block b' (h.inv.clt b' hC) (by simp [Value.ownBlock])
     refine⟨_,w',hrun,h.apDone (b:=w.heap.size) hd r2.os r2.tape r2.output r2.size (fun b' _ hb'=>r2.block b' hb' (by simp [Value.ownBlock])) (.inl (Nat.le_refl _)) (Array.getElem?_eq_some_iff.1 q1).1 q2 (fun _=>rfl) ?_⟩
     have:=qCT h (d:=d) (z:=z) (len:=0) (m:=rows2.length) (old:=fun _=>undef) (news:=news) (rows1:=[]) (rows2:=rows2) hC' (by simp) (by simp) (by simp) (by simp) rfl e5 e2 e4 e6 q1 q4 q3 q2 (by simp) (fun j hj=>by
      simp only [Nat.zero_mul,Nat.zero_add,List.nil_append] at q5 ⊢
      rw [← q5,List.getD_eq_getElem?_getD,List.getElem?_take,if_pos hj,Array.getElem?_toList,Array.getD_eq_getD_getElem?])
     simpa using this
 | hsB _ _ _ _ b cap ad0 hk g1 g2 g3 =>
  rw [Nat.zero_add] at g2
  have hblk:=h.inv.blk n _ b hn hk
  simp only [OAt,hk,← g2] at ho
  obtain⟨cur,U,c1,c2,c3,c4,c5,c6,c7⟩:=ho
  have hrl:len * z≤rows0.length * z:=Nat.mul_le_mul_right _ hle
  have hrc:rows0.length * z≤cap * z:=Nat.mul_le_mul_right _ c4
  have base:∀ (w':World) (m b' cap':Nat) (cur':Array Value) (U':TypeId) (news:List Value) (rows2:List (List AV)),(∀ b',C b'→w'.heap[b']?=w.heap[b']?)→rows2.length=m→(∀ r∈rows2,r.length=z)→news.length=m * z→(∀ u∈news,u.oneCell'=true) →
    (∀ (i:Nat) row,rows2[i]?=some row→∀ (j:Nat) x,row[j]?=some x→RV g w (news.getD (i * z+j) undef) x)→w'.heap[b']?=some (.cells cur' U' (0,0))→cur'.size=cap' * z→cap'≤maxLen→len+m≤cap' →
    (∀ j,j<len * z→cur'.getD j undef=cur.getD j undef)→(∀ j,j<m * z→cur'.getD (len * z+j) undef=news.getD j undef) →
    qMZ (g.fresh (.s d) (some b') cap') w' b' cap' z ((rows0.take len++rows2).map (fun r=>r.map (AV.tr (kl (.s d))))):=by
   intro w' m b' cap' cur' U' news rows2 hC' x1 x2 x3 x4 x5 x6 x7 x8 x9 x10 x11
   refine qCT h (m:=m) (old:=fun j=>cur.getD j undef) (news:=news) hC' (by rw [List.length_take];omega) (fun r hr=>c5 r (List.mem_of_mem_take hr)) (fun j hj=>c6 j (by omega)) (fun i row hrow j x hx=>?_) x1 x2 x3 x4 x5 x6 x7 x8 x9 x10 x11
   rw [List.getElem?_take] at hrow
   split at hrow
   ·exact c7 i row hrow j x hx
   ·cases hrow
  have nothing:∀ ad c,v2=.slice ad 0 c→rows2=[]→∃ v' w',(Builtin.append_ #[T,T] ty #[.slice ad0 len cap,v2]).run P w=.ok v' w'∧Rel P own C w0 g (qDQ d z (len+rows2.length) (some n) (rows0.take len++rows2) st) (a.put (some d) v') w':=by
   rintro ad c rfl rfl
   refine⟨_,w,j3 t1 t2 ad0 ad len cap c g1,?_⟩
   exact h.apDone (b:=b) hd rfl rfl rfl (Nat.le_refl _) (fun _ _ _=>rfl) (.inr ⟨n,_,rfl,hn,hk⟩) hblk.2.2 (by simpa using g1) (fun h0=>by rw [g3 h0];simp) (base w 0 b cap cur U [] [] (fun _ _=>rfl) rfl (by simp) (by simp) (by simp) (by simp) c1 c2 c3 (by simpa using g1) (fun _ _=>rfl) (by simp))
  rcases hs with⟨ad,c,e,e'⟩|⟨ad,c,news,e1,e2,e3,e4,e5,e6⟩
  ·exact nothing ad c e e'
  ·by_cases hm:rows2.length=0
   ·exact nothing (some ad) c (by rw [e1,hm]) (List.eq_nil_of_length_eq_zero hm)
   ·subst e1
    by_cases hroom:len+rows2.length≤cap
    ·have h0:0<cap:=by omega
     rw [g3 h0]
     have hbound:(len+rows2.length) * z≤cap * z:=Nat.mul_le_mul_right _ hroom
     rw [Nat.add_mul] at hbound
     have hrun:=qCP (P:=P) (ty:=ty) t1 t2 b (0 * z) len cap cur U c1 ad rows2.length c news (by rw [e2,hiz]) e3 e4 hroom (by rw [hiz];omega)
     rw [hiz] at hrun
     simp only [Nat.zero_mul,Nat.zero_add] at hrun ⊢
     refine⟨_,_,hrun,?_⟩
     have hsz':len * z+news.length≤cur.toList.length:=by simp;omega
     have hC':∀ b',C b'→(w.setRow b (cur.toList.take (len * z)++news++cur.toList.drop (len * z+news.length)).toArray).heap[b']?=w.heap[b']?:=fun b' hC=>setRow_other w _ b' _ (fun e=>hblk.1 (e ▸ hC))
     refine h.apDone (b:=b) hd rfl rfl rfl (by simp) (fun b' hne _=>setRow_other w _ b' _ hne) (.inr ⟨n,_,rfl,hn,hk⟩) (by simpa using hblk.2.2) hroom (fun _=>rfl) ?_
     refine base _ rows2.length b cap _ U news rows2 hC' rfl e5 e2 e4 e6 (setRow_heap w _ _ _ U _ c1) ?_ c3 hroom (fun j hj=>?_) (fun j hj=>?_)
     ·simp only [List.size_toArray,List.length_append,List.length_take,List.length_drop,Array.length_toList]
      omega
     ·rw [qBn _ _ _ hsz',if_neg (by omega)]
      simp
     ·rw [qBn _ _ _ hsz',if_pos (by omega)]
      congr 1
      omega
    ·have hcells:∀ j u,(cur.toList.take (len * z))[j]?=some u→w.cell? ⟨b,0 * z+j,none⟩=some u:=by
      intro j u hj
      rw [List.getElem?_take] at hj
      split at hj
      ·rw [cell_of_row w _ _ _ U _ c1,Nat.zero_mul,Nat.zero_add,← Array.getElem?_toList]
       exact hj
      ·cases hj
     have hol:(cur.toList.take (len * z)).length=len * z:=by rw [List.length_take,Array.length_toList];omega
     have grow:∃ v' w',(Builtin.append_ #[T,T] ty #[.slice ad0 len cap,.slice (some ad) rows2.length c]).run P w=.ok v' w'∧w'.ownsRow w.heap.size E z v' (len+rows2.length) (cur.toList.take (len * z)++news)∧w.grownBy w' none:=by
      cases ad0 with
      | some b0 =>
       refine run_append_arg_grows (P:=P) w T ty E i zv z i.bytes t1 t2 t3 hiz rfl (t4.trans hiz) (by omega) b0 len cap (cur.toList.take (len * z)) hol (fun j u hj=>?_) ad rows2.length c news e2 e3 (by omega) (by simp only [maxLen];omega) hbytes
       have hlt:j<len * z:=by have:=(gS hj).1;rwa [hol] at this
       have h0:0<cap:=by
        rcases Nat.eq_zero_or_pos cap with e|e
        ·have:len=0:=by omega
         rw [this] at hlt
         simp at hlt
        ·exact e
       have hb0:b0=⟨b,0 * z,none⟩:=sI (g3 h0)
       rw [hb0,Addr.add_lit]
       exact hcells j u hj
      | none =>
       have h0:cap=0:=by
        rcases Nat.eq_zero_or_pos cap with e|e
        ·exact e
        ·have:=g3 e;cases this
       subst h0
       have hl0:len=0:=by omega
       subst hl0
       obtain⟨v',w',hrun,r1,r2,_,r4⟩:=run_append_own_at (P:=P) w w.heap.size T ty E i zv z i.bytes t1 t2 t3 hiz rfl (t4.trans hiz) (by omega) (.slice none 0 0) 0 [] ⟨by simp,.inl ⟨rfl,rfl⟩⟩ ad rows2.length c news e2 e3 e4 (by simp only [maxLen];omega) hbytes (Nat.le_refl _)
       exact⟨v',w',hrun,by simpa using r1,r2⟩
     obtain⟨v',w',hrun,r1,r2⟩:=grow
     rcases r1.2 with⟨_,h0⟩|⟨b',cap',cur',rfl,q0,q1,q2,q3,q4,q5⟩
     ·omega
     ·have hC':∀ b',C b'→w'.heap[b']?=w.heap[b']?:=fun b' hC=>r2.block b' (h.inv.clt b' hC) (by simp)
      refine⟨_,w',hrun,h.apDone (b:=b') hd r2.os r2.tape r2.output r2.size (fun x _ hx=>r2.block x hx (by simp)) (.inl q0) (Array.getElem?_eq_some_iff.1 q1).1 q2 (fun _=>rfl) ?_⟩
      have get:∀ j,j<(len+rows2.length) * z→cur'.getD j undef=(cur.toList.take (len * z)++news).getD j undef:=by
       intro j hj
       rw [← q5,List.getD_eq_getElem?_getD,List.getElem?_take,if_pos hj,Array.getElem?_toList,Array.getD_eq_getD_getElem?]
      rw [Nat.add_mul] at get
      refine base w' rows2.length b' cap' cur' E news rows2 hC' rfl e5 e2 e4 e6 q1 q4 q3 q2 (fun j hj=>?_) (fun j hj=>?_)
      ·rw [get j (by omega),List.getD_eq_getElem?_getD,List.getElem?_append,if_pos (by omega),List.getElem?_take,if_pos hj,Array.getElem?_toList,Array.getD_eq_getD_getElem?]
      ·rw [get _ (by omega),List.getD_eq_getElem?_getD,List.getElem?_append,if_neg (by omega),hol,Nat.add_sub_cancel_left,← List.getD_eq_getElem?_getD]
theorem qFo {o:Oper} {T:TypeId} {s x:Operand} (ho:o.op=.call { callee:=.builtin .append,args:=#[s,x],argTypes:=#[T,T] }) {v':Value} {w':World} (e:(Builtin.append_ #[T,T] o.type #[a.eval s,a.eval x]).run P w=.ok v' w') :
  (execOp a.eval o).run P w=.ok (.value v') w':=by
 simp only [execOp,ho,resolve,invoke,builtin,Sem.run_bind,Sem.run_pure,Result.andThen_ok,List.map_toArray,List.map_cons,List.map_nil,e]
theorem qOy {o:Oper} {T E:TypeId} {s x:Operand} {d z len:Nat} {n:Nm} {rows0 rows2:List (List AV)} (h:Rg P own C w0 g st a w) (ho:o.op=.call { callee:=.builtin .append,args:=#[s,x],argTypes:=#[T,T] }) (hd:o.dst=some d) (hdn:d<st.n)
  (hT:uw P T=some E) (hz:tsz P E=z) (hs:ev st s=.hs n z 0 len) (hn:st.hp n=some (.row z rows0)) (hle:len≤rows0.length) (hx:yD st z (ev st x)=some rows2) (hlen:len+rows2.length≤4294967296) :
  qJC P o a w fun a' w'=>Rel P own C w0 g (qDQ d z (len+rows2.length) (some n) (rows0.take len++rows2) st) a' w':=by
 have hv:=h.ev s
 rw [hs] at hv
 obtain⟨v',w',e1,e2⟩:=qRn (ty:=o.type) h hdn hT hz hv hn hle hlen (h.src (h.ev x) hx)
 exact .inl ⟨v',w',qFo ho e1,by rw [hd];exact e2⟩
theorem qMU {o:Oper} {T E:TypeId} {s x:Operand} {d z:Nat} {rows2:List (List AV)} (h:Rg P own C w0 g st a w) (ho:o.op=.call { callee:=.builtin .append,args:=#[s,x],argTypes:=#[T,T] }) (hd:o.dst=some d) (hdn:d<st.n)
  (hT:uw P T=some E) (hz:tsz P E=z) (hs:ev st s=.sc (.slice none 0 0)) (hx:yD st z (ev st x)=some rows2) (hlen:rows2.length≤4294967296) :
  qJC P o a w fun a' w'=>Rel P own C w0 g (qDQ d z rows2.length none rows2 st) a' w':=by
 have hv:=h.ev s
 rw [hs] at hv
 have hsrc:=h.src (h.ev x) hx
 -- the nil slice,at a name of its own
 obtain⟨i,zv,t1,t2,t3,t4,t5,t6,t7⟩:=qAH hT
 have hiz:i.size=z:=t7.symm.trans hz
 have hbytes:rows2.length * i.bytes≤140737488355328:=by
  have:=Nat.mul_le_mul hlen t6
  omega
 have key:∃ v' w',(Builtin.append_ #[T,T] o.type #[.slice none 0 0,a.eval x]).run P w=.ok v' w'∧Rel P own C w0 g (qDQ d z rows2.length none rows2 st) (a.put (some d) v') w':=by
  have nothing:∀ ad c,a.eval x=.slice ad 0 c→rows2=[]→∃ v' w',(Builtin.append_ #[T,T] o.type #[.slice none 0 0,a.eval x]).run P w=.ok v' w'∧Rel P own C w0 g (qDQ d z rows2.length none rows2 st) (a.put (some d) v') w':=by
   rintro ad c e rfl
   rw [e]
   exact⟨.slice none 0 0,w,j3 t1 t2 none ad 0 0 c (Nat.le_refl _),h.apNil hdn⟩
  rcases hsrc with⟨ad,c,e,e'⟩|⟨ad,c,news,e1,e2,e3,e4,e5,e6⟩
  ·exact nothing ad c e e'
  ·by_cases hm:rows2.length=0
   ·exact nothing (some ad) c (by rw [e1,hm]) (List.eq_nil_of_length_eq_zero hm)
   ·rw [e1]
    obtain⟨v',w',hrun,r1,r2,_,r4⟩:=run_append_own_at (P:=P) w 0 T o.type E i zv z i.bytes t1 t2 t3 hiz rfl (t4.trans hiz) (by omega) (.slice none 0 0) 0 [] ⟨by simp,.inl ⟨rfl,rfl⟩⟩ ad rows2.length c news e2 e3 e4 (by simp only [maxLen];omega) (by simpa using hbytes) (Nat.zero_le _)
    rcases r1.2 with⟨_,h0⟩|⟨b,cap,cur,rfl,_,q1,q2,q3,q4,q5⟩
    ·omega
    ·have hb:b=w.heap.size:=by
      rcases r4 with r4|r4 <;> simp [Value.ownBlock] at r4
      exact r4
     subst hb
     have hC':∀ b',C b'→w'.heap[b']?=w.heap[b']?:=fun b' hC=>r2.block b' (h.inv.clt b' hC) (by simp [Value.ownBlock])
     rw [Nat.zero_add] at hrun q2
     refine⟨_,w',hrun,h.apDone (b:=w.heap.size) hdn r2.os r2.tape r2.output r2.size (fun b' _ hb'=>r2.block b' hb' (by simp [Value.ownBlock])) (.inl (Nat.le_refl _)) (Array.getElem?_eq_some_iff.1 q1).1 q2 (fun _=>rfl) ?_⟩
     have:=qCT h (d:=d) (z:=z) (len:=0) (m:=rows2.length) (old:=fun _=>undef) (news:=news) (rows1:=[]) (rows2:=rows2) hC' (by simp) (by simp) (by simp) (by simp) rfl e5 e2 e4 e6 q1 q4 q3 (by simpa using q2) (by simp) (fun j hj=>by
      simp only [Nat.zero_mul,Nat.zero_add,List.nil_append] at q5 ⊢
      rw [← q5,List.getD_eq_getElem?_getD,List.getElem?_take,if_pos hj,Array.getElem?_toList,Array.getD_eq_getD_getElem?])
     simpa using this
 obtain⟨v',w',e1,e2⟩:=key
 refine .inl ⟨v',w',qFo ho ?_,by rw [hd];exact e2⟩
 rw [hv.sc_eq]
 exact e1
end
def yR (P:Program) (E:TypeId) (d:Nat):Nat→List (List AV)→List (List AV)
 | _,[]=>[]
 | i,r::l=>zcs (fun j=>.c (.s d) i j) (tce P E) 0 r::yR P E d (i+1) l
def yI (P:Program) (E:TypeId) (d:Nat):Nat→List (List AV)→List (Nm×Nat)
 | _,[]=>[]
 | i,r::l=>qr (fun j=>.c (.s d) i j) (tce P E) 0 r++yI P E d (i+1) l
def qDK (key:Nat→Nat→Nm):Nat→List (List AV)→List (Nm×Nm)
 | _,[]=>[]
 | i,r::l=>prs (key i) 0 r++qDK key (i+1) l
theorem uM {P:Program} {E:TypeId} {d:Nat}:∀ (l:List (List AV)) (i:Nat),(yR P E d i l).length=l.length
 | [],_=>rfl
 | r::l,i=>by simp [yR,uM l (i+1)]
theorem we {P:Program} {E:TypeId} {d:Nat}:∀ (l:List (List AV)) (i k:Nat),(yR P E d i l)[k]?=(l[k]?).map (fun r=>zcs (fun j=>.c (.s d) (i+k) j) (tce P E) 0 r)
 | [],_,_=>by simp [yR]
 | r::l,i,0=>by simp [yR]
 | r::l,i,k+1=>by
  simp only [yR,List.getElem?_cons_succ]
  rw [we l (i+1) k,show i+1+k=i+(k+1) from by omega]
theorem qA2 {P:Program} {E:TypeId} {d:Nat}:∀ (l:List (List AV)) (i:Nat) p,p∈yI P E d i l→∃ i j,p.1=.c (.s d) i j
 | [],_,_,h=>by simp [yI] at h
 | r::l,i,p,h=>by
  simp only [yI] at h
  rcases List.mem_append.1 h with h|h
  ·obtain⟨j,e⟩:=vh _ _ _ _ p h
   exact⟨i,j,e⟩
  ·exact qA2 l (i+1) p h
theorem qIX {d:Nat}:∀ (l:List (List AV)) (i:Nat),qM8 (qDK (fun i j=>.c (.s d) i j) i l)
 | [],_=>by simp [qDK,qM8]
 | r::l,i=>by
  intro p hp
  simp only [qDK] at hp
  rcases List.mem_append.1 hp with hp|hp
  ·exact qGD (fun j=>.c (.s d) i j) (fun _=>rfl) r 0 p hp
  ·exact qIX l (i+1) p hp
section
variable {P:Program} {own:Nat→Prop} {C:Nat→Prop} {w0:World} {g:Gh} {st:St} {a:Act} {w:World}
def qUZ (d z l:Nat) (zv:List AV) (st:St):St:=((st.kill (.s d)).setO (.s d) (.row z (List.replicate l zv))).put (some d) (.hs (.s d) z 0 l)
theorem qLV (z:Array Value) (n t:Nat) (h:t<n):(madeCells z n).getD t undef=z[t % z.size]!:=by
 simp [madeCells,Array.getD_eq_getD_getElem?,h]
theorem qOS {o:Oper} {T E:TypeId} {x y:Operand} {d l z:Nat} {k k':IntKind} {zv:List AV} (h:Rg P own C w0 g st a w) (ho:o.op=.makeSlice T x y) (hd:o.dst=some d) (hn:d<st.n)
  (hx:ev st x=.sc (.int k l)) (hy:ev st y=.sc (.int k' l)) (hE:uw P T=some E) (hz:tsz P E=z) (hzv:jg P E=some zv) (hl:l≤4294967296):qJC P o a w fun a' w'=>Rel P own C w0 g (qUZ d z l zv st) a' w':=by
 obtain⟨i,zz,t1,t2,t3,t4,t5,t6,t7⟩:=qAH hE
 obtain⟨i',z',q1,q2,q3,rfl,q4⟩:=qAh hzv
 rw [t2] at q1
 obtain rfl:=sI q1
 rw [t3] at q2
 obtain rfl:=sI q2
 have hiz:i.size=z:=t7.symm.trans hz
 have e1:a.eval x=.int k l:=(hx ▸ h.ev x).sc_eq
 have e2:a.eval y=.int k' l:=(hy ▸ h.ev y).sc_eq
 have hb:(i.bytes:Int) * l≤281474976710656:=by
  have:=Nat.mul_le_mul t6 hl
  have h2:((i.bytes * l:Nat):Int)≤281474976710656:=by omega
  simpa using h2
 have hrun:=run_make (P:=P) (w:=w) T E i zz t1 t2 t3 k k' l l (by omega) (by omega) hb (by omega)
 refine .inl ⟨.slice (some ⟨w.heap.size,0,none⟩) l l,w.alloc (.cells (madeCells zz.cells (l * i.size)) E),?_,?_⟩
 ·simp only [Int.toNat_natCast] at hrun
  simp only [execOp,ho,e1,e2,Sem.run_bind,hrun,Result.andThen_ok,Sem.run_pure]
 ·rw [hd]
  have hcur:∀ t,t<l * i.size→(madeCells zz.cells (l * i.size)).getD t undef=zz.cells[t % zz.cells.size]!:=fun t ht=>qLV _ _ _ ht
  have hm:=h.made (.s d) (.row z (List.replicate l (zz.cells.toList.map .sc))) w.heap.size l (w.alloc (.cells (madeCells zz.cells (l * i.size)) E)) [] (by simp) (fun _=>false) rfl rfl rfl (by simp) (.inl (Nat.le_refl _)) (by simp) (fun b' _ hb'=>u7 _ hb') (by
   simp only [OAt,(zC (g:=g) (.s d) (some w.heap.size) l).1,(zC (g:=g) (.s d) (some w.heap.size) l).2]
   refine⟨_,E,heap_alloc_new w _,by simp [madeCells,hiz],by simp only [maxLen];omega,by simp,?_,?_,?_⟩
   ·intro r hr
    rw [List.eq_of_mem_replicate hr]
    simp [t4,hiz]
   ·intro j hj
    rw [List.length_replicate,← hiz] at hj
    rw [hcur j hj,t4]
    have hlt:j % i.size<zz.cells.size:=by rw [t4];exact Nat.mod_lt _ t5
    rw [getElem!_pos zz.cells _ hlt]
    exact q3 _ (by rw [Array.mem_toList_iff];exact Array.getElem_mem hlt)
   ·intro i' row hrow j x hx
    have hi':i'<l:=by
     have:=(gS hrow).1
     rwa [List.length_replicate] at this
    rw [List.getElem?_replicate,if_pos hi'] at hrow
    obtain rfl:=sI hrow
    rw [List.getElem?_map] at hx
    obtain⟨v,hv,rfl⟩:=Option.map_eq_some_iff.1 hx
    have hj:j<zz.cells.size:=by
     have:=(gS hv).1
     simpa using this
    have h5:(i'+1) * i.size≤l * i.size:=Nat.mul_le_mul_right _ hi'
    rw [Nat.add_mul,Nat.one_mul] at h5
    rw [← hiz,hcur _ (by omega),t4,Nat.add_comm,Nat.add_mul_mod_self_right,Nat.mod_eq_of_lt (by omega),getElem!_pos zz.cells _ hj]
    have:v=zz.cells[j]:=by
     rw [Array.getElem?_toList,Array.getElem?_eq_getElem hj] at hv
     exact (sI hv).symm
    rw [← this]
    exact RV.sc v)
  have e:(st.nm (kl (.s d)) (fun m=>if (fun _=>false:Nm→Bool) m then none else hkl (.s d) st.hp m))=st.kill (.s d):=by simp [St.kill]
  rw [e] at hm
  exact⟨_,.fresh rfl,hm.put (d:=some d) (fun t e=>by obtain rfl:=sI e;exact hn) (.hsB _ _ _ _ w.heap.size l _ (zC _ _ _).1 (Nat.le_refl _) (by simp [(zC (g:=g) (.s d) (some w.heap.size) l).2]) (fun _=>by simp))⟩
def kN (st:St):List (Nat×Operand)→Option (List (List AV))
 | []=>some []
 | p::l=>((ev st p.2).cells).bind fun r=>(kN st l).map (r::·)
def qOu (P:Program) (E:TypeId) (d z:Nat) (rows:List (List AV)) (st:St):St :=
 let r1:=rows.map (fun r=>r.map (AV.tr (kl (.s d))))
 let r2:=yR P E d 0 r1
 canon (qDK (fun i j=>.c (.s d) i j) 0 r2) (((St.setNils (yI P E d 0 r1) (st.kill (.s d))).setO (.s d) (.row z r2)).put (some d) (.hs (.s d) z 0 rows.length))
theorem qCQ:∀ {parts:List (Nat×Operand)} {rows:List (List AV)},kN st parts=some rows→rows.length=parts.length∧∀ (i:Nat) p,parts[i]?=some p→∃ r,rows[i]?=some r∧(ev st p.2).cells=some r
 | [],rows,h=>by
  simp only [kN] at h
  obtain rfl:=sI h
  simp
 | p::l,rows,h=>by
  simp only [kN] at h
  obtain⟨r,hr,h⟩:=Option.bind_eq_some_iff.1 h
  obtain⟨m,hm,rfl⟩:=Option.map_eq_some_iff.1 h
  obtain⟨h1,h2⟩:=qCQ hm
  refine⟨by simp [h1],fun i q hq=>?_⟩
  cases i with
  | zero=>simp at hq;subst hq;exact⟨r,by simp,hr⟩
  | succ i=>obtain⟨r',e1,e2⟩:=h2 i q (by simpa using hq);exact⟨r',by simpa using e1,e2⟩
theorem qOf (size:Nat):∀ (vs:List Value) (k:Nat) (pre rest:List Value),(∀ v∈vs,v.cells.size=size)→pre.length=k * size→vs.length * size≤rest.length →
  Instr.fill (fun i=>some (i * size,size)) (pre++rest).toArray ((vs.zipIdx k).map (fun p=>(p.2,p.1)))=some (pre++(vs.map (fun v=>v.cells.toList)).flatten++rest.drop (vs.length * size)).toArray:=by
 intro vs
 induction vs with
 | nil=>intro k pre rest _ _ _;simp [Instr.fill]
 | cons v vs ih =>
  intro k pre rest hv hpre hle
  simp only [List.length_cons,Nat.add_mul,Nat.one_mul] at hle
  have hvs:=hv v (by simp)
  simp only [List.zipIdx_cons,List.map_cons,Instr.fill]
  rw [if_neg (by simp;omega)]
  have hf:(v.cells.zipIdx.foldl (fun cs (x:Value×Nat)=>cs.setIfInBounds (k * size+x.2) x.1) (pre++rest).toArray)=((pre++v.cells.toList)++rest.drop size).toArray:=by
   have:=qG9 (k * size) v.cells.toList 0 (pre++rest).toArray (by simp;omega)
   simp only [Nat.add_zero] at this
   rw [← hpre,List.take_left' rfl,show v.cells.toList.length=size from by simp [hvs],List.drop_append,List.drop_of_length_le (by omega),List.nil_append,show pre.length+size - pre.length=size from by omega] at this
   rw [← hpre,← this,← Array.foldl_toList]
   simp
  have hf':(v.cells.zipIdx.foldl (fun cs x=>match x with|(c,j)=>cs.setIfInBounds (k * size+j) c) (pre++rest).toArray)=((pre++v.cells.toList)++rest.drop size).toArray:=hf
  rw [hf',ih (k+1) _ _ (fun u hu=>hv u (by simp [hu])) (by simp [hpre,hvs,Nat.add_mul]) (by rw [List.length_drop];omega)]
  simp [Nat.add_mul,List.append_assoc,Nat.add_comm]
theorem qOt {o:Oper} {T E:TypeId} {d len z:Nat} {parts:Array (Nat×Operand)} {rows:List (List AV)} (h:Rg P own C w0 g st a w) (ho:o.op=.buildSlice T len parts) (hd:o.dst=some d) (hn:d<st.n)
  (hE:uw P T=some E) (hz:tsz P E=z) (hrows:kN st parts.toList=some rows) (c1:parts.toList.map (·.1)=List.range len) (c2:len * z≤16777216) (c3:rows.all (fun r=>r.length==z)=true) :
  qJC P o a w fun a' w'=>Rel P own C w0 g (qOu P E d z rows st) a' w':=by
 obtain⟨i,zz,t1,t2,t3,t4,t5,t6,t7⟩:=qAH hE
 have hiz:i.size=z:=t7.symm.trans hz
 obtain⟨r1,r2⟩:=qCQ hrows
 have hu:∀ r∈rows,r.length=z:=fun r hr=>by simpa using List.all_eq_true.1 c3 r hr
 have hlen:parts.toList.length=len:=by have:=congrArg List.length c1;simpa using this
 let vs:=parts.toList.map (fun p=>a.eval p.2)
 have hvl:vs.length=len:=by simp [vs];simpa using hlen
 have each:∀ (k:Nat) v,vs[k]?=some v→∃ r,rows[k]?=some r∧v.cells.toList.length=r.length∧(∀ u∈v.cells.toList,u.oneCell'=true)∧∀ (j:Nat) u x,v.cells.toList[j]?=some u→r[j]?=some x→RV g w u x:=by
  intro k v hv
  rw [List.getElem?_map] at hv
  obtain⟨p,hp,rfl⟩:=Option.map_eq_some_iff.1 hv
  obtain⟨r,e1,e2⟩:=r2 k p hp
  exact⟨r,e1,(h.ev p.2).cells e2⟩
 have hsz:∀ v∈vs,v.cells.size=i.size:=by
  intro v hv
  obtain⟨k,hk⟩:=List.getElem?_of_mem hv
  obtain⟨r,e1,e2,_⟩:=each k v hk
  rw [← Array.length_toList,e2,hu r (gM e1),hiz]
 have hparts:(parts.map (fun p=>(p.1,a.eval p.2))).toList=(vs.zipIdx 0).map (fun p=>(p.2,p.1)):=by
  apply List.ext_getElem?
  intro k
  simp only [Array.toList_map,List.getElem?_map,List.getElem?_zipIdx,vs]
  cases hk:parts.toList[k]? with
  | none=>simp
  | some p =>
   have:=congrArg (fun l:List Nat=>l[k]?) c1
   simp only [List.getElem?_map,hk,Option.map_some] at this
   have hlt:k<len:=by rw [← hlen];exact (gS hk).1
   rw [List.getElem?_range hlt] at this
   simp [sI this]
 let cur:List Value:=(vs.map (fun v=>v.cells.toList)).flatten
 have hfill:=qOf i.size vs 0 [] ((Array.range (len * i.size)).map (fun t=>zz.cells[t % zz.cells.size]!)).toList hsz (by simp) (by simp [hvl])
 have hfill':Instr.fill (fun k=>some (k * i.size,i.size)) ((Array.range (len * i.size)).map (fun t=>zz.cells[t % zz.cells.size]!)) (parts.map (fun p=>(p.1,a.eval p.2))).toList=some cur.toArray:=by
  rw [hparts]
  have hz:(((Array.range (len * i.size)).map (fun t=>zz.cells[t % zz.cells.size]!)).toList).length=len * i.size:=by simp
  rw [List.nil_append,Array.toArray_toList,hvl,List.drop_of_length_le (by omega),List.nil_append,List.append_nil] at hfill
  exact hfill
 have hflat:∀ (l:List Value),(∀ v∈l,v.cells.size=i.size)→((l.map (fun v=>v.cells.toList)).flatten).length=l.length * i.size∧∀ k j,j<i.size→((l.map (fun v=>v.cells.toList)).flatten)[k * i.size+j]?=(l[k]?).bind (fun v=>v.cells.toList[j]?):=by
  intro l
  induction l with
  | nil=>intro _;simp
  | cons v l ih =>
   intro hl
   obtain⟨i1,i2⟩:=ih (fun u hu=>hl u (by simp [hu]))
   have hv:v.cells.toList.length=i.size:=by simpa using hl v (by simp)
   refine⟨by simp only [List.map_cons,List.flatten_cons,List.length_append,List.length_cons,i1,hv,Nat.add_mul,Nat.one_mul];omega,fun k j hj=>?_⟩
   simp only [List.map_cons,List.flatten_cons]
   cases k with
   | zero=>rw [Nat.zero_mul,Nat.zero_add,List.getElem?_append_left (by omega)];simp
   | succ k =>
    rw [List.getElem?_append_right (by rw [hv,Nat.add_mul];omega),hv,show (k+1) * i.size+j - i.size=k * i.size+j from by rw [Nat.add_mul,Nat.one_mul];omega,i2 k j hj]
    simp
 obtain⟨f1,f2⟩:=hflat vs hsz
 have hrl:rows.length=len:=by rw [r1];exact hlen
 have hrun:(execOp a.eval o).run P w=.ok (.value (.slice (some ⟨w.heap.size,0,none⟩) len len)) (w.alloc (.cells cur.toArray E)):=by
  by_cases h0:len * i.size=0
  ·simp only [execOp,ho,Instr.buildSlice,Sem.run_bind,run_underlying t1,Result.andThen_ok,sizeOf,typeInfo,Sem.run_pure]
   have hl0:len=0:=by
    rcases Nat.mul_eq_zero.1 h0 with h1|h1
    ·exact h1
    ·omega
   have hp0:parts=#[]:=by
    apply Array.toList_inj.1
    exact List.eq_nil_of_length_eq_zero (by rw [hlen,hl0])
   have hc0:cur=[]:=by simp [cur,vs,hp0]
   simp [hl0,hp0,hc0,Instr.fill,newRow,t2,Array.range_zero']
  ·simp only [execOp,ho,Instr.buildSlice,Sem.run_bind,run_underlying t1,Result.andThen_ok,sizeOf,typeInfo,Sem.run_pure]
   have:¬ len * i.size > 2 ^ 24:=by rw [hiz];omega
   simp only [Array.toList_map] at hfill'
   simp [this,h0,zeroValue,typeInfo,t2,t3,hfill',newRow]
 refine .inl ⟨_,_,hrun,?_⟩
 rw [hd]
 unfold qOu
 generalize hR1:rows.map (fun r=>r.map (AV.tr (kl (.s d))))=R1
 have hR1l:R1.length=len:=by rw [← hR1,List.length_map];exact hrl
 have hC':∀ b',C b'→(w.alloc (.cells cur.toArray E)).heap[b']?=w.heap[b']?:=fun b' hC=>u7 _ (h.inv.clt b' hC)
 have hm:=h.made (.s d) (.row z (yR P E d 0 R1)) w.heap.size len (w.alloc (.cells cur.toArray E)) (yI P E d 0 R1)
  (fun p hp=>by
    obtain⟨i,j,e⟩:=qA2 _ _ p hp
    rw [e]
    exact⟨by simp [Nm.under],by simp⟩) (fun _=>false) rfl rfl rfl (by simp) (.inl (Nat.le_refl _)) (by simp) (fun b' _ hb'=>u7 _ hb') (by
    simp only [OAt,(zC (g:=g) (.s d) (some w.heap.size) len).1,(zC (g:=g) (.s d) (some w.heap.size) len).2]
    refine⟨cur.toArray,E,heap_alloc_new w _,by simp [cur,f1,hvl,hiz],?_,by rw [uM,hR1l];exact Nat.le_refl _,?_,?_,?_⟩
    ·have:=Nat.le_mul_of_pos_right len t5
     rw [hiz] at this
     simp only [maxLen]
     omega
    ·intro r hr
     obtain⟨k,hk⟩:=List.getElem?_of_mem hr
     rw [we] at hk
     obtain⟨r0,h0,rfl⟩:=Option.map_eq_some_iff.1 hk
     rw [ko]
     rw [← hR1,List.getElem?_map] at h0
     obtain⟨r00,h00,rfl⟩:=Option.map_eq_some_iff.1 h0
     rw [List.length_map]
     exact hu r00 (gM h00)
    ·intro j hj
     rw [uM,hR1l] at hj
     have hlt:j<cur.length:=by simp only [cur,f1,hvl];rw [hiz];exact hj
     have e:cur.toArray.getD j undef=cur[j]:=by simp [Array.getD_eq_getD_getElem?,hlt]
     rw [e]
     have hmem:cur[j]∈cur:=List.getElem_mem hlt
     obtain⟨l,hl,hjl⟩:=List.mem_flatten.1 hmem
     obtain⟨v,hv,rfl⟩:=List.mem_map.1 hl
     obtain⟨k,hk⟩:=List.getElem?_of_mem hv
     obtain⟨r,_,_,e3,_⟩:=each k v hk
     exact e3 _ hjl
    ·intro k row hrow j x hx
     rw [we] at hrow
     obtain⟨r1',h0,rfl⟩:=Option.map_eq_some_iff.1 hrow
     rw [← hR1,List.getElem?_map] at h0
     obtain⟨r00,h00,rfl⟩:=Option.map_eq_some_iff.1 h0
     rw [qDs,List.getElem?_map] at hx
     obtain⟨x1,hx1,rfl⟩:=Option.map_eq_some_iff.1 hx
     obtain⟨x0,hx0,rfl⟩:=Option.map_eq_some_iff.1 hx1
     have hk:k<vs.length:=by rw [hvl,← hrl];exact (gS h00).1
     obtain⟨r,e1,e2,e3,e4⟩:=each k _ (gE hk)
     rw [e1] at h00
     obtain rfl:=sI h00
     have hj:j<i.size:=by rw [hiz,← hu r (gM e1)];exact (gS hx0).1
     have hj':j<(vs[k]).cells.toList.length:=by rw [e2,hu r (gM e1),← hiz];exact hj
     have e5:=f2 k j hj
     rw [gE hk,Option.bind_some,gE hj'] at e5
     have e:cur.toArray.getD (k * z+j) undef=(vs[k]).cells.toList[j]:=by
      rw [← hiz]
      simp only [Array.getD_eq_getD_getElem?,List.getElem?_toArray]
      simp only [cur]
      rw [e5]
      rfl
     rw [e]
     exact (h.rvFresh hC' (e4 j _ x0 (gE hj') hx0)).zc (fun _=>vl (by simp [Nm.under]) (by simp)))
 have e:(st.nm (kl (.s d)) (fun m=>if (fun _=>false:Nm→Bool) m then none else hkl (.s d) st.hp m))=st.kill (.s d):=by simp [St.kill]
 rw [e] at hm
 have hfin:=(hm.put (d:=some d) (v:=.slice (some ⟨w.heap.size,0,none⟩) len len) (x:=.hs (.s d) z 0 rows.length) (fun t e=>by
  obtain rfl:=sI e
  simp only [St.setO,(vd _ _).1]
  exact hn) (by
   rw [hrl]
   exact .hsB _ _ _ _ w.heap.size len _ (zC _ _ _).1 (Nat.le_refl _) (by simp [(zC (g:=g) (.s d) (some w.heap.size) len).2]) (fun _=>by simp))).canon (qDK (fun i j=>.c (.s d) i j) 0 (yR P E d 0 R1)) (qIX _ _)
 obtain⟨g',u,r⟩:=hfin
 exact⟨g',(Ust.fresh rfl).trans u,r⟩
def qY3 (d:Nat) (st:St):St:=((st.kill (.s d)).setO (.s d) (.map [])).put (some d) (.mp (.s d))
end
end Go.Hm
end
section
namespace Go.Hm
open Go Go.RowKit
structure Ctx where
 P:Program
 own:Nat→Prop
 C0:Nat→Prop
 w0:World
 n:Nat
 gl:Nat→Option (List AV)
 ext:Nm→Bool
 g0:Gh
def Ext (X:Ctx) (g:Gh):Prop:=∀ k i j,X.ext (.u k i j)=true→g.φ (.u k i j)=X.g0.φ (.u k i j)∧g.κ (.u k i j)=X.g0.κ (.u k i j)
theorem Ext.step {X:Ctx} {g g':Gh} (h:Ext X g) (hu:Ust g g'):Ext X g':=fun k i j e=>⟨(hu k i j).1.trans (h k i j e).1,(hu k i j).2.trans (h k i j e).2⟩
def Rw (X:Ctx) (st:St) (a:Act) (w:World):Prop :=
 ∃ C g,(∀ b,X.C0 b→C b)∧(∀ b,C b→X.C0 b∨X.w0.heap.size≤b∨X.own b)∧st.n=X.n∧st.gl=X.gl∧Ext X g∧Rg X.P X.own C X.w0 g st a w
def RwV (X:Ctx) (st:St) (a:Act) (w:World) (v:Value) (x:AV):Prop :=
 ∃ C g,(∀ b,X.C0 b→C b)∧(∀ b,C b→X.C0 b∨X.w0.heap.size≤b∨X.own b)∧st.n=X.n∧st.gl=X.gl∧Ext X g∧Rg X.P X.own C X.w0 g st a w∧RV g w v x
def qK (X:Ctx) (o:Oper) (K:St→Prop) (E:AV→St→Prop) (st:St):Prop :=
 ∀ (a:Act) (w:World) (Q:Exit→Act→World→Prop),Rw X st a w→(∀ v w' st' x,RwV X st' a w' v x→E x st'→Q (.panic [{ v:=v,recovered:=false }]) a w') →
  o.wp X.P a w (fun a' w'=>∃ st',Rw X st' a' w'∧K st') Q
section
variable {X:Ctx} {st:St} {a:Act} {w:World} {K:St→Prop} {E:AV→St→Prop}
theorem qK.of_rel {o:Oper} {st':St} (h:∀ C g a w,st.n=X.n→Rg X.P X.own C X.w0 g st a w→qJC X.P o a w fun a' w'=>Rel X.P X.own C X.w0 g st' a' w') (hn:st'.n=st.n∧st'.gl=st.gl) (hK:K st'):qK X o K E st:=by
 intro a w Q hR _
 obtain⟨C,g,h1,h2,h3,h4,h5,hg⟩:=hR
 refine qJC.wp ?_ Q
 rcases h C g a w h3 hg with⟨v,w',e,g',u,hr⟩|⟨w',e,g',u,hr⟩
 ·exact .inl ⟨v,w',e,st',⟨C,g',h1,h2,hn.1.trans h3,hn.2.trans h4,h5.step u,hr⟩,hK⟩
 ·exact .inr ⟨w',e,st',⟨C,g',h1,h2,hn.1.trans h3,hn.2.trans h4,h5.step u,hr⟩,hK⟩
theorem qJc (st:St) (d:Option Nat) (x:AV):(st.put d x).n=st.n:=by cases d <;> rfl
theorem qD6 (st:St) (d:Option Nat) (x:AV):(st.put d x).gl=st.gl:=by cases d <;> rfl
theorem qD5 (st:St) (d:Option Nat) (x:AV):(st.put d x).hp=st.hp:=by cases d <;> rfl
theorem qKd {o:Oper} (hn:∀ d,o.dst=some d→d<X.n) {z:AV} (hz:qev X.P st o=some z) (hK:K (st.put o.dst z)):qK X o K E st:=by
 refine .of_rel (fun C g a w e h=>?_) ⟨qJc _ _ _,qD6 _ _ _⟩ hK
 obtain⟨v,e1,e2⟩:=qGC h hz
 exact .inl ⟨v,w,e1,g,.refl g,h.put (fun t e'=>by rw [e];exact hn t e') e2⟩
theorem qJO {o:Oper} {x:Operand} {d:Nat} (ho:o.op=.assign x) (hd:o.dst=some d) (hn:d<X.n) (hK:K (qHn X.P o.type d (ev st x) st)):qK X o K E st:=by
 refine .of_rel (fun _ _ _ _ e h=>qMS h ho hd (e ▸ hn)) ?_ hK
 unfold qHn
 split
 ·exact⟨rfl,rfl⟩
 ·split
  ·split <;> exact⟨rfl,rfl⟩
  ·exact⟨rfl,rfl⟩
theorem qMP {P:Program} {T:TypeId} {d:Nat} {cs:List AV}:(wx P T d cs st).n=st.n∧(wx P T d cs st).gl=st.gl:=by
 unfold wx
 simp only [qCy,qJc,qD6,St.setO,vd]
 exact⟨rfl,rfl⟩
theorem qQj {o:Oper} {T:TypeId} {x:Operand} {d:Nat} {cs:List AV} (ho:o.op=.box T x) (hd:o.dst=some d) (hn:d<X.n) (hq:(ev st x).cells=some cs) (hz:cs.length=tsz X.P T) (hK:K (wx X.P T d cs st)):qK X o K E st :=
 .of_rel (fun _ _ _ _ e h=>qMO h ho hd (e ▸ hn) hq hz) qMP hK
theorem qKg {o:Oper} {T:TypeId} {d:Nat} {zs:List AV} (ho:o.op=.alloc T) (hd:o.dst=some d) (hn:d<X.n) (hq:jg X.P T=some zs) (hK:K (wx X.P T d zs st)):qK X o K E st :=
 .of_rel (fun _ _ _ _ e h=>qHo h ho hd (e ▸ hn) hq) qMP hK
theorem qQ9 {P:Program} {T:TypeId} {n:Nm} {z i off:Nat} {v0:List AV} {rows:List (List AV)} {vals:List AV}:(qEC n z i off rows vals (qDE P T n i off v0 st)).n=st.n∧(qEC n z i off rows vals (qDE P T n i off v0 st)).gl=st.gl:=by
 unfold qEC qDE
 simp only [qCy,St.setO,qDB]
 exact⟨trivial,trivial⟩
theorem qFh {o:Oper} {T:TypeId} {p x:Operand} {n:Nm} {z i off:Nat} {v0 v1:List AV} {rows:List (List AV)} (ho:o.op=.store T p x) (hd:o.dst=none) (hT:(X.P.info? T).isSome)
  (hv0:(ev st x).cells=some v0) (hlen:v0.length=tsz X.P T) (hp0:pl (ev st p)=some (n,i,off)) (hp1:pl (ev (qDE X.P T n i off v0 st) p)=some (n,i,off)) (hv1:(ev (qDE X.P T n i off v0 st) x).cells=some v1)
  (hsame:v1.map qn=v0.map qn) (hrows:wO (qDE X.P T n i off v0 st) (ev (qDE X.P T n i off v0 st) p)=some (z,rows)) (hi:i<rows.length) (hoff:off+v1.length≤z)
  (hK:K (qEC n z i off rows (qK1 X.P T n i off v1) (qDE X.P T n i off v0 st))):qK X o K E st :=
 .of_rel (fun _ _ _ _ _ h=>qK0 h ho hd hT hv0 hlen hp0 hp1 hv1 hsame hrows hi hoff) qQ9 hK
theorem qD0 {o:Oper} {T F:TypeId} {s x:Operand} {d z len:Nat} {n:Nm} {rows0 rows2:List (List AV)} (ho:o.op=.call { callee:=.builtin .append,args:=#[s,x],argTypes:=#[T,T] }) (hd:o.dst=some d) (hdn:d<X.n)
  (hT:uw X.P T=some F) (hz:tsz X.P F=z) (hs:ev st s=.hs n z 0 len) (hn:st.hp n=some (.row z rows0)) (hle:len≤rows0.length) (hx:yD st z (ev st x)=some rows2) (hlen:len+rows2.length≤4294967296)
  (hK:K (qDQ d z (len+rows2.length) (some n) (rows0.take len++rows2) st)):qK X o K E st :=
 .of_rel (fun _ _ _ _ e h=>qOy h ho hd (e ▸ hdn) hT hz hs hn hle hx hlen) ⟨rfl,rfl⟩ hK
theorem qHL {o:Oper} {T F:TypeId} {s x:Operand} {d z:Nat} {rows2:List (List AV)} (ho:o.op=.call { callee:=.builtin .append,args:=#[s,x],argTypes:=#[T,T] }) (hd:o.dst=some d) (hdn:d<X.n)
  (hT:uw X.P T=some F) (hz:tsz X.P F=z) (hs:ev st s=.sc (.slice none 0 0)) (hx:yD st z (ev st x)=some rows2) (hlen:rows2.length≤4294967296)
  (hK:K (qDQ d z rows2.length none rows2 st)):qK X o K E st :=
 .of_rel (fun _ _ _ _ e h=>qMU h ho hd (e ▸ hdn) hT hz hs hx hlen) ⟨rfl,rfl⟩ hK
theorem qNm {o:Oper} {T F:TypeId} {x y:Operand} {d l z:Nat} {k k':IntKind} {zv:List AV} (ho:o.op=.makeSlice T x y) (hd:o.dst=some d) (hn:d<X.n)
  (hx:ev st x=.sc (.int k l)) (hy:ev st y=.sc (.int k' l)) (hE:uw X.P T=some F) (hz:tsz X.P F=z) (hzv:jg X.P F=some zv) (hl:l≤4294967296) (hK:K (qUZ d z l zv st)):qK X o K E st :=
 .of_rel (fun _ _ _ _ e h=>qOS h ho hd (e ▸ hn) hx hy hE hz hzv hl) ⟨rfl,rfl⟩ hK
theorem qVB {P:Program} {F:TypeId} {d z:Nat} {rows:List (List AV)}:(qOu P F d z rows st).n=st.n∧(qOu P F d z rows st).gl=st.gl:=by
 unfold qOu
 simp only [qCy,qJc,qD6,St.setO,vd]
 exact⟨rfl,rfl⟩
theorem qKf {o:Oper} {T F:TypeId} {d len z:Nat} {parts:Array (Nat×Operand)} {rows:List (List AV)} (ho:o.op=.buildSlice T len parts) (hd:o.dst=some d) (hn:d<X.n)
  (hE:uw X.P T=some F) (hz:tsz X.P F=z) (hrows:kN st parts.toList=some rows) (c1:parts.toList.map (·.1)=List.range len) (c2:len * z≤16777216) (c3:rows.all (fun r=>r.length==z)=true) (hK:K (qOu X.P F d z rows st)):qK X o K E st :=
 .of_rel (fun _ _ _ _ e h=>qOt h ho hd (e ▸ hn) hE hz hrows c1 c2 c3) qVB hK
theorem Rw.mono_put {d:Nat} {v:Value} {x:AV} (h:Rw X st a w) (hd:d<X.n) (hv:∀ C g,Rg X.P X.own C X.w0 g st a w→RV g w v x):Rw X (st.put (some d) x) (a.put (some d) v) w:=by
 obtain⟨C,g,h1,h2,h3,h4,h5,hr⟩:=h
 exact⟨C,g,h1,h2,h3,h4,h5,hr.put (fun t e=>by obtain rfl:=sI e;rw [h3];exact hd) (hv C g hr)⟩
theorem Rw.move (h:Rw X st a w) (n0 n1:Nm) (h0:n0.isU=false∨X.ext n0=false) (h1:n1.isU=false∨X.ext n1=false):Rw X (st.move n0 n1) a w:=by
 obtain⟨C,g,e1,e2,e3,e4,e5,hr⟩:=h
 refine⟨C,_,e1,e2,e3,e4,?_,hr.move n0 n1⟩
 intro k i j he
 have hne:∀ m:Nm,m.isU=false∨X.ext m=false→Nm.under m (.u k i j)=false:=by
  intro m hm
  rcases hm with hm|hm
  ·exact qEB hm
  ·simp only [Nm.under,decide_eq_false_iff_not]
   rintro rfl
   rw [he] at hm
   cases hm
 have e:Hm.mv n0 n1 (.u k i j)=some (.u k i j):=by simp [Hm.mv,hne n0 h0,hne n1 h1]
 obtain⟨x1,x2⟩:=Gh.tr_spec (g:=g) (fun _ _ _=>qI5) e
 obtain⟨y1,y2⟩:=e5 k i j he
 exact⟨x1.trans y1,x2.trans y2⟩
theorem Rw.weaken (h:Rw X st a w) (hp':Nm→Option AO) (sub:∀ m o,hp' m=some o→st.hp m=some o):Rw X { tm:=st.tm,hp:=hp',n:=st.n,gl:=st.gl } a w:=by
 obtain⟨C,g,e1,e2,e3,e4,e5,hr⟩:=h
 exact⟨C,g,e1,e2,e3,e4,e5,hr.weaken hp' sub⟩
end
end Go.Hm
end
