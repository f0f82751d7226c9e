import Derived.Test.YtjgpejikjhojcaaGreatDoorR02
import Derived.Maps.AppendAt
import Derived.ArgAppend
set_option linter.unusedSimpArgs false
set_option linter.unusedVariables false
set_option maxRecDepth 100000
set_option maxHeartbeats 4000000

section
namespace Go.Hm
open Go Go.RowKit
def j3 (rows:List (List AV)) (i off:Nat) (vals:List AV):List (List AV):=rows.modify i (λr=>r.take off++vals++r.drop (off+vals.length))
section
variable {P:Program} {own:Nat->Prop} {C:Nat->Prop} {w0:World} {g:Gh} {st:St} {a:Act} {w:World}
theorem Rg.wr (h:Rg P own C w0 g st a w) {n:Nm} {o o':AO} {b:Nat} {w':World} (hn:st.hp n=some o) (hk:g.φ n=some b)
  (h1:w'.os=w.os) (h2:w'.tape=w.tape) (h3:w'.output=w.output) (h4:w.heap.size<=w'.heap.size) (hw:∀ b',b'≠b->b'<w.heap.size->w'.heap[b']?=w.heap[b']?) (ho:j6 g w' n o') :
  Rg P own C w0 g (st.zT n o') a w':=by
 obtain⟨x1,x2,x3⟩:=h.inv.qG n o b hn hk
 have hs:=h.step (g':=g) (w':=w') (f:=some) (hp':=(st.zT n o').hp) rfl (λk k' e=>qP) h1 h2 h3 h4
  (λb' hC=>hw b' (λe=>x1 (e ▸ hC)) (h.inv.uU b' hC)) (λb' hb' hno=>hw b' (λe=>by
    grind) (uQ hb' h.inv.size)) (λm q e=>by
  simp only [St.zT] at e
  split at e
  .rename_i e';subst e';obtain rfl:=sI e;refine .inr ⟨ho,λb' hb'=>?_⟩;rw [hk] at hb';obtain rfl:=sI hb';refine⟨⟨x1,x2,uQ x3 h4⟩,λm'' o'' e'' hk''=>?_⟩;simp only [St.zT] at e''
   split at e''
   .assumption
   .exact h.inv.inj m'' m o'' o b e'' hn hk'' hk
  .rename_i hne;exact .inl ⟨m,q,rfl,e,(AO.vv q).symm,λb' hb'=>hw b' (λe'=>hne (h.inv.inj m n q o b e hn (e' ▸ hb') hk)) (h.inv.qG m q b' e hb').2.2⟩)
 simp_all[St.nm,St.zT,AV.vv]
theorem Rg.qB1 (h:Rg P own C w0 g st a w) {n:Nm} {z i off b:Nat} {rows:List (List AV)} {nv:List Value} {vals:List AV} (hn:st.hp n=some (.row z rows)) (hk:g.φ n=some b) (hi:i<rows.length)
  (hoff:off+vals.length<=z) (hl:nv.length=vals.length) (hone:∀ v∈nv,v.oneCell'=true) (hr:∀ (j:Nat) v x,nv[j]?=some v->vals[j]?=some x->RV g w v x) :
  ∃ (cur:Array Value) (T:TypeId),w.heap[b]?=some (.cells cur T (0,0))/\i * z+off+nv.length<=cur.size /\
   Rg P own C w0 g (st.zT n (.row z (j3 rows i off vals))) a (w.setRow b (cur.toList.take (i * z+off)++nv++cur.toList.drop (i * z+off+nv.length)).toArray):=by
 have ho:=h.inv.obj n _ hn;simp only [j6,hk] at ho;obtain⟨cur,T,h1,h2,h3,h4,h5,h6,h7⟩:=ho;have hb1:(i+1) * z<=rows.length * z:=aS _ hi;have hb2:rows.length * z<=g.κ n * z:=aS _ h4;rw [mD,rE] at hb1;have hsz:i * z+off+nv.length<=cur.size:=qA;have hsz':i * z+off+nv.length<=cur.toList.length:=qA;refine⟨cur,T,h1,hsz,h.wr hn hk rfl rfl rfl qB (λb' hne _=>setRow_other w _ b' _ hne) ?_⟩;simp only [j6,hk];have hCb:¬ C b:=(h.inv.qG n _ b hn hk).1;have keepC:∀ (q:Array Value) b',g.C b'->(w.setRow b q).heap[b']?=w.heap[b']?:=λq b' hC=>setRow_other w _ b' _ (λe=>hCb (e ▸ h.inv.hC ▸ hC));refine⟨_,T,setRow_heap w _ _ _ T _ h1,?_,h3,by grind[j3],?_,?_,?_⟩
 .grind
 .grind[wj,j3]
 .intro j hj;rw [Cd _ _ _ hsz']
  split
  .grind
  simp_all[j3]
 .intro k row hrow j x hx;simp only [j3,fE] at hrow;obtain⟨r0,h0,e⟩:=zu.1 hrow;have hlen:=h5 r0 (gM h0);rw [Cd _ _ _ hsz'];by_cases hik:i=k
  .subst hik;simp only [if_true] at e;subst e;rw [MJ qA] at hx;by_cases hin:off<=j/\j<off+vals.length
   .rw [if_pos hin] at hx;rw [if_pos qA];have hlt:j - off<nv.length:=qA;have e:i * z+j - (i * z+off)=j - off:=qA;rw [e,bT,gE hlt];exact (hr (j - off) _ x (gE hlt) hx).same (λ_ h=>h) (keepC _) (λ_=>⟨rfl,rfl⟩)
   .rw [if_neg hin] at hx;rw [if_neg qA];have:=(h7 i r0 h0 j x hx).same (g':=g) (w':=w.setRow b (cur.toList.take (i * z+off)++nv++cur.toList.drop (i * z+off+nv.length)).toArray) (λ_ h=>h) (keepC _) (λ_=>⟨rfl,rfl⟩)
    simp_all
  .simp only [hik,if_false] at e;subst e;have hj:j<z:=qw
   have hne:¬ (i * z+off<=k * z+j/\k * z+j<i * z+off+nv.length):=by
    intro⟨y1,y2⟩;rcases Nat.lt_or_gt_of_ne hik with hlt|hgt
    .have:(i+1) * z<=k * z:=aS _ hlt
     grind
    .have:(k+1) * z<=i * z:=aS _ hgt
     grind
   rw [if_neg hne];have:=(h7 k r0 h0 j x hx).same (g':=g) (w':=w.setRow b (cur.toList.take (i * z+off)++nv++cur.toList.drop (i * z+off+nv.length)).toArray) (λ_ h=>h) (keepC _) (λ_=>⟨rfl,rfl⟩)
   simp_all
theorem Ya {T:TypeId} {b o:Nat} {v:Value} {cur:Array Value} {E:TypeId} (hb:w.heap[b]?=some (.cells cur E (0,0))) (hT:(P.info? T).isSome) (hl:v.cells.size=qf P T) (hle:o+v.cells.toList.length<=cur.size)
  (hone:∀ u∈v.cells.toList,u.oneCell'=true):(Instr.storeAt T (.pointer (some ⟨b,o,none⟩)) v).run P w=.ok () (w.setRow b (cur.toList.take o++v.cells.toList++cur.toList.drop (o+v.cells.toList.length)).toArray):=by
 have h2:=run_storeCells_at P b o E v.cells.toList 0 cur w hb qA hone
 simp_all[Instr.storeAt,Instr.sureAddr,storeVar,lh]
def pl:AV->Option (Nm×Nat×Nat)
 | .pt n off=>some (n,0,off)
 | .ep n _ i off=>some (n,i,off)
 | _=>none
def iN (st:St):AV->Option (Nat×List (List AV))
 | .pt n _=>match st.hp n with|some (.row z rows)=>some (z,rows)|_=>none
 | .ep n z _ _=>match st.hp n with|some (.row z' rows)=>if z'=z then some (z,rows) else none|_=>none
 | _=>none
def wE (P:Program) (T:TypeId) (n:Nm) (i off:Nat) (v0:List AV) (st:St):St:=St.dP (vG (λj=>.c n i (off+j)) (z8 P T) 0 v0) st
def iR (P:Program) (T:TypeId) (n:Nm) (i off:Nat) (v1:List AV):List AV:=yu (λj=>.c n i (off+j)) (z8 P T) 0 v1
def ll (n:Nm) (z i off:Nat) (rows:List (List AV)) (vals:List AV) (st:St):St:=canon (kK (λj=>.c n i (off+j)) 0 vals) (st.zT n (.row z (j3 rows i off vals)))
theorem SX {v0 v1:List AV} (h:v1.map jV=v0.map jV) {j:Nat} {x:AV} (hx:v1[j]?=some x) (hn:jV x=true):∃ y,v0[j]?=some y/\jV y=true:=by
 have:(v1.map jV)[j]?=some true:=qw
 simp_all
theorem ο {o:Oper} {T:TypeId} {p x:Operand} {n:Nm} {z i off:Nat} {v0 v1:List AV} {rows:List (List AV)} (h:Rg P own C w0 g st a w) (ho:o.op=.store T p x) (hd:o.dst=none) (hT:(P.info? T).isSome)
  (hv0:(ev st x).cells=some v0) (hlen:v0.length=qf P T) (hp0:pl (ev st p)=some (n,i,off)) (hp1:pl (ev (wE P T n i off v0 st) p)=some (n,i,off)) (hv1:(ev (wE P T n i off v0 st) x).cells=some v1)
  (hsame:v1.map jV=v0.map jV) (hrows:iN (wE P T n i off v0 st) (ev (wE P T n i off v0 st) p)=some (z,rows)) (hi:i<rows.length) (hoff:off+v1.length<=z) :
  aQ P o a w λa' w'=>kA P own C w0 g (ll n z i off rows (iR P T n i off v1) (wE P T n i off v0 st)) a' w':=by
 have hsz:(a.eval x).cells.size=qf P T:=by
  have:=((h.ev x).cells hv0).1
  simp_all
 obtain⟨g1,h1,hfree,_,hu1⟩:=h.dP (vG (λj=>.c n i (off+j)) (z8 P T) 0 v0) (λp hp=>by obtain⟨i,e⟩:=AH _ _ _ _ p hp;rw [e];rfl);obtain⟨l1,o1,r1⟩:=(h1.ev x).cells hv1;have hpv:=h1.ev p
 have place:∃ b,a.eval p=.pointer (some ⟨b,i * z+off,none⟩)/\g1.φ n=some b/\(wE P T n i off v0 st).hp n=some (.row z rows):=by
  change RV g1 w (a.eval p) (ev (wE P T n i off v0 st) p) at hpv
  generalize ev (wE P T n i off v0 st) p=y at hpv hp1 hrows;generalize a.eval p=vp at hpv
  cases y with
  | pt m q =>
   simp only [pl,te,rF] at hp1;obtain⟨rfl,rfl,rfl⟩:=hp1;simp only [iN] at hrows
   split at hrows
   .rename_i z' rows' e;obtain⟨rfl,rfl⟩:=fC (sI hrows)
    cases hpv<;>grind
   simp_all
  | ep m z0 k q =>
   simp only [pl,te,rF] at hp1;obtain⟨rfl,rfl,rfl⟩:=hp1;simp only [iN] at hrows
   split at hrows
   .rename_i z' rows' e
    split at hrows
    .rename_i hz;subst hz;obtain⟨rfl,rfl⟩:=fC (sI hrows)
     cases hpv<;>grind
    simp_all
   simp_all
  | _=>simp [pl] at hp1
 obtain⟨b,ep,hk,hobj⟩:=place;have hvl:(iR P T n i off v1).length=v1.length:=HJ _ _ _ _
 obtain⟨cur,U,q1,q2,q3⟩:=h1.qB1 (n:=n) (z:=z) (i:=i) (off:=off) (b:=b) (rows:=rows) (nv:=(a.eval x).cells.toList) (vals:=iR P T n i off v1) hobj hk hi qA qA o1 (by
  intro j v y hv hy;simp only [iR] at hy;rw [HI] at hy;obtain⟨y0,hy0,rfl⟩:=zu.1 hy;refine (r1 j v y0 hv hy0).zc λhnil=>?_;obtain⟨y1,hy1,hy1'⟩:=SX hsame hy0 hnil;exact hfree _ (UF (λj=>.c n i (off+j)) (z8 P T) v0 0 j y1 hy1 hy1'))
 refine .inr ⟨w.setRow b (cur.toList.take (i * z+off)++(a.eval x).cells.toList++cur.toList.drop (i * z+off+(a.eval x).cells.toList.length)).toArray,?_,?_⟩
 .grind[Ya,execOp,Sem.run_bind,Result.andThen_ok,Sem.run_pure]
 .rw [hd];obtain⟨g2,hu2,h2⟩:=q3.canon _ (AQ (λj=>.c n i (off+j)) (λ_=>rfl) (iR P T n i off v1) 0);exact⟨g2,hu1.trans hu2,h2⟩
end
def yQ (P:Program) (T:TypeId):Option TypeId :=
 match P.underlying T with
 | some (.slice e)=>match P.info? e with
  | some i=>match i.zero with
   | some z=>if z.cells.size=i.size/\0<i.size/\i.bytes<=32768 then some e else none
   | none=>none
  | none=>none
 | _=>none
theorem Ck {P:Program} {T e:TypeId} (h:yQ P T=some e):∃ i z,P.underlying T=some (.slice e)/\P.info? e=some i/\i.zero=some z/\z.cells.size=i.size/\0<i.size/\i.bytes<=32768/\qf P e=i.size:=by
 unfold yQ at h
 split at h<;>grind[qf]
def bH (st:St) (z:Nat):AV->Option (List (List AV))
 | .sl z' rows=>if z'=z then some rows else none
 | .hs n z' lo len=>match st.hp n with
  | some (.row z'' rows)=>if z'=z/\z''=z/\lo+len<=rows.length then some ((rows.drop lo).take len) else none
  | _=>none
 | .sc (.slice none 0 0)=>some []
 | _=>none
def sq (f:Nat->Nat->Value) (m sz:Nat):List Value:=(List.range (m * sz)).map (λt=>f (t / sz) (t % sz))
theorem Kl (f:Nat->Nat->Value) (m sz:Nat):(sq f m sz).length=m * sz:=by simp [sq]
theorem Tq (f:Nat->Nat->Value) {m sz t:Nat} (h:t<m * sz):(sq f m sz)[t]?=some (f (t / sz) (t % sz)):=by
 simp [sq,h]
theorem Tp (f:Nat->Nat->Value) {m sz i j:Nat} (hi:i<m) (hj:j<sz):(sq f m sz)[i * sz+j]?=some (f i j):=by
 have h:i * sz+j<m * sz:=by
  have:(i+1) * sz<=m * sz:=aS _ hi
  grind
 grind[Tq,Nat.add_mul_div_right,Nat.div_eq_of_lt,Nat.add_mul_mod_self_right,Nat.mod_eq_of_lt]
def mA (g:Gh) (w:World) (v:Value) (z:Nat) (rows:List (List AV)):Prop :=
 (∃ ad c,v=.slice ad 0 c/\rows=[])\/∃ (ad:Addr) (c:Nat) (news:List Value),v=.slice (some ad) rows.length c/\news.length=rows.length * z/\(∀ j u,news[j]?=some u->w.cell? (ad.add j)=some u)/\(∀ u∈news,u.oneCell'=true) /\
   (∀ r∈rows,r.length=z)/\∀ (i:Nat) row,rows[i]?=some row->∀ (j:Nat) x,row[j]?=some x->RV g w (news.getD (i * z+j) undef) x
section
variable {P:Program} {own:Nat->Prop} {C:Nat->Prop} {w0:World} {g:Gh} {st:St} {a:Act} {w:World}
theorem mA.make {z:Nat} {rows:List (List AV)} {b o c n:Nat} (f:Nat->Nat->Value) (hn:rows.length=n) (hu:∀ r∈rows,r.length=z)
  (hcell:∀ i j,i<n->j<z->w.cell? ⟨b,o+i * z+j,none⟩=some (f i j)) (ho:∀ i j,i<n->j<z->(f i j).oneCell'=true)
  (hr:∀ (i:Nat) row,rows[i]?=some row->∀ (j:Nat) x,row[j]?=some x->RV g w (f i j) x):mA g w (.slice (some ⟨b,o,none⟩) n c) z rows:=by
 subst hn
 have dm:∀ t,t<rows.length * z->t / z<rows.length/\t % z<z/\t / z * z+t % z=t:=by
  intro t ht;have hpos:0<z:=Nat.pos_of_ne_zero qw
  simp_all[Nat.div_lt_iff_lt_mul,Nat.mod_lt,oR,Nat.div_add_mod]
 refine .inr ⟨⟨b,o,none⟩,c,sq f rows.length z,rfl,Kl _ _ _,?_,?_,hu,?_⟩<;>grind[Kl,Addr.add_lit,wj,Tp]
theorem Inv.partAt {hp:Nm->Option AO} (h:Inv own C w0 g hp w) {n:Nm} {b z lo len c:Nat} {rows:List (List AV)} (hn:hp n=some (.row z rows)) (hk:g.φ n=some b) (hle:lo+len<=rows.length) :
  mA g w (.slice (some ⟨b,lo * z,none⟩) len c) z ((rows.drop lo).take len):=by
 have ho:=h.obj n _ hn;simp only [j6,hk] at ho;obtain⟨cur,T,h1,h2,h3,h4,h5,h6,h7⟩:=ho
 have bnd:∀ i j,i<len->j<z->(lo+i) * z+j<rows.length * z:=by
  intro i j hi hj;have:(lo+i+1) * z<=rows.length * z:=aS _ qA
  grind
 have hcs:rows.length * z<=cur.size:=by simp_all[aS]
 refine mA.make (λi j=>cur.getD ((lo+i) * z+j) undef) qw (λr hr=>h5 r (List.mem_of_mem_drop (List.mem_of_mem_take hr))) ?_ ?_ ?_
 .simp_all<;>grind[cell_of_row]
 .simp_all
 grind
theorem Rg.src (h:Rg P own C w0 g st a w) {v:Value} {x:AV} {z:Nat} {rows:List (List AV)} (hv:RV g w v x) (hs:bH st z x=some rows):mA g w v z rows:=by
 unfold bH at hs
 split at hs
 .split at hs
  .rename_i hz;subst hz;obtain rfl:=sI hs
   cases hv with
   | yL ad cap=>constructor<;>grind
   | dA b off cap n _ rows f hC hn hcap hu hcell ho hr=>exact mA.make f hn hu hcell ho hr
  .cases hs
 .split at hs
  .rename_i z'' rows' hn
   split at hs
   .rename_i hc;obtain⟨hz1,hz2,hle⟩:=hc;subst hz1;obtain rfl:=sI hs;rw [hz2] at hn
    cases hv with
    | cV=>constructor<;>grind
    | aV _ _ _ _ b cap ad hk h1 h2 h3 =>
     by_cases h0:0<cap
     .rw [h3 h0];exact h.inv.partAt hn hk hle
     grind[bH,mA]
   .cases hs
  .cases hs
 .constructor<;>grind[RV.zy]
 .cases hs
theorem YF {t ty e:TypeId} {i:TypeInfo} (ht:P.underlying t=some (.slice e)) (hi:P.info? e=some i) (b off sLen sCap:Nat) (cur:Array Value) (T:TypeId) (hg:w.heap[b]?=some (.cells cur T (0,0)))
  (ad:Addr) (m c:Nat) (news:List Value) (hl:news.length=m * i.size) (hnews:∀ j u,news[j]?=some u->w.cell? (ad.add j)=some u) (h1:∀ u∈news,u.oneCell'=true)
  (hroom:sLen+m<=sCap) (hfit:off+sLen * i.size+news.length<=cur.size) :
  (Builtin.append_ #[t,t] ty #[.slice (some ⟨b,off,none⟩) sLen sCap,.slice (some ad) m c]).run P w =
    .ok (.slice (some ⟨b,off,none⟩) (sLen+m) sCap) (w.setRow b (cur.toList.take (off+sLen * i.size)++news++cur.toList.drop (off+sLen * i.size+news.length)).toArray):=by
 have hf:=run_firstCells_some (P:=P) w i.size m ad m c news hl hnews;have hst:=run_storeCells_at P b (off+sLen * i.size) T news 0 cur w hg qA h1;simp only [dq] at hst;simp [Builtin.append_,run_underlying ht,sizeOf,typeInfo,hi,Builtin.lenOf,hroom,hf,Addr.add_lit,hst]
theorem C5 {t ty e:TypeId} {i:TypeInfo} (ht:P.underlying t=some (.slice e)) (hi:P.info? e=some i) (base ad:Option Addr) (n cap c:Nat) (hle:n<=cap) :
  (Builtin.append_ #[t,t] ty #[.slice base n cap,.slice ad 0 c]).run P w=.ok (.slice base n cap) w:=by
 cases ad with
 | none=>cases base <;> simp [Builtin.append_,run_underlying ht,sizeOf,typeInfo,hi,Builtin.lenOf,Builtin.firstCells,hle,storeCells]
 | some ad=>cases base <;> simp [Builtin.append_,run_underlying ht,sizeOf,typeInfo,hi,Builtin.lenOf,Builtin.firstCells,hle,storeCells,loadCells,loadCellsFrom]
def St.fL (st:St) (d:Nat) (n:Option Nm):St:=st.nm (kl (.s d)) (λm=>if n=some m then none else jw (.s d) st.hp m)
def wH (d z len:Nat) (n:Option Nm) (rows:List (List AV)) (st:St):St :=
 ((st.fL d n).zT (.s d) (.row z (rows.map (λr=>r.map (AV.tr (kl (.s d))))))).put (some d) (.hs (.s d) z 0 len)
theorem Ov {d:Nat} {n:Option Nm}:st.nm (kl (.s d)) (λm=>if (decide (n=some m)) then none else jw (.s d) st.hp m)=st.fL d n:=by
 simp [St.fL]
theorem Rg.tp (h:Rg P own C w0 g st a w) {d z len b cap:Nat} {n:Option Nm} {rows:List (List AV)} {w':World} {ad:Option Addr} (hn:d<st.n)
  (h1:w'.os=w.os) (h2:w'.tape=w.tape) (h3:w'.output=w.output) (h4:w.heap.size<=w'.heap.size) (hw:∀ b',b'≠b->b'<w.heap.size->w'.heap[b']?=w.heap[b']?)
  (hb:w.heap.size<=b\/∃ m o,n=some m/\st.hp m=some o/\g.φ m=some b) (hlt:b<w'.heap.size) (hcap:len<=cap) (had:0<cap->ad=some ⟨b,0,none⟩)
  (ho:tZ (g.fresh (.s d) (some b) cap) w' b cap z (rows.map (λr=>r.map (AV.tr (kl (.s d)))))) :
  kA P own C w0 g (wH d z len n rows st) (a.put (some d) (.slice ad len cap)) w':=by
 have hm:=h.made (.s d) (.row z (rows.map (λr=>r.map (AV.tr (kl (.s d)))))) b cap w' [] qB (λm=>decide (n=some m)) h1 h2 h3 h4 (by
  simp_all) hlt hw (by grind[j6,kV])
 simp only [St.kL,Ov] at hm;exact⟨_,.fresh rfl,hm.put (d:=some d) (λt e=>EJ) (.aV (.s d) z 0 len b cap ad (kV _ _ _).1 hcap (by grind[kV]) (λh0=>qP))⟩
theorem Rg.DT (h:Rg P own C w0 g st a w) {d z:Nat} {n:Option Nm} (hn:d<st.n):kA P own C w0 g (wH d z 0 n [] st) (a.put (some d) (.slice none 0 0)) w:=by
 obtain⟨g',h1,h2,hu,_⟩:=h.Kw (.s d) z
 have h3:=h1.weaken (wH d z 0 n [] st).hp (λm o e=>by
  simp only [wH,St.put,St.zT,St.fL,St.nm] at e;simp only [St.zT,St.kill,St.nm]
  grind)
 exact⟨g',hu rfl,h3.put (d:=some d) (λt e=>by grind[St.zT,St.nm,St.kill]) h2⟩
theorem GF (h:Rg P own C w0 g st a w) {d z len m b cap:Nat} {T:TypeId} {w':World} {cur':Array Value} {old:Nat->Value} {news:List Value} {rows1 rows2:List (List AV)} (hC':∀ b',C b'->w'.heap[b']?=w.heap[b']?)
  (l1:rows1.length=len) (u1:∀ r∈rows1,r.length=z) (o1:∀ j,j<len * z->(old j).oneCell'=true) (r1:∀ (i:Nat) row,rows1[i]?=some row->∀ (j:Nat) x,row[j]?=some x->RV g w (old (i * z+j)) x)
  (l2:rows2.length=m) (u2:∀ r∈rows2,r.length=z) (ln:news.length=m * z) (o2:∀ u∈news,u.oneCell'=true) (r2:∀ (i:Nat) row,rows2[i]?=some row->∀ (j:Nat) x,row[j]?=some x->RV g w (news.getD (i * z+j) undef) x)
  (hheap:w'.heap[b]?=some (.cells cur' T (0,0))) (hsz:cur'.size=cap * z) (hmax:cap<=maxLen) (hle:len+m<=cap)
  (g1:∀ j,j<len * z->cur'.getD j undef=old j) (g2:∀ j,j<m * z->cur'.getD (len * z+j) undef=news.getD j undef) :
  tZ (g.fresh (.s d) (some b) cap) w' b cap z ((rows1++rows2).map (λr=>r.map (AV.tr (kl (.s d))))):=by
 refine⟨cur',T,hheap,hsz,hmax,qu,?_,?_,?_⟩
 .grind
 .intro j hj;simp only [List.length_map,ua,l1,l2,mD] at hj;by_cases hlt:j<len * z
  .simp_all
  .have:j=len * z+(j - len * z):=qA;rw [this,g2 _ qA]
   grind
 .intro i row hrow j x hx;rw [jZ] at hrow;obtain⟨r0,h0,rfl⟩:=zu.1 hrow;rw [jZ] at hx;obtain⟨x0,hx0,rfl⟩:=zu.1 hx;rw [oS] at h0;by_cases hlt:i<rows1.length
  .rw [if_pos hlt] at h0;have hj:j<z:=qw;have h5:(i+1) * z<=len * z:=aS _ qA;rw [mD,rE] at h5;rw [g1 _ qA];exact h.C9 hC' (r1 i r0 h0 j x0 hx0)
  .rw [if_neg hlt] at h0;have hj:j<z:=qw;have hi:i - rows1.length<m:=qw;have h5:(i - rows1.length+1) * z<=m * z:=aS _ hi;rw [mD,rE] at h5
   have e:i * z+j=len * z+((i - rows1.length) * z+j):=by
    rw [Nat.sub_mul,l1];have:len * z<=i * z:=aS _ qA;omega
   rw [e,g2 _ qA];exact h.C9 hC' (r2 _ r0 h0 j x0 hx0)
theorem Ot {T ty E:TypeId} {z len:Nat} {n:Nm} {d:Nat} {v v2:Value} {rows0 rows2:List (List AV)} (h:Rg P own C w0 g st a w) (hd:d<st.n) (hT:yQ P T=some E) (hz:qf P E=z)
  (hv:RV g w v (.hs n z 0 len)) (hn:st.hp n=some (.row z rows0)) (hle:len<=rows0.length) (hlen:len+rows2.length<=4294967296) (hs:mA g w v2 z rows2) :
  ∃ v' w',(Builtin.append_ #[T,T] ty #[v,v2]).run P w=.ok v' w'/\kA P own C w0 g (wH d z (len+rows2.length) (some n) (rows0.take len++rows2) st) (a.put (some d) v') w':=by
 obtain⟨i,zv,t1,t2,t3,t4,t5,t6,t7⟩:=Ck hT;have hiz:i.size=z:=t7.symm.trans hz
 have hbytes:(len+rows2.length) * i.bytes<=140737488355328:=by
  have:=Nat.mul_le_mul hlen t6;omega
 have ho:=h.inv.obj n _ hn
 cases hv with
 | cV _ _ hk =>
  simp only [j6,hk] at ho;subst ho;rcases hs with⟨ad,c,rfl,rfl⟩|⟨ad,c,news,rfl,e2,e3,e4,e5,e6⟩
  .exact⟨.slice none 0 0,w,C5 t1 t2 none ad 0 0 c (qa _),h.DT hd⟩
  .by_cases hm:rows2.length=0
   .obtain rfl:=ai hm;exact⟨.slice none 0 0,w,C5 t1 t2 none (some ad) 0 0 c (qa _),h.DT hd⟩
   .obtain⟨v',w',hrun,r1,r2,_,r4⟩:=run_append_own_at (P:=P) w 0 T ty E i zv z i.bytes t1 t2 t3 hiz rfl (t4.trans hiz) qA (.slice none 0 0) 0 [] ⟨qB,.inl ⟨rfl,rfl⟩⟩ ad rows2.length c news e2 e3 e4 rf hbytes (Nat.zero_le _);rcases r1.2 with⟨_,h0⟩|⟨b,cap,cur,rfl,_,q1,q2,q3,q4,q5⟩
    .omega
    .have hb:b=w.heap.size:=by
      grind[Value.ownBlock]
     subst hb;have hC':∀ b',C b'->w'.heap[b']?=w.heap[b']?:=λb' hC=>r2.block b' (h.inv.uU b' hC) B0;refine⟨_,w',hrun,h.tp (b:=w.heap.size) hd r2.os r2.tape r2.output r2.size (λb' _ hb'=>r2.block b' hb' B0) (.inl (qa _)) (mE.1 q1).1 q2 (λ_=>rfl) ?_⟩
     have:=GF h (d:=d) (z:=z) (len:=0) (m:=rows2.length) (old:=λ_=>undef) (news:=news) (rows1:=[]) (rows2:=rows2) hC' qB qB qB qB rfl e5 e2 e4 e6 q1 q4 q3 q2 qB (λj hj=>by
      simp_all<;>grind)
     simp_all
 | aV _ _ _ _ b cap ad0 hk g1 g2 g3 =>
  rw [fF] at g2;have hblk:=h.inv.qG n _ b hn hk;simp only [j6,hk,<- g2] at ho;obtain⟨cur,U,c1,c2,c3,c4,c5,c6,c7⟩:=ho;have hrl:len * z<=rows0.length * z:=aS _ hle;have hrc:rows0.length * z<=cap * z:=aS _ c4
  have base:∀ (w':World) (m b' cap':Nat) (cur':Array Value) (U':TypeId) (news:List Value) (rows2:List (List AV)),(∀ b',C b'->w'.heap[b']?=w.heap[b']?)->rows2.length=m->(∀ r∈rows2,r.length=z)->news.length=m * z->(∀ u∈news,u.oneCell'=true) ->
    (∀ (i:Nat) row,rows2[i]?=some row->∀ (j:Nat) x,row[j]?=some x->RV g w (news.getD (i * z+j) undef) x)->w'.heap[b']?=some (.cells cur' U' (0,0))->cur'.size=cap' * z->cap'<=maxLen->len+m<=cap' ->
    (∀ j,j<len * z->cur'.getD j undef=cur.getD j undef)->(∀ j,j<m * z->cur'.getD (len * z+j) undef=news.getD j undef) ->
    tZ (g.fresh (.s d) (some b') cap') w' b' cap' z ((rows0.take len++rows2).map (λr=>r.map (AV.tr (kl (.s d))))):=by
   intro w' m b' cap' cur' U' news rows2 hC' x1 x2 x3 x4 x5 x6 x7 x8 x9 x10 x11;refine GF h (m:=m) (old:=λj=>cur.getD j undef) (news:=news) hC' qP (λr hr=>c5 r (List.mem_of_mem_take hr)) (λj hj=>c6 j qA) (λi row hrow j x hx=>?_) x1 x2 x3 x4 x5 x6 x7 x8 x9 x10 x11
   grind
  have nothing:∀ ad c,v2=.slice ad 0 c->rows2=[]->∃ v' w',(Builtin.append_ #[T,T] ty #[.slice ad0 len cap,v2]).run P w=.ok v' w'/\kA P own C w0 g (wH d z (len+rows2.length) (some n) (rows0.take len++rows2) st) (a.put (some d) v') w':=by
   rintro ad c rfl rfl;refine⟨_,w,C5 t1 t2 ad0 ad len cap c g1,?_⟩;exact h.tp (b:=b) hd rfl rfl rfl (qa _) (λ_ _ _=>rfl) (.inr ⟨n,_,rfl,hn,hk⟩) hblk.2.2 qA (λh0=>qw) (base w 0 b cap cur U [] [] (λ_ _=>rfl) rfl qB qB qB qB c1 c2 c3 qA (λ_ _=>rfl) qB)
  rcases hs with⟨ad,c,e,e'⟩|⟨ad,c,news,e1,e2,e3,e4,e5,e6⟩
  .grind
  .by_cases hm:rows2.length=0
   .exact nothing (some ad) c (by rw [e1,hm]) (ai hm)
   .subst e1;by_cases hroom:len+rows2.length<=cap
    .have h0:0<cap:=qA;rw [g3 h0];have hbound:(len+rows2.length) * z<=cap * z:=aS _ hroom;rw [mD] at hbound;have hrun:=YF (P:=P) (ty:=ty) t1 t2 b (0 * z) len cap cur U c1 ad rows2.length c news qw e3 e4 hroom qw;rw [hiz] at hrun;simp only [Nat.zero_mul,fF] at hrun ⊢;refine⟨_,_,hrun,?_⟩;have hsz':len * z+news.length<=cur.toList.length:=qu;have hC':∀ b',C b'->(w.setRow b (cur.toList.take (len * z)++news++cur.toList.drop (len * z+news.length)).toArray).heap[b']?=w.heap[b']?:=λb' hC=>setRow_other w _ b' _ (λe=>hblk.1 (e ▸ hC));refine h.tp (b:=b) hd rfl rfl rfl qB (λb' hne _=>setRow_other w _ b' _ hne) (.inr ⟨n,_,rfl,hn,hk⟩) (by simpa using hblk.2.2) hroom (λ_=>rfl) ?_;refine base _ rows2.length b cap _ U news rows2 hC' rfl e5 e2 e4 e6 (setRow_heap w _ _ _ U _ c1) ?_ c3 hroom (λj hj=>?_) (λj hj=>?_)
     .simp only [List.size_toArray,ua,im,List.length_drop,Array.length_toList];omega
     .rw [Cd _ _ _ hsz',if_neg qA];simp
     .rw [Cd _ _ _ hsz',if_pos qA];simp
    .have hcells:∀ j u,(cur.toList.take (len * z))[j]?=some u->w.cell? ⟨b,0 * z+j,none⟩=some u:=by
      grind[cell_of_row]
     have hol:(cur.toList.take (len * z)).length=len * z:=qw
     have grow:∃ v' w',(Builtin.append_ #[T,T] ty #[.slice ad0 len cap,.slice (some ad) rows2.length c]).run P w=.ok v' w'/\w'.ownsRow w.heap.size E z v' (len+rows2.length) (cur.toList.take (len * z)++news)/\w.grownBy w' none:=by
      cases ad0 with
      | some b0 =>
       refine run_append_arg_grows (P:=P) w T ty E i zv z i.bytes t1 t2 t3 hiz rfl (t4.trans hiz) qA b0 len cap (cur.toList.take (len * z)) hol (λj u hj=>?_) ad rows2.length c news e2 e3 qA rf hbytes
       grind[Addr.add_lit]
      | none =>
       have h0:cap=0:=by
        grind
       subst h0;have hl0:len=0:=qA;subst hl0;obtain⟨v',w',hrun,r1,r2,_,r4⟩:=run_append_own_at (P:=P) w w.heap.size T ty E i zv z i.bytes t1 t2 t3 hiz rfl (t4.trans hiz) qA (.slice none 0 0) 0 [] ⟨qB,.inl ⟨rfl,rfl⟩⟩ ad rows2.length c news e2 e3 e4 rf hbytes (qa _);exact⟨v',w',hrun,qw,r2⟩
     obtain⟨v',w',hrun,r1,r2⟩:=grow;rcases r1.2 with⟨_,h0⟩|⟨b',cap',cur',rfl,q0,q1,q2,q3,q4,q5⟩
     .omega
     .have hC':∀ b',C b'->w'.heap[b']?=w.heap[b']?:=λb' hC=>r2.block b' (h.inv.uU b' hC) qB;refine⟨_,w',hrun,h.tp (b:=b') hd r2.os r2.tape r2.output r2.size (λx _ hx=>r2.block x hx qB) (.inl q0) (mE.1 q1).1 q2 (λ_=>rfl) ?_⟩
      have get:∀ j,j<(len+rows2.length) * z->cur'.getD j undef=(cur.toList.take (len * z)++news).getD j undef:=by
       intro j hj;rw [<- q5,bT,tg,if_pos hj,ak,mF]
      rw [mD] at get;refine base w' rows2.length b' cap' cur' E news rows2 hC' rfl e5 e2 e4 e6 q1 q4 q3 q2 (λj hj=>?_) (λj hj=>?_)
      .rw [get j qA,bT,oS,if_pos qA,tg,if_pos hj,ak,mF]
      .rw [get _ qA,bT,oS,if_neg qA,hol,Nat.add_sub_cancel_left,<- bT]
theorem MP {o:Oper} {T:TypeId} {s x:Operand} (ho:o.op=.call { callee:=.builtin .append,args:=#[s,x],argTypes:=#[T,T] }) {v':Value} {w':World} (e:(Builtin.append_ #[T,T] o.type #[a.eval s,a.eval x]).run P w=.ok v' w') :
  (execOp a.eval o).run P w=.ok (.value v') w':=by
 simp_all[execOp,resolve,invoke,builtin]
theorem Ou {o:Oper} {T E:TypeId} {s x:Operand} {d z len:Nat} {n:Nm} {rows0 rows2:List (List AV)} (h:Rg P own C w0 g st a w) (ho:o.op=.call { callee:=.builtin .append,args:=#[s,x],argTypes:=#[T,T] }) (hd:o.dst=some d) (hdn:d<st.n)
  (hT:yQ P T=some E) (hz:qf P E=z) (hs:ev st s=.hs n z 0 len) (hn:st.hp n=some (.row z rows0)) (hle:len<=rows0.length) (hx:bH st z (ev st x)=some rows2) (hlen:len+rows2.length<=4294967296) :
  aQ P o a w λa' w'=>kA P own C w0 g (wH d z (len+rows2.length) (some n) (rows0.take len++rows2) st) a' w':=by
 have hv:=h.ev s;rw [hs] at hv;obtain⟨v',w',e1,e2⟩:=Ot (ty:=o.type) h hdn hT hz hv hn hle hlen (h.src (h.ev x) hx);constructor<;>grind[MP]
theorem Oq {o:Oper} {T E:TypeId} {s x:Operand} {d z:Nat} {rows2:List (List AV)} (h:Rg P own C w0 g st a w) (ho:o.op=.call { callee:=.builtin .append,args:=#[s,x],argTypes:=#[T,T] }) (hd:o.dst=some d) (hdn:d<st.n)
  (hT:yQ P T=some E) (hz:qf P E=z) (hs:ev st s=.sc (.slice none 0 0)) (hx:bH st z (ev st x)=some rows2) (hlen:rows2.length<=4294967296) :
  aQ P o a w λa' w'=>kA P own C w0 g (wH d z rows2.length none rows2 st) a' w':=by
 have hv:=h.ev s;rw [hs] at hv;have hsrc:=h.src (h.ev x) hx
 -- the nil slice,at a name of its own
 obtain⟨i,zv,t1,t2,t3,t4,t5,t6,t7⟩:=Ck hT;have hiz:i.size=z:=t7.symm.trans hz
 have hbytes:rows2.length * i.bytes<=140737488355328:=by
  have:=Nat.mul_le_mul hlen t6;omega
 have key:∃ v' w',(Builtin.append_ #[T,T] o.type #[.slice none 0 0,a.eval x]).run P w=.ok v' w'/\kA P own C w0 g (wH d z rows2.length none rows2 st) (a.put (some d) v') w':=by
  have nothing:∀ ad c,a.eval x=.slice ad 0 c->rows2=[]->∃ v' w',(Builtin.append_ #[T,T] o.type #[.slice none 0 0,a.eval x]).run P w=.ok v' w'/\kA P own C w0 g (wH d z rows2.length none rows2 st) (a.put (some d) v') w':=by
   rintro ad c e rfl;rw [e];exact⟨.slice none 0 0,w,C5 t1 t2 none ad 0 0 c (qa _),h.DT hdn⟩
  rcases hsrc with⟨ad,c,e,e'⟩|⟨ad,c,news,e1,e2,e3,e4,e5,e6⟩
  .simp_all
  .by_cases hm:rows2.length=0
   .simp_all
   .rw [e1];obtain⟨v',w',hrun,r1,r2,_,r4⟩:=run_append_own_at (P:=P) w 0 T o.type E i zv z i.bytes t1 t2 t3 hiz rfl (t4.trans hiz) qA (.slice none 0 0) 0 [] ⟨qB,.inl ⟨rfl,rfl⟩⟩ ad rows2.length c news e2 e3 e4 rf qP (Nat.zero_le _);rcases r1.2 with⟨_,h0⟩|⟨b,cap,cur,rfl,_,q1,q2,q3,q4,q5⟩
    .omega
    .have hb:b=w.heap.size:=by
      grind[Value.ownBlock]
     subst hb;have hC':∀ b',C b'->w'.heap[b']?=w.heap[b']?:=λb' hC=>r2.block b' (h.inv.uU b' hC) B0;rw [fF] at hrun q2;refine⟨_,w',hrun,h.tp (b:=w.heap.size) hdn r2.os r2.tape r2.output r2.size (λb' _ hb'=>r2.block b' hb' B0) (.inl (qa _)) (mE.1 q1).1 q2 (λ_=>rfl) ?_⟩
     have:=GF h (d:=d) (z:=z) (len:=0) (m:=rows2.length) (old:=λ_=>undef) (news:=news) (rows1:=[]) (rows2:=rows2) hC' qB qB qB qB rfl e5 e2 e4 e6 q1 q4 q3 qA qB (λj hj=>by
      simp_all<;>grind)
     simp_all
 constructor<;>grind[MP,RV.zy]
end
end Go.Hm
end
