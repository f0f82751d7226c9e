import Derived.Test.YtjgpejikjhojcaaGreatDoorR03
set_option linter.unusedSimpArgs false
set_option linter.unusedVariables false
set_option maxRecDepth 100000
set_option maxHeartbeats 4000000

section
namespace Go.Hm
open Go Go.RowKit
def dZ (P:Program) (E:TypeId) (d:Nat):Nat->List (List AV)->List (List AV)
 | _,[]=>[]
 | i,r::l=>yu (λj=>.c (.s d) i j) (z8 P E) 0 r::dZ P E d (i+1) l
def iE (P:Program) (E:TypeId) (d:Nat):Nat->List (List AV)->List (Nm×Nat)
 | _,[]=>[]
 | i,r::l=>vG (λj=>.c (.s d) i j) (z8 P E) 0 r++iE P E d (i+1) l
def iJ (key:Nat->Nat->Nm):Nat->List (List AV)->List (Nm×Nm)
 | _,[]=>[]
 | i,r::l=>kK (key i) 0 r++iJ key (i+1) l
theorem LR {P:Program} {E:TypeId} {d:Nat}:∀ (l:List (List AV)) (i:Nat),(dZ P E d i l).length=l.length
 := by intro x0;induction x0<;>grind[dZ]
theorem LQ {P:Program} {E:TypeId} {d:Nat}:∀ (l:List (List AV)) (i k:Nat),(dZ P E d i l)[k]?=(l[k]?).map (λr=>yu (λj=>.c (.s d) (i+k) j) (z8 P E) 0 r)
 := by intro x0;induction x0<;>grind[dZ]
theorem Ks {P:Program} {E:TypeId} {d:Nat}:∀ (l:List (List AV)) (i:Nat) p,p∈iE P E d i l->∃ i j,p.1=.c (.s d) i j
 | [],_,_,h=>by grind[iE]
 | r::l,i,p,h=>by
  simp only [iE] at h;rcases y9.1 h with h|h
  .grind[AH]
  .exact Ks l (i+1) p h
theorem L9 {d:Nat}:∀ (l:List (List AV)) (i:Nat),iI (iJ (λi j=>.c (.s d) i j) i l)
 | [],_=>by simp [iJ,iI]
 | r::l,i=>by
  intro p hp;simp only [iJ] at hp;rcases y9.1 hp with hp|hp
  .exact AQ (λj=>.c (.s d) i j) (λ_=>rfl) r 0 p hp
  .exact L9 l (i+1) p hp
section
variable {P:Program} {own:Nat->Prop} {C:Nat->Prop} {w0:World} {g:Gh} {st:St} {a:Act} {w:World}
def AE (d z l:Nat) (zv:List AV) (st:St):St:=((st.kill (.s d)).zT (.s d) (.row z (List.replicate l zv))).put (some d) (.hs (.s d) z 0 l)
theorem Tk (z:Array Value) (n t:Nat) (h:t<n):(madeCells z n).getD t undef=z[t % z.size]!:=by
 simp_all[madeCells]
theorem Tr {o:Oper} {T E:TypeId} {x y:Operand} {d l z:Nat} {k k':IntKind} {zv:List AV} (h:Rg P own C w0 g st a w) (ho:o.op=.makeSlice T x y) (hd:o.dst=some d) (hn:d<st.n)
  (hx:ev st x=.sc (.int k l)) (hy:ev st y=.sc (.int k' l)) (hE:yQ P T=some E) (hz:qf P E=z) (hzv:jx P E=some zv) (hl:l<=4294967296):aQ P o a w λa' w'=>kA P own C w0 g (AE d z l zv st) a' w':=by
 obtain⟨i,zz,t1,t2,t3,t4,t5,t6,t7⟩:=Ck hE;obtain⟨i',z',q1,q2,q3,rfl,q4⟩:=HK hzv;rw [t2] at q1;obtain rfl:=sI q1;rw [t3] at q2;obtain rfl:=sI q2;have hiz:i.size=z:=t7.symm.trans hz;have e1:a.eval x=.int k l:=(hx ▸ h.ev x).zy;have e2:a.eval y=.int k' l:=(hy ▸ h.ev y).zy
 have hb:(i.bytes:Int) * l<=281474976710656:=by
  have:=Nat.mul_le_mul t6 hl;omega
 have hrun:=run_make (P:=P) (w:=w) T E i zz t1 t2 t3 k k' l l qA qA hb qA;refine .inl ⟨.slice (some ⟨w.heap.size,0,none⟩) l l,w.alloc (.cells (madeCells zz.cells (l * i.size)) E),?_,?_⟩
 .simp_all[execOp]
 .rw [hd];have hcur:∀ t,t<l * i.size->(madeCells zz.cells (l * i.size)).getD t undef=zz.cells[t % zz.cells.size]!:=λt ht=>Tk _ _ _ ht
  have hm:=h.made (.s d) (.row z (List.replicate l (zz.cells.toList.map .sc))) w.heap.size l (w.alloc (.cells (madeCells zz.cells (l * i.size)) E)) [] qB (λ_=>false) rfl rfl rfl qB (.inl (qa _)) qB (λb' _ hb'=>gY _ hb') (by
   simp only [j6,(kV (g:=g) (.s d) (some w.heap.size) l).1,(kV (g:=g) (.s d) (some w.heap.size) l).2];refine⟨_,E,heap_alloc_new w _,by grind[madeCells],rf,qB,?_,?_,?_⟩
   .simp_all
   .grind[Nat.mod_lt]
   .intro i' row hrow j x hx
    have hi':i'<l:=by
     grind
    rw [List.getElem?_replicate,if_pos hi'] at hrow;obtain rfl:=sI hrow;rw [jZ] at hx;obtain⟨v,hv,rfl⟩:=zu.1 hx
    have hj:j<zz.cells.size:=by
     grind
    have h5:(i'+1) * i.size<=l * i.size:=aS _ hi';rw [mD,rE] at h5;rw [<- hiz,hcur _ qA,t4,Nat.add_comm,Nat.add_mul_mod_self_right,Nat.mod_eq_of_lt qA,getElem!_pos zz.cells _ hj]
    have:v=zz.cells[j]:=by
     grind
    rw [<- this];exact RV.sc v)
  have e:(st.nm (kl (.s d)) (λm=>if (λ_=>false:Nm->Bool) m then none else jw (.s d) st.hp m))=st.kill (.s d):=sB;rw [e] at hm;exact⟨_,.fresh rfl,hm.put (d:=some d) (λt e=>EJ) (.aV _ _ _ _ w.heap.size l _ (kV _ _ _).1 (qa _) (by grind[kV]) (λ_=>qB))⟩
def iO (st:St):List (Nat×Operand)->Option (List (List AV))
 | []=>some []
 | p::l=>((ev st p.2).cells).bind λr=>(iO st l).map (r::·)
def iu (P:Program) (E:TypeId) (d z:Nat) (rows:List (List AV)) (st:St):St :=
 let r1:=rows.map (λr=>r.map (AV.tr (kl (.s d))))
 let r2:=dZ P E d 0 r1
 canon (iJ (λi j=>.c (.s d) i j) 0 r2) (((St.kL (iE P E d 0 r1) (st.kill (.s d))).zT (.s d) (.row z r2)).put (some d) (.hs (.s d) z 0 rows.length))
theorem Xx:∀ {parts:List (Nat×Operand)} {rows:List (List AV)},iO st parts=some rows->rows.length=parts.length/\∀ (i:Nat) p,parts[i]?=some p->∃ r,rows[i]?=some r/\(ev st p.2).cells=some r
 := by intro x0;induction x0<;>grind[iO,fD,zu]
theorem Qn (size:Nat):∀ (vs:List Value) (k:Nat) (pre rest:List Value),(∀ v∈vs,v.cells.size=size)->pre.length=k * size->vs.length * size<=rest.length ->
  Instr.fill (λi=>some (i * size,size)) (pre++rest).toArray ((vs.zipIdx k).map (λp=>(p.2,p.1)))=some (pre++(vs.map (λv=>v.cells.toList)).flatten++rest.drop (vs.length * size)).toArray:=by
 intro vs
 induction vs with
 | nil=>simp_all[Instr.fill]
 | cons v vs ih =>
  intro k pre rest hv hpre hle;simp only [fG,mD,rE] at hle;have hvs:=hv v qB;simp only [List.zipIdx_cons,al,Instr.fill];rw [if_neg qu]
  have hf:(v.cells.zipIdx.foldl (λcs (x:Value×Nat)=>cs.setIfInBounds (k * size+x.2) x.1) (pre++rest).toArray)=((pre++v.cells.toList)++rest.drop size).toArray:=by
   have:=JY (k * size) v.cells.toList 0 (pre++rest).toArray qu;simp only [dq] at this;rw [<- hpre,List.take_left' rfl,show v.cells.toList.length=size from by simp [hvs],th,List.drop_of_length_le qA,rG,show pre.length+size - pre.length=size from qA] at this;rw [<- hpre,<- this,<- Array.foldl_toList];simp
  have hf':(v.cells.zipIdx.foldl (λcs x=>match x with|(c,j)=>cs.setIfInBounds (k * size+j) c) (pre++rest).toArray)=((pre++v.cells.toList)++rest.drop size).toArray:=hf;rw [hf',ih (k+1) _ _ (λu hu=>hv u xB) qw qw]
  simp_all<;>grind
theorem PU {o:Oper} {T E:TypeId} {d len z:Nat} {parts:Array (Nat×Operand)} {rows:List (List AV)} (h:Rg P own C w0 g st a w) (ho:o.op=.buildSlice T len parts) (hd:o.dst=some d) (hn:d<st.n)
  (hE:yQ P T=some E) (hz:qf P E=z) (hrows:iO st parts.toList=some rows) (c1:parts.toList.map (·.1)=List.range len) (c2:len * z<=16777216) (c3:rows.all (λr=>r.length==z)=true) :
  aQ P o a w λa' w'=>kA P own C w0 g (iu P E d z rows st) a' w':=by
 obtain⟨i,zz,t1,t2,t3,t4,t5,t6,t7⟩:=Ck hE;have hiz:i.size=z:=t7.symm.trans hz;obtain⟨r1,r2⟩:=Xx hrows;have hu:∀ r∈rows,r.length=z:=λr hr=>qP;have hlen:parts.toList.length=len:=by have:=congrArg List.length c1;grind
 let vs:=parts.toList.map (λp=>a.eval p.2)
 have hvl:vs.length=len:=qw
 have each:∀ (k:Nat) v,vs[k]?=some v->∃ r,rows[k]?=some r/\v.cells.toList.length=r.length/\(∀ u∈v.cells.toList,u.oneCell'=true)/\∀ (j:Nat) u x,v.cells.toList[j]?=some u->r[j]?=some x->RV g w u x:=by
  intro k v hv;rw [jZ] at hv;obtain⟨p,hp,rfl⟩:=zu.1 hv;obtain⟨r,e1,e2⟩:=r2 k p hp;exact⟨r,e1,(h.ev p.2).cells e2⟩
 have hsz:∀ v∈vs,v.cells.size=i.size:=by
  grind[wj]
 have hparts:(parts.map (λp=>(p.1,a.eval p.2))).toList=(vs.zipIdx 0).map (λp=>(p.2,p.1)):=by
  apply y6;intro k;simp only [Array.toList_map,jZ,List.getElem?_zipIdx,vs]
  cases hk:parts.toList[k]? with
  | none=>simp
  | some p =>
   have:=congrArg (λl:List Nat=>l[k]?) c1
   grind
 let cur:List Value:=(vs.map (λv=>v.cells.toList)).flatten
 have hfill:=Qn i.size vs 0 [] ((Array.range (len * i.size)).map (λt=>zz.cells[t % zz.cells.size]!)).toList hsz qB (by simp [hvl])
 have hfill':Instr.fill (λk=>some (k * i.size,i.size)) ((Array.range (len * i.size)).map (λt=>zz.cells[t % zz.cells.size]!)) (parts.map (λp=>(p.1,a.eval p.2))).toList=some cur.toArray:=by
  grind[Array.range,List.drop_of_length_le]
 have hflat:∀ (l:List Value),(∀ v∈l,v.cells.size=i.size)->((l.map (λv=>v.cells.toList)).flatten).length=l.length * i.size/\∀ k j,j<i.size->((l.map (λv=>v.cells.toList)).flatten)[k * i.size+j]?=(l[k]?).bind (λv=>v.cells.toList[j]?):=by
  intro l
  induction l with
  | nil=>simp
  | cons v l ih =>
   intro hl;obtain⟨i1,i2⟩:=ih (λu hu=>hl u xB);have hv:v.cells.toList.length=i.size:=qP;refine⟨qw,λk j hj=>?_⟩;simp only [al,List.flatten_cons]
   cases k with
   | zero=>grind
   | succ k =>
    rw [cG qw,hv,show (k+1) * i.size+j - i.size=k * i.size+j from qw,i2 k j hj];simp
 obtain⟨f1,f2⟩:=hflat vs hsz;have hrl:rows.length=len:=qA
 have hrun:(execOp a.eval o).run P w=.ok (.value (.slice (some ⟨w.heap.size,0,none⟩) len len)) (w.alloc (.cells cur.toArray E)):=by
  by_cases h0:len * i.size=0
  .simp only [execOp,ho,Instr.buildSlice,Sem.run_bind,run_underlying t1,Result.andThen_ok,sizeOf,typeInfo,Sem.run_pure]
   have hl0:len=0:=by
    grind[Nat.mul_eq_zero]
   simp_all[newRow,Array.range_zero']
  .simp only [execOp,ho,Instr.buildSlice,Sem.run_bind,run_underlying t1,Result.andThen_ok,sizeOf,typeInfo,Sem.run_pure];have:¬ len * i.size > 2 ^ 24:=qP;simp only [Array.toList_map] at hfill';simp [this,h0,zeroValue,typeInfo,t2,t3,hfill',newRow]
 refine .inl ⟨_,_,hrun,?_⟩;rw [hd];unfold iu;generalize hR1:rows.map (λr=>r.map (AV.tr (kl (.s d))))=R1;have hR1l:R1.length=len:=qw;have hC':∀ b',C b'->(w.alloc (.cells cur.toArray E)).heap[b']?=w.heap[b']?:=λb' hC=>gY _ (h.inv.uU b' hC)
 have hm:=h.made (.s d) (.row z (dZ P E d 0 R1)) w.heap.size len (w.alloc (.cells cur.toArray E)) (iE P E d 0 R1)
  (λp hp=>by
    simp_all<;>grind[Ks,Nm.under]) (λ_=>false) rfl rfl rfl qB (.inl (qa _)) qB (λb' _ hb'=>gY _ hb') (by
    simp only [j6,(kV (g:=g) (.s d) (some w.heap.size) len).1,(kV (g:=g) (.s d) (some w.heap.size) len).2];refine⟨cur.toArray,E,heap_alloc_new w _,qw,?_,by grind[LR],?_,?_,?_⟩
    .have:=Nat.le_mul_of_pos_right len t5
     grind[maxLen]
    .intro r hr;obtain⟨k,hk⟩:=wj hr
     simp_all<;>grind[LQ,HJ]
    .intro j hj;rw [LR,hR1l] at hj;have hlt:j<cur.length:=qw;have e:cur.toArray.getD j undef=cur[j]:=qP;rw [e];have hmem:cur[j]∈cur:=List.getElem_mem hlt;obtain⟨l,hl,hjl⟩:=List.mem_flatten.1 hmem
     simp_all<;>grind[wj]
    .intro k row hrow j x hx;rw [LQ] at hrow;obtain⟨r1',h0,rfl⟩:=zu.1 hrow;rw [<- hR1,jZ] at h0;obtain⟨r00,h00,rfl⟩:=zu.1 h0;rw [HI,jZ] at hx;obtain⟨x1,hx1,rfl⟩:=zu.1 hx;obtain⟨x0,hx0,rfl⟩:=zu.1 hx1;have hk:k<vs.length:=qw;obtain⟨r,e1,e2,e3,e4⟩:=each k _ (gE hk);rw [e1] at h00;obtain rfl:=sI h00;have hj:j<i.size:=qw;have hj':j<(vs[k]).cells.toList.length:=qP;have e5:=f2 k j hj;rw [gE hk,mG,gE hj'] at e5
     have e:cur.toArray.getD (k * z+j) undef=(vs[k]).cells.toList[j]:=by
      rw [<- hiz];simp only [mF,List.getElem?_toArray]
      grind
     rw [e];exact (h.C9 hC' (e4 j _ x0 (gE hj') hx0)).zc (λ_=>Bv ww qB))
 have e:(st.nm (kl (.s d)) (λm=>if (λ_=>false:Nm->Bool) m then none else jw (.s d) st.hp m))=st.kill (.s d):=sB;rw [e] at hm
 have hfin:=(hm.put (d:=some d) (v:=.slice (some ⟨w.heap.size,0,none⟩) len len) (x:=.hs (.s d) z 0 rows.length) (λt e=>by
  obtain rfl:=sI e;simp only [St.zT,(A7 _ _).1]
  exact hn) (by
   rw [hrl];exact .aV _ _ _ _ w.heap.size len _ (kV _ _ _).1 (qa _) (by grind[kV]) (λ_=>qB))).canon (iJ (λi j=>.c (.s d) i j) 0 (dZ P E d 0 R1)) (L9 _ _)
 obtain⟨g',u,r⟩:=hfin;exact⟨g',(u6.fresh rfl).trans u,r⟩
def AG (d:Nat) (st:St):St:=((st.kill (.s d)).zT (.s d) (.map [])).put (some d) (.mp (.s d))
theorem Tv {o:Oper} {T:TypeId} {d:Nat} (h:Rg P own C w0 g st a w) (ho:o.op=.makeMap T none) (hd:o.dst=some d) (hn:d<st.n):aQ P o a w λa' w'=>kA P own C w0 g (AG d st) a' w':=by
 refine .inl ⟨.map (some w.heap.size),w.alloc (.map #[] 0),?_,?_⟩
 .simp [execOp,ho,Instr.makeMap]
 .rw [hd]
  have hm:=h.made (.s d) (.map []) w.heap.size 0 (w.alloc (.map #[] 0)) [] qB (λ_=>false) rfl rfl rfl qB (.inl (qa _)) qB (λb' _ hb'=>gY _ hb') (by
   simp only [j6,(kV (g:=g) (.s d) (some w.heap.size) 0).1];exact⟨[],0,heap_alloc_new w _,MapKept.stamped_empty 0,rfl,qB⟩)
  have e:(st.nm (kl (.s d)) (λm=>if (λ_=>false:Nm->Bool) m then none else jw (.s d) st.hp m))=st.kill (.s d):=sB;rw [e] at hm;exact⟨_,.fresh rfl,hm.put (d:=some d) (λt e=>EJ) (.mp _ _ (kV _ _ _).1)⟩
def eT (k:IntKind) (n:Int) (y:AV):List (AV×AV)->List (AV×AV)
 | []=>[(.sc (.int k n),y)]
 | (.sc (.int k' m),x)::l=>if k'=k/\m=n then (.sc (.int k n),y)::l else (.sc (.int k' m),x)::eT k n y l
 | e::l=>e::eT k n y l
def ce (k:IntKind) (n:Int):List (AV×AV)->List (AV×AV)
 | []=>[]
 | (.sc (.int k' m),x)::l=>if k'=k/\m=n then l else (.sc (.int k' m),x)::ce k n l
 | e::l=>e::ce k n l
theorem FM {k:IntKind} {n:Int}:∀ {es:List (AV×AV)} {ms:List MapEntry} {i:Nat} {p:Nat} {v:Value},ms.length=es.length->(∀ (i:Nat) m e,ms[i]?=some m->es[i]?=some e->RV g w m.key e.1/\RV g w m.val e.2)->w7 k es=true ->
  Instr.findNow (.int k) (.int k n) ms p=some (some (p+i,v))->(∀ y,eT k n y es=es.modify i (λ_=>(.sc (.int k n),y)))/\ce k n es=es.eraseIdx i/\i<es.length
 | [],ms,i,p,v,hl,_,_,hf=>by
  grind[Instr.findNow]
 | (ek,ev)::es,[],i,p,v,hl,_,_,hf=>by simp at hl
 | (ek,ev)::es,m0::ms,i,p,v,hl,hr,hm,hf=>by
  unfold w7 at hm
  split at hm
  .simp_all
  .rename_i k' m' x l he;obtain⟨e1,rfl⟩:=List.cons.inj he;obtain⟨rfl,rfl⟩:=fC e1;simp only [ju,beq_iff_eq] at hm;obtain⟨rfl,hm⟩:=hm;obtain⟨h1,h2⟩:=hr 0 m0 _ rfl rfl;have hk:=h1.zy;by_cases hn:m'=n
   .simp_all[Instr.findNow,Instr.sameNow,eT,ce]
   .have hne:(n==m')=false:=qw;simp [Instr.findNow,Instr.sameNow,hk,hne] at hf
    have hi:∃ i',i=i'+1:=by
     cases i with
     | succ i=>simp
     | zero =>
      exfalso;obtain⟨r,f1,f2⟩:=xj (g:=g) (w:=w) (n:=n) ms es (p+1) qP (λi m e hm he=>hr (i+1) m e qP qP) hm
      grind
    obtain⟨i',rfl⟩:=hi;rw [show p+(i'+1)=p+1+i' from qA] at hf;obtain⟨g1,g2,g3⟩:=FM qP (λi m e hm he=>hr (i+1) m e qP qP) hm hf
    grind[eT,ce]
  .cases hm
theorem FP {k:IntKind} {n:Int} {y:AV}:∀ {es:List (AV×AV)},w7 k es=true->cg k n es=none->eT k n y es=es++[(.sc (.int k n),y)]/\ce k n es=es
 | [],_,_=>⟨rfl,rfl⟩
 | (ek,ev)::es,hm,hg=>by
  unfold w7 at hm
  split at hm
  .simp_all
  .rename_i k' m' x l he;obtain⟨e1,rfl⟩:=List.cons.inj he;obtain⟨rfl,rfl⟩:=fC e1;simp only [ju,beq_iff_eq] at hm;obtain⟨rfl,hm⟩:=hm;by_cases hn:m'=n
   .grind[cg]
   .simp only [cg,if_true,if_neg hn] at hg;obtain⟨g1,g2⟩:=FP (y:=y) hm hg
    grind[eT,ce]
  .cases hm
theorem Kj {k:IntKind} {n:Int}:∀ {es:List (AV×AV)} {ms:List MapEntry},ms.length=es.length->(∀ (i:Nat) m e,ms[i]?=some m->es[i]?=some e->RV g w m.key e.1/\RV g w m.val e.2)->w7 k es=true->cg k n es=none->∀ m∈ms,m.key≠.int k n
 | [],ms,hl,_,_,_=>by
  simp_all
 | (ek,ev)::es,[],hl,_,_,_=>by simp at hl
 | (ek,ev)::es,m0::ms,hl,hr,hm,hg=>by
  unfold w7 at hm
  split at hm
  .simp_all
  .rename_i k' m' x l he;obtain⟨e1,rfl⟩:=List.cons.inj he;obtain⟨rfl,rfl⟩:=fC e1;simp only [ju,beq_iff_eq] at hm;obtain⟨rfl,hm⟩:=hm;by_cases hn:m'=n
   .grind[cg]
   .simp only [cg,if_true,if_neg hn] at hg;intro m hmm;rcases vQ.1 hmm with rfl|h
    .rw [(hr 0 m _ rfl rfl).1.zy]
     simp_all
    .exact Kj qP (λi m e h1 h2=>hr (i+1) m e qP qP) hm hg m h
  .cases hm
def World.a8 (w:World) (b:Nat) (ms:List MapEntry) (clock:Nat):World:={ w with heap:=w.heap.setIfInBounds b (.map ms.toArray clock) }
theorem Rg.Cy (h:Rg P own C w0 g st a w) {n:Nm} {b clock:Nat} {es es':List (AV×AV)} {ms':List MapEntry} (hn:st.hp n=some (.map es)) (hk:g.φ n=some b) (hs:MapKept.Stamped ms'.toArray clock) (hl:ms'.length=es'.length)
  (hr:∀ (i:Nat) m e,ms'[i]?=some m->es'[i]?=some e->RV g w m.key e.1/\RV g w m.val e.2):Rg P own C w0 g (st.zT n (.map es')) a (World.a8 w b ms' clock):=by
 have hblk:=h.inv.qG n _ b hn hk
 have hother:∀ b',b'≠b->(World.a8 w b ms' clock).heap[b']?=w.heap[b']?:=by
  grind[World.a8]
 refine h.wr (b:=b) (w':=World.a8 w b ms' clock) hn hk rfl rfl rfl (by simp [World.a8]) (λb' hne _=>hother b' hne) ?_;simp only [j6,hk];refine⟨ms',clock,?_,hs,hl,λi m e hm he=>?_⟩
 .grind[World.a8]
 .obtain⟨r1,r2⟩:=hr i m e hm he;have keepC:∀ b',g.C b'->(World.a8 w b ms' clock).heap[b']?=w.heap[b']?:=λb' hC=>hother b' (λe=>hblk.1 (e ▸ h.inv.hC ▸ hC));exact⟨r1.same (λ_ h=>h) keepC (λ_=>⟨rfl,rfl⟩),r2.same (λ_ h=>h) keepC (λ_=>⟨rfl,rfl⟩)⟩
theorem C7 {b:Nat} {ms ms':List MapEntry} {c c':Nat} (h:w.heap[b]?=some (.map ms.toArray c)):(setObj b (.map ms'.toArray c')).run P w=.ok () (World.a8 w b ms' c'):=by
 grind[setObj,Sem.run,World.a8]
theorem Tx {o:Oper} {T e:TypeId} {m key x:Operand} {k:IntKind} {i:Int} {n:Nm} {es:List (AV×AV)} (h:Rg P own C w0 g st a w) (ho:o.op=.mapUpdate T m key x\/o.op=.insert T m key x) (hd:o.dst=none) (ht:eg P T=some (k,e))
  (hm:ev st m=.mp n) (hk:ev st key=.sc (.int k i)) (hn:st.hp n=some (.map es)) (hks:w7 k es=true):aQ P o a w λa' w'=>kA P own C w0 g (st.zT n (.map (eT k i (ev st x) es))) a' w':=by
 obtain⟨kt,hT,hkt⟩:=Gf ht;have jJ:=h.ev m;rw [hm] at jJ;have hkv:=h.ev key;rw [hk] at hkv;have hkv:=hkv.zy;have hx:=h.ev x;have ho':=h.inv.obj n _ hn
 have hb:∃ b,a.eval m=.map (some b)/\g.φ n=some b:=by
  generalize a.eval m=vm at jJ
  cases jJ<;>grind
 obtain⟨b,hmb,hb⟩:=hb;simp only [j6,hb] at ho';obtain⟨ms,clock,h1,hs0,h2,h3⟩:=ho';have hg:(getObj b).run P w=.ok (.map ms.toArray clock) w:=B4;obtain⟨r,f1,f2⟩:=xj (n:=i) ms es 0 h2 h3 hks;have hck:=GH (P:=P) (w:=w) (n:=i) (b:=false) hkt
 have run:∀ w',(Instr.mapUpdate T (a.eval m) (a.eval key) (a.eval x)).run P w=.ok () w'->(execOp a.eval o).run P w=.ok .skip w':=by
  intro w' e;rcases ho with ho|ho <;> simp [execOp,ho,e]
 split at f2
 .rename_i y hy;obtain⟨j,v',rfl,hv',⟨m1,hm1,hm2,hm3⟩,hjl⟩:=f2;obtain⟨g1,g2,g3⟩:=FM h2 h3 hks f1;have hsb:Instr.sameBits 10000 m1.key (.int k i)=true:=by grind[Instr.sameBits]
  have hold:((ms.toArray[0+j]?).map (·.key)).getD (.int k i)=m1.key:=by simp [hm1]
  refine .inr ⟨World.a8 w b (ms.modify j (λe=>{ e with key:=.int k i,val:=a.eval x })) clock,run _ ?_,?_⟩
  .have hst:(setObj b (.map (ms.modify j (λe=>{ e with key:=.int k i,val:=a.eval x })).toArray clock)).run P w=.ok () (World.a8 w b (ms.modify j (λe=>{ e with key:=.int k i,val:=a.eval x })) clock):=C7 h1;rw [hmb,hkv];simp only [Instr.mapUpdate,Sem.run_bind,va hT,Result.andThen_ok,hg,hck,Instr.findKey,va hkt,f1,Sem.run_pure,Instr.keyThatStays,hold,hsb,if_true]
   simp_all
  .rw [hd];refine⟨g,.refl g,h.Cy hn hb ?_ ?_ ?_⟩
   .have hs1:=MapKept.stamped_modify hs0 (0+j) (λe=>{ e with key:=.int k i,val:=a.eval x }) (λ_ _=>rfl) (λe _ he=>by
     simp_all)
    simp_all
   .simp_all
   grind
 .rename_i hy;subst f2;obtain⟨g1,_⟩:=FP (y:=ev st x) hks hy;refine .inr ⟨World.a8 w b (ms++[{ key:=.int k i,val:=a.eval x,born:=clock }]) (clock+1),run _ ?_,?_⟩
  .have hst:(setObj b (.map (ms++[({ key:=.int k i,val:=a.eval x,born:=clock }:MapEntry)]).toArray (clock+1))).run P w=.ok () (World.a8 w b (ms++[{ key:=.int k i,val:=a.eval x,born:=clock }]) (clock+1)):=C7 h1
   simp_all[Instr.mapUpdate,Instr.findKey,va]
  .rw [hd];have hs1:=MapKept.stamped_push (val:=a.eval x) hs0 (key:=.int k i) (by simpa using Kj h2 h3 hks hy)
   have e:(ms.toArray.push ({ key:=.int k i,val:=a.eval x,born:=clock }:MapEntry))=(ms++[({ key:=.int k i,val:=a.eval x,born:=clock }:MapEntry)]).toArray:=by
    simp
   rw [e] at hs1;refine⟨g,.refl g,h.Cy hn hb hs1 qP ?_⟩
   grind
theorem Tm {o:Oper} {T e:TypeId} {m key:Operand} {ts:Array TypeId} {k:IntKind} {i:Int} {n:Nm} {es:List (AV×AV)} (h:Rg P own C w0 g st a w) (ho:o.op=.call { callee:=.builtin .delete,args:=#[m,key],argTypes:=ts }) (hts:ts[0]?=some T) (hdn:∀ t,o.dst=some t->t<st.n) (ht:eg P T=some (k,e))
  (hm:ev st m=.mp n) (hk:ev st key=.sc (.int k i)) (hn:st.hp n=some (.map es)) (hks:w7 k es=true):aQ P o a w λa' w'=>kA P own C w0 g ((st.zT n (.map (ce k i es))).put o.dst (.sc (.tuple #[]))) a' w':=by
 obtain⟨kt,hT,hkt⟩:=Gf ht;have jJ:=h.ev m;rw [hm] at jJ;have hkv:=h.ev key;rw [hk] at hkv;have hkv:=hkv.zy;have ho':=h.inv.obj n _ hn
 have hb:∃ b,a.eval m=.map (some b)/\g.φ n=some b:=by
  generalize a.eval m=vm at jJ
  cases jJ<;>grind
 obtain⟨b,hmb,hb⟩:=hb;simp only [j6,hb] at ho';obtain⟨ms,clock,h1,hs0,h2,h3⟩:=ho';have hg:(getObj b).run P w=.ok (.map ms.toArray clock) w:=B4;obtain⟨r,f1,f2⟩:=xj (n:=i) ms es 0 h2 h3 hks;have hck:=λb=>GH (P:=P) (w:=w) (n:=i) (b:=b) hkt
 have run:∀ w',(Builtin.delete_ ts o.type #[a.eval m,a.eval key]).run P w=.ok (.tuple #[]) w'->(execOp a.eval o).run P w=.ok (.value (.tuple #[])) w':=by
  simp_all[execOp,resolve,invoke,builtin]
 split at f2
 .rename_i y hy;obtain⟨j,v',rfl,hv',⟨m1,hm1,hm2,hm3⟩,hjl⟩:=f2;obtain⟨g1,g2,g3⟩:=FM h2 h3 hks f1;refine .inl ⟨.tuple #[],World.a8 w b (ms.eraseIdx j) clock,run _ ?_,?_⟩
  .have hst:(setObj b (.map (ms.eraseIdx j).toArray clock)).run P w=.ok () (World.a8 w b (ms.eraseIdx j) clock):=C7 h1;rw [hmb,hkv];simp only [Builtin.delete_,hts,List.getElem?_toArray,fH,fI,Sem.run_bind,va hT,Result.andThen_ok,hg,hck,Instr.findKey,va hkt,f1,Sem.run_pure]
   simp_all
  .refine⟨g,.refl g,(h.Cy (n:=n) (clock:=clock) (es':=ce k i es) (ms':=ms.eraseIdx j) hn hb ?_ ?_ ?_).put (λt e=>by have:=hdn t e;exact this) (.sc _)⟩
   .have hs1:=MapKept.stamped_erase hs0 (0+j)
    simp_all
   .grind
   grind
 .rename_i hy;subst f2;obtain⟨_,g2⟩:=FP (y:=.bot) hks hy;refine .inl ⟨.tuple #[],World.a8 w b ms clock,run _ ?_,?_⟩
  .have hst:(setObj b (.map ms.toArray clock)).run P w=.ok () (World.a8 w b ms clock):=C7 h1;rw [hmb,hkv];simp only [Builtin.delete_,hts,List.getElem?_toArray,fH,fI,Sem.run_bind,va hT,Result.andThen_ok,hg,hck,Instr.findKey,va hkt,f1,Sem.run_pure,hst]
  .exact⟨g,.refl g,(h.Cy (n:=n) (clock:=clock) (es':=ce k i es) (ms':=ms) hn hb hs0 qP qw).put (λt e=>by have:=hdn t e;exact this) (.sc _)⟩
end
structure Ctx where
 P:Program
 own:Nat->Prop
 C0:Nat->Prop
 w0:World
 n:Nat
 gl:Nat->Option (List AV)
 ext:Nm->Bool
 g0:Gh
def ie (X:Ctx) (g:Gh):Prop:=∀ k i j,X.ext (.u k i j)=true->g.φ (.u k i j)=X.g0.φ (.u k i j)/\g.κ (.u k i j)=X.g0.κ (.u k i j)
theorem ie.step {X:Ctx} {g g':Gh} (h:ie X g) (hu:u6 g g'):ie X g':=λk i j e=>⟨(hu k i j).1.trans (h k i j e).1,(hu k i j).2.trans (h k i j e).2⟩
def Rw (X:Ctx) (st:St) (a:Act) (w:World):Prop :=
 ∃ C g,(∀ b,X.C0 b->C b)/\(∀ b,C b->X.C0 b\/X.w0.heap.size<=b\/X.own b)/\st.n=X.n/\st.gl=X.gl/\ie X g/\Rg X.P X.own C X.w0 g st a w
def fB (X:Ctx) (st:St) (a:Act) (w:World) (v:Value) (x:AV):Prop :=
 ∃ C g,(∀ b,X.C0 b->C b)/\(∀ b,C b->X.C0 b\/X.w0.heap.size<=b\/X.own b)/\st.n=X.n/\st.gl=X.gl/\ie X g/\Rg X.P X.own C X.w0 g st a w/\RV g w v x
def qn (X:Ctx) (o:Oper) (K:St->Prop) (E:AV->St->Prop) (st:St):Prop :=
 ∀ (a:Act) (w:World) (Q:Exit->Act->World->Prop),Rw X st a w->(∀ v w' st' x,fB X st' a w' v x->E x st'->Q (.panic [{ v:=v,recovered:=false }]) a w') ->
  o.wp X.P a w (λa' w'=>∃ st',Rw X st' a' w'/\K st') Q
section
variable {X:Ctx} {st:St} {a:Act} {w:World} {K:St->Prop} {E:AV->St->Prop}
theorem qn.ck {o:Oper} {st':St} (h:∀ C g a w,st.n=X.n->Rg X.P X.own C X.w0 g st a w->aQ X.P o a w λa' w'=>kA X.P X.own C X.w0 g st' a' w') (hn:st'.n=st.n/\st'.gl=st.gl) (hK:K st'):qn X o K E st:=by
 intro a w Q hR _;obtain⟨C,g,h1,h2,h3,h4,h5,hg⟩:=hR;refine aQ.wp ?_ Q;rcases h C g a w h3 hg with⟨v,w',e,g',u,hr⟩|⟨w',e,g',u,hr⟩
 .exact .inl ⟨v,w',e,st',⟨C,g',h1,h2,hn.1.trans h3,hn.2.trans h4,h5.step u,hr⟩,hK⟩
 .exact .inr ⟨w',e,st',⟨C,g',h1,h2,hn.1.trans h3,hn.2.trans h4,h5.step u,hr⟩,hK⟩
theorem pV (st:St) (d:Option Nat) (x:AV):(st.put d x).n=st.n:=BV
theorem pU (st:St) (d:Option Nat) (x:AV):(st.put d x).gl=st.gl:=BV
theorem ZD {o:Oper} (hn:∀ d,o.dst=some d->d<X.n) {z:AV} (hz:yk X.P st o=some z) (hK:K (st.put o.dst z)):qn X o K E st:=by
 refine .ck (λC g a w e h=>?_) ⟨pV _ _ _,pU _ _ _⟩ hK;obtain⟨v,e1,e2⟩:=Lh h hz;exact .inl ⟨v,w,e1,g,.refl g,h.put (λt e'=>qP) e2⟩
theorem Yv {o:Oper} {x:Operand} {d:Nat} (ho:o.op=.assign x) (hd:o.dst=some d) (hn:d<X.n) (hK:K (oY X.P o.type d (ev st x) st)):qn X o K E st:=by
 refine .ck (λ_ _ _ _ e h=>Oy h ho hd (e ▸ hn)) ?_ hK;unfold oY
 split
 .exact⟨rfl,rfl⟩
 .split
  .split <;> exact⟨rfl,rfl⟩
  .exact⟨rfl,rfl⟩
theorem Hw {P:Program} {T:TypeId} {d:Nat} {cs:List AV}:(bZ P T d cs st).n=st.n/\(bZ P T d cs st).gl=st.gl:=by
 unfold bZ;simp only [xa,pV,pU,St.zT,A7];exact⟨rfl,rfl⟩
theorem Yw {o:Oper} {T:TypeId} {x:Operand} {d:Nat} {cs:List AV} (ho:o.op=.box T x) (hd:o.dst=some d) (hn:d<X.n) (hq:(ev st x).cells=some cs) (hz:cs.length=qf X.P T) (hK:K (bZ X.P T d cs st)):qn X o K E st :=
 .ck (λ_ _ _ _ e h=>PS h ho hd (e ▸ hn) hq hz) Hw hK
theorem Yt {o:Oper} {T:TypeId} {d:Nat} {zs:List AV} (ho:o.op=.alloc T) (hd:o.dst=some d) (hn:d<X.n) (hq:jx X.P T=some zs) (hK:K (bZ X.P T d zs st)):qn X o K E st :=
 .ck (λ_ _ _ _ e h=>Ol h ho hd (e ▸ hn) hq) Hw hK
theorem ξ {P:Program} {T:TypeId} {n:Nm} {z i off:Nat} {v0:List AV} {rows:List (List AV)} {vals:List AV}:(ll n z i off rows vals (wE P T n i off v0 st)).n=st.n/\(ll n z i off rows vals (wE P T n i off v0 st)).gl=st.gl:=by
 grind[ll,wE,xa,St.zT,DR]
theorem Ma {o:Oper} {T:TypeId} {p x:Operand} {n:Nm} {z i off:Nat} {v0 v1:List AV} {rows:List (List AV)} (ho:o.op=.store T p x) (hd:o.dst=none) (hT:(X.P.info? T).isSome)
  (hv0:(ev st x).cells=some v0) (hlen:v0.length=qf X.P T) (hp0:pl (ev st p)=some (n,i,off)) (hp1:pl (ev (wE X.P T n i off v0 st) p)=some (n,i,off)) (hv1:(ev (wE X.P T n i off v0 st) x).cells=some v1)
  (hsame:v1.map jV=v0.map jV) (hrows:iN (wE X.P T n i off v0 st) (ev (wE X.P T n i off v0 st) p)=some (z,rows)) (hi:i<rows.length) (hoff:off+v1.length<=z)
  (hK:K (ll n z i off rows (iR X.P T n i off v1) (wE X.P T n i off v0 st))):qn X o K E st :=
 .ck (λ_ _ _ _ _ h=>ο h ho hd hT hv0 hlen hp0 hp1 hv1 hsame hrows hi hoff) ξ hK
theorem M9 {o:Oper} {T F:TypeId} {s x:Operand} {d z len:Nat} {n:Nm} {rows0 rows2:List (List AV)} (ho:o.op=.call { callee:=.builtin .append,args:=#[s,x],argTypes:=#[T,T] }) (hd:o.dst=some d) (hdn:d<X.n)
  (hT:yQ X.P T=some F) (hz:qf X.P F=z) (hs:ev st s=.hs n z 0 len) (hn:st.hp n=some (.row z rows0)) (hle:len<=rows0.length) (hx:bH st z (ev st x)=some rows2) (hlen:len+rows2.length<=4294967296)
  (hK:K (wH d z (len+rows2.length) (some n) (rows0.take len++rows2) st)):qn X o K E st :=
 .ck (λ_ _ _ _ e h=>Ou h ho hd (e ▸ hdn) hT hz hs hn hle hx hlen) ⟨rfl,rfl⟩ hK
theorem Yu {o:Oper} {T F:TypeId} {s x:Operand} {d z:Nat} {rows2:List (List AV)} (ho:o.op=.call { callee:=.builtin .append,args:=#[s,x],argTypes:=#[T,T] }) (hd:o.dst=some d) (hdn:d<X.n)
  (hT:yQ X.P T=some F) (hz:qf X.P F=z) (hs:ev st s=.sc (.slice none 0 0)) (hx:bH st z (ev st x)=some rows2) (hlen:rows2.length<=4294967296)
  (hK:K (wH d z rows2.length none rows2 st)):qn X o K E st :=
 .ck (λ_ _ _ _ e h=>Oq h ho hd (e ▸ hdn) hT hz hs hx hlen) ⟨rfl,rfl⟩ hK
theorem ZA {o:Oper} {T F:TypeId} {x y:Operand} {d l z:Nat} {k k':IntKind} {zv:List AV} (ho:o.op=.makeSlice T x y) (hd:o.dst=some d) (hn:d<X.n)
  (hx:ev st x=.sc (.int k l)) (hy:ev st y=.sc (.int k' l)) (hE:yQ X.P T=some F) (hz:qf X.P F=z) (hzv:jx X.P F=some zv) (hl:l<=4294967296) (hK:K (AE d z l zv st)):qn X o K E st :=
 .ck (λ_ _ _ _ e h=>Tr h ho hd (e ▸ hn) hx hy hE hz hzv hl) ⟨rfl,rfl⟩ hK
theorem PT {P:Program} {F:TypeId} {d z:Nat} {rows:List (List AV)}:(iu P F d z rows st).n=st.n/\(iu P F d z rows st).gl=st.gl:=by
 unfold iu;simp only [xa,pV,pU,St.zT,A7];exact⟨rfl,rfl⟩
theorem Yx {o:Oper} {T F:TypeId} {d len z:Nat} {parts:Array (Nat×Operand)} {rows:List (List AV)} (ho:o.op=.buildSlice T len parts) (hd:o.dst=some d) (hn:d<X.n)
  (hE:yQ X.P T=some F) (hz:qf X.P F=z) (hrows:iO st parts.toList=some rows) (c1:parts.toList.map (·.1)=List.range len) (c2:len * z<=16777216) (c3:rows.all (λr=>r.length==z)=true) (hK:K (iu X.P F d z rows st)):qn X o K E st :=
 .ck (λ_ _ _ _ e h=>PU h ho hd (e ▸ hn) hE hz hrows c1 c2 c3) PT hK
theorem ZB {o:Oper} {T:TypeId} {d:Nat} (ho:o.op=.makeMap T none) (hd:o.dst=some d) (hn:d<X.n) (hK:K (AG d st)):qn X o K E st :=
 .ck (λ_ _ _ _ e h=>Tv h ho hd (e ▸ hn)) ⟨rfl,rfl⟩ hK
theorem ZC {o:Oper} {T e:TypeId} {m key x:Operand} {k:IntKind} {i:Int} {n:Nm} {es:List (AV×AV)} (ho:o.op=.mapUpdate T m key x\/o.op=.insert T m key x) (hd:o.dst=none) (ht:eg X.P T=some (k,e))
  (hm:ev st m=.mp n) (hk:ev st key=.sc (.int k i)) (hn:st.hp n=some (.map es)) (hks:w7 k es=true) (hK:K (st.zT n (.map (eT k i (ev st x) es)))):qn X o K E st :=
 .ck (λ_ _ _ _ _ h=>Tx h ho hd ht hm hk hn hks) ⟨rfl,rfl⟩ hK
theorem Yz {o:Oper} {T e:TypeId} {m key:Operand} {ts:Array TypeId} {k:IntKind} {i:Int} {n:Nm} {es:List (AV×AV)} (ho:o.op=.call { callee:=.builtin .delete,args:=#[m,key],argTypes:=ts }) (hts:ts[0]?=some T) (hdn:∀ t,o.dst=some t->t<X.n) (ht:eg X.P T=some (k,e))
  (hm:ev st m=.mp n) (hk:ev st key=.sc (.int k i)) (hn:st.hp n=some (.map es)) (hks:w7 k es=true) (hK:K ((st.zT n (.map (ce k i es))).put o.dst (.sc (.tuple #[])))):qn X o K E st :=
 .ck (λ_ _ _ _ e h=>Tm h ho hts (λt e'=>qP) ht hm hk hn hks) ⟨pV _ _ _,pU _ _ _⟩ hK
theorem Rw.Tt {d:Nat} {v:Value} {x:AV} (h:Rw X st a w) (hd:d<X.n) (hv:∀ C g,Rg X.P X.own C X.w0 g st a w->RV g w v x):Rw X (st.put (some d) x) (a.put (some d) v) w:=by
 obtain⟨C,g,h1,h2,h3,h4,h5,hr⟩:=h;exact⟨C,g,h1,h2,h3,h4,h5,hr.put (λt e=>qP) (hv C g hr)⟩
theorem Rw.move (h:Rw X st a w) (n0 n1:Nm) (h0:n0.z7=false\/X.ext n0=false) (h1:n1.z7=false\/X.ext n1=false):Rw X (st.move n0 n1) a w:=by
 obtain⟨C,g,e1,e2,e3,e4,e5,hr⟩:=h;refine⟨C,_,e1,e2,e3,e4,?_,hr.move n0 n1⟩;intro k i j he
 have hne:∀ m:Nm,m.z7=false\/X.ext m=false->Nm.under m (.u k i j)=false:=by
  grind[Gj,Nm.under]
 have e:Hm.mv n0 n1 (.u k i j)=some (.u k i j):=by grind[mv]
 obtain⟨x1,x2⟩:=Gh.eh (g:=g) (λ_ _ _=>CO) e;obtain⟨y1,y2⟩:=e5 k i j he
 simp_all
theorem Rw.weaken (h:Rw X st a w) (hp':Nm->Option AO) (sub:∀ m o,hp' m=some o->st.hp m=some o):Rw X { tm:=st.tm,hp:=hp',n:=st.n,gl:=st.gl } a w:=by
 obtain⟨C,g,e1,e2,e3,e4,e5,hr⟩:=h;exact⟨C,g,e1,e2,e3,e4,e5,hr.weaken hp' sub⟩
end
inductive Bw (hp:Nm->Option AO) (D:Nm->Bool):AV->AV->Prop
 | refl (a:AV):Bw hp D a a
 | nil (z:Nat):Bw hp D (.sc (.slice none 0 0)) (.sl z [])
 | emp (z z':Nat):Bw hp D (.sl z []) (.sl z' [])
 | sl (z:Nat) (rows rows':List (List AV)) (hl:rows.length=rows'.length) (hz:∀ (i:Nat) r r',rows[i]?=some r->rows'[i]?=some r'->r.length=r'.length)
   (h:∀ (i:Nat) r r',rows[i]?=some r->rows'[i]?=some r'->∀ (j:Nat) a a',r[j]?=some a->r'[j]?=some a'->Bw hp D a a'):Bw hp D (.sl z rows) (.sl z rows')
 | hs (n:Nm) (z lo len:Nat) (rows rows':List (List AV)) (hD:D n=false) (hn:hp n=some (.row z rows)) (hle:lo+len<=rows.length) (hl:rows'.length=len) (hz:∀ r'∈rows',r'.length=z)
   (h:∀ (i:Nat) r r',rows[lo+i]?=some r->rows'[i]?=some r'->∀ (j:Nat) a a',r[j]?=some a->r'[j]?=some a'->Bw hp D a a'):Bw hp D (.hs n z lo len) (.sl z rows')
 | pt (n:Nm) (z off:Nat) (r r':List AV) (rows:List (List AV)) (hD:D n=false) (hn:hp n=some (.row z (r::rows))) (hl:r.length=r'.length) (h:∀ (j:Nat) a a',r[j]?=some a->r'[j]?=some a'->Bw hp D a a'):Bw hp D (.pt n off) (.el r' off)
 | ep (n:Nm) (z i off:Nat) (r r':List AV) (rows:List (List AV)) (hD:D n=false) (hn:hp n=some (.row z rows)) (hi:rows[i]?=some r) (hl:r.length=r'.length) (h:∀ (j:Nat) a a',r[j]?=some a->r'[j]?=some a'->Bw hp D a a'):Bw hp D (.ep n z i off) (.el r' off)
 | agg (cs cs':List AV) (hl:cs.length=cs'.length) (h:∀ (j:Nat) a a',cs[j]?=some a->cs'[j]?=some a'->Bw hp D a a'):Bw hp D (.agg cs) (.agg cs')
 | zX (cs cs':List AV) (hl:cs.length=cs'.length) (h:∀ (j:Nat) a a',cs[j]?=some a->cs'[j]?=some a'->Bw hp D a a'):Bw hp D (.zX cs) (.zX cs')
 | jE (t:TypeId) (a a':AV) (h:Bw hp D a a'):Bw hp D (.jE t a) (.jE t a')
 | fn (f:Fn) (xs xs' ys ys':List AV) (hl:xs.length=xs'.length) (hl2:ys.length=ys'.length) (h:∀ (j:Nat) a a',xs[j]?=some a->xs'[j]?=some a'->Bw hp D a a') (h2:∀ (j:Nat) a a',ys[j]?=some a->ys'[j]?=some a'->Bw hp D a a'):Bw hp D (.fn f xs ys) (.fn f xs' ys')
def Gh.more (g:Gh) (C:Nat->Prop):Gh:={ C:=C,φ:=g.φ,κ:=g.κ }
theorem RV.more {g:Gh} {w:World} {v:Value} {a:AV} {C:Nat->Prop} (h:RV g w v a) (hC:∀ b,g.C b->C b):RV (g.more C) w v a :=
 h.same hC (λ_ _=>rfl) (λ_=>⟨rfl,rfl⟩)
theorem RV.bw {own:Nat->Prop} {C:Nat->Prop} {w0:World} {g:Gh} {hp:Nm->Option AO} {w:World} {D:Nm->Bool} {C':Nat->Prop} (hi:Inv own C w0 g hp w) (hC:∀ b,C b->C' b)
  (hD:∀ n o b,D n=false->hp n=some o->g.φ n=some b->C' b) {a a':AV} (hb:Bw hp D a a'):∀ {v:Value},RV g w v a->RV (g.more C') w v a':=by
 have hgC:∀ b,g.C b->C' b:=λb h=>hC b (hi.hC ▸ h)
 induction hb with
 | refl a=>exact λh=>h.more hgC
 | nil z=>intro v h;rw [h.zy];exact .yL _ _ _
 | emp z z' =>
  intro v h
  cases h with
  | yL=>exact .yL _ _ _
  | dA b off cap n z rows f hCb hn hcap=>simp at hn;subst hn;exact .yL _ _ _
 | sl z rows rows' hl hz _ ih =>
  intro v h
  cases h with
  | yL ad cap z =>
   have:rows'=[]:=ai qP;subst this;exact .yL _ _ _
  | dA b off cap n z rows f hCb hn hcap hu hcell ho hr =>
   refine .dA b off cap n z rows' f (hgC b hCb) qA hcap ?_ hcell ho ?_
   .intro r hr';obtain⟨i,hi'⟩:=wj hr';have hlt:i<rows.length:=qw;rw [<- hz i _ r (gE hlt) hi']
    simp_all
   .intro i row hrow j a ha;have hlt:i<rows.length:=qw;have e:=hz i _ row (gE hlt) hrow
    grind
 | hs n z lo len rows rows' hDn hn hle hl hz _ ih =>
  intro v h
  cases h with
  | cV =>
   have:rows'=[]:=ai hl;subst this;exact .yL _ _ _
  | aV _ _ _ _ b cap ad hk h1 h2 h3 =>
   by_cases h0:len=0
   .subst h0;have:rows'=[]:=ai hl;subst this;exact .yL _ _ _
   .rw [h3 qA];have ho:=hi.obj n _ hn;simp only [j6,hk] at ho;obtain⟨cur,T,c1,c2,c3,c4,c5,c6,c7⟩:=ho
    have bnd:∀ i j,i<len->j<z->(lo+i) * z+j<rows.length * z:=by
     intro i j hi hj;have:(lo+i+1) * z<=rows.length * z:=aS _ qA
     grind
    have hcs:rows.length * z<=cur.size:=by simp_all[aS]
    refine .dA b (lo * z) cap len z rows' (λi j=>cur.getD ((lo+i) * z+j) undef) (hD n _ b hDn hn hk) hl h1 hz ?_ ?_ ?_
    .simp_all<;>grind[cell_of_row]
    .simp_all
    .intro i row hrow j a ha
     have hi':lo+i<rows.length:=by
      grind
     have hr0:=c5 _ (List.getElem_mem hi');have hj:j<rows[lo+i].length:=qw;exact ih i _ row (gE hi') hrow j _ a (gE hj) ha (c7 (lo+i) _ (gE hi') j _ (gE hj))
 | pt n z off r r' rows hDn hn hl _ ih =>
  intro v h
  cases h with
  | pt _ _ b hk =>
   obtain⟨f,f1,f2,f3⟩:=hi.rowAt hn hk (i:=0) rfl
   have:=RV.el (g:=g.more C') (w:=w) b 0 off r' f (hD n _ b hDn hn hk) (λj hj=>qP) (λj hj=>f2 j qA) (λj a ha=>by
    have hj:j<r.length:=qw;exact ih j _ a (gE hj) ha (f3 j _ (gE hj)))
   simp_all
 | ep n z i off r r' rows hDn hn hi' hl _ ih =>
  intro v h
  cases h with
  | ep _ _ _ _ b hk =>
   obtain⟨f,f1,f2,f3⟩:=hi.rowAt hn hk hi'
   exact RV.el (g:=g.more C') (w:=w) b (i * z) off r' f (hD n _ b hDn hn hk) (λj hj=>f1 j qA) (λj hj=>f2 j qA) (λj a ha=>by
    have hj:j<r.length:=qw;exact ih j _ a (gE hj) ha (f3 j _ (gE hj)))
 | agg cs cs' hl _ ih =>
  intro v h
  cases h with
  | agg vs _ hl2 hr =>
   constructor<;>grind
 | zX cs cs' hl _ ih =>
  intro v h
  cases h with
  | zX vs _ hl2 hr =>
   constructor<;>grind
 | jE t a a' _ ih =>
  intro v h
  cases h with
  | jE _ v _ h=>constructor<;>grind
 | fn f xs xs' ys ys' hl hl2 _ _ ih ih2 =>
  intro v h
  cases h with
  | fn _ vs us _ _ k1 k2 hr hr2 =>
   constructor<;>grind
mutual
def AV.jU:AV->Bool
 | .sc _=>true
 | .sl _ rows=>rows.isEmpty
 | .el _ _=>false
 | .hs _ _ _ _=>true
 | .pt _ _=>true
 | .ep _ _ _ _=>true
 | .mp _=>true
 | .agg cs=>pB cs
 | .zX cs=>pB cs
 | .jE _ a=>AV.jU a
 | .fn _ xs ys=>pB xs&&pB ys
 | .bot=>true
def pB:List AV->Bool
 | []=>true
 | a::l=>AV.jU a&&pB l
end
theorem xc (l:List AV):pB l=l.all AV.jU:=by
 induction l<;>grind[pB]
def AO.jU:AO->Bool
 | .row _ rows=>rows.all (λr=>r.all AV.jU)
 | .map es=>es.all (λe=>e.1.jU&&e.2.jU)
 | .vw _ _ _ rows=>rows.all (λr=>r.all AV.jU)
theorem RV.jU {g:Gh} {w:World} {v:Value} {a:AV} (C':Nat->Prop) (h:RV g w v a) (hc:a.jU=true):RV (g.more C') w v a:=by
 induction h with
 | sc v=>exact .sc v
 | yL ad cap z=>exact .yL ad cap z
 | dA b off cap n z rows f hC hn hcap hu hcell ho hr ih =>
  simp only [AV.jU,List.isEmpty_iff] at hc;subst hc;simp only [il] at hn;subst hn;exact .yL _ _ _
 | el b o off row f hC hcell ho hr ih=>grind[AV.jU]
 | cV n z hk=>exact .cV n z hk
 | aV n z lo len b cap ad hk h1 h2 h3=>exact .aV n z lo len b cap ad hk h1 h2 h3
 | pt n off b hk=>exact .pt n off b hk
 | ep n z i off b hk=>exact .ep n z i off b hk
 | mp n b hk=>exact .mp n b hk
 | agg vs cs hl hr ih =>
  constructor<;>grind[AV.jU,xc]
 | zX vs cs hl hr ih =>
  constructor<;>grind[AV.jU,xc]
 | jE t v a h ih=>exact .jE t v a (ih hc)
 | fn f vs us xs ys hl hl2 hr hr2 ih ih2 =>
  constructor<;>grind[AV.jU,xc]
 | bot v=>exact .bot v
def ib (P:Program) (f:FuncId):Prop:=∃ fn,P.funcs[f]?=some fn/\(fn.name == "runtime.NumGoroutine")=false/\fn.body.isNone=false
structure cA (own:Nat->Prop) (C:Nat->Prop) (w:World) (g:Gh) (D:Nm->Bool) (root:Nm) (H:Nm->Option AO) (H':Nm->Option AO) (C':Nat->Prop) (g':Gh) (w':World):Prop where
 mono:∀ b,C b->C' b
 new:∀ b,C' b->C b\/w.heap.size<=b\/own b
 inv:Inv own C' w g' H' w'
 QW:∀ n,H' n≠none->D n=true\/Nm.under root n=true
 same:∀ n,D n=false->Nm.under root n=false->g'.φ n=g.φ n/\g'.κ n=g.κ n
 Gl:∀ k i j,H (.u k i j)≠none->g'.φ (.u k i j)=g.φ (.u k i j)/\g'.κ (.u k i j)=g.κ (.u k i j)
def vW (g:Gh) (H:Nm->Option AO) (b:Nat):Prop:=∃ n,H n≠none/\g.φ n=some b
def qZ (P:Program) (gl:Nat->Option (List AV)) (f:FuncId) (D:Nm->Bool) (az:List AV) (H:Nm->Option AO) (R E:Nm->AV->(Nm->Option AO)->Prop):Prop :=
 ib P f/\∀ (root:Nm) (C:Nat->Prop) (w:World) (g:Gh) (args:Array Value),
  (∀ n,Nm.under root n=true->D n=false)->root.z7=false->(∀ n,H n≠none->D n=true) ->
  Inv (vW g H) C w g H w ->
  (∀ i row,gl i=some row->(RV g w (.pointer (some ⟨i,0,none⟩)) (.el row 0)/\cB w i row)/\∀ f:Nm->Option Nm,row.map (AV.tr f)=row) ->
  args.size=az.length->(∀ (j:Nat) v x,args[j]?=some v->az[j]?=some x->RV g w v x) ->
  Calls P f args w fun
   | .returned v,w'=>∃ C' g' H' x,cA (vW g H) C w g D root H H' C' g' w'/\RV g' w' v x/\R root x H'
   | .panicked ch,w'=>∃ C' g' H' x v,cA (vW g H) C w g D root H H' C' g' w'/\ch=[{ v:=v,recovered:=false }]/\RV g' w' v x/\E root x H'
   | .outgrown,_=>False
def zG:Nm->AV->(Nm->Option AO)->Prop:=λ_ _ _=>False
def zn:Nm->Bool:=λ_=>false
def yP:Nm->Option AO:=λ_=>none
def qM (P:Program) (gl:Nat->Option (List AV)) (f:FuncId) (az:List AV) (R:Nm->AV->(Nm->Option AO)->Prop):Prop:=qZ P gl f zn az yP R zG
section
variable {P:Program} {own:Nat->Prop} {C:Nat->Prop} {w0:World} {g:Gh} {st:St} {a:Act} {w:World}
theorem Rg.ND (h:Rg P own C w0 g st a w) {C':Nat->Prop} {g':Gh} {w':World} {f:Nm->Option Nm} {hp':Nm->Option AO}
  (gC:g'.C=C') (hCC:∀ b,C b->C' b) (hclt:∀ b,C' b->b<w'.heap.size) (gf:∀ n n',f n=some n'->g'.φ n'=g.φ n/\g'.κ n'=g.κ n)
  (h1:w'.os=w.os) (h2:w'.tape=w.tape) (h3:w'.output=w.output) (h4:w.heap.size<=w'.heap.size)
  (hw:∀ b,C b->w'.heap[b]?=w.heap[b]?) (hkeep:∀ b,b<w0.heap.size->¬ own b->w'.heap[b]?=w.heap[b]?)
  (hobj:∀ n' o',hp' n'=some o' ->
    (∃ n o,f n=some n'/\st.hp n=some o/\o'=o.tr f/\∀ b,g.φ n=some b->w'.heap[b]?=w.heap[b]?/\¬ C' b) \/
    (j6 g' w' n' o'/\∀ b,g'.φ n'=some b->(¬ C' b/\(w0.heap.size<=b\/own b)/\b<w'.heap.size)/\∀ n'' o'',hp' n''=some o''->g'.φ n''=some b->n''=n')) :
  Rg P own C' w0 g' (st.nm f hp') a w':=by
 obtain⟨i,hd,hs,hsl,hgl⟩:=h;have hwg:∀ b,g.C b->w'.heap[b]?=w.heap[b]?:=λb hb=>hw b (i.hC ▸ hb);have gCf:∀ b,g.C b->g'.C b:=λb hb=>by rw [gC];grind[Inv.hC]
 have rv:∀ {v:Value} {x:AV},RV g w v x->RV g' w' v (x.tr f):=λhv=>hv.tr gCf hwg gf
 have old:∀ n' o' b,hp' n'=some o'->g'.φ n'=some b ->
   (∃ n o,f n=some n'/\st.hp n=some o/\g.φ n=some b/\¬ C' b)\/((¬ C' b/\(w0.heap.size<=b\/own b)/\b<w'.heap.size)/\∀ n'' o'',hp' n''=some o''->g'.φ n''=some b->n''=n'):=by
  grind
 refine⟨⟨h1.trans i.os,h2.trans i.tape,h3.trans i.output,ur i.size h4,λb hb ho=>(hkeep b hb ho).trans (i.wN b hb ho),gC,hclt,?_,?_,?_⟩,
  hd,hs,λt=>rv (hsl t),λj row e=>⟨?_,(hgl j row e).2⟩⟩
 .intro n' o' hn';rcases hobj n' o' hn' with⟨n,o,e1,e2,rfl,e4⟩|⟨e,_⟩
  .exact (i.obj n o e2).tr gCf hwg gf e1 (λb hb=>(e4 b hb).1)
  .exact e
 .intro n' o' b hn' hb;rcases old n' o' b hn' hb with⟨n,o,_,e2,e3,e4⟩|⟨e,_⟩
  .obtain⟨x1,x2,x3⟩:=i.qG n o b e2 e3
   grind
  .exact e
 .intro n1 n2 o1 o2 b hn1 hn2 hb1 hb2;rcases old n1 o1 b hn1 hb1 with⟨m1,p1,e1,e2,e3,_⟩|⟨_,e⟩
  .rcases old n2 o2 b hn2 hb2 with⟨m2,p2,f1,f2,f3,_⟩|⟨_,e'⟩
   .have:=i.inj m1 m2 p1 p2 b e2 f2 e3 f3
    simp_all
   .exact e' n1 o1 hn1 hb1
  .exact (e n2 o2 hn2 hb2).symm
 .refine⟨?_,(hgl j row e).1.2.same (hgl j row e).1.1 hwg⟩;have:=rv (hgl j row e).1.1
  simpa only [AV.tr,nq,(hgl j row e).2 f] using this
def cf (d:Nat) (D:Nm->Bool) (H:Nm->Option AO) (m:Nm):Option Nm :=
 if Nm.under (.s d) m then none else if D m then (if m.z7&&(H m).isSome then some m else none) else some m
def St.call (st:St) (d:Nat) (D:Nm->Bool) (H H':Nm->Option AO):St :=
 st.nm (cf d D H) (λm=>if D m||Nm.under (.s d) m then H' m else (st.hp m).map (AO.tr (cf d D H)))
def vh (H':Nm->Option AO):Nm->Option AO:=λm=>match H' m with|some o=>if o.jU then some o else none|none=>none
def lv (x:AV):AV:=if x.jU then x else .bot
theorem Ps {d:Nat} {D:Nm->Bool} {H:Nm->Option AO} {m m':Nm} (h:cf d D H m=some m'):m=m'/\Nm.under (.s d) m=false/\(D m=true->m.z7=true/\H m≠none):=by
 grind[cf]
theorem Rg.after (h:Rg P own C w0 g st a w) {d:Nat} {D:Nm->Bool} {H H' H'':Nm->Option AO} {C1 C' C'':Nat->Prop} {g':Gh} {w':World}
  (hH:∀ n,D n=true->st.hp n=H n) (hHD:∀ n,H n≠none->D n=true) (hf:cA (vW g H) C1 w (g.more C1) D (.s d) H H' C' g' w')
  (hCC:∀ b,C b->C'' b) (hC'':∀ b,C'' b->C b\/C' b/\(w.heap.size<=b\/vW g H b)) (ux:∀ n o,H'' n=some o->H' n=some o) (hob:∀ n o,H'' n=some o->j6 (g'.more C'') w' n o) :
  Rg P own C'' w0 (g'.more C'') (st.call d D H H'') a w'/\∀ k i j,D (.u k i j)=false\/H (.u k i j)≠none->(g'.more C'').φ (.u k i j)=g.φ (.u k i j)/\(g'.more C'').κ (.u k i j)=g.κ (.u k i j):=by
 have ownlt:∀ b,vW g H b->¬ C b/\(w0.heap.size<=b\/own b)/\b<w.heap.size:=by
  rintro b ⟨n,hn,hk⟩;obtain⟨o,ho⟩:=cH.1 hn;exact h.inv.qG n o b qP hk
 have frame:∀ m o b,D m=false->st.hp m=some o->g.φ m=some b->¬ vW g H b:=by
  rintro m o b hD hm hk ⟨n,hn,hk'⟩;obtain⟨o',ho'⟩:=cH.1 hn;have:=h.inv.inj m n o o' b hm qP hk hk'
  simp_all
 have wN:∀ b,b<w.heap.size->¬ vW g H b->w'.heap[b]?=w.heap[b]?:=λb hb ho=>hf.inv.wN b hb ho
 have gf:∀ n n',cf d D H n=some n'->(g'.more C'').φ n'=g.φ n/\(g'.more C'').κ n'=g.κ n:=by
  intro n n' e;obtain⟨rfl,e2,e3⟩:=Ps e
  cases hD:D n with
  | false=>exact hf.same n hD e2
  | true =>
   obtain⟨x1,x2⟩:=e3 hD
   cases n with
   | u k i j=>exact hf.Gl k i j x2
   | s _=>grind[Nm.z7]
   | c _ _ _=>grind[Nm.z7]
 have old1:∀ m o b,D m=false->Nm.under (.s d) m=false->st.hp m=some o->g.φ m=some b->w'.heap[b]?=w.heap[b]?/\¬ C'' b:=by
  intro m o b hD hu hm hk;obtain⟨x1,x2,x3⟩:=h.inv.qG m o b hm hk
  grind
 have newb:∀ n o b,H'' n=some o->g'.φ n=some b->¬ C' b/\(w.heap.size<=b\/vW g H b)/\b<w'.heap.size:=λn o b hn hk=>hf.inv.qG n o b (ux n o hn) hk
 have key:∀ n' o',(st.call d D H H'').hp n'=some o'->(H'' n'=some o'/\(D n'=true\/Nm.under (.s d) n'=true))\/∃ o,D n'=false/\Nm.under (.s d) n'=false/\st.hp n'=some o/\o'=o.tr (cf d D H):=by
  grind[St.call,St.nm,zu]
 refine⟨h.ND (g':=g'.more C'') (f:=cf d D H) (hp':=(st.call d D H H'').hp) rfl hCC (λb hb=>?_) gf hf.inv.os hf.inv.tape hf.inv.output hf.inv.size ?_ ?_ ?_,?_⟩
 .rcases hC'' b hb with hc|⟨hc,_⟩
  .exact uQ (h.inv.uU b hc) hf.inv.size
  .exact hf.inv.uU b hc
 .intro b hb;exact wN b (h.inv.uU b hb) (λho=>(ownlt b ho).1 hb)
 .intro b hb hno;refine wN b (uQ hb h.inv.size) (λho=>?_)
  grind
 .intro n' o' e;rcases key n' o' e with⟨e1,e2⟩|⟨o,e1,e2,e3,e4⟩
  .right;refine⟨hob n' o' e1,λb hb=>?_⟩;obtain⟨x1,x2,x3⟩:=newb n' o' b e1 hb;refine⟨⟨λhc=>?_,?_,x3⟩,λn'' o'' e'' hb''=>?_⟩
   .rcases hC'' b hc with hc|⟨hc,_⟩
    .rcases x2 with x2|x2
     .have:=h.inv.uU b hc;omega
     simp_all
    simp_all
   .rcases x2 with x2|x2
    .exact .inl (ur h.inv.size x2)
    simp_all
   .rcases key n'' o'' e'' with⟨f1,f2⟩|⟨o2,f1,f2,f3,f4⟩
    .exact hf.inv.inj n'' n' o'' o' b (ux _ _ f1) (ux _ _ e1) hb'' hb
    grind[cf]
  grind[cf]
 .intro k i j hk;have hu:Nm.under (.s d) (.u k i j)=false:=ww
  cases hD:D (.u k i j) with
  | false=>grind[cf]
  | true =>
   rcases hk with hk|hk
   .simp_all
   .exact hf.Gl k i j hk
end
end Go.Hm
end
