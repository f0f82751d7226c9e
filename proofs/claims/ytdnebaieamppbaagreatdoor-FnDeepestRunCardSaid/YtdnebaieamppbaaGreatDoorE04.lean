import Derived.Test.YtdnebaieamppbaaGreatDoorE03
set_option linter.unusedSimpArgs false
set_option linter.unusedVariables false
set_option maxRecDepth 100000
set_option maxHeartbeats 4000000

section
namespace Go.Hm
open Go Go.RowKit
def wS (P:Program) (E:TypeId) (d:Nat):Nat->List (List AV)->List (List AV)
 | _,[]=>[]
 | i,r::l=>zcs (λj=>.c (.s d) i j) (tce P E) 0 r::wS P E d (i+1) l
def ud (P:Program) (E:TypeId) (d:Nat):Nat->List (List AV)->List (Nm×Nat)
 | _,[]=>[]
 | i,r::l=>zj (λj=>.c (.s d) i j) (tce P E) 0 r++ud P E d (i+1) l
def xQ (key:Nat->Nat->Nm):Nat->List (List AV)->List (Nm×Nm)
 | _,[]=>[]
 | i,r::l=>prs (key i) 0 r++xQ key (i+1) l
theorem ia {P:Program} {E:TypeId} {d:Nat}:∀ (l:List (List AV)) (i:Nat),(wS P E d i l).length=l.length
 := by intro x0;induction x0<;>grind[wS]
theorem rj {P:Program} {E:TypeId} {d:Nat}:∀ (l:List (List AV)) (i k:Nat),(wS P E d i l)[k]?=(l[k]?).map (λr=>zcs (λj=>.c (.s d) (i+k) j) (tce P E) 0 r)
 := by intro x0;induction x0<;>grind[wS]
theorem mP {P:Program} {E:TypeId} {d:Nat}:∀ (l:List (List AV)) (i:Nat) p,p∈ud P E d i l->∃ i j,p.1=.c (.s d) i j
 | [],_,_,h=>by grind[ud]
 | r::l,i,p,h=>by
  simp only [ud] at h;rcases dY.1 h with h|h
  .grind[bK]
  .exact mP l (i+1) p h
theorem IF {d:Nat}:∀ (l:List (List AV)) (i:Nat),Oq (xQ (λi j=>.c (.s d) i j) i l)
 | [],_=>by simp [xQ,Oq]
 | r::l,i=>by
  intro p hp;simp only [xQ] at hp;rcases dY.1 hp with hp|hp
  .exact D1 (λj=>.c (.s d) i j) (λ_=>rfl) r 0 p hp
  .exact IF l (i+1) p hp
section
variable {P:Program} {own:Nat->Prop} {C:Nat->Prop} {w0:World} {g:Gh} {st:St} {a:Act} {w:World}
def Vy (d z l:Nat) (zv:List AV) (st:St):St:=((st.kill (.s d)).Zp (.s d) (.row z (List.replicate l zv))).put (some d) (.hs (.s d) z 0 l)
theorem Mk (z:Array Value) (n t:Nat) (h:t<n):(madeCells z n).getD t undef=z[t % z.size]!:=by
 simp_all[madeCells]
theorem QU {o:Oper} {T E:TypeId} {x y:Operand} {d l z:Nat} {k k':IntKind} {zv:List AV} (h:Rg P own C w0 g st a w) (ho:o.op=.makeSlice T x y) (hd:o.dst=some d) (hn:d<st.n)
  (hx:ev st x=.sc (.int k l)) (hy:ev st y=.sc (.int k' l)) (hE:cG P T=some E) (hz:Zq P E=z) (hzv:yn P E=some zv) (hl:l<=4294967296):Es P o a w λa' w'=>Rel P own C w0 g (Vy d z l zv st) a' w':=by
 obtain⟨i,zz,t1,t2,t3,t4,t5,t6,t7⟩:=ly hE;obtain⟨i',z',q1,q2,q3,rfl,q4⟩:=nE hzv;rw [t2] at q1;obtain rfl:=sI q1;rw [t3] at q2;obtain rfl:=sI q2;have hiz:i.size=z:=t7.symm.trans hz;have e1:a.eval x=.int k l:=(hx ▸ h.ev x).Zo;have e2:a.eval y=.int k' l:=(hy ▸ h.ev y).Zo
 have hb:(i.bytes:Int) * l<=281474976710656:=by
  have:=Nat.mul_le_mul t6 hl;omega
 have hrun:=run_make (P:=P) (w:=w) T E i zz t1 t2 t3 k k' l l qA qA hb qA;refine .inl ⟨.slice (some ⟨w.heap.size,0,none⟩) l l,w.alloc (.cells (madeCells zz.cells (l * i.size)) E),?_,?_⟩
 .simp_all[execOp]
 .rw [hd];have hcur:∀ t,t<l * i.size->(madeCells zz.cells (l * i.size)).getD t undef=zz.cells[t % zz.cells.size]!:=λt ht=>Mk _ _ _ ht
  have hm:=h.made (.s d) (.row z (List.replicate l (zz.cells.toList.map .sc))) w.heap.size l (w.alloc (.cells (madeCells zz.cells (l * i.size)) E)) [] qB (λ_=>false) rfl rfl rfl qB (.inl (qf _)) qB (λb' _ hb'=>kr _ hb') (by
   simp only [OAt,(zO (g:=g) (.s d) (some w.heap.size) l).1,(zO (g:=g) (.s d) (some w.heap.size) l).2];refine⟨_,E,heap_alloc_new w _,by grind[madeCells],tC,qB,?_,?_,?_⟩
   .simp_all
   .grind[Nat.mod_lt]
   .intro i' row hrow j x hx
    have hi':i'<l:=by
     grind
    rw [List.getElem?_replicate,if_pos hi'] at hrow;obtain rfl:=sI hrow;rw [kx] at hx;obtain⟨v,hv,rfl⟩:=ku.1 hx
    have hj:j<zz.cells.size:=by
     grind
    have h5:(i'+1) * i.size<=l * i.size:=gk _ hi';rw [Ei,Nat.one_mul] at h5;rw [<- hiz,hcur _ qA,t4,Nat.add_comm,Nat.add_mul_mod_self_right,Nat.mod_eq_of_lt qA,getElem!_pos zz.cells _ hj]
    have:v=zz.cells[j]:=by
     grind
    rw [<- this];exact RV.sc v)
  have e:(st.nm (kl (.s d)) (λm=>if (λ_=>false:Nm->Bool) m then none else hkl (.s d) st.hp m))=st.kill (.s d):=lX;rw [e] at hm;exact⟨_,.fresh rfl,hm.put (d:=some d) (λt e=>GY) (.hsB _ _ _ _ w.heap.size l _ (zO _ _ _).1 (qf _) Bp (λ_=>qB))⟩
def iX (st:St):List (Nat×Operand)->Option (List (List AV))
 | []=>some []
 | p::l=>((ev st p.2).cells).bind λr=>(iX st l).map (r::·)
def RF (P:Program) (E:TypeId) (d z:Nat) (rows:List (List AV)) (st:St):St :=
 let r1:=rows.map (λr=>r.map (AV.tr (kl (.s d))))
 let r2:=wS P E d 0 r1
 canon (xQ (λi j=>.c (.s d) i j) 0 r2) (((St.qAA (ud P E d 0 r1) (st.kill (.s d))).Zp (.s d) (.row z r2)).put (some d) (.hs (.s d) z 0 rows.length))
theorem F6:∀ {parts:List (Nat×Operand)} {rows:List (List AV)},iX st parts=some rows->rows.length=parts.length/\∀ (i:Nat) p,parts[i]?=some p->∃ r,rows[i]?=some r/\(ev st p.2).cells=some r
 := by intro x0;induction x0<;>grind[iX,xD,ku]
theorem Qn (size:Nat):∀ (vs:List Value) (k:Nat) (pre rest:List Value),(∀ v∈vs,v.cells.size=size)->pre.length=k * size->vs.length * size<=rest.length ->
  Instr.fill (λi=>some (i * size,size)) (pre++rest).toArray ((vs.zipIdx k).map (λp=>(p.2,p.1)))=some (pre++(vs.map (λv=>v.cells.toList)).flatten++rest.drop (vs.length * size)).toArray:=by
 intro vs
 induction vs with
 | nil=>simp_all[Instr.fill]
 | cons v vs ih =>
  intro k pre rest hv hpre hle;simp only [Kg,Ei,Nat.one_mul] at hle;have hvs:=hv v qB;simp only [List.zipIdx_cons,gi,Instr.fill];rw [if_neg qc]
  have hf:(v.cells.zipIdx.foldl (λcs (x:Value×Nat)=>cs.setIfInBounds (k * size+x.2) x.1) (pre++rest).toArray)=((pre++v.cells.toList)++rest.drop size).toArray:=by
   have:=EF (k * size) v.cells.toList 0 (pre++rest).toArray qc;simp only [C4] at this;rw [<- hpre,List.take_left' rfl,show v.cells.toList.length=size from by simp [hvs],List.drop_append,List.drop_of_length_le qA,List.nil_append,show pre.length+size - pre.length=size from qA] at this;rw [<- hpre,<- this,<- Array.foldl_toList];simp
  have hf':(v.cells.zipIdx.foldl (λcs x=>match x with|(c,j)=>cs.setIfInBounds (k * size+j) c) (pre++rest).toArray)=((pre++v.cells.toList)++rest.drop size).toArray:=hf;rw [hf',ih (k+1) _ _ (λu hu=>hv u (by simp [hu])) qj qj]
  simp_all<;>grind
theorem RE {o:Oper} {T E:TypeId} {d len z:Nat} {parts:Array (Nat×Operand)} {rows:List (List AV)} (h:Rg P own C w0 g st a w) (ho:o.op=.buildSlice T len parts) (hd:o.dst=some d) (hn:d<st.n)
  (hE:cG P T=some E) (hz:Zq P E=z) (hrows:iX st parts.toList=some rows) (c1:parts.toList.map (·.1)=List.range len) (c2:len * z<=16777216) (c3:rows.all (λr=>r.length==z)=true) :
  Es P o a w λa' w'=>Rel P own C w0 g (RF P E d z rows st) a' w':=by
 obtain⟨i,zz,t1,t2,t3,t4,t5,t6,t7⟩:=ly hE;have hiz:i.size=z:=t7.symm.trans hz;obtain⟨r1,r2⟩:=F6 hrows;have hu:∀ r∈rows,r.length=z:=λr hr=>qH;have hlen:parts.toList.length=len:=by have:=congrArg List.length c1;grind
 let vs:=parts.toList.map (λp=>a.eval p.2)
 have hvl:vs.length=len:=qj
 have each:∀ (k:Nat) v,vs[k]?=some v->∃ r,rows[k]?=some r/\v.cells.toList.length=r.length/\(∀ u∈v.cells.toList,u.oneCell'=true)/\∀ (j:Nat) u x,v.cells.toList[j]?=some u->r[j]?=some x->RV g w u x:=by
  intro k v hv;rw [kx] at hv;obtain⟨p,hp,rfl⟩:=ku.1 hv;obtain⟨r,e1,e2⟩:=r2 k p hp;exact⟨r,e1,(h.ev p.2).cells e2⟩
 have hsz:∀ v∈vs,v.cells.size=i.size:=by
  grind[eW]
 have hparts:(parts.map (λp=>(p.1,a.eval p.2))).toList=(vs.zipIdx 0).map (λp=>(p.2,p.1)):=by
  apply wK;intro k;simp only [Array.toList_map,kx,List.getElem?_zipIdx,vs]
  cases hk:parts.toList[k]? with
  | none=>simp
  | some p =>
   have:=congrArg (λl:List Nat=>l[k]?) c1
   grind
 let cur:List Value:=(vs.map (λv=>v.cells.toList)).flatten
 have hfill:=Qn i.size vs 0 [] ((Array.range (len * i.size)).map (λt=>zz.cells[t % zz.cells.size]!)).toList hsz qB (by simp [hvl])
 have hfill':Instr.fill (λk=>some (k * i.size,i.size)) ((Array.range (len * i.size)).map (λt=>zz.cells[t % zz.cells.size]!)) (parts.map (λp=>(p.1,a.eval p.2))).toList=some cur.toArray:=by
  grind[Array.range,List.drop_of_length_le]
 have hflat:∀ (l:List Value),(∀ v∈l,v.cells.size=i.size)->((l.map (λv=>v.cells.toList)).flatten).length=l.length * i.size/\∀ k j,j<i.size->((l.map (λv=>v.cells.toList)).flatten)[k * i.size+j]?=(l[k]?).bind (λv=>v.cells.toList[j]?):=by
  intro l
  induction l with
  | nil=>simp
  | cons v l ih =>
   intro hl;obtain⟨i1,i2⟩:=ih (λu hu=>hl u (by simp [hu]));have hv:v.cells.toList.length=i.size:=qH;refine⟨qj,λk j hj=>?_⟩;simp only [gi,List.flatten_cons]
   cases k with
   | zero=>grind
   | succ k =>
    rw [b7 qj,hv,show (k+1) * i.size+j - i.size=k * i.size+j from qj,i2 k j hj];simp
 obtain⟨f1,f2⟩:=hflat vs hsz;have hrl:rows.length=len:=qA
 have hrun:(execOp a.eval o).run P w=.ok (.value (.slice (some ⟨w.heap.size,0,none⟩) len len)) (w.alloc (.cells cur.toArray E)):=by
  by_cases h0:len * i.size=0
  .simp only [execOp,ho,Instr.buildSlice,Sem.run_bind,run_underlying t1,Result.andThen_ok,sizeOf,typeInfo,Sem.run_pure]
   have hl0:len=0:=by
    grind[Nat.mul_eq_zero]
   simp_all[newRow,Array.range_zero']
  .simp only [execOp,ho,Instr.buildSlice,Sem.run_bind,run_underlying t1,Result.andThen_ok,sizeOf,typeInfo,Sem.run_pure];have:¬ len * i.size > 2 ^ 24:=qH;simp only [Array.toList_map] at hfill';simp [this,h0,zeroValue,typeInfo,t2,t3,hfill',newRow]
 refine .inl ⟨_,_,hrun,?_⟩;rw [hd];unfold RF;generalize hR1:rows.map (λr=>r.map (AV.tr (kl (.s d))))=R1;have hR1l:R1.length=len:=qj;have hC':∀ b',C b'->(w.alloc (.cells cur.toArray E)).heap[b']?=w.heap[b']?:=λb' hC=>kr _ (h.inv.clt b' hC)
 have hm:=h.made (.s d) (.row z (wS P E d 0 R1)) w.heap.size len (w.alloc (.cells cur.toArray E)) (ud P E d 0 R1)
  (λp hp=>by
    simp_all<;>grind[mP,Nm.under]) (λ_=>false) rfl rfl rfl qB (.inl (qf _)) qB (λb' _ hb'=>kr _ hb') (by
    simp only [OAt,(zO (g:=g) (.s d) (some w.heap.size) len).1,(zO (g:=g) (.s d) (some w.heap.size) len).2];refine⟨cur.toArray,E,heap_alloc_new w _,qj,?_,by grind[ia],?_,?_,?_⟩
    .have:=Nat.le_mul_of_pos_right len t5
     grind[maxLen]
    .intro r hr;obtain⟨k,hk⟩:=eW hr
     simp_all<;>grind[rj,nF]
    .intro j hj;rw [ia,hR1l] at hj;have hlt:j<cur.length:=qj;have e:cur.toArray.getD j undef=cur[j]:=qH;rw [e];have hmem:cur[j]∈cur:=List.getElem_mem hlt;obtain⟨l,hl,hjl⟩:=List.mem_flatten.1 hmem
     simp_all<;>grind[eW]
    .intro k row hrow j x hx;rw [rj] at hrow;obtain⟨r1',h0,rfl⟩:=ku.1 hrow;rw [<- hR1,kx] at h0;obtain⟨r00,h00,rfl⟩:=ku.1 h0;rw [Ew,kx] at hx;obtain⟨x1,hx1,rfl⟩:=ku.1 hx;obtain⟨x0,hx0,rfl⟩:=ku.1 hx1;have hk:k<vs.length:=qj;obtain⟨r,e1,e2,e3,e4⟩:=each k _ (gE hk);rw [e1] at h00;obtain rfl:=sI h00;have hj:j<i.size:=qj;have hj':j<(vs[k]).cells.toList.length:=qH;have e5:=f2 k j hj;rw [gE hk,Ee,gE hj'] at e5
     have e:cur.toArray.getD (k * z+j) undef=(vs[k]).cells.toList[j]:=by
      rw [<- hiz];simp only [Kh,List.getElem?_toArray]
      grind
     rw [e];exact (h.qCB hC' (e4 j _ x0 (gE hj') hx0)).zc (λ_=>dx wH qB))
 have e:(st.nm (kl (.s d)) (λm=>if (λ_=>false:Nm->Bool) m then none else hkl (.s d) st.hp m))=st.kill (.s d):=lX;rw [e] at hm
 have hfin:=(hm.put (d:=some d) (v:=.slice (some ⟨w.heap.size,0,none⟩) len len) (x:=.hs (.s d) z 0 rows.length) (λt e=>by
  obtain rfl:=sI e;simp only [St.Zp,(fR _ _).1]
  exact hn) (by
   rw [hrl];exact .hsB _ _ _ _ w.heap.size len _ (zO _ _ _).1 (qf _) Bp (λ_=>qB))).canon (xQ (λi j=>.c (.s d) i j) 0 (wS P E d 0 R1)) (IF _ _)
 obtain⟨g',u,r⟩:=hfin;exact⟨g',(Ust.fresh rfl).trans u,r⟩
def Vx (d:Nat) (st:St):St:=((st.kill (.s d)).Zp (.s d) (.map [])).put (some d) (.mp (.s d))
theorem QT {o:Oper} {T:TypeId} {d:Nat} (h:Rg P own C w0 g st a w) (ho:o.op=.makeMap T none) (hd:o.dst=some d) (hn:d<st.n):Es P o a w λa' w'=>Rel P own C w0 g (Vx d st) a' w':=by
 refine .inl ⟨.map (some w.heap.size),w.alloc (.map #[] 0),?_,?_⟩
 .simp [execOp,ho,Instr.makeMap]
 .rw [hd]
  have hm:=h.made (.s d) (.map []) w.heap.size 0 (w.alloc (.map #[] 0)) [] qB (λ_=>false) rfl rfl rfl qB (.inl (qf _)) qB (λb' _ hb'=>kr _ hb') (by
   simp only [OAt,(zO (g:=g) (.s d) (some w.heap.size) 0).1];exact⟨[],0,heap_alloc_new w _,MapKept.stamped_empty 0,rfl,qB⟩)
  have e:(st.nm (kl (.s d)) (λm=>if (λ_=>false:Nm->Bool) m then none else hkl (.s d) st.hp m))=st.kill (.s d):=lX;rw [e] at hm;exact⟨_,.fresh rfl,hm.put (d:=some d) (λt e=>GY) (.mp _ _ (zO _ _ _).1)⟩
def IR (k:IntKind) (n:Int) (y:AV):List (AV×AV)->List (AV×AV)
 | []=>[(.sc (.int k n),y)]
 | (.sc (.int k' m),x)::l=>if k'=k/\m=n then (.sc (.int k n),y)::l else (.sc (.int k' m),x)::IR k n y l
 | e::l=>e::IR k n y l
def Ev (k:IntKind) (n:Int):List (AV×AV)->List (AV×AV)
 | []=>[]
 | (.sc (.int k' m),x)::l=>if k'=k/\m=n then l else (.sc (.int k' m),x)::Ev k n l
 | e::l=>e::Ev k n l
theorem BO {k:IntKind} {n:Int}:∀ {es:List (AV×AV)} {ms:List MapEntry} {i:Nat} {p:Nat} {v:Value},ms.length=es.length->(∀ (i:Nat) m e,ms[i]?=some m->es[i]?=some e->RV g w m.key e.1/\RV g w m.val e.2)->cK k es=true ->
  Instr.findNow (.int k) (.int k n) ms p=some (some (p+i,v))->(∀ y,IR k n y es=es.modify i (λ_=>(.sc (.int k n),y)))/\Ev k n es=es.eraseIdx i/\i<es.length
 | [],ms,i,p,v,hl,_,_,hf=>by
  grind[Instr.findNow]
 | (ek,ev)::es,[],i,p,v,hl,_,_,hf=>by simp at hl
 | (ek,ev)::es,m0::ms,i,p,v,hl,hr,hm,hf=>by
  unfold cK at hm
  split at hm
  .simp_all
  .rename_i k' m' x l he;obtain⟨e1,rfl⟩:=List.cons.inj he;obtain⟨rfl,rfl⟩:=xF e1;simp only [ba,beq_iff_eq] at hm;obtain⟨rfl,hm⟩:=hm;obtain⟨h1,h2⟩:=hr 0 m0 _ rfl rfl;have hk:=h1.Zo;by_cases hn:m'=n
   .simp_all[Instr.findNow,Instr.sameNow,IR,Ev]
   .have hne:(n==m')=false:=qj;simp [Instr.findNow,Instr.sameNow,hk,hne] at hf
    have hi:∃ i',i=i'+1:=by
     cases i with
     | succ i=>simp
     | zero =>
      exfalso;obtain⟨r,f1,f2⟩:=bT (g:=g) (w:=w) (n:=n) ms es (p+1) qH (λi m e hm he=>hr (i+1) m e qH qH) hm
      grind
    obtain⟨i',rfl⟩:=hi;rw [show p+(i'+1)=p+1+i' from qA] at hf;obtain⟨g1,g2,g3⟩:=BO qH (λi m e hm he=>hr (i+1) m e qH qH) hm hf
    grind[IR,Ev]
  .cases hm
theorem BM {k:IntKind} {n:Int} {y:AV}:∀ {es:List (AV×AV)},cK k es=true->Eu k n es=none->IR k n y es=es++[(.sc (.int k n),y)]/\Ev k n es=es
 | [],_,_=>⟨rfl,rfl⟩
 | (ek,ev)::es,hm,hg=>by
  unfold cK at hm
  split at hm
  .simp_all
  .rename_i k' m' x l he;obtain⟨e1,rfl⟩:=List.cons.inj he;obtain⟨rfl,rfl⟩:=xF e1;simp only [ba,beq_iff_eq] at hm;obtain⟨rfl,hm⟩:=hm;by_cases hn:m'=n
   .grind[Eu]
   .simp only [Eu,if_true,if_neg hn] at hg;obtain⟨g1,g2⟩:=BM (y:=y) hm hg
    grind[IR,Ev]
  .cases hm
theorem Me {k:IntKind} {n:Int}:∀ {es:List (AV×AV)} {ms:List MapEntry},ms.length=es.length->(∀ (i:Nat) m e,ms[i]?=some m->es[i]?=some e->RV g w m.key e.1/\RV g w m.val e.2)->cK k es=true->Eu k n es=none->∀ m∈ms,m.key≠.int k n
 | [],ms,hl,_,_,_=>by
  simp_all
 | (ek,ev)::es,[],hl,_,_,_=>by simp at hl
 | (ek,ev)::es,m0::ms,hl,hr,hm,hg=>by
  unfold cK at hm
  split at hm
  .simp_all
  .rename_i k' m' x l he;obtain⟨e1,rfl⟩:=List.cons.inj he;obtain⟨rfl,rfl⟩:=xF e1;simp only [ba,beq_iff_eq] at hm;obtain⟨rfl,hm⟩:=hm;by_cases hn:m'=n
   .grind[Eu]
   .simp only [Eu,if_true,if_neg hn] at hg;intro m hmm;rcases aH.1 hmm with rfl|h
    .rw [(hr 0 m _ rfl rfl).1.Zo]
     simp_all
    .exact Me qH (λi m e h1 h2=>hr (i+1) m e qH qH) hm hg m h
  .cases hm
def World.qA2 (w:World) (b:Nat) (ms:List MapEntry) (clock:Nat):World:={ w with heap:=w.heap.setIfInBounds b (.map ms.toArray clock) }
theorem Rg.qCw (h:Rg P own C w0 g st a w) {n:Nm} {b clock:Nat} {es es':List (AV×AV)} {ms':List MapEntry} (hn:st.hp n=some (.map es)) (hk:g.φ n=some b) (hs:MapKept.Stamped ms'.toArray clock) (hl:ms'.length=es'.length)
  (hr:∀ (i:Nat) m e,ms'[i]?=some m->es'[i]?=some e->RV g w m.key e.1/\RV g w m.val e.2):Rg P own C w0 g (st.Zp n (.map es')) a (World.qA2 w b ms' clock):=by
 have hblk:=h.inv.Z1 n _ b hn hk
 have hother:∀ b',b'≠b->(World.qA2 w b ms' clock).heap[b']?=w.heap[b']?:=by
  grind[World.qA2]
 refine h.wr (b:=b) (w':=World.qA2 w b ms' clock) hn hk rfl rfl rfl (by simp [World.qA2]) (λb' hne _=>hother b' hne) ?_;simp only [OAt,hk];refine⟨ms',clock,?_,hs,hl,λi m e hm he=>?_⟩
 .grind[World.qA2]
 .obtain⟨r1,r2⟩:=hr i m e hm he;have keepC:∀ b',g.C b'->(World.qA2 w b ms' clock).heap[b']?=w.heap[b']?:=λb' hC=>hother b' (λe=>hblk.1 (e ▸ h.inv.hC ▸ hC));exact⟨r1.same (λ_ h=>h) keepC (λ_=>⟨rfl,rfl⟩),r2.same (λ_ h=>h) keepC (λ_=>⟨rfl,rfl⟩)⟩
theorem iA {b:Nat} {ms ms':List MapEntry} {c c':Nat} (h:w.heap[b]?=some (.map ms.toArray c)):(setObj b (.map ms'.toArray c')).run P w=.ok () (World.qA2 w b ms' c'):=by
 grind[setObj,Sem.run,World.qA2]
theorem Mb {o:Oper} {T e:TypeId} {m key x:Operand} {k:IntKind} {i:Int} {n:Nm} {es:List (AV×AV)} (h:Rg P own C w0 g st a w) (ho:o.op=.mapUpdate T m key x\/o.op=.insert T m key x) (hd:o.dst=none) (ht:nK P T=some (k,e))
  (hm:ev st m=.mp n) (hk:ev st key=.sc (.int k i)) (hn:st.hp n=some (.map es)) (hks:cK k es=true):Es P o a w λa' w'=>Rel P own C w0 g (st.Zp n (.map (IR k i (ev st x) es))) a' w':=by
 obtain⟨kt,hT,hkt⟩:=nJ ht;have hmv:=h.ev m;rw [hm] at hmv;have hkv:=h.ev key;rw [hk] at hkv;have hkv:=hkv.Zo;have hx:=h.ev x;have ho':=h.inv.obj n _ hn
 have hb:∃ b,a.eval m=.map (some b)/\g.φ n=some b:=by
  generalize a.eval m=vm at hmv
  cases hmv<;>grind
 obtain⟨b,hmb,hb⟩:=hb;simp only [OAt,hb] at ho';obtain⟨ms,clock,h1,hs0,h2,h3⟩:=ho';have hg:(getObj b).run P w=.ok (.map ms.toArray clock) w:=CS;obtain⟨r,f1,f2⟩:=bT (n:=i) ms es 0 h2 h3 hks;have hck:=aO (P:=P) (w:=w) (n:=i) (b:=false) hkt
 have run:∀ w',(Instr.mapUpdate T (a.eval m) (a.eval key) (a.eval x)).run P w=.ok () w'->(execOp a.eval o).run P w=.ok .skip w':=by
  intro w' e;rcases ho with ho|ho <;> simp [execOp,ho,e]
 split at f2
 .rename_i y hy;obtain⟨j,v',rfl,hv',⟨m1,hm1,hm2,hm3⟩,hjl⟩:=f2;obtain⟨g1,g2,g3⟩:=BO h2 h3 hks f1;have hsb:Instr.sameBits 10000 m1.key (.int k i)=true:=by grind[Instr.sameBits]
  have hold:((ms.toArray[0+j]?).map (·.key)).getD (.int k i)=m1.key:=by simp [hm1]
  refine .inr ⟨World.qA2 w b (ms.modify j (λe=>{ e with key:=.int k i,val:=a.eval x })) clock,run _ ?_,?_⟩
  .have hst:(setObj b (.map (ms.modify j (λe=>{ e with key:=.int k i,val:=a.eval x })).toArray clock)).run P w=.ok () (World.qA2 w b (ms.modify j (λe=>{ e with key:=.int k i,val:=a.eval x })) clock):=iA h1;rw [hmb,hkv];simp only [Instr.mapUpdate,Sem.run_bind,jD hT,Result.andThen_ok,hg,hck,Instr.findKey,jD hkt,f1,Sem.run_pure,Instr.keyThatStays,hold,hsb,if_true]
   simp_all
  .rw [hd];refine⟨g,.refl g,h.qCw hn hb ?_ ?_ ?_⟩
   .have hs1:=MapKept.stamped_modify hs0 (0+j) (λe=>{ e with key:=.int k i,val:=a.eval x }) (λ_ _=>rfl) (λe _ he=>by
     simp_all)
    simp_all
   .simp_all
   grind
 .rename_i hy;subst f2;obtain⟨g1,_⟩:=BM (y:=ev st x) hks hy;refine .inr ⟨World.qA2 w b (ms++[{ key:=.int k i,val:=a.eval x,born:=clock }]) (clock+1),run _ ?_,?_⟩
  .have hst:(setObj b (.map (ms++[({ key:=.int k i,val:=a.eval x,born:=clock }:MapEntry)]).toArray (clock+1))).run P w=.ok () (World.qA2 w b (ms++[{ key:=.int k i,val:=a.eval x,born:=clock }]) (clock+1)):=iA h1
   simp_all[Instr.mapUpdate,Instr.findKey,jD]
  .rw [hd];have hs1:=MapKept.stamped_push (val:=a.eval x) hs0 (key:=.int k i) (by simpa using Me h2 h3 hks hy)
   have e:(ms.toArray.push ({ key:=.int k i,val:=a.eval x,born:=clock }:MapEntry))=(ms++[({ key:=.int k i,val:=a.eval x,born:=clock }:MapEntry)]).toArray:=by
    simp
   rw [e] at hs1;refine⟨g,.refl g,h.qCw hn hb hs1 qH ?_⟩
   grind
theorem Mf {o:Oper} {T e:TypeId} {m key:Operand} {ts:Array TypeId} {k:IntKind} {i:Int} {n:Nm} {es:List (AV×AV)} (h:Rg P own C w0 g st a w) (ho:o.op=.call { callee:=.builtin .delete,args:=#[m,key],argTypes:=ts }) (hts:ts[0]?=some T) (hdn:∀ t,o.dst=some t->t<st.n) (ht:nK P T=some (k,e))
  (hm:ev st m=.mp n) (hk:ev st key=.sc (.int k i)) (hn:st.hp n=some (.map es)) (hks:cK k es=true):Es P o a w λa' w'=>Rel P own C w0 g ((st.Zp n (.map (Ev k i es))).put o.dst (.sc (.tuple #[]))) a' w':=by
 obtain⟨kt,hT,hkt⟩:=nJ ht;have hmv:=h.ev m;rw [hm] at hmv;have hkv:=h.ev key;rw [hk] at hkv;have hkv:=hkv.Zo;have ho':=h.inv.obj n _ hn
 have hb:∃ b,a.eval m=.map (some b)/\g.φ n=some b:=by
  generalize a.eval m=vm at hmv
  cases hmv<;>grind
 obtain⟨b,hmb,hb⟩:=hb;simp only [OAt,hb] at ho';obtain⟨ms,clock,h1,hs0,h2,h3⟩:=ho';have hg:(getObj b).run P w=.ok (.map ms.toArray clock) w:=CS;obtain⟨r,f1,f2⟩:=bT (n:=i) ms es 0 h2 h3 hks;have hck:=λb=>aO (P:=P) (w:=w) (n:=i) (b:=b) hkt
 have run:∀ w',(Builtin.delete_ ts o.type #[a.eval m,a.eval key]).run P w=.ok (.tuple #[]) w'->(execOp a.eval o).run P w=.ok (.value (.tuple #[])) w':=by
  simp_all[execOp,resolve,invoke,builtin]
 split at f2
 .rename_i y hy;obtain⟨j,v',rfl,hv',⟨m1,hm1,hm2,hm3⟩,hjl⟩:=f2;obtain⟨g1,g2,g3⟩:=BO h2 h3 hks f1;refine .inl ⟨.tuple #[],World.qA2 w b (ms.eraseIdx j) clock,run _ ?_,?_⟩
  .have hst:(setObj b (.map (ms.eraseIdx j).toArray clock)).run P w=.ok () (World.qA2 w b (ms.eraseIdx j) clock):=iA h1;rw [hmb,hkv];simp only [Builtin.delete_,hts,List.getElem?_toArray,iU,Ed,Sem.run_bind,jD hT,Result.andThen_ok,hg,hck,Instr.findKey,jD hkt,f1,Sem.run_pure]
   simp_all
  .refine⟨g,.refl g,(h.qCw (n:=n) (clock:=clock) (es':=Ev k i es) (ms':=ms.eraseIdx j) hn hb ?_ ?_ ?_).put (λt e=>by have:=hdn t e;exact this) (.sc _)⟩
   .have hs1:=MapKept.stamped_erase hs0 (0+j)
    simp_all
   .grind
   grind
 .rename_i hy;subst f2;obtain⟨_,g2⟩:=BM (y:=.bot) hks hy;refine .inl ⟨.tuple #[],World.qA2 w b ms clock,run _ ?_,?_⟩
  .have hst:(setObj b (.map ms.toArray clock)).run P w=.ok () (World.qA2 w b ms clock):=iA h1;rw [hmb,hkv];simp only [Builtin.delete_,hts,List.getElem?_toArray,iU,Ed,Sem.run_bind,jD hT,Result.andThen_ok,hg,hck,Instr.findKey,jD hkt,f1,Sem.run_pure,hst]
  .exact⟨g,.refl g,(h.qCw (n:=n) (clock:=clock) (es':=Ev k i es) (ms':=ms) hn hb hs0 qH qj).put (λt e=>by have:=hdn t e;exact this) (.sc _)⟩
end
structure Ctx where
 P:Program
 own:Nat->Prop
 C0:Nat->Prop
 w0:World
 n:Nat
 gl:Nat->Option (List AV)
 ext:Nm->Bool
 g0:Gh
def Ext (X:Ctx) (g:Gh):Prop:=∀ k i j,X.ext (.u k i j)=true->g.φ (.u k i j)=X.g0.φ (.u k i j)/\g.κ (.u k i j)=X.g0.κ (.u k i j)
theorem Ext.step {X:Ctx} {g g':Gh} (h:Ext X g) (hu:Ust g g'):Ext X g':=λk i j e=>⟨(hu k i j).1.trans (h k i j e).1,(hu k i j).2.trans (h k i j e).2⟩
def Rw (X:Ctx) (st:St) (a:Act) (w:World):Prop :=
 ∃ C g,(∀ b,X.C0 b->C b)/\(∀ b,C b->X.C0 b\/X.w0.heap.size<=b\/X.own b)/\st.n=X.n/\st.gl=X.gl/\Ext X g/\Rg X.P X.own C X.w0 g st a w
def RwV (X:Ctx) (st:St) (a:Act) (w:World) (v:Value) (x:AV):Prop :=
 ∃ C g,(∀ b,X.C0 b->C b)/\(∀ b,C b->X.C0 b\/X.w0.heap.size<=b\/X.own b)/\st.n=X.n/\st.gl=X.gl/\Ext X g/\Rg X.P X.own C X.w0 g st a w/\RV g w v x
def qS (X:Ctx) (o:Oper) (K:St->Prop) (E:AV->St->Prop) (st:St):Prop :=
 ∀ (a:Act) (w:World) (Q:Exit->Act->World->Prop),Rw X st a w->(∀ v w' st' x,RwV X st' a w' v x->E x st'->Q (.panic [{ v:=v,recovered:=false }]) a w') ->
  o.wp X.P a w (λa' w'=>∃ st',Rw X st' a' w'/\K st') Q
section
variable {X:Ctx} {st:St} {a:Act} {w:World} {K:St->Prop} {E:AV->St->Prop}
theorem qS.qAq {o:Oper} {st':St} (h:∀ C g a w,st.n=X.n->Rg X.P X.own C X.w0 g st a w->Es X.P o a w λa' w'=>Rel X.P X.own C X.w0 g st' a' w') (hn:st'.n=st.n/\st'.gl=st.gl) (hK:K st'):qS X o K E st:=by
 intro a w Q hR _;obtain⟨C,g,h1,h2,h3,h4,h5,hg⟩:=hR;refine Es.wp ?_ Q;rcases h C g a w h3 hg with⟨v,w',e,g',u,hr⟩|⟨w',e,g',u,hr⟩
 .exact .inl ⟨v,w',e,st',⟨C,g',h1,h2,hn.1.trans h3,hn.2.trans h4,h5.step u,hr⟩,hK⟩
 .exact .inr ⟨w',e,st',⟨C,g',h1,h2,hn.1.trans h3,hn.2.trans h4,h5.step u,hr⟩,hK⟩
theorem Fb (st:St) (d:Option Nat) (x:AV):(st.put d x).n=st.n:=by cases d <;> rfl
theorem r8 (st:St) (d:Option Nat) (x:AV):(st.put d x).gl=st.gl:=by cases d <;> rfl
theorem Rn (st:St) (d:Option Nat) (x:AV):(st.put d x).hp=st.hp:=by cases d <;> rfl
theorem Lv {o:Oper} (hn:∀ d,o.dst=some d->d<X.n) {z:AV} (hz:qev X.P st o=some z) (hK:K (st.put o.dst z)):qS X o K E st:=by
 refine .qAq (λC g a w e h=>?_) ⟨Fb _ _ _,r8 _ _ _⟩ hK;obtain⟨v,e1,e2⟩:=DZ h hz;exact .inl ⟨v,w,e1,g,.refl g,h.put (λt e'=>qH) e2⟩
theorem J1 {o:Oper} {x:Operand} {d:Nat} (ho:o.op=.assign x) (hd:o.dst=some d) (hn:d<X.n) (hK:K (HO X.P o.type d (ev st x) st)):qS X o K E st:=by
 refine .qAq (λ_ _ _ _ e h=>O1 h ho hd (e ▸ hn)) ?_ hK;unfold HO
 split
 .exact⟨rfl,rfl⟩
 .split
  .split <;> exact⟨rfl,rfl⟩
  .exact⟨rfl,rfl⟩
theorem OR {P:Program} {T:TypeId} {d:Nat} {cs:List AV}:(lg P T d cs st).n=st.n/\(lg P T d cs st).gl=st.gl:=by
 unfold lg;simp only [sx,Fb,r8,St.Zp,fR];exact⟨rfl,rfl⟩
theorem Sl {o:Oper} {T:TypeId} {x:Operand} {d:Nat} {cs:List AV} (ho:o.op=.box T x) (hd:o.dst=some d) (hn:d<X.n) (hq:(ev st x).cells=some cs) (hz:cs.length=Zq X.P T) (hK:K (lg X.P T d cs st)):qS X o K E st :=
 .qAq (λ_ _ _ _ e h=>OQ h ho hd (e ▸ hn) hq hz) OR hK
theorem Ly {o:Oper} {T:TypeId} {d:Nat} {zs:List AV} (ho:o.op=.alloc T) (hd:o.dst=some d) (hn:d<X.n) (hq:yn X.P T=some zs) (hK:K (lg X.P T d zs st)):qS X o K E st :=
 .qAq (λ_ _ _ _ e h=>HP h ho hd (e ▸ hn) hq) OR hK
theorem S9 {P:Program} {T:TypeId} {n:Nm} {z i off:Nat} {v0:List AV} {rows:List (List AV)} {vals:List AV}:(Ac n z i off rows vals (xN P T n i off v0 st)).n=st.n/\(Ac n z i off rows vals (xN P T n i off v0 st)).gl=st.gl:=by
 grind[Ac,xN,sx,St.Zp,xH]
theorem DD {o:Oper} {T:TypeId} {p x:Operand} {n:Nm} {z i off:Nat} {v0 v1:List AV} {rows:List (List AV)} (ho:o.op=.store T p x) (hd:o.dst=none) (hT:(X.P.info? T).isSome)
  (hv0:(ev st x).cells=some v0) (hlen:v0.length=Zq X.P T) (hp0:pl (ev st p)=some (n,i,off)) (hp1:pl (ev (xN X.P T n i off v0 st) p)=some (n,i,off)) (hv1:(ev (xN X.P T n i off v0 st) x).cells=some v1)
  (hsame:v1.map zT=v0.map zT) (hrows:iY (xN X.P T n i off v0 st) (ev (xN X.P T n i off v0 st) p)=some (z,rows)) (hi:i<rows.length) (hoff:off+v1.length<=z)
  (hK:K (Ac n z i off rows (Ol X.P T n i off v1) (xN X.P T n i off v0 st))):qS X o K E st :=
 .qAq (λ_ _ _ _ _ h=>L9 h ho hd hT hv0 hlen hp0 hp1 hv1 hsame hrows hi hoff) S9 hK
theorem xj {o:Oper} {T F:TypeId} {s x:Operand} {d z len:Nat} {n:Nm} {rows0 rows2:List (List AV)} (ho:o.op=.call { callee:=.builtin .append,args:=#[s,x],argTypes:=#[T,T] }) (hd:o.dst=some d) (hdn:d<X.n)
  (hT:cG X.P T=some F) (hz:Zq X.P F=z) (hs:ev st s=.hs n z 0 len) (hn:st.hp n=some (.row z rows0)) (hle:len<=rows0.length) (hx:uH st z (ev st x)=some rows2) (hlen:len+rows2.length<=4294967296)
  (hK:K (xV d z (len+rows2.length) (some n) (rows0.take len++rows2) st)):qS X o K E st :=
 .qAq (λ_ _ _ _ e h=>RK h ho hd (e ▸ hdn) hT hz hs hn hle hx hlen) ⟨rfl,rfl⟩ hK
theorem FW {o:Oper} {T F:TypeId} {s x:Operand} {d z:Nat} {rows2:List (List AV)} (ho:o.op=.call { callee:=.builtin .append,args:=#[s,x],argTypes:=#[T,T] }) (hd:o.dst=some d) (hdn:d<X.n)
  (hT:cG X.P T=some F) (hz:Zq X.P F=z) (hs:ev st s=.sc (.slice none 0 0)) (hx:uH st z (ev st x)=some rows2) (hlen:rows2.length<=4294967296)
  (hK:K (xV d z rows2.length none rows2 st)):qS X o K E st :=
 .qAq (λ_ _ _ _ e h=>O3 h ho hd (e ▸ hdn) hT hz hs hx hlen) ⟨rfl,rfl⟩ hK
theorem Pd {o:Oper} {T F:TypeId} {x y:Operand} {d l z:Nat} {k k':IntKind} {zv:List AV} (ho:o.op=.makeSlice T x y) (hd:o.dst=some d) (hn:d<X.n)
  (hx:ev st x=.sc (.int k l)) (hy:ev st y=.sc (.int k' l)) (hE:cG X.P T=some F) (hz:Zq X.P F=z) (hzv:yn X.P F=some zv) (hl:l<=4294967296) (hK:K (Vy d z l zv st)):qS X o K E st :=
 .qAq (λ_ _ _ _ e h=>QU h ho hd (e ▸ hn) hx hy hE hz hzv hl) ⟨rfl,rfl⟩ hK
theorem WM {P:Program} {F:TypeId} {d z:Nat} {rows:List (List AV)}:(RF P F d z rows st).n=st.n/\(RF P F d z rows st).gl=st.gl:=by
 unfold RF;simp only [sx,Fb,r8,St.Zp,fR];exact⟨rfl,rfl⟩
theorem Lx {o:Oper} {T F:TypeId} {d len z:Nat} {parts:Array (Nat×Operand)} {rows:List (List AV)} (ho:o.op=.buildSlice T len parts) (hd:o.dst=some d) (hn:d<X.n)
  (hE:cG X.P T=some F) (hz:Zq X.P F=z) (hrows:iX st parts.toList=some rows) (c1:parts.toList.map (·.1)=List.range len) (c2:len * z<=16777216) (c3:rows.all (λr=>r.length==z)=true) (hK:K (RF X.P F d z rows st)):qS X o K E st :=
 .qAq (λ_ _ _ _ e h=>RE h ho hd (e ▸ hn) hE hz hrows c1 c2 c3) WM hK
theorem Sk {o:Oper} {T:TypeId} {d:Nat} (ho:o.op=.makeMap T none) (hd:o.dst=some d) (hn:d<X.n) (hK:K (Vx d st)):qS X o K E st :=
 .qAq (λ_ _ _ _ e h=>QT h ho hd (e ▸ hn)) ⟨rfl,rfl⟩ hK
theorem Al {o:Oper} {T e:TypeId} {m key x:Operand} {k:IntKind} {i:Int} {n:Nm} {es:List (AV×AV)} (ho:o.op=.mapUpdate T m key x\/o.op=.insert T m key x) (hd:o.dst=none) (ht:nK X.P T=some (k,e))
  (hm:ev st m=.mp n) (hk:ev st key=.sc (.int k i)) (hn:st.hp n=some (.map es)) (hks:cK k es=true) (hK:K (st.Zp n (.map (IR k i (ev st x) es)))):qS X o K E st :=
 .qAq (λ_ _ _ _ _ h=>Mb h ho hd ht hm hk hn hks) ⟨rfl,rfl⟩ hK
theorem J0 {o:Oper} {T e:TypeId} {m key:Operand} {ts:Array TypeId} {k:IntKind} {i:Int} {n:Nm} {es:List (AV×AV)} (ho:o.op=.call { callee:=.builtin .delete,args:=#[m,key],argTypes:=ts }) (hts:ts[0]?=some T) (hdn:∀ t,o.dst=some t->t<X.n) (ht:nK X.P T=some (k,e))
  (hm:ev st m=.mp n) (hk:ev st key=.sc (.int k i)) (hn:st.hp n=some (.map es)) (hks:cK k es=true) (hK:K ((st.Zp n (.map (Ev k i es))).put o.dst (.sc (.tuple #[])))):qS X o K E st :=
 .qAq (λ_ _ _ _ e h=>Mf h ho hts (λt e'=>qH) ht hm hk hn hks) ⟨Fb _ _ _,r8 _ _ _⟩ hK
theorem Rw.qDQ {d:Nat} {v:Value} {x:AV} (h:Rw X st a w) (hd:d<X.n) (hv:∀ C g,Rg X.P X.own C X.w0 g st a w->RV g w v x):Rw X (st.put (some d) x) (a.put (some d) v) w:=by
 obtain⟨C,g,h1,h2,h3,h4,h5,hr⟩:=h;exact⟨C,g,h1,h2,h3,h4,h5,hr.put (λt e=>qH) (hv C g hr)⟩
theorem Rw.move (h:Rw X st a w) (n0 n1:Nm) (h0:n0.isU=false\/X.ext n0=false) (h1:n1.isU=false\/X.ext n1=false):Rw X (st.move n0 n1) a w:=by
 obtain⟨C,g,e1,e2,e3,e4,e5,hr⟩:=h;refine⟨C,_,e1,e2,e3,e4,?_,hr.move n0 n1⟩;intro k i j he
 have hne:∀ m:Nm,m.isU=false\/X.ext m=false->Nm.under m (.u k i j)=false:=by
  grind[FH,Nm.under]
 have e:Hm.mv n0 n1 (.u k i j)=some (.u k i j):=by grind[mv]
 obtain⟨x1,x2⟩:=Gh.qAf (g:=g) (λ_ _ _=>IP) e;obtain⟨y1,y2⟩:=e5 k i j he
 simp_all
theorem Rw.weaken (h:Rw X st a w) (hp':Nm->Option AO) (sub:∀ m o,hp' m=some o->st.hp m=some o):Rw X { tm:=st.tm,hp:=hp',n:=st.n,gl:=st.gl } a w:=by
 obtain⟨C,g,e1,e2,e3,e4,e5,hr⟩:=h;exact⟨C,g,e1,e2,e3,e4,e5,hr.weaken hp' sub⟩
end
inductive Bw (hp:Nm->Option AO) (D:Nm->Bool):AV->AV->Prop
 | refl (a:AV):Bw hp D a a
 | nil (z:Nat):Bw hp D (.sc (.slice none 0 0)) (.sl z [])
 | emp (z z':Nat):Bw hp D (.sl z []) (.sl z' [])
 | sl (z:Nat) (rows rows':List (List AV)) (hl:rows.length=rows'.length) (hz:∀ (i:Nat) r r',rows[i]?=some r->rows'[i]?=some r'->r.length=r'.length)
   (h:∀ (i:Nat) r r',rows[i]?=some r->rows'[i]?=some r'->∀ (j:Nat) a a',r[j]?=some a->r'[j]?=some a'->Bw hp D a a'):Bw hp D (.sl z rows) (.sl z rows')
 | hs (n:Nm) (z lo len:Nat) (rows rows':List (List AV)) (hD:D n=false) (hn:hp n=some (.row z rows)) (hle:lo+len<=rows.length) (hl:rows'.length=len) (hz:∀ r'∈rows',r'.length=z)
   (h:∀ (i:Nat) r r',rows[lo+i]?=some r->rows'[i]?=some r'->∀ (j:Nat) a a',r[j]?=some a->r'[j]?=some a'->Bw hp D a a'):Bw hp D (.hs n z lo len) (.sl z rows')
 | pt (n:Nm) (z off:Nat) (r r':List AV) (rows:List (List AV)) (hD:D n=false) (hn:hp n=some (.row z (r::rows))) (hl:r.length=r'.length) (h:∀ (j:Nat) a a',r[j]?=some a->r'[j]?=some a'->Bw hp D a a'):Bw hp D (.pt n off) (.el r' off)
 | ep (n:Nm) (z i off:Nat) (r r':List AV) (rows:List (List AV)) (hD:D n=false) (hn:hp n=some (.row z rows)) (hi:rows[i]?=some r) (hl:r.length=r'.length) (h:∀ (j:Nat) a a',r[j]?=some a->r'[j]?=some a'->Bw hp D a a'):Bw hp D (.ep n z i off) (.el r' off)
 | agg (cs cs':List AV) (hl:cs.length=cs'.length) (h:∀ (j:Nat) a a',cs[j]?=some a->cs'[j]?=some a'->Bw hp D a a'):Bw hp D (.agg cs) (.agg cs')
 | tup (cs cs':List AV) (hl:cs.length=cs'.length) (h:∀ (j:Nat) a a',cs[j]?=some a->cs'[j]?=some a'->Bw hp D a a'):Bw hp D (.tup cs) (.tup cs')
 | ifc (t:TypeId) (a a':AV) (h:Bw hp D a a'):Bw hp D (.ifc t a) (.ifc t a')
 | fn (f:Fn) (xs xs' ys ys':List AV) (hl:xs.length=xs'.length) (hl2:ys.length=ys'.length) (h:∀ (j:Nat) a a',xs[j]?=some a->xs'[j]?=some a'->Bw hp D a a') (h2:∀ (j:Nat) a a',ys[j]?=some a->ys'[j]?=some a'->Bw hp D a a'):Bw hp D (.fn f xs ys) (.fn f xs' ys')
def Gh.more (g:Gh) (C:Nat->Prop):Gh:={ C:=C,φ:=g.φ,κ:=g.κ }
theorem RV.more {g:Gh} {w:World} {v:Value} {a:AV} {C:Nat->Prop} (h:RV g w v a) (hC:∀ b,g.C b->C b):RV (g.more C) w v a :=
 h.same hC (λ_ _=>rfl) (λ_=>⟨rfl,rfl⟩)
theorem RV.bw {own:Nat->Prop} {C:Nat->Prop} {w0:World} {g:Gh} {hp:Nm->Option AO} {w:World} {D:Nm->Bool} {C':Nat->Prop} (hi:Inv own C w0 g hp w) (hC:∀ b,C b->C' b)
  (hD:∀ n o b,D n=false->hp n=some o->g.φ n=some b->C' b) {a a':AV} (hb:Bw hp D a a'):∀ {v:Value},RV g w v a->RV (g.more C') w v a':=by
 have hgC:∀ b,g.C b->C' b:=λb h=>hC b (hi.hC ▸ h)
 induction hb with
 | refl a=>exact λh=>h.more hgC
 | nil z=>intro v h;rw [h.Zo];exact .slN _ _ _
 | emp z z' =>
  intro v h
  cases h with
  | slN=>exact .slN _ _ _
  | slC b off cap n z rows f hCb hn hcap=>simp at hn;subst hn;exact .slN _ _ _
 | sl z rows rows' hl hz _ ih =>
  intro v h
  cases h with
  | slN ad cap z =>
   have:rows'=[]:=gj qH;subst this;exact .slN _ _ _
  | slC b off cap n z rows f hCb hn hcap hu hcell ho hr =>
   refine .slC b off cap n z rows' f (hgC b hCb) qA hcap ?_ hcell ho ?_
   .intro r hr';obtain⟨i,hi'⟩:=eW hr';have hlt:i<rows.length:=qj;rw [<- hz i _ r (gE hlt) hi']
    simp_all
   .intro i row hrow j a ha;have hlt:i<rows.length:=qj;have e:=hz i _ row (gE hlt) hrow
    grind
 | hs n z lo len rows rows' hDn hn hle hl hz _ ih =>
  intro v h
  cases h with
  | hsN =>
   have:rows'=[]:=gj hl;subst this;exact .slN _ _ _
  | hsB _ _ _ _ b cap ad hk h1 h2 h3 =>
   by_cases h0:len=0
   .subst h0;have:rows'=[]:=gj hl;subst this;exact .slN _ _ _
   .rw [h3 qA];have ho:=hi.obj n _ hn;simp only [OAt,hk] at ho;obtain⟨cur,T,c1,c2,c3,c4,c5,c6,c7⟩:=ho
    have bnd:∀ i j,i<len->j<z->(lo+i) * z+j<rows.length * z:=by
     intro i j hi hj;have:(lo+i+1) * z<=rows.length * z:=gk _ qA
     grind
    have hcs:rows.length * z<=cur.size:=by simp_all[gk]
    refine .slC b (lo * z) cap len z rows' (λi j=>cur.getD ((lo+i) * z+j) undef) (hD n _ b hDn hn hk) hl h1 hz ?_ ?_ ?_
    .simp_all<;>grind[cell_of_row]
    .simp_all
    .intro i row hrow j a ha
     have hi':lo+i<rows.length:=by
      grind
     have hr0:=c5 _ (List.getElem_mem hi');have hj:j<rows[lo+i].length:=qj;exact ih i _ row (gE hi') hrow j _ a (gE hj) ha (c7 (lo+i) _ (gE hi') j _ (gE hj))
 | pt n z off r r' rows hDn hn hl _ ih =>
  intro v h
  cases h with
  | pt _ _ b hk =>
   obtain⟨f,f1,f2,f3⟩:=hi.rowAt hn hk (i:=0) rfl
   have:=RV.el (g:=g.more C') (w:=w) b 0 off r' f (hD n _ b hDn hn hk) (λj hj=>qH) (λj hj=>f2 j qA) (λj a ha=>by
    have hj:j<r.length:=qj;exact ih j _ a (gE hj) ha (f3 j _ (gE hj)))
   simp_all
 | ep n z i off r r' rows hDn hn hi' hl _ ih =>
  intro v h
  cases h with
  | ep _ _ _ _ b hk =>
   obtain⟨f,f1,f2,f3⟩:=hi.rowAt hn hk hi'
   exact RV.el (g:=g.more C') (w:=w) b (i * z) off r' f (hD n _ b hDn hn hk) (λj hj=>f1 j qA) (λj hj=>f2 j qA) (λj a ha=>by
    have hj:j<r.length:=qj;exact ih j _ a (gE hj) ha (f3 j _ (gE hj)))
 | agg cs cs' hl _ ih =>
  intro v h
  cases h with
  | agg vs _ hl2 hr =>
   constructor<;>grind
 | tup cs cs' hl _ ih =>
  intro v h
  cases h with
  | tup vs _ hl2 hr =>
   constructor<;>grind
 | ifc t a a' _ ih =>
  intro v h
  cases h with
  | ifc _ v _ h=>constructor<;>grind
 | fn f xs xs' ys ys' hl hl2 _ _ ih ih2 =>
  intro v h
  cases h with
  | fn _ vs us _ _ k1 k2 hr hr2 =>
   constructor<;>grind
mutual
def AV.cln:AV->Bool
 | .sc _=>true
 | .sl _ rows=>rows.isEmpty
 | .el _ _=>false
 | .hs _ _ _ _=>true
 | .pt _ _=>true
 | .ep _ _ _ _=>true
 | .mp _=>true
 | .agg cs=>Tx cs
 | .tup cs=>Tx cs
 | .ifc _ a=>AV.cln a
 | .fn _ xs ys=>Tx xs&&Tx ys
 | .bot=>true
def Tx:List AV->Bool
 | []=>true
 | a::l=>AV.cln a&&Tx l
end
theorem sm (l:List AV):Tx l=l.all AV.cln:=by
 induction l<;>grind[Tx]
def AO.cln:AO->Bool
 | .row _ rows=>rows.all (λr=>r.all AV.cln)
 | .map es=>es.all (λe=>e.1.cln&&e.2.cln)
 | .qCG _ _ _ rows=>rows.all (λr=>r.all AV.cln)
theorem RV.cln {g:Gh} {w:World} {v:Value} {a:AV} (C':Nat->Prop) (h:RV g w v a) (hc:a.cln=true):RV (g.more C') w v a:=by
 induction h with
 | sc v=>exact .sc v
 | slN ad cap z=>exact .slN ad cap z
 | slC b off cap n z rows f hC hn hcap hu hcell ho hr ih =>
  simp only [AV.cln,List.isEmpty_iff] at hc;subst hc;simp only [Ek] at hn;subst hn;exact .slN _ _ _
 | el b o off row f hC hcell ho hr ih=>grind[AV.cln]
 | hsN n z hk=>exact .hsN n z hk
 | hsB n z lo len b cap ad hk h1 h2 h3=>exact .hsB n z lo len b cap ad hk h1 h2 h3
 | pt n off b hk=>exact .pt n off b hk
 | ep n z i off b hk=>exact .ep n z i off b hk
 | mp n b hk=>exact .mp n b hk
 | agg vs cs hl hr ih =>
  constructor<;>grind[AV.cln,sm]
 | tup vs cs hl hr ih =>
  constructor<;>grind[AV.cln,sm]
 | ifc t v a h ih=>exact .ifc t v a (ih hc)
 | fn f vs us xs ys hl hl2 hr hr2 ih ih2 =>
  constructor<;>grind[AV.cln,sm]
 | bot v=>exact .bot v
def cE (P:Program) (f:FuncId):Prop:=∃ fn,P.funcs[f]?=some fn/\(fn.name == "runtime.NumGoroutine")=false/\fn.body.isNone=false
structure qB4 (own:Nat->Prop) (C:Nat->Prop) (w:World) (g:Gh) (D:Nm->Bool) (root:Nm) (H:Nm->Option AO) (H':Nm->Option AO) (C':Nat->Prop) (g':Gh) (w':World):Prop where
 mono:∀ b,C b->C' b
 new:∀ b,C' b->C b\/w.heap.size<=b\/own b
 inv:Inv own C' w g' H' w'
 dom:∀ n,H' n≠none->D n=true\/Nm.under root n=true
 same:∀ n,D n=false->Nm.under root n=false->g'.φ n=g.φ n/\g'.κ n=g.κ n
 ust:∀ k i j,H (.u k i j)≠none->g'.φ (.u k i j)=g.φ (.u k i j)/\g'.κ (.u k i j)=g.κ (.u k i j)
def oh (g:Gh) (H:Nm->Option AO) (b:Nat):Prop:=∃ n,H n≠none/\g.φ n=some b
def Zj (P:Program) (gl:Nat->Option (List AV)) (f:FuncId) (D:Nm->Bool) (az:List AV) (H:Nm->Option AO) (R E:Nm->AV->(Nm->Option AO)->Prop):Prop :=
 cE P f/\∀ (root:Nm) (C:Nat->Prop) (w:World) (g:Gh) (args:Array Value),
  (∀ n,Nm.under root n=true->D n=false)->root.isU=false->(∀ n,H n≠none->D n=true) ->
  Inv (oh g H) C w g H w ->
  (∀ i row,gl i=some row->(RV g w (.pointer (some ⟨i,0,none⟩)) (.el row 0)/\Exw w i row)/\∀ f:Nm->Option Nm,row.map (AV.tr f)=row) ->
  args.size=az.length->(∀ (j:Nat) v x,args[j]?=some v->az[j]?=some x->RV g w v x) ->
  Calls P f args w fun
   | .returned v,w'=>∃ C' g' H' x,qB4 (oh g H) C w g D root H H' C' g' w'/\RV g' w' v x/\R root x H'
   | .panicked ch,w'=>∃ C' g' H' x v,qB4 (oh g H) C w g D root H H' C' g' w'/\ch=[{ v:=v,recovered:=false }]/\RV g' w' v x/\E root x H'
   | .outgrown,_=>False
def noE:Nm->AV->(Nm->Option AO)->Prop:=λ_ _ _=>False
def noD:Nm->Bool:=λ_=>false
def noH:Nm->Option AO:=λ_=>none
def qb (P:Program) (gl:Nat->Option (List AV)) (f:FuncId) (az:List AV) (R:Nm->AV->(Nm->Option AO)->Prop):Prop:=Zj P gl f noD az noH R noE
section
variable {P:Program} {own:Nat->Prop} {C:Nat->Prop} {w0:World} {g:Gh} {st:St} {a:Act} {w:World}
theorem Rg.qDh (h:Rg P own C w0 g st a w) {C':Nat->Prop} {g':Gh} {w':World} {f:Nm->Option Nm} {hp':Nm->Option AO}
  (gC:g'.C=C') (hCC:∀ b,C b->C' b) (hclt:∀ b,C' b->b<w'.heap.size) (gf:∀ n n',f n=some n'->g'.φ n'=g.φ n/\g'.κ n'=g.κ n)
  (h1:w'.os=w.os) (h2:w'.tape=w.tape) (h3:w'.output=w.output) (h4:w.heap.size<=w'.heap.size)
  (hw:∀ b,C b->w'.heap[b]?=w.heap[b]?) (hkeep:∀ b,b<w0.heap.size->¬ own b->w'.heap[b]?=w.heap[b]?)
  (hobj:∀ n' o',hp' n'=some o' ->
    (∃ n o,f n=some n'/\st.hp n=some o/\o'=o.tr f/\∀ b,g.φ n=some b->w'.heap[b]?=w.heap[b]?/\¬ C' b) \/
    (OAt g' w' n' o'/\∀ b,g'.φ n'=some b->(¬ C' b/\(w0.heap.size<=b\/own b)/\b<w'.heap.size)/\∀ n'' o'',hp' n''=some o''->g'.φ n''=some b->n''=n')) :
  Rg P own C' w0 g' (st.nm f hp') a w':=by
 obtain⟨i,hd,hs,hsl,hgl⟩:=h;have hwg:∀ b,g.C b->w'.heap[b]?=w.heap[b]?:=λb hb=>hw b (i.hC ▸ hb);have gCf:∀ b,g.C b->g'.C b:=λb hb=>by rw [gC];grind[Inv.hC]
 have rv:∀ {v:Value} {x:AV},RV g w v x->RV g' w' v (x.tr f):=λhv=>hv.tr gCf hwg gf
 have old:∀ n' o' b,hp' n'=some o'->g'.φ n'=some b ->
   (∃ n o,f n=some n'/\st.hp n=some o/\g.φ n=some b/\¬ C' b)\/((¬ C' b/\(w0.heap.size<=b\/own b)/\b<w'.heap.size)/\∀ n'' o'',hp' n''=some o''->g'.φ n''=some b->n''=n'):=by
  grind
 refine⟨⟨h1.trans i.os,h2.trans i.tape,h3.trans i.output,vk i.size h4,λb hb ho=>(hkeep b hb ho).trans (i.qB7 b hb ho),gC,hclt,?_,?_,?_⟩,
  hd,hs,λt=>rv (hsl t),λj row e=>⟨?_,(hgl j row e).2⟩⟩
 .intro n' o' hn';rcases hobj n' o' hn' with⟨n,o,e1,e2,rfl,e4⟩|⟨e,_⟩
  .exact (i.obj n o e2).tr gCf hwg gf e1 (λb hb=>(e4 b hb).1)
  .exact e
 .intro n' o' b hn' hb;rcases old n' o' b hn' hb with⟨n,o,_,e2,e3,e4⟩|⟨e,_⟩
  .obtain⟨x1,x2,x3⟩:=i.Z1 n o b e2 e3
   grind
  .exact e
 .intro n1 n2 o1 o2 b hn1 hn2 hb1 hb2;rcases old n1 o1 b hn1 hb1 with⟨m1,p1,e1,e2,e3,_⟩|⟨_,e⟩
  .rcases old n2 o2 b hn2 hb2 with⟨m2,p2,f1,f2,f3,_⟩|⟨_,e'⟩
   .have:=i.inj m1 m2 p1 p2 b e2 f2 e3 f3
    simp_all
   .exact e' n1 o1 hn1 hb1
  .exact (e n2 o2 hn2 hb2).symm
 .refine⟨?_,(hgl j row e).1.2.same (hgl j row e).1.1 hwg⟩;have:=rv (hgl j row e).1.1
  simpa only [AV.tr,o8,(hgl j row e).2 f] using this
def cf (d:Nat) (D:Nm->Bool) (H:Nm->Option AO) (m:Nm):Option Nm :=
 if Nm.under (.s d) m then none else if D m then (if m.isU&&(H m).isSome then some m else none) else some m
def St.call (st:St) (d:Nat) (D:Nm->Bool) (H H':Nm->Option AO):St :=
 st.nm (cf d D H) (λm=>if D m||Nm.under (.s d) m then H' m else (st.hp m).map (AO.tr (cf d D H)))
def qAH (H':Nm->Option AO):Nm->Option AO:=λm=>match H' m with|some o=>if o.cln then some o else none|none=>none
def LE (x:AV):AV:=if x.cln then x else .bot
theorem Ty {d:Nat} {D:Nm->Bool} {H:Nm->Option AO} {m m':Nm} (h:cf d D H m=some m'):m=m'/\Nm.under (.s d) m=false/\(D m=true->m.isU=true/\H m≠none):=by
 grind[cf]
theorem Rg.after (h:Rg P own C w0 g st a w) {d:Nat} {D:Nm->Bool} {H H' H'':Nm->Option AO} {C1 C' C'':Nat->Prop} {g':Gh} {w':World}
  (hH:∀ n,D n=true->st.hp n=H n) (hHD:∀ n,H n≠none->D n=true) (hf:qB4 (oh g H) C1 w (g.more C1) D (.s d) H H' C' g' w')
  (hCC:∀ b,C b->C'' b) (hC'':∀ b,C'' b->C b\/C' b/\(w.heap.size<=b\/oh g H b)) (nD:∀ n o,H'' n=some o->H' n=some o) (hob:∀ n o,H'' n=some o->OAt (g'.more C'') w' n o) :
  Rg P own C'' w0 (g'.more C'') (st.call d D H H'') a w'/\∀ k i j,D (.u k i j)=false\/H (.u k i j)≠none->(g'.more C'').φ (.u k i j)=g.φ (.u k i j)/\(g'.more C'').κ (.u k i j)=g.κ (.u k i j):=by
 have ownlt:∀ b,oh g H b->¬ C b/\(w0.heap.size<=b\/own b)/\b<w.heap.size:=by
  rintro b ⟨n,hn,hk⟩;obtain⟨o,ho⟩:=CZ.1 hn;exact h.inv.Z1 n o b qH hk
 have frame:∀ m o b,D m=false->st.hp m=some o->g.φ m=some b->¬ oh g H b:=by
  rintro m o b hD hm hk ⟨n,hn,hk'⟩;obtain⟨o',ho'⟩:=CZ.1 hn;have:=h.inv.inj m n o o' b hm qH hk hk'
  simp_all
 have qB7:∀ b,b<w.heap.size->¬ oh g H b->w'.heap[b]?=w.heap[b]?:=λb hb ho=>hf.inv.qB7 b hb ho
 have gf:∀ n n',cf d D H n=some n'->(g'.more C'').φ n'=g.φ n/\(g'.more C'').κ n'=g.κ n:=by
  intro n n' e;obtain⟨rfl,e2,e3⟩:=Ty e
  cases hD:D n with
  | false=>exact hf.same n hD e2
  | true =>
   obtain⟨x1,x2⟩:=e3 hD
   cases n with
   | u k i j=>exact hf.ust k i j x2
   | s _=>grind[Nm.isU]
   | c _ _ _=>grind[Nm.isU]
 have old1:∀ m o b,D m=false->Nm.under (.s d) m=false->st.hp m=some o->g.φ m=some b->w'.heap[b]?=w.heap[b]?/\¬ C'' b:=by
  intro m o b hD hu hm hk;obtain⟨x1,x2,x3⟩:=h.inv.Z1 m o b hm hk
  grind
 have newb:∀ n o b,H'' n=some o->g'.φ n=some b->¬ C' b/\(w.heap.size<=b\/oh g H b)/\b<w'.heap.size:=λn o b hn hk=>hf.inv.Z1 n o b (nD n o hn) hk
 have key:∀ n' o',(st.call d D H H'').hp n'=some o'->(H'' n'=some o'/\(D n'=true\/Nm.under (.s d) n'=true))\/∃ o,D n'=false/\Nm.under (.s d) n'=false/\st.hp n'=some o/\o'=o.tr (cf d D H):=by
  grind[St.call,St.nm,ku]
 refine⟨h.qDh (g':=g'.more C'') (f:=cf d D H) (hp':=(st.call d D H H'').hp) rfl hCC (λb hb=>?_) gf hf.inv.os hf.inv.tape hf.inv.output hf.inv.size ?_ ?_ ?_,?_⟩
 .rcases hC'' b hb with hc|⟨hc,_⟩
  .exact aR (h.inv.clt b hc) hf.inv.size
  .exact hf.inv.clt b hc
 .intro b hb;exact qB7 b (h.inv.clt b hb) (λho=>(ownlt b ho).1 hb)
 .intro b hb hno;refine qB7 b (aR hb h.inv.size) (λho=>?_)
  grind
 .intro n' o' e;rcases key n' o' e with⟨e1,e2⟩|⟨o,e1,e2,e3,e4⟩
  .right;refine⟨hob n' o' e1,λb hb=>?_⟩;obtain⟨x1,x2,x3⟩:=newb n' o' b e1 hb;refine⟨⟨λhc=>?_,?_,x3⟩,λn'' o'' e'' hb''=>?_⟩
   .rcases hC'' b hc with hc|⟨hc,_⟩
    .rcases x2 with x2|x2
     .have:=h.inv.clt b hc;omega
     simp_all
    simp_all
   .rcases x2 with x2|x2
    .exact .inl (vk h.inv.size x2)
    simp_all
   .rcases key n'' o'' e'' with⟨f1,f2⟩|⟨o2,f1,f2,f3,f4⟩
    .exact hf.inv.inj n'' n' o'' o' b (nD _ _ f1) (nD _ _ e1) hb'' hb
    grind[cf]
  grind[cf]
 .intro k i j hk;have hu:Nm.under (.s d) (.u k i j)=false:=wH
  cases hD:D (.u k i j) with
  | false=>grind[cf]
  | true =>
   rcases hk with hk|hk
   .simp_all
   .exact hf.ust k i j hk
end
end Go.Hm
end
