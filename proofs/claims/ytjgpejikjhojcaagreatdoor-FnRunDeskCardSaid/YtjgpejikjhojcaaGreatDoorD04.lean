import Derived.Test.YtjgpejikjhojcaaGreatDoorD03
set_option linter.all false
set_option maxRecDepth 100000
set_option maxHeartbeats 4000000
open Option renaming some->Z,none->Y
open Bool renaming true->B,false->M
open List renaming length->O

section
namespace Go.Hm
open Go Go.RowKit
variable{C':Nat->Prop}{D:Nm->Bool}{E F T e:TypeId}{H:Nm->Option AO}{P:Program}{b d l off z:Nat}{cs v0 zv:List AV}{es:List (AV×AV)}{g g':Gh}{i:Int}{k k':IntKind}{key m s x y:Operand}{ms':List MapEntry}{n:Nm}{o:Oper}{rows:List (List AV)}{ts:Array TypeId}
def eu(P:Program)(E:TypeId)(d:Nat):Nat->List (List AV)->List (List AV)
 |_,[]=>[]
 |i,r::l=>vM (λj=>.c (.s d) i j) (zb P E) 0 r::eu P E d (i+1) l
def l5(P:Program)(E:TypeId)(d:Nat):Nat->List (List AV)->List (Nm×Nat)
 |_,[]=>[]
 |i,r::l=>vX (λj=>.c (.s d) i j) (zb P E) 0 r++l5 P E d (i+1) l
def la(key:Nat->Nat->Nm):Nat->List (List AV)->List (Nm×Nm)
 |_,[]=>[]
 |i,r::l=>kg (key i) 0 r++la key (i+1) l
theorem NX:∀(l:List (List AV))(i:Nat),O (eu P E d i l)=O l
 :=by intro x0;induction x0<;>grind[eu]
theorem NW:∀(l:List (List AV))(i k:Nat),(eu P E d i l)[k]?=(l[k]?).map (λr=>vM (λj=>.c (.s d) (i+k) j) (zb P E) 0 r)
 :=by intro x0;induction x0<;>grind[eu]
theorem My{P:Program}{E:TypeId}{d:Nat}:∀(l:List (List AV))(i:Nat)p,p∈l5 P E d i l->∃i j,p.1=.c (.s d) i j
 |[],_,_,h=>by grind[l5]
 |r::l,i,p,h=>by
  simp only[l5]at h;rcases yI.1 h with h|h
  .grind[B1]
  .exact My l (i+1) p h
def Na{d:Nat}:∀(l:List (List AV))(i:Nat),l9 (la (λi j=>.c (.s d) i j) i l)
 |[],_=>by simp[la,l9]
 |r::l,i=>by
  intro p hp;simp only[la]at hp;rcases yI.1 hp with hp|hp
  .exact Ba (λj=>.c (.s d) i j) (λ_=>rfl) r 0 p hp
  .exact Na l (i+1) p hp
section
variable{P:Program}{own:Nat->Prop}{C:Nat->Prop}{w0:World}{g:Gh}{st:St}{a:Act}{w:World}
def BY(d z l:Nat)(zv:List AV)(st:St):St:=((st.kill (.s d)).zW (.s d) (.row z (List.replicate l zv))).put (Z d) (.hs (.s d) z 0 l)
theorem WJ(z:Array Value)(n t:Nat)(h:t<n):(madeCells z n).getD t undef=z[t%z.size]!:=by
 simp_all[madeCells]
theorem WU(h:Rg P own C w0 g st a w)(ho:o.op=.makeSlice T x y)(hd:o.dst=Z d)(hn:d<st.n)
  (hx:ev st x=.sc (.int k l))(hy:ev st y=.sc (.int k' l))(hE:yW P T=Z E)(hz:qi P E=z)(hzv:yO P E=Z zv)(hl:l<=4294967296):bK P o a w λa' w'=>kV P own C w0 g (BY d z l zv st) a' w':=by
 obtain⟨i,zz,t1,t2,t3,t4,t5,t6,t7⟩:=EY hE;obtain⟨i',z',q1,q2,q3,rfl,q4⟩:=JL hzv;rw[t2]at q1;obtain rfl:=sI q1;rw[t3]at q2;obtain rfl:=sI q2;have hiz:i.size=z:=t7.symm.trans hz;have e1:a.eval x=.int k l:=(hx ▸ h.ev x).jF;have e2:a.eval y=.int k' l:=(hy ▸ h.ev y).jF
 have hb:(i.bytes:Int)*l<=281474976710656:=by
  have:=Nat.mul_le_mul t6 hl;omega
 have hrun:=run_make (P:=P) (w:=w) T E i zz t1 t2 t3 k k' l l qA qA hb qA;refine .inl ⟨.slice (Z ⟨w.heap.size,0,Y⟩) l l,w.alloc (.cells (madeCells zz.cells (l*i.size)) E),?_,?_⟩
 .simp_all[execOp]
 .rw [hd];have hcur:∀t,t<l*i.size->(madeCells zz.cells (l*i.size)).getD t undef=zz.cells[t%zz.cells.size]!:=λt ht=>WJ _ _ _ ht
  have hm:=h.made (.s d) (.row z (List.replicate l (zz.cells.toList.map .sc))) w.heap.size l (w.alloc (.cells (madeCells zz.cells (l*i.size)) E)) [] qB (λ_=>M) rfl rfl rfl qB (.inl (qb _)) qB (λb' _ hb'=>lC _ hb') (by
   simp only[jd,(wA (g:=g) (.s d) (Z w.heap.size) l).1,(wA (g:=g) (.s d) (Z w.heap.size) l).2];refine⟨_,E,heap_alloc_new w _,by grind[madeCells],tQ,qB,?_,?_,?_⟩
   .simp_all
   .grind[Nat.mod_lt]
   .intro i' row hrow j x hx
    have hi':i'<l:=by
     grind
    rw[List.getElem?_replicate,if_pos hi']at hrow;obtain rfl:=sI hrow;rw[j3]at hx;obtain⟨v,hv,rfl⟩:=zq.1 hx
    have hj:j<zz.cells.size:=by
     grind
    have h5:(i'+1)*i.size<=l*i.size:=bM _ hi';rw[nz,s5]at h5;rw[<- hiz,hcur _ qA,t4,Nat.add_comm,Nat.add_mul_mod_self_right,Nat.mod_eq_of_lt qA,getElem!_pos zz.cells _ hj]
    have:v=zz.cells[j]:=by
     grind
    rw[<- this];exact RV.sc v)
  have e:(st.nm (kl (.s d)) (λm=>if(λ_=>M:Nm->Bool) m then Y else jN (.s d) st.hp m))=st.kill (.s d):=tN;rw[e]at hm;exact⟨_,.fresh rfl,hm.put (d:=Z d) (λt e=>Fj) (.bT _ _ _ _ w.heap.size l _ (wA _ _ _).1 (qb _) (by grind[wA]) (λ_=>qB))⟩
def li(st:St):List (Nat×Operand)->Option (List (List AV))
 |[]=>Z []
 |p::l=>((ev st p.2).cells).bind λr=>(li st l).map (r::·)
def mN(P:Program)(E:TypeId)(d z:Nat)(rows:List (List AV))(st:St):St:=
 let r1:=rows.map (λr=>r.map (AV.tr (kl (.s d))))
 let r2:=eu P E d 0 r1
 canon (la (λi j=>.c (.s d) i j) 0 r2) (((St.ki (l5 P E d 0 r1) (st.kill (.s d))).zW (.s d) (.row z r2)).put (Z d) (.hs (.s d) z 0 (O rows)))
theorem qAK:∀{parts:List (Nat×Operand)}{rows:List (List AV)},li st parts=Z rows->O rows=O parts/\∀(i:Nat)p,parts[i]?=Z p->∃r,rows[i]?=Z r/\(ev st p.2).cells=Z r
 :=by intro x0;induction x0<;>grind[li,gb,zq]
theorem TQ(size:Nat):∀(vs:List Value)(k:Nat)(pre rest:List Value),(∀v∈vs,v.cells.size=size)->O pre=k*size->O vs*size<=O rest ->
  Instr.fill (λi=>Z (i*size,size)) (pre++rest).toArray ((vs.zipIdx k).map (λp=>(p.2,p.1)))=Z (pre++(vs.map (λv=>v.cells.toList)).flatten++rest.drop (O vs*size)).toArray:=by
 intro vs
 induction vs with
 |nil=>simp_all[Instr.fill]
 |cons v vs ih=>
  intro k pre rest hv hpre hle;simp only[fK,nz,s5]at hle;have hvs:=hv v qB;simp only[List.zipIdx_cons,cX,Instr.fill];rw[if_neg qp]
  have hf:(v.cells.zipIdx.foldl (λcs(x:Value×Nat)=>cs.setIfInBounds (k*size+x.2) x.1) (pre++rest).toArray)=((pre++v.cells.toList)++rest.drop size).toArray:=by
   have:=L0 (k*size) v.cells.toList 0 (pre++rest).toArray qp;simp only[fJ]at this;rw[<- hpre,List.take_left' rfl,show O v.cells.toList=size from by simp[hvs],AU,List.drop_of_length_le qA,s7,show O pre+size-O pre=size from qA]at this;rw[<- hpre,<- this,<- Array.foldl_toList];simp
  have hf':(v.cells.zipIdx.foldl (λcs x=>match x with|(c,j)=>cs.setIfInBounds (k*size+j) c) (pre++rest).toArray)=((pre++v.cells.toList)++rest.drop size).toArray:=hf;rw[hf',ih (k+1) _ _ (λu hu=>hv u Ar) qx qx]
  simp_all<;>grind
theorem Ri{len:Nat}{parts:Array (Nat×Operand)}(h:Rg P own C w0 g st a w)(ho:o.op=.buildSlice T len parts)(hd:o.dst=Z d)(hn:d<st.n)
  (hE:yW P T=Z E)(hz:qi P E=z)(hrows:li st parts.toList=Z rows)(c1:parts.toList.map (·.1)=List.range len)(c2:len*z<=16777216)(c3:rows.all (λr=>O r==z)=B):
  bK P o a w λa' w'=>kV P own C w0 g (mN P E d z rows st) a' w':=by
 obtain⟨i,zz,t1,t2,t3,t4,t5,t6,t7⟩:=EY hE;have hiz:i.size=z:=t7.symm.trans hz;obtain⟨r1,r2⟩:=qAK hrows;have hu:∀r∈rows,O r=z:=λr hr=>qQ;have hlen:O parts.toList=len:=by have:=congrArg List.length c1;grind
 let vs:=parts.toList.map (λp=>a.eval p.2)
 have hvl:O vs=len:=qx
 have each:∀(k:Nat)v,vs[k]?=Z v->∃r,rows[k]?=Z r/\O v.cells.toList=O r/\(∀u∈v.cells.toList,u.oneCell'=B)/\∀(j:Nat)u x,v.cells.toList[j]?=Z u->r[j]?=Z x->RV g w u x:=by
  intro k v hv;rw[j3]at hv;obtain⟨p,hp,rfl⟩:=zq.1 hv;obtain⟨r,e1,e2⟩:=r2 k p hp;exact⟨r,e1,(h.ev p.2).cells e2⟩
 have hsz:∀v∈vs,v.cells.size=i.size:=by
  grind[ko]
 have hparts:(parts.map (λp=>(p.1,a.eval p.2))).toList=(vs.zipIdx 0).map (λp=>(p.2,p.1)):=by
  apply yp;intro k;simp only[Array.toList_map,j3,List.getElem?_zipIdx,vs]
  cases hk:parts.toList[k]? with
  |none=>simp
  |some p=>
   have:=congrArg (λl:List Nat=>l[k]?) c1
   grind
 let cur:List Value:=(vs.map (λv=>v.cells.toList)).flatten
 have hfill:=TQ i.size vs 0 [] ((Array.range (len*i.size)).map (λt=>zz.cells[t%zz.cells.size]!)).toList hsz qB (by simp[hvl])
 have hfill':Instr.fill (λk=>Z (k*i.size,i.size)) ((Array.range (len*i.size)).map (λt=>zz.cells[t%zz.cells.size]!)) (parts.map (λp=>(p.1,a.eval p.2))).toList=Z cur.toArray:=by
  grind[Array.range,List.drop_of_length_le]
 have hflat:∀(l:List Value),(∀v∈l,v.cells.size=i.size)->O ((l.map (λv=>v.cells.toList)).flatten)=O l*i.size/\∀k j,j<i.size->((l.map (λv=>v.cells.toList)).flatten)[k*i.size+j]?=(l[k]?).bind (λv=>v.cells.toList[j]?):=by
  intro l
  induction l with
  |nil=>simp
  |cons v l ih=>
   intro hl;obtain⟨i1,i2⟩:=ih (λu hu=>hl u Ar);have hv:O v.cells.toList=i.size:=qQ;refine⟨qx,λk j hj=>?_⟩;simp only[cX,List.flatten_cons]
   cases k with
   |zero=>grind
   |succ k=>
    rw[bn qx,hv,show(k+1)*i.size+j-i.size=k*i.size+j from qx,i2 k j hj];simp
 obtain⟨f1,f2⟩:=hflat vs hsz;have hrl:O rows=len:=qA
 have hrun:(execOp a.eval o).run P w=.ok (.value (.slice (Z ⟨w.heap.size,0,Y⟩) len len)) (w.alloc (.cells cur.toArray E)):=by
  by_cases h0:len*i.size=0
  .simp only[execOp,ho,Instr.buildSlice,Sem.run_bind,run_underlying t1,Result.andThen_ok,sizeOf,typeInfo,Sem.run_pure]
   have hl0:len=0:=by
    grind[Nat.mul_eq_zero]
   simp_all[newRow,Array.range_zero']
  .simp only[execOp,ho,Instr.buildSlice,Sem.run_bind,run_underlying t1,Result.andThen_ok,sizeOf,typeInfo,Sem.run_pure];have:¬len*i.size > 2 ^ 24:=qQ;simp only[Array.toList_map]at hfill';simp[this,h0,zeroValue,typeInfo,t2,t3,hfill',newRow]
 refine .inl ⟨_,_,hrun,?_⟩;rw[hd];unfold mN;generalize hR1:rows.map (λr=>r.map (AV.tr (kl (.s d))))=R1;have hR1l:O R1=len:=qx;have hC':∀b',C b'->(w.alloc (.cells cur.toArray E)).heap[b']?=w.heap[b']?:=λb' hC=>lC _ (h.inv.ur b' hC)
 have hm:=h.made (.s d) (.row z (eu P E d 0 R1)) w.heap.size len (w.alloc (.cells cur.toArray E)) (l5 P E d 0 R1)
  (λp hp=>by
    simp_all<;>grind[My,Nm.under]) (λ_=>M) rfl rfl rfl qB (.inl (qb _)) qB (λb' _ hb'=>lC _ hb') (by
    simp only[jd,(wA (g:=g) (.s d) (Z w.heap.size) len).1,(wA (g:=g) (.s d) (Z w.heap.size) len).2];refine⟨cur.toArray,E,heap_alloc_new w _,qx,?_,by grind[NX],?_,?_,?_⟩
    .have:=Nat.le_mul_of_pos_right len t5
     grind[maxLen]
    .intro r hr;obtain⟨k,hk⟩:=ko hr
     simp_all<;>grind[NW,JK]
    .intro j hj;rw[NX,hR1l]at hj;have hlt:j<O cur:=qx;have e:cur.toArray.getD j undef=cur[j]:=qQ;rw[e];have hmem:cur[j]∈cur:=List.getElem_mem hlt;obtain⟨l,hl,hjl⟩:=List.mem_flatten.1 hmem
     simp_all<;>grind[ko]
    .intro k row hrow j x hx;rw[NW]at hrow;obtain⟨r1',h0,rfl⟩:=zq.1 hrow;rw[<- hR1,j3]at h0;obtain⟨r00,h00,rfl⟩:=zq.1 h0;rw[JJ,j3]at hx;obtain⟨x1,hx1,rfl⟩:=zq.1 hx;obtain⟨x0,hx0,rfl⟩:=zq.1 hx1;have hk:k<O vs:=qx;obtain⟨r,e1,e2,e3,e4⟩:=each k _ (gE hk);rw[e1]at h00;obtain rfl:=sI h00;have hj:j<i.size:=qx;have hj':j<O (vs[k]).cells.toList:=qQ;have e5:=f2 k j hj;rw[gE hk,oC,gE hj']at e5
     have e:cur.toArray.getD (k*z+j) undef=(vs[k]).cells.toList[j]:=by
      rw[<- hiz];simp only[oB,List.getElem?_toArray]
      grind
     rw[e];exact(h.EN hC' (e4 j _ x0 (gE hj') hx0)).zc (λ_=>D2 ag qB))
 have e:(st.nm (kl (.s d)) (λm=>if(λ_=>M:Nm->Bool) m then Y else jN (.s d) st.hp m))=st.kill (.s d):=tN;rw[e]at hm
 have hfin:=(hm.put (d:=Z d) (v:=.slice (Z ⟨w.heap.size,0,Y⟩) len len) (x:=.hs (.s d) z 0 (O rows)) (λt e=>by
  obtain rfl:=sI e;simp only[St.zW,(Bt _ _).1]
  exact hn) (by
   rw[hrl];exact .bT _ _ _ _ w.heap.size len _ (wA _ _ _).1 (qb _) (by grind[wA]) (λ_=>qB))).canon (la (λi j=>.c (.s d) i j) 0 (eu P E d 0 R1)) (Na _ _)
 obtain⟨g',u,r⟩:=hfin;exact⟨g',(kA.fresh rfl).trans u,r⟩
def B0(d:Nat)(st:St):St:=((st.kill (.s d)).zW (.s d) (.map [])).put (Z d) (.mp (.s d))
def WX(h:Rg P own C w0 g st a w)(ho:o.op=.makeMap T Y)(hd:o.dst=Z d)(hn:d<st.n):bK P o a w λa' w'=>kV P own C w0 g (B0 d st) a' w':=by
 refine .inl ⟨.map (Z w.heap.size),w.alloc (.map #[] 0),?_,?_⟩
 .simp [execOp,ho,Instr.makeMap]
 .rw [hd]
  have hm:=h.made (.s d) (.map []) w.heap.size 0 (w.alloc (.map #[] 0)) [] qB (λ_=>M) rfl rfl rfl qB (.inl (qb _)) qB (λb' _ hb'=>lC _ hb') (by
   simp only[jd,(wA (g:=g) (.s d) (Z w.heap.size) 0).1];exact⟨[],0,heap_alloc_new w _,MapKept.stamped_empty 0,rfl,qB⟩)
  have e:(st.nm (kl (.s d)) (λm=>if(λ_=>M:Nm->Bool) m then Y else jN (.s d) st.hp m))=st.kill (.s d):=tN;rw[e]at hm;exact⟨_,.fresh rfl,hm.put (d:=Z d) (λt e=>Fj) (.mp _ _ (wA _ _ _).1)⟩
def fq(k:IntKind)(n:Int)(y:AV):List (AV×AV)->List (AV×AV)
 |[]=>[(.sc (.int k n),y)]
 |(.sc (.int k' m),x)::l=>if k'=k/\m=n then(.sc (.int k n),y)::l else(.sc (.int k' m),x)::fq k n y l
 |e::l=>e::fq k n y l
def dl(k:IntKind)(n:Int):List (AV×AV)->List (AV×AV)
 |[]=>[]
 |(.sc (.int k' m),x)::l=>if k'=k/\m=n then l else(.sc (.int k' m),x)::dl k n l
 |e::l=>e::dl k n l
theorem HB{k:IntKind}{n:Int}:∀{es:List (AV×AV)}{ms:List MapEntry}{i:Nat}{p:Nat}{v:Value},O ms=O es->(∀(i:Nat)m e,ms[i]?=Z m->es[i]?=Z e->RV g w m.key e.1/\RV g w m.val e.2)->aQ k es=B ->
  Instr.findNow (.int k) (.int k n) ms p=Z (Z (p+i,v))->(∀y,fq k n y es=es.modify i (λ_=>(.sc (.int k n),y)))/\dl k n es=es.eraseIdx i/\i<O es
 |[],ms,i,p,v,hl,_,_,hf=>by
  grind[Instr.findNow]
 |(ek,ev)::es,[],i,p,v,hl,_,_,hf=>by simp at hl
 |(ek,ev)::es,m0::ms,i,p,v,hl,hr,hm,hf=>by
  unfold aQ at hm
  split at hm
  .simp_all
  .rename_i k' m' x l he;obtain⟨e1,rfl⟩:=List.cons.inj he;obtain⟨rfl,rfl⟩:=ga e1;simp only[yF,beq_iff_eq]at hm;obtain⟨rfl,hm⟩:=hm;obtain⟨h1,h2⟩:=hr 0 m0 _ rfl rfl;have hk:=h1.jF;by_cases hn:m'=n
   .simp_all[Instr.findNow,Instr.sameNow,fq,dl]
   .have hne:(n==m')=M:=qx;simp[Instr.findNow,Instr.sameNow,hk,hne]at hf
    have hi:∃i',i=i'+1:=by
     cases i with
     |succ i=>simp
     |zero=>
      exfalso;obtain⟨r,f1,f2⟩:=BG (g:=g) (w:=w) (n:=n) ms es (p+1) qQ (λi m e hm he=>hr (i+1) m e qQ qQ) hm
      grind
    obtain⟨i',rfl⟩:=hi;rw[show p+(i'+1)=p+1+i' from qA]at hf;obtain⟨g1,g2,g3⟩:=HB qQ (λi m e hm he=>hr (i+1) m e qQ qQ) hm hf
    grind[fq,dl]
  .cases hm
theorem HE{k:IntKind}{n:Int}{y:AV}:∀{es:List (AV×AV)},aQ k es=B->dq k n es=Y->fq k n y es=es++[(.sc (.int k n),y)]/\dl k n es=es
 |[],_,_=>⟨rfl,rfl⟩
 |(ek,ev)::es,hm,hg=>by
  unfold aQ at hm
  split at hm
  .simp_all
  .rename_i k' m' x l he;obtain⟨e1,rfl⟩:=List.cons.inj he;obtain⟨rfl,rfl⟩:=ga e1;simp only[yF,beq_iff_eq]at hm;obtain⟨rfl,hm⟩:=hm;by_cases hn:m'=n
   .grind[dq]
   .simp only[dq,if_true,if_neg hn]at hg;obtain⟨g1,g2⟩:=HE (y:=y) hm hg
    grind[fq,dl]
  .cases hm
theorem Mp{k:IntKind}{n:Int}:∀{es:List (AV×AV)}{ms:List MapEntry},O ms=O es->(∀(i:Nat)m e,ms[i]?=Z m->es[i]?=Z e->RV g w m.key e.1/\RV g w m.val e.2)->aQ k es=B->dq k n es=Y->∀m∈ms,m.key≠.int k n
 |[],ms,hl,_,_,_=>by
  simp_all
 |(ek,ev)::es,[],hl,_,_,_=>by simp at hl
 |(ek,ev)::es,m0::ms,hl,hr,hm,hg=>by
  unfold aQ at hm
  split at hm
  .simp_all
  .rename_i k' m' x l he;obtain⟨e1,rfl⟩:=List.cons.inj he;obtain⟨rfl,rfl⟩:=ga e1;simp only[yF,beq_iff_eq]at hm;obtain⟨rfl,hm⟩:=hm;by_cases hn:m'=n
   .grind[dq]
   .simp only[dq,if_true,if_neg hn]at hg;intro m hmm;rcases vV.1 hmm with rfl|h
    .rw [(hr 0 m _ rfl rfl).1.jF]
     simp_all
    .exact Mp qQ (λi m e h1 h2=>hr (i+1) m e qQ qQ) hm hg m h
  .cases hm
def World.bb(w:World)(b:Nat)(ms:List MapEntry)(clock:Nat):World:={w with heap:=w.heap.setIfInBounds b (.map ms.toArray clock)}
theorem Rg.Ee(h:Rg P own C w0 g st a w){clock:Nat}{es':List (AV×AV)}(hn:st.hp n=Z (.map es))(hk:g.φ n=Z b)(hs:MapKept.Stamped ms'.toArray clock)(hl:O ms'=O es')
  (hr:∀(i:Nat)m e,ms'[i]?=Z m->es'[i]?=Z e->RV g w m.key e.1/\RV g w m.val e.2):Rg P own C w0 g (st.zW n (.map es')) a (World.bb w b ms' clock):=by
 have hblk:=h.inv.qG n _ b hn hk
 have hother:∀b',b'≠b->(World.bb w b ms' clock).heap[b']?=w.heap[b']?:=by
  grind[World.bb]
 refine h.wr (b:=b) (w':=World.bb w b ms' clock) hn hk rfl rfl rfl (by simp[World.bb]) (λb' hne _=>hother b' hne) ?_;simp only[jd,hk];refine⟨ms',clock,?_,hs,hl,λi m e hm he=>?_⟩
 .grind[World.bb]
 .obtain⟨r1,r2⟩:=hr i m e hm he;have keepC:∀b',g.C b'->(World.bb w b ms' clock).heap[b']?=w.heap[b']?:=λb' hC=>hother b' (λe=>hblk.1 (e ▸ h.inv.hC ▸ hC));exact⟨r1.same (λ_ h=>h) keepC (λ_=>⟨rfl,rfl⟩),r2.same (λ_ h=>h) keepC (λ_=>⟨rfl,rfl⟩)⟩
theorem EL{ms:List MapEntry}{c c':Nat}(h:w.heap[b]?=Z (.map ms.toArray c)):(setObj b (.map ms'.toArray c')).run P w=.ok () (World.bb w b ms' c'):=by
 grind[setObj,Sem.run,World.bb]
theorem WZ(h:Rg P own C w0 g st a w)(ho:o.op=.mapUpdate T m key x\/o.op=.insert T m key x)(hd:o.dst=Y)(ht:gJ P T=Z (k,e))
  (hm:ev st m=.mp n)(hk:ev st key=.sc (.int k i))(hn:st.hp n=Z (.map es))(hks:aQ k es=B):bK P o a w λa' w'=>kV P own C w0 g (st.zW n (.map (fq k i (ev st x) es))) a' w':=by
 obtain⟨kt,hT,hkt⟩:=Ig ht;have jP:=h.ev m;rw[hm]at jP;have hkv:=h.ev key;rw[hk]at hkv;have hkv:=hkv.jF;have hx:=h.ev x;have ho':=h.inv.obj n _ hn
 have hb:∃b,a.eval m=.map (Z b)/\g.φ n=Z b:=by
  generalize a.eval m=vm at jP
  cases jP<;>grind
 obtain⟨b,hmb,hb⟩:=hb;simp only[jd,hb]at ho';obtain⟨ms,clock,h1,hs0,h2,h3⟩:=ho';have hg:(getObj b).run P w=.ok (.map ms.toArray clock) w:=Cy;obtain⟨r,f1,f2⟩:=BG (n:=i) ms es 0 h2 h3 hks;have hck:=IF (P:=P) (w:=w) (n:=i) (b:=M) hkt
 have run:∀w',(Instr.mapUpdate T (a.eval m) (a.eval key) (a.eval x)).run P w=.ok () w'->(execOp a.eval o).run P w=.ok .skip w':=by
  intro w' e;rcases ho with ho|ho<;>simp[execOp,ho,e]
 split at f2
 .rename_i y hy;obtain⟨j,v',rfl,hv',⟨m1,hm1,hm2,hm3⟩,hjl⟩:=f2;obtain⟨g1,g2,g3⟩:=HB h2 h3 hks f1;have hsb:Instr.sameBits 10000 m1.key (.int k i)=B:=by grind[Instr.sameBits]
  have hold:((ms.toArray[0+j]?).map (·.key)).getD (.int k i)=m1.key:=by simp[hm1]
  refine .inr ⟨World.bb w b (ms.modify j (λe=>{e with key:=.int k i,val:=a.eval x})) clock,run _ ?_,?_⟩
  .have hst:(setObj b (.map (ms.modify j (λe=>{e with key:=.int k i,val:=a.eval x})).toArray clock)).run P w=.ok () (World.bb w b (ms.modify j (λe=>{e with key:=.int k i,val:=a.eval x})) clock):=EL h1;rw[hmb,hkv];simp only[Instr.mapUpdate,Sem.run_bind,uA hT,Result.andThen_ok,hg,hck,Instr.findKey,uA hkt,f1,Sem.run_pure,Instr.keyThatStays,hold,hsb,if_true]
   simp_all
  .rw [hd];refine⟨g,.refl g,h.Ee hn hb ?_ ?_ ?_⟩
   .have hs1:=MapKept.stamped_modify hs0 (0+j) (λe=>{e with key:=.int k i,val:=a.eval x}) (λ_ _=>rfl) (λe _ he=>by
     simp_all)
    simp_all
   .simp_all
   grind
 .rename_i hy;subst f2;obtain⟨g1,_⟩:=HE (y:=ev st x) hks hy;refine .inr ⟨World.bb w b (ms++[{key:=.int k i,val:=a.eval x,born:=clock}]) (clock+1),run _ ?_,?_⟩
  .have hst:(setObj b (.map (ms++[({key:=.int k i,val:=a.eval x,born:=clock}:MapEntry)]).toArray (clock+1))).run P w=.ok () (World.bb w b (ms++[{key:=.int k i,val:=a.eval x,born:=clock}]) (clock+1)):=EL h1
   simp_all[Instr.mapUpdate,Instr.findKey,uA]
  .rw [hd];have hs1:=MapKept.stamped_push (val:=a.eval x) hs0 (key:=.int k i) (by simpa using Mp h2 h3 hks hy)
   have e:(ms.toArray.push ({key:=.int k i,val:=a.eval x,born:=clock}:MapEntry))=(ms++[({key:=.int k i,val:=a.eval x,born:=clock}:MapEntry)]).toArray:=by
    simp
   rw[e]at hs1;refine⟨g,.refl g,h.Ee hn hb hs1 qQ ?_⟩
   grind
theorem WP(h:Rg P own C w0 g st a w)(ho:o.op=.call {callee:=.builtin .delete,args:=#[m,key],argTypes:=ts})(hts:ts[0]?=Z T)(hdn:∀t,o.dst=Z t->t<st.n)(ht:gJ P T=Z (k,e))
  (hm:ev st m=.mp n)(hk:ev st key=.sc (.int k i))(hn:st.hp n=Z (.map es))(hks:aQ k es=B):bK P o a w λa' w'=>kV P own C w0 g ((st.zW n (.map (dl k i es))).put o.dst (.sc (.tuple #[]))) a' w':=by
 obtain⟨kt,hT,hkt⟩:=Ig ht;have jP:=h.ev m;rw[hm]at jP;have hkv:=h.ev key;rw[hk]at hkv;have hkv:=hkv.jF;have ho':=h.inv.obj n _ hn
 have hb:∃b,a.eval m=.map (Z b)/\g.φ n=Z b:=by
  generalize a.eval m=vm at jP
  cases jP<;>grind
 obtain⟨b,hmb,hb⟩:=hb;simp only[jd,hb]at ho';obtain⟨ms,clock,h1,hs0,h2,h3⟩:=ho';have hg:(getObj b).run P w=.ok (.map ms.toArray clock) w:=Cy;obtain⟨r,f1,f2⟩:=BG (n:=i) ms es 0 h2 h3 hks;have hck:=λb=>IF (P:=P) (w:=w) (n:=i) (b:=b) hkt
 have run:∀w',(Builtin.delete_ ts o.type #[a.eval m,a.eval key]).run P w=.ok (.tuple #[]) w'->(execOp a.eval o).run P w=.ok (.value (.tuple #[])) w':=by
  simp_all[execOp,resolve,invoke,builtin]
 split at f2
 .rename_i y hy;obtain⟨j,v',rfl,hv',⟨m1,hm1,hm2,hm3⟩,hjl⟩:=f2;obtain⟨g1,g2,g3⟩:=HB h2 h3 hks f1;refine .inl ⟨.tuple #[],World.bb w b (ms.eraseIdx j) clock,run _ ?_,?_⟩
  .have hst:(setObj b (.map (ms.eraseIdx j).toArray clock)).run P w=.ok () (World.bb w b (ms.eraseIdx j) clock):=EL h1;rw[hmb,hkv];simp only[Builtin.delete_,hts,List.getElem?_toArray,gh,gi,Sem.run_bind,uA hT,Result.andThen_ok,hg,hck,Instr.findKey,uA hkt,f1,Sem.run_pure]
   simp_all
  .refine⟨g,.refl g,(h.Ee (n:=n) (clock:=clock) (es':=dl k i es) (ms':=ms.eraseIdx j) hn hb ?_ ?_ ?_).put (λt e=>by have:=hdn t e;exact this) (.sc _)⟩
   .have hs1:=MapKept.stamped_erase hs0 (0+j)
    simp_all
   .grind
   grind
 .rename_i hy;subst f2;obtain⟨_,g2⟩:=HE (y:=.bot) hks hy;refine .inl ⟨.tuple #[],World.bb w b ms clock,run _ ?_,?_⟩
  .have hst:(setObj b (.map ms.toArray clock)).run P w=.ok () (World.bb w b ms clock):=EL h1;rw[hmb,hkv];simp only[Builtin.delete_,hts,List.getElem?_toArray,gh,gi,Sem.run_bind,uA hT,Result.andThen_ok,hg,hck,Instr.findKey,uA hkt,f1,Sem.run_pure,hst]
  .exact⟨g,.refl g,(h.Ee (n:=n) (clock:=clock) (es':=dl k i es) (ms':=ms) hn hb hs0 qQ qx).put (λt e=>by have:=hdn t e;exact this) (.sc _)⟩
end
structure Ctx where
 P:Program
 own:Nat->Prop
 C0:Nat->Prop
 w0:World
 n:Nat
 gl:Nat->Option (List AV)
 ext:Nm->Bool
 g0:Gh
def mA(X:Ctx)(g:Gh):Prop:=∀k i j,X.ext (.u k i j)=B->g.φ (.u k i j)=X.g0.φ (.u k i j)/\g.κ (.u k i j)=X.g0.κ (.u k i j)
def mA.step{X:Ctx}(h:mA X g)(hu:kA g g'):mA X g':=λk i j e=>⟨(hu k i j).1.trans (h k i j e).1,(hu k i j).2.trans (h k i j e).2⟩
def Rw(X:Ctx)(st:St)(a:Act)(w:World):Prop:=
 ∃C g,(∀b,X.C0 b->C b)/\(∀b,C b->X.C0 b\/X.w0.heap.size<=b\/X.own b)/\st.n=X.n/\st.gl=X.gl/\mA X g/\Rg X.P X.own C X.w0 g st a w
def gW(X:Ctx)(st:St)(a:Act)(w:World)(v:Value)(x:AV):Prop:=
 ∃C g,(∀b,X.C0 b->C b)/\(∀b,C b->X.C0 b\/X.w0.heap.size<=b\/X.own b)/\st.n=X.n/\st.gl=X.gl/\mA X g/\Rg X.P X.own C X.w0 g st a w/\RV g w v x
def qe(X:Ctx)(o:Oper)(K:St->Prop)(E:AV->St->Prop)(st:St):Prop:=
 ∀(a:Act)(w:World)(Q:Exit->Act->World->Prop),Rw X st a w->(∀v w' st' x,gW X st' a w' v x->E x st'->Q (.panic [{v:=v,recovered:=M}]) a w') ->
  o.wp X.P a w (λa' w'=>∃st',Rw X st' a' w'/\K st') Q
section
variable{X:Ctx}{st:St}{a:Act}{w:World}{K:St->Prop}{E:AV->St->Prop}
def qe.du{st':St}(h:∀C g a w,st.n=X.n->Rg X.P X.own C X.w0 g st a w->bK X.P o a w λa' w'=>kV X.P X.own C X.w0 g st' a' w')(hn:st'.n=st.n/\st'.gl=st.gl)(hK:K st'):qe X o K E st:=by
 intro a w Q hR _;obtain⟨C,g,h1,h2,h3,h4,h5,hg⟩:=hR;refine bK.wp ?_ Q;rcases h C g a w h3 hg with⟨v,w',e,g',u,hr⟩|⟨w',e,g',u,hr⟩
 .exact .inl ⟨v,w',e,st',⟨C,g',h1,h2,hn.1.trans h3,hn.2.trans h4,h5.step u,hr⟩,hK⟩
 .exact .inr ⟨w',e,st',⟨C,g',h1,h2,hn.1.trans h3,hn.2.trans h4,h5.step u,hr⟩,hK⟩
def sC(st:St)(d:Option Nat)(x:AV):(st.put d x).n=st.n:=Ap
def sB(st:St)(d:Option Nat)(x:AV):(st.put d x).gl=st.gl:=Ap
def Hb(st:St)(d:Option Nat)(x:AV):(st.put d x).hp=st.hp:=Ap
def qBP(hn:∀d,o.dst=Z d->d<X.n){z:AV}(hz:vA X.P st o=Z z)(hK:K (st.put o.dst z)):qe X o K E st:=by
 refine .du (λC g a w e h=>?_) ⟨sC _ _ _,sB _ _ _⟩ hK;obtain⟨v,e1,e2⟩:=Nj h hz;exact .inl ⟨v,w,e1,g,.refl g,h.put (λt e'=>qQ) e2⟩
def qBH(ho:o.op=.assign x)(hd:o.dst=Z d)(hn:d<X.n)(hK:K (rH X.P o.type d (ev st x) st)):qe X o K E st:=by
 refine .du (λ_ _ _ _ e h=>RM h ho hd (e ▸ hn)) ?_ hK;unfold rH
 split
 .exact⟨rfl,rfl⟩
 .split
  .split<;>exact⟨rfl,rfl⟩
  .exact⟨rfl,rfl⟩
def Jy:(ce P T d cs st).n=st.n/\(ce P T d cs st).gl=st.gl:=by
 unfold ce;simp only[Ay,sC,sB,St.zW,Bt];exact⟨rfl,rfl⟩
def qBI(ho:o.op=.box T x)(hd:o.dst=Z d)(hn:d<X.n)(hq:(ev st x).cells=Z cs)(hz:O cs=qi X.P T)(hK:K (ce X.P T d cs st)):qe X o K E st:=
 .du (λ_ _ _ _ e h=>Rf h ho hd (e ▸ hn) hq hz) Jy hK
def qBF{zs:List AV}(ho:o.op=.alloc T)(hd:o.dst=Z d)(hn:d<X.n)(hq:yO X.P T=Z zs)(hK:K (ce X.P T d zs st)):qe X o K E st:=
 .du (λ_ _ _ _ e h=>Qz h ho hd (e ▸ hn) hq) Jy hK
theorem qC1{i:Nat}{vals:List AV}:(nP n z i off rows vals (w5 P T n i off v0 st)).n=st.n/\(nP n z i off rows vals (w5 P T n i off v0 st)).gl=st.gl:=by
 grind[nP,w5,Ay,St.zW,Ez]
theorem Of{p:Operand}{i:Nat}{v1:List AV}(ho:o.op=.store T p x)(hd:o.dst=Y)(hT:(X.P.info? T).isSome)
  (hv0:(ev st x).cells=Z v0)(hlen:O v0=qi X.P T)(hp0:pl (ev st p)=Z (n,i,off))(hp1:pl (ev (w5 X.P T n i off v0 st) p)=Z (n,i,off))(hv1:(ev (w5 X.P T n i off v0 st) x).cells=Z v1)
  (hsame:v1.map j5=v0.map j5)(hrows:lg (w5 X.P T n i off v0 st) (ev (w5 X.P T n i off v0 st) p)=Z (z,rows))(hi:i<O rows)(hoff:off+O v1<=z)
  (hK:K (nP n z i off rows (ll X.P T n i off v1) (w5 X.P T n i off v0 st))):qe X o K E st:=
 .du (λ_ _ _ _ _ h=>qC2 h ho hd hT hv0 hlen hp0 hp1 hv1 hsame hrows hi hoff) qC1 hK
def Oe{len:Nat}{rows0 rows2:List (List AV)}(ho:o.op=.call {callee:=.builtin .append,args:=#[s,x],argTypes:=#[T,T]})(hd:o.dst=Z d)(hdn:d<X.n)
  (hT:yW X.P T=Z F)(hz:qi X.P F=z)(hs:ev st s=.hs n z 0 len)(hn:st.hp n=Z (.row z rows0))(hle:len<=O rows0)(hx:be st z (ev st x)=Z rows2)(hlen:len+O rows2<=4294967296)
  (hK:K (wO d z (len+O rows2) (Z n) (rows0.take len++rows2) st)):qe X o K E st:=
 .du (λ_ _ _ _ e h=>RI h ho hd (e ▸ hdn) hT hz hs hn hle hx hlen) ⟨rfl,rfl⟩ hK
def qBG{rows2:List (List AV)}(ho:o.op=.call {callee:=.builtin .append,args:=#[s,x],argTypes:=#[T,T]})(hd:o.dst=Z d)(hdn:d<X.n)
  (hT:yW X.P T=Z F)(hz:qi X.P F=z)(hs:ev st s=.sc (.slice Y 0 0))(hx:be st z (ev st x)=Z rows2)(hlen:O rows2<=4294967296)
  (hK:K (wO d z (O rows2) Y rows2 st)):qe X o K E st:=
 .du (λ_ _ _ _ e h=>RF h ho hd (e ▸ hdn) hT hz hs hx hlen) ⟨rfl,rfl⟩ hK
def qBM(ho:o.op=.makeSlice T x y)(hd:o.dst=Z d)(hn:d<X.n)
  (hx:ev st x=.sc (.int k l))(hy:ev st y=.sc (.int k' l))(hE:yW X.P T=Z F)(hz:qi X.P F=z)(hzv:yO X.P F=Z zv)(hl:l<=4294967296)(hK:K (BY d z l zv st)):qe X o K E st:=
 .du (λ_ _ _ _ e h=>WU h ho hd (e ▸ hn) hx hy hE hz hzv hl) ⟨rfl,rfl⟩ hK
def Rh:(mN P F d z rows st).n=st.n/\(mN P F d z rows st).gl=st.gl:=by
 unfold mN;simp only[Ay,sC,sB,St.zW,Bt];exact⟨rfl,rfl⟩
def qBJ{len:Nat}{parts:Array (Nat×Operand)}(ho:o.op=.buildSlice T len parts)(hd:o.dst=Z d)(hn:d<X.n)
  (hE:yW X.P T=Z F)(hz:qi X.P F=z)(hrows:li st parts.toList=Z rows)(c1:parts.toList.map (·.1)=List.range len)(c2:len*z<=16777216)(c3:rows.all (λr=>O r==z)=B)(hK:K (mN X.P F d z rows st)):qe X o K E st:=
 .du (λ_ _ _ _ e h=>Ri h ho hd (e ▸ hn) hE hz hrows c1 c2 c3) Rh hK
theorem qBN(ho:o.op=.makeMap T Y)(hd:o.dst=Z d)(hn:d<X.n)(hK:K (B0 d st)):qe X o K E st:=
 .du (λ_ _ _ _ e h=>WX h ho hd (e ▸ hn)) ⟨rfl,rfl⟩ hK
theorem qBO(ho:o.op=.mapUpdate T m key x\/o.op=.insert T m key x)(hd:o.dst=Y)(ht:gJ X.P T=Z (k,e))
  (hm:ev st m=.mp n)(hk:ev st key=.sc (.int k i))(hn:st.hp n=Z (.map es))(hks:aQ k es=B)(hK:K (st.zW n (.map (fq k i (ev st x) es)))):qe X o K E st:=
 .du (λ_ _ _ _ _ h=>WZ h ho hd ht hm hk hn hks) ⟨rfl,rfl⟩ hK
theorem qBL(ho:o.op=.call {callee:=.builtin .delete,args:=#[m,key],argTypes:=ts})(hts:ts[0]?=Z T)(hdn:∀t,o.dst=Z t->t<X.n)(ht:gJ X.P T=Z (k,e))
  (hm:ev st m=.mp n)(hk:ev st key=.sc (.int k i))(hn:st.hp n=Z (.map es))(hks:aQ k es=B)(hK:K ((st.zW n (.map (dl k i es))).put o.dst (.sc (.tuple #[])))):qe X o K E st:=
 .du (λ_ _ _ _ e h=>WP h ho hts (λt e'=>qQ) ht hm hk hn hks) ⟨sC _ _ _,sB _ _ _⟩ hK
def Rw.WV{v:Value}{x:AV}(h:Rw X st a w)(hd:d<X.n)(hv:∀C g,Rg X.P X.own C X.w0 g st a w->RV g w v x):Rw X (st.put (Z d) x) (a.put (Z d) v) w:=by
 obtain⟨C,g,h1,h2,h3,h4,h5,hr⟩:=h;exact⟨C,g,h1,h2,h3,h4,h5,hr.put (λt e=>qQ) (hv C g hr)⟩
theorem Rw.move(h:Rw X st a w)(n0 n1:Nm)(h0:n0.z6=M\/X.ext n0=M)(h1:n1.z6=M\/X.ext n1=M):Rw X (st.move n0 n1) a w:=by
 obtain⟨C,g,e1,e2,e3,e4,e5,hr⟩:=h;refine⟨C,_,e1,e2,e3,e4,?_,hr.move n0 n1⟩;intro k i j he
 have hne:∀m:Nm,m.z6=M\/X.ext m=M->Nm.under m (.u k i j)=M:=by
  grind[Ik,Nm.under]
 have e:Hm.mv n0 n1 (.u k i j)=Z (.u k i j):=by grind[mv]
 obtain⟨x1,x2⟩:=Gh.gK (g:=g) (λ_ _ _=>Do) e;obtain⟨y1,y2⟩:=e5 k i j he
 simp_all
def Rw.weaken(h:Rw X st a w)(hp':Nm->Option AO)(sub:∀m o,hp' m=Z o->st.hp m=Z o):Rw X {tm:=st.tm,hp:=hp',n:=st.n,gl:=st.gl} a w:=by
 obtain⟨C,g,e1,e2,e3,e4,e5,hr⟩:=h;exact⟨C,g,e1,e2,e3,e4,e5,hr.weaken hp' sub⟩
end
inductive Bw(hp:Nm->Option AO)(D:Nm->Bool):AV->AV->Prop
 |refl (a:AV):Bw hp D a a
 |nil (z:Nat):Bw hp D (.sc (.slice Y 0 0)) (.sl z [])
 |emp (z z':Nat):Bw hp D (.sl z []) (.sl z' [])
 |sl (z:Nat) (rows rows':List (List AV)) (hl:O rows=O rows') (hz:∀(i:Nat)r r',rows[i]?=Z r->rows'[i]?=Z r'->O r=O r')
  (h:∀(i:Nat)r r',rows[i]?=Z r->rows'[i]?=Z r'->∀(j:Nat)a a',r[j]?=Z a->r'[j]?=Z a'->Bw hp D a a'):Bw hp D (.sl z rows) (.sl z rows')
 |hs (n:Nm) (z lo len:Nat) (rows rows':List (List AV)) (hD:D n=M) (hn:hp n=Z (.row z rows)) (hle:lo+len<=O rows) (hl:O rows'=len) (hz:∀r'∈rows',O r'=z)
  (h:∀(i:Nat)r r',rows[lo+i]?=Z r->rows'[i]?=Z r'->∀(j:Nat)a a',r[j]?=Z a->r'[j]?=Z a'->Bw hp D a a'):Bw hp D (.hs n z lo len) (.sl z rows')
 |pt (n:Nm) (z off:Nat) (r r':List AV) (rows:List (List AV)) (hD:D n=M) (hn:hp n=Z (.row z (r::rows))) (hl:O r=O r') (h:∀(j:Nat)a a',r[j]?=Z a->r'[j]?=Z a'->Bw hp D a a'):Bw hp D (.pt n off) (.el r' off)
 |ep (n:Nm) (z i off:Nat) (r r':List AV) (rows:List (List AV)) (hD:D n=M) (hn:hp n=Z (.row z rows)) (hi:rows[i]?=Z r) (hl:O r=O r') (h:∀(j:Nat)a a',r[j]?=Z a->r'[j]?=Z a'->Bw hp D a a'):Bw hp D (.ep n z i off) (.el r' off)
 |agg (cs cs':List AV) (hl:O cs=O cs') (h:∀(j:Nat)a a',cs[j]?=Z a->cs'[j]?=Z a'->Bw hp D a a'):Bw hp D (.agg cs) (.agg cs')
 |zT (cs cs':List AV) (hl:O cs=O cs') (h:∀(j:Nat)a a',cs[j]?=Z a->cs'[j]?=Z a'->Bw hp D a a'):Bw hp D (.zT cs) (.zT cs')
 |jL (t:TypeId) (a a':AV) (h:Bw hp D a a'):Bw hp D (.jL t a) (.jL t a')
 |fn (f:Fn) (xs xs' ys ys':List AV) (hl:O xs=O xs') (hl2:O ys=O ys') (h:∀(j:Nat)a a',xs[j]?=Z a->xs'[j]?=Z a'->Bw hp D a a') (h2:∀(j:Nat)a a',ys[j]?=Z a->ys'[j]?=Z a'->Bw hp D a a'):Bw hp D (.fn f xs ys) (.fn f xs' ys')
def Gh.more(g:Gh)(C:Nat->Prop):Gh:={C:=C,φ:=g.φ,κ:=g.κ}
def RV.more{g:Gh}{w:World}{v:Value}{a:AV}{C:Nat->Prop}(h:RV g w v a)(hC:∀b,g.C b->C b):RV (g.more C) w v a:=
 h.same hC (λ_ _=>rfl) (λ_=>⟨rfl,rfl⟩)
theorem RV.bw{own:Nat->Prop}{C:Nat->Prop}{w0:World}{hp:Nm->Option AO}{w:World}(hi:Inv own C w0 g hp w)(hC:∀b,C b->C' b)
  (hD:∀n o b,D n=M->hp n=Z o->g.φ n=Z b->C' b){a a':AV}(hb:Bw hp D a a'):∀{v:Value},RV g w v a->RV (g.more C') w v a':=by
 have hgC:∀b,g.C b->C' b:=λb h=>hC b (hi.hC ▸ h)
 induction hb with
 |refl a=>exact λh=>h.more hgC
 |nil z=>intro v h;rw[h.jF];exact .yV _ _ _
 |emp z z'=>
  intro v h
  cases h with
  |yV=>exact .yV _ _ _
  |eL b off cap n z rows f hCb hn hcap=>simp at hn;subst hn;exact .yV _ _ _
 |sl z rows rows' hl hz _ ih=>
  intro v h
  cases h with
  |yV ad cap z=>
   have:rows'=[]:=bN qQ;subst this;exact .yV _ _ _
  |eL b off cap n z rows f hCb hn hcap hu hcell ho hr=>
   refine .eL b off cap n z rows' f (hgC b hCb) qA hcap ?_ hcell ho ?_
   .intro r hr';obtain⟨i,hi'⟩:=ko hr';have hlt:i<O rows:=qx;rw[<- hz i _ r (gE hlt) hi']
    simp_all
   .intro i row hrow j a ha;have hlt:i<O rows:=qx;have e:=hz i _ row (gE hlt) hrow
    grind
 |hs n z lo len rows rows' hDn hn hle hl hz _ ih=>
  intro v h
  cases h with
  |de=>
   have:rows'=[]:=bN hl;subst this;exact .yV _ _ _
  |bT _ _ _ _ b cap ad hk h1 h2 h3=>
   by_cases h0:len=0
   .subst h0;have:rows'=[]:=bN hl;subst this;exact .yV _ _ _
   .rw [h3 qA];have ho:=hi.obj n _ hn;simp only[jd,hk]at ho;obtain⟨cur,T,c1,c2,c3,c4,c5,c6,c7⟩:=ho
    have bnd:∀i j,i<len->j<z->(lo+i)*z+j<O rows*z:=by
     intro i j hi hj;have:(lo+i+1)*z<=O rows*z:=bM _ qA
     grind
    have hcs:O rows*z<=cur.size:=by simp_all[bM]
    refine .eL b (lo*z) cap len z rows' (λi j=>cur.getD ((lo+i)*z+j) undef) (hD n _ b hDn hn hk) hl h1 hz ?_ ?_ ?_
    .simp_all<;>grind[cell_of_row]
    .simp_all
    .intro i row hrow j a ha
     have hi':lo+i<O rows:=by
      grind
     have hr0:=c5 _ (List.getElem_mem hi');have hj:j<rows[lo+i].length:=qx;exact ih i _ row (gE hi') hrow j _ a (gE hj) ha (c7 (lo+i) _ (gE hi') j _ (gE hj))
 |pt n z off r r' rows hDn hn hl _ ih=>
  intro v h
  cases h with
  |pt _ _ b hk=>
   obtain⟨f,f1,f2,f3⟩:=hi.rowAt hn hk (i:=0) rfl
   have:=RV.el (g:=g.more C') (w:=w) b 0 off r' f (hD n _ b hDn hn hk) (λj hj=>qQ) (λj hj=>f2 j qA) (λj a ha=>by
    have hj:j<O r:=qx;exact ih j _ a (gE hj) ha (f3 j _ (gE hj)))
   simp_all
 |ep n z i off r r' rows hDn hn hi' hl _ ih=>
  intro v h
  cases h with
  |ep _ _ _ _ b hk=>
   obtain⟨f,f1,f2,f3⟩:=hi.rowAt hn hk hi'
   exact RV.el (g:=g.more C') (w:=w) b (i*z) off r' f (hD n _ b hDn hn hk) (λj hj=>f1 j qA) (λj hj=>f2 j qA) (λj a ha=>by
    have hj:j<O r:=qx;exact ih j _ a (gE hj) ha (f3 j _ (gE hj)))
 |agg cs cs' hl _ ih=>
  intro v h
  cases h with
  |agg vs _ hl2 hr=>
   constructor<;>grind
 |zT cs cs' hl _ ih=>
  intro v h
  cases h with
  |zT vs _ hl2 hr=>
   constructor<;>grind
 |jL t a a' _ ih=>
  intro v h
  cases h with
  |jL _ v _ h=>constructor<;>grind
 |fn f xs xs' ys ys' hl hl2 _ _ ih ih2=>
  intro v h
  cases h with
  |fn _ vs us _ _ k1 k2 hr hr2=>
   constructor<;>grind
mutual
def AV.jX:AV->Bool
 |.sc _=>B
 |.sl _ rows=>rows.isEmpty
 |.el _ _=>M
 |.hs _ _ _ _=>B
 |.pt _ _=>B
 |.ep _ _ _ _=>B
 |.mp _=>B
 |.agg cs=>r9 cs
 |.zT cs=>r9 cs
 |.jL _ a=>AV.jX a
 |.fn _ xs ys=>r9 xs&&r9 ys
 |.bot=>B
def r9:List AV->Bool
 |[]=>B
 |a::l=>AV.jX a&&r9 l
end
theorem BA(l:List AV):r9 l=l.all AV.jX:=by
 induction l<;>grind[r9]
def AO.jX:AO->Bool
 |.row _ rows=>rows.all (λr=>r.all AV.jX)
 |.map es=>es.all (λe=>e.1.jX&&e.2.jX)
 |.uP _ _ _ rows=>rows.all (λr=>r.all AV.jX)
theorem RV.jX{g:Gh}{w:World}{v:Value}{a:AV}(C':Nat->Prop)(h:RV g w v a)(hc:a.jX=B):RV (g.more C') w v a:=by
 induction h with
 |sc v=>exact .sc v
 |yV ad cap z=>exact .yV ad cap z
 |eL b off cap n z rows f hC hn hcap hu hcell ho hr ih=>
  simp only[AV.jX,List.isEmpty_iff]at hc;subst hc;simp only[mG]at hn;subst hn;exact .yV _ _ _
 |el b o off row f hC hcell ho hr ih=>grind[AV.jX]
 |de n z hk=>exact .de n z hk
 |bT n z lo len b cap ad hk h1 h2 h3=>exact .bT n z lo len b cap ad hk h1 h2 h3
 |pt n off b hk=>exact .pt n off b hk
 |ep n z i off b hk=>exact .ep n z i off b hk
 |mp n b hk=>exact .mp n b hk
 |agg vs cs hl hr ih=>
  constructor<;>grind[AV.jX,BA]
 |zT vs cs hl hr ih=>
  constructor<;>grind[AV.jX,BA]
 |jL t v a h ih=>exact .jL t v a (ih hc)
 |fn f vs us xs ys hl hl2 hr hr2 ih ih2=>
  constructor<;>grind[AV.jX,BA]
 |bot v=>exact .bot v
def ly(P:Program)(f:FuncId):Prop:=∃fn,P.funcs[f]?=Z fn/\(fn.name == "runtime.NumGoroutine")=M/\fn.body.isNone=M
structure dH(own:Nat->Prop)(C:Nat->Prop)(w:World)(g:Gh)(D:Nm->Bool)(root:Nm)(H:Nm->Option AO)(H':Nm->Option AO)(C':Nat->Prop)(g':Gh)(w':World):Prop where
 mono:∀b,C b->C' b
 new:∀b,C' b->C b\/w.heap.size<=b\/own b
 inv:Inv own C' w g' H' w'
 So:∀n,H' n≠Y->D n=B\/Nm.under root n=B
 same:∀n,D n=M->Nm.under root n=M->g'.φ n=g.φ n/\g'.κ n=g.κ n
 Im:∀k i j,H (.u k i j)≠Y->g'.φ (.u k i j)=g.φ (.u k i j)/\g'.κ (.u k i j)=g.κ (.u k i j)
def vn(g:Gh)(H:Nm->Option AO)(b:Nat):Prop:=∃n,H n≠Y/\g.φ n=Z b
def qX(P:Program)(gl:Nat->Option (List AV))(f:FuncId)(D:Nm->Bool)(az:List AV)(H:Nm->Option AO)(R E:Nm->AV->(Nm->Option AO)->Prop):Prop:=
 ly P f/\∀(root:Nm)(C:Nat->Prop)(w:World)(g:Gh)(args:Array Value),
  (∀n,Nm.under root n=B->D n=M)->root.z6=M->(∀n,H n≠Y->D n=B) ->
  Inv (vn g H) C w g H w ->
  (∀i row,gl i=Z row->(RV g w (.pointer (Z ⟨i,0,Y⟩)) (.el row 0)/\dI w i row)/\∀f:Nm->Option Nm,row.map (AV.tr f)=row) ->
  args.size=O az->(∀(j:Nat)v x,args[j]?=Z v->az[j]?=Z x->RV g w v x) ->
  Calls P f args w fun
   |.returned v,w'=>∃C' g' H' x,dH (vn g H) C w g D root H H' C' g' w'/\RV g' w' v x/\R root x H'
   |.panicked ch,w'=>∃C' g' H' x v,dH (vn g H) C w g D root H H' C' g' w'/\ch=[{v:=v,recovered:=M}]/\RV g' w' v x/\E root x H'
   |.outgrown,_=>False
def qw:Nm->AV->(Nm->Option AO)->Prop:=λ_ _ _=>False
def zl:Nm->Bool:=λ_=>M
def y6:Nm->Option AO:=λ_=>Y
def qL(P:Program)(gl:Nat->Option (List AV))(f:FuncId)(az:List AV)(R:Nm->AV->(Nm->Option AO)->Prop):Prop:=qX P gl f zl az y6 R qw
section
variable{P:Program}{own:Nat->Prop}{C:Nat->Prop}{w0:World}{g:Gh}{st:St}{a:Act}{w:World}
theorem Rg.PM(h:Rg P own C w0 g st a w){w':World}{f:Nm->Option Nm}{hp':Nm->Option AO}
  (gC:g'.C=C')(hCC:∀b,C b->C' b)(hclt:∀b,C' b->b<w'.heap.size)(gf:∀n n',f n=Z n'->g'.φ n'=g.φ n/\g'.κ n'=g.κ n)
  (h1:w'.os=w.os)(h2:w'.tape=w.tape)(h3:w'.output=w.output)(h4:w.heap.size<=w'.heap.size)
  (hw:∀b,C b->w'.heap[b]?=w.heap[b]?)(hkeep:∀b,b<w0.heap.size->¬own b->w'.heap[b]?=w.heap[b]?)
  (hobj:∀n' o',hp' n'=Z o' ->
    (∃n o,f n=Z n'/\st.hp n=Z o/\o'=o.tr f/\∀b,g.φ n=Z b->w'.heap[b]?=w.heap[b]?/\¬C' b) \/
    (jd g' w' n' o'/\∀b,g'.φ n'=Z b->(¬C' b/\(w0.heap.size<=b\/own b)/\b<w'.heap.size)/\∀n'' o'',hp' n''=Z o''->g'.φ n''=Z b->n''=n')):
  Rg P own C' w0 g' (st.nm f hp') a w':=by
 obtain⟨i,hd,hs,hsl,hgl⟩:=h;have hwg:∀b,g.C b->w'.heap[b]?=w.heap[b]?:=λb hb=>hw b (i.hC ▸ hb);have gCf:∀b,g.C b->g'.C b:=λb hb=>by rw[gC];grind[Inv.hC]
 have rv:∀{v:Value}{x:AV},RV g w v x->RV g' w' v (x.tr f):=λhv=>hv.tr gCf hwg gf
 have old:∀n' o' b,hp' n'=Z o'->g'.φ n'=Z b ->
   (∃n o,f n=Z n'/\st.hp n=Z o/\g.φ n=Z b/\¬C' b)\/((¬C' b/\(w0.heap.size<=b\/own b)/\b<w'.heap.size)/\∀n'' o'',hp' n''=Z o''->g'.φ n''=Z b->n''=n'):=by
  grind
 refine⟨⟨h1.trans i.os,h2.trans i.tape,h3.trans i.output,uV i.size h4,λb hb ho=>(hkeep b hb ho).trans (i.wx b hb ho),gC,hclt,?_,?_,?_⟩,
  hd,hs,λt=>rv (hsl t),λj row e=>⟨?_,(hgl j row e).2⟩⟩
 .intro n' o' hn';rcases hobj n' o' hn' with⟨n,o,e1,e2,rfl,e4⟩|⟨e,_⟩
  .exact (i.obj n o e2).tr gCf hwg gf e1 (λb hb=>(e4 b hb).1)
  .exact e
 .intro n' o' b hn' hb;rcases old n' o' b hn' hb with⟨n,o,_,e2,e3,e4⟩|⟨e,_⟩
  .obtain⟨x1,x2,x3⟩:=i.qG n o b e2 e3
   grind
  .exact e
 .intro n1 n2 o1 o2 b hn1 hn2 hb1 hb2;rcases old n1 o1 b hn1 hb1 with⟨m1,p1,e1,e2,e3,_⟩|⟨_,e⟩
  .rcases old n2 o2 b hn2 hb2 with⟨m2,p2,f1,f2,f3,_⟩|⟨_,e'⟩
   .have:=i.inj m1 m2 p1 p2 b e2 f2 e3 f3
    simp_all
   .exact e' n1 o1 hn1 hb1
  .exact (e n2 o2 hn2 hb2).symm
 .refine⟨?_,(hgl j row e).1.2.same (hgl j row e).1.1 hwg⟩;have:=rv (hgl j row e).1.1
  simpa only[AV.tr,pR,(hgl j row e).2 f]using this
def cf(d:Nat)(D:Nm->Bool)(H:Nm->Option AO)(m:Nm):Option Nm:=
 if Nm.under (.s d) m then Y else if D m then(if m.z6&&(H m).isSome then Z m else Y)else Z m
def St.call(st:St)(d:Nat)(D:Nm->Bool)(H H':Nm->Option AO):St:=
 st.nm (cf d D H) (λm=>if D m||Nm.under (.s d) m then H' m else(st.hp m).map (AO.tr (cf d D H)))
def vj(H':Nm->Option AO):Nm->Option AO:=λm=>match H' m with|some o=>if o.jX then Z o else Y|none=>Y
def ni(x:AV):AV:=if x.jX then x else .bot
theorem SR{m m':Nm}(h:cf d D H m=Z m'):m=m'/\Nm.under (.s d) m=M/\(D m=B->m.z6=B/\H m≠Y):=by
 grind[cf]
theorem Rg.after(h:Rg P own C w0 g st a w){H' H'':Nm->Option AO}{C1 C'':Nat->Prop}{w':World}
  (hH:∀n,D n=B->st.hp n=H n)(hHD:∀n,H n≠Y->D n=B)(hf:dH (vn g H) C1 w (g.more C1) D (.s d) H H' C' g' w')
  (hCC:∀b,C b->C'' b)(hC'':∀b,C'' b->C b\/C' b/\(w.heap.size<=b\/vn g H b))(uL:∀n o,H'' n=Z o->H' n=Z o)(hob:∀n o,H'' n=Z o->jd (g'.more C'') w' n o):
  Rg P own C'' w0 (g'.more C'') (st.call d D H H'') a w'/\∀k i j,D (.u k i j)=M\/H (.u k i j)≠Y->(g'.more C'').φ (.u k i j)=g.φ (.u k i j)/\(g'.more C'').κ (.u k i j)=g.κ (.u k i j):=by
 have ownlt:∀b,vn g H b->¬C b/\(w0.heap.size<=b\/own b)/\b<w.heap.size:=by
  rintro b ⟨n,hn,hk⟩;obtain⟨o,ho⟩:=dM.1 hn;exact h.inv.qG n o b qQ hk
 have frame:∀m o b,D m=M->st.hp m=Z o->g.φ m=Z b->¬vn g H b:=by
  rintro m o b hD hm hk ⟨n,hn,hk'⟩;obtain⟨o',ho'⟩:=dM.1 hn;have:=h.inv.inj m n o o' b hm qQ hk hk'
  simp_all
 have wx:∀b,b<w.heap.size->¬vn g H b->w'.heap[b]?=w.heap[b]?:=λb hb ho=>hf.inv.wx b hb ho
 have gf:∀n n',cf d D H n=Z n'->(g'.more C'').φ n'=g.φ n/\(g'.more C'').κ n'=g.κ n:=by
  intro n n' e;obtain⟨rfl,e2,e3⟩:=SR e
  cases hD:D n with
  |false=>exact hf.same n hD e2
  |true=>
   obtain⟨x1,x2⟩:=e3 hD
   cases n with
   |u k i j=>exact hf.Im k i j x2
   |s _=>grind[Nm.z6]
   |c _ _ _=>grind[Nm.z6]
 have old1:∀m o b,D m=M->Nm.under (.s d) m=M->st.hp m=Z o->g.φ m=Z b->w'.heap[b]?=w.heap[b]?/\¬C'' b:=by
  intro m o b hD hu hm hk;obtain⟨x1,x2,x3⟩:=h.inv.qG m o b hm hk
  grind
 have newb:∀n o b,H'' n=Z o->g'.φ n=Z b->¬C' b/\(w.heap.size<=b\/vn g H b)/\b<w'.heap.size:=λn o b hn hk=>hf.inv.qG n o b (uL n o hn) hk
 have key:∀n' o',(st.call d D H H'').hp n'=Z o'->(H'' n'=Z o'/\(D n'=B\/Nm.under (.s d) n'=B))\/∃o,D n'=M/\Nm.under (.s d) n'=M/\st.hp n'=Z o/\o'=o.tr (cf d D H):=by
  grind[St.call,St.nm,zq]
 refine⟨h.PM (g':=g'.more C'') (f:=cf d D H) (hp':=(st.call d D H H'').hp) rfl hCC (λb hb=>?_) gf hf.inv.os hf.inv.tape hf.inv.output hf.inv.size ?_ ?_ ?_,?_⟩
 .rcases hC'' b hb with hc|⟨hc,_⟩
  .exact um (h.inv.ur b hc) hf.inv.size
  .exact hf.inv.ur b hc
 .intro b hb;exact wx b (h.inv.ur b hb) (λho=>(ownlt b ho).1 hb)
 .intro b hb hno;refine wx b (um hb h.inv.size) (λho=>?_)
  grind
 .intro n' o' e;rcases key n' o' e with⟨e1,e2⟩|⟨o,e1,e2,e3,e4⟩
  .right;refine⟨hob n' o' e1,λb hb=>?_⟩;obtain⟨x1,x2,x3⟩:=newb n' o' b e1 hb;refine⟨⟨λhc=>?_,?_,x3⟩,λn'' o'' e'' hb''=>?_⟩
   .rcases hC'' b hc with hc|⟨hc,_⟩
    .rcases x2 with x2|x2
     .have:=h.inv.ur b hc;omega
     simp_all
    simp_all
   .rcases x2 with x2|x2
    .exact .inl (uV h.inv.size x2)
    simp_all
   .rcases key n'' o'' e'' with⟨f1,f2⟩|⟨o2,f1,f2,f3,f4⟩
    .exact hf.inv.inj n'' n' o'' o' b (uL _ _ f1) (uL _ _ e1) hb'' hb
    grind[cf]
  grind[cf]
 .intro k i j hk;have hu:Nm.under (.s d) (.u k i j)=M:=ag
  cases hD:D (.u k i j)with
  |false=>grind[cf]
  |true=>
   rcases hk with hk|hk
   .simp_all
   .exact hf.Im k i j hk
end
end Go.Hm
end
