/-
  Own texts, joined by mkclaim.py: Hm6, Hm7, Hm8.
-/
import Derived.Test.YtbgmnmnoaamgkaaGreatDoorD02
set_option linter.unusedSimpArgs false
set_option linter.unusedVariables false
set_option maxRecDepth 100000
set_option maxHeartbeats 4000000

section
namespace Go.Hm
open Go Go.RowKit
section
variable {P:Program} {own:Nat→Prop} {C:Nat→Prop} {w0:World} {g:Gh} {st:St} {a:Act} {w:World}
def qA1:Option AV→Option (Option (IntKind×Int))
 | none=>some none
 | some (.sc (.int k n))=>some (some (k,n))
 | _=>none
def kO (hp:Nm→Option AO) (n:Nm) (z:Nat):Nat:=match hp n with|some (.row z' rows)=>if z'=z then rows.length else 0|_=>0
theorem qCR {hp:Nm→Option AO} {n:Nm} {z k:Nat} (h:k<kO hp n z):∃ rows,hp n=some (.row z rows)∧k<rows.length:=by
 unfold kO at h
 split at h
 ·rename_i z' rows e
  split at h
  ·rename_i hz;subst hz;exact⟨rows,e,h⟩
  ·cases h
 ·cases h
def qCH (P:Program) (T:TypeId) (hp:Nm→Option AO) (x:AV) (lo hi:Option Int):Option AV :=
 match x with
 | .sc (.string s)=>if qPQ P T∧0≤lo.getD 0∧lo.getD 0≤hi.getD s.size∧hi.getD s.size≤s.size then some (.sc (.string (s.extract (lo.getD 0).toNat (hi.getD s.size).toNat))) else none
 | .sl z rows=>match tel P T with
  | some e=>if z=tsz P e∧0≤lo.getD 0∧lo.getD 0≤hi.getD rows.length∧hi.getD rows.length≤rows.length then some (.sl z ((rows.drop (lo.getD 0).toNat).take ((hi.getD rows.length).toNat - (lo.getD 0).toNat))) else none
  | none=>none
 | .hs n z p len=>match tel P T with
  | some e=>if z=tsz P e∧0≤lo.getD 0∧lo.getD 0≤hi.getD len∧(hi.getD len≤len∨p+(hi.getD len).toNat≤kO hp n z) then some (.hs n z (p+(lo.getD 0).toNat) ((hi.getD len).toNat - (lo.getD 0).toNat)) else none
  | none=>none
 | _=>none
theorem qD3 {b:Bool} {len cap:Nat} {lo hi:Option (IntKind×Int)} (h0:0≤(lo.map (fun p:IntKind×Int=>p.2)).getD (0:Int)) (h1:(lo.map (fun p:IntKind×Int=>p.2)).getD (0:Int)≤(hi.map (fun p:IntKind×Int=>p.2)).getD (len:Int)) (h2:(hi.map (fun p:IntKind×Int=>p.2)).getD (len:Int)≤cap) :
  (Instr.sliceBounds b len cap (lo.map fun p=>.int p.1 p.2) (hi.map fun p=>.int p.1 p.2) none).run P w=.ok (((lo.map (fun p:IntKind×Int=>p.2)).getD (0:Int)).toNat,((hi.map (fun p:IntKind×Int=>p.2)).getD (len:Int)).toNat,cap) w:=by
 have hb:∀ (k:IntKind) (i:Int) (y:Nat) (c:BoundsCode),0≤i→i≤y→(Instr.sliceBound (.int k i) y c).run P w=.ok i.toNat w:=by
  intro k i y c g0 g1
  simp only [Instr.sliceBound,asIntOf,Sem.run_bind,Sem.run_pure,Result.andThen_ok,g0,g1,and_self,if_true]
 cases lo with
 | none =>
  cases hi with
  | none=>simp [Instr.sliceBounds]
  | some q =>
   simp only [Option.map_some,Option.getD_some,Option.map_none,Option.getD_none] at *
   simp only [Instr.sliceBounds,Sem.run_bind,Sem.run_pure,Result.andThen_ok]
   rw [hb _ _ _ _ (by omega) (by omega)]
   simp
 | some p =>
  cases hi with
  | none =>
   simp only [Option.map_some,Option.getD_some,Option.map_none,Option.getD_none] at *
   simp only [Instr.sliceBounds,Sem.run_bind,Sem.run_pure,Result.andThen_ok]
   rw [hb _ _ _ _ (by omega) (by omega)]
   simp
  | some q =>
   simp only [Option.map_some,Option.getD_some] at *
   simp only [Instr.sliceBounds,Sem.run_bind,Sem.run_pure,Result.andThen_ok]
   rw [hb _ _ _ _ (by omega) (by omega)]
   simp only [Result.andThen_ok]
   rw [hb _ _ _ _ (by omega) (by omega)]
   simp
theorem vT {T E:TypeId} {ad:Option Addr} {len cap:Nat} {lo hi:Option (IntKind×Int)} (ht:tel P T=some E) (h0:0≤(lo.map (fun p:IntKind×Int=>p.2)).getD (0:Int)) (h1:(lo.map (fun p:IntKind×Int=>p.2)).getD (0:Int)≤(hi.map (fun p:IntKind×Int=>p.2)).getD (len:Int)) (h2:(hi.map (fun p:IntKind×Int=>p.2)).getD (len:Int)≤cap) :
  (Instr.sliceAt T (.slice ad len cap) (lo.map fun p=>.int p.1 p.2) (hi.map fun p=>.int p.1 p.2) none).run P w =
    .ok (.slice (if cap=((lo.map (fun p:IntKind×Int=>p.2)).getD (0:Int)).toNat then ad else ad.map (·.add (((lo.map (fun p:IntKind×Int=>p.2)).getD (0:Int)).toNat * tsz P E))) (((hi.map (fun p:IntKind×Int=>p.2)).getD (len:Int)).toNat - ((lo.map (fun p:IntKind×Int=>p.2)).getD (0:Int)).toNat) (cap - ((lo.map (fun p:IntKind×Int=>p.2)).getD (0:Int)).toNat)) w:=by
 obtain⟨hu,hi'⟩:=qID ht
 simp only [Instr.sliceAt,Sem.run_bind,zR hu,Result.andThen_ok,Instr.slice,qD3 h0 h1 h2,qAO hi',Sem.run_pure]
theorem qJT {T:TypeId} {v:Value} {x z:AV} {lo hi:Option (IntKind×Int)} (hi0:Inv own C w0 g st.hp w) (hv:RV g w v x) (h:qCH P T st.hp x (lo.map (·.2)) (hi.map (fun p:IntKind×Int=>p.2))=some z) :
  ∃ v',(Instr.sliceAt T v (lo.map fun p=>.int p.1 p.2) (hi.map fun p=>.int p.1 p.2) none).run P w=.ok v' w∧RV g w v' z:=by
 unfold qCH at h
 split at h
 ·rename_i s
  obtain rfl:=hv.sc_eq
  split at h
  ·rename_i hc
   obtain⟨ht,h0,h1,h2⟩:=hc
   obtain rfl:=sI h
   unfold qPQ at ht
   split at ht
   ·rename_i hu
    refine⟨_,?_,.sc _⟩
    simp only [Instr.sliceAt,Sem.run_bind,zR hu,Result.andThen_ok,Instr.slice,Option.isSome_none,Bool.false_eq_true,if_false,Sem.run_pure,qD3 h0 h1 h2]
   ·cases ht
  ·cases h
 ·rename_i z0 rows
  split at h
  ·rename_i e ht
   split at h
   ·rename_i hc
    obtain⟨hz,h0,h1,h2⟩:=hc
    obtain rfl:=sI h
    cases hv with
    | slN ad cap _ =>
     simp only [List.length_nil] at h0 h1 h2 ⊢
     have h2':(hi.map (fun p:IntKind×Int=>p.2)).getD ((0:Nat):Int)≤(cap:Int):=Int.le_trans h2 (by omega)
     refine⟨_,vT ht h0 h1 h2',?_⟩
     have e:((hi.map (fun p:IntKind×Int=>p.2)).getD ((0:Nat):Int)).toNat - ((lo.map (fun p:IntKind×Int=>p.2)).getD (0:Int)).toNat=0:=by omega
     rw [e]
     simp only [List.drop_nil,List.take_nil]
     exact .slN _ _ _
    | slC b off cap n _ rows f hC hn hcap hu hcell ho hr =>
     rw [hn] at h1 h2 ⊢
     refine⟨_,vT ht h0 h1 (by omega),?_⟩
     generalize hL:((lo.map (fun p:IntKind×Int=>p.2)).getD (0:Int)).toNat=L at *
     generalize hH:((hi.map (fun p:IntKind×Int=>p.2)).getD (n:Int)).toNat=H at *
     have hLH:L≤H:=by omega
     have hHn:H≤n:=by omega
     by_cases he:H=L
     ·subst he
      rw [Nat.sub_self,List.take_zero]
      exact .slN _ _ _
     ·rw [if_neg (by omega)]
      simp only [Option.map_some,Addr.add_lit,← hz]
      refine .slC b (off+L * z0) (cap - L) (H - L) z0 _ (fun i j=>f (L+i) j) hC ?_ (by omega) ?_ ?_ ?_ ?_
      ·rw [List.length_take,List.length_drop,hn];omega
      ·intro r hr'
       exact hu r (List.mem_of_mem_drop (List.mem_of_mem_take hr'))
      ·intro i j hi' hj
       have:=hcell (L+i) j (by omega) hj
       rw [Nat.add_mul] at this
       rw [show off+L * z0+i * z0+j=off+(L * z0+i * z0)+j from by omega]
       exact this
      ·intro i j hi' hj
       exact ho (L+i) j (by omega) hj
      ·intro i row hrow j y hy
       rw [List.getElem?_take] at hrow
       split at hrow
       ·rw [List.getElem?_drop] at hrow
        exact hr (L+i) row hrow j y hy
       ·cases hrow
   ·cases h
  ·cases h
 ·rename_i n z0 p len
  split at h
  ·rename_i e ht
   split at h
   ·rename_i hc
    obtain⟨hz,h0,h1,h2⟩:=hc
    obtain rfl:=sI h
    cases hv with
    | hsN _ _ hk =>
     have h3:(hi.map (fun p:IntKind×Int=>p.2)).getD ((0:Nat):Int)≤((0:Nat):Int):=by
      rcases h2 with h2|h2
      ·exact h2
      ·refine Int.not_lt.1 fun hlt=>?_
       have h5:0<kO st.hp n z0:=by omega
       obtain⟨rows,hr,h2⟩:=qCR h5
       have ho:=hi0.obj _ _ hr
       simp only [OAt,hk] at ho
       subst ho
       simp only [List.length_nil] at h2
       omega
     refine⟨_,vT ht h0 h1 h3,?_⟩
     have e1:((hi.map (fun p:IntKind×Int=>p.2)).getD ((0:Nat):Int)).toNat=0:=by omega
     have e2:((lo.map (fun p:IntKind×Int=>p.2)).getD (0:Int)).toNat=0:=by omega
     rw [e1,e2]
     exact .hsN n z0 hk
    | hsB _ _ _ _ b cap ad hk g1 g2 g3 =>
     have h3:(hi.map (fun p:IntKind×Int=>p.2)).getD (len:Int)≤(cap:Int):=by
      rcases h2 with h2|h2
      ·omega
      ·refine Int.not_lt.1 fun hlt=>?_
       obtain⟨rows,hr,h2⟩:=qCR (Nat.lt_of_lt_of_le (by omega:p+((hi.map (fun p:IntKind×Int=>p.2)).getD (len:Int)).toNat - 1<p+((hi.map (fun p:IntKind×Int=>p.2)).getD (len:Int)).toNat) h2)
       have ho:=hi0.obj _ _ hr
       simp only [OAt,hk] at ho
       obtain⟨cur,T',x1,x2,x3,x4,_⟩:=ho
       omega
     refine⟨_,vT ht h0 h1 h3,?_⟩
     generalize hL:((lo.map (fun p:IntKind×Int=>p.2)).getD (0:Int)).toNat=L at *
     generalize hH:((hi.map (fun p:IntKind×Int=>p.2)).getD (len:Int)).toNat=H at *
     refine .hsB n z0 (p+L) (H - L) b (cap - L) _ hk (by omega) (by omega) (fun hlt=>?_)
     rw [if_neg (by omega),g3 (by omega)]
     simp only [Option.map_some,Addr.add_lit,← hz,Nat.add_mul]
   ·cases h
  ·cases h
 ·cases h
def qU0 (k:IntKind) (n:Int):List (AV×AV)→Option AV
 | []=>none
 | (.sc (.int k' m),x)::l=>if k'=k then (if m=n then some x else qU0 k n l) else none
 | _::_=>none
def qOR (k:IntKind):List (AV×AV)→Bool
 | []=>true
 | (.sc (.int k' _),_)::l=>(k'==k)&&qOR k l
 | _::_=>false
def qPv (P:Program) (T:TypeId):Option (IntKind×TypeId) :=
 match P.underlying T with
 | some (.map key e)=>match P.underlying key with
  | some (.int k)=>some (k,e)
  | _=>none
 | _=>none
def qOW (P:Program) (T:TypeId) (hp:Nm→Option AO) (x i:AV) (ok:Bool):Option AV :=
 match qPv P T,i with
 | some (k,e),.sc (.int k' n)=>if k'=k then (match x with
  | .mp m=>match hp m with
   | some (.map es)=>if qOR k es then (match qU0 k n es with
    | some y=>some (if ok then .tup [y,.sc (.bool true)] else y)
    | none=>(kE P e).map (fun z=>if ok then .tup [z,.sc (.bool false)] else z)) else none
   | _=>none
  | _=>none) else none
 | _,_=>none
theorem qCt {k:IntKind} {n:Int}:∀ (ms:List MapEntry) (es:List (AV×AV)) (p:Nat),ms.length=es.length→(∀ (i:Nat) m e,ms[i]?=some m→es[i]?=some e→RV g w m.key e.1∧RV g w m.val e.2)→qOR k es=true →
  ∃ r,Instr.findNow (.int k) (.int k n) ms p=some r∧match qU0 k n es with
   | some y=>∃ i v,r=some (p+i,v)∧RV g w v y∧(∃ m,ms[i]?=some m∧m.val=v∧m.key=.int k n)∧i<ms.length
   | none=>r=none
 | [],es,p,hl,_,_=>by
  obtain rfl:=List.eq_nil_of_length_eq_zero (by simpa using hl.symm)
  exact⟨none,rfl,rfl⟩
 | m::ms,[],p,hl,_,_=>by simp at hl
 | m::ms,(ek,ev)::es,p,hl,hr,hm=>by
  unfold qOR at hm
  split at hm
  ·cases ‹_::_=[]›
  ·rename_i k' m' x l he
   obtain⟨e1,rfl⟩:=List.cons.inj he
   obtain⟨rfl,rfl⟩:=Prod.mk.inj e1
   simp only [Bool.and_eq_true,beq_iff_eq] at hm
   obtain⟨rfl,hm⟩:=hm
   obtain⟨h1,h2⟩:=hr 0 m _ rfl rfl
   have hk:=h1.sc_eq
   by_cases hn:m'=n
   ·subst hn
    refine⟨some (p,m.val),by simp [Instr.findNow,Instr.sameNow,hk],?_⟩
    simp only [qU0,if_true]
    exact⟨0,m.val,by simp,h2,⟨m,rfl,rfl,hk⟩,by simp⟩
   ·obtain⟨r,f1,f2⟩:=qCt (n:=n) ms es (p+1) (by simpa using hl) (fun i m e hm he=>hr (i+1) m e (by simpa using hm) (by simpa using he)) hm
    have hne:(n==m')=false:=by simpa using fun e=>hn e.symm
    refine⟨r,by simp [Instr.findNow,Instr.sameNow,hk,hne,f1],?_⟩
    simp only [qU0,if_true,if_neg hn]
    split
    ·rename_i y hy
     rw [hy] at f2
     obtain⟨i,v,e1,e2,⟨m2,e3,e4⟩,e5⟩:=f2
     exact⟨i+1,v,by rw [e1];congr 2;omega,e2,⟨m2,by simpa using e3,e4⟩,by simp;omega⟩
    ·rename_i hy
     rw [hy] at f2
     exact f2
  ·cases hm
theorem qJE {T e:TypeId} {k:IntKind} (h:qPv P T=some (k,e)):∃ key,P.underlying T=some (.map key e)∧P.underlying key=some (.int k):=by
 unfold qPv at h
 split at h
 ·rename_i key e' hu
  split at h
  ·rename_i k' hk
   obtain⟨rfl,rfl⟩:=Prod.mk.inj (sI h)
   exact⟨key,hu,hk⟩
  ·cases h
 ·cases h
theorem qBa {key:TypeId} {k:IntKind} {n:Int} {b:Bool} (h:P.underlying key=some (.int k)):(Instr.checkKey b 10000 key (.int k n)).run P w=.ok () w:=by
 have:∀ d,(Instr.checkKey b (d+1) key (.int k n)).run P w=.ok () w:=by
  intro d
  simp [Instr.checkKey,underlying,h]
 exact this 9999
theorem qJW {T:TypeId} {v u:Value} {x i z:AV} {ok:Bool} (hi0:Inv own C w0 g st.hp w) (hv:RV g w v x) (hu:RV g w u i) (h:qOW P T st.hp x i ok=some z) :
  ∃ v',(Instr.lookup T v u ok).run P w=.ok v' w∧RV g w v' z:=by
 unfold qOW at h
 split at h
 ·rename_i k e k' n ht
  split at h
  ·rename_i hk
   subst hk
   split at h
   ·rename_i m
    split at h
    ·rename_i es hm
     split at h
     ·rename_i hmk
      obtain⟨key,hT,hkey⟩:=qJE ht
      obtain rfl:=hu.sc_eq
      cases hv with
      | mp _ b hb =>
       have ho:=hi0.obj _ _ hm
       simp only [OAt,hb] at ho
       obtain⟨ms,clock,h1,_,h2,h3⟩:=ho
       have hg:(getObj b).run P w=.ok (.map ms.toArray clock) w:=by simp [getObj,Sem.run,h1]
       obtain⟨r,f1,f2⟩:=qCt (n:=n) ms es 0 h2 h3 hmk
       have hck:=fun b=>qBa (P:=P) (w:=w) (n:=n) (b:=b) hkey
       split at h
       ·rename_i y hy
        rw [hy] at f2
        obtain⟨i',v',rfl,hv',_⟩:=f2
        obtain rfl:=sI h
        cases ok
        ·exact⟨v',by simp [Instr.lookup,zR hT,hg,hck,Instr.findKey,zR hkey,f1],hv'⟩
        ·exact⟨.tuple #[v',.bool true],by simp [Instr.lookup,zR hT,hg,hck,Instr.findKey,zR hkey,f1],.tup2 hv' (.sc _)⟩
       ·rename_i hy
        rw [hy] at f2
        subst f2
        obtain⟨z0,hz0,rfl⟩:=Option.map_eq_some_iff.1 h
        obtain⟨v0,hr0,hv0⟩:=qCM (g:=g) (w:=w) hz0
        cases ok
        ·exact⟨v0,by simp [Instr.lookup,zR hT,hg,hck,Instr.findKey,zR hkey,f1,hr0],hv0⟩
        ·exact⟨.tuple #[v0,.bool false],by simp [Instr.lookup,zR hT,hg,hck,Instr.findKey,zR hkey,f1,hr0],.tup2 hv0 (.sc _)⟩
     ·cases h
    ·cases h
   ·cases h
  ·cases h
 ·cases h
def qVU (P:Program) (A:TypeId) (x:AV):Option AV :=
 if j6 P A=some false then
  match x with
  | .ifc t y=>if t=A then some y else none
  | _=>none
 else none
theorem qHN {T A:TypeId} {v:Value} {x z:AV} (hv:RV g w v x) (h:qVU P A x=some z):∃ v',(Instr.typeAssert v T A false).run P w=.ok v' w∧RV g w v' z:=by
 unfold qVU at h
 split at h
 ·rename_i h1
  obtain⟨d,hu,hd⟩:∃ d,P.underlying A=some d∧∀ ms,d≠.interface ms:=by
   unfold j6 at h1
   cases hu:P.underlying A with
   | none=>simp [hu] at h1
   | some d=>exact⟨d,rfl,fun ms e=>by subst e;simp [hu] at h1⟩
  split at h
  ·rename_i t y
   split at h
   ·rename_i ht
    subst ht
    obtain rfl:=sI h
    cases hv with
    | ifc _ v _ h =>
     refine⟨v,?_,h⟩
     cases d <;> first
      | (simp [Instr.typeAssert,zR hu];done)
      | exact absurd rfl (hd _)
   ·cases h
  ·cases h
 ·cases h
def qH4:AV→Option AV
 | .pt id o=>some (.pt id o)
 | .el r o=>some (.el r o)
 | .ep n z i o=>some (.ep n z i o)
 | .fn (.func f) x y=>some (.fn (.func f) x y)
 | .sc (.func (.func f) x y)=>some (.sc (.func (.func f) x y))
 | _=>none
def qev (P:Program) (st:St) (o:Oper):Option AV :=
 match o.op with
 | .move x=>some (ev st x)
 | .pick c x y=>qA0 (ev st c) (ev st x) (ev st y)
 | .load T x=>(cellsAt st (ev st x)).bind (fun p=>qIj P T p.1 p.2)
 | .nilCheck x=>qH4 (ev st x)
 | .binOp op T x y _=>wz P T op (match y with|.const _=>true|_=>false) (ev st x) (ev st y)
 | .unOp op _ x=>qRw op (ev st x)
 | .convert S D x=>qMA P S D (ev st x)
 | .makeInterface T x=>qLP P T (ev st x)
 | .slice T x lo hi none=>(qA1 (lo.map (ev st))).bind fun l=>(qA1 (hi.map (ev st))).bind fun h=>qCH P T st.hp (ev st x) (l.map (·.2)) (h.map (·.2))
 | .fieldAddr T x f=>wn P T f (ev st x)
 | .field T x f=>qJu P T f (ev st x)
 | .indexAddr T x i=>match ev st i with|.sc (.int _ n)=>qCk P T (ev st x) n|_=>none
 | .index T x i=>match ev st i with|.sc (.int _ n)=>qJp P T (ev st x) n|_=>none
 | .extract x i=>qLv i (ev st x)
 | .build T parts=>qHk P T (parts.toList.map (fun p=>(p.1,ev st p.2)))
 | .typeAssert x _ A true=>qF7 P A (ev st x)
 | .typeAssert x _ A false=>qVU P A (ev st x)
 | .makeFunc f xs ys=>some (.fn f (xs.toList.map (ev st)) (ys.toList.map (ev st)))
 | .lookup T x i ok=>qOW P T st.hp (ev st x) (ev st i) ok
 | .call c=>match c.callee,c.args.toList,c.argTypes.toList with
  | .builtin .len,[x],[T]=>qEj P T st.hp (ev st x)
  | _,_,_=>none
 | _=>none
theorem qC6 {lo:Option Operand} {l:Option (IntKind×Int)} (h:Rg P own C w0 g st a w) (hl:qA1 (lo.map (ev st))=some l):lo.map a.eval=l.map fun p=>Value.int p.1 p.2:=by
 cases lo with
 | none=>simp only [Option.map_none,qA1] at hl;obtain rfl:=sI hl;rfl
 | some x =>
  have hv:=h.ev x
  simp only [Option.map_some] at hl ⊢
  generalize Hm.ev st x=y at hl hv
  unfold qA1 at hl
  split at hl
  ·rename_i e;cases e
  ·rename_i k n e
   obtain rfl:=sI e
   obtain rfl:=sI hl
   rw [hv.sc_eq];rfl
  ·cases hl
theorem qGC {o:Oper} {z:AV} (h:Rg P own C w0 g st a w) (hq:qev P st o=some z):∃ v,(execOp a.eval o).run P w=.ok (.value v) w∧RV g w v z:=by
 have wrap:∀ (s:Sem Value),(∃ v,s.run P w=.ok v w∧RV g w v z)→∃ v,(do pure (Next.value (← s)):Sem Next).run P w=.ok (.value v) w∧RV g w v z:=by
  rintro s ⟨v,h1,h2⟩
  exact⟨v,by simp [h1],h2⟩
 unfold qev at hq
 unfold execOp
 split at hq
 all_goals (rename_i hop;first|rw [hop]|(cases hq;done))
 ·obtain rfl:=sI hq
  exact⟨_,rfl,h.ev _⟩
 ·obtain⟨v,h1,h2⟩:=qHP (w:=w) (h.ev _) (h.ev _) (h.ev _) hq
  refine⟨v,?_,h2⟩
  simp only [Sem.run_bind,Sem.run_pure] at h1 ⊢
  revert h1
  cases (asBool (a.eval _)).run P w with
  | ok t w' =>
   intro h1
   simp only [Result.andThen_ok] at h1 ⊢
   injection h1 with e1 e2
   rw [e1,e2]
  | halt x w'=>intro h1;cases h1
 ·obtain⟨⟨cs,off⟩,h1,h2⟩:=Option.bind_eq_some_iff.1 hq
  exact wrap _ (qHQ h rfl h1 h2)
 ·rename_i x
  have hv:=h.ev x
  generalize Hm.ev st x=y at hq hv
  unfold qH4 at hq
  split at hq
  ·obtain rfl:=sI hq
   obtain⟨ad,e⟩:=hv.ptr_some (.inl ⟨_,_,rfl⟩)
   refine⟨_,?_,hv⟩
   simp only [e]
   rfl
  ·obtain rfl:=sI hq
   obtain⟨ad,e⟩:=hv.ptr_some (.inr (.inl ⟨_,_,rfl⟩))
   refine⟨_,?_,hv⟩
   simp only [e]
   rfl
  ·obtain rfl:=sI hq
   obtain⟨ad,e⟩:=hv.ptr_some (.inr (.inr ⟨_,_,_,_,rfl⟩))
   refine⟨_,?_,hv⟩
   simp only [e]
   rfl
  ·rename_i f0 _ _
   obtain rfl:=sI hq
   have e:∃ vs us,a.eval x=.func (.func f0) vs us:=by
    generalize a.eval x=v at hv
    cases hv with
    | fn _ vs us=>exact⟨_,_,rfl⟩
   obtain⟨vs,us,e⟩:=e
   refine⟨_,?_,hv⟩
   simp only [e]
   rfl
  ·obtain rfl:=sI hq
   have e:=hv.sc_eq
   refine⟨_,?_,hv⟩
   simp only [e]
   rfl
  ·cases hq
 ·rename_i op T x y yT
  obtain⟨v,h1,h2⟩:=qJ3 (xo:=x) (yo:=y) (fun hc=>by cases y <;> first|exact⟨_,rfl⟩|cases hc) (h.ev _) (h.ev _) hq
  exact wrap _ ⟨v,h1,h2⟩
 ·exact wrap _ (qKk (h.ev _) hq)
 ·exact wrap _ (qJ1 (h.ev _) hq)
 ·exact wrap _ (qJU (h.ev _) hq)
 ·rename_i T x lo hi
  obtain⟨l,hl,hq⟩:=Option.bind_eq_some_iff.1 hq
  obtain⟨u,hu,hq⟩:=Option.bind_eq_some_iff.1 hq
  have e1:=qC6 h hl
  have e2:=qC6 h hu
  refine wrap (Instr.sliceAt T (a.eval x) (lo.map a.eval) (hi.map a.eval) none) ?_
  rw [e1,e2]
  exact qJT h.inv (h.ev _) hq
 ·exact wrap _ (qFm (h.ev _) hq)
 ·exact wrap _ (qJZ (h.ev _) hq)
 ·rename_i T x i
  split at hq
  ·rename_i k n e
   have hi:=h.ev i
   rw [e] at hi
   refine wrap (Instr.indexAt T (a.eval x) (a.eval i)) ?_
   rw [hi.sc_eq]
   exact qFl (h.ev _) hq
  ·cases hq
 ·rename_i T x i
  split at hq
  ·rename_i k n e
   have hi:=h.ev i
   rw [e] at hi
   refine wrap (Instr.index T (a.eval x) (a.eval i)) ?_
   rw [hi.sc_eq]
   exact qJY (h.ev _) hq
  ·cases hq
 ·exact wrap _ (qJ0 (h.ev _) hq)
 ·rename_i T parts
  refine wrap _ (qJ2 (by simp) (fun j p q hp hq'=>?_) hq)
  rw [Array.getElem?_map] at hp
  obtain⟨p0,hp0,rfl⟩:=Option.map_eq_some_iff.1 hp
  rw [List.getElem?_map] at hq'
  obtain⟨q0,hq0,rfl⟩:=Option.map_eq_some_iff.1 hq'
  have:p0=q0:=by
   have hq1:parts[j]?=some q0:=by simpa using hq0
   rw [hp0] at hq1
   exact sI hq1
  subst this
  exact⟨rfl,h.ev _⟩
 ·exact wrap _ (qJS (h.ev _) hq)
 ·exact wrap _ (qHN (h.ev _) hq)
 ·rename_i f xs ys
  obtain rfl:=sI hq
  refine wrap (Instr.makeFunc f (xs.map a.eval) (ys.map a.eval)) ⟨.func f (xs.map a.eval) (ys.map a.eval),rfl,?_⟩
  have:=RV.fn (g:=g) (w:=w) f (xs.toList.map a.eval) (ys.toList.map a.eval) (xs.toList.map (Hm.ev st)) (ys.toList.map (Hm.ev st)) (by simp) (by simp) (fun j v x hv hx=>by
   rw [List.getElem?_map] at hv hx
   obtain⟨o1,e1,rfl⟩:=Option.map_eq_some_iff.1 hv
   rw [e1] at hx
   obtain rfl:=sI hx
   exact h.ev _) (fun j v x hv hx=>by
   rw [List.getElem?_map] at hv hx
   obtain⟨o1,e1,rfl⟩:=Option.map_eq_some_iff.1 hv
   rw [e1] at hx
   obtain rfl:=sI hx
   exact h.ev _)
  have e1:(xs.toList.map a.eval).toArray=xs.map a.eval:=by apply Array.ext';simp
  have e2:(ys.toList.map a.eval).toArray=ys.map a.eval:=by apply Array.ext';simp
  rw [e1,e2] at this
  exact this
 ·exact wrap _ (qJW h.inv (h.ev _) (h.ev _) hq)
 ·rename_i c
  split at hq
  ·rename_i x T hc ha hT
   obtain⟨v,h1,h2⟩:=qJX (ty:=o.type) (w:=w) h.inv (h.ev x) hq
   refine⟨v,?_,h2⟩
   have ha':c.args=#[x]:=by apply Array.ext';simpa using ha
   have hT':c.argTypes=#[T]:=by apply Array.ext';simpa using hT
   simp [resolve,hc,ha',hT',invoke,builtin,h1]
  ·cases hq
end
def qJC (P:Program) (o:Oper) (a:Act) (w:World) (K:Act→World→Prop):Prop :=
 (∃ v w',(execOp a.eval o).run P w=.ok (.value v) w'∧K (a.put o.dst v) w')∨∃ w',(execOp a.eval o).run P w=.ok .skip w'∧K (a.put o.dst undef) w'
theorem qJC.wp {P:Program} {o:Oper} {a:Act} {w:World} {K:Act→World→Prop} (h:qJC P o a w K) (Q:Exit→Act→World→Prop):o.wp P a w K Q:=by
 unfold Oper.wp
 rcases h with⟨v,w',e,h⟩|⟨w',e,h⟩
 ·rw [e];exact h
 ·rw [e];exact h
def qWk (P:Program):Nat→TypeId→List Nat
 | 0,_=>[]
 | n+1,T=>match P.underlying T with
  | some (.struct fs)=>fs.toList.flatMap fun f=>qWk P n f.type
  | some (.array k e)=>(List.replicate k (qWk P n e)).flatten
  | some (.slice e)=>[tsz P e]
  | some _=>List.replicate (tsz P T) 0
  | none=>[]
def tce (P:Program) (T:TypeId):List Nat:=qWk P 20 T
def sNm:AV→Option Nm
 | .hs (.s t) _ _ _=>some (.s t)
 | .pt (.s t) _=>some (.s t)
 | .mp (.s t)=>some (.s t)
 | _=>none
def qn:AV→Bool
 | .sc (.slice none 0 0)=>true
 | _=>false
def zc (z:Nat) (k:Nm) (x:AV):AV:=if qn x then .hs k z 0 0 else x
def zcs (key:Nat→Nm) (es:List Nat):Nat→List AV→List AV
 | _,[]=>[]
 | j,x::l=>zc (es.getD j 0) (key j) x::zcs key es (j+1) l
def qr (key:Nat→Nm) (es:List Nat):Nat→List AV→List (Nm×Nat)
 | _,[]=>[]
 | j,x::l=>if qn x then (key j,es.getD j 0)::qr key es (j+1) l else qr key es (j+1) l
def prs (key:Nat→Nm):Nat→List AV→List (Nm×Nm)
 | _,[]=>[]
 | j,x::l=>match sNm x with
  | some k=>(k,key j)::prs key (j+1) l
  | none=>prs key (j+1) l
def canon:List (Nm×Nm)→St→St
 | [],st=>st
 | p::l,st=>canon l (st.move p.1 p.2)
def St.setNils:List (Nm×Nat)→St→St
 | [],st=>st
 | p::l,st=>(St.setNils l st).setO p.1 (.row p.2 [])
def St.addNils:List (Nm×Nat)→St→St
 | [],st=>st
 | p::l,st=>St.addNils l ((st.kill p.1).setO p.1 (.row p.2 []))
theorem ko (key:Nat→Nm) (es:List Nat):∀ (l:List AV) (j:Nat),(zcs key es j l).length=l.length
 | [],_=>rfl
 | _::l,j=>by simp [zcs,ko key es l (j+1)]
theorem qDs (key:Nat→Nm) (es:List Nat):∀ (l:List AV) (j i:Nat),(zcs key es j l)[i]?=(l[i]?).map (fun x=>zc (es.getD (j+i) 0) (key (j+i)) x)
 | [],_,_=>by simp [zcs]
 | x::l,j,0=>by simp [zcs]
 | x::l,j,i+1=>by
  simp only [zcs,List.getElem?_cons_succ]
  rw [qDs key es l (j+1) i,show j+1+i=j+(i+1) from by omega]
theorem qCa (key:Nat→Nm) (es:List Nat):∀ (l:List AV) (j i:Nat) (x:AV),l[i]?=some x→qn x=true→(key (j+i),es.getD (j+i) 0)∈qr key es j l
 | [],_,_,_,h,_=>by simp at h
 | y::l,j,0,x,h,hx=>by
  simp at h
  subst h
  simp [qr,hx]
 | y::l,j,i+1,x,h,hx=>by
  have:=qCa key es l (j+1) i x (by simpa using h) hx
  rw [show j+1+i=j+(i+1) from by omega] at this
  simp only [qr]
  split
  ·exact List.mem_cons_of_mem _ this
  ·exact this
theorem vh (key:Nat→Nm) (es:List Nat):∀ (l:List AV) (j:Nat) p,p∈qr key es j l→∃ i,p.1=key i
 | [],_,_,h=>by simp [qr] at h
 | y::l,j,p,h=>by
  simp only [qr] at h
  split at h
  ·rcases List.mem_cons.1 h with rfl|h
   ·exact⟨j,rfl⟩
   ·exact vh key es l (j+1) p h
  ·exact vh key es l (j+1) p h
theorem RV.zc {g:Gh} {w:World} {v:Value} {x:AV} {z:Nat} {k:Nm} (hv:RV g w v x) (hk:qn x=true→g.φ k=none):RV g w v (zc z k x):=by
 unfold Hm.zc
 split
 ·rename_i hn
  have:x=.sc (.slice none 0 0):=by
   unfold qn at hn
   split at hn
   ·rfl
   ·cases hn
  subst this
  rw [hv.sc_eq]
  exact .hsN k z (hk hn)
 ·exact hv
theorem qDZ:∀ (l:List (Nm×Nat)) (st:St) (m:Nm) (o:AO),(St.setNils l st).hp m=some o→(∃ p∈l,p.1=m∧o=.row p.2 [])∨((∀ p∈l,p.1≠m)∧st.hp m=some o)
 | [],_,_,_,h=>.inr ⟨by simp,h⟩
 | p::l,st,m,o,h=>by
  simp only [St.setNils,St.setO] at h
  split at h
  ·rename_i e
   exact .inl ⟨p,by simp,e.symm,(sI h).symm⟩
  ·rename_i hne
   rcases qDZ l st m o h with⟨q,h1,h2⟩|⟨h1,h2⟩
   ·exact .inl ⟨q,by simp [h1],h2⟩
   ·refine .inr ⟨fun q hq=>?_,h2⟩
    rcases List.mem_cons.1 hq with rfl|hq
    ·exact fun e=>hne e.symm
    ·exact h1 q hq
theorem kx:∀ (l:List (Nm×Nat)) (st:St),(St.setNils l st).tm=st.tm
 | [],_=>rfl
 | p::l,st=>by simp [St.setNils,St.setO,kx l st]
theorem vd:∀ (l:List (Nm×Nat)) (st:St),(St.setNils l st).n=st.n∧(St.setNils l st).gl=st.gl
 | [],_=>⟨rfl,rfl⟩
 | p::l,st=>by simp [St.setNils,St.setO,vd l st]
theorem qDB:∀ (l:List (Nm×Nat)) (st:St),(St.addNils l st).n=st.n∧(St.addNils l st).gl=st.gl
 | [],_=>⟨rfl,rfl⟩
 | p::l,st=>by rw [St.addNils,(qDB l _).1,(qDB l _).2];exact⟨rfl,rfl⟩
theorem qCy:∀ (l:List (Nm×Nm)) (st:St),(canon l st).n=st.n∧(canon l st).gl=st.gl
 | [],_=>⟨rfl,rfl⟩
 | p::l,st=>by rw [canon,(qCy l _).1,(qCy l _).2];exact⟨rfl,rfl⟩
noncomputable def Gh.fresh (g:Gh) (n:Nm) (b:Option Nat) (cap:Nat):Gh :=
 { C:=g.C,φ:=fun m=>if m=n then b else (g.tr (kl n)).φ m,κ:=fun m=>if m=n then cap else (g.tr (kl n)).κ m }
section
variable {P:Program} {own:Nat→Prop} {C:Nat→Prop} {w0:World} {g:Gh} {st:St} {a:Act} {w:World}
theorem u7 (o:Obj) {b:Nat} (h:b<w.heap.size):(w.alloc o).heap[b]?=w.heap[b]?:=Below.heap_alloc w o b h
def qM8 (l:List (Nm×Nm)):Prop:=∀ p∈l,p.1.isU=false∧p.2.isU=false
theorem Rg.canon (l:List (Nm×Nm)) (hl:qM8 l):∀ {st:St} {g:Gh},Rg P own C w0 g st a w→Rel P own C w0 g (canon l st) a w:=by
 induction l with
 | nil=>intro st g h;exact⟨g,.refl g,h⟩
 | cons p l ih =>
  intro st g h
  obtain⟨g',h1,h2⟩:=ih (fun q hq=>hl q (by simp [hq])) (h.move p.1 p.2)
  exact⟨g',(Ust.mv (hl p (by simp)).1 (hl p (by simp)).2).trans h1,h2⟩
theorem qKi {x:AV} {k:Nm} (h:sNm x=some k):k.isU=false:=by
 unfold sNm at h
 split at h
 ·obtain rfl:=sI h;rfl
 ·obtain rfl:=sI h;rfl
 ·obtain rfl:=sI h;rfl
 ·cases h
theorem qGD (key:Nat→Nm) (hk:∀ i,(key i).isU=false):∀ (l:List AV) (j:Nat),qM8 (prs key j l)
 | [],_=>by simp [prs,qM8]
 | x::l,j=>by
  simp only [prs]
  split
  ·rename_i k hx
   intro p hp
   rcases List.mem_cons.1 hp with rfl|hp
   ·exact⟨qKi hx,hk j⟩
   ·exact qGD key hk l (j+1) p hp
  ·exact qGD key hk l (j+1)
theorem Gh.free_kl_other {n m:Nm} (h:g.φ m=none):(g.tr (kl n)).φ m=none:=by
 by_cases hu:Nm.under n m=true
 ·exact y3 hu
 ·have e:kl n m=some m:=by simp [kl,hu]
  rw [(Gh.tr_spec (fun _ _ _=>qGX) e).1]
  exact h
theorem Rg.addNils (l:List (Nm×Nat)) (hlu:∀ p∈l,p.1.isU=false):∀ {st:St} {g:Gh},Rg P own C w0 g st a w→∃ g',Rg P own C w0 g' (St.addNils l st) a w∧(∀ p∈l,g'.φ p.1=none)∧(∀ m,g.φ m=none→g'.φ m=none)∧Ust g g':=by
 induction l with
 | nil=>intro st g h;exact⟨g,h,by simp,fun _ h=>h,.refl g⟩
 | cons p l ih =>
  intro st g h
  have gf:∀ k k',kl p.1 k=some k'→(g.tr (kl p.1)).φ k'=g.φ k∧(g.tr (kl p.1)).κ k'=g.κ k:=fun _ _ e=>Gh.tr_spec (fun _ _ _=>qGX) e
  have hs:=h.step (g':=g.tr (kl p.1)) (w':=w) (f:=kl p.1) (hp':=((st.kill p.1).setO p.1 (.row p.2 [])).hp) rfl gf rfl rfl rfl (Nat.le_refl _) (fun _ _=>rfl) (fun _ _ _=>rfl) (fun n' o' e=>by
   simp only [St.setO] at e
   split at e
   ·rename_i e'
    subst e'
    obtain rfl:=sI e
    refine .inr ⟨?_,fun b hb=>?_⟩
    ·simp only [OAt,y3 (Nm.under_self p.1)]
    ·rw [y3 (Nm.under_self p.1)] at hb;cases hb
   ·obtain⟨o,e1,e2,e3⟩:=qEs e
    exact .inl ⟨n',o,e1,e2,e3,fun _ _=>rfl⟩)
  obtain⟨g',h1,h2,h3,h4⟩:=ih (fun q hq=>hlu q (by simp [hq])) hs
  refine⟨g',h1,?_,fun x hx=>h3 x (Gh.free_kl_other hx),(Ust.kl (hlu p (by simp))).trans h4⟩
  intro x hx
  rcases List.mem_cons.1 hx with rfl|hx
  ·exact h3 _ (y3 (Nm.under_self _))
  ·exact h2 x hx
theorem qIk (n:Nm) (b:Option Nat) (cap:Nat):∀ k k',kl n k=some k'→(g.fresh n b cap).φ k'=g.φ k∧(g.fresh n b cap).κ k'=g.κ k:=by
 intro k k' e
 have hne:k'≠n:=by
  rintro rfl
  have:=(qCi e).2
  rw [Nm.under_self] at this
  cases this
 simp only [Gh.fresh,if_neg hne]
 exact Gh.tr_spec (fun _ _ _=>qGX) e
theorem zC (n:Nm) (b:Option Nat) (cap:Nat):(g.fresh n b cap).φ n=b∧(g.fresh n b cap).κ n=cap:=by simp [Gh.fresh]
theorem vl {n m:Nm} {b:Option Nat} {cap:Nat} (h:Nm.under n m=true) (hne:m≠n):(g.fresh n b cap).φ m=none:=by
 simp only [Gh.fresh,if_neg hne]
 exact y3 h
theorem Ust.fresh {n:Nm} {b:Option Nat} {cap:Nat} (h:n.isU=false):Ust g (g.fresh n b cap):=fun k i j=>by
 have hne:Nm.u k i j≠n:=by rintro rfl;simp [Nm.isU] at h
 simp only [Gh.fresh,if_neg hne]
 exact Ust.kl h k i j
theorem Rg.made (h:Rg P own C w0 g st a w) (n:Nm) (o:AO) (b cap:Nat) (w':World) (nl:List (Nm×Nat)) (hnl:∀ p∈nl,Nm.under n p.1=true∧p.1≠n) (dr:Nm→Bool)
  (h1:w'.os=w.os) (h2:w'.tape=w.tape) (h3:w'.output=w.output) (h4:w.heap.size≤w'.heap.size) (hb:w.heap.size≤b∨∃ m o,dr m=true∧st.hp m=some o∧g.φ m=some b) (hlt:b<w'.heap.size)
  (hw:∀ b',b'≠b→b'<w.heap.size→w'.heap[b']?=w.heap[b']?) (ho:OAt (g.fresh n (some b) cap) w' n o) :
  Rg P own C w0 (g.fresh n (some b) cap) (((St.setNils nl (st.nm (kl n) (fun m=>if dr m then none else hkl n st.hp m)))).setO n o) a w':=by
 have hcond:¬ C b∧(w0.heap.size≤b∨own b):=by
  rcases hb with hb|⟨m,o,_,hm,hk⟩
  ·exact⟨fun hC=>absurd (h.inv.clt b hC) (by omega),.inl (Nat.le_trans h.inv.size hb)⟩
  ·obtain⟨x1,x2,_⟩:=h.inv.blk m o b hm hk
   exact⟨x1,x2⟩
 have far:∀ m o,dr m=false→st.hp m=some o→g.φ m≠some b:=by
  intro m o hd hm hk
  rcases hb with hb|⟨m',o',hd',hm',hk'⟩
  ·have:=(h.inv.blk m o b hm hk).2.2
   omega
  ·have:=h.inv.inj m m' o o' b hm hm' hk hk'
   rw [this,hd'] at hd
   cases hd
 have gf:=qIk (g:=g) n (some b) cap
 have key:∀ m o',(((St.setNils nl (st.nm (kl n) (fun m=>if dr m then none else hkl n st.hp m)))).setO n o).hp m=some o' →
   (m=n∧o'=o)∨(m≠n∧(∃ p∈nl,p.1=m∧o'=.row p.2 []))∨∃ q,m≠n∧dr m=false∧kl n m=some m∧st.hp m=some q∧o'=q.tr (kl n):=by
  intro m o' e
  simp only [St.setO] at e
  split at e
  ·rename_i e';exact .inl ⟨e',(sI e).symm⟩
  ·rename_i hne
   rcases qDZ nl _ m o' e with⟨p,q1,q2⟩|⟨_,q2⟩
   ·exact .inr (.inl ⟨hne,p,q1,q2⟩)
   ·simp only [St.nm] at q2
    split at q2
    ·cases q2
    ·rename_i hd
     obtain⟨q,e1,e2,e3⟩:=qEs q2
     exact .inr (.inr ⟨q,hne,by simpa using hd,e1,e2,e3⟩)
 have hC':∀ b',C b'→w'.heap[b']?=w.heap[b']?:=fun b' hC=>hw b' (fun e=>hcond.1 (e ▸ hC)) (h.inv.clt b' hC)
 have hs:=h.step (g':=g.fresh n (some b) cap) (w':=w') (f:=kl n) (hp':=(((St.setNils nl (st.nm (kl n) (fun m=>if dr m then none else hkl n st.hp m)))).setO n o).hp) rfl gf h1 h2 h3 h4 hC'
  (fun b' hb' hno=>hw b' (fun e=>by
    subst e
    rcases hcond.2 with x|x
    ·omega
    ·exact hno x) (Nat.lt_of_lt_of_le hb' h.inv.size)) (fun m o' e=>by
  rcases key m o' e with⟨rfl,rfl⟩|⟨hne,p,hp,rfl,rfl⟩|⟨q,hne,hd,e1,e2,e3⟩
  ·refine .inr ⟨ho,fun b' hb'=>?_⟩
   rw [(zC m (some b) cap).1] at hb'
   obtain rfl:=sI hb'
   refine⟨⟨hcond.1,hcond.2,hlt⟩,fun m'' o'' e'' hk''=>?_⟩
   rcases key m'' o'' e'' with⟨rfl,_⟩|⟨hne,p,hp,rfl,_⟩|⟨q,hne,hd,e1,e2,e3⟩
   ·rfl
   ·obtain⟨x1,x2⟩:=hnl p hp
    rw [vl x1 x2] at hk''
    cases hk''
   ·rw [(gf m'' m'' e1).1] at hk''
    exact absurd hk'' (far m'' q hd e2)
  ·obtain⟨x1,x2⟩:=hnl p hp
   refine .inr ⟨?_,fun b' hb'=>?_⟩
   ·simp only [OAt,vl x1 x2]
   ·rw [vl x1 x2] at hb';cases hb'
  ·refine .inl ⟨m,q,e1,e2,e3,fun b' hb'=>hw b' (fun e=>?_) (h.inv.blk m q b' e2 hb').2.2⟩
   subst e
   exact far m q hd e2 hb')
 have e:(st.nm (kl n) (((St.setNils nl (st.nm (kl n) (fun m=>if dr m then none else hkl n st.hp m)))).setO n o).hp)=(((St.setNils nl (st.nm (kl n) (fun m=>if dr m then none else hkl n st.hp m)))).setO n o):=by
  generalize hT:St.setNils nl (st.nm (kl n) (fun m=>if dr m then none else hkl n st.hp m))=T
  have t1:T.tm=fun t=>(st.tm t).tr (kl n):=by rw [← hT,kx];rfl
  have t2:T.n=st.n:=by rw [← hT,(vd _ _).1];rfl
  have t3:T.gl=st.gl:=by rw [← hT,(vd _ _).2];rfl
  simp only [St.nm,St.setO,t1,t2,t3]
 rw [e] at hs
 exact hs
theorem Rg.rvFresh (h:Rg P own C w0 g st a w) {n:Nm} {b cap:Nat} {w':World} (hw:∀ b',C b'→w'.heap[b']?=w.heap[b']?) {v:Value} {x:AV} (hv:RV g w v x):RV (g.fresh n (some b) cap) w' v (x.tr (kl n)) :=
 h.rv (g':=g.fresh n (some b) cap) rfl hw (qIk n (some b) cap) hv
def qHn (P:Program) (T:TypeId) (d:Nat) (x:AV) (st:St):St :=
 if qn x then ((((st.kill (.s d)).setO (.s d) (.row (((tel P T).map (tsz P)).getD 0) []))).put (some d) (.hs (.s d) (((tel P T).map (tsz P)).getD 0) 0 0))
 else match sNm x with
  | some k=>if k=.s d then st.put (some d) x else (st.move k (.s d)).put (some d) (x.tr (mv k (.s d)))
  | none=>st.put (some d) x
theorem qMS {o:Oper} {x:Operand} {d:Nat} (h:Rg P own C w0 g st a w) (ho:o.op=.assign x) (hd:o.dst=some d) (hn:d<st.n) :
  qJC P o a w fun a' w'=>Rel P own C w0 g (qHn P o.type d (ev st x) st) a' w':=by
 have hv:=h.ev x
 refine .inl ⟨a.eval x,w,by simp [execOp,ho],?_⟩
 rw [hd]
 have hd':∀ (s:St) t,s.n=st.n→some d=some t→t<s.n:=by intro s t e e';obtain rfl:=sI e';rw [e];exact hn
 unfold qHn
 split
 ·rename_i hnil
  obtain⟨g',h1,h2,h3,_⟩:=h.nilO (.s d) (((tel P o.type).map (tsz P)).getD 0)
  refine⟨g',h3 rfl,h1.put (fun t e=>hd' _ t rfl e) ?_⟩
  have:ev st x=.sc (.slice none 0 0):=by
   unfold qn at hnil
   split at hnil
   ·assumption
   ·cases hnil
  rw [this] at hv
  rw [hv.sc_eq]
  exact h2
 ·split
  ·rename_i k hk
   split
   ·exact⟨g,.refl g,h.put (fun t e=>hd' _ t rfl e) hv⟩
   ·exact⟨_,Ust.mv (qKi hk) rfl,(h.move k (.s d)).put (fun t e=>hd' _ t rfl e) (h.rv (g':=g.tr (mv k (.s d))) rfl (fun _ _=>rfl) (fun _ _ e=>Gh.tr_spec (fun _ _ _=>qI5) e) hv)⟩
  ·exact⟨g,.refl g,h.put (fun t e=>hd' _ t rfl e) hv⟩
def wx (P:Program) (T:TypeId) (d:Nat) (cs:List AV) (st:St):St :=
 let c1:=cs.map (AV.tr (kl (.s d)))
 let c2:=zcs (Nm.c (.s d) 0) (tce P T) 0 c1
 canon (prs (Nm.c (.s d) 0) 0 c2) (((St.setNils (qr (Nm.c (.s d) 0) (tce P T) 0 c1) (st.kill (.s d))).setO (.s d) (.row (tsz P T) [c2])).put (some d) (.pt (.s d) 0))
theorem qIw {T:TypeId} {d:Nat} {vs:List Value} {cs:List AV} (h:Rg P own C w0 g st a w) (hn:d<st.n) (hl:vs.length=cs.length) (hz:cs.length=tsz P T) (ho:∀ v∈vs,v.oneCell'=true)
  (hr:∀ (j:Nat) v x,vs[j]?=some v→cs[j]?=some x→RV g w v x) :
  Rel P own C w0 g (wx P T d cs st) (a.put (some d) (.pointer (some ⟨w.heap.size,0,none⟩))) (w.alloc (.cells vs.toArray T)):=by
 unfold wx
 generalize hc1:cs.map (AV.tr (kl (.s d)))=c1
 have hC':∀ b',C b'→(w.alloc (.cells vs.toArray T)).heap[b']?=w.heap[b']?:=fun b' hC=>u7 _ (h.inv.clt b' hC)
 have hm:=h.made (.s d) (.row (tsz P T) [zcs (Nm.c (.s d) 0) (tce P T) 0 c1]) w.heap.size 1 (w.alloc (.cells vs.toArray T)) (qr (Nm.c (.s d) 0) (tce P T) 0 c1)
  (fun p hp=>by
    obtain⟨i,e⟩:=vh _ _ _ _ p hp
    rw [e]
    exact⟨by simp [Nm.under],by simp⟩) (fun _=>false) rfl rfl rfl (by simp) (.inl (Nat.le_refl _)) (by simp) (fun b' _ hb'=>u7 _ hb') (by
    simp only [OAt,(zC (g:=g) (.s d) (some w.heap.size) 1).1,(zC (g:=g) (.s d) (some w.heap.size) 1).2]
    refine⟨vs.toArray,T,heap_alloc_new w _,by simp [hl,hz],by decide,by simp,?_,?_,?_⟩
    ·intro r hr'
     simp at hr'
     subst hr'
     rw [ko,← hc1,List.length_map]
     exact hz
    ·intro j hj
     have hj':j<vs.length:=by simp at hj;omega
     have:vs.toArray.getD j undef=vs[j]:=by simp [hj']
     rw [this]
     exact ho _ (List.getElem_mem hj')
    ·intro i row hrow j x hx
     match i,hrow with
     | 0,hrow =>
      simp at hrow
      subst hrow
      rw [qDs,← hc1,List.getElem?_map] at hx
      obtain⟨x1,hx1,rfl⟩:=Option.map_eq_some_iff.1 hx
      obtain⟨x0,hx0,rfl⟩:=Option.map_eq_some_iff.1 hx1
      have hj':j<vs.length:=by rw [hl];exact (gS hx0).1
      have:vs.toArray.getD (0 * tsz P T+j) undef=vs[j]:=by simp [hj']
      rw [this]
      refine (h.rvFresh hC' (hr j _ x0 (gE hj') hx0)).zc fun _=>vl (by simp [Nm.under]) (by simp))
 have e:(st.nm (kl (.s d)) (fun m=>if (fun _=>false:Nm→Bool) m then none else hkl (.s d) st.hp m))=st.kill (.s d):=by simp [St.kill]
 rw [e] at hm
 exact (hm.put (d:=some d) (fun t e=>by
  obtain rfl:=sI e
  simp only [St.setO,(vd _ _).1]
  exact hn) (.pt _ _ _ (zC _ _ _).1)).canon _ (qGD _ (fun _=>rfl) _ _) |> fun⟨g',u,r⟩=>⟨g',(Ust.fresh rfl).trans u,r⟩
theorem qMO {o:Oper} {T:TypeId} {x:Operand} {d:Nat} {cs:List AV} (h:Rg P own C w0 g st a w) (ho:o.op=.box T x) (hd:o.dst=some d) (hn:d<st.n) (hq:(ev st x).cells=some cs) (hz:cs.length=tsz P T) :
  qJC P o a w fun a' w'=>Rel P own C w0 g (wx P T d cs st) a' w':=by
 refine .inl ⟨.pointer (some ⟨w.heap.size,0,none⟩),w.alloc (.cells (a.eval x).cells T),?_,?_⟩
 ·simp [execOp,ho,Instr.box,newVar,newRow]
 ·rw [hd]
  obtain⟨h1,h2,h3⟩:=(h.ev x).cells hq
  have:=qIw (T:=T) h hn h1 hz h2 h3
  simpa using this
def jg (P:Program) (T:TypeId):Option (List AV):=(ji P T).bind fun l=>if l.all Value.oneCell'&&(l.length==tsz P T) then some (l.map .sc) else none
theorem qAh {T:TypeId} {zv:List AV} (h:jg P T=some zv):∃ i z,P.info? T=some i∧i.zero=some z∧(∀ v∈z.cells.toList,v.oneCell'=true)∧zv=z.cells.toList.map .sc∧zv.length=tsz P T:=by
 unfold jg at h
 obtain⟨l,hl,h⟩:=Option.bind_eq_some_iff.1 h
 split at h
 ·rename_i hone
  simp only [Bool.and_eq_true,beq_iff_eq] at hone
  obtain rfl:=sI h
  unfold ji at hl
  obtain⟨z,hz,rfl⟩:=Option.map_eq_some_iff.1 hl
  obtain⟨i,hi,hiz⟩:=Option.bind_eq_some_iff.1 hz
  exact⟨i,z,hi,hiz,fun v hv=>List.all_eq_true.1 hone.1 v hv,rfl,by rw [List.length_map];exact hone.2⟩
 ·cases h
theorem qHo {o:Oper} {T:TypeId} {d:Nat} {zs:List AV} (h:Rg P own C w0 g st a w) (ho:o.op=.alloc T) (hd:o.dst=some d) (hn:d<st.n) (hq:jg P T=some zs) :
  qJC P o a w fun a' w'=>Rel P own C w0 g (wx P T d zs st) a' w':=by
 obtain⟨i,z,q1,q2,q3,rfl,q4⟩:=qAh hq
 refine .inl ⟨.pointer (some ⟨w.heap.size,0,none⟩),w.alloc (.cells z.cells T),?_,?_⟩
 ·simp [execOp,ho,Instr.alloc,zeroValue,typeInfo,q1,q2,newVar,newRow]
 ·rw [hd]
  have:=qIw (T:=T) (vs:=z.cells.toList) h hn (by simp) q4 q3 (fun j v x hv hx=>by
   rw [List.getElem?_map,hv] at hx
   obtain rfl:=sI hx
   exact .sc _)
  simpa using this
end
end Go.Hm
end
section
namespace Go.Hm
open Go Go.RowKit
def qa (rows:List (List AV)) (i off:Nat) (vals:List AV):List (List AV):=rows.modify i (fun r=>r.take off++vals++r.drop (off+vals.length))
section
variable {P:Program} {own:Nat→Prop} {C:Nat→Prop} {w0:World} {g:Gh} {st:St} {a:Act} {w:World}
theorem Rg.wr (h:Rg P own C w0 g st a w) {n:Nm} {o o':AO} {b:Nat} {w':World} (hn:st.hp n=some o) (hk:g.φ n=some b)
  (h1:w'.os=w.os) (h2:w'.tape=w.tape) (h3:w'.output=w.output) (h4:w.heap.size≤w'.heap.size) (hw:∀ b',b'≠b→b'<w.heap.size→w'.heap[b']?=w.heap[b']?) (ho:OAt g w' n o') :
  Rg P own C w0 g (st.setO n o') a w':=by
 obtain⟨x1,x2,x3⟩:=h.inv.blk n o b hn hk
 have hs:=h.step (g':=g) (w':=w') (f:=some) (hp':=(st.setO n o').hp) rfl (fun k k' e=>by obtain rfl:=sI e;exact⟨rfl,rfl⟩) h1 h2 h3 h4
  (fun b' hC=>hw b' (fun e=>x1 (e ▸ hC)) (h.inv.clt b' hC)) (fun b' hb' hno=>hw b' (fun e=>by
    subst e
    rcases x2 with x|x
    ·omega
    ·exact hno x) (Nat.lt_of_lt_of_le hb' h.inv.size)) (fun m q e=>by
  simp only [St.setO] at e
  split at e
  ·rename_i e'
   subst e'
   obtain rfl:=sI e
   refine .inr ⟨ho,fun b' hb'=>?_⟩
   rw [hk] at hb'
   obtain rfl:=sI hb'
   refine⟨⟨x1,x2,Nat.lt_of_lt_of_le x3 h4⟩,fun m'' o'' e'' hk''=>?_⟩
   simp only [St.setO] at e''
   split at e''
   ·assumption
   ·exact h.inv.inj m'' m o'' o b e'' hn hk'' hk
  ·rename_i hne
   exact .inl ⟨m,q,rfl,e,(AO.tr_some q).symm,fun b' hb'=>hw b' (fun e'=>hne (h.inv.inj m n q o b e hn (e' ▸ hb') hk)) (h.inv.blk m q b' e hb').2.2⟩)
 have e:st.nm some (st.setO n o').hp=st.setO n o':=by simp only [St.nm,St.setO,AV.tr_some]
 rw [e] at hs
 exact hs
theorem Rg.wrSeg (h:Rg P own C w0 g st a w) {n:Nm} {z i off b:Nat} {rows:List (List AV)} {nv:List Value} {vals:List AV} (hn:st.hp n=some (.row z rows)) (hk:g.φ n=some b) (hi:i<rows.length)
  (hoff:off+vals.length≤z) (hl:nv.length=vals.length) (hone:∀ v∈nv,v.oneCell'=true) (hr:∀ (j:Nat) v x,nv[j]?=some v→vals[j]?=some x→RV g w v x) :
  ∃ (cur:Array Value) (T:TypeId),w.heap[b]?=some (.cells cur T (0,0))∧i * z+off+nv.length≤cur.size ∧
   Rg P own C w0 g (st.setO n (.row z (qa rows i off vals))) a (w.setRow b (cur.toList.take (i * z+off)++nv++cur.toList.drop (i * z+off+nv.length)).toArray):=by
 have ho:=h.inv.obj n _ hn
 simp only [OAt,hk] at ho
 obtain⟨cur,T,h1,h2,h3,h4,h5,h6,h7⟩:=ho
 have hb1:(i+1) * z≤rows.length * z:=Nat.mul_le_mul_right _ hi
 have hb2:rows.length * z≤g.κ n * z:=Nat.mul_le_mul_right _ h4
 rw [Nat.add_mul,Nat.one_mul] at hb1
 have hsz:i * z+off+nv.length≤cur.size:=by omega
 have hsz':i * z+off+nv.length≤cur.toList.length:=by simpa using hsz
 refine⟨cur,T,h1,hsz,h.wr hn hk rfl rfl rfl (by simp) (fun b' hne _=>setRow_other w _ b' _ hne) ?_⟩
 simp only [OAt,hk]
 have hCb:¬ C b:=(h.inv.blk n _ b hn hk).1
 have keepC:∀ (q:Array Value) b',g.C b'→(w.setRow b q).heap[b']?=w.heap[b']?:=fun q b' hC=>setRow_other w _ b' _ (fun e=>hCb (e ▸ h.inv.hC ▸ hC))
 refine⟨_,T,setRow_heap w _ _ _ T _ h1,?_,h3,by simpa [qa] using h4,?_,?_,?_⟩
 ·simp only [List.size_toArray,List.length_append,List.length_take,List.length_drop,Array.length_toList]
  omega
 ·intro r hr'
  obtain⟨k,hk'⟩:=List.getElem?_of_mem hr'
  simp only [qa,List.getElem?_modify] at hk'
  obtain⟨r0,h0,e⟩:=Option.map_eq_some_iff.1 hk'
  have hlen:=h5 r0 (gM h0)
  split at e
  ·subst e
   rw [qDG (by rw [hlen];exact hoff),hlen]
  ·subst e
   exact hlen
 ·intro j hj
  rw [qBn _ _ _ hsz']
  split
  ·have hlt:j - (i * z+off)<nv.length:=by omega
   rw [List.getD_eq_getElem?_getD,gE hlt]
   exact hone _ (List.getElem_mem hlt)
  ·have:=h6 j (by simpa [qa] using hj)
   simpa using this
 ·intro k row hrow j x hx
  simp only [qa,List.getElem?_modify] at hrow
  obtain⟨r0,h0,e⟩:=Option.map_eq_some_iff.1 hrow
  have hlen:=h5 r0 (gM h0)
  rw [qBn _ _ _ hsz']
  by_cases hik:i=k
  ·subst hik
   simp only [if_true] at e
   subst e
   rw [vM (by rw [hlen];exact hoff)] at hx
   by_cases hin:off≤j∧j<off+vals.length
   ·rw [if_pos hin] at hx
    rw [if_pos (by omega)]
    have hlt:j - off<nv.length:=by omega
    have e:i * z+j - (i * z+off)=j - off:=by omega
    rw [e,List.getD_eq_getElem?_getD,gE hlt]
    exact (hr (j - off) _ x (gE hlt) hx).same (fun _ h=>h) (keepC _) (fun _=>⟨rfl,rfl⟩)
   ·rw [if_neg hin] at hx
    rw [if_neg (by omega)]
    have:=(h7 i r0 h0 j x hx).same (g':=g) (w':=w.setRow b (cur.toList.take (i * z+off)++nv++cur.toList.drop (i * z+off+nv.length)).toArray) (fun _ h=>h) (keepC _) (fun _=>⟨rfl,rfl⟩)
    simpa using this
  ·simp only [hik,if_false] at e
   subst e
   have hj:j<z:=by rw [← hlen];exact (gS hx).1
   have hne:¬ (i * z+off≤k * z+j∧k * z+j<i * z+off+nv.length):=by
    intro⟨y1,y2⟩
    rcases Nat.lt_or_gt_of_ne hik with hlt|hgt
    ·have:(i+1) * z≤k * z:=Nat.mul_le_mul_right _ hlt
     rw [Nat.add_mul] at this
     omega
    ·have:(k+1) * z≤i * z:=Nat.mul_le_mul_right _ hgt
     rw [Nat.add_mul] at this
     omega
   rw [if_neg hne]
   have:=(h7 k r0 h0 j x hx).same (g':=g) (w':=w.setRow b (cur.toList.take (i * z+off)++nv++cur.toList.drop (i * z+off+nv.length)).toArray) (fun _ h=>h) (keepC _) (fun _=>⟨rfl,rfl⟩)
   simpa using this
theorem qEM {T:TypeId} {b o:Nat} {v:Value} {cur:Array Value} {E:TypeId} (hb:w.heap[b]?=some (.cells cur E (0,0))) (hT:(P.info? T).isSome) (hl:v.cells.size=tsz P T) (hle:o+v.cells.toList.length≤cur.size)
  (hone:∀ u∈v.cells.toList,u.oneCell'=true):(Instr.storeAt T (.pointer (some ⟨b,o,none⟩)) v).run P w=.ok () (w.setRow b (cur.toList.take o++v.cells.toList++cur.toList.drop (o+v.cells.toList.length)).toArray):=by
 have h2:=run_storeCells_at P b o E v.cells.toList 0 cur w hb (by omega) hone
 simp only [Nat.add_zero] at h2
 simp only [Instr.storeAt,Instr.sureAddr,Sem.run_bind,Sem.run_pure,Result.andThen_ok,storeVar,qAO hT,hl,ne_eq,not_true_eq_false,if_false]
 simpa using h2
def pl:AV→Option (Nm×Nat×Nat)
 | .pt n off=>some (n,0,off)
 | .ep n _ i off=>some (n,i,off)
 | _=>none
def wO (st:St):AV→Option (Nat×List (List AV))
 | .pt n _=>match st.hp n with|some (.row z rows)=>some (z,rows)|_=>none
 | .ep n z _ _=>match st.hp n with|some (.row z' rows)=>if z'=z then some (z,rows) else none|_=>none
 | _=>none
def qDE (P:Program) (T:TypeId) (n:Nm) (i off:Nat) (v0:List AV) (st:St):St:=St.addNils (qr (fun j=>.c n i (off+j)) (tce P T) 0 v0) st
def qK1 (P:Program) (T:TypeId) (n:Nm) (i off:Nat) (v1:List AV):List AV:=zcs (fun j=>.c n i (off+j)) (tce P T) 0 v1
def qEC (n:Nm) (z i off:Nat) (rows:List (List AV)) (vals:List AV) (st:St):St:=canon (prs (fun j=>.c n i (off+j)) 0 vals) (st.setO n (.row z (qa rows i off vals)))
theorem qJo {v0 v1:List AV} (h:v1.map qn=v0.map qn) {j:Nat} {x:AV} (hx:v1[j]?=some x) (hn:qn x=true):∃ y,v0[j]?=some y∧qn y=true:=by
 have:(v1.map qn)[j]?=some true:=by rw [List.getElem?_map,hx];simp [hn]
 rw [h,List.getElem?_map] at this
 obtain⟨y,hy,e⟩:=Option.map_eq_some_iff.1 this
 exact⟨y,hy,e⟩
theorem qK0 {o:Oper} {T:TypeId} {p x:Operand} {n:Nm} {z i off:Nat} {v0 v1:List AV} {rows:List (List AV)} (h:Rg P own C w0 g st a w) (ho:o.op=.store T p x) (hd:o.dst=none) (hT:(P.info? T).isSome)
  (hv0:(ev st x).cells=some v0) (hlen:v0.length=tsz P T) (hp0:pl (ev st p)=some (n,i,off)) (hp1:pl (ev (qDE P T n i off v0 st) p)=some (n,i,off)) (hv1:(ev (qDE P T n i off v0 st) x).cells=some v1)
  (hsame:v1.map qn=v0.map qn) (hrows:wO (qDE P T n i off v0 st) (ev (qDE P T n i off v0 st) p)=some (z,rows)) (hi:i<rows.length) (hoff:off+v1.length≤z) :
  qJC P o a w fun a' w'=>Rel P own C w0 g (qEC n z i off rows (qK1 P T n i off v1) (qDE P T n i off v0 st)) a' w':=by
 have hsz:(a.eval x).cells.size=tsz P T:=by
  have:=((h.ev x).cells hv0).1
  rw [← Array.length_toList,this,hlen]
 obtain⟨g1,h1,hfree,_,hu1⟩:=h.addNils (qr (fun j=>.c n i (off+j)) (tce P T) 0 v0) (fun p hp=>by obtain⟨i,e⟩:=vh _ _ _ _ p hp;rw [e];rfl)
 obtain⟨l1,o1,r1⟩:=(h1.ev x).cells hv1
 have hpv:=h1.ev p
 have place:∃ b,a.eval p=.pointer (some ⟨b,i * z+off,none⟩)∧g1.φ n=some b∧(qDE P T n i off v0 st).hp n=some (.row z rows):=by
  change RV g1 w (a.eval p) (ev (qDE P T n i off v0 st) p) at hpv
  generalize ev (qDE P T n i off v0 st) p=y at hpv hp1 hrows
  generalize a.eval p=vp at hpv
  cases y with
  | pt m q =>
   simp only [pl,Option.some.injEq,Prod.mk.injEq] at hp1
   obtain⟨rfl,rfl,rfl⟩:=hp1
   simp only [wO] at hrows
   split at hrows
   ·rename_i z' rows' e
    obtain⟨rfl,rfl⟩:=Prod.mk.inj (sI hrows)
    cases hpv with
    | pt _ _ b hk=>exact⟨b,by simp,hk,e⟩
   ·cases hrows
  | ep m z0 k q =>
   simp only [pl,Option.some.injEq,Prod.mk.injEq] at hp1
   obtain⟨rfl,rfl,rfl⟩:=hp1
   simp only [wO] at hrows
   split at hrows
   ·rename_i z' rows' e
    split at hrows
    ·rename_i hz
     subst hz
     obtain⟨rfl,rfl⟩:=Prod.mk.inj (sI hrows)
     cases hpv with
     | ep _ _ _ _ b hk=>exact⟨b,rfl,hk,e⟩
    ·cases hrows
   ·cases hrows
  | _=>simp [pl] at hp1
 obtain⟨b,ep,hk,hobj⟩:=place
 have hvl:(qK1 P T n i off v1).length=v1.length:=ko _ _ _ _
 obtain⟨cur,U,q1,q2,q3⟩:=h1.wrSeg (n:=n) (z:=z) (i:=i) (off:=off) (b:=b) (rows:=rows) (nv:=(a.eval x).cells.toList) (vals:=qK1 P T n i off v1) hobj hk hi (by rw [hvl];exact hoff) (by rw [hvl];exact l1) o1 (by
  intro j v y hv hy
  simp only [qK1] at hy
  rw [qDs] at hy
  obtain⟨y0,hy0,rfl⟩:=Option.map_eq_some_iff.1 hy
  refine (r1 j v y0 hv hy0).zc fun hnil=>?_
  obtain⟨y1,hy1,hy1'⟩:=qJo hsame hy0 hnil
  exact hfree _ (qCa (fun j=>.c n i (off+j)) (tce P T) v0 0 j y1 hy1 hy1'))
 refine .inr ⟨w.setRow b (cur.toList.take (i * z+off)++(a.eval x).cells.toList++cur.toList.drop (i * z+off+(a.eval x).cells.toList.length)).toArray,?_,?_⟩
 ·have:=qEM (P:=P) (T:=T) (v:=a.eval x) q1 hT hsz q2 o1
  simp only [execOp,ho,ep,Sem.run_bind,this,Result.andThen_ok,Sem.run_pure]
 ·rw [hd]
  obtain⟨g2,hu2,h2⟩:=q3.canon _ (qGD (fun j=>.c n i (off+j)) (fun _=>rfl) (qK1 P T n i off v1) 0)
  exact⟨g2,hu1.trans hu2,h2⟩
end
end Go.Hm
end
