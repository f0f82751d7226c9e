/-
  Own texts, joined by mkclaim.py: Hm4, Hm5.
-/
import Derived.Test.YtbgmnmnoaamgkaaGreatDoorD01
set_option linter.unusedSimpArgs false
set_option linter.unusedVariables false
set_option maxRecDepth 100000
set_option maxHeartbeats 4000000

section
namespace Go.Hm
open Go Go.RowKit
section
variable {P:Program} {own:Nat→Prop} {C:Nat→Prop} {w0:World} {g:Gh} {st:St} {a:Act} {w:World}
def wH (k:IntKind) (op:BinOp) (x y:Int):Option AV :=
 match op with
 | .add=>some (.sc (.int k (k.wrap (x+y))))
 | .sub=>some (.sc (.int k (k.wrap (x - y))))
 | .mul=>some (.sc (.int k (k.wrap (x * y))))
 | .quo=>if y=0 then none else some (.sc (.int k (k.wrap (x.tdiv y))))
 | .rem=>if y=0 then none else some (.sc (.int k (x.tmod y)))
 | .xor=>some (.sc (.int k (k.wrap (BitVec.ofInt k.bits x ^^^ BitVec.ofInt k.bits y).toNat)))
 | .eql=>some (.sc (.bool (x==y)))
 | .neq=>some (.sc (.bool (x != y)))
 | .lss=>some (.sc (.bool (decide (x<y))))
 | .leq=>some (.sc (.bool (decide (x≤y))))
 | .gtr=>some (.sc (.bool (decide (x > y))))
 | .geq=>some (.sc (.bool (decide (x≥y))))
 | _=>none
def qHC (op:BinOp) (x y:ByteArray):Option AV :=
 match op with
 | .add=>if x.size+y.size≤9223372036854775807 then some (.sc (.string (x++y))) else none
 | .eql=>some (.sc (.bool (x.toList==y.toList)))
 | .neq=>some (.sc (.bool (!(x.toList==y.toList))))
 | _=>none
def eqL:List AV→List AV→Option Bool
 | [],[]=>some true
 | .sc (.int .i64 x)::xs,.sc (.int .i64 y)::ys=>(eqL xs ys).map (fun r=>(x==y)&&r)
 | _,_=>none
def qKW (P:Program) (T:TypeId):Option Nat :=
 match P.underlying T with
 | some (.struct fs)=>if (fs.toList.zipIdx.all fun (f,j)=>f.name != "_"&&f.offset==j&&(match P.underlying f.type with|some (.int .i64)=>true|_=>false)&&(match uF P f.type with|some false=>true|_=>false))&&!P.stoodInHeld T&&!P.eqGuardType P.depth T then some fs.size else none
 | _=>none
def qNb (P:Program) (T:TypeId):Bool:=match P.underlying T with|some .bool=>true|_=>false
def qP1 (P:Program) (T:TypeId):Bool:=match P.underlying T with|some (.interface _)=>true|_=>false
def qBf (P:Program) (T:TypeId):Bool:=match P.underlying T with|some (.pointer _)=>true|_=>false
def uK (op:BinOp) (r:Bool):Option AV:=match op with|.eql=>some (.sc (.bool r))|.neq=>some (.sc (.bool (!r)))|_=>none
def wz (P:Program) (T:TypeId) (op:BinOp) (cy:Bool) (x y:AV):Option AV :=
 match x,y with
 | .sc (.int k m),.sc (.int k' n)=>if k=k' then wH k op m n else none
 | .sc (.string s),.sc (.string t)=>qHC op s t
 | .sc (.bool s),.sc (.bool t)=>if qNb P T then uK op (s==t) else none
 | .agg xs,.agg ys=>match qKW P T with
  | some n=>if xs.length=n then (eqL xs ys).bind (uK op) else none
  | none=>none
 | .pt _ _,.sc (.pointer none)=>if qBf P T then uK op false else none
 | .el _ _,.sc (.pointer none)=>if qBf P T then uK op false else none
 | .ep _ _ _ _,.sc (.pointer none)=>if qBf P T then uK op false else none
 | .sc (.pointer none),.sc (.pointer none)=>if qBf P T then uK op true else none
 | .ifc _ _,.sc .nilIface=>if qP1 P T then uK op false else none
 | .sc .nilIface,.sc .nilIface=>if qP1 P T&&cy then uK op true else none
 | _,_=>none
theorem qQm {k:IntKind} {op:BinOp} {T:TypeId} {x y:Int} {z:AV} (h:wH k op x y=some z):∃ v,(binOp op T (.int k x) (.int k y)).run P w=.ok v w∧RV g w v z:=by
 cases op <;> simp only [wH] at h <;> first
  | (cases h;done)
  | (obtain rfl:=sI h;exact⟨_,by simp [binOp,Op.intArith,Op.intCmp,Op.intBits];try rfl,.sc _⟩)
  | (split at h
     ·cases h
     ·rename_i hy
      obtain rfl:=sI h
      exact⟨_,by simp [binOp,Op.intDiv,hy];try rfl,.sc _⟩)
theorem qQl {op:BinOp} {T:TypeId} {x y:ByteArray} {z:AV} (h:qHC op x y=some z):∃ v,(binOp op T (.string x) (.string y)).run P w=.ok v w∧RV g w v z:=by
 cases op <;> simp only [qHC] at h <;> first
  | (cases h;done)
  | (obtain rfl:=sI h;exact⟨_,by simp [binOp,Op.stringOp];try rfl,.sc _⟩)
  | (split at h
     ·rename_i hs
      obtain rfl:=sI h
      refine⟨.string (x++y),?_,.sc _⟩
      have hm:¬ (((x.size+y.size:Nat):Int) > IntKind.i64.max):=by
       have:IntKind.i64.max=9223372036854775807:=by decide
       rw [this];omega
      simp only [binOp,Op.stringOp,hm,if_false,Sem.run_pure]
     ·cases h)
theorem qOg {x:AV} {xs ys:List AV} {r:Bool} (h:eqL (x::xs) ys=some r):∃ m n ys' r',x=.sc (.int .i64 m)∧ys=.sc (.int .i64 n)::ys'∧eqL xs ys'=some r'∧r=((m==n)&&r'):=by
 generalize hz:x::xs=zs at h
 unfold eqL at h
 split at h
 ·cases hz
 ·obtain⟨rfl,rfl⟩:=List.cons.inj hz
  obtain⟨r',hr',rfl⟩:=Option.map_eq_some_iff.1 h
  exact⟨_,_,_,r',rfl,rfl,hr',rfl⟩
 ·cases h
theorem qRe (d:Nat):∀ (fs:List Field) (o:Nat) (xs ys:List AV) (vx vy:Array Value) (r:Bool),
  (∀ (j:Nat) f,fs[j]?=some f→f.name ≠ "_"∧f.offset=o+j∧P.underlying f.type=some (.int .i64)∧uF P f.type=some false) →
  (∀ (j:Nat) y,xs[j]?=some y→∃ v,vx[o+j]?=some v∧RV g w v y)→(∀ (j:Nat) y,ys[j]?=some y→∃ v,vy[o+j]?=some v∧RV g w v y)→fs.length=xs.length →
  eqL xs ys=some r→(Op.eqFields (d+1) vx vy fs).run P w=.ok r w:=by
 intro fs
 induction fs with
 | nil =>
  intro o xs ys vx vy r hf hx hy hl h
  have:xs=[]:=List.eq_nil_of_length_eq_zero hl.symm
  subst this
  cases ys with
  | nil=>simp [eqL] at h;subst h;simp [Op.eqFields]
  | cons y ys=>simp [eqL] at h
 | cons f fs ih =>
  intro o xs ys vx vy r hf hx hy hl h
  cases xs with
  | nil=>simp at hl
  | cons x xs =>
   obtain⟨m,n,ys',r',rfl,rfl,hr',rfl⟩:=qOg h
   ·obtain⟨f1,f2,f3,f4⟩:=hf 0 f rfl
    obtain⟨v1,hv1,hr1⟩:=hx 0 _ rfl
    obtain⟨v2,hv2,hr2⟩:=hy 0 _ rfl
    rw [hr1.sc_eq] at hv1
    rw [hr2.sc_eq] at hv2
    have hp1:(part f.type vx f.offset).run P w=.ok (.int .i64 m) w:=by
     simp only [part,Sem.run_bind,v7 f4,Result.andThen_ok,Bool.false_eq_true,if_false,f2,hv1,Sem.run_pure]
    have hp2:(part f.type vy f.offset).run P w=.ok (.int .i64 n) w:=by
     simp only [part,Sem.run_bind,v7 f4,Result.andThen_ok,Bool.false_eq_true,if_false,f2,hv2,Sem.run_pure]
    have hih:=ih (o+1) xs ys' vx vy r' (fun j f' hj=>by
      have:=hf (j+1) f' (by simpa using hj)
      refine⟨this.1,by rw [this.2.1];omega,this.2.2⟩)
     (fun j y hj=>by have:=hx (j+1) y (by simpa using hj);rwa [show o+(j+1)=o+1+j from by omega] at this)
     (fun j y hj=>by have:=hy (j+1) y (by simpa using hj);rwa [show o+(j+1)=o+1+j from by omega] at this)
     (by simpa using hl) hr'
    simp only [Op.eqFields,ne_eq,f1,not_false_eq_true,if_true,Sem.run_bind,hp1,Result.andThen_ok,hp2,run_equalIn_int w d f.type .i64 .i64 m n f3]
    by_cases hmn:m=n
    ·subst hmn;simpa using hih
    ·have hb:(m==n)=false:=by simpa using hmn
     simp [hb]
theorem qDW {T:TypeId} {n:Nat} (h:qKW P T=some n):∃ fs,P.underlying T=some (.struct fs)∧fs.size=n∧P.stoodInHeld T=false∧P.eqGuardType P.depth T=false ∧
  ∀ (j:Nat) f,fs.toList[j]?=some f→f.name ≠ "_"∧f.offset=j∧P.underlying f.type=some (.int .i64)∧uF P f.type=some false:=by
 unfold qKW at h
 split at h
 ·rename_i fs hu
  split at h
  ·rename_i hc
   simp only [Bool.and_eq_true,Bool.not_eq_true'] at hc
   obtain⟨⟨hall,h1⟩,h2⟩:=hc
   refine⟨fs,hu,sI h,h1,h2,fun j f hj=>?_⟩
   have hm:(f,j)∈fs.toList.zipIdx:=by
    rw [List.mem_zipIdx_iff_getElem?]
    exact hj
   have:=List.all_eq_true.1 hall _ hm
   simp only [Bool.and_eq_true,bne_iff_ne,ne_eq,beq_iff_eq] at this
   obtain⟨⟨⟨x1,x2⟩,x3⟩,x4⟩:=this
   refine⟨x1,x2,?_,?_⟩
   ·split at x3
    ·assumption
    ·cases x3
   ·split at x4
    ·assumption
    ·cases x4
  ·cases h
 ·cases h
theorem qES {T:TypeId} {n:Nat} {xs ys:List AV} {v1 v2:Value} {r:Bool} (ht:qKW P T=some n) (h1:RV g w v1 (.agg xs)) (h2:RV g w v2 (.agg ys)) (hn:xs.length=n) (hr:eqL xs ys=some r) :
  (Op.equal T v1 v2).run P w=.ok r w:=by
 obtain⟨fs,hu,hs,hp,_,hf⟩:=qDW ht
 obtain⟨vx,rfl,hl1,hx⟩:=ua h1
 obtain⟨vy,rfl,hl2,hy⟩:=ua h2
 have hfo:P.fieldsOf T=fs:=by simp [Program.fieldsOf,hu]
 have:=run_equalIn_struct (P:=P) w 9999 T vx.toArray vy.toArray (by rw [hfo];exact hu) hp
 rw [hfo] at this
 unfold Op.equal Op.maxDepth
 rw [this]
 refine qRe (g:=g) 9998 fs.toList 0 xs ys _ _ r (fun j f hj=>?_) (fun j y hj=>?_) (fun j y hj=>?_) (by simp [hs,hn]) hr
 ·have:=hf j f hj
  rwa [Nat.zero_add]
 ·obtain⟨u,hu,hru⟩:=hx j y hj
  exact⟨u,by simpa using hu,hru⟩
 ·obtain⟨u,hu,hru⟩:=hy j y hj
  exact⟨u,by simpa using hu,hru⟩
theorem qHR {T:TypeId} {p q:Option Addr} (h:qBf P T=true) (hq:q=none):(Op.equal T (.pointer p) (.pointer q)).run P w=.ok p.isNone w:=by
 subst hq
 unfold qBf at h
 split at h
 ·rename_i e hu
  have:∀ d,(Op.equalIn (d+1) T (.pointer p) (.pointer none)).run P w=.ok p.isNone w:=by
   intro d
   cases p <;> simp [Op.equalIn,underlying,hu]
  exact this 9999
 ·cases h
theorem qEP {op:BinOp} {T:TypeId} {xo yo:Operand} {k k':IntKind} {m n:Int}:(eqGuard op T xo yo (.int k m) (.int k' n)).run P w=.ok () w:=by
 unfold eqGuard;split <;> rfl
theorem qEN {op:BinOp} {T:TypeId} {xo yo:Operand} {m n:ByteArray}:(eqGuard op T xo yo (.string m) (.string n)).run P w=.ok () w:=by
 unfold eqGuard;split <;> rfl
theorem qEO {op:BinOp} {T:TypeId} {xo yo:Operand} {m n:Option Addr}:(eqGuard op T xo yo (.pointer m) (.pointer n)).run P w=.ok () w:=by
 unfold eqGuard;split <;> rfl
theorem RV.ptr_some {v:Value} {x:AV} (h:RV g w v x) (hx:(∃ id o,x=.pt id o)∨(∃ r o,x=.el r o)∨∃ n z i o,x=.ep n z i o):∃ ad,v=.pointer (some ad):=by
 rcases hx with⟨id,o,rfl⟩|⟨r,o,rfl⟩|⟨n,z,i,o,rfl⟩
 ·cases h;exact⟨_,rfl⟩
 ·cases h;exact⟨_,rfl⟩
 ·cases h;exact⟨_,rfl⟩
theorem qFn {T:TypeId} {x y:Bool} (h:qNb P T=true):(Op.equal T (.bool x) (.bool y)).run P w=.ok (x==y) w:=by
 unfold qNb at h
 split at h
 ·rename_i hu
  have:∀ d,(Op.equalIn (d+1) T (.bool x) (.bool y)).run P w=.ok (x==y) w:=by
   intro d
   simp [Op.equalIn,underlying,hu]
  exact this 9999
 ·cases h
theorem qDF {op:BinOp} {T:TypeId} {xo yo:Operand} {m n:Bool}:(eqGuard op T xo yo (.bool m) (.bool n)).run P w=.ok () w:=by
 unfold eqGuard;split <;> rfl
theorem qHS {T t:TypeId} {v:Value} (h:qP1 P T=true):(Op.equal T (.iface t v) .nilIface).run P w=.ok false w:=by
 unfold qP1 at h
 split at h
 ·rename_i ms hu
  have:∀ d,(Op.equalIn (d+1) T (.iface t v) .nilIface).run P w=.ok false w:=by
   intro d
   simp [Op.equalIn,underlying,hu]
  exact this 9999
 ·cases h
theorem qER {T:TypeId} (h:qP1 P T=true):(Op.equal T .nilIface .nilIface).run P w=.ok true w:=by
 unfold qP1 at h
 split at h
 ·rename_i ms hu
  have:∀ d,(Op.equalIn (d+1) T .nilIface .nilIface).run P w=.ok true w:=by
   intro d
   simp [Op.equalIn,underlying,hu]
  exact this 9999
 ·cases h
theorem qEQ {op:BinOp} {T t:TypeId} {xo yo:Operand} {v:Value}:(eqGuard op T xo yo (.iface t v) .nilIface).run P w=.ok () w:=by
 unfold eqGuard;split <;> rfl
theorem qCO {op:BinOp} {T:TypeId} {xo:Operand} {c:Value}:(eqGuard op T xo (.const c) .nilIface .nilIface).run P w=.ok () w:=by
 unfold eqGuard;cases xo <;> split <;> rfl
theorem qC0 {T:TypeId} {op:BinOp} {v1 v2:Value} {r:Bool} {z:AV} (hi:∀ op,op=.eql∨op=.neq→(binOp op T v1 v2).run P w=.ok (.bool (match op with|.eql=>r|_=>!r)) w) (h:uK op r=some z) :
  ∃ v',(binOp op T v1 v2).run P w=.ok v' w∧RV g w v' z:=by
 cases op <;> simp only [uK] at h <;> first|(cases h;done)|skip
 ·obtain rfl:=sI h;exact⟨_,hi .eql (.inl rfl),.sc _⟩
 ·obtain rfl:=sI h;exact⟨_,hi .neq (.inr rfl),.sc _⟩
theorem qJ3 {T:TypeId} {op:BinOp} {xo yo:Operand} {v1 v2:Value} {x y z:AV} {cy:Bool} (hcy:cy=true→∃ c,yo=.const c) (h1:RV g w v1 x) (h2:RV g w v2 y) (h:wz P T op cy x y=some z) :
  ∃ v',(do eqGuard op T xo yo v1 v2;binOp op T v1 v2).run P w=.ok v' w∧RV g w v' z:=by
 have ptr:∀ (p:Option Addr) (r:Bool),p.isNone=r→qBf P T=true→uK op r=some z→∃ v',(do eqGuard op T xo yo (.pointer p) (.pointer none);binOp op T (.pointer p) (.pointer none)).run P w=.ok v' w∧RV g w v' z:=by
  intro p r hp ht hz
  have he:=qHR (P:=P) (w:=w) (T:=T) (p:=p) ht rfl
  obtain⟨v',e1,e2⟩:=qC0 (P:=P) (w:=w) (g:=g) (T:=T) (v1:=.pointer p) (v2:=.pointer none) (r:=r) (fun op ho=>by
   rcases ho with rfl|rfl <;> simp [binOp,he,hp]) hz
  exact⟨v',by rw [Sem.run_bind,qEO,Result.andThen_ok,e1],e2⟩
 unfold wz at h
 split at h
 ·obtain rfl:=h1.sc_eq
  obtain rfl:=h2.sc_eq
  split at h
  ·rename_i hk
   subst hk
   obtain⟨v',hr,hv⟩:=qQm (P:=P) (g:=g) (w:=w) (T:=T) h
   refine⟨v',?_,hv⟩
   rw [Sem.run_bind]
   rw [qEP,Result.andThen_ok,hr]
  ·cases h
 ·obtain rfl:=h1.sc_eq
  obtain rfl:=h2.sc_eq
  obtain⟨v',hr,hv⟩:=qQl (P:=P) (g:=g) (w:=w) (T:=T) h
  refine⟨v',?_,hv⟩
  rw [Sem.run_bind]
  rw [qEN,Result.andThen_ok,hr]
 ·obtain rfl:=h1.sc_eq
  obtain rfl:=h2.sc_eq
  split at h
  ·rename_i s t ht
   have he:=qFn (P:=P) (w:=w) (T:=T) (x:=s) (y:=t) ht
   obtain⟨v',e1,e2⟩:=qC0 (P:=P) (w:=w) (g:=g) (T:=T) (v1:=.bool s) (v2:=.bool t) (r:=s==t) (fun op ho=>by
    rcases ho with rfl|rfl <;> simp [binOp,he]) h
   exact⟨v',by rw [Sem.run_bind,qDF,Result.andThen_ok,e1],e2⟩
  ·cases h
 ·rename_i xs ys
  obtain⟨vs1,rfl,_⟩:=ua h1
  obtain⟨vs2,rfl,_⟩:=ua h2
  split at h
  ·rename_i n ht
   split at h
   ·rename_i hn
    obtain⟨r,hr,h⟩:=Option.bind_eq_some_iff.1 h
    have he:=qES ht h1 h2 hn hr
    obtain⟨fs,hu,hs,hp,hgd,hf⟩:=qDW ht
    obtain⟨v',e1,e2⟩:=qC0 (P:=P) (w:=w) (g:=g) (T:=T) (v1:=.agg vs1.toArray) (v2:=.agg vs2.toArray) (r:=r) (fun op ho=>by
     rcases ho with rfl|rfl <;> simp [binOp,he]) h
    refine⟨v',?_,e2⟩
    have hg:(eqGuard op T xo yo (.agg vs1.toArray) (.agg vs2.toArray)).run P w=.ok () w:=by
     unfold eqGuard
     split <;> simp [hgd]
    rw [Sem.run_bind,hg,Result.andThen_ok,e1]
   ·cases h
  ·cases h
 ·obtain rfl:=h2.sc_eq
  split at h
  ·rename_i hp
   obtain⟨ad,rfl⟩:=h1.ptr_some (.inl ⟨_,_,rfl⟩)
   exact ptr _ _ rfl hp h
  ·cases h
 ·obtain rfl:=h2.sc_eq
  split at h
  ·rename_i hp
   obtain⟨ad,rfl⟩:=h1.ptr_some (.inr (.inl ⟨_,_,rfl⟩))
   exact ptr _ _ rfl hp h
  ·cases h
 ·obtain rfl:=h2.sc_eq
  split at h
  ·rename_i hp
   obtain⟨ad,rfl⟩:=h1.ptr_some (.inr (.inr ⟨_,_,_,_,rfl⟩))
   exact ptr _ _ rfl hp h
  ·cases h
 ·obtain rfl:=h1.sc_eq
  obtain rfl:=h2.sc_eq
  split at h
  ·rename_i hp
   exact ptr _ _ rfl hp h
  ·cases h
 ·obtain rfl:=h2.sc_eq
  split at h
  ·rename_i hp
   have hv1:∃ t v,v1=.iface t v:=by cases h1;exact⟨_,_,rfl⟩
   obtain⟨t,v,rfl⟩:=hv1
   ·have he:=qHS (P:=P) (w:=w) (T:=T) (t:=t) (v:=v) hp
    obtain⟨v',e1,e2⟩:=qC0 (P:=P) (w:=w) (g:=g) (T:=T) (v1:=.iface t v) (v2:=.nilIface) (r:=false) (fun op ho=>by
     rcases ho with rfl|rfl <;> simp [binOp,he]) h
    exact⟨v',by rw [Sem.run_bind,qEQ,Result.andThen_ok,e1],e2⟩
  ·cases h
 ·obtain rfl:=h1.sc_eq
  obtain rfl:=h2.sc_eq
  split at h
  ·rename_i hp
   simp only [Bool.and_eq_true] at hp
   obtain⟨hp,hc⟩:=hp
   obtain⟨c,rfl⟩:=hcy hc
   have he:=qER (P:=P) (w:=w) (T:=T) hp
   obtain⟨v',e1,e2⟩:=qC0 (P:=P) (w:=w) (g:=g) (T:=T) (v1:=.nilIface) (v2:=.nilIface) (r:=true) (fun op ho=>by
    rcases ho with rfl|rfl <;> simp [binOp,he]) h
   exact⟨v',by rw [Sem.run_bind,qCO,Result.andThen_ok,e1],e2⟩
  ·cases h
 ·cases h
end
section
variable {P:Program} {own:Nat→Prop} {C:Nat→Prop} {w0:World} {g:Gh} {st:St} {a:Act} {w:World}
def qRw (op:UnOp):AV→Option AV
 | .sc (.bool b)=>match op with|.not=>some (.sc (.bool (!b)))|_=>none
 | .sc (.int k n)=>match op with|.neg=>some (.sc (.int k (k.wrap (-n))))|_=>none
 | _=>none
theorem qKk {op:UnOp} {v:Value} {x z:AV} (hv:RV g w v x) (h:qRw op x=some z):∃ v',(Op.unary op v).run P w=.ok v' w∧RV g w v' z:=by
 unfold qRw at h
 split at h
 ·obtain rfl:=hv.sc_eq
  cases op <;> simp at h
  subst h
  exact⟨_,rfl,.sc _⟩
 ·obtain rfl:=hv.sc_eq
  cases op <;> simp at h
  subst h
  exact⟨.int _ (IntKind.wrap _ (-_)),by simp [Op.unary,Op.intArith],.sc _⟩
 ·cases h
def qA0 (c x y:AV):Option AV :=
 match c with
 | .sc (.bool t)=>match x,y with
  | .sc (.bool p),.sc (.bool q)=>some (.sc (.bool (bif t then p else q)))
  | x,y=>some (bif t then x else y)
 | _=>none
theorem qHP {vc vx vy:Value} {c x y z:AV} (hc:RV g w vc c) (hx:RV g w vx x) (hy:RV g w vy y) (h:qA0 c x y=some z) :
  ∃ v',(do pure (if ← asBool vc then vx else vy):Sem Value).run P w=.ok v' w∧RV g w v' z:=by
 unfold qA0 at h
 split at h
 ·rename_i t
  obtain rfl:=hc.sc_eq
  split at h
  ·obtain rfl:=hx.sc_eq
   obtain rfl:=hy.sc_eq
   obtain rfl:=sI h
   cases t <;> exact⟨_,rfl,.sc _⟩
  ·obtain rfl:=sI h
   cases t
   ·exact⟨_,rfl,hy⟩
   ·exact⟨_,rfl,hx⟩
 ·cases h
def qPQ (P:Program) (T:TypeId):Bool:=match P.underlying T with|some .string=>true|_=>false
def jx (P:Program) (T:TypeId):Bool:=match P.underlying T with|some (.slice _)=>true|_=>false
def qWS (P:Program) (T:TypeId):Bool:=match P.underlying T with|some (.map _ _)=>true|_=>false
def qEj (P:Program) (T:TypeId) (hp:Nm→Option AO):AV→Option AV
 | .sl _ rows=>if jx P T then some (.sc (.int .i64 rows.length)) else none
 | .hs _ _ _ len=>if jx P T then some (.sc (.int .i64 len)) else none
 | .sc (.slice none 0 0)=>if jx P T then some (.sc (.int .i64 0)) else none
 | .sc (.string s)=>if qPQ P T then some (.sc (.int .i64 s.size)) else none
 | .mp n=>if qWS P T then (match hp n with|some (.map es)=>some (.sc (.int .i64 es.length))|_=>none) else none
 | _=>none
theorem yf {T ty:TypeId} {ad:Option Addr} {n c:Nat} (h:jx P T=true):(Builtin.len_ #[T] ty #[.slice ad n c]).run P w=.ok (.int .i64 n) w:=by
 unfold jx at h
 split at h
 ·rename_i e hu
  simp [Builtin.len_,zR hu,goInt]
 ·cases h
theorem qJX {T ty:TypeId} {v:Value} {x z:AV} (hi:Inv own C w0 g st.hp w) (hv:RV g w v x) (h:qEj P T st.hp x=some z):∃ v',(Builtin.len_ #[T] ty #[v]).run P w=.ok v' w∧RV g w v' z:=by
 unfold qEj at h
 split at h
 ·split at h
  ·rename_i ht
   obtain rfl:=sI h
   cases hv with
   | slN=>exact⟨_,yf ht,.sc _⟩
   | slC b off cap n E rows f hC hn=>subst hn;exact⟨_,yf ht,.sc _⟩
  ·cases h
 ·split at h
  ·rename_i ht
   obtain rfl:=sI h
   cases hv with
   | hsN=>exact⟨_,yf ht,.sc _⟩
   | hsB=>exact⟨_,yf ht,.sc _⟩
  ·cases h
 ·split at h
  ·rename_i ht
   obtain rfl:=sI h
   obtain rfl:=hv.sc_eq
   exact⟨_,yf ht,.sc _⟩
  ·cases h
 ·split at h
  ·rename_i ht
   obtain rfl:=sI h
   obtain rfl:=hv.sc_eq
   unfold qPQ at ht
   split at ht
   ·rename_i hu
    exact⟨_,by simp [Builtin.len_,zR hu,goInt],.sc _⟩
   ·cases ht
  ·cases h
 ·split at h
  ·rename_i ht
   split at h
   ·rename_i n es hes
    obtain rfl:=sI h
    cases hv with
    | mp _ b hk =>
     have ho:=hi.obj _ _ hes
     simp only [OAt,hk] at ho
     obtain⟨ms,clock,h1,_,h2,_⟩:=ho
     unfold qWS at ht
     split at ht
     ·rename_i k e hu
      have hg:(getObj b).run P w=.ok (.map ms.toArray clock) w:=by simp [getObj,Sem.run,h1]
      exact⟨.int .i64 es.length,by simp [Builtin.len_,zR hu,hg,goInt,h2],.sc _⟩
     ·cases ht
   ·cases h
  ·cases h
 ·cases h
def qLv (i:Nat):AV→Option AV
 | .tup l=>l[i]?
 | _=>none
theorem qJ0 {i:Nat} {v:Value} {x z:AV} (hv:RV g w v x) (h:qLv i x=some z):∃ v',(Instr.extract v i).run P w=.ok v' w∧RV g w v' z:=by
 cases x with
 | tup l =>
  obtain⟨vs,rfl,_,hr⟩:=qKV hv
  obtain⟨u,hu,hru⟩:=hr i z h
  exact⟨u,by simp [Instr.extract,hu],hru⟩
 | _=>simp [qLv] at h
theorem qII {T:TypeId} {vs:List Value} {cs:List AV} {off:Nat} {z:AV} (hl:vs.length=cs.length) (hr:∀ (j:Nat) y,cs[j]?=some y→∃ u,vs[j]?=some u∧RV g w u y) (h:qIj P T cs off=some z) :
  ∃ v',(part T vs.toArray off).run P w=.ok v' w∧RV g w v' z:=by
 unfold qIj at h
 split at h
 ·rename_i hagg
  split at h
  ·rename_i hle
   obtain rfl:=sI h
   refine⟨.agg ((vs.drop off).take (tsz P T)).toArray,?_,?_⟩
   ·simp only [part,Sem.run_bind,v7 hagg,Result.andThen_ok,if_true,qAO (qB1 hagg),Sem.run_pure]
    congr 2
    rw [List.extract_toArray]
    congr 1
    rw [List.extract_eq_take_drop]
    congr 1
    omega
   ·refine .agg _ _ (by simp;omega) fun j v y hv hy=>?_
    rw [List.getElem?_take] at hv hy
    split at hy
    ·rename_i hj
     rw [if_pos hj,List.getElem?_drop] at hv
     rw [List.getElem?_drop] at hy
     obtain⟨u,hu,hru⟩:=hr _ y hy
     rw [hv] at hu
     obtain rfl:=sI hu
     exact hru
    ·cases hy
  ·cases h
 ·rename_i hagg
  obtain⟨u,hu,hru⟩:=hr off z h
  exact⟨u,by simp [part,v7 hagg,hu],hru⟩
 ·cases h
def qJu (P:Program) (T:TypeId) (f:Nat):AV→Option AV
 | .agg cs=>match tfo P T f with
  | some (o,e)=>qIj P e cs o
  | none=>none
 | _=>none
theorem qIC {T:TypeId} {f o:Nat} {e:TypeId} (h:tfo P T f=some (o,e)):∃ fs fd,P.underlying T=some (.struct fs)∧fs[f]?=some fd∧fd.offset=o∧fd.type=e:=by
 unfold tfo at h
 split at h
 ·rename_i fs hu
  split at h
  ·rename_i fd hfd
   split at h
   ·cases h
   ·obtain⟨rfl,rfl⟩:=Prod.mk.inj (sI h)
    exact⟨fs,fd,hu,hfd,rfl,rfl⟩
  ·cases h
 ·cases h
theorem qJZ {T:TypeId} {f:Nat} {v:Value} {x z:AV} (hv:RV g w v x) (h:qJu P T f x=some z):∃ v',(Instr.field T v f).run P w=.ok v' w∧RV g w v' z:=by
 cases x with
 | agg cs =>
  simp only [qJu] at h
  split at h
  ·rename_i o e ht
   obtain⟨fs,fd,hu,hfd,rfl,rfl⟩:=qIC ht
   obtain⟨vs,rfl,hl,hr⟩:=ua hv
   obtain⟨v',h1,h2⟩:=qII hl hr h
   exact⟨v',by simp only [Instr.field,Sem.run_bind,zR hu,Result.andThen_ok,hfd,asAgg,Sem.run_pure,h1],h2⟩
  ·cases h
 | _=>simp [qJu] at h
def qJp (P:Program) (T:TypeId) (x:AV) (n:Int):Option AV :=
 match x with
 | .sc (.string s)=>if qPQ P T∧0≤n then (s.data.toList[n.toNat]?).map (fun b=>.sc (.int .u8 b.toNat)) else none
 | .agg cs=>match qKJ P T with
  | some (len,e)=>if 0≤n∧n<len then qIj P e cs (n.toNat * tsz P e) else none
  | none=>none
 | _=>none
theorem qJY {T:TypeId} {k:IntKind} {n:Int} {v:Value} {x z:AV} (hv:RV g w v x) (h:qJp P T x n=some z):∃ v',(Instr.index T v (.int k n)).run P w=.ok v' w∧RV g w v' z:=by
 unfold qJp at h
 split at h
 ·rename_i s
  obtain rfl:=hv.sc_eq
  split at h
  ·rename_i hc
   obtain⟨ht,h0⟩:=hc
   obtain⟨b,hb,rfl⟩:=Option.map_eq_some_iff.1 h
   unfold qPQ at ht
   split at ht
   ·rename_i hu
    have hs:s[n.toNat]?=some b:=by
     have hlt:n.toNat<s.size:=by have:=(gS hb).1;simpa using this
     have:s[n.toNat]?=some (s[n.toNat]'hlt):=getElem?_pos s n.toNat hlt
     rw [this]
     have h2:=(gS hb).2
     rw [← h2]
     rfl
    exact⟨_,by simp only [Instr.index,asIntOf,Sem.run_bind,Sem.run_pure,Result.andThen_ok,zR hu,h0,if_true,hs],.sc _⟩
   ·cases ht
  ·cases h
 ·rename_i cs
  split at h
  ·rename_i len e ht
   split at h
   ·rename_i hc
    obtain⟨h0,h1⟩:=hc
    obtain⟨hu,hi⟩:=qF8 ht
    obtain⟨vs,rfl,hl,hr⟩:=ua hv
    obtain⟨v',h2,h3⟩:=qII hl hr h
    exact⟨v',by simp only [Instr.index,asIntOf,Sem.run_bind,Sem.run_pure,Result.andThen_ok,zR hu,h0,h1,and_self,if_true,qAO hi,h2],h3⟩
   ·cases h
  ·cases h
 ·cases h
def j6 (P:Program) (T:TypeId):Option Bool:=match P.underlying T with|some (.interface _)=>some true|some _=>some false|none=>none
def qLP (P:Program) (T:TypeId) (x:AV):Option AV:=if j6 P T=some false then some (.ifc T x) else none
theorem qJU {T:TypeId} {v:Value} {x z:AV} (hv:RV g w v x) (h:qLP P T x=some z):∃ v',(Instr.makeInterface T v).run P w=.ok v' w∧RV g w v' z:=by
 unfold qLP at h
 split at h
 ·rename_i h1
  obtain rfl:=sI h
  refine⟨.iface T v,?_,.ifc T v x hv⟩
  unfold j6 at h1
  cases hu:P.underlying T with
  | none=>simp [hu] at h1
  | some d=>cases d <;> simp [hu] at h1 <;> simp [Instr.makeInterface,zR hu]
 ·cases h
def kE (P:Program) (T:TypeId):Option AV :=
 match (P.info? T).bind (·.zero) with
 | some (.agg cs)=>some (.agg (cs.toList.map .sc))
 | some v=>some (.sc v)
 | none=>none
theorem qCM {T:TypeId} {z:AV} (h:kE P T=some z):∃ v,(zeroValue T).run P w=.ok v w∧RV g w v z:=by
 unfold kE at h
 split at h
 ·rename_i cs hz
  obtain rfl:=sI h
  obtain⟨i,hi,hiz⟩:=Option.bind_eq_some_iff.1 hz
  refine⟨.agg cs,by simp [zeroValue,typeInfo,hi,hiz],?_⟩
  have:=RV.agg (g:=g) (w:=w) cs.toList (cs.toList.map .sc) (by simp) fun j v y hv hy=>by
   rw [List.getElem?_map,hv] at hy
   obtain rfl:=sI hy
   exact .sc _
  simpa using this
 ·rename_i v hn hz
  obtain rfl:=sI h
  obtain⟨i,hi,hiz⟩:=Option.bind_eq_some_iff.1 hz
  exact⟨v,by simp [zeroValue,typeInfo,hi,hiz],.sc _⟩
 ·cases h
def qF7 (P:Program) (A:TypeId) (x:AV):Option AV :=
 if j6 P A=some false then
  match x with
  | .ifc t y=>if t=A then some (.tup [y,.sc (.bool true)]) else (kE P A).map (fun z=>.tup [z,.sc (.bool false)])
  | .sc .nilIface=>(kE P A).map (fun z=>.tup [z,.sc (.bool false)])
  | _=>none
 else none
theorem RV.tup2 {u v:Value} {x y:AV} (h1:RV g w u x) (h2:RV g w v y):RV g w (.tuple #[u,v]) (.tup [x,y]):=by
 refine .tup [u,v] [x,y] rfl fun j a b ha hb=>?_
 match j,ha,hb with
 | 0,ha,hb=>simp at ha hb;subst ha;subst hb;exact h1
 | 1,ha,hb=>simp at ha hb;subst ha;subst hb;exact h2
theorem qJS {T A:TypeId} {v:Value} {x z:AV} (hv:RV g w v x) (h:qF7 P A x=some z):∃ v',(Instr.typeAssert v T A true).run P w=.ok v' w∧RV g w v' z:=by
 unfold qF7 at h
 split at h
 ·rename_i h1
  obtain⟨d,hu,hd⟩:∃ d,P.underlying A=some d∧∀ ms,d≠.interface ms:=by
   unfold j6 at h1
   cases hu:P.underlying A with
   | none=>simp [hu] at h1
   | some d=>exact⟨d,rfl,fun ms e=>by subst e;simp [hu] at h1⟩
  split at h
  ·rename_i t y
   have hv':∃ u,v=.iface t u∧RV g w u y:=by
    cases hv with
    | ifc t v a h=>exact⟨v,rfl,h⟩
   obtain⟨u,rfl,hy⟩:=hv'
   split at h
   ·rename_i ht
    subst ht
    obtain rfl:=sI h
    refine⟨.tuple #[u,.bool true],?_,.tup2 hy (.sc _)⟩
    cases d <;> first
     | (simp [Instr.typeAssert,zR hu];done)
     | exact absurd rfl (hd _)
   ·rename_i ht
    obtain⟨z0,hz0,rfl⟩:=Option.map_eq_some_iff.1 h
    obtain⟨v0,hr0,hv0⟩:=qCM (g:=g) (w:=w) hz0
    refine⟨.tuple #[v0,.bool false],?_,.tup2 hv0 (.sc _)⟩
    cases d <;> first
     | (simp [Instr.typeAssert,zR hu,ht,hr0];done)
     | exact absurd rfl (hd _)
  ·obtain rfl:=hv.sc_eq
   obtain⟨z0,hz0,rfl⟩:=Option.map_eq_some_iff.1 h
   obtain⟨v0,hr0,hv0⟩:=qCM (g:=g) (w:=w) hz0
   refine⟨.tuple #[v0,.bool false],?_,.tup2 hv0 (.sc _)⟩
   cases d <;> first
    | (simp [Instr.typeAssert,zR hu,hr0];done)
    | exact absurd rfl (hd _)
  ·cases h
 ·cases h
def qVT (P:Program) (T:TypeId):Option IntKind:=match P.underlying T with|some (.int k)=>some k|_=>none
def qMA (P:Program) (S D:TypeId):AV→Option AV
 | .sc (.int _ n)=>match qVT P D,P.underlying S with|some k,some (.int _)=>some (.sc (.int k (k.wrap n)))|_,_=>none
 | _=>none
theorem qJ1 {S D:TypeId} {v:Value} {x z:AV} (hv:RV g w v x) (h:qMA P S D x=some z):∃ v',(convert S D v).run P w=.ok v' w∧RV g w v' z:=by
 unfold qMA at h
 split at h
 ·obtain rfl:=hv.sc_eq
  split at h
  ·rename_i k _ hk hs
   obtain rfl:=sI h
   unfold qVT at hk
   split at hk
   ·rename_i k' hd
    obtain rfl:=sI hk
    exact⟨_,by simp [convert,zR hs,zR hd,Conv.intToInt],.sc _⟩
   ·cases hk
  ·cases h
 ·cases h
def qEy (P:Program) (T:TypeId) (cs:List AV):List (Nat×AV)→Option (List AV)
 | []=>some cs
 | (i,x)::rest=>match tfo P T i,x.cells with
  | some (o,e),some ds=>if ds.length=tsz P e∧o+ds.length≤cs.length then qEy P T (cs.take o++ds++cs.drop (o+ds.length)) rest else none
  | _,_=>none
def y6 (P:Program) (T:TypeId):Bool:=match P.underlying T with|some (.struct fs)=>fs.toList.all (fun f=>(P.info? f.type).isSome)|_=>false
def qHk (P:Program) (T:TypeId) (parts:List (Nat×AV)):Option AV :=
 if y6 P T then
  match ji P T with
  | some z=>(qEy P T (z.map .sc) parts).map .agg
  | none=>none
 else none
theorem qAP {α β:Type} {f:α→Sem β} {h:α→β}:∀ (l:List α),(∀ x∈l,(f x).run P w=.ok (h x) w)→(l.mapM f).run P w=.ok (l.map h) w
 | [],_=>by simp
 | x::l,hl=>by
  have h1:=hl x (List.mem_cons_self ..)
  have h2:=qAP (h:=h) l (fun y hy=>hl y (List.mem_cons_of_mem _ hy))
  simp [h1,h2]
theorem qFk {α β:Type} {f:α→Sem β} {h:α→β} (l:Array α) (hl:∀ x∈l,(f x).run P w=.ok (h x) w):(l.mapM f).run P w=.ok (l.map h) w:=by
 have:=qAP (P:=P) (w:=w) (f:=f) (h:=h) l.toList (fun x hx=>hl x (by simpa using hx))
 have e:l.mapM f=Functor.map List.toArray (l.toList.mapM f):=by
  rw [Array.mapM_eq_mapM_toList]
 rw [e]
 simp only [Sem.run_map,this,Result.andThen_ok]
 congr 1
 apply Array.ext'
 simp
theorem qG9 (o:Nat):∀ (us:List Value) (i:Nat) (cs:Array Value),o+i+us.length≤cs.size →
  (us.zipIdx i).foldl (fun cs (x:Value×Nat)=>cs.setIfInBounds (o+x.2) x.1) cs=(cs.toList.take (o+i)++us++cs.toList.drop (o+i+us.length)).toArray:=by
 intro us
 induction us with
 | nil=>intro i cs _;simp
 | cons v us ih =>
  intro i cs hle
  simp only [List.length_cons] at hle
  rw [List.zipIdx_cons,List.foldl_cons,ih (i+1) _ (by simp;omega)]
  congr 1
  have:=list_seg_step cs.toList (o+i) v us (by simp;omega)
  simp only [Array.toList_setIfInBounds,List.length_cons]
  rw [show o+(i+1)=o+i+1 from by omega]
  exact this
theorem qLt {T:TypeId} {fs:Array Field} (hu:P.underlying T=some (.struct fs)):∀ (parts:List (Nat×AV)) (vp:List (Nat×Value)) (cs:List AV) (vc:Array Value) (zs:List AV),
  vp.length=parts.length→(∀ (j:Nat) p q,vp[j]?=some p→parts[j]?=some q→p.1=q.1∧RV g w p.2 q.2) →
  vc.size=cs.length→(∀ (j:Nat) y,cs[j]?=some y→∃ u,vc[j]?=some u∧RV g w u y)→qEy P T cs parts=some zs →
  ∃ vz,Instr.fill ((fs.map (fun f=>(f.offset,tsz P f.type)))[·]?) vc vp=some vz∧vz.size=zs.length∧∀ (j:Nat) y,zs[j]?=some y→∃ u,vz[j]?=some u∧RV g w u y:=by
 intro parts
 induction parts with
 | nil =>
  intro vp cs vc zs hl _ hs hr h
  have:vp=[]:=List.eq_nil_of_length_eq_zero (by simpa using hl)
  subst this
  obtain rfl:=sI h
  exact⟨vc,rfl,hs,hr⟩
 | cons q parts ih =>
  intro vp cs vc zs hl hp hs hr h
  obtain⟨i,x⟩:=q
  cases vp with
  | nil=>simp at hl
  | cons p vp =>
   obtain⟨i',v⟩:=p
   obtain⟨e1,hv⟩:=hp 0 _ _ rfl rfl
   simp only at e1 hv
   subst e1
   simp only [qEy] at h
   split at h
   ·rename_i o e ds ht hc
    split at h
    ·rename_i hcond
     obtain⟨h1,h2⟩:=hcond
     obtain⟨fs',fd,hu',hfd,rfl,rfl⟩:=qIC ht
     rw [hu] at hu'
     injection hu' with hu'
     injection hu' with hu'
     subst hu'
     obtain⟨c1,c2,c3⟩:=hv.cells hc
     have hlen:v.cells.size=ds.length:=by rw [← Array.length_toList];exact c1
     have hplace:(fs.map (fun f=>(f.offset,tsz P f.type)))[i']?=some (fd.offset,tsz P fd.type):=by simp [hfd]
     have hfold:(v.cells.zipIdx.foldl (fun cs (x:Value×Nat)=>cs.setIfInBounds (fd.offset+x.2) x.1) vc)=(vc.toList.take fd.offset++v.cells.toList++vc.toList.drop (fd.offset+v.cells.toList.length)).toArray:=by
      have:=qG9 fd.offset v.cells.toList 0 vc (by simp;omega)
      rw [Nat.add_zero] at this
      rw [← this,← Array.foldl_toList,Array.toList_zipIdx]
     obtain⟨vz,hz1,hz2,hz3⟩:=ih vp (cs.take fd.offset++ds++cs.drop (fd.offset+ds.length)) (vc.toList.take fd.offset++v.cells.toList++vc.toList.drop (fd.offset+v.cells.toList.length)).toArray zs (by simpa using hl)
      (fun j p q hj hq=>hp (j+1) p q (by simpa using hj) (by simpa using hq))
      (by simp;omega)
      (fun j y hy=>by
        rw [vM h2] at hy
        have hsz:fd.offset+v.cells.toList.length≤vc.toList.length:=by simp;omega
        have hget:((vc.toList.take fd.offset++v.cells.toList++vc.toList.drop (fd.offset+v.cells.toList.length)).toArray)[j]?=if fd.offset≤j∧j<fd.offset+v.cells.toList.length then v.cells.toList[j - fd.offset]? else vc.toList[j]?:=by
         rw [List.getElem?_toArray]
         have ht0:(vc.toList.take fd.offset).length=fd.offset:=by rw [List.length_take];omega
         rw [List.append_assoc,List.getElem?_append,ht0]
         by_cases g1:j<fd.offset
         ·rw [if_pos g1,if_neg (by omega),List.getElem?_take,if_pos g1]
         ·rw [if_neg g1,List.getElem?_append]
          by_cases g2:j - fd.offset<v.cells.toList.length
          ·rw [if_pos g2,if_pos (by omega)]
          ·rw [if_neg g2,if_neg (by omega),List.getElem?_drop]
           congr 1
           omega
        rw [hget]
        split at hy
        ·rename_i hin
         rw [if_pos (by rw [c1];exact hin)]
         have hlt:j - fd.offset<v.cells.toList.length:=by rw [c1];omega
         exact⟨_,gE hlt,c3 _ _ y (gE hlt) hy⟩
        ·rename_i hin
         rw [if_neg (by rw [c1];exact hin)]
         obtain⟨u,hu1,hu2⟩:=hr j y hy
         exact⟨u,by simpa using hu1,hu2⟩) h
     refine⟨vz,?_,hz2,hz3⟩
     unfold Instr.fill
     simp only [hplace]
     rw [if_neg (by rw [hlen,h1];simp;omega),hfold]
     exact hz1
    ·cases h
   ·cases h
theorem qJ2 {T:TypeId} {parts:List (Nat×AV)} {vp:Array (Nat×Value)} {z:AV} (hl:vp.size=parts.length) (hp:∀ (j:Nat) p q,vp[j]?=some p→parts[j]?=some q→p.1=q.1∧RV g w p.2 q.2)
  (h:qHk P T parts=some z):∃ v',(Instr.build T vp).run P w=.ok v' w∧RV g w v' z:=by
 unfold qHk at h
 split at h
 ·rename_i hf
  split at h
  ·rename_i zc hz
   obtain⟨zs,hzs,rfl⟩:=Option.map_eq_some_iff.1 h
   unfold y6 at hf
   split at hf
   ·rename_i fs hu
    unfold ji at hz
    obtain⟨zv,hzv,rfl⟩:=Option.map_eq_some_iff.1 hz
    obtain⟨i,hi,hiz⟩:=Option.bind_eq_some_iff.1 hzv
    obtain⟨vz,h1,h2,h3⟩:=qLt (g:=g) (w:=w) hu parts vp.toList _ zv.cells zs (by simpa using hl) (fun j p q hj hq=>hp j p q (by simpa using hj) hq) (by simp)
     (fun j y hy=>by
       rw [List.getElem?_map] at hy
       obtain⟨u,hu,rfl⟩:=Option.map_eq_some_iff.1 hy
       exact⟨u,by simpa using hu,.sc _⟩) hzs
    have hm:=qFk (P:=P) (w:=w) (f:=fun f:Field=>(do pure (f.offset,← sizeOf f.type):Sem (Nat×Nat))) (h:=fun f=>(f.offset,tsz P f.type)) fs (fun f hfm=>by
     have:=List.all_eq_true.1 hf f (by simpa using hfm)
     simp [qAO this])
    refine⟨.agg vz,?_,?_⟩
    ·simp only [Instr.build,Sem.run_bind,zeroValue,typeInfo,run_program,hi,Result.andThen_ok,Sem.run_pure,hiz,zR hu,hm,h1]
    ·have:=RV.agg (g:=g) (w:=w) vz.toList zs (by simpa using h2) fun j v y hv hy=>by
      obtain⟨u,hu1,hu2⟩:=h3 j y hy
      have hv':vz[j]?=some v:=by simpa using hv
      rw [hv'] at hu1
      obtain rfl:=sI hu1
      exact hu2
     simpa using this
   ·cases hf
  ·cases h
 ·cases h
end
end Go.Hm
end
