import Derived.Test.YtdnebaieamppbaaGreatDoorE17
import Derived.Recover
set_option linter.unusedSimpArgs false
set_option linter.unusedVariables false
set_option maxRecDepth 100000
set_option maxHeartbeats 4000000

section
namespace Go.Hm
open Go Go.RowKit
def Rp (s:Z9):List Int :=
 if s.kind=0\/s.kind=1\/s.kind=3\/s.kind=4 then [s.to,s.a]
 else if s.kind=2\/s.kind=6 then [s.to,s.a,s.b]
 else if s.kind=5 then (if s.b=-1 then [s.to,s.a] else [s.to,s.a,s.b])
 else if s.kind=7\/s.kind=8 then [s.a] else [s.to]
section
variable {s:Z9} {k:Za} {p q:Z0} {l w:Txt} {ns:List Int} {ks:List Nat} {ls ws:List Txt} {i n:Nat}
def C5 (ns:List Int):Prop:=∀ n∈ns,0<=n/\n<=99
structure qAv (s:Z9):Prop where
 kind:0<=s.kind/\s.kind<=11
 nums:C5 (Rp s)
 to:s.kind=7\/s.kind=8->s.to=0/\s.b=0
 b:s.kind=0\/s.kind=1\/s.kind=3\/s.kind=4->s.b=0
 a:9<=s.kind->s.a=0/\s.b=0
end
section
variable {s:Z9} {k:Za} {p q:Z0} {l w:Txt} {ns:List Int} {ls ws rest:List Txt} {i n:Nat} {body:List Z9} {ks:List Za}
structure qEi (k:Za):Prop where
 kind:k.kind=1\/k.kind=2
 parent:0<=k.parent/\k.parent<=99
 params:C5 k.params
 cls:k.kind=2->k.params=[]
end
section
variable {s:Z9} {k k0:Za} {p q P:Z0} {l t:Txt} {ls rest:List Txt} {i n:Nat} {body:List Z9} {ks:List Za}
structure qEA (p:Z0):Prop where
 head:∃ b ks,p=⟨0,-1,[],b⟩::ks
 Zc:∀ (i:Nat) k,p[i]?=some k->0<i->qEi k
 qCk:∀ k∈p,∀ s∈k.body,qAv s
end
end Go.Hm
end
section

end
section

end
section

end
section

end
section

end
section

end
section

end
section

end
section

end
section
namespace Go.Hm
open Go Go.RowKit
section
variable {P:Program} {own:Nat->Prop} {C:Nat->Prop} {w0:World} {g:Gh} {st:St} {a:Go.Act} {w:World}
def WN (T:TypeId) (d:Nat) (st:St):St :=
 ((st.kill (.s d)).Zp (.s d) (.qCG T 2 true [[.sc (.pointer none),.sc (.slice none 0 0)]])).put (some d) (.pt (.s d) 0)
theorem E2 {o:Oper} {T:TypeId} {d:Nat} (h:Rg P own C w0 g st a w) (ho:o.op=.alloc T) (hd:o.dst=some d) (hn:d<st.n) (hq:yn P T=some [.sc (.pointer none),.sc (.slice none 0 0)]) :
  Es P o a w λa' w'=>Rel P own C w0 g (WN T d st) a' w':=by
 obtain⟨i,z,q1,q2,q3,q4,q5⟩:=nE hq
 have hz:z.cells=#[.pointer none,.slice none 0 0]:=by
  have h2:z.cells.toList=[.pointer none,.slice none 0 0]:=by
   rcases hl:z.cells.toList with _|⟨x,_|⟨y,_|⟨u,tl⟩⟩⟩ <;> rw [hl] at q4 <;> simp at q4
   simp_all
  grind
 refine .inl ⟨.pointer (some ⟨w.heap.size,0,none⟩),w.alloc (.cells z.cells T),?_,?_⟩
 .simp [execOp,ho,Instr.alloc,zeroValue,typeInfo,q1,q2,newVar,newRow]
 .rw [hd,hz]
  have hm:=h.made (.s d) (.qCG T 2 true [[.sc (.pointer none),.sc (.slice none 0 0)]]) w.heap.size 1 (w.alloc (.cells #[.pointer none,.slice none 0 0] T)) [] (λp hp=>by cases hp) (λ_=>false) rfl rfl rfl qB (.inl (qf _)) qB (λb' _ hb'=>kr _ hb') (by
   simp only [OAt,(zO (g:=g) (.s d) (some w.heap.size) 1).1,(zO (g:=g) (.s d) (some w.heap.size) 1).2];refine⟨⟨_,heap_alloc_new w _,qB,qO,qB,qB,?_,?_⟩,λ_=>rfl,λe=>um⟩
   .intro j hj
    match j,hj with
    | 0,_=>rfl
    | 1,_=>rfl
   .intro i row hrow j x hx
    match i,hrow with
    | 0,hrow =>
     obtain rfl:=sI hrow
     match j,hx with
     | 0,hx=>obtain rfl:=sI hx;exact .sc _
     | 1,hx=>obtain rfl:=sI hx;exact .sc _)
  have ek:(st.nm (kl (.s d)) (λm=>if (λ_=>false:Nm->Bool) m then none else hkl (.s d) st.hp m))=st.kill (.s d):=lX;rw [ek] at hm
  have hp:=hm.put (d:=some d) (v:=.pointer (some ⟨w.heap.size,0,none⟩)) (x:=.pt (.s d) 0) (λt et=>by
   obtain rfl:=sI et;exact hn) (.pt _ _ _ (zO _ _ _).1)
  exact⟨_,Ust.fresh rfl,hp⟩
end
section
variable {X:Ctx} {st:St} {K:St->Prop} {E:AV->St->Prop} {ty:TypeId} {pos:String} {aft:Array Edge} {g:Option (Nat×Bool)} {d:Nat} {T:TypeId}
theorem Hf (hd:d<X.n:=by first|(simp;done)|fail) (hq:yn X.P T=some [.sc (.pointer none),.sc (.slice none 0 0)]) (h:K (WN T d st)):qS X ⟨some d,.alloc T,ty,pos,aft,g⟩ K E st :=
 .qAq (λ_ _ _ _ e' h=>E2 h rfl rfl (e' ▸ hd) hq) ⟨rfl,rfl⟩ h
end
end Go.Hm
end
section

end
section

end
section

end
section
namespace Go.Hm
open Go Go.RowKit
def wd (a:Go.Act):Go.Act:={ a with defers:=[] }
end Go.Hm
end
section

end
section

end
section
namespace Go.Hm
open Go Go.RowKit
section
variable {X:Ctx} {st:St} {K:St->Prop} {E:AV->St->Prop} {d:Nat} {ty:TypeId} {pos:String} {aft:Array Edge} {g:Option (Nat×Bool)} {f:Nat} {args:Array Operand} {Ts:Array TypeId} {bs:List AV}
theorem uq {x:AV} (hd:d<X.n:=by first|(simp;done)|fail) (ha:args.toList.map (ev st)=bs:=by simp [fx];first|done|rfl|exact (ll _).symm)
  (hF:qb X.P X.gl f bs (λ_ y _=>y=x)) (h:K ((st.kill (.s d)).put (some d) x)):qS X ⟨some d,.call ⟨.value (.func f),args,Ts⟩,ty,pos,aft,g⟩ K E st:=by
 refine qS.qCj (LF (K:=λs=>∃ H',s=(st.call d noD noH H').put (some d) x) hd ha hF ?_) ?_
 .rintro y H' rfl
  grind
 .rintro s ⟨H',rfl⟩;refine⟨(st.kill (.s d)).hp,λm ob e=>?_,?_⟩<;>simp_all[St.kill,St.nm,hkl,St.put,St.call,so]
theorem ZA {P:Program} {T:TypeId} {zs:List AV} (_hq:yn P T=some zs) (h:qS X ⟨some d,.alloc T,ty,pos,aft,g⟩ K E st):qS X ⟨some d,.alloc T,ty,pos,aft,g⟩ K E st:=h
end
theorem ol {G G':Prop} (k:G') (h:Zx G'->G:=by
 intro kk
 repeat' (first
  | refine vH ?_|refine jd ?_|refine yH ?_|refine fJ ?_|refine kL λK hK=>?_
  | ((with_reducible refine vA hK ?_);clear hK K)|(with_reducible refine vA hK ?_)
  | (with_reducible first|refine qV ?_|refine jS ?_|refine jQ ?_|refine vW ?_|refine j6 ?_|refine kH ?_|refine kz ?_|refine jx qO ?_)
  | refine kR ?_
  | refine aM ?_
  | (with_reducible refine jL ?_)
  | ((with_reducible refine NO ?_);refine bC (h:=?_))
  | (with_reducible first|refine sW ?_|refine BX ?_|refine Oy (h:=?_)|refine PC (h:=?_)|refine x_u (h:=?_)|refine zL (h:=?_)|refine lu (h:=?_)|refine jA (h:=?_)|refine jW (h:=?_)|refine bD (h:=?_)|refine jw (h:=?_)|refine bB (h:=?_)|refine lr (h:=?_)|refine yV (h:=?_))
  | ((with_reducible refine ZA b1 ?_);refine Hf (hq:=b1) (h:=?_))|(with_reducible refine u5 (h:=?_))
  | ((with_reducible refine zh c1 rfl ?_);refine zl (hF:=c1) (h:=?_))
  | ((with_reducible refine zh c2 rfl ?_);refine zl (hF:=c2) (h:=?_))
  | ((with_reducible refine zh c3 rfl ?_);refine zl (hF:=c3) (h:=?_))
  | ((with_reducible refine zh c4 rfl ?_);refine zl (hF:=c4) (h:=?_))
  | ((with_reducible refine zh c5 rfl ?_);refine zl (hF:=c5) (h:=?_))
  | ((with_reducible refine zh c6 rfl ?_);refine zl (hF:=c6) (h:=?_))
  | ((with_reducible refine zh d1 rfl ?_);refine jR (hF:=d1) (h:=?_))
  | ((with_reducible refine zh d2 rfl ?_);refine jR (hF:=d2) (h:=?_))
  | ((with_reducible refine zh d3 rfl ?_);refine jR (hF:=d3) (h:=?_))
  | ((with_reducible refine zh d4 rfl ?_);refine jR (hF:=d4) (h:=?_))
  | ((with_reducible refine zh e1 rfl ?_);refine we (hF:=e1) (h:=?_))
  | ((with_reducible refine zh e2 rfl ?_);refine we (hF:=e2) (h:=?_))
  | ((with_reducible refine zh p1 rfl ?_);refine uq (hF:=p1) (h:=?_))
  | ((with_reducible refine zh p2 rfl ?_);refine uq (hF:=p2) (h:=?_))
  | ((with_reducible refine zh p3 rfl ?_);refine uq (hF:=p3) (h:=?_))
  | ((with_reducible refine zh p4 rfl ?_);refine uq (hF:=p4) (h:=?_))
  | ((with_reducible refine zh p5 rfl ?_);refine uq (hF:=p5) (h:=?_))
  | ((with_reducible refine zh p6 rfl ?_);refine uq (hF:=p6) (h:=?_))
  | (with_reducible refine x_q (h:=?_))
  | (with_reducible refine dX (λht=>?_) (λht=>?_))
  | refine jr (h1:=?_)|refine yF (h1:=?_)
  | ((with_reducible refine u7 hK ?_);clear hK K)|(with_reducible refine u7 hK ?_)
  | ((with_reducible refine dZ ?_);first|refine nC (h:=?_)|refine pC (h:=?_)|refine pD (h:=?_)|refine pB (h:=?_))
  | ((with_reducible refine dZ ?_);refine pE (h1:=λht=>?_) (h2:=λht=>?_))
  | refine a_l rfl ?_|refine Kq ?_ ?_|refine Kp ?_ ?_ ?_|(with_reducible refine aI ?_ ?_)|exact vL|refine wj (h2:=?_)
  | fail)
 first|exact kk.h|(revert hK;revert K;exact kk.h)):G:=h ⟨k⟩
theorem BU {G G':Prop} (k:G') (h:Zx G'->G:=by
 intro kk K hK
 repeat' (first
  | refine vH ?_|refine jd ?_|refine yH ?_|refine fJ ?_|refine kL λK hK=>?_
  | ((with_reducible refine vA hK ?_);clear hK K)|(with_reducible refine vA hK ?_)
  | (with_reducible first|refine qV ?_|refine jS ?_|refine jQ ?_|refine vW ?_|refine j6 ?_|refine kH ?_|refine kz ?_|refine jx qO ?_)
  | refine kR ?_
  | refine aM ?_
  | (with_reducible refine jL ?_)
  | ((with_reducible refine NO ?_);refine bC (h:=?_))
  | (with_reducible first|refine sW ?_|refine BX ?_|refine Oy (h:=?_)|refine PC (h:=?_)|refine x_u (h:=?_)|refine zL (h:=?_)|refine lu (h:=?_)|refine jA (h:=?_)|refine jW (h:=?_)|refine bD (h:=?_)|refine jw (h:=?_)|refine bB (h:=?_)|refine lr (h:=?_)|refine yV (h:=?_))
  | ((with_reducible refine ZA b1 ?_);refine Hf (hq:=b1) (h:=?_))|(with_reducible refine u5 (h:=?_))
  | ((with_reducible refine zh c1 rfl ?_);refine zl (hF:=c1) (h:=?_))
  | ((with_reducible refine zh c2 rfl ?_);refine zl (hF:=c2) (h:=?_))
  | ((with_reducible refine zh c3 rfl ?_);refine zl (hF:=c3) (h:=?_))
  | ((with_reducible refine zh c4 rfl ?_);refine zl (hF:=c4) (h:=?_))
  | ((with_reducible refine zh c5 rfl ?_);refine zl (hF:=c5) (h:=?_))
  | ((with_reducible refine zh c6 rfl ?_);refine zl (hF:=c6) (h:=?_))
  | ((with_reducible refine zh d1 rfl ?_);refine jR (hF:=d1) (h:=?_))
  | ((with_reducible refine zh d2 rfl ?_);refine jR (hF:=d2) (h:=?_))
  | ((with_reducible refine zh d3 rfl ?_);refine jR (hF:=d3) (h:=?_))
  | ((with_reducible refine zh d4 rfl ?_);refine jR (hF:=d4) (h:=?_))
  | ((with_reducible refine zh e1 rfl ?_);refine we (hF:=e1) (h:=?_))
  | ((with_reducible refine zh e2 rfl ?_);refine we (hF:=e2) (h:=?_))
  | ((with_reducible refine zh p1 rfl ?_);refine uq (hF:=p1) (h:=?_))
  | ((with_reducible refine zh p2 rfl ?_);refine uq (hF:=p2) (h:=?_))
  | ((with_reducible refine zh p3 rfl ?_);refine uq (hF:=p3) (h:=?_))
  | ((with_reducible refine zh p4 rfl ?_);refine uq (hF:=p4) (h:=?_))
  | ((with_reducible refine zh p5 rfl ?_);refine uq (hF:=p5) (h:=?_))
  | ((with_reducible refine zh p6 rfl ?_);refine uq (hF:=p6) (h:=?_))
  | (with_reducible refine x_q (h:=?_))
  | (with_reducible refine dX (λht=>?_) (λht=>?_))
  | refine jr (h1:=?_)|refine yF (h1:=?_)
  | ((with_reducible refine u7 hK ?_);clear hK K)|(with_reducible refine u7 hK ?_)
  | ((with_reducible refine dZ ?_);first|refine nC (h:=?_)|refine pC (h:=?_)|refine pD (h:=?_)|refine pB (h:=?_))
  | ((with_reducible refine dZ ?_);refine pE (h1:=λht=>?_) (h2:=λht=>?_))
  | refine a_l rfl ?_|refine Kq ?_ ?_|refine Kp ?_ ?_ ?_|(with_reducible refine aI ?_ ?_)|exact vL|refine wj (h2:=?_)
  | fail)
 first|exact kk.h|(revert hK;revert K;exact kk.h)):G:=h ⟨k⟩
end Go.Hm
end
section

end
section

end
section

end
section
namespace Go.Hm
open Go Go.RowKit
theorem txS {k t a b:Int} (hk:0<=k/\k<=11:=by omega) (ht:0<=t/\t<=99:=by omega) (ha:0<=a/\a<=99:=by omega) (hb:(0<=b/\b<=99)\/(k=5/\b=-1):=by omega)
  (hto:k=7\/k=8->t=0/\b=0:=by omega) (hb0:k=0\/k=1\/k=3\/k=4->b=0:=by omega) (ha0:9<=k->a=0/\b=0:=by omega):qAv ⟨k,t,a,b⟩:=by
 refine⟨hk,?_,hto,hb0,ha0⟩;intro n hn
 grind[Rp]
theorem Wr {x:Z9} (h:qAv x):∀ s∈[x],qAv s:=qH
theorem Yu {x y:Z9} (h:qAv x) (h2:qAv y):∀ s∈[x,y],qAv s:=qH
theorem Lc {L M:List Z9} (h:∀ s∈L,qAv s) (h2:∀ s∈M,qAv s):∀ s∈L++M,qAv s:=λs hs=>by
 grind
theorem rD {L:List Z9} {x:Z9} (h:∀ s∈L,qAv s) (h2:qAv x):∀ s∈L++[x],qAv s:=Lc h (Wr h2)
theorem Lb {L M:List Z9} {a:Nat} (h:∀ s∈L,qAv s) (h2:∀ s∈M,qAv s):∀ s∈L.take a++M++L.drop a,qAv s :=
 Lc (Lc (λs hs=>h s (Ki hs)) h2) λs hs=>h s (List.mem_of_mem_drop hs)
def WX (k:Za):Prop:=(∀ s∈k.body,qAv s)/\C5 k.params/\(¬ k.kind=1->k.params=[])
structure qB3 (p:Z0):Prop extends GenP p where
 txt:qEA p
 qDq:∀ k∈p,k.params.length<=1
 qES:p.length<=7
theorem qB3.one {k:Za} (h:k.parent=-1) (hk:k.kind=0) (hp:k.params.length<=1) (hb:k.body.length<=14) (hT:WX k):qB3 [k]:=by
 refine⟨GenP.one h qA hb,⟨⟨k.body,[],?_⟩,λi q hq hi=>?_,λq hq=>?_⟩,qH,qB⟩
 .have:=hT.2.2 qA;obtain⟨a,b,c,d⟩:=k
  simp_all
 .grind
 grind[WX]
theorem qB3.add {p:Z0} {k:Za} (h:qB3 p) (hl:p.length<=6) (hp:0<=k.parent/\k.parent<p.length) (hk:k.kind=1\/k.kind=2) (h1:k.params.length<=1) (h2:k.body.length<=14) (hT:WX k):qB3 (p++[k]):=by
 refine⟨GenP.add h.toGenP qA hp qA h2,⟨?_,λi q hq hi=>?_,λq hq=>?_⟩,λq hq=>?_,qc⟩
 .obtain⟨b,ks,e⟩:=h.txt.head
  simp_all
 .rw [Ef] at hq
  split at hq
  .exact h.txt.Zc i q hq hi
  .have:q=k:=by
    grind
   subst this;exact⟨hk,qA,hT.2.1,λe=>hT.2.2 qA⟩
 .rcases dY.1 hq with hq|hq
  .exact h.txt.qCk q hq
  grind[WX]
 .rcases dY.1 hq with hq|hq
  .exact h.qDq q hq
  simp_all
theorem DC {p:Z0} {i c:Nat} {L:List Z9} {q:Za} (h:(setBody p i L)[c]?=some q):∃ r,p[c]?=some r/\q.kind=r.kind/\q.parent=r.parent/\q.params=r.params/\(q.body=r.body\/q.body=L):=by
 grind[setBody]
theorem Hh {p q:Z0} (h:qEA p) (hl:q.length=p.length) (hs:∀ (c:Nat) k,q[c]?=some k->∃ r,p[c]?=some r/\k.kind=r.kind/\k.parent=r.parent/\k.params=r.params/\∀ s∈k.body,qAv s):qEA q:=by
 obtain⟨b,ks,e⟩:=h.head;have hne:0<q.length:=qH;refine⟨?_,λi k hk hi=>?_,λk hk=>?_⟩
 .obtain⟨k,qs,rfl⟩:∃ k qs,q=k::qs:=by cases q<;>grind
  obtain⟨r,hr,e1,e2,e3,_⟩:=hs 0 k rfl;rw [e] at hr;obtain rfl:=sI hr;obtain⟨a,b,c,d⟩:=k
  simp_all
 .obtain⟨r,hr,e1,e2,e3,_⟩:=hs i k hk;obtain⟨h1,h2,h3,h4⟩:=h.Zc i r hr hi;constructor<;>grind
 grind[eW]
theorem qB3.setBody {p:Z0} {i:Nat} {L:List Z9} (h:qB3 p) (hL:L.length<=14) (hT:∀ s∈L,qAv s):qB3 (setBody p i L):=by
 refine⟨GenP.setBody h.toGenP hL,Hh h.txt uv λc k hk=>?_,λk hk=>?_,by simp_all[qES]⟩
 .obtain⟨r,hr,e1,e2,e3,e4⟩:=DC hk;refine⟨r,hr,e1,e2,e3,?_⟩;rcases e4 with e|e <;> rw [e]
  .exact h.txt.qCk r (gM hr)
  .exact hT
 .obtain⟨r,hr,h1,_⟩:=bH hk;rw [h1];exact h.qDq r hr
theorem qB3.bare {p:Z0} (h:qB3 p):qB3 (my p):=by
 refine⟨GenP.bare h.toGenP,Hh h.txt (by simp [my]) λc k hk=>?_,λk hk=>?_,by grind[my,qES]⟩
 .simp only [my,kx] at hk;obtain⟨r,hr,rfl⟩:=ku.1 hk;exact⟨r,hr,rfl,rfl,rfl,λs hs=>h.txt.qCk r (gM hr) s (xB.1 hs).1⟩
 .obtain⟨r,hr,rfl⟩:=fG.1 hk;exact h.qDq r hr
theorem iq {l:List (Nm×Nat)} {st:St} {m:Nm}:(St.qAA l st).hp m=match l.find? (λp=>decide (p.1=m)) with
  | some p=>some (.row p.2 [])
  | none=>st.hp m:=by
 induction l with
 | nil=>rfl
 | cons p l ih =>
  grind[DB,St.Zp]
section
variable {hp hp':Nm->Option AO} {p:Z0} {n:Nm} {m m':Zb} {dp dp':Nat} {fs L:List Z8} {f g:Z8} {o:Int×Int} {s:Zt}
@[simp] theorem Co:(m.top fs f).cells=m.cells:=rfl
@[simp] theorem FI:(m.top fs f).globals=m.globals:=rfl
@[simp] theorem dd:(m.top fs f).ZZ=m.ZZ:=rfl
@[simp] theorem FJ:(m.top fs f).ZV=m.ZV:=rfl
@[simp] theorem PR:(m.top fs f).made=m.made:=rfl
@[simp] theorem top_deep:(m.top fs f).deep=m.deep:=rfl
@[simp] theorem S3:(m.top fs f).out=m.out:=rfl
@[simp] theorem top_trace:(m.top fs f).trace=m.trace:=rfl
@[simp] theorem top_en:(m.top fs f).en=m.en:=rfl
@[simp] theorem top_left:(m.top fs f).left=m.left:=rfl
@[simp] theorem JN:(m.top fs f).ZW=fs++[f]:=rfl
@[simp] theorem stop_cells {e:Int}:(m.stop fs f e).cells=m.cells:=rfl
@[simp] theorem stop_globals {e:Int}:(m.stop fs f e).globals=m.globals:=rfl
@[simp] theorem stop_funs {e:Int}:(m.stop fs f e).ZZ=m.ZZ:=rfl
@[simp] theorem stop_classes {e:Int}:(m.stop fs f e).ZV=m.ZV:=rfl
@[simp] theorem stop_made {e:Int}:(m.stop fs f e).made=m.made:=rfl
@[simp] theorem stop_deep {e:Int}:(m.stop fs f e).deep=m.deep:=rfl
@[simp] theorem stop_out {e:Int}:(m.stop fs f e).out=m.out:=rfl
@[simp] theorem stop_trace {e:Int}:(m.stop fs f e).trace=m.trace:=rfl
@[simp] theorem stop_left {e:Int}:(m.stop fs f e).left=m.left:=rfl
@[simp] theorem stop_en {e:Int}:(m.stop fs f e).en=e:=rfl
@[simp] theorem stop_frames {e:Int}:(m.stop fs f e).ZW=fs++[f]:=rfl
theorem EA {d:Nat} {v:Zd} (hi:L[fs.length]?=some f):(qk (qz p (.u 2 0 0) L) fs.length 6 [.hs (.s d) 2 0 (f.stack.length+1)]).map (λr=>r.map (AV.tr (mv (.s d) (.c (.u 2 0 0) fs.length 6))))=qz p (.u 2 0 0) (L.set fs.length (f.push v)):=by
 have hl:=(gS hi).1;apply wK;intro j;simp only [qk,kx,pR,yr,eV];by_cases e:fs.length=j
 .simp_all[jV,Z8.push,ux]
 .simp only [e,if_false]
  cases hj:L[j]? with
  | none=>rfl
  | some g =>
   have e':¬ j=fs.length:=λh=>e h.symm;simp [jV,e,e']
theorem Z2.qAj (h:Z2 hp p n m dp) (hm:m.ZW=fs++[f]):∃ (L:List Z8) (j:List Zd),(∃ js,L=fs++f::js)/\L[fs.length]?=some f/\fs.length<L.length/\hp n=some (.row 7 (qz p n L))/\hp (.c n fs.length 3)=some (.row 3 (qW f.Z3))/\hp (.c n fs.length 5)=some (.row 3 (qW f.names))/\hp (.c n fs.length 6)=some (.row 2 (zn (f.stack++j))):=by
 obtain⟨js,hj⟩:=h.fr.top;have hf:m.ZW[fs.length]?=some f:=aF;obtain⟨j,hs⟩:=h.fr.stack _ f hf;refine⟨m.ZW++js,j,⟨js,aF⟩,aF,aF,hj,h.fr.Z3 _ f hf,h.fr.names _ f hf,hs⟩
theorem Z2.reT (h:Z2 hp p n m dp) (hm:m.ZW=fs++[f]) (hL:∃ js,L=fs++f::js) (hm':m'.ZW=fs++[g])
  (h8:hp' n=some (.row 7 (qz p n (L.set fs.length g))))
  (h9:hp' (.c n fs.length 3)=some (.row 3 (qW g.Z3)))
  (hA:hp' (.c n fs.length 5)=some (.row 3 (qW g.names)))
  (hB:∃ j,hp' (.c n fs.length 6)=some (.row 2 (zn (g.stack++j))))
  (h0:hp' Xn=some (.row 13 [uX p n m' dp']):=by simp [h.top,uX])
  (h1:hp' (.c Xn 0 1)=some (.row 1 (kA Qx p)):=by simp [h.qAZ])
  (h2:hp' (.c Xn 0 2)=some (.row 3 (qW m'.cells)):=by simp [h.cells])
  (h3:hp' (.c Xn 0 3)=some (.row 3 (qW m'.globals)):=by simp [h.Zg])
  (h4:hp' (.c Xn 0 4)=some (.row 2 (aU m'.ZZ)):=by simp [h.ZZ])
  (h5:hp' (.c Xn 0 5)=some (.row 1 (vE m'.ZV)):=by simp [h.Zw])
  (h6:hp' (.c Xn 0 9)=some (.row 1 (qT m'.out)):=by simp [h.out])
  (h7:hp' (.c Xn 0 10)=some (.row 2 (yw m'.trace)):=by simp [h.trc])
  (hC:∀ (i:Nat) (f':Z8),i<fs.length->hp (.c n i 3)=some (.row 3 (qW f'.Z3))->hp' (.c n i 3)=some (.row 3 (qW f'.Z3)):=by intro i f' hi hf;simp [hf,Ke hi,Nat.ne_of_gt hi])
  (hD:∀ (i:Nat) (f':Z8),i<fs.length->hp (.c n i 5)=some (.row 3 (qW f'.names))->hp' (.c n i 5)=some (.row 3 (qW f'.names)):=by intro i f' hi hf;simp [hf,Ke hi,Nat.ne_of_gt hi])
  (hE:∀ (i:Nat) (f':Z8) j,i<fs.length->hp (.c n i 6)=some (.row 2 (zn (f'.stack++j)))->hp' (.c n i 6)=some (.row 2 (zn (f'.stack++j))):=by intro i f' j hi hf;simp [hf,Ke hi,Nat.ne_of_gt hi]):Z2 hp' p n m' dp':=by
 obtain⟨js,rfl⟩:=hL;have hs:(fs++f::js).set fs.length g=m'.ZW++js:=qH;rw [hs] at h8
 have key:∀ (i:Nat) f',m'.ZW[i]?=some f'->(i=fs.length/\f'=g)\/(i<fs.length/\m.ZW[i]?=some f'):=by
  grind
 refine⟨h0,h1,h2,h3,h4,h5,h6,h7,⟨js,h8⟩,λi f' hf=>?_,λi f' hf=>?_,λi f' hf=>?_⟩
 .rcases key i f' hf with⟨rfl,rfl⟩|⟨hi,hf⟩
  .exact h9
  .exact hC i f' hi (h.fr.Z3 i f' hf)
 .rcases key i f' hf with⟨rfl,rfl⟩|⟨hi,hf⟩
  .exact hA
  .exact hD i f' hi (h.fr.names i f' hf)
 .rcases key i f' hf with⟨rfl,rfl⟩|⟨hi,hf⟩
  .exact hB
  .exact (h.fr.stack i f' hf).imp λj hj=>hE i f' j hi hj
def slN (n:Nm) (i:Nat) (o:Int×Int):Nm:=if o.1<=4 then .c n i 3 else if o.1<=7 then .c Xn 0 2 else if o.1<=10 then .c Xn 0 3 else .c n i 5
def slI (f:Z8) (o:Int×Int):Nat:=if o.1<=4 then o.2.toNat else if o.1<=7 then f.cells.getD o.2.toNat 0 else o.2.toNat
def slL (m:Zb) (f:Z8) (o:Int×Int):List Zt:=if o.1<=4 then f.Z3 else if o.1<=7 then m.cells else if o.1<=10 then m.globals else f.names
theorem Tm:ft m f o=uE (slL m f o) (slI f o):=by
 grind[ft,slL,slI]
theorem Z2.slot (h:Z2 hp p n (m.top fs f) dp):hp (slN n fs.length o)=some (.row 3 (qW (slL m f o))):=by
 have hf:(m.top fs f).ZW[fs.length]?=some f:=qB;unfold slN slL
 repeat' split
 .exact h.fr.Z3 _ f hf
 .exact h.cells
 .exact h.Zg
 .exact h.fr.names _ f hf
theorem Z2.qAD (h:Z2 hp p n (m.top fs f) dp) (hn:n=.u 2 0 0) (hh:∀ k,D12 k=true->hp' k=if k=slN n fs.length o then some (.row 3 (qW ((slL m f o).set (slI f o) s))) else hp k):Z2 hp' p n (Hm.qAD m fs f o s) dp:=by
 subst hn;have hf:(m.top fs f).ZW[fs.length]?=some f:=qB;have hX:∀ j,D12 (.c Xn 0 j)=true:=λj=>qB;have hF:∀ i j,D12 (.c (.u 2 0 0) i j)=true:=λi j=>qB;have h00:D12 Xn=true:=qB;have h20:D12 (.u 2 0 0)=true:=qB
 have fr:∀ {g:Z8} (js:List Z8),g.Z1=f.Z1->g.pc=f.pc->g.cells=f.cells->g.Z3.length=f.Z3.length->g.stack=f.stack->qz p (.u 2 0 0) (fs++[g]++js)=qz p (.u 2 0 0) (fs++[f]++js):=by
  intro g js e1 e2 e3 e4 e5;apply wK
  grind[yr,jV,ux]
 have key:∀ {g:Z8} (i:Nat) f',(fs++[g])[i]?=some f'->(i=fs.length/\f'=g)\/(i<fs.length/\(m.top fs f).ZW[i]?=some f'):=by
  grind[Zb.top]
 have hlc:∀ {l:List Zt} {i:Nat},(l.set i s).length=l.length:=qB;unfold Hm.qAD;by_cases c4:o.1<=4
 .have e1:slN (.u 2 0 0) fs.length o=.c (.u 2 0 0) fs.length 3:=by simp [slN,c4]
  have e2:slL m f o=f.Z3:=by simp [slL,c4]
  have e3:slI f o=o.2.toNat:=by simp [slI,c4]
  rw [e1,e2,e3] at hh;rw [if_pos c4];refine⟨?_,?_,?_,?_,?_,?_,?_,?_,?_,λi f' hf'=>?_,λi f' hf'=>?_,λi f' hf'=>?_⟩
  .rw [hh _ h00,h.top];simp_all[uX]
  .grind[qAZ]
  .rw [hh _ (hX 2),h.cells];simp
  .rw [hh _ (hX 3),h.Zg];simp
  .rw [hh _ (hX 4),h.ZZ];simp
  .rw [hh _ (hX 5),h.Zw];simp
  .rw [hh _ (hX 9),h.out];simp
  .rw [hh _ (hX 10),h.trc];simp
  .obtain⟨js,hj⟩:=h.fr.top
   simp_all<;>grind
  .rcases key i f' hf' with⟨rfl,rfl⟩|⟨hi,hf'⟩
   .simp_all
   .rw [hh _ (hF _ _),h.fr.Z3 i f' hf'];grind
  .rcases key i f' hf' with⟨rfl,rfl⟩|⟨hi,hf'⟩
   .rw [hh _ (hF _ _),h.fr.names _ f hf];simp
   .rw [hh _ (hF _ _),h.fr.names i f' hf'];simp
  .rcases key i f' hf' with⟨rfl,rfl⟩|⟨hi,hf'⟩
   .exact (h.fr.stack _ f hf).imp λj hj=>qH
   .exact (h.fr.stack i f' hf').imp λj hj=>qH
 rw [if_neg c4];by_cases c7:o.1<=7
 .have e1:slN (.u 2 0 0) fs.length o=.c Xn 0 2:=by grind[slN]
  have e2:slL m f o=m.cells:=by grind[slL]
  have e3:slI f o=f.cells.getD o.2.toNat 0:=by grind[slI]
  rw [e1,e2,e3] at hh;rw [if_pos c7];refine⟨?_,?_,?_,?_,?_,?_,?_,?_,?_,λi f' hf'=>?_,λi f' hf'=>?_,λi f' hf'=>?_⟩
  .rw [hh _ h00,h.top];simp_all[uX]
  .grind[qAZ]
  .simp_all
  .grind[Zg]
  .grind[ZZ]
  .grind[Zw]
  .grind[out]
  .grind[trc]
  .exact h.fr.top.imp λjs hj=>qH
  .rw [hh _ (hF _ _),h.fr.Z3 i f' hf'];simp
  .rw [hh _ (hF _ _),h.fr.names i f' hf'];simp
  .exact (h.fr.stack i f' hf').imp λj hj=>qH
 rw [if_neg c7];by_cases c10:o.1<=10
 .have e1:slN (.u 2 0 0) fs.length o=.c Xn 0 3:=by grind[slN]
  have e2:slL m f o=m.globals:=by grind[slL]
  have e3:slI f o=o.2.toNat:=by grind[slI]
  rw [e1,e2,e3] at hh;rw [if_pos c10];refine⟨?_,?_,?_,?_,?_,?_,?_,?_,?_,λi f' hf'=>?_,λi f' hf'=>?_,λi f' hf'=>?_⟩
  .rw [hh _ h00,h.top];grind[uX]
  .grind[qAZ]
  .grind[cells]
  .simp_all
  .grind[ZZ]
  .grind[Zw]
  .grind[out]
  .grind[trc]
  .exact h.fr.top.imp λjs hj=>qH
  .rw [hh _ (hF _ _),h.fr.Z3 i f' hf'];simp
  .rw [hh _ (hF _ _),h.fr.names i f' hf'];simp
  .exact (h.fr.stack i f' hf').imp λj hj=>qH
 .have e1:slN (.u 2 0 0) fs.length o=.c (.u 2 0 0) fs.length 5:=by grind[slN]
  have e2:slL m f o=f.names:=by grind[slL]
  have e3:slI f o=o.2.toNat:=by grind[slI]
  rw [e1,e2,e3] at hh;rw [if_neg c10];refine⟨?_,?_,?_,?_,?_,?_,?_,?_,?_,λi f' hf'=>?_,λi f' hf'=>?_,λi f' hf'=>?_⟩
  .rw [hh _ h00,h.top];simp_all[uX]
  .grind[qAZ]
  .rw [hh _ (hX 2),h.cells];simp
  .rw [hh _ (hX 3),h.Zg];simp
  .rw [hh _ (hX 4),h.ZZ];simp
  .rw [hh _ (hX 5),h.Zw];simp
  .rw [hh _ (hX 9),h.out];simp
  .rw [hh _ (hX 10),h.trc];simp
  .obtain⟨js,hj⟩:=h.fr.top
   simp_all<;>grind
  .rcases key i f' hf' with⟨rfl,rfl⟩|⟨hi,hf'⟩
   .rw [hh _ (hF _ _),h.fr.Z3 _ f hf];simp
   .rw [hh _ (hF _ _),h.fr.Z3 i f' hf'];simp
  .rcases key i f' hf' with⟨rfl,rfl⟩|⟨hi,hf'⟩
   .simp_all
   .rw [hh _ (hF _ _),h.fr.names i f' hf'];grind
  .rcases key i f' hf' with⟨rfl,rfl⟩|⟨hi,hf'⟩
   .exact (h.fr.stack _ f hf).imp λj hj=>qH
   .exact (h.fr.stack i f' hf').imp λj hj=>qH
theorem Z2.mvF {n':Nm} (h:Z2 hp p n m dp) (hn:(n=.c Xn 0 6/\n'=.u 2 0 0)\/(n=.u 2 0 0/\n'=.c Xn 0 6)):Z2 (hmv n n' hp) p n' m dp:=by
 rcases hn with⟨rfl,rfl⟩|⟨rfl,rfl⟩ <;>
 .refine⟨?_,?_,?_,?_,?_,?_,?_,?_,?_,λi f' hf'=>?_,λi f' hf'=>?_,λi f' hf'=>?_⟩
  .simp [hmv,Nm.under,mv,h.top,AO.tr,uX,AV.tr,Nm.Zn,nI]
  .simp [hmv,Nm.under,h.qAZ,AO.tr]
  .simp [hmv,Nm.under,h.cells,AO.tr]
  .simp [hmv,Nm.under,h.Zg,AO.tr]
  .simp [hmv,Nm.under,h.ZZ,AO.tr]
  .simp [hmv,Nm.under,h.Zw,AO.tr]
  .simp [hmv,Nm.under,h.out,AO.tr]
  .simp [hmv,Nm.under,h.trc,AO.tr]
  .refine h.fr.top.imp λjs hj=>?_
   simp_all[hmv,AI]
  .simp [hmv,Nm.under,mv,Nm.Zn,h.fr.Z3 i f' hf',AO.tr]
  .simp [hmv,Nm.under,mv,Nm.Zn,h.fr.names i f' hf',AO.tr]
  .exact (h.fr.stack i f' hf').imp λj hj=>by simp_all[hmv]
end
theorem Nm.qAy {k0 k1:Nm}:∀ {k:Nm},Nm.under k0 k=true->Nm.Zn k1 k0 (Nm.Zn k0 k1 k)=k:=by
 have base:∀ k:Nm,k=k0->Nm.Zn k1 k0 (Nm.Zn k0 k1 k)=k:=by
  simp
 intro k
 induction k<;>grind[under,Zn,qAT,qAK]
def wrO (n:Nm) (o:AO) (hp:Nm->Option AO):Nm->Option AO:=λm=>if m=n then some o else hp m
@[simp] theorem wrO_eq {n m:Nm} {o:AO} {hp:Nm->Option AO}:wrO n o hp m=if m=n then some o else hp m:=rfl
def oZ (D:Nm->Bool) (hp' hp:Nm->Option AO):Prop:=∃ F:Nm->Option Nm,(∀ k,D k=true->F k=some k)/\∀ k,D k=true->hp' k=(hp k).map (AO.tr F)
def AZ (D:Nm->Bool) (v:AV) (n:Nm) (o:AO) (H:Nm->Option AO):Nm->AV->(Nm->Option AO)->Prop:=λ_ y H'=>y=v/\∀ k,D k=true->H' k=(wrO n o H k).map (AO.tr (jc D []))
def rtn (D:Nm->Bool) (N V:Nm) (d:Nat) (hp:Nm->Option AO) (m:Nm):Option Nm :=
 if Nm.under N m then (if m=N then some N else none) else if Nm.under V m then none else if Nm.under (.s d) m then none else if D m then (if m.isU&&(hp m).isSome then some m else none) else some m
def St.qBw (st:St) (N V:Nm) (d:Nat) (D:Nm->Bool) (hp':Nm->Option AO):St :=
 { tm:=λt=>(st.tm t).tr (rtn D N V d st.hp),
   hp:=λm=>if D m||Nm.under (.s d) m then hp' m else if Nm.under V m then none else (st.hp m).map (AO.tr (rtn D N V d st.hp)),
   n:=st.n,gl:=st.gl }
section
variable {st:St} {N V m n:Nm} {d t:Nat} {D:Nm->Bool} {hp hp' H':Nm->Option AO}
@[simp] theorem rtn_eq:rtn D N V d hp m=if Nm.under N m then (if m=N then some N else none) else if Nm.under V m then none else if Nm.under (.s d) m then none else if D m then (if m.isU&&(hp m).isSome then some m else none) else some m:=rfl
@[simp] theorem mutn_tm:(st.qBw N V d D hp').tm t=(st.tm t).tr (rtn D N V d st.hp):=rfl
@[simp] theorem mutn_gl:(st.qBw N V d D hp').gl=st.gl:=rfl
@[simp] theorem mutn_hp:(st.qBw N V d D hp').hp m=if D m||Nm.under (.s d) m then hp' m else if Nm.under V m then none else (st.hp m).map (AO.tr (rtn D N V d st.hp)):=rfl
theorem Pg (hV:V.isU=true) (hNV:Nm.under V N=false) (hDN:∀ k,Nm.under N k=true->D k=true) (hDV:∀ k,Nm.under V k=true->D k=false) (hs:(hp N).isSome=true) :
  (λm=>((mv N V m).bind (cf d (λk=>D k||Nm.under V k) (vC (λk=>D k||Nm.under V k) (hmv N V hp)))).bind (mv V N))=rtn D N V d hp:=by
 funext x
 by_cases hx:Nm.under N x=true
 .have hu:Nm.under V (Nm.Zn N V x)=true:=Nm.qAK x hx;have hsd:=po (d:=d) hV hu;by_cases e:x=N<;>simp_all[hmv,F8]
 .simp only [bc] at hx;by_cases hv:Nm.under V x=true
  .simp_all
  .simp only [bc] at hv;by_cases hd:Nm.under (.s d) x=true
   .simp_all
   .simp only [bc] at hd;by_cases hD:D x=true
    .simp [hx,hv,hd,hD,hmv]
     cases hp x <;> cases x.isU <;> simp [hx,hv]
    simp_all
theorem Ma {y:AV} (hV:V.isU=true) (hNV:Nm.under V N=false) (hDN:∀ k,Nm.under N k=true->D k=true) (hDV:∀ k,Nm.under V k=true->D k=false) (hDr:∀ k,D k=true->k.Zi=false) (hs:(st.hp N).isSome=true) (hy:y.tr (mv V N)=y) :
  ∃ q,q=((((st.move N V).call d (λk=>D k||Nm.under V k) (vC (λk=>D k||Nm.under V k) (st.move N V).hp) H').put (some d) y).move V N)/\q=(st.qBw N V d D q.hp).put (some d) y:=by
 refine⟨_,rfl,?_⟩;have hc:=Pg (hp:=st.hp) (d:=d) hV hNV hDN hDV hs
 have e1:∀ a:AV,((a.tr (mv N V)).tr (cf d (λk=>D k||Nm.under V k) (vC (λk=>D k||Nm.under V k) (hmv N V st.hp)))).tr (mv V N)=a.tr (rtn D N V d st.hp):=by
  grind[AV.qAW]
 have e2:∀ o:AO,((o.tr (mv N V)).tr (cf d (λk=>D k||Nm.under V k) (vC (λk=>D k||Nm.under V k) (hmv N V st.hp)))).tr (mv V N)=o.tr (rtn D N V d st.hp):=by
  grind[AO.qAW]
 generalize hq:((((st.move N V).call d (λk=>D k||Nm.under V k) (vC (λk=>D k||Nm.under V k) (st.move N V).hp) H').put (some d) y).move V N)=q
 have h1:q.tm=((st.qBw N V d D q.hp).put (some d) y).tm:=by
  subst hq
  funext t
  simp only [St.move,St.nm,St.put,St.qBw,St.call]
  grind
 have h2:q.hp=((st.qBw N V d D q.hp).put (some d) y).hp:=by
  funext m
  simp only [St.put,St.qBw];by_cases hD:D m=true
  .simp [hD]
  simp only [bc] at hD;by_cases hd:Nm.under (.s d) m=true
  .simp [hd]
  simp only [bc] at hd
  have hN:Nm.under N m=false:=by
   grind
  simp only [hD,hd,Bool.or_false,ak,if_false];subst hq;simp only [St.move,St.nm,St.put,St.call,hmv,hN,ak,if_false];by_cases hv:Nm.under V m=true
  .simp [hv]
  .simp only [bc] at hv;simp only [hv,hD,hd,Bool.or_false,ak,if_false]
   cases hm:st.hp m<;>grind
 have h3:q.n=((st.qBw N V d D q.hp).put (some d) y).n:=by subst hq;rfl
 have h4:q.gl=((st.qBw N V d D q.hp).put (some d) y).gl:=by subst hq;rfl
 cases q<;>grind[St.put]
theorem M8 {o:AO} {y:AV} (hV:V.isU=true) (hNV:Nm.under V N=false) (hDN:∀ k,Nm.under N k=true->D k=true) (hDV:∀ k,Nm.under V k=true->D k=false) (hDn:D n=true) (hNn:Nm.under N n=false)
  (hR:∀ k,(D k||Nm.under V k)=true->H' k=(wrO n (o.tr (mv N V)) (vC (λk=>D k||Nm.under V k) (hmv N V st.hp)) k).map (AO.tr (jc (λk=>D k||Nm.under V k) []))) :
  oZ D ((((st.move N V).call d (λk=>D k||Nm.under V k) (vC (λk=>D k||Nm.under V k) (st.move N V).hp) H').put (some d) y).move V N).hp (wrO n o st.hp):=by
 have hVn:Nm.under V n=false:=by
  grind
 refine⟨λk=>((mv N V k).bind (jc (λk=>D k||Nm.under V k) [])).bind (mv V N),λk hk=>?_,λk hk=>?_⟩
 .grind[Nm.qAK,mv,jc,Nm.qAy]
 .have e2:∀ o:AO,((o.tr (mv N V)).tr (jc (λk=>D k||Nm.under V k) [])).tr (mv V N)=o.tr (λk=>((mv N V k).bind (jc (λk=>D k||Nm.under V k) [])).bind (mv V N)):=by
   grind[AO.qAW]
  by_cases hx:Nm.under N k=true
  .have hu:Nm.under V (Nm.Zn N V k)=true:=Nm.qAK k hx;have hne:¬ Nm.Zn N V k=n:=λe=>qH;have hne2:¬ k=n:=λe=>qH;have hb:=Nm.qAy (k1:=V) hx;have hb2:mv V N (Nm.Zn N V k)=some k:=qH;have hb3:mv N V k=some (Nm.Zn N V k):=qH;have hR1:=hR (Nm.Zn N V k) (by simp [hu]);simp only [wrO,hne,if_false,vC,hu,Bool.or_true,if_true,hmv,hb,hb3] at hR1;simp only [St.move,St.nm,St.put,St.call];simp only [hmv,hx,if_true,hb2,hu,Bool.or_true,E8,hR1,wrO,hne2,if_false]
   cases st.hp k<;>grind
  .simp only [bc] at hx
   have hv:Nm.under V k=false:=by
    grind
   have hR1:=hR k (by simp [hk]);simp only [wrO,vC,hk,E8,if_true,hmv,hx,hv,ak,if_false] at hR1;simp only [St.move,St.nm,St.put,St.call];simp only [hmv,hx,hv,hk,ak,if_false,E8,if_true,hR1,wrO];by_cases e:k=n
   .simp_all
   .simp only [e,if_false]
    cases st.hp k<;>grind
end
section
variable {D:Nm->Bool} {d i off:Nat} {rows:List (List AV)} {vals:List AV} {o:Option AO}
theorem cj {F:Nm->Option Nm}:(qk rows i off vals).map (λr=>r.map (AV.tr F))=qk (rows.map (λr=>r.map (AV.tr F))) i off (vals.map (AV.tr F)):=by
 apply wK
 grind[qk,HQ,List.map_drop]
theorem Rz (hD:∀ k,D k=true->k.Zi=false):(λm=>(kl (.s d) m).bind (jc D []))=jc D []:=by
 funext m
 by_cases h:Nm.under (.s d) m=true
 .have h1:=Nm.qAM (a:=.s d) rfl h
  have h2:D m=false:=by
   grind
  simp_all
 simp_all
theorem NY (hD:∀ k,D k=true->k.Zi=false) {a:AV}:(a.tr (kl (.s d))).tr (jc D [])=a.tr (jc D []):=by rw [AV.qAW,Rz hD]
theorem NW (hD:∀ k,D k=true->k.Zi=false):(o.map (AO.tr (kl (.s d)))).map (AO.tr (jc D []))=o.map (AO.tr (jc D [])):=by
 cases o with
 | none=>rfl
 | some o=>simp only [kv,AO.qAW,Rz hD]
theorem NV (hD:∀ k,D k=true->k.Zi=false):(rows.map (λr=>r.map (AV.tr (kl (.s d))))).map (λr=>r.map (AV.tr (jc D [])))=rows.map (λr=>r.map (AV.tr (jc D []))):=by
 simp_all[NY]
theorem Ql {b:Nat} (hD:∀ k,D k=true->k.Zi=false):(rows.map ((λr=>r.map (AV.tr (kl (.s b))))∘λr=>r.map (AV.tr (kl (.s d))))).map (λr=>r.map (AV.tr (jc D [])))=rows.map (λr=>r.map (AV.tr (jc D []))):=by
 rw [<- xA,NV hD,NV hD]
theorem D_s (hD:∀ k,D k=true->k.Zi=false) {q:Nm} (hq:D q=true) (d:Nat):¬ q=.s d/\Nm.under (.s d) q=false:=by
 have h:Nm.under (.s d) q=false:=by
  cases h:Nm.under (.s d) q with
  | false=>rfl
  | true=>have:=Nm.qAM (a:=.s d) rfl h;simp_all
 refine⟨λe=>?_,h⟩
 simp_all
end
section
variable {X:Ctx} {st:St} {K:St->Prop} {E:AV->St->Prop} {d f:Nat} {ty:TypeId} {pos:String} {aft:Array Edge} {g:Option (Nat×Bool)} {args:Array Operand} {Ts:Array TypeId} {az:List AV}
theorem Hd (D:Nm->Bool) (N V n:Nm) (o:AO) (v:AV) (hV:V.isU=true:=by rfl) (hN:N.isU=false:=by rfl) (hVe:X.ext V=false) (hDr:∀ k,D k=true->k.Zi=false) (hNV:Nm.under V N=false) (hDN:∀ k,Nm.under N k=true->D k=true) (hDV:∀ k,Nm.under V k=true->D k=false) (hs:(st.hp N).isSome=true)
  (hext:∀ k i j,X.ext (.u k i j)=true->D (.u k i j)=false\/st.hp (.u k i j)≠none) (hDn:D n=true) (hNn:Nm.under N n=false) (hv:v.tr (mv V N)=v) (hd:d<X.n:=by first|(simp;done)|fail)
  (ha:args.toList.map (ev (st.move N V))=az:=by simp [fx];first|done|rfl)
  (hF:Zj X.P X.gl f (λk=>D k||Nm.under V k) az (vC (λk=>D k||Nm.under V k) (hmv N V st.hp)) (AZ (λk=>D k||Nm.under V k) v n (o.tr (mv N V)) (vC (λk=>D k||Nm.under V k) (hmv N V st.hp))) noE)
  (h:∀ hp',oZ D hp' (wrO n o st.hp)->K ((st.qBw N V d D hp').put (some d) v)) :
  qS X ⟨some d,.call ⟨.value (.func f),args,Ts⟩,ty,pos,aft,g⟩ K E st:=by
 refine pI N V (.inl hN) (.inr hVe) (yP V N (.inr hVe) (.inl hN) ?_);refine lq (λk=>D k||Nm.under V k) (λk hk=>?_) (λk i j he=>?_) hd ha hF ?_
 .grind[qR]
 .by_cases hD:D (.u k i j)=true
  .right;rcases hext k i j he with h|h
   .simp_all
   .have hn:Nm.under N (.u k i j)=false:=by grind[Nm.isU,Nm.under]
    have hv:Nm.under V (.u k i j)=false:=by
     grind
    simp_all
  grind[Nm.under]
 .rintro y H' ⟨rfl,hR⟩;obtain⟨q,hq,e⟩:=Ma (d:=d) (H':=H') (st:=st) hV hNV hDN hDV hDr hs hv
  grind[M8]
end
section
variable {hp hp':Nm->Option AO} {p:Z0} {n:Nm} {m m':Zb} {dp dp' i k:Nat} {fs L:List Z8} {f g:Z8} {o:Int×Int} {s:Zt} {rows:List (List AV)} {j:List Zd}
theorem Z2.same (h:Z2 hp p n m dp) (hn:Nm.under Xn n=true\/n=.u 2 0 0) (hs:oZ D12 hp' hp):Z2 hp' p n m dp:=by
 obtain⟨F,h1,h2⟩:=hs;exact h.Zn hn h1 h2
theorem rE (h:f.stack.length=k+1):f.stack=f.pop.stack++[f.tos]:=by
 have hne:f.stack≠[]:=λe=>qH
 grind[Z8.pop,Z8.tos,RL]
theorem uG (h:f.stack.length=k+1):(f.stack++j)[k]?=some f.tos:=by
 have h1:=rE h
 simp_all
theorem aw (h:f.stack.length=k+1):f.pop.stack.length=k:=by simp [Z8.pop,h]
theorem Z2.qAp (h:Z2 hp p (.u 2 0 0) (m.top fs f) dp) (hr:hp (.u 2 0 0)=some (.row 7 rows)) (hk:f.stack.length=k+1):Z2 (wrO (.u 2 0 0) (.row 7 (qk rows fs.length 6 [.hs (.c (.u 2 0 0) fs.length 6) 2 0 k])) hp) p (.u 2 0 0) (m.top fs f.pop) dp:=by
 obtain⟨L,j,hL,hat,hlt,hF,h3,h5,h6⟩:=h.qAj rfl
 obtain rfl:rows=qz p (.u 2 0 0) L:=by
  simp_all
 have hs:qk (qz p (.u 2 0 0) L) fs.length 6 [.hs (.c (.u 2 0 0) fs.length 6) 2 0 k]=qz p (.u 2 0 0) (L.set fs.length f.pop):=sZ hat (by simp [jV,Z8.pop,hk,ux]);rw [hs];refine h.reT rfl hL (g:=f.pop) rfl qB (by simp [h3,Z8.pop]) (by simp [h5,Z8.pop]) ⟨[f.tos]++j,?_⟩ (h0:=by simp [h.top,uX,Zb.top]) (h2:=by simp [h.cells,Zb.top]) (h3:=by simp [h.Zg,Zb.top]) (h4:=by simp [h.ZZ,Zb.top]) (h5:=by simp [h.Zw,Zb.top]) (h6:=by simp [h.out,Zb.top]) (h7:=by simp [h.trc,Zb.top]);have e:=rE hk
 simp_all
end
section
variable {p:Z0} {m:Zb} {fs:List Z8} {f:Z8} {o:Int×Int}
structure qDG (m:Zb) (f:Z8) (o:Int×Int):Prop where
 arg:0<=o.2/\o.2<=1000
 lt:slI f o<(slL m f o).length
 cell:5<=o.1->o.1<=7->f.cells[o.2.toNat]?=some (slI f o)
theorem qDG.of (hM:MOk p m fs f) (hO:qC3 p f.Z1 o) (hc:2<=o.1/\o.1<=13):qDG m f o:=by
 have h1:=hM.top.fl;have h2:=hM.top.cl;have h3:=hM.top.nm.1;have h4:=hM.Zg.1;have h5:=hO.arg;have h6:=hO.qEW hc.1;have h7:=hO.cell;have h8:=hO.name
 have key:5<=o.1->o.1<=7->f.cells[o.2.toNat]?=some (slI f o):=by
  grind[slI]
 refine⟨h5,?_,key⟩;unfold slL;by_cases c4:o.1<=4
 .grind[slI]
 by_cases c7:o.1<=7
 .have:=hM.top.cr _ (gM (key qA c7))
  grind
 grind[slI]
variable {hp:Nm->Option AO} {dp k:Nat} {N:Nm}
def Z8.look (f:Z8):Nat×List Zt×List Nat×List Zt:=(f.Z1,f.Z3,f.cells,f.names)
def Or (hp:Nm->Option AO) (p:Z0) (n:Nm) (m:Zb) (dp:Nat):Prop:=∃ fr,((m.en=0->fr=m.ZW)/\fr.map Z8.look=m.ZW.map Z8.look)/\Z2 hp p n { m with ZW:=fr } dp
theorem Z2.qBd {n:Nm} (h:Z2 hp p n m dp):Or hp p n m dp:=⟨m.ZW,⟨λ_=>rfl,rfl⟩,h⟩
def D9:Nm->Bool:=λk=>D12 k||Nm.under (.u 9 0 0) k
theorem UO {q:Nm} (h:D9 q=true):q.Zi=false:=by
 rcases Kf _ _ ▸ h with h|h
 .exact zG h
 .exact qR rfl h
theorem Z2.qB7 (h:Z2 hp p (.u 2 0 0) (m.top fs f) dp) (hk:f.stack.length=k+1) (h1:Nm.under N (.u 2 0 0)=false) (h2:Nm.under N (.c (.u 2 0 0) fs.length 6)=false):∃ (rows rows':List (List AV)) (a0 a1 a2 a3 a4 a5:AV) (vs:List Zd),hp (.u 2 0 0)=some (.row 7 rows)/\(vC D9 (hmv N (.u 9 0 0) hp)) (.u 2 0 0)=some (.row 7 rows')/\rows'[fs.length]?=some [a0,a1,a2,a3,a4,a5,.hs (.c (.u 2 0 0) fs.length 6) 2 0 (k+1)]/\(vC D9 (hmv N (.u 9 0 0) hp)) (.c (.u 2 0 0) fs.length 6)=some (.row 2 (zn vs))/\vs[k]?=some f.tos /\
  (AO.row 7 (qk rows fs.length 6 [.hs (.c (.u 2 0 0) fs.length 6) 2 0 k])).tr (mv N (.u 9 0 0))=.row 7 (qk rows' fs.length 6 [.hs (.c (.u 2 0 0) fs.length 6) 2 0 k]):=by
 obtain⟨L,j,hL,hat,hlt,hF,h3,h5,h6⟩:=h.qAj rfl;have hm:mv N (.u 9 0 0) (.c (.u 2 0 0) fs.length 6)=some (.c (.u 2 0 0) fs.length 6):=qH;have he:∀ q,(AV.hs (.c (.u 2 0 0) fs.length 6) 2 0 q).tr (mv N (.u 9 0 0))=.hs (.c (.u 2 0 0) fs.length 6) 2 0 q:=λq=>qH;refine⟨qz p (.u 2 0 0) L,(qz p (.u 2 0 0) L).map λr=>r.map (AV.tr (mv N (.u 9 0 0))),(iv f.Z1).tr (mv N (.u 9 0 0)),(iv f.pc).tr (mv N (.u 9 0 0)),(iv (ux p f)).tr (mv N (.u 9 0 0)),(AV.hs (.c (.u 2 0 0) fs.length 3) 3 0 f.Z3.length).tr (mv N (.u 9 0 0)),(isl (jN f.cells)).tr (mv N (.u 9 0 0)),(AV.hs (.c (.u 2 0 0) fs.length 5) 3 0 8).tr (mv N (.u 9 0 0)),f.stack++j,hF,?_,?_,?_,uG hk,?_⟩
 .simp_all[D9,hmv]
 .simp_all[jV]
 .simp_all[D9,hmv]
 simp_all[cj]
theorem Z2.take (h:Z2 hp p (.u 2 0 0) (m.top fs f) dp) (hk:f.stack.length=k+1):∃ (rows:List (List AV)) (a0 a1 a2 a3 a4 a5:AV) (vs:List Zd),hp (.u 2 0 0)=some (.row 7 rows)/\(vC D12 hp) (.u 2 0 0)=some (.row 7 rows)/\rows[fs.length]?=some [a0,a1,a2,a3,a4,a5,.hs (.c (.u 2 0 0) fs.length 6) 2 0 (k+1)]/\(vC D12 hp) (.c (.u 2 0 0) fs.length 6)=some (.row 2 (zn vs))/\vs[k]?=some f.tos:=by
 obtain⟨L,j,hL,hat,hlt,hF,h3,h5,h6⟩:=h.qAj rfl;refine⟨qz p (.u 2 0 0) L,iv f.Z1,iv f.pc,iv (ux p f),.hs (.c (.u 2 0 0) fs.length 3) 3 0 f.Z3.length,isl (jN f.cells),.hs (.c (.u 2 0 0) fs.length 5) 3 0 8,f.stack++j,hF,dR,?_,j3,uG hk⟩
 simp_all[jV]
theorem Z2.taken {H':Nm->Option AO} {r:Nm} {y v:AV} {rows:List (List AV)} (h:Z2 hp p (.u 2 0 0) (m.top fs f) dp) (hr:hp (.u 2 0 0)=some (.row 7 rows)) (hk:f.stack.length=k+1) (hw:AZ D12 v (.u 2 0 0) (.row 7 (qk rows fs.length 6 [.hs (.c (.u 2 0 0) fs.length 6) 2 0 k])) (vC D12 hp) r y H'):Z2 H' p (.u 2 0 0) (m.top fs f.pop) dp:=by
 refine (h.qAp hr hk).Zn (f:=jc D12 []) (.inr rfl) (λq hq=>qH) λq hq=>?_;rw [hw.2 q hq]
 simp_all
theorem Og (h1:hp Xn≠none) (h2:hp (.u 2 0 0)≠none) (k i j:Nat):D12 (.u k i j)=false\/hp (.u k i j)≠none:=by
 grind[A2,Nm.under]
theorem WW {q:Nm} (h:Nm.under (.u 9 0 0) q=true):D12 q=false:=by
 induction q<;>simp_all
theorem Z2.qCs {hp':Nm->Option AO} {n:Nm} (h:Z2 hp p n m dp) (hn:Nm.under Xn n=true\/n=.u 2 0 0) (hh:∀ q,D12 q=true->hp' q=hp q):Z2 hp' p n m dp:=by
 refine h.Zn hn (f:=some) (λ_ _=>rfl) λq hq=>?_;rw [hh q hq]
 cases hp q<;>grind[AO.Zr]
theorem Z2.cut {hp':Nm->Option AO} {n:Nm} (h:Z2 hp p n m dp) (hm:m.ZW=fs++[f])
  (h0:hp' Xn=some (.row 13 [uX p n { m with ZW:=fs } dp]))
  (hh:∀ q,q≠Xn->D12 q=true->hp' q=hp q) (hn:n=.u 2 0 0):Z2 hp' p n { m with ZW:=fs } dp:=by
 subst hn;have hX:∀ j,hp' (.c Xn 0 j)=hp (.c Xn 0 j):=λj=>hh _ qB qB;have hF:∀ i j,hp' (.c (.u 2 0 0) i j)=hp (.c (.u 2 0 0) i j):=λi j=>hh _ qB qB
 have hf:∀ (i:Nat) g,fs[i]?=some g->m.ZW[i]?=some g:=λi g hg=>by
  grind
 refine⟨h0,by grind[qAZ],by grind[cells],by grind[Zg],by grind[ZZ],by grind[Zw],by grind[out],by grind[trc],?_,λi g hg=>?_,λi g hg=>?_,λi g hg=>?_⟩
 .obtain⟨js,hj⟩:=h.fr.top;refine⟨f::js,?_⟩
  simp_all
 .rw [hF];exact h.fr.Z3 i g (hf i g hg)
 .rw [hF];exact h.fr.names i g (hf i g hg)
 .exact (h.fr.stack i g (hf i g hg)).imp λj hj=>qH
theorem Z2.qDb {hp':Nm->Option AO} {e:Int} {n:Nm} (h:Z2 hp p n m dp) (hn:n=.u 2 0 0) (hh:∀ q,D12 q=true->hp' q=if q=Xn then some (.row 13 [uX p n { m with en:=e } dp]) else hp q):Z2 hp' p n { m with en:=e } dp:=by
 subst hn;have h2:Z2 (λq=>if q=Xn then some (.row 13 [uX p (.u 2 0 0) { m with en:=e } dp]) else hp q) p (.u 2 0 0) { m with en:=e } dp:=Z2.re h (h0:=qB) (h1:=by simp [h.qAZ]) (h2:=by simp [h.cells]) (h3:=by simp [h.Zg]) (h4:=by simp [h.ZZ]) (h5:=by simp [h.Zw]) (h6:=by simp [h.out]) (h7:=by simp [h.trc]) (h8:=h.fr.re);exact h2.qCs (.inr rfl) hh
structure SlN (N:Nm):Prop where
 isU:N.isU=false
 D:∀ k,Nm.under N k=true->D12 k=true
 u9:Nm.under (.u 9 0 0) N=false
 u2:Nm.under N (.u 2 0 0)=false
 x:Nm.under N Xn=false
 st:∀ i,Nm.under N (.c (.u 2 0 0) i 6)=false
 s:∀ d,Nm.under (.s d) N=false/\N≠.s d
 b:∃ b,Nm.under (.u 1 0 0) N=b/\Nm.under (.u 2 0 0) N=!b
theorem Uz {i:Nat}:SlN (slN (.u 2 0 0) i o):=by
 unfold slN
 repeat' split
 all_goals refine⟨rfl,λk hk=>?_,qB,qB,qB,qB,qB,qB⟩
 .have:=Nm.qAJ (a:=.u 2 0 0) qB hk;simp [this]
 .have:=Nm.qAJ (a:=.u 1 0 0) qB hk;simp [this]
 .have:=Nm.qAJ (a:=.u 1 0 0) qB hk;simp [this]
 .have:=Nm.qAJ (a:=.u 2 0 0) qB hk;simp [this]
end
end Go.Hm
end
