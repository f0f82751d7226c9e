/-
  Own texts, joined by mkclaim.py: Hm27, Hm28, Hm29, Hm30, Hm31, Hm32, Hm33.
-/
import Derived.Test.YtbgmnmnoaamgkaaGreatDoorD08
import Derived.Below
set_option linter.unusedSimpArgs false
set_option linter.unusedVariables false
set_option maxRecDepth 100000
set_option maxHeartbeats 4000000

section
namespace Go.Hm
open Go Go.RowKit
def jN (n:Nm) (p:Prg):List (List AV):=p.mapIdx (fun i k=>[iv k.kind,iv k.parent,.hs (.c n i 2) 1 0 k.params.length,.hs (.c n i 3) 4 0 k.body.length])
structure OwnP (hp:Nm→Option AO) (n:Nm) (p:Prg):Prop where
 top:hp n=some (.row 4 (jN n p))
 params:∀ (i:Nat) k,p[i]?=some k→hp (.c n i 2)=some (.row 1 (qJ k.params))
 body:∀ (i:Nat) k,p[i]?=some k→hp (.c n i 3)=some (.row 4 (zb k.body))
section
variable {p:Prg} {i a b d l:Nat} {n q k1:Nm} {k:Blk}
@[simp] theorem pRows_len:(jN n p).length=p.length:=by simp [jN]
@[simp] theorem kU:(jN n p)[i]?=(p[i]?).map (fun k=>[iv k.kind,iv k.parent,.hs (.c n i 2) 1 0 k.params.length,.hs (.c n i 3) 4 0 k.body.length]):=by simp [jN]
@[simp] theorem pRows_getE {h:i<(jN n p).length}:(jN n p)[i]=[iv (p[i]'(by simpa using h)).kind,iv (p[i]'(by simpa using h)).parent,.hs (.c n i 2) 1 0 (p[i]'(by simpa using h)).params.length,.hs (.c n i 3) 4 0 (p[i]'(by simpa using h)).body.length]:=by simp [jN]
@[simp] theorem pRows_nil:jN n []=[]:=rfl
@[simp] theorem pRows_take:(jN n p).take p.length=jN n p:=List.take_of_length_le (by simp)
theorem qGJ:jN n (p++[k])=jN n p++[[iv k.kind,iv k.parent,.hs (.c n p.length 2) 1 0 k.params.length,.hs (.c n p.length 3) 4 0 k.body.length]]:=by simp [jN]
theorem zO {f:Nm→Option Nm} {m:Nm} (h:∀ i j,i<p.length→f (.c n i j)=some (.c m i j)):(jN n p).map (fun r=>r.map (AV.tr f))=jN m p:=by
 apply List.ext_getElem?
 intro i
 simp only [List.getElem?_map,kU,Option.map_map]
 cases hx:p[i]? with
 | none=>rfl
 | some x=>simp [h i _ (gS hx).1]
@[simp] theorem pRows_kl (h:Nm.under (.s d) n=false):(jN n p).map (fun r=>r.map (AV.tr (kl (.s d))))=jN n p:=zO (by simp [h])
@[simp] theorem pRows_mv2 (h:Nm.under (.s a) n=false) (h':Nm.under (.s b) n=false):(jN n p).map (fun r=>r.map (AV.tr (mv (.s a) (.s b))))=jN n p:=zO (by simp [h,h'])
@[simp] theorem pRows_mv3 (h:Nm.under (.s a) n=false) (hq:(q=n)=False) (hq':Nm.under (.c q b l) n=false):(jN n p).map (fun r=>r.map (AV.tr (mv (.s a) (.c q b l))))=jN n p:=by
 have:¬ n=q:=fun e=>by simp [e] at hq
 exact zO (by simp [h,hq',this])
@[simp] theorem pRows_mvc:(jN n p).map (fun r=>r.map (AV.tr (mvc n k1)))=jN k1 p:=by
 refine zO fun i j _=>?_
 have:Nm.c n i j≠n:=Nm.not_under_c (Nm.under_self n)
 simp [this]
@[simp] theorem pRows_mv4 {j:Nat} (hq:(q=n)=False) (hq':Nm.under (.c q a b) n=false) (hl:p.length≤l):(jN n p).map (fun r=>r.map (AV.tr (mv (.c q a b) (.c n l j))))=jN n p:=by
 have h1:¬ n=q:=fun e=>by simp [e] at hq
 have h2:Nm.under (.c n l j) n=false:=by
  cases h:Nm.under (.c n l j) n with
  | false=>rfl
  | true=>exact absurd rfl (Nm.under_not_c h).2
 refine zO fun i j hi=>?_
 have h3:¬ i=l:=by omega
 simp [h1,hq',h2,h3]
end
theorem uq {hp:Nm→Option AO} {n:Nm} {len:Nat} {p:Prg} (h:OwnP hp n p) (hl:len=p.length):Bw hp noD (.hs n 4 0 len) (ksl p):=by
 subst hl
 refine .hs n 4 0 p.length (jN n p) (qBD p) rfl h.top (by simp) (by simp) (by simp [qBD]) fun i r r' hr hr' j a a' ha ha'=>?_
 rw [Nat.zero_add,kU] at hr
 rw [qLc] at hr'
 obtain⟨x,hx,rfl⟩:=Option.map_eq_some_iff.1 hr
 rw [hx] at hr'
 obtain rfl:=sI hr'
 match j,ha,ha' with
 | 0,ha,ha'=>obtain rfl:=sI ha;obtain rfl:=sI ha';exact .refl _
 | 1,ha,ha'=>obtain rfl:=sI ha;obtain rfl:=sI ha';exact .refl _
 | 2,ha,ha'=>obtain rfl:=sI ha;obtain rfl:=sI ha';exact yw (h.params i x hx) rfl
 | 3,ha,ha'=>obtain rfl:=sI ha;obtain rfl:=sI ha';exact qFI (h.body i x hx) rfl
 | j+4,ha,_=>simp at ha
theorem ut {hp:Nm→Option AO} {x y:AV} (h:Bw hp noD x y):Bw hp noD (.agg [x]) (.agg [y]):=by
 refine .agg [x] [y] rfl fun j a a' ha ha'=>?_
 cases j with
 | zero=>obtain rfl:=sI ha;obtain rfl:=sI ha';exact h
 | succ j=>simp at ha
theorem OwnP.hcln {H':Nm→Option AO} {n:Nm} {p:Prg} (h:OwnP H' n p):OwnP (hcln H') n p:=by
 refine⟨vA h.top ?_,fun i k hk=>vA (h.params i k hk) (by simp),fun i k hk=>vA (h.body i k hk) (by simp)⟩
 simp only [jN,List.all_eq_true]
 intro r hr
 obtain⟨i,hi⟩:=List.getElem?_of_mem hr
 rw [List.getElem?_mapIdx] at hi
 obtain⟨x,_,rfl⟩:=Option.map_eq_some_iff.1 hi
 simp
def setBody (p:Prg) (i:Nat) (L:List Stm):Prg:=p.modify i (fun k=>{ k with body:=L })
@[simp] theorem z8 {p:Prg} {i:Nat} {L:List Stm}:(setBody p i L).length=p.length:=by simp [setBody]
theorem jM {p:Prg} {i j:Nat} {L:List Stm} {k:Blk} (h:p[j]?=some k):(setBody p i L)[j]?=some (if i=j then { k with body:=L } else k):=by
 simp only [setBody,List.getElem?_modify,h]
 by_cases e:i=j <;> simp [e]
theorem kT {n:Nm} {a i len:Nat} {p:Prg} {L:List Stm} (hl:len=L.length) (hn:Nm.under (.s a) n=false) (hn':Nm.under (.c n i 3) n=false) :
  (qa (jN n p) i 3 [.hs (.s a) 4 0 len]).map (fun r=>r.map (AV.tr (mv (.s a) (.c n i 3))))=jN n (setBody p i L):=by
 subst hl
 apply List.ext_getElem?
 intro j
 simp only [qa,List.getElem?_map,List.getElem?_modify,kU]
 cases hx:p[j]? with
 | none =>
  have:(setBody p i L)[j]?=none:=by
   rw [List.getElem?_eq_none_iff,z8]
   exact List.getElem?_eq_none_iff.1 hx
  simp [this]
 | some x =>
  rw [jM hx]
  by_cases e:i=j
  ·subst e
   simp [hn,hn']
  ·have e':¬ j=i:=fun h=>e h.symm
   simp [hn,hn',e,e']
theorem qYi {X:Ctx} {st:St} {K:St→Prop} {ds:List (Option Nat)} {l:List Oper} {i j e:Nat} {want t:Bool} {r:Sch} {dst:Option Nat} {op:Op} {ty:TypeId} {pos:String} {aft:Array Edge} (_ho:l[i]?=some ⟨dst,op,ty,pos,aft,some (j,want)⟩) (_hj:ds[j]?=some (some e)) (ht:st.tm e=.sc (.bool t))
  (h1:t=true→yW X l ds K (.q i r) (st.put (some e) (.sc (.bool true)))) (h2:t=false→yW X l ds K (.q i r) (st.put (some e) (.sc (.bool false)))):yW X l ds K (.q i r) st:=qYh e ht h1 h2
end Go.Hm
end
section
namespace Go.Hm
open Go Go.RowKit
theorem fx0:Nm.under (.s 0) (.s 0)=true:=Nm.under_self _
theorem zU {x y:Int}:(x != y)=!(x==y):=rfl
section
variable {X:Ctx} {st:St} {K:St→Prop} {E:AV→St→Prop} {ds:List (Option Nat)} {l:List Oper}
variable {d:Nat} {ty:TypeId} {pos:String} {aft:Array Edge} {g:Option (Nat×Bool)} {st' st1:St}
theorem x_q {op:Op} {z:AV} (hd:d<X.n:=by first|(simp;done)|fail) (hz:qev X.P st ⟨some d,op,ty,pos,aft,g⟩=some z:=by simp [fx];first|done|rfl|exact (Bool.not_not _).symm) (h:K (st.put (some d) z)):qK X ⟨some d,op,ty,pos,aft,g⟩ K E st:=o_q hd hz h
theorem qG {x:Operand} (hd:d<X.n:=by first|(simp;done)|fail) (hs:qHn X.P ty d (ev st x) st=st':=by simp [fx];first|done|rfl|exact (Bool.not_not _).symm) (h:K st'):qK X ⟨some d,.assign x,ty,pos,aft,g⟩ K E st:=qOP hd hs h
theorem zp {T:TypeId} {x:Operand} {cs:List AV} (hd:d<X.n:=by first|(simp;done)|fail) (hq:(ev st x).cells=some cs:=by simp [fx];first|done|rfl|exact (Bool.not_not _).symm) (hz:cs.length=tsz X.P T:=by first|(simp [fx];done)|fail)
  (hs:wx X.P T d cs st=st':=by simp [fx];first|done|rfl|exact (Bool.not_not _).symm) (h:K st'):qK X ⟨some d,.box T x,ty,pos,aft,g⟩ K E st:=qXT hd hq hz hs h
theorem zk {T:TypeId} {zs:List AV} (hd:d<X.n:=by first|(simp;done)|fail) (hq:jg X.P T=some zs:=by simp [fx];first|done|rfl|exact (Bool.not_not _).symm) (hs:wx X.P T d zs st=st':=by simp [fx];first|done|rfl|exact (Bool.not_not _).symm) (h:K st'):qK X ⟨some d,.alloc T,ty,pos,aft,g⟩ K E st:=qRV hd hq hs h
theorem qp {T:TypeId} {p x:Operand} {n:Nm} {z i off:Nat} {v0:List AV} {rows:List (List AV)} (hT:(X.P.info? T).isSome=true:=by first|(simp [fx];done)|fail) (hv0:(ev st x).cells=some v0:=by simp [fx];first|done|rfl|exact (Bool.not_not _).symm)
  (hnil:v0.all (fun x=>!qn x)=true:=by first|(simp [fx];done)|fail) (hlen:v0.length=tsz X.P T:=by first|(simp [fx];done)|fail)
  (hp:pl (ev st p)=some (n,i,off):=by simp [fx];first|done|rfl|exact⟨rfl,rfl⟩|exact⟨rfl,rfl,rfl⟩) (hrows:wO st (ev st p)=some (z,rows):=by simp [fx];first|done|rfl|exact⟨rfl,rfl⟩|exact⟨rfl,rfl,rfl⟩)
  (hi:i<rows.length:=by first|(simp [fx];done)|(simp [fx];omega)|omega) (hoff:off+v0.length≤z:=by first|(simp [fx];done)|(simp [fx];omega)|omega)
  (hs:canon (prs (fun j=>.c n i (off+j)) 0 v0) (st.setO n (.row z (qa rows i off v0)))=st':=by simp [fx];first|done|rfl|exact (Bool.not_not _).symm) (h:K st') :
  qK X ⟨none,.store T p x,ty,pos,aft,g⟩ K E st:=qOM hT hv0 hnil hlen hp hrows hi hoff hs h
theorem jn {T:TypeId} {p x:Operand} {n:Nm} {z i off:Nat} {v0 v1:List AV} {rows:List (List AV)} (hT:(X.P.info? T).isSome=true:=by first|(simp [fx];done)|fail) (hv0:(ev st x).cells=some v0:=by simp [fx];first|done|rfl|exact (Bool.not_not _).symm)
  (hlen:v0.length=tsz X.P T:=by first|(simp [fx];done)|fail)
  (hp:pl (ev st p)=some (n,i,off):=by simp [fx];first|done|rfl|exact⟨rfl,rfl⟩|exact⟨rfl,rfl,rfl⟩) (hk:qDE X.P T n i off v0 st=st1:=by simp [fx];first|done|rfl|exact (Bool.not_not _).symm)
  (hp1:pl (ev st1 p)=some (n,i,off):=by simp [fx];first|done|rfl|exact⟨rfl,rfl⟩|exact⟨rfl,rfl,rfl⟩) (hv1:(ev st1 x).cells=some v1:=by simp [fx];first|done|rfl|exact (Bool.not_not _).symm)
  (hsame:v1.map qn=v0.map qn:=by first|(simp [fx];done)|fail) (hrows:wO st1 (ev st1 p)=some (z,rows):=by simp [fx];first|done|rfl|exact⟨rfl,rfl⟩|exact⟨rfl,rfl,rfl⟩)
  (hi:i<rows.length:=by first|(simp [fx];done)|(simp [fx];omega)|omega) (hoff:off+v1.length≤z:=by first|(simp [fx];done)|(simp [fx];omega)|omega)
  (hs:qEC n z i off rows (qK1 X.P T n i off v1) st1=st':=by simp [fx];first|done|rfl|exact (Bool.not_not _).symm) (h:K st'):qK X ⟨none,.store T p x,ty,pos,aft,g⟩ K E st:=qRS hT hv0 hlen hp hk hp1 hv1 hsame hrows hi hoff hs h
theorem jA {T F:TypeId} {s x:Operand} {z:Nat} {rows2:List (List AV)} (hd:d<X.n:=by first|(simp;done)|fail) (hT:uw X.P T=some F:=by simp [fx];first|done|rfl) (hz:tsz X.P F=z:=by simp [fx];first|done|rfl) (hs:ev st s=.sc (.slice none 0 0):=by first|(simp [fx];done)|fail)
  (hx:yD st z (ev st x)=some rows2:=by simp [fx];first|done|rfl) (hlen:rows2.length≤4294967296:=by first|(simp [fx];done)|(simp [fx];omega)|omega)
  (hq:qDQ d z rows2.length none rows2 st=st':=by simp [fx];first|done|rfl|exact (Bool.not_not _).symm) (h:K st'):qK X ⟨some d,.call ⟨.builtin .append,#[s,x],#[T,T]⟩,ty,pos,aft,g⟩ K E st:=qLH hd hT hz hs hx hlen hq h
theorem jP {T F:TypeId} {s x:Operand} {z len:Nat} {n:Nm} {rows0 rows2:List (List AV)} (hd:d<X.n:=by first|(simp;done)|fail) (hT:uw X.P T=some F:=by simp [fx];first|done|rfl) (hz:tsz X.P F=z:=by simp [fx];first|done|rfl) (hs:ev st s=.hs n z 0 len:=by simp [fx];first|done|rfl|exact⟨rfl,rfl⟩|exact⟨rfl,rfl,rfl⟩)
  (hn:st.hp n=some (.row z rows0):=by simp [fx];first|done|rfl) (hle:len≤rows0.length:=by first|(simp [fx];done)|(simp [fx];omega)|omega)
  (hx:yD st z (ev st x)=some rows2:=by simp [fx];first|done|rfl) (hlen:len+rows2.length≤4294967296:=by first|(simp [fx];done)|(simp [fx];omega)|omega)
  (hq:qDQ d z (len+rows2.length) (some n) (rows0.take len++rows2) st=st':=by simp [fx];first|done|rfl|exact (Bool.not_not _).symm) (h:K st'):qK X ⟨some d,.call ⟨.builtin .append,#[s,x],#[T,T]⟩,ty,pos,aft,g⟩ K E st:=qOQ hd hT hz hs hn hle hx hlen hq h
theorem qKT {T F:TypeId} {s x:Operand} {z len:Nat} {n:Nm} {rows0 rows2:List (List AV)} (hd:d<X.n:=by first|(simp;done)|fail) (hT:uw X.P T=some F:=by simp [fx];first|done|rfl) (hz:tsz X.P F=z:=by simp [fx];first|done|rfl) (hs:ev st s=.hs n z 0 len:=by simp [fx];first|done|rfl|exact⟨rfl,rfl⟩|exact⟨rfl,rfl,rfl⟩)
  (hn:st.hp n=some (.row z rows0):=by simp [fx];first|done|rfl) (hle:len≤rows0.length:=by first|(simp [fx];done)|(simp [fx];omega)|omega)
  (hx:yD st z (ev st x)=some rows2:=by simp [fx];first|done|rfl) (hlen:len+rows2.length≤4294967296:=by first|(simp [fx];done)|(simp [fx];omega)|omega)
  (hq:Hm.canon (qNy (.s d) len rows2) ((qDQ d z (len+rows2.length) (some n) (rows0.take len++rows2) st).mvc n (.s d))=st':=by simp [fx];first|done|rfl|exact (Bool.not_not _).symm) (h:K st') :
  qK X ⟨some d,.call ⟨.builtin .append,#[s,x],#[T,T]⟩,ty,pos,aft,g⟩ K E st:=qGO hd hT hz hs hn hle hx hlen hq h
theorem qBy {T F:TypeId} {x y:Operand} {ln z:Nat} {k k':IntKind} {zv:List AV} (hd:d<X.n:=by first|(simp;done)|fail) (hx:ev st x=.sc (.int k ln):=by simp [fx];first|done|rfl|exact⟨rfl,rfl⟩) (hy:ev st y=.sc (.int k' ln):=by simp [fx];first|done|rfl|exact⟨rfl,rfl⟩)
  (hE:uw X.P T=some F:=by simp [fx];first|done|rfl) (hz:tsz X.P F=z:=by simp [fx];first|done|rfl) (hzv:jg X.P F=some zv:=by simp [fx];first|done|rfl) (hl:ln≤4294967296:=by first|(simp [fx];done)|(simp [fx];omega)|omega)
  (hq:qUZ d z ln zv st=st':=by simp [fx];first|done|rfl|exact (Bool.not_not _).symm) (h:K st'):qK X ⟨some d,.makeSlice T x y,ty,pos,aft,g⟩ K E st:=qUY hd hx hy hE hz hzv hl hq h
theorem jp {T F:TypeId} {len z:Nat} {parts:Array (Nat×Operand)} {rows:List (List AV)} (hd:d<X.n:=by first|(simp;done)|fail) (hE:uw X.P T=some F:=by simp [fx];first|done|rfl) (hz:tsz X.P F=z:=by simp [fx];first|done|rfl) (hrows:kN st parts.toList=some rows:=by simp [fx];first|done|rfl)
  (c1:parts.toList.map (·.1)=List.range len:=by decide) (c2:len * z≤16777216:=by decide) (c3:rows.all (fun r=>r.length==z)=true:=by first|(simp [fx];done)|fail)
  (hs:qOu X.P F d z rows st=st':=by simp [fx];first|done|rfl|exact (Bool.not_not _).symm) (h:K st'):qK X ⟨some d,.buildSlice T len parts,ty,pos,aft,g⟩ K E st:=qRU hd hE hz hrows c1 c2 c3 hs h
section
variable {f:Nat} {args:Array Operand} {Ts:Array TypeId} {az avs:List AV}
theorem qM {x:AV} (hd:d<X.n:=by first|(simp;done)|fail) (ha:args.toList.map (ev st)=avs:=by simp [fx];first|done|rfl|exact (Bool.not_not _).symm)
  (hB:BwL st.hp noD avs az:=by
    first
    | ((repeat' (first|exact .nil|refine .cons ?_ ?_|exact .refl _|exact yw (by simp [fx];first|done|rfl) (by first|(simp [fx];done)|(simp [fx];omega)|omega)|exact ur (by simp [fx];first|done|rfl) (by first|(simp [fx];done)|(simp [fx];omega)|omega) (by first|(simp;done)|fail)));done)
    | fail)
  (hF:qV X.P X.gl f az (fun _ y _=>y=x)) (hc:x.cln=true:=by first|(simp [fx];done)|fail) (h:K ((st.kill (.s d)).put (some d) x)) :
  qK X ⟨some d,.call ⟨.value (.func f),args,Ts⟩,ty,pos,aft,g⟩ K E st:=qPW hd ha hB hF hc h
theorem jK {z n:Nat} {rows:List (List AV)} (hd:d<X.n:=by first|(simp;done)|fail) (ha:args.toList.map (ev st)=avs:=by simp [fx];first|done|rfl|exact (Bool.not_not _).symm)
  (hB:BwL st.hp noD avs az:=by
    first
    | ((repeat' (first|exact .nil|refine .cons ?_ ?_|exact .refl _|exact yw (by simp [fx];first|done|rfl) (by first|(simp [fx];done)|(simp [fx];omega)|omega)|exact ur (by simp [fx];first|done|rfl) (by first|(simp [fx];done)|(simp [fx];omega)|omega) (by first|(simp;done)|fail)));done)
    | fail)
  (hF:qV X.P X.gl f az (fun r y H'=>y=.hs r z 0 n∧H' r=some (.row z rows))) (hc:rows.all (fun r=>r.all AV.cln)=true:=by first|(simp;done)|fail)
  (h:K (((st.kill (.s d)).setO (.s d) (.row z rows)).put (some d) (.hs (.s d) z 0 n))):qK X ⟨some d,.call ⟨.value (.func f),args,Ts⟩,ty,pos,aft,g⟩ K E st:=qLG hd ha hB hF hc h
end
end
section
variable {X:Ctx} {st:St} {K:St→Prop} {E:AV→St→Prop} {ds:List (Option Nat)} {l:List Oper} {dst:Option Nat} {op:Op} {ty:TypeId} {pos:String} {aft:Array Edge} {i j e:Nat} {want:Bool} {v:AV}
theorem q6 (hj:ds[j]?=some (some e):=by rfl) (ht:st.tm e=v:=by simp [fx];first|done|rfl|exact (Bool.not_not _).symm) (h:Gx X ds K E l st dst op ty pos aft j want e v):wT X ds K E (⟨dst,op,ty,pos,aft,some (j,want)⟩::l) st:=qQk hj ht h
theorem uz (hn:∀ e,dst=some e→e<X.n:=by first|(simp;done)|fail) (h:wT X ds K E l (st.put dst (.sc undef))):Gx X ds K E l st dst op ty pos aft j true e (.sc (.bool false)):=qXh hn h
theorem qAC (hn:∀ e,dst=some e→e<X.n:=by first|(simp;done)|fail) (h:wT X ds K E l (st.put dst (.sc undef))):Gx X ds K E l st dst op ty pos aft j false e (.sc (.bool true)):=qXi hn h
theorem x_u (hn:∀ e,dst=some e→e<X.n:=by first|(simp;done)|fail) (h:wT X ds K E l (st.put dst (.sc undef))):Gx X ds K E l st dst op ty pos aft j want e (.sc undef):=qY6 hn h
theorem qR {c:Operand} {x y:Code} {Q:Ex→St→Prop} (ht:ev st c=.sc (.bool true):=by first|(simp [fx];done)|fail) (h1:qW X x Q st):qW X (.cond c x y) Q st:=qMm h1 ht
theorem qg {c:Operand} {x y:Code} {Q:Ex→St→Prop} (ht:ev st c=.sc (.bool false):=by first|(simp [fx];done)|fail) (h1:qW X y Q st):qW X (.cond c x y) Q st:=qMn h1 ht
theorem qAF {c:Nat} {x y:Code} {Q:Ex→St→Prop} {t:Bool} (ht:st.tm c=.sc (.bool t):=by simp [fx];first|done|rfl|exact (Bool.not_not _).symm) (h1:t=true→qW X x Q (st.put (some c) (.sc (.bool true)))) (h2:t=false→qW X y Q (st.put (some c) (.sc (.bool false)))):qW X (.cond (.tmp c) x y) Q st:=ub ht h1 h2
theorem qKR {d:Nat} {r:Sch} {z:AV} (ho:l[i]?=some ⟨some d,op,ty,pos,aft,none⟩:=by rfl) (hd:d<X.n:=by first|(simp;done)|fail) (hz:qev X.P st ⟨some d,op,ty,pos,aft,none⟩=some z:=by simp [fx];first|done|rfl|exact (Bool.not_not _).symm) (h:yW X l ds K r (st.put (some d) z)):yW X l ds K (.q i r) st:=a_q ho hd hz h
theorem qDv {d:Nat} {r:Sch} {z:AV} (ho:l[i]?=some ⟨some d,op,ty,pos,aft,some (j,want)⟩:=by rfl) (hj:ds[j]?=some (some e):=by rfl) (ht:st.tm e=.sc (.bool want):=by first|(simp [fx];done)|fail) (hd:d<X.n:=by first|(simp;done)|fail)
  (hz:qev X.P st ⟨some d,op,ty,pos,aft,some (j,want)⟩=some z:=by simp [fx];first|done|rfl|exact (Bool.not_not _).symm) (h:yW X l ds K r (st.put (some d) z)):yW X l ds K (.q i r) st:=qYf ho hj ht hd hz h
theorem qDw {d:Nat} {r:Sch} (ho:l[i]?=some ⟨some d,op,ty,pos,aft,some (j,want)⟩:=by rfl) (hj:ds[j]?=some (some e):=by rfl) (ht:st.tm e=.sc (.bool (!want)):=by first|(simp [fx];done)|fail) (hd:d<X.n:=by first|(simp;done)|fail)
  (h:yW X l ds K r (st.put (some d) (.sc undef))):yW X l ds K (.q i r) st:=qYg ho hj ht hd h
theorem qDu {d:Nat} {r:Sch} (ho:l[i]?=some ⟨some d,op,ty,pos,aft,some (j,want)⟩:=by rfl) (hj:ds[j]?=some (some e):=by rfl) (ht:st.tm e=.sc undef:=by first|(simp [fx];done)|fail) (hd:d<X.n:=by first|(simp;done)|fail)
  (h:yW X l ds K r (st.put (some d) (.sc undef))):yW X l ds K (.q i r) st:=qYe ho hj ht hd h
theorem qDx {t:Bool} {r:Sch} (ho:l[i]?=some ⟨dst,op,ty,pos,aft,some (j,want)⟩:=by rfl) (hj:ds[j]?=some (some e):=by rfl) (ht:st.tm e=.sc (.bool t):=by simp [fx];first|done|rfl|exact (Bool.not_not _).symm)
  (h1:t=true→yW X l ds K (.q i r) (st.put (some e) (.sc (.bool true)))) (h2:t=false→yW X l ds K (.q i r) (st.put (some e) (.sc (.bool false)))):yW X l ds K (.q i r) st:=qYi ho hj ht h1 h2
theorem qBw {q:Nat} {ps:List Nat} {o:Oper} (ho:l[q]?=some o:=by rfl) (h1:qFe X ds o st:=by first|(simp [qFe,fx];done)|(simp [qFe,undef,fx];done)|fail) (h2:kI X l ds ps st):kI X l ds (q::ps) st:=qQd ho h1 h2
end
def mkN (ss:List Stm) (b:Int):Nat:=(ss.filter (fun s=>qAz s b)).length
def kf (p:Prg) (b:Int):Nat→Nat
 | 0=>0
 | n+1=>kf p b n+(match p[n]? with|some q=>mkN q.body b|none=>0)
theorem qPY (ss:List Stm) (b:Int):mkN ss b≤ss.length:=List.length_filter_le _ _
theorem qEg {ss:List Stm} {b:Int} {j:Nat} {s:Stm} (h:ss[j]?=some s):mkN (ss.take (j+1)) b=mkN (ss.take j) b+(if qAz s b then 1 else 0):=by
 simp only [mkN]
 rw [qy h]
 split <;> simp
theorem qI8 {p:Prg} {b:Int} {m:Nat} (h:∀ q∈p,q.body.length≤m):∀ n,kf p b n≤n * m
 | 0=>by simp [kf]
 | n+1=>by
  have:=qI8 (b:=b) h n
  simp only [kf,Nat.add_mul]
  cases hq:p[n]? with
  | none=>simp;omega
  | some q =>
   have h1:=qPY q.body b
   have h2:=h q (gM hq)
   simp
   omega
def uX (p:Prg) (ss:List Stm) (n:Nat):List Int:=(List.range 7).map (fun k:Nat=>((kf p k n+mkN ss k:Nat):Int))
theorem qGU {p:Prg} {ss:List Stm} {n k:Nat} (h:k<7):(uX p ss n)[k]?=some ((kf p k n+mkN ss k:Nat):Int):=by
 simp [uX,h]
theorem qLW {p:Prg} {ss:List Stm} {n j k:Nat} {s:Stm} (hs:ss[j]?=some s) (hk:s.a=k) (hm:s.kind=3∨s.kind=4) (h7:k<7) :
  (uX p (ss.take j) n).set k (((kf p k n+mkN (ss.take j) k:Nat):Int)+1)=uX p (ss.take (j+1)) n:=by
 apply List.ext_getElem?
 intro i
 simp only [uX,List.getElem?_set,List.length_map,List.length_range,List.getElem?_map]
 by_cases hi:k=i
 ·subst hi
  have:qAz s k=true:=by simp [qAz,hm,hk]
  simp [h7,qEg hs,this]
  omega
 ·rw [if_neg hi]
  by_cases h:i<7
  ·have:qAz s i=false:=by
    simp only [qAz,hk,Bool.and_eq_false_iff]
    right
    simp
    omega
   simp [h,qEg hs,this]
  ·simp [h]
theorem qJg {p:Prg} {ss:List Stm} {n j:Nat} {s:Stm} (hs:ss[j]?=some s) (hm:¬ (s.kind=3∨s.kind=4)):uX p (ss.take (j+1)) n=uX p (ss.take j) n:=by
 simp only [uX]
 apply List.map_congr_left
 intro k _
 have:qAz s k=false:=by
  simp only [not_or] at hm
  simp [qAz,hm]
 simp [qEg hs,this]
theorem qJh {p:Prg} {n:Nat} {q:Blk} (h:p[n]?=some q):uX p q.body n=uX p [] (n+1):=by
 simp [uX,kf,h,mkN]
theorem qI9 {p:Prg} {b:Nat} {k:Blk} (hp:z6 p) (hk:p[b]?=some k) (hv:∀ (i:Nat) q,p[i]?=some q→∀ s∈q.body,zo p i q s=true) (hpar:0≤k.parent):∀ n,n≤p.length→(kf p b n:Int)=if k.parent<n then vQ p b else 0
 | 0,_=>by simp [kf];omega
 | n+1,hn=>by
  have ih:=qI9 hp hk hv hpar n (by omega)
  obtain⟨q,hq⟩:∃ q,p[n]?=some q:=⟨_,gE (by omega)⟩
  simp only [kf,hq]
  by_cases e:k.parent=n
  ·have h1:¬ k.parent<n:=by omega
   rw [if_neg h1] at ih
   rw [if_pos (by omega)]
   have h2:kf p b n=0:=by omega
   simp [vQ,hk,e,hq,h2,mkN]
  ·have h0:mkN q.body b=0:=by
    simp only [mkN,List.length_eq_zero_iff,List.filter_eq_nil_iff]
    intro s hs hm
    have hok:=hv n q hq s hs
    simp only [qAz,Bool.and_eq_true,Bool.or_eq_true,beq_iff_eq] at hm
    obtain⟨hkind,ha⟩:=hm
    have key:∀ d,vF p n s.a d=true→False:=by
     intro d hd
     simp only [vF,ha,Int.toNat_natCast,hk,Bool.and_eq_true,beq_iff_eq] at hd
     exact e hd.2.2
    rcases hkind with h3|h4
    ·simp [zo,h3] at hok
     exact key 1 hok.2.2
    ·simp [zo,h4] at hok
     exact key 2 hok.2.2
   rw [h0]
   simp only [Nat.add_zero,ih]
   by_cases h1:k.parent<n
   ·rw [if_pos h1,if_pos (by omega)]
   ·rw [if_neg h1,if_neg (by omega)]
theorem qOT {p:Prg} {b:Nat} {k:Blk} (hp:z6 p) (hk:p[b]?=some k) (hv:∀ (i:Nat) q,p[i]?=some q→∀ s∈q.body,zo p i q s=true) (hpar:0≤k.parent):(kf p b p.length:Int)=vQ p b:=by
 have hb:=(gS hk).1
 have:=(hp b k hk).2.1
 rw [qI9 hp hk hv hpar _ (Nat.le_refl _),if_pos (by omega)]
@[simp] theorem tr_comp_iv {f:Nm→Option Nm}:AV.tr f∘iv=iv:=rfl
theorem qU1 {A:List Int} {a:Nat} {v:Int} (h:a<A.length):(A.map iv).take a++iv v::(A.map iv).drop (a+1)=(A.set a v).map iv:=by
 rw [List.set_eq_take_append_cons_drop,if_pos h]
 simp
end Go.Hm
end
section
namespace Go.Hm
open Go Go.RowKit
def jQ (l:List Int):List AV:=(List.range 8).map (fun x:Nat=>bv (decide ((x:Int)∈l)))
section
variable {l l':List Int} {f:Nm→Option Nm} {x:Nat}
@[simp] theorem bset_len:(jQ l).length=8:=by simp [jQ]
theorem wD (h:x<8):(jQ l)[x]?=some (bv (decide ((x:Int)∈l))):=by simp [jQ,h]
@[simp] theorem bset_map:(jQ l).map (AV.tr f)=jQ l:=by simp [jQ]
@[simp] theorem bset_take:(jQ l).take 8=jQ l:=List.take_of_length_le (by simp)
@[simp] theorem bset_one:(jQ l).all AV.one=true:=by simp [jQ]
@[simp] theorem bset_cln:(jQ l).all AV.cln=true:=by simp [jQ]
@[simp] theorem qBr:(jQ l).all (fun x=>!qn x)=true:=by simp [jQ]
theorem qE7 {key:Nat→Nm}:∀ {v:List AV} {j:Nat},(∀ x∈v,sNm x=none)→prs key j v=[]
 | [],_,_=>rfl
 | x::l,j,h=>by
  rw [qIW,h x (by simp)]
  exact qE7 fun y hy=>h y (by simp [hy])
@[simp] theorem bset_prs {key:Nat→Nm} {j:Nat}:prs key j (jQ l)=[]:=qE7 (by simp [jQ])
@[simp] theorem bset_nk {key:Nat→Nm} {es:List Nat} {j:Nat}:qr key es j (jQ l)=[]:=kX qBr
@[simp] theorem bset_zcs {key:Nat→Nm} {es:List Nat} {j:Nat}:zcs key es j (jQ l)=jQ l:=qDr qBr
theorem qKD (h:∀ x:Int,0≤x→x≤7→(x∈l↔x∈l')):jQ l=jQ l':=by
 simp only [jQ]
 apply List.map_congr_left
 intro x hx
 have hx:=List.mem_range.1 hx
 have:=h x (by omega) (by omega)
 simp [this]
theorem uu:jQ (sorted l)=jQ l:=qKD fun x h1 h2=>by rw [mem_sorted];exact⟨fun h=>h.1,fun h=>⟨h,h1,h2⟩⟩
theorem uE {y:Int} (hy:y=x) (h:x<8):(jQ l).take x++bv true::(jQ l).drop (x+1)=jQ (l++[y]):=by
 subst hy
 apply List.ext_getElem?
 intro i
 have hl:x<(jQ l).length:=by simp;omega
 have vJ:=List.set_eq_take_append_cons_drop (l:=jQ l) (i:=x) (a:=bv true)
 rw [if_pos hl] at vJ
 rw [← vJ]
 simp only [jQ,List.getElem?_set,List.length_map,List.length_range,List.getElem?_map]
 by_cases e:x=i
 ·subst e
  simp [h]
 ·rw [if_neg e]
  by_cases hi:i<8
  ·have:¬ (i:Int)=x:=by omega
   simp [hi,this]
  ·simp [hi]
end
section
variable {X:Ctx} {st:St} {K:St→Prop} {E:AV→St→Prop}
theorem qKe {o:Oper} {f:FuncId} {az avs:List AV} {R:Nm→AV→(Nm→Option AO)→Prop} {d:Nat} (hEnt:Ent X.P st o f avs) (hd:o.dst=some d) (hn:d<X.n) (hF:qV X.P X.gl f az R)
  (hB:BwL st.hp noD avs az) (hK:∀ x H',R (.s d) x H'→K ((st.call d noD noH (hcln H')).put (some d) (qMh x))):qK X o K E st:=by
 refine qAb (D:=noD) (H:=noH) (R:=R) hF hEnt true hB (fun _ _=>rfl) (fun n h=>by cases h) (fun n h=>absurd rfl h) (fun k i j _=>.inl rfl) (fun e he=>by rw [hd] at he;obtain rfl:=sI he;exact hn) ?_ (fun _ _ h=>h.elim)
 intro x H' hR
 rw [hd] at hR ⊢
 exact hK x H' hR
def qVP (P:Program) (gl:Nat→Option (List AV)) (name:String) (x:AV) (R:Nm→AV→(Nm→Option AO)→Prop):Prop:=∃ t y f,x=.ifc t y∧qI6 P t name=some f∧qV P gl f [y] R
variable {d:Nat} {ty:TypeId} {pos:String} {aft:Array Edge} {g:Option (Nat×Bool)} {c:Operand} {name:String} {Ts:Array TypeId} {x:AV}
theorem qPO {z n:Nat} {rows:List (List AV)} (hd:d<X.n:=by first|(simp;done)|fail) (hv:ev st c=x:=by simp [fx];first|done|rfl) (hF:qVP X.P X.gl name x (fun r y H'=>y=.hs r z 0 n∧H' r=some (.row z rows))) (hc:rows.all (fun r=>r.all AV.cln)=true:=by first|(simp;done)|fail)
  (h:K (((st.kill (.s d)).setO (.s d) (.row z rows)).put (some d) (.hs (.s d) z 0 n))):qK X ⟨some d,.call ⟨.invoke c name,#[],Ts⟩,ty,pos,aft,g⟩ K E st:=by
 obtain⟨t,y,f,rfl,hm,hF⟩:=hF
 refine (qK.weak (qKe (K:=fun s=>∃ H',s=(st.call d noD noH H').put (some d) (.hs (.s d) z 0 n)∧H' (.s d)=some (.row z rows)) (qRf hF.1 rfl hv hm) rfl hd hF (.cons (.refl _) .nil) ?_) ?_)
 ·rintro y H' ⟨rfl,e⟩
  exact⟨_,rfl,by simp [hcln,e,AO.cln,hc]⟩
 ·rintro s ⟨H',rfl,e'⟩
  refine⟨((st.kill (.s d)).setO (.s d) (.row z rows)).hp,fun m ob e=>?_,?_⟩
  ·simp only [St.kill,St.nm,hkl,St.setO] at e
   simp only [St.put,St.call,St.nm]
   split at e
   ·rename_i hm
    subst hm
    simp [e',e]
   ·split at e
    ·cases e
    ·rename_i hu
     simp [hu,noD,qAa,e]
  ·simpa only [St.put,St.call,St.nm,St.kill,St.setO,qAa] using h
end
section
variable {l:List Int} {r:List AV} {n:Nat}
@[simp] theorem bset_takeN:(jQ l++r).take (n+8)=jQ l++r.take n:=by
 have:n+8=(jQ l).length+n:=by simp;omega
 rw [this,List.take_length_add_append]
@[simp] theorem bset_dropN:(jQ l++r).drop (n+8)=r.drop n:=by
 have:n+8=(jQ l).length+n:=by simp;omega
 rw [this,List.drop_length_add_append]
theorem vB {j:Nat}:(jQ l++r)[8+j]?=r[j]?:=by rw [List.getElem?_append_right (by simp)];simp
theorem qAd {j:Nat} (h:j<8):(jQ l++r)[j]?=some (bv (decide ((j:Int)∈l))):=by rw [List.getElem?_append_left (by simpa using h),wD h]
@[simp] theorem bset_drop8':(jQ l).drop 8=[]:=by simp
theorem qD7 {key:Nat→Nm}:∀ {v u:List AV} {j:Nat},(∀ x∈v,sNm x=none)→prs key j (v++u)=prs key (j+v.length) u
 | [],u,j,_=>by simp
 | x::l,u,j,h=>by
  rw [List.cons_append,qIW,h x (by simp)]
  simp only
  rw [qD7 fun y hy=>h y (by simp [hy])]
  congr 1
  simp
  omega
@[simp] theorem bset_prsA {key:Nat→Nm} {j:Nat}:prs key j (jQ l++r)=prs key (j+8) r:=by
 have:=qD7 (key:=key) (v:=jQ l) (u:=r) (j:=j) (by simp [jQ])
 simpa using this
theorem wQ {key:Nat→Nm} {es:List Nat}:∀ {v u:List AV} {j:Nat},v.all (fun x=>!qn x)=true→qr key es j (v++u)=qr key es (j+v.length) u
 | [],u,j,_=>by simp
 | x::l,u,j,h=>by
  simp only [List.all_cons,Bool.and_eq_true,Bool.not_eq_true'] at h
  rw [List.cons_append,qRW,h.1]
  simp only [Bool.false_eq_true,if_false]
  rw [wQ h.2]
  congr 1
  simp
  omega
@[simp] theorem bset_nkA {key:Nat→Nm} {es:List Nat} {j:Nat}:qr key es j (jQ l++r)=qr key es (j+8) r:=by
 have:=wQ (key:=key) (es:=es) (v:=jQ l) (u:=r) (j:=j) qBr
 simpa using this
theorem qDT {key:Nat→Nm} {es:List Nat}:∀ {v u:List AV} {j:Nat},v.all (fun x=>!qn x)=true→zcs key es j (v++u)=v++zcs key es (j+v.length) u
 | [],u,j,_=>by simp
 | x::l,u,j,h=>by
  simp only [List.all_cons,Bool.and_eq_true,Bool.not_eq_true'] at h
  rw [List.cons_append,qMc,h.1]
  simp only [Bool.false_eq_true,if_false]
  rw [qDT h.2]
  simp
  congr 1
  omega
@[simp] theorem bset_zcsA {key:Nat→Nm} {es:List Nat} {j:Nat}:zcs key es j (jQ l++r)=jQ l++zcs key es (j+8) r:=by
 have:=qDT (key:=key) (es:=es) (v:=jQ l) (u:=r) (j:=j) qBr
 simpa using this
end
def qZ (i:Nat) (k:Blk) (o:AV) (ps:List Int):List AV:=iv i::iv k.kind::o::(jQ ps++(jQ k.rd++(jQ k.bd++(jQ (k.dc 9)++jQ (k.dc 10)))))
section
variable {i x:Nat} {k:Blk} {o o':AV} {ps:List Int} {f:Nm→Option Nm}
@[simp] theorem scopeRow_len:(qZ i k o ps).length=43:=by simp [qZ]
@[simp] theorem scopeRow_tr:(qZ i k o ps).map (AV.tr f)=qZ i k (o.tr f) ps:=by simp [qZ]
@[simp] theorem scopeRow_0:(qZ i k o ps)[0]=iv i:=rfl
@[simp] theorem scopeRow_1:(qZ i k o ps)[1]=iv k.kind:=rfl
@[simp] theorem scopeRow_2:(qZ i k o ps)[2]=o:=rfl
theorem qJQ (h:x<8):(qZ i k o ps)[3+x]?=some (bv (decide ((x:Int)∈ps))):=by
 rw [qZ,Nat.add_comm]
 simp only [List.getElem?_cons_succ]
 rw [qAd h]
theorem qJP (h:x<8):(qZ i k o ps)[11+x]?=some (bv (decide ((x:Int)∈k.rd))):=by
 have:11+x=8+x+3:=by omega
 rw [qZ,this]
 simp only [List.getElem?_cons_succ]
 rw [vB,qAd h]
theorem qD2 (h:x<8):(qZ i k o ps)[19+x]?=some (bv (decide ((x:Int)∈k.bd))):=by
 have:19+x=8+(8+x)+3:=by omega
 rw [qZ,this]
 simp only [List.getElem?_cons_succ]
 rw [vB,vB,qAd h]
theorem ky (h:x<8):(qZ i k o ps)[27+x]?=some (bv (decide ((x:Int)∈k.dc 9))):=by
 have:27+x=8+(8+(8+x))+3:=by omega
 rw [qZ,this]
 simp only [List.getElem?_cons_succ]
 rw [vB,vB,vB,qAd h]
theorem qD1 (h:x<8):(qZ i k o ps)[35+x]?=some (bv (decide ((x:Int)∈k.dc 10))):=by
 have:35+x=8+(8+(8+(8+x)))+3:=by omega
 rw [qZ,this]
 simp only [List.getElem?_cons_succ]
 rw [vB,vB,vB,vB,wD h]
theorem qEL {y:Int} (hy:y=x) (h:x<8):(qZ i k o ps).take (3+x)++bv true::(qZ i k o ps).drop (3+x+1)=qZ i k o (ps++[y]):=by
 have e1:3+x=x+3:=by omega
 have e2:3+x+1=(x+1)+3:=by omega
 rw [e2,e1]
 simp only [qZ,List.take_succ_cons,List.drop_succ_cons,List.cons_append]
 rw [List.take_append_of_le_length (by simp;omega),List.drop_append_of_le_length (by simp;omega),← uE hy h]
 simp
theorem qEK:(qZ i k o ps).take 2++o'::(qZ i k o ps).drop 3=qZ i k o' ps:=rfl
end
def qFT:AV:=.sc (.pointer none)
@[simp] theorem nilP_tr {f:Nm→Option Nm}:qFT.tr f=qFT:=rfl
def vr (n:Nm) (len i:Nat):List (List AV):=(List.range len).map (fun j=>[if j<i then AV.pt (.c n j 0) 0 else qFT])
def qEb (n:Nm) (j:Int):AV:=if j<0 then qFT else .pt (.c n j.toNat 0) 0
structure OwnS (hp:Nm→Option AO) (n:Nm) (p:Prg) (i:Nat):Prop where
 top:hp n=some (.row 1 (vr n p.length i))
 sc:∀ (j:Nat) k,j<i→p[j]?=some k→hp (.c n j 0)=some (.row 43 [qZ j k (qEb n k.parent) k.params])
section
variable {n m:Nm} {len i j:Nat} {f:Nm→Option Nm}
@[simp] theorem sRows_len:(vr n len i).length=len:=by simp [vr]
theorem uU (h:j<len):(vr n len i)[j]?=some [if j<i then AV.pt (.c n j 0) 0 else qFT]:=by simp [vr,h]
theorem qBo (h:∀ j,j<i→f (.c n j 0)=some (.c m j 0)):(vr n len i).map (fun r=>r.map (AV.tr f))=vr m len i:=by
 simp only [vr,List.map_map]
 apply List.map_congr_left
 intro j _
 by_cases e:j<i
 ·simp [e,h j e]
 ·simp [e]
theorem qFj {a:Nat} (hn:Nm.under (.s a) n=false) (hn':Nm.under (.c n i 0) n=false):(qa (vr n len i) i 0 [.pt (.s a) 0]).map (fun r=>r.map (AV.tr (mv (.s a) (.c n i 0))))=vr n len (i+1):=by
 apply List.ext_getElem?
 intro j
 simp only [qa,List.getElem?_map,List.getElem?_modify]
 by_cases hj:j<len
 ·rw [uU hj,uU hj]
  by_cases e:i=j
  ·subst e
   simp
  ·by_cases e2:j<i
   ·have e3:j<i+1:=by omega
    have e4:¬ j=i:=by omega
    simp [e,e2,e3,hn,hn',e4]
   ·have e3:¬ j<i+1:=by omega
    simp [e,e2,e3]
 ·have h1:(vr n len i)[j]?=none:=List.getElem?_eq_none (by simp;omega)
  have h2:(vr n len (i+1))[j]?=none:=List.getElem?_eq_none (by simp;omega)
  simp [h1,h2]
@[simp] theorem sRows_kl {d:Nat} (h:Nm.under (.s d) n=false):(vr n len i).map (fun r=>r.map (AV.tr (kl (.s d))))=vr n len i:=qBo (by simp [h])
@[simp] theorem sRows_mv1 {a:Nat} {k1:Nm} (h:Nm.under (.s a) n=true):(vr n len i).map (fun r=>r.map (AV.tr (mv (.s a) k1)))=vr (Nm.ren (.s a) k1 n) len i:=qBo (by simp [h])
@[simp] theorem sRows_mv2 {a b:Nat} (h:Nm.under (.s a) n=false) (h':Nm.under (.s b) n=false):(vr n len i).map (fun r=>r.map (AV.tr (mv (.s a) (.s b))))=vr n len i:=qBo (by simp [h,h'])
theorem qC4 {q:Int} (h:0≤q→f (.c n q.toNat 0)=some (.c m q.toNat 0)):(qEb n q).tr f=qEb m q:=by
 unfold qEb
 split
 ·rfl
 ·simp [h (by omega)]
@[simp] theorem outP_kl {d:Nat} {q:Int} (h:Nm.under (.s d) n=false):(qEb n q).tr (kl (.s d))=qEb n q:=qC4 (by simp [h])
@[simp] theorem outP_mv1 {a:Nat} {k1:Nm} {q:Int} (h:Nm.under (.s a) n=true):(qEb n q).tr (mv (.s a) k1)=qEb (Nm.ren (.s a) k1 n) q:=qC4 (by simp [h])
@[simp] theorem outP_mv2 {a b:Nat} {q:Int} (h:Nm.under (.s a) n=false) (h':Nm.under (.s b) n=false):(qEb n q).tr (mv (.s a) (.s b))=qEb n q:=qC4 (by simp [h,h'])
theorem qOJ {a:Nat} {q:Int} (h:Nm.under (.s a) n=false) (h':Nm.under (.c n i 0) n=false) (hq:q<i):(qEb n q).tr (mv (.s a) (.c n i 0))=qEb n q:=qC4 (fun _=>by
 have:¬ q.toNat=i:=by omega
 simp [h,h',this])
theorem qOH {q:Int} (h:q<0):qEb n q=qFT:=by simp [qEb,h]
theorem qOI {q:Nat}:qEb n q=.pt (.c n q 0) 0:=by
 have:¬ (q:Int)<0:=by omega
 simp [qEb,this]
theorem qJR:List.replicate len [qFT]=vr n len 0:=by
 apply List.ext_getElem?
 intro j
 by_cases hj:j<len
 ·rw [uU hj]
  simp [hj]
 ·rw [List.getElem?_eq_none (by simp;omega),List.getElem?_eq_none (by simp;omega)]
end
def vP (p:Prg):Nat→Int→AV
 | 0,_=>qFT
 | n+1,j=>if j<0 then qFT else match p[j.toNat]? with
  | none=>qFT
  | some k=>.el (qZ j.toNat k (vP p n k.parent) k.params) 0
theorem qCK {p:Prg} (hp:z6 p):∀ (n m:Nat) (j:Int),j<n→j<m→vP p n j=vP p m j
 | 0,0,_,_,_=>rfl
 | 0,m+1,j,h,_=>by simp only [vP];rw [if_pos (by omega)]
 | n+1,0,j,_,h=>by simp only [vP];rw [if_pos (by omega)]
 | n+1,m+1,j,h1,h2=>by
  simp only [vP]
  split
  ·rfl
  ·split
   ·rfl
   ·rename_i k hk
    obtain⟨h3,h4,_⟩:=hp j.toNat k hk
    rw [qCK hp n m k.parent (by omega) (by omega)]
theorem qFi {p:Prg} {f:Nm→Option Nm}:∀ (n:Nat) (j:Int),(vP p n j).tr f=vP p n j
 | 0,_=>rfl
 | n+1,j=>by
  simp only [vP]
  split
  ·rfl
  ·split
   ·rfl
   ·simp [qFi n]
def zW (p:Prg) (j:Int):AV:=vP p p.length j
@[simp] theorem scopeA_tr {p:Prg} {j:Int} {f:Nm→Option Nm}:(zW p j).tr f=zW p j:=qFi _ _
theorem jG {p:Prg} {j:Nat} {k:Blk} (hp:z6 p) (hk:p[j]?=some k):zW p j=.el (qZ j k (zW p k.parent) k.params) 0:=by
 have hj:j<p.length:=(gS hk).1
 obtain⟨h1,h2,_⟩:=hp j k hk
 obtain⟨n,hn⟩:∃ n,p.length=n+1:=⟨p.length - 1,by omega⟩
 have e:vP p n k.parent=vP p (n+1) k.parent:=qCK hp _ _ _ (by omega) (by omega)
 unfold zW
 rw [hn,← e]
 conv=>lhs;rw [vP]
 rw [if_neg (by omega)]
 simp [hk]
theorem qAn {p:Prg} {j:Int} (h:j<0):zW p j=qFT:=by
 unfold zW
 cases p.length with
 | zero=>rfl
 | succ n=>rw [vP,if_pos h]
theorem qHM {hp:Nm→Option AO} {i:Nat} {k:Blk} {o o':AV} {ps:List Int} (h:Bw hp noD o o'):∀ (j:Nat) a a',(qZ i k o ps)[j]?=some a→(qZ i k o' ps)[j]?=some a'→Bw hp noD a a':=by
 intro j a a' ha ha'
 match j,ha,ha' with
 | 0,ha,ha'=>obtain rfl:=sI ha;obtain rfl:=sI ha';exact .refl _
 | 1,ha,ha'=>obtain rfl:=sI ha;obtain rfl:=sI ha';exact .refl _
 | 2,ha,ha'=>obtain rfl:=sI ha;obtain rfl:=sI ha';exact h
 | j+3,ha,ha' =>
  simp only [qZ,List.getElem?_cons_succ] at ha ha'
  rw [ha] at ha'
  obtain rfl:=sI ha'
  exact .refl _
theorem qIu {hp:Nm→Option AO} {n:Nm} {p:Prg} (h:OwnS hp n p p.length) (hh:z6 p) (j:Nat) (hj:j<p.length):Bw hp noD (.pt (.c n j 0) 0) (zW p j):=by
 induction j using Nat.strongRecOn with
 | _ j ih =>
  obtain⟨k,hk⟩:∃ k,p[j]?=some k:=⟨_,gE hj⟩
  obtain⟨h1,h2,_⟩:=hh j k hk
  rw [jG hh hk]
  refine .pt (.c n j 0) 43 0 _ _ [] rfl (h.sc j k hj hk) (by simp) (qHM ?_)
  unfold qEb
  split
  ·rename_i hn
   rw [qAn hn]
   exact .refl _
  ·have:=ih k.parent.toNat (by omega) (by omega)
   have e:((k.parent.toNat:Nat):Int)=k.parent:=by omega
   rwa [e] at this
def wN (p:Prg):List (List AV):=(List.range p.length).map (fun j:Nat=>[zW p j])
abbrev qAD (p:Prg):AV:=.sl 1 (wN p)
@[simp] theorem scRows_len {p:Prg}:(wN p).length=p.length:=by simp [wN]
theorem yX {p:Prg} {j:Nat} (h:j<p.length):(wN p)[j]?=some [zW p j]:=by simp [wN,h]
theorem qAc {hp:Nm→Option AO} {n:Nm} {p:Prg} {len:Nat} (h:OwnS hp n p p.length) (hh:z6 p) (hl:len=p.length):Bw hp noD (.hs n 1 0 len) (qAD p):=by
 subst hl
 refine .hs n 1 0 p.length (vr n p.length p.length) (wN p) rfl h.top (by simp) (by simp) (by simp [wN]) fun i r r' hr hr' j a a' ha ha'=>?_
 have hi:i<p.length:=by
  have:=(gS hr').1
  simpa using this
 rw [Nat.zero_add,uU hi,if_pos hi] at hr
 rw [yX hi] at hr'
 obtain rfl:=sI hr
 obtain rfl:=sI hr'
 cases j with
 | zero =>
  obtain rfl:=sI ha
  obtain rfl:=sI ha'
  exact qIu h hh i hi
 | succ j=>simp at ha
theorem OwnS.hcln {H':Nm→Option AO} {n:Nm} {p:Prg} {i:Nat} (h:OwnS H' n p i):OwnS (hcln H') n p i:=by
 refine⟨vA h.top ?_,fun j k hj hk=>vA (h.sc j k hj hk) ?_⟩
 ·simp only [vr,List.all_eq_true]
  intro r hr
  obtain⟨j,_,rfl⟩:=List.mem_map.1 hr
  intro x hx
  simp only [List.mem_singleton] at hx
  subst hx
  split <;> rfl
 ·have:(qEb n k.parent).cln=true:=by unfold qEb;split <;> rfl
  simp [qZ,this]
end Go.Hm
end
section
namespace Go.Hm
open Go Go.RowKit
theorem qV.raw {P:Program} {f:FuncId} {az:List AV} {v0:Value} (h:qV P (fun _=>none) f az (fun _ y _=>y=.sc v0)) {W:World} {g:Gh} {args:Array Value} (hC:∀ b,g.C b→b<W.heap.size) (hsz:args.size=az.length)
  (hargs:∀ (j:Nat) v x,args[j]?=some v→az[j]?=some x→RV g W v x):Calls P f args W fun e W'=>e=.returned v0∧Below W.heap.size W W':=by
 have hinv:Inv (qBe g noH) g.C W g noH W:=⟨rfl,rfl,rfl,Nat.le_refl _,fun _ _ _=>rfl,rfl,hC,fun _ _ e=>(by cases e),fun _ _ _ e=>(by cases e),fun _ _ _ _ _ e=>(by cases e)⟩
 refine (h.2 (.s 0) g.C W g args (fun _ _=>rfl) rfl (fun _ e=>absurd rfl e) hinv (fun _ _ e=>(by cases e)) hsz hargs).mono fun e w' he=>?_
 cases e with
 | returned v =>
  obtain⟨C',g',H',x,hA,hv,rfl⟩:=he
  refine⟨by rw [hv.sc_eq],hA.inv.os,hA.inv.tape,hA.inv.output,hA.inv.size,fun b hb=>hA.inv.keep b hb ?_⟩
  rintro⟨n,hn,_⟩
  exact hn rfl
 | panicked ch=>obtain⟨_,_,_,_,_,_,_,_,e⟩:=he;exact e.elim
 | outgrown=>exact he.elim
theorem qV.of_raw {P:Program} {gl:Nat→Option (List AV)} {f:FuncId} {az:List AV} {v0:Value} (hc:qAg P f)
  (h:∀ (w:World) (g:Gh) (args:Array Value),(∀ b,g.C b→b<w.heap.size)→args.size=az.length→(∀ (j:Nat) v x,args[j]?=some v→az[j]?=some x→RV g w v x)→Calls P f args w fun e w'=>e=.returned v0∧Below w.heap.size w w') :
  qV P gl f az (fun _ y _=>y=.sc v0):=by
 refine⟨hc,fun root C w g args _ _ _ hinv _ hsz hargs=>?_⟩
 refine (h w g args (fun b hb=>hinv.clt b (hinv.hC ▸ hb)) hsz hargs).mono fun e w' he=>?_
 obtain⟨rfl,hb⟩:=he
 exact⟨C,g,noH,.sc v0,⟨fun _ h=>h,fun _ h=>.inl h,⟨hb.os,hb.tape,hb.output,hb.size,fun b hl _=>hb.block b hl,hinv.hC,fun b hb'=>Nat.lt_of_lt_of_le (hinv.clt b hb') hb.size,fun _ _ e=>(by cases e),fun _ _ _ e=>(by cases e),fun _ _ _ _ _ e=>(by cases e)⟩,
  fun _ e=>absurd rfl e,fun _ _ _=>⟨rfl,rfl⟩,fun _ _ _ _=>⟨rfl,rfl⟩⟩,.sc v0,rfl⟩
theorem RV.keepB {g:Gh} {w W:World} {v:Value} {x:AV} {n:Nat} (h:RV g w v x) (hC:∀ b,g.C b→b<n) (hb:Below n w W):RV g W v x:=h.same (fun _ h=>h) (fun b hb'=>hb.block b (hC b hb')) fun _=>⟨rfl,rfl⟩
structure ScAt (g:Gh) (w:World) (p:Prg) (j:Nat) (k:Blk) (b o:Nat):Prop where
 C:g.C b
 idx:w.cell? ⟨b,o,none⟩=some (.int .i64 j)
 kind:w.cell? ⟨b,o+1,none⟩=some (.int .i64 k.kind)
 out:∃ a,w.cell? ⟨b,o+2,none⟩=some (.pointer a)∧RV g w (.pointer a) (zW p k.parent)
 glob:∀ x:Nat,x<8→w.cell? ⟨b,o+(27+x),none⟩=some (.bool (decide ((x:Int)∈k.dc 9)))
theorem RV.ptr {g:Gh} {w:World} {v:Value} {p:Prg} {j:Int} (h:RV g w v (zW p j)):∃ a,v=.pointer a:=by
 unfold zW at h
 generalize p.length=n at h
 cases n with
 | zero=>exact⟨none,h.sc_eq⟩
 | succ n =>
  simp only [vP] at h
  split at h
  ·exact⟨none,h.sc_eq⟩
  ·split at h
   ·exact⟨none,h.sc_eq⟩
   ·cases h with
    | el b o off row f hC hcell ho hr=>exact⟨_,rfl⟩
theorem RV.scNil {g:Gh} {w:World} {v:Value} {p:Prg} {j:Int} (h:RV g w v (zW p j)) (hj:j<0):v=.pointer none:=by
 rw [qAn hj] at h
 exact h.sc_eq
theorem RV.scAt {g:Gh} {w:World} {v:Value} {p:Prg} {j:Nat} {k:Blk} (hh:z6 p) (hk:p[j]?=some k) (h:RV g w v (zW p j)):∃ b o,v=.pointer (some ⟨b,o,none⟩)∧ScAt g w p j k b o:=by
 rw [jG hh hk] at h
 cases h with
 | el b o off row f hC hcell ho hr =>
  have get:∀ (i:Nat) (u:Value),(qZ j k (zW p k.parent) k.params)[i]?=some (.sc u)→w.cell? ⟨b,o+i,none⟩=some u:=by
   intro i u hu
   have hi:=(gS hu).1
   rw [hcell i hi,(hr i _ hu).sc_eq]
  refine⟨b,o,rfl,hC,get 0 _ rfl,get 1 _ rfl,?_,fun x hx=>get _ _ (ky hx)⟩
  have h2:=hr 2 _ (show (qZ j k (zW p k.parent) k.params)[2]?=some (zW p k.parent) from rfl)
  obtain⟨a,ha⟩:=h2.ptr
  exact⟨a,by rw [← ha];exact hcell 2 (by simp),ha ▸ h2⟩
inductive Path (p:Prg):Int→List Nat→Int→Prop
 | nil (j:Int):Path p j [] j
 | skip (j:Nat) (k:Blk) (l:List Nat) (j':Int) (hk:p[j]?=some k) (hn:k.kind≠1) (h:Path p k.parent l j'):Path p j l j'
 | step (j:Nat) (k:Blk) (l:List Nat) (j':Int) (hk:p[j]?=some k) (hn:k.kind=1) (h:Path p k.parent l j'):Path p j (j::l) j'
theorem Path.skipR {p:Prg} {i:Int} {l:List Nat} {j:Nat} {k:Blk} (h:Path p i l j) (hk:p[j]?=some k) (hn:k.kind≠1):Path p i l k.parent:=by
 generalize hj:(j:Int)=j' at h
 induction h with
 | nil _=>subst hj;exact .skip j k [] _ hk hn (.nil _)
 | skip a q l j' ha hq _ ih=>exact .skip a q l _ ha hq (ih hj)
 | step a q l j' ha hq _ ih=>exact .step a q l _ ha hq (ih hj)
theorem Path.stepR {p:Prg} {i:Int} {l:List Nat} {j:Nat} {k:Blk} (h:Path p i l j) (hk:p[j]?=some k) (hn:k.kind=1):Path p i (l++[j]) k.parent:=by
 generalize hj:(j:Int)=j' at h
 induction h with
 | nil _=>subst hj;exact .step j k [] _ hk hn (.nil _)
 | skip a q l j' ha hq _ ih=>exact .skip a q _ _ ha hq (ih hj)
 | step a q l j' ha hq _ ih=>exact .step a q _ _ ha hq (ih hj)
theorem Path.len {p:Prg} (hh:z6 p) {i j:Int} {l:List Nat} (h:Path p i l j):(l.length:Int)+j≤i:=by
 induction h with
 | nil _=>simp
 | skip a q l j' ha hq _ ih=>have:=(hh a q ha).2.1;omega
 | step a q l j' ha hq _ ih=>have:=(hh a q ha).2.1;simp;omega
def found (p:Prg) (x:Int) (j:Nat):Option Int:=match p[j]? with
 | some q=>if x∈q.dc 9 then some (-1) else if zZ j q x then some (j:Int) else none
 | none=>none
theorem Path.outer {p:Prg} (hh:z6 p) {x:Int} {i j:Int} {l:List Nat} (h:Path p i l j) (hb:∀ (k:Blk),p[0]?=some k→k.kind≠1) (hno:∀ y∈l,found p x y=none):zF p x p.length i=zF p x p.length j:=by
 induction h with
 | nil _=>rfl
 | skip a q l j' ha hq _ ih =>
  by_cases h0:0<a
  ·rw [j5 hh ha h0,if_pos hq]
   exact ih hno
  ·obtain rfl:a=0:=by omega
   have:=(hh 0 q ha).2.1
   rw [← ih hno,yp (by simp),yp (by omega)]
 | step a q l j' ha hq _ ih =>
  have h0:0<a:=by
   rcases Nat.eq_zero_or_pos a with rfl|h
   ·exact absurd hq (hb q ha)
   ·exact h
  rw [j5 hh ha h0,if_neg (by simp [hq])]
  have hf:=hno a (by simp)
  simp only [found,ha] at hf
  split at hf
  ·cases hf
  ·split at hf
   ·cases hf
   ·rename_i h1 h2
    rw [if_neg h1,if_neg h2]
    exact ih fun y hy=>hno y (by simp [hy])
theorem Path.found {p:Prg} (hh:z6 p) {x r:Int} {i j:Int} {l:List Nat} {y:Nat} (h:Path p i (l++[y]) j) (hb:∀ (k:Blk),p[0]?=some k→k.kind≠1) (hno:∀ y∈l,Hm.found p x y=none) (hf:Hm.found p x y=some r):zF p x p.length i=r:=by
 generalize hl:l++[y]=l' at h
 induction h generalizing l with
 | nil _=>simp at hl
 | skip a q l' j' ha hq _ ih =>
  by_cases h0:0<a
  ·rw [j5 hh ha h0,if_pos hq]
   exact ih hno hl
  ·obtain rfl:a=0:=by omega
   have:=(hh 0 q ha).2.1
   have h2:=ih hno hl
   rw [yp (by omega)] at h2
   rw [← h2,yp (by simp)]
 | step a q l' j' ha hq _ ih =>
  have h0:0<a:=by
   rcases Nat.eq_zero_or_pos a with rfl|h
   ·exact absurd hq (hb q ha)
   ·exact h
  rw [j5 hh ha h0,if_neg (by simp [hq])]
  cases l with
  | nil =>
   simp only [List.nil_append,List.cons.injEq] at hl
   obtain⟨rfl,_⟩:=hl
   simp only [Hm.found,ha] at hf
   split at hf
   ·rename_i h1;rw [if_pos h1];exact sI hf
   ·rename_i h1
    rw [if_neg h1]
    split at hf
    ·rename_i h2;rw [if_pos h2];exact sI hf
    ·cases hf
  | cons z l =>
   simp only [List.cons_append,List.cons.injEq] at hl
   obtain⟨rfl,hl⟩:=hl
   have hf1:=hno z (by simp)
   simp only [Hm.found,ha] at hf1
   split at hf1
   ·cases hf1
   ·split at hf1
    ·cases hf1
    ·rename_i h1 h2
     rw [if_neg h1,if_neg h2]
     exact ih (fun y hy=>hno y (by simp [hy])) hl
end Go.Hm
end
