/-
  Own texts, joined by mkclaim.py: Hm27, Hm28, Hm29, Hm30, Hm31, Hm32, Hm33, Hm34.
-/
import Derived.Test.YtbgmnmnoaamgkaaGreatDoorC08
import Derived.Below
set_option linter.unusedSimpArgs false
set_option linter.unusedVariables false
set_option maxRecDepth 100000
set_option maxHeartbeats 4000000

section
namespace Go.Hm
open Go Go.RowKit
def yp (n:Nm) (p:Prg):List (List AV):=p.mapIdx (fun i k=>[iv k.kind,iv k.parent,.hs (.c n i 2) 1 0 k.params.length,.hs (.c n i 3) 4 0 k.body.length])
structure OwnP (hp:Nm→Option AO) (n:Nm) (p:Prg):Prop where
 top:hp n=some (.row 4 (yp n p))
 params:∀ (i:Nat) k,p[i]?=some k→hp (.c n i 2)=some (.row 1 (qY k.params))
 body:∀ (i:Nat) k,p[i]?=some k→hp (.c n i 3)=some (.row 4 (yE k.body))
section
variable {p:Prg} {i a b d l:Nat} {n q k1:Nm} {k:Blk}
@[simp] theorem pRows_len:(yp n p).length=p.length:=by simp [yp]
@[simp] theorem u4:(yp n p)[i]?=(p[i]?).map (fun k=>[iv k.kind,iv k.parent,.hs (.c n i 2) 1 0 k.params.length,.hs (.c n i 3) 4 0 k.body.length]):=by simp [yp]
@[simp] theorem pRows_getE {h:i<(yp n p).length}:(yp n p)[i]=[iv (p[i]'(by simpa using h)).kind,iv (p[i]'(by simpa using h)).parent,.hs (.c n i 2) 1 0 (p[i]'(by simpa using h)).params.length,.hs (.c n i 3) 4 0 (p[i]'(by simpa using h)).body.length]:=by simp [yp]
@[simp] theorem pRows_nil:yp n []=[]:=rfl
theorem vA {f:Nm→Option Nm} {m:Nm} (h:∀ i j,i<p.length→f (.c n i j)=some (.c m i j)):(yp n p).map (fun r=>r.map (AV.tr f))=yp m p:=by
 apply List.ext_getElem?
 intro i
 simp only [List.getElem?_map,u4,Option.map_map]
 cases hx:p[i]? with
 | none=>rfl
 | some x=>simp [h i _ (gS hx).1]
@[simp] theorem pRows_kl (h:Nm.under (.s d) n=false):(yp n p).map (fun r=>r.map (AV.tr (kl (.s d))))=yp n p:=vA (by simp [h])
@[simp] theorem pRows_mv2 (h:Nm.under (.s a) n=false) (h':Nm.under (.s b) n=false):(yp n p).map (fun r=>r.map (AV.tr (mv (.s a) (.s b))))=yp n p:=vA (by simp [h,h'])
end
theorem kE {hp:Nm→Option AO} {n:Nm} {len:Nat} {p:Prg} (h:OwnP hp n p) (hl:len=p.length):Bw hp noD (.hs n 4 0 len) (ksl p):=by
 subst hl
 refine .hs n 4 0 p.length (yp n p) (qAz p) rfl h.top (by simp) (by simp) (by simp [qAz]) fun i r r' hr hr' j a a' ha ha'=>?_
 rw [Nat.zero_add,u4] at hr
 rw [qL6] at hr'
 obtain⟨x,hx,rfl⟩:=Option.map_eq_some_iff.1 hr
 rw [hx] at hr'
 obtain rfl:=sI hr'
 match j,ha,ha' with
 | 0,ha,ha'=>obtain rfl:=sI ha;obtain rfl:=sI ha';exact .refl _
 | 1,ha,ha'=>obtain rfl:=sI ha;obtain rfl:=sI ha';exact .refl _
 | 2,ha,ha'=>obtain rfl:=sI ha;obtain rfl:=sI ha';exact jF (h.params i x hx) rfl
 | 3,ha,ha'=>obtain rfl:=sI ha;obtain rfl:=sI ha';exact qFC (h.body i x hx) rfl
 | j+4,ha,_=>simp at ha
theorem kF {hp:Nm→Option AO} {x y:AV} (h:Bw hp noD x y):Bw hp noD (.agg [x]) (.agg [y]):=by
 refine .agg [x] [y] rfl fun j a a' ha ha'=>?_
 cases j with
 | zero=>obtain rfl:=sI ha;obtain rfl:=sI ha';exact h
 | succ j=>simp at ha
theorem OwnP.hcln {H':Nm→Option AO} {n:Nm} {p:Prg} (h:OwnP H' n p):OwnP (hcln H') n p:=by
 refine⟨jj h.top ?_,fun i k hk=>jj (h.params i k hk) (by simp),fun i k hk=>jj (h.body i k hk) (by simp)⟩
 simp only [yp,List.all_eq_true]
 intro r hr
 obtain⟨i,hi⟩:=List.getElem?_of_mem hr
 rw [List.getElem?_mapIdx] at hi
 obtain⟨x,_,rfl⟩:=Option.map_eq_some_iff.1 hi
 simp
def qQe (p:Prg) (i:Nat) (L:List Stm):Prg:=p.modify i (fun k=>{ k with body:=L })
theorem qYn {X:Ctx} {st:St} {K:St→Prop} {ds:List (Option Nat)} {l:List Oper} {i j e:Nat} {want t:Bool} {r:Sch} {dst:Option Nat} {op:Op} {ty:TypeId} {pos:String} {aft:Array Edge} (_ho:l[i]?=some ⟨dst,op,ty,pos,aft,some (j,want)⟩) (_hj:ds[j]?=some (some e)) (ht:st.tm e=.sc (.bool t))
  (h1:t=true→yX X l ds K (.q i r) (st.put (some e) (.sc (.bool true)))) (h2:t=false→yX X l ds K (.q i r) (st.put (some e) (.sc (.bool false)))):yX X l ds K (.q i r) st:=qYm e ht h1 h2
end Go.Hm
end
section
namespace Go.Hm
open Go Go.RowKit
theorem fx0:Nm.under (.s 0) (.s 0)=true:=Nm.under_self _
theorem qr {x y:Int}:(x != y)=!(x==y):=rfl
section
variable {X:Ctx} {st:St} {K:St→Prop} {E:AV→St→Prop} {ds:List (Option Nat)} {l:List Oper}
variable {d:Nat} {ty:TypeId} {pos:String} {aft:Array Edge} {g:Option (Nat×Bool)} {st' st1:St}
theorem x_q {op:Op} {z:AV} (hd:d<X.n:=by first|(simp;done)|fail) (hz:qev X.P st ⟨some d,op,ty,pos,aft,g⟩=some z:=by simp [fx];first|done|rfl|exact (Bool.not_not _).symm) (h:K (st.put (some d) z)):qj X ⟨some d,op,ty,pos,aft,g⟩ K E st:=o_q hd hz h
theorem qE {x:Operand} (hd:d<X.n:=by first|(simp;done)|fail) (hs:qHh X.P ty d (ev st x) st=st':=by simp [fx];first|done|rfl|exact (Bool.not_not _).symm) (h:K st'):qj X ⟨some d,.assign x,ty,pos,aft,g⟩ K E st:=qOS hd hs h
theorem zG {T:TypeId} {x:Operand} {cs:List AV} (hd:d<X.n:=by first|(simp;done)|fail) (hq:(ev st x).cells=some cs:=by simp [fx];first|done|rfl|exact (Bool.not_not _).symm) (hz:cs.length=tsz X.P T:=by first|(simp [fx];done)|fail)
  (hs:wx X.P T d cs st=st':=by simp [fx];first|done|rfl|exact (Bool.not_not _).symm) (h:K st'):qj X ⟨some d,.box T x,ty,pos,aft,g⟩ K E st:=qXX hd hq hz hs h
theorem qg {T:TypeId} {zs:List AV} (hd:d<X.n:=by first|(simp;done)|fail) (hq:jX X.P T=some zs:=by simp [fx];first|done|rfl|exact (Bool.not_not _).symm) (hs:wx X.P T d zs st=st':=by simp [fx];first|done|rfl|exact (Bool.not_not _).symm) (h:K st'):qj X ⟨some d,.alloc T,ty,pos,aft,g⟩ K E st:=qRO hd hq hs h
theorem qU {T:TypeId} {p x:Operand} {n:Nm} {z i off:Nat} {v0:List AV} {rows:List (List AV)} (hT:(X.P.info? T).isSome=true:=by first|(simp [fx];done)|fail) (hv0:(ev st x).cells=some v0:=by simp [fx];first|done|rfl|exact (Bool.not_not _).symm)
  (hnil:v0.all (fun x=>!qy x)=true:=by first|(simp [fx];done)|fail) (hlen:v0.length=tsz X.P T:=by first|(simp [fx];done)|fail)
  (hp:pl (ev st p)=some (n,i,off):=by simp [fx];first|done|rfl|exact⟨rfl,rfl⟩|exact⟨rfl,rfl,rfl⟩) (hrows:wR st (ev st p)=some (z,rows):=by simp [fx];first|done|rfl|exact⟨rfl,rfl⟩|exact⟨rfl,rfl,rfl⟩)
  (hi:i<rows.length:=by first|(simp [fx];done)|(simp [fx];omega)|omega) (hoff:off+v0.length≤z:=by first|(simp [fx];done)|(simp [fx];omega)|omega)
  (hs:canon (prs (fun j=>.c n i (off+j)) 0 v0) (st.setO n (.row z (q8 rows i off v0)))=st':=by simp [fx];first|done|rfl|exact (Bool.not_not _).symm) (h:K st') :
  qj X ⟨none,.store T p x,ty,pos,aft,g⟩ K E st:=qOP hT hv0 hnil hlen hp hrows hi hoff hs h
theorem jY {T:TypeId} {p x:Operand} {n:Nm} {z i off:Nat} {v0 v1:List AV} {rows:List (List AV)} (hT:(X.P.info? T).isSome=true:=by first|(simp [fx];done)|fail) (hv0:(ev st x).cells=some v0:=by simp [fx];first|done|rfl|exact (Bool.not_not _).symm)
  (hlen:v0.length=tsz X.P T:=by first|(simp [fx];done)|fail)
  (hp:pl (ev st p)=some (n,i,off):=by simp [fx];first|done|rfl|exact⟨rfl,rfl⟩|exact⟨rfl,rfl,rfl⟩) (hk:qDG X.P T n i off v0 st=st1:=by simp [fx];first|done|rfl|exact (Bool.not_not _).symm)
  (hp1:pl (ev st1 p)=some (n,i,off):=by simp [fx];first|done|rfl|exact⟨rfl,rfl⟩|exact⟨rfl,rfl,rfl⟩) (hv1:(ev st1 x).cells=some v1:=by simp [fx];first|done|rfl|exact (Bool.not_not _).symm)
  (hsame:v1.map qy=v0.map qy:=by first|(simp [fx];done)|fail) (hrows:wR st1 (ev st1 p)=some (z,rows):=by simp [fx];first|done|rfl|exact⟨rfl,rfl⟩|exact⟨rfl,rfl,rfl⟩)
  (hi:i<rows.length:=by first|(simp [fx];done)|(simp [fx];omega)|omega) (hoff:off+v1.length≤z:=by first|(simp [fx];done)|(simp [fx];omega)|omega)
  (hs:qDz n z i off rows (qKZ X.P T n i off v1) st1=st':=by simp [fx];first|done|rfl|exact (Bool.not_not _).symm) (h:K st'):qj X ⟨none,.store T p x,ty,pos,aft,g⟩ K E st:=qRM hT hv0 hlen hp hk hp1 hv1 hsame hrows hi hoff hs h
theorem j9 {T F:TypeId} {s x:Operand} {z:Nat} {rows2:List (List AV)} (hd:d<X.n:=by first|(simp;done)|fail) (hT:kJ X.P T=some F:=by simp [fx];first|done|rfl) (hz:tsz X.P F=z:=by simp [fx];first|done|rfl) (hs:ev st s=.sc (.slice none 0 0):=by first|(simp [fx];done)|fail)
  (hx:yR st z (ev st x)=some rows2:=by simp [fx];first|done|rfl) (hlen:rows2.length≤4294967296:=by first|(simp [fx];done)|(simp [fx];omega)|omega)
  (hq:qDm d z rows2.length none rows2 st=st':=by simp [fx];first|done|rfl|exact (Bool.not_not _).symm) (h:K st'):qj X ⟨some d,.call ⟨.builtin .append,#[s,x],#[T,T]⟩,ty,pos,aft,g⟩ K E st:=qLJ hd hT hz hs hx hlen hq h
theorem ji {T F:TypeId} {s x:Operand} {z len:Nat} {n:Nm} {rows0 rows2:List (List AV)} (hd:d<X.n:=by first|(simp;done)|fail) (hT:kJ X.P T=some F:=by simp [fx];first|done|rfl) (hz:tsz X.P F=z:=by simp [fx];first|done|rfl) (hs:ev st s=.hs n z 0 len:=by simp [fx];first|done|rfl|exact⟨rfl,rfl⟩|exact⟨rfl,rfl,rfl⟩)
  (hn:st.hp n=some (.row z rows0):=by simp [fx];first|done|rfl) (hle:len≤rows0.length:=by first|(simp [fx];done)|(simp [fx];omega)|omega)
  (hx:yR st z (ev st x)=some rows2:=by simp [fx];first|done|rfl) (hlen:len+rows2.length≤4294967296:=by first|(simp [fx];done)|(simp [fx];omega)|omega)
  (hq:qDm d z (len+rows2.length) (some n) (rows0.take len++rows2) st=st':=by simp [fx];first|done|rfl|exact (Bool.not_not _).symm) (h:K st'):qj X ⟨some d,.call ⟨.builtin .append,#[s,x],#[T,T]⟩,ty,pos,aft,g⟩ K E st:=qOT hd hT hz hs hn hle hx hlen hq h
theorem wO {T F:TypeId} {x y:Operand} {ln z:Nat} {k k':IntKind} {zv:List AV} (hd:d<X.n:=by first|(simp;done)|fail) (hx:ev st x=.sc (.int k ln):=by simp [fx];first|done|rfl|exact⟨rfl,rfl⟩) (hy:ev st y=.sc (.int k' ln):=by simp [fx];first|done|rfl|exact⟨rfl,rfl⟩)
  (hE:kJ X.P T=some F:=by simp [fx];first|done|rfl) (hz:tsz X.P F=z:=by simp [fx];first|done|rfl) (hzv:jX X.P F=some zv:=by simp [fx];first|done|rfl) (hl:ln≤4294967296:=by first|(simp [fx];done)|(simp [fx];omega)|omega)
  (hq:qUX d z ln zv st=st':=by simp [fx];first|done|rfl|exact (Bool.not_not _).symm) (h:K st'):qj X ⟨some d,.makeSlice T x y,ty,pos,aft,g⟩ K E st:=qUW hd hx hy hE hz hzv hl hq h
theorem yD {T F:TypeId} {len z:Nat} {parts:Array (Nat×Operand)} {rows:List (List AV)} (hd:d<X.n:=by first|(simp;done)|fail) (hE:kJ X.P T=some F:=by simp [fx];first|done|rfl) (hz:tsz X.P F=z:=by simp [fx];first|done|rfl) (hrows:kU st parts.toList=some rows:=by simp [fx];first|done|rfl)
  (c1:parts.toList.map (·.1)=List.range len:=by decide) (c2:len * z≤16777216:=by decide) (c3:rows.all (fun r=>r.length==z)=true:=by first|(simp [fx];done)|fail)
  (hs:qOw X.P F d z rows st=st':=by simp [fx];first|done|rfl|exact (Bool.not_not _).symm) (h:K st'):qj X ⟨some d,.buildSlice T len parts,ty,pos,aft,g⟩ K E st:=qRN hd hE hz hrows c1 c2 c3 hs h
section
variable {f:Nat} {args:Array Operand} {Ts:Array TypeId} {az avs:List AV}
theorem qL {x:AV} (hd:d<X.n:=by first|(simp;done)|fail) (ha:args.toList.map (ev st)=avs:=by simp [fx];first|done|rfl|exact (Bool.not_not _).symm)
  (hB:BwL st.hp noD avs az:=by
    first
    | ((repeat' (first|exact .nil|refine .cons ?_ ?_|exact .refl _|exact jF (by simp [fx];first|done|rfl) (by first|(simp [fx];done)|(simp [fx];omega)|omega)|exact jt (by simp [fx];first|done|rfl) (by first|(simp [fx];done)|(simp [fx];omega)|omega) (by first|(simp;done)|fail)));done)
    | fail)
  (hF:qW X.P X.gl f az (fun _ y _=>y=x)) (hc:x.cln=true:=by first|(simp [fx];done)|fail) (h:K ((st.kill (.s d)).put (some d) x)) :
  qj X ⟨some d,.call ⟨.value (.func f),args,Ts⟩,ty,pos,aft,g⟩ K E st:=qPR hd ha hB hF hc h
theorem zk {z n:Nat} {rows:List (List AV)} (hd:d<X.n:=by first|(simp;done)|fail) (ha:args.toList.map (ev st)=avs:=by simp [fx];first|done|rfl|exact (Bool.not_not _).symm)
  (hB:BwL st.hp noD avs az:=by
    first
    | ((repeat' (first|exact .nil|refine .cons ?_ ?_|exact .refl _|exact jF (by simp [fx];first|done|rfl) (by first|(simp [fx];done)|(simp [fx];omega)|omega)|exact jt (by simp [fx];first|done|rfl) (by first|(simp [fx];done)|(simp [fx];omega)|omega) (by first|(simp;done)|fail)));done)
    | fail)
  (hF:qW X.P X.gl f az (fun r y H'=>y=.hs r z 0 n∧H' r=some (.row z rows))) (hc:rows.all (fun r=>r.all AV.cln)=true:=by first|(simp;done)|fail)
  (h:K (((st.kill (.s d)).setO (.s d) (.row z rows)).put (some d) (.hs (.s d) z 0 n))):qj X ⟨some d,.call ⟨.value (.func f),args,Ts⟩,ty,pos,aft,g⟩ K E st:=qLG hd ha hB hF hc h
theorem qDt {R:Nm→AV→(Nm→Option AO)→Prop} (hd:d<X.n:=by first|(simp;done)|fail) (ha:args.toList.map (ev st)=avs:=by simp [fx];first|done|rfl|exact (Bool.not_not _).symm)
  (hB:BwL st.hp noD avs az:=by
    first
    | ((repeat' (first|exact .nil|refine .cons ?_ ?_|exact .refl _|exact jF (by simp [fx];first|done|rfl) (by first|(simp [fx];done)|(simp [fx];omega)|omega)|exact jt (by simp [fx];first|done|rfl) (by first|(simp [fx];done)|(simp [fx];omega)|omega) (by first|(simp;done)|fail)));done)
    | fail)
  (hF:qW X.P X.gl f az R) (h:∀ y H',R (.s d) y H'→y.cln=true∧K (((st.kill (.s d)).addH d (hcln H')).put (some d) y)) :
  qj X ⟨some d,.call ⟨.value (.func f),args,Ts⟩,ty,pos,aft,g⟩ K E st:=qLH hd ha hB hF h
end
end
section
variable {X:Ctx} {st:St} {K:St→Prop} {E:AV→St→Prop} {ds:List (Option Nat)} {l:List Oper} {dst:Option Nat} {op:Op} {ty:TypeId} {pos:String} {aft:Array Edge} {i j e:Nat} {want:Bool} {v:AV}
theorem q6 (hj:ds[j]?=some (some e):=by rfl) (ht:st.tm e=v:=by simp [fx];first|done|rfl|exact (Bool.not_not _).symm) (h:Gx X ds K E l st dst op ty pos aft j want e v):wG X ds K E (⟨dst,op,ty,pos,aft,some (j,want)⟩::l) st:=qQg hj ht h
theorem vG (hn:∀ e,dst=some e→e<X.n:=by first|(simp;done)|fail) (h:wG X ds K E l (st.put dst (.sc undef))):Gx X ds K E l st dst op ty pos aft j true e (.sc (.bool false)):=qXn hn h
theorem vj (hn:∀ e,dst=some e→e<X.n:=by first|(simp;done)|fail) (h:wG X ds K E l (st.put dst (.sc undef))):Gx X ds K E l st dst op ty pos aft j false e (.sc (.bool true)):=qXo hn h
theorem x_u (hn:∀ e,dst=some e→e<X.n:=by first|(simp;done)|fail) (h:wG X ds K E l (st.put dst (.sc undef))):Gx X ds K E l st dst op ty pos aft j want e (.sc undef):=qYc hn h
theorem qO {c:Operand} {x y:Code} {Q:Ex→St→Prop} (ht:ev st c=.sc (.bool true):=by first|(simp [fx];done)|fail) (h1:qa X x Q st):qa X (.cond c x y) Q st:=qMm h1 ht
theorem qS {c:Operand} {x y:Code} {Q:Ex→St→Prop} (ht:ev st c=.sc (.bool false):=by first|(simp [fx];done)|fail) (h1:qa X y Q st):qa X (.cond c x y) Q st:=qMn h1 ht
theorem uk {c:Nat} {x y:Code} {Q:Ex→St→Prop} {t:Bool} (ht:st.tm c=.sc (.bool t):=by simp [fx];first|done|rfl|exact (Bool.not_not _).symm) (h1:t=true→qa X x Q (st.put (some c) (.sc (.bool true)))) (h2:t=false→qa X y Q (st.put (some c) (.sc (.bool false)))):qa X (.cond (.tmp c) x y) Q st:=vk ht h1 h2
theorem qFT {d:Nat} {r:Sch} {z:AV} (ho:l[i]?=some ⟨some d,op,ty,pos,aft,none⟩:=by rfl) (hd:d<X.n:=by first|(simp;done)|fail) (hz:qev X.P st ⟨some d,op,ty,pos,aft,none⟩=some z:=by simp [fx];first|done|rfl|exact (Bool.not_not _).symm) (h:yX X l ds K r (st.put (some d) z)):yX X l ds K (.q i r) st:=a_q ho hd hz h
theorem qBt {d:Nat} {r:Sch} {z:AV} (ho:l[i]?=some ⟨some d,op,ty,pos,aft,some (j,want)⟩:=by rfl) (hj:ds[j]?=some (some e):=by rfl) (ht:st.tm e=.sc (.bool want):=by first|(simp [fx];done)|fail) (hd:d<X.n:=by first|(simp;done)|fail)
  (hz:qev X.P st ⟨some d,op,ty,pos,aft,some (j,want)⟩=some z:=by simp [fx];first|done|rfl|exact (Bool.not_not _).symm) (h:yX X l ds K r (st.put (some d) z)):yX X l ds K (.q i r) st:=qYk ho hj ht hd hz h
theorem qBu {d:Nat} {r:Sch} (ho:l[i]?=some ⟨some d,op,ty,pos,aft,some (j,want)⟩:=by rfl) (hj:ds[j]?=some (some e):=by rfl) (ht:st.tm e=.sc (.bool (!want)):=by first|(simp [fx];done)|fail) (hd:d<X.n:=by first|(simp;done)|fail)
  (h:yX X l ds K r (st.put (some d) (.sc undef))):yX X l ds K (.q i r) st:=qYl ho hj ht hd h
theorem qBs {d:Nat} {r:Sch} (ho:l[i]?=some ⟨some d,op,ty,pos,aft,some (j,want)⟩:=by rfl) (hj:ds[j]?=some (some e):=by rfl) (ht:st.tm e=.sc undef:=by first|(simp [fx];done)|fail) (hd:d<X.n:=by first|(simp;done)|fail)
  (h:yX X l ds K r (st.put (some d) (.sc undef))):yX X l ds K (.q i r) st:=qYj ho hj ht hd h
theorem qBv {t:Bool} {r:Sch} (ho:l[i]?=some ⟨dst,op,ty,pos,aft,some (j,want)⟩:=by rfl) (hj:ds[j]?=some (some e):=by rfl) (ht:st.tm e=.sc (.bool t):=by simp [fx];first|done|rfl|exact (Bool.not_not _).symm)
  (h1:t=true→yX X l ds K (.q i r) (st.put (some e) (.sc (.bool true)))) (h2:t=false→yX X l ds K (.q i r) (st.put (some e) (.sc (.bool false)))):yX X l ds K (.q i r) st:=qYn ho hj ht h1 h2
theorem w7 {q:Nat} {ps:List Nat} {o:Oper} (ho:l[q]?=some o:=by rfl) (h1:qF9 X ds o st:=by first|(simp [qF9,fx];done)|(simp [qF9,undef,fx];done)|fail) (h2:kQ X l ds ps st):kQ X l ds (q::ps) st:=qQ8 ho h1 h2
end
def mkN (ss:List Stm) (b:Int):Nat:=(ss.filter (fun s=>qAx s b)).length
def kh (p:Prg) (b:Int):Nat→Nat
 | 0=>0
 | n+1=>kh p b n+(match p[n]? with|some q=>mkN q.body b|none=>0)
theorem qPS (ss:List Stm) (b:Int):mkN ss b≤ss.length:=List.length_filter_le _ _
theorem qEb {ss:List Stm} {b:Int} {j:Nat} {s:Stm} (h:ss[j]?=some s):mkN (ss.take (j+1)) b=mkN (ss.take j) b+(if qAx s b then 1 else 0):=by
 simp only [mkN]
 rw [zH h]
 split <;> simp
theorem qIY {p:Prg} {b:Int} {m:Nat} (h:∀ q∈p,q.body.length≤m):∀ n,kh p b n≤n * m
 | 0=>by simp [kh]
 | n+1=>by
  have:=qIY (b:=b) h n
  simp only [kh,Nat.add_mul]
  cases hq:p[n]? with
  | none=>simp;omega
  | some q =>
   have h1:=qPS q.body b
   have h2:=h q (gM hq)
   simp
   omega
def ua (p:Prg) (ss:List Stm) (n:Nat):List Int:=(List.range 7).map (fun k:Nat=>((kh p k n+mkN ss k:Nat):Int))
theorem qGN {p:Prg} {ss:List Stm} {n k:Nat} (h:k<7):(ua p ss n)[k]?=some ((kh p k n+mkN ss k:Nat):Int):=by
 simp [ua,h]
theorem qL0 {p:Prg} {ss:List Stm} {n j k:Nat} {s:Stm} (hs:ss[j]?=some s) (hk:s.a=k) (hm:s.kind=3∨s.kind=4) (h7:k<7) :
  (ua p (ss.take j) n).set k (((kh p k n+mkN (ss.take j) k:Nat):Int)+1)=ua p (ss.take (j+1)) n:=by
 apply List.ext_getElem?
 intro i
 simp only [ua,List.getElem?_set,List.length_map,List.length_range,List.getElem?_map]
 by_cases hi:k=i
 ·subst hi
  have:qAx s k=true:=by simp [qAx,hm,hk]
  simp [h7,qEb hs,this]
  omega
 ·rw [if_neg hi]
  by_cases h:i<7
  ·have:qAx s i=false:=by
    simp only [qAx,hk,Bool.and_eq_false_iff]
    right
    simp
    omega
   simp [h,qEb hs,this]
  ·simp [h]
theorem qJc {p:Prg} {ss:List Stm} {n j:Nat} {s:Stm} (hs:ss[j]?=some s) (hm:¬ (s.kind=3∨s.kind=4)):ua p (ss.take (j+1)) n=ua p (ss.take j) n:=by
 simp only [ua]
 apply List.map_congr_left
 intro k _
 have:qAx s k=false:=by
  simp only [not_or] at hm
  simp [qAx,hm]
 simp [qEb hs,this]
theorem qJd {p:Prg} {n:Nat} {q:Blk} (h:p[n]?=some q):ua p q.body n=ua p [] (n+1):=by
 simp [ua,kh,h,mkN]
theorem qIZ {p:Prg} {b:Nat} {k:Blk} (hp:zj p) (hk:p[b]?=some k) (hv:∀ (i:Nat) q,p[i]?=some q→∀ s∈q.body,zt p i q s=true) (hpar:0≤k.parent):∀ n,n≤p.length→(kh p b n:Int)=if k.parent<n then vY p b else 0
 | 0,_=>by simp [kh];omega
 | n+1,hn=>by
  have ih:=qIZ hp hk hv hpar n (by omega)
  obtain⟨q,hq⟩:∃ q,p[n]?=some q:=⟨_,gE (by omega)⟩
  simp only [kh,hq]
  by_cases e:k.parent=n
  ·have h1:¬ k.parent<n:=by omega
   rw [if_neg h1] at ih
   rw [if_pos (by omega)]
   have h2:kh p b n=0:=by omega
   simp [vY,hk,e,hq,h2,mkN]
  ·have h0:mkN q.body b=0:=by
    simp only [mkN,List.length_eq_zero_iff,List.filter_eq_nil_iff]
    intro s hs hm
    have hok:=hv n q hq s hs
    simp only [qAx,Bool.and_eq_true,Bool.or_eq_true,beq_iff_eq] at hm
    obtain⟨hkind,ha⟩:=hm
    have key:∀ d,vM p n s.a d=true→False:=by
     intro d hd
     simp only [vM,ha,Int.toNat_natCast,hk,Bool.and_eq_true,beq_iff_eq] at hd
     exact e hd.2.2
    rcases hkind with h3|h4
    ·simp [zt,h3] at hok
     exact key 1 hok.2.2
    ·simp [zt,h4] at hok
     exact key 2 hok.2.2
   rw [h0]
   simp only [Nat.add_zero,ih]
   by_cases h1:k.parent<n
   ·rw [if_pos h1,if_pos (by omega)]
   ·rw [if_neg h1,if_neg (by omega)]
theorem qOX {p:Prg} {b:Nat} {k:Blk} (hp:zj p) (hk:p[b]?=some k) (hv:∀ (i:Nat) q,p[i]?=some q→∀ s∈q.body,zt p i q s=true) (hpar:0≤k.parent):(kh p b p.length:Int)=vY p b:=by
 have hb:=(gS hk).1
 have:=(hp b k hk).2.1
 rw [qIZ hp hk hv hpar _ (Nat.le_refl _),if_pos (by omega)]
@[simp] theorem tr_comp_iv {f:Nm→Option Nm}:AV.tr f∘iv=iv:=rfl
theorem qU1 {A:List Int} {a:Nat} {v:Int} (h:a<A.length):(A.map iv).take a++iv v::(A.map iv).drop (a+1)=(A.set a v).map iv:=by
 rw [List.set_eq_take_append_cons_drop,if_pos h]
 simp
end Go.Hm
end
section
namespace Go.Hm
open Go Go.RowKit
def jP (l:List Int):List AV:=(List.range 8).map (fun x:Nat=>bv (decide ((x:Int)∈l)))
section
variable {l l':List Int} {f:Nm→Option Nm} {x:Nat}
@[simp] theorem bset_len:(jP l).length=8:=by simp [jP]
theorem wF (h:x<8):(jP l)[x]?=some (bv (decide ((x:Int)∈l))):=by simp [jP,h]
@[simp] theorem bset_map:(jP l).map (AV.tr f)=jP l:=by simp [jP]
@[simp] theorem bset_take:(jP l).take 8=jP l:=List.take_of_length_le (by simp)
@[simp] theorem bset_one:(jP l).all AV.one=true:=by simp [jP]
@[simp] theorem bset_cln:(jP l).all AV.cln=true:=by simp [jP]
@[simp] theorem qBn:(jP l).all (fun x=>!qy x)=true:=by simp [jP]
theorem qE3 {key:Nat→Nm}:∀ {v:List AV} {j:Nat},(∀ x∈v,sNm x=none)→prs key j v=[]
 | [],_,_=>rfl
 | x::l,j,h=>by
  rw [qIL,h x (by simp)]
  exact qE3 fun y hy=>h y (by simp [hy])
@[simp] theorem bset_prs {key:Nat→Nm} {j:Nat}:prs key j (jP l)=[]:=qE3 (by simp [jP])
@[simp] theorem bset_nk {key:Nat→Nm} {es:List Nat} {j:Nat}:zA key es j (jP l)=[]:=kZ qBn
@[simp] theorem bset_zcs {key:Nat→Nm} {es:List Nat} {j:Nat}:zcs key es j (jP l)=jP l:=qDq qBn
theorem qKD (h:∀ x:Int,0≤x→x≤7→(x∈l↔x∈l')):jP l=jP l':=by
 simp only [jP]
 apply List.map_congr_left
 intro x hx
 have hx:=List.mem_range.1 hx
 have:=h x (by omega) (by omega)
 simp [this]
theorem kG:jP (sorted l)=jP l:=qKD fun x h1 h2=>by rw [mem_sorted];exact⟨fun h=>h.1,fun h=>⟨h,h1,h2⟩⟩
theorem uN {y:Int} (hy:y=x) (h:x<8):(jP l).take x++bv true::(jP l).drop (x+1)=jP (l++[y]):=by
 subst hy
 apply List.ext_getElem?
 intro i
 have hl:x<(jP l).length:=by simp;omega
 have vr:=List.set_eq_take_append_cons_drop (l:=jP l) (i:=x) (a:=bv true)
 rw [if_pos hl] at vr
 rw [← vr]
 simp only [jP,List.getElem?_set,List.length_map,List.length_range,List.getElem?_map]
 by_cases e:x=i
 ·subst e
  simp [h]
 ·rw [if_neg e]
  by_cases hi:i<8
  ·have:¬ (i:Int)=x:=by omega
   simp [hi,this]
  ·simp [hi]
end
section
variable {X:Ctx} {st:St} {K:St→Prop} {E:AV→St→Prop}
theorem qKd {o:Oper} {f:FuncId} {az avs:List AV} {R:Nm→AV→(Nm→Option AO)→Prop} {d:Nat} (hEnt:Ent X.P st o f avs) (hd:o.dst=some d) (hn:d<X.n) (hF:qW X.P X.gl f az R)
  (hB:BwL st.hp noD avs az) (hK:∀ x H',R (.s d) x H'→K ((st.call d noD noH (hcln H')).put (some d) (qMh x))):qj X o K E st:=by
 refine qA8 (D:=noD) (H:=noH) (R:=R) hF hEnt true hB (fun _ _=>rfl) (fun n h=>by cases h) (fun n h=>absurd rfl h) (fun k i j _=>.inl rfl) (fun e he=>by rw [hd] at he;obtain rfl:=sI he;exact hn) ?_ (fun _ _ h=>h.elim)
 intro x H' hR
 rw [hd] at hR ⊢
 exact hK x H' hR
def qVS (P:Program) (gl:Nat→Option (List AV)) (name:String) (x:AV) (R:Nm→AV→(Nm→Option AO)→Prop):Prop:=∃ t y f,x=.ifc t y∧qIX P t name=some f∧qW P gl f [y] R
variable {d:Nat} {ty:TypeId} {pos:String} {aft:Array Edge} {g:Option (Nat×Bool)} {c:Operand} {name:String} {Ts:Array TypeId} {x:AV}
theorem qPK {z n:Nat} {rows:List (List AV)} (hd:d<X.n:=by first|(simp;done)|fail) (hv:ev st c=x:=by simp [fx];first|done|rfl) (hF:qVS X.P X.gl name x (fun r y H'=>y=.hs r z 0 n∧H' r=some (.row z rows))) (hc:rows.all (fun r=>r.all AV.cln)=true:=by first|(simp;done)|fail)
  (h:K (((st.kill (.s d)).setO (.s d) (.row z rows)).put (some d) (.hs (.s d) z 0 n))):qj X ⟨some d,.call ⟨.invoke c name,#[],Ts⟩,ty,pos,aft,g⟩ K E st:=by
 obtain⟨t,y,f,rfl,hm,hF⟩:=hF
 refine (qj.weak (qKd (K:=fun s=>∃ H',s=(st.call d noD noH H').put (some d) (.hs (.s d) z 0 n)∧H' (.s d)=some (.row z rows)) (qRi hF.1 rfl hv hm) rfl hd hF (.cons (.refl _) .nil) ?_) ?_)
 ·rintro y H' ⟨rfl,e⟩
  exact⟨_,rfl,by simp [hcln,e,AO.cln,hc]⟩
 ·rintro s ⟨H',rfl,e'⟩
  refine⟨((st.kill (.s d)).setO (.s d) (.row z rows)).hp,fun m ob e=>?_,?_⟩
  ·simp only [St.kill,St.nm,hkl,St.setO] at e
   simp only [St.put,St.call,St.nm]
   split at e
   ·rename_i hm
    subst hm
    simp [e',e]
   ·split at e
    ·cases e
    ·rename_i hu
     simp [hu,noD,qA7,e]
  ·simpa only [St.put,St.call,St.nm,St.kill,St.setO,qA7] using h
end
section
variable {l:List Int} {r:List AV} {n:Nat}
@[simp] theorem bset_takeN:(jP l++r).take (n+8)=jP l++r.take n:=by
 have:n+8=(jP l).length+n:=by simp;omega
 rw [this,List.take_length_add_append]
@[simp] theorem bset_dropN:(jP l++r).drop (n+8)=r.drop n:=by
 have:n+8=(jP l).length+n:=by simp;omega
 rw [this,List.drop_length_add_append]
theorem vD {j:Nat}:(jP l++r)[8+j]?=r[j]?:=by rw [List.getElem?_append_right (by simp)];simp
theorem qAb {j:Nat} (h:j<8):(jP l++r)[j]?=some (bv (decide ((j:Int)∈l))):=by rw [List.getElem?_append_left (by simpa using h),wF h]
@[simp] theorem bset_drop8':(jP l).drop 8=[]:=by simp
theorem qD5 {key:Nat→Nm}:∀ {v u:List AV} {j:Nat},(∀ x∈v,sNm x=none)→prs key j (v++u)=prs key (j+v.length) u
 | [],u,j,_=>by simp
 | x::l,u,j,h=>by
  rw [List.cons_append,qIL,h x (by simp)]
  simp only
  rw [qD5 fun y hy=>h y (by simp [hy])]
  congr 1
  simp
  omega
@[simp] theorem bset_prsA {key:Nat→Nm} {j:Nat}:prs key j (jP l++r)=prs key (j+8) r:=by
 have:=qD5 (key:=key) (v:=jP l) (u:=r) (j:=j) (by simp [jP])
 simpa using this
theorem wU {key:Nat→Nm} {es:List Nat}:∀ {v u:List AV} {j:Nat},v.all (fun x=>!qy x)=true→zA key es j (v++u)=zA key es (j+v.length) u
 | [],u,j,_=>by simp
 | x::l,u,j,h=>by
  simp only [List.all_cons,Bool.and_eq_true,Bool.not_eq_true'] at h
  rw [List.cons_append,qRP,h.1]
  simp only [Bool.false_eq_true,if_false]
  rw [wU h.2]
  congr 1
  simp
  omega
@[simp] theorem bset_nkA {key:Nat→Nm} {es:List Nat} {j:Nat}:zA key es j (jP l++r)=zA key es (j+8) r:=by
 have:=wU (key:=key) (es:=es) (v:=jP l) (u:=r) (j:=j) qBn
 simpa using this
theorem qDR {key:Nat→Nm} {es:List Nat}:∀ {v u:List AV} {j:Nat},v.all (fun x=>!qy x)=true→zcs key es j (v++u)=v++zcs key es (j+v.length) u
 | [],u,j,_=>by simp
 | x::l,u,j,h=>by
  simp only [List.all_cons,Bool.and_eq_true,Bool.not_eq_true'] at h
  rw [List.cons_append,qMc,h.1]
  simp only [Bool.false_eq_true,if_false]
  rw [qDR h.2]
  simp
  congr 1
  omega
@[simp] theorem bset_zcsA {key:Nat→Nm} {es:List Nat} {j:Nat}:zcs key es j (jP l++r)=jP l++zcs key es (j+8) r:=by
 have:=qDR (key:=key) (es:=es) (v:=jP l) (u:=r) (j:=j) qBn
 simpa using this
end
def qh (i:Nat) (k:Blk) (o:AV) (ps:List Int):List AV:=iv i::iv k.kind::o::(jP ps++(jP k.rd++(jP k.bd++(jP (k.dc 9)++jP (k.dc 10)))))
section
variable {i x:Nat} {k:Blk} {o o':AV} {ps:List Int} {f:Nm→Option Nm}
@[simp] theorem scopeRow_len:(qh i k o ps).length=43:=by simp [qh]
@[simp] theorem scopeRow_tr:(qh i k o ps).map (AV.tr f)=qh i k (o.tr f) ps:=by simp [qh]
@[simp] theorem scopeRow_0:(qh i k o ps)[0]=iv i:=rfl
@[simp] theorem scopeRow_1:(qh i k o ps)[1]=iv k.kind:=rfl
@[simp] theorem scopeRow_2:(qh i k o ps)[2]=o:=rfl
theorem qJJ (h:x<8):(qh i k o ps)[3+x]?=some (bv (decide ((x:Int)∈ps))):=by
 rw [qh,Nat.add_comm]
 simp only [List.getElem?_cons_succ]
 rw [qAb h]
theorem qJI (h:x<8):(qh i k o ps)[11+x]?=some (bv (decide ((x:Int)∈k.rd))):=by
 have:11+x=8+x+3:=by omega
 rw [qh,this]
 simp only [List.getElem?_cons_succ]
 rw [vD,qAb h]
theorem qDZ (h:x<8):(qh i k o ps)[19+x]?=some (bv (decide ((x:Int)∈k.bd))):=by
 have:19+x=8+(8+x)+3:=by omega
 rw [qh,this]
 simp only [List.getElem?_cons_succ]
 rw [vD,vD,qAb h]
theorem kz (h:x<8):(qh i k o ps)[27+x]?=some (bv (decide ((x:Int)∈k.dc 9))):=by
 have:27+x=8+(8+(8+x))+3:=by omega
 rw [qh,this]
 simp only [List.getElem?_cons_succ]
 rw [vD,vD,vD,qAb h]
theorem qDY (h:x<8):(qh i k o ps)[35+x]?=some (bv (decide ((x:Int)∈k.dc 10))):=by
 have:35+x=8+(8+(8+(8+x)))+3:=by omega
 rw [qh,this]
 simp only [List.getElem?_cons_succ]
 rw [vD,vD,vD,vD,wF h]
theorem qEG {y:Int} (hy:y=x) (h:x<8):(qh i k o ps).take (3+x)++bv true::(qh i k o ps).drop (3+x+1)=qh i k o (ps++[y]):=by
 have e1:3+x=x+3:=by omega
 have e2:3+x+1=(x+1)+3:=by omega
 rw [e2,e1]
 simp only [qh,List.take_succ_cons,List.drop_succ_cons,List.cons_append]
 rw [List.take_append_of_le_length (by simp;omega),List.drop_append_of_le_length (by simp;omega),← uN hy h]
 simp
theorem qEF:(qh i k o ps).take 2++o'::(qh i k o ps).drop 3=qh i k o' ps:=rfl
end
def qFK:AV:=.sc (.pointer none)
@[simp] theorem nilP_tr {f:Nm→Option Nm}:qFK.tr f=qFK:=rfl
def uC (n:Nm) (len i:Nat):List (List AV):=(List.range len).map (fun j=>[if j<i then AV.pt (.c n j 0) 0 else qFK])
def qE7 (n:Nm) (j:Int):AV:=if j<0 then qFK else .pt (.c n j.toNat 0) 0
structure OwnS (hp:Nm→Option AO) (n:Nm) (p:Prg) (i:Nat):Prop where
 top:hp n=some (.row 1 (uC n p.length i))
 sc:∀ (j:Nat) k,j<i→p[j]?=some k→hp (.c n j 0)=some (.row 43 [qh j k (qE7 n k.parent) k.params])
section
variable {n m:Nm} {len i j:Nat} {f:Nm→Option Nm}
@[simp] theorem sRows_len:(uC n len i).length=len:=by simp [uC]
theorem u3 (h:j<len):(uC n len i)[j]?=some [if j<i then AV.pt (.c n j 0) 0 else qFK]:=by simp [uC,h]
theorem qBi (h:∀ j,j<i→f (.c n j 0)=some (.c m j 0)):(uC n len i).map (fun r=>r.map (AV.tr f))=uC m len i:=by
 simp only [uC,List.map_map]
 apply List.map_congr_left
 intro j _
 by_cases e:j<i
 ·simp [e,h j e]
 ·simp [e]
theorem qFd {a:Nat} (hn:Nm.under (.s a) n=false) (hn':Nm.under (.c n i 0) n=false):(q8 (uC n len i) i 0 [.pt (.s a) 0]).map (fun r=>r.map (AV.tr (mv (.s a) (.c n i 0))))=uC n len (i+1):=by
 apply List.ext_getElem?
 intro j
 simp only [q8,List.getElem?_map,List.getElem?_modify]
 by_cases hj:j<len
 ·rw [u3 hj,u3 hj]
  by_cases e:i=j
  ·subst e
   simp
  ·by_cases e2:j<i
   ·have e3:j<i+1:=by omega
    have e4:¬ j=i:=by omega
    simp [e,e2,e3,hn,hn',e4]
   ·have e3:¬ j<i+1:=by omega
    simp [e,e2,e3]
 ·have h1:(uC n len i)[j]?=none:=List.getElem?_eq_none (by simp;omega)
  have h2:(uC n len (i+1))[j]?=none:=List.getElem?_eq_none (by simp;omega)
  simp [h1,h2]
@[simp] theorem sRows_kl {d:Nat} (h:Nm.under (.s d) n=false):(uC n len i).map (fun r=>r.map (AV.tr (kl (.s d))))=uC n len i:=qBi (by simp [h])
@[simp] theorem sRows_mv1 {a:Nat} {k1:Nm} (h:Nm.under (.s a) n=true):(uC n len i).map (fun r=>r.map (AV.tr (mv (.s a) k1)))=uC (Nm.ren (.s a) k1 n) len i:=qBi (by simp [h])
@[simp] theorem sRows_mv2 {a b:Nat} (h:Nm.under (.s a) n=false) (h':Nm.under (.s b) n=false):(uC n len i).map (fun r=>r.map (AV.tr (mv (.s a) (.s b))))=uC n len i:=qBi (by simp [h,h'])
theorem qCZ {q:Int} (h:0≤q→f (.c n q.toNat 0)=some (.c m q.toNat 0)):(qE7 n q).tr f=qE7 m q:=by
 unfold qE7
 split
 ·rfl
 ·simp [h (by omega)]
@[simp] theorem outP_kl {d:Nat} {q:Int} (h:Nm.under (.s d) n=false):(qE7 n q).tr (kl (.s d))=qE7 n q:=qCZ (by simp [h])
@[simp] theorem outP_mv1 {a:Nat} {k1:Nm} {q:Int} (h:Nm.under (.s a) n=true):(qE7 n q).tr (mv (.s a) k1)=qE7 (Nm.ren (.s a) k1 n) q:=qCZ (by simp [h])
@[simp] theorem outP_mv2 {a b:Nat} {q:Int} (h:Nm.under (.s a) n=false) (h':Nm.under (.s b) n=false):(qE7 n q).tr (mv (.s a) (.s b))=qE7 n q:=qCZ (by simp [h,h'])
theorem qOM {a:Nat} {q:Int} (h:Nm.under (.s a) n=false) (h':Nm.under (.c n i 0) n=false) (hq:q<i):(qE7 n q).tr (mv (.s a) (.c n i 0))=qE7 n q:=qCZ (fun _=>by
 have:¬ q.toNat=i:=by omega
 simp [h,h',this])
theorem qOK {q:Int} (h:q<0):qE7 n q=qFK:=by simp [qE7,h]
theorem qOL {q:Nat}:qE7 n q=.pt (.c n q 0) 0:=by
 have:¬ (q:Int)<0:=by omega
 simp [qE7,this]
theorem qJK:List.replicate len [qFK]=uC n len 0:=by
 apply List.ext_getElem?
 intro j
 by_cases hj:j<len
 ·rw [u3 hj]
  simp [hj]
 ·rw [List.getElem?_eq_none (by simp;omega),List.getElem?_eq_none (by simp;omega)]
end
def vX (p:Prg):Nat→Int→AV
 | 0,_=>qFK
 | n+1,j=>if j<0 then qFK else match p[j.toNat]? with
  | none=>qFK
  | some k=>.el (qh j.toNat k (vX p n k.parent) k.params) 0
theorem qCG {p:Prg} (hp:zj p):∀ (n m:Nat) (j:Int),j<n→j<m→vX p n j=vX p m j
 | 0,0,_,_,_=>rfl
 | 0,m+1,j,h,_=>by simp only [vX];rw [if_pos (by omega)]
 | n+1,0,j,_,h=>by simp only [vX];rw [if_pos (by omega)]
 | n+1,m+1,j,h1,h2=>by
  simp only [vX]
  split
  ·rfl
  ·split
   ·rfl
   ·rename_i k hk
    obtain⟨h3,h4,_⟩:=hp j.toNat k hk
    rw [qCG hp n m k.parent (by omega) (by omega)]
theorem qFc {p:Prg} {f:Nm→Option Nm}:∀ (n:Nat) (j:Int),(vX p n j).tr f=vX p n j
 | 0,_=>rfl
 | n+1,j=>by
  simp only [vX]
  split
  ·rfl
  ·split
   ·rfl
   ·simp [qFc n]
def z8 (p:Prg) (j:Int):AV:=vX p p.length j
@[simp] theorem scopeA_tr {p:Prg} {j:Int} {f:Nm→Option Nm}:(z8 p j).tr f=z8 p j:=qFc _ _
theorem jJ {p:Prg} {j:Nat} {k:Blk} (hp:zj p) (hk:p[j]?=some k):z8 p j=.el (qh j k (z8 p k.parent) k.params) 0:=by
 have hj:j<p.length:=(gS hk).1
 obtain⟨h1,h2,_⟩:=hp j k hk
 obtain⟨n,hn⟩:∃ n,p.length=n+1:=⟨p.length - 1,by omega⟩
 have e:vX p n k.parent=vX p (n+1) k.parent:=qCG hp _ _ _ (by omega) (by omega)
 unfold z8
 rw [hn,← e]
 conv=>lhs;rw [vX]
 rw [if_neg (by omega)]
 simp [hk]
theorem qAl {p:Prg} {j:Int} (h:j<0):z8 p j=qFK:=by
 unfold z8
 cases p.length with
 | zero=>rfl
 | succ n=>rw [vX,if_pos h]
theorem qHG {hp:Nm→Option AO} {i:Nat} {k:Blk} {o o':AV} {ps:List Int} (h:Bw hp noD o o'):∀ (j:Nat) a a',(qh i k o ps)[j]?=some a→(qh i k o' ps)[j]?=some a'→Bw hp noD a a':=by
 intro j a a' ha ha'
 match j,ha,ha' with
 | 0,ha,ha'=>obtain rfl:=sI ha;obtain rfl:=sI ha';exact .refl _
 | 1,ha,ha'=>obtain rfl:=sI ha;obtain rfl:=sI ha';exact .refl _
 | 2,ha,ha'=>obtain rfl:=sI ha;obtain rfl:=sI ha';exact h
 | j+3,ha,ha' =>
  simp only [qh,List.getElem?_cons_succ] at ha ha'
  rw [ha] at ha'
  obtain rfl:=sI ha'
  exact .refl _
theorem qIn {hp:Nm→Option AO} {n:Nm} {p:Prg} (h:OwnS hp n p p.length) (hh:zj p) (j:Nat) (hj:j<p.length):Bw hp noD (.pt (.c n j 0) 0) (z8 p j):=by
 induction j using Nat.strongRecOn with
 | _ j ih =>
  obtain⟨k,hk⟩:∃ k,p[j]?=some k:=⟨_,gE hj⟩
  obtain⟨h1,h2,_⟩:=hh j k hk
  rw [jJ hh hk]
  refine .pt (.c n j 0) 43 0 _ _ [] rfl (h.sc j k hj hk) (by simp) (qHG ?_)
  unfold qE7
  split
  ·rename_i hn
   rw [qAl hn]
   exact .refl _
  ·have:=ih k.parent.toNat (by omega) (by omega)
   have e:((k.parent.toNat:Nat):Int)=k.parent:=by omega
   rwa [e] at this
def wQ (p:Prg):List (List AV):=(List.range p.length).map (fun j:Nat=>[z8 p j])
abbrev qAC (p:Prg):AV:=.sl 1 (wQ p)
@[simp] theorem scRows_len {p:Prg}:(wQ p).length=p.length:=by simp [wQ]
theorem yY {p:Prg} {j:Nat} (h:j<p.length):(wQ p)[j]?=some [z8 p j]:=by simp [wQ,h]
theorem qAa {hp:Nm→Option AO} {n:Nm} {p:Prg} {len:Nat} (h:OwnS hp n p p.length) (hh:zj p) (hl:len=p.length):Bw hp noD (.hs n 1 0 len) (qAC p):=by
 subst hl
 refine .hs n 1 0 p.length (uC n p.length p.length) (wQ p) rfl h.top (by simp) (by simp) (by simp [wQ]) fun i r r' hr hr' j a a' ha ha'=>?_
 have hi:i<p.length:=by
  have:=(gS hr').1
  simpa using this
 rw [Nat.zero_add,u3 hi,if_pos hi] at hr
 rw [yY hi] at hr'
 obtain rfl:=sI hr
 obtain rfl:=sI hr'
 cases j with
 | zero =>
  obtain rfl:=sI ha
  obtain rfl:=sI ha'
  exact qIn h hh i hi
 | succ j=>simp at ha
theorem OwnS.hcln {H':Nm→Option AO} {n:Nm} {p:Prg} {i:Nat} (h:OwnS H' n p i):OwnS (hcln H') n p i:=by
 refine⟨jj h.top ?_,fun j k hj hk=>jj (h.sc j k hj hk) ?_⟩
 ·simp only [uC,List.all_eq_true]
  intro r hr
  obtain⟨j,_,rfl⟩:=List.mem_map.1 hr
  intro x hx
  simp only [List.mem_singleton] at hx
  subst hx
  split <;> rfl
 ·have:(qE7 n k.parent).cln=true:=by unfold qE7;split <;> rfl
  simp [qh,this]
end Go.Hm
end
section
namespace Go.Hm
open Go Go.RowKit
theorem qW.raw {P:Program} {f:FuncId} {az:List AV} {v0:Value} (h:qW P (fun _=>none) f az (fun _ y _=>y=.sc v0)) {W:World} {g:Gh} {args:Array Value} (hC:∀ b,g.C b→b<W.heap.size) (hsz:args.size=az.length)
  (hargs:∀ (j:Nat) v x,args[j]?=some v→az[j]?=some x→RV g W v x):Calls P f args W fun e W'=>e=.returned v0∧Below W.heap.size W W':=by
 have hinv:Inv (qB8 g noH) g.C W g noH W:=⟨rfl,rfl,rfl,Nat.le_refl _,fun _ _ _=>rfl,rfl,hC,fun _ _ e=>(by cases e),fun _ _ _ e=>(by cases e),fun _ _ _ _ _ e=>(by cases e)⟩
 refine (h.2 (.s 0) g.C W g args (fun _ _=>rfl) rfl (fun _ e=>absurd rfl e) hinv (fun _ _ e=>(by cases e)) hsz hargs).mono fun e w' he=>?_
 cases e with
 | returned v =>
  obtain⟨C',g',H',x,hA,hv,rfl⟩:=he
  refine⟨by rw [hv.sc_eq],hA.inv.os,hA.inv.tape,hA.inv.output,hA.inv.size,fun b hb=>hA.inv.keep b hb ?_⟩
  rintro⟨n,hn,_⟩
  exact hn rfl
 | panicked ch=>obtain⟨_,_,_,_,_,_,_,_,e⟩:=he;exact e.elim
 | outgrown=>exact he.elim
theorem qW.of_raw {P:Program} {gl:Nat→Option (List AV)} {f:FuncId} {az:List AV} {v0:Value} (hc:qAd P f)
  (h:∀ (w:World) (g:Gh) (args:Array Value),(∀ b,g.C b→b<w.heap.size)→args.size=az.length→(∀ (j:Nat) v x,args[j]?=some v→az[j]?=some x→RV g w v x)→Calls P f args w fun e w'=>e=.returned v0∧Below w.heap.size w w') :
  qW P gl f az (fun _ y _=>y=.sc v0):=by
 refine⟨hc,fun root C w g args _ _ _ hinv _ hsz hargs=>?_⟩
 refine (h w g args (fun b hb=>hinv.clt b (hinv.hC ▸ hb)) hsz hargs).mono fun e w' he=>?_
 obtain⟨rfl,hb⟩:=he
 exact⟨C,g,noH,.sc v0,⟨fun _ h=>h,fun _ h=>.inl h,⟨hb.os,hb.tape,hb.output,hb.size,fun b hl _=>hb.block b hl,hinv.hC,fun b hb'=>Nat.lt_of_lt_of_le (hinv.clt b hb') hb.size,fun _ _ e=>(by cases e),fun _ _ _ e=>(by cases e),fun _ _ _ _ _ e=>(by cases e)⟩,
  fun _ e=>absurd rfl e,fun _ _ _=>⟨rfl,rfl⟩,fun _ _ _ _=>⟨rfl,rfl⟩⟩,.sc v0,rfl⟩
theorem RV.keepB {g:Gh} {w W:World} {v:Value} {x:AV} {n:Nat} (h:RV g w v x) (hC:∀ b,g.C b→b<n) (hb:Below n w W):RV g W v x:=h.same (fun _ h=>h) (fun b hb'=>hb.block b (hC b hb')) fun _=>⟨rfl,rfl⟩
structure ScAt (g:Gh) (w:World) (p:Prg) (j:Nat) (k:Blk) (b o:Nat):Prop where
 C:g.C b
 idx:w.cell? ⟨b,o,none⟩=some (.int .i64 j)
 kind:w.cell? ⟨b,o+1,none⟩=some (.int .i64 k.kind)
 out:∃ a,w.cell? ⟨b,o+2,none⟩=some (.pointer a)∧RV g w (.pointer a) (z8 p k.parent)
 glob:∀ x:Nat,x<8→w.cell? ⟨b,o+(27+x),none⟩=some (.bool (decide ((x:Int)∈k.dc 9)))
theorem RV.ptr {g:Gh} {w:World} {v:Value} {p:Prg} {j:Int} (h:RV g w v (z8 p j)):∃ a,v=.pointer a:=by
 unfold z8 at h
 generalize p.length=n at h
 cases n with
 | zero=>exact⟨none,h.sc_eq⟩
 | succ n =>
  simp only [vX] at h
  split at h
  ·exact⟨none,h.sc_eq⟩
  ·split at h
   ·exact⟨none,h.sc_eq⟩
   ·cases h with
    | el b o off row f hC hcell ho hr=>exact⟨_,rfl⟩
theorem RV.scNil {g:Gh} {w:World} {v:Value} {p:Prg} {j:Int} (h:RV g w v (z8 p j)) (hj:j<0):v=.pointer none:=by
 rw [qAl hj] at h
 exact h.sc_eq
theorem RV.scAt {g:Gh} {w:World} {v:Value} {p:Prg} {j:Nat} {k:Blk} (hh:zj p) (hk:p[j]?=some k) (h:RV g w v (z8 p j)):∃ b o,v=.pointer (some ⟨b,o,none⟩)∧ScAt g w p j k b o:=by
 rw [jJ hh hk] at h
 cases h with
 | el b o off row f hC hcell ho hr =>
  have get:∀ (i:Nat) (u:Value),(qh j k (z8 p k.parent) k.params)[i]?=some (.sc u)→w.cell? ⟨b,o+i,none⟩=some u:=by
   intro i u hu
   have hi:=(gS hu).1
   rw [hcell i hi,(hr i _ hu).sc_eq]
  refine⟨b,o,rfl,hC,get 0 _ rfl,get 1 _ rfl,?_,fun x hx=>get _ _ (kz hx)⟩
  have h2:=hr 2 _ (show (qh j k (z8 p k.parent) k.params)[2]?=some (z8 p k.parent) from rfl)
  obtain⟨a,ha⟩:=h2.ptr
  exact⟨a,by rw [← ha];exact hcell 2 (by simp),ha ▸ h2⟩
inductive Path (p:Prg):Int→List Nat→Int→Prop
 | nil (j:Int):Path p j [] j
 | skip (j:Nat) (k:Blk) (l:List Nat) (j':Int) (hk:p[j]?=some k) (hn:k.kind≠1) (h:Path p k.parent l j'):Path p j l j'
 | step (j:Nat) (k:Blk) (l:List Nat) (j':Int) (hk:p[j]?=some k) (hn:k.kind=1) (h:Path p k.parent l j'):Path p j (j::l) j'
theorem Path.skipR {p:Prg} {i:Int} {l:List Nat} {j:Nat} {k:Blk} (h:Path p i l j) (hk:p[j]?=some k) (hn:k.kind≠1):Path p i l k.parent:=by
 generalize hj:(j:Int)=j' at h
 induction h with
 | nil _=>subst hj;exact .skip j k [] _ hk hn (.nil _)
 | skip a q l j' ha hq _ ih=>exact .skip a q l _ ha hq (ih hj)
 | step a q l j' ha hq _ ih=>exact .step a q l _ ha hq (ih hj)
theorem Path.stepR {p:Prg} {i:Int} {l:List Nat} {j:Nat} {k:Blk} (h:Path p i l j) (hk:p[j]?=some k) (hn:k.kind=1):Path p i (l++[j]) k.parent:=by
 generalize hj:(j:Int)=j' at h
 induction h with
 | nil _=>subst hj;exact .step j k [] _ hk hn (.nil _)
 | skip a q l j' ha hq _ ih=>exact .skip a q _ _ ha hq (ih hj)
 | step a q l j' ha hq _ ih=>exact .step a q _ _ ha hq (ih hj)
theorem Path.len {p:Prg} (hh:zj p) {i j:Int} {l:List Nat} (h:Path p i l j):(l.length:Int)+j≤i:=by
 induction h with
 | nil _=>simp
 | skip a q l j' ha hq _ ih=>have:=(hh a q ha).2.1;omega
 | step a q l j' ha hq _ ih=>have:=(hh a q ha).2.1;simp;omega
def found (p:Prg) (x:Int) (j:Nat):Option Int:=match p[j]? with
 | some q=>if x∈q.dc 9 then some (-1) else if za j q x then some (j:Int) else none
 | none=>none
theorem Path.outer {p:Prg} (hh:zj p) {x:Int} {i j:Int} {l:List Nat} (h:Path p i l j) (hb:∀ (k:Blk),p[0]?=some k→k.kind≠1) (hno:∀ y∈l,found p x y=none):zN p x p.length i=zN p x p.length j:=by
 induction h with
 | nil _=>rfl
 | skip a q l j' ha hq _ ih =>
  by_cases h0:0<a
  ·rw [j5 hh ha h0,if_pos hq]
   exact ih hno
  ·obtain rfl:a=0:=by omega
   have:=(hh 0 q ha).2.1
   rw [← ih hno,yu (by simp),yu (by omega)]
 | step a q l j' ha hq _ ih =>
  have h0:0<a:=by
   rcases Nat.eq_zero_or_pos a with rfl|h
   ·exact absurd hq (hb q ha)
   ·exact h
  rw [j5 hh ha h0,if_neg (by simp [hq])]
  have hf:=hno a (by simp)
  simp only [found,ha] at hf
  split at hf
  ·cases hf
  ·split at hf
   ·cases hf
   ·rename_i h1 h2
    rw [if_neg h1,if_neg h2]
    exact ih fun y hy=>hno y (by simp [hy])
theorem Path.found {p:Prg} (hh:zj p) {x r:Int} {i j:Int} {l:List Nat} {y:Nat} (h:Path p i (l++[y]) j) (hb:∀ (k:Blk),p[0]?=some k→k.kind≠1) (hno:∀ y∈l,Hm.found p x y=none) (hf:Hm.found p x y=some r):zN p x p.length i=r:=by
 generalize hl:l++[y]=l' at h
 induction h generalizing l with
 | nil _=>simp at hl
 | skip a q l' j' ha hq _ ih =>
  by_cases h0:0<a
  ·rw [j5 hh ha h0,if_pos hq]
   exact ih hno hl
  ·obtain rfl:a=0:=by omega
   have:=(hh 0 q ha).2.1
   have h2:=ih hno hl
   rw [yu (by omega)] at h2
   rw [← h2,yu (by simp)]
 | step a q l' j' ha hq _ ih =>
  have h0:0<a:=by
   rcases Nat.eq_zero_or_pos a with rfl|h
   ·exact absurd hq (hb q ha)
   ·exact h
  rw [j5 hh ha h0,if_neg (by simp [hq])]
  cases l with
  | nil =>
   simp only [List.nil_append,List.cons.injEq] at hl
   obtain⟨rfl,_⟩:=hl
   simp only [Hm.found,ha] at hf
   split at hf
   ·rename_i h1;rw [if_pos h1];exact sI hf
   ·rename_i h1
    rw [if_neg h1]
    split at hf
    ·rename_i h2;rw [if_pos h2];exact sI hf
    ·cases hf
  | cons z l =>
   simp only [List.cons_append,List.cons.injEq] at hl
   obtain⟨rfl,hl⟩:=hl
   have hf1:=hno z (by simp)
   simp only [Hm.found,ha] at hf1
   split at hf1
   ·cases hf1
   ·split at hf1
    ·cases hf1
    ·rename_i h1 h2
     rw [if_neg h1,if_neg h2]
     exact ih (fun y hy=>hno y (by simp [hy])) hl
structure NmOk (k:Blk):Prop where
 kinds:∀ s∈k.body,0≤s.kind∧s.kind≤11
 reads:∀ s∈k.body,∀ x∈s.reads,0≤x∧x≤7
 tos:∀ s∈k.body,0≤s.to∧s.to≤7
 params:∀ x∈k.params,0≤x∧x≤7
structure ShapeP (p:Prg):Prop where
 sml:Sml p
 heads:zj p
 head:∀ (i:Nat) k,p[i]?=some k→jL i k
 stm:∀ (i:Nat) k,p[i]?=some k→∀ s∈k.body,zt p i k s=true
 len:1≤p.length∧p.length≤7
 body:∀ k∈p,k.body.length≤12
theorem ShapeP.of {p:Prg} (hs:Sml p) (h:j2 p=true):ShapeP p:=by
 obtain⟨h1,h2,h3,h4,_⟩:=qAN h
 have key:∀ (i:Nat) k,p[i]?=some k→jL i k∧k.body.length≤12∧k.body.all (zt p i k)=true:=fun i k hk =>
  qDl hk (List.all_eq_true.1 h4 i (List.mem_range.2 (gS hk).1))
 refine⟨hs,h1,fun i k hk=>(key i k hk).1,fun i k hk s hm=>List.all_eq_true.1 (key i k hk).2.2 s hm,⟨h2,h3⟩,fun k hk=>?_⟩
 obtain⟨i,hi⟩:=List.getElem?_of_mem hk
 exact (key i k hi).2.1
theorem zt.kind {p:Prg} {i:Nat} {k:Blk} {s:Stm} (h:zt p i k s=true):0≤s.kind∧s.kind≤11:=by
 by_cases hk:0≤s.kind∧s.kind≤11
 ·exact hk
 ·have h2:¬ (s.kind=0∨s.kind=1∨s.kind=2∨s.kind=3∨s.kind=4∨s.kind=5∨s.kind=6∨s.kind=7∨s.kind=8∨s.kind=9∨s.kind=10∨s.kind=11):=by omega
  simp only [not_or] at h2
  simp [zt,h2] at h
theorem ShapeP.names {p:Prg} (h:ShapeP p):∀ k∈p,NmOk k:=by
 intro k hk
 obtain⟨i,hi⟩:=List.getElem?_of_mem hk
 have hst:=h.stm i k hi
 have hhd:=h.head i k hi
 refine⟨fun s hs=>zt.kind (hst s hs),fun s hs x hx=>?_,fun s hs=>?_,fun x hx=>?_⟩
 ·have:=hst s hs
  simp only [zt,Bool.and_eq_true] at this
  have:=List.all_eq_true.1 this.1.2 x hx
  simpa using this
 ·have:=hst s hs
  simp only [zt,Bool.and_eq_true] at this
  simpa using this.1.1
 ·unfold jL at hhd
  split at hhd
  ·have:=List.eq_nil_of_length_eq_zero hhd.2.2
   rw [this] at hx
   cases hx
  ·rcases hhd.2.2.2.2 with h0|⟨h1,_,h3,h4⟩
   ·rw [List.eq_nil_of_length_eq_zero h0] at hx
    cases hx
   ·match hp:k.params,h1,hx with
    | [y],_,hx =>
     obtain rfl:=List.mem_singleton.1 hx
     rw [hp] at h3 h4
     exact⟨h3,h4⟩
theorem ShapeP.kind0 {p:Prg} (h:ShapeP p) {i:Nat} {k:Blk} (hk:p[i]?=some k):k.kind=0↔i=0:=by
 have:=h.head i k hk
 unfold jL at this
 split at this <;> omega
theorem ShapeP.fun0 {p:Prg} (h:ShapeP p):∀ k,p[0]?=some k→k.kind≠1:=by
 intro k hk
 have:=(h.kind0 hk).2 rfl
 omega
theorem ShapeP.decl0 {p:Prg} (h:ShapeP p) {k:Blk} (hk:p[0]?=some k) {d:Int} (hd:d=9∨d=10):k.dc d=[]:=by
 have hnil:km k d=[]:=by
  simp only [km,List.map_eq_nil_iff,List.filter_eq_nil_iff]
  intro s hs hsd
  have hst:=h.stm 0 k hk s hs
  have hk0:=(h.kind0 hk).2 rfl
  simp only [decide_eq_true_eq] at hsd
  rcases hd with rfl|rfl
  ·simp [zt,hsd,hk0] at hst
  ·simp [zt,hsd,hk0] at hst
 simp only [Blk.dc,hnil,sorted]
 decide
theorem qGD {p:Prg} {x:Int}:∀ (n:Nat) (j:Int),-1≤zN p x n j
 | 0,_=>by simp [zN]
 | n+1,j=>by
  simp only [zN]
  repeat' split
  all_goals first|omega|exact qGD n _
theorem qOJ {p:Prg} {b:Nat} {x:Int}:-1≤outer p b x:=by
 unfold outer
 split
 ·exact qGD _ _
 ·omega
theorem qGI {xs:List Int} {n:Nat} (h:n<8):(n:Int)∈sorted xs↔(n:Int)∈xs:=by
 rw [mem_sorted]
 exact⟨fun h=>h.1,fun h'=>⟨h',by omega,by omega⟩⟩
end Go.Hm
end
