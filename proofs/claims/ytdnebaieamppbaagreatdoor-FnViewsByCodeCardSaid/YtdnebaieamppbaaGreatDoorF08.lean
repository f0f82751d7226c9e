import Derived.Test.YtdnebaieamppbaaGreatDoorF07
import Derived.Below
set_option linter.unusedSimpArgs false
set_option linter.unusedVariables false
set_option maxRecDepth 100000
set_option maxHeartbeats 4000000

section
namespace Go.Hm
open Go Go.RowKit
def j5 (n:Nm) (p:YU):List (List AV):=p.mapIdx (λi k=>[iv k.kind,iv k.parent,.hs (.c n i 2) 1 0 k.params.length,.hs (.c n i 3) 4 0 k.body.length])
structure Z3 (hp:Nm->Option AO) (n:Nm) (p:YU):Prop where
 top:hp n=some (.row 4 (j5 n p))
 params:∀ (i:Nat) k,p[i]?=some k->hp (.c n i 2)=some (.row 1 (qS k.params))
 body:∀ (i:Nat) k,p[i]?=some k->hp (.c n i 3)=some (.row 4 (jI k.body))
section
variable {p:YU} {i a b d l:Nat} {n q k1:Nm} {k:Y4}
@[simp] theorem pRows_len:(j5 n p).length=p.length:=rf
@[simp] theorem ku:(j5 n p)[i]?=(p[i]?).map (λk=>[iv k.kind,iv k.parent,.hs (.c n i 2) 1 0 k.params.length,.hs (.c n i 3) 4 0 k.body.length]):=rf
@[simp] theorem pRows_getE {h:i<(j5 n p).length}:(j5 n p)[i]=[iv (p[i]' qH).kind,iv (p[i]' qH).parent,.hs (.c n i 2) 1 0 (p[i]' qH).params.length,.hs (.c n i 3) 4 0 (p[i]' qH).body.length]:=rf
@[simp] theorem pRows_nil:j5 n []=[]:=rfl
@[simp] theorem pRows_take:(j5 n p).take p.length=j5 n p:=bC qB
theorem Ca:j5 n (p++[k])=j5 n p++[[iv k.kind,iv k.parent,.hs (.c n p.length 2) 1 0 k.params.length,.hs (.c n p.length 3) 4 0 k.body.length]]:=rf
theorem zW {f:Nm->Option Nm} {m:Nm} (h:∀ i j,i<p.length->f (.c n i j)=some (.c m i j)):(j5 n p).map (λr=>r.map (AV.tr f))=j5 m p:=by
 apply aW;intro i;simp only [kU,ku,Option.map_map]
 grind[AV.tr]
@[simp] theorem pRows_kl (h:Nm.under (.s d) n=false):(j5 n p).map (λr=>r.map (AV.tr (kl (.s d))))=j5 n p:=zW bA
@[simp] theorem pRows_mv2 (h:Nm.under (.s a) n=false) (h':Nm.under (.s b) n=false):(j5 n p).map (λr=>r.map (AV.tr (mv (.s a) (.s b))))=j5 n p:=zW (by simp [h,h'])
@[simp] theorem pRows_mv3 (h:Nm.under (.s a) n=false) (hq:(q=n)=False) (hq':Nm.under (.c q b l) n=false):(j5 n p).map (λr=>r.map (AV.tr (mv (.s a) (.c q b l))))=j5 n p:=by
 grind[zW,Nm.under,mv]
@[simp] theorem pRows_mvc:(j5 n p).map (λr=>r.map (AV.tr (mvc n k1)))=j5 k1 p:=by
 simp_all[zW,Nm.ZJ]
@[simp] theorem pRows_mv4 {j:Nat} (hq:(q=n)=False) (hq':Nm.under (.c q a b) n=false) (hl:p.length<=l):(j5 n p).map (λr=>r.map (AV.tr (mv (.c q a b) (.c n l j))))=j5 n p:=by
 have h1:¬ n=q:=λe=>qH
 have h2:Nm.under (.c n l j) n=false:=by
  cases h:Nm.under (.c n l j) n with
  | false=>rfl
  | true=>exact absurd rfl (Nm.ZB h).2
 grind[zW,Nm.under,mv]
end
theorem cw {hp:Nm->Option AO} {n:Nm} {len:Nat} {p:YU} (h:Z3 hp n p) (hl:len=p.length):Bw hp Z5 (.hs n 4 0 len) (ZY p):=by
 subst hl;refine .hs n 4 0 p.length (j5 n p) (AW p) rfl h.top qB qB rq λi r r' hr hr' j a a' ha ha'=>?_;rw [sK,ku] at hr;rw [MJ] at hr';obtain⟨x,hx,rfl⟩:=ui.1 hr;rw [hx] at hr';obtain rfl:=sI hr'
 match j,ha,ha' with
 | 0,ha,ha'=>obtain rfl:=sI ha;obtain rfl:=sI ha';exact .refl _
 | 1,ha,ha'=>obtain rfl:=sI ha;obtain rfl:=sI ha';exact .refl _
 | 2,ha,ha'=>obtain rfl:=sI ha;obtain rfl:=sI ha';exact ya (h.params i x hx) rfl
 | 3,ha,ha'=>obtain rfl:=sI ha;obtain rfl:=sI ha';exact BN (h.body i x hx) rfl
 | j+4,ha,_=>simp at ha
theorem cx {hp:Nm->Option AO} {x y:AV} (h:Bw hp Z5 x y):Bw hp Z5 (.agg [x]) (.agg [y]):=by
 constructor<;>grind
theorem Z3.Yv {H':Nm->Option AO} {n:Nm} {p:YU} (h:Z3 H' n p):Z3 (Yv H') n p:=by
 refine⟨yw h.top ?_,λi k hk=>yw (h.params i k hk) qB,λi k hk=>yw (h.body i k hk) qB⟩;simp only [j5,uB];intro r hr;obtain⟨i,hi⟩:=ab hr;rw [Na] at hi;obtain⟨x,_,rfl⟩:=ui.1 hi;simp
def setBody (p:YU) (i:Nat) (L:List Y5):YU:=p.modify i (λk=>{ k with body:=L })
@[simp] theorem u4 {p:YU} {i:Nat} {L:List Y5}:(setBody p i L).length=p.length:=by simp [setBody]
theorem kX {p:YU} {i j:Nat} {L:List Y5} {k:Y4} (h:p[j]?=some k):(setBody p i L)[j]?=some (if i=j then { k with body:=L } else k):=by
 grind[setBody]
theorem dn {n:Nm} {a i len:Nat} {p:YU} {L:List Y5} (hl:len=L.length) (hn:Nm.under (.s a) n=false) (hn':Nm.under (.c n i 3) n=false) :
  (qY (j5 n p) i 3 [.hs (.s a) 4 0 len]).map (λr=>r.map (AV.tr (mv (.s a) (.c n i 3))))=j5 n (setBody p i L):=by
 subst hl;apply aW;intro j;simp only [qY,kU,nV,ku]
 cases hx:p[j]? with
 | none =>
  simp_all
 | some x =>
  rw [kX hx];by_cases e:i=j
  .simp_all
  simp_all<;>grind
theorem YJ {X:Ctx} {st:St} {K:St->Prop} {ds:List (Option Nat)} {l:List Oper} {i j e:Nat} {want t:Bool} {r:Y8} {dst:Option Nat} {op:Op} {ty:TypeId} {pos:String} {aft:Array Edge} (_ho:l[i]?=some ⟨dst,op,ty,pos,aft,some (j,want)⟩) (_hj:ds[j]?=some (some e)) (ht:st.tm e=.sc (.bool t))
  (h1:t=true->uW X l ds K (.q i r) (st.put (some e) (.sc (.bool true)))) (h2:t=false->uW X l ds K (.q i r) (st.put (some e) (.sc (.bool false)))):uW X l ds K (.q i r) st:=YI e ht h1 h2
theorem Ya:Nm.under (.s 0) (.s 0)=true:=Nm.Y0 _
theorem qT {x y:Int}:(x != y)=!(x==y):=rfl
section
variable {X:Ctx} {st:St} {K:St->Prop} {E:AV->St->Prop} {ds:List (Option Nat)} {l:List Oper}
variable {d:Nat} {ty:TypeId} {pos:String} {aft:Array Edge} {g:Option (Nat×Bool)} {st' st1:St}
theorem x_q {op:Op} {z:AV} (hd:d<X.n:=by first|(simp;done)|fail) (hz:qev X.P st ⟨some d,op,ty,pos,aft,g⟩=some z:=by simp [fx];first|done|rfl|exact (iS _).symm) (h:K (st.put (some d) z)):qO X ⟨some d,op,ty,pos,aft,g⟩ K E st:=o_q hd hz h
theorem zO {x:Operand} (hd:d<X.n:=by first|(simp;done)|fail) (hs:GU X.P ty d (ev st x) st=st':=by simp [fx];first|done|rfl|exact (iS _).symm) (h:K st'):qO X ⟨some d,.assign x,ty,pos,aft,g⟩ K E st:=PP hd hs h
theorem dO {T:TypeId} {x:Operand} {cs:List AV} (hd:d<X.n:=by first|(simp;done)|fail) (hq:(ev st x).cells=some cs:=by simp [fx];first|done|rfl|exact (iS _).symm) (hz:cs.length=Yh X.P T:=by first|(simp [fx];done)|fail)
  (hs:iN X.P T d cs st=st':=by simp [fx];first|done|rfl|exact (iS _).symm) (h:K st'):qO X ⟨some d,.box T x,ty,pos,aft,g⟩ K E st:=X4 hd hq hz hs h
theorem vu {T:TypeId} {zs:List AV} (hd:d<X.n:=by first|(simp;done)|fail) (hq:yN X.P T=some zs:=by simp [fx];first|done|rfl|exact (iS _).symm) (hs:iN X.P T d zs st=st':=by simp [fx];first|done|rfl|exact (iS _).symm) (h:K st'):qO X ⟨some d,.alloc T,ty,pos,aft,g⟩ K E st:=SM hd hq hs h
theorem yM {T:TypeId} {p x:Operand} {n:Nm} {z i off:Nat} {v0:List AV} {rows:List (List AV)} (hT:(X.P.info? T).isSome=true:=by first|(simp [fx];done)|fail) (hv0:(ev st x).cells=some v0:=by simp [fx];first|done|rfl|exact (iS _).symm)
  (hnil:v0.all (λx=>!zH x)=true:=by first|(simp [fx];done)|fail) (hlen:v0.length=Yh X.P T:=by first|(simp [fx];done)|fail)
  (hp:pl (ev st p)=some (n,i,off):=by simp [fx];first|done|rfl|exact⟨rfl,rfl⟩|exact⟨rfl,rfl,rfl⟩) (hrows:fu st (ev st p)=some (z,rows):=by simp [fx];first|done|rfl|exact⟨rfl,rfl⟩|exact⟨rfl,rfl,rfl⟩)
  (hi:i<rows.length:=by first|(simp [fx];done)|(simp [fx];omega)|omega) (hoff:off+v0.length<=z:=by first|(simp [fx];done)|(simp [fx];omega)|omega)
  (hs:canon (prs (λj=>.c n i (off+j)) 0 v0) (st.Yf n (.row z (qY rows i off v0)))=st':=by simp [fx];first|done|rfl|exact (iS _).symm) (h:K st') :
  qO X ⟨none,.store T p x,ty,pos,aft,g⟩ K E st:=PN hT hv0 hnil hlen hp hrows hi hoff hs h
theorem uY {T:TypeId} {p x:Operand} {n:Nm} {z i off:Nat} {v0 v1:List AV} {rows:List (List AV)} (hT:(X.P.info? T).isSome=true:=by first|(simp [fx];done)|fail) (hv0:(ev st x).cells=some v0:=by simp [fx];first|done|rfl|exact (iS _).symm)
  (hlen:v0.length=Yh X.P T:=by first|(simp [fx];done)|fail)
  (hp:pl (ev st p)=some (n,i,off):=by simp [fx];first|done|rfl|exact⟨rfl,rfl⟩|exact⟨rfl,rfl,rfl⟩) (hk:sX X.P T n i off v0 st=st1:=by simp [fx];first|done|rfl|exact (iS _).symm)
  (hp1:pl (ev st1 p)=some (n,i,off):=by simp [fx];first|done|rfl|exact⟨rfl,rfl⟩|exact⟨rfl,rfl,rfl⟩) (hv1:(ev st1 x).cells=some v1:=by simp [fx];first|done|rfl|exact (iS _).symm)
  (hsame:v1.map zH=v0.map zH:=by first|(simp [fx];done)|fail) (hrows:fu st1 (ev st1 p)=some (z,rows):=by simp [fx];first|done|rfl|exact⟨rfl,rfl⟩|exact⟨rfl,rfl,rfl⟩)
  (hi:i<rows.length:=by first|(simp [fx];done)|(simp [fx];omega)|omega) (hoff:off+v1.length<=z:=by first|(simp [fx];done)|(simp [fx];omega)|omega)
  (hs:xW n z i off rows (Nr X.P T n i off v1) st1=st':=by simp [fx];first|done|rfl|exact (iS _).symm) (h:K st'):qO X ⟨none,.store T p x,ty,pos,aft,g⟩ K E st:=SJ hT hv0 hlen hp hk hp1 hv1 hsame hrows hi hoff hs h
theorem jA {T F:TypeId} {s x:Operand} {z:Nat} {rows2:List (List AV)} (hd:d<X.n:=by first|(simp;done)|fail) (hT:bX X.P T=some F:=by simp [fx];first|done|rfl) (hz:Yh X.P F=z:=by simp [fx];first|done|rfl) (hs:ev st s=.sc (.slice none 0 0):=by first|(simp [fx];done)|fail)
  (hx:vV st z (ev st x)=some rows2:=by simp [fx];first|done|rfl) (hlen:rows2.length<=4294967296:=by first|(simp [fx];done)|(simp [fx];omega)|omega)
  (hq:si d z rows2.length none rows2 st=st':=by simp [fx];first|done|rfl|exact (iS _).symm) (h:K st'):qO X ⟨some d,.call ⟨.builtin .append,#[s,x],#[T,T]⟩,ty,pos,aft,g⟩ K E st:=L3 hd hT hz hs hx hlen hq h
theorem jm {T F:TypeId} {s x:Operand} {z len:Nat} {n:Nm} {rows0 rows2:List (List AV)} (hd:d<X.n:=by first|(simp;done)|fail) (hT:bX X.P T=some F:=by simp [fx];first|done|rfl) (hz:Yh X.P F=z:=by simp [fx];first|done|rfl) (hs:ev st s=.hs n z 0 len:=by simp [fx];first|done|rfl|exact⟨rfl,rfl⟩|exact⟨rfl,rfl,rfl⟩)
  (hn:st.hp n=some (.row z rows0):=by simp [fx];first|done|rfl) (hle:len<=rows0.length:=by first|(simp [fx];done)|(simp [fx];omega)|omega)
  (hx:vV st z (ev st x)=some rows2:=by simp [fx];first|done|rfl) (hlen:len+rows2.length<=4294967296:=by first|(simp [fx];done)|(simp [fx];omega)|omega)
  (hq:si d z (len+rows2.length) (some n) (rows0.take len++rows2) st=st':=by simp [fx];first|done|rfl|exact (iS _).symm) (h:K st'):qO X ⟨some d,.call ⟨.builtin .append,#[s,x],#[T,T]⟩,ty,pos,aft,g⟩ K E st:=PQ hd hT hz hs hn hle hx hlen hq h
theorem Bl {T F:TypeId} {s x:Operand} {z len:Nat} {n:Nm} {rows0 rows2:List (List AV)} (hd:d<X.n:=by first|(simp;done)|fail) (hT:bX X.P T=some F:=by simp [fx];first|done|rfl) (hz:Yh X.P F=z:=by simp [fx];first|done|rfl) (hs:ev st s=.hs n z 0 len:=by simp [fx];first|done|rfl|exact⟨rfl,rfl⟩|exact⟨rfl,rfl,rfl⟩)
  (hn:st.hp n=some (.row z rows0):=by simp [fx];first|done|rfl) (hle:len<=rows0.length:=by first|(simp [fx];done)|(simp [fx];omega)|omega)
  (hx:vV st z (ev st x)=some rows2:=by simp [fx];first|done|rfl) (hlen:len+rows2.length<=4294967296:=by first|(simp [fx];done)|(simp [fx];omega)|omega)
  (hq:Hm.canon (Oz (.s d) len rows2) ((si d z (len+rows2.length) (some n) (rows0.take len++rows2) st).mvc n (.s d))=st':=by simp [fx];first|done|rfl|exact (iS _).symm) (h:K st') :
  qO X ⟨some d,.call ⟨.builtin .append,#[s,x],#[T,T]⟩,ty,pos,aft,g⟩ K E st:=Ce hd hT hz hs hn hle hx hlen hq h
theorem iW {T F:TypeId} {x y:Operand} {ln z:Nat} {k k':IntKind} {zv:List AV} (hd:d<X.n:=by first|(simp;done)|fail) (hx:ev st x=.sc (.int k ln):=by simp [fx];first|done|rfl|exact⟨rfl,rfl⟩) (hy:ev st y=.sc (.int k' ln):=by simp [fx];first|done|rfl|exact⟨rfl,rfl⟩)
  (hE:bX X.P T=some F:=by simp [fx];first|done|rfl) (hz:Yh X.P F=z:=by simp [fx];first|done|rfl) (hzv:yN X.P F=some zv:=by simp [fx];first|done|rfl) (hl:ln<=4294967296:=by first|(simp [fx];done)|(simp [fx];omega)|omega)
  (hq:Uu d z ln zv st=st':=by simp [fx];first|done|rfl|exact (iS _).symm) (h:K st'):qO X ⟨some d,.makeSlice T x y,ty,pos,aft,g⟩ K E st:=Us hd hx hy hE hz hzv hl hq h
theorem vG {T F:TypeId} {len z:Nat} {parts:Array (Nat×Operand)} {rows:List (List AV)} (hd:d<X.n:=by first|(simp;done)|fail) (hE:bX X.P T=some F:=by simp [fx];first|done|rfl) (hz:Yh X.P F=z:=by simp [fx];first|done|rfl) (hrows:fq st parts.toList=some rows:=by simp [fx];first|done|rfl)
  (c1:parts.toList.map (·.1)=List.range len:=by decide) (c2:len * z<=16777216:=by decide) (c3:rows.all (λr=>r.length==z)=true:=by first|(simp [fx];done)|fail)
  (hs:QK X.P F d z rows st=st':=by simp [fx];first|done|rfl|exact (iS _).symm) (h:K st'):qO X ⟨some d,.buildSlice T len parts,ty,pos,aft,g⟩ K E st:=SK hd hE hz hrows c1 c2 c3 hs h
section
variable {f:Nat} {args:Array Operand} {Ts:Array TypeId} {az avs:List AV}
theorem qP {x:AV} (hd:d<X.n:=by first|(simp;done)|fail) (ha:args.toList.map (ev st)=avs:=by simp [fx];first|done|rfl|exact (iS _).symm)
  (hB:BwL st.hp Z5 avs az:=by
    first
    | ((repeat' (first|exact .nil|refine .cons ?_ ?_|exact .refl _|exact ya vq vn|exact kA vq vn ec));done)
    | fail)
  (hF:qX X.P X.gl f az (λ_ y _=>y=x)) (hc:x.Zh=true:=by first|(simp [fx];done)|fail) (h:K ((st.kill (.s d)).put (some d) x)) :
  qO X ⟨some d,.call ⟨.value (.func f),args,Ts⟩,ty,pos,aft,g⟩ K E st:=Q9 hd ha hB hF hc h
theorem jX {z n:Nat} {rows:List (List AV)} (hd:d<X.n:=by first|(simp;done)|fail) (ha:args.toList.map (ev st)=avs:=by simp [fx];first|done|rfl|exact (iS _).symm)
  (hB:BwL st.hp Z5 avs az:=by
    first
    | ((repeat' (first|exact .nil|refine .cons ?_ ?_|exact .refl _|exact ya vq vn|exact kA vq vn ec));done)
    | fail)
  (hF:qX X.P X.gl f az (λr y H'=>y=.hs r z 0 n/\H' r=some (.row z rows))) (hc:rows.all (λr=>r.all AV.Zh)=true:=by first|(simp;done)|fail)
  (h:K (((st.kill (.s d)).Yf (.s d) (.row z rows)).put (some d) (.hs (.s d) z 0 n))):qO X ⟨some d,.call ⟨.value (.func f),args,Ts⟩,ty,pos,aft,g⟩ K E st:=LZ hd ha hB hF hc h
theorem xO {R:Nm->AV->(Nm->Option AO)->Prop} (hd:d<X.n:=by first|(simp;done)|fail) (ha:args.toList.map (ev st)=avs:=by simp [fx];first|done|rfl|exact (iS _).symm)
  (hB:BwL st.hp Z5 avs az:=by
    first
    | ((repeat' (first|exact .nil|refine .cons ?_ ?_|exact .refl _|exact ya vq vn|exact kA vq vn ec));done)
    | fail)
  (hF:qX X.P X.gl f az R) (h:∀ y H',R (.s d) y H'->y.Zh=true/\K (((st.kill (.s d)).qBU d (Yv H')).put (some d) y)) :
  qO X ⟨some d,.call ⟨.value (.func f),args,Ts⟩,ty,pos,aft,g⟩ K E st:=L1 hd ha hB hF h
end
end
section
variable {X:Ctx} {st:St} {K:St->Prop} {E:AV->St->Prop} {ds:List (Option Nat)} {l:List Oper} {dst:Option Nat} {op:Op} {ty:TypeId} {pos:String} {aft:Array Edge} {i j e:Nat} {want:Bool} {v:AV}
theorem uj (hj:ds[j]?=some (some e):=by rfl) (ht:st.tm e=v:=by simp [fx];first|done|rfl|exact (iS _).symm) (h:Gx X ds K E l st dst op ty pos aft j want e v):fX X ds K E (⟨dst,op,ty,pos,aft,some (j,want)⟩::l) st:=Rc hj ht h
theorem IF (hn:∀ e,dst=some e->e<X.n:=by first|(simp;done)|fail) (h:fX X ds K E l (st.put dst (.sc undef))):Gx X ds K E l st dst op ty pos aft j true e (.sc (.bool false)):=Xc hn h
theorem IG (hn:∀ e,dst=some e->e<X.n:=by first|(simp;done)|fail) (h:fX X ds K E l (st.put dst (.sc undef))):Gx X ds K E l st dst op ty pos aft j false e (.sc (.bool true)):=Xd hn h
theorem x_u (hn:∀ e,dst=some e->e<X.n:=by first|(simp;done)|fail) (h:fX X ds K E l (st.put dst (.sc undef))):Gx X ds K E l st dst op ty pos aft j want e (.sc undef):=YA hn h
theorem j8 {c:Operand} {x y:Code} {Q:Ex->St->Prop} (ht:ev st c=.sc (.bool true):=by first|(simp [fx];done)|fail) (h1:qa X x Q st):qa X (.cond c x y) Q st:=OO h1 ht
theorem jr {c:Operand} {x y:Code} {Q:Ex->St->Prop} (ht:ev st c=.sc (.bool false):=by first|(simp [fx];done)|fail) (h1:qa X y Q st):qa X (.cond c x y) Q st:=OP h1 ht
theorem cJ {c:Nat} {x y:Code} {Q:Ex->St->Prop} {t:Bool} (ht:st.tm c=.sc (.bool t):=by simp [fx];first|done|rfl|exact (iS _).symm) (h1:t=true->qa X x Q (st.put (some c) (.sc (.bool true)))) (h2:t=false->qa X y Q (st.put (some c) (.sc (.bool false)))):qa X (.cond (.tmp c) x y) Q st:=wJ ht h1 h2
theorem su {d:Nat} {r:Y8} {z:AV} (ho:l[i]?=some ⟨some d,op,ty,pos,aft,none⟩:=by rfl) (hd:d<X.n:=by first|(simp;done)|fail) (hz:qev X.P st ⟨some d,op,ty,pos,aft,none⟩=some z:=by simp [fx];first|done|rfl|exact (iS _).symm) (h:uW X l ds K r (st.put (some d) z)):uW X l ds K (.q i r) st:=a_q ho hd hz h
theorem gL {d:Nat} {r:Y8} {z:AV} (ho:l[i]?=some ⟨some d,op,ty,pos,aft,some (j,want)⟩:=by rfl) (hj:ds[j]?=some (some e):=by rfl) (ht:st.tm e=.sc (.bool want):=by first|(simp [fx];done)|fail) (hd:d<X.n:=by first|(simp;done)|fail)
  (hz:qev X.P st ⟨some d,op,ty,pos,aft,some (j,want)⟩=some z:=by simp [fx];first|done|rfl|exact (iS _).symm) (h:uW X l ds K r (st.put (some d) z)):uW X l ds K (.q i r) st:=YG ho hj ht hd hz h
theorem gN {d:Nat} {r:Y8} (ho:l[i]?=some ⟨some d,op,ty,pos,aft,some (j,want)⟩:=by rfl) (hj:ds[j]?=some (some e):=by rfl) (ht:st.tm e=.sc (.bool (!want)):=by first|(simp [fx];done)|fail) (hd:d<X.n:=by first|(simp;done)|fail)
  (h:uW X l ds K r (st.put (some d) (.sc undef))):uW X l ds K (.q i r) st:=YH ho hj ht hd h
theorem gK {d:Nat} {r:Y8} (ho:l[i]?=some ⟨some d,op,ty,pos,aft,some (j,want)⟩:=by rfl) (hj:ds[j]?=some (some e):=by rfl) (ht:st.tm e=.sc undef:=by first|(simp [fx];done)|fail) (hd:d<X.n:=by first|(simp;done)|fail)
  (h:uW X l ds K r (st.put (some d) (.sc undef))):uW X l ds K (.q i r) st:=YF ho hj ht hd h
theorem gO {t:Bool} {r:Y8} (ho:l[i]?=some ⟨dst,op,ty,pos,aft,some (j,want)⟩:=by rfl) (hj:ds[j]?=some (some e):=by rfl) (ht:st.tm e=.sc (.bool t):=by simp [fx];first|done|rfl|exact (iS _).symm)
  (h1:t=true->uW X l ds K (.q i r) (st.put (some e) (.sc (.bool true)))) (h2:t=false->uW X l ds K (.q i r) (st.put (some e) (.sc (.bool false)))):uW X l ds K (.q i r) st:=YJ ho hj ht h1 h2
theorem cM {q:Nat} {ps:List Nat} {o:Oper} (ho:l[q]?=some o:=by rfl) (h1:CF X ds o st:=by first|(simp [CF,fx];done)|(simp [CF,undef,fx];done)|fail) (h2:db X l ds ps st):db X l ds (q::ps) st:=RY ho h1 h2
end
def mkN (ss:List Y5) (b:Int):Nat:=(ss.filter (λs=>nK s b)).length
def gk (p:YU) (b:Int):Nat->Nat
 | 0=>0
 | n+1=>gk p b n+(match p[n]? with|some q=>mkN q.body b|none=>0)
theorem Qb (ss:List Y5) (b:Int):mkN ss b<=ss.length:=List.length_filter_le _ _
theorem AH {ss:List Y5} {b:Int} {j:Nat} {s:Y5} (h:ss[j]?=some s):mkN (ss.take (j+1)) b=mkN (ss.take j) b+(if nK s b then 1 else 0):=by
 simp only [mkN];rw [z6 h]
 grind
theorem PV {p:YU} {b:Int} {m:Nat} (h:∀ q∈p,q.body.length<=m):∀ n,gk p b n<=n * m
 := by intro x0;induction x0<;>grind[gk,Qb]
def be (p:YU) (ss:List Y5) (n:Nat):List Int:=(List.range 7).map (λk:Nat=>((gk p k n+mkN ss k:Nat):Int))
theorem Cv {p:YU} {ss:List Y5} {n k:Nat} (h:k<7):(be p ss n)[k]?=some ((gk p k n+mkN ss k:Nat):Int):=by
 simp [be,h]
theorem Lo {p:YU} {ss:List Y5} {n j k:Nat} {s:Y5} (hs:ss[j]?=some s) (hk:s.a=k) (hm:s.kind=3\/s.kind=4) (h7:k<7) :
  (be p (ss.take j) n).set k (((gk p k n+mkN (ss.take j) k:Nat):Int)+1)=be p (ss.take (j+1)) n:=by
 apply aW;intro i;simp only [be,bT,GZ,List.length_range,kU];by_cases hi:k=i
 .subst hi;have:nK s k=true:=by grind[nK]
  grind[AH]
 .rw [if_neg hi];by_cases h:i<7
  .have:nK s i=false:=by
    grind[nK]
   grind[AH]
  .simp [h]
theorem Ix {p:YU} {ss:List Y5} {n j:Nat} {s:Y5} (hs:ss[j]?=some s) (hm:¬ (s.kind=3\/s.kind=4)):be p (ss.take (j+1)) n=be p (ss.take j) n:=by
 simp_all[be,nK,AH]
theorem Iy {p:YU} {n:Nat} {q:Y4} (h:p[n]?=some q):be p q.body n=be p [] (n+1):=by
 grind[be,gk,mkN]
theorem HQ {p:YU} {b:Nat} {k:Y4} (hp:zD p) (hk:p[b]?=some k) (hv:∀ (i:Nat) q,p[i]?=some q->∀ s∈q.body,zP p i q s=true) (hpar:0<=k.parent):∀ n,n<=p.length->(gk p b n:Int)=if k.parent<n then kw p b else 0
 | 0,_=>by grind[gk]
 | n+1,hn=>by
  have ih:=HQ hp hk hv hpar n qA;obtain⟨q,hq⟩:∃ q,p[n]?=some q:=⟨_,gE qA⟩;simp only [gk,hq];by_cases e:k.parent=n
  .grind[kw,mkN]
  .have h0:mkN q.body b=0:=by
    simp only [mkN,List.length_eq_zero_iff,List.filter_eq_nil_iff]
    grind[nK,wQ,a6,zP]
   omega
theorem PW {p:YU} {b:Nat} {k:Y4} (hp:zD p) (hk:p[b]?=some k) (hv:∀ (i:Nat) q,p[i]?=some q->∀ s∈q.body,zP p i q s=true) (hpar:0<=k.parent):(gk p b p.length:Int)=kw p b:=by
 have hb:=(gS hk).1;have:=(hp b k hk).2.1;rw [HQ hp hk hv hpar _ (qp _),if_pos qA]
@[simp] theorem tr_comp_iv {f:Nm->Option Nm}:AV.tr f∘iv=iv:=rfl
theorem VB {A:List Int} {a:Nat} {v:Int} (h:a<A.length):(A.map iv).take a++iv v::(A.map iv).drop (a+1)=(A.set a v).map iv:=by
 simp_all[List.set_eq_take_append_cons_drop]
def ye (l:List Int):List AV:=(List.range 8).map (λx:Nat=>bv (decide ((x:Int)∈l)))
section
variable {l l':List Int} {f:Nm->Option Nm} {x:Nat}
@[simp] theorem bset_len:(ye l).length=8:=mI
theorem lW (h:x<8):(ye l)[x]?=some (bv (decide ((x:Int)∈l))):=by simp [ye,h]
@[simp] theorem bset_map:(ye l).map (AV.tr f)=ye l:=mI
@[simp] theorem bset_take:(ye l).take 8=ye l:=bC qB
@[simp] theorem bset_one:(ye l).all AV.one=true:=mI
@[simp] theorem bset_cln:(ye l).all AV.Zh=true:=mI
@[simp] theorem Hr:(ye l).all (λx=>!zH x)=true:=mI
theorem HD {key:Nat->Nm}:∀ {v:List AV} {j:Nat},(∀ x∈v,sNm x=none)->prs key j v=[]
 := by intro x0;induction x0<;>simp_all
@[simp] theorem bset_prs {key:Nat->Nm} {j:Nat}:prs key j (ye l)=[]:=HD mI
@[simp] theorem bset_nk {key:Nat->Nm} {es:List Nat} {j:Nat}:zY key es j (ye l)=[]:=my Hr
@[simp] theorem bset_zcs {key:Nat->Nm} {es:List Nat} {j:Nat}:zcs key es j (ye l)=ye l:=G7 Hr
theorem J9 (h:∀ x:Int,0<=x->x<=7->(x∈l↔x∈l')):ye l=ye l':=by
 grind[ye,lZ]
theorem cz:ye (sorted l)=ye l:=J9 λx h1 h2=>by grind[mem_sorted]
theorem wi {y:Int} (hy:y=x) (h:x<8):(ye l).take x++bv true::(ye l).drop (x+1)=ye (l++[y]):=by
 subst hy;apply aW
 grind[ye]
end
section
variable {X:Ctx} {st:St} {K:St->Prop} {E:AV->St->Prop}
theorem Kt {o:Oper} {f:FuncId} {az avs:List AV} {R:Nm->AV->(Nm->Option AO)->Prop} {d:Nat} (hEnt:Ent X.P st o f avs) (hd:o.dst=some d) (hn:d<X.n) (hF:qX X.P X.gl f az R)
  (hB:BwL st.hp Z5 avs az) (hK:∀ x H',R (.s d) x H'->K ((st.call d Z5 noH (Yv H')).put (some d) (OF x))):qO X o K E st:=by
 refine fV (D:=Z5) (H:=noH) (R:=R) hF hEnt true hB (λ_ _=>rfl) (λn h=>kT) (λn h=>absurd rfl h) (λk i j _=>.inl rfl) (λe he=>qH) ?_ (λ_ _ h=>h.elim)
 simp_all
def VU (P:Program) (gl:Nat->Option (List AV)) (name:String) (x:AV) (R:Nm->AV->(Nm->Option AO)->Prop):Prop:=∃ t y f,x=.Zf t y/\HO P t name=some f/\qX P gl f [y] R
variable {d:Nat} {ty:TypeId} {pos:String} {aft:Array Edge} {g:Option (Nat×Bool)} {c:Operand} {name:String} {Ts:Array TypeId} {x:AV}
theorem KI {z n:Nat} {rows:List (List AV)} (hd:d<X.n:=by first|(simp;done)|fail) (hv:ev st c=x:=by simp [fx];first|done|rfl) (hF:VU X.P X.gl name x (λr y H'=>y=.hs r z 0 n/\H' r=some (.row z rows))) (hc:rows.all (λr=>r.all AV.Zh)=true:=by first|(simp;done)|fail)
  (h:K (((st.kill (.s d)).Yf (.s d) (.row z rows)).put (some d) (.hs (.s d) z 0 n))):qO X ⟨some d,.call ⟨.invoke c name,#[],Ts⟩,ty,pos,aft,g⟩ K E st:=by
 obtain⟨t,y,f,rfl,hm,hF⟩:=hF;refine (qO.qBY (Kt (K:=λs=>∃ H',s=(st.call d Z5 noH H').put (some d) (.hs (.s d) z 0 n)/\H' (.s d)=some (.row z rows)) (Sp hF.1 rfl hv hm) rfl hd hF (.cons (.refl _) .nil) ?_) ?_)
 .rintro y H' ⟨rfl,e⟩;exact⟨_,rfl,by grind[Yv,AO.Zh]⟩
 .rintro s ⟨H',rfl,e'⟩;refine⟨((st.kill (.s d)).Yf (.s d) (.row z rows)).hp,λm ob e=>?_,?_⟩
  .simp only [St.kill,St.nm,hkl,St.Yf] at e;simp only [St.put,St.call,St.nm]
   split at e<;>simp_all[po]
  simp_all[St.put,St.call,St.nm,St.kill,St.Yf,po]
end
section
variable {l:List Int} {r:List AV} {n:Nat}
@[simp] theorem bset_takeN:(ye l++r).take (n+8)=ye l++r.take n:=by
 grind[ye,List.take_length_add_append]
@[simp] theorem bset_dropN:(ye l++r).drop (n+8)=r.drop n:=by
 grind[ye,List.drop_length_add_append]
theorem nz {j:Nat}:(ye l++r)[8+j]?=r[j]?:=by grind[ye]
theorem lX {j:Nat} (h:j<8):(ye l++r)[j]?=some (bv (decide ((j:Int)∈l))):=by grind[ye]
@[simp] theorem bset_drop8':(ye l).drop 8=[]:=qB
theorem tR {key:Nat->Nm}:∀ {v u:List AV} {j:Nat},(∀ x∈v,sNm x=none)->prs key j (v++u)=prs key (j+v.length) u
 | [],u,j,_=>by simp
 | x::l,u,j,h=>by
  rw [sk,Oy,h x qB];simp only;rw [tR λy hy=>h y (by simp [hy])]
  grind
@[simp] theorem bset_prsA {key:Nat->Nm} {j:Nat}:prs key j (ye l++r)=prs key (j+8) r:=by
 simp_all[tR,ye]
theorem fy {key:Nat->Nm} {es:List Nat}:∀ {v u:List AV} {j:Nat},v.all (λx=>!zH x)=true->zY key es j (v++u)=zY key es (j+v.length) u
 | [],u,j,_=>by simp
 | x::l,u,j,h=>by
  simp only [List.all_cons,uR,sO] at h;rw [sk,SN,h.1];simp only [cH,if_false];rw [fy h.2]
  grind
@[simp] theorem bset_nkA {key:Nat->Nm} {es:List Nat} {j:Nat}:zY key es j (ye l++r)=zY key es (j+8) r:=by
 simp_all[fy]
theorem sq {key:Nat->Nm} {es:List Nat}:∀ {v u:List AV} {j:Nat},v.all (λx=>!zH x)=true->zcs key es j (v++u)=v++zcs key es (j+v.length) u
 | [],u,j,_=>by simp
 | x::l,u,j,h=>by
  simp only [List.all_cons,uR,sO] at h;rw [sk,Nx,h.1];simp only [cH,if_false];rw [sq h.2]
  grind
@[simp] theorem bset_zcsA {key:Nat->Nm} {es:List Nat} {j:Nat}:zcs key es j (ye l++r)=ye l++zcs key es (j+8) r:=by
 simp_all[sq]
end
def qi (i:Nat) (k:Y4) (o:AV) (ps:List Int):List AV:=iv i::iv k.kind::o::(ye ps++(ye k.rd++(ye k.bd++(ye (k.dc 9)++ye (k.dc 10)))))
section
variable {i x:Nat} {k:Y4} {o o':AV} {ps:List Int} {f:Nm->Option Nm}
@[simp] theorem scopeRow_len:(qi i k o ps).length=43:=by simp [qi]
@[simp] theorem o8:(qi i k o ps).map (AV.tr f)=qi i k (o.tr f) ps:=by simp [qi]
@[simp] theorem scopeRow_0:(qi i k o ps)[0]=iv i:=rfl
@[simp] theorem scopeRow_1:(qi i k o ps)[1]=iv k.kind:=rfl
@[simp] theorem scopeRow_2:(qi i k o ps)[2]=o:=rfl
theorem I7 (h:x<8):(qi i k o ps)[3+x]?=some (bv (decide ((x:Int)∈ps))):=by
 grind[qi,lX]
theorem I6 (h:x<8):(qi i k o ps)[11+x]?=some (bv (decide ((x:Int)∈k.rd))):=by
 grind[qi,nz,lX]
theorem tJ (h:x<8):(qi i k o ps)[19+x]?=some (bv (decide ((x:Int)∈k.bd))):=by
 grind[qi,nz,lX]
theorem fE (h:x<8):(qi i k o ps)[27+x]?=some (bv (decide ((x:Int)∈k.dc 9))):=by
 grind[qi,nz,lX]
theorem tH (h:x<8):(qi i k o ps)[35+x]?=some (bv (decide ((x:Int)∈k.dc 10))):=by
 have:35+x=8+(8+(8+(8+x)))+3:=qA;rw [qi,this]
 grind[nz,lW]
theorem xh {y:Int} (hy:y=x) (h:x<8):(qi i k o ps).take (3+x)++bv true::(qi i k o ps).drop (3+x+1)=qi i k o (ps++[y]):=by
 have e1:3+x=x+3:=qA;have e2:3+x+1=(x+1)+3:=qA;rw [e2,e1];simp only [qi,List.take_succ_cons,List.drop_succ_cons,sk];rw [List.take_append_of_le_length qv,List.drop_append_of_le_length qv,<- wi hy h];simp
theorem xg:(qi i k o ps).take 2++o'::(qi i k o ps).drop 3=qi i k o' ps:=rfl
end
def Bb:AV:=.sc (.pointer none)
@[simp] theorem nilP_tr {f:Nm->Option Nm}:Bb.tr f=Bb:=rfl
def wK (n:Nm) (len i:Nat):List (List AV):=(List.range len).map (λj=>[if j<i then AV.pt (.c n j 0) 0 else Bb])
def sU (n:Nm) (j:Int):AV:=if j<0 then Bb else .pt (.c n j.toNat 0) 0
structure qAf (hp:Nm->Option AO) (n:Nm) (p:YU) (i:Nat):Prop where
 top:hp n=some (.row 1 (wK n p.length i))
 sc:∀ (j:Nat) k,j<i->p[j]?=some k->hp (.c n j 0)=some (.row 43 [qi j k (sU n k.parent) k.params])
section
variable {n m:Nm} {len i j:Nat} {f:Nm->Option Nm}
@[simp] theorem sRows_len:(wK n len i).length=len:=by simp [wK]
theorem b8 (h:j<len):(wK n len i)[j]?=some [if j<i then AV.pt (.c n j 0) 0 else Bb]:=by simp [wK,h]
theorem im (h:∀ j,j<i->f (.c n j 0)=some (.c m j 0)):(wK n len i).map (λr=>r.map (AV.tr f))=wK m len i:=by
 simp only [wK,sJ];apply lZ;intro j _;by_cases e:j<i
 .simp_all
 .simp [e]
theorem CO {a:Nat} (hn:Nm.under (.s a) n=false) (hn':Nm.under (.c n i 0) n=false):(qY (wK n len i) i 0 [.pt (.s a) 0]).map (λr=>r.map (AV.tr (mv (.s a) (.c n i 0))))=wK n len (i+1):=by
 apply aW;intro j;simp only [qY,kU,nV];by_cases hj:j<len
 .rw [b8 hj,b8 hj];by_cases e:i=j
  .simp_all
  .by_cases e2:j<i
   .simp_all<;>grind
   .have e3:¬ j<i+1:=qA;simp [e,e2,e3]
 simp_all
@[simp] theorem sRows_kl {d:Nat} (h:Nm.under (.s d) n=false):(wK n len i).map (λr=>r.map (AV.tr (kl (.s d))))=wK n len i:=im bA
@[simp] theorem sRows_mv1 {a:Nat} {k1:Nm} (h:Nm.under (.s a) n=true):(wK n len i).map (λr=>r.map (AV.tr (mv (.s a) k1)))=wK (Nm.Yq (.s a) k1 n) len i:=im bA
@[simp] theorem sRows_mv2 {a b:Nat} (h:Nm.under (.s a) n=false) (h':Nm.under (.s b) n=false):(wK n len i).map (λr=>r.map (AV.tr (mv (.s a) (.s b))))=wK n len i:=im (by simp [h,h'])
theorem lv {q:Int} (h:0<=q->f (.c n q.toNat 0)=some (.c m q.toNat 0)):(sU n q).tr f=sU m q:=by
 unfold sU
 split<;>simp_all
@[simp] theorem outP_kl {d:Nat} {q:Int} (h:Nm.under (.s d) n=false):(sU n q).tr (kl (.s d))=sU n q:=lv bA
@[simp] theorem outP_mv1 {a:Nat} {k1:Nm} {q:Int} (h:Nm.under (.s a) n=true):(sU n q).tr (mv (.s a) k1)=sU (Nm.Yq (.s a) k1 n) q:=lv bA
@[simp] theorem outP_mv2 {a b:Nat} {q:Int} (h:Nm.under (.s a) n=false) (h':Nm.under (.s b) n=false):(sU n q).tr (mv (.s a) (.s b))=sU n q:=lv (by simp [h,h'])
theorem PK {a:Nat} {q:Int} (h:Nm.under (.s a) n=false) (h':Nm.under (.c n i 0) n=false) (hq:q<i):(sU n q).tr (mv (.s a) (.c n i 0))=sU n q:=lv (λ_=>by
 simp_all<;>omega)
theorem PI {q:Int} (h:q<0):sU n q=Bb:=by simp [sU,h]
theorem PJ {q:Nat}:sU n q=.pt (.c n q 0) 0:=by
 grind[sU]
theorem I8:List.replicate len [Bb]=wK n len 0:=by
 apply aW
 grind[wK]
end
def ah (p:YU):Nat->Int->AV
 | 0,_=>Bb
 | n+1,j=>if j<0 then Bb else match p[j.toNat]? with
  | none=>Bb
  | some k=>.el (qi j.toNat k (ah p n k.parent) k.params) 0
theorem o9 {p:YU} (hp:zD p):∀ (n m:Nat) (j:Int),j<n->j<m->ah p n j=ah p m j
 | 0,0,_,_,_=>rfl
 | 0,m+1,j,h,_=>by grind[ah]
 | n+1,0,j,_,h=>by grind[ah]
 | n+1,m+1,j,h1,h2=>by
  simp only [ah]
  split
  .rfl
  .split
   .rfl
   .rename_i k hk;obtain⟨h3,h4,_⟩:=hp j.toNat k hk;rw [o9 hp n m k.parent qA qA]
theorem CM {p:YU} {f:Nm->Option Nm}:∀ (n:Nat) (j:Int),(ah p n j).tr f=ah p n j
 | 0,_=>rfl
 | n+1,j=>by
  simp only [ah]
  split
  .rfl
  .split
   .rfl
   .simp [CM n]
def zp (p:YU) (j:Int):AV:=ah p p.length j
@[simp] theorem scopeA_tr {p:YU} {j:Int} {f:Nm->Option Nm}:(zp p j).tr f=zp p j:=CM _ _
theorem jd {p:YU} {j:Nat} {k:Y4} (hp:zD p) (hk:p[j]?=some k):zp p j=.el (qi j k (zp p k.parent) k.params) 0:=by
 have hj:j<p.length:=(gS hk).1;obtain⟨h1,h2,_⟩:=hp j k hk;obtain⟨n,hn⟩:∃ n,p.length=n+1:=⟨p.length - 1,qA⟩
 grind[ah,o9,zp]
theorem ll {p:YU} {j:Int} (h:j<0):zp p j=Bb:=by
 unfold zp
 cases p.length<;>grind[ah]
theorem E5 {hp:Nm->Option AO} {i:Nat} {k:Y4} {o o':AV} {ps:List Int} (h:Bw hp Z5 o o'):∀ (j:Nat) a a',(qi i k o ps)[j]?=some a->(qi i k o' ps)[j]?=some a'->Bw hp Z5 a a':=by
 intro j a a' ha ha'
 match j,ha,ha' with
 | 0,ha,ha'=>obtain rfl:=sI ha;obtain rfl:=sI ha';exact .refl _
 | 1,ha,ha'=>obtain rfl:=sI ha;obtain rfl:=sI ha';exact .refl _
 | 2,ha,ha'=>simp_all
 | j+3,ha,ha' =>
  simp only [qi,BY] at ha ha';rw [ha] at ha';obtain rfl:=sI ha';exact .refl _
theorem Hp {hp:Nm->Option AO} {n:Nm} {p:YU} (h:qAf hp n p p.length) (hh:zD p) (j:Nat) (hj:j<p.length):Bw hp Z5 (.pt (.c n j 0) 0) (zp p j):=by
 induction j using Nat.strongRecOn with
 | _ j ih =>
  obtain⟨k,hk⟩:=gX hj;obtain⟨h1,h2,_⟩:=hh j k hk;rw [jd hh hk];refine .pt (.c n j 0) 43 0 _ _ [] rfl (h.sc j k hj hk) qB (E5 ?_);unfold sU
  split
  .rename_i hn;rw [ll hn];exact .refl _
  grind
def dh (p:YU):List (List AV):=(List.range p.length).map (λj:Nat=>[zp p j])
abbrev fp (p:YU):AV:=.sl 1 (dh p)
@[simp] theorem scRows_len {p:YU}:(dh p).length=p.length:=by simp [dh]
theorem ue {p:YU} {j:Nat} (h:j<p.length):(dh p)[j]?=some [zp p j]:=by simp [dh,h]
theorem ee {hp:Nm->Option AO} {n:Nm} {p:YU} {len:Nat} (h:qAf hp n p p.length) (hh:zD p) (hl:len=p.length):Bw hp Z5 (.hs n 1 0 len) (fp p):=by
 subst hl;refine .hs n 1 0 p.length (wK n p.length p.length) (dh p) rfl h.top qB qB (by simp [dh]) λi r r' hr hr' j a a' ha ha'=>?_
 grind[Hp,wK,dh]
theorem qAf.Yv {H':Nm->Option AO} {n:Nm} {p:YU} {i:Nat} (h:qAf H' n p i):qAf (Yv H') n p i:=by
 refine⟨yw h.top ?_,λj k hj hk=>yw (h.sc j k hj hk) ?_⟩
 .simp only [wK,uB];intro r hr;obtain⟨j,_,rfl⟩:=eg.1 hr;intro x hx;simp only [kg] at hx;subst hx
  split <;> rfl
 .have:(sU n k.parent).Zh=true:=by unfold sU;split <;> rfl
  simp [qi,this]
theorem qX.raw {P:Program} {f:FuncId} {az:List AV} {v0:Value} (h:qX P (λ_=>none) f az (λ_ y _=>y=.sc v0)) {W:World} {g:Gh} {args:Array Value} (hC:∀ b,g.C b->b<W.heap.size) (hsz:args.size=az.length)
  (hargs:∀ (j:Nat) v x,args[j]?=some v->az[j]?=some x->RV g W v x):Calls P f args W λe W'=>e=.returned v0/\Below W.heap.size W W':=by
 have hinv:Inv (mx g noH) g.C W g noH W:=⟨rfl,rfl,rfl,qp _,λ_ _ _=>rfl,rfl,hC,λ_ _ e=>uN,λ_ _ _ e=>uN,λ_ _ _ _ _ e=>uN⟩;refine (h.2 (.s 0) g.C W g args (λ_ _=>rfl) rfl (λ_ e=>absurd rfl e) hinv (λ_ _ e=>uN) hsz hargs).mono λe w' he=>?_
 cases e with
 | returned v =>
  obtain⟨C',g',H',x,hA,hv,rfl⟩:=he;refine⟨by rw [hv.Ye],hA.inv.os,hA.inv.tape,hA.inv.output,hA.inv.size,λb hb=>hA.inv.qAQ b hb ?_⟩;rintro⟨n,hn,_⟩;exact hn rfl
 | panicked ch=>obtain⟨_,_,_,_,_,_,_,_,e⟩:=he;exact e.elim
 | outgrown=>simp_all
theorem qX.qC0 {P:Program} {gl:Nat->Option (List AV)} {f:FuncId} {az:List AV} {v0:Value} (hc:bF P f)
  (h:∀ (w:World) (g:Gh) (args:Array Value),(∀ b,g.C b->b<w.heap.size)->args.size=az.length->(∀ (j:Nat) v x,args[j]?=some v->az[j]?=some x->RV g w v x)->Calls P f args w λe w'=>e=.returned v0/\Below w.heap.size w w') :
  qX P gl f az (λ_ y _=>y=.sc v0):=by
 refine⟨hc,λroot C w g args _ _ _ hinv _ hsz hargs=>?_⟩;refine (h w g args (λb hb=>hinv.clt b (hinv.hC ▸ hb)) hsz hargs).mono λe w' he=>?_;obtain⟨rfl,hb⟩:=he
 exact⟨C,g,noH,.sc v0,⟨λ_ h=>h,λ_ h=>.inl h,⟨hb.os,hb.tape,hb.output,hb.size,λb hl _=>hb.block b hl,hinv.hC,λb hb'=>ac (hinv.clt b hb') hb.size,λ_ _ e=>uN,λ_ _ _ e=>uN,λ_ _ _ _ _ e=>uN⟩,
  λ_ e=>absurd rfl e,λ_ _ _=>⟨rfl,rfl⟩,λ_ _ _ _=>⟨rfl,rfl⟩⟩,.sc v0,rfl⟩
theorem RV.qCs {g:Gh} {w W:World} {v:Value} {x:AV} {n:Nat} (h:RV g w v x) (hC:∀ b,g.C b->b<n) (hb:Below n w W):RV g W v x:=h.same (λ_ h=>h) (λb hb'=>hb.block b (hC b hb')) λ_=>⟨rfl,rfl⟩
structure qDA (g:Gh) (w:World) (p:YU) (j:Nat) (k:Y4) (b o:Nat):Prop where
 C:g.C b
 idx:w.cell? ⟨b,o,none⟩=some (.int .i64 j)
 kind:w.cell? ⟨b,o+1,none⟩=some (.int .i64 k.kind)
 out:∃ a,w.cell? ⟨b,o+2,none⟩=some (.pointer a)/\RV g w (.pointer a) (zp p k.parent)
 Yd:∀ x:Nat,x<8->w.cell? ⟨b,o+(27+x),none⟩=some (.bool (decide ((x:Int)∈k.dc 9)))
theorem RV.ptr {g:Gh} {w:World} {v:Value} {p:YU} {j:Int} (h:RV g w v (zp p j)):∃ a,v=.pointer a:=by
 unfold zp at h;generalize p.length=n at h
 cases n with
 | zero=>exact⟨none,h.Ye⟩
 | succ n =>
  simp only [ah] at h
  split at h
  .exact⟨none,h.Ye⟩
  .split at h
   .exact⟨none,h.Ye⟩
   .cases h<;>grind
theorem RV.qCT {g:Gh} {w:World} {v:Value} {p:YU} {j:Int} (h:RV g w v (zp p j)) (hj:j<0):v=.pointer none:=by
 rw [ll hj] at h;exact h.Ye
theorem RV.qCI {g:Gh} {w:World} {v:Value} {p:YU} {j:Nat} {k:Y4} (hh:zD p) (hk:p[j]?=some k) (h:RV g w v (zp p j)):∃ b o,v=.pointer (some ⟨b,o,none⟩)/\qDA g w p j k b o:=by
 rw [jd hh hk] at h
 cases h with
 | el b o off row f hC hcell ho hr =>
  have get:∀ (i:Nat) (u:Value),(qi j k (zp p k.parent) k.params)[i]?=some (.sc u)->w.cell? ⟨b,o+i,none⟩=some u:=by
   grind[Ye]
  refine⟨b,o,rfl,hC,get 0 _ rfl,get 1 _ rfl,?_,λx hx=>get _ _ (fE hx)⟩;have h2:=hr 2 _ (show (qi j k (zp p k.parent) k.params)[2]?=some (zp p k.parent) from rfl);obtain⟨a,ha⟩:=h2.ptr
  simp_all
inductive Path (p:YU):Int->List Nat->Int->Prop
 | nil (j:Int):Path p j [] j
 | skip (j:Nat) (k:Y4) (l:List Nat) (j':Int) (hk:p[j]?=some k) (hn:k.kind≠1) (h:Path p k.parent l j'):Path p j l j'
 | step (j:Nat) (k:Y4) (l:List Nat) (j':Int) (hk:p[j]?=some k) (hn:k.kind=1) (h:Path p k.parent l j'):Path p j (j::l) j'
theorem Path.qCj {p:YU} {i:Int} {l:List Nat} {j:Nat} {k:Y4} (h:Path p i l j) (hk:p[j]?=some k) (hn:k.kind≠1):Path p i l k.parent:=by
 generalize hj:(j:Int)=j' at h
 induction h with
 | nil _=>subst hj;exact .skip j k [] _ hk hn (.nil _)
 | skip a q l j' ha hq _ ih=>exact .skip a q l _ ha hq (ih hj)
 | step a q l j' ha hq _ ih=>exact .step a q l _ ha hq (ih hj)
theorem Path.qCQ {p:YU} {i:Int} {l:List Nat} {j:Nat} {k:Y4} (h:Path p i l j) (hk:p[j]?=some k) (hn:k.kind=1):Path p i (l++[j]) k.parent:=by
 generalize hj:(j:Int)=j' at h
 induction h with
 | nil _=>subst hj;exact .step j k [] _ hk hn (.nil _)
 | skip a q l j' ha hq _ ih=>exact .skip a q _ _ ha hq (ih hj)
 | step a q l j' ha hq _ ih=>exact .step a q _ _ ha hq (ih hj)
theorem Path.len {p:YU} (hh:zD p) {i j:Int} {l:List Nat} (h:Path p i l j):(l.length:Int)+j<=i:=by
 induction h with
 | nil _=>simp
 | skip a q l j' ha hq _ ih=>have:=(hh a q ha).2.1;omega
 | step a q l j' ha hq _ ih=>have:=(hh a q ha).2.1;simp;omega
def found (p:YU) (x:Int) (j:Nat):Option Int:=match p[j]? with
 | some q=>if x∈q.dc 9 then some (-1) else if qr j q x then some (j:Int) else none
 | none=>none
theorem Path.outer {p:YU} (hh:zD p) {x:Int} {i j:Int} {l:List Nat} (h:Path p i l j) (hb:∀ (k:Y4),p[0]?=some k->k.kind≠1) (hno:∀ y∈l,found p x y=none):zX p x p.length i=zX p x p.length j:=by
 induction h with
 | nil _=>rfl
 | skip a q l j' ha hq _ ih =>
  by_cases h0:0<a
  .grind[jh]
  .obtain rfl:a=0:=qA;have:=(hh 0 q ha).2.1
   grind[ba]
 | step a q l j' ha hq _ ih =>
  have h0:0<a:=by
   grind
  rw [jh hh ha h0,if_neg gD];have hf:=hno a qB
  grind[found]
theorem Path.found {p:YU} (hh:zD p) {x r:Int} {i j:Int} {l:List Nat} {y:Nat} (h:Path p i (l++[y]) j) (hb:∀ (k:Y4),p[0]?=some k->k.kind≠1) (hno:∀ y∈l,Hm.found p x y=none) (hf:Hm.found p x y=some r):zX p x p.length i=r:=by
 generalize hl:l++[y]=l' at h
 induction h generalizing l with
 | nil _=>simp at hl
 | skip a q l' j' ha hq _ ih =>
  by_cases h0:0<a
  .grind[jh]
  .obtain rfl:a=0:=qA;have:=(hh 0 q ha).2.1
   grind[ba]
 | step a q l' j' ha hq _ ih =>
  have h0:0<a:=by
   grind
  rw [jh hh ha h0,if_neg gD]
  cases l with
  | nil =>
   grind[Hm.found]
  | cons z l =>
   simp only [sk,List.cons.injEq] at hl;obtain⟨rfl,hl⟩:=hl;have hf1:=hno z qB
   grind[Hm.found]
structure qBW (k:Y4):Prop where
 kinds:∀ s∈k.body,0<=s.kind/\s.kind<=11
 reads:∀ s∈k.body,∀ x∈s.reads,0<=x/\x<=7
 Yw:∀ s∈k.body,0<=s.to/\s.to<=7
 params:∀ x∈k.params,0<=x/\x<=7
structure Y1 (p:YU):Prop where
 sml:Zm p
 Y9:zD p
 head:∀ (i:Nat) k,p[i]?=some k->ym i k
 stm:∀ (i:Nat) k,p[i]?=some k->∀ s∈k.body,zP p i k s=true
 len:1<=p.length/\p.length<=7
 body:∀ k∈p,k.body.length<=12
theorem Y1.of {p:YU} (hs:Zm p) (h:yn p=true):Y1 p:=by
 obtain⟨h1,h2,h3,h4,_⟩:=cR h
 have key:∀ (i:Nat) k,p[i]?=some k->ym i k/\k.body.length<=12/\k.body.all (zP p i k)=true:=λi k hk =>
  xH hk (uB.1 h4 i (BW.2 (gS hk).1))
 refine⟨hs,h1,λi k hk=>(key i k hk).1,λi k hk s hm=>uB.1 (key i k hk).2.2 s hm,⟨h2,h3⟩,λk hk=>?_⟩
 grind[ab]
theorem zP.kind {p:YU} {i:Nat} {k:Y4} {s:Y5} (h:zP p i k s=true):0<=s.kind/\s.kind<=11:=by
 by_cases hk:0<=s.kind/\s.kind<=11
 .exact hk
 .have h2:¬ (s.kind=0\/s.kind=1\/s.kind=2\/s.kind=3\/s.kind=4\/s.kind=5\/s.kind=6\/s.kind=7\/s.kind=8\/s.kind=9\/s.kind=10\/s.kind=11):=qA
  grind[zP]
theorem Y1.names {p:YU} (h:Y1 p):∀ k∈p,qBW k:=by
 intro k hk;obtain⟨i,hi⟩:=ab hk;have hst:=h.stm i k hi;have hhd:=h.head i k hi;refine⟨λs hs=>zP.kind (hst s hs),λs hs x hx=>?_,λs hs=>?_,λx hx=>?_⟩
 .grind[zP]
 .grind[zP]
 .unfold ym at hhd
  split at hhd
  .simp_all
  .rcases hhd.2.2.2.2 with h0|⟨h1,_,h3,h4⟩
   .simp_all
   .match hp:k.params,h1,hx with
    | [y],_,hx =>
     simp_all
theorem Y1.Ze {p:YU} (h:Y1 p) {i:Nat} {k:Y4} (hk:p[i]?=some k):k.kind=0↔i=0:=by
 have:=h.head i k hk
 grind
theorem Y1.qDR {p:YU} (h:Y1 p):∀ k,p[0]?=some k->k.kind≠1:=by
 intro k hk;have:=(h.Ze hk).2 rfl;omega
theorem Y1.qCy {p:YU} (h:Y1 p) {k:Y4} (hk:p[0]?=some k) {d:Int} (hd:d=9\/d=10):k.dc d=[]:=by
 have hnil:eG k d=[]:=by
  simp only [eG,List.map_eq_nil_iff,List.filter_eq_nil_iff];intro s hs hsd;have hst:=h.stm 0 k hk s hs;have hk0:=(h.Ze hk).2 rfl
  grind[zP]
 simp only [Y4.dc,hnil,sorted]
 decide
theorem LW {p:YU} {x:Int}:∀ (n:Nat) (j:Int),-1<=zX p x n j
 := by intro x0;induction x0<;>grind[zX]
theorem PH {p:YU} {b:Nat} {x:Int}:-1<=outer p b x:=by
 unfold outer
 split<;>simp_all[LW]
theorem Ck {xs:List Int} {n:Nat} (h:n<8):(n:Int)∈sorted xs↔(n:Int)∈xs:=by
 grind[mem_sorted]
def V3:AV:=.sc (.slice none 0 0)
def TG:List AV:=[iv 0,iv 0,V3,V3]
def Nu (n:Nm) (j:Nat) (k:Y4):List AV:=[iv k.kind,iv k.parent,.hs (.c n j 2) 1 0 k.params.length,.hs (.c n j 3) 4 0 k.body.length]
def eJ (n:Nm) (p:YU) (i:Nat):List (List AV):=p.mapIdx (λj k=>if j<i then Nu n j k else TG)
structure qDZ (hp:Nm->Option AO) (n:Nm) (p:YU) (i:Nat):Prop where
 top:hp n=some (.row 4 (eJ n p i))
 params:∀ (j:Nat) k,j<i->p[j]?=some k->hp (.c n j 2)=some (.row 1 (qS k.params))
 body:∀ (j:Nat) k,j<i->p[j]?=some k->hp (.c n j 3)=some (.row 4 (jI k.body))
section
variable {p:YU} {i j a b:Nat} {n m k1:Nm} {k:Y4} {f:Nm->Option Nm}
@[simp] theorem cRows_len:(eJ n p i).length=p.length:=by simp [eJ]
theorem rE (hk:p[j]?=some k):(eJ n p i)[j]?=some (if j<i then Nu n j k else TG):=by simp [eJ,hk]
theorem J7:List.replicate p.length TG=eJ n p 0:=by
 apply aW
 grind[eJ]
theorem Mz:eJ n p p.length=j5 n p:=by
 apply aW;intro j
 cases hk:p[j]? with
 | none =>
  simp_all
 | some k =>
  rw [rE hk,if_pos (gS hk).1,ku,hk]
  rfl
theorem Ho (h:∀ j l,j<i->f (.c n j l)=some (.c m j l)):(eJ n p i).map (λr=>r.map (AV.tr f))=eJ m p i:=by
 apply aW;intro j;rw [kU]
 cases hk:p[j]? with
 | none =>
  simp_all
 | some k =>
  rw [rE hk,rE hk]
  grind[Nu,TG,V3,AV.tr]
@[simp] theorem cRows_kl {d:Nat} (h:Nm.under (.s d) n=false):(eJ n p i).map (λr=>r.map (AV.tr (kl (.s d))))=eJ n p i:=Ho bA
end
end Go.Hm
end
section

end
section
namespace Go.Hm
open Go Go.RowKit
structure Big (p:YU):Prop where
 len:p.length<=1152921504606846976
 params:∀ k∈p,k.params.length<=1152921504606846976
 body:∀ k∈p,k.body.length<=1152921504606846976
def EN (k:Y4):Nat:=k.params.length+k.body.length
def fZ (p:YU):Nat->Nat
 | 0=>p.length
 | i+1=>fZ p i+(match p[i]? with|some k=>EN k|none=>0)
def tot (p:YU):Nat:=fZ p p.length
theorem ey {p:YU}:∀ {i j:Nat},i<=j->fZ p i<=fZ p j:=by
 intro i j h
 induction h<;>grind[fZ]
theorem Bt {p:YU} {i:Nat} {k:Y4} (h:p[i]?=some k):fZ p (i+1)=fZ p i+EN k:=by grind[fZ]
theorem RL {p:YU} (h:tot p<=1048576):Zm p:=by
 have h0:fZ p 0=p.length:=rfl
 have key:∀ k∈p,EN k<=1048576:=by
  intro k hk;obtain⟨i,hi⟩:=ab hk;have h1:=Bt hi;have h2:=ey (p:=p) (Nat.succ_le_of_lt (gS hi).1)
  grind[tot]
 refine⟨?_,λk hk=>?_,λk hk=>?_⟩
 .have:=ey (p:=p) (Nat.zero_le p.length)
  grind[tot]
 .grind[EN]
 grind[EN]
def pre {α:Type} (z:α) (l:List α) (i:Nat):List α:=l.take i++List.replicate (l.length - i) z
section
variable {α:Type} {z x:α} {l:List α} {i:Nat}
@[simp] theorem LM (h:i<=l.length):(pre z l i).length=l.length:=by simp [pre];omega
theorem HF:pre z l 0=List.replicate l.length z:=by simp [pre]
theorem LN:pre z l l.length=l:=by simp [pre]
theorem LL (hx:l[i]?=some x):(pre z l i).set i x=pre z l (i+1):=by
 have hi:=(gS hx).1;apply aW
 grind[pre]
end
theorem MP {n:Nat}:List.replicate n [iv 0]=qS (List.replicate n 0):=zU
theorem Ke {n:Nat}:List.replicate n [iv 0,iv 0,iv 0,iv 0]=jI (List.replicate n ⟨0,0,0,0⟩):=dG
theorem Kd {ss:List Y5} {i:Nat} {s:Y5}:qY (jI ss) i 0 s.cells=jI (ss.set i s):=by
 simp only [qY,jI];apply aW;intro j;simp only [nV,kU,bT];by_cases h:i=j
 .subst h
  cases hx:ss[i]?<;>grind[List.getElem?_eq_some_iff]
 .simp [h]
end Go.Hm
end
