/-
  Own texts, joined by mkclaim.py: Hm122, Hm123, Hm124, Hm125, Hm126, Hm127, Hm128, Hm129, Hm130, Hm131, Hm132, Hm133, Hm134, Hm135, Hm136, Hm137, Hm138, Hm139, Hm140, Hm141, Hm142, Hm143, Hm144, Hm145, Hm146, Hm159, Hm160.
-/
import Derived.Test.YtbgmnmnoaamgkaaGreatDoorC14
import Derived.Test.YtbgmnmnoaamgkaaGreatDoorC12
import Derived.Test.YtbgmnmnoaamgkaaGreatDoorC09
set_option linter.unusedSimpArgs false
set_option linter.unusedVariables false
set_option maxRecDepth 100000
set_option maxHeartbeats 4000000

section
namespace Go.Hm
open Go Go.RowKit
def spl (l:List AV) (off:Nat) (vals:List AV):List AV:=l.take off++vals++l.drop (off+vals.length)
section
variable {P X S vals l:List AV} {k off j i n z:Nat} {c c':Nat→List AV}
theorem qQa (h:off+vals.length≤l.length):(spl l off vals).length=l.length:=by simp [spl];omega
theorem kR (hk:k+vals.length≤X.length):spl (P++(X++S)) (P.length+k) vals=P++(spl X k vals++S):=by
 unfold spl
 rw [List.take_append,List.drop_append,List.take_append,List.drop_append,List.take_of_length_le (Nat.le_add_right _ _)]
 have e1:P.length+k - P.length=k:=by omega
 have e2:P.length+k+vals.length - P.length=k+vals.length:=by omega
 have e3:k - X.length=0:=by omega
 have e4:k+vals.length - X.length=0:=by omega
 have e5:P.drop (P.length+k+vals.length)=[]:=List.drop_eq_nil_of_le (by omega)
 rw [e1,e2,e3,e4,e5]
 simp
theorem qK6 (hk:k+vals.length≤X.length):spl (X++S) k vals=spl X k vals++S:=by
 have:=kR (P:=[]) (S:=S) hk
 simpa using this
theorem qNo (hk:k+vals.length≤X.length):spl (P++X) (P.length+k) vals=P++spl X k vals:=by
 have:=kR (P:=P) (S:=[]) hk
 simpa using this
theorem qH3 (hk:k<X.length):(P++(X++S))[P.length+k]?=X[k]?:=by
 rw [List.getElem?_append_right (Nat.le_add_right _ _),Nat.add_sub_cancel_left,List.getElem?_append_left hk]
theorem qH9 (hk:k+n≤X.length):((P++(X++S)).drop (P.length+k)).take n=(X.drop k).take n:=by
 rw [List.drop_append,List.drop_append,List.drop_eq_nil_of_le (by omega:P.length≤P.length+k)]
 have e1:P.length+k - P.length=k:=by omega
 have e3:k - X.length=0:=by omega
 rw [e1,e3,List.nil_append,List.take_append]
 have e4:n - (X.drop k).length=0:=by simp;omega
 rw [e4]
 simp
def cat (c:Nat→List AV) (n:Nat):List AV:=(List.range n).flatMap c
theorem v9:cat c (n+1)=cat c n++c n:=by simp [cat,List.range_succ]
theorem uY (hc:∀ i,(c i).length=z):(cat c n).length=z * n:=by
 induction n with
 | zero=>simp [cat]
 | succ n ih=>rw [v9,List.length_append,ih,hc,Nat.mul_succ]
theorem qGc (h:∀ i,i<n→c' i=c i):cat c' n=cat c n:=by
 induction n with
 | zero=>rfl
 | succ n ih=>rw [v9,v9,ih fun i hi=>h i (by omega),h n (by omega)]
theorem qGb (hi:i<n):∃ S,cat c n=cat c i++(c i++S):=by
 induction n with
 | zero=>omega
 | succ n ih =>
  rw [v9]
  by_cases e:i=n
  ·subst e
   exact⟨[],by simp⟩
  ·obtain⟨S,hS⟩:=ih (by omega)
   exact⟨S++c n,by rw [hS];simp⟩
theorem qMC (hc:∀ i,(c i).length=z) (hi:i<n) (hj:j<z):(cat c n)[z * i+j]?=(c i)[j]?:=by
 obtain⟨S,hS⟩:=qGb (c:=c) hi
 rw [hS,← uY (n:=i) hc]
 exact qH3 (by rw [hc];exact hj)
theorem qMD (hc:∀ i,(c i).length=z) (hi:i<n) (hj:j+k≤z):((cat c n).drop (z * i+j)).take k=((c i).drop j).take k:=by
 obtain⟨S,hS⟩:=qGb (c:=c) hi
 rw [hS,← uY (n:=i) hc]
 exact qH9 (by rw [hc];exact hj)
theorem qMB (hc:∀ i,(c i).length=z) (hi:i<n) (hj:j+vals.length≤z) (h:∀ k,k≠i→c' k=c k) (hx:spl (c i) j vals=c' i):spl (cat c n) (z * i+j) vals=cat c' n:=by
 induction n with
 | zero=>omega
 | succ n ih =>
  rw [v9,v9]
  by_cases e:i=n
  ·subst e
   rw [← uY (n:=i) hc,qNo (by rw [hc];exact hj),hx,qGc fun k hk=>(h k (by omega)).symm]
  ·rw [qK6,ih (by omega),h n (fun e'=>e e'.symm)]
   rw [uY hc]
   have:z * (i+1)≤z * n:=Nat.mul_le_mul_left z (by omega)
   rw [Nat.mul_succ] at this
   omega
theorem qIk {f:Nm→Option Nm} (h:∀ i,i<n→(c i).map (AV.tr f)=c' i):(cat c n).map (AV.tr f)=cat c' n:=by
 induction n with
 | zero=>rfl
 | succ n ih=>rw [v9,v9,List.map_append,ih fun i hi=>h i (by omega),h n (by omega)]
end
def vR (l:List Slt):List AV:=cat (fun i=>zu (yt l i)) 8
section
variable {l:List Slt} {i j:Nat} {s:Slt} {f:Nm→Option Nm}
@[simp] theorem qIc:(vR l).length=24:=uY (z:=3) fun _=>u0
@[simp] theorem kA:(vR l).map (AV.tr f)=vR l:=qIk fun _ _=>qNp
theorem qId (hi:i<8) (hj:j<3):(vR l)[3 * i+j]?=(zu (yt l i))[j]?:=qMC (fun _=>u0) hi hj
theorem qIe (hi:i<8):((vR l).drop (3 * i)).take 3=zu (yt l i):=by
 have:=qMD (c:=fun i=>zu (yt l i)) (j:=0) (k:=3) (fun _=>u0) hi (by omega)
 rw [Nat.add_zero] at this
 rw [vR,this]
 simp only [List.drop_zero]
 exact List.take_of_length_le (by simp)
theorem qIb (hl:l.length=8) (hi:i<8):spl (vR l) (3 * i) (zu s)=vR (l.set i s):=by
 have:=qMB (c:=fun i=>zu (yt l i)) (c':=fun k=>zu (yt (l.set i s) k)) (n:=8) (i:=i) (j:=0) (vals:=zu s) (z:=3) (fun _=>u0) hi (by simp) (fun k hk=>by
  rw [qHy (by omega),if_neg hk]) (by
  rw [qHy (by omega),if_pos rfl]
  have h1:(zu (yt l i)).length=3:=u0
  simp [spl,List.drop_eq_nil_of_le,h1])
 rwa [Nat.add_zero] at this
end
abbrev Yn:Nm:=.u 1 0 0
def yA (p:Prg) (m:Mch):List AV:=[csl (qf p p.length),.hs (.c Yn 0 1) 1 0 p.length,iv m.left,iv m.en,.hs (.c Yn 0 4) 1 0 m.out.length,.hs (.c Yn 0 5) 2 0 m.trace.length]
def yB (m:Mch):List AV:=[.hs (.c Yn 0 30) 2 0 m.funs.length,.hs (.c Yn 0 31) 24 0 m.classes.length]
def yZ (m:Mch) (h:Nat):List AV:=[iv h,iv m.deep,iv m.made,iv m.cells.length]
def qw (p:Prg) (m:Mch) (h:Nat) (c:Nat→List AV):List AV:=yA p m++(vR m.globals++(yB m++(cat c 151++yZ m h)))
def yfr (i:Nat) (f:Frm):List AV:=[iv f.blk,iv f.pc,.hs (.c Yn 0 (32+29 * i+2)) 3 0 f.fasts.length,.hs (.c Yn 0 (32+29 * i+3)) 1 0 f.cells.length]++(vR f.names++[.hs (.c Yn 0 (32+29 * i+28)) 2 0 f.stack.length])
def yc (fs:List Frm) (J:Nat→List AV) (i:Nat):List AV:=match fs[i]? with|some f=>yfr i f|none=>J i
section
variable {p:Prg} {m:Mch} {h h' i j k x:Nat} {c c' J:Nat→List AV} {fs:List Frm} {f g:Frm} {s:Slt} {vals:List AV} {e:Int} {r:Nm→Option Nm}
@[simp] theorem yfr_len:(yfr i f).length=29:=by simp [yfr]
theorem j8 (hJ:∀ i,(J i).length=29) (i:Nat):(yc fs J i).length=29:=by
 unfold yc
 split
 ·simp
 ·exact hJ i
theorem yN (hc:∀ i,(c i).length=29):(qw p m h c).length=4415:=by simp [qw,yA,yB,yZ,uY hc]
@[simp] theorem qPI:(qw p m h c)[0]?=some (csl (qf p p.length)):=rfl
@[simp] theorem qS9:(qw p m h c)[1]?=some (.hs (.c Yn 0 1) 1 0 p.length):=rfl
@[simp] theorem qPH:(qw p m h c)[2]?=some (iv m.left):=rfl
@[simp] theorem qPG:(qw p m h c)[3]?=some (iv m.en):=rfl
@[simp] theorem qPF:(qw p m h c)[4]?=some (.hs (.c Yn 0 4) 1 0 m.out.length):=rfl
@[simp] theorem qPE:(qw p m h c)[5]?=some (.hs (.c Yn 0 5) 2 0 m.trace.length):=rfl
theorem qFP {P X S:List AV} {q:Nat} (hq:q=P.length+k) (hk:k<X.length) (hR:qw p m h c=P++(X++S)):(qw p m h c)[q]?=X[k]?:=by rw [hR,hq];exact qH3 hk
theorem qSa {P X S:List AV} {q n:Nat} (hq:q=P.length+k) (hk:k+n≤X.length) (hR:qw p m h c=P++(X++S)):((qw p m h c).drop q).take n=(X.drop k).take n:=by rw [hR,hq];exact qH9 hk
theorem qFO {P X S:List AV} {q:Nat} (hq:q=P.length+k) (hk:k+vals.length≤X.length) (hR:qw p m h c=P++(X++S)):spl (qw p m h c) q vals=P++(spl X k vals++S):=by rw [hR,hq];exact kR hk
theorem qVa:qw p m h c=yA p m++(vR m.globals++(yB m++(cat c 151++yZ m h))):=rfl
theorem qPJ:qw p m h c=(yA p m++vR m.globals)++(yB m++(cat c 151++yZ m h)):=by simp [qw]
theorem qVV:qw p m h c=(yA p m++(vR m.globals++yB m))++(cat c 151++yZ m h):=by simp [qw]
theorem qKG:qw p m h c=(yA p m++(vR m.globals++(yB m++cat c 151)))++(yZ m h++[]):=by simp [qw]
theorem qX0:(yA p m).length=6:=rfl
theorem qVY:(yA p m++vR m.globals).length=30:=by simp [yA]
theorem qXZ:(yA p m++(vR m.globals++yB m)).length=32:=by simp [yA,yB]
theorem qPT (hc:∀ i,(c i).length=29):(yA p m++(vR m.globals++(yB m++cat c 151))).length=4411:=by simp [yA,yB,uY hc]
@[simp] theorem qPh:(qw p m h c)[30]?=some (.hs (.c Yn 0 30) 2 0 m.funs.length):=by rw [qFP (k:=0) (by rw [qVY]) (by simp [yB]) qPJ];rfl
@[simp] theorem qPg:(qw p m h c)[31]?=some (.hs (.c Yn 0 31) 24 0 m.classes.length):=by rw [qFP (k:=1) (by rw [qVY]) (by simp [yB]) qPJ];rfl
theorem qAD (hc:∀ i,(c i).length=29):(qw p m h c)[4411]?=some (iv h):=by rw [qFP (k:=0) (by rw [qPT hc]) (by simp [yZ]) qKG];rfl
theorem qFS (hc:∀ i,(c i).length=29):(qw p m h c)[4412]?=some (iv m.deep):=by rw [qFP (k:=1) (by rw [qPT hc]) (by simp [yZ]) qKG];rfl
theorem qFR (hc:∀ i,(c i).length=29):(qw p m h c)[4413]?=some (iv m.made):=by rw [qFP (k:=2) (by rw [qPT hc]) (by simp [yZ]) qKG];rfl
theorem qFQ (hc:∀ i,(c i).length=29):(qw p m h c)[4414]?=some (iv m.cells.length):=by rw [qFP (k:=3) (by rw [qPT hc]) (by simp [yZ]) qKG];rfl
theorem qS8 (hx:x<8) (hj:j<3):(qw p m h c)[6+(3 * x+j)]?=(zu (yt m.globals x))[j]?:=by
 rw [qFP (k:=3 * x+j) (by rw [qX0]) (by simp;omega) qVa]
 exact qId hx hj
theorem qPb:((qw p m h c).drop 6).take 24=vR m.globals:=by
 rw [qSa (k:=0) (n:=24) (by rw [qX0]) (by simp) qVa]
 simp only [List.drop_zero]
 exact List.take_of_length_le (by simp)
theorem qY1 (hc:∀ i,(c i).length=29) (hi:i<151) (hj:j<29):(qw p m h c)[32+(29 * i+j)]?=(c i)[j]?:=by
 rw [qFP (k:=29 * i+j) (by rw [qXZ]) (by rw [uY hc];omega) qVV]
 exact qMC hc hi hj
theorem qV9 (hc:∀ i,(c i).length=29) (hi:i<151) (hj:j+k≤29):((qw p m h c).drop (32+(29 * i+j))).take k=((c i).drop j).take k:=by
 rw [qSa (k:=29 * i+j) (n:=k) (by rw [qXZ]) (by rw [uY hc];omega) qVV]
 exact qMD hc hi hj
theorem qS5:spl (qw p m h c) 2 [iv x]=qw p { m with left:=x } h c:=rfl
theorem qS4:spl (qw p m h c) 3 [iv e]=qw p { m with en:=e } h c:=rfl
theorem qS3 {o:List Int}:spl (qw p m h c) 4 [.hs (.c Yn 0 4) 1 0 o.length]=qw p { m with out:=o } h c:=rfl
theorem qS2 {o:List (Nat×Nat)}:spl (qw p m h c) 5 [.hs (.c Yn 0 5) 2 0 o.length]=qw p { m with trace:=o } h c:=rfl
theorem qPd {o:List (Nat×List Nat)}:spl (qw p m h c) 30 [.hs (.c Yn 0 30) 2 0 o.length]=qw p { m with funs:=o } h c:=by
 rw [qFO (k:=0) (by rw [qVY]) (by simp [yB]) qPJ,qPJ]
 rfl
theorem qPc {o:List (List Slt)}:spl (qw p m h c) 31 [.hs (.c Yn 0 31) 24 0 o.length]=qw p { m with classes:=o } h c:=by
 rw [qFO (k:=1) (by rw [qVY]) (by simp [yB]) qPJ,qPJ]
 rfl
theorem qPC (hc:∀ i,(c i).length=29):spl (qw p m h c) 4411 [iv h']=qw p m h' c:=by
 rw [qFO (k:=0) (by rw [qPT hc]) (by simp [yZ]) qKG,qKG]
 rfl
theorem qS0 (hc:∀ i,(c i).length=29):spl (qw p m h c) 4412 [iv x]=qw p { m with deep:=x } h c:=by
 rw [qFO (k:=1) (by rw [qPT hc]) (by simp [yZ]) qKG,qKG]
 rfl
theorem qSY (hc:∀ i,(c i).length=29):spl (qw p m h c) 4413 [iv x]=qw p { m with made:=x } h c:=by
 rw [qFO (k:=2) (by rw [qPT hc]) (by simp [yZ]) qKG,qKG]
 rfl
theorem qS1 (hc:∀ i,(c i).length=29) {o:List Slt}:spl (qw p m h c) 4414 [iv o.length]=qw p { m with cells:=o } h c:=by
 rw [qFO (k:=3) (by rw [qPT hc]) (by simp [yZ]) qKG,qKG]
 rfl
theorem qSZ (hl:m.globals.length=8) (hx:x<8):spl (qw p m h c) (6+3 * x) (zu s)=qw p { m with globals:=m.globals.set x s } h c:=by
 rw [qFO (k:=3 * x) (by rw [qX0]) (by simp;omega) qVa,qIb hl hx]
 rfl
theorem qHn (hc:∀ i,(c i).length=29) (hi:i<151) (hj:j+vals.length≤29) (hk:∀ k,k≠i→c' k=c k) (hx:spl (c i) j vals=c' i):spl (qw p m h c) (32+(29 * i+j)) vals=qw p m h c':=by
 rw [qFO (k:=29 * i+j) (by rw [qXZ]) (by rw [uY hc];omega) qVV,qMB hc hi hj hk hx,qVV]
theorem qSX (hi:i<fs.length) (hk:k≠i):yc (fs.set i g) J k=yc fs J k:=by
 unfold yc
 rw [List.getElem?_set,if_neg (fun e=>hk e.symm)]
theorem qGl (hi:fs[i]?=some f):yc fs J i=yfr i f:=by simp [yc,hi]
theorem qHm (hJ:∀ i,(J i).length=29) (hf:fs[i]?=some f) (hi:i<151) (hj:j+vals.length≤29) (hx:spl (yfr i f) j vals=yfr i g):spl (qw p m h (yc fs J)) (32+(29 * i+j)) vals=qw p m h (yc (fs.set i g) J):=by
 have hl:=(gS hf).1
 refine qHn (j8 hJ) hi hj (fun k hk=>qSX hl hk) ?_
 rw [qGl hf,hx,qGl (f:=g) (by simp [hl])]
end
end Go.Hm
end
section
namespace Go.Hm
open Go Go.RowKit
def jW (l:List (Nat×List Nat)):List (List AV):=l.map fun g=>[iv g.1,.sl 1 (zI g.2)]
def jc (l:List (List Slt)):List (List AV):=l.map vR
def jd (p:Prg) (n:Nat):List (List AV):=(List.range n).map fun b=>[isl (zL p b)]
section
variable {l:List (Nat×List Nat)} {cs:List (List Slt)} {i n:Nat} {r:Nm→Option Nm} {g:Nat×List Nat} {c:List Slt} {p:Prg}
@[simp] theorem fyRows_len:(jW l).length=l.length:=by simp [jW]
@[simp] theorem fyRows_getE {h:i<(jW l).length}:(jW l)[i]=[iv (l[i]'(by simpa using h)).1,.sl 1 (zI (l[i]'(by simpa using h)).2)]:=by simp [jW]
@[simp] theorem qDf (h:∀ i,r (En i)=some (En i)):(jW l).map (fun y=>y.map (AV.tr r))=jW l:=by
 simp only [jW,List.map_map]
 apply List.map_congr_left
 intro g _
 have:(zI g.2).map (fun y=>y.map (AV.tr r))=zI g.2:=vv h
 simp [AV.tr,jM,this]
@[simp] theorem fyRows_take {k:Nat}:(jW l).take k=jW (l.take k):=by simp [jW]
theorem qJm:jW l++[[iv g.1,.sl 1 (zI g.2)]]=jW (l++[g]):=by simp [jW]
@[simp] theorem fyRows_nil:jW []=[]:=rfl
@[simp] theorem cyRows_len:(jc cs).length=cs.length:=by simp [jc]
@[simp] theorem cyRows_getE {h:i<(jc cs).length}:(jc cs)[i]=vR (cs[i]'(by simpa using h)):=by simp [jc]
@[simp] theorem cyRows_tr:(jc cs).map (fun y=>y.map (AV.tr r))=jc cs:=by simp [jc]
@[simp] theorem cyRows_take {k:Nat}:(jc cs).take k=jc (cs.take k):=by simp [jc]
theorem qJu:jc cs++[vR c]=jc (cs++[c]):=by simp [jc]
@[simp] theorem cyRows_nil:jc []=[]:=rfl
@[simp] theorem cpRows_len:(jd p n).length=n:=by simp [jd]
@[simp] theorem cpRows_getE {h:i<(jd p n).length}:(jd p n)[i]=[isl (zL p i)]:=by simp [jd]
@[simp] theorem cpRows_tr:(jd p n).map (fun y=>y.map (AV.tr r))=jd p n:=by simp [jd]
theorem qJv:jd p n++[[isl (zL p n)]]=jd p (n+1):=by simp [jd,List.range_succ]
@[simp] theorem cpRows_zero:jd p 0=[]:=rfl
end
section
variable {i n k:Nat} {f:Frm} {r:Nm→Option Nm} {p:Prg} {m:Mch} {h:Nat} {c:Nat→List AV}
theorem qSW:spl (yfr i f) 1 [iv n]=yfr i { f with pc:=n }:=rfl
theorem qKK {l:List Val}:spl (yfr i f) 28 [.hs (.c Yn 0 (32+29 * i+28)) 2 0 l.length]=yfr i { f with stack:=l }:=by
 have h1:(yfr i f).take 28=[iv f.blk,iv f.pc,.hs (.c Yn 0 (32+29 * i+2)) 3 0 f.fasts.length,.hs (.c Yn 0 (32+29 * i+3)) 1 0 f.cells.length]++vR f.names:=by
  unfold yfr
  rw [List.take_append,List.take_append]
  have:(vR f.names).length=24:=qIc
  simp
  exact List.take_of_length_le (by simp)
 have h2:(yfr i f).drop 29=[]:=List.drop_eq_nil_of_le (by simp)
 unfold spl
 rw [h1]
 simp only [List.length_singleton,Nat.reduceAdd]
 rw [h2]
 simp [yfr]
theorem qKL {x:Nat} {s:Slt} (hl:f.names.length=8) (hx:x<8):spl (yfr i f) (4+3 * x) (zu s)=yfr i { f with names:=f.names.set x s }:=by
 have h4:∀ a b d e:AV,[a,b,d,e].length=4:=fun _ _ _ _=>rfl
 have:=kR (P:=[iv f.blk,iv f.pc,.hs (.c Yn 0 (32+29 * i+2)) 3 0 f.fasts.length,.hs (.c Yn 0 (32+29 * i+3)) 1 0 f.cells.length]) (X:=vR f.names) (S:=[.hs (.c Yn 0 (32+29 * i+28)) 2 0 f.stack.length]) (k:=3 * x) (vals:=zu s) (by simp;omega)
 rw [h4,qIb hl hx] at this
 exact this
@[simp] theorem yfr_get0:(yfr i f)[0]?=some (iv f.blk):=rfl
@[simp] theorem yfr_get1:(yfr i f)[1]?=some (iv f.pc):=rfl
@[simp] theorem yfr_get2:(yfr i f)[2]?=some (.hs (.c Yn 0 (32+29 * i+2)) 3 0 f.fasts.length):=rfl
@[simp] theorem yfr_get3:(yfr i f)[3]?=some (.hs (.c Yn 0 (32+29 * i+3)) 1 0 f.cells.length):=rfl
@[simp] theorem qKM:(yfr i f)[28]?=some (.hs (.c Yn 0 (32+29 * i+28)) 2 0 f.stack.length):=by
 unfold yfr
 rw [List.getElem?_append_right (by simp),List.getElem?_append_right (by simp)]
 simp
theorem qMe {x j:Nat} (hx:x<8) (hj:j<3):(yfr i f)[4+(3 * x+j)]?=(zu (yt f.names x))[j]?:=by
 have:=qH3 (P:=[iv f.blk,iv f.pc,.hs (.c Yn 0 (32+29 * i+2)) 3 0 f.fasts.length,.hs (.c Yn 0 (32+29 * i+3)) 1 0 f.cells.length]) (X:=vR f.names) (S:=[.hs (.c Yn 0 (32+29 * i+28)) 2 0 f.stack.length]) (k:=3 * x+j) (by simp;omega)
 rw [qId hx hj] at this
 exact this
theorem qKJ:((yfr i f).drop 4).take 24=vR f.names:=by
 have:=qH9 (P:=[iv f.blk,iv f.pc,.hs (.c Yn 0 (32+29 * i+2)) 3 0 f.fasts.length,.hs (.c Yn 0 (32+29 * i+3)) 1 0 f.cells.length]) (X:=vR f.names) (S:=[.hs (.c Yn 0 (32+29 * i+28)) 2 0 f.stack.length]) (k:=0) (n:=24) (by simp)
 rw [List.drop_zero] at this
 exact this.trans (List.take_of_length_le (by simp))
theorem qP9 (hr:∀ j,r (.c Yn 0 j)=some (.c Yn 0 j)):(yfr i f).map (AV.tr r)=yfr i f:=by simp [yfr,hr]
end
structure OwnY (hp:Nm→Option AO) (p:Prg) (m:Mch):Prop where
 top:∃ J:Nat→List AV,(∀ i,(J i).length=29)∧hp Yn=some (.row 4415 [qw p m m.frames.length (yc m.frames J)])
 caps:hp (.c Yn 0 1)=some (.row 1 (jd p p.length))
 out:hp (.c Yn 0 4)=some (.row 1 (qY m.out))
 trc:hp (.c Yn 0 5)=some (.row 2 (yI m.trace))
 funs:hp (.c Yn 0 30)=some (.row 2 (jW m.funs))
 clss:hp (.c Yn 0 31)=some (.row 24 (jc m.classes))
 fasts:∀ (i:Nat) f,m.frames[i]?=some f→hp (.c Yn 0 (32+29 * i+2))=some (.row 3 (qV f.fasts))
 cls:∀ (i:Nat) f,m.frames[i]?=some f→hp (.c Yn 0 (32+29 * i+3))=some (.row 1 (zI f.cells))
 stack:∀ (i:Nat) f,m.frames[i]?=some f→∃ j,hp (.c Yn 0 (32+29 * i+28))=some (.row 2 (zB (f.stack++j)))
 cell:∀ (c:Nat) s,m.cells[c]?=some s→hp (En c)=some (.row 3 [zu s])
 only:∀ k i j,fM k=true→hp (.u k i j)≠none→(k=1∧i=0∧j=0)∨(k=7∧i<m.cells.length∧j=0)
section
variable {hp hp' H:Nm→Option AO} {p:Prg} {m m' m0:Mch}
theorem OwnY.re (h:OwnY hp p m)
  (h0:∀ J:Nat→List AV,(∀ i,(J i).length=29)→hp Yn=some (.row 4415 [qw p m m.frames.length (yc m.frames J)])→hp' Yn=some (.row 4415 [qw p m m.frames.length (yc m.frames J)]):=by intro J _ hJ;simp [hJ])
  (h1:hp' (.c Yn 0 1)=some (.row 1 (jd p p.length)):=by simp [h.caps])
  (h2:hp' (.c Yn 0 4)=some (.row 1 (qY m.out)):=by simp [h.out])
  (h3:hp' (.c Yn 0 5)=some (.row 2 (yI m.trace)):=by simp [h.trc])
  (h4:hp' (.c Yn 0 30)=some (.row 2 (jW m.funs)):=by simp [h.funs])
  (h5:hp' (.c Yn 0 31)=some (.row 24 (jc m.classes)):=by simp [h.clss])
  (h6:∀ (i:Nat) f,m.frames[i]?=some f→hp (.c Yn 0 (32+29 * i+2))=some (.row 3 (qV f.fasts))→hp' (.c Yn 0 (32+29 * i+2))=some (.row 3 (qV f.fasts)):=by intro i f _ hf;simp [hf])
  (h7:∀ (i:Nat) f,m.frames[i]?=some f→hp (.c Yn 0 (32+29 * i+3))=some (.row 1 (zI f.cells))→hp' (.c Yn 0 (32+29 * i+3))=some (.row 1 (zI f.cells)):=by intro i f _ hf;simp [hf])
  (h8:∀ (i:Nat) f j,m.frames[i]?=some f→hp (.c Yn 0 (32+29 * i+28))=some (.row 2 (zB (f.stack++j)))→hp' (.c Yn 0 (32+29 * i+28))=some (.row 2 (zB (f.stack++j))):=by intro i f j _ hf;simp [hf])
  (h9:∀ (c:Nat) s,m.cells[c]?=some s→hp' (En c)=some (.row 3 [zu s]):=by intro c s hc;simp [h.cell c s hc])
  (hA:∀ k i j,fM k=true→¬ (k=1∧i=0∧j=0)→hp' (.u k i j)≠none→hp (.u k i j)≠none:=by intro k i j hk e hn;simpa [hk,e] using hn):OwnY hp' p m :=
 ⟨by obtain⟨J,hJ,e⟩:=h.top;exact⟨J,hJ,h0 J hJ e⟩,h1,h2,h3,h4,h5,fun i f hf=>h6 i f hf (h.fasts i f hf),fun i f hf=>h7 i f hf (h.cls i f hf),fun i f hf=>(h.stack i f hf).imp fun j hj=>h8 i f j hf hj,h9,
   fun k i j hk hn=>if e:k=1∧i=0∧j=0 then .inl e else h.only k i j hk (hA k i j hk e hn)⟩
theorem OwnY.ren (h:OwnY hp p m) {f:Nm→Option Nm} (hf:∀ k,DM k=true→f k=some k) (hh:∀ k,DM k=true→hp' k=(hp k).map (AO.tr f)):OwnY hp' p m:=by
 have hE:∀ i,f (En i)=some (En i):=fun i=>hf _ rfl
 have hc:∀ j,f (.c Yn 0 j)=some (.c Yn 0 j):=fun j=>hf _ rfl
 refine⟨?_,?_,?_,?_,?_,?_,fun i g hg=>?_,fun i g hg=>?_,fun i g hg=>(h.stack i g hg).imp fun j hj=>?_,fun c s hs=>?_,fun k i j hk hn=>?_⟩
 ·obtain⟨J,hJ,e⟩:=h.top
  refine⟨fun i=>(J i).map (AV.tr f),fun i=>by simp [hJ],?_⟩
  rw [hh _ rfl,e]
  have h1:(cat (yc m.frames J) 151).map (AV.tr f)=cat (yc m.frames fun i=>(J i).map (AV.tr f)) 151:=qIk fun i _=>by
   unfold yc
   split
   ·exact qP9 hc
   ·rfl
  simp only [Option.map_some,AO.tr,List.map_cons,List.map_nil,qw,List.map_append,h1,kA]
  simp [yA,yB,yZ,hc,AV.tr,jM]
 ·rw [hh _ rfl,h.caps];simp [AO.tr]
 ·rw [hh _ rfl,h.out];simp [AO.tr]
 ·rw [hh _ rfl,h.trc];simp [AO.tr]
 ·rw [hh _ rfl,h.funs]
  simp only [Option.map_some,AO.tr]
  rw [qDf hE]
 ·rw [hh _ rfl,h.clss];simp [AO.tr]
 ·rw [hh _ rfl,h.fasts i g hg];simp [AO.tr]
 ·rw [hh _ rfl,h.cls i g hg]
  simp only [Option.map_some,AO.tr]
  rw [vv hE]
 ·rw [hh _ rfl,hj];simp [AO.tr]
 ·rw [hh _ rfl,h.cell c s hs];simp [AO.tr]
 ·refine h.only k i j hk fun e=>hn ?_
  rw [hh (.u k i j) hk,e];rfl
theorem OwnY.sub (h:OwnY hp p m) {D:Nm→Bool} (hD:∀ k,DM k=true→D k=true:=by intro m hm;first|exact hm|simp [hm]):OwnY (yC D hp) p m:=by
 refine h.ren (f:=some) (fun _ _=>rfl) (fun k hk=>?_)
 rw [qLv,if_pos (hD k hk)]
 cases hp k with
 | none=>rfl
 | some o=>simp [AO.tr_some]
theorem OwnY.ext (h0:OwnY H p m0) (h:OwnY hp p m) (hc:m0.cells.length≤m.cells.length):∀ k i j,(H (.u k i j)).isSome=true→DM (.u k i j)=false∨(yC DM hp) (.u k i j)≠none:=by
 intro k i j hs
 cases hD:fM k with
 | false=>exact .inl hD
 | true =>
  right
  have hd:DM (.u k i j)=true:=hD
  rw [qLv,if_pos hd]
  rcases h0.only k i j hD (by intro e;rw [e] at hs;cases hs) with⟨rfl,rfl,rfl⟩|⟨rfl,hi,rfl⟩
  ·obtain⟨J,_,e⟩:=h.top
   rw [e];simp
  ·have hi':i<m.cells.length:=by omega
   rw [h.cell i _ (gE hi')];simp
end
section
variable {hp:Nm→Option AO} {p:Prg} {m:Mch} {n:Nm} {dp:Nat} {D:Nm→Bool} {sbs:List (Nm×Nm)}
theorem OwnY.fin (h:OwnY hp p m) (hD:∀ k,D k=true→k.sroot=false:=by exact fun _=>qQ) (hW:∀ k,DM k=true→D k=true:=by exact fun _ h=>h) (hs:∀ q∈sbs,q.1.sroot=true:=by simp [Nm.sroot]):OwnY (wX D sbs hp) p m :=
 h.ren (f:=jO D sbs) (fun k hk=>qDh hD (hW k hk) hs) (fun k hk=>by simp only [wX,hW k hk,if_true])
theorem OwnX.fin (h:OwnX hp p n m dp) (hn:Nm.under Xn n=true∨n=.u 2 0 0) (hD:∀ k,D k=true→k.sroot=false:=by exact fun _=>z7) (hW:∀ k,D12 k=true→D k=true:=by exact fun _ h=>h) (hs:∀ q∈sbs,q.1.sroot=true:=by simp [Nm.sroot]):OwnX (wX D sbs hp) p n m dp :=
 h.ren hn (f:=jO D sbs) (fun k hk=>qDh hD (hW k hk) hs) (fun k hk=>by simp only [wX,hW k hk,if_true])
end
end Go.Hm
end
section
namespace Go.Hm
open Go Go.RowKit
abbrev Txt:=List UInt8
section
variable {s:Stm} {k:Blk} {p q:Prg} {l w:Txt} {ns:List Int} {ks:List Nat} {ls ws:List Txt} {i n:Nat}
def Small (ns:List Int):Prop:=∀ n∈ns,0≤n∧n≤99
end
end Go.Hm
end
section

end
section

end
section

end
section

end
section

end
section

end
section

end
section

end
section

end
section

end
section

end
section
namespace Go.Hm
open Go Go.RowKit
section
variable {P:Program} {own:Nat→Prop} {C:Nat→Prop} {w0:World} {g:Gh} {st:St} {a:Go.Act} {w:World}
def qVD (T:TypeId) (d:Nat) (st:St):St :=
 ((st.kill (.s d)).setO (.s d) (.trow T 2 true [[.sc (.pointer none),.sc (.slice none 0 0)]])).put (some d) (.pt (.s d) 0)
theorem qGh {o:Oper} {T:TypeId} {d:Nat} (h:Rg P own C w0 g st a w) (ho:o.op=.alloc T) (hd:o.dst=some d) (hn:d<st.n) (hq:jX P T=some [.sc (.pointer none),.sc (.slice none 0 0)]) :
  qIs P o a w fun a' w'=>Rel P own C w0 g (qVD T d st) a' w':=by
 obtain⟨i,z,q1,q2,q3,q4,q5⟩:=qAg hq
 have hz:z.cells=#[.pointer none,.slice none 0 0]:=by
  have h2:z.cells.toList=[.pointer none,.slice none 0 0]:=by
   rcases hl:z.cells.toList with _|⟨x,_|⟨y,_|⟨u,tl⟩⟩⟩ <;> rw [hl] at q4 <;> simp at q4
   rw [q4.1,q4.2]
  apply Array.ext'
  exact h2
 refine .inl ⟨.pointer (some ⟨w.heap.size,0,none⟩),w.alloc (.cells z.cells T),?_,?_⟩
 ·simp [execOp,ho,Instr.alloc,zeroValue,typeInfo,q1,q2,newVar,newRow]
 ·rw [hd,hz]
  have hm:=h.made (.s d) (.trow T 2 true [[.sc (.pointer none),.sc (.slice none 0 0)]]) w.heap.size 1 (w.alloc (.cells #[.pointer none,.slice none 0 0] T)) [] (fun p hp=>by cases hp) (fun _=>false) rfl rfl rfl (by simp) (.inl (Nat.le_refl _)) (by simp) (fun b' _ hb'=>ui _ hb') (by
   simp only [OAt,(zK (g:=g) (.s d) (some w.heap.size) 1).1,(zK (g:=g) (.s d) (some w.heap.size) 1).2]
   refine⟨⟨_,heap_alloc_new w _,by simp,by decide,by simp,by simp,?_,?_⟩,fun _=>rfl,fun e=>(by cases e)⟩
   ·intro j hj
    match j,hj with
    | 0,_=>rfl
    | 1,_=>rfl
   ·intro i row hrow j x hx
    match i,hrow with
    | 0,hrow =>
     obtain rfl:=sI hrow
     match j,hx with
     | 0,hx=>obtain rfl:=sI hx;exact .sc _
     | 1,hx=>obtain rfl:=sI hx;exact .sc _)
  have ek:(st.nm (kl (.s d)) (fun m=>if (fun _=>false:Nm→Bool) m then none else hkl (.s d) st.hp m))=st.kill (.s d):=by simp [St.kill]
  rw [ek] at hm
  have hp:=hm.put (d:=some d) (v:=.pointer (some ⟨w.heap.size,0,none⟩)) (x:=.pt (.s d) 0) (fun t et=>by
   obtain rfl:=sI et
   exact hn) (.pt _ _ _ (zK _ _ _).1)
  exact⟨_,Ust.fresh rfl,hp⟩
end
section
variable {X:Ctx} {st:St} {K:St→Prop} {E:AV→St→Prop} {ty:TypeId} {pos:String} {aft:Array Edge} {g:Option (Nat×Bool)} {d:Nat} {T:TypeId}
theorem qHp (hd:d<X.n:=by first|(simp;done)|fail) (hq:jX X.P T=some [.sc (.pointer none),.sc (.slice none 0 0)]) (h:K (qVD T d st)):qj X ⟨some d,.alloc T,ty,pos,aft,g⟩ K E st :=
 .of_rel (fun _ _ _ _ e' h=>qGh h rfl rfl (e' ▸ hd) hq) ⟨rfl,rfl⟩ h
end
end Go.Hm
end
section

end
section

end
section

end
section

end
section

end
section

end
section
namespace Go.Hm
open Go Go.RowKit
section
variable {X:Ctx} {st:St} {K:St→Prop} {E:AV→St→Prop} {d:Nat} {ty:TypeId} {pos:String} {aft:Array Edge} {g:Option (Nat×Bool)} {f:Nat} {args:Array Operand} {Ts:Array TypeId} {bs:List AV}
theorem yO {x:AV} (hd:d<X.n:=by first|(simp;done)|fail) (ha:args.toList.map (ev st)=bs:=by simp [fx];first|done|rfl|exact (Bool.not_not _).symm)
  (hF:qW X.P X.gl f bs (fun _ y _=>y=x)) (h:K ((st.kill (.s d)).put (some d) x)):qj X ⟨some d,.call ⟨.value (.func f),args,Ts⟩,ty,pos,aft,g⟩ K E st:=by
 refine qj.weak (qVb (K:=fun s=>∃ H',s=(st.call d noD noH H').put (some d) x) hd ha hF ?_) ?_
 ·rintro y H' rfl
  exact⟨H',rfl⟩
 ·rintro s ⟨H',rfl⟩
  refine⟨(st.kill (.s d)).hp,fun m ob e=>?_,?_⟩
  ·simp only [St.kill,St.nm,hkl] at e
   simp only [St.put,St.call,St.nm]
   split at e
   ·cases e
   ·rename_i hu
    simp [hu,noD,qA7,e]
  ·simpa only [St.put,St.call,St.nm,St.kill,qA7] using h
theorem qYY {P:Program} {T:TypeId} {zs:List AV} (_hq:jX P T=some zs) (h:qj X ⟨some d,.alloc T,ty,pos,aft,g⟩ K E st):qj X ⟨some d,.alloc T,ty,pos,aft,g⟩ K E st:=h
end
theorem qBU {G G':Prop} (k:G') (h:KTag G'→G:=by
 intro kk
 repeat' (first
  | refine qN ?_|refine qJ ?_|refine qR ?_|refine qAj ?_|refine qM fun K hK=>?_
  | ((with_reducible refine qK hK ?_);clear hK K)|(with_reducible refine qK hK ?_)
  | (with_reducible first|refine qC ?_|refine qP ?_|refine qd ?_|refine zD ?_|refine qI ?_|refine qc ?_|refine wL ?_|refine ql (by decide) ?_)
  | refine qn ?_
  | refine qX ?_
  | (with_reducible refine qG ?_)
  | ((with_reducible refine yV ?_);refine q6 (h:=?_))
  | (with_reducible first|refine ze ?_|refine jE ?_|refine vG (h:=?_)|refine vj (h:=?_)|refine x_u (h:=?_)|refine qE (h:=?_)|refine zG (h:=?_)|refine qU (h:=?_)|refine j9 (h:=?_)|refine kN (h:=?_)|refine ji (h:=?_)|refine jY (h:=?_)|refine wO (h:=?_)|refine yD (h:=?_))
  | ((with_reducible refine qYY b1 ?_);refine qHp (hq:=b1) (h:=?_))|(with_reducible refine qg (h:=?_))
  | ((with_reducible refine zF c1 rfl ?_);refine zT (hF:=c1) (h:=?_))
  | ((with_reducible refine zF c2 rfl ?_);refine zT (hF:=c2) (h:=?_))
  | ((with_reducible refine zF c3 rfl ?_);refine zT (hF:=c3) (h:=?_))
  | ((with_reducible refine zF c4 rfl ?_);refine zT (hF:=c4) (h:=?_))
  | ((with_reducible refine zF c5 rfl ?_);refine zT (hF:=c5) (h:=?_))
  | ((with_reducible refine zF c6 rfl ?_);refine zT (hF:=c6) (h:=?_))
  | ((with_reducible refine zF d1 rfl ?_);refine zX (hF:=d1) (h:=?_))
  | ((with_reducible refine zF d2 rfl ?_);refine zX (hF:=d2) (h:=?_))
  | ((with_reducible refine zF d3 rfl ?_);refine zX (hF:=d3) (h:=?_))
  | ((with_reducible refine zF d4 rfl ?_);refine zX (hF:=d4) (h:=?_))
  | ((with_reducible refine zF e1 rfl ?_);refine vB (hF:=e1) (h:=?_))
  | ((with_reducible refine zF e2 rfl ?_);refine vB (hF:=e2) (h:=?_))
  | ((with_reducible refine zF p1 rfl ?_);refine yO (hF:=p1) (h:=?_))
  | ((with_reducible refine zF p2 rfl ?_);refine yO (hF:=p2) (h:=?_))
  | ((with_reducible refine zF p3 rfl ?_);refine yO (hF:=p3) (h:=?_))
  | ((with_reducible refine zF p4 rfl ?_);refine yO (hF:=p4) (h:=?_))
  | ((with_reducible refine zF p5 rfl ?_);refine yO (hF:=p5) (h:=?_))
  | ((with_reducible refine zF p6 rfl ?_);refine yO (hF:=p6) (h:=?_))
  | (with_reducible refine x_q (h:=?_))
  | (with_reducible refine vC (fun ht=>?_) (fun ht=>?_))
  | refine qO (h1:=?_)|refine qS (h1:=?_)
  | ((with_reducible refine uF hK ?_);clear hK K)|(with_reducible refine uF hK ?_)
  | ((with_reducible refine qAf ?_);first|refine qFT (h:=?_)|refine qBt (h:=?_)|refine qBu (h:=?_)|refine qBs (h:=?_))
  | ((with_reducible refine qAf ?_);refine qBv (h1:=fun ht=>?_) (h2:=fun ht=>?_))
  | refine a_l rfl ?_|refine qMY ?_ ?_|refine qMX ?_ ?_ ?_|(with_reducible refine aI ?_ ?_)|exact vW|refine w7 (h2:=?_)
  | fail)
 first|exact kk.h|(revert hK;revert K;exact kk.h)):G:=h ⟨k⟩
theorem qEk {G G':Prop} (k:G') (h:KTag G'→G:=by
 intro kk K hK
 repeat' (first
  | refine qN ?_|refine qJ ?_|refine qR ?_|refine qAj ?_|refine qM fun K hK=>?_
  | ((with_reducible refine qK hK ?_);clear hK K)|(with_reducible refine qK hK ?_)
  | (with_reducible first|refine qC ?_|refine qP ?_|refine qd ?_|refine zD ?_|refine qI ?_|refine qc ?_|refine wL ?_|refine ql (by decide) ?_)
  | refine qn ?_
  | refine qX ?_
  | (with_reducible refine qG ?_)
  | ((with_reducible refine yV ?_);refine q6 (h:=?_))
  | (with_reducible first|refine ze ?_|refine jE ?_|refine vG (h:=?_)|refine vj (h:=?_)|refine x_u (h:=?_)|refine qE (h:=?_)|refine zG (h:=?_)|refine qU (h:=?_)|refine j9 (h:=?_)|refine kN (h:=?_)|refine ji (h:=?_)|refine jY (h:=?_)|refine wO (h:=?_)|refine yD (h:=?_))
  | ((with_reducible refine qYY b1 ?_);refine qHp (hq:=b1) (h:=?_))|(with_reducible refine qg (h:=?_))
  | ((with_reducible refine zF c1 rfl ?_);refine zT (hF:=c1) (h:=?_))
  | ((with_reducible refine zF c2 rfl ?_);refine zT (hF:=c2) (h:=?_))
  | ((with_reducible refine zF c3 rfl ?_);refine zT (hF:=c3) (h:=?_))
  | ((with_reducible refine zF c4 rfl ?_);refine zT (hF:=c4) (h:=?_))
  | ((with_reducible refine zF c5 rfl ?_);refine zT (hF:=c5) (h:=?_))
  | ((with_reducible refine zF c6 rfl ?_);refine zT (hF:=c6) (h:=?_))
  | ((with_reducible refine zF d1 rfl ?_);refine zX (hF:=d1) (h:=?_))
  | ((with_reducible refine zF d2 rfl ?_);refine zX (hF:=d2) (h:=?_))
  | ((with_reducible refine zF d3 rfl ?_);refine zX (hF:=d3) (h:=?_))
  | ((with_reducible refine zF d4 rfl ?_);refine zX (hF:=d4) (h:=?_))
  | ((with_reducible refine zF e1 rfl ?_);refine vB (hF:=e1) (h:=?_))
  | ((with_reducible refine zF e2 rfl ?_);refine vB (hF:=e2) (h:=?_))
  | ((with_reducible refine zF p1 rfl ?_);refine yO (hF:=p1) (h:=?_))
  | ((with_reducible refine zF p2 rfl ?_);refine yO (hF:=p2) (h:=?_))
  | ((with_reducible refine zF p3 rfl ?_);refine yO (hF:=p3) (h:=?_))
  | ((with_reducible refine zF p4 rfl ?_);refine yO (hF:=p4) (h:=?_))
  | ((with_reducible refine zF p5 rfl ?_);refine yO (hF:=p5) (h:=?_))
  | ((with_reducible refine zF p6 rfl ?_);refine yO (hF:=p6) (h:=?_))
  | (with_reducible refine x_q (h:=?_))
  | (with_reducible refine vC (fun ht=>?_) (fun ht=>?_))
  | refine qO (h1:=?_)|refine qS (h1:=?_)
  | ((with_reducible refine uF hK ?_);clear hK K)|(with_reducible refine uF hK ?_)
  | ((with_reducible refine qAf ?_);first|refine qFT (h:=?_)|refine qBt (h:=?_)|refine qBu (h:=?_)|refine qBs (h:=?_))
  | ((with_reducible refine qAf ?_);refine qBv (h1:=fun ht=>?_) (h2:=fun ht=>?_))
  | refine a_l rfl ?_|refine qMY ?_ ?_|refine qMX ?_ ?_ ?_|(with_reducible refine aI ?_ ?_)|exact vW|refine w7 (h2:=?_)
  | fail)
 first|exact kk.h|(revert hK;revert K;exact kk.h)):G:=h ⟨k⟩
theorem wa {l:List (Nm×Nat)} {st:St} {m:Nm}:(St.setNils l st).hp m=match l.find? (fun p=>decide (p.1=m)) with
  | some p=>some (.row p.2 [])
  | none=>st.hp m:=by
 induction l with
 | nil=>rfl
 | cons p l ih =>
  rw [qFa]
  by_cases e:p.1=m
  ·simp [St.setO,e]
  ·have e2:¬ m=p.1:=fun h=>e h.symm
   simp only [St.setO,e2,if_false,ih,List.find?_cons,e,decide_false]
end Go.Hm
end
section
namespace Go.Hm
open Go Go.RowKit
section
variable {hp hp':Nm→Option AO} {p:Prg} {n:Nm} {m m':Mch} {dp dp':Nat} {fs L:List Frm} {f g:Frm} {o:Int×Int} {s:Slt}
@[simp] theorem kP:(m.top fs f).cells=m.cells:=rfl
@[simp] theorem qGp:(m.top fs f).globals=m.globals:=rfl
@[simp] theorem um:(m.top fs f).funs=m.funs:=rfl
@[simp] theorem qGq:(m.top fs f).classes=m.classes:=rfl
@[simp] theorem qBg:(m.top fs f).made=m.made:=rfl
@[simp] theorem top_deep:(m.top fs f).deep=m.deep:=rfl
@[simp] theorem qPl:(m.top fs f).out=m.out:=rfl
@[simp] theorem top_trace:(m.top fs f).trace=m.trace:=rfl
@[simp] theorem top_en:(m.top fs f).en=m.en:=rfl
@[simp] theorem top_left:(m.top fs f).left=m.left:=rfl
@[simp] theorem qIu:(m.top fs f).frames=fs++[f]:=rfl
@[simp] theorem stop_cells {e:Int}:(m.stop fs f e).cells=m.cells:=rfl
@[simp] theorem stop_globals {e:Int}:(m.stop fs f e).globals=m.globals:=rfl
@[simp] theorem stop_funs {e:Int}:(m.stop fs f e).funs=m.funs:=rfl
@[simp] theorem stop_classes {e:Int}:(m.stop fs f e).classes=m.classes:=rfl
@[simp] theorem stop_made {e:Int}:(m.stop fs f e).made=m.made:=rfl
@[simp] theorem stop_deep {e:Int}:(m.stop fs f e).deep=m.deep:=rfl
@[simp] theorem stop_out {e:Int}:(m.stop fs f e).out=m.out:=rfl
@[simp] theorem stop_trace {e:Int}:(m.stop fs f e).trace=m.trace:=rfl
@[simp] theorem stop_left {e:Int}:(m.stop fs f e).left=m.left:=rfl
@[simp] theorem stop_en {e:Int}:(m.stop fs f e).en=e:=rfl
@[simp] theorem stop_frames {e:Int}:(m.stop fs f e).frames=fs++[f]:=rfl
theorem z9 {d:Nat} {v:Val} (hi:L[fs.length]?=some f):(q8 (qq p (.u 2 0 0) L) fs.length 6 [.hs (.s d) 2 0 (f.stack.length+1)]).map (fun r=>r.map (AV.tr (mv (.s d) (.c (.u 2 0 0) fs.length 6))))=qq p (.u 2 0 0) (L.set fs.length (f.push v)):=by
 have hl:=(gS hi).1
 apply List.ext_getElem?
 intro j
 simp only [q8,List.getElem?_map,List.getElem?_modify,zY,List.getElem?_set]
 by_cases e:fs.length=j
 ·subst e
  rw [hi]
  simp [zg,Frm.push,vV,hl]
 ·simp only [e,if_false]
  cases hj:L[j]? with
  | none=>rfl
  | some g =>
   have e':¬ j=fs.length:=fun h=>e h.symm
   simp [zg,e,e']
theorem OwnX.topF (h:OwnX hp p n m dp) (hm:m.frames=fs++[f]):∃ (L:List Frm) (j:List Val),(∃ js,L=fs++f::js)∧L[fs.length]?=some f∧fs.length<L.length∧hp n=some (.row 7 (qq p n L))∧hp (.c n fs.length 3)=some (.row 3 (qV f.fasts))∧hp (.c n fs.length 5)=some (.row 3 (qV f.names))∧hp (.c n fs.length 6)=some (.row 2 (zB (f.stack++j))):=by
 obtain⟨js,hj⟩:=h.fr.top
 have hf:m.frames[fs.length]?=some f:=by simp [hm]
 obtain⟨j,hs⟩:=h.fr.stack _ f hf
 refine⟨m.frames++js,j,⟨js,by simp [hm]⟩,by simp [hm],by simp [hm],hj,h.fr.fasts _ f hf,h.fr.names _ f hf,hs⟩
theorem OwnX.reT (h:OwnX hp p n m dp) (hm:m.frames=fs++[f]) (hL:∃ js,L=fs++f::js) (hm':m'.frames=fs++[g])
  (h8:hp' n=some (.row 7 (qq p n (L.set fs.length g))))
  (h9:hp' (.c n fs.length 3)=some (.row 3 (qV g.fasts)))
  (hA:hp' (.c n fs.length 5)=some (.row 3 (qV g.names)))
  (hB:∃ j,hp' (.c n fs.length 6)=some (.row 2 (zB (g.stack++j))))
  (h0:hp' Xn=some (.row 13 [jQ p n m' dp']):=by simp [h.top,jQ])
  (h1:hp' (.c Xn 0 1)=some (.row 1 (yW qOs p)):=by simp [h.caps])
  (h2:hp' (.c Xn 0 2)=some (.row 3 (qV m'.cells)):=by simp [h.cells])
  (h3:hp' (.c Xn 0 3)=some (.row 3 (qV m'.globals)):=by simp [h.glob])
  (h4:hp' (.c Xn 0 4)=some (.row 2 (y7 m'.funs)):=by simp [h.funs])
  (h5:hp' (.c Xn 0 5)=some (.row 1 (jT m'.classes)):=by simp [h.clss])
  (h6:hp' (.c Xn 0 9)=some (.row 1 (qY m'.out)):=by simp [h.out])
  (h7:hp' (.c Xn 0 10)=some (.row 2 (yI m'.trace)):=by simp [h.trc])
  (hC:∀ (i:Nat) (f':Frm),i<fs.length→hp (.c n i 3)=some (.row 3 (qV f'.fasts))→hp' (.c n i 3)=some (.row 3 (qV f'.fasts)):=by intro i f' hi hf;simp [hf,Nat.ne_of_lt hi,Nat.ne_of_gt hi])
  (hD:∀ (i:Nat) (f':Frm),i<fs.length→hp (.c n i 5)=some (.row 3 (qV f'.names))→hp' (.c n i 5)=some (.row 3 (qV f'.names)):=by intro i f' hi hf;simp [hf,Nat.ne_of_lt hi,Nat.ne_of_gt hi])
  (hE:∀ (i:Nat) (f':Frm) j,i<fs.length→hp (.c n i 6)=some (.row 2 (zB (f'.stack++j)))→hp' (.c n i 6)=some (.row 2 (zB (f'.stack++j))):=by intro i f' j hi hf;simp [hf,Nat.ne_of_lt hi,Nat.ne_of_gt hi]):OwnX hp' p n m' dp':=by
 obtain⟨js,rfl⟩:=hL
 have hs:(fs++f::js).set fs.length g=m'.frames++js:=by rw [hm'];simp
 rw [hs] at h8
 have key:∀ (i:Nat) f',m'.frames[i]?=some f'→(i=fs.length∧f'=g)∨(i<fs.length∧m.frames[i]?=some f'):=by
  intro i f' hf
  rw [hm'] at hf
  rcases Nat.lt_trichotomy i fs.length with e|e|e
  ·rw [List.getElem?_append_left e] at hf
   exact .inr ⟨e,by rw [hm,List.getElem?_append_left e];exact hf⟩
  ·subst e
   simp at hf
   exact .inl ⟨rfl,hf.symm⟩
  ·rw [List.getElem?_eq_none (by simp;omega)] at hf
   cases hf
 refine⟨h0,h1,h2,h3,h4,h5,h6,h7,⟨js,h8⟩,fun i f' hf=>?_,fun i f' hf=>?_,fun i f' hf=>?_⟩
 ·rcases key i f' hf with⟨rfl,rfl⟩|⟨hi,hf⟩
  ·exact h9
  ·exact hC i f' hi (h.fr.fasts i f' hf)
 ·rcases key i f' hf with⟨rfl,rfl⟩|⟨hi,hf⟩
  ·exact hA
  ·exact hD i f' hi (h.fr.names i f' hf)
 ·rcases key i f' hf with⟨rfl,rfl⟩|⟨hi,hf⟩
  ·exact hB
  ·exact (h.fr.stack i f' hf).imp fun j hj=>hE i f' j hi hj
def slN (n:Nm) (i:Nat) (o:Int×Int):Nm:=if o.1≤4 then .c n i 3 else if o.1≤7 then .c Xn 0 2 else if o.1≤10 then .c Xn 0 3 else .c n i 5
def slI (f:Frm) (o:Int×Int):Nat:=if o.1≤4 then o.2.toNat else if o.1≤7 then f.cells.getD o.2.toNat 0 else o.2.toNat
def slL (m:Mch) (f:Frm) (o:Int×Int):List Slt:=if o.1≤4 then f.fasts else if o.1≤7 then m.cells else if o.1≤10 then m.globals else f.names
theorem qRb:qBc m f o=yt (slL m f o) (slI f o):=by
 unfold qBc slL slI
 repeat' split
 all_goals rfl
theorem OwnX.slot (h:OwnX hp p n (m.top fs f) dp):hp (slN n fs.length o)=some (.row 3 (qV (slL m f o))):=by
 have hf:(m.top fs f).frames[fs.length]?=some f:=by simp [Mch.top]
 unfold slN slL
 repeat' split
 ·exact h.fr.fasts _ f hf
 ·exact h.cells
 ·exact h.glob
 ·exact h.fr.names _ f hf
theorem OwnX.setS (h:OwnX hp p n (m.top fs f) dp) (hn:n=.u 2 0 0) (hh:∀ k,D12 k=true→hp' k=if k=slN n fs.length o then some (.row 3 (qV ((slL m f o).set (slI f o) s))) else hp k):OwnX hp' p n (Hm.setS m fs f o s) dp:=by
 subst hn
 have hf:(m.top fs f).frames[fs.length]?=some f:=by simp [Mch.top]
 have hX:∀ j,D12 (.c Xn 0 j)=true:=fun j=>by simp [Nm.under]
 have hF:∀ i j,D12 (.c (.u 2 0 0) i j)=true:=fun i j=>by simp [Nm.under]
 have h00:D12 Xn=true:=by simp [Nm.under]
 have h20:D12 (.u 2 0 0)=true:=by simp [Nm.under]
 have fr:∀ {g:Frm} (js:List Frm),g.blk=f.blk→g.pc=f.pc→g.cells=f.cells→g.fasts.length=f.fasts.length→g.stack=f.stack→qq p (.u 2 0 0) (fs++[g]++js)=qq p (.u 2 0 0) (fs++[f]++js):=by
  intro g js e1 e2 e3 e4 e5
  apply List.ext_getElem?
  intro i
  rw [zY,zY]
  rcases Nat.lt_trichotomy i fs.length with e|e|e
  ·simp only [List.append_assoc,List.getElem?_append_left e]
  ·subst e
   simp [zg,vV,e1,e2,e3,e4,e5]
  ·rw [List.getElem?_append_right (by simp;omega),List.getElem?_append_right (by simp;omega)]
   simp
 have key:∀ {g:Frm} (i:Nat) f',(fs++[g])[i]?=some f'→(i=fs.length∧f'=g)∨(i<fs.length∧(m.top fs f).frames[i]?=some f'):=by
  intro g i f' hf
  rcases Nat.lt_trichotomy i fs.length with e|e|e
  ·rw [List.getElem?_append_left e] at hf
   exact .inr ⟨e,by simp only [Mch.top];rw [List.getElem?_append_left e];exact hf⟩
  ·subst e
   simp at hf
   exact .inl ⟨rfl,hf.symm⟩
  ·rw [List.getElem?_eq_none (by simp;omega)] at hf
   cases hf
 have hlc:∀ {l:List Slt} {i:Nat},(l.set i s).length=l.length:=by intros;simp
 unfold Hm.setS
 by_cases c4:o.1≤4
 ·have e1:slN (.u 2 0 0) fs.length o=.c (.u 2 0 0) fs.length 3:=by simp [slN,c4]
  have e2:slL m f o=f.fasts:=by simp [slL,c4]
  have e3:slI f o=o.2.toNat:=by simp [slI,c4]
  rw [e1,e2,e3] at hh
  rw [if_pos c4]
  refine⟨?_,?_,?_,?_,?_,?_,?_,?_,?_,fun i f' hf'=>?_,fun i f' hf'=>?_,fun i f' hf'=>?_⟩
  ·rw [hh _ h00,h.top];simp [jQ,Mch.top]
  ·rw [hh _ (hX 1),h.caps];simp
  ·rw [hh _ (hX 2),h.cells];simp [Mch.top]
  ·rw [hh _ (hX 3),h.glob];simp [Mch.top]
  ·rw [hh _ (hX 4),h.funs];simp [Mch.top]
  ·rw [hh _ (hX 5),h.clss];simp [Mch.top]
  ·rw [hh _ (hX 9),h.out];simp [Mch.top]
  ·rw [hh _ (hX 10),h.trc];simp [Mch.top]
  ·obtain⟨js,hj⟩:=h.fr.top
   refine⟨js,?_⟩
   have:=fr (g:={ f with fasts:=f.fasts.set o.2.toNat s }) js rfl rfl rfl (by simp) rfl
   rw [hh _ h20,hj]
   simp only [Mch.top] at this ⊢
   rw [this]
   simp
  ·rcases key i f' hf' with⟨rfl,rfl⟩|⟨hi,hf'⟩
   ·rw [hh _ (hF _ _)];simp
   ·rw [hh _ (hF _ _),h.fr.fasts i f' hf'];simp [Nat.ne_of_lt hi]
  ·rcases key i f' hf' with⟨rfl,rfl⟩|⟨hi,hf'⟩
   ·rw [hh _ (hF _ _),h.fr.names _ f hf];simp
   ·rw [hh _ (hF _ _),h.fr.names i f' hf'];simp
  ·rcases key i f' hf' with⟨rfl,rfl⟩|⟨hi,hf'⟩
   ·exact (h.fr.stack _ f hf).imp fun j hj=>by rw [hh _ (hF _ _),hj];simp
   ·exact (h.fr.stack i f' hf').imp fun j hj=>by rw [hh _ (hF _ _),hj];simp
 rw [if_neg c4]
 by_cases c7:o.1≤7
 ·have e1:slN (.u 2 0 0) fs.length o=.c Xn 0 2:=by simp [slN,c4,c7]
  have e2:slL m f o=m.cells:=by simp [slL,c4,c7]
  have e3:slI f o=f.cells.getD o.2.toNat 0:=by simp [slI,c4,c7]
  rw [e1,e2,e3] at hh
  rw [if_pos c7]
  refine⟨?_,?_,?_,?_,?_,?_,?_,?_,?_,fun i f' hf'=>?_,fun i f' hf'=>?_,fun i f' hf'=>?_⟩
  ·rw [hh _ h00,h.top];simp [jQ,Mch.top]
  ·rw [hh _ (hX 1),h.caps];simp
  ·rw [hh _ (hX 2)];simp
  ·rw [hh _ (hX 3),h.glob];simp [Mch.top]
  ·rw [hh _ (hX 4),h.funs];simp [Mch.top]
  ·rw [hh _ (hX 5),h.clss];simp [Mch.top]
  ·rw [hh _ (hX 9),h.out];simp [Mch.top]
  ·rw [hh _ (hX 10),h.trc];simp [Mch.top]
  ·exact h.fr.top.imp fun js hj=>by rw [hh _ h20,hj];simp [Mch.top]
  ·rw [hh _ (hF _ _),h.fr.fasts i f' hf'];simp
  ·rw [hh _ (hF _ _),h.fr.names i f' hf'];simp
  ·exact (h.fr.stack i f' hf').imp fun j hj=>by rw [hh _ (hF _ _),hj];simp
 rw [if_neg c7]
 by_cases c10:o.1≤10
 ·have e1:slN (.u 2 0 0) fs.length o=.c Xn 0 3:=by simp [slN,c4,c7,c10]
  have e2:slL m f o=m.globals:=by simp [slL,c4,c7,c10]
  have e3:slI f o=o.2.toNat:=by simp [slI,c4,c7]
  rw [e1,e2,e3] at hh
  rw [if_pos c10]
  refine⟨?_,?_,?_,?_,?_,?_,?_,?_,?_,fun i f' hf'=>?_,fun i f' hf'=>?_,fun i f' hf'=>?_⟩
  ·rw [hh _ h00,h.top];simp [jQ,Mch.top]
  ·rw [hh _ (hX 1),h.caps];simp
  ·rw [hh _ (hX 2),h.cells];simp [Mch.top]
  ·rw [hh _ (hX 3)];simp
  ·rw [hh _ (hX 4),h.funs];simp [Mch.top]
  ·rw [hh _ (hX 5),h.clss];simp [Mch.top]
  ·rw [hh _ (hX 9),h.out];simp [Mch.top]
  ·rw [hh _ (hX 10),h.trc];simp [Mch.top]
  ·exact h.fr.top.imp fun js hj=>by rw [hh _ h20,hj];simp [Mch.top]
  ·rw [hh _ (hF _ _),h.fr.fasts i f' hf'];simp
  ·rw [hh _ (hF _ _),h.fr.names i f' hf'];simp
  ·exact (h.fr.stack i f' hf').imp fun j hj=>by rw [hh _ (hF _ _),hj];simp
 ·have e1:slN (.u 2 0 0) fs.length o=.c (.u 2 0 0) fs.length 5:=by simp [slN,c4,c7,c10]
  have e2:slL m f o=f.names:=by simp [slL,c4,c7,c10]
  have e3:slI f o=o.2.toNat:=by simp [slI,c4,c7]
  rw [e1,e2,e3] at hh
  rw [if_neg c10]
  refine⟨?_,?_,?_,?_,?_,?_,?_,?_,?_,fun i f' hf'=>?_,fun i f' hf'=>?_,fun i f' hf'=>?_⟩
  ·rw [hh _ h00,h.top];simp [jQ,Mch.top]
  ·rw [hh _ (hX 1),h.caps];simp
  ·rw [hh _ (hX 2),h.cells];simp [Mch.top]
  ·rw [hh _ (hX 3),h.glob];simp [Mch.top]
  ·rw [hh _ (hX 4),h.funs];simp [Mch.top]
  ·rw [hh _ (hX 5),h.clss];simp [Mch.top]
  ·rw [hh _ (hX 9),h.out];simp [Mch.top]
  ·rw [hh _ (hX 10),h.trc];simp [Mch.top]
  ·obtain⟨js,hj⟩:=h.fr.top
   refine⟨js,?_⟩
   have:=fr (g:={ f with names:=f.names.set o.2.toNat s }) js rfl rfl rfl rfl rfl
   rw [hh _ h20,hj]
   simp only [Mch.top] at this ⊢
   rw [this]
   simp
  ·rcases key i f' hf' with⟨rfl,rfl⟩|⟨hi,hf'⟩
   ·rw [hh _ (hF _ _),h.fr.fasts _ f hf];simp
   ·rw [hh _ (hF _ _),h.fr.fasts i f' hf'];simp
  ·rcases key i f' hf' with⟨rfl,rfl⟩|⟨hi,hf'⟩
   ·rw [hh _ (hF _ _)];simp
   ·rw [hh _ (hF _ _),h.fr.names i f' hf'];simp [Nat.ne_of_lt hi]
  ·rcases key i f' hf' with⟨rfl,rfl⟩|⟨hi,hf'⟩
   ·exact (h.fr.stack _ f hf).imp fun j hj=>by rw [hh _ (hF _ _),hj];simp
   ·exact (h.fr.stack i f' hf').imp fun j hj=>by rw [hh _ (hF _ _),hj];simp
theorem OwnX.mvF {n':Nm} (h:OwnX hp p n m dp) (hn:(n=.c Xn 0 6∧n'=.u 2 0 0)∨(n=.u 2 0 0∧n'=.c Xn 0 6)):OwnX (hmv n n' hp) p n' m dp:=by
 rcases hn with⟨rfl,rfl⟩|⟨rfl,rfl⟩ <;>
 ·refine⟨?_,?_,?_,?_,?_,?_,?_,?_,?_,fun i f' hf'=>?_,fun i f' hf'=>?_,fun i f' hf'=>?_⟩
  ·simp [hmv,Nm.under,mv,h.top,AO.tr,jQ,AV.tr,Nm.ren,jM]
  ·simp [hmv,Nm.under,h.caps,AO.tr]
  ·simp [hmv,Nm.under,h.cells,AO.tr]
  ·simp [hmv,Nm.under,h.glob,AO.tr]
  ·simp [hmv,Nm.under,h.funs,AO.tr]
  ·simp [hmv,Nm.under,h.clss,AO.tr]
  ·simp [hmv,Nm.under,h.out,AO.tr]
  ·simp [hmv,Nm.under,h.trc,AO.tr]
  ·refine h.fr.top.imp fun js hj=>?_
   simp [hmv,Nm.under,mv,Nm.ren,hj,AO.tr]
   exact qDg fun i j _=>by simp [mv,Nm.under,Nm.ren]
  ·simp [hmv,Nm.under,mv,Nm.ren,h.fr.fasts i f' hf',AO.tr]
  ·simp [hmv,Nm.under,mv,Nm.ren,h.fr.names i f' hf',AO.tr]
  ·exact (h.fr.stack i f' hf').imp fun j hj=>by simp [hmv,Nm.under,mv,Nm.ren,hj,AO.tr]
end
end Go.Hm
end
