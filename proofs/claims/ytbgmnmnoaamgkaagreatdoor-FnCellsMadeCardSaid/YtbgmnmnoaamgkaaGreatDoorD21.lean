/-
  Own texts, joined by mkclaim.py: Ga, Ya, Yb, Gb, Gc, Gd, Ge.
-/
import Derived.Test.YtbgmnmnoaamgkaaGreatDoorD20
import Derived.Test.YtbgmnmnoaamgkaaGreatDoorD09
import Derived.Test.YtbgmnmnoaamgkaaGreatDoorD12
import Derived.Test.YtbgmnmnoaamgkaaGreatDoorD16
import Derived.Test.YtbgmnmnoaamgkaaGreatDoorD08
set_option linter.unusedSimpArgs false
set_option linter.unusedVariables false
set_option maxRecDepth 100000
set_option maxHeartbeats 4000000

section
namespace Go.Proofs.YtbgmnmnoaamgkaaGreatDoor
open Go Go.Hm Go.Proofs
theorem zh (gl) (n lo hi:Int):qV Tryz.prog gl 64 [iv n,iv lo,iv hi] (fun _ x _=>x=bv (decide (lo≤n)&&decide (n≤hi))):=by
 refine qV.of_sem Tryz.func64 rfl (by kernel_rfl) (rs:=[.tmp 6]) rfl Tryz.ntmps64 (lB rfl) fun C w g root=>?_
 all_goals have fx:=fx0
 repeat' (first
  | refine qf ?_|refine qj fun K hK=>?_
  | ((with_reducible refine qc hK ?_);clear hK K)
  | (with_reducible first|refine qD ?_)
  | refine qw ?_
  | (with_reducible refine qO ?_)
  | ((with_reducible refine vR ?_);refine q6 (h:=?_))
  | (with_reducible first|refine jV ?_|refine uz (h:=?_)|refine qG (h:=?_))
  | (with_reducible refine x_q (h:=?_))
  | (with_reducible refine kB (fun ht=>?_) (fun ht=>?_))
  | fail)
 all_goals try clear fx
 all_goals refine qF [] .nil (by simp;rfl) ?_
 all_goals simp_all
 omega
theorem yy (gl) (n:Int):qV Tryz.prog gl 162 [iv n] (fun _ x _=>x=bv (decide (0≤n)&&decide (n≤7))):=by
 refine qV.of_sem Tryz.func162 rfl (by kernel_rfl) (rs:=[.tmp 2]) rfl Tryz.ntmps162 (lB rfl) fun C w g root=>?_
 all_goals have fx:=fx0
 repeat' (first
  | refine qf ?_|refine qj fun K hK=>?_
  | ((with_reducible refine qc hK ?_);clear hK K)
  | (with_reducible first|refine qD ?_)
  | refine qw ?_
  | (with_reducible first|refine qO ?_|refine qG (h:=?_))
  | ((with_reducible refine z7 64 rfl ?_);refine qM (hF:=zh _ _ _ _) (h:=?_))
  | (with_reducible refine x_q (h:=?_))
  | fail)
 all_goals try clear fx
 refine qF [] .nil (by simp;rfl) (by simp)
theorem zt (gl) (n:Int):qV Tryz.prog gl 143 [iv n] (fun _ x _=>x=bv (decide (0≤n)&&decide (n≤7))):=by
 refine qV.of_sem Tryz.func143 rfl (by kernel_rfl) (rs:=[.tmp 2]) rfl Tryz.ntmps143 (lB rfl) fun C w g root=>?_
 all_goals have fx:=fx0
 repeat' (first
  | refine qf ?_|refine qj fun K hK=>?_
  | ((with_reducible refine qc hK ?_);clear hK K)
  | (with_reducible first|refine qD ?_)
  | refine qw ?_
  | (with_reducible refine qO ?_)
  | ((with_reducible refine vR ?_);refine q6 (h:=?_))
  | (with_reducible first|refine jV ?_|refine uz (h:=?_)|refine qG (h:=?_))
  | (with_reducible refine x_q (h:=?_))
  | (with_reducible refine kB (fun ht=>?_) (fun ht=>?_))
  | fail)
 all_goals try clear fx
 all_goals refine qF [] .nil (by simp;rfl) ?_
 all_goals simp_all
 omega
theorem yY (gl) (xs:List Int) (x:Int) (hlen:xs.length≤4294967296):qV Tryz.prog gl 130 [isl xs,iv x] (fun _ z _=>z=iv (qm xs x)):=by
 refine qV.of_sem Tryz.func130 rfl (by kernel_rfl) (rs:=[.tmp 4]) rfl Tryz.ntmps130 (lB rfl) fun C w g root=>?_
 have fx:=fx0
 refine qB ?_
 clear fx
 refine qY (fun n st=>∃ i:Nat,n=xs.length - i∧i≤xs.length∧st.tm 0=isl xs∧st.tm 1=iv x∧st.tm 5=iv i∧∀ j<i,xs[j]?≠some x) xs.length ⟨0,by simp⟩ ?_
 rintro n st - - ⟨i,rfl,hi,h0,h1,h5,hno⟩
 have fx:=aI h0<|aI h1<|h5
 refine qB ?_
 clear fx
 refine ub (by simp [];first|done|rfl|exact (Bool.not_not _).symm) (fun ht=>?_) (fun hf=>?_)
 ·have hlt:i<xs.length:=by simpa using ht
  obtain⟨y,hy⟩:∃ y,xs[i]?=some y:=⟨xs[i],gE hlt⟩
  have fx:=aI h0<|aI h1<|aI h5<|hy
  refine qB ?_
  clear fx
  refine ub (by simp [];first|done|rfl|exact (Bool.not_not _).symm) (fun ht=>?_) (fun hf=>?_)
  ·skip
   have fx:=aI h0<|aI h1<|h5
   refine qB ?_
   clear fx
   refine qF [] .nil (by simp [h5];rfl) ?_
   have hyx:y=x:=by simpa using ht
   subst hyx
   have:xs.findIdx? (·==y)=some i:=by
    rw [List.findIdx?_eq_some_iff_getElem]
    refine⟨hlt,?_,fun j hj=>?_⟩
    ·rw [gE hlt] at hy;simpa using sI hy
    ·have:=hno j hj
     rw [gE (by omega)] at this
     simpa using this
   simp [qm,this]
  ·skip
   have fx:=aI h0<|aI h1<|h5
   refine qB ?_
   clear fx
   refine⟨xs.length - (i+1),by omega,i+1,rfl,by omega,?_⟩
   simp [h0,h1]
   refine⟨wrp (by omega) (by omega),fun j hj=>?_⟩
   rcases Nat.lt_succ_iff_lt_or_eq.1 hj with h|rfl
   ·exact hno j h
   ·rw [hy];simpa using hf
 ·skip
  have fx:=aI h0<|aI h1<|h5
  refine qB ?_
  clear fx
  refine qF [] .nil (by simp;rfl) ?_
  have hge:i=xs.length:=by have:¬ i<xs.length:=by simpa using hf
                           omega
  have:xs.findIdx? (·==x)=none:=by
   rw [List.findIdx?_eq_none_iff]
   intro y hy
   obtain⟨j,hj,rfl⟩:=List.getElem_of_mem hy
   have:=hno j (by omega)
   rw [gE hj] at this
   simpa using this
  simp [qm,this]
abbrev qRG:Sch:=.q 0<|.q 1<|.q 2<|.q 3<|.q 4<|.q 5<|.q 6<|.q 7<|.q 8<|.q 9<|.q 10<|.q 11<|.q 12<|.q 13<|.q 14<|.q 15<|.q 16<|.l 17 [12,11,10,9,8,7,6,5,2,1,0]<|.l 18 [12,11,10,9,8,7,6,5,2,1]<|.l 19 []<|.done
abbrev w8:Sch:=.q 0<|.q 1<|.q 2<|.q 3<|.q 4<|.q 5<|.q 6<|.l 7 []<|.l 8 []<|.done
abbrev qKx:Sch:=.q 0<|.q 1<|.q 2<|.q 3<|.q 4<|.q 5<|.q 6<|.q 7<|.q 8<|.q 9<|.q 10<|.q 11<|.q 12<|.q 13<|.q 14<|.done
abbrev qDI:Sch:=.q 0<|.q 1<|.q 2<|.q 3<|.q 4<|.q 5<|.q 6<|.q 7<|.q 8<|.q 9<|.q 10<|.q 11<|.q 12<|.l 13 []<|.l 14 []<|.done
theorem kY (gl) (D:Nm→Bool) (hD:∀ k,D k=true→k.sroot=false) (H:Nm→Option AO) (rows:List (List AV)) (i k:Nat) (a0 a1 a2 a3 a4 a5:AV) (vs:List Val) (v:Val) (hr:H (.u 2 0 0)=some (.row 7 rows)) (hi:rows[i]?=some [a0,a1,a2,a3,a4,a5,.hs (.c (.u 2 0 0) i 6) 2 0 (k+1)]) (hs:H (.c (.u 2 0 0) i 6)=some (.row 2 (qt vs))) (hv:vs[k]?=some v) (hk:k≤1000) :
  FnE Tryz.prog gl 102 D [.ep (.u 2 0 0) 7 i 0] H (qDp D (Val.av v) (.u 2 0 0) (.row 7 (qa rows i 6 [.hs (.c (.u 2 0 0) i 6) 2 0 k])) H) noE:=by
 obtain⟨hil,hiE⟩:=gS hi
 obtain⟨hvl,hvE⟩:=gS hv
 obtain⟨v1,v2⟩:=v
 have hw1:IntKind.i64.wrap (k:Int)=k:=wrp (by omega) (by omega)
 have hl1:(k:Int)<(k:Int)+1:=by omega
 have hl2:(k:Int)≤(k:Int)+1:=by omega
 have hl0:(0:Int)≤(k:Int):=by omega
 refine FnE.of_sem Tryz.func102 rfl (by kernel_rfl) (rs:=[.cell 2 73]) rfl Tryz.ntmps102 (lB rfl) hD fun C w g root hroot=>?_
 have fx:=aI hr<|aI hi<|aI hiE<|aI hil<|aI hs<|aI hv<|aI hvE<|aI hvl<|aI hw1<|aI hl0<|aI hl1<|hl2
 refine qB ?_
 repeat ((first|refine wSc (id:=1) (.q 0<|.q 1<|.q 2<|.q 3<|.q 4<|.q 5<|.q 6<|.q 7<|.q 8<|.q 9<|.q 10<|.q 11<|.l 12 [11,10,9,8,7,6,5,4,3,2,1,0]<|.l 13 []<|.done) qA ?_|refine wSc (id:=2) (.q 0<|.q 1<|.q 2<|.q 3<|.q 4<|.q 5<|.q 6<|.q 7<|.q 8<|.q 9<|.q 10<|.q 11<|.q 12<|.q 13<|.l 14 []<|.done) qA ?_);refine qC ?_;refine qB ?_)
 clear fx
 refine qF [] .nil (by simp;rfl) ⟨by simp,fun q hq=>?_⟩
 have hq2:=fun d=>(D_s hD hq d).1
 have hq3:=fun d=>(D_s hD hq d).2
 by_cases e:q=.u 2 0 0
 ·subst e
  simp only [wS,hq,if_true]
  simp [AO.tr,kz,qOd hD,-List.map_map]
 ·simp [wS,hq,hq2,hq3,e,qLq hD,-Option.map_map]
theorem qGh (gl) (p:Prg) (n1 n2 n3 n4 n5 n6 n7 n8 n9 n10 n11 n12 n13 i1:Nat) (e1 e2:Int) (l ps:List Int) (qs:List Nat) (b:Nat) (cs:List Cod) (hb0:0<b) (hb:b<p.length) (hps:ps=zE p b) (hp:ps.length≤8) (hq:∀ (i:Nat) y,ps[i]?=some y→∃ z:Nat,y=z∧∃ c,l[z]?=some c∧(qs[i]?).map (fun (x:Nat)=>(x:Int))=some c) (hqs:qs.length=ps.length) :
  qV Tryz.prog gl 141 [.el [csl cs,.sl 1 (yV qOo p),.hs (.c Xn 0 2) 3 0 n1,.hs (.c Xn 0 3) 3 0 8,.hs (.c Xn 0 4) 2 0 n2,.hs (.c Xn 0 5) 1 0 n3,.hs (.u 2 0 0) 7 0 n4,iv n5,iv n6,.hs (.c Xn 0 9) 1 0 n7,.hs (.c Xn 0 10) 2 0 n8,iv e1,iv n9] 0,.el [iv n10,iv n11,iv e2,.hs (.c (.u 2 0 0) i1 3) 3 0 n12,isl l,.hs (.c (.u 2 0 0) i1 5) 3 0 8,.hs (.c (.u 2 0 0) i1 6) 2 0 n13] 0,iv b] (fun r y H'=>y=.hs r 1 0 qs.length∧H' r=some (.row 1 (qJ (zg qs)))):=by
 have hc:(yV qOo p)[b]?=some [isl ps]:=by rw [hps];exact qHi hb0 hb
 obtain⟨hcl,hcE⟩:=gS hc
 refine qV.of_sem Tryz.func141 rfl (by kernel_rfl) (rs:=[.tmp 6]) rfl Tryz.ntmps141 (lB rfl) fun C w g root=>?_
 have fx:=aI hc<|aI hcE<|hcl
 refine qB ?_
 repeat ((first|refine wSc (id:=5) qRG qA ?_);refine qC ?_;refine qB ?_)
 clear fx
 refine qY (fun n st=>∃ i:Nat,n=ps.length - i∧i≤ps.length∧st.tm 0=.el [csl cs,.sl 1 (yV qOo p),.hs (.c Xn 0 2) 3 0 n1,.hs (.c Xn 0 3) 3 0 8,.hs (.c Xn 0 4) 2 0 n2,.hs (.c Xn 0 5) 1 0 n3,.hs (.u 2 0 0) 7 0 n4,iv n5,iv n6,.hs (.c Xn 0 9) 1 0 n7,.hs (.c Xn 0 10) 2 0 n8,iv e1,iv n9] 0∧st.tm 1=.el [iv n10,iv n11,iv e2,.hs (.c (.u 2 0 0) i1 3) 3 0 n12,isl l,.hs (.c (.u 2 0 0) i1 5) 3 0 8,.hs (.c (.u 2 0 0) i1 6) 2 0 n13] 0∧st.tm 2=iv b∧st.tm 7=.hs (.s 7) 1 0 i∧st.hp (.s 7)=some (.row 1 (qJ (zg (qs.take i))))∧st.tm 8=iv i) ps.length ?_ ?_
 ·exact⟨0,by omega,by omega,by simp,by simp,by simp,by simp,by simp [zg],by simp⟩
 rintro n st - - ⟨i,rfl,hi,t0,t1,t2,t7,h7,t8⟩
 by_cases hil:i<ps.length
 ·obtain⟨y,hy⟩:∃ y,ps[i]?=some y:=⟨_,gE hil⟩
  obtain⟨_,hyE⟩:=gS hy
  obtain⟨z,rfl,c,hz,hqi⟩:=hq i y hy
  obtain⟨hzl,hzE⟩:=gS hz
  obtain⟨x,hx,rfl⟩:=Option.map_eq_some_iff.1 hqi
  have htl:(zg (qs.take i)).length=i:=by simp [zg];omega
  have hi8:i≤8:=by omega
  have fx:=aI t0<|aI t1<|aI t2<|aI t7<|aI h7<|aI t8<|aI hc<|aI hcE<|aI hcl<|aI hil<|aI hy<|aI hyE<|aI hz<|aI hzE<|aI hzl<|aI htl<|hi8
  refine qB ?_
  repeat ((first|refine wSc (id:=5) qRG qA ?_);refine qC ?_;refine qB ?_)
  clear fx
  refine⟨ps.length - (i+1),by omega,i+1,rfl,by omega,by simp [t0],by simp [t1],by simp [t2],by simp,?_,by simp [t8];exact wrp (by omega) (by omega)⟩
  have e1:qs.take (i+1)=qs.take i++[x]:=by rw [List.take_add_one,hx];rfl
  have e2:qJ (zg (qs.take i))++[[iv x]]=qJ (zg (qs.take (i+1))):=by rw [e1];simp [zg,qJ]
  simp [← e2]
  rw [List.take_of_length_le (by simp;omega)]
 ·obtain rfl:i=ps.length:=by omega
  have fx:=aI t0<|aI t1<|aI t2<|aI t7<|aI h7<|aI t8<|aI hc<|aI hcE<|aI hcl<|hil
  refine qB ?_
  repeat ((first|refine wSc (id:=5) qRG qA ?_);refine qC ?_;refine qB ?_)
  clear fx
  have:qs.take ps.length=qs:=by rw [← hqs];simp
  rw [this] at h7
  exact zY (t:=6) (by first|(simp [t7,h7,hqs];done)|(simp [t7,h7,hqs];rfl)) (by first|(simp [t7,h7,hqs];done)|(simp [t7,h7,hqs];rfl)) (by simp)
theorem qJN (gl) (H:Nm→Option AO) (p:Prg) (m:Mch) (fs:List Frm) (f:Frm) (o:Int×Int) (dp:Nat) (hp:f.blk<p.length) (hc:2≤o.1∧o.1≤13) (hx:SlOk m f o) (hg8:m.globals.length=8) (hn8:f.names.length=8) (hO:OwnX H p (.u 2 0 0) (m.top fs f) dp) :
  FnE Tryz.prog gl 140 D12 [.pt Xn 0,.ep (.u 2 0 0) 7 fs.length 0,.agg [iv o.1,iv o.2]] H (fun _ y H'=>y=.tup [.ep (slN (.u 2 0 0) fs.length o) 3 (slI f o) 0,iv (wE p f o)]∧OwnX H' p (.u 2 0 0) (m.top fs f) dp) noE:=by
 have hT:=hO.top
 simp only [jR] at hT
 obtain⟨L,j,hL,hat,hlt,hF,hf,hn,hst⟩:=hO.topF rfl
 obtain⟨_,hatE⟩:=gS hat
 obtain⟨k,hk⟩:∃ k,p[f.blk]?=some k:=⟨_,gE hp⟩
 have hcd:(qX p p.length)[f.blk]?=some (q8 p f.blk):=by simp [qX,hp]
 obtain⟨hcdl,hcdE⟩:=gS hcd
 have hcc:(q8 p f.blk).cells=qE p f.blk:=by simp [q8,hk]
 have hcl:=hO.cells
 have hgl:=hO.glob
 simp only [Mch.top] at hT hcl hgl
 obtain⟨c,a⟩:=o
 obtain⟨x0,x1,x2⟩:=hx
 obtain⟨x,rfl⟩:∃ x:Nat,a=x:=⟨a.toNat,by simp only at x0;omega⟩
 simp only at hc
 have i1:=zh gl c 2 4
 have i2:=zh gl c 5 7
 have i3:=zh gl c 8 10
 have hc2:=hc.1
 simp only [slI,slL] at x1 x2
 have hxx:((x:Int).toNat)=x:=by omega
 refine FnE.of_sem Tryz.func140 rfl (by kernel_rfl) (rs:=[.tmp 6,.tmp 7]) rfl Tryz.ntmps140 (lB rfl) (fun _=>zM) fun C w g root hroot=>?_
 by_cases c4:c≤4
 ·rw [if_pos c4,if_pos c4,Int.toNat_natCast] at x1
  have x4:(x:Int)<f.fasts.length:=by omega
  have fx:=aI hT<|aI hF<|aI hat<|aI hatE<|aI hlt<|aI hf<|aI hn<|aI hcl<|aI hgl<|aI hc2<|aI c4<|aI x1<|x4
  have c1:=i1
  refine qB ?_
  repeat ((first|refine wSc (id:=2) w8 qA ?_|refine wSc (id:=4) qKx qA ?_|refine wSc (id:=5) qDI qA ?_|refine wSc (id:=6) qDI qA ?_|refine wSc (id:=8) w8 qA ?_|refine wSc (id:=9) w8 qA ?_);refine qC ?_;refine qB ?_)
  clear fx c1
  refine qF [] .nil (by simp;rfl) ⟨?_,?_⟩
  ·simp [slN,slI,wE,c4]
  ·exact OwnX.fin (have h:=hO;OwnX.re h) (.inr rfl)
 rw [if_neg c4,if_neg c4] at x1
 have c5:5≤c:=by omega
 by_cases c7:c≤7
 ·rw [if_pos c7,if_pos c7] at x1
  have x3:=x2 c5 c7
  rw [if_neg c4,if_pos c7] at x3
  obtain⟨x3l,x3E⟩:=gS x3
  simp only [Int.toNat_natCast] at x1 x3 x3l x3E
  have hwy:wE p f (c,(x:Int))=if (x:Int)<(qE p f.blk).length then 2 else 3:=by simp [wE,c4,c7]
  have hsi:slI f (c,(x:Int))=f.cells.getD x 0:=by simp [slI,c4,c7]
  rw [hsi]
  generalize f.cells.getD x 0=y at x1 x3 x3E
  have x4:(x:Int)<f.cells.length:=by omega
  have x5:(y:Int)<m.cells.length:=by omega
  have x6:(zg f.cells)[x]?=some (y:Int):=by simp [zg,x3]
  obtain⟨x6l,x6E⟩:=gS x6
  by_cases hlo:(x:Int)<(qE p f.blk).length
  ·skip
   have fx:=aI hT<|aI hF<|aI hat<|aI hatE<|aI hlt<|aI hf<|aI hn<|aI hcl<|aI hgl<|aI hc2<|aI c4<|aI c5<|aI c7<|aI x1<|aI x3l<|aI x4<|aI x5<|aI x6<|aI x6l<|aI x6E<|aI hcd<|aI hcdl<|aI hcdE<|aI hcc<|hlo
   have c1:=i1
   have c2:=i2
   refine qB ?_
   repeat ((first|refine wSc (id:=2) w8 qA ?_|refine wSc (id:=4) qKx qA ?_|refine wSc (id:=5) qDI qA ?_|refine wSc (id:=6) qDI qA ?_|refine wSc (id:=8) w8 qA ?_|refine wSc (id:=9) w8 qA ?_);refine qC ?_;refine qB ?_)
   clear fx c1 c2
   refine qF [] .nil (by simp;rfl) ⟨?_,?_⟩
   ·simp [slN,hwy,hlo,c4,c7]
   ·exact OwnX.fin (have h:=hO;OwnX.re h) (.inr rfl)
  ·skip
   have fx:=aI hT<|aI hF<|aI hat<|aI hatE<|aI hlt<|aI hf<|aI hn<|aI hcl<|aI hgl<|aI hc2<|aI c4<|aI c5<|aI c7<|aI x1<|aI x3l<|aI x4<|aI x5<|aI x6<|aI x6l<|aI x6E<|aI hcd<|aI hcdl<|aI hcdE<|aI hcc<|hlo
   have c1:=i1
   have c2:=i2
   refine qB ?_
   repeat ((first|refine wSc (id:=2) w8 qA ?_|refine wSc (id:=4) qKx qA ?_|refine wSc (id:=5) qDI qA ?_|refine wSc (id:=6) qDI qA ?_|refine wSc (id:=8) w8 qA ?_|refine wSc (id:=9) w8 qA ?_);refine qC ?_;refine qB ?_)
   clear fx c1 c2
   refine qF [] .nil (by simp;rfl) ⟨?_,?_⟩
   ·simp [slN,hwy,hlo,c4,c7]
   ·exact OwnX.fin (have h:=hO;OwnX.re h) (.inr rfl)
 rw [if_neg c7,if_neg c7] at x1
 have c8:8≤c:=by omega
 by_cases c10:c≤10
 ·rw [if_pos c10,Int.toNat_natCast] at x1
  have h8:m.globals.length=8:=hg8
  have x4:(x:Int)<8:=by omega
  have fx:=aI hT<|aI hF<|aI hat<|aI hatE<|aI hlt<|aI hf<|aI hn<|aI hcl<|aI hgl<|aI hc2<|aI c4<|aI c7<|aI c8<|aI c10<|aI x1<|aI x4<|h8
  have c1:=i1
  have c2:=i2
  have c3:=i3
  refine qB ?_
  repeat ((first|refine wSc (id:=2) w8 qA ?_|refine wSc (id:=4) qKx qA ?_|refine wSc (id:=5) qDI qA ?_|refine wSc (id:=6) qDI qA ?_|refine wSc (id:=8) w8 qA ?_|refine wSc (id:=9) w8 qA ?_);refine qC ?_;refine qB ?_)
  clear fx c1 c2 c3
  refine qF [] .nil (by simp;rfl) ⟨?_,?_⟩
  ·simp [slN,slI,wE,c4,c7,c10]
  ·exact OwnX.fin (have h:=hO;OwnX.re h) (.inr rfl)
 ·rw [if_neg c10,Int.toNat_natCast] at x1
  have h8:f.names.length=8:=hn8
  have x4:(x:Int)<8:=by omega
  have fx:=aI hT<|aI hF<|aI hat<|aI hatE<|aI hlt<|aI hf<|aI hn<|aI hcl<|aI hgl<|aI hc2<|aI c4<|aI c7<|aI c8<|aI c10<|aI x1<|aI x4<|h8
  have c1:=i1
  have c2:=i2
  have c3:=i3
  refine qB ?_
  repeat ((first|refine wSc (id:=2) w8 qA ?_|refine wSc (id:=4) qKx qA ?_|refine wSc (id:=5) qDI qA ?_|refine wSc (id:=6) qDI qA ?_|refine wSc (id:=8) w8 qA ?_|refine wSc (id:=9) w8 qA ?_);refine qC ?_;refine qB ?_)
  clear fx c1 c2 c3
  refine qF [] .nil (by simp;rfl) ⟨?_,?_⟩
  ·simp [slN,slI,wE,c4,c7,c10]
  ·exact OwnX.fin (have h:=hO;OwnX.re h) (.inr rfl)
end Go.Proofs.YtbgmnmnoaamgkaaGreatDoor
end
section
namespace Go.Proofs.YtbgmnmnoaamgkaaGreatDoor
open Go Go.Hm Go.Proofs
abbrev qCZ:Sch:=.q 0<|.q 1<|.q 2<|.q 3<|.q 4<|.q 5<|.q 6<|.q 7<|.q 8<|.q 9<|.q 10<|.q 11<|.q 12<|.q 13<|.q 14<|.q 15<|.q 16<|.q 17<|.q 18<|.q 19<|.done
abbrev qCY:Sch:=.q 0<|.q 1<|.q 2<|.q 3<|.q 4<|.q 5<|.q 6<|.q 7<|.q 8<|.l 9 []<|.done
abbrev qCX:Sch:=.q 0<|.q 1<|.q 2<|.q 3<|.q 4<|.q 5<|.l 6 [4,3,2,1,0]<|.l 7 [0]<|.q 8<|.q 9<|.l 10 []<|.done
theorem qHD (gl) (H:Nm→Option AO) (p:Prg) (m:Mch) (fs:List Frm) (f:Frm) (o:Int×Int) (dp:Nat) (hp:f.blk<p.length) (hc:2≤o.1∧o.1≤13) (hx:SlOk m f o) (hx8:8≤o.1→o.2≤7) (hg8:m.globals.length=8) (hn8:f.names.length=8) (hst:(o.1 - 2) % 3=1→1≤f.stack.length) (hsl:f.stack.length≤1000) (hO:OwnX H p (.u 2 0 0) (m.top fs f) dp) (h9:H (.u 9 0 0)=none) :
  FnE Tryz.prog gl 99 D12 [.pt Xn 0,.ep (.u 2 0 0) 7 fs.length 0,.agg [iv o.1,iv o.2]] H (fun _ _ H'=>qMb H' p (.u 2 0 0) (if (o.1 - 2) % 3=0 then jw p m fs f o else if (o.1 - 2) % 3=1 then qF9 m fs f o else qFA p m fs f o) dp) noE:=by
 have hT:=hO.top
 obtain⟨L,j,hL,hat,hlt,hF,hf,hn,hsk⟩:=hO.topF rfl
 simp only [jR,Mch.top] at hT
 have hsf:=qJN gl (p:=p) (m:=m) (fs:=fs) (f:=f) (o:=o) (dp:=dp)
 have hNk:SlN (slN (.u 2 0 0) fs.length o):=qUJ
 have hslot:=fun hp h=>OwnX.slot (hp:=hp) (p:=p) (n:=.u 2 0 0) (m:=m) (fs:=fs) (f:=f) (dp:=dp) (o:=o) h
 have hsetS:=fun hp hp' f s h=>OwnX.setS (hp:=hp) (hp':=hp') (p:=p) (n:=.u 2 0 0) (m:=m) (fs:=fs) (f:=f) (dp:=dp) (o:=o) (s:=s) h rfl
 have hxl:=hx.lt
 obtain⟨c,a⟩:=o
 obtain⟨x,rfl⟩:∃ x:Nat,a=x:=⟨a.toNat,by have:=hx.arg;simp only at this;omega⟩
 simp only at hc hst hx8
 have hw2:IntKind.i64.wrap (c - 2)=c - 2:=wrp (by omega) (by omega)
 have hrm:(c - 2).tmod 3=(c - 2) % 3:=Int.tmod_eq_emod_of_nonneg (by omega)
 have hwr:IntKind.i64.wrap ((c - 2) % 3)=(c - 2) % 3:=wrp (by omega) (by omega)
 refine FnE.of_sem Tryz.func99 rfl (by kernel_rfl) (rs:=[]) rfl Tryz.ntmps99 (lB rfl) (fun _=>zM) fun C w g root hroot=>?_
 have fx:=aI hT<|hF
 refine qB ?_
 repeat ((first|refine wSc (id:=4) qCZ qA ?_|refine wSc (id:=5) qCY qA ?_|refine wSc (id:=10) qCX qA ?_);refine qC ?_;refine qB ?_)
 clear fx
 intro K hK
 have fx:=aI hT hF
 refine jo (by simp [hT]) (by simp [hF]) (hF:=hsf _ hp hc hx hg8 hn8 (have h:=hO;OwnX.re h)) (h:=?_)
 rintro y H1 ⟨rfl,hO1⟩
 clear fx
 generalize hNd:slN (.u 2 0 0) fs.length (c,(x:Int))=N at *
 generalize hyd:slI f (c,(x:Int))=q at *
 generalize hld:slL m f (c,(x:Int))=l at *
 have hT1:=hO1.top
 have fx:=aI hT<|aI hT1<|aI hF<|aI hw2<|hrm
 refine qB ?_
 repeat ((first|refine wSc (id:=4) qCZ qA ?_|refine wSc (id:=5) qCY qA ?_|refine wSc (id:=10) qCX qA ?_);refine qC ?_;refine qB ?_)
 clear fx
 refine yd (fun s=>s.tm 0=.pt Xn 0∧s.tm 1=.ep (.u 2 0 0) 7 fs.length 0∧s.tm 5=.pt (.s 5) 0∧s.hp (.s 5)=some (.row 2 [[iv c,iv x]])∧s.tm 6=.ep N 3 q 0∧s.tm 7=iv (wE p f (c,(x:Int)))∧s.tm 19=iv ((c - 2) % 3)∧s.tm 87=bv ((c - 2) % 3==1)∧OwnX s.hp p (.u 2 0 0) (m.top fs f) dp) ⟨by simp [hT],by simp [hF],by simp,by simp,by simp,by simp,by simp,by simp,(have h:=hO1;OwnX.re h)⟩ ?_
 clear hT hT1 hF hf hn hsk hat hlt hL hO hO1
 rintro s ⟨t0,t1,t5,p5,t6,t7,t19,t87,hO⟩
 have hT:=hO.top
 obtain⟨L,j,hL,hat,hlt,hF,hf,hn,hsk⟩:=hO.topF rfl
 simp only [jR,Mch.top] at hT
 have hsl0:=hslot _ hO
 obtain⟨_,hatE⟩:=gS hat
 by_cases r1:(c - 2) % 3=1
 ·have hne:(c - 2) % 3≠0:=by omega
  rw [if_neg hne,if_pos r1]
  obtain⟨k,hk⟩:∃ k,f.stack.length=k+1:=⟨f.stack.length - 1,by have:=hst r1;omega⟩
  have hX0:s.hp Xn≠none:=by rw [hT];simp
  have hU0:s.hp (.u 2 0 0)≠none:=by rw [hF];simp
  have fx:=aI t0<|aI t1<|aI t5<|aI p5<|aI t6<|aI t7<|aI t19<|aI t87<|r1
  refine qB ?_
  repeat ((first|refine wSc (id:=4) qCZ qA ?_|refine wSc (id:=5) qCY qA ?_|refine wSc (id:=10) qCX qA ?_);refine qC ?_;refine qB ?_)
  clear fx
  intro K hK
  obtain⟨rows,rows',a0,a1,a2,a3,a4,a5,vs,e1,e2,e3,e4,e5,e6⟩:=hO.keep hk hNk.u2 (hNk.st _)
  have fx:=aI t1 hNk.u2
  refine qHx D12 N (.u 9 0 0) (.u 2 0 0) (.row 7 (qa rows fs.length 6 [.hs (.c (.u 2 0 0) fs.length 6) 2 0 k])) (Val.av f.tos) (hV:=rfl) (hN:=hNk.isU) (hVe:=by simp [un,h9]) (fun _=>zM) hNk.u9 hNk.D (fun _=>qVR) (by simp [hsl0]) (fun k i j _=>qM2 hX0 hU0 k i j) (by simp) hNk.u2 (by simp) (hF:=by rw [e6];exact kY gl D9 (fun _=>qM1) _ rows' fs.length k a0 a1 a2 a3 a4 a5 vs f.tos e2 e3 e4 e5 (by omega)) (h:=?_)
  intro hp' hS
  clear fx
  have hOp:=(hO.popped e1 hk).same (.inr rfl) hS
  have hsl1:hp' N=some (.row 3 (qN l)):=by rw [← hNd,← hld];exact OwnX.slot (f:=f.pop) hOp
  have n1:=hNk.u2
  have n2:=hNk.x
  have n3:=hNk.u9
  obtain⟨nb,n4,n5⟩:=hNk.b
  have n6:=hNk.s
  have hpop:qF9 m fs f (c,(x:Int))=Hm.setS m fs f.pop (c,(x:Int)) (some f.tos):=rfl
  rw [hpop]
  generalize hv:f.tos=v
  obtain⟨v1,v2⟩:=v
  have fx:=aI t0<|aI t1<|aI t6<|aI hsl1<|aI n1<|aI n2<|aI n3<|aI n4<|aI n5<|aI n6<|hxl
  refine qB ?_
  repeat ((first|refine wSc (id:=4) qCZ qA ?_|refine wSc (id:=5) qCY qA ?_|refine wSc (id:=10) qCX qA ?_);refine qC ?_;refine qB ?_)
  clear fx
  refine zj [] .nil (by simp;rfl) (OwnX.out' (OwnX.fin (OwnX.setS (f:=f.pop) hOp rfl fun k hk=>?_) (.inr rfl)))
  rw [show slL m f.pop (c,(x:Int))=l from hld,show slI f.pop (c,(x:Int))=q from hyd,hNd]
  simp only [qB7,Bool.or_eq_true] at hk
  simp [hk,hv]
 obtain⟨s0,hs0⟩:∃ s0,l[q]?=some s0:=⟨_,gE hxl⟩
 obtain⟨_,hsE⟩:=gS hs0
 have hgs:qA5 m f (c,(x:Int))=s0:=by rw [qR8,hyd,hld];simp [yn,hs0]
 obtain⟨nb,n4,n5⟩:=hNk.b
 have n1:=hNk.u2
 have n2:=hNk.x
 have n3:=hNk.u9
 have n6:=hNk.s
 have nX:¬ Xn=N:=fun e=>by rw [← e] at n2;simp at n2
 have nU:¬ .u 2 0 0=N:=fun e=>by rw [← e] at n1;simp at n1
 have nY:¬ N=Xn:=fun e=>nX e.symm
 by_cases r2:(c - 2) % 3=2
 ·have hne:(c - 2) % 3≠0:=by omega
  rw [if_neg hne,if_neg r1]
  cases s0 with
  | some u =>
   have hd:qFA p m fs f (c,(x:Int))=Hm.setS m fs f (c,(x:Int)) none:=by simp only [qFA,hgs]
   rw [hd]
   obtain⟨u1,u2⟩:=u
   have fx:=aI t0<|aI t1<|aI t5<|aI p5<|aI t6<|aI t7<|aI t19<|aI t87<|aI r1<|aI r2<|aI hsl0<|aI hxl<|aI hs0<|aI hsE<|aI nX<|nU
   refine qB ?_
   repeat ((first|refine wSc (id:=4) qCZ qA ?_|refine wSc (id:=5) qCY qA ?_|refine wSc (id:=10) qCX qA ?_);refine qC ?_;refine qB ?_)
   clear fx
   refine zj [] .nil (by simp;rfl) (OwnX.out' (OwnX.fin (OwnX.setS (f:=f) hO rfl fun k hk=>?_) (.inr rfl)))
   rw [hld,hyd,hNd]
   simp
  | none =>
   have hd:qFA p m fs f (c,(x:Int))=m.stop fs f (wE p f (c,(x:Int))):=by simp only [qFA,hgs]
   rw [hd]
   have hln:l.set q none=l:=by
    apply List.ext_getElem?
    intro i
    rw [List.getElem?_set]
    by_cases e:q=i
    ·subst e;simp [hxl,hsE]
    ·simp [e]
   have fx:=aI t0<|aI t1<|aI t5<|aI p5<|aI t6<|aI t7<|aI t19<|aI t87<|aI r1<|aI r2<|aI hsl0<|aI hxl<|aI hs0<|aI hsE<|aI nX<|aI nU<|aI nY<|hT
   refine qB ?_
   repeat ((first|refine wSc (id:=4) qCZ qA ?_|refine wSc (id:=5) qCY qA ?_|refine wSc (id:=10) qCX qA ?_);refine qC ?_;refine qB ?_)
   clear fx
   refine zj [] .nil (by simp;rfl) (OwnX.out' (OwnX.fin (OwnX.ends hO rfl fun k hk=>?_) (.inr rfl)))
   by_cases e:k=N
   ·subst e
    simp [nX,nY,hsl0,hln]
   ·simp [e,hT,jR,Mch.top]
 ·have r0:(c - 2) % 3=0:=by omega
  rw [if_pos r0]
  have hsl':f.stack.length≤1000:=hsl
  cases s0 with
  | some u =>
   have hd:jw p m fs f (c,(x:Int))=m.top fs (f.push u):=by simp only [jw,hgs]
   rw [hd]
   obtain⟨u1,u2⟩:=u
   have fx:=aI t0<|aI t1<|aI t5<|aI p5<|aI t6<|aI t7<|aI t19<|aI t87<|aI r0<|aI r1<|aI r2<|aI hsl0<|aI hxl<|aI hs0<|aI hsE<|aI nX<|aI nU<|aI nY<|aI n6<|aI hF<|aI hat<|aI hatE<|aI hlt<|aI hsk<|hsl
   refine qB ?_
   repeat ((first|refine wSc (id:=4) qCZ qA ?_|refine wSc (id:=5) qCY qA ?_|refine wSc (id:=10) qCX qA ?_);refine qC ?_;refine qB ?_)
   clear fx
   refine zj [] .nil (by simp;rfl) (OwnX.out' (OwnX.fin (have h:=hO;OwnX.reT h rfl hL rfl (by simp;exact zX hat) (by simp [hf,Frm.push]) (by simp [hn,Frm.push]) ⟨[],by simp [Frm.push,qt]⟩ (h0:=by simp [hT,jR])) (.inr rfl)))
  | none =>
   by_cases c8:8≤c
   ·have hwy:wE p f (c,(x:Int))=4:=by simp only [wE];rw [if_neg (by omega),if_neg (by omega)]
    have hxg:x<m.globals.length:=by have:=hx8 c8;omega
    have hx8i:(x:Int)<8:=by omega
    obtain⟨g0,hg0⟩:∃ g0,m.globals[x]?=some g0:=⟨_,gE hxg⟩
    obtain⟨_,hgE⟩:=gS hg0
    have hGl:=hO.glob
    simp only [qGy] at hGl
    have hsg:yn m.globals x=g0:=by simp [yn,hg0]
    cases g0 with
    | some u =>
     have hd:jw p m fs f (c,(x:Int))=m.top fs (f.push u):=by simp only [jw,hgs,hwy,if_true,Int.toNat_natCast,hsg]
     rw [hd]
     rw [hwy] at t7
     obtain⟨u1,u2⟩:=u
     have fx:=aI t0<|aI t1<|aI t5<|aI p5<|aI t6<|aI t7<|aI t19<|aI t87<|aI r0<|aI r1<|aI r2<|aI hsl0<|aI hxl<|aI hs0<|aI hsE<|aI nX<|aI nU<|aI nY<|aI n6<|aI hF<|aI hat<|aI hatE<|aI hlt<|aI hsk<|aI hsl<|aI hT<|aI hGl<|aI hg0<|aI hgE<|aI hxg<|aI hx8i<|hg8
     refine qB ?_
     repeat ((first|refine wSc (id:=4) qCZ qA ?_|refine wSc (id:=5) qCY qA ?_|refine wSc (id:=10) qCX qA ?_);refine qC ?_;refine qB ?_)
     clear fx
     refine zj [] .nil (by simp;rfl) (OwnX.out' (OwnX.fin (have h:=hO;OwnX.reT h rfl hL rfl (by simp;exact zX hat) (by simp [hf,Frm.push]) (by simp [hn,Frm.push]) ⟨[],by simp [Frm.push,qt]⟩ (h0:=by simp [hT,jR])) (.inr rfl)))
    | none =>
     rw [hwy] at t7
     by_cases h7:x=7
     ·subst h7
      have hd:jw p m fs f (c,((7:Nat):Int))=m.top fs (f.push (1,70)):=by
       simp only [jw,hgs,hwy,if_true,Int.toNat_natCast,hsg]
       rfl
      rw [hd]
      have fx:=aI t0<|aI t1<|aI t5<|aI p5<|aI t6<|aI t7<|aI t19<|aI t87<|aI r0<|aI r1<|aI r2<|aI hsl0<|aI hxl<|aI hs0<|aI hsE<|aI nX<|aI nU<|aI nY<|aI n6<|aI hF<|aI hat<|aI hatE<|aI hlt<|aI hsk<|aI hsl<|aI hT<|aI hGl<|aI hg0<|aI hgE<|aI hxg<|aI hx8i<|hg8
      refine qB ?_
      repeat ((first|refine wSc (id:=4) qCZ qA ?_|refine wSc (id:=5) qCY qA ?_|refine wSc (id:=10) qCX qA ?_);refine qC ?_;refine qB ?_)
      clear fx
      refine zj [] .nil (by simp;rfl) (OwnX.out' (OwnX.fin (have h:=hO;OwnX.reT h rfl hL rfl (by simp;exact zX hat) (by simp [hf,Frm.push]) (by simp [hn,Frm.push]) ⟨[],by simp [Frm.push,qt]⟩ (h0:=by simp [hT,jR])) (.inr rfl)))
     ·have h7i:¬ (x:Int)=7:=by omega
      have h7b:((x:Int)==7)=false:=by simpa using h7i
      have hd:jw p m fs f (c,(x:Int))=m.stop fs f 4:=by
       simp only [jw,hgs,hwy,if_true,Int.toNat_natCast,hsg]
       rw [if_neg h7i]
      rw [hd]
      have fx:=aI t0<|aI t1<|aI t5<|aI p5<|aI t6<|aI t7<|aI t19<|aI t87<|aI r0<|aI r1<|aI r2<|aI hsl0<|aI hxl<|aI hs0<|aI hsE<|aI nX<|aI nU<|aI nY<|aI n6<|aI hF<|aI hat<|aI hatE<|aI hlt<|aI hsk<|aI hsl<|aI hT<|aI hGl<|aI hg0<|aI hgE<|aI hxg<|aI hx8i<|aI hg8<|h7b
      refine qB ?_
      repeat ((first|refine wSc (id:=4) qCZ qA ?_|refine wSc (id:=5) qCY qA ?_|refine wSc (id:=10) qCX qA ?_);refine qC ?_;refine qB ?_)
      clear fx
      refine zj [] .nil (by simp;rfl) ⟨fs++[f.push (0,0)],fun e=>absurd e (by simp),OwnX.fin (have h:=hO;OwnX.reT h rfl hL rfl (by simp;exact zX hat) (by simp [hf,Frm.push]) (by simp [hn,Frm.push]) ⟨[],by simp [Frm.push,qt]⟩ (h0:=by simp [hT,jR])) (.inr rfl)⟩
   ·have hw4:wE p f (c,(x:Int))=2∨wE p f (c,(x:Int))=3:=by
     simp only [wE]
     by_cases c4:c≤4
     ·rw [if_pos c4];exact .inl rfl
     ·rw [if_neg c4,if_pos (by omega)]
      by_cases e:(x:Int)<(qE p f.blk).length
      ·rw [if_pos e];exact .inl rfl
      ·rw [if_neg e];exact .inr rfl
    have hwn:wE p f (c,(x:Int))≠4:=by omega
    have hd:jw p m fs f (c,(x:Int))=m.stop fs f (wE p f (c,(x:Int))):=by
     simp only [jw,hgs]
     rw [if_neg hwn]
    rw [hd]
    clear hd hsf
    generalize wE p f (c,(x:Int))=w at hw4 t7 hwn ⊢
    have hwb:(w==4)=false:=by simpa using hwn
    have fx:=aI t0<|aI t1<|aI t5<|aI p5<|aI t6<|aI t7<|aI t19<|aI t87<|aI r0<|aI r1<|aI r2<|aI hsl0<|aI hxl<|aI hs0<|aI hsE<|aI nX<|aI nU<|aI nY<|aI n6<|aI hF<|aI hat<|aI hatE<|aI hlt<|aI hsk<|aI hsl<|aI hT<|hwb
    refine qB ?_
    repeat ((first|refine wSc (id:=4) qCZ qA ?_|refine wSc (id:=5) qCY qA ?_|refine wSc (id:=10) qCX qA ?_);refine qC ?_;refine qB ?_)
    clear fx
    refine zj [] .nil (by simp;rfl) ⟨fs++[f.push (0,0)],fun e=>absurd e (by simp;omega),OwnX.fin (have h:=hO;OwnX.reT h rfl hL rfl (by simp;exact zX hat) (by simp [hf,Frm.push]) (by simp [hn,Frm.push]) ⟨[],by simp [Frm.push,qt]⟩ (h0:=by simp [hT,jR])) (.inr rfl)⟩
theorem yJ (gl) (xs:List Int) (x:Int) (hlen:xs.length≤4294967296):qV Tryz.prog gl 93 [isl xs,iv x] (fun _ z _=>z=bv (decide (x∈xs))):=by
 refine qV.of_sem Tryz.func93 rfl (by kernel_rfl) (rs:=[.tmp 4]) rfl Tryz.ntmps93 (lB rfl) fun C w g root=>?_
 all_goals have fx:=fx0
 repeat' (first
  | refine qf ?_|refine qj fun K hK=>?_
  | ((with_reducible refine qc hK ?_);clear hK K)
  | (with_reducible first|refine qD ?_)
  | refine qw ?_
  | (with_reducible first|refine qO ?_|refine qG (h:=?_))
  | ((with_reducible refine z7 130 rfl ?_);refine qM (hF:=yY _ _ _ hlen) (h:=?_))
  | (with_reducible refine x_q (h:=?_))
  | fail)
 all_goals try clear fx
 refine qF [] .nil (by simp [];rfl) (by simp [ze])
theorem vD (gl) (xs:List Int) (hlen:xs.length≤4294967296):qV Tryz.prog gl 129 [isl xs] (fun r y H'=>y=.hs r 1 0 (sorted xs).length∧H' r=some (.row 1 (qJ (sorted xs)))):=by
 refine qV.of_sem Tryz.func129 rfl (by kernel_rfl) (rs:=[.tmp 2]) rfl Tryz.ntmps129 (lB rfl) fun C w g root=>?_
 have fx:=fx0
 refine qB ?_
 clear fx
 refine qY (fun n st=>∃ i:Nat,n=8 - i∧i≤8∧st.tm 0=isl xs∧st.tm 4=iv i∧st.tm 3=.hs (.s 3) 1 0 (qv xs i).length∧st.hp (.s 3)=some (.row 1 (qJ (qv xs i)))) 8 ?_ ?_
 ·exact⟨0,by simp [qv]⟩
 rintro n st - - ⟨i,rfl,hi,h0,h4,h3,hp3⟩
 have hsl:=kL (xs:=xs) i
 have fx:=aI h0<|aI h4<|aI h3<|hp3
 refine qB ?_
 clear fx
 refine ub (by simp [];first|done|rfl|exact (Bool.not_not _).symm) (fun ht=>?_) (fun hf=>?_)
 ·have hlt:(i:Int)≤7:=by simpa using ht
  all_goals have fx:=aI h0<|aI h4<|aI h3<|hp3
  repeat' (first
   | refine qf ?_|refine qS ?_|refine q7 ?_|refine qj fun K hK=>?_
   | ((with_reducible refine qc hK ?_);clear hK K)
   | (with_reducible first|refine qD ?_|refine qb ?_|refine qu ?_|refine zr ?_|refine qP ?_|refine zK ?_|refine zP (by decide) ?_)
   | refine jS ?_
   | refine qw ?_
   | (with_reducible first|refine qO ?_|refine qG (h:=?_)|refine jA (T:=42) (h:=?_)|refine jP (T:=42) (h:=?_)|refine jp (h:=?_))
   | ((with_reducible refine z7 130 rfl ?_);refine qM (hF:=yY _ _ _ hlen) (h:=?_))
   | (with_reducible refine x_q (h:=?_))
   | refine qR (h1:=?_)|refine qg (h1:=?_)
   | fail)
  all_goals try clear fx
  refine ub (by simp [];first|done|rfl|exact (Bool.not_not _).symm) (fun ht=>?_) (fun hf=>?_)
  ·have hm:(i:Int)∈xs:=ze.1 (by simpa using ht)
   have fx:=aI h0<|aI h4<|aI h3<|hp3
   refine qB ?_
   clear fx
   refine⟨8 - (i+1),by omega,i+1,rfl,by omega,?_⟩
   simp [h0,h3,qv,hm]
   exact wrp (by omega) (by omega)
  ·have hm:¬ (i:Int)∈xs:=fun h=>by simp [ze.2 h] at hf
   have fx:=aI h0<|aI h4<|aI h3<|hp3
   refine qB ?_
   clear fx
   refine⟨8 - (i+1),by omega,i+1,rfl,by omega,?_⟩
   simp [h0,h3,hp3,qv,hm]
   exact wrp (by omega) (by omega)
 ·have h8:i=8:=by
   have:¬ (i:Int)≤7:=by simpa using hf
   omega
  subst h8
  all_goals have fx:=aI h0<|aI h4<|aI h3<|hp3
  repeat' (first
   | refine qf ?_|refine qS ?_|refine q7 ?_|refine qj fun K hK=>?_
   | ((with_reducible refine qc hK ?_);clear hK K)
   | (with_reducible first|refine qD ?_|refine qb ?_|refine qu ?_|refine zr ?_|refine qP ?_|refine zK ?_|refine zP (by decide) ?_)
   | refine jS ?_
   | refine qw ?_
   | (with_reducible first|refine qO ?_|refine qG (h:=?_)|refine jA (T:=42) (h:=?_)|refine jP (T:=42) (h:=?_)|refine jp (h:=?_))
   | (with_reducible refine x_q (h:=?_))
   | refine qR (h1:=?_)|refine qg (h1:=?_)
   | fail)
  all_goals try clear fx
  exact zY (t:=2) (by first|(simp [hp3];done)|(simp [hp3];rfl)) (by first|(simp [hp3];done)|(simp [hp3];rfl)) (by simp)
theorem qAp (gl) (s:Stm):qV Tryz.prog gl 163 [Stm.av s] (fun r y H'=>y=.hs r 1 0 s.reads.length∧H' r=some (.row 1 (qJ s.reads))):=by
 refine qV.of_sem Tryz.func163 rfl (by kernel_rfl) (rs:=[.tmp 2]) rfl Tryz.ntmps163 (lB rfl) fun C w g root=>?_
 obtain⟨kind,to,a,b⟩:=s
 all_goals have fx:=fx0
 repeat' (first
  | refine qf ?_|refine qS ?_|refine q7 ?_|refine qj fun K hK=>?_
  | ((with_reducible refine qc hK ?_);clear hK K)
  | (with_reducible first|refine qD ?_|refine qP ?_|refine zK ?_)
  | refine qw ?_
  | (with_reducible first|refine qO ?_|refine qG (h:=?_)|refine zp (h:=?_)|refine jp (h:=?_))
  | (with_reducible refine x_q (h:=?_))
  | refine qR (h1:=?_)
  | refine qAF (h1:=fun ht=>?_) (h2:=fun ht=>?_)
  | fail)
 all_goals try clear fx
 all_goals refine zY (t:=2) ?_ ?_ ?_
 all_goals simp_all [Stm.reads,qJ]
theorem qQi (gl) (s:Stm):qV Tryz.prog gl 185 [Stm.av s] (fun _ x _=>x=bv (decide s.sets)):=by
 refine qV.of_sem Tryz.func185 rfl (by kernel_rfl) (rs:=[.tmp 2]) rfl Tryz.ntmps185 (lB rfl) fun C w g root=>?_
 all_goals have fx:=fx0
 repeat' (first
  | refine qf ?_|refine qj fun K hK=>?_
  | ((with_reducible refine qc hK ?_);clear hK K)
  | (with_reducible first|refine qD ?_)
  | refine qw ?_
  | (with_reducible first|refine qO ?_|refine qG (h:=?_)|refine zp (h:=?_))
  | ((with_reducible refine z7 64 rfl ?_);refine qM (hF:=zh _ _ _ _) (h:=?_))
  | (with_reducible refine x_q (h:=?_))
  | fail)
 all_goals try clear fx
 refine qF [] .nil (by simp [];rfl) (by simp [])
theorem wt (gl) (xs:List Int) (hlen:xs.length≤4294967296):qV Tryz.prog gl 132 [isl xs] (fun r y H'=>y=.hs r 1 0 xs.length∧H' r=some (.row 1 (qJ xs))):=by
 refine qV.of_sem Tryz.func132 rfl (by kernel_rfl) (rs:=[.tmp 2]) rfl Tryz.ntmps132 (lB rfl) fun C w g root=>?_
 have fx:=fx0
 refine qB ?_
 clear fx
 exact zY (t:=2) (by first|(simp [];done)|(simp [];rfl)) (by first|(simp [];done)|(simp [];rfl)) (by simp)
theorem qAI {ss:List Stm} {s:Stm} {i:Nat} (h:ss[i]?=some s):zq (ss.take (i+1))=zq (ss.take i)++s.reads:=by
 rw [List.take_add_one,h];simp [zq]
theorem qQp (gl) (p:Prg) (b:Nat) (k:Blk) (hk:p[b]?=some k) (hlen:k.body.length≤1048576):qV Tryz.prog gl 167 [pav p,iv b] (fun r y H'=>y=.hs r 1 0 (sorted (zq k.body)).length∧H' r=some (.row 1 (qJ (sorted (zq k.body))))):=by
 refine qV.of_sem Tryz.func167 rfl (by kernel_rfl) (rs:=[.tmp 4]) rfl Tryz.ntmps167 (lB rfl) fun C w g root=>?_
 have fx:=fx0
 refine qB ?_
 clear fx
 refine qY (fun n st=>∃ i:Nat,n=k.body.length - i∧i≤k.body.length∧st.tm 1=iv b∧st.tm 2=.pt (.s 2) 0∧st.hp (.s 2)=some (.row 1 [[ksl p]])∧st.tm 6=iv i∧st.tm 5=.hs (.s 5) 1 0 (zq (k.body.take i)).length∧st.hp (.s 5)=some (.row 1 (qJ (zq (k.body.take i))))) k.body.length ?_ ?_
 ·exact⟨0,by simp [zq]⟩
 rintro n st - - ⟨i,rfl,hi,h1,h2,hp2,h6,h5,hp5⟩
 have hrl:=qFs (k.body.take i)
 rw [List.length_take] at hrl
 have fx:=aI h1<|aI h2<|aI hp2<|aI h6<|aI h5<|aI hp5<|hk
 refine qB ?_
 clear fx
 refine ub (by simp [];first|done|rfl|exact (Bool.not_not _).symm) (fun ht=>?_) (fun hf=>?_)
 ·have hlt:i<k.body.length:=by simpa using ht
  obtain⟨s,hs⟩:∃ s,k.body[i]?=some s:=⟨_,gE hlt⟩
  have hsl:=s.reads_len
  have fx:=aI h1<|aI h2<|aI hp2<|aI h6<|aI h5<|aI hp5<|aI hk<|hs
  have d1:=qAp gl s
  refine qB ?_
  clear fx d1
  refine⟨k.body.length - (i+1),by omega,i+1,rfl,by omega,?_⟩
  simp [h1,h2,hp2,h5,qAI hs]
  exact wrp (by omega) (by omega)
 ·have h8:i=k.body.length:=by
   have:¬ i<k.body.length:=by simpa using hf
   omega
  subst h8
  have fx:=aI h1<|aI h2<|aI hp2<|aI h6<|aI h5<|aI hp5<|hk
  have d1:=vD gl (zq k.body) (by rw [List.take_length] at hrl;omega)
  refine qB ?_
  clear fx d1
  exact zY (t:=4) (by first|(simp [];done)|(simp [];rfl)) (by first|(simp [];done)|(simp [];rfl)) (by simp)
end Go.Proofs.YtbgmnmnoaamgkaaGreatDoor
end
section
namespace Go.Proofs.YtbgmnmnoaamgkaaGreatDoor
open Go Go.Hm Go.Proofs
theorem qIx (gl) (p:Prg) (b:Nat) (k:Blk) (hk:p[b]?=some k) (hs:BSm k):qV Tryz.prog gl 165 [pav p,iv b] (fun r y H'=>y=.hs r 1 0 k.bd.length∧H' r=some (.row 1 (qJ k.bd))):=by
 obtain⟨hl1,hl2⟩:=hs
 refine qV.of_sem Tryz.func165 rfl (by kernel_rfl) (rs:=[.tmp 4]) rfl Tryz.ntmps165 (lB rfl) fun C w g root=>?_
 have fx:= hk
 have d1:=wt gl k.params (by omega)
 refine qB ?_
 clear fx d1
 refine qY (fun n st=>∃ i:Nat,n=k.body.length - i∧i≤k.body.length∧st.tm 1=iv b∧st.tm 2=.pt (.s 2) 0∧st.hp (.s 2)=some (.row 1 [[ksl p]])∧st.tm 6=iv i∧∃ xs:List Int,xs=k.params++((k.body.take i).filter (fun s=>decide (s.sets∨s.kind=11))).map Stm.to∧xs.length≤k.params.length+i∧st.tm 5=.hs (.s 5) 1 0 xs.length∧st.hp (.s 5)=some (.row 1 (qJ xs))) k.body.length ?_ ?_
 ·exact⟨0,by simp⟩
 rintro n st - - ⟨i,rfl,hi,h1,h2,hp2,h6,xs,hxs,hxl,h5,hp5⟩
 have fx:=aI h1<|aI h2<|aI hp2<|aI h6<|aI h5<|aI hp5<|hk
 refine qB ?_
 clear fx
 refine ub (by simp [];first|done|rfl|exact (Bool.not_not _).symm) (fun ht=>?_) (fun hf=>?_)
 ·have hlt:i<k.body.length:=by simpa using ht
  obtain⟨s,hs⟩:∃ s,k.body[i]?=some s:=⟨_,gE hlt⟩
  by_cases hc:s.sets <;> cases h11:(s.kind==11)
  all_goals have fx:=aI h1<|aI h2<|aI hp2<|aI h6<|aI h5<|aI hp5<|aI hk<|aI hs<|aI hc<|h11
  repeat' (first
   | refine qf ?_|refine qS ?_|refine q7 ?_|refine qj fun K hK=>?_
   | ((with_reducible refine qc hK ?_);clear hK K)
   | (with_reducible first|refine qD ?_|refine qb ?_|refine qu ?_|refine zr ?_|refine qP ?_|refine zK ?_|refine zP (by decide) ?_)
   | refine jS ?_
   | refine qw ?_
   | (with_reducible refine qO ?_)
   | ((with_reducible refine vR ?_);refine q6 (h:=?_))
   | (with_reducible first|refine jV ?_|refine y7 ?_|refine uz (h:=?_)|refine qAC (h:=?_)|refine x_u (h:=?_)|refine qG (h:=?_)|refine zp (h:=?_)|refine zk (h:=?_)|refine qp (h:=?_)|refine jA (T:=42) (h:=?_)|refine jP (T:=42) (h:=?_)|refine jp (h:=?_))
   | ((with_reducible refine z7 185 rfl ?_);refine qM (hF:=qQi _ s) (h:=?_))
   | (with_reducible refine x_q (h:=?_))
   | (with_reducible refine kB (fun ht=>?_) (fun ht=>?_))
   | refine qR (h1:=?_)|refine qg (h1:=?_)
   | fail)
  all_goals try clear fx
  all_goals refine⟨k.body.length - (i+1),by omega,i+1,rfl,by omega,by simp [h1],by simp [h2],by simp [hp2],by simp;exact wrp (by omega) (by omega),_,rfl,?_⟩
  all_goals simp at h11
  all_goals simp [qy hs,hc,h11,h5,hp5,hxs]
  all_goals (rw [hxs] at hxl;simp at hxl;omega)
 ·have h8:i=k.body.length:=by
   have:¬ i<k.body.length:=by simpa using hf
   omega
  subst h8
  have hb:uv k=xs:=by rw [hxs];simp [uv]
  have fx:=aI h1<|aI h2<|aI hp2<|aI h6<|aI h5<|aI hp5<|hk
  have d1:=vD gl xs (by omega)
  refine qB ?_
  clear fx d1
  rw [← hb]
  exact zY (t:=4) (by first|(simp [];done)|(simp [];rfl)) (by first|(simp [];done)|(simp [];rfl)) (by simp)
theorem zm (gl) (p:Prg) (b:Nat) (k:Blk) (d:Int) (hk:p[b]?=some k) (hs:BSm k):qV Tryz.prog gl 92 [pav p,iv b,iv d] (fun r y H'=>y=.hs r 1 0 (k.dc d).length∧H' r=some (.row 1 (qJ (k.dc d)))):=by
 obtain⟨hl1,hl2⟩:=hs
 refine qV.of_sem Tryz.func92 rfl (by kernel_rfl) (rs:=[.tmp 6]) rfl Tryz.ntmps92 (lB rfl) fun C w g root=>?_
 have fx:= hk
 refine qB ?_
 clear fx
 refine qY (fun n st=>∃ i:Nat,n=k.body.length - i∧i≤k.body.length∧st.tm 1=iv b∧st.tm 2=iv d∧st.tm 3=.pt (.s 3) 0∧st.hp (.s 3)=some (.row 1 [[ksl p]])∧st.tm 8=iv i∧∃ xs:List Int,xs=((k.body.take i).filter (fun s=>decide (s.kind=d))).map Stm.to∧xs.length≤i∧st.tm 7=.hs (.s 7) 1 0 xs.length∧st.hp (.s 7)=some (.row 1 (qJ xs))) k.body.length ?_ ?_
 ·exact⟨0,by simp⟩
 rintro n st - - ⟨i,rfl,hi,h1,h2,h3,hp3,h8,xs,hxs,hxl,h7,hp7⟩
 have fx:=aI h1<|aI h2<|aI h3<|aI hp3<|aI h8<|aI h7<|aI hp7<|hk
 refine qB ?_
 clear fx
 refine ub (by simp [];first|done|rfl|exact (Bool.not_not _).symm) (fun ht=>?_) (fun hf=>?_)
 ·have hlt:i<k.body.length:=by simpa using ht
  obtain⟨s,hs⟩:∃ s,k.body[i]?=some s:=⟨_,gE hlt⟩
  cases hc:(s.kind==d)
  all_goals have fx:=aI h1<|aI h2<|aI h3<|aI hp3<|aI h8<|aI h7<|aI hp7<|aI hk<|aI hs<|hc
  repeat' (first
   | refine qf ?_|refine qS ?_|refine q7 ?_|refine qj fun K hK=>?_
   | ((with_reducible refine qc hK ?_);clear hK K)
   | (with_reducible first|refine qD ?_|refine qb ?_|refine qu ?_|refine zr ?_|refine qP ?_|refine zK ?_|refine zP (by decide) ?_)
   | refine jS ?_
   | refine qw ?_
   | (with_reducible first|refine qO ?_|refine qG (h:=?_)|refine zp (h:=?_)|refine jA (T:=42) (h:=?_)|refine jP (T:=42) (h:=?_)|refine jp (h:=?_))
   | (with_reducible refine x_q (h:=?_))
   | refine qR (h1:=?_)|refine qg (h1:=?_)
   | fail)
  all_goals try clear fx
  all_goals refine⟨k.body.length - (i+1),by omega,i+1,rfl,by omega,by simp [h1],by simp [h2],by simp [h3],by simp [hp3],by simp;exact wrp (by omega) (by omega),_,rfl,?_⟩
  all_goals simp at hc
  all_goals simp [qy hs,hc,h7,hp7,hxs]
  all_goals (rw [hxs] at hxl;simp at hxl;omega)
 ·have h8:i=k.body.length:=by
   have:¬ i<k.body.length:=by simpa using hf
   omega
  subst h8
  have hb:kj k d=xs:=by rw [hxs];simp [kj]
  have fx:=aI h1<|aI h2<|aI h3<|aI hp3<|aI h8<|aI h7<|aI hp7<|hk
  have d1:=vD gl xs (by omega)
  refine qB ?_
  clear fx d1
  simp only [Blk.dc,hb]
  exact zY (t:=6) (by first|(simp [];done)|(simp [];rfl)) (by first|(simp [];done)|(simp [];rfl)) (by simp)
theorem uZ (gl) (p:Prg) (b:Nat) (k:Blk) (x:Int) (hk:p[b]?=some k) (hs:BSm k):qV Tryz.prog gl 131 [pav p,iv b,iv x] (fun _ y _=>y=bv (zZ b k x)):=by
 refine qV.of_sem Tryz.func131 rfl (by kernel_rfl) (rs:=[.tmp 6]) rfl Tryz.ntmps131 (lB rfl) fun C w g root=>?_
 all_goals have fx:= hk
 repeat' (first
  | refine qf ?_|refine qj fun K hK=>?_
  | ((with_reducible refine qc hK ?_);clear hK K)
  | (with_reducible first|refine qD ?_)
  | refine qw ?_
  | (with_reducible refine qO ?_)
  | ((with_reducible refine vR ?_);refine q6 (h:=?_))
  | (with_reducible first|refine jV ?_|refine uz (h:=?_)|refine qG (h:=?_)|refine zp (h:=?_))
  | ((with_reducible refine z7 165 rfl ?_);refine jK (hF:=qIx _ p b k hk hs) (h:=?_))
  | ((with_reducible refine z7 93 rfl ?_);refine qM (hF:=yJ _ _ _ (by first|exact Nat.le_trans (Blk.bd_len _) (by decide)|exact Nat.le_trans (Blk.dc_len _ _) (by decide)|exact Nat.le_trans (Blk.rd_len _) (by decide))) (h:=?_))
  | ((with_reducible refine z7 92 rfl ?_);refine jK (hF:=zm _ p b k _ hk hs) (h:=?_))
  | (with_reducible refine x_q (h:=?_))
  | (with_reducible refine kB (fun ht=>?_) (fun ht=>?_))
  | fail)
 all_goals try clear fx
 all_goals refine qF [] .nil (by simp;rfl) ?_
 all_goals simp_all [zZ]
end Go.Proofs.YtbgmnmnoaamgkaaGreatDoor
end
section
namespace Go.Proofs.YtbgmnmnoaamgkaaGreatDoor
open Go Go.Hm Go.Proofs
theorem vX (gl) (p:Prg) (b:Nat) (k:Blk) (x:Int) (hk:p[b]?=some k) (hs:Sml p) (hh:z6 p):qV Tryz.prog gl 94 [pav p,iv b,iv x] (fun _ y _=>y=iv (outer p b x)):=by
 refine qV.of_sem Tryz.func94 rfl (by kernel_rfl) (rs:=[.tmp 6]) rfl Tryz.ntmps94 (lB rfl) fun C w g root=>?_
 have fx:= hk
 refine qB ?_
 clear fx
 obtain⟨hk1,hk2,_⟩:=hh b k hk
 have hbl:b<p.length:=(gS hk).1
 refine qY (fun n st=>∃ j:Int,n=(j+1).toNat ∧ -1≤j∧j<p.length∧zF p x p.length j=outer p b x∧st.tm 2=iv x∧st.tm 3=.pt (.s 3) 0∧st.hp (.s 3)=some (.row 1 [[ksl p]])∧st.tm 7=iv j) (k.parent+1).toNat ?_ ?_
 ·exact⟨k.parent,rfl,hk1,by omega,(jv hh hk).symm,by simp⟩
 rintro n st - - ⟨j,rfl,hj1,hj2,ho,h2,h3,hp3,h7⟩
 have fx:=aI h2<|aI h3<|aI hp3<|h7
 refine qB ?_
 clear fx
 refine ub (by simp [];first|done|rfl|exact (Bool.not_not _).symm) (fun ht=>?_) (fun hf=>?_)
 ·have hj0:0<j:=by simpa using ht
  obtain⟨j,rfl⟩:∃ i:Nat,j=i:=⟨j.toNat,by omega⟩
  have hj0:0<j:=by omega
  obtain⟨q,hq⟩:∃ q,p[j]?=some q:=⟨_,gE (by omega)⟩
  rw [j5 hh hq hj0] at ho
  obtain⟨hq1,hq2,hq3⟩:=hh j q hq
  cases hc:(q.kind==1)
  ·skip
   have fx:=aI h2<|aI h3<|aI hp3<|aI h7<|aI hq<|aI hc<|@zU
   refine qB ?_
   clear fx
   refine⟨(q.parent+1).toNat,by omega,q.parent,rfl,hq1,by omega,?_,by simp [h2,h3,hp3]⟩
   rw [← ho,if_pos (by simpa using hc)]
  ·rw [if_neg (by simpa using hc)] at ho
   all_goals have fx:=aI h2<|aI h3<|aI hp3<|aI h7<|aI hq<|aI hc<|@zU
   repeat' (first
    | refine qf ?_|refine qS ?_|refine q7 ?_|refine qj fun K hK=>?_
    | ((with_reducible refine qc hK ?_);clear hK K)
    | (with_reducible first|refine qD ?_|refine qb ?_|refine qu ?_|refine zr ?_|refine qP ?_|refine zK ?_|refine zP (by decide) ?_)
    | refine jS ?_
    | refine qw ?_
    | (with_reducible first|refine qO ?_|refine qG (h:=?_)|refine zp (h:=?_))
    | ((with_reducible refine z7 92 rfl ?_);refine jK (hF:=zm _ p j q _ hq (hs.bsm hq)) (h:=?_))
    | ((with_reducible refine z7 93 rfl ?_);refine qM (hF:=yJ _ _ _ (Nat.le_trans (Blk.dc_len _ _) (by decide))) (h:=?_))
    | (with_reducible refine x_q (h:=?_))
    | refine qR (h1:=?_)|refine qg (h1:=?_)
    | fail)
   all_goals try clear fx
   refine ub (by simp [];first|done|rfl|exact (Bool.not_not _).symm) (fun ht=>?_) (fun hf=>?_)
   ·have hm:x∈q.dc 9:=by simpa using ht
    rw [if_pos hm] at ho
    have fx:=aI h2<|aI h3<|aI hp3<|aI h7<|hq
    refine qB ?_
    clear fx
    refine qF [] .nil (by simp [];rfl) (by simp [← ho])
   ·have hm:¬ x∈q.dc 9:=by simpa using hf
    rw [if_neg hm] at ho
    have fx:=aI h2<|aI h3<|aI hp3<|aI h7<|hq
    have c1:=uZ gl p j q x hq (hs.bsm hq)
    refine qB ?_
    clear fx c1
    refine ub (by simp [];first|done|rfl|exact (Bool.not_not _).symm) (fun ht=>?_) (fun hf=>?_)
    ·rw [if_pos ht] at ho
     have fx:=aI h2<|aI h3<|aI hp3<|aI h7<|hq
     refine qB ?_
     clear fx
     refine qF [] .nil (by simp [];rfl) (by simp [← ho])
    ·rw [if_neg (by simp [hf])] at ho
     have fx:=aI h2<|aI h3<|aI hp3<|aI h7<|hq
     refine qB ?_
     clear fx
     refine⟨(q.parent+1).toNat,by omega,q.parent,rfl,hq1,by omega,ho,by simp [h2,h3,hp3]⟩
 ·have hj:j≤0:=by simpa using hf
  rw [yp hj] at ho
  have fx:=fx0
  refine qB ?_
  clear fx
  refine qF [] .nil (by simp [];rfl) (by simp [← ho])
end Go.Proofs.YtbgmnmnoaamgkaaGreatDoor
end
