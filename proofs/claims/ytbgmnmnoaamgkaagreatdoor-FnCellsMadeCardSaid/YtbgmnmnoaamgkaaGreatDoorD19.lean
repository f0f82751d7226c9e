/-
  Own texts, joined by mkclaim.py: Hm190, Hm191, Hm193, Hm194.
-/
import Derived.Test.YtbgmnmnoaamgkaaGreatDoorD18
import Derived.Test.YtbgmnmnoaamgkaaGreatDoorD16
import Derived.Test.YtbgmnmnoaamgkaaGreatDoorD09
import Derived.Test.YtbgmnmnoaamgkaaGreatDoorD14
import Derived.Test.YtbgmnmnoaamgkaaGreatDoorD12
import Derived.Test.YtbgmnmnoaamgkaaGreatDoorD17
set_option linter.unusedSimpArgs false
set_option linter.unusedVariables false
set_option maxRecDepth 100000
set_option maxHeartbeats 4000000

section
namespace Go.Hm
open Go Go.RowKit
section
variable {key:Nat→Nm} {es:List Nat} {l l':List AV} {i j z n:Nat} {x:AV} {m:Nm}
theorem qPe:zcs key es j (l++l')=zcs key es j l++zcs key es (j+l.length) l':=by
 induction l generalizing j with
 | nil=>simp [zcs]
 | cons y l ih =>
  have e:j+1+l.length=j+(y::l).length:=by simp;omega
  simp only [List.cons_append,zcs,ih,e]
theorem qPd:(zcs key es j l).length=l.length:=by
 induction l generalizing j with
 | nil=>rfl
 | cons y l ih=>simp [zcs,ih]
theorem qGP (hk:∀ a b,key a=key b→a=b) (h:l[i]?=some x) (hx:qn x=true):(qr key es j l).find? (fun p=>decide (p.1=key (j+i)))=some (key (j+i),es.getD (j+i) 0):=by
 induction l generalizing i j with
 | nil=>cases h
 | cons y l ih =>
  cases i with
  | zero =>
   obtain rfl:y=x:=by simpa using h
   simp [qr,hx]
  | succ i =>
   have hn:¬ key j=key (j+(i+1)):=fun e=>by have:=hk _ _ e;omega
   have:=ih (j:=j+1) (i:=i) (by simpa using h)
   rw [show j+1+i=j+(i+1) by omega] at this
   simp only [qr]
   split
   ·rw [List.find?_cons_of_neg (by simpa using hn)]
    exact this
   ·exact this
theorem qC9 (h:∀ a,m≠key a):(qr key es j l).find? (fun p=>decide (p.1=m))=none:=by
 induction l generalizing j with
 | nil=>rfl
 | cons y l ih =>
  simp only [qr]
  split
  ·rw [List.find?_cons_of_neg (by simpa using fun e=>h j e.symm)]
   exact ih
  ·exact ih
theorem qOl:cat (fun i=>(l.drop (z * i)).take z) n=l.take (z * n):=by
 induction n with
 | zero=>simp [cat]
 | succ n ih=>rw [vZ,ih,Nat.mul_succ,List.take_add]
end
structure PreY (hp:Nm→Option AO) (p:Prg) (n b:Nat):Prop where
 top:∃ J:Nat→List AV,(∀ i,(J i).length=29)∧hp Yn=some (.row 4415 [spl (ql p (qT n) 0 J) 1 [.hs (.c Yn 0 1) 1 0 b]])
 caps:hp (.c Yn 0 1)=some (.row 1 (jc p b))
 out:hp (.c Yn 0 4)=some (.row 1 [])
 trc:hp (.c Yn 0 5)=some (.row 2 [])
 funs:hp (.c Yn 0 30)=some (.row 2 [])
 clss:hp (.c Yn 0 31)=some (.row 24 [])
 only:∀ k i j,fM k=true→hp (.u k i j)≠none→k=1∧i=0∧j=0
section
variable {hp hp':Nm→Option AO} {p:Prg} {n b:Nat} {R:List AV}
theorem PreY.own (h:PreY hp p n p.length):OwnY hp p (qT n):=by
 obtain⟨J,hJ,e⟩:=h.top
 refine⟨⟨J,hJ,?_⟩,h.caps,by simpa [qT,qJ] using h.out,by simpa [qT,jq] using h.trc,by simpa [qT] using h.funs,by simpa [qT] using h.clss,fun i f hf=>by simp [qT] at hf,fun i f hf=>by simp [qT] at hf,fun i f hf=>by simp [qT] at hf,fun c s hs=>by simp [qT] at hs,fun k i j hk hn=>.inl (h.only k i j hk hn)⟩
 rw [e]
 rfl
theorem PreY.row (h:PreY hp p n b):∃ R,hp Yn=some (.row 4415 [R])∧R.length=4415∧R[1]?=some (.hs (.c Yn 0 1) 1 0 b):=by
 obtain⟨J,hJ,e⟩:=h.top
 exact⟨_,e,by rw [qQf (by rw [yx hJ];simp),yx hJ],rfl⟩
theorem PreY.step {b':Nat} {R':List AV} (h:PreY hp p n b) (hr:hp Yn=some (.row 4415 [R])) (h0:hp' Yn=some (.row 4415 [R'])) (hR:∃ F:Nm→Option Nm,(∀ j,j≠1→F (.c Yn 0 j)=some (.c Yn 0 j))∧R'=(R.map (AV.tr F)).take 1++.hs (.c Yn 0 1) 1 0 b'::(R.map (AV.tr F)).drop 2)
  (h1:hp' (.c Yn 0 1)=some (.row 1 (jc p b')))
  (h2:hp' (.c Yn 0 4)=some (.row 1 []):=by simp [h.out]) (h3:hp' (.c Yn 0 5)=some (.row 2 []):=by simp [h.trc])
  (h4:hp' (.c Yn 0 30)=some (.row 2 []):=by simp [h.funs]) (h5:hp' (.c Yn 0 31)=some (.row 24 []):=by simp [h.clss])
  (hA:∀ k i j,fM k=true→¬ (k=1∧i=0∧j=0)→hp' (.u k i j)≠none→hp (.u k i j)≠none:=by intro k i j hk e hn;simpa [hk,e] using hn):PreY hp' p n b':=by
 obtain⟨J,hJ,e⟩:=h.top
 obtain⟨F,hF,rfl⟩:=hR
 refine⟨⟨fun i=>(J i).map (AV.tr F),fun i=>by simp [hJ],?_⟩,h1,h2,h3,h4,h5,fun k i j hk hn=>?_⟩
 ·rw [h0,← qCS hr e]
  have hm:(ql p (qT n) 0 J).map (AV.tr F)=(yA p (qT n)).map (AV.tr F)++(vo qe++(yB (qT n)++(cat (fun i=>(J i).map (AV.tr F)) 151++yZ (qT n) 0))):=by
   rw [qPI]
   simp [yB,hF,AV.tr,qT]
  simp only [spl,List.map_append,List.map_take,List.map_drop,hm]
  simp [ql,yA,hF,AV.tr,jL,qT]
 ·by_cases e:k=1∧i=0∧j=0
  ·exact e
  ·exact h.only k i j hk (hA k i j hk e hn)
theorem qKz {P:Program} {T:TypeId} {st:St} {Z:List AV} {d:Nat} (hz:Z.length=4415) (hz1:Z.take 32=[.sc (.slice none 0 0),.sc (.slice none 0 0),iv 0,iv 0,.sc (.slice none 0 0),.sc (.slice none 0 0)]++(vo qe++[.sc (.slice none 0 0),.sc (.slice none 0 0)])) (hz2:Z.drop 4411=[iv 0,iv 0,iv 0,iv 0])
  (he:∀ k,(k=1∨k=4)→(tce P T).getD k 0=1) (he2:∀ k,(k=5∨k=30)→(tce P T).getD k 0=2) (he31:(tce P T).getD 31 0=24)
  (hD:∀ k i j,fM k=true→st.hp (.u k i j)=none) :
  PreY ((((St.setNils (qr (Nm.c (.s d) 0) (tce P T) 0 (spl (spl (spl Z 0 [csl (qX p p.length)]) 2 [iv n]) 3 [iv 0])) (st.kill (.s d))).setO (.s d) (.row 4415 [zcs (Nm.c (.s d) 0) (tce P T) 0 (spl (spl (spl Z 0 [csl (qX p p.length)]) 2 [iv n]) 3 [iv 0])])).move (.s d) Yn).hp) p n 0:=by
 obtain⟨mid,hmid,hml⟩:∃ mid,Z.drop 32=mid++[iv 0,iv 0,iv 0,iv 0]∧mid.length=29 * 151:=by
  refine⟨(Z.drop 32).take 4379,?_,by simp [hz]⟩
  have e:=List.take_append_drop 4379 (Z.drop 32)
  rw [List.drop_drop,hz2] at e
  exact e.symm
 have hZ:Z=([.sc (.slice none 0 0),.sc (.slice none 0 0),iv 0,iv 0,.sc (.slice none 0 0),.sc (.slice none 0 0)]++(vo qe++[.sc (.slice none 0 0),.sc (.slice none 0 0)]))++(mid++[iv 0,iv 0,iv 0,iv 0]):=by
  have e:=List.take_append_drop 32 Z
  rw [hz1,hmid] at e
  exact e.symm
 obtain⟨C,hC⟩:∃ C,C=spl (spl (spl Z 0 [csl (qX p p.length)]) 2 [iv n]) 3 [iv 0]:=⟨_,rfl⟩
 have hC2:C=([csl (qX p p.length),.sc (.slice none 0 0),iv n,iv 0,.sc (.slice none 0 0),.sc (.slice none 0 0)]++(vo qe++[.sc (.slice none 0 0),.sc (.slice none 0 0)]))++(mid++[iv 0,iv 0,iv 0,iv 0]):=by
  rw [hC,hZ]
  simp [spl,qA7]
 have e1:=he 1 (.inl rfl)
 have e4:=he 4 (.inr rfl)
 have e5:=he2 5 (.inl rfl)
 have e30:=he2 30 (.inr rfl)
 rw [← hC]
 generalize tce P T=es at *
 have hrow:zcs (Nm.c (.s d) 0) es 0 C=([csl (qX p p.length),.hs (.c (.s d) 0 1) 1 0 0,iv n,iv 0,.hs (.c (.s d) 0 4) 1 0 0,.hs (.c (.s d) 0 5) 2 0 0]++(vo qe++[.hs (.c (.s d) 0 30) 2 0 0,.hs (.c (.s d) 0 31) 24 0 0]))++(zcs (Nm.c (.s d) 0) es 32 mid++[iv 0,iv 0,iv 0,iv 0]):=by
  rw [hC2]
  simp only [List.getD_eq_getElem?_getD] at e1 e4 e5 e30 he31
  simp [qA7,qPe,zcs,zc,qn,e1,e4,e5,e30,he31]
 have hk:∀ k z,C[k]?=some (.sc (.slice none 0 0))→es.getD k 0=z→(St.setNils (qr (Nm.c (.s d) 0) es 0 C) (st.kill (.s d))).hp (.c (.s d) 0 k)=some (.row z []):=by
  intro k z h1 h2
  have:=qGP (es:=es) (j:=0) (key:=Nm.c (.s d) 0) (fun a b e=>by injection e) h1 rfl
  rw [Nat.zero_add] at this
  rw [w5,this,h2]
 have hc:∀ k,k<32→C[k]?=([csl (qX p p.length),.sc (.slice none 0 0),iv n,iv 0,.sc (.slice none 0 0),.sc (.slice none 0 0)]++(vo qe++[.sc (.slice none 0 0),.sc (.slice none 0 0)]))[k]?:=fun k hk=>by
  rw [hC2,List.getElem?_append_left (by simpa using hk)]
 have g1:=hk 1 1 (by rw [hc 1 (by omega)];rfl) e1
 have g4:=hk 4 1 (by rw [hc 4 (by omega)];rfl) e4
 have g5:=hk 5 2 (by rw [hc 5 (by omega)];rfl) e5
 have g30:=hk 30 2 (by rw [hc 30 (by omega)];rfl) e30
 have g31:=hk 31 24 (by rw [hc 31 (by omega)];rfl) he31
 rw [hrow]
 obtain⟨mm,hmm⟩:∃ mm,mm=(zcs (Nm.c (.s d) 0) es 32 mid).map (AV.tr (mv (.s d) Yn)):=⟨_,rfl⟩
 have hmml:mm.length=29 * 151:=by rw [hmm,List.length_map,qPd,hml]
 obtain⟨J,hJ1,hJ2⟩:∃ J:Nat→List AV,(∀ i,(J i).length=29)∧cat J 151=mm:=by
  refine⟨fun i=>if i<151 then (mm.drop (29 * i)).take 29 else List.replicate 29 .bot,fun i=>?_,?_⟩
  ·dsimp only
   split
   ·simp [hmml];omega
   ·simp
  ·rw [qGj (c:=fun i=>(mm.drop (29 * i)).take 29) fun i hi=>by simp [hi],qOl]
   exact List.take_of_length_le (by omega)
 refine⟨⟨J,hJ1,?_⟩,by simp [g1,AO.tr],by simp [g4,AO.tr],by simp [g5,AO.tr],by simp [g30,AO.tr],by simp [g31,AO.tr],fun k i j hk hn=>?_⟩
 ·simp [AO.tr,ql,yA,yB,yZ,hJ2,spl,qT,hmm,AV.tr,jL,ki]
 ·by_cases e:k=1∧i=0∧j=0
  ·exact e
  ·refine absurd ?_ hn
   have hno:(St.setNils (qr (Nm.c (.s d) 0) es 0 C) (st.kill (.s d))).hp (.u k i j)=none:=by
    rw [w5,qC9 fun a e=>by cases e]
    simp [hD k i j hk]
   simp [e,hno]
end
section
variable {P:Program} {T:TypeId} {l:List Value} {a b c:AV} {e0 e2 e3:TypeId} {key:Nat→Nm} {es:List Nat} {j:Nat} {L:List AV} {x:AV}
theorem qMR (h1:y6 P T=true) (h2:ji P T=some l) (hl:l.length=4415) (f0:tfo P T 0=some (0,e0)) (f2:tfo P T 2=some (2,e2)) (f3:tfo P T 3=some (3,e3)) (s0:tsz P e0=1) (s2:tsz P e2=1) (s3:tsz P e3=1)
  (ha:a.cells=some [a]) (hb:b.cells=some [b]) (hc:c.cells=some [c]):qHk P T [(0,a),(2,b),(3,c)]=some (.agg (spl (spl (spl (l.map .sc) 0 [a]) 2 [b]) 3 [c])):=by
 unfold qHk
 rw [if_pos h1,h2]
 simp [qEy,f0,f2,f3,s0,s2,s3,ha,hb,hc,hl,spl]
theorem qPc (h:x∈zcs key es j L):(∃ k z,x=.hs (key k) z 0 0)∨x∈L:=by
 induction L generalizing j with
 | nil=>simp [zcs] at h
 | cons y L ih =>
  simp only [zcs,List.mem_cons] at h
  rcases h with rfl|h
  ·unfold zc
   split
   ·exact .inl ⟨_,_,rfl⟩
   ·exact .inr (by simp)
  ·rcases ih h with h|h
   ·exact .inl h
   ·exact .inr (by simp [h])
end
section
variable {X:Ctx} {st:St} {K:St→Prop} {E:AV→St→Prop} {d:Nat} {ty:TypeId} {pos:String} {aft:Array Edge} {g:Option (Nat×Bool)}
theorem qSg {T:TypeId} {x:Operand} {cs:List AV} (hd:d<X.n) (hq:(ev st x).cells=some cs) (z:Nat) (hz:cs.length=z) (hsz:tsz X.P T=z) (hs:∀ y∈cs,(∃ v,y=.sc v)∨∃ z rows,y=.sl z rows∧y.tr (kl (.s d))=y)
  (h:K (((St.setNils (qr (Nm.c (.s d) 0) (tce X.P T) 0 cs) (st.kill (.s d))).setO (.s d) (.row z [zcs (Nm.c (.s d) 0) (tce X.P T) 0 cs])).put (some d) (.pt (.s d) 0))) :
  qK X ⟨some d,.box T x,ty,pos,aft,g⟩ K E st:=by
 subst hsz
 refine zp hd hq hz ?_ h
 have hkl:cs.map (AV.tr (kl (.s d)))=cs:=by
  rw [List.map_congr_left (g:=id) fun y hy=>?_,List.map_id]
  rcases hs y hy with⟨v,rfl⟩|⟨z,rows,_,e⟩
  ·rfl
  ·exact e
 unfold wx
 simp only [hkl]
 rw [qE7 fun y hy=>?_]
 ·rfl
 ·rcases qPc hy with⟨k,z,rfl⟩|hy
  ·rfl
  ·rcases hs y hy with⟨v,rfl⟩|⟨z,rows,rfl,_⟩ <;> rfl
end
end Go.Hm
end
section
namespace Go.Hm
open Go Go.RowKit
section
variable {p:Prg} {m m':Mch} {b n:Nat} {fs:List Frm} {f g:Frm} {o:Int×Int} {v:Val} {s:Slt} {l:List (Int×Int)} {S:Stm} {x w:Int}
def qFU:List (Int×Int)→Nat
 | []=>0
 | o::l=>if o.1=0 then 0 else (if o.1=16∨o.1=17 then 1 else 0)+qFU l
def qR1 (S:Stm):Nat:=if S.kind=4∨S.kind=5 then 1 else 0
theorem qFN (hw:0≤w∧w≤2):qFU (zG p b x w::l)=qFU l:=by
 have key:∀ c:Int,2≤c∧c≤13→∀ a,qFU ((c,a)::l)=qFU l:=by
  intro c hc a
  simp only [qFU]
  rw [if_neg (by omega),if_neg (by omega),Nat.zero_add]
 unfold zG
 split
 ·exact key _ (by omega) _
 ·split
  ·exact key _ (by omega) _
  ·split
   ·exact key _ (by omega) _
   ·exact key _ (by omega) _
theorem qFO:∀ ss:List Stm,qFU (yE p b ss)=0
 | []=>rfl
 | s::ss=>by simp [yE,vC,qFU]
theorem qOx (hk:0≤S.kind∧S.kind≤11) (hl:qFU l=0):qFU (yg p b S++(jh S++(kD p b S++l)))≤qR1 S:=by
 obtain⟨kd,to,a,c⟩:=S
 simp only at hk
 have p0:=fun x l=>qFN (p:=p) (b:=b) (x:=x) (l:=l) (w:=0) (by omega)
 have p1:=fun x l=>qFN (p:=p) (b:=b) (x:=x) (l:=l) (w:=1) (by omega)
 have p2:=fun x l=>qFN (p:=p) (b:=b) (x:=x) (l:=l) (w:=2) (by omega)
 have q:∀ (c a:Int) (l:List (Int×Int)),c≠0→qFU ((c,a)::l)=(if c=16∨c=17 then 1 else 0)+qFU l:=fun c a l h=>by simp [qFU,h]
 have hd:kd=0∨kd=1∨kd=2∨kd=3∨kd=4∨kd=5∨kd=6∨kd=7∨kd=8∨kd=9∨kd=10∨kd=11:=by omega
 rcases hd with rfl|rfl|rfl|rfl|rfl|rfl|rfl|rfl|rfl|rfl|rfl|rfl
 all_goals try (simp [yg,Stm.reads,jh,kD,q,p0,p1,p2,hl,qR1];done)
 by_cases hc:c=-1 <;> simp [yg,Stm.reads,jh,kD,q,p0,p1,p2,hl,qR1,hc]
theorem qOw (ss:List Stm) (hk:∀ s∈ss,0≤s.kind∧s.kind≤11):∀ i o,(yE p b ss)[i]?=some o→o.1=0→∃ s,ss[j7 ((yE p b ss).take i)]?=some s∧qFU ((yE p b ss).drop (i+1))≤qR1 s:=by
 induction ss with
 | nil=>intro i o h;simp [yE] at h
 | cons s ss ih =>
  intro i o h h0
  have e:yE p b (s::ss)=vC p b s++yE p b ss:=by simp [yE]
  rw [e] at h ⊢
  by_cases hi:i<(vC p b s).length
  ·have hi0:i=0:=by
    rw [List.getElem?_append_left hi] at h
    cases i with
    | zero=>rfl
    | succ j =>
     have hm:o∈yg p b s++(jh s++kD p b s):=by
      have:(vC p b s)[j+1]?=(yg p b s++(jh s++kD p b s))[j]?:=rfl
      rw [this] at h
      exact gM h
     have:=qDX o hm
     omega
   subst hi0
   refine⟨s,by simp [j7],?_⟩
   have:=qOx (p:=p) (b:=b) (l:=yE p b ss) (hk s (by simp)) (qFO (p:=p) (b:=b) ss)
   simpa [vC] using this
  ·have hi:(vC p b s).length≤i:=by omega
   rw [List.getElem?_append_right hi] at h
   obtain⟨s',h1,h2⟩:=ih (fun t ht=>hk t (by simp [ht])) _ o h h0
   refine⟨s',?_,?_⟩
   ·rw [List.take_append,List.take_of_length_le hi,qCA,qJG,Nat.add_comm,List.getElem?_cons_succ]
    exact h1
   ·rw [List.drop_append,List.drop_eq_nil_of_le (by omega),List.nil_append]
    rwa [show i+1 - (vC p b s).length=i - (vC p b s).length+1 by omega]
def qKK (p:Prg) (f:Frm):Nat:=qFU ((jO p f.blk).drop f.pc)
def qMa (p:Prg) (fs:List Frm):Nat:=(fs.map (qKK p)).sum
def c45 (p:Prg) (tr:List (Nat×Nat)):Nat:=tr.countP fun t=>qNg p t==4||qNg p t==5
structure Cal (p:Prg) (m:Mch):Prop where
 le:m.made≤1+c45 p m.trace
 pe:m.en=0→m.made+qMa p m.frames≤1+c45 p m.trace
 tr:∀ t∈m.trace,∃ s,qJI p t=some s
theorem qHl (ho:(jO p f.blk)[f.pc]?=some o):qKK p f=if o.1=0 then 0 else (if o.1=16∨o.1=17 then 1 else 0)+qFU ((jO p f.blk).drop (f.pc+1)):=by
 unfold qKK
 rw [uD ho]
 rfl
theorem v3:qMa p (fs++[f])=qMa p fs+qKK p f:=by simp [qMa]
theorem qRl (h:Cal p m) (hm:m.frames=fs++[f]) (h0:m.en=0) (ho:(jO p f.blk)[f.pc]?=some o) (hn:o.1≠0) (hf:∃ g,m'.frames=fs++[g]∧g.blk=f.blk∧g.pc=f.pc+1) (h1:m'.made=m.made) (h2:m'.trace=m.trace):Cal p m':=by
 obtain⟨g,hg,e1,e2⟩:=hf
 have h3:=h.pe h0
 rw [hm,v3,qHl ho,if_neg hn] at h3
 refine⟨by rw [h1,h2];exact h.le,fun _=>?_,by rw [h2];exact h.tr⟩
 rw [h1,h2,hg,v3]
 unfold qKK
 rw [e1,e2]
 split at h3 <;> omega
theorem qGm {cs:List Nat} {vs:List Val} (hp:ValP p) (h:Cal p m) (hm:m.frames=fs++[f]) (h0:m.en=0) (ho:(jO p f.blk)[f.pc]?=some o) (hn:o.1=16∨o.1=17) (e1:g.blk=f.blk) (e2:g.pc=f.pc+1):Cal p (qk p (m.top fs g) b cs vs):=by
 have h3:=h.pe h0
 rw [hm,v3,qHl ho,if_neg (by omega),if_pos hn] at h3
 have key:∀ (C:List Slt) (F:Frm),F.blk=b→F.pc=0→Cal p { m.top fs g with cells:=C,made:=m.made+1,deep:=max m.deep (fs.length+1+1),frames:=fs++[g]++[F] }:=fun C F a1 a2=>by
  have hF:qKK p F=0:=by
   unfold qKK
   rw [a1,a2,List.drop_zero]
   unfold jO
   split
   ·exact qFO _
   ·rfl
  have hG:qKK p g=qFU ((jO p f.blk).drop (f.pc+1)):=by unfold qKK;rw [e1,e2]
  refine⟨?_,fun _=>?_,h.tr⟩
  ·simp only [Mch.top]
   omega
  ·simp only [Mch.top,v3,hF,hG]
   omega
 unfold qk
 have hl:(m.top fs g).frames.length=fs.length+1:=by simp [Mch.top]
 rw [hl]
 split
 ·split
  ·exact key _ _ rfl rfl
  ·exact key _ _ rfl rfl
 ·exact key _ _ rfl rfl
theorem qCz (h:Cal p m) (hm:m.frames=fs++[f]) (h0:m.en=0) (h1:m'.made=m.made) (h2:m'.trace=m.trace):Cal p (zD m' fs v):=by
 have h3:=h.pe h0
 rw [hm,v3] at h3
 unfold zD
 split
 ·rename_i g hl
  have hs:qMa p (fs.dropLast++[g.push v])=qMa p fs:=by
   have e:fs=fs.dropLast++[g]:=by
    have hne:fs≠[]:=fun e=>by rw [e] at hl;cases hl
    rw [List.getLast?_eq_some_getLast hne] at hl
    obtain rfl:=sI hl
    exact (List.dropLast_concat_getLast hne).symm
   conv=>rhs;rw [e]
   rw [v3,v3]
   rfl
  refine⟨by simp only [h1,h2];exact h.le,fun _=>?_,by simp only [h2];exact h.tr⟩
  simp only [h1,h2,hs]
  omega
 ·refine⟨by simp only [h1,h2];exact h.le,fun _=>?_,by simp only [h2];exact h.tr⟩
  simp only [h1,h2,qMa,List.map_nil,List.sum_nil]
  have:=h.le
  omega
theorem qOq (hp:ValP p) (h:Cal p m) (hm:m.frames=fs++[f]) (h0:m.en=0) (hM:MOk p m fs f):Cal p (yC p m):=by
 cases ho:(jO p f.blk)[f.pc]? with
 | none =>
  rw [Hm.step_end hm ho]
  unfold qDk
  split
  ·exact qCz h hm h0 rfl rfl
  ·exact qCz h hm h0 rfl rfl
 | some o =>
  rw [Hm.step_ord hm ho]
  unfold yq
  split
  ·rename_i hz
   unfold vq
   split
   ·exact⟨h.le,fun e=>absurd e (show ¬ (1:Int)=0 by decide),h.tr⟩
   ·obtain⟨k,hk⟩:∃ k,p[f.blk]?=some k:=⟨_,gE hM.top.blk⟩
    have hops:jO p f.blk=yE p f.blk k.body:=by simp [jO,hk]
    obtain⟨s,e1,e2⟩:=qOw (p:=p) (b:=f.blk) k.body (fun s hs=>(hp.sh.names k (gM hk)).kinds s hs) f.pc o (by rw [← hops];exact ho) hz
    have hst:qJI p (f.blk,j7 ((jO p f.blk).take (f.pc+1 - 1)))=some s:=by simp only [qJI,hk,hops];exact e1
    have h3:=h.pe h0
    rw [hm,v3,qHl ho,if_pos hz] at h3
    have hc:c45 p (m.trace++[(f.blk,j7 ((jO p f.blk).take (f.pc+1 - 1)))])=c45 p m.trace+qR1 s:=by
     simp only [c45,List.countP_append,List.countP_singleton,qNg,hst,qR1]
     by_cases a:s.kind=4
     ·simp [a]
     ·by_cases b:s.kind=5 <;> simp [a,b]
    have hle:=h.le
    refine⟨?_,fun _=>?_,?_⟩
    ·show m.made≤1+c45 p (m.trace++[(f.blk,j7 ((jO p f.blk).take (f.pc+1 - 1)))])
     rw [hc]
     omega
    ·show m.made+qMa p (fs++[f.next])≤1+c45 p (m.trace++[(f.blk,j7 ((jO p f.blk).take (f.pc+1 - 1)))])
     rw [hc,v3]
     have:qKK p f.next≤qR1 s:=by
      have:qKK p f.next=qFU ((jO p f.blk).drop (f.pc+1)):=rfl
      rw [this,hops]
      exact e2
     omega
    ·intro t ht
     simp only [Mch.top,List.mem_append,List.mem_singleton] at ht
     rcases ht with ht|rfl
     ·exact h.tr t ht
     ·exact⟨s,hst⟩
  ·rename_i hz
   have hG:∀ m':Mch,(∃ g,m'.frames=fs++[g]∧g.blk=f.blk∧g.pc=f.pc+1)→m'.made=m.made→m'.trace=m.trace→Cal p m':=fun m' a b c=>qRl h hm h0 ho hz a b c
   have hT:∀ g:Frm,g.blk=f.blk→g.pc=f.pc+1→Cal p (m.top fs g):=fun g a b=>hG _ ⟨g,rfl,a,b⟩ rfl rfl
   have hS:∀ (g:Frm) (e:Int),g.blk=f.blk→g.pc=f.pc+1→Cal p (m.stop fs g e):=fun g e a b=>hG _ ⟨g,rfl,a,b⟩ rfl rfl
   have hR:∀ (g:Frm) (s:Slt),g.blk=f.blk→g.pc=f.pc+1→Cal p (setS m fs g o s):=fun g s a b=>by
    unfold setS
    repeat' split
    all_goals exact hG _ ⟨_,rfl,a,b⟩ rfl rfl
   split
   ·split
    ·unfold jw
     repeat' split
     all_goals first|exact hT _ rfl rfl|exact hS _ _ rfl rfl
    ·split
     ·exact hR _ _ rfl rfl
     ·unfold qFA
      split
      ·exact hR _ _ rfl rfl
      ·exact hS _ _ rfl rfl
   ·unfold zI
    split
    ·exact hT _ rfl rfl
    split
    ·unfold qIz
     dsimp only
     split
     ·exact hS _ _ rfl rfl
     ·exact hT _ rfl rfl
    split
    ·exact hG _ ⟨_,rfl,rfl,rfl⟩ rfl rfl
    split
    ·exact qGm hp h hm h0 ho (by omega) rfl rfl
    split
    ·unfold uo
     dsimp only
     split
     ·exact hS _ _ rfl rfl
     ·split
      ·split
       ·exact hS _ _ rfl rfl
       ·exact qGm hp h hm h0 ho (by omega) rfl rfl
      ·exact hS _ _ rfl rfl
    split
    ·unfold wK
     dsimp only
     split
     ·exact hS _ _ rfl rfl
     ·split
      ·exact hT _ rfl rfl
      ·exact hS _ _ rfl rfl
    split
    ·exact hG _ ⟨_,rfl,rfl,rfl⟩ rfl rfl
    ·exact qCz h hm h0 rfl rfl
theorem qMK (hp:ValP p) (hn:n≤150):Cal p (uJ p n):=by
 have key:∀ i,Cal p (zN p i (qL p n)):=by
  intro i
  induction i with
  | zero =>
   have e:zN p 0 (qL p n)=qk p (qT n) 0 [] []:=rfl
   obtain⟨⟨g,h1⟩,h2,h3,h4,h5⟩:=qBF (p:=p) (m:=qT n) (b:=0) (cs:=[]) (vs:=[])
   obtain⟨fs,f,hfr,hM⟩:=(qCN hp hn 0).resolve_left (by
    rintro (e1|e1)
    ·rw [e,h1] at e1;simp [qT] at e1
    ·exact e1 (by rw [e];unfold qk;split <;> (try split) <;> rfl))
   rw [e] at hfr
   refine⟨by rw [e,h2];simp [qT],fun _=>?_,by rw [e,h4];simp [qT]⟩
   have hb:qMa p (qk p (qT n) 0 [] []).frames=0:=by
    have hpc:∀ x∈(qk p (qT n) 0 [] []).frames,x.pc=0:=by
     unfold qk
     split <;> (try split) <;> simp [qT]
    rw [h1] at hpc ⊢
    have hg:=hpc g (by simp)
    simp only [qT,qMa,List.nil_append,List.map_cons,List.map_nil,List.sum_cons,List.sum_nil,qKK,hg,List.drop_zero]
    unfold jO
    split
    ·simp [qFO]
    ·rfl
   rw [e,hb,h2,h4]
   simp [qT]
  | succ i ih =>
   by_cases he:(zN p i (qL p n)).ended
   ·rw [zn,if_pos he]
    exact ih
   ·rw [zn,if_neg he]
    obtain⟨fs,f,h1,h2⟩:=(qCN hp hn i).resolve_left he
    have hen:(zN p i (qL p n)).en=0:=by
     by_cases h:(zN p i (qL p n)).en=0
     ·exact h
     ·exact absurd (.inr h) he
    exact qOq hp ih h1 hen h2
 obtain⟨N,_,_,h⟩:=vg (n:=n) hp hn
 rw [← h]
 exact key N
end
section
variable {p:Prg} {l:List (Nat×Nat)} {i:Nat} {t:Nat×Nat} {f:Int}
theorem qOr (h:l[i]?=some t):c45 p (l.take (i+1))=c45 p (l.take i)+if qNg p t=4∨qNg p t=5 then 1 else 0:=by
 rw [List.take_add_one,h,Option.toList_some]
 by_cases h4:qNg p t=4 <;> by_cases h5:qNg p t=5 <;> simp [c45,h4,h5]
theorem qP5:c45 p l≤l.length:=List.countP_le_length
theorem qJs (hs:Sml p) (hv:jC p f=true):∃ (n d:Nat) (T:List (Nat×Nat)),yU p f=((n:Int),(d:Int))∧qPR p f=T∧n≤1+c45 p T∧d≤n∧1≤d∧T.length≤151∧∀ t∈T,∃ s,qJI p t=some s:=by
 obtain⟨hpo,n,rfl,hn⟩:=vH hv
 have hP:=ValP.of hs hpo
 have hc:=qMK (n:=n) hP hn
 have hI:=qKq (n:=n) (t:=8) hP hn fun b=>zV
 have hb:=qCU (n:=n) hP hn
 refine⟨(uJ p n).made,(uJ p n).deep,(uJ p n).trace,by simp [yU,hv],by simp [qPR,hv],hc.le,hI.dm,hI.d1,hb.2.1,hc.tr⟩
def kZ (p:Prg):Nat→Nat
 | 0=>0
 | i+1=>max (kZ p i) (qE p i).length
theorem qEf (p:Prg):∀ i,kZ p i≤8
 | 0=>by simp [kZ]
 | i+1=>by
  have:=qEf p i
  have:=zV (p:=p) (b:=i)
  simp only [kZ]
  omega
theorem qI7 (p:Prg) {b:Nat}:∀ i,b<i→(qE p b).length≤kZ p i
 | i+1,h=>by
  simp only [kZ]
  by_cases hb:b=i
  ·subst hb;omega
  ·have:=qI7 p i (show b<i by omega)
   omega
theorem qLO (b:Nat):(qE p b).length≤kZ p p.length:=by
 by_cases hb:b<p.length
 ·exact qI7 p _ hb
 ·have hk:p[b]?=none:=List.getElem?_eq_none (by omega)
  simp [qE,qi,hk]
theorem qMB (hs:Sml p) (hv:jC p f=true):∃ n d c e:Nat,yU p f=((n:Int),(d:Int))∧u5 p f=(c:Int)∧u5 p 150=(e:Int)∧(c:Int)≤(kZ p p.length:Int) * ((n:Int) - 1)∧c≤e∧1≤n∧n≤152:=by
 obtain⟨hpo,n,rfl,hn⟩:=vH hv
 have hP:=ValP.of hs hpo
 have hc:=qMK (n:=n) hP hn
 have hI:=qKq (n:=n) (t:=kZ p p.length) hP hn qLO
 have hb:=qCU (n:=n) hP hn
 have hg:=qNt hP hn (Nat.le_refl 150)
 have h45:=qP5 (p:=p) (l:=(uJ p n).trace)
 have hv2:jC p 150=true:=by simp [jC,hpo]
 have h1:=hI.d1
 have h2:=hI.dm
 have hcl:=hc.le
 refine⟨(uJ p n).made,(uJ p n).deep,(uJ p n).cells.length,(uJ p 150).cells.length,by simp [yU,hv],by simp [u5,hv],by simp [u5,hv2],?_,hg.cells,by omega,by omega⟩
 have:=hI.cells
 have e2:(((uJ p n).made:Int) - 1)=(((uJ p n).made - 1:Nat):Int):=by omega
 rw [e2]
 exact_mod_cast this
end
end Go.Hm
end
