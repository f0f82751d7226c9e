import Derived.Test.YtdnebaieamppbaaGreatDoorF16
import Derived.ScopeJumps
set_option linter.unusedSimpArgs false
set_option linter.unusedVariables false
set_option maxRecDepth 100000
set_option maxHeartbeats 4000000

section
namespace Go.Hm
open Go Go.RowKit
section
variable {X:Ctx} {st:St} {K:St->Prop} {E:AV->St->Prop} {d:Nat} {ty:TypeId} {pos:String} {aft:Array Edge} {g:Option (Nat×Bool)} {f:Nat} {args:Array Operand} {Ts:Array TypeId} {bs:List AV}
theorem uU {x:AV} (hd:d<X.n:=by first|(simp;done)|fail) (ha:args.toList.map (ev st)=bs:=by simp [fx];first|done|rfl|exact (iS _).symm)
  (hF:qX X.P X.gl f bs (λ_ y _=>y=x)) (h:K ((st.kill (.s d)).put (some d) x)):qO X ⟨some d,.call ⟨.value (.func f),args,Ts⟩,ty,pos,aft,g⟩ K E st:=by
 refine qO.qBY (Tb (K:=λs=>∃ H',s=(st.call d Z5 noH H').put (some d) x) hd ha hF ?_) ?_
 .rintro y H' rfl
  grind
 .rintro s ⟨H',rfl⟩;refine⟨(st.kill (.s d)).hp,λm ob e=>?_,?_⟩<;>simp_all[St.kill,St.nm,hkl,St.put,St.call,po]
theorem Xs {P:Program} {T:TypeId} {zs:List AV} (_hq:yN P T=some zs) (h:qO X ⟨some d,.alloc T,ty,pos,aft,g⟩ K E st):qO X ⟨some d,.alloc T,ty,pos,aft,g⟩ K E st:=h
end
theorem mz {G G':Prop} (k:G') (h:Yr G'->G:=by
 intro kk
 repeat' (first
  | refine uZ ?_|refine ja ?_|refine yH ?_|refine dZ ?_|refine kJ λK hK=>?_
  | ((with_reducible refine vX hK ?_);clear hK K)|(with_reducible refine vX hK ?_)
  | (with_reducible first|refine q9 ?_|refine jC ?_|refine jB ?_|refine vI ?_|refine za ?_|refine vk ?_|refine w5 ?_|refine jo qL ?_)
  | refine kN ?_
  | refine kV ?_
  | (with_reducible refine jg ?_)
  | ((with_reducible refine Ha ?_);refine uj (h:=?_))
  | (with_reducible first|refine lL ?_|refine mD ?_|refine IF (h:=?_)|refine IG (h:=?_)|refine x_u (h:=?_)|refine zO (h:=?_)|refine dO (h:=?_)|refine yM (h:=?_)|refine jA (h:=?_)|refine wu (h:=?_)|refine jm (h:=?_)|refine uY (h:=?_)|refine iW (h:=?_)|refine vG (h:=?_))
  | ((with_reducible refine Xs b1 ?_);refine Gf (hq:=b1) (h:=?_))|(with_reducible refine vu (h:=?_))
  | ((with_reducible refine zV c1 rfl ?_);refine z7 (hF:=c1) (h:=?_))
  | ((with_reducible refine zV c2 rfl ?_);refine z7 (hF:=c2) (h:=?_))
  | ((with_reducible refine zV c3 rfl ?_);refine z7 (hF:=c3) (h:=?_))
  | ((with_reducible refine zV c4 rfl ?_);refine z7 (hF:=c4) (h:=?_))
  | ((with_reducible refine zV c5 rfl ?_);refine z7 (hF:=c5) (h:=?_))
  | ((with_reducible refine zV c6 rfl ?_);refine z7 (hF:=c6) (h:=?_))
  | ((with_reducible refine zV d1 rfl ?_);refine zw (hF:=d1) (h:=?_))
  | ((with_reducible refine zV d2 rfl ?_);refine zw (hF:=d2) (h:=?_))
  | ((with_reducible refine zV d3 rfl ?_);refine zw (hF:=d3) (h:=?_))
  | ((with_reducible refine zV d4 rfl ?_);refine zw (hF:=d4) (h:=?_))
  | ((with_reducible refine zV e1 rfl ?_);refine kj (hF:=e1) (h:=?_))
  | ((with_reducible refine zV e2 rfl ?_);refine kj (hF:=e2) (h:=?_))
  | ((with_reducible refine zV p1 rfl ?_);refine uU (hF:=p1) (h:=?_))
  | ((with_reducible refine zV p2 rfl ?_);refine uU (hF:=p2) (h:=?_))
  | ((with_reducible refine zV p3 rfl ?_);refine uU (hF:=p3) (h:=?_))
  | ((with_reducible refine zV p4 rfl ?_);refine uU (hF:=p4) (h:=?_))
  | ((with_reducible refine zV p5 rfl ?_);refine uU (hF:=p5) (h:=?_))
  | ((with_reducible refine zV p6 rfl ?_);refine uU (hF:=p6) (h:=?_))
  | (with_reducible refine x_q (h:=?_))
  | (with_reducible refine bq (λht=>?_) (λht=>?_))
  | refine j8 (h1:=?_)|refine jr (h1:=?_)
  | ((with_reducible refine wI hK ?_);clear hK K)|(with_reducible refine wI hK ?_)
  | ((with_reducible refine em ?_);first|refine su (h:=?_)|refine gL (h:=?_)|refine gN (h:=?_)|refine gK (h:=?_))
  | ((with_reducible refine em ?_);refine gO (h1:=λht=>?_) (h2:=λht=>?_))
  | refine a_l rfl ?_|refine G3 ?_ ?_|refine G1 ?_ ?_ ?_|(with_reducible refine aI ?_ ?_)|exact vi|refine cM (h2:=?_)
  | fail)
 first|exact kk.h|(revert hK;revert K;exact kk.h)):G:=h ⟨k⟩
theorem AY {G G':Prop} (k:G') (h:Yr G'->G:=by
 intro kk K hK
 repeat' (first
  | refine uZ ?_|refine ja ?_|refine yH ?_|refine dZ ?_|refine kJ λK hK=>?_
  | ((with_reducible refine vX hK ?_);clear hK K)|(with_reducible refine vX hK ?_)
  | (with_reducible first|refine q9 ?_|refine jC ?_|refine jB ?_|refine vI ?_|refine za ?_|refine vk ?_|refine w5 ?_|refine jo qL ?_)
  | refine kN ?_
  | refine kV ?_
  | (with_reducible refine jg ?_)
  | ((with_reducible refine Ha ?_);refine uj (h:=?_))
  | (with_reducible first|refine lL ?_|refine mD ?_|refine IF (h:=?_)|refine IG (h:=?_)|refine x_u (h:=?_)|refine zO (h:=?_)|refine dO (h:=?_)|refine yM (h:=?_)|refine jA (h:=?_)|refine wu (h:=?_)|refine jm (h:=?_)|refine uY (h:=?_)|refine iW (h:=?_)|refine vG (h:=?_))
  | ((with_reducible refine Xs b1 ?_);refine Gf (hq:=b1) (h:=?_))|(with_reducible refine vu (h:=?_))
  | ((with_reducible refine zV c1 rfl ?_);refine z7 (hF:=c1) (h:=?_))
  | ((with_reducible refine zV c2 rfl ?_);refine z7 (hF:=c2) (h:=?_))
  | ((with_reducible refine zV c3 rfl ?_);refine z7 (hF:=c3) (h:=?_))
  | ((with_reducible refine zV c4 rfl ?_);refine z7 (hF:=c4) (h:=?_))
  | ((with_reducible refine zV c5 rfl ?_);refine z7 (hF:=c5) (h:=?_))
  | ((with_reducible refine zV c6 rfl ?_);refine z7 (hF:=c6) (h:=?_))
  | ((with_reducible refine zV d1 rfl ?_);refine zw (hF:=d1) (h:=?_))
  | ((with_reducible refine zV d2 rfl ?_);refine zw (hF:=d2) (h:=?_))
  | ((with_reducible refine zV d3 rfl ?_);refine zw (hF:=d3) (h:=?_))
  | ((with_reducible refine zV d4 rfl ?_);refine zw (hF:=d4) (h:=?_))
  | ((with_reducible refine zV e1 rfl ?_);refine kj (hF:=e1) (h:=?_))
  | ((with_reducible refine zV e2 rfl ?_);refine kj (hF:=e2) (h:=?_))
  | ((with_reducible refine zV p1 rfl ?_);refine uU (hF:=p1) (h:=?_))
  | ((with_reducible refine zV p2 rfl ?_);refine uU (hF:=p2) (h:=?_))
  | ((with_reducible refine zV p3 rfl ?_);refine uU (hF:=p3) (h:=?_))
  | ((with_reducible refine zV p4 rfl ?_);refine uU (hF:=p4) (h:=?_))
  | ((with_reducible refine zV p5 rfl ?_);refine uU (hF:=p5) (h:=?_))
  | ((with_reducible refine zV p6 rfl ?_);refine uU (hF:=p6) (h:=?_))
  | (with_reducible refine x_q (h:=?_))
  | (with_reducible refine bq (λht=>?_) (λht=>?_))
  | refine j8 (h1:=?_)|refine jr (h1:=?_)
  | ((with_reducible refine wI hK ?_);clear hK K)|(with_reducible refine wI hK ?_)
  | ((with_reducible refine em ?_);first|refine su (h:=?_)|refine gL (h:=?_)|refine gN (h:=?_)|refine gK (h:=?_))
  | ((with_reducible refine em ?_);refine gO (h1:=λht=>?_) (h2:=λht=>?_))
  | refine a_l rfl ?_|refine G3 ?_ ?_|refine G1 ?_ ?_ ?_|(with_reducible refine aI ?_ ?_)|exact vi|refine cM (h2:=?_)
  | fail)
 first|exact kk.h|(revert hK;revert K;exact kk.h)):G:=h ⟨k⟩
theorem gT {l:List (Nm×Nat)} {st:St} {m:Nm}:(St.Yp l st).hp m=match l.find? (λp=>decide (p.1=m)) with
  | some p=>some (.row p.2 [])
  | none=>st.hp m:=by
 induction l with
 | nil=>rfl
 | cons p l ih =>
  grind[CH,St.Yf]
section
variable {hp hp':Nm->Option AO} {p:YU} {n:Nm} {m m':Y2} {dp dp':Nat} {fs L:List YZ} {f g:YZ} {o:Int×Int} {s:Yj}
@[simp] theorem Bu:(m.top fs f).cells=m.cells:=rfl
@[simp] theorem EO:(m.top fs f).globals=m.globals:=rfl
@[simp] theorem cO:(m.top fs f).YT=m.YT:=rfl
@[simp] theorem EP:(m.top fs f).YP=m.YP:=rfl
@[simp] theorem OV:(m.top fs f).made=m.made:=rfl
@[simp] theorem top_deep:(m.top fs f).deep=m.deep:=rfl
@[simp] theorem RM:(m.top fs f).out=m.out:=rfl
@[simp] theorem top_trace:(m.top fs f).trace=m.trace:=rfl
@[simp] theorem top_en:(m.top fs f).en=m.en:=rfl
@[simp] theorem top_left:(m.top fs f).left=m.left:=rfl
@[simp] theorem IJ:(m.top fs f).YO=fs++[f]:=rfl
@[simp] theorem stop_cells {e:Int}:(m.stop fs f e).cells=m.cells:=rfl
@[simp] theorem stop_globals {e:Int}:(m.stop fs f e).globals=m.globals:=rfl
@[simp] theorem stop_funs {e:Int}:(m.stop fs f e).YT=m.YT:=rfl
@[simp] theorem stop_classes {e:Int}:(m.stop fs f e).YP=m.YP:=rfl
@[simp] theorem stop_made {e:Int}:(m.stop fs f e).made=m.made:=rfl
@[simp] theorem stop_deep {e:Int}:(m.stop fs f e).deep=m.deep:=rfl
@[simp] theorem stop_out {e:Int}:(m.stop fs f e).out=m.out:=rfl
@[simp] theorem stop_trace {e:Int}:(m.stop fs f e).trace=m.trace:=rfl
@[simp] theorem stop_left {e:Int}:(m.stop fs f e).left=m.left:=rfl
@[simp] theorem stop_en {e:Int}:(m.stop fs f e).en=e:=rfl
@[simp] theorem stop_frames {e:Int}:(m.stop fs f e).YO=fs++[f]:=rfl
theorem DQ {d:Nat} {v:Y6} (hi:L[fs.length]?=some f):(qY (qt p (.u 2 0 0) L) fs.length 6 [.hs (.s d) 2 0 (f.stack.length+1)]).map (λr=>r.map (AV.tr (mv (.s d) (.c (.u 2 0 0) fs.length 6))))=qt p (.u 2 0 0) (L.set fs.length (f.push v)):=by
 have hl:=(gS hi).1;apply aW;intro j;simp only [qY,kU,nV,yG,bT];by_cases e:fs.length=j
 .simp_all[zy,YZ.push,u5]
 .simp only [e,if_false]
  cases hj:L[j]? with
  | none=>rfl
  | some g =>
   have e':¬ j=fs.length:=λh=>e h.symm;simp [zy,e,e']
theorem YW.Z2 (h:YW hp p n m dp) (hm:m.YO=fs++[f]):∃ (L:List YZ) (j:List Y6),(∃ js,L=fs++f::js)/\L[fs.length]?=some f/\fs.length<L.length/\hp n=some (.row 7 (qt p n L))/\hp (.c n fs.length 3)=some (.row 3 (qU f.YV))/\hp (.c n fs.length 5)=some (.row 3 (qU f.names))/\hp (.c n fs.length 6)=some (.row 2 (zf (f.stack++j))):=by
 obtain⟨js,hj⟩:=h.fr.top;have hf:m.YO[fs.length]?=some f:=cF;obtain⟨j,hs⟩:=h.fr.stack _ f hf;refine⟨m.YO++js,j,⟨js,cF⟩,cF,cF,hj,h.fr.YV _ f hf,h.fr.names _ f hf,hs⟩
theorem YW.reT (h:YW hp p n m dp) (hm:m.YO=fs++[f]) (hL:∃ js,L=fs++f::js) (hm':m'.YO=fs++[g])
  (h8:hp' n=some (.row 7 (qt p n (L.set fs.length g))))
  (h9:hp' (.c n fs.length 3)=some (.row 3 (qU g.YV)))
  (hA:hp' (.c n fs.length 5)=some (.row 3 (qU g.names)))
  (hB:∃ j,hp' (.c n fs.length 6)=some (.row 2 (zf (g.stack++j))))
  (h0:hp' Xn=some (.row 13 [vg p n m' dp']):=by simp [h.top,vg])
  (h1:hp' (.c Xn 0 1)=some (.row 1 (ub QB p)):=by simp [h.ZP])
  (h2:hp' (.c Xn 0 2)=some (.row 3 (qU m'.cells)):=by simp [h.cells])
  (h3:hp' (.c Xn 0 3)=some (.row 3 (qU m'.globals)):=by simp [h.Yd])
  (h4:hp' (.c Xn 0 4)=some (.row 2 (wT m'.YT)):=by simp [h.YT])
  (h5:hp' (.c Xn 0 5)=some (.row 1 (yV m'.YP)):=by simp [h.Yt])
  (h6:hp' (.c Xn 0 9)=some (.row 1 (qS m'.out)):=by simp [h.out])
  (h7:hp' (.c Xn 0 10)=some (.row 2 (vv m'.trace)):=by simp [h.Zb])
  (hC:∀ (i:Nat) (f':YZ),i<fs.length->hp (.c n i 3)=some (.row 3 (qU f'.YV))->hp' (.c n i 3)=some (.row 3 (qU f'.YV)):=by intro i f' hi hf;simp [hf,Jf hi,Nat.ne_of_gt hi])
  (hD:∀ (i:Nat) (f':YZ),i<fs.length->hp (.c n i 5)=some (.row 3 (qU f'.names))->hp' (.c n i 5)=some (.row 3 (qU f'.names)):=by intro i f' hi hf;simp [hf,Jf hi,Nat.ne_of_gt hi])
  (hE:∀ (i:Nat) (f':YZ) j,i<fs.length->hp (.c n i 6)=some (.row 2 (zf (f'.stack++j)))->hp' (.c n i 6)=some (.row 2 (zf (f'.stack++j))):=by intro i f' j hi hf;simp [hf,Jf hi,Nat.ne_of_gt hi]):YW hp' p n m' dp':=by
 obtain⟨js,rfl⟩:=hL;have hs:(fs++f::js).set fs.length g=m'.YO++js:=qH;rw [hs] at h8
 have key:∀ (i:Nat) f',m'.YO[i]?=some f'->(i=fs.length/\f'=g)\/(i<fs.length/\m.YO[i]?=some f'):=by
  grind
 refine⟨h0,h1,h2,h3,h4,h5,h6,h7,⟨js,h8⟩,λi f' hf=>?_,λi f' hf=>?_,λi f' hf=>?_⟩
 .rcases key i f' hf with⟨rfl,rfl⟩|⟨hi,hf⟩
  .exact h9
  .exact hC i f' hi (h.fr.YV i f' hf)
 .rcases key i f' hf with⟨rfl,rfl⟩|⟨hi,hf⟩
  .exact hA
  .exact hD i f' hi (h.fr.names i f' hf)
 .rcases key i f' hf with⟨rfl,rfl⟩|⟨hi,hf⟩
  .exact hB
  .exact (h.fr.stack i f' hf).imp λj hj=>hE i f' j hi hj
def Zv (n:Nm) (i:Nat) (o:Int×Int):Nm:=if o.1<=4 then .c n i 3 else if o.1<=7 then .c Xn 0 2 else if o.1<=10 then .c Xn 0 3 else .c n i 5
def slI (f:YZ) (o:Int×Int):Nat:=if o.1<=4 then o.2.toNat else if o.1<=7 then f.cells.getD o.2.toNat 0 else o.2.toNat
def slL (m:Y2) (f:YZ) (o:Int×Int):List Yj:=if o.1<=4 then f.YV else if o.1<=7 then m.cells else if o.1<=10 then m.globals else f.names
theorem Si:gq m f o=ju (slL m f o) (slI f o):=by
 grind[gq,slL,slI]
theorem YW.qCi (h:YW hp p n (m.top fs f) dp):hp (Zv n fs.length o)=some (.row 3 (qU (slL m f o))):=by
 have hf:(m.top fs f).YO[fs.length]?=some f:=qB;unfold Zv slL
 repeat' split
 .exact h.fr.YV _ f hf
 .exact h.cells
 .exact h.Yd
 .exact h.fr.names _ f hf
theorem YW.Yy (h:YW hp p n (m.top fs f) dp) (hn:n=.u 2 0 0) (hh:∀ k,ZK k=true->hp' k=if k=Zv n fs.length o then some (.row 3 (qU ((slL m f o).set (slI f o) s))) else hp k):YW hp' p n (Hm.Yy m fs f o s) dp:=by
 subst hn;have hf:(m.top fs f).YO[fs.length]?=some f:=qB;have hX:∀ j,ZK (.c Xn 0 j)=true:=λj=>qB;have hF:∀ i j,ZK (.c (.u 2 0 0) i j)=true:=λi j=>qB;have h00:ZK Xn=true:=qB;have h20:ZK (.u 2 0 0)=true:=qB
 have fr:∀ {g:YZ} (js:List YZ),g.YS=f.YS->g.pc=f.pc->g.cells=f.cells->g.YV.length=f.YV.length->g.stack=f.stack->qt p (.u 2 0 0) (fs++[g]++js)=qt p (.u 2 0 0) (fs++[f]++js):=by
  intro g js e1 e2 e3 e4 e5;apply aW
  grind[yG,zy,u5]
 have key:∀ {g:YZ} (i:Nat) f',(fs++[g])[i]?=some f'->(i=fs.length/\f'=g)\/(i<fs.length/\(m.top fs f).YO[i]?=some f'):=by
  grind[Y2.top]
 have hlc:∀ {l:List Yj} {i:Nat},(l.set i s).length=l.length:=qB;unfold Hm.Yy;by_cases c4:o.1<=4
 .have e1:Zv (.u 2 0 0) fs.length o=.c (.u 2 0 0) fs.length 3:=by simp [Zv,c4]
  have e2:slL m f o=f.YV:=by simp [slL,c4]
  have e3:slI f o=o.2.toNat:=by simp [slI,c4]
  rw [e1,e2,e3] at hh;rw [if_pos c4];refine⟨?_,?_,?_,?_,?_,?_,?_,?_,?_,λi f' hf'=>?_,λi f' hf'=>?_,λi f' hf'=>?_⟩
  .rw [hh _ h00,h.top];simp_all[vg]
  .grind[ZP]
  .rw [hh _ (hX 2),h.cells];simp
  .rw [hh _ (hX 3),h.Yd];simp
  .rw [hh _ (hX 4),h.YT];simp
  .rw [hh _ (hX 5),h.Yt];simp
  .rw [hh _ (hX 9),h.out];simp
  .rw [hh _ (hX 10),h.Zb];simp
  .obtain⟨js,hj⟩:=h.fr.top
   simp_all<;>grind
  .rcases key i f' hf' with⟨rfl,rfl⟩|⟨hi,hf'⟩
   .simp_all
   .rw [hh _ (hF _ _),h.fr.YV i f' hf'];grind
  .rcases key i f' hf' with⟨rfl,rfl⟩|⟨hi,hf'⟩
   .rw [hh _ (hF _ _),h.fr.names _ f hf];simp
   .rw [hh _ (hF _ _),h.fr.names i f' hf'];simp
  .rcases key i f' hf' with⟨rfl,rfl⟩|⟨hi,hf'⟩
   .exact (h.fr.stack _ f hf).imp λj hj=>qH
   .exact (h.fr.stack i f' hf').imp λj hj=>qH
 rw [if_neg c4];by_cases c7:o.1<=7
 .have e1:Zv (.u 2 0 0) fs.length o=.c Xn 0 2:=by grind[Zv]
  have e2:slL m f o=m.cells:=by grind[slL]
  have e3:slI f o=f.cells.getD o.2.toNat 0:=by grind[slI]
  rw [e1,e2,e3] at hh;rw [if_pos c7];refine⟨?_,?_,?_,?_,?_,?_,?_,?_,?_,λi f' hf'=>?_,λi f' hf'=>?_,λi f' hf'=>?_⟩
  .rw [hh _ h00,h.top];simp_all[vg]
  .grind[ZP]
  .simp_all
  .grind[Yd]
  .grind[YT]
  .grind[Yt]
  .grind[out]
  .grind[Zb]
  .exact h.fr.top.imp λjs hj=>qH
  .rw [hh _ (hF _ _),h.fr.YV i f' hf'];simp
  .rw [hh _ (hF _ _),h.fr.names i f' hf'];simp
  .exact (h.fr.stack i f' hf').imp λj hj=>qH
 rw [if_neg c7];by_cases c10:o.1<=10
 .have e1:Zv (.u 2 0 0) fs.length o=.c Xn 0 3:=by grind[Zv]
  have e2:slL m f o=m.globals:=by grind[slL]
  have e3:slI f o=o.2.toNat:=by grind[slI]
  rw [e1,e2,e3] at hh;rw [if_pos c10];refine⟨?_,?_,?_,?_,?_,?_,?_,?_,?_,λi f' hf'=>?_,λi f' hf'=>?_,λi f' hf'=>?_⟩
  .rw [hh _ h00,h.top];grind[vg]
  .grind[ZP]
  .grind[cells]
  .simp_all
  .grind[YT]
  .grind[Yt]
  .grind[out]
  .grind[Zb]
  .exact h.fr.top.imp λjs hj=>qH
  .rw [hh _ (hF _ _),h.fr.YV i f' hf'];simp
  .rw [hh _ (hF _ _),h.fr.names i f' hf'];simp
  .exact (h.fr.stack i f' hf').imp λj hj=>qH
 .have e1:Zv (.u 2 0 0) fs.length o=.c (.u 2 0 0) fs.length 5:=by grind[Zv]
  have e2:slL m f o=f.names:=by grind[slL]
  have e3:slI f o=o.2.toNat:=by grind[slI]
  rw [e1,e2,e3] at hh;rw [if_neg c10];refine⟨?_,?_,?_,?_,?_,?_,?_,?_,?_,λi f' hf'=>?_,λi f' hf'=>?_,λi f' hf'=>?_⟩
  .rw [hh _ h00,h.top];simp_all[vg]
  .grind[ZP]
  .rw [hh _ (hX 2),h.cells];simp
  .rw [hh _ (hX 3),h.Yd];simp
  .rw [hh _ (hX 4),h.YT];simp
  .rw [hh _ (hX 5),h.Yt];simp
  .rw [hh _ (hX 9),h.out];simp
  .rw [hh _ (hX 10),h.Zb];simp
  .obtain⟨js,hj⟩:=h.fr.top
   simp_all<;>grind
  .rcases key i f' hf' with⟨rfl,rfl⟩|⟨hi,hf'⟩
   .rw [hh _ (hF _ _),h.fr.YV _ f hf];simp
   .rw [hh _ (hF _ _),h.fr.YV i f' hf'];simp
  .rcases key i f' hf' with⟨rfl,rfl⟩|⟨hi,hf'⟩
   .simp_all
   .rw [hh _ (hF _ _),h.fr.names i f' hf'];grind
  .rcases key i f' hf' with⟨rfl,rfl⟩|⟨hi,hf'⟩
   .exact (h.fr.stack _ f hf).imp λj hj=>qH
   .exact (h.fr.stack i f' hf').imp λj hj=>qH
theorem YW.mvF {n':Nm} (h:YW hp p n m dp) (hn:(n=.c Xn 0 6/\n'=.u 2 0 0)\/(n=.u 2 0 0/\n'=.c Xn 0 6)):YW (Z6 n n' hp) p n' m dp:=by
 rcases hn with⟨rfl,rfl⟩|⟨rfl,rfl⟩ <;>
 .refine⟨?_,?_,?_,?_,?_,?_,?_,?_,?_,λi f' hf'=>?_,λi f' hf'=>?_,λi f' hf'=>?_⟩
  .simp [Z6,Nm.under,mv,h.top,AO.tr,vg,AV.tr,Nm.Yq,lc]
  .simp [Z6,Nm.under,h.ZP,AO.tr]
  .simp [Z6,Nm.under,h.cells,AO.tr]
  .simp [Z6,Nm.under,h.Yd,AO.tr]
  .simp [Z6,Nm.under,h.YT,AO.tr]
  .simp [Z6,Nm.under,h.Yt,AO.tr]
  .simp [Z6,Nm.under,h.out,AO.tr]
  .simp [Z6,Nm.under,h.Zb,AO.tr]
  .refine h.fr.top.imp λjs hj=>?_
   simp_all[Z6,tq]
  .simp [Z6,Nm.under,mv,Nm.Yq,h.fr.YV i f' hf',AO.tr]
  .simp [Z6,Nm.under,mv,Nm.Yq,h.fr.names i f' hf',AO.tr]
  .exact (h.fr.stack i f' hf').imp λj hj=>by simp_all[Z6]
end
theorem Nm.Zn {k0 k1:Nm}:∀ {k:Nm},Nm.under k0 k=true->Nm.Yq k1 k0 (Nm.Yq k0 k1 k)=k:=by
 have base:∀ k:Nm,k=k0->Nm.Yq k1 k0 (Nm.Yq k0 k1 k)=k:=by
  simp
 intro k
 induction k<;>grind[under,Yq,ZJ,ZC]
def ZG (n:Nm) (o:AO) (hp:Nm->Option AO):Nm->Option AO:=λm=>if m=n then some o else hp m
@[simp] theorem wrO_eq {n m:Nm} {o:AO} {hp:Nm->Option AO}:ZG n o hp m=if m=n then some o else hp m:=rfl
def mh (D:Nm->Bool) (hp' hp:Nm->Option AO):Prop:=∃ F:Nm->Option Nm,(∀ k,D k=true->F k=some k)/\∀ k,D k=true->hp' k=(hp k).map (AO.tr F)
def xI (D:Nm->Bool) (v:AV) (n:Nm) (o:AO) (H:Nm->Option AO):Nm->AV->(Nm->Option AO)->Prop:=λ_ y H'=>y=v/\∀ k,D k=true->H' k=(ZG n o H k).map (AO.tr (jY D []))
def rtn (D:Nm->Bool) (N V:Nm) (d:Nat) (hp:Nm->Option AO) (m:Nm):Option Nm :=
 if Nm.under N m then (if m=N then some N else none) else if Nm.under V m then none else if Nm.under (.s d) m then none else if D m then (if m.ZN&&(hp m).isSome then some m else none) else some m
def St.qAd (st:St) (N V:Nm) (d:Nat) (D:Nm->Bool) (hp':Nm->Option AO):St :=
 { tm:=λt=>(st.tm t).tr (rtn D N V d st.hp),
   hp:=λm=>if D m||Nm.under (.s d) m then hp' m else if Nm.under V m then none else (st.hp m).map (AO.tr (rtn D N V d st.hp)),
   n:=st.n,gl:=st.gl }
section
variable {st:St} {N V m n:Nm} {d t:Nat} {D:Nm->Bool} {hp hp' H':Nm->Option AO}
@[simp] theorem rtn_eq:rtn D N V d hp m=if Nm.under N m then (if m=N then some N else none) else if Nm.under V m then none else if Nm.under (.s d) m then none else if D m then (if m.ZN&&(hp m).isSome then some m else none) else some m:=rfl
@[simp] theorem mutn_tm:(st.qAd N V d D hp').tm t=(st.tm t).tr (rtn D N V d st.hp):=rfl
@[simp] theorem mutn_gl:(st.qAd N V d D hp').gl=st.gl:=rfl
@[simp] theorem mutn_hp:(st.qAd N V d D hp').hp m=if D m||Nm.under (.s d) m then hp' m else if Nm.under V m then none else (st.hp m).map (AO.tr (rtn D N V d st.hp)):=rfl
theorem Oo (hV:V.ZN=true) (hNV:Nm.under V N=false) (hDN:∀ k,Nm.under N k=true->D k=true) (hDV:∀ k,Nm.under V k=true->D k=false) (hs:(hp N).isSome=true) :
  (λm=>((mv N V m).bind (cf d (λk=>D k||Nm.under V k) (yb (λk=>D k||Nm.under V k) (Z6 N V hp)))).bind (mv V N))=rtn D N V d hp:=by
 funext x
 by_cases hx:Nm.under N x=true
 .have hu:Nm.under V (Nm.Yq N V x)=true:=Nm.ZC x hx;have hsd:=oR (d:=d) hV hu;by_cases e:x=N<;>simp_all[Z6,Eg]
 .simp only [a8] at hx;by_cases hv:Nm.under V x=true
  .simp_all
  .simp only [a8] at hv;by_cases hd:Nm.under (.s d) x=true
   .simp_all
   .simp only [a8] at hd;by_cases hD:D x=true
    .simp [hx,hv,hd,hD,Z6]
     cases hp x <;> cases x.ZN <;> simp [hx,hv]
    simp_all
theorem L9 {y:AV} (hV:V.ZN=true) (hNV:Nm.under V N=false) (hDN:∀ k,Nm.under N k=true->D k=true) (hDV:∀ k,Nm.under V k=true->D k=false) (hDr:∀ k,D k=true->k.Y3=false) (hs:(st.hp N).isSome=true) (hy:y.tr (mv V N)=y) :
  ∃ q,q=((((st.move N V).call d (λk=>D k||Nm.under V k) (yb (λk=>D k||Nm.under V k) (st.move N V).hp) H').put (some d) y).move V N)/\q=(st.qAd N V d D q.hp).put (some d) y:=by
 refine⟨_,rfl,?_⟩;have hc:=Oo (hp:=st.hp) (d:=d) hV hNV hDN hDV hs
 have e1:∀ a:AV,((a.tr (mv N V)).tr (cf d (λk=>D k||Nm.under V k) (yb (λk=>D k||Nm.under V k) (Z6 N V st.hp)))).tr (mv V N)=a.tr (rtn D N V d st.hp):=by
  grind[AV.ZM]
 have e2:∀ o:AO,((o.tr (mv N V)).tr (cf d (λk=>D k||Nm.under V k) (yb (λk=>D k||Nm.under V k) (Z6 N V st.hp)))).tr (mv V N)=o.tr (rtn D N V d st.hp):=by
  grind[AO.ZM]
 generalize hq:((((st.move N V).call d (λk=>D k||Nm.under V k) (yb (λk=>D k||Nm.under V k) (st.move N V).hp) H').put (some d) y).move V N)=q
 have h1:q.tm=((st.qAd N V d D q.hp).put (some d) y).tm:=by
  subst hq
  funext t
  simp only [St.move,St.nm,St.put,St.qAd,St.call]
  grind
 have h2:q.hp=((st.qAd N V d D q.hp).put (some d) y).hp:=by
  funext m
  simp only [St.put,St.qAd];by_cases hD:D m=true
  .simp [hD]
  simp only [a8] at hD;by_cases hd:Nm.under (.s d) m=true
  .simp [hd]
  simp only [a8] at hd
  have hN:Nm.under N m=false:=by
   grind
  simp only [hD,hd,Bool.or_false,cH,if_false];subst hq;simp only [St.move,St.nm,St.put,St.call,Z6,hN,cH,if_false];by_cases hv:Nm.under V m=true
  .simp [hv]
  .simp only [a8] at hv;simp only [hv,hD,hd,Bool.or_false,cH,if_false]
   cases hm:st.hp m<;>grind
 have h3:q.n=((st.qAd N V d D q.hp).put (some d) y).n:=by subst hq;rfl
 have h4:q.gl=((st.qAd N V d D q.hp).put (some d) y).gl:=by subst hq;rfl
 cases q<;>grind[St.put]
theorem L7 {o:AO} {y:AV} (hV:V.ZN=true) (hNV:Nm.under V N=false) (hDN:∀ k,Nm.under N k=true->D k=true) (hDV:∀ k,Nm.under V k=true->D k=false) (hDn:D n=true) (hNn:Nm.under N n=false)
  (hR:∀ k,(D k||Nm.under V k)=true->H' k=(ZG n (o.tr (mv N V)) (yb (λk=>D k||Nm.under V k) (Z6 N V st.hp)) k).map (AO.tr (jY (λk=>D k||Nm.under V k) []))) :
  mh D ((((st.move N V).call d (λk=>D k||Nm.under V k) (yb (λk=>D k||Nm.under V k) (st.move N V).hp) H').put (some d) y).move V N).hp (ZG n o st.hp):=by
 have hVn:Nm.under V n=false:=by
  grind
 refine⟨λk=>((mv N V k).bind (jY (λk=>D k||Nm.under V k) [])).bind (mv V N),λk hk=>?_,λk hk=>?_⟩
 .grind[Nm.ZC,mv,jY,Nm.Zn]
 .have e2:∀ o:AO,((o.tr (mv N V)).tr (jY (λk=>D k||Nm.under V k) [])).tr (mv V N)=o.tr (λk=>((mv N V k).bind (jY (λk=>D k||Nm.under V k) [])).bind (mv V N)):=by
   grind[AO.ZM]
  by_cases hx:Nm.under N k=true
  .have hu:Nm.under V (Nm.Yq N V k)=true:=Nm.ZC k hx;have hne:¬ Nm.Yq N V k=n:=λe=>qH;have hne2:¬ k=n:=λe=>qH;have hb:=Nm.Zn (k1:=V) hx;have hb2:mv V N (Nm.Yq N V k)=some k:=qH;have hb3:mv N V k=some (Nm.Yq N V k):=qH;have hR1:=hR (Nm.Yq N V k) (by simp [hu]);simp only [ZG,hne,if_false,yb,hu,Bool.or_true,if_true,Z6,hb,hb3] at hR1;simp only [St.move,St.nm,St.put,St.call];simp only [Z6,hx,if_true,hb2,hu,Bool.or_true,BS,hR1,ZG,hne2,if_false]
   cases st.hp k<;>grind
  .simp only [a8] at hx
   have hv:Nm.under V k=false:=by
    grind
   have hR1:=hR k (by simp [hk]);simp only [ZG,yb,hk,BS,if_true,Z6,hx,hv,cH,if_false] at hR1;simp only [St.move,St.nm,St.put,St.call];simp only [Z6,hx,hv,hk,cH,if_false,BS,if_true,hR1,ZG];by_cases e:k=n
   .simp_all
   .simp only [e,if_false]
    cases st.hp k<;>grind
end
section
variable {D:Nm->Bool} {d i off:Nat} {rows:List (List AV)} {vals:List AV} {o:Option AO}
theorem b9 {F:Nm->Option Nm}:(qY rows i off vals).map (λr=>r.map (AV.tr F))=qY (rows.map (λr=>r.map (AV.tr F))) i off (vals.map (AV.tr F)):=by
 apply aW
 grind[qY,Dr,Je]
theorem Qi (hD:∀ k,D k=true->k.Y3=false):(λm=>(kl (.s d) m).bind (jY D []))=jY D []:=by
 funext m
 by_cases h:Nm.under (.s d) m=true
 .have h1:=Nm.ZF (a:=.s d) rfl h
  have h2:D m=false:=by
   grind
  simp_all
 simp_all
theorem M6 (hD:∀ k,D k=true->k.Y3=false) {a:AV}:(a.tr (kl (.s d))).tr (jY D [])=a.tr (jY D []):=by rw [AV.ZM,Qi hD]
theorem M4 (hD:∀ k,D k=true->k.Y3=false):(o.map (AO.tr (kl (.s d)))).map (AO.tr (jY D []))=o.map (AO.tr (jY D [])):=by
 cases o with
 | none=>rfl
 | some o=>simp only [bU,AO.ZM,Qi hD]
theorem M3 (hD:∀ k,D k=true->k.Y3=false):(rows.map (λr=>r.map (AV.tr (kl (.s d))))).map (λr=>r.map (AV.tr (jY D [])))=rows.map (λr=>r.map (AV.tr (jY D []))):=by
 simp_all[M6]
theorem Pm {b:Nat} (hD:∀ k,D k=true->k.Y3=false):(rows.map ((λr=>r.map (AV.tr (kl (.s b))))∘λr=>r.map (AV.tr (kl (.s d))))).map (λr=>r.map (AV.tr (jY D [])))=rows.map (λr=>r.map (AV.tr (jY D []))):=by
 rw [<- sJ,M3 hD,M3 hD]
theorem Zq (hD:∀ k,D k=true->k.Y3=false) {q:Nm} (hq:D q=true) (d:Nat):¬ q=.s d/\Nm.under (.s d) q=false:=by
 have h:Nm.under (.s d) q=false:=by
  cases h:Nm.under (.s d) q with
  | false=>rfl
  | true=>have:=Nm.ZF (a:=.s d) rfl h;simp_all
 refine⟨λe=>?_,h⟩
 simp_all
end
section
variable {X:Ctx} {st:St} {K:St->Prop} {E:AV->St->Prop} {d f:Nat} {ty:TypeId} {pos:String} {aft:Array Edge} {g:Option (Nat×Bool)} {args:Array Operand} {Ts:Array TypeId} {az:List AV}
theorem Gd (D:Nm->Bool) (N V n:Nm) (o:AO) (v:AV) (hV:V.ZN=true:=by rfl) (hN:N.ZN=false:=by rfl) (hVe:X.ext V=false) (hDr:∀ k,D k=true->k.Y3=false) (hNV:Nm.under V N=false) (hDN:∀ k,Nm.under N k=true->D k=true) (hDV:∀ k,Nm.under V k=true->D k=false) (hs:(st.hp N).isSome=true)
  (hext:∀ k i j,X.ext (.u k i j)=true->D (.u k i j)=false\/st.hp (.u k i j)≠none) (hDn:D n=true) (hNn:Nm.under N n=false) (hv:v.tr (mv V N)=v) (hd:d<X.n:=by first|(simp;done)|fail)
  (ha:args.toList.map (ev (st.move N V))=az:=by simp [fx];first|done|rfl)
  (hF:Yc X.P X.gl f (λk=>D k||Nm.under V k) az (yb (λk=>D k||Nm.under V k) (Z6 N V st.hp)) (xI (λk=>D k||Nm.under V k) v n (o.tr (mv N V)) (yb (λk=>D k||Nm.under V k) (Z6 N V st.hp))) Yz)
  (h:∀ hp',mh D hp' (ZG n o st.hp)->K ((st.qAd N V d D hp').put (some d) v)) :
  qO X ⟨some d,.call ⟨.value (.func f),args,Ts⟩,ty,pos,aft,g⟩ K E st:=by
 refine Ba N V (.inl hN) (.inr hVe) (yu V N (.inr hVe) (.inl hN) ?_);refine iV (λk=>D k||Nm.under V k) (λk hk=>?_) (λk i j he=>?_) hd ha hF ?_
 .grind[qZ]
 .by_cases hD:D (.u k i j)=true
  .right;rcases hext k i j he with h|h
   .simp_all
   .have hn:Nm.under N (.u k i j)=false:=by grind[Nm.ZN,Nm.under]
    have hv:Nm.under V (.u k i j)=false:=by
     grind
    simp_all
  grind[Nm.under]
 .rintro y H' ⟨rfl,hR⟩;obtain⟨q,hq,e⟩:=L9 (d:=d) (H':=H') (st:=st) hV hNV hDN hDV hDr hs hv
  grind[L7]
end
section
variable {hp hp':Nm->Option AO} {p:YU} {n:Nm} {m m':Y2} {dp dp' i k:Nat} {fs L:List YZ} {f g:YZ} {o:Int×Int} {s:Yj} {rows:List (List AV)} {j:List Y6}
theorem YW.same (h:YW hp p n m dp) (hn:Nm.under Xn n=true\/n=.u 2 0 0) (hs:mh ZK hp' hp):YW hp' p n m dp:=by
 obtain⟨F,h1,h2⟩:=hs;exact h.Yq hn h1 h2
theorem oW (h:f.stack.length=k+1):f.stack=f.pop.stack++[f.Yw]:=by
 have hne:f.stack≠[]:=λe=>qH
 grind[YZ.pop,YZ.Yw,QR]
theorem vU (h:f.stack.length=k+1):(f.stack++j)[k]?=some f.Yw:=by
 have h1:=oW h
 simp_all
theorem wo (h:f.stack.length=k+1):f.pop.stack.length=k:=by simp [YZ.pop,h]
theorem YW.Z9 (h:YW hp p (.u 2 0 0) (m.top fs f) dp) (hr:hp (.u 2 0 0)=some (.row 7 rows)) (hk:f.stack.length=k+1):YW (ZG (.u 2 0 0) (.row 7 (qY rows fs.length 6 [.hs (.c (.u 2 0 0) fs.length 6) 2 0 k])) hp) p (.u 2 0 0) (m.top fs f.pop) dp:=by
 obtain⟨L,j,hL,hat,hlt,hF,h3,h5,h6⟩:=h.Z2 rfl
 obtain rfl:rows=qt p (.u 2 0 0) L:=by
  simp_all
 have hs:qY (qt p (.u 2 0 0) L) fs.length 6 [.hs (.c (.u 2 0 0) fs.length 6) 2 0 k]=qt p (.u 2 0 0) (L.set fs.length f.pop):=pT hat (by simp [zy,YZ.pop,hk,u5]);rw [hs];refine h.reT rfl hL (g:=f.pop) rfl qB (by simp [h3,YZ.pop]) (by simp [h5,YZ.pop]) ⟨[f.Yw]++j,?_⟩ (h0:=by simp [h.top,vg,Y2.top]) (h2:=by simp [h.cells,Y2.top]) (h3:=by simp [h.Yd,Y2.top]) (h4:=by simp [h.YT,Y2.top]) (h5:=by simp [h.Yt,Y2.top]) (h6:=by simp [h.out,Y2.top]) (h7:=by simp [h.Zb,Y2.top]);have e:=oW hk
 simp_all
end
section
variable {p:YU} {m:Y2} {fs:List YZ} {f:YZ} {o:Int×Int}
structure qBl (m:Y2) (f:YZ) (o:Int×Int):Prop where
 arg:0<=o.2/\o.2<=1000
 lt:slI f o<(slL m f o).length
 cell:5<=o.1->o.1<=7->f.cells[o.2.toNat]?=some (slI f o)
theorem qBl.of (hM:MOk p m fs f) (hO:qBA p f.YS o) (hc:2<=o.1/\o.1<=13):qBl m f o:=by
 have h1:=hM.top.fl;have h2:=hM.top.cl;have h3:=hM.top.nm.1;have h4:=hM.Yd.1;have h5:=hO.arg;have h6:=hO.qCt hc.1;have h7:=hO.cell;have h8:=hO.name
 have key:5<=o.1->o.1<=7->f.cells[o.2.toNat]?=some (slI f o):=by
  grind[slI]
 refine⟨h5,?_,key⟩;unfold slL;by_cases c4:o.1<=4
 .grind[slI]
 by_cases c7:o.1<=7
 .have:=hM.top.cr _ (gM (key qA c7))
  grind
 grind[slI]
variable {hp:Nm->Option AO} {dp k:Nat} {N:Nm}
def YZ.look (f:YZ):Nat×List Yj×List Nat×List Yj:=(f.YS,f.YV,f.cells,f.names)
def Nw (hp:Nm->Option AO) (p:YU) (n:Nm) (m:Y2) (dp:Nat):Prop:=∃ fr,((m.en=0->fr=m.YO)/\fr.map YZ.look=m.YO.map YZ.look)/\YW hp p n { m with YO:=fr } dp
theorem YW.qAY {n:Nm} (h:YW hp p n m dp):Nw hp p n m dp:=⟨m.YO,⟨λ_=>rfl,rfl⟩,h⟩
def D9:Nm->Bool:=λk=>ZK k||Nm.under (.u 9 0 0) k
theorem TE {q:Nm} (h:D9 q=true):q.Y3=false:=by
 rcases Jh _ _ ▸ h with h|h
 .exact zi h
 .exact qZ rfl h
theorem YW.qAQ (h:YW hp p (.u 2 0 0) (m.top fs f) dp) (hk:f.stack.length=k+1) (h1:Nm.under N (.u 2 0 0)=false) (h2:Nm.under N (.c (.u 2 0 0) fs.length 6)=false):∃ (rows rows':List (List AV)) (a0 a1 a2 a3 a4 a5:AV) (vs:List Y6),hp (.u 2 0 0)=some (.row 7 rows)/\(yb D9 (Z6 N (.u 9 0 0) hp)) (.u 2 0 0)=some (.row 7 rows')/\rows'[fs.length]?=some [a0,a1,a2,a3,a4,a5,.hs (.c (.u 2 0 0) fs.length 6) 2 0 (k+1)]/\(yb D9 (Z6 N (.u 9 0 0) hp)) (.c (.u 2 0 0) fs.length 6)=some (.row 2 (zf vs))/\vs[k]?=some f.Yw /\
  (AO.row 7 (qY rows fs.length 6 [.hs (.c (.u 2 0 0) fs.length 6) 2 0 k])).tr (mv N (.u 9 0 0))=.row 7 (qY rows' fs.length 6 [.hs (.c (.u 2 0 0) fs.length 6) 2 0 k]):=by
 obtain⟨L,j,hL,hat,hlt,hF,h3,h5,h6⟩:=h.Z2 rfl;have hm:mv N (.u 9 0 0) (.c (.u 2 0 0) fs.length 6)=some (.c (.u 2 0 0) fs.length 6):=qH;have he:∀ q,(AV.hs (.c (.u 2 0 0) fs.length 6) 2 0 q).tr (mv N (.u 9 0 0))=.hs (.c (.u 2 0 0) fs.length 6) 2 0 q:=λq=>qH;refine⟨qt p (.u 2 0 0) L,(qt p (.u 2 0 0) L).map λr=>r.map (AV.tr (mv N (.u 9 0 0))),(iv f.YS).tr (mv N (.u 9 0 0)),(iv f.pc).tr (mv N (.u 9 0 0)),(iv (u5 p f)).tr (mv N (.u 9 0 0)),(AV.hs (.c (.u 2 0 0) fs.length 3) 3 0 f.YV.length).tr (mv N (.u 9 0 0)),(ZD (zu f.cells)).tr (mv N (.u 9 0 0)),(AV.hs (.c (.u 2 0 0) fs.length 5) 3 0 8).tr (mv N (.u 9 0 0)),f.stack++j,hF,?_,?_,?_,vU hk,?_⟩
 .simp_all[D9,Z6]
 .simp_all[zy]
 .simp_all[D9,Z6]
 simp_all[b9]
theorem YW.take (h:YW hp p (.u 2 0 0) (m.top fs f) dp) (hk:f.stack.length=k+1):∃ (rows:List (List AV)) (a0 a1 a2 a3 a4 a5:AV) (vs:List Y6),hp (.u 2 0 0)=some (.row 7 rows)/\(yb ZK hp) (.u 2 0 0)=some (.row 7 rows)/\rows[fs.length]?=some [a0,a1,a2,a3,a4,a5,.hs (.c (.u 2 0 0) fs.length 6) 2 0 (k+1)]/\(yb ZK hp) (.c (.u 2 0 0) fs.length 6)=some (.row 2 (zf vs))/\vs[k]?=some f.Yw:=by
 obtain⟨L,j,hL,hat,hlt,hF,h3,h5,h6⟩:=h.Z2 rfl;refine⟨qt p (.u 2 0 0) L,iv f.YS,iv f.pc,iv (u5 p f),.hs (.c (.u 2 0 0) fs.length 3) 3 0 f.YV.length,ZD (zu f.cells),.hs (.c (.u 2 0 0) fs.length 5) 3 0 8,f.stack++j,hF,cE,?_,zL,vU hk⟩
 simp_all[zy]
theorem YW.taken {H':Nm->Option AO} {r:Nm} {y v:AV} {rows:List (List AV)} (h:YW hp p (.u 2 0 0) (m.top fs f) dp) (hr:hp (.u 2 0 0)=some (.row 7 rows)) (hk:f.stack.length=k+1) (hw:xI ZK v (.u 2 0 0) (.row 7 (qY rows fs.length 6 [.hs (.c (.u 2 0 0) fs.length 6) 2 0 k])) (yb ZK hp) r y H'):YW H' p (.u 2 0 0) (m.top fs f.pop) dp:=by
 refine (h.Z9 hr hk).Yq (f:=jY ZK []) (.inr rfl) (λq hq=>qH) λq hq=>?_;rw [hw.2 q hq]
 simp_all
theorem Nn (h1:hp Xn≠none) (h2:hp (.u 2 0 0)≠none) (k i j:Nat):ZK (.u k i j)=false\/hp (.u k i j)≠none:=by
 grind[IE,Nm.under]
theorem VX {q:Nm} (h:Nm.under (.u 9 0 0) q=true):ZK q=false:=by
 induction q<;>simp_all
theorem YW.qB3 {hp':Nm->Option AO} {n:Nm} (h:YW hp p n m dp) (hn:Nm.under Xn n=true\/n=.u 2 0 0) (hh:∀ q,ZK q=true->hp' q=hp q):YW hp' p n m dp:=by
 refine h.Yq hn (f:=some) (λ_ _=>rfl) λq hq=>?_;rw [hh q hq]
 cases hp q<;>grind[AO.Yg]
theorem YW.cut {hp':Nm->Option AO} {n:Nm} (h:YW hp p n m dp) (hm:m.YO=fs++[f])
  (h0:hp' Xn=some (.row 13 [vg p n { m with YO:=fs } dp]))
  (hh:∀ q,q≠Xn->ZK q=true->hp' q=hp q) (hn:n=.u 2 0 0):YW hp' p n { m with YO:=fs } dp:=by
 subst hn;have hX:∀ j,hp' (.c Xn 0 j)=hp (.c Xn 0 j):=λj=>hh _ qB qB;have hF:∀ i j,hp' (.c (.u 2 0 0) i j)=hp (.c (.u 2 0 0) i j):=λi j=>hh _ qB qB
 have hf:∀ (i:Nat) g,fs[i]?=some g->m.YO[i]?=some g:=λi g hg=>by
  grind
 refine⟨h0,by grind[ZP],by grind[cells],by grind[Yd],by grind[YT],by grind[Yt],by grind[out],by grind[Zb],?_,λi g hg=>?_,λi g hg=>?_,λi g hg=>?_⟩
 .obtain⟨js,hj⟩:=h.fr.top;refine⟨f::js,?_⟩
  simp_all
 .rw [hF];exact h.fr.YV i g (hf i g hg)
 .rw [hF];exact h.fr.names i g (hf i g hg)
 .exact (h.fr.stack i g (hf i g hg)).imp λj hj=>qH
theorem YW.qCN {hp':Nm->Option AO} {e:Int} {n:Nm} (h:YW hp p n m dp) (hn:n=.u 2 0 0) (hh:∀ q,ZK q=true->hp' q=if q=Xn then some (.row 13 [vg p n { m with en:=e } dp]) else hp q):YW hp' p n { m with en:=e } dp:=by
 subst hn;have h2:YW (λq=>if q=Xn then some (.row 13 [vg p (.u 2 0 0) { m with en:=e } dp]) else hp q) p (.u 2 0 0) { m with en:=e } dp:=YW.re h (h0:=qB) (h1:=by simp [h.ZP]) (h2:=by simp [h.cells]) (h3:=by simp [h.Yd]) (h4:=by simp [h.YT]) (h5:=by simp [h.Yt]) (h6:=by simp [h.out]) (h7:=by simp [h.Zb]) (h8:=h.fr.re);exact h2.qB3 (.inr rfl) hh
structure SlN (N:Nm):Prop where
 ZN:N.ZN=false
 D:∀ k,Nm.under N k=true->ZK k=true
 u9:Nm.under (.u 9 0 0) N=false
 u2:Nm.under N (.u 2 0 0)=false
 x:Nm.under N Xn=false
 st:∀ i,Nm.under N (.c (.u 2 0 0) i 6)=false
 s:∀ d,Nm.under (.s d) N=false/\N≠.s d
 b:∃ b,Nm.under (.u 1 0 0) N=b/\Nm.under (.u 2 0 0) N=!b
theorem Tz {i:Nat}:SlN (Zv (.u 2 0 0) i o):=by
 unfold Zv
 repeat' split
 all_goals refine⟨rfl,λk hk=>?_,qB,qB,qB,qB,qB,qB⟩
 .have:=Nm.ZA (a:=.u 2 0 0) qB hk;simp [this]
 .have:=Nm.ZA (a:=.u 1 0 0) qB hk;simp [this]
 .have:=Nm.ZA (a:=.u 1 0 0) qB hk;simp [this]
 .have:=Nm.ZA (a:=.u 2 0 0) qB hk;simp [this]
end
def St.stl (st:St) (t:Nat) (N:Nm) (x:AV):St:={ tm:=λs=>if s=t then x else (st.tm s).tr (kl N),hp:=hkl N st.hp,n:=st.n,gl:=st.gl }
section
variable {X:Ctx} {st:St} {a:Go.Act} {w:World} {K:St->Prop} {E:AV->St->Prop} {o:Oper} {t s:Nat} {N m:Nm} {x:AV}
@[simp] theorem stl_tm:(st.stl t N x).tm s=if s=t then x else (st.tm s).tr (kl N):=rfl
@[simp] theorem stl_hp:(st.stl t N x).hp m=if Nm.under N m then none else (st.hp m).map (AO.tr (kl N)):=rfl
@[simp] theorem stl_gl:(st.stl t N x).gl=st.gl:=rfl
theorem Rw.settle (h:Rw X st a w) (hb:Bw st.hp (λn=>decide (n≠N)) (st.tm t) x):Rw X (st.stl t N x) a w:=by
 obtain⟨C,g,h1,h2,h3,h4,h5,hg⟩:=h
 have hCN:∀ b,g.φ N=some b->st.hp N≠none->¬ C b/\(X.w0.heap.size<=b\/X.own b)/\b<w.heap.size:=by
  intro b hb hn;obtain⟨o,ho⟩:=BX.1 hn;exact hg.inv.YS N o b ho hb
 let C':Nat->Prop:=λb=>C b\/(g.φ N=some b/\st.hp N≠none)
 have hS:=hg.qCR (C':=C') (g':=g.more C') (w':=w) (f:=kl N) (hp':=hkl N st.hp) rfl (λb hb=>.inl hb) (by
  rintro b (hb|⟨hb,hn⟩)
  .exact hg.inv.clt b hb
  simp_all) (by
  intro n n' e;simp only [kl] at e
  split at e
  .cases e
  .obtain rfl:=sI e;exact⟨rfl,rfl⟩) rfl rfl rfl (qp _) (λ_ _=>rfl) (λb hb ho=>rfl) (by
  intro n' o' e;left;simp only [hkl] at e
  split at e
  .cases e
  .rename_i hu;obtain⟨o,ho,rfl⟩:=ui.1 e;refine⟨n',o,qH,ho,rfl,λb hb=>⟨rfl,?_⟩⟩;rintro (hc|⟨hc,hn⟩)
   .exact (hg.inv.YS n' o b ho hb).1 hc
   .obtain⟨o2,ho2⟩:=BX.1 hn;have:=hg.inv.inj n' N o o2 b ho ho2 hb hc
    simp_all)
 refine⟨C',g.more C',λb hb=>.inl (h1 b hb),?_,h3,h4,h5,?_⟩
 .grind
 .refine⟨hS.inv,hS.defers,hS.size,λs=>?_,hS.Yd⟩;by_cases e:s=t
  .subst e;simp only [St.stl,if_true];refine RV.bw hg.inv (λb hb=>.inl hb) (λn o b hD ho hk=>?_) hb (hg.qA9 s)
   grind
  .have:=hS.qA9 s
   simp_all[St.nm]
theorem PO (t:Nat) (N:Nm) (x:AV) (hb:Bw st.hp (λn=>decide (n≠N)) (st.tm t) x) (h:qO X o K E (st.stl t N x)):qO X o K E st:=λa w Q hR hE=>h a w Q (hR.settle hb) hE
theorem Cd (t:Nat) (N:Nm) (h:qO X o (λs=>∃ x,Bw s.hp (λn=>decide (n≠N)) (s.tm t) x/\K (s.stl t N x)) E st):qO X o K E st:=by
 refine qO.post h ?_;rintro s a w hR ⟨x,hb,hK⟩;exact⟨_,hR.settle hb,hK⟩
theorem NR {hp:Nm->Option AO} {N:Nm} {z len:Nat} {rows:List (List AV)} (hn:hp N=some (.row z rows)) (hl:len=rows.length) (hu:∀ r∈rows,r.length=z):Bw hp (λn=>decide (n≠N)) (.hs N z 0 len) (.sl z rows):=by
 refine .hs N z 0 len rows rows qB hn qA hl.symm hu λi r r' h1 h2 j a a' h3 h4=>?_;rw [sK,h2] at h1;obtain rfl:=sI h1;rw [h3] at h4;obtain rfl:=sI h4;exact .refl _
theorem oz (t:Nat) (N:Nm) (z len:Nat) (rows:List (List AV)) (ht:st.tm t=.hs N z 0 len) (hn:st.hp N=some (.row z rows)) (hl:len=rows.length) (hu:∀ r∈rows,r.length=z) (h:qO X o K E (st.stl t N (.sl z rows))):qO X o K E st :=
 PO t N _ (by grind[NR]) h
theorem X7 {a:AV} {d:Nat}:(a.tr (kl (.s d))).tr (kl (.s d))=a.tr (kl (.s d)):=by
 rw [AV.ZM]
 congr 1
 grind[kl]
theorem oJ {d z n:Nat} {rows:List (List AV)} (hcall:∀ K':St->Prop,K' (((st.kill (.s d)).Yf (.s d) (.row z rows)).put (some d) (.hs (.s d) z 0 n))->qO X o K' E st) (hl:n=rows.length) (hu:∀ r∈rows,r.length=z) (h:K ((st.kill (.s d)).put (some d) (.sl z rows))):qO X o K E st:=by
 refine Cd d (.s d) (hcall _ ⟨.sl z rows,?_,?_⟩)
 .grind[NR,St.put,St.Yf]
 .have:((((st.kill (.s d)).Yf (.s d) (.row z rows)).put (some d) (.hs (.s d) z 0 n)).stl d (.s d) (.sl z rows))=(st.kill (.s d)).put (some d) (.sl z rows):=by
   simp only [St.stl,St.put,St.Yf,St.kill,St.nm]
   congr 1
   .grind[X7]
   .funext m
    simp only [hkl];by_cases e:Nm.under (.s d) m=true
    .simp [e]
    .have hne:¬ m=.s d:=λe'=>e qH;simp only [e,hne,if_false]
     cases st.hp m with
     | none=>rfl
     | some o =>
      have:(λm=>(kl (.s d) m).bind (kl (.s d)))=kl (.s d):=by
       grind[kl]
      grind[AO.ZM]
  simp_all
end
theorem Sa {X:Ctx} {c:Code} {Q:Ex->St->Prop} {G:Prop} (I:St->Prop) (k:∀ st,I st->qa X c Q st) (h:Yr (∀ st,I st->qa X c Q st)->G):G:=h ⟨k⟩
theorem Np {X:Ctx} {st:St} {c:Code} {Q:Ex->St->Prop} (n0 n1:Nm) (h0:n0.ZN=false\/X.ext n0=false) (h1:n1.ZN=false\/X.ext n1=false) (h:qa X c Q (st.move n0 n1)):qa X c Q st:=λa w hR=>h a w (hR.move n0 n1 h0 h1)
def Sc (l:Nat) (I:St->Prop) (Q:Ex->St->Prop):Ex->St->Prop
 | .goto l',st=>l'=l/\I st
 | .normal,st=>Q .normal st
 | .exit id,st=>Q (.exit id) st
 | .ret,st=>Q .ret st
 | .pan x,st=>Q (.pan x) st
section
variable {X:Ctx} {st:St} {Q:Ex->St->Prop} {l:Nat} {I:St->Prop} {id:Nat} {x:AV}
theorem JJ (h:Q .normal st):Sc l I Q .normal st:=h
theorem Sb (h:Q .ret st):Sc l I Q .ret st:=h
theorem HW (h:I st):Sc l I Q (.goto l) st:=⟨rfl,h⟩
theorem RI {c rest:Code} (l:Nat) (hf:findLabel c l=some rest) (I:Nat->St->Prop) (h0:qa X c (Sc l (λs=>∃ n,I n s) Q) st) (hpass:∀ n s,s.n=X.n->s.gl=X.gl->I n s->qa X rest (Sc l (λs'=>∃ m,m<n/\I m s') Q) s):qa X (.scope c) Q st:=by
 intro a w hR
 let J:Nat->Go.Act->World->Prop:=λn a w=>∃ st,Rw X st a w/\I n st
 let μ:Go.Act->World->Nat:=λa w=>open Classical in if h:∃ n,J n a w then (P0 h).choose else 0
 have hμ:∀ n a w,J n a w->μ a w<=n:=by
  intro n a w hJ;have hex:∃ n,J n a w:=⟨n,hJ⟩;simp only [μ,dif_pos hex];exact (P0 hex).choose_spec.2 n hJ
 refine wp_scope_jumps l (λa w=>∃ n,J n a w) μ hf (wp_mono (h0 a w hR) λe a' w' he=>?_) λa w hJ=>?_
 .cases e with
  | goto l' =>
   obtain⟨st',hR',rfl,n,hI⟩:=he;constructor<;>grind
  | normal=>exact he
  | exit id=>exact he
  | ret=>exact he
  | panic ch=>exact he
  | outgrown=>exact he
 .have hspec:J (μ a w) a w:=by
   grind
  obtain⟨st1,hR1,hI1⟩:=hspec;have hR1':=hR1;obtain⟨C,g,x1,x2,x3,x4,x5,x6⟩:=hR1;refine wp_mono (hpass _ st1 x3 x4 hI1 a w hR1') λe a' w' he=>?_
  cases e with
  | goto l' =>
   obtain⟨st',hR',rfl,m,hlt,hI⟩:=he;exact⟨rfl,⟨m,st',hR',hI⟩,Nat.lt_of_le_of_lt (hμ m a' w' ⟨st',hR',hI⟩) hlt⟩
  | normal=>exact he
  | exit id=>exact he
  | ret=>exact he
  | panic ch=>exact he
  | outgrown=>exact he
end
end Go.Hm
end
