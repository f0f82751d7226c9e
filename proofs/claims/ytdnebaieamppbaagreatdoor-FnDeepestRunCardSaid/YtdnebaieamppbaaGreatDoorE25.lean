import Derived.Test.YtdnebaieamppbaaGreatDoorE14
import Derived.Shelf.SlIterI.Nil
set_option linter.unusedSimpArgs false
set_option linter.unusedVariables false
set_option maxRecDepth 100000
set_option maxHeartbeats 4000000

section
namespace Go.Hm
open Go Go.RowKit Go.Proofs Go.Maps
def W1 (d:Nat) (l:List Int) (st:St):St:=((st.kill (.s d)).Zp (.s d) (.row 1 (qT l))).put (some d) (.hs (.s d) 1 0 l.length)
def A1 (P:Program) (fs fk:Nat) (kt:TypeId):Prop:=∀ (Bm b nn:Nat) (D0:DataW Unit) (R:Value->Option (DataW Unit×List MemPlace)) (w:World),Bm<w.heap.size->w.cell? ⟨Bm,0,none⟩=some (.map (some b))->w.ownsMap P kt R b nn D0->Maps.size D0<=maxLen->Maps.size D0 * 8<=140737488355328 ->
 Calls P fs #[.func (.func fk) #[] #[.pointer (some ⟨Bm,0,none⟩)]] w λe w'=>∃ (v:Value) (ss:List Int),e=.returned v/\ss.Perm (intKeys D0) /\
  w'.ownsRow w.heap.size kt 1 v ss.length ((ss.mergeSort (λx y=>decide (x<=y))).map encZ)/\(v=.slice none 0 0↔ss=[])/\Below w.heap.size w w'
theorem Dh {ss l:List Int} (hp:ss.Perm l) (hs:l.Pairwise (·<·)):ss.mergeSort (λx y=>decide (x<=y))=l:=by
 have h1:(ss.mergeSort (λx y=>decide (x<=y))).Pairwise (λx y=>decide (x<=y)=true):=List.pairwise_mergeSort (λa b c h1 h2=>qj) (λa b=>qc) ss;refine List.Perm.eq_of_pairwise (le:=λx y=>x<=y) (λa b _ _ h1 h2=>qA) (h1.imp λh=>qH) (hs.imp λh=>qA) ((List.mergeSort_perm ss _).trans hp)
theorem Pa {x:Int} (h:0<=x/\x<=7):(Lit.int .i64 x).wf=true:=by
 obtain⟨n,rfl⟩:∃ n:Nat,x=n:=⟨x.toNat,qA⟩;have:n<8:=qA
 match n,this with
 | 0,_|1,_|2,_|3,_|4,_|5,_|6,_|7,_=>decide
section
variable {X:Ctx} {C:Nat->Prop} {g:Gh} {a:Go.Act} {w:World} {st:St} {K:St->Prop} {E:AV->St->Prop} {ty:TypeId} {pos:String} {aft:Array Edge} {gd:Option (Nat×Bool)} {d:Nat} {args:Array Operand} {Ts:Array TypeId} {n N:Nm} {gs:Int->Zt} {l:List Int} {st':St} {fs fk:Nat} {kt:TypeId}
theorem Mh {P:Program} {b:Nat} (hk:P.underlying kt=some (.int .i64)) (h:UK g w b (aQ gs l)) (h8:l.length<=8) (hr:∀ x∈l,0<=x/\x<=7):∃ D0:DataW Unit,w.ownsMap P kt (λ_=>some (.lit (.bool false),[])) b l.length D0/\(intKeys D0).Perm l/\Maps.size D0<=8:=by
 obtain⟨ms,clock,m1,mst,mlen,mr⟩:=h;simp only [NG] at mlen
 have key:∀ (i:Nat) m,ms[i]?=some m->∃ x,l[i]?=some x/\m.key=.int .i64 x:=by
  intro i m hi;have hl:=(gS hi).1;obtain⟨x,hx⟩:∃ x,l[i]?=some x:=⟨_,gE qA⟩;refine⟨x,hx,?_⟩;have:=(mr i m (iv x,.agg (jm (gs x))) hi (by simp [aQ,hx])).1;exact this.Zo
 have rdk:∀ (i:Nat) m,ms[i]?=some m->∃ x,l[i]?=some x/\WideElems.rd (H:=Unit) P kt (λ_=>some (.lit (.bool false),[])) m=some (.int .i64 x,.lit (.bool false)):=by
  grind[WideElems.rd,keyOf_int_mk,Pa]
 refine⟨_,⟨ms.toArray,clock,m1,⟨?_,mst,?_⟩,qc,rfl⟩,?_,?_⟩
 .grind[maxLen]
 .grind[eW]
 .simp only [intKeys];refine ((WideShapes.sorted_perm _).map _).trans ?_
  have:List.map (λp:Lit×DataW Unit=>intOf p.1) (List.map (WideElems.rg P kt λ_=>some (.lit (.bool false),[])) ms)=l:=by
   apply wK
   grind[intOf,WideElems.rg_of]
  simp_all
 .simp only [Maps.size];rw [(WideShapes.sorted_perm _).length_eq]
  simp_all
theorem Mj (h:Rg X.P X.own C X.w0 g st a w) (hn:st.n=X.n) (hd:d<X.n) {w':World} {v:Value} (hb:Below w.heap.size w w') (hv:w'.ownsRow w.heap.size kt 1 v l.length (l.map encZ)):∃ g',Ust g g'/\Rg X.P X.own C X.w0 g' (W1 d l st) (a.put (some d) v) w':=by
 rcases hv.2 with⟨rfl,hz⟩|⟨gb,cap,cur,rfl,hbase,hgb,r1,r2,r3,r4⟩
 .obtain rfl:l=[]:=gj hz;have gf:∀ k k',kl (.s d) k=some k'->(g.tr (kl (.s d))).φ k'=g.φ k/\(g.tr (kl (.s d))).κ k'=g.κ k:=λ_ _ e=>Gh.qAf (λ_ _ _=>NC) e
  have hs:=h.step (g':=g.tr (kl (.s d))) (w':=w') (f:=kl (.s d)) (hp':=((st.kill (.s d)).Zp (.s d) (.row 1 [])).hp) rfl gf hb.os hb.tape hb.output hb.size (λb hC=>hb.block b (h.inv.clt b hC)) (λb h1 _=>hb.block b (aR h1 h.inv.size)) (λn' o' e=>by
   simp only [St.Zp] at e
   split at e
   .grind[OAt,kG,Nm.Z6]
   .obtain⟨o,e1,e2,e3⟩:=sV e;exact .inl ⟨n',o,e1,e2,e3,λb hk=>hb.block b (h.inv.Z1 _ _ _ e2 hk).2.2⟩)
  refine⟨g.tr (kl (.s d)),Ust.kl (n:=.s d) rfl,?_⟩;exact Rg.put (st:=(st.kill (.s d)).Zp (.s d) (.row 1 [])) hs (d:=some d) (λt e=>HH) (.hsN _ _ (kG (Nm.Z6 _)))
 .have hlt:=(C3.1 hgb).1
  have hm:=h.made (.s d) (.row 1 (qT l)) gb cap w' [] qB (λ_=>false) hb.os hb.tape hb.output hb.size (.inl hbase) hlt (λb' _ hb'=>hb.block b' hb') (by
   simp only [OAt,(zO (g:=g) (.s d) (some gb) cap).1,(zO (g:=g) (.s d) (some gb) cap).2]
   have hcur:∀ (i:Nat) x,l[i]?=some x->cur.getD i undef=.int .i64 x:=by
    intro i x hx;have hi:=(gS hx).1;have e:(cur.toList.take (l.length * 1))[i]?=some (encZ x):=qH;rw [O8,if_pos qA] at e
    simp_all
   refine⟨cur,kt,hgb,r3,r2,qH,zd,?_,?_⟩
   .intro j hj;have hj':j<l.length:=qH;rw [hcur j _ (gE hj')]
    rfl
   .intro i row hi j x hx;simp only [qT,kx,ku] at hi;obtain⟨y,hy,rfl⟩:=hi
    match j with
    | 0 =>
     obtain rfl:iv y=x:=qH;rw [show i * 1+0=i from qA,hcur i y hy];exact .sc _
    | j+1=>simp at hx)
  have e:(st.nm (kl (.s d)) (λm=>if (λ_=>false:Nm->Bool) m then none else hkl (.s d) st.hp m))=st.kill (.s d):=lX;rw [e] at hm;refine⟨g.fresh (.s d) (some gb) cap,Ust.fresh (n:=.s d) rfl,?_⟩;exact hm.put (d:=some d) (x:=.hs (.s d) 1 0 l.length) (λt e=>HH) (.hsB _ _ _ _ gb cap _ (zO _ _ _).1 r1 Bp (λ_=>qB))
theorem Oz {S:List Int} (hcb:cE X.P fs) (hk:X.P.underlying kt=some (.int .i64)) (hcal:A1 X.P fs fk kt)
  (hd:d<X.n:=by first|(simp;done)|fail) (ha:args.toList.map (ev st)=[.fn (.func fk) [] [.pt n 0]]:=by simp [fx];first|done|rfl) (hn:st.hp n=some (.row 1 [[.mp N]]):=by simp [fx];first|done|rfl) (hN:st.hp N=some (.map (aQ gs l)):=by simp [fx];first|done|rfl) (h8:l.length<=8) (hs:S.Pairwise (·<·)) (hlS:l.Perm S) (hr:∀ x∈l,0<=x/\x<=7)
  (hst:W1 d S st=st':=by simp [fx,W1];first|done|rfl) (h:K st'):qS X ⟨some d,.call ⟨.value (.func fs),args,Ts⟩,ty,pos,aft,gd⟩ K E st:=by
 subst hst;intro a w Q hR hQ;obtain⟨C,g,h1,h2,h3,h4,h5,hg⟩:=hR;obtain⟨vs,hrun,hsz,hrel⟩:=iL (st:=st) (o:=⟨some d,.call ⟨.value (.func fs),args,Ts⟩,ty,pos,aft,gd⟩) hcb rfl _ _ _ _ _ _ hg;rw [ha] at hsz hrel;unfold Oper.wp;rw [hrun,Oper.upon_enter]
 obtain⟨v,rfl⟩:∃ v,vs=#[v]:=by
  rcases vs with⟨l⟩
  grind[E9]
 have hv:=hrel 0 v (.fn (.func fk) [] [.pt n 0]) rfl rfl
 cases hv with
 | fn _ us ws _ _ hl hl2 hr1 hr2 =>
 obtain rfl:us=[]:=gj hl;obtain⟨u,rfl⟩:=E9.1 hl2;have hu:=hr2 0 u (.pt n 0) rfl rfl
 cases hu with
 | pt _ _ b hb =>
 have hat:=hg.inv.obj n _ hn;simp only [OAt,hb] at hat;obtain⟨cur,T,c1,c2,c3,c4,c5,c6,c7⟩:=hat;have hm:=c7 0 _ rfl 0 _ rfl;simp only [Kg,Ek] at c4;have hcs:0<cur.size:=qA
 have hcell:w.cell? ⟨b,0,none⟩=some (cur.getD (0 * 1+0) undef):=by
  simp_all[World.cell?]
 generalize cur.getD (0 * 1+0) undef=u0 at hm hcell
 cases hm with
 | mp _ bm hkm =>
 have hmat:=hg.inv.obj N _ hN;simp only [OAt,hkm] at hmat;obtain⟨D0,o1,o2,o3⟩:=Mh hk hmat h8 hr;have Zs:b<w.heap.size:=(C3.1 c1).1;refine (hcal b bm _ D0 _ w Zs hcell o1 (vk o3 qO) qA).mono ?_;rintro e w' ⟨v,ss,rfl,hp,hrow,hnil,hbel⟩;have hpl:=(hp.trans o2).trans hlS;rw [Dh hpl hs,hpl.length_eq] at hrow;obtain⟨g',hu',hg'⟩:=Mj (d:=d) (kt:=kt) hg h3 hd hbel hrow;exact⟨W1 d S st,⟨C,g',h1,h2,h3,h4,h5.step hu',hg'⟩,h⟩
end
end Go.Hm
end
section
namespace Go.Hm
open Go Go.RowKit
@[simp] theorem fM_nine:fM 9=false:=rfl
def RU (p:Z0) (r:List AV):Prop:=∃ x2 x3 x4 x5 x6 x7 x8 x9,r=[ksl p,.hs (.c Mn 0 1) 1 0 p.length,x2,x3,x4,x5,x6,x7,x8,x9]
structure qA9 (hp:Nm->Option AO) (p:Z0) (w:Z5):Prop where
 top:∃ r,hp Mn=some (.row 10 [r])/\RU p r
 scs:qBc hp (.c Mn 0 1) p p.length
 bx:∀ k j:Nat,k<w.ZZ.length->j<4->(hp (.u 8 k j)).isSome=true
 env:∀ (i:Nat) a,w.ZX[i]?=some a->hp (En i)=some (.row 3 [yU i a])
 nms:∀ (i:Nat),i<w.ZX.length->∃ ms,hp (.c (En i) 0 1)=some (.map (wC ms))/\qAa ms (w.nms i)
 only:∀ k i j,fM k=true->hp (.u k i j)≠none->(k=1/\i=0/\j=0)\/(k=7/\i<w.ZX.length/\j=0)\/(k=8/\i<w.ZZ.length/\j<4)
theorem RU.mk {p:Z0} {x2 x3 x4 x5 x6 x7 x8 x9:AV}:RU p [ksl p,.hs (.c Mn 0 1) 1 0 p.length,x2,x3,x4,x5,x6,x7,x8,x9]:=⟨_,_,_,_,_,_,_,_,rfl⟩
theorem qA9.hp' {hp hp':Nm->Option AO} {p:Z0} {w:Z5} (h:qA9 hp p w) {f:Nm->Option Nm} (hf:∀ m,DM m=true->f m=some m) (hh:∀ m,DM m=true->hp' m=(hp m).map (AO.tr f)):qA9 hp' p w:=by
 have hE:∀ i,f (En i)=some (En i):=λi=>hf _ rfl;have hc:∀ j,f (.c Mn 0 j)=some (.c Mn 0 j):=λj=>hf _ rfl;refine⟨?_,⟨?_,λj k hj hk=>?_⟩,λk j hk hj=>?_,λi a ha=>?_,λi hi=>?_,λk i j hk hn=>?_⟩
 .obtain⟨_,h1,x2,x3,x4,x5,x6,x7,x8,x9,rfl⟩:=h.top;refine⟨_,by rw [hh _ rfl,h1];rfl,?_⟩;simp only [gi,Eb,Wi,hc];have:AV.tr f (ksl p)=ksl p:=qB
  grind[RU.mk]
 .rw [hh _ rfl,h.scs.top];simp only [kv,AO.tr];rw [DK λj=>hf _ rfl]
 .rw [hh _ rfl,h.scs.sc j k hj hk];simp only [kv,AO.tr,gi,Eb,rN];rw [IJ λj=>hf _ rfl]
 .rw [hh _ rfl,Option.isSome_map];exact h.bx k j hk hj
 .rw [hh _ rfl,h.env i a ha];have h1:=hf (.c (En i) 0 1) rfl
  simp_all
 .obtain⟨ms,a1,a2⟩:=h.nms i hi;exact⟨ms,by rw [hh _ rfl,a1];simp,a2⟩
 .refine h.only k i j hk λe=>hn ?_
  simp_all
theorem qA9.fin {hp:Nm->Option AO} {p:Z0} {w:Z5} {D:Nm->Bool} {sbs:List (Nm×Nm)} (h:qA9 hp p w) (hD:∀ m,D m=true->m.Zi=false:=by first|exact λ_=>qN|exact λ_=>cD) (hW:∀ m,DM m=true->D m=true:=by intro m hm;first|exact hm|simp [hm]) (hs:∀ q∈sbs,q.1.Zi=true:=by simp [Nm.Zi]):qA9 (lQ D sbs hp) p w :=
 h.hp' (f:=jc D sbs) (λm hm=>ox hD (hW m hm) hs) (λm hm=>qH)
theorem qA9.sub {hp:Nm->Option AO} {p:Z0} {w:Z5} (h:qA9 hp p w) {D:Nm->Bool} (hD:∀ m,DM m=true->D m=true:=by intro m hm;first|exact hm|simp [hm]):qA9 (vC D hp) p w:=by
 refine h.hp' (f:=some) (λ_ _=>rfl) (λm hm=>?_);rw [cL,if_pos (hD m hm)]
 cases hp m<;>grind[AO.Zr]
theorem Z4.qEf {H hp:Nm->Option AO} {F:Nat} {p:Z0} {w0 w:Z5} (h0:Z4 H F p w0) (h:qA9 hp p w) (ha:w0.ZX.length<=w.ZX.length) (hf:w0.ZZ.length<=w.ZZ.length):∀ k i j,(H (.u k i j)).isSome=true->DM (.u k i j)=false\/(vC DM hp) (.u k i j)≠none:=by
 intro k i j hs
 cases hD:fM k with
 | false=>simp_all
 | true =>
  right;have hd:DM (.u k i j)=true:=hD;rw [cL,if_pos hd];rcases h0.only k i j hD qj with⟨rfl,rfl,rfl⟩|⟨rfl,hi,rfl⟩|⟨rfl,hi,hj⟩
  .grind[qA9.top]
  .obtain⟨a,ha'⟩:∃ a,w.ZX[i]?=some a:=⟨_,gE qA⟩;rw [h.env i a ha'];simp
  .have:=h.bx i j qA hj
   grind
theorem KT {f:Nm->Option Nm} {l:List Nat} (h:∀ i∈l,f (En i)=some (En i)):(zQ l).map (λr=>r.map (AV.tr f))=zQ l:=by
 simp_all[zQ]
theorem Z4.mv9 {hp:Nm->Option AO} {F:Nat} {p:Z0} {w:Z5} (h:Z4 hp F p w):qA9 hp p w:=by
 refine⟨⟨_,h.top,.mk⟩,h.scs,λk j hk hj=>?_,h.env,h.nms,h.only⟩;obtain⟨g,hg⟩:=gX hk;obtain⟨a1,a2,a3,a4⟩:=h.bx k g hg
 grind
section
variable {P:Program} {C:Nat->Prop} {wd:World} {g0:Gh} {H:Nm->Option AO} {n:Nat} {gl:Nat->Option (List AV)} {st:St} {K:St->Prop} {E:AV->St->Prop} {d f:Nat} {ty:TypeId} {pos:String} {aft:Array Edge} {g:Option (Nat×Bool)} {args:Array Operand} {Ts:Array TypeId} {az:List AV} {R:Nm->AV->(Nm->Option AO)->Prop} {F:Nat} {p:Z0} {w0 w:Z5}
theorem S0 (h0:Z4 H F p w0) (hO:qA9 st.hp p w) (hl:w0.ZX.length<=w.ZX.length) (hf:w0.ZZ.length<=w.ZZ.length) (hd:d<n:=by first|(simp;done)|fail) (ha:args.toList.map (ev st)=az:=by simp [fx];first|done|rfl)
  (hF:qA9 (vC DM st.hp) p w->Zj P gl f DM az (vC DM st.hp) R noE) (h:∀ y H',R (.s d) y H'->K ((st.call d DM (vC DM st.hp) H').put (some d) y)) :
  qS (dz P C wd g0 H n gl) ⟨some d,.call ⟨.value (.func f),args,Ts⟩,ty,pos,aft,g⟩ K E st:=lq DM (λ_=>qN) (λk i j he=>h0.qEf hO hl hf k i j he) hd ha (hF hO.sub) h
end
end Go.Hm
end
