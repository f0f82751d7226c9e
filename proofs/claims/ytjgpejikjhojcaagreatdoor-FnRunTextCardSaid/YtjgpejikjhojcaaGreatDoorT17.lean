import Derived.Test.YtjgpejikjhojcaaGreatDoorT16
import Derived.Shelf.Strconv.Itoa3
import Derived.Shelf.Strings.Split
import Derived.WalkSmall
import Derived.Recover
set_option linter.unusedSimpArgs false
set_option linter.unusedVariables false
set_option maxRecDepth 100000
set_option maxHeartbeats 4000000

section
namespace Go.Hm
open Go Go.RowKit Go.Proofs Go.Shelf
structure HF (w w':World) (b:Nat):Prop where
 os:w'.os=w.os
 tape:w'.tape=w.tape
 output:w'.output=w.output
 size:w.heap.size<=w'.heap.size
 a8:∀ k,k<w.heap.size->k≠b->w'.heap[k]?=w.heap[k]?
theorem SM {w:World} {b n:Nat}:HF w (w.drew.freeze ⟨b,0,none⟩ n) b:=by
 unfold World.freeze
 split
 .exact⟨rfl,rfl,rfl,qX _,λ_ _ _=>rfl⟩
 .refine⟨rfl,rfl,rfl,qB,λk _ hk=>?_⟩;simp only [Array.getElem?_modify];rw [if_neg (λe=>hk e.symm)]
  rfl
section
variable {P:Program} {ρ:Ren}
set_option maxHeartbeats 1000000 in
set_option maxRecDepth 100000 in
theorem ZP (L:Lays.n169 P ρ) (X:Builder.Extra P ρ) (b:Nat) (p v:Value) (l:q9) (w:World) (hbk:w.heap[b]?=some (.cells #[p,v] (ρ.t 72) (0,0)))
  (hown:w.ownsRow 0 (ρ.t 5) 1 v l.length (ba l)) (h0:l≠[]) :
  Calls P (ρ.f 169) #[.pointer (some ⟨b,0,none⟩)] w λe w'=>e=.returned (.string (bt l))/\∃ g,v.ownBlock=some g/\HF w w' g:=by
 have hl0:l.length≠0:=qL
 obtain⟨g,cap,cur,rfl,hbg,hg,hnc,hcm,hcs,htake⟩:∃ g cap cur,v=.slice (some ⟨g,0,none⟩) l.length cap/\0<=g/\w.heap[g]?=some (.cells cur (ρ.t 5) (0,0))/\l.length<=cap/\cap<=maxLen/\cur.size=cap * 1/\cur.toList.take (l.length * 1)=ba l:=by
  rcases hown.2 with⟨_,hz⟩|⟨g,cap,cur,hv,r⟩<;>grind
 have c1:w.drew.cell? ⟨b,1,none⟩=some (.slice (some ⟨g,0,none⟩) l.length cap):=by
  have:w.drew.heap[b]?=some (.cells #[p,.slice (some ⟨g,0,none⟩) l.length cap] (ρ.t 72) (0,0)):=hbk;rw [Lib.cell_of_heap this];rfl
 have hSD:(Builtin.unsafeSliceData_ #[(ρ.t 37)] (ρ.t 127) #[.slice (some ⟨g,0,none⟩) l.length cap]).run P w.drew=.ok (.pointer (some ⟨g,0,none⟩)) w.drew :=
  Lib.run_unsafeSliceData_row _ _ _ _ _ _ qA
 have hUS:(Builtin.unsafeString_ #[(ρ.t 127),(ρ.t 3)] (ρ.t 9) #[.pointer (some ⟨g,0,none⟩),.int .i64 l.length]).run P w.drew=.ok (.string ⟨l.toArray⟩) (w.drew.freeze ⟨g,0,none⟩ l.length):=by
  refine Lib.run_unsafeString_row w.drew (ρ.t 127) (ρ.t 3) (ρ.t 9) (ρ.t 5) L.t127 X.cellsByte g cur.size (by have hg':w.drew.heap[g]?=some (.cells cur (ρ.t 5) (0,0)):=hg;grind[World.shape?]) l h0 qA rV ?_;intro j x hx;have:=hown.cells (g:=g) rfl j (.int .u8 x.toNat) (by simp [ba,hx]);exact this
 have mixed:=L.mixed;have t72:=L.t72;have a72:=L.a72;have z72:=L.z72;have v72:=L.v72;have u72:=run_underlying L.t72;have t70:=L.t70;have a70:=L.a70;have z70:=L.z70;have v70:=L.v70;have u70:=run_underlying L.t70;have t37:=L.t37;have a37:=L.a37;have z37:=L.z37;have v37:=L.v37;have u37:=run_underlying L.t37;have t127:=L.t127;have a127:=L.a127;have z127:=L.z127;have v127:=L.v127;have u127:=run_underlying L.t127;have t3:=L.t3;have a3:=L.a3;have z3:=L.z3;have v3:=L.v3;have u3:=run_underlying L.t3;have t9:=L.t9;have a9:=L.a9;have z9:=L.z9;have v9:=L.v9;have u9:=run_underlying L.t9;have t5:=X.t5;have a5:=X.a5;have z5:=X.z5;have v5:=X.v5;have u5:=run_underlying X.t5
 go_enter L.f169,Body.n169_ntmps ρ
 go_wp2
 go_region_o
 all_goals (go_wp2;go_ret;exact⟨rfl,g,rfl,SM⟩)
set_option maxHeartbeats 1000000 in
theorem ZO (L:Lays.n169 P ρ) (X:Builder.Extra P ρ) (gl:Nat->Option (List AV)) (V:Nm) (l:q9) (H:Nm->Option AO) (hH:ax H V (ρ.t 72) (ρ.t 5) l) :
  qV P gl (ρ.f 169) (Nm.under V) [.pt V 0] H (λ_ y H'=>y=tx l/\H'=jv) qy:=by
 refine⟨⟨_,L.f169,qY,qY⟩,λroot C w g args hr hru hHD hinv hgl hsz hargs=>?_⟩
 obtain⟨a0,rfl⟩:∃ a0,args=#[a0]:=by
  rcases args with⟨_|⟨a0,_|⟨a1,tl⟩⟩⟩<;>grind
 have r0:=hargs 0 a0 (.pt V 0) rfl rfl
 cases r0 with
 | pt _ _ b hk =>
 obtain⟨p,v,c1,hpp,ho,hob,hVn,hκ⟩:=H9 hH hinv.obj hk
 have fin:∀ w':World,w'.os=w.os->w'.tape=w.tape->w'.output=w.output->w.heap.size<=w'.heap.size->(∀ k,k<w.heap.size->v.ownBlock≠some k->w'.heap[k]?=w.heap[k]?) ->
   ∃ C' g' H' x,cK (vS g H) C w g (Nm.under V) root H H' C' g' w'/\RV g' w' (.string (bt l)) x/\x=tx l/\H'=jv:=by
  intro w' q1 q2 q3 q4 q5;refine⟨C,g,jv,tx l,⟨λ_ h=>h,λ_ h=>.inl h,⟨q1,q2,q3,q4,?_,hinv.hC,?_,λ_ _ e=>vQ,λ_ _ _ e=>vQ,λ_ _ _ _ _ e=>vQ⟩,λ_ e=>absurd rfl e,λ_ _ _=>⟨rfl,rfl⟩,λ_ _ _ _=>⟨rfl,rfl⟩⟩,.sc _,rfl,rfl⟩
  .intro k hk2 hno;refine q5 k hk2 λe=>?_;obtain⟨o',e1,e2⟩:=hob _ e;exact hno ⟨.c V 0 1,qL,e2⟩
  .intro y hy;exact uW (hinv.u0 y hy) q4
 rcases hH with⟨rfl,hHV⟩|⟨h0,hHV,hHB⟩
 .have hv:v=.slice none 0 0:=by
   have o0:=hinv.obj V _ hHV;simp only [jU,hk] at o0;obtain⟨⟨cur,d1,d2,d3,d4,d5,d6,d7⟩,_⟩:=o0;rw [d1] at c1
   injection c1 with c1
   injection c1 with c1 _ _
   have:=(d7 0 _ rfl 1 _ rfl).zi
   simp_all
  subst hv;refine (Any.Builder_String_nil L X w.heap.size b p w c1).mono λe w' he=>?_;obtain⟨rfl,hb⟩:=he;exact fin w' hb.os hb.tape hb.output hb.size λk hk2 _=>hb.block k hk2
 .refine (ZP L X b p v l w c1 ho h0).mono λe w' he=>?_;obtain⟨rfl,x,hx,hW⟩:=he;exact fin w' hW.os hW.tape hW.output hW.size λk hk2 hne=>hW.a8 k hk2 λe=>hne qL
end
end Go.Hm
end
section
namespace Go.Hm
open Go Go.RowKit
section
variable {P:Program} {own:Nat->Prop} {C:Nat->Prop} {w0:World} {g:Gh} {st:St} {a:Go.Act} {w:World}
def DD (T:TypeId) (d:Nat) (st:St):St :=
 ((st.kill (.s d)).zS (.s d) (.vv T 2 true [[.sc (.pointer none),.sc (.slice none 0 0)]])).put (some d) (.pt (.s d) 0)
theorem O0 {o:Oper} {T:TypeId} {d:Nat} (h:Rg P own C w0 g st a w) (ho:o.op=.alloc T) (hd:o.dst=some d) (hn:d<st.n) (hq:yJ P T=some [.sc (.pointer none),.sc (.slice none 0 0)]) :
  aU P o a w λa' w'=>uy P own C w0 g (DD T d st) a' w':=by
 obtain⟨i,z,q1,q2,q3,q4,q5⟩:=Gz hq
 have hz:z.cells=#[.pointer none,.slice none 0 0]:=by
  have h2:z.cells.toList=[.pointer none,.slice none 0 0]:=by
   rcases hl:z.cells.toList with _|⟨x,_|⟨y,_|⟨u,tl⟩⟩⟩ <;> rw [hl] at q4 <;> simp at q4
   simp_all
  grind
 refine .inl ⟨.pointer (some ⟨w.heap.size,0,none⟩),w.alloc (.cells z.cells T),?_,?_⟩
 .simp [execOp,ho,Instr.alloc,zeroValue,typeInfo,q1,q2,newVar,newRow]
 .rw [hd,hz]
  have hm:=h.made (.s d) (.vv T 2 true [[.sc (.pointer none),.sc (.slice none 0 0)]]) w.heap.size 1 (w.alloc (.cells #[.pointer none,.slice none 0 0] T)) [] (λp hp=>by cases hp) (λ_=>false) rfl rfl rfl qB (.inl (qX _)) qB (λb' _ hb'=>gP _ hb') (by
   simp only [jU,(kP (g:=g) (.s d) (some w.heap.size) 1).1,(kP (g:=g) (.s d) (some w.heap.size) 1).2];refine⟨⟨_,heap_alloc_new w _,qB,qc,qB,qB,?_,?_⟩,λ_=>rfl,λe=>vQ⟩
   .intro j hj
    match j,hj with
    | 0,_=>rfl
    | 1,_=>rfl
   .intro i row hrow j x hx
    match i,hrow with
    | 0,hrow =>
     obtain rfl:=sI hrow
     match j,hx with
     | 0,hx=>obtain rfl:=sI hx;exact .sc _
     | 1,hx=>obtain rfl:=sI hx;exact .sc _)
  have ek:(st.nm (kl (.s d)) (λm=>if (λ_=>false:Nm->Bool) m then none else jG (.s d) st.hp m))=st.kill (.s d):=rI;rw [ek] at hm
  have hp:=hm.put (d:=some d) (v:=.pointer (some ⟨w.heap.size,0,none⟩)) (x:=.pt (.s d) 0) (λt et=>by
   obtain rfl:=sI et;exact hn) (.pt _ _ _ (kP _ _ _).1)
  exact⟨_,ug.fresh rfl,hp⟩
end
section
variable {X:Ctx} {st:St} {K:St->Prop} {E:AV->St->Prop} {ty:TypeId} {pos:String} {aft:Array Edge} {g:Option (Nat×Bool)} {d:Nat} {T:TypeId}
theorem NT (hd:d<X.n:=by first|(simp;done)|fail) (hq:yJ X.P T=some [.sc (.pointer none),.sc (.slice none 0 0)]) (h:K (DD T d st)):q8 X ⟨some d,.alloc T,ty,pos,aft,g⟩ K E st :=
 .ck (λ_ _ _ _ e' h=>O0 h rfl rfl (e' ▸ hd) hq) ⟨rfl,rfl⟩ h
end
end Go.Hm
end
section
namespace Go.Hm
open Go Go.RowKit Go.Proofs Go.Shelf
theorem O6 {g:Gh} {w:World} {args:Array Value} {vs:List Value} (hsz:args.size=(vs.map AV.sc).length) (h:∀ (j:Nat) v x,args[j]?=some v->(vs.map AV.sc)[j]?=some x->RV g w v x):args=vs.toArray:=by
 apply Array.ext
 .simp_all
 .intro j h1 h2;have h3:j<vs.length:=qA;have:=(h j args[j] (.sc vs[j]) (ib h1) jj).zi
  simp_all
section
variable {P:Program} {ρ:Ren}
theorem Yr (L:Lays.n146 P ρ) (hi9:(P.info? (ρ.t 9)).map (λi=>(i.zero,i.size,i.bytes))=some (some (.string ByteArray.empty),1,16)) (gl:Nat->Option (List AV)) (m:Int) (hg:gl (ρ.g 1)=some [.sc (.int .i64 m)]) (l:q9) (c:UInt8) (hl:l.length<4294967281) :
  qM P gl (ρ.f 146) [tx l,tx [c]] (λ_ y _=>y=uT (zI c l)):=by
 refine Zb (vs:=[.string (bt l),.string (bt [c])]) (T:=ρ.t 9) ⟨_,L.f146,qY,qY⟩ rfl λw hw=>?_;refine (Any.strings_Split L hi9 (bt l) (bt [c]) m w qL (hw _ _ hg) qB).mono λe w' he=>?_;obtain⟨rfl,rfl⟩:=he;rw [Yp,Yo,ie];exact⟨rfl,rfl⟩
end
end Go.Hm
end
section

end
section
namespace Go.Hm
open Go Go.RowKit Go.ChangeShapes Go.WideShapes Go.Deep
def xQ:List (Nat×List Value)->Nat->Option (List AV)
 | [],_=>none
 | (g,l)::r,i=>if i=g then some (l.map .sc) else xQ r i
theorem JM {W:World}:∀ {ts:List (Nat×List Value)},(∀ t∈ts,0<t.2.length/\(∀ v∈t.2,v.oneCell'=true)/\∀ i v,t.2[i]?=some v->W.cell? ⟨t.1,i,none⟩=some v)->(∀ t∈ts,cL W t.1 (t.2.map .sc)) ->
  ∀ i row,xQ ts i=some row->(RV (g0 W) W (.pointer (some ⟨i,0,none⟩)) (.el row 0)/\cL W i row)/\∀ f:Nm->Option Nm,row.map (AV.tr f)=row
 | [],_,_,i,row,hr=>by grind[xQ]
 | (g,l)::r,h,hx,i,row,hr=>by
  simp only [xQ] at hr
  split at hr
  .rename_i e;subst e;obtain⟨hl,ho,hc⟩:=h (i,l) qB;simp only at hl ho hc;obtain rfl:=sI hr
   have hat:∀ j,j<(l.map AV.sc).length->∃ v,l[j]?=some v/\(l.map AV.sc)[j]?=some (.sc v)/\W.cell? ⟨i,j,none⟩=some v/\v.oneCell'=true:=by
    simp_all
   refine⟨⟨?_,hx (i,l) qB⟩,λf=>?_⟩
   .obtain⟨k0,_,_,hc0,_⟩:=hat 0 qL;have:=RV.el (g:=g0 W) (w:=W) i 0 0 (l.map AV.sc) (λj=>(W.cell? ⟨i,0+j,none⟩).getD undef) (IR hc0).1 (λj hj=>?_) (λj hj=>?_) (λj a ha=>?_)
    .omega
    .simp_all
    .simp_all
    .have hj:j<(l.map AV.sc).length:=(gS ha).1;obtain⟨k,_,h2,hc,_⟩:=hat j hj;rw [h2] at ha
     cases ha
     simp only [ia,hc,Option.getD_some];exact .sc _
   simp
  .exact JM (ts:=r) (λt ht=>h t (by simp [ht])) (λt ht=>hx t (by simp [ht])) i row hr
theorem BM {W:World} {i:Nat} {v:Value} {l:List Value} (h:∀ z,v≠.int .u64 z):cL W i ((v::l).map .sc):=by
 intro zs hz e
 cases zs<;>grind
abbrev df (l:List q9):List Value:=l.map λx=>.string (bt x)
theorem L1 {H:Type} {enc:TypeId×Value->H} {P:Program} {w:World} {base:Nat} {spare:Nat->Bool} {held:Bool} {m n g:Nat} {t e:TypeId} {s:String} {cs:Array Value} {l:List q9} {x:List MemPlace}
  (ht:P.underlying t=some (.array n e)) (he:P.underlying e=some .string) (hc:P.cellsOf e=1) (hg:P.globalNamed s=some g) (hv:w.var? P s=some cs)
  (h:DataW.trod enc P w base spare held m t cs.toList=some (.agg (l.map λk=>.lit (.string k)),x)):∀ i v,(df l)[i]?=some v->w.cell? ⟨g,i,none⟩=some v:=by
 intro i v hv';rw [jg] at hv';obtain⟨k,hk,rfl⟩:=zg.1 hv';obtain⟨xs,m1,rfl,hx,hlen,hn,hel⟩:=DataW.trod_array ht h;simp only [Prod.mk.injEq,DataW.agg.injEq] at hx;have hil:i<l.length:=(gS hk).1;have hxl:l.length=xs.length:=by simpa using congrArg List.length hx.1
 obtain⟨y,hy⟩:∃ y,xs[i]?=some y:=⟨_,gE qA⟩;have h0:=hel i qA;rw [hy,hc] at h0;obtain⟨k',e1,e2,_⟩:=DataW.trod_string he h0;have h3:=congrArg (λz=>z[i]?) hx.1;simp only [jg,hk,hy,uX,fC] at h3;rw [e2] at h3;have hkk:k'.data.toList=k:=qL;subst hkk;rw [World.var?_cell hg hv i];have e3:=congrArg (λz=>z[0]?) e1
 grind[zg]
end Go.Hm
end
section
namespace Go.Hm
open Go Go.RowKit
def wd (a:Go.Act):Go.Act:={ a with defers:=[] }
def ro (v:Value):List Deferred:=match v with
 | .func fn first cap=>[{ target:=.fn fn cap,args:=first++#[] }]
 | _=>[]
def DW (X:Ctx) (t:Nat) (st:St) (a:Go.Act) (w:World):Prop:=a.defers=ro (a.tmps.getD t undef)/\Rw X st (wd a) w
def HB (X:Ctx) (t:Nat) (st:St) (a:Go.Act) (w:World) (v:Value) (x:AV):Prop:=a.defers=ro (a.tmps.getD t undef)/\em X st (wd a) w v x
section
variable {X:Ctx} {st:St} {a:Go.Act} {w:World} {K:St->Prop} {E:AV->St->Prop} {ds:List (Option Nat)} {o:Oper} {t:Nat}
theorem VL {d:Option Nat} {v:Value} (h:d≠some t):(a.put d v).tmps.getD t undef=a.tmps.getD t undef:=by
 cases d<;>simp_all[Act.put]
theorem qAF {d:Option Nat} {v:Value}:wd (a.put d v)=(wd a).put d v:=tW
theorem LF {d:Option Nat} {v:Value}:(a.put d v).defers=a.defers:=tW
theorem xM {d:Option Nat} {v:Value} {w':World} (hd:a.defers=ro (a.tmps.getD t undef)) (ht:d≠some t) (h:∃ st',Rw X st' ((wd a).put d v) w'/\K st'):∃ st',DW X t st' (a.put d v) w'/\K st':=by
 grind[LF,VL,qAF,DW]
theorem qAQ {Q:Exit->Go.Act->World->Prop} (hd:a.defers=ro (a.tmps.getD t undef)) (ht:o.dst≠some t)
  (h:o.wp X.P (wd a) w (λa' w'=>∃ st',Rw X st' a' w'/\K st') (λe _ w'=>Q e a w')):o.wp X.P a w (λa' w'=>∃ st',DW X t st' a' w'/\K st') Q:=by
 unfold Oper.wp at h ⊢;have e:(wd a).eval=a.eval:=rfl;rw [e] at h;generalize (execOp a.eval o).run X.P w=r at h ⊢;have out:LetsOut (λe (_:Go.Act) w'=>Q e a w')->LetsOut Q:=λ⟨_,w1,h1⟩=>⟨a,w1,h1⟩
 cases r with
 | ok n w' =>
  cases n with
  | value v=>exact xM hd ht h
  | skip=>exact xM hd ht h
  | defer d =>
   obtain⟨st',h2,_⟩:=h
   grind[Rg.defers,LF,Rw]
  | enter f args =>
   refine Calls.mono (show Calls X.P f args w' _ from h) λe w'' he=>?_
   cases e with
   | returned v=>exact xM hd ht he
   | panicked ch=>exact he
   | outgrown=>grind
  | row row args=>exact Rows.mono (show Rows X.P row args w' _ from h) λv w'' he=>xM hd ht he
  | _=>exact (show False from h).elim
 | halt s w' =>
  cases s with
  | panic v=>exact h
  | _=>exact (show False from h).elim
theorem qAP {ops:Array Oper} {i:Nat} {Q:Exit->Go.Act->World->Prop} (hd:a.defers=ro (a.tmps.getD t undef)) (hi:ops[i]?=some o) (ht:o.dst≠some t)
  (h:wpOp X.P ops (λe _ w'=>Q e a w') i (λa' w'=>∃ st',Rw X st' a' w'/\K st') (wd a) w):wpOp X.P ops Q i (λa' w'=>∃ st',DW X t st' a' w'/\K st') a w:=by
 unfold wpOp at h ⊢;simp only [hi] at h ⊢;have ey:yielded ops (wd a).tmps=yielded ops a.tmps:=rfl;rw [ey] at h
 split at h
 .rename_i hw;rw [if_pos hw];rcases h with h|⟨h1,_,w1,h2⟩
  .exact .inl (qAQ hd ht h)
  .exact .inr ⟨h1,a,w1,h2⟩
 .rename_i hw;rw [if_neg hw];exact xM hd ht h
theorem jm.wd {ops:Array Oper} {Q:Exit->Go.Act->World->Prop} (hQ:∀ a' w' st',DW X t st' a' w'->K st'->Q .normal a' w') (hE:∀ a' v w' st' x,HB X t st' a' w' v x->E x st'->Q (.panic [{ v:=v,recovered:=false }]) a' w') :
  ∀ (l:List Oper) (k:Nat),ops.toList.drop k=l->(∀ o∈l,o.dst≠some t)->∀ st,jm X (ops.toList.map (·.dst)) K E l st->∀ a w,DW X t st a w->wpOps X.P ops Q (List.range' k l.length) a w
 | [],k,_,_,st,h,a,w,hR=>hQ a w st hR h
 | o::l,k,hl,ht,st,h,a,w,hR=>by
  have hk:ops[k]?=some o:=by
   rw [<- bD,<- dj k,<- tL,hl];rfl
  rw [cQ,List.range'_succ,wpOps_cons];have h1:=h ops k rfl hk (Go.Hm.wd a) w (λe _ w'=>Q e a w') hR.2 (λv w' st' x h1 h2=>hE a v w' st' x ⟨hR.1,h1⟩ h2);refine wpOp_mono (λa' w' he=>?_) (qAP hR.1 hk (ht o qB) h1);obtain⟨st',hR',hK'⟩:=he;refine jm.wd hQ hE l (k+1) ?_ (λo' ho=>ht o' (by simp [ho])) st' hK' a' w' hR';rw [<- List.drop_drop,hl]
  rfl
end
section
variable {X:Ctx} {st:St} {t:Nat} {Q:Ex->St->Prop}
def nB (X:Ctx) (t:Nat) (Q:Ex->St->Prop):Exit->Go.Act->World->Prop
 | .normal,a,w=>∃ st,DW X t st a w/\Q .normal st
 | .exit id,a,w=>∃ st,DW X t st a w/\Q (.exit id) st
 | .goto l,a,w=>∃ st,DW X t st a w/\Q (.goto l) st
 | .ret,a,w=>∃ st,DW X t st a w/\Q .ret st
 | .panic ch,a,w=>∃ st v x,HB X t st a w v x/\ch=[{ v:=v,recovered:=false }]/\Q (.aj x) st
 | .outgrown,_,_=>False
def b5 (X:Ctx) (t:Nat) (c:Code) (Q:Ex->St->Prop) (st:St):Prop:=∀ a w,DW X t st a w->c.wp X.P (nB X t Q) a w
theorem qAG (h:Q .normal st):b5 X t .skip Q st:=λ_ _ hR=>wp_skip ⟨st,hR,h⟩
theorem NN (h:Q .ret st):b5 X t .ret Q st:=λ_ _ hR=>wp_ret ⟨st,hR,h⟩
theorem AX {c d:Code} (h:b5 X t c (thenS (b5 X t d Q) Q) st):b5 X t (.seq c d) Q st:=by
 intro a w hR;refine wp_seq (wp_mono (h a w hR) λe a' w' he=>?_)
 cases e with
 | normal=>obtain⟨st',hR',hQ⟩:=he;exact hQ a' w' hR'
 | exit id=>exact he
 | goto l=>exact he
 | ret=>exact he
 | panic ch=>exact he
 | outgrown=>exact he
theorem NM {c:Operand} {x y:Code} {b:Bool} (hb:ev st c=.sc (.bool b)) (h1:b=true->b5 X t x Q st) (h2:b=false->b5 X t y Q st):b5 X t (.cond c x y) Q st:=by
 intro a w hR
 have hv:a.eval c=.bool b:=by
  obtain⟨C,g,_,_,_,_,_,hr⟩:=hR.2;exact (hb ▸ hr.ev c).zi
 grind[wp_cond_split,b5]
theorem Ca {id:Nat} {ops:Array Oper} (ht:∀ o∈ops.toList,o.dst≠some t) (h:∀ K:St->Prop,(∀ s,Q .normal s->K s)->jm X (ops.toList.map (·.dst)) K (λx=>Q (.aj x)) ops.toList st):b5 X t (.region id ops false) Q st:=by
 intro a w hR;refine wp_region ?_;rw [List.range_eq_range'];have:=jm.wd (ops:=ops) (t:=t) (Q:=nB X t Q) (λa' w' st' h1 h2=>⟨st',h1,h2⟩) (λa' v w' st' x h1 h2=>⟨st',v,x,h1,rfl,h2⟩) ops.toList 0 rfl ht st (h _ (λ_ h=>h)) a w hR;omega
theorem Ψ {id:Nat} {ops:Array Oper} {l1 l2:List Oper} {od:Oper} {ats:Array TypeId} {c:Code} (hops:ops.toList=l1++od::l2) (hod:od.op=.defer ⟨.value (.tmp t),#[],ats⟩) (hdst:od.dst=none) (hg:od.guard=none)
  (ht:∀ o∈l2,o.dst≠some t)
  (h:jm X (ops.toList.map (·.dst)) (λs1=>(∃ f xs ys,s1.tm t=.fn f xs ys)/\jm X (ops.toList.map (·.dst)) (b5 X t c Q) (λx=>Q (.aj x)) l2 s1) (λ_ _=>False) l1 st) {a:Go.Act} {w:World} (hR:Rw X st a w) :
  (Code.seq (.region id ops false) c).wp X.P (nB X t Q) a w:=by
 refine wp_seq (wp_region ?_);rw [List.range_eq_range'];have hsz:ops.size=l1.length+(1+l2.length):=by grind[Array.length_toList]
 have key:∀ a' w' st',Rw X st' a' w'->((∃ f xs ys,st'.tm t=.fn f xs ys)/\jm X (ops.toList.map (·.dst)) (b5 X t c Q) (λx=>Q (.aj x)) l2 st') ->
   wpOps X.P ops (Exit.then (c.wp X.P (nB X t Q)) (nB X t Q)) (List.range' l1.length (1+l2.length)) a' w':=by
  rintro a' w' st' hR' ⟨⟨f,xs,ys,hv⟩,hl⟩
  have hk:ops[l1.length]?=some od:=by
   rw [<- bD,hops,kD (qX _)];simp
  rw [Nat.add_comm 1,List.range'_succ,wpOps_cons];obtain⟨C,g,e1,e2,e3,e4,e5,hg'⟩:=hR';have hr:=hg'.cC t;rw [hv] at hr;generalize hcv:a'.tmps.getD t undef=cv at hr;have hdf:a'.defers=[]:=hg'.defers;unfold wpOp;simp only [hk];rw [if_pos (by simp [Region.wanted,hg])];left
  cases hr with
  | fn _ vs us _ _ l1' l2' r1 r2 =>
   have hev:a'.eval (.tmp t)=.func f vs.toArray us.toArray:=hcv
   have hx:(execOp a'.eval od).run X.P w'=.ok (.defer { target:=.fn f us.toArray,args:=vs.toArray++#[] }) w':=by
    simp_all[execOp,resolve,Deferred.ofValue]
   unfold Oper.wp;rw [hx,Oper.upon_defer,hdst]
   have hDW:DW X t st' ({ a' with defers:={ target:=.fn f us.toArray,args:=vs.toArray++#[] }::a'.defers }:Go.Act) w':=by
    refine⟨?_,⟨C,g,e1,e2,e3,e4,e5,?_⟩⟩
    .grind[ro]
    .have:wd ({ a' with defers:={ target:=.fn f us.toArray,args:=vs.toArray++#[] }::a'.defers }:Go.Act)=a':=by
      obtain⟨tm,dd⟩:=a';simp only at hdf;subst hdf
      rfl
     simp_all
   refine jm.wd (ops:=ops) (t:=t) (K:=b5 X t c Q) (E:=λx=>Q (.aj x)) (λa1 w1 s1 h1 h2=>h2 a1 w1 h1) (λa1 v w1 s1 x h1 h2=>⟨s1,v,x,h1,rfl,h2⟩) l2 (l1.length+1) ?_ ht st' hl _ w' hDW
   simp_all
 have main:∀ (l:List Oper) (k:Nat),k+l.length=l1.length->(∀ j o,l[j]?=some o->ops[k+j]?=some o)->∀ s,jm X (ops.toList.map (·.dst)) (λs1=>(∃ f xs ys,s1.tm t=.fn f xs ys)/\jm X (ops.toList.map (·.dst)) (b5 X t c Q) (λx=>Q (.aj x)) l2 s1) (λ_ _=>False) l s ->
   ∀ a' w',Rw X s a' w'->wpOps X.P ops (Exit.then (c.wp X.P (nB X t Q)) (nB X t Q)) (List.range' k (l.length+(1+l2.length))) a' w':=by
  intro l
  induction l with
  | nil =>
   intro k hk hl s hs a' w' hR';simp only [gH,dj] at hk;subst hk
   simpa using key a' w' s hR' hs
  | cons o l ih =>
   intro k hk hl s hs a' w' hR';have hko:ops[k]?=some o:=hl 0 o rfl;rw [cQ,show l.length+1+(1+l2.length)=(l.length+(1+l2.length))+1 by omega,List.range'_succ,wpOps_cons];refine wpOp_mono (λa1 w1 he=>?_) (hs ops k rfl hko a' w' _ hR' (λ_ _ _ _ _ h=>h.elim));obtain⟨s1,hR1,hK1⟩:=he;exact ih (k+1) qp (λj o' ho=>by have:=hl (j+1) o' ho;grind) s1 hK1 a1 w1 hR1
 have:=main l1 0 qB (λj o ho=>by
  rw [ia,<- bD,hops,vn (gS ho).1];exact ho) st h a w hR
 simp_all
end
section
variable {c x:UInt8} {s l:q9} {i j n:Nat}
theorem Yq (hi:s[i]?=some c) (hj:j<=i) (hno:c∉(s.drop j).take (i - j)):zI c (s.drop j)=(s.drop j).take (i - j)::zI c (s.drop (i+1)):=by
 have e:s.drop j=(s.drop j).take (i - j)++c::s.drop (i+1):=by
  conv=>lhs;rw [<- pY (i - j) (s.drop j)]
  simp_all<;>grind[gO]
 grind[CU]
theorem Tr (hi:s[i]?=some x) (hx:x≠c) (hj:j<=i) (hno:c∉(s.drop j).take (i - j)):c∉(s.drop j).take (i+1 - j):=by
 rw [show i+1 - j=(i - j)+1 by omega,vM,tL,show j+(i - j)=i by omega,hi]
 grind
def yb (l:q9):Nat:=l.foldl (λn c=>10 * n+(c.toNat - 48)) 0
theorem QJ:yb (l++[c])=10 * yb l+(c.toNat - 48):=by simp [yb]
theorem I6 (hi:s[i]?=some c):yb (s.take (i+1))=10 * yb (s.take i)+(c.toNat - 48):=by
 grind[vM,yb]
theorem I5:∀ n:Nat,yb (ym n)=n
 | n=>by
  rw [ym]
  split
  .grind[yb,gh]
  .rename_i h;rw [QJ,I5 (n / 10),gh qA];omega
theorem Y5 (h:yb s<=99):jL s=if s=ym (yb s) then some (yb s) else none:=by
 split
 .grind[CQ]
 .rename_i e
  cases hs:jL s<;>grind[CQ,I5]
theorem MY (hi:s[i]?=some c) (h:¬ (48<=c.toNat/\c.toNat<=57)):jL s=none:=by
 cases hs:jL s<;>grind[CQ,Ey]
theorem Y3 (hi:i<s.length) (h:9<yb (s.take i)):jL s=none:=by
 cases hs:jL s with
 | none=>rfl
 | some n =>
  obtain⟨hn,rfl⟩:=CQ.1 hs;by_cases h10:n<10
  .simp_all[Ez,yb]
  .rw [Bs qA qA] at hi h;simp only [cQ,gH] at hi;rcases (by omega:i=0\/i=1) with rfl|rfl<;>grind[yb,gh]
end
section
variable {s:q9} {c:UInt8}
theorem MZ (h:s.length<1\/2<s.length):jL s=none:=by
 rcases s with _|⟨a,_|⟨b,_|⟨d,l⟩⟩⟩
 .rfl
 .simp at h
 .simp at h
 .rfl
theorem Y8 (hl:s.length=2) (h:s[0]?=some 48):jL s=none:=by
 rcases s with _|⟨a,_|⟨b,_|⟨d,l⟩⟩⟩<;>simp_all[jL]
theorem Y4 (h1:1<=s.length) (h2:s.length<=2) (hz:s.length=2->s[0]?≠some 48) (hd:∀ c∈s,48<=c.toNat/\c.toNat<=57):jL s=some (yb s):=by
 rcases s with _|⟨a,_|⟨b,_|⟨d,l⟩⟩⟩<;>grind[gj,jL,yb]
end
def sm (s:q9):Int:=match jL s with|some n=>n|none=>-1
theorem GH {s:q9} {n:Nat} (h:jL s=some n):sm s=n:=by simp [sm,h]
theorem sp {s:q9} (h:jL s=none):sm s=-1:=by simp [sm,h]
end Go.Hm
end
section
namespace Go.Hm
open Go Go.RowKit Go.Proofs Go.Shelf
section
variable {st:St} {H' hp:Nm->Option AO} {T e:TypeId} {l:q9} {k a b c d:Nat}
@[simp] theorem byrows_tr {f:Nm->Option Nm}:(bF l).map (λr=>r.map (AV.tr f))=bF l:=by simp [bF]
theorem Ov (h:ax H' (.u a b c) T e l):ax (st.lN (.s k) (.u a b c) d H').hp (.s k) T e l:=by
 rcases h with⟨rfl,h⟩|⟨hl,h1,h2⟩
 .exact .inl ⟨rfl,qL⟩
 .refine .inr ⟨hl,?_,?_⟩<;>simp_all
theorem H8 (h:ax st.hp (.s k) T e l):ax (vq (.u a b c) (st.move (.s k) (.u a b c)).hp) (.u a b c) T e l:=by
 rcases h with⟨rfl,h⟩|⟨hl,h1,h2⟩
 .exact .inl ⟨rfl,qL⟩
 .refine .inr ⟨hl,?_,?_⟩<;>simp_all
theorem H7 (h:ax hp (.u a b c) T e l):(hp (.u a b c)).isSome=true:=by
 rcases h with⟨_,h⟩|⟨_,h,_⟩ <;> simp [h]
end
section
variable {X:Ctx} {st:St} {K:St->Prop} {E:AV->St->Prop} {d k:Nat} {ty:TypeId} {pos:String} {aft:Array Edge} {g:Option (Nat×Bool)} {args:Array Operand} {Ts:Array TypeId} {P:Program} {ρ:Ren} {l s:q9} {f:FuncId}
abbrev Vn:Nm:=.u 3 0 0
theorem NX (k:Nat) (L:Lays.n166 X.P ρ) (Y:Builder.Extra X.P ρ) (hf:ρ.f 166=f) (hext:X.ext Vn=false) (hB:ax st.hp (.s k) (ρ.t 72) (ρ.t 5) l) (hd:d<X.n:=by first|(simp;done)|fail)
  (ha:args.toList.map (ev (st.move (.s k) Vn))=[.pt Vn 0,tx s]:=by simp [fx];first|done|rfl) (hs:s≠[]:=by first|(simp;done)|assumption) (hlen:l.length+s.length<=140737488355328:=by first|(simp;omega)|omega)
  (h:∀ st':St,st'.n=st.n->st'.gl=st.gl->(∀ t,st'.tm t=if t=d then .zT [.sc (.int .i64 s.length),.sc .nilIface] else (st.tm t).tr (eW (.s k) Vn d)) ->
    (∀ m,Nm.under (.s k) m=false->Nm.under Vn m=false->Nm.under (.s d) m=false->st'.hp m=(st.hp m).map (AO.tr (eW (.s k) Vn d))) ->
    st'.hp (.s k)=some (.vv (ρ.t 72) 2 true [[.pt (.s k) 0,.hs (.c (.s k) 0 1) 1 0 (l.length+s.length)]])->st'.hp (.c (.s k) 0 1)=some (.vv (ρ.t 5) 1 false (bF (l++s)))->K st') :
  q8 X ⟨some d,.call ⟨.value (.func f),args,Ts⟩,ty,pos,aft,g⟩ K E st:=by
 subst hf;have hB':=H8 (a:=3) (b:=0) (c:=0) hB;refine Cd (.s k) Vn (hext:=hext) (hs:=(H7 hB')) (hd:=hd) (ha:=ha) (hF:=qAS L Y X.gl Vn l s hs hlen _ hB') (h:=?_);rintro y H' ⟨rfl,hH⟩;rcases Ov (st:=st) (k:=k) (d:=d) hH with⟨e,_⟩|⟨_,e1,e2⟩
 .simp_all
 refine h _ rfl rfl (λt=>?_) (λm h1 h2 h3=>?_) (by simpa using e1) e2<;>simp_all
theorem ax.go {hp0 hp:Nm->Option AO} {V:Nm} {T e:TypeId} {l:q9} (h:ax hp0 V T e l)
  (h1:hp0 V=some (.vv T 2 true [[.sc (.pointer none),.sc (.slice none 0 0)]])->hp V=some (.vv T 2 true [[.sc (.pointer none),.sc (.slice none 0 0)]]):=by intro e;simp [e,fx])
  (h2:hp0 V=some (.vv T 2 true [[.pt V 0,.hs (.c V 0 1) 1 0 l.length]])->hp V=some (.vv T 2 true [[.pt V 0,.hs (.c V 0 1) 1 0 l.length]]):=by intro e;simp [e,fx])
  (h3:hp0 (.c V 0 1)=some (.vv e 1 false (bF l))->hp (.c V 0 1)=some (.vv e 1 false (bF l)):=by intro e;simp [e,fx]):ax hp V T e l:=by
 rcases h with⟨rfl,h⟩|⟨hl,e1,e2⟩
 .exact .inl ⟨rfl,h1 h⟩
 .exact .inr ⟨hl,h2 e1,h3 e2⟩
theorem qA4 (k:Nat) (L:Lays.n169 X.P ρ) (Y:Builder.Extra X.P ρ) (hf:ρ.f 169=f) (hext:X.ext Vn=false) (hB:ax st.hp (.s k) (ρ.t 72) (ρ.t 5) l) (hd:d<X.n:=by first|(simp;done)|fail)
  (ha:args.toList.map (ev (st.move (.s k) Vn))=[.pt Vn 0]:=by simp [fx];first|done|rfl)
  (h:K ((st.lN (.s k) Vn d jv).put (some d) (tx l))) :
  q8 X ⟨some d,.call ⟨.value (.func f),args,Ts⟩,ty,pos,aft,g⟩ K E st:=by
 subst hf;have hB':=H8 (a:=3) (b:=0) (c:=0) hB;refine Cd (.s k) Vn (hext:=hext) (hs:=(H7 hB')) (hd:=hd) (ha:=ha) (hF:=ZO L Y X.gl Vn l _ hB') (h:=?_)
 simp_all
end
def gB (x:AV):Prop:=∃ t y,x=.zp t y/\(y=.agg []\/∃ v,y=.sc v)
def cT (Q:Prop):Nm->AV->(Nm->Option AO)->Prop:=λ_ x _=>gB x/\Q
theorem gB.tr {x:AV} (h:gB x) {f:Nm->Option Nm}:gB (x.tr f):=by
 obtain⟨t,y,rfl,h⟩:=h;refine⟨t,y.tr f,rfl,?_⟩;rcases h with rfl|⟨v,rfl⟩<;>simp_all
section
variable {X:Ctx} {st:St} {K:St->Prop} {E:AV->St->Prop} {d f:Nat} {ty:TypeId} {pos:String} {aft:Array Edge} {g:Option (Nat×Bool)} {args:Array Operand} {Ts:Array TypeId} {bs:List AV} {R:Nm->AV->(Nm->Option AO)->Prop} {Q:Prop}
theorem uS (U:Nm) (hU:U.z7=true) (hext:X.ext U=true->st.hp U≠none) (hd:d<X.n:=by first|(simp;done)|fail) (ha:args.toList.map (ev st)=bs:=by simp [fx];first|done|rfl)
  (hF:qV X.P X.gl f (Nm.under U) bs (vq U st.hp) R (cT Q)) (hE:∀ x s,gB x->Q->E x s) (h:∀ y H',R (.s d) y H'->K ((st.call d (Nm.under U) (vq U st.hp) H').put (some d) y)) :
  q8 X ⟨some d,.call ⟨.value (.func f),args,Ts⟩,ty,pos,aft,g⟩ K E st:=by
 subst ha;refine iu (D:=Nm.under U) (H:=vq U st.hp) (R:=R) (E0:=cT Q) hF (mc hF.1 rfl) false ⟨rfl,λj a a' h h'=>?_⟩ (λn hn=>?_) (λn hn=>?_) (λn hn=>?_) (λk i j he=>?_) (λe he=>qL) (λx H' hR=>?_) (λx H' hx=>hE _ _ hx.1 hx.2)
 .rw [h] at h';obtain rfl:=sI h';exact .refl _
 .cases hx:Nm.under U n with
  | false=>rfl
  | true =>
   have h1:=yq hU hx;have h2:=Nm.l9 (a:=.s d) rfl hn
   simp_all
 .simp_all
 .simp_all
 .grind[Nm.under,vq]
 simp_all
theorem AZ (N V:Nm) (hV:V.z7=true:=by rfl) (hN:N.z7=false:=by rfl) (hNV:Nm.under V N=false:=by first|(simp;done)|fail) (hext:X.ext V=false) (hs:(vq V (st.move N V).hp V).isSome=true) (hd:d<X.n:=by first|(simp;done)|fail)
  (ha:args.toList.map (ev (st.move N V))=bs:=by simp [fx];first|done|rfl)
  (hF:qV X.P X.gl f (Nm.under V) bs (vq V (st.move N V).hp) R (cT Q)) (hE:∀ x s,gB x->Q->E x s) (h:∀ y H',R (.s d) y H'->K ((st.lN N V d H').put (some d) (y.tr (mv V N)))) :
  q8 X ⟨some d,.call ⟨.value (.func f),args,Ts⟩,ty,pos,aft,g⟩ K E st:=by
 refine kH N V (.inl hN) (.inr hext) (oz V N (.inr hext) (.inl hN) ?_)
 grind[uS,KR]
theorem qA2 (hd:d<X.n:=by first|(simp;done)|fail) (ha:args.toList.map (ev st)=bs:=by simp [fx];first|done|rfl) (hF:qV X.P X.gl f zf bs jv R (cT Q)) (hE:∀ x s,gB x->Q->E x s) (h:∀ y H',R (.s d) y H'->K ((st.call d zf jv H').put (some d) y)) :
  q8 X ⟨some d,.call ⟨.value (.func f),args,Ts⟩,ty,pos,aft,g⟩ K E st:=by
 subst ha;refine iu (D:=zf) (H:=jv) (R:=R) (E0:=cT Q) hF (mc hF.1 rfl) false ⟨rfl,λj a a' h h'=>?_⟩ (λ_ _=>rfl) (λn hn=>by cases hn) (λn hn=>absurd rfl hn) (λk i j _=>.inl rfl) (λe he=>qL) (λx H' hR=>?_) (λx H' hx=>hE _ _ hx.1 hx.2)
 .rw [h] at h';obtain rfl:=sI h';exact .refl _
 simp_all
end
end Go.Hm
end
section
namespace Go.Hm
open Go Go.RowKit
section
variable {X:Ctx} {st:St} {K:St->Prop} {E:AV->St->Prop} {d:Nat} {ty:TypeId} {pos:String} {aft:Array Edge} {g:Option (Nat×Bool)} {f:Nat} {args:Array Operand} {Ts:Array TypeId} {bs:List AV}
theorem eO {x:AV} (hd:d<X.n:=by first|(simp;done)|fail) (ha:args.toList.map (ev st)=bs:=by simp [fx];first|done|rfl|exact (vW _).symm)
  (hF:qM X.P X.gl f bs (λ_ y _=>y=x)) (h:K ((st.kill (.s d)).put (some d) x)):q8 X ⟨some d,.call ⟨.value (.func f),args,Ts⟩,ty,pos,aft,g⟩ K E st:=by
 refine q8.nO (NW (K:=λs=>∃ H',s=(st.call d zf jv H').put (some d) x) hd ha hF ?_) ?_
 .rintro y H' rfl
  grind
 .rintro s ⟨H',rfl⟩;refine⟨(st.kill (.s d)).hp,λm ob e=>?_,?_⟩<;>simp_all[St.kill,St.nm,jG,St.put,St.call,oX]
theorem HW {P:Program} {T:TypeId} {zs:List AV} (_hq:yJ P T=some zs) (h:q8 X ⟨some d,.alloc T,ty,pos,aft,g⟩ K E st):q8 X ⟨some d,.alloc T,ty,pos,aft,g⟩ K E st:=h
end
theorem j5 {G G':Prop} (k:G') (h:jP G'->G:=by
 intro kk
 repeat' (first
  | refine wu ?_|refine bV ?_|refine au ?_|refine nN ?_|refine bW λK hK=>?_
  | ((with_reducible refine kJ hK ?_);clear hK K)|(with_reducible refine kJ hK ?_)
  | (with_reducible first|refine wt ?_|refine bm ?_|refine cE ?_|refine bl ?_|refine aq ?_|refine bN ?_|refine fp ?_|refine bn qc ?_)
  | refine cF ?_
  | refine bX ?_
  | (with_reducible refine wQ ?_)
  | ((with_reducible refine lD ?_);refine lg (h:=?_))
  | (with_reducible first|refine lF ?_|refine lE ?_|refine li (h:=?_)|refine lf (h:=?_)|refine lj (h:=?_)|refine bY (h:=?_)|refine dh (h:=?_)|refine fz (h:=?_)|refine cG (h:=?_)|refine pP (h:=?_)|refine dC (h:=?_)|refine iP (h:=?_)|refine nP (h:=?_)|refine dD (h:=?_))
  | ((with_reducible refine HW b1 ?_);refine NT (hq:=b1) (h:=?_))|(with_reducible refine fw (h:=?_))
  | ((with_reducible refine zX c1 rfl ?_);refine ve (hF:=c1) (h:=?_))
  | ((with_reducible refine zX c2 rfl ?_);refine ve (hF:=c2) (h:=?_))
  | ((with_reducible refine zX c3 rfl ?_);refine ve (hF:=c3) (h:=?_))
  | ((with_reducible refine zX c4 rfl ?_);refine ve (hF:=c4) (h:=?_))
  | ((with_reducible refine zX c5 rfl ?_);refine ve (hF:=c5) (h:=?_))
  | ((with_reducible refine zX c6 rfl ?_);refine ve (hF:=c6) (h:=?_))
  | ((with_reducible refine zX d1 rfl ?_);refine wL (hF:=d1) (h:=?_))
  | ((with_reducible refine zX d2 rfl ?_);refine wL (hF:=d2) (h:=?_))
  | ((with_reducible refine zX d3 rfl ?_);refine wL (hF:=d3) (h:=?_))
  | ((with_reducible refine zX d4 rfl ?_);refine wL (hF:=d4) (h:=?_))
  | ((with_reducible refine zX e1 rfl ?_);refine gr (hF:=e1) (h:=?_))
  | ((with_reducible refine zX e2 rfl ?_);refine gr (hF:=e2) (h:=?_))
  | ((with_reducible refine zX p1 rfl ?_);refine eO (hF:=p1) (h:=?_))
  | ((with_reducible refine zX p2 rfl ?_);refine eO (hF:=p2) (h:=?_))
  | ((with_reducible refine zX p3 rfl ?_);refine eO (hF:=p3) (h:=?_))
  | ((with_reducible refine zX p4 rfl ?_);refine eO (hF:=p4) (h:=?_))
  | ((with_reducible refine zX p5 rfl ?_);refine eO (hF:=p5) (h:=?_))
  | ((with_reducible refine zX p6 rfl ?_);refine eO (hF:=p6) (h:=?_))
  | (with_reducible refine ww (h:=?_))
  | (with_reducible refine yd (λht=>?_) (λht=>?_))
  | refine cI (h1:=?_)|refine cH (h1:=?_)
  | ((with_reducible refine cO hK ?_);clear hK K)|(with_reducible refine cO hK ?_)
  | ((with_reducible refine aV ?_);first|refine ll (h:=?_)|refine nT (h:=?_)|refine nS (h:=?_)|refine nU (h:=?_))
  | ((with_reducible refine aV ?_);refine nR (h1:=λht=>?_) (h2:=λht=>?_))
  | refine iY rfl ?_|refine lw ?_ ?_|refine lz ?_ ?_ ?_|(with_reducible refine aI ?_ ?_)|exact iK|refine iQ (h2:=?_)
  | fail)
 first|exact kk.h|(revert hK;revert K;exact kk.h)):G:=h ⟨k⟩
theorem kn {G G':Prop} (k:G') (h:jP G'->G:=by
 intro kk K hK
 repeat' (first
  | refine wu ?_|refine bV ?_|refine au ?_|refine nN ?_|refine bW λK hK=>?_
  | ((with_reducible refine kJ hK ?_);clear hK K)|(with_reducible refine kJ hK ?_)
  | (with_reducible first|refine wt ?_|refine bm ?_|refine cE ?_|refine bl ?_|refine aq ?_|refine bN ?_|refine fp ?_|refine bn qc ?_)
  | refine cF ?_
  | refine bX ?_
  | (with_reducible refine wQ ?_)
  | ((with_reducible refine lD ?_);refine lg (h:=?_))
  | (with_reducible first|refine lF ?_|refine lE ?_|refine li (h:=?_)|refine lf (h:=?_)|refine lj (h:=?_)|refine bY (h:=?_)|refine dh (h:=?_)|refine fz (h:=?_)|refine cG (h:=?_)|refine pP (h:=?_)|refine dC (h:=?_)|refine iP (h:=?_)|refine nP (h:=?_)|refine dD (h:=?_))
  | ((with_reducible refine HW b1 ?_);refine NT (hq:=b1) (h:=?_))|(with_reducible refine fw (h:=?_))
  | ((with_reducible refine zX c1 rfl ?_);refine ve (hF:=c1) (h:=?_))
  | ((with_reducible refine zX c2 rfl ?_);refine ve (hF:=c2) (h:=?_))
  | ((with_reducible refine zX c3 rfl ?_);refine ve (hF:=c3) (h:=?_))
  | ((with_reducible refine zX c4 rfl ?_);refine ve (hF:=c4) (h:=?_))
  | ((with_reducible refine zX c5 rfl ?_);refine ve (hF:=c5) (h:=?_))
  | ((with_reducible refine zX c6 rfl ?_);refine ve (hF:=c6) (h:=?_))
  | ((with_reducible refine zX d1 rfl ?_);refine wL (hF:=d1) (h:=?_))
  | ((with_reducible refine zX d2 rfl ?_);refine wL (hF:=d2) (h:=?_))
  | ((with_reducible refine zX d3 rfl ?_);refine wL (hF:=d3) (h:=?_))
  | ((with_reducible refine zX d4 rfl ?_);refine wL (hF:=d4) (h:=?_))
  | ((with_reducible refine zX e1 rfl ?_);refine gr (hF:=e1) (h:=?_))
  | ((with_reducible refine zX e2 rfl ?_);refine gr (hF:=e2) (h:=?_))
  | ((with_reducible refine zX p1 rfl ?_);refine eO (hF:=p1) (h:=?_))
  | ((with_reducible refine zX p2 rfl ?_);refine eO (hF:=p2) (h:=?_))
  | ((with_reducible refine zX p3 rfl ?_);refine eO (hF:=p3) (h:=?_))
  | ((with_reducible refine zX p4 rfl ?_);refine eO (hF:=p4) (h:=?_))
  | ((with_reducible refine zX p5 rfl ?_);refine eO (hF:=p5) (h:=?_))
  | ((with_reducible refine zX p6 rfl ?_);refine eO (hF:=p6) (h:=?_))
  | (with_reducible refine ww (h:=?_))
  | (with_reducible refine yd (λht=>?_) (λht=>?_))
  | refine cI (h1:=?_)|refine cH (h1:=?_)
  | ((with_reducible refine cO hK ?_);clear hK K)|(with_reducible refine cO hK ?_)
  | ((with_reducible refine aV ?_);first|refine ll (h:=?_)|refine nT (h:=?_)|refine nS (h:=?_)|refine nU (h:=?_))
  | ((with_reducible refine aV ?_);refine nR (h1:=λht=>?_) (h2:=λht=>?_))
  | refine iY rfl ?_|refine lw ?_ ?_|refine lz ?_ ?_ ?_|(with_reducible refine aI ?_ ?_)|exact iK|refine iQ (h2:=?_)
  | fail)
 first|exact kk.h|(revert hK;revert K;exact kk.h)):G:=h ⟨k⟩
section
variable {P:Program} {gl:Nat->Option (List AV)} {f:FuncId} {D:Nm->Bool} {bs:List AV} {H:Nm->Option AO} {R:Nm->AV->(Nm->Option AO)->Prop}
theorem Mp {o:Oper} {a:Go.Act} {w:World} {N:Go.Act->World->Prop} {T:TypeId} {x y:Operand} (h:o.wp P a w N (λ_ _ _=>False)) (ho:o.op=.store T x y) (hd:o.dst=none):∃ w1,(Instr.storeAt T (a.eval x) (a.eval y)).run P w=.ok () w1/\N a w1:=by
 unfold Oper.wp at h;simp only [execOp,ho,Sem.run_bind] at h
 cases hr:(Instr.storeAt T (a.eval x) (a.eval y)).run P w with
 | ok u w1 =>
  rw [hr] at h;refine⟨w1,rfl,?_⟩;simp only [Result.andThen_ok,Sem.run_pure,Oper.upon_skip,hd] at h;exact h
 | halt s w1 =>
  rw [hr] at h
  cases s <;> exact (show False from h).elim
def Fi (P:Program) (D:Nm->Bool) (root:Nm) (rs:List ResultVar) (R:Nm->AV->(Nm->Option AO)->Prop) (st:St):Prop:=∃ sbs xs,dH D root sbs/\wj P st rs=some xs/\R root ((fo xs).tr (zE D sbs)) (vd D sbs st.hp)
def QD (X:Ctx) (P:Program) (D:Nm->Bool) (root:Nm) (rs:List ResultVar) (R:Nm->AV->(Nm->Option AO)->Prop) (t F s1 s2:Nat) (n1 n2:Nm) (o1 o2:Oper):Ex->St->Prop
 | .ret,st=>st.tm t=.fn (.func F) [] [.pt n1 0,.pt n2 0]/\Fi P D root rs R st
 | .aj x,st=>st.tm t=.fn (.func F) [] [.pt n1 0,.pt n2 0]/\st.tm s1=.pt n1 0/\st.tm s2=.pt n2 0/\gB x/\q8 X o1 (q8 X o2 (Fi P D root rs R) (λ_ _=>False)) (λ_ _=>False) st
 | _,_=>False
theorem Ls {C:Nat->Prop} {w:World} {g:Gh} {n:Nat} {root:Nm} {fn:Func} {rs:List ResultVar} {st:St} {a:Go.Act} {w':World} (hrs:fn.results.toList=rs) (hroot:∀ m,Nm.under root m=true->D m=false) (hHD:∀ m,H m≠none->D m=true) (hD:∀ m,D m=true->m.zo=false)
  (hR:Rw (jb P C w g H n gl) st a w') (hq:Fi P D root rs R st) :
  a.defers=[]/\∃ v,(results fn a.tmps).run P w'=.ok v w'/\∃ C' g' H' x,cK (vS g H) C w g D root H H' C' g' w'/\RV g' w' v x/\R root x H':=by
 have key:∀ {st:St} {a:Go.Act} {w':World} {C':Nat->Prop} {g1:Gh} (sbs:List (Nm×Nm)),dH D root sbs->(∀ b,C b->C' b)->(∀ b,C' b->C b\/w.heap.size<=b\/vS g H b)->iT (jb P C w g H n gl) g1->Rg P (vS g H) C' w g1 st a w' ->
   ∃ g',cK (vS g H) C w g D root H (vd D sbs st.hp) C' g' w'/\∀ v x,RV g1 w' v x->RV g' w' v (x.tr (zE D sbs)):=by
  intro st a w' C' g1 sbs hok hC1 hC2 hext hr;have hinj:=ER (D:=D) hroot hok.sw hok.bM
  let g':Gh:={ C:=g1.C,φ:=λm=>if D m||Nm.under root m then (g1.tr (zE D sbs)).φ m else g.φ m,κ:=λm=>if D m||Nm.under root m then (g1.tr (zE D sbs)).κ m else g.κ m }
  have img:∀ m m',zE D sbs m=some m'->(D m'||Nm.under root m')=true:=by
   intro m m' e;rcases EQ hok.sw e with⟨h1,rfl⟩|⟨p,hp,hp2⟩
   .simp [h1]
   .simp [Nm.C6 (hok.sw p hp) hp2]
  have gf:∀ m m',zE D sbs m=some m'->g'.φ m'=g1.φ m/\g'.κ m'=g1.κ m:=by
   grind[Gh.ec]
  have old:∀ m' o',vd D sbs st.hp m'=some o'->∃ m o,zE D sbs m=some m'/\st.hp m=some o/\o'=o.tr (zE D sbs):=by
   intro m' o' e;unfold vd at e
   split at e
   .rename_i hm;obtain⟨o,e1,rfl⟩:=zg.1 e;exact⟨m',o,md hD hm hok.src,e1,rfl⟩
   grind[zg]
  have hs:=hr.step (g':=g') (w':=w') (f:=zE D sbs) (hp':=vd D sbs st.hp) rfl gf rfl rfl rfl (qX _) (λ_ _=>rfl) (λ_ _ _=>rfl) (λm' o' e=>by
   grind)
  refine⟨g',⟨hC1,hC2,hs.inv,λm hm=>?_,λm h1 h2=>qp,λk i j hk=>?_⟩,λv x hv=>hr.rv (g':=g') rfl (λ_ _=>rfl) gf hv⟩
  .obtain⟨o',ho'⟩:=cS.1 hm
   grind
  .have hd:=hHD _ hk;obtain⟨x1,x2⟩:=gf _ _ (md hD hd hok.src)
   have he:(jb P C w g H n gl).ext (.u k i j)=true:=by
    obtain⟨o',ho'⟩:=cS.1 hk
    grind[jb]
   obtain⟨y1,y2⟩:=hext k i j he;exact⟨x1.trans y1,x2.trans y2⟩
 obtain⟨C',g1,h1,h2,_,_,h5,hr⟩:=hR;obtain⟨sbs,xs,hok,hx,hRx⟩:=hq;obtain⟨g',k1,k2⟩:=key sbs hok h1 h2 h5 hr;obtain⟨v,hrun,hv⟩:=Lo (fn:=fn) hr (by rw [hrs];exact hx);exact⟨hr.defers,v,hrun,C',g',_,_,k1,k2 v _ hv,hRx⟩
theorem Lq {g:Gh} {w:World} {v:Value} {F:FuncId} {n1 n2:Nm} (h:RV g w v (.fn (.func F) [] [.pt n1 0,.pt n2 0])) :
  ∃ b1 b2,v=.func (.func F) #[] #[.pointer (some ⟨b1,0,none⟩),.pointer (some ⟨b2,0,none⟩)]/\g.φ n1=some b1/\g.φ n2=some b2:=by
 cases h with
 | fn _ vs us _ _ l1 l2 r1 r2 =>
  obtain rfl:=aX (by simpa using l1);rcases us with _|⟨u1,_|⟨u2,_|⟨u3,tl⟩⟩⟩
  .simp at l2
  .simp at l2
  .have q1:=r2 0 u1 _ rfl rfl;have q2:=r2 1 u2 _ rfl rfl
   cases q1 with
   | pt _ _ b1 k1 =>
   cases q2<;>grind
  simp_all
theorem Lr {g:Gh} {w:World} {v:Value} {n:Nm} (h:RV g w v (.pt n 0)):∃ b,v=.pointer (some ⟨b,0,none⟩)/\g.φ n=some b:=by
 cases h<;>grind
theorem qV.UL {fn:Func} {c:Code} {rs:List ResultVar} {n t F s1 s2:Nat} {T1 T2:TypeId} {v1 v2:Value} {n1 n2:Nm} {o1 o2:Oper}
  (hf:P.funcs[f]?=some fn) (hb:fn.body=some c) (hname:(fn.name == "runtime.NumGoroutine")=false) (hrs:fn.results.toList=rs) (hn:fn.ntmps=n) (hle:bs.length<=n) (hD:∀ m,D m=true->m.zo=false) (hF:iR P F)
  (ho1:o1.op=.store T1 (.tmp s1) (.const v1)) (hd1:o1.dst=none) (ho2:o2.op=.store T2 (.tmp s2) (.const v2)) (hd2:o2.dst=none)
  (idle:∀ (b1 b2:Nat) (w:World),CallsD P F #[.pointer (some ⟨b1,0,none⟩),.pointer (some ⟨b2,0,none⟩)] .returning w λe u' w'=>e=.returned (.tuple #[])/\u'=.returning/\w'=w)
  (catch_:∀ (b1 b2:Nat) (ty:TypeId) (pv:Value) (w w1 w2:World),(Instr.storeAt T1 (.pointer (some ⟨b1,0,none⟩)) v1).run P w=.ok () w1->(Instr.storeAt T2 (.pointer (some ⟨b2,0,none⟩)) v2).run P w1=.ok () w2 ->
    CallsD P F #[.pointer (some ⟨b1,0,none⟩),.pointer (some ⟨b2,0,none⟩)] (.panicking [{ v:=.iface ty pv,recovered:=false }]) w λe u' w'=>e=.returned (.tuple #[])/\u'=.panicking [{ v:=.iface ty pv,recovered:=true }]/\w'=w2)
  (h:∀ C w g root,(∀ m,Nm.under root m=true->D m=false)->∀ a w',Rw (jb P C w g H n gl) (ky bs H n gl) a w'->c.wp P (nB (jb P C w g H n gl) t (QD (jb P C w g H n gl) P D root rs R t F s1 s2 n1 n2 o1 o2)) a w'):qV P gl f D bs H R qy:=by
 refine⟨⟨fn,hf,hname,qp⟩,λroot C w g args hroot hru hHD hinv hgl hsz hargs=>?_⟩
 have hstart:Rw (jb P C w g H n gl) (ky bs H n gl) { tmps:=args++Array.replicate (fn.ntmps - args.size) undef,defers:=[] } w:=by
  refine⟨C,g,λ_ h=>h,λ_ h=>.inl h,rfl,rfl,λ_ _ _ _=>⟨rfl,rfl⟩,hinv,rfl,?_,?_,hgl⟩
  .grind[ky]
  .intro t;simp only [ky];by_cases ht:t<args.size
   .have h1:bs[t]?=some (bs[t]' qA):=gE _
    have h2:(args++Array.replicate (fn.ntmps - args.size) undef).getD t undef=args[t]:=by
     rw [mF,Array.getElem?_append_left ht,ib ht];rfl
    grind
   .have h1:bs[t]?=none:=fD qA
    have h2:(args++Array.replicate (fn.ntmps - args.size) undef).getD t undef=undef:=by
     rw [mF,Array.getElem?_append_right qA,Array.getElem?_replicate]
     grind
    rw [h2,bC,h1];exact RV.sc _
 refine calls_of_wp_defers hf hb (wp_mono (h C w g root hroot _ _ hstart) λe a w' he=>?_)
 have inv:∀ b1 b2:Nat,∀ w0:World,(invoke (.fn (.func F) #[.pointer (some ⟨b1,0,none⟩),.pointer (some ⟨b2,0,none⟩)]) (#[]++#[])).run P w0=.ok (.enter F #[.pointer (some ⟨b1,0,none⟩),.pointer (some ⟨b2,0,none⟩)]) w0:=by
  grind[invoke,CH]
 cases e with
 | ret =>
  obtain⟨st,⟨hdf,hR⟩,hfn,hq⟩:=he;obtain⟨hd0,v,hrun,hrest⟩:=Ls hrs hroot hHD hD hR hq
  have hv:∃ b1 b2,a.tmps.getD t undef=.func (.func F) #[] #[.pointer (some ⟨b1,0,none⟩),.pointer (some ⟨b2,0,none⟩)]:=by
   obtain⟨C',g1,_,_,_,_,_,hr⟩:=hR;have hs:=hr.cC t;rw [hfn] at hs;obtain⟨b1,b2,e,_⟩:=Lq hs;exact⟨b1,b2,e⟩
  obtain⟨b1,b2,hv⟩:=hv;rw [hv] at hdf
  show Leaves P fn a.tmps _ a.defers .returning w'
  rw [hdf];refine leaves_cons qB (inv b1 b2 w') ((idle b1 b2 w').mono ?_);rintro e u' w'' ⟨rfl,rfl,rfl⟩;exact⟨v,hrun,hrest⟩
 | panic ch =>
  obtain⟨st,v,x,⟨hdf,hRV⟩,rfl,hfn,hs1,hs2,hbad,hop⟩:=he;obtain⟨C',g1,q1,q2,q3,q4,q5,hr,hvx⟩:=hRV;have hR:Rw (jb P C w g H n gl) st (wd a) w':=⟨C',g1,q1,q2,q3,q4,q5,hr⟩;obtain⟨b1,b2,hv,k1,k2⟩:=Lq (by have:=hr.cC t;rwa [hfn] at this)
  have e1:(wd a).eval (.tmp s1)=.pointer (some ⟨b1,0,none⟩):=by
   have:=hr.cC s1;rw [hs1] at this;obtain⟨b,e,hb⟩:=Lr this;rw [k1] at hb;obtain rfl:=sI hb;exact e
  have e2:(wd a).eval (.tmp s2)=.pointer (some ⟨b2,0,none⟩):=by
   have:=hr.cC s2;rw [hs2] at this;obtain⟨b,e,hb⟩:=Lr this;rw [k2] at hb;obtain rfl:=sI hb;exact e
  obtain⟨w1,r1,st1,hR1,hop2⟩:=Mp (hop (wd a) w' (λ_ _ _=>False) hR (λ_ _ _ _ _ h=>h.elim)) ho1 hd1;obtain⟨w2,r2,st2,hR2,hq⟩:=Mp (hop2 (wd a) w1 (λ_ _ _=>False) hR1 (λ_ _ _ _ _ h=>h.elim)) ho2 hd2;rw [e1] at r1;rw [e2] at r2;obtain⟨hd0,u,hrun,hrest⟩:=Ls hrs hroot hHD hD hR2 hq;obtain⟨ty,y,rfl,_⟩:=hbad
  cases hvx with
  | zp _ pv _ hpv =>
   have hv':a.tmps.getD t undef=.func (.func F) #[] #[.pointer (some ⟨b1,0,none⟩),.pointer (some ⟨b2,0,none⟩)]:=hv;rw [hv'] at hdf
   show Leaves P fn a.tmps _ a.defers (.panicking _) w'
   rw [hdf];refine leaves_cons qB (inv b1 b2 w') ((catch_ b1 b2 ty pv w' w1 w2 r1 r2).mono ?_);rintro e u' w'' ⟨rfl,rfl,rfl⟩;exact⟨u,hrun,hrest⟩
 | normal=>obtain⟨_,_,hQ⟩:=he;exact hQ.elim
 | exit id=>obtain⟨_,_,hQ⟩:=he;exact hQ.elim
 | goto l=>obtain⟨_,_,hQ⟩:=he;exact hQ.elim
 | outgrown=>exact he.elim
end
end Go.Hm
end
section

end
