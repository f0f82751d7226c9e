import Derived.Test.YtjgpejikjhojcaaGreatDoorT17
import Derived.Handed
import Derived.HandedShaped
import Derived.Shelf.Vars
import Derived.Lib.AppendIntMem
import Derived.Lib.LaidTab
set_option linter.unusedSimpArgs false
set_option linter.unusedVariables false
set_option maxRecDepth 100000
set_option maxHeartbeats 4000000

section
namespace Go.Hm
open Go Go.RowKit
@[simp] theorem xrows_cln {ws:List q9}:(ue ws).all (λr=>r.all AV.jE)=true:=by simp [ue,AV.jE]
@[simp] theorem bldSt_eq {T:TypeId} {d:Nat} {st:St}:DD T d st=((st.kill (.s d)).zS (.s d) (.vv T 2 true [[.sc (.pointer none),.sc (.slice none 0 0)]])).put (some d) (.pt (.s d) 0):=rfl
section
variable {n:Int} {ns:List Int} {s:qP} {k:qT} {p:qC} {w:q9} {ls:List q9} {b i:Nat}
theorem xf (h:0<=n/\n<=99):(jT n).length<=2:=by
 obtain⟨m,rfl⟩:∃ m:Nat,n=m:=⟨n.toNat,qA⟩
 grind[sS,Ez,Bs]
theorem qAK:vw w (ns++[n])=vw w ns++32::jT n:=by simp [vw]
theorem qAL (hi:ns[i]?=some n):vw w (ns.take (i+1))=vw w (ns.take i)++32::jT n:=by
 grind[vM,qAK]
theorem Gb (h:b6 ns):(vw w ns).length<=w.length+3 * ns.length:=by
 induction ns with
 | nil=>simp [vw]
 | cons n ns ih =>
  have h1:=ih λx hx=>h x (by simp [hx]);have h2:=xf (h n qB)
  grind[vw]
theorem Y7 (h:b6 ns):b6 (ns.take i):=λx hx=>h x (gJ hx)
theorem K6:(dT s).length<=3:=by
 grind[dT]
theorem Mk:∀ i,i<12->0<(yM.getD i []).length/\(yM.getD i []).length<=8:=qc
theorem MN (h:vG s):0<(bR s).length/\(bR s).length<=17:=by
 have h1:=Mk s.kind.toNat (by have:=h.kind;omega)
 grind[Gb,vG.K5,K6,bR,vw]
theorem sJ:jO 10 (ls++[w])=jO 10 ls++(w++[10]):=xB
theorem Ee (h:∀ w∈ls,w.length<=100):(jO 10 ls).length<=101 * ls.length:=by
 induction ls<;>grind[jO]
structure gG (p:qC):Prop where
 ar:ew p
 len:p.length<=7
 par:∀ k∈p,k.params.length<=1
 body:∀ k∈p,k.body.length<=1048576
theorem gG.of (hp:zq p) (hs:uA p):gG p:=by
 refine⟨.of hp,hp.sh.len.2,λk hk=>?_,λk hk=>?_⟩
 .obtain⟨i,hi⟩:=kB hk;have h0:=hp.sh.head i k hi
  grind
 .obtain⟨i,hi⟩:=kB hk;exact (hs.uu hi).body
theorem MM (h:pT k) (hp:k.params.length<=1):0<(wl k).length/\(wl k).length<=17:=by
 grind[xf,pT.parent,Gb,vw,wn,wm,pT.params,wl,cQ,bT]
def wI (p:qC) (b:Nat):List q9:=((p.mapIdx gQ).take b).flatten
theorem BS:wI p 0=[]:=rfl
theorem EV (hk:p[b]?=some k):wI p (b+1)=wI p b++gQ b k:=by
 grind[wI,vM]
theorem EU:wI p p.length=gi p:=by
 grind[wI,gi,yU]
def wE (b:Nat) (k:qT) (i:Nat):List q9:=(if b=0 then [] else [wl k])++(k.body.take i).map bR
theorem Ha:wE b k k.body.length=gQ b k:=by simp [wE,gQ]
theorem Oy (hs:k.body[i]?=some s):wE b k (i+1)=wE b k i++[bR s]:=by
 grind[wE,vM]
theorem Hb (hp:gG p) (hk:p[b]?=some k):(∀ w∈wE b k i,w.length<=100)/\(wE b k i).length<=1048577:=by
 have hm:=gM hk;constructor
 .intro w hw;unfold wE at hw;rw [jo] at hw;rcases hw with hw|hw
  .split at hw
   .cases hw
   .rw [yj] at hw;subst hw;have:=(MM (hp.ar.jR b k hk qA) (hp.par k hm)).2;omega
  .obtain⟨s,hs,rfl⟩:=wU.1 hw;have:=(MN (hp.ar.cx k hm s (gJ hs))).2;omega
 .have:=hp.body k hm
  grind[wE]
theorem BR (hp:gG p):∀ b,b<=p.length->(∀ w∈wI p b,w.length<=100)/\(wI p b).length<=1048577 * b
 | 0,_=>by simp [BS]
 | b+1,hb=>by
  obtain⟨h1,h2⟩:=BR hp b qA;obtain⟨k,hk⟩:∃ k,p[b]?=some k:=⟨_,gE qA⟩;rw [EV hk,<- Ha]
  grind[Hb]
theorem Qd (hp:gG p) (hk:p[b]?=some k):(jO 10 (wI p b++wE b k i)).length<=1000000000:=by
 grind[BR,Hb,gG.len,Ee]
theorem Qe (hp:gG p) (hb:b<=p.length):(jO 10 (wI p b)).length<=1000000000:=by
 grind[BR,gG.len,Ee]
end
section
variable {X:Ctx} {st:St} {K:St->Prop} {E:AV->St->Prop} {ty:TypeId} {pos:String} {aft:Array Edge} {g:Option (Nat×Bool)} {dst:Option Nat} {x:Operand} {t:TypeId} {y:AV}
theorem tB (hx:ev st x=.zp t y:=by simp [fx];first|done|rfl) (h:E (.zp t y) st):q8 X ⟨dst,.panic x,ty,pos,aft,g⟩ K E st:=by
 intro a w Q hR hQ;have hR':=hR;obtain⟨C,g1,h1,h2,h3,h4,h5,hg⟩:=hR;have hv:=hg.ev x;rw [hx] at hv;have hv':=hv;generalize hu:a.eval x=u at hv
 cases hv with
 | zp _ v _ hv1 =>
  have hrun:(execOp a.eval (⟨dst,.panic x,ty,pos,aft,g⟩:Oper)).run X.P w=.halt (.panic (.iface t v)) w:=by
   simp [execOp,hu,run_panic_iface]
  unfold Oper.wp;rw [hrun,Oper.upon_panic];refine hQ _ w st (.zp t y) ⟨C,g1,h1,h2,h3,h4,h5,hg,?_⟩ h
  simp_all
end
theorem QI {s:q9} (hl:s.length<=1) (h:∀ c∈s,48<=c.toNat/\c.toNat<=57):yb s<=9:=by
 rcases s with _|⟨a,_|⟨b,l⟩⟩<;>grind[yb]
theorem AI {c:UInt8} {s:q9}:(zI c s).length<=s.length+1:=by
 induction s<;>grind[zI]
theorem AJ {c:UInt8} {s:q9}:∀ w∈zI c s,w.length<=s.length:=by
 induction s<;>grind[zI]
def US (K:St->Prop):Ex->St->Prop
 | .normal,s=>K s
 | _,_=>False
section
variable {X:Ctx} {st:St} {K:St->Prop} {E:AV->St->Prop} {d f:Nat} {ty:TypeId} {pos:String} {aft:Array Edge} {g:Option (Nat×Bool)} {args:Array Operand} {Ts:Array TypeId} {bs:List AV} {R:Nm->AV->(Nm->Option AO)->Prop} {Q:Prop}
theorem Ω {x y:Code} {Q:Exit->Go.Act->World->Prop} (h:zu X x (US λs=>∀ a w,Rw X s a w->y.wp X.P Q a w) st) {a:Go.Act} {w:World} (hR:Rw X st a w):(Code.seq x y).wp X.P Q a w:=by
 refine wp_seq (wp_mono (h a w hR) λe a' w' he=>?_)
 cases e with
 | normal=>obtain⟨st',hR',hQ⟩:=he;exact hQ a' w' hR'
 | exit id=>obtain⟨_,_,hQ⟩:=he;exact hQ.elim
 | goto l=>obtain⟨_,_,hQ⟩:=he;exact hQ.elim
 | ret=>obtain⟨_,_,hQ⟩:=he;exact hQ.elim
 | panic ch=>obtain⟨_,_,_,_,_,hQ⟩:=he;exact hQ.elim
 | outgrown=>exact he.elim
theorem qA3 (hd:d<X.n:=by first|(simp;done)|fail) (ha:args.toList.map (ev st)=bs:=by simp [fx];first|done|rfl) (hF:qV X.P X.gl f zf bs jv R (cT Q)) (hE:∀ x H',gB x->Q->E x (st.call d zf jv H')) (h:∀ y H',R (.s d) y H'->K ((st.call d zf jv H').put (some d) y)) :
  q8 X ⟨some d,.call ⟨.value (.func f),args,Ts⟩,ty,pos,aft,g⟩ K E st:=by
 subst ha;refine iu (D:=zf) (H:=jv) (R:=R) (E0:=cT Q) hF (mc hF.1 rfl) false ⟨rfl,λj a a' h h'=>?_⟩ (λ_ _=>rfl) (λn hn=>by cases hn) (λn hn=>absurd rfl hn) (λk i j _=>.inl rfl) (λe he=>qL) (λx H' hR=>?_) (λx H' hx=>?_)
 .rw [h] at h';obtain rfl:=sI h';exact .refl _
 .simp_all
 .exact hE x H' hx.1 hx.2
end
end Go.Hm
end
section
namespace Go.Hm
open Go
theorem R7 {H:Type} {enc:TypeId×Value->H} {a:Assume} {C:Checked} {os:Os} {f:FuncId} {fn:Func} {s:ChangeSpec} {conds:List PathCond} {apart fresh handsOn again:Bool} {X:World->Array Value->Prop}
  (hX:∀ (w w':World) (args:Array Value),w.heap=w'.heap->X w args->X w' args)
  (own:ownKnob C.prog.godebug=none) (started:os.Started) (noInit:C.prog.inits.idxOf? f=none) (hfn:C.prog.funcs[f]?=some fn)
  (witness:∃ (w:World) (tape:Tape) (i:Input),w.os=os/\(w.forCall tape i).Shaped C.prog/\i.vars=[]/\Input.okWide C.prog (w.forCall tape i) .any w.heap.size f i /\
    ((s.pre enc C.prog fn conds apart (w.forCall tape i).memory i.args/\X (w.forCall tape i).memory i.args)/\sizedMet enc C.prog fn (OpenSpec.ofChange s) apart (w.forCall tape i).memory i.args)/\a.holds C.prog (lone (Frame.enter C.prog f i.args .normal) [] (w.forCall tape i)))
  (contract:∀ (W:World) (base:Nat) (args:Array Value) (ds gs:List (DataW H)) (before:List MemPlace),W.ShapedOpen C.prog ->
    (∀ (j:Nat) t v,fn.params[j]?=some t->args[j]?=some v->Value.okWide C.prog W .any base t v) ->
    DataW.Whole enc C.prog fn.params.toList s.vars apart W args.toList ds gs before ->
    conds.all (PathCond.test C.prog ⟨fn.params.toList,ds,s.plain.varTypes C.prog,gs⟩)=true ->
    (DataW.weightsEach C.prog (fn.params.toList++s.plain.varTypes C.prog) (ds++gs)).all (·<=reachBytes)=true->X W args ->
    a.holds C.prog (lone (Frame.enter C.prog f args .normal) [] W) ->
    Calls C.prog f args W λe W'=>∃ v,e=.returned v/\s.post enc C.prog fn apart fresh handsOn again W args v W') :
  ReturnsInHanded a C os f .any (λw args=>(s.pre enc C.prog fn conds apart w args/\X w args)/\sizedMet enc C.prog fn (OpenSpec.ofChange s) apart w args) (s.post enc C.prog fn apart fresh handsOn again):=by
 refine returnsInHanded_of_calls own started noInit witness ?_;intro w tape i _ hsh _ hok hpre hholds;obtain⟨_,_,_,fn',hfn',_,_,_,_,hval⟩:=hok;have e:fn'=fn:=sI (hfn'.symm.trans hfn);subst e;obtain⟨⟨⟨ds,gs,before,hw,hc⟩,hx⟩,hz⟩:=hpre;have hw':=DataW.Whole.of_heap (w':=w.forCall tape i) bf hw;refine (contract (w.forCall tape i) w.heap.size i.args ds gs before hsh hval hw' hc (hz.weights hw) (hX _ _ _ bf hx) hholds).mono λe W' ⟨v,he,hp⟩=>?_
 grind[ChangeSpec.post_blind]
end Go.Hm
end
section
namespace Go.Hm
open Go Go.RowKit
def vO (X:Ctx) (ops:List Oper) (ds:List (Option Nat)) (E0:AV->Prop) (K:St->Prop):qb->St->Prop
 | .done,st=>K st
 | .q i r,st=>match ops[i]? with|some o=>QG X ds o (vO X ops ds E0 K r) st|none=>False
 | .l i ps r,st=>match ops[i]? with|some o=>v7 X ds o (λs=>ub X ops ds ps s/\vO X ops ds E0 K r s) (λx _=>E0 x) st|none=>False
 | .l2 i ps r j qs s,st=>(match ops[i]? with|some o=>v7 X ds o (λs=>ub X ops ds ps s/\vO X ops ds E0 K r s) (λx _=>E0 x) st|none=>False) /\
   (match ops[j]? with|some o=>v7 X ds o (λs'=>ub X ops ds qs s'/\vO X ops ds E0 K s s') (λx _=>E0 x) st|none=>False)
 | .l3 i ps r j qs s k us t,st=>(match ops[i]? with|some o=>v7 X ds o (λs=>ub X ops ds ps s/\vO X ops ds E0 K r s) (λx _=>E0 x) st|none=>False) /\
   (match ops[j]? with|some o=>v7 X ds o (λs'=>ub X ops ds qs s'/\vO X ops ds E0 K s s') (λx _=>E0 x) st|none=>False) /\
   (match ops[k]? with|some o=>v7 X ds o (λs'=>ub X ops ds us s'/\vO X ops ds E0 K t s') (λx _=>E0 x) st|none=>False)
section
variable {X:Ctx} {ops:Array Oper} {st:St} {K:St->Prop} {E0:AV->Prop}
def QE (X:Ctx) (E0:AV->Prop):Exit->Go.Act->World->Prop:=λe b w'=>∃ v x st',e=.panic [{ v:=v,recovered:=false }]/\em X st' b w' v x/\E0 x
theorem em.cC {a b:Go.Act} {w:World} {v:Value} {x:AV} (h:em X st b w v x) (hd:a.defers=b.defers) (hs:a.tmps.size=b.tmps.size):em X { st with tm:=λ_=>.bot } a w v x:=by
 obtain⟨C,g,h1,h2,h3,h4,h5,⟨i,d,s,sl,gl⟩,hv⟩:=h;exact⟨C,g,h1,h2,h3,h4,h5,⟨i,hd.trans d,hs.trans s,λt=>.bot _,gl⟩,hv⟩
theorem ο {P:Program} {o:Oper} {a b:Go.Act} {K1 K2:Go.Act->World->Prop} {Q:Exit->Go.Act->World->Prop} {r:Result Next} (hdef:a.defers=b.defers)
  (hK:∀ v D w',K1 (Go.Act.put { b with defers:=D } o.dst v) w'->K2 (Go.Act.put { a with defers:=D } o.dst v) w') (hQ:∀ e w',QE X E0 e b w'->Q e a w') (h:o.upon P b K1 (QE X E0) r):o.upon P a K2 Q r:=by
 have hb:({ b with defers:=b.defers }:Go.Act)=b:=rfl;have ha:({ a with defers:=b.defers }:Go.Act)=a:=by rw [<- hdef]
 have hv:∀ v w',K1 (b.put o.dst v) w'->K2 (a.put o.dst v) w':=λv w' h=>by
  simp_all
 cases r with
 | ok n w' =>
  cases n with
  | value v=>exact hv v w' h
  | skip=>exact hv undef w' h
  | defer d =>
   have h:K1 (Go.Act.put { b with defers:=d::b.defers } o.dst undef) w':=h
   show K2 (Go.Act.put { a with defers:=d::a.defers } o.dst undef) w'
   simp_all
  | enter f args =>
   refine Calls.mono h λe w'' he=>?_
   cases e with
   | returned v=>simp_all
   | panicked ch=>simp_all
   | outgrown=>obtain⟨_,_,_,_,_,h,_⟩:=he;cases h
  | row row args=>exact Rows.mono h λv w'' he=>hv v w'' he
  | _=>exact h.elim
 | halt x w' =>
  cases x with
  | panic v=>exact hQ _ _ h
  | _=>exact h.elim
theorem HU (hw:ly ops):∀ (sch:qb) {LV:List Nat} {listed:Array Bool} {st:St} {a b:Go.Act} {w:World},jc ops sch LV=true->vO X ops.toList (ops.toList.map (·.dst)) E0 K sch st->DI X ops LV listed st a b w ->
  ∃ sch' LV' st' b',(∀ i r,sch'≠.q i r)/\jc ops sch' LV'=true/\vO X ops.toList (ops.toList.map (·.dst)) E0 K sch' st'/\DI X ops LV' listed st' a b' w:=by
 intro sch
 induction sch with
 | done=>grind
 | l i ps r _=>grind
 | l2 i ps r j qs s _ _=>grind
 | l3 i ps r j qs s k us t _ _ _=>grind
 | q i r ih =>
  intro LV listed st a b w h1 h2 h3;simp only [jc,jh,decide_eq_true_eq] at h1;obtain⟨⟨⟨hlt,hq⟩,hr⟩,hok⟩:=h1;simp only [xr,jh,bB] at hr;obtain⟨hni,hpr⟩:=hr;have hni:i∉LV:=λhm=>qL;have hpr:∀ j∈vD ops i,j∈LV:=λj hj=>bK.1 (yS.1 hpr j hj);have ho:ops[i]?=some ops[i]:=ib hlt;simp only [vO,bD,ho] at h2;obtain⟨d,v,st',hd,hK,hR',hP⟩:=Fc hw ho hq (λhm=>hni (hpr i hm)) h3.rw h2;have hdi:uL ops i=some d:=oG
  have hnl:listed.getD i true=false:=by
   cases e:listed.getD i true with
   | false=>rfl
   | true=>exact absurd (h3.sub i hlt e) hni
  refine ih (LV:=i::LV) (listed:=listed) (st:=st') (a:=a) (b:=b.put (some d) v) (w:=w) hok hK ⟨hR',h3.len,λk hk e=>aB _ (h3.sub k hk e),h3.closed,?_,?_,⟨hni,hlt,hpr,h3.ord⟩⟩
  .intro q hqc e;rcases vB.1 hqc with rfl|hqm
   .simp_all
   .obtain⟨x1,x2⟩:=h3.kv q hqm e;have hqlt:=h3.ord.lt q hqm;refine⟨x1,x2.put hw d v (λo' ho' hm=>?_) (λe'=>?_)⟩
    .have:=hw.look q o' d i ho' hm hlt hdi hq;exact hni (h3.ord.vD q hqm i this)
    .obtain rfl:=hw.EO q i d hqlt hlt e' hdi
     simp_all
  .refine⟨h3.yg.defers,by simpa [Go.Act.put] using h3.yg.size,λt ht=>?_⟩;have htd:t≠d:=λe=>ht ⟨i,qB,hnl,by rw [hdi,e]⟩;simp only [Go.Act.put];rw [oA (λe=>htd e.symm)];exact h3.yg.tmps t (λ⟨q,x1,x2,x3⟩=>ht ⟨q,aB _ x1,x2,x3⟩)
theorem Ir {sch:qb} {LV:List Nat} {listed:Array Bool} {a b:Go.Act} {w:World} {Q:Exit->Go.Act->World->Prop} (hK:∀ a' w' st',Rw X st' a' w'->K st'->Q .normal a' w') (hD:DI X ops LV listed st a b w)
  (hnq:∀ i r,sch≠.q i r) (hok:jc ops sch LV=true) (hr:vO X ops.toList (ops.toList.map (·.dst)) E0 K sch st) (hall:∀ i,i<ops.size->listed.getD i true=true):Q .normal a w:=by
 have hin:∀ i,i<ops.size->i∈LV:=λi hi=>hD.sub i hi (hall i hi)
 have no:∀ i,i∉fm ops LV:=λi hm=>by
  grind[sP]
 have hab:a=b:=by
  obtain⟨t1,d1⟩:=a;obtain⟨t2,d2⟩:=b;have hd:d1=d2:=hD.yg.defers
  have ht:t1=t2:=by
   apply Array.ext_getElem?;intro t;exact hD.yg.tmps t (λ⟨q,x1,x2,_⟩=>IG)
  rw [hd,ht]
 cases sch with
 | done=>grind[DI.rw,vO]
 | q i r=>simp_all
 | l i ps r =>
  simp_all[jc]
 | l2 i ps r j qs s =>
  simp only [jc,jh,beq_iff_eq] at hok
  simp_all<;>grind
 | l3 i ps r j qs s k us t =>
  simp only [jc,jh,beq_iff_eq] at hok
  simp_all<;>grind
theorem sN {fuel i:Nat} {ps LV:List Nat} {r:qb} {listed:Array Bool} {a b:Go.Act} {w:World} {Q:Exit->Go.Act->World->Prop} {o:Oper} (hw:ly ops) (ho:ops[i]?=some o) (hq:wi ops i=false) (hD:DI X ops LV listed st a b w)
  (hni:i∉LV) (hlist:∀ j∈vD ops i,listed.getD j false=true) (hps:∀ q∈gv ops LV i,q∈ps) (hok:jc ops r (i::LV)=true)
  (h:v7 X (ops.toList.map (·.dst)) o (λs=>ub X ops.toList (ops.toList.map (·.dst)) ps s/\vO X ops.toList (ops.toList.map (·.dst)) E0 K r s) (λx _=>E0 x) st)
  (hQ:∀ a' v w' st' x,em X st' a' w' v x->E0 x->Q (.panic [{ v:=v,recovered:=false }]) a' w') (hun:fu ops listed<=fuel+1)
  (ih:∀ (sch:qb) (LV:List Nat) (listed:Array Bool) (st:St) (a b:Go.Act) (w:World),DI X ops LV listed st a b w->jc ops sch LV=true->vO X ops.toList (ops.toList.map (·.dst)) E0 K sch st->fu ops listed<=fuel->wpAny X.P .any ops Q fuel listed a w) :
  wpOp X.P ops Q i (wpAny X.P .any ops Q fuel (listed.setIfInBounds i true)) a w:=by
 have hlt:i<ops.size:=(mD.1 ho).1;have hlt':i<listed.size:=rO
 have lst:∀ j∈vD ops i,j<ops.size->listed.getD j true=true:=λj hj hjlt=>by
  grind
 have hlook:∀ t∈o.looksAt ops,¬ ∃ q∈LV,listed.getD q true=false/\uL ops q=some t:=by
  rintro t ht ⟨q,x1,x2,x3⟩;have hqlt:=hD.ord.lt q x1;have:=hw.look i o t q ho ht hqlt x3 (hD.kv q x1 x2).1
  simp_all
 have hex:=hD.yg.exec (hw.s8 i o · · ho) hlook;have hwt:=hD.yg.wanted hlook
 have hprd:∀ j∈vD ops i,j∈LV:=λj hj=>by
  have hjl:=hlist j hj
  have hjlt:j<ops.size:=by
   grind[DI.len]
  exact hD.sub j hjlt (lst j hj hjlt)
 have hni':listed.getD i true=false:=by
  cases e:listed.getD i true with
  | false=>rfl
  | true=>exact absurd (hD.sub i hlt e) hni
 -- what comes behind
 have next:∀ (a' b':Go.Act) (w':World) (s:St),Rw X s b' w'->ub X ops.toList (ops.toList.map (·.dst)) ps s->vO X ops.toList (ops.toList.map (·.dst)) E0 K r s ->
   wz (λt=>∃ q∈LV,listed.getD q true=false/\uL ops q=some t) a' b'->wpAny X.P .any ops Q fuel (listed.setIfInBounds i true) a' w':=by
  intro a' b' w' s hR hst hrun hag
  have un':∀ q,(listed.setIfInBounds i true).getD q true=false->q≠i/\listed.getD q true=false:=by
   grind[w8]
  have lis':∀ k,listed.getD k true=true->(listed.setIfInBounds i true).getD k true=true:=by
   grind
  have hord:cM ops (i::LV):=⟨hni,hlt,hprd,hD.ord⟩
  obtain⟨b2,hR2,hP2,hag2⟩:=Fj hw hR (listed:=listed.setIfInBounds i true) (i::LV) hord (λq hqm e=>by
   obtain⟨hne,eq⟩:=un' q e;have hqLV:q∈LV:=(vB.1 hqm).resolve_left hne;obtain⟨x1,o',d',x2,x3,x4,_⟩:=hD.kv q hqLV eq;have hqlt:=hD.ord.lt q hqLV;refine⟨x1,?_⟩
   have hqp:q∈gv ops LV i:=by
    refine List.mem_filter.2 ⟨hqLV,?_⟩;simp only [x1,dk,bB,List.any_eq_false];intro l hl hc;simp only [jh,bB] at hc;obtain⟨hlq,hlp⟩:=hc;have hlp:=bK.1 hlp
    have hl1:∀ q'∈vD ops l,listed.getD q' false=true:=by
     rcases vB.1 hl with rfl|hl
     .exact hlist
     .exact hD.closed l (hD.ord.lt l hl) (by
       cases e':listed.getD l true with
       | true=>rfl
       | false=>rw [(hD.kv l hl e').1] at hlq;cases hlq)
    have this:listed.getD q false=true:=F0 (L:=λq=>listed.getD q false=true) (λq' h3=>by
     have hlt2:q'<ops.size:=by
      grind[DI.len]
     exact hD.closed q' hlt2 qp) _ _ hl1 q hlp
    grind
   obtain⟨o2,y1,y2⟩:=GL hst q (hps q hqp);refine⟨o2,y1,y2,λd hd=>?_⟩;rw [x2] at y1;obtain rfl:=sI y1;rw [x3] at hd;obtain rfl:=sI hd;rw [<- hD.rw.size];exact x4)
  refine ih r (i::LV) (listed.setIfInBounds i true) s a' b2 w' ⟨hR2,rO,λk hk e=>?_,λk hk e j hj=>?_,λq hqm e=>?_,⟨?_,?_,λt ht=>?_⟩,hord⟩ hok hrun ?_
  .rw [w8 hlt'] at e
   split at e
   .simp_all
   .exact aB _ (hD.sub k hk e)
  .have:listed.getD j false=true:=by
    rw [w8 hlt'] at e
    split at e
    .simp_all
    .exact hD.closed k hk e j hj
   grind
  .obtain⟨hne,e'⟩:=un' q e;have hqLV:q∈LV:=(vB.1 hqm).resolve_left hne;exact⟨(hD.kv q hqLV e').1,hP2 q hqm e⟩
  .rw [hag.defers,hag2.defers]
  .rw [hag.size,hag2.size]
  .rw [hag2.tmps t ht];refine hag.tmps t λ⟨q,x1,x2,x3⟩=>ht ⟨q,aB _ x1,?_,x3⟩
   grind[w8]
  .have:=sy hD.len hlt hni';omega
 -- the operation itself
 have hop:=h ops i rfl ho b w (QE X E0) hD.rw (λv w' st' x h1 h2=>⟨v,x,st',rfl,h1,h2⟩);have agr':∀ v,wz (λt=>∃ q∈LV,listed.getD q true=false/\uL ops q=some t) (a.put o.dst v) (b.put o.dst v):=λv=>hD.yg.put o.dst v (λt ht=>.inr ht);unfold wpOp at hop ⊢;simp only [ho] at hop ⊢;rw [hwt]
 split at hop
 .rename_i hwd;rw [if_pos hwd];rcases hop with hop|⟨_,_,_,_,_,_,hop,_⟩
  .left;unfold Oper.wp at hop ⊢;rw [hex];refine ο hD.yg.defers ?_ ?_ hop
   case refine_2 =>
    rintro e w' ⟨v,x,st',rfl,h1,h2⟩;exact hQ a v w' _ x (h1.cC hD.yg.defers hD.yg.size) h2
   rintro v D w' ⟨s,hR,hst,hrun⟩;refine next _ _ w' s hR hst hrun ?_;have:wz (λt=>∃ q∈LV,listed.getD q true=false/\uL ops q=some t) { a with defers:=D } { b with defers:=D }:=⟨rfl,hD.yg.size,hD.yg.tmps⟩;exact this.put o.dst v (λt ht=>.inr ht)
  grind
 grind
theorem nr.UP (sch:qb) (hwf:pO ops=true) (hok:jc ops sch []=true) (h:vO X ops.toList (ops.toList.map (·.dst)) E0 K sch st):nr X ops K (λx _=>E0 x) st:=by
 have hw:=NP hwf;intro a w Q hR hK hQ
 have main:∀ (fuel:Nat) (sch:qb) (LV:List Nat) (listed:Array Bool) (st:St) (a b:Go.Act) (w:World),DI X ops LV listed st a b w->jc ops sch LV=true->vO X ops.toList (ops.toList.map (·.dst)) E0 K sch st->fu ops listed<=fuel ->
   wpAny X.P .any ops Q fuel listed a w:=by
  intro fuel
  induction fuel with
  | zero =>
   intro sch0 LV0 listed ky a b0 w hD0 hok0 hr0 hun;obtain⟨sch,LV,st,b,hnq,hok,hr,hD⟩:=HU hw sch0 hok0 hr0 hD0
   have hall:∀ i,i<ops.size->listed.getD i true=true:=by
    intro i hi
    cases e:listed.getD i true with
    | true=>rfl
    | false =>
     have:=sy hD.len hi e;omega
   refine⟨?_,Ir hK hD hnq hok hr hall⟩;apply A8.2
   grind[nD]
  | succ fuel ih =>
   intro sch0 LV0 listed ky a b0 w hD0 hok0 hr0 hun;obtain⟨sch,LV,st,b,hnq,hok,hr,hD⟩:=HU hw sch0 hok0 hr0 hD0;refine⟨λhnone=>Ir hK hD hnq hok hr ?_,λi hi=>?_⟩
   · -- nothing is ready: all is done
    have tf:∀ j,listed.getD j false=true↔(j<ops.size/\listed.getD j true=true):=by
     grind[DI.len]
    have hLV:∀ q∈LV,listed.getD q true=true:=by
     intro q hq
     cases e:listed.getD q true with
     | true=>rfl
     | false =>
      obtain⟨q',h1,h2,h3⟩:=EM LV hD.ord ⟨q,hq,e⟩;have:q'∈Region.ready .any ops listed:=nD.2 ⟨h2,hD.ord.lt q' h1,λj hj=>(tf j).2 ⟨hD.ord.lt j (hD.ord.vD q' h1 j hj),h3 j hj⟩⟩
      simp_all
    have no:∀ i,i∉fm ops LV:=λi hm=>by
     obtain⟨h1,h2,h3⟩:=sP.1 hm
     have hnl:listed.getD i true=false:=by
      cases e:listed.getD i true with
      | false=>rfl
      | true=>exact absurd (hD.sub i h1 e) h2
     have:i∈Region.ready .any ops listed:=nD.2 ⟨hnl,h1,λj hj=>(tf j).2 ⟨hD.ord.lt j (h3 j hj),hLV j (h3 j hj)⟩⟩
     simp_all
    cases sch with
    | done=>grind[Bu]
    | q i r=>simp_all
    | l i ps r =>
     simp_all[jc]
    | l2 i ps r j qs s =>
     simp only [jc,jh,beq_iff_eq] at hok
     simp_all<;>grind
    | l3 i ps r j qs s k us t =>
     simp only [jc,jh,beq_iff_eq] at hok
     simp_all<;>grind
   .obtain⟨h0,hlt,hlist⟩:=nD.1 hi;have ho:ops[i]?=some ops[i]:=ib hlt;by_cases hin:i∈LV
    · -- a quiet one that is pending
     obtain⟨hq,o,d,ho',hd,hdlt,hP⟩:=hD.kv i hin h0;rw [ho] at ho';obtain rfl:=sI ho';have hdi:uL ops i=some d:=oG;have hlt':i<listed.size:=qp
     have hlook:∀ t∈ops[i].looksAt ops,¬ ∃ q∈LV,listed.getD q true=false/\uL ops q=some t:=by
      rintro t ht ⟨q,x1,x2,x3⟩;have hqlt:=hD.ord.lt q x1;have hqp:=hw.look i _ t q ho ht hqlt x3 (hD.kv q x1 x2).1
      grind
     have hex:=hD.yg.exec (hw.s8 i _ · · ho) hlook;have hwt:=hD.yg.wanted hlook
     have nx:wpAny X.P .any ops Q fuel (listed.setIfInBounds i true) (a.put (some d) (b.tmps.getD d undef)) w:=by
      refine ih sch LV _ st _ b w ⟨hD.rw,rO,λk hk e=>?_,λk hk e j hj=>?_,λq hqm e=>?_,⟨hD.yg.defers,by simpa [Go.Act.put] using hD.yg.size,λt ht=>?_⟩,hD.ord⟩ hok hr ?_
      .rw [w8 hlt'] at e
       split at e
       .simp_all
       .exact hD.sub k hk e
      .have hjl:listed.getD j false=true:=by
        rw [w8 hlt'] at e
        split at e
        .simp_all
        .exact hD.closed k hk e j hj
       grind[w8]
      .rw [w8 hlt'] at e
       split at e
       .cases e
       .exact hD.kv q hqm e
      .simp only [Go.Act.put];by_cases htd:d=t
       .subst htd;rw [Array.getElem?_setIfInBounds_self_of_lt (by rw [hD.yg.size];exact hdlt),ib hdlt]
        simp_all
       .rw [oA htd];refine hD.yg.tmps t λ⟨q,x1,x2,x3⟩=>ht ⟨q,x1,?_,x3⟩
        grind[w8]
      .have:=sy hD.len hlt h0;omega
     grind[wpOp,Oper.wp,Oper.upon_value]
    · -- one that is not quiet
     have hprd:∀ j∈vD ops i,j∈LV:=λj hj=>by
      have hjl:=hlist j hj
      have hjlt:j<ops.size:=by
       grind[DI.len]
      exact hD.sub j hjlt qp
     have hrd:i∈fm ops LV:=sP.2 ⟨hlt,hin,hprd⟩
     cases sch with
     | done=>grind[Bu]
     | q i r=>simp_all
     | l i1 ps r =>
      simp only [jc,jh,beq_iff_eq,bB] at hok;obtain⟨⟨⟨k1,k2⟩,k3⟩,k4⟩:=hok;rw [k1] at hrd;obtain rfl:=yj.1 hrd;simp only [vO,bD,ho] at hr;exact sN hw ho k2 hD hin hlist (λq hq=>bK.1 (yS.1 k3 q hq)) k4 hr hQ hun ih
     | l2 i1 ps r j1 qs s =>
      simp only [jc,jh,beq_iff_eq,bB] at hok;obtain⟨⟨⟨⟨⟨⟨k1,k2⟩,k3⟩,k4⟩,k5⟩,k6⟩,k7⟩:=hok;rw [k1] at hrd;simp only [vO,bD] at hr;rcases vB.1 hrd with rfl|hrd
      .have hr1:=hr.1;simp only [ho] at hr1;exact sN hw ho k2 hD hin hlist (λq hq=>bK.1 (yS.1 k4 q hq)) k6 hr1 hQ hun ih
      .obtain rfl:=yj.1 hrd;have hr2:=hr.2;simp only [ho] at hr2;exact sN hw ho k3 hD hin hlist (λq hq=>bK.1 (yS.1 k5 q hq)) k7 hr2 hQ hun ih
     | l3 i1 ps r j1 qs s m1 us t =>
      simp only [jc,jh,beq_iff_eq,bB] at hok;obtain⟨⟨⟨⟨⟨⟨⟨⟨⟨k1,k2⟩,k3⟩,k4⟩,k5⟩,k6⟩,k7⟩,k8⟩,k9⟩,k10⟩:=hok;rw [k1] at hrd;simp only [vO,bD] at hr;rcases vB.1 hrd with rfl|hrd
      .have hr1:=hr.1;simp only [ho] at hr1;exact sN hw ho k2 hD hin hlist (λq hq=>bK.1 (yS.1 k5 q hq)) k8 hr1 hQ hun ih
      .rcases vB.1 hrd with rfl|hrd
       .have hr2:=hr.2.1;simp only [ho] at hr2;exact sN hw ho k3 hD hin hlist (λq hq=>bK.1 (yS.1 k6 q hq)) k9 hr2 hQ hun ih
       .obtain rfl:=yj.1 hrd;have hr3:=hr.2.2;simp only [ho] at hr3;exact sN hw ho k4 hD hin hlist (λq hq=>bK.1 (yS.1 k7 q hq)) k10 hr3 hQ hun ih
 refine main ops.size sch [] (Array.replicate ops.size false) st a a w ⟨hR,qB,?_,?_,qB,⟨rfl,rfl,λ_ _=>rfl⟩,trivial⟩ hok h ?_
 .simp_all
 .simp_all
 grind[fu]
theorem v7.sR {ds:List (Option Nat)} {o:Oper} {K1 K2:St->Prop} {E1 E2:AV->St->Prop} (h:v7 X ds o K1 E1 st) (hK:∀ s,K1 s->K2 s) (hE:∀ x s,E1 x s->E2 x s):v7 X ds o K2 E2 st :=
 λops i h1 h2 a w Q hR hQ=>wpOp_mono (λa' w' he=>qp) (h ops i h1 h2 a w Q hR λv w' st' x h5 h6=>hQ v w' st' x h5 (hE x st' h6))
theorem QG.mono {ds:List (Option Nat)} {o:Oper} {K1 K2:St->Prop} (h:QG X ds o K1 st) (hK:∀ s,K1 s->K2 s):QG X ds o K2 st:=by
 grind[A4,QG]
theorem O7 {l:List Oper} {ds:List (Option Nat)}:∀ {sch:qb} {st:St},za X l ds K sch st->vO X l ds E0 K sch st:=by
 intro sch
 induction sch with
 | done=>exact λh=>h
 | q i r ih =>
  grind[za,vO,QG.mono]
 | l i ps r ih =>
  intro st h;unfold za at h;unfold vO
  cases ho:l[i]? with
  | none=>simp_all
  | some o=>rw [ho] at h;exact v7.sR h (λs hs=>⟨hs.1,ih hs.2⟩) λ_ _ h=>h.elim
 | l2 i ps r j qs s ih1 ih2 =>
  intro st h;unfold za at h;unfold vO;refine⟨?_,?_⟩
  .have h:=h.1
   cases ho:l[i]? with
   | none=>simp_all
   | some o=>rw [ho] at h;exact v7.sR h (λs hs=>⟨hs.1,ih1 hs.2⟩) λ_ _ h=>h.elim
  .have h:=h.2
   cases ho:l[j]? with
   | none=>simp_all
   | some o=>rw [ho] at h;exact v7.sR h (λs hs=>⟨hs.1,ih2 hs.2⟩) λ_ _ h=>h.elim
 | l3 i ps r j qs s k us t ih1 ih2 ih3 =>
  intro st h;unfold za at h;unfold vO;refine⟨?_,?_,?_⟩
  .have h:=h.1
   cases ho:l[i]? with
   | none=>simp_all
   | some o=>rw [ho] at h;exact v7.sR h (λs hs=>⟨hs.1,ih1 hs.2⟩) λ_ _ h=>h.elim
  .have h:=h.2.1
   cases ho:l[j]? with
   | none=>simp_all
   | some o=>rw [ho] at h;exact v7.sR h (λs hs=>⟨hs.1,ih2 hs.2⟩) λ_ _ h=>h.elim
  .have h:=h.2.2
   cases ho:l[k]? with
   | none=>simp_all
   | some o=>rw [ho] at h;exact v7.sR h (λs hs=>⟨hs.1,ih3 hs.2⟩) λ_ _ h=>h.elim
theorem qAC {id:Nat} {l:List Oper} {Q:Ex->St->Prop} (E0:AV->Prop) (hE:∀ x s,E0 x->Q (.aj x) s) (sch:qb) (hm:X.P.follows .mixedOrders=true) (hwf:pO l.toArray=true) (hok:jc l.toArray sch []=true)
  (h:∀ K:St->Prop,(∀ s,Q .normal s->K s)->vO X l (l.map (·.dst)) E0 K sch st):zu X (.region id l.toArray true) Q st :=
 NJ hm λK hK a w Q' hR hK' hE'=>nr.UP sch hwf hok (h K hK) a w Q' hR hK' λa' v w' st' x h1 h2=>hE' a' v w' st' x h1 (hE x st' h2)
section
variable {l:List Oper} {ds:List (Option Nat)} {i d:Nat} {r:qb} {op:Op} {ty:TypeId} {pos:String} {aft:Array Edge} {z:AV} {ps:List Nat}
theorem ny (ho:l[i]?=some ⟨some d,op,ty,pos,aft,none⟩:=by rfl) (hd:d<X.n:=by first|(simp;done)|fail) (hz:y5 X.P st ⟨some d,op,ty,pos,aft,none⟩=some z:=by simp [fx];first|done|rfl|exact (vW _).symm) (h:vO X l ds E0 K r (st.put (some d) z)):vO X l ds E0 K (.q i r) st:=by
 unfold vO;rw [ho];exact .inl ⟨rfl,d,z,rfl,hd,hz,h⟩
theorem OT (ho:l[i]?=some ⟨some d,op,ty,pos,aft,none⟩:=by rfl) (h:q8 X ⟨some d,op,ty,pos,aft,none⟩ (λs=>ub X l ds ps s/\vO X l ds E0 K r s) (λx _=>E0 x) st):vO X l ds E0 K (.l i ps r) st:=by
 grind[vO,JH]
end
end
section
variable {P:Program} {C:Nat->Prop} {w:World} {g0:Gh} {H:Nm->Option AO} {n:Nat} {gl:Nat->Option (List AV)} {st:St} {K:St->Prop} {E:AV->St->Prop} {d f:Nat} {ty:TypeId} {ps:String} {aft:Array Edge} {gd:Option (Nat×Bool)} {a0 a1:Operand} {Ts:Array TypeId} {bs:List Int} {xs:List q9} {pos:Nat}
def HH (P:Program) (gl:Nat->Option (List AV)) (f:FuncId):Prop:=∀ (H:Nm->Option AO) (bs:List Int) (pos:Nat) (xs:List q9),aA bs->pos<=1000000->(0<xs.length/\xs.length<=1000)->H (.u 1 0 0)=some (jA bs pos)->H (.u 2 0 0)=some (.row 1 (ue xs)) ->
  qV P gl f vV [.pt (.u 1 0 0) 0,.hs (.u 2 0 0) 1 0 xs.length] H (λ_ z H'=>∃ v,z=tx v/\v∈xs/\H' (.u 1 0 0)=some (jA bs (pos+1))) qy
theorem Gj {t0 t1:Nat} (hF:HH P gl f) (a:Nat) (xs:List q9) (hb:aA bs) (hpos:pos<=1000000) (hx:0<xs.length/\xs.length<=1000:=by first|(simp;done)|fail) (hV:H (.u 2 0 0)=none) (hd:d<n:=by first|(simp;done)|fail)
  (h0:st.tm t0=.pt (.u 1 0 0) 0) (h1:st.tm t1=.hs (.s a) 1 0 xs.length) (hH:st.hp (.u 1 0 0)=some (jA bs pos)) (hL:st.hp (.s a)=some (.row 1 (ue xs)))
  (h:∀ v,v∈xs->K ((st.l6 a d (jA bs (pos+1))).put (some d) (tx v))) :
  q8 (jb P C w g0 H n gl) ⟨some d,.call ⟨.value (.func f),#[.tmp t0,.tmp t1],Ts⟩,ty,ps,aft,gd⟩ K E st:=by
 have e1:(st.move (.s a) (.u 2 0 0)).hp (.u 1 0 0)=some (jA bs pos):=zb;have e2:(st.move (.s a) (.u 2 0 0)).hp (.u 2 0 0)=some (.row 1 (ue xs)):=dO;have hc:=La (a:=a) (d:=d) (Hs:=ze vV (st.move (.s a) (.u 2 0 0)).hp) zb dO;refine kH (.s a) (.u 2 0 0) (.inl rfl) (.inr rQ) ?_;refine q8.nO (K':=λs=>∃ v H1,v∈xs/\H1 (.u 1 0 0)=some (jA bs (pos+1))/\s=(((st.move (.s a) (.u 2 0 0)).call d vV (ze vV (st.move (.s a) (.u 2 0 0)).hp) H1).put (some d) (tx v))) ?_ ?_
 .refine lh (az:=[.pt (.u 1 0 0) 0,.hs (.u 2 0 0) 1 0 xs.length]) vV (λn h=>bZ h) (λk i j he=>?_) hd ?_ (hF _ bs pos xs hb hpos hx zb dO) ?_
  .simp_all<;>grind
  .simp_all
  simp_all<;>grind
 .rintro s ⟨v,H1,hv,hH1,rfl⟩;refine⟨((st.l6 a d (jA bs (pos+1))).put (some d) (tx v)).hp,λm ob e=>?_,?_⟩
  .simp only [F2,L3] at e
   split at e<;>simp_all[AO.uq]
  .have ht:(((st.move (.s a) (.u 2 0 0)).call d vV (ze vV (st.move (.s a) (.u 2 0 0)).hp) H1).put (some d) (tx v)).tm=((st.l6 a d (jA bs (pos+1))).put (some d) (tx v)).tm:=by
    simp_all[St.put,AV.uq]
   rw [ht];exact h v hv
end
theorem wA {k t a b:Int} (hk:0<=k/\k<=11:=by omega) (ht:0<=t/\t<=99:=by omega) (ha:0<=a/\a<=99:=by omega) (hb:(0<=b/\b<=99)\/(k=5/\b=-1):=by omega)
  (hto:k=7\/k=8->t=0/\b=0:=by omega) (hb0:k=0\/k=1\/k=3\/k=4->b=0:=by omega) (ha0:9<=k->a=0/\b=0:=by omega):vG ⟨k,t,a,b⟩:=by
 refine⟨hk,?_,hto,hb0,ha0⟩;intro n hn
 grind[dT]
theorem GM {x:qP} (h:vG x):∀ s∈[x],vG s:=qL
theorem Mh {x y:qP} (h:vG x) (h2:vG y):∀ s∈[x,y],vG s:=qL
theorem GN {L M:List qP} (h:∀ s∈L,vG s) (h2:∀ s∈M,vG s):∀ s∈L++M,vG s:=λs hs=>by
 grind
theorem AM {L:List qP} {x:qP} (h:∀ s∈L,vG s) (h2:vG x):∀ s∈L++[x],vG s:=GN h (GM h2)
theorem GO {L M:List qP} {a:Nat} (h:∀ s∈L,vG s) (h2:∀ s∈M,vG s):∀ s∈L.take a++M++L.drop a,vG s :=
 GN (GN (λs hs=>h s (gJ hs)) h2) λs hs=>h s (List.mem_of_mem_drop hs)
def tE (k:qT):Prop:=(∀ s∈k.body,vG s)/\b6 k.params/\(¬ k.kind=1->k.params=[])
structure wC (p:qC):Prop extends GenP p where
 ar:ew p
 Bz:∀ k∈p,k.params.length<=1
 Bi:p.length<=7
theorem wC.NG {p:qC} (h:wC p):gG p:=⟨h.ar,h.Bi,h.Bz,λk hk=>by have:=h.body k hk;omega⟩
theorem wC.one {k:qT} (h:k.parent=-1) (hk:k.kind=0) (hp:k.params.length<=1) (hb:k.body.length<=14) (hT:tE k):wC [k]:=by
 refine⟨GenP.one h qA hb,⟨⟨k.body,[],?_⟩,λi q hq hi=>?_,λq hq=>?_⟩,qL,qB⟩
 .have:=hT.2.2 qA;obtain⟨a,b,c,d⟩:=k
  simp_all
 .grind
 grind[tE]
theorem wC.add {p:qC} {k:qT} (h:wC p) (hl:p.length<=6) (hp:0<=k.parent/\k.parent<p.length) (hk:k.kind=1\/k.kind=2) (h1:k.params.length<=1) (h2:k.body.length<=14) (hT:tE k):wC (p++[k]):=by
 refine⟨GenP.add h.toGenP qA hp qA h2,⟨?_,λi q hq hi=>?_,λq hq=>?_⟩,λq hq=>?_,qn⟩
 .obtain⟨b,ks,e⟩:=h.ar.head
  simp_all
 .rw [gK] at hq
  split at hq
  .exact h.ar.jR i q hq hi
  .have:q=k:=by
    grind
   subst this;exact⟨hk,qA,hT.2.1,λe=>hT.2.2 qA⟩
 .rcases jo.1 hq with hq|hq
  .exact h.ar.cx q hq
  grind[tE]
 .rcases jo.1 hq with hq|hq
  .exact h.Bz q hq
  simp_all
theorem YL {p:qC} {i c:Nat} {L:List qP} {q:qT} (h:(setBody p i L)[c]?=some q):∃ r,p[c]?=some r/\q.kind=r.kind/\q.parent=r.parent/\q.params=r.params/\(q.body=r.body\/q.body=L):=by
 grind[setBody]
theorem NH {p q:qC} (h:ew p) (hl:q.length=p.length) (hs:∀ (c:Nat) k,q[c]?=some k->∃ r,p[c]?=some r/\k.kind=r.kind/\k.parent=r.parent/\k.params=r.params/\∀ s∈k.body,vG s):ew q:=by
 obtain⟨b,ks,e⟩:=h.head;have hne:0<q.length:=qL;refine⟨?_,λi k hk hi=>?_,λk hk=>?_⟩
 .obtain⟨k,qs,rfl⟩:∃ k qs,q=k::qs:=by cases q<;>grind
  obtain⟨r,hr,e1,e2,e3,_⟩:=hs 0 k rfl;rw [e] at hr;obtain rfl:=sI hr;obtain⟨a,b,c,d⟩:=k
  simp_all
 .obtain⟨r,hr,e1,e2,e3,_⟩:=hs i k hk;obtain⟨h1,h2,h3,h4⟩:=h.jR i r hr hi;constructor<;>grind
 grind[kB]
theorem wC.setBody {p:qC} {i:Nat} {L:List qP} (h:wC p) (hL:L.length<=14) (hT:∀ s∈L,vG s):wC (setBody p i L):=by
 refine⟨GenP.setBody h.toGenP hL,NH h.ar pK λc k hk=>?_,λk hk=>?_,by simp_all[Bi]⟩
 .obtain⟨r,hr,e1,e2,e3,e4⟩:=YL hk;refine⟨r,hr,e1,e2,e3,?_⟩;rcases e4 with e|e <;> rw [e]
  .exact h.ar.cx r (gM hr)
  .exact hT
 .obtain⟨r,hr,h1,_⟩:=AB hk;rw [h1];exact h.Bz r hr
theorem wC.bare {p:qC} (h:wC p):wC (cU p):=by
 refine⟨GenP.bare h.toGenP,NH h.ar (by simp [cU]) λc k hk=>?_,λk hk=>?_,by grind[cU,Bi]⟩
 .simp only [cU,jg] at hk;obtain⟨r,hr,rfl⟩:=zg.1 hk;exact⟨r,hr,rfl,rfl,rfl,λs hs=>h.ar.cx r (gM hr) s (List.mem_filter.1 hs).1⟩
 .obtain⟨r,hr,rfl⟩:=wU.1 hk;exact h.Bz r hr
end Go.Hm
end
section
namespace Go.Hm
open Go Go.RowKit Go.Proofs Go.Shelf Go.Sort
section
variable {P:Program} {ρ:Ren}
abbrev lY:List Value:=Lib.pow10Tab.map λz=>.int .u64 z
theorem SC (L:LaysM.n171 P ρ) (gl:Nat->Option (List AV)) (hg:gl (ρ.g 17)=some (lY.map .sc)) (n:Int) (h0:-1000000<=n) (h1:n<=1000000):qM P gl (ρ.f 171) [iv n] (λ_ y _=>y=tx (jT n)):=by
 refine⟨⟨_,L.f171,qY,qY⟩,λroot C w g args _ _ _ hinv hgl hsz hargs=>?_⟩
 have ha:args=#[.int .i64 n]:=by
  rw [O6 (vs:=[.int .i64 n]) hsz hargs]
 subst ha
 have htab:Lib.TabIs P w "internal/strconv.uint64pow10" .u64 Lib.pow10Tab:=by
  obtain⟨T,b,hb⟩:=(hgl _ _ hg).1.2 Lib.pow10Tab (by simp [Lib.pow10Tab]) (by simp [lY])
  grind[Lib.TabIs,World.var?,LaysM.n171.m17]
 refine (Any.strconv_Itoa L n qA qA w htab).mono λe w' he=>?_;obtain⟨rfl,k,os,rfl⟩:=he;have hb:Below w.heap.size w (grow (w.drewN k) os):=Lib.below_grow _ _ (qX _) _ _
 refine⟨C,g,jv,tx (jT n),⟨λ_ h=>h,λ_ h=>.inl h,⟨hb.os,hb.tape,hb.output,hb.size,λb hl _=>hb.block b hl,hinv.hC,λb hb'=>uW (hinv.u0 b hb') hb.size,λ_ _ e=>vQ,λ_ _ _ e=>vQ,λ_ _ _ _ _ e=>vQ⟩,
  λ_ e=>absurd rfl e,λ_ _ _=>⟨rfl,rfl⟩,λ_ _ _ _=>⟨rfl,rfl⟩⟩,?_,rfl⟩
 rw [<- Tu];exact .sc _
end
end Go.Hm
end
section
namespace Go.Hm
open Go Go.RowKit
theorem Hr {hp:Nm->Option AO} {n:Nm} {p:qC} {b:Bool} (h:uf hp n p):Bw hp zf (.zT [.agg [.hs n 4 0 p.length],bv b]) (.zT [yu p,bv b]):=by
 refine .zT _ _ rfl λj a a' h1 h2=>?_
 match j,h1,h2 with
 | 0,h1,h2 =>
  grind[gR,gV]
 | 1,h1,h2 =>
  obtain rfl:=sI h1;obtain rfl:=sI h2;exact .refl _
 | j+2,h1,h2=>simp at h1
end Go.Hm
end
section
namespace Go.Hm
open Go Go.RowKit Go.ChangeShapes Go.WideShapes Go.Deep
theorem QW {W:World} {g:Nat} {vs:List Value} {T:TypeId} {b:Bool} (h:∃ T b,W.heap[g]?=some (.cells vs.toArray T b)):cL W g (vs.map .sc):=by
 intro zs _ e
 have e2:vs=zs.map λz=>Value.int .u64 z:=by
  have h1:vs.map AV.sc=(zs.map λz=>Value.int .u64 z).map AV.sc:=qL
  grind[List.map_inj_right]
 simp_all
theorem L0 {H:Type} {enc:TypeId×Value->H} {P:Program} {w:World} {base:Nat} {spare:Nat->Bool} {held:Bool} {m n g:Nat} {t e:TypeId} {s:String} {cs:Array Value} {d:DataW H} {x:List MemPlace}
  (ht:P.underlying t=some (.array n e)) (he:P.underlying e=some (.int .u64)) (hce:P.cellsOf e=1) (hct:P.cellsOf t=n) (hg:P.globalNamed s=some g) (hv:w.var? P s=some cs)
  (h:DataW.trod enc P w base spare held m t cs.toList=some (d,x)) (hd:d=Lib.tabData .u64 Lib.pow10Tab):(∀ i v,lY[i]?=some v->w.cell? ⟨g,i,none⟩=some v)/\cL w g (lY.map .sc):=by
 subst hd;have hcs:=Lib.cells_of_tab ht he hce hct h
 have hca:cs=lY.toArray:=by
  grind
 subst hca;refine⟨λi v hi=>?_,?_⟩
 .rw [World.var?_cell hg hv i]
  simp_all
 .refine QW (T:=0) (b:=false) ?_
  grind[World.var?]
end Go.Hm
end
section
namespace Go.Hm
open Go Go.RowKit
theorem Fz {l:List (Nm×Nat)} {st:St} {m:Nm}:(St.kK l st).hp m=match l.find? (λp=>decide (p.1=m)) with
  | some p=>some (.row p.2 [])
  | none=>st.hp m:=by
 induction l with
 | nil=>rfl
 | cons p l ih =>
  grind[YN,St.zS]
section
variable {hp hp':Nm->Option AO} {p:qC} {n:Nm} {m m':qU} {dp dp':Nat} {fs L:List qN} {f g:qN} {o:Int×Int} {s:qu}
@[simp] theorem NC:(m.top fs f).cells=m.cells:=rfl
@[simp] theorem top_globals:(m.top fs f).globals=m.globals:=rfl
@[simp] theorem AS:(m.top fs f).qJ=m.qJ:=rfl
@[simp] theorem top_classes:(m.top fs f).qO=m.qO:=rfl
@[simp] theorem ND:(m.top fs f).made=m.made:=rfl
@[simp] theorem top_deep:(m.top fs f).deep=m.deep:=rfl
@[simp] theorem top_out:(m.top fs f).out=m.out:=rfl
@[simp] theorem top_trace:(m.top fs f).trace=m.trace:=rfl
@[simp] theorem top_en:(m.top fs f).en=m.en:=rfl
@[simp] theorem top_left:(m.top fs f).left=m.left:=rfl
@[simp] theorem top_frames:(m.top fs f).qW=fs++[f]:=rfl
@[simp] theorem stop_cells {e:Int}:(m.stop fs f e).cells=m.cells:=rfl
@[simp] theorem stop_globals {e:Int}:(m.stop fs f e).globals=m.globals:=rfl
@[simp] theorem stop_funs {e:Int}:(m.stop fs f e).qJ=m.qJ:=rfl
@[simp] theorem stop_classes {e:Int}:(m.stop fs f e).qO=m.qO:=rfl
@[simp] theorem stop_made {e:Int}:(m.stop fs f e).made=m.made:=rfl
@[simp] theorem stop_deep {e:Int}:(m.stop fs f e).deep=m.deep:=rfl
@[simp] theorem stop_out {e:Int}:(m.stop fs f e).out=m.out:=rfl
@[simp] theorem stop_trace {e:Int}:(m.stop fs f e).trace=m.trace:=rfl
@[simp] theorem stop_left {e:Int}:(m.stop fs f e).left=m.left:=rfl
@[simp] theorem stop_en {e:Int}:(m.stop fs f e).en=e:=rfl
@[simp] theorem stop_frames {e:Int}:(m.stop fs f e).qW=fs++[f]:=rfl
def kX (n:Nm) (i:Nat) (o:Int×Int):Nm:=if o.1<=4 then .c n i 3 else if o.1<=7 then .c Xn 0 2 else if o.1<=10 then .c Xn 0 3 else .c n i 5
def sf (f:qN) (o:Int×Int):Nat:=if o.1<=4 then o.2.toNat else if o.1<=7 then f.cells.getD o.2.toNat 0 else o.2.toNat
def MQ (m:qU) (f:qN) (o:Int×Int):List qu:=if o.1<=4 then f.qw else if o.1<=7 then m.cells else if o.1<=10 then m.globals else f.names
end
end Go.Hm
end
