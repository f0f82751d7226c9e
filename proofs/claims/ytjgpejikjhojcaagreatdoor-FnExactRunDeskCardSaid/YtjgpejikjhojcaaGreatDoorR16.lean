import Derived.Test.YtjgpejikjhojcaaGreatDoorR15
import Derived.Recover
import Derived.Handed
import Derived.HandedShaped
import Derived.Shelf.Vars
set_option linter.unusedSimpArgs false
set_option linter.unusedVariables false
set_option maxRecDepth 100000
set_option maxHeartbeats 4000000

section
namespace Go.Hm
open Go Go.RowKit Go.ChangeShapes Go.WideShapes Go.Deep
def xm:List (Nat×List Value)->Nat->Option (List AV)
 | [],_=>none
 | (g,l)::r,i=>if i=g then some (l.map .sc) else xm r i
theorem Je {W:World}:∀ {ts:List (Nat×List Value)},(∀ t∈ts,0<t.2.length/\(∀ v∈t.2,v.oneCell'=true)/\∀ i v,t.2[i]?=some v->W.cell? ⟨t.1,i,none⟩=some v)->(∀ t∈ts,cB W t.1 (t.2.map .sc)) ->
  ∀ i row,xm ts i=some row->(RV (g0 W) W (.pointer (some ⟨i,0,none⟩)) (.el row 0)/\cB W i row)/\∀ f:Nm->Option Nm,row.map (AV.tr f)=row
 | [],_,_,i,row,hr=>by grind[xm]
 | (g,l)::r,h,hx,i,row,hr=>by
  simp only [xm] at hr
  split at hr
  .rename_i e;subst e;obtain⟨hl,ho,hc⟩:=h (i,l) qB;simp only at hl ho hc;obtain rfl:=sI hr
   have hat:∀ j,j<(l.map AV.sc).length->∃ v,l[j]?=some v/\(l.map AV.sc)[j]?=some (.sc v)/\W.cell? ⟨i,j,none⟩=some v/\v.oneCell'=true:=by
    simp_all
   refine⟨⟨?_,hx (i,l) qB⟩,λf=>?_⟩
   .obtain⟨k0,_,_,hc0,_⟩:=hat 0 qP;have:=RV.el (g:=g0 W) (w:=W) i 0 0 (l.map AV.sc) (λj=>(W.cell? ⟨i,0+j,none⟩).getD undef) (Ie hc0).1 (λj hj=>?_) (λj hj=>?_) (λj a ha=>?_)
    .omega
    .simp_all
    .simp_all
    .have hj:j<(l.map AV.sc).length:=(gS ha).1;obtain⟨k,_,h2,hc,_⟩:=hat j hj;rw [h2] at ha
     cases ha
     simp only [fF,hc,Option.getD_some];exact .sc _
   simp
  .exact Je (ts:=r) (λt ht=>h t ry) (λt ht=>hx t ry) i row hr
theorem Bs {W:World} {i:Nat} {v:Value} {l:List Value} (h:∀ z,v≠.int .u64 z):cB W i ((v::l).map .sc):=by
 intro zs hz e
 cases zs<;>grind
abbrev dF (l:List qU):List Value:=l.map λx=>.string (bt x)
theorem MC {H:Type} {enc:TypeId×Value->H} {P:Program} {w:World} {base:Nat} {spare:Nat->Bool} {held:Bool} {m n g:Nat} {t e:TypeId} {s:String} {cs:Array Value} {l:List qU} {x:List MemPlace}
  (ht:P.underlying t=some (.array n e)) (he:P.underlying e=some .string) (hc:P.cellsOf e=1) (hg:P.globalNamed s=some g) (hv:w.var? P s=some cs)
  (h:DataW.trod enc P w base spare held m t cs.toList=some (.agg (l.map λk=>.lit (.string k)),x)):∀ i v,(dF l)[i]?=some v->w.cell? ⟨g,i,none⟩=some v:=by
 intro i v hv';rw [jZ] at hv';obtain⟨k,hk,rfl⟩:=zu.1 hv';obtain⟨xs,m1,rfl,hx,hlen,hn,hel⟩:=DataW.trod_array ht h;simp only [rF,DataW.agg.injEq] at hx;have hil:i<l.length:=(gS hk).1;have hxl:l.length=xs.length:=by simpa using congrArg List.length hx.1
 obtain⟨y,hy⟩:∃ y,xs[i]?=some y:=⟨_,gE qA⟩;have h0:=hel i qA;rw [hy,hc] at h0;obtain⟨k',e1,e2,_⟩:=DataW.trod_string he h0;have h3:=congrArg (λz=>z[i]?) hx.1;simp only [jZ,hk,hy,u7,te] at h3;rw [e2] at h3;have hkk:k'.data.toList=k:=qP;subst hkk;rw [World.var?_cell hg hv i];have e3:=congrArg (λz=>z[0]?) e1
 grind[zu]
end Go.Hm
end
section
namespace Go.Hm
open Go Go.RowKit
def wd (a:Go.Act):Go.Act:={ a with defers:=[] }
def sM (v:Value):List Deferred:=match v with
 | .func fn first cap=>[{ target:=.fn fn cap,args:=first++#[] }]
 | _=>[]
def DW (X:Ctx) (t:Nat) (st:St) (a:Go.Act) (w:World):Prop:=a.defers=sM (a.tmps.getD t undef)/\Rw X st (wd a) w
def HN (X:Ctx) (t:Nat) (st:St) (a:Go.Act) (w:World) (v:Value) (x:AV):Prop:=a.defers=sM (a.tmps.getD t undef)/\fB X st (wd a) w v x
section
variable {X:Ctx} {st:St} {a:Go.Act} {w:World} {K:St->Prop} {E:AV->St->Prop} {ds:List (Option Nat)} {o:Oper} {t:Nat}
theorem V0 {d:Option Nat} {v:Value} (h:d≠some t):(a.put d v).tmps.getD t undef=a.tmps.getD t undef:=by
 cases d<;>simp_all[Act.put]
theorem qBT {d:Option Nat} {v:Value}:wd (a.put d v)=(wd a).put d v:=BV
theorem Lg {d:Option Nat} {v:Value}:(a.put d v).defers=a.defers:=BV
theorem xg {d:Option Nat} {v:Value} {w':World} (hd:a.defers=sM (a.tmps.getD t undef)) (ht:d≠some t) (h:∃ st',Rw X st' ((wd a).put d v) w'/\K st'):∃ st',DW X t st' (a.put d v) w'/\K st':=by
 grind[Lg,V0,qBT,DW]
theorem qB0 {Q:Exit->Go.Act->World->Prop} (hd:a.defers=sM (a.tmps.getD t undef)) (ht:o.dst≠some t)
  (h:o.wp X.P (wd a) w (λa' w'=>∃ st',Rw X st' a' w'/\K st') (λe _ w'=>Q e a w')):o.wp X.P a w (λa' w'=>∃ st',DW X t st' a' w'/\K st') Q:=by
 unfold Oper.wp at h ⊢;have e:(wd a).eval=a.eval:=rfl;rw [e] at h;generalize (execOp a.eval o).run X.P w=r at h ⊢;have out:LetsOut (λe (_:Go.Act) w'=>Q e a w')->LetsOut Q:=λ⟨_,w1,h1⟩=>⟨a,w1,h1⟩
 cases r with
 | ok n w' =>
  cases n with
  | value v=>exact xg hd ht h
  | skip=>exact xg hd ht h
  | defer d =>
   obtain⟨st',h2,_⟩:=h
   grind[Rg.defers,Lg,Rw]
  | enter f args =>
   refine Calls.mono (show Calls X.P f args w' _ from h) λe w'' he=>?_
   cases e with
   | returned v=>exact xg hd ht he
   | panicked ch=>exact he
   | outgrown=>grind
  | row row args=>exact Rows.mono (show Rows X.P row args w' _ from h) λv w'' he=>xg hd ht he
  | _=>exact (show False from h).elim
 | halt s w' =>
  cases s with
  | panic v=>exact h
  | _=>exact (show False from h).elim
theorem qBZ {ops:Array Oper} {i:Nat} {Q:Exit->Go.Act->World->Prop} (hd:a.defers=sM (a.tmps.getD t undef)) (hi:ops[i]?=some o) (ht:o.dst≠some t)
  (h:wpOp X.P ops (λe _ w'=>Q e a w') i (λa' w'=>∃ st',Rw X st' a' w'/\K st') (wd a) w):wpOp X.P ops Q i (λa' w'=>∃ st',DW X t st' a' w'/\K st') a w:=by
 unfold wpOp at h ⊢;simp only [hi] at h ⊢;have ey:yielded ops (wd a).tmps=yielded ops a.tmps:=rfl;rw [ey] at h
 split at h
 .rename_i hw;rw [if_pos hw];rcases h with h|⟨h1,_,w1,h2⟩
  .exact .inl (qB0 hd ht h)
  .exact .inr ⟨h1,a,w1,h2⟩
 .rename_i hw;rw [if_neg hw];exact xg hd ht h
theorem yE.wd {ops:Array Oper} {Q:Exit->Go.Act->World->Prop} (hQ:∀ a' w' st',DW X t st' a' w'->K st'->Q .normal a' w') (hE:∀ a' v w' st' x,HN X t st' a' w' v x->E x st'->Q (.panic [{ v:=v,recovered:=false }]) a' w') :
  ∀ (l:List Oper) (k:Nat),ops.toList.drop k=l->(∀ o∈l,o.dst≠some t)->∀ st,yE X (ops.toList.map (·.dst)) K E l st->∀ a w,DW X t st a w->wpOps X.P ops Q (List.range' k l.length) a w
 | [],k,_,_,st,h,a,w,hR=>hQ a w st hR h
 | o::l,k,hl,ht,st,h,a,w,hR=>by
  have hk:ops[k]?=some o:=by
   rw [<- ak,<- dq k,<- ti,hl];rfl
  rw [fG,List.range'_succ,wpOps_cons];have h1:=h ops k rfl hk (Go.Hm.wd a) w (λe _ w'=>Q e a w') hR.2 (λv w' st' x h1 h2=>hE a v w' st' x ⟨hR.1,h1⟩ h2);refine wpOp_mono (λa' w' he=>?_) (qBZ hR.1 hk (ht o qB) h1);obtain⟨st',hR',hK'⟩:=he;refine yE.wd hQ hE l (k+1) ?_ (λo' ho=>ht o' (by simp [ho])) st' hK' a' w' hR';rw [<- List.drop_drop,hl]
  rfl
end
section
variable {X:Ctx} {st:St} {t:Nat} {Q:Ex->St->Prop}
def nR (X:Ctx) (t:Nat) (Q:Ex->St->Prop):Exit->Go.Act->World->Prop
 | .normal,a,w=>∃ st,DW X t st a w/\Q .normal st
 | .exit id,a,w=>∃ st,DW X t st a w/\Q (.exit id) st
 | .goto l,a,w=>∃ st,DW X t st a w/\Q (.goto l) st
 | .ret,a,w=>∃ st,DW X t st a w/\Q .ret st
 | .panic ch,a,w=>∃ st v x,HN X t st a w v x/\ch=[{ v:=v,recovered:=false }]/\Q (.a6 x) st
 | .outgrown,_,_=>False
def bR (X:Ctx) (t:Nat) (c:Code) (Q:Ex->St->Prop) (st:St):Prop:=∀ a w,DW X t st a w->c.wp X.P (nR X t Q) a w
theorem qBU (h:Q .normal st):bR X t .skip Q st:=λ_ _ hR=>wp_skip ⟨st,hR,h⟩
theorem N9 (h:Q .ret st):bR X t .ret Q st:=λ_ _ hR=>wp_ret ⟨st,hR,h⟩
theorem An {c d:Code} (h:bR X t c (thenS (bR X t d Q) Q) st):bR X t (.seq c d) Q st:=by
 intro a w hR;refine wp_seq (wp_mono (h a w hR) λe a' w' he=>?_)
 cases e with
 | normal=>obtain⟨st',hR',hQ⟩:=he;exact hQ a' w' hR'
 | exit id=>exact he
 | goto l=>exact he
 | ret=>exact he
 | panic ch=>exact he
 | outgrown=>exact he
theorem N8 {c:Operand} {x y:Code} {b:Bool} (hb:ev st c=.sc (.bool b)) (h1:b=true->bR X t x Q st) (h2:b=false->bR X t y Q st):bR X t (.cond c x y) Q st:=by
 intro a w hR
 have hv:a.eval c=.bool b:=by
  obtain⟨C,g,_,_,_,_,_,hr⟩:=hR.2;exact (hb ▸ hr.ev c).zy
 grind[wp_cond_split,bR]
theorem Cw {id:Nat} {ops:Array Oper} (ht:∀ o∈ops.toList,o.dst≠some t) (h:∀ K:St->Prop,(∀ s,Q .normal s->K s)->yE X (ops.toList.map (·.dst)) K (λx=>Q (.a6 x)) ops.toList st):bR X t (.region id ops false) Q st:=by
 intro a w hR;refine wp_region ?_;rw [List.range_eq_range'];have:=yE.wd (ops:=ops) (t:=t) (Q:=nR X t Q) (λa' w' st' h1 h2=>⟨st',h1,h2⟩) (λa' v w' st' x h1 h2=>⟨st',v,x,h1,rfl,h2⟩) ops.toList 0 rfl ht st (h _ (λ_ h=>h)) a w hR;omega
theorem qBL {id:Nat} {ops:Array Oper} {l1 l2:List Oper} {od:Oper} {ats:Array TypeId} {c:Code} (hops:ops.toList=l1++od::l2) (hod:od.op=.defer ⟨.value (.tmp t),#[],ats⟩) (hdst:od.dst=none) (hg:od.guard=none)
  (ht:∀ o∈l2,o.dst≠some t)
  (h:yE X (ops.toList.map (·.dst)) (λs1=>(∃ f xs ys,s1.tm t=.fn f xs ys)/\yE X (ops.toList.map (·.dst)) (bR X t c Q) (λx=>Q (.a6 x)) l2 s1) (λ_ _=>False) l1 st) {a:Go.Act} {w:World} (hR:Rw X st a w) :
  (Code.seq (.region id ops false) c).wp X.P (nR X t Q) a w:=by
 refine wp_seq (wp_region ?_);rw [List.range_eq_range'];have hsz:ops.size=l1.length+(1+l2.length):=by grind[Array.length_toList]
 have key:∀ a' w' st',Rw X st' a' w'->((∃ f xs ys,st'.tm t=.fn f xs ys)/\yE X (ops.toList.map (·.dst)) (bR X t c Q) (λx=>Q (.a6 x)) l2 st') ->
   wpOps X.P ops (Exit.then (c.wp X.P (nR X t Q)) (nR X t Q)) (List.range' l1.length (1+l2.length)) a' w':=by
  rintro a' w' st' hR' ⟨⟨f,xs,ys,hv⟩,hl⟩
  have hk:ops[l1.length]?=some od:=by
   rw [<- ak,hops,cG (qa _)];simp
  rw [Nat.add_comm 1,List.range'_succ,wpOps_cons];obtain⟨C,g,e1,e2,e3,e4,e5,hg'⟩:=hR';have hr:=hg'.dh t;rw [hv] at hr;generalize hcv:a'.tmps.getD t undef=cv at hr;have hdf:a'.defers=[]:=hg'.defers;unfold wpOp;simp only [hk];rw [if_pos (by simp [Region.wanted,hg])];left
  cases hr with
  | fn _ vs us _ _ l1' l2' r1 r2 =>
   have hev:a'.eval (.tmp t)=.func f vs.toArray us.toArray:=hcv
   have hx:(execOp a'.eval od).run X.P w'=.ok (.defer { target:=.fn f us.toArray,args:=vs.toArray++#[] }) w':=by
    simp_all[execOp,resolve,Deferred.ofValue]
   unfold Oper.wp;rw [hx,Oper.upon_defer,hdst]
   have hDW:DW X t st' ({ a' with defers:={ target:=.fn f us.toArray,args:=vs.toArray++#[] }::a'.defers }:Go.Act) w':=by
    refine⟨?_,⟨C,g,e1,e2,e3,e4,e5,?_⟩⟩
    .grind[sM]
    .have:wd ({ a' with defers:={ target:=.fn f us.toArray,args:=vs.toArray++#[] }::a'.defers }:Go.Act)=a':=by
      obtain⟨tm,dd⟩:=a';simp only at hdf;subst hdf
      rfl
     simp_all
   refine yE.wd (ops:=ops) (t:=t) (K:=bR X t c Q) (E:=λx=>Q (.a6 x)) (λa1 w1 s1 h1 h2=>h2 a1 w1 h1) (λa1 v w1 s1 x h1 h2=>⟨s1,v,x,h1,rfl,h2⟩) l2 (l1.length+1) ?_ ht st' hl _ w' hDW
   simp_all
 have main:∀ (l:List Oper) (k:Nat),k+l.length=l1.length->(∀ j o,l[j]?=some o->ops[k+j]?=some o)->∀ s,yE X (ops.toList.map (·.dst)) (λs1=>(∃ f xs ys,s1.tm t=.fn f xs ys)/\yE X (ops.toList.map (·.dst)) (bR X t c Q) (λx=>Q (.a6 x)) l2 s1) (λ_ _=>False) l s ->
   ∀ a' w',Rw X s a' w'->wpOps X.P ops (Exit.then (c.wp X.P (nR X t Q)) (nR X t Q)) (List.range' k (l.length+(1+l2.length))) a' w':=by
  intro l
  induction l with
  | nil =>
   intro k hk hl s hs a' w' hR';simp only [il,dq] at hk;subst hk
   simpa using key a' w' s hR' hs
  | cons o l ih =>
   intro k hk hl s hs a' w' hR';have hko:ops[k]?=some o:=hl 0 o rfl;rw [fG,show l.length+1+(1+l2.length)=(l.length+(1+l2.length))+1 by omega,List.range'_succ,wpOps_cons];refine wpOp_mono (λa1 w1 he=>?_) (hs ops k rfl hko a' w' _ hR' (λ_ _ _ _ _ h=>h.elim));obtain⟨s1,hR1,hK1⟩:=he;exact ih (k+1) qw (λj o' ho=>by have:=hl (j+1) o' ho;grind) s1 hK1 a1 w1 hR1
 have:=main l1 0 qB (λj o ho=>by
  rw [fF,<- ak,hops,ub (gS ho).1];exact ho) st h a w hR
 simp_all
end
section
variable {c x:UInt8} {s l:qU} {i j n:Nat}
theorem Zk (hi:s[i]?=some c) (hj:j<=i) (hno:c∉(s.drop j).take (i - j)):zM c (s.drop j)=(s.drop j).take (i - j)::zM c (s.drop (i+1)):=by
 have e:s.drop j=(s.drop j).take (i - j)++c::s.drop (i+1):=by
  conv=>lhs;rw [<- rI (i - j) (s.drop j)]
  simp_all<;>grind[gV]
 grind[G1]
theorem UI (hi:s[i]?=some x) (hx:x≠c) (hj:j<=i) (hno:c∉(s.drop j).take (i - j)):c∉(s.drop j).take (i+1 - j):=by
 rw [show i+1 - j=(i - j)+1 by omega,uG,ti,show j+(i - j)=i by omega,hi]
 grind
def yp (l:qU):Nat:=l.foldl (λn c=>10 * n+(c.toNat - 48)) 0
theorem Q1:yp (l++[c])=10 * yp l+(c.toNat - 48):=by simp [yp]
theorem Iw (hi:s[i]?=some c):yp (s.take (i+1))=10 * yp (s.take i)+(c.toNat - 48):=by
 grind[uG,yp]
theorem Iv:∀ n:Nat,yp (yr n)=n
 | n=>by
  rw [yr]
  split
  .grind[yp,gp]
  .rename_i h;rw [Q1,Iv (n / 10),gp qA];omega
theorem ZX (h:yp s<=99):zq s=if s=yr (yp s) then some (yp s) else none:=by
 split
 .grind[Cf]
 .rename_i e
  cases hs:zq s<;>grind[Cf,Iv]
theorem Mq (hi:s[i]?=some c) (h:¬ (48<=c.toNat/\c.toNat<=57)):zq s=none:=by
 cases hs:zq s<;>grind[Cf,LB]
theorem ZV (hi:i<s.length) (h:9<yp (s.take i)):zq s=none:=by
 cases hs:zq s with
 | none=>rfl
 | some n =>
  obtain⟨hn,rfl⟩:=Cf.1 hs;by_cases h10:n<10
  .simp_all[LC,yp]
  .rw [FV qA qA] at hi h;simp only [fG,il] at hi;rcases (by omega:i=0\/i=1) with rfl|rfl<;>grind[yp,gp]
end
section
variable {s:qU} {c:UInt8}
theorem Mr (h:s.length<1\/2<s.length):zq s=none:=by
 rcases s with _|⟨a,_|⟨b,_|⟨d,l⟩⟩⟩
 .rfl
 .simp at h
 .simp at h
 .rfl
theorem ZZ (hl:s.length=2) (h:s[0]?=some 48):zq s=none:=by
 rcases s with _|⟨a,_|⟨b,_|⟨d,l⟩⟩⟩<;>simp_all[zq]
theorem ZW (h1:1<=s.length) (h2:s.length<=2) (hz:s.length=2->s[0]?≠some 48) (hd:∀ c∈s,48<=c.toNat/\c.toNat<=57):zq s=some (yp s):=by
 rcases s with _|⟨a,_|⟨b,_|⟨d,l⟩⟩⟩<;>grind[gu,zq,yp]
end
def pa (s:qU):Int:=match zq s with|some n=>n|none=>-1
theorem tH {s:qU} {n:Nat} (h:zq s=some n):pa s=n:=BQ
theorem li {s:qU} (h:zq s=none):pa s=-1:=BQ
end Go.Hm
end
section
namespace Go.Hm
open Go Go.RowKit Go.Proofs Go.Shelf
section
variable {st:St} {H' hp:Nm->Option AO} {T e:TypeId} {l:qU} {k a b c d:Nat}
@[simp] theorem byrows_tr {f:Nm->Option Nm}:(an l).map (λr=>r.map (AV.tr f))=an l:=by simp [an]
theorem PK (h:bQ H' (.u a b c) T e l):bQ (st.lV (.s k) (.u a b c) d H').hp (.s k) T e l:=by
 rcases h with⟨rfl,h⟩|⟨hl,h1,h2⟩
 .exact .inl ⟨rfl,qP⟩
 .refine .inr ⟨hl,?_,?_⟩<;>simp_all
theorem Ho (h:bQ st.hp (.s k) T e l):bQ (ux (.u a b c) (st.move (.s k) (.u a b c)).hp) (.u a b c) T e l:=by
 rcases h with⟨rfl,h⟩|⟨hl,h1,h2⟩
 .exact .inl ⟨rfl,qP⟩
 .refine .inr ⟨hl,?_,?_⟩<;>simp_all
theorem Hn (h:bQ hp (.u a b c) T e l):(hp (.u a b c)).isSome=true:=by
 rcases h with⟨_,h⟩|⟨_,h,_⟩ <;> simp [h]
end
section
variable {X:Ctx} {st:St} {K:St->Prop} {E:AV->St->Prop} {d k:Nat} {ty:TypeId} {pos:String} {aft:Array Edge} {g:Option (Nat×Bool)} {args:Array Operand} {Ts:Array TypeId} {P:Program} {ρ:Ren} {l s:qU} {f:FuncId}
abbrev Vn:Nm:=.u 3 0 0
theorem Nj (k:Nat) (L:Lays.n166 X.P ρ) (Y:Builder.Extra X.P ρ) (hf:ρ.f 166=f) (hext:X.ext Vn=false) (hB:bQ st.hp (.s k) (ρ.t 72) (ρ.t 5) l) (hd:d<X.n:=by first|(simp;done)|fail)
  (ha:args.toList.map (ev (st.move (.s k) Vn))=[.pt Vn 0,tx s]:=by simp [fx];first|done|rfl) (hs:s≠[]:=by first|(simp;done)|assumption) (hlen:l.length+s.length<=140737488355328:=by first|(simp;omega)|omega)
  (h:∀ st':St,st'.n=st.n->st'.gl=st.gl->(∀ t,st'.tm t=if t=d then .zX [.sc (.int .i64 s.length),.sc .nilIface] else (st.tm t).tr (eX (.s k) Vn d)) ->
    (∀ m,Nm.under (.s k) m=false->Nm.under Vn m=false->Nm.under (.s d) m=false->st'.hp m=(st.hp m).map (AO.tr (eX (.s k) Vn d))) ->
    st'.hp (.s k)=some (.vw (ρ.t 72) 2 true [[.pt (.s k) 0,.hs (.c (.s k) 0 1) 1 0 (l.length+s.length)]])->st'.hp (.c (.s k) 0 1)=some (.vw (ρ.t 5) 1 false (an (l++s)))->K st') :
  qn X ⟨some d,.call ⟨.value (.func f),args,Ts⟩,ty,pos,aft,g⟩ K E st:=by
 subst hf;have hB':=Ho (a:=3) (b:=0) (c:=0) hB;refine DA (.s k) Vn (hext:=hext) (hs:=(Hn hB')) (hd:=hd) (ha:=ha) (hF:=qB2 L Y X.gl Vn l s hs hlen _ hB') (h:=?_);rintro y H' ⟨rfl,hH⟩;rcases PK (st:=st) (k:=k) (d:=d) hH with⟨e,_⟩|⟨_,e1,e2⟩
 .simp_all
 refine h _ rfl rfl (λt=>?_) (λm h1 h2 h3=>?_) (by simpa using e1) e2<;>simp_all
theorem bQ.go {hp0 hp:Nm->Option AO} {V:Nm} {T e:TypeId} {l:qU} (h:bQ hp0 V T e l)
  (h1:hp0 V=some (.vw T 2 true [[.sc (.pointer none),.sc (.slice none 0 0)]])->hp V=some (.vw T 2 true [[.sc (.pointer none),.sc (.slice none 0 0)]]):=by intro e;simp [e,fx])
  (h2:hp0 V=some (.vw T 2 true [[.pt V 0,.hs (.c V 0 1) 1 0 l.length]])->hp V=some (.vw T 2 true [[.pt V 0,.hs (.c V 0 1) 1 0 l.length]]):=by intro e;simp [e,fx])
  (h3:hp0 (.c V 0 1)=some (.vw e 1 false (an l))->hp (.c V 0 1)=some (.vw e 1 false (an l)):=by intro e;simp [e,fx]):bQ hp V T e l:=by
 rcases h with⟨rfl,h⟩|⟨hl,e1,e2⟩
 .exact .inl ⟨rfl,h1 h⟩
 .exact .inr ⟨hl,h2 e1,h3 e2⟩
theorem qBd (k:Nat) (L:Lays.n169 X.P ρ) (Y:Builder.Extra X.P ρ) (hf:ρ.f 169=f) (hext:X.ext Vn=false) (hB:bQ st.hp (.s k) (ρ.t 72) (ρ.t 5) l) (hd:d<X.n:=by first|(simp;done)|fail)
  (ha:args.toList.map (ev (st.move (.s k) Vn))=[.pt Vn 0]:=by simp [fx];first|done|rfl)
  (h:K ((st.lV (.s k) Vn d yP).put (some d) (tx l))) :
  qn X ⟨some d,.call ⟨.value (.func f),args,Ts⟩,ty,pos,aft,g⟩ K E st:=by
 subst hf;have hB':=Ho (a:=3) (b:=0) (c:=0) hB;refine DA (.s k) Vn (hext:=hext) (hs:=(Hn hB')) (hd:=hd) (ha:=ha) (hF:=σ L Y X.gl Vn l _ hB') (h:=?_)
 simp_all
end
def gL (x:AV):Prop:=∃ t y,x=.jE t y/\(y=.agg []\/∃ v,y=.sc v)
def cJ (Q:Prop):Nm->AV->(Nm->Option AO)->Prop:=λ_ x _=>gL x/\Q
theorem gL.tr {x:AV} (h:gL x) {f:Nm->Option Nm}:gL (x.tr f):=by
 obtain⟨t,y,rfl,h⟩:=h;refine⟨t,y.tr f,rfl,?_⟩;rcases h with rfl|⟨v,rfl⟩<;>simp_all
section
variable {X:Ctx} {st:St} {K:St->Prop} {E:AV->St->Prop} {d f:Nat} {ty:TypeId} {pos:String} {aft:Array Edge} {g:Option (Nat×Bool)} {args:Array Operand} {Ts:Array TypeId} {bs:List AV} {R:Nm->AV->(Nm->Option AO)->Prop} {Q:Prop}
theorem uP (U:Nm) (hU:U.z7=true) (hext:X.ext U=true->st.hp U≠none) (hd:d<X.n:=by first|(simp;done)|fail) (ha:args.toList.map (ev st)=bs:=by simp [fx];first|done|rfl)
  (hF:qZ X.P X.gl f (Nm.under U) bs (ux U st.hp) R (cJ Q)) (hE:∀ x s,gL x->Q->E x s) (h:∀ y H',R (.s d) y H'->K ((st.call d (Nm.under U) (ux U st.hp) H').put (some d) y)) :
  qn X ⟨some d,.call ⟨.value (.func f),args,Ts⟩,ty,pos,aft,g⟩ K E st:=by
 subst ha;refine lH (D:=Nm.under U) (H:=ux U st.hp) (R:=R) (E0:=cJ Q) hF (mr hF.1 rfl) false ⟨rfl,λj a a' h h'=>?_⟩ (λn hn=>?_) (λn hn=>?_) (λn hn=>?_) (λk i j he=>?_) (λe he=>qP) (λx H' hR=>?_) (λx H' hx=>hE _ _ hx.1 hx.2)
 .rw [h] at h';obtain rfl:=sI h';exact .refl _
 .cases hx:Nm.under U n with
  | false=>rfl
  | true =>
   have h1:=vN hU hx;have h2:=Nm.lj (a:=.s d) rfl hn
   simp_all
 .simp_all
 .simp_all
 .grind[Nm.under,ux]
 simp_all
theorem Ap (N V:Nm) (hV:V.z7=true:=by rfl) (hN:N.z7=false:=by rfl) (hNV:Nm.under V N=false:=by first|(simp;done)|fail) (hext:X.ext V=false) (hs:(ux V (st.move N V).hp V).isSome=true) (hd:d<X.n:=by first|(simp;done)|fail)
  (ha:args.toList.map (ev (st.move N V))=bs:=by simp [fx];first|done|rfl)
  (hF:qZ X.P X.gl f (Nm.under V) bs (ux V (st.move N V).hp) R (cJ Q)) (hE:∀ x s,gL x->Q->E x s) (h:∀ y H',R (.s d) y H'->K ((st.lV N V d H').put (some d) (y.tr (mv V N)))) :
  qn X ⟨some d,.call ⟨.value (.func f),args,Ts⟩,ty,pos,aft,g⟩ K E st:=by
 refine wa N V (.inl hN) (.inr hext) (bn V N (.inr hext) (.inl hN) ?_)
 grind[uP,Kn]
theorem qBb (hd:d<X.n:=by first|(simp;done)|fail) (ha:args.toList.map (ev st)=bs:=by simp [fx];first|done|rfl) (hF:qZ X.P X.gl f zn bs yP R (cJ Q)) (hE:∀ x s,gL x->Q->E x s) (h:∀ y H',R (.s d) y H'->K ((st.call d zn yP H').put (some d) y)) :
  qn X ⟨some d,.call ⟨.value (.func f),args,Ts⟩,ty,pos,aft,g⟩ K E st:=by
 subst ha;refine lH (D:=zn) (H:=yP) (R:=R) (E0:=cJ Q) hF (mr hF.1 rfl) false ⟨rfl,λj a a' h h'=>?_⟩ (λ_ _=>rfl) (λn hn=>by cases hn) (λn hn=>absurd rfl hn) (λk i j _=>.inl rfl) (λe he=>qP) (λx H' hR=>?_) (λx H' hx=>hE _ _ hx.1 hx.2)
 .rw [h] at h';obtain rfl:=sI h';exact .refl _
 simp_all
end
end Go.Hm
end
section
namespace Go.Hm
open Go Go.RowKit
section
variable {X:Ctx} {st:St} {K:St->Prop} {E:AV->St->Prop} {d:Nat} {ty:TypeId} {pos:String} {aft:Array Edge} {g:Option (Nat×Bool)} {f:Nat} {args:Array Operand} {Ts:Array TypeId} {bs:List AV}
theorem eQ {x:AV} (hd:d<X.n:=by first|(simp;done)|fail) (ha:args.toList.map (ev st)=bs:=by simp [fx];first|done|rfl|exact (ve _).symm)
  (hF:qM X.P X.gl f bs (λ_ y _=>y=x)) (h:K ((st.kill (.s d)).put (some d) x)):qn X ⟨some d,.call ⟨.value (.func f),args,Ts⟩,ty,pos,aft,g⟩ K E st:=by
 refine qn.Cx (qBa (K:=λs=>∃ H',s=(st.call d zn yP H').put (some d) x) hd ha hF ?_) ?_
 .rintro y H' rfl
  grind
 .rintro s ⟨H',rfl⟩;refine⟨(st.kill (.s d)).hp,λm ob e=>?_,?_⟩<;>simp_all[St.kill,St.nm,jw,St.put,St.call,pA]
theorem He {P:Program} {T:TypeId} {zs:List AV} (_hq:jx P T=some zs) (h:qn X ⟨some d,.alloc T,ty,pos,aft,g⟩ K E st):qn X ⟨some d,.alloc T,ty,pos,aft,g⟩ K E st:=h
end
theorem zf {G G':Prop} (k:G') (h:jL G'->G:=by
 intro kk
 repeat' (first
  | refine wV ?_|refine bN ?_|refine af ?_|refine nr ?_|refine ae λK hK=>?_
  | ((with_reducible refine uz hK ?_);clear hK K)|(with_reducible refine uz hK ?_)
  | (with_reducible first|refine wT ?_|refine cY ?_|refine dE ?_|refine cX ?_|refine bL ?_|refine bi ?_|refine gA ?_|refine cZ qe ?_)
  | refine dG ?_
  | refine bO ?_
  | (with_reducible refine wB ?_)
  | ((with_reducible refine lL ?_);refine lp (h:=?_))
  | (with_reducible first|refine lM ?_|refine mw ?_|refine nw (h:=?_)|refine nu (h:=?_)|refine ny (h:=?_)|refine ag (h:=?_)|refine dk (h:=?_)|refine iY (h:=?_)|refine dH (h:=?_)|refine pn (h:=?_)|refine bP (h:=?_)|refine lr (h:=?_)|refine lq (h:=?_)|refine dI (h:=?_))
  | ((with_reducible refine He b1 ?_);refine Ng (hq:=b1) (h:=?_))|(with_reducible refine iX (h:=?_))
  | ((with_reducible refine zb c1 rfl ?_);refine vi (hF:=c1) (h:=?_))
  | ((with_reducible refine zb c2 rfl ?_);refine vi (hF:=c2) (h:=?_))
  | ((with_reducible refine zb c3 rfl ?_);refine vi (hF:=c3) (h:=?_))
  | ((with_reducible refine zb c4 rfl ?_);refine vi (hF:=c4) (h:=?_))
  | ((with_reducible refine zb c5 rfl ?_);refine vi (hF:=c5) (h:=?_))
  | ((with_reducible refine zb c6 rfl ?_);refine vi (hF:=c6) (h:=?_))
  | ((with_reducible refine zb d1 rfl ?_);refine kH (hF:=d1) (h:=?_))
  | ((with_reducible refine zb d2 rfl ?_);refine kH (hF:=d2) (h:=?_))
  | ((with_reducible refine zb d3 rfl ?_);refine kH (hF:=d3) (h:=?_))
  | ((with_reducible refine zb d4 rfl ?_);refine kH (hF:=d4) (h:=?_))
  | ((with_reducible refine zb e1 rfl ?_);refine iC (hF:=e1) (h:=?_))
  | ((with_reducible refine zb e2 rfl ?_);refine iC (hF:=e2) (h:=?_))
  | ((with_reducible refine zb p1 rfl ?_);refine eQ (hF:=p1) (h:=?_))
  | ((with_reducible refine zb p2 rfl ?_);refine eQ (hF:=p2) (h:=?_))
  | ((with_reducible refine zb p3 rfl ?_);refine eQ (hF:=p3) (h:=?_))
  | ((with_reducible refine zb p4 rfl ?_);refine eQ (hF:=p4) (h:=?_))
  | ((with_reducible refine zb p5 rfl ?_);refine eQ (hF:=p5) (h:=?_))
  | ((with_reducible refine zb p6 rfl ?_);refine eQ (hF:=p6) (h:=?_))
  | (with_reducible refine we (h:=?_))
  | (with_reducible refine ye (λht=>?_) (λht=>?_))
  | refine bz (h1:=?_)|refine dJ (h1:=?_)
  | ((with_reducible refine cE hK ?_);clear hK K)|(with_reducible refine cE hK ?_)
  | ((with_reducible refine ah ?_);first|refine lu (h:=?_)|refine pu (h:=?_)|refine pr (h:=?_)|refine pw (h:=?_))
  | ((with_reducible refine ah ?_);refine pq (h1:=λht=>?_) (h2:=λht=>?_))
  | refine ik rfl ?_|refine oN ?_ ?_|refine oO ?_ ?_ ?_|(with_reducible refine aI ?_ ?_)|exact iQ|refine iZ (h2:=?_)
  | fail)
 first|exact kk.h|(revert hK;revert K;exact kk.h)):G:=h ⟨k⟩
theorem vU {G G':Prop} (k:G') (h:jL G'->G:=by
 intro kk K hK
 repeat' (first
  | refine wV ?_|refine bN ?_|refine af ?_|refine nr ?_|refine ae λK hK=>?_
  | ((with_reducible refine uz hK ?_);clear hK K)|(with_reducible refine uz hK ?_)
  | (with_reducible first|refine wT ?_|refine cY ?_|refine dE ?_|refine cX ?_|refine bL ?_|refine bi ?_|refine gA ?_|refine cZ qe ?_)
  | refine dG ?_
  | refine bO ?_
  | (with_reducible refine wB ?_)
  | ((with_reducible refine lL ?_);refine lp (h:=?_))
  | (with_reducible first|refine lM ?_|refine mw ?_|refine nw (h:=?_)|refine nu (h:=?_)|refine ny (h:=?_)|refine ag (h:=?_)|refine dk (h:=?_)|refine iY (h:=?_)|refine dH (h:=?_)|refine pn (h:=?_)|refine bP (h:=?_)|refine lr (h:=?_)|refine lq (h:=?_)|refine dI (h:=?_))
  | ((with_reducible refine He b1 ?_);refine Ng (hq:=b1) (h:=?_))|(with_reducible refine iX (h:=?_))
  | ((with_reducible refine zb c1 rfl ?_);refine vi (hF:=c1) (h:=?_))
  | ((with_reducible refine zb c2 rfl ?_);refine vi (hF:=c2) (h:=?_))
  | ((with_reducible refine zb c3 rfl ?_);refine vi (hF:=c3) (h:=?_))
  | ((with_reducible refine zb c4 rfl ?_);refine vi (hF:=c4) (h:=?_))
  | ((with_reducible refine zb c5 rfl ?_);refine vi (hF:=c5) (h:=?_))
  | ((with_reducible refine zb c6 rfl ?_);refine vi (hF:=c6) (h:=?_))
  | ((with_reducible refine zb d1 rfl ?_);refine kH (hF:=d1) (h:=?_))
  | ((with_reducible refine zb d2 rfl ?_);refine kH (hF:=d2) (h:=?_))
  | ((with_reducible refine zb d3 rfl ?_);refine kH (hF:=d3) (h:=?_))
  | ((with_reducible refine zb d4 rfl ?_);refine kH (hF:=d4) (h:=?_))
  | ((with_reducible refine zb e1 rfl ?_);refine iC (hF:=e1) (h:=?_))
  | ((with_reducible refine zb e2 rfl ?_);refine iC (hF:=e2) (h:=?_))
  | ((with_reducible refine zb p1 rfl ?_);refine eQ (hF:=p1) (h:=?_))
  | ((with_reducible refine zb p2 rfl ?_);refine eQ (hF:=p2) (h:=?_))
  | ((with_reducible refine zb p3 rfl ?_);refine eQ (hF:=p3) (h:=?_))
  | ((with_reducible refine zb p4 rfl ?_);refine eQ (hF:=p4) (h:=?_))
  | ((with_reducible refine zb p5 rfl ?_);refine eQ (hF:=p5) (h:=?_))
  | ((with_reducible refine zb p6 rfl ?_);refine eQ (hF:=p6) (h:=?_))
  | (with_reducible refine we (h:=?_))
  | (with_reducible refine ye (λht=>?_) (λht=>?_))
  | refine bz (h1:=?_)|refine dJ (h1:=?_)
  | ((with_reducible refine cE hK ?_);clear hK K)|(with_reducible refine cE hK ?_)
  | ((with_reducible refine ah ?_);first|refine lu (h:=?_)|refine pu (h:=?_)|refine pr (h:=?_)|refine pw (h:=?_))
  | ((with_reducible refine ah ?_);refine pq (h1:=λht=>?_) (h2:=λht=>?_))
  | refine ik rfl ?_|refine oN ?_ ?_|refine oO ?_ ?_ ?_|(with_reducible refine aI ?_ ?_)|exact iQ|refine iZ (h2:=?_)
  | fail)
 first|exact kk.h|(revert hK;revert K;exact kk.h)):G:=h ⟨k⟩
section
variable {P:Program} {gl:Nat->Option (List AV)} {f:FuncId} {D:Nm->Bool} {bs:List AV} {H:Nm->Option AO} {R:Nm->AV->(Nm->Option AO)->Prop}
theorem NM {o:Oper} {a:Go.Act} {w:World} {N:Go.Act->World->Prop} {T:TypeId} {x y:Operand} (h:o.wp P a w N (λ_ _ _=>False)) (ho:o.op=.store T x y) (hd:o.dst=none):∃ w1,(Instr.storeAt T (a.eval x) (a.eval y)).run P w=.ok () w1/\N a w1:=by
 unfold Oper.wp at h;simp only [execOp,ho,Sem.run_bind] at h
 cases hr:(Instr.storeAt T (a.eval x) (a.eval y)).run P w with
 | ok u w1 =>
  rw [hr] at h;refine⟨w1,rfl,?_⟩;simp only [Result.andThen_ok,Sem.run_pure,Oper.upon_skip,hd] at h;exact h
 | halt s w1 =>
  rw [hr] at h
  cases s <;> exact (show False from h).elim
def GD (P:Program) (D:Nm->Bool) (root:Nm) (rs:List ResultVar) (R:Nm->AV->(Nm->Option AO)->Prop) (st:St):Prop:=∃ sbs xs,dN D root sbs/\wc P st rs=some xs/\R root ((fy xs).tr (zL D sbs)) (vF D sbs st.hp)
def QX (X:Ctx) (P:Program) (D:Nm->Bool) (root:Nm) (rs:List ResultVar) (R:Nm->AV->(Nm->Option AO)->Prop) (t F s1 s2:Nat) (n1 n2:Nm) (o1 o2:Oper):Ex->St->Prop
 | .ret,st=>st.tm t=.fn (.func F) [] [.pt n1 0,.pt n2 0]/\GD P D root rs R st
 | .a6 x,st=>st.tm t=.fn (.func F) [] [.pt n1 0,.pt n2 0]/\st.tm s1=.pt n1 0/\st.tm s2=.pt n2 0/\gL x/\qn X o1 (qn X o2 (GD P D root rs R) (λ_ _=>False)) (λ_ _=>False) st
 | _,_=>False
theorem MY {C:Nat->Prop} {w:World} {g:Gh} {n:Nat} {root:Nm} {fn:Func} {rs:List ResultVar} {st:St} {a:Go.Act} {w':World} (hrs:fn.results.toList=rs) (hroot:∀ m,Nm.under root m=true->D m=false) (hHD:∀ m,H m≠none->D m=true) (hD:∀ m,D m=true->m.zg=false)
  (hR:Rw (yR P C w g H n gl) st a w') (hq:GD P D root rs R st) :
  a.defers=[]/\∃ v,(results fn a.tmps).run P w'=.ok v w'/\∃ C' g' H' x,cA (vW g H) C w g D root H H' C' g' w'/\RV g' w' v x/\R root x H':=by
 have key:∀ {st:St} {a:Go.Act} {w':World} {C':Nat->Prop} {g1:Gh} (sbs:List (Nm×Nm)),dN D root sbs->(∀ b,C b->C' b)->(∀ b,C' b->C b\/w.heap.size<=b\/vW g H b)->ie (yR P C w g H n gl) g1->Rg P (vW g H) C' w g1 st a w' ->
   ∃ g',cA (vW g H) C w g D root H (vF D sbs st.hp) C' g' w'/\∀ v x,RV g1 w' v x->RV g' w' v (x.tr (zL D sbs)):=by
  intro st a w' C' g1 sbs hok hC1 hC2 hext hr;have hinj:=Ee (D:=D) hroot hok.tN hok.Eb
  let g':Gh:={ C:=g1.C,φ:=λm=>if D m||Nm.under root m then (g1.tr (zL D sbs)).φ m else g.φ m,κ:=λm=>if D m||Nm.under root m then (g1.tr (zL D sbs)).κ m else g.κ m }
  have img:∀ m m',zL D sbs m=some m'->(D m'||Nm.under root m')=true:=by
   intro m m' e;rcases Ed hok.tN e with⟨h1,rfl⟩|⟨p,hp,hp2⟩
   .simp [h1]
   .simp [Nm.gH (hok.tN p hp) hp2]
  have gf:∀ m m',zL D sbs m=some m'->g'.φ m'=g1.φ m/\g'.κ m'=g1.κ m:=by
   grind[Gh.eh]
  have old:∀ m' o',vF D sbs st.hp m'=some o'->∃ m o,zL D sbs m=some m'/\st.hp m=some o/\o'=o.tr (zL D sbs):=by
   intro m' o' e;unfold vF at e
   split at e
   .rename_i hm;obtain⟨o,e1,rfl⟩:=zu.1 e;exact⟨m',o,lK hD hm hok.src,e1,rfl⟩
   grind[zu]
  have hs:=hr.step (g':=g') (w':=w') (f:=zL D sbs) (hp':=vF D sbs st.hp) rfl gf rfl rfl rfl (qa _) (λ_ _=>rfl) (λ_ _ _=>rfl) (λm' o' e=>by
   grind)
  refine⟨g',⟨hC1,hC2,hs.inv,λm hm=>?_,λm h1 h2=>qw,λk i j hk=>?_⟩,λv x hv=>hr.rv (g':=g') rfl (λ_ _=>rfl) gf hv⟩
  .obtain⟨o',ho'⟩:=cH.1 hm
   grind
  .have hd:=hHD _ hk;obtain⟨x1,x2⟩:=gf _ _ (lK hD hd hok.src)
   have he:(yR P C w g H n gl).ext (.u k i j)=true:=by
    obtain⟨o',ho'⟩:=cH.1 hk
    grind[yR]
   obtain⟨y1,y2⟩:=hext k i j he;exact⟨x1.trans y1,x2.trans y2⟩
 obtain⟨C',g1,h1,h2,_,_,h5,hr⟩:=hR;obtain⟨sbs,xs,hok,hx,hRx⟩:=hq;obtain⟨g',k1,k2⟩:=key sbs hok h1 h2 h5 hr;obtain⟨v,hrun,hv⟩:=MV (fn:=fn) hr (by rw [hrs];exact hx);exact⟨hr.defers,v,hrun,C',g',_,_,k1,k2 v _ hv,hRx⟩
theorem MW {g:Gh} {w:World} {v:Value} {F:FuncId} {n1 n2:Nm} (h:RV g w v (.fn (.func F) [] [.pt n1 0,.pt n2 0])) :
  ∃ b1 b2,v=.func (.func F) #[] #[.pointer (some ⟨b1,0,none⟩),.pointer (some ⟨b2,0,none⟩)]/\g.φ n1=some b1/\g.φ n2=some b2:=by
 cases h with
 | fn _ vs us _ _ l1 l2 r1 r2 =>
  obtain rfl:=ai (by simpa using l1);rcases us with _|⟨u1,_|⟨u2,_|⟨u3,tl⟩⟩⟩
  .simp at l2
  .simp at l2
  .have q1:=r2 0 u1 _ rfl rfl;have q2:=r2 1 u2 _ rfl rfl
   cases q1 with
   | pt _ _ b1 k1 =>
   cases q2<;>grind
  simp_all
theorem MX {g:Gh} {w:World} {v:Value} {n:Nm} (h:RV g w v (.pt n 0)):∃ b,v=.pointer (some ⟨b,0,none⟩)/\g.φ n=some b:=by
 cases h<;>grind
theorem qZ.U0 {fn:Func} {c:Code} {rs:List ResultVar} {n t F s1 s2:Nat} {T1 T2:TypeId} {v1 v2:Value} {n1 n2:Nm} {o1 o2:Oper}
  (hf:P.funcs[f]?=some fn) (hb:fn.body=some c) (hname:(fn.name == "runtime.NumGoroutine")=false) (hrs:fn.results.toList=rs) (hn:fn.ntmps=n) (hle:bs.length<=n) (hD:∀ m,D m=true->m.zg=false) (hF:ib P F)
  (ho1:o1.op=.store T1 (.tmp s1) (.const v1)) (hd1:o1.dst=none) (ho2:o2.op=.store T2 (.tmp s2) (.const v2)) (hd2:o2.dst=none)
  (idle:∀ (b1 b2:Nat) (w:World),CallsD P F #[.pointer (some ⟨b1,0,none⟩),.pointer (some ⟨b2,0,none⟩)] .returning w λe u' w'=>e=.returned (.tuple #[])/\u'=.returning/\w'=w)
  (catch_:∀ (b1 b2:Nat) (ty:TypeId) (pv:Value) (w w1 w2:World),(Instr.storeAt T1 (.pointer (some ⟨b1,0,none⟩)) v1).run P w=.ok () w1->(Instr.storeAt T2 (.pointer (some ⟨b2,0,none⟩)) v2).run P w1=.ok () w2 ->
    CallsD P F #[.pointer (some ⟨b1,0,none⟩),.pointer (some ⟨b2,0,none⟩)] (.panicking [{ v:=.iface ty pv,recovered:=false }]) w λe u' w'=>e=.returned (.tuple #[])/\u'=.panicking [{ v:=.iface ty pv,recovered:=true }]/\w'=w2)
  (h:∀ C w g root,(∀ m,Nm.under root m=true->D m=false)->∀ a w',Rw (yR P C w g H n gl) (wD bs H n gl) a w'->c.wp P (nR (yR P C w g H n gl) t (QX (yR P C w g H n gl) P D root rs R t F s1 s2 n1 n2 o1 o2)) a w'):qZ P gl f D bs H R zG:=by
 refine⟨⟨fn,hf,hname,qw⟩,λroot C w g args hroot hru hHD hinv hgl hsz hargs=>?_⟩
 have hstart:Rw (yR P C w g H n gl) (wD bs H n gl) { tmps:=args++Array.replicate (fn.ntmps - args.size) undef,defers:=[] } w:=by
  refine⟨C,g,λ_ h=>h,λ_ h=>.inl h,rfl,rfl,λ_ _ _ _=>⟨rfl,rfl⟩,hinv,rfl,?_,?_,hgl⟩
  .grind[wD]
  .intro t;simp only [wD];by_cases ht:t<args.size
   .have h1:bs[t]?=some (bs[t]' qA):=gE _
    have h2:(args++Array.replicate (fn.ntmps - args.size) undef).getD t undef=args[t]:=by
     rw [mF,Array.getElem?_append_left ht,io ht];rfl
    grind
   .have h1:bs[t]?=none:=dQ qA
    have h2:(args++Array.replicate (fn.ntmps - args.size) undef).getD t undef=undef:=by
     rw [mF,Array.getElem?_append_right qA,Array.getElem?_replicate]
     grind
    rw [h2,bT,h1];exact RV.sc _
 refine calls_of_wp_defers hf hb (wp_mono (h C w g root hroot _ _ hstart) λe a w' he=>?_)
 have inv:∀ b1 b2:Nat,∀ w0:World,(invoke (.fn (.func F) #[.pointer (some ⟨b1,0,none⟩),.pointer (some ⟨b2,0,none⟩)]) (#[]++#[])).run P w0=.ok (.enter F #[.pointer (some ⟨b1,0,none⟩),.pointer (some ⟨b2,0,none⟩)]) w0:=by
  grind[invoke,C6]
 cases e with
 | ret =>
  obtain⟨st,⟨hdf,hR⟩,hfn,hq⟩:=he;obtain⟨hd0,v,hrun,hrest⟩:=MY hrs hroot hHD hD hR hq
  have hv:∃ b1 b2,a.tmps.getD t undef=.func (.func F) #[] #[.pointer (some ⟨b1,0,none⟩),.pointer (some ⟨b2,0,none⟩)]:=by
   obtain⟨C',g1,_,_,_,_,_,hr⟩:=hR;have hs:=hr.dh t;rw [hfn] at hs;obtain⟨b1,b2,e,_⟩:=MW hs;exact⟨b1,b2,e⟩
  obtain⟨b1,b2,hv⟩:=hv;rw [hv] at hdf
  show Leaves P fn a.tmps _ a.defers .returning w'
  rw [hdf];refine leaves_cons qB (inv b1 b2 w') ((idle b1 b2 w').mono ?_);rintro e u' w'' ⟨rfl,rfl,rfl⟩;exact⟨v,hrun,hrest⟩
 | panic ch =>
  obtain⟨st,v,x,⟨hdf,hRV⟩,rfl,hfn,hs1,hs2,hbad,hop⟩:=he;obtain⟨C',g1,q1,q2,q3,q4,q5,hr,hvx⟩:=hRV;have hR:Rw (yR P C w g H n gl) st (wd a) w':=⟨C',g1,q1,q2,q3,q4,q5,hr⟩;obtain⟨b1,b2,hv,k1,k2⟩:=MW (by have:=hr.dh t;rwa [hfn] at this)
  have e1:(wd a).eval (.tmp s1)=.pointer (some ⟨b1,0,none⟩):=by
   have:=hr.dh s1;rw [hs1] at this;obtain⟨b,e,hb⟩:=MX this;rw [k1] at hb;obtain rfl:=sI hb;exact e
  have e2:(wd a).eval (.tmp s2)=.pointer (some ⟨b2,0,none⟩):=by
   have:=hr.dh s2;rw [hs2] at this;obtain⟨b,e,hb⟩:=MX this;rw [k2] at hb;obtain rfl:=sI hb;exact e
  obtain⟨w1,r1,st1,hR1,hop2⟩:=NM (hop (wd a) w' (λ_ _ _=>False) hR (λ_ _ _ _ _ h=>h.elim)) ho1 hd1;obtain⟨w2,r2,st2,hR2,hq⟩:=NM (hop2 (wd a) w1 (λ_ _ _=>False) hR1 (λ_ _ _ _ _ h=>h.elim)) ho2 hd2;rw [e1] at r1;rw [e2] at r2;obtain⟨hd0,u,hrun,hrest⟩:=MY hrs hroot hHD hD hR2 hq;obtain⟨ty,y,rfl,_⟩:=hbad
  cases hvx with
  | jE _ pv _ hpv =>
   have hv':a.tmps.getD t undef=.func (.func F) #[] #[.pointer (some ⟨b1,0,none⟩),.pointer (some ⟨b2,0,none⟩)]:=hv;rw [hv'] at hdf
   show Leaves P fn a.tmps _ a.defers (.panicking _) w'
   rw [hdf];refine leaves_cons qB (inv b1 b2 w') ((catch_ b1 b2 ty pv w' w1 w2 r1 r2).mono ?_);rintro e u' w'' ⟨rfl,rfl,rfl⟩;exact⟨u,hrun,hrest⟩
 | normal=>obtain⟨_,_,hQ⟩:=he;exact hQ.elim
 | exit id=>obtain⟨_,_,hQ⟩:=he;exact hQ.elim
 | goto l=>obtain⟨_,_,hQ⟩:=he;exact hQ.elim
 | outgrown=>exact he.elim
end
end Go.Hm
end
section

end
section
namespace Go.Hm
open Go Go.RowKit
@[simp] theorem bldSt_eq {T:TypeId} {d:Nat} {st:St}:D1 T d st=((st.kill (.s d)).zT (.s d) (.vw T 2 true [[.sc (.pointer none),.sc (.slice none 0 0)]])).put (some d) (.pt (.s d) 0):=rfl
section
variable {n:Int} {ns:List Int} {s:q8} {k:qX} {p:qC} {w:qU} {ls:List qU} {b i:Nat}
theorem TT:kI 10 (ls++[w])=kI 10 ls++(w++[10]):=xT
end
section
variable {X:Ctx} {st:St} {K:St->Prop} {E:AV->St->Prop} {ty:TypeId} {pos:String} {aft:Array Edge} {g:Option (Nat×Bool)} {dst:Option Nat} {x:Operand} {t:TypeId} {y:AV}
theorem tS (hx:ev st x=.jE t y:=by simp [fx];first|done|rfl) (h:E (.jE t y) st):qn X ⟨dst,.panic x,ty,pos,aft,g⟩ K E st:=by
 intro a w Q hR hQ;have hR':=hR;obtain⟨C,g1,h1,h2,h3,h4,h5,hg⟩:=hR;have hv:=hg.ev x;rw [hx] at hv;have hv':=hv;generalize hu:a.eval x=u at hv
 cases hv with
 | jE _ v _ hv1 =>
  have hrun:(execOp a.eval (⟨dst,.panic x,ty,pos,aft,g⟩:Oper)).run X.P w=.halt (.panic (.iface t v)) w:=by
   simp [execOp,hu,run_panic_iface]
  unfold Oper.wp;rw [hrun,Oper.upon_panic];refine hQ _ w st (.jE t y) ⟨C,g1,h1,h2,h3,h4,h5,hg,?_⟩ h
  simp_all
end
theorem Q0 {s:qU} (hl:s.length<=1) (h:∀ c∈s,48<=c.toNat/\c.toNat<=57):yp s<=9:=by
 rcases s with _|⟨a,_|⟨b,l⟩⟩<;>grind[yp]
theorem tK {c:UInt8} {s:qU}:(zM c s).length<=s.length+1:=by
 induction s<;>grind[zM]
theorem pb {c:UInt8} {s:qU}:∀ w∈zM c s,w.length<=s.length:=by
 induction s<;>grind[zM]
def U6 (K:St->Prop):Ex->St->Prop
 | .normal,s=>K s
 | _,_=>False
section
variable {X:Ctx} {st:St} {K:St->Prop} {E:AV->St->Prop} {d f:Nat} {ty:TypeId} {pos:String} {aft:Array Edge} {g:Option (Nat×Bool)} {args:Array Operand} {Ts:Array TypeId} {bs:List AV} {R:Nm->AV->(Nm->Option AO)->Prop} {Q:Prop}
theorem qBN {x y:Code} {Q:Exit->Go.Act->World->Prop} (h:jD X x (U6 λs=>∀ a w,Rw X s a w->y.wp X.P Q a w) st) {a:Go.Act} {w:World} (hR:Rw X st a w):(Code.seq x y).wp X.P Q a w:=by
 refine wp_seq (wp_mono (h a w hR) λe a' w' he=>?_)
 cases e with
 | normal=>obtain⟨st',hR',hQ⟩:=he;exact hQ a' w' hR'
 | exit id=>obtain⟨_,_,hQ⟩:=he;exact hQ.elim
 | goto l=>obtain⟨_,_,hQ⟩:=he;exact hQ.elim
 | ret=>obtain⟨_,_,hQ⟩:=he;exact hQ.elim
 | panic ch=>obtain⟨_,_,_,_,_,hQ⟩:=he;exact hQ.elim
 | outgrown=>exact he.elim
theorem qBc (hd:d<X.n:=by first|(simp;done)|fail) (ha:args.toList.map (ev st)=bs:=by simp [fx];first|done|rfl) (hF:qZ X.P X.gl f zn bs yP R (cJ Q)) (hE:∀ x H',gL x->Q->E x (st.call d zn yP H')) (h:∀ y H',R (.s d) y H'->K ((st.call d zn yP H').put (some d) y)) :
  qn X ⟨some d,.call ⟨.value (.func f),args,Ts⟩,ty,pos,aft,g⟩ K E st:=by
 subst ha;refine lH (D:=zn) (H:=yP) (R:=R) (E0:=cJ Q) hF (mr hF.1 rfl) false ⟨rfl,λj a a' h h'=>?_⟩ (λ_ _=>rfl) (λn hn=>by cases hn) (λn hn=>absurd rfl hn) (λk i j _=>.inl rfl) (λe he=>qP) (λx H' hR=>?_) (λx H' hx=>?_)
 .rw [h] at h';obtain rfl:=sI h';exact .refl _
 .simp_all
 .exact hE x H' hx.1 hx.2
end
end Go.Hm
end
section
namespace Go.Hm
open Go
theorem Ru {H:Type} {enc:TypeId×Value->H} {a:Assume} {C:Checked} {os:Os} {f:FuncId} {fn:Func} {s:ChangeSpec} {conds:List PathCond} {apart fresh handsOn again:Bool} {X:World->Array Value->Prop}
  (hX:∀ (w w':World) (args:Array Value),w.heap=w'.heap->X w args->X w' args)
  (own:ownKnob C.prog.godebug=none) (started:os.Started) (noInit:C.prog.inits.idxOf? f=none) (hfn:C.prog.funcs[f]?=some fn)
  (witness:∃ (w:World) (tape:Tape) (i:Input),w.os=os/\(w.forCall tape i).Shaped C.prog/\i.vars=[]/\Input.okWide C.prog (w.forCall tape i) .any w.heap.size f i /\
    ((s.pre enc C.prog fn conds apart (w.forCall tape i).memory i.args/\X (w.forCall tape i).memory i.args)/\sizedMet enc C.prog fn (OpenSpec.ofChange s) apart (w.forCall tape i).memory i.args)/\a.holds C.prog (lone (Frame.enter C.prog f i.args .normal) [] (w.forCall tape i)))
  (contract:∀ (W:World) (base:Nat) (args:Array Value) (ds gs:List (DataW H)) (before:List MemPlace),W.ShapedOpen C.prog ->
    (∀ (j:Nat) t v,fn.params[j]?=some t->args[j]?=some v->Value.okWide C.prog W .any base t v) ->
    DataW.Whole enc C.prog fn.params.toList s.vars apart W args.toList ds gs before ->
    conds.all (PathCond.test C.prog ⟨fn.params.toList,ds,s.plain.varTypes C.prog,gs⟩)=true ->
    (DataW.weightsEach C.prog (fn.params.toList++s.plain.varTypes C.prog) (ds++gs)).all (·<=reachBytes)=true->X W args ->
    a.holds C.prog (lone (Frame.enter C.prog f args .normal) [] W) ->
    Calls C.prog f args W λe W'=>∃ v,e=.returned v/\s.post enc C.prog fn apart fresh handsOn again W args v W') :
  ReturnsInHanded a C os f .any (λw args=>(s.pre enc C.prog fn conds apart w args/\X w args)/\sizedMet enc C.prog fn (OpenSpec.ofChange s) apart w args) (s.post enc C.prog fn apart fresh handsOn again):=by
 refine returnsInHanded_of_calls own started noInit witness ?_;intro w tape i _ hsh _ hok hpre hholds;obtain⟨_,_,_,fn',hfn',_,_,_,_,hval⟩:=hok;have e:fn'=fn:=sI (hfn'.symm.trans hfn);subst e;obtain⟨⟨⟨ds,gs,before,hw,hc⟩,hx⟩,hz⟩:=hpre;have hw':=DataW.Whole.of_heap (w':=w.forCall tape i) b8 hw;refine (contract (w.forCall tape i) w.heap.size i.args ds gs before hsh hval hw' hc (hz.weights hw) (hX _ _ _ b8 hx) hholds).mono λe W' ⟨v,he,hp⟩=>?_
 grind[ChangeSpec.post_blind]
end Go.Hm
end
