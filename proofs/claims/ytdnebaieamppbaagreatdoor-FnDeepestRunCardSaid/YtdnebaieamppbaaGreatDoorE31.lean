import Derived.Test.YtdnebaieamppbaaGreatDoorE28
set_option linter.unusedSimpArgs false
set_option linter.unusedVariables false
set_option maxRecDepth 100000
set_option maxHeartbeats 4000000

section
namespace Go.Proofs.YtdnebaieamppbaaGreatDoor
open Go Go.Hm Go.Proofs
def vd (s:Z9):AV :=
 if s.kind=0 then .ifc 241 (.agg [iv s.a]) else if s.kind=1 then .ifc 190 (.agg [iv s.a]) else if s.kind=2 then .ifc 194 (.agg [iv s.a,iv s.b])
 else if s.kind=3 then .ifc 205 (.agg [iv 1,iv s.a]) else if s.kind=4 then .ifc 205 (.agg [iv 2,iv s.a]) else if s.kind=5 then .ifc 196 (.agg [iv s.a,iv s.b])
 else if s.kind=6 then .ifc 192 (.agg [iv s.a,iv s.b]) else if s.kind=7 then .ifc 198 (.agg [iv s.a]) else if s.kind=8 then .ifc 199 (.agg [iv s.a])
 else if s.kind=9\/s.kind=10 then .ifc 243 (.agg []) else if s.kind=11 then .ifc 244 (.agg []) else .sc .nilIface
@[simp] theorem formAV_cln (s:Z9):(vd s).cln=true:=by
 unfold vd
 repeat' split
 all_goals simp
section
variable {n:Int} {to a b:Int}
@[simp] theorem Qk:vd ⟨0,to,a,b⟩=.ifc 241 (.agg [iv a]):=eu
@[simp] theorem Qj:vd ⟨1,to,a,b⟩=.ifc 190 (.agg [iv a]):=eu
@[simp] theorem Qi:vd ⟨2,to,a,b⟩=.ifc 194 (.agg [iv a,iv b]):=eu
@[simp] theorem Qh:vd ⟨3,to,a,b⟩=.ifc 205 (.agg [iv 1,iv a]):=eu
@[simp] theorem Qg:vd ⟨4,to,a,b⟩=.ifc 205 (.agg [iv 2,iv a]):=eu
@[simp] theorem Qf:vd ⟨5,to,a,b⟩=.ifc 196 (.agg [iv a,iv b]):=eu
@[simp] theorem Qe:vd ⟨6,to,a,b⟩=.ifc 192 (.agg [iv a,iv b]):=eu
@[simp] theorem Qd:vd ⟨7,to,a,b⟩=.ifc 198 (.agg [iv a]):=eu
@[simp] theorem Qc:vd ⟨8,to,a,b⟩=.ifc 199 (.agg [iv a]):=eu
@[simp] theorem Qb:vd ⟨9,to,a,b⟩=.ifc 243 (.agg []):=eu
@[simp] theorem NU:vd ⟨10,to,a,b⟩=.ifc 243 (.agg []):=eu
@[simp] theorem NT:vd ⟨11,to,a,b⟩=.ifc 244 (.agg []):=eu
theorem ED {s:Z9} (h:¬ (0<=s.kind/\s.kind<=11)):vd s=.sc .nilIface:=by
 unfold vd
 repeat' split
 all_goals first|rfl|omega
theorem dC (n:Int):n=0\/n=1\/n=2\/n=3\/n=4\/n=5\/n=6\/n=7\/n=8\/n=9\/n=10\/n=11\/¬ (0<=n/\n<=11):=qA
end
theorem zP (gl) (s:Z9):qb Tryz.prog gl 129 [s.av] (λ_ x _=>x=vd s):=by
 refine qb.Zl Tryz.func129 [.tmp 2] Tryz.ntmps129 λC w g root=>?_
 all_goals have fx:=Zk
 repeat' (first|refine qK ?_|refine λ(K:St->Prop) hK=>?_|refine gn (h1:=λht=>?_) (h2:=λht=>?_))
 all_goals try clear fx
 all_goals refine qD [] .nil qE ?_
 all_goals simp_all [vd]
theorem CW (gl) (s:Z9):qb Tryz.prog gl 173 [s.av] (λ_ x _=>x=bv (decide (s.qBN\/s.kind=11))):=by
 obtain⟨n,to,a,b⟩:=s;refine qb.Zl Tryz.func173 [.tmp 2] Tryz.ntmps173 λC w g root=>?_;rcases dC n with rfl|rfl|rfl|rfl|rfl|rfl|rfl|rfl|rfl|rfl|rfl|rfl|hn
 case inr.inr.inr.inr.inr.inr.inr.inr.inr.inr.inr.inr =>
  have hf:vd ⟨n,to,a,b⟩=.sc .nilIface:=ED hn;have fx:= hf;have c1:=zP gl ⟨n,to,a,b⟩;refine qG ?_;clear fx c1;refine qD [] .nil qE ?_;have h1:¬ (0<=n/\n<=6\/n=11):=qA;simp [h1]
 all_goals
  all_goals have fx:=Zk
  repeat' (first|refine qK ?_|refine λ(K:St->Prop) hK=>?_|refine qJ (hF:=zP _ ⟨_,to,a,b⟩) (h:=?_))
  all_goals try clear fx
 all_goals refine qD [] .nil qE ?_
 all_goals simp
theorem jk (gl) (p:Z0) (b:Int):qb Tryz.prog gl 70 [pav p,iv b] (λ_ x _=>x=bv (decide (0<=b/\b<p.length))):=by
 refine qb.Zl Tryz.func70 [.tmp 4] Tryz.ntmps70 λC w g root=>?_
 all_goals have fx:=Zk
 repeat' (first|refine qK ?_|refine λ(K:St->Prop) hK=>?_|(with_reducible refine dX (λht=>?_) (λht=>?_)))
 all_goals try clear fx
 all_goals refine qD [] .nil qE ?_
 all_goals simp_all
 all_goals omega
theorem Fp (gl) (i:Nat) (k:Za):qb Tryz.prog gl 139 [iv i,k.av] (λ_ x _=>x=bv (qAQ i k)):=by
 obtain⟨kind,parent,params,body⟩:=k;refine qb.Zl Tryz.func139 [.tmp 4] Tryz.ntmps139 λC w g root=>?_;rcases params with _|⟨x,_|⟨y,l⟩⟩
 .skip
  all_goals have fx:=Zk
  repeat' (first|refine qK ?_|refine λ(K:St->Prop) hK=>?_|(with_reducible refine dX (λht=>?_) (λht=>?_))|refine gn (h1:=λht=>?_) (h2:=λht=>?_))
  all_goals try clear fx
  all_goals refine qD [] .nil qE ?_
  all_goals simp_all [qAQ,vG]
  all_goals grind
 .skip
  all_goals have fx:=Zk
  repeat' (first|refine qK ?_|refine λ(K:St->Prop) hK=>?_|refine qJ (hF:=zx _ x) (h:=?_)|(with_reducible refine dX (λht=>?_) (λht=>?_))|refine gn (h1:=λht=>?_) (h2:=λht=>?_))
  all_goals try clear fx
  all_goals refine qD [] .nil qE ?_
  all_goals simp_all [qAQ,vG]
  all_goals grind
 .have h1:((l.length:Int)+1+1==1)=false:=qc;have h0:((l.length:Int)+1+1==0)=false:=qc
  all_goals have fx:=aI h0<|h1
  repeat' (first|refine qK ?_|refine λ(K:St->Prop) hK=>?_|(with_reducible refine dX (λht=>?_) (λht=>?_))|refine gn (h1:=λht=>?_) (h2:=λht=>?_))
  all_goals try clear fx
  all_goals refine qD [] .nil qE ?_
  all_goals simp_all [qAQ,vG]
  all_goals grind
theorem Dn {p:Z0} {b j:Nat} {q:Za} {d:Int} (hh:zS p) (hq:p[j]?=some q):kW p b j d=((q.kind==d)&&(q.parent==b)):=by
 have hj:j<p.length:=(gS hq).1;obtain⟨_,h2,_⟩:=hh j q hq;simp only [kW,b6,hq];by_cases h:q.parent=b
 .have:(b:Int)+1<=j/\(j:Int)<=p.length - 1:=qA;simp [this]
 .simp [h]
theorem Dm {p:Z0} {b:Nat} {j d:Int} (h:¬ (0<=j/\j<p.length)):kW p b j d=false:=by
 have:¬ ((b:Int)+1<=j/\j<=(p.length:Int) - 1):=qA;simp [kW,this]
theorem lP (gl) (p:Z0) (b:Nat) (k:Za) (s:Z9) (hk:p[b]?=some k) (hh:zS p) (hd:vG b k):qb Tryz.prog gl 140 [pav p,iv b,s.av] (λ_ x _=>x=bv (zN p b k s)):=by
 obtain⟨n,to,a,c⟩:=s
 have hb0:(k.kind=0)↔b=0:=by
  unfold vG at hd
  split at hd <;> omega
 refine qb.Zl Tryz.func140 [.tmp 6] Tryz.ntmps140 λC w g root=>?_;by_cases hto:0<=to/\to<=7
 case neg =>
  have h1:(decide (0<=to)&&decide (to<=7))=false:=qc;have fx:= h1;have c1:=zx gl to;refine qG ?_;clear fx c1;refine qD [] .nil qE ?_;simp [zN,h1]
 have h1:(decide (0<=to)&&decide (to<=7))=true:=qc;rcases dC n with rfl|rfl|rfl|rfl|rfl|rfl|rfl|rfl|rfl|rfl|rfl|rfl|hn
 case inr.inr.inr.inr.inr.inr.inr.inr.inr.inr.inr.inr =>
  have hf:vd ⟨n,to,a,c⟩=.sc .nilIface:=ED hn;have fx:=aI h1<|hf;have c1:=zx gl to;have c2:=zP gl ⟨n,to,a,c⟩;refine qG ?_;clear fx c1 c2;refine qD [] .nil qE ?_;have h2:¬ (n=0\/n=1\/n=2\/n=3\/n=4\/n=5\/n=6\/n=7\/n=8\/n=9\/n=10\/n=11):=qA;simp only [not_or] at h2;simp [zN,h2]
 case inr.inr.inr.inl =>
  by_cases ha:0<=a/\a<p.length
  .obtain⟨j,rfl⟩:∃ j:Nat,a=j:=⟨a.toNat,qA⟩;obtain⟨q,hq⟩:∃ q,p[j]?=some q:=⟨_,gE qA⟩;obtain⟨h2,h3⟩:=gS hq
   all_goals have fx:=yE h1 hq h2<|h3
   repeat' (first|refine qK ?_|refine λ(K:St->Prop) hK=>?_|refine qJ (hF:=zx _ to) (h:=?_)|refine qJ (hF:=zP _ ⟨_,to,_,c⟩) (h:=?_)|refine qJ (hF:=jk _ p _) (h:=?_)|(with_reducible refine dX (λht=>?_) (λht=>?_))|refine gn (h1:=λht=>?_) (h2:=λht=>?_))
   all_goals try clear fx
   all_goals refine qD [] .nil qE ?_
   all_goals simp_all [zN,Dn,Z9.reads]
  .have h2:¬ (0<=a/\a<p.length):=ha
   all_goals have fx:=aI h1<|h2
   repeat' (first|refine qK ?_|refine λ(K:St->Prop) hK=>?_|refine qJ (hF:=zx _ to) (h:=?_)|refine qJ (hF:=zP _ ⟨_,to,_,c⟩) (h:=?_)|refine qJ (hF:=jk _ p _) (h:=?_)|(with_reducible refine dX (λht=>?_) (λht=>?_))|refine gn (h1:=λht=>?_) (h2:=λht=>?_))
   all_goals try clear fx
   all_goals refine qD [] .nil qE ?_
   all_goals simp [zN,Dm h2]
 case inr.inr.inr.inr.inl =>
  by_cases ha:0<=a/\a<p.length
  .obtain⟨j,rfl⟩:∃ j:Nat,a=j:=⟨a.toNat,qA⟩;obtain⟨q,hq⟩:∃ q,p[j]?=some q:=⟨_,gE qA⟩;obtain⟨h2,h3⟩:=gS hq
   all_goals have fx:=yE h1 hq h2<|h3
   repeat' (first|refine qK ?_|refine λ(K:St->Prop) hK=>?_|refine qJ (hF:=zx _ to) (h:=?_)|refine qJ (hF:=zP _ ⟨_,to,_,c⟩) (h:=?_)|refine qJ (hF:=jk _ p _) (h:=?_)|(with_reducible refine dX (λht=>?_) (λht=>?_))|refine gn (h1:=λht=>?_) (h2:=λht=>?_))
   all_goals try clear fx
   all_goals refine qD [] .nil qE ?_
   all_goals simp_all [zN,Dn,Z9.reads]
  .have h2:¬ (0<=a/\a<p.length):=ha
   all_goals have fx:=aI h1<|h2
   repeat' (first|refine qK ?_|refine λ(K:St->Prop) hK=>?_|refine qJ (hF:=zx _ to) (h:=?_)|refine qJ (hF:=zP _ ⟨_,to,_,c⟩) (h:=?_)|refine qJ (hF:=jk _ p _) (h:=?_)|(with_reducible refine dX (λht=>?_) (λht=>?_))|refine gn (h1:=λht=>?_) (h2:=λht=>?_))
   all_goals try clear fx
   all_goals refine qD [] .nil qE ?_
   all_goals simp [zN,Dm h2]
 all_goals
  all_goals have fx:=aI h1<|hk
  repeat' (first|refine qK ?_|refine λ(K:St->Prop) hK=>?_|refine qJ (hF:=zx _ _) (h:=?_)|refine qJ (hF:=zP _ ⟨_,to,a,c⟩) (h:=?_)|(with_reducible refine dX (λht=>?_) (λht=>?_))|refine gn (h1:=λht=>?_) (h2:=λht=>?_))
  all_goals try clear fx
 all_goals refine qD [] .nil (by simp [hk];rfl) ?_
 all_goals simp_all [zN,Z9.reads]
 all_goals first|omega|grind
theorem P0 {s:Z9} (h:s.kind=3\/s.kind=4):∃ d,Cq Tryz.prog 205 (vd s)=some (.tup [.agg [iv d,iv s.a],bv true]):=by
 obtain⟨n,to,a,b⟩:=s;rcases h with h|h
 .simp only at h;subst h;exact⟨1,qB⟩
 .simp only at h;subst h;exact⟨2,qB⟩
theorem Ut {s:Z9} (h:¬ (s.kind=3\/s.kind=4)):Cq Tryz.prog 205 (vd s)=some (.tup [.agg [iv 0,iv 0],bv false]):=by
 simp only [not_or] at h;obtain⟨h3,h4⟩:=h;unfold vd;rw [if_neg h3,if_neg h4]
 repeat' split
 all_goals simp
theorem bn (gl) (p:Z0) (hs:Sml p):qb Tryz.prog gl 90 [pav p] (λ_ y _=>y=bv (jh p)):=by
 have hpl:=hs.len;refine qb.Zl Tryz.func90 [.tmp 2] Tryz.ntmps90 λC w g root=>?_
 all_goals have fx:=Zk
 repeat' (first|refine qK ?_|refine λ(K:St->Prop) hK=>?_|(with_reducible refine dX (λht=>?_) (λht=>?_))|refine gn (h1:=λht=>?_) (h2:=λht=>?_))
 all_goals try clear fx
 .refine qD [] .nil qE ?_
  have hno:(decide (1<=p.length)&&decide (p.length<=7))=false:=by
   rw [tz];intro h;simp at h ht;omega
  simp only [jh,hno]
  rfl
 .refine qD [] .nil qE ?_
  have hno:(decide (1<=p.length)&&decide (p.length<=7))=false:=by
   rw [tz];intro h;simp at h ht;omega
  simp only [jh,hno]
  rfl
 rename_i ht1
 have hyes:1<=p.length/\p.length<=7:=by
  simp at ht ht1;omega
 clear ht ht1;refine qX (λn st=>∃ i:Nat,n=p.length - i/\i<=p.length/\st.tm 1=.pt (.s 1) 0/\st.hp (.s 1)=some (.row 1 [[ksl p]])/\st.tm 24=ksl p/\st.tm 25=iv p.length/\st.tm 26=iv i/\∀ (j:Nat) q,j<i->p[j]?=some q->qAQ j q=true/\q.body.length<=12) p.length ?_ ?_
 .exact⟨0,qB⟩
 rintro n st - - ⟨i,rfl,hi,h1,hp1,h24,h25,h26,hal⟩;refine qC ?_<|yS h1 hp1 h24 h25<|h26;refine w9 zU (λht=>?_) (λhf=>?_)
 .have hlt:i<p.length:=zJ;obtain⟨k,hk⟩:=gX hlt
  have fin:(qAQ i k=true->¬ k.body.length<=12)->jh p=false:=λh=>by
   have:qA8 p i=false:=by
    simp only [qA8,hk,Bool.and_eq_false_iff,decide_eq_false_iff_not]
    cases hh:qAQ i k with
    | false=>exact .inl (.inl rfl)
    | true=>exact .inl (.inr (h hh))
   simp only [jh,vT hlt this,Bool.and_false,Bool.false_and]
  have Zs:=(hs.bsm hk).body;clear ht
  all_goals have fx:=uD h1 hp1 h24 h25 h26<|hk
  repeat' (first|refine qK ?_|refine λ(K:St->Prop) hK=>?_|refine qJ (hF:=Fp _ i k) (h:=?_)|(with_reducible refine dX (λht=>?_) (λht=>?_))|refine gn (h1:=λht=>?_) (h2:=λht=>?_))
  all_goals try clear fx
  .refine qD [] .nil qE ?_;rw [fin (λh=>by simp [h] at ht)]
   rfl
  .refine qD [] .nil qE ?_;rw [fin (λ_ h=>by simp at ht;omega)]
   rfl
  .rename_i ht1;refine⟨p.length - (i+1),qA,i+1,rfl,qA,qy,jy,by simp [h24],by simp [h25],zD,λj q hj hq=>?_⟩;rcases E5.1 hj with h|rfl
   .exact hal j q h hq
   .rw [hk] at hq;obtain rfl:=sI hq;refine⟨by simpa using ht1,?_⟩;simp at ht;omega
 have hge:i=p.length:=by
  have:¬ i<p.length:=ze;omega
 subst hge;clear hf hi
 have hal':∀ (j:Nat) q,p[j]?=some q->vG j q/\q.body.length<=12:=λj q hq=>by
  obtain⟨h1,h2⟩:=hal j q (gS hq).1 hq;exact⟨by simpa only [qAQ,decide_eq_true_eq] using h1,h2⟩
 clear hal;have hh:zS p:=λj q hq=>(hal' j q hq).1.head
 have hb12:∀ q∈p,q.body.length<=12:=λq hq=>by
  obtain⟨j,hj⟩:=eW hq;exact (hal' j q hj).2
 refine qC ?_<|aI h1<|hp1;refine qX (λn st=>∃ i:Nat,n=p.length - i/\i<=p.length/\st.tm 1=.pt (.s 1) 0/\st.hp (.s 1)=some (.row 1 [[ksl p]])/\st.tm 5=.pt (.s 5) 0/\st.hp (.s 5)=some (.row 7 [(cw p [] i).map iv])/\st.tm 43=ksl p/\st.tm 44=iv p.length/\st.tm 45=iv i/\(List.range i).all (qA8 p)=true) p.length ?_ ?_
 .refine⟨0,qB,qB,qy,jy,qB,?_,qB,qB,qB,qB⟩;simp [cw,lE,mkN]
  rfl
 clear h1 hp1 h24 h25 h26;rintro n st - - ⟨i,rfl,hi,h1,hp1,h5,hp5,h43,h44,h45,hal⟩;refine qC ?_<|yS h1 hp1 h43 h44<|h45;refine w9 zU (λht=>?_) (λhf=>?_)
 .have hlt:i<p.length:=zJ;obtain⟨k,hk⟩:=gX hlt;have hbf:qA8 p i=(qAQ i k&&decide (k.body.length<=12)&&k.body.all (zN p i k)):=by simp only [qA8,hk]
  obtain⟨hhd,hbd⟩:=hal' i k hk;have hhd':qAQ i k=true:=by simpa only [qAQ,decide_eq_true_eq] using hhd
  clear ht;refine qC ?_<|uD h1 hp1 h43 h44 h45<|hk;refine qX (λn st=>∃ j:Nat,n=k.body.length - j/\j<=k.body.length/\st.tm 1=.pt (.s 1) 0/\st.hp (.s 1)=some (.row 1 [[ksl p]])/\st.tm 5=.pt (.s 5) 0/\st.hp (.s 5)=some (.row 7 [(cw p (k.body.take j) i).map iv])/\st.tm 43=ksl p/\st.tm 44=iv p.length/\st.tm 45=iv i/\st.tm 6=iv i/\st.tm 51=ssl k.body/\st.tm 52=iv k.body.length/\st.tm 53=iv j/\(k.body.take j).all (zN p i k)=true) k.body.length ?_ ?_
  .exact⟨0,by simp [h1,hp1,h5,hp5,h43,h44,h45]⟩
  clear h1 hp1 h5 hp5 h43 h44 h45;rintro n st - - ⟨j,rfl,hj,h1,hp1,h5,hp5,h43,h44,h45,h6,h51,h52,h53,haj⟩;refine qC ?_<|jI h51 h52<|h53;refine w9 zU (λht=>?_) (λhf=>?_)
  .have hlj:j<k.body.length:=zJ;obtain⟨s,hsj⟩:=gX hlj;clear ht
   cases hok:zN p i k s with
   | false =>
    have fx:=kO h1 hp1 h51 h52 h53 h6 hsj<|hok;have c1:=lP gl p i k s hk hh hhd;refine qG ?_;clear fx c1;refine qD [] .nil qE ?_;have:qA8 p i=false:=by rw [hbf,E3 (gM hsj) hok];simp
    simp only [jh,vT hlt this,Bool.and_false,Bool.false_and]
    rfl
   | true =>
    by_cases hm:s.kind=3\/s.kind=4
    .obtain⟨d,hta⟩:=P0 hm
     obtain⟨a,ha,hal7⟩:∃ a:Nat,s.a=a/\a<p.length:=by
      have:∃ d,kW p i s.a d=true:=by
       rcases hm with h|h
       .simp [zN,h] at hok;exact⟨_,hok.2.2⟩
       .simp [zN,h] at hok;exact⟨_,hok.2.2⟩
      obtain⟨d,hd⟩:=this;simp only [kW,ba,decide_eq_true_eq] at hd;exact⟨s.a.toNat,qA,qA⟩
     have ha7:a<7:=qA;have ha8:(a:Int)<7:=qA;rw [ha] at hta;have hget:=Dl (p:=p) (ss:=k.body.take j) (n:=i) ha7;have wF:=Ml (p:=p) (n:=i) hsj ha hm ha7;have hml:(cw p (k.body.take j) i).length=7:=by simp [cw]
     have hw:IntKind.i64.wrap (((lE p a i+mkN (k.body.take j) a:Nat):Int)+1)=((lE p a i+mkN (k.body.take j) a:Nat):Int)+1:=by
      have h1:=QX (b:=a) hb12 i;have h2:=Rq (k.body.take j) a;have h3:=List.length_take_le j k.body;exact Zv qA qA
     generalize hA:cw p (k.body.take j) i=A at hp5 hget wF hml;generalize hv:((lE p a i+mkN (k.body.take j) a:Nat):Int)=v at hget wF hw;obtain⟨_,hge2⟩:=gS hget;have fx:=qU h1 hp1 h5 hp5 h51 h52 h53 h6 hsj hok hta ha7<|yS ha8 hget hge2 hw<|hml;have c1:=lP gl p i k s hk hh hhd;have c2:=zP gl s;refine qG ?_;clear fx c1 c2;refine⟨k.body.length - (j+1),qA,j+1,rfl,qA,qy,jy,z7,?_,by simp [h43],by simp [h44],by simp [h45],j3,ij,ld,zD,?_⟩
     .rw [<- wF,<- WA qA];simp [hge2,hw]
     .rw [uQ,hsj,List.all_append,haj]
      simpa using hok
    .have hta:=Ut hm;have hskip:=Jv (p:=p) (n:=i) hsj hm;have fx:=bA h1 hp1 h51 h52 h53 h6 hsj hok<|hta;have c1:=lP gl p i k s hk hh hhd;have c2:=zP gl s;refine qG ?_;clear fx c1 c2;refine⟨k.body.length - (j+1),qA,j+1,rfl,qA,qy,jy,z7,by simp [hp5,hskip],by simp [h43],by simp [h44],by simp [h45],j3,ij,ld,zD,?_⟩;rw [uQ,hsj,List.all_append,haj]
     simpa using hok
  .have hge:j=k.body.length:=by
    have:¬ j<k.body.length:=ze;omega
   subst hge;rw [an] at haj hp5;rw [Jw hk] at hp5;refine qC ?_<|yE h51 h52 h53<|h45;refine⟨p.length - (i+1),qA,i+1,rfl,qA,qy,jy,z7,kh,by simp [h43],by simp [h44],zD,?_⟩;rw [jz,hal,hbf,hhd',haj]
   simpa using hbd
 .have hge:i=p.length:=by
   have:¬ i<p.length:=ze;omega
  subst hge
  have hshp:jh p=(List.range p.length).all (λi=>i==0||kF p i==1):=by
   simp only [jh,hal,hyes,decide_true,Bool.and_true,pP]
  have hv:∀ (i:Nat) q,p[i]?=some q->∀ s∈q.body,zN p i q s=true:=λi q hq s hs=>by
   have:=dT.1 hal i (gh.2 (gS hq).1);simp only [qA8,hq,ba] at this;exact dT.1 this.2 s hs
  clear hf hi;refine qC ?_<|yS h1 hp1 h43 h44<|h45;refine qX (λn st=>∃ i:Nat,n=p.length - i/\i<=p.length/\1<=i/\st.tm 1=.pt (.s 1) 0/\st.hp (.s 1)=some (.row 1 [[ksl p]])/\st.tm 5=.pt (.s 5) 0/\st.hp (.s 5)=some (.row 7 [(cw p [] p.length).map iv])/\st.tm 12=iv i/\(List.range i).all (λi=>i==0||kF p i==1)=true) (p.length - 1) ?_ ?_
  .exact⟨1,qA,qA,qA,qy,jy,z7,kh,qB,qB⟩
  clear h1 hp1 h5 hp5 h43 h44 h45;rintro n st - - ⟨i,rfl,hi,hi1,h1,hp1,h5,hp5,h12,hmi⟩;refine qC ?_<|jI h1 hp1<|h12;refine w9 zU (λht=>?_) (λhf=>?_)
  .have hlt:i<p.length:=zJ;obtain⟨k,hk⟩:=gX hlt;have hi7:i<7:=qA;have hi8:(i:Int)<7:=qA;have hpk:=(hh i k hk).2.2 qA
   have hget:(cw p [] p.length)[i]?=some (kF p i):=by
    rw [Dl hi7,<- QY hh hk hv hpk];simp [mkN]
   generalize hA:cw p [] p.length=A at hp5 hget;clear ht
   all_goals have fx:=bA h1 hp1 h5 hp5 h12 hi7 hi8 hget<|@qL
   repeat' (first|refine qK ?_|refine λ(K:St->Prop) hK=>?_|(with_reducible refine dX (λht=>?_) (λht=>?_))|refine gn (h1:=λht=>?_) (h2:=λht=>?_))
   all_goals try clear fx
   .refine qD [] .nil qE ?_;rw [hshp,vT hlt (show (i==0||kF p i==1)=false by simp at ht ⊢;exact⟨qA,ht⟩)]
    rfl
   .refine⟨p.length - (i+1),qA,i+1,rfl,qA,qA,qy,jy,z7,kh,zD,?_⟩;rw [jz,hmi];simp at ht ⊢;exact .inr ht
  .have hge:i=p.length:=by
    have:¬ i<p.length:=ze;omega
   subst hge;refine qC ?_<|Zk;refine qD [] .nil bu (by simp [hshp,hmi])
theorem M4 (gl) (a:Int):qb Tryz.prog gl 278 [.agg [iv a]] (λr y H'=>y=.hs r 1 0 0/\H' r=some (.row 1 [])):=by
 refine qb.Zl Tryz.func278 [.tmp 2] Tryz.ntmps278 λC w g root=>?_;refine qC ?_<|Zk;exact jU (t:=2) zg zg qB
theorem KZ (gl) (a:Int):qb Tryz.prog gl 272 [.agg [iv a]] (λr y H'=>y=.hs r 1 0 1/\H' r=some (.row 1 [[iv a]])):=by
 refine qb.Zl Tryz.func272 [.tmp 2] Tryz.ntmps272 λC w g root=>?_;refine qC ?_<|Zk;exact jU (t:=2) zg zg qB
theorem Ob (gl) (a b:Int):qb Tryz.prog gl 274 [.agg [iv a,iv b]] (λr y H'=>y=.hs r 1 0 2/\H' r=some (.row 1 [[iv a],[iv b]])):=by
 refine qb.Zl Tryz.func274 [.tmp 2] Tryz.ntmps274 λC w g root=>?_;refine qC ?_<|Zk;exact jU (t:=2) zg zg qB
theorem xz (gl) (a b:Int):qb Tryz.prog gl 277 [.agg [iv a,iv b]] (λr y H'=>y=.hs r 1 0 0/\H' r=some (.row 1 [])):=by
 refine qb.Zl Tryz.func277 [.tmp 2] Tryz.ntmps277 λC w g root=>?_;refine qC ?_<|Zk;exact jU (t:=2) zg zg qB
theorem AT (gl) (a b:Int):qb Tryz.prog gl 233 [.agg [iv a,iv b]] (λr y H'=>y=.hs r 1 0 (if b=-1 then [a] else [a,b]).length/\H' r=some (.row 1 (qT (if b=-1 then [a] else [a,b])))):=by
 refine qb.Zl Tryz.func233 [.tmp 2] Tryz.ntmps233 λC w g root=>?_;by_cases hb:b=-1
 .subst hb;refine qC ?_<|Zk;exact jU (t:=2) zg zg qB
 .have h1:(b == -1)=false:=by simp [hb]
  rw [if_neg hb];refine qC ?_<| h1;exact jU (t:=2) zg zg qB
theorem NL (gl) (a b:Int):qb Tryz.prog gl 273 [.agg [iv a,iv b]] (λr y H'=>y=.hs r 1 0 1/\H' r=some (.row 1 [[iv a]])):=by
 refine qb.Zl Tryz.func273 [.tmp 2] Tryz.ntmps273 λC w g root=>?_;refine qC ?_<|Zk;exact jU (t:=2) zg zg qB
theorem Fc (gl) (a:Int):qb Tryz.prog gl 275 [.agg [iv a]] (λr y H'=>y=.hs r 1 0 1/\H' r=some (.row 1 [[iv a]])):=by
 refine qb.Zl Tryz.func275 [.tmp 2] Tryz.ntmps275 λC w g root=>?_;refine qC ?_<|Zk;exact jU (t:=2) zg zg qB
theorem DT (gl) (a:Int):qb Tryz.prog gl 276 [.agg [iv a]] (λr y H'=>y=.hs r 1 0 1/\H' r=some (.row 1 [[iv a]])):=by
 refine qb.Zl Tryz.func276 [.tmp 2] Tryz.ntmps276 λC w g root=>?_;refine qC ?_<|Zk;exact jU (t:=2) zg zg qB
theorem mo (gl):qb Tryz.prog gl 279 [.agg []] (λr y H'=>y=.hs r 1 0 0/\H' r=some (.row 1 [])):=by
 refine qb.Zl Tryz.func279 [.tmp 2] Tryz.ntmps279 λC w g root=>?_;refine qC ?_<|Zk;exact jU (t:=2) zg zg qB
theorem KV (gl):qb Tryz.prog gl 280 [.agg []] (λr y H'=>y=.hs r 1 0 0/\H' r=some (.row 1 [])):=by
 refine qb.Zl Tryz.func280 [.tmp 2] Tryz.ntmps280 λC w g root=>?_;refine qC ?_<|Zk;exact jU (t:=2) zg zg qB
noncomputable def ID (nm:String):Bool:=decide (IQ Tryz.prog 241 nm=some 278)&&decide (IQ Tryz.prog 190 nm=some 272)&&decide (IQ Tryz.prog 194 nm=some 274)&&decide (IQ Tryz.prog 205 nm=some 277)&&decide (IQ Tryz.prog 196 nm=some 233)&&decide (IQ Tryz.prog 192 nm=some 273)&&decide (IQ Tryz.prog 198 nm=some 275)&&decide (IQ Tryz.prog 199 nm=some 276)&&decide (IQ Tryz.prog 243 nm=some 279)&&decide (IQ Tryz.prog 244 nm=some 280)
theorem r7 (gl) {nm:String} (hm:ID nm=true) (s:Z9) (h:0<=s.kind/\s.kind<=11):WT Tryz.prog gl nm (vd s) (λr y H'=>y=.hs r 1 0 s.reads.length/\H' r=some (.row 1 (qT s.reads))):=by
 simp only [ID,ba,decide_eq_true_eq] at hm;obtain⟨⟨⟨⟨⟨⟨⟨⟨⟨m_num,m_copy⟩,m_add⟩,m_make⟩,m_call⟩,m_get⟩,m_print⟩,m_return⟩,m_declare⟩,m_drop⟩:=hm;obtain⟨n,to,a,b⟩:=s;rcases dC n with rfl|rfl|rfl|rfl|rfl|rfl|rfl|rfl|rfl|rfl|rfl|rfl|hn
 case inr.inr.inr.inr.inr.inr.inr.inr.inr.inr.inr.inr=>exact absurd h hn
 .exact⟨_,_,_,Qk,m_num,M4 _ _⟩
 .exact⟨_,_,_,Qj,m_copy,KZ _ _⟩
 .exact⟨_,_,_,Qi,m_add,Ob _ _ _⟩
 .exact⟨_,_,_,Qh,m_make,xz _ _ _⟩
 .exact⟨_,_,_,Qg,m_make,xz _ _ _⟩
 .exact⟨_,_,_,Qf,m_call,AT _ _ _⟩
 .exact⟨_,_,_,Qe,m_get,NL _ _ _⟩
 .exact⟨_,_,_,Qd,m_print,Fc _ _⟩
 .exact⟨_,_,_,Qc,m_return,DT _ _⟩
 .exact⟨_,_,_,Qb,m_declare,mo _⟩
 .exact⟨_,_,_,NU,m_declare,mo _⟩
 .exact⟨_,_,_,NT,m_drop,KV _⟩
theorem xT (gl) (k:Za) (d:Int) (hn:qCU k) (hs:BSm k):qb Tryz.prog gl 123 [k.av,iv d] (λ_ y _=>y=.agg (vJ (k.dc d))):=by
 have Zs:=hs.body;refine qb.Zl Tryz.func123 [.cell 4 179] Tryz.ntmps123 λC w g root=>?_;refine qC ?_<|Zk;refine qX (λn st=>∃ i:Nat,n=k.body.length - i/\i<=k.body.length/\st.tm 1=iv d/\st.tm 4=.pt (.s 4) 0/\st.hp (.s 4)=some (.row 8 [vJ []])/\st.tm 5=.pt (.s 5) 0/\st.hp (.s 5)=some (.row 8 [vJ (((k.body.take i).filter (λs=>decide (s.kind=d))).map Z9.to)])/\st.tm 9=ssl k.body/\st.tm 10=iv k.body.length/\st.tm 11=iv i) k.body.length ?_ ?_
 .exact⟨0,qB,qB,qB,qB,qE,qB,qE,qB,qB,qB⟩
 rintro n st - - ⟨i,rfl,hi,h1,h4,hp4,h5,hp5,h9,h10,h11⟩;refine qC ?_<|jI h9 h10<|h11;refine w9 zU (λht=>?_) (λhf=>?_)
 .have hlt:i<k.body.length:=zJ;obtain⟨s,hsi⟩:=gX hlt;have hto:=hn.tos s (gM hsi);obtain⟨x,hx⟩:∃ x:Nat,s.to=x:=⟨s.to.toNat,qA⟩;have hx8:(x:Int)<8:=qA;clear ht;refine qC ?_<|yS h9 h10 h11 hsi<|h1;refine w9 zU (λht=>?_) (λhf=>?_)
  .have hkd:s.kind=d:=zJ;refine qC ?_<|u4 h9 h10 h11 h5 hp5 hx<|hx8;refine⟨k.body.length - (i+1),qA,i+1,qB,qA,qy,jp,kj,z7,?_,b5,bV,zD⟩;rw [zm hsi];simp [hkd,<- aj hx qA]
  .have hkd:¬ s.kind=d:=ze;refine qC ?_<|jI h9 h10<|h11;refine⟨k.body.length - (i+1),qA,i+1,qB,qA,qy,jp,kj,z7,?_,b5,bV,zD⟩;rw [zm hsi];simp [hkd,hp5]
 .have hge:i=k.body.length:=by
   have:¬ i<k.body.length:=ze;omega
  subst hge;rw [an] at hp5;refine qC ?_<|yE h4 hp4 h5<|hp5;refine qD [] .nil CN ?_;simp [Za.dc,eT,bU]
theorem HJ (gl) (k:Za) (hn:qCU k) (hs:BSm k):qb Tryz.prog gl 122 [k.av] (λ_ y _=>y=.agg (vJ k.bd)):=by
 have Zs:=hs.body;have hpl:=hs.params;refine qb.Zl Tryz.func122 [.cell 2 179] Tryz.ntmps122 λC w g root=>?_;refine qC ?_<|Zk;refine qX (λn st=>∃ i:Nat,n=k.params.length - i/\i<=k.params.length/\st.tm 1=.pt (.s 1) 0/\st.hp (.s 1)=some (.row 4 [k.cells])/\st.tm 2=.pt (.s 2) 0/\st.hp (.s 2)=some (.row 8 [vJ []])/\st.tm 3=.pt (.s 3) 0/\st.hp (.s 3)=some (.row 8 [vJ (k.params.take i)])/\st.tm 9=isl k.params/\st.tm 10=iv k.params.length/\st.tm 11=iv i) k.params.length ?_ ?_
 .exact⟨0,qB,qB,qB,qB,qB,qE,qB,qE,qB,qB,qB⟩
 .rintro n st - - ⟨i,rfl,hi,h1,hp1,h2,hp2,h3,hp3,h9,h10,h11⟩;refine qC ?_<|jI h9 h10<|h11;refine w9 zU (λht=>?_) (λhf=>?_)
  .have hlt:i<k.params.length:=zJ;obtain⟨y,hy⟩:=gX hlt;have hto:=hn.params y (gM hy);obtain⟨x,rfl⟩:∃ x:Nat,y=x:=⟨y.toNat,qA⟩;have hx8:(x:Int)<8:=qA;clear ht;refine qC ?_<|u4 h9 h10 h11 hy h3 hp3<|hx8;refine⟨k.params.length - (i+1),qA,i+1,qB,qA,qy,jy,ql,zF,qt,?_,b5,bV,zD⟩;rw [uQ,hy];simp [<- aj (y:=(x:Int)) rfl (by omega:x<8)]
  .have hge:i=k.params.length:=by
    have:¬ i<k.params.length:=ze;omega
   subst hge;rw [an] at hp3;refine qC ?_<|aI h1<|hp1;refine qX (λn st=>∃ i:Nat,n=k.body.length - i/\i<=k.body.length/\st.tm 2=.pt (.s 2) 0/\st.hp (.s 2)=some (.row 8 [vJ []])/\st.tm 3=.pt (.s 3) 0/\st.hp (.s 3)=some (.row 8 [vJ (k.params++((k.body.take i).filter (λs=>decide (s.qBN\/s.kind=11))).map Z9.to)])/\st.tm 19=ssl k.body/\st.tm 20=iv k.body.length/\st.tm 21=iv i) k.body.length ?_ ?_
   .exact⟨0,qB,qB,ql,zF,qt,jv,qB,qB,qB⟩
   clear h1 hp1 h2 hp2 h3 hp3 h9 h10 h11 hf hi;rintro n st - - ⟨i,rfl,hi,h2,hp2,h3,hp3,h19,h20,h21⟩;refine qC ?_<|jI h19 h20<|h21;refine w9 zU (λht=>?_) (λhf=>?_)
   .have hlt:i<k.body.length:=zJ;obtain⟨s,hsi⟩:=gX hlt;have hto:=hn.tos s (gM hsi);obtain⟨x,hx⟩:∃ x:Nat,s.to=x:=⟨s.to.toNat,qA⟩;have hx8:(x:Int)<8:=qA;clear ht;have fx:=yE h19 h20 h21<|hsi;have c1:=CW gl s;refine qG ?_;clear fx c1;refine w9 zU (λht=>?_) (λhf=>?_)
    .skip
     refine qC ?_<|u4 h19 h20 h21 h3 hp3 hx<|hx8;refine⟨k.body.length - (i+1),qA,i+1,qB,qA,ql,zF,qt,?_,gP,oP,zD⟩;have hc:decide (s.qBN\/s.kind=11)=true:=zJ;have hadd:=aj (l:=k.params++((k.body.take i).filter (λs=>decide (s.qBN\/s.kind=11))).map Z9.to) hx qA;rw [zm hsi,if_pos hc,E6];simp at hadd ⊢;exact hadd
    .skip
     refine qC ?_<|jI h19 h20<|h21;refine⟨k.body.length - (i+1),qA,i+1,qB,qA,ql,zF,qt,?_,gP,oP,zD⟩;have hc:¬ decide (s.qBN\/s.kind=11)=true:=ze;rw [zm hsi,if_neg hc];simp [hp3]
   .have hge:i=k.body.length:=by
     have:¬ i<k.body.length:=ze;omega
    subst hge;rw [an] at hp3;refine qC ?_<|yE h2 hp2 h3<|hp3;refine qD [] .nil wJ ?_;simp [Za.bd,eT,uB]
theorem Jl (gl) (k:Za) (hn:qCU k) (hs:BSm k):qb Tryz.prog gl 121 [k.av] (λ_ y _=>y=.agg (vJ k.rd)):=by
 have Zs:=hs.body;refine qb.Zl Tryz.func121 [.cell 2 179] Tryz.ntmps121 λC w g root=>?_;refine qC ?_<|Zk;refine qX (λn st=>∃ i:Nat,n=k.body.length - i/\i<=k.body.length/\st.tm 2=.pt (.s 2) 0/\st.hp (.s 2)=some (.row 8 [vJ []])/\st.tm 3=.pt (.s 3) 0/\st.hp (.s 3)=some (.row 8 [vJ (j8 (k.body.take i))])/\st.tm 9=ssl k.body/\st.tm 10=iv k.body.length/\st.tm 11=iv i) k.body.length ?_ ?_
 .exact⟨0,qB,qB,qB,qE,qB,qE,qB,qB,qB⟩
 rintro n st - - ⟨i,rfl,hi,h2,hp2,h3,hp3,h9,h10,h11⟩;refine qC ?_<|jI h9 h10<|h11;refine w9 zU (λht=>?_) (λhf=>?_)
 .have hlt:i<k.body.length:=zJ;obtain⟨s,hsi⟩:=gX hlt;have hsm:=gM hsi;have hrl:=s.qAX;clear ht
  all_goals have fx:=yE h9 h10 h11<|hsi
  repeat' (first|refine qK ?_|refine λ(K:St->Prop) hK=>?_|refine qJ (hF:=zP _ s) (h:=?_)|(refine LG (hF:=r7 _ qI s (hn.kinds s hsm)) (h:=?_)))
  all_goals try clear fx
  refine qX (λn st=>∃ j:Nat,n=s.reads.length - j/\j<=s.reads.length/\st.tm 2=.pt (.s 2) 0/\st.hp (.s 2)=some (.row 8 [vJ []])/\st.tm 3=.pt (.s 3) 0/\st.hp (.s 3)=some (.row 8 [vJ (j8 (k.body.take i)++s.reads.take j)])/\st.tm 9=ssl k.body/\st.tm 10=iv k.body.length/\st.tm 11=iv i/\st.tm 17=.hs (.s 17) 1 0 s.reads.length/\st.hp (.s 17)=some (.row 1 (qT s.reads))/\st.tm 18=iv s.reads.length/\st.tm 19=iv j) s.reads.length ?_ ?_
  .exact⟨0,qB,qB,ql,zF,qt,jv,b5,bV,vr,qB,qB,qB,qB⟩
  clear h2 hp2 h3 hp3 h9 h10 h11;rintro n st - - ⟨j,rfl,hj,h2,hp2,h3,hp3,h9,h10,h11,h17,hp17,h18,h19⟩;refine qC ?_<|jI h17 h18<|h19;refine w9 zU (λht=>?_) (λhf=>?_)
  .have hlj:j<s.reads.length:=zJ;obtain⟨y,hy⟩:=gX hlj;have hto:=hn.reads s hsm y (gM hy);obtain⟨x,rfl⟩:∃ x:Nat,y=x:=⟨y.toNat,qA⟩;obtain⟨_,hye⟩:=gS hy;have hx8:(x:Int)<8:=qA;clear ht;refine qC ?_<|aJ h17 hp17 h18 h19 hy hye hlj h3 hp3<|hx8;refine⟨s.reads.length - (j+1),qA,j+1,qB,qA,ql,zF,qt,?_,b5,bV,vr,by simp [h17],by simp [hp17],lY,zD⟩;have hadd:=aj (l:=j8 (k.body.take i)++s.reads.take j) (y:=(x:Int)) rfl (by omega:x<8);rw [uQ,hy];simp at hadd ⊢;exact hadd
  .have hge:j=s.reads.length:=by
    have:¬ j<s.reads.length:=ze;omega
   subst hge;rw [an] at hp3;refine qC ?_<| h11;refine⟨k.body.length - (i+1),qA,i+1,qB,qA,ql,zF,qt,?_,b5,bV,zD⟩;rw [uQ,hsi];simp [j8,hp3]
 .have hge:i=k.body.length:=by
   have:¬ i<k.body.length:=ze;omega
  subst hge;rw [an] at hp3;refine qC ?_<|yE h2 hp2 h3<|hp3;refine qD [] .nil wJ ?_;simp [Za.rd,eT]
end Go.Proofs.YtdnebaieamppbaaGreatDoor
end
