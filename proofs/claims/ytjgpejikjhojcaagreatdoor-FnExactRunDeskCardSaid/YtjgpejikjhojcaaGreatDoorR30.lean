import Derived.Test.YtjgpejikjhojcaaGreatDoorR24
set_option linter.unusedSimpArgs false
set_option linter.unusedVariables false
set_option maxRecDepth 100000
set_option maxHeartbeats 4000000

section
namespace Go.Proofs.YtjgpejikjhojcaaGreatDoor
open Go Go.Hm Go.Proofs
def ue (s:q8):AV :=
 if s.kind=0 then .jE 245 (.agg [iv s.a]) else if s.kind=1 then .jE 247 (.agg [iv s.a]) else if s.kind=2 then .jE 249 (.agg [iv s.a,iv s.b])
 else if s.kind=3 then .jE 191 (.agg [iv 1,iv s.a]) else if s.kind=4 then .jE 191 (.agg [iv 2,iv s.a]) else if s.kind=5 then .jE 251 (.agg [iv s.a,iv s.b])
 else if s.kind=6 then .jE 253 (.agg [iv s.a,iv s.b]) else if s.kind=7 then .jE 255 (.agg [iv s.a]) else if s.kind=8 then .jE 256 (.agg [iv s.a])
 else if s.kind=9\/s.kind=10 then .jE 257 (.agg []) else if s.kind=11 then .jE 258 (.agg []) else .sc .nilIface
@[simp] theorem formAV_cln (s:q8):(ue s).jU=true:=by
 unfold ue
 repeat' split
 all_goals simp
section
variable {n:Int} {to a b:Int}
@[simp] theorem Qv:ue ⟨0,to,a,b⟩=.jE 245 (.agg [iv a]):=eE
@[simp] theorem Qw:ue ⟨1,to,a,b⟩=.jE 247 (.agg [iv a]):=eE
@[simp] theorem Qz:ue ⟨2,to,a,b⟩=.jE 249 (.agg [iv a,iv b]):=eE
@[simp] theorem RA:ue ⟨3,to,a,b⟩=.jE 191 (.agg [iv 1,iv a]):=eE
@[simp] theorem RB:ue ⟨4,to,a,b⟩=.jE 191 (.agg [iv 2,iv a]):=eE
@[simp] theorem RD:ue ⟨5,to,a,b⟩=.jE 251 (.agg [iv a,iv b]):=eE
@[simp] theorem RE:ue ⟨6,to,a,b⟩=.jE 253 (.agg [iv a,iv b]):=eE
@[simp] theorem RF:ue ⟨7,to,a,b⟩=.jE 255 (.agg [iv a]):=eE
@[simp] theorem RG:ue ⟨8,to,a,b⟩=.jE 256 (.agg [iv a]):=eE
@[simp] theorem RI:ue ⟨9,to,a,b⟩=.jE 257 (.agg []):=eE
@[simp] theorem Qx:ue ⟨10,to,a,b⟩=.jE 257 (.agg []):=eE
@[simp] theorem Qy:ue ⟨11,to,a,b⟩=.jE 258 (.agg []):=eE
theorem J0 {s:q8} (h:¬ (0<=s.kind/\s.kind<=11)):ue s=.sc .nilIface:=by
 unfold ue
 repeat' split
 all_goals first|rfl|omega
theorem CA (n:Int):n=0\/n=1\/n=2\/n=3\/n=4\/n=5\/n=6\/n=7\/n=8\/n=9\/n=10\/n=11\/¬ (0<=n/\n<=11):=qA
end
theorem bf (gl) (s:q8):qM Tryz.prog gl 110 [s.av] (λ_ x _=>x=ue s):=by
 refine qM.q9 Tryz.func110 [.tmp 2] Tryz.ntmps110 λC w g root=>?_
 all_goals have fx:=qd
 repeat' (first|refine zm ?_|refine λ(K:St->Prop) hK=>?_|refine vb (h1:=λht=>?_) (h2:=λht=>?_))
 all_goals try clear fx
 all_goals refine qF [] .nil qE ?_
 all_goals simp_all [ue]
theorem D0 (gl) (s:q8):qM Tryz.prog gl 142 [s.av] (λ_ x _=>x=bv (decide (s.cz\/s.kind=11))):=by
 obtain⟨n,to,a,b⟩:=s;refine qM.q9 Tryz.func142 [.tmp 2] Tryz.ntmps142 λC w g root=>?_;rcases CA n with rfl|rfl|rfl|rfl|rfl|rfl|rfl|rfl|rfl|rfl|rfl|rfl|hn
 case inr.inr.inr.inr.inr.inr.inr.inr.inr.inr.inr.inr =>
  have hf:ue ⟨n,to,a,b⟩=.sc .nilIface:=J0 hn;have fx:= hf;have c1:=bf gl ⟨n,to,a,b⟩;refine qK ?_;clear fx c1;refine qF [] .nil qE ?_;have h1:¬ (0<=n/\n<=6\/n=11):=qA;simp [h1]
 all_goals
  all_goals have fx:=qd
  repeat' (first|refine zm ?_|refine λ(K:St->Prop) hK=>?_|refine zH (hF:=bf _ ⟨_,to,a,b⟩) (h:=?_))
  all_goals try clear fx
 all_goals refine qF [] .nil qE ?_
 all_goals simp
theorem sS (gl) (p:qC) (b:Int):qM Tryz.prog gl 135 [jB p,iv b] (λ_ x _=>x=bv (decide (0<=b/\b<p.length))):=by
 refine qM.q9 Tryz.func135 [.tmp 4] Tryz.ntmps135 λC w g root=>?_
 all_goals have fx:=qd
 repeat' (first|refine zm ?_|refine λ(K:St->Prop) hK=>?_|(with_reducible refine ye (λht=>?_) (λht=>?_)))
 all_goals try clear fx
 all_goals refine qF [] .nil qE ?_
 all_goals simp_all
 all_goals omega
theorem Qq (gl) (i:Nat) (k:qX):qM Tryz.prog gl 108 [iv i,k.av] (λ_ x _=>x=bv (aU i k)):=by
 obtain⟨kind,parent,params,body⟩:=k;refine qM.q9 Tryz.func108 [.tmp 4] Tryz.ntmps108 λC w g root=>?_;rcases params with _|⟨x,_|⟨y,l⟩⟩
 .skip
  all_goals have fx:=qd
  repeat' (first|refine zm ?_|refine λ(K:St->Prop) hK=>?_|(with_reducible refine ye (λht=>?_) (λht=>?_))|refine vb (h1:=λht=>?_) (h2:=λht=>?_))
  all_goals try clear fx
  all_goals refine qF [] .nil qE ?_
  all_goals simp_all [aU,uq]
  all_goals grind
 .skip
  all_goals have fx:=qd
  repeat' (first|refine zm ?_|refine λ(K:St->Prop) hK=>?_|refine zH (hF:=gt _ x) (h:=?_)|(with_reducible refine ye (λht=>?_) (λht=>?_))|refine vb (h1:=λht=>?_) (h2:=λht=>?_))
  all_goals try clear fx
  all_goals refine qF [] .nil qE ?_
  all_goals simp_all [aU,uq]
  all_goals grind
 .have h1:((l.length:Int)+1+1==1)=false:=qu;have h0:((l.length:Int)+1+1==0)=false:=qu
  all_goals have fx:=aI h0<|h1
  repeat' (first|refine zm ?_|refine λ(K:St->Prop) hK=>?_|(with_reducible refine ye (λht=>?_) (λht=>?_))|refine vb (h1:=λht=>?_) (h2:=λht=>?_))
  all_goals try clear fx
  all_goals refine qF [] .nil qE ?_
  all_goals simp_all [aU,uq]
  all_goals grind
theorem Ka {p:qC} {b j:Nat} {q:qX} {d:Int} (hh:zj p) (hq:p[j]?=some q):bC p b j d=((q.kind==d)&&(q.parent==b)):=by
 have hj:j<p.length:=(gS hq).1;obtain⟨_,h2,_⟩:=hh j q hq;simp only [bC,uR,hq];by_cases h:q.parent=b
 .have:(b:Int)+1<=j/\(j:Int)<=p.length - 1:=qA;simp [this]
 .simp [h]
theorem Kb {p:qC} {b:Nat} {j d:Int} (h:¬ (0<=j/\j<p.length)):bC p b j d=false:=by
 have:¬ ((b:Int)+1<=j/\j<=(p.length:Int) - 1):=qA;simp [bC,this]
theorem Ef (gl) (p:qC) (b:Nat) (k:qX) (s:q8) (hk:p[b]?=some k) (hh:zj p) (hd:uq b k):qM Tryz.prog gl 109 [jB p,iv b,s.av] (λ_ x _=>x=bv (zt p b k s)):=by
 obtain⟨n,to,a,c⟩:=s
 have hb0:(k.kind=0)↔b=0:=by
  unfold uq at hd
  split at hd <;> omega
 refine qM.q9 Tryz.func109 [.tmp 6] Tryz.ntmps109 λC w g root=>?_;by_cases hto:0<=to/\to<=7
 case neg =>
  have h1:(decide (0<=to)&&decide (to<=7))=false:=qu;have fx:= h1;have c1:=gt gl to;refine qK ?_;clear fx c1;refine qF [] .nil qE ?_;simp [zt,h1]
 have h1:(decide (0<=to)&&decide (to<=7))=true:=qu;rcases CA n with rfl|rfl|rfl|rfl|rfl|rfl|rfl|rfl|rfl|rfl|rfl|rfl|hn
 case inr.inr.inr.inr.inr.inr.inr.inr.inr.inr.inr.inr =>
  have hf:ue ⟨n,to,a,c⟩=.sc .nilIface:=J0 hn;have fx:=aI h1<|hf;have c1:=gt gl to;have c2:=bf gl ⟨n,to,a,c⟩;refine qK ?_;clear fx c1 c2;refine qF [] .nil qE ?_;have h2:¬ (n=0\/n=1\/n=2\/n=3\/n=4\/n=5\/n=6\/n=7\/n=8\/n=9\/n=10\/n=11):=qA;simp only [not_or] at h2;simp [zt,h2]
 case inr.inr.inr.inl =>
  by_cases ha:0<=a/\a<p.length
  .obtain⟨j,rfl⟩:∃ j:Nat,a=j:=⟨a.toNat,qA⟩;obtain⟨q,hq⟩:∃ q,p[j]?=some q:=⟨_,gE qA⟩;obtain⟨h2,h3⟩:=gS hq
   all_goals have fx:=zD h1 hq h2<|h3
   repeat' (first|refine zm ?_|refine λ(K:St->Prop) hK=>?_|refine zH (hF:=gt _ to) (h:=?_)|refine zH (hF:=bf _ ⟨_,to,_,c⟩) (h:=?_)|refine zH (hF:=sS _ p _) (h:=?_)|(with_reducible refine ye (λht=>?_) (λht=>?_))|refine vb (h1:=λht=>?_) (h2:=λht=>?_))
   all_goals try clear fx
   all_goals refine qF [] .nil qE ?_
   all_goals simp_all [zt,Ka,q8.reads]
  .have h2:¬ (0<=a/\a<p.length):=ha
   all_goals have fx:=aI h1<|h2
   repeat' (first|refine zm ?_|refine λ(K:St->Prop) hK=>?_|refine zH (hF:=gt _ to) (h:=?_)|refine zH (hF:=bf _ ⟨_,to,_,c⟩) (h:=?_)|refine zH (hF:=sS _ p _) (h:=?_)|(with_reducible refine ye (λht=>?_) (λht=>?_))|refine vb (h1:=λht=>?_) (h2:=λht=>?_))
   all_goals try clear fx
   all_goals refine qF [] .nil qE ?_
   all_goals simp [zt,Kb h2]
 case inr.inr.inr.inr.inl =>
  by_cases ha:0<=a/\a<p.length
  .obtain⟨j,rfl⟩:∃ j:Nat,a=j:=⟨a.toNat,qA⟩;obtain⟨q,hq⟩:∃ q,p[j]?=some q:=⟨_,gE qA⟩;obtain⟨h2,h3⟩:=gS hq
   all_goals have fx:=zD h1 hq h2<|h3
   repeat' (first|refine zm ?_|refine λ(K:St->Prop) hK=>?_|refine zH (hF:=gt _ to) (h:=?_)|refine zH (hF:=bf _ ⟨_,to,_,c⟩) (h:=?_)|refine zH (hF:=sS _ p _) (h:=?_)|(with_reducible refine ye (λht=>?_) (λht=>?_))|refine vb (h1:=λht=>?_) (h2:=λht=>?_))
   all_goals try clear fx
   all_goals refine qF [] .nil qE ?_
   all_goals simp_all [zt,Ka,q8.reads]
  .have h2:¬ (0<=a/\a<p.length):=ha
   all_goals have fx:=aI h1<|h2
   repeat' (first|refine zm ?_|refine λ(K:St->Prop) hK=>?_|refine zH (hF:=gt _ to) (h:=?_)|refine zH (hF:=bf _ ⟨_,to,_,c⟩) (h:=?_)|refine zH (hF:=sS _ p _) (h:=?_)|(with_reducible refine ye (λht=>?_) (λht=>?_))|refine vb (h1:=λht=>?_) (h2:=λht=>?_))
   all_goals try clear fx
   all_goals refine qF [] .nil qE ?_
   all_goals simp [zt,Kb h2]
 all_goals
  all_goals have fx:=aI h1<|hk
  repeat' (first|refine zm ?_|refine λ(K:St->Prop) hK=>?_|refine zH (hF:=gt _ _) (h:=?_)|refine zH (hF:=bf _ ⟨_,to,a,c⟩) (h:=?_)|(with_reducible refine ye (λht=>?_) (λht=>?_))|refine vb (h1:=λht=>?_) (h2:=λht=>?_))
  all_goals try clear fx
 all_goals refine qF [] .nil (by simp [hk];rfl) ?_
 all_goals simp_all [zt,q8.reads]
 all_goals first|omega|grind
theorem qAH {s:q8} (h:s.kind=3\/s.kind=4):∃ d,np Tryz.prog 191 (ue s)=some (.zX [.agg [iv d,iv s.a],bv true]):=by
 obtain⟨n,to,a,b⟩:=s;rcases h with h|h
 .simp only at h;subst h;exact⟨1,qB⟩
 .simp only at h;subst h;exact⟨2,qB⟩
theorem qAI {s:q8} (h:¬ (s.kind=3\/s.kind=4)):np Tryz.prog 191 (ue s)=some (.zX [.agg [iv 0,iv 0],bv false]):=by
 simp only [not_or] at h;obtain⟨h3,h4⟩:=h;unfold ue;rw [if_neg h3,if_neg h4]
 repeat' split
 all_goals simp
theorem Jk (gl) (p:qC) (hs:jt p):qM Tryz.prog gl 72 [jB p] (λ_ y _=>y=bv (uk p)):=by
 have hpl:=hs.len;refine qM.q9 Tryz.func72 [.tmp 2] Tryz.ntmps72 λC w g root=>?_
 all_goals have fx:=qd
 repeat' (first|refine zm ?_|refine λ(K:St->Prop) hK=>?_|(with_reducible refine ye (λht=>?_) (λht=>?_))|refine vb (h1:=λht=>?_) (h2:=λht=>?_))
 all_goals try clear fx
 .refine qF [] .nil qE ?_
  have hno:(decide (1<=p.length)&&decide (p.length<=7))=false:=by
   rw [oX];intro h;simp at h ht;omega
  simp only [uk,hno]
  rfl
 .refine qF [] .nil qE ?_
  have hno:(decide (1<=p.length)&&decide (p.length<=7))=false:=by
   rw [oX];intro h;simp at h ht;omega
  simp only [uk,hno]
  rfl
 rename_i ht1
 have hyes:1<=p.length/\p.length<=7:=by
  simp at ht ht1;omega
 clear ht ht1;refine zQ (λn st=>∃ i:Nat,n=p.length - i/\i<=p.length/\st.tm 1=.pt (.s 1) 0/\st.hp (.s 1)=some (.row 1 [[jc p]])/\st.tm 24=jc p/\st.tm 25=iv p.length/\st.tm 26=iv i/\∀ (j:Nat) q,j<i->p[j]?=some q->aU j q=true/\q.body.length<=12) p.length ?_ ?_
 .exact⟨0,qB⟩
 rintro n st - - ⟨i,rfl,hi,h1,hp1,h24,h25,h26,hal⟩;refine qJ ?_<|zN h1 hp1 h24 h25<|h26;refine vC vE (λht=>?_) (λhf=>?_)
 .have hlt:i<p.length:=yW;obtain⟨k,hk⟩:=gX hlt
  have fin:(aU i k=true->¬ k.body.length<=12)->uk p=false:=λh=>by
   have:wn p i=false:=by
    simp only [wn,hk,Bool.and_eq_false_iff,decide_eq_false_iff_not]
    cases hh:aU i k with
    | false=>exact .inl (.inl rfl)
    | true=>exact .inl (.inr (h hh))
   simp only [uk,ld hlt this,Bool.and_false,Bool.false_and]
  have qy:=(hs.ko hk).body;clear ht
  all_goals have fx:=jH h1 hp1 h24 h25 h26<|hk
  repeat' (first|refine zm ?_|refine λ(K:St->Prop) hK=>?_|refine zH (hF:=Qq _ i k) (h:=?_)|(with_reducible refine ye (λht=>?_) (λht=>?_))|refine vb (h1:=λht=>?_) (h2:=λht=>?_))
  all_goals try clear fx
  .refine qF [] .nil qE ?_;rw [fin (λh=>by simp [h] at ht)]
   rfl
  .refine qF [] .nil qE ?_;rw [fin (λ_ h=>by simp at ht;omega)]
   rfl
  .rename_i ht1;refine⟨p.length - (i+1),qA,i+1,rfl,qA,zl,uS,by simp [h24],by simp [h25],jM,λj q hj hq=>?_⟩;rcases BA.1 hj with h|rfl
   .exact hal j q h hq
   .rw [hk] at hq;obtain rfl:=sI hq;refine⟨by simpa using ht1,?_⟩;simp at ht;omega
 have hge:i=p.length:=by
  have:¬ i<p.length:=vT;omega
 subst hge;clear hf hi
 have hal':∀ (j:Nat) q,p[j]?=some q->uq j q/\q.body.length<=12:=λj q hq=>by
  obtain⟨h1,h2⟩:=hal j q (gS hq).1 hq;exact⟨by simpa only [aU,decide_eq_true_eq] using h1,h2⟩
 clear hal;have hh:zj p:=λj q hq=>(hal' j q hq).1.head
 have hb12:∀ q∈p,q.body.length<=12:=λq hq=>by
  obtain⟨j,hj⟩:=wj hq;exact (hal' j q hj).2
 refine qJ ?_<|aI h1<|hp1;refine zQ (λn st=>∃ i:Nat,n=p.length - i/\i<=p.length/\st.tm 1=.pt (.s 1) 0/\st.hp (.s 1)=some (.row 1 [[jc p]])/\st.tm 5=.pt (.s 5) 0/\st.hp (.s 5)=some (.row 7 [(wP p [] i).map iv])/\st.tm 43=jc p/\st.tm 44=iv p.length/\st.tm 45=iv i/\(List.range i).all (wn p)=true) p.length ?_ ?_
 .refine⟨0,qB,qB,zl,uS,qB,?_,qB,qB,qB,qB⟩;simp [wP,bm,aX]
  rfl
 clear h1 hp1 h24 h25 h26;rintro n st - - ⟨i,rfl,hi,h1,hp1,h5,hp5,h43,h44,h45,hal⟩;refine qJ ?_<|zN h1 hp1 h43 h44<|h45;refine vC vE (λht=>?_) (λhf=>?_)
 .have hlt:i<p.length:=yW;obtain⟨k,hk⟩:=gX hlt;have hbf:wn p i=(aU i k&&decide (k.body.length<=12)&&k.body.all (zt p i k)):=by simp only [wn,hk]
  obtain⟨hhd,hbd⟩:=hal' i k hk;have hhd':aU i k=true:=by simpa only [aU,decide_eq_true_eq] using hhd
  clear ht;refine qJ ?_<|jH h1 hp1 h43 h44 h45<|hk;refine zQ (λn st=>∃ j:Nat,n=k.body.length - j/\j<=k.body.length/\st.tm 1=.pt (.s 1) 0/\st.hp (.s 1)=some (.row 1 [[jc p]])/\st.tm 5=.pt (.s 5) 0/\st.hp (.s 5)=some (.row 7 [(wP p (k.body.take j) i).map iv])/\st.tm 43=jc p/\st.tm 44=iv p.length/\st.tm 45=iv i/\st.tm 6=iv i/\st.tm 51=ec k.body/\st.tm 52=iv k.body.length/\st.tm 53=iv j/\(k.body.take j).all (zt p i k)=true) k.body.length ?_ ?_
  .exact⟨0,by simp [h1,hp1,h5,hp5,h43,h44,h45]⟩
  clear h1 hp1 h5 hp5 h43 h44 h45;rintro n st - - ⟨j,rfl,hj,h1,hp1,h5,hp5,h43,h44,h45,h6,h51,h52,h53,haj⟩;refine qJ ?_<|qk h51 h52<|h53;refine vC vE (λht=>?_) (λhf=>?_)
  .have hlj:j<k.body.length:=yW;obtain⟨s,hsj⟩:=gX hlj;clear ht
   cases hok:zt p i k s with
   | false =>
    have fx:=jN h1 hp1 h51 h52 h53 h6 hsj<|hok;have c1:=Ef gl p i k s hk hh hhd;refine qK ?_;clear fx c1;refine qF [] .nil qE ?_;have:wn p i=false:=by rw [hbf,Hd (gM hsj) hok];simp
    simp only [uk,ld hlt this,Bool.and_false,Bool.false_and]
    rfl
   | true =>
    by_cases hm:s.kind=3\/s.kind=4
    .obtain⟨d,hta⟩:=qAH hm
     obtain⟨a,ha,hal7⟩:∃ a:Nat,s.a=a/\a<p.length:=by
      have:∃ d,bC p i s.a d=true:=by
       rcases hm with h|h
       .simp [zt,h] at hok;exact⟨_,hok.2.2⟩
       .simp [zt,h] at hok;exact⟨_,hok.2.2⟩
      obtain⟨d,hd⟩:=this;simp only [bC,ju,decide_eq_true_eq] at hd;exact⟨s.a.toNat,qA,qA⟩
     have ha7:a<7:=qA;have ha8:(a:Int)<7:=qA;rw [ha] at hta;have hget:=Kc (p:=p) (ss:=k.body.take j) (n:=i) ha7;have yX:=Tg (p:=p) (n:=i) hsj ha hm ha7;have hml:(wP p (k.body.take j) i).length=7:=by simp [wP]
     have hw:IntKind.i64.wrap (((bm p a i+aX (k.body.take j) a:Nat):Int)+1)=((bm p a i+aX (k.body.take j) a:Nat):Int)+1:=by
      have h1:=Tj (b:=a) hb12 i;have h2:=Kk (k.body.take j) a;have h3:=List.length_take_le j k.body;exact qm qA qA
     generalize hA:wP p (k.body.take j) i=A at hp5 hget yX hml;generalize hv:((bm p a i+aX (k.body.take j) a:Nat):Int)=v at hget yX hw;obtain⟨_,hge2⟩:=gS hget;have fx:=qh h1 hp1 h5 hp5 h51 h52 h53 h6 hsj hok hta ha7<|zN ha8 hget hge2 hw<|hml;have c1:=Ef gl p i k s hk hh hhd;have c2:=bf gl s;refine qK ?_;clear fx c1 c2;refine⟨k.body.length - (j+1),qA,j+1,rfl,qA,zl,uS,yH,?_,by simp [h43],by simp [h44],by simp [h45],vt,by simp [h51],by simp [h52],jM,?_⟩
     .rw [<- yX,<- S2 qA];simp [hge2,hw]
     .rw [uG,hsj,List.all_append,haj]
      simpa using hok
    .have hta:=qAI hm;have hskip:=Th (p:=p) (n:=i) hsj hm;have fx:=vI h1 hp1 h51 h52 h53 h6 hsj hok<|hta;have c1:=Ef gl p i k s hk hh hhd;have c2:=bf gl s;refine qK ?_;clear fx c1 c2;refine⟨k.body.length - (j+1),qA,j+1,rfl,qA,zl,uS,yH,by simp [hp5,hskip],by simp [h43],by simp [h44],by simp [h45],vt,by simp [h51],by simp [h52],jM,?_⟩;rw [uG,hsj,List.all_append,haj]
     simpa using hok
  .have hge:j=k.body.length:=by
    have:¬ j<k.body.length:=vT;omega
   subst hge;rw [kC] at haj hp5;rw [Tf hk] at hp5;refine qJ ?_<|zD h51 h52 h53<|h45;refine⟨p.length - (i+1),qA,i+1,rfl,qA,zl,uS,yH,wt,by simp [h43],by simp [h44],jM,?_⟩;rw [mL,hal,hbf,hhd',haj]
   simpa using hbd
 .have hge:i=p.length:=by
   have:¬ i<p.length:=vT;omega
  subst hge
  have hshp:uk p=(List.range p.length).all (λi=>i==0||aW p i==1):=by
   simp only [uk,hal,hyes,decide_true,Bool.and_true,fJ]
  have hv:∀ (i:Nat) q,p[i]?=some q->∀ s∈q.body,zt p i q s=true:=λi q hq s hs=>by
   have:=y5.1 hal i (gT.2 (gS hq).1);simp only [wn,hq,ju] at this;exact y5.1 this.2 s hs
  clear hf hi;refine qJ ?_<|zN h1 hp1 h43 h44<|h45;refine zQ (λn st=>∃ i:Nat,n=p.length - i/\i<=p.length/\1<=i/\st.tm 1=.pt (.s 1) 0/\st.hp (.s 1)=some (.row 1 [[jc p]])/\st.tm 5=.pt (.s 5) 0/\st.hp (.s 5)=some (.row 7 [(wP p [] p.length).map iv])/\st.tm 12=iv i/\(List.range i).all (λi=>i==0||aW p i==1)=true) (p.length - 1) ?_ ?_
  .exact⟨1,qA,qA,qA,zl,uS,yH,wt,qB,qB⟩
  clear h1 hp1 h5 hp5 h43 h44 h45;rintro n st - - ⟨i,rfl,hi,hi1,h1,hp1,h5,hp5,h12,hmi⟩;refine qJ ?_<|qk h1 hp1<|h12;refine vC vE (λht=>?_) (λhf=>?_)
  .have hlt:i<p.length:=yW;obtain⟨k,hk⟩:=gX hlt;have hi7:i<7:=qA;have hi8:(i:Int)<7:=qA;have hpk:=(hh i k hk).2.2 qA
   have hget:(wP p [] p.length)[i]?=some (aW p i):=by
    rw [Kc hi7,<- Ti hh hk hv hpk];simp [aX]
   generalize hA:wP p [] p.length=A at hp5 hget;clear ht
   all_goals have fx:=vI h1 hp1 h5 hp5 h12 hi7 hi8 hget<|@qz
   repeat' (first|refine zm ?_|refine λ(K:St->Prop) hK=>?_|(with_reducible refine ye (λht=>?_) (λht=>?_))|refine vb (h1:=λht=>?_) (h2:=λht=>?_))
   all_goals try clear fx
   .refine qF [] .nil qE ?_;rw [hshp,ld hlt (show (i==0||aW p i==1)=false by simp at ht ⊢;exact⟨qA,ht⟩)]
    rfl
   .refine⟨p.length - (i+1),qA,i+1,rfl,qA,qA,zl,uS,yH,wt,jM,?_⟩;rw [mL,hmi];simp at ht ⊢;exact .inr ht
  .have hge:i=p.length:=by
    have:¬ i<p.length:=vT;omega
   subst hge;refine qJ ?_<|qd;refine qF [] .nil fW (by simp [hshp,hmi])
theorem UM (gl) (a:Int):qM Tryz.prog gl 259 [.agg [iv a]] (λr y H'=>y=.hs r 1 0 0/\H' r=some (.row 1 [])):=by
 refine qM.q9 Tryz.func259 [.tmp 2] Tryz.ntmps259 λC w g root=>?_;refine qJ ?_<|qd;exact y7 (t:=2) j7 j7 qB
theorem QL (gl) (a:Int):qM Tryz.prog gl 260 [.agg [iv a]] (λr y H'=>y=.hs r 1 0 1/\H' r=some (.row 1 [[iv a]])):=by
 refine qM.q9 Tryz.func260 [.tmp 2] Tryz.ntmps260 λC w g root=>?_;refine qJ ?_<|qd;exact y7 (t:=2) j7 j7 qB
theorem Od (gl) (a b:Int):qM Tryz.prog gl 261 [.agg [iv a,iv b]] (λr y H'=>y=.hs r 1 0 2/\H' r=some (.row 1 [[iv a],[iv b]])):=by
 refine qM.q9 Tryz.func261 [.tmp 2] Tryz.ntmps261 λC w g root=>?_;refine qJ ?_<|qd;exact y7 (t:=2) j7 j7 qB
theorem Ke (gl) (a b:Int):qM Tryz.prog gl 258 [.agg [iv a,iv b]] (λr y H'=>y=.hs r 1 0 0/\H' r=some (.row 1 [])):=by
 refine qM.q9 Tryz.func258 [.tmp 2] Tryz.ntmps258 λC w g root=>?_;refine qJ ?_<|qd;exact y7 (t:=2) j7 j7 qB
theorem I2 (gl) (a b:Int):qM Tryz.prog gl 235 [.agg [iv a,iv b]] (λr y H'=>y=.hs r 1 0 (if b=-1 then [a] else [a,b]).length/\H' r=some (.row 1 (qj (if b=-1 then [a] else [a,b])))):=by
 refine qM.q9 Tryz.func235 [.tmp 2] Tryz.ntmps235 λC w g root=>?_;by_cases hb:b=-1
 .subst hb;refine qJ ?_<|qd;exact y7 (t:=2) j7 j7 qB
 .have h1:(b == -1)=false:=by simp [hb]
  rw [if_neg hb];refine qJ ?_<| h1;exact y7 (t:=2) j7 j7 qB
theorem Re (gl) (a b:Int):qM Tryz.prog gl 262 [.agg [iv a,iv b]] (λr y H'=>y=.hs r 1 0 1/\H' r=some (.row 1 [[iv a]])):=by
 refine qM.q9 Tryz.func262 [.tmp 2] Tryz.ntmps262 λC w g root=>?_;refine qJ ?_<|qd;exact y7 (t:=2) j7 j7 qB
theorem VW (gl) (a:Int):qM Tryz.prog gl 263 [.agg [iv a]] (λr y H'=>y=.hs r 1 0 1/\H' r=some (.row 1 [[iv a]])):=by
 refine qM.q9 Tryz.func263 [.tmp 2] Tryz.ntmps263 λC w g root=>?_;refine qJ ?_<|qd;exact y7 (t:=2) j7 j7 qB
theorem Xp (gl) (a:Int):qM Tryz.prog gl 264 [.agg [iv a]] (λr y H'=>y=.hs r 1 0 1/\H' r=some (.row 1 [[iv a]])):=by
 refine qM.q9 Tryz.func264 [.tmp 2] Tryz.ntmps264 λC w g root=>?_;refine qJ ?_<|qd;exact y7 (t:=2) j7 j7 qB
theorem Ir (gl):qM Tryz.prog gl 265 [.agg []] (λr y H'=>y=.hs r 1 0 0/\H' r=some (.row 1 [])):=by
 refine qM.q9 Tryz.func265 [.tmp 2] Tryz.ntmps265 λC w g root=>?_;refine qJ ?_<|qd;exact y7 (t:=2) j7 j7 qB
theorem QZ (gl):qM Tryz.prog gl 266 [.agg []] (λr y H'=>y=.hs r 1 0 0/\H' r=some (.row 1 [])):=by
 refine qM.q9 Tryz.func266 [.tmp 2] Tryz.ntmps266 λC w g root=>?_;refine qJ ?_<|qd;exact y7 (t:=2) j7 j7 qB
noncomputable def MG (nm:String):Bool:=decide (ci Tryz.prog 245 nm=some 259)&&decide (ci Tryz.prog 247 nm=some 260)&&decide (ci Tryz.prog 249 nm=some 261)&&decide (ci Tryz.prog 191 nm=some 258)&&decide (ci Tryz.prog 251 nm=some 235)&&decide (ci Tryz.prog 253 nm=some 262)&&decide (ci Tryz.prog 255 nm=some 263)&&decide (ci Tryz.prog 256 nm=some 264)&&decide (ci Tryz.prog 257 nm=some 265)&&decide (ci Tryz.prog 258 nm=some 266)
theorem GB (gl) {nm:String} (hm:MG nm=true) (s:q8) (h:0<=s.kind/\s.kind<=11):HQ Tryz.prog gl nm (ue s) (λr y H'=>y=.hs r 1 0 s.reads.length/\H' r=some (.row 1 (qj s.reads))):=by
 simp only [MG,ju,decide_eq_true_eq] at hm;obtain⟨⟨⟨⟨⟨⟨⟨⟨⟨m_num,m_copy⟩,m_add⟩,m_make⟩,m_call⟩,m_get⟩,m_print⟩,m_return⟩,m_declare⟩,m_drop⟩:=hm;obtain⟨n,to,a,b⟩:=s;rcases CA n with rfl|rfl|rfl|rfl|rfl|rfl|rfl|rfl|rfl|rfl|rfl|rfl|hn
 case inr.inr.inr.inr.inr.inr.inr.inr.inr.inr.inr.inr=>exact absurd h hn
 .exact⟨_,_,_,Qv,m_num,UM _ _⟩
 .exact⟨_,_,_,Qw,m_copy,QL _ _⟩
 .exact⟨_,_,_,Qz,m_add,Od _ _ _⟩
 .exact⟨_,_,_,RA,m_make,Ke _ _ _⟩
 .exact⟨_,_,_,RB,m_make,Ke _ _ _⟩
 .exact⟨_,_,_,RD,m_call,I2 _ _ _⟩
 .exact⟨_,_,_,RE,m_get,Re _ _ _⟩
 .exact⟨_,_,_,RF,m_print,VW _ _⟩
 .exact⟨_,_,_,RG,m_return,Xp _ _⟩
 .exact⟨_,_,_,RI,m_declare,Ir _⟩
 .exact⟨_,_,_,Qx,m_declare,Ir _⟩
 .exact⟨_,_,_,Qy,m_drop,QZ _⟩
theorem QQ (gl) (k:qX) (d:Int) (hn:lz k) (hs:ia k):qM Tryz.prog gl 98 [k.av,iv d] (λ_ y _=>y=.agg (zY (k.dc d))):=by
 have qy:=hs.body;refine qM.q9 Tryz.func98 [.cell 4 169] Tryz.ntmps98 λC w g root=>?_;refine qJ ?_<|qd;refine zQ (λn st=>∃ i:Nat,n=k.body.length - i/\i<=k.body.length/\st.tm 1=iv d/\st.tm 4=.pt (.s 4) 0/\st.hp (.s 4)=some (.row 8 [zY []])/\st.tm 5=.pt (.s 5) 0/\st.hp (.s 5)=some (.row 8 [zY (((k.body.take i).filter (λs=>decide (s.kind=d))).map q8.to)])/\st.tm 9=ec k.body/\st.tm 10=iv k.body.length/\st.tm 11=iv i) k.body.length ?_ ?_
 .exact⟨0,qB,qB,qB,qB,qE,qB,qE,qB,qB,qB⟩
 rintro n st - - ⟨i,rfl,hi,h1,h4,hp4,h5,hp5,h9,h10,h11⟩;refine qJ ?_<|qk h9 h10<|h11;refine vC vE (λht=>?_) (λhf=>?_)
 .have hlt:i<k.body.length:=yW;obtain⟨s,hsi⟩:=gX hlt;have hto:=hn.zB s (gM hsi);obtain⟨x,hx⟩:∃ x:Nat,s.to=x:=⟨s.to.toNat,qA⟩;have hx8:(x:Int)<8:=qA;clear ht;refine qJ ?_<|zN h9 h10 h11 hsi<|h1;refine vC vE (λht=>?_) (λhf=>?_)
  .have hkd:s.kind=d:=yW;refine qJ ?_<|jI h9 h10 h11 h5 hp5 hx<|hx8;refine⟨k.body.length - (i+1),qA,i+1,qB,qA,zl,wv,wu,yH,?_,cO,cN,jM⟩;rw [iT hsi];simp [hkd,<- mQ hx qA]
  .have hkd:¬ s.kind=d:=vT;refine qJ ?_<|qk h9 h10<|h11;refine⟨k.body.length - (i+1),qA,i+1,qB,qA,zl,wv,wu,yH,?_,cO,cN,jM⟩;rw [iT hsi];simp [hkd,hp5]
 .have hge:i=k.body.length:=by
   have:¬ i<k.body.length:=vT;omega
  subst hge;rw [kC] at hp5;refine qJ ?_<|zD h4 hp4 h5<|hp5;refine qF [] .nil BP ?_;simp [qX.dc,BG,mo]
theorem PR (gl) (k:qX) (hn:lz k) (hs:ia k):qM Tryz.prog gl 97 [k.av] (λ_ y _=>y=.agg (zY k.bd)):=by
 have qy:=hs.body;have hpl:=hs.params;refine qM.q9 Tryz.func97 [.cell 2 169] Tryz.ntmps97 λC w g root=>?_;refine qJ ?_<|qd;refine zQ (λn st=>∃ i:Nat,n=k.params.length - i/\i<=k.params.length/\st.tm 1=.pt (.s 1) 0/\st.hp (.s 1)=some (.row 4 [k.cells])/\st.tm 2=.pt (.s 2) 0/\st.hp (.s 2)=some (.row 8 [zY []])/\st.tm 3=.pt (.s 3) 0/\st.hp (.s 3)=some (.row 8 [zY (k.params.take i)])/\st.tm 9=jG k.params/\st.tm 10=iv k.params.length/\st.tm 11=iv i) k.params.length ?_ ?_
 .exact⟨0,qB,qB,qB,qB,qB,qE,qB,qE,qB,qB,qB⟩
 .rintro n st - - ⟨i,rfl,hi,h1,hp1,h2,hp2,h3,hp3,h9,h10,h11⟩;refine qJ ?_<|qk h9 h10<|h11;refine vC vE (λht=>?_) (λhf=>?_)
  .have hlt:i<k.params.length:=yW;obtain⟨y,hy⟩:=gX hlt;have hto:=hn.params y (gM hy);obtain⟨x,rfl⟩:∃ x:Nat,y=x:=⟨y.toNat,qA⟩;have hx8:(x:Int)<8:=qA;clear ht;refine qJ ?_<|jI h9 h10 h11 hy h3 hp3<|hx8;refine⟨k.params.length - (i+1),qA,i+1,qB,qA,zl,uS,ya,yw,uT,?_,cO,cN,jM⟩;rw [uG,hy];simp [<- mQ (y:=(x:Int)) rfl (by omega:x<8)]
  .have hge:i=k.params.length:=by
    have:¬ i<k.params.length:=vT;omega
   subst hge;rw [kC] at hp3;refine qJ ?_<|aI h1<|hp1;refine zQ (λn st=>∃ i:Nat,n=k.body.length - i/\i<=k.body.length/\st.tm 2=.pt (.s 2) 0/\st.hp (.s 2)=some (.row 8 [zY []])/\st.tm 3=.pt (.s 3) 0/\st.hp (.s 3)=some (.row 8 [zY (k.params++((k.body.take i).filter (λs=>decide (s.cz\/s.kind=11))).map q8.to)])/\st.tm 19=ec k.body/\st.tm 20=iv k.body.length/\st.tm 21=iv i) k.body.length ?_ ?_
   .exact⟨0,qB,qB,ya,yw,uT,ma,qB,qB,qB⟩
   clear h1 hp1 h2 hp2 h3 hp3 h9 h10 h11 hf hi;rintro n st - - ⟨i,rfl,hi,h2,hp2,h3,hp3,h19,h20,h21⟩;refine qJ ?_<|qk h19 h20<|h21;refine vC vE (λht=>?_) (λhf=>?_)
   .have hlt:i<k.body.length:=yW;obtain⟨s,hsi⟩:=gX hlt;have hto:=hn.zB s (gM hsi);obtain⟨x,hx⟩:∃ x:Nat,s.to=x:=⟨s.to.toNat,qA⟩;have hx8:(x:Int)<8:=qA;clear ht;have fx:=zD h19 h20 h21<|hsi;have c1:=D0 gl s;refine qK ?_;clear fx c1;refine vC vE (λht=>?_) (λhf=>?_)
    .skip
     refine qJ ?_<|jI h19 h20 h21 h3 hp3 hx<|hx8;refine⟨k.body.length - (i+1),qA,i+1,qB,qA,ya,yw,uT,?_,mX,rx,jM⟩;have hc:decide (s.cz\/s.kind=11)=true:=yW;have hadd:=mQ (l:=k.params++((k.body.take i).filter (λs=>decide (s.cz\/s.kind=11))).map q8.to) hx qA;rw [iT hsi,if_pos hc,mJ];simp at hadd ⊢;exact hadd
    .skip
     refine qJ ?_<|qk h19 h20<|h21;refine⟨k.body.length - (i+1),qA,i+1,qB,qA,ya,yw,uT,?_,mX,rx,jM⟩;have hc:¬ decide (s.cz\/s.kind=11)=true:=vT;rw [iT hsi,if_neg hc];simp [hp3]
   .have hge:i=k.body.length:=by
     have:¬ i<k.body.length:=vT;omega
    subst hge;rw [kC] at hp3;refine qJ ?_<|zD h2 hp2 h3<|hp3;refine qF [] .nil ge ?_;simp [qX.bd,BG,mP]
theorem Xh (gl) (k:qX) (hn:lz k) (hs:ia k):qM Tryz.prog gl 96 [k.av] (λ_ y _=>y=.agg (zY k.rd)):=by
 have qy:=hs.body;refine qM.q9 Tryz.func96 [.cell 2 169] Tryz.ntmps96 λC w g root=>?_;refine qJ ?_<|qd;refine zQ (λn st=>∃ i:Nat,n=k.body.length - i/\i<=k.body.length/\st.tm 2=.pt (.s 2) 0/\st.hp (.s 2)=some (.row 8 [zY []])/\st.tm 3=.pt (.s 3) 0/\st.hp (.s 3)=some (.row 8 [zY (aJ (k.body.take i))])/\st.tm 9=ec k.body/\st.tm 10=iv k.body.length/\st.tm 11=iv i) k.body.length ?_ ?_
 .exact⟨0,qB,qB,qB,qE,qB,qE,qB,qB,qB⟩
 rintro n st - - ⟨i,rfl,hi,h2,hp2,h3,hp3,h9,h10,h11⟩;refine qJ ?_<|qk h9 h10<|h11;refine vC vE (λht=>?_) (λhf=>?_)
 .have hlt:i<k.body.length:=yW;obtain⟨s,hsi⟩:=gX hlt;have hsm:=gM hsi;have hrl:=s.iM;clear ht
  all_goals have fx:=zD h9 h10 h11<|hsi
  repeat' (first|refine zm ?_|refine λ(K:St->Prop) hK=>?_|refine zH (hF:=bf _ s) (h:=?_)|(refine Gu (hF:=GB _ qc s (hn.kinds s hsm)) (h:=?_)))
  all_goals try clear fx
  refine zQ (λn st=>∃ j:Nat,n=s.reads.length - j/\j<=s.reads.length/\st.tm 2=.pt (.s 2) 0/\st.hp (.s 2)=some (.row 8 [zY []])/\st.tm 3=.pt (.s 3) 0/\st.hp (.s 3)=some (.row 8 [zY (aJ (k.body.take i)++s.reads.take j)])/\st.tm 9=ec k.body/\st.tm 10=iv k.body.length/\st.tm 11=iv i/\st.tm 17=.hs (.s 17) 1 0 s.reads.length/\st.hp (.s 17)=some (.row 1 (qj s.reads))/\st.tm 18=iv s.reads.length/\st.tm 19=iv j) s.reads.length ?_ ?_
  .exact⟨0,qB,qB,ya,yw,uT,ma,cO,cN,fR,qB,qB,qB,qB⟩
  clear h2 hp2 h3 hp3 h9 h10 h11;rintro n st - - ⟨j,rfl,hj,h2,hp2,h3,hp3,h9,h10,h11,h17,hp17,h18,h19⟩;refine qJ ?_<|qk h17 h18<|h19;refine vC vE (λht=>?_) (λhf=>?_)
  .have hlj:j<s.reads.length:=yW;obtain⟨y,hy⟩:=gX hlj;have hto:=hn.reads s hsm y (gM hy);obtain⟨x,rfl⟩:∃ x:Nat,y=x:=⟨y.toNat,qA⟩;obtain⟨_,hye⟩:=gS hy;have hx8:(x:Int)<8:=qA;clear ht;refine qJ ?_<|y8 h17 hp17 h18 h19 hy hye hlj h3 hp3<|hx8;refine⟨s.reads.length - (j+1),qA,j+1,qB,qA,ya,yw,uT,?_,cO,cN,fR,by simp [h17],by simp [hp17],oj,jM⟩;have hadd:=mQ (l:=aJ (k.body.take i)++s.reads.take j) (y:=(x:Int)) rfl (by omega:x<8);rw [uG,hy];simp at hadd ⊢;exact hadd
  .have hge:j=s.reads.length:=by
    have:¬ j<s.reads.length:=vT;omega
   subst hge;rw [kC] at hp3;refine qJ ?_<| h11;refine⟨k.body.length - (i+1),qA,i+1,qB,qA,ya,yw,uT,?_,cO,cN,jM⟩;rw [uG,hsi];simp [aJ,hp3]
 .have hge:i=k.body.length:=by
   have:¬ i<k.body.length:=vT;omega
  subst hge;rw [kC] at hp3;refine qJ ?_<|zD h2 hp2 h3<|hp3;refine qF [] .nil ge ?_;simp [qX.rd,BG]
end Go.Proofs.YtjgpejikjhojcaaGreatDoor
end
