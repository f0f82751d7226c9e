import Derived.Test.YtjgpejikjhojcaaGreatDoorD24
set_option linter.all false
set_option maxRecDepth 100000
set_option maxHeartbeats 4000000
open Option renaming some->Z
open Bool renaming true->B,false->M
open List renaming length->O

section
namespace Go.Proofs.YtjgpejikjhojcaaGreatDoor
open Go Go.Hm Go.Proofs
variable{b:Nat}{d:Int}{p:qC}{s:qT}
def kG(s:qT):AV:=
 if s.kind=0 then .jL 245 (.agg [iv s.a])else if s.kind=1 then .jL 247 (.agg [iv s.a])else if s.kind=2 then .jL 249 (.agg [iv s.a,iv s.b])
 else if s.kind=3 then .jL 191 (.agg [iv 1,iv s.a])else if s.kind=4 then .jL 191 (.agg [iv 2,iv s.a])else if s.kind=5 then .jL 251 (.agg [iv s.a,iv s.b])
 else if s.kind=6 then .jL 253 (.agg [iv s.a,iv s.b])else if s.kind=7 then .jL 255 (.agg [iv s.a])else if s.kind=8 then .jL 256 (.agg [iv s.a])
 else if s.kind=9\/s.kind=10 then .jL 257 (.agg [])else if s.kind=11 then .jL 258 (.agg [])else .sc .nilIface
@[simp]theorem formAV_cln(s:qT):(kG s).jX=B:=by
 unfold kG
 repeat' split
 all_goals simp
section
variable{n:Int}{to a b:Int}
@[simp]theorem T4:kG ⟨0,to,a,b⟩=.jL 245 (.agg [iv a]):=fV
@[simp]theorem T5:kG ⟨1,to,a,b⟩=.jL 247 (.agg [iv a]):=fV
@[simp]theorem T8:kG ⟨2,to,a,b⟩=.jL 249 (.agg [iv a,iv b]):=fV
@[simp]theorem T9:kG ⟨3,to,a,b⟩=.jL 191 (.agg [iv 1,iv a]):=fV
@[simp]theorem Ta:kG ⟨4,to,a,b⟩=.jL 191 (.agg [iv 2,iv a]):=fV
@[simp]theorem Tb:kG ⟨5,to,a,b⟩=.jL 251 (.agg [iv a,iv b]):=fV
@[simp]theorem Tc:kG ⟨6,to,a,b⟩=.jL 253 (.agg [iv a,iv b]):=fV
@[simp]theorem Td:kG ⟨7,to,a,b⟩=.jL 255 (.agg [iv a]):=fV
@[simp]theorem Te:kG ⟨8,to,a,b⟩=.jL 256 (.agg [iv a]):=fV
@[simp]theorem Tf:kG ⟨9,to,a,b⟩=.jL 257 (.agg []):=fV
@[simp]theorem T6:kG ⟨10,to,a,b⟩=.jL 257 (.agg []):=fV
@[simp]theorem T7:kG ⟨11,to,a,b⟩=.jL 258 (.agg []):=fV
def L3(h:¬(0<=s.kind/\s.kind<=11)):kG s=.sc .nilIface:=by
 unfold kG
 repeat' split
 all_goals first|rfl|omega
def D7(n:Int):n=0\/n=1\/n=2\/n=3\/n=4\/n=5\/n=6\/n=7\/n=8\/n=9\/n=10\/n=11\/¬(0<=n/\n<=11):=qA
end
theorem cq(gl)(s:qT):qL Tryz.prog gl 110 [s.av] (λ_ x _=>x=kG s):=by
 refine qL.q9 Tryz.func110 [.tmp 2] Tryz.ntmps110 λC w g root=>?_
 all_goals have fx:=qW
 repeat'(first|refine zf ?_|refine λ(K:St->Prop)hK=>?_|refine vr (h1:=λht=>?_) (h2:=λht=>?_))
 all_goals try clear fx
 all_goals refine qE [] .nil qD ?_
 all_goals simp_all[kG]
def FG(gl)(s:qT):qL Tryz.prog gl 142 [s.av] (λ_ x _=>x=bv (decide (s.eK\/s.kind=11))):=by
 obtain⟨n,to,a,b⟩:=s;refine qL.q9 Tryz.func142 [.tmp 2] Tryz.ntmps142 λC w g root=>?_;rcases D7 n with rfl|rfl|rfl|rfl|rfl|rfl|rfl|rfl|rfl|rfl|rfl|rfl|hn
 case inr.inr.inr.inr.inr.inr.inr.inr.inr.inr.inr.inr=>
  have hf:kG ⟨n,to,a,b⟩=.sc .nilIface:=L3 hn;have fx:=hf;have c1:=cq gl ⟨n,to,a,b⟩;refine qK ?_;clear fx c1;refine qE [] .nil qD ?_;have h1:¬(0<=n/\n<=6\/n=11):=qA;simp[h1]
 all_goals
  all_goals have fx:=qW
  repeat'(first|refine zf ?_|refine λ(K:St->Prop)hK=>?_|refine zL (hF:=cq _ ⟨_,to,a,b⟩) (h:=?_))
  all_goals try clear fx
 all_goals refine qE [] .nil qD ?_
 all_goals simp
theorem xJ(gl)(p:qC)(b:Int):qL Tryz.prog gl 135 [jB p,iv b] (λ_ x _=>x=bv (decide (0<=b/\b<O p))):=by
 refine qL.q9 Tryz.func135 [.tmp 4] Tryz.ntmps135 λC w g root=>?_
 all_goals have fx:=qW
 repeat'(first|refine zf ?_|refine λ(K:St->Prop)hK=>?_|(with_reducible refine yr (λht=>?_) (λht=>?_)))
 all_goals try clear fx
 all_goals refine qE [] .nil qD ?_
 all_goals simp_all
 all_goals omega
theorem TT(gl)(i:Nat)(k:qY):qL Tryz.prog gl 108 [iv i,k.av] (λ_ x _=>x=bv (bS i k)):=by
 obtain⟨kind,parent,params,body⟩:=k;refine qL.q9 Tryz.func108 [.tmp 4] Tryz.ntmps108 λC w g root=>?_;rcases params with _|⟨x,_|⟨y,l⟩⟩
 .skip
  all_goals have fx:=qW
  repeat'(first|refine zf ?_|refine λ(K:St->Prop)hK=>?_|(with_reducible refine yr (λht=>?_) (λht=>?_))|refine vr (h1:=λht=>?_) (h2:=λht=>?_))
  all_goals try clear fx
  all_goals refine qE [] .nil qD ?_
  all_goals simp_all[bS,ul]
  all_goals grind
 .skip
  all_goals have fx:=qW
  repeat'(first|refine zf ?_|refine λ(K:St->Prop)hK=>?_|refine zL (hF:=lR _ x) (h:=?_)|(with_reducible refine yr (λht=>?_) (λht=>?_))|refine vr (h1:=λht=>?_) (h2:=λht=>?_))
  all_goals try clear fx
  all_goals refine qE [] .nil qD ?_
  all_goals simp_all[bS,ul]
  all_goals grind
 .have h1:((O l:Int)+1+1==1)=M:=qp;have h0:((O l:Int)+1+1==0)=M:=qp
  all_goals have fx:=aI h0<|h1
  repeat'(first|refine zf ?_|refine λ(K:St->Prop)hK=>?_|(with_reducible refine yr (λht=>?_) (λht=>?_))|refine vr (h1:=λht=>?_) (h2:=λht=>?_))
  all_goals try clear fx
  all_goals refine qE [] .nil qD ?_
  all_goals simp_all[bS,ul]
  all_goals grind
def Md{j:Nat}{q:qY}(hh:ze p)(hq:p[j]?=Z q):bW p b j d=((q.kind==d)&&(q.parent==b)):=by
 have hj:j<O p:=(gS hq).1;obtain⟨_,h2,_⟩:=hh j q hq;simp only[bW,un,hq];by_cases h:q.parent=b
 .have:(b:Int)+1<=j/\(j:Int)<=O p-1:=qA;simp[this]
 .simp [h]
def Me{j:Int}(h:¬(0<=j/\j<O p)):bW p b j d=M:=by
 have:¬((b:Int)+1<=j/\j<=(O p:Int)-1):=qA;simp[bW,this]
theorem GZ(gl)(p:qC)(b:Nat)(k:qY)(s:qT)(hk:p[b]?=Z k)(hh:ze p)(hd:ul b k):qL Tryz.prog gl 109 [jB p,iv b,s.av] (λ_ x _=>x=bv (zp p b k s)):=by
 obtain⟨n,to,a,c⟩:=s
 have hb0:(k.kind=0)↔b=0:=by
  unfold ul at hd
  split at hd<;>omega
 refine qL.q9 Tryz.func109 [.tmp 6] Tryz.ntmps109 λC w g root=>?_;by_cases hto:0<=to/\to<=7
 case neg=>
  have h1:(decide (0<=to)&&decide (to<=7))=M:=qp;have fx:=h1;have c1:=lR gl to;refine qK ?_;clear fx c1;refine qE [] .nil qD ?_;simp[zp,h1]
 have h1:(decide (0<=to)&&decide (to<=7))=B:=qp;rcases D7 n with rfl|rfl|rfl|rfl|rfl|rfl|rfl|rfl|rfl|rfl|rfl|rfl|hn
 case inr.inr.inr.inr.inr.inr.inr.inr.inr.inr.inr.inr=>
  have hf:kG ⟨n,to,a,c⟩=.sc .nilIface:=L3 hn;have fx:=aI h1<|hf;have c1:=lR gl to;have c2:=cq gl ⟨n,to,a,c⟩;refine qK ?_;clear fx c1 c2;refine qE [] .nil qD ?_;have h2:¬(n=0\/n=1\/n=2\/n=3\/n=4\/n=5\/n=6\/n=7\/n=8\/n=9\/n=10\/n=11):=qA;simp only[not_or]at h2;simp[zp,h2]
 case inr.inr.inr.inl=>
  by_cases ha:0<=a/\a<O p
  .obtain⟨j,rfl⟩:∃j:Nat,a=j:=⟨a.toNat,qA⟩;obtain⟨q,hq⟩:∃q,p[j]?=Z q:=⟨_,gE qA⟩;obtain⟨h2,h3⟩:=gS hq
   all_goals have fx:=qz h1 hq h2<|h3
   repeat'(first|refine zf ?_|refine λ(K:St->Prop)hK=>?_|refine zL (hF:=lR _ to) (h:=?_)|refine zL (hF:=cq _ ⟨_,to,_,c⟩) (h:=?_)|refine zL (hF:=xJ _ p _) (h:=?_)|(with_reducible refine yr (λht=>?_) (λht=>?_))|refine vr (h1:=λht=>?_) (h2:=λht=>?_))
   all_goals try clear fx
   all_goals refine qE [] .nil qD ?_
   all_goals simp_all[zp,Md,qT.reads]
  .have h2:¬(0<=a/\a<O p):=ha
   all_goals have fx:=aI h1<|h2
   repeat'(first|refine zf ?_|refine λ(K:St->Prop)hK=>?_|refine zL (hF:=lR _ to) (h:=?_)|refine zL (hF:=cq _ ⟨_,to,_,c⟩) (h:=?_)|refine zL (hF:=xJ _ p _) (h:=?_)|(with_reducible refine yr (λht=>?_) (λht=>?_))|refine vr (h1:=λht=>?_) (h2:=λht=>?_))
   all_goals try clear fx
   all_goals refine qE [] .nil qD ?_
   all_goals simp[zp,Me h2]
 case inr.inr.inr.inr.inl=>
  by_cases ha:0<=a/\a<O p
  .obtain⟨j,rfl⟩:∃j:Nat,a=j:=⟨a.toNat,qA⟩;obtain⟨q,hq⟩:∃q,p[j]?=Z q:=⟨_,gE qA⟩;obtain⟨h2,h3⟩:=gS hq
   all_goals have fx:=qz h1 hq h2<|h3
   repeat'(first|refine zf ?_|refine λ(K:St->Prop)hK=>?_|refine zL (hF:=lR _ to) (h:=?_)|refine zL (hF:=cq _ ⟨_,to,_,c⟩) (h:=?_)|refine zL (hF:=xJ _ p _) (h:=?_)|(with_reducible refine yr (λht=>?_) (λht=>?_))|refine vr (h1:=λht=>?_) (h2:=λht=>?_))
   all_goals try clear fx
   all_goals refine qE [] .nil qD ?_
   all_goals simp_all[zp,Md,qT.reads]
  .have h2:¬(0<=a/\a<O p):=ha
   all_goals have fx:=aI h1<|h2
   repeat'(first|refine zf ?_|refine λ(K:St->Prop)hK=>?_|refine zL (hF:=lR _ to) (h:=?_)|refine zL (hF:=cq _ ⟨_,to,_,c⟩) (h:=?_)|refine zL (hF:=xJ _ p _) (h:=?_)|(with_reducible refine yr (λht=>?_) (λht=>?_))|refine vr (h1:=λht=>?_) (h2:=λht=>?_))
   all_goals try clear fx
   all_goals refine qE [] .nil qD ?_
   all_goals simp[zp,Me h2]
 all_goals
  all_goals have fx:=aI h1<|hk
  repeat'(first|refine zf ?_|refine λ(K:St->Prop)hK=>?_|refine zL (hF:=lR _ _) (h:=?_)|refine zL (hF:=cq _ ⟨_,to,a,c⟩) (h:=?_)|(with_reducible refine yr (λht=>?_) (λht=>?_))|refine vr (h1:=λht=>?_) (h2:=λht=>?_))
  all_goals try clear fx
 all_goals refine qE [] .nil (by simp[hk];rfl) ?_
 all_goals simp_all[zp,qT.reads]
 all_goals first|omega|grind
def qCm(h:s.kind=3\/s.kind=4):∃d,pQ Tryz.prog 191 (kG s)=Z (.zT [.agg [iv d,iv s.a],bv B]):=by
 obtain⟨n,to,a,b⟩:=s;rcases h with h|h
 .simp only at h;subst h;exact⟨1,qB⟩
 .simp only at h;subst h;exact⟨2,qB⟩
def qCn(h:¬(s.kind=3\/s.kind=4)):pQ Tryz.prog 191 (kG s)=Z (.zT [.agg [iv 0,iv 0],bv M]):=by
 simp only[not_or]at h;obtain⟨h3,h4⟩:=h;unfold kG;rw[if_neg h3,if_neg h4]
 repeat' split
 all_goals simp
def Lo(gl)(p:qC)(hs:jm p):qL Tryz.prog gl 72 [jB p] (λ_ y _=>y=bv (kL p)):=by
 have hpl:=hs.len;refine qL.q9 Tryz.func72 [.tmp 2] Tryz.ntmps72 λC w g root=>?_
 all_goals have fx:=qW
 repeat'(first|refine zf ?_|refine λ(K:St->Prop)hK=>?_|(with_reducible refine yr (λht=>?_) (λht=>?_))|refine vr (h1:=λht=>?_) (h2:=λht=>?_))
 all_goals try clear fx
 .refine qE [] .nil qD ?_
  have hno:(decide (1<=O p)&&decide (O p<=7))=M:=by
   rw[rG];intro h;simp at h ht;omega
  simp only[kL,hno]
  rfl
 .refine qE [] .nil qD ?_
  have hno:(decide (1<=O p)&&decide (O p<=7))=M:=by
   rw[rG];intro h;simp at h ht;omega
  simp only[kL,hno]
  rfl
 rename_i ht1
 have hyes:1<=O p/\O p<=7:=by
  simp at ht ht1;omega
 clear ht ht1;refine zK (λn st=>∃i:Nat,n=O p-i/\i<=O p/\st.tm 1=.pt (.s 1) 0/\st.hp (.s 1)=Z (.row 1 [[j6 p]])/\st.tm 24=j6 p/\st.tm 25=iv (O p)/\st.tm 26=iv i/\∀(j:Nat)q,j<i->p[j]?=Z q->bS j q=B/\O q.body<=12) (O p) ?_ ?_
 .exact⟨0,qB⟩
 rintro n st - - ⟨i,rfl,hi,h1,hp1,h24,h25,h26,hal⟩;refine qH ?_<|zJ h1 hp1 h24 h25<|h26;refine yk yq (λht=>?_) (λhf=>?_)
 .have hlt:i<O p:=yJ;obtain⟨k,hk⟩:=gX hlt
  have fin:(bS i k=B->¬O k.body<=12)->kL p=M:=λh=>by
   have:ac p i=M:=by
    simp only[ac,hk,Bool.and_eq_false_iff,decide_eq_false_iff_not]
    cases hh:bS i k with
    |false=>exact .inl (.inl rfl)
    |true=>exact .inl (.inr (h hh))
   simp only[kL,nH hlt this,Bool.and_false,Bool.false_and]
  have qv:=(hs.vu hk).body;clear ht
  all_goals have fx:=zx h1 hp1 h24 h25 h26<|hk
  repeat'(first|refine zf ?_|refine λ(K:St->Prop)hK=>?_|refine zL (hF:=TT _ i k) (h:=?_)|(with_reducible refine yr (λht=>?_) (λht=>?_))|refine vr (h1:=λht=>?_) (h2:=λht=>?_))
  all_goals try clear fx
  .refine qE [] .nil qD ?_;rw[fin (λh=>by simp[h]at ht)]
   rfl
  .refine qE [] .nil qD ?_;rw[fin (λ_ h=>by simp at ht;omega)]
   rfl
  .rename_i ht1;refine⟨O p-(i+1),qA,i+1,rfl,qA,zY,vY,by simp[h24],by simp[h25],zr,λj q hj hq=>?_⟩;rcases CY.1 hj with h|rfl
   .exact hal j q h hq
   .rw [hk]at hq;obtain rfl:=sI hq;refine⟨by simpa using ht1,?_⟩;simp at ht;omega
 have hge:i=O p:=by
  have:¬i<O p:=vP;omega
 subst hge;clear hf hi
 have hal':∀(j:Nat)q,p[j]?=Z q->ul j q/\O q.body<=12:=λj q hq=>by
  obtain⟨h1,h2⟩:=hal j q (gS hq).1 hq;exact⟨by simpa only[bS,decide_eq_true_eq]using h1,h2⟩
 clear hal;have hh:ze p:=λj q hq=>(hal' j q hq).1.head
 have hb12:∀q∈p,O q.body<=12:=λq hq=>by
  obtain⟨j,hj⟩:=ko hq;exact(hal' j q hj).2
 refine qH ?_<|aI h1<|hp1;refine zK (λn st=>∃i:Nat,n=O p-i/\i<=O p/\st.tm 1=.pt (.s 1) 0/\st.hp (.s 1)=Z (.row 1 [[j6 p]])/\st.tm 5=.pt (.s 5) 0/\st.hp (.s 5)=Z (.row 7 [(wz p [] i).map iv])/\st.tm 43=j6 p/\st.tm 44=iv (O p)/\st.tm 45=iv i/\(List.range i).all (ac p)=B) (O p) ?_ ?_
 .refine⟨0,qB,qB,zY,vY,qB,?_,qB,qB,qB,qB⟩;simp[wz,dA,bZ]
  rfl
 clear h1 hp1 h24 h25 h26;rintro n st - - ⟨i,rfl,hi,h1,hp1,h5,hp5,h43,h44,h45,hal⟩;refine qH ?_<|zJ h1 hp1 h43 h44<|h45;refine yk yq (λht=>?_) (λhf=>?_)
 .have hlt:i<O p:=yJ;obtain⟨k,hk⟩:=gX hlt;have hbf:ac p i=(bS i k&&decide (O k.body<=12)&&k.body.all (zp p i k)):=by simp only[ac,hk]
  obtain⟨hhd,hbd⟩:=hal' i k hk;have hhd':bS i k=B:=by simpa only[bS,decide_eq_true_eq]using hhd
  clear ht;refine qH ?_<|zx h1 hp1 h43 h44 h45<|hk;refine zK (λn st=>∃j:Nat,n=O k.body-j/\j<=O k.body/\st.tm 1=.pt (.s 1) 0/\st.hp (.s 1)=Z (.row 1 [[j6 p]])/\st.tm 5=.pt (.s 5) 0/\st.hp (.s 5)=Z (.row 7 [(wz p (k.body.take j) i).map iv])/\st.tm 43=j6 p/\st.tm 44=iv (O p)/\st.tm 45=iv i/\st.tm 6=iv i/\st.tm 51=gD k.body/\st.tm 52=iv (O k.body)/\st.tm 53=iv j/\(k.body.take j).all (zp p i k)=B) (O k.body) ?_ ?_
  .exact⟨0,by simp[h1,hp1,h5,hp5,h43,h44,h45]⟩
  clear h1 hp1 h5 hp5 h43 h44 h45;rintro n st - - ⟨j,rfl,hj,h1,hp1,h5,hp5,h43,h44,h45,h6,h51,h52,h53,haj⟩;refine qH ?_<|ql h51 h52<|h53;refine yk yq (λht=>?_) (λhf=>?_)
  .have hlj:j<O k.body:=yJ;obtain⟨s,hsj⟩:=gX hlj;clear ht
   cases hok:zp p i k s with
   |false=>
    have fx:=jA h1 hp1 h51 h52 h53 h6 hsj<|hok;have c1:=GZ gl p i k s hk hh hhd;refine qK ?_;clear fx c1;refine qE [] .nil qD ?_;have:ac p i=M:=by rw[hbf,Jb (gM hsj) hok];simp
    simp only[kL,nH hlt this,Bool.and_false,Bool.false_and]
    rfl
   |true=>
    by_cases hm:s.kind=3\/s.kind=4
    .obtain⟨d,hta⟩:=qCm hm
     obtain⟨a,ha,hal7⟩:∃a:Nat,s.a=a/\a<O p:=by
      have:∃d,bW p i s.a d=B:=by
       rcases hm with h|h
       .simp [zp,h]at hok;exact⟨_,hok.2.2⟩
       .simp [zp,h]at hok;exact⟨_,hok.2.2⟩
      obtain⟨d,hd⟩:=this;simp only[bW,yF,decide_eq_true_eq]at hd;exact⟨s.a.toNat,qA,qA⟩
     have ha7:a<7:=qA;have ha8:(a:Int)<7:=qA;rw[ha]at hta;have hget:=Mf (p:=p) (ss:=k.body.take j) (n:=i) ha7;have jz:=WF (p:=p) (n:=i) hsj ha hm ha7;have hml:O (wz p (k.body.take j) i)=7:=by simp[wz]
     have hw:IntKind.i64.wrap (((dA p a i+bZ (k.body.take j) a:Nat):Int)+1)=((dA p a i+bZ (k.body.take j) a:Nat):Int)+1:=by
      have h1:=WI (b:=a) hb12 i;have h2:=Mq (k.body.take j) a;have h3:=List.length_take_le j k.body;exact qk qA qA
     generalize hA:wz p (k.body.take j) i=A at hp5 hget jz hml;generalize hv:((dA p a i+bZ (k.body.take j) a:Nat):Int)=v at hget jz hw;obtain⟨_,hge2⟩:=gS hget;have fx:=qg h1 hp1 h5 hp5 h51 h52 h53 h6 hsj hok hta ha7<|zJ ha8 hget hge2 hw<|hml;have c1:=GZ gl p i k s hk hh hhd;have c2:=cq gl s;refine qK ?_;clear fx c1 c2;refine⟨O k.body-(j+1),qA,j+1,rfl,qA,zY,vY,jh,?_,by simp[h43],by simp[h44],by simp[h45],vZ,by simp[h51],by simp[h52],zr,?_⟩
     .rw [<- jz,<- Ur qA];simp[hge2,hw]
     .rw [vd,hsj,List.all_append,haj]
      simpa using hok
    .have hta:=qCn hm;have hskip:=WG (p:=p) (n:=i) hsj hm;have fx:=y9 h1 hp1 h51 h52 h53 h6 hsj hok<|hta;have c1:=GZ gl p i k s hk hh hhd;have c2:=cq gl s;refine qK ?_;clear fx c1 c2;refine⟨O k.body-(j+1),qA,j+1,rfl,qA,zY,vY,jh,by simp[hp5,hskip],by simp[h43],by simp[h44],by simp[h45],vZ,by simp[h51],by simp[h52],zr,?_⟩;rw[vd,hsj,List.all_append,haj]
     simpa using hok
  .have hge:j=O k.body:=by
    have:¬j<O k.body:=vP;omega
   subst hge;rw[kC]at haj hp5;rw[WE hk]at hp5;refine qH ?_<|qz h51 h52 h53<|h45;refine⟨O p-(i+1),qA,i+1,rfl,qA,zY,vY,jh,kw,by simp[h43],by simp[h44],zr,?_⟩;rw[oG,hal,hbf,hhd',haj]
   simpa using hbd
 .have hge:i=O p:=by
   have:¬i<O p:=vP;omega
  subst hge
  have hshp:kL p=(List.range (O p)).all (λi=>i==0||bX p i==1):=by
   simp only[kL,hal,hyes,decide_true,Bool.and_true,gj]
  have hv:∀(i:Nat)q,p[i]?=Z q->∀s∈q.body,zp p i q s=B:=λi q hq s hs=>by
   have:=yn.1 hal i (ix.2 (gS hq).1);simp only[ac,hq,yF]at this;exact yn.1 this.2 s hs
  clear hf hi;refine qH ?_<|zJ h1 hp1 h43 h44<|h45;refine zK (λn st=>∃i:Nat,n=O p-i/\i<=O p/\1<=i/\st.tm 1=.pt (.s 1) 0/\st.hp (.s 1)=Z (.row 1 [[j6 p]])/\st.tm 5=.pt (.s 5) 0/\st.hp (.s 5)=Z (.row 7 [(wz p [] (O p)).map iv])/\st.tm 12=iv i/\(List.range i).all (λi=>i==0||bX p i==1)=B) (O p-1) ?_ ?_
  .exact⟨1,qA,qA,qA,zY,vY,jh,kw,qB,qB⟩
  clear h1 hp1 h5 hp5 h43 h44 h45;rintro n st - - ⟨i,rfl,hi,hi1,h1,hp1,h5,hp5,h12,hmi⟩;refine qH ?_<|ql h1 hp1<|h12;refine yk yq (λht=>?_) (λhf=>?_)
  .have hlt:i<O p:=yJ;obtain⟨k,hk⟩:=gX hlt;have hi7:i<7:=qA;have hi8:(i:Int)<7:=qA;have hpk:=(hh i k hk).2.2 qA
   have hget:(wz p [] (O p))[i]?=Z (bX p i):=by
    rw[Mf hi7,<- WH hh hk hv hpk];simp[bZ]
   generalize hA:wz p [] (O p)=A at hp5 hget;clear ht
   all_goals have fx:=y9 h1 hp1 h5 hp5 h12 hi7 hi8 hget<|@zA
   repeat'(first|refine zf ?_|refine λ(K:St->Prop)hK=>?_|(with_reducible refine yr (λht=>?_) (λht=>?_))|refine vr (h1:=λht=>?_) (h2:=λht=>?_))
   all_goals try clear fx
   .refine qE [] .nil qD ?_;rw[hshp,nH hlt (show(i==0||bX p i==1)=M by simp at ht ⊢;exact⟨qA,ht⟩)]
    rfl
   .refine⟨O p-(i+1),qA,i+1,rfl,qA,qA,zY,vY,jh,kw,zr,?_⟩;rw[oG,hmi];simp at ht ⊢;exact .inr ht
  .have hge:i=O p:=by
    have:¬i<O p:=vP;omega
   subst hge;refine qH ?_<|qW;refine qE [] .nil gx (by simp[hshp,hmi])
def Wi(gl)(a:Int):qL Tryz.prog gl 259 [.agg [iv a]] (λr y H'=>y=.hs r 1 0 0/\H' r=Z (.row 1 [])):=by
 refine qL.q9 Tryz.func259 [.tmp 2] Tryz.ntmps259 λC w g root=>?_;refine qH ?_<|qW;exact yg (t:=2) ji ji qB
def Sa(gl)(a:Int):qL Tryz.prog gl 260 [.agg [iv a]] (λr y H'=>y=.hs r 1 0 1/\H' r=Z (.row 1 [[iv a]])):=by
 refine qL.q9 Tryz.func260 [.tmp 2] Tryz.ntmps260 λC w g root=>?_;refine qH ?_<|qW;exact yg (t:=2) ji ji qB
def Qu(gl)(a b:Int):qL Tryz.prog gl 261 [.agg [iv a,iv b]] (λr y H'=>y=.hs r 1 0 2/\H' r=Z (.row 1 [[iv a],[iv b]])):=by
 refine qL.q9 Tryz.func261 [.tmp 2] Tryz.ntmps261 λC w g root=>?_;refine qH ?_<|qW;exact yg (t:=2) ji ji qB
def Mh(gl)(a b:Int):qL Tryz.prog gl 258 [.agg [iv a,iv b]] (λr y H'=>y=.hs r 1 0 0/\H' r=Z (.row 1 [])):=by
 refine qL.q9 Tryz.func258 [.tmp 2] Tryz.ntmps258 λC w g root=>?_;refine qH ?_<|qW;exact yg (t:=2) ji ji qB
def K5(gl)(a b:Int):qL Tryz.prog gl 235 [.agg [iv a,iv b]] (λr y H'=>y=.hs r 1 0 (O (if b=-1 then[a]else[a,b]))/\H' r=Z (.row 1 (qh (if b=-1 then[a]else[a,b])))):=by
 refine qL.q9 Tryz.func235 [.tmp 2] Tryz.ntmps235 λC w g root=>?_;by_cases hb:b=-1
 .subst hb;refine qH ?_<|qW;exact yg (t:=2) ji ji qB
 .have h1:(b == -1)=M:=by simp[hb]
  rw[if_neg hb];refine qH ?_<| h1;exact yg (t:=2) ji ji qB
def UI(gl)(a b:Int):qL Tryz.prog gl 262 [.agg [iv a,iv b]] (λr y H'=>y=.hs r 1 0 1/\H' r=Z (.row 1 [[iv a]])):=by
 refine qL.q9 Tryz.func262 [.tmp 2] Tryz.ntmps262 λC w g root=>?_;refine qH ?_<|qW;exact yg (t:=2) ji ji qB
def Xt(gl)(a:Int):qL Tryz.prog gl 263 [.agg [iv a]] (λr y H'=>y=.hs r 1 0 1/\H' r=Z (.row 1 [[iv a]])):=by
 refine qL.q9 Tryz.func263 [.tmp 2] Tryz.ntmps263 λC w g root=>?_;refine qH ?_<|qW;exact yg (t:=2) ji ji qB
def qAB(gl)(a:Int):qL Tryz.prog gl 264 [.agg [iv a]] (λr y H'=>y=.hs r 1 0 1/\H' r=Z (.row 1 [[iv a]])):=by
 refine qL.q9 Tryz.func264 [.tmp 2] Tryz.ntmps264 λC w g root=>?_;refine qH ?_<|qW;exact yg (t:=2) ji ji qB
def Ks(gl):qL Tryz.prog gl 265 [.agg []] (λr y H'=>y=.hs r 1 0 0/\H' r=Z (.row 1 [])):=by
 refine qL.q9 Tryz.func265 [.tmp 2] Tryz.ntmps265 λC w g root=>?_;refine qH ?_<|qW;exact yg (t:=2) ji ji qB
def Sr(gl):qL Tryz.prog gl 266 [.agg []] (λr y H'=>y=.hs r 1 0 0/\H' r=Z (.row 1 [])):=by
 refine qL.q9 Tryz.func266 [.tmp 2] Tryz.ntmps266 λC w g root=>?_;refine qH ?_<|qW;exact yg (t:=2) ji ji qB
noncomputable def OL(nm:String):Bool:=decide (dt Tryz.prog 245 nm=Z 259)&&decide (dt Tryz.prog 247 nm=Z 260)&&decide (dt Tryz.prog 249 nm=Z 261)&&decide (dt Tryz.prog 191 nm=Z 258)&&decide (dt Tryz.prog 251 nm=Z 235)&&decide (dt Tryz.prog 253 nm=Z 262)&&decide (dt Tryz.prog 255 nm=Z 263)&&decide (dt Tryz.prog 256 nm=Z 264)&&decide (dt Tryz.prog 257 nm=Z 265)&&decide (dt Tryz.prog 258 nm=Z 266)
def Hy(gl){nm:String}(hm:OL nm=B)(s:qT)(h:0<=s.kind/\s.kind<=11):JR Tryz.prog gl nm (kG s) (λr y H'=>y=.hs r 1 0 (O s.reads)/\H' r=Z (.row 1 (qh s.reads))):=by
 simp only[OL,yF,decide_eq_true_eq]at hm;obtain⟨⟨⟨⟨⟨⟨⟨⟨⟨m_num,m_copy⟩,m_add⟩,m_make⟩,m_call⟩,m_get⟩,m_print⟩,m_return⟩,m_declare⟩,m_drop⟩:=hm;obtain⟨n,to,a,b⟩:=s;rcases D7 n with rfl|rfl|rfl|rfl|rfl|rfl|rfl|rfl|rfl|rfl|rfl|rfl|hn
 case inr.inr.inr.inr.inr.inr.inr.inr.inr.inr.inr.inr=>exact absurd h hn
 .exact⟨_,_,_,T4,m_num,Wi _ _⟩
 .exact⟨_,_,_,T5,m_copy,Sa _ _⟩
 .exact⟨_,_,_,T8,m_add,Qu _ _ _⟩
 .exact⟨_,_,_,T9,m_make,Mh _ _ _⟩
 .exact⟨_,_,_,Ta,m_make,Mh _ _ _⟩
 .exact⟨_,_,_,Tb,m_call,K5 _ _ _⟩
 .exact⟨_,_,_,Tc,m_get,UI _ _ _⟩
 .exact⟨_,_,_,Td,m_print,Xt _ _⟩
 .exact⟨_,_,_,Te,m_return,qAB _ _⟩
 .exact⟨_,_,_,Tf,m_declare,Ks _⟩
 .exact⟨_,_,_,T6,m_declare,Ks _⟩
 .exact⟨_,_,_,T7,m_drop,Sr _⟩
def Sg(gl)(k:qY)(d:Int)(hn:nr k)(hs:lx k):qL Tryz.prog gl 98 [k.av,iv d] (λ_ y _=>y=.agg (z8 (k.dc d))):=by
 have qv:=hs.body;refine qL.q9 Tryz.func98 [.cell 4 169] Tryz.ntmps98 λC w g root=>?_;refine qH ?_<|qW;refine zK (λn st=>∃i:Nat,n=O k.body-i/\i<=O k.body/\st.tm 1=iv d/\st.tm 4=.pt (.s 4) 0/\st.hp (.s 4)=Z (.row 8 [z8 []])/\st.tm 5=.pt (.s 5) 0/\st.hp (.s 5)=Z (.row 8 [z8 (((k.body.take i).filter (λs=>decide (s.kind=d))).map qT.to)])/\st.tm 9=gD k.body/\st.tm 10=iv (O k.body)/\st.tm 11=iv i) (O k.body) ?_ ?_
 .exact⟨0,qB,qB,qB,qB,qD,qB,qD,qB,qB,qB⟩
 rintro n st - - ⟨i,rfl,hi,h1,h4,hp4,h5,hp5,h9,h10,h11⟩;refine qH ?_<|ql h9 h10<|h11;refine yk yq (λht=>?_) (λhf=>?_)
 .have hlt:i<O k.body:=yJ;obtain⟨s,hsi⟩:=gX hlt;have hto:=hn.zE s (gM hsi);obtain⟨x,hx⟩:∃x:Nat,s.to=x:=⟨s.to.toNat,qA⟩;have hx8:(x:Int)<8:=qA;clear ht;refine qH ?_<|zJ h9 h10 h11 hsi<|h1;refine yk yq (λht=>?_) (λhf=>?_)
  .have hkd:s.kind=d:=yJ;refine qH ?_<|zy h9 h10 h11 h5 hp5 hx<|hx8;refine⟨O k.body-(i+1),qA,i+1,qB,qA,zY,vO,aJ,jh,?_,dV,dT,zr⟩;rw[lp hsi];simp[hkd,<- oL hx qA]
  .have hkd:¬s.kind=d:=vP;refine qH ?_<|ql h9 h10<|h11;refine⟨O k.body-(i+1),qA,i+1,qB,qA,zY,vO,aJ,jh,?_,dV,dT,zr⟩;rw[lp hsi];simp[hkd,hp5]
 .have hge:i=O k.body:=by
   have:¬i<O k.body:=vP;omega
  subst hge;rw[kC]at hp5;refine qH ?_<|qz h4 hp4 h5<|hp5;refine qE [] .nil Cj ?_;simp[qY.dc,C6,o9]
def Re(gl)(k:qY)(hn:nr k)(hs:lx k):qL Tryz.prog gl 97 [k.av] (λ_ y _=>y=.agg (z8 k.bd)):=by
 have qv:=hs.body;have hpl:=hs.params;refine qL.q9 Tryz.func97 [.cell 2 169] Tryz.ntmps97 λC w g root=>?_;refine qH ?_<|qW;refine zK (λn st=>∃i:Nat,n=O k.params-i/\i<=O k.params/\st.tm 1=.pt (.s 1) 0/\st.hp (.s 1)=Z (.row 4 [k.cells])/\st.tm 2=.pt (.s 2) 0/\st.hp (.s 2)=Z (.row 8 [z8 []])/\st.tm 3=.pt (.s 3) 0/\st.hp (.s 3)=Z (.row 8 [z8 (k.params.take i)])/\st.tm 9=jO k.params/\st.tm 10=iv (O k.params)/\st.tm 11=iv i) (O k.params) ?_ ?_
 .exact⟨0,qB,qB,qB,qB,qB,qD,qB,qD,qB,qB,qB⟩
 .rintro n st - - ⟨i,rfl,hi,h1,hp1,h2,hp2,h3,hp3,h9,h10,h11⟩;refine qH ?_<|ql h9 h10<|h11;refine yk yq (λht=>?_) (λhf=>?_)
  .have hlt:i<O k.params:=yJ;obtain⟨y,hy⟩:=gX hlt;have hto:=hn.params y (gM hy);obtain⟨x,rfl⟩:∃x:Nat,y=x:=⟨y.toNat,qA⟩;have hx8:(x:Int)<8:=qA;clear ht;refine qH ?_<|zy h9 h10 h11 hy h3 hp3<|hx8;refine⟨O k.params-(i+1),qA,i+1,qB,qA,zY,vY,jS,jV,jr,?_,dV,dT,zr⟩;rw[vd,hy];simp[<- oL (y:=(x:Int)) rfl (by omega:x<8)]
  .have hge:i=O k.params:=by
    have:¬i<O k.params:=vP;omega
   subst hge;rw[kC]at hp3;refine qH ?_<|aI h1<|hp1;refine zK (λn st=>∃i:Nat,n=O k.body-i/\i<=O k.body/\st.tm 2=.pt (.s 2) 0/\st.hp (.s 2)=Z (.row 8 [z8 []])/\st.tm 3=.pt (.s 3) 0/\st.hp (.s 3)=Z (.row 8 [z8 (k.params++((k.body.take i).filter (λs=>decide (s.eK\/s.kind=11))).map qT.to)])/\st.tm 19=gD k.body/\st.tm 20=iv (O k.body)/\st.tm 21=iv i) (O k.body) ?_ ?_
   .exact⟨0,qB,qB,jS,jV,jr,uo,qB,qB,qB⟩
   clear h1 hp1 h2 hp2 h3 hp3 h9 h10 h11 hf hi;rintro n st - - ⟨i,rfl,hi,h2,hp2,h3,hp3,h19,h20,h21⟩;refine qH ?_<|ql h19 h20<|h21;refine yk yq (λht=>?_) (λhf=>?_)
   .have hlt:i<O k.body:=yJ;obtain⟨s,hsi⟩:=gX hlt;have hto:=hn.zE s (gM hsi);obtain⟨x,hx⟩:∃x:Nat,s.to=x:=⟨s.to.toNat,qA⟩;have hx8:(x:Int)<8:=qA;clear ht;have fx:=qz h19 h20 h21<|hsi;have c1:=FG gl s;refine qK ?_;clear fx c1;refine yk yq (λht=>?_) (λhf=>?_)
    .skip
     refine qH ?_<|zy h19 h20 h21 h3 hp3 hx<|hx8;refine⟨O k.body-(i+1),qA,i+1,qB,qA,jS,jV,jr,?_,oY,tS,zr⟩;have hc:decide (s.eK\/s.kind=11)=B:=yJ;have hadd:=oL (l:=k.params++((k.body.take i).filter (λs=>decide (s.eK\/s.kind=11))).map qT.to) hx qA;rw[lp hsi,if_pos hc,rF];simp at hadd ⊢;exact hadd
    .skip
     refine qH ?_<|ql h19 h20<|h21;refine⟨O k.body-(i+1),qA,i+1,qB,qA,jS,jV,jr,?_,oY,tS,zr⟩;have hc:¬decide (s.eK\/s.kind=11)=B:=vP;rw[lp hsi,if_neg hc];simp[hp3]
   .have hge:i=O k.body:=by
     have:¬i<O k.body:=vP;omega
    subst hge;rw[kC]at hp3;refine qH ?_<|qz h2 hp2 h3<|hp3;refine qE [] .nil bp ?_;simp[qY.bd,C6,oK]
def Δ(gl)(k:qY)(hn:nr k)(hs:lx k):qL Tryz.prog gl 96 [k.av] (λ_ y _=>y=.agg (z8 k.rd)):=by
 have qv:=hs.body;refine qL.q9 Tryz.func96 [.cell 2 169] Tryz.ntmps96 λC w g root=>?_;refine qH ?_<|qW;refine zK (λn st=>∃i:Nat,n=O k.body-i/\i<=O k.body/\st.tm 2=.pt (.s 2) 0/\st.hp (.s 2)=Z (.row 8 [z8 []])/\st.tm 3=.pt (.s 3) 0/\st.hp (.s 3)=Z (.row 8 [z8 (aw (k.body.take i))])/\st.tm 9=gD k.body/\st.tm 10=iv (O k.body)/\st.tm 11=iv i) (O k.body) ?_ ?_
 .exact⟨0,qB,qB,qB,qD,qB,qD,qB,qB,qB⟩
 rintro n st - - ⟨i,rfl,hi,h2,hp2,h3,hp3,h9,h10,h11⟩;refine qH ?_<|ql h9 h10<|h11;refine yk yq (λht=>?_) (λhf=>?_)
 .have hlt:i<O k.body:=yJ;obtain⟨s,hsi⟩:=gX hlt;have hsm:=gM hsi;have hrl:=s.lf;clear ht
  all_goals have fx:=qz h9 h10 h11<|hsi
  repeat'(first|refine zf ?_|refine λ(K:St->Prop)hK=>?_|refine zL (hF:=cq _ s) (h:=?_)|(refine Iu (hF:=Hy _ qc s (hn.kinds s hsm)) (h:=?_)))
  all_goals try clear fx
  refine zK (λn st=>∃j:Nat,n=O s.reads-j/\j<=O s.reads/\st.tm 2=.pt (.s 2) 0/\st.hp (.s 2)=Z (.row 8 [z8 []])/\st.tm 3=.pt (.s 3) 0/\st.hp (.s 3)=Z (.row 8 [z8 (aw (k.body.take i)++s.reads.take j)])/\st.tm 9=gD k.body/\st.tm 10=iv (O k.body)/\st.tm 11=iv i/\st.tm 17=.hs (.s 17) 1 0 (O s.reads)/\st.hp (.s 17)=Z (.row 1 (qh s.reads))/\st.tm 18=iv (O s.reads)/\st.tm 19=iv j) (O s.reads) ?_ ?_
  .exact⟨0,qB,qB,jS,jV,jr,uo,dV,dT,gv,qB,qB,qB,qB⟩
  clear h2 hp2 h3 hp3 h9 h10 h11;rintro n st - - ⟨j,rfl,hj,h2,hp2,h3,hp3,h9,h10,h11,h17,hp17,h18,h19⟩;refine qH ?_<|ql h17 h18<|h19;refine yk yq (λht=>?_) (λhf=>?_)
  .have hlj:j<O s.reads:=yJ;obtain⟨y,hy⟩:=gX hlj;have hto:=hn.reads s hsm y (gM hy);obtain⟨x,rfl⟩:∃x:Nat,y=x:=⟨y.toNat,qA⟩;obtain⟨_,hye⟩:=gS hy;have hx8:(x:Int)<8:=qA;clear ht;refine qH ?_<|ya h17 hp17 h18 h19 hy hye hlj h3 hp3<|hx8;refine⟨O s.reads-(j+1),qA,j+1,qB,qA,jS,jV,jr,?_,dV,dT,gv,by simp[h17],by simp[hp17],rV,zr⟩;have hadd:=oL (l:=aw (k.body.take i)++s.reads.take j) (y:=(x:Int)) rfl (by omega:x<8);rw[vd,hy];simp at hadd ⊢;exact hadd
  .have hge:j=O s.reads:=by
    have:¬j<O s.reads:=vP;omega
   subst hge;rw[kC]at hp3;refine qH ?_<| h11;refine⟨O k.body-(i+1),qA,i+1,qB,qA,jS,jV,jr,?_,dV,dT,zr⟩;rw[vd,hsi];simp[aw,hp3]
 .have hge:i=O k.body:=by
   have:¬i<O k.body:=vP;omega
  subst hge;rw[kC]at hp3;refine qH ?_<|qz h2 hp2 h3<|hp3;refine qE [] .nil bp ?_;simp[qY.rd,C6]
end Go.Proofs.YtjgpejikjhojcaaGreatDoor
end
