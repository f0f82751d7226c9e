import Derived.Test.YtjgpejikjhojcaaGreatDoorT23
set_option linter.unusedSimpArgs false
set_option linter.unusedVariables false
set_option maxRecDepth 100000
set_option maxHeartbeats 4000000

section
namespace Go.Proofs.YtjgpejikjhojcaaGreatDoor
open Go Go.Hm Go.Proofs Tryz
abbrev CB:qb:=iI<|.q 10<|.q 11<|.l2 8 [11,10,5,4,3,2,1,0] (.l 9 [11,10,5,4,3,2,1,0]<|.l 12 [5,4,3,2,1,0]<|.q 13<|.l 14 [1,0]<|.l 15 []<|.q 16<|.l 17 []<|.done) 9 [11,10,7,6,5,4,3,2,1,0] (.l 8 [11,10,5,4,3,2,1,0]<|.l 12 [5,4,3,2,1,0]<|.q 13<|.l 14 [1,0]<|.l 15 []<|.q 16<|.l 17 []<|.done)
theorem Pn (gl) (p:qC) (hs:uA p):qM prog gl 141 [yu p] (λr y H'=>y=.agg [.hs r 4 0 p.length]/\uf H' r p):=by
 have hpl:=hs.len;refine qM.qa func141 [.cell 2 34] ntmps141 λC w g root=>?_;have fx:=qS;refine qQ ?_
 repeat ((first|refine qf (id:=6) CB mixed ?_);refine zQ ?_;refine qQ ?_)
 clear fx;refine zU (λn st=>∃ i:Nat,n=p.length - i/\i<=p.length/\st.tm 1=.pt (.s 1) 0/\st.hp (.s 1)=some (.row 1 [[vK p]])/\st.tm 2=.pt (.s 2) 0/\st.hp (.s 2)=some (.row 1 [[.hs (.c (.s 2) 0 0) 4 0 0]])/\st.tm 3=.pt (.s 3) 0/\st.tm 4=iv i/\∃ q:qC,q=p.take i/\q.length=i/\st.hp (.s 3)=some (.row 1 [[.hs (.c (.s 3) 0 0) 4 0 q.length]])/\uf st.hp (.c (.s 3) 0 0) q) p.length ?_ ?_
 .refine⟨0,qA,qA,qB,qB,qB,qB,qB,qB,[],rfl,rfl,qB,qB,qB,qB⟩
 rintro n st - - ⟨i,rfl,hi,h1,hp1,h2,hp2,h3,h4,q,hq,hql,hp3,⟨ht1,ht2,ht3⟩⟩;have fx:=qk h1 hp1<|h4;refine qQ ?_
 repeat ((first|refine qf (id:=6) CB mixed ?_);refine zQ ?_;refine qQ ?_)
 clear fx;refine y8 ya (λht=>?_) (λhf=>?_)
 .have hlt:i<p.length:=yE;obtain⟨k,hk⟩:=gX hlt;obtain⟨hkp,hkb⟩:=hs.uu hk;clear ht
  all_goals have fx:=jQ h1 hp1 h4 h3 hp3 ht1<|hk
  repeat' (first
   | refine wu ?_|refine bV ?_|refine au ?_|refine bW λK hK=>?_
   | ((with_reducible refine kJ hK ?_);clear hK K)
   | (with_reducible first|refine wt ?_|refine bm ?_|refine cE ?_|refine bl ?_|refine aq ?_|refine bN ?_|refine fp ?_|refine bn qc ?_)
   | refine cF ?_
   | refine bX ?_
   | (with_reducible first|refine wQ ?_|refine bY (h:=?_)|refine dh (h:=?_)|refine fw (h:=?_)|refine fz (h:=?_)|refine cG (T:=80) (h:=?_)|refine dC (T:=80) (h:=?_)|refine cG (T:=32) (h:=?_)|refine qAU (T:=32) (h:=?_)|refine iP (h:=?_)|refine dD (h:=?_))
   | ((with_reducible refine nA 190 rfl ?_);refine fy (hF:=I0 _ k.params qA) (h:=?_))
   | (with_reducible refine ww (h:=?_))
   | refine cI (h1:=?_)|refine cH (h1:=?_)
   | (refine qf (id:=6) CB mixed λK hK=>?_)
   | ((with_reducible refine cO hK ?_);clear hK K)
   | ((with_reducible refine aV ?_);first|refine ll (h:=?_)|refine nT (h:=?_)|refine nS (h:=?_)|refine nU (h:=?_))
   | ((with_reducible refine aV ?_);refine nR (h1:=λht=>?_) (h2:=λht=>?_))
   | refine iY rfl ?_|refine lw ?_ ?_|refine lz ?_ ?_ ?_|(with_reducible refine aI ?_ ?_)|exact iK|refine iQ (h2:=?_)
   | fail)
  all_goals try clear fx
  all_goals
   refine⟨p.length - (i+1),qA,i+1,rfl,qA,zx,vI,jp,jq,jj,zw,q++[k],by rw [vM,hk,hq];rfl,by simp [hql],qB,⟨?_,?_,?_⟩⟩
   .simp [ht1,By]
   .intro j r hj;rcases aC j q.length with hlj|hgj
    .rw [vn hlj] at hj;have hne:¬ j=q.length:=qA;simp [ht2 j r hj,hne]
    .rw [kD hgj] at hj
     obtain rfl:j=q.length:=by
      have:=(gS hj).1;simp at this;omega
     simp at hj;subst hj;simp
   .intro j r hj;rcases aC j q.length with hlj|hgj
    .rw [vn hlj] at hj;have hne:¬ j=q.length:=qA;simp [ht3 j r hj,hne]
    .rw [kD hgj] at hj
     obtain rfl:j=q.length:=by
      have:=(gS hj).1;simp at this;omega
     simp at hj;subst hj;simp
 .have hge:i=p.length:=by
   have:¬ i<p.length:=vH;omega
  have hqp:q=p:=by rw [hq,hge,wD]
  subst hqp;have fx:=zM h1 h2 hp2 h3<|hp3;refine qQ ?_
  repeat ((first|refine qf (id:=6) CB mixed ?_);refine zQ ?_;refine qQ ?_)
  clear fx;refine qG [(.c (.s 3) 0 0,root)] (.one rfl) bI ⟨qB,⟨?_,λj r hj=>?_,λj r hj=>?_⟩⟩
  .simp [ht1,kr (n:=.c (.s 3) 0 0) (m:=root) (f:=zE zf [(.c (.s 3) 0 0,root)]) (p:=q) qB]
  .simp [ht2 j r hj]
  .simp [ht3 j r hj]
def ul (s:qP):AV :=
 if s.kind=0 then .zp 245 (.agg [iv s.a]) else if s.kind=1 then .zp 247 (.agg [iv s.a]) else if s.kind=2 then .zp 249 (.agg [iv s.a,iv s.b])
 else if s.kind=3 then .zp 191 (.agg [iv 1,iv s.a]) else if s.kind=4 then .zp 191 (.agg [iv 2,iv s.a]) else if s.kind=5 then .zp 251 (.agg [iv s.a,iv s.b])
 else if s.kind=6 then .zp 253 (.agg [iv s.a,iv s.b]) else if s.kind=7 then .zp 255 (.agg [iv s.a]) else if s.kind=8 then .zp 256 (.agg [iv s.a])
 else if s.kind=9\/s.kind=10 then .zp 257 (.agg []) else if s.kind=11 then .zp 258 (.agg []) else .sc .nilIface
@[simp] theorem formAV_cln (s:qP):(ul s).jE=true:=by
 unfold ul
 repeat' split
 all_goals simp
section
variable {n:Int} {to a b:Int}
@[simp] theorem Qg:ul ⟨0,to,a,b⟩=.zp 245 (.agg [iv a]):=eD
@[simp] theorem Qh:ul ⟨1,to,a,b⟩=.zp 247 (.agg [iv a]):=eD
@[simp] theorem Qk:ul ⟨2,to,a,b⟩=.zp 249 (.agg [iv a,iv b]):=eD
@[simp] theorem Ql:ul ⟨3,to,a,b⟩=.zp 191 (.agg [iv 1,iv a]):=eD
@[simp] theorem Qm:ul ⟨4,to,a,b⟩=.zp 191 (.agg [iv 2,iv a]):=eD
@[simp] theorem Qn:ul ⟨5,to,a,b⟩=.zp 251 (.agg [iv a,iv b]):=eD
@[simp] theorem Qo:ul ⟨6,to,a,b⟩=.zp 253 (.agg [iv a,iv b]):=eD
@[simp] theorem Qp:ul ⟨7,to,a,b⟩=.zp 255 (.agg [iv a]):=eD
@[simp] theorem Qq:ul ⟨8,to,a,b⟩=.zp 256 (.agg [iv a]):=eD
@[simp] theorem Qr:ul ⟨9,to,a,b⟩=.zp 257 (.agg []):=eD
@[simp] theorem Qi:ul ⟨10,to,a,b⟩=.zp 257 (.agg []):=eD
@[simp] theorem Qj:ul ⟨11,to,a,b⟩=.zp 258 (.agg []):=eD
theorem Iz {s:qP} (h:¬ (0<=s.kind/\s.kind<=11)):ul s=.sc .nilIface:=by
 unfold ul
 repeat' split
 all_goals first|rfl|omega
theorem B6 (n:Int):n=0\/n=1\/n=2\/n=3\/n=4\/n=5\/n=6\/n=7\/n=8\/n=9\/n=10\/n=11\/¬ (0<=n/\n<=11):=qA
end
theorem bj (gl) (s:qP):qM Tryz.prog gl 110 [s.av] (λ_ x _=>x=ul s):=by
 refine qM.qa Tryz.func110 [.tmp 2] Tryz.ntmps110 λC w g root=>?_
 all_goals have fx:=qS
 repeat' (first|refine zl ?_|refine λ(K:St->Prop) hK=>?_|refine vj (h1:=λht=>?_) (h2:=λht=>?_))
 all_goals try clear fx
 all_goals refine qG [] .nil qH ?_
 all_goals simp_all [ul]
theorem DC (gl) (s:qP):qM Tryz.prog gl 142 [s.av] (λ_ x _=>x=bv (decide (s.cu\/s.kind=11))):=by
 obtain⟨n,to,a,b⟩:=s;refine qM.qa Tryz.func142 [.tmp 2] Tryz.ntmps142 λC w g root=>?_;rcases B6 n with rfl|rfl|rfl|rfl|rfl|rfl|rfl|rfl|rfl|rfl|rfl|rfl|hn
 case inr.inr.inr.inr.inr.inr.inr.inr.inr.inr.inr.inr =>
  have hf:ul ⟨n,to,a,b⟩=.sc .nilIface:=Iz hn;have fx:= hf;have c1:=bj gl ⟨n,to,a,b⟩;refine qQ ?_;clear fx c1;refine qG [] .nil qH ?_;have h1:¬ (0<=n/\n<=6\/n=11):=qA;simp [h1]
 all_goals
  all_goals have fx:=qS
  repeat' (first|refine zl ?_|refine λ(K:St->Prop) hK=>?_|refine zL (hF:=bj _ ⟨_,to,a,b⟩) (h:=?_))
  all_goals try clear fx
 all_goals refine qG [] .nil qH ?_
 all_goals simp
theorem B0 (gl) (p:qC) (b:Int):qM Tryz.prog gl 135 [yu p,iv b] (λ_ x _=>x=bv (decide (0<=b/\b<p.length))):=by
 refine qM.qa Tryz.func135 [.tmp 4] Tryz.ntmps135 λC w g root=>?_
 all_goals have fx:=qS
 repeat' (first|refine zl ?_|refine λ(K:St->Prop) hK=>?_|(with_reducible refine yd (λht=>?_) (λht=>?_)))
 all_goals try clear fx
 all_goals refine qG [] .nil qH ?_
 all_goals simp_all
 all_goals omega
theorem Qa (gl) (i:Nat) (k:qT):qM Tryz.prog gl 108 [iv i,k.av] (λ_ x _=>x=bv (a6 i k)):=by
 obtain⟨kind,parent,params,body⟩:=k;refine qM.qa Tryz.func108 [.tmp 4] Tryz.ntmps108 λC w g root=>?_;rcases params with _|⟨x,_|⟨y,l⟩⟩
 .skip
  all_goals have fx:=qS
  repeat' (first|refine zl ?_|refine λ(K:St->Prop) hK=>?_|(with_reducible refine yd (λht=>?_) (λht=>?_))|refine vj (h1:=λht=>?_) (h2:=λht=>?_))
  all_goals try clear fx
  all_goals refine qG [] .nil qH ?_
  all_goals simp_all [a6,uU]
  all_goals grind
 .skip
  all_goals have fx:=qS
  repeat' (first|refine zl ?_|refine λ(K:St->Prop) hK=>?_|refine zL (hF:=mf _ x) (h:=?_)|(with_reducible refine yd (λht=>?_) (λht=>?_))|refine vj (h1:=λht=>?_) (h2:=λht=>?_))
  all_goals try clear fx
  all_goals refine qG [] .nil qH ?_
  all_goals simp_all [a6,uU]
  all_goals grind
 .have h1:((l.length:Int)+1+1==1)=false:=qn;have h0:((l.length:Int)+1+1==0)=false:=qn
  all_goals have fx:=aI h0<|h1
  repeat' (first|refine zl ?_|refine λ(K:St->Prop) hK=>?_|(with_reducible refine yd (λht=>?_) (λht=>?_))|refine vj (h1:=λht=>?_) (h2:=λht=>?_))
  all_goals try clear fx
  all_goals refine qG [] .nil qH ?_
  all_goals simp_all [a6,uU]
  all_goals grind
theorem KD {p:qC} {b j:Nat} {q:qT} {d:Int} (hh:zZ p) (hq:p[j]?=some q):ac p b j d=((q.kind==d)&&(q.parent==b)):=by
 have hj:j<p.length:=(gS hq).1;obtain⟨_,h2,_⟩:=hh j q hq;simp only [ac,vN,hq];by_cases h:q.parent=b
 .have:(b:Int)+1<=j/\(j:Int)<=p.length - 1:=qA;simp [this]
 .simp [h]
theorem KE {p:qC} {b:Nat} {j d:Int} (h:¬ (0<=j/\j<p.length)):ac p b j d=false:=by
 have:¬ ((b:Int)+1<=j/\j<=(p.length:Int) - 1):=qA;simp [ac,this]
theorem ES (gl) (p:qC) (b:Nat) (k:qT) (s:qP) (hk:p[b]?=some k) (hh:zZ p) (hd:uU b k):qM Tryz.prog gl 109 [yu p,iv b,s.av] (λ_ x _=>x=bv (zW p b k s)):=by
 obtain⟨n,to,a,c⟩:=s
 have hb0:(k.kind=0)↔b=0:=by
  unfold uU at hd
  split at hd <;> omega
 refine qM.qa Tryz.func109 [.tmp 6] Tryz.ntmps109 λC w g root=>?_;by_cases hto:0<=to/\to<=7
 case neg =>
  have h1:(decide (0<=to)&&decide (to<=7))=false:=qn;have fx:= h1;have c1:=mf gl to;refine qQ ?_;clear fx c1;refine qG [] .nil qH ?_;simp [zW,h1]
 have h1:(decide (0<=to)&&decide (to<=7))=true:=qn;rcases B6 n with rfl|rfl|rfl|rfl|rfl|rfl|rfl|rfl|rfl|rfl|rfl|rfl|hn
 case inr.inr.inr.inr.inr.inr.inr.inr.inr.inr.inr.inr =>
  have hf:ul ⟨n,to,a,c⟩=.sc .nilIface:=Iz hn;have fx:=aI h1<|hf;have c1:=mf gl to;have c2:=bj gl ⟨n,to,a,c⟩;refine qQ ?_;clear fx c1 c2;refine qG [] .nil qH ?_;have h2:¬ (n=0\/n=1\/n=2\/n=3\/n=4\/n=5\/n=6\/n=7\/n=8\/n=9\/n=10\/n=11):=qA;simp only [not_or] at h2;simp [zW,h2]
 case inr.inr.inr.inl =>
  by_cases ha:0<=a/\a<p.length
  .obtain⟨j,rfl⟩:∃ j:Nat,a=j:=⟨a.toNat,qA⟩;obtain⟨q,hq⟩:∃ q,p[j]?=some q:=⟨_,gE qA⟩;obtain⟨h2,h3⟩:=gS hq
   all_goals have fx:=zC h1 hq h2<|h3
   repeat' (first|refine zl ?_|refine λ(K:St->Prop) hK=>?_|refine zL (hF:=mf _ to) (h:=?_)|refine zL (hF:=bj _ ⟨_,to,_,c⟩) (h:=?_)|refine zL (hF:=B0 _ p _) (h:=?_)|(with_reducible refine yd (λht=>?_) (λht=>?_))|refine vj (h1:=λht=>?_) (h2:=λht=>?_))
   all_goals try clear fx
   all_goals refine qG [] .nil qH ?_
   all_goals simp_all [zW,KD,qP.reads]
  .have h2:¬ (0<=a/\a<p.length):=ha
   all_goals have fx:=aI h1<|h2
   repeat' (first|refine zl ?_|refine λ(K:St->Prop) hK=>?_|refine zL (hF:=mf _ to) (h:=?_)|refine zL (hF:=bj _ ⟨_,to,_,c⟩) (h:=?_)|refine zL (hF:=B0 _ p _) (h:=?_)|(with_reducible refine yd (λht=>?_) (λht=>?_))|refine vj (h1:=λht=>?_) (h2:=λht=>?_))
   all_goals try clear fx
   all_goals refine qG [] .nil qH ?_
   all_goals simp [zW,KE h2]
 case inr.inr.inr.inr.inl =>
  by_cases ha:0<=a/\a<p.length
  .obtain⟨j,rfl⟩:∃ j:Nat,a=j:=⟨a.toNat,qA⟩;obtain⟨q,hq⟩:∃ q,p[j]?=some q:=⟨_,gE qA⟩;obtain⟨h2,h3⟩:=gS hq
   all_goals have fx:=zC h1 hq h2<|h3
   repeat' (first|refine zl ?_|refine λ(K:St->Prop) hK=>?_|refine zL (hF:=mf _ to) (h:=?_)|refine zL (hF:=bj _ ⟨_,to,_,c⟩) (h:=?_)|refine zL (hF:=B0 _ p _) (h:=?_)|(with_reducible refine yd (λht=>?_) (λht=>?_))|refine vj (h1:=λht=>?_) (h2:=λht=>?_))
   all_goals try clear fx
   all_goals refine qG [] .nil qH ?_
   all_goals simp_all [zW,KD,qP.reads]
  .have h2:¬ (0<=a/\a<p.length):=ha
   all_goals have fx:=aI h1<|h2
   repeat' (first|refine zl ?_|refine λ(K:St->Prop) hK=>?_|refine zL (hF:=mf _ to) (h:=?_)|refine zL (hF:=bj _ ⟨_,to,_,c⟩) (h:=?_)|refine zL (hF:=B0 _ p _) (h:=?_)|(with_reducible refine yd (λht=>?_) (λht=>?_))|refine vj (h1:=λht=>?_) (h2:=λht=>?_))
   all_goals try clear fx
   all_goals refine qG [] .nil qH ?_
   all_goals simp [zW,KE h2]
 all_goals
  all_goals have fx:=aI h1<|hk
  repeat' (first|refine zl ?_|refine λ(K:St->Prop) hK=>?_|refine zL (hF:=mf _ _) (h:=?_)|refine zL (hF:=bj _ ⟨_,to,a,c⟩) (h:=?_)|(with_reducible refine yd (λht=>?_) (λht=>?_))|refine vj (h1:=λht=>?_) (h2:=λht=>?_))
  all_goals try clear fx
 all_goals refine qG [] .nil (by simp [hk];rfl) ?_
 all_goals simp_all [zW,qP.reads]
 all_goals first|omega|grind
theorem Z4 {s:qP} (h:s.kind=3\/s.kind=4):∃ d,nK Tryz.prog 191 (ul s)=some (.zT [.agg [iv d,iv s.a],bv true]):=by
 obtain⟨n,to,a,b⟩:=s;rcases h with h|h
 .simp only at h;subst h;exact⟨1,qB⟩
 .simp only at h;subst h;exact⟨2,qB⟩
theorem Z5 {s:qP} (h:¬ (s.kind=3\/s.kind=4)):nK Tryz.prog 191 (ul s)=some (.zT [.agg [iv 0,iv 0],bv false]):=by
 simp only [not_or] at h;obtain⟨h3,h4⟩:=h;unfold ul;rw [if_neg h3,if_neg h4]
 repeat' split
 all_goals simp
theorem JT (gl) (p:qC) (hs:uA p):qM Tryz.prog gl 72 [yu p] (λ_ y _=>y=bv (wk p)):=by
 have hpl:=hs.len;refine qM.qa Tryz.func72 [.tmp 2] Tryz.ntmps72 λC w g root=>?_
 all_goals have fx:=qS
 repeat' (first|refine zl ?_|refine λ(K:St->Prop) hK=>?_|(with_reducible refine yd (λht=>?_) (λht=>?_))|refine vj (h1:=λht=>?_) (h2:=λht=>?_))
 all_goals try clear fx
 .refine qG [] .nil qH ?_
  have hno:(decide (1<=p.length)&&decide (p.length<=7))=false:=by
   rw [pe];intro h;simp at h ht;omega
  simp only [wk,hno]
  rfl
 .refine qG [] .nil qH ?_
  have hno:(decide (1<=p.length)&&decide (p.length<=7))=false:=by
   rw [pe];intro h;simp at h ht;omega
  simp only [wk,hno]
  rfl
 rename_i ht1
 have hyes:1<=p.length/\p.length<=7:=by
  simp at ht ht1;omega
 clear ht ht1;refine zU (λn st=>∃ i:Nat,n=p.length - i/\i<=p.length/\st.tm 1=.pt (.s 1) 0/\st.hp (.s 1)=some (.row 1 [[vK p]])/\st.tm 24=vK p/\st.tm 25=iv p.length/\st.tm 26=iv i/\∀ (j:Nat) q,j<i->p[j]?=some q->a6 j q=true/\q.body.length<=12) p.length ?_ ?_
 .exact⟨0,qB⟩
 rintro n st - - ⟨i,rfl,hi,h1,hp1,h24,h25,h26,hal⟩;refine qI ?_<|zM h1 hp1 h24 h25<|h26;refine y8 ya (λht=>?_) (λhf=>?_)
 .have hlt:i<p.length:=yE;obtain⟨k,hk⟩:=gX hlt
  have fin:(a6 i k=true->¬ k.body.length<=12)->wk p=false:=λh=>by
   have:aE p i=false:=by
    simp only [aE,hk,Bool.and_eq_false_iff,decide_eq_false_iff_not]
    cases hh:a6 i k with
    | false=>exact .inl (.inl rfl)
    | true=>exact .inl (.inr (h hh))
   simp only [wk,l0 hlt this,Bool.and_false,Bool.false_and]
  have zF:=(hs.uu hk).body;clear ht
  all_goals have fx:=j2 h1 hp1 h24 h25 h26<|hk
  repeat' (first|refine zl ?_|refine λ(K:St->Prop) hK=>?_|refine zL (hF:=Qa _ i k) (h:=?_)|(with_reducible refine yd (λht=>?_) (λht=>?_))|refine vj (h1:=λht=>?_) (h2:=λht=>?_))
  all_goals try clear fx
  .refine qG [] .nil qH ?_;rw [fin (λh=>by simp [h] at ht)]
   rfl
  .refine qG [] .nil qH ?_;rw [fin (λ_ h=>by simp at ht;omega)]
   rfl
  .rename_i ht1;refine⟨p.length - (i+1),qA,i+1,rfl,qA,zx,vI,by simp [h24],by simp [h25],zw,λj q hj hq=>?_⟩;rcases A9.1 hj with h|rfl
   .exact hal j q h hq
   .rw [hk] at hq;obtain rfl:=sI hq;refine⟨by simpa using ht1,?_⟩;simp at ht;omega
 have hge:i=p.length:=by
  have:¬ i<p.length:=vH;omega
 subst hge;clear hf hi
 have hal':∀ (j:Nat) q,p[j]?=some q->uU j q/\q.body.length<=12:=λj q hq=>by
  obtain⟨h1,h2⟩:=hal j q (gS hq).1 hq;exact⟨by simpa only [a6,decide_eq_true_eq] using h1,h2⟩
 clear hal;have hh:zZ p:=λj q hq=>(hal' j q hq).1.head
 have hb12:∀ q∈p,q.body.length<=12:=λq hq=>by
  obtain⟨j,hj⟩:=kB hq;exact (hal' j q hj).2
 refine qI ?_<|aI h1<|hp1;refine zU (λn st=>∃ i:Nat,n=p.length - i/\i<=p.length/\st.tm 1=.pt (.s 1) 0/\st.hp (.s 1)=some (.row 1 [[vK p]])/\st.tm 5=.pt (.s 5) 0/\st.hp (.s 5)=some (.row 7 [(wM p [] i).map iv])/\st.tm 43=vK p/\st.tm 44=iv p.length/\st.tm 45=iv i/\(List.range i).all (aE p)=true) p.length ?_ ?_
 .refine⟨0,qB,qB,zx,vI,qB,?_,qB,qB,qB,qB⟩;simp [wM,br,ag]
  rfl
 clear h1 hp1 h24 h25 h26;rintro n st - - ⟨i,rfl,hi,h1,hp1,h5,hp5,h43,h44,h45,hal⟩;refine qI ?_<|zM h1 hp1 h43 h44<|h45;refine y8 ya (λht=>?_) (λhf=>?_)
 .have hlt:i<p.length:=yE;obtain⟨k,hk⟩:=gX hlt;have hbf:aE p i=(a6 i k&&decide (k.body.length<=12)&&k.body.all (zW p i k)):=by simp only [aE,hk]
  obtain⟨hhd,hbd⟩:=hal' i k hk;have hhd':a6 i k=true:=by simpa only [a6,decide_eq_true_eq] using hhd
  clear ht;refine qI ?_<|j2 h1 hp1 h43 h44 h45<|hk;refine zU (λn st=>∃ j:Nat,n=k.body.length - j/\j<=k.body.length/\st.tm 1=.pt (.s 1) 0/\st.hp (.s 1)=some (.row 1 [[vK p]])/\st.tm 5=.pt (.s 5) 0/\st.hp (.s 5)=some (.row 7 [(wM p (k.body.take j) i).map iv])/\st.tm 43=vK p/\st.tm 44=iv p.length/\st.tm 45=iv i/\st.tm 6=iv i/\st.tm 51=eZ k.body/\st.tm 52=iv k.body.length/\st.tm 53=iv j/\(k.body.take j).all (zW p i k)=true) k.body.length ?_ ?_
  .exact⟨0,by simp [h1,hp1,h5,hp5,h43,h44,h45]⟩
  clear h1 hp1 h5 hp5 h43 h44 h45;rintro n st - - ⟨j,rfl,hj,h1,hp1,h5,hp5,h43,h44,h45,h6,h51,h52,h53,haj⟩;refine qI ?_<|qk h51 h52<|h53;refine y8 ya (λht=>?_) (λhf=>?_)
  .have hlj:j<k.body.length:=yE;obtain⟨s,hsj⟩:=gX hlj;clear ht
   cases hok:zW p i k s with
   | false =>
    have fx:=jJ h1 hp1 h51 h52 h53 h6 hsj<|hok;have c1:=ES gl p i k s hk hh hhd;refine qQ ?_;clear fx c1;refine qG [] .nil qH ?_;have:aE p i=false:=by rw [hbf,HV (gM hsj) hok];simp
    simp only [wk,l0 hlt this,Bool.and_false,Bool.false_and]
    rfl
   | true =>
    by_cases hm:s.kind=3\/s.kind=4
    .obtain⟨d,hta⟩:=Z4 hm
     obtain⟨a,ha,hal7⟩:∃ a:Nat,s.a=a/\a<p.length:=by
      have:∃ d,ac p i s.a d=true:=by
       rcases hm with h|h
       .simp [zW,h] at hok;exact⟨_,hok.2.2⟩
       .simp [zW,h] at hok;exact⟨_,hok.2.2⟩
      obtain⟨d,hd⟩:=this;simp only [ac,jh,decide_eq_true_eq] at hd;exact⟨s.a.toNat,qA,qA⟩
     have ha7:a<7:=qA;have ha8:(a:Int)<7:=qA;rw [ha] at hta;have hget:=KF (p:=p) (ss:=k.body.take j) (n:=i) ha7;have yG:=TS (p:=p) (n:=i) hsj ha hm ha7;have hml:(wM p (k.body.take j) i).length=7:=by simp [wM]
     have hw:IntKind.i64.wrap (((br p a i+ag (k.body.take j) a:Nat):Int)+1)=((br p a i+ag (k.body.take j) a:Nat):Int)+1:=by
      have h1:=TV (b:=a) hb12 i;have h2:=KN (k.body.take j) a;have h3:=List.length_take_le j k.body;exact qi qA qA
     generalize hA:wM p (k.body.take j) i=A at hp5 hget yG hml;generalize hv:((br p a i+ag (k.body.take j) a:Nat):Int)=v at hget yG hw;obtain⟨_,hge2⟩:=gS hget;have fx:=qr h1 hp1 h5 hp5 h51 h52 h53 h6 hsj hok hta ha7<|zM ha8 hget hge2 hw<|hml;have c1:=ES gl p i k s hk hh hhd;have c2:=bj gl s;refine qQ ?_;clear fx c1 c2;refine⟨k.body.length - (j+1),qA,j+1,rfl,qA,zx,vI,yV,?_,by simp [h43],by simp [h44],by simp [h45],aY,by simp [h51],by simp [h52],zw,?_⟩
     .rw [<- yG,<- SD qA];simp [hge2,hw]
     .rw [vM,hsj,List.all_append,haj]
      simpa using hok
    .have hta:=Z5 hm;have hskip:=TT (p:=p) (n:=i) hsj hm;have fx:=yz h1 hp1 h51 h52 h53 h6 hsj hok<|hta;have c1:=ES gl p i k s hk hh hhd;have c2:=bj gl s;refine qQ ?_;clear fx c1 c2;refine⟨k.body.length - (j+1),qA,j+1,rfl,qA,zx,vI,yV,by simp [hp5,hskip],by simp [h43],by simp [h44],by simp [h45],aY,by simp [h51],by simp [h52],zw,?_⟩;rw [vM,hsj,List.all_append,haj]
     simpa using hok
  .have hge:j=k.body.length:=by
    have:¬ j<k.body.length:=vH;omega
   subst hge;rw [wD] at haj hp5;rw [TR hk] at hp5;refine qI ?_<|zC h51 h52 h53<|h45;refine⟨p.length - (i+1),qA,i+1,rfl,qA,zx,vI,yV,be,by simp [h43],by simp [h44],zw,?_⟩;rw [mI,hal,hbf,hhd',haj]
   simpa using hbd
 .have hge:i=p.length:=by
   have:¬ i<p.length:=vH;omega
  subst hge
  have hshp:wk p=(List.range p.length).all (λi=>i==0||ae p i==1):=by
   simp only [wk,hal,hyes,decide_true,Bool.and_true,dk]
  have hv:∀ (i:Nat) q,p[i]?=some q->∀ s∈q.body,zW p i q s=true:=λi q hq s hs=>by
   have:=yS.1 hal i (gN.2 (gS hq).1);simp only [aE,hq,jh] at this;exact yS.1 this.2 s hs
  clear hf hi;refine qI ?_<|zM h1 hp1 h43 h44<|h45;refine zU (λn st=>∃ i:Nat,n=p.length - i/\i<=p.length/\1<=i/\st.tm 1=.pt (.s 1) 0/\st.hp (.s 1)=some (.row 1 [[vK p]])/\st.tm 5=.pt (.s 5) 0/\st.hp (.s 5)=some (.row 7 [(wM p [] p.length).map iv])/\st.tm 12=iv i/\(List.range i).all (λi=>i==0||ae p i==1)=true) (p.length - 1) ?_ ?_
  .exact⟨1,qA,qA,qA,zx,vI,yV,be,qB,qB⟩
  clear h1 hp1 h5 hp5 h43 h44 h45;rintro n st - - ⟨i,rfl,hi,hi1,h1,hp1,h5,hp5,h12,hmi⟩;refine qI ?_<|qk h1 hp1<|h12;refine y8 ya (λht=>?_) (λhf=>?_)
  .have hlt:i<p.length:=yE;obtain⟨k,hk⟩:=gX hlt;have hi7:i<7:=qA;have hi8:(i:Int)<7:=qA;have hpk:=(hh i k hk).2.2 qA
   have hget:(wM p [] p.length)[i]?=some (ae p i):=by
    rw [KF hi7,<- TU hh hk hv hpk];simp [ag]
   generalize hA:wM p [] p.length=A at hp5 hget;clear ht
   all_goals have fx:=yz h1 hp1 h5 hp5 h12 hi7 hi8 hget<|@qx
   repeat' (first|refine zl ?_|refine λ(K:St->Prop) hK=>?_|(with_reducible refine yd (λht=>?_) (λht=>?_))|refine vj (h1:=λht=>?_) (h2:=λht=>?_))
   all_goals try clear fx
   .refine qG [] .nil qH ?_;rw [hshp,l0 hlt (show (i==0||ae p i==1)=false by simp at ht ⊢;exact⟨qA,ht⟩)]
    rfl
   .refine⟨p.length - (i+1),qA,i+1,rfl,qA,qA,zx,vI,yV,be,zw,?_⟩;rw [mI,hmi];simp at ht ⊢;exact .inr ht
  .have hge:i=p.length:=by
    have:¬ i<p.length:=vH;omega
   subst hge;refine qI ?_<|qS;refine qG [] .nil fJ (by simp [hshp,hmi])
end Go.Proofs.YtjgpejikjhojcaaGreatDoor
end
