import Derived.Test.YtdnebaieamppbaaGreatDoorE35
import Derived.Test.YtdnebaieamppbaaGreatDoorE30
import Derived.Test.YtdnebaieamppbaaGreatDoorE20
set_option linter.unusedSimpArgs false
set_option linter.unusedVariables false
set_option maxRecDepth 100000
set_option maxHeartbeats 4000000

section
namespace Go.Proofs.YtdnebaieamppbaaGreatDoor
open Go Go.Hm Go.Proofs Tryz
theorem FT {p:Z0} (h:Z7 p) {i:Nat} {k:Za} (hk:p[i]?=some k):k.kind=0\/k.kind=1\/k.kind=2:=by
 have:=h.head i k hk;unfold vG at this
 split at this <;> omega
theorem FQ {l:List Int}:sorted (sorted l)=sorted l:=ip λx hx=>by
 rw [Go.Hm.mem_sorted];exact⟨λh=>h.1,λh=>⟨h,qA,qA⟩⟩
theorem o9 {p:Z0} {b:Nat}:sorted (qF p b)=qF p b:=by
 unfold qF
 split
 .exact FQ
 .rfl
theorem D4 {xs:List Int} {x:Int}:(zI xs x == -1)=!decide (x∈xs):=by
 have h1:=j9 (xs:=xs) (x:=x);have h2:=iC (xs:=xs) (x:=x);by_cases h:x∈xs
 .have:=h1.2 h;simp [h];omega
 .have:¬ 0<=zI xs x:=λe=>h (h1.1 e);simp [h];omega
theorem AJ (gl) (p:Z0) (hp:Z7 p) (b:Nat) (k:Za) (hk:p[b]?=some k) (hk1:k.kind=1):qb prog gl 179 [gx p,iv b] (λr y H'=>y=.hs r 1 0 (qP p b).length/\H' r=some (.row 1 (qT (qP p b)))):=by
 have hh:=hp.Zc;have hl7:=hp.len;obtain⟨Zs,hbE⟩:=gS hk;have hka:qg p b=k.kind:=bY;have hsg:=vf (p:=p) Zs;rw [ji hh hk] at hsg;obtain⟨_,hse⟩:=gS hsg
 have hc:qP p b=sorted (zB (vn p b) 8):=by
  rw [Ag];simp [qP,hka,hk1]
 have hkd:(k.kind==1)=true:=tM;rw [hc];refine qb.Zl func179 [.tmp 4] ntmps179 λC w g root=>?_;have fx:=yS hsg hse hkd Zs<|@qL;have c1:=dI gl p hp b k hk;refine qG ?_;clear fx c1;refine qX (λn st=>∃ x:Nat,n=8 - x/\x<=8/\st.tm 0=gx p/\st.tm 1=iv b/\st.tm 5=.pt (.s 5) 0/\st.hp (.s 5)=some (.row 8 [vJ (zB (vn p b) x)])/\st.tm 6=.pt (.s 6) 0/\st.hp (.s 6)=some (.row 8 [vJ (qF p b)])/\st.tm 19=iv x) 8 ?_ ?_
 .exact⟨0,qA,qA,qB,qB,qB,qE,qB,qB,qB⟩
 rintro n st - - ⟨x,rfl,hx,h0,h1,h5,hp5,h6,hp6,h19⟩;by_cases hx8:x<8
 .have hx8':(x:Int)<8:=qA;have hfi:vn p b x=(qa b k x&&!decide ((x:Int)∈qF p b)):=by simp only [vn,hk]
  have hn2:=it (f:=vn p b) (n:=x)
  have hno:(x:Int)∉zB (vn p b) x:=λh=>by
   rw [ja] at h;omega
  have hbg:=mw (l:=qF p b) hx8;obtain⟨hbgl,hbgE⟩:=gS hbg;generalize hL:zB (vn p b) x=L at hp5 hn2 hno
  cases hlo:qa b k x
  .rw [if_neg (by rw [hfi,hlo];simp)] at hn2
   all_goals have fx:=qU h0 h1 h5 hp5 h6 hp6 h19 hx8 hx8' hsg hse Zs<|hlo
   repeat' (first|refine qK ?_|refine λ(K:St->Prop) hK=>?_|refine qJ (hF:=cx _ p hp b k hk x hx8) (h:=?_))
   all_goals try clear fx
   exact⟨8 - (x+1),qA,x+1,rfl,qA,zR,qy,z7,by simp [hn2,EW hx8 hno],j3,aX,zD⟩
  cases hce:decide ((x:Int)∈qF p b)
  rotate_left
  .rw [if_neg (by rw [hfi,hlo,hce];decide)] at hn2
   all_goals have fx:=qU h0 h1 h5 hp5 h6 hp6 h19 hx8 hx8' hsg hse Zs<|yS hlo hbg hbgE hbgl<|hce
   repeat' (first|refine qK ?_|refine λ(K:St->Prop) hK=>?_|refine qJ (hF:=cx _ p hp b k hk x hx8) (h:=?_))
   all_goals try clear fx
   exact⟨8 - (x+1),qA,x+1,rfl,qA,zR,qy,z7,by simp [hn2,EW hx8 hno],j3,aX,zD⟩
  .rw [if_pos (by rw [hfi,hlo,hce];rfl)] at hn2
   all_goals have fx:=qU h0 h1 h5 hp5 h6 hp6 h19 hx8 hx8' hsg hse Zs<|yS hlo hbg hbgE hbgl<|hce
   repeat' (first|refine qK ?_|refine λ(K:St->Prop) hK=>?_|refine qJ (hF:=cx _ p hp b k hk x hx8) (h:=?_))
   all_goals try clear fx
   refine⟨8 - (x+1),qA,x+1,rfl,qA,zR,qy,z7,?_,j3,aX,zD⟩;rw [hn2];simp [<- aj (l:=L) (y:=(x:Int)) rfl hx8]
 .have hge:x=8:=qA;subst hge;have fx:=jI h5 hp5<|h19;have d1:=sC gl (zB (vn p b) 8);refine qG ?_;clear fx d1;exact jU (t:=4) zg zg qB
theorem wZ (gl) (p:Z0) (hp:Z7 p) (b:Nat) (k:Za) (hk:p[b]?=some k) (x:Nat) (hx:x<8):qb prog gl 143 [gx p,iv b,iv x] (λ_ y _=>y=iv (aE p b x)):=by
 have Zs:=(gS hk).1;have hcl:=jo (p:=p) (b:=b);have hfl:=yY (p:=p) (b:=b);have hbd:=iC (xs:=qd p b) (x:=(x:Int));have hw:IntKind.i64.wrap (((qF p b).length:Int)+zI (qd p b) x)=(qF p b).length+zI (qd p b) x:=Zv qA qA;have hli:=sC gl (qF p b);rw [o9] at hli;have hpn:=D4 (xs:=qF p b) (x:=(x:Int));refine qb.Zl func143 [.tmp 6] ntmps143 λC w g root=>?_;by_cases hm:(x:Int)∈qF p b
 .have hpn':(zI (qF p b) x == -1)=false:=by rw [hpn];simp [hm]
  all_goals have fx:=aI hpn'<|@qL
  repeat' (first|refine qK ?_|refine λ(K:St->Prop) hK=>?_|refine qJ (hF:=dI _ p hp b k hk) (h:=?_)|refine jP (hF:=hli) (h:=?_)|refine qJ (hF:=wR _ (qF p b) _ qA) (h:=?_))
  all_goals try clear fx
  refine qD [] .nil qE ?_;simp [aE,hm]
 .have hpn':(zI (qF p b) x == -1)=true:=by rw [hpn];simp [hm]
  all_goals have fx:=jI hpn' hw<|@qL
  repeat' (first|refine qK ?_|refine λ(K:St->Prop) hK=>?_|refine qJ (hF:=dI _ p hp b k hk) (h:=?_)|refine jP (hF:=hli) (h:=?_)|refine qJ (hF:=wR _ (qF p b) _ qA) (h:=?_)|refine jP (hF:=iJ _ p hp b Zs) (h:=?_)|refine qJ (hF:=wR _ (qd p b) _ qA) (h:=?_))
  all_goals try clear fx
  refine qD [] .nil qE ?_;simp [aE,hm]
theorem bF (gl) (p:Z0) (hp:Z7 p) (b:Nat) (k:Za) (hk:p[b]?=some k) (x:Nat) (hx:x<8):qb prog gl 232 [gx p,iv b,iv x] (λ_ y _=>y=iv (jB p b x)):=by
 have hh:=hp.Zc;have hl7:=hp.len;obtain⟨Zs,hbE⟩:=gS hk;have hka:qg p b=k.kind:=bY;have hsg:=vf (p:=p) Zs;rw [ji hh hk] at hsg;obtain⟨_,hse⟩:=gS hsg;have hop:=kV (p:=p) (c:=b) (x:=(x:Int));have hx8:(x:Int)<8:=qA;refine qb.Zl func232 [.tmp 6] ntmps232 λC w g root=>?_
 cases ho:(q7 p b x == -1)
 rotate_left
 .skip
  have fx:=yE hsg hse Zs<|ho;have c1:=zH gl p hp b k hk x hx;refine qG ?_;clear fx c1;refine qD [] .nil qE ?_;have ho':q7 p b x=-1:=oE;simp [jB,ho']
 have hno:¬ q7 p b x=-1:=oE;have hnl:¬ q7 p b x<0:=qA
 cases hb:(q7 p b x==(b:Int))
 .skip
  have fx:=uD hsg hse Zs ho hb<|@qL;have c1:=zH gl p hp b k hk x hx;refine qG ?_;clear fx c1;refine qD [] .nil qE ?_;have hb':¬ q7 p b x=b:=ny;simp only [jB,if_neg hnl,if_pos hb']
  rfl
 have hb':q7 p b x=b:=ny;have hnn:¬ q7 p b x≠b:=λh=>h hb'
 cases hkd:(k.kind==2)
 rotate_left
 .skip
  have fx:=u4 hsg hse Zs ho hb @qL<|hkd;have c1:=zH gl p hp b k hk x hx;refine qG ?_;clear fx c1;refine qD [] .nil qE ?_;have hkd':k.kind=2:=cV;simp only [jB,if_neg hnl,if_neg hnn,hka,if_pos hkd']
  rfl
 have hkd':¬ k.kind=2:=cV;have hbg:=mw (l:=qF p b) hx;obtain⟨hbgl,hbgE⟩:=gS hbg
 cases hce:decide ((x:Int)∈qF p b)
 all_goals
  have fx:=qU hsg hse Zs ho hb @qL hkd hbg hbgE hbgl hx hx8<|hce;have c1:=zH gl p hp b k hk x hx;have c2:=dI gl p hp b k hk;refine qG ?_;clear fx c1 c2;refine qD [] .nil qE ?_;simp at hce;simp only [jB,if_neg hnl,if_neg hnn,hka,if_neg hkd',hce]
  rfl
abbrev dH:List AV:=[iv 8,iv 5,iv 11,iv 5,iv 2]
theorem lm (gl:Nat->Option (List AV)) (hgl:gl 0=some dH) (p:Z0) (hp:Z7 p) (b:Nat) (k:Za) (hk:p[b]?=some k) (x:Nat) (hx:x<8) (w:Int) (hw0:0<=w) (hw2:w<=2):qb prog gl 210 [gx p,iv b,iv x,iv w] (λ_ y _=>y=.agg [iv (qx p b x w).1,iv (qx p b x w).2]):=by
 have hw8:IntKind.i64.wrap (8+w)=8+w:=Zv qA qA;have hw11:IntKind.i64.wrap (11+w)=11+w:=Zv qA qA;have hw22:IntKind.i64.wrap (2+w)=2+w:=Zv qA qA;have hw5:IntKind.i64.wrap (5+w)=5+w:=Zv qA qA;have hsf:=JQ (x:=(x:Int)) hk (hp.qAx hk).symm (FT hp hk);have hfl:=w5 (p:=p) (b:=b)
 have hs5:jB p b x=0\/jB p b x=1\/jB p b x=2\/jB p b x=3\/jB p b x=4:=by
  unfold jB
  split
  .simp
  .split
   .simp
   .split
    .simp
    .split <;> simp
 refine qb.Zl func210 [.cell 8 213] ntmps210 λC w g root=>?_;rcases hs5 with h|h|h|h|h
 .skip
  have fx:=jI h hgl<|hw8;have c1:=bF gl p hp b k hk x hx;refine qG ?_;clear fx c1;refine qD [] .nil qE ?_;simp [qx,h]
 .skip
  have fx:=jI h hgl<|hw5;have c1:=bF gl p hp b k hk x hx;have c2:=wZ gl p hp b k hk x hx;refine qG ?_;clear fx c1 c2;refine qD [] .nil qE ?_;simp [qx,h]
 .skip
  have fx:=jI h hgl<|hw11;have c1:=bF gl p hp b k hk x hx;refine qG ?_;clear fx c1;refine qD [] .nil qE ?_;simp [qx,h]
 .skip
  have fx:=jI h hgl<|hw5;have c1:=bF gl p hp b k hk x hx;have c2:=wZ gl p hp b k hk x hx;refine qG ?_;clear fx c1 c2;refine qD [] .nil qE ?_;simp [qx,h]
 .skip
  all_goals have fx:=jI h hgl<|hw22
  repeat' (first|refine qK ?_|refine λ(K:St->Prop) hK=>?_|refine qJ (hF:=bF _ p hp b k hk x hx) (h:=?_)|refine jP (hF:=AJ _ p hp b k hk (hsf (.inr h))) (h:=?_)|refine qJ (hF:=wR _ (qP p b) _ qA) (h:=?_))
  all_goals try clear fx
  refine qD [] .nil qE ?_;simp [qx,h]
theorem nH (gl) (s:Z9) (hkd:0<=s.kind/\s.kind<=11):qb prog gl 211 [s.av] (λr y H'=>y=.hs r 2 0 (j5 s).length/\H' r=some (.row 2 (uc (j5 s)))):=by
 have hrl:=s.qAX;have hw5:IntKind.i64.wrap ((s.reads.length:Int) - 1)=(s.reads.length:Int) - 1:=Zv qA qA;obtain⟨kd,to,a,c⟩:=s;simp only at hkd;refine qb.Zl func211 [.tmp 2] ntmps211 λC w g root=>?_;rcases ND hkd with rfl|rfl|rfl|rfl|rfl|rfl|rfl|rfl|rfl|rfl|rfl|rfl
 case inr.inr.inr.inr.inr.inl =>
  have hrd:(⟨5,to,a,c⟩:Z9).reads=if c=-1 then [a] else [a,c]:=by simp [Z9.reads]
  rw [hrd] at hw5;have hcr:=AT gl a c;generalize hL:(if c=-1 then [a] else [a,c])=L at hw5 hcr hrd;have fx:= hw5;have c1:=zP gl ⟨5,to,a,c⟩;have d1:=hcr;refine qG ?_;clear fx c1 d1;refine jU (t:=2) ?_ ?_ ?_
  all_goals simp [j5,uc,hrd]
 all_goals
  all_goals have fx:=Zk
  repeat' (first|refine qK ?_|refine λ(K:St->Prop) hK=>?_|refine qJ (hF:=zP _ ⟨_,to,a,c⟩) (h:=?_))
  all_goals try clear fx
  refine jU (t:=2) ?_ ?_ ?_
  all_goals simp [j5,uc]
theorem sS (gl:Nat->Option (List AV)) (hgl:gl 0=some dH) (p:Z0) (b:Nat) (k:Za) (s:Z9) (hp:Z7 p) (hk:p[b]?=some k) (hsm:s∈k.body):qb prog gl 181 [gx p,iv b,s.av] (λr y H'=>y=.hs r 2 0 (fC p b s).length/\H' r=some (.row 2 (uc (fC p b s)))):=by
 have hrl:=s.qAX;have hn:=hp.names k (gM hk);have hkd:=hn.kinds s hsm;obtain⟨ht0,ht7⟩:=hn.tos s hsm;obtain⟨T,hT⟩:∃ T:Nat,s.to=T:=⟨s.to.toNat,qA⟩;have hT8:T<8:=qA;have hav:s.av=.agg [iv s.kind,iv T,iv s.a,iv s.b]:=by rw [<- hT]
 rw [Ct];refine qb.Zl func181 [.tmp 6] ntmps181 λC w g root=>?_
 all_goals have fx:=Zk
 repeat' (first
  | refine vH ?_|refine jd ?_|refine yH ?_|refine kL λK hK=>?_
  | ((with_reducible refine vA hK ?_);clear hK K)
  | (with_reducible first|refine qV ?_|refine jS ?_|refine jQ ?_|refine vW ?_|refine j6 ?_|refine kH ?_|refine jx qO ?_)
  | refine kR ?_
  | refine aM ?_
  | (with_reducible first|refine jL ?_|refine zL (h:=?_)|refine lu (h:=?_)|refine jW (T:=109) (h:=?_)|refine jw (T:=109) (h:=?_)|refine yV (h:=?_))
  | ((with_reducible refine rr 129 rfl ?_);refine qJ (hF:=zP _ s) (h:=?_))
  | (refine LG (hF:=r7 _ qI s hkd) (h:=?_))
  | (with_reducible refine x_q (h:=?_))
  | refine jr (h1:=?_)|refine yF (h1:=?_)
  | fail)
 all_goals try clear fx
 refine qX (λn st=>∃ i:Nat,n=s.reads.length - i/\i<=s.reads.length/\st.tm 0=gx p/\st.tm 1=iv b/\st.tm 5=.pt (.s 5) 0/\st.hp (.s 5)=some (.row 4 [s.cells])/\st.tm 14=.hs (.s 14) 1 0 s.reads.length/\st.hp (.s 14)=some (.row 1 (qT s.reads))/\st.tm 15=iv s.reads.length/\st.tm 16=iv i/\st.tm 7=.hs (.s 7) 2 0 (Fd p b s i).length/\st.hp (.s 7)=some (.row 2 (uc (Fd p b s i)))) s.reads.length ?_ ?_
 .exact⟨0,qA,qA,qB,qB,qB,qB,qB,qB,qB,qB,qB,cP⟩
 rintro n st - - ⟨i,rfl,hi,h0,h1,h5,hp5,h14,hp14,h15,h16,h7,hp7⟩;have hll:(Fd p b s i).length<=10:=qc;by_cases hil:i<s.reads.length
 .obtain⟨u,hu⟩:=gX hil;obtain⟨_,huE⟩:=gS hu;obtain⟨hu0,hu7⟩:=hn.reads s hsm u (gM hu);obtain⟨U,rfl⟩:∃ U:Nat,u=U:=⟨u.toNat,qA⟩;have hnx:=D3 (p:=p) (b:=b) hu;generalize hL:Fd p b s i=L at h7 hp7 hnx hll;have fx:=qU h0 h1 h5 hp5 h14 hp14 h15 h16 h7 hp7 hu huE<|aI hil<|hll;have c1:=lm gl hgl p hp b k hk U qA 0 qO qO;refine qG ?_;clear fx c1;refine⟨s.reads.length - (i+1),qA,i+1,rfl,qA,zR,qy,z7,kh,cA,gV,oG,zD,by simp [hnx],?_⟩;rw [hnx];simp [uc]
 .have hge:i=s.reads.length:=qA;rw [hge] at h7 hp7 hll;have hwl:=Ck s;generalize hL:Fd p b s s.reads.length=L at h7 hp7 hll;by_cases hk11:s.kind=11
  .have wF:cg p b s=[qx p b T 2]:=by simp [cg,hk11,hT]
   rw [wF];generalize hWL:j5 s=WL at hwl;have hwo:=nH gl s hkd;rw [hWL,hav] at hwo;have hk11':(s.kind==11)=true:=by simpa using hk11
   have fx:=qU h0 h1 h5 hp5 h14 hp14 h15 h16 h7 hp7 hil hge<|yE hll hwl hk11'<|hT;have d1:=hwo;have c1:=lm gl hgl p hp b k hk T hT8 2 qO qO;refine qG ?_;clear fx d1 c1;refine jU (t:=6) ?_ ?_ ?_
   all_goals simp [cq,CY,b9,nA]
  .have hk11':(s.kind==11)=false:=by simpa using hk11
   by_cases wF:0<=s.kind/\s.kind<=6
   .have hsl:cg p b s=[qx p b T 1]:=by simp [cg,hk11,hT,wF]
    rw [hsl];generalize hWL:j5 s=WL at hwl;have hwo:=nH gl s hkd;rw [hWL,hav] at hwo;have hbi:=CW gl s;rw [decide_eq_true (.inl wF:s.qBN\/s.kind=11),hav] at hbi;have fx:=qU h0 h1 h5 hp5 h14 hp14 h15 h16 h7 hp7 hil hge<|yE hll hwl hk11'<|hT;have d1:=hwo;have c1:=hbi;have c2:=lm gl hgl p hp b k hk T hT8 1 qO qO;refine qG ?_;clear fx d1 c1 c2;refine jU (t:=6) ?_ ?_ ?_
    all_goals simp [cq,CY,b9,nA]
   .have hsl:cg p b s=[]:=by simp only [cg,if_neg hk11,if_neg wF]
    rw [hsl];generalize hWL:j5 s=WL at hwl;have hwo:=nH gl s hkd;rw [hWL] at hwo;have hbi:=CW gl s;rw [decide_eq_false (λh:s.qBN\/s.kind=11=>h.elim wF hk11)] at hbi;have fx:=qU h0 h1 h5 hp5 h14 hp14 h15 h16 h7 hp7 hil hge<|jI hll hwl<|hk11';have d1:=hwo;have c1:=hbi;refine qG ?_;clear fx d1 c1;refine jU (t:=6) ?_ ?_ ?_
    all_goals simp [cq,CY,b9,nA]
end Go.Proofs.YtdnebaieamppbaaGreatDoor
end
section

end
section
namespace Go.Proofs.YtdnebaieamppbaaGreatDoor
open Go Go.Hm Go.Proofs Tryz
abbrev TO:Zh:=DH<|.q 5<|.q 6<|.q 8<|.q 9<|.q 12<|.q 13<|.l2 4 [13,12,9,8,6,5,1,0] (.l2 7 [13,12,9,8,1,0] (.l2 10 [13,12,1,0] (.l2 11 [13,12,1,0] (.l2 14 [1,0] (.q 15<|.l 16 [15,1,0]<|.l 17 []<|.done) 16 [13,12,1,0] (.l 14 [1,0]<|.q 15<|.l 17 []<|.done)) 16 [13,12,1,0] (.l 11 [13,12,1,0]<|.l 14 [1,0]<|.q 15<|.l 17 []<|.done)) 16 [13,12,9,8,1,0] (.l 10 [13,12,1,0]<|.l 11 [13,12,1,0]<|.l 14 [1,0]<|.q 15<|.l 17 []<|.done)) 16 [13,12,9,8,6,5,1,0] (.l 7 [13,12,9,8,1,0]<|.l 10 [13,12,1,0]<|.l 11 [13,12,1,0]<|.l 14 [1,0]<|.q 15<|.l 17 []<|.done)) 16 [13,12,9,8,6,5,3,2,1,0] (.l 4 [13,12,9,8,6,5,1,0]<|.l 7 [13,12,9,8,1,0]<|.l 10 [13,12,1,0]<|.l 11 [13,12,1,0]<|.l 14 [1,0]<|.q 15<|.l 17 []<|.done)
abbrev TN:Zh:=Hw<|.l 5 [1,0]<|.l 6 []<|.q 7<|.l 8 []<|.done
theorem Fq (gl) (p:Z0) (hp:Z7 p) (b:Nat) (k:Za) (hk:p[b]?=some k):qb prog gl 179 [gx p,iv b] (λr y H'=>y=.hs r 1 0 (qP p b).length/\H' r=some (.row 1 (qT (qP p b)))):=by
 by_cases hk1:k.kind=1
 .exact AJ gl p hp b k hk hk1
 have hh:=hp.Zc;obtain⟨Zs,hbE⟩:=gS hk;have hka:qg p b=k.kind:=bY;have hsg:=vf (p:=p) Zs;rw [ji hh hk] at hsg;obtain⟨_,hse⟩:=gS hsg;have hc:qP p b=[]:=by simp [qP,hka,hk1]
 have hkd:(k.kind==1)=false:=tM;rw [hc];refine qb.Zl func179 [.tmp 4] ntmps179 λC w g root=>?_;refine qC ?_<|yS hsg hse hkd Zs<|@qL;exact jU (t:=4) zg zg qB
theorem EP (gl) (p:Z0) (b:Nat):qb prog gl 166 [.agg (vJ (qF p b))] (λr z H'=>z=.hs r 1 0 (qF p b).length/\H' r=some (.row 1 (qT (qF p b)))):=by
 have hli:=sC gl (qF p b);rw [o9] at hli;exact hli
theorem iT (gl:Nat->Option (List AV)) (hgl:gl 0=some dH) (p:Z0) (hp:Z7 p) (b:Nat) (k:Za) (hk:p[b]?=some k):qb prog gl 141 [pav p,gx p,iv b] (λr y H'=>y=.agg ((zC p b).own r 0)/\qBp H' r 0 (zC p b)):=by
 have hl7:=hp.len.2;have hkm:=gM hk;obtain⟨Zs,hbE⟩:=gS hk;have hk12:=hp.body k hkm;obtain⟨hpl,_⟩:=hp.sml.bsm hk;have hcode:zC p b=⟨k.kind,k.params,qP p b,qF p b,qd p b,uP p b k.body⟩:=by simp [zC,vI,hk]
 have hfl:=w5 (p:=p) (b:=b);have hcl:=jo (p:=p) (b:=b);have hrl:=yY (p:=p) (b:=b);rw [hcode];refine qb.Zl func141 [.cell 6 111] ntmps141 λC w g root=>?_;have fx:=yE hk hbE Zs<|hpl;have c1:=dI gl p hp b k hk;have d1:=Fq gl p hp b k hk;have d2:=EP gl p b;have d3:=iJ gl p hp b Zs;refine qG ?_
 first|refine Ze (id:=2) TO mixed ?_|refine Ze (id:=6) TN mixed ?_
 refine Ru (λst=>st.tm 1=gx p/\st.tm 2=iv b/\st.tm 6=.pt (.s 6) 0/\st.hp (.s 6)=some (.row 6 [ff.own (.s 6) 0])/\st.tm 8=.pt (.s 8) 0/\st.tm 33=ssl k.body/\st.tm 34=iv k.body.length/\st.tm 35=iv 0/\st.hp (.s 8)=some (.row 6 [Cod.own (.s 8) 0 ⟨k.kind,k.params,qP p b,qF p b,qd p b,[]⟩])/\st.hp (.c (.s 8) 0 1)=some (.row 1 (qT k.params))/\st.hp (.c (.s 8) 0 2)=some (.row 1 (qT (qP p b)))/\st.hp (.c (.s 8) 0 3)=some (.row 1 (qT (qF p b)))/\st.hp (.c (.s 8) 0 4)=some (.row 1 (qT (qd p b)))/\st.hp (.c (.s 8) 0 5)=some (.row 2 [])) ?_;clear fx c1 d1 d2 d3;rintro st ⟨h1,h2,h6,hp6,h8,h33,h34,h35,hp8,q1,q2,q3,q4,q5⟩;refine qX (λn st=>∃ i:Nat,n=k.body.length - i/\i<=k.body.length/\st.tm 1=gx p/\st.tm 2=iv b/\st.tm 6=.pt (.s 6) 0/\st.hp (.s 6)=some (.row 6 [ff.own (.s 6) 0])/\st.tm 8=.pt (.s 8) 0/\st.tm 33=ssl k.body/\st.tm 34=iv k.body.length/\st.tm 35=iv i/\∃ c:Cod,c=⟨k.kind,k.params,qP p b,qF p b,qd p b,uP p b (k.body.take i)⟩/\st.hp (.s 8)=some (.row 6 [c.own (.s 8) 0])/\qBp st.hp (.s 8) 0 c) k.body.length ?_ ?_
 .refine⟨0,qA,qA,h1,h2,h6,hp6,h8,h33,h34,h35,_,rfl,?_,⟨?_,?_,?_,?_,?_⟩⟩
  all_goals simp [uP,hp8,q1,q2,q3,q4,q5]
 clear h1 h2 h6 hp6 h8 h33 h34 h35 hp8 q1 q2 q3 q4 q5;rintro n st - - ⟨i,rfl,hi,h1,h2,h6,hp6,h8,h33,h34,h35,c,hc,hp8,⟨o1,o2,o3,o4,o5⟩⟩;have hll:=tx (p:=p) (b:=b) (k.body.take i);rw [List.length_take] at hll;by_cases hil:i<k.body.length
 .obtain⟨s,hss⟩:=gX hil;obtain⟨_,hsE⟩:=gS hss;have hnx:=AU (p:=p) (b:=b) hss;have hsl:=rC (p:=p) (b:=b) (s:=s);generalize hL:uP p b (k.body.take i)=L at hc hnx hll;subst hc;simp only [Cod.qB1] at hp8 o1 o2 o3 o4 o5;have fx:=qU h1 h2 h6 hp6 h8 h33 h34 h35 hp8 o1 o2 o3<|u4 o4 o5 hss hsE hil hll<|hsl;have d1:=sS gl hgl p b k s hp hk (gM hss);refine qG ?_
  repeat ((first|refine Ze (id:=2) TO mixed ?_|refine Ze (id:=6) TN mixed ?_);refine qZ ?_;refine qG ?_)
  clear fx d1;refine⟨k.body.length - (i+1),qA,i+1,rfl,qA,qy,ql,j3,aX,kK,by simp [h33],by simp [h34],zD,_,rfl,?_,⟨?_,?_,?_,?_,?_⟩⟩
  all_goals simp [Cod.own,hnx,o1,o2,o3,o4,o5,hp8]
 .have hge:i=k.body.length:=qA;subst hge;rw [an] at hc;subst hc;simp only [Cod.qB1] at hp8 o1 o2 o3 o4 o5;have fx:=qU h1 h2 h6 hp6 h8 h33 h34 h35 hp8 o1 o2 o3<|jI o4 o5<|hil;refine qG ?_
  repeat ((first|refine Ze (id:=2) TO mixed ?_|refine Ze (id:=6) TN mixed ?_);refine qZ ?_;refine qG ?_)
  clear fx;refine qD [(.s 8,root)] (.one rfl) CL ⟨?_,⟨?_,?_,?_,?_,?_⟩⟩
  all_goals simp [h6,o1,o2,o3,o4,o5]
theorem mf (gl:Nat->Option (List AV)) (hgl:gl 0=some dH) (p:Z0) (hp:Z7 p):qb prog gl 92 [pav p,gx p] (λr y H'=>y=.hs r 6 0 (qw p p.length).length/\qDW H' r (qw p p.length)):=by
 have hl7:=hp.len.2;refine qb.Zl func92 [.tmp 4] ntmps92 λC w g root=>?_;refine qC ?_<|Zk;refine qX (λn st=>∃ i:Nat,n=p.length - i/\i<=p.length/\st.tm 1=gx p/\st.tm 2=.pt (.s 2) 0/\st.hp (.s 2)=some (.row 1 [[ksl p]])/\st.tm 9=iv p.length/\st.tm 10=iv i/\∃ cs:List Cod,cs=qw p i/\cs.length=i/\st.tm 5=.hs (.s 5) 6 0 cs.length/\qDW st.hp (.s 5) cs) p.length ?_ ?_
 .refine⟨0,qA,qA,qB,qB,qB,qB,qB,[],qB,rfl,qB,⟨qB,λi c h=>by simp at h⟩⟩
 rintro n st - - ⟨i,rfl,hi,h1,h2,hp2,h9,h10,cs,hcs,hcl,h5,⟨ht,he⟩⟩;by_cases hil:i<p.length
 .obtain⟨k,hk⟩:=gX hil;have hnx:=oy (p:=p) (n:=i);have hcc:=iT gl hgl p hp i k hk;rw [<- hcs] at hnx;generalize hC:zC p i=c at hcc hnx;have hcl7:cs.length<=7:=qA;have fx:=uD h1 h2 hp2 h9 h10<|hil;have e1:=hcc;refine qG ?_;clear fx e1;rintro K hK y H' ⟨rfl,hO⟩;obtain⟨o1,o2,o3,o4,o5⟩:=hO.qAH;refine⟨qB,?_⟩;refine qC ?_<|qU h1 h2 hp2 h9 h10 h5 ht hcl7 o1 o2 o3 o4<|o5;refine⟨p.length - (i+1),qA,i+1,rfl,qA,qy,ql,zF,b5,zD,cs++[c],hnx.symm,by simp [hcl],qB,⟨?_,λj d hj=>?_⟩⟩
  .simp [ht,AF]
  .rcases fF j cs.length with hlj|hgj
   .rw [uW hlj] at hj;have hne:¬ j=cs.length:=qA;obtain⟨e1,e2,e3,e4,e5⟩:=he j d hj;exact⟨by simp [hne,e1],by simp [hne,e2],by simp [hne,e3],by simp [hne,e4],by simp [hne,e5]⟩
   .rw [b7 hgj] at hj
    obtain rfl:j=cs.length:=by
     have:=(gS hj).1;simp at this;omega
    simp at hj;subst hj;exact⟨by simp [o1],by simp [o2],by simp [o3],by simp [o4],by simp [o5]⟩
 .have hge:i=p.length:=qA;subst hge;subst hcs;refine qC ?_<|kO h1 h2 hp2 h9 h10 hil h5<|ht;refine qD [(.s 4,root)] (.one rfl) qE ⟨qB,⟨by simp [ht,dD (n:=.s 4) (m:=root) (f:=jc noD [(.s 4,root)]) qB],λj d hj=>?_⟩⟩;obtain⟨e1,e2,e3,e4,e5⟩:=he j d hj;exact⟨by simp [e1],by simp [e2],by simp [e3],by simp [e4],by simp [e5]⟩
end Go.Proofs.YtdnebaieamppbaaGreatDoor
end
section

end
section
namespace Go.Proofs.YtdnebaieamppbaaGreatDoor
open Go Go.Hm Go.Proofs Tryz
attribute [local simp] mF bg
theorem Mw (gl) (l:List (Int×Int)) (A:Nat) (hA:A<l.length) (hl:l.length<=1000):qb prog gl 213 [osl l,iv A] (λ_ y _=>y=iv ((ub (l.take (A+1)):Int) - 1)):=by
 have hw:IntKind.i64.wrap ((A:Int)+1)=((A+1:Nat):Int):=by rw [Zv qA qA];rfl
 have hA1:A+1<=l.length:=qA;have hmin:min (A+1) l.length=A+1:=Nat.min_eq_left hA1;generalize hB:A+1=B at hw hA1 hmin;refine qb.Zl func213 [.tmp 4] ntmps213 λC w g root=>?_;refine qC ?_<|jI hw hA1<|hmin;refine qX (λn st=>∃ i:Nat,n=B - i/\i<=B/\st.tm 11=osl (l.take B)/\st.tm 12=iv B/\st.tm 13=iv i/\st.tm 5=iv ((ub (l.take i):Int) - 1)) B ?_ ?_
 .exact⟨0,qA,qA,qB,by simp [hmin],qB,by simp [ub]⟩
 rintro n st - - ⟨i,rfl,hi,h11,h12,h13,h5⟩;by_cases hil:i<B
 .have hil2:i<l.length:=qA;obtain⟨o,ho⟩:=gX hil2;have ho2:(l.take B)[i]?=some o:=by rw [O8,if_pos hil,ho]
  obtain⟨hoL,hoE⟩:=gS ho2;have htk:=gp ho;have htl:ub (l.take i)<=i:=vk Hi qc;have hLl:(l.take B).length=B:=qc;generalize l.take B=L at h11 ho2 hoL hoE hLl ⊢;generalize ub (l.take i)=T at h5 htk htl
  have hwT:IntKind.i64.wrap ((T:Int) - 1+1)=(T:Int):=by
   rw [show (T:Int) - 1+1=T by omega];exact Zv qA qA
  cases ho0:(o.1==0)
  .have e0:¬ o.1=0:=by simpa using ho0
   refine qC ?_<|bA h11 h12 h13 h5 ho2 hoE hoL hil<|ho0;exact⟨B - (i+1),qA,i+1,rfl,qA,vr,aZ,zD,by simp [htk,e0,h5]⟩
  .have e0:o.1=0:=by simpa using ho0
   have e1:((T+1:Nat):Int) - 1=T:=qA;have hwT':IntKind.i64.wrap (T:Int)=(T:Int):=Zv qA qA;refine qC ?_<|aJ h11 h12 h13 h5 ho2 hoE hoL hil ho0<|hwT;refine⟨B - (i+1),qA,i+1,rfl,qA,vr,aZ,zD,?_⟩;rw [htk,if_pos e0,e1];simp [hwT']
 .have hge:i=B:=qA;refine qC ?_<|yS h11 h12 h13 h5<|hil;refine qD [] .nil qE ?_;rw [<- hge];simp
end Go.Proofs.YtdnebaieamppbaaGreatDoor
end
section
namespace Go.Proofs.YtdnebaieamppbaaGreatDoor
open Go Go.Hm Go.Proofs Tryz
abbrev XX:Zh:=MC<|.l 16 [11,6,5,4,2,1,0]<|.l 17 []<|.done
abbrev XW:Zh:=yz<|.l 11 [5,4,3,2,1,0]<|.l 12 [5,0]<|.q 13<|.q 14<|.l 15 []<|.done
theorem sP {A G G2:Prop} (k:G2) (x:A) (h:A->Zx G2->G:=by
 intro fx kk;refine qG ?_
 repeat ((first|refine Ze (id:=4) XX mixed ?_|refine Ze (id:=5) XW mixed ?_);refine qZ ?_;refine qG ?_)
 exact kk.h):G:=h x ⟨k⟩
theorem H9 (gl) (H:Nm->Option AO) (p:Z0) (m:Zb) (fs:List Z8) (f:Z8) (o:Int×Int) (ho:(vI p f.Z1)[f.pc - 1]?=some o) (ho0:o.1=0) (hb:f.Z1<p.length) (hp7:p.length<=7) (he:m.en=0) (hfl:fs.length<=150) (hlf:m.left<=150) (htl:m.trace.length<=1000) (hpc1:1<=f.pc) (hpc:f.pc<=(vI p f.Z1).length) (hol:(vI p f.Z1).length<=60) (hO:ZY H p (m.top fs f)) :
  Zj prog gl 182 DM [.pt Yn 0,.pt Yn (yo fs.length)] H (λ_ y H'=>y=bv (decide ((bE p m fs f).en=0))/\ZY H' p (bE p m fs f)) noE:=by
 obtain⟨R,j,hT,tr,h2,h3,h28⟩:=hO.qAO rfl qA;have hRl:=tr.len;have r2:=tr.r2;have r0:=tr.r0;have f0:=tr.f0;have f1:=tr.f1;obtain⟨r2l,r2E⟩:=gS r2;simp only [Zb.top] at r2 r2E;refine Zj.Zl func182 [.tmp 4] ntmps182 (λ_=>qN) λC w g root hroot=>?_;by_cases hl:m.left=0
 .have ht:bE p m fs f=m.stop fs f 1:=by simp only [bE,hl,if_true]
  rw [ht];refine sP ?_<|yS hT r2 r2E hRl<|hl;intro K hK;have fx:=Zk;refine qe hO (have h:=hO;ZY.re h) (qf _) (hF:=λhO=>uo gl DM (λ_=>qN) _ R 1 qu hRl) (h:=?_);rintro y H1 hw;clear fx;have hO1:=ZY.Zv (ZY.qAg (e:=1) (have h:=hO;ZY.re h) rfl qu) hw;obtain⟨rfl,-⟩:=hw;refine sP ?_<|Zk;refine qD [] .nil qE ⟨qB,ZY.fin (have h:=hO1;ZY.re h)⟩
 .obtain⟨l,hll⟩:∃ l,m.left=l+1:=⟨m.left - 1,qA⟩
  have ht:bE p m fs f={ m.top fs f with left:=l,trace:=m.trace++[(f.Z1,ub ((vI p f.Z1).take (f.pc - 1)))] }:=by
   simp only [bE,hl,if_false,hll]
   rfl
  rw [ht];have hlb:((l:Int)+1==0)=false:=vP;have hwl:IntKind.i64.wrap (l:Int)=l:=Zv qA qA;refine qC ?_<|u4 hT r2 r2E hRl hll hlb<|hwl;refine uu (λs=>s.tm 0=.pt Yn 0/\s.tm 1=.pt Yn (yo fs.length)/\ZY s.hp p ({ m with left:=l }.top fs f)) ⟨qB,qB,?_⟩ ?_
  .have h:=hO;exact ZY.reT h rfl rfl rfl (od (R':=Zz R 2 [iv l]) hT te (λJ hJ e=>by rw [e];exact U6)) (h6t:=ql) (h7t:=qt) (h8t:=⟨j,vo⟩)
  clear hT tr r2E r2l r2 r0 f0 f1 hRl h2 h3 h28 hO j R;rintro s ⟨t0,t1,hO⟩;obtain⟨R,j,hT,tr,h2,h3,h28⟩:=hO.qAO rfl qA;have hRl:=tr.len;have r5:=tr.r5;have r0:=tr.r0;have f0:=tr.f0;have f1:=tr.f1;simp only [Zb.top] at r5;obtain⟨_,r5E⟩:=gS r5;obtain⟨_,r0E⟩:=gS r0;obtain⟨f0l,f0E⟩:=gS f0;obtain⟨f1l,f1E⟩:=gS f1;have hcd:(qw p p.length)[f.Z1]?=some (zC p f.Z1):=CA;obtain⟨hcdl,hcdE⟩:=gS hcd;obtain⟨k,hk⟩:=gX hb;have hco:(zC p f.Z1).ops=vI p f.Z1:=em;have hpw:IntKind.i64.wrap ((f.pc:Int) - 1)=((f.pc - 1:Nat):Int):=eM;have hla:=Mw gl (vI p f.Z1) (f.pc - 1) qA qA;have hpe:f.pc - 1+1=f.pc:=qA;rw [hpe] at hla;have hTr:=hO.trc;have fx:=qU t0 t1 hT r0 r0E r5 r5E f0 f0E f0l f1 f1E<|bA f1l hcd hcdl hcdE hco hpw hRl hTr<|htl;have c1:=hla;refine sP ?_<|fx;clear fx c1
  have htk:((ub ((vI p f.Z1).take f.pc):Nat):Int) - 1=ub ((vI p f.Z1).take (f.pc - 1)):=by
   have:=gp ho;rw [hpe,if_pos ho0] at this;rw [this];omega
  have hap:yw m.trace++[[iv f.Z1,iv (((ub ((vI p f.Z1).take f.pc):Nat):Int) - 1)]]=yw (m.trace++[(f.Z1,ub ((vI p f.Z1).take (f.pc - 1)))]):=by rw [htk];exact iD
  refine qD [] .nil qE ⟨by simp [Zb.top,he],ZY.fin ?_⟩;have h:=hO;exact ZY.reT h rfl rfl rfl (Ax hT qE (λJ hJ e=>by rw [e];simp only [eC];exact Yj (m.trace++[(f.Z1,ub ((vI p f.Z1).take (f.pc - 1)))]) hJ qB (λj hj=>by simp [hj]))) (h3:=tG) (h6t:=ql) (h7t:=qt) (h8t:=⟨j,vo⟩)
theorem gm (gl) (H:Nm->Option AO) (p:Z0) (m:Zb) (fs:List Z8) (f:Z8) (o:Int×Int) (off wy:Nat) (e:Int) (hW:WrY p m fs f o off) (hm0:m.en=0) (he:e≠0) (hwy:wy<=2) (hfl:fs.length<=150) (hst:wy=1->1<=f.stack.length) (hsl:f.stack.length<=1000) (hO:ZY H p (m.top fs f)) :
  Zj prog gl 183 DM [.pt Yn 0,.pt Yn (yo fs.length),.pt Yn off,iv wy,iv e] H (λ_ y H'=>y=bv (decide ((yf m fs f o wy e).en=0))/\ZY H' p (yf m fs f o wy e)) noE:=by
 obtain⟨R,j,hT,tr,h2,h3,h28⟩:=hO.qAO rfl qA;have hRl:=tr.len;have f28:=tr.f28;have hle:=hW.le;have hrd:=hW.rd f R rfl tr;have s0:=hrd 0 qA;have s1:=hrd 1 qA;have s2:=hrd 2 qA;rw [C4] at s0;have yoh:yo fs.length+29<=4415:=vq;refine Zj.Zl func183 [.tmp 10] ntmps183 (λ_=>qN) λC w g root hroot=>?_;by_cases w1:wy=1
 .subst w1;have hres:yf m fs f o 1 e=qAD m fs f.pop o (some f.tos):=rfl;rw [hres];obtain⟨k,hk⟩:∃ k,f.stack.length=k+1:=⟨f.stack.length - 1,by have:=hst rfl;omega⟩;rw [hk] at f28;obtain⟨G,hG,g1,g2,g3,c1,c2,c3,c4,c5,c6,hR⟩:=hW.wr f.pop (some f.tos) rfl rfl;refine qC ?_<| hT;intro K hK;have fx:=Zk;refine qe hO (have h:=hO;ZY.re h) (qf _) (hF:=λ_=>da gl DM (λ_=>qN) _ R (yo fs.length) k (f.stack++j) f.tos qu f28 vo (uG hk) qA yoh) (h:=?_);intro y H1 hw;clear fx;have hO1:=ZY.Zv (ZY.qAp (m:=m.top fs f) (have h:=hO;ZY.re h) rfl qA qu hk) hw;obtain⟨rfl,-⟩:=hw;obtain⟨R1,j1,hT1,tr1,h21,h31,h281⟩:=ZY.qAO (f:=f.pop) hO1 rfl qA;have hR1l:=tr1.len;generalize hv:f.tos=v at *;obtain⟨v1,v2⟩:=v;refine qC ?_<|yE hT hT1 hR1l<|hle;refine qD [] .nil qE ⟨by simp [c6,hm0],ZY.fin ?_⟩;have h:=hO1;exact ZY.reT h rfl hG (by rw [c1];rfl) (od (R':=Zz R1 off (jm (some (v1,v2)))) hT1 te (λJ hJ e=>by rw [e];exact hR J hJ)) (h2:=by simp [h.out,c2]) (h3:=by simp [h.trc,c3]) (h4:=by simp [h.ZZ,c4]) (h5:=by simp [h.Zw,c5]) (h6t:=by simp [h21,g1]) (h7t:=by simp [h31,g2]) (h8t:=⟨j1,by simp [h281,g3]⟩) (h9:=by rw [c1];intro c s hc;simp [h.cell c s hc])
 .have w1':((wy:Int)==1)=false:=vP
  cases hs:ft m f o with
  | none =>
   have hres:yf m fs f o wy e=m.stop fs f e:=Gw;rw [hres];rw [hs] at s0;simp only [wN,iU] at s0;obtain⟨s0l,s0E⟩:=gS s0;refine qC ?_<|u4 w1' hT s0 s0E s0l hRl<|hle;intro K hK;have fx:=Zk;refine qe hO (have h:=hO;ZY.re h) (qf _) (hF:=λ_=>uo gl DM (λ_=>qN) _ R e qu hRl) (h:=?_);intro y H1 hw;clear fx;have hO1:=ZY.Zv (ZY.qAg (m:=m.top fs f) (e:=e) (have h:=hO;ZY.re h) rfl qu) hw;obtain⟨rfl,-⟩:=hw;refine qC ?_<|Zk;refine qD [] .nil qE ⟨by simp [Zb.stop,he],ZY.fin (have h:=hO1;ZY.re h)⟩
  | some v =>
   obtain⟨v1,v2⟩:=v;rw [hs] at s0 s1 s2;simp only [kC,iU,Ed] at s0 s1 s2;obtain⟨s0l,s0E⟩:=gS s0;have s12:=gt s1 s2;have hle2:off+1+2<=4415:=qA;by_cases w0:wy=0
   .subst w0;have hres:yf m fs f o 0 e=m.top fs (f.push (v1,v2)):=HB;rw [hres];refine qC ?_<|kO w1' hT s0 s0E s0l s12 hRl<|hle2;intro K hK;have fx:=aI hT s12;refine qe hO (have h:=hO;ZY.re h) (qf _) (hF:=λ_=>vl gl DM (λ_=>qN) _ R (yo fs.length) f.stack j (v1,v2) rfl rfl qu f28 vo hsl yoh) (h:=?_);intro y H1 hw;clear fx;have hO1:=ZY.qAo (m:=m.top fs f) dP rfl qA rfl qu hw;refine qC ?_<|Zk;refine qD [] .nil qE ⟨ey,ZY.fin (have h:=hO1;ZY.re h)⟩
   .have hres:yf m fs f o wy e=qAD m fs f o none:=Gk;rw [hres];have w0':((wy:Int)==0)=false:=vP;obtain⟨G,hG,g1,g2,g3,c1,c2,c3,c4,c5,c6,hR⟩:=hW.wr f none rfl rfl;refine qC ?_<|kO w1' w0' hT s0 s0E s0l hRl<|hle;refine qD [] .nil qE ⟨by simp [c6,hm0],ZY.fin ?_⟩;have h:=hO;exact ZY.reT h rfl hG (by rw [c1];rfl) (od (R':=Zz R off (jm none)) hT te (λJ hJ e=>by rw [e];exact hR J hJ)) (h2:=by simp [h.out,c2]) (h3:=by simp [h.trc,c3]) (h4:=by simp [h.ZZ,c4]) (h5:=by simp [h.Zw,c5]) (h6t:=by simp [h2,g1]) (h7t:=by simp [h3,g2]) (h8t:=⟨j,by simp [h28,g3]⟩) (h9:=by rw [c1];intro c s hc;simp [h.cell c s hc])
theorem ap (gl) (H:Nm->Option AO) (p:Z0) (m:Zb) (fs:List Z8) (f:Z8) (o:Int×Int) (c wy:Nat) (e:Int) (h5:5<=o.1) (h7:o.1<=7) (hc:f.cells.getD o.2.toNat 0=c) (hcl:c<m.cells.length) (hm0:m.en=0) (he:e≠0) (hwy:wy<=2) (hfl:fs.length<=150) (hst:wy=1->1<=f.stack.length) (hsl:f.stack.length<=1000) (hO:ZY H p (m.top fs f)) :
  Zj prog gl 183 DM [.pt Yn 0,.pt Yn (yo fs.length),.pt (En c) 0,iv wy,iv e] H (λ_ y H'=>y=bv (decide ((yf m fs f o wy e).en=0))/\ZY H' p (yf m fs f o wy e)) noE:=by
 obtain⟨R,j,hT,tr,h2,h3,h28⟩:=hO.qAO rfl qA;have hRl:=tr.len;have f28:=tr.f28;have e1:¬ o.1<=4:=qA
 have wF:∀ g s,g.cells=f.cells->qAD m fs g o s={ m.top fs g with cells:=m.cells.set c s }:=λg s hg=>by
  simp only [qAD,if_neg e1,if_pos h7,hg,hc]
 have yoh:yo fs.length+29<=4415:=vq;obtain⟨s,hs1⟩:=gX hcl;have hs:ft m f o=s:=by simp [ft,e1,h7,-List.getD_eq_getElem?_getD,hc,uE,hs1]
 have hE:=hO.cell c s hs1
 have hcs:∀ (s':Zt) (hp':Nm->Option AO),hp' (En c)=some (.row 3 [jm s'])->(∀ c',c'≠c->∀ s,m.cells[c']?=some s->hp' (En c')=some (.row 3 [jm s]))->∀ (c':Nat) s,(m.cells.set c s')[c']?=some s->hp' (En c')=some (.row 3 [jm s]):=by
  intro s' hp' h1 h2 c' s hc';rw [eV] at hc';by_cases e:c=c'
  .subst e;rw [if_pos rfl,if_pos hcl] at hc';obtain rfl:=sI hc';exact h1
  .rw [if_neg e] at hc';exact h2 c' (λh=>e h.symm) s hc'
 refine Zj.Zl func183 [.tmp 10] ntmps183 (λ_=>qN) λC w g root hroot=>?_;by_cases w1:wy=1
 .subst w1;have hres:yf m fs f o 1 e=qAD m fs f.pop o (some f.tos):=rfl;rw [hres,wF f.pop _ rfl];obtain⟨k,hk⟩:∃ k,f.stack.length=k+1:=⟨f.stack.length - 1,by have:=hst rfl;omega⟩;rw [hk] at f28;refine qC ?_<| hT;intro K hK;have fx:=Zk;refine qe hO (have h:=hO;ZY.re h) (qf _) (hF:=λ_=>da gl DM (λ_=>qN) _ R (yo fs.length) k (f.stack++j) f.tos qu f28 vo (uG hk) qA yoh) (h:=?_);intro y H1 hw;clear fx;have hO1:=ZY.Zv (ZY.qAp (m:=m.top fs f) (have h:=hO;ZY.re h) rfl qA qu hk) hw;obtain⟨rfl,-⟩:=hw;obtain⟨R1,j1,hT1,tr1,h21,h31,h281⟩:=ZY.qAO (f:=f.pop) hO1 rfl qA;have hE1:=hO1.cell c s hs1;generalize hv:f.tos=v at *;obtain⟨v1,v2⟩:=v;have hd:(jm s).drop 3=[]:=List.drop_eq_nil_of_le qB;refine qC ?_<|jI hE hE1<|hd;refine qD [] .nil qE ⟨Bl,ZY.fin ?_⟩;have h:=hO1;exact ZY.reT h rfl (m':={ m.top fs f.pop with cells:=m.cells.set c (some (v1,v2)) }) rfl a6 (od (R':=R1) hT1 bt (λJ hJ e=>e.trans (by simp [zV,yA,yB,yZ,Zb.top]))) (h6t:=by simp [h21]) (h7t:=by simp [h31]) (h8t:=⟨j1,oS⟩) (h9:=hcs _ _ qB (λc' hn s hc'=>by simp [hn,h.cell c' s hc'])) (hA:=by intro k i j hk e hn;by_cases e2:k=7/\i=c/\j=0;(obtain⟨rfl,rfl,rfl⟩:=e2;rw [hE1];simp);simpa [hk,e,e2] using hn)
 .have w1':((wy:Int)==1)=false:=vP
  cases s with
  | none =>
   have hres:yf m fs f o wy e=m.stop fs f e:=Gw;rw [hres];refine qC ?_<|aI w1'<|hE;intro K hK;have fx:=Zk;refine qe hO (have h:=hO;ZY.re h) (qf _) (hF:=λ_=>uo gl DM (λ_=>qN) _ R e qu hRl) (h:=?_);intro y H1 hw;clear fx;have hO1:=ZY.Zv (ZY.qAg (m:=m.top fs f) (e:=e) (have h:=hO;ZY.re h) rfl qu) hw;obtain⟨rfl,-⟩:=hw;refine qC ?_<|Zk;refine qD [] .nil qE ⟨by simp [Zb.stop,he],ZY.fin (have h:=hO1;ZY.re h)⟩
  | some v =>
   obtain⟨v1,v2⟩:=v;by_cases w0:wy=0
   .subst w0;have hres:yf m fs f o 0 e=m.top fs (f.push (v1,v2)):=HB;rw [hres];refine qC ?_<|aI w1'<|hE;intro K hK;have fx:=hE;refine qe hO (have h:=hO;ZY.re h) (qf _) (hF:=λ_=>vl gl DM (λ_=>qN) _ R (yo fs.length) f.stack j (v1,v2) rfl rfl qu f28 vo hsl yoh) (h:=?_);intro y H1 hw;clear fx;have hO1:=ZY.qAo (m:=m.top fs f) dP rfl qA rfl qu hw;refine qC ?_<|Zk;refine qD [] .nil qE ⟨ey,ZY.fin (have h:=hO1;ZY.re h)⟩
   .have hres:yf m fs f o wy e=qAD m fs f o none:=Gk;rw [hres,wF f _ rfl];have w0':((wy:Int)==0)=false:=vP;refine qC ?_<|jI w1' w0'<|hE;refine qD [] .nil qE ⟨Bl,ZY.fin ?_⟩;have h:=hO;exact ZY.reT h rfl (m':={ m.top fs f with cells:=m.cells.set c none }) rfl a6 (od (R':=R) hT qu (λJ hJ e=>e.trans (by simp [zV,yA,yB,yZ,Zb.top]))) (h6t:=ql) (h7t:=qt) (h8t:=⟨j,vo⟩) (h9:=hcs _ _ qB (λc' hn s hc'=>by simp [hn,h.cell c' s hc'])) (hA:=by intro k i j hk e hn;by_cases e2:k=7/\i=c/\j=0;(obtain⟨rfl,rfl,rfl⟩:=e2;rw [hE];simp);simpa [hk,e,e2] using hn)
end Go.Proofs.YtdnebaieamppbaaGreatDoor
end
