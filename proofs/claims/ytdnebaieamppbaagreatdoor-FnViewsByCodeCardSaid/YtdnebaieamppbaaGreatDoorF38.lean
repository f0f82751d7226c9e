import Derived.Test.YtdnebaieamppbaaGreatDoorF33
import Derived.Test.YtdnebaieamppbaaGreatDoorF29
set_option linter.unusedSimpArgs false
set_option linter.unusedVariables false
set_option maxRecDepth 100000
set_option maxHeartbeats 4000000

section
namespace Go.Proofs.YtdnebaieamppbaaGreatDoor
open Go Go.Hm Go.Proofs Tryz
theorem EZ {p:YU} (h:Y1 p) {i:Nat} {k:Y4} (hk:p[i]?=some k):k.kind=0\/k.kind=1\/k.kind=2:=by
 have:=h.head i k hk;unfold ym at this
 split at this <;> omega
theorem EX {l:List Int}:sorted (sorted l)=sorted l:=gP λx hx=>by
 rw [Go.Hm.mem_sorted];exact⟨λh=>h.1,λh=>⟨h,qA,qA⟩⟩
theorem mo {p:YU} {b:Nat}:sorted (qC p b)=qC p b:=by
 unfold qC
 split
 .exact EX
 .rfl
theorem C7 {xs:List Int} {x:Int}:(qq xs x == -1)=!decide (x∈xs):=by
 have h1:=zr (xs:=xs) (x:=x);have h2:=fG (xs:=xs) (x:=x);by_cases h:x∈xs
 .have:=h1.2 h;simp [h];omega
 .have:¬ 0<=qq xs x:=λe=>h (h1.1 e);simp [h];omega
theorem tu (gl) (p:YU) (hp:Y1 p) (b:Nat) (k:Y4) (hk:p[b]?=some k) (hk1:k.kind=1):qX prog gl 179 [fp p,iv b] (λr y H'=>y=.hs r 1 0 (qG p b).length/\H' r=some (.row 1 (qS (qG p b)))):=by
 have hh:=hp.Y9;have hl7:=hp.len;obtain⟨Ym,hbE⟩:=gS hk;have hka:qV p b=k.kind:=kS;have hsg:=ue (p:=p) Ym;rw [jd hh hk] at hsg;obtain⟨_,hse⟩:=gS hsg
 have hc:qG p b=sorted (qw (yI p b) 8):=by
  rw [xZ];simp [qG,hka,hk1]
 have hkd:(k.kind==1)=true:=ri;rw [hc];refine qX.Yb func179 [.tmp 4] ntmps179 λC w g root=>?_;have fx:=yl hsg hse hkd Ym<|@qT;have c1:=cA gl p hp b k hk;refine qI ?_;clear fx c1;refine qR (λn st=>∃ x:Nat,n=8 - x/\x<=8/\st.tm 0=fp p/\st.tm 1=iv b/\st.tm 5=.pt (.s 5) 0/\st.hp (.s 5)=some (.row 8 [ye (qw (yI p b) x)])/\st.tm 6=.pt (.s 6) 0/\st.hp (.s 6)=some (.row 8 [ye (qC p b)])/\st.tm 19=iv x) 8 ?_ ?_
 .exact⟨0,qA,qA,qB,qB,qB,qF,qB,qB,qB⟩
 rintro n st - - ⟨x,rfl,hx,h0,h1,h5,hp5,h6,hp6,h19⟩;by_cases hx8:x<8
 .have hx8':(x:Int)<8:=qA;have hfi:yI p b x=(qr b k x&&!decide ((x:Int)∈qC p b)):=by simp only [yI,hk]
  have hn2:=gW (f:=yI p b) (n:=x)
  have hno:(x:Int)∉qw (yI p b) x:=λh=>by
   rw [jK] at h;omega
  have hbg:=lW (l:=qC p b) hx8;obtain⟨hbgl,hbgE⟩:=gS hbg;generalize hL:qw (yI p b) x=L at hp5 hn2 hno
  cases hlo:qr b k x
  .rw [if_neg (by rw [hfi,hlo];simp)] at hn2
   all_goals have fx:=qQ h0 h1 h5 hp5 h6 hp6 h19 hx8 hx8' hsg hse Ym<|hlo
   repeat' (first|refine qK ?_|refine λ(K:St->Prop) hK=>?_|refine qP (hF:=pH _ p hp b k hk x hx8) (h:=?_))
   all_goals try clear fx
   exact⟨8 - (x+1),qA,x+1,rfl,qA,qu,qz,zA,by simp [hn2,Di hx8 hno],zL,va,q8⟩
  cases hce:decide ((x:Int)∈qC p b)
  rotate_left
  .rw [if_neg (by rw [hfi,hlo,hce];decide)] at hn2
   all_goals have fx:=qQ h0 h1 h5 hp5 h6 hp6 h19 hx8 hx8' hsg hse Ym<|yl hlo hbg hbgE hbgl<|hce
   repeat' (first|refine qK ?_|refine λ(K:St->Prop) hK=>?_|refine qP (hF:=pH _ p hp b k hk x hx8) (h:=?_))
   all_goals try clear fx
   exact⟨8 - (x+1),qA,x+1,rfl,qA,qu,qz,zA,by simp [hn2,Di hx8 hno],zL,va,q8⟩
  .rw [if_pos (by rw [hfi,hlo,hce];rfl)] at hn2
   all_goals have fx:=qQ h0 h1 h5 hp5 h6 hp6 h19 hx8 hx8' hsg hse Ym<|yl hlo hbg hbgE hbgl<|hce
   repeat' (first|refine qK ?_|refine λ(K:St->Prop) hK=>?_|refine qP (hF:=pH _ p hp b k hk x hx8) (h:=?_))
   all_goals try clear fx
   refine⟨8 - (x+1),qA,x+1,rfl,qA,qu,qz,zA,?_,zL,va,q8⟩;rw [hn2];simp [<- wi (l:=L) (y:=(x:Int)) rfl hx8]
 .have hge:x=8:=qA;subst hge;have fx:=jD h5 hp5<|h19;have d1:=pI gl (qw (yI p b) 8);refine qI ?_;clear fx d1;exact zq (t:=4) zT zT qB
theorem kf (gl) (p:YU) (hp:Y1 p) (b:Nat) (k:Y4) (hk:p[b]?=some k) (x:Nat) (hx:x<8):qX prog gl 143 [fp p,iv b,iv x] (λ_ y _=>y=iv (vM p b x)):=by
 have Ym:=(gS hk).1;have hcl:=zn (p:=p) (b:=b);have hfl:=j7 (p:=p) (b:=b);have hbd:=fG (xs:=qN p b) (x:=(x:Int));have hw:IntKind.i64.wrap (((qC p b).length:Int)+qq (qN p b) x)=(qC p b).length+qq (qN p b) x:=Yi qA qA;have hli:=pI gl (qC p b);rw [mo] at hli;have hpn:=C7 (xs:=qC p b) (x:=(x:Int));refine qX.Yb func143 [.tmp 6] ntmps143 λC w g root=>?_;by_cases hm:(x:Int)∈qC p b
 .have hpn':(qq (qC p b) x == -1)=false:=by rw [hpn];simp [hm]
  all_goals have fx:=aI hpn'<|@qT
  repeat' (first|refine qK ?_|refine λ(K:St->Prop) hK=>?_|refine qP (hF:=cA _ p hp b k hk) (h:=?_)|refine jX (hF:=hli) (h:=?_)|refine qP (hF:=kY _ (qC p b) _ qA) (h:=?_))
  all_goals try clear fx
  refine qE [] .nil qF ?_;simp [vM,hm]
 .have hpn':(qq (qC p b) x == -1)=true:=by rw [hpn];simp [hm]
  all_goals have fx:=jD hpn' hw<|@qT
  repeat' (first|refine qK ?_|refine λ(K:St->Prop) hK=>?_|refine qP (hF:=cA _ p hp b k hk) (h:=?_)|refine jX (hF:=hli) (h:=?_)|refine qP (hF:=kY _ (qC p b) _ qA) (h:=?_)|refine jX (hF:=fL _ p hp b Ym) (h:=?_)|refine qP (hF:=kY _ (qN p b) _ qA) (h:=?_))
  all_goals try clear fx
  refine qE [] .nil qF ?_;simp [vM,hm]
theorem ww (gl) (p:YU) (hp:Y1 p) (b:Nat) (k:Y4) (hk:p[b]?=some k) (x:Nat) (hx:x<8):qX prog gl 232 [fp p,iv b,iv x] (λ_ y _=>y=iv (zh p b x)):=by
 have hh:=hp.Y9;have hl7:=hp.len;obtain⟨Ym,hbE⟩:=gS hk;have hka:qV p b=k.kind:=kS;have hsg:=ue (p:=p) Ym;rw [jd hh hk] at hsg;obtain⟨_,hse⟩:=gS hsg;have hop:=uo (p:=p) (c:=b) (x:=(x:Int));have hx8:(x:Int)<8:=qA;refine qX.Yb func232 [.tmp 6] ntmps232 λC w g root=>?_
 cases ho:(qh p b x == -1)
 rotate_left
 .skip
  have fx:=j4 hsg hse Ym<|ho;have c1:=zM gl p hp b k hk x hx;refine qI ?_;clear fx c1;refine qE [] .nil qF ?_;have ho':qh p b x=-1:=by simpa using ho
  simp [zh,ho']
 have hno:¬ qh p b x=-1:=by simpa using ho
 have hnl:¬ qh p b x<0:=qA
 cases hb:(qh p b x==(b:Int))
 .skip
  have fx:=kH hsg hse Ym ho hb<|@qT;have c1:=zM gl p hp b k hk x hx;refine qI ?_;clear fx c1;refine qE [] .nil qF ?_;have hb':¬ qh p b x=b:=by simpa using hb
  simp only [zh,if_neg hnl,if_pos hb']
  rfl
 have hb':qh p b x=b:=by simpa using hb
 have hnn:¬ qh p b x≠b:=λh=>h hb'
 cases hkd:(k.kind==2)
 rotate_left
 .skip
  have fx:=kG hsg hse Ym ho hb @qT<|hkd;have c1:=zM gl p hp b k hk x hx;refine qI ?_;clear fx c1;refine qE [] .nil qF ?_;have hkd':k.kind=2:=gI;simp only [zh,if_neg hnl,if_neg hnn,hka,if_pos hkd']
  rfl
 have hkd':¬ k.kind=2:=gI;have hbg:=lW (l:=qC p b) hx;obtain⟨hbgl,hbgE⟩:=gS hbg
 cases hce:decide ((x:Int)∈qC p b)
 all_goals
  have fx:=qQ hsg hse Ym ho hb @qT hkd hbg hbgE hbgl hx hx8<|hce;have c1:=zM gl p hp b k hk x hx;have c2:=cA gl p hp b k hk;refine qI ?_;clear fx c1 c2;refine qE [] .nil qF ?_;simp at hce;simp only [zh,if_neg hnl,if_neg hnn,hka,if_neg hkd',hce]
  rfl
abbrev lT:List AV:=[iv 8,iv 5,iv 11,iv 5,iv 2]
theorem iT (gl:Nat->Option (List AV)) (hgl:gl 0=some lT) (p:YU) (hp:Y1 p) (b:Nat) (k:Y4) (hk:p[b]?=some k) (x:Nat) (hx:x<8) (w:Int) (hw0:0<=w) (hw2:w<=2):qX prog gl 210 [fp p,iv b,iv x,iv w] (λ_ y _=>y=.agg [iv (qm p b x w).1,iv (qm p b x w).2]):=by
 have hw8:IntKind.i64.wrap (8+w)=8+w:=Yi qA qA;have hw11:IntKind.i64.wrap (11+w)=11+w:=Yi qA qA;have hw22:IntKind.i64.wrap (2+w)=2+w:=Yi qA qA;have hw5:IntKind.i64.wrap (5+w)=5+w:=Yi qA qA;have hsf:=IR (x:=(x:Int)) hk (hp.Ze hk).symm (EZ hp hk);have hfl:=vF (p:=p) (b:=b)
 have hs5:zh p b x=0\/zh p b x=1\/zh p b x=2\/zh p b x=3\/zh p b x=4:=by
  unfold zh
  split
  .simp
  .split
   .simp
   .split
    .simp
    .split <;> simp
 refine qX.Yb func210 [.cell 8 213] ntmps210 λC w g root=>?_;rcases hs5 with h|h|h|h|h
 .skip
  have fx:=jD h hgl<|hw8;have c1:=ww gl p hp b k hk x hx;refine qI ?_;clear fx c1;refine qE [] .nil qF ?_;simp [qm,h]
 .skip
  have fx:=jD h hgl<|hw5;have c1:=ww gl p hp b k hk x hx;have c2:=kf gl p hp b k hk x hx;refine qI ?_;clear fx c1 c2;refine qE [] .nil qF ?_;simp [qm,h]
 .skip
  have fx:=jD h hgl<|hw11;have c1:=ww gl p hp b k hk x hx;refine qI ?_;clear fx c1;refine qE [] .nil qF ?_;simp [qm,h]
 .skip
  have fx:=jD h hgl<|hw5;have c1:=ww gl p hp b k hk x hx;have c2:=kf gl p hp b k hk x hx;refine qI ?_;clear fx c1 c2;refine qE [] .nil qF ?_;simp [qm,h]
 .skip
  all_goals have fx:=jD h hgl<|hw22
  repeat' (first|refine qK ?_|refine λ(K:St->Prop) hK=>?_|refine qP (hF:=ww _ p hp b k hk x hx) (h:=?_)|refine jX (hF:=tu _ p hp b k hk (hsf (.inr h))) (h:=?_)|refine qP (hF:=kY _ (qG p b) _ qA) (h:=?_))
  all_goals try clear fx
  refine qE [] .nil qF ?_;simp [qm,h]
theorem l8 (gl) (s:Y5) (hkd:0<=s.kind/\s.kind<=11):qX prog gl 211 [s.av] (λr y H'=>y=.hs r 2 0 (jH s).length/\H' r=some (.row 2 (uh (jH s)))):=by
 have hrl:=s.ZT;have hw5:IntKind.i64.wrap ((s.reads.length:Int) - 1)=(s.reads.length:Int) - 1:=Yi qA qA;obtain⟨kd,to,a,c⟩:=s;simp only at hkd;refine qX.Yb func211 [.tmp 2] ntmps211 λC w g root=>?_;rcases MM hkd with rfl|rfl|rfl|rfl|rfl|rfl|rfl|rfl|rfl|rfl|rfl|rfl
 case inr.inr.inr.inr.inr.inl =>
  have hrd:(⟨5,to,a,c⟩:Y5).reads=if c=-1 then [a] else [a,c]:=by simp [Y5.reads]
  rw [hrd] at hw5;have hcr:=xF gl a c;generalize hL:(if c=-1 then [a] else [a,c])=L at hw5 hcr hrd;have fx:= hw5;have c1:=jk gl ⟨5,to,a,c⟩;have d1:=hcr;refine qI ?_;clear fx c1 d1;refine zq (t:=2) ?_ ?_ ?_
  all_goals simp [jH,uh,hrd]
 all_goals
  all_goals have fx:=Ya
  repeat' (first|refine qK ?_|refine λ(K:St->Prop) hK=>?_|refine qP (hF:=jk _ ⟨_,to,a,c⟩) (h:=?_))
  all_goals try clear fx
  refine zq (t:=2) ?_ ?_ ?_
  all_goals simp [jH,uh]
theorem pQ (gl:Nat->Option (List AV)) (hgl:gl 0=some lT) (p:YU) (b:Nat) (k:Y4) (s:Y5) (hp:Y1 p) (hk:p[b]?=some k) (hsm:s∈k.body):qX prog gl 181 [fp p,iv b,s.av] (λr y H'=>y=.hs r 2 0 (dQ p b s).length/\H' r=some (.row 2 (uh (dQ p b s)))):=by
 have hrl:=s.ZT;have hn:=hp.names k (gM hk);have hkd:=hn.kinds s hsm;obtain⟨ht0,ht7⟩:=hn.Yw s hsm;obtain⟨T,hT⟩:∃ T:Nat,s.to=T:=⟨s.to.toNat,qA⟩;have hT8:T<8:=qA;have hav:s.av=.agg [iv s.kind,iv T,iv s.a,iv s.b]:=by rw [<- hT]
 rw [CA];refine qX.Yb func181 [.tmp 6] ntmps181 λC w g root=>?_
 all_goals have fx:=Ya
 repeat' (first
  | refine uZ ?_|refine ja ?_|refine yH ?_|refine kJ λK hK=>?_
  | ((with_reducible refine vX hK ?_);clear hK K)
  | (with_reducible first|refine q9 ?_|refine jC ?_|refine jB ?_|refine vI ?_|refine za ?_|refine vk ?_|refine jo qL ?_)
  | refine kN ?_
  | refine kV ?_
  | (with_reducible first|refine jg ?_|refine zO (h:=?_)|refine dO (h:=?_)|refine jA (T:=109) (h:=?_)|refine jm (T:=109) (h:=?_)|refine vG (h:=?_))
  | ((with_reducible refine nI 129 rfl ?_);refine qP (hF:=jk _ s) (h:=?_))
  | (refine KI (hF:=oj _ qM s hkd) (h:=?_))
  | (with_reducible refine x_q (h:=?_))
  | refine j8 (h1:=?_)|refine jr (h1:=?_)
  | fail)
 all_goals try clear fx
 refine qR (λn st=>∃ i:Nat,n=s.reads.length - i/\i<=s.reads.length/\st.tm 0=fp p/\st.tm 1=iv b/\st.tm 5=.pt (.s 5) 0/\st.hp (.s 5)=some (.row 4 [s.cells])/\st.tm 14=.hs (.s 14) 1 0 s.reads.length/\st.hp (.s 14)=some (.row 1 (qS s.reads))/\st.tm 15=iv s.reads.length/\st.tm 16=iv i/\st.tm 7=.hs (.s 7) 2 0 (Ej p b s i).length/\st.hp (.s 7)=some (.row 2 (uh (Ej p b s i)))) s.reads.length ?_ ?_
 .exact⟨0,qA,qA,qB,qB,qB,qB,qB,qB,qB,qB,qB,gH⟩
 rintro n st - - ⟨i,rfl,hi,h0,h1,h5,hp5,h14,hp14,h15,h16,h7,hp7⟩;have hll:(Ej p b s i).length<=10:=qv;by_cases hil:i<s.reads.length
 .obtain⟨u,hu⟩:=gX hil;obtain⟨_,huE⟩:=gS hu;obtain⟨hu0,hu7⟩:=hn.reads s hsm u (gM hu);obtain⟨U,rfl⟩:∃ U:Nat,u=U:=⟨u.toNat,qA⟩;have hnx:=C6 (p:=p) (b:=b) hu;generalize hL:Ej p b s i=L at h7 hp7 hnx hll;have fx:=qQ h0 h1 h5 hp5 h14 hp14 h15 h16 h7 hp7 hu huE<|aI hil<|hll;have c1:=iT gl hgl p hp b k hk U qA 0 qL qL;refine qI ?_;clear fx c1;refine⟨s.reads.length - (i+1),qA,i+1,rfl,qA,qu,qz,zA,uz,iC,by simp [hp14],mN,q8,by simp [hnx],?_⟩;rw [hnx];simp [uh]
 .have hge:i=s.reads.length:=qA;rw [hge] at h7 hp7 hll;have hwl:=Bo s;generalize hL:Ej p b s s.reads.length=L at h7 hp7 hll;by_cases hk11:s.kind=11
  .have yF:b7 p b s=[qm p b T 2]:=by simp [b7,hk11,hT]
   rw [yF];generalize hWL:jH s=WL at hwl;have hwo:=l8 gl s hkd;rw [hWL,hav] at hwo;have hk11':(s.kind==11)=true:=by simpa using hk11
   have fx:=qQ h0 h1 h5 hp5 h14 hp14 h15 h16 h7 hp7 hil hge<|j4 hll hwl hk11'<|hT;have d1:=hwo;have c1:=iT gl hgl p hp b k hk T hT8 2 qL qL;refine qI ?_;clear fx d1 c1;refine zq (t:=6) ?_ ?_ ?_
   all_goals simp [bb,BT,bC,dU]
  .have hk11':(s.kind==11)=false:=by simpa using hk11
   by_cases yF:0<=s.kind/\s.kind<=6
   .have hsl:b7 p b s=[qm p b T 1]:=by simp [b7,hk11,hT,yF]
    rw [hsl];generalize hWL:jH s=WL at hwl;have hwo:=l8 gl s hkd;rw [hWL,hav] at hwo;have hbi:=BP gl s;rw [decide_eq_true (.inl yF:s.qAX\/s.kind=11),hav] at hbi;have fx:=qQ h0 h1 h5 hp5 h14 hp14 h15 h16 h7 hp7 hil hge<|j4 hll hwl hk11'<|hT;have d1:=hwo;have c1:=hbi;have c2:=iT gl hgl p hp b k hk T hT8 1 qL qL;refine qI ?_;clear fx d1 c1 c2;refine zq (t:=6) ?_ ?_ ?_
    all_goals simp [bb,BT,bC,dU]
   .have hsl:b7 p b s=[]:=by simp only [b7,if_neg hk11,if_neg yF]
    rw [hsl];generalize hWL:jH s=WL at hwl;have hwo:=l8 gl s hkd;rw [hWL] at hwo;have hbi:=BP gl s;rw [decide_eq_false (λh:s.qAX\/s.kind=11=>h.elim yF hk11)] at hbi;have fx:=qQ h0 h1 h5 hp5 h14 hp14 h15 h16 h7 hp7 hil hge<|jD hll hwl<|hk11';have d1:=hwo;have c1:=hbi;refine qI ?_;clear fx d1 c1;refine zq (t:=6) ?_ ?_ ?_
    all_goals simp [bb,BT,bC,dU]
end Go.Proofs.YtdnebaieamppbaaGreatDoor
end
section

end
section
namespace Go.Proofs.YtdnebaieamppbaaGreatDoor
open Go Go.Hm Go.Proofs Tryz
abbrev Rz:Y8:=CN<|.q 5<|.q 6<|.q 8<|.q 9<|.q 12<|.q 13<|.l2 4 [13,12,9,8,6,5,1,0] (.l2 7 [13,12,9,8,1,0] (.l2 10 [13,12,1,0] (.l2 11 [13,12,1,0] (.l2 14 [1,0] (.q 15<|.l 16 [15,1,0]<|.l 17 []<|.done) 16 [13,12,1,0] (.l 14 [1,0]<|.q 15<|.l 17 []<|.done)) 16 [13,12,1,0] (.l 11 [13,12,1,0]<|.l 14 [1,0]<|.q 15<|.l 17 []<|.done)) 16 [13,12,9,8,1,0] (.l 10 [13,12,1,0]<|.l 11 [13,12,1,0]<|.l 14 [1,0]<|.q 15<|.l 17 []<|.done)) 16 [13,12,9,8,6,5,1,0] (.l 7 [13,12,9,8,1,0]<|.l 10 [13,12,1,0]<|.l 11 [13,12,1,0]<|.l 14 [1,0]<|.q 15<|.l 17 []<|.done)) 16 [13,12,9,8,6,5,3,2,1,0] (.l 4 [13,12,9,8,6,5,1,0]<|.l 7 [13,12,9,8,1,0]<|.l 10 [13,12,1,0]<|.l 11 [13,12,1,0]<|.l 14 [1,0]<|.q 15<|.l 17 []<|.done)
abbrev Ry:Y8:=.q 0<|.q 1<|.q 2<|.q 3<|.q 4<|.l 5 [1,0]<|.l 6 []<|.q 7<|.l 8 []<|.done
theorem FD (gl) (p:YU) (hp:Y1 p) (b:Nat) (k:Y4) (hk:p[b]?=some k):qX prog gl 179 [fp p,iv b] (λr y H'=>y=.hs r 1 0 (qG p b).length/\H' r=some (.row 1 (qS (qG p b)))):=by
 by_cases hk1:k.kind=1
 .exact tu gl p hp b k hk hk1
 have hh:=hp.Y9;obtain⟨Ym,hbE⟩:=gS hk;have hka:qV p b=k.kind:=kS;have hsg:=ue (p:=p) Ym;rw [jd hh hk] at hsg;obtain⟨_,hse⟩:=gS hsg;have hc:qG p b=[]:=by simp [qG,hka,hk1]
 have hkd:(k.kind==1)=false:=ri;rw [hc];refine qX.Yb func179 [.tmp 4] ntmps179 λC w g root=>?_;refine qD ?_<|yl hsg hse hkd Ym<|@qT;exact zq (t:=4) zT zT qB
theorem Dc (gl) (p:YU) (b:Nat):qX prog gl 166 [.agg (ye (qC p b))] (λr z H'=>z=.hs r 1 0 (qC p b).length/\H' r=some (.row 1 (qS (qC p b)))):=by
 have hli:=pI gl (qC p b);rw [mo] at hli;exact hli
theorem fh (gl:Nat->Option (List AV)) (hgl:gl 0=some lT) (p:YU) (hp:Y1 p) (b:Nat) (k:Y4) (hk:p[b]?=some k):qX prog gl 141 [Zc p,fp p,iv b] (λr y H'=>y=.agg ((qd p b).own r 0)/\qA7 H' r 0 (qd p b)):=by
 have hl7:=hp.len.2;have hkm:=gM hk;obtain⟨Ym,hbE⟩:=gS hk;have hk12:=hp.body k hkm;obtain⟨hpl,_⟩:=hp.sml.bsm hk;have hcode:qd p b=⟨k.kind,k.params,qG p b,qC p b,qN p b,vb p b k.body⟩:=by simp [qd,yg,hk]
 have hfl:=vF (p:=p) (b:=b);have hcl:=zn (p:=p) (b:=b);have hrl:=j7 (p:=p) (b:=b);rw [hcode];refine qX.Yb func141 [.cell 6 111] ntmps141 λC w g root=>?_;have fx:=j4 hk hbE Ym<|hpl;have c1:=cA gl p hp b k hk;have d1:=FD gl p hp b k hk;have d2:=Dc gl p b;have d3:=fL gl p hp b Ym;refine qI ?_
 first|refine Y7 (id:=2) Rz mixed ?_|refine Y7 (id:=6) Ry mixed ?_
 refine Qe (λst=>st.tm 1=fp p/\st.tm 2=iv b/\st.tm 6=.pt (.s 6) 0/\st.hp (.s 6)=some (.row 6 [dt.own (.s 6) 0])/\st.tm 8=.pt (.s 8) 0/\st.tm 33=ssl k.body/\st.tm 34=iv k.body.length/\st.tm 35=iv 0/\st.hp (.s 8)=some (.row 6 [Cod.own (.s 8) 0 ⟨k.kind,k.params,qG p b,qC p b,qN p b,[]⟩])/\st.hp (.c (.s 8) 0 1)=some (.row 1 (qS k.params))/\st.hp (.c (.s 8) 0 2)=some (.row 1 (qS (qG p b)))/\st.hp (.c (.s 8) 0 3)=some (.row 1 (qS (qC p b)))/\st.hp (.c (.s 8) 0 4)=some (.row 1 (qS (qN p b)))/\st.hp (.c (.s 8) 0 5)=some (.row 2 [])) ?_;clear fx c1 d1 d2 d3;rintro st ⟨h1,h2,h6,hp6,h8,h33,h34,h35,hp8,q1,q2,q3,q4,q5⟩;refine qR (λn st=>∃ i:Nat,n=k.body.length - i/\i<=k.body.length/\st.tm 1=fp p/\st.tm 2=iv b/\st.tm 6=.pt (.s 6) 0/\st.hp (.s 6)=some (.row 6 [dt.own (.s 6) 0])/\st.tm 8=.pt (.s 8) 0/\st.tm 33=ssl k.body/\st.tm 34=iv k.body.length/\st.tm 35=iv i/\∃ c:Cod,c=⟨k.kind,k.params,qG p b,qC p b,qN p b,vb p b (k.body.take i)⟩/\st.hp (.s 8)=some (.row 6 [c.own (.s 8) 0])/\qA7 st.hp (.s 8) 0 c) k.body.length ?_ ?_
 .refine⟨0,qA,qA,h1,h2,h6,hp6,h8,h33,h34,h35,_,rfl,?_,⟨?_,?_,?_,?_,?_⟩⟩
  all_goals simp [vb,hp8,q1,q2,q3,q4,q5]
 clear h1 h2 h6 hp6 h8 h33 h34 h35 hp8 q1 q2 q3 q4 q5;rintro n st - - ⟨i,rfl,hi,h1,h2,h6,hp6,h8,h33,h34,h35,c,hc,hp8,⟨o1,o2,o3,o4,o5⟩⟩;have hll:=sF (p:=p) (b:=b) (k.body.take i);rw [List.length_take] at hll;by_cases hil:i<k.body.length
 .obtain⟨s,hss⟩:=gX hil;obtain⟨_,hsE⟩:=gS hss;have hnx:=xG (p:=p) (b:=b) hss;have hsl:=oU (p:=p) (b:=b) (s:=s);generalize hL:vb p b (k.body.take i)=L at hc hnx hll;subst hc;simp only [Cod.qA6] at hp8 o1 o2 o3 o4 o5;have fx:=qQ h1 h2 h6 hp6 h8 h33 h34 h35 hp8 o1 o2 o3<|kG o4 o5 hss hsE hil hll<|hsl;have d1:=pQ gl hgl p b k s hp hk (gM hss);refine qI ?_
  repeat ((first|refine Y7 (id:=2) Rz mixed ?_|refine Y7 (id:=6) Ry mixed ?_);refine qW ?_;refine qI ?_)
  clear fx d1;refine⟨k.body.length - (i+1),qA,i+1,rfl,qA,qz,qj,zL,va,wW,by simp [h33],by simp [h34],q8,_,rfl,?_,⟨?_,?_,?_,?_,?_⟩⟩
  all_goals simp [Cod.own,hnx,o1,o2,o3,o4,o5,hp8]
 .have hge:i=k.body.length:=qA;subst hge;rw [kM] at hc;subst hc;simp only [Cod.qA6] at hp8 o1 o2 o3 o4 o5;have fx:=qQ h1 h2 h6 hp6 h8 h33 h34 h35 hp8 o1 o2 o3<|jD o4 o5<|hil;refine qI ?_
  repeat ((first|refine Y7 (id:=2) Rz mixed ?_|refine Y7 (id:=6) Ry mixed ?_);refine qW ?_;refine qI ?_)
  clear fx;refine qE [(.s 8,root)] (.one rfl) sA ⟨?_,⟨?_,?_,?_,?_,?_⟩⟩
  all_goals simp [h6,o1,o2,o3,o4,o5]
theorem lK (gl:Nat->Option (List AV)) (hgl:gl 0=some lT) (p:YU) (hp:Y1 p):qX prog gl 92 [Zc p,fp p] (λr y H'=>y=.hs r 6 0 (qg p p.length).length/\qCB H' r (qg p p.length)):=by
 have hl7:=hp.len.2;refine qX.Yb func92 [.tmp 4] ntmps92 λC w g root=>?_;refine qD ?_<|Ya;refine qR (λn st=>∃ i:Nat,n=p.length - i/\i<=p.length/\st.tm 1=fp p/\st.tm 2=.pt (.s 2) 0/\st.hp (.s 2)=some (.row 1 [[ZY p]])/\st.tm 9=iv p.length/\st.tm 10=iv i/\∃ cs:List Cod,cs=qg p i/\cs.length=i/\st.tm 5=.hs (.s 5) 6 0 cs.length/\qCB st.hp (.s 5) cs) p.length ?_ ?_
 .refine⟨0,qA,qA,qB,qB,qB,qB,qB,[],qB,rfl,qB,⟨qB,λi c h=>gA⟩⟩
 rintro n st - - ⟨i,rfl,hi,h1,h2,hp2,h9,h10,cs,hcs,hcl,h5,⟨ht,he⟩⟩;by_cases hil:i<p.length
 .obtain⟨k,hk⟩:=gX hil;have hnx:=nG (p:=p) (n:=i);have hcc:=fh gl hgl p hp i k hk;rw [<- hcs] at hnx;generalize hC:qd p i=c at hcc hnx;have hcl7:cs.length<=7:=qA;have fx:=kH h1 h2 hp2 h9 h10<|hil;have e1:=hcc;refine qI ?_;clear fx e1;rintro K hK y H' ⟨rfl,hO⟩;obtain⟨o1,o2,o3,o4,o5⟩:=hO.Yv;refine⟨qB,?_⟩;refine qD ?_<|qQ h1 h2 hp2 h9 h10 h5 ht hcl7 o1 o2 o3 o4<|o5;refine⟨p.length - (i+1),qA,i+1,rfl,qA,qz,qj,qn,v8,q8,cs++[c],hnx.symm,by simp [hcl],qB,⟨?_,λj d hj=>?_⟩⟩
  .simp [ht,tj]
  .rcases dS j cs.length with hlj|hgj
   .rw [dX hlj] at hj;have hne:¬ j=cs.length:=qA;obtain⟨e1,e2,e3,e4,e5⟩:=he j d hj;exact⟨rO,r9,by simp [hne,e3],by simp [hne,e4],by simp [hne,e5]⟩
   .rw [kh hgj] at hj
    obtain rfl:j=cs.length:=by
     have:=(gS hj).1;simp at this;omega
    simp at hj;subst hj;exact⟨mY,mH,by simp [o3],by simp [o4],by simp [o5]⟩
 .have hge:i=p.length:=qA;subst hge;subst hcs;refine qD ?_<|ko h1 h2 hp2 h9 h10 hil h5<|ht;refine qE [(.s 4,root)] (.one rfl) qF ⟨qB,⟨by simp [ht,bn (n:=.s 4) (m:=root) (f:=jY Z5 [(.s 4,root)]) qB],λj d hj=>?_⟩⟩;obtain⟨e1,e2,e3,e4,e5⟩:=he j d hj;exact⟨by simp [e1],by simp [e2],by simp [e3],by simp [e4],by simp [e5]⟩
end Go.Proofs.YtdnebaieamppbaaGreatDoor
end
section

end
section
namespace Go.Proofs.YtdnebaieamppbaaGreatDoor
open Go Go.Hm Go.Proofs Tryz
attribute [local simp] sY ft
theorem Lx (gl) (l:List (Int×Int)) (A:Nat) (hA:A<l.length) (hl:l.length<=1000):qX prog gl 213 [osl l,iv A] (λ_ y _=>y=iv ((uC (l.take (A+1)):Int) - 1)):=by
 have hw:IntKind.i64.wrap ((A:Int)+1)=((A+1:Nat):Int):=by rw [Yi qA qA];rfl
 have hA1:A+1<=l.length:=qA;have hmin:min (A+1) l.length=A+1:=Nat.min_eq_left hA1;generalize hB:A+1=B at hw hA1 hmin;refine qX.Yb func213 [.tmp 4] ntmps213 λC w g root=>?_;refine qD ?_<|jD hw hA1<|hmin;refine qR (λn st=>∃ i:Nat,n=B - i/\i<=B/\st.tm 11=osl (l.take B)/\st.tm 12=iv B/\st.tm 13=iv i/\st.tm 5=iv ((uC (l.take i):Int) - 1)) B ?_ ?_
 .exact⟨0,qA,qA,qB,by simp [hmin],qB,by simp [uC]⟩
 rintro n st - - ⟨i,rfl,hi,h11,h12,h13,h5⟩;by_cases hil:i<B
 .have hil2:i<l.length:=qA;obtain⟨o,ho⟩:=gX hil2;have ho2:(l.take B)[i]?=some o:=by rw [Jk,if_pos hil,ho]
  obtain⟨hoL,hoE⟩:=gS ho2;have htk:=ez ho;have htl:uC (l.take i)<=i:=uS Gk qv;have hLl:(l.take B).length=B:=qv;generalize l.take B=L at h11 ho2 hoL hoE hLl ⊢;generalize uC (l.take i)=T at h5 htk htl
  have hwT:IntKind.i64.wrap ((T:Int) - 1+1)=(T:Int):=by
   rw [show (T:Int) - 1+1=T by omega];exact Yi qA qA
  cases ho0:(o.1==0)
  .have e0:¬ o.1=0:=by simpa using ho0
   refine qD ?_<|er h11 h12 h13 h5 ho2 hoE hoL hil<|ho0;exact⟨B - (i+1),qA,i+1,rfl,qA,eM,gB,q8,by simp [htk,e0,h5]⟩
  .have e0:o.1=0:=by simpa using ho0
   have e1:((T+1:Nat):Int) - 1=T:=qA;have hwT':IntKind.i64.wrap (T:Int)=(T:Int):=Yi qA qA;refine qD ?_<|gJ h11 h12 h13 h5 ho2 hoE hoL hil ho0<|hwT;refine⟨B - (i+1),qA,i+1,rfl,qA,eM,gB,q8,?_⟩;rw [htk,if_pos e0,e1];simp [hwT']
 .have hge:i=B:=qA;refine qD ?_<|yl h11 h12 h13 h5<|hil;refine qE [] .nil qF ?_;rw [<- hge];simp
end Go.Proofs.YtdnebaieamppbaaGreatDoor
end
section
namespace Go.Proofs.YtdnebaieamppbaaGreatDoor
open Go Go.Hm Go.Proofs Tryz
abbrev WV:Y8:=.q 0<|.q 1<|.q 2<|.q 3<|.q 4<|.q 5<|.q 6<|.q 7<|.q 8<|.q 9<|.q 10<|.q 11<|.q 12<|.q 13<|.q 14<|.q 15<|.l 16 [11,6,5,4,2,1,0]<|.l 17 []<|.done
abbrev WU:Y8:=yq<|.l 11 [5,4,3,2,1,0]<|.l 12 [5,0]<|.q 13<|.q 14<|.l 15 []<|.done
theorem pK {A G G2:Prop} (k:G2) (x:A) (h:A->Yr G2->G:=by
 intro fx kk;refine qI ?_
 repeat ((first|refine Y7 (id:=4) WV mixed ?_|refine Y7 (id:=5) WU mixed ?_);refine qW ?_;refine qI ?_)
 exact kk.h):G:=h x ⟨k⟩
theorem G8 (gl) (H:Nm->Option AO) (p:YU) (m:Y2) (fs:List YZ) (f:YZ) (o:Int×Int) (ho:(yg p f.YS)[f.pc - 1]?=some o) (ho0:o.1=0) (hb:f.YS<p.length) (hp7:p.length<=7) (he:m.en=0) (hfl:fs.length<=150) (hlf:m.left<=150) (htl:m.trace.length<=1000) (hpc1:1<=f.pc) (hpc:f.pc<=(yg p f.YS).length) (hol:(yg p f.YS).length<=60) (hO:YQ H p (m.top fs f)) :
  Yc prog gl 182 DM [.pt Yn 0,.pt Yn (yo fs.length)] H (λ_ y H'=>y=bv (decide ((bI p m fs f).en=0))/\YQ H' p (bI p m fs f)) Yz:=by
 obtain⟨R,j,hT,tr,h2,h3,h28⟩:=hO.ZH rfl qA;have hRl:=tr.len;have r2:=tr.r2;have r0:=tr.r0;have f0:=tr.f0;have f1:=tr.f1;obtain⟨r2l,r2E⟩:=gS r2;simp only [Y2.top] at r2 r2E;refine Yc.Yb func182 [.tmp 4] ntmps182 (λ_=>qJ) λC w g root hroot=>?_;by_cases hl:m.left=0
 .have ht:bI p m fs f=m.stop fs f 1:=by simp only [bI,hl,if_true]
  rw [ht];refine pK ?_<|yl hT r2 r2E hRl<|hl;intro K hK;have fx:=Ya;refine q7 hO (have h:=hO;YQ.re h) (qp _) (hF:=λhO=>uT gl DM (λ_=>qJ) _ R 1 zB hRl) (h:=?_);rintro y H1 hw;clear fx;have hO1:=YQ.Yi (YQ.Z1 (e:=1) (have h:=hO;YQ.re h) rfl zB) hw;obtain⟨rfl,-⟩:=hw;refine pK ?_<|Ya;refine qE [] .nil qF ⟨qB,YQ.fin (have h:=hO1;YQ.re h)⟩
 .obtain⟨l,hll⟩:∃ l,m.left=l+1:=⟨m.left - 1,qA⟩
  have ht:bI p m fs f={ m.top fs f with left:=l,trace:=m.trace++[(f.YS,uC ((yg p f.YS).take (f.pc - 1)))] }:=by
   simp only [bI,hl,if_false,hll]
   rfl
  rw [ht];have hlb:((l:Int)+1==0)=false:=yY;have hwl:IntKind.i64.wrap (l:Int)=l:=Yi qA qA;refine qD ?_<|kG hT r2 r2E hRl hll hlb<|hwl;refine uk (λs=>s.tm 0=.pt Yn 0/\s.tm 1=.pt Yn (yo fs.length)/\YQ s.hp p ({ m with left:=l }.top fs f)) ⟨qB,qB,?_⟩ ?_
  .have h:=hO;exact YQ.reT h rfl rfl rfl (mw (R':=Yo R 2 [iv l]) hT rG (λJ hJ e=>by rw [e];exact T0)) (h6t:=qj) (h7t:=zN) (h8t:=⟨j,vO⟩)
  clear hT tr r2E r2l r2 r0 f0 f1 hRl h2 h3 h28 hO j R;rintro s ⟨t0,t1,hO⟩;obtain⟨R,j,hT,tr,h2,h3,h28⟩:=hO.ZH rfl qA;have hRl:=tr.len;have r5:=tr.r5;have r0:=tr.r0;have f0:=tr.f0;have f1:=tr.f1;simp only [Y2.top] at r5;obtain⟨_,r5E⟩:=gS r5;obtain⟨_,r0E⟩:=gS r0;obtain⟨f0l,f0E⟩:=gS f0;obtain⟨f1l,f1E⟩:=gS f1;have hcd:(qg p p.length)[f.YS]?=some (qd p f.YS):=Ak;obtain⟨hcdl,hcdE⟩:=gS hcd;obtain⟨k,hk⟩:=gX hb;have hco:(qd p f.YS).ops=yg p f.YS:=kR;have hpw:IntKind.i64.wrap ((f.pc:Int) - 1)=((f.pc - 1:Nat):Int):=iK;have hla:=Lx gl (yg p f.YS) (f.pc - 1) qA qA;have hpe:f.pc - 1+1=f.pc:=qA;rw [hpe] at hla;have hTr:=hO.Zb;have fx:=qQ t0 t1 hT r0 r0E r5 r5E f0 f0E f0l f1 f1E<|er f1l hcd hcdl hcdE hco hpw hRl hTr<|htl;have c1:=hla;refine pK ?_<|fx;clear fx c1
  have htk:((uC ((yg p f.YS).take f.pc):Nat):Int) - 1=uC ((yg p f.YS).take (f.pc - 1)):=by
   have:=ez ho;rw [hpe,if_pos ho0] at this;rw [this];omega
  have hap:vv m.trace++[[iv f.YS,iv (((uC ((yg p f.YS).take f.pc):Nat):Int) - 1)]]=vv (m.trace++[(f.YS,uC ((yg p f.YS).take (f.pc - 1)))]):=by rw [htk];exact ly
  refine qE [] .nil qF ⟨by simp [Y2.top,he],YQ.fin ?_⟩;have h:=hO;exact YQ.reT h rfl rfl rfl (xu hT qF (λJ hJ e=>by rw [e];simp only [bR];exact Xe (m.trace++[(f.YS,uC ((yg p f.YS).take (f.pc - 1)))]) hJ qB (λj hj=>by simp [hj]))) (h3:=rX) (h6t:=qj) (h7t:=zN) (h8t:=⟨j,vO⟩)
theorem ew (gl) (H:Nm->Option AO) (p:YU) (m:Y2) (fs:List YZ) (f:YZ) (o:Int×Int) (off wy:Nat) (e:Int) (hW:WrY p m fs f o off) (hm0:m.en=0) (he:e≠0) (hwy:wy<=2) (hfl:fs.length<=150) (hst:wy=1->1<=f.stack.length) (hsl:f.stack.length<=1000) (hO:YQ H p (m.top fs f)) :
  Yc prog gl 183 DM [.pt Yn 0,.pt Yn (yo fs.length),.pt Yn off,iv wy,iv e] H (λ_ y H'=>y=bv (decide ((jw m fs f o wy e).en=0))/\YQ H' p (jw m fs f o wy e)) Yz:=by
 obtain⟨R,j,hT,tr,h2,h3,h28⟩:=hO.ZH rfl qA;have hRl:=tr.len;have f28:=tr.f28;have hle:=hW.le;have hrd:=hW.rd f R rfl tr;have s0:=hrd 0 qA;have s1:=hrd 1 qA;have s2:=hrd 2 qA;rw [so] at s0;have yoh:yo fs.length+29<=4415:=yX;refine Yc.Yb func183 [.tmp 10] ntmps183 (λ_=>qJ) λC w g root hroot=>?_;by_cases w1:wy=1
 .subst w1;have hres:jw m fs f o 1 e=Yy m fs f.pop o (some f.Yw):=rfl;rw [hres];obtain⟨k,hk⟩:∃ k,f.stack.length=k+1:=⟨f.stack.length - 1,by have:=hst rfl;omega⟩;rw [hk] at f28;obtain⟨G,hG,g1,g2,g3,c1,c2,c3,c4,c5,c6,hR⟩:=hW.wr f.pop (some f.Yw) rfl rfl;refine qD ?_<| hT;intro K hK;have fx:=Ya;refine q7 hO (have h:=hO;YQ.re h) (qp _) (hF:=λ_=>cL gl DM (λ_=>qJ) _ R (yo fs.length) k (f.stack++j) f.Yw zB f28 vO (vU hk) qA yoh) (h:=?_);intro y H1 hw;clear fx;have hO1:=YQ.Yi (YQ.Z9 (m:=m.top fs f) (have h:=hO;YQ.re h) rfl qA zB hk) hw;obtain⟨rfl,-⟩:=hw;obtain⟨R1,j1,hT1,tr1,h21,h31,h281⟩:=YQ.ZH (f:=f.pop) hO1 rfl qA;have hR1l:=tr1.len;generalize hv:f.Yw=v at *;obtain⟨v1,v2⟩:=v;refine qD ?_<|j4 hT hT1 hR1l<|hle;refine qE [] .nil qF ⟨by simp [c6,hm0],YQ.fin ?_⟩;have h:=hO1;exact YQ.reT h rfl hG (by rw [c1];rfl) (mw (R':=Yo R1 off (jJ (some (v1,v2)))) hT1 rG (λJ hJ e=>by rw [e];exact hR J hJ)) (h2:=by simp [h.out,c2]) (h3:=by simp [h.Zb,c3]) (h4:=by simp [h.YT,c4]) (h5:=by simp [h.Yt,c5]) (h6t:=by simp [h21,g1]) (h7t:=by simp [h31,g2]) (h8t:=⟨j1,by simp [h281,g3]⟩) (h9:=by rw [c1];intro c s hc;simp [h.cell c s hc])
 .have w1':((wy:Int)==1)=false:=yY
  cases hs:gq m f o with
  | none =>
   have hres:jw m fs f o wy e=m.stop fs f e:=GO;rw [hres];rw [hs] at s0;simp only [yR,fm] at s0;obtain⟨s0l,s0E⟩:=gS s0;refine qD ?_<|kG w1' hT s0 s0E s0l hRl<|hle;intro K hK;have fx:=Ya;refine q7 hO (have h:=hO;YQ.re h) (qp _) (hF:=λ_=>uT gl DM (λ_=>qJ) _ R e zB hRl) (h:=?_);intro y H1 hw;clear fx;have hO1:=YQ.Yi (YQ.Z1 (m:=m.top fs f) (e:=e) (have h:=hO;YQ.re h) rfl zB) hw;obtain⟨rfl,-⟩:=hw;refine qD ?_<|Ya;refine qE [] .nil qF ⟨by simp [Y2.stop,he],YQ.fin (have h:=hO1;YQ.re h)⟩
  | some v =>
   obtain⟨v1,v2⟩:=v;rw [hs] at s0 s1 s2;simp only [jt,fm,BY] at s0 s1 s2;obtain⟨s0l,s0E⟩:=gS s0;have s12:=fB s1 s2;have hle2:off+1+2<=4415:=qA;by_cases w0:wy=0
   .subst w0;have hres:jw m fs f o 0 e=m.top fs (f.push (v1,v2)):=Ff;rw [hres];refine qD ?_<|ko w1' hT s0 s0E s0l s12 hRl<|hle2;intro K hK;have fx:=aI hT s12;refine q7 hO (have h:=hO;YQ.re h) (qp _) (hF:=λ_=>vK gl DM (λ_=>qJ) _ R (yo fs.length) f.stack j (v1,v2) rfl rfl zB f28 vO hsl yoh) (h:=?_);intro y H1 hw;clear fx;have hO1:=YQ.Z8 (m:=m.top fs f) cD rfl qA rfl zB hw;refine qD ?_<|Ya;refine qE [] .nil qF ⟨dM,YQ.fin (have h:=hO1;YQ.re h)⟩
   .have hres:jw m fs f o wy e=Yy m fs f o none:=F9;rw [hres];have w0':((wy:Int)==0)=false:=yY;obtain⟨G,hG,g1,g2,g3,c1,c2,c3,c4,c5,c6,hR⟩:=hW.wr f none rfl rfl;refine qD ?_<|ko w1' w0' hT s0 s0E s0l hRl<|hle;refine qE [] .nil qF ⟨by simp [c6,hm0],YQ.fin ?_⟩;have h:=hO;exact YQ.reT h rfl hG (by rw [c1];rfl) (mw (R':=Yo R off (jJ none)) hT rG (λJ hJ e=>by rw [e];exact hR J hJ)) (h2:=by simp [h.out,c2]) (h3:=by simp [h.Zb,c3]) (h4:=by simp [h.YT,c4]) (h5:=by simp [h.Yt,c5]) (h6t:=by simp [h2,g1]) (h7t:=by simp [h3,g2]) (h8t:=⟨j,by simp [h28,g3]⟩) (h9:=by rw [c1];intro c s hc;simp [h.cell c s hc])
theorem wl (gl) (H:Nm->Option AO) (p:YU) (m:Y2) (fs:List YZ) (f:YZ) (o:Int×Int) (c wy:Nat) (e:Int) (h5:5<=o.1) (h7:o.1<=7) (hc:f.cells.getD o.2.toNat 0=c) (hcl:c<m.cells.length) (hm0:m.en=0) (he:e≠0) (hwy:wy<=2) (hfl:fs.length<=150) (hst:wy=1->1<=f.stack.length) (hsl:f.stack.length<=1000) (hO:YQ H p (m.top fs f)) :
  Yc prog gl 183 DM [.pt Yn 0,.pt Yn (yo fs.length),.pt (En c) 0,iv wy,iv e] H (λ_ y H'=>y=bv (decide ((jw m fs f o wy e).en=0))/\YQ H' p (jw m fs f o wy e)) Yz:=by
 obtain⟨R,j,hT,tr,h2,h3,h28⟩:=hO.ZH rfl qA;have hRl:=tr.len;have f28:=tr.f28;have e1:¬ o.1<=4:=qA
 have yF:∀ g s,g.cells=f.cells->Yy m fs g o s={ m.top fs g with cells:=m.cells.set c s }:=λg s hg=>by
  simp only [Yy,if_neg e1,if_pos h7,hg,hc]
 have yoh:yo fs.length+29<=4415:=yX;obtain⟨s,hs1⟩:=gX hcl;have hs:gq m f o=s:=by simp [gq,e1,h7,-List.getD_eq_getElem?_getD,hc,ju,hs1]
 have hE:=hO.cell c s hs1
 have hcs:∀ (s':Yj) (hp':Nm->Option AO),hp' (En c)=some (.row 3 [jJ s'])->(∀ c',c'≠c->∀ s,m.cells[c']?=some s->hp' (En c')=some (.row 3 [jJ s]))->∀ (c':Nat) s,(m.cells.set c s')[c']?=some s->hp' (En c')=some (.row 3 [jJ s]):=by
  intro s' hp' h1 h2 c' s hc';rw [bT] at hc';by_cases e:c=c'
  .subst e;rw [if_pos rfl,if_pos hcl] at hc';obtain rfl:=sI hc';exact h1
  .rw [if_neg e] at hc';exact h2 c' (λh=>e h.symm) s hc'
 refine Yc.Yb func183 [.tmp 10] ntmps183 (λ_=>qJ) λC w g root hroot=>?_;by_cases w1:wy=1
 .subst w1;have hres:jw m fs f o 1 e=Yy m fs f.pop o (some f.Yw):=rfl;rw [hres,yF f.pop _ rfl];obtain⟨k,hk⟩:∃ k,f.stack.length=k+1:=⟨f.stack.length - 1,by have:=hst rfl;omega⟩;rw [hk] at f28;refine qD ?_<| hT;intro K hK;have fx:=Ya;refine q7 hO (have h:=hO;YQ.re h) (qp _) (hF:=λ_=>cL gl DM (λ_=>qJ) _ R (yo fs.length) k (f.stack++j) f.Yw zB f28 vO (vU hk) qA yoh) (h:=?_);intro y H1 hw;clear fx;have hO1:=YQ.Yi (YQ.Z9 (m:=m.top fs f) (have h:=hO;YQ.re h) rfl qA zB hk) hw;obtain⟨rfl,-⟩:=hw;obtain⟨R1,j1,hT1,tr1,h21,h31,h281⟩:=YQ.ZH (f:=f.pop) hO1 rfl qA;have hE1:=hO1.cell c s hs1;generalize hv:f.Yw=v at *;obtain⟨v1,v2⟩:=v;have hd:(jJ s).drop 3=[]:=List.drop_eq_nil_of_le qB;refine qD ?_<|jD hE hE1<|hd;refine qE [] .nil qF ⟨Am,YQ.fin ?_⟩;have h:=hO1;exact YQ.reT h rfl (m':={ m.top fs f.pop with cells:=m.cells.set c (some (v1,v2)) }) rfl cC (mw (R':=R1) hT1 iE (λJ hJ e=>e.trans (by simp [zJ,yA,yB,yZ,Y2.top]))) (h6t:=by simp [h21]) (h7t:=by simp [h31]) (h8t:=⟨j1,mU⟩) (h9:=hcs _ _ qB (λc' hn s hc'=>by simp [hn,h.cell c' s hc'])) (hA:=by intro k i j hk e hn;by_cases e2:k=7/\i=c/\j=0;(obtain⟨rfl,rfl,rfl⟩:=e2;rw [hE1];simp);simpa [hk,e,e2] using hn)
 .have w1':((wy:Int)==1)=false:=yY
  cases s with
  | none =>
   have hres:jw m fs f o wy e=m.stop fs f e:=GO;rw [hres];refine qD ?_<|aI w1'<|hE;intro K hK;have fx:=Ya;refine q7 hO (have h:=hO;YQ.re h) (qp _) (hF:=λ_=>uT gl DM (λ_=>qJ) _ R e zB hRl) (h:=?_);intro y H1 hw;clear fx;have hO1:=YQ.Yi (YQ.Z1 (m:=m.top fs f) (e:=e) (have h:=hO;YQ.re h) rfl zB) hw;obtain⟨rfl,-⟩:=hw;refine qD ?_<|Ya;refine qE [] .nil qF ⟨by simp [Y2.stop,he],YQ.fin (have h:=hO1;YQ.re h)⟩
  | some v =>
   obtain⟨v1,v2⟩:=v;by_cases w0:wy=0
   .subst w0;have hres:jw m fs f o 0 e=m.top fs (f.push (v1,v2)):=Ff;rw [hres];refine qD ?_<|aI w1'<|hE;intro K hK;have fx:=hE;refine q7 hO (have h:=hO;YQ.re h) (qp _) (hF:=λ_=>vK gl DM (λ_=>qJ) _ R (yo fs.length) f.stack j (v1,v2) rfl rfl zB f28 vO hsl yoh) (h:=?_);intro y H1 hw;clear fx;have hO1:=YQ.Z8 (m:=m.top fs f) cD rfl qA rfl zB hw;refine qD ?_<|Ya;refine qE [] .nil qF ⟨dM,YQ.fin (have h:=hO1;YQ.re h)⟩
   .have hres:jw m fs f o wy e=Yy m fs f o none:=F9;rw [hres,yF f _ rfl];have w0':((wy:Int)==0)=false:=yY;refine qD ?_<|jD w1' w0'<|hE;refine qE [] .nil qF ⟨Am,YQ.fin ?_⟩;have h:=hO;exact YQ.reT h rfl (m':={ m.top fs f with cells:=m.cells.set c none }) rfl cC (mw (R':=R) hT zB (λJ hJ e=>e.trans (by simp [zJ,yA,yB,yZ,Y2.top]))) (h6t:=qj) (h7t:=zN) (h8t:=⟨j,vO⟩) (h9:=hcs _ _ qB (λc' hn s hc'=>by simp [hn,h.cell c' s hc'])) (hA:=by intro k i j hk e hn;by_cases e2:k=7/\i=c/\j=0;(obtain⟨rfl,rfl,rfl⟩:=e2;rw [hE];simp);simpa [hk,e,e2] using hn)
end Go.Proofs.YtdnebaieamppbaaGreatDoor
end
