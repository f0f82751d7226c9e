import Derived.Test.YtdnebaieamppbaaGreatDoorF40
set_option linter.unusedSimpArgs false
set_option linter.unusedVariables false
set_option maxRecDepth 100000
set_option maxHeartbeats 4000000

section
namespace Go.Proofs.YtdnebaieamppbaaGreatDoor
open Go Go.Hm Go.Proofs Tryz
theorem Bz (gl) (xs:List Int) (left:Int) (h0:0<=left) (h1:left<=1048576) (hx:xs.length<=1152921504606846976):qX prog gl 158 [ZD xs,iv left] (λ_ y _=>y=iv (if (xs.length:Int)<=left then left - xs.length else -1)):=by
 have hw:IntKind.i64.wrap (left - xs.length)=left - xs.length:=Yi qA qA;refine qX.Yb func158 [.tmp 4] ntmps158 λC w g root=>?_
 all_goals have fx:= hw
 repeat' (first|refine qK ?_|refine λ(K:St->Prop) hK=>?_|refine cJ (h1:=λht=>?_) (h2:=λht=>?_))
 all_goals try clear fx
 all_goals refine qE [] .nil (by simp [hw];rfl) ?_
 all_goals simp at ht
 .have:¬ (xs.length:Int)<=left:=qA;simp [this]
 .have:(xs.length:Int)<=left:=qA;simp [this]
theorem IP (gl) (xs:List Y5) (left:Int) (h0:0<=left) (h1:left<=1048576) (hx:xs.length<=1152921504606846976):qX prog gl 159 [ssl xs,iv left] (λ_ y _=>y=iv (if (xs.length:Int)<=left then left - xs.length else -1)):=by
 have hw:IntKind.i64.wrap (left - xs.length)=left - xs.length:=Yi qA qA;refine qX.Yb func159 [.tmp 4] ntmps159 λC w g root=>?_
 all_goals have fx:= hw
 repeat' (first|refine qK ?_|refine λ(K:St->Prop) hK=>?_|refine cJ (h1:=λht=>?_) (h2:=λht=>?_))
 all_goals try clear fx
 all_goals refine qE [] .nil (by simp [hw];rfl) ?_
 all_goals simp at ht
 .have:¬ (xs.length:Int)<=left:=qA;simp [this]
 .have:(xs.length:Int)<=left:=qA;simp [this]
theorem IQ (gl) (k:Y4) (left:Int) (h0:0<=left) (h1:left<=1048576) (hp:k.params.length<=1152921504606846976) (hb:k.body.length<=1152921504606846976):qX prog gl 104 [k.av,iv left] (λ_ y _=>y=iv (if (EN k:Int)<=left then left - EN k else -1)):=by
 refine qX.Yb func104 [.tmp 4] ntmps104 λC w g root=>?_;by_cases hl:(k.params.length:Int)<=left
 .have hs:=IP gl k.body (left - k.params.length) qA qA hb
  all_goals have fx:= hl
  repeat' (first|refine qK ?_|refine λ(K:St->Prop) hK=>?_|refine qP (hF:=Bz _ k.params left h0 h1 hp) (h:=?_))
  all_goals try clear fx
  have hge:¬ left - k.params.length<0:=qA;by_cases hl2:(k.body.length:Int)<=left - k.params.length
  .have hge2:¬ left - k.params.length - k.body.length<0:=qA
   all_goals have fx:=j4 hl hge hl2<|hge2
   repeat' (first|refine qK ?_|refine λ(K:St->Prop) hK=>?_|refine qP (hF:=hs) (h:=?_))
   all_goals try clear fx
   refine qE [] .nil (by simp [hl,hl2];rfl) ?_;have:(EN k:Int)<=left:=Fi;rw [if_pos this];simp [EN];omega
  .skip
   all_goals have fx:=jD hl hge<|hl2
   repeat' (first|refine qK ?_|refine λ(K:St->Prop) hK=>?_|refine qP (hF:=hs) (h:=?_))
   all_goals try clear fx
   refine qE [] .nil qF ?_;have:¬ (EN k:Int)<=left:=Fi;rw [if_neg this]
   rfl
 .skip
  all_goals have fx:= hl
  repeat' (first|refine qK ?_|refine λ(K:St->Prop) hK=>?_|refine qP (hF:=Bz _ k.params left h0 h1 hp) (h:=?_))
  all_goals try clear fx
  refine qE [] .nil qF ?_;have:¬ (EN k:Int)<=left:=Fi;rw [if_neg this]
  rfl
theorem ES (gl) (p:YU) (left:Int) (h0:0<=left) (h1:left<=1048576) (hb:Big p):qX prog gl 51 [ZY p,iv left] (λ_ y _=>y=iv (if (tot p:Int)<=left then left - tot p else -1)):=by
 have Ym:=hb.len;have hw:IntKind.i64.wrap (left - p.length)=left - p.length:=Yi qA qA;have htl:=ey (p:=p) (Nat.zero_le p.length);have ht0:fZ p 0=p.length:=rfl;refine qX.Yb func51 [.tmp 4] ntmps51 λC w g root=>?_
 all_goals have fx:= hw
 repeat' (first|refine qK ?_|refine λ(K:St->Prop) hK=>?_|refine cJ (h1:=λht=>?_) (h2:=λht=>?_))
 all_goals try clear fx
 .refine qE [] .nil qF ?_;simp at ht;have:¬ (tot p:Int)<=left:=by simp only [tot];omega
  rw [if_neg this]
  rfl
 have hge:(p.length:Int)<=left:=by simp at ht;omega
 clear ht;refine qR (λn st=>∃ i:Nat,n=p.length - i/\i<=p.length/\st.tm 0=ZY p/\(fZ p i:Int)<=left/\st.tm 1=iv (left - fZ p i)/\st.tm 5=iv i) p.length ?_ ?_
 .exact⟨0,qB,qB,qB,qA,by simp [hw,ht0],qB⟩
 rintro n st - - ⟨i,rfl,hi,h0',hle,h1',h5⟩
 all_goals have fx:=jD h0' h1'<|h5
 repeat' (first|refine qK ?_|refine λ(K:St->Prop) hK=>?_)
 all_goals try clear fx
 refine wJ zK (λht=>?_) (λhf=>?_)
 .have hlt:i<p.length:=zE;obtain⟨k,hk⟩:=gX hlt;obtain⟨_,hke⟩:=gS hk;have hkm:=gM hk;have htg:=Bt hk;have htm:=ey (p:=p) (Nat.succ_le_of_lt hlt);clear ht
  all_goals have fx:=kH h0' h1' h5 hk hke<|hlt
  repeat' (first|refine qK ?_|refine λ(K:St->Prop) hK=>?_|refine qP (hF:=IQ _ k (left - fZ p i) qA qA (hb.params k hkm) (hb.body k hkm)) (h:=?_)|refine cJ (h1:=λht=>?_) (h2:=λht=>?_))
  all_goals try clear fx
  .refine qE [] .nil qF ?_
   have hno:¬ (EN k:Int)<=left - fZ p i:=λh=>by
    rw [if_pos h] at ht;simp at ht;omega
   have:¬ (tot p:Int)<=left:=by simp only [tot];simp only [Nat.succ_eq_add_one] at htm;omega
   rw [if_neg this]
   rfl
  .have hyes:(EN k:Int)<=left - fZ p i:=by
    rcases Int.lt_or_le (left - fZ p i) (EN k) with h|h
    .rw [if_neg qA] at ht;simp at ht
    .exact h
   refine⟨p.length - (i+1),qA,i+1,rfl,qA,by simp [h0'],qA,?_,q8⟩;rw [htg];simp [hyes];omega
 .have hge:i=p.length:=by
   have:¬ i<p.length:=zS;omega
  subst hge
  all_goals have fx:= h1'
  repeat' (first|refine qK ?_|refine λ(K:St->Prop) hK=>?_)
  all_goals try clear fx
  refine qE [] .nil qF ?_;have:(tot p:Int)<=left:=hle;rw [if_pos this]
  rfl
theorem mn (gl) (p:YU) (hb:Big p):qX prog gl 19 [Zc p,iv 1048576] (λ_ y _=>y=iv (if tot p<=1048576 then 1048576 - tot p else -1)):=by
 have h:=ES gl p 1048576 qL qL hb;refine qX.Yb func19 [.tmp 4] ntmps19 λC w g root=>?_;by_cases ht:tot p<=1048576
 .have h2:(tot p:Int)<=1048576:=qA;have hge:¬ (1048576 - (tot p:Int))<0:=qA
  all_goals have fx:=aI h2<|hge
  repeat' (first|refine qK ?_|refine λ(K:St->Prop) hK=>?_|refine qP (hF:=h) (h:=?_))
  all_goals try clear fx
  refine qE [] .nil aR ?_;simp [ht]
 .have h2:¬ (tot p:Int)<=1048576:=qA
  all_goals have fx:= h2
  repeat' (first|refine qK ?_|refine λ(K:St->Prop) hK=>?_|refine qP (hF:=h) (h:=?_))
  all_goals try clear fx
  refine qE [] .nil qF ?_;simp [ht]
theorem KS (gl) (xs:List Int) (hx:xs.length<=1048576):qX prog gl 160 [ZD xs] (λr y H'=>y=.hs r 1 0 xs.length/\H' r=some (.row 1 (qS xs))):=by
 refine qX.Yb func160 [.tmp 2] ntmps160 λC w g root=>?_
 all_goals have fx:=Ya
 repeat' (first|refine qK ?_|refine λ(K:St->Prop) hK=>?_)
 all_goals try clear fx
 refine qR (λn st=>∃ i:Nat,n=xs.length - i/\i<=xs.length/\st.tm 0=ZD xs/\st.tm 3=.hs (.s 3) 1 0 xs.length/\st.hp (.s 3)=some (.row 1 (qS (pre 0 xs i)))/\st.tm 4=iv i) xs.length ?_ ?_
 .exact⟨0,qB,qB,qB,qB,by simp [HF,MP],qB⟩
 rintro n st - - ⟨i,rfl,hi,h0,h3,hp3,h4⟩
 all_goals have fx:=aI h0<|h4
 repeat' (first|refine qK ?_|refine λ(K:St->Prop) hK=>?_)
 all_goals try clear fx
 refine wJ zK (λht=>?_) (λhf=>?_)
 .have hlt:i<xs.length:=zE;obtain⟨x,hxi⟩:=gX hlt;obtain⟨_,hxe⟩:=gS hxi;have yF:=LL (z:=0) hxi;have hpl:=LM (z:=(0:Int)) hi;clear ht
  all_goals have fx:=ko h0 h4 h3 hp3 hxi hxe hlt<|hpl
  repeat' (first|refine qK ?_|refine λ(K:St->Prop) hK=>?_)
  all_goals try clear fx
  refine⟨xs.length - (i+1),qA,i+1,rfl,qA,qu,zN,by simp [<- yF],q8⟩
 .have hge:i=xs.length:=by
   have:¬ i<xs.length:=zS;omega
  subst hge;rw [LN] at hp3
  all_goals have fx:=aI h3<|hp3
  repeat' (first|refine qK ?_|refine λ(K:St->Prop) hK=>?_)
  all_goals try clear fx
  exact zq (t:=2) eQ eQ qB
theorem KR (gl) (s:Y5):qX prog gl 195 [s.av] (λ_ y _=>y=s.av):=by
 refine qX.Yb func195 [.cell 2 138] ntmps195 λC w g root=>?_
 all_goals have fx:=Ya
 repeat' (first|refine qK ?_|refine λ(K:St->Prop) hK=>?_)
 all_goals try clear fx
 refine qE [] .nil qF ?_;simp
theorem IK (gl) (xs:List Y5) (hx:xs.length<=1048576):qX prog gl 161 [ssl xs] (λr y H'=>y=.hs r 4 0 xs.length/\H' r=some (.row 4 (jI xs))):=by
 refine qX.Yb func161 [.tmp 2] ntmps161 λC w g root=>?_
 all_goals have fx:=Ya
 repeat' (first|refine qK ?_|refine λ(K:St->Prop) hK=>?_)
 all_goals try clear fx
 refine qR (λn st=>∃ i:Nat,n=xs.length - i/\i<=xs.length/\st.tm 0=ssl xs/\st.tm 3=.hs (.s 3) 4 0 xs.length/\st.hp (.s 3)=some (.row 4 (jI (pre ⟨0,0,0,0⟩ xs i)))/\st.tm 4=iv i) xs.length ?_ ?_
 .exact⟨0,qB,qB,qB,qB,by simp [HF,Ke],qB⟩
 rintro n st - - ⟨i,rfl,hi,h0,h3,hp3,h4⟩
 all_goals have fx:=aI h0<|h4
 repeat' (first|refine qK ?_|refine λ(K:St->Prop) hK=>?_)
 all_goals try clear fx
 refine wJ zK (λht=>?_) (λhf=>?_)
 .have hlt:i<xs.length:=zE;obtain⟨x,hxi⟩:=gX hlt;obtain⟨_,hxe⟩:=gS hxi;have yF:=LL (z:=(⟨0,0,0,0⟩:Y5)) hxi;have hpl:=LM (z:=(⟨0,0,0,0⟩:Y5)) hi;have hsr:=Kd (ss:=pre ⟨0,0,0,0⟩ xs i) (i:=i) (s:=x);clear ht
  all_goals have fx:=ko h0 h4 h3 hp3 hxi hxe hlt<|hpl
  repeat' (first|refine qK ?_|refine λ(K:St->Prop) hK=>?_|refine qP (hF:=KR _ x) (h:=?_))
  all_goals try clear fx
  refine⟨xs.length - (i+1),qA,i+1,rfl,qA,qu,zN,by simp [<- yF,hsr],q8⟩
 .have hge:i=xs.length:=by
   have:¬ i<xs.length:=zS;omega
  subst hge;rw [LN] at hp3
  all_goals have fx:=aI h3<|hp3
  repeat' (first|refine qK ?_|refine λ(K:St->Prop) hK=>?_)
  all_goals try clear fx
  exact zq (t:=2) eQ eQ qB
theorem IL (gl) (k:Y4) (hp:k.params.length<=1048576) (hb:k.body.length<=1048576):qX prog gl 109 [k.av] (λr y H'=>y=.agg (Nu r 0 k)/\H' (.c r 0 2)=some (.row 1 (qS k.params))/\H' (.c r 0 3)=some (.row 4 (jI k.body))):=by
 refine qX.Yb func109 [.cell 2 136] ntmps109 λC w g root=>?_
 all_goals have fx:=Ya
 repeat' (first|refine qK ?_|refine λ(K:St->Prop) hK=>?_|refine jX (hF:=KS _ k.params hp) (h:=?_)|refine jX (hF:=IK _ k.body hb) (h:=?_))
 all_goals try clear fx
 refine qE [(.s 3,root)] (.one rfl) qF ⟨by simp [Nu],qB,qB⟩
theorem EQ (gl) (p:YU) (hs:Zm p):qX prog gl 57 [ZY p] (λr y H'=>y=.hs r 4 0 p.length/\Z3 H' r p):=by
 have hpl:=hs.len;refine qX.Yb func57 [.tmp 2] ntmps57 λC w g root=>?_
 all_goals have fx:=Ya
 repeat' (first|refine qK ?_|refine λ(K:St->Prop) hK=>?_)
 all_goals try clear fx
 refine qR (λn st=>∃ i:Nat,n=p.length - i/\i<=p.length/\st.tm 0=ZY p/\st.tm 3=.hs (.s 3) 4 0 p.length/\qDZ st.hp (.s 3) p i/\st.tm 4=iv i) p.length ?_ ?_
 .refine⟨0,qB,qB,qB,qB,⟨?_,λj k hj=>qA,λj k hj=>qA⟩,qB⟩;rw [<- J7];simp [TG,V3]
 rintro n st - - ⟨i,rfl,hi,h0,h3,⟨ho1,ho2,ho3⟩,h4⟩
 all_goals have fx:=aI h0<|h4
 repeat' (first|refine qK ?_|refine λ(K:St->Prop) hK=>?_)
 all_goals try clear fx
 refine wJ zK (λht=>?_) (λhf=>?_)
 .have hlt:i<p.length:=zE;obtain⟨k,hk⟩:=gX hlt;obtain⟨hkp,hkb⟩:=hs.bsm hk;obtain⟨_,hke⟩:=gS hk;have yF:=J8 (n:=.s 3) hk;simp only [Nu] at yF;clear ht
  all_goals have fx:=kH h0 h4 h3 hk hke<|hlt
  repeat' (first|refine qK ?_|refine λ(K:St->Prop) hK=>?_|refine xO (hF:=IL _ k hkp hkb) (h:=?_))
  all_goals try clear fx
  rintro y H' ⟨rfl,hp2,hp3⟩;have hp2:=yw hp2 qB;have hp3:=yw hp3 qB;refine⟨by simp [Nu],?_⟩;refine Xo (.c (.s 20) 0 2) (.c (.s 3) i 2) (.inl rfl) (.inl rfl) ?_;refine Xo (.c (.s 20) 0 3) (.c (.s 3) i 3) (.inl rfl) (.inl rfl) ?_;simp only [Nu]
  all_goals have fx:=kG h0 h4 h3 ho1 hk hke<|hlt
  repeat' (first|refine qK ?_|refine λ(K:St->Prop) hK=>?_)
  all_goals try clear fx
  refine⟨p.length - (i+1),qA,i+1,rfl,qA,qu,zN,⟨?_,λj r hj hr=>?_,λj r hj hr=>?_⟩,GD⟩
  .simp [ho1,yF]
  .rcases Jd.1 hj with hlj|rfl
   .have hne:¬ j=i:=qA;simp [ho2 j r hlj hr,hne]
   .rw [hk] at hr;obtain rfl:=sI hr;simp [hp2]
  .rcases Jd.1 hj with hlj|rfl
   .have hne:¬ j=i:=qA;simp [ho3 j r hlj hr,hne]
   .rw [hk] at hr;obtain rfl:=sI hr;simp [hp3]
 .have hge:i=p.length:=by
   have:¬ i<p.length:=zS;omega
  subst hge;rw [Mz] at ho1
  all_goals have fx:= h3
  repeat' (first|refine qK ?_|refine λ(K:St->Prop) hK=>?_)
  all_goals try clear fx
  refine qE [(.s 2,root)] (.one rfl) qF ⟨qB,⟨?_,λj r hj=>?_,λj r hj=>?_⟩⟩
  .simp [ho1,zW (n:=.s 2) (m:=root) (f:=jY Z5 [(.s 2,root)]) (p:=p) qB]
  .simp [ho2 j r (gS hj).1 hj]
  .simp [ho3 j r (gS hj).1 hj]
theorem af (gl) (p:YU) (hs:Zm p):qX prog gl 21 [Zc p] (λr y H'=>y=.agg [.hs r 4 0 p.length]/\Z3 H' r p):=by
 refine qX.Yb func21 [.cell 2 25] ntmps21 λC w g root=>?_
 all_goals have fx:=Ya
 repeat' (first|refine qK ?_|refine λ(K:St->Prop) hK=>?_|refine xO (hF:=EQ _ p hs) (h:=?_))
 all_goals try clear fx
 rintro y H' ⟨rfl,hO⟩;obtain⟨ho1,ho2,ho3⟩:=hO.Yv;refine⟨qB,?_⟩
 all_goals have fx:=Ya
 repeat' (first|refine qK ?_|refine λ(K:St->Prop) hK=>?_)
 all_goals try clear fx
 refine qE [(.c (.s 3) 0 0,root)] (.one rfl) qF ⟨qB,⟨?_,λj r hj=>?_,λj r hj=>?_⟩⟩
 .simp [ho1,zW (n:=.c (.s 3) 0 0) (m:=root) (f:=jY Z5 [(.c (.s 3) 0 0,root)]) (p:=p) qB]
 .simp [ho2 j r hj]
 .simp [ho3 j r hj]
abbrev Ui:Y8:=kr<|.l 8 []<|.q 9<|.done
theorem pg (gl) (xs ys:List Int) (hx:xs.length<=1048576) (hy:ys.length<=1048576):qX prog gl 112 [ZD xs,ZD ys] (λ_ z _=>z=bv (decide (xs=ys))):=by
 refine qX.Yb func112 [.tmp 4] ntmps112 λC w g root=>?_;by_cases hl:xs.length=ys.length
 case neg =>
  have h1:((xs.length:Int)==ys.length)=false:=qv
  all_goals have fx:=aI h1<|@qT
  repeat' (first|refine qK ?_|refine λ(K:St->Prop) hK=>?_)
  all_goals try clear fx
  refine qE [] .nil qF ?_;have:¬ xs=ys:=λe=>hl (by rw [e]);simp [this]
 all_goals have fx:=aI hl<|@qT
 repeat' (first|refine qK ?_|refine λ(K:St->Prop) hK=>?_)
 all_goals try clear fx
 refine qR (λn st=>∃ i:Nat,n=xs.length - i/\i<=xs.length/\st.tm 0=ZD xs/\st.tm 1=ZD ys/\st.tm 5=iv i/\xs.take i=ys.take i) xs.length ?_ ?_
 .exact⟨0,qB⟩
 rintro n st - - ⟨i,rfl,hi,h0,h1,h5,heq⟩
 all_goals have fx:=aI h0<|h5
 repeat' (first|refine qK ?_|refine λ(K:St->Prop) hK=>?_)
 all_goals try clear fx
 refine wJ zK (λht=>?_) (λhf=>?_)
 .have hlt:i<xs.length:=zE;obtain⟨x,hxi⟩:∃ x,xs[i]?=some x:=⟨_,gE qA⟩;obtain⟨y,hyi⟩:∃ y,ys[i]?=some y:=⟨_,gE qA⟩;clear ht
  all_goals have fx:=kH h0 h1 h5 hxi hyi<|@qT
  repeat' (first
   | refine uZ ?_|refine ja ?_|refine yH ?_|refine kJ λK hK=>?_
   | ((with_reducible refine vX hK ?_);clear hK K)
   | (with_reducible first|refine q9 ?_|refine za ?_|refine vk ?_)
   | refine kV ?_
   | (with_reducible first|refine jg ?_|refine zO (h:=?_))
   | (with_reducible refine x_q (h:=?_))
   | (refine Y7 (id:=6) (.q 0<|.q 1<|.q 2<|.q 3<|.q 4<|.q 5<|.q 6<|.q 7<|.q 8<|.done) mixed λK hK=>?_)
   | ((with_reducible refine wI hK ?_);clear hK K)
   | ((with_reducible refine em ?_);first|refine su (h:=?_))
   | refine cJ (h1:=λht=>?_) (h2:=λht=>?_)
   | fail)
  all_goals try clear fx
  all_goals first
   | (refine qE [] .nil qF ?_
      have hne:¬ xs=ys:=λe=>BL;simp [hne])
   | (have hxy:x=y:=by simpa using ht
      refine⟨xs.length - (i+1),qA,i+1,rfl,qA,qu,qz,q8,?_⟩;rw [dN,dN,heq,hxi,hyi,hxy])
 .have hge:i=xs.length:=by
   have:¬ i<xs.length:=zS;omega
  have:xs=ys:=BK
  all_goals have fx:=Ya
  repeat' (first|refine qK ?_|refine λ(K:St->Prop) hK=>?_)
  all_goals try clear fx
  refine qE [] .nil aS (by simp [this])
theorem Md (gl) (s t:Y5):qX prog gl 199 [s.av,t.av] (λ_ z _=>z=bv (decide (s=t))):=by
 obtain⟨a,b,c,d⟩:=s;obtain⟨a',b',c',d'⟩:=t;refine qX.Yb func199 [.tmp 4] ntmps199 λC w g root=>?_
 all_goals have fx:= @qT
 repeat' (first|refine qK ?_|refine λ(K:St->Prop) hK=>?_|refine cJ (h1:=λht=>?_) (h2:=λht=>?_))
 all_goals try clear fx
 all_goals refine qE [] .nil qF ?_
 all_goals simp_all
theorem JX (gl) (xs ys:List Y5) (hx:xs.length<=1048576) (hy:ys.length<=1048576):qX prog gl 164 [ssl xs,ssl ys] (λ_ z _=>z=bv (decide (xs=ys))):=by
 refine qX.Yb func164 [.tmp 4] ntmps164 λC w g root=>?_;by_cases hl:xs.length=ys.length
 case neg =>
  have h1:((xs.length:Int)==ys.length)=false:=qv
  all_goals have fx:=aI h1<|@qT
  repeat' (first|refine qK ?_|refine λ(K:St->Prop) hK=>?_)
  all_goals try clear fx
  refine qE [] .nil qF ?_;have:¬ xs=ys:=λe=>hl (by rw [e]);simp [this]
 all_goals have fx:=aI hl<|@qT
 repeat' (first|refine qK ?_|refine λ(K:St->Prop) hK=>?_)
 all_goals try clear fx
 refine qR (λn st=>∃ i:Nat,n=xs.length - i/\i<=xs.length/\st.tm 0=ssl xs/\st.tm 1=ssl ys/\st.tm 5=iv i/\xs.take i=ys.take i) xs.length ?_ ?_
 .exact⟨0,qB⟩
 rintro n st - - ⟨i,rfl,hi,h0,h1,h5,heq⟩
 all_goals have fx:=aI h0<|h5
 repeat' (first|refine qK ?_|refine λ(K:St->Prop) hK=>?_)
 all_goals try clear fx
 refine wJ zK (λht=>?_) (λhf=>?_)
 .have hlt:i<xs.length:=zE;obtain⟨x,hxi⟩:∃ x,xs[i]?=some x:=⟨_,gE qA⟩;obtain⟨y,hyi⟩:∃ y,ys[i]?=some y:=⟨_,gE qA⟩;clear ht
  all_goals have fx:=yl h0 h1 h5 hxi<|hyi
  repeat' (first
   | refine uZ ?_|refine ja ?_|refine yH ?_|refine kJ λK hK=>?_
   | ((with_reducible refine vX hK ?_);clear hK K)
   | (with_reducible first|refine q9 ?_|refine za ?_|refine vk ?_|refine w5 ?_)
   | refine kV ?_
   | (with_reducible first|refine jg ?_|refine zO (h:=?_))
   | ((with_reducible refine nI 199 rfl ?_);refine qP (hF:=Md _ x y) (h:=?_))
   | (with_reducible refine x_q (h:=?_))
   | (refine Y7 (id:=6) Ui mixed λK hK=>?_)
   | ((with_reducible refine wI hK ?_);clear hK K)
   | ((with_reducible refine em ?_);first|refine su (h:=?_))
   | refine a_l rfl ?_|(with_reducible refine aI ?_ ?_)|exact vi|refine cM (h2:=?_)
   | refine cJ (h1:=λht=>?_) (h2:=λht=>?_)
   | fail)
  all_goals try clear fx
  all_goals first
   | (refine qE [] .nil qF ?_
      have hne:¬ xs=ys:=λe=>BL;simp [hne])
   | (have hxy:x=y:=by simpa using ht
      refine⟨xs.length - (i+1),qA,i+1,rfl,qA,qu,qz,q8,?_⟩;rw [dN,dN,heq,hxi,hyi,hxy])
 .have hge:i=xs.length:=by
   have:¬ i<xs.length:=zS;omega
  have:xs=ys:=BK
  all_goals have fx:=Ya
  repeat' (first|refine qK ?_|refine λ(K:St->Prop) hK=>?_)
  all_goals try clear fx
  refine qE [] .nil aS (by simp [this])
theorem JY (gl) (k l:Y4) (hk:BSm k) (hl:BSm l):qX prog gl 113 [k.av,l.av] (λ_ z _=>z=bv (decide (k=l))):=by
 obtain⟨a,b,c,d⟩:=k;obtain⟨a',b',c',d'⟩:=l;have h1:=pg gl c c' hk.params hl.params;have h2:=JX gl d d' hk.body hl.body;refine qX.Yb func113 [.tmp 4] ntmps113 λC w g root=>?_
 all_goals have fx:= @qT
 repeat' (first|refine qK ?_|refine λ(K:St->Prop) hK=>?_|refine qP (hF:=h1) (h:=?_)|refine qP (hF:=h2) (h:=?_)|refine cJ (h1:=λht=>?_) (h2:=λht=>?_))
 all_goals try clear fx
 all_goals refine qE [] .nil qF ?_
 all_goals simp_all
theorem FE (gl) (xs ys:YU) (hx:Zm xs) (hy:Zm ys):qX prog gl 60 [ZY xs,ZY ys] (λ_ z _=>z=bv (decide (xs=ys))):=by
 have hxl:=hx.len;have hyl:=hy.len;refine qX.Yb func60 [.tmp 4] ntmps60 λC w g root=>?_;by_cases hl:xs.length=ys.length
 case neg =>
  have h1:((xs.length:Int)==ys.length)=false:=qv
  all_goals have fx:=aI h1<|@qT
  repeat' (first|refine qK ?_|refine λ(K:St->Prop) hK=>?_)
  all_goals try clear fx
  refine qE [] .nil qF ?_;have:¬ xs=ys:=λe=>hl (by rw [e]);simp [this]
 all_goals have fx:=aI hl<|@qT
 repeat' (first|refine qK ?_|refine λ(K:St->Prop) hK=>?_)
 all_goals try clear fx
 refine qR (λn st=>∃ i:Nat,n=xs.length - i/\i<=xs.length/\st.tm 0=ZY xs/\st.tm 1=ZY ys/\st.tm 5=iv i/\xs.take i=ys.take i) xs.length ?_ ?_
 .exact⟨0,qB⟩
 rintro n st - - ⟨i,rfl,hi,h0,h1,h5,heq⟩
 all_goals have fx:=aI h0<|h5
 repeat' (first|refine qK ?_|refine λ(K:St->Prop) hK=>?_)
 all_goals try clear fx
 refine wJ zK (λht=>?_) (λhf=>?_)
 .have hlt:i<xs.length:=zE;obtain⟨x,hxi⟩:∃ x,xs[i]?=some x:=⟨_,gE qA⟩;obtain⟨y,hyi⟩:∃ y,ys[i]?=some y:=⟨_,gE qA⟩;clear ht
  all_goals have fx:=yl h0 h1 h5 hxi<|hyi
  repeat' (first
   | refine uZ ?_|refine ja ?_|refine yH ?_|refine kJ λK hK=>?_
   | ((with_reducible refine vX hK ?_);clear hK K)
   | (with_reducible first|refine q9 ?_|refine za ?_|refine vk ?_|refine w5 ?_)
   | refine kV ?_
   | (with_reducible first|refine jg ?_|refine zO (h:=?_))
   | ((with_reducible refine nI 113 rfl ?_);refine qP (hF:=JY _ x y (hx.bsm hxi) (hy.bsm hyi)) (h:=?_))
   | (with_reducible refine x_q (h:=?_))
   | (refine Y7 (id:=6) Ui mixed λK hK=>?_)
   | ((with_reducible refine wI hK ?_);clear hK K)
   | ((with_reducible refine em ?_);first|refine su (h:=?_))
   | refine a_l rfl ?_|(with_reducible refine aI ?_ ?_)|exact vi|refine cM (h2:=?_)
   | refine cJ (h1:=λht=>?_) (h2:=λht=>?_)
   | fail)
  all_goals try clear fx
  all_goals first
   | (refine qE [] .nil qF ?_
      have hne:¬ xs=ys:=λe=>BL;simp [hne])
   | (have hxy:x=y:=by simpa using ht
      refine⟨xs.length - (i+1),qA,i+1,rfl,qA,qu,qz,q8,?_⟩;rw [dN,dN,heq,hxi,hyi,hxy])
 .have hge:i=xs.length:=by
   have:¬ i<xs.length:=zS;omega
  have:xs=ys:=BK
  all_goals have fx:=Ya
  repeat' (first|refine qK ?_|refine λ(K:St->Prop) hK=>?_)
  all_goals try clear fx
  refine qE [] .nil aS (by simp [this])
theorem D1 (gl) (xs ys:YU) (hx:Zm xs) (hy:Zm ys):qX prog gl 24 [Zc xs,Zc ys] (λ_ z _=>z=bv (decide (xs=ys))):=by
 refine qX.Yb func24 [.tmp 4] ntmps24 λC w g root=>?_
 all_goals have fx:=Ya
 repeat' (first|refine qK ?_|refine λ(K:St->Prop) hK=>?_|refine qP (hF:=FE _ xs ys hx hy) (h:=?_)|refine cJ (h1:=λht=>?_) (h2:=λht=>?_))
 all_goals try clear fx
 all_goals refine qE [] .nil qF ?_
 all_goals simp_all
end Go.Proofs.YtdnebaieamppbaaGreatDoor
end
