import Derived.Test.YtdnebaieamppbaaGreatDoorF41
import Derived.Test.YtdnebaieamppbaaGreatDoorChecked
set_option linter.unusedSimpArgs false
set_option linter.unusedVariables false
set_option maxRecDepth 100000
set_option maxHeartbeats 4000000

section
namespace Go.Proofs.YtdnebaieamppbaaGreatDoor
open Go Go.Hm Go.Proofs Tryz
theorem gj (gl) (H:Nm->Option AO) (xs:List Int) (c:Int) (hH:H (.u 1 0 0)=some (.row 1 (qS xs))) (hc:0<=c/\c<=1152921504606846976) (hx:xs.length<=1048576) :
  Yc prog gl 62 (Nm.under (.u 1 0 0)) [.hs (.u 1 0 0) 1 0 xs.length,iv c] H (λ_ y H'=>y=iv (c+xs.length)/\H' (.u 1 0 0)=some (.row 1 (qS (dw xs.length c)))) Yz:=by
 refine Yc.Yb func62 [.tmp 4] ntmps62 (λ_=>qZ rfl) λC w g root hroot=>?_
 all_goals have fx:=Ya
 repeat' (first|refine qK ?_|refine λ(K:St->Prop) hK=>?_)
 all_goals try clear fx
 refine qR (λn st=>∃ i:Nat,n=xs.length - i/\i<=xs.length/\st.tm 0=.hs (.u 1 0 0) 1 0 xs.length/\st.tm 1=iv (c+i)/\st.hp (.u 1 0 0)=some (.row 1 (qS (dw i c++xs.drop i)))/\st.tm 5=iv i) xs.length ?_ ?_
 .exact⟨0,qB,qB,qB,qB,by simp [hH,dw],qB⟩
 rintro n st - - ⟨i,rfl,hi,h0,h1,hp0,h5⟩
 all_goals have fx:=aI h0<|h5
 repeat' (first|refine qK ?_|refine λ(K:St->Prop) hK=>?_)
 all_goals try clear fx
 refine wJ zK (λht=>?_) (λhf=>?_)
 .have hlt:i<xs.length:=zE;have yF:=Lh (c:=c) hlt;have hll:(dw i c++xs.drop i).length=xs.length:=qv;clear ht
  all_goals have fx:=kH h0 h1 hp0 h5 hlt<|hll
  repeat' (first|refine qK ?_|refine λ(K:St->Prop) hK=>?_)
  all_goals try clear fx
  refine⟨xs.length - (i+1),qA,i+1,rfl,qA,qu,?_,by simp [<- yF],q8⟩;simp;rw [Yi qA qA];omega
 .have hge:i=xs.length:=by
   have:¬ i<xs.length:=zS;omega
  subst hge;rw [List.drop_length,sj] at hp0
  all_goals have fx:= h1
  repeat' (first|refine qK ?_|refine λ(K:St->Prop) hK=>?_)
  all_goals try clear fx
  refine qE [] .nil qF ⟨qB,by simp [hp0]⟩
theorem Cr (gl) (H:Nm->Option AO) (xs:List Y5) (c:Int) (hH:H (.u 1 0 0)=some (.row 4 (jI xs))) (hc:0<=c/\c<=1152921504606846976) (hx:xs.length<=1048576) :
  Yc prog gl 114 (Nm.under (.u 1 0 0)) [.hs (.u 1 0 0) 4 0 xs.length,iv c] H (λ_ y H'=>y=iv (c+4 * xs.length)/\H' (.u 1 0 0)=some (.row 4 (jI (nJ xs.length c)))) Yz:=by
 refine Yc.Yb func114 [.tmp 4] ntmps114 (λ_=>qZ rfl) λC w g root hroot=>?_
 all_goals have fx:=Ya
 repeat' (first|refine qK ?_|refine λ(K:St->Prop) hK=>?_)
 all_goals try clear fx
 refine qR (λn st=>∃ i:Nat,n=xs.length - i/\i<=xs.length/\st.tm 0=.hs (.u 1 0 0) 4 0 xs.length/\st.tm 1=iv (c+4 * i)/\st.hp (.u 1 0 0)=some (.row 4 (jI (nJ i c++xs.drop i)))/\st.tm 5=iv i) xs.length ?_ ?_
 .exact⟨0,qB,qB,qB,qB,by simp [hH,nJ],qB⟩
 rintro n st - - ⟨i,rfl,hi,h0,h1,hp0,h5⟩
 all_goals have fx:=aI h0<|h5
 repeat' (first|refine qK ?_|refine λ(K:St->Prop) hK=>?_)
 all_goals try clear fx
 refine wJ zK (λht=>?_) (λhf=>?_)
 .have hlt:i<xs.length:=zE;have yF:=Lg (c:=c) hlt;have hll:(nJ i c++xs.drop i).length=xs.length:=qv;have hs4:=IV (L:=nJ i c++xs.drop i) (i:=i) (a:=c+4 * i) (b:=c+4 * i+1) (d:=c+4 * i+2) (e:=c+4 * i+3) qA;rw [yF] at hs4;obtain⟨v0,hv0⟩:∃ v,v=c+4 * (i:Int):=⟨_,rfl⟩;rw [<- hv0] at h1 hs4;obtain⟨v1,hv1⟩:∃ v,v=v0+1:=⟨_,rfl⟩;obtain⟨v2,hv2⟩:∃ v,v=v1+1:=⟨_,rfl⟩;obtain⟨v3,hv3⟩:∃ v,v=v2+1:=⟨_,rfl⟩;have hw1:IntKind.i64.wrap (v0+1)=v1:=Az;have hw2:IntKind.i64.wrap (v1+1)=v2:=by rw [hv2];exact Yi qA qA
  have hw3:IntKind.i64.wrap (v2+1)=v3:=by rw [hv3];exact Yi qA qA
  have hw4:IntKind.i64.wrap (v3+1)=v3+1:=Yi qA qA;rw [<- hv1,show v0+2=v2 by omega,show v0+3=v3 by omega] at hs4;generalize nJ i c++xs.drop i=L at hp0 hll hs4;clear ht yF
  all_goals have fx:=er h0 h1 hp0 h5 hlt hll hw1 hw2<|hw3
  repeat' (first|refine qK ?_|refine λ(K:St->Prop) hK=>?_)
  all_goals try clear fx
  refine⟨xs.length - (i+1),qA,i+1,rfl,qA,qu,?_,by simp [hw1,hw2,hw3,hs4],q8⟩;simp [hw1,hw2,hw3,hw4];omega
 .have hge:i=xs.length:=by
   have:¬ i<xs.length:=zS;omega
  subst hge;rw [List.drop_length,sj] at hp0
  all_goals have fx:= h1
  repeat' (first|refine qK ?_|refine λ(K:St->Prop) hK=>?_)
  all_goals try clear fx
  refine qE [] .nil qF ⟨qB,by simp [hp0]⟩
theorem AL (gl) (H:Nm->Option AO) (p:YU) (c:Int) (hs:Zm p) (hO:Z3 H (.u 0 0 0) p) (hV:H (.u 1 0 0)=none) (hc:0<=c/\c<=1024) :
  Yc prog gl 61 (Nm.under (.u 0 0 0)) [.hs (.u 0 0 0) 4 0 p.length,iv c] H (λ_ y H'=>y=iv (c+cnt p)/\Z3 H' (.u 0 0 0) (PU p c)) Yz:=by
 have hpl:=hs.len;obtain⟨ha1,ha2,ha3⟩:=hO;refine Yc.Yb func61 [.tmp 4] ntmps61 (λ_=>qZ rfl) λC w g root hroot=>?_
 all_goals have fx:=Ya
 repeat' (first|refine qK ?_|refine λ(K:St->Prop) hK=>?_)
 all_goals try clear fx
 refine qR (λn st=>∃ i:Nat,n=p.length - i/\i<=p.length/\st.tm 0=.hs (.u 0 0 0) 4 0 p.length/\st.tm 1=iv (c+wh p i)/\Z3 st.hp (.u 0 0 0) (kv p c i)/\st.tm 5=iv i) p.length ?_ ?_
 .refine⟨0,qB,qB,qB,by simp [wh],?_,qB⟩;rw [Eu];exact⟨by simp [ha1],λj k hk=>by simp [ha2 j k hk],λj k hk=>by simp [ha3 j k hk]⟩
 rintro n st - - ⟨i,rfl,hi,h0,h1,⟨ho1,ho2,ho3⟩,h5⟩
 all_goals have fx:=aI h0<|h5
 repeat' (first|refine qK ?_|refine λ(K:St->Prop) hK=>?_)
 all_goals try clear fx
 refine wJ zK (λht=>?_) (λhf=>?_)
 .have hlt:i<p.length:=zE;obtain⟨k,hk⟩:=gX hlt;obtain⟨hkp,hkb⟩:=hs.bsm hk;have hcl:=Hj hs i;have hcg:=Mj hk;have hmg:=wt (c:=c) (i:=i) hk;rw [if_neg (Nat.lt_irrefl i)] at hmg;have hp2:=ho2 i k hmg;have hp3:=ho3 i k hmg;have hKP:=El (n:=.u 0 0 0) (q:=kv p c i) (i:=i) (a:=c+wh p i) (b:=c+wh p i+1);have hmk:=Ir (n:=.u 0 0 0) (c:=c) hk;rw [hmk] at hKP;have hng:=wt (c:=c) (i:=i+1) hk;rw [if_pos (Nat.lt_succ_self i)] at hng;obtain⟨_,hnge⟩:=gS hng;obtain⟨v0,hv0⟩:∃ v,v=c+(wh p i:Int):=⟨_,rfl⟩;rw [<- hv0] at h1 hKP;obtain⟨v1,hv1⟩:∃ v,v=v0+1:=⟨_,rfl⟩;obtain⟨v2,hv2⟩:∃ v,v=v1+1:=⟨_,rfl⟩;rw [<- hv1] at hKP;have hw1:IntKind.i64.wrap (v0+1)=v1:=Az;have hw2:IntKind.i64.wrap (v1+1)=v2:=by rw [hv2];exact Yi qA qA
  have hml:(kv p c i).length=p.length:=qB;have hml':(kv p c (i+1)).length=p.length:=qB;have hmp:(bP k (c+wh p i)).params.length=k.params.length:=by simp [bP]
  have hmb:(bP k (c+wh p i)).body.length=k.body.length:=by simp [bP]
  clear ht
  all_goals have fx:=qQ h0 h1 ho1 h5 hlt hw1 hw2 hKP hml hml' hng hnge<|aI hmp<|hmb
  repeat' (first|refine qK ?_|refine λ(K:St->Prop) hK=>?_)
  all_goals try clear fx
  have hx1:(bz prog C w g H Tryz.f61.ntmps gl).ext (.u 1 0 0)=false:=BC;have fx:=j4 h0 h1 h5<|aI hw2 hmp;refine sw (.c (.u 0 0 0) i 2) (.u 1 0 0) (hext:=hx1) (hs:=qn) (hF:=gj _ _ k.params v2 qn qA hkp) (h:=?_);rintro y H1 ⟨rfl,hy1⟩;clear fx
  all_goals have fx:=qQ h0 h1 ho1 h5 hlt hw1 hw2 hKP hml hml' hng hnge<|aI hmp<|hmb
  repeat' (first|refine qK ?_|refine λ(K:St->Prop) hK=>?_)
  all_goals try clear fx
  have fx:=yl h0 h1 h5 hw2<|aI hmp hmb;refine sw (.c (.u 0 0 0) i 3) (.u 1 0 0) (hext:=hx1) (hs:=yJ) (hF:=Cr _ _ k.body (v2+k.params.length) yJ qA hkb) (h:=?_);rintro y H2 ⟨rfl,hy2⟩;clear fx
  all_goals have fx:=jD h0 h1<|h5
  repeat' (first|refine qK ?_|refine λ(K:St->Prop) hK=>?_)
  all_goals try clear fx
  have hcb:(VL k:Int)=2+k.params.length+4 * k.body.length:=by simp only [VL];omega
  refine⟨p.length - (i+1),qA,i+1,rfl,qA,qu,?_,⟨?_,λj r hj=>?_,λj r hj=>?_⟩,FT⟩
  .simp;rw [hcg];omega
  .simp [ho1,hw1,hw2,hKP]
  .obtain⟨q,hq,rfl⟩:=iz hj;by_cases hji:j=i
   .subst hji;rw [hk] at hq;obtain rfl:=sI hq;rw [if_pos (Nat.lt_succ_self j)];have:v2=c+wh p j+2:=qA;simp [bP,hy1,this]
   .have hjo:=ho2 j _ (wt (c:=c) (i:=i) hq);by_cases hlj:j<i
    .rw [if_pos hlj] at hjo;rw [if_pos qA];simp [hjo,hji]
    .rw [if_neg hlj] at hjo;rw [if_neg qA];simp [hjo,hji]
  .obtain⟨q,hq,rfl⟩:=iz hj;by_cases hji:j=i
   .subst hji;rw [hk] at hq;obtain rfl:=sI hq;rw [if_pos (Nat.lt_succ_self j)];have:v2=c+wh p j+2:=qA;simp [bP,hy2,this]
   .have hjo:=ho3 j _ (wt (c:=c) (i:=i) hq);by_cases hlj:j<i
    .rw [if_pos hlj] at hjo;rw [if_pos qA];simp [hjo,hji]
    .rw [if_neg hlj] at hjo;rw [if_neg qA];simp [hjo,hji]
 .have hge:i=p.length:=by
   have:¬ i<p.length:=zS;omega
  subst hge
  all_goals have fx:= h1
  repeat' (first|refine qK ?_|refine λ(K:St->Prop) hK=>?_)
  all_goals try clear fx
  refine qE [] .nil qF ⟨by simp [cnt],⟨?_,λj r hj=>?_,λj r hj=>?_⟩⟩
  .simp [ho1,PU,zW (n:=.u 0 0 0) (m:=.u 0 0 0) (f:=jY (Nm.under (.u 0 0 0)) []) (p:=kv p c p.length) qB]
  .have:=ho2 j r hj;simp [this]
  .have:=ho3 j r hj;simp [this]
theorem s8 (gl) (H:Nm->Option AO) (p:YU) (c:Int) (hs:Zm p) (hO:Z3 H (.u 0 0 0) p) (hV:H (.u 1 0 0)=none) (hc:0<=c/\c<=1024) :
  Yc prog gl 25 (Nm.under (.u 0 0 0)) [.agg [.hs (.u 0 0 0) 4 0 p.length],iv c] H (λ_ y H'=>y=iv (c+cnt p)/\Z3 H' (.u 0 0 0) (PU p c)) Yz:=by
 obtain⟨ha1,ha2,ha3⟩:=hO;refine Yc.Yb func25 [.tmp 4] ntmps25 (λ_=>qZ rfl) λC w g root hroot=>?_
 all_goals have fx:=Ya
 repeat' (first|refine qK ?_|refine λ(K:St->Prop) hK=>?_)
 all_goals try clear fx
 have fx:=Ya;refine xN (.u 0 0 0) rfl (λ_=>by simp [ha1]) (hF:=AL _ _ p c hs ⟨by simp [ha1],λj r hj=>by simp [ha2 j r hj],λj r hj=>by simp [ha3 j r hj]⟩ qB hc) (h:=?_);rintro y H' ⟨rfl,⟨ho1,ho2,ho3⟩⟩;clear fx
 all_goals have fx:=Ya
 repeat' (first|refine qK ?_|refine λ(K:St->Prop) hK=>?_)
 all_goals try clear fx
 refine qE [] .nil qF ⟨qB,⟨?_,λj r hj=>?_,λj r hj=>?_⟩⟩
 .simp [ho1,zW (n:=.u 0 0 0) (m:=.u 0 0 0) (f:=jY (Nm.under (.u 0 0 0)) []) (p:=PU p c) qB]
 .simp [ho2 j r hj]
 .simp [ho3 j r hj]
theorem pS (gl) (m:Nat) (c:Int) (hc:0<=c/\c<=1152921504606846976) (hm:m<=1048576):qX prog gl 63 [ZD (dw m c),iv c] (λ_ y _=>y=iv (c+m)):=by
 have hml:(dw m c).length=m:=Li;refine qX.Yb func63 [.tmp 4] ntmps63 λC w g root=>?_
 all_goals have fx:=Ya
 repeat' (first|refine qK ?_|refine λ(K:St->Prop) hK=>?_)
 all_goals try clear fx
 refine qR (λn st=>∃ i:Nat,n=m - i/\i<=m/\st.tm 0=ZD (dw m c)/\st.tm 1=iv (c+i)/\st.tm 5=iv i) m ⟨0,qB⟩ ?_;rintro n st - - ⟨i,rfl,hi,h0,h1,h5⟩
 all_goals have fx:=aI h0<|h5
 repeat' (first|refine qK ?_|refine λ(K:St->Prop) hK=>?_)
 all_goals try clear fx
 refine wJ zK (λht=>?_) (λhf=>?_)
 .have hlt:i<m:=zE;have hg:(dw m c)[i]?=some (c+i):=by simp [dw,hlt]
  clear ht
  all_goals have fx:=yl h0 h1 h5 hg<|@qT
  repeat' (first|refine qK ?_|refine λ(K:St->Prop) hK=>?_)
  all_goals try clear fx
  refine⟨m - (i+1),qA,i+1,rfl,qA,qu,?_,q8⟩;simp;rw [Yi qA qA];omega
 .have hge:i=m:=by
   have:¬ i<m:=zS;omega
  subst hge
  all_goals have fx:= h1
  repeat' (first|refine qK ?_|refine λ(K:St->Prop) hK=>?_)
  all_goals try clear fx
  refine qE [] .nil qF qB
abbrev Rv:Y8:=kr<|.l 8 []<|.q 9<|.done
structure qAn (vs:List Vw):Prop where
 len:vs.length<=1000
 each:∀ v∈vs,v.names.length<=8/\v.vals.length<=8
theorem qAn.cnt {vs:List Vw} (h:qAn vs) (i:Nat):fQ (vs.take i)<=17000:=by
 have h1:=Mi (l:=vs.take i) (a:=17) λv hv=>by
  have:=h.each v (G0 hv);simp only [Vw.cnt];omega
 have h2:(vs.take i).length<=1000:=by have:=h.len;simp;omega
 have:=dV 17 h2;omega
theorem Mc (gl) (v:Vw) (h1:v.names.length<=1048576) (h2:v.vals.length<=1048576):qX prog gl 59 [.agg v.row,.agg v.row] (λ_ z _=>z=bv true):=by
 rw [Vw.qBD];refine qX.Yb func59 [.tmp 4] ntmps59 λC w g root=>?_;have fx:= @qT;have c1:=pg gl v.names v.names h1 h1;have c2:=pg gl v.vals v.vals h2 h2;refine qI ?_;clear fx c1 c2;refine qE [] .nil qF qB
theorem JW (gl) (vs:List Vw) (hs:qAn vs):qX prog gl 23 [vsl vs,vsl vs] (λ_ z _=>z=bv true):=by
 have hlen:=hs.len;refine qX.Yb func23 [.tmp 4] ntmps23 λC w g root=>?_;have fx:= @qT;refine qI ?_
 repeat ((first|refine Y7 (id:=6) Rv mixed ?_);refine qW ?_;refine qI ?_)
 clear fx;refine qR (λn st=>∃ i:Nat,n=vs.length - i/\i<=vs.length/\st.tm 0=vsl vs/\st.tm 1=vsl vs/\st.tm 5=iv i) vs.length ⟨0,qB⟩ ?_;rintro n st - - ⟨i,rfl,hi,h0,h1,h5⟩;by_cases hil:i<vs.length
 .obtain⟨v,hv⟩:=gX hil;obtain⟨_,hvE⟩:=gS hv;have hvm:=hs.each v (gM hv);have hc:=Mc gl v qA qA;rw [Vw.qBD] at hc;have fx:=kH h0 h1 h5 hil hv<|hvE;have c1:=hc;refine qI ?_
  repeat ((first|refine Y7 (id:=6) Rv mixed ?_);refine qW ?_;refine qI ?_)
  clear fx c1;exact⟨vs.length - (i+1),qA,i+1,rfl,qA,qu,qz,q8⟩
 .skip
  have fx:=j4 h0 h1 h5<|hil;refine qI ?_
  repeat ((first|refine Y7 (id:=6) Rv mixed ?_);refine qW ?_;refine qI ?_)
  clear fx;refine qE [] .nil qF qB
theorem DL (gl) (vs:List Vw) (c:Int) (hs:qAn vs) (hc:0<=c/\c<=1024):qX prog gl 27 [vsl (wN vs c),iv c] (λ_ z _=>z=iv (c+fQ vs)):=by
 have hlen:=hs.len;have hml:(wN vs c).length=vs.length:=bc;refine qX.Yb func27 [.tmp 4] ntmps27 λC w g root=>?_;refine qD ?_<|Ya;refine qR (λn st=>∃ i:Nat,n=vs.length - i/\i<=vs.length/\st.tm 0=vsl (wN vs c)/\st.tm 1=iv (c+fQ (vs.take i))/\st.tm 5=iv i) vs.length ⟨0,qA,qA,qB,by simp [fQ],qB⟩ ?_;rintro n st - - ⟨i,rfl,hi,h0,h1,h5⟩;by_cases hil:i<vs.length
 .obtain⟨v,hv⟩:=gX hil;have hvm:=hs.each v (gM hv);have hg:=HP (c:=c) hv;have hcl:=hs.cnt i;have hst:=D7 hv;have hcv:v.cnt=1+v.names.length+v.vals.length:=rfl;simp only [Vw.mark] at hg;obtain⟨v0,hv0⟩:∃ v,v=c+(fQ (vs.take i):Int):=⟨_,rfl⟩;obtain⟨v1,hv1⟩:∃ v,v=v0+1:=⟨_,rfl⟩;obtain⟨v2,hv2⟩:∃ u,u=v1+(v.names.length:Int):=⟨_,rfl⟩;have hw1:IntKind.i64.wrap (v0+1)=v1:=Az;rw [<- hv0] at h1 hg;rw [<- hv1,<- hv2] at hg;obtain⟨_,hgE⟩:=gS hg;have hn1:¬ v2<0:=qA;have hn2:¬ v2+(v.vals.length:Int)<0:=qA;have q1:=pS gl v.names.length v1 qA qA;rw [<- hv2] at q1;have q2:=pS gl v.vals.length v2 qA qA;have fx:=jP h0 h1 h5 hil hml hg hgE hw1 hn1 hn2<|@qT;have c1:=q1;have c2:=q2;refine qI ?_;clear fx c1 c2;refine⟨vs.length - (i+1),qA,i+1,rfl,qA,qu,?_,FT⟩;simp;omega
 .obtain rfl:i=vs.length:=qA;rw [kM] at h1;refine qD ?_<|yl h0 h1 h5 hil<|hml;refine qE [] .nil qF qB
theorem Cn (gl) (H:Nm->Option AO) (vs:List Vw) (c:Int) (hs:qAn vs) (hO:ZE H (.u 0 0 0) vs) (hV:H (.u 1 0 0)=none) (hc:0<=c/\c<=1024) :
  Yc prog gl 26 (Nm.under (.u 0 0 0)) [.hs (.u 0 0 0) 3 0 vs.length,iv c] H (λ_ y H'=>y=iv (c+fQ vs)/\ZE H' (.u 0 0 0) (wN vs c)) Yz:=by
 have hlen:=hs.len;obtain⟨ha1,ha2⟩:=hO;refine Yc.Yb func26 [.tmp 4] ntmps26 (λ_=>qZ rfl) λC w g root hroot=>?_;refine qD ?_<|Ya;refine qR (λn st=>∃ i:Nat,n=vs.length - i/\i<=vs.length/\st.tm 0=.hs (.u 0 0 0) 3 0 vs.length/\st.tm 1=iv (c+fQ (vs.take i))/\ZE st.hp (.u 0 0 0) (vY vs c i)/\st.tm 5=iv i) vs.length ?_ ?_
 .refine⟨0,qB,qB,qB,by simp [fQ],?_,qB⟩;rw [Cp];exact⟨by simp [ha1],λj k hk=>⟨by simp [(ha2 j k hk).names],by simp [(ha2 j k hk).vals]⟩⟩
 rintro n st - - ⟨i,rfl,hi,h0,h1,⟨ho1,ho2⟩,h5⟩;by_cases hil:i<vs.length
 .obtain⟨v,hv⟩:=gX hil;have hvm:=hs.each v (gM hv);have hcl:=hs.cnt i;have hst:=D7 hv;have hcv:v.cnt=1+v.names.length+v.vals.length:=rfl;have hat:=Iv (c:=c) hv;have hnx:=Cq (c:=c) hv;have yF:=IH (n:=.u 0 0 0) (w:=v.mark (c+fQ (vs.take i))) (b:=c+fQ (vs.take i)) hat qB qB qB;rw [du hv] at yF;obtain⟨p1,p2⟩:=ho2 i v hat;obtain⟨v0,hv0⟩:∃ v,v=c+(fQ (vs.take i):Int):=⟨_,rfl⟩;rw [<- hv0] at h1 yF hnx;obtain⟨v1,hv1⟩:∃ v,v=v0+1:=⟨_,rfl⟩;have hw1:IntKind.i64.wrap (v0+1)=v1:=Az;have hml:(vY vs c i).length=vs.length:=gi qA;have hml':(vY vs c (i+1)).length=vs.length:=gi qA;obtain⟨_,hnxE⟩:=gS hnx;obtain⟨_,hatE⟩:=gS hat;have hm1:(v.mark v0).names.length=v.names.length:=qB;have hm2:(v.mark v0).vals.length=v.vals.length:=qB;refine qD ?_<|qQ h0 h1 ho1 h5 hil hw1 yF hml hml' hat hatE hnx<|jD hnxE hm1<|hm2;have hx1:(bz prog C w g H Tryz.f26.ntmps gl).ext (.u 1 0 0)=false:=BC;intro K hK;have fx:=j4 h0 h1 h5<|aI hw1 hm1;refine sw (.c (.u 0 0 0) i 1) (.u 1 0 0) (hext:=hx1) (hs:=by simp [p1]) (hF:=gj _ _ v.names v1 (by simp [p1]) qA qA) (h:=?_);rintro y H1 ⟨rfl,hy1⟩;clear fx;refine qD ?_<|qQ h0 h1 ho1 h5 hil hw1 yF hml hml' hat hatE hnx<|jD hnxE hm1<|hm2;intro K hK;have fx:=yl h0 h1 h5 hw1<|aI hm1 hm2;refine sw (.c (.u 0 0 0) i 2) (.u 1 0 0) (hext:=hx1) (hs:=mM) (hF:=gj _ _ v.vals (v1+v.names.length) mM qA qA) (h:=?_)
  rintro y H2 ⟨rfl,hy2⟩;clear fx;refine qD ?_<|jD h0 h1<|h5;refine⟨vs.length - (i+1),qA,i+1,rfl,qA,qu,?_,⟨?_,λj r hj=>?_⟩,FT⟩
  .simp;omega
  .simp [ho1,hw1,yF,-List.map_map]
  .by_cases hji:j=i
   .subst hji;rw [hnx] at hj;obtain rfl:=sI hj;exact⟨by simp [Vw.mark,hy1,hv1],by simp [Vw.mark,hy2,hv1]⟩
   .rw [AK hji hv] at hj;obtain⟨e1,e2⟩:=ho2 j r hj;exact⟨by simp [e1,hji],by simp [e2,hji]⟩
 .obtain rfl:i=vs.length:=qA;rw [kM] at h1;rw [Et] at ho1 ho2;have hml:(wN vs c).length=vs.length:=bc;refine qD ?_<|j4 h0 h1 h5<|hil;refine qE [] .nil qF ⟨qB,⟨?_,λj r hj=>?_⟩⟩
  .simp [ho1,jb (n:=.u 0 0 0) (m:=.u 0 0 0) (f:=jY (Nm.under (.u 0 0 0)) []) (cs:=wN vs c) qB]
  .obtain⟨e1,e2⟩:=ho2 j r hj;exact⟨by simp [e1],by simp [e2]⟩
theorem oP {p:YU} {f:Int} (hs:Zm p):qAn (vh p f):=by
 unfold vh
 split
 .rename_i h;obtain⟨hpo,n,rfl,hn⟩:=eF h;have hm:=Es (Yl.of hs hpo).sh hn;have h1:=hm.ok.qAk;simp only [a6];refine⟨by simp only [iY,GZ];omega,λv hv=>?_⟩;obtain⟨a,_,rfl⟩:=eg.1 hv;have h8:=il (p:=p) (b:=(ji p n).YS a);have h2:=tA (l:=(yp p ((ji p n).YS a)).map λx=>(x,gQ p (ji p n) a x));have h3:=Bp (l:=(yp p ((ji p n).YS a)).map λx=>(x,gQ p (ji p n) a x));simp only [GZ] at h2 h3;exact⟨uS h2 h8,uS h3 h8⟩
 .exact⟨qB,qB⟩
theorem SG:laidOutB prog=true:=qM
theorem SE:mapsRowed prog=true:=qM
theorem PB:(prog.stops==[])=true:=qM
theorem PD:(prog.stopKnobs==[])=true:=qM
theorem SH:prog.plainKeys=true:=qM
theorem PE:prog.stopsHeard=true:=qM
theorem Um:prog.mayEnter=true:=qM
theorem PC:prog.liftsFinal=false:=qM
theorem SF:(prog.make==some .cut)=true:=qM
theorem C5:qAz prog:=⟨SG,SE,PB,PD,SH,PE,Um,PC,SF⟩
end Go.Proofs.YtdnebaieamppbaaGreatDoor
end
