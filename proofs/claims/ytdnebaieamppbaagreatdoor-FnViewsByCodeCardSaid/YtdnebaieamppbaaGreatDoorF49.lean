import Derived.Test.YtdnebaieamppbaaGreatDoorF42
import Derived.Test.YtdnebaieamppbaaGreatDoorF48
set_option linter.unusedSimpArgs false
set_option linter.unusedVariables false
set_option maxRecDepth 100000
set_option maxHeartbeats 4000000

section
namespace Go.Proofs.YtdnebaieamppbaaGreatDoor
open Go Go.Hm Go.Proofs Tryz
abbrev Ru:Y8:=.q 0<|.q 1<|.q 2<|.q 3<|.q 4<|.q 5<|.q 6<|.q 7<|.q 8<|.q 9<|.q 10<|.q 11<|.q 12<|.q 13<|.q 14<|.q 15<|.q 16<|.q 17<|.q 18<|.q 19<|.q 20<|.q 21<|.l 22 [7,6,5,2,1,0]<|.q 23<|.q 24<|.q 25<|.q 26<|.q 27<|.q 28<|.q 29<|.q 30<|.q 31<|.q 32<|.q 33<|.q 34<|.q 35<|.l 36 [7,6,5,2,1,0]<|.q 37<|.q 38<|.done
theorem lP (gl) (vs:List Vw) (hs:qAn vs):qX prog gl 29 [vsl vs,vsl vs] (λ_ z _=>z=bv true):=by
 have hlen:=hs.len;refine qX.Yb func29 [.tmp 4] ntmps29 λC w g root=>?_;have fx:= @qT;refine qI ?_
 repeat ((first|refine Y7 (id:=6) Ru mixed ?_);refine qW ?_;refine qI ?_)
 clear fx;refine qR (λn st=>∃ i:Nat,n=vs.length - i/\i<=vs.length/\st.tm 0=vsl vs/\st.tm 1=vsl vs/\st.tm 5=iv i) vs.length ⟨0,qB⟩ ?_;rintro n st - - ⟨i,rfl,hi,h0,h1,h5⟩;by_cases hil:i<vs.length
 .obtain⟨v,hv⟩:=gX hil;obtain⟨_,hvE⟩:=gS hv;have hvm:=hs.each v (gM hv);have e1:=nF gl v.names v.names qA qA;have e2:=nF gl v.vals v.vals qA qA;have fx:=kG h0 h1 h5 hil hv hvE<|@qT;have c1:=e1;have c2:=e2;refine qI ?_
  repeat ((first|refine Y7 (id:=6) Ru mixed ?_);refine qW ?_;refine qI ?_)
  clear fx c1 c2;exact⟨vs.length - (i+1),qA,i+1,rfl,qA,qu,qz,q8⟩
 .skip
  have fx:=j4 h0 h1 h5<|hil;refine qI ?_
  repeat ((first|refine Y7 (id:=6) Ru mixed ?_);refine qW ?_;refine qI ?_)
  clear fx;refine qE [] .nil qF qB
attribute [local simp] sY ft
theorem LD (gl) (H:Nm->Option AO) (bs:List Int) (pos:Nat) (hb:ZL bs) (hpos:pos<=500000) (hH:H (.u 1 0 0)=some (Zo bs pos)) (hV:H (.u 2 0 0)=none) (hV4:H (.u 4 0 0)=none) (hV5:H (.u 5 0 0)=none) :
  Yc prog gl 40 (Nm.under (.u 1 0 0)) [.pt (.u 1 0 0) 0] H (λr z H'=>∃ (p:YU) (b:Int) (pos':Nat),z=.Zg [.agg [.hs r 4 0 p.length],iv b]/\Z3 H' r p/\Zm p/\(1<=p.length/\p.length<=8)/\(-1<=b/\b<=151)/\H' (.u 1 0 0)=some (Zo bs pos')) Yz:=by
 refine Yc.Yb func40 [.cell 2 25,.tmp 3] ntmps40 (λ_=>qZ rfl) λC w g root hroot=>?_;have hr0:=hroot root (Nm.Y0 _)
 all_goals have fx:=Ya
 repeat' (first|refine qK ?_|refine λ(K:St->Prop) hK=>?_)
 all_goals try clear fx
 refine oK (bs:=bs) (hs:=jU) (ha:=yK) (hF:=BR _ _ bs pos hb qA jU qB qB qB) (h:=?_);rintro z H1 ⟨p,q,rfl,⟨ho1,ho2,ho3⟩,⟨hs,hpl,hq⟩,hU⟩;refine⟨q,hU,?_⟩
 all_goals have fx:= ho1
 repeat' (first|refine qK ?_|refine λ(K:St->Prop) hK=>?_)
 all_goals try clear fx
 refine l7 (hs:=qB) (ha:=yK) (hF:=un _ _ bs q 40 hb qA qA qB) (h:=?_);rintro y py ⟨hy,rfl⟩
 all_goals have fx:= ho1
 repeat' (first|refine qK ?_|refine λ(K:St->Prop) hK=>?_)
 all_goals try clear fx
 refine bG (bN _) 9 [150,150,(y:Int),0,20,151,-1] (bs:=bs) (pos:=q+1) hb qA (hV:=hV) (h0:=qB) (h1:=qB) (hH:=qB) (hL:=zU) (h:=?_);intro v hv
 have hv':-1<=v/\v<=151:=by
  simp only [wH,Jg,or_false] at hv;omega
 all_goals have fx:= ho1
 repeat' (first|refine qK ?_|refine λ(K:St->Prop) hK=>?_)
 all_goals try clear fx
 refine qE [(.c (.s 2) 0 0,root)] (.one rfl) qF ⟨p,v,q+1+1,qB,⟨?_,λj r hj=>?_,λj r hj=>?_⟩,hs,hpl,hv',qB⟩
 .simp [ho1,hr0,zW (n:=.c (.s 2) 0 0) (m:=root) (f:=jY (Nm.under (.u 1 0 0)) [(.c (.s 2) 0 0,root)]) (p:=p) eP]
 .simp [ho2 j r hj,hr0]
 .simp [ho3 j r hj,hr0]
theorem iU (gl) (code:List Int) (hc:qBI code):qX prog gl 28 [bsl code] (λr z H'=>∃ (p:YU) (b:Int),z=.Zg [.agg [.hs r 4 0 p.length],iv b]/\Z3 H' r p/\Zm p /\ -1<=b/\b<=151):=by
 have hb:=hc.bytes;refine qX.Yb func28 [.cell 2 25,.tmp 3] ntmps28 λC w g root=>?_;refine qD ?_<|Ya;intro K hK;refine Tb (ha:=qB) (hF:=Cg _ code hc.len) (h:=?_);rintro z H1 ⟨rfl,hR⟩;refine qD ?_<| hR;refine Ba (.s 5) (.u 1 0 0) (.inl rfl) (.inr rfl) ?_;refine oK (bs:=code.take 2000) (hs:=by simp [hR]) (ha:=yK) (hF:=LD _ _ (code.take 2000) 0 hb qA (by simp [hR]) qB qB qB) (h:=?_);rintro z H2 ⟨p,b,q,rfl,⟨ho1,ho2,ho3⟩,hs,hpl,hq,hU⟩;refine⟨q,hU,?_⟩;refine qD ?_<| ho1;refine qE [(.c (.s 2) 0 0,root)] (.one rfl) qF ⟨p,b,qB,⟨?_,λj r hj=>?_,λj r hj=>?_⟩,hs,hq⟩
 .simp [ho1,zW (n:=.c (.s 2) 0 0) (m:=root) (f:=jY Z5 [(.c (.s 2) 0 0,root)]) (p:=p) qB]
 .simp [ho2 j r hj]
 .simp [ho3 j r hj]
end Go.Proofs.YtdnebaieamppbaaGreatDoor
end
section
namespace Go.Proofs.YtdnebaieamppbaaGreatDoor
open Go Go.Hm Go.Proofs Tryz
abbrev Wr:Y8:=.q 0<|.q 1<|.q 3<|.q 4<|.l 2 [4,3]<|.l 5 []<|.l 6 []<|.q 7<|.done
theorem jN {A G G2:Prop} (k:G2) (x:A) (h:A->Yr G2->G:=by
 intro fx kk;refine qI ?_
 repeat ((first|refine Y7 (id:=10) Wr mixed ?_);refine qW ?_;refine qI ?_)
 exact kk.h):G:=h x ⟨k⟩
theorem nW (gl:Nat->Option (List AV)) (hgl:gl 0=some lT) (code:List Int) (hcode:∀ v∈code,0<=v/\v<=255) (hbig:code.length<=1152921504606846976) :
  qX prog gl 6 [bsl code] (λ_ z _=>z=bv true):=by
 refine qX.Yb func6 [.tmp 2] ntmps6 λC w g root=>?_;by_cases hlen:1048576<code.length
 .have hl1:(1048576:Int)<code.length:=qA;refine jN ?_<| hl1;refine qE [] .nil qF qB
 have hl1:¬ (1048576:Int)<code.length:=qA;have hc:qBI code:=⟨qA,hcode⟩;have fx:= hl1;have e1:=iU gl code hc;refine jN ?_<|fx;clear fx e1;rintro K hK z H1 ⟨p,f,rfl,hO,hs,hf1,hf2⟩;obtain⟨ho1,ho2,ho3⟩:=hO.Yv;refine⟨qB,?_⟩;have hpl:=hs.len;have hia:=u7 gl hgl p f hs;have hsa:=wx gl p f hs;have him:=kQ gl p f hs;have hsm:=oP (f:=f) hs;have heq:=lP gl (vh p f) hsm;have hkc:=λk=>u7 gl hgl p k hs;have hkm:=λk=>kQ gl p k hs;have hke:=λk=>lP gl (vh p k) (oP (f:=k) hs);generalize vh p f=R at hia hsa him hsm heq;have fx:= ho1;have e1:=hia;refine jN ?_<|fx;clear fx e1;rintro K hK y H2 ⟨rfl,hR⟩;obtain⟨r1,r2⟩:=hR.Yv;refine⟨qB,?_⟩;refine jN ?_<|aI ho1<|r1;intro K hK
 refine uD (λst=>qDF st 3 p/\st.tm 4=iv f/\st.tm 5=.hs (.s 5) 3 0 R.length/\ZE st.hp (.s 5) R/\st.tm 18=.hs (.s 5) 3 0 R.length/\st.tm 19=.agg [.hs (.c (.s 3) 0 0) 4 0 p.length]/\st.tm 20=iv f)
  ⟨⟨qB,qB,⟨vE,λj r hj=>uP,λj r hj=>uO⟩⟩,qB,qB,⟨dH,λq v hq=>⟨dI,dE⟩⟩,qB,qB,qB⟩ ?_
 clear hO ho1 ho2 ho3 hR r1 r2;rintro st ⟨⟨h3,hp3,⟨a1,a2,a3⟩⟩,h4,h5,⟨r1,r2⟩,h18,h19,h20⟩;have fx:=ko h3 hp3 h4 h5 h18 h19 h20<|r1;have e1:=hsa;refine jN ?_<|fx;clear fx e1;rintro y H3 ⟨rfl,hR3⟩;obtain⟨s1,s2⟩:=hR3.Yv;refine⟨qB,?_⟩;refine jN ?_<|kG h3 hp3 h4 h5 h18 h19<|h20;have fx:=aI h18 h18;refine z7 (hB:=.cons (vP (n:=.s 5) (vs:=R) ⟨dH,λq v hq=>⟨dI,dE⟩⟩ rfl) (.cons (vP (n:=.s 21) (vs:=R) ⟨eZ,λq v hq=>⟨iF,iD⟩⟩ rfl) .nil)) (hF:=heq) (h:=?_);clear fx;refine jN ?_<|j4 h3 hp3 h4<|h5;refine qR (λn0 st=>∃ k:Nat,n0=151 - k/\st.tm 6=iv k/\(k:Int)<=400/\st.tm 4=iv f/\st.tm 5=.hs (.s 5) 3 0 R.length/\ZE st.hp (.s 5) R/\qDF st 3 p) 151 ?_ ?_
 .exact⟨0,qA,qB,qA,jW,zA,⟨dH,λq v hq=>⟨dI,dE⟩⟩,⟨zN,yJ,⟨by simp [a1],λj r hj=>by simp [a2 j r hj],λj r hj=>by simp [a3 j r hj]⟩⟩⟩
 clear h3 hp3 a1 a2 a3 h4 h5 h18 h19 h20 r1 r2 s1 s2 hR3 hsa hia;rintro n0 st - - ⟨k,rfl,h6,hk4,h4,h5,⟨r1,r2⟩,⟨h3,hp3,⟨a1,a2,a3⟩⟩⟩;by_cases hk1:(k:Int)<=f/\k<=150
 .obtain⟨hk1,hk2⟩:=hk1;have hk2':(k:Int)<=150:=qA;have hq0:0<=f.tdiv 12:=Int.tdiv_nonneg qA qA;have hq1:f.tdiv 12<=12:=by rw [Int.tdiv_eq_ediv_of_nonneg qA];omega
  obtain⟨q,hq⟩:∃ q:Nat,f.tdiv 12=q:=⟨(f.tdiv 12).toNat,qA⟩;have w1:IntKind.i64.wrap ((k:Int)+1)=(k:Int)+1:=Yi qA qA;have w2:IntKind.i64.wrap (f.tdiv 12)=(q:Int):=by rw [hq];exact Yi qA qA
  have w3:IntKind.i64.wrap ((k:Int)+1+(q:Int))=(k:Int)+1+(q:Int):=Yi qA qA;have hkck:=hkc k;have hkmk:=hkm k;have hkek:=hke k;generalize vh p k=T at hkck hkmk hkek;have fx:=kG h3 hp3 h4 h6 hk1 hk2<|hk2';have e1:=hkck;refine jN ?_<|fx;clear fx e1;rintro K hK y H2 ⟨rfl,hR2⟩;obtain⟨s1,s2⟩:=hR2.Yv;refine⟨qB,?_⟩;have fx:=yl h3 hp3 h4 h6<|s1;have e1:=hkmk;refine jN ?_<|fx;clear fx e1;rintro y H3 ⟨rfl,hR3⟩;obtain⟨t1,t2⟩:=hR3.Yv;refine⟨qB,?_⟩;refine jN ?_<|kH h3 hp3 h4 h6 s1<|t1;have fx:=aI h4 h6;refine z7 (hB:=.cons (vP (n:=.s 38) (vs:=T) ⟨eZ,λq v hq=>⟨iF,iD⟩⟩ rfl) (.cons (vP (n:=.s 41) (vs:=T) ⟨ap,λq v hq=>⟨Fe,GA⟩⟩ rfl) .nil)) (hF:=hkek) (h:=?_);clear fx;refine jN ?_<|kG h3 hp3 h4 h6 w1 w2<|w3;exact⟨151 - (k+1+q),qA,k+1+q,rfl,qB,qA,jW,zA,⟨dH,λq v hq=>⟨dI,dE⟩⟩,⟨zN,yJ,⟨by simp [a1],λj r hj=>by simp [a2 j r hj],λj r hj=>by simp [a3 j r hj]⟩⟩⟩
 by_cases hk2:(k:Int)<=f
 .have hk3:¬ (k:Int)<=150:=qA;have fx:=ko h3 hp3 h4 h5 h6 hk2 hk3<|r1;have e1:=him;refine jN ?_<|fx;clear fx e1;rintro K hK y H3 ⟨rfl,hR3⟩;obtain⟨t1,t2⟩:=hR3.Yv;refine⟨qB,?_⟩;refine jN ?_<|j4 h4 h5 r1<|t1;have fx:=aI h4 h5;refine z7 (hB:=.cons (vP (n:=.s 5) (vs:=R) ⟨dH,λq v hq=>⟨dI,dE⟩⟩ rfl) (.cons (vP (n:=.s 47) (vs:=R) ⟨ap,λq v hq=>⟨Fe,GA⟩⟩ rfl) .nil)) (hF:=heq) (h:=?_);clear fx;refine jN ?_<| h4;refine qE [] .nil qF qB
 .skip
  have fx:=kG h3 hp3 h4 h5 h6 hk2<|r1;have e1:=him;refine jN ?_<|fx;clear fx e1;rintro K hK y H3 ⟨rfl,hR3⟩;obtain⟨t1,t2⟩:=hR3.Yv;refine⟨qB,?_⟩;refine jN ?_<|j4 h4 h5 r1<|t1;have fx:=aI h4 h5;refine z7 (hB:=.cons (vP (n:=.s 5) (vs:=R) ⟨dH,λq v hq=>⟨dI,dE⟩⟩ rfl) (.cons (vP (n:=.s 47) (vs:=R) ⟨ap,λq v hq=>⟨Fe,GA⟩⟩ rfl) .nil)) (hF:=heq) (h:=?_);clear fx;refine jN ?_<| h4;refine qE [] .nil qF qB
end Go.Proofs.YtdnebaieamppbaaGreatDoor
end
