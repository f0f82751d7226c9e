import Derived.Test.YtdnebaieamppbaaGreatDoorF32
set_option linter.unusedSimpArgs false
set_option linter.unusedVariables false
set_option maxRecDepth 100000
set_option maxHeartbeats 4000000

section
namespace Go.Proofs.YtdnebaieamppbaaGreatDoor
open Go Go.Hm Go.Proofs Tryz
theorem gY {f:Nat->Bool}:∀ {n:Nat},(∀ x,x<n->f x=false)->qw f n=[]
 | 0,_=>rfl
 | n+1,h=>by
  rw [qw,if_neg (by rw [h n qA];decide),gY (n:=n) λx hx=>h x qA]
theorem gW {f:Nat->Bool} {n:Nat}:qw f (n+1)=if f n=true then qw f n++[(n:Int)] else qw f n:=rfl
theorem kY (gl) (xs:List Int) (x:Int) (hlen:xs.length<=1048576):qX prog gl 165 [ZD xs,iv x] (λ_ z _=>z=iv (qq xs x)):=by
 refine qX.Yb func165 [.tmp 4] ntmps165 λC w g root=>?_;refine qD ?_<|Ya;refine qR (λn st=>∃ i:Nat,n=xs.length - i/\i<=xs.length/\st.tm 7=ZD xs/\st.tm 8=iv xs.length/\st.tm 1=iv x/\st.tm 9=iv i/\∀ j<i,xs[j]?≠some x) xs.length ⟨0,qB⟩ ?_;rintro n st - - ⟨i,rfl,hi,h7,h8,h1,h9,hno⟩;by_cases hlt:i<xs.length
 .obtain⟨y,hy⟩:∃ y,xs[i]?=some y:=⟨xs[i],gE hlt⟩;obtain⟨_,hyE⟩:=gS hy
  cases hyx:(y==x)
  rotate_left
  .skip
   refine qD ?_<|ko h7 h8 h1 h9 hy hyE hlt<|hyx;refine qE [] .nil qF ?_;have hyx:y=x:=by simpa using hyx
   subst hyx
   have:xs.findIdx? (·==y)=some i:=by
    rw [List.findIdx?_eq_some_iff_getElem];refine⟨hlt,by simp [hyE],λj hj=>?_⟩;have:=hno j hj;rw [gE qA] at this
    simpa using this
   simp [qq,this]
  .skip
   refine qD ?_<|ko h7 h8 h1 h9 hy hyE hlt<|hyx;refine⟨xs.length - (i+1),qA,i+1,rfl,qA,yW,wW,qz,q8,λj hj=>?_⟩;rcases Jd.1 hj with h|rfl
   .exact hno j h
   .rw [hy];simpa using hyx
 .skip
  refine qD ?_<|yl h7 h8 h1 h9<|hlt;refine qE [] .nil qF ?_
  have:xs.findIdx? (·==x)=none:=by
   rw [List.findIdx?_eq_none_iff];intro y hy;obtain⟨j,hj,rfl⟩:=List.getElem_of_mem hy;have:=hno j qA;rw [gE hj] at this
   simpa using this
  simp [qq,this]
theorem cA (gl) (p:YU) (hp:Y1 p) (b:Nat) (k:Y4) (hk:p[b]?=some k):qX prog gl 180 [fp p,iv b] (λ_ y _=>y=.agg (ye (qC p b))):=by
 have hh:=hp.Y9;have hl7:=hp.len;obtain⟨Ym,hbE⟩:=gS hk;have hka:qV p b=k.kind:=kS;have hsg:=ue (p:=p) Ym;rw [jd hh hk] at hsg;obtain⟨_,hse⟩:=gS hsg;refine qX.Yb func180 [.cell 4 179] ntmps180 λC w g root=>?_
 cases hkd:(k.kind==1)
 .have hc:qC p b=[]:=by
   have:¬ k.kind=1:=gI;simp [qC,hka,this]
  rw [hc];refine qD ?_<|yl hsg hse hkd Ym<|@qT;refine qE [] .nil qF ?_
  rfl
 have hk1:k.kind=1:=gI
 have h0:0<b:=by
  rcases iR b with e|e
  .have:=(hp.Ze hk).2 e;omega
  .exact e
 have hc:ye (qC p b)=ye (pr p b p.length):=by
  simp only [qC,hka,hk1,if_true];rw [<- Py hh h0 Ym,cz]
 rw [hc];refine qD ?_<|yl hsg hse hkd Ym<|@qT;refine qR (λn st=>∃ c:Nat,n=p.length - c/\c<=p.length/\st.tm 1=iv b/\st.tm 4=.pt (.s 4) 0/\st.hp (.s 4)=some (.row 8 [ye []])/\st.tm 5=.pt (.s 5) 0/\st.hp (.s 5)=some (.row 8 [ye (pr p b c)])/\st.tm 18=fp p/\st.tm 19=iv p.length/\st.tm 20=iv c) p.length ?_ ?_
 .exact⟨0,qA,qA,qB,qB,qF,qB,qF,qB,qB,qB⟩
 clear hsg hse;rintro n st - - ⟨c,rfl,hc2,h1,h4,hp4,h5,hp5,h18,h19,h20⟩;by_cases hlt:c<p.length
 .obtain⟨q,hq⟩:=gX hlt;have hsg:=ue (p:=p) hlt;rw [jd hh hq] at hsg;obtain⟨_,hse⟩:=gS hsg;have hnext:pr p b (c+1)=pr p b c++qw (nQ p b c) 8:=rfl;generalize hR:pr p b c=R at hp5 hnext
  cases hcb:((c:Int)==b)
  rotate_left
  .have hcb':c=b:=by
    have:(c:Int)=b:=by simpa using hcb
    omega
   rw [gY (λx _=>by simp only [nQ,hq];simp [hcb']),sj] at hnext;refine qD ?_<|jP h1 h4 hp4 h5 hp5 h18 h19 h20 hlt hsg<|aI hse<|hcb;exact⟨p.length - (c+1),qA,c+1,rfl,qA,qz,jW,wU,zA,by simp [hp5,hnext],iH,eU,q8⟩
  have hcb':(c != b)=true:=by
   have:¬ (c:Int)=b:=by simpa using hcb
   simp;omega
  refine qD ?_<|jP h1 h4 hp4 h5 hp5 h18 h19 h20 hlt hsg<|aI hse<|hcb;refine qR (λn st=>∃ x:Nat,n=8 - x/\x<=8/\st.tm 1=iv b/\st.tm 4=.pt (.s 4) 0/\st.hp (.s 4)=some (.row 8 [ye []])/\st.tm 5=.pt (.s 5) 0/\st.hp (.s 5)=some (.row 8 [ye (R++qw (nQ p b c) x)])/\st.tm 7=Ns p c q/\st.tm 18=fp p/\st.tm 19=iv p.length/\st.tm 20=iv c/\st.tm 30=iv x) 8 ?_ ?_
  .exact⟨0,qA,qA,qz,jW,wU,zA,by simp [hp5,qw],qB,iH,eU,mL,qB⟩
  clear h1 h4 hp4 h5 hp5 h18 h19 h20;rintro n st - - ⟨x,rfl,hx,h1,h4,hp4,h5,hp5,h7,h18,h19,h20,h30⟩;by_cases hx8:x<8
  .have hx8':(x:Int)<8:=qA;have hfi:nQ p b c x=(decide ((x:Int)∈q.us)&&(qh p c x==b)):=by simp only [nQ,hq,hcb',sm]
   have hn2:=gW (f:=nQ p b c) (n:=x)
   cases hus:decide ((x:Int)∈q.us)
   .rw [if_neg (by rw [hfi,hus];simp)] at hn2
    all_goals have fx:=ko h1 h5 hp5 h7 h30 hx8 hx8'<|hus
    repeat' (first|refine qK ?_|refine λ(K:St->Prop) hK=>?_|refine qP (hF:=cN _ p c q x hx8) (h:=?_))
    all_goals try clear fx
    exact⟨8 - (x+1),qA,x+1,rfl,qA,qz,jW,wU,zA,rl,yW,iH,eU,mL,q8⟩
   cases ho:(qh p c x==(b:Int))
   .rw [if_neg (by rw [hfi,ho];simp)] at hn2
    all_goals have fx:=er h1 h5 hp5 h7 h30 hx8 hx8' hus<|ho
    repeat' (first|refine qK ?_|refine λ(K:St->Prop) hK=>?_|refine qP (hF:=cN _ p c q x hx8) (h:=?_)|refine qP (hF:=zM _ p hp c q hq x hx8) (h:=?_))
    all_goals try clear fx
    exact⟨8 - (x+1),qA,x+1,rfl,qA,qz,jW,wU,zA,rl,yW,iH,eU,mL,q8⟩
   .rw [if_pos (by rw [hfi,hus,ho];rfl)] at hn2;have hnM:R++qw (nQ p b c) (x+1)=R++qw (nQ p b c) x++[(x:Int)]:=by rw [hn2,nS]
    generalize R++qw (nQ p b c) x=M at hp5 hnM
    all_goals have fx:=er h1 h5 hp5 h7 h30 hx8 hx8' hus<|ho
    repeat' (first|refine qK ?_|refine λ(K:St->Prop) hK=>?_|refine qP (hF:=cN _ p c q x hx8) (h:=?_)|refine qP (hF:=zM _ p hp c q hq x hx8) (h:=?_))
    all_goals try clear fx
    refine⟨8 - (x+1),qA,x+1,rfl,qA,qz,jW,wU,zA,?_,yW,iH,eU,mL,q8⟩;rw [hnM];simp [<- wi (l:=M) (y:=(x:Int)) rfl hx8]
  .have hge:x=8:=qA;subst hge;rw [<- hnext] at hp5;refine qD ?_<|kG h1 h5 hp5 h18 h19 h20<|h30;exact⟨p.length - (c+1),qA,c+1,rfl,qA,qz,jW,wU,zA,uz,iH,eU,by simp [h20];exact Yi qA qA⟩
 .have hge:c=p.length:=qA;subst hge;refine qD ?_<|kH h4 hp4 h5 hp5 h19<|h20;refine qE [] .nil BI ?_;simp
theorem fL (gl) (p:YU) (hp:Y1 p) (b:Nat) (Ym:b<p.length):qX prog gl 142 [fp p,iv b] (λr y H'=>y=.hs r 1 0 (qN p b).length/\H' r=some (.row 1 (qS (qN p b)))):=by
 have hh:=hp.Y9;have hl7:=hp.len;rw [<- P9 hh Ym];refine qX.Yb func142 [.tmp 4] ntmps142 λC w g root=>?_;refine qD ?_<|Ya;refine qR (λn st=>∃ c:Nat,n=p.length - c/\c<=p.length/\st.tm 0=fp p/\st.tm 1=iv b/\st.tm 5=.pt (.s 5) 0/\st.hp (.s 5)=some (.row 8 [ye (pW p b c)])/\st.tm 10=fp p/\st.tm 11=iv p.length/\st.tm 12=iv c) p.length ?_ ?_
 .exact⟨0,qA,qA,qB,qB,qB,qF,qB,qB,qB⟩
 rintro n st - - ⟨c,rfl,hc2,h0,h1,h5,hp5,h10,h11,h12⟩;by_cases hlt:c<p.length
 .obtain⟨q,hq⟩:=gX hlt;have hsg:=ue (p:=p) hlt;rw [jd hh hq] at hsg;obtain⟨_,hse⟩:=gS hsg;have hnext:pW p b (c+1)=pW p b c++qw (nP p b c) 8:=rfl;generalize hR:pW p b c=R at hp5 hnext
  cases hin:qy p c b
  .rw [gY (λx _=>by simp only [nP,hq,hin];simp),sj] at hnext;have fx:=jP h0 h1 h5 hp5 h10 h11 h12 hlt hsg hse<|hin;have c1:=cX gl p hh c q hq b;refine qI ?_;clear fx c1;exact⟨p.length - (c+1),qA,c+1,rfl,qA,qu,qz,zA,by simp [hp5,hnext],vo,eM,q8⟩
  have fx:=jP h0 h1 h5 hp5 h10 h11 h12 hlt hsg hse<|hin;have c1:=cX gl p hh c q hq b;refine qI ?_;clear fx c1;refine qR (λn st=>∃ x:Nat,n=8 - x/\x<=8/\st.tm 0=fp p/\st.tm 1=iv b/\st.tm 5=.pt (.s 5) 0/\st.hp (.s 5)=some (.row 8 [ye (R++qw (nP p b c) x)])/\st.tm 7=Ns p c q/\st.tm 10=fp p/\st.tm 11=iv p.length/\st.tm 12=iv c/\st.tm 20=iv x) 8 ?_ ?_
  .exact⟨0,qA,qA,qu,qz,zA,by simp [hp5,qw],qB,vo,eM,gB,qB⟩
  clear h0 h1 h5 hp5 h10 h11 h12 hsg hse;rintro n st - - ⟨x,rfl,hx,h0,h1,h5,hp5,h7,h10,h11,h12,h20⟩;by_cases hx8:x<8
  .have hx8':(x:Int)<8:=qA;have hfi:nP p b c x=(decide ((x:Int)∈q.us)&&(qh p c x != -1)&&!qy p (qh p c x) b):=by simp only [nP,hq,hin,sm]
   have hn2:=gW (f:=nP p b c) (n:=x)
   cases hus:decide ((x:Int)∈q.us)
   .rw [if_neg (by rw [hfi,hus];simp)] at hn2
    all_goals have fx:=ko h1 h5 hp5 h7 h20 hx8 hx8'<|hus
    repeat' (first|refine qK ?_|refine λ(K:St->Prop) hK=>?_|refine qP (hF:=cN _ p c q x hx8) (h:=?_))
    all_goals try clear fx
    exact⟨8 - (x+1),qA,x+1,rfl,qA,qu,qz,zA,rl,yW,vo,eM,gB,q8⟩
   cases hno:(qh p c x == -1)
   rotate_left
   .rw [if_neg (by rw [hfi,bne,hno];simp)] at hn2
    all_goals have fx:=gJ h1 h5 hp5 h7 h20 hx8 hx8' hus hno<|@qT
    repeat' (first|refine qK ?_|refine λ(K:St->Prop) hK=>?_|refine qP (hF:=cN _ p c q x hx8) (h:=?_)|refine qP (hF:=zM _ p hp c q hq x hx8) (h:=?_))
    all_goals try clear fx
    exact⟨8 - (x+1),qA,x+1,rfl,qA,qu,qz,zA,rl,yW,vo,eM,gB,q8⟩
   have hno':¬ qh p c x=-1:=by simpa using hno
   obtain⟨o,hO⟩:∃ o:Nat,qh p c x=o:=⟨(qh p c x).toNat,by rcases uo (p:=p) (c:=c) (x:=(x:Int)) with h|h <;> omega⟩
   have hol:o<p.length:=by
    have h1:=uo (p:=p) (c:=c) (x:=(x:Int));have h2:=yD (aK hh qA hq hO);omega
   obtain⟨qo,hqo⟩:=gX hol;have hsg:=ue (p:=p) hol;rw [jd hh hqo] at hsg;obtain⟨_,hse⟩:=gS hsg;rw [hO] at hno hfi
   cases hio:qy p o b
   rotate_left
   .rw [if_neg (by rw [hfi,hio];simp)] at hn2
    all_goals have fx:=qQ h0 h1 h5 hp5 h7 h20 hx8 hx8' hus hO hno hol<|j4 hsg hse hio<|@qT
    repeat' (first|refine qK ?_|refine λ(K:St->Prop) hK=>?_|refine qP (hF:=cN _ p c q x hx8) (h:=?_)|refine qP (hF:=zM _ p hp c q hq x hx8) (h:=?_)|refine qP (hF:=cX _ p hh o qo hqo b) (h:=?_))
    all_goals try clear fx
    exact⟨8 - (x+1),qA,x+1,rfl,qA,qu,qz,zA,rl,yW,vo,eM,gB,q8⟩
   .rw [if_pos (by rw [hfi,hus,bne,hno,hio];rfl)] at hn2;have hnM:R++qw (nP p b c) (x+1)=R++qw (nP p b c) x++[(x:Int)]:=by rw [hn2,nS]
    generalize R++qw (nP p b c) x=M at hp5 hnM
    all_goals have fx:=qQ h0 h1 h5 hp5 h7 h20 hx8 hx8' hus hO hno hol<|j4 hsg hse hio<|@qT
    repeat' (first|refine qK ?_|refine λ(K:St->Prop) hK=>?_|refine qP (hF:=cN _ p c q x hx8) (h:=?_)|refine qP (hF:=zM _ p hp c q hq x hx8) (h:=?_)|refine qP (hF:=cX _ p hh o qo hqo b) (h:=?_))
    all_goals try clear fx
    refine⟨8 - (x+1),qA,x+1,rfl,qA,qu,qz,zA,?_,yW,vo,eM,gB,q8⟩;rw [hnM];simp [<- wi (l:=M) (y:=(x:Int)) rfl hx8]
  .have hge:x=8:=qA;subst hge;rw [<- hnext] at hp5;refine qD ?_<|kG h1 h5 hp5 h10 h11 h12<|h20;exact⟨p.length - (c+1),qA,c+1,rfl,qA,qu,qz,zA,uz,vo,eM,ci⟩
 .have hge:c=p.length:=qA;subst hge;have fx:=j4 h5 hp5 h11<|h12;have d1:=pI gl (pW p b p.length);refine qI ?_;clear fx d1;exact zq (t:=4) zT zT qB
theorem Kw (gl) (p:YU) (hp:Y1 p) (b:Nat) (k:Y4) (hk:p[b]?=some k):qX prog gl 115 [fp p,iv b] (λr y H'=>y=.hs r 1 0 (yp p b).length/\H' r=some (.row 1 (qS (yp p b)))):=by
 have hh:=hp.Y9;obtain⟨Ym,hbE⟩:=gS hk
 have hb0:k.kind=1->0<b:=by
  intro hk1;rcases iR b with e|e
  .rw [e] at hk;have:=(hp.Ze hk).2 rfl;omega
  .exact e
 have hsg:=ue (p:=p) Ym;rw [jd hh hk] at hsg;obtain⟨_,hse⟩:=gS hsg;have hfl:=j7 (p:=p) (b:=b);rw [<- CK hh hk hb0];refine qX.Yb func115 [.tmp 4] ntmps115 λC w g root=>?_;have fx:=Ya;have d1:=fL gl p hp b Ym;refine qI ?_;clear fx d1;refine qR (λn st=>∃ x:Nat,n=8 - x/\x<=8/\st.tm 0=fp p/\st.tm 1=iv b/\st.tm 5=.pt (.s 5) 0/\st.hp (.s 5)=some (.row 8 [ye (qw (sZ p b) x)])/\st.tm 6=.hs (.s 6) 1 0 (qN p b).length/\st.hp (.s 6)=some (.row 1 (qS (qN p b)))/\st.tm 11=iv x) 8 ?_ ?_
 .exact⟨0,qA,qA,qB,qB,qB,by simp [qw];rfl,qB,qB,qB⟩
 rintro n st - - ⟨x,rfl,hx,h0,h1,h5,hp5,h6,hp6,h11⟩;by_cases hx8:x<8
 .have hx8':(x:Int)<8:=qA;have hput:=QI (f:=sZ p b) hx8;have hsx:sZ p b x=(k.kind != 1||qr b k x||qq (qN p b) x != -1):=by simp [sZ,hk]
  rw [hsx] at hput;have hlf:=yz gl b k (zp p k.parent) k.params x hx8
  cases hk1:(k.kind==1)
  .have hb1:(k.kind != 1)=true:=by simp [bne,hk1]
   rw [hb1] at hput;simp only [BS] at hput;refine qD ?_<|qQ h0 h1 h5 hp5 h6 hp6 h11 hx8 hx8' hsg hse Ym<|aI hb1<|hk1;exact⟨8 - (x+1),qA,x+1,rfl,qA,qu,qz,zA,by simp [hput],zL,va,q8⟩
  .have hb1:(k.kind != 1)=false:=by simp [bne,hk1]
   have hkk:k.kind=1:=ri
   have hle:(k.kind != 0&&decide ((x:Int)∈k.bd)&&!(decide ((x:Int)∈k.dc 9)||decide ((x:Int)∈k.dc 10)))=qr b k x:=by
    simp [qr,hkk,hb0 hkk,Bool.and_assoc]
   rw [hle] at hlf;rw [hb1] at hput;simp only [Bool.false_or] at hput
   cases hl:qr b k x
   .rw [hl] at hlf hput;simp only [Bool.false_or] at hput;have fx:=qQ h0 h1 h5 hp5 h6 hp6 h11 hx8 hx8' hsg hse Ym<|aI hb1<|hk1;have c1:=hlf;have c2:=kY gl (qN p b) x qA;refine qI ?_;clear fx c1 c2;exact⟨8 - (x+1),qA,x+1,rfl,qA,qu,qz,zA,by simp;exact hput,zL,va,q8⟩
   .rw [hl] at hlf hput;simp only [BS] at hput;have fx:=qQ h0 h1 h5 hp5 h6 hp6 h11 hx8 hx8' hsg hse Ym<|aI hb1<|hk1;have c1:=hlf;refine qI ?_;clear fx c1;exact⟨8 - (x+1),qA,x+1,rfl,qA,qu,qz,zA,by simp [hput],zL,va,q8⟩
 .have hge:x=8:=qA;subst hge;have fx:=jD h5 hp5<|h11;have d1:=pI gl (qw (sZ p b) 8);refine qI ?_;clear fx d1;exact zq (t:=4) zT zT qB
theorem Ot (gl) (H:Nm->Option AO) (F:Nat) (p:YU) (W:YY) (a x:Nat) (hP:Y1 p) (hw:Yx p W) (ha:a<W.YR.length) (hx:x<8) (h0:W.en=0) (hO:YX H F p W) :
  Yc prog gl 191 DM [.pt Mn 0,ptE a,iv x] H (λ_ y H'=>y=.Zg [Y6.av (jM p W a x).2,bv (decide ((jM p W a x).1.en=0))]/\YX H' F p (jM p W a x).1) Yz:=by
 have hh:=hP.Y9;have hx7:0<=(x:Int)/\(x:Int)<=7:=qA;obtain⟨hnm,hil⟩:=AF (x:=(x:Int)) hh hw ha;have hT:=hO.top;simp only [uF] at hT;obtain⟨c,hc⟩:=gX ha;have hE:=hO.env a c hc;refine Yc.Yb func191 [.cell 6 63,.tmp 7] ntmps191 (λ_=>qJ) λC w g root hroot=>?_;refine qD ?_<|Ya;intro K hK;have fx:=Ya;refine j9 hO (have om:=hO;YX.re om) (qp _) (qp _) (hF:=λhs=>gp _ _ F p W a x hP hw ha hx hs) (h:=?_);rintro y H1 ⟨rfl,hO1⟩;clear fx;have hT1:=hO1.top;simp only [uF] at hT1;obtain⟨o,ho⟩:∃ o,qh p (W.YS a) x=o:=⟨_,rfl⟩;obtain⟨l,hl⟩:∃ l,W.loc p a x=l:=⟨_,rfl⟩;rw [hl] at hnm hil ⊢;rw [ho];obtain⟨i,hi⟩:∃ i,A0 l=i:=⟨_,rfl⟩;rw [hi] at hnm hil ⊢;obtain⟨d,hd⟩:=gX hil;have hE1:=hO1.env i d hd;simp only [yE] at hE1;obtain⟨ms,hms,hmo⟩:=hO1.Z4 i hil;rw [hnm] at hmo;have hlk:=hmo.get' hx7
 cases hg:W.get l x with
 | some v =>
  rw [hg] at hlk;have hlw:jM p W a x=(W,v):=by simp only [jM,hl,hg]
  refine qD ?_<|kH hT hE hT1 hE1 hms<|hlk;rw [hlw];refine qE [] .nil qF ⟨qu,YX.fin (have om:=hO1;YX.re om)⟩
 | none =>
  rw [hg] at hlk;by_cases h4:Hm.ZO p (W.YS a) o=4
  .have h4b:(Hm.ZO p (W.YS a) o==4)=true:=by simpa using h4
   obtain⟨a0,h00,hb0⟩:=hw.a0;have hl0:=(gS h00).1;have hE0:=hO1.env 0 a0 h00;simp only [yE] at hE0;obtain⟨mg,hmg,hgo⟩:=hO1.Z4 0 hl0;have hgo':ZZ mg (W.vars none):=by simpa [YY.Z4,YY.vars] using hgo
   have hlg:=hgo'.get' hx7
   cases hg2:W.get none x with
   | some v =>
    rw [hg2] at hlg;have hlw:jM p W a x=(W,v):=by simp only [jM,hl,ho,hg,h4,if_true,hg2]
    refine qD ?_<|jP hT hE hT1 hE1 hms hlk h4b hE0 hmg hlg<|@qT;rw [hlw];refine qE [] .nil qF ⟨qu,YX.fin (have om:=hO1;YX.re om)⟩
   | none =>
    rw [hg2] at hlg;by_cases h7:x=7
    .subst h7;have hlw:jM p W a ((7:Nat):Int)=(W,(1,70)):=by simp only [jM,hl,ho,hg,h4,if_true,hg2];simp
     have hlk7:lk (7:Int) ms=none:=hlk;have hlg7:lk (7:Int) mg=none:=hlg;refine qD ?_<|jP hT hE hT1 hE1 hms hlk7 h4b hE0 hmg hlg7<|@qT;rw [hlw];refine qE [] .nil qF ⟨qu,YX.fin (have om:=hO1;YX.re om)⟩
    .have h7i:¬ (x:Int)=7:=qA;have h7b:((x:Int)==7)=false:=by simpa using h7i
     have hlw:jM p W a x=({ W with en:=4 },(0,0)):=by
      simp only [jM,hl,ho,hg,h4,if_true,hg2,h7i,if_false]
     refine qD ?_<|jP hT hE hT1 hE1 hms hlk h4b hE0 hmg hlg<|aI h7b<|@qT;intro K hK;have fx:=aI hT (aI hE hT1);refine j9 hO (have om:=hO1;YX.re om) (qp _) (qp _) (hF:=λhs=>bJ _ _ F p W 4 hs) (h:=?_);rintro y H2 ⟨rfl,hO2⟩;clear fx;have hT2:=hO2.top;simp only [uF] at hT2;refine qD ?_<|yl hT hE hT1 hE1<|hT2;rw [hlw];refine qE [] .nil qF ⟨qB,YX.fin (have om:=hO2;YX.re om)⟩
  .have h4b:(Hm.ZO p (W.YS a) o==4)=false:=by simpa using h4
   have hlw:jM p W a x=({ W with en:=Hm.ZO p (W.YS a) o },(0,0)):=by simp only [jM,hl,ho,hg,h4,if_false]
   have hne:¬ Hm.ZO p (W.YS a) o=0:=go;refine qD ?_<|ko hT hE hT1 hE1 hms hlk h4b<|@qT;intro K hK;have fx:=aI hT (aI hE hT1);refine j9 hO (have om:=hO1;YX.re om) (qp _) (qp _) (hF:=λhs=>bJ _ _ F p W (Hm.ZO p (W.YS a) o) hs) (h:=?_);rintro y H2 ⟨rfl,hO2⟩;clear fx;have hT2:=hO2.top;simp only [uF] at hT2;refine qD ?_<|yl hT hE hT1 hE1<|hT2;rw [hlw];refine qE [] .nil qF ⟨by simp [hne],YX.fin (have om:=hO2;YX.re om)⟩
theorem Sq (gl) (H:Nm->Option AO) (F:Nat) (p:YU) (W:YY) (a x:Nat) (hP:Y1 p) (hw:Yx p W) (ha:a<W.YR.length) (hx:x<8) (h0:W.en=0) (hO:YX H F p W) :
  Yc prog gl 192 DM [.pt Mn 0,ptE a,iv x] H (λ_ y H'=>y=bv (decide ((fb p W a x).en=0))/\YX H' F p (fb p W a x)) Yz:=by
 have hh:=hP.Y9;have hx7:0<=(x:Int)/\(x:Int)<=7:=qA;obtain⟨hnm,hil⟩:=AF (x:=(x:Int)) hh hw ha;have hT:=hO.top;simp only [uF] at hT;obtain⟨c,hc⟩:=gX ha;have hE:=hO.env a c hc;refine Yc.Yb func192 [.tmp 6] ntmps192 (λ_=>qJ) λC w g root hroot=>?_;refine qD ?_<|Ya;intro K hK;have fx:=Ya;refine j9 hO (have om:=hO;YX.re om) (qp _) (qp _) (hF:=λhs=>gp _ _ F p W a x hP hw ha hx hs) (h:=?_);rintro y H1 ⟨rfl,hO1⟩;clear fx;have hT1:=hO1.top;simp only [uF] at hT1;obtain⟨o,ho⟩:∃ o,qh p (W.YS a) x=o:=⟨_,rfl⟩;obtain⟨l,hl⟩:∃ l,W.loc p a x=l:=⟨_,rfl⟩;have hnm0:=hnm;rw [hl] at hnm hil ⊢;rw [ho];obtain⟨i,hi⟩:∃ i,A0 l=i:=⟨_,rfl⟩;rw [hi] at hnm hil ⊢;obtain⟨d,hd⟩:=gX hil;have hE1:=hO1.env i d hd;simp only [yE] at hE1;obtain⟨ms,hms,hmo⟩:=hO1.Z4 i hil;rw [hnm] at hmo;have hlk:=hmo.get' hx7
 cases hg:W.get l x with
 | none =>
  rw [hg] at hlk
  have hlw:fb p W a x={ W with en:=Hm.ZO p (W.YS a) o }:=by
   unfold fb;rw [hl,hg,ho]
  have hne:¬ Hm.ZO p (W.YS a) o=0:=go;refine qD ?_<|kG hT hE hT1 hE1 hms hlk<|@qT;intro K hK;have fx:=aI hT (aI hE hT1);refine j9 hO (have om:=hO1;YX.re om) (qp _) (qp _) (hF:=λhs=>bJ _ _ F p W (Hm.ZO p (W.YS a) o) hs) (h:=?_);rintro y H2 ⟨rfl,hO2⟩;clear fx;have hT2:=hO2.top;simp only [uF] at hT2;refine qD ?_<|yl hT hE hT1 hE1<|hT2;rw [hlw];refine qE [] .nil qF ⟨by simp [hne],YX.fin (have om:=hO2;YX.re om)⟩
 | some v =>
  rw [hg] at hlk
  have hlw:fb p W a x=W.set l x none:=by
   unfold fb;rw [hl,hg]
  refine qD ?_<|kG hT hE hT1 hE1 hms hlk<|@qT;intro K hK;refine uD (λst=>st.tm 35=.mp (.c (En i) 0 1)/\st.tm 36=iv x/\st.hp (.c (En i) 0 1)=some (.map (kL ms))/\YX st.hp F p W) ⟨by simp [hT,hE],qB,by simp [hms],(have om:=hO1;YX.re om)⟩ ?_;rintro st ⟨t35,t36,hms',hO2⟩;have fx:=aI t35 (aI t36 hms');refine Ge (h:=?_);clear fx;refine qD ?_<| hT;rw [hlw];refine qE [] .nil qF ⟨by rw [ag.2.2.2.2.2.2];simp [h0],YX.fin (xy hh hw ha hx hl hnm0 hO2 (hmo.del hx7) λm hm=>?_)⟩;rw [hi];simp
abbrev XW:Y8:=oa<|.l 13 [12,11,10,9,8,7,6,5,4,3,2,1,0]<|.l 14 [12]<|.l 15 []<|.done
theorem KT {v:Int} (hv:0<=v):∃ k:Nat,v.tmod 1000=k/\k<1000:=by
 have h1:=Int.tmod_nonneg 1000 hv;have h2:=Int.tmod_lt_of_pos v (show (0:Int)<1000 by omega);exact⟨(v.tmod 1000).toNat,qA,qA⟩
theorem VR (gl) (H:Nm->Option AO) (F:Nat) (p:YU) (W:YY) (u v:Y6) (h0:W.en=0) (hu:ZQ W.YT.length W.YP.length u) (hv:ZQ W.YT.length W.YP.length v) (hO:YX H F p W) :
  Yc prog gl 219 DM [.pt Mn 0,Y6.av u,Y6.av v] H (λ_ y H'=>y=.Zg [Y6.av (a7 W u v).2,bv (decide ((a7 W u v).1.en=0))]/\YX H' F p (a7 W u v).1) Yz:=by
 have hT:=hO.top;simp only [uF] at hT;obtain⟨u1,u2⟩:=u;obtain⟨v1,v2⟩:=v;have hu2:=hu.num;have hv2:=hv.num;simp only at hu2 hv2;have hwr:IntKind.i64.wrap (u2+v2)=u2+v2:=Yi qA qA;obtain⟨q,hq,hql⟩:=KT (v:=u2+v2) qA;have hwq:IntKind.i64.wrap (q:Int)=q:=Yi qA qA;refine Yc.Yb func219 [.cell 6 63,.tmp 7] ntmps219 (λ_=>qJ) λC w g root hroot=>?_;by_cases h1:u1=1
 .by_cases h2:v1=1
  .subst h1;subst h2;have hlw:a7 W (1,u2) (1,v2)=(W,(1,(q:Int))):=by simp [a7,hq]
   refine qD ?_<|yl hT hwr hq hwq<|@qT;rw [hlw];refine qE [] .nil qF ⟨qu,YX.fin (have om:=hO;YX.re om)⟩
  .subst h1;have hb2:(v1==1)=false:=mJ;have hlw:a7 W (1,u2) (v1,v2)=({ W with en:=5 },(0,0)):=by simp [a7,h2]
   refine qD ?_<|jD hT hb2<|@qT;intro K hK;have fx:=hT;refine j9 hO (have om:=hO;YX.re om) (qp _) (qp _) (hF:=λhs=>bJ _ _ F p W 5 hs) (h:=?_);rintro y H2 ⟨rfl,hO2⟩;clear fx;have hT2:=hO2.top;simp only [uF] at hT2;refine qD ?_<|aI hT<|hT2;rw [hlw];refine qE [] .nil qF ⟨qB,YX.fin (have om:=hO2;YX.re om)⟩
 .have hb1:(u1==1)=false:=BA;have hlw:a7 W (u1,u2) (v1,v2)=({ W with en:=5 },(0,0)):=by simp [a7,h1]
  refine qD ?_<|jD hT hb1<|@qT;intro K hK;have fx:=hT;refine j9 hO (have om:=hO;YX.re om) (qp _) (qp _) (hF:=λhs=>bJ _ _ F p W 5 hs) (h:=?_);rintro y H2 ⟨rfl,hO2⟩;clear fx;have hT2:=hO2.top;simp only [uF] at hT2;refine qD ?_<|aI hT<|hT2;rw [hlw];refine qE [] .nil qF ⟨qB,YX.fin (have om:=hO2;YX.re om)⟩
theorem eD {A G G2:Prop} (k:G2) (x:A) (h:A->Yr G2->G:=by
 intro fx kk;refine qI ?_
 repeat ((first|refine Y7 (id:=3) XW mixed ?_);refine qW ?_;refine qI ?_)
 exact kk.h):G:=h x ⟨k⟩
theorem Dm (gl) (H:Nm->Option AO) (F:Nat) (p:YU) (W:YY) (v:Y6) (x:Nat) (h0:W.en=0) (hw:Yx p W) (hv:ZQ W.YT.length W.YP.length v) (hx:x<8) (hO:YX H F p W) :
  Yc prog gl 223 DM [.pt Mn 0,Y6.av v,iv x] H (λ_ y H'=>y=.Zg [Y6.av (wj W v x).2,bv (decide ((wj W v x).1.en=0))]/\YX H' F p (wj W v x).1) Yz:=by
 have hT:=hO.top;simp only [uF] at hT;obtain⟨v1,v2⟩:=v;refine Yc.Yb func223 [.cell 6 63,.tmp 7] ntmps223 (λ_=>qJ) λC w g root hroot=>?_;by_cases h1:v1=3
 .subst h1;have hv2:=hv.num;have hv3:=hv.cls rfl;simp only at hv2 hv3;obtain⟨i,rfl⟩:∃ i:Nat,v2=i:=⟨v2.toNat,qA⟩;have hil:i<W.YP.length:=qA;obtain⟨c,hc⟩:=gX hil;have hC:=hO.Yt;obtain⟨ms,hms,hmo⟩:=hO.cls i c hc;have hcl:=(hw.cls c (gM hc)).1;obtain⟨s,hs⟩:∃ s,c[x]?=some s:=⟨_,gE qA⟩
  have hlk:lk (x:Int) ms=s:=by
   rw [hmo.at qA];simp [hs]
  cases s with
  | some u =>
   have hlw:wj W (3,(i:Int)) x=(W,u):=by simp [wj,hc,hs]
   refine eD ?_<|kH hT hC hms hil hlk<|@qT;rw [hlw];refine qE [] .nil qF ⟨qu,YX.fin (have om:=hO;YX.re om)⟩
  | none =>
   have hlw:wj W (3,(i:Int)) x=({ W with en:=7 },(0,0)):=by simp [wj,hc,hs]
   refine eD ?_<|kH hT hC hms hil hlk<|@qT;intro K hK;have fx:=hT;refine j9 hO (have om:=hO;YX.re om) (qp _) (qp _) (hF:=λhs=>bJ _ _ F p W 7 hs) (h:=?_);rintro y H2 ⟨rfl,hO2⟩;clear fx;have hT2:=hO2.top;simp only [uF] at hT2;refine eD ?_<|aI hT<|hT2;rw [hlw];refine qE [] .nil qF ⟨qB,YX.fin (have om:=hO2;YX.re om)⟩
 .have hb1:(v1==3)=false:=BA;have hlw:wj W (v1,v2) x=({ W with en:=5 },(0,0)):=by simp [wj,h1]
  refine eD ?_<|jD hT hb1<|@qT;intro K hK;have fx:=hT;refine j9 hO (have om:=hO;YX.re om) (qp _) (qp _) (hF:=λhs=>bJ _ _ F p W 5 hs) (h:=?_);rintro y H2 ⟨rfl,hO2⟩;clear fx;have hT2:=hO2.top;simp only [uF] at hT2;refine eD ?_<|aI hT<|hT2;rw [hlw];refine qE [] .nil qF ⟨qB,YX.fin (have om:=hO2;YX.re om)⟩
theorem Im (gl) (H:Nm->Option AO) (F:Nat) (p:YU) (W:YY) (a:Nat) (s:Y5) (hP:Y1 p) (hw:Yx p W) (ha:a<W.YR.length) (h0:W.en=0) (hkd:0<=s.kind/\s.kind<=11) (hrd:∀ x∈s.reads,0<=x/\x<=7) (hO:YX H F p W) :
  Yc prog gl 156 DM [.pt Mn 0,ptE a,s.av] H (λr y H'=>YX H' F p (qf p W a s.reads).1/\(((qf p W a s.reads).1.en=0/\y=.Zg [.hs r 2 0 (qf p W a s.reads).2.length,bv true]/\H' r=some (.row 2 (zf (qf p W a s.reads).2)))\/((qf p W a s.reads).1.en≠0/\y=.Zg [.hs r 2 0 0,bv false]))) Yz:=by
 have hT:=hO.top;simp only [uF] at hT;obtain⟨c,hc⟩:=gX ha;have hE:=hO.env a c hc;have hrl:=Y5.ZT s;refine Yc.Yb func156 [.tmp 6,.tmp 7] ntmps156 (λ_=>qJ) λC w g root hroot=>?_;have hr0:=hroot root (Nm.Y0 _);have fx:=Ya;have c1:=jk gl s;refine qI ?_;clear fx c1;intro K hK;have fx:=Ya;refine KI (hF:=oj _ qM s hkd) (h:=?_);clear fx;refine qD ?_<|Ya;refine qR (λn st=>∃ (i:Nat) (V:YY) (vs:List Y6),n=s.reads.length - i/\i<=s.reads.length/\vs.length=i/\qf p W a s.reads=((qf p V a (s.reads.drop i)).1,vs++(qf p V a (s.reads.drop i)).2)/\Yx p V/\V.en=0/\a<V.YR.length/\W.YR.length<=V.YR.length/\W.YT.length<=V.YT.length/\st.tm 0=.pt Mn 0/\st.tm 1=ptE a/\st.tm 15=.hs (.s 15) 1 0 s.reads.length/\st.hp (.s 15)=some (.row 1 (qS s.reads))/\st.tm 16=iv s.reads.length/\st.tm 17=iv i/\st.tm 8=.hs (.s 8) 2 0 vs.length/\st.hp (.s 8)=some (.row 2 (zf vs))/\YX st.hp F p V) s.reads.length ?_ ?_
 .exact⟨0,W,[],qA,qA,rfl,qB,hw,h0,ha,qp _,qp _,qB,qB,qB,qB,qB,qB,qB,qB,(have om:=hO;YX.re om)⟩
 rintro n st - - ⟨i,V,vs,rfl,hi,hvl,hres,hV,hen,haV,hl1,hl2,t0,t1,t15,hp15,t16,t17,t8,hp8,hO1⟩;have hT1:=hO1.top;simp only [uF] at hT1;obtain⟨d,hd⟩:=gX haV;have hE1:=hO1.env a d hd;by_cases hil:i<s.reads.length
 .obtain⟨x,hx⟩:=gX hil;obtain⟨_,hxE⟩:=gS hx;obtain⟨hx0,hx7⟩:=hrd x (gM hx);obtain⟨X,rfl⟩:∃ X:Nat,x=X:=⟨x.toNat,qA⟩;have hdr:s.reads.drop i=(X:Int)::s.reads.drop (i+1):=by rw [BV hil,hxE]
  have hstep:qf p V a (s.reads.drop i)=((qf p (jM p V a X).1 a (s.reads.drop (i+1))).1,(jM p V a X).2::(qf p (jM p V a X).1 a (s.reads.drop (i+1))).2):=by
   rw [hdr];simp only [qf];rw [if_neg (by rw [hen];decide)]
  obtain⟨hA,_,_⟩:=AM (a:=a) (x:=(X:Int)) hV;have hl3:vs.length<=2:=qA;have hrf:=Ot gl (F:=F) (p:=p) (W:=V) (a:=a) (x:=X);generalize hq:jM p V a X=q at hstep hA hrf;obtain⟨V',v⟩:=q;simp only at hstep hA hrf;refine qD ?_<|jP t0 t1 t15 hp15 t16 t17 t8 hp8 hil hx<|hxE;intro K hK;have fx:=aI t0 (aI t1 hT1);refine j9 hO (have om:=hO1;YX.re om) hl1 hl2 (hF:=λhs=>hrf _ hP hV haV qA hen hs) (h:=?_);rintro y H2 ⟨rfl,hO2⟩;clear fx;have hT2:=hO2.top;simp only [uF] at hT2;by_cases hen2:V'.en=0
  .obtain⟨v1,v2⟩:=v;refine qD ?_<|qQ t0 t1 t15 hp15 t16 t17 t8 hp8 hT1 hE1 hT2 hen2<|hl3;refine⟨s.reads.length - (i+1),qA,i+1,V',vs++[(v1,v2)],rfl,qA,by simp [hvl],?_,hA.ok,hen2,ac haV hA.grow.Zl,uS hl1 hA.grow.Zl,uS hl2 hA.grow.qB9,by simp [t0,hT1],by simp [t1,hE1],by simp [t15],by simp [hp15],by simp [t16],by simp [t17];exact Yi qA qA,qB,iM,⟨by simp [hO2.top,uF,hen2],⟨by simp [hO2.scs.top,hen2],λj k hj hk=>by simp [hO2.scs.sc j k hj hk,hen2]⟩,by simp [hO2.out,hen2],by simp [hO2.Zb,hen2],hO2.run.imp λl hl=>⟨hl.1,by simp [hl.2,hen2]⟩,by simp [hO2.YT,hen2],λk g hg=>by simp [hO2.bx k g hg,hen2],by simp [hO2.Yt,hen2],λk c hc=>(hO2.cls k c hc).imp λms hm=>⟨At,hm.2⟩,λi a ha=>by simp [hO2.env i a ha,hen2],λi hi=>(hO2.Z4 i hi).imp λms hm=>⟨At,hm.2⟩,λk i j hk hn=>if e:k=1/\i=0/\j=0 then .inl e else hO2.only k i j hk cG⟩⟩;rw [hres,hstep];simp
  .have hend:(qf p W a s.reads).1=V':=by
    rw [hres,hstep]
    cases hl:s.reads.drop (i+1) with
    | nil=>rfl
    | cons y l=>simp only [qf];rw [if_pos hen2]
   obtain⟨v1,v2⟩:=v;refine qD ?_<|qQ t0 t1 t15 hp15 t16 t17 t8 hp8 hT1 hE1 hT2 hen2<|hl3;refine qE [(.s 6,root)] (.one rfl) qF ⟨by rw [hend];exact YX.fin (have om:=hO2;YX.re om),.inr ⟨by rw [hend];exact hen2,qB⟩⟩
 .have hge:i=s.reads.length:=qA
  have hend:qf p W a s.reads=(V,vs):=by
   rw [hres,hge];simp [qf]
  rw [hend];refine qD ?_<|er t0 t1 t15 hp15 t16 t17 t8 hp8<|hil;refine qE [(.s 6,root)] (.one rfl) qF ⟨YX.fin (have om:=hO1;YX.re om),.inl ⟨hen,qB,by simp [hp8,hr0]⟩⟩
abbrev Rx:Y8:=bK<|.l 14 []<|.done
def QV (gl:Nat->Option (List AV)) (F:Nat) (p:YU) (n:Nat):Prop:=∀ (H:Nm->Option AO) (W:YY) (a:Nat),YX H F p W->Yx p W->W.left<n->a<W.YR.length->W.en=0->H (.u 2 0 0)=none ->
 Yc prog gl 101 DM [.pt Mn 0,ptE a] H (λ_ y H'=>y=.Zg [Y6.av (jv p n W a).2,bv (decide ((jv p n W a).1.en=0))]/\YX H' F p (jv p n W a).1) Yz
theorem D4 (gl) (F:Nat) (p:YU) (n:Nat) (hR:QV gl F p n) (H:Nm->Option AO) (W:YY) (b up:Nat) (vs:List Y6) (hP:Yl p) (hw:Yx p W) (hn:W.left<n) (h0:W.en=0) (hm:jG p W.YR b up) (hv:∀ v∈vs,ZQ W.YT.length W.YP.length v) (hr:Room 1 W)
  (hO:YX H F p { qk p W b up vs with stack:=W.stack }) (hV:H (.u 2 0 0)=none) :
  Yc prog gl 236 DM [.pt Mn 0,ptE W.YR.length] H (λ_ y H'=>y=.Zg [Y6.av (qx p (jv p n) W b up vs).2,bv (decide ((qx p (jv p n) W b up vs).1.en=0))]/\YX H' F p (qx p (jv p n) W b up vs).1) Yz:=by
 have hT:=hO.top;obtain⟨sl,hslb,hS⟩:=hO.run;simp only [uF] at hT;obtain⟨hok,hgr⟩:=kC hw hm hv hr;have hl2:=hr.Z7;have hsl:W.stack.length<=1000:=qA;have hlen:W.YR.length<(qk p W b up vs).YR.length:=gF;obtain⟨c,hc⟩:=gX hlen;have hE:=hO.env W.YR.length c hc;have hap:zC W.stack++[[ptE W.YR.length]]=zC (W.stack++[W.YR.length]):=JV;have hst:(qk p W b up vs).stack=W.stack++[W.YR.length]:=rfl;refine Yc.Yb func236 [.cell 4 63,.tmp 5] ntmps236 (λ_=>qJ) λC w g root hroot=>?_;have fx:=jD hT hS<|hsl;refine qI ?_
 repeat ((first|refine Y7 (id:=4) Rx mixed ?_);refine qW ?_;refine qI ?_)
 clear fx;intro K hK;have fx:=aI hT hE;have hBo:∀ hp:Nm->Option AO,YX hp F p (qk p W b up vs)->YX hp F p (qk p W b up vs):=λ_ h=>h;refine j9 hO (w:=qk p W b up vs) ⟨by simp [uF,hT,hst],⟨ao,λj k hj hk=>au⟩,ma,rR,⟨[],qB,by simp [hst,<- hap]⟩,r7,λk g hg=>by simp [hO.bx k g hg],by simp [hO.Yt],λk c hc=>(hO.cls k c hc).imp λms hm=>⟨vN,hm.2⟩,λi a ha=>eN,λi hi=>(hO.Z4 i hi).imp λms hm=>⟨vN,hm.2⟩,λk i j hk hn=>if e:k=1/\i=0/\j=0 then .inl e else hO.only k i j hk cG⟩ (qp _) (qp _) (hF:=λhs=>hR _ (qk p W b up vs) W.YR.length hs hok hn hlen h0 qB) (h:=?_);rintro y H1 ⟨rfl,hO1⟩;clear fx;obtain⟨hAf,hvok⟩:=aC hP.sh n (qk p W b up vs) W.YR.length hok hn hlen h0;have hent:qx p (jv p n) W b up vs=(xA (jv p n (qk p W b up vs) W.YR.length).1,(jv p n (qk p W b up vs) W.YR.length).2):=rfl;generalize jv p n (qk p W b up vs) W.YR.length=q at hO1 hAf hvok hent;obtain⟨V,v1,v2⟩:=q;simp only at hO1 hAf hvok hent;have hT1:=hO1.top;obtain⟨sl1,hslb1,hS1⟩:=hO1.run;simp only [uF] at hT1;by_cases hen:V.en=0
 .have hstk:V.stack=W.stack++[W.YR.length]:=hAf.Z7 hen;have hsl1:V.stack.length=W.stack.length+1:=by rw [hstk];simp
  have hwr:IntKind.i64.wrap (W.stack.length:Int)=W.stack.length:=Yi qA qA
  have hend:xA V={ V with stack:=W.stack }:=by
   unfold xA;rw [if_pos hen,hstk];simp
  have hslb2:∀ i∈W.YR.length::sl1,i<V.YR.length:=by
   intro i hi;have:=hAf.grow.Zl;rcases wH.1 hi with e|e
   .omega
   .exact hslb1 i e
  have hle1:(W.stack.length:Int)<=(W.stack.length:Int)+1:=qA;have hle0:(0:Int)<=(W.stack.length:Int):=qA;rw [hend] at hent;rw [hsl1] at hT1;have fx:=ko hT hE hT1 hS1 hen hwr hle1<|hle0;refine qI ?_
  repeat ((first|refine Y7 (id:=4) Rx mixed ?_);refine qW ?_;refine qI ?_)
  clear fx;rw [hent];refine qE [] .nil qF ⟨by simp [hen],YX.fin ⟨by simp [uF,hen],⟨by simp [hO1.scs.top],λj k hj hk=>GC⟩,by simp [hO1.out],by simp [hO1.Zb],⟨W.YR.length::sl1,hslb2,by simp [hS1,hstk]⟩,by simp [hO1.YT],λk g hg=>by simp [hO1.bx k g hg],by simp [hO1.Yt],λk c hc=>(hO1.cls k c hc).imp λms hm=>⟨vN,hm.2⟩,λi a ha=>by simp [hO1.env i a ha],λi hi=>(hO1.Z4 i hi).imp λms hm=>⟨vN,hm.2⟩,λk i j hk hn=>if e:k=1/\i=0/\j=0 then .inl e else hO1.only k i j hk cG⟩⟩
 .have hend:xA V=V:=by
   unfold xA;rw [if_neg hen]
  rw [hend] at hent;have fx:=j4 hT hE hT1<|hen;refine qI ?_
  repeat ((first|refine Y7 (id:=4) Rx mixed ?_);refine qW ?_;refine qI ?_)
  clear fx;rw [hent];refine qE [] .nil qF ⟨by simp [hen],YX.fin (have om:=hO1;YX.re om)⟩
abbrev Uh:Y8:=aB<|.l 9 [8,7,6,5,4,3,2,1,0]<|.l 10 []<|.done
abbrev Ug:Y8:=aB<|.l 9 [4,3,2,1,0]<|.l 10 [0]<|.q 11<|.q 12<|.l 13 []<|.done
@[simp] theorem cells_fn {f:Fn} {xs ys:List AV}:(AV.fn f xs ys).cells=some [.fn f xs ys]:=rfl
@[simp] theorem one_fnav {f:Fn} {xs ys:List AV}:(AV.fn f xs ys).one=true:=rfl
@[simp] theorem one_nfn:(AV.sc .nilFunc).one=true:=rfl
@[simp] theorem fn_tsz:Yh prog 301=1:=qM
@[simp] theorem fn_agg:kF prog 301=some false:=qM
theorem FM {F:Nat} {p:YU} {l:List (Nat×Nat)} {g:List AV->List AV} (h:∀ (i:Nat) c,l[i]?=some c->g (Mk F p i c)=Mk F p i c):(yy F p l).map g=yy F p l:=by
 apply aW;intro j;rw [kU,pj]
 cases hj:l[j]? with
 | none=>rfl
 | some a=>simp only [bU];rw [h j a hj]
theorem FB (gl) (H:Nm->Option AO) (p:YU) (W:YY) (a b:Nat) (k:Y4) (hw:Yx p W) (ha:a<W.YR.length) (hk:p[b]?=some k) (hr:Room 1 W) (hpl:k.params.length<=1000) (hO:YX H 235 p W) :
  Yc prog gl 220 DM [.pt Mn 0,ptE a,iv b] H (λ_ y H'=>y=Y6.av (2,(W.YT.length:Int))/\YX H' 235 p { W with YT:=W.YT++[(b,a)] }) Yz:=by
 have hT:=hO.top;have hF:=hO.YT;simp only [uF] at hT;obtain⟨Ym,hkE⟩:=gS hk;obtain⟨c,hc⟩:=gX ha;have hE:=hO.env a c hc;have hfl:=hr.YT;have hfl':W.YT.length<=1000:=qA;have hwr:IntKind.i64.wrap (W.YT.length:Int)=W.YT.length:=Yi qA qA;have hpar:fH p b=k.params.length:=by simp [fH,hk]
 have hno:∀ j,H (.u 8 W.YT.length j)=none:=λj=>by
  cases e:H (.u 8 W.YT.length j) with
  | none=>rfl
  | some o =>
   rcases hO.only 8 W.YT.length j rfl sD with⟨h,_⟩|⟨h,_⟩|⟨_,h,_⟩
   .cases h
   .cases h
   .omega
 have hap:yy 235 p W.YT++[Mk 235 p W.YT.length (b,a)]=yy 235 p (W.YT++[(b,a)]):=FN;simp only [Mk,hpar] at hap;refine Yc.Yb func220 [.cell 6 63] ntmps220 (λ_=>qJ) λC w g root hroot=>?_;have fx:=j4 hT hk hkE<|Ym;refine qI ?_
 repeat ((first|refine Y7 (id:=1) Uh mixed ?_|refine Y7 (id:=2) Ug mixed ?_);refine qW ?_;refine qI ?_)
 clear fx;intro K hK;refine Ba (.s 3) (.u 8 W.YT.length 3) (.inl rfl) (.inr eS) ?_;refine Ba (.s 4) (.u 8 W.YT.length 1) (.inl rfl) (.inr eS) ?_;refine Ba (.s 5) (.u 8 W.YT.length 0) (.inl rfl) (.inr eS) ?_;refine Ba (.s 7) (.u 8 W.YT.length 2) (.inl rfl) (.inr eS) ?_;have fx:=kG hT hk hkE Ym hF hfl'<|hwr;refine qI ?_
 repeat ((first|refine Y7 (id:=1) Uh mixed ?_|refine Y7 (id:=2) Ug mixed ?_);refine qW ?_;refine qI ?_)
 clear fx;refine qE [] .nil qF ⟨qB,YX.fin ⟨by simp [uF],⟨ao,λj k hj hk=>au⟩,ma,rR,hO.run.imp λl hl=>⟨hl.1,rp⟩,?_,?_,by simp [hO.Yt],λk c hc=>(hO.cls k c hc).imp λms hm=>⟨vN,hm.2⟩,λi d hd=>by simp [hO.env i d hd],λi hi=>(hO.Z4 i hi).imp λms hm=>⟨vN,hm.2⟩,?_⟩⟩
 .simp [<- hap];rw [bC qB];refine FM λi c hc=>?_;have hne:¬ i=W.YT.length:=by have:=(gS hc).1;omega
  have hne':¬ W.YT.length=i:=qA;simp [Mk,trL,hne,hne']
 .intro i g hg;simp only at hg;rcases dS i W.YT.length with hlt|hge
  .rw [dX hlt] at hg;obtain⟨b1,b2,b3,b4⟩:=hO.bx i g hg;have hne:¬ i=W.YT.length:=qA;have hne':¬ W.YT.length=i:=qA;exact⟨by simp [b1,hne,hne'],by simp [b2,hne,hne'],by simp [b3,hne,hne'],by simp [b4,hne,hne']⟩
  .rw [kh hge] at hg
   have hi:i=W.YT.length:=by
    have:=(gS hg).1;simp at this;omega
   subst hi;simp at hg;subst hg;exact⟨qB,qB,by simp [hk],qB⟩
 .intro k' i j hk' hn;by_cases e8:k'=8/\i=W.YT.length/\j<4
  .exact .inr (.inr ⟨e8.1,qv,e8.2.2⟩)
  .by_cases e1:k'=1/\i=0/\j=0
   .exact .inl e1
   .have n0:¬ (k'=8/\i=W.YT.length/\j=0):=λe=>e8 ⟨e.1,e.2.1,qA⟩;have n1:¬ (k'=8/\i=W.YT.length/\j=1):=λe=>e8 ⟨e.1,e.2.1,qA⟩;have n2:¬ (k'=8/\i=W.YT.length/\j=2):=λe=>e8 ⟨e.1,e.2.1,qA⟩;have n3:¬ (k'=8/\i=W.YT.length/\j=3):=λe=>e8 ⟨e.1,e.2.1,qA⟩;have hn':H (.u k' i j)≠none:=by simpa [hk',e1,n0,n1,n2,n3] using hn
    rcases hO.only k' i j hk' hn' with h|h|h
    .exact .inl h
    .exact .inr (.inl h)
    .exact .inr (.inr ⟨h.1,qv,h.2.2⟩)
end Go.Proofs.YtdnebaieamppbaaGreatDoor
end
