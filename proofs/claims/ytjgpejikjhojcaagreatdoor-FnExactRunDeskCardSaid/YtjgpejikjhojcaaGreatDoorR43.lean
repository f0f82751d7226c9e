import Derived.Test.YtjgpejikjhojcaaGreatDoorR42
import Derived.Test.YtjgpejikjhojcaaGreatDoorR29
import Derived.Test.YtjgpejikjhojcaaGreatDoorR20
import Derived.Test.YtjgpejikjhojcaaGreatDoorR33
import Derived.Test.YtjgpejikjhojcaaGreatDoorR34
set_option linter.unusedSimpArgs false
set_option linter.unusedVariables false
set_option maxRecDepth 100000
set_option maxHeartbeats 4000000

section
namespace Go.Proofs.YtjgpejikjhojcaaGreatDoor
open Go Go.Hm Go.Proofs Tryz
theorem L8 {p:qC} (h:jq p=true):jt p:=by
 simp only [jq,ju] at h;obtain⟨h1,h2,h3,h4,_⟩:=Aa h.1
 have key:∀ (i:Nat) k,p[i]?=some k->uq i k/\k.body.length<=12/\k.body.all (zt p i k)=true:=λi k hk =>
  BD hk (y5.1 h4 i (gT.2 (gS hk).1))
 refine⟨qA,λk hk=>?_,λk hk=>?_⟩
 all_goals
  obtain⟨i,hi⟩:=wj hk;obtain⟨h0,hb,_⟩:=key i k hi
 .unfold uq at h0
  split at h0
  .obtain⟨_,_,h⟩:=h0;omega
  .obtain⟨_,_,_,h,_⟩:=h0;omega
 .omega
theorem Q4 (gl):qM prog gl 34 [] (λr y H'=>y=.hs r 1 0 aD.length/\H' r=some (.row 1 (uo aD))):=by
 refine qM.q9 func34 [.tmp 0] ntmps34 λC w g root=>?_;refine qJ ?_<|qd;exact y7 (t:=0) j7 j7 qB
theorem Q5 (gl):qM prog gl 34 [] (λ_ y _=>y=jd aD) :=
 (Q4 gl).settle λr y H' h=>⟨jd aD,B3,rfl⟩
theorem Uy (gl) (s:qU) (q:qC) (hs:s.length<=1048576) (hq:vn s=some q):qM prog gl 18 [tx s] (λ_ y _=>y=.zX [jB q,bv true]) :=
 (Mv gl s hs).settle λr y H' ⟨p,h1,h2,h3⟩=>⟨.zX [jB q,bv true],by rw [h1,hq,<- h3 q hq];exact ID h2,rfl⟩
theorem Z6 (gl) (p:qC) (hs:jt p):qM prog gl 47 [jB p] (λ_ y _=>y=iv (pf p)):=by
 refine qM.q9 func47 [.tmp 2] ntmps47 λC w g root=>?_
 cases hv:jq p
 .skip
  have fx:= hv;have c1:=hv ▸ tR gl p hs;refine qK ?_;clear fx c1;refine qF [] .nil qE BZ
 .have hP:=zk.of hs hv;have hm:=nL hP.sh (f:=150) qA;have hml:=hm.left;have fx:= hv;have c1:=hv ▸ tR gl p hs;refine qK ?_;clear fx c1;intro K hK;have fx:=qd;refine u0 Wn rfl tw (hF:=Ki gl _ p 150 hP qA lD) (h:=?_);rintro y H1 ⟨rfl,hO1⟩;clear fx;have hT1:=hO1.top;simp only [jP] at hT1;have hw:IntKind.i64.wrap (150 - ((uB p 150).left:Int))=150 - ((uB p 150).left:Int):=qm qA qA;refine qJ ?_<|aI hT1<|hw;refine qF [] .nil qE BZ
abbrev da:qV:=.q 0<|.q 1<|.q 2<|.q 3<|.q 5<|.q 6<|.q 7<|.l 4 [7,6,5,0]<|.l 8 [0]<|.l 9 []<|.l 10 []<|.done
abbrev db:qV:=.q 1<|.l 0 [1]<|.l 2 []<|.q 3<|.q 4<|.q 5<|.q 6<|.q 7<|.l 8 []<|.done
theorem Z4 (gl) (p:qC) (b x:Nat) (hs:jt p) (hpo:jq p=true):qM prog gl 46 [jB p,iv b,iv x] (λ_ y _=>y=iv (aZ p b x)):=by
 have hP:=zk.of hs hpo
 have hsh:uk p=true:=by
  simp only [jq,ju] at hpo;exact hpo.1
 have hvp:=tR gl p hs;rw [hpo] at hvp;have hvu:=qBF gl p b x hs;refine qM.q9 func46 [.tmp 6] ntmps46 λC w g root=>?_;by_cases h:b<p.length/\x<=7
 .obtain⟨k,hk⟩:=gX h.1;have how:=eW gl p b k x hk hs hP.sh.jj;rw [show ((uk p&&(decide (0<=(b:Int))&&decide ((b:Int)<=(p.length:Int) - 1)))&&(decide (0<=(x:Int))&&decide ((x:Int)<=7)))=true by simp [hsh];omega] at hvu;have fx:=qd;have c1:=hvp;have c2:=hvu;have c3:=how;refine qK ?_;clear fx c1 c2 c3;refine qF [] .nil qE Bb
 .rw [show ((uk p&&(decide (0<=(b:Int))&&decide ((b:Int)<=(p.length:Int) - 1)))&&(decide (0<=(x:Int))&&decide ((x:Int)<=7)))=false by
   rw [oX];intro e;simp at e;exact h ⟨qA,qA⟩] at hvu
  have fx:=qd;have c1:=hvp;have c2:=hvu;refine qK ?_;clear fx c1 c2;refine qF [] .nil qE Bb
theorem tH {s:qU} {n:Nat} (h:zq s=some n):pa s=n:=BQ
theorem li {s:qU} (h:zq s=none):pa s=-1:=BQ
theorem Oo (gl) (p:qC) (l:qU) (hs:jt p) (hpo:jq p=true) (hl:l.length<=1048577):qM prog gl 19 [jB p,tx l] (λ_ y _=>y=tx (am p l)):=by
 have hP:=zk.of hs hpo;have hsp:=G0 gl l hl;have hne:=eb (c:=32) (l:=l);have hpart:=pb (c:=32) (s:=l)
 have hA:am p l=match zM 32 l with
  | [o,a,b]=>if o=nn then (match zq a,zq b with
    | some x,some y=>l0 (aZ p x y)
    | _,_=>un p l) else un p l
  | _=>un p l:=rfl
 have h32:(32:UInt8)∉l->zM 32 l=[l]:=λh=>Ag h
 have hw3:(zM 32 l).length=3->un p l=dj/\(l==[98,108,111,99,107,115])=false/\(l==[101,110,100])=false/\(l==[115,116,101,112,115])=false/\(l==[99,101,108,108,115])=false/\(l==[102,114,97,109,101,115])=false:=by
  intro h
  have key:∀ w:qU,(32:UInt8)∉w->l≠w:=λw hw e=>by
   rw [h32 (e ▸ hw)] at h;simp at h
  have k1:=key bI qe;have k2:=key bJ qe;have k3:=key dC qe;have k4:=key ef qe;have k5:=key gF qe;exact⟨by simp [un,k1,k2,k3,k4,k5],by simpa [bI] using k1,by simpa [bJ] using k2,by simpa [dC] using k3,by simpa [ef] using k4,by simpa [gF] using k5⟩
 generalize zM 32 l=W at hsp hne hpart hA hw3;refine qM.q9 func19 [.tmp 4] ntmps19 λC w g root=>?_;by_cases hl3:W.length=3
 .obtain⟨hwA,b1,b2,b3,b4,b5⟩:=hw3 hl3
  obtain⟨o,a,b,rfl⟩:∃ o a b,W=[o,a,b]:=by
   match W,hl3 with
   | [o,a,b],_=>exact⟨o,a,b,rfl⟩
  rw [hA];clear hw3 hl3 h32 hA;have hra:=CY gl a (by have:=hpart a qB;omega);have hrb:=CY gl b (by have:=hpart b qB;omega);simp only;by_cases ho:o=nn
  .rw [if_pos ho];have e0:(o==[111,119,110,101,114])=true:=by rw [ho];rfl
   cases ha:zq a with
   | none =>
    rw [li ha] at hra;rw [hwA];have fx:=jH e0 b1 b2 b3 b4<|b5;have p1:=hsp;have c1:=hra;refine zf ?_
    repeat ((first|refine qQ (id:=3) da mixed ?_|refine qQ (id:=13) db mixed ?_);refine vU ?_;refine zf ?_)
    clear fx p1 c1;refine qF [] .nil qE ol
   | some x =>
    rw [tH ha] at hra;have hx0:(0:Int)<=x:=qA
    cases hb:zq b with
    | none =>
     rw [li hb] at hrb;simp only;rw [hwA];have fx:=jI e0 b1 b2 b3 b4 b5<|hx0;have p1:=hsp;have c1:=hra;have c2:=hrb;refine zf ?_
     repeat ((first|refine qQ (id:=3) da mixed ?_|refine qQ (id:=13) db mixed ?_);refine vU ?_;refine zf ?_)
     clear fx p1 c1 c2;refine qF [] .nil qE ol
    | some y =>
     rw [tH hb] at hrb;have hy0:(0:Int)<=y:=qA;have how:=Z4 gl p x y hs hpo;obtain⟨w1,w2⟩:=F5 (b:=x) (x:=y) hP.sh.jj hP.sh.len.2;simp only;generalize aZ p x y=ow at how w1 w2 ⊢;unfold l0;by_cases c1:ow=-1
     .have c1':(ow == -1)=true:=by simp [c1]
      rw [if_pos c1];have fx:=zD e0 hx0 hy0<|c1';have p1:=hsp;have c1:=hra;have c2:=hrb;have c3:=how;refine zf ?_
      repeat ((first|refine qQ (id:=3) da mixed ?_|refine qQ (id:=13) db mixed ?_);refine vU ?_;refine zf ?_)
      clear fx p1 c1 c2 c3;refine qF [] .nil qE (by simp [Ga])
     have c1':(ow == -1)=false:=by simpa using c1
     rw [if_neg c1];by_cases c2:ow<0
     .rw [if_pos c2];have fx:=zN e0 hx0 hy0 c1'<|c2;have p1:=hsp;have c1:=hra;have c2:=hrb;have c3:=how;refine zf ?_
      repeat ((first|refine qQ (id:=3) da mixed ?_|refine qQ (id:=13) db mixed ?_);refine vU ?_;refine zf ?_)
      clear fx p1 c1 c2 c3;refine qF [] .nil qE (by simp [Gb])
     rw [if_neg c2];have fx:=zN e0 hx0 hy0 c1'<|c2;have p1:=hsp;have c1:=hra;have c2:=hrb;have c3:=how;have c4:=su gl ow qA qA;refine zf ?_
     repeat ((first|refine qQ (id:=3) da mixed ?_|refine qQ (id:=13) db mixed ?_);refine vU ?_;refine zf ?_)
     clear fx p1 c1 c2 c3 c4;refine qF [] .nil qE qB
  .rw [if_neg ho];have e0:(o==[111,119,110,101,114])=false:=by simpa [nn] using ho
   rw [hwA];have fx:=jH e0 b1 b2 b3 b4<|b5;have p1:=hsp;refine zf ?_
   repeat ((first|refine qQ (id:=3) da mixed ?_|refine qQ (id:=13) db mixed ?_);refine vU ?_;refine zf ?_)
   clear fx p1;refine qF [] .nil qE ol
 .have hn3:((W.length:Int)==3)=false:=ku
  have hAw:am p l=un p l:=by
   rw [hA];rcases W with _|⟨a,_|⟨b,_|⟨c,_|⟨d,W⟩⟩⟩⟩
   .rfl
   .rfl
   .rfl
   .exact absurd rfl hl3
   .rfl
  rw [hAw];clear hAw hA hw3 h32;have hp7:=hP.sh.len;by_cases c1:l=bI
  .have b1:(l==[98,108,111,99,107,115])=true:=by rw [c1];rfl
   have fx:=aI hn3<|b1;have p1:=hsp;have c1:=su gl (p.length:Int) qA qA;refine zf ?_
   repeat ((first|refine qQ (id:=3) da mixed ?_|refine qQ (id:=13) db mixed ?_);refine vU ?_;refine zf ?_)
   clear fx p1 c1;refine qF [] .nil qE (by simp [un,c1])
  have b1:(l==[98,108,111,99,107,115])=false:=by simpa [bI] using c1
  by_cases c2:l=bJ
  .have b2:(l==[101,110,100])=true:=by rw [c2];rfl
   have her:=(nL hP.sh (f:=150) qA).ok.eK;have hmf:=λgl H (h1:H (.u 1 0 0)=none)=>Ki gl H p 150 hP qA h1;have hwd:un p l=aD.getD (uB p 150).en.toNat []:=by simp [un,c2,bI,bJ]
   rw [hwd];clear hwd;generalize uB p 150=W at her hmf ⊢;obtain⟨e,hen⟩:∃ e:Nat,W.en=e:=⟨W.en.toNat,qA⟩;have he8l:e<aD.length:=by show e<8;omega
   obtain⟨u,hu⟩:=gX he8l;obtain⟨_,huE⟩:=gS hu;have hug:aD.getD W.en.toNat []=u:=by rw [hen];simp [bT,hu]
   rw [hug];have fx:=qk hn3 b1<|b2;have p1:=hsp;have p2:=Q5 gl;refine zf ?_
   repeat ((first|refine qQ (id:=3) da mixed ?_|refine qQ (id:=13) db mixed ?_);refine vU ?_;refine zf ?_)
   clear fx p1 p2;intro K hK;have fx:=qd;refine u0 Wn rfl tw (hF:=hmf gl _ qB) (h:=?_);rintro y H2 ⟨rfl,hO⟩;clear fx;have hT:=hO.top;simp only [jP] at hT;have fx:=zN hT hen hu huE<|he8l;refine qK ?_
   repeat ((first|refine qQ (id:=3) da mixed ?_|refine qQ (id:=13) db mixed ?_);refine zK ?_;refine qK ?_)
   clear fx;refine qF [] .nil qE qB
  have b2:(l==[101,110,100])=false:=by simpa [bJ] using c2
  by_cases c3:l=dC
  .have b3:(l==[115,116,101,112,115])=true:=by rw [c3];rfl
   have hst:=Z6 gl p hs;have hS:pf p=(150:Int) - ((uB p 150).left:Int):=by simp [pf,hpo]
   have hm:=(nL hP.sh (f:=150) qA).tr;rw [hS] at hst;have fx:=zD hn3 b1 b2<|b3;have p1:=hsp;have c1:=hst;have c2:=su gl ((150:Int) - ((uB p 150).left:Int)) qA qA;refine zf ?_
   repeat ((first|refine qQ (id:=3) da mixed ?_|refine qQ (id:=13) db mixed ?_);refine vU ?_;refine zf ?_)
   clear fx p1 c1 c2;refine qF [] .nil qE (by simp [un,c3,bI,bJ,dC])
  have b3:(l==[115,116,101,112,115])=false:=by simpa [dC] using c3
  obtain⟨c,n,d,d1,d2,d3,d4,d5,d6⟩:=E8 hs hpo;by_cases c4:l=ef
  .have b4:(l==[99,101,108,108,115])=true:=by rw [c4];rfl
   have hcm:=Z2 gl p 150 hs;rw [d1] at hcm;have fx:=zN hn3 b1 b2 b3<|b4;have p1:=hsp;have c1:=hcm;have c2:=su gl (c:Int) qA qA;refine zf ?_
   repeat ((first|refine qQ (id:=3) da mixed ?_|refine qQ (id:=13) db mixed ?_);refine vU ?_;refine zf ?_)
   clear fx p1 c1 c2;refine qF [] .nil qE IK
  have b4:(l==[99,101,108,108,115])=false:=by simpa [ef] using c4
  by_cases c5:l=gF
  .have b5:(l==[102,114,97,109,101,115])=true:=by rw [c5];rfl
   have hfm:=Z3 gl p 150 hs;rw [d3] at hfm;have fx:=jH hn3 b1 b2 b3 b4<|b5;have p1:=hsp;have c1:=hfm;have c2:=su gl (n:Int) qA qA;refine zf ?_
   repeat ((first|refine qQ (id:=3) da mixed ?_|refine qQ (id:=13) db mixed ?_);refine vU ?_;refine zf ?_)
   clear fx p1 c1 c2;refine qF [] .nil qE IY
  have b5:(l==[102,114,97,109,101,115])=false:=by simpa [gF] using c5
  have fx:=jH hn3 b1 b2 b3 b4<|b5;have p1:=hsp;refine zf ?_
  repeat ((first|refine qQ (id:=3) da mixed ?_|refine qQ (id:=13) db mixed ?_);refine vU ?_;refine zf ?_)
  clear fx p1;refine qF [] .nil qE (by simp [un,c1,c2,c3,c4,c5,dj])
abbrev Lr:qV:=aL<|.l 6 [0]<|.q 7<|.q 8<|.l 9 []<|.done
theorem E6 {A:qU->qU} (h:∀ x,(A x).length<=2000) (l:List qU):(kI 10 (l.map A)).length<=2001 * l.length:=by
 induction l with
 | nil=>simp [kI]
 | cons x l ih =>
  have h1:=h x;rw [al,K4];simp only [ua,fG];omega
theorem E7 {A:qU->qU} {ls:List qU} {i:Nat} {l:qU} (h:ls[i]?=some l):kI 10 ((ls.take (i+1)).map A)=kI 10 ((ls.take i).map A)++(A l++[10]):=by
 rw [uG,h,mJ];exact TT
theorem It {s:qU} {ls:List qU} (h:ls.length<=20) (hp:vn s=none):gn s ls=kI 10 (ls.map λ_=>gG):=by
 unfold gn;rw [if_pos h,hp]
theorem Iu {s:qU} {ls:List qU} {q:qC} (h:ls.length<=20) (hp:vn s=some q):gn s ls=kI 10 (ls.map (am q)):=by
 unfold gn;rw [if_pos h,hp]
theorem Is {s:qU} {ls:List qU} (h:¬ ls.length<=20):gn s ls=[]:=by
 unfold gn;rw [if_neg h]
theorem pO {A G G2:Prop} (k:G2) (x:A) (h:A->jL G2->G:=by
 intro fx kk;refine qK ?_
 repeat ((first|refine qQ (id:=9) Lr mixed ?_);refine zK ?_;refine qK ?_)
 exact kk.h):G:=h x ⟨k⟩
theorem Z5 (gl) (s:qU) (ls:List qU) (hs:s.length<=1048576) (hls:∀ l∈ls,l.length<=1048577):qM prog gl 7 [tx s,jd ls] (λ_ y _=>y=tx (gn s ls)):=by
 refine qM.q9 func7 [.tmp 4] ntmps7 λC w g root=>?_;by_cases h20:ls.length<=20
 case neg =>
  rw [Is h20];have h20':(20:Int)<ls.length:=qA;refine pO ?_<| h20';refine qF [] .nil qE qB
 have h20':¬ (20:Int)<ls.length:=qA
 cases hp:vn s with
 | none =>
  have hpa:=Mv gl s hs;rw [hp] at hpa;rw [It h20 hp];have fx:= h20';have e1:=hpa;refine pO ?_<|@fx;clear fx e1;rintro K hK y H1 ⟨p,rfl,hO,_⟩;obtain⟨ho1,ho2,ho3⟩:=hO.vh;refine⟨qB,?_⟩;refine pO ?_<| ho1;refine zQ (λn st=>∃ i:Nat,n=ls.length - i/\i<=ls.length/\st.tm 1=jd ls/\st.tm 6=bv false/\st.tm 7=tx (kI 10 ((ls.take i).map λ_=>gG))/\st.tm 8=iv i) ls.length ?_ ?_
  .exact⟨0,qA,qA,qB,qB,xT,qB⟩
  clear hO ho1 ho2 ho3;rintro n st - - ⟨i,rfl,hi,h1,h6,h7,h8⟩;have hLl:=E6 (A:=λ_=>gG) (λ_=>qe) (ls.take i);rw [im] at hLl;by_cases hil:i<ls.length
  .obtain⟨l,hl⟩:=gX hil;have hnext:=E7 (A:=λ_=>gG) hl;generalize kI 10 ((ls.take i).map λ_=>gG)=L at h7 hLl hnext;have hl1:∀ c,2000000000<=c->L.length+6<=c:=λc hc=>qA;have hl2:∀ c,2000000000<=c->L.length+5<=c:=λc hc=>qA;refine pO ?_<|jI h1 h6 h7 h8 hil hl1<|hl2;exact⟨ls.length - (i+1),qA,i+1,rfl,qA,zl,vt,by rw [hnext];simp [gG],EM⟩
  .obtain rfl:i=ls.length:=qA;rw [kC] at h7;refine pO ?_<|zD h1 h7 h8<|hil;refine qF [] .nil qE qB
 | some q =>
  have hpa:=Uy gl s q hs hp;have hpo:jq q=true:=(Gs hp).2.1;have hq:=L8 hpo;rw [Iu h20 hp];have fx:= h20';have p1:=hpa;refine zf ?_
  repeat ((first|refine qQ (id:=9) Lr mixed ?_);refine vU ?_;refine zf ?_)
  clear fx p1;refine zQ (λn st=>∃ i:Nat,n=ls.length - i/\i<=ls.length/\st.tm 1=jd ls/\st.tm 6=bv true/\st.tm 7=tx (kI 10 ((ls.take i).map (am q)))/\st.tm 8=iv i/\st.tm 5=.pt (.s 5) 0/\st.hp (.s 5)=some (.row 1 [[jc q]])) ls.length ?_ ?_
  .exact⟨0,qA,qA,qB,qB,xT,qB,qB,qB⟩
  rintro n st - - ⟨i,rfl,hi,h1,h6,h7,h8,h5,hp5⟩;have hLl:=E6 (A:=am q) (λ_=>DS hq hpo) (ls.take i);rw [im] at hLl;by_cases hil:i<ls.length
  .obtain⟨l,hl⟩:=gX hil;obtain⟨_,hlE⟩:=gS hl;have hnext:=E7 (A:=am q) hl;have hal:=DS (l:=l) hq hpo;have han:=Oo gl q l hq hpo (hls l (gM hl));generalize kI 10 ((ls.take i).map (am q))=L at h7 hLl hnext;generalize am q l=a at hnext hal han;have hl1:∀ c,2000000000<=c->L.length+a.length<=c:=λc hc=>qA;have hl2:∀ c,2000000000<=c->L.length+a.length+1<=c:=λc hc=>qA;have hl3:∀ c,2000000000<=c->L.length+(a.length+1)<=c:=λc hc=>qA;have fx:=jS h1 h6 h7 h8 h5 hp5 hil hl hlE hl1<|aI hl2<|hl3;have c1:=han;refine pO ?_<|@fx;clear fx c1;exact⟨ls.length - (i+1),qA,i+1,rfl,qA,zl,vt,by rw [hnext];simp,EM,yH,wt⟩
  .obtain rfl:i=ls.length:=qA;rw [kC] at h7;refine pO ?_<|zD h1 h7 h8<|hil;refine qF [] .nil qE qB
attribute [local simp] wC
theorem PJ (w:World):(Instr.build 34 #[]).run prog w=.ok (.agg #[.slice none 0 0]) w:=qc
theorem ν (b:Nat) (w:World):(Instr.storeAt 34 (.pointer (some ⟨b,0,none⟩)) (.agg #[.slice none 0 0])).run prog w=(Instr.storeAt 32 (.pointer (some ⟨b,0,none⟩)) (.slice none 0 0)).run prog w:=qc
theorem VP (b1 b2:Nat) (w:World):CallsD prog 35 #[.pointer (some ⟨b1,0,none⟩),.pointer (some ⟨b2,0,none⟩)] .returning w λe u' w'=>e=.returned (.tuple #[])/\u'=.returning/\w'=w:=by
 refine callsD_of_wpS func35 rfl λc₀ cs hu=>?_;apply wpS_seq;apply wpS_region;simp [wpOpsS,go_sem,recoverD,hu,ntmps35,Exit.thenS];refine wpS_cond (t:=false) (by simp [Go.Act.eval,Array.replicate]) ?_;simp only [wk,if_false];refine wpS_of_wp (wp_skip ?_)
 cases c₀
 simp_all [bodyPostS,results,Tryz.results35]
theorem VO (b1 b2:Nat) (ty:TypeId) (pv:Value) (w w1 w2:World) (r1:(Instr.storeAt 32 (.pointer (some ⟨b1,0,none⟩)) (.slice none 0 0)).run prog w=.ok () w1) (r2:(Instr.storeAt 4 (.pointer (some ⟨b2,0,none⟩)) (.bool false)).run prog w1=.ok () w2) :
  CallsD prog 35 #[.pointer (some ⟨b1,0,none⟩),.pointer (some ⟨b2,0,none⟩)] (.panicking [{ v:=.iface ty pv,recovered:=false }]) w λe u' w'=>e=.returned (.tuple #[])/\u'=.panicking [{ v:=.iface ty pv,recovered:=true }]/\w'=w2:=by
 rw [<- ν] at r1;refine callsD_of_wpS func35 rfl λc₀ cs hu=>?_;apply wpS_seq;apply wpS_region;simp [wpOpsS,go_sem,recoverD,hu,ntmps35,Exit.thenS];refine wpS_cond (t:=true) (by simp [Go.Act.eval,Array.replicate]) ?_;simp only [if_true];apply wpS_region
 show wpOpsS _ _ _ [0,1,2] _ _ _
 simp [wpOpsS,Region.wanted,Oper.upon,Go.Act.put,execOp,PJ,Go.Act.eval,Array.replicate,r1,r2,bodyPostS,results,Tryz.results35]
theorem Ux {s:qU}:vn s=match lf s with|some p=>if jq p=true then some p else none|none=>none:=by
 rw [<- Uw];unfold F8 lf
 split <;> rfl
theorem dL.br {p:qC} (h:dL p 1048575):jt p :=
 ⟨by have:=h.len;omega,λk hk=>Dv,λk hk=>Dv⟩
theorem OR (gl) {m:Int} (hgm:gl 3=some [.sc (.int .i64 m)]) (hgs:gl 1=some ((dF vH).map AV.sc)) (s:qU) (hs:s.length<=1048576) :
  qM prog gl 14 [tx s] (λr y H'=>∃ p,y=.zX [.agg [.hs r 4 0 p.length],bv (vn s).isSome]/\ew H' r p/\p=(vn s).getD []):=by
 have hro:=Xe gl hgm hgs s hs;have hprd:=Ux (s:=s);refine qZ.U0 (t:=5) (F:=35) (s1:=2) (s2:=3) (T1:=32) (T2:=4) (v1:=.slice none 0 0) (v2:=.bool false) (n1:=.s 2) (n2:=.s 3) (o1:=⟨none,.store 32 (.tmp 2) (.const (.slice none 0 0)),0, "",#[],none⟩) (o2:=⟨none,.store 4 (.tmp 3) (.const (.bool false)),0, "",#[],none⟩) func14 rfl qc (rs:=[.cell 2 34,.cell 3 4]) rfl ntmps14 (lB rfl) (λ_ h=>kR) ⟨_,func35,qc,rfl⟩ rfl rfl rfl rfl VP VO λC w g root hroot a w' hR=>?_
 refine qBN ?_ hR;clear hR;refine qJ ?_<|qd
 show ∀ a w,Rw _ _ a w->_
 intro a w' hR;refine qBL (ats:=#[]) (l1:=[_]) (l2:=[]) rfl ?_ ?_ ?_ qB ?_ hR
 .rfl
 .rfl
 .rfl
 clear hR;have fx:=qd;refine wB ?_;refine we (h:=?_);clear fx
 show _/\_
 refine⟨⟨_,_,_,by simp;exact⟨rfl,rfl,rfl⟩⟩,?_⟩
 show bR _ _ _ _ _
 refine An (Cw qB λK hK=>?_);have fx:=qd;refine wB ?_;refine we (h:=?_);clear fx;refine wB ?_;refine qBc (ha:=B8) (hF:=hro) (hE:=λx H' hx hq=>?_) (h:=?_)
 .refine⟨qB,qB,qB,hx,?_⟩;refine qJ ?_<|qd;refine⟨[(.c (.s 2) 0 0,root)],_,.one rfl,qE,[],?_,⟨?_,λj r hj=>sE,λj r hj=>sE⟩,?_⟩
  .simp [hprd,hq]
  .simp
  .simp [hprd,hq]
 .rintro y H' ⟨p,hp,rfl,⟨ho1,ho2,ho3⟩,hG⟩;rw [hp] at hprd;have hvp:=cW gl p hG.br;refine qJ ?_<|aI ho1 ho1;refine An (An (Cw qB λK hK=>?_))
  cases hv:jq p
  .rw [hv] at hvp;have fx:=aI ho1 ho1;have c1:=hvp;refine qK ?_;clear fx c1;refine N8 (b:=true) B8 (λ_=>?_) (λh=>kR);refine An (Cw qB λK hK=>?_);refine qJ ?_<|aI ho1 ho1;refine N9 ?_;refine bL ?_;refine⟨qB,[(.c (.s 2) 0 0,root)],_,.one rfl,qE,[],?_,⟨?_,λj r hj=>sE,λj r hj=>sE⟩,?_⟩
   .simp [hprd,hv]
   .simp
   .simp [hprd,hv]
  .rw [hv] at hvp;have fx:=aI ho1 ho1;have c1:=hvp;refine qK ?_;clear fx c1;refine N8 (b:=false) B8 (λh=>kR) (λ_=>?_);refine qBU ?_;have fx:=aI ho1 ho1;refine wT ?_;refine An (Cw qB λK hK=>?_);refine qK ?_;clear fx;refine N9 ?_;refine⟨qB,[(.c (.s 4) 0 0,root)],_,.one rfl,qE,p,?_,⟨?_,λj r hj=>?_,λj r hj=>?_⟩,?_⟩
   .simp [hprd,hv]
   .simp [ho1,iG (n:=.c (.s 4) 0 0) (m:=root) (f:=zL zn [(.c (.s 4) 0 0,root)]) (p:=p) qB]
   .simp [ho2 j r hj]
   .simp [ho3 j r hj]
   .simp [hprd,hv]
end Go.Proofs.YtjgpejikjhojcaaGreatDoor
end
section
namespace Go.Proofs.YtjgpejikjhojcaaGreatDoor
open Go Go.Hm Go.Proofs Tryz
abbrev Vu:qV:=ea<|.l 14 []<|.done
theorem Gc:∀ {xs:List Int} {i:Nat} {v:Int},i<xs.length->(xs.set i v).take (i+1)=xs.take i++[v]
 | x::xs,0,v,_=>by simp
 | x::xs,i+1,v,h=>by simp [Gc (xs:=xs) (i:=i) (v:=v) lA]
theorem CG {A G G2:Prop} (k:G2) (x:A) (h:A->jL G2->G:=by
 intro fx kk;refine qK ?_
 repeat ((first|refine qQ (id:=10) Vu mixed ?_);refine zK ?_;refine qK ?_)
 exact kk.h):G:=h x ⟨k⟩
theorem Xo (gl) (H:Nm->Option AO) (F:Nat) (p:qC) (W:qL) (hw:zF p W) (hO:qb H F p W) :
  qZ prog gl 29 DM [.pt Mn 0] H (λr y H'=>y=.agg ((nV W).own r)/\HT H' r (nV W)) zG:=by
 have hg8:=hw.zJ.1;obtain⟨a0,h00,hb0⟩:=hw.a0;have hl0:=(gS h00).1;refine qZ.q9 func29 [.cell 2 40] ntmps29 (λ_=>zC) λC w g root hroot=>?_;have hr0:DM root=false:=hroot root (Nm.kj _);refine CG ?_<|qd;refine zQ (λn st=>∃ (i:Nat) (xs:List Int),n=8 - i/\i<=8/\xs.length=8/\xs.take i=nh (W.globals.take i)/\st.tm 0=.pt Mn 0/\st.tm 2=.pt (.s 2) 0/\st.hp (.s 2)=some (.row 4 [[.hs (.c (.s 2) 0 0) 1 0 0,iv 0,iv 0,.hs (.c (.s 2) 0 3) 1 0 0]])/\st.tm 3=.hs (.s 3) 1 0 8/\st.hp (.s 3)=some (.row 1 (qj xs))/\st.tm 9=iv 8/\st.tm 10=iv i/\qb st.hp F p W) 8 ?_ ?_
 .exact⟨0,List.replicate 8 0,qA,qA,qB,by simp [nh],by simp [hO.top],qB,qB,qB,wJ,qB,qB,(have om:=hO;qb.re om)⟩
 clear hO;rintro n st - - ⟨i,xs,rfl,hi,hxl,hxs,t0,t2,hp2,t3,hp3,t9,t10,hO⟩;have hT:=hO.top;have hE:=hO.env 0 a0 h00;simp only [zx] at hT;simp only [ud] at hE;obtain⟨ms,hms,hmo⟩:=hO.yJ 0 hl0;have hmo':kn ms (W.vars none):=by simpa [qL.yJ,qL.vars] using hmo
 by_cases hil:i<8
 .obtain⟨s,hs⟩:∃ s,W.globals[i]?=some s:=⟨_,gE qA⟩;have hx7:0<=(i:Int)/\(i:Int)<=7:=qA;have hlk:=hmo'.get' hx7;have hgs:W.get none (i:Int)=s:=by simp [qL.get,qL.vars,hs]
  rw [hgs] at hlk
  have htk:nh (W.globals.take (i+1))=nh (W.globals.take i)++[match s with|some v=>Hm.shown v|none=>-9]:=by
   rw [uG,hs]
   cases s <;> simp [nh]
  have hi8:(i:Int)<8:=qA
  cases s with
  | none =>
   refine CG ?_<|qh t0 t2 t3 hp3 t9 t10 hi8 hil hxl hT hE hms<|hlk;exact⟨8 - (i+1),qA,i+1,xs.set i (-9),rfl,qA,by simp [hxl],by rw [htk,<- hxs,Gc qA],kr,kS,yw,cS,ma,mh,by simp [t10];exact qm qA qA,(have om:=hO;qb.re om)⟩
  | some v =>
   have hsh:=Er gl v;obtain⟨v1,v2⟩:=v;have fx:=qh t0 t2 t3 hp3 t9 t10 hi8 hil hxl hT hE hms<|hlk;have c1:=hsh;refine CG ?_<|@fx;clear fx c1;exact⟨8 - (i+1),qA,i+1,xs.set i (Hm.shown (v1,v2)),rfl,qA,by simp [hxl],by rw [htk,<- hxs,Gc qA],kr,kS,yw,cS,ma,mh,by simp [t10];exact qm qA qA,(have om:=hO;qb.re om)⟩
 .have hge:i=8:=qA;subst hge
  have hxe:xs=nh W.globals:=by
   rw [yG qA,yG qA] at hxs;exact hxs
  have hU:=hO.out;have hsl:(nh W.globals).length=8:=by rw [<- hxe];exact hxl
  have h88:¬ (8:Int)<8:=qA;refine N6 (.c Mn 0 4) (.s 1) (.inl rfl) (.inl rfl) ?_;refine CG ?_<|y8 t0 t2 hp2 t3 hp3 t9 t10 h88 hT<|hU;refine qF [(.s 2,root)] (.one rfl) (by simp [t2];rfl) ⟨by simp [nV,hsl],⟨by simp [nV,hU,hr0],by simp [nV,hp3,hxe,hr0]⟩⟩
theorem SG (gl) (p:qC) (f:Int) (hs:jt p):qM prog gl 50 [jB p,iv f] (λr y H'=>y=.agg ((fz p f).own r)/\HT H' r (fz p f)):=by
 refine qM.q9 func50 [.cell 4 40] ntmps50 λC w g root=>?_
 cases hv0:jq p
 .have hv:kF p f=false:=by simp [kF,hv0]
  have hG:fz p f=⟨[],0,0,[]⟩:=by simp [fz,hv]
  rw [hG];have fx:= hv0;have c1:=hv0 ▸ cW gl p hs;refine qK ?_;clear fx c1;refine qF [(.s 4,root)] (.one rfl) qE ⟨qB,⟨qB,qB⟩⟩
 cases hv:kF p f
 .have hf:(decide (0<=f)&&decide (f<=150))=false:=ro;have hG:fz p f=⟨[],0,0,[]⟩:=by simp [fz,hv]
  rw [hG];have fx:=aI hv0<|hf;have c1:=hv0 ▸ cW gl p hs;have c2:=hf ▸ sU gl f;refine qK ?_;clear fx c1 c2;refine qF [(.s 4,root)] (.one rfl) qE ⟨qB,⟨qB,qB⟩⟩
 .obtain⟨hpo,n,rfl,hn⟩:=xl hv;have hP:=zk.of hs hpo;have hf:(decide (0<=(n:Int))&&decide ((n:Int)<=150))=true:=ro;have hm:=nL hP.sh hn;have hG:fz p n=nV (uB p n):=by simp [fz,hv]
  rw [hG];have fx:=aI hv0<|hf;have c1:=hv0 ▸ cW gl p hs;have c2:=hf ▸ sU gl n;refine qK ?_;clear fx c1 c2;intro K hK;have fx:=qd;refine pp (λk i j he=>xL) (hF:=Kg gl _ p n hP hn lD) (h:=?_);rintro y H1 ⟨rfl,hO1⟩;clear fx;have hT1:=hO1.top;simp only [zx] at hT1;refine qJ ?_<| hT1;have fx:=hT1;refine bn (.c (.s 17) 0 0) (.s 1) (.inl rfl) (.inl rfl) ?_;refine bn (.c (.s 17) 0 3) (.s 3) (.inl rfl) (.inl rfl) ?_;refine pp (λk i j he=>xL) (hF:=Xo gl _ _ p (uB p n) hm.ok (qb.sub (p:=p) (F:=229) (w:=uB p n) (have om:=hO1;qb.re om))) (h:=?_);rintro y H2 ⟨rfl,hR2⟩;clear fx;have r1:=hR2.out;have r2:=hR2.gl;refine qJ ?_<|aI r1<|r2;refine qF [(.s 4,root)] (.one rfl) qE ⟨qB,⟨by simp [r1],by simp [r2]⟩⟩
end Go.Proofs.YtjgpejikjhojcaaGreatDoor
end
section

end
section

end
section
namespace Go.Proofs.YtjgpejikjhojcaaGreatDoor
open Go Go.Hm Go.Proofs Tryz
open Go.Shelf in
theorem TJ:LaysM.n171 prog nJ:={ TI with i0:=qc,i2:=qc,i3:=qc,i4:=qc,i5:=qc,i9:=qc,i20:=qc,i37:=qc,i46:=qc,i51:=qc,i53:=qc,i171:=qc,i173:=qc,i212:=qc,i232:=qc,i233:=qc,m17:=qc,m18:=qc,m19:=qc}
theorem xq (gl) (hgp:gl 2=some (fp.map .sc)) (n:Int) (h0:-1000000<=n) (h1:n<=1000000):qM prog gl 30 [iv n] (λ_ y _=>y=tx (ug n)) :=
 S1 TJ gl hgp n h0 h1
theorem OS (gl) {m:Int} (hgm:gl 3=some [.sc (.int .i64 m)]) (hgs:gl 1=some ((dF vH).map AV.sc)) (s:qU) (hs:s.length<=1048576) :
  qM prog gl 14 [tx s] (λ_ y _=>y=.zX [jB ((vn s).getD []),bv (vn s).isSome]) :=
 (OR gl hgm hgs s hs).settle λr y H' ⟨p,h1,h2,h3⟩=>⟨.zX [jB ((vn s).getD []),bv (vn s).isSome],by rw [h1,<- h3];exact ID h2,rfl⟩
theorem OQ (gl) (p:qC) (b x:Nat) (k:qX) (hk:p[b]?=some k) (hx:x<8) (hs:jt p) (hv:jq p=true):qM prog gl 90 [jB p,iv b,iv x] (λ_ z _=>z=iv (zI p b x)):=by
 have hsh:uk p=true:=by
  simp only [jq,ju] at hv;exact hv.1
 have hp:=zr.of hs hsh;have hh:=hp.jj;have hvp:=hv ▸ cW gl p hs;obtain⟨qy,hkE⟩:=gS hk;have hib:=sS gl p b;rw [show decide ((0:Int)<=(b:Int)/\(b:Int)<p.length)=true by simp;omega] at hib;have hin:=gt gl x;rw [show (decide ((0:Int)<=(x:Int))&&decide ((x:Int)<=7))=true by simp;omega] at hin;have hsc:=Cc gl p hs hh hp.names;have how:=cx gl p hp b k hk x hx;have hsg:=M0 (n:=.s 22) qy;obtain⟨_,hse⟩:=gS hsg;refine qM.q9 func90 [.tmp 6] ntmps90 λC w g root=>?_;have fx:=qk hk hkE<|qy;have c1:=hvp;have c2:=hib;have c3:=hin;have e1:=hsc;refine qK ?_;clear fx c1 c2 c3 e1;rintro K hK z H' ⟨rfl,hO⟩;obtain⟨hc1,hc2⟩:=hO.vh;refine⟨qB,?_⟩;have fx:=zD hc1 hsg hse<|qy;have c1:=how;refine qK ?_;clear fx c1;refine qF [] .nil qE qB
end Go.Proofs.YtjgpejikjhojcaaGreatDoor
end
section
namespace Go.Proofs.YtjgpejikjhojcaaGreatDoor
open Go Go.Hm Go.Proofs Tryz
theorem SH (gl) (p:qC) (hs:jt p):qM prog gl 51 [jB p] (λ_ y _=>y=iv (pf p)):=by
 refine qM.q9 func51 [.tmp 2] ntmps51 λC w g root=>?_
 cases hv:jq p
 .skip
  have fx:= hv;have c1:=hv ▸ cW gl p hs;refine qK ?_;clear fx c1;refine qF [] .nil qE BZ
 .have hP:=zk.of hs hv;have hm:=nL hP.sh (qa 150);have hml:=hm.left;have fx:= hv;have c1:=hv ▸ cW gl p hs;refine qK ?_;clear fx c1;intro K hK;have fx:=qd;refine pp (λk i j he=>xL) (hF:=Kg gl _ p 150 hP qA lD) (h:=?_);rintro y H1 ⟨rfl,hO1⟩;clear fx;have hT1:=hO1.top;simp only [zx] at hT1;have hw:IntKind.i64.wrap (150 - ((uB p 150).left:Int))=150 - ((uB p 150).left:Int):=qm qA qA;refine qJ ?_<|aI hT1<|hw;refine qF [] .nil qE BZ
end Go.Proofs.YtjgpejikjhojcaaGreatDoor
end
