import Derived.Test.YtjgpejikjhojcaaGreatDoorR43
import Derived.Test.YtjgpejikjhojcaaGreatDoorR39
import Derived.Test.YtjgpejikjhojcaaGreatDoorChecked
set_option linter.unusedSimpArgs false
set_option linter.unusedVariables false
set_option maxRecDepth 100000
set_option maxHeartbeats 4000000

section
namespace Go.Proofs.YtjgpejikjhojcaaGreatDoor
open Go Go.Hm Go.Proofs Tryz
theorem SE (gl) (p:qC) (b x:Nat) (hs:jt p) (hpo:jq p=true):qM prog gl 90 [jB p,iv b,iv x] (λ_ y _=>y=iv (aZ p b x)):=by
 by_cases h:b<p.length/\x<=7
 .obtain⟨k,hk⟩:=gX h.1;have:=OQ gl p b x k hk qA hs hpo;rw [show zI p b x=aZ p b x by simp [aZ,h]] at this;exact this
 .have hvp:=hpo ▸ cW gl p hs;have hib:=sS gl p b;have hin:=gt gl x;refine qM.q9 func90 [.tmp 6] ntmps90 λC w g root=>?_;by_cases hb:b<p.length
  .rw [show decide ((0:Int)<=(b:Int)/\(b:Int)<p.length)=true by simp;omega] at hib;rw [show (decide ((0:Int)<=(x:Int))&&decide ((x:Int)<=7))=false by simp;omega] at hin;have fx:=qd;have c1:=hvp;have c2:=hib;have c3:=hin;refine qK ?_;clear fx c1 c2 c3;refine qF [] .nil qE Bb
  .rw [show decide ((0:Int)<=(b:Int)/\(b:Int)<p.length)=false by simp;omega] at hib;have fx:=qd;have c1:=hvp;have c2:=hib;refine qK ?_;clear fx c1 c2;refine qF [] .nil qE Bb
noncomputable def eV (p:qC) (ws:List qU):qU:=match ws with
 | [_,a,b]=>(match zq a,zq b with
  | some x,some y=>l0 (aZ p x y)
  | _,_=>dj)
 | _=>dj
theorem Kz {n:Nat}:AI (some n)=n:=rfl
theorem Um (gl) (hgp:gl 2=some (fp.map .sc)) (p:qC) (ws:List qU) (hs:jt p) (hpo:jq p=true) (hw:∀ w∈ws,w.length<=1048577) (hwl:ws.length<=1048578):qM prog gl 55 [jB p,jd ws] (λ_ y _=>y=tx (eV p ws)):=by
 have hP:=zk.of hs hpo;refine qM.q9 func55 [.tmp 4] ntmps55 λC w g root=>?_;by_cases hl3:ws.length=3
 case neg =>
  have hn3:((ws.length:Int)==3)=false:=ku
  have hA:eV p ws=dj:=by
   match ws,hl3 with
   | [],_=>rfl
   | [_],_=>rfl
   | [_,_],_=>rfl
   | [_,_,_],h=>exact absurd rfl h
   | _::_::_::_::_,_=>rfl
  rw [hA];refine qJ ?_<|aI hn3<|@qz;refine qF [] .nil qE ol
 obtain⟨o,a,b,rfl⟩:∃ o a b,ws=[o,a,b]:=by
  match ws,hl3 with
  | [o,a,b],_=>exact⟨o,a,b,rfl⟩
 have hra:=Ce gl a (hw a qB);have hrb:=Ce gl b (hw b qB);clear hl3 hw hwl
 cases ha:zq a with
 | none =>
  rw [ha] at hra;have hO:eV p [o,a,b]=dj:=by simp [eV,ha]
  rw [hO];have fx:= @qz;have c1:=hra;have c2:=hrb;refine qK ?_;clear fx c1 c2;refine qF [] .nil qE ol
 | some x =>
  rw [ha,Kz] at hra
  cases hb:zq b with
  | none =>
   rw [hb] at hrb;have hO:eV p [o,a,b]=dj:=by simp [eV,ha,hb]
   rw [hO];have fx:= @qz;have c1:=hra;have c2:=hrb;refine qK ?_;clear fx c1 c2;refine qF [] .nil qE ol
  | some y =>
   rw [hb,Kz] at hrb;have how:=SE gl p x y hs hpo;obtain⟨w1,w2⟩:=F5 (b:=x) (x:=y) hP.sh.jj hP.sh.len.2;have hO:eV p [o,a,b]=l0 (aZ p x y):=by simp [eV,ha,hb]
   rw [hO];generalize aZ p x y=ow at how w1 w2 ⊢;unfold l0;by_cases c1:ow=-1
   .have c1':(ow == -1)=true:=by simp [c1]
    rw [if_pos c1];have fx:=aI c1'<|@qz;have c1:=hra;have c2:=hrb;have c3:=how;refine qK ?_;clear fx c1 c2 c3;refine qF [] .nil qE (by simp [Ga])
   have c1':(ow == -1)=false:=by simpa using c1
   rw [if_neg c1];by_cases c2:ow<0
   .have c2':(ow == -2)=true:=by rw [beq_iff_eq];omega
    rw [if_pos c2];have fx:=qk c1' c2'<|@qz;have c1:=hra;have c2:=hrb;have c3:=how;refine qK ?_;clear fx c1 c2 c3;refine qF [] .nil qE (by simp [Gb])
   have c2':(ow == -2)=false:=ku;rw [if_neg c2];have fx:=qk c1' c2'<|@qz;have c1:=hra;have c2:=hrb;have c3:=how;have c4:=xq gl hgp ow qA qA;refine qK ?_;clear fx c1 c2 c3 c4;refine qF [] .nil qE qB
theorem On {p:qC} {l o:qU} {us:List qU} (h:¬ (l=bI\/l=bJ\/l=dC\/l=ef\/l=gF)) (hw:zM 32 l=o::us):rM p l=if o=nn then eV p (o::us) else dj:=by
 unfold rM;rw [if_neg h,hw]
 match us with
 | []=>simp [eV]
 | [_]=>simp [eV]
 | [a,b]=>rfl
 | _::_::_::_=>simp [eV]
theorem QS (gl:Nat->Option (List AV)) (hgl:gl 4=some fb) {m:Int} (hgm:gl 3=some [.sc (.int .i64 m)]) (hge:gl 0=some ((dF aD).map AV.sc)) (hgp:gl 2=some (fp.map .sc)) (p:qC) (l:qU) (hs:jt p) (hpo:jq p=true) (hl:l.length<=1048577) :
  qM prog gl 20 [jB p,tx l] (λ_ y _=>y=tx (am p l)):=by
 rw [<- Om];have hP:=zk.of hs hpo;have hp7:=hP.sh.len;obtain⟨c,n,d,d1,d2,d3,d4,d5,d6⟩:=E8 hs hpo;have hwd:(l=bI\/l=bJ\/l=dC\/l=ef\/l=gF)->rM p l=un p l:=λh=>by rw [rM,if_pos h]
 refine qM.q9 func20 [.tmp 4] ntmps20 λC w g root=>?_;by_cases c1:l=bI
 .have b1:(l==[98,108,111,99,107,115])=true:=by rw [c1];rfl
  rw [hwd (.inl c1)];have fx:= b1;have c1:=xq gl hgp (p.length:Int) qA qA;refine qK ?_;clear fx c1;refine qF [] .nil qE (by simp [un,c1])
 have b1:(l==[98,108,111,99,107,115])=false:=by simpa [bI] using c1
 by_cases c2:l=bJ
 .have b2:(l==[101,110,100])=true:=by rw [c2];rfl
  rw [hwd (.inr (.inl c2))];have her:=(nL hP.sh (f:=150) qA).ok.eK;have hib:=SG gl p 150 hs;have hre:(fz p 150).en=(uB p 150).en:=by simp [fz,kF,hpo,nV]
  have hwe:un p l=aD.getD (uB p 150).en.toNat []:=by simp [un,c2,bI,bJ]
  rw [hwe,<- hre];rw [<- hre] at her;clear hwe hre hwd;generalize fz p 150=R at her hib ⊢;obtain⟨e,hen⟩:∃ e:Nat,R.en=e:=⟨R.en.toNat,qA⟩;have he8:e<8:=qA;have he8i:(e:Int)<8:=qA;have he8l:e<aD.length:=he8;obtain⟨u,hu⟩:=gX he8l;obtain⟨_,huE⟩:=gS hu;have hug:aD.getD R.en.toNat []=u:=by rw [hen];simp [bT,hu]
  rw [hug];have fx:=aI b1<|b2;have e1:=hib;refine qK ?_;clear fx e1;rintro K hK y H2 ⟨rfl,hR⟩;refine⟨qB,?_⟩;clear hR;refine qJ ?_<|jH hge hen hu huE he8l<|he8i;refine qF [] .nil qE qB
 have b2:(l==[101,110,100])=false:=by simpa [bJ] using c2
 by_cases c3:l=dC
 .have b3:(l==[115,116,101,112,115])=true:=by rw [c3];rfl
  rw [hwd (.inr (.inr (.inl c3)))];have hst:=SH gl p hs;have hS:pf p=(150:Int) - ((uB p 150).left:Int):=by simp [pf,hpo]
  have hm:=(nL hP.sh (f:=150) qA).tr;rw [hS] at hst;have fx:=qk b1 b2<|b3;have c1:=hst;have c2:=xq gl hgp ((150:Int) - ((uB p 150).left:Int)) qA qA;refine qK ?_;clear fx c1 c2;refine qF [] .nil qE (by simp [un,c3,bI,bJ,dC])
 have b3:(l==[115,116,101,112,115])=false:=by simpa [dC] using c3
 by_cases c4:l=ef
 .have b4:(l==[99,101,108,108,115])=true:=by rw [c4];rfl
  rw [hwd (.inr (.inr (.inr (.inl c4))))];have hcm:=SC gl hgl p 150 hs;rw [d1] at hcm;have fx:=zD b1 b2 b3<|b4;have c1:=hcm;have c2:=xq gl hgp (c:Int) qA qA;refine qK ?_;clear fx c1 c2;refine qF [] .nil qE IK
 have b4:(l==[99,101,108,108,115])=false:=by simpa [ef] using c4
 by_cases c5:l=gF
 .have b5:(l==[102,114,97,109,101,115])=true:=by rw [c5];rfl
  rw [hwd (.inr (.inr (.inr (.inr c5))))];have hfm:=SD gl hgl p 150 hs;rw [d3] at hfm;have fx:=zN b1 b2 b3 b4<|b5;have c1:=hfm;have c2:=xq gl hgp (n:Int) qA qA;refine qK ?_;clear fx c1 c2;refine qF [] .nil qE IY
 have b5:(l==[102,114,97,109,101,115])=false:=by simpa [gF] using c5
 clear hwd;have hsp:=G3 gl hgm l 32 qA;have hne:=eb (c:=32) (l:=l);have hpart:=pb (c:=32) (s:=l);have hlen:=tK (c:=32) (s:=l);have hown:=λo us e=>On (p:=p) (l:=l) (o:=o) (us:=us) (by simp [c1,c2,c3,c4,c5]) e;generalize zM 32 l=W at hsp hne hpart hlen hown
 obtain⟨o,us,rfl⟩:∃ o us,W=o::us:=by cases W with
  | nil=>exact absurd rfl hne
  | cons o us=>exact⟨o,us,rfl⟩
 rw [hown o us rfl];have hW1:(0:Int)<(us.length:Int)+1:=qA;by_cases ho:o=nn
 .rw [if_pos ho];have e0:(o==[111,119,110,101,114])=true:=by rw [ho];rfl
  have fx:=jI b1 b2 b3 b4 b5 e0<|hW1;have p1:=hsp;have c1:=Um gl hgp p (o::us) hs hpo (λw hw=>by have:=hpart w hw;omega) qA;refine zf ?_;clear fx p1 c1;refine qF [] .nil qE qB
 .rw [if_neg ho];have e0:(o==[111,119,110,101,114])=false:=by simpa [nn] using ho
  have fx:=jI b1 b2 b3 b4 b5 e0<|hW1;have p1:=hsp;refine zf ?_;clear fx p1;refine qF [] .nil qE ol
theorem SF (gl:Nat->Option (List AV)) (hgl:gl 4=some fb) {m:Int} (hgm:gl 3=some [.sc (.int .i64 m)]) (hgs:gl 1=some ((dF vH).map AV.sc)) (hge:gl 0=some ((dF aD).map AV.sc)) (hgp:gl 2=some (fp.map .sc)) (s:qU) (ls:List qU) (hs:s.length<=1048576) (hls:∀ l∈ls,l.length<=1048577) :
  qM prog gl 9 [tx s,jd ls] (λ_ y _=>y=tx (gn s ls)):=by
 have hpa:=OS gl hgm hgs s hs;refine qM.q9 func9 [.tmp 4] ntmps9 λC w g root=>?_;by_cases h20:ls.length<=20
 case neg =>
  rw [Is h20];have h20':(20:Int)<ls.length:=qA;refine qJ ?_<| h20';refine qF [] .nil qE qB
 have h20':¬ (20:Int)<ls.length:=qA
 obtain⟨A,hA,hAn,hAs⟩:∃ A:qU->qU,gn s ls=kI 10 (ls.map A)/\((vn s).isSome=false->∀ l,A l=gG)/\((vn s).isSome=true->∀ l,A l=am ((vn s).getD []) l):=by
  cases hp:vn s with
  | none=>exact⟨_,It h20 hp,λ_ _=>rfl,λh=>kR⟩
  | some q=>exact⟨_,Iu h20 hp,(λh=>kR),λ_ _=>rfl⟩
 have hq:(vn s).isSome=true->jt ((vn s).getD [])/\jq ((vn s).getD [])=true:=by
  cases hp:vn s with
  | none=>intro h;cases h
  | some q=>exact λ_=>⟨L8 (Gs hp).2.1,(Gs hp).2.1⟩
 rw [hA];generalize (vn s).getD []=q at hpa hAs hq;generalize (vn s).isSome=ok at hpa hAn hAs hq
 have hAl:∀ l,(A l).length<=2000:=by
  intro l
  cases ok
  .rw [hAn rfl];decide
  .rw [hAs rfl];exact DS (hq rfl).1 (hq rfl).2
 have fx:= h20';have p1:=hpa;have b1:=PM;refine zf ?_;clear fx p1 b1;refine zQ (λn st=>∃ i:Nat,n=ls.length - i/\i<=ls.length/\st.tm 19=jd ls/\st.tm 20=iv ls.length/\st.tm 21=iv i/\st.tm 6=bv ok/\st.tm 5=.pt (.s 5) 0/\st.hp (.s 5)=some (.row 1 [[jc q]])/\st.tm 7=.pt (.s 7) 0/\bQ st.hp (.s 7) 48 5 (kI 10 ((ls.take i).map A))) ls.length ?_ ?_
 .exact⟨0,qA,qA,qB,qB,qB,qB,qB,qB,qB,.inl ⟨xT,qB⟩⟩
 rintro n st - - ⟨i,rfl,hi,h19,h20,h21,h6,h5,hp5,h7,hB⟩;have hLl:=E6 hAl (ls.take i);rw [im] at hLl;by_cases hil:i<ls.length
 .obtain⟨l,hl⟩:=gX hil;obtain⟨_,hlE⟩:=gS hl;have hnext:=E7 (A:=A) hl;have hal:=hAl l;generalize kI 10 ((ls.take i).map A)=L at hB hLl hnext;obtain⟨a,ha⟩:∃ a,A l=a:=⟨_,rfl⟩;rw [ha] at hnext hal;have hl1:∀ c,2000000000<=c->a.length+1<=c:=λc hc=>qA
  cases ok
  .obtain rfl:gG=a:=by rw [<- ha];exact (hAn rfl l).symm
   refine qJ ?_<|y8 h19 h20 h21 h6 h5 hp5 h7 hil hl<|hlE;intro K hK;have fx:=aI h7 h7;refine Nj 7 KU FE rfl rfl (hB.go lF lF lF) (hs:=qB) (hlen:=qu) (h:=?_);clear fx;rintro st' - hg htm hhp f1 f2;have g19:st'.tm 19=jd ls:=by simp [htm,h19]
   have g20:st'.tm 20=iv ls.length:=by simp [htm,h20]
   have g21:st'.tm 21=iv i:=by simp [htm,h21]
   have g6:st'.tm 6=bv false:=by simp [htm,h6]
   have g5:st'.tm 5=.pt (.s 5) 0:=by simp [htm,h5]
   have gp5:st'.hp (.s 5)=some (.row 1 [[jc q]]):=by simp [hhp,hp5]
   have g7:st'.tm 7=.pt (.s 7) 0:=by simp [htm,h7]
   clear htm hhp;refine qJ ?_<|jI g19 g20 g21 g6 g5 gp5<|g7;refine⟨ls.length - (i+1),qA,i+1,rfl,qA,by simp [g19],by simp [g20],by simp [g21];exact qm qA qA,by simp [g6],by simp [g5],by simp [gp5],by simp [g7],?_⟩;rw [hnext];exact .inr ⟨qB,by simpa [gG] using f1,by simpa [gG] using f2⟩
  .have han:=QS gl hgl hgm hge hgp q l (hq rfl).1 (hq rfl).2 (hls l (gM hl));rw [<- hAs rfl,ha] at han;have fx:=jS h19 h20 h21 h6 h5 hp5 h7 hil hl hlE<|hl1;have c1:=han;refine qK ?_;clear fx c1;intro K hK;have fx:=aI h7 h7;refine Nj 7 KU FE rfl rfl (hB.go lF lF lF) (hs:=qB) (hlen:=qu) (h:=?_);clear fx;rintro st' - hg htm hhp f1 f2;have g19:st'.tm 19=jd ls:=by simp [htm,h19]
   have g20:st'.tm 20=iv ls.length:=by simp [htm,h20]
   have g21:st'.tm 21=iv i:=by simp [htm,h21]
   have g6:st'.tm 6=bv true:=by simp [htm,h6]
   have g5:st'.tm 5=.pt (.s 5) 0:=by simp [htm,h5]
   have gp5:st'.hp (.s 5)=some (.row 1 [[jc q]]):=by simp [hhp,hp5]
   have g7:st'.tm 7=.pt (.s 7) 0:=by simp [htm,h7]
   clear htm hhp;refine qJ ?_<|jI g19 g20 g21 g6 g5 gp5<|g7;refine⟨ls.length - (i+1),qA,i+1,rfl,qA,by simp [g19],by simp [g20],by simp [g21];exact qm qA qA,by simp [g6],by simp [g5],by simp [gp5],by simp [g7],?_⟩;rw [hnext];exact .inr ⟨qB,by simpa using f1,by simpa using f2⟩
 .obtain rfl:i=ls.length:=qA;rw [kC] at hB hLl;refine qJ ?_<|zN h19 h20 h21 h7<|hil;intro K hK;have fx:=aI h7 h7;refine qBd (l:=kI 10 (ls.map A)) 7 TH FE rfl rfl (hB.go lF lF lF) (h:=?_);clear fx;refine qJ ?_<|qd;refine qF [] .nil qE qB
abbrev Fr:qV:=ct<|.done
def kN (ls:List qU):Nat:=(ls.map List.length).sum
theorem qAk {ls:List qU} {i:Nat} {l:qU} (h:ls[i]?=some l):kN (ls.take (i+1))=kN (ls.take i)+l.length:=by
 simp [kN,uG,h]
theorem qAi {ls:List qU} {l:qU} (h:l∈ls):l.length<=kN ls:=by
 induction ls with
 | nil=>simp at h
 | cons x ls ih =>
  simp only [kN,al,List.sum_cons] at ih ⊢;rcases vQ.1 h with rfl|h
  .omega
  .have:=ih h;omega
theorem qAj {ls:List qU} {i:Nat}:kN (ls.take i)<=kN ls:=by
 have:kN ls=kN (ls.take i)+kN (ls.drop i) :=
  calc kN ls=kN (ls.take i++ls.drop i):=by rw [rI]
   _=_:=by simp only [kN,mJ,List.sum_append]
 omega
theorem qBe {ws:List qU} {i:Nat} {w:qU}:j3 (uo ws) i 0 [tx w]=uo (ws.set i w):=by
 apply y6;intro j;simp only [j3,fE,Nk,dt];by_cases e:i=j
 .subst e
  cases h:ws[i]? with
  | none=>simp [(List.getElem?_eq_none_iff.1 h)]
  | some u=>simp [(gS h).1]
 .simp [e]
theorem Γ (gl) (ls:List qU) (hl:ls.length<=1152921504606846976) (hw:∀ l∈ls,l.length<=9223372036854775807):qM prog gl 6 [jd ls,iv 1048576] (λ_ y _=>y=iv (if ls.length+kN ls<=1048576 then 1048576 - ((ls.length+kN ls:Nat):Int) else -1)):=by
 refine qM.q9 func6 [.tmp 4] ntmps6 λC w g root=>?_;have w1:IntKind.i64.wrap ((1048576:Int) - (ls.length:Int))=(1048576:Int) - (ls.length:Int):=qm qA qA;by_cases h0:1048576<ls.length
 .have h0':(1048576:Int) - (ls.length:Int)<0:=qA;rw [if_neg qA];refine qJ ?_<|aI w1<|h0';refine qF [] .nil qE qB
 have h0':¬ (1048576:Int) - (ls.length:Int)<0:=qA;refine qJ ?_<|aI w1<|h0';refine zQ (λn st=>∃ i:Nat,n=ls.length - i/\i<=ls.length/\ls.length+kN (ls.take i)<=1048576/\st.tm 0=jd ls/\st.tm 1=iv ((1048576:Int) - ((ls.length+kN (ls.take i):Nat):Int))/\st.tm 5=iv i) ls.length ?_ ?_
 .exact⟨0,qA,qA,by simp [kN];omega,qB,by simp [kN,w1],qB⟩
 rintro n st - - ⟨i,rfl,hi,hT,t0,t1,t5⟩;by_cases hil:i<ls.length
 .obtain⟨l,hl⟩:=gX hil;obtain⟨_,hlE⟩:=gS hl;have hll:=hw l (gM hl);have htk:=qAk hl;obtain⟨T,hTd⟩:∃ T,ls.length+kN (ls.take i)=T:=⟨_,rfl⟩;rw [hTd] at hT t1;have w2:IntKind.i64.wrap ((1048576:Int) - (T:Int) - (l.length:Int))=(1048576:Int) - (T:Int) - (l.length:Int):=qm qA qA;by_cases hb:(1048576:Int) - (T:Int) - (l.length:Int)<0
  .have:=qAj (ls:=ls) (i:=i+1);rw [if_neg qA];refine qJ ?_<|jN t0 t1 t5 hil hl hlE w2<|hb;refine qF [] .nil qE qB
  .skip
   refine qJ ?_<|jN t0 t1 t5 hil hl hlE w2<|hb;exact⟨ls.length - (i+1),qA,i+1,rfl,qA,qA,uv,by simp [w2];omega,jM⟩
 .obtain rfl:i=ls.length:=qA;rw [kC] at hT t1;rw [if_pos hT];refine qJ ?_<|zD t0 t1 t5<|hil;refine qF [] .nil qE qB
theorem qA9 (gl) (ls:List qU) (hl:ls.length<=1048576):qM prog gl 8 [jd ls] (λr y H'=>y=.hs r 1 0 ls.length/\H' r=some (.row 1 (uo ls))):=by
 refine qM.q9 func8 [.tmp 2] ntmps8 λC w g root=>?_;refine qJ ?_<|qd;refine zQ (λn st=>∃ i:Nat,n=ls.length - i/\i<=ls.length/\st.tm 0=jd ls/\st.tm 3=.hs (.s 3) 1 0 ls.length/\st.hp (.s 3)=some (.row 1 (uo (pre [] ls i)))/\st.tm 4=iv i) ls.length ?_ ?_
 .exact⟨0,qA,qA,qB,qB,by simp [VV,uo],qB⟩
 rintro n st - - ⟨i,rfl,hi,h0,h3,hp3,h4⟩;by_cases hil:i<ls.length
 .obtain⟨x,hxi⟩:=gX hil;obtain⟨_,hxe⟩:=gS hxi;have yX:=VU (z:=([]:qU)) hxi;have hpl:=VT (z:=([]:qU)) hi;refine qJ ?_<|jN h0 h4 h3 hp3 hxi hxe hil<|hpl;refine⟨ls.length - (i+1),qA,i+1,rfl,qA,vg,uT,by simp [<- yX,qBe],jM⟩
 .obtain rfl:i=ls.length:=qA;rw [VS] at hp3;refine qJ ?_<|zN h0 h3 hp3 h4<|hil;refine qF [(.s 2,root)] (.one rfl) qE ⟨qB,ma⟩
theorem qA8 (gl) (ls:List qU) (hl:ls.length<=1048576):qM prog gl 8 [jd ls] (λ_ y _=>y=jd ls) :=
 (qA9 gl ls hl).settle λr y H' h=>⟨jd ls,B3,rfl⟩
theorem Qa (gl) (ls:List qU) (hl:ls.length<=1048576):qM prog gl 10 [jd ls,jd ls] (λ_ y _=>y=bv true):=by
 refine qM.q9 func10 [.tmp 4] ntmps10 λC w g root=>?_;have fx:= @qz;refine qK ?_
 repeat ((first|refine qQ (id:=6) Fr mixed ?_);refine zK ?_;refine qK ?_)
 clear fx;refine zQ (λn st=>∃ i:Nat,n=ls.length - i/\i<=ls.length/\st.tm 0=jd ls/\st.tm 1=jd ls/\st.tm 5=iv i) ls.length ⟨0,qB⟩ ?_;rintro n st - - ⟨i,rfl,hi,t0,t1,t5⟩;by_cases hil:i<ls.length
 .obtain⟨l,hlx⟩:=gX hil;obtain⟨_,hlE⟩:=gS hlx;have fx:=jI t0 t1 t5 hil hlx hlE<|@qz;refine qK ?_
  repeat ((first|refine qQ (id:=6) Fr mixed ?_);refine zK ?_;refine qK ?_)
  clear fx;exact⟨ls.length - (i+1),qA,i+1,rfl,qA,uv,lG,jM⟩
 .obtain rfl:i=ls.length:=qA;have fx:=zD t0 t1 t5<|hil;refine qK ?_
  repeat ((first|refine qQ (id:=6) Fr mixed ?_);refine zK ?_;refine qK ?_)
  clear fx;refine qF [] .nil qE qB
theorem OL (gl:Nat->Option (List AV)) (hgl:gl 4=some fb) {m:Int} (hgm:gl 3=some [.sc (.int .i64 m)]) (hgs:gl 1=some ((dF vH).map AV.sc)) (hge:gl 0=some ((dF aD).map AV.sc)) (hgp:gl 2=some (fp.map .sc)) (s:qU) (ls:List qU) (hbig:s.length<=9223372036854775807) (hl:ls.length<=1152921504606846976) (hw:∀ l∈ls,l.length<=9223372036854775807) :
  qM prog gl 3 [tx s,jd ls] (λ_ z _=>z=bv true):=by
 refine qM.q9 func3 [.tmp 4] ntmps3 λC w g root=>?_;by_cases hlen:1048576<s.length
 .have hl1:(1048576:Int)<s.length:=qA;refine qJ ?_<| hl1;refine qF [] .nil qE qB
 have hl1:¬ (1048576:Int)<s.length:=qA;have hsz:=Γ gl ls hl hw;by_cases ht:ls.length+kN ls<=1048576
 case neg =>
  rw [if_neg ht] at hsz;have fx:= hl1;have c1:=hsz;refine qK ?_;clear fx c1;refine qF [] .nil qE qB
 rw [if_pos ht] at hsz;have ht':¬ (1048576:Int) - ((ls.length+kN ls:Nat):Int)<0:=qA;have hls:∀ l∈ls,l.length<=1048577:=λl h=>by have:=qAi h;omega
 have hto:=qA8 gl ls qA;have heq:=Qa gl ls qA;have hsa:=Z5 gl s ls qA hls;have hia:=SF gl hgl hgm hgs hge hgp s ls qA hls;generalize gn s ls=v at hsa hia;generalize ((ls.length+kN ls:Nat):Int)=T at hsz ht';have fx:=qk hl1 ht'<|@qz;have c1:=hsz;have p1:=hto;have c2:=hsa;have c3:=hia;have c4:=heq;refine zf ?_;clear fx c1 p1 c2 c3 c4;refine qF [] .nil qE qB
theorem VD:laidOutB prog=true:=qc
theorem VG:mapsRowed prog=true:=qc
theorem VI:(prog.stops==[])=true:=qc
theorem VC:(prog.stopKnobs==[])=true:=qc
theorem VB:prog.plainKeys=true:=qc
theorem VA:prog.stopsHeard=true:=qc
theorem VH:prog.mayEnter=true:=qc
theorem VE:prog.liftsFinal=false:=qc
theorem VF:(prog.make==some .cut)=true:=qc
theorem VX:HU prog:=⟨VD,VG,VI,VC,VB,VA,VH,VE,VF⟩
end Go.Proofs.YtjgpejikjhojcaaGreatDoor
end
