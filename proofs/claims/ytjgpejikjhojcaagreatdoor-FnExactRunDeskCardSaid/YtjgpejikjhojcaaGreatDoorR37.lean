import Derived.Test.YtjgpejikjhojcaaGreatDoorR34
import Derived.Test.YtjgpejikjhojcaaGreatDoorR19
set_option linter.unusedSimpArgs false
set_option linter.unusedVariables false
set_option maxRecDepth 100000
set_option maxHeartbeats 4000000

section
namespace Go.Proofs.YtjgpejikjhojcaaGreatDoor
open Go Go.Hm Go.Proofs Tryz
theorem ZI {p:qC} (h:zr p) {i:Nat} {k:qX} (hk:p[i]?=some k):k.kind=0\/k.kind=1\/k.kind=2:=by
 have:=h.head i k hk;unfold uq at this
 split at this <;> omega
theorem Z0 {l:List Int}:sorted (sorted l)=sorted l:=GZ λx hx=>by
 rw [Go.Hm.mem_sorted];exact⟨λh=>h.1,λh=>⟨h,qA,qA⟩⟩
theorem Mt {p:qC} {b:Nat}:sorted (qY p b)=qY p b:=by
 unfold qY
 split
 .exact Z0
 .rfl
theorem VJ {xs:List Int} {x:Int}:(yj xs x == -1)=!decide (x∈xs):=by
 have h1:=l9 (xs:=xs) (x:=x);have h2:=CX (xs:=xs) (x:=x);by_cases h:x∈xs
 .have:=h1.2 h;simp [h];omega
 .have:¬ 0<=yj xs x:=λe=>h (h1.1 e);simp [h];omega
theorem JJ (gl) (p:qC) (hp:zr p) (b:Nat) (k:qX) (hk:p[b]?=some k) (hk1:k.kind=1):qM prog gl 160 [vq p,iv b] (λr y H'=>y=.hs r 1 0 (qx p b).length/\H' r=some (.row 1 (qj (qx p b)))):=by
 have hh:=hp.jj;have hl7:=hp.len;obtain⟨qy,hbE⟩:=gS hk;have hka:j9 p b=k.kind:=fP;have hsg:=pZ (p:=p) qy;rw [cu hh hk] at hsg;obtain⟨_,hse⟩:=gS hsg
 have hc:qx p b=sorted (ja (kU p b) 8):=by
  rw [Z1];simp [qx,hka,hk1]
 have hkd:(k.kind==1)=true:=by simpa using hk1
 rw [hc];refine qM.q9 func160 [.tmp 4] ntmps160 λC w g root=>?_;have fx:=zN hsg hse hkd qy<|@qz;have c1:=xb gl p hp b k hk;refine qK ?_;clear fx c1;refine zQ (λn st=>∃ x:Nat,n=8 - x/\x<=8/\st.tm 0=vq p/\st.tm 1=iv b/\st.tm 5=.pt (.s 5) 0/\st.hp (.s 5)=some (.row 8 [zY (ja (kU p b) x)])/\st.tm 6=.pt (.s 6) 0/\st.hp (.s 6)=some (.row 8 [zY (qY p b)])/\st.tm 19=iv x) 8 ?_ ?_
 .exact⟨0,qA,qA,qB,qB,qB,qE,qB,qB,qB⟩
 rintro n st - - ⟨x,rfl,hx,h0,h1,h5,hp5,h6,hp6,h19⟩;by_cases hx8:x<8
 .have hx8':(x:Int)<8:=qA;have hfi:kU p b x=(uA b k x&&!decide ((x:Int)∈qY p b)):=by simp only [kU,hk]
  have hn2:=Fe (f:=kU p b) (n:=x)
  have hno:(x:Int)∉ja (kU p b) x:=λh=>by
   rw [sm] at h;omega
  have hbg:=tq (l:=qY p b) hx8;obtain⟨hbgl,hbgE⟩:=gS hbg;generalize hL:ja (kU p b) x=L at hp5 hn2 hno
  cases hlo:uA b k x
  .rw [if_neg (by rw [hfi,hlo];simp)] at hn2
   all_goals have fx:=qh h0 h1 h5 hp5 h6 hp6 h19 hx8 hx8' hsg hse qy<|hlo
   repeat' (first|refine zm ?_|refine λ(K:St->Prop) hK=>?_|refine zH (hF:=FJ _ p hp b k hk x hx8) (h:=?_))
   all_goals try clear fx
   exact⟨8 - (x+1),qA,x+1,rfl,qA,vg,zl,yH,by simp [hn2,Hz hx8 hno],vt,mf,jM⟩
  cases hce:decide ((x:Int)∈qY p b)
  rotate_left
  .rw [if_neg (by rw [hfi,hlo,hce];decide)] at hn2
   all_goals have fx:=qh h0 h1 h5 hp5 h6 hp6 h19 hx8 hx8' hsg hse qy<|zN hlo hbg hbgE hbgl<|hce
   repeat' (first|refine zm ?_|refine λ(K:St->Prop) hK=>?_|refine zH (hF:=FJ _ p hp b k hk x hx8) (h:=?_))
   all_goals try clear fx
   exact⟨8 - (x+1),qA,x+1,rfl,qA,vg,zl,yH,by simp [hn2,Hz hx8 hno],vt,mf,jM⟩
  .rw [if_pos (by rw [hfi,hlo,hce];rfl)] at hn2
   all_goals have fx:=qh h0 h1 h5 hp5 h6 hp6 h19 hx8 hx8' hsg hse qy<|zN hlo hbg hbgE hbgl<|hce
   repeat' (first|refine zm ?_|refine λ(K:St->Prop) hK=>?_|refine zH (hF:=FJ _ p hp b k hk x hx8) (h:=?_))
   all_goals try clear fx
   refine⟨8 - (x+1),qA,x+1,rfl,qA,vg,zl,yH,?_,vt,mf,jM⟩;rw [hn2];simp [<- mQ (l:=L) (y:=(x:Int)) rfl hx8]
 .have hge:x=8:=qA;subst hge;have fx:=qk h5 hp5<|h19;have d1:=CM gl (ja (kU p b) 8);refine qK ?_;clear fx d1;exact y7 (t:=4) j7 j7 qB
theorem Es (gl) (p:qC) (hp:zr p) (b:Nat) (k:qX) (hk:p[b]?=some k) (x:Nat) (hx:x<8):qM prog gl 115 [vq p,iv b,iv x] (λ_ y _=>y=iv (bb p b x)):=by
 have qy:=(gS hk).1;have hcl:=cT (p:=p) (b:=b);have hfl:=fg (p:=p) (b:=b);have hbd:=CX (xs:=zZ p b) (x:=(x:Int));have hw:IntKind.i64.wrap (((qY p b).length:Int)+yj (zZ p b) x)=(qY p b).length+yj (zZ p b) x:=qm qA qA;have hli:=CM gl (qY p b);rw [Mt] at hli;have hpn:=VJ (xs:=qY p b) (x:=(x:Int));refine qM.q9 func115 [.tmp 6] ntmps115 λC w g root=>?_;by_cases hm:(x:Int)∈qY p b
 .have hpn':(yj (qY p b) x == -1)=false:=by rw [hpn];simp [hm]
  all_goals have fx:=aI hpn'<|@qz
  repeat' (first|refine zm ?_|refine λ(K:St->Prop) hK=>?_|refine zH (hF:=xb _ p hp b k hk) (h:=?_)|refine wW (hF:=hli) (h:=?_)|refine zH (hF:=sy _ (qY p b) _ qA) (h:=?_))
  all_goals try clear fx
  refine qF [] .nil qE ?_;simp [bb,hm]
 .have hpn':(yj (qY p b) x == -1)=true:=by rw [hpn];simp [hm]
  all_goals have fx:=qk hpn' hw<|@qz
  repeat' (first|refine zm ?_|refine λ(K:St->Prop) hK=>?_|refine zH (hF:=xb _ p hp b k hk) (h:=?_)|refine wW (hF:=hli) (h:=?_)|refine zH (hF:=sy _ (qY p b) _ qA) (h:=?_)|refine wW (hF:=Ej _ p hp b qy) (h:=?_)|refine zH (hF:=sy _ (zZ p b) _ qA) (h:=?_))
  all_goals try clear fx
  refine qF [] .nil qE ?_;simp [bb,hm]
theorem Ak (gl) (p:qC) (hp:zr p) (b:Nat) (k:qX) (hk:p[b]?=some k) (x:Nat) (hx:x<8):qM prog gl 234 [vq p,iv b,iv x] (λ_ y _=>y=iv (j5 p b x)):=by
 have hh:=hp.jj;have hl7:=hp.len;obtain⟨qy,hbE⟩:=gS hk;have hka:j9 p b=k.kind:=fP;have hsg:=pZ (p:=p) qy;rw [cu hh hk] at hsg;obtain⟨_,hse⟩:=gS hsg;have hop:=l5 (p:=p) (c:=b) (x:=(x:Int));have hx8:(x:Int)<8:=qA;refine qM.q9 func234 [.tmp 6] ntmps234 λC w g root=>?_
 cases ho:(zI p b x == -1)
 rotate_left
 .skip
  have fx:=zD hsg hse qy<|ho;have c1:=cx gl p hp b k hk x hx;refine qK ?_;clear fx c1;refine qF [] .nil qE ?_;have ho':zI p b x=-1:=by simpa using ho
  simp [j5,ho']
 have hno:¬ zI p b x=-1:=by simpa using ho
 have hnl:¬ zI p b x<0:=qA
 cases hb:(zI p b x==(b:Int))
 .skip
  have fx:=jH hsg hse qy ho hb<|@qz;have c1:=cx gl p hp b k hk x hx;refine qK ?_;clear fx c1;refine qF [] .nil qE ?_;have hb':¬ zI p b x=b:=by simpa using hb
  simp only [j5,if_neg hnl,if_pos hb']
  rfl
 have hb':zI p b x=b:=by simpa using hb
 have hnn:¬ zI p b x≠b:=λh=>h hb'
 cases hkd:(k.kind==2)
 rotate_left
 .skip
  have fx:=jI hsg hse qy ho hb @qz<|hkd;have c1:=cx gl p hp b k hk x hx;refine qK ?_;clear fx c1;refine qF [] .nil qE ?_;have hkd':k.kind=2:=gh;simp only [j5,if_neg hnl,if_neg hnn,hka,if_pos hkd']
  rfl
 have hkd':¬ k.kind=2:=gh;have hbg:=tq (l:=qY p b) hx;obtain⟨hbgl,hbgE⟩:=gS hbg
 cases hce:decide ((x:Int)∈qY p b)
 all_goals
  have fx:=qh hsg hse qy ho hb @qz hkd hbg hbgE hbgl hx hx8<|hce;have c1:=cx gl p hp b k hk x hx;have c2:=xb gl p hp b k hk;refine qK ?_;clear fx c1 c2;refine qF [] .nil qE ?_;simp at hce;simp only [j5,if_neg hnl,if_neg hnn,hka,if_neg hkd',hce]
  rfl
abbrev fb:List AV:=[iv 8,iv 5,iv 11,iv 5,iv 2]
theorem DP (gl:Nat->Option (List AV)) (hgl:gl 4=some fb) (p:qC) (hp:zr p) (b:Nat) (k:qX) (hk:p[b]?=some k) (x:Nat) (hx:x<8) (w:Int) (hw0:0<=w) (hw2:w<=2):qM prog gl 207 [vq p,iv b,iv x,iv w] (λ_ y _=>y=.agg [iv (jy p b x w).1,iv (jy p b x w).2]):=by
 have hw8:IntKind.i64.wrap (8+w)=8+w:=qm qA qA;have hw11:IntKind.i64.wrap (11+w)=11+w:=qm qA qA;have hw22:IntKind.i64.wrap (2+w)=2+w:=qm qA qA;have hw5:IntKind.i64.wrap (5+w)=5+w:=qm qA qA;have hsf:=χ (x:=(x:Int)) hk (hp.dW hk).symm (ZI hp hk);have hfl:=pD (p:=p) (b:=b)
 have hs5:j5 p b x=0\/j5 p b x=1\/j5 p b x=2\/j5 p b x=3\/j5 p b x=4:=by
  unfold j5
  split
  .simp
  .split
   .simp
   .split
    .simp
    .split <;> simp
 refine qM.q9 func207 [.cell 8 207] ntmps207 λC w g root=>?_;rcases hs5 with h|h|h|h|h
 .skip
  have fx:=qk h hgl<|hw8;have c1:=Ak gl p hp b k hk x hx;refine qK ?_;clear fx c1;refine qF [] .nil qE ?_;simp [jy,h]
 .skip
  have fx:=qk h hgl<|hw5;have c1:=Ak gl p hp b k hk x hx;have c2:=Es gl p hp b k hk x hx;refine qK ?_;clear fx c1 c2;refine qF [] .nil qE ?_;simp [jy,h]
 .skip
  have fx:=qk h hgl<|hw11;have c1:=Ak gl p hp b k hk x hx;refine qK ?_;clear fx c1;refine qF [] .nil qE ?_;simp [jy,h]
 .skip
  have fx:=qk h hgl<|hw5;have c1:=Ak gl p hp b k hk x hx;have c2:=Es gl p hp b k hk x hx;refine qK ?_;clear fx c1 c2;refine qF [] .nil qE ?_;simp [jy,h]
 .skip
  all_goals have fx:=qk h hgl<|hw22
  repeat' (first|refine zm ?_|refine λ(K:St->Prop) hK=>?_|refine zH (hF:=Ak _ p hp b k hk x hx) (h:=?_)|refine wW (hF:=JJ _ p hp b k hk (hsf (.inr h))) (h:=?_)|refine zH (hF:=sy _ (qx p b) _ qA) (h:=?_))
  all_goals try clear fx
  refine qF [] .nil qE ?_;simp [jy,h]
theorem Gq (gl) (s:q8) (hkd:0<=s.kind/\s.kind<=11):qM prog gl 208 [s.av] (λr y H'=>y=.hs r 2 0 (vP s).length/\H' r=some (.row 2 (vk (vP s)))):=by
 have hrl:=s.iM;have hw5:IntKind.i64.wrap ((s.reads.length:Int) - 1)=(s.reads.length:Int) - 1:=qm qA qA;obtain⟨kd,to,a,c⟩:=s;simp only at hkd;refine qM.q9 func208 [.tmp 2] ntmps208 λC w g root=>?_;rcases KF hkd with rfl|rfl|rfl|rfl|rfl|rfl|rfl|rfl|rfl|rfl|rfl|rfl
 case inr.inr.inr.inr.inr.inl =>
  have hrd:(⟨5,to,a,c⟩:q8).reads=if c=-1 then [a] else [a,c]:=by simp [q8.reads]
  rw [hrd] at hw5;have hcr:=I2 gl a c;generalize hL:(if c=-1 then [a] else [a,c])=L at hw5 hcr hrd;have fx:= hw5;have c1:=bf gl ⟨5,to,a,c⟩;have d1:=hcr;refine qK ?_;clear fx c1 d1;refine y7 (t:=2) ?_ ?_ ?_
  all_goals simp [vP,vk,hrd]
 all_goals
  all_goals have fx:=qd
  repeat' (first|refine zm ?_|refine λ(K:St->Prop) hK=>?_|refine zH (hF:=bf _ ⟨_,to,a,c⟩) (h:=?_))
  all_goals try clear fx
  refine y7 (t:=2) ?_ ?_ ?_
  all_goals simp [vP,vk]
theorem SK (gl:Nat->Option (List AV)) (hgl:gl 4=some fb) (p:qC) (b:Nat) (k:qX) (s:q8) (hp:zr p) (hk:p[b]?=some k) (hsm:s∈k.body):qM prog gl 163 [vq p,iv b,s.av] (λr y H'=>y=.hs r 2 0 (kM p b s).length/\H' r=some (.row 2 (vk (kM p b s)))):=by
 have hrl:=s.iM;have hn:=hp.names k (gM hk);have hkd:=hn.kinds s hsm;obtain⟨ht0,ht7⟩:=hn.zB s hsm;obtain⟨T,hT⟩:∃ T:Nat,s.to=T:=⟨s.to.toNat,qA⟩;have hT8:T<8:=qA;have hav:s.av=.agg [iv s.kind,iv T,iv s.a,iv s.b]:=by rw [<- hT]
 rw [NI];refine qM.q9 func163 [.tmp 6] ntmps163 λC w g root=>?_
 all_goals have fx:=qd
 repeat' (first
  | refine wV ?_|refine bN ?_|refine af ?_|refine ae λK hK=>?_
  | ((with_reducible refine uz hK ?_);clear hK K)
  | (with_reducible first|refine wT ?_|refine cY ?_|refine dE ?_|refine cX ?_|refine bL ?_|refine bi ?_|refine cZ qe ?_)
  | refine dG ?_
  | refine bO ?_
  | (with_reducible first|refine wB ?_|refine ag (h:=?_)|refine dk (h:=?_)|refine dH (T:=196) (h:=?_)|refine bP (T:=196) (h:=?_)|refine dI (h:=?_))
  | ((with_reducible refine cj 110 rfl ?_);refine zH (hF:=bf _ s) (h:=?_))
  | (refine Gu (hF:=GB _ qc s hkd) (h:=?_))
  | (with_reducible refine we (h:=?_))
  | refine bz (h1:=?_)|refine dJ (h1:=?_)
  | fail)
 all_goals try clear fx
 refine zQ (λn st=>∃ i:Nat,n=s.reads.length - i/\i<=s.reads.length/\st.tm 0=vq p/\st.tm 1=iv b/\st.tm 5=.pt (.s 5) 0/\st.hp (.s 5)=some (.row 4 [s.cells])/\st.tm 14=.hs (.s 14) 1 0 s.reads.length/\st.hp (.s 14)=some (.row 1 (qj s.reads))/\st.tm 15=iv s.reads.length/\st.tm 16=iv i/\st.tm 7=.hs (.s 7) 2 0 (bo p b s i).length/\st.hp (.s 7)=some (.row 2 (vk (bo p b s i)))) s.reads.length ?_ ?_
 .exact⟨0,qA,qA,qB,qB,qB,qB,qB,qB,qB,qB,qB,gm⟩
 rintro n st - - ⟨i,rfl,hi,h0,h1,h5,hp5,h14,hp14,h15,h16,h7,hp7⟩;have hll:(bo p b s i).length<=10:=qu;by_cases hil:i<s.reads.length
 .obtain⟨u,hu⟩:=gX hil;obtain⟨_,huE⟩:=gS hu;obtain⟨hu0,hu7⟩:=hn.reads s hsm u (gM hu);obtain⟨U,rfl⟩:∃ U:Nat,u=U:=⟨u.toNat,qA⟩;have hnx:=L7 (p:=p) (b:=b) hu;generalize hL:bo p b s i=L at h7 hp7 hnx hll;have fx:=qh h0 h1 h5 hp5 h14 hp14 h15 h16 h7 hp7 hu huE<|aI hil<|hll;have c1:=DP gl hgl p hp b k hk U qA 0 qe qe;refine qK ?_;clear fx c1;refine⟨s.reads.length - (i+1),qA,i+1,rfl,qA,vg,zl,yH,wt,by simp [h14],by simp [hp14],by simp [h15],jM,by simp [hnx],?_⟩;rw [hnx];simp [vk]
 .have hge:i=s.reads.length:=qA;rw [hge] at h7 hp7 hll;have hwl:=Nd s;generalize hL:bo p b s s.reads.length=L at h7 hp7 hll;by_cases hk11:s.kind=11
  .have yX:vY p b s=[jy p b T 2]:=by simp [vY,hk11,hT]
   rw [yX];generalize hWL:vP s=WL at hwl;have hwo:=Gq gl s hkd;rw [hWL,hav] at hwo;have hk11':(s.kind==11)=true:=by simpa using hk11
   have fx:=qh h0 h1 h5 hp5 h14 hp14 h15 h16 h7 hp7 hil hge<|zD hll hwl hk11'<|hT;have d1:=hwo;have c1:=DP gl hgl p hp b k hk T hT8 2 qe qe;refine qK ?_;clear fx d1 c1;refine y7 (t:=6) ?_ ?_ ?_
   all_goals simp [AK,gW,yG,cF]
  .have hk11':(s.kind==11)=false:=by simpa using hk11
   by_cases yX:0<=s.kind/\s.kind<=6
   .have hsl:vY p b s=[jy p b T 1]:=by simp [vY,hk11,hT,yX]
    rw [hsl];generalize hWL:vP s=WL at hwl;have hwo:=Gq gl s hkd;rw [hWL,hav] at hwo;have hbi:=D0 gl s;rw [decide_eq_true (.inl yX:s.cz\/s.kind=11),hav] at hbi;have fx:=qh h0 h1 h5 hp5 h14 hp14 h15 h16 h7 hp7 hil hge<|zD hll hwl hk11'<|hT;have d1:=hwo;have c1:=hbi;have c2:=DP gl hgl p hp b k hk T hT8 1 qe qe;refine qK ?_;clear fx d1 c1 c2;refine y7 (t:=6) ?_ ?_ ?_
    all_goals simp [AK,gW,yG,cF]
   .have hsl:vY p b s=[]:=by simp only [vY,if_neg hk11,if_neg yX]
    rw [hsl];generalize hWL:vP s=WL at hwl;have hwo:=Gq gl s hkd;rw [hWL] at hwo;have hbi:=D0 gl s;rw [decide_eq_false (λh:s.cz\/s.kind=11=>h.elim yX hk11)] at hbi;have fx:=qh h0 h1 h5 hp5 h14 hp14 h15 h16 h7 hp7 hil hge<|qk hll hwl<|hk11';have d1:=hwo;have c1:=hbi;refine qK ?_;clear fx d1 c1;refine y7 (t:=6) ?_ ?_ ?_
    all_goals simp [AK,gW,yG,cF]
end Go.Proofs.YtjgpejikjhojcaaGreatDoor
end
section

end
section
namespace Go.Proofs.YtjgpejikjhojcaaGreatDoor
open Go Go.Hm Go.Proofs Tryz
abbrev Fm:qV:=.q 0<|.q 1<|.q 2<|.q 3<|.q 5<|.q 6<|.q 8<|.q 9<|.q 12<|.q 13<|.l2 4 [13,12,9,8,6,5,1,0] (.l2 7 [13,12,9,8,1,0] (.l2 10 [13,12,1,0] (.l2 11 [13,12,1,0] (.l2 14 [1,0] (.q 15<|.l 16 [15,1,0]<|.l 17 []<|.done) 16 [13,12,1,0] (.l 14 [1,0]<|.q 15<|.l 17 []<|.done)) 16 [13,12,1,0] (.l 11 [13,12,1,0]<|.l 14 [1,0]<|.q 15<|.l 17 []<|.done)) 16 [13,12,9,8,1,0] (.l 10 [13,12,1,0]<|.l 11 [13,12,1,0]<|.l 14 [1,0]<|.q 15<|.l 17 []<|.done)) 16 [13,12,9,8,6,5,1,0] (.l 7 [13,12,9,8,1,0]<|.l 10 [13,12,1,0]<|.l 11 [13,12,1,0]<|.l 14 [1,0]<|.q 15<|.l 17 []<|.done)) 16 [13,12,9,8,6,5,3,2,1,0] (.l 4 [13,12,9,8,6,5,1,0]<|.l 7 [13,12,9,8,1,0]<|.l 10 [13,12,1,0]<|.l 11 [13,12,1,0]<|.l 14 [1,0]<|.q 15<|.l 17 []<|.done)
abbrev Fo:qV:=.q 0<|.q 1<|.q 2<|.q 3<|.q 4<|.l 5 [1,0]<|.l 6 []<|.q 7<|.l 8 []<|.done
theorem Qj (gl) (p:qC) (hp:zr p) (b:Nat) (k:qX) (hk:p[b]?=some k):qM prog gl 160 [vq p,iv b] (λr y H'=>y=.hs r 1 0 (qx p b).length/\H' r=some (.row 1 (qj (qx p b)))):=by
 by_cases hk1:k.kind=1
 .exact JJ gl p hp b k hk hk1
 have hh:=hp.jj;obtain⟨qy,hbE⟩:=gS hk;have hka:j9 p b=k.kind:=fP;have hsg:=pZ (p:=p) qy;rw [cu hh hk] at hsg;obtain⟨_,hse⟩:=gS hsg;have hc:qx p b=[]:=by simp [qx,hka,hk1]
 have hkd:(k.kind==1)=false:=by simpa using hk1
 rw [hc];refine qM.q9 func160 [.tmp 4] ntmps160 λC w g root=>?_;refine qJ ?_<|zN hsg hse hkd qy<|@qz;exact y7 (t:=4) j7 j7 qB
theorem Pm (gl) (p:qC) (b:Nat):qM prog gl 162 [.agg (zY (qY p b))] (λr z H'=>z=.hs r 1 0 (qY p b).length/\H' r=some (.row 1 (qj (qY p b)))):=by
 have hli:=CM gl (qY p b);rw [Mt] at hli;exact hli
theorem SJ (gl:Nat->Option (List AV)) (hgl:gl 4=some fb) (p:qC) (hp:zr p) (b:Nat) (k:qX) (hk:p[b]?=some k):qM prog gl 113 [jB p,vq p,iv b] (λr y H'=>y=.agg ((zO p b).own r 0)/\dO H' r 0 (zO p b)):=by
 have hl7:=hp.len.2;have hkm:=gM hk;obtain⟨qy,hbE⟩:=gS hk;have hk12:=hp.body k hkm;obtain⟨hpl,_⟩:=hp.br.ko hk;have hcode:zO p b=⟨k.kind,k.params,qx p b,qY p b,zZ p b,vr p b k.body⟩:=by simp [zO,zR,hk]
 have hfl:=pD (p:=p) (b:=b);have hcl:=cT (p:=p) (b:=b);have hrl:=fg (p:=p) (b:=b);rw [hcode];refine qM.q9 func113 [.cell 6 198] ntmps113 λC w g root=>?_;have fx:=zD hk hbE qy<|hpl;have c1:=xb gl p hp b k hk;have d1:=Qj gl p hp b k hk;have d2:=Pm gl p b;have d3:=Ej gl p hp b qy;refine qK ?_
 first|refine qQ (id:=2) Fm mixed ?_|refine qQ (id:=6) Fo mixed ?_
 refine Jz (λst=>st.tm 1=vq p/\st.tm 2=iv b/\st.tm 6=.pt (.s 6) 0/\st.hp (.s 6)=some (.row 6 [fo.own (.s 6) 0])/\st.tm 8=.pt (.s 8) 0/\st.tm 33=ec k.body/\st.tm 34=iv k.body.length/\st.tm 35=iv 0/\st.hp (.s 8)=some (.row 6 [ym.own (.s 8) 0 ⟨k.kind,k.params,qx p b,qY p b,zZ p b,[]⟩])/\st.hp (.c (.s 8) 0 1)=some (.row 1 (qj k.params))/\st.hp (.c (.s 8) 0 2)=some (.row 1 (qj (qx p b)))/\st.hp (.c (.s 8) 0 3)=some (.row 1 (qj (qY p b)))/\st.hp (.c (.s 8) 0 4)=some (.row 1 (qj (zZ p b)))/\st.hp (.c (.s 8) 0 5)=some (.row 2 [])) ?_;clear fx c1 d1 d2 d3;rintro st ⟨h1,h2,h6,hp6,h8,h33,h34,h35,hp8,q1,q2,q3,q4,q5⟩;refine zQ (λn st=>∃ i:Nat,n=k.body.length - i/\i<=k.body.length/\st.tm 1=vq p/\st.tm 2=iv b/\st.tm 6=.pt (.s 6) 0/\st.hp (.s 6)=some (.row 6 [fo.own (.s 6) 0])/\st.tm 8=.pt (.s 8) 0/\st.tm 33=ec k.body/\st.tm 34=iv k.body.length/\st.tm 35=iv i/\∃ c:ym,c=⟨k.kind,k.params,qx p b,qY p b,zZ p b,vr p b (k.body.take i)⟩/\st.hp (.s 8)=some (.row 6 [c.own (.s 8) 0])/\dO st.hp (.s 8) 0 c) k.body.length ?_ ?_
 .refine⟨0,qA,qA,h1,h2,h6,hp6,h8,h33,h34,h35,_,rfl,?_,⟨?_,?_,?_,?_,?_⟩⟩
  all_goals simp [vr,hp8,q1,q2,q3,q4,q5]
 clear h1 h2 h6 hp6 h8 h33 h34 h35 hp8 q1 q2 q3 q4 q5;rintro n st - - ⟨i,rfl,hi,h1,h2,h6,hp6,h8,h33,h34,h35,c,hc,hp8,⟨o1,o2,o3,o4,o5⟩⟩;have hll:=D2 (p:=p) (b:=b) (k.body.take i);rw [im] at hll;by_cases hil:i<k.body.length
 .obtain⟨s,hss⟩:=gX hil;obtain⟨_,hsE⟩:=gS hss;have hnx:=Hr (p:=p) (b:=b) hss;have hsl:=G8 (p:=p) (b:=b) (s:=s);generalize hL:vr p b (k.body.take i)=L at hc hnx hll;subst hc;simp only [ym.AN] at hp8 o1 o2 o3 o4 o5;have fx:=qh h1 h2 h6 hp6 h8 h33 h34 h35 hp8 o1 o2 o3<|jI o4 o5 hss hsE hil hll<|hsl;have d1:=SK gl hgl p b k s hp hk (gM hss);refine qK ?_
  repeat ((first|refine qQ (id:=2) Fm mixed ?_|refine qQ (id:=6) Fo mixed ?_);refine zK ?_;refine qK ?_)
  clear fx d1;refine⟨k.body.length - (i+1),qA,i+1,rfl,qA,zl,ya,vt,mf,by simp [h8],by simp [h33],by simp [h34],jM,_,rfl,?_,⟨?_,?_,?_,?_,?_⟩⟩
  all_goals simp [ym.own,hnx,o1,o2,o3,o4,o5,hp8]
 .have hge:i=k.body.length:=qA;subst hge;rw [kC] at hc;subst hc;simp only [ym.AN] at hp8 o1 o2 o3 o4 o5;have fx:=qh h1 h2 h6 hp6 h8 h33 h34 h35 hp8 o1 o2 o3<|qk o4 o5<|hil;refine qK ?_
  repeat ((first|refine qQ (id:=2) Fm mixed ?_|refine qQ (id:=6) Fo mixed ?_);refine zK ?_;refine qK ?_)
  clear fx;refine qF [(.s 8,root)] (.one rfl) (by simp [h6];rfl) ⟨?_,⟨?_,?_,?_,?_,?_⟩⟩
  all_goals simp [h6,o1,o2,o3,o4,o5]
theorem SI (gl:Nat->Option (List AV)) (hgl:gl 4=some fb) (p:qC) (hp:zr p):qM prog gl 74 [jB p,vq p] (λr y H'=>y=.hs r 6 0 (jb p p.length).length/\tY H' r (jb p p.length)):=by
 have hl7:=hp.len.2;refine qM.q9 func74 [.tmp 4] ntmps74 λC w g root=>?_;refine qJ ?_<|qd;refine zQ (λn st=>∃ i:Nat,n=p.length - i/\i<=p.length/\st.tm 1=vq p/\st.tm 2=.pt (.s 2) 0/\st.hp (.s 2)=some (.row 1 [[jc p]])/\st.tm 9=iv p.length/\st.tm 10=iv i/\∃ cs:List ym,cs=jb p i/\cs.length=i/\st.tm 5=.hs (.s 5) 6 0 cs.length/\tY st.hp (.s 5) cs) p.length ?_ ?_
 .refine⟨0,qA,qA,qB,qB,qB,qB,qB,[],qB,rfl,qB,⟨qB,λi c h=>by simp at h⟩⟩
 rintro n st - - ⟨i,rfl,hi,h1,h2,hp2,h9,h10,cs,hcs,hcl,h5,⟨ht,he⟩⟩;by_cases hil:i<p.length
 .obtain⟨k,hk⟩:=gX hil;have hnx:=Il (p:=p) (n:=i);have hcc:=SJ gl hgl p hp i k hk;rw [<- hcs] at hnx;generalize hC:zO p i=c at hcc hnx;have hcl7:cs.length<=7:=qA;have fx:=jH h1 h2 hp2 h9 h10<|hil;have e1:=hcc;refine qK ?_;clear fx e1;rintro K hK y H' ⟨rfl,hO⟩;obtain⟨o1,o2,o3,o4,o5⟩:=hO.vh;refine⟨qB,?_⟩;refine qJ ?_<|qh h1 h2 hp2 h9 h10 h5 ht hcl7 o1 o2 o3 o4<|o5;refine⟨p.length - (i+1),qA,i+1,rfl,qA,zl,ya,yw,cO,jM,cs++[c],hnx.symm,by simp [hcl],qB,⟨?_,λj d hj=>?_⟩⟩
  .simp [ht,KA]
  .rcases du j cs.length with hlj|hgj
   .rw [ub hlj] at hj;have hne:¬ j=cs.length:=qA;obtain⟨e1,e2,e3,e4,e5⟩:=he j d hj;exact⟨by simp [hne,e1],by simp [hne,e2],by simp [hne,e3],by simp [hne,e4],by simp [hne,e5]⟩
   .rw [cG hgj] at hj
    obtain rfl:j=cs.length:=by
     have:=(gS hj).1;simp at this;omega
    simp at hj;subst hj;exact⟨by simp [o1],by simp [o2],by simp [o3],by simp [o4],by simp [o5]⟩
 .have hge:i=p.length:=qA;subst hge;subst hcs;refine qJ ?_<|jN h1 h2 hp2 h9 h10 hil h5<|ht;refine qF [(.s 4,root)] (.one rfl) qE ⟨qB,⟨by simp [ht,sV (n:=.s 4) (m:=root) (f:=zL zn [(.s 4,root)]) qB],λj d hj=>?_⟩⟩;obtain⟨e1,e2,e3,e4,e5⟩:=he j d hj;exact⟨by simp [e1],by simp [e2],by simp [e3],by simp [e4],by simp [e5]⟩
end Go.Proofs.YtjgpejikjhojcaaGreatDoor
end
section

end
section
namespace Go.Proofs.YtjgpejikjhojcaaGreatDoor
open Go Go.Hm Go.Proofs Tryz
attribute [local simp] wC pX
theorem TO (gl) (l:List (Int×Int)) (A:Nat) (hA:A<l.length) (hl:l.length<=1000):qM prog gl 210 [AL l,iv A] (λ_ y _=>y=iv ((vB (l.take (A+1)):Int) - 1)):=by
 have hw:IntKind.i64.wrap ((A:Int)+1)=((A+1:Nat):Int):=by rw [qm qA qA];rfl
 have hA1:A+1<=l.length:=qA;have hmin:min (A+1) l.length=A+1:=Nat.min_eq_left hA1;generalize hB:A+1=B at hw hA1 hmin;refine qM.q9 func210 [.tmp 4] ntmps210 λC w g root=>?_;refine qJ ?_<|qk hw hA1<|hmin;refine zQ (λn st=>∃ i:Nat,n=B - i/\i<=B/\st.tm 11=AL (l.take B)/\st.tm 12=iv B/\st.tm 13=iv i/\st.tm 5=iv ((vB (l.take i):Int) - 1)) B ?_ ?_
 .exact⟨0,qA,qA,qB,by simp [hmin],qB,by simp [vB]⟩
 rintro n st - - ⟨i,rfl,hi,h11,h12,h13,h5⟩;by_cases hil:i<B
 .have hil2:i<l.length:=qA;obtain⟨o,ho⟩:=gX hil2;have ho2:(l.take B)[i]?=some o:=by rw [tg,if_pos hil,ho]
  obtain⟨hoL,hoE⟩:=gS ho2;have htk:=Co ho;have htl:vB (l.take i)<=i:=ur NW qu;have hLl:(l.take B).length=B:=qu;generalize l.take B=L at h11 ho2 hoL hoE hLl ⊢;generalize vB (l.take i)=T at h5 htk htl
  have hwT:IntKind.i64.wrap ((T:Int) - 1+1)=(T:Int):=by
   rw [show (T:Int) - 1+1=T by omega];exact qm qA qA
  cases ho0:(o.1==0)
  .have e0:¬ o.1=0:=by simpa using ho0
   refine qJ ?_<|vI h11 h12 h13 h5 ho2 hoE hoL hil<|ho0;exact⟨B - (i+1),qA,i+1,rfl,qA,fR,oZ,jM,by simp [htk,e0,h5]⟩
  .have e0:o.1=0:=by simpa using ho0
   have e1:((T+1:Nat):Int) - 1=T:=qA;have hwT':IntKind.i64.wrap (T:Int)=(T:Int):=qm qA qA;refine qJ ?_<|y8 h11 h12 h13 h5 ho2 hoE hoL hil ho0<|hwT;refine⟨B - (i+1),qA,i+1,rfl,qA,fR,oZ,jM,?_⟩;rw [htk,if_pos e0,e1];simp [hwT']
 .have hge:i=B:=qA;refine qJ ?_<|zN h11 h12 h13 h5<|hil;refine qF [] .nil qE ?_;rw [<- hge];simp
end Go.Proofs.YtjgpejikjhojcaaGreatDoor
end
section
namespace Go.Proofs.YtjgpejikjhojcaaGreatDoor
open Go Go.Hm Go.Proofs Tryz
abbrev Wm:qV:=M2<|.l 16 [11,6,5,4,2,1,0]<|.l 17 []<|.done
abbrev Wo:qV:=kf<|.l 11 [5,4,3,2,1,0]<|.l 12 [5,0]<|.q 13<|.q 14<|.l 15 []<|.done
theorem FC {A G G2:Prop} (k:G2) (x:A) (h:A->jL G2->G:=by
 intro fx kk;refine qK ?_
 repeat ((first|refine qQ (id:=4) Wm mixed ?_|refine qQ (id:=5) Wo mixed ?_);refine zK ?_;refine qK ?_)
 exact kk.h):G:=h x ⟨k⟩
theorem OB (gl) (H:Nm->Option AO) (p:qC) (m:qR) (fs:List qO) (f:qO) (o:Int×Int) (ho:(zR p f.qG)[f.pc - 1]?=some o) (ho0:o.1=0) (hb:f.qG<p.length) (hp7:p.length<=7) (he:m.en=0) (hfl:fs.length<=150) (hlf:m.left<=150) (htl:m.trace.length<=1000) (hpc1:1<=f.pc) (hpc:f.pc<=(zR p f.qG).length) (hol:(zR p f.qG).length<=60) (hO:qD H p (m.top fs f)) :
  qZ prog gl 167 DM [.pt Yn 0,.pt Yn (yo fs.length)] H (λ_ y H'=>y=bv (decide ((wU p m fs f).en=0))/\qD H' p (wU p m fs f)) zG:=by
 obtain⟨R,j,hT,tr,h2,h3,h28⟩:=hO.yM rfl qA;have hRl:=tr.len;have r2:=tr.r2;have r0:=tr.r0;have f0:=tr.f0;have f1:=tr.f1;obtain⟨r2l,r2E⟩:=gS r2;simp only [qR.top] at r2 r2E;refine qZ.q9 func167 [.tmp 4] ntmps167 (λ_=>zC) λC w g root hroot=>?_;by_cases hl:m.left=0
 .have ht:wU p m fs f=m.stop fs f 1:=by simp only [wU,hl,if_true]
  rw [ht];refine FC ?_<|zN hT r2 r2E hRl<|hl;intro K hK;have fx:=qd;refine jC hO (have h:=hO;qD.re h) (qa _) (hF:=λhO=>em gl DM (λ_=>zC) _ R 1 zE hRl) (h:=?_);rintro y H1 hw;clear fx;have hO1:=qD.qm (qD.ee (e:=1) (have h:=hO;qD.re h) rfl zE) hw;obtain⟨rfl,-⟩:=hw;refine FC ?_<|qd;refine qF [] .nil qE ⟨qB,qD.fin (have h:=hO1;qD.re h)⟩
 .obtain⟨l,hll⟩:∃ l,m.left=l+1:=⟨m.left - 1,qA⟩
  have ht:wU p m fs f={ m.top fs f with left:=l,trace:=m.trace++[(f.qG,vB ((zR p f.qG).take (f.pc - 1)))] }:=by
   simp only [wU,hl,if_false,hll]
   rfl
  rw [ht];have hlb:((l:Int)+1==0)=false:=ku;have hwl:IntKind.i64.wrap (l:Int)=l:=qm qA qA;refine qJ ?_<|jI hT r2 r2E hRl hll hlb<|hwl;refine uZ (λs=>s.tm 0=.pt Yn 0/\s.tm 1=.pt Yn (yo fs.length)/\qD s.hp p ({ m with left:=l }.top fs f)) ⟨qB,qB,?_⟩ ?_
  .have h:=hO;exact qD.uC h rfl rfl rfl (nW (R':=qp R 2 [iv l]) hT xK (λJ hJ e=>by rw [e];exact qBu)) (h6t:=ya) (h7t:=uT) (h8t:=⟨j,kD⟩)
  clear hT tr r2E r2l r2 r0 f0 f1 hRl h2 h3 h28 hO j R;rintro s ⟨t0,t1,hO⟩;obtain⟨R,j,hT,tr,h2,h3,h28⟩:=hO.yM rfl qA;have hRl:=tr.len;have r5:=tr.r5;have r0:=tr.r0;have f0:=tr.f0;have f1:=tr.f1;simp only [qR.top] at r5;obtain⟨_,r5E⟩:=gS r5;obtain⟨_,r0E⟩:=gS r0;obtain⟨f0l,f0E⟩:=gS f0;obtain⟨f1l,f1E⟩:=gS f1;have hcd:(jb p p.length)[f.qG]?=some (zO p f.qG):=B2;obtain⟨hcdl,hcdE⟩:=gS hcd;obtain⟨k,hk⟩:=gX hb;have hco:(zO p f.qG).ops=zR p f.qG:=fT;have hpw:IntKind.i64.wrap ((f.pc:Int) - 1)=((f.pc - 1:Nat):Int):=tv;have hla:=TO gl (zR p f.qG) (f.pc - 1) qA qA;have hpe:f.pc - 1+1=f.pc:=qA;rw [hpe] at hla;have hTr:=hO.zo;have fx:=qh t0 t1 hT r0 r0E r5 r5E f0 f0E f0l f1 f1E<|vI f1l hcd hcdl hcdE hco hpw hRl hTr<|htl;have c1:=hla;refine FC ?_<|@fx;clear fx c1
  have htk:((vB ((zR p f.qG).take f.pc):Nat):Int) - 1=vB ((zR p f.qG).take (f.pc - 1)):=by
   have:=Co ho;rw [hpe,if_pos ho0] at this;rw [this];omega
  have hap:yy m.trace++[[iv f.qG,iv (((vB ((zR p f.qG).take f.pc):Nat):Int) - 1)]]=yy (m.trace++[(f.qG,vB ((zR p f.qG).take (f.pc - 1)))]):=by rw [htk];exact CQ
  refine qF [] .nil qE ⟨by simp [qR.top,he],qD.fin ?_⟩;have h:=hO;exact qD.uC h rfl rfl rfl (C4 hT qE (λJ hJ e=>by rw [e];simp only [mn];exact Rp (m.trace++[(f.qG,vB ((zR p f.qG).take (f.pc - 1)))]) hJ qB (λj hj=>by simp [hj]))) (h3:=xM) (h6t:=ya) (h7t:=uT) (h8t:=⟨j,kD⟩)
theorem DF (gl) (H:Nm->Option AO) (p:qC) (m:qR) (fs:List qO) (f:qO) (o:Int×Int) (off wy:Nat) (e:Int) (hW:ij p m fs f o off) (hm0:m.en=0) (he:e≠0) (hwy:wy<=2) (hfl:fs.length<=150) (hst:wy=1->1<=f.stack.length) (hsl:f.stack.length<=1000) (hO:qD H p (m.top fs f)) :
  qZ prog gl 168 DM [.pt Yn 0,.pt Yn (yo fs.length),.pt Yn off,iv wy,iv e] H (λ_ y H'=>y=bv (decide ((vu m fs f o wy e).en=0))/\qD H' p (vu m fs f o wy e)) zG:=by
 obtain⟨R,j,hT,tr,h2,h3,h28⟩:=hO.yM rfl qA;have hRl:=tr.len;have f28:=tr.f28;have hle:=hW.le;have hrd:=hW.rd f R rfl tr;have s0:=hrd 0 qA;have s1:=hrd 1 qA;have s2:=hrd 2 qA;rw [dq] at s0;have yoh:yo fs.length+29<=4415:=uu;refine qZ.q9 func168 [.tmp 10] ntmps168 (λ_=>zC) λC w g root hroot=>?_;by_cases w1:wy=1
 .subst w1;have hres:vu m fs f o 1 e=jr m fs f.pop o (some f.zB):=rfl;rw [hres];obtain⟨k,hk⟩:∃ k,f.stack.length=k+1:=⟨f.stack.length - 1,by have:=hst rfl;omega⟩;rw [hk] at f28;obtain⟨G,hG,g1,g2,g3,c1,c2,c3,c4,c5,c6,hR⟩:=hW.wr f.pop (some f.zB) rfl rfl;refine qJ ?_<| hT;intro K hK;have fx:=qd;refine jC hO (have h:=hO;qD.re h) (qa _) (hF:=λ_=>lw gl DM (λ_=>zC) _ R (yo fs.length) k (f.stack++j) f.zB zE f28 kD (gD hk) qA yoh) (h:=?_);intro y H1 hw;clear fx;have hO1:=qD.qm (qD.cn (m:=m.top fs f) (have h:=hO;qD.re h) rfl qA zE hk) hw;obtain⟨rfl,-⟩:=hw;obtain⟨R1,j1,hT1,tr1,h21,h31,h281⟩:=qD.yM (f:=f.pop) hO1 rfl qA;have hR1l:=tr1.len;generalize hv:f.zB=v at *;obtain⟨v1,v2⟩:=v;refine qJ ?_<|zD hT hT1 hR1l<|hle;refine qF [] .nil qE ⟨by simp [c6,hm0],qD.fin ?_⟩;have h:=hO1;exact qD.uC h rfl hG (by rw [c1];rfl) (nW (R':=qp R1 off (jk (some (v1,v2)))) hT1 xK (λJ hJ e=>by rw [e];exact hR J hJ)) (h2:=by simp [h.out,c2]) (h3:=by simp [h.zo,c3]) (h4:=by simp [h.qH,c4]) (h5:=by simp [h.jA,c5]) (h6t:=by simp [h21,g1]) (h7t:=by simp [h31,g2]) (h8t:=⟨j1,by simp [h281,g3]⟩) (h9:=by rw [c1];intro c s hc;simp [h.cell c s hc])
 .have w1':((wy:Int)==1)=false:=ku
  cases hs:kG m f o with
  | none =>
   have hres:vu m fs f o wy e=m.stop fs f e:=EH;rw [hres];rw [hs] at s0;simp only [Ac,fH] at s0;obtain⟨s0l,s0E⟩:=gS s0;refine qJ ?_<|jI w1' hT s0 s0E s0l hRl<|hle;intro K hK;have fx:=qd;refine jC hO (have h:=hO;qD.re h) (qa _) (hF:=λ_=>em gl DM (λ_=>zC) _ R e zE hRl) (h:=?_);intro y H1 hw;clear fx;have hO1:=qD.qm (qD.ee (m:=m.top fs f) (e:=e) (have h:=hO;qD.re h) rfl zE) hw;obtain⟨rfl,-⟩:=hw;refine qJ ?_<|qd;refine qF [] .nil qE ⟨by simp [qR.stop,he],qD.fin (have h:=hO1;qD.re h)⟩
  | some v =>
   obtain⟨v1,v2⟩:=v;rw [hs] at s0 s1 s2;simp only [Ad,fH,fI] at s0 s1 s2;obtain⟨s0l,s0E⟩:=gS s0;have s12:=tM s1 s2;have hle2:off+1+2<=4415:=qA;by_cases w0:wy=0
   .subst w0;have hres:vu m fs f o 0 e=m.top fs (f.push (v1,v2)):=EP;rw [hres];refine qJ ?_<|jN w1' hT s0 s0E s0l s12 hRl<|hle2;intro K hK;have fx:=aI hT s12;refine jC hO (have h:=hO;qD.re h) (qa _) (hF:=λ_=>dK gl DM (λ_=>zC) _ R (yo fs.length) f.stack j (v1,v2) rfl rfl zE f28 kD hsl yoh) (h:=?_);intro y H1 hw;clear fx;have hO1:=qD.cp (m:=m.top fs f) dS rfl qA rfl zE hw;refine qJ ?_<|qd;refine qF [] .nil qE ⟨eG,qD.fin (have h:=hO1;qD.re h)⟩
   .have hres:vu m fs f o wy e=jr m fs f o none:=Dl;rw [hres];have w0':((wy:Int)==0)=false:=ku;obtain⟨G,hG,g1,g2,g3,c1,c2,c3,c4,c5,c6,hR⟩:=hW.wr f none rfl rfl;refine qJ ?_<|jN w1' w0' hT s0 s0E s0l hRl<|hle;refine qF [] .nil qE ⟨by simp [c6,hm0],qD.fin ?_⟩;have h:=hO;exact qD.uC h rfl hG (by rw [c1];rfl) (nW (R':=qp R off (jk none)) hT xK (λJ hJ e=>by rw [e];exact hR J hJ)) (h2:=by simp [h.out,c2]) (h3:=by simp [h.zo,c3]) (h4:=by simp [h.qH,c4]) (h5:=by simp [h.jA,c5]) (h6t:=by simp [h2,g1]) (h7t:=by simp [h3,g2]) (h8t:=⟨j,by simp [h28,g3]⟩) (h9:=by rw [c1];intro c s hc;simp [h.cell c s hc])
theorem tU (gl) (H:Nm->Option AO) (p:qC) (m:qR) (fs:List qO) (f:qO) (o:Int×Int) (c wy:Nat) (e:Int) (h5:5<=o.1) (h7:o.1<=7) (hc:f.cells.getD o.2.toNat 0=c) (hcl:c<m.cells.length) (hm0:m.en=0) (he:e≠0) (hwy:wy<=2) (hfl:fs.length<=150) (hst:wy=1->1<=f.stack.length) (hsl:f.stack.length<=1000) (hO:qD H p (m.top fs f)) :
  qZ prog gl 168 DM [.pt Yn 0,.pt Yn (yo fs.length),.pt (En c) 0,iv wy,iv e] H (λ_ y H'=>y=bv (decide ((vu m fs f o wy e).en=0))/\qD H' p (vu m fs f o wy e)) zG:=by
 obtain⟨R,j,hT,tr,h2,h3,h28⟩:=hO.yM rfl qA;have hRl:=tr.len;have f28:=tr.f28;have e1:¬ o.1<=4:=qA
 have yX:∀ g s,g.cells=f.cells->jr m fs g o s={ m.top fs g with cells:=m.cells.set c s }:=λg s hg=>by
  simp only [jr,if_neg e1,if_pos h7,hg,hc]
 have yoh:yo fs.length+29<=4415:=uu;obtain⟨s,hs1⟩:=gX hcl;have hs:kG m f o=s:=by simp [kG,e1,h7,-List.getD_eq_getElem?_getD,hc,jW,hs1]
 have hE:=hO.cell c s hs1
 have hcs:∀ (s':qr) (hp':Nm->Option AO),hp' (En c)=some (.row 3 [jk s'])->(∀ c',c'≠c->∀ s,m.cells[c']?=some s->hp' (En c')=some (.row 3 [jk s]))->∀ (c':Nat) s,(m.cells.set c s')[c']?=some s->hp' (En c')=some (.row 3 [jk s]):=by
  intro s' hp' h1 h2 c' s hc';rw [dt] at hc';by_cases e:c=c'
  .subst e;rw [if_pos rfl,if_pos hcl] at hc';obtain rfl:=sI hc';exact h1
  .rw [if_neg e] at hc';exact h2 c' (λh=>e h.symm) s hc'
 refine qZ.q9 func168 [.tmp 10] ntmps168 (λ_=>zC) λC w g root hroot=>?_;by_cases w1:wy=1
 .subst w1;have hres:vu m fs f o 1 e=jr m fs f.pop o (some f.zB):=rfl;rw [hres,yX f.pop _ rfl];obtain⟨k,hk⟩:∃ k,f.stack.length=k+1:=⟨f.stack.length - 1,by have:=hst rfl;omega⟩;rw [hk] at f28;refine qJ ?_<| hT;intro K hK;have fx:=qd;refine jC hO (have h:=hO;qD.re h) (qa _) (hF:=λ_=>lw gl DM (λ_=>zC) _ R (yo fs.length) k (f.stack++j) f.zB zE f28 kD (gD hk) qA yoh) (h:=?_);intro y H1 hw;clear fx;have hO1:=qD.qm (qD.cn (m:=m.top fs f) (have h:=hO;qD.re h) rfl qA zE hk) hw;obtain⟨rfl,-⟩:=hw;obtain⟨R1,j1,hT1,tr1,h21,h31,h281⟩:=qD.yM (f:=f.pop) hO1 rfl qA;have hE1:=hO1.cell c s hs1;generalize hv:f.zB=v at *;obtain⟨v1,v2⟩:=v;have hd:(jk s).drop 3=[]:=Az qB;refine qJ ?_<|qk hE hE1<|hd;refine qF [] .nil qE ⟨Be,qD.fin ?_⟩;have h:=hO1;exact qD.uC h rfl (m':={ m.top fs f.pop with cells:=m.cells.set c (some (v1,v2)) }) rfl cL (nW (R':=R1) hT1 cM (λJ hJ e=>e.trans (by simp [qg,yA,yB,yZ,qR.top]))) (h6t:=by simp [h21]) (h7t:=by simp [h31]) (h8t:=⟨j1,rS⟩) (h9:=hcs _ _ qB (λc' hn s hc'=>by simp [hn,h.cell c' s hc'])) (hA:=by intro k i j hk e hn;by_cases e2:k=7/\i=c/\j=0;(obtain⟨rfl,rfl,rfl⟩:=e2;rw [hE1];simp);simpa [hk,e,e2] using hn)
 .have w1':((wy:Int)==1)=false:=ku
  cases s with
  | none =>
   have hres:vu m fs f o wy e=m.stop fs f e:=EH;rw [hres];refine qJ ?_<|aI w1'<|hE;intro K hK;have fx:=qd;refine jC hO (have h:=hO;qD.re h) (qa _) (hF:=λ_=>em gl DM (λ_=>zC) _ R e zE hRl) (h:=?_);intro y H1 hw;clear fx;have hO1:=qD.qm (qD.ee (m:=m.top fs f) (e:=e) (have h:=hO;qD.re h) rfl zE) hw;obtain⟨rfl,-⟩:=hw;refine qJ ?_<|qd;refine qF [] .nil qE ⟨by simp [qR.stop,he],qD.fin (have h:=hO1;qD.re h)⟩
  | some v =>
   obtain⟨v1,v2⟩:=v;by_cases w0:wy=0
   .subst w0;have hres:vu m fs f o 0 e=m.top fs (f.push (v1,v2)):=EP;rw [hres];refine qJ ?_<|aI w1'<|hE;intro K hK;have fx:=hE;refine jC hO (have h:=hO;qD.re h) (qa _) (hF:=λ_=>dK gl DM (λ_=>zC) _ R (yo fs.length) f.stack j (v1,v2) rfl rfl zE f28 kD hsl yoh) (h:=?_);intro y H1 hw;clear fx;have hO1:=qD.cp (m:=m.top fs f) dS rfl qA rfl zE hw;refine qJ ?_<|qd;refine qF [] .nil qE ⟨eG,qD.fin (have h:=hO1;qD.re h)⟩
   .have hres:vu m fs f o wy e=jr m fs f o none:=Dl;rw [hres,yX f _ rfl];have w0':((wy:Int)==0)=false:=ku;refine qJ ?_<|qk w1' w0'<|hE;refine qF [] .nil qE ⟨Be,qD.fin ?_⟩;have h:=hO;exact qD.uC h rfl (m':={ m.top fs f with cells:=m.cells.set c none }) rfl cL (nW (R':=R) hT zE (λJ hJ e=>e.trans (by simp [qg,yA,yB,yZ,qR.top]))) (h6t:=ya) (h7t:=uT) (h8t:=⟨j,kD⟩) (h9:=hcs _ _ qB (λc' hn s hc'=>by simp [hn,h.cell c' s hc'])) (hA:=by intro k i j hk e hn;by_cases e2:k=7/\i=c/\j=0;(obtain⟨rfl,rfl,rfl⟩:=e2;rw [hE];simp);simpa [hk,e,e2] using hn)
end Go.Proofs.YtjgpejikjhojcaaGreatDoor
end
