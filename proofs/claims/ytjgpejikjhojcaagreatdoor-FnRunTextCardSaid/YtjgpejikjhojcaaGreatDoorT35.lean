import Derived.Test.YtjgpejikjhojcaaGreatDoorT32
set_option linter.unusedSimpArgs false
set_option linter.unusedVariables false
set_option maxRecDepth 100000
set_option maxHeartbeats 4000000

section
namespace Go.Proofs.YtjgpejikjhojcaaGreatDoor
open Go Go.Hm Go.Proofs Tryz
theorem YR {p:qC} (h:z6 p) {i:Nat} {k:qT} (hk:p[i]?=some k):k.kind=0\/k.kind=1\/k.kind=2:=by
 have:=h.head i k hk;unfold uU at this
 split at this <;> omega
theorem Yb {l:List Int}:sorted (sorted l)=sorted l:=GK λx hx=>by
 rw [Go.Hm.mem_sorted];exact⟨λh=>h.1,λh=>⟨h,qA,qA⟩⟩
theorem M2 {p:qC} {b:Nat}:sorted (qh p b)=qh p b:=by
 unfold qh
 split
 .exact Yb
 .rfl
theorem Ux {xs:List Int} {x:Int}:(vg xs x == -1)=!decide (x∈xs):=by
 have h1:=sW (xs:=xs) (x:=x);have h2:=FX (xs:=xs) (x:=x);by_cases h:x∈xs
 .have:=h1.2 h;simp [h];omega
 .have:¬ 0<=vg xs x:=λe=>h (h1.1 e);simp [h];omega
theorem Il (gl) (p:qC) (hp:z6 p) (b:Nat) (k:qT) (hk:p[b]?=some k) (hk1:k.kind=1):qM prog gl 160 [vi p,iv b] (λr y H'=>y=.hs r 1 0 (zK p b).length/\H' r=some (.row 1 (qm (zK p b)))):=by
 have hh:=hp.jR;have hl7:=hp.len;obtain⟨zF,hbE⟩:=gS hk;have hka:zt p b=k.kind:=ge;have hsg:=pI (p:=p) zF;rw [cq hh hk] at hsg;obtain⟨_,hse⟩:=gS hsg
 have hc:zK p b=sorted (jy (fV p b) 8):=by
  rw [Yc];simp [zK,hka,hk1]
 have hkd:(k.kind==1)=true:=Ar;rw [hc];refine qM.qa func160 [.tmp 4] ntmps160 λC w g root=>?_;have fx:=zM hsg hse hkd zF<|@qx;have c1:=xG gl p hp b k hk;refine qQ ?_;clear fx c1;refine zU (λn st=>∃ x:Nat,n=8 - x/\x<=8/\st.tm 0=vi p/\st.tm 1=iv b/\st.tm 5=.pt (.s 5) 0/\st.hp (.s 5)=some (.row 8 [zP (jy (fV p b) x)])/\st.tm 6=.pt (.s 6) 0/\st.hp (.s 6)=some (.row 8 [zP (qh p b)])/\st.tm 19=iv x) 8 ?_ ?_
 .exact⟨0,qA,qA,qB,qB,qB,qH,qB,qB,qB⟩
 rintro n st - - ⟨x,rfl,hx,h0,h1,h5,hp5,h6,hp6,h19⟩;by_cases hx8:x<8
 .have hx8':(x:Int)<8:=qA;have hfi:fV p b x=(u7 b k x&&!decide ((x:Int)∈qh p b)):=by simp only [fV,hk]
  have hn2:=FW (f:=fV p b) (n:=x)
  have hno:(x:Int)∉jy (fV p b) x:=λh=>by
   rw [sO] at h;omega
  have hbg:=tQ (l:=qh p b) hx8;obtain⟨hbgl,hbgE⟩:=gS hbg;generalize hL:jy (fV p b) x=L at hp5 hn2 hno
  cases hlo:u7 b k x
  .rw [if_neg (by rw [hfi,hlo];simp)] at hn2
   all_goals have fx:=qr h0 h1 h5 hp5 h6 hp6 h19 hx8 hx8' hsg hse zF<|hlo
   repeat' (first|refine zl ?_|refine λ(K:St->Prop) hK=>?_|refine zL (hF:=Ei _ p hp b k hk x hx8) (h:=?_))
   all_goals try clear fx
   exact⟨8 - (x+1),qA,x+1,rfl,qA,ji,zx,yV,by simp [hn2,Ho hx8 hno],aY,gb,zw⟩
  cases hce:decide ((x:Int)∈qh p b)
  rotate_left
  .rw [if_neg (by rw [hfi,hlo,hce];decide)] at hn2
   all_goals have fx:=qr h0 h1 h5 hp5 h6 hp6 h19 hx8 hx8' hsg hse zF<|zM hlo hbg hbgE hbgl<|hce
   repeat' (first|refine zl ?_|refine λ(K:St->Prop) hK=>?_|refine zL (hF:=Ei _ p hp b k hk x hx8) (h:=?_))
   all_goals try clear fx
   exact⟨8 - (x+1),qA,x+1,rfl,qA,ji,zx,yV,by simp [hn2,Ho hx8 hno],aY,gb,zw⟩
  .rw [if_pos (by rw [hfi,hlo,hce];rfl)] at hn2
   all_goals have fx:=qr h0 h1 h5 hp5 h6 hp6 h19 hx8 hx8' hsg hse zF<|zM hlo hbg hbgE hbgl<|hce
   repeat' (first|refine zl ?_|refine λ(K:St->Prop) hK=>?_|refine zL (hF:=Ei _ p hp b k hk x hx8) (h:=?_))
   all_goals try clear fx
   refine⟨8 - (x+1),qA,x+1,rfl,qA,ji,zx,yV,?_,aY,gb,zw⟩;rw [hn2];simp [<- mN (l:=L) (y:=(x:Int)) rfl hx8]
 .have hge:x=8:=qA;subst hge;have fx:=qk h5 hp5<|h19;have d1:=Bk gl (jy (fV p b) 8);refine qQ ?_;clear fx d1;exact vo (t:=4) y3 y3 qB
theorem E3 (gl) (p:qC) (hp:z6 p) (b:Nat) (k:qT) (hk:p[b]?=some k) (x:Nat) (hx:x<8):qM prog gl 115 [vi p,iv b,iv x] (λ_ y _=>y=iv (eG p b x)):=by
 have zF:=(gS hk).1;have hcl:=xH (p:=p) (b:=b);have hfl:=oh (p:=p) (b:=b);have hbd:=FX (xs:=jF p b) (x:=(x:Int));have hw:IntKind.i64.wrap (((qh p b).length:Int)+vg (jF p b) x)=(qh p b).length+vg (jF p b) x:=qi qA qA;have hli:=Bk gl (qh p b);rw [M2] at hli;have hpn:=Ux (xs:=qh p b) (x:=(x:Int));refine qM.qa func115 [.tmp 6] ntmps115 λC w g root=>?_;by_cases hm:(x:Int)∈qh p b
 .have hpn':(vg (qh p b) x == -1)=false:=by rw [hpn];simp [hm]
  all_goals have fx:=aI hpn'<|@qx
  repeat' (first|refine zl ?_|refine λ(K:St->Prop) hK=>?_|refine zL (hF:=xG _ p hp b k hk) (h:=?_)|refine fy (hF:=hli) (h:=?_)|refine zL (hF:=sX _ (qh p b) _ qA) (h:=?_))
  all_goals try clear fx
  refine qG [] .nil qH ?_;simp [eG,hm]
 .have hpn':(vg (qh p b) x == -1)=true:=by rw [hpn];simp [hm]
  all_goals have fx:=qk hpn' hw<|@qx
  repeat' (first|refine zl ?_|refine λ(K:St->Prop) hK=>?_|refine zL (hF:=xG _ p hp b k hk) (h:=?_)|refine fy (hF:=hli) (h:=?_)|refine zL (hF:=sX _ (qh p b) _ qA) (h:=?_)|refine fy (hF:=EX _ p hp b zF) (h:=?_)|refine zL (hF:=sX _ (jF p b) _ qA) (h:=?_))
  all_goals try clear fx
  refine qG [] .nil qH ?_;simp [eG,hm]
theorem AP (gl) (p:qC) (hp:z6 p) (b:Nat) (k:qT) (hk:p[b]?=some k) (x:Nat) (hx:x<8):qM prog gl 234 [vi p,iv b,iv x] (λ_ y _=>y=iv (jY p b x)):=by
 have hh:=hp.jR;have hl7:=hp.len;obtain⟨zF,hbE⟩:=gS hk;have hka:zt p b=k.kind:=ge;have hsg:=pI (p:=p) zF;rw [cq hh hk] at hsg;obtain⟨_,hse⟩:=gS hsg;have hop:=lU (p:=p) (c:=b) (x:=(x:Int));have hx8:(x:Int)<8:=qA;refine qM.qa func234 [.tmp 6] ntmps234 λC w g root=>?_
 cases ho:(zA p b x == -1)
 rotate_left
 .skip
  have fx:=zC hsg hse zF<|ho;have c1:=db gl p hp b k hk x hx;refine qQ ?_;clear fx c1;refine qG [] .nil qH ?_;have ho':zA p b x=-1:=by simpa using ho
  simp [jY,ho']
 have hno:¬ zA p b x=-1:=by simpa using ho
 have hnl:¬ zA p b x<0:=qA
 cases hb:(zA p b x==(b:Int))
 .skip
  have fx:=j2 hsg hse zF ho hb<|@qx;have c1:=db gl p hp b k hk x hx;refine qQ ?_;clear fx c1;refine qG [] .nil qH ?_;have hb':¬ zA p b x=b:=by simpa using hb
  simp only [jY,if_neg hnl,if_pos hb']
  rfl
 have hb':zA p b x=b:=by simpa using hb
 have hnn:¬ zA p b x≠b:=λh=>h hb'
 cases hkd:(k.kind==2)
 rotate_left
 .skip
  have fx:=jQ hsg hse zF ho hb @qx<|hkd;have c1:=db gl p hp b k hk x hx;refine qQ ?_;clear fx c1;refine qG [] .nil qH ?_;have hkd':k.kind=2:=Am;simp only [jY,if_neg hnl,if_neg hnn,hka,if_pos hkd']
  rfl
 have hkd':¬ k.kind=2:=Am;have hbg:=tQ (l:=qh p b) hx;obtain⟨hbgl,hbgE⟩:=gS hbg
 cases hce:decide ((x:Int)∈qh p b)
 all_goals
  have fx:=qr hsg hse zF ho hb @qx hkd hbg hbgE hbgl hx hx8<|hce;have c1:=db gl p hp b k hk x hx;have c2:=xG gl p hp b k hk;refine qQ ?_;clear fx c1 c2;refine qG [] .nil qH ?_;simp at hce;simp only [jY,if_neg hnl,if_neg hnn,hka,if_neg hkd',hce]
  rfl
abbrev mZ:List AV:=[iv 8,iv 5,iv 11,iv 5,iv 2]
theorem Cv (gl:Nat->Option (List AV)) (hgl:gl 4=some mZ) (p:qC) (hp:z6 p) (b:Nat) (k:qT) (hk:p[b]?=some k) (x:Nat) (hx:x<8) (w:Int) (hw0:0<=w) (hw2:w<=2):qM prog gl 207 [vi p,iv b,iv x,iv w] (λ_ y _=>y=.agg [iv (zy p b x w).1,iv (zy p b x w).2]):=by
 have hw8:IntKind.i64.wrap (8+w)=8+w:=qi qA qA;have hw11:IntKind.i64.wrap (11+w)=11+w:=qi qA qA;have hw22:IntKind.i64.wrap (2+w)=2+w:=qi qA qA;have hw5:IntKind.i64.wrap (5+w)=5+w:=qi qA qA;have hsf:=ZR (x:=(x:Int)) hk (hp.dS hk).symm (YR hp hk);have hfl:=BO (p:=p) (b:=b)
 have hs5:jY p b x=0\/jY p b x=1\/jY p b x=2\/jY p b x=3\/jY p b x=4:=by
  unfold jY
  split
  .simp
  .split
   .simp
   .split
    .simp
    .split <;> simp
 refine qM.qa func207 [.cell 8 207] ntmps207 λC w g root=>?_;rcases hs5 with h|h|h|h|h
 .skip
  have fx:=qk h hgl<|hw8;have c1:=AP gl p hp b k hk x hx;refine qQ ?_;clear fx c1;refine qG [] .nil qH ?_;simp [zy,h]
 .skip
  have fx:=qk h hgl<|hw5;have c1:=AP gl p hp b k hk x hx;have c2:=E3 gl p hp b k hk x hx;refine qQ ?_;clear fx c1 c2;refine qG [] .nil qH ?_;simp [zy,h]
 .skip
  have fx:=qk h hgl<|hw11;have c1:=AP gl p hp b k hk x hx;refine qQ ?_;clear fx c1;refine qG [] .nil qH ?_;simp [zy,h]
 .skip
  have fx:=qk h hgl<|hw5;have c1:=AP gl p hp b k hk x hx;have c2:=E3 gl p hp b k hk x hx;refine qQ ?_;clear fx c1 c2;refine qG [] .nil qH ?_;simp [zy,h]
 .skip
  all_goals have fx:=qk h hgl<|hw22
  repeat' (first|refine zl ?_|refine λ(K:St->Prop) hK=>?_|refine zL (hF:=AP _ p hp b k hk x hx) (h:=?_)|refine fy (hF:=Il _ p hp b k hk (hsf (.inr h))) (h:=?_)|refine zL (hF:=sX _ (zK p b) _ qA) (h:=?_))
  all_goals try clear fx
  refine qG [] .nil qH ?_;simp [zy,h]
theorem Gc (gl) (s:qP) (hkd:0<=s.kind/\s.kind<=11):qM prog gl 208 [s.av] (λr y H'=>y=.hs r 2 0 (jM s).length/\H' r=some (.row 2 (uE (jM s)))):=by
 have hrl:=s.pG;have hw5:IntKind.i64.wrap ((s.reads.length:Int) - 1)=(s.reads.length:Int) - 1:=qi qA qA;obtain⟨kd,to,a,c⟩:=s;simp only at hkd;refine qM.qa func208 [.tmp 2] ntmps208 λC w g root=>?_;rcases SR hkd with rfl|rfl|rfl|rfl|rfl|rfl|rfl|rfl|rfl|rfl|rfl|rfl
 case inr.inr.inr.inr.inr.inl =>
  have hrd:(⟨5,to,a,c⟩:qP).reads=if c=-1 then [a] else [a,c]:=by simp [qP.reads]
  rw [hrd] at hw5;have hcr:=IH gl a c;generalize hL:(if c=-1 then [a] else [a,c])=L at hw5 hcr hrd;have fx:= hw5;have c1:=bj gl ⟨5,to,a,c⟩;have d1:=hcr;refine qQ ?_;clear fx c1 d1;refine vo (t:=2) ?_ ?_ ?_
  all_goals simp [jM,uE,hrd]
 all_goals
  all_goals have fx:=qS
  repeat' (first|refine zl ?_|refine λ(K:St->Prop) hK=>?_|refine zL (hF:=bj _ ⟨_,to,a,c⟩) (h:=?_))
  all_goals try clear fx
  refine vo (t:=2) ?_ ?_ ?_
  all_goals simp [jM,uE]
theorem Ri (gl:Nat->Option (List AV)) (hgl:gl 4=some mZ) (p:qC) (b:Nat) (k:qT) (s:qP) (hp:z6 p) (hk:p[b]?=some k) (hsm:s∈k.body):qM prog gl 163 [vi p,iv b,s.av] (λr y H'=>y=.hs r 2 0 (bS p b s).length/\H' r=some (.row 2 (uE (bS p b s)))):=by
 have hrl:=s.pG;have hn:=hp.names k (gM hk);have hkd:=hn.kinds s hsm;obtain⟨ht0,ht7⟩:=hn.zN s hsm;obtain⟨T,hT⟩:∃ T:Nat,s.to=T:=⟨s.to.toNat,qA⟩;have hT8:T<8:=qA;have hav:s.av=.agg [iv s.kind,iv T,iv s.a,iv s.b]:=by rw [<- hT]
 rw [ZB];refine qM.qa func163 [.tmp 6] ntmps163 λC w g root=>?_
 all_goals have fx:=qS
 repeat' (first
  | refine wu ?_|refine bV ?_|refine au ?_|refine bW λK hK=>?_
  | ((with_reducible refine kJ hK ?_);clear hK K)
  | (with_reducible first|refine wt ?_|refine bm ?_|refine cE ?_|refine bl ?_|refine aq ?_|refine bN ?_|refine bn qc ?_)
  | refine cF ?_
  | refine bX ?_
  | (with_reducible first|refine wQ ?_|refine bY (h:=?_)|refine dh (h:=?_)|refine cG (T:=196) (h:=?_)|refine dC (T:=196) (h:=?_)|refine dD (h:=?_))
  | ((with_reducible refine nA 110 rfl ?_);refine zL (hF:=bj _ s) (h:=?_))
  | (refine Gg (hF:=Fe _ qY s hkd) (h:=?_))
  | (with_reducible refine ww (h:=?_))
  | refine cI (h1:=?_)|refine cH (h1:=?_)
  | fail)
 all_goals try clear fx
 refine zU (λn st=>∃ i:Nat,n=s.reads.length - i/\i<=s.reads.length/\st.tm 0=vi p/\st.tm 1=iv b/\st.tm 5=.pt (.s 5) 0/\st.hp (.s 5)=some (.row 4 [s.cells])/\st.tm 14=.hs (.s 14) 1 0 s.reads.length/\st.hp (.s 14)=some (.row 1 (qm s.reads))/\st.tm 15=iv s.reads.length/\st.tm 16=iv i/\st.tm 7=.hs (.s 7) 2 0 (gz p b s i).length/\st.hp (.s 7)=some (.row 2 (uE (gz p b s i)))) s.reads.length ?_ ?_
 .exact⟨0,qA,qA,qB,qB,qB,qB,qB,qB,qB,qB,qB,io⟩
 rintro n st - - ⟨i,rfl,hi,h0,h1,h5,hp5,h14,hp14,h15,h16,h7,hp7⟩;have hll:(gz p b s i).length<=10:=qn;by_cases hil:i<s.reads.length
 .obtain⟨u,hu⟩:=gX hil;obtain⟨_,huE⟩:=gS hu;obtain⟨hu0,hu7⟩:=hn.reads s hsm u (gM hu);obtain⟨U,rfl⟩:∃ U:Nat,u=U:=⟨u.toNat,qA⟩;have hnx:=VF (p:=p) (b:=b) hu;generalize hL:gz p b s i=L at h7 hp7 hnx hll;have fx:=qr h0 h1 h5 hp5 h14 hp14 h15 h16 h7 hp7 hu huE<|aI hil<|hll;have c1:=Cv gl hgl p hp b k hk U qA 0 qc qc;refine qQ ?_;clear fx c1;refine⟨s.reads.length - (i+1),qA,i+1,rfl,qA,ji,zx,yV,be,by simp [h14],by simp [hp14],rL,zw,by simp [hnx],?_⟩;rw [hnx];simp [uE]
 .have hge:i=s.reads.length:=qA;rw [hge] at h7 hp7 hll;have hwl:=NR s;generalize hL:gz p b s s.reads.length=L at h7 hp7 hll;by_cases hk11:s.kind=11
  .have yG:yP p b s=[zy p b T 2]:=by simp [yP,hk11,hT]
   rw [yG];generalize hWL:jM s=WL at hwl;have hwo:=Gc gl s hkd;rw [hWL,hav] at hwo;have hk11':(s.kind==11)=true:=by simpa using hk11
   have fx:=qr h0 h1 h5 hp5 h14 hp14 h15 h16 h7 hp7 hil hge<|zC hll hwl hk11'<|hT;have d1:=hwo;have c1:=Cv gl hgl p hp b k hk T hT8 2 qc qc;refine qQ ?_;clear fx d1 c1;refine vo (t:=6) ?_ ?_ ?_
   all_goals simp [FF,pZ,yU,cP]
  .have hk11':(s.kind==11)=false:=by simpa using hk11
   by_cases yG:0<=s.kind/\s.kind<=6
   .have hsl:yP p b s=[zy p b T 1]:=by simp [yP,hk11,hT,yG]
    rw [hsl];generalize hWL:jM s=WL at hwl;have hwo:=Gc gl s hkd;rw [hWL,hav] at hwo;have hbi:=DC gl s;rw [decide_eq_true (.inl yG:s.cu\/s.kind=11),hav] at hbi;have fx:=qr h0 h1 h5 hp5 h14 hp14 h15 h16 h7 hp7 hil hge<|zC hll hwl hk11'<|hT;have d1:=hwo;have c1:=hbi;have c2:=Cv gl hgl p hp b k hk T hT8 1 qc qc;refine qQ ?_;clear fx d1 c1 c2;refine vo (t:=6) ?_ ?_ ?_
    all_goals simp [FF,pZ,yU,cP]
   .have hsl:yP p b s=[]:=by simp only [yP,if_neg hk11,if_neg yG]
    rw [hsl];generalize hWL:jM s=WL at hwl;have hwo:=Gc gl s hkd;rw [hWL] at hwo;have hbi:=DC gl s;rw [decide_eq_false (λh:s.cu\/s.kind=11=>h.elim yG hk11)] at hbi;have fx:=qr h0 h1 h5 hp5 h14 hp14 h15 h16 h7 hp7 hil hge<|qk hll hwl<|hk11';have d1:=hwo;have c1:=hbi;refine qQ ?_;clear fx d1 c1;refine vo (t:=6) ?_ ?_ ?_
    all_goals simp [FF,pZ,yU,cP]
abbrev F4:qb:=AA<|.q 5<|.q 6<|.q 8<|.q 9<|.q 12<|.q 13<|.l2 4 [13,12,9,8,6,5,1,0] (.l2 7 [13,12,9,8,1,0] (.l2 10 [13,12,1,0] (.l2 11 [13,12,1,0] (.l2 14 [1,0] (.q 15<|.l 16 [15,1,0]<|.l 17 []<|.done) 16 [13,12,1,0] (.l 14 [1,0]<|.q 15<|.l 17 []<|.done)) 16 [13,12,1,0] (.l 11 [13,12,1,0]<|.l 14 [1,0]<|.q 15<|.l 17 []<|.done)) 16 [13,12,9,8,1,0] (.l 10 [13,12,1,0]<|.l 11 [13,12,1,0]<|.l 14 [1,0]<|.q 15<|.l 17 []<|.done)) 16 [13,12,9,8,6,5,1,0] (.l 7 [13,12,9,8,1,0]<|.l 10 [13,12,1,0]<|.l 11 [13,12,1,0]<|.l 14 [1,0]<|.q 15<|.l 17 []<|.done)) 16 [13,12,9,8,6,5,3,2,1,0] (.l 4 [13,12,9,8,6,5,1,0]<|.l 7 [13,12,9,8,1,0]<|.l 10 [13,12,1,0]<|.l 11 [13,12,1,0]<|.l 14 [1,0]<|.q 15<|.l 17 []<|.done)
abbrev F5:qb:=.q 0<|.q 1<|.q 2<|.q 3<|.q 4<|.l 5 [1,0]<|.l 6 []<|.q 7<|.l 8 []<|.done
theorem Q1 (gl) (p:qC) (hp:z6 p) (b:Nat) (k:qT) (hk:p[b]?=some k):qM prog gl 160 [vi p,iv b] (λr y H'=>y=.hs r 1 0 (zK p b).length/\H' r=some (.row 1 (qm (zK p b)))):=by
 by_cases hk1:k.kind=1
 .exact Il gl p hp b k hk hk1
 have hh:=hp.jR;obtain⟨zF,hbE⟩:=gS hk;have hka:zt p b=k.kind:=ge;have hsg:=pI (p:=p) zF;rw [cq hh hk] at hsg;obtain⟨_,hse⟩:=gS hsg;have hc:zK p b=[]:=by simp [zK,hka,hk1]
 have hkd:(k.kind==1)=false:=Ar;rw [hc];refine qM.qa func160 [.tmp 4] ntmps160 λC w g root=>?_;refine qI ?_<|zM hsg hse hkd zF<|@qx;exact vo (t:=4) y3 y3 qB
theorem P1 (gl) (p:qC) (b:Nat):qM prog gl 162 [.agg (zP (qh p b))] (λr z H'=>z=.hs r 1 0 (qh p b).length/\H' r=some (.row 1 (qm (qh p b)))):=by
 have hli:=Bk gl (qh p b);rw [M2] at hli;exact hli
theorem Rh (gl:Nat->Option (List AV)) (hgl:gl 4=some mZ) (p:qC) (hp:z6 p) (b:Nat) (k:qT) (hk:p[b]?=some k):qM prog gl 113 [yu p,vi p,iv b] (λr y H'=>y=.agg ((zr p b).own r 0)/\eg H' r 0 (zr p b)):=by
 have hl7:=hp.len.2;have hkm:=gM hk;obtain⟨zF,hbE⟩:=gS hk;have hk12:=hp.body k hkm;obtain⟨hpl,_⟩:=hp.ft.uu hk;have hcode:zr p b=⟨k.kind,k.params,zK p b,qh p b,jF p b,vX p b k.body⟩:=by simp [zr,zm,hk]
 have hfl:=BO (p:=p) (b:=b);have hcl:=xH (p:=p) (b:=b);have hrl:=oh (p:=p) (b:=b);rw [hcode];refine qM.qa func113 [.cell 6 198] ntmps113 λC w g root=>?_;have fx:=zC hk hbE zF<|hpl;have c1:=xG gl p hp b k hk;have d1:=Q1 gl p hp b k hk;have d2:=P1 gl p b;have d3:=EX gl p hp b zF;refine qQ ?_
 first|refine qf (id:=2) F4 mixed ?_|refine qf (id:=6) F5 mixed ?_
 refine SI (λst=>st.tm 1=vi p/\st.tm 2=iv b/\st.tm 6=.pt (.s 6) 0/\st.hp (.s 6)=some (.row 6 [lO.own (.s 6) 0])/\st.tm 8=.pt (.s 8) 0/\st.tm 33=eZ k.body/\st.tm 34=iv k.body.length/\st.tm 35=iv 0/\st.hp (.s 8)=some (.row 6 [vU.own (.s 8) 0 ⟨k.kind,k.params,zK p b,qh p b,jF p b,[]⟩])/\st.hp (.c (.s 8) 0 1)=some (.row 1 (qm k.params))/\st.hp (.c (.s 8) 0 2)=some (.row 1 (qm (zK p b)))/\st.hp (.c (.s 8) 0 3)=some (.row 1 (qm (qh p b)))/\st.hp (.c (.s 8) 0 4)=some (.row 1 (qm (jF p b)))/\st.hp (.c (.s 8) 0 5)=some (.row 2 [])) ?_;clear fx c1 d1 d2 d3;rintro st ⟨h1,h2,h6,hp6,h8,h33,h34,h35,hp8,q1,q2,q3,q4,q5⟩;refine zU (λn st=>∃ i:Nat,n=k.body.length - i/\i<=k.body.length/\st.tm 1=vi p/\st.tm 2=iv b/\st.tm 6=.pt (.s 6) 0/\st.hp (.s 6)=some (.row 6 [lO.own (.s 6) 0])/\st.tm 8=.pt (.s 8) 0/\st.tm 33=eZ k.body/\st.tm 34=iv k.body.length/\st.tm 35=iv i/\∃ c:vU,c=⟨k.kind,k.params,zK p b,qh p b,jF p b,vX p b (k.body.take i)⟩/\st.hp (.s 8)=some (.row 6 [c.own (.s 8) 0])/\eg st.hp (.s 8) 0 c) k.body.length ?_ ?_
 .refine⟨0,qA,qA,h1,h2,h6,hp6,h8,h33,h34,h35,_,rfl,?_,⟨?_,?_,?_,?_,?_⟩⟩
  all_goals simp [vX,hp8,q1,q2,q3,q4,q5]
 clear h1 h2 h6 hp6 h8 h33 h34 h35 hp8 q1 q2 q3 q4 q5;rintro n st - - ⟨i,rfl,hi,h1,h2,h6,hp6,h8,h33,h34,h35,c,hc,hp8,⟨o1,o2,o3,o4,o5⟩⟩;have hll:=Hf (p:=p) (b:=b) (k.body.take i);rw [mE] at hll;by_cases hil:i<k.body.length
 .obtain⟨s,hss⟩:=gX hil;obtain⟨_,hsE⟩:=gS hss;have hnx:=PA (p:=p) (b:=b) hss;have hsl:=Mj (p:=p) (b:=b) (s:=s);generalize hL:vX p b (k.body.take i)=L at hc hnx hll;subst hc;simp only [vU.FM] at hp8 o1 o2 o3 o4 o5;have fx:=qr h1 h2 h6 hp6 h8 h33 h34 h35 hp8 o1 o2 o3<|jQ o4 o5 hss hsE hil hll<|hsl;have d1:=Ri gl hgl p b k s hp hk (gM hss);refine qQ ?_
  repeat ((first|refine qf (id:=2) F4 mixed ?_|refine qf (id:=6) F5 mixed ?_);refine zQ ?_;refine qQ ?_)
  clear fx d1;refine⟨k.body.length - (i+1),qA,i+1,rfl,qA,zx,jp,aY,gb,by simp [h8],by simp [h33],by simp [h34],zw,_,rfl,?_,⟨?_,?_,?_,?_,?_⟩⟩
  all_goals simp [vU.own,hnx,o1,o2,o3,o4,o5,hp8]
 .have hge:i=k.body.length:=qA;subst hge;rw [wD] at hc;subst hc;simp only [vU.FM] at hp8 o1 o2 o3 o4 o5;have fx:=qr h1 h2 h6 hp6 h8 h33 h34 h35 hp8 o1 o2 o3<|qk o4 o5<|hil;refine qQ ?_
  repeat ((first|refine qf (id:=2) F4 mixed ?_|refine qf (id:=6) F5 mixed ?_);refine zQ ?_;refine qQ ?_)
  clear fx;refine qG [(.s 8,root)] (.one rfl) Ax ⟨?_,⟨?_,?_,?_,?_,?_⟩⟩
  all_goals simp [h6,o1,o2,o3,o4,o5]
theorem Rf (gl:Nat->Option (List AV)) (hgl:gl 4=some mZ) (p:qC) (hp:z6 p):qM prog gl 74 [yu p,vi p] (λr y H'=>y=.hs r 6 0 (yl p p.length).length/\Cn H' r (yl p p.length)):=by
 have hl7:=hp.len.2;refine qM.qa func74 [.tmp 4] ntmps74 λC w g root=>?_;refine qI ?_<|qS;refine zU (λn st=>∃ i:Nat,n=p.length - i/\i<=p.length/\st.tm 1=vi p/\st.tm 2=.pt (.s 2) 0/\st.hp (.s 2)=some (.row 1 [[vK p]])/\st.tm 9=iv p.length/\st.tm 10=iv i/\∃ cs:List vU,cs=yl p i/\cs.length=i/\st.tm 5=.hs (.s 5) 6 0 cs.length/\Cn st.hp (.s 5) cs) p.length ?_ ?_
 .refine⟨0,qA,qA,qB,qB,qB,qB,qB,[],qB,rfl,qB,⟨qB,λi c h=>by simp at h⟩⟩
 rintro n st - - ⟨i,rfl,hi,h1,h2,hp2,h9,h10,cs,hcs,hcl,h5,⟨ht,he⟩⟩;by_cases hil:i<p.length
 .obtain⟨k,hk⟩:=gX hil;have hnx:=Pk (p:=p) (n:=i);have hcc:=Rh gl hgl p hp i k hk;rw [<- hcs] at hnx;generalize hC:zr p i=c at hcc hnx;have hcl7:cs.length<=7:=qA;have fx:=j2 h1 h2 hp2 h9 h10<|hil;have e1:=hcc;refine qQ ?_;clear fx e1;rintro K hK y H' ⟨rfl,hO⟩;obtain⟨o1,o2,o3,o4,o5⟩:=hO.uC;refine⟨qB,?_⟩;refine qI ?_<|qr h1 h2 hp2 h9 h10 h5 ht hcl7 o1 o2 o3 o4<|o5;refine⟨p.length - (i+1),qA,i+1,rfl,qA,zx,jp,jq,cX,zw,cs++[c],hnx.symm,by simp [hcl],qB,⟨?_,λj d hj=>?_⟩⟩
  .simp [ht,SK]
  .rcases aC j cs.length with hlj|hgj
   .rw [vn hlj] at hj;have hne:¬ j=cs.length:=qA;obtain⟨e1,e2,e3,e4,e5⟩:=he j d hj;exact⟨by simp [hne,e1],by simp [hne,e2],by simp [hne,e3],by simp [hne,e4],by simp [hne,e5]⟩
   .rw [kD hgj] at hj
    obtain rfl:j=cs.length:=by
     have:=(gS hj).1;simp at this;omega
    simp at hj;subst hj;exact⟨by simp [o1],by simp [o2],by simp [o3],by simp [o4],by simp [o5]⟩
 .have hge:i=p.length:=qA;subst hge;subst hcs;refine qI ?_<|jJ h1 h2 hp2 h9 h10 hil h5<|ht;refine qG [(.s 4,root)] (.one rfl) qH ⟨qB,⟨by simp [ht,xT (n:=.s 4) (m:=root) (f:=zE zf [(.s 4,root)]) qB],λj d hj=>?_⟩⟩;obtain⟨e1,e2,e3,e4,e5⟩:=he j d hj;exact⟨by simp [e1],by simp [e2],by simp [e3],by simp [e4],by simp [e5]⟩
attribute [local simp] uo iF
theorem Ss (gl) (l:List (Int×Int)) (A:Nat) (hA:A<l.length) (hl:l.length<=1000):qM prog gl 210 [xh l,iv A] (λ_ y _=>y=iv ((uc (l.take (A+1)):Int) - 1)):=by
 have hw:IntKind.i64.wrap ((A:Int)+1)=((A+1:Nat):Int):=by rw [qi qA qA];rfl
 have hA1:A+1<=l.length:=qA;have hmin:min (A+1) l.length=A+1:=Nat.min_eq_left hA1;generalize hB:A+1=B at hw hA1 hmin;refine qM.qa func210 [.tmp 4] ntmps210 λC w g root=>?_;refine qI ?_<|qk hw hA1<|hmin;refine zU (λn st=>∃ i:Nat,n=B - i/\i<=B/\st.tm 11=xh (l.take B)/\st.tm 12=iv B/\st.tm 13=iv i/\st.tm 5=iv ((uc (l.take i):Int) - 1)) B ?_ ?_
 .exact⟨0,qA,qA,qB,by simp [hmin],qB,by simp [uc]⟩
 rintro n st - - ⟨i,rfl,hi,h11,h12,h13,h5⟩;by_cases hil:i<B
 .have hil2:i<l.length:=qA;obtain⟨o,ho⟩:=gX hil2;have ho2:(l.take B)[i]?=some o:=by rw [tK,if_pos hil,ho]
  obtain⟨hoL,hoE⟩:=gS ho2;have htk:=NA ho;have htl:uc (l.take i)<=i:=ka Zq qn;have hLl:(l.take B).length=B:=qn;generalize l.take B=L at h11 ho2 hoL hoE hLl ⊢;generalize uc (l.take i)=T at h5 htk htl
  have hwT:IntKind.i64.wrap ((T:Int) - 1+1)=(T:Int):=by
   rw [show (T:Int) - 1+1=T by omega];exact qi qA qA
  cases ho0:(o.1==0)
  .have e0:¬ o.1=0:=by simpa using ho0
   refine qI ?_<|yz h11 h12 h13 h5 ho2 hoE hoL hil<|ho0;exact⟨B - (i+1),qA,i+1,rfl,qA,fL,oL,zw,by simp [htk,e0,h5]⟩
  .have e0:o.1=0:=by simpa using ho0
   have e1:((T+1:Nat):Int) - 1=T:=qA;have hwT':IntKind.i64.wrap (T:Int)=(T:Int):=qi qA qA;refine qI ?_<|vA h11 h12 h13 h5 ho2 hoE hoL hil ho0<|hwT;refine⟨B - (i+1),qA,i+1,rfl,qA,fL,oL,zw,?_⟩;rw [htk,if_pos e0,e1];simp [hwT']
 .have hge:i=B:=qA;refine qI ?_<|zM h11 h12 h13 h5<|hil;refine qG [] .nil qH ?_;rw [<- hge];simp
end Go.Proofs.YtjgpejikjhojcaaGreatDoor
end
section
namespace Go.Proofs.YtjgpejikjhojcaaGreatDoor
open Go Go.Hm Go.Proofs Tryz
abbrev Vo:qb:=Lx<|.l 16 [11,6,5,4,2,1,0]<|.l 17 []<|.done
abbrev Vp:qb:=bQ<|.l 11 [5,4,3,2,1,0]<|.l 12 [5,0]<|.q 13<|.q 14<|.l 15 []<|.done
theorem E7 {A G G2:Prop} (k:G2) (x:A) (h:A->jP G2->G:=by
 intro fx kk;refine qQ ?_
 repeat ((first|refine qf (id:=4) Vo mixed ?_|refine qf (id:=5) Vp mixed ?_);refine zQ ?_;refine qQ ?_)
 exact kk.h):G:=h x ⟨k⟩
theorem Nd (gl) (H:Nm->Option AO) (p:qC) (m:qU) (fs:List qN) (f:qN) (o:Int×Int) (ho:(zm p f.qD)[f.pc - 1]?=some o) (ho0:o.1=0) (hb:f.qD<p.length) (hp7:p.length<=7) (he:m.en=0) (hfl:fs.length<=150) (hlf:m.left<=150) (htl:m.trace.length<=1000) (hpc1:1<=f.pc) (hpc:f.pc<=(zm p f.qD).length) (hol:(zm p f.qD).length<=60) (hO:qE H p (m.top fs f)) :
  qV prog gl 167 DM [.pt Yn 0,.pt Yn (yo fs.length)] H (λ_ y H'=>y=bv (decide ((dB p m fs f).en=0))/\qE H' p (dB p m fs f)) qy:=by
 obtain⟨R,j,hT,tr,h2,h3,h28⟩:=hO.jz rfl qA;have hRl:=tr.len;have r2:=tr.r2;have r0:=tr.r0;have f0:=tr.f0;have f1:=tr.f1;obtain⟨r2l,r2E⟩:=gS r2;simp only [qU.top] at r2 r2E;refine qV.qa func167 [.tmp 4] ntmps167 (λ_=>qv) λC w g root hroot=>?_;by_cases hl:m.left=0
 .have ht:dB p m fs f=m.stop fs f 1:=by simp only [dB,hl,if_true]
  rw [ht];refine E7 ?_<|zM hT r2 r2E hRl<|hl;intro K hK;have fx:=qS;refine zk hO (have h:=hO;qE.re h) (qX _) (hF:=λhO=>ef gl DM (λ_=>qv) _ R 1 zG hRl) (h:=?_);rintro y H1 hw;clear fx;have hO1:=qE.qi (qE.ea (e:=1) (have h:=hO;qE.re h) rfl zG) hw;obtain⟨rfl,-⟩:=hw;refine E7 ?_<|qS;refine qG [] .nil qH ⟨qB,qE.fin (have h:=hO1;qE.re h)⟩
 .obtain⟨l,hll⟩:∃ l,m.left=l+1:=⟨m.left - 1,qA⟩
  have ht:dB p m fs f={ m.top fs f with left:=l,trace:=m.trace++[(f.qD,uc ((zm p f.qD).take (f.pc - 1)))] }:=by
   simp only [dB,hl,if_false,hll]
   rfl
  rw [ht];have hlb:((l:Int)+1==0)=false:=wW;have hwl:IntKind.i64.wrap (l:Int)=l:=qi qA qA;refine qI ?_<|jQ hT r2 r2E hRl hll hlb<|hwl;refine aS (λs=>s.tm 0=.pt Yn 0/\s.tm 1=.pt Yn (yo fs.length)/\qE s.hp p ({ m with left:=l }.top fs f)) ⟨qB,qB,?_⟩ ?_
  .have h:=hO;exact qE.eU h rfl rfl rfl (nE (R':=ql R 2 [iv l]) hT tY (λJ hJ e=>by rw [e];exact qAl)) (h6t:=jp) (h7t:=jj) (h8t:=⟨j,kE⟩)
  clear hT tr r2E r2l r2 r0 f0 f1 hRl h2 h3 h28 hO j R;rintro s ⟨t0,t1,hO⟩;obtain⟨R,j,hT,tr,h2,h3,h28⟩:=hO.jz rfl qA;have hRl:=tr.len;have r5:=tr.r5;have r0:=tr.r0;have f0:=tr.f0;have f1:=tr.f1;simp only [qU.top] at r5;obtain⟨_,r5E⟩:=gS r5;obtain⟨_,r0E⟩:=gS r0;obtain⟨f0l,f0E⟩:=gS f0;obtain⟨f1l,f1E⟩:=gS f1;have hcd:(yl p p.length)[f.qD]?=some (zr p f.qD):=by simp [yl,hb]
  obtain⟨hcdl,hcdE⟩:=gS hcd;obtain⟨k,hk⟩:=gX hb;have hco:(zr p f.qD).ops=zm p f.qD:=mS;have hpw:IntKind.i64.wrap ((f.pc:Int) - 1)=((f.pc - 1:Nat):Int):=ga;have hla:=Ss gl (zm p f.qD) (f.pc - 1) qA qA;have hpe:f.pc - 1+1=f.pc:=qA;rw [hpe] at hla;have hTr:=hO.yH;have fx:=qr t0 t1 hT r0 r0E r5 r5E f0 f0E f0l f1 f1E<|yz f1l hcd hcdl hcdE hco hpw hRl hTr<|htl;have c1:=hla;refine E7 ?_<|@fx;clear fx c1
  have htk:((uc ((zm p f.qD).take f.pc):Nat):Int) - 1=uc ((zm p f.qD).take (f.pc - 1)):=by
   have:=NA ho;rw [hpe,if_pos ho0] at this;rw [this];omega
  have hap:vf m.trace++[[iv f.qD,iv (((uc ((zm p f.qD).take f.pc):Nat):Int) - 1)]]=vf (m.trace++[(f.qD,uc ((zm p f.qD).take (f.pc - 1)))]):=by rw [htk];exact Ev
  refine qG [] .nil qH ⟨by simp [qU.top,he],qE.fin ?_⟩;have h:=hO;exact qE.eU h rfl rfl rfl (CF hT qH (λJ hJ e=>by rw [e];simp only [ix];exact RZ (m.trace++[(f.qD,uc ((zm p f.qD).take (f.pc - 1)))]) hJ qB (λj hj=>by simp [hj]))) (h3:=by simp [<- hap]) (h6t:=jp) (h7t:=jj) (h8t:=⟨j,kE⟩)
theorem Ci (gl) (H:Nm->Option AO) (p:qC) (m:qU) (fs:List qN) (f:qN) (o:Int×Int) (off wy:Nat) (e:Int) (hW:iX p m fs f o off) (hm0:m.en=0) (he:e≠0) (hwy:wy<=2) (hfl:fs.length<=150) (hst:wy=1->1<=f.stack.length) (hsl:f.stack.length<=1000) (hO:qE H p (m.top fs f)) :
  qV prog gl 168 DM [.pt Yn 0,.pt Yn (yo fs.length),.pt Yn off,iv wy,iv e] H (λ_ y H'=>y=bv (decide ((vu m fs f o wy e).en=0))/\qE H' p (vu m fs f o wy e)) qy:=by
 obtain⟨R,j,hT,tr,h2,h3,h28⟩:=hO.jz rfl qA;have hRl:=tr.len;have f28:=tr.f28;have hle:=hW.le;have hrd:=hW.rd f R rfl tr;have s0:=hrd 0 qA;have s1:=hrd 1 qA;have s2:=hrd 2 qA;rw [dj] at s0;have yoh:yo fs.length+29<=4415:=uv;refine qV.qa func168 [.tmp 10] ntmps168 (λ_=>qv) λC w g root hroot=>?_;by_cases w1:wy=1
 .subst w1;have hres:vu m fs f o 1 e=yY m fs f.pop o (some f.zN):=rfl;rw [hres];obtain⟨k,hk⟩:∃ k,f.stack.length=k+1:=⟨f.stack.length - 1,by have:=hst rfl;omega⟩;rw [hk] at f28;obtain⟨G,hG,g1,g2,g3,c1,c2,c3,c4,c5,c6,hR⟩:=hW.wr f.pop (some f.zN) rfl rfl;refine qI ?_<| hT;intro K hK;have fx:=qS;refine zk hO (have h:=hO;qE.re h) (qX _) (hF:=λ_=>lp gl DM (λ_=>qv) _ R (yo fs.length) k (f.stack++j) f.zN zG f28 kE (la hk) qA yoh) (h:=?_);intro y H1 hw;clear fx;have hO1:=qE.qi (qE.gx (m:=m.top fs f) (have h:=hO;qE.re h) rfl qA zG hk) hw;obtain⟨rfl,-⟩:=hw;obtain⟨R1,j1,hT1,tr1,h21,h31,h281⟩:=qE.jz (f:=f.pop) hO1 rfl qA;have hR1l:=tr1.len;generalize hv:f.zN=v at *;obtain⟨v1,v2⟩:=v;refine qI ?_<|zC hT hT1 hR1l<|hle;refine qG [] .nil qH ⟨by simp [c6,hm0],qE.fin ?_⟩;have h:=hO1;exact qE.eU h rfl hG (by rw [c1];rfl) (nE (R':=ql R1 off (j6 (some (v1,v2)))) hT1 tY (λJ hJ e=>by rw [e];exact hR J hJ)) (h2:=by simp [h.out,c2]) (h3:=by simp [h.yH,c3]) (h4:=by simp [h.qJ,c4]) (h5:=by simp [h.jk,c5]) (h6t:=by simp [h21,g1]) (h7t:=by simp [h31,g2]) (h8t:=⟨j1,by simp [h281,g3]⟩) (h9:=by rw [c1];intro c s hc;simp [h.cell c s hc])
 .have w1':((wy:Int)==1)=false:=wW
  cases hs:uB m f o with
  | none =>
   have hres:vu m fs f o wy e=m.stop fs f e:=DY;rw [hres];rw [hs] at s0;simp only [si,bE] at s0;obtain⟨s0l,s0E⟩:=gS s0;refine qI ?_<|jQ w1' hT s0 s0E s0l hRl<|hle;intro K hK;have fx:=qS;refine zk hO (have h:=hO;qE.re h) (qX _) (hF:=λ_=>ef gl DM (λ_=>qv) _ R e zG hRl) (h:=?_);intro y H1 hw;clear fx;have hO1:=qE.qi (qE.ea (m:=m.top fs f) (e:=e) (have h:=hO;qE.re h) rfl zG) hw;obtain⟨rfl,-⟩:=hw;refine qI ?_<|qS;refine qG [] .nil qH ⟨by simp [qU.stop,he],qE.fin (have h:=hO1;qE.re h)⟩
  | some v =>
   obtain⟨v1,v2⟩:=v;rw [hs] at s0 s1 s2;simp only [sj,bE,gL] at s0 s1 s2;obtain⟨s0l,s0E⟩:=gS s0;have s12:=su s1 s2;have hle2:off+1+2<=4415:=qA;by_cases w0:wy=0
   .subst w0;have hres:vu m fs f o 0 e=m.top fs (f.push (v1,v2)):=Dy;rw [hres];refine qI ?_<|jJ w1' hT s0 s0E s0l s12 hRl<|hle2;intro K hK;have fx:=aI hT s12;refine zk hO (have h:=hO;qE.re h) (qX _) (hF:=λ_=>dE gl DM (λ_=>qv) _ R (yo fs.length) f.stack j (v1,v2) rfl rfl zG f28 kE hsl yoh) (h:=?_);intro y H1 hw;clear fx;have hO1:=qE.cm (m:=m.top fs f) dN rfl qA rfl zG hw;refine qI ?_<|qS;refine qG [] .nil qH ⟨dz,qE.fin (have h:=hO1;qE.re h)⟩
   .have hres:vu m fs f o wy e=yY m fs f o none:=Df;rw [hres];have w0':((wy:Int)==0)=false:=wW;obtain⟨G,hG,g1,g2,g3,c1,c2,c3,c4,c5,c6,hR⟩:=hW.wr f none rfl rfl;refine qI ?_<|jJ w1' w0' hT s0 s0E s0l hRl<|hle;refine qG [] .nil qH ⟨by simp [c6,hm0],qE.fin ?_⟩;have h:=hO;exact qE.eU h rfl hG (by rw [c1];rfl) (nE (R':=ql R off (j6 none)) hT tY (λJ hJ e=>by rw [e];exact hR J hJ)) (h2:=by simp [h.out,c2]) (h3:=by simp [h.yH,c3]) (h4:=by simp [h.qJ,c4]) (h5:=by simp [h.jk,c5]) (h6t:=by simp [h2,g1]) (h7t:=by simp [h3,g2]) (h8t:=⟨j,by simp [h28,g3]⟩) (h9:=by rw [c1];intro c s hc;simp [h.cell c s hc])
theorem tD (gl) (H:Nm->Option AO) (p:qC) (m:qU) (fs:List qN) (f:qN) (o:Int×Int) (c wy:Nat) (e:Int) (h5:5<=o.1) (h7:o.1<=7) (hc:f.cells.getD o.2.toNat 0=c) (hcl:c<m.cells.length) (hm0:m.en=0) (he:e≠0) (hwy:wy<=2) (hfl:fs.length<=150) (hst:wy=1->1<=f.stack.length) (hsl:f.stack.length<=1000) (hO:qE H p (m.top fs f)) :
  qV prog gl 168 DM [.pt Yn 0,.pt Yn (yo fs.length),.pt (En c) 0,iv wy,iv e] H (λ_ y H'=>y=bv (decide ((vu m fs f o wy e).en=0))/\qE H' p (vu m fs f o wy e)) qy:=by
 obtain⟨R,j,hT,tr,h2,h3,h28⟩:=hO.jz rfl qA;have hRl:=tr.len;have f28:=tr.f28;have e1:¬ o.1<=4:=qA
 have yG:∀ g s,g.cells=f.cells->yY m fs g o s={ m.top fs g with cells:=m.cells.set c s }:=λg s hg=>by
  simp only [yY,if_neg e1,if_pos h7,hg,hc]
 have yoh:yo fs.length+29<=4415:=uv;obtain⟨s,hs1⟩:=gX hcl;have hs:uB m f o=s:=by simp [uB,e1,h7,-List.getD_eq_getElem?_getD,hc,zn,hs1]
 have hE:=hO.cell c s hs1
 have hcs:∀ (s':qu) (hp':Nm->Option AO),hp' (En c)=some (.row 3 [j6 s'])->(∀ c',c'≠c->∀ s,m.cells[c']?=some s->hp' (En c')=some (.row 3 [j6 s]))->∀ (c':Nat) s,(m.cells.set c s')[c']?=some s->hp' (En c')=some (.row 3 [j6 s]):=by
  intro s' hp' h1 h2 c' s hc';rw [ic] at hc';by_cases e:c=c'
  .subst e;rw [if_pos rfl,if_pos hcl] at hc';obtain rfl:=sI hc';exact h1
  .rw [if_neg e] at hc';exact h2 c' (λh=>e h.symm) s hc'
 refine qV.qa func168 [.tmp 10] ntmps168 (λ_=>qv) λC w g root hroot=>?_;by_cases w1:wy=1
 .subst w1;have hres:vu m fs f o 1 e=yY m fs f.pop o (some f.zN):=rfl;rw [hres,yG f.pop _ rfl];obtain⟨k,hk⟩:∃ k,f.stack.length=k+1:=⟨f.stack.length - 1,by have:=hst rfl;omega⟩;rw [hk] at f28;refine qI ?_<| hT;intro K hK;have fx:=qS;refine zk hO (have h:=hO;qE.re h) (qX _) (hF:=λ_=>lp gl DM (λ_=>qv) _ R (yo fs.length) k (f.stack++j) f.zN zG f28 kE (la hk) qA yoh) (h:=?_);intro y H1 hw;clear fx;have hO1:=qE.qi (qE.gx (m:=m.top fs f) (have h:=hO;qE.re h) rfl qA zG hk) hw;obtain⟨rfl,-⟩:=hw;obtain⟨R1,j1,hT1,tr1,h21,h31,h281⟩:=qE.jz (f:=f.pop) hO1 rfl qA;have hE1:=hO1.cell c s hs1;generalize hv:f.zN=v at *;obtain⟨v1,v2⟩:=v;have hd:(j6 s).drop 3=[]:=List.drop_eq_nil_of_le qB;refine qI ?_<|qk hE hE1<|hd;refine qG [] .nil qH ⟨BB,qE.fin ?_⟩;have h:=hO1;exact qE.eU h rfl (m':={ m.top fs f.pop with cells:=m.cells.set c (some (v1,v2)) }) rfl dy (nE (R':=R1) hT1 dP (λJ hJ e=>e.trans (by simp [qe,yA,yB,yZ,qU.top]))) (h6t:=by simp [h21]) (h7t:=by simp [h31]) (h8t:=⟨j1,rf⟩) (h9:=hcs _ _ qB (λc' hn s hc'=>by simp [hn,h.cell c' s hc'])) (hA:=by intro k i j hk e hn;by_cases e2:k=7/\i=c/\j=0;(obtain⟨rfl,rfl,rfl⟩:=e2;rw [hE1];simp);simpa [hk,e,e2] using hn)
 .have w1':((wy:Int)==1)=false:=wW
  cases s with
  | none =>
   have hres:vu m fs f o wy e=m.stop fs f e:=DY;rw [hres];refine qI ?_<|aI w1'<|hE;intro K hK;have fx:=qS;refine zk hO (have h:=hO;qE.re h) (qX _) (hF:=λ_=>ef gl DM (λ_=>qv) _ R e zG hRl) (h:=?_);intro y H1 hw;clear fx;have hO1:=qE.qi (qE.ea (m:=m.top fs f) (e:=e) (have h:=hO;qE.re h) rfl zG) hw;obtain⟨rfl,-⟩:=hw;refine qI ?_<|qS;refine qG [] .nil qH ⟨by simp [qU.stop,he],qE.fin (have h:=hO1;qE.re h)⟩
  | some v =>
   obtain⟨v1,v2⟩:=v;by_cases w0:wy=0
   .subst w0;have hres:vu m fs f o 0 e=m.top fs (f.push (v1,v2)):=Dy;rw [hres];refine qI ?_<|aI w1'<|hE;intro K hK;have fx:=hE;refine zk hO (have h:=hO;qE.re h) (qX _) (hF:=λ_=>dE gl DM (λ_=>qv) _ R (yo fs.length) f.stack j (v1,v2) rfl rfl zG f28 kE hsl yoh) (h:=?_);intro y H1 hw;clear fx;have hO1:=qE.cm (m:=m.top fs f) dN rfl qA rfl zG hw;refine qI ?_<|qS;refine qG [] .nil qH ⟨dz,qE.fin (have h:=hO1;qE.re h)⟩
   .have hres:vu m fs f o wy e=yY m fs f o none:=Df;rw [hres,yG f _ rfl];have w0':((wy:Int)==0)=false:=wW;refine qI ?_<|qk w1' w0'<|hE;refine qG [] .nil qH ⟨BB,qE.fin ?_⟩;have h:=hO;exact qE.eU h rfl (m':={ m.top fs f with cells:=m.cells.set c none }) rfl dy (nE (R':=R) hT zG (λJ hJ e=>e.trans (by simp [qe,yA,yB,yZ,qU.top]))) (h6t:=jp) (h7t:=jj) (h8t:=⟨j,kE⟩) (h9:=hcs _ _ qB (λc' hn s hc'=>by simp [hn,h.cell c' s hc'])) (hA:=by intro k i j hk e hn;by_cases e2:k=7/\i=c/\j=0;(obtain⟨rfl,rfl,rfl⟩:=e2;rw [hE];simp);simpa [hk,e,e2] using hn)
end Go.Proofs.YtjgpejikjhojcaaGreatDoor
end
