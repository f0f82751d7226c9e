import Derived.Test.YtdnebaieamppbaaGreatDoorF24
import Derived.Test.YtdnebaieamppbaaGreatDoorF12
set_option linter.unusedSimpArgs false
set_option linter.unusedVariables false
set_option maxRecDepth 100000
set_option maxHeartbeats 4000000

section
namespace Go.Proofs.YtdnebaieamppbaaGreatDoor
open Go Go.Hm Go.Proofs Tryz
theorem ii (gl) (v:Y6):qX prog gl 103 [Y6.av v] (λ_ y _=>y=iv (Hm.shown v)):=by
 refine qX.Yb func103 [.tmp 2] ntmps103 λC w g root=>?_;by_cases h1:v.1=1
 .skip
  refine qD ?_<| h1;refine qE [] .nil qF (by simp [Hm.shown,h1])
 by_cases h2:v.1=2
 .skip
  refine qD ?_<|aI h1<|h2;refine qE [] .nil qF (by simp [Hm.shown,h1,h2])
 by_cases h3:v.1=3
 .skip
  refine qD ?_<|jD h1 h2<|h3;refine qE [] .nil qF BF
 .skip
  refine qD ?_<|jD h1 h2<|h3;refine qE [] .nil qF BF
abbrev XZ:Y8:=kP<|.q 7<|.l 6 [7]<|.q 8<|.done
abbrev XY:Y8:=kP<|.l 6 []<|.l 7 []<|.done
theorem Af {p:YU} {b c:Nat} (h:b+1<=c):jT p b (c+1 - (b+1))=jT p b (c - (b+1))++an p b c:=by
 rw [show c+1 - (b+1)=c - (b+1)+1 by omega,Ae,show b+1+(c - (b+1))=c by omega]
theorem A4 {p:YU} {b c:Nat} (h:b<=c):jL p b (c+1 - b)=jL p b (c - b)++wS p b c:=by
 rw [show c+1 - b=c - b+1 by omega,A3,show b+(c - b)=c by omega]
theorem we {A G G2:Prop} (k:G2) (x:A) (h:A->Yr G2->G:=by
 intro fx kk;refine qI ?_
 repeat ((first|refine Y7 (id:=9) XZ mixed ?_);refine qW ?_;refine qI ?_)
 exact kk.h):G:=h x ⟨k⟩
theorem v7 (gl) (p:YU) (b:Nat) (k:Y4) (hk:p[b]?=some k) (hs:Zm p) (hh:zD p) (hl7:p.length<=7):qX prog gl 107 [Zc p,iv b] (λr y H'=>y=.hs r 1 0 (qC p b).length/\H' r=some (.row 1 (qS (qC p b)))):=by
 obtain⟨Ym,hbE⟩:=gS hk;have hka:qV p b=k.kind:=kS;have hw:IntKind.i64.wrap ((b:Int)+1)=((b+1:Nat):Int):=by rw [Yi qA qA];rfl
 refine qX.Yb func107 [.tmp 4] ntmps107 λC w g root=>?_
 cases hkd:(k.kind==1)
 .have hc:qC p b=sorted []:=by
   have:¬ k.kind=1:=gI;simp [qC,hka,this]
   rfl
  rw [hc];refine we ?_<| hw;refine qR (λn st=>n=0/\st.tm 1=iv b/\st.tm 2=.pt (.s 2) 0/\st.hp (.s 2)=some (.row 1 [[ZY p]])/\st.tm 6=iv ((b+1:Nat):Int)/\st.tm 5=.hs (.s 5) 1 0 0/\st.hp (.s 5)=some (.row 1 [])) 0 ?_ ?_
  .exact⟨rfl,qB⟩
  rintro n st - - ⟨rfl,h1,h2,hp2,h6,h5,hp5⟩;generalize hc0:b+1=c at h6;by_cases hlt:c<p.length
  .skip
   have fx:=jP h1 h2 hp2 h6 h5 hp5 hk hbE hkd hlt<|Ym;have d1:=ul gl [] qB;refine we ?_<|fx;clear fx d1;exact zq (t:=4) zT zT qB
  .skip
   have fx:=jP h1 h2 hp2 h6 h5 hp5 hk hbE hkd hlt<|Ym;have d1:=ul gl [] qB;refine we ?_<|fx;clear fx d1;exact zq (t:=4) zT zT qB
 have hc:qC p b=sorted (jT p b (p.length - (b+1))):=by
  have:k.kind=1:=gI;simp [qC,hka,this]
 rw [hc];refine we ?_<| hw;refine qR (λn st=>∃ c:Nat,n=p.length - c/\b+1<=c/\c<=p.length/\st.tm 1=iv b/\st.tm 2=.pt (.s 2) 0/\st.hp (.s 2)=some (.row 1 [[ZY p]])/\st.tm 6=iv c/\st.tm 5=.hs (.s 5) 1 0 (jT p b (c - (b+1))).length/\st.hp (.s 5)=some (.row 1 (qS (jT p b (c - (b+1)))))) (p.length - (b+1)) ?_ ?_
 .exact⟨b+1,rfl,qA,qA,qB,qB,qB,qB,by simp [jT,aJ],by simp [jT,aJ]⟩
 rintro n st - - ⟨c,rfl,hc1,hc2,h1,h2,hp2,h6,h5,hp5⟩;have hcl:=nE (p:=p) (b:=b) (n:=c);have hrl:=Db (p:=p) (b:=b) (n:=c - (b+1));by_cases hlt:c<p.length
 .obtain⟨q,hq⟩:=gX hlt;have hul:=q.qBB;have hnext:=Af (p:=p) hc1;have hat:an p b c=q.us.filter (uy p b c):=by simp [an,hq]
  rw [hat] at hnext;generalize hR:jT p b (c - (b+1))=R at h5 hp5 hnext hrl;have fx:=jP h1 h2 hp2 h6 h5 hp5 hk hbE hkd hlt<|aI Ym<|hq;have d1:=EK gl p c q hq (hs.bsm hq);refine we ?_<|fx;clear fx d1;refine qR (λn st=>∃ i:Nat,n=q.us.length - i/\i<=q.us.length/\st.tm 1=iv b/\st.tm 2=.pt (.s 2) 0/\st.hp (.s 2)=some (.row 1 [[ZY p]])/\st.tm 6=iv c/\st.tm 7=.hs (.s 7) 1 0 q.us.length/\st.hp (.s 7)=some (.row 1 (qS q.us))/\st.tm 8=iv i/\st.tm 5=.hs (.s 5) 1 0 (R++(q.us.take i).filter (uy p b c)).length/\st.hp (.s 5)=some (.row 1 (qS (R++(q.us.take i).filter (uy p b c))))) q.us.length ?_ ?_
  .exact⟨0,qA,qA,qz,qj,qn,zL,qB,qB,qB,zA,uz⟩
  clear h1 h2 hp2 h6 h5 hp5;rintro n st - - ⟨i,rfl,hi,h1,h2,hp2,h6,h7,hp7,h8,h5,hp5⟩;have hfl:((q.us.take i).filter (uy p b c)).length<=8:=pb (uS (List.length_take_le' _ _) hul);have hLl:(R++(q.us.take i).filter (uy p b c)).length<=1000:=qv;by_cases hil:i<q.us.length
  .obtain⟨u,hu⟩:=gX hil;obtain⟨_,huE⟩:=gS hu;have hnx:R++(q.us.take (i+1)).filter (uy p b c)=R++(q.us.take i).filter (uy p b c)++(if uy p b c u=true then [u] else []):=by rw [z6 hu,nS]
   generalize hL:R++(q.us.take i).filter (uy p b c)=L at h5 hp5 hnx hLl
   cases ho:(qh p c u==(b:Int))
   .rw [if_neg (by simp only [uy,ho];decide),sj] at hnx;have fx:=qQ h1 h2 hp2 h6 h7 hp7 h8 h5 hp5 hq hu huE<|aI hil<|ho;have c1:=w9 gl p c q u hq hs hh;refine we ?_<|fx;clear fx c1;exact⟨q.us.length - (i+1),qA,i+1,rfl,qA,qz,qj,qn,zL,yW,co,q8,by simp [hnx,h5],by simp [hnx,hp5]⟩
   .rw [if_pos (by simp only [uy,ho])] at hnx;have fx:=qQ h1 h2 hp2 h6 h7 hp7 h8 h5 hp5 hq hu huE<|jD hil ho<|hLl;have c1:=w9 gl p c q u hq hs hh;refine we ?_<|fx;clear fx c1;refine⟨q.us.length - (i+1),qA,i+1,rfl,qA,qz,qj,qn,zL,yW,co,q8,by simp [hnx,h5],?_⟩;rw [hnx];simp [hp5,qS]
  .have hge:i=q.us.length:=qA;rw [hge,kM,<- hnext] at h5 hp5;refine we ?_<|ko h1 h2 hp2 h6 h7 hp7 h8<|hil;exact⟨p.length - (c+1),qA,c+1,rfl,qA,qA,qz,qj,qn,Ao,zA,uz⟩
 .have hge:c=p.length:=qA;subst hge;have fx:=jP h1 h2 hp2 h6 h5 hp5 hk hbE hkd hlt<|Ym;have d1:=ul gl (jT p b (p.length - (b+1))) qA;refine we ?_<|fx;clear fx d1;exact zq (t:=4) zT zT qB
theorem km {A G G2:Prop} (k:G2) (x:A) (h:A->Yr G2->G:=by
 intro fx kk;refine qI ?_
 repeat ((first|refine Y7 (id:=9) XY mixed ?_);refine qW ?_;refine qI ?_)
 exact kk.h):G:=h x ⟨k⟩
theorem nu (gl) (p:YU) (b:Nat) (Ym:b<p.length) (hs:Zm p) (hh:zD p) (hl7:p.length<=7):qX prog gl 108 [Zc p,iv b] (λr y H'=>y=.hs r 1 0 (qN p b).length/\H' r=some (.row 1 (qS (qN p b)))):=by
 have hc:qN p b=sorted (jL p b (p.length - b)):=rfl;rw [hc];refine qX.Yb func108 [.tmp 4] ntmps108 λC w g root=>?_;refine km ?_<|Ya;refine qR (λn st=>∃ c:Nat,n=p.length - c/\b<=c/\c<=p.length/\st.tm 1=iv b/\st.tm 2=.pt (.s 2) 0/\st.hp (.s 2)=some (.row 1 [[ZY p]])/\st.tm 6=iv c/\st.tm 5=.hs (.s 5) 1 0 (jL p b (c - b)).length/\st.hp (.s 5)=some (.row 1 (qS (jL p b (c - b))))) (p.length - b) ?_ ?_
 .exact⟨b,rfl,qA,qA,qB,qB,qB,qB,by simp [jL,aJ],by simp [jL,aJ]⟩
 rintro n st - - ⟨c,rfl,hc1,hc2,h1,h2,hp2,h6,h5,hp5⟩;have hrl:=nE (p:=p) (b:=b) (n:=c - b);by_cases hlt:c<p.length
 .obtain⟨q,hq⟩:=gX hlt;have hul:=q.qBB;have hnext:=A4 (p:=p) hc1
  cases hin:qy p c b
  .have hat:wS p b c=[]:=by simp [wS,hq,hin]
   rw [hat,sj] at hnext;generalize hR:jL p b (c - b)=R at h5 hp5 hnext hrl;have fx:=ko h1 h2 hp2 h6 h5 hp5 hlt<|hq;have d1:=EK gl p c q hq (hs.bsm hq);refine km ?_<|fx;clear fx d1;refine qR (λn st=>n=0/\st.tm 1=iv b/\st.tm 2=.pt (.s 2) 0/\st.hp (.s 2)=some (.row 1 [[ZY p]])/\st.tm 6=iv c/\st.tm 7=.hs (.s 7) 1 0 q.us.length/\st.hp (.s 7)=some (.row 1 (qS q.us))/\st.tm 8=iv 0/\st.tm 5=.hs (.s 5) 1 0 R.length/\st.hp (.s 5)=some (.row 1 (qS R))) 0 ?_ ?_
   .exact⟨rfl,qz,qj,qn,zL,qB,qB,qB,zA,uz⟩
   clear h1 h2 hp2 h6 h5 hp5;rintro n st - - ⟨rfl,h1,h2,hp2,h6,h7,hp7,h8,h5,hp5⟩;by_cases hu0:0<q.us.length
   .skip
    have fx:=jP h1 h2 hp2 h6 h7 hp7 h8 h5 hp5 hq<|aI hu0<|hin;have c1:=bp gl p c b hs hh hlt;refine km ?_<|fx;clear fx c1;exact⟨p.length - (c+1),qA,c+1,rfl,qA,qA,qz,qj,qn,Ao,ry,BD⟩
   .skip
    have fx:=jP h1 h2 hp2 h6 h7 hp7 h8 h5 hp5 hq<|aI hu0<|hin;have c1:=bp gl p c b hs hh hlt;refine km ?_<|fx;clear fx c1;exact⟨p.length - (c+1),qA,c+1,rfl,qA,qA,qz,qj,qn,Ao,ry,BD⟩
  have hat:wS p b c=q.us.filter (vl p b c):=by simp [wS,hq,hin]
  rw [hat] at hnext;generalize hR:jL p b (c - b)=R at h5 hp5 hnext hrl;have fx:=ko h1 h2 hp2 h6 h5 hp5 hlt<|hq;have d1:=EK gl p c q hq (hs.bsm hq);refine km ?_<|fx;clear fx d1;refine qR (λn st=>∃ i:Nat,n=q.us.length - i/\i<=q.us.length/\st.tm 1=iv b/\st.tm 2=.pt (.s 2) 0/\st.hp (.s 2)=some (.row 1 [[ZY p]])/\st.tm 6=iv c/\st.tm 7=.hs (.s 7) 1 0 q.us.length/\st.hp (.s 7)=some (.row 1 (qS q.us))/\st.tm 8=iv i/\st.tm 5=.hs (.s 5) 1 0 (R++(q.us.take i).filter (vl p b c)).length/\st.hp (.s 5)=some (.row 1 (qS (R++(q.us.take i).filter (vl p b c))))) q.us.length ?_ ?_
  .exact⟨0,qA,qA,qz,qj,qn,zL,qB,qB,qB,zA,uz⟩
  clear h1 h2 hp2 h6 h5 hp5;rintro n st - - ⟨i,rfl,hi,h1,h2,hp2,h6,h7,hp7,h8,h5,hp5⟩;have hfl:((q.us.take i).filter (vl p b c)).length<=8:=pb (uS (List.length_take_le' _ _) hul);have hLl:(R++(q.us.take i).filter (vl p b c)).length<=1000:=qv;by_cases hil:i<q.us.length
  .obtain⟨u,hu⟩:=gX hil;obtain⟨_,huE⟩:=gS hu;have hnx:R++(q.us.take (i+1)).filter (vl p b c)=R++(q.us.take i).filter (vl p b c)++(if vl p b c u=true then [u] else []):=by rw [z6 hu,nS]
   generalize hL:R++(q.us.take i).filter (vl p b c)=L at h5 hp5 hnx hLl;have no:vl p b c u=false->R++(q.us.take (i+1)).filter (vl p b c)=L:=λh=>by rw [hnx,h,if_neg qL,sj]
   cases ho:decide (0<qh p c u)
   .have hno:=no (by simp only [vl,ho];rfl);have fx:=qQ h1 h2 hp2 h6 h7 hp7 h8 h5 hp5 hq hu huE<|jD hil hin<|ho;have c1:=bp gl p c b hs hh hlt;have c2:=w9 gl p c q u hq hs hh;refine km ?_<|fx;clear fx c1 c2;exact⟨q.us.length - (i+1),qA,i+1,rfl,qA,qz,qj,qn,zL,yW,co,q8,by simp [hno,h5],by simp [hno,hp5]⟩
   cases ho2:decide (qh p c u<b)
   .have hno:=no (by simp only [vl,ho2];simp);have fx:=qQ h1 h2 hp2 h6 h7 hp7 h8 h5 hp5 hq hu huE<|j4 hil hin ho<|ho2;have c1:=bp gl p c b hs hh hlt;have c2:=w9 gl p c q u hq hs hh;refine km ?_<|fx;clear fx c1 c2;exact⟨q.us.length - (i+1),qA,i+1,rfl,qA,qz,qj,qn,zL,yW,co,q8,by simp [hno,h5],by simp [hno,hp5]⟩
   .rw [if_pos (by simp only [vl,ho,ho2];rfl)] at hnx;have fx:=qQ h1 h2 hp2 h6 h7 hp7 h8 h5 hp5 hq hu huE<|yl hil hin ho ho2<|hLl;have c1:=bp gl p c b hs hh hlt;have c2:=w9 gl p c q u hq hs hh;refine km ?_<|fx;clear fx c1 c2;refine⟨q.us.length - (i+1),qA,i+1,rfl,qA,qz,qj,qn,zL,yW,co,q8,by simp [hnx,h5],?_⟩;rw [hnx];simp [hp5,qS]
  .have hge:i=q.us.length:=qA;rw [hge,kM,<- hnext] at h5 hp5;have fx:=er h1 h2 hp2 h6 h7 hp7 h8 hil<|hin;have c1:=bp gl p c b hs hh hlt;refine km ?_<|fx;clear fx c1;exact⟨p.length - (c+1),qA,c+1,rfl,qA,qA,qz,qj,qn,Ao,zA,uz⟩
 .have hge:c=p.length:=qA;subst hge;have fx:=kG h1 h2 hp2 h6 h5 hp5<|hlt;have d1:=ul gl (jL p b (p.length - b)) qA;refine km ?_<|fx;clear fx d1;exact zq (t:=4) zT zT qB
structure Zk (p:YU):Prop where
 sml:Zm p
 sh:Y1 p
theorem Zk.Y9 {p:YU} (h:Zk p):zD p:=h.sh.Y9
theorem Zk.len {p:YU} (h:Zk p):p.length<=7:=h.sh.len.2
theorem A9 (gl) (p:YU) (b:Nat) (k:Y4) (hk:p[b]?=some k) (hP:Zk p):qX prog gl 106 [Zc p,iv b] (λr y H'=>y=.hs r 1 0 (qG p b).length/\H' r=some (.row 1 (qS (qG p b)))):=by
 have hs:=hP.sml;have hh:=hP.Y9;have hl7:=hP.len;obtain⟨Ym,hbE⟩:=gS hk;have hka:qV p b=k.kind:=kS;have hcl:=zn (p:=p) (b:=b);refine qX.Yb func106 [.tmp 4] ntmps106 λC w g root=>?_
 cases hkd:(k.kind==1)
 .have hc:qG p b=[]:=by
   have:¬ k.kind=1:=gI;simp [qG,hka,this]
  rw [hc];have fx:=Ya;have d1:=v7 gl p b k hk hs hh hl7;refine qI ?_;clear fx d1;refine qR (λn st=>n=0/\st.tm 1=iv b/\st.tm 2=.pt (.s 2) 0/\st.hp (.s 2)=some (.row 1 [[ZY p]])/\st.tm 7=iv 0/\st.tm 5=.hs (.s 5) 1 0 0/\st.hp (.s 5)=some (.row 1 [])) 0 ?_ ?_
  .exact⟨rfl,qB⟩
  rintro n st - - ⟨rfl,h1,h2,hp2,h7,h5,hp5⟩;refine qD ?_<|gJ h1 h2 hp2 h7 h5 hp5 hk hbE hkd<|Ym;exact zq (t:=4) Ap Ap qB
 have hc:qG p b=qw (yI p b) 8:=by
  have:k.kind=1:=gI;simp [qG,hka,this]
 rw [hc];have fx:=Ya;have d1:=v7 gl p b k hk hs hh hl7;refine qI ?_;clear fx d1;refine qR (λn st=>∃ x:Nat,n=8 - x/\x<=8/\st.tm 1=iv b/\st.tm 2=.pt (.s 2) 0/\st.hp (.s 2)=some (.row 1 [[ZY p]])/\st.tm 7=iv x/\st.tm 6=.hs (.s 6) 1 0 (qC p b).length/\st.hp (.s 6)=some (.row 1 (qS (qC p b)))/\st.tm 5=.hs (.s 5) 1 0 (qw (yI p b) x).length/\st.hp (.s 5)=some (.row 1 (qS (qw (yI p b) x)))) 8 ?_ ?_
 .exact⟨0,qA,qA,qB,qB,qB,qB,qB,qB,by simp [qw],by simp [qw]⟩
 rintro n st - - ⟨x,rfl,hx,h1,h2,hp2,h7,h6,hp6,h5,hp5⟩;have hll:=lr (f:=yI p b) x;by_cases hlt:x<8
 .have hx7:(x:Int)<=7:=qA;have hfi:yI p b x=(qr b k x&&!decide ((x:Int)∈qC p b)):=by simp only [yI,hk]
  have hnext:qw (yI p b) (x+1)=if yI p b x=true then qw (yI p b) x++[(x:Int)] else qw (yI p b) x:=rfl
  generalize hL:qw (yI p b) x=L at h5 hp5 hnext hll
  cases hlo:qr b k x
  .rw [if_neg (by rw [hfi,hlo];simp)] at hnext
   all_goals have fx:=qQ h1 h2 hp2 h7 h6 hp6 h5 hp5 hk hbE hkd Ym<|aI hx7<|hlo
   repeat' (first|refine qK ?_|refine λ(K:St->Prop) hK=>?_|refine qP (hF:=bo _ p b k x hk (hs.bsm hk)) (h:=?_))
   all_goals try clear fx
   exact⟨8 - (x+1),qA,x+1,rfl,qA,qz,qj,qn,BE,zL,va,ry,BD⟩
  cases hce:decide ((x:Int)∈qC p b)
  rotate_left
  .rw [if_neg (by rw [hfi,hlo,hce];decide)] at hnext
   all_goals have fx:=qQ h1 h2 hp2 h7 h6 hp6 h5 hp5 hk hbE hkd Ym<|jD hx7 hlo<|hce
   repeat' (first|refine qK ?_|refine λ(K:St->Prop) hK=>?_|refine qP (hF:=bo _ p b k x hk (hs.bsm hk)) (h:=?_)|refine qP (hF:=uK _ _ _ (uS zn qL)) (h:=?_))
   all_goals try clear fx
   exact⟨8 - (x+1),qA,x+1,rfl,qA,qz,qj,qn,BE,zL,va,ry,BD⟩
  .rw [if_pos (by rw [hfi,hlo,hce];rfl)] at hnext
   all_goals have fx:=qQ h1 h2 hp2 h7 h6 hp6 h5 hp5 hk hbE hkd Ym<|jD hx7 hlo<|hce
   repeat' (first
    | refine uZ ?_|refine ja ?_|refine yH ?_|refine kJ λK hK=>?_
    | ((with_reducible refine vX hK ?_);clear hK K)
    | (with_reducible first|refine q9 ?_)
    | (with_reducible refine jg ?_)
    | ((with_reducible refine Ha ?_);refine uj (h:=?_))
    | (with_reducible first|refine lL ?_|refine zO (h:=?_)|refine jm (T:=32) (h:=?_)|refine vG (h:=?_))
    | ((with_reducible refine nI 81 rfl ?_);refine qP (hF:=bo _ p b k x hk (hs.bsm hk)) (h:=?_))
    | ((with_reducible refine nI 83 rfl ?_);refine qP (hF:=uK _ _ _ (uS zn qL)) (h:=?_))
    | (with_reducible refine x_q (h:=?_))
    | refine j8 (h1:=?_)
    | fail)
   all_goals try clear fx
   refine⟨8 - (x+1),qA,x+1,rfl,qA,qz,qj,qn,BE,zL,va,ry,?_⟩;rw [hnext];simp [hp5,qS]
 .have hge:x=8:=qA;subst hge;refine qD ?_<|gJ h1 h2 hp2 h7 h5 hp5 hk hbE hkd<|Ym;exact zq (t:=4) Ap Ap qB
theorem eH (gl) (p:YU) (b:Nat) (k:Y4) (x:Int) (hk:p[b]?=some k) (hP:Zk p):qX prog gl 56 [Zc p,iv b,iv x] (λ_ y _=>y=iv (vM p b x)):=by
 have hs:=hP.sml;have hh:=hP.Y9;have hl7:=hP.len;have Ym:=(gS hk).1;have hcl:=zn (p:=p) (b:=b);have hfl:=j7 (p:=p) (b:=b);have hbd:=fG (xs:=qN p b) (x:=x);have hw:IntKind.i64.wrap (((qC p b).length:Int)+qq (qN p b) x)=(qC p b).length+qq (qN p b) x:=Yi qA qA;refine qX.Yb func56 [.tmp 6] ntmps56 λC w g root=>?_;by_cases hm:x∈qC p b
 .have h0:0<=qq (qC p b) x:=zr.2 hm
  all_goals have fx:= h0
  repeat' (first|refine qK ?_|refine λ(K:St->Prop) hK=>?_|refine jX (hF:=v7 _ p b k hk hs hh hl7) (h:=?_)|refine qP (hF:=ve _ (qC p b) _ qA) (h:=?_))
  all_goals try clear fx
  refine qE [] .nil qF ?_;simp [vM,hm]
 .have h0:¬ 0<=qq (qC p b) x:=λh=>hm (zr.1 h)
  all_goals have fx:=aI h0<|hw
  repeat' (first|refine qK ?_|refine λ(K:St->Prop) hK=>?_|refine jX (hF:=v7 _ p b k hk hs hh hl7) (h:=?_)|refine jX (hF:=nu _ p b Ym hs hh hl7) (h:=?_)|refine qP (hF:=ve _ (qC p b) _ qA) (h:=?_)|refine qP (hF:=ve _ (qN p b) _ qA) (h:=?_))
  all_goals try clear fx
  refine qE [] .nil qF ?_;simp [vM,hm]
theorem ic (gl) (p:YU) (b:Nat) (k:Y4) (x:Int) (hk:p[b]?=some k) (hP:Zk p):qX prog gl 234 [Zc p,iv b,iv x] (λ_ y _=>y=iv (zh p b x)):=by
 have hs:=hP.sml;have hh:=hP.Y9;have hl7:=hP.len;obtain⟨Ym,hbE⟩:=gS hk;have hka:qV p b=k.kind:=kS;refine qX.Yb func234 [.tmp 6] ntmps234 λC w g root=>?_
 cases ho:decide (qh p b x<0)
 rotate_left
 .skip
  have fx:= ho;have c1:=w9 gl p b k x hk hs hh;refine qI ?_;clear fx c1;refine qE [] .nil qF ?_;have ho':qh p b x<0:=by simpa using ho
  simp [zh,ho']
 cases hb:(qh p b x==(b:Int))
 .skip
  have fx:=jD ho hb<|@qT;have c1:=w9 gl p b k x hk hs hh;refine qI ?_;clear fx c1;refine qE [] .nil qF ?_;have ho':¬ qh p b x<0:=by simpa using ho
  have hb':¬ qh p b x=b:=by simpa using hb
  simp only [zh,if_neg ho',if_pos hb']
  rfl
 have hb':qh p b x=b:=by simpa using hb
 have hnl:¬ qh p b x<0:=qA;have hnn:¬ qh p b x≠b:=λh=>h hb'
 cases hkd:(k.kind==2)
 rotate_left
 .skip
  have fx:=kG ho hb @qT hk hbE Ym<|hkd;have c1:=w9 gl p b k x hk hs hh;refine qI ?_;clear fx c1;refine qE [] .nil qF ?_;have hkd':k.kind=2:=gI;simp only [zh,if_neg hnl,if_neg hnn,hka,if_pos hkd']
  rfl
 have hkd':¬ k.kind=2:=gI
 cases hce:decide (x∈qC p b)
 all_goals
  all_goals have fx:=ko ho hb @qT hk hbE Ym hkd<|hce
  repeat' (first|refine qK ?_|refine λ(K:St->Prop) hK=>?_|refine qP (hF:=w9 _ p b k x hk hs hh) (h:=?_)|refine jX (hF:=v7 _ p b k hk hs hh hl7) (h:=?_)|refine qP (hF:=uK _ _ _ (uS zn qL)) (h:=?_))
  all_goals try clear fx
  refine qE [] .nil qF ?_;simp at hce;simp only [zh,if_neg hnl,if_neg hnn,hka,if_neg hkd',hce]
  rfl
theorem pE (gl) (p:YU) (b:Nat) (k:Y4) (x w:Int) (hk:p[b]?=some k) (hP:Zk p) (hw0:0<=w) (hw2:w<=2):qX prog gl 218 [Zc p,iv b,iv x,iv w] (λ_ y _=>y=.agg [iv (qm p b x w).1,iv (qm p b x w).2]):=by
 have hw8:IntKind.i64.wrap (8+w)=8+w:=Yi qA qA;have hw11:IntKind.i64.wrap (11+w)=11+w:=Yi qA qA;have hw22:IntKind.i64.wrap (2+w)=2+w:=Yi qA qA;have hw5:IntKind.i64.wrap (5+w)=5+w:=Yi qA qA;refine qX.Yb func218 [.cell 8 213] ntmps218 λC w g root=>?_
 cases h0:(zh p b x==0)
 rotate_left
 .have h0':zh p b x=0:=by simpa using h0
  have fx:=aI h0<|hw8;have c1:=ic gl p b k x hk hP;refine qI ?_;clear fx c1;refine qE [] .nil qF ?_;simp [qm,h0']
 have h0':¬ zh p b x=0:=by simpa using h0
 cases h2:(zh p b x==2)
 rotate_left
 .have h2':zh p b x=2:=mJ;have fx:=jD h0 h2<|hw11;have c1:=ic gl p b k x hk hP;refine qI ?_;clear fx c1;refine qE [] .nil qF ?_;simp [qm,h2']
 have h2':¬ zh p b x=2:=mJ
 cases h4:(zh p b x==4)
 rotate_left
 .have h4':zh p b x=4:=by simpa using h4
  all_goals have fx:=j4 h0 h2 h4<|hw22
  repeat' (first|refine qK ?_|refine λ(K:St->Prop) hK=>?_|refine qP (hF:=ic _ p b k x hk hP) (h:=?_)|refine jX (hF:=A9 _ p b k hk hP) (h:=?_)|refine qP (hF:=ve _ (qG p b) _ (uS vF qL)) (h:=?_))
  all_goals try clear fx
  refine qE [] .nil qF ?_;simp [qm,h4']
 have h4':¬ zh p b x=4:=by simpa using h4
 have fx:=j4 h0 h2 h4<|hw5;have c1:=ic gl p b k x hk hP;have c2:=eH gl p b k x hk hP;refine qI ?_;clear fx c1 c2;refine qE [] .nil qF ?_;simp only [qm,if_neg h0',if_neg h2',if_neg h4']
 rfl
abbrev Uc:Y8:=.q 0<|.q 1<|.q 3<|.q 4<|.q 7<|.q 8<|.l 2 [8,7,4,3]<|.l 5 [8,7]<|.l 6 [8,7]<|.l 9 []<|.l 10 []<|.l 11 []<|.l 12 []<|.done
theorem sG (gl):qX prog gl 53 [] (λr y H'=>y=.hs r 1 0 oA.length/\H' r=some (.row 1 (qS oA))):=by
 refine qX.Yb func53 [.tmp 0] ntmps53 λC w g root=>?_;refine qD ?_<|Ya;refine qR (λn st=>∃ (i:Nat) (L:List Int),L=oA.take i/\L.length=i/\n=8 - i/\i<=8/\st.tm 2=iv i/\st.tm 1=.hs (.s 1) 1 0 L.length/\st.hp (.s 1)=some (.row 1 (qS L))) 8 ⟨0,[],qB,rfl,qA,qA,qB,qB,zU⟩ ?_;rintro n st - - ⟨i,L,hL,hLl,rfl,hi,h2,h1,hp1⟩;by_cases hil:i<8
 .have hle:(i:Int)<=7:=qA;have hle':i<=7:=qA;have hLb:L.length<=100:=qA;refine qD ?_<|kH h1 hp1 h2 hle hle'<|hLb;refine⟨8 - (i+1),qA,i+1,L++[(i:Int)],?_,cm,rfl,qA,q8,qB,zU⟩;rw [hL];have:i=0\/i=1\/i=2\/i=3\/i=4\/i=5\/i=6\/i=7:=qA;rcases this with rfl|rfl|rfl|rfl|rfl|rfl|rfl|rfl <;> rfl
 .obtain rfl:i=8:=qA;have hLa:L=oA:=by rw [hL];rfl
  subst hLa;refine qD ?_<|jD h1 hp1<|h2;refine qE [(.s 0,root)] (.one rfl) qF ⟨qB,jp⟩
theorem Rb (gl) (p:YU) (b:Nat) (k:Y4) (hk:p[b]?=some k) (hP:Zk p) (hs:Zm p):qX prog gl 54 [Zc p,iv b] (λr y H'=>y=.hs r 1 0 (yp p b).length/\H' r=some (.row 1 (qS (yp p b)))):=by
 obtain⟨Ym,hkE⟩:=gS hk;have hfa:=A9 gl p b k hk hP;have hce:=v7 gl p b k hk hs hP.Y9 hP.len;have hfr:=nu gl p b Ym hs hP.Y9 hP.len;have l1:=vF (p:=p) (b:=b);have l2:=zn (p:=p) (b:=b);have l3:=j7 (p:=p) (b:=b);have hso:=ul gl ((qG p b++qC p b)++qN p b) qv;have hkk:qV p b=k.kind:=kS;refine qX.Yb func54 [.tmp 4] ntmps54 λC w g root=>?_
 cases h1:(k.kind==1)
 .have hse:yp p b=oA:=by
   unfold yp;rw [hkk,if_neg BA]
  rw [hse];have fx:=j4 hk hkE Ym<|h1;have d1:=sG gl;refine qI ?_
  repeat ((first|refine Y7 (id:=2) Uc mixed ?_);refine qW ?_;refine qI ?_)
  clear fx d1;refine qE [(.s 4,root)] (.one rfl) qF ⟨qB,qB⟩
 .have hse:yp p b=sorted ((qG p b++qC p b)++qN p b):=by
   unfold yp;rw [hkk,if_pos BA]
  rw [hse];have htk:List.take ((qG p b).length+(qC p b).length) (qG p b++qC p b)=qG p b++qC p b:=bC qB;have hsl:((qG p b++qC p b)++qN p b).length=(qG p b).length+(qC p b).length+(qN p b).length:=qv;have fx:=er hk hkE Ym h1 l1 l2 l3 htk<|hsl;have d1:=hfa;have d2:=hce;have d3:=hfr;have d4:=hso;refine qI ?_
  repeat ((first|refine Y7 (id:=2) Uc mixed ?_);refine qW ?_;refine qI ?_)
  clear fx d1 d2 d3 d4;refine qE [(.s 4,root)] (.one rfl) qF ⟨qB,qB⟩
abbrev XF:Y8:=kP<|.l 6 [1,0]<|.l 7 []<|.q 8<|.l 9 []<|.done
abbrev XE:Y8:=ai<|.l 7 [1,0]<|.l 8 [1,0]<|.l 9 []<|.q 10<|.l 11 []<|.done
theorem nq {A G G2:Prop} (k:G2) (x:A) (h:A->Yr G2->G:=by
 intro fx kk;refine qI ?_
 repeat ((first|refine Y7 (id:=6) XF mixed ?_|refine Y7 (id:=7) XE mixed ?_);refine qW ?_;refine qI ?_)
 exact kk.h):G:=h x ⟨k⟩
theorem KP (gl) (b:Int) (xs:List Int) (ss:List Yj) (hl:ss.length=xs.length) (h8:xs.length<=8):qX prog gl 52 [iv b,ZD xs,.sl 3 (qU ss)] (λr y H'=>y=.agg ((Vw.mk b (uc (xs.zip ss)) (bZ (xs.zip ss))).own r 0)/\qBm H' r 0 ⟨b,uc (xs.zip ss),bZ (xs.zip ss)⟩):=by
 refine qX.Yb func52 [.cell 6 104] ntmps52 λC w g root=>?_;refine nq ?_<|Ya;refine qR (λn st=>∃ (i:Nat) (N V:List Int),n=xs.length - i/\i<=xs.length/\N=uc ((xs.zip ss).take i)/\V=bZ ((xs.zip ss).take i)/\st.tm 8=iv i/\st.tm 1=ZD xs/\st.tm 2=.sl 3 (qU ss)/\st.tm 6=.pt (.s 6) 0/\st.hp (.s 6)=some (.row 3 [[iv 0,.hs (.c (.s 6) 0 1) 1 0 0,.hs (.c (.s 6) 0 2) 1 0 0]])/\st.hp (.c (.s 6) 0 1)=some (.row 1 [])/\st.hp (.c (.s 6) 0 2)=some (.row 1 [])/\st.tm 7=.pt (.s 7) 0/\st.hp (.s 7)=some (.row 3 [[iv b,.hs (.c (.s 7) 0 1) 1 0 N.length,.hs (.c (.s 7) 0 2) 1 0 V.length]])/\st.hp (.c (.s 7) 0 1)=some (.row 1 (qS N))/\st.hp (.c (.s 7) 0 2)=some (.row 1 (qS V))) xs.length ⟨0,[],[],qA,qA,by simp [uc],by simp [bZ],qB,qB,qB,qB,qB,qB,qB,qB,qB,zU,zU⟩ ?_;rintro n st - - ⟨i,N,V,rfl,hi,hN,hV,h8',h1,h2,h6,hp6,hq6,hr6,h7,hp7,hN7,hV7⟩
 have hNl:N.length<=8:=by
  rw [hN];exact uS tA qv
 have hVl:V.length<=8:=by
  rw [hV];exact uS Bp qv
 by_cases hil:i<xs.length
 .obtain⟨x,hx⟩:=gX hil;obtain⟨s,hs⟩:∃ s,ss[i]?=some s:=⟨_,gE qA⟩;obtain⟨_,hxE⟩:=gS hx;obtain⟨hsl,hsE⟩:=gS hs;have hz:(xs.zip ss)[i]?=some (x,s):=by rw [List.getElem?_zip_eq_some];exact⟨hx,hs⟩
  have htk:(xs.zip ss).take (i+1)=(xs.zip ss).take i++[(x,s)]:=by rw [dN,hz];rfl
  cases s with
  | none =>
   refine nq ?_<|jP h1 h2 h8' h7 hp7 hil hx hxE hs hsE<|hsl;refine⟨xs.length - (i+1),qA,i+1,N,V,rfl,qA,by rw [htk,oO,hN];simp,by rw [htk,sy,hV];simp,q8,qz,qj,zL,va,by simp [hq6],by simp [hr6],yW,co,by simp [hN7],by simp [hV7]⟩
  | some v =>
   have hsh:=ii gl v;obtain⟨v1,v2⟩:=v;have fx:=qQ h1 h2 h8' h7 hp7 hN7 hV7 hil hx hxE hs hsE<|jD hsl hNl<|hVl;have c1:=hsh;refine nq ?_<|fx;clear fx c1;refine⟨xs.length - (i+1),qA,i+1,N++[x],V++[Hm.shown (v1,v2)],rfl,qA,by rw [htk,oO,hN],by rw [htk,sy,hV],q8,qz,qj,zL,va,by simp [hq6],by simp [hr6],yW,qB,zU,zU⟩
 .obtain rfl:i=xs.length:=qA;rw [bC (by rw [List.length_zip];omega)] at hN hV;subst hN hV;refine nq ?_<|gJ h1 h2 h8' h6 hp6 h7 hp7 hN7 hV7<|hil;have r1:Nm.under (.c root 0 1) (.c root 0 2)=false:=Nm.qB4 qL (Nm.Y0 _);refine qE [(.c (.s 7) 0 1,.c root 0 1),(.c (.s 7) 0 2,.c root 0 2)] (.two rfl rfl qL) sA ⟨?_,⟨?_,?_⟩⟩
  .simp [Jq,trL]
  .simp [hN7,r1]
  .simp [hV7,r1]
end Go.Proofs.YtdnebaieamppbaaGreatDoor
end
section

end
section
namespace Go.Proofs.YtdnebaieamppbaaGreatDoor
open Go Go.Hm Go.Proofs Tryz
@[simp] theorem Ty {P:Program} {T:TypeId} {hp:Nm->Option AO} {n:Nm} {z q len:Nat} {lo hi:Option Int}:sY P T hp (.hs n z q len) lo hi=match Zx P T with
  | some e=>if z=Yh P e/\0<=lo.getD 0/\lo.getD 0<=hi.getD len/\(hi.getD len<=len\/q+(hi.getD len).toNat<=ft hp n z) then some (.hs n z (q+(lo.getD 0).toNat) ((hi.getD len).toNat - (lo.getD 0).toNat)) else none
  | none=>none:=rfl
@[simp] theorem mem_slrows {l:List Yj} {r:List AV}:r∈qU l↔∃ s∈l,jJ s=r:=ck
theorem lQ (gl):qX prog gl 97 [] (λr y H'=>y=.hs r 3 0 8/\H' r=some (.row 3 (qU qc))):=by
 have h0:List.replicate 8 [bv false,iv 0,iv 0]=qU qc:=rfl;refine qX.Yb func97 [.tmp 0] ntmps97 λC w g root=>?_;refine qD ?_<| h0;refine qE [(.s 0,root)] (.one rfl) qF ⟨qB,by simp [<- h0]⟩
theorem D6 (gl) (l:List Yj) (hl:l.length=8):qX prog gl 188 [.sl 3 (qU l)] (λr y H'=>y=.hs r 3 0 8/\H' r=some (.row 3 (qU l))):=by
 refine qX.Yb func188 [.tmp 2] ntmps188 λC w g root=>?_;refine qD ?_<| hl;refine qE [(.s 2,root)] (.one rfl) qF ⟨qB,qB⟩
end Go.Proofs.YtdnebaieamppbaaGreatDoor
end
section

end
section

end
section

end
section

end
section
namespace Go.Proofs.YtdnebaieamppbaaGreatDoor
open Go Go.Hm Go.Proofs Tryz
theorem mj (gl) (p:YU) (f:Int) (hs:Zm p):qX prog gl 44 [Zc p,iv f] (λ_ y _=>y=bv (wR p f)):=by
 refine qX.Yb func44 [.tmp 4] ntmps44 λC w g root=>?_
 cases hv:vL p
 .skip
  have fx:= hv;have c1:=hv ▸ yO gl p hs;refine qI ?_;clear fx c1;refine qE [] .nil qF (by simp [wR,hv])
 .skip
  have fx:= hv;have c1:=hv ▸ yO gl p hs;have c2:=jR gl f 0 150;refine qI ?_;clear fx c1 c2;refine qE [] .nil qF (by simp [wR,hv])
theorem mi {α β:Type} (g:α->β):∀ l:List α,l.zip (l.map g)=l.map λx=>(x,g x)
 | []=>rfl
 | x::l=>by simp [mi g l]
theorem oM {n:Nm} {vs:List Vw} {f:Nm->Option Nm} (h:∀ i j,f (.c n i j)=some (.c n i j)):(zt n vs).map (λr=>r.map (AV.tr f))=zt n vs:=jb λi j _=>h i j
attribute [local simp] oM
end Go.Proofs.YtdnebaieamppbaaGreatDoor
end
