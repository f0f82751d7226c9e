import Derived.Test.YtdnebaieamppbaaGreatDoorE29
set_option linter.unusedSimpArgs false
set_option linter.unusedVariables false
set_option maxRecDepth 100000
set_option maxHeartbeats 4000000

section
namespace Go.Proofs.YtdnebaieamppbaaGreatDoor
open Go Go.Hm Go.Proofs Tryz
abbrev Y4:Zh:=wE<|.q 7<|.l 6 [7]<|.q 8<|.done
abbrev Y3:Zh:=wE<|.l 6 []<|.l 7 []<|.done
theorem Bh {p:Z0} {b c:Nat} (h:b+1<=c):jn p b (c+1 - (b+1))=jn p b (c - (b+1))++bp p b c:=by
 rw [show c+1 - (b+1)=c - (b+1)+1 by omega,Bg,show b+1+(c - (b+1))=c by omega]
theorem B5 {p:Z0} {b c:Nat} (h:b<=c):jb p b (c+1 - b)=jb p b (c - b)++aT p b c:=by
 rw [show c+1 - b=c - b+1 by omega,B4,show b+(c - b)=c by omega]
theorem af {A G G2:Prop} (k:G2) (x:A) (h:A->Zx G2->G:=by
 intro fx kk;refine qG ?_
 repeat ((first|refine Ze (id:=9) Y4 mixed ?_);refine qZ ?_;refine qG ?_)
 exact kk.h):G:=h x ⟨k⟩
theorem kJ (gl) (p:Z0) (b:Nat) (k:Za) (hk:p[b]?=some k) (hs:Sml p) (hh:zS p) (hl7:p.length<=7):qb prog gl 107 [pav p,iv b] (λr y H'=>y=.hs r 1 0 (qF p b).length/\H' r=some (.row 1 (qT (qF p b)))):=by
 obtain⟨Zs,hbE⟩:=gS hk;have hka:qg p b=k.kind:=bY;have hw:IntKind.i64.wrap ((b:Int)+1)=((b+1:Nat):Int):=by rw [Zv qA qA];rfl
 refine qb.Zl func107 [.tmp 4] ntmps107 λC w g root=>?_
 cases hkd:(k.kind==1)
 .have hc:qF p b=sorted []:=by
   have:¬ k.kind=1:=cV;simp [qF,hka,this]
   rfl
  rw [hc];refine af ?_<| hw;refine qX (λn st=>n=0/\st.tm 1=iv b/\st.tm 2=.pt (.s 2) 0/\st.hp (.s 2)=some (.row 1 [[ksl p]])/\st.tm 6=iv ((b+1:Nat):Int)/\st.tm 5=.hs (.s 5) 1 0 0/\st.hp (.s 5)=some (.row 1 [])) 0 ?_ ?_
  .exact⟨rfl,qB⟩
  rintro n st - - ⟨rfl,h1,h2,hp2,h6,h5,hp5⟩;generalize hc0:b+1=c at h6;by_cases hlt:c<p.length
  .skip
   have fx:=jJ h1 h2 hp2 h6 h5 hp5 hk hbE hkd hlt<|Zs;have d1:=wn gl [] qB;refine af ?_<|fx;clear fx d1;exact jU (t:=4) zg zg qB
  .skip
   have fx:=jJ h1 h2 hp2 h6 h5 hp5 hk hbE hkd hlt<|Zs;have d1:=wn gl [] qB;refine af ?_<|fx;clear fx d1;exact jU (t:=4) zg zg qB
 have hc:qF p b=sorted (jn p b (p.length - (b+1))):=by
  have:k.kind=1:=cV;simp [qF,hka,this]
 rw [hc];refine af ?_<| hw;refine qX (λn st=>∃ c:Nat,n=p.length - c/\b+1<=c/\c<=p.length/\st.tm 1=iv b/\st.tm 2=.pt (.s 2) 0/\st.hp (.s 2)=some (.row 1 [[ksl p]])/\st.tm 6=iv c/\st.tm 5=.hs (.s 5) 1 0 (jn p b (c - (b+1))).length/\st.hp (.s 5)=some (.row 1 (qT (jn p b (c - (b+1)))))) (p.length - (b+1)) ?_ ?_
 .exact⟨b+1,rfl,qA,qA,qB,qB,qB,qB,by simp [jn,bR],by simp [jn,bR]⟩
 rintro n st - - ⟨c,rfl,hc1,hc2,h1,h2,hp2,h6,h5,hp5⟩;have hcl:=ov (p:=p) (b:=b) (n:=c);have hrl:=EO (p:=p) (b:=b) (n:=c - (b+1));by_cases hlt:c<p.length
 .obtain⟨q,hq⟩:=gX hlt;have hul:=q.qBH;have hnext:=Bh (p:=p) hc1;have hat:bp p b c=q.us.filter (kg p b c):=by simp [bp,hq]
  rw [hat] at hnext;generalize hR:jn p b (c - (b+1))=R at h5 hp5 hnext hrl;have fx:=jJ h1 h2 hp2 h6 h5 hp5 hk hbE hkd hlt<|aI Zs<|hq;have d1:=db gl p c q hq (hs.bsm hq);refine af ?_<|fx;clear fx d1;refine qX (λn st=>∃ i:Nat,n=q.us.length - i/\i<=q.us.length/\st.tm 1=iv b/\st.tm 2=.pt (.s 2) 0/\st.hp (.s 2)=some (.row 1 [[ksl p]])/\st.tm 6=iv c/\st.tm 7=.hs (.s 7) 1 0 q.us.length/\st.hp (.s 7)=some (.row 1 (qT q.us))/\st.tm 8=iv i/\st.tm 5=.hs (.s 5) 1 0 (R++(q.us.take i).filter (kg p b c)).length/\st.hp (.s 5)=some (.row 1 (qT (R++(q.us.take i).filter (kg p b c))))) q.us.length ?_ ?_
  .exact⟨0,qA,qA,qy,ql,zF,j3,qB,qB,qB,z7,kh⟩
  clear h1 h2 hp2 h6 h5 hp5;rintro n st - - ⟨i,rfl,hi,h1,h2,hp2,h6,h7,hp7,h8,h5,hp5⟩;have hfl:((q.us.take i).filter (kg p b c)).length<=8:=sd (vk (List.length_take_le' _ _) hul);have hLl:(R++(q.us.take i).filter (kg p b c)).length<=1000:=qc;by_cases hil:i<q.us.length
  .obtain⟨u,hu⟩:=gX hil;obtain⟨_,huE⟩:=gS hu;have hnx:R++(q.us.take (i+1)).filter (kg p b c)=R++(q.us.take i).filter (kg p b c)++(if kg p b c u=true then [u] else []):=by rw [zm hu,xW]
   generalize hL:R++(q.us.take i).filter (kg p b c)=L at h5 hp5 hnx hLl
   cases ho:(q7 p c u==(b:Int))
   .rw [if_neg (by simp only [kg,ho];decide),Kd] at hnx;have fx:=qU h1 h2 hp2 h6 h7 hp7 h8 h5 hp5 hq hu huE<|aI hil<|ho;have c1:=uT gl p c q u hq hs hh;refine af ?_<|fx;clear fx c1;exact⟨q.us.length - (i+1),qA,i+1,rfl,qA,qy,ql,zF,j3,wI,cQ,zD,by simp [hnx,h5],by simp [hnx,hp5]⟩
   .rw [if_pos (by simp only [kg,ho])] at hnx;have fx:=qU h1 h2 hp2 h6 h7 hp7 h8 h5 hp5 hq hu huE<|jI hil ho<|hLl;have c1:=uT gl p c q u hq hs hh;refine af ?_<|fx;clear fx c1;refine⟨q.us.length - (i+1),qA,i+1,rfl,qA,qy,ql,zF,j3,wI,cQ,zD,by simp [hnx,h5],?_⟩;rw [hnx];simp [hp5,qT]
  .have hge:i=q.us.length:=qA;rw [hge,an,<- hnext] at h5 hp5;refine af ?_<|kO h1 h2 hp2 h6 h7 hp7 h8<|hil;exact⟨p.length - (c+1),qA,c+1,rfl,qA,qA,qy,ql,zF,tI,z7,kh⟩
 .have hge:c=p.length:=qA;subst hge;have fx:=jJ h1 h2 hp2 h6 h5 hp5 hk hbE hkd hlt<|Zs;have d1:=wn gl (jn p b (p.length - (b+1))) qA;refine af ?_<|fx;clear fx d1;exact jU (t:=4) zg zg qB
theorem wg {A G G2:Prop} (k:G2) (x:A) (h:A->Zx G2->G:=by
 intro fx kk;refine qG ?_
 repeat ((first|refine Ze (id:=9) Y3 mixed ?_);refine qZ ?_;refine qG ?_)
 exact kk.h):G:=h x ⟨k⟩
theorem B0 (gl) (p:Z0) (b:Nat) (Zs:b<p.length) (hs:Sml p) (hh:zS p) (hl7:p.length<=7):qb prog gl 108 [pav p,iv b] (λr y H'=>y=.hs r 1 0 (qd p b).length/\H' r=some (.row 1 (qT (qd p b)))):=by
 have hc:qd p b=sorted (jb p b (p.length - b)):=rfl;rw [hc];refine qb.Zl func108 [.tmp 4] ntmps108 λC w g root=>?_;refine wg ?_<|Zk;refine qX (λn st=>∃ c:Nat,n=p.length - c/\b<=c/\c<=p.length/\st.tm 1=iv b/\st.tm 2=.pt (.s 2) 0/\st.hp (.s 2)=some (.row 1 [[ksl p]])/\st.tm 6=iv c/\st.tm 5=.hs (.s 5) 1 0 (jb p b (c - b)).length/\st.hp (.s 5)=some (.row 1 (qT (jb p b (c - b))))) (p.length - b) ?_ ?_
 .exact⟨b,rfl,qA,qA,qB,qB,qB,qB,by simp [jb,bR],by simp [jb,bR]⟩
 rintro n st - - ⟨c,rfl,hc1,hc2,h1,h2,hp2,h6,h5,hp5⟩;have hrl:=ov (p:=p) (b:=b) (n:=c - b);by_cases hlt:c<p.length
 .obtain⟨q,hq⟩:=gX hlt;have hul:=q.qBH;have hnext:=B5 (p:=p) hc1
  cases hin:qi p c b
  .have hat:aT p b c=[]:=by simp [aT,hq,hin]
   rw [hat,Kd] at hnext;generalize hR:jb p b (c - b)=R at h5 hp5 hnext hrl;have fx:=kO h1 h2 hp2 h6 h5 hp5 hlt<|hq;have d1:=db gl p c q hq (hs.bsm hq);refine wg ?_<|fx;clear fx d1;refine qX (λn st=>n=0/\st.tm 1=iv b/\st.tm 2=.pt (.s 2) 0/\st.hp (.s 2)=some (.row 1 [[ksl p]])/\st.tm 6=iv c/\st.tm 7=.hs (.s 7) 1 0 q.us.length/\st.hp (.s 7)=some (.row 1 (qT q.us))/\st.tm 8=iv 0/\st.tm 5=.hs (.s 5) 1 0 R.length/\st.hp (.s 5)=some (.row 1 (qT R))) 0 ?_ ?_
   .exact⟨rfl,qy,ql,zF,j3,qB,qB,qB,z7,kh⟩
   clear h1 h2 hp2 h6 h5 hp5;rintro n st - - ⟨rfl,h1,h2,hp2,h6,h7,hp7,h8,h5,hp5⟩;by_cases hu0:0<q.us.length
   .skip
    have fx:=jJ h1 h2 hp2 h6 h7 hp7 h8 h5 hp5 hq<|aI hu0<|hin;have c1:=ka gl p c b hs hh hlt;refine wg ?_<|fx;clear fx c1;exact⟨p.length - (c+1),qA,c+1,rfl,qA,qA,qy,ql,zF,tI,tY,Bv⟩
   .skip
    have fx:=jJ h1 h2 hp2 h6 h7 hp7 h8 h5 hp5 hq<|aI hu0<|hin;have c1:=ka gl p c b hs hh hlt;refine wg ?_<|fx;clear fx c1;exact⟨p.length - (c+1),qA,c+1,rfl,qA,qA,qy,ql,zF,tI,tY,Bv⟩
  have hat:aT p b c=q.us.filter (uZ p b c):=by simp [aT,hq,hin]
  rw [hat] at hnext;generalize hR:jb p b (c - b)=R at h5 hp5 hnext hrl;have fx:=kO h1 h2 hp2 h6 h5 hp5 hlt<|hq;have d1:=db gl p c q hq (hs.bsm hq);refine wg ?_<|fx;clear fx d1;refine qX (λn st=>∃ i:Nat,n=q.us.length - i/\i<=q.us.length/\st.tm 1=iv b/\st.tm 2=.pt (.s 2) 0/\st.hp (.s 2)=some (.row 1 [[ksl p]])/\st.tm 6=iv c/\st.tm 7=.hs (.s 7) 1 0 q.us.length/\st.hp (.s 7)=some (.row 1 (qT q.us))/\st.tm 8=iv i/\st.tm 5=.hs (.s 5) 1 0 (R++(q.us.take i).filter (uZ p b c)).length/\st.hp (.s 5)=some (.row 1 (qT (R++(q.us.take i).filter (uZ p b c))))) q.us.length ?_ ?_
  .exact⟨0,qA,qA,qy,ql,zF,j3,qB,qB,qB,z7,kh⟩
  clear h1 h2 hp2 h6 h5 hp5;rintro n st - - ⟨i,rfl,hi,h1,h2,hp2,h6,h7,hp7,h8,h5,hp5⟩;have hfl:((q.us.take i).filter (uZ p b c)).length<=8:=sd (vk (List.length_take_le' _ _) hul);have hLl:(R++(q.us.take i).filter (uZ p b c)).length<=1000:=qc;by_cases hil:i<q.us.length
  .obtain⟨u,hu⟩:=gX hil;obtain⟨_,huE⟩:=gS hu;have hnx:R++(q.us.take (i+1)).filter (uZ p b c)=R++(q.us.take i).filter (uZ p b c)++(if uZ p b c u=true then [u] else []):=by rw [zm hu,xW]
   generalize hL:R++(q.us.take i).filter (uZ p b c)=L at h5 hp5 hnx hLl;have no:uZ p b c u=false->R++(q.us.take (i+1)).filter (uZ p b c)=L:=λh=>by rw [hnx,h,if_neg qO,Kd]
   cases ho:decide (0<q7 p c u)
   .have hno:=no (by simp only [uZ,ho];rfl);have fx:=qU h1 h2 hp2 h6 h7 hp7 h8 h5 hp5 hq hu huE<|jI hil hin<|ho;have c1:=ka gl p c b hs hh hlt;have c2:=uT gl p c q u hq hs hh;refine wg ?_<|fx;clear fx c1 c2;exact⟨q.us.length - (i+1),qA,i+1,rfl,qA,qy,ql,zF,j3,wI,cQ,zD,by simp [hno,h5],by simp [hno,hp5]⟩
   cases ho2:decide (q7 p c u<b)
   .have hno:=no (by simp only [uZ,ho2];simp);have fx:=qU h1 h2 hp2 h6 h7 hp7 h8 h5 hp5 hq hu huE<|yE hil hin ho<|ho2;have c1:=ka gl p c b hs hh hlt;have c2:=uT gl p c q u hq hs hh;refine wg ?_<|fx;clear fx c1 c2;exact⟨q.us.length - (i+1),qA,i+1,rfl,qA,qy,ql,zF,j3,wI,cQ,zD,by simp [hno,h5],by simp [hno,hp5]⟩
   .rw [if_pos (by simp only [uZ,ho,ho2];rfl)] at hnx;have fx:=qU h1 h2 hp2 h6 h7 hp7 h8 h5 hp5 hq hu huE<|yS hil hin ho ho2<|hLl;have c1:=ka gl p c b hs hh hlt;have c2:=uT gl p c q u hq hs hh;refine wg ?_<|fx;clear fx c1 c2;refine⟨q.us.length - (i+1),qA,i+1,rfl,qA,qy,ql,zF,j3,wI,cQ,zD,by simp [hnx,h5],?_⟩;rw [hnx];simp [hp5,qT]
  .have hge:i=q.us.length:=qA;rw [hge,an,<- hnext] at h5 hp5;have fx:=bA h1 h2 hp2 h6 h7 hp7 h8 hil<|hin;have c1:=ka gl p c b hs hh hlt;refine wg ?_<|fx;clear fx c1;exact⟨p.length - (c+1),qA,c+1,rfl,qA,qA,qy,ql,zF,tI,z7,kh⟩
 .have hge:c=p.length:=qA;subst hge;have fx:=u4 h1 h2 hp2 h6 h5 hp5<|hlt;have d1:=wn gl (jb p b (p.length - b)) qA;refine wg ?_<|fx;clear fx d1;exact jU (t:=4) zg zg qB
structure qAw (p:Z0):Prop where
 sml:Sml p
 sh:Z7 p
theorem qAw.Zc {p:Z0} (h:qAw p):zS p:=h.sh.Zc
theorem qAw.len {p:Z0} (h:qAw p):p.length<=7:=h.sh.len.2
theorem If (gl) (p:Z0) (b:Nat) (k:Za) (hk:p[b]?=some k) (hP:qAw p):qb prog gl 106 [pav p,iv b] (λr y H'=>y=.hs r 1 0 (qP p b).length/\H' r=some (.row 1 (qT (qP p b)))):=by
 have hs:=hP.sml;have hh:=hP.Zc;have hl7:=hP.len;obtain⟨Zs,hbE⟩:=gS hk;have hka:qg p b=k.kind:=bY;have hcl:=jo (p:=p) (b:=b);refine qb.Zl func106 [.tmp 4] ntmps106 λC w g root=>?_
 cases hkd:(k.kind==1)
 .have hc:qP p b=[]:=by
   have:¬ k.kind=1:=cV;simp [qP,hka,this]
  rw [hc];have fx:=Zk;have d1:=kJ gl p b k hk hs hh hl7;refine qG ?_;clear fx d1;refine qX (λn st=>n=0/\st.tm 1=iv b/\st.tm 2=.pt (.s 2) 0/\st.hp (.s 2)=some (.row 1 [[ksl p]])/\st.tm 7=iv 0/\st.tm 5=.hs (.s 5) 1 0 0/\st.hp (.s 5)=some (.row 1 [])) 0 ?_ ?_
  .exact⟨rfl,qB⟩
  rintro n st - - ⟨rfl,h1,h2,hp2,h7,h5,hp5⟩;refine qC ?_<|aJ h1 h2 hp2 h7 h5 hp5 hk hbE hkd<|Zs;exact jU (t:=4) CB CB qB
 have hc:qP p b=zB (vn p b) 8:=by
  have:k.kind=1:=cV;simp [qP,hka,this]
 rw [hc];have fx:=Zk;have d1:=kJ gl p b k hk hs hh hl7;refine qG ?_;clear fx d1;refine qX (λn st=>∃ x:Nat,n=8 - x/\x<=8/\st.tm 1=iv b/\st.tm 2=.pt (.s 2) 0/\st.hp (.s 2)=some (.row 1 [[ksl p]])/\st.tm 7=iv x/\st.tm 6=.hs (.s 6) 1 0 (qF p b).length/\st.hp (.s 6)=some (.row 1 (qT (qF p b)))/\st.tm 5=.hs (.s 5) 1 0 (zB (vn p b) x).length/\st.hp (.s 5)=some (.row 1 (qT (zB (vn p b) x)))) 8 ?_ ?_
 .exact⟨0,qA,qA,qB,qB,qB,qB,qB,qB,by simp [zB],by simp [zB]⟩
 rintro n st - - ⟨x,rfl,hx,h1,h2,hp2,h7,h6,hp6,h5,hp5⟩;have hll:=nS (f:=vn p b) x;by_cases hlt:x<8
 .have hx7:(x:Int)<=7:=qA;have hfi:vn p b x=(qa b k x&&!decide ((x:Int)∈qF p b)):=by simp only [vn,hk]
  have hnext:zB (vn p b) (x+1)=if vn p b x=true then zB (vn p b) x++[(x:Int)] else zB (vn p b) x:=rfl
  generalize hL:zB (vn p b) x=L at h5 hp5 hnext hll
  cases hlo:qa b k x
  .rw [if_neg (by rw [hfi,hlo];simp)] at hnext
   all_goals have fx:=qU h1 h2 hp2 h7 h6 hp6 h5 hp5 hk hbE hkd Zs<|aI hx7<|hlo
   repeat' (first|refine qK ?_|refine λ(K:St->Prop) hK=>?_|refine qJ (hF:=wV _ p b k x hk (hs.bsm hk)) (h:=?_))
   all_goals try clear fx
   exact⟨8 - (x+1),qA,x+1,rfl,qA,qy,ql,zF,G6,j3,aX,tY,Bv⟩
  cases hce:decide ((x:Int)∈qF p b)
  rotate_left
  .rw [if_neg (by rw [hfi,hlo,hce];decide)] at hnext
   all_goals have fx:=qU h1 h2 hp2 h7 h6 hp6 h5 hp5 hk hbE hkd Zs<|jI hx7 hlo<|hce
   repeat' (first|refine qK ?_|refine λ(K:St->Prop) hK=>?_|refine qJ (hF:=wV _ p b k x hk (hs.bsm hk)) (h:=?_)|refine qJ (hF:=vM _ _ _ (vk jo qO)) (h:=?_))
   all_goals try clear fx
   exact⟨8 - (x+1),qA,x+1,rfl,qA,qy,ql,zF,G6,j3,aX,tY,Bv⟩
  .rw [if_pos (by rw [hfi,hlo,hce];rfl)] at hnext
   all_goals have fx:=qU h1 h2 hp2 h7 h6 hp6 h5 hp5 hk hbE hkd Zs<|jI hx7 hlo<|hce
   repeat' (first
    | refine vH ?_|refine jd ?_|refine yH ?_|refine kL λK hK=>?_
    | ((with_reducible refine vA hK ?_);clear hK K)
    | (with_reducible first|refine qV ?_)
    | (with_reducible refine jL ?_)
    | ((with_reducible refine NO ?_);refine bC (h:=?_))
    | (with_reducible first|refine sW ?_|refine zL (h:=?_)|refine jw (T:=32) (h:=?_)|refine yV (h:=?_))
    | ((with_reducible refine rr 81 rfl ?_);refine qJ (hF:=wV _ p b k x hk (hs.bsm hk)) (h:=?_))
    | ((with_reducible refine rr 83 rfl ?_);refine qJ (hF:=vM _ _ _ (vk jo qO)) (h:=?_))
    | (with_reducible refine x_q (h:=?_))
    | refine jr (h1:=?_)
    | fail)
   all_goals try clear fx
   refine⟨8 - (x+1),qA,x+1,rfl,qA,qy,ql,zF,G6,j3,aX,tY,?_⟩;rw [hnext];simp [hp5,qT]
 .have hge:x=8:=qA;subst hge;refine qC ?_<|aJ h1 h2 hp2 h7 h5 hp5 hk hbE hkd<|Zs;exact jU (t:=4) CB CB qB
theorem oz (gl) (p:Z0) (b:Nat) (k:Za) (x:Int) (hk:p[b]?=some k) (hP:qAw p):qb prog gl 56 [pav p,iv b,iv x] (λ_ y _=>y=iv (aE p b x)):=by
 have hs:=hP.sml;have hh:=hP.Zc;have hl7:=hP.len;have Zs:=(gS hk).1;have hcl:=jo (p:=p) (b:=b);have hfl:=yY (p:=p) (b:=b);have hbd:=iC (xs:=qd p b) (x:=x);have hw:IntKind.i64.wrap (((qF p b).length:Int)+zI (qd p b) x)=(qF p b).length+zI (qd p b) x:=Zv qA qA;refine qb.Zl func56 [.tmp 6] ntmps56 λC w g root=>?_;by_cases hm:x∈qF p b
 .have h0:0<=zI (qF p b) x:=j9.2 hm
  all_goals have fx:= h0
  repeat' (first|refine qK ?_|refine λ(K:St->Prop) hK=>?_|refine jP (hF:=kJ _ p b k hk hs hh hl7) (h:=?_)|refine qJ (hF:=kD _ (qF p b) _ qA) (h:=?_))
  all_goals try clear fx
  refine qD [] .nil qE ?_;simp [aE,hm]
 .have h0:¬ 0<=zI (qF p b) x:=λh=>hm (j9.1 h)
  all_goals have fx:=aI h0<|hw
  repeat' (first|refine qK ?_|refine λ(K:St->Prop) hK=>?_|refine jP (hF:=kJ _ p b k hk hs hh hl7) (h:=?_)|refine jP (hF:=B0 _ p b Zs hs hh hl7) (h:=?_)|refine qJ (hF:=kD _ (qF p b) _ qA) (h:=?_)|refine qJ (hF:=kD _ (qd p b) _ qA) (h:=?_))
  all_goals try clear fx
  refine qD [] .nil qE ?_;simp [aE,hm]
theorem mB (gl) (p:Z0) (b:Nat) (k:Za) (x:Int) (hk:p[b]?=some k) (hP:qAw p):qb prog gl 234 [pav p,iv b,iv x] (λ_ y _=>y=iv (jB p b x)):=by
 have hs:=hP.sml;have hh:=hP.Zc;have hl7:=hP.len;obtain⟨Zs,hbE⟩:=gS hk;have hka:qg p b=k.kind:=bY;refine qb.Zl func234 [.tmp 6] ntmps234 λC w g root=>?_
 cases ho:decide (q7 p b x<0)
 rotate_left
 .skip
  have fx:= ho;have c1:=uT gl p b k x hk hs hh;refine qG ?_;clear fx c1;refine qD [] .nil qE ?_;have ho':q7 p b x<0:=oE;simp [jB,ho']
 cases hb:(q7 p b x==(b:Int))
 .skip
  have fx:=jI ho hb<|@qL;have c1:=uT gl p b k x hk hs hh;refine qG ?_;clear fx c1;refine qD [] .nil qE ?_;have ho':¬ q7 p b x<0:=oE;have hb':¬ q7 p b x=b:=ny;simp only [jB,if_neg ho',if_pos hb']
  rfl
 have hb':q7 p b x=b:=ny;have hnl:¬ q7 p b x<0:=qA;have hnn:¬ q7 p b x≠b:=λh=>h hb'
 cases hkd:(k.kind==2)
 rotate_left
 .skip
  have fx:=u4 ho hb @qL hk hbE Zs<|hkd;have c1:=uT gl p b k x hk hs hh;refine qG ?_;clear fx c1;refine qD [] .nil qE ?_;have hkd':k.kind=2:=cV;simp only [jB,if_neg hnl,if_neg hnn,hka,if_pos hkd']
  rfl
 have hkd':¬ k.kind=2:=cV
 cases hce:decide (x∈qF p b)
 all_goals
  all_goals have fx:=kO ho hb @qL hk hbE Zs hkd<|hce
  repeat' (first|refine qK ?_|refine λ(K:St->Prop) hK=>?_|refine qJ (hF:=uT _ p b k x hk hs hh) (h:=?_)|refine jP (hF:=kJ _ p b k hk hs hh hl7) (h:=?_)|refine qJ (hF:=vM _ _ _ (vk jo qO)) (h:=?_))
  all_goals try clear fx
  refine qD [] .nil qE ?_;simp at hce;simp only [jB,if_neg hnl,if_neg hnn,hka,if_neg hkd',hce]
  rfl
theorem ry (gl) (p:Z0) (b:Nat) (k:Za) (x w:Int) (hk:p[b]?=some k) (hP:qAw p) (hw0:0<=w) (hw2:w<=2):qb prog gl 218 [pav p,iv b,iv x,iv w] (λ_ y _=>y=.agg [iv (qx p b x w).1,iv (qx p b x w).2]):=by
 have hw8:IntKind.i64.wrap (8+w)=8+w:=Zv qA qA;have hw11:IntKind.i64.wrap (11+w)=11+w:=Zv qA qA;have hw22:IntKind.i64.wrap (2+w)=2+w:=Zv qA qA;have hw5:IntKind.i64.wrap (5+w)=5+w:=Zv qA qA;refine qb.Zl func218 [.cell 8 213] ntmps218 λC w g root=>?_
 cases h0:(jB p b x==0)
 rotate_left
 .have h0':jB p b x=0:=by simpa using h0
  have fx:=aI h0<|hw8;have c1:=mB gl p b k x hk hP;refine qG ?_;clear fx c1;refine qD [] .nil qE ?_;simp [qx,h0']
 have h0':¬ jB p b x=0:=by simpa using h0
 cases h2:(jB p b x==2)
 rotate_left
 .have h2':jB p b x=2:=ga;have fx:=jI h0 h2<|hw11;have c1:=mB gl p b k x hk hP;refine qG ?_;clear fx c1;refine qD [] .nil qE ?_;simp [qx,h2']
 have h2':¬ jB p b x=2:=ga
 cases h4:(jB p b x==4)
 rotate_left
 .have h4':jB p b x=4:=by simpa using h4
  all_goals have fx:=yE h0 h2 h4<|hw22
  repeat' (first|refine qK ?_|refine λ(K:St->Prop) hK=>?_|refine qJ (hF:=mB _ p b k x hk hP) (h:=?_)|refine jP (hF:=If _ p b k hk hP) (h:=?_)|refine qJ (hF:=kD _ (qP p b) _ (vk w5 qO)) (h:=?_))
  all_goals try clear fx
  refine qD [] .nil qE ?_;simp [qx,h4']
 have h4':¬ jB p b x=4:=by simpa using h4
 have fx:=yE h0 h2 h4<|hw5;have c1:=mB gl p b k x hk hP;have c2:=oz gl p b k x hk hP;refine qG ?_;clear fx c1 c2;refine qD [] .nil qE ?_;simp only [qx,if_neg h0',if_neg h2',if_neg h4']
 rfl
abbrev TR:Zh:=bI<|.l 7 [0]<|.l 8 [0]<|.l 9 []<|.l 10 []<|.done
theorem ND {k:Int} (h:0<=k/\k<=11):k=0\/k=1\/k=2\/k=3\/k=4\/k=5\/k=6\/k=7\/k=8\/k=9\/k=10\/k=11:=qA
abbrev Fd (p:Z0) (b:Nat) (s:Z9) (i:Nat):List (Int×Int):=(0,0)::(s.reads.take i).map λx=>qx p b x 0
theorem D3 {p:Z0} {b:Nat} {s:Z9} {i:Nat} {u:Int} (h:s.reads[i]?=some u):Fd p b s (i+1)=Fd p b s i++[qx p b u 0]:=by
 simp [Fd,uQ,h]
theorem Ct {p:Z0} {b:Nat} {s:Z9}:fC p b s=Fd p b s s.reads.length++(j5 s++cg p b s):=by simp [fC,Fd,wA]
theorem rF (gl) (p:Z0) (b:Nat) (k:Za) (s:Z9) (hk:p[b]?=some k) (hP:qAw p) (hkd:0<=s.kind/\s.kind<=11):qb prog gl 187 [pav p,iv b,s.av] (λr y H'=>y=.hs r 2 0 (fC p b s).length/\H' r=some (.row 2 (uc (fC p b s)))):=by
 have hrl:=s.qAX;rw [Ct];refine qb.Zl func187 [.tmp 6] ntmps187 λC w g root=>?_;have fx:=Zk;have d1:=iB gl s;refine qG ?_
 repeat ((first|refine Ze (id:=6) TR mixed ?_);refine qZ ?_;refine qG ?_)
 clear fx d1;refine qX (λn st=>∃ i:Nat,n=s.reads.length - i/\i<=s.reads.length/\st.tm 1=iv b/\st.tm 3=.pt (.s 3) 0/\st.hp (.s 3)=some (.row 1 [[ksl p]])/\st.tm 5=.pt (.s 5) 0/\st.hp (.s 5)=some (.row 4 [s.cells])/\st.tm 8=.hs (.s 8) 1 0 s.reads.length/\st.hp (.s 8)=some (.row 1 (qT s.reads))/\st.tm 9=iv i/\st.tm 7=.hs (.s 7) 2 0 (Fd p b s i).length/\st.hp (.s 7)=some (.row 2 (uc (Fd p b s i)))) s.reads.length ?_ ?_
 .exact⟨0,qA,qA,qB,qB,qB,qB,qB,qB,qB,qB,qB,cP⟩
 rintro n st - - ⟨i,rfl,hi,h1,h3,hp3,h5,hp5,h8,hp8,h9,h7,hp7⟩;have hll:(Fd p b s i).length<=10:=qc;by_cases hil:i<s.reads.length
 .obtain⟨u,hu⟩:=gX hil;obtain⟨_,huE⟩:=gS hu;have hnx:=D3 (p:=p) (b:=b) hu;generalize hL:Fd p b s i=L at h7 hp7 hnx hll;have fx:=qU h1 h3 hp3 h5 hp5 h8 hp8 h9 h7 hp7 hu huE<|aI hil<|hll;have c1:=ry gl p b k u 0 hk hP qO qO;refine qG ?_
  repeat ((first|refine Ze (id:=6) TR mixed ?_);refine qZ ?_;refine qG ?_)
  clear fx c1;refine⟨s.reads.length - (i+1),qA,i+1,rfl,qA,qy,qt,jv,z7,kh,kK,wG,zD,by simp [hnx],?_⟩;rw [hnx];simp [cq]
 .have hge:i=s.reads.length:=qA;rw [hge] at h7 hp7 hll;generalize hL:Fd p b s s.reads.length=L at h7 hp7 hll;have hw5:s.kind=5->IntKind.i64.wrap ((s.reads.length:Int) - 1)=(s.reads.length:Int) - 1:=λ_=>Zv qA qA;obtain⟨kd,to,a,c⟩:=s;simp only at hkd hw5;rcases ND hkd with rfl|rfl|rfl|rfl|rfl|rfl|rfl|rfl|rfl|rfl|rfl|rfl
  all_goals
   have fx:=qU h1 h3 hp3 h5 hp5 h8 hp8 h9 h7 hp7 hil hge<|aI hll<|hw5;have c1:=ry gl p b k to 1 hk hP qO qO;have c2:=ry gl p b k to 2 hk hP qO qO;refine qG ?_
   repeat ((first|refine Ze (id:=6) TR mixed ?_);refine qZ ?_;refine qG ?_)
   clear fx c1 c2;refine jU (t:=6) ?_ ?_ ?_
   all_goals simp [j5,cg,cq,CY,b9,h7,hp7]
abbrev TQ:Zh:=vi<|.q 13<|.q 14<|.q 16<|.q 17<|.q 19<|.q 20<|.l2 12 [20,19,17,16,14,13,6,5,4,3,2,1,0] (.l2 15 [20,19,17,16,6,5,4,3,2,1,0] (.l2 18 [20,19,6,5,4,3,2,1,0] (.l2 21 [6,5,4,3,2,1,0] (.q 22<|.l 23 [22,6,5,4,3,2,1,0]<|.l 24 []<|.done) 23 [20,19,6,5,4,3,2,1,0] (.l 21 [6,5,4,3,2,1,0]<|.q 22<|.l 24 []<|.done)) 23 [20,19,17,16,6,5,4,3,2,1,0] (.l 18 [20,19,6,5,4,3,2,1,0]<|.l 21 [6,5,4,3,2,1,0]<|.q 22<|.l 24 []<|.done)) 23 [20,19,17,16,14,13,6,5,4,3,2,1,0] (.l 15 [20,19,17,16,6,5,4,3,2,1,0]<|.l 18 [20,19,6,5,4,3,2,1,0]<|.l 21 [6,5,4,3,2,1,0]<|.q 22<|.l 24 []<|.done)) 23 [20,19,17,16,14,13,11,10,9,8,7,6,5,4,3,2,1,0] (.l 12 [20,19,17,16,14,13,6,5,4,3,2,1,0]<|.l 15 [20,19,17,16,6,5,4,3,2,1,0]<|.l 18 [20,19,6,5,4,3,2,1,0]<|.l 21 [6,5,4,3,2,1,0]<|.q 22<|.l 24 []<|.done)
abbrev TP:Zh:=nP<|.l 13 [7,6,5,4,1,0]<|.l 14 [7,6,5,4]<|.q 15<|.l 16 []<|.done
theorem pF (gl) (p:Z0) (b:Nat) (k:Za) (hk:p[b]?=some k) (hP:qAw p):qb prog gl 148 [pav p,iv b] (λr y H'=>y=.agg ((zC p b).own r 0)/\qBp H' r 0 (zC p b)):=by
 have hs:=hP.sml;have hh:=hP.Zc;have hl7:=hP.len;have hkm:=gM hk;obtain⟨Zs,hbE⟩:=gS hk;have hk12:=hP.sh.body k hkm;have hkinds:=(hP.sh.names k hkm).kinds;obtain⟨hpl,_⟩:=hs.bsm hk;have hcode:zC p b=⟨k.kind,k.params,qP p b,qF p b,qd p b,uP p b k.body⟩:=by simp [zC,vI,hk]
 rw [hcode];refine qb.Zl func148 [.cell 4 111] ntmps148 λC w g root=>?_;have fx:=jI hk hbE<|Zs;have d1:=lU gl k.params qA;have d2:=If gl p b k hk hP;have d3:=kJ gl p b k hk hs hh hl7;have d4:=B0 gl p b Zs hs hh hl7;refine qG ?_
 first|refine Ze (id:=1) TQ mixed ?_|refine Ze (id:=5) TP mixed ?_
 refine Ru (λst=>st.tm 1=iv b/\st.tm 2=.pt (.s 2) 0/\st.hp (.s 2)=some (.row 1 [[ksl p]])/\st.tm 6=iv 0/\st.tm 5=.pt (.s 5) 0/\st.tm 4=.pt (.s 4) 0/\st.hp (.s 4)=some (.row 6 [ff.own (.s 4) 0])/\st.hp (.s 5)=some (.row 6 [Cod.own (.s 5) 0 ⟨k.kind,k.params,qP p b,qF p b,qd p b,[]⟩])/\st.hp (.c (.s 5) 0 1)=some (.row 1 (qT k.params))/\st.hp (.c (.s 5) 0 2)=some (.row 1 (qT (qP p b)))/\st.hp (.c (.s 5) 0 3)=some (.row 1 (qT (qF p b)))/\st.hp (.c (.s 5) 0 4)=some (.row 1 (qT (qd p b)))/\st.hp (.c (.s 5) 0 5)=some (.row 2 [])) ?_;clear fx d1 d2 d3 d4;rintro st ⟨h1,h2,hp2,h6,h5,h4,hp4,hp5,q1,q2,q3,q4,q5⟩;refine qX (λn st=>∃ i:Nat,n=k.body.length - i/\i<=k.body.length/\st.tm 1=iv b/\st.tm 2=.pt (.s 2) 0/\st.hp (.s 2)=some (.row 1 [[ksl p]])/\st.tm 6=iv i/\st.tm 5=.pt (.s 5) 0/\st.tm 4=.pt (.s 4) 0/\st.hp (.s 4)=some (.row 6 [ff.own (.s 4) 0])/\∃ c:Cod,c=⟨k.kind,k.params,qP p b,qF p b,qd p b,uP p b (k.body.take i)⟩/\st.hp (.s 5)=some (.row 6 [c.own (.s 5) 0])/\qBp st.hp (.s 5) 0 c) k.body.length ?_ ?_
 .refine⟨0,qA,qA,h1,h2,hp2,h6,h5,h4,hp4,_,rfl,?_,⟨?_,?_,?_,?_,?_⟩⟩
  all_goals simp [uP,hp5,q1,q2,q3,q4,q5]
 clear h1 h2 hp2 h6 h5 h4 hp4 hp5 q1 q2 q3 q4 q5;rintro n st - - ⟨i,rfl,hi,h1,h2,hp2,h6,h5,h4,hp4,c,hc,hp5,⟨o1,o2,o3,o4,o5⟩⟩;have hll:=tx (p:=p) (b:=b) (k.body.take i);rw [List.length_take] at hll;by_cases hil:i<k.body.length
 .obtain⟨s,hss⟩:=gX hil;obtain⟨_,hsE⟩:=gS hss;have hnx:=AU (p:=p) (b:=b) hss;have hsl:=rC (p:=p) (b:=b) (s:=s);generalize hL:uP p b (k.body.take i)=L at hc hnx hll;subst hc;simp only [Cod.qB1] at hp5 o1 o2 o3 o4 o5;have fx:=qU h1 h2 hp2 h6 h5 hp5 o1 o2 o3 o4 o5 hk<|u4 hbE Zs hss hsE hil hll<|hsl;have d1:=rF gl p b k s hk hP (hkinds s (gM hss));refine qG ?_
  repeat ((first|refine Ze (id:=1) TQ mixed ?_|refine Ze (id:=5) TP mixed ?_);refine qZ ?_;refine qG ?_)
  clear fx d1;refine⟨k.body.length - (i+1),qA,i+1,rfl,qA,qy,ql,zF,zD,z7,jp,kj,_,rfl,?_,⟨?_,?_,?_,?_,?_⟩⟩
  all_goals simp [hnx,o1,o2,o3,o4,o5,hp5]
 .have hge:i=k.body.length:=qA;subst hge;rw [an] at hc;subst hc;simp only [Cod.qB1] at hp5 o1 o2 o3 o4 o5;have fx:=qU h1 h2 hp2 h6 h5 h4 hp4 hp5 o1 o2 o3 o4<|yS o5 hk hbE Zs<|hil;refine qG ?_
  repeat ((first|refine Ze (id:=1) TQ mixed ?_|refine Ze (id:=5) TP mixed ?_);refine qZ ?_;refine qG ?_)
  clear fx;refine qD [(.s 5,root)] (.one rfl) CN ⟨?_,⟨?_,?_,?_,?_,?_⟩⟩
  all_goals simp [h4,o1,o2,o3,o4,o5]
theorem Af (gl) (p:Z0) (hP:qAw p):qb prog gl 96 [pav p] (λr y H'=>y=.hs r 6 0 (qw p p.length).length/\qDW H' r (qw p p.length)):=by
 have hl7:=hP.len;refine qb.Zl func96 [.tmp 2] ntmps96 λC w g root=>?_;refine qC ?_<|Zk;refine qX (λn st=>∃ i:Nat,n=p.length - i/\i<=p.length/\st.tm 1=.pt (.s 1) 0/\st.hp (.s 1)=some (.row 1 [[ksl p]])/\st.tm 4=iv i/\∃ cs:List Cod,cs=qw p i/\cs.length=i/\st.tm 3=.hs (.s 3) 6 0 cs.length/\qDW st.hp (.s 3) cs) p.length ?_ ?_
 .refine⟨0,qA,qA,qB,qB,qB,[],qB,rfl,qB,⟨qB,λi c h=>by simp at h⟩⟩
 rintro n st - - ⟨i,rfl,hi,h1,hp1,h4,cs,hcs,hcl,h3,⟨ht,he⟩⟩;by_cases hil:i<p.length
 .obtain⟨k,hk⟩:=gX hil;have hnx:=oy (p:=p) (n:=i);have hcc:=pF gl p i k hk hP;rw [<- hcs] at hnx;generalize hC:zC p i=c at hcc hnx;have hcl7:cs.length<=7:=qA;have fx:=yE h1 hp1 h4<|hil;have e1:=hcc;refine qG ?_;clear fx e1;rintro K hK y H' ⟨rfl,hO⟩;obtain⟨o1,o2,o3,o4,o5⟩:=hO.qAH;refine⟨qB,?_⟩;refine qC ?_<|jJ h1 hp1 h4 h3 ht hcl7 o1 o2 o3 o4<|o5;refine⟨p.length - (i+1),qA,i+1,rfl,qA,qy,jy,by simp [h4];exact Zv qA qA,cs++[c],hnx.symm,by simp [hcl],qB,⟨?_,λj d hj=>?_⟩⟩
  .simp [ht,AF]
  .rcases fF j cs.length with hlj|hgj
   .rw [uW hlj] at hj;have hne:¬ j=cs.length:=qA;obtain⟨e1,e2,e3,e4,e5⟩:=he j d hj;exact⟨by simp [hne,e1],by simp [hne,e2],by simp [hne,e3],by simp [hne,e4],by simp [hne,e5]⟩
   .rw [b7 hgj] at hj
    obtain rfl:j=cs.length:=by
     have:=(gS hj).1;simp at this;omega
    simp at hj;subst hj;exact⟨by simp [o1],by simp [o2],by simp [o3],by simp [o4],by simp [o5]⟩
 .have hge:i=p.length:=qA;subst hge;subst hcs;refine qC ?_<|uD h1 hp1 h4 hil h3<|ht;refine qD [(.s 2,root)] (.one rfl) qE ⟨qB,⟨by simp [ht,dD (n:=.s 2) (m:=root) (f:=jc noD [(.s 2,root)]) qB],λj d hj=>?_⟩⟩;obtain⟨e1,e2,e3,e4,e5⟩:=he j d hj;exact⟨by simp [e1],by simp [e2],by simp [e3],by simp [e4],by simp [e5]⟩
end Go.Proofs.YtdnebaieamppbaaGreatDoor
end
