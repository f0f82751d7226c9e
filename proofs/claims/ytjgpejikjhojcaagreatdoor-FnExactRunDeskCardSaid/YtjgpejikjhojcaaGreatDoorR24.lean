import Derived.Test.YtjgpejikjhojcaaGreatDoorR23
set_option linter.unusedSimpArgs false
set_option linter.unusedVariables false
set_option maxRecDepth 100000
set_option maxHeartbeats 4000000

section

end
section
namespace Go.Proofs.YtjgpejikjhojcaaGreatDoor
open Go Go.Hm Go.Proofs Tryz
theorem sT (gl) (p:qC) (c b:Nat) (hs:jt p) (hh:zj p) (hc:c<p.length):qM prog gl 220 [jB p,iv c,iv b] (λ_ z _=>z=bv (jX p c b)):=by
 refine qM.q9 func220 [.tmp 6] ntmps220 λC w g root=>?_;refine qJ ?_<|qd;refine zQ (λn st=>∃ j:Int,n=(j+1).toNat /\ -1<=j/\j<p.length/\jX p j b=jX p c b/\st.tm 1=iv j/\st.tm 2=iv b/\st.tm 3=.pt (.s 3) 0/\st.hp (.s 3)=some (.row 1 [[jc p]])) (c+1) ?_ ?_
 .exact⟨c,qA,qA,qA,rfl,qB⟩
 rintro n st - - ⟨j,rfl,hj1,hj2,ho,h1,h2,h3,hp3⟩;refine qJ ?_<|zD h1 h2 h3<|hp3;refine vC vE (λht=>?_) (λhf=>?_)
 .have hj0:(b:Int)<j:=yW;obtain⟨j,rfl⟩:∃ i:Nat,j=i:=⟨j.toNat,qA⟩;obtain⟨q,hq⟩:∃ q,p[j]?=some q:=⟨_,gE qA⟩;obtain⟨hq1,hq2,_⟩:=hh j q hq;refine qJ ?_<|zN h1 h2 h3 hp3<|hq;refine⟨(q.parent+1).toNat,qA,q.parent,rfl,hq1,qA,?_,by simp [h2,h3,hp3]⟩;rw [<- ho,dV hh qA hq hj0]
 .have hj:j<=b:=vT
  all_goals have fx:=aI h1<|h2
  repeat' (first|refine zm ?_|refine λ(K:St->Prop) hK=>?_)
  all_goals try clear fx
  rw [bA hj] at ho;refine qF [] .nil qE ?_;rw [<- ho]
  rfl
theorem Xk (gl) (p:qC) (b:Nat) (k:qX) (hk:p[b]?=some k) (hs:ia k):qM prog gl 237 [jB p,iv b] (λr y H'=>y=.hs r 1 0 k.rd.length/\H' r=some (.row 1 (qj k.rd))):=Xj gl p b k hk hs.body
theorem Gk (gl) (p:qC) (b:Nat) (k:qX) (hk:p[b]?=some k) (hs:ia k):qM prog gl 219 [jB p,iv b] (λr y H'=>y=.hs r 1 0 k.us.length/\H' r=some (.row 1 (qj k.us))):=by
 have l1:=k.MA;have l2:=k.Hf;have l3:=k.sL 9;have l4:=k.sL 10;have t1:(k.rd++k.bd).take (k.rd.length+k.bd.length)=k.rd++k.bd:=yG qB;have t2:(k.rd++(k.bd++k.dc 9)).take (k.rd.length+k.bd.length+(k.dc 9).length)=k.rd++(k.bd++k.dc 9):=yG qu;have hu:k.us=sorted (k.rd++(k.bd++(k.dc 9++k.dc 10))):=by simp [qX.us]
 rw [hu];refine qM.q9 func219 [.tmp 4] ntmps219 λC w g root=>?_
 all_goals have fx:=qk hk t1<|t2
 repeat' (first
  | refine wV ?_|refine ae λK hK=>?_
  | ((with_reducible refine uz hK ?_);clear hK K)
  | (with_reducible first|refine wT ?_|refine gA ?_)
  | refine bO ?_
  | (with_reducible first|refine wB ?_|refine ag (h:=?_)|refine dk (h:=?_)|refine bP (T:=38) (h:=?_))
  | ((with_reducible refine cj 237 rfl ?_);refine wW (hF:=Xk _ p b k hk hs) (h:=?_))
  | ((with_reducible refine cj 174 rfl ?_);refine wW (hF:=Hv _ p b k hk hs) (h:=?_))
  | ((with_reducible refine cj 81 rfl ?_);refine wW (hF:=xe _ p b k _ hk hs) (h:=?_))
  | ((with_reducible refine cj 123 rfl ?_);refine wW (hF:=ni _ (k.rd++(k.bd++(k.dc 9++k.dc 10))) qu) (h:=?_))
  | (refine qQ (id:=1) (.q 0<|.q 1<|.q 3<|.q 4<|.q 7<|.q 8<|.q 11<|.q 12<|.l 2 [12,11,8,7,4,3]<|.l 5 [12,11,8,7]<|.l 6 [12,11,8,7]<|.l 9 [12,11]<|.l 10 [12,11]<|.l 13 []<|.l 14 []<|.l 15 []<|.l 16 []<|.done) mixed λK hK=>?_)
  | ((with_reducible refine cE hK ?_);clear hK K)
  | ((with_reducible refine ah ?_);first|refine lu (h:=?_))
  | refine ik rfl ?_|(with_reducible refine aI ?_ ?_)|exact iQ|refine iZ (h2:=?_)
  | fail)
 all_goals try clear fx
 all_goals
  exact y7 (t:=4) j7 j7 qB
theorem qBA (gl) (p:qC) (b:Int) (hs:jt p):qM prog gl 126 [jB p,iv b] (λ_ y _=>y=bv (uk p&&(decide (0<=b)&&decide (b<=(p.length:Int) - 1)))):=by
 have hpl:=hs.len;have w2:IntKind.i64.wrap ((p.length:Int) - 1)=p.length - 1:=qm qA qA;refine qM.q9 func126 [.tmp 4] ntmps126 λC w g root=>?_
 all_goals have fx:= w2
 repeat' (first|refine zm ?_|refine λ(K:St->Prop) hK=>?_|refine zH (hF:=N2 _ p hs) (h:=?_)|refine zH (hF:=bh _ _ _ _) (h:=?_)|(with_reducible refine ye (λht=>?_) (λht=>?_))|refine vb (h1:=λht=>?_) (h2:=λht=>?_))
 all_goals try clear fx
 all_goals refine qF [] .nil qE ?_
 all_goals simp_all
theorem qBF (gl) (p:qC) (b x:Int) (hs:jt p):qM prog gl 84 [jB p,iv b,iv x] (λ_ y _=>y=bv ((uk p&&(decide (0<=b)&&decide (b<=(p.length:Int) - 1)))&&(decide (0<=x)&&decide (x<=7)))):=by
 refine qM.q9 func84 [.tmp 6] ntmps84 λC w g root=>?_
 all_goals have fx:=qd
 repeat' (first|refine zm ?_|refine λ(K:St->Prop) hK=>?_|refine zH (hF:=qBA _ p b hs) (h:=?_)|refine zH (hF:=Ae _ _) (h:=?_)|(with_reducible refine ye (λht=>?_) (λht=>?_))|refine vb (h1:=λht=>?_) (h2:=λht=>?_))
 all_goals try clear fx
 all_goals refine qF [] .nil qE ?_
 all_goals simp_all
 all_goals (intro h1 h2 h3;have:=ht h1 h2;omega)
abbrev V1:qV:=aL<|.q 7<|.l 6 [7]<|.q 8<|.done
abbrev V2:qV:=aL<|.l 6 []<|.l 7 []<|.done
theorem Po {p:qC} {b c:Nat} (h:b+1<=c):wz p b (c+1 - (b+1))=wz p b (c - (b+1))++eI p b c:=by
 rw [show c+1 - (b+1)=c - (b+1)+1 by omega,Pp,show b+1+(c - (b+1))=c by omega]
theorem RN {p:qC} {b c:Nat} (h:b<=c):wL p b (c+1 - b)=wL p b (c - b)++bg p b c:=by
 rw [show c+1 - b=c - b+1 by omega,RO,show b+(c - b)=c by omega]
theorem lP {A G G2:Prop} (k:G2) (x:A) (h:A->jL G2->G:=by
 intro fx kk;refine qK ?_
 repeat ((first|refine qQ (id:=9) V1 mixed ?_);refine zK ?_;refine qK ?_)
 exact kk.h):G:=h x ⟨k⟩
theorem sJ (gl) (p:qC) (b:Nat) (k:qX) (hk:p[b]?=some k) (hs:jt p) (hh:zj p) (hl7:p.length<=7):qM prog gl 217 [jB p,iv b] (λr y H'=>y=.hs r 1 0 (qY p b).length/\H' r=some (.row 1 (qj (qY p b)))):=by
 obtain⟨qy,hbE⟩:=gS hk;have hka:j9 p b=k.kind:=fP;have hw:IntKind.i64.wrap ((b:Int)+1)=((b+1:Nat):Int):=by rw [qm qA qA];rfl
 refine qM.q9 func217 [.tmp 4] ntmps217 λC w g root=>?_
 cases hkd:(k.kind==1)
 .have hc:qY p b=sorted []:=by
   have:¬ k.kind=1:=gh;simp [qY,hka,this]
   rfl
  rw [hc];refine lP ?_<| hw;refine zQ (λn st=>n=0/\st.tm 1=iv b/\st.tm 2=.pt (.s 2) 0/\st.hp (.s 2)=some (.row 1 [[jc p]])/\st.tm 6=iv ((b+1:Nat):Int)/\st.tm 5=.hs (.s 5) 1 0 0/\st.hp (.s 5)=some (.row 1 [])) 0 ?_ ?_
  .exact⟨rfl,qB⟩
  rintro n st - - ⟨rfl,h1,h2,hp2,h6,h5,hp5⟩;generalize hc0:b+1=c at h6;by_cases hlt:c<p.length
  .skip
   have fx:=jS h1 h2 hp2 h6 h5 hp5 hk hbE hkd hlt<|qy;have d1:=ni gl [] qB;refine lP ?_<|@fx;clear fx d1;exact y7 (t:=4) j7 j7 qB
  .skip
   have fx:=jS h1 h2 hp2 h6 h5 hp5 hk hbE hkd hlt<|qy;have d1:=ni gl [] qB;refine lP ?_<|@fx;clear fx d1;exact y7 (t:=4) j7 j7 qB
 have hc:qY p b=sorted (wz p b (p.length - (b+1))):=by
  have:k.kind=1:=gh;simp [qY,hka,this]
 rw [hc];refine lP ?_<| hw;refine zQ (λn st=>∃ c:Nat,n=p.length - c/\b+1<=c/\c<=p.length/\st.tm 1=iv b/\st.tm 2=.pt (.s 2) 0/\st.hp (.s 2)=some (.row 1 [[jc p]])/\st.tm 6=iv c/\st.tm 5=.hs (.s 5) 1 0 (wz p b (c - (b+1))).length/\st.hp (.s 5)=some (.row 1 (qj (wz p b (c - (b+1)))))) (p.length - (b+1)) ?_ ?_
 .exact⟨b+1,rfl,qA,qA,qB,qB,qB,qB,by simp [wz,bk],by simp [wz,bk]⟩
 rintro n st - - ⟨c,rfl,hc1,hc2,h1,h2,hp2,h6,h5,hp5⟩;have hcl:=J3 (p:=p) (b:=b) (n:=c);have hrl:=Pn (p:=p) (b:=b) (n:=c - (b+1));by_cases hlt:c<p.length
 .obtain⟨q,hq⟩:=gX hlt;have hul:=q.Cr;have hnext:=Po (p:=p) hc1;have hat:eI p b c=q.us.filter (aT p b c):=by simp [eI,hq]
  rw [hat] at hnext;generalize hR:wz p b (c - (b+1))=R at h5 hp5 hnext hrl;have fx:=jS h1 h2 hp2 h6 h5 hp5 hk hbE hkd hlt<|aI qy<|hq;have d1:=Gk gl p c q hq (hs.ko hq);refine lP ?_<|@fx;clear fx d1;refine zQ (λn st=>∃ i:Nat,n=q.us.length - i/\i<=q.us.length/\st.tm 1=iv b/\st.tm 2=.pt (.s 2) 0/\st.hp (.s 2)=some (.row 1 [[jc p]])/\st.tm 6=iv c/\st.tm 7=.hs (.s 7) 1 0 q.us.length/\st.hp (.s 7)=some (.row 1 (qj q.us))/\st.tm 8=iv i/\st.tm 5=.hs (.s 5) 1 0 (R++(q.us.take i).filter (aT p b c)).length/\st.hp (.s 5)=some (.row 1 (qj (R++(q.us.take i).filter (aT p b c))))) q.us.length ?_ ?_
  .exact⟨0,qA,qA,zl,ya,yw,vt,qB,qB,qB,yH,wt⟩
  clear h1 h2 hp2 h6 h5 hp5;rintro n st - - ⟨i,rfl,hi,h1,h2,hp2,h6,h7,hp7,h8,h5,hp5⟩;have hfl:((q.us.take i).filter (aT p b c)).length<=8:=JL (ur (List.length_take_le' _ _) hul);have hLl:(R++(q.us.take i).filter (aT p b c)).length<=1000:=qu;by_cases hil:i<q.us.length
  .obtain⟨u,hu⟩:=gX hil;obtain⟨_,huE⟩:=gS hu;have hnx:R++(q.us.take (i+1)).filter (aT p b c)=R++(q.us.take i).filter (aT p b c)++(if aT p b c u=true then [u] else []):=by rw [iT hu,iq]
   generalize hL:R++(q.us.take i).filter (aT p b c)=L at h5 hp5 hnx hLl
   cases ho:(zI p c u==(b:Int))
   .rw [if_neg (by simp only [aT,ho];decide),ir] at hnx;have fx:=qh h1 h2 hp2 h6 h7 hp7 h8 h5 hp5 hq hu huE<|aI hil<|ho;have c1:=eW gl p c q u hq hs hh;refine lP ?_<|@fx;clear fx c1;exact⟨q.us.length - (i+1),qA,i+1,rfl,qA,zl,ya,yw,vt,b7,rz,jM,by simp [hnx,h5],by simp [hnx,hp5]⟩
   .rw [if_pos (by simp only [aT,ho])] at hnx;have fx:=qh h1 h2 hp2 h6 h7 hp7 h8 h5 hp5 hq hu huE<|qk hil ho<|hLl;have c1:=eW gl p c q u hq hs hh;refine lP ?_<|@fx;clear fx c1;refine⟨q.us.length - (i+1),qA,i+1,rfl,qA,zl,ya,yw,vt,b7,rz,jM,by simp [hnx,h5],?_⟩;rw [hnx];simp [hp5,qj]
  .have hge:i=q.us.length:=qA;rw [hge,kC,<- hnext] at h5 hp5;refine lP ?_<|jN h1 h2 hp2 h6 h7 hp7 h8<|hil;exact⟨p.length - (c+1),qA,c+1,rfl,qA,qA,zl,ya,yw,tz,yH,wt⟩
 .have hge:c=p.length:=qA;subst hge;have fx:=jS h1 h2 hp2 h6 h5 hp5 hk hbE hkd hlt<|qy;have d1:=ni gl (wz p b (p.length - (b+1))) qA;refine lP ?_<|@fx;clear fx d1;exact y7 (t:=4) j7 j7 qB
theorem iA {A G G2:Prop} (k:G2) (x:A) (h:A->jL G2->G:=by
 intro fx kk;refine qK ?_
 repeat ((first|refine qQ (id:=9) V2 mixed ?_);refine zK ?_;refine qK ?_)
 exact kk.h):G:=h x ⟨k⟩
theorem Ek (gl) (p:qC) (b:Nat) (qy:b<p.length) (hs:jt p) (hh:zj p) (hl7:p.length<=7):qM prog gl 176 [jB p,iv b] (λr y H'=>y=.hs r 1 0 (zZ p b).length/\H' r=some (.row 1 (qj (zZ p b)))):=by
 have hc:zZ p b=sorted (wL p b (p.length - b)):=rfl;rw [hc];refine qM.q9 func176 [.tmp 4] ntmps176 λC w g root=>?_;refine iA ?_<|qd;refine zQ (λn st=>∃ c:Nat,n=p.length - c/\b<=c/\c<=p.length/\st.tm 1=iv b/\st.tm 2=.pt (.s 2) 0/\st.hp (.s 2)=some (.row 1 [[jc p]])/\st.tm 6=iv c/\st.tm 5=.hs (.s 5) 1 0 (wL p b (c - b)).length/\st.hp (.s 5)=some (.row 1 (qj (wL p b (c - b))))) (p.length - b) ?_ ?_
 .exact⟨b,rfl,qA,qA,qB,qB,qB,qB,by simp [wL,bk],by simp [wL,bk]⟩
 rintro n st - - ⟨c,rfl,hc1,hc2,h1,h2,hp2,h6,h5,hp5⟩;have hrl:=J3 (p:=p) (b:=b) (n:=c - b);by_cases hlt:c<p.length
 .obtain⟨q,hq⟩:=gX hlt;have hul:=q.Cr;have hnext:=RN (p:=p) hc1
  cases hin:jX p c b
  .have hat:bg p b c=[]:=by simp [bg,hq,hin]
   rw [hat,ir] at hnext;generalize hR:wL p b (c - b)=R at h5 hp5 hnext hrl;have fx:=jN h1 h2 hp2 h6 h5 hp5 hlt<|hq;have d1:=Gk gl p c q hq (hs.ko hq);refine iA ?_<|@fx;clear fx d1;refine zQ (λn st=>n=0/\st.tm 1=iv b/\st.tm 2=.pt (.s 2) 0/\st.hp (.s 2)=some (.row 1 [[jc p]])/\st.tm 6=iv c/\st.tm 7=.hs (.s 7) 1 0 q.us.length/\st.hp (.s 7)=some (.row 1 (qj q.us))/\st.tm 8=iv 0/\st.tm 5=.hs (.s 5) 1 0 R.length/\st.hp (.s 5)=some (.row 1 (qj R))) 0 ?_ ?_
   .exact⟨rfl,zl,ya,yw,vt,qB,qB,qB,yH,wt⟩
   clear h1 h2 hp2 h6 h5 hp5;rintro n st - - ⟨rfl,h1,h2,hp2,h6,h7,hp7,h8,h5,hp5⟩;by_cases hu0:0<q.us.length
   .skip
    have fx:=jS h1 h2 hp2 h6 h7 hp7 h8 h5 hp5 hq<|aI hu0<|hin;have c1:=sT gl p c b hs hh hlt;refine iA ?_<|@fx;clear fx c1;exact⟨p.length - (c+1),qA,c+1,rfl,qA,qA,zl,ya,yw,tz,xQ,Bd⟩
   .skip
    have fx:=jS h1 h2 hp2 h6 h7 hp7 h8 h5 hp5 hq<|aI hu0<|hin;have c1:=sT gl p c b hs hh hlt;refine iA ?_<|@fx;clear fx c1;exact⟨p.length - (c+1),qA,c+1,rfl,qA,qA,zl,ya,yw,tz,xQ,Bd⟩
  have hat:bg p b c=q.us.filter (kw p b c):=by simp [bg,hq,hin]
  rw [hat] at hnext;generalize hR:wL p b (c - b)=R at h5 hp5 hnext hrl;have fx:=jN h1 h2 hp2 h6 h5 hp5 hlt<|hq;have d1:=Gk gl p c q hq (hs.ko hq);refine iA ?_<|@fx;clear fx d1;refine zQ (λn st=>∃ i:Nat,n=q.us.length - i/\i<=q.us.length/\st.tm 1=iv b/\st.tm 2=.pt (.s 2) 0/\st.hp (.s 2)=some (.row 1 [[jc p]])/\st.tm 6=iv c/\st.tm 7=.hs (.s 7) 1 0 q.us.length/\st.hp (.s 7)=some (.row 1 (qj q.us))/\st.tm 8=iv i/\st.tm 5=.hs (.s 5) 1 0 (R++(q.us.take i).filter (kw p b c)).length/\st.hp (.s 5)=some (.row 1 (qj (R++(q.us.take i).filter (kw p b c))))) q.us.length ?_ ?_
  .exact⟨0,qA,qA,zl,ya,yw,vt,qB,qB,qB,yH,wt⟩
  clear h1 h2 hp2 h6 h5 hp5;rintro n st - - ⟨i,rfl,hi,h1,h2,hp2,h6,h7,hp7,h8,h5,hp5⟩;have hfl:((q.us.take i).filter (kw p b c)).length<=8:=JL (ur (List.length_take_le' _ _) hul);have hLl:(R++(q.us.take i).filter (kw p b c)).length<=1000:=qu;by_cases hil:i<q.us.length
  .obtain⟨u,hu⟩:=gX hil;obtain⟨_,huE⟩:=gS hu;have hnx:R++(q.us.take (i+1)).filter (kw p b c)=R++(q.us.take i).filter (kw p b c)++(if kw p b c u=true then [u] else []):=by rw [iT hu,iq]
   generalize hL:R++(q.us.take i).filter (kw p b c)=L at h5 hp5 hnx hLl;have no:kw p b c u=false->R++(q.us.take (i+1)).filter (kw p b c)=L:=λh=>by rw [hnx,h,if_neg qe,ir]
   cases ho:decide (0<zI p c u)
   .have hno:=no (by simp only [kw,ho];rfl);have fx:=qh h1 h2 hp2 h6 h7 hp7 h8 h5 hp5 hq hu huE<|qk hil hin<|ho;have c1:=sT gl p c b hs hh hlt;have c2:=eW gl p c q u hq hs hh;refine iA ?_<|@fx;clear fx c1 c2;exact⟨q.us.length - (i+1),qA,i+1,rfl,qA,zl,ya,yw,vt,b7,rz,jM,by simp [hno,h5],by simp [hno,hp5]⟩
   cases ho2:decide (zI p c u<b)
   .have hno:=no (by simp only [kw,ho2];simp);have fx:=qh h1 h2 hp2 h6 h7 hp7 h8 h5 hp5 hq hu huE<|zD hil hin ho<|ho2;have c1:=sT gl p c b hs hh hlt;have c2:=eW gl p c q u hq hs hh;refine iA ?_<|@fx;clear fx c1 c2;exact⟨q.us.length - (i+1),qA,i+1,rfl,qA,zl,ya,yw,vt,b7,rz,jM,by simp [hno,h5],by simp [hno,hp5]⟩
   .rw [if_pos (by simp only [kw,ho,ho2];rfl)] at hnx;have fx:=qh h1 h2 hp2 h6 h7 hp7 h8 h5 hp5 hq hu huE<|zN hil hin ho ho2<|hLl;have c1:=sT gl p c b hs hh hlt;have c2:=eW gl p c q u hq hs hh;refine iA ?_<|@fx;clear fx c1 c2;refine⟨q.us.length - (i+1),qA,i+1,rfl,qA,zl,ya,yw,vt,b7,rz,jM,by simp [hnx,h5],?_⟩;rw [hnx];simp [hp5,qj]
  .have hge:i=q.us.length:=qA;rw [hge,kC,<- hnext] at h5 hp5;have fx:=vI h1 h2 hp2 h6 h7 hp7 h8 hil<|hin;have c1:=sT gl p c b hs hh hlt;refine iA ?_<|@fx;clear fx c1;exact⟨p.length - (c+1),qA,c+1,rfl,qA,qA,zl,ya,yw,tz,yH,wt⟩
 .have hge:c=p.length:=qA;subst hge;have fx:=jI h1 h2 hp2 h6 h5 hp5<|hlt;have d1:=ni gl (wL p b (p.length - b)) qA;refine iA ?_<|@fx;clear fx d1;exact y7 (t:=4) j7 j7 qB
structure aR (p:qC):Prop where
 br:jt p
 sh:zr p
theorem aR.jj {p:qC} (h:aR p):zj p:=h.sh.jj
theorem aR.len {p:qC} (h:aR p):p.length<=7:=h.sh.len.2
theorem JK (gl) (p:qC) (b:Nat) (k:qX) (hk:p[b]?=some k) (hP:aR p):qM prog gl 216 [jB p,iv b] (λr y H'=>y=.hs r 1 0 (qx p b).length/\H' r=some (.row 1 (qj (qx p b)))):=by
 have hs:=hP.br;have hh:=hP.jj;have hl7:=hP.len;obtain⟨qy,hbE⟩:=gS hk;have hka:j9 p b=k.kind:=fP;have hcl:=cT (p:=p) (b:=b);refine qM.q9 func216 [.tmp 4] ntmps216 λC w g root=>?_
 cases hkd:(k.kind==1)
 .have hc:qx p b=[]:=by
   have:¬ k.kind=1:=gh;simp [qx,hka,this]
  rw [hc];have fx:=qd;have d1:=sJ gl p b k hk hs hh hl7;refine qK ?_;clear fx d1;refine zQ (λn st=>n=0/\st.tm 1=iv b/\st.tm 2=.pt (.s 2) 0/\st.hp (.s 2)=some (.row 1 [[jc p]])/\st.tm 7=iv 0/\st.tm 5=.hs (.s 5) 1 0 0/\st.hp (.s 5)=some (.row 1 [])) 0 ?_ ?_
  .exact⟨rfl,qB⟩
  rintro n st - - ⟨rfl,h1,h2,hp2,h7,h5,hp5⟩;refine qJ ?_<|y8 h1 h2 hp2 h7 h5 hp5 hk hbE hkd<|qy;exact y7 (t:=4) B7 B7 qB
 have hc:qx p b=ja (kU p b) 8:=by
  have:k.kind=1:=gh;simp [qx,hka,this]
 rw [hc];have fx:=qd;have d1:=sJ gl p b k hk hs hh hl7;refine qK ?_;clear fx d1;refine zQ (λn st=>∃ x:Nat,n=8 - x/\x<=8/\st.tm 1=iv b/\st.tm 2=.pt (.s 2) 0/\st.hp (.s 2)=some (.row 1 [[jc p]])/\st.tm 7=iv x/\st.tm 6=.hs (.s 6) 1 0 (qY p b).length/\st.hp (.s 6)=some (.row 1 (qj (qY p b)))/\st.tm 5=.hs (.s 5) 1 0 (ja (kU p b) x).length/\st.hp (.s 5)=some (.row 1 (qj (ja (kU p b) x)))) 8 ?_ ?_
 .exact⟨0,qA,qA,qB,qB,qB,qB,qB,qB,by simp [ja],by simp [ja]⟩
 rintro n st - - ⟨x,rfl,hx,h1,h2,hp2,h7,h6,hp6,h5,hp5⟩;have hll:=Fb (f:=kU p b) x;by_cases hlt:x<8
 .have hx7:(x:Int)<=7:=qA;have hfi:kU p b x=(uA b k x&&!decide ((x:Int)∈qY p b)):=by simp only [kU,hk]
  have hnext:ja (kU p b) (x+1)=if kU p b x=true then ja (kU p b) x++[(x:Int)] else ja (kU p b) x:=rfl
  generalize hL:ja (kU p b) x=L at h5 hp5 hnext hll
  cases hlo:uA b k x
  .rw [if_neg (by rw [hfi,hlo];simp)] at hnext
   all_goals have fx:=qh h1 h2 hp2 h7 h6 hp6 h5 hp5 hk hbE hkd qy<|aI hx7<|hlo
   repeat' (first|refine zm ?_|refine λ(K:St->Prop) hK=>?_|refine zH (hF:=xp _ p b k x hk (hs.ko hk)) (h:=?_))
   all_goals try clear fx
   exact⟨8 - (x+1),qA,x+1,rfl,qA,zl,ya,yw,EE,vt,mf,xQ,Bd⟩
  cases hce:decide ((x:Int)∈qY p b)
  rotate_left
  .rw [if_neg (by rw [hfi,hlo,hce];decide)] at hnext
   all_goals have fx:=qh h1 h2 hp2 h7 h6 hp6 h5 hp5 hk hbE hkd qy<|qk hx7 hlo<|hce
   repeat' (first|refine zm ?_|refine λ(K:St->Prop) hK=>?_|refine zH (hF:=xp _ p b k x hk (hs.ko hk)) (h:=?_)|refine zH (hF:=pK _ _ _ (ur cT qe)) (h:=?_))
   all_goals try clear fx
   exact⟨8 - (x+1),qA,x+1,rfl,qA,zl,ya,yw,EE,vt,mf,xQ,Bd⟩
  .rw [if_pos (by rw [hfi,hlo,hce];rfl)] at hnext
   all_goals have fx:=qh h1 h2 hp2 h7 h6 hp6 h5 hp5 hk hbE hkd qy<|qk hx7 hlo<|hce
   repeat' (first
    | refine wV ?_|refine bN ?_|refine af ?_|refine ae λK hK=>?_
    | ((with_reducible refine uz hK ?_);clear hK K)
    | (with_reducible first|refine wT ?_)
    | (with_reducible refine wB ?_)
    | ((with_reducible refine lL ?_);refine lp (h:=?_))
    | (with_reducible first|refine lM ?_|refine ag (h:=?_)|refine bP (T:=38) (h:=?_)|refine dI (h:=?_))
    | ((with_reducible refine cj 125 rfl ?_);refine zH (hF:=xp _ p b k x hk (hs.ko hk)) (h:=?_))
    | ((with_reducible refine cj 82 rfl ?_);refine zH (hF:=pK _ _ _ (ur cT qe)) (h:=?_))
    | (with_reducible refine we (h:=?_))
    | refine bz (h1:=?_)
    | fail)
   all_goals try clear fx
   refine⟨8 - (x+1),qA,x+1,rfl,qA,zl,ya,yw,EE,vt,mf,xQ,?_⟩;rw [hnext];simp [hp5,qj]
 .have hge:x=8:=qA;subst hge;refine qJ ?_<|y8 h1 h2 hp2 h7 h5 hp5 hk hbE hkd<|qy;exact y7 (t:=4) B7 B7 qB
theorem Ic (gl) (p:qC) (b:Nat) (k:qX) (x:Int) (hk:p[b]?=some k) (hP:aR p):qM prog gl 177 [jB p,iv b,iv x] (λ_ y _=>y=iv (bb p b x)):=by
 have hs:=hP.br;have hh:=hP.jj;have hl7:=hP.len;have qy:=(gS hk).1;have hcl:=cT (p:=p) (b:=b);have hfl:=fg (p:=p) (b:=b);have hbd:=CX (xs:=zZ p b) (x:=x);have hw:IntKind.i64.wrap (((qY p b).length:Int)+yj (zZ p b) x)=(qY p b).length+yj (zZ p b) x:=qm qA qA;refine qM.q9 func177 [.tmp 6] ntmps177 λC w g root=>?_;by_cases hm:x∈qY p b
 .have h0:0<=yj (qY p b) x:=l9.2 hm
  all_goals have fx:= h0
  repeat' (first|refine zm ?_|refine λ(K:St->Prop) hK=>?_|refine wW (hF:=sJ _ p b k hk hs hh hl7) (h:=?_)|refine zH (hF:=nP _ (qY p b) _ qA) (h:=?_))
  all_goals try clear fx
  refine qF [] .nil qE ?_;simp [bb,hm]
 .have h0:¬ 0<=yj (qY p b) x:=λh=>hm (l9.1 h)
  all_goals have fx:=aI h0<|hw
  repeat' (first|refine zm ?_|refine λ(K:St->Prop) hK=>?_|refine wW (hF:=sJ _ p b k hk hs hh hl7) (h:=?_)|refine wW (hF:=Ek _ p b qy hs hh hl7) (h:=?_)|refine zH (hF:=nP _ (qY p b) _ qA) (h:=?_)|refine zH (hF:=nP _ (zZ p b) _ qA) (h:=?_))
  all_goals try clear fx
  refine qF [] .nil qE ?_;simp [bb,hm]
theorem Cj (gl) (p:qC) (b:Nat) (k:qX) (x:Int) (hk:p[b]?=some k) (hP:aR p):qM prog gl 241 [jB p,iv b,iv x] (λ_ y _=>y=iv (j5 p b x)):=by
 have hs:=hP.br;have hh:=hP.jj;have hl7:=hP.len;obtain⟨qy,hbE⟩:=gS hk;have hka:j9 p b=k.kind:=fP;refine qM.q9 func241 [.tmp 6] ntmps241 λC w g root=>?_
 cases ho:decide (zI p b x<0)
 rotate_left
 .skip
  have fx:= ho;have c1:=eW gl p b k x hk hs hh;refine qK ?_;clear fx c1;refine qF [] .nil qE ?_;have ho':zI p b x<0:=by simpa using ho
  simp [j5,ho']
 cases hb:(zI p b x==(b:Int))
 .skip
  have fx:=qk ho hb<|@qz;have c1:=eW gl p b k x hk hs hh;refine qK ?_;clear fx c1;refine qF [] .nil qE ?_;have ho':¬ zI p b x<0:=by simpa using ho
  have hb':¬ zI p b x=b:=by simpa using hb
  simp only [j5,if_neg ho',if_pos hb']
  rfl
 have hb':zI p b x=b:=by simpa using hb
 have hnl:¬ zI p b x<0:=qA;have hnn:¬ zI p b x≠b:=λh=>h hb'
 cases hkd:(k.kind==2)
 rotate_left
 .skip
  have fx:=jI ho hb @qz hk hbE qy<|hkd;have c1:=eW gl p b k x hk hs hh;refine qK ?_;clear fx c1;refine qF [] .nil qE ?_;have hkd':k.kind=2:=gh;simp only [j5,if_neg hnl,if_neg hnn,hka,if_pos hkd']
  rfl
 have hkd':¬ k.kind=2:=gh
 cases hce:decide (x∈qY p b)
 all_goals
  all_goals have fx:=jN ho hb @qz hk hbE qy hkd<|hce
  repeat' (first|refine zm ?_|refine λ(K:St->Prop) hK=>?_|refine zH (hF:=eW _ p b k x hk hs hh) (h:=?_)|refine wW (hF:=sJ _ p b k hk hs hh hl7) (h:=?_)|refine zH (hF:=pK _ _ _ (ur cT qe)) (h:=?_))
  all_goals try clear fx
  refine qF [] .nil qE ?_;simp at hce;simp only [j5,if_neg hnl,if_neg hnn,hka,if_neg hkd',hce]
  rfl
theorem FQ (gl) (p:qC) (b:Nat) (k:qX) (x w:Int) (hk:p[b]?=some k) (hP:aR p) (hw0:0<=w) (hw2:w<=2):qM prog gl 236 [jB p,iv b,iv x,iv w] (λ_ y _=>y=.agg [iv (jy p b x w).1,iv (jy p b x w).2]):=by
 have hw8:IntKind.i64.wrap (8+w)=8+w:=qm qA qA;have hw11:IntKind.i64.wrap (11+w)=11+w:=qm qA qA;have hw22:IntKind.i64.wrap (2+w)=2+w:=qm qA qA;have hw5:IntKind.i64.wrap (5+w)=5+w:=qm qA qA;refine qM.q9 func236 [.cell 8 207] ntmps236 λC w g root=>?_
 cases h0:(j5 p b x==0)
 rotate_left
 .have h0':j5 p b x=0:=by simpa using h0
  have fx:=aI h0<|hw8;have c1:=Cj gl p b k x hk hP;refine qK ?_;clear fx c1;refine qF [] .nil qE ?_;simp [jy,h0']
 have h0':¬ j5 p b x=0:=by simpa using h0
 cases h2:(j5 p b x==2)
 rotate_left
 .have h2':j5 p b x=2:=mb;have fx:=qk h0 h2<|hw11;have c1:=Cj gl p b k x hk hP;refine qK ?_;clear fx c1;refine qF [] .nil qE ?_;simp [jy,h2']
 have h2':¬ j5 p b x=2:=mb
 cases h4:(j5 p b x==4)
 rotate_left
 .have h4':j5 p b x=4:=by simpa using h4
  all_goals have fx:=zD h0 h2 h4<|hw22
  repeat' (first|refine zm ?_|refine λ(K:St->Prop) hK=>?_|refine zH (hF:=Cj _ p b k x hk hP) (h:=?_)|refine wW (hF:=JK _ p b k hk hP) (h:=?_)|refine zH (hF:=nP _ (qx p b) _ (ur pD qe)) (h:=?_))
  all_goals try clear fx
  refine qF [] .nil qE ?_;simp [jy,h4']
 have h4':¬ j5 p b x=4:=by simpa using h4
 have fx:=zD h0 h2 h4<|hw5;have c1:=Cj gl p b k x hk hP;have c2:=Ic gl p b k x hk hP;refine qK ?_;clear fx c1 c2;refine qF [] .nil qE ?_;simp only [jy,if_neg h0',if_neg h2',if_neg h4']
 rfl
abbrev Fj:qV:=a7<|.l 7 [0]<|.l 8 [0]<|.l 9 []<|.l 10 []<|.done
theorem KF {k:Int} (h:0<=k/\k<=11):k=0\/k=1\/k=2\/k=3\/k=4\/k=5\/k=6\/k=7\/k=8\/k=9\/k=10\/k=11:=qA
abbrev bo (p:qC) (b:Nat) (s:q8) (i:Nat):List (Int×Int):=(0,0)::(s.reads.take i).map λx=>jy p b x 0
theorem L7 {p:qC} {b:Nat} {s:q8} {i:Nat} {u:Int} (h:s.reads[i]?=some u):bo p b s (i+1)=bo p b s i++[jy p b u 0]:=by
 simp [bo,uG,h]
theorem NI {p:qC} {b:Nat} {s:q8}:kM p b s=bo p b s s.reads.length++(vP s++vY p b s):=by simp [kM,bo,ui]
theorem Zb (gl) (p:qC) (b:Nat) (k:qX) (s:q8) (hk:p[b]?=some k) (hP:aR p) (hkd:0<=s.kind/\s.kind<=11):qM prog gl 218 [jB p,iv b,s.av] (λr y H'=>y=.hs r 2 0 (kM p b s).length/\H' r=some (.row 2 (vk (kM p b s)))):=by
 have hrl:=s.iM;rw [NI];refine qM.q9 func218 [.tmp 6] ntmps218 λC w g root=>?_;have fx:=qd;have d1:=CZ gl s;refine qK ?_
 repeat ((first|refine qQ (id:=6) Fj mixed ?_);refine zK ?_;refine qK ?_)
 clear fx d1;refine zQ (λn st=>∃ i:Nat,n=s.reads.length - i/\i<=s.reads.length/\st.tm 1=iv b/\st.tm 3=.pt (.s 3) 0/\st.hp (.s 3)=some (.row 1 [[jc p]])/\st.tm 5=.pt (.s 5) 0/\st.hp (.s 5)=some (.row 4 [s.cells])/\st.tm 8=.hs (.s 8) 1 0 s.reads.length/\st.hp (.s 8)=some (.row 1 (qj s.reads))/\st.tm 9=iv i/\st.tm 7=.hs (.s 7) 2 0 (bo p b s i).length/\st.hp (.s 7)=some (.row 2 (vk (bo p b s i)))) s.reads.length ?_ ?_
 .exact⟨0,qA,qA,qB,qB,qB,qB,qB,qB,qB,qB,qB,gm⟩
 rintro n st - - ⟨i,rfl,hi,h1,h3,hp3,h5,hp5,h8,hp8,h9,h7,hp7⟩;have hll:(bo p b s i).length<=10:=qu;by_cases hil:i<s.reads.length
 .obtain⟨u,hu⟩:=gX hil;obtain⟨_,huE⟩:=gS hu;have hnx:=L7 (p:=p) (b:=b) hu;generalize hL:bo p b s i=L at h7 hp7 hnx hll;have fx:=qh h1 h3 hp3 h5 hp5 h8 hp8 h9 h7 hp7 hu huE<|aI hil<|hll;have c1:=FQ gl p b k u 0 hk hP qe qe;refine qK ?_
  repeat ((first|refine qQ (id:=6) Fj mixed ?_);refine zK ?_;refine qK ?_)
  clear fx c1;refine⟨s.reads.length - (i+1),qA,i+1,rfl,qA,zl,uT,ma,yH,wt,by simp [h8],by simp [hp8],jM,by simp [hnx],?_⟩;rw [hnx];simp [AK]
 .have hge:i=s.reads.length:=qA;rw [hge] at h7 hp7 hll;generalize hL:bo p b s s.reads.length=L at h7 hp7 hll;have hw5:s.kind=5->IntKind.i64.wrap ((s.reads.length:Int) - 1)=(s.reads.length:Int) - 1:=λ_=>qm qA qA;obtain⟨kd,to,a,c⟩:=s;simp only at hkd hw5;rcases KF hkd with rfl|rfl|rfl|rfl|rfl|rfl|rfl|rfl|rfl|rfl|rfl|rfl
  all_goals
   have fx:=qh h1 h3 hp3 h5 hp5 h8 hp8 h9 h7 hp7 hil hge<|aI hll<|hw5;have c1:=FQ gl p b k to 1 hk hP qe qe;have c2:=FQ gl p b k to 2 hk hP qe qe;refine qK ?_
   repeat ((first|refine qQ (id:=6) Fj mixed ?_);refine zK ?_;refine qK ?_)
   clear fx c1 c2;refine y7 (t:=6) ?_ ?_ ?_
   all_goals simp [vP,vY,AK,gW,yG,h7,hp7]
abbrev Fk:qV:=aK<|.q 13<|.q 14<|.q 16<|.q 17<|.q 19<|.q 20<|.l2 12 [20,19,17,16,14,13,6,5,4,3,2,1,0] (.l2 15 [20,19,17,16,6,5,4,3,2,1,0] (.l2 18 [20,19,6,5,4,3,2,1,0] (.l2 21 [6,5,4,3,2,1,0] (.q 22<|.l 23 [22,6,5,4,3,2,1,0]<|.l 24 []<|.done) 23 [20,19,6,5,4,3,2,1,0] (.l 21 [6,5,4,3,2,1,0]<|.q 22<|.l 24 []<|.done)) 23 [20,19,17,16,6,5,4,3,2,1,0] (.l 18 [20,19,6,5,4,3,2,1,0]<|.l 21 [6,5,4,3,2,1,0]<|.q 22<|.l 24 []<|.done)) 23 [20,19,17,16,14,13,6,5,4,3,2,1,0] (.l 15 [20,19,17,16,6,5,4,3,2,1,0]<|.l 18 [20,19,6,5,4,3,2,1,0]<|.l 21 [6,5,4,3,2,1,0]<|.q 22<|.l 24 []<|.done)) 23 [20,19,17,16,14,13,11,10,9,8,7,6,5,4,3,2,1,0] (.l 12 [20,19,17,16,14,13,6,5,4,3,2,1,0]<|.l 15 [20,19,17,16,6,5,4,3,2,1,0]<|.l 18 [20,19,6,5,4,3,2,1,0]<|.l 21 [6,5,4,3,2,1,0]<|.q 22<|.l 24 []<|.done)
abbrev Fl:qV:=tD<|.l 13 [7,6,5,4,1,0]<|.l 14 [7,6,5,4]<|.q 15<|.l 16 []<|.done
theorem Z8 (gl) (p:qC) (b:Nat) (k:qX) (hk:p[b]?=some k) (hP:aR p):qM prog gl 175 [jB p,iv b] (λr y H'=>y=.agg ((zO p b).own r 0)/\dO H' r 0 (zO p b)):=by
 have hs:=hP.br;have hh:=hP.jj;have hl7:=hP.len;have hkm:=gM hk;obtain⟨qy,hbE⟩:=gS hk;have hk12:=hP.sh.body k hkm;have hkinds:=(hP.sh.names k hkm).kinds;obtain⟨hpl,_⟩:=hs.ko hk;have hcode:zO p b=⟨k.kind,k.params,qx p b,qY p b,zZ p b,vr p b k.body⟩:=by simp [zO,zR,hk]
 rw [hcode];refine qM.q9 func175 [.cell 4 198] ntmps175 λC w g root=>?_;have fx:=qk hk hbE<|qy;have d1:=Im gl k.params qA;have d2:=JK gl p b k hk hP;have d3:=sJ gl p b k hk hs hh hl7;have d4:=Ek gl p b qy hs hh hl7;refine qK ?_
 first|refine qQ (id:=1) Fk mixed ?_|refine qQ (id:=5) Fl mixed ?_
 refine Jz (λst=>st.tm 1=iv b/\st.tm 2=.pt (.s 2) 0/\st.hp (.s 2)=some (.row 1 [[jc p]])/\st.tm 6=iv 0/\st.tm 5=.pt (.s 5) 0/\st.tm 4=.pt (.s 4) 0/\st.hp (.s 4)=some (.row 6 [fo.own (.s 4) 0])/\st.hp (.s 5)=some (.row 6 [ym.own (.s 5) 0 ⟨k.kind,k.params,qx p b,qY p b,zZ p b,[]⟩])/\st.hp (.c (.s 5) 0 1)=some (.row 1 (qj k.params))/\st.hp (.c (.s 5) 0 2)=some (.row 1 (qj (qx p b)))/\st.hp (.c (.s 5) 0 3)=some (.row 1 (qj (qY p b)))/\st.hp (.c (.s 5) 0 4)=some (.row 1 (qj (zZ p b)))/\st.hp (.c (.s 5) 0 5)=some (.row 2 [])) ?_;clear fx d1 d2 d3 d4;rintro st ⟨h1,h2,hp2,h6,h5,h4,hp4,hp5,q1,q2,q3,q4,q5⟩;refine zQ (λn st=>∃ i:Nat,n=k.body.length - i/\i<=k.body.length/\st.tm 1=iv b/\st.tm 2=.pt (.s 2) 0/\st.hp (.s 2)=some (.row 1 [[jc p]])/\st.tm 6=iv i/\st.tm 5=.pt (.s 5) 0/\st.tm 4=.pt (.s 4) 0/\st.hp (.s 4)=some (.row 6 [fo.own (.s 4) 0])/\∃ c:ym,c=⟨k.kind,k.params,qx p b,qY p b,zZ p b,vr p b (k.body.take i)⟩/\st.hp (.s 5)=some (.row 6 [c.own (.s 5) 0])/\dO st.hp (.s 5) 0 c) k.body.length ?_ ?_
 .refine⟨0,qA,qA,h1,h2,hp2,h6,h5,h4,hp4,_,rfl,?_,⟨?_,?_,?_,?_,?_⟩⟩
  all_goals simp [vr,hp5,q1,q2,q3,q4,q5]
 clear h1 h2 hp2 h6 h5 h4 hp4 hp5 q1 q2 q3 q4 q5;rintro n st - - ⟨i,rfl,hi,h1,h2,hp2,h6,h5,h4,hp4,c,hc,hp5,⟨o1,o2,o3,o4,o5⟩⟩;have hll:=D2 (p:=p) (b:=b) (k.body.take i);rw [im] at hll;by_cases hil:i<k.body.length
 .obtain⟨s,hss⟩:=gX hil;obtain⟨_,hsE⟩:=gS hss;have hnx:=Hr (p:=p) (b:=b) hss;have hsl:=G8 (p:=p) (b:=b) (s:=s);generalize hL:vr p b (k.body.take i)=L at hc hnx hll;subst hc;simp only [ym.AN] at hp5 o1 o2 o3 o4 o5;have fx:=qh h1 h2 hp2 h6 h5 hp5 o1 o2 o3 o4 o5 hk<|jI hbE qy hss hsE hil hll<|hsl;have d1:=Zb gl p b k s hk hP (hkinds s (gM hss));refine qK ?_
  repeat ((first|refine qQ (id:=1) Fk mixed ?_|refine qQ (id:=5) Fl mixed ?_);refine zK ?_;refine qK ?_)
  clear fx d1;refine⟨k.body.length - (i+1),qA,i+1,rfl,qA,zl,ya,yw,jM,yH,wv,wu,_,rfl,?_,⟨?_,?_,?_,?_,?_⟩⟩
  all_goals simp [hnx,o1,o2,o3,o4,o5,hp5]
 .have hge:i=k.body.length:=qA;subst hge;rw [kC] at hc;subst hc;simp only [ym.AN] at hp5 o1 o2 o3 o4 o5;have fx:=qh h1 h2 hp2 h6 h5 h4 hp4 hp5 o1 o2 o3 o4<|zN o5 hk hbE qy<|hil;refine qK ?_
  repeat ((first|refine qQ (id:=1) Fk mixed ?_|refine qQ (id:=5) Fl mixed ?_);refine zK ?_;refine qK ?_)
  clear fx;refine qF [(.s 5,root)] (.one rfl) BP ⟨?_,⟨?_,?_,?_,?_,?_⟩⟩
  all_goals simp [h4,o1,o2,o3,o4,o5]
theorem Z7 (gl) (p:qC) (hP:aR p):qM prog gl 128 [jB p] (λr y H'=>y=.hs r 6 0 (jb p p.length).length/\tY H' r (jb p p.length)):=by
 have hl7:=hP.len;refine qM.q9 func128 [.tmp 2] ntmps128 λC w g root=>?_;refine qJ ?_<|qd;refine zQ (λn st=>∃ i:Nat,n=p.length - i/\i<=p.length/\st.tm 1=.pt (.s 1) 0/\st.hp (.s 1)=some (.row 1 [[jc p]])/\st.tm 4=iv i/\∃ cs:List ym,cs=jb p i/\cs.length=i/\st.tm 3=.hs (.s 3) 6 0 cs.length/\tY st.hp (.s 3) cs) p.length ?_ ?_
 .refine⟨0,qA,qA,qB,qB,qB,[],qB,rfl,qB,⟨qB,λi c h=>by simp at h⟩⟩
 rintro n st - - ⟨i,rfl,hi,h1,hp1,h4,cs,hcs,hcl,h3,⟨ht,he⟩⟩;by_cases hil:i<p.length
 .obtain⟨k,hk⟩:=gX hil;have hnx:=Il (p:=p) (n:=i);have hcc:=Z8 gl p i k hk hP;rw [<- hcs] at hnx;generalize hC:zO p i=c at hcc hnx;have hcl7:cs.length<=7:=qA;have fx:=zD h1 hp1 h4<|hil;have e1:=hcc;refine qK ?_;clear fx e1;rintro K hK y H' ⟨rfl,hO⟩;obtain⟨o1,o2,o3,o4,o5⟩:=hO.vh;refine⟨qB,?_⟩;refine qJ ?_<|jS h1 hp1 h4 h3 ht hcl7 o1 o2 o3 o4<|o5;refine⟨p.length - (i+1),qA,i+1,rfl,qA,zl,uS,by simp [h4];exact qm qA qA,cs++[c],hnx.symm,by simp [hcl],qB,⟨?_,λj d hj=>?_⟩⟩
  .simp [ht,KA]
  .rcases du j cs.length with hlj|hgj
   .rw [ub hlj] at hj;have hne:¬ j=cs.length:=qA;obtain⟨e1,e2,e3,e4,e5⟩:=he j d hj;exact⟨by simp [hne,e1],by simp [hne,e2],by simp [hne,e3],by simp [hne,e4],by simp [hne,e5]⟩
   .rw [cG hgj] at hj
    obtain rfl:j=cs.length:=by
     have:=(gS hj).1;simp at this;omega
    simp at hj;subst hj;exact⟨by simp [o1],by simp [o2],by simp [o3],by simp [o4],by simp [o5]⟩
 .have hge:i=p.length:=qA;subst hge;subst hcs;refine qJ ?_<|jH h1 hp1 h4 hil h3<|ht;refine qF [(.s 2,root)] (.one rfl) qE ⟨qB,⟨by simp [ht,sV (n:=.s 2) (m:=root) (f:=zL zn [(.s 2,root)]) qB],λj d hj=>?_⟩⟩;obtain⟨e1,e2,e3,e4,e5⟩:=he j d hj;exact⟨by simp [e1],by simp [e2],by simp [e3],by simp [e4],by simp [e5]⟩
end Go.Proofs.YtjgpejikjhojcaaGreatDoor
end
