import Derived.Test.YtjgpejikjhojcaaGreatDoorD38
set_option linter.all false
set_option maxRecDepth 100000
set_option maxHeartbeats 4000000
open Option renaming some->Z,none->Y
open Bool renaming true->B,false->M
open List renaming length->O

section
namespace Go.Proofs.YtjgpejikjhojcaaGreatDoor
open Go Go.Hm Go.Proofs Tryz
variable{p:qC}
def qBW(h:zw p){i:Nat}{k:qY}(hk:p[i]?=Z k):k.kind=0\/k.kind=1\/k.kind=2:=by
 have:=h.head i k hk;unfold ul at this
 split at this<;>omega
def qBk{l:List Int}:sorted (sorted l)=sorted l:=IX λx hx=>by
 rw[Go.Hm.mem_sorted];exact⟨λh=>h.1,λh=>⟨h,qA,qA⟩⟩
def PC{b:Nat}:sorted (qa p b)=qa p b:=by
 unfold qa
 split
 .exact qBk
 .rfl
def Xj{xs:List Int}{x:Int}:(yz xs x == -1)=!decide (x∈xs):=by
 have h1:=nD (xs:=xs) (x:=x);have h2:=EB (xs:=xs) (x:=x);by_cases h:x∈xs
 .have:=h1.2 h;simp[h];omega
 .have:¬0<=yz xs x:=λe=>h (h1.1 e);simp[h];omega
def LJ(gl)(p:qC)(hp:zw p)(b:Nat)(k:qY)(hk:p[b]?=Z k)(hk1:k.kind=1):qL prog gl 160 [uI p,iv b] (λr y H'=>y=.hs r 1 0 (O (zB p b))/\H' r=Z (.row 1 (qh (zB p b)))):=by
 have hh:=hp.jK;have hl7:=hp.len;obtain⟨qv,hbE⟩:=gS hk;have hka:jk p b=k.kind:=iF;have hsg:=sF (p:=p) qv;rw[eH hh hk]at hsg;obtain⟨_,hse⟩:=gS hsg
 have hc:zB p b=sorted (jl (kz p b) 8):=by
  rw[qBl];simp[zB,hka,hk1]
 have hkd:(k.kind==1)=B:=Ck;rw[hc];refine qL.q9 func160 [.tmp 4] ntmps160 λC w g root=>?_;have fx:=zJ hsg hse hkd qv<|@zA;have c1:=Az gl p hp b k hk;refine qK ?_;clear fx c1;refine zK (λn st=>∃x:Nat,n=8-x/\x<=8/\st.tm 0=uI p/\st.tm 1=iv b/\st.tm 5=.pt (.s 5) 0/\st.hp (.s 5)=Z (.row 8 [z8 (jl (kz p b) x)])/\st.tm 6=.pt (.s 6) 0/\st.hp (.s 6)=Z (.row 8 [z8 (qa p b)])/\st.tm 19=iv x) 8 ?_ ?_
 .exact⟨0,qA,qA,qB,qB,qB,qD,qB,qB,qB⟩
 rintro n st - - ⟨x,rfl,hx,h0,h1,h5,hp5,h6,hp6,h19⟩;by_cases hx8:x<8
 .have hx8':(x:Int)<8:=qA;have hfi:kz p b x=(uW b k x&&!decide ((x:Int)∈qa p b)):=by simp only[kz,hk]
  have hn2:=H7 (f:=kz p b) (n:=x)
  have hno:(x:Int)∉jl (kz p b) x:=λh=>by
   rw[xb]at h;omega
  have hbg:=A1 (l:=qa p b) hx8;obtain⟨hbgl,hbgE⟩:=gS hbg;generalize hL:jl (kz p b) x=L at hp5 hn2 hno
  cases hlo:uW b k x
  .rw [if_neg (by rw[hfi,hlo];simp)]at hn2
   all_goals have fx:=qg h0 h1 h5 hp5 h6 hp6 h19 hx8 hx8' hsg hse qv<|hlo
   repeat'(first|refine zf ?_|refine λ(K:St->Prop)hK=>?_|refine zL (hF:=Gw _ p hp b k hk x hx8) (h:=?_))
   all_goals try clear fx
   exact⟨8-(x+1),qA,x+1,rfl,qA,yL,zY,jh,by simp[hn2,KB hx8 hno],vZ,dU,zr⟩
  cases hce:decide ((x:Int)∈qa p b)
  rotate_left
  .rw [if_neg (by rw[hfi,hlo,hce];decide)]at hn2
   all_goals have fx:=qg h0 h1 h5 hp5 h6 hp6 h19 hx8 hx8' hsg hse qv<|zJ hlo hbg hbgE hbgl<|hce
   repeat'(first|refine zf ?_|refine λ(K:St->Prop)hK=>?_|refine zL (hF:=Gw _ p hp b k hk x hx8) (h:=?_))
   all_goals try clear fx
   exact⟨8-(x+1),qA,x+1,rfl,qA,yL,zY,jh,by simp[hn2,KB hx8 hno],vZ,dU,zr⟩
  .rw [if_pos (by rw[hfi,hlo,hce];rfl)]at hn2
   all_goals have fx:=qg h0 h1 h5 hp5 h6 hp6 h19 hx8 hx8' hsg hse qv<|zJ hlo hbg hbgE hbgl<|hce
   repeat'(first|refine zf ?_|refine λ(K:St->Prop)hK=>?_|refine zL (hF:=Gw _ p hp b k hk x hx8) (h:=?_))
   all_goals try clear fx
   refine⟨8-(x+1),qA,x+1,rfl,qA,yL,zY,jh,?_,vZ,dU,zr⟩;rw[hn2];simp[<- oL (l:=L) (y:=(x:Int)) rfl hx8]
 .have hge:x=8:=qA;subst hge;have fx:=ql h5 hp5<|h19;have d1:=Dm gl (jl (kz p b) 8);refine qK ?_;clear fx d1;exact yg (t:=4) ji ji qB
def Gc(gl)(p:qC)(hp:zw p)(b:Nat)(k:qY)(hk:p[b]?=Z k)(x:Nat)(hx:x<8):qL prog gl 115 [uI p,iv b,iv x] (λ_ y _=>y=iv (cn p b x)):=by
 have qv:=(gS hk).1;have hcl:=da (p:=p) (b:=b);have hfl:=iL (p:=p) (b:=b);have hbd:=EB (xs:=za p b) (x:=(x:Int));have hw:IntKind.i64.wrap ((O (qa p b):Int)+yz (za p b) x)=O (qa p b)+yz (za p b) x:=qk qA qA;have hli:=Dm gl (qa p b);rw[PC]at hli;have hpn:=Xj (xs:=qa p b) (x:=(x:Int));refine qL.q9 func115 [.tmp 6] ntmps115 λC w g root=>?_;by_cases hm:(x:Int)∈qa p b
 .have hpn':(yz (qa p b) x == -1)=M:=by rw[hpn];simp[hm]
  all_goals have fx:=aI hpn'<|@zA
  repeat'(first|refine zf ?_|refine λ(K:St->Prop)hK=>?_|refine zL (hF:=Az _ p hp b k hk) (h:=?_)|refine w8 (hF:=hli) (h:=?_)|refine zL (hF:=xk _ (qa p b) _ qA) (h:=?_))
  all_goals try clear fx
  refine qE [] .nil qD ?_;simp[cn,hm]
 .have hpn':(yz (qa p b) x == -1)=B:=by rw[hpn];simp[hm]
  all_goals have fx:=ql hpn' hw<|@zA
  repeat'(first|refine zf ?_|refine λ(K:St->Prop)hK=>?_|refine zL (hF:=Az _ p hp b k hk) (h:=?_)|refine w8 (hF:=hli) (h:=?_)|refine zL (hF:=xk _ (qa p b) _ qA) (h:=?_)|refine w8 (hF:=G6 _ p hp b qv) (h:=?_)|refine zL (hF:=xk _ (za p b) _ qA) (h:=?_))
  all_goals try clear fx
  refine qE [] .nil qD ?_;simp[cn,hm]
def CH(gl)(p:qC)(hp:zw p)(b:Nat)(k:qY)(hk:p[b]?=Z k)(x:Nat)(hx:x<8):qL prog gl 234 [uI p,iv b,iv x] (λ_ y _=>y=iv (jc p b x)):=by
 have hh:=hp.jK;have hl7:=hp.len;obtain⟨qv,hbE⟩:=gS hk;have hka:jk p b=k.kind:=iF;have hsg:=sF (p:=p) qv;rw[eH hh hk]at hsg;obtain⟨_,hse⟩:=gS hsg;have hop:=nA (p:=p) (c:=b) (x:=(x:Int));have hx8:(x:Int)<8:=qA;refine qL.q9 func234 [.tmp 6] ntmps234 λC w g root=>?_
 cases ho:(zN p b x == -1)
 rotate_left
 .skip
  have fx:=qz hsg hse qv<|ho;have c1:=eJ gl p hp b k hk x hx;refine qK ?_;clear fx c1;refine qE [] .nil qD ?_;have ho':zN p b x=-1:=by simpa using ho
  simp[jc,ho']
 have hno:¬zN p b x=-1:=by simpa using ho
 have hnl:¬zN p b x<0:=qA
 cases hb:(zN p b x==(b:Int))
 .skip
  have fx:=zx hsg hse qv ho hb<|@zA;have c1:=eJ gl p hp b k hk x hx;refine qK ?_;clear fx c1;refine qE [] .nil qD ?_;have hb':¬zN p b x=b:=by simpa using hb
  simp only[jc,if_neg hnl,if_pos hb']
  rfl
 have hb':zN p b x=b:=by simpa using hb
 have hnn:¬zN p b x≠b:=λh=>h hb'
 cases hkd:(k.kind==2)
 rotate_left
 .skip
  have fx:=zy hsg hse qv ho hb @zA<|hkd;have c1:=eJ gl p hp b k hk x hx;refine qK ?_;clear fx c1;refine qE [] .nil qD ?_;have hkd':k.kind=2:=lI;simp only[jc,if_neg hnl,if_neg hnn,hka,if_pos hkd']
  rfl
 have hkd':¬k.kind=2:=lI;have hbg:=A1 (l:=qa p b) hx;obtain⟨hbgl,hbgE⟩:=gS hbg
 cases hce:decide ((x:Int)∈qa p b)
 all_goals
  have fx:=qg hsg hse qv ho hb @zA hkd hbg hbgE hbgl hx hx8<|hce;have c1:=eJ gl p hp b k hk x hx;have c2:=Az gl p hp b k hk;refine qK ?_;clear fx c1 c2;refine qE [] .nil qD ?_;simp at hce;simp only[jc,if_neg hnl,if_neg hnn,hka,if_neg hkd',hce]
  rfl
abbrev iJ:List AV:=[iv 8,iv 5,iv 11,iv 5,iv 2]
def Ew(gl:Nat->Option (List AV))(hgl:gl 4=Z iJ)(p:qC)(hp:zw p)(b:Nat)(k:qY)(hk:p[b]?=Z k)(x:Nat)(hx:x<8)(w:Int)(hw0:0<=w)(hw2:w<=2):qL prog gl 207 [uI p,iv b,iv x,iv w] (λ_ y _=>y=.agg [iv (yM p b x w).1,iv (yM p b x w).2]):=by
 have hw8:IntKind.i64.wrap (8+w)=8+w:=qk qA qA;have hw11:IntKind.i64.wrap (11+w)=11+w:=qk qA qA;have hw22:IntKind.i64.wrap (2+w)=2+w:=qk qA qA;have hw5:IntKind.i64.wrap (5+w)=5+w:=qk qA qA;have hsf:=qC7 (x:=(x:Int)) hk (hp.ei hk).symm (qBW hp hk);have hfl:=rf (p:=p) (b:=b)
 have hs5:jc p b x=0\/jc p b x=1\/jc p b x=2\/jc p b x=3\/jc p b x=4:=by
  unfold jc
  split
  .simp
  .split
   .simp
   .split
    .simp
    .split<;>simp
 refine qL.q9 func207 [.cell 8 207] ntmps207 λC w g root=>?_;rcases hs5 with h|h|h|h|h
 .skip
  have fx:=ql h hgl<|hw8;have c1:=CH gl p hp b k hk x hx;refine qK ?_;clear fx c1;refine qE [] .nil qD ?_;simp[yM,h]
 .skip
  have fx:=ql h hgl<|hw5;have c1:=CH gl p hp b k hk x hx;have c2:=Gc gl p hp b k hk x hx;refine qK ?_;clear fx c1 c2;refine qE [] .nil qD ?_;simp[yM,h]
 .skip
  have fx:=ql h hgl<|hw11;have c1:=CH gl p hp b k hk x hx;refine qK ?_;clear fx c1;refine qE [] .nil qD ?_;simp[yM,h]
 .skip
  have fx:=ql h hgl<|hw5;have c1:=CH gl p hp b k hk x hx;have c2:=Gc gl p hp b k hk x hx;refine qK ?_;clear fx c1 c2;refine qE [] .nil qD ?_;simp[yM,h]
 .skip
  all_goals have fx:=ql h hgl<|hw22
  repeat'(first|refine zf ?_|refine λ(K:St->Prop)hK=>?_|refine zL (hF:=CH _ p hp b k hk x hx) (h:=?_)|refine w8 (hF:=LJ _ p hp b k hk (hsf (.inr h))) (h:=?_)|refine zL (hF:=xk _ (zB p b) _ qA) (h:=?_))
  all_goals try clear fx
  refine qE [] .nil qD ?_;simp[yM,h]
def Ir(gl)(s:qT)(hkd:0<=s.kind/\s.kind<=11):qL prog gl 208 [s.av] (λr y H'=>y=.hs r 2 0 (O (vg s))/\H' r=Z (.row 2 (uF (vg s)))):=by
 have hrl:=s.lf;have hw5:IntKind.i64.wrap ((O s.reads:Int)-1)=(O s.reads:Int)-1:=qk qA qA;obtain⟨kd,to,a,c⟩:=s;simp only at hkd;refine qL.q9 func208 [.tmp 2] ntmps208 λC w g root=>?_;rcases MI hkd with rfl|rfl|rfl|rfl|rfl|rfl|rfl|rfl|rfl|rfl|rfl|rfl
 case inr.inr.inr.inr.inr.inl=>
  have hrd:(⟨5,to,a,c⟩:qT).reads=if c=-1 then[a]else[a,c]:=by simp[qT.reads]
  rw[hrd]at hw5;have hcr:=K5 gl a c;generalize hL:(if c=-1 then[a]else[a,c])=L at hw5 hcr hrd;have fx:=hw5;have c1:=cq gl ⟨5,to,a,c⟩;have d1:=hcr;refine qK ?_;clear fx c1 d1;refine yg (t:=2) ?_ ?_ ?_
  all_goals simp[vg,uF,hrd]
 all_goals
  all_goals have fx:=qW
  repeat'(first|refine zf ?_|refine λ(K:St->Prop)hK=>?_|refine zL (hF:=cq _ ⟨_,to,a,c⟩) (h:=?_))
  all_goals try clear fx
  refine yg (t:=2) ?_ ?_ ?_
  all_goals simp[vg,uF]
def U9(gl:Nat->Option (List AV))(hgl:gl 4=Z iJ)(p:qC)(b:Nat)(k:qY)(s:qT)(hp:zw p)(hk:p[b]?=Z k)(hsm:s∈k.body):qL prog gl 163 [uI p,iv b,s.av] (λr y H'=>y=.hs r 2 0 (O (kj p b s))/\H' r=Z (.row 2 (uF (kj p b s)))):=by
 have hrl:=s.lf;have hn:=hp.names k (gM hk);have hkd:=hn.kinds s hsm;obtain⟨ht0,ht7⟩:=hn.zE s hsm;obtain⟨T,hT⟩:∃T:Nat,s.to=T:=⟨s.to.toNat,qA⟩;have hT8:T<8:=qA;have hav:s.av=.agg [iv s.kind,iv T,iv s.a,iv s.b]:=by rw[<- hT]
 rw[PS];refine qL.q9 func163 [.tmp 6] ntmps163 λC w g root=>?_
 all_goals have fx:=qW
 repeat'(first
  |refine wL ?_|refine bF ?_|refine aZ ?_|refine aY λK hK=>?_
  |((with_reducible refine uu hK ?_);clear hK K)
  |(with_reducible first|refine wK ?_|refine cD ?_|refine cO ?_|refine cC ?_|refine bE ?_|refine bU ?_|refine cE qf ?_)
  |refine cQ ?_
  |refine bG ?_
  |(with_reducible first|refine kh ?_|refine a6 (h:=?_)|refine eQ (h:=?_)|refine bh (T:=196) (h:=?_)|refine bH (T:=196) (h:=?_)|refine cR (h:=?_))
  |((with_reducible refine dB 110 rfl ?_);refine zL (hF:=cq _ s) (h:=?_))
  |(refine Iu (hF:=Hy _ qc s hkd) (h:=?_))
  |(with_reducible refine wc (h:=?_))
  |refine bi (h1:=?_)|refine cS (h1:=?_)
  |fail)
 all_goals try clear fx
 refine zK (λn st=>∃i:Nat,n=O s.reads-i/\i<=O s.reads/\st.tm 0=uI p/\st.tm 1=iv b/\st.tm 5=.pt (.s 5) 0/\st.hp (.s 5)=Z (.row 4 [s.cells])/\st.tm 14=.hs (.s 14) 1 0 (O s.reads)/\st.hp (.s 14)=Z (.row 1 (qh s.reads))/\st.tm 15=iv (O s.reads)/\st.tm 16=iv i/\st.tm 7=.hs (.s 7) 2 0 (O (dD p b s i))/\st.hp (.s 7)=Z (.row 2 (uF (dD p b s i)))) (O s.reads) ?_ ?_
 .exact⟨0,qA,qA,qB,qB,qB,qB,qB,qB,qB,qB,qB,lJ⟩
 rintro n st - - ⟨i,rfl,hi,h0,h1,h5,hp5,h14,hp14,h15,h16,h7,hp7⟩;have hll:O (dD p b s i)<=10:=qp;by_cases hil:i<O s.reads
 .obtain⟨u,hu⟩:=gX hil;obtain⟨_,huE⟩:=gS hu;obtain⟨hu0,hu7⟩:=hn.reads s hsm u (gM hu);obtain⟨U,rfl⟩:∃U:Nat,u=U:=⟨u.toNat,qA⟩;have hnx:=N9 (p:=p) (b:=b) hu;generalize hL:dD p b s i=L at h7 hp7 hnx hll;have fx:=qg h0 h1 h5 hp5 h14 hp14 h15 h16 h7 hp7 hu huE<|aI hil<|hll;have c1:=Ew gl hgl p hp b k hk U qA 0 qf qf;refine qK ?_;clear fx c1;refine⟨O s.reads-(i+1),qA,i+1,rfl,qA,yL,zY,jh,kw,by simp[h14],by simp[hp14],tV,zr,by simp[hnx],?_⟩;rw[hnx];simp[uF]
 .have hge:i=O s.reads:=qA;rw[hge]at h7 hp7 hll;have hwl:=Pr s;generalize hL:dD p b s (O s.reads)=L at h7 hp7 hll;by_cases hk11:s.kind=11
  .have jz:vq p b s=[yM p b T 2]:=by simp[vq,hk11,hT]
   rw[jz];generalize hWL:vg s=WL at hwl;have hwo:=Ir gl s hkd;rw[hWL,hav]at hwo;have hk11':(s.kind==11)=B:=by simpa using hk11
   have fx:=qg h0 h1 h5 hp5 h14 hp14 h15 h16 h7 hp7 hil hge<|qz hll hwl hk11'<|hT;have d1:=hwo;have c1:=Ew gl hgl p hp b k hk T hT8 2 qf qf;refine qK ?_;clear fx d1 c1;refine yg (t:=6) ?_ ?_ ?_
   all_goals simp[B4,lA,jg,dL]
  .have hk11':(s.kind==11)=M:=by simpa using hk11
   by_cases jz:0<=s.kind/\s.kind<=6
   .have hsl:vq p b s=[yM p b T 1]:=by simp[vq,hk11,hT,jz]
    rw[hsl];generalize hWL:vg s=WL at hwl;have hwo:=Ir gl s hkd;rw[hWL,hav]at hwo;have hbi:=FG gl s;rw[decide_eq_true (.inl jz:s.eK\/s.kind=11),hav]at hbi;have fx:=qg h0 h1 h5 hp5 h14 hp14 h15 h16 h7 hp7 hil hge<|qz hll hwl hk11'<|hT;have d1:=hwo;have c1:=hbi;have c2:=Ew gl hgl p hp b k hk T hT8 1 qf qf;refine qK ?_;clear fx d1 c1 c2;refine yg (t:=6) ?_ ?_ ?_
    all_goals simp[B4,lA,jg,dL]
   .have hsl:vq p b s=[]:=by simp only[vq,if_neg hk11,if_neg jz]
    rw[hsl];generalize hWL:vg s=WL at hwl;have hwo:=Ir gl s hkd;rw[hWL]at hwo;have hbi:=FG gl s;rw[decide_eq_false (λh:s.eK\/s.kind=11=>h.elim jz hk11)]at hbi;have fx:=qg h0 h1 h5 hp5 h14 hp14 h15 h16 h7 hp7 hil hge<|ql hll hwl<|hk11';have d1:=hwo;have c1:=hbi;refine qK ?_;clear fx d1 c1;refine yg (t:=6) ?_ ?_ ?_
    all_goals simp[B4,lA,jg,dL]
abbrev Hg:qV:=xq<|.q 5<|.q 6<|.q 8<|.q 9<|.q 12<|.q 13<|.l2 4 [13,12,9,8,6,5,1,0] (.l2 7 [13,12,9,8,1,0] (.l2 10 [13,12,1,0] (.l2 11 [13,12,1,0] (.l2 14 [1,0] (.q 15<|.l 16 [15,1,0]<|.l 17 []<|.done) 16 [13,12,1,0] (.l 14 [1,0]<|.q 15<|.l 17 []<|.done)) 16 [13,12,1,0] (.l 11 [13,12,1,0]<|.l 14 [1,0]<|.q 15<|.l 17 []<|.done)) 16 [13,12,9,8,1,0] (.l 10 [13,12,1,0]<|.l 11 [13,12,1,0]<|.l 14 [1,0]<|.q 15<|.l 17 []<|.done)) 16 [13,12,9,8,6,5,1,0] (.l 7 [13,12,9,8,1,0]<|.l 10 [13,12,1,0]<|.l 11 [13,12,1,0]<|.l 14 [1,0]<|.q 15<|.l 17 []<|.done)) 16 [13,12,9,8,6,5,3,2,1,0] (.l 4 [13,12,9,8,6,5,1,0]<|.l 7 [13,12,9,8,1,0]<|.l 10 [13,12,1,0]<|.l 11 [13,12,1,0]<|.l 14 [1,0]<|.q 15<|.l 17 []<|.done)
abbrev Hh:qV:=.q 0<|.q 1<|.q 2<|.q 3<|.q 4<|.l 5 [1,0]<|.l 6 []<|.q 7<|.l 8 []<|.done
def TM(gl)(p:qC)(hp:zw p)(b:Nat)(k:qY)(hk:p[b]?=Z k):qL prog gl 160 [uI p,iv b] (λr y H'=>y=.hs r 1 0 (O (zB p b))/\H' r=Z (.row 1 (qh (zB p b)))):=by
 by_cases hk1:k.kind=1
 .exact LJ gl p hp b k hk hk1
 have hh:=hp.jK;obtain⟨qv,hbE⟩:=gS hk;have hka:jk p b=k.kind:=iF;have hsg:=sF (p:=p) qv;rw[eH hh hk]at hsg;obtain⟨_,hse⟩:=gS hsg;have hc:zB p b=[]:=by simp[zB,hka,hk1]
 have hkd:(k.kind==1)=M:=Ck;rw[hc];refine qL.q9 func160 [.tmp 4] ntmps160 λC w g root=>?_;refine qH ?_<|zJ hsg hse hkd qv<|@zA;exact yg (t:=4) ji ji qB
def SL(gl)(p:qC)(b:Nat):qL prog gl 162 [.agg (z8 (qa p b))] (λr z H'=>z=.hs r 1 0 (O (qa p b))/\H' r=Z (.row 1 (qh (qa p b)))):=by
 have hli:=Dm gl (qa p b);rw[PC]at hli;exact hli
def U8(gl:Nat->Option (List AV))(hgl:gl 4=Z iJ)(p:qC)(hp:zw p)(b:Nat)(k:qY)(hk:p[b]?=Z k):qL prog gl 113 [jB p,uI p,iv b] (λr y H'=>y=.agg ((zQ p b).own r 0)/\eV H' r 0 (zQ p b)):=by
 have hl7:=hp.len.2;have hkm:=gM hk;obtain⟨qv,hbE⟩:=gS hk;have hk12:=hp.body k hkm;obtain⟨hpl,_⟩:=hp.bc.vu hk;have hcode:zQ p b=⟨k.kind,k.params,zB p b,qa p b,za p b,uK p b k.body⟩:=by simp[zQ,zS,hk]
 have hfl:=rf (p:=p) (b:=b);have hcl:=da (p:=p) (b:=b);have hrl:=iL (p:=p) (b:=b);rw[hcode];refine qL.q9 func113 [.cell 6 198] ntmps113 λC w g root=>?_;have fx:=qz hk hbE qv<|hpl;have c1:=Az gl p hp b k hk;have d1:=TM gl p hp b k hk;have d2:=SL gl p b;have d3:=G6 gl p hp b qv;refine qK ?_
 first|refine qP (id:=2) Hg mixed ?_|refine qP (id:=6) Hh mixed ?_
 refine MC (λst=>st.tm 1=uI p/\st.tm 2=iv b/\st.tm 6=.pt (.s 6) 0/\st.hp (.s 6)=Z (.row 6 [iQ.own (.s 6) 0])/\st.tm 8=.pt (.s 8) 0/\st.tm 33=gD k.body/\st.tm 34=iv (O k.body)/\st.tm 35=iv 0/\st.hp (.s 8)=Z (.row 6 [vE.own (.s 8) 0 ⟨k.kind,k.params,zB p b,qa p b,za p b,[]⟩])/\st.hp (.c (.s 8) 0 1)=Z (.row 1 (qh k.params))/\st.hp (.c (.s 8) 0 2)=Z (.row 1 (qh (zB p b)))/\st.hp (.c (.s 8) 0 3)=Z (.row 1 (qh (qa p b)))/\st.hp (.c (.s 8) 0 4)=Z (.row 1 (qh (za p b)))/\st.hp (.c (.s 8) 0 5)=Z (.row 2 [])) ?_;clear fx c1 d1 d2 d3;rintro st ⟨h1,h2,h6,hp6,h8,h33,h34,h35,hp8,q1,q2,q3,q4,q5⟩;refine zK (λn st=>∃i:Nat,n=O k.body-i/\i<=O k.body/\st.tm 1=uI p/\st.tm 2=iv b/\st.tm 6=.pt (.s 6) 0/\st.hp (.s 6)=Z (.row 6 [iQ.own (.s 6) 0])/\st.tm 8=.pt (.s 8) 0/\st.tm 33=gD k.body/\st.tm 34=iv (O k.body)/\st.tm 35=iv i/\∃c:vE,c=⟨k.kind,k.params,zB p b,qa p b,za p b,uK p b (k.body.take i)⟩/\st.hp (.s 8)=Z (.row 6 [c.own (.s 8) 0])/\eV st.hp (.s 8) 0 c) (O k.body) ?_ ?_
 .refine⟨0,qA,qA,h1,h2,h6,hp6,h8,h33,h34,h35,_,rfl,?_,⟨?_,?_,?_,?_,?_⟩⟩
  all_goals simp[uK,hp8,q1,q2,q3,q4,q5]
 clear h1 h2 h6 hp6 h8 h33 h34 h35 hp8 q1 q2 q3 q4 q5;rintro n st - - ⟨i,rfl,hi,h1,h2,h6,hp6,h8,h33,h34,h35,c,hc,hp8,⟨o1,o2,o3,o4,o5⟩⟩;have hll:=FI (p:=p) (b:=b) (k.body.take i);rw[ge]at hll;by_cases hil:i<O k.body
 .obtain⟨s,hss⟩:=gX hil;obtain⟨_,hsE⟩:=gS hss;have hnx:=Jt (p:=p) (b:=b) hss;have hsl:=I8 (p:=p) (b:=b) (s:=s);generalize hL:uK p b (k.body.take i)=L at hc hnx hll;subst hc;simp only[vE.B7]at hp8 o1 o2 o3 o4 o5;have fx:=qg h1 h2 h6 hp6 h8 h33 h34 h35 hp8 o1 o2 o3<|zy o4 o5 hss hsE hil hll<|hsl;have d1:=U9 gl hgl p b k s hp hk (gM hss);refine qK ?_
  repeat((first|refine qP (id:=2) Hg mixed ?_|refine qP (id:=6) Hh mixed ?_);refine zC ?_;refine qK ?_)
  clear fx d1;refine⟨O k.body-(i+1),qA,i+1,rfl,qA,zY,jS,vZ,dU,by simp[h8],by simp[h33],by simp[h34],zr,_,rfl,?_,⟨?_,?_,?_,?_,?_⟩⟩
  all_goals simp[vE.own,hnx,o1,o2,o3,o4,o5,hp8]
 .have hge:i=O k.body:=qA;subst hge;rw[kC]at hc;subst hc;simp only[vE.B7]at hp8 o1 o2 o3 o4 o5;have fx:=qg h1 h2 h6 hp6 h8 h33 h34 h35 hp8 o1 o2 o3<|ql o4 o5<|hil;refine qK ?_
  repeat((first|refine qP (id:=2) Hg mixed ?_|refine qP (id:=6) Hh mixed ?_);refine zC ?_;refine qK ?_)
  clear fx;refine qE [(.s 8,root)] (.one rfl) Cx ⟨?_,⟨?_,?_,?_,?_,?_⟩⟩
  all_goals simp[h6,o1,o2,o3,o4,o5]
def U7(gl:Nat->Option (List AV))(hgl:gl 4=Z iJ)(p:qC)(hp:zw p):qL prog gl 74 [jB p,uI p] (λr y H'=>y=.hs r 6 0 (O (jo p (O p)))/\AP H' r (jo p (O p))):=by
 have hl7:=hp.len.2;refine qL.q9 func74 [.tmp 4] ntmps74 λC w g root=>?_;refine qH ?_<|qW;refine zK (λn st=>∃i:Nat,n=O p-i/\i<=O p/\st.tm 1=uI p/\st.tm 2=.pt (.s 2) 0/\st.hp (.s 2)=Z (.row 1 [[j6 p]])/\st.tm 9=iv (O p)/\st.tm 10=iv i/\∃cs:List vE,cs=jo p i/\O cs=i/\st.tm 5=.hs (.s 5) 6 0 (O cs)/\AP st.hp (.s 5) cs) (O p) ?_ ?_
 .refine⟨0,qA,qA,qB,qB,qB,qB,qB,[],qB,rfl,qB,⟨qB,λi c h=>by simp at h⟩⟩
 rintro n st - - ⟨i,rfl,hi,h1,h2,hp2,h9,h10,cs,hcs,hcl,h5,⟨ht,he⟩⟩;by_cases hil:i<O p
 .obtain⟨k,hk⟩:=gX hil;have hnx:=Kn (p:=p) (n:=i);have hcc:=U8 gl hgl p hp i k hk;rw[<- hcs]at hnx;generalize hC:zQ p i=c at hcc hnx;have hcl7:O cs<=7:=qA;have fx:=zx h1 h2 hp2 h9 h10<|hil;have e1:=hcc;refine qK ?_;clear fx e1;rintro K hK y H' ⟨rfl,hO⟩;obtain⟨o1,o2,o3,o4,o5⟩:=hO.vj;refine⟨qB,?_⟩;refine qH ?_<|qg h1 h2 hp2 h9 h10 h5 ht hcl7 o1 o2 o3 o4<|o5;refine⟨O p-(i+1),qA,i+1,rfl,qA,zY,jS,jV,dV,zr,cs++[c],hnx.symm,by simp[hcl],qB,⟨?_,λj d hj=>?_⟩⟩
  .simp [ht,MD]
  .rcases dN j (O cs)with hlj|hgj
   .rw [ua hlj]at hj;have hne:¬j=O cs:=qA;obtain⟨e1,e2,e3,e4,e5⟩:=he j d hj;exact⟨by simp[hne,e1],by simp[hne,e2],by simp[hne,e3],by simp[hne,e4],by simp[hne,e5]⟩
   .rw [bn hgj]at hj
    obtain rfl:j=O cs:=by
     have:=(gS hj).1;simp at this;omega
    simp at hj;subst hj;exact⟨by simp[o1],by simp[o2],by simp[o3],by simp[o4],by simp[o5]⟩
 .have hge:i=O p:=qA;subst hge;subst hcs;refine qH ?_<|jA h1 h2 hp2 h9 h10 hil h5<|ht;refine qE [(.s 4,root)] (.one rfl) qD ⟨qB,⟨by simp[ht,xM (n:=.s 4) (m:=root) (f:=zH zl [(.s 4,root)]) qB],λj d hj=>?_⟩⟩;obtain⟨e1,e2,e3,e4,e5⟩:=he j d hj;exact⟨by simp[e1],by simp[e2],by simp[e3],by simp[e4],by simp[e5]⟩
attribute [local simp] kM lh
def Ve(gl)(l:List (Int×Int))(A:Nat)(hA:A<O l)(hl:O l<=1000):qL prog gl 210 [B5 l,iv A] (λ_ y _=>y=iv ((vU (l.take (A+1)):Int)-1)):=by
 have hw:IntKind.i64.wrap ((A:Int)+1)=((A+1:Nat):Int):=by rw[qk qA qA];rfl
 have hA1:A+1<=O l:=qA;have hmin:min (A+1) (O l)=A+1:=Nat.min_eq_left hA1;generalize hB:A+1=B' at hw hA1 hmin;refine qL.q9 func210 [.tmp 4] ntmps210 λC w g root=>?_;refine qH ?_<|ql hw hA1<|hmin;refine zK (λn st=>∃i:Nat,n=B'-i/\i<=B'/\st.tm 11=B5 (l.take B')/\st.tm 12=iv B'/\st.tm 13=iv i/\st.tm 5=iv ((vU (l.take i):Int)-1)) B' ?_ ?_
 .exact⟨0,qA,qA,qB,by simp[hmin],qB,by simp[vU]⟩
 rintro n st - - ⟨i,rfl,hi,h11,h12,h13,h5⟩;by_cases hil:i<B'
 .have hil2:i<O l:=qA;obtain⟨o,ho⟩:=gX hil2;have ho2:(l.take B')[i]?=Z o:=by rw[AT,if_pos hil,ho]
  obtain⟨hoL,hoE⟩:=gS ho2;have htk:=E5 ho;have htl:vU (l.take i)<=i:=uV P8 qp;have hLl:O (l.take B')=B':=qp;generalize l.take B'=L at h11 ho2 hoL hoE hLl ⊢;generalize vU (l.take i)=T at h5 htk htl
  have hwT:IntKind.i64.wrap ((T:Int)-1+1)=(T:Int):=by
   rw[show(T:Int)-1+1=T by omega];exact qk qA qA
  cases ho0:(o.1==0)
  .have e0:¬o.1=0:=by simpa using ho0
   refine qH ?_<|y9 h11 h12 h13 h5 ho2 hoE hoL hil<|ho0;exact⟨B'-(i+1),qA,i+1,rfl,qA,gv,rX,zr,by simp[htk,e0,h5]⟩
  .have e0:o.1=0:=by simpa using ho0
   have e1:((T+1:Nat):Int)-1=T:=qA;have hwT':IntKind.i64.wrap (T:Int)=(T:Int):=qk qA qA;refine qH ?_<|ya h11 h12 h13 h5 ho2 hoE hoL hil ho0<|hwT;refine⟨B'-(i+1),qA,i+1,rfl,qA,gv,rX,zr,?_⟩;rw[htk,if_pos e0,e1];simp[hwT']
 .have hge:i=B':=qA;refine qH ?_<|zJ h11 h12 h13 h5<|hil;refine qE [] .nil qD ?_;rw[<- hge];simp
end Go.Proofs.YtjgpejikjhojcaaGreatDoor
end
section
namespace Go.Proofs.YtjgpejikjhojcaaGreatDoor
open Go Go.Hm Go.Proofs Tryz
abbrev ZX:qV:=O8<|.l 16 [11,6,5,4,2,1,0]<|.l 17 []<|.done
abbrev ZY:qV:=wG<|.l 11 [5,4,3,2,1,0]<|.l 12 [5,0]<|.q 13<|.q 14<|.l 15 []<|.done
def Gm{A G G2:Prop}(k:G2)(x:A)(h:A->jH G2->G:=by
 intro fx kk;refine qK ?_
 repeat((first|refine qP (id:=4) ZX mixed ?_|refine qP (id:=5) ZY mixed ?_);refine zC ?_;refine qK ?_)
 exact kk.h):G:=h x ⟨k⟩
def QN(gl)(H:Nm->Option AO)(p:qC)(m:qR)(fs:List qO)(f:qO)(o:Int×Int)(ho:(zS p f.qG)[f.pc-1]?=Z o)(ho0:o.1=0)(hb:f.qG<O p)(hp7:O p<=7)(he:m.en=0)(hfl:O fs<=150)(hlf:m.left<=150)(htl:O m.trace<=1000)(hpc1:1<=f.pc)(hpc:f.pc<=O (zS p f.qG))(hol:O (zS p f.qG)<=60)(hO:qF H p (m.top fs f)):
  qX prog gl 167 DM [.pt Yn 0,.pt Yn (yo (O fs))] H (λ_ y H'=>y=bv (decide ((aD p m fs f).en=0))/\qF H' p (aD p m fs f)) qw:=by
 obtain⟨R,j,hT,tr,h2,h3,h28⟩:=hO.yX rfl qA;have hRl:=tr.len;have r2:=tr.r2;have r0:=tr.r0;have f0:=tr.f0;have f1:=tr.f1;obtain⟨r2l,r2E⟩:=gS r2;simp only[qR.top]at r2 r2E;refine qX.q9 func167 [.tmp 4] ntmps167 (λ_=>zF) λC w g root hroot=>?_;by_cases hl:m.left=0
 .have ht:aD p m fs f=m.stop fs f 1:=by simp only[aD,hl,if_true]
  rw[ht];refine Gm ?_<|zJ hT r2 r2E hRl<|hl;intro K hK;have fx:=qW;refine jI hO (have h:=hO;qF.re h) (qb _) (hF:=λhO=>gQ gl DM (λ_=>zF) _ R 1 zG hRl) (h:=?_);rintro y H1 hw;clear fx;have hO1:=qF.qk (qF.gG (e:=1) (have h:=hO;qF.re h) rfl zG) hw;obtain⟨rfl,-⟩:=hw;refine Gm ?_<|qW;refine qE [] .nil qD ⟨qB,qF.fin (have h:=hO1;qF.re h)⟩
 .obtain⟨l,hll⟩:∃l,m.left=l+1:=⟨m.left - 1,qA⟩
  have ht:aD p m fs f={m.top fs f with left:=l,trace:=m.trace++[(f.qG,vU ((zS p f.qG).take (f.pc-1)))]}:=by
   simp only[aD,hl,if_false,hll]
   rfl
  rw[ht];have hlb:((l:Int)+1==0)=M:=kQ;have hwl:IntKind.i64.wrap (l:Int)=l:=qk qA qA;refine qH ?_<|zy hT r2 r2E hRl hll hlb<|hwl;refine uR (λs=>s.tm 0=.pt Yn 0/\s.tm 1=.pt Yn (yo (O fs))/\qF s.hp p ({m with left:=l}.top fs f)) ⟨qB,qB,?_⟩ ?_
  .have h:=hO;exact qF.uY h rfl rfl rfl (pJ (R':=qq R 2 [iv l]) hT Ac (λJ hJ e=>by rw[e];exact qEf)) (h6t:=jS) (h7t:=jr) (h8t:=⟨j,kX⟩)
  clear hT tr r2E r2l r2 r0 f0 f1 hRl h2 h3 h28 hO j R;rintro s ⟨t0,t1,hO⟩;obtain⟨R,j,hT,tr,h2,h3,h28⟩:=hO.yX rfl qA;have hRl:=tr.len;have r5:=tr.r5;have r0:=tr.r0;have f0:=tr.f0;have f1:=tr.f1;simp only[qR.top]at r5;obtain⟨_,r5E⟩:=gS r5;obtain⟨_,r0E⟩:=gS r0;obtain⟨f0l,f0E⟩:=gS f0;obtain⟨f1l,f1E⟩:=gS f1;have hcd:(jo p (O p))[f.qG]?=Z (zQ p f.qG):=Ce;obtain⟨hcdl,hcdE⟩:=gS hcd;obtain⟨k,hk⟩:=gX hb;have hco:(zQ p f.qG).ops=zS p f.qG:=gz;have hpw:IntKind.i64.wrap ((f.pc:Int)-1)=((f.pc-1:Nat):Int):=iB;have hla:=Ve gl (zS p f.qG) (f.pc-1) qA qA;have hpe:f.pc-1+1=f.pc:=qA;rw[hpe]at hla;have hTr:=hO.zt;have fx:=qg t0 t1 hT r0 r0E r5 r5E f0 f0E f0l f1 f1E<|y9 f1l hcd hcdl hcdE hco hpw hRl hTr<|htl;have c1:=hla;refine Gm ?_<|@fx;clear fx c1
  have htk:((vU ((zS p f.qG).take f.pc):Nat):Int)-1=vU ((zS p f.qG).take (f.pc-1)):=by
   have:=E5 ho;rw[hpe,if_pos ho0]at this;rw[this];omega
  have hap:vR m.trace++[[iv f.qG,iv (((vU ((zS p f.qG).take f.pc):Nat):Int)-1)]]=vR (m.trace++[(f.qG,vU ((zS p f.qG).take (f.pc-1)))]):=by rw[htk];exact Dq
  refine qE [] .nil qD ⟨by simp[qR.top,he],qF.fin ?_⟩;have h:=hO;exact qF.uY h rfl rfl rfl (EI hT qD (λJ hJ e=>by rw[e];simp only[o8];exact UT (m.trace++[(f.qG,vU ((zS p f.qG).take (f.pc-1)))]) hJ qB (λj hj=>by simp[hj]))) (h3:=Am) (h6t:=jS) (h7t:=jr) (h8t:=⟨j,kX⟩)
def Em(gl)(H:Nm->Option AO)(p:qC)(m:qR)(fs:List qO)(f:qO)(o:Int×Int)(off wy:Nat)(e:Int)(hW:mD p m fs f o off)(hm0:m.en=0)(he:e≠0)(hwy:wy<=2)(hfl:O fs<=150)(hst:wy=1->1<=O f.stack)(hsl:O f.stack<=1000)(hO:qF H p (m.top fs f)):
  qX prog gl 168 DM [.pt Yn 0,.pt Yn (yo (O fs)),.pt Yn off,iv wy,iv e] H (λ_ y H'=>y=bv (decide ((uN m fs f o wy e).en=0))/\qF H' p (uN m fs f o wy e)) qw:=by
 obtain⟨R,j,hT,tr,h2,h3,h28⟩:=hO.yX rfl qA;have hRl:=tr.len;have f28:=tr.f28;have hle:=hW.le;have hrd:=hW.rd f R rfl tr;have s0:=hrd 0 qA;have s1:=hrd 1 qA;have s2:=hrd 2 qA;rw[fJ]at s0;have yoh:yo (O fs)+29<=4415:=kP;refine qX.q9 func168 [.tmp 10] ntmps168 (λ_=>zF) λC w g root hroot=>?_;by_cases w1:wy=1
 .subst w1;have hres:uN m fs f o 1 e=yE m fs f.pop o (Z f.zE):=rfl;rw[hres];obtain⟨k,hk⟩:∃k,O f.stack=k+1:=⟨O f.stack - 1,by have:=hst rfl;omega⟩;rw[hk]at f28;obtain⟨G,hG,g1,g2,g3,c1,c2,c3,c4,c5,c6,hR⟩:=hW.wr f.pop (Z f.zE) rfl rfl;refine qH ?_<| hT;intro K hK;have fx:=qW;refine jI hO (have h:=hO;qF.re h) (qb _) (hF:=λ_=>nj gl DM (λ_=>zF) _ R (yo (O fs)) k (f.stack++j) f.zE zG f28 kX (ib hk) qA yoh) (h:=?_);intro y H1 hw;clear fx;have hO1:=qF.qk (qF.eC (m:=m.top fs f) (have h:=hO;qF.re h) rfl qA zG hk) hw;obtain⟨rfl,-⟩:=hw;obtain⟨R1,j1,hT1,tr1,h21,h31,h281⟩:=qF.yX (f:=f.pop) hO1 rfl qA;have hR1l:=tr1.len;generalize hv:f.zE=v at *;obtain⟨v1,v2⟩:=v;refine qH ?_<|qz hT hT1 hR1l<|hle;refine qE [] .nil qD ⟨by simp[c6,hm0],qF.fin ?_⟩;have h:=hO1;exact qF.uY h rfl hG (by rw[c1];rfl) (pJ (R':=qq R1 off (jv (Z (v1,v2)))) hT1 Ac (λJ hJ e=>by rw[e];exact hR J hJ)) (h2:=by simp[h.out,c2]) (h3:=by simp[h.zt,c3]) (h4:=by simp[h.qI,c4]) (h5:=by simp[h.jG,c5]) (h6t:=by simp[h21,g1]) (h7t:=by simp[h31,g2]) (h8t:=⟨j1,by simp[h281,g3]⟩) (h9:=by rw[c1];intro c s hc;simp[h.cell c s hc])
 .have w1':((wy:Int)==1)=M:=kQ
  cases hs:ka m f o with
  |none=>
   have hres:uN m fs f o wy e=m.stop fs f e:=Fo;rw[hres];rw[hs]at s0;simp only[Bz,gh]at s0;obtain⟨s0l,s0E⟩:=gS s0;refine qH ?_<|zy w1' hT s0 s0E s0l hRl<|hle;intro K hK;have fx:=qW;refine jI hO (have h:=hO;qF.re h) (qb _) (hF:=λ_=>gQ gl DM (λ_=>zF) _ R e zG hRl) (h:=?_);intro y H1 hw;clear fx;have hO1:=qF.qk (qF.gG (m:=m.top fs f) (e:=e) (have h:=hO;qF.re h) rfl zG) hw;obtain⟨rfl,-⟩:=hw;refine qH ?_<|qW;refine qE [] .nil qD ⟨by simp[qR.stop,he],qF.fin (have h:=hO1;qF.re h)⟩
  |some v=>
   obtain⟨v1,v2⟩:=v;rw[hs]at s0 s1 s2;simp only[CA,gh,gi]at s0 s1 s2;obtain⟨s0l,s0E⟩:=gS s0;have s12:=AB s1 s2;have hle2:off+1+2<=4415:=qA;by_cases w0:wy=0
   .subst w0;have hres:uN m fs f o 0 e=m.top fs (f.push (v1,v2)):=FZ;rw[hres];refine qH ?_<|jA w1' hT s0 s0E s0l s12 hRl<|hle2;intro K hK;have fx:=aI hT s12;refine jI hO (have h:=hO;qF.re h) (qb _) (hF:=λ_=>eR gl DM (λ_=>zF) _ R (yo (O fs)) f.stack j (v1,v2) rfl rfl zG f28 kX hsl yoh) (h:=?_);intro y H1 hw;clear fx;have hO1:=qF.eD (m:=m.top fs f) ef rfl qA rfl zG hw;refine qH ?_<|qW;refine qE [] .nil qD ⟨fP,qF.fin (have h:=hO1;qF.re h)⟩
   .have hres:uN m fs f o wy e=yE m fs f o Y:=FU;rw[hres];have w0':((wy:Int)==0)=M:=kQ;obtain⟨G,hG,g1,g2,g3,c1,c2,c3,c4,c5,c6,hR⟩:=hW.wr f Y rfl rfl;refine qH ?_<|jA w1' w0' hT s0 s0E s0l hRl<|hle;refine qE [] .nil qD ⟨by simp[c6,hm0],qF.fin ?_⟩;have h:=hO;exact qF.uY h rfl hG (by rw[c1];rfl) (pJ (R':=qq R off (jv Y)) hT Ac (λJ hJ e=>by rw[e];exact hR J hJ)) (h2:=by simp[h.out,c2]) (h3:=by simp[h.zt,c3]) (h4:=by simp[h.qI,c4]) (h5:=by simp[h.jG,c5]) (h6t:=by simp[h2,g1]) (h7t:=by simp[h3,g2]) (h8t:=⟨j,by simp[h28,g3]⟩) (h9:=by rw[c1];intro c s hc;simp[h.cell c s hc])
def AI(gl)(H:Nm->Option AO)(p:qC)(m:qR)(fs:List qO)(f:qO)(o:Int×Int)(c wy:Nat)(e:Int)(h5:5<=o.1)(h7:o.1<=7)(hc:f.cells.getD o.2.toNat 0=c)(hcl:c<O m.cells)(hm0:m.en=0)(he:e≠0)(hwy:wy<=2)(hfl:O fs<=150)(hst:wy=1->1<=O f.stack)(hsl:O f.stack<=1000)(hO:qF H p (m.top fs f)):
  qX prog gl 168 DM [.pt Yn 0,.pt Yn (yo (O fs)),.pt (En c) 0,iv wy,iv e] H (λ_ y H'=>y=bv (decide ((uN m fs f o wy e).en=0))/\qF H' p (uN m fs f o wy e)) qw:=by
 obtain⟨R,j,hT,tr,h2,h3,h28⟩:=hO.yX rfl qA;have hRl:=tr.len;have f28:=tr.f28;have e1:¬o.1<=4:=qA
 have jz:∀g s,g.cells=f.cells->yE m fs g o s={m.top fs g with cells:=m.cells.set c s}:=λg s hg=>by
  simp only[yE,if_neg e1,if_pos h7,hg,hc]
 have yoh:yo (O fs)+29<=4415:=kP;obtain⟨s,hs1⟩:=gX hcl;have hs:ka m f o=s:=by simp[ka,e1,h7,-List.getD_eq_getElem?_getD,hc,j7,hs1]
 have hE:=hO.cell c s hs1
 have hcs:∀(s':qr)(hp':Nm->Option AO),hp' (En c)=Z (.row 3 [jv s'])->(∀c',c'≠c->∀s,m.cells[c']?=Z s->hp' (En c')=Z (.row 3 [jv s]))->∀(c':Nat)s,(m.cells.set c s')[c']?=Z s->hp' (En c')=Z (.row 3 [jv s]):=by
  intro s' hp' h1 h2 c' s hc';rw[fL]at hc';by_cases e:c=c'
  .subst e;rw[if_pos rfl,if_pos hcl]at hc';obtain rfl:=sI hc';exact h1
  .rw [if_neg e]at hc';exact h2 c' (λh=>e h.symm) s hc'
 refine qX.q9 func168 [.tmp 10] ntmps168 (λ_=>zF) λC w g root hroot=>?_;by_cases w1:wy=1
 .subst w1;have hres:uN m fs f o 1 e=yE m fs f.pop o (Z f.zE):=rfl;rw[hres,jz f.pop _ rfl];obtain⟨k,hk⟩:∃k,O f.stack=k+1:=⟨O f.stack - 1,by have:=hst rfl;omega⟩;rw[hk]at f28;refine qH ?_<| hT;intro K hK;have fx:=qW;refine jI hO (have h:=hO;qF.re h) (qb _) (hF:=λ_=>nj gl DM (λ_=>zF) _ R (yo (O fs)) k (f.stack++j) f.zE zG f28 kX (ib hk) qA yoh) (h:=?_);intro y H1 hw;clear fx;have hO1:=qF.qk (qF.eC (m:=m.top fs f) (have h:=hO;qF.re h) rfl qA zG hk) hw;obtain⟨rfl,-⟩:=hw;obtain⟨R1,j1,hT1,tr1,h21,h31,h281⟩:=qF.yX (f:=f.pop) hO1 rfl qA;have hE1:=hO1.cell c s hs1;generalize hv:f.zE=v at *;obtain⟨v1,v2⟩:=v;have hd:(jv s).drop 3=[]:=CX qB;refine qH ?_<|ql hE hE1<|hd;refine qE [] .nil qD ⟨Ct,qF.fin ?_⟩;have h:=hO1;exact qF.uY h rfl (m':={m.top fs f.pop with cells:=m.cells.set c (Z (v1,v2))}) rfl dY (pJ (R':=R1) hT1 dW (λJ hJ e=>e.trans (by simp[qj,yA,yB,yZ,qR.top]))) (h6t:=by simp[h21]) (h7t:=by simp[h31]) (h8t:=⟨j1,tc⟩) (h9:=hcs _ _ qB (λc' hn s hc'=>by simp[hn,h.cell c' s hc'])) (hA:=by intro k i j hk e hn;by_cases e2:k=7/\i=c/\j=0;(obtain⟨rfl,rfl,rfl⟩:=e2;rw[hE1];simp);simpa[hk,e,e2]using hn)
 .have w1':((wy:Int)==1)=M:=kQ
  cases s with
  |none=>
   have hres:uN m fs f o wy e=m.stop fs f e:=Fo;rw[hres];refine qH ?_<|aI w1'<|hE;intro K hK;have fx:=qW;refine jI hO (have h:=hO;qF.re h) (qb _) (hF:=λ_=>gQ gl DM (λ_=>zF) _ R e zG hRl) (h:=?_);intro y H1 hw;clear fx;have hO1:=qF.qk (qF.gG (m:=m.top fs f) (e:=e) (have h:=hO;qF.re h) rfl zG) hw;obtain⟨rfl,-⟩:=hw;refine qH ?_<|qW;refine qE [] .nil qD ⟨by simp[qR.stop,he],qF.fin (have h:=hO1;qF.re h)⟩
  |some v=>
   obtain⟨v1,v2⟩:=v;by_cases w0:wy=0
   .subst w0;have hres:uN m fs f o 0 e=m.top fs (f.push (v1,v2)):=FZ;rw[hres];refine qH ?_<|aI w1'<|hE;intro K hK;have fx:=hE;refine jI hO (have h:=hO;qF.re h) (qb _) (hF:=λ_=>eR gl DM (λ_=>zF) _ R (yo (O fs)) f.stack j (v1,v2) rfl rfl zG f28 kX hsl yoh) (h:=?_);intro y H1 hw;clear fx;have hO1:=qF.eD (m:=m.top fs f) ef rfl qA rfl zG hw;refine qH ?_<|qW;refine qE [] .nil qD ⟨fP,qF.fin (have h:=hO1;qF.re h)⟩
   .have hres:uN m fs f o wy e=yE m fs f o Y:=FU;rw[hres,jz f _ rfl];have w0':((wy:Int)==0)=M:=kQ;refine qH ?_<|ql w1' w0'<|hE;refine qE [] .nil qD ⟨Ct,qF.fin ?_⟩;have h:=hO;exact qF.uY h rfl (m':={m.top fs f with cells:=m.cells.set c Y}) rfl dY (pJ (R':=R) hT zG (λJ hJ e=>e.trans (by simp[qj,yA,yB,yZ,qR.top]))) (h6t:=jS) (h7t:=jr) (h8t:=⟨j,kX⟩) (h9:=hcs _ _ qB (λc' hn s hc'=>by simp[hn,h.cell c' s hc'])) (hA:=by intro k i j hk e hn;by_cases e2:k=7/\i=c/\j=0;(obtain⟨rfl,rfl,rfl⟩:=e2;rw[hE];simp);simpa[hk,e,e2]using hn)
end Go.Proofs.YtjgpejikjhojcaaGreatDoor
end
