import Derived.Test.YtjgpejikjhojcaaGreatDoorD29
import Derived.Test.YtjgpejikjhojcaaGreatDoorD17
import Derived.Test.YtjgpejikjhojcaaGreatDoorD23
set_option linter.all false
set_option maxRecDepth 100000
set_option maxHeartbeats 4000000
open Option renaming some->Z,none->Y
open Bool renaming true->B,false->M
open List renaming length->O

section
namespace Go.Proofs.YtjgpejikjhojcaaGreatDoor
open Go Go.Hm Go.Proofs Tryz
variable{S:qT}{a b:List qZ}{k:qY}{l s:qZ}{n:Nat}{p q:qC}
abbrev Y6:qV:=ba<|.l 7 [4,3,2,1,0]<|.l 8 [4,3,2,1,0]<|.l 9 [0]<|.q 10<|.q 11<|.l 12 []<|.done
attribute [local simp] kM
def N2(h:wF a p=Z q):wF (a++b) p=wF b q:=by
 induction a generalizing p with
 |nil=>simp[wF]at h;subst h;rfl
 |cons l a ih=>
  rw[gk];simp only[wF]at h ⊢
  cases hl:ar p l with
  |none=>rw[hl]at h;cases h
  |some r=>rw[hl]at h;exact ih h
def B9(h:wF a p=Z q)(hl:ar q l=Y):wF (a++l::b) p=Y:=by
 rw[N2 h];simp[wF,hl]
def N4{r:qC}(h:wF a p=Z q)(hl:ar q l=Z r):wF (a++[l]) p=Z r:=by
 rw[N2 h];simp[wF,hl]
abbrev qAx:qV:=ba<|.l 7 [4,3,2,1,0]<|.l 8 [4,3,2,1,0]<|.l 9 [3,2,1,0]<|.q 10<|.q 11<|.l 12 [10]<|.done
structure eS(p:qC)(n:Nat):Prop where
 pos:1<=O p
 len:O p<=n+1
 each:∀k∈p,O k.body<=n/\O k.params<=1
def UO:eS ug 0:=⟨oS,oS,oS⟩
def eS.head(h:eS p n)(hk:O k.body<=n+1/\O k.params<=1):eS (p++[k]) (n+1):=
 ⟨qB,by simp;exact h.len,λx hx=>by
   rw[yI,vG]at hx;rcases hx with hx|rfl
   .have:=h.each x hx;omega
   .exact hk⟩
def Ng(hp:1<=O p)(hk:p[O p-1]?=Z k):lc p S=setBody p (O p-1) (k.body++[S]):=by
 unfold lc setBody;apply yp;intro i;simp only[it];by_cases e:O p-1=i
 .subst e;simp[hk]
 .simp [e]
theorem eS.put(h:eS p n)(hk:p[O p-1]?=Z k):eS (setBody p (O p-1) (k.body++[S])) (n+1):=by
 have hkb:=h.each k (gM hk);refine⟨by simp;exact h.pos,by simp;have:=h.len;omega,λx hx=>?_⟩;obtain⟨r,hr,e1,e2⟩:=Bs hx;have:=h.each r hr;rw[e1];rcases e2 with e|e<;>rw[e]
 .omega
 .simp;omega
def PI{c:UInt8}:((zO c s).map List.length).sum+O (zO c s)=O s+1:=by
 induction s with
 |nil=>simp[zO]
 |cons x l ih=>
  rw[zO]
  split
  .simp;omega
  .split
   .rename_i w ws e;rw[e]at ih;simp at ih ⊢;omega
   .rename_i e;exact absurd e (gB)
def TN(hs:O s<=1048576)(h:wF (zO 10 s).dropLast ug=Z p):O (zO 10 s).dropLast<=1048575:=by
 have hsum:=PI (c:=10) (s:=s);have hne:=gB (c:=10) (l:=s);generalize zO 10 s=L at h hsum hne ⊢;obtain⟨I,z,rfl⟩:∃I z,L=I++[z]:=⟨L.dropLast,L.getLast hne,(mJ hne).symm⟩;rw[CT]at h ⊢
 cases I with
 |nil=>simp
 |cons l r=>
  have hl:l≠[]:=by
   rintro rfl;have hno:ar ug []=Y:=rfl;simp[wF,hno]at h
  have h1:=List.length_pos_iff.2 hl;simp at hsum ⊢;omega
def nI(s:qZ):Option qC:=if(zO 10 s).getLast?=Z []then wF (zO 10 s).dropLast ug else Y
def iP{A G G2:Prop}(k:G2)(x:A)(h:A->jH G2->G:=by
 intro fx kk;refine qK ?_
 repeat((first|refine qP (id:=9) Y6 mixed ?_);refine zC ?_;refine qK ?_)
 exact kk.h):G:=h x ⟨k⟩
def ψ(gl){m:Int}(hgm:gl 3=Z [.sc (.int .i64 m)])(hgs':gl 1=Z ((eP ye).map AV.sc))(s:qZ)(hs:O s<=1048576):
  qX prog gl 36 zl [tx s] y6 (λr y H'=>∃p,nI s=Z p/\y=.agg [.hs r 4 0 (O p)]/\uz H' r p/\eS p 1048575) (dP (nI s=Y)):=by
 have hlen:=xy (c:=10) (s:=s);have hpart:=sJ (c:=10) (s:=s);have hsp:=Uj gl hgm s hs;have hgood:(zO 10 s).getLast?=Z []->nI s=wF (zO 10 s).dropLast ug:=λe=>by unfold nI;rw[if_pos e]
 have hbad:(zO 10 s).getLast?≠Z []->nI s=Y:=λe=>by unfold nI;rw[if_neg e]
 have hfew:∀p,wF (zO 10 s).dropLast ug=Z p->O (zO 10 s).dropLast<=1048575:=λp h=>TN hs h;generalize nI s=RC at hgood hbad ⊢;generalize zO 10 s=L at hlen hpart hsp hgood hbad hfew;refine qX.q9 func36 [.cell 2 34] ntmps36 (λ_ h=>kv) λC w g root hroot=>?_;refine iP ?_<|qW;intro K hK;refine qEV (ha:=Cp) (hF:=hsp) (hE:=λx s hx hq=>⟨[],.nil,hx.tr,hbad hq⟩) (h:=?_);rintro y H1 ⟨hlast,rfl,hH1⟩;have hRC:=hgood hlast;have hdl:∀v∈L.dropLast,O v<=1048577:=λv hv=>by have:=hpart v (List.dropLast_subset _ hv);omega
 have hdn:O L.dropLast<=1048577:=by rw[List.length_dropLast];omega
 generalize L.dropLast=I at hH1 hdl hdn hRC hfew;clear hlast hpart hlen hsp hgood hbad;refine iP ?_<|qW;refine zK (λn st=>∃(dn ls:List qZ)(p:qC)(x:AV),n=O ls/\I=dn++ls/\wF dn ug=Z p/\eS p (O dn)/\st.tm 4=.pt (.s 4) 0/\st.hp (.s 4)=Z (.row 2 [[vD ls,x]])/\st.tm 2=.pt (.s 2) 0/\st.hp (.s 2)=Z (.row 1 [[.hs (.c (.s 2) 0 0) 4 0 0]])/\st.hp (.c (.s 2) 0 0)=Z (.row 4 [])/\st.tm 3=.hs (.s 3) 4 0 (O p)/\uz st.hp (.s 3) p/\(x=.hs (.c (.s 4) 0 1) 1 0 0\/∃ws,x=vD ws)) (O I) ?_ ?_
 .refine⟨[],I,ug,.hs (.c (.s 4) 0 1) 1 0 0,rfl,rfl,rfl,UO,qB,mS,qB,qB,qB,oS,⟨by simp[ug,yt],λj r hj=>?_,λj r hj=>?_⟩,.inl rfl⟩
  all_goals
   match j,hj with
   |0,hj=>simp[ug]at hj;subst hj;simp
   |j+1,hj=>simp[ug]at hj
 clear hH1;rintro n st - hgs ⟨dn,ls,p,x,rfl,rfl,hpp,hG,h4,hp4,h2,hp2,hp2',h3,⟨ho1,ho2,ho3⟩,hx⟩;replace hgs:st.gl=gl:=hgs;rw[u7]at hdn;have hlsb:∀v∈ls,O v<=1048577:=λv hv=>hdl v tW;obtain⟨hG1,hG2,hG3⟩:=hG;rcases hx with rfl|⟨ws0,rfl⟩
 case' inl=>
  refine iP ?_<|zJ h4 hp4 h3 h2<|hp2;intro K hK;have fx:=aI h4 h4;refine Eg (.s 4) (.u 1 0 0) (hext:=rfl) (hs:=aJ) (hF:=Mx _ hgm _ ls (.hs (.c (.u 1 0 0) 0 1) 1 0 0) hlsb aJ) (h:=?_)
 case' inr=>
  refine iP ?_<|zJ h4 hp4 h3 h2<|hp2;intro K hK;have fx:=aI h4 h4;refine Eg (.s 4) (.u 1 0 0) (hext:=rfl) (hs:=aJ) (hF:=Mx _ hgm _ ls (vD ws0) hlsb aJ) (h:=?_)
 all_goals
  rintro y H1 hy;clear fx;rcases hy with⟨rfl,rfl⟩|⟨l,ls',rfl,rfl,hH1⟩
  .have hfw:=hfew p (by rw[mK];exact hpp);rw[mK]at hfw;refine iP ?_<|zx h4 h3 h2 hp2 hp2'<|ho1;refine qE [(.c (.s 2) 0 0,root)] (.one rfl) bp ⟨p,by rw[hRC,mK];exact hpp,qB,⟨?_,λj r hj=>?_,λj r hj=>?_⟩,⟨hG1,qA,λk hk=>by have:=hG3 k hk;omega⟩⟩
   .simp [ho1,wV (n:=.c (.s 2) 0 0) (m:=root) (f:=zH zl [(.c (.s 2) 0 0,root)]) (p:=p) qB]
   .simp [ho2 j r hj]
   .simp [ho3 j r hj]
  have hlb:=hlsb l qB;have hwb:∀v∈zO 32 l,O v<=1048577:=λv hv=>by have:=sJ v hv;omega
  refine iP ?_<|ql h4 h3<|hH1;intro K hK;refine uM (λst=>st.gl=gl/\st.tm 15=.pt (.s 4) 0/\st.tm 4=.pt (.s 4) 0/\st.hp (.s 4)=Z (eF ls' (zO 32 l))/\st.tm 2=.pt (.s 2) 0/\st.hp (.s 2)=Z (.row 1 [[.hs (.c (.s 2) 0 0) 4 0 0]])/\st.hp (.c (.s 2) 0 0)=Z (.row 4 [])/\st.tm 3=.hs (.s 3) 4 0 (O p)/\uz st.hp (.s 3) p) ⟨by simp[hgs],vO,vO,mS,jS,jV,kD,jr,⟨kR,λj r hj=>wm,λj r hj=>wl⟩⟩ ?_;clear h4 h3 h2 hp2 hp2' ho1 ho2 ho3 hp4 hH1 hgs;rintro st ⟨hgs,h15,h4,hp4,h2,hp2,hp2',h3,⟨ho1,ho2,ho3⟩⟩;have fx:=aI h15 h15;refine CN (.s 4) (.u 1 0 0) (hext:=rfl) (hs:=aJ) (hF:=Io _ _ ls' (zO 32 l) aJ) (hE:=λx s hx hq=>⟨[],.nil,hx.tr,by rw[hRC];exact B9 hpp (by simp[ar,hq])⟩) (h:=?_);rintro y H2 ⟨v,ws,hvs,rfl,hH2⟩;clear fx;have hww:∀x∈ws,O x<=1048577:=λx hx=>hwb x (by rw[hvs];simp[hx]);by_cases hin:v=aX
  .have e1:(v==[105,110])=B:=by rw[hin];rfl
   refine iP ?_<|y9 h4 h3 h2 hp2 hp2' ho1 hH2 hgs<|e1;intro K hK;have fx:=aI h4 h4;refine CN (.s 4) (.u 1 0 0) (hext:=rfl) (hs:=mU) (hF:=ο _ _ ls' ws hww mU) (hE:=λx s hx hq=>⟨[],.nil,hx.tr,by rw[hRC];exact B9 hpp (by simp[ar,hvs,hin,hq])⟩) (h:=?_);rintro y H3 ⟨k,ws',hh,rfl,hk2,hk3,hH3⟩;clear fx;obtain⟨hkp,hkb⟩:=UY hh;have hkb0:O k.body=0:=by rw[hkb];rfl
   refine iP ?_<|y9 h4 h3 h2 hp2 hp2' ho1 hH3 hk2<|hk3;intro K hK;have fx:=aI h4 h4;refine CN (.s 4) (.u 1 0 0) (hext:=rfl) (hs:=rK) (hF:=Ky _ _ ls' ws' rK) (hE:=λx s hx hq=>⟨[],.nil,hx.tr,by rw[hRC];exact B9 hpp (by simp[ar,hvs,hin,hh];cases ws'<;>simp at hq ⊢)⟩) (h:=?_);rintro y H4 ⟨rfl,hH4⟩;clear fx;refine iP ?_<|ya h4 h3 h2 hp2 hp2' ho1 hH3 hk2 hk3<|hH4;have hli:ar p l=Z (p++[k]):=by simp[ar,hvs,hin,hh]
   refine⟨O ls',qB,dn++[l],ls',p++[k],vD [],rfl,qB,N4 hpp hli,?_,vO,by simp[hH4],jS,jV,kD,qB,⟨?_,λd r hd=>?_,λd r hd=>?_⟩,.inr ⟨[],rfl⟩⟩
   .have:=eS.head ⟨hG1,hG2,hG3⟩ (k:=k) ⟨qA,hkp⟩
    simpa using this
   .rw [Dz];simp[hkb0]
    try exact jg qB
   all_goals
    rw[iw]at hd
    split at hd
    .rename_i hdl;obtain⟨r0,hr0'⟩:∃r0,p[d]?=Z r0:=⟨_,gE hdl⟩;rw[hr0']at hd;obtain rfl:=sI hd;have hdn:¬O p=d:=qA;have hdn':¬d=O p:=qA;simp[ho2 d _ hr0',ho3 d _ hr0',hdn,hdn']
    .rename_i hdl
     have hde:d=O p:=by
      have h1:=(gS hd).1;simp at h1;omega
     subst hde;rw[Nat.sub_self]at hd;simp at hd;subst hd;simp[hk2,hk3,hkb]
  .have e1:(v==[105,110])=M:=by simpa[aX]using hin
   obtain⟨k,hk⟩:∃k,p[O p - 1]?=Z k:=⟨_,gE qA⟩;obtain⟨jN,hkE⟩:=gS hk;have hwl:IntKind.i64.wrap ((O p:Int)-1)=((O p-1:Nat):Int):=iB;have hok:=ho3 _ _ hk;have hkb:=hG3 k (gM hk);have fx:=qg h4 h3 h2 hp2 hp2' ho1 hH2 hgs e1 hwl hk hkE<|aI jN<|hok;refine qK ?_;refine qDx (λx=>il x/\ar p l=Y) (λx s hx=>⟨[],.nil,hx.1.tr,by rw[hRC];exact B9 hpp hx.2⟩) qAx mixed qc qc ?_;intro K hK;refine pr (h:=?_);refine pr (h:=?_);refine pr (h:=?_);refine pr (h:=?_);refine pr (h:=?_);refine pr (h:=?_);refine pr (h:=?_);refine Qv (h:=?_);refine CN (.s 4) (.u 1 0 0) (hext:=rfl) (hs:=mU) (hF:=Θ _ (by simp[hgs];exact hgs') _ v ls' ws hww mU) (hE:=λx s hx hq=>⟨hx,by simp[ar,hvs,hin,hq]⟩) (h:=?_);rintro y H3 ⟨⟨sk,so,sa,sb⟩,ws',hst,rfl,hH3⟩;clear fx;refine aI ?_ (RL ?_)
   .have fx:=jA h4 h3 ho1 hH3 hk hkE jN<|hok
    repeat'(first|exact gF|refine gO (h2:=?_))
   have jz:=B8 (n:=.s 3) (a:=38) (i:=O p-1) (len:=O k.body+1) (p:=p) (L:=k.body++[⟨sk,so,sa,sb⟩]) qB qB qB;have hsl:O (setBody p (O p-1) (k.body++[⟨sk,so,sa,sb⟩]))=O p:=sG;refine iP ?_<|jU h4 h3 h2 hp2 hp2' ho1 hH3 hk hkE jN<|hok;intro K hK;have fx:=aI h4 h4;refine CN (.s 4) (.u 1 0 0) (hext:=rfl) (hs:=rK) (hF:=Ky _ _ ls' ws' rK) (hE:=λx s hx hq=>⟨[],.nil,hx.tr,by rw[hRC];exact B9 hpp (by simp[ar,hvs,hin,hst];cases ws'<;>simp at hq ⊢)⟩) (h:=?_);rintro y H4 ⟨rfl,hH4⟩;clear fx;refine iP ?_<|jU h4 h3 h2 hp2 hp2' ho1 hH3 hk hkE jN<|aI hok<|hH4;have hli:ar p l=Z (setBody p (O p-1) (k.body++[⟨sk,so,sa,sb⟩])):=by rw[<- Ng hG1 hk];simp[ar,hvs,hin,hst]
   have hgot:=eS.put ⟨hG1,hG2,hG3⟩ (S:=⟨sk,so,sa,sb⟩) hk;refine⟨O ls',qB,dn++[l],ls',_,vD [],rfl,qB,N4 hpp hli,by simpa using hgot,vO,by simp[hH4],jS,jV,kD,by simp[h3,hsl],⟨by simp[jz],λd r hd=>?_,λd r hd=>?_⟩,.inr ⟨[],rfl⟩⟩
   all_goals
    have hdp:d<O p:=by have h1:=(gS hd).1;rwa[hsl]at h1
    obtain⟨r0,hr0'⟩:∃r0,p[d]?=Z r0:=⟨_,gE hdp⟩;rw[xt hr0']at hd;obtain rfl:=sI hd;by_cases hpd:O p-1=d
    .subst hpd;simp[ho2 _ r0 hr0']
    .simp [ho2 d r0 hr0',ho3 d r0 hr0',hpd,show ¬d=O p-1 from λe=>hpd e.symm]
end Go.Proofs.YtjgpejikjhojcaaGreatDoor
end
section
namespace Go.Proofs.YtjgpejikjhojcaaGreatDoor
open Go Go.Hm Go.Proofs Tryz
variable{L:List qZ}{i n:Nat}{k:qY}{l:qZ}{p q:qC}
abbrev Nt:qV:=Bq<|.l 10 [8,7,6,5,4,3,2,1,0]<|.l 11 [3,2,1,0]<|.q 12<|.q 13<|.l 14 []<|.done
abbrev Nu:qV:=Bq<|.l 10 [4,3,2,1,0]<|.q 11<|.l 12 [11,4,3,2,1]<|.l 13 []<|.done
attribute [local simp] kM
def N5{a b:List qZ}(h:ue a p=Z q):ue (a++b) p=ue b q:=by
 induction a generalizing p with
 |nil=>simp[ue]at h;subst h;rfl
 |cons l a ih=>
  rw[gk];simp only[ue]at h ⊢
  cases hl:aE p l with
  |none=>rw[hl]at h;cases h
  |some r=>rw[hl]at h;exact ih h
def N6{r:qC}(hi:L[i]?=Z l)(h:ue (L.take i) p=Z q)(hl:aE q l=Z r):ue (L.take (i+1)) p=Z r:=by
 rw[vd,hi,N5 h];simp[ue,hl]
def X5(hi:L[i]?=Z l)(h:ue (L.take i) p=Z q)(hl:aE q l=Y):ue L p=Y:=by
 have e:L=L.take i++l::L.drop (i+1):=by
  obtain⟨h1,hE⟩:=gS hi
  conv=>lhs;rw[<- s9 i L]
  rw[iz h1,hE]
 rw[e,N5 h];simp[ue,hl]
structure eT(p:qC)(n:Nat):Prop where
 pos:1<=O p
 len:O p<=n+1
 each:∀k∈p,O k.body<=n/\O k.params<=1048576
def UP:eT ug 0:=⟨oS,oS,oS⟩
def eT.head(h:eT p n)(hk:k.body=[]/\O k.params<=1048576):eT (p++[k]) (n+1):=
 ⟨qB,by simp;exact h.len,λx hx=>by
   rw[yI,vG]at hx;rcases hx with hx|rfl
   .have:=h.each x hx;omega
   .rw [hk.1];exact⟨qB,hk.2⟩⟩
theorem eT.put{S:qT}(h:eT p n)(hk:p[O p-1]?=Z k):eT (setBody p (O p-1) (k.body++[S])) (n+1):=by
 have hkb:=h.each k (gM hk);refine⟨by simp;exact h.pos,by simp;have:=h.len;omega,λx hx=>?_⟩;obtain⟨r,hr,e1,e2⟩:=Bs hx;have:=h.each r hr;rw[e1];rcases e2 with e|e<;>rw[e]
 .omega
 .simp;omega
def eT.bc(h:eT p 1048575):jm p:=
 ⟨by have:=h.len;omega,λk hk=>(h.each k hk).2,λk hk=>Fs⟩
def TO{s:qZ}(hs:O s<=1048576)(h:ue (zO 10 s).dropLast ug=Z p):O (zO 10 s).dropLast<=1048575:=by
 have hsum:=PI (c:=10) (s:=s);have hne:=gB (c:=10) (l:=s);generalize zO 10 s=L at h hsum hne ⊢;obtain⟨I,z,rfl⟩:∃I z,L=I++[z]:=⟨L.dropLast,L.getLast hne,(mJ hne).symm⟩;rw[CT]at h ⊢
 cases I with
 |nil=>simp
 |cons l r=>
  have hl:l≠[]:=by
   rintro rfl;have hno:aE ug []=Y:=qf;simp[ue,hno]at h
  have h1:=List.length_pos_iff.2 hl;simp at hsum ⊢;omega
def ν(h:dF l=Z k):k.body=[]/\O k.params<=O l:=by
 obtain⟨h1,h2,h3⟩:=OI h;refine⟨h3,?_⟩;rw[<- h1];unfold aV
 split
 .rw [h2.cls (by assumption)];simp
 .have hf:∀ns:List Int,O ns<=O (ns.flatMap λn=>(32:UInt8)::vL n):=by
   intro ns
   induction ns with
   |nil=>simp
   |cons n ns ih=>simp only[List.flatMap_cons,u7,fK]at ih ⊢;omega
  have:=hf k.params;rw[uS,u7];omega
def ol{A G G2:Prop}(k:G2)(x:A)(h:A->jH G2->G:=by
 intro fx kk;refine qK ?_
 repeat((first|refine qP (id:=13) Nt mixed ?_|refine qP (id:=14) Nu mixed ?_);refine zC ?_;refine qK ?_)
 exact kk.h):G:=h x ⟨k⟩
def PE(gl)(s:qZ)(hs:O s<=1048576):qL prog gl 18 [tx s] (λr y H'=>∃p:qC,y=.zT [.agg [.hs r 4 0 (O p)],bv (vo s).isSome]/\uz H' r p/\∀q,vo s=Z q->p=q):=by
 have hsp:=qCA gl s qA;have hlen:=xy (c:=10) (s:=s);have hpart:=sJ (c:=10) (s:=s);have hne:=gB (c:=10) (l:=s)
 have hPT:vo s=match ue (zO 10 s).dropLast ug with
  |some p=>if(zO 10 s).getLast?=Z []/\j2 p=B then Z p else Y
  |none=>Y:=rfl
 have hfew:∀p,ue (zO 10 s).dropLast ug=Z p->O (zO 10 s).dropLast<=1048575:=λp h=>TO hs h;generalize vo s=RC at hPT ⊢;generalize zO 10 s=L at hlen hpart hsp hne hPT hfew;obtain⟨I,z,rfl⟩:∃I z,L=I++[z]:=⟨L.dropLast,L.getLast hne,(mJ hne).symm⟩;rw[CT]at hPT hfew;rw[List.getLast?_concat]at hPT;rw[u7,aG]at hlen;clear hne;refine qL.q9 func18 [.cell 2 34,.tmp 3] ntmps18 λC w g root=>?_;have fx:=qW;have p1:=hsp;refine zk ?_
 repeat((first|refine qP (id:=13) Nt mixed ?_|refine qP (id:=14) Nu mixed ?_);refine vk ?_;refine zk ?_)
 clear fx p1;refine zK (λn st=>∃(i:Nat)(p:qC),n=O I-i/\i<=O I/\ue (I.take i) ug=Z p/\eT p i/\st.tm 2=.pt (.s 2) 0/\st.hp (.s 2)=Z (.row 1 [[.hs (.c (.s 2) 0 0) 4 0 0]])/\st.hp (.c (.s 2) 0 0)=Z (.row 4 [])/\st.tm 4=.pt (.s 4) 0/\st.hp (.s 4)=Z (.row 1 [[.hs (.c (.s 4) 0 0) 4 0 (O p)]])/\uz st.hp (.c (.s 4) 0 0) p/\st.tm 5=vD (I++[z])/\st.tm 6=iv i) (O I) ?_ ?_
 .refine⟨0,ug,rfl,qA,rfl,UP,qB,qB,qB,qB,oS,⟨by simp[ug,yt],λj r hj=>?_,λj r hj=>?_⟩,qB,qB⟩
  all_goals
   match j,hj with
   |0,hj=>simp[ug]at hj;subst hj;simp
   |j+1,hj=>simp[ug]at hj
 rintro n st - - ⟨i,p,rfl,hi,hpp,hG,h2,hp2,hp2',h4,hp4,⟨ho1,ho2,ho3⟩,h5,h6⟩;obtain⟨hG1,hG2,hG3⟩:=id hG;have hw1:IntKind.i64.wrap ((i:Int)+1)=(i:Int)+1:=qk qA qA;by_cases hil:i<O I
 .have hlt:(i:Int)+1<(O I:Int)+1:=qA;obtain⟨l,hl⟩:=gX hil;obtain⟨_,hlE⟩:=gS hl;have hla:(I++[z])[i]?=Z l:=by rw[ua hil];exact hl
  obtain⟨hlaL,hlaE⟩:=gS hla;have hlb:O l<=1048576:=by have:=hpart l (gM hla);omega
  have hrh:=qBt gl l qA;have fx:=zy h5 h6 hw1 hlt hla hlaE<|hil;have e1:=hrh;refine ol ?_<|@fx;clear fx e1;rintro K hK y H1 ⟨k,rfl,hk2,hk3,hkk⟩;refine⟨qB,?_⟩;have hk2':=ap hk2 qB;have hk3':=ap hk3 qB
  cases hr:dF l with
  |some k'=>
   obtain rfl:=hkk k' hr;obtain⟨hkb,hkp⟩:=ν hr;have hadd:aE p l=Z (p++[k']):=by simp[aE,hr]
   have hkb0:O k'.body=0:=by rw[hkb];rfl
   refine ol ?_<|jA h4 hp4 ho1 hk2' hk3' hr h6<|hw1;refine⟨O I-(i+1),qA,i+1,p++[k'],rfl,qA,N6 hl hpp hadd,eT.head hG ⟨hkb,qA⟩,jS,jV,kD,vO,qB,⟨?_,λd r hd=>?_,λd r hd=>?_⟩,jh,by simp[hw1]⟩
   .rw [Dz];simp[hkb0]
    try exact jg qB
   all_goals
    rw[iw]at hd
    split at hd
    .rename_i hdl;obtain⟨r0,hr0'⟩:∃r0,p[d]?=Z r0:=⟨_,gE hdl⟩;rw[hr0']at hd;obtain rfl:=sI hd;have hdn:¬O p=d:=qA;have hdn':¬d=O p:=qA;simp[ho2 d _ hr0',ho3 d _ hr0',hdn,hdn']
    .rename_i hdl
     have hde:d=O p:=by
      have h1:=(gS hd).1;simp at h1;omega
     subst hde;rw[Nat.sub_self]at hd;simp at hd;subst hd;simp[hk2',hk3',hkb]
  |none=>
   have hrs:=qBu gl l qA;have fx:=zx h5 h6 hla hlaE hil<|hr;have e1:=hrs;refine ol ?_<|@fx;clear fx e1;rintro K hK y H2 ⟨⟨sk,so,sa,sb⟩,rfl,hSS⟩;refine⟨qB,?_⟩
   cases hs2:fB l with
   |none=>
    have hadd:aE p l=Y:=by simp[aE,hr,hs2]
    rw[X5 hl hpp hadd]at hPT;have hno:RC=Y:=hPT;refine ol ?_<|qz h2 hp2 hp2'<|hs2;refine qE [(.c (.s 2) 0 0,root)] (.one rfl) bp ⟨[],y4,⟨qB,λj r hj=>sx,λj r hj=>sx⟩,y4⟩
   |some S'=>
    obtain rfl:=hSS S' hs2;obtain⟨k,hk⟩:∃k,p[O p - 1]?=Z k:=⟨_,gE qA⟩;obtain⟨jN,hkE⟩:=gS hk;have hwl:IntKind.i64.wrap ((O p:Int)-1)=((O p-1:Nat):Int):=iB;have hok:=ho3 _ _ hk;have hkb:=hG3 k (gM hk);have hadd:aE p l=Z (setBody p (O p-1) (k.body++[⟨sk,so,sa,sb⟩])):=by rw[<- Ng hG1 hk];simp[aE,hr,hs2]
    have hgot:=eT.put (S:=⟨sk,so,sa,sb⟩) hG hk;have jz:=B8 (n:=.c (.s 4) 0 0) (a:=65) (i:=O p-1) (len:=O k.body+1) (p:=p) (L:=k.body++[⟨sk,so,sa,sb⟩]) qB qB qB;have hsl:O (setBody p (O p-1) (k.body++[⟨sk,so,sa,sb⟩]))=O p:=sG;refine ol ?_<|jU h4 hp4 h6 hw1 ho1 hs2 hwl hk hkE jN<|hok;refine⟨O I-(i+1),qA,i+1,_,rfl,qA,N6 hl hpp hadd,hgot,jS,jV,kD,vO,by simp[hp4,hsl],⟨by simp[jz],λd r hd=>?_,λd r hd=>?_⟩,jh,by simp[hw1]⟩
    all_goals
     have hdp:d<O p:=by have h1:=(gS hd).1;rwa[hsl]at h1
     obtain⟨r0,hr0'⟩:∃r0,p[d]?=Z r0:=⟨_,gE hdp⟩;rw[xt hr0']at hd;obtain rfl:=sI hd;by_cases hpd:O p-1=d
     .subst hpd;simp[ho2 _ r0 hr0']
     .simp [ho2 d r0 hr0',ho3 d r0 hr0',hpd,show ¬d=O p-1 from λe=>hpd e.symm]
 .have hge:i=O I:=qA;subst hge;rw[kC]at hpp;rw[hpp]at hPT;have hfw:=hfew p hpp;have hsm:jm p:=eT.bc ⟨hG1,qA,λk hk=>by have:=hG3 k hk;omega⟩;have hnlt:¬(O I:Int)+1<(O I:Int)+1:=qA;have hwl:IntKind.i64.wrap (O I:Int)=(O I:Int):=qk qA qA;have hla:(I++[z])[O I]?=Z z:=qB;obtain⟨hlaL,hlaE⟩:=gS hla;have hlI:O I<O I+1:=qA;have hvp:=lu gl p hsm;by_cases hz:z=[]
  .have hzb:(z==[])=B:=by rw[hz];rfl
   cases hv:j2 p
   .have hno:RC=Y:=by rw[hPT];simp[hv]
    rw[hv]at hvp;have fx:=qg h2 hp2 hp2' h4 hp4 h5 h6 hw1 hnlt hla hlaE hlI<|ql hwl ho1<|hzb;have c1:=hvp;refine ol ?_<|@fx;clear fx c1;refine qE [(.c (.s 4) 0 0,root)] (.one rfl) bp ⟨p,y4,⟨?_,λj r hj=>?_,λj r hj=>?_⟩,y4⟩
    .simp [ho1,wV (n:=.c (.s 4) 0 0) (m:=root) (f:=zH zl [(.c (.s 4) 0 0,root)]) (p:=p) qB]
    .simp [ho2 j r hj]
    .simp [ho3 j r hj]
   .have hyes:RC=Z p:=by rw[hPT];simp[hv,hz]
    rw[hv]at hvp;have fx:=qg h2 hp2 hp2' h4 hp4 h5 h6 hw1 hnlt hla hlaE hlI<|ql hwl ho1<|hzb;have c1:=hvp;refine ol ?_<|@fx;clear fx c1;refine qE [(.c (.s 4) 0 0,root)] (.one rfl) bp ⟨p,tw,⟨?_,λj r hj=>?_,λj r hj=>?_⟩,tw⟩
    .simp [ho1,wV (n:=.c (.s 4) 0 0) (m:=root) (f:=zH zl [(.c (.s 4) 0 0,root)]) (p:=p) qB]
    .simp [ho2 j r hj]
    .simp [ho3 j r hj]
  .have hzb:(z==[])=M:=by simpa using hz
   have hno:RC=Y:=by rw[hPT];simp[hz]
   refine ol ?_<|qg h2 hp2 hp2' h4 hp4 h5 h6 hw1 hnlt hla hlaE hlI<|ql hwl ho1<|hzb;refine qE [(.c (.s 4) 0 0,root)] (.one rfl) bp ⟨p,y4,⟨?_,λj r hj=>?_,λj r hj=>?_⟩,y4⟩
   .simp [ho1,wV (n:=.c (.s 4) 0 0) (m:=root) (f:=zH zl [(.c (.s 4) 0 0,root)]) (p:=p) qB]
   .simp [ho2 j r hj]
   .simp [ho3 j r hj]
end Go.Proofs.YtjgpejikjhojcaaGreatDoor
end
