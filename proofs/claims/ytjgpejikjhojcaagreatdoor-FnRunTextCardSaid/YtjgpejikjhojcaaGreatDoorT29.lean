import Derived.Test.YtjgpejikjhojcaaGreatDoorT28
import Derived.Test.YtjgpejikjhojcaaGreatDoorT23
set_option linter.unusedSimpArgs false
set_option linter.unusedVariables false
set_option maxRecDepth 100000
set_option maxHeartbeats 4000000

section
namespace Go.Proofs.YtjgpejikjhojcaaGreatDoor
open Go Go.Hm Go.Proofs Tryz
abbrev Vj:qb:=da<|.l 7 [4,3,2,1,0]<|.l 8 [4,3,2,1,0]<|.l 9 [0]<|.q 10<|.q 11<|.l 12 []<|.done
attribute [local simp] uo
theorem Ko {a b:List q9} {p q:qC} (h:kV a p=some q):kV (a++b) p=kV b q:=by
 induction a generalizing p with
 | nil=>simp [kV] at h;subst h;rfl
 | cons l a ih =>
  rw [fF];simp only [kV] at h ⊢
  cases hl:aQ p l with
  | none=>rw [hl] at h;cases h
  | some r=>rw [hl] at h;exact ih h
theorem xl {a b:List q9} {l:q9} {p q:qC} (h:kV a p=some q) (hl:aQ q l=none):kV (a++l::b) p=none:=by
 rw [Ko h];simp [kV,hl]
theorem Kq {a:List q9} {l:q9} {p q r:qC} (h:kV a p=some q) (hl:aQ q l=some r):kV (a++[l]) p=some r:=by
 rw [Ko h];simp [kV,hl]
abbrev Xr:qb:=da<|.l 7 [4,3,2,1,0]<|.l 8 [4,3,2,1,0]<|.l 9 [3,2,1,0]<|.q 10<|.q 11<|.l 12 [10]<|.done
structure dF (p:qC) (n:Nat):Prop where
 pos:1<=p.length
 len:p.length<=n+1
 each:∀ k∈p,k.body.length<=n/\k.params.length<=1
theorem RT:dF uO 0:=⟨mU,mU,mU⟩
theorem dF.head {p:qC} {n:Nat} {k:qT} (h:dF p n) (hk:k.body.length<=n+1/\k.params.length<=1):dF (p++[k]) (n+1) :=
 ⟨qB,by simp;exact h.len,λx hx=>by
   rw [jo,yj] at hx;rcases hx with hx|rfl
   .have:=h.each x hx;omega
   .exact hk⟩
theorem LC {p:qC} {k:qT} {S:qP} (hp:1<=p.length) (hk:p[p.length - 1]?=some k):iB p S=setBody p (p.length - 1) (k.body++[S]):=by
 unfold iB setBody;apply vl;intro i;simp only [nz];by_cases e:p.length - 1=i
 .subst e;simp [hk]
 .simp [e]
theorem dF.put {p:qC} {n:Nat} {k:qT} {S:qP} (h:dF p n) (hk:p[p.length - 1]?=some k):dF (setBody p (p.length - 1) (k.body++[S])) (n+1):=by
 have hkb:=h.each k (gM hk);refine⟨by simp;exact h.pos,by simp;have:=h.len;omega,λx hx=>?_⟩;obtain⟨r,hr,e1,e2⟩:=AB hx;have:=h.each r hr;rw [e1];rcases e2 with e|e <;> rw [e]
 .omega
 .simp;omega
theorem Mc {c:UInt8} {s:q9}:((zI c s).map List.length).sum+(zI c s).length=s.length+1:=by
 induction s with
 | nil=>simp [zI]
 | cons x l ih =>
  rw [zI]
  split
  .simp;omega
  .split
   .rename_i w ws e;rw [e] at ih;simp at ih ⊢;omega
   .rename_i e;exact absurd e (iJ)
theorem Q3 {s:q9} {p:qC} (hs:s.length<=1048576) (h:kV (zI 10 s).dropLast uO=some p):(zI 10 s).dropLast.length<=1048575:=by
 have hsum:=Mc (c:=10) (s:=s);have hne:=iJ (c:=10) (l:=s);generalize zI 10 s=L at h hsum hne ⊢;obtain⟨I,z,rfl⟩:∃ I z,L=I++[z]:=⟨L.dropLast,L.getLast hne,(mH hne).symm⟩;rw [tJ] at h ⊢
 cases I with
 | nil=>simp
 | cons l r =>
  have hl:l≠[]:=by
   rintro rfl;have hno:aQ uO []=none:=rfl;simp [kV,hno] at h
  have h1:=List.length_pos_iff.2 hl;simp at hsum ⊢;omega
def l4 (s:q9):Option qC:=if (zI 10 s).getLast?=some [] then kV (zI 10 s).dropLast uO else none
theorem ff {A G G2:Prop} (k:G2) (x:A) (h:A->jP G2->G:=by
 intro fx kk;refine qQ ?_
 repeat ((first|refine qf (id:=9) Vj mixed ?_);refine zQ ?_;refine qQ ?_)
 exact kk.h):G:=h x ⟨k⟩
theorem Wi (gl) {m:Int} (hgm:gl 3=some [.sc (.int .i64 m)]) (hgs':gl 1=some ((df yM).map AV.sc)) (s:q9) (hs:s.length<=1048576) :
  qV prog gl 36 zf [tx s] jv (λr y H'=>∃ p,l4 s=some p/\y=.agg [.hs r 4 0 p.length]/\uf H' r p/\dF p 1048575) (cT (l4 s=none)):=by
 have hlen:=AI (c:=10) (s:=s);have hpart:=AJ (c:=10) (s:=s);have hsp:=Rt gl hgm s hs;have hgood:(zI 10 s).getLast?=some []->l4 s=kV (zI 10 s).dropLast uO:=λe=>by unfold l4;rw [if_pos e]
 have hbad:(zI 10 s).getLast?≠some []->l4 s=none:=λe=>by unfold l4;rw [if_neg e]
 have hfew:∀ p,kV (zI 10 s).dropLast uO=some p->(zI 10 s).dropLast.length<=1048575:=λp h=>Q3 hs h;generalize l4 s=RC at hgood hbad ⊢;generalize zI 10 s=L at hlen hpart hsp hgood hbad hfew;refine qV.qa func36 [.cell 2 34] ntmps36 (λ_ h=>wH) λC w g root hroot=>?_;refine ff ?_<|qS;intro K hK;refine qA2 (ha:=As) (hF:=hsp) (hE:=λx s hx hq=>⟨[],.nil,hx.tr,hbad hq⟩) (h:=?_);rintro y H1 ⟨hlast,rfl,hH1⟩;have hRC:=hgood hlast;have hdl:∀ v∈L.dropLast,v.length<=1048577:=λv hv=>by have:=hpart v (List.dropLast_subset _ hv);omega
 have hdn:L.dropLast.length<=1048577:=by rw [List.length_dropLast];omega
 generalize L.dropLast=I at hH1 hdl hdn hRC hfew;clear hlast hpart hlen hsp hgood hbad;refine ff ?_<|qS;refine zU (λn st=>∃ (dn ls:List q9) (p:qC) (x:AV),n=ls.length/\I=dn++ls/\kV dn uO=some p/\dF p dn.length/\st.tm 4=.pt (.s 4) 0/\st.hp (.s 4)=some (.row 2 [[uT ls,x]])/\st.tm 2=.pt (.s 2) 0/\st.hp (.s 2)=some (.row 1 [[.hs (.c (.s 2) 0 0) 4 0 0]])/\st.hp (.c (.s 2) 0 0)=some (.row 4 [])/\st.tm 3=.hs (.s 3) 4 0 p.length/\uf st.hp (.s 3) p/\(x=.hs (.c (.s 4) 0 1) 1 0 0\/∃ ws,x=uT ws)) I.length ?_ ?_
 .refine⟨[],I,uO,.hs (.c (.s 4) 0 1) 1 0 0,rfl,rfl,rfl,RT,qB,ip,qB,qB,qB,mU,⟨by simp [uO,yX],λj r hj=>?_,λj r hj=>?_⟩,.inl rfl⟩
  all_goals
   match j,hj with
   | 0,hj=>simp [uO] at hj;subst hj;simp
   | j+1,hj=>simp [uO] at hj
 clear hH1;rintro n st - hgs ⟨dn,ls,p,x,rfl,rfl,hpp,hG,h4,hp4,h2,hp2,hp2',h3,⟨ho1,ho2,ho3⟩,hx⟩;replace hgs:st.gl=gl:=hgs;rw [kC] at hdn;have hlsb:∀ v∈ls,v.length<=1048577:=λv hv=>hdl v rC;obtain⟨hG1,hG2,hG3⟩:=hG;rcases hx with rfl|⟨ws0,rfl⟩
 case' inl =>
  refine ff ?_<|zM h4 hp4 h3 h2<|hp2;intro K hK;have fx:=aI h4 h4;refine Cd (.s 4) (.u 1 0 0) (hext:=rfl) (hs:=aG) (hF:=KV _ hgm _ ls (.hs (.c (.u 1 0 0) 0 1) 1 0 0) hlsb aG) (h:=?_)
 case' inr =>
  refine ff ?_<|zM h4 hp4 h3 h2<|hp2;intro K hK;have fx:=aI h4 h4;refine Cd (.s 4) (.u 1 0 0) (hext:=rfl) (hs:=aG) (hF:=KV _ hgm _ ls (uT ws0) hlsb aG) (h:=?_)
 all_goals
  rintro y H1 hy;clear fx;rcases hy with⟨rfl,rfl⟩|⟨l,ls',rfl,rfl,hH1⟩
  .have hfw:=hfew p (by rw [pf];exact hpp);rw [pf] at hfw;refine ff ?_<|j2 h4 h3 h2 hp2 hp2'<|ho1;refine qG [(.c (.s 2) 0 0,root)] (.one rfl) bI ⟨p,by rw [hRC,pf];exact hpp,qB,⟨?_,λj r hj=>?_,λj r hj=>?_⟩,⟨hG1,qA,λk hk=>by have:=hG3 k hk;omega⟩⟩
   .simp [ho1,kr (n:=.c (.s 2) 0 0) (m:=root) (f:=zE zf [(.c (.s 2) 0 0,root)]) (p:=p) qB]
   .simp [ho2 j r hj]
   .simp [ho3 j r hj]
  have hlb:=hlsb l qB;have hwb:∀ v∈zI 32 l,v.length<=1048577:=λv hv=>by have:=AJ v hv;omega
  refine ff ?_<|qk h4 h3<|hH1;intro K hK;refine ua (λst=>st.gl=gl/\st.tm 15=.pt (.s 4) 0/\st.tm 4=.pt (.s 4) 0/\st.hp (.s 4)=some (cp ls' (zI 32 l))/\st.tm 2=.pt (.s 2) 0/\st.hp (.s 2)=some (.row 1 [[.hs (.c (.s 2) 0 0) 4 0 0]])/\st.hp (.c (.s 2) 0 0)=some (.row 4 [])/\st.tm 3=.hs (.s 3) 4 0 p.length/\uf st.hp (.s 3) p) ⟨by simp [hgs],yr,yr,ip,jp,jq,uh,jj,⟨uw,λj r hj=>wF,λj r hj=>wG⟩⟩ ?_;clear h4 h3 h2 hp2 hp2' ho1 ho2 ho3 hp4 hH1 hgs;rintro st ⟨hgs,h15,h4,hp4,h2,hp2,hp2',h3,⟨ho1,ho2,ho3⟩⟩;have fx:=aI h15 h15;refine AZ (.s 4) (.u 1 0 0) (hext:=rfl) (hs:=aG) (hF:=G9 _ _ ls' (zI 32 l) aG) (hE:=λx s hx hq=>⟨[],.nil,hx.tr,by rw [hRC];exact xl hpp (by simp [aQ,hq])⟩) (h:=?_);rintro y H2 ⟨v,ws,hvs,rfl,hH2⟩;clear fx;have hww:∀ x∈ws,x.length<=1048577:=λx hx=>hwb x (by rw [hvs];simp [hx]);by_cases hin:v=wn
  .have e1:(v==[105,110])=true:=by rw [hin];rfl
   refine ff ?_<|yz h4 h3 h2 hp2 hp2' ho1 hH2 hgs<|e1;intro K hK;have fx:=aI h4 h4;refine AZ (.s 4) (.u 1 0 0) (hext:=rfl) (hs:=il) (hF:=Wc _ _ ls' ws hww il) (hE:=λx s hx hq=>⟨[],.nil,hx.tr,by rw [hRC];exact xl hpp (by simp [aQ,hvs,hin,hq])⟩) (h:=?_);rintro y H3 ⟨k,ws',hh,rfl,hk2,hk3,hH3⟩;clear fx;obtain⟨hkp,hkb⟩:=R8 hh;have hkb0:k.body.length=0:=by rw [hkb];rfl
   refine ff ?_<|yz h4 h3 h2 hp2 hp2' ho1 hH3 hk2<|hk3;intro K hK;have fx:=aI h4 h4;refine AZ (.s 4) (.u 1 0 0) (hext:=rfl) (hs:=oK) (hF:=I9 _ _ ls' ws' oK) (hE:=λx s hx hq=>⟨[],.nil,hx.tr,by rw [hRC];exact xl hpp (by simp [aQ,hvs,hin,hh];cases ws' <;> simp at hq ⊢)⟩) (h:=?_);rintro y H4 ⟨rfl,hH4⟩;clear fx;refine ff ?_<|vA h4 h3 h2 hp2 hp2' ho1 hH3 hk2 hk3<|hH4;have hli:aQ p l=some (p++[k]):=by simp [aQ,hvs,hin,hh]
   refine⟨ls'.length,qB,dn++[l],ls',p++[k],uT [],rfl,qB,Kq hpp hli,?_,yr,by simp [hH4],jp,jq,uh,qB,⟨?_,λd r hd=>?_,λd r hd=>?_⟩,.inr ⟨[],rfl⟩⟩
   .have:=dF.head ⟨hG1,hG2,hG3⟩ (k:=k) ⟨qA,hkp⟩
    simpa using this
   .rw [By];simp [hkb0]
    try exact yU qB
   all_goals
    rw [gK] at hd
    split at hd
    .rename_i hdl;obtain⟨r0,hr0'⟩:∃ r0,p[d]?=some r0:=⟨_,gE hdl⟩;rw [hr0'] at hd;obtain rfl:=sI hd;have hdn:¬ p.length=d:=qA;have hdn':¬ d=p.length:=qA;simp [ho2 d _ hr0',ho3 d _ hr0',hdn,hdn']
    .rename_i hdl
     have hde:d=p.length:=by
      have h1:=(gS hd).1;simp at h1;omega
     subst hde;rw [gI] at hd;simp at hd;subst hd;simp [hk2,hk3,hkb]
  .have e1:(v==[105,110])=false:=by simpa [wn] using hin
   obtain⟨k,hk⟩:∃ k,p[p.length - 1]?=some k:=⟨_,gE qA⟩;obtain⟨jG,hkE⟩:=gS hk;have hwl:IntKind.i64.wrap ((p.length:Int) - 1)=((p.length - 1:Nat):Int):=ga;have hok:=ho3 _ _ hk;have hkb:=hG3 k (gM hk);have fx:=qr h4 h3 h2 hp2 hp2' ho1 hH2 hgs e1 hwl hk hkE<|aI jG<|hok;refine qQ ?_;refine qAC (λx=>gB x/\aQ p l=none) (λx s hx=>⟨[],.nil,hx.1.tr,by rw [hRC];exact xl hpp hx.2⟩) Xr mixed qY qY ?_;intro K hK;refine ny (h:=?_);refine ny (h:=?_);refine ny (h:=?_);refine ny (h:=?_);refine ny (h:=?_);refine ny (h:=?_);refine ny (h:=?_);refine OT (h:=?_);refine AZ (.s 4) (.u 1 0 0) (hext:=rfl) (hs:=il) (hF:=Wm _ (by simp [hgs];exact hgs') _ v ls' ws hww il) (hE:=λx s hx hq=>⟨hx,by simp [aQ,hvs,hin,hq]⟩) (h:=?_);rintro y H3 ⟨⟨sk,so,sa,sb⟩,ws',hst,rfl,hH3⟩;clear fx;refine aI ?_ (O7 ?_)
   .have fx:=jJ h4 h3 ho1 hH3 hk hkE jG<|hok
    repeat' (first|exact iK|refine iQ (h2:=?_))
   have yG:=xk (n:=.s 3) (a:=38) (i:=p.length - 1) (len:=k.body.length+1) (p:=p) (L:=k.body++[⟨sk,so,sa,sb⟩]) qB qB qB;have hsl:(setBody p (p.length - 1) (k.body++[⟨sk,so,sa,sb⟩])).length=p.length:=pK;refine ff ?_<|yD h4 h3 h2 hp2 hp2' ho1 hH3 hk hkE jG<|hok;intro K hK;have fx:=aI h4 h4;refine AZ (.s 4) (.u 1 0 0) (hext:=rfl) (hs:=oK) (hF:=I9 _ _ ls' ws' oK) (hE:=λx s hx hq=>⟨[],.nil,hx.tr,by rw [hRC];exact xl hpp (by simp [aQ,hvs,hin,hst];cases ws' <;> simp at hq ⊢)⟩) (h:=?_);rintro y H4 ⟨rfl,hH4⟩;clear fx;refine ff ?_<|yD h4 h3 h2 hp2 hp2' ho1 hH3 hk hkE jG<|aI hok<|hH4;have hli:aQ p l=some (setBody p (p.length - 1) (k.body++[⟨sk,so,sa,sb⟩])):=by rw [<- LC hG1 hk];simp [aQ,hvs,hin,hst]
   have hgot:=dF.put ⟨hG1,hG2,hG3⟩ (S:=⟨sk,so,sa,sb⟩) hk;refine⟨ls'.length,qB,dn++[l],ls',_,uT [],rfl,qB,Kq hpp hli,by simpa using hgot,yr,by simp [hH4],jp,jq,uh,by simp [h3,hsl],⟨by simp [yG],λd r hd=>?_,λd r hd=>?_⟩,.inr ⟨[],rfl⟩⟩
   all_goals
    have hdp:d<p.length:=by have h1:=(gS hd).1;rwa [hsl] at h1
    obtain⟨r0,hr0'⟩:∃ r0,p[d]?=some r0:=⟨_,gE hdp⟩;rw [s9 hr0'] at hd;obtain rfl:=sI hd;by_cases hpd:p.length - 1=d
    .subst hpd;simp [ho2 _ r0 hr0']
    .simp [ho2 d r0 hr0',ho3 d r0 hr0',hpd,show ¬ d=p.length - 1 from λe=>hpd e.symm]
end Go.Proofs.YtjgpejikjhojcaaGreatDoor
end
section
namespace Go.Proofs.YtjgpejikjhojcaaGreatDoor
open Go Go.Hm Go.Proofs Tryz
abbrev LQ:qb:=CN<|.l 10 [8,7,6,5,4,3,2,1,0]<|.l 11 [3,2,1,0]<|.q 12<|.q 13<|.l 14 []<|.done
abbrev LR:qb:=CN<|.l 10 [4,3,2,1,0]<|.q 11<|.l 12 [11,4,3,2,1]<|.l 13 []<|.done
attribute [local simp] uo
theorem Kr {a b:List q9} {p q:qC} (h:uN a p=some q):uN (a++b) p=uN b q:=by
 induction a generalizing p with
 | nil=>simp [uN] at h;subst h;rfl
 | cons l a ih =>
  rw [fF];simp only [uN] at h ⊢
  cases hl:wT p l with
  | none=>rw [hl] at h;cases h
  | some r=>rw [hl] at h;exact ih h
theorem Ks {L:List q9} {i:Nat} {l:q9} {p q r:qC} (hi:L[i]?=some l) (h:uN (L.take i) p=some q) (hl:wT q l=some r):uN (L.take (i+1)) p=some r:=by
 rw [vM,hi,Kr h];simp [uN,hl]
theorem Uj {L:List q9} {i:Nat} {l:q9} {p q:qC} (hi:L[i]?=some l) (h:uN (L.take i) p=some q) (hl:wT q l=none):uN L p=none:=by
 have e:L=L.take i++l::L.drop (i+1):=by
  obtain⟨h1,hE⟩:=gS hi
  conv=>lhs;rw [<- pY i L]
  rw [gO h1,hE]
 rw [e,Kr h];simp [uN,hl]
structure dG (p:qC) (n:Nat):Prop where
 pos:1<=p.length
 len:p.length<=n+1
 each:∀ k∈p,k.body.length<=n/\k.params.length<=1048576
theorem RU:dG uO 0:=⟨mU,mU,mU⟩
theorem dG.head {p:qC} {n:Nat} {k:qT} (h:dG p n) (hk:k.body=[]/\k.params.length<=1048576):dG (p++[k]) (n+1) :=
 ⟨qB,by simp;exact h.len,λx hx=>by
   rw [jo,yj] at hx;rcases hx with hx|rfl
   .have:=h.each x hx;omega
   .rw [hk.1];exact⟨qB,hk.2⟩⟩
theorem dG.put {p:qC} {n:Nat} {k:qT} {S:qP} (h:dG p n) (hk:p[p.length - 1]?=some k):dG (setBody p (p.length - 1) (k.body++[S])) (n+1):=by
 have hkb:=h.each k (gM hk);refine⟨by simp;exact h.pos,by simp;have:=h.len;omega,λx hx=>?_⟩;obtain⟨r,hr,e1,e2⟩:=AB hx;have:=h.each r hr;rw [e1];rcases e2 with e|e <;> rw [e]
 .omega
 .simp;omega
theorem dG.ft {p:qC} (h:dG p 1048575):uA p :=
 ⟨by have:=h.len;omega,λk hk=>(h.each k hk).2,λk hk=>EA⟩
theorem Q4 {s:q9} {p:qC} (hs:s.length<=1048576) (h:uN (zI 10 s).dropLast uO=some p):(zI 10 s).dropLast.length<=1048575:=by
 have hsum:=Mc (c:=10) (s:=s);have hne:=iJ (c:=10) (l:=s);generalize zI 10 s=L at h hsum hne ⊢;obtain⟨I,z,rfl⟩:∃ I z,L=I++[z]:=⟨L.dropLast,L.getLast hne,(mH hne).symm⟩;rw [tJ] at h ⊢
 cases I with
 | nil=>simp
 | cons l r =>
  have hl:l≠[]:=by
   rintro rfl;have hno:wT uO []=none:=qc;simp [uN,hno] at h
  have h1:=List.length_pos_iff.2 hl;simp at hsum ⊢;omega
theorem Wa {l:q9} {k:qT} (h:cA l=some k):k.body=[]/\k.params.length<=l.length:=by
 obtain⟨h1,h2,h3⟩:=L4 h;refine⟨h3,?_⟩;rw [<- h1];unfold wl
 split
 .rw [h2.cls (by assumption)];simp
 .have hf:∀ ns:List Int,ns.length<=(ns.flatMap λn=>(32:UInt8)::jT n).length:=by
   intro ns
   induction ns with
   | nil=>simp
   | cons n ns ih=>simp only [List.flatMap_cons,kC,cQ] at ih ⊢;omega
  have:=hf k.params;rw [vw,kC];omega
theorem mu {A G G2:Prop} (k:G2) (x:A) (h:A->jP G2->G:=by
 intro fx kk;refine qQ ?_
 repeat ((first|refine qf (id:=13) LQ mixed ?_|refine qf (id:=14) LR mixed ?_);refine zQ ?_;refine qQ ?_)
 exact kk.h):G:=h x ⟨k⟩
theorem M5 (gl) (s:q9) (hs:s.length<=1048576):qM prog gl 18 [tx s] (λr y H'=>∃ p:qC,y=.zT [.agg [.hs r 4 0 p.length],bv (ku s).isSome]/\uf H' r p/\∀ q,ku s=some q->p=q):=by
 have hsp:=Yl gl s qA;have hlen:=AI (c:=10) (s:=s);have hpart:=AJ (c:=10) (s:=s);have hne:=iJ (c:=10) (l:=s)
 have hPT:ku s=match uN (zI 10 s).dropLast uO with
  | some p=>if (zI 10 s).getLast?=some []/\ye p=true then some p else none
  | none=>none:=rfl
 have hfew:∀ p,uN (zI 10 s).dropLast uO=some p->(zI 10 s).dropLast.length<=1048575:=λp h=>Q4 hs h;generalize ku s=RC at hPT ⊢;generalize zI 10 s=L at hlen hpart hsp hne hPT hfew;obtain⟨I,z,rfl⟩:∃ I z,L=I++[z]:=⟨L.dropLast,L.getLast hne,(mH hne).symm⟩;rw [tJ] at hPT hfew;rw [List.getLast?_concat] at hPT;rw [kC,b8] at hlen;clear hne;refine qM.qa func18 [.cell 2 34,.tmp 3] ntmps18 λC w g root=>?_;have fx:=qS;have p1:=hsp;refine j5 ?_
 repeat ((first|refine qf (id:=13) LQ mixed ?_|refine qf (id:=14) LR mixed ?_);refine kn ?_;refine j5 ?_)
 clear fx p1;refine zU (λn st=>∃ (i:Nat) (p:qC),n=I.length - i/\i<=I.length/\uN (I.take i) uO=some p/\dG p i/\st.tm 2=.pt (.s 2) 0/\st.hp (.s 2)=some (.row 1 [[.hs (.c (.s 2) 0 0) 4 0 0]])/\st.hp (.c (.s 2) 0 0)=some (.row 4 [])/\st.tm 4=.pt (.s 4) 0/\st.hp (.s 4)=some (.row 1 [[.hs (.c (.s 4) 0 0) 4 0 p.length]])/\uf st.hp (.c (.s 4) 0 0) p/\st.tm 5=uT (I++[z])/\st.tm 6=iv i) I.length ?_ ?_
 .refine⟨0,uO,rfl,qA,rfl,RU,qB,qB,qB,qB,mU,⟨by simp [uO,yX],λj r hj=>?_,λj r hj=>?_⟩,qB,qB⟩
  all_goals
   match j,hj with
   | 0,hj=>simp [uO] at hj;subst hj;simp
   | j+1,hj=>simp [uO] at hj
 rintro n st - - ⟨i,p,rfl,hi,hpp,hG,h2,hp2,hp2',h4,hp4,⟨ho1,ho2,ho3⟩,h5,h6⟩;obtain⟨hG1,hG2,hG3⟩:=id hG;have hw1:IntKind.i64.wrap ((i:Int)+1)=(i:Int)+1:=qi qA qA;by_cases hil:i<I.length
 .have hlt:(i:Int)+1<(I.length:Int)+1:=qA;obtain⟨l,hl⟩:=gX hil;obtain⟨_,hlE⟩:=gS hl;have hla:(I++[z])[i]?=some l:=by rw [vn hil];exact hl
  obtain⟨hlaL,hlaE⟩:=gS hla;have hlb:l.length<=1048576:=by have:=hpart l (gM hla);omega
  have hrh:=Ye gl l qA;have fx:=jQ h5 h6 hw1 hlt hla hlaE<|hil;have e1:=hrh;refine mu ?_<|@fx;clear fx e1;rintro K hK y H1 ⟨k,rfl,hk2,hk3,hkk⟩;refine⟨qB,?_⟩;have hk2':=aN hk2 qB;have hk3':=aN hk3 qB
  cases hr:cA l with
  | some k' =>
   obtain rfl:=hkk k' hr;obtain⟨hkb,hkp⟩:=Wa hr;have hadd:wT p l=some (p++[k']):=by simp [wT,hr]
   have hkb0:k'.body.length=0:=by rw [hkb];rfl
   refine mu ?_<|jJ h4 hp4 ho1 hk2' hk3' hr h6<|hw1;refine⟨I.length - (i+1),qA,i+1,p++[k'],rfl,qA,Ks hl hpp hadd,dG.head hG ⟨hkb,qA⟩,jp,jq,uh,yr,qB,⟨?_,λd r hd=>?_,λd r hd=>?_⟩,yV,rA⟩
   .rw [By];simp [hkb0]
    try exact yU qB
   all_goals
    rw [gK] at hd
    split at hd
    .rename_i hdl;obtain⟨r0,hr0'⟩:∃ r0,p[d]?=some r0:=⟨_,gE hdl⟩;rw [hr0'] at hd;obtain rfl:=sI hd;have hdn:¬ p.length=d:=qA;have hdn':¬ d=p.length:=qA;simp [ho2 d _ hr0',ho3 d _ hr0',hdn,hdn']
    .rename_i hdl
     have hde:d=p.length:=by
      have h1:=(gS hd).1;simp at h1;omega
     subst hde;rw [gI] at hd;simp at hd;subst hd;simp [hk2',hk3',hkb]
  | none =>
   have hrs:=Yf gl l qA;have fx:=j2 h5 h6 hla hlaE hil<|hr;have e1:=hrs;refine mu ?_<|@fx;clear fx e1;rintro K hK y H2 ⟨⟨sk,so,sa,sb⟩,rfl,hSS⟩;refine⟨qB,?_⟩
   cases hs2:dY l with
   | none =>
    have hadd:wT p l=none:=by simp [wT,hr,hs2]
    rw [Uj hl hpp hadd] at hPT;have hno:RC=none:=hPT;refine mu ?_<|zC h2 hp2 hp2'<|hs2;refine qG [(.c (.s 2) 0 0,root)] (.one rfl) bI ⟨[],yF,⟨qB,λj r hj=>rS,λj r hj=>rS⟩,yF⟩
   | some S' =>
    obtain rfl:=hSS S' hs2;obtain⟨k,hk⟩:∃ k,p[p.length - 1]?=some k:=⟨_,gE qA⟩;obtain⟨jG,hkE⟩:=gS hk;have hwl:IntKind.i64.wrap ((p.length:Int) - 1)=((p.length - 1:Nat):Int):=ga;have hok:=ho3 _ _ hk;have hkb:=hG3 k (gM hk);have hadd:wT p l=some (setBody p (p.length - 1) (k.body++[⟨sk,so,sa,sb⟩])):=by rw [<- LC hG1 hk];simp [wT,hr,hs2]
    have hgot:=dG.put (S:=⟨sk,so,sa,sb⟩) hG hk;have yG:=xk (n:=.c (.s 4) 0 0) (a:=65) (i:=p.length - 1) (len:=k.body.length+1) (p:=p) (L:=k.body++[⟨sk,so,sa,sb⟩]) qB qB qB;have hsl:(setBody p (p.length - 1) (k.body++[⟨sk,so,sa,sb⟩])).length=p.length:=pK;refine mu ?_<|yD h4 hp4 h6 hw1 ho1 hs2 hwl hk hkE jG<|hok;refine⟨I.length - (i+1),qA,i+1,_,rfl,qA,Ks hl hpp hadd,hgot,jp,jq,uh,yr,by simp [hp4,hsl],⟨by simp [yG],λd r hd=>?_,λd r hd=>?_⟩,yV,rA⟩
    all_goals
     have hdp:d<p.length:=by have h1:=(gS hd).1;rwa [hsl] at h1
     obtain⟨r0,hr0'⟩:∃ r0,p[d]?=some r0:=⟨_,gE hdp⟩;rw [s9 hr0'] at hd;obtain rfl:=sI hd;by_cases hpd:p.length - 1=d
     .subst hpd;simp [ho2 _ r0 hr0']
     .simp [ho2 d r0 hr0',ho3 d r0 hr0',hpd,show ¬ d=p.length - 1 from λe=>hpd e.symm]
 .have hge:i=I.length:=qA;subst hge;rw [wD] at hpp;rw [hpp] at hPT;have hfw:=hfew p hpp;have hsm:uA p:=dG.ft ⟨hG1,qA,λk hk=>by have:=hG3 k hk;omega⟩;have hnlt:¬ (I.length:Int)+1<(I.length:Int)+1:=qA;have hwl:IntKind.i64.wrap (I.length:Int)=(I.length:Int):=qi qA qA;have hla:(I++[z])[I.length]?=some z:=qB;obtain⟨hlaL,hlaE⟩:=gS hla;have hlI:I.length<I.length+1:=qA;have hvp:=AW gl p hsm;by_cases hz:z=[]
  .have hzb:(z==[])=true:=by rw [hz];rfl
   cases hv:ye p
   .have hno:RC=none:=by rw [hPT];simp [hv]
    rw [hv] at hvp;have fx:=qr h2 hp2 hp2' h4 hp4 h5 h6 hw1 hnlt hla hlaE hlI<|qk hwl ho1<|hzb;have c1:=hvp;refine mu ?_<|@fx;clear fx c1;refine qG [(.c (.s 4) 0 0,root)] (.one rfl) bI ⟨p,yF,⟨?_,λj r hj=>?_,λj r hj=>?_⟩,yF⟩
    .simp [ho1,kr (n:=.c (.s 4) 0 0) (m:=root) (f:=zE zf [(.c (.s 4) 0 0,root)]) (p:=p) qB]
    .simp [ho2 j r hj]
    .simp [ho3 j r hj]
   .have hyes:RC=some p:=by rw [hPT];simp [hv,hz]
    rw [hv] at hvp;have fx:=qr h2 hp2 hp2' h4 hp4 h5 h6 hw1 hnlt hla hlaE hlI<|qk hwl ho1<|hzb;have c1:=hvp;refine mu ?_<|@fx;clear fx c1;refine qG [(.c (.s 4) 0 0,root)] (.one rfl) bI ⟨p,rN,⟨?_,λj r hj=>?_,λj r hj=>?_⟩,rN⟩
    .simp [ho1,kr (n:=.c (.s 4) 0 0) (m:=root) (f:=zE zf [(.c (.s 4) 0 0,root)]) (p:=p) qB]
    .simp [ho2 j r hj]
    .simp [ho3 j r hj]
  .have hzb:(z==[])=false:=by simpa using hz
   have hno:RC=none:=by rw [hPT];simp [hz]
   refine mu ?_<|qr h2 hp2 hp2' h4 hp4 h5 h6 hw1 hnlt hla hlaE hlI<|qk hwl ho1<|hzb;refine qG [(.c (.s 4) 0 0,root)] (.one rfl) bI ⟨p,yF,⟨?_,λj r hj=>?_,λj r hj=>?_⟩,yF⟩
   .simp [ho1,kr (n:=.c (.s 4) 0 0) (m:=root) (f:=zE zf [(.c (.s 4) 0 0,root)]) (p:=p) qB]
   .simp [ho2 j r hj]
   .simp [ho3 j r hj]
end Go.Proofs.YtjgpejikjhojcaaGreatDoor
end
