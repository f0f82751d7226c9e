import Derived.Test.YtdnebaieamppbaaGreatDoorE09
import Derived.OpenShut
import Derived.FnData
set_option linter.unusedSimpArgs false
set_option linter.unusedVariables false
set_option maxRecDepth 100000
set_option maxHeartbeats 4000000

section
namespace Go.Hm
open Go Go.RowKit
structure qAE (p:Z0) (b:Nat) (x y:Int):Prop where
 sh:Z7 p
 made:∀ i,0<i->i<p.length->kF p i=1
 decl:∀ (c:Nat) k,0<c->p[c]?=some k->∀ n:Nat,n<8->qAI p c k n=true
 hb:0<b
 Zs:b<p.length
 hx:0<=x/\x<=7
 hy:0<=y/\y<=7
 hxy:x≠y
 fn:∀ k,p[b]?=some k->k.kind=1
 loc:∀ k,p[b]?=some k->qa b k x=true
 free:∀ (c:Nat) k,p[c]?=some k->qi p c b=true->qBz k y
theorem D2 {p:Z0} (hs:Sml p) (h:jF p=true):Z7 p/\(∀ i,0<i->i<p.length->kF p i=1)/\(∀ (c:Nat) k,0<c->p[c]?=some k->∀ n:Nat,n<8->qAI p c k n=true):=by
 simp only [jF,ba] at h;refine⟨Z7.of hs h.1,(a7 h.1).2.2.2.2,λc k h0 hk n hn=>?_⟩
 simp_all<;>grind[vD]
theorem ym {p:Z0} {c b:Int} (h:qi p c b=true):b<=c:=by
 grind[zf]
theorem qAE.of {p:Z0} {b:Nat} {x y:Int} (hs:Sml p) (h:ye p b x y=true):qAE p b x y:=by
 simp only [ye,ba,decide_eq_true_eq,bne_iff_ne,ne_eq] at h;obtain⟨⟨⟨⟨⟨h1,h2⟩,h3⟩,h4⟩,h5⟩,h6⟩:=h;obtain⟨a1,a2,a3⟩:=D2 hs h1;have Zs:b<p.length:=qA;obtain⟨kb,hkb⟩:=gX Zs;simp only [DW,b6,hkb,ba,beq_iff_eq,xE] at h6;obtain⟨⟨h7,h8⟩,h9⟩:=h6
 have h0:0<b:=by
  rcases dV b with e|e
  .subst e;have:=a1.qEU kb hkb;omega
  .exact e
 refine⟨a1,a2,a3,h0,Zs,h3,h4,h5,λk hk=>?_,λk hk=>?_,λc k hk hi=>?_⟩
 .simp_all
 .simp_all
 .apply qBz.of h4;intro hm;have hc:=(gS hk).1;have hge:=ym hi
  have:ni p b y=true:=by
   refine O6.2 ⟨c,gh.2 hc,?_⟩
   grind[uO]
  simp_all
theorem eg {p:Z0} {b:Nat} {z:Int} (hh:zS p) (hb:0<b):∀ (n:Nat),n<p.length->zZ p z p.length n=b->qi p n b=true:=by
 intro n
 induction n using Nat.strongRecOn with
 | ind n ih =>
  intro hn ho;rcases dV n with e|e
  .grind[ax]
  .obtain⟨q,hq⟩:=gX hn;rw [zq hh hq e] at ho;obtain⟨g1,g2,g3⟩:=hh n q hq
   have key:zZ p z p.length q.parent=b->qi p n b=true:=by
    intro h;have g4:=g3 e;obtain⟨m,hm⟩:∃ m:Nat,q.parent=m:=⟨q.parent.toNat,qA⟩
    grind[zr,zf]
   grind[zf]
theorem bS {p:Z0} {b c:Nat} {k:Za} {z:Int} (hh:zS p) (hb:0<b) (hk:p[c]?=some k) (h0:0<c) (h:outer p c z=b):qi p c b=true:=by
 rw [jG hh hk] at h;obtain⟨g1,g2,g3⟩:=hh c k hk;have g4:=g3 h0;have hc:=(gS hk).1;obtain⟨m,hm⟩:∃ m:Nat,k.parent=m:=⟨k.parent.toNat,qA⟩;have h2:=eg hh hb m qA (by rw [<- hm];exact h);have h3:=ym h2
 grind[zr]
theorem uM {p:Z0} {b c:Nat} {k:Za} {z:Int} (hh:zS p) (hb:0<b) (hk:p[c]?=some k) (h:q7 p c z=b):qi p c b=true:=by
 grind[q7,zf,bS]
theorem wW {p:Z0} {b c:Nat} {z:Int} (hh:zS p) (hb:0<b) (h:qQ p b z c=true):qi p c b=true:=by
 grind[qQ,uM]
section
variable {p:Z0} {b:Nat} {x y:Int} (H:qAE p b x y)
include H
omit H in
theorem ab {c:Nat} {k:Za} (hk:p[c]?=some k):(uI (qQ p b x) x y p)[c]?=some (yQ (qQ p b x c) x y k):=by
 grind[yx]
theorem qAE.qBv {c:Nat} {k:Za} (hk:p[c]?=some k) (hS:qQ p b x c=true):qBz k y :=
 H.free c k hk (wW H.sh.Zc H.hb hS)
theorem qAE.Zc:zS (uI (qQ p b x) x y p):=by
 intro i q hq;rw [yx] at hq
 cases hk:p[i]? with
 | none=>simp_all
 | some k =>
  rw [hk] at hq;simp only [kv,oY] at hq;have e:q.parent=k.parent:=by subst hq;unfold yQ;split <;> rfl
  rw [e];exact H.sh.Zc i k hk
omit H in
theorem nQ {c:Bool} {k:Za}:(yQ c x y k).kind=k.kind:=by unfold yQ;split <;> rfl
omit H in
theorem wt {c:Bool} {k:Za}:(yQ c x y k).parent=k.parent:=by unfold yQ;split <;> rfl
theorem qAE.walk {z w:Int} (stop:Nat->Prop)
  (hst:∀ (j:Nat) k,p[j]?=some k->0<j->k.kind=1->stop j ->
    (z∈(yQ (qQ p b x j) x y k).dc 9↔w∈k.dc 9)/\qa j (yQ (qQ p b x j) x y k) z=qa j k w)
  (hup:∀ (j:Nat) k,p[j]?=some k->0<j->stop j->(k.kind=1->w∉k.dc 9/\qa j k w=false)->stop k.parent.toNat) :
  ∀ n:Nat,n<p.length->stop n->zZ (uI (qQ p b x) x y p) z p.length n=zZ p w p.length n:=by
 intro n
 induction n using Nat.strongRecOn with
 | ind n ih =>
  intro hn hs;rcases dV n with e|e
  .grind[ax]
  .obtain⟨k,hk⟩:=gX hn;obtain⟨g1,g2,g3⟩:=H.sh.Zc n k hk;have g4:=g3 e;have hq:=ab (b:=b) (x:=x) (y:=y) hk;have h1:=zq (x:=z) H.Zc hq e;rw [mJ] at h1;rw [h1,zq (x:=w) H.sh.Zc hk e,nQ,wt]
   grind
theorem qAE.qC5 {z w:Int} (stop:Nat->Prop)
  (hst:∀ (j:Nat) k,p[j]?=some k->0<j->k.kind=1->stop j ->
    (z∈(yQ (qQ p b x j) x y k).dc 9↔w∈k.dc 9)/\qa j (yQ (qQ p b x j) x y k) z=qa j k w)
  (hup:∀ (j:Nat) k,p[j]?=some k->0<j->stop j->(k.kind=1->w∉k.dc 9/\qa j k w=false)->stop k.parent.toNat)
  {c:Nat} {k:Za} (hk:p[c]?=some k) (h0:0<c) (hs:stop k.parent.toNat):outer (uI (qQ p b x) x y p) c z=outer p c w:=by
 have hq:=ab (b:=b) (x:=x) (y:=y) hk;rw [jG H.Zc hq,jG H.sh.Zc hk,mJ,wt];obtain⟨g1,g2,g3⟩:=H.sh.Zc c k hk;have g4:=g3 h0;have hc:=(gS hk).1;obtain⟨m,hm⟩:∃ m:Nat,k.parent=m:=⟨k.parent.toNat,qA⟩;have:=H.walk stop hst hup m qA qH
 simp_all
theorem qAE.qBE {z:Int} (h1:z≠x) (h2:z≠y) {c:Nat} {k:Za} (hk:p[c]?=some k) (h0:0<c):outer (uI (qQ p b x) x y p) c z=outer p c z:=by
 refine H.qC5 (λ_=>True) (λj k hk _ _ _=>?_) (λ_ _ _ _ _ _=>trivial) hk h0 trivial;unfold yQ
 split
 .rename_i hS;have hf:=H.qBv hk hS
  grind[oe,hx,hy,hxy,ck,P4]
 simp
theorem qAE.self:qQ p b x b=true/\q7 p b x=b/\∀ k,p[b]?=some k->x∉k.dc 9/\qa b k x=true:=by
 obtain⟨k,hk⟩:=gX H.Zs;have hl:=H.loc k hk
 grind[qa,q7,qQ,xy]
theorem qAE.qCc:zZ p x p.length b=b:=by
 obtain⟨k,hk⟩:=gX H.Zs;obtain⟨_,_,h3⟩:=H.self;obtain⟨h4,h5⟩:=h3 k hk;rw [zq H.sh.Zc hk H.hb];simp [H.fn k hk,h4,h5]
theorem qAE.qC0 {c:Nat} {k:Za} (hk:p[c]?=some k) (h0:0<c) (h:outer p c x=b):outer (uI (qQ p b x) x y p) c y=b:=by
 obtain⟨g1,g2,g3⟩:=H.sh.Zc c k hk;have g4:=g3 h0;refine Eq.trans ?_ h;refine H.qC5 (λj=>zZ p x p.length j=b) (λj k hk h0 h1 hj=>?_) (λj k hk h0 hj hn=>?_) hk h0 ?_
 .have hstep:=zq (x:=x) H.sh.Zc hk h0;rw [hj] at hstep;rw [if_neg (λh=>h h1)] at hstep;have hb:=H.hb;have h9:x∉k.dc 9:=λh9=>qH;rw [if_neg h9] at hstep
  have hl:qQ p b x j=false->qa j k x=false:=by
   intro hS
   cases hl:qa j k x with
   | false=>rfl
   | true =>
    rw [hl] at hstep;simp only [if_true] at hstep;have:j=b:=qA;subst this;rw [H.self.1] at hS
    cases hS
  unfold yQ
  split
  .rename_i hS;have hf:=H.qBv hk hS
   grind[oe,hx,hy,hxy,ck,LZ]
  .rename_i hS;have hS:qQ p b x j=false:=qH;have hf:=H.free j k hk (eg H.sh.Zc H.hb j (gS hk).1 hj);have e9:y∉k.dc 9:=λh=>hf.d9 (mem_sorted.1 h).1;have eb:y∉k.bd:=λh=>hf.bd (mem_sorted.1 h).1
   grind[qa]
 .have hstep:=zq (x:=x) H.sh.Zc hk h0;rw [hj] at hstep;obtain⟨g1,g2,g3⟩:=H.sh.Zc j k hk
  grind
 .rw [Int.toNat_of_nonneg g4,<- jG H.sh.Zc hk];exact h
theorem qAE.qBm {z:Int} {c:Nat} {k:Za} (hk:p[c]?=some k) (h0:0<c) (h:qi p c b=false):outer (uI (qQ p b x) x y p) c z=outer p c z:=by
 have step:∀ (j:Nat) k,p[j]?=some k->0<j->qi p j b=false->qi p k.parent.toNat b=false:=by
  intro j k hk h0 hi;obtain⟨g1,g2,g3⟩:=H.sh.Zc j k hk;have g4:=g3 h0;rw [Int.toNat_of_nonneg g4];by_cases e:b<j
  .rw [zr H.sh.Zc qA hk qA] at hi;exact hi
  grind[zf]
 refine H.qC5 (λj=>qi p j b=false) (λj k hk h0 _ hj=>?_) (λj k hk h0 hj _=>step j k hk h0 hj) hk h0 (step c k hk h0 h)
 have hS:qQ p b x j=false:=by
  cases hS:qQ p b x j with
  | false=>rfl
  | true=>rw [wW H.sh.Zc H.hb hS] at hj;cases hj
 rw [hS];exact⟨Iff.rfl,rfl⟩
theorem qAE.qCZ {c:Nat} {k:Za} (hk:p[c]?=some k) (h0:0<c) (h:outer p c x≠b):outer (uI (qQ p b x) x y p) c x=outer p c x:=by
 obtain⟨g1,g2,g3⟩:=H.sh.Zc c k hk;have g4:=g3 h0;refine H.qC5 (λj=>zZ p x p.length j≠b) (λj k hk h0 h1 hj=>?_) (λj k hk h0 hj hn=>?_) hk h0 ?_
 .unfold yQ
  split
  .rename_i hS;have hf:=H.qBv hk hS;rw [oe H.hx H.hy H.hxy hf,ck H.hx H.hy H.hxy hf,Uu];have e9:y∉k.dc 9:=λh=>hf.d9 (mem_sorted.1 h).1;have eb:y∉k.bd:=λh=>hf.bd (mem_sorted.1 h).1
   grind[qQ,q7,qa,qCc]
  simp
 .have hstep:=zq (x:=x) H.sh.Zc hk h0;obtain⟨g1,g2,g3⟩:=H.sh.Zc j k hk
  grind
 .rw [Int.toNat_of_nonneg g4,<- jG H.sh.Zc hk];exact h
end
section
variable {p:Z0} {b:Nat} {x y:Int} (H:qAE p b x y)
include H
omit H in
theorem AA {i:Nat} {j c:Int} {S:Nat->Bool}:kW (uI S x y p) i j c=kW p i j c:=by
 grind[kW,yx,nQ,wt]
theorem rA {n:Int} (h:0<=n/\n<=7):0<=jC n x y/\jC n x y<=7:=by
 have:=H.hy
 grind[jC]
theorem qAE.qEI {S:Nat->Bool} {i:Nat} {k k':Za} {s:Z9} (hk:k'.kind=k.kind) (h:zN p i k s=true):zN (uI S x y p) i k' (s.Zn x y)=true:=by
 have hx:=H.hx;have hy:=H.hy
 have h1:Ko (s.Zn x y).to=true:=by
  grind[zN,Z9.Zn,rA]
 have h2:(s.Zn x y).reads.all Ko=true:=by
  rw [Z9.qBk hx.1 hy.1,List.all_map]
  grind[zN,rA]
 have hk1:=zN.kind h;obtain⟨c,t,a,d⟩:=s;simp only [zN,ba] at h;have h3:=h.2;simp only [zN,h1,h2,pP];clear h h1 h2;have hc:c=0\/c=1\/c=2\/c=3\/c=4\/c=5\/c=6\/c=7\/c=8\/c=9\/c=10\/c=11:=qj
 grind[Z9.Zn,AA]
omit H in
theorem Kk {S:Nat->Bool} {i:Nat} {k:Za} {s:Z9}:zN (uI S x y p) i k s=zN p i k s:=by
 grind[zN,AA]
theorem qAE.qAQ {c:Bool} {i:Nat} {k:Za} (h:vG i k):vG i (yQ c x y k):=by
 unfold yQ
 split
 .unfold vG at h ⊢;simp only [Za.Zn,Eg]
  split
  .simp_all
  .rename_i e;rw [if_neg e] at h;obtain⟨a1,a2,a3,a4,a5⟩:=h;refine⟨a1,a2,a3,a4,?_⟩;rcases a5 with a5|⟨b1,b2,b3,b4⟩
   .omega
   .refine .inr ⟨b1,b2,?_⟩
    match hp:k.params,b1 with
    | [n],_ =>
     rw [hp] at b3 b4;exact rA H ⟨b3,b4⟩
 .exact h
theorem qAE.qA8 {S:Nat->Bool} {i:Nat} (hi:i<p.length):qA8 (uI S x y p) i=true:=by
 obtain⟨k,hk⟩:=gX hi;have h1:=H.sh.head i k hk;have h2:=H.sh.stm i k hk;have h3:=H.sh.body k (gM hk);simp only [Hm.qA8,yx,hk,kv,Hm.qAQ,ba,decide_eq_true_eq];refine⟨⟨H.qAQ h1,?_⟩,?_⟩
 .grind[yQ,Za.Zn]
 .refine dT.2 λs hs=>?_
  cases hS:S i with
  | false =>
   grind[yQ,Kk]
  | true =>
   rw [hS] at hs;simp only [yQ,if_true,Za.Zn,fG] at hs;obtain⟨s0,hs0,rfl⟩:=hs;exact H.qEI (by simp [yQ,Za.Zn]) (h2 s0 hs0)
omit H in
theorem Mi {s:Z9} {c:Int}:fh (s.Zn x y) c=fh s c:=by
 grind[fh,Z9.Zn]
omit H in
theorem Jy {S:Nat->Bool} {i:Nat}:kF (uI S x y p) i=kF p i:=by
 unfold kF;rw [yx]
 cases hk:p[i]? with
 | none=>rfl
 | some k =>
  simp only [kv,wt,yx]
  cases hq:p[k.parent.toNat]? with
  | none=>rfl
  | some q =>
   simp only [kv];unfold yQ
   split
   .simp only [Za.Zn,List.filter_map,Eg]
    have:(λs=>fh s (i:Int))∘(λs=>Z9.Zn s x y)=λs=>fh s (i:Int):=by
     grind[Mi]
    rw [this]
   .rfl
theorem qAE.shape:jh (uI (qQ p b x) x y p)=true:=by
 simp only [jh,mJ,ba,decide_eq_true_eq];refine⟨⟨H.sh.len,?_⟩,?_⟩
 .exact dT.2 λi hi=>H.qA8 (gh.1 hi)
 .refine dT.2 λi hi=>?_;rw [Jy];rcases dV i with e|e
  .simp [e]
  .simp [H.made i e (gh.1 hi)]
theorem qAE.qAI {c:Nat} {k:Za} (hk:p[c]?=some k) (h0:0<c) {n:Nat} (hn:n<8):qAI (uI (qQ p b x) x y p) c (yQ (qQ p b x c) x y k) n=true:=by
 have hd:=H.decl c k h0 hk;have hb:=H.hb;have hx:=H.hx;have hy:=H.hy;have hne:c≠0:=qA
 cases hS:qQ p b x c with
 | true =>
  have hf:=H.qBv hk hS;have hS':=hS;simp only [qQ,hk,ba,decide_eq_true_eq,q7] at hS';simp only [yQ,if_true,Hm.qAI,oe hx hy H.hxy hf,F9 hx hy H.hxy hf,Jj H.hxy hf];by_cases e1:(n:Int)=x
  .rw [e1,Uu];have e9:y∉k.dc 9:=λh=>hf.d9 (mem_sorted.1 h).1;have e10:y∉k.dc 10:=λh=>hf.d10 (mem_sorted.1 h).1
   simp_all
  .by_cases e2:(n:Int)=y
   .rw [e2,LZ H.hxy];obtain⟨m,hm⟩:∃ m:Nat,x=m:=⟨x.toNat,qA⟩;have hdx:=hd m qA;rw [<- hm] at hdx;simp only [Hm.qAI] at hdx;by_cases h10:x∈k.dc 10
    .have hl:qa c k x=false:=by grind[qa]
     have h9:x∉k.dc 9:=λh9=>qH;simp only [hne,h9,or_self,if_false,hl,ak] at hS';rw [H.qC0 hk h0 hS'.2]
     simp_all
    simp_all
   .rw [P4 e1 e2,H.qBE e1 e2 hk h0];exact hd n hn
 | false =>
  have:=hd n hn;simp only [yQ,ak,if_false];simp only [Hm.qAI] at this ⊢;by_cases h10:(n:Int)∈k.dc 10
  .have:outer (uI (qQ p b x) x y p) c n=outer p c n:=by
    by_cases e1:(n:Int)=x
    .rw [e1] at this h10 ⊢;have hl:qa c k x=false:=by grind[qa]
     have h9:x∉k.dc 9:=λh9=>qH;refine H.qCZ hk h0 λho=>?_
     grind[qQ,q7,xy]
    .by_cases e2:(n:Int)=y
     .refine H.qBm hk h0 ?_
      cases hi:qi p c b with
      | false=>rfl
      | true =>
       have hf:=H.free c k hk hi;rw [e2] at h10;exact absurd (mem_sorted.1 h10).1 hf.d10
     .exact H.qBE e1 e2 hk h0
   simp_all
  simp_all
theorem qAE.valid:jF (uI (qQ p b x) x y p)=true:=by
 simp only [jF,H.shape,pP,mJ];refine dT.2 λc hc=>?_;have hc:=gh.1 hc;rcases dV c with e|e
 .simp [e]
 .obtain⟨k,hk⟩:=gX hc
  have:vD (uI (qQ p b x) x y p) c=true:=by
   simp only [vD,ab (b:=b) (x:=x) (y:=y) hk];exact dT.2 λn hn=>H.qAI hk e (gh.1 hn)
  simp [this]
theorem qAE.qDf {c:Nat}:qQ (uI (qQ p b x) x y p) b y c=qQ p b x c:=by
 have hx:=H.hx;have hy:=H.hy;have hb:=H.hb
 cases hk:p[c]? with
 | none=>simp_all[qQ]
 | some k =>
  cases hS:qQ p b x c with
  | true =>
   have hf:=H.qBv hk hS;have hS':=hS;simp only [qQ,hk,ba,decide_eq_true_eq] at hS';obtain⟨hu,ho⟩:=hS';have hq:=ab (b:=b) (x:=x) (y:=y) hk;rw [hS] at hq;simp only [yQ,if_true] at hq
   have h0:0<c:=by
    grind[q7]
   have hne:c≠0:=qA
   have ho2:q7 (uI (qQ p b x) x y p) c y=b:=by
    simp only [q7,hk] at ho;simp only [q7,hq,oe hx hy H.hxy hf,ck hx hy H.hxy hf,LZ H.hxy];by_cases h9:x∈k.dc 9
    .simp_all
    .simp only [hne,h9,or_self,if_false] at ho ⊢
     cases hl:qa c k x with
     | true=>simp_all
     | false =>
      rw [hl] at ho;simp only [ak,if_false] at ho ⊢;exact H.qC0 hk h0 ho
   grind[qQ,OX,hxy,LZ]
  | false =>
   have hq:=ab (b:=b) (x:=x) (y:=y) hk;rw [hS] at hq;simp only [yQ,ak,if_false] at hq;simp only [qQ,hq];by_cases hu:y∈k.us
   .have hi:qi p c b=false:=by
     cases hi:qi p c b with
     | false=>rfl
     | true =>
      have hf:=H.free c k hk hi;rcases xy.1 hu with h|h|h|h
      .exact absurd (mem_sorted.1 h).1 hf.rd
      .exact absurd (mem_sorted.1 h).1 hf.bd
      .exact absurd (mem_sorted.1 h).1 hf.d9
      .exact absurd (mem_sorted.1 h).1 hf.d10
    have ho:q7 (uI (qQ p b x) x y p) c y≠b:=by
     intro ho
     have ho2:q7 p c y=b:=by
      rw [<- ho];simp only [q7,hk,hq];by_cases h9:c=0\/y∈k.dc 9
      .simp [h9]
      .rw [if_neg h9,if_neg h9,H.qBm hk qA hi]
     rw [uM H.sh.Zc hb hk ho2] at hi
     cases hi
    simp_all
   grind
theorem qAE.qE2:uI (qQ p b x) y x (uI (qQ p b x) x y p)=p:=by
 apply wK;intro c;rw [yx,yx]
 cases hk:p[c]? with
 | none=>rfl
 | some k =>
  simp only [kv,oY]
  cases hS:qQ p b x c with
  | false=>simp [yQ]
  | true =>
   simp only [yQ,if_true];exact Za.qCH H.hx.1 H.hy.1 (H.sh.names k (gM hk)) (H.qBv hk hS)
omit H in
theorem Fk {c:Nat}:qi (uI (qQ p b x) x y p) c b=qi p c b:=by
 have key:∀ (n:Nat) (j:Int),aP (uI (qQ p b x) x y p) b n j=aP p b n j:=by
  intro n
  induction n<;>grind[aP,yx,wt]
 simp_all[qi]
omit H in
theorem K5:ni (uI (qQ p b x) x y p) b x=BH p (uI (qQ p b x) x y p) b x p.length:=by
 unfold ni BH;rw [mJ]
 congr 1
 funext c
 simp only [uO,Fk,Yt]
 cases hi:qi p c b with
 | false =>
  grind
 | true =>
  have:=ym hi
  grind
theorem qAE.qEV:ye (uI (qQ p b x) x y p) b y x=!BH p (uI (qQ p b x) x y p) b x p.length:=by
 obtain⟨k,hk⟩:=gX H.Zs;have hS:=H.self.1;have hf:=H.qBv hk hS;have hq:=ab (b:=b) (x:=x) (y:=y) hk;rw [hS] at hq;simp only [yQ,if_true] at hq;have hx:=H.hx;have hy:=H.hy;have Zs:=H.Zs;have e1:decide ((b:Int)<p.length)=true:=qH;have e2:(y != x)=true:=by grind[hxy]
 have hl:qa b (k.Zn x y) y=true:=by rw [ck hx hy H.hxy hf,LZ H.hxy];exact H.loc k hk
 have hkk:(k.Zn x y).kind=1:=H.fn k hk
 grind[ye,DW,K5,valid]
theorem qAE.qCt (hr:ye p b x y=true):qDX p b x y:=by
 have e:ef p b x y=uI (qQ p b x) x y p:=by simp [ef,hr]
 refine⟨by grind[valid],by grind[qEV],λh=>?_⟩
 grind[ef,cm,qDf,qE2]
end
theorem qCt {p:Z0} {b:Nat} {x y:Int} (hs:Sml p) (hr:ye p b x y=true):qDX p b x y:=(qAE.of hs hr).qCt hr
end Go.Hm
end
section
namespace Go.Hm
open Go Go.RowKit Go.ChangeShapes Go.WideShapes Go.Deep
variable {H:Type} {enc:TypeId×Value->H} {P:Program} {w:World}
theorem Sz {t:TypeId} (ht:P.underlying t=some (.int .u8)):HY enc P w t (λk:Int=>[byt k]) (λk=>0<=k/\k<=255):=by
 intro n cs y h _;obtain⟨k,rfl,_,hw⟩:=DataW.trod_int ht h;refine⟨k,by grind[Lit.wf,IntKind.min,IntKind.max,IntKind.signed,IntKind.bits],rfl,λj v a hv ha=>?_⟩
 cases j with
 | zero =>
  simp at hv ha;subst hv;subst ha;exact⟨.sc _,rfl⟩
 | succ j=>simp at hv
theorem pW {t e:TypeId} (ht:P.underlying t=some (.slice e)) (he:P.underlying e=some (.int .u8)) (hc:P.cellsOf e=1) (hby:0<P.bytesOf e)
  {r:Reach} {b0:Nat} {v:Value} {d:DataW H} {p:List MemPlace} (hv:Value.okWide P w r b0 t v) (h:DataW.Trod enc P w 0 (λ_=>true) true t v d p) (hw:∀ m∈d.weights P t,m<=reachBytes) :
  ∃ bs:List Int,(bs.length<=1152921504606846976/\∀ x∈bs,0<=x/\x<=255)/\RV (g0 w) w v (bsl bs):=by
 obtain⟨a,len,cap,rfl⟩:=okWide_slice ht hv;obtain⟨fuel,hf⟩:=h;obtain⟨x,hx,hl,hr⟩:=Ps (enc:=enc) (w:=w) ht hc qA hby (λ_=>rfl) (Sz he) _ _ _ hf hw;exact⟨x,hx,(hr 0 _ _ rfl rfl).1⟩
end Go.Hm
end
section
namespace Go.Hm
open Go Go.RowKit
def zB (f:Nat->Bool):Nat->List Int
 | 0=>[]
 | n+1=>if f n=true then zB f n++[(n:Int)] else zB f n
theorem kE {f:Nat->Bool} {x:Int}:∀ {n:Nat},x∈zB f n↔∃ m:Nat,m<n/\f m=true/\x=m
 | 0=>by simp [zB]
 | n+1=>by
  simp only [zB]
  split
  .rename_i h;rw [dY,kE (n:=n),w6]
   grind
  .rename_i h;rw [kE (n:=n)]
   grind
theorem ja {f:Nat->Bool} {x n:Nat}:(x:Int)∈zB f n↔x<n/\f x=true:=by
 grind[kE]
theorem nS {f:Nat->Bool}:∀ n:Nat,(zB f n).length<=n
 | 0=>by simp [zB]
 | n+1=>by
  have:=nS (f:=f) n
  grind[zB]
theorem fY {f g:Nat->Bool}:∀ {n:Nat},(∀ x,x<n->f x=g x)->zB f n=zB g n
 | 0,_=>rfl
 | n+1,h=>by
  simp only [zB];rw [h n qA,fY (n:=n) λx hx=>h x qA]
theorem bG {l:List Int}:∀ n:Nat,zM l n=zB (λx=>decide ((x:Int)∈l)) n
 | 0=>rfl
 | n+1=>by
  simp only [zM,zB,bG n,decide_eq_true_eq]
theorem Ag {f:Nat->Bool}:sorted (zB f 8)=zB f 8:=by
 grind[sorted,bG,fY,ja]
theorem ip {l l':List Int} (h:∀ x:Nat,x<8->((x:Int)∈l↔(x:Int)∈l')):sorted l=sorted l':=by
 grind[sorted,bG,fY]
def bR (g:Nat->List Int):Nat->List Int
 | 0=>[]
 | n+1=>bR g n++g n
theorem jX {g:Nat->List Int} {x:Int}:∀ {n:Nat},x∈bR g n↔∃ m:Nat,m<n/\x∈g m
 | 0=>by simp [bR]
 | n+1=>by
  simp only [bR,dY,jX (n:=n)]
  grind
theorem na {g:Nat->List Int} (h:∀ i,(g i).length<=8):∀ n:Nat,(bR g n).length<=8 * n
 | 0=>by simp [bR]
 | n+1=>by
  have:=na h n
  grind[bR]
theorem nT {p:Z0} {x:Int}:∀ (n:Nat) (j:Int),zZ p x n j=-1\/0<zZ p x n j
 | 0,_=>.inl rfl
 | n+1,j=>by
  simp only [zZ]
  split
  .simp
  .rename_i hj
   split
   .simp
   .split
    .exact nT n _
    .split
     .simp
     .split
      .omega
      .exact nT n _
theorem kV {p:Z0} {c:Nat} {x:Int}:q7 p c x=-1\/0<q7 p c x:=by
 grind[q7,outer,nT]
def uZ (p:Z0) (b c:Nat) (x:Int):Bool:=decide (0<q7 p c x)&&decide (q7 p c x<b)
def aT (p:Z0) (b c:Nat):List Int:=match p[c]? with
 | some k=>if qi p c b=true then k.us.filter (uZ p b c) else []
 | none=>[]
def jb (p:Z0) (b:Nat):Nat->List Int:=bR λi=>aT p b (b+i)
def qd (p:Z0) (b:Nat):List Int:=sorted (jb p b (p.length - b))
def kg (p:Z0) (b c:Nat) (x:Int):Bool:=q7 p c x==b
def bp (p:Z0) (b c:Nat):List Int:=match p[c]? with
 | some k=>k.us.filter (kg p b c)
 | none=>[]
def jn (p:Z0) (b:Nat):Nat->List Int:=bR λi=>bp p b (b+1+i)
def qg (p:Z0) (b:Nat):Int:=match p[b]? with|some k=>k.kind|none=>-1
def qF (p:Z0) (b:Nat):List Int:=if qg p b=1 then sorted (jn p b (p.length - (b+1))) else []
def vn (p:Z0) (b:Nat) (x:Nat):Bool:=match p[b]? with
 | some k=>qa b k x&&!decide ((x:Int)∈qF p b)
 | none=>false
def qP (p:Z0) (b:Nat):List Int:=if qg p b=1 then zB (vn p b) 8 else []
def jB (p:Z0) (b:Nat) (x:Int):Int :=
 if q7 p b x<0 then 0 else if q7 p b x≠b then 1 else if qg p b=2 then 2 else if x∈qF p b then 3 else 4
def aE (p:Z0) (b:Nat) (x:Int):Int:=if x∈qF p b then zI (qF p b) x else (qF p b).length+zI (qd p b) x
def qx (p:Z0) (b:Nat) (x w:Int):Int×Int :=
 if jB p b x=0 then (8+w,x) else if jB p b x=2 then (11+w,x) else if jB p b x=4 then (2+w,zI (qP p b) x) else (5+w,aE p b x)
theorem sd {l:List Int} {f:Int->Bool} (h:l.length<=8):(l.filter f).length<=8:=vk (List.length_filter_le _ _) h
theorem KP {p:Z0} {b c:Nat}:(aT p b c).length<=8:=by
 grind[aT,Za.qBH]
theorem K7 {p:Z0} {b c:Nat}:(bp p b c).length<=8:=by
 grind[bp,Za.qBH]
theorem ov {p:Z0} {b n:Nat}:(jb p b n).length<=8 * n:=na (λ_=>KP) n
theorem EO {p:Z0} {b n:Nat}:(jn p b n).length<=8 * n:=na (λ_=>K7) n
theorem yY {p:Z0} {b:Nat}:(qd p b).length<=8:=ar
theorem jo {p:Z0} {b:Nat}:(qF p b).length<=8:=by
 grind[qF,ar]
theorem w5 {p:Z0} {b:Nat}:(qP p b).length<=8:=by
 grind[qP,nS]
theorem B4 {p:Z0} {b n:Nat}:jb p b (n+1)=jb p b n++aT p b (b+n):=rfl
theorem Bg {p:Z0} {b n:Nat}:jn p b (n+1)=jn p b n++bp p b (b+1+n):=rfl
theorem iC {xs:List Int} {x:Int}:-1<=zI xs x/\zI xs x<=xs.length:=by
 grind[zI,List.findIdx?_eq_some_iff_findIdx_eq]
theorem JQ {p:Z0} {b:Nat} {k:Za} {x:Int} (hk:p[b]?=some k) (hk0:b=0↔k.kind=0) (hk2:k.kind=0\/k.kind=1\/k.kind=2) (h:jB p b x=3\/jB p b x=4):k.kind=1:=by
 grind[qg,jB,kV]
def pM (p:Z0) (b c:Nat) (x:Nat):Bool:=match p[c]? with
 | some k=>qi p c b&&decide ((x:Int)∈k.us)&&(q7 p c x != -1)&&!qi p (q7 p c x) b
 | none=>false
def s8 (p:Z0) (b:Nat):Nat->List Int:=bR λc=>zB (pM p b c) 8
def pN (p:Z0) (b c:Nat) (x:Nat):Bool:=match p[c]? with
 | some k=>(c != b)&&decide ((x:Int)∈k.us)&&(q7 p c x==b)
 | none=>false
def sq (p:Z0) (b:Nat):Nat->List Int:=bR λc=>zB (pN p b c) 8
theorem Dw {p:Z0} (hh:zS p) {b o:Nat}:∀ c:Nat,c<p.length->qi p c b=true->qi p c o=true->b<=o->qi p o b=true:=by
 intro c
 induction c using Nat.strongRecOn with
 | ind c ih =>
  intro hc h1 h2 hbo;have g2:=ym h2;by_cases e:o=c
  .simp_all
  .obtain⟨q,hq⟩:=gX hc;obtain⟨a1,a2,a3⟩:=hh c q hq;have a4:=a3 qA;obtain⟨m,hm⟩:∃ m:Nat,q.parent=m:=⟨q.parent.toNat,qA⟩
   grind[zr]
theorem oo {p:Z0} (hh:zS p) {b c:Nat} {k:Za} {x:Int} (hk:p[c]?=some k) (hi:qi p c b=true) (ho:q7 p c x ≠ -1):qi p (q7 p c x) b=!decide (q7 p c x<b):=by
 rcases kV (p:=p) (c:=c) (x:=x) with h|h
 .omega
 .obtain⟨o,e⟩:∃ o:Nat,q7 p c x=o:=⟨(q7 p c x).toNat,qA⟩
  grind[uM,zf,Dw]
theorem Q9 {p:Z0} (hh:zS p) {b:Nat} (hb:b<p.length):sorted (s8 p b p.length)=qd p b:=by
 unfold qd;apply ip;intro x hx;unfold s8 jb;rw [jX,jX];constructor
 .rintro⟨c,hc,hm⟩;obtain⟨k,hk⟩:=gX hc;rw [ja] at hm;obtain⟨_,hm⟩:=hm;simp only [pM,hk,ba,decide_eq_true_eq,bne_iff_ne,ne_eq,xE] at hm;obtain⟨⟨⟨h1,h2⟩,h3⟩,h4⟩:=hm;have hge:=ym h1;rw [oo hh hk h1 h3] at h4;refine⟨c - b,qA,?_⟩
  grind[aT,uZ,kV]
 .rintro⟨n,hn,hm⟩;have hc:b+n<p.length:=qA;obtain⟨k,hk⟩:=gX hc
  grind[aT,uZ,ja,pM,oo]
theorem Qu {p:Z0} (hh:zS p) {b:Nat} (h0:0<b) (hb:b<p.length):sorted (sq p b p.length)=sorted (jn p b (p.length - (b+1))):=by
 apply ip;intro x hx;unfold sq jn;rw [jX,jX];constructor
 .rintro⟨c,hc,hm⟩;obtain⟨k,hk⟩:=gX hc;rw [ja] at hm;obtain⟨_,hm⟩:=hm;simp only [pN,hk,ba,decide_eq_true_eq,bne_iff_ne,ne_eq,beq_iff_eq] at hm;obtain⟨⟨h1,h2⟩,h3⟩:=hm;have hge:=ym (uM hh h0 hk h3);refine⟨c - (b+1),qA,?_⟩
  grind[bp,kg]
 .rintro⟨n,hn,hm⟩;have hc:b+1+n<p.length:=qA;obtain⟨k,hk⟩:=gX hc
  grind[bp,kg,ja,pN]
end Go.Hm
end
section
namespace Go.Hm
open Go Go.RowKit Go.ChangeShapes Go.WideShapes Go.Deep
theorem qb.qD5 {P:Program} {gl:Nat->Option (List AV)} {f:FuncId} {az:List AV} {v0:Value} (h:qb P gl f az (λ_ y _=>y=.sc v0)) {W:World} {g:Gh} {args:Array Value} (hC:∀ b,g.C b->b<W.heap.size)
  (hgl:∀ i row,gl i=some row->(RV g W (.pointer (some ⟨i,0,none⟩)) (.el row 0)/\Exw W i row)/\∀ f:Nm->Option Nm,row.map (AV.tr f)=row) (hsz:args.size=az.length)
  (hargs:∀ (j:Nat) v x,args[j]?=some v->az[j]?=some x->RV g W v x):Calls P f args W λe W'=>e=.returned v0/\Below W.heap.size W W':=by
 have hinv:Inv (oh g noH) g.C W g noH W:=⟨rfl,rfl,rfl,qf _,λ_ _ _=>rfl,rfl,hC,λ_ _ e=>um,λ_ _ _ e=>um,λ_ _ _ _ _ e=>um⟩;refine (h.2 (.s 0) g.C W g args (λ_ _=>rfl) rfl (λ_ e=>absurd rfl e) hinv hgl hsz hargs).mono λe w' he=>?_
 cases e with
 | returned v =>
  obtain⟨C',g',H',x,hA,hv,rfl⟩:=he;refine⟨by rw [hv.Zo],hA.inv.os,hA.inv.tape,hA.inv.output,hA.inv.size,λb hb=>hA.inv.qB7 b hb ?_⟩
  grind[oh,noH]
 | panicked ch=>obtain⟨_,_,_,_,_,_,_,_,e⟩:=he;exact e.elim
 | outgrown=>simp_all
abbrev glI (g:Nat) (l:List Int):Nat->Option (List AV):=λi=>if i=g then some (l.map iv) else none
theorem Tk {W:World} {g:Nat} {l:List Int} (hl:0<l.length) (h:∀ i k,l[i]?=some k->W.cell? ⟨g,i,none⟩=some (.int .i64 k)) :
  ∀ i row,glI g l i=some row->(RV (g0 W) W (.pointer (some ⟨i,0,none⟩)) (.el row 0)/\Exw W i row)/\∀ f:Nm->Option Nm,row.map (AV.tr f)=row:=by
 intro i row hr;by_cases hi:i=g
 .subst hi;simp only [glI,if_true,oY] at hr;subst hr
  have hat:∀ j,j<(l.map iv).length->∃ k,l[j]?=some k/\(l.map iv)[j]?=some (iv k)/\W.cell? ⟨i,j,none⟩=some (.int .i64 k):=by
   simp_all
  refine⟨⟨?_,λzs hz e=>?_⟩,λf=>?_⟩
  rotate_left
  .grind
  rotate_left
  .obtain⟨k0,_,_,hc0⟩:=hat 0 qH;have:=RV.el (g:=g0 W) (w:=W) i 0 0 (l.map iv) (λj=>(W.cell? ⟨i,0+j,none⟩).getD undef) (Nh hc0).1 (λj hj=>?_) (λj hj=>?_) (λj a ha=>?_)
   .omega
   .simp_all
   .grind[Value.oneCell']
   .have hj:j<(l.map iv).length:=(gS ha).1;obtain⟨k,_,h2,hc⟩:=hat j hj;rw [h2] at ha
    cases ha
    simp only [xX,hc,Option.getD_some];exact .sc _
  simp
 simp_all
theorem pV {H:Type} {enc:TypeId×Value->H} {P:Program} {w:World} {base:Nat} {spare:Nat->Bool} {held:Bool} {m n g:Nat} {t e:TypeId} {s:String} {cs:Array Value} {l:List Int} {x:List MemPlace}
  (ht:P.underlying t=some (.array n e)) (he:P.underlying e=some (.int .i64)) (hc:P.cellsOf e=1) (hg:P.globalNamed s=some g) (hv:w.var? P s=some cs)
  (h:DataW.trod enc P w base spare held m t cs.toList=some (.agg (l.map λk=>.lit (.int .i64 k)),x)):∀ i k,l[i]?=some k->w.cell? ⟨g,i,none⟩=some (.int .i64 k):=by
 intro i k hk;obtain⟨xs,m1,rfl,hx,hlen,hn,hel⟩:=DataW.trod_array ht h;simp only [Kj,DataW.agg.injEq] at hx;have hil:i<l.length:=(gS hk).1;have hxl:l.length=xs.length:=by simpa using congrArg List.length hx.1
 obtain⟨y,hy⟩:∃ y,xs[i]?=some y:=⟨_,gE qA⟩;have h0:=hel i qA;rw [hy,hc] at h0;obtain⟨k',e1,e2,_⟩:=DataW.trod_int he h0;have h3:=congrArg (λz=>z[i]?) hx.1;simp only [kx,hk,hy,kv,oY] at h3;rw [e2] at h3;have hkk:k'=k:=qH;subst hkk;rw [World.var?_cell hg hv i];have e3:=congrArg (λz=>z[0]?) e1
 grind
end Go.Hm
end
section
namespace Go.Hm
open Go Go.RowKit
def uc (l:List (Int×Int)):List (List AV):=l.map λo=>[iv o.1,iv o.2]
section
variable {l m:List (Int×Int)} {o:Int×Int} {i:Nat} {f:Nm->Option Nm}
@[simp] theorem orows_len:(uc l).length=l.length:=cP
@[simp] theorem orows_getE {h:i<(uc l).length}:(uc l)[i]=[iv (l[i]' qH).1,iv (l[i]' qH).2]:=cP
@[simp] theorem orows_tr:(uc l).map (λr=>r.map (AV.tr f))=uc l:=cP
@[simp] theorem orows_take:(uc l).take i=uc (l.take i):=cP
@[simp] theorem orows_drop:(uc l).drop i=uc (l.drop i):=cP
@[simp] theorem orows_app:uc l++uc m=uc (l++m):=cP
@[simp] theorem orows_nil:uc []=[]:=rfl
@[simp] theorem orows_cln:(uc l).all (λr=>r.all AV.cln)=true:=cP
theorem MZ:∀ r∈uc l,r.length=2:=by
 grind[uc]
abbrev osl (l:List (Int×Int)):AV:=.sl 2 (uc l)
theorem CV {hp:Nm->Option AO} {n:Nm} {len:Nat} (hn:hp n=some (.row 2 (uc l))) (hl:len=l.length):Bw hp noD (.hs n 2 0 len) (osl l):=km hn oU MZ
end
def wA (p:Z0) (b:Nat) (s:Z9):List (Int×Int):=s.reads.map λx=>qx p b x 0
def j5 (s:Z9):List (Int×Int) :=
 if s.kind=0 then [(1,s.a)] else if s.kind=2 then [(14,0)] else if s.kind=3 then [(15,s.a)] else if s.kind=4 then [(16,s.a)] else if s.kind=5 then [(17,(s.reads.length:Int) - 1)]
 else if s.kind=6 then [(18,s.b)] else if s.kind=7 then [(19,0)] else if s.kind=8 then [(20,0)] else []
def cg (p:Z0) (b:Nat) (s:Z9):List (Int×Int):=if s.kind=11 then [qx p b s.to 2] else if 0<=s.kind/\s.kind<=6 then [qx p b s.to 1] else []
def fC (p:Z0) (b:Nat) (s:Z9):List (Int×Int):=(0,0)::(wA p b s++(j5 s++cg p b s))
def uP (p:Z0) (b:Nat) (ss:List Z9):List (Int×Int):=ss.flatMap (fC p b)
def vI (p:Z0) (b:Nat):List (Int×Int):=match p[b]? with|some k=>uP p b k.body|none=>[]
theorem Ck (s:Z9):(j5 s).length<=1:=by
 grind[j5]
theorem Pc {p:Z0} {b:Nat} {s:Z9}:(cg p b s).length<=1:=by
 grind[cg]
theorem MN {p:Z0} {b:Nat} {s:Z9}:(wA p b s).length<=2:=by
 grind[Z9.qAX,wA]
theorem rC {p:Z0} {b:Nat} {s:Z9}:(fC p b s).length<=5:=by
 grind[Ck,Pc,MN,fC]
theorem tx {p:Z0} {b:Nat}:∀ ss:List Z9,(uP p b ss).length<=5 * ss.length
 := by intro x0;induction x0<;>grind[uP,rC]
theorem AU {p:Z0} {b:Nat} {ss:List Z9} {i:Nat} {s:Z9} (h:ss[i]?=some s):uP p b (ss.take (i+1))=uP p b (ss.take i)++fC p b s:=by
 grind[uQ,uP]
def ub (l:List (Int×Int)):Nat:=l.countP λo=>o.1==0
theorem LS {l m:List (Int×Int)}:ub (l++m)=ub l+ub m:=by simp [ub]
theorem yC {xs:List Int} {x:Int} (h:x∈xs):∃ i:Nat,zI xs x=i/\i<xs.length/\xs[i]?=some x:=by
 have h0:=j9.2 h
 grind[zI,List.findIdx?_eq_some_iff_getElem]
theorem fb {p:Z0} {x:Int} {b:Nat}:∀ (n:Nat) (j:Int),zZ p x n j=b->∃ k,p[b]?=some k/\qa b k x=true/\x∉k.dc 9
 := by intro x0;induction x0<;>grind[zZ]
theorem iw {p:Z0} {x:Int} {b c:Nat} (h:q7 p c x=b):∃ k,p[b]?=some k/\qa b k x=true/\x∉k.dc 9:=by
 grind[q7,outer,fb]
theorem xu {p:Z0} {x:Int} {b:Nat} {k:Za} (hk:p[b]?=some k) (hl:qa b k x=true) (hd:x∉k.dc 9):q7 p b x=b:=by
 grind[qa,q7]
theorem rl {p:Z0} {x:Int} (hh:zS p):∀ (n:Nat) (j:Int),zZ p x n j=-1\/zZ p x n j<=j
 | 0,_=>.inl rfl
 | n+1,j=>by
  simp only [zZ]
  split
  .simp
  .split
   .simp
   .rename_i q hq;have h1:=(hh _ q hq).2.1;have ih:=rl hh (x:=x) n q.parent;omega
theorem QH {p:Z0} {x:Int} {b:Nat} {k:Za} (hh:zS p) (hk:p[b]?=some k) (h:q7 p b x≠b):q7 p b x<b:=by
 grind[q7,outer,rl,zS]
theorem P3 {p:Z0} {b:Nat} {x:Int}:0<=jB p b x/\jB p b x<=4:=by
 grind[jB]
theorem P2 {p:Z0} {b:Nat} {x:Int} (h:jB p b x=3):x∈qF p b:=by
 grind[jB]
theorem Aa {p:Z0} {b:Nat} {k:Za} {x:Int} (hp:Z7 p) (hk:p[b]?=some k) (hx:0<=x/\x<=7) (h:jB p b x=4):x∈qP p b:=by
 have hka:qg p b=k.kind:=bY;unfold jB at h
 split at h
 .omega
 .rename_i h1
  split at h
  .omega
  .rename_i h2
   split at h
   .omega
   .rename_i h3
    split at h
    .omega
    .rename_i h4;have ho:q7 p b x=b:=qA
     have hb:0<b:=by
      grind[kV]
     obtain⟨k',hk',hl,_⟩:=iw ho;obtain rfl:k=k':=sI (hk.symm.trans hk');have hhd:=hp.head b k hk;unfold vG at hhd;rw [if_neg qA] at hhd;have hk1:qg p b=1:=qA;unfold qP;rw [if_pos hk1,kE];refine⟨x.toNat,qA,?_,qA⟩
     grind[vn]
theorem A9 {p:Z0} {b:Nat} {k:Za} {x:Int} (hp:Z7 p) (hk:p[b]?=some k) (hu:x∈k.us) (h:jB p b x=1):x∈qd p b/\x∉qF p b:=by
 have Zs:=(gS hk).1
 have hx:0<=x/\x<=7:=by
  grind[Za.us,mem_sorted]
 unfold jB at h
 split at h
 .omega
 .rename_i h1
  split at h
  rotate_left
  .omega
  .rename_i h2
   have hpos:0<q7 p b x:=by
    grind[kV]
   have hlt:=QH hp.Zc hk h2;refine⟨?_,λhc=>h2 ?_⟩
   .unfold qd jb;rw [mem_sorted,jX];refine⟨⟨0,qA,?_⟩,hx⟩
    grind[aT,uZ,zf]
   .unfold qF at hc
    split at hc
    .unfold jn at hc
     grind[mem_sorted,jX,bp,kg,iw,xu]
    .cases hc
theorem nZ {p:Z0} {b:Nat} {k:Za} {x w:Int} (hp:Z7 p) (hk:p[b]?=some k) (hu:x∈k.us) :
  (jB p b x=0/\qx p b x w=(8+w,x))\/(jB p b x=2/\qx p b x w=(11+w,x)) \/
  (jB p b x=4/\∃ i:Nat,qx p b x w=(2+w,(i:Int))/\i<(qP p b).length/\(qP p b)[i]?=some x) \/
  (jB p b x=3/\∃ i:Nat,qx p b x w=(5+w,(i:Int))/\i<(qF p b).length/\(qF p b++qd p b)[i]?=some x) \/
  (jB p b x=1/\∃ i:Nat,qx p b x w=(5+w,(((qF p b).length+i:Nat):Int))/\i<(qd p b).length/\(qF p b++qd p b)[(qF p b).length+i]?=some x):=by
 have hx:0<=x/\x<=7:=by
  grind[Za.us,mem_sorted]
 obtain⟨s0,s4⟩:=P3 (p:=p) (b:=b) (x:=x);by_cases e0:jB p b x=0
 .grind[qx]
 by_cases e2:jB p b x=2
 .grind[qx]
 by_cases e4:jB p b x=4
 .simp_all[yC,Aa,qx]
 by_cases e3:jB p b x=3
 .grind[P2,yC,qx,aE]
 have e1:jB p b x=1:=qA
 simp_all[A9,yC,qx,aE,b7]
theorem rx {p:Z0} {b:Nat} {x w:Int} (hw:0<=w):2<=(qx p b x w).1:=by
 grind[qx]
theorem mL {k:Za} {s:Z9} {x:Int} (hn:qCU k) (hs:s∈k.body) (hx:x∈s.reads):x∈k.us:=by
 have h1:=hn.reads s hs x hx
 grind[Za.us,mem_sorted,Za.rd,j8,Z9.reads]
theorem LP {k:Za} {s:Z9} (hn:qCU k) (hs:s∈k.body) (h:s.qBN\/s.kind=11):s.to∈k.us:=by
 have h1:=hn.tos s hs
 grind[Za.us,mem_sorted,Za.bd,uB]
theorem JO {l:List (Int×Int)} (h:∀ o∈l,0<o.1):ub l=0:=by
 grind[ub]
theorem JR {p:Z0} {b:Nat} {s:Z9}:∀ o∈wA p b s++(j5 s++cg p b s),0<o.1:=by
 intro o ho;simp only [dY] at ho;rcases ho with ho|ho|ho
 .simp only [wA,fG] at ho;obtain⟨x,_,rfl⟩:=ho;have:=rx (p:=p) (b:=b) (x:=x) (w:=0) qO;omega
 .grind[j5]
 .unfold cg at ho
  split at ho
  .obtain rfl:=w6.1 ho;have:=rx (p:=p) (b:=b) (x:=s.to) (w:=2) qO;omega
  .split at ho
   .obtain rfl:=w6.1 ho;have:=rx (p:=p) (b:=b) (x:=s.to) (w:=1) qO;omega
   .cases ho
theorem JP {p:Z0} {b:Nat} {s:Z9}:ub (fC p b s)=1:=by
 have h:=JO (JR (p:=p) (b:=b) (s:=s))
 grind[ub,fC]
theorem xf {p:Z0} {b:Nat}:∀ ss:List Z9,ub (uP p b ss)=ss.length
 | []=>rfl
 | s::l=>by
  have h:=xf (p:=p) (b:=b) l
  grind[uP,LS,JP]
theorem cq {l:List (Int×Int)} {x y:Int}:uc l++[[iv x,iv y]]=uc (l++[(x,y)]):=cP
structure Cod where
 kind:Int
 params:List Int
 Z3:List Int
 cells:List Int
 qB2:List Int
 ops:List (Int×Int)
 deriving DecidableEq,Inhabited
def ff:Cod:=⟨0,[],[],[],[],[]⟩
@[simp] theorem noCode_kind:ff.kind=0:=rfl
@[simp] theorem noCode_params:ff.params=[]:=rfl
@[simp] theorem noCode_fasts:ff.Z3=[]:=rfl
@[simp] theorem noCode_cells:ff.cells=[]:=rfl
@[simp] theorem noCode_frees:ff.qB2=[]:=rfl
@[simp] theorem noCode_ops:ff.ops=[]:=rfl
def zC (p:Z0) (b:Nat):Cod:=match p[b]? with|some k=>⟨k.kind,k.params,qP p b,qF p b,qd p b,vI p b⟩|none=>ff
def qw (p:Z0) (n:Nat):List Cod:=(List.range n).map (zC p)
theorem oy {p:Z0} {n:Nat}:qw p (n+1)=qw p n++[zC p n]:=by simp [qw,HT]
@[simp] theorem codesTo_len {p:Z0} {n:Nat}:(qw p n).length=n:=by simp [qw]
@[simp] theorem codesTo_zero {p:Z0}:qw p 0=[]:=rfl
abbrev Cod.row (c:Cod):List AV:=[iv c.kind,isl c.params,isl c.Z3,isl c.cells,isl c.qB2,osl c.ops]
abbrev Cod.av (c:Cod):AV:=.agg c.row
def ic (cs:List Cod):List (List AV):=cs.map Cod.row
abbrev csl (cs:List Cod):AV:=.sl 6 (ic cs)
def Cod.own (n:Nm) (i:Nat) (c:Cod):List AV :=
 [iv c.kind,.hs (.c n i 1) 1 0 c.params.length,.hs (.c n i 2) 1 0 c.Z3.length,.hs (.c n i 3) 1 0 c.cells.length,.hs (.c n i 4) 1 0 c.qB2.length,.hs (.c n i 5) 2 0 c.ops.length]
@[simp] theorem Cod.qB1 {n:Nm} {i:Nat} {c:Cod}:c.own n i=[iv c.kind,.hs (.c n i 1) 1 0 c.params.length,.hs (.c n i 2) 1 0 c.Z3.length,.hs (.c n i 3) 1 0 c.cells.length,.hs (.c n i 4) 1 0 c.qB2.length,.hs (.c n i 5) 2 0 c.ops.length]:=rfl
structure qBp (hp:Nm->Option AO) (n:Nm) (i:Nat) (c:Cod):Prop where
 params:hp (.c n i 1)=some (.row 1 (qT c.params))
 Z3:hp (.c n i 2)=some (.row 1 (qT c.Z3))
 cells:hp (.c n i 3)=some (.row 1 (qT c.cells))
 qB2:hp (.c n i 4)=some (.row 1 (qT c.qB2))
 ops:hp (.c n i 5)=some (.row 2 (uc c.ops))
def uY (n:Nm) (cs:List Cod):List (List AV):=cs.mapIdx λi c=>c.own n i
structure qDW (hp:Nm->Option AO) (n:Nm) (cs:List Cod):Prop where
 top:hp n=some (.row 6 (uY n cs))
 each:∀ (i:Nat) c,cs[i]?=some c->qBp hp n i c
section
variable {cs:List Cod} {i a b d l:Nat} {n q k1:Nm} {c:Cod}
@[simp] theorem kcrows_len:(ic cs).length=cs.length:=by simp [ic]
@[simp] theorem KH:(ic cs)[i]?=(cs[i]?).map Cod.row:=by simp [ic]
@[simp] theorem kcrows_tr {f:Nm->Option Nm}:(ic cs).map (λr=>r.map (AV.tr f))=ic cs:=by simp [ic]
@[simp] theorem kdRows_len:(uY n cs).length=cs.length:=by simp [uY]
@[simp] theorem AE:(uY n cs)[i]?=(cs[i]?).map (λc=>c.own n i):=by simp [uY]
@[simp] theorem kdRows_nil:uY n []=[]:=rfl
@[simp] theorem kdRows_take:(uY n cs).take cs.length=uY n cs:=b9 qB
theorem AF:uY n (cs++[c])=uY n cs++[c.own n cs.length]:=by simp [uY]
theorem dD {f:Nm->Option Nm} {m:Nm} (h:∀ i j,i<cs.length->f (.c n i j)=some (.c m i j)):(uY n cs).map (λr=>r.map (AV.tr f))=uY m cs:=by
 apply wK;intro i;simp only [kx,AE,Option.map_map]
 cases hx:cs[i]? with
 | none=>rfl
 | some x=>simp [Cod.own,h i _ (gS hx).1]
@[simp] theorem kdRows_kl (h:Nm.under (.s d) n=false):(uY n cs).map (λr=>r.map (AV.tr (kl (.s d))))=uY n cs:=dD dO
@[simp] theorem kdRows_mv1 (h:Nm.under (.s a) n=true):(uY n cs).map (λr=>r.map (AV.tr (mv (.s a) k1)))=uY (Nm.Zn (.s a) k1 n) cs:=dD dO
@[simp] theorem kdRows_mvc:(uY n cs).map (λr=>r.map (AV.tr (mvc n k1)))=uY k1 cs:=by
 refine dD λi j _=>?_;have:Nm.c n i j≠n:=Nm.qAT (Nm.Z6 n);simp [this]
@[simp] theorem kdRows_mv4 {j:Nat} (hq:(q=n)=False) (hq':Nm.under (.c q a b) n=false) (hl:cs.length<=l):(uY n cs).map (λr=>r.map (AV.tr (mv (.c q a b) (.c n l j))))=uY n cs:=by
 have h1:¬ n=q:=λe=>by simp [e] at hq
 have h2:Nm.under (.c n l j) n=false:=by
  cases h:Nm.under (.c n l j) n with
  | false=>rfl
  | true=>exact absurd rfl (Nm.qAS h).2
 refine dD λi j hi=>?_;have h3:¬ i=l:=qA;simp [h1,hq',h2,h3]
end
theorem OP {hp:Nm->Option AO} {n:Nm} {i:Nat} {c:Cod} (h:qBp hp n i c):∀ (j:Nat) a a',(c.own n i)[j]?=some a->c.row[j]?=some a'->Bw hp noD a a'
 | 0,a,a',ha,ha'=>by obtain rfl:=sI ha;obtain rfl:=sI ha';exact .refl _
 | 1,a,a',ha,ha'=>by obtain rfl:=sI ha;grind[vF,qBp.params]
 | 2,a,a',ha,ha'=>by obtain rfl:=sI ha;grind[vF,qBp.Z3]
 | 3,a,a',ha,ha'=>by obtain rfl:=sI ha;grind[vF,qBp.cells]
 | 4,a,a',ha,ha'=>by obtain rfl:=sI ha;obtain rfl:=sI ha';exact vF h.qB2 rfl
 | 5,a,a',ha,ha'=>by obtain rfl:=sI ha;obtain rfl:=sI ha';exact CV h.ops rfl
 | j+6,a,a',ha,_=>qH
theorem iO {hp:Nm->Option AO} {n:Nm} {i:Nat} {c:Cod} (h:qBp hp n i c):Bw hp noD (.agg (c.own n i)) c.av:=.agg _ _ rfl (OP h)
theorem kn {hp:Nm->Option AO} {n:Nm} {len:Nat} {cs:List Cod} (h:qDW hp n cs) (hl:len=cs.length):Bw hp noD (.hs n 6 0 len) (csl cs):=by
 subst hl;refine .hs n 6 0 cs.length (uY n cs) (ic cs) rfl h.top qB qB (by simp [ic]) λi r r' hr hr' j a a' ha ha'=>?_;rw [xX,AE] at hr;rw [KH] at hr';obtain⟨x,hx,rfl⟩:=ku.1 hr;rw [hx] at hr';obtain rfl:=sI hr';exact OP (h.each i x hx) j a a' ha ha'
theorem qBp.qAH {H':Nm->Option AO} {n:Nm} {i:Nat} {c:Cod} (h:qBp H' n i c):qBp (qAH H') n i c :=
 ⟨zX h.params qB,zX h.Z3 qB,zX h.cells qB,zX h.qB2 qB,zX h.ops qB⟩
theorem gp {l:List (Int×Int)} {i:Nat} {o:Int×Int} (h:l[i]?=some o):ub (l.take (i+1))=ub (l.take i)+(if o.1=0 then 1 else 0):=by
 grind[uQ,ub]
theorem Hi {l:List (Int×Int)}:ub l<=l.length:=List.countP_le_length
theorem dl {p:Z0} {b:Nat} (hp:Z7 p):(vI p b).length<=60:=by
 unfold vI
 split
 .rename_i k hk;have h1:=tx (p:=p) (b:=b) k.body;have h2:=hp.body k (gM hk);omega
 .simp
end Go.Hm
end
