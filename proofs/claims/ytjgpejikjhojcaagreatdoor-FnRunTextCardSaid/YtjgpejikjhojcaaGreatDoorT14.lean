import Derived.Test.YtjgpejikjhojcaaGreatDoorT13
set_option linter.unusedSimpArgs false
set_option linter.unusedVariables false
set_option maxRecDepth 100000
set_option maxHeartbeats 4000000

section
namespace Go.Hm
open Go Go.RowKit
section
variable {p:qC} {w:qK} {m:qU} {B:List Nat} {a b o d up:Nat} {c e:Act} {k:qT} {f:qN} {x:Int} {fs:List qN} {vs:List qR} {cs:List Nat} {st:List Nat} {s:qP} {n:Nat} {R:qK->Nat->qK×qR}
theorem GZ (h:m.qW=fs++[f]):m.top fs f=m:=by
 cases m<;>grind[qU.top]
theorem AT {S:List qR} {v:qR} {g:qN} (h:g.stack=S++[v]):g.zN=v/\g.pop.stack=S:=by
 simp [qN.zN,qN.pop,h]
def Ct (p:qC) (m0:qU) (B:List Nat) (fs:List qN) (f:qN) (S:List qR) (rest:List (Int×Int)) (W:qK×qR):Prop :=
 ∃ m' B',uz p m0 m'/\B <+: B'/\jB p W.1 m' B'/\(W.1.en=0->∃ g,m'=m'.top fs g/\g.qD=f.qD/\g.stack=S++[W.2]/\g.at p rest)
theorem PR (hp:zq p) (hO:bA p n R) (hS:nq p n R) (h:yx p w m B fs f st a c k) (hn:w.left<n) (hr:Room 1 w) {S:List qR} {g:qR} {args:List qR} (hst:f.stack=S++(g::args)) (hg:zO w.qJ.length w.qO.length g) (hv:∀ v∈args,zO w.qJ.length w.qO.length v) {rest:List (Int×Int)} (ha:f.at p ((17,(args.length:Int))::rest)) :
  Ct p (m.top fs f) B fs f S rest (vb p R w g args):=by
 obtain⟨h1,h2⟩:=qN.dK ha;have hs:=h.step h1;have hn2:yx p w m B fs f.next st a c k:=h.re rfl rfl rfl rfl;have e0:jW p m fs f.next (17,(args.length:Int))=eE p m fs f.next (17,(args.length:Int)):=bi;rw [e0] at hs;have hlen:f.next.stack.length - args.length - 1=S.length:=tu;have t1:f.next.stack.take S.length=S:=tu;have t2:f.next.stack.getD S.length (0,0)=g:=tu
 have t3:f.next.stack.drop (S.length+1)=args:=by
  simp_all[qN.next]
 unfold eE at hs;simp only [vN,hlen,t1,t2,t3] at hs;have hn3:yx p w m B fs { f.next with stack:=S } st a c k:=h.re rfl rfl rfl rfl;by_cases hk:g.1≠2
 .rw [if_pos hk] at hs;unfold vb;rw [if_pos hk];exact⟨_,B,hs,uY _,hn2.yv.lA rfl rfl rfl rfl,λe=>fO⟩
 .rw [if_neg hk] at hs;unfold vb;rw [if_neg hk];have hk':g.1=2:=qA;have hgl:g.2.toNat<w.qJ.length:=by have:=hg.fn hk';have:=hg.num;omega
  obtain⟨q,hq⟩:=gX hgl;have hfu:m.qJ=w.qJ.map λg=>(g.1,kh p w.qF B g.1 g.2):=h.yv.qJ;have hmq:m.qJ[g.2.toNat]?=some (q.1,kh p w.qF B q.1 q.2):=qL;rw [hmq] at hs;simp only [hq];simp only at hs;by_cases hpn:vT p q.1≠args.length
  .rw [if_pos hpn] at hs;rw [if_pos hpn];exact⟨_,B,hs,uY _,hn2.yv.lA rfl rfl rfl rfl,λe=>fO⟩
  .rw [if_neg hpn] at hs;rw [if_neg hpn]
   have hpn':args.length=vT p q.1:=by
    omega
   have hkq:=h.yv.fk q (gM hq);obtain⟨m',B',s1,s2,s3⟩:=Ie (cs:=kh p w.qF B q.1 q.2) hp hO hS hn3 hn (h.ok.qJ _ q hq) rfl hpn' hv hr;rcases s3 with⟨e1,e2⟩|⟨e1,_,e2,e3⟩|⟨_,e2,_⟩
   .exact⟨m',B',hs.trans s1,s2,e2,λe=>absurd e e1⟩
   .exact⟨m',B',hs.trans s1,s2,qp,λ_=>⟨_,e3,rfl,rfl,h2⟩⟩
   .omega
theorem P8 (hp:zq p) (hO:bA p n R) (hS:nq p n R) (h:yx p w m B fs f st a c k) (hn:w.left<n) (hr:Room 2 w) (hm:vL p w.qF b a) (hk:zt p b=2) {rest:List (Int×Int)} (ha:f.at p ((16,(b:Int))::rest)) :
  Ct p (m.top fs f) B fs f f.stack rest (aZ p R w b a):=by
 obtain⟨h1,h2⟩:=qN.dK ha;have hs:=h.step h1;have hn2:yx p w m B fs f.next st a c k:=h.re rfl rfl rfl rfl;have e0:jW p m fs f.next (16,(b:Int))=vP p (m.top fs f.next) b (jV p f.next b) []:=bi;rw [e0] at hs
 have hpar:(0:Nat)=vT p b:=by
  obtain⟨_,q,_,hq,_,hb0⟩:=hm;have hh:=hp.sh.head b q hq
  grind[zt,vT]
 obtain⟨m',B',s1,s2,s3⟩:=Ie (vs:=[]) hp hO hS hn2 hn hm (IK hp.sh.jR h.ok h.act hn2.fr hm) qA (λv hv=>oH) (hr.mono qA);unfold aZ;rcases s3 with⟨e1,e2⟩|⟨_,e1,_⟩|⟨e1,_,e2,e3⟩
 .rw [if_pos e1];exact⟨m',B',hs.trans s1,s2,e2,λe=>absurd e e1⟩
 .omega
 .rw [if_neg (λh=>h e1)];exact⟨m',B',hs.trans s1,s2,qp,λ_=>⟨_,e3,rfl,rfl,h2⟩⟩
theorem Oa {v:qR} (h:¬ v.1≠3):uI w v x=match zn (w.qO.getD v.2.toNat []) x.toNat with|some u=>(w,u)|none=>({ w with en:=7 },(0,0)):=by
 grind[uI,zn]
theorem Eb {l:List qR} (h:l.length=1):∃ u,l=[u]:=pX.1 h
theorem Ec {l:List qR} (h:l.length=2):∃ u v,l=[u,v]:=by
 match l,h with
 | [u,v],_=>simp
theorem qAN (hp:zq p) (hO:bA p n R) (hS:nq p n R) (h:yx p w m B fs f st a c k) (hn:w.left<n) (hr:Room 2 w) (hs:s∈k.body) (hsk:0<=s.kind/\s.kind<=6) (hvl:vs.length=s.reads.length) (hvo:∀ v∈vs,zO w.qJ.length w.qO.length v) {S:List qR} (hst:f.stack=S++vs) {rest:List (Int×Int)} (ha:f.at p (jM s++rest)) :
  Ct p (m.top fs f) B fs f S rest (j9 p R w a s vs):=by
 have hok:=hp.sh.an c.qD k h.qD s hs
 have hmade:s.kind=3\/s.kind=4->vL p w.qF s.a.toNat a/\zt p s.a.toNat=s.kind - 2/\0<s.a:=λe=>by
  obtain⟨q,h1,h2,h3,h4⟩:=zW.made hok e;exact⟨⟨c,q,h.act,h1,h2,qA⟩,xC,h3⟩
 unfold j9;by_cases k0:s.kind=0
 .rw [if_pos k0];have hw:jM s=[(1,s.a)]:=by simp [jM,k0]
  rw [hw] at ha;obtain⟨h1,h2⟩:=qN.dK ha;have hs:=h.step h1;have e0:jW p m fs f.next (1,s.a)=m.top fs (f.next.push (1,s.a)):=bi;rw [e0] at hs;have hv0:vs=[]:=aX r6;exact⟨_,B,hs,uY _,h.yv.nC (st:=st) rfl rfl rfl rfl,λ_=>⟨_,rfl,rfl,D0,h2⟩⟩
 rw [if_neg k0];by_cases k2:s.kind=2
 .rw [if_pos k2];have hw:jM s=[(14,0)]:=by simp [jM,k2]
  rw [hw] at ha;obtain⟨h1,h2⟩:=qN.dK ha;have hs:=h.step h1;obtain⟨u,v,rfl⟩:=Ec (l:=vs) r6;have t1:=AT (g:=f.next) (S:=S++[u]) (v:=v) tu;have t2:=AT (g:=f.next.pop) (S:=S) (v:=u) t1.2;have e0:jW p m fs f.next (14,0)=iZ m fs f.next:=bi;rw [e0,iZ] at hs;simp only [t1.1,t2.1] at hs;unfold uF;simp only [List.getD_cons_zero,List.getD_cons_succ]
  split
  .rename_i hc;rw [if_pos hc] at hs;exact⟨_,B,hs,uY _,h.yv.lA rfl rfl rfl rfl,λe=>fO⟩
  .rename_i hc;rw [if_neg hc] at hs;exact⟨_,B,hs,uY _,h.yv.nC (st:=st) rfl rfl rfl rfl,λ_=>⟨_,rfl,rfl,by grind[qN.push],h2⟩⟩
 rw [if_neg k2];by_cases k3:s.kind=3
 .rw [if_pos k3];obtain⟨hm,hkn,hpos⟩:=hmade (.inl k3);have hw:jM s=[(15,s.a)]:=by simp [jM,k3]
  rw [hw] at ha;obtain⟨h1,h2⟩:=qN.dK ha;have hs:=h.step h1;have e0:jW p m fs f.next (15,s.a)={ m.top fs (f.next.push (2,m.qJ.length)) with qJ:=m.qJ++[(s.a.toNat,jV p f.next s.a.toNat)] }:=bi;rw [e0] at hs;have hv0:vs=[]:=aX r6;have hn2:yx p w m B fs f.next st a c k:=h.re rfl rfl rfl rfl;have hn3:yx p w m B fs (f.next.push (2,m.qJ.length)) st a c k:=h.re rfl rfl rfl rfl;have hfu:m.qJ=w.qJ.map λg=>(g.1,kh p w.qF B g.1 g.2):=h.yv.qJ;have hfl:m.qJ.length=w.qJ.length:=qL;have hcap:=IK hp.sh.jR h.ok h.act hn2.fr hm;refine⟨_,B,hs,uY _,?_,λ_=>⟨_,rfl,rfl,D0,h2⟩⟩;have hR:=hn3.yv;refine⟨hR.en,hR.out,hR.tr,hR.left,hR.zJ,hR.cls,?_,hR.made,hR.dq,hR.top,hR.bM,hR.val,hR.dR,hR.bk,hR.zR,λg hg=>?_⟩
  .simp_all
  .rcases jo.1 hg with e|e
   .exact hR.fk g e
   simp_all
 rw [if_neg k3];by_cases k4:s.kind=4
 .grind[jM,qP.reads,P8]
 rw [if_neg k4];by_cases k5:s.kind=5
 .rw [if_pos k5]
  have hrl:s.reads.length=1\/s.reads.length=2:=by
   grind[qP.reads]
  match vs,hvl with
  | [],hvl=>grind
  | g::args,hvl =>
   have hw:jM s=[(17,(args.length:Int))]:=by
    grind[jM]
   rw [hw] at ha;exact PR hp hO hS h hn (hr.mono qA) hst (hvo g tN) (λv hv=>hvo v (aB _ hv)) ha
 rw [if_neg k5];by_cases k6:s.kind=6
 .rw [if_pos k6];have hw:jM s=[(18,s.b)]:=by simp [jM,k6]
  rw [hw] at ha;obtain⟨h1,h2⟩:=qN.dK ha;have hs:=h.step h1;obtain⟨v,rfl⟩:=Eb (l:=vs) r6;have t1:=AT (g:=f.next) (S:=S) (v:=v) hst;have e0:jW p m fs f.next (18,s.b)=fH m fs f.next (18,s.b):=bi;rw [e0,fH] at hs;have hcl:m.qO=w.qO:=h.yv.cls;simp only [t1.1,hcl] at hs;simp only [List.getD_cons_zero];by_cases hv3:v.1≠3
  .rw [if_pos hv3] at hs;unfold uI;rw [if_pos hv3];exact⟨_,B,hs,uY _,h.yv.lA rfl rfl rfl rfl,λe=>fO⟩
  .rw [if_neg hv3] at hs;rw [Oa hv3]
   cases hu:zn (w.qO.getD v.2.toNat []) s.b.toNat with
   | some u =>
    rw [hu] at hs;exact⟨_,B,hs,uY _,h.yv.nC (st:=st) rfl rfl rfl rfl,λ_=>⟨_,rfl,rfl,by grind[qN.push],h2⟩⟩
   | none =>
    rw [hu] at hs;exact⟨_,B,hs,uY _,h.yv.lA rfl rfl rfl rfl,λe=>fO⟩
 rw [if_neg k6];have k1:s.kind=1:=qA;have hw:jM s=[]:=by simp [jM,k1]
 rw [hw] at ha;obtain⟨v,rfl⟩:=Eb (l:=vs) r6;exact⟨_,B,.refl _,uY _,h.yv,λ_=>⟨f,rfl,rfl,hst,ha⟩⟩
end
end Go.Hm
end
section

end
section
namespace Go.Hm
open Go Go.RowKit
section
variable {p:qC} {w:qK} {m:qU} {B:List Nat} {a b o d up:Nat} {c e:Act} {k:qT} {f:qN} {x:Int} {fs:List qN} {vs:List qR} {cs:List Nat} {st:List Nat} {s:qP} {n:Nat} {R:qK->Nat->qK×qR}
theorem TG:∀ {l:List Int} {w:qK},(zB p w a l).1.en=0->(zB p w a l).2.length=l.length
 := by intro x0;induction x0<;>grind[zB]
def Ny (p:qC) (m0:qU) (B:List Nat) (fs:List qN) (f:qN) (rest:List (Int×Int)) (W:qK):Prop :=
 ∃ m' B',uz p m0 m'/\B <+: B'/\jB p W m' B'/\(W.en=0->∃ g,m'=m'.top fs g/\g.qD=f.qD/\g.stack=f.stack/\g.at p rest)
theorem ZN (hp:z6 p) (h:yx p w m B fs f st a c k) (hu:x∈k.us) {S:List qR} {v:qR} (hst:f.stack=S++[v]) {rest:List (Int×Int)} (ha:f.at p (zy p c.qD x 1::rest)) :
  ∃ m',uz p (m.top fs f) m'/\jB p (cz p w a x v) m' B/\∃ g,m'=m'.top fs g/\g.qD=f.qD/\g.stack=S/\g.at p rest:=by
 obtain⟨h1,h2⟩:=qN.dK ha;have hs:=h.step h1;rw [Bx hp h.qD hu (.inr (.inl rfl)),if_neg qc,if_pos rfl] at hs;have t1:=AT (g:=f.next) (S:=S) (v:=v) hst;rw [CW,t1.1] at hs;obtain⟨s1,g',s2,s3,s4,s5⟩:=MJ (g:=f.next.pop) (s:=some v) (v:=1) hp h.ok h.yv h.zR h.act h.qD hu qc rfl rfl rfl rfl;refine⟨_,hs,s1,g',(GZ s2).symm,s3,s5.trans t1.2,?_⟩;unfold qN.at at h2 ⊢;rw [s3,s4];exact h2
theorem ZA (hp:zq p) (hO:bA p n R) (hS:nq p n R) (h:yx p w m B fs f st a c k) (hn:w.left<n) (hr:Room 2 w) (hs:s∈k.body) (h8:s.kind≠8) {rest:List (Int×Int)} (ha:f.at p (uG p c.qD s++(jM s++(yP p c.qD s++rest)))) :
  Ny p (m.top fs f) B fs f rest (vE p R w a s):=by
 have hkm:=gM h.qD;have hnm:=hp.sh.names k hkm;have hkd:=hnm.kinds s hs;have hok:=hp.sh.an c.qD k h.qD s hs;have hb:=v8 h.act;have hal:=(gS h.act).1;have hok':zW p (w.qD a) k s=true:=qL;unfold vE;by_cases k9:s.kind=9\/s.kind=10
 .rw [if_pos k9];have e1:uG p c.qD s=[]:=DU;have e2:jM s=[]:=by grind[jM]
  have e3:yP p c.qD s=[]:=by grind[yP]
  rw [e1,e2,e3] at ha;exact⟨_,B,.refl _,uY _,h.yv,λ_=>⟨f,rfl,rfl,rfl,ha⟩⟩
 rw [if_neg k9];by_cases k11:s.kind=11
 .rw [if_pos k11];have e1:uG p c.qD s=[]:=DU;have e2:jM s=[]:=by grind[jM]
  have e3:yP p c.qD s=[zy p c.qD s.to 2]:=by grind[yP]
  have hu:=GY hnm hs (.inr k11);rw [e1,e2,e3] at ha;obtain⟨h1,h2⟩:=qN.dK ha;have hst:=h.step h1;rw [Bx hp.sh h.qD hu (.inr (.inr rfl)),if_neg qc,if_neg qc] at hst;have hn2:yx p w m B fs f.next st a c k:=h.re rfl rfl rfl rfl;obtain⟨g1,g2⟩:=JL (x:=s.to) (v:=2) hp.sh h.ok h.yv h.act hn2.fr h.qD hu qc;have g1:uB m f.next (zy p c.qD s.to 2)=w.get (w.loc p a s.to) s.to:=g1;unfold mb at hst;unfold wo;rw [g1] at hst
  cases hg:w.get (w.loc p a s.to) s.to with
  | some v =>
   rw [hg] at hst;obtain⟨s1,g',s2,s3,s4,s5⟩:=MJ (g:=f.next) (s:=none) (v:=2) hp.sh h.ok h.yv h.zR h.act h.qD hu qc rfl rfl rfl rfl;refine⟨_,B,hst,uY _,s1,λ_=>⟨g',(GZ s2).symm,s3,s5,?_⟩⟩
   simp_all[qN.at]
  | none =>
   rw [hg] at hst;simp only [g2] at hst;rw [hb];exact⟨_,B,hst,uY _,h.yv.lA rfl rfl rfl rfl,λe=>absurd e oo⟩
 rw [if_neg k11];have hus:∀ y∈s.reads,y∈k.us:=λy hy=>Ff hnm hs hy;have hvw:(y7 p R w a s)=if (zB p w a s.reads).1.en≠0 then ((zB p w a s.reads).1,(0,0)) else j9 p R (zB p w a s.reads).1 a s (zB p w a s.reads).2:=rfl
 obtain⟨hl1,hl2,_,_⟩:=ot (a:=a) (l:=s.reads) h.ok;rcases KC hp.sh s.reads f h hus ha with⟨i1,g,i2,i3,i4,i5,i6,i7,i8⟩|⟨i1,m',i2,i3⟩
 .have i0:¬ (zB p w a s.reads).1.en≠0:=by grind[yx.en]
  rw [if_neg i0,i1] at hvw;have hvl:=TG (p:=p) (a:=a) (l:=s.reads) (w:=w) qA;have hvo:=hl2;have hg:yx p w m B fs g st a c k:=h.re i4 i5 i6 i7;by_cases k7:s.kind=7
  .have hw7:y7 p R w a s=(w,(zB p w a s.reads).2.getD 0 (0,0)):=by grind[j9]
   rw [hw7];simp only [if_neg (λe=>e h.en:¬ w.en≠0),if_pos k7];have e2:jM s=[(19,0)]:=by simp [jM,k7]
   have e3:yP p c.qD s=[]:=by simp [yP,k7]
   rw [e2,e3] at i3;obtain⟨h1,h2⟩:=qN.dK i3;have hst:=hg.step h1;obtain⟨v,hv⟩:=Eb (l:=(zB p w a s.reads).2) r6;have t1:=AT (g:=g.next) (S:=f.stack) (v:=v) (by rw [<- hv];exact i8);have e0:jW p m fs g.next (19,0)={ m.top fs g.next.pop with out:=m.out++[shown g.next.zN] }:=bi;rw [e0,t1.1] at hst;rw [hv];have hR:=hg.yv.nC (st:=st) (g:=g.next.pop) rfl rfl rfl rfl;have hout:m.out=w.out:=h.yv.out;refine⟨_,B,i2.trans hst,uY _,⟨hR.en,by simp [hout],hR.tr,hR.left,hR.zJ,hR.cls,hR.qJ,hR.made,hR.dq,hR.top,hR.bM,hR.val,hR.dR,hR.bk,hR.zR,hR.fk⟩,λ_=>⟨g.next.pop,rfl,i4,t1.2,h2⟩⟩
  .have hk6:0<=s.kind/\s.kind<=6:=qA;obtain⟨m1,B1,w1,w2,w3,w4⟩:=qAN hp hO hS hg hn hr hs hk6 hvl hvo i8 i3;rw [<- hvw] at w3 w4;obtain⟨hA,hV⟩:=C7 hO h.ok hn h.en hal hok' hr;by_cases he:(y7 p R w a s).1.en=0
   .rw [if_neg (λe=>e he),if_neg k7];obtain⟨g1,e1,e2,e3,e4⟩:=w4 he;have w3':jB p (y7 p R w a s).1 (m1.top fs g1) B1:=qp;have w1':uz p (m.top fs g) (m1.top fs g1):=qp;obtain⟨c1,d1,d2,d3⟩:=hA.grow.qF a c h.act;have hH:yx p (y7 p R w a s).1 m1 B1 fs g1 st a c1 k:=⟨w3',hA.ok,he,(hA.zR he).trans h.zR,d1,by grind[yx.qD]⟩
    have e5:yP p c.qD s=[zy p c1.qD s.to 1]:=by
     grind[yP]
    rw [e5] at e4;obtain⟨m2,q1,q2,g2,q3,q4,q5,q6⟩:=ZN hp.sh hH (GY hnm hs (.inl hk6)) e3 e4;exact⟨m2,B1,(i2.trans w1').trans q1,w2,q2,λ_=>⟨g2,q3,q4.trans (e2.trans i4),q5,q6⟩⟩
   .rw [if_pos he];exact⟨m1,B1,i2.trans w1,w2,w3,λe=>absurd e he⟩
 .rw [if_pos i1] at hvw;rw [hvw];simp only [if_pos i1];exact⟨m',B,i2,uY _,i3,λe=>absurd e i1⟩
theorem Oz {l l':List qP}:vX p b (l++l')=vX p b l++vX p b l':=by simp [vX]
theorem Hi (hp:zq p) (hO:bA p n R) (hS:nq p n R):∀ (l:List qP) (w:qK) (m:qU) (B:List Nat) (f:qN) (c:Act) (i:Nat),yx p w m B fs f st a c k->w.left<n+1->k.body=k.body.take i++l->i<=k.body.length->f.stack=[]->f.at p (vX p c.qD l) ->
  ∃ m' B',uz p (m.top fs f) m'/\jB p (y9 p R a w i l).1 m' B'/\B <+: B'/\((y9 p R a w i l).1.en=0->∃ f',m'.qW=fs++[f']/\f'.qD=f.qD/\cD p m'=rt p m' fs f' (y9 p R a w i l).2)
 | [],w,m,B,f,c,i,h,hn,hb,hi,hst,ha=>by
  refine⟨_,B,.refl _,h.yv,uY _,λ_=>⟨f,rfl,rfl,?_⟩⟩;rw [step_end (f:=f) (fs:=fs) rfl (qN.O9 ha)]
  rfl
 | s::l,w,m,B,f,c,i,h,hn,hb,hi,hst,ha=>by
  have hil:i<k.body.length:=by
   grind
  have hsm:s∈k.body:=qp
  have hat:f.at p ((0,0)::(uG p c.qD s++(jM s++(yP p c.qD s++vX p c.qD l)))):=by
   grind[vX,bS]
  obtain⟨h1,h2⟩:=qN.dK hat;have hs:=h.step h1;have hfb:f.qD=c.qD:=h.fr.qD;have hbw:=v8 h.act;have hlw:m.left=w.left:=h.yv.left;have e0:jW p m fs f.next (0,0)=dB p m fs f.next:=by simp [jW]
  rw [e0,dB] at hs;simp only [y9];by_cases hl0:w.left=0
  .rw [if_pos (hlw.trans hl0)] at hs;rw [if_pos hl0];exact⟨_,B,hs,h.yv.lA rfl rfl rfl rfl,uY _,λe=>fO⟩
  rw [if_neg qA] at hs;rw [if_neg hl0]
  have hticks:uc ((zm p f.qD).take f.pc)=i:=by
   have e1:zm p f.qD=vX p c.qD (k.body.take i)++vX p c.qD (s::l):=by
    rw [hfb,zm,h.qD]
    grind[Oz]
   have e2:(zm p f.qD).take f.pc++(zm p f.qD).drop f.pc=vX p c.qD (k.body.take i)++vX p c.qD (s::l):=by
    grind[pY]
   have e3:(zm p f.qD).drop f.pc=vX p c.qD (s::l):=ha
   grind[List.append_cancel_right,Mz]
  have hpc:f.next.pc - 1=f.pc:=rfl;have hnb:f.next.qD=c.qD:=hfb;rw [hpc,hnb] at hs;rw [hfb] at hticks;rw [hticks] at hs;obtain⟨t1,t2⟩:=AQ (a:=a) (i:=i) h.ok hl0;have tn:(zD w a i).left<n:=by grind[zD]
  have hR:=h.yv.nC (st:=st) (g:=f.next) rfl rfl rfl rfl;have htr:m.trace=w.trace:=h.yv.tr
  have hH:yx p (zD w a i) { m with left:=m.left - 1,trace:=m.trace++[(c.qD,i)] } B fs f.next st a c k:=by
   refine⟨⟨hR.en,hR.out,?_,?_,hR.zJ,hR.cls,hR.qJ,hR.made,hR.dq,hR.top,hR.bM,hR.val,hR.dR,hR.bk,hR.zR,hR.fk⟩,t1,h.en,h.zR,h.act,h.qD⟩<;>grind[qU.top,zD]
  have hs':uz p (m.top fs f) (({ m with left:=m.left - 1,trace:=m.trace++[(c.qD,i)] }:qU).top fs f.next):=hs;generalize hm1:({ m with left:=m.left - 1,trace:=m.trace++[(c.qD,i)] }:qU)=m1 at hH hs';by_cases k8:s.kind=8
  .rw [if_pos k8];have hok:=hp.sh.an c.qD k h.qD s hsm
   have hk1:k.kind=1:=by
    grind[zW]
   have e1:uG p c.qD s=[zy p c.qD s.a 0]:=DU;have e2:jM s=[(20,0)]:=by simp [jM,k8]
   have e3:yP p c.qD s=[]:=by simp [yP,k8]
   rw [e1,e2,e3] at h2;obtain⟨g1,g2⟩:=qN.dK h2;have hu:s.a∈k.us:=Ff (hp.sh.names k (gM h.qD)) hsm (by simp [qP.reads,k8]);have hs2:=hH.step g1;rw [Bx hp.sh h.qD hu (.inl rfl),if_pos rfl] at hs2;have hn2:yx p (zD w a i) m1 B fs f.next.next st a c k:=hH.re rfl rfl rfl rfl;rcases KA (x:=s.a) hp.sh hn2 hu with⟨q1,q2⟩|⟨q1,q2,q3⟩
   .rw [q2] at hs2;rw [q1];have hn3:yx p (zD w a i) m1 B fs (f.next.next.push (zh p (zD w a i) a s.a).2) st a c k:=hH.re rfl rfl rfl rfl;have hat3:(f.next.next.push (zh p (zD w a i) a s.a).2).at p ((20,0)::([]++vX p c.qD l)):=g2;obtain⟨r1,r2⟩:=qN.dK hat3;refine⟨_,B,hs'.trans hs2,hn3.yv,uY _,λ_=>⟨_,rfl,rfl,?_⟩⟩;rw [AL (f:=f.next.next.push (zh p (zD w a i) a s.a).2) (fs:=fs) rfl r1];have hka:¬ zt p f.qD=2:=by rw [hfb];simp [zt,h.qD,hk1]
    grind[rt,jW,ur,qN.push,qN.zN,qN.next]
   .rw [q3] at hs2;refine⟨_,B,hs'.trans hs2,?_,uY _,λe=>absurd e q1⟩;rw [q2];exact hn2.yv.lA rfl rfl rfl rfl
  rw [if_neg k8];obtain⟨m2,B2,s1,s2,s3,s4⟩:=ZA hp hO hS hH tn t2 hsm k8 h2;have hal:=(gS h.act).1
  have hok':zW p ((zD w a i).qD a) k s=true:=by
   have:=hp.sh.an c.qD k h.qD s hsm;rw [<- hbw] at this;exact this
  have hA:=AN hO t1 tn h.en hal hok' t2;by_cases he:(vE p R (zD w a i) a s).en≠0
  .rw [if_pos he];exact⟨m2,B2,hs'.trans s1,s3,s2,λe=>absurd e he⟩
  .rw [if_neg he];have he':(vE p R (zD w a i) a s).en=0:=qA;obtain⟨g,g1,g2,g3,g4⟩:=s4 he';have s3':jB p (vE p R (zD w a i) a s) (m2.top fs g) B2:=qp;have s1':uz p (m1.top fs f.next) (m2.top fs g):=qp;obtain⟨c1,d1,d2,d3⟩:=hA.grow.qF a c h.act;have hH2:yx p (vE p R (zD w a i) a s) m2 B2 fs g st a c1 k:=⟨s3',hA.ok,he',(hA.zR he').trans h.zR,d1,by grind[yx.qD]⟩
   have hb2:k.body=k.body.take (i+1)++l:=by
    grind
   have hlft:=hA.grow.left;have hlt:(zD w a i).left=w.left - 1:=rfl;obtain⟨m3,B3,r1,r2,r3,r4⟩:=Hi hp hO hS l _ m2 B2 g c1 (i+1) hH2 qA hb2 qA (g3.trans hst) qp;refine⟨m3,B3,(hs'.trans s1').trans r1,r2,s2.trans r3,λe=>?_⟩
   grind
theorem Lp (hp:zq p):∀ n,nq p n (qg p n)
 | 0=>λw a m B fs f st _ h=>absurd h qA
 | n+1=>by
  intro w a m B fs f st hW hn he hst hR hf hb hpc hstk;simp only [qg];have hal:a<w.qF.length:=hW.zR a qL;obtain⟨c,hc⟩:=gX hal;have zF:=hW.wV a c hc;obtain⟨k,hk⟩:=gX zF;rw [v8 hc,hk];have hm:m.top fs f=m:=GZ hf;have hH:yx p w m B fs f st a c k:=⟨qL,hW,he,hst,hc,hk⟩
  have hat:f.at p (vX p c.qD k.body):=by
   grind[qN.at,v8,zm]
  have:=Hi hp (dZ hp.sh n) (Lp hp n) k.body w m B f c 0 hH hn qB qA hstk hat
  simp_all
end
section
variable {p:qC} {m:qU} {n i j:Nat}
theorem pH:∀ (i:Nat) (m:qU),jH p (i+1) m=if (jH p i m).ended then jH p i m else cD p (jH p i m)
 := by intro x0;induction x0<;>grind[jH]
theorem Lg (h:(jH p i m).ended) (hij:i<=j):jH p j m=jH p i m:=by
 induction hij<;>grind[pH]
structure pR (p:qC) (w:qK) (m:qU):Prop where
 en:m.en=w.en
 out:m.out=w.out
 tr:m.trace=w.trace
 left:m.left=w.left
 zJ:m.globals=w.globals
 made:m.made=w.qF.length
 fin:w.en=0->m.qW=[]
 err:w.en≠0->∃ B,jB p w m B
theorem Yw (hp:zq p):jB p (jX n) (j7 p n) [0]/\∃ f,(j7 p n).qW=[]++[f]/\f.qD=0/\f.pc=0/\f.stack=[]:=by
 have hl:=hp.sh.len;obtain⟨k,hk⟩:∃ k,p[0]?=some k:=⟨_,gE qA⟩;have hk0:=(hp.sh.dS hk).2 rfl;have hka:zt p 0=0:=xC;have hc0:qh p 0=[]:=by grind[qh]
 have hf0:zK p 0=[]:=by grind[zK]
 have hps:(zr p 0).params=[]:=by
  have:=hp.sh.head 0 k hk
  grind[zr]
 have hM:j7 p n=⟨[],j3,[],[],[⟨0,0,[],[],j3,[]⟩],1,1,[],[],0,n⟩:=by
  unfold j7 vP
  simp_all[uj]
 rw [hM]
 have hone:∀ (i:Nat) c,(jX n).qF[i]?=some c->i=0/\c=⟨0,0,j3⟩:=by
  grind[jX]
 refine⟨⟨rfl,rfl,rfl,rfl,rfl,rfl,rfl,rfl,rfl,λa c hc=>?_,λa a' c h1 h2 hc=>?_,λa j c x hc hx=>?_,rfl,λi a c f hi hc hf=>?_,gY,λg hg=>Ai⟩,_,rfl,rfl,rfl,rfl⟩
 .grind
 .simp_all
 .grind
 .obtain⟨rfl,rfl⟩:=hone a c hc;have hil:=(gS hf).1;constructor<;>grind[ez,II]
theorem Pj (hp:zq p) (hn:n<=150):∃ N,(jH p N (j7 p n)).ended/\pR p (vt p n) (jH p N (j7 p n)):=by
 obtain⟨hR,f,hf,hb,hpc,hst⟩:=Yw (n:=n) hp;have hl:=hp.sh.len;obtain⟨k,hk⟩:∃ k,p[0]?=some k:=⟨_,gE qA⟩;have hk0:=(hp.sh.dS hk).2 rfl;have hka:zt p 0=0:=xC;obtain⟨m',B',⟨N,s1⟩,s2,_,s4⟩:=Lp hp 151 (jX n) 0 (j7 p n) [0] [] f [] (AK hp.sh hn) Ai rfl rfl hR hf (by rw [hb];rfl) hpc hst;have hm:(qg p 151 (jX n) 0).1=vt p n:=rfl;rw [hm] at s2 s4;by_cases he:(vt p n).en=0
 .obtain⟨f',t1,t2,t3⟩:=s4 he;have hne:¬ m'.ended:=Eu (fs:=[]) t1 (s2.en.trans he);rw [rt,if_neg qL] at t3;have hlv:∀ v,vr m' [] v={ m' with qW:=[] }:=λ_=>rfl;rw [hlv] at t3
  have hr:jH p (N+1) (j7 p n)={ m' with qW:=[] }:=by
   grind[jH]
  refine⟨N+1,?_,?_⟩
  .constructor<;>grind
  constructor<;>grind[jB.en,jB.out,jB.tr,jB.left,jB.zJ,jB.made]
 .have hE:m'.ended:=.inr (by grind[jB.en])
  have hr:jH p N (j7 p n)=m':=by
   have:=s1 0;rw [dj] at this;exact this
  refine⟨N,qL,?_⟩;constructor<;>grind[jB.en,jB.out,jB.tr,jB.left,jB.zJ,jB.made]
end
def y4:List (Int×Int)->Nat
 | []=>0
 | o::l=>if o.1=0 then 0 else (if o.1=15\/o.1=16\/o.1=17\/o.1=19 then 1 else 0)+y4 l
def jw:Nat->List (Int×Int)->Prop
 | h,[]=>h=0
 | h,o::l =>
  if o.1=0 then h=0/\y4 l<=1/\jw 0 l
  else if o.1=1\/o.1=2\/o.1=5\/o.1=8\/o.1=11\/o.1=15\/o.1=16 then jw (h+1) l
  else if o.1=3\/o.1=6\/o.1=9\/o.1=12\/o.1=19\/o.1=20 then 1<=h/\jw (h - 1) l
  else if o.1=14 then 2<=h/\jw (h - 1) l
  else if o.1=17 then o.2.toNat+1<=h/\jw (h - o.2.toNat) l
  else if o.1=18 then 1<=h/\jw h l
  else jw h l
structure Cm (p:qC) (b:Nat) (o:Int×Int):Prop where
 code:0<=o.1/\o.1<=20
 arg:0<=o.2/\o.2<=1000
 Ik:2<=o.1->o.1<=4->o.2<(zK p b).length
 cell:5<=o.1->o.1<=7->o.2<((qh p b).length:Int)+(jF p b).length
 name:8<=o.1->o.1<=13->o.2<=7
 attr:o.1=18->o.2<=7
 qD:o.1=15\/o.1=16->∃ q,p[o.2.toNat]?=some q/\q.parent=b/\0<o.2/\q.kind=o.1 - 14
 call:o.1=17->o.2<=1
 ret:o.1=20->zt p b=1
section
variable {p:qC} {b:Nat} {k:qT} {s:qP} {x:Int} {h:Nat} {l:List (Int×Int)}
theorem sU (hr:jw (h+1) l):jw h (zy p b x 0::l):=by
 grind[jw,zy]
theorem UR (hr:jw h l):jw (h+1) (zy p b x 1::l):=by
 have key:∀ c:Int,c=9\/c=12\/c=3\/c=6->∀ a,jw (h+1) ((c,a)::l):=by
  simp_all[jw]
 grind[zy]
theorem UQ (hr:jw h l):jw h (zy p b x 2::l):=by
 have key:∀ c:Int,c=10\/c=13\/c=4\/c=7->∀ a,jw h ((c,a)::l):=by
  intro c hc a;rcases hc with rfl|rfl|rfl|rfl <;> simpa [jw] using hr
 grind[zy]
theorem FQ {v:Int} (hv:v=0\/v=1\/v=2):y4 (zy p b x v::l)=y4 l:=by
 grind[y4,zy]
structure pQ (l:List (Int×Int)):Prop where
 ok:jw 0 l
 kv:y4 l=0
theorem ZI (hk:0<=s.kind/\s.kind<=11) (hl:pQ l):pQ (bS p b s++l):=by
 obtain⟨h1,h2⟩:=hl;have e:bS p b s++l=(0,0)::(uG p b s++(jM s++(yP p b s++l))):=by simp [bS]
 rw [e];refine⟨?_,it⟩
 have g:y4 (uG p b s++(jM s++(yP p b s++l)))<=1/\jw 0 (uG p b s++(jM s++(yP p b s++l))):=by
  obtain⟨kd,to,a,c⟩:=s;simp only at hk;have p0:=λx l=>FQ (p:=p) (b:=b) (x:=x) (l:=l) (v:=0) (.inl rfl);have p1:=λx l=>FQ (p:=p) (b:=b) (x:=x) (l:=l) (v:=1) (.inr (.inl rfl));have p2:=λx l=>FQ (p:=p) (b:=b) (x:=x) (l:=l) (v:=2) (.inr (.inr rfl));have s1:jw 1 (zy p b to 1::l):=UR h1;have q1:∀ (a:Int) (l:List (Int×Int)),y4 ((1,a)::l)=y4 l:=λa l=>it;have q14:∀ (a:Int) (l:List (Int×Int)),y4 ((14,a)::l)=y4 l:=λa l=>it;have q18:∀ (a:Int) (l:List (Int×Int)),y4 ((18,a)::l)=y4 l:=λa l=>it;have q20:∀ (a:Int) (l:List (Int×Int)),y4 ((20,a)::l)=y4 l:=λa l=>it;have q15:∀ (a:Int) (l:List (Int×Int)),y4 ((15,a)::l)=1+y4 l:=λa l=>it;have q16:∀ (a:Int) (l:List (Int×Int)),y4 ((16,a)::l)=1+y4 l:=λa l=>it;have q17:∀ (a:Int) (l:List (Int×Int)),y4 ((17,a)::l)=1+y4 l:=λa l=>it;have q19:∀ (a:Int) (l:List (Int×Int)),y4 ((19,a)::l)=1+y4 l:=λa l=>it;have hd:kd=0\/kd=1\/kd=2\/kd=3\/kd=4\/kd=5\/kd=6\/kd=7\/kd=8\/kd=9\/kd=10\/kd=11:=qA;rcases hd with rfl|rfl|rfl|rfl|rfl|rfl|rfl|rfl|rfl|rfl|rfl|rfl
  .grind[uG,qP.reads,jM,yP,jw]
  .grind[uG,qP.reads,jM,yP,sU]
  .grind[uG,qP.reads,jM,yP,sU,jw]
  .grind[uG,qP.reads,jM,yP,jw]
  .grind[uG,qP.reads,jM,yP,jw]
  .grind[uG,qP.reads,jM,yP,sU,jw]
  .grind[uG,qP.reads,jM,yP,sU,jw]
  .grind[uG,qP.reads,jM,yP,sU,jw]
  .grind[uG,qP.reads,jM,yP,sU,jw]
  .grind[uG,qP.reads,jM,yP]
  .grind[uG,qP.reads,jM,yP]
  grind[uG,qP.reads,jM,yP,UQ]
 grind[jw]
theorem Hh:∀ ss:List qP,(∀ s∈ss,0<=s.kind/\s.kind<=11)->pQ (vX p b ss)
 | [],_=>⟨rfl,rfl⟩
 | s::ss,h=>by
  have e:vX p b (s::ss)=bS p b s++vX p b ss:=by simp [vX]
  rw [e];exact ZI (h s qB) (Hh ss λt ht=>h t (by simp [ht]))
theorem UU (hp:z6 p) (hk:p[b]?=some k):pQ (zm p b):=by
 rw [zm,hk];exact Hh _ (hp.names k (gM hk)).kinds
theorem KU (hp:z6 p) (hk:p[b]?=some k) (hu:x∈k.us) {v:Int} (h0:0<=v) (h2:v<=2):Cm p b (zy p b x v):=by
 have hx:0<=x/\x<=7:=by
  grind[qT.us,mem_sorted]
 have f1:=BO (p:=p) (b:=b);have f2:=xH (p:=p) (b:=b);have f3:=oh (p:=p) (b:=b);rcases Et (w:=v) hp hk hu with⟨_,e⟩|⟨_,e⟩|⟨_,i,e,hi,_⟩|⟨_,i,e,hi,_⟩|⟨_,i,e,hi,_⟩ <;> rw [e] <;> refine⟨?_,?_,?_,?_,?_,?_,?_,?_,?_⟩ <;> simp only [] <;> omega
theorem FD (hp:z6 p) (hk:p[b]?=some k):∀ o∈zm p b,Cm p b o:=by
 have hn:=hp.names k (gM hk);intro o ho;simp only [zm,hk,vX,List.mem_flatMap] at ho;obtain⟨s,hs,ho⟩:=ho;have hst:=hp.an b k hk s hs;have hkd:=hn.kinds s hs;have hka:zt p b=k.kind:=ge;simp only [bS,vB,jo] at ho;rcases ho with rfl|ho|ho|ho
 .refine⟨?_,?_,?_,?_,?_,?_,?_,?_,?_⟩ <;> simp only [] <;> omega
 .grind[uG,KU,Ff]
 .unfold jM at ho;by_cases k0:s.kind=0
  .rw [if_pos k0] at ho;obtain rfl:=yj.1 ho;have:=zW.num hst k0;refine⟨?_,?_,?_,?_,?_,?_,?_,?_,?_⟩ <;> simp only [] <;> omega
  rw [if_neg k0] at ho;by_cases k2:s.kind=2
  .rw [if_pos k2] at ho;obtain rfl:=yj.1 ho;refine⟨?_,?_,?_,?_,?_,?_,?_,?_,?_⟩ <;> simp only [] <;> omega
  rw [if_neg k2] at ho;by_cases k3:s.kind=3
  .rw [if_pos k3] at ho;obtain rfl:=yj.1 ho;obtain⟨q,q1,q2,q3,q4⟩:=zW.made hst (.inl k3);have hql:=(gS q1).1;have:=hp.len;refine⟨?_,?_,?_,?_,?_,?_,λ_=>⟨q,q1,q2,q3,?_⟩,?_,?_⟩ <;> simp only [] <;> omega
  rw [if_neg k3] at ho;by_cases k4:s.kind=4
  .rw [if_pos k4] at ho;obtain rfl:=yj.1 ho;obtain⟨q,q1,q2,q3,q4⟩:=zW.made hst (.inr k4);have hql:=(gS q1).1;have:=hp.len;refine⟨?_,?_,?_,?_,?_,?_,λ_=>⟨q,q1,q2,q3,?_⟩,?_,?_⟩ <;> simp only [] <;> omega
  rw [if_neg k4] at ho;by_cases k5:s.kind=5
  .rw [if_pos k5] at ho;obtain rfl:=yj.1 ho
   have:s.reads.length=1\/s.reads.length=2:=by
    grind[qP.reads]
   refine⟨?_,?_,?_,?_,?_,?_,?_,?_,?_⟩ <;> simp only [] <;> omega
  rw [if_neg k5] at ho;by_cases k6:s.kind=6
  .rw [if_pos k6] at ho;obtain rfl:=yj.1 ho
   have:0<=s.b/\s.b<=7:=by
    grind[zW]
   refine⟨?_,?_,?_,?_,?_,?_,?_,?_,?_⟩ <;> simp only [] <;> omega
  rw [if_neg k6] at ho;by_cases k7:s.kind=7
  .rw [if_pos k7] at ho;obtain rfl:=yj.1 ho;refine⟨?_,?_,?_,?_,?_,?_,?_,?_,?_⟩ <;> simp only [] <;> omega
  rw [if_neg k7] at ho;by_cases k8:s.kind=8
  .rw [if_pos k8] at ho;obtain rfl:=yj.1 ho
   have:k.kind=1:=by
    grind[zW]
   refine⟨?_,?_,?_,?_,?_,?_,?_,?_,?_⟩ <;> simp only [] <;> omega
  simp_all
 grind[yP,KU,GY]
end
structure iU (p:qC) (nf nk nc:Nat) (f:qN) (e:Nat):Prop where
 qD:f.qD<p.length
 fl:f.qw.length=(zK p f.qD).length
 fv:∀ v,some v∈f.qw->zO nf nk v
 cl:f.cells.length=(qh p f.qD).length+(jF p f.qD).length
 cr:∀ c∈f.cells,c<nc
 nm:vF nf nk f.names
 sv:∀ v∈f.stack,zO nf nk v
 sl:f.stack.length+e<=f.pc
 pc:f.pc<=(zm p f.qD).length
 ok:jw (f.stack.length+e) ((zm p f.qD).drop f.pc)
def yn (p:qC) (f:qN):Nat:=y4 ((zm p f.qD).drop f.pc)
def lV (p:qC) (fs:List qN):Nat:=(fs.map (yn p)).sum
structure yy (p:qC) (m:qU) (fs:List qN) (f:qN):Prop where
 cells:∀ v,some v∈m.cells->zO m.qJ.length m.qO.length v
 zJ:vF m.qJ.length m.qO.length m.globals
 cls:∀ c∈m.qO,vF m.qJ.length m.qO.length c
 qJ:∀ g∈m.qJ,∃ k,p[g.1]?=some k/\k.kind=1/\g.2.length=(jF p g.1).length/\∀ c∈g.2,c<m.cells.length
 low:∀ g∈fs,iU p m.qJ.length m.qO.length m.cells.length g 1
 top:iU p m.qJ.length m.qO.length m.cells.length f 0
 made:m.made+m.left+(lV p fs+yn p f)<=151
 nf:m.qJ.length+m.left+(lV p fs+yn p f)<=150
 nk:m.qO.length+(fs.length+1)<=m.made
 nc:m.cells.length<=8 * m.made
 out:m.out.length+m.left+(lV p fs+yn p f)<=150
 tr:m.trace.length+m.left<=150
 deep:fs.length+1<=m.deep/\m.deep<=m.made
 b0:∀ g,(fs++[f])[0]?=some g->g.qD=0
section
variable {p:qC} {m:qU} {nf nk nc nf' nk' nc' b e:Nat} {fs:List qN} {f g:qN} {o:Int×Int} {v:qR} {k:qT} {x:Int}
theorem iU.mono (h:iU p nf nk nc f e) (h1:nf<=nf') (h2:nk<=nk') (h3:nc<=nc'):iU p nf' nk' nc' f e :=
 ⟨h.qD,h.fl,λv hv=>(h.fv v hv).mono h1 h2,h.cl,λc hc=>uW (h.cr c hc) h3,h.nm.mono h1 h2,λv hv=>(h.sv v hv).mono h1 h2,h.sl,h.pc,h.ok⟩
theorem rp (ho:(zm p f.qD)[f.pc]?=some o):(zm p f.qD).drop f.pc=o::(zm p f.qD).drop (f.pc+1):=by
 grind[gO]
theorem sd {l:List qu} {i:Nat} (h:zn l i=some v):some v∈l:=by
 grind[zn]
theorem pM (h:1<=f.stack.length):f.zN∈f.stack:=by
 grind[qN.zN,List.mem_of_getLast?]
theorem pA:f.pop.stack.length=f.stack.length - 1:=by simp [qN.pop]
theorem pB {v:qR} (h:v∈f.pop.stack):v∈f.stack:=List.dropLast_subset _ h
theorem yy.re {pc:Nat} {st:List qR} (h:yy p m fs f) (ho:(zm p f.qD)[f.pc]?=some o) (hpc:pc=f.pc+1) (hv:∀ v∈st,zO m.qJ.length m.qO.length v) (hl:st.length<=pc) (hok:jw st.length ((zm p f.qD).drop (f.pc+1))) (h0:o.1≠0):yy p m fs { f with pc:=pc,stack:=st }:=by
 subst hpc;have hd:=rp ho;have hpl:=(gS ho).1
 have hp1:yn p { f with pc:=f.pc+1,stack:=st }<=yn p f:=by
  grind[yn,y4]
 have h1:=h.made;have h2:=h.nf;have h3:=h.out;refine⟨h.cells,h.zJ,h.cls,h.qJ,h.low,⟨h.top.qD,h.top.fl,h.top.fv,h.top.cl,h.top.cr,h.top.nm,hv,hl,hpl,hok⟩,qA,qA,h.nk,h.nc,qA,h.tr,h.deep,λg hg=>?_⟩
 cases fs with
 | nil=>simp at hg;subst hg;exact h.b0 f qB
 | cons a l=>exact h.b0 g qL
theorem yy.qW {X:List qN} (h:yy p m fs f):yy p { m with qW:=X } fs f :=
 ⟨h.cells,h.zJ,h.cls,h.qJ,h.low,h.top,h.made,h.nf,h.nk,h.nc,h.out,h.tr,h.deep,h.b0⟩
def lr (p:qC) (m:qU):Prop:=∃ fs f,m.qW=fs++[f]/\yy p m fs f
theorem lr.of (h:yy p m fs f):lr p (m.top fs f):=⟨fs,f,rfl,h.qW⟩
theorem RJ (h:yy p m fs f) (hg:uB m f o=some v):zO m.qJ.length m.qO.length v:=by
 unfold uB at hg
 split at hg
 .exact h.top.fv v (sd hg)
 .split at hg
  .exact h.cells v (sd hg)
  .split at hg
   .exact h.zJ.2 v (sd hg)
   .exact h.top.nm.2 v (sd hg)
theorem LA (h:yy p m fs f) (ho:(zm p f.qD)[f.pc]?=some o) (h0:o.1≠0) (hok:jw (f.stack.length+1) ((zm p f.qD).drop (f.pc+1))) (hv:zO m.qJ.length m.qO.length v):yy p m fs (f.next.push v):=by
 have hsl:=h.top.sl;refine h.re ho rfl (λu hu=>?_) ?_ ?_ h0
 .rcases jo.1 hu with e|e
  .exact h.top.sv u e
  simp_all
 .grind[qN.next]
 grind[qN.next]
theorem MI {l:List qu} {i:Nat} {s:qu} {u:qR} (h:some u∈l.set i s):some u∈l\/s=some u:=by
 grind
theorem MG {s:qu} (h:yy p m fs f) (hs:∀ v,s=some v->zO m.qJ.length m.qO.length v):lr p (yY m fs f o s):=by
 unfold yY
 split
 .refine .of ⟨h.cells,h.zJ,h.cls,h.qJ,h.low,⟨h.top.qD,by simp [h.top.fl],λv hv=>?_,h.top.cl,h.top.cr,h.top.nm,h.top.sv,h.top.sl,h.top.pc,h.top.ok⟩,h.made,h.nf,h.nk,h.nc,h.out,h.tr,h.deep,λg hg=>?_⟩
  .rcases MI hv with e|e
   .exact h.top.fv v e
   simp_all
  .cases fs with
   | nil=>simp at hg;subst hg;exact h.b0 f qB
   | cons a l=>exact h.b0 g qL
 .split
  .refine⟨fs,f,rfl,⟨λv hv=>?_,h.zJ,h.cls,λg hg=>?_,λg hg=>(h.low g hg).mono (qX _) (qX _) qB,h.top.mono (qX _) (qX _) qB,h.made,h.nf,h.nk,?_,h.out,h.tr,h.deep,h.b0⟩⟩
   .rcases MI hv with e|e
    .exact h.cells v e
    .exact hs v e
   .obtain⟨q,q1,q2,q3,q4⟩:=h.qJ g hg
    simp_all
   grind[yy.nc,qU.top]
  .split
   .exact⟨fs,f,rfl,⟨h.cells,h.zJ.set hs,h.cls,h.qJ,h.low,h.top,h.made,h.nf,h.nk,h.nc,h.out,h.tr,h.deep,h.b0⟩⟩
   .refine .of ⟨h.cells,h.zJ,h.cls,h.qJ,h.low,⟨h.top.qD,h.top.fl,h.top.fv,h.top.cl,h.top.cr,h.top.nm.set hs,h.top.sv,h.top.sl,h.top.pc,h.top.ok⟩,h.made,h.nf,h.nk,h.nc,h.out,h.tr,h.deep,λg hg=>?_⟩
    cases fs with
    | nil=>simp at hg;subst hg;exact h.b0 f qB
    | cons a l=>exact h.b0 g qL
theorem IJ (hh:zZ p) (hk:p[b]?=some k):∀ y∈jr p b,0<=y/\y<((qh p (kU p b)).length:Int)+(jF p (kU p b)).length:=by
 intro y hy;simp only [jr,wU] at hy;obtain⟨x,hx,rfl⟩:=hy;obtain⟨o,_,_,_,_,ho,_⟩:=rx hh hk hx;obtain⟨_,_,_,_,hcase⟩:=ED hh hk hx ho
 grind[fg,eG]
theorem EB (hh:zZ p) (h:iU p nf nk nc f e) (hk:p[b]?=some k) (hpar:k.parent=f.qD):(jV p f b).length=(jF p b).length/\∀ c∈jV p f b,c<nc:=by
 have hpa:kU p b=f.qD:=by grind[kU]
 refine⟨by simp [jV,jr],λc hc=>?_⟩;simp only [jV,wU] at hc;obtain⟨y,hy,rfl⟩:=hc;have hr:=IJ hh hk y hy;rw [hpa] at hr;have hcl:=h.cl;obtain⟨c,hc⟩:∃ c,f.cells[y.toNat]?=some c:=⟨_,gE qA⟩;rw [bC,hc];exact h.cr c (gM hc)
theorem Kc (hp:z6 p) (hb:b<p.length):jw 0 (zm p b)/\y4 (zm p b)=0:=by
 obtain⟨k,hk⟩:=gX hb
 grind[UU,pQ.ok,pQ.kv]
theorem Ui (hp:zq p) (hk:p[b]?=some k) (hx:x∈k.params):x∈zK p b\/x∈qh p b:=by
 have hkm:=gM hk;have hxr:=(hp.sh.names k hkm).params x hx;have how:=hp.pm b k hk x hx;have hhd:=hp.sh.head b k hk
 grind[zt,GS,zq.sh,jY]
theorem On {cs:List Nat} {vs:List qR} {pd:Nat} (hp:zq p) (hb:b<p.length) (h0:0<b)
  (hcells:∀ v,some v∈m.cells->zO m.qJ.length m.qO.length v) (hglob:vF m.qJ.length m.qO.length m.globals) (hcls:∀ c∈m.qO,vF m.qJ.length m.qO.length c)
  (hfuns:∀ g∈m.qJ,∃ k,p[g.1]?=some k/\k.kind=1/\g.2.length=(jF p g.1).length/\∀ c∈g.2,c<m.cells.length)
  (hlow:∀ g∈m.qW,iU p m.qJ.length m.qO.length m.cells.length g 1) (hne:m.qW≠[]) (hpd:lV p m.qW=pd)
  (hmade:m.made+1+m.left+pd<=151) (hnf:m.qJ.length+m.left+pd<=150) (hnk:m.qO.length+m.qW.length<=m.made) (hnc:m.cells.length<=8 * m.made) (hout:m.out.length+m.left+pd<=150) (htr:m.trace.length+m.left<=150) (hdeep:m.qW.length<=m.deep/\m.deep<=m.made) (hb0:∀ g,m.qW[0]?=some g->g.qD=0)
  (hcsl:cs.length=(jF p b).length) (hcs:∀ c∈cs,c<m.cells.length) (hvs:∀ v∈vs,zO m.qJ.length m.qO.length v):lr p (vP p m b cs vs):=by
 obtain⟨k,hk⟩:=gX hb;have hpar:(zr p b).params=k.params:=mS;obtain⟨o1,o2⟩:=Kc hp.sh hb;have c8:=xH (p:=p) (b:=b)
 have base:∀ (F:qN) (C:List qu),F.qD=b->F.pc=0->F.stack=[]->F.names=j3->F.cells=((List.range (qh p b).length).map (m.cells.length+·))++cs->F.qw.length=(zK p b).length->(∀ v,some v∈F.qw->zO m.qJ.length m.qO.length v)->C.length=m.cells.length+(qh p b).length->(∀ v,some v∈C->zO m.qJ.length m.qO.length v) ->
   lr p { m with cells:=C,made:=m.made+1,deep:=max m.deep (m.qW.length+1),qW:=m.qW++[F] }:=by
  intro F C f1 f2 f3 f4 f5 f6 f7 c1 c2;have hpF:yn p F=0:=by grind[yn]
  refine⟨m.qW,F,rfl,⟨c2,hglob,hcls,λg hg=>?_,λg hg=>(hlow g hg).mono (qX _) (qX _) qL,⟨qA,qL,f7,?_,λc hc=>?_,by grind[vF.none],qL,qL,qA,?_⟩,?_,?_,?_,?_,?_,htr,?_,λg hg=>?_⟩⟩
  .grind
  .simp_all
  .grind
  .simp_all
  .simp_all
  .simp_all
  .grind
  .grind
  .simp_all
  .grind
  grind
 unfold vP
 split
 .grind
 simp_all
end
end Go.Hm
end
