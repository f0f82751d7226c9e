import Derived.Test.YtdnebaieamppbaaGreatDoorF33
import Derived.Shelf.SlMaps.Clone
set_option linter.unusedSimpArgs false
set_option linter.unusedVariables false
set_option maxRecDepth 100000
set_option maxHeartbeats 4000000

section
namespace Go.Proofs.YtdnebaieamppbaaGreatDoor
open Go Go.Hm Go.Proofs Tryz
abbrev XV:Y8:=aB<|.l 9 []<|.done
def bV (p:YU) (w:YY) (b up:Nat) (vs:List Y6) (i:Nat):YY:={ aZ p w b up vs i with stack:=w.stack }
theorem Sy {p:YU} {w:YY} {b up i:Nat} {vs:List Y6} (h:Yx p w) (hm:jG p w.YR b up) (hv:∀ v∈vs,ZQ w.YT.length w.YP.length v) (hr:Room 1 w):Yx p (bV p w b up vs i):=by
 have hb:=N4 (i:=i) h hm hv hr;exact⟨hb.a0,hb.vars,hb.Zs,hb.up,hb.Yd,hb.YT,hb.cls,λj hj=>by have:=h.Z7 j hj;simp [bV,aZ];omega,hb.Zd,hb.Zi,hb.qAK,hb.qAJ,hb.ntr,h.qAk,hb.qAu,hb.enr⟩
theorem IA {p:YU} {w:YY} {b up i j:Nat} {vs:List Y6} (e:¬ j=w.YR.length):(bV p w b up vs i).Z4 j=w.Z4 j:=by
 by_cases e0:j=0
 .simp [YY.Z4,bV,aZ,e0]
 .simp only [YY.Z4,bV,aZ,e0,if_false];rcases dS j w.YR.length with hlt|hge
  .rw [dX hlt]
  .have h1:w.YR[j]?=none:=nT qA;rw [h1,kh hge,nT qv]
theorem Dz {p:YU} {w:YY} {b up i:Nat} {k:Y4} {vs:List Y6} (hpos:¬ w.YR.length=0) (hk:p[b]?=some k):(bV p w b up vs i).Z4 w.YR.length=ef (k.params.take i) (vs.take i):=by
 simp [YY.Z4,bV,aZ,hpos,hk]
theorem bk {A G G2:Prop} (k:G2) (x:A) (h:A->Yr G2->G:=by
 intro fx kk;refine qI ?_
 repeat ((first|refine Y7 (id:=5) XV mixed ?_);refine qW ?_;refine qI ?_)
 exact kk.h):G:=h x ⟨k⟩
theorem J4 (gl) (F:Nat) (p:YU) (n:Nat) (hR:QV gl F p n) (H:Nm->Option AO) (W:YY) (k b up lo:Nat) (vs all:List Y6) (hP:Yl p) (hw:Yx p W) (hn:W.left<n) (h0:W.en=0) (hg:W.YT[k]?=some (b,up)) (hv:∀ v∈vs,ZQ W.YT.length W.YP.length v) (hr:Room 1 W)
  (hall:all.drop lo=vs) (hlo:lo+vs.length=all.length) (hpar:fH p b=vs.length) (hv2:vs.length<=1) (hO:YX H F p W) (hL:H (.u 2 0 0)=some (.row 2 (zf all))) :
  Yc prog gl 235 DM2 [.hs (.u 2 0 0) 2 lo vs.length,.pt (.u 8 k 0) 0,.pt (.u 8 k 1) 0,.pt (.u 8 k 2) 0,.pt (.u 8 k 3) 0] H (λ_ y H'=>y=.Zg [Y6.av (qx p (jv p n) W b up vs).2,bv (decide ((qx p (jv p n) W b up vs).1.en=0))]/\YX H' F p (qx p (jv p n) W b up vs).1) Yz:=by
 have hm:=hw.YT k (b,up) hg;obtain⟨kb,hk,hpk⟩:=hm.shape;simp only at hm hk hpk;obtain⟨Ym,hkE⟩:=gS hk;obtain⟨b1,b2,b3,b4⟩:=hO.bx k (b,up) hg;simp only [hk] at b1 b2 b3 b4;refine Yc.Yb func235 [.cell 6 63,.tmp 7] ntmps235 (λ_=>bE) λC w g root hroot=>?_;refine bk ?_<|j4 b1 b2 b3<|b4;intro K hK;have fx:=Ya;refine KH (h:=?_);clear fx;refine bk ?_<|yl b1 b2 b3 b4<|hk
 have hpos:¬ W.YR.length=0:=by
  obtain⟨a,ha,_⟩:=hw.a0;have:=(gS ha).1;omega
 have hno:∀ j,H (.u 7 W.YR.length j)=none:=λj=>by
  cases e:H (.u 7 W.YR.length j) with
  | none=>rfl
  | some o =>
   rcases hO.only 7 W.YR.length j rfl sD with⟨h,_⟩|⟨_,h,_⟩|⟨h,_⟩
   .cases h
   .omega
   .cases h
 refine KM (.s 8) (En W.YR.length) (.inl rfl) (.inr eS) ?_;refine qR (λm st=>∃ i:Nat,m=vs.length - i/\i<=vs.length/\st.tm 0=.hs (.u 2 0 0) 2 lo vs.length/\st.hp (.u 2 0 0)=some (.row 2 (zf all))/\st.tm 4=.pt (.u 8 k 3) 0/\st.tm 6=.pt (.s 6) 0/\st.hp (.s 6)=some (.row 2 [[iv 0,iv 0]])/\st.tm 8=ptE W.YR.length/\st.tm 16=ZD kb.params/\st.tm 17=iv vs.length/\st.tm 18=iv i/\YX st.hp F p (bV p W b up vs i)) vs.length ?_ ?_
 .have hpos':¬ 0=W.YR.length:=λe=>hpos e.symm
  have hupl:¬ up=W.YR.length:=by
   obtain⟨c,_,e,_⟩:=hm;have:=(gS e).1;omega
  refine⟨0,qA,qA,qB,mK,qB,qB,qB,qB,qB,by simp [<- hpar,hpk],qB,?_⟩;refine⟨by simp [uF,bV,aZ,hO.top,hpos'],⟨ao,λj k hj hk=>au⟩,by simp [bV,aZ,hO.out],by simp [bV,aZ,hO.Zb],hO.run.imp λl hl=>⟨λi hi=>by have:=hl.1 i hi;simp [bV,aZ];omega,?_⟩,by simp [bV,aZ,hO.YT],λk' g hg=>?_,by simp [bV,aZ,hO.Yt],λk c hc=>(hO.cls k c hc).imp λms hm=>⟨vN,hm.2⟩,λi d hd=>?_,λi hi=>?_,λk' i j hk' hn=>?_⟩
  .simp [hl.2,bV];refine fO λi hi=>?_
   have hlt:i<W.YR.length:=by
    rcases cK.1 hi with e|e
    .exact hw.Z7 i e
    .exact hl.1 i e
   have hne:¬ i=W.YR.length:=qA;simp [hne]
  .have hgl:¬ g.2=W.YR.length:=by
    obtain⟨c,_,e,_⟩:=hw.YT k' g hg;have:=(gS e).1;omega
   simp [hO.bx k' g hg,hgl]
  .simp only [bV,aZ] at hd;rcases dS i W.YR.length with hlt|hge
   .rw [dX hlt] at hd;have hne:¬ i=W.YR.length:=qA;have hne':¬ W.YR.length=i:=qA;by_cases e0:i=0
    .subst e0;simp [hO.env 0 d hd,yE,hne,hne']
    .have hup:=(hw.up i d hd qA).1;have hupn:¬ d.up=W.YR.length:=qA;simp [hO.env i d hd,yE,e0,hne,hne',hupn]
   .rw [kh hge] at hd
    have hi:i=W.YR.length:=by
     have:=(gS hd).1;simp at this;omega
    subst hi;simp at hd;subst hd;simp [yE,hpos,hupl]
  .by_cases e:i=W.YR.length
   .subst e;rw [Dz hpos hk];exact⟨[],qB,by simpa [ef] using ZZ.nil⟩
   .rw [IA e]
    have hlt:i<W.YR.length:=by
     simp [bV,aZ] at hi;omega
    have hne':¬ W.YR.length=i:=qA;exact (hO.Z4 i hlt).imp λms hm=>⟨by simp [hm.1,e,hne'],hm.2⟩
  .by_cases e7:k'=7/\i=W.YR.length/\j=0
   .exact .inr (.inl ⟨e7.1,Au,e7.2.2⟩)
   .by_cases e1:k'=1/\i=0/\j=0
    .exact .inl e1
    .have hn':H (.u k' i j)≠none:=by simpa [hk',e1,e7] using hn
     rcases hO.only k' i j hk' hn' with h|h|h
     .exact .inl h
     .exact .inr (.inl ⟨h.1,Au,h.2.2⟩)
     .exact .inr (.inr h)
 rintro m st - - ⟨i,rfl,hi,t0,hp2,t4,t6,hp6,t8,t16,t17,t18,hO1⟩;have hT1:=hO1.top;simp only [uF] at hT1;have hact:(bV p W b up vs i).YR[W.YR.length]?=some ⟨b,up,ef (kb.params.take i) (vs.take i)⟩:=by simp [bV,aZ,hk]
 have hE1:=hO1.env W.YR.length _ hact;simp only [yE,hpos,if_false] at hE1;obtain⟨c1,c2,c3,c4⟩:=hO1.bx k (b,up) hg;by_cases hil:i<vs.length
 .obtain⟨x,hx⟩:∃ x,kb.params[i]?=some x:=⟨_,gE qA⟩;obtain⟨hxl,hxE⟩:=gS hx;have hxr:=(hP.sh.names kb (gM hk)).params x (gM hx);obtain⟨v,hvi⟩:=gX hil;have hva:all[lo+i]?=some v:=by rw [<- hvi,<- hall,List.getElem?_drop]
  obtain⟨hal',hvE⟩:=gS hva;have hst:=Jb (w:=W) (up:=up) hP hk hx hvi;obtain⟨X,rfl⟩:∃ X:Nat,x=X:=⟨x.toNat,qA⟩;obtain⟨v1,v2⟩:=v;have hokI:Yx p (bV p W b up vs i):=Sy hw hm hv hr
  have hloc:(bV p W b up vs i).loc p W.YR.length X=some W.YR.length:=by
   have ho:=hP.pm b kb hk (X:Int) (gM hx);have hnl:¬ (b:Int)<0:=qA;simp only [YY.loc,jq hact,ho,hnl,if_false,a6];rw [jF hact rfl]
  have hla:W.YR.length<(bV p W b up vs i).YR.length:=by simp [bV,aZ]
  obtain⟨hnm,_⟩:=AF (x:=(X:Int)) hP.sh.Y9 hokI hla;obtain⟨ms,hms,hmo⟩:=hO1.Z4 W.YR.length hla
  have hmo':ZZ ms ((bV p W b up vs i).vars (some W.YR.length)):=by
   rw [hloc] at hnm;rw [<- hnm];exact hmo
  have hnext:(bV p W b up vs i).set (some W.YR.length) X (some (v1,v2))=bV p W b up vs (i+1):=by
   have hl2:(aZ p W b up vs i).loc p W.YR.length X=some W.YR.length:=hloc;unfold b5 at hst;rw [hl2] at hst;unfold bV;rw [<- hst]
   rfl
  refine bk ?_<|qQ t0 hp2 t4 t6 hp6 t8 t16 t17 t18 hT1 hE1 hil<|kG hx hxE hxl hva hvE hal'<|hms;intro K hK;have fx:=aI t8 hms;refine vT (h:=?_);clear fx;refine bk ?_<|qQ t0 hp2 t4 t6 hp6 t8 t16 t17 t18 hT1 hE1 hil<|kG hx hxE hxl hva hvE hal'<|hms;refine⟨vs.length - (i+1),qA,i+1,rfl,qA,vr,qn,by simp [t4],aT,va,gG,by simp [t16],by simp [t17],q8,?_⟩;rw [<- hnext];refine xy hP.sh.Y9 hokI hla qA hloc hnm hO1 (hmo'.set ⟨qA,qA⟩) λm hm=>?_;by_cases e:m=.c (En W.YR.length) 0 1 <;> simp [A0,e]
 .obtain rfl:i=vs.length:=qA
  have hbeg:bV p W b up vs vs.length={ qk p W b up vs with stack:=W.stack }:=by
   unfold bV;rw [QN qA (qp _)]
  rw [hbeg] at hO1;refine bk ?_<|ko t0 t4 t6 hp6 t8 t17 t18<|c4;intro K hK;have fx:=aI t8 hT1;refine j9 hO (w:={ qk p W b up vs with stack:=W.stack }) (have om:=hO1;YX.re om) gF (qp _) (hF:=λhs=>D4 gl F p n hR _ W b up vs hP hw hn h0 hm hv hr hs qB) (h:=?_);rintro y H2 ⟨rfl,hO2⟩;clear fx;generalize hq:qx p (jv p n) W b up vs=q at hO2;obtain⟨V,v1,v2⟩:=q;simp only at hO2;have hT2:=hO2.top;simp only [uF] at hT2;refine bk ?_<|yl t6 hp6 t8 hT1<|hT2;rw [hq];refine qE [] .nil (by simp [t6];rfl) ⟨qB,YX.fin (have om:=hO2;YX.re om)⟩
end Go.Proofs.YtdnebaieamppbaaGreatDoor
end
section
namespace Go.Proofs.YtdnebaieamppbaaGreatDoor
open Go Go.Hm Go.Proofs Go.RowKit Tryz
theorem FL (b:Nat) (es:Array MapEntry) (clock:Nat) (w:World) (hb:w.heap[b]?=some (.map es clock)) :
  Calls prog 237 #[.map (some b)] w λe w'=>e=.returned (.map (some w.heap.size))/\w'=w.alloc (.map es clock):=by
 have hq:=λw=>run_eql_map_nil_sl (P:=prog) w 155 _ _ (some b) Tryz.underlying155
 go_enter func237,ntmps237
 go_wp2
 rw [run_callFunc_extern func249 qM qM qM (e:=Extern.MapsClone.clone) qM,run_maps_clone_sl w 155 hb];simp only [Result.andThen];rw [Oper.upon_value]
 go_wp2
 rw [run_typeAssert_map_sl _ 155 _ _ _ _ Tryz.underlying155];simp only [Result.andThen];rw [Oper.upon_value]
 go_wp2
 go_ret
 exact⟨rfl,rfl⟩
def Xh (d:Nat) (es:List (AV×AV)) (st:St):St:=((st.kill (.s d)).Yf (.s d) (.map es)).put (some d) (.mp (.s d))
theorem RF {X:Ctx} {st:St} {K:St->Prop} {E:AV->St->Prop} {ty:TypeId} {pos:String} {aft:Array Edge} {gd:Option (Nat×Bool)} {d:Nat} {args:Array Operand} {Ts:Array TypeId} {n:Nm} {es:List (AV×AV)} {st':St} (hP:X.P=prog)
  (hd:d<X.n:=by first|(simp;done)|fail) (ha:args.toList.map (ev st)=[.mp n]:=by simp [fx];first|done|rfl) (hn:st.hp n=some (.map es):=by simp [fx];first|done|rfl) (hsc:∀ e∈es,∀ f:Nm->Option Nm,e.1.tr f=e.1/\e.2.tr f=e.2)
  (hs:Xh d es st=st':=by simp [fx,Xh];first|done|rfl) (h:K st') :
  qO X ⟨some d,.call ⟨.value (.func 237),args,Ts⟩,ty,pos,aft,gd⟩ K E st:=by
 subst hs;intro a w Q hR hQ;obtain⟨C,g,h1,h2,h3,h4,h5,hg⟩:=hR;have hcal:bF X.P 237:=by rw [hP];exact⟨_,rfl,rfl,rfl⟩
 obtain⟨vs,hrun,hsz,hrel⟩:=fP (st:=st) (o:=⟨some d,.call ⟨.value (.func 237),args,Ts⟩,ty,pos,aft,gd⟩) hcal rfl _ _ _ _ _ _ hg;rw [ha] at hsz hrel;unfold Oper.wp;rw [hrun,Oper.upon_enter]
 obtain⟨v,rfl⟩:∃ v,vs=#[v]:=by
  rcases vs with⟨l⟩;simp at hsz;obtain⟨v,rfl⟩:=GX.1 hsz;exact⟨v,rfl⟩
 have hv:=hrel 0 v (.mp n) rfl rfl
 cases hv with
 | mp _ b hk =>
 have hat:=hg.inv.obj n _ hn;simp only [Zu,hk] at hat;obtain⟨ms,clock,hb,hst,hlen,hrv⟩:=hat;have hC':∀ b',C b'->(w.alloc (.map ms.toArray clock)).heap[b']?=w.heap[b']?:=λb' hb'=>kD _ (hg.inv.clt b' hb')
 have hm:=hg.made (.s d) (.map es) w.heap.size 0 (w.alloc (.map ms.toArray clock)) [] qB (λ_=>false) rfl rfl rfl qB (.inl (qp _)) qB (λb' _ hb'=>kD _ hb') (by
  simp only [Zu,(zI (g:=g) (.s d) (some w.heap.size) 0).1];refine⟨ms,clock,heap_alloc_new w _,hst,hlen,λi m e hi he=>?_⟩;obtain⟨r1,r2⟩:=hrv i m e hi he;obtain⟨q1,q2⟩:=hsc e (gM he) (kl (.s d));have h1:=hg.rv (g':=g.fresh (.s d) (some w.heap.size) 0) (w':=w.alloc (.map ms.toArray clock)) rfl hC' (nr (.s d) (some w.heap.size) 0) r1;have h2:=hg.rv (g':=g.fresh (.s d) (some w.heap.size) 0) (w':=w.alloc (.map ms.toArray clock)) rfl hC' (nr (.s d) (some w.heap.size) 0) r2;rw [q1] at h1;rw [q2] at h2;exact⟨h1,h2⟩)
 have e:(st.nm (kl (.s d)) (λm=>if (λ_=>false:Nm->Bool) m then none else hkl (.s d) st.hp m))=st.kill (.s d):=iI;rw [e] at hm;have hput:=hm.put (d:=some d) (v:=.map (some w.heap.size)) (x:=.mp (.s d)) (λt e=>GM) (.mp _ _ (zI _ _ _).1)
 have hcl:Calls X.P 237 #[.map (some b)] w λe w'=>e=.returned (.map (some w.heap.size))/\w'=w.alloc (.map ms.toArray clock):=by
  rw [hP];exact FL b ms.toArray clock w hb
 refine hcl.mono ?_;rintro e w' ⟨rfl,rfl⟩;exact⟨Xh d es st,⟨C,g.fresh (.s d) (some w.heap.size) 0,h1,h2,h3,h4,h5.step (.fresh rfl),hput⟩,h⟩
end Go.Proofs.YtdnebaieamppbaaGreatDoor
end
section
namespace Go.Proofs.YtdnebaieamppbaaGreatDoor
open Go Go.Hm Go.Proofs Tryz
abbrev XU:Y8:=aB<|.l 9 [4,3,2,1,0]<|.l 10 [4,3,2,1,0]<|.l 11 [0]<|.q 12<|.q 13<|.l 14 []<|.done
theorem PR {ms:IC}:∀ e∈kL ms,∀ f:Nm->Option Nm,e.1.tr f=e.1/\e.2.tr f=e.2:=by
 intro e he f;simp only [kL,eg] at he;obtain⟨q,_,rfl⟩:=he;simp
theorem bj {A G G2:Prop} (k:G2) (x:A) (h:A->Yr G2->G:=by
 intro fx kk;refine qI ?_
 repeat ((first|refine Y7 (id:=5) XU mixed ?_);refine qW ?_;refine qI ?_)
 exact kk.h):G:=h x ⟨k⟩
theorem Px (gl) (F:Nat) (p:YU) (n:Nat) (hR:QV gl F p n) (H:Nm->Option AO) (W:YY) (a b:Nat) (hP:Yl p) (hw:Yx p W) (hn:W.left<n) (h0:W.en=0) (hm:jG p W.YR b a) (hr:Room 2 W) (hO:YX H F p W) (hV:H (.u 2 0 0)=none) :
  Yc prog gl 221 DM [.pt Mn 0,ptE a,iv b] H (λ_ y H'=>y=.Zg [Y6.av (wE p (jv p n) W b a).2,bv (decide ((wE p (jv p n) W b a).1.en=0))]/\YX H' F p (wE p (jv p n) W b a).1) Yz:=by
 obtain⟨k,hk,hpk⟩:=hm.shape;obtain⟨Ym,hkE⟩:=gS hk;have hT:=hO.top;simp only [uF] at hT
 have hpos:¬ W.YR.length=0:=by
  obtain⟨a,ha,_⟩:=hw.a0;have:=(gS ha).1;omega
 have hpos':¬ 0=W.YR.length:=λe=>hpos e.symm
 have hupl:¬ a=W.YR.length:=by
  obtain⟨c,_,e,_⟩:=hm;have:=(gS e).1;omega
 have hno:∀ j,H (.u 7 W.YR.length j)=none:=λj=>by
  cases e:H (.u 7 W.YR.length j) with
  | none=>rfl
  | some o =>
   rcases hO.only 7 W.YR.length j rfl sD with⟨h,_⟩|⟨_,h,_⟩|⟨h,_⟩
   .cases h
   .omega
   .cases h
 have hbeg:bV p W b a [] 0={ qk p W b a [] with stack:=W.stack }:=by
  simp [bV,aZ,qk,ef]
 have hcl:wE p (jv p n) W b a=if (qx p (jv p n) W b a []).1.en≠0 then ((qx p (jv p n) W b a []).1,(0,0)) else
  ({ (qx p (jv p n) W b a []).1 with YP:=(qx p (jv p n) W b a []).1.YP++[(qx p (jv p n) W b a []).1.vars (some W.YR.length)] },(3,((qx p (jv p n) W b a []).1.YP.length:Int))):=rfl
 obtain⟨⟨e1,e2,e3⟩,e4⟩:=ph (vs:=[]) (aC hP.sh n) hw hn h0 hm qB (hr.mono qA);have hrc:(qx p (jv p n) W b a []).1.YP.length<=1000:=by have:=e1.qAK;omega
 have hlen:W.YR.length<(qx p (jv p n) W b a []).1.YR.length:=by
  obtain⟨g1,g2⟩:=kC (vs:=[]) hw hm (λv hv=>cp) (hr.mono qA);obtain⟨⟨_,r2,_⟩,_⟩:=aC hP.sh n (qk p W b a []) W.YR.length g1 hn gF h0;have:=r2.Zl;unfold qx xA
  split <;> simp [qk] at this ⊢ <;> omega
 have hlf:W.YT.length<=(qx p (jv p n) W b a []).1.YT.length:=e2.qB9;have hent:=D4 gl F p n hR (W:=W) (b:=b) (up:=a) (vs:=[]);refine Yc.Yb func221 [.cell 6 63,.tmp 7] ntmps221 (λ_=>qJ) λC w g root hroot=>?_;refine bj ?_<|Ya;intro K hK;have fx:=Ya;refine KH (h:=?_);clear fx;refine bj ?_<| hT;intro K hK;refine Ba (.s 8) (En W.YR.length) (.inl rfl) (.inr eS) ?_;have fx:=hT;refine j9 hO (w:=bV p W b a [] 0) ?_ (by simp [bV,aZ]) (qp _) (hF:=λhs=>hent _ hP hw hn h0 hm qB (hr.mono qA) (by rw [<- hbeg];exact hs) (by simp [hV])) (h:=?_)
 .clear fx;refine⟨by simp [uF,bV,aZ,hO.top,hpos'],⟨ao,λj k hj hk=>au⟩,by simp [bV,aZ,hO.out],by simp [bV,aZ,hO.Zb],hO.run.imp λl hl=>⟨λi hi=>by have:=hl.1 i hi;simp [bV,aZ];omega,?_⟩,by simp [bV,aZ,hO.YT],λk' g hg=>?_,by simp [bV,aZ,hO.Yt],λk c hc=>(hO.cls k c hc).imp λms hm=>⟨vN,hm.2⟩,λi d hd=>?_,λi hi=>?_,λk' i j hk' hn=>?_⟩
  .simp [hl.2,bV];refine fO λi hi=>?_
   have hlt:i<W.YR.length:=by
    rcases cK.1 hi with e|e
    .exact hw.Z7 i e
    .exact hl.1 i e
   have hne:¬ i=W.YR.length:=qA;simp [hne]
  .have hgl:¬ g.2=W.YR.length:=by
    obtain⟨c,_,e,_⟩:=hw.YT k' g hg;have:=(gS e).1;omega
   simp [hO.bx k' g hg,hgl]
  .simp only [bV,aZ] at hd;rcases dS i W.YR.length with hlt|hge
   .rw [dX hlt] at hd;have hne:¬ i=W.YR.length:=qA;have hne':¬ W.YR.length=i:=qA;by_cases e0:i=0
    .subst e0;simp [hO.env 0 d hd,yE,hne,hne']
    .have hup:=(hw.up i d hd qA).1;have hupn:¬ d.up=W.YR.length:=qA;simp [hO.env i d hd,yE,e0,hne,hne',hupn]
   .rw [kh hge] at hd
    have hi:i=W.YR.length:=by
     have:=(gS hd).1;simp at this;omega
    subst hi;simp at hd;subst hd;simp [yE,hpos,hupl]
  .by_cases e:i=W.YR.length
   .subst e;rw [Dz (vs:=[]) hpos hk];exact⟨[],qB,by simpa [ef] using ZZ.nil⟩
   .rw [IA e]
    have hlt:i<W.YR.length:=by
     simp [bV,aZ] at hi;omega
    have hne':¬ W.YR.length=i:=qA;exact (hO.Z4 i hlt).imp λms hm=>⟨by simp [hm.1,e,hne'],hm.2⟩
  .by_cases e7:k'=7/\i=W.YR.length/\j=0
   .exact .inr (.inl ⟨e7.1,Au,e7.2.2⟩)
   .by_cases e1:k'=1/\i=0/\j=0
    .exact .inl e1
    .have hn':H (.u k' i j)≠none:=by simpa [hk',e1,e7] using hn
     rcases hO.only k' i j hk' hn' with h|h|h
     .exact .inl h
     .exact .inr (.inl ⟨h.1,Au,h.2.2⟩)
     .exact .inr (.inr h)
 rintro y H2 ⟨rfl,hO2⟩;clear fx;generalize qx p (jv p n) W b a []=q2 at hO2 hcl e1 hrc hlen hlf;obtain⟨U,v1,v2⟩:=q2;simp only at hO2 hcl e1 hrc hlen hlf;have hT2:=hO2.top;simp only [uF] at hT2;obtain⟨d,hd⟩:=gX hlen;have hE2:=hO2.env W.YR.length d hd;simp only [yE,hpos,if_false] at hE2;by_cases hen2:U.en=0
 case neg =>
  rw [if_pos hen2] at hcl;refine bj ?_<|j4 hT hT2 hen2<|hE2;rw [hcl];refine qE [] .nil qF ⟨by simp [hen2],YX.fin (have om:=hO2;YX.re om)⟩
 rw [if_neg (by simpa using hen2)] at hcl;obtain⟨ms,hms,hmo⟩:=hO2.Z4 W.YR.length hlen;have hnv:U.Z4 W.YR.length=U.vars (some W.YR.length):=by simp [YY.Z4,YY.vars,hpos,hd]
 rw [hnv] at hmo;generalize hnve:U.vars (some W.YR.length)=nv at hmo hcl hnv;refine bj ?_<|yl hT hT2 hen2 hE2<|hms;intro K hK;have fx:=aI hT (aI hT2 (aI hE2 hms));refine RF rfl (n:=.c (En W.YR.length) 0 1) (es:=kL ms) (hsc:=PR) (h:=?_);clear fx;have hC:=hO2.Yt;have hwr:IntKind.i64.wrap (U.YP.length:Int)=U.YP.length:=Yi qA qA;refine bj ?_<|j4 hT hT2 hE2<|hms;refine Ba (.c (.s 35) 0 0) (.c Mn (U.YP.length+1) 9) (.inl rfl) (.inl rfl) ?_;refine bj ?_<|kG hT hT2 hC hrc hwr hE2<|hms;rw [hcl];have hap:yx Mn U.YP++[[.mp (.c Mn (U.YP.length+1) 9)]]=yx Mn (U.YP++[nv]):=FJ;refine qE [] .nil qF ⟨by simp [hen2],YX.fin ⟨by simp [hT2,uF],⟨by simp [hO2.scs.top],λj k hj hk=>by simp [hO2.scs.sc j k hj hk]⟩,by simp [hO2.out],by simp [hO2.Zb],hO2.run.imp λl hl=>⟨hl.1,rp⟩,by simp [hO2.YT],λk g hg=>by simp [hO2.bx k g hg],?_,λk c hc=>?_,λi a ha=>by simp [hO2.env i a ha],λi hi=>?_,λk i j hk hn=>if e:k=1/\i=0/\j=0 then .inl e else hO2.only k i j hk cG⟩⟩
 .simp [<- hap];rw [bC qB];refine pi λi c hc=>?_;have hne:¬ i=U.YP.length:=by have:=(gS hc).1;omega
  have hne':¬ U.YP.length=i:=qA;simp [hne,hne']
 .simp only at hc;rcases dS k U.YP.length with hlt|hge
  .rw [dX hlt] at hc;have hne:¬ k=U.YP.length:=qA;have hne':¬ U.YP.length=k:=qA;exact (hO2.cls k c hc).imp λms hm=>⟨by simp [hm.1,hne,hne'],hm.2⟩
  .rw [kh hge] at hc
   have hi:k=U.YP.length:=by
    have:=(gS hc).1;simp at this;omega
   subst hi;simp at hc;subst hc;exact⟨ms,qB,hmo⟩
 .by_cases e:i=W.YR.length
  .subst e;have hnv':({ U with YP:=U.YP++[nv] }:YY).Z4 W.YR.length=nv:=hnv;exact⟨ms,by simp [hms],by rw [hnv'];exact hmo⟩
  .exact (hO2.Z4 i hi).imp λms hm=>⟨by simp [hm.1,e],hm.2⟩
abbrev XT:Y8:=kr<|.l 8 [7,6,5,4,3,2,1,0]<|.l 9 []<|.done
@[simp] theorem nilS_nfn:zH (AV.sc .nilFunc)=false:=rfl
@[simp] theorem nilS_fn {f:Fn} {xs ys:List AV}:zH (AV.fn f xs ys)=false:=rfl
theorem bi {A G G2:Prop} (k:G2) (x:A) (h:A->Yr G2->G:=by
 intro fx kk;refine qI ?_
 repeat ((first|refine Y7 (id:=3) XT mixed ?_);refine qW ?_;refine qI ?_)
 exact kk.h):G:=h x ⟨k⟩
theorem QF (gl) (p:YU) (n:Nat) (hR:QV gl 235 p n) (H:Nm->Option AO) (W:YY) (f:Y6) (lo:Nat) (vs all:List Y6) (hP:Yl p) (hw:Yx p W) (hn:W.left<n) (h0:W.en=0) (hf:ZQ W.YT.length W.YP.length f) (hv:∀ v∈vs,ZQ W.YT.length W.YP.length v) (hr:Room 1 W)
  (hall:all.drop lo=vs) (hlo:lo+vs.length=all.length) (hv2:vs.length<=1) (hO:YX H 235 p W) (hL:H (.u 2 0 0)=some (.row 2 (zf all))) :
  Yc prog gl 222 DM2 [.pt Mn 0,Y6.av f,.hs (.u 2 0 0) 2 lo vs.length] H (λ_ y H'=>y=.Zg [Y6.av (aQ p (jv p n) W f vs).2,bv (decide ((aQ p (jv p n) W f vs).1.en=0))]/\YX H' 235 p (aQ p (jv p n) W f vs).1) Yz:=by
 have hT:=hO.top;simp only [uF] at hT;obtain⟨f1,f2⟩:=f;refine Yc.Yb func222 [.cell 6 63,.tmp 7] ntmps222 (λ_=>bE) λC w g root hroot=>?_;by_cases h2:f1=2
 .subst h2;have hf2:=hf.num;have hf3:=hf.fn rfl;simp only at hf2 hf3;obtain⟨i,rfl⟩:∃ i:Nat,f2=i:=⟨f2.toNat,qA⟩;have hil:i<W.YT.length:=qA;obtain⟨⟨g1,g2⟩,hg⟩:∃ g,W.YT[i]?=some g:=⟨_,gE hil⟩;obtain⟨_,hgE⟩:=gS hg;have hm:=hw.YT i _ hg;obtain⟨k,hk,hpk⟩:=hm.shape;have hF:=hO.YT;have hcc:Mk 235 p i (g1,g2)=[iv (fH p g1),.fn (.func 235) [] [.pt (.u 8 i 0) 0,.pt (.u 8 i 1) 0,.pt (.u 8 i 2) 0,.pt (.u 8 i 3) 0]]:=rfl;obtain⟨c1,c2,c3,c4⟩:=hO.bx i _ hg;simp only at hm hk hpk c1 c2 c3 c4;by_cases hl:fH p g1=vs.length
  .have hc:aQ p (jv p n) W (2,(i:Int)) vs=qx p (jv p n) W g1 g2 vs:=by
    simp [aQ,hg,hl]
   have hlb:((fH p g1:Int)==(vs.length:Int))=true:=by rw [hl];simp
   refine bi ?_<|ko hT hF hil hg hgE hcc hlb<|@qT;intro K hK;have fx:=aI hT hF;refine OH (xs:=[]) (ys:=[.pt (.u 8 i 0) 0,.pt (.u 8 i 1) 0,.pt (.u 8 i 2) 0,.pt (.u 8 i 3) 0]) hO (have om:=hO;YX.re om) mK (qp _) (qp _) (hF:=λhs=>J4 gl _ p n hR _ W i g1 g2 lo vs all hP hw hn h0 hg hv hr hall hlo hl hv2 hs mK) (h:=?_);rintro y H1 ⟨rfl,hO1⟩;clear fx;have hT1:=hO1.top;simp only [uF] at hT1;refine bi ?_<|aI hT<|hT1;rw [hc];refine qE [] .nil qF ⟨qB,YX.fin (have om:=hO1;YX.re om)⟩
  .have hc:aQ p (jv p n) W (2,(i:Int)) vs=({ W with en:=6 },(0,0)):=by
    simp [aQ,hg,hl]
   have hlb:((fH p g1:Int)==(vs.length:Int))=false:=by
    rw [beq_eq_false_iff_ne];omega
   refine bi ?_<|ko hT hF hil hg hgE hcc hlb<|@qT;intro K hK;have fx:=hT;refine j9 hO (have om:=hO;YX.re om) (qp _) (qp _) (hF:=λhs=>bJ _ _ _ p W 6 hs) (h:=?_);rintro y H2 ⟨rfl,hO2⟩;clear fx;have hT2:=hO2.top;simp only [uF] at hT2;refine bi ?_<|aI hT<|hT2;rw [hc];refine qE [] .nil qF ⟨qB,YX.fin (have om:=hO2;YX.re om)⟩
 .have hb1:(f1==2)=false:=mJ;have hc:aQ p (jv p n) W (f1,f2) vs=({ W with en:=5 },(0,0)):=by simp [aQ,h2]
  refine bi ?_<|jD hT hb1<|@qT;intro K hK;have fx:=hT;refine j9 hO (have om:=hO;YX.re om) (qp _) (qp _) (hF:=λhs=>bJ _ _ _ p W 5 hs) (h:=?_);rintro y H2 ⟨rfl,hO2⟩;clear fx;have hT2:=hO2.top;simp only [uF] at hT2;refine bi ?_<|aI hT<|hT2;rw [hc];refine qE [] .nil qF ⟨qB,YX.fin (have om:=hO2;YX.re om)⟩
abbrev XS:Y8:=ai<|.l 7 []<|.q 8<|.q 9<|.l 10 []<|.l 11 []<|.done
abbrev Uf:Y8:=kP<|.l 6 []<|.q 7<|.q 8<|.l 9 []<|.l 10 []<|.done
theorem vB {A G G2:Prop} (k:G2) (x:A) (h:A->Yr G2->G:=by
 intro fx kk;refine qI ?_
 repeat ((first|refine Y7 (id:=7) XS mixed ?_|refine Y7 (id:=13) Uf mixed ?_|refine Y7 (id:=14) Uf mixed ?_);refine qW ?_;refine qI ?_)
 exact kk.h):G:=h x ⟨k⟩
theorem EJ (gl) (p:YU) (n:Nat) (hR:QV gl 235 p n) (H:Nm->Option AO) (W:YY) (a:Nat) (k:Y4) (s:Y5) (vs:List Y6) (hP:Yl p) (hw:Yx p W) (hn:W.left<n) (h0:W.en=0) (ha:a<W.YR.length) (hk:p[W.YS a]?=some k) (hs:s∈k.body) (hkd:0<=s.kind/\s.kind<=6) (hr:Room 2 W)
  (hl:vs.length=s.reads.length) (hvok:∀ v∈vs,ZQ W.YT.length W.YP.length v) (hO:YX H 235 p W) (hL:H (.u 2 0 0)=some (.row 2 (zf vs))) :
  Yc prog gl 193 DM2 [.pt Mn 0,ptE a,s.av,.hs (.u 2 0 0) 2 0 vs.length] H (λ_ y H'=>y=.Zg [Y6.av (yL p (jv p n) W a s vs).2,bv (decide ((yL p (jv p n) W a s vs).1.en=0))]/\YX H' 235 p (yL p (jv p n) W a s vs).1) Yz:=by
 have hT:=hO.top;simp only [uF] at hT;have hst:=hP.sh.stm _ k hk s hs;have hnm:=hP.sh.names k (gM hk);have hp1:=hL;obtain⟨c,hc⟩:=gX ha;have hE:=hO.env a c hc;obtain⟨kd,to,sa,sb⟩:=s;simp only at hkd;refine Yc.Yb func193 [.cell 8 63,.tmp 9] ntmps193 (λ_=>bE) λC w g root hroot=>?_;have hkc:kd=0\/kd=1\/kd=2\/kd=3\/kd=4\/kd=5\/kd=6:=qA;rcases hkc with rfl|rfl|rfl|rfl|rfl|rfl|rfl
 .have hw0:yL p (jv p n) W a ⟨0,to,sa,sb⟩ vs=(W,(1,sa)):=iB;refine vB ?_<|jD hT hp1<|@qT;rw [hw0];refine qE [] .nil qF ⟨qu,YX.fin (have om:=hO;YX.re om)⟩
 .obtain⟨u,rfl⟩:∃ u,vs=[u]:=by
   match vs,hl with
   | [u],_=>exact⟨u,rfl⟩
   | [],h=>simp [Y5.reads] at h
   | _::_::_,h=>simp [Y5.reads] at h
  have hw0:yL p (jv p n) W a ⟨1,to,sa,sb⟩ [u]=(W,u):=iB;refine vB ?_<|jD hT hp1<|@qT;rw [hw0];refine qE [] .nil qF ⟨qu,YX.fin (have om:=hO;YX.re om)⟩
 .obtain⟨u,v,rfl⟩:∃ u v,vs=[u,v]:=by
   match vs,hl with
   | [u,v],_=>exact⟨u,v,rfl⟩
   | [],h=>simp [Y5.reads] at h
   | [_],h=>simp [Y5.reads] at h
   | _::_::_::_,h=>simp [Y5.reads] at h
  have hw0:yL p (jv p n) W a ⟨2,to,sa,sb⟩ [u,v]=a7 W u v:=iB;refine vB ?_<|jD hT hp1<|@qT;intro K hK;have fx:=aI hT hp1;refine j9 hO (have om:=hO;YX.re om) (qp _) (qp _) (hF:=λhs=>VR _ _ _ p W u v h0 (hvok u qB) (hvok v qB) hs) (h:=?_);rintro y H2 ⟨rfl,hO2⟩;clear fx;have hT2:=hO2.top;simp only [uF] at hT2;refine vB ?_<|j4 hT hp1 hT2<|@qT;rw [hw0];refine qE [] .nil qF ⟨qB,YX.fin (have om:=hO2;YX.re om)⟩
 .obtain⟨q,hq1,hq2,hq3,hq4⟩:=zP.made hst (.inl rfl);simp only at hq1 hq3;obtain⟨A,rfl⟩:∃ A:Nat,sa=A:=⟨sa.toNat,qA⟩;simp only [a6] at hq1;have hw0:yL p (jv p n) W a ⟨3,to,(A:Int),sb⟩ vs=({ W with YT:=W.YT++[(A,a)] },(2,(W.YT.length:Int))):=iB;refine vB ?_<|jD hT hp1<|@qT;intro K hK;have fx:=hT;refine j9 hO (have om:=hO;YX.re om) (qp _) (qp _) (hF:=λhs=>FB _ _ p W a A q hw ha hq1 (hr.mono qA) (by have hh:=hP.sh.head A q hq1;simp only [ym] at hh;split at hh <;> omega) hs) (h:=?_);rintro y H2 ⟨rfl,hO2⟩;clear fx;have hT2:=hO2.top;simp only [uF] at hT2;refine vB ?_<|j4 hT hp1 hT2<|@qT;rw [hw0];refine qE [] .nil qF ⟨qu,YX.fin (have om:=hO2;YX.re om)⟩
 .have hm:=Gp hst ha (.inr rfl);obtain⟨q,hq1,hq2,hq3,hq4⟩:=zP.made hst (.inr rfl);simp only at hm hq3;obtain⟨A,rfl⟩:∃ A:Nat,sa=A:=⟨sa.toNat,qA⟩;simp only [a6] at hm;have hw0:yL p (jv p n) W a ⟨4,to,(A:Int),sb⟩ vs=wE p (jv p n) W A a:=iB;refine vB ?_<|jD hT hp1<|@qT;intro K hK;have fx:=hT;refine j9 hO (have om:=hO;YX.re om) (qp _) (qp _) (hF:=λhs=>Px gl _ p n hR _ W a A hP hw hn h0 hm hr hs qB) (h:=?_);rintro y H2 ⟨rfl,hO2⟩;clear fx;have hT2:=hO2.top;simp only [uF] at hT2;refine vB ?_<|j4 hT hp1 hT2<|@qT;rw [hw0];refine qE [] .nil qF ⟨qB,YX.fin (have om:=hO2;YX.re om)⟩
 .have hpos:0<vs.length:=by
   rw [hl];by_cases e:sb=-1 <;> simp [Y5.reads,e]
  have hlt:vs.length<=2:=by
   rw [hl];by_cases e:sb=-1 <;> simp [Y5.reads,e]
  obtain⟨u,tl,rfl⟩:∃ u tl,vs=u::tl:=by
   match vs,hpos with
   | u::tl,_=>exact⟨u,tl,rfl⟩
  have htl:tl.length<=1:=by simp at hlt;omega
  have hw0:yL p (jv p n) W a ⟨5,to,sa,sb⟩ (u::tl)=aQ p (jv p n) W u tl:=iB;have hle1:(1:Int)<=(tl.length:Int)+1:=qA;have htn:((tl.length:Int)+1).toNat=tl.length+1:=qA;refine vB ?_<|kH hT hp1 htl hle1 htn<|@qT;intro K hK;have fx:=aI hT hp1;refine xP hO (have om:=hO;YX.re om) jp (qp _) (qp _) (hF:=λhs=>QF gl p n hR _ W u 1 tl (u::tl) hP hw hn h0 (hvok u qB) (λv hv=>hvok v (by simp [hv])) (hr.mono qA) rfl qv htl hs jp) (h:=?_);rintro y H2 ⟨rfl,hO2⟩;clear fx;have hT2:=hO2.top;simp only [uF] at hT2;refine vB ?_<|kG hT hp1 hT2 htl hle1 htn<|@qT;rw [hw0];refine qE [] .nil qF ⟨qB,YX.fin (have om:=hO2;YX.re om)⟩
 .obtain⟨u,rfl⟩:∃ u,vs=[u]:=by
   match vs,hl with
   | [u],_=>exact⟨u,rfl⟩
   | [],h=>simp [Y5.reads] at h
   | _::_::_,h=>simp [Y5.reads] at h
  have hsb:0<=sb/\sb<=7:=by
   simp only [zP] at hst;simp at hst;omega
  obtain⟨x,rfl⟩:∃ x:Nat,sb=x:=⟨sb.toNat,qA⟩;have hw0:yL p (jv p n) W a ⟨6,to,sa,(x:Int)⟩ [u]=wj W u x:=iB;refine vB ?_<|jD hT hp1<|@qT;intro K hK;have fx:=aI hT hp1;refine j9 hO (have om:=hO;YX.re om) (qp _) (qp _) (hF:=λhs=>Dm _ _ _ p W u x h0 hw (hvok u qB) qA hs) (h:=?_);rintro y H2 ⟨rfl,hO2⟩;clear fx;have hT2:=hO2.top;simp only [uF] at hT2;refine vB ?_<|j4 hT hp1 hT2<|@qT;rw [hw0];refine qE [] .nil qF ⟨qB,YX.fin (have om:=hO2;YX.re om)⟩
abbrev XR:Y8:=kr<|.l 8 [4,3,2,1,0]<|.l 9 [4,3,2,1,0]<|.l 10 [0]<|.q 11<|.q 12<|.l 13 []<|.done
abbrev XQ:Y8:=ai<|.l 7 []<|.done
def doW (p:YU) (R:YY->Nat->YY×Y6) (W:YY) (a:Nat) (s:Y5) (vs:List Y6):YY :=
 if s.kind=9\/s.kind=10 then W else if s.kind=11 then fb p W a s.to else
 if s.kind=7 then { W with out:=W.out++[Hm.shown (vs.getD 0 (0,0))] } else
 if (yL p R W a s vs).1.en≠0 then (yL p R W a s vs).1 else b5 p (yL p R W a s vs).1 a s.to (yL p R W a s vs).2
theorem K6 {p:YU} {R:YY->Nat->YY×Y6} {W:YY} {a:Nat} {s:Y5} {vs:List Y6} (h0:W.en=0) (h:qf p W a s.reads=(W,vs)):lh p R W a s=doW p R W a s vs:=by
 have hv:jc p R W a s=yL p R W a s vs:=by
  unfold jc;rw [h];simp [h0]
 by_cases h7:s.kind=7
 .have hv7:jc p R W a s=(W,vs.getD 0 (0,0)):=by
   rw [hv];simp [yL,h7]
  simp [lh,doW,h7,hv7,h0]
 .simp only [lh,doW,hv,h7,if_false]
theorem uI {A G G2:Prop} (k:G2) (x:A) (h:A->Yr G2->G:=by
 intro fx kk;refine qI ?_
 repeat ((first|refine Y7 (id:=6) XR mixed ?_|refine Y7 (id:=14) XQ mixed ?_);refine qW ?_;refine qI ?_)
 exact kk.h):G:=h x ⟨k⟩
theorem Xg (gl) (p:YU) (n:Nat) (hR:QV gl 235 p n) (H:Nm->Option AO) (W:YY) (a:Nat) (k:Y4) (s:Y5) (vs:List Y6) (hP:Yl p) (hw:Yx p W) (hn:W.left<n) (h0:W.en=0) (ha:a<W.YR.length) (hk:p[W.YS a]?=some k) (hs:s∈k.body) (h8:s.kind≠8) (hr:Room 2 W)
  (hl:vs.length=s.reads.length) (hvok:∀ v∈vs,ZQ W.YT.length W.YP.length v) (hO:YX H 235 p W) (hL:H (.u 2 0 0)=some (.row 2 (zf vs))) :
  Yc prog gl 157 DM2 [.pt Mn 0,ptE a,s.av,.hs (.u 2 0 0) 2 0 vs.length] H (λ_ y H'=>y=bv (decide ((doW p (jv p n) W a s vs).en=0))/\YX H' 235 p (doW p (jv p n) W a s vs)) Yz:=by
 have hh:=hP.sh.Y9;have hT:=hO.top;simp only [uF] at hT;have hst:=hP.sh.stm _ k hk s hs;have hnm:=hP.sh.names k (gM hk);have hkd:=hnm.kinds s hs;have hto:=hnm.Yw s hs;have hvl:=EJ gl p n hR;have hp1:=hL;obtain⟨c,hc⟩:=gX ha;have hE:=hO.env a c hc;obtain⟨kd,to,sa,sb⟩:=s;simp only at h8 hkd hto;obtain⟨x,rfl⟩:∃ x:Nat,to=x:=⟨to.toNat,qA⟩;have hx7:0<=(x:Int)/\(x:Int)<=7:=qA;refine Yc.Yb func157 [.tmp 8] ntmps157 (λ_=>bE) λC w g root hroot=>?_;by_cases h9:kd=9
 .subst h9;have hq:doW p (jv p n) W a ⟨9,x,sa,sb⟩ vs=W:=by simp [doW]
  refine uI ?_<| hT;rw [hq];refine qE [] .nil qF ⟨qu,YX.fin (have om:=hO;YX.re om)⟩
 by_cases h10:kd=10
 .subst h10;have hq:doW p (jv p n) W a ⟨10,x,sa,sb⟩ vs=W:=by simp [doW]
  refine uI ?_<| hT;rw [hq];refine qE [] .nil qF ⟨qu,YX.fin (have om:=hO;YX.re om)⟩
 have hb9:(kd==9)=false:=by simpa using h9
 have hb10:(kd==10)=false:=by simpa using h10
 by_cases h11:kd=11
 .subst h11;have hq:doW p (jv p n) W a ⟨11,x,sa,sb⟩ vs=fb p W a x:=by simp [doW]
  refine uI ?_<| hT;intro K hK;have fx:=hT;refine j9 hO (have om:=hO;YX.re om) (qp _) (qp _) (hF:=λhs=>Sq _ _ _ p W a x hP.sh hw ha qA h0 hs) (h:=?_);rintro y H1 ⟨rfl,hO1⟩;clear fx;have hT1:=hO1.top;simp only [uF] at hT1;refine uI ?_<|aI hT<|hT1;rw [hq];refine qE [] .nil qF ⟨qB,YX.fin (have om:=hO1;YX.re om)⟩
 have hb11:(kd==11)=false:=by simpa using h11
 by_cases h7:kd=7
 .subst h7
  obtain⟨u,rfl⟩:∃ u,vs=[u]:=by
   match vs,hl with
   | [u],_=>exact⟨u,rfl⟩
   | [],h=>simp [Y5.reads] at h
   | _::_::_,h=>simp [Y5.reads] at h
  have hq:doW p (jv p n) W a ⟨7,x,sa,sb⟩ [u]={ W with out:=W.out++[Hm.shown u] }:=by simp [doW]
  have hU:=hO.out;have hol:=hw.qAJ;have hol':W.out.length<=1000:=qA;have hap:qS W.out++[[iv (Hm.shown u)]]=qS (W.out++[Hm.shown u]):=zU;have hsh:=aM gl u;obtain⟨u1,u2⟩:=u;have fx:=yl hT hU hol' hp1<|@qT;have c1:=hsh;refine uI ?_<|fx;clear fx c1;rw [hq];refine qE [] .nil qF ⟨qu,YX.fin ⟨by simp [uF,hT],⟨ao,λj k hj hk=>au⟩,?_,rR,hO.run.imp λl hl=>⟨hl.1,rp⟩,r7,λk g hg=>by simp [hO.bx k g hg],by simp [hO.Yt],λk c hc=>(hO.cls k c hc).imp λms hm=>⟨vN,hm.2⟩,λi a ha=>eN,λi hi=>(hO.Z4 i hi).imp λms hm=>⟨vN,hm.2⟩,λk i j hk hn=>if e:k=1/\i=0/\j=0 then .inl e else hO.only k i j hk cG⟩⟩;simp
 have hb7:(kd==7)=false:=by simpa using h7
 have hk6:0<=kd/\kd<=6:=qA
 have hq:doW p (jv p n) W a ⟨kd,x,sa,sb⟩ vs=if (yL p (jv p n) W a ⟨kd,x,sa,sb⟩ vs).1.en≠0 then (yL p (jv p n) W a ⟨kd,x,sa,sb⟩ vs).1 else b5 p (yL p (jv p n) W a ⟨kd,x,sa,sb⟩ vs).1 a x (yL p (jv p n) W a ⟨kd,x,sa,sb⟩ vs).2:=by
  simp only [doW,h9,h10,h11,h7,if_false,false_or]
 refine uI ?_<|yl hT hb9 hb10 hb11<|hb7;intro K hK;have fx:=hT;refine xP hO (have om:=hO;YX.re om) jp (qp _) (qp _) (hF:=λhs'=>hvl _ W a k ⟨kd,x,sa,sb⟩ vs hP hw hn h0 ha hk hs hk6 hr hl hvok hs' jp) (h:=?_);rintro y H1 ⟨rfl,hO1⟩;clear fx;obtain⟨hA,hvok1⟩:=xQ (vs:=vs) (aC hP.sh n) hw hn h0 ha hst hvok hr;generalize yL p (jv p n) W a ⟨kd,x,sa,sb⟩ vs=q at hO1 hA hvok1 hq;obtain⟨V,v⟩:=q;simp only at hO1 hA hvok1 hq;have hT1:=hO1.top;simp only [uF] at hT1;have haV:a<V.YR.length:=ac ha hA.grow.Zl;have hla:=hA.grow.Zl;have hlf:=hA.grow.qB9;obtain⟨c1,hc1⟩:=gX haV;have hE1:=hO1.env a c1 hc1;by_cases hen:V.en=0
 case neg =>
  rw [if_pos hen] at hq;obtain⟨v1,v2⟩:=v;refine uI ?_<|yl hT hT1 hE hE1<|hen;rw [hq];refine qE [] .nil qF ⟨by simp [hen],YX.fin (have om:=hO1;YX.re om)⟩
 rw [if_neg (by simpa using hen)] at hq;obtain⟨hnm1,hil⟩:=AF (x:=(x:Int)) hh hA.ok haV;have hnm0:=hnm1;obtain⟨o,ho⟩:∃ o,Hm.ZO p (V.YS a) (qh p (V.YS a) x)=o:=⟨_,rfl⟩;obtain⟨l,hll⟩:∃ l,V.loc p a x=l:=⟨_,rfl⟩;have hhl:=gp gl (F:=235) (p:=p) (W:=V) (a:=a) (x:=x);rw [ho,hll] at hhl;rw [hll] at hnm1 hil;obtain⟨i,hi⟩:∃ i,A0 l=i:=⟨_,rfl⟩;rw [hi] at hnm1 hil hhl;obtain⟨v1,v2⟩:=v;refine uI ?_<|yl hT hT1 hE hE1<|hen;intro K hK;have fx:=aI hT hT1;refine j9 hO (have om:=hO1;YX.re om) hla hlf (hF:=λhs=>hhl _ hP.sh hA.ok haV qA hs) (h:=?_);rintro y H2 ⟨rfl,hO2⟩;clear fx;have hT2:=hO2.top;simp only [uF] at hT2;obtain⟨d,hd⟩:=gX hil;have hE2:=hO2.env i d hd;simp only [yE] at hE2;have hE2a:=hO2.env a c1 hc1;obtain⟨ms,hms,hmo⟩:=hO2.Z4 i hil;rw [hnm1] at hmo
 have hstq:b5 p V a x (v1,v2)=V.set l x (some (v1,v2)):=by
  unfold b5;rw [hll]
 refine uI ?_<|ko hT hT1 hE hE1 hT2 hE2 hE2a<|hms;intro K hK;refine uD (λst=>st.tm 61=.mp (.c (En i) 0 1)/\st.tm 63=iv x/\st.tm 64=Y6.av (v1,v2)/\st.hp (.c (En i) 0 1)=some (.map (kL ms))/\YX st.hp 235 p V) ⟨by simp [hT2,hE2],qB,qB,by simp [hms],(have om:=hO2;YX.re om)⟩ ?_;rintro st ⟨t61,t63,t64,hms',hO3⟩;have fx:=aI t61 (aI t63 (aI t64 hms'));refine vT (h:=?_);clear fx;refine uI ?_<| hT;rw [hq,hstq];refine qE [] .nil qF ⟨by rw [ag.2.2.2.2.2.2];simp [hen],YX.fin (xy hh hA.ok haV qA hll hnm0 hO3 (hmo.set hx7) λm hm=>?_)⟩;rw [hi];simp
end Go.Proofs.YtdnebaieamppbaaGreatDoor
end
