import Derived.Test.YtjgpejikjhojcaaGreatDoorD17
import Derived.ScopeJumps
set_option linter.all false
set_option maxRecDepth 100000
set_option maxHeartbeats 4000000
open Option renaming some->Z,none->Y
open Bool renaming true->B,false->M
open List renaming length->O

section
namespace Go.Hm
open Go Go.RowKit
variable{C:List qr}{F:Nm->Option Nm}{L l l':List qO}{Q:Ex->St->Prop}{X:Ctx}{a y:AV}{b d i j z:Nat}{c:Code}{hp:Nm->Option AO}{n q:Nm}{o:AO}{p:qC}{rows:List (List AV)}{st:St}{vs:List q8}
theorem Nm.EH{k0 k1:Nm}:∀{k:Nm},Nm.under k0 k=B->Nm.qy k1 k0 (Nm.qy k0 k1 k)=k:=by
 have base:∀k:Nm,k=k0->Nm.qy k1 k0 (Nm.qy k0 k1 k)=k:=by
  simp
 intro k
 induction k<;>grind[under,qy,pC,fG]
def zR(n:Nm)(o:AO)(hp:Nm->Option AO):Nm->Option AO:=λm=>if m=n then Z o else hp m
@[simp]theorem wrO_eq{m:Nm}:zR n o hp m=if m=n then Z o else hp m:=rfl
def u6(D:Nm->Bool)(hp' hp:Nm->Option AO):Prop:=∃F:Nm->Option Nm,(∀k,D k=B->F k=Z k)/\∀k,D k=B->hp' k=(hp k).map (AO.tr F)
def sY(D:Nm->Bool)(v:AV)(n:Nm)(o:AO)(H:Nm->Option AO):Nm->AV->(Nm->Option AO)->Prop:=λ_ y H'=>y=v/\∀k,D k=B->H' k=(zR n o H k).map (AO.tr (zH D []))
def pK(D:Nm->Bool)(N V:Nm)(d:Nat)(hp:Nm->Option AO)(m:Nm):Option Nm:=
 if Nm.under N m then(if m=N then Z N else Y)else if Nm.under V m then Y else if Nm.under (.s d) m then Y else if D m then(if m.z6&&(hp m).isSome then Z m else Y)else Z m
def St.ft(st:St)(N V:Nm)(d:Nat)(D:Nm->Bool)(hp':Nm->Option AO):St:=
 {tm:=λt=>(st.tm t).tr (pK D N V d st.hp),
  hp:=λm=>if D m||Nm.under (.s d) m then hp' m else if Nm.under V m then Y else(st.hp m).map (AO.tr (pK D N V d st.hp)),
  n:=st.n,gl:=st.gl}
section
variable{st:St}{N V m n:Nm}{d t:Nat}{D:Nm->Bool}{hp hp' H':Nm->Option AO}
@[simp]theorem rtn_eq:pK D N V d hp m=if Nm.under N m then(if m=N then Z N else Y)else if Nm.under V m then Y else if Nm.under (.s d) m then Y else if D m then(if m.z6&&(hp m).isSome then Z m else Y)else Z m:=rfl
@[simp]theorem mutn_tm:(st.ft N V d D hp').tm t=(st.tm t).tr (pK D N V d st.hp):=rfl
@[simp]theorem mutn_gl:(st.ft N V d D hp').gl=st.gl:=rfl
@[simp]theorem mutn_hp:(st.ft N V d D hp').hp m=if D m||Nm.under (.s d) m then hp' m else if Nm.under V m then Y else(st.hp m).map (AO.tr (pK D N V d st.hp)):=rfl
theorem qAN(hV:V.z6=B)(hNV:Nm.under V N=M)(hDN:∀k,Nm.under N k=B->D k=B)(hDV:∀k,Nm.under V k=B->D k=M)(hs:(hp N).isSome=B):
  (λm=>((mv N V m).bind (cf d (λk=>D k||Nm.under V k) (zU (λk=>D k||Nm.under V k) (jP N V hp)))).bind (mv V N))=pK D N V d hp:=by
 funext x
 by_cases hx:Nm.under N x=B
 .have hu:Nm.under V (Nm.qy N V x)=B:=Nm.fG x hx;have hsd:=Ij (d:=d) hV hu;by_cases e:x=N<;>simp_all[jP,Hz]
 .simp only[kr]at hx;by_cases hv:Nm.under V x=B
  .simp_all
  .simp only[kr]at hv;by_cases hd:Nm.under (.s d) x=B
   .simp_all
   .simp only[kr]at hd;by_cases hD:D x=B
    .simp [hx,hv,hd,hD,jP]
     cases hp x<;>cases x.z6<;>simp[hx,hv]
    simp_all
theorem Mu(hV:V.z6=B)(hNV:Nm.under V N=M)(hDN:∀k,Nm.under N k=B->D k=B)(hDV:∀k,Nm.under V k=B->D k=M)(hDr:∀k,D k=B->k.zj=M)(hs:(st.hp N).isSome=B)(hy:y.tr (mv V N)=y):
  ∃q,q=((((st.move N V).call d (λk=>D k||Nm.under V k) (zU (λk=>D k||Nm.under V k) (st.move N V).hp) H').put (Z d) y).move V N)/\q=(st.ft N V d D q.hp).put (Z d) y:=by
 refine⟨_,rfl,?_⟩;have hc:=qAN (hp:=st.hp) (d:=d) hV hNV hDN hDV hs
 have e1:∀a:AV,((a.tr (mv N V)).tr (cf d (λk=>D k||Nm.under V k) (zU (λk=>D k||Nm.under V k) (jP N V st.hp)))).tr (mv V N)=a.tr (pK D N V d st.hp):=by
  grind[AV.ui]
 have e2:∀o:AO,((o.tr (mv N V)).tr (cf d (λk=>D k||Nm.under V k) (zU (λk=>D k||Nm.under V k) (jP N V st.hp)))).tr (mv V N)=o.tr (pK D N V d st.hp):=by
  grind[AO.ui]
 generalize hq:((((st.move N V).call d (λk=>D k||Nm.under V k) (zU (λk=>D k||Nm.under V k) (st.move N V).hp) H').put (Z d) y).move V N)=q
 have h1:q.tm=((st.ft N V d D q.hp).put (Z d) y).tm:=by
  subst hq
  funext t
  simp only[St.move,St.nm,St.put,St.ft,St.call]
  grind
 have h2:q.hp=((st.ft N V d D q.hp).put (Z d) y).hp:=by
  funext m
  simp only[St.put,St.ft];by_cases hD:D m=B
  .simp [hD]
  simp only[kr]at hD;by_cases hd:Nm.under (.s d) m=B
  .simp [hd]
  simp only[kr]at hd
  have hN:Nm.under N m=M:=by
   grind
  simp only[hD,hd,Bool.or_false,aF,if_false];subst hq;simp only[St.move,St.nm,St.put,St.call,jP,hN,aF,if_false];by_cases hv:Nm.under V m=B
  .simp [hv]
  .simp only[kr]at hv;simp only[hv,hD,hd,Bool.or_false,aF,if_false]
   cases hm:st.hp m<;>grind
 have h3:q.n=((st.ft N V d D q.hp).put (Z d) y).n:=by subst hq;rfl
 have h4:q.gl=((st.ft N V d D q.hp).put (Z d) y).gl:=by subst hq;rfl
 cases q<;>grind[St.put]
theorem W2(hV:V.z6=B)(hNV:Nm.under V N=M)(hDN:∀k,Nm.under N k=B->D k=B)(hDV:∀k,Nm.under V k=B->D k=M)(hDn:D n=B)(hNn:Nm.under N n=M)
  (hR:∀k,(D k||Nm.under V k)=B->H' k=(zR n (o.tr (mv N V)) (zU (λk=>D k||Nm.under V k) (jP N V st.hp)) k).map (AO.tr (zH (λk=>D k||Nm.under V k) []))):
  u6 D ((((st.move N V).call d (λk=>D k||Nm.under V k) (zU (λk=>D k||Nm.under V k) (st.move N V).hp) H').put (Z d) y).move V N).hp (zR n o st.hp):=by
 have hVn:Nm.under V n=M:=by
  grind
 refine⟨λk=>((mv N V k).bind (zH (λk=>D k||Nm.under V k) [])).bind (mv V N),λk hk=>?_,λk hk=>?_⟩
 .grind[Nm.fG,mv,zH,Nm.EH]
 .have e2:∀o:AO,((o.tr (mv N V)).tr (zH (λk=>D k||Nm.under V k) [])).tr (mv V N)=o.tr (λk=>((mv N V k).bind (zH (λk=>D k||Nm.under V k) [])).bind (mv V N)):=by
   grind[AO.ui]
  by_cases hx:Nm.under N k=B
  .have hu:Nm.under V (Nm.qy N V k)=B:=Nm.fG k hx;have hne:¬Nm.qy N V k=n:=λe=>qQ;have hne2:¬k=n:=λe=>qQ;have hb:=Nm.EH (k1:=V) hx;have hb2:mv V N (Nm.qy N V k)=Z k:=qQ;have hb3:mv N V k=Z (Nm.qy N V k):=qQ;have hR1:=hR (Nm.qy N V k) Ar;simp only[zR,hne,if_false,zU,hu,Bool.or_true,if_true,jP,hb,hb3]at hR1;simp only[St.move,St.nm,St.put,St.call];simp only[jP,hx,if_true,hb2,hu,Bool.or_true,se,hR1,zR,hne2,if_false]
   cases st.hp k<;>grind
  .simp only[kr]at hx
   have hv:Nm.under V k=M:=by
    grind
   have hR1:=hR k (by simp[hk]);simp only[zR,zU,hk,se,if_true,jP,hx,hv,aF,if_false]at hR1;simp only[St.move,St.nm,St.put,St.call];simp only[jP,hx,hv,hk,aF,if_false,se,if_true,hR1,zR];by_cases e:k=n
   .simp_all
   .simp only[e,if_false]
    cases st.hp k<;>grind
end
section
variable{D:Nm->Bool}{d i off:Nat}{rows:List (List AV)}{vals:List AV}{o:Option AO}
theorem Bl:(jn rows i off vals).map (λr=>r.map (AV.tr F))=jn (rows.map (λr=>r.map (AV.tr F))) i off (vals.map (AV.tr F)):=by
 apply yp
 grind[jn,sf,List.map_drop]
theorem LN(hD:∀k,D k=B->k.zj=M):(λm=>(kl (.s d) m).bind (zH D []))=zH D []:=by
 funext m
 by_cases h:Nm.under (.s d) m=B
 .have h1:=Nm.nO (a:=.s d) rfl h
  have h2:D m=M:=by
   grind
  simp_all
 simp_all
def LO(hD:∀k,D k=B->k.zj=M):(a.tr (kl (.s d))).tr (zH D [])=a.tr (zH D []):=by rw[AV.ui,LN hD]
def LQ(hD:∀k,D k=B->k.zj=M):(o.map (AO.tr (kl (.s d)))).map (AO.tr (zH D []))=o.map (AO.tr (zH D [])):=by
 cases o with
 |none=>rfl
 |some o=>simp only[kB,AO.ui,LN hD]
theorem LR(hD:∀k,D k=B->k.zj=M):(rows.map (λr=>r.map (AV.tr (kl (.s d))))).map (λr=>r.map (AV.tr (zH D [])))=rows.map (λr=>r.map (AV.tr (zH D []))):=by
 simp_all[LO]
def TS(hD:∀k,D k=B->k.zj=M):(rows.map ((λr=>r.map (AV.tr (kl (.s b))))∘λr=>r.map (AV.tr (kl (.s d))))).map (λr=>r.map (AV.tr (zH D [])))=rows.map (λr=>r.map (AV.tr (zH D []))):=by
 rw[<- iy,LR hD,LR hD]
theorem jp(hD:∀k,D k=B->k.zj=M)(hq:D q=B)(d:Nat):¬q=.s d/\Nm.under (.s d) q=M:=by
 have h:Nm.under (.s d) q=M:=by
  cases h:Nm.under (.s d) q with
  |false=>rfl
  |true=>have:=Nm.nO (a:=.s d) rfl h;simp_all
 refine⟨λe=>?_,h⟩
 simp_all
end
section
variable{X:Ctx}{st:St}{K:St->Prop}{E:AV->St->Prop}{d f:Nat}{ty:TypeId}{pos:String}{aft:Array Edge}{g:Option (Nat×Bool)}{args:Array Operand}{Ts:Array TypeId}{az:List AV}
theorem Ef(D:Nm->Bool)(N V n:Nm)(o:AO)(v:AV)(hV:V.z6=B:=by rfl)(hN:N.z6=M:=by rfl)(hVe:X.ext V=M)(hDr:∀k,D k=B->k.zj=M)(hNV:Nm.under V N=M)(hDN:∀k,Nm.under N k=B->D k=B)(hDV:∀k,Nm.under V k=B->D k=M)(hs:(st.hp N).isSome=B)
  (hext:∀k i j,X.ext (.u k i j)=B->D (.u k i j)=M\/st.hp (.u k i j)≠Y)(hDn:D n=B)(hNn:Nm.under N n=M)(hv:v.tr (mv V N)=v)(hd:d<X.n:=by first|(simp;done)|fail)
  (ha:args.toList.map (ev (st.move N V))=az:=by simp[fx];first|done|rfl)
  (hF:qX X.P X.gl f (λk=>D k||Nm.under V k) az (zU (λk=>D k||Nm.under V k) (jP N V st.hp)) (sY (λk=>D k||Nm.under V k) v n (o.tr (mv N V)) (zU (λk=>D k||Nm.under V k) (jP N V st.hp))) qw)
  (h:∀hp',u6 D hp' (zR n o st.hp)->K ((st.ft N V d D hp').put (Z d) v)):
  qe X ⟨Z d,.call ⟨.value (.func f),args,Ts⟩,ty,pos,aft,g⟩ K E st:=by
 refine kU N V (.inl hN) (.inr hVe) (dC V N (.inr hVe) (.inl hN) ?_);refine nT (λk=>D k||Nm.under V k) (λk hk=>?_) (λk i j he=>?_) hd ha hF ?_
 .grind[y8]
 .by_cases hD:D (.u k i j)=B
  .right;rcases hext k i j he with h|h
   .simp_all
   .have hn:Nm.under N (.u k i j)=M:=by grind[Nm.z6,Nm.under]
    have hv:Nm.under V (.u k i j)=M:=by
     grind
    simp_all
  grind[Nm.under]
 .rintro y H' ⟨rfl,hR⟩;obtain⟨q,hq,e⟩:=Mu (d:=d) (H':=H') (st:=st) hV hNV hDN hDV hDr hs hv
  grind[W2]
end
section
variable{hp hp':Nm->Option AO}{p:qC}{n:Nm}{m m':qR}{dp dp' i k:Nat}{fs L:List qO}{f g:qO}{o:Int×Int}{s:qr}{rows:List (List AV)}{j:List q8}
def qS.same(h:qS hp p n m dp)(hn:Nm.under Xn n=B\/n=.u 2 0 0)(hs:u6 zP hp' hp):qS hp' p n m dp:=by
 obtain⟨F,h1,h2⟩:=hs;exact h.qy hn h1 h2
theorem I2(h:O f.stack=k+1):f.stack=f.pop.stack++[f.zE]:=by
 have hne:f.stack≠[]:=λe=>qQ
 grind[qO.pop,qO.zE,mJ]
theorem ib(h:O f.stack=k+1):(f.stack++j)[k]?=Z f.zE:=by
 have h1:=I2 h
 simp_all
def xl(h:O f.stack=k+1):O f.pop.stack=k:=by simp[qO.pop,h]
theorem qS.eC(h:qS hp p (.u 2 0 0) (m.top fs f) dp)(hr:hp (.u 2 0 0)=Z (.row 7 rows))(hk:O f.stack=k+1):qS (zR (.u 2 0 0) (.row 7 (jn rows (O fs) 6 [.hs (.c (.u 2 0 0) (O fs) 6) 2 0 k])) hp) p (.u 2 0 0) (m.top fs f.pop) dp:=by
 obtain⟨L,j,hL,hat,hlt,hF,h3,h5,h6⟩:=h.ux rfl
 obtain rfl:rows=ju p (.u 2 0 0) L:=by
  simp_all
 have hs:jn (ju p (.u 2 0 0) L) (O fs) 6 [.hs (.c (.u 2 0 0) (O fs) 6) 2 0 k]=ju p (.u 2 0 0) (L.set (O fs) f.pop):=L9 hat (by simp[yv,qO.pop,hk,vv]);rw[hs];refine h.uY rfl hL (g:=f.pop) rfl qB (by simp[h3,qO.pop]) (by simp[h5,qO.pop]) ⟨[f.zE]++j,?_⟩ (h0:=by simp[h.top,zu,qR.top]) (h2:=by simp[h.cells,qR.top]) (h3:=by simp[h.zM,qR.top]) (h4:=by simp[h.qI,qR.top]) (h5:=by simp[h.jG,qR.top]) (h6:=by simp[h.out,qR.top]) (h7:=by simp[h.zt,qR.top]);have e:=I2 hk
 simp_all
end
section
variable{p:qC}{m:qR}{fs:List qO}{f:qO}{o:Int×Int}
structure sV(m:qR)(f:qO)(o:Int×Int):Prop where
 arg:0<=o.2/\o.2<=1000
 lt:uv f o<O (bC m f o)
 cell:5<=o.1->o.1<=7->f.cells[o.2.toNat]?=Z (uv f o)
theorem sV.of(hM:yf p m fs f)(hO:sU p f.qG o)(hc:2<=o.1/\o.1<=13):sV m f o:=by
 have h1:=hM.top.fl;have h2:=hM.top.cl;have h3:=hM.top.nm.1;have h4:=hM.zM.1;have h5:=hO.arg;have h6:=hO.LI hc.1;have h7:=hO.cell;have h8:=hO.name
 have key:5<=o.1->o.1<=7->f.cells[o.2.toNat]?=Z (uv f o):=by
  grind[uv]
 refine⟨h5,?_,key⟩;unfold bC;by_cases c4:o.1<=4
 .grind[uv]
 by_cases c7:o.1<=7
 .have:=hM.top.cr _ (gM (key qA c7))
  grind
 grind[uv]
variable{hp:Nm->Option AO}{dp k:Nat}{N:Nm}
def qO.look(f:qO):Nat×List qr×List Nat×List qr:=(f.qG,f.qt,f.cells,f.names)
def io(hp:Nm->Option AO)(p:qC)(n:Nm)(m:qR)(dp:Nat):Prop:=∃fr,((m.en=0->fr=m.qN)/\fr.map qO.look=m.qN.map qO.look)/\qS hp p n {m with qN:=fr} dp
def qS.dy(h:qS hp p n m dp):io hp p n m dp:=⟨m.qN,⟨λ_=>rfl,rfl⟩,h⟩
def D9:Nm->Bool:=λk=>zP k||Nm.under (.u 9 0 0) k
def QT(h:D9 q=B):q.zj=M:=by
 rcases AX _ _ ▸ h with h|h
 .exact vF h
 .exact y8 rfl h
theorem qS.wx(h:qS hp p (.u 2 0 0) (m.top fs f) dp)(hk:O f.stack=k+1)(h1:Nm.under N (.u 2 0 0)=M)(h2:Nm.under N (.c (.u 2 0 0) (O fs) 6)=M):∃(rows rows':List (List AV))(a0 a1 a2 a3 a4 a5:AV)(vs:List q8),hp (.u 2 0 0)=Z (.row 7 rows)/\(zU D9 (jP N (.u 9 0 0) hp)) (.u 2 0 0)=Z (.row 7 rows')/\rows'[O fs]?=Z [a0,a1,a2,a3,a4,a5,.hs (.c (.u 2 0 0) (O fs) 6) 2 0 (k+1)]/\(zU D9 (jP N (.u 9 0 0) hp)) (.c (.u 2 0 0) (O fs) 6)=Z (.row 2 (zm vs))/\vs[k]?=Z f.zE /\
  (AO.row 7 (jn rows (O fs) 6 [.hs (.c (.u 2 0 0) (O fs) 6) 2 0 k])).tr (mv N (.u 9 0 0))=.row 7 (jn rows' (O fs) 6 [.hs (.c (.u 2 0 0) (O fs) 6) 2 0 k]):=by
 obtain⟨L,j,hL,hat,hlt,hF,h3,h5,h6⟩:=h.ux rfl;have hm:mv N (.u 9 0 0) (.c (.u 2 0 0) (O fs) 6)=Z (.c (.u 2 0 0) (O fs) 6):=qQ;have he:∀q,(AV.hs (.c (.u 2 0 0) (O fs) 6) 2 0 q).tr (mv N (.u 9 0 0))=.hs (.c (.u 2 0 0) (O fs) 6) 2 0 q:=λq=>qQ;refine⟨ju p (.u 2 0 0) L,(ju p (.u 2 0 0) L).map λr=>r.map (AV.tr (mv N (.u 9 0 0))),(iv f.qG).tr (mv N (.u 9 0 0)),(iv f.pc).tr (mv N (.u 9 0 0)),(iv (vv p f)).tr (mv N (.u 9 0 0)),(AV.hs (.c (.u 2 0 0) (O fs) 3) 3 0 (O f.qt)).tr (mv N (.u 9 0 0)),(jO (jQ f.cells)).tr (mv N (.u 9 0 0)),(AV.hs (.c (.u 2 0 0) (O fs) 5) 3 0 8).tr (mv N (.u 9 0 0)),f.stack++j,hF,?_,?_,?_,ib hk,?_⟩
 .simp_all[D9,jP]
 .simp_all[yv]
 .simp_all[D9,jP]
 simp_all[Bl]
theorem qS.take(h:qS hp p (.u 2 0 0) (m.top fs f) dp)(hk:O f.stack=k+1):∃(rows:List (List AV))(a0 a1 a2 a3 a4 a5:AV)(vs:List q8),hp (.u 2 0 0)=Z (.row 7 rows)/\(zU zP hp) (.u 2 0 0)=Z (.row 7 rows)/\rows[O fs]?=Z [a0,a1,a2,a3,a4,a5,.hs (.c (.u 2 0 0) (O fs) 6) 2 0 (k+1)]/\(zU zP hp) (.c (.u 2 0 0) (O fs) 6)=Z (.row 2 (zm vs))/\vs[k]?=Z f.zE:=by
 obtain⟨L,j,hL,hat,hlt,hF,h3,h5,h6⟩:=h.ux rfl;refine⟨ju p (.u 2 0 0) L,iv f.qG,iv f.pc,iv (vv p f),.hs (.c (.u 2 0 0) (O fs) 3) 3 0 (O f.qt),jO (jQ f.cells),.hs (.c (.u 2 0 0) (O fs) 5) 3 0 8,f.stack++j,hF,eb,?_,vZ,ib hk⟩
 simp_all[yv]
theorem qS.taken{H':Nm->Option AO}{r:Nm}{v:AV}(h:qS hp p (.u 2 0 0) (m.top fs f) dp)(hr:hp (.u 2 0 0)=Z (.row 7 rows))(hk:O f.stack=k+1)(hw:sY zP v (.u 2 0 0) (.row 7 (jn rows (O fs) 6 [.hs (.c (.u 2 0 0) (O fs) 6) 2 0 k])) (zU zP hp) r y H'):qS H' p (.u 2 0 0) (m.top fs f.pop) dp:=by
 refine(h.eC hr hk).qy (f:=zH zP []) (.inr rfl) (λq hq=>qQ) λq hq=>?_;rw[hw.2 q hq]
 simp_all
theorem JM(h1:hp Xn≠Y)(h2:hp (.u 2 0 0)≠Y)(k i j:Nat):zP (.u k i j)=M\/hp (.u k i j)≠Y:=by
 grind[sT,Nm.under]
theorem JN(h:Nm.under (.u 9 0 0) q=B):zP q=M:=by
 induction q<;>simp_all
theorem qS.ra{hp':Nm->Option AO}(h:qS hp p n m dp)(hn:Nm.under Xn n=B\/n=.u 2 0 0)(hh:∀q,zP q=B->hp' q=hp q):qS hp' p n m dp:=by
 refine h.qy hn (f:=Z) (λ_ _=>rfl) λq hq=>?_;rw[hh q hq]
 cases hp q<;>grind[AO.uO]
theorem qS.cut{hp':Nm->Option AO}(h:qS hp p n m dp)(hm:m.qN=fs++[f])
  (h0:hp' Xn=Z (.row 13 [zu p n {m with qN:=fs} dp]))
  (hh:∀q,q≠Xn->zP q=B->hp' q=hp q)(hn:n=.u 2 0 0):qS hp' p n {m with qN:=fs} dp:=by
 subst hn;have hX:∀j,hp' (.c Xn 0 j)=hp (.c Xn 0 j):=λj=>hh _ qB qB;have hF:∀i j,hp' (.c (.u 2 0 0) i j)=hp (.c (.u 2 0 0) i j):=λi j=>hh _ qB qB
 have hf:∀(i:Nat)g,fs[i]?=Z g->m.qN[i]?=Z g:=λi g hg=>by
  grind
 refine⟨h0,by grind[vI],by grind[cells],by grind[zM],by grind[qI],by grind[jG],by grind[out],by grind[zt],?_,λi g hg=>?_,λi g hg=>?_,λi g hg=>?_⟩
 .obtain⟨js,hj⟩:=h.fr.top;refine⟨f::js,?_⟩
  simp_all
 .rw [hF];exact h.fr.qt i g (hf i g hg)
 .rw [hF];exact h.fr.names i g (hf i g hg)
 .exact (h.fr.stack i g (hf i g hg)).imp λj hj=>qQ
def qS.DU{hp':Nm->Option AO}{e:Int}(h:qS hp p n m dp)(hn:n=.u 2 0 0)(hh:∀q,zP q=B->hp' q=if q=Xn then Z (.row 13 [zu p n {m with en:=e} dp])else hp q):qS hp' p n {m with en:=e} dp:=by
 subst hn;have h2:qS (λq=>if q=Xn then Z (.row 13 [zu p (.u 2 0 0) {m with en:=e} dp])else hp q) p (.u 2 0 0) {m with en:=e} dp:=qS.re h (h0:=qB) (h1:=by simp[h.vI]) (h2:=by simp[h.cells]) (h3:=by simp[h.zM]) (h4:=by simp[h.qI]) (h5:=by simp[h.jG]) (h6:=by simp[h.out]) (h7:=by simp[h.zt]) (h8:=h.fr.re);exact h2.ra (.inr rfl) hh
structure J2(N:Nm):Prop where
 z6:N.z6=M
 D:∀k,Nm.under N k=B->zP k=B
 u9:Nm.under (.u 9 0 0) N=M
 u2:Nm.under N (.u 2 0 0)=M
 x:Nm.under N Xn=M
 st:∀i,Nm.under N (.c (.u 2 0 0) i 6)=M
 s:∀d,Nm.under (.s d) N=M/\N≠.s d
 b:∃b,Nm.under (.u 1 0 0) N=b/\Nm.under (.u 2 0 0) N=!b
def qB4:J2 (yV (.u 2 0 0) i o):=by
 unfold yV
 repeat' split
 all_goals refine⟨rfl,λk hk=>?_,qB,qB,qB,qB,qB,qB⟩
 .have:=Nm.ie (a:=.u 2 0 0) qB hk;simp[this]
 .have:=Nm.ie (a:=.u 1 0 0) qB hk;simp[this]
 .have:=Nm.ie (a:=.u 1 0 0) qB hk;simp[this]
 .have:=Nm.ie (a:=.u 2 0 0) qB hk;simp[this]
end
def St.wJ(st:St)(t:Nat)(N:Nm)(x:AV):St:={tm:=λs=>if s=t then x else(st.tm s).tr (kl N),hp:=jN N st.hp,n:=st.n,gl:=st.gl}
section
variable{X:Ctx}{st:St}{a:Go.Act}{w:World}{K:St->Prop}{E:AV->St->Prop}{o:Oper}{t s:Nat}{N m:Nm}{x:AV}
@[simp]theorem stl_tm:(st.wJ t N x).tm s=if s=t then x else(st.tm s).tr (kl N):=rfl
@[simp]theorem stl_hp:(st.wJ t N x).hp m=if Nm.under N m then Y else(st.hp m).map (AO.tr (kl N)):=rfl
@[simp]theorem stl_gl:(st.wJ t N x).gl=st.gl:=rfl
theorem Rw.settle(h:Rw X st a w)(hb:Bw st.hp (λn=>decide (n≠N)) (st.tm t) x):Rw X (st.wJ t N x) a w:=by
 obtain⟨C,g,h1,h2,h3,h4,h5,hg⟩:=h
 have hCN:∀b,g.φ N=Z b->st.hp N≠Y->¬C b/\(X.w0.heap.size<=b\/X.own b)/\b<w.heap.size:=by
  intro b hb hn;obtain⟨o,ho⟩:=dM.1 hn;exact hg.inv.qG N o b ho hb
 let C':Nat->Prop:=λb=>C b\/(g.φ N=Z b/\st.hp N≠Y)
 have hS:=hg.PM (C':=C') (g':=g.more C') (w':=w) (f:=kl N) (hp':=jN N st.hp) rfl (λb hb=>.inl hb) (by
  rintro b (hb|⟨hb,hn⟩)
  .exact hg.inv.ur b hb
  simp_all) (by
  intro n n' e;simp only[kl]at e
  split at e
  .cases e
  .obtain rfl:=sI e;exact⟨rfl,rfl⟩) rfl rfl rfl (qb _) (λ_ _=>rfl) (λb hb ho=>rfl) (by
  intro n' o' e;left;simp only[jN]at e
  split at e
  .cases e
  .rename_i hu;obtain⟨o,ho,rfl⟩:=zq.1 e;refine⟨n',o,qQ,ho,rfl,λb hb=>⟨rfl,?_⟩⟩;rintro(hc|⟨hc,hn⟩)
   .exact (hg.inv.qG n' o b ho hb).1 hc
   .obtain⟨o2,ho2⟩:=dM.1 hn;have:=hg.inv.inj n' N o o2 b ho ho2 hb hc
    simp_all)
 refine⟨C',g.more C',λb hb=>.inl (h1 b hb),?_,h3,h4,h5,?_⟩
 .grind
 .refine⟨hS.inv,hS.defers,hS.size,λs=>?_,hS.zM⟩;by_cases e:s=t
  .subst e;simp only[St.wJ,if_true];refine RV.bw hg.inv (λb hb=>.inl hb) (λn o b hD ho hk=>?_) hb (hg.dG s)
   grind
  .have:=hS.dG s
   simp_all[St.nm]
def Wu(t:Nat)(N:Nm)(x:AV)(hb:Bw st.hp (λn=>decide (n≠N)) (st.tm t) x)(h:qe X o K E (st.wJ t N x)):qe X o K E st:=λa w Q hR hE=>h a w Q (hR.settle hb) hE
def NO(t:Nat)(N:Nm)(h:qe X o (λs=>∃x,Bw s.hp (λn=>decide (n≠N)) (s.tm t) x/\K (s.wJ t N x)) E st):qe X o K E st:=by
 refine qe.post h ?_;rintro s a w hR ⟨x,hb,hK⟩;exact⟨_,hR.settle hb,hK⟩
theorem FJ{len:Nat}(hn:hp N=Z (.row z rows))(hl:len=O rows)(hu:∀r∈rows,O r=z):Bw hp (λn=>decide (n≠N)) (.hs N z 0 len) (.sl z rows):=by
 refine .hs N z 0 len rows rows qB hn qA hl.symm hu λi r r' h1 h2 j a a' h3 h4=>?_;rw[gc,h2]at h1;obtain rfl:=sI h1;rw[h3]at h4;obtain rfl:=sI h4;exact .refl _
theorem HN(t:Nat)(N:Nm)(z len:Nat)(rows:List (List AV))(ht:st.tm t=.hs N z 0 len)(hn:st.hp N=Z (.row z rows))(hl:len=O rows)(hu:∀r∈rows,O r=z)(h:qe X o K E (st.wJ t N (.sl z rows))):qe X o K E st:=
 Wu t N _ (by grind[FJ]) h
theorem VE{a:AV}:(a.tr (kl (.s d))).tr (kl (.s d))=a.tr (kl (.s d)):=by
 rw[AV.ui]
 congr 1
 grind[kl]
theorem Ix{n:Nat}(hcall:∀K':St->Prop,K' (((st.kill (.s d)).zW (.s d) (.row z rows)).put (Z d) (.hs (.s d) z 0 n))->qe X o K' E st)(hl:n=O rows)(hu:∀r∈rows,O r=z)(h:K ((st.kill (.s d)).put (Z d) (.sl z rows))):qe X o K E st:=by
 refine NO d (.s d) (hcall _ ⟨.sl z rows,?_,?_⟩)
 .grind[FJ,St.put,St.zW]
 .have:((((st.kill (.s d)).zW (.s d) (.row z rows)).put (Z d) (.hs (.s d) z 0 n)).wJ d (.s d) (.sl z rows))=(st.kill (.s d)).put (Z d) (.sl z rows):=by
   simp only[St.wJ,St.put,St.zW,St.kill,St.nm]
   congr 1
   .grind[VE]
   .funext m
    simp only[jN];by_cases e:Nm.under (.s d) m=B
    .simp [e]
    .have hne:¬m=.s d:=λe'=>e qQ;simp only[e,hne,if_false]
     cases st.hp m with
     |none=>rfl
     |some o=>
      have:(λm=>(kl (.s d) m).bind (kl (.s d)))=kl (.s d):=by
       grind[kl]
      grind[AO.ui]
  simp_all
end
def Uw{G:Prop}(I:St->Prop)(k:∀st,I st->jJ X c Q st)(h:jH (∀st,I st->jJ X c Q st)->G):G:=h ⟨k⟩
def lv(n0 n1:Nm)(h0:n0.z6=M\/X.ext n0=M)(h1:n1.z6=M\/X.ext n1=M)(h:jJ X c Q (st.move n0 n1)):jJ X c Q st:=λa w hR=>h a w (hR.move n0 n1 h0 h1)
def rp(l:Nat)(I:St->Prop)(Q:Ex->St->Prop):Ex->St->Prop
 |.goto l',st=>l'=l/\I st
 |.normal,st=>Q .normal st
 |.exit id,st=>Q (.exit id) st
 |.ret,st=>Q .ret st
 |.b9 x,st=>Q (.b9 x) st
section
variable{X:Ctx}{st:St}{Q:Ex->St->Prop}{l:Nat}{I:St->Prop}{id:Nat}{x:AV}
def Us(h:Q .normal st):rp l I Q .normal st:=h
def Ut(h:Q .ret st):rp l I Q .ret st:=h
def MB(h:I st):rp l I Q (.goto l) st:=⟨rfl,h⟩
theorem qDy{rest:Code}(l:Nat)(hf:findLabel c l=Z rest)(I:Nat->St->Prop)(h0:jJ X c (rp l (λs=>∃n,I n s) Q) st)(hpass:∀n s,s.n=X.n->s.gl=X.gl->I n s->jJ X rest (rp l (λs'=>∃m,m<n/\I m s') Q) s):jJ X (.scope c) Q st:=by
 intro a w hR
 let J:Nat->Go.Act->World->Prop:=λn a w=>∃st,Rw X st a w/\I n st
 let μ:Go.Act->World->Nat:=λa w=>open Classical in if h:∃n,J n a w then(Di h).choose else 0
 have hμ:∀n a w,J n a w->μ a w<=n:=by
  intro n a w hJ;have hex:∃n,J n a w:=⟨n,hJ⟩;simp only[μ,dif_pos hex];exact(Di hex).choose_spec.2 n hJ
 refine wp_scope_jumps l (λa w=>∃n,J n a w) μ hf (wp_mono (h0 a w hR) λe a' w' he=>?_) λa w hJ=>?_
 .cases e with
  |goto l'=>
   obtain⟨st',hR',rfl,n,hI⟩:=he;constructor<;>grind
  |normal=>exact he
  |exit id=>exact he
  |ret=>exact he
  |panic ch=>exact he
  |outgrown=>exact he
 .have hspec:J (μ a w) a w:=by
   grind
  obtain⟨st1,hR1,hI1⟩:=hspec;have hR1':=hR1;obtain⟨C,g,x1,x2,x3,x4,x5,x6⟩:=hR1;refine wp_mono (hpass _ st1 x3 x4 hI1 a w hR1') λe a' w' he=>?_
  cases e with
  |goto l'=>
   obtain⟨st',hR',rfl,m,hlt,hI⟩:=he;exact⟨rfl,⟨m,st',hR',hI⟩,Nat.lt_of_le_of_lt (hμ m a' w' ⟨st',hR',hI⟩) hlt⟩
  |normal=>exact he
  |exit id=>exact he
  |ret=>exact he
  |panic ch=>exact he
  |outgrown=>exact he
end
section
variable{D:Nm->Bool}{a b c:Nat}{l:List AV}
theorem LP(hD:∀k,D k=B->k.zj=M):(l.map (AV.tr (kl (.s a)))).map (AV.tr (zH D []))=l.map (AV.tr (zH D [])):=by
 simp_all[LO]
def TR(hD:∀k,D k=B->k.zj=M):(l.map (AV.tr (kl (.s a))∘AV.tr (kl (.s b)))).map (AV.tr (zH D []))=l.map (AV.tr (zH D [])):=by
 rw[<- iy,LP hD,LP hD]
end
abbrev yo(i:Nat):Nat:=32+29*i
def J3(D:Nm->Bool)(v:AV)(H:Nm->Option AO):Nm->AV->(Nm->Option AO)->Prop:=λ_ y H'=>y=v/\∀k,D k=B->H' k=(H k).map (AO.tr (zH D []))
section
variable{hp hp' H H':Nm->Option AO}{p:qC}{m m0 m':qR}{fs:List qO}{f g:qO}{R:List AV}{k:Nat}{r:Nm}{y v:AV}{o:AO}
variable{P:Program}{C:Nat->Prop}{w:World}{g0:Gh}{gl:Nat->Option (List AV)}{n:Nat}{st:St}{K:St->Prop}{E:AV->St->Prop}{d c:Nat}{ty:TypeId}{pos:String}{aft:Array Edge}{gd:Option (Nat×Bool)}{args:Array Operand}{Ts:Array TypeId}{az:List AV}{Rr:Nm->AV->(Nm->Option AO)->Prop}
def jI(h0:qF H p m0)(hO:qF st.hp p m)(hl:O m0.cells<=O m.cells)(hd:d<n:=by first|(simp;done)|fail)(ha:args.toList.map (ev st)=az:=by simp[fx];first|done|rfl)
  (hF:qF (zU DM st.hp) p m->qX P gl c DM az (zU DM st.hp) Rr qw)(h:∀y H',Rr (.s d) y H'->K ((st.call d DM (zU DM st.hp) H').put (Z d) y)):
  qe (jt P C w g0 H n gl) ⟨Z d,.call ⟨.value (.func c),args,Ts⟩,ty,pos,aft,gd⟩ K E st:=nT DM (λ_=>zF) (λk i j he=>h0.ext hO hl k i j he) hd ha (hF hO.sub) h
def qF.post(h:qF hp p m)(hh:∀q,DM q=B->hp' q=(hp q).map (AO.tr (zH DM []))):qF hp' p m:=
 h.qy (f:=zH DM []) (λq hq=>qQ) hh
theorem qF.EU(h:qF hp p m)(hw:J3 DM v (zU DM hp) r y H'):qF H' p m:=by
 refine h.post λq hq=>?_;rw[hw.2 q hq]
 simp_all
theorem qF.qk(h:qF (zR Yn o hp) p m)(hw:sY DM v Yn o (zU DM hp) r y H'):qF H' p m:=by
 refine h.post λq hq=>?_;rw[hw.2 q hq]
 simp_all
theorem qF.ux(h:qF hp p m)(hm:m.qN=fs++[f]):∃(J:Nat->List AV)(j:List q8),(∀i,O (J i)=29)/\hp Yn=Z (.row 4415 [qj p m (O fs+1) (yc (fs++[f]) J)])/\hp (.c Yn 0 (yo (O fs)+2))=Z (.row 3 (zD f.qt))/\hp (.c Yn 0 (yo (O fs)+3))=Z (.row 1 (zd f.cells))/\hp (.c Yn 0 (yo (O fs)+28))=Z (.row 2 (zm (f.stack++j))):=by
 obtain⟨J,hJ,e⟩:=h.top;have hf:m.qN[O fs]?=Z f:=dS;obtain⟨j,hs⟩:=h.stack _ f hf;refine⟨J,j,hJ,?_,h.qt _ f hf,h.cls _ f hf,hs⟩
 simp_all
structure nw(p:qC)(m:qR)(i:Nat)(f:qO)(R:List AV):Prop where
 len:O R=4415
 r0:R[0]?=Z (kS (jo p (O p)))
 r1:R[1]?=Z (.hs (.c Yn 0 1) 1 0 (O p))
 r2:R[2]?=Z (iv m.left)
 r3:R[3]?=Z (iv m.en)
 r4:R[4]?=Z (.hs (.c Yn 0 4) 1 0 (O m.out))
 r5:R[5]?=Z (.hs (.c Yn 0 5) 2 0 (O m.trace))
 fA:R[30]?=Z (.hs (.c Yn 0 30) 2 0 (O m.qI))
 iW:R[31]?=Z (.hs (.c Yn 0 31) 24 0 (O m.qU))
 h:R[4411]?=Z (iv ((i:Int)+1))
 f0:R[yo i]?=Z (iv f.qG)
 f1:R[yo i+1]?=Z (iv f.pc)
 f2:R[yo i+2]?=Z (.hs (.c Yn 0 (yo i+2)) 3 0 (O f.qt))
 f3:R[yo i+3]?=Z (.hs (.c Yn 0 (yo i+3)) 1 0 (O f.cells))
 f28:R[yo i+28]?=Z (.hs (.c Yn 0 (yo i+28)) 2 0 (O f.stack))
 gl:∀x j:Nat,x<8->j<3->R[6+(3*x+j)]?=(jv (j7 m.globals x))[j]?
 nm:∀x j:Nat,x<8->j<3->R[yo i+4+(3*x+j)]?=(jv (j7 f.names x))[j]?
 tb:(R.drop (yo i+4)).take 24=jy f.names
theorem qDT{J:Nat->List AV}(hJ:∀i,O (J i)=29)(hi:O fs<151):nw p m (O fs) f (qj p m (O fs+1) (yc (fs++[f]) J)):=by
 have hc:=bI (fs:=fs++[f]) hJ;have hf:(fs++[f])[O fs]?=Z f:=qB
 have hat:∀{j:Nat},j<29->(qj p m (O fs+1) (yc (fs++[f]) J))[yo (O fs)+j]?=(ym (O fs) f)[j]?:=by
  simp_all[dL,qE1,AH]
 refine⟨pW hc,Py,qE3,qE4,qE5,qE8,qE9,qE6,qE7,?_,?_,?_,?_,?_,?_,λx j hx hj=>qEa hx hj,λx j hx hj=>?_,?_⟩
 .grind[Ej]
 .exact (hat (j:=0) qA).trans rfl
 .rw [hat qA];rfl
 .rw [hat qA];rfl
 .rw [hat qA];rfl
 .grind[qEv]
 .rw [dL,hat qA];grind[qEw]
 grind[qE2,AH,qFA]
theorem AB{b:AV}(h1:R[i]?=Z a)(h2:R[i+1]?=Z b):(R.drop i).take 2=[a,b]:=by
 grind[iz]
theorem qF.eC(h:qF hp p m)(hm:m.qN=fs++[f])(hi:O fs<151)(hr:hp Yn=Z (.row 4415 [R]))(hk:O f.stack=k+1):qF (zR Yn (.row 4415 [qq R (yo (O fs)+28) [.hs (.c Yn 0 (yo (O fs)+28)) 2 0 k]]) hp) p {m with qN:=fs++[f.pop]}:=by
 obtain⟨J,j,hJ,hT,h2,h3,h28⟩:=h.ux hm
 obtain rfl:R=qj p m (O fs+1) (yc (fs++[f]) J):=by
  simp_all
 have hlen:=xl hk
 have hs:qq (qj p m (O fs+1) (yc (fs++[f]) J)) (yo (O fs)+28) [.hs (.c Yn 0 (yo (O fs)+28)) 2 0 k]=qj p m (O fs+1) (yc (fs++[f.pop]) J):=by
  have:=El (p:=p) (m:=m) (h:=O fs+1) (fs:=fs++[f]) (i:=O fs) (f:=f) (g:=f.pop) (j:=28) (vals:=[.hs (.c Yn 0 (yo (O fs)+28)) 2 0 k]) hJ qB hi qB (by
   have:=qEz (i:=O fs) (f:=f) (l:=f.pop.stack);rw[hlen]at this;exact this)
  grind
 rw[hs]
 have key:∀(i:Nat)f',(fs++[f.pop])[i]?=Z f'->∃f'',m.qN[i]?=Z f''/\f'.qt=f''.qt/\f'.cells=f''.cells/\∃l,f''.stack=f'.stack++l:=by
  intro i f' hf;rcases oE i (O fs)with e|e|e
  .simp_all[ua]
  .subst e;simp at hf;subst hf;exact⟨f,dS,rfl,rfl,[f.zE],I2 hk⟩
  grind
 refine⟨⟨J,hJ,?_⟩,by simp[h.vI],by simp[h.out],by simp[h.zt],by simp[h.qI],by simp[h.jG],λi f' hf=>?_,λi f' hf=>?_,λi f' hf=>?_,λc s hc=>by simp[h.cell c s hc],λa b c ha hn=>?_⟩
 .simp only[zR,if_true,u7,aG]
  rfl
 .obtain⟨f'',h1,h2,_,_⟩:=key i f' hf;rw[h2];simp[h.qt i f'' h1]
 .obtain⟨f'',h1,_,h2,_⟩:=key i f' hf;rw[h2];simp[h.cls i f'' h1]
 .obtain⟨f'',h1,_,_,l,h2⟩:=key i f' hf;obtain⟨j',hj'⟩:=h.stack i f'' h1;exact⟨l++j',qQ⟩
 .by_cases e:a=1/\b=0/\c=0
  .omega
  .refine h.only a b c ha λe'=>hn ?_
   simp_all
end
def qO.cut(f:qO)(i:Nat):qO:={f with stack:=f.stack.take (O f.stack-i)}
section
variable{f:qO}{i n:Nat}{p:qC}{m:qR}{fs:List qO}
def Kr:f.cut 0=f:=by simp[qO.cut]
theorem Kq(h:i<O f.stack):O (f.cut i).stack=(O f.stack-(i+1))+1:=by grind[qO.cut]
theorem DQ(h:i<O f.stack):(f.cut i).pop=f.cut (i+1):=by
 grind[qO.pop,qO.cut,List.dropLast_eq_take]
theorem DR(h:i<O f.stack):f.stack[O f.stack-(i+1)]?=Z (f.cut i).zE:=by
 grind[qO.cut,qO.zE]
theorem Kp(h:i<O f.stack):f.stack.drop (O f.stack-(i+1))=(f.cut i).zE::f.stack.drop (O f.stack-i):=by
 have h1:=DR h
 grind[iz]
theorem K4(h:n+1<=O f.stack):ck p m fs f (17,(n:Int))=if(f.cut n).zE.1≠2 then m.stop fs (f.cut (n+1)) 5 else match m.qI[(f.cut n).zE.2.toNat]? with
  |some g=>if uG p g.1≠n then m.stop fs (f.cut (n+1)) 6 else yG p (m.top fs (f.cut (n+1))) g.1 g.2 (f.stack.drop (O f.stack-n))
  |none=>m.stop fs (f.cut (n+1)) 5:=by
 have h1:=DR (f:=f) (i:=n) qA
 have h2:f.stack.getD (O f.stack-n-1) (0,0)=(f.cut n).zE:=by
  grind
 have h3:({f with stack:=f.stack.take (O f.stack-n-1)}:qO)=f.cut (n+1):=by rw[Nat.sub_sub];rfl
 grind[ck,un]
def gR(p:qC)(m:qR)(b:Nat)(vs:List q8)(j:Nat)(fl C:List qr):Prop:=
 (j=0/\fl=List.replicate (O (zB p b)) Y/\C=m.cells++List.replicate (O (qa p b)) Y) \/
 (j=1/\∃x v,(zQ p b).params=[x]/\vs=[v]/\((x∈zB p b/\fl=(List.replicate (O (zB p b)) Y).set (yz (zB p b) x).toNat (Z v)/\C=m.cells++List.replicate (O (qa p b)) Y) \/
   (x∉zB p b/\fl=List.replicate (O (zB p b)) Y/\C=(m.cells++List.replicate (O (qa p b)) Y).set (O m.cells+(yz (qa p b) x).toNat) (Z v))))
theorem gR.fl{b j:Nat}{vs:List q8}{fl C:List qr}(h:gR p m b vs j fl C):O fl=O (zB p b):=by
 grind[gR]
theorem gR.cl{fl:List qr}(h:gR p m b vs j fl C):O C=O m.cells+O (qa p b):=by
 grind[gR]
def gR.fin{cs:List Nat}{fl:List qr}(h:gR p m b vs j fl C)(hj:O vs=j):yG p m b cs vs={m with cells:=C,made:=m.made+1,deep:=max m.deep (O m.qN+1),qN:=m.qN++[⟨b,0,fl,(List.range (O (qa p b))).map (O m.cells+·)++cs,jZ,[]⟩]}:=by
 rcases h with⟨rfl,rfl,rfl⟩|⟨rfl,x,v,hx,rfl,⟨h1,rfl,rfl⟩|⟨h1,rfl,rfl⟩⟩
 .have:vs=[]:=bN hj;subst this;unfold yG;simp
 .simp only[yG,hx,h1,if_true]
 .simp only[yG,hx,h1,if_false]
end
section
variable{hp:Nm->Option AO}{p:qC}{n:Nm}{m:qR}{dp i b e nf nk nc:Nat}{fs L:List qO}{f:qO}{k:qY}
theorem KE(h:qS hp p n m dp)(h0:0<O p):Bw hp zl (.pt Xn 0) (.el [kS (jo p (O p)),.sl 1 (cm mZ p),.hs (.c Xn 0 2) 3 0 (O m.cells),.hs (.c Xn 0 3) 3 0 8,.hs (.c Xn 0 4) 2 0 (O m.qI),.hs (.c Xn 0 5) 1 0 (O m.qU),.hs n 7 0 (O m.qN),iv m.made,iv dp,.hs (.c Xn 0 9) 1 0 (O m.out),.hs (.c Xn 0 10) 2 0 (O m.trace),iv m.en,iv m.left] 0):=by
 refine .pt Xn 13 0 _ _ [] rfl h.top rfl λj a a' ha ha'=>?_
 match j,ha,ha' with
 |0,ha,ha'=>obtain rfl:=sI ha;obtain rfl:=sI ha';exact .refl _
 |1,ha,ha'=>
  obtain rfl:=sI ha;obtain rfl:=sI ha';refine .hs (.c Xn 0 1) 1 0 _ _ _ rfl h.vI (by grind[K7]) (K7 h0) (by simp[cm]) λi r1 r2 e1 e2 j a a' e3 e4=>?_;rw[gc,e2]at e1;obtain rfl:=sI e1;rw[e3]at e4;obtain rfl:=sI e4;exact .refl _
 |2,ha,ha'=>obtain rfl:=sI ha;obtain rfl:=sI ha';exact .refl _
 |3,ha,ha'=>obtain rfl:=sI ha;obtain rfl:=sI ha';exact .refl _
 |4,ha,ha'=>obtain rfl:=sI ha;obtain rfl:=sI ha';exact .refl _
 |5,ha,ha'=>obtain rfl:=sI ha;obtain rfl:=sI ha';exact .refl _
 |6,ha,ha'=>obtain rfl:=sI ha;obtain rfl:=sI ha';exact .refl _
 |7,ha,ha'=>obtain rfl:=sI ha;obtain rfl:=sI ha';exact .refl _
 |8,ha,ha'=>obtain rfl:=sI ha;obtain rfl:=sI ha';exact .refl _
 |9,ha,ha'=>obtain rfl:=sI ha;obtain rfl:=sI ha';exact .refl _
 |10,ha,ha'=>obtain rfl:=sI ha;obtain rfl:=sI ha';exact .refl _
 |11,ha,ha'=>obtain rfl:=sI ha;obtain rfl:=sI ha';exact .refl _
 |12,ha,ha'=>obtain rfl:=sI ha;obtain rfl:=sI ha';exact .refl _
 |j+13,ha,_=>simp_all
def KD(hF:hp n=Z (.row 7 (ju p n L)))(hat:L[i]?=Z f):Bw hp zl (.ep n 7 i 0) (.el (yv p n i f) 0):=by
 refine .ep n 7 i 0 _ _ _ rfl hF qQ rfl λj a a' ha ha'=>?_;rw[ha]at ha';obtain rfl:=sI ha';exact .refl _
theorem GG(hh:ze p)(h:mB p nf nk nc f e)(hk:p[b]?=Z k)(hpar:k.parent=f.qG)(i:Nat)(y:Int)(hy:(jD p b)[i]?=Z y):∃z:Nat,y=z/\∃c,(jQ f.cells)[z]?=Z c/\((jM p f b)[i]?).map (λ(x:Nat)=>(x:Int))=Z c:=by
 have hpa:wE p b=f.qG:=by grind[wE]
 have hr:=K8 hh hk y (gM hy);rw[hpa]at hr;have hcl:=h.cl;have hlt:y.toNat<O f.cells:=qA
 grind[jQ,jM]
def K6(b:Nat):O (jM p f b)=O (jD p b):=by simp[jM]
end
theorem HM{K:St->Prop}{E:AV->St->Prop}{o:Oper}(n0 n1:Nm)(h0:n0.z6=M\/X.ext n0=M)(h1:n1.z6=M\/X.ext n1=M)(h:qe X o (λs=>K s\/K (s.move n0 n1)) E st):qe X o K E st:=by
 refine qe.post h ?_;rintro s a w hR (hK|hK)
 .grind
 .exact⟨_,hR.move n0 n1 h0 h1,hK⟩
def pA(n:Nm)(L:List (qO×Int×Int)):List (List AV):=L.mapIdx λi q=>[iv q.1.qG,iv q.2.1,iv q.2.2,.hs (.c n i 3) 3 0 (O q.1.qt),jO (jQ q.1.cells),.hs (.c n i 5) 3 0 8,.hs (.c n i 6) 2 0 (O q.1.stack)]
@[simp]theorem Vo{L:List (qO×Int×Int)}{r:Nm->Option Nm}(h:∀i j,r (.c n i j)=Z (.c n i j)):(pA n L).map (λx=>x.map (AV.tr r))=pA n L:=by
 apply yp;intro i;simp only[pA,j3,List.getElem?_mapIdx]
 cases L[i]?<;>simp[h]
def Tt:ju p n L=pA n (L.map λf=>(f,(f.pc:Int),(vv p f:Int))):=by
 apply yp;intro i;simp only[lO,pA,List.getElem?_mapIdx,j3]
 cases L[i]?<;>rfl
structure iq(hp:Nm->Option AO)(n:Nm)(l:List qO):Prop where
 top:∃L:List (qO×Int×Int),hp n=Z (.row 7 (pA n L))/\O l<=O L/\∀(i:Nat)f,l[i]?=Z f->∃g a b,L[i]?=Z (g,a,b)/\g.look=f.look
 qt:∀(i:Nat)f,l[i]?=Z f->hp (.c n i 3)=Z (.row 3 (zD f.qt))
 names:∀(i:Nat)f,l[i]?=Z f->hp (.c n i 5)=Z (.row 3 (zD f.names))
theorem iq.of(h:iq hp n l)(e:l.map qO.look=l'.map qO.look):iq hp n l':=by
 have he:∀(i:Nat)f,l'[i]?=Z f->∃g,l[i]?=Z g/\g.look=f.look:=by
  intro i f hf;have h1:(l.map qO.look)[i]?=Z f.look:=by rw[e,j3,hf];rfl
  rw[j3]at h1;exact zq.1 h1
 obtain⟨L,r1,r2,r3⟩:=h.top;have hl:O l=O l':=by simpa using congrArg List.length e
 refine⟨⟨L,r1,qA,λi f hf=>?_⟩,λi f hf=>?_,λi f hf=>?_⟩
 .obtain⟨g,hg,e1⟩:=he i f hf;rw[<- e1];exact r3 i g hg
 .obtain⟨g,hg,e1⟩:=he i f hf;simp only[qO.look,s6]at e1;rw[<- e1.2.1];exact h.qt i g hg
 .obtain⟨g,hg,e1⟩:=he i f hf;simp only[qO.look,s6]at e1;rw[<- e1.2.2.2];exact h.names i g hg
def gT.look(h:gT hp p n l)(e:l.map qO.look=l'.map qO.look):iq hp n l':=by
 obtain⟨js,hj⟩:=h.top;rw[Tt]at hj;refine iq.of (l:=l) ⟨⟨_,hj,qB,λi f hf=>⟨f,f.pc,vv p f,?_,rfl⟩⟩,h.qt,h.names⟩ e;rw[j3,ua (gS hf).1,hf]
 rfl
def iq.tick{hp':Nm->Option AO}{fs:List qO}{f g:qO}{x:Int}(h:gT hp p n (fs++[f]))(hL:∃js,L=fs++f::js)(hg:f.look=g.look)(ht:hp' n=Z (.row 7 (jn (ju p n L) (O fs) 1 [iv x])))
  (h3:∀(i:Nat)f',hp (.c n i 3)=Z (.row 3 (zD f'))->hp' (.c n i 3)=Z (.row 3 (zD f')):=by intro i f' e;simp[e])
  (h5:∀(i:Nat)f',hp (.c n i 5)=Z (.row 3 (zD f'))->hp' (.c n i 5)=Z (.row 3 (zD f')):=by intro i f' e;simp[e]):iq hp' n (fs++[g]):=by
 obtain⟨js,rfl⟩:=hL
 have e:jn (ju p n (fs++f::js)) (O fs) 1 [iv x]=pA n (((fs++f::js).map λf=>(f,(f.pc:Int),(vv p f:Int))).set (O fs) (f,x,vv p f)):=by
  apply yp;intro i;simp only[jn,it,lO,pA,List.getElem?_mapIdx,fL,j3,rA];by_cases e:O fs=i
  .subst e;simp[yv]
  .rw [if_neg e]
   cases (fs++f::js)[i]?<;>simp[e,yv]
 rw[e]at ht;refine iq.of (l:=fs++[f]) ⟨⟨_,ht,qB,λi f' hf=>?_⟩,λi f' hf=>h3 i _ (h.qt i f' hf),λi f' hf=>h5 i _ (h.names i f' hf)⟩ (by simp[hg])
 have hf':(fs++f::js)[i]?=Z f':=by
  have:=(gS hf).1;rw[List.append_cons,ua this];exact hf
 by_cases e:i=O fs
 .subst e;obtain rfl:f=f':=vP;exact⟨f,x,vv p f,qB,rfl⟩
 .exact⟨f',f'.pc,vv p f',by rw[List.getElem?_set_ne (Ne.symm e),j3,hf'];rfl,rfl⟩
structure we(hp:Nm->Option AO)(p:qC)(m:qR)(dp:Nat):Prop where
 top:∃b c d:Nat,hp Xn=Z (.row 13 [[kS (jo p (O p)),.hs (.c Xn 0 1) 1 0 b,.hs (.c Xn 0 2) 3 0 (O m.cells),.hs (.c Xn 0 3) 3 0 8,.hs (.c Xn 0 4) 2 0 c,.hs (.c Xn 0 5) 1 0 d,.hs (.c Xn 0 6) 7 0 (O m.qN),iv m.made,iv dp,.hs (.c Xn 0 9) 1 0 (O m.out),.hs (.c Xn 0 10) 2 0 (O m.trace),iv m.en,iv m.left]])
 cells:hp (.c Xn 0 2)=Z (.row 3 (zD m.cells))
 zM:hp (.c Xn 0 3)=Z (.row 3 (zD m.globals))
 out:hp (.c Xn 0 9)=Z (.row 1 (qh m.out))
 zt:hp (.c Xn 0 10)=Z (.row 2 (vR m.trace))
 fr:iq hp (.c Xn 0 6) m.qN
section
variable{hp hp':Nm->Option AO}{p:qC}{n:Nm}{m:qR}{dp:Nat}{fs L:List qO}{f g:qO}{o:Int×Int}
def qS.Kw(h:qS hp p (.c Xn 0 6) m dp):we hp p m dp:=⟨⟨_,_,_,h.top⟩,h.cells,h.zM,h.out,h.zt,h.fr.look rfl⟩
def io.done{fr:List qO}(h:qS hp p (.c Xn 0 6) {m with qN:=fr} dp)(h1:(m.en=0->fr=m.qN)/\fr.map qO.look=m.qN.map qO.look):qS hp p (.c Xn 0 6) m dp\/(m.en≠0/\we hp p m dp):=by
 by_cases e:m.en=0
 .left;have:=h1.1 e;subst this;exact h
 .have h3:=h.Kw;have hl:O fr=O m.qN:=by simpa using congrArg List.length h1.2
  obtain⟨b,c,d,ht⟩:=h3.top;exact .inr ⟨e,⟨b,c,d,by rw[ht];simp[hl]⟩,h3.cells,h3.zM,h3.out,h3.zt,h.fr.look h1.2⟩
theorem we.qy(h:we hp p m dp)(hF:∀k,Nm.under Xn k=B->F k=Z k)(hh:∀k,Nm.under Xn k=B->hp' k=(hp k).map (AO.tr F)):we hp' p m dp:=by
 have hc:∀j,Nm.under Xn (.c Xn 0 j)=B:=λj=>qB;have hq:∀i j,Nm.under Xn (.c (.c Xn 0 6) i j)=B:=λi j=>qB;obtain⟨b,c,d,ht⟩:=h.top;obtain⟨L,r1,r2,r3⟩:=h.fr.top;refine⟨⟨b,c,d,?_⟩,?_,?_,?_,?_,⟨L,?_,r2,r3⟩,λi f hf=>?_,λi f hf=>?_⟩
 .simp_all
 .rw [hh _ (hc 2),h.cells];simp
 .rw [hh _ (hc 3),h.zM];simp
 .rw [hh _ (hc 9),h.out];simp
 .rw [hh _ (hc 10),h.zt];simp
 .rw [hh _ (hc 6),r1];simp[Vo λi j=>hF _ (hq i j)]
 .rw [hh _ (hq i 3),h.fr.qt i f hf];simp
 .rw [hh _ (hq i 5),h.fr.names i f hf];simp
theorem we.ra(h:we hp p m dp)(hh:∀k,Nm.under Xn k=B->hp' k=hp k):we hp' p m dp:=by
 refine h.qy (F:=Z) (λ_ _=>rfl) λq hq=>?_;rw[hh q hq]
 cases hp q<;>grind[AO.uO]
def we.fin(h:we hp p m dp){D:Nm->Bool}(hD:∀k,D k=B->k.zj=M)(hW:∀k,Nm.under Xn k=B->D k=B):we (vW D [] hp) p m dp:=
 h.qy (F:=zH D []) (λk hk=>qQ) (λk hk=>qQ)
theorem qS.OM(h:qS hp p (.c Xn 0 6) m dp)(hF:∀k,Nm.under Xn k=B->F k=Z k)(hh:∀k,Nm.under Xn k=B->hp' k=(hp k).map (AO.tr F)):qS hp' p (.c Xn 0 6) m dp:=by
 have hc:∀j,Nm.under Xn (.c Xn 0 j)=B:=λj=>qB;have hq:∀i j,Nm.under Xn (.c (.c Xn 0 6) i j)=B:=λi j=>qB;refine⟨?_,?_,?_,?_,?_,?_,?_,?_,h.fr.top.imp λjs hj=>?_,λi g hg=>?_,λi g hg=>?_,λi g hg=>(h.fr.stack i g hg).imp λj hj=>?_⟩
 .rw [hh _ qB,h.top]
  simp_all[zu]
 .rw [hh _ (hc 1),h.vI];simp
 .rw [hh _ (hc 2),h.cells];simp
 .rw [hh _ (hc 3),h.zM];simp
 .rw [hh _ (hc 4),h.qI];simp
 .rw [hh _ (hc 5),h.jG];simp
 .rw [hh _ (hc 9),h.out];simp
 .rw [hh _ (hc 10),h.zt];simp
 .simp_all
 .rw [hh _ (hq i 3),h.fr.qt i g hg];simp
 .rw [hh _ (hq i 5),h.fr.names i g hg];simp
 simp_all
def qS.oe(h:qS hp p (.c Xn 0 6) m dp):qS (vW (Nm.under Xn) [] hp) p (.c Xn 0 6) m dp:=
 h.OM (F:=zH (Nm.under Xn) []) (λk hk=>qQ) (λk hk=>qQ)
theorem Vf(ho:(zS p f.qG)[f.pc]?=Z o)(h:o.1≠0):vv p f.next=vv p f:=by
 grind[vv,qO.next,E5]
theorem Vg(ho:(zS p f.qG)[f.pc]?=Z o)(h:o.1=0):vv p f.next=vv p f+1:=by
 grind[vv,qO.next,E5]
theorem Tp(hat:L[O fs]?=Z f)(ho:(zS p f.qG)[f.pc]?=Z o)(h:o.1≠0):jn (ju p n L) (O fs) 1 [iv ((f.pc:Int)+1)]=ju p n (L.set (O fs) f.next):=by
 grind[L9,Vf,yv,qO.next]
theorem Tr(hat:L[O fs]?=Z f)(ho:(zS p f.qG)[f.pc]?=Z o)(h:o.1=0):jn (jn (ju p n L) (O fs) 1 [iv ((f.pc:Int)+1)]) (O fs) 2 [iv (vv p f+1)]=ju p n (L.set (O fs) f.next):=by
 have hl:=(gS hat).1;apply yp;intro j;simp only[jn,it,lO,fL];by_cases e:O fs=j
 .subst e;rw[hat];have:=Vg ho h
  simp_all[yv,qO.next]
 .simp [e]
end
def fW(p:qC)(b:Nat):List (List AV):=[mZ]::(List.range (b-1)).map λb=>[jO (jD p (b+1))]
structure Et(hp:Nm->Option AO)(p:qC)(n b:Nat):Prop where
 top:hp Xn=Z (.row 13 [[kS (jo p (O p)),.hs (.c Xn 0 1) 1 0 b,.hs (.c Xn 0 2) 3 0 0,.hs (.c Xn 0 3) 3 0 8,.hs (.c Xn 0 4) 2 0 0,.hs (.c Xn 0 5) 1 0 0,.hs (.c Xn 0 6) 7 0 0,iv 0,iv 0,.hs (.c Xn 0 9) 1 0 0,.hs (.c Xn 0 10) 2 0 0,iv 0,iv n]])
 vI:hp (.c Xn 0 1)=Z (.row 1 (fW p b))
 cells:hp (.c Xn 0 2)=Z (.row 3 [])
 zM:hp (.c Xn 0 3)=Z (.row 3 (zD jZ))
 qI:hp (.c Xn 0 4)=Z (.row 2 [])
 jG:hp (.c Xn 0 5)=Z (.row 1 [])
 fr:hp (.c Xn 0 6)=Z (.row 7 [])
 out:hp (.c Xn 0 9)=Z (.row 1 [])
 zt:hp (.c Xn 0 10)=Z (.row 2 [])
section
variable{hp hp':Nm->Option AO}{p:qC}{m:qR}{n b dp:Nat}{F:Nm->Option Nm}
@[simp]theorem capTo_tr:(fW p b).map (λr=>r.map (AV.tr F))=fW p b:=by
 have h:AV.tr F .bot=.bot:=rfl;simp[fW,h]
theorem Ry(h:1<=b):O (fW p b)=b:=by grind[fW]
def Rx(h:1<=b):fW p b++[[jO (jD p b)]]=fW p (b+1):=by
 obtain⟨c,rfl⟩:∃c,b=c+1:=⟨b - 1,qA⟩;simp[fW,rC]
@[simp]theorem capTo_one:fW p 1=[[mZ]]:=rfl
theorem Et.own(h:Et hp p n (O p))(h0:0<O p):qS hp p (.c Xn 0 6) (jY n) 0:=by
 refine⟨?_,?_,?_,?_,?_,?_,?_,?_,⟨[],?_⟩,λi f hf=>?_,λi f hf=>?_,λi f hf=>?_⟩
 .grind[top,zu,jY]
 .rw [h.vI];rfl
 .rw [h.cells];simp[jY]
 .rw [h.zM];rfl
 .rw [h.qI];simp[jY]
 .rw [h.jG];simp[jY]
 .rw [h.out];rfl
 .rw [h.zt];rfl
 .rw [h.fr];simp[jY]
 .grind[jY]
 .grind[jY]
 grind[jY]
theorem Zy(hP:zi p)(hn:n<=150):∃N,(∀i,i<N->¬(zV p i (zX p n)).ended)/\(zV p N (zX p n)).ended/\zV p N (zX p n)=yj p n/\cI p N (zX p n) 0=(yj p n).deep:=by
 obtain⟨N,h1,h2,h3⟩:=Bg (n:=n) hP hn;have hI:=Lx (n:=n) (t:=8) hP
 have hs:zX p n={jY n with cells:=(zX p n).cells,made:=1,deep:=1,qN:=(zX p n).qN}/\O (zX p n).qN=1:=by
  unfold zX yG
  split
  .simp_all
  .exact⟨rfl,rfl⟩
 have hd:(zX p n).deep=max 0 (O (zX p n).qN):=by
  grind
 cases N with
 |zero=>
  grind[zV,qR.ended,jY]
 |succ N=>
  grind[Wf,da]
end
end Go.Hm
end
