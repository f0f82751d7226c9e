import Derived.Test.YtjgpejikjhojcaaGreatDoorR17
import Derived.ScopeJumps
set_option linter.unusedSimpArgs false
set_option linter.unusedVariables false
set_option maxRecDepth 100000
set_option maxHeartbeats 4000000

section
namespace Go.Hm
open Go Go.RowKit
section
variable {p:qC} {m:qR} {fs:List qO} {f:qO} {o:Int×Int}
structure rA (m:qR) (f:qO) (o:Int×Int):Prop where
 arg:0<=o.2/\o.2<=1000
 lt:uW f o<(aM m f o).length
 cell:5<=o.1->o.1<=7->f.cells[o.2.toNat]?=some (uW f o)
theorem rA.of (hM:yV p m fs f) (hO:pz p f.qG o) (hc:2<=o.1/\o.1<=13):rA m f o:=by
 have h1:=hM.top.fl;have h2:=hM.top.cl;have h3:=hM.top.nm.1;have h4:=hM.zJ.1;have h5:=hO.arg;have h6:=hO.JI hc.1;have h7:=hO.cell;have h8:=hO.name
 have key:5<=o.1->o.1<=7->f.cells[o.2.toNat]?=some (uW f o):=by
  grind[uW]
 refine⟨h5,?_,key⟩;unfold aM;by_cases c4:o.1<=4
 .grind[uW]
 by_cases c7:o.1<=7
 .have:=hM.top.cr _ (gM (key qA c7))
  grind
 grind[uW]
variable {hp:Nm->Option AO} {dp k:Nat} {N:Nm}
def qO.look (f:qO):Nat×List qr×List Nat×List qr:=(f.qG,f.qq,f.cells,f.names)
def gP (hp:Nm->Option AO) (p:qC) (n:Nm) (m:qR) (dp:Nat):Prop:=∃ fr,((m.en=0->fr=m.qN)/\fr.map qO.look=m.qN.map qO.look)/\qS hp p n { m with qN:=fr } dp
theorem qS.cm {n:Nm} (h:qS hp p n m dp):gP hp p n m dp:=⟨m.qN,⟨λ_=>rfl,rfl⟩,h⟩
def D9:Nm->Bool:=λk=>zd k||Nm.under (.u 9 0 0) k
theorem OG {q:Nm} (h:D9 q=true):q.zg=false:=by
 rcases tk _ _ ▸ h with h|h
 .exact vK h
 .exact vN rfl h
theorem qS.wN (h:qS hp p (.u 2 0 0) (m.top fs f) dp) (hk:f.stack.length=k+1) (h1:Nm.under N (.u 2 0 0)=false) (h2:Nm.under N (.c (.u 2 0 0) fs.length 6)=false):∃ (rows rows':List (List AV)) (a0 a1 a2 a3 a4 a5:AV) (vs:List qW),hp (.u 2 0 0)=some (.row 7 rows)/\(z6 D9 (jJ N (.u 9 0 0) hp)) (.u 2 0 0)=some (.row 7 rows')/\rows'[fs.length]?=some [a0,a1,a2,a3,a4,a5,.hs (.c (.u 2 0 0) fs.length 6) 2 0 (k+1)]/\(z6 D9 (jJ N (.u 9 0 0) hp)) (.c (.u 2 0 0) fs.length 6)=some (.row 2 (zh vs))/\vs[k]?=some f.zB /\
  (AO.row 7 (j3 rows fs.length 6 [.hs (.c (.u 2 0 0) fs.length 6) 2 0 k])).tr (mv N (.u 9 0 0))=.row 7 (j3 rows' fs.length 6 [.hs (.c (.u 2 0 0) fs.length 6) 2 0 k]):=by
 obtain⟨L,j,hL,hat,hlt,hF,h3,h5,h6⟩:=h.uY rfl;have hm:mv N (.u 9 0 0) (.c (.u 2 0 0) fs.length 6)=some (.c (.u 2 0 0) fs.length 6):=qP;have he:∀ q,(AV.hs (.c (.u 2 0 0) fs.length 6) 2 0 q).tr (mv N (.u 9 0 0))=.hs (.c (.u 2 0 0) fs.length 6) 2 0 q:=λq=>qP;refine⟨ji p (.u 2 0 0) L,(ji p (.u 2 0 0) L).map λr=>r.map (AV.tr (mv N (.u 9 0 0))),(iv f.qG).tr (mv N (.u 9 0 0)),(iv f.pc).tr (mv N (.u 9 0 0)),(iv (v7 p f)).tr (mv N (.u 9 0 0)),(AV.hs (.c (.u 2 0 0) fs.length 3) 3 0 f.qq.length).tr (mv N (.u 9 0 0)),(jG (jK f.cells)).tr (mv N (.u 9 0 0)),(AV.hs (.c (.u 2 0 0) fs.length 5) 3 0 8).tr (mv N (.u 9 0 0)),f.stack++j,hF,?_,?_,?_,gD hk,?_⟩
 .simp_all[D9,jJ]
 .simp_all[yd]
 .simp_all[D9,jJ]
 simp_all[A1]
theorem qS.take (h:qS hp p (.u 2 0 0) (m.top fs f) dp) (hk:f.stack.length=k+1):∃ (rows:List (List AV)) (a0 a1 a2 a3 a4 a5:AV) (vs:List qW),hp (.u 2 0 0)=some (.row 7 rows)/\(z6 zd hp) (.u 2 0 0)=some (.row 7 rows)/\rows[fs.length]?=some [a0,a1,a2,a3,a4,a5,.hs (.c (.u 2 0 0) fs.length 6) 2 0 (k+1)]/\(z6 zd hp) (.c (.u 2 0 0) fs.length 6)=some (.row 2 (zh vs))/\vs[k]?=some f.zB:=by
 obtain⟨L,j,hL,hat,hlt,hF,h3,h5,h6⟩:=h.uY rfl;refine⟨ji p (.u 2 0 0) L,iv f.qG,iv f.pc,iv (v7 p f),.hs (.c (.u 2 0 0) fs.length 3) 3 0 f.qq.length,jG (jK f.cells),.hs (.c (.u 2 0 0) fs.length 5) 3 0 8,f.stack++j,hF,dT,?_,vt,gD hk⟩
 simp_all[yd]
theorem qS.taken {H':Nm->Option AO} {r:Nm} {y v:AV} {rows:List (List AV)} (h:qS hp p (.u 2 0 0) (m.top fs f) dp) (hr:hp (.u 2 0 0)=some (.row 7 rows)) (hk:f.stack.length=k+1) (hw:rC zd v (.u 2 0 0) (.row 7 (j3 rows fs.length 6 [.hs (.c (.u 2 0 0) fs.length 6) 2 0 k])) (z6 zd hp) r y H'):qS H' p (.u 2 0 0) (m.top fs f.pop) dp:=by
 refine (h.cn hr hk).qv (f:=zL zd []) (.inr rfl) (λq hq=>qP) λq hq=>?_;rw [hw.2 q hq]
 simp_all
theorem HL (h1:hp Xn≠none) (h2:hp (.u 2 0 0)≠none) (k i j:Nat):zd (.u k i j)=false\/hp (.u k i j)≠none:=by
 grind[py,Nm.under]
theorem HM {q:Nm} (h:Nm.under (.u 9 0 0) q=true):zd q=false:=by
 induction q<;>simp_all
theorem qS.pC {hp':Nm->Option AO} {n:Nm} (h:qS hp p n m dp) (hn:Nm.under Xn n=true\/n=.u 2 0 0) (hh:∀ q,zd q=true->hp' q=hp q):qS hp' p n m dp:=by
 refine h.qv hn (f:=some) (λ_ _=>rfl) λq hq=>?_;rw [hh q hq]
 cases hp q<;>grind[AO.vv]
theorem qS.cut {hp':Nm->Option AO} {n:Nm} (h:qS hp p n m dp) (hm:m.qN=fs++[f])
  (h0:hp' Xn=some (.row 13 [zp p n { m with qN:=fs } dp]))
  (hh:∀ q,q≠Xn->zd q=true->hp' q=hp q) (hn:n=.u 2 0 0):qS hp' p n { m with qN:=fs } dp:=by
 subst hn;have hX:∀ j,hp' (.c Xn 0 j)=hp (.c Xn 0 j):=λj=>hh _ qB qB;have hF:∀ i j,hp' (.c (.u 2 0 0) i j)=hp (.c (.u 2 0 0) i j):=λi j=>hh _ qB qB
 have hf:∀ (i:Nat) g,fs[i]?=some g->m.qN[i]?=some g:=λi g hg=>by
  grind
 refine⟨h0,by grind[yn],by grind[cells],by grind[zJ],by grind[qH],by grind[jA],by grind[out],by grind[zo],?_,λi g hg=>?_,λi g hg=>?_,λi g hg=>?_⟩
 .obtain⟨js,hj⟩:=h.fr.top;refine⟨f::js,?_⟩
  simp_all
 .rw [hF];exact h.fr.qq i g (hf i g hg)
 .rw [hF];exact h.fr.names i g (hf i g hg)
 .exact (h.fr.stack i g (hf i g hg)).imp λj hj=>qP
theorem qS.Bq {hp':Nm->Option AO} {e:Int} {n:Nm} (h:qS hp p n m dp) (hn:n=.u 2 0 0) (hh:∀ q,zd q=true->hp' q=if q=Xn then some (.row 13 [zp p n { m with en:=e } dp]) else hp q):qS hp' p n { m with en:=e } dp:=by
 subst hn;have h2:qS (λq=>if q=Xn then some (.row 13 [zp p (.u 2 0 0) { m with en:=e } dp]) else hp q) p (.u 2 0 0) { m with en:=e } dp:=qS.re h (h0:=qB) (h1:=by simp [h.yn]) (h2:=by simp [h.cells]) (h3:=by simp [h.zJ]) (h4:=by simp [h.qH]) (h5:=by simp [h.jA]) (h6:=by simp [h.out]) (h7:=by simp [h.zo]) (h8:=h.fr.re);exact h2.pC (.inr rfl) hh
structure HY (N:Nm):Prop where
 z7:N.z7=false
 D:∀ k,Nm.under N k=true->zd k=true
 u9:Nm.under (.u 9 0 0) N=false
 u2:Nm.under N (.u 2 0 0)=false
 x:Nm.under N Xn=false
 st:∀ i,Nm.under N (.c (.u 2 0 0) i 6)=false
 s:∀ d,Nm.under (.s d) N=false/\N≠.s d
 b:∃ b,Nm.under (.u 1 0 0) N=b/\Nm.under (.u 2 0 0) N=!b
theorem ZN {i:Nat}:HY (yL (.u 2 0 0) i o):=by
 unfold yL
 repeat' split
 all_goals refine⟨rfl,λk hk=>?_,qB,qB,qB,qB,qB,qB⟩
 .have:=Nm.gH (a:=.u 2 0 0) qB hk;simp [this]
 .have:=Nm.gH (a:=.u 1 0 0) qB hk;simp [this]
 .have:=Nm.gH (a:=.u 1 0 0) qB hk;simp [this]
 .have:=Nm.gH (a:=.u 2 0 0) qB hk;simp [this]
end
def St.ki (st:St) (t:Nat) (N:Nm) (x:AV):St:={ tm:=λs=>if s=t then x else (st.tm s).tr (kl N),hp:=jw N st.hp,n:=st.n,gl:=st.gl }
section
variable {X:Ctx} {st:St} {a:Go.Act} {w:World} {K:St->Prop} {E:AV->St->Prop} {o:Oper} {t s:Nat} {N m:Nm} {x:AV}
@[simp] theorem stl_tm:(st.ki t N x).tm s=if s=t then x else (st.tm s).tr (kl N):=rfl
@[simp] theorem stl_hp:(st.ki t N x).hp m=if Nm.under N m then none else (st.hp m).map (AO.tr (kl N)):=rfl
@[simp] theorem stl_gl:(st.ki t N x).gl=st.gl:=rfl
theorem Rw.settle (h:Rw X st a w) (hb:Bw st.hp (λn=>decide (n≠N)) (st.tm t) x):Rw X (st.ki t N x) a w:=by
 obtain⟨C,g,h1,h2,h3,h4,h5,hg⟩:=h
 have hCN:∀ b,g.φ N=some b->st.hp N≠none->¬ C b/\(X.w0.heap.size<=b\/X.own b)/\b<w.heap.size:=by
  intro b hb hn;obtain⟨o,ho⟩:=cH.1 hn;exact hg.inv.qG N o b ho hb
 let C':Nat->Prop:=λb=>C b\/(g.φ N=some b/\st.hp N≠none)
 have hS:=hg.ND (C':=C') (g':=g.more C') (w':=w) (f:=kl N) (hp':=jw N st.hp) rfl (λb hb=>.inl hb) (by
  rintro b (hb|⟨hb,hn⟩)
  .exact hg.inv.uU b hb
  simp_all) (by
  intro n n' e;simp only [kl] at e
  split at e
  .cases e
  .obtain rfl:=sI e;exact⟨rfl,rfl⟩) rfl rfl rfl (qa _) (λ_ _=>rfl) (λb hb ho=>rfl) (by
  intro n' o' e;left;simp only [jw] at e
  split at e
  .cases e
  .rename_i hu;obtain⟨o,ho,rfl⟩:=zu.1 e;refine⟨n',o,qP,ho,rfl,λb hb=>⟨rfl,?_⟩⟩;rintro (hc|⟨hc,hn⟩)
   .exact (hg.inv.qG n' o b ho hb).1 hc
   .obtain⟨o2,ho2⟩:=cH.1 hn;have:=hg.inv.inj n' N o o2 b ho ho2 hb hc
    simp_all)
 refine⟨C',g.more C',λb hb=>.inl (h1 b hb),?_,h3,h4,h5,?_⟩
 .grind
 .refine⟨hS.inv,hS.defers,hS.size,λs=>?_,hS.zJ⟩;by_cases e:s=t
  .subst e;simp only [St.ki,if_true];refine RV.bw hg.inv (λb hb=>.inl hb) (λn o b hD ho hk=>?_) hb (hg.dh s)
   grind
  .have:=hS.dh s
   simp_all[St.nm]
theorem UX (t:Nat) (N:Nm) (x:AV) (hb:Bw st.hp (λn=>decide (n≠N)) (st.tm t) x) (h:qn X o K E (st.ki t N x)):qn X o K E st:=λa w Q hR hE=>h a w Q (hR.settle hb) hE
theorem LH (t:Nat) (N:Nm) (h:qn X o (λs=>∃ x,Bw s.hp (λn=>decide (n≠N)) (s.tm t) x/\K (s.ki t N x)) E st):qn X o K E st:=by
 refine qn.post h ?_;rintro s a w hR ⟨x,hb,hK⟩;exact⟨_,hR.settle hb,hK⟩
theorem D3 {hp:Nm->Option AO} {N:Nm} {z len:Nat} {rows:List (List AV)} (hn:hp N=some (.row z rows)) (hl:len=rows.length) (hu:∀ r∈rows,r.length=z):Bw hp (λn=>decide (n≠N)) (.hs N z 0 len) (.sl z rows):=by
 refine .hs N z 0 len rows rows qB hn qA hl.symm hu λi r r' h1 h2 j a a' h3 h4=>?_;rw [fF,h2] at h1;obtain rfl:=sI h1;rw [h3] at h4;obtain rfl:=sI h4;exact .refl _
theorem FY (t:Nat) (N:Nm) (z len:Nat) (rows:List (List AV)) (ht:st.tm t=.hs N z 0 len) (hn:st.hp N=some (.row z rows)) (hl:len=rows.length) (hu:∀ r∈rows,r.length=z) (h:qn X o K E (st.ki t N (.sl z rows))):qn X o K E st :=
 UX t N _ (by grind[D3]) h
theorem Sf {a:AV} {d:Nat}:(a.tr (kl (.s d))).tr (kl (.s d))=a.tr (kl (.s d)):=by
 rw [AV.kO]
 congr 1
 grind[kl]
theorem Gw {d z n:Nat} {rows:List (List AV)} (hcall:∀ K':St->Prop,K' (((st.kill (.s d)).zT (.s d) (.row z rows)).put (some d) (.hs (.s d) z 0 n))->qn X o K' E st) (hl:n=rows.length) (hu:∀ r∈rows,r.length=z) (h:K ((st.kill (.s d)).put (some d) (.sl z rows))):qn X o K E st:=by
 refine LH d (.s d) (hcall _ ⟨.sl z rows,?_,?_⟩)
 .grind[D3,St.put,St.zT]
 .have:((((st.kill (.s d)).zT (.s d) (.row z rows)).put (some d) (.hs (.s d) z 0 n)).ki d (.s d) (.sl z rows))=(st.kill (.s d)).put (some d) (.sl z rows):=by
   simp only [St.ki,St.put,St.zT,St.kill,St.nm]
   congr 1
   .grind[Sf]
   .funext m
    simp only [jw];by_cases e:Nm.under (.s d) m=true
    .simp [e]
    .have hne:¬ m=.s d:=λe'=>e qP;simp only [e,hne,if_false]
     cases st.hp m with
     | none=>rfl
     | some o =>
      have:(λm=>(kl (.s d) m).bind (kl (.s d)))=kl (.s d):=by
       grind[kl]
      grind[AO.kO]
  simp_all
end
theorem S7 {X:Ctx} {c:Code} {Q:Ex->St->Prop} {G:Prop} (I:St->Prop) (k:∀ st,I st->jD X c Q st) (h:jL (∀ st,I st->jD X c Q st)->G):G:=h ⟨k⟩
theorem iW {X:Ctx} {st:St} {c:Code} {Q:Ex->St->Prop} (n0 n1:Nm) (h0:n0.z7=false\/X.ext n0=false) (h1:n1.z7=false\/X.ext n1=false) (h:jD X c Q (st.move n0 n1)):jD X c Q st:=λa w hR=>h a w (hR.move n0 n1 h0 h1)
def pL (l:Nat) (I:St->Prop) (Q:Ex->St->Prop):Ex->St->Prop
 | .goto l',st=>l'=l/\I st
 | .normal,st=>Q .normal st
 | .exit id,st=>Q (.exit id) st
 | .ret,st=>Q .ret st
 | .a6 x,st=>Q (.a6 x) st
section
variable {X:Ctx} {st:St} {Q:Ex->St->Prop} {l:Nat} {I:St->Prop} {id:Nat} {x:AV}
theorem S3 (h:Q .normal st):pL l I Q .normal st:=h
theorem S4 (h:Q .ret st):pL l I Q .ret st:=h
theorem Jy (h:I st):pL l I Q (.goto l) st:=⟨rfl,h⟩
theorem qBR {c rest:Code} (l:Nat) (hf:findLabel c l=some rest) (I:Nat->St->Prop) (h0:jD X c (pL l (λs=>∃ n,I n s) Q) st) (hpass:∀ n s,s.n=X.n->s.gl=X.gl->I n s->jD X rest (pL l (λs'=>∃ m,m<n/\I m s') Q) s):jD X (.scope c) Q st:=by
 intro a w hR
 let J:Nat->Go.Act->World->Prop:=λn a w=>∃ st,Rw X st a w/\I n st
 let μ:Go.Act->World->Nat:=λa w=>open Classical in if h:∃ n,J n a w then (CJ h).choose else 0
 have hμ:∀ n a w,J n a w->μ a w<=n:=by
  intro n a w hJ;have hex:∃ n,J n a w:=⟨n,hJ⟩;simp only [μ,dif_pos hex];exact (CJ hex).choose_spec.2 n hJ
 refine wp_scope_jumps l (λa w=>∃ n,J n a w) μ hf (wp_mono (h0 a w hR) λe a' w' he=>?_) λa w hJ=>?_
 .cases e with
  | goto l' =>
   obtain⟨st',hR',rfl,n,hI⟩:=he;constructor<;>grind
  | normal=>exact he
  | exit id=>exact he
  | ret=>exact he
  | panic ch=>exact he
  | outgrown=>exact he
 .have hspec:J (μ a w) a w:=by
   grind
  obtain⟨st1,hR1,hI1⟩:=hspec;have hR1':=hR1;obtain⟨C,g,x1,x2,x3,x4,x5,x6⟩:=hR1;refine wp_mono (hpass _ st1 x3 x4 hI1 a w hR1') λe a' w' he=>?_
  cases e with
  | goto l' =>
   obtain⟨st',hR',rfl,m,hlt,hI⟩:=he;exact⟨rfl,⟨m,st',hR',hI⟩,Nat.lt_of_le_of_lt (hμ m a' w' ⟨st',hR',hI⟩) hlt⟩
  | normal=>exact he
  | exit id=>exact he
  | ret=>exact he
  | panic ch=>exact he
  | outgrown=>exact he
end
section
variable {D:Nm->Bool} {a b c:Nat} {l:List AV}
theorem JP (hD:∀ k,D k=true->k.zg=false):(l.map (AV.tr (kl (.s a)))).map (AV.tr (zL D []))=l.map (AV.tr (zL D [])):=by
 simp_all[JO]
theorem Qo (hD:∀ k,D k=true->k.zg=false):(l.map (AV.tr (kl (.s a))∘AV.tr (kl (.s b)))).map (AV.tr (zL D []))=l.map (AV.tr (zL D [])):=by
 rw [<- gU,JP hD,JP hD]
end
abbrev yo (i:Nat):Nat:=32+29 * i
def HZ (D:Nm->Bool) (v:AV) (H:Nm->Option AO):Nm->AV->(Nm->Option AO)->Prop:=λ_ y H'=>y=v/\∀ k,D k=true->H' k=(H k).map (AO.tr (zL D []))
section
variable {hp hp' H H':Nm->Option AO} {p:qC} {m m0 m':qR} {fs:List qO} {f g:qO} {R:List AV} {k:Nat} {r:Nm} {y v:AV} {o:AO}
variable {P:Program} {C:Nat->Prop} {w:World} {g0:Gh} {gl:Nat->Option (List AV)} {n:Nat} {st:St} {K:St->Prop} {E:AV->St->Prop} {d c:Nat} {ty:TypeId} {pos:String} {aft:Array Edge} {gd:Option (Nat×Bool)} {args:Array Operand} {Ts:Array TypeId} {az:List AV} {Rr:Nm->AV->(Nm->Option AO)->Prop}
theorem jC (h0:qD H p m0) (hO:qD st.hp p m) (hl:m0.cells.length<=m.cells.length) (hd:d<n:=by first|(simp;done)|fail) (ha:args.toList.map (ev st)=az:=by simp [fx];first|done|rfl)
  (hF:qD (z6 DM st.hp) p m->qZ P gl c DM az (z6 DM st.hp) Rr zG) (h:∀ y H',Rr (.s d) y H'->K ((st.call d DM (z6 DM st.hp) H').put (some d) y)) :
  qn (yR P C w g0 H n gl) ⟨some d,.call ⟨.value (.func c),args,Ts⟩,ty,pos,aft,gd⟩ K E st:=po DM (λ_=>zC) (λk i j he=>h0.ext hO hl k i j he) hd ha (hF hO.sub) h
theorem qD.post (h:qD hp p m) (hh:∀ q,DM q=true->hp' q=(hp q).map (AO.tr (zL DM []))):qD hp' p m :=
 h.qv (f:=zL DM []) (λq hq=>qP) hh
theorem qD.Cg (h:qD hp p m) (hw:HZ DM v (z6 DM hp) r y H'):qD H' p m:=by
 refine h.post λq hq=>?_;rw [hw.2 q hq]
 simp_all
theorem qD.qm (h:qD (zP Yn o hp) p m) (hw:rC DM v Yn o (z6 DM hp) r y H'):qD H' p m:=by
 refine h.post λq hq=>?_;rw [hw.2 q hq]
 simp_all
theorem qD.uY (h:qD hp p m) (hm:m.qN=fs++[f]):∃ (J:Nat->List AV) (j:List qW),(∀ i,(J i).length=29)/\hp Yn=some (.row 4415 [qg p m (fs.length+1) (yc (fs++[f]) J)])/\hp (.c Yn 0 (yo fs.length+2))=some (.row 3 (zA f.qq))/\hp (.c Yn 0 (yo fs.length+3))=some (.row 1 (za f.cells))/\hp (.c Yn 0 (yo fs.length+28))=some (.row 2 (zh (f.stack++j))):=by
 obtain⟨J,hJ,e⟩:=h.top;have hf:m.qN[fs.length]?=some f:=cR;obtain⟨j,hs⟩:=h.stack _ f hf;refine⟨J,j,hJ,?_,h.qq _ f hf,h.cls _ f hf,hs⟩
 simp_all
structure mB (p:qC) (m:qR) (i:Nat) (f:qO) (R:List AV):Prop where
 len:R.length=4415
 r0:R[0]?=some (uw (jb p p.length))
 r1:R[1]?=some (.hs (.c Yn 0 1) 1 0 p.length)
 r2:R[2]?=some (iv m.left)
 r3:R[3]?=some (iv m.en)
 r4:R[4]?=some (.hs (.c Yn 0 4) 1 0 m.out.length)
 r5:R[5]?=some (.hs (.c Yn 0 5) 2 0 m.trace.length)
 de:R[30]?=some (.hs (.c Yn 0 30) 2 0 m.qH.length)
 fu:R[31]?=some (.hs (.c Yn 0 31) 24 0 m.qT.length)
 h:R[4411]?=some (iv ((i:Int)+1))
 f0:R[yo i]?=some (iv f.qG)
 f1:R[yo i+1]?=some (iv f.pc)
 f2:R[yo i+2]?=some (.hs (.c Yn 0 (yo i+2)) 3 0 f.qq.length)
 f3:R[yo i+3]?=some (.hs (.c Yn 0 (yo i+3)) 1 0 f.cells.length)
 f28:R[yo i+28]?=some (.hs (.c Yn 0 (yo i+28)) 2 0 f.stack.length)
 gl:∀ x j:Nat,x<8->j<3->R[6+(3 * x+j)]?=(jk (jW m.globals x))[j]?
 nm:∀ x j:Nat,x<8->j<3->R[yo i+4+(3 * x+j)]?=(jk (jW f.names x))[j]?
 tb:(R.drop (yo i+4)).take 24=jn f.names
theorem qAc {J:Nat->List AV} (hJ:∀ i,(J i).length=29) (hi:fs.length<151):mB p m fs.length f (qg p m (fs.length+1) (yc (fs++[f]) J)):=by
 have hc:=aO (fs:=fs++[f]) hJ;have hf:(fs++[f])[fs.length]?=some f:=qB
 have hat:∀ {j:Nat},j<29->(qg p m (fs.length+1) (yc (fs++[f]) J))[yo fs.length+j]?=(y4 fs.length f)[j]?:=by
  simp_all[cF,qBg,tT]
 refine⟨oA hc,No,qBi,qBj,qBk,qBn,qBo,qBl,qBm,?_,?_,?_,?_,?_,?_,λx j hx hj=>qBp hx hj,λx j hx hj=>?_,?_⟩
 .grind[DC]
 .exact (hat (j:=0) qA).trans rfl
 .rw [hat qA];rfl
 .rw [hat qA];rfl
 .rw [hat qA];rfl
 .grind[qCK]
 .rw [cF,hat qA];grind[qCL]
 grind[qBh,tT,qCP]
theorem tM {a b:AV} {i:Nat} (h1:R[i]?=some a) (h2:R[i+1]?=some b):(R.drop i).take 2=[a,b]:=by
 grind[gV]
theorem qD.cn (h:qD hp p m) (hm:m.qN=fs++[f]) (hi:fs.length<151) (hr:hp Yn=some (.row 4415 [R])) (hk:f.stack.length=k+1):qD (zP Yn (.row 4415 [qp R (yo fs.length+28) [.hs (.c Yn 0 (yo fs.length+28)) 2 0 k]]) hp) p { m with qN:=fs++[f.pop] }:=by
 obtain⟨J,j,hJ,hT,h2,h3,h28⟩:=h.uY hm
 obtain rfl:R=qg p m (fs.length+1) (yc (fs++[f]) J):=by
  simp_all
 have hlen:=tA hk
 have hs:qp (qg p m (fs.length+1) (yc (fs++[f]) J)) (yo fs.length+28) [.hs (.c Yn 0 (yo fs.length+28)) 2 0 k]=qg p m (fs.length+1) (yc (fs++[f.pop]) J):=by
  have:=DE (p:=p) (m:=m) (h:=fs.length+1) (fs:=fs++[f]) (i:=fs.length) (f:=f) (g:=f.pop) (j:=28) (vals:=[.hs (.c Yn 0 (yo fs.length+28)) 2 0 k]) hJ qB hi qB (by
   have:=qCO (i:=fs.length) (f:=f) (l:=f.pop.stack);rw [hlen] at this;exact this)
  grind
 rw [hs]
 have key:∀ (i:Nat) f',(fs++[f.pop])[i]?=some f'->∃ f'',m.qN[i]?=some f''/\f'.qq=f''.qq/\f'.cells=f''.cells/\∃ l,f''.stack=f'.stack++l:=by
  intro i f' hf;rcases mI i fs.length with e|e|e
  .simp_all[ub]
  .subst e;simp at hf;subst hf;exact⟨f,cR,rfl,rfl,[f.zB],G5 hk⟩
  grind
 refine⟨⟨J,hJ,?_⟩,by simp [h.yn],by simp [h.out],by simp [h.zo],by simp [h.qH],by simp [h.jA],λi f' hf=>?_,λi f' hf=>?_,λi f' hf=>?_,λc s hc=>by simp [h.cell c s hc],λa b c ha hn=>?_⟩
 .simp only [zP,if_true,ua,wm]
  rfl
 .obtain⟨f'',h1,h2,_,_⟩:=key i f' hf;rw [h2];simp [h.qq i f'' h1]
 .obtain⟨f'',h1,_,h2,_⟩:=key i f' hf;rw [h2];simp [h.cls i f'' h1]
 .obtain⟨f'',h1,_,_,l,h2⟩:=key i f' hf;obtain⟨j',hj'⟩:=h.stack i f'' h1;exact⟨l++j',qP⟩
 .by_cases e:a=1/\b=0/\c=0
  .omega
  .refine h.only a b c ha λe'=>hn ?_
   simp_all
end
def qO.cut (f:qO) (i:Nat):qO:={ f with stack:=f.stack.take (f.stack.length - i) }
section
variable {f:qO} {i n:Nat} {p:qC} {m:qR} {fs:List qO}
theorem Iq:f.cut 0=f:=by simp [qO.cut]
theorem Ip (h:i<f.stack.length):(f.cut i).stack.length=(f.stack.length - (i+1))+1:=by grind[qO.cut]
theorem Bm (h:i<f.stack.length):(f.cut i).pop=f.cut (i+1):=by
 grind[qO.pop,qO.cut,List.dropLast_eq_take]
theorem Bo (h:i<f.stack.length):f.stack[f.stack.length - (i+1)]?=some (f.cut i).zB:=by
 grind[qO.cut,qO.zB]
theorem Io (h:i<f.stack.length):f.stack.drop (f.stack.length - (i+1))=(f.cut i).zB::f.stack.drop (f.stack.length - i):=by
 have h1:=Bo h
 grind[gV]
theorem I1 (h:n+1<=f.stack.length):b9 p m fs f (17,(n:Int))=if (f.cut n).zB.1≠2 then m.stop fs (f.cut (n+1)) 5 else match m.qH[(f.cut n).zB.2.toNat]? with
  | some g=>if vl p g.1≠n then m.stop fs (f.cut (n+1)) 6 else jv p (m.top fs (f.cut (n+1))) g.1 g.2 (f.stack.drop (f.stack.length - n))
  | none=>m.stop fs (f.cut (n+1)) 5:=by
 have h1:=Bo (f:=f) (i:=n) qA
 have h2:f.stack.getD (f.stack.length - n - 1) (0,0)=(f.cut n).zB:=by
  grind
 have h3:({ f with stack:=f.stack.take (f.stack.length - n - 1) }:qO)=f.cut (n+1):=by rw [Nat.sub_sub];rfl
 grind[b9,uR]
def er (p:qC) (m:qR) (b:Nat) (vs:List qW) (j:Nat) (fl C:List qr):Prop :=
 (j=0/\fl=List.replicate (qx p b).length none/\C=m.cells++List.replicate (qY p b).length none) \/
 (j=1/\∃ x v,(zO p b).params=[x]/\vs=[v]/\((x∈qx p b/\fl=(List.replicate (qx p b).length none).set (yj (qx p b) x).toNat (some v)/\C=m.cells++List.replicate (qY p b).length none) \/
   (x∉qx p b/\fl=List.replicate (qx p b).length none/\C=(m.cells++List.replicate (qY p b).length none).set (m.cells.length+(yj (qY p b) x).toNat) (some v))))
theorem er.fl {b j:Nat} {vs:List qW} {fl C:List qr} (h:er p m b vs j fl C):fl.length=(qx p b).length:=by
 grind[er]
theorem er.cl {b j:Nat} {vs:List qW} {fl C:List qr} (h:er p m b vs j fl C):C.length=m.cells.length+(qY p b).length:=by
 grind[er]
theorem er.fin {b j:Nat} {cs:List Nat} {vs:List qW} {fl C:List qr} (h:er p m b vs j fl C) (hj:vs.length=j):jv p m b cs vs={ m with cells:=C,made:=m.made+1,deep:=max m.deep (m.qN.length+1),qN:=m.qN++[⟨b,0,fl,(List.range (qY p b).length).map (m.cells.length+·)++cs,jR,[]⟩] }:=by
 rcases h with⟨rfl,rfl,rfl⟩|⟨rfl,x,v,hx,rfl,⟨h1,rfl,rfl⟩|⟨h1,rfl,rfl⟩⟩
 .have:vs=[]:=ai hj;subst this;unfold jv;simp
 .simp only [jv,hx,h1,if_true]
 .simp only [jv,hx,h1,if_false]
end
section
variable {hp:Nm->Option AO} {p:qC} {n:Nm} {m:qR} {dp i b e nf nk nc:Nat} {fs L:List qO} {f:qO} {k:qX}
theorem IC (h:qS hp p n m dp) (h0:0<p.length):Bw hp zn (.pt Xn 0) (.el [uw (jb p p.length),.sl 1 (ba lI p),.hs (.c Xn 0 2) 3 0 m.cells.length,.hs (.c Xn 0 3) 3 0 8,.hs (.c Xn 0 4) 2 0 m.qH.length,.hs (.c Xn 0 5) 1 0 m.qT.length,.hs n 7 0 m.qN.length,iv m.made,iv dp,.hs (.c Xn 0 9) 1 0 m.out.length,.hs (.c Xn 0 10) 2 0 m.trace.length,iv m.en,iv m.left] 0):=by
 refine .pt Xn 13 0 _ _ [] rfl h.top rfl λj a a' ha ha'=>?_
 match j,ha,ha' with
 | 0,ha,ha'=>obtain rfl:=sI ha;obtain rfl:=sI ha';exact .refl _
 | 1,ha,ha' =>
  obtain rfl:=sI ha;obtain rfl:=sI ha';refine .hs (.c Xn 0 1) 1 0 _ _ _ rfl h.yn (by grind[I4]) (I4 h0) (by simp [ba]) λi r1 r2 e1 e2 j a a' e3 e4=>?_;rw [fF,e2] at e1;obtain rfl:=sI e1;rw [e3] at e4;obtain rfl:=sI e4;exact .refl _
 | 2,ha,ha'=>obtain rfl:=sI ha;obtain rfl:=sI ha';exact .refl _
 | 3,ha,ha'=>obtain rfl:=sI ha;obtain rfl:=sI ha';exact .refl _
 | 4,ha,ha'=>obtain rfl:=sI ha;obtain rfl:=sI ha';exact .refl _
 | 5,ha,ha'=>obtain rfl:=sI ha;obtain rfl:=sI ha';exact .refl _
 | 6,ha,ha'=>obtain rfl:=sI ha;obtain rfl:=sI ha';exact .refl _
 | 7,ha,ha'=>obtain rfl:=sI ha;obtain rfl:=sI ha';exact .refl _
 | 8,ha,ha'=>obtain rfl:=sI ha;obtain rfl:=sI ha';exact .refl _
 | 9,ha,ha'=>obtain rfl:=sI ha;obtain rfl:=sI ha';exact .refl _
 | 10,ha,ha'=>obtain rfl:=sI ha;obtain rfl:=sI ha';exact .refl _
 | 11,ha,ha'=>obtain rfl:=sI ha;obtain rfl:=sI ha';exact .refl _
 | 12,ha,ha'=>obtain rfl:=sI ha;obtain rfl:=sI ha';exact .refl _
 | j+13,ha,_=>simp_all
theorem IB (hF:hp n=some (.row 7 (ji p n L))) (hat:L[i]?=some f):Bw hp zn (.ep n 7 i 0) (.el (yd p n i f) 0):=by
 refine .ep n 7 i 0 _ _ _ rfl hF qP rfl λj a a' ha ha'=>?_;rw [ha] at ha';obtain rfl:=sI ha';exact .refl _
theorem EV (hh:zj p) (h:ig p nf nk nc f e) (hk:p[b]?=some k) (hpar:k.parent=f.qG) (i:Nat) (y:Int) (hy:(zw p b)[i]?=some y):∃ z:Nat,y=z/\∃ c,(jK f.cells)[z]?=some c/\((jF p f b)[i]?).map (λ(x:Nat)=>(x:Int))=some c:=by
 have hpa:kZ p b=f.qG:=by grind[kZ]
 have hr:=I5 hh hk y (gM hy);rw [hpa] at hr;have hcl:=h.cl;have hlt:y.toNat<f.cells.length:=qA
 grind[jK,jF]
theorem I3 (b:Nat):(jF p f b).length=(zw p b).length:=by simp [jF]
end
theorem FX {X:Ctx} {st:St} {K:St->Prop} {E:AV->St->Prop} {o:Oper} (n0 n1:Nm) (h0:n0.z7=false\/X.ext n0=false) (h1:n1.z7=false\/X.ext n1=false) (h:qn X o (λs=>K s\/K (s.move n0 n1)) E st):qn X o K E st:=by
 refine qn.post h ?_;rintro s a w hR (hK|hK)
 .grind
 .exact⟨_,hR.move n0 n1 h0 h1,hK⟩
def nK (n:Nm) (L:List (qO×Int×Int)):List (List AV):=L.mapIdx λi q=>[iv q.1.qG,iv q.2.1,iv q.2.2,.hs (.c n i 3) 3 0 q.1.qq.length,jG (jK q.1.cells),.hs (.c n i 5) 3 0 8,.hs (.c n i 6) 2 0 q.1.stack.length]
@[simp] theorem TX {n:Nm} {L:List (qO×Int×Int)} {r:Nm->Option Nm} (h:∀ i j,r (.c n i j)=some (.c n i j)):(nK n L).map (λx=>x.map (AV.tr r))=nK n L:=by
 apply y6;intro i;simp only [nK,jZ,List.getElem?_mapIdx]
 cases L[i]? <;> simp [h]
theorem RW {p:qC} {n:Nm} {L:List qO}:ji p n L=nK n (L.map λf=>(f,(f.pc:Int),(v7 p f:Int))):=by
 apply y6;intro i;simp only [gq,nK,List.getElem?_mapIdx,jZ]
 cases L[i]? <;> rfl
structure gO (hp:Nm->Option AO) (n:Nm) (l:List qO):Prop where
 top:∃ L:List (qO×Int×Int),hp n=some (.row 7 (nK n L))/\l.length<=L.length/\∀ (i:Nat) f,l[i]?=some f->∃ g a b,L[i]?=some (g,a,b)/\g.look=f.look
 qq:∀ (i:Nat) f,l[i]?=some f->hp (.c n i 3)=some (.row 3 (zA f.qq))
 names:∀ (i:Nat) f,l[i]?=some f->hp (.c n i 5)=some (.row 3 (zA f.names))
theorem gO.of {hp:Nm->Option AO} {n:Nm} {l l':List qO} (h:gO hp n l) (e:l.map qO.look=l'.map qO.look):gO hp n l':=by
 have he:∀ (i:Nat) f,l'[i]?=some f->∃ g,l[i]?=some g/\g.look=f.look:=by
  intro i f hf;have h1:(l.map qO.look)[i]?=some f.look:=by rw [e,jZ,hf];rfl
  rw [jZ] at h1;exact zu.1 h1
 obtain⟨L,r1,r2,r3⟩:=h.top;have hl:l.length=l'.length:=by simpa using congrArg List.length e
 refine⟨⟨L,r1,qA,λi f hf=>?_⟩,λi f hf=>?_,λi f hf=>?_⟩
 .obtain⟨g,hg,e1⟩:=he i f hf;rw [<- e1];exact r3 i g hg
 .obtain⟨g,hg,e1⟩:=he i f hf;simp only [qO.look,rF] at e1;rw [<- e1.2.1];exact h.qq i g hg
 .obtain⟨g,hg,e1⟩:=he i f hf;simp only [qO.look,rF] at e1;rw [<- e1.2.2.2];exact h.names i g hg
theorem eu.look {hp:Nm->Option AO} {p:qC} {n:Nm} {l l':List qO} (h:eu hp p n l) (e:l.map qO.look=l'.map qO.look):gO hp n l':=by
 obtain⟨js,hj⟩:=h.top;rw [RW] at hj;refine gO.of (l:=l) ⟨⟨_,hj,qB,λi f hf=>⟨f,f.pc,v7 p f,?_,rfl⟩⟩,h.qq,h.names⟩ e;rw [jZ,ub (gS hf).1,hf]
 rfl
theorem gO.tick {hp hp':Nm->Option AO} {p:qC} {n:Nm} {fs L:List qO} {f g:qO} {x:Int} (h:eu hp p n (fs++[f])) (hL:∃ js,L=fs++f::js) (hg:f.look=g.look) (ht:hp' n=some (.row 7 (j3 (ji p n L) fs.length 1 [iv x])))
  (h3:∀ (i:Nat) f',hp (.c n i 3)=some (.row 3 (zA f'))->hp' (.c n i 3)=some (.row 3 (zA f')):=by intro i f' e;simp [e])
  (h5:∀ (i:Nat) f',hp (.c n i 5)=some (.row 3 (zA f'))->hp' (.c n i 5)=some (.row 3 (zA f')):=by intro i f' e;simp [e]):gO hp' n (fs++[g]):=by
 obtain⟨js,rfl⟩:=hL
 have e:j3 (ji p n (fs++f::js)) fs.length 1 [iv x]=nK n (((fs++f::js).map λf=>(f,(f.pc:Int),(v7 p f:Int))).set fs.length (f,x,v7 p f)):=by
  apply y6;intro i;simp only [j3,fE,gq,nK,List.getElem?_mapIdx,dt,jZ,List.length_map];by_cases e:fs.length=i
  .subst e;simp [yd]
  .rw [if_neg e]
   cases (fs++f::js)[i]? <;> simp [e,yd]
 rw [e] at ht;refine gO.of (l:=fs++[f]) ⟨⟨_,ht,qB,λi f' hf=>?_⟩,λi f' hf=>h3 i _ (h.qq i f' hf),λi f' hf=>h5 i _ (h.names i f' hf)⟩ (by simp [hg])
 have hf':(fs++f::js)[i]?=some f':=by
  have:=(gS hf).1;rw [List.append_cons,ub this];exact hf
 by_cases e:i=fs.length
 .subst e;obtain rfl:f=f':=vT;exact⟨f,x,v7 p f,qB,rfl⟩
 .exact⟨f',f'.pc,v7 p f',by rw [List.getElem?_set_ne (Ne.symm e),jZ,hf'];rfl,rfl⟩
structure wG (hp:Nm->Option AO) (p:qC) (m:qR) (dp:Nat):Prop where
 top:∃ b c d:Nat,hp Xn=some (.row 13 [[uw (jb p p.length),.hs (.c Xn 0 1) 1 0 b,.hs (.c Xn 0 2) 3 0 m.cells.length,.hs (.c Xn 0 3) 3 0 8,.hs (.c Xn 0 4) 2 0 c,.hs (.c Xn 0 5) 1 0 d,.hs (.c Xn 0 6) 7 0 m.qN.length,iv m.made,iv dp,.hs (.c Xn 0 9) 1 0 m.out.length,.hs (.c Xn 0 10) 2 0 m.trace.length,iv m.en,iv m.left]])
 cells:hp (.c Xn 0 2)=some (.row 3 (zA m.cells))
 zJ:hp (.c Xn 0 3)=some (.row 3 (zA m.globals))
 out:hp (.c Xn 0 9)=some (.row 1 (qj m.out))
 zo:hp (.c Xn 0 10)=some (.row 2 (yy m.trace))
 fr:gO hp (.c Xn 0 6) m.qN
section
variable {hp hp':Nm->Option AO} {p:qC} {n:Nm} {m:qR} {dp:Nat} {fs L:List qO} {f g:qO} {o:Int×Int}
theorem qS.Ix (h:qS hp p (.c Xn 0 6) m dp):wG hp p m dp:=⟨⟨_,_,_,h.top⟩,h.cells,h.zJ,h.out,h.zo,h.fr.look rfl⟩
theorem gP.done {fr:List qO} (h:qS hp p (.c Xn 0 6) { m with qN:=fr } dp) (h1:(m.en=0->fr=m.qN)/\fr.map qO.look=m.qN.map qO.look):qS hp p (.c Xn 0 6) m dp\/(m.en≠0/\wG hp p m dp):=by
 by_cases e:m.en=0
 .left;have:=h1.1 e;subst this;exact h
 .have h3:=h.Ix;have hl:fr.length=m.qN.length:=by simpa using congrArg List.length h1.2
  obtain⟨b,c,d,ht⟩:=h3.top;exact .inr ⟨e,⟨b,c,d,by rw [ht];simp [hl]⟩,h3.cells,h3.zJ,h3.out,h3.zo,h.fr.look h1.2⟩
theorem wG.qv (h:wG hp p m dp) {F:Nm->Option Nm} (hF:∀ k,Nm.under Xn k=true->F k=some k) (hh:∀ k,Nm.under Xn k=true->hp' k=(hp k).map (AO.tr F)):wG hp' p m dp:=by
 have hc:∀ j,Nm.under Xn (.c Xn 0 j)=true:=λj=>qB;have hq:∀ i j,Nm.under Xn (.c (.c Xn 0 6) i j)=true:=λi j=>qB;obtain⟨b,c,d,ht⟩:=h.top;obtain⟨L,r1,r2,r3⟩:=h.fr.top;refine⟨⟨b,c,d,?_⟩,?_,?_,?_,?_,⟨L,?_,r2,r3⟩,λi f hf=>?_,λi f hf=>?_⟩
 .simp_all
 .rw [hh _ (hc 2),h.cells];simp
 .rw [hh _ (hc 3),h.zJ];simp
 .rw [hh _ (hc 9),h.out];simp
 .rw [hh _ (hc 10),h.zo];simp
 .rw [hh _ (hc 6),r1];simp [TX λi j=>hF _ (hq i j)]
 .rw [hh _ (hq i 3),h.fr.qq i f hf];simp
 .rw [hh _ (hq i 5),h.fr.names i f hf];simp
theorem wG.pC (h:wG hp p m dp) (hh:∀ k,Nm.under Xn k=true->hp' k=hp k):wG hp' p m dp:=by
 refine h.qv (F:=some) (λ_ _=>rfl) λq hq=>?_;rw [hh q hq]
 cases hp q<;>grind[AO.vv]
theorem wG.fin (h:wG hp p m dp) {D:Nm->Bool} (hD:∀ k,D k=true->k.zg=false) (hW:∀ k,Nm.under Xn k=true->D k=true):wG (vF D [] hp) p m dp :=
 h.qv (F:=zL D []) (λk hk=>qP) (λk hk=>qP)
theorem qS.MH (h:qS hp p (.c Xn 0 6) m dp) {F:Nm->Option Nm} (hF:∀ k,Nm.under Xn k=true->F k=some k) (hh:∀ k,Nm.under Xn k=true->hp' k=(hp k).map (AO.tr F)):qS hp' p (.c Xn 0 6) m dp:=by
 have hc:∀ j,Nm.under Xn (.c Xn 0 j)=true:=λj=>qB;have hq:∀ i j,Nm.under Xn (.c (.c Xn 0 6) i j)=true:=λi j=>qB;refine⟨?_,?_,?_,?_,?_,?_,?_,?_,h.fr.top.imp λjs hj=>?_,λi g hg=>?_,λi g hg=>?_,λi g hg=>(h.fr.stack i g hg).imp λj hj=>?_⟩
 .rw [hh _ qB,h.top]
  simp_all[zp]
 .rw [hh _ (hc 1),h.yn];simp
 .rw [hh _ (hc 2),h.cells];simp
 .rw [hh _ (hc 3),h.zJ];simp
 .rw [hh _ (hc 4),h.qH];simp
 .rw [hh _ (hc 5),h.jA];simp
 .rw [hh _ (hc 9),h.out];simp
 .rw [hh _ (hc 10),h.zo];simp
 .simp_all
 .rw [hh _ (hq i 3),h.fr.qq i g hg];simp
 .rw [hh _ (hq i 5),h.fr.names i g hg];simp
 simp_all
theorem qS.mu (h:qS hp p (.c Xn 0 6) m dp):qS (vF (Nm.under Xn) [] hp) p (.c Xn 0 6) m dp :=
 h.MH (F:=zL (Nm.under Xn) []) (λk hk=>qP) (λk hk=>qP)
theorem TP (ho:(zR p f.qG)[f.pc]?=some o) (h:o.1≠0):v7 p f.next=v7 p f:=by
 grind[v7,qO.next,Co]
theorem TQ (ho:(zR p f.qG)[f.pc]?=some o) (h:o.1=0):v7 p f.next=v7 p f+1:=by
 grind[v7,qO.next,Co]
theorem RR (hat:L[fs.length]?=some f) (ho:(zR p f.qG)[f.pc]?=some o) (h:o.1≠0):j3 (ji p n L) fs.length 1 [iv ((f.pc:Int)+1)]=ji p n (L.set fs.length f.next):=by
 grind[J6,TP,yd,qO.next]
theorem RU (hat:L[fs.length]?=some f) (ho:(zR p f.qG)[f.pc]?=some o) (h:o.1=0):j3 (j3 (ji p n L) fs.length 1 [iv ((f.pc:Int)+1)]) fs.length 2 [iv (v7 p f+1)]=ji p n (L.set fs.length f.next):=by
 have hl:=(gS hat).1;apply y6;intro j;simp only [j3,fE,gq,dt];by_cases e:fs.length=j
 .subst e;rw [hat];have:=TQ ho h
  simp_all[yd,qO.next]
 .simp [e]
end
def eH (p:qC) (b:Nat):List (List AV):=[lI]::(List.range (b - 1)).map λb=>[jG (zw p (b+1))]
structure DL (hp:Nm->Option AO) (p:qC) (n b:Nat):Prop where
 top:hp Xn=some (.row 13 [[uw (jb p p.length),.hs (.c Xn 0 1) 1 0 b,.hs (.c Xn 0 2) 3 0 0,.hs (.c Xn 0 3) 3 0 8,.hs (.c Xn 0 4) 2 0 0,.hs (.c Xn 0 5) 1 0 0,.hs (.c Xn 0 6) 7 0 0,iv 0,iv 0,.hs (.c Xn 0 9) 1 0 0,.hs (.c Xn 0 10) 2 0 0,iv 0,iv n]])
 yn:hp (.c Xn 0 1)=some (.row 1 (eH p b))
 cells:hp (.c Xn 0 2)=some (.row 3 [])
 zJ:hp (.c Xn 0 3)=some (.row 3 (zA jR))
 qH:hp (.c Xn 0 4)=some (.row 2 [])
 jA:hp (.c Xn 0 5)=some (.row 1 [])
 fr:hp (.c Xn 0 6)=some (.row 7 [])
 out:hp (.c Xn 0 9)=some (.row 1 [])
 zo:hp (.c Xn 0 10)=some (.row 2 [])
section
variable {hp hp':Nm->Option AO} {p:qC} {m:qR} {n b dp:Nat} {F:Nm->Option Nm}
@[simp] theorem capTo_tr:(eH p b).map (λr=>r.map (AV.tr F))=eH p b:=by
 have h:AV.tr F .bot=.bot:=rfl;simp [eH,h]
theorem P8 (h:1<=b):(eH p b).length=b:=by grind[eH]
theorem P7 (h:1<=b):eH p b++[[jG (zw p b)]]=eH p (b+1):=by
 obtain⟨c,rfl⟩:∃ c,b=c+1:=⟨b - 1,qA⟩;simp [eH,oU]
@[simp] theorem capTo_one:eH p 1=[[lI]]:=rfl
theorem DL.own (h:DL hp p n p.length) (h0:0<p.length):qS hp p (.c Xn 0 6) (jQ n) 0:=by
 refine⟨?_,?_,?_,?_,?_,?_,?_,?_,⟨[],?_⟩,λi f hf=>?_,λi f hf=>?_,λi f hf=>?_⟩
 .grind[top,zp,jQ]
 .rw [h.yn];rfl
 .rw [h.cells];simp [jQ]
 .rw [h.zJ];rfl
 .rw [h.qH];simp [jQ]
 .rw [h.jA];simp [jQ]
 .rw [h.out];rfl
 .rw [h.zo];rfl
 .rw [h.fr];simp [jQ]
 .grind[jQ]
 .grind[jQ]
 grind[jQ]
theorem XY (hP:zk p) (hn:n<=150):∃ N,(∀ i,i<N->¬ (zS p i (zU p n)).ended)/\(zS p N (zU p n)).ended/\zS p N (zU p n)=yY p n/\bD p N (zU p n) 0=(yY p n).deep:=by
 obtain⟨N,h1,h2,h3⟩:=AX (n:=n) hP hn;have hI:=Jt (n:=n) (t:=8) hP
 have hs:zU p n={ jQ n with cells:=(zU p n).cells,made:=1,deep:=1,qN:=(zU p n).qN }/\(zU p n).qN.length=1:=by
  unfold zU jv
  split
  .simp_all
  .exact⟨rfl,rfl⟩
 have hd:(zU p n).deep=max 0 (zU p n).qN.length:=by
  grind
 cases N with
 | zero =>
  grind[zS,qR.ended,jQ]
 | succ N =>
  grind[UJ,cT]
end
def fS (D:Nm->Bool) (S:Nm) (k:Nm):Option Nm:=if Nm.under S k then none else if D k then some k else none
section
variable {hp hp' H H':Nm->Option AO} {p:qC} {m:qR} {fs:List qO} {f g:qO} {R:List AV} {v:qW} {F:Nm->Option Nm} {D:Nm->Bool} {a b c d:Nat} {S:Nm} {l:List AV} {o:Option AO} {x:AV}
theorem JH (hD:∀ k,D k=true->k.zg=false) (hS:D S=true):(λm=>((((kl (.s a) m).bind (kl (.s b))).bind (kl (.s c))).bind (mv (.s c) S)).bind (zL D []))=fS D S:=by
 funext m
 by_cases hx:D m=true
 .have h1:=(jg hD hx a).2;have h2:=(jg hD hx b).2;have h3:=(jg hD hx c).2;by_cases hu:Nm.under S m=true
  .simp [h1,h2,h3,fS,hu]
  .simp only [wl] at hu;simp [h1,h2,h3,fS,hu,hx,zL]
 .simp only [wl] at hx;by_cases ha:Nm.under (.s a) m=true
  .simp [fS,ha,hx]
  .simp only [wl] at ha;by_cases hb:Nm.under (.s b) m=true
   .simp [fS,ha,hb,hx]
   .simp only [wl] at hb;by_cases hc:Nm.under (.s c) m=true
    .simp [fS,ha,hb,hc,hx]
    .simp only [wl] at hc;by_cases hu:Nm.under S m=true
     .simp [fS,ha,hb,hc,hu]
     .simp only [wl] at hu;simp [fS,ha,hb,hc,hu,hx,zL]
theorem Qf (hD:∀ k,D k=true->k.zg=false) (hS:D S=true):(((((x.tr (kl (.s a))).tr (kl (.s b))).tr (kl (.s c))).tr (mv (.s c) S)).tr (zL D []))=x.tr (fS D S):=by
 rw [AV.kO,AV.kO,AV.kO,AV.kO]
 congr 1
 have:=JH (a:=a) (b:=b) (c:=c) hD hS;rw [<- this]
 funext m
 cases kl (.s a) m with
 | none=>rfl
 | some m1 =>
  simp only [mG]
  cases kl (.s b) m1 with
  | none=>rfl
  | some m2 =>
   simp only [mG]
   cases kl (.s c) m2 <;> rfl
theorem Qg (hD:∀ k,D k=true->k.zg=false) (hS:D S=true):(((l.map (AV.tr (kl (.s c))∘AV.tr (kl (.s b))∘AV.tr (kl (.s a)))).map (AV.tr (mv (.s c) S))).map (AV.tr (zL D [])))=l.map (AV.tr (fS D S)):=by
 simp only [gU];exact mH λx _=>Qf hD hS
theorem Qh (hD:∀ k,D k=true->k.zg=false) (hS:D S=true):(((((o.map (AO.tr (kl (.s a)))).map (AO.tr (kl (.s b)))).map (AO.tr (kl (.s c)))).map (AO.tr (mv (.s c) S))).map (AO.tr (zL D [])))=o.map (AO.tr (fS D S)):=by
 cases o with
 | none=>rfl
 | some o =>
  simp only [u7];rw [AO.kO,AO.kO,AO.kO,AO.kO]
  congr 2
  have:=JH (a:=a) (b:=b) (c:=c) hD hS;rw [<- this]
  funext m
  cases kl (.s a) m with
  | none=>rfl
  | some m1 =>
   simp only [mG]
   cases kl (.s b) m1 with
   | none=>rfl
   | some m2 =>
    simp only [mG]
    cases kl (.s c) m2 <;> rfl
def HV (D:Nm->Bool) (S:Nm) (off:Nat) (R:List AV) (vs:List qW) (H:Nm->Option AO):Nm->AV->(Nm->Option AO)->Prop:=λ_ _ H' =>
 H' Yn=some (.row 4415 [qp (R.map (AV.tr (fS D S))) off [.hs S 2 0 vs.length]])/\H' S=some (.row 2 (zh vs))/\∀ q,D q=true->q≠Yn->Nm.under S q=false->H' q=(H q).map (AO.tr (fS D S))
theorem qD.cp (h:qD hp p m) (hm:m.qN=fs++[f]) (hi:fs.length<151) (hS:S=.c Yn 0 (yo fs.length+28)) (hr:hp Yn=some (.row 4415 [R])) {y:AV} {r:Nm} (hw:HV DM S (yo fs.length+28) R (f.stack++[v]) (z6 DM hp) r y H'):qD H' p { m with qN:=fs++[f.push v] }:=by
 obtain⟨J,j,hJ,hT,h2,h3,h28⟩:=h.uY hm
 obtain rfl:R=qg p m (fs.length+1) (yc (fs++[f]) J):=by
  rw [hr] at hT
  injection hT with e
  injection e with e1 e2
  injection e2
 obtain⟨w1,w2,w3⟩:=hw;have hF:∀ k,DM k=true->Nm.under S k=false->fS DM S k=some k:=λk h1 h2=>by simp only [fS,h1,h2,if_true,wk,if_false]
 have hc:∀ j,j≠yo fs.length+28->Nm.under S (.c Yn 0 j)=false:=λj hj=>by subst hS;simp [hj]
 have hE:∀ i,Nm.under S (En i)=false:=λi=>by subst hS;simp
 have hw3:∀ q o,DM q=true->q≠Yn->Nm.under S q=false->hp q=some o->H' q=some (o.tr (fS DM S)):=λq o a1 a2 a3 a4=>by
  rw [w3 q a1 a2 a3];simp only [z6,a1,if_true,a4,u7]
 have hcN:∀ j,j≠yo fs.length+28->fS DM S (.c Yn 0 j)=some (.c Yn 0 j):=λj hj=>hF _ rfl (hc j hj);have hEN:∀ i,fS DM S (En i)=some (En i):=λi=>hF _ rfl (hE i);have hne:∀ i k,i≠fs.length\/k≠28->k<29->yo i+k≠yo fs.length+28:=λi k h1 h2=>uu;have hsp:fS DM S S=none:=by simp [fS]
 have hfix:∀ i g,i≠fs.length->(y4 i g).map (AV.tr (fS DM S))=y4 i g:=by
  intro i g hi;simp only [y4,mJ,Eg,al,oW];have e2:=hcN _ (hne i 2 (.inl hi) qA);have e3:=hcN _ (hne i 3 (.inl hi) qA);have e28:=hcN _ (hne i 28 (.inl hi) qA);simp only [yo] at e2 e3 e28;simp [AV.tr,e2,e3,e28]
 have hrow:qp ((qg p m (fs.length+1) (yc (fs++[f]) J)).map (AV.tr (fS DM S))) (yo fs.length+28) [.hs S 2 0 (f.stack++[v]).length]=qg p m (fs.length+1) (yc (fs++[f.push v]) λi=>(J i).map (AV.tr (fS DM S))):=by
  have hmap:(qg p m (fs.length+1) (yc (fs++[f]) J)).map (AV.tr (fS DM S))=qg p m (fs.length+1) λi=>(yc (fs++[f]) J i).map (AV.tr (fS DM S)):=by
   have h1:(yx (yc (fs++[f]) J) 151).map (AV.tr (fS DM S))=yx (λi=>(yc (fs++[f]) J i).map (AV.tr (fS DM S))) 151:=Bi λi _=>rfl;have hk:∀ j,j<32->fS DM S (.c Yn 0 j)=some (.c Yn 0 j):=λj hj=>hcN j uu;simp only [qg,mJ,h1,Eg];simp [yA,yB,yZ,hk,AV.tr,tO]
  rw [hmap];have:=DD (p:=p) (m:=m) (h:=fs.length+1) (c:=λi=>(yc (fs++[f]) J i).map (AV.tr (fS DM S))) (c':=yc (fs++[f.push v]) λi=>(J i).map (AV.tr (fS DM S))) (i:=fs.length) (j:=28) (vals:=[.hs S 2 0 (f.stack++[v]).length]) (λi=>by simp [aO hJ]) hi qB (λk hk=>?_) ?_
  .rw [<- cF] at this;exact this
  .unfold yc;rcases mI k fs.length with e|e|e
   .rw [ub e,ub e,gE e];simp only;rw [hfix k _ hk]
   .exact absurd e hk
   .rw [dQ qu,dQ qu]
  .have h1:(fs++[f])[fs.length]?=some f:=qB;have h2:(fs++[f.push v])[fs.length]?=some (f.push v):=qB;rw [tT h1,tT h2];have e2:=hcN _ (hne fs.length 2 (.inr qA) qA);have e3:=hcN _ (hne fs.length 3 (.inr qA) qA);simp only [yo] at e2 e3
   have h3:(y4 fs.length f).map (AV.tr (fS DM S))=[iv f.qG,iv f.pc,.hs (.c Yn 0 (32+29 * fs.length+2)) 3 0 f.qq.length,.hs (.c Yn 0 (32+29 * fs.length+3)) 1 0 f.cells.length]++(jn f.names++[AV.bot]):=by
    have hb:fS DM S (.c Yn 0 (32+29 * fs.length+28))=none:=by rw [<- hS];exact hsp
    simp only [y4,mJ,Eg,al,oW];simp [AV.tr,e2,e3,hb]
   rw [h3,hS];have h4:([iv f.qG,iv f.pc,.hs (.c Yn 0 (32+29 * fs.length+2)) 3 0 f.qq.length,.hs (.c Yn 0 (32+29 * fs.length+3)) 1 0 f.cells.length]++jn f.names).length=28:=qB;rw [<- iq];unfold qp;rw [List.take_append_of_le_length (by rw [h4];exact qa _),yG (by rw [h4];exact qa _),Az qB];simp [y4,qO.push]
 have key:∀ (i:Nat) f',(fs++[f.push v])[i]?=some f'->(i=fs.length/\f'=f.push v)\/(i<fs.length/\m.qN[i]?=some f'):=by
  intro i f' hf;rcases mI i fs.length with e|e|e
  .rw [ub e] at hf;exact .inr ⟨e,by rw [hm,ub e];exact hf⟩
  .subst e;simp at hf;exact .inl ⟨rfl,hf.symm⟩
  .rw [dQ qu] at hf
   cases hf
 have hy:∀ j,(.c Yn 0 j:Nm)≠Yn:=λj e=>vS;refine⟨⟨λi=>(J i).map (AV.tr (fS DM S)),λi=>fV,?_⟩,?_,?_,?_,?_,?_,λi f' hf=>?_,λi f' hf=>?_,λi f' hf=>?_,λc s hs=>?_,λa b c ha hn=>?_⟩
 .rw [w1,hrow];simp only [ua,wm]
  rfl
 .rw [hw3 _ _ rfl (hy 1) (hc 1 uu) h.yn];simp [AO.tr]
 .rw [hw3 _ _ rfl (hy 4) (hc 4 uu) h.out];simp [AO.tr]
 .rw [hw3 _ _ rfl (hy 5) (hc 5 uu) h.zo];simp [AO.tr]
 .rw [hw3 _ _ rfl (hy 30) (hc 30 uu) h.qH];simp only [AO.tr];rw [R7 hEN]
 .rw [hw3 _ _ rfl (hy 31) (hc 31 uu) h.jA];simp [AO.tr]
 .rcases key i f' hf with⟨rfl,rfl⟩|⟨hl,hf⟩
  .rw [hw3 _ _ rfl (hy _) (hc _ (hne fs.length 2 (.inr qA) qA)) h2];simp [AO.tr,qO.push]
  .rw [hw3 _ _ rfl (hy _) (hc _ (hne i 2 (.inl qA) qA)) (h.qq i f' hf)];simp [AO.tr]
 .rcases key i f' hf with⟨rfl,rfl⟩|⟨hl,hf⟩
  .rw [hw3 _ _ rfl (hy _) (hc _ (hne fs.length 3 (.inr qA) qA)) h3];simp only [AO.tr];rw [sN hEN]
   rfl
  .rw [hw3 _ _ rfl (hy _) (hc _ (hne i 3 (.inl qA) qA)) (h.cls i f' hf)];simp only [AO.tr];rw [sN hEN]
 .rcases key i f' hf with⟨rfl,rfl⟩|⟨hl,hf⟩
  .exact⟨[],by rw [<- hS,w2];simp [qO.push]⟩
  .exact (h.stack i f' hf).imp λj hj=>by rw [hw3 _ _ rfl (hy _) (hc _ (hne i 28 (.inl qA) qA)) hj];simp [AO.tr]
 .rw [hw3 _ _ rfl qB (hE c) (h.cell c s hs)];simp [AO.tr]
 .by_cases e:a=1/\b=0/\c=0
  .exact .inl e
  .refine h.only a b c ha λe'=>hn ?_;rw [w3 (.u a b c) ha (by simpa using e) (by subst hS;simp)];have hd:DM (.u a b c)=true:=ha;simp only [z6,hd,if_true,e',Option.map_none]
end
noncomputable def Bj (p:qC) (f:Int):Int:=if kF p f=true then (yY p f.toNat).cells.length else -1
noncomputable def sQ (p:qC) (f:Int):Int×Int:=if kF p f=true then ((yY p f.toNat).made,(yY p f.toNat).deep) else (-1,-1)
end Go.Hm
end
