import Derived.Test.YtjgpejikjhojcaaGreatDoorD02
import Derived.Maps.AppendAt
import Derived.ArgAppend
set_option linter.all false
set_option maxRecDepth 100000
set_option maxHeartbeats 4000000
open Option renaming some->Z,none->Y
open Bool renaming true->B
open List renaming length->O

section
namespace Go.Hm
open Go Go.RowKit
variable{E T e t ty:TypeId}{b c cap d i j m off sz z:Nat}{n:Nm}{o:Oper}{rows:List (List AV)}{s x:Operand}{v:Value}{v0 v1:List AV}
def jn(rows:List (List AV))(i off:Nat)(vals:List AV):List (List AV):=rows.modify i (λr=>r.take off++vals++r.drop (off+O vals))
section
variable{P:Program}{own:Nat->Prop}{C:Nat->Prop}{w0:World}{g:Gh}{st:St}{a:Act}{w:World}
theorem Rg.wr(h:Rg P own C w0 g st a w){o o':AO}{w':World}(hn:st.hp n=Z o)(hk:g.φ n=Z b)
  (h1:w'.os=w.os)(h2:w'.tape=w.tape)(h3:w'.output=w.output)(h4:w.heap.size<=w'.heap.size)(hw:∀b',b'≠b->b'<w.heap.size->w'.heap[b']?=w.heap[b']?)(ho:jd g w' n o'):
  Rg P own C w0 g (st.zW n o') a w':=by
 obtain⟨x1,x2,x3⟩:=h.inv.qG n o b hn hk
 have hs:=h.step (g':=g) (w':=w') (f:=Z) (hp':=(st.zW n o').hp) rfl (λk k' e=>qQ) h1 h2 h3 h4
  (λb' hC=>hw b' (λe=>x1 (e ▸ hC)) (h.inv.ur b' hC)) (λb' hb' hno=>hw b' (λe=>by
    grind) (um hb' h.inv.size)) (λm q e=>by
  simp only[St.zW]at e
  split at e
  .rename_i e';subst e';obtain rfl:=sI e;refine .inr ⟨ho,λb' hb'=>?_⟩;rw[hk]at hb';obtain rfl:=sI hb';refine⟨⟨x1,x2,um x3 h4⟩,λm'' o'' e'' hk''=>?_⟩;simp only[St.zW]at e''
   split at e''
   .assumption
   .exact h.inv.inj m'' m o'' o b e'' hn hk'' hk
  .rename_i hne;exact .inl ⟨m,q,rfl,e,(AO.uO q).symm,λb' hb'=>hw b' (λe'=>hne (h.inv.inj m n q o b e hn (e' ▸ hb') hk)) (h.inv.qG m q b' e hb').2.2⟩)
 simp_all[St.nm,St.zW,AV.uO]
theorem Rg.qEL(h:Rg P own C w0 g st a w){nv:List Value}{vals:List AV}(hn:st.hp n=Z (.row z rows))(hk:g.φ n=Z b)(hi:i<O rows)
  (hoff:off+O vals<=z)(hl:O nv=O vals)(hone:∀v∈nv,v.oneCell'=B)(hr:∀(j:Nat)v x,nv[j]?=Z v->vals[j]?=Z x->RV g w v x):
  ∃(cur:Array Value)(T:TypeId),w.heap[b]?=Z (.cells cur T (0,0))/\i*z+off+O nv<=cur.size /\
   Rg P own C w0 g (st.zW n (.row z (jn rows i off vals))) a (w.setRow b (cur.toList.take (i*z+off)++nv++cur.toList.drop (i*z+off+O nv)).toArray):=by
 have ho:=h.inv.obj n _ hn;simp only[jd,hk]at ho;obtain⟨cur,T,h1,h2,h3,h4,h5,h6,h7⟩:=ho;have hb1:(i+1)*z<=O rows*z:=bM _ hi;have hb2:O rows*z<=g.κ n*z:=bM _ h4;rw[nz,s5]at hb1;have hsz:i*z+off+O nv<=cur.size:=qA;have hsz':i*z+off+O nv<=O cur.toList:=qA;refine⟨cur,T,h1,hsz,h.wr hn hk rfl rfl rfl qB (λb' hne _=>setRow_other w _ b' _ hne) ?_⟩;simp only[jd,hk];have hCb:¬C b:=(h.inv.qG n _ b hn hk).1;have keepC:∀(q:Array Value)b',g.C b'->(w.setRow b q).heap[b']?=w.heap[b']?:=λq b' hC=>setRow_other w _ b' _ (λe=>hCb (e ▸ h.inv.hC ▸ hC));refine⟨_,T,setRow_heap w _ _ _ T _ h1,?_,h3,by grind[jn],?_,?_,?_⟩
 .grind
 .grind[ko,jn]
 .intro j hj;rw[ER _ _ _ hsz']
  split
  .grind
  simp_all[jn]
 .intro k row hrow j x hx;simp only[jn,it]at hrow;obtain⟨r0,h0,e⟩:=zq.1 hrow;have hlen:=h5 r0 (gM h0);rw[ER _ _ _ hsz'];by_cases hik:i=k
  .subst hik;simp only[if_true]at e;subst e;rw[OO qA]at hx;by_cases hin:off<=j/\j<off+O vals
   .rw [if_pos hin]at hx;rw[if_pos qA];have hlt:j-off<O nv:=qA;have e:i*z+j-(i*z+off)=j-off:=qA;rw[e,bO,gE hlt];exact(hr (j-off) _ x (gE hlt) hx).same (λ_ h=>h) (keepC _) (λ_=>⟨rfl,rfl⟩)
   .rw [if_neg hin]at hx;rw[if_neg qA];have:=(h7 i r0 h0 j x hx).same (g':=g) (w':=w.setRow b (cur.toList.take (i*z+off)++nv++cur.toList.drop (i*z+off+O nv)).toArray) (λ_ h=>h) (keepC _) (λ_=>⟨rfl,rfl⟩)
    simp_all
  .simp only[hik,if_false]at e;subst e;have hj:j<z:=qx
   have hne:¬(i*z+off<=k*z+j/\k*z+j<i*z+off+O nv):=by
    intro⟨y1,y2⟩;rcases Nat.lt_or_gt_of_ne hik with hlt|hgt
    .have:(i+1)*z<=k*z:=bM _ hlt
     grind
    .have:(k+1)*z<=i*z:=bM _ hgt
     grind
   rw[if_neg hne];have:=(h7 k r0 h0 j x hx).same (g':=g) (w':=w.setRow b (cur.toList.take (i*z+off)++nv++cur.toList.drop (i*z+off+O nv)).toArray) (λ_ h=>h) (keepC _) (λ_=>⟨rfl,rfl⟩)
   simp_all
theorem qAn{o:Nat}{cur:Array Value}(hb:w.heap[b]?=Z (.cells cur E (0,0)))(hT:(P.info? T).isSome)(hl:v.cells.size=qi P T)(hle:o+O v.cells.toList<=cur.size)
  (hone:∀u∈v.cells.toList,u.oneCell'=B):(Instr.storeAt T (.pointer (Z ⟨b,o,Y⟩)) v).run P w=.ok () (w.setRow b (cur.toList.take o++v.cells.toList++cur.toList.drop (o+O v.cells.toList)).toArray):=by
 have h2:=run_storeCells_at P b o E v.cells.toList 0 cur w hb qA hone
 simp_all[Instr.storeAt,Instr.sureAddr,storeVar,nM]
def pl:AV->Option (Nm×Nat×Nat)
 |.pt n off=>Z (n,0,off)
 |.ep n _ i off=>Z (n,i,off)
 |_=>Y
def lg(st:St):AV->Option (Nat×List (List AV))
 |.pt n _=>match st.hp n with|some (.row z rows)=>Z (z,rows)|_=>Y
 |.ep n z _ _=>match st.hp n with|some (.row z' rows)=>if z'=z then Z (z,rows)else Y|_=>Y
 |_=>Y
def w5(P:Program)(T:TypeId)(n:Nm)(i off:Nat)(v0:List AV)(st:St):St:=St.eW (vX (λj=>.c n i (off+j)) (zb P T) 0 v0) st
def ll(P:Program)(T:TypeId)(n:Nm)(i off:Nat)(v1:List AV):List AV:=vM (λj=>.c n i (off+j)) (zb P T) 0 v1
def nP(n:Nm)(z i off:Nat)(rows:List (List AV))(vals:List AV)(st:St):St:=canon (kg (λj=>.c n i (off+j)) 0 vals) (st.zW n (.row z (jn rows i off vals)))
theorem Um(h:v1.map j5=v0.map j5){x:AV}(hx:v1[j]?=Z x)(hn:j5 x=B):∃y,v0[j]?=Z y/\j5 y=B:=by
 have:(v1.map j5)[j]?=Z B:=qx
 simp_all
theorem qC2{p:Operand}(h:Rg P own C w0 g st a w)(ho:o.op=.store T p x)(hd:o.dst=Y)(hT:(P.info? T).isSome)
  (hv0:(ev st x).cells=Z v0)(hlen:O v0=qi P T)(hp0:pl (ev st p)=Z (n,i,off))(hp1:pl (ev (w5 P T n i off v0 st) p)=Z (n,i,off))(hv1:(ev (w5 P T n i off v0 st) x).cells=Z v1)
  (hsame:v1.map j5=v0.map j5)(hrows:lg (w5 P T n i off v0 st) (ev (w5 P T n i off v0 st) p)=Z (z,rows))(hi:i<O rows)(hoff:off+O v1<=z):
  bK P o a w λa' w'=>kV P own C w0 g (nP n z i off rows (ll P T n i off v1) (w5 P T n i off v0 st)) a' w':=by
 have hsz:(a.eval x).cells.size=qi P T:=by
  have:=((h.ev x).cells hv0).1
  simp_all
 obtain⟨g1,h1,hfree,_,hu1⟩:=h.eW (vX (λj=>.c n i (off+j)) (zb P T) 0 v0) (λp hp=>by obtain⟨i,e⟩:=B1 _ _ _ _ p hp;rw[e];rfl);obtain⟨l1,o1,r1⟩:=(h1.ev x).cells hv1;have hpv:=h1.ev p
 have place:∃b,a.eval p=.pointer (Z ⟨b,i*z+off,Y⟩)/\g1.φ n=Z b/\(w5 P T n i off v0 st).hp n=Z (.row z rows):=by
  change RV g1 w (a.eval p) (ev (w5 P T n i off v0 st) p)at hpv
  generalize ev (w5 P T n i off v0 st) p=y at hpv hp1 hrows;generalize a.eval p=vp at hpv
  cases y with
  |pt m q=>
   simp only[pl,AS,s6]at hp1;obtain⟨rfl,rfl,rfl⟩:=hp1;simp only[lg]at hrows
   split at hrows
   .rename_i z' rows' e;obtain⟨rfl,rfl⟩:=ga (sI hrows)
    cases hpv<;>grind
   simp_all
  |ep m z0 k q=>
   simp only[pl,AS,s6]at hp1;obtain⟨rfl,rfl,rfl⟩:=hp1;simp only[lg]at hrows
   split at hrows
   .rename_i z' rows' e
    split at hrows
    .rename_i hz;subst hz;obtain⟨rfl,rfl⟩:=ga (sI hrows)
     cases hpv<;>grind
    simp_all
   simp_all
  |_=>simp[pl]at hp1
 obtain⟨b,ep,hk,hobj⟩:=place;have hvl:O (ll P T n i off v1)=O v1:=JK _ _ _ _
 obtain⟨cur,U,q1,q2,q3⟩:=h1.qEL (n:=n) (z:=z) (i:=i) (off:=off) (b:=b) (rows:=rows) (nv:=(a.eval x).cells.toList) (vals:=ll P T n i off v1) hobj hk hi qA qA o1 (by
  intro j v y hv hy;simp only[ll]at hy;rw[JJ]at hy;obtain⟨y0,hy0,rfl⟩:=zq.1 hy;refine(r1 j v y0 hv hy0).zc λhnil=>?_;obtain⟨y1,hy1,hy1'⟩:=Um hsame hy0 hnil;exact hfree _ (Wb (λj=>.c n i (off+j)) (zb P T) v0 0 j y1 hy1 hy1'))
 refine .inr ⟨w.setRow b (cur.toList.take (i*z+off)++(a.eval x).cells.toList++cur.toList.drop (i*z+off+O (a.eval x).cells.toList)).toArray,?_,?_⟩
 .grind[qAn,execOp,Sem.run_bind,Result.andThen_ok,Sem.run_pure]
 .rw [hd];obtain⟨g2,hu2,h2⟩:=q3.canon _ (Ba (λj=>.c n i (off+j)) (λ_=>rfl) (ll P T n i off v1) 0);exact⟨g2,hu1.trans hu2,h2⟩
end
def yW(P:Program)(T:TypeId):Option TypeId:=
 match P.underlying T with
 |some (.slice e)=>match P.info? e with
  |some i=>match i.zero with
   |some z=>if z.cells.size=i.size/\0<i.size/\i.bytes<=32768 then Z e else Y
   |none=>Y
  |none=>Y
 |_=>Y
theorem EY{P:Program}(h:yW P T=Z e):∃i z,P.underlying T=Z (.slice e)/\P.info? e=Z i/\i.zero=Z z/\z.cells.size=i.size/\0<i.size/\i.bytes<=32768/\qi P e=i.size:=by
 unfold yW at h
 split at h<;>grind[qi]
def be(st:St)(z:Nat):AV->Option (List (List AV))
 |.sl z' rows=>if z'=z then Z rows else Y
 |.hs n z' lo len=>match st.hp n with
  |some (.row z'' rows)=>if z'=z/\z''=z/\lo+len<=O rows then Z ((rows.drop lo).take len)else Y
  |_=>Y
 |.sc (.slice Y 0 0)=>Z []
 |_=>Y
def xd(f:Nat->Nat->Value)(m sz:Nat):List Value:=(List.range (m*sz)).map (λt=>f (t/sz) (t%sz))
theorem Mr(f:Nat->Nat->Value)(m sz:Nat):O (xd f m sz)=m*sz:=by simp[xd]
theorem WT(f:Nat->Nat->Value){t:Nat}(h:t<m*sz):(xd f m sz)[t]?=Z (f (t/sz) (t%sz)):=by
 simp[xd,h]
theorem WS(f:Nat->Nat->Value)(hi:i<m)(hj:j<sz):(xd f m sz)[i*sz+j]?=Z (f i j):=by
 have h:i*sz+j<m*sz:=by
  have:(i+1)*sz<=m*sz:=bM _ hi
  grind
 grind[WT,Nat.add_mul_div_right,Nat.div_eq_of_lt,Nat.add_mul_mod_self_right,Nat.mod_eq_of_lt]
def nu(g:Gh)(w:World)(v:Value)(z:Nat)(rows:List (List AV)):Prop:=
 (∃ad c,v=.slice ad 0 c/\rows=[])\/∃(ad:Addr)(c:Nat)(news:List Value),v=.slice (Z ad) (O rows) c/\O news=O rows*z/\(∀j u,news[j]?=Z u->w.cell? (ad.add j)=Z u)/\(∀u∈news,u.oneCell'=B) /\
   (∀r∈rows,O r=z)/\∀(i:Nat)row,rows[i]?=Z row->∀(j:Nat)x,row[j]?=Z x->RV g w (news.getD (i*z+j) undef) x
section
variable{P:Program}{own:Nat->Prop}{C:Nat->Prop}{w0:World}{g:Gh}{st:St}{a:Act}{w:World}
theorem nu.make{o n:Nat}(f:Nat->Nat->Value)(hn:O rows=n)(hu:∀r∈rows,O r=z)
  (hcell:∀i j,i<n->j<z->w.cell? ⟨b,o+i*z+j,Y⟩=Z (f i j))(ho:∀i j,i<n->j<z->(f i j).oneCell'=B)
  (hr:∀(i:Nat)row,rows[i]?=Z row->∀(j:Nat)x,row[j]?=Z x->RV g w (f i j) x):nu g w (.slice (Z ⟨b,o,Y⟩) n c) z rows:=by
 subst hn
 have dm:∀t,t<O rows*z->t/z<O rows/\t%z<z/\t/z*z+t%z=t:=by
  intro t ht;have hpos:0<z:=Nat.pos_of_ne_zero qx
  simp_all[Nat.div_lt_iff_lt_mul,Nat.mod_lt,pz,Nat.div_add_mod]
 refine .inr ⟨⟨b,o,Y⟩,c,xd f (O rows) z,rfl,Mr _ _ _,?_,?_,hu,?_⟩<;>grind[Mr,Addr.add_lit,ko,WS]
theorem Inv.partAt{hp:Nm->Option AO}(h:Inv own C w0 g hp w){lo len:Nat}(hn:hp n=Z (.row z rows))(hk:g.φ n=Z b)(hle:lo+len<=O rows):
  nu g w (.slice (Z ⟨b,lo*z,Y⟩) len c) z ((rows.drop lo).take len):=by
 have ho:=h.obj n _ hn;simp only[jd,hk]at ho;obtain⟨cur,T,h1,h2,h3,h4,h5,h6,h7⟩:=ho
 have bnd:∀i j,i<len->j<z->(lo+i)*z+j<O rows*z:=by
  intro i j hi hj;have:(lo+i+1)*z<=O rows*z:=bM _ qA
  grind
 have hcs:O rows*z<=cur.size:=by simp_all[bM]
 refine nu.make (λi j=>cur.getD ((lo+i)*z+j) undef) qx (λr hr=>h5 r (List.mem_of_mem_drop (mH hr))) ?_ ?_ ?_
 .simp_all<;>grind[cell_of_row]
 .simp_all
 grind
theorem Rg.src(h:Rg P own C w0 g st a w){x:AV}(hv:RV g w v x)(hs:be st z x=Z rows):nu g w v z rows:=by
 unfold be at hs
 split at hs
 .split at hs
  .rename_i hz;subst hz;obtain rfl:=sI hs
   cases hv with
   |yV ad cap=>constructor<;>grind
   |eL b off cap n _ rows f hC hn hcap hu hcell ho hr=>exact nu.make f hn hu hcell ho hr
  .cases hs
 .split at hs
  .rename_i z'' rows' hn
   split at hs
   .rename_i hc;obtain⟨hz1,hz2,hle⟩:=hc;subst hz1;obtain rfl:=sI hs;rw[hz2]at hn
    cases hv with
    |de=>constructor<;>grind
    |bT _ _ _ _ b cap ad hk h1 h2 h3=>
     by_cases h0:0<cap
     .rw [h3 h0];exact h.inv.partAt hn hk hle
     grind[be,nu]
   .cases hs
  .cases hs
 .constructor<;>grind[RV.jF]
 .cases hs
def qAS{i:TypeInfo}(ht:P.underlying t=Z (.slice e))(hi:P.info? e=Z i)(b off sLen sCap:Nat)(cur:Array Value)(T:TypeId)(hg:w.heap[b]?=Z (.cells cur T (0,0)))
  (ad:Addr)(m c:Nat)(news:List Value)(hl:O news=m*i.size)(hnews:∀j u,news[j]?=Z u->w.cell? (ad.add j)=Z u)(h1:∀u∈news,u.oneCell'=B)
  (hroom:sLen+m<=sCap)(hfit:off+sLen*i.size+O news<=cur.size):
  (Builtin.append_ #[t,t] ty #[.slice (Z ⟨b,off,Y⟩) sLen sCap,.slice (Z ad) m c]).run P w =
    .ok (.slice (Z ⟨b,off,Y⟩) (sLen+m) sCap) (w.setRow b (cur.toList.take (off+sLen*i.size)++news++cur.toList.drop (off+sLen*i.size+O news)).toArray):=by
 have hf:=run_firstCells_some (P:=P) w i.size m ad m c news hl hnews;have hst:=run_storeCells_at P b (off+sLen*i.size) T news 0 cur w hg qA h1;simp only[fJ]at hst;simp[Builtin.append_,run_underlying ht,sizeOf,typeInfo,hi,Builtin.lenOf,hroom,hf,Addr.add_lit,hst]
def EJ{i:TypeInfo}(ht:P.underlying t=Z (.slice e))(hi:P.info? e=Z i)(base ad:Option Addr)(n cap c:Nat)(hle:n<=cap):
  (Builtin.append_ #[t,t] ty #[.slice base n cap,.slice ad 0 c]).run P w=.ok (.slice base n cap) w:=by
 cases ad with
 |none=>cases base<;>simp[Builtin.append_,run_underlying ht,sizeOf,typeInfo,hi,Builtin.lenOf,Builtin.firstCells,hle,storeCells]
 |some ad=>cases base<;>simp[Builtin.append_,run_underlying ht,sizeOf,typeInfo,hi,Builtin.lenOf,Builtin.firstCells,hle,storeCells,loadCells,loadCellsFrom]
def St.gn(st:St)(d:Nat)(n:Option Nm):St:=st.nm (kl (.s d)) (λm=>if n=Z m then Y else jN (.s d) st.hp m)
def wO(d z len:Nat)(n:Option Nm)(rows:List (List AV))(st:St):St:=
 ((st.gn d n).zW (.s d) (.row z (rows.map (λr=>r.map (AV.tr (kl (.s d))))))).put (Z d) (.hs (.s d) z 0 len)
def RJ{n:Option Nm}:st.nm (kl (.s d)) (λm=>if(decide (n=Z m))then Y else jN (.s d) st.hp m)=st.gn d n:=by
 simp[St.gn]
theorem Rg.A0(h:Rg P own C w0 g st a w){len:Nat}{n:Option Nm}{w':World}{ad:Option Addr}(hn:d<st.n)
  (h1:w'.os=w.os)(h2:w'.tape=w.tape)(h3:w'.output=w.output)(h4:w.heap.size<=w'.heap.size)(hw:∀b',b'≠b->b'<w.heap.size->w'.heap[b']?=w.heap[b']?)
  (hb:w.heap.size<=b\/∃m o,n=Z m/\st.hp m=Z o/\g.φ m=Z b)(hlt:b<w'.heap.size)(hcap:len<=cap)(had:0<cap->ad=Z ⟨b,0,Y⟩)
  (ho:AQ (g.fresh (.s d) (Z b) cap) w' b cap z (rows.map (λr=>r.map (AV.tr (kl (.s d)))))):
  kV P own C w0 g (wO d z len n rows st) (a.put (Z d) (.slice ad len cap)) w':=by
 have hm:=h.made (.s d) (.row z (rows.map (λr=>r.map (AV.tr (kl (.s d)))))) b cap w' [] qB (λm=>decide (n=Z m)) h1 h2 h3 h4 (by
  simp_all) hlt hw (by grind[jd,wA])
 simp only[St.ki,RJ]at hm;exact⟨_,.fresh rfl,hm.put (d:=Z d) (λt e=>Fj) (.bT (.s d) z 0 len b cap ad (wA _ _ _).1 hcap (by grind[wA]) (λh0=>qQ))⟩
theorem Rg.FA(h:Rg P own C w0 g st a w){n:Option Nm}(hn:d<st.n):kV P own C w0 g (wO d z 0 n [] st) (a.put (Z d) (.slice Y 0 0)) w:=by
 obtain⟨g',h1,h2,hu,_⟩:=h.NC (.s d) z
 have h3:=h1.weaken (wO d z 0 n [] st).hp (λm o e=>by
  simp only[wO,St.put,St.zW,St.gn,St.nm]at e;simp only[St.zW,St.kill,St.nm]
  grind)
 exact⟨g',hu rfl,h3.put (d:=Z d) (λt e=>by grind[St.zW,St.nm,St.kill]) h2⟩
theorem ID(h:Rg P own C w0 g st a w){len:Nat}{w':World}{cur':Array Value}{old:Nat->Value}{news:List Value}{rows1 rows2:List (List AV)}(hC':∀b',C b'->w'.heap[b']?=w.heap[b']?)
  (l1:O rows1=len)(u1:∀r∈rows1,O r=z)(o1:∀j,j<len*z->(old j).oneCell'=B)(r1:∀(i:Nat)row,rows1[i]?=Z row->∀(j:Nat)x,row[j]?=Z x->RV g w (old (i*z+j)) x)
  (l2:O rows2=m)(u2:∀r∈rows2,O r=z)(ln:O news=m*z)(o2:∀u∈news,u.oneCell'=B)(r2:∀(i:Nat)row,rows2[i]?=Z row->∀(j:Nat)x,row[j]?=Z x->RV g w (news.getD (i*z+j) undef) x)
  (hheap:w'.heap[b]?=Z (.cells cur' T (0,0)))(hsz:cur'.size=cap*z)(hmax:cap<=maxLen)(hle:len+m<=cap)
  (g1:∀j,j<len*z->cur'.getD j undef=old j)(g2:∀j,j<m*z->cur'.getD (len*z+j) undef=news.getD j undef):
  AQ (g.fresh (.s d) (Z b) cap) w' b cap z ((rows1++rows2).map (λr=>r.map (AV.tr (kl (.s d))))):=by
 refine⟨cur',T,hheap,hsz,hmax,qp,?_,?_,?_⟩
 .grind
 .intro j hj;simp only[rA,u7,l1,l2,nz]at hj;by_cases hlt:j<len*z
  .simp_all
  .have:j=len*z+(j-len*z):=qA;rw[this,g2 _ qA]
   grind
 .intro i row hrow j x hx;rw[j3]at hrow;obtain⟨r0,h0,rfl⟩:=zq.1 hrow;rw[j3]at hx;obtain⟨x0,hx0,rfl⟩:=zq.1 hx;rw[iw]at h0;by_cases hlt:i<O rows1
  .rw [if_pos hlt]at h0;have hj:j<z:=qx;have h5:(i+1)*z<=len*z:=bM _ qA;rw[nz,s5]at h5;rw[g1 _ qA];exact h.EN hC' (r1 i r0 h0 j x0 hx0)
  .rw [if_neg hlt]at h0;have hj:j<z:=qx;have hi:i-O rows1<m:=qx;have h5:(i-O rows1+1)*z<=m*z:=bM _ hi;rw[nz,s5]at h5
   have e:i*z+j=len*z+((i-O rows1)*z+j):=by
    rw[Nat.sub_mul,l1];have:len*z<=i*z:=bM _ qA;omega
   rw[e,g2 _ qA];exact h.EN hC' (r2 _ r0 h0 j x0 hx0)
theorem RG{len:Nat}{v2:Value}{rows0 rows2:List (List AV)}(h:Rg P own C w0 g st a w)(hd:d<st.n)(hT:yW P T=Z E)(hz:qi P E=z)
  (hv:RV g w v (.hs n z 0 len))(hn:st.hp n=Z (.row z rows0))(hle:len<=O rows0)(hlen:len+O rows2<=4294967296)(hs:nu g w v2 z rows2):
  ∃v' w',(Builtin.append_ #[T,T] ty #[v,v2]).run P w=.ok v' w'/\kV P own C w0 g (wO d z (len+O rows2) (Z n) (rows0.take len++rows2) st) (a.put (Z d) v') w':=by
 obtain⟨i,zv,t1,t2,t3,t4,t5,t6,t7⟩:=EY hT;have hiz:i.size=z:=t7.symm.trans hz
 have hbytes:(len+O rows2)*i.bytes<=140737488355328:=by
  have:=Nat.mul_le_mul hlen t6;omega
 have ho:=h.inv.obj n _ hn
 cases hv with
 |de _ _ hk=>
  simp only[jd,hk]at ho;subst ho;rcases hs with⟨ad,c,rfl,rfl⟩|⟨ad,c,news,rfl,e2,e3,e4,e5,e6⟩
  .exact⟨.slice Y 0 0,w,EJ t1 t2 Y ad 0 0 c (qb _),h.FA hd⟩
  .by_cases hm:O rows2=0
   .obtain rfl:=bN hm;exact⟨.slice Y 0 0,w,EJ t1 t2 Y (Z ad) 0 0 c (qb _),h.FA hd⟩
   .obtain⟨v',w',hrun,r1,r2,_,r4⟩:=run_append_own_at (P:=P) w 0 T ty E i zv z i.bytes t1 t2 t3 hiz rfl (t4.trans hiz) qA (.slice Y 0 0) 0 [] ⟨qB,.inl ⟨rfl,rfl⟩⟩ ad (O rows2) c news e2 e3 e4 tQ hbytes (Nat.zero_le _);rcases r1.2 with⟨_,h0⟩|⟨b,cap,cur,rfl,_,q1,q2,q3,q4,q5⟩
    .omega
    .have hb:b=w.heap.size:=by
      grind[Value.ownBlock]
     subst hb;have hC':∀b',C b'->w'.heap[b']?=w.heap[b']?:=λb' hC=>r2.block b' (h.inv.ur b' hC) Cw;refine⟨_,w',hrun,h.A0 (b:=w.heap.size) hd r2.os r2.tape r2.output r2.size (λb' _ hb'=>r2.block b' hb' Cw) (.inl (qb _)) (oA.1 q1).1 q2 (λ_=>rfl) ?_⟩
     have:=ID h (d:=d) (z:=z) (len:=0) (m:=O rows2) (old:=λ_=>undef) (news:=news) (rows1:=[]) (rows2:=rows2) hC' qB qB qB qB rfl e5 e2 e4 e6 q1 q4 q3 q2 qB (λj hj=>by
      simp_all<;>grind)
     simp_all
 |bT _ _ _ _ b cap ad0 hk g1 g2 g3=>
  rw[gc]at g2;have hblk:=h.inv.qG n _ b hn hk;simp only[jd,hk,<- g2]at ho;obtain⟨cur,U,c1,c2,c3,c4,c5,c6,c7⟩:=ho;have hrl:len*z<=O rows0*z:=bM _ hle;have hrc:O rows0*z<=cap*z:=bM _ c4
  have base:∀(w':World)(m b' cap':Nat)(cur':Array Value)(U':TypeId)(news:List Value)(rows2:List (List AV)),(∀b',C b'->w'.heap[b']?=w.heap[b']?)->O rows2=m->(∀r∈rows2,O r=z)->O news=m*z->(∀u∈news,u.oneCell'=B) ->
    (∀(i:Nat)row,rows2[i]?=Z row->∀(j:Nat)x,row[j]?=Z x->RV g w (news.getD (i*z+j) undef) x)->w'.heap[b']?=Z (.cells cur' U' (0,0))->cur'.size=cap'*z->cap'<=maxLen->len+m<=cap' ->
    (∀j,j<len*z->cur'.getD j undef=cur.getD j undef)->(∀j,j<m*z->cur'.getD (len*z+j) undef=news.getD j undef) ->
    AQ (g.fresh (.s d) (Z b') cap') w' b' cap' z ((rows0.take len++rows2).map (λr=>r.map (AV.tr (kl (.s d))))):=by
   intro w' m b' cap' cur' U' news rows2 hC' x1 x2 x3 x4 x5 x6 x7 x8 x9 x10 x11;refine ID h (m:=m) (old:=λj=>cur.getD j undef) (news:=news) hC' qQ (λr hr=>c5 r (mH hr)) (λj hj=>c6 j qA) (λi row hrow j x hx=>?_) x1 x2 x3 x4 x5 x6 x7 x8 x9 x10 x11
   grind
  have nothing:∀ad c,v2=.slice ad 0 c->rows2=[]->∃v' w',(Builtin.append_ #[T,T] ty #[.slice ad0 len cap,v2]).run P w=.ok v' w'/\kV P own C w0 g (wO d z (len+O rows2) (Z n) (rows0.take len++rows2) st) (a.put (Z d) v') w':=by
   rintro ad c rfl rfl;refine⟨_,w,EJ t1 t2 ad0 ad len cap c g1,?_⟩;exact h.A0 (b:=b) hd rfl rfl rfl (qb _) (λ_ _ _=>rfl) (.inr ⟨n,_,rfl,hn,hk⟩) hblk.2.2 qA (λh0=>qx) (base w 0 b cap cur U [] [] (λ_ _=>rfl) rfl qB qB qB qB c1 c2 c3 qA (λ_ _=>rfl) qB)
  rcases hs with⟨ad,c,e,e'⟩|⟨ad,c,news,e1,e2,e3,e4,e5,e6⟩
  .grind
  .by_cases hm:O rows2=0
   .exact nothing (Z ad) c (by rw[e1,hm]) (bN hm)
   .subst e1;by_cases hroom:len+O rows2<=cap
    .have h0:0<cap:=qA;rw[g3 h0];have hbound:(len+O rows2)*z<=cap*z:=bM _ hroom;rw[nz]at hbound;have hrun:=qAS (P:=P) (ty:=ty) t1 t2 b (0*z) len cap cur U c1 ad (O rows2) c news qx e3 e4 hroom qx;rw[hiz]at hrun;simp only[Nat.zero_mul,gc]at hrun ⊢;refine⟨_,_,hrun,?_⟩;have hsz':len*z+O news<=O cur.toList:=qp;have hC':∀b',C b'->(w.setRow b (cur.toList.take (len*z)++news++cur.toList.drop (len*z+O news)).toArray).heap[b']?=w.heap[b']?:=λb' hC=>setRow_other w _ b' _ (λe=>hblk.1 (e ▸ hC));refine h.A0 (b:=b) hd rfl rfl rfl qB (λb' hne _=>setRow_other w _ b' _ hne) (.inr ⟨n,_,rfl,hn,hk⟩) (by simpa using hblk.2.2) hroom (λ_=>rfl) ?_;refine base _ (O rows2) b cap _ U news rows2 hC' rfl e5 e2 e4 e6 (setRow_heap w _ _ _ U _ c1) ?_ c3 hroom (λj hj=>?_) (λj hj=>?_)
     .simp only[List.size_toArray,u7,ge,List.length_drop,Array.length_toList];omega
     .rw [ER _ _ _ hsz',if_neg qA];simp
     .rw [ER _ _ _ hsz',if_pos qA];simp
    .have hcells:∀j u,(cur.toList.take (len*z))[j]?=Z u->w.cell? ⟨b,0*z+j,Y⟩=Z u:=by
      grind[cell_of_row]
     have hol:O (cur.toList.take (len*z))=len*z:=qx
     have grow:∃v' w',(Builtin.append_ #[T,T] ty #[.slice ad0 len cap,.slice (Z ad) (O rows2) c]).run P w=.ok v' w'/\w'.ownsRow w.heap.size E z v' (len+O rows2) (cur.toList.take (len*z)++news)/\w.grownBy w' Y:=by
      cases ad0 with
      |some b0=>
       refine run_append_arg_grows (P:=P) w T ty E i zv z i.bytes t1 t2 t3 hiz rfl (t4.trans hiz) qA b0 len cap (cur.toList.take (len*z)) hol (λj u hj=>?_) ad (O rows2) c news e2 e3 qA tQ hbytes
       grind[Addr.add_lit]
      |none=>
       have h0:cap=0:=by
        grind
       subst h0;have hl0:len=0:=qA;subst hl0;obtain⟨v',w',hrun,r1,r2,_,r4⟩:=run_append_own_at (P:=P) w w.heap.size T ty E i zv z i.bytes t1 t2 t3 hiz rfl (t4.trans hiz) qA (.slice Y 0 0) 0 [] ⟨qB,.inl ⟨rfl,rfl⟩⟩ ad (O rows2) c news e2 e3 e4 tQ hbytes (qb _);exact⟨v',w',hrun,qx,r2⟩
     obtain⟨v',w',hrun,r1,r2⟩:=grow;rcases r1.2 with⟨_,h0⟩|⟨b',cap',cur',rfl,q0,q1,q2,q3,q4,q5⟩
     .omega
     .have hC':∀b',C b'->w'.heap[b']?=w.heap[b']?:=λb' hC=>r2.block b' (h.inv.ur b' hC) qB;refine⟨_,w',hrun,h.A0 (b:=b') hd r2.os r2.tape r2.output r2.size (λx _ hx=>r2.block x hx qB) (.inl q0) (oA.1 q1).1 q2 (λ_=>rfl) ?_⟩
      have get:∀j,j<(len+O rows2)*z->cur'.getD j undef=(cur.toList.take (len*z)++news).getD j undef:=by
       intro j hj;rw[<- q5,bO,AT,if_pos hj,bm,oB]
      rw[nz]at get;refine base w' (O rows2) b' cap' cur' E news rows2 hC' rfl e5 e2 e4 e6 q1 q4 q3 q2 (λj hj=>?_) (λj hj=>?_)
      .rw [get j qA,bO,iw,if_pos qA,AT,if_pos hj,bm,oB]
      .rw [get _ qA,bO,iw,if_neg qA,hol,Nat.add_sub_cancel_left,<- bO]
theorem OU(ho:o.op=.call {callee:=.builtin .append,args:=#[s,x],argTypes:=#[T,T]}){v':Value}{w':World}(e:(Builtin.append_ #[T,T] o.type #[a.eval s,a.eval x]).run P w=.ok v' w'):
  (execOp a.eval o).run P w=.ok (.value v') w':=by
 simp_all[execOp,resolve,invoke,builtin]
theorem RI{len:Nat}{rows0 rows2:List (List AV)}(h:Rg P own C w0 g st a w)(ho:o.op=.call {callee:=.builtin .append,args:=#[s,x],argTypes:=#[T,T]})(hd:o.dst=Z d)(hdn:d<st.n)
  (hT:yW P T=Z E)(hz:qi P E=z)(hs:ev st s=.hs n z 0 len)(hn:st.hp n=Z (.row z rows0))(hle:len<=O rows0)(hx:be st z (ev st x)=Z rows2)(hlen:len+O rows2<=4294967296):
  bK P o a w λa' w'=>kV P own C w0 g (wO d z (len+O rows2) (Z n) (rows0.take len++rows2) st) a' w':=by
 have hv:=h.ev s;rw[hs]at hv;obtain⟨v',w',e1,e2⟩:=RG (ty:=o.type) h hdn hT hz hv hn hle hlen (h.src (h.ev x) hx);constructor<;>grind[OU]
theorem RF{rows2:List (List AV)}(h:Rg P own C w0 g st a w)(ho:o.op=.call {callee:=.builtin .append,args:=#[s,x],argTypes:=#[T,T]})(hd:o.dst=Z d)(hdn:d<st.n)
  (hT:yW P T=Z E)(hz:qi P E=z)(hs:ev st s=.sc (.slice Y 0 0))(hx:be st z (ev st x)=Z rows2)(hlen:O rows2<=4294967296):
  bK P o a w λa' w'=>kV P own C w0 g (wO d z (O rows2) Y rows2 st) a' w':=by
 have hv:=h.ev s;rw[hs]at hv;have hsrc:=h.src (h.ev x) hx
 -- the nil slice,at a name of its own
 obtain⟨i,zv,t1,t2,t3,t4,t5,t6,t7⟩:=EY hT;have hiz:i.size=z:=t7.symm.trans hz
 have hbytes:O rows2*i.bytes<=140737488355328:=by
  have:=Nat.mul_le_mul hlen t6;omega
 have key:∃v' w',(Builtin.append_ #[T,T] o.type #[.slice Y 0 0,a.eval x]).run P w=.ok v' w'/\kV P own C w0 g (wO d z (O rows2) Y rows2 st) (a.put (Z d) v') w':=by
  have nothing:∀ad c,a.eval x=.slice ad 0 c->rows2=[]->∃v' w',(Builtin.append_ #[T,T] o.type #[.slice Y 0 0,a.eval x]).run P w=.ok v' w'/\kV P own C w0 g (wO d z (O rows2) Y rows2 st) (a.put (Z d) v') w':=by
   rintro ad c e rfl;rw[e];exact⟨.slice Y 0 0,w,EJ t1 t2 Y ad 0 0 c (qb _),h.FA hdn⟩
  rcases hsrc with⟨ad,c,e,e'⟩|⟨ad,c,news,e1,e2,e3,e4,e5,e6⟩
  .simp_all
  .by_cases hm:O rows2=0
   .simp_all
   .rw [e1];obtain⟨v',w',hrun,r1,r2,_,r4⟩:=run_append_own_at (P:=P) w 0 T o.type E i zv z i.bytes t1 t2 t3 hiz rfl (t4.trans hiz) qA (.slice Y 0 0) 0 [] ⟨qB,.inl ⟨rfl,rfl⟩⟩ ad (O rows2) c news e2 e3 e4 tQ qQ (Nat.zero_le _);rcases r1.2 with⟨_,h0⟩|⟨b,cap,cur,rfl,_,q1,q2,q3,q4,q5⟩
    .omega
    .have hb:b=w.heap.size:=by
      grind[Value.ownBlock]
     subst hb;have hC':∀b',C b'->w'.heap[b']?=w.heap[b']?:=λb' hC=>r2.block b' (h.inv.ur b' hC) Cw;rw[gc]at hrun q2;refine⟨_,w',hrun,h.A0 (b:=w.heap.size) hdn r2.os r2.tape r2.output r2.size (λb' _ hb'=>r2.block b' hb' Cw) (.inl (qb _)) (oA.1 q1).1 q2 (λ_=>rfl) ?_⟩
     have:=ID h (d:=d) (z:=z) (len:=0) (m:=O rows2) (old:=λ_=>undef) (news:=news) (rows1:=[]) (rows2:=rows2) hC' qB qB qB qB rfl e5 e2 e4 e6 q1 q4 q3 qA qB (λj hj=>by
      simp_all<;>grind)
     simp_all
 constructor<;>grind[OU,RV.jF]
end
end Go.Hm
end
