import Derived.Test.YtdnebaieamppbaaGreatDoorE06
set_option linter.unusedSimpArgs false
set_option linter.unusedVariables false
set_option maxRecDepth 100000
set_option maxHeartbeats 4000000

section
namespace Go.Hm
open Go Go.RowKit
abbrev iv (n:Int):AV:=.sc (.int .i64 n)
abbrev bv (b:Bool):AV:=.sc (.bool b)
abbrev hL (n:Nm) (len:Nat):AV:=.hs n 1 0 len
theorem Zv {n:Int} (h1:-9223372036854775808<=n) (h2:n<=9223372036854775807):IntKind.i64.wrap n=n:=by
 grind[IntKind.wrap_i64]
section
variable {st:St} {P:Program} {n m q k0 k1:Nm} {o:AO} {d t a b i j k i' j' k':Nat} {x:AV} {f:Nm->Option Nm}
@[simp] theorem under_ss:Nm.under (.s a) (.s b)=decide (b=a):=wH
@[simp] theorem under_sc:Nm.under (.s a) (.c q i j)=Nm.under (.s a) q:=wH
@[simp] theorem under_su:Nm.under (.s a) (.u k i j)=false:=wH
@[simp] theorem under_cs:Nm.under (.c q i j) (.s b)=false:=wH
@[simp] theorem under_cu:Nm.under (.c q i j) (.u k i' j')=false:=wH
@[simp] theorem under_cc:Nm.under (.c q i j) (.c m i' j')=(decide (m=q/\i'=i/\j'=j)||Nm.under (.c q i j) m):=wH
@[simp] theorem under_us:Nm.under (.u k i j) (.s b)=false:=wH
@[simp] theorem under_uc:Nm.under (.u k i j) (.c q i' j')=Nm.under (.u k i j) q:=wH
@[simp] theorem under_uu:Nm.under (.u k i j) (.u k' i' j')=decide (k'=k/\i'=i/\j'=j):=wH
@[simp] theorem under_refl:Nm.under n n=true:=Nm.Z6 n
@[simp] theorem under_c1:Nm.under n (.c n i j)=true:=wH
@[simp] theorem under_c2:Nm.under n (.c (.c n i j) i' j')=true:=wH
@[simp] theorem ren_sc:Nm.Zn (.s a) k1 (.c q i j)=.c (Nm.Zn (.s a) k1 q) i j:=by simp [Nm.Zn]
@[simp] theorem ren_self:Nm.Zn n k1 n=k1:=by cases n <;> simp [Nm.Zn]
@[simp] theorem ren_c1:Nm.Zn n k1 (.c n i j)=.c k1 i j:=by
 simp_all[Nm.qAT,Nm.Zn]
@[simp] theorem ren_c2:Nm.Zn n k1 (.c (.c n i j) i' j')=.c (.c k1 i j) i' j':=by
 simp_all[Nm.qAT,Nm.Zn]
@[simp] theorem kl_eq:kl k0 m=if Nm.under k0 m then none else some m:=rfl
@[simp] theorem mv_eq:mv k0 k1 m=if Nm.under k0 m then some (Nm.Zn k0 k1 m) else if Nm.under k1 m then none else some m:=rfl
@[simp] theorem put_tm:(st.put (some d) x).tm t=if t=d then x else st.tm t:=rfl
@[simp] theorem put_no:st.put none x=st:=rfl
@[simp] theorem put_hp':(st.put (some d) x).hp=st.hp:=rfl
@[simp] theorem put_gl':(st.put (some d) x).gl=st.gl:=rfl
@[simp] theorem setO_tm:(st.Zp n o).tm=st.tm:=rfl
@[simp] theorem setO_gl:(st.Zp n o).gl=st.gl:=rfl
@[simp] theorem FV:(st.Zp n o).hp m=if m=n then some o else st.hp m:=rfl
@[simp] theorem kill_tm:(st.kill n).tm t=(st.tm t).tr (kl n):=rfl
@[simp] theorem kill_gl:(st.kill n).gl=st.gl:=rfl
@[simp] theorem kill_hp:(st.kill n).hp m=if Nm.under n m then none else (st.hp m).map (AO.tr (kl n)):=rfl
@[simp] theorem move_tm:(st.move n q).tm t=(st.tm t).tr (mv n q):=rfl
@[simp] theorem move_gl:(st.move n q).gl=st.gl:=rfl
@[simp] theorem T5:(st.move n q).hp m=if Nm.under q m then (if mv n q (Nm.Zn q n m)=some m then (st.hp (Nm.Zn q n m)).map (AO.tr (mv n q)) else none) else if Nm.under n m then none else (st.hp m).map (AO.tr (mv n q)):=rfl
@[simp] theorem apd_tm {p:Option Nm}:(st.apd d p).tm t=(st.tm t).tr (kl (.s d)):=rfl
@[simp] theorem apd_gl {p:Option Nm}:(st.apd d p).gl=st.gl:=rfl
@[simp] theorem O2 {p:Option Nm}:(st.apd d p).hp m=if p=some m then none else (st.kill (.s d)).hp m:=rfl
@[simp] theorem apSt_eq {z len:Nat} {p:Option Nm} {rows:List (List AV)}:xV d z len p rows st=((st.apd d p).Zp (.s d) (.row z (rows.map (λr=>r.map (AV.tr (kl (.s d))))))).put (some d) (.hs (.s d) z 0 len):=rfl
@[simp] theorem mkSt_eq {z l:Nat} {zv:List AV}:Vy d z l zv st=((st.kill (.s d)).Zp (.s d) (.row z (List.replicate l zv))).put (some d) (.hs (.s d) z 0 l):=rfl
@[simp] theorem bsSt_eq {E z:Nat} {rows:List (List AV)}:RF P E d z rows st=canon (xQ (λi j=>.c (.s d) i j) 0 (wS P E d 0 (rows.map (λr=>r.map (AV.tr (kl (.s d)))))))
  (((St.qAA (ud P E d 0 (rows.map (λr=>r.map (AV.tr (kl (.s d)))))) (st.kill (.s d))).Zp (.s d) (.row z (wS P E d 0 (rows.map (λr=>r.map (AV.tr (kl (.s d)))))))).put (some d) (.hs (.s d) z 0 rows.length)):=rfl
@[simp] theorem boxSt_eq {T:TypeId} {cs:List AV}:lg P T d cs st=canon (prs (Nm.c (.s d) 0) 0 (zcs (Nm.c (.s d) 0) (tce P T) 0 (cs.map (AV.tr (kl (.s d))))))
  (((St.qAA (zj (Nm.c (.s d) 0) (tce P T) 0 (cs.map (AV.tr (kl (.s d))))) (st.kill (.s d))).Zp (.s d) (.row (Zq P T) [zcs (Nm.c (.s d) 0) (tce P T) 0 (cs.map (AV.tr (kl (.s d))))])).put (some d) (.pt (.s d) 0)):=rfl
@[simp] theorem mpSt_eq:Vx d st=((st.kill (.s d)).Zp (.s d) (.map [])).put (some d) (.mp (.s d)):=rfl
@[simp] theorem asgSt_eq {T:TypeId}:HO P T d x st=if zT x then ((((st.kill (.s d)).Zp (.s d) (.row (((tel P T).map (Zq P)).getD 0) []))).put (some d) (.hs (.s d) (((tel P T).map (Zq P)).getD 0) 0 0))
  else match sNm x with
   | some k=>if k=.s d then st.put (some d) x else (st.move k (.s d)).put (some d) (x.tr (mv k (.s d)))
   | none=>st.put (some d) x:=rfl
@[simp] theorem canon_nil:canon [] st=st:=rfl
@[simp] theorem canon_cons {p:Nm×Nm} {l:List (Nm×Nm)}:canon (p::l) st=canon l (st.move p.1 p.2):=rfl
@[simp] theorem setNils_nil:St.qAA [] st=st:=rfl
@[simp] theorem DB {p:Nm×Nat} {l:List (Nm×Nat)}:St.qAA (p::l) st=(St.qAA l st).Zp p.1 (.row p.2 []):=rfl
@[simp] theorem addNils_nil:St.qA5 [] st=st:=rfl
@[simp] theorem addNils_cons {p:Nm×Nat} {l:List (Nm×Nat)}:St.qA5 (p::l) st=St.qA5 l ((st.kill p.1).Zp p.1 (.row p.2 [])):=rfl
@[simp] theorem stoK_eq {T:TypeId} {off:Nat} {v0:List AV}:xN P T n i off v0 st=St.qA5 (zj (λj=>.c n i (off+j)) (tce P T) 0 v0) st:=rfl
@[simp] theorem stoV_eq {T:TypeId} {off:Nat} {v1:List AV}:Ol P T n i off v1=zcs (λj=>.c n i (off+j)) (tce P T) 0 v1:=rfl
@[simp] theorem stoSt_eq {z off:Nat} {rows:List (List AV)} {vals:List AV}:Ac n z i off rows vals st=canon (prs (λj=>.c n i (off+j)) 0 vals) (st.Zp n (.row z (qk rows i off vals))):=rfl
@[simp] theorem ownRows_nil {T i:Nat}:wS P T d i []=[]:=rfl
@[simp] theorem ownRows_cons {T i:Nat} {r:List AV} {l:List (List AV)}:wS P T d i (r::l)=zcs (λj=>.c (.s d) i j) (tce P T) 0 r::wS P T d (i+1) l:=rfl
@[simp] theorem nilKeysLL_nil {T i:Nat}:ud P T d i []=[]:=rfl
@[simp] theorem nilKeysLL_cons {T i:Nat} {r:List AV} {l:List (List AV)}:ud P T d i (r::l)=zj (λj=>.c (.s d) i j) (tce P T) 0 r++ud P T d (i+1) l:=rfl
@[simp] theorem prsLL_nil {key:Nat->Nat->Nm}:xQ key i []=[]:=rfl
@[simp] theorem prsLL_cons {key:Nat->Nat->Nm} {r:List AV} {l:List (List AV)}:xQ key i (r::l)=prs (key i) 0 r++xQ key (i+1) l:=rfl
@[simp] theorem zcs_nil {key:Nat->Nm} {es:List Nat}:zcs key es j []=[]:=rfl
@[simp] theorem Ot {key:Nat->Nm} {es:List Nat} {l:List AV}:zcs key es j (x::l)=(if zT x then .hs (key j) (es.getD j 0) 0 0 else x)::zcs key es (j+1) l:=rfl
@[simp] theorem nk_nil {key:Nat->Nm} {es:List Nat}:zj key es j []=[]:=rfl
@[simp] theorem T3 {key:Nat->Nm} {es:List Nat} {l:List AV}:zj key es j (x::l)=if zT x then (key j,es.getD j 0)::zj key es (j+1) l else zj key es (j+1) l:=rfl
@[simp] theorem prs_nil {key:Nat->Nm}:prs key j []=[]:=rfl
@[simp] theorem Py {key:Nat->Nm} {l:List AV}:prs key j (x::l)=match sNm x with|some k=>(k,key j)::prs key (j+1) l|none=>prs key (j+1) l:=rfl
@[simp] theorem rowsSet_one {r:List AV} {off:Nat} {vals:List AV}:qk [r] 0 off vals=[r.take off++vals++r.drop (off+vals.length)]:=rfl
@[simp] theorem rowsOf_nil:iX st []=some []:=rfl
@[simp] theorem rowsOf_cons {p:Nat×Operand} {l:List (Nat×Operand)}:iX st (p::l)=((ev st p.2).cells).bind λr=>(iX st l).map (r::·):=rfl
@[simp] theorem resL_nil:C8 P st []=some []:=rfl
@[simp] theorem resL_tmp {l:List ResultVar}:C8 P st (.tmp t::l)=(C8 P st l).map (st.tm t::·):=rfl
@[simp] theorem resL_cell {T:TypeId} {l:List ResultVar}:C8 P st (.cell t T::l)=((qAP st (st.tm t)).bind (λp=>I7 P T p.1 p.2)).bind λx=>(C8 P st l).map (x::·):=rfl
@[simp] theorem res1_one:MK [x]=x:=rfl
@[simp] theorem res1_nil:MK []=.tup []:=rfl
@[simp] theorem res1_two {y:AV} {l:List AV}:MK (x::y::l)=.tup (x::y::l):=rfl
@[simp] theorem noD_eq:noD m=false:=rfl
@[simp] theorem noH_eq:noH m=none:=rfl
@[simp] theorem finf_nil {D:Nm->Bool}:jc D [] m=if D m then some m else none:=rfl
@[simp] theorem finf_cons {D:Nm->Bool} {p:Nm×Nm} {l:List (Nm×Nm)}:jc D (p::l) m=if Nm.under p.1 m then some (Nm.Zn p.1 p.2 m) else jc D l m:=rfl
@[simp] theorem fing_nil:Tq [] m=none:=rfl
@[simp] theorem fing_cons {p:Nm×Nm} {l:List (Nm×Nm)}:Tq (p::l) m=if Nm.under p.2 m then some (Nm.Zn p.2 p.1 m) else Tq l m:=rfl
@[simp] theorem finH_eq {D:Nm->Bool} {sbs:List (Nm×Nm)} {hp:Nm->Option AO}:lQ D sbs hp m=if D m then (hp m).map (AO.tr (jc D sbs)) else match Tq sbs m with
  | some q=>if jc D sbs q=some m then (hp q).map (AO.tr (jc D sbs)) else none
  | none=>none:=rfl
@[simp] theorem st0_tm {az:List AV} {H:Nm->Option AO} {gl:Nat->Option (List AV)}:(st0 az H k gl).tm t=az.getD t (.sc undef):=rfl
@[simp] theorem st0_hp {az:List AV} {H:Nm->Option AO} {gl:Nat->Option (List AV)}:(st0 az H k gl).hp=H:=rfl
@[simp] theorem st0_gl {az:List AV} {H:Nm->Option AO} {gl:Nat->Option (List AV)}:(st0 az H k gl).gl=gl:=rfl
@[simp] theorem ctx0_P {C:Nat->Prop} {w:World} {g:Gh} {H:Nm->Option AO} {gl:Nat->Option (List AV)}:(dz P C w g H k gl).P=P:=rfl
@[simp] theorem ctx0_n {C:Nat->Prop} {w:World} {g:Gh} {H:Nm->Option AO} {gl:Nat->Option (List AV)}:(dz P C w g H k gl).n=k:=rfl
@[simp] theorem ctx0_gl {C:Nat->Prop} {w:World} {g:Gh} {H:Nm->Option AO} {gl:Nat->Option (List AV)}:(dz P C w g H k gl).gl=gl:=rfl
@[simp] theorem tr_sc {v:Value}:(AV.sc v).tr f=.sc v:=rfl
@[simp] theorem tr_sl {z:Nat} {rows:List (List AV)}:(AV.sl z rows).tr f=.sl z (rows.map (λr=>r.map (AV.tr f))):=by simp [AV.tr,nI]
@[simp] theorem tr_el {row:List AV} {off:Nat}:(AV.el row off).tr f=.el (row.map (AV.tr f)) off:=CE
@[simp] theorem Wi {z lo len:Nat}:(AV.hs n z lo len).tr f=match f n with|some n'=>.hs n' z lo len|none=>.bot:=rfl
@[simp] theorem tr_pt {off:Nat}:(AV.pt n off).tr f=match f n with|some n'=>.pt n' off|none=>.bot:=rfl
@[simp] theorem tr_ep {z i off:Nat}:(AV.ep n z i off).tr f=match f n with|some n'=>.ep n' z i off|none=>.bot:=rfl
@[simp] theorem tr_mp:(AV.mp n).tr f=match f n with|some n'=>.mp n'|none=>.bot:=rfl
@[simp] theorem tr_agg {cs:List AV}:(AV.agg cs).tr f=.agg (cs.map (AV.tr f)):=CE
@[simp] theorem tr_tup {cs:List AV}:(AV.tup cs).tr f=.tup (cs.map (AV.tr f)):=CE
@[simp] theorem tr_ifc {T:TypeId}:(AV.ifc T x).tr f=.ifc T (x.tr f):=rfl
@[simp] theorem tr_fn {F:Fn} {xs ys:List AV}:(AV.fn F xs ys).tr f=.fn F (xs.map (AV.tr f)) (ys.map (AV.tr f)):=CE
@[simp] theorem tr_bot:(AV.bot).tr f=.bot:=rfl
@[simp] theorem aotr_row {z:Nat} {rows:List (List AV)}:AO.tr f (.row z rows)=.row z (rows.map (λr=>r.map (AV.tr f))):=rfl
@[simp] theorem aotr_trow {T:TypeId} {z:Nat} {ex:Bool} {rows:List (List AV)}:AO.tr f (.qCG T z ex rows)=.qCG T z ex (rows.map (λr=>r.map (AV.tr f))):=rfl
@[simp] theorem aotr_map {es:List (AV×AV)}:AO.tr f (.map es)=.map (es.map (λe=>(e.1.tr f,e.2.tr f))):=rfl
@[simp] theorem nils_int {k:IntKind} {n:Int}:zT (.sc (.int k n))=false:=rfl
@[simp] theorem nils_bool {b:Bool}:zT (.sc (.bool b))=false:=rfl
@[simp] theorem nils_str {b:ByteArray}:zT (.sc (.string b))=false:=rfl
@[simp] theorem nils_ptr {p:Option Addr}:zT (.sc (.pointer p))=false:=rfl
@[simp] theorem nils_ifn:zT (.sc .nilIface)=false:=rfl
@[simp] theorem nils_tup {l:Array Value}:zT (.sc (.tuple l))=false:=rfl
@[simp] theorem nils_nil:zT (.sc (.slice none 0 0))=true:=rfl
@[simp] theorem nils_sl {z:Nat} {rows:List (List AV)}:zT (.sl z rows)=false:=rfl
@[simp] theorem nils_hs {z lo len:Nat}:zT (.hs n z lo len)=false:=rfl
@[simp] theorem nils_el {row:List AV} {off:Nat}:zT (.el row off)=false:=rfl
@[simp] theorem nils_pt {off:Nat}:zT (.pt n off)=false:=rfl
@[simp] theorem nils_ep {z i off:Nat}:zT (.ep n z i off)=false:=rfl
@[simp] theorem nils_mp:zT (.mp n)=false:=rfl
@[simp] theorem nils_agg {cs:List AV}:zT (.agg cs)=false:=rfl
@[simp] theorem nils_tup' {cs:List AV}:zT (.tup cs)=false:=rfl
@[simp] theorem nils_ifc {T:TypeId}:zT (.ifc T x)=false:=rfl
@[simp] theorem nils_fn {F:Fn} {xs ys:List AV}:zT (.fn F xs ys)=false:=rfl
@[simp] theorem nils_bot:zT .bot=false:=rfl
@[simp] theorem snm_sc {v:Value}:sNm (.sc v)=none:=rfl
@[simp] theorem snm_sl {z:Nat} {rows:List (List AV)}:sNm (.sl z rows)=none:=rfl
@[simp] theorem snm_hs {z lo len:Nat}:sNm (.hs (.s t) z lo len)=some (.s t):=rfl
@[simp] theorem snm_hc {z lo len:Nat}:sNm (.hs (.c q i j) z lo len)=none:=rfl
@[simp] theorem snm_hu {z lo len:Nat}:sNm (.hs (.u k i j) z lo len)=none:=rfl
@[simp] theorem snm_pt {off:Nat}:sNm (.pt (.s t) off)=some (.s t):=rfl
@[simp] theorem snm_pc {off:Nat}:sNm (.pt (.c q i j) off)=none:=rfl
@[simp] theorem snm_pu {off:Nat}:sNm (.pt (.u k i j) off)=none:=rfl
@[simp] theorem snm_mp:sNm (.mp (.s t))=some (.s t):=rfl
@[simp] theorem snm_mc:sNm (.mp (.c q i j))=none:=rfl
@[simp] theorem snm_mu:sNm (.mp (.u k i j))=none:=rfl
@[simp] theorem snm_el {row:List AV} {off:Nat}:sNm (.el row off)=none:=rfl
@[simp] theorem snm_ep {z i off:Nat}:sNm (.ep n z i off)=none:=rfl
@[simp] theorem snm_agg {cs:List AV}:sNm (.agg cs)=none:=rfl
@[simp] theorem snm_tup {cs:List AV}:sNm (.tup cs)=none:=rfl
@[simp] theorem snm_ifc {T:TypeId}:sNm (.ifc T x)=none:=rfl
@[simp] theorem snm_fn {F:Fn} {xs ys:List AV}:sNm (.fn F xs ys)=none:=rfl
@[simp] theorem snm_bot:sNm .bot=none:=rfl
@[simp] theorem one_int {k:IntKind} {n:Int}:(AV.sc (.int k n)).one=true:=rfl
@[simp] theorem one_bool {b:Bool}:(AV.sc (.bool b)).one=true:=rfl
@[simp] theorem one_str {b:ByteArray}:(AV.sc (.string b)).one=true:=rfl
@[simp] theorem one_ptr {p:Option Addr}:(AV.sc (.pointer p)).one=true:=rfl
@[simp] theorem one_ifn:(AV.sc .nilIface).one=true:=rfl
@[simp] theorem one_nil {p:Option Addr} {n c:Nat}:(AV.sc (.slice p n c)).one=true:=rfl
@[simp] theorem one_sl {z:Nat} {rows:List (List AV)}:(AV.sl z rows).one=true:=rfl
@[simp] theorem one_hs {z lo len:Nat}:(AV.hs n z lo len).one=true:=rfl
@[simp] theorem one_el {row:List AV} {off:Nat}:(AV.el row off).one=true:=rfl
@[simp] theorem one_pt {off:Nat}:(AV.pt n off).one=true:=rfl
@[simp] theorem one_ep {z i off:Nat}:(AV.ep n z i off).one=true:=rfl
@[simp] theorem one_mp:(AV.mp n).one=true:=rfl
@[simp] theorem one_ifc {T:TypeId}:(AV.ifc T x).one=true:=rfl
@[simp] theorem cells_agg {cs:List AV}:(AV.agg cs).cells=if cs.all AV.one then some cs else none:=rfl
@[simp] theorem cells_sc {v:Value}:(AV.sc v).cells=if (AV.sc v).one then some [.sc v] else none:=rfl
@[simp] theorem cells_sl {z:Nat} {rows:List (List AV)}:(AV.sl z rows).cells=some [.sl z rows]:=rfl
@[simp] theorem cells_hs {z lo len:Nat}:(AV.hs n z lo len).cells=some [.hs n z lo len]:=rfl
@[simp] theorem cells_el {row:List AV} {off:Nat}:(AV.el row off).cells=some [.el row off]:=rfl
@[simp] theorem cells_pt {off:Nat}:(AV.pt n off).cells=some [.pt n off]:=rfl
@[simp] theorem cells_ep {z i off:Nat}:(AV.ep n z i off).cells=some [.ep n z i off]:=rfl
@[simp] theorem cells_mp:(AV.mp n).cells=some [.mp n]:=rfl
@[simp] theorem cells_ifc {T:TypeId}:(AV.ifc T x).cells=some [.ifc T x]:=rfl
@[simp] theorem cln_sc {v:Value}:(AV.sc v).cln=true:=rfl
@[simp] theorem cln_hs {z lo len:Nat}:(AV.hs n z lo len).cln=true:=rfl
@[simp] theorem cln_pt {off:Nat}:(AV.pt n off).cln=true:=rfl
@[simp] theorem cln_agg {cs:List AV}:(AV.agg cs).cln=cs.all AV.cln:=by simp [AV.cln,sm]
@[simp] theorem cln_tup {cs:List AV}:(AV.tup cs).cln=cs.all AV.cln:=by simp [AV.cln,sm]
@[simp] theorem cln_ifc {T:TypeId}:(AV.ifc T x).cln=x.cln:=rfl
section
variable {ty:TypeId} {pos:String} {aft:Array Edge} {g:Option (Nat×Bool)} {T U A:TypeId} {y c i:Operand} {dst:Option Nat}
variable {x:Operand}
@[simp] theorem ev_tmp:ev st (.tmp t)=st.tm t:=rfl
@[simp] theorem ev_const {v:Value}:ev st (.const v)=.sc v:=rfl
@[simp] theorem ev_func {F:FuncId}:ev st (.func F)=.sc (.func (.func F) #[] #[]):=rfl
@[simp] theorem ev_global {G:Nat}:ev st (.global G)=match st.gl G with|some row=>.el row 0|none=>.bot:=rfl
@[simp] theorem qev_move:qev P st ⟨dst,.move x,ty,pos,aft,g⟩=some (ev st x):=rfl
@[simp] theorem qev_pick:qev P st ⟨dst,.pick c x y,ty,pos,aft,g⟩=mN (ev st c) (ev st x) (ev st y):=rfl
@[simp] theorem qev_load:qev P st ⟨dst,.load T x,ty,pos,aft,g⟩=(qAP st (ev st x)).bind (λp=>I7 P T p.1 p.2):=rfl
@[simp] theorem qev_nilCheck:qev P st ⟨dst,.nilCheck x,ty,pos,aft,g⟩=Fg (ev st x):=rfl
@[simp] theorem qev_binOp {op:BinOp}:qev P st ⟨dst,.binOp op T x y U,ty,pos,aft,g⟩=lh P T op (match y with|.const _=>true|_=>false) (ev st x) (ev st y):=rfl
@[simp] theorem qev_unOp {op:UnOp}:qev P st ⟨dst,.unOp op T x,ty,pos,aft,g⟩=UQ op (ev st x):=rfl
@[simp] theorem qev_convert {S:TypeId}:qev P st ⟨dst,.convert S T x,ty,pos,aft,g⟩=Na P S T (ev st x):=rfl
@[simp] theorem qev_mki:qev P st ⟨dst,.makeInterface T x,ty,pos,aft,g⟩=Mc P T (ev st x):=rfl
@[simp] theorem qev_slice {lo hi:Option Operand}:qev P st ⟨dst,.slice T x lo hi none,ty,pos,aft,g⟩=(mO (lo.map (ev st))).bind λl=>(mO (hi.map (ev st))).bind λh=>mF P T st.hp (ev st x) (l.map (·.2)) (h.map (·.2)):=rfl
@[simp] theorem qev_fieldAddr {F:Nat}:qev P st ⟨dst,.fieldAddr T x F,ty,pos,aft,g⟩=lR P T F (ev st x):=rfl
@[simp] theorem qev_field {F:Nat}:qev P st ⟨dst,.field T x F,ty,pos,aft,g⟩=KR P T F (ev st x):=rfl
@[simp] theorem qev_indexAddr:qev P st ⟨dst,.indexAddr T x i,ty,pos,aft,g⟩=match ev st i with|.sc (.int _ n)=>sR P T (ev st x) n|_=>none:=rfl
@[simp] theorem qev_index:qev P st ⟨dst,.index T x i,ty,pos,aft,g⟩=match ev st i with|.sc (.int _ n)=>KL P T (ev st x) n|_=>none:=rfl
@[simp] theorem qev_extract {F:Nat}:qev P st ⟨dst,.extract x F,ty,pos,aft,g⟩=N2 F (ev st x):=rfl
@[simp] theorem qev_build {parts:Array (Nat×Operand)}:qev P st ⟨dst,.build T parts,ty,pos,aft,g⟩=Kb P T (parts.toList.map (λp=>(p.1,ev st p.2))):=rfl
@[simp] theorem qev_tas:qev P st ⟨dst,.typeAssert x T A true,ty,pos,aft,g⟩=Cq P A (ev st x):=rfl
@[simp] theorem qev_tas1:qev P st ⟨dst,.typeAssert x T A false,ty,pos,aft,g⟩=W0 P A (ev st x):=rfl
@[simp] theorem qev_makeFunc {F:Fn} {xs ys:Array Operand}:qev P st ⟨dst,.makeFunc F xs ys,ty,pos,aft,g⟩=some (.fn F (xs.toList.map (ev st)) (ys.toList.map (ev st))):=rfl
@[simp] theorem qev_lookup {ok:Bool}:qev P st ⟨dst,.lookup T x i ok,ty,pos,aft,g⟩=Jz P T st.hp (ev st x) (ev st i) ok:=rfl
@[simp] theorem qev_len:qev P st ⟨dst,.call ⟨.builtin .len,#[x],#[T]⟩,ty,pos,aft,g⟩=BQ P T st.hp (ev st x):=rfl
end
section
variable {T U A:TypeId} {cy:Bool} {op:BinOp} {xi yi:Int} {kd:IntKind}
@[simp] theorem bin_int:lh P T op cy (.sc (.int kd xi)) (.sc (.int kd yi))=iS kd op xi yi:=by simp [lh]
@[simp] theorem bin_str {s u:ByteArray}:lh P T op cy (.sc (.string s)) (.sc (.string u))=FN op s u:=rfl
@[simp] theorem bin_bool {s u:Bool}:lh P T op cy (.sc (.bool s)) (.sc (.bool u))=if LY P T then cI op (s==u) else none:=rfl
@[simp] theorem bin_agg {xs ys:List AV}:lh P T op cy (.agg xs) (.agg ys)=match FK P T with
  | some n=>if xs.length=n then (eqL xs ys).bind (cI op) else none
  | none=>none:=rfl
@[simp] theorem bin_pt {off:Nat}:lh P T op cy (.pt n off) (.sc (.pointer none))=if pJ P T then cI op false else none:=rfl
@[simp] theorem bin_el {row:List AV} {off:Nat}:lh P T op cy (.el row off) (.sc (.pointer none))=if pJ P T then cI op false else none:=rfl
@[simp] theorem bin_ep {z i off:Nat}:lh P T op cy (.ep n z i off) (.sc (.pointer none))=if pJ P T then cI op false else none:=rfl
@[simp] theorem bin_nn:lh P T op cy (.sc (.pointer none)) (.sc (.pointer none))=if pJ P T then cI op true else none:=rfl
@[simp] theorem bin_ifc {t:TypeId}:lh P T op cy (.ifc t x) (.sc .nilIface)=if Rv P T then cI op false else none:=rfl
@[simp] theorem bin_ifn:lh P T op cy (.sc .nilIface) (.sc .nilIface)=if Rv P T&&cy then cI op true else none:=rfl
@[simp] theorem ptr_eql {r:Bool}:cI .eql r=some (.sc (.bool r)):=rfl
@[simp] theorem ptr_neq {r:Bool}:cI .neq r=some (.sc (.bool (!r))):=rfl
@[simp] theorem eqL_nil:eqL [] []=some true:=rfl
@[simp] theorem eqL_cons' {xs ys:List AV}:eqL (.sc (.int .i64 xi)::xs) (.sc (.int .i64 yi)::ys)=(eqL xs ys).map (λr=>(xi==yi)&&r):=rfl
@[simp] theorem int_add:iS kd .add xi yi=some (.sc (.int kd (kd.wrap (xi+yi)))):=rfl
@[simp] theorem int_sub:iS kd .sub xi yi=some (.sc (.int kd (kd.wrap (xi - yi)))):=rfl
@[simp] theorem int_mul:iS kd .mul xi yi=some (.sc (.int kd (kd.wrap (xi * yi)))):=rfl
@[simp] theorem int_quo:iS kd .quo xi yi=if yi=0 then none else some (.sc (.int kd (kd.wrap (xi.tdiv yi)))):=rfl
@[simp] theorem int_rem:iS kd .rem xi yi=if yi=0 then none else some (.sc (.int kd (xi.tmod yi))):=rfl
@[simp] theorem int_eql:iS kd .eql xi yi=some (.sc (.bool (xi==yi))):=rfl
@[simp] theorem int_neq:iS kd .neq xi yi=some (.sc (.bool (xi != yi))):=rfl
@[simp] theorem int_lss:iS kd .lss xi yi=some (.sc (.bool (decide (xi<yi)))):=rfl
@[simp] theorem int_leq:iS kd .leq xi yi=some (.sc (.bool (decide (xi<=yi)))):=rfl
@[simp] theorem int_gtr:iS kd .gtr xi yi=some (.sc (.bool (decide (xi > yi)))):=rfl
@[simp] theorem int_geq:iS kd .geq xi yi=some (.sc (.bool (decide (xi≥yi)))):=rfl
@[simp] theorem str_add {s u:ByteArray}:FN .add s u=if s.size+u.size<=9223372036854775807 then some (.sc (.string (s++u))) else none:=rfl
@[simp] theorem str_eql {s u:ByteArray}:FN .eql s u=some (.sc (.bool (s.toList==u.toList))):=rfl
@[simp] theorem str_neq {s u:ByteArray}:FN .neq s u=some (.sc (.bool (!(s.toList==u.toList)))):=rfl
@[simp] theorem un_not {b:Bool}:UQ .not (.sc (.bool b))=some (.sc (.bool (!b))):=rfl
@[simp] theorem un_neg:UQ .neg (.sc (.int kd xi))=some (.sc (.int kd (kd.wrap (-xi)))):=rfl
@[simp] theorem pick_bb {t p q:Bool}:mN (.sc (.bool t)) (.sc (.bool p)) (.sc (.bool q))=some (.sc (.bool (bif t then p else q))):=rfl
@[simp] theorem pick_ii {t:Bool} {k':IntKind}:mN (.sc (.bool t)) (.sc (.int kd xi)) (.sc (.int k' yi))=some (bif t then .sc (.int kd xi) else .sc (.int k' yi)):=rfl
@[simp] theorem pick_u1 {t:Bool} {y:AV}:mN (.sc (.bool t)) (.sc undef) y=some (bif t then .sc undef else y):=rfl
@[simp] theorem pick_u2 {t:Bool} {p:Bool}:mN (.sc (.bool t)) (.sc (.bool p)) (.sc undef)=some (bif t then .sc (.bool p) else .sc undef):=rfl
@[simp] theorem pick_u3 {t:Bool} {k':IntKind}:mN (.sc (.bool t)) (.sc (.int k' xi)) (.sc undef)=some (bif t then .sc (.int k' xi) else .sc undef):=rfl
@[simp] theorem len_sl {hp:Nm->Option AO} {z:Nat} {rows:List (List AV)}:BQ P T hp (.sl z rows)=if yy P T then some (.sc (.int .i64 rows.length)) else none:=rfl
@[simp] theorem len_hs {hp:Nm->Option AO} {z lo len:Nat}:BQ P T hp (.hs n z lo len)=if yy P T then some (.sc (.int .i64 len)) else none:=rfl
@[simp] theorem len_nil {hp:Nm->Option AO}:BQ P T hp (.sc (.slice none 0 0))=if yy P T then some (.sc (.int .i64 0)) else none:=rfl
@[simp] theorem len_str {hp:Nm->Option AO} {s:ByteArray}:BQ P T hp (.sc (.string s))=if Rd P T then some (.sc (.int .i64 s.size)) else none:=rfl
@[simp] theorem len_mp {hp:Nm->Option AO}:BQ P T hp (.mp n)=if Wk P T then (match hp n with|some (.map es)=>some (.sc (.int .i64 es.length))|_=>none) else none:=rfl
@[simp] theorem ext_tup {i:Nat} {l:List AV}:N2 i (.tup l)=l[i]?:=rfl
@[simp] theorem field_pt {F off:Nat}:lR P T F (.pt n off)=(Zu P T F).map (λp=>.pt n (off+p.1)):=rfl
@[simp] theorem field_el {F off:Nat} {row:List AV}:lR P T F (.el row off)=(Zu P T F).map (λp=>.el row (off+p.1)):=rfl
@[simp] theorem field_ep {F z i off:Nat}:lR P T F (.ep n z i off)=(Zu P T F).map (λp=>.ep n z i (off+p.1)):=rfl
@[simp] theorem fld_agg {F:Nat} {cs:List AV}:KR P T F (.agg cs)=match Zu P T F with|some (o,e)=>I7 P e cs o|none=>none:=rfl
@[simp] theorem getC_eq {cs:List AV} {off:Nat}:I7 P T cs off=match ky P T with
  | some true=>if off+Zq P T<=cs.length then some (.agg ((cs.drop off).take (Zq P T))) else none
  | some false=>cs[off]?
  | none=>none:=rfl
@[simp] theorem index_eq:sR P T x xi=match tel P T with
  | some e=>match x with
   | .sl z rows=>if z=Zq P e/\0<=xi then (rows[xi.toNat]?).map (λr=>.el r 0) else none
   | .hs m z lo len=>if z=Zq P e/\0<=xi/\xi<len then some (.ep m z (lo+xi.toNat) 0) else none
   | _=>none
  | none=>match Kn P T with
   | some (len,e)=>if 0<=xi/\xi<len then (match x with
    | .pt m off=>some (.pt m (off+xi.toNat * Zq P e))
    | .el row off=>some (.el row (off+xi.toNat * Zq P e))
    | .ep m z i off=>some (.ep m z i (off+xi.toNat * Zq P e))
    | _=>none) else none
   | none=>none:=rfl
@[simp] theorem idx_agg {cs:List AV}:KL P T (.agg cs) xi=match Kn P T with
  | some (len,e)=>if 0<=xi/\xi<len then I7 P e cs (xi.toNat * Zq P e) else none
  | none=>none:=rfl
@[simp] theorem idx_str {s:ByteArray}:KL P T (.sc (.string s)) xi=if Rd P T/\0<=xi then (s.data.toList[xi.toNat]?).map (λb=>.sc (.int .u8 b.toNat)) else none:=rfl
@[simp] theorem cells_at_pt {off:Nat}:qAP st (.pt n off)=match st.hp n with
  | some (.row _ (r::_))=>some (r,off)
  | _=>none:=rfl
@[simp] theorem cells_at_el {row:List AV} {off:Nat}:qAP st (.el row off)=some (row,off):=rfl
@[simp] theorem cells_at_ep {z i off:Nat}:qAP st (.ep n z i off)=match st.hp n with
  | some (.row z' rows)=>if z'=z then (rows[i]?).map (λr=>(r,off)) else none
  | _=>none:=rfl
@[simp] theorem mki_eq:Mc P T x=if vV P T=some false then some (.ifc T x) else none:=rfl
@[simp] theorem tas_ifc {t:TypeId}:Cq P A (.ifc t x)=if vV P A=some false then (if t=A then some (.tup [x,.sc (.bool true)]) else (c9 P A).map (λz=>.tup [z,.sc (.bool false)])) else none:=rfl
@[simp] theorem tas_nil:Cq P A (.sc .nilIface)=if vV P A=some false then (c9 P A).map (λz=>.tup [z,.sc (.bool false)]) else none:=rfl
@[simp] theorem cnv_int:Na P T A (.sc (.int kd xi))=match WZ P A,P.underlying T with|some k,some (.int _)=>some (.sc (.int k (k.wrap xi)))|_,_=>none:=rfl
@[simp] theorem bld_eq {parts:List (Nat×AV)}:Kb P T parts=if vh P T then
  match yb P T with
  | some z=>(B8 P T (z.map .sc) parts).map .agg
  | none=>none
 else none:=rfl
@[simp] theorem fill_nil {cs:List AV}:B8 P T cs []=some cs:=rfl
@[simp] theorem fill_cons {cs:List AV} {i:Nat} {rest:List (Nat×AV)}:B8 P T cs ((i,x)::rest)=match Zu P T i,x.cells with
  | some (o,e),some ds=>if ds.length=Zq P e/\o+ds.length<=cs.length then B8 P T (cs.take o++ds++cs.drop (o+ds.length)) rest else none
  | _,_=>none:=rfl
@[simp] theorem nil_pt {off:Nat}:Fg (.pt n off)=some (.pt n off):=rfl
@[simp] theorem nil_el {row:List AV} {off:Nat}:Fg (.el row off)=some (.el row off):=rfl
@[simp] theorem nil_ep {z i off:Nat}:Fg (.ep n z i off)=some (.ep n z i off):=rfl
@[simp] theorem nil_fn {F:FuncId} {xs ys:List AV}:Fg (.fn (.func F) xs ys)=some (.fn (.func F) xs ys):=rfl
@[simp] theorem pl_pt {off:Nat}:pl (.pt n off)=some (n,0,off):=rfl
@[simp] theorem pl_ep {z i off:Nat}:pl (.ep n z i off)=some (n,i,off):=rfl
@[simp] theorem ra_pt {off:Nat}:iY st (.pt n off)=match st.hp n with|some (.row z rows)=>some (z,rows)|_=>none:=rfl
@[simp] theorem ra_ep {z i off:Nat}:iY st (.ep n z i off)=match st.hp n with|some (.row z' rows)=>if z'=z then some (z,rows) else none|_=>none:=rfl
@[simp] theorem src_sl {z z':Nat} {rows:List (List AV)}:uH st z (.sl z' rows)=if z'=z then some rows else none:=rfl
@[simp] theorem src_nil {z:Nat}:uH st z (.sc (.slice none 0 0))=some []:=rfl
@[simp] theorem src_hs {z z' lo len:Nat}:uH st z (.hs n z' lo len)=match st.hp n with
  | some (.row z'' rows)=>if z'=z/\z''=z/\lo+len<=rows.length then some ((rows.drop lo).take len) else none
  | _=>none:=rfl
@[simp] theorem optInt_none:mO none=some none:=rfl
@[simp] theorem optInt_some:mO (some (.sc (.int kd xi)))=some (some (kd,xi)):=rfl
end
end
theorem qb.qC7 {P:Program} {gl:Nat->Option (List AV)} {f:FuncId} {az:List AV} {R:Nm->AV->(Nm->Option AO)->Prop} {fn:Func} {c:Code} {rs:List ResultVar} {n:Nat}
  (hf:P.funcs[f]?=some fn) (hb:fn.body=some c) (hname:(fn.name == "runtime.NumGoroutine")=false) (hrs:fn.results.toList=rs) (hn:fn.ntmps=n) (hle:az.length<=n)
  (h:∀ C w g root,qh (dz P C w g noH n gl) c (s9 P noD root rs R noE) (st0 az noH n gl)):qb P gl f az R :=
 Zj.qC7 hf hb hname hrs hn hle (λ_ h=>uA) (λC w g root _=>h C w g root)
theorem qb.Zl {P:Program} {gl:Nat->Option (List AV)} {f:FuncId} {as:List AV} {R:Nm->AV->(Nm->Option AO)->Prop} {fn:Func} {c:Code} {n:Nat} (hf:P.funcs[f]?=some fn) (rs:List ResultVar) (hn:fn.ntmps=n) (h:∀ C w g root,qh (dz P C w g noH n gl) c (s9 P noD root rs R noE) (st0 as noH n gl)) (hb:fn.body=some c:=by exact rfl) (hname:(fn.name== "runtime.NumGoroutine")=false:=by kernel_rfl) (hrs:fn.results.toList=rs:=by exact rfl) (hle:as.length<=n:=by exact lB rfl):qb P gl f as R:=qb.qC7 hf hb hname hrs hn hle h
def qT (xs:List Int):List (List AV):=xs.map (λn=>[iv n])
@[simp] theorem irows_len {xs:List Int}:(qT xs).length=xs.length:=zd
@[simp] theorem irows_get {xs:List Int} {i:Nat}:(qT xs)[i]?=(xs[i]?).map (λn=>[iv n]):=zd
@[simp] theorem irows_getE {xs:List Int} {i:Nat} {h:i<(qT xs).length}:(qT xs)[i]=[iv (xs[i]' qH)]:=zd
@[simp] theorem irows_tr {xs:List Int} {f:Nm->Option Nm}:(qT xs).map (λr=>r.map (AV.tr f))=qT xs:=zd
@[simp] theorem irows_take {xs:List Int} {i:Nat}:(qT xs).take i=qT (xs.take i):=zd
@[simp] theorem irows_app {xs ys:List Int}:qT xs++qT ys=qT (xs++ys):=zd
@[simp] theorem irows_app1 {xs:List Int} {n:Int}:qT xs++[[.sc (.int .i64 n)]]=qT (xs++[n]):=zd
@[simp] theorem irows_nil:qT []=[]:=rfl
@[simp] theorem irows_cln {xs:List Int}:(qT xs).all (λr=>r.all AV.cln)=true:=zd
@[simp] theorem irows_set {xs:List Int} {i:Nat} {n:Int}:qk (qT xs) i 0 [.sc (.int .i64 n)]=qT (xs.set i n):=by
 simp only [qk,qT];apply wK
 grind
theorem NE {xs:List Int}:∀ r∈qT xs,r.length=1:=zd
abbrev isl (xs:List Int):AV:=.sl 1 (qT xs)
theorem km {hp:Nm->Option AO} {n:Nm} {z len:Nat} {rows:List (List AV)} (hn:hp n=some (.row z rows)) (hl:len=rows.length) (hz:∀ r∈rows,r.length=z):Bw hp noD (.hs n z 0 len) (.sl z rows):=by
 refine .hs n z 0 len rows rows rfl hn qA hl.symm hz λi r r' hr hr' j a a' ha ha'=>?_;rw [xX] at hr;rw [hr] at hr';obtain rfl:=sI hr';rw [ha] at ha';obtain rfl:=sI ha';exact .refl _
theorem vF {hp:Nm->Option AO} {n:Nm} {len:Nat} {xs:List Int} (hn:hp n=some (.row 1 (qT xs))) (hl:len=xs.length):Bw hp noD (.hs n 1 0 len) (isl xs):=km hn oU NE
structure Z9 where
 kind:Int
 to:Int
 a:Int
 b:Int
 deriving DecidableEq,Inhabited
abbrev Z9.cells (s:Z9):List AV:=[iv s.kind,iv s.to,iv s.a,iv s.b]
abbrev Z9.av (s:Z9):AV:=.agg s.cells
def jg (ss:List Z9):List (List AV):=ss.map Z9.cells
section
variable {ss tt:List Z9} {s:Z9} {i:Nat} {f:Nm->Option Nm}
@[simp] theorem srows_len:(jg ss).length=ss.length:=gJ
@[simp] theorem srows_get:(jg ss)[i]?=(ss[i]?).map Z9.cells:=gJ
@[simp] theorem srows_getE {h:i<(jg ss).length}:(jg ss)[i]=(ss[i]' qH).cells:=gJ
@[simp] theorem srows_tr:(jg ss).map (λr=>r.map (AV.tr f))=jg ss:=gJ
@[simp] theorem srows_take:(jg ss).take i=jg (ss.take i):=gJ
@[simp] theorem srows_drop:(jg ss).drop i=jg (ss.drop i):=gJ
@[simp] theorem srows_app:jg ss++jg tt=jg (ss++tt):=gJ
theorem aq:jg ss++[s.cells]=jg (ss++[s]):=gJ
@[simp] theorem srows_nil:jg []=[]:=rfl
@[simp] theorem srows_cln:(jg ss).all (λr=>r.all AV.cln)=true:=gJ
theorem Lh:∀ r∈jg ss,r.length=4:=gJ
abbrev ssl (ss:List Z9):AV:=.sl 4 (jg ss)
theorem CU {hp:Nm->Option AO} {n:Nm} {len:Nat} (hn:hp n=some (.row 4 (jg ss))) (hl:len=ss.length):Bw hp noD (.hs n 4 0 len) (ssl ss):=km hn oU Lh
end
structure Za where
 kind:Int
 parent:Int
 params:List Int
 body:List Z9
 deriving DecidableEq,Inhabited
abbrev Za.cells (k:Za):List AV:=[iv k.kind,iv k.parent,isl k.params,ssl k.body]
abbrev Za.av (k:Za):AV:=.agg k.cells
def BT (ks:List Za):List (List AV):=ks.map Za.cells
abbrev Z0:=List Za
section
variable {ks ls:List Za} {k:Za} {i:Nat} {f:Nm->Option Nm}
@[simp] theorem krows_len:(BT ks).length=ks.length:=tD
@[simp] theorem NA:(BT ks)[i]?=(ks[i]?).map Za.cells:=tD
@[simp] theorem krows_getE {h:i<(BT ks).length}:(BT ks)[i]=(ks[i]' qH).cells:=tD
@[simp] theorem krows_tr:(BT ks).map (λr=>r.map (AV.tr f))=BT ks:=tD
abbrev ksl (ks:List Za):AV:=.sl 4 (BT ks)
abbrev pav (p:Z0):AV:=.agg [ksl p]
end
def zI (xs:List Int) (x:Int):Int:=match xs.findIdx? (·==x) with|some i=>i|none=>-1
theorem j9 {xs:List Int} {x:Int}:0<=zI xs x↔x∈xs:=by
 grind[zI]
def zM (xs:List Int):Nat->List Int
 | 0=>[]
 | n+1=>if (n:Int)∈xs then zM xs n++[(n:Int)] else zM xs n
def sorted (xs:List Int):List Int:=zM xs 8
theorem bi {xs:List Int} {x:Int}:∀ n:Nat,x∈zM xs n↔x∈xs/\0<=x/\x<n
 | 0=>by
  grind[zM]
 | n+1=>by
  simp only [zM]
  split
  .rename_i h;simp only [dY,bi n,w6]
   grind
  .rename_i h;rw [bi n]
   grind
theorem mem_sorted {xs:List Int} {x:Int}:x∈sorted xs↔x∈xs/\0<=x/\x<=7:=by
 grind[sorted,bi]
theorem fP {xs:List Int}:∀ n:Nat,(zM xs n).length<=n
 := by intro x0;induction x0<;>grind[zM]
theorem ar {xs:List Int}:(sorted xs).length<=8:=fP 8
def Z9.reads (s:Z9):List Int :=
 if s.kind=1\/s.kind=6\/s.kind=7\/s.kind=8 then [s.a] else if s.kind=2 then [s.a,s.b] else if s.kind=5 then (if s.b=-1 then [s.a] else [s.a,s.b]) else []
theorem Z9.qAX (s:Z9):s.reads.length<=2:=by
 grind[reads]
abbrev Z9.qBN (s:Z9):Prop:=0<=s.kind/\s.kind<=6
def j8 (ss:List Z9):List Int:=ss.flatMap Z9.reads
def uB (k:Za):List Int:=k.params++(k.body.filter (λs=>decide (s.qBN\/s.kind=11))).map Z9.to
def bU (k:Za) (d:Int):List Int:=(k.body.filter (λs=>decide (s.kind=d))).map Z9.to
theorem DY (ss:List Z9):(j8 ss).length<=2 * ss.length:=by
 induction ss<;>grind[j8,Z9.qAX]
structure Sml (p:Z0):Prop where
 len:p.length<=1048576
 params:∀ k∈p,k.params.length<=1048576
 body:∀ k∈p,k.body.length<=1048576
structure BSm (k:Za):Prop where
 params:k.params.length<=1048576
 body:k.body.length<=1048576
theorem Sml.bsm {p:Z0} (h:Sml p) {b:Nat} {k:Za} (hk:p[b]?=some k):BSm k:=⟨h.params k (gM hk),h.body k (gM hk)⟩
def Za.rd (k:Za):List Int:=sorted (j8 k.body)
def Za.bd (k:Za):List Int:=sorted (uB k)
def Za.dc (k:Za) (d:Int):List Int:=sorted (bU k d)
theorem Za.qDN (k:Za):k.rd.length<=8:=ar
theorem Za.qDT (k:Za):k.bd.length<=8:=ar
theorem Za.qBb (k:Za) (d:Int):(k.dc d).length<=8:=ar
def qa (b:Nat) (k:Za) (x:Int):Bool:=decide (0<b)&&decide (x∈k.bd)&&!decide (x∈k.dc 9)&&!decide (x∈k.dc 10)
def zS (p:Z0):Prop:=∀ (i:Nat) (q:Za),p[i]?=some q -> -1<=q.parent/\q.parent<i/\(0<i->0<=q.parent)
def zZ (p:Z0) (x:Int):Nat->Int->Int
 | 0,_=>-1
 | n+1,j=>if j<=0 then -1 else match p[j.toNat]? with
  | none=>-1
  | some q=>if q.kind≠1 then zZ p x n q.parent else if x∈q.dc 9 then -1 else if qa j.toNat q x then j else zZ p x n q.parent
theorem iy {p:Z0} {x:Int} (hp:zS p):∀ (n m:Nat) (j:Int),j<=n->j<=m->zZ p x n j=zZ p x m j
 | 0,0,_,_,_=>rfl
 | 0,m+1,j,h,_=>by grind[zZ]
 | n+1,0,j,_,h=>by grind[zZ]
 | n+1,m+1,j,h1,h2=>by
  simp only [zZ]
  split
  .rfl
  .rename_i hj
   split
   .rfl
   .rename_i q hq;obtain⟨h3,h4,_⟩:=hp j.toNat q hq;rw [iy hp n m q.parent qA qA]
def outer (p:Z0) (b:Nat) (x:Int):Int:=match p[b]? with
 | some k=>zZ p x b k.parent
 | none=>-1
def q7 (p:Z0) (b:Nat) (x:Int):Int:=match p[b]? with
 | some k=>if b=0\/x∈k.dc 9 then -1 else if qa b k x then b else outer p b x
 | none=>-1
def kW (p:Z0) (b:Nat) (j kind:Int):Bool:=decide ((b:Int)+1<=j/\j<=(p.length:Int) - 1)&&match p[j.toNat]? with
 | some q=>(q.kind==kind)&&(q.parent==b)
 | none=>false
def fh (s:Z9) (b:Int):Bool:=(s.kind==3||s.kind==4)&&s.a==b
def kF (p:Z0) (b:Nat):Int:=match p[b]? with
 | some k=>match p[k.parent.toNat]? with
  | some q=>(q.body.filter (λs=>fh s b)).length
  | none=>0
 | none=>0
theorem zm {α:Type} {l:List α} {s:α} {i:Nat} {f:α->Bool} (h:l[i]?=some s):(l.take (i+1)).filter f=(l.take i).filter f++(if f s then [s] else []):=by
 grind[uQ]
theorem jG {p:Z0} {b:Nat} {k:Za} {x:Int} (hp:zS p) (hk:p[b]?=some k):outer p b x=zZ p x p.length k.parent:=by
 simp only [outer,hk];obtain⟨h1,h2,_⟩:=hp b k hk
 grind[iy]
theorem zq {p:Z0} {j:Nat} {q:Za} {x:Int} (hp:zS p) (hq:p[j]?=some q) (h0:0<j):zZ p x p.length j=if q.kind≠1 then zZ p x p.length q.parent else if x∈q.dc 9 then -1 else if qa j q x then (j:Int) else zZ p x p.length q.parent:=by
 have hb:j<p.length:=(gS hq).1;obtain⟨h1,h2,_⟩:=hp j q hq;obtain⟨n,hn⟩:∃ n,p.length=n+1:=⟨p.length - 1,qA⟩;have e:zZ p x n q.parent=zZ p x (n+1) q.parent:=iy hp _ _ _ qA qA;rw [hn,<- e]
 conv=>lhs;rw [zZ]
 grind
theorem ax {p:Z0} {j x:Int} (h:j<=0):∀ n,zZ p x n j=-1
 | 0=>rfl
 | n+1=>by grind[zZ]
abbrev vG (b:Nat) (k:Za):Prop:=if b=0 then k.kind=0/\k.parent=-1/\k.params.length=0 else
 1<=k.kind/\k.kind<=2/\0<=k.parent/\k.parent<b/\(k.params.length=0\/(k.params.length=1/\k.kind=1/\0<=k.params.headD 0/\k.params.headD 0<=7))
def qAQ (b:Nat) (k:Za):Bool:=decide (vG b k)
abbrev Ko (x:Int):Bool:=decide (0<=x)&&decide (x<=7)
def zN (p:Z0) (i:Nat) (k:Za) (s:Z9):Bool:=Ko s.to&&s.reads.all Ko &&
 (if s.kind=0 then decide (0<=s.a)&&decide (s.a<=99)&&s.b==0 else if s.kind=1 then s.b==0 else if s.kind=2\/s.kind=5 then true
 else if s.kind=3 then s.b==0&&kW p i s.a 1 else if s.kind=4 then s.b==0&&kW p i s.a 2 else if s.kind=6 then Ko s.b
 else if s.kind=7 then s.to==0&&s.b==0 else if s.kind=8 then s.to==0&&s.b==0&&k.kind==1
 else if s.kind=9\/s.kind=10 then s.a==0&&s.b==0&&k.kind != 0 else if s.kind=11 then s.a==0&&s.b==0 else false)
def qA8 (p:Z0) (i:Nat):Bool:=match p[i]? with
 | some k=>qAQ i k&&decide (k.body.length<=12)&&k.body.all (zN p i k)
 | none=>false
def jh (p:Z0):Bool:=(decide (1<=p.length)&&decide (p.length<=7))&&(List.range p.length).all (qA8 p)&&(List.range p.length).all (λi=>i==0||kF p i==1)
theorem vG.head {b:Nat} {k:Za} (h:vG b k):-1<=k.parent/\k.parent<b/\(0<b->0<=k.parent):=by
 grind
theorem AW {p:Z0} {i:Nat} {k:Za} (hk:p[i]?=some k) (h:qA8 p i=true):vG i k/\k.body.length<=12/\k.body.all (zN p i k)=true:=by
 grind[qA8,qAQ]
theorem jz {f:Nat->Bool} {n:Nat}:(List.range (n+1)).all f=((List.range n).all f&&f n):=by
 grind
theorem I3 {p:Z0} (h:(List.range p.length).all (qA8 p)=true):zS p:=by
 intro i q hq;have hi:i<p.length:=(gS hq).1;exact (AW hq (dT.1 h i (gh.2 hi))).1.head
theorem vT {f:Nat->Bool} {n i:Nat} (hi:i<n) (h:f i=false):(List.range n).all f=false:=by
 grind
theorem E3 {α:Type} {f:α->Bool} {l:List α} {x:α} (hx:x∈l) (h:f x=false):l.all f=false:=by
 grind
def qAI (p:Z0) (b:Nat) (k:Za) (x:Int):Bool :=
 !(decide (x∈k.dc 9)&&(decide (x∈k.dc 10)||decide (x∈k.params))||decide (x∈k.dc 10)&&(decide (x∈k.params)||decide (outer p b x<0)))
def vD (p:Z0) (b:Nat):Bool:=match p[b]? with
 | some k=>(List.range 8).all (λx=>qAI p b k (x:Int))
 | none=>false
def jF (p:Z0):Bool:=jh p&&(List.range p.length).all (λb=>b==0||vD p b)
theorem a7 {p:Z0} (h:jh p=true):zS p/\1<=p.length/\p.length<=7/\(List.range p.length).all (qA8 p)=true/\∀ i,0<i->i<p.length->kF p i=1:=by
 grind[jh,I3]
def mvc (n0 n1 m:Nm):Option Nm:=if Nm.under n0 m&&decide (m≠n0) then some (Nm.Zn n0 n1 m) else if Nm.under n1 m&&decide (m≠n1) then none else some m
theorem M7 {k0 k1 k k' x:Nm} (h:mvc k0 k1 k=some x) (h':mvc k0 k1 k'=some x):k=k':=by
 have img:∀ m,Nm.under k0 m=true->m≠k0->Nm.under k1 (Nm.Zn k0 k1 m)=true/\Nm.Zn k0 k1 m≠k1:=by
  intro m hu hne;refine⟨Nm.qAK m hu,λe=>hne ?_⟩;exact Nm.qCC m k0 hu (Nm.Z6 k0) tL
 grind[mvc,Nm.qCC]
def Yw (n0 n1:Nm) (hp:Nm->Option AO):Nm->Option AO:=λm =>
 if Nm.under n1 m&&decide (m≠n1) then (if mvc n0 n1 (Nm.Zn n1 n0 m)=some m then (hp (Nm.Zn n1 n0 m)).map (AO.tr (mvc n0 n1)) else none)
 else if Nm.under n0 m&&decide (m≠n0) then none else (hp m).map (AO.tr (mvc n0 n1))
def St.mvc (n0 n1:Nm) (st:St):St:=st.nm (Hm.mvc n0 n1) (Yw n0 n1 st.hp)
section
variable {X:Ctx} {st:St} {a:Act} {w:World} {K:St->Prop} {E:AV->St->Prop}
theorem Rw.mvc (h:Rw X st a w) (n0 n1:Nm):Rw X (st.mvc n0 n1) a w:=by
 obtain⟨C,g,e1,e2,e3,e4,e5,hr⟩:=h;refine⟨C,_,e1,e2,e3,e4,?_,hr.rename (f:=Hm.mvc n0 n1) (λ_ _ _=>M7) (λn' o' e=>?_)⟩
 .intro k i j he
  have e:Hm.mvc n0 n1 (.u k i j)=some (.u k i j):=by
   grind[Nm.under,Hm.mvc]
  obtain⟨x1,x2⟩:=Gh.qAf (g:=g) (λ_ _ _=>M7) e;obtain⟨y1,y2⟩:=e5 k i j he
  simp_all
 grind[Yw,ku,Hm.mvc]
def cNm:AV->Option Nm
 | .hs n _ _ _=>if n.isU then none else some n
 | .pt n _=>if n.isU then none else some n
 | .mp n=>if n.isU then none else some n
 | _=>none
def prc (key:Nat->Nm):Nat->List AV->List (Nm×Nm)
 | _,[]=>[]
 | j,x::l=>match cNm x with
  | some k=>(k,key j)::prc key (j+1) l
  | none=>prc key (j+1) l
def Pz (n:Nm):Nat->List (List AV)->List (Nm×Nm)
 | _,[]=>[]
 | i,r::l=>prc (λj=>.c n i j) 0 r++Pz n (i+1) l
theorem MS {n:Nm} (hn:n.isU=false) {i:Nat}:∀ (r:List AV) (j:Nat),Oq (prc (λj=>.c n i j) j r)
 | [],_=>by simp [prc,Oq]
 | x::l,j=>by
  simp only [prc]
  split
  .rename_i k hk;intro p hp;rcases aH.1 hp with rfl|hp
   .refine⟨?_,rfl⟩;unfold cNm at hk
    grind
   .exact MS hn l (j+1) p hp
  .exact MS hn l (j+1)
theorem MT {n:Nm} (hn:n.isU=false):∀ (rows:List (List AV)) (i:Nat),Oq (Pz n i rows)
 | [],_=>by simp [Pz,Oq]
 | r::l,i=>by
  intro p hp;rcases dY.1 hp with hp|hp
  .exact MS hn r 0 p hp
  .exact MT hn l (i+1) p hp
theorem Rw.canon:∀ {l:List (Nm×Nm)} {st:St},Oq l->Rw X st a w->Rw X (canon l st) a w
 | [],_,_,h=>h
 | p::l,st,hp,h=>Rw.canon (l:=l) (λq hq=>hp q cU) (h.move p.1 p.2 (.inl (hp p qB).1) (.inl (hp p qB).2))
theorem qS.post {o:Oper} {K':St->Prop} (h:qS X o K' E st) (hK:∀ s a w,Rw X s a w->K' s->∃ s',Rw X s' a w/\K s'):qS X o K E st:=by
 intro a w Q hR hE;refine Oper.wp_mono ?_ (h a w Q hR hE)
 grind
theorem Dd {T F:TypeId} {s x:Operand} {z len d:Nat} {n:Nm} {rows0 rows2:List (List AV)} {ty:TypeId} {pos:String} {aft:Array Edge} {g:Option (Nat×Bool)} {st':St} (hd:d<X.n) (hT:cG X.P T=some F) (hz:Zq X.P F=z) (hs:ev st s=.hs n z 0 len) (hn:st.hp n=some (.row z rows0)) (hle:len<=rows0.length)
  (hx:uH st z (ev st x)=some rows2) (hlen:len+rows2.length<=4294967296) (hq:Hm.canon (Pz (.s d) len rows2) ((xV d z (len+rows2.length) (some n) (rows0.take len++rows2) st).mvc n (.s d))=st') (h:K st') :
  qS X ⟨some d,.call ⟨.builtin .append,#[s,x],#[T,T]⟩,ty,pos,aft,g⟩ K E st:=by
 refine qS.post (xj (K:=λs'=>s'=xV d z (len+rows2.length) (some n) (rows0.take len++rows2) st) rfl rfl hd hT hz hs hn hle hx hlen rfl) ?_;rintro s' a w hR rfl;exact⟨_,Rw.canon (MT rfl _ _) (hR.mvc n (.s d)),hq ▸ h⟩
end
section
variable {st:St} {n q m k0 k1:Nm} {t:Nat} {x:AV} {k i j:Nat}
@[simp] theorem mvc_eq:mvc k0 k1 m=if Nm.under k0 m&&decide (m≠k0) then some (Nm.Zn k0 k1 m) else if Nm.under k1 m&&decide (m≠k1) then none else some m:=rfl
@[simp] theorem mvc_tm:(st.mvc n q).tm t=(st.tm t).tr (mvc n q):=rfl
@[simp] theorem mvc_gl:(st.mvc n q).gl=st.gl:=rfl
@[simp] theorem mvc_hp:(st.mvc n q).hp m=if Nm.under q m&&decide (m≠q) then (if mvc n q (Nm.Zn q n m)=some m then (st.hp (Nm.Zn q n m)).map (AO.tr (mvc n q)) else none) else if Nm.under n m&&decide (m≠n) then none else (st.hp m).map (AO.tr (mvc n q)):=rfl
@[simp] theorem cnm_hs {z lo len:Nat}:cNm (.hs n z lo len)=if n.isU then none else some n:=rfl
@[simp] theorem cnm_pt {off:Nat}:cNm (.pt n off)=if n.isU then none else some n:=rfl
@[simp] theorem cnm_sc {v:Value}:cNm (.sc v)=none:=rfl
@[simp] theorem cnm_sl {z:Nat} {rows:List (List AV)}:cNm (.sl z rows)=none:=rfl
@[simp] theorem prc_nil {key:Nat->Nm}:prc key j []=[]:=rfl
@[simp] theorem prc_cons {key:Nat->Nm} {l:List AV}:prc key j (x::l)=match cNm x with|some k=>(k,key j)::prc key (j+1) l|none=>prc key (j+1) l:=rfl
@[simp] theorem prcL_nil:Pz n i []=[]:=rfl
@[simp] theorem prcL_cons {r:List AV} {l:List (List AV)}:Pz n i (r::l)=prc (λj=>.c n i j) 0 r++Pz n (i+1) l:=rfl
@[simp] theorem isU_s:(Nm.s k).isU=false:=rfl
@[simp] theorem isU_c:(Nm.c n i j).isU=false:=rfl
@[simp] theorem isU_u:(Nm.u k i j).isU=true:=rfl
end
@[simp] theorem srows_app2 {ss:List Z9} {a b c d:Int}:jg ss++[[.sc (.int .i64 a),.sc (.int .i64 b),.sc (.int .i64 c),.sc (.int .i64 d)]]=jg (ss++[⟨a,b,c,d⟩]):=gJ
def MX (p:Z0) (b:Nat) (k:Za):List Int:=(List.range 8).map (λx:Nat=>if (x:Int)∈k.rd++k.bd then q7 p b (x:Int) else -2)
def QF (p:Z0) (b:Nat):List Int:=match p[b]? with
 | some k=>MX p b k
 | none=>[]
def IH (p:Z0):List (List Int):=(List.range p.length).map (QF p)
def S8 (n:Nm) (t:List (List Int)):List (List AV):=t.mapIdx (λi r=>[.hs (.c n i 0) 1 0 r.length])
section
variable {t:List (List Int)} {i:Nat} {f:Nm->Option Nm} {n:Nm}
@[simp] theorem tabRows_nil:S8 n []=[]:=rfl
end
def St.qCg (st:St) (d:Nat) (H':Nm->Option AO):St:={ tm:=st.tm,hp:=λm=>if Nm.under (.s d) m then H' m else st.hp m,n:=st.n,gl:=st.gl }
section
variable {st:St} {d t:Nat} {H':Nm->Option AO} {m:Nm}
@[simp] theorem addH_tm:(st.qCg d H').tm=st.tm:=rfl
@[simp] theorem addH_gl:(st.qCg d H').gl=st.gl:=rfl
@[simp] theorem addH_hp:(st.qCg d H').hp m=if Nm.under (.s d) m then H' m else st.hp m:=rfl
end
theorem Qz {st:St} {d:Nat} {H':Nm->Option AO}:st.call d noD noH H'=(st.kill (.s d)).qCg d H':=by
 simp_all[St.call,St.nm,St.qCg,St.kill,so,hkl]
section
variable {X:Ctx} {st:St} {K:St->Prop} {E:AV->St->Prop} {d f:Nat} {ty:TypeId} {pos:String} {aft:Array Edge} {g:Option (Nat×Bool)} {args:Array Operand} {Ts:Array TypeId} {az avs:List AV} {R:Nm->AV->(Nm->Option AO)->Prop}
theorem M2 (hd:d<X.n) (ha:args.toList.map (ev st)=avs) (hB:BwL st.hp noD avs az) (hF:qb X.P X.gl f az R) (hK:∀ y H',R (.s d) y H'->y.cln=true/\K (((st.kill (.s d)).qCg d (qAH H')).put (some d) y)) :
  qS X ⟨some d,.call ⟨.value (.func f),args,Ts⟩,ty,pos,aft,g⟩ K E st:=by
 grind[rM,Qz,LE]
end
theorem zX {H':Nm->Option AO} {n:Nm} {z:Nat} {rows:List (List AV)} (h:H' n=some (.row z rows)) (hc:rows.all (λr=>r.all AV.cln)=true):qAH H' n=some (.row z rows):=by
 grind[qAH,AO.cln]
end Go.Hm
end
section

end
