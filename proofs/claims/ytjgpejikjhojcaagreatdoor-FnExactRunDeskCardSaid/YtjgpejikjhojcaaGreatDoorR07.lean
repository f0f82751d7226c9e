import Derived.Test.YtjgpejikjhojcaaGreatDoorR06
set_option linter.unusedSimpArgs false
set_option linter.unusedVariables false
set_option maxRecDepth 100000
set_option maxHeartbeats 4000000

section
namespace Go.Hm
open Go Go.RowKit
abbrev iv (n:Int):AV:=.sc (.int .i64 n)
abbrev bv (b:Bool):AV:=.sc (.bool b)
abbrev hL (n:Nm) (len:Nat):AV:=.hs n 1 0 len
theorem qm {n:Int} (h1:-9223372036854775808<=n) (h2:n<=9223372036854775807):IntKind.i64.wrap n=n:=by
 grind[IntKind.wrap_i64]
section
variable {st:St} {P:Program} {n m q k0 k1:Nm} {o:AO} {d t a b i j k i' j' k':Nat} {x:AV} {f:Nm->Option Nm}
@[simp] theorem under_ss:Nm.under (.s a) (.s b)=decide (b=a):=ww
@[simp] theorem under_sc:Nm.under (.s a) (.c q i j)=Nm.under (.s a) q:=ww
@[simp] theorem under_su:Nm.under (.s a) (.u k i j)=false:=ww
@[simp] theorem under_cs:Nm.under (.c q i j) (.s b)=false:=ww
@[simp] theorem under_cu:Nm.under (.c q i j) (.u k i' j')=false:=ww
@[simp] theorem under_cc:Nm.under (.c q i j) (.c m i' j')=(decide (m=q/\i'=i/\j'=j)||Nm.under (.c q i j) m):=ww
@[simp] theorem under_us:Nm.under (.u k i j) (.s b)=false:=ww
@[simp] theorem under_uc:Nm.under (.u k i j) (.c q i' j')=Nm.under (.u k i j) q:=ww
@[simp] theorem under_uu:Nm.under (.u k i j) (.u k' i' j')=decide (k'=k/\i'=i/\j'=j):=ww
@[simp] theorem under_refl:Nm.under n n=true:=Nm.kj n
@[simp] theorem under_c1:Nm.under n (.c n i j)=true:=ww
@[simp] theorem under_c2:Nm.under n (.c (.c n i j) i' j')=true:=ww
@[simp] theorem ren_sc:Nm.qv (.s a) k1 (.c q i j)=.c (Nm.qv (.s a) k1 q) i j:=by simp [Nm.qv]
@[simp] theorem ren_self:Nm.qv n k1 n=k1:=by cases n <;> simp [Nm.qv]
@[simp] theorem ren_c1:Nm.qv n k1 (.c n i j)=.c k1 i j:=by
 simp_all[Nm.nN,Nm.qv]
@[simp] theorem ren_c2:Nm.qv n k1 (.c (.c n i j) i' j')=.c (.c k1 i j) i' j':=by
 simp_all[Nm.nN,Nm.qv]
@[simp] theorem kl_eq:kl k0 m=if Nm.under k0 m then none else some m:=rfl
@[simp] theorem mv_eq:mv k0 k1 m=if Nm.under k0 m then some (Nm.qv k0 k1 m) else if Nm.under k1 m then none else some m:=rfl
@[simp] theorem put_tm:(st.put (some d) x).tm t=if t=d then x else st.tm t:=rfl
@[simp] theorem put_no:st.put none x=st:=rfl
@[simp] theorem put_hp':(st.put (some d) x).hp=st.hp:=rfl
@[simp] theorem put_gl':(st.put (some d) x).gl=st.gl:=rfl
@[simp] theorem setO_tm:(st.zT n o).tm=st.tm:=rfl
@[simp] theorem setO_gl:(st.zT n o).gl=st.gl:=rfl
@[simp] theorem GU:(st.zT n o).hp m=if m=n then some o else st.hp m:=rfl
@[simp] theorem kill_tm:(st.kill n).tm t=(st.tm t).tr (kl n):=rfl
@[simp] theorem kill_gl:(st.kill n).gl=st.gl:=rfl
@[simp] theorem kill_hp:(st.kill n).hp m=if Nm.under n m then none else (st.hp m).map (AO.tr (kl n)):=rfl
@[simp] theorem move_tm:(st.move n q).tm t=(st.tm t).tr (mv n q):=rfl
@[simp] theorem move_gl:(st.move n q).gl=st.gl:=rfl
@[simp] theorem Tu:(st.move n q).hp m=if Nm.under q m then (if mv n q (Nm.qv q n m)=some m then (st.hp (Nm.qv q n m)).map (AO.tr (mv n q)) else none) else if Nm.under n m then none else (st.hp m).map (AO.tr (mv n q)):=rfl
@[simp] theorem apd_tm {p:Option Nm}:(st.fL d p).tm t=(st.tm t).tr (kl (.s d)):=rfl
@[simp] theorem apd_gl {p:Option Nm}:(st.fL d p).gl=st.gl:=rfl
@[simp] theorem DU {p:Option Nm}:(st.fL d p).hp m=if p=some m then none else (st.kill (.s d)).hp m:=rfl
@[simp] theorem apSt_eq {z len:Nat} {p:Option Nm} {rows:List (List AV)}:wH d z len p rows st=((st.fL d p).zT (.s d) (.row z (rows.map (λr=>r.map (AV.tr (kl (.s d))))))).put (some d) (.hs (.s d) z 0 len):=rfl
@[simp] theorem mkSt_eq {z l:Nat} {zv:List AV}:AE d z l zv st=((st.kill (.s d)).zT (.s d) (.row z (List.replicate l zv))).put (some d) (.hs (.s d) z 0 l):=rfl
@[simp] theorem bsSt_eq {E z:Nat} {rows:List (List AV)}:iu P E d z rows st=canon (iJ (λi j=>.c (.s d) i j) 0 (dZ P E d 0 (rows.map (λr=>r.map (AV.tr (kl (.s d)))))))
  (((St.kL (iE P E d 0 (rows.map (λr=>r.map (AV.tr (kl (.s d)))))) (st.kill (.s d))).zT (.s d) (.row z (dZ P E d 0 (rows.map (λr=>r.map (AV.tr (kl (.s d)))))))).put (some d) (.hs (.s d) z 0 rows.length)):=rfl
@[simp] theorem boxSt_eq {T:TypeId} {cs:List AV}:bZ P T d cs st=canon (kK (Nm.c (.s d) 0) 0 (yu (Nm.c (.s d) 0) (z8 P T) 0 (cs.map (AV.tr (kl (.s d))))))
  (((St.kL (vG (Nm.c (.s d) 0) (z8 P T) 0 (cs.map (AV.tr (kl (.s d))))) (st.kill (.s d))).zT (.s d) (.row (qf P T) [yu (Nm.c (.s d) 0) (z8 P T) 0 (cs.map (AV.tr (kl (.s d))))])).put (some d) (.pt (.s d) 0)):=rfl
@[simp] theorem mpSt_eq:AG d st=((st.kill (.s d)).zT (.s d) (.map [])).put (some d) (.mp (.s d)):=rfl
@[simp] theorem asgSt_eq {T:TypeId}:oY P T d x st=if jV x then ((((st.kill (.s d)).zT (.s d) (.row (((yU P T).map (qf P)).getD 0) []))).put (some d) (.hs (.s d) (((yU P T).map (qf P)).getD 0) 0 0))
  else match uO x with
   | some k=>if k=.s d then st.put (some d) x else (st.move k (.s d)).put (some d) (x.tr (mv k (.s d)))
   | none=>st.put (some d) x:=rfl
@[simp] theorem canon_nil:canon [] st=st:=rfl
@[simp] theorem canon_cons {p:Nm×Nm} {l:List (Nm×Nm)}:canon (p::l) st=canon l (st.move p.1 p.2):=rfl
@[simp] theorem setNils_nil:St.kL [] st=st:=rfl
@[simp] theorem ZF {p:Nm×Nat} {l:List (Nm×Nat)}:St.kL (p::l) st=(St.kL l st).zT p.1 (.row p.2 []):=rfl
@[simp] theorem addNils_nil:St.dP [] st=st:=rfl
@[simp] theorem addNils_cons {p:Nm×Nat} {l:List (Nm×Nat)}:St.dP (p::l) st=St.dP l ((st.kill p.1).zT p.1 (.row p.2 [])):=rfl
@[simp] theorem stoK_eq {T:TypeId} {off:Nat} {v0:List AV}:wE P T n i off v0 st=St.dP (vG (λj=>.c n i (off+j)) (z8 P T) 0 v0) st:=rfl
@[simp] theorem stoV_eq {T:TypeId} {off:Nat} {v1:List AV}:iR P T n i off v1=yu (λj=>.c n i (off+j)) (z8 P T) 0 v1:=rfl
@[simp] theorem stoSt_eq {z off:Nat} {rows:List (List AV)} {vals:List AV}:ll n z i off rows vals st=canon (kK (λj=>.c n i (off+j)) 0 vals) (st.zT n (.row z (j3 rows i off vals))):=rfl
@[simp] theorem ownRows_nil {T i:Nat}:dZ P T d i []=[]:=rfl
@[simp] theorem ownRows_cons {T i:Nat} {r:List AV} {l:List (List AV)}:dZ P T d i (r::l)=yu (λj=>.c (.s d) i j) (z8 P T) 0 r::dZ P T d (i+1) l:=rfl
@[simp] theorem nilKeysLL_nil {T i:Nat}:iE P T d i []=[]:=rfl
@[simp] theorem nilKeysLL_cons {T i:Nat} {r:List AV} {l:List (List AV)}:iE P T d i (r::l)=vG (λj=>.c (.s d) i j) (z8 P T) 0 r++iE P T d (i+1) l:=rfl
@[simp] theorem prsLL_nil {key:Nat->Nat->Nm}:iJ key i []=[]:=rfl
@[simp] theorem prsLL_cons {key:Nat->Nat->Nm} {r:List AV} {l:List (List AV)}:iJ key i (r::l)=kK (key i) 0 r++iJ key (i+1) l:=rfl
@[simp] theorem zcs_nil {key:Nat->Nm} {es:List Nat}:yu key es j []=[]:=rfl
@[simp] theorem qCV {key:Nat->Nm} {es:List Nat} {l:List AV}:yu key es j (x::l)=(if jV x then .hs (key j) (es.getD j 0) 0 0 else x)::yu key es (j+1) l:=rfl
@[simp] theorem nk_nil {key:Nat->Nm} {es:List Nat}:vG key es j []=[]:=rfl
@[simp] theorem UG {key:Nat->Nm} {es:List Nat} {l:List AV}:vG key es j (x::l)=if jV x then (key j,es.getD j 0)::vG key es (j+1) l else vG key es (j+1) l:=rfl
@[simp] theorem prs_nil {key:Nat->Nm}:kK key j []=[]:=rfl
@[simp] theorem VY {key:Nat->Nm} {l:List AV}:kK key j (x::l)=match uO x with|some k=>(k,key j)::kK key (j+1) l|none=>kK key (j+1) l:=rfl
@[simp] theorem rowsSet_one {r:List AV} {off:Nat} {vals:List AV}:j3 [r] 0 off vals=[r.take off++vals++r.drop (off+vals.length)]:=rfl
@[simp] theorem rowsOf_nil:iO st []=some []:=rfl
@[simp] theorem rowsOf_cons {p:Nat×Operand} {l:List (Nat×Operand)}:iO st (p::l)=((ev st p.2).cells).bind λr=>(iO st l).map (r::·):=rfl
@[simp] theorem resL_nil:wc P st []=some []:=rfl
@[simp] theorem resL_tmp {l:List ResultVar}:wc P st (.tmp t::l)=(wc P st l).map (st.tm t::·):=rfl
@[simp] theorem resL_cell {T:TypeId} {l:List ResultVar}:wc P st (.cell t T::l)=((ar st (st.tm t)).bind (λp=>cU P T p.1 p.2)).bind λx=>(wc P st l).map (x::·):=rfl
@[simp] theorem res1_one:fy [x]=x:=rfl
@[simp] theorem res1_nil:fy []=.zX []:=rfl
@[simp] theorem res1_two {y:AV} {l:List AV}:fy (x::y::l)=.zX (x::y::l):=rfl
@[simp] theorem noD_eq:zn m=false:=rfl
@[simp] theorem noH_eq:yP m=none:=rfl
@[simp] theorem finf_nil {D:Nm->Bool}:zL D [] m=if D m then some m else none:=rfl
@[simp] theorem finf_cons {D:Nm->Bool} {p:Nm×Nm} {l:List (Nm×Nm)}:zL D (p::l) m=if Nm.under p.1 m then some (Nm.qv p.1 p.2 m) else zL D l m:=rfl
@[simp] theorem fing_nil:pG [] m=none:=rfl
@[simp] theorem fing_cons {p:Nm×Nm} {l:List (Nm×Nm)}:pG (p::l) m=if Nm.under p.2 m then some (Nm.qv p.2 p.1 m) else pG l m:=rfl
@[simp] theorem finH_eq {D:Nm->Bool} {sbs:List (Nm×Nm)} {hp:Nm->Option AO}:vF D sbs hp m=if D m then (hp m).map (AO.tr (zL D sbs)) else match pG sbs m with
  | some q=>if zL D sbs q=some m then (hp q).map (AO.tr (zL D sbs)) else none
  | none=>none:=rfl
@[simp] theorem st0_tm {az:List AV} {H:Nm->Option AO} {gl:Nat->Option (List AV)}:(wD az H k gl).tm t=az.getD t (.sc undef):=rfl
@[simp] theorem st0_hp {az:List AV} {H:Nm->Option AO} {gl:Nat->Option (List AV)}:(wD az H k gl).hp=H:=rfl
@[simp] theorem st0_gl {az:List AV} {H:Nm->Option AO} {gl:Nat->Option (List AV)}:(wD az H k gl).gl=gl:=rfl
@[simp] theorem ctx0_P {C:Nat->Prop} {w:World} {g:Gh} {H:Nm->Option AO} {gl:Nat->Option (List AV)}:(yR P C w g H k gl).P=P:=rfl
@[simp] theorem ctx0_n {C:Nat->Prop} {w:World} {g:Gh} {H:Nm->Option AO} {gl:Nat->Option (List AV)}:(yR P C w g H k gl).n=k:=rfl
@[simp] theorem ctx0_gl {C:Nat->Prop} {w:World} {g:Gh} {H:Nm->Option AO} {gl:Nat->Option (List AV)}:(yR P C w g H k gl).gl=gl:=rfl
@[simp] theorem tr_sc {v:Value}:(AV.sc v).tr f=.sc v:=rfl
@[simp] theorem tr_sl {z:Nat} {rows:List (List AV)}:(AV.sl z rows).tr f=.sl z (rows.map (λr=>r.map (AV.tr f))):=by simp [AV.tr,tO]
@[simp] theorem tr_el {row:List AV} {off:Nat}:(AV.el row off).tr f=.el (row.map (AV.tr f)) off:=BT
@[simp] theorem tr_hs {z lo len:Nat}:(AV.hs n z lo len).tr f=match f n with|some n'=>.hs n' z lo len|none=>.bot:=rfl
@[simp] theorem tr_pt {off:Nat}:(AV.pt n off).tr f=match f n with|some n'=>.pt n' off|none=>.bot:=rfl
@[simp] theorem tr_ep {z i off:Nat}:(AV.ep n z i off).tr f=match f n with|some n'=>.ep n' z i off|none=>.bot:=rfl
@[simp] theorem tr_mp:(AV.mp n).tr f=match f n with|some n'=>.mp n'|none=>.bot:=rfl
@[simp] theorem tr_agg {cs:List AV}:(AV.agg cs).tr f=.agg (cs.map (AV.tr f)):=BT
@[simp] theorem tr_tup {cs:List AV}:(AV.zX cs).tr f=.zX (cs.map (AV.tr f)):=BT
@[simp] theorem tr_ifc {T:TypeId}:(AV.jE T x).tr f=.jE T (x.tr f):=rfl
@[simp] theorem tr_fn {F:Fn} {xs ys:List AV}:(AV.fn F xs ys).tr f=.fn F (xs.map (AV.tr f)) (ys.map (AV.tr f)):=BT
@[simp] theorem tr_bot:(AV.bot).tr f=.bot:=rfl
@[simp] theorem aotr_row {z:Nat} {rows:List (List AV)}:AO.tr f (.row z rows)=.row z (rows.map (λr=>r.map (AV.tr f))):=rfl
@[simp] theorem aotr_trow {T:TypeId} {z:Nat} {ex:Bool} {rows:List (List AV)}:AO.tr f (.vw T z ex rows)=.vw T z ex (rows.map (λr=>r.map (AV.tr f))):=rfl
@[simp] theorem aotr_map {es:List (AV×AV)}:AO.tr f (.map es)=.map (es.map (λe=>(e.1.tr f,e.2.tr f))):=rfl
@[simp] theorem nils_int {k:IntKind} {n:Int}:jV (.sc (.int k n))=false:=rfl
@[simp] theorem nils_bool {b:Bool}:jV (.sc (.bool b))=false:=rfl
@[simp] theorem nils_str {b:ByteArray}:jV (.sc (.string b))=false:=rfl
@[simp] theorem nils_ptr {p:Option Addr}:jV (.sc (.pointer p))=false:=rfl
@[simp] theorem nils_ifn:jV (.sc .nilIface)=false:=rfl
@[simp] theorem nils_tup {l:Array Value}:jV (.sc (.tuple l))=false:=rfl
@[simp] theorem nils_nil:jV (.sc (.slice none 0 0))=true:=rfl
@[simp] theorem nils_sl {z:Nat} {rows:List (List AV)}:jV (.sl z rows)=false:=rfl
@[simp] theorem nils_hs {z lo len:Nat}:jV (.hs n z lo len)=false:=rfl
@[simp] theorem nils_el {row:List AV} {off:Nat}:jV (.el row off)=false:=rfl
@[simp] theorem nils_pt {off:Nat}:jV (.pt n off)=false:=rfl
@[simp] theorem nils_ep {z i off:Nat}:jV (.ep n z i off)=false:=rfl
@[simp] theorem nils_mp:jV (.mp n)=false:=rfl
@[simp] theorem nils_agg {cs:List AV}:jV (.agg cs)=false:=rfl
@[simp] theorem nils_tup' {cs:List AV}:jV (.zX cs)=false:=rfl
@[simp] theorem nils_ifc {T:TypeId}:jV (.jE T x)=false:=rfl
@[simp] theorem nils_fn {F:Fn} {xs ys:List AV}:jV (.fn F xs ys)=false:=rfl
@[simp] theorem nils_bot:jV .bot=false:=rfl
@[simp] theorem snm_sc {v:Value}:uO (.sc v)=none:=rfl
@[simp] theorem snm_sl {z:Nat} {rows:List (List AV)}:uO (.sl z rows)=none:=rfl
@[simp] theorem snm_hs {z lo len:Nat}:uO (.hs (.s t) z lo len)=some (.s t):=rfl
@[simp] theorem snm_hc {z lo len:Nat}:uO (.hs (.c q i j) z lo len)=none:=rfl
@[simp] theorem snm_hu {z lo len:Nat}:uO (.hs (.u k i j) z lo len)=none:=rfl
@[simp] theorem snm_pt {off:Nat}:uO (.pt (.s t) off)=some (.s t):=rfl
@[simp] theorem snm_pc {off:Nat}:uO (.pt (.c q i j) off)=none:=rfl
@[simp] theorem snm_pu {off:Nat}:uO (.pt (.u k i j) off)=none:=rfl
@[simp] theorem snm_mp:uO (.mp (.s t))=some (.s t):=rfl
@[simp] theorem snm_mc:uO (.mp (.c q i j))=none:=rfl
@[simp] theorem snm_mu:uO (.mp (.u k i j))=none:=rfl
@[simp] theorem snm_el {row:List AV} {off:Nat}:uO (.el row off)=none:=rfl
@[simp] theorem snm_ep {z i off:Nat}:uO (.ep n z i off)=none:=rfl
@[simp] theorem snm_agg {cs:List AV}:uO (.agg cs)=none:=rfl
@[simp] theorem snm_tup {cs:List AV}:uO (.zX cs)=none:=rfl
@[simp] theorem snm_ifc {T:TypeId}:uO (.jE T x)=none:=rfl
@[simp] theorem snm_fn {F:Fn} {xs ys:List AV}:uO (.fn F xs ys)=none:=rfl
@[simp] theorem snm_bot:uO .bot=none:=rfl
@[simp] theorem one_int {k:IntKind} {n:Int}:(AV.sc (.int k n)).one=true:=rfl
@[simp] theorem one_bool {b:Bool}:(AV.sc (.bool b)).one=true:=rfl
@[simp] theorem one_str {b:ByteArray}:(AV.sc (.string b)).one=true:=rfl
@[simp] theorem one_ptr {p:Option Addr}:(AV.sc (.pointer p)).one=true:=rfl
@[simp] theorem one_ifn:(AV.sc .nilIface).one=true:=rfl
@[simp] theorem one_nil {p:Option Addr} {n c:Nat}:(AV.sc (.slice p n c)).one=true:=rfl
@[simp] theorem one_sl {z:Nat} {rows:List (List AV)}:(AV.sl z rows).one=true:=rfl
@[simp] theorem one_hs {z lo len:Nat}:(AV.hs n z lo len).one=true:=rfl
@[simp] theorem one_el {row:List AV} {off:Nat}:(AV.el row off).one=true:=rfl
@[simp] theorem one_pt {off:Nat}:(AV.pt n off).one=true:=rfl
@[simp] theorem one_ep {z i off:Nat}:(AV.ep n z i off).one=true:=rfl
@[simp] theorem one_mp:(AV.mp n).one=true:=rfl
@[simp] theorem one_ifc {T:TypeId}:(AV.jE T x).one=true:=rfl
@[simp] theorem cells_agg {cs:List AV}:(AV.agg cs).cells=if cs.all AV.one then some cs else none:=rfl
@[simp] theorem cells_sc {v:Value}:(AV.sc v).cells=if (AV.sc v).one then some [.sc v] else none:=rfl
@[simp] theorem cells_sl {z:Nat} {rows:List (List AV)}:(AV.sl z rows).cells=some [.sl z rows]:=rfl
@[simp] theorem cells_hs {z lo len:Nat}:(AV.hs n z lo len).cells=some [.hs n z lo len]:=rfl
@[simp] theorem cells_el {row:List AV} {off:Nat}:(AV.el row off).cells=some [.el row off]:=rfl
@[simp] theorem cells_pt {off:Nat}:(AV.pt n off).cells=some [.pt n off]:=rfl
@[simp] theorem cells_ep {z i off:Nat}:(AV.ep n z i off).cells=some [.ep n z i off]:=rfl
@[simp] theorem cells_mp:(AV.mp n).cells=some [.mp n]:=rfl
@[simp] theorem cells_ifc {T:TypeId}:(AV.jE T x).cells=some [.jE T x]:=rfl
@[simp] theorem cln_sc {v:Value}:(AV.sc v).jU=true:=rfl
@[simp] theorem cln_hs {z lo len:Nat}:(AV.hs n z lo len).jU=true:=rfl
@[simp] theorem cln_pt {off:Nat}:(AV.pt n off).jU=true:=rfl
@[simp] theorem cln_agg {cs:List AV}:(AV.agg cs).jU=cs.all AV.jU:=by simp [AV.jU,xc]
@[simp] theorem cln_tup {cs:List AV}:(AV.zX cs).jU=cs.all AV.jU:=by simp [AV.jU,xc]
@[simp] theorem cln_ifc {T:TypeId}:(AV.jE T x).jU=x.jU:=rfl
section
variable {ty:TypeId} {pos:String} {aft:Array Edge} {g:Option (Nat×Bool)} {T U A:TypeId} {y c i:Operand} {dst:Option Nat}
variable {x:Operand}
@[simp] theorem ev_tmp:ev st (.tmp t)=st.tm t:=rfl
@[simp] theorem ev_const {v:Value}:ev st (.const v)=.sc v:=rfl
@[simp] theorem ev_func {F:FuncId}:ev st (.func F)=.sc (.func (.func F) #[] #[]):=rfl
@[simp] theorem ev_global {G:Nat}:ev st (.global G)=match st.gl G with|some row=>.el row 0|none=>.bot:=rfl
@[simp] theorem qev_move:yk P st ⟨dst,.move x,ty,pos,aft,g⟩=some (ev st x):=rfl
@[simp] theorem qev_pick:yk P st ⟨dst,.pick c x y,ty,pos,aft,g⟩=l8 (ev st c) (ev st x) (ev st y):=rfl
@[simp] theorem qev_load:yk P st ⟨dst,.load T x,ty,pos,aft,g⟩=(ar st (ev st x)).bind (λp=>cU P T p.1 p.2):=rfl
@[simp] theorem qev_nilCheck:yk P st ⟨dst,.nilCheck x,ty,pos,aft,g⟩=pS (ev st x):=rfl
@[simp] theorem qev_binOp {op:BinOp}:yk P st ⟨dst,.binOp op T x y U,ty,pos,aft,g⟩=bY P T op (match y with|.const _=>true|_=>false) (ev st x) (ev st y):=rfl
@[simp] theorem qev_unOp {op:UnOp}:yk P st ⟨dst,.unOp op T x,ty,pos,aft,g⟩=tP op (ev st x):=rfl
@[simp] theorem qev_convert {S:TypeId}:yk P st ⟨dst,.convert S T x,ty,pos,aft,g⟩=xd P S T (ev st x):=rfl
@[simp] theorem qev_mki:yk P st ⟨dst,.makeInterface T x,ty,pos,aft,g⟩=AF P T (ev st x):=rfl
@[simp] theorem qev_slice {lo hi:Option Operand}:yk P st ⟨dst,.slice T x lo hi none,ty,pos,aft,g⟩=(lX (lo.map (ev st))).bind λl=>(lX (hi.map (ev st))).bind λh=>wC P T st.hp (ev st x) (l.map (·.2)) (h.map (·.2)):=rfl
@[simp] theorem qev_fieldAddr {F:Nat}:yk P st ⟨dst,.fieldAddr T x F,ty,pos,aft,g⟩=pE P T F (ev st x):=rfl
@[simp] theorem qev_field {F:Nat}:yk P st ⟨dst,.field T x F,ty,pos,aft,g⟩=sP P T F (ev st x):=rfl
@[simp] theorem qev_indexAddr:yk P st ⟨dst,.indexAddr T x i,ty,pos,aft,g⟩=match ev st i with|.sc (.int _ n)=>xn P T (ev st x) n|_=>none:=rfl
@[simp] theorem qev_index:yk P st ⟨dst,.index T x i,ty,pos,aft,g⟩=match ev st i with|.sc (.int _ n)=>sR P T (ev st x) n|_=>none:=rfl
@[simp] theorem qev_extract {F:Nat}:yk P st ⟨dst,.extract x F,ty,pos,aft,g⟩=xh F (ev st x):=rfl
@[simp] theorem qev_build {parts:Array (Nat×Operand)}:yk P st ⟨dst,.build T parts,ty,pos,aft,g⟩=rO P T (parts.toList.map (λp=>(p.1,ev st p.2))):=rfl
@[simp] theorem qev_tas:yk P st ⟨dst,.typeAssert x T A true,ty,pos,aft,g⟩=np P A (ev st x):=rfl
@[simp] theorem qev_tas1:yk P st ⟨dst,.typeAssert x T A false,ty,pos,aft,g⟩=Cl P A (ev st x):=rfl
@[simp] theorem qev_makeFunc {F:Fn} {xs ys:Array Operand}:yk P st ⟨dst,.makeFunc F xs ys,ty,pos,aft,g⟩=some (.fn F (xs.toList.map (ev st)) (ys.toList.map (ev st))):=rfl
@[simp] theorem qev_lookup {ok:Bool}:yk P st ⟨dst,.lookup T x i ok,ty,pos,aft,g⟩=sf P T st.hp (ev st x) (ev st i) ok:=rfl
@[simp] theorem qev_len:yk P st ⟨dst,.call ⟨.builtin .len,#[x],#[T]⟩,ty,pos,aft,g⟩=lT P T st.hp (ev st x):=rfl
end
section
variable {T U A:TypeId} {cy:Bool} {op:BinOp} {xi yi:Int} {kd:IntKind}
@[simp] theorem bin_int:bY P T op cy (.sc (.int kd xi)) (.sc (.int kd yi))=bj kd op xi yi:=by simp [bY]
@[simp] theorem bin_str {s u:ByteArray}:bY P T op cy (.sc (.string s)) (.sc (.string u))=ph op s u:=rfl
@[simp] theorem bin_bool {s u:Bool}:bY P T op cy (.sc (.bool s)) (.sc (.bool u))=if Cm P T then wA op (s==u) else none:=rfl
@[simp] theorem bin_agg {xs ys:List AV}:bY P T op cy (.agg xs) (.agg ys)=match Al P T with
  | some n=>if xs.length=n then (eL xs ys).bind (wA op) else none
  | none=>none:=rfl
@[simp] theorem bin_pt {off:Nat}:bY P T op cy (.pt n off) (.sc (.pointer none))=if eN P T then wA op false else none:=rfl
@[simp] theorem bin_el {row:List AV} {off:Nat}:bY P T op cy (.el row off) (.sc (.pointer none))=if eN P T then wA op false else none:=rfl
@[simp] theorem bin_ep {z i off:Nat}:bY P T op cy (.ep n z i off) (.sc (.pointer none))=if eN P T then wA op false else none:=rfl
@[simp] theorem bin_nn:bY P T op cy (.sc (.pointer none)) (.sc (.pointer none))=if eN P T then wA op true else none:=rfl
@[simp] theorem bin_ifc {t:TypeId}:bY P T op cy (.jE t x) (.sc .nilIface)=if nA P T then wA op false else none:=rfl
@[simp] theorem bin_ifn:bY P T op cy (.sc .nilIface) (.sc .nilIface)=if nA P T&&cy then wA op true else none:=rfl
@[simp] theorem ptr_eql {r:Bool}:wA .eql r=some (.sc (.bool r)):=rfl
@[simp] theorem ptr_neq {r:Bool}:wA .neq r=some (.sc (.bool (!r))):=rfl
@[simp] theorem eqL_nil:eL [] []=some true:=rfl
@[simp] theorem eqL_cons' {xs ys:List AV}:eL (.sc (.int .i64 xi)::xs) (.sc (.int .i64 yi)::ys)=(eL xs ys).map (λr=>(xi==yi)&&r):=rfl
@[simp] theorem int_add:bj kd .add xi yi=some (.sc (.int kd (kd.wrap (xi+yi)))):=rfl
@[simp] theorem int_sub:bj kd .sub xi yi=some (.sc (.int kd (kd.wrap (xi - yi)))):=rfl
@[simp] theorem int_mul:bj kd .mul xi yi=some (.sc (.int kd (kd.wrap (xi * yi)))):=rfl
@[simp] theorem int_quo:bj kd .quo xi yi=if yi=0 then none else some (.sc (.int kd (kd.wrap (xi.tdiv yi)))):=rfl
@[simp] theorem int_rem:bj kd .rem xi yi=if yi=0 then none else some (.sc (.int kd (xi.tmod yi))):=rfl
@[simp] theorem int_eql:bj kd .eql xi yi=some (.sc (.bool (xi==yi))):=rfl
@[simp] theorem int_neq:bj kd .neq xi yi=some (.sc (.bool (xi != yi))):=rfl
@[simp] theorem int_lss:bj kd .lss xi yi=some (.sc (.bool (decide (xi<yi)))):=rfl
@[simp] theorem int_leq:bj kd .leq xi yi=some (.sc (.bool (decide (xi<=yi)))):=rfl
@[simp] theorem int_gtr:bj kd .gtr xi yi=some (.sc (.bool (decide (xi > yi)))):=rfl
@[simp] theorem int_geq:bj kd .geq xi yi=some (.sc (.bool (decide (xi≥yi)))):=rfl
@[simp] theorem str_add {s u:ByteArray}:ph .add s u=if s.size+u.size<=9223372036854775807 then some (.sc (.string (s++u))) else none:=rfl
@[simp] theorem str_eql {s u:ByteArray}:ph .eql s u=some (.sc (.bool (s.toList==u.toList))):=rfl
@[simp] theorem str_neq {s u:ByteArray}:ph .neq s u=some (.sc (.bool (!(s.toList==u.toList)))):=rfl
@[simp] theorem un_not {b:Bool}:tP .not (.sc (.bool b))=some (.sc (.bool (!b))):=rfl
@[simp] theorem un_neg:tP .neg (.sc (.int kd xi))=some (.sc (.int kd (kd.wrap (-xi)))):=rfl
@[simp] theorem pick_bb {t p q:Bool}:l8 (.sc (.bool t)) (.sc (.bool p)) (.sc (.bool q))=some (.sc (.bool (bif t then p else q))):=rfl
@[simp] theorem pick_ii {t:Bool} {k':IntKind}:l8 (.sc (.bool t)) (.sc (.int kd xi)) (.sc (.int k' yi))=some (bif t then .sc (.int kd xi) else .sc (.int k' yi)):=rfl
@[simp] theorem pick_u1 {t:Bool} {y:AV}:l8 (.sc (.bool t)) (.sc undef) y=some (bif t then .sc undef else y):=rfl
@[simp] theorem pick_u2 {t:Bool} {p:Bool}:l8 (.sc (.bool t)) (.sc (.bool p)) (.sc undef)=some (bif t then .sc (.bool p) else .sc undef):=rfl
@[simp] theorem pick_u3 {t:Bool} {k':IntKind}:l8 (.sc (.bool t)) (.sc (.int k' xi)) (.sc undef)=some (bif t then .sc (.int k' xi) else .sc undef):=rfl
@[simp] theorem len_sl {hp:Nm->Option AO} {z:Nat} {rows:List (List AV)}:lT P T hp (.sl z rows)=if um P T then some (.sc (.int .i64 rows.length)) else none:=rfl
@[simp] theorem len_hs {hp:Nm->Option AO} {z lo len:Nat}:lT P T hp (.hs n z lo len)=if um P T then some (.sc (.int .i64 len)) else none:=rfl
@[simp] theorem len_nil {hp:Nm->Option AO}:lT P T hp (.sc (.slice none 0 0))=if um P T then some (.sc (.int .i64 0)) else none:=rfl
@[simp] theorem len_str {hp:Nm->Option AO} {s:ByteArray}:lT P T hp (.sc (.string s))=if lm P T then some (.sc (.int .i64 s.size)) else none:=rfl
@[simp] theorem len_mp {hp:Nm->Option AO}:lT P T hp (.mp n)=if Ge P T then (match hp n with|some (.map es)=>some (.sc (.int .i64 es.length))|_=>none) else none:=rfl
@[simp] theorem ext_tup {i:Nat} {l:List AV}:xh i (.zX l)=l[i]?:=rfl
@[simp] theorem field_pt {F off:Nat}:pE P T F (.pt n off)=(ql P T F).map (λp=>.pt n (off+p.1)):=rfl
@[simp] theorem field_el {F off:Nat} {row:List AV}:pE P T F (.el row off)=(ql P T F).map (λp=>.el row (off+p.1)):=rfl
@[simp] theorem field_ep {F z i off:Nat}:pE P T F (.ep n z i off)=(ql P T F).map (λp=>.ep n z i (off+p.1)):=rfl
@[simp] theorem fld_agg {F:Nat} {cs:List AV}:sP P T F (.agg cs)=match ql P T F with|some (o,e)=>cU P e cs o|none=>none:=rfl
@[simp] theorem getC_eq {cs:List AV} {off:Nat}:cU P T cs off=match jO P T with
  | some true=>if off+qf P T<=cs.length then some (.agg ((cs.drop off).take (qf P T))) else none
  | some false=>cs[off]?
  | none=>none:=rfl
@[simp] theorem index_eq:xn P T x xi=match yU P T with
  | some e=>match x with
   | .sl z rows=>if z=qf P e/\0<=xi then (rows[xi.toNat]?).map (λr=>.el r 0) else none
   | .hs m z lo len=>if z=qf P e/\0<=xi/\xi<len then some (.ep m z (lo+xi.toNat) 0) else none
   | _=>none
  | none=>match dD P T with
   | some (len,e)=>if 0<=xi/\xi<len then (match x with
    | .pt m off=>some (.pt m (off+xi.toNat * qf P e))
    | .el row off=>some (.el row (off+xi.toNat * qf P e))
    | .ep m z i off=>some (.ep m z i (off+xi.toNat * qf P e))
    | _=>none) else none
   | none=>none:=rfl
@[simp] theorem idx_agg {cs:List AV}:sR P T (.agg cs) xi=match dD P T with
  | some (len,e)=>if 0<=xi/\xi<len then cU P e cs (xi.toNat * qf P e) else none
  | none=>none:=rfl
@[simp] theorem idx_str {s:ByteArray}:sR P T (.sc (.string s)) xi=if lm P T/\0<=xi then (s.data.toList[xi.toNat]?).map (λb=>.sc (.int .u8 b.toNat)) else none:=rfl
@[simp] theorem cells_at_pt {off:Nat}:ar st (.pt n off)=match st.hp n with
  | some (.row _ (r::_))=>some (r,off)
  | _=>none:=rfl
@[simp] theorem cells_at_el {row:List AV} {off:Nat}:ar st (.el row off)=some (row,off):=rfl
@[simp] theorem cells_at_ep {z i off:Nat}:ar st (.ep n z i off)=match st.hp n with
  | some (.row z' rows)=>if z'=z then (rows[i]?).map (λr=>(r,off)) else none
  | _=>none:=rfl
@[simp] theorem mki_eq:AF P T x=if wM P T=some false then some (.jE T x) else none:=rfl
@[simp] theorem tas_ifc {t:TypeId}:np P A (.jE t x)=if wM P A=some false then (if t=A then some (.zX [x,.sc (.bool true)]) else (wg P A).map (λz=>.zX [z,.sc (.bool false)])) else none:=rfl
@[simp] theorem tas_nil:np P A (.sc .nilIface)=if wM P A=some false then (wg P A).map (λz=>.zX [z,.sc (.bool false)]) else none:=rfl
@[simp] theorem cnv_int:xd P T A (.sc (.int kd xi))=match Cp P A,P.underlying T with|some k,some (.int _)=>some (.sc (.int k (k.wrap xi)))|_,_=>none:=rfl
@[simp] theorem bld_eq {parts:List (Nat×AV)}:rO P T parts=if yt P T then
  match yC P T with
  | some z=>(lJ P T (z.map .sc) parts).map .agg
  | none=>none
 else none:=rfl
@[simp] theorem fill_nil {cs:List AV}:lJ P T cs []=some cs:=rfl
@[simp] theorem fill_cons {cs:List AV} {i:Nat} {rest:List (Nat×AV)}:lJ P T cs ((i,x)::rest)=match ql P T i,x.cells with
  | some (o,e),some ds=>if ds.length=qf P e/\o+ds.length<=cs.length then lJ P T (cs.take o++ds++cs.drop (o+ds.length)) rest else none
  | _,_=>none:=rfl
@[simp] theorem nil_pt {off:Nat}:pS (.pt n off)=some (.pt n off):=rfl
@[simp] theorem nil_el {row:List AV} {off:Nat}:pS (.el row off)=some (.el row off):=rfl
@[simp] theorem nil_ep {z i off:Nat}:pS (.ep n z i off)=some (.ep n z i off):=rfl
@[simp] theorem nil_fn {F:FuncId} {xs ys:List AV}:pS (.fn (.func F) xs ys)=some (.fn (.func F) xs ys):=rfl
@[simp] theorem pl_pt {off:Nat}:pl (.pt n off)=some (n,0,off):=rfl
@[simp] theorem pl_ep {z i off:Nat}:pl (.ep n z i off)=some (n,i,off):=rfl
@[simp] theorem ra_pt {off:Nat}:iN st (.pt n off)=match st.hp n with|some (.row z rows)=>some (z,rows)|_=>none:=rfl
@[simp] theorem ra_ep {z i off:Nat}:iN st (.ep n z i off)=match st.hp n with|some (.row z' rows)=>if z'=z then some (z,rows) else none|_=>none:=rfl
@[simp] theorem src_sl {z z':Nat} {rows:List (List AV)}:bH st z (.sl z' rows)=if z'=z then some rows else none:=rfl
@[simp] theorem src_nil {z:Nat}:bH st z (.sc (.slice none 0 0))=some []:=rfl
@[simp] theorem src_hs {z z' lo len:Nat}:bH st z (.hs n z' lo len)=match st.hp n with
  | some (.row z'' rows)=>if z'=z/\z''=z/\lo+len<=rows.length then some ((rows.drop lo).take len) else none
  | _=>none:=rfl
@[simp] theorem optInt_none:lX none=some none:=rfl
@[simp] theorem optInt_some:lX (some (.sc (.int kd xi)))=some (some (kd,xi)):=rfl
end
end
theorem qM.CS {P:Program} {gl:Nat->Option (List AV)} {f:FuncId} {az:List AV} {R:Nm->AV->(Nm->Option AO)->Prop} {fn:Func} {c:Code} {rs:List ResultVar} {n:Nat}
  (hf:P.funcs[f]?=some fn) (hb:fn.body=some c) (hname:(fn.name == "runtime.NumGoroutine")=false) (hrs:fn.results.toList=rs) (hn:fn.ntmps=n) (hle:az.length<=n)
  (h:∀ C w g root,jD (yR P C w g yP n gl) c (pI P zn root rs R zG) (wD az yP n gl)):qM P gl f az R :=
 qZ.CS hf hb hname hrs hn hle (λ_ h=>kR) (λC w g root _=>h C w g root)
theorem qM.q9 {P:Program} {gl:Nat->Option (List AV)} {f:FuncId} {as:List AV} {R:Nm->AV->(Nm->Option AO)->Prop} {fn:Func} {c:Code} {n:Nat} (hf:P.funcs[f]?=some fn) (rs:List ResultVar) (hn:fn.ntmps=n) (h:∀ C w g root,jD (yR P C w g yP n gl) c (pI P zn root rs R zG) (wD as yP n gl)) (hb:fn.body=some c:=by exact rfl) (hname:(fn.1 ==  "runtime.NumGoroutine")=false:=by kernel_rfl) (hrs:fn.results.toList=rs:=by exact rfl) (hle:as.length<=n:=by exact lB rfl):qM P gl f as R:=qM.CS hf hb hname hrs hn hle h
def qj (xs:List Int):List (List AV):=xs.map (λn=>[iv n])
@[simp] theorem irows_len {xs:List Int}:(qj xs).length=xs.length:=wJ
@[simp] theorem irows_get {xs:List Int} {i:Nat}:(qj xs)[i]?=(xs[i]?).map (λn=>[iv n]):=wJ
@[simp] theorem irows_getE {xs:List Int} {i:Nat} {h:i<(qj xs).length}:(qj xs)[i]=[iv (xs[i]' qP)]:=wJ
@[simp] theorem irows_tr {xs:List Int} {f:Nm->Option Nm}:(qj xs).map (λr=>r.map (AV.tr f))=qj xs:=wJ
@[simp] theorem irows_take {xs:List Int} {i:Nat}:(qj xs).take i=qj (xs.take i):=wJ
@[simp] theorem SV {xs ys:List Int}:qj xs++qj ys=qj (xs++ys):=wJ
@[simp] theorem irows_app1 {xs:List Int} {n:Int}:qj xs++[[.sc (.int .i64 n)]]=qj (xs++[n]):=wJ
@[simp] theorem irows_nil:qj []=[]:=rfl
@[simp] theorem irows_cln {xs:List Int}:(qj xs).all (λr=>r.all AV.jU)=true:=wJ
@[simp] theorem irows_set {xs:List Int} {i:Nat} {n:Int}:j3 (qj xs) i 0 [.sc (.int .i64 n)]=qj (xs.set i n):=by
 simp only [j3,qj];apply y6
 grind
theorem SW {xs:List Int}:∀ r∈qj xs,r.length=1:=wJ
abbrev jG (xs:List Int):AV:=.sl 1 (qj xs)
theorem gb {hp:Nm->Option AO} {n:Nm} {z len:Nat} {rows:List (List AV)} (hn:hp n=some (.row z rows)) (hl:len=rows.length) (hz:∀ r∈rows,r.length=z):Bw hp zn (.hs n z 0 len) (.sl z rows):=by
 refine .hs n z 0 len rows rows rfl hn qA hl.symm hz λi r r' hr hr' j a a' ha ha'=>?_;rw [fF] at hr;rw [hr] at hr';obtain rfl:=sI hr';rw [ha] at ha';obtain rfl:=sI ha';exact .refl _
theorem dR {hp:Nm->Option AO} {n:Nm} {len:Nat} {xs:List Int} (hn:hp n=some (.row 1 (qj xs))) (hl:len=xs.length):Bw hp zn (.hs n 1 0 len) (jG xs):=gb hn oh SW
structure q8 where
 kind:Int
 to:Int
 a:Int
 b:Int
 deriving DecidableEq,Inhabited
abbrev q8.cells (s:q8):List AV:=[iv s.kind,iv s.to,iv s.a,iv s.b]
abbrev q8.av (s:q8):AV:=.agg s.cells
def ab (ss:List q8):List (List AV):=ss.map q8.cells
section
variable {ss tt:List q8} {s:q8} {i:Nat} {f:Nm->Option Nm}
@[simp] theorem srows_len:(ab ss).length=ss.length:=md
@[simp] theorem srows_get:(ab ss)[i]?=(ss[i]?).map q8.cells:=md
@[simp] theorem srows_getE {h:i<(ab ss).length}:(ab ss)[i]=(ss[i]' qP).cells:=md
@[simp] theorem srows_tr:(ab ss).map (λr=>r.map (AV.tr f))=ab ss:=md
@[simp] theorem srows_take:(ab ss).take i=ab (ss.take i):=md
@[simp] theorem srows_nil:ab []=[]:=rfl
@[simp] theorem srows_cln:(ab ss).all (λr=>r.all AV.jU)=true:=md
theorem Zn:∀ r∈ab ss,r.length=4:=md
abbrev ec (ss:List q8):AV:=.sl 4 (ab ss)
theorem BK {hp:Nm->Option AO} {n:Nm} {len:Nat} (hn:hp n=some (.row 4 (ab ss))) (hl:len=ss.length):Bw hp zn (.hs n 4 0 len) (ec ss):=gb hn oh Zn
end
structure qX where
 kind:Int
 parent:Int
 params:List Int
 body:List q8
 deriving DecidableEq,Inhabited
abbrev qX.cells (k:qX):List AV:=[iv k.kind,iv k.parent,jG k.params,ec k.body]
abbrev qX.av (k:qX):AV:=.agg k.cells
def lR (ks:List qX):List (List AV):=ks.map qX.cells
abbrev qC:=List qX
section
variable {ks ls:List qX} {k:qX} {i:Nat} {f:Nm->Option Nm}
@[simp] theorem krows_len:(lR ks).length=ks.length:=xR
@[simp] theorem Sg:(lR ks)[i]?=(ks[i]?).map qX.cells:=xR
@[simp] theorem krows_getE {h:i<(lR ks).length}:(lR ks)[i]=(ks[i]' qP).cells:=xR
@[simp] theorem krows_tr:(lR ks).map (λr=>r.map (AV.tr f))=lR ks:=xR
abbrev jc (ks:List qX):AV:=.sl 4 (lR ks)
abbrev jB (p:qC):AV:=.agg [jc p]
end
def yj (xs:List Int) (x:Int):Int:=match xs.findIdx? (·==x) with|some i=>i|none=>-1
theorem l9 {xs:List Int} {x:Int}:0<=yj xs x↔x∈xs:=by
 grind[yj]
def ul (xs:List Int):Nat->List Int
 | 0=>[]
 | n+1=>if (n:Int)∈xs then ul xs n++[(n:Int)] else ul xs n
def sorted (xs:List Int):List Int:=ul xs 8
theorem FL {xs:List Int} {x:Int}:∀ n:Nat,x∈ul xs n↔x∈xs/\0<=x/\x<n
 | 0=>by
  grind[ul]
 | n+1=>by
  simp only [ul]
  split
  .rename_i h;simp only [y9,FL n,vD]
   grind
  .rename_i h;rw [FL n]
   grind
theorem mem_sorted {xs:List Int} {x:Int}:x∈sorted xs↔x∈xs/\0<=x/\x<=7:=by
 grind[sorted,FL]
theorem Ms {xs:List Int}:∀ n:Nat,(ul xs n).length<=n
 := by intro x0;induction x0<;>grind[ul]
theorem tI {xs:List Int}:(sorted xs).length<=8:=Ms 8
def q8.reads (s:q8):List Int :=
 if s.kind=1\/s.kind=6\/s.kind=7\/s.kind=8 then [s.a] else if s.kind=2 then [s.a,s.b] else if s.kind=5 then (if s.b=-1 then [s.a] else [s.a,s.b]) else []
theorem q8.iM (s:q8):s.reads.length<=2:=by
 grind[reads]
abbrev q8.cz (s:q8):Prop:=0<=s.kind/\s.kind<=6
def aJ (ss:List q8):List Int:=ss.flatMap q8.reads
def mP (k:qX):List Int:=k.params++(k.body.filter (λs=>decide (s.cz\/s.kind=11))).map q8.to
def mo (k:qX) (d:Int):List Int:=(k.body.filter (λs=>decide (s.kind=d))).map q8.to
theorem Xl (ss:List q8):(aJ ss).length<=2 * ss.length:=by
 induction ss<;>grind[aJ,q8.iM]
structure jt (p:qC):Prop where
 len:p.length<=1048576
 params:∀ k∈p,k.params.length<=1048576
 body:∀ k∈p,k.body.length<=1048576
structure ia (k:qX):Prop where
 params:k.params.length<=1048576
 body:k.body.length<=1048576
theorem jt.ko {p:qC} (h:jt p) {b:Nat} {k:qX} (hk:p[b]?=some k):ia k:=⟨h.params k (gM hk),h.body k (gM hk)⟩
def qX.rd (k:qX):List Int:=sorted (aJ k.body)
def qX.bd (k:qX):List Int:=sorted (mP k)
def qX.dc (k:qX) (d:Int):List Int:=sorted (mo k d)
theorem qX.MA (k:qX):k.rd.length<=8:=tI
theorem qX.Hf (k:qX):k.bd.length<=8:=tI
theorem qX.sL (k:qX) (d:Int):(k.dc d).length<=8:=tI
def uA (b:Nat) (k:qX) (x:Int):Bool:=decide (0<b)&&decide (x∈k.bd)&&!decide (x∈k.dc 9)&&!decide (x∈k.dc 10)
def zj (p:qC):Prop:=∀ (i:Nat) (q:qX),p[i]?=some q -> -1<=q.parent/\q.parent<i/\(0<i->0<=q.parent)
def yK (p:qC) (x:Int):Nat->Int->Int
 | 0,_=>-1
 | n+1,j=>if j<=0 then -1 else match p[j.toNat]? with
  | none=>-1
  | some q=>if q.kind≠1 then yK p x n q.parent else if x∈q.dc 9 then -1 else if uA j.toNat q x then j else yK p x n q.parent
theorem F1 {p:qC} {x:Int} (hp:zj p):∀ (n m:Nat) (j:Int),j<=n->j<=m->yK p x n j=yK p x m j
 | 0,0,_,_,_=>rfl
 | 0,m+1,j,h,_=>by grind[yK]
 | n+1,0,j,_,h=>by grind[yK]
 | n+1,m+1,j,h1,h2=>by
  simp only [yK]
  split
  .rfl
  .rename_i hj
   split
   .rfl
   .rename_i q hq;obtain⟨h3,h4,_⟩:=hp j.toNat q hq;rw [F1 hp n m q.parent qA qA]
def outer (p:qC) (b:Nat) (x:Int):Int:=match p[b]? with
 | some k=>yK p x b k.parent
 | none=>-1
def zI (p:qC) (b:Nat) (x:Int):Int:=match p[b]? with
 | some k=>if b=0\/x∈k.dc 9 then -1 else if uA b k x then b else outer p b x
 | none=>-1
def bC (p:qC) (b:Nat) (j kind:Int):Bool:=decide ((b:Int)+1<=j/\j<=(p.length:Int) - 1)&&match p[j.toNat]? with
 | some q=>(q.kind==kind)&&(q.parent==b)
 | none=>false
def eR (s:q8) (b:Int):Bool:=(s.kind==3||s.kind==4)&&s.a==b
def aW (p:qC) (b:Nat):Int:=match p[b]? with
 | some k=>match p[k.parent.toNat]? with
  | some q=>(q.body.filter (λs=>eR s b)).length
  | none=>0
 | none=>0
theorem iT {α:Type} {l:List α} {s:α} {i:Nat} {f:α->Bool} (h:l[i]?=some s):(l.take (i+1)).filter f=(l.take i).filter f++(if f s then [s] else []):=by
 grind[uG]
theorem lZ {p:qC} {b:Nat} {k:qX} {x:Int} (hp:zj p) (hk:p[b]?=some k):outer p b x=yK p x p.length k.parent:=by
 simp only [outer,hk];obtain⟨h1,h2,_⟩:=hp b k hk
 grind[F1]
theorem lY {p:qC} {j:Nat} {q:qX} {x:Int} (hp:zj p) (hq:p[j]?=some q) (h0:0<j):yK p x p.length j=if q.kind≠1 then yK p x p.length q.parent else if x∈q.dc 9 then -1 else if uA j q x then (j:Int) else yK p x p.length q.parent:=by
 have hb:j<p.length:=(gS hq).1;obtain⟨h1,h2,_⟩:=hp j q hq;obtain⟨n,hn⟩:∃ n,p.length=n+1:=⟨p.length - 1,qA⟩;have e:yK p x n q.parent=yK p x (n+1) q.parent:=F1 hp _ _ _ qA qA;rw [hn,<- e]
 conv=>lhs;rw [yK]
 grind
theorem AM {p:qC} {j x:Int} (h:j<=0):∀ n,yK p x n j=-1
 | 0=>rfl
 | n+1=>by grind[yK]
abbrev uq (b:Nat) (k:qX):Prop:=if b=0 then k.kind=0/\k.parent=-1/\k.params.length=0 else
 1<=k.kind/\k.kind<=2/\0<=k.parent/\k.parent<b/\(k.params.length=0\/(k.params.length=1/\k.kind=1/\0<=k.params.headD 0/\k.params.headD 0<=7))
def aU (b:Nat) (k:qX):Bool:=decide (uq b k)
abbrev gv (x:Int):Bool:=decide (0<=x)&&decide (x<=7)
def zt (p:qC) (i:Nat) (k:qX) (s:q8):Bool:=gv s.to&&s.reads.all gv &&
 (if s.kind=0 then decide (0<=s.a)&&decide (s.a<=99)&&s.b==0 else if s.kind=1 then s.b==0 else if s.kind=2\/s.kind=5 then true
 else if s.kind=3 then s.b==0&&bC p i s.a 1 else if s.kind=4 then s.b==0&&bC p i s.a 2 else if s.kind=6 then gv s.b
 else if s.kind=7 then s.to==0&&s.b==0 else if s.kind=8 then s.to==0&&s.b==0&&k.kind==1
 else if s.kind=9\/s.kind=10 then s.a==0&&s.b==0&&k.kind != 0 else if s.kind=11 then s.a==0&&s.b==0 else false)
def wn (p:qC) (i:Nat):Bool:=match p[i]? with
 | some k=>aU i k&&decide (k.body.length<=12)&&k.body.all (zt p i k)
 | none=>false
def uk (p:qC):Bool:=(decide (1<=p.length)&&decide (p.length<=7))&&(List.range p.length).all (wn p)&&(List.range p.length).all (λi=>i==0||aW p i==1)
theorem uq.head {b:Nat} {k:qX} (h:uq b k):-1<=k.parent/\k.parent<b/\(0<b->0<=k.parent):=by
 grind
theorem BD {p:qC} {i:Nat} {k:qX} (hk:p[i]?=some k) (h:wn p i=true):uq i k/\k.body.length<=12/\k.body.all (zt p i k)=true:=by
 grind[wn,aU]
theorem mL {f:Nat->Bool} {n:Nat}:(List.range (n+1)).all f=((List.range n).all f&&f n):=by
 grind
theorem Jh {p:qC} (h:(List.range p.length).all (wn p)=true):zj p:=by
 intro i q hq;have hi:i<p.length:=(gS hq).1;exact (BD hq (y5.1 h i (gT.2 hi))).1.head
theorem ld {f:Nat->Bool} {n i:Nat} (hi:i<n) (h:f i=false):(List.range n).all f=false:=by
 grind
theorem Hd {α:Type} {f:α->Bool} {l:List α} {x:α} (hx:x∈l) (h:f x=false):l.all f=false:=by
 grind
def w4 (p:qC) (b:Nat) (k:qX) (x:Int):Bool :=
 !(decide (x∈k.dc 9)&&(decide (x∈k.dc 10)||decide (x∈k.params))||decide (x∈k.dc 10)&&(decide (x∈k.params)||decide (outer p b x<0)))
def aB (p:qC) (b:Nat):Bool:=match p[b]? with
 | some k=>(List.range 8).all (λx=>w4 p b k (x:Int))
 | none=>false
def jq (p:qC):Bool:=uk p&&(List.range p.length).all (λb=>b==0||aB p b)
theorem Aa {p:qC} (h:uk p=true):zj p/\1<=p.length/\p.length<=7/\(List.range p.length).all (wn p)=true/\∀ i,0<i->i<p.length->aW p i=1:=by
 grind[uk,Jh]
def uK (n0 n1 m:Nm):Option Nm:=if Nm.under n0 m&&decide (m≠n0) then some (Nm.qv n0 n1 m) else if Nm.under n1 m&&decide (m≠n1) then none else some m
theorem Kp {k0 k1 k k' x:Nm} (h:uK k0 k1 k=some x) (h':uK k0 k1 k'=some x):k=k':=by
 have img:∀ m,Nm.under k0 m=true->m≠k0->Nm.under k1 (Nm.qv k0 k1 m)=true/\Nm.qv k0 k1 m≠k1:=by
  intro m hu hne;refine⟨Nm.ei m hu,λe=>hne ?_⟩;exact Nm.C2 m k0 hu (Nm.kj k0) xJ
 grind[uK,Nm.C2]
def Ji (n0 n1:Nm) (hp:Nm->Option AO):Nm->Option AO:=λm =>
 if Nm.under n1 m&&decide (m≠n1) then (if uK n0 n1 (Nm.qv n1 n0 m)=some m then (hp (Nm.qv n1 n0 m)).map (AO.tr (uK n0 n1)) else none)
 else if Nm.under n0 m&&decide (m≠n0) then none else (hp m).map (AO.tr (uK n0 n1))
def St.uK (n0 n1:Nm) (st:St):St:=st.nm (Hm.uK n0 n1) (Ji n0 n1 st.hp)
section
variable {X:Ctx} {st:St} {a:Act} {w:World} {K:St->Prop} {E:AV->St->Prop}
theorem Rw.uK (h:Rw X st a w) (n0 n1:Nm):Rw X (st.uK n0 n1) a w:=by
 obtain⟨C,g,e1,e2,e3,e4,e5,hr⟩:=h;refine⟨C,_,e1,e2,e3,e4,?_,hr.rename (f:=Hm.uK n0 n1) (λ_ _ _=>Kp) (λn' o' e=>?_)⟩
 .intro k i j he
  have e:Hm.uK n0 n1 (.u k i j)=some (.u k i j):=by
   grind[Nm.under,Hm.uK]
  obtain⟨x1,x2⟩:=Gh.eh (g:=g) (λ_ _ _=>Kp) e;obtain⟨y1,y2⟩:=e5 k i j he
  simp_all
 grind[Ji,zu,Hm.uK]
def ox:AV->Option Nm
 | .hs n _ _ _=>if n.z7 then none else some n
 | .pt n _=>if n.z7 then none else some n
 | .mp n=>if n.z7 then none else some n
 | _=>none
def fq (key:Nat->Nm):Nat->List AV->List (Nm×Nm)
 | _,[]=>[]
 | j,x::l=>match ox x with
  | some k=>(k,key j)::fq key (j+1) l
  | none=>fq key (j+1) l
def nS (n:Nm):Nat->List (List AV)->List (Nm×Nm)
 | _,[]=>[]
 | i,r::l=>fq (λj=>.c n i j) 0 r++nS n (i+1) l
theorem Ff {n:Nm} (hn:n.z7=false) {i:Nat}:∀ (r:List AV) (j:Nat),iI (fq (λj=>.c n i j) j r)
 | [],_=>by simp [fq,iI]
 | x::l,j=>by
  simp only [fq]
  split
  .rename_i k hk;intro p hp;rcases vQ.1 hp with rfl|hp
   .refine⟨?_,rfl⟩;unfold ox at hk
    grind
   .exact Ff hn l (j+1) p hp
  .exact Ff hn l (j+1)
theorem L6 {n:Nm} (hn:n.z7=false):∀ (rows:List (List AV)) (i:Nat),iI (nS n i rows)
 | [],_=>by simp [nS,iI]
 | r::l,i=>by
  intro p hp;rcases y9.1 hp with hp|hp
  .exact Ff hn r 0 p hp
  .exact L6 hn l (i+1) p hp
theorem Rw.canon:∀ {l:List (Nm×Nm)} {st:St},iI l->Rw X st a w->Rw X (canon l st) a w
 | [],_,_,h=>h
 | p::l,st,hp,h=>Rw.canon (l:=l) (λq hq=>hp q gi) (h.move p.1 p.2 (.inl (hp p qB).1) (.inl (hp p qB).2))
theorem qn.post {o:Oper} {K':St->Prop} (h:qn X o K' E st) (hK:∀ s a w,Rw X s a w->K' s->∃ s',Rw X s' a w/\K s'):qn X o K E st:=by
 intro a w Q hR hE;refine Oper.wp_mono ?_ (h a w Q hR hE)
 grind
theorem UQ {T F:TypeId} {s x:Operand} {z len d:Nat} {n:Nm} {rows0 rows2:List (List AV)} {ty:TypeId} {pos:String} {aft:Array Edge} {g:Option (Nat×Bool)} {st':St} (hd:d<X.n) (hT:yQ X.P T=some F) (hz:qf X.P F=z) (hs:ev st s=.hs n z 0 len) (hn:st.hp n=some (.row z rows0)) (hle:len<=rows0.length)
  (hx:bH st z (ev st x)=some rows2) (hlen:len+rows2.length<=4294967296) (hq:Hm.canon (nS (.s d) len rows2) ((wH d z (len+rows2.length) (some n) (rows0.take len++rows2) st).uK n (.s d))=st') (h:K st') :
  qn X ⟨some d,.call ⟨.builtin .append,#[s,x],#[T,T]⟩,ty,pos,aft,g⟩ K E st:=by
 refine qn.post (M9 (K:=λs'=>s'=wH d z (len+rows2.length) (some n) (rows0.take len++rows2) st) rfl rfl hd hT hz hs hn hle hx hlen rfl) ?_;rintro s' a w hR rfl;exact⟨_,Rw.canon (L6 rfl _ _) (hR.uK n (.s d)),hq ▸ h⟩
end
section
variable {st:St} {n q m k0 k1:Nm} {t:Nat} {x:AV} {k i j:Nat}
@[simp] theorem mvc_eq:uK k0 k1 m=if Nm.under k0 m&&decide (m≠k0) then some (Nm.qv k0 k1 m) else if Nm.under k1 m&&decide (m≠k1) then none else some m:=rfl
@[simp] theorem mvc_tm:(st.uK n q).tm t=(st.tm t).tr (uK n q):=rfl
@[simp] theorem mvc_gl:(st.uK n q).gl=st.gl:=rfl
@[simp] theorem mvc_hp:(st.uK n q).hp m=if Nm.under q m&&decide (m≠q) then (if uK n q (Nm.qv q n m)=some m then (st.hp (Nm.qv q n m)).map (AO.tr (uK n q)) else none) else if Nm.under n m&&decide (m≠n) then none else (st.hp m).map (AO.tr (uK n q)):=rfl
@[simp] theorem cnm_hs {z lo len:Nat}:ox (.hs n z lo len)=if n.z7 then none else some n:=rfl
@[simp] theorem cnm_pt {off:Nat}:ox (.pt n off)=if n.z7 then none else some n:=rfl
@[simp] theorem cnm_sc {v:Value}:ox (.sc v)=none:=rfl
@[simp] theorem cnm_sl {z:Nat} {rows:List (List AV)}:ox (.sl z rows)=none:=rfl
@[simp] theorem prc_nil {key:Nat->Nm}:fq key j []=[]:=rfl
@[simp] theorem prc_cons {key:Nat->Nm} {l:List AV}:fq key j (x::l)=match ox x with|some k=>(k,key j)::fq key (j+1) l|none=>fq key (j+1) l:=rfl
@[simp] theorem prcL_nil:nS n i []=[]:=rfl
@[simp] theorem prcL_cons {r:List AV} {l:List (List AV)}:nS n i (r::l)=fq (λj=>.c n i j) 0 r++nS n (i+1) l:=rfl
@[simp] theorem isU_s:(Nm.s k).z7=false:=rfl
@[simp] theorem isU_c:(Nm.c n i j).z7=false:=rfl
@[simp] theorem isU_u:(Nm.u k i j).z7=true:=rfl
end
@[simp] theorem srows_app2 {ss:List q8} {a b c d:Int}:ab ss++[[.sc (.int .i64 a),.sc (.int .i64 b),.sc (.int .i64 c),.sc (.int .i64 d)]]=ab (ss++[⟨a,b,c,d⟩]):=md
def Uq (p:qC) (b:Nat) (k:qX):List Int:=(List.range 8).map (λx:Nat=>if (x:Int)∈k.rd++k.bd then zI p b (x:Int) else -2)
def Up (p:qC) (b:Nat):List Int:=match p[b]? with
 | some k=>Uq p b k
 | none=>[]
def LW (p:qC):List (List Int):=(List.range p.length).map (Up p)
def Δ (n:Nm) (t:List (List Int)):List (List AV):=t.mapIdx (λi r=>[.hs (.c n i 0) 1 0 r.length])
section
variable {t:List (List Int)} {i:Nat} {f:Nm->Option Nm} {n:Nm}
@[simp] theorem tabRows_nil:Δ n []=[]:=rfl
end
def St.oP (st:St) (d:Nat) (H':Nm->Option AO):St:={ tm:=st.tm,hp:=λm=>if Nm.under (.s d) m then H' m else st.hp m,n:=st.n,gl:=st.gl }
section
variable {st:St} {d t:Nat} {H':Nm->Option AO} {m:Nm}
@[simp] theorem addH_tm:(st.oP d H').tm=st.tm:=rfl
@[simp] theorem addH_gl:(st.oP d H').gl=st.gl:=rfl
@[simp] theorem addH_hp:(st.oP d H').hp m=if Nm.under (.s d) m then H' m else st.hp m:=rfl
end
theorem P4 {st:St} {d:Nat} {H':Nm->Option AO}:st.call d zn yP H'=(st.kill (.s d)).oP d H':=by
 simp_all[St.call,St.nm,St.oP,St.kill,pA,jw]
section
variable {X:Ctx} {st:St} {K:St->Prop} {E:AV->St->Prop} {d f:Nat} {ty:TypeId} {pos:String} {aft:Array Edge} {g:Option (Nat×Bool)} {args:Array Operand} {Ts:Array TypeId} {az avs:List AV} {R:Nm->AV->(Nm->Option AO)->Prop}
theorem UU (hd:d<X.n) (ha:args.toList.map (ev st)=avs) (hB:aP st.hp zn avs az) (hF:qM X.P X.gl f az R) (hK:∀ y H',R (.s d) y H'->y.jU=true/\K (((st.kill (.s d)).oP d (vh H')).put (some d) y)) :
  qn X ⟨some d,.call ⟨.value (.func f),args,Ts⟩,ty,pos,aft,g⟩ K E st:=by
 grind[GQ,P4,lv]
end
theorem aE {H':Nm->Option AO} {n:Nm} {z:Nat} {rows:List (List AV)} (h:H' n=some (.row z rows)) (hc:rows.all (λr=>r.all AV.jU)=true):vh H' n=some (.row z rows):=by
 grind[vh,AO.jU]
end Go.Hm
end
section

end
section
namespace Go.Hm
open Go Go.RowKit
def vX (n:Nm) (p:qC):List (List AV):=p.mapIdx (λi k=>[iv k.kind,iv k.parent,.hs (.c n i 2) 1 0 k.params.length,.hs (.c n i 3) 4 0 k.body.length])
structure ew (hp:Nm->Option AO) (n:Nm) (p:qC):Prop where
 top:hp n=some (.row 4 (vX n p))
 params:∀ (i:Nat) k,p[i]?=some k->hp (.c n i 2)=some (.row 1 (qj k.params))
 body:∀ (i:Nat) k,p[i]?=some k->hp (.c n i 3)=some (.row 4 (ab k.body))
section
variable {p:qC} {i a b d l:Nat} {n q k1:Nm} {k:qX}
@[simp] theorem pRows_len:(vX n p).length=p.length:=by simp [vX]
@[simp] theorem F7:(vX n p)[i]?=(p[i]?).map (λk=>[iv k.kind,iv k.parent,.hs (.c n i 2) 1 0 k.params.length,.hs (.c n i 3) 4 0 k.body.length]):=by simp [vX]
@[simp] theorem pRows_getE {h:i<(vX n p).length}:(vX n p)[i]=[iv (p[i]' qP).kind,iv (p[i]' qP).parent,.hs (.c n i 2) 1 0 (p[i]' qP).params.length,.hs (.c n i 3) 4 0 (p[i]' qP).body.length]:=by simp [vX]
@[simp] theorem pRows_nil:vX n []=[]:=rfl
@[simp] theorem pRows_take:(vX n p).take p.length=vX n p:=yG qB
theorem LX:vX n (p++[k])=vX n p++[[iv k.kind,iv k.parent,.hs (.c n p.length 2) 1 0 k.params.length,.hs (.c n p.length 3) 4 0 k.body.length]]:=by simp [vX]
theorem iG {f:Nm->Option Nm} {m:Nm} (h:∀ i j,i<p.length->f (.c n i j)=some (.c m i j)):(vX n p).map (λr=>r.map (AV.tr f))=vX m p:=by
 apply y6;intro i;simp only [jZ,F7,Option.map_map]
 grind[AV.tr]
@[simp] theorem pRows_kl (h:Nm.under (.s d) n=false):(vX n p).map (λr=>r.map (AV.tr (kl (.s d))))=vX n p:=iG gj
@[simp] theorem pRows_mvc:(vX n p).map (λr=>r.map (AV.tr (uK n k1)))=vX k1 p:=by
 simp_all[iG,Nm.nN]
@[simp] theorem pRows_mv4 {j:Nat} (hq:(q=n)=False) (hq':Nm.under (.c q a b) n=false) (hl:p.length<=l):(vX n p).map (λr=>r.map (AV.tr (mv (.c q a b) (.c n l j))))=vX n p:=by
 have h1:¬ n=q:=λe=>qP
 have h2:Nm.under (.c n l j) n=false:=by
  cases h:Nm.under (.c n l j) n with
  | false=>rfl
  | true=>exact absurd rfl (Nm.Cq h).2
 grind[iG,Nm.under,mv]
end
theorem gc {hp:Nm->Option AO} {n:Nm} {len:Nat} {p:qC} (h:ew hp n p) (hl:len=p.length):Bw hp zn (.hs n 4 0 len) (jc p):=by
 subst hl;refine .hs n 4 0 p.length (vX n p) (lR p) rfl h.top qB qB xR λi r r' hr hr' j a a' ha ha'=>?_;rw [fF,F7] at hr;rw [Sg] at hr';obtain⟨x,hx,rfl⟩:=zu.1 hr;rw [hx] at hr';obtain rfl:=sI hr'
 match j,ha,ha' with
 | 0,ha,ha'=>obtain rfl:=sI ha;obtain rfl:=sI ha';exact .refl _
 | 1,ha,ha'=>obtain rfl:=sI ha;obtain rfl:=sI ha';exact .refl _
 | 2,ha,ha'=>obtain rfl:=sI ha;obtain rfl:=sI ha';exact dR (h.params i x hx) rfl
 | 3,ha,ha'=>obtain rfl:=sI ha;obtain rfl:=sI ha';exact BK (h.body i x hx) rfl
 | j+4,ha,_=>simp at ha
theorem ga {hp:Nm->Option AO} {x y:AV} (h:Bw hp zn x y):Bw hp zn (.agg [x]) (.agg [y]):=by
 constructor<;>grind
theorem ew.vh {H':Nm->Option AO} {n:Nm} {p:qC} (h:ew H' n p):ew (vh H') n p:=by
 refine⟨aE h.top ?_,λi k hk=>aE (h.params i k hk) qB,λi k hk=>aE (h.body i k hk) qB⟩;simp only [vX,y5];intro r hr;obtain⟨i,hi⟩:=wj hr;rw [List.getElem?_mapIdx] at hi;obtain⟨x,_,rfl⟩:=zu.1 hi;simp
end Go.Hm
end
