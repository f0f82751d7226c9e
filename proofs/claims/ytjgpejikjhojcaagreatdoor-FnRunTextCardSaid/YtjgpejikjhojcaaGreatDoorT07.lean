import Derived.Test.YtjgpejikjhojcaaGreatDoorT06
set_option linter.unusedSimpArgs false
set_option linter.unusedVariables false
set_option maxRecDepth 100000
set_option maxHeartbeats 4000000

section
namespace Go.Hm
open Go Go.RowKit
abbrev iv (n:Int):AV:=.sc (.int .i64 n)
abbrev bv (b:Bool):AV:=.sc (.bool b)
abbrev hL (n:Nm) (len:Nat):AV:=.hs n 1 0 len
theorem qi {n:Int} (h1:-9223372036854775808<=n) (h2:n<=9223372036854775807):IntKind.i64.wrap n=n:=by
 grind[IntKind.wrap_i64]
section
variable {st:St} {P:Program} {n m q k0 k1:Nm} {o:AO} {d t a b i j k i' j' k':Nat} {x:AV} {f:Nm->Option Nm}
@[simp] theorem under_ss:Nm.under (.s a) (.s b)=decide (b=a):=aH
@[simp] theorem under_sc:Nm.under (.s a) (.c q i j)=Nm.under (.s a) q:=aH
@[simp] theorem under_su:Nm.under (.s a) (.u k i j)=false:=aH
@[simp] theorem under_cs:Nm.under (.c q i j) (.s b)=false:=aH
@[simp] theorem under_cu:Nm.under (.c q i j) (.u k i' j')=false:=aH
@[simp] theorem under_cc:Nm.under (.c q i j) (.c m i' j')=(decide (m=q/\i'=i/\j'=j)||Nm.under (.c q i j) m):=aH
@[simp] theorem under_us:Nm.under (.u k i j) (.s b)=false:=aH
@[simp] theorem under_uc:Nm.under (.u k i j) (.c q i' j')=Nm.under (.u k i j) q:=aH
@[simp] theorem under_uu:Nm.under (.u k i j) (.u k' i' j')=decide (k'=k/\i'=i/\j'=j):=aH
@[simp] theorem under_refl:Nm.under n n=true:=Nm.uH n
@[simp] theorem under_c1:Nm.under n (.c n i j)=true:=aH
@[simp] theorem under_c2:Nm.under n (.c (.c n i j) i' j')=true:=aH
@[simp] theorem ren_sc:Nm.qz (.s a) k1 (.c q i j)=.c (Nm.qz (.s a) k1 q) i j:=by simp [Nm.qz]
@[simp] theorem ren_self:Nm.qz n k1 n=k1:=by cases n <;> simp [Nm.qz]
@[simp] theorem ren_c1:Nm.qz n k1 (.c n i j)=.c k1 i j:=by
 simp_all[Nm.mz,Nm.qz]
@[simp] theorem ren_c2:Nm.qz n k1 (.c (.c n i j) i' j')=.c (.c k1 i j) i' j':=by
 simp_all[Nm.mz,Nm.qz]
@[simp] theorem kl_eq:kl k0 m=if Nm.under k0 m then none else some m:=rfl
@[simp] theorem mv_eq:mv k0 k1 m=if Nm.under k0 m then some (Nm.qz k0 k1 m) else if Nm.under k1 m then none else some m:=rfl
@[simp] theorem put_tm:(st.put (some d) x).tm t=if t=d then x else st.tm t:=rfl
@[simp] theorem put_no:st.put none x=st:=rfl
@[simp] theorem put_hp':(st.put (some d) x).hp=st.hp:=rfl
@[simp] theorem put_gl':(st.put (some d) x).gl=st.gl:=rfl
@[simp] theorem setO_tm:(st.zS n o).tm=st.tm:=rfl
@[simp] theorem setO_gl:(st.zS n o).gl=st.gl:=rfl
@[simp] theorem GB:(st.zS n o).hp m=if m=n then some o else st.hp m:=rfl
@[simp] theorem kill_tm:(st.kill n).tm t=(st.tm t).tr (kl n):=rfl
@[simp] theorem kill_gl:(st.kill n).gl=st.gl:=rfl
@[simp] theorem kill_hp:(st.kill n).hp m=if Nm.under n m then none else (st.hp m).map (AO.tr (kl n)):=rfl
@[simp] theorem move_tm:(st.move n q).tm t=(st.tm t).tr (mv n q):=rfl
@[simp] theorem move_gl:(st.move n q).gl=st.gl:=rfl
@[simp] theorem Tc:(st.move n q).hp m=if Nm.under q m then (if mv n q (Nm.qz q n m)=some m then (st.hp (Nm.qz q n m)).map (AO.tr (mv n q)) else none) else if Nm.under n m then none else (st.hp m).map (AO.tr (mv n q)):=rfl
@[simp] theorem apd_tm {p:Option Nm}:(st.fG d p).tm t=(st.tm t).tr (kl (.s d)):=rfl
@[simp] theorem apd_gl {p:Option Nm}:(st.fG d p).gl=st.gl:=rfl
@[simp] theorem Cz {p:Option Nm}:(st.fG d p).hp m=if p=some m then none else (st.kill (.s d)).hp m:=rfl
@[simp] theorem apSt_eq {z len:Nat} {p:Option Nm} {rows:List (List AV)}:kf d z len p rows st=((st.fG d p).zS (.s d) (.row z (rows.map (λr=>r.map (AV.tr (kl (.s d))))))).put (some d) (.hs (.s d) z 0 len):=rfl
@[simp] theorem mkSt_eq {z l:Nat} {zv:List AV}:xb d z l zv st=((st.kill (.s d)).zS (.s d) (.row z (List.replicate l zv))).put (some d) (.hs (.s d) z 0 l):=rfl
@[simp] theorem bsSt_eq {E z:Nat} {rows:List (List AV)}:ij P E d z rows st=canon (iA (λi j=>.c (.s d) i j) 0 (dW P E d 0 (rows.map (λr=>r.map (AV.tr (kl (.s d)))))))
  (((St.kK (gu P E d 0 (rows.map (λr=>r.map (AV.tr (kl (.s d)))))) (st.kill (.s d))).zS (.s d) (.row z (dW P E d 0 (rows.map (λr=>r.map (AV.tr (kl (.s d)))))))).put (some d) (.hs (.s d) z 0 rows.length)):=rfl
@[simp] theorem boxSt_eq {T:TypeId} {cs:List AV}:bc P T d cs st=canon (kI (Nm.c (.s d) 0) 0 (yf (Nm.c (.s d) 0) (zY P T) 0 (cs.map (AV.tr (kl (.s d))))))
  (((St.kK (yt (Nm.c (.s d) 0) (zY P T) 0 (cs.map (AV.tr (kl (.s d))))) (st.kill (.s d))).zS (.s d) (.row (qd P T) [yf (Nm.c (.s d) 0) (zY P T) 0 (cs.map (AV.tr (kl (.s d))))])).put (some d) (.pt (.s d) 0)):=rfl
@[simp] theorem mpSt_eq:xd d st=((st.kill (.s d)).zS (.s d) (.map [])).put (some d) (.mp (.s d)):=rfl
@[simp] theorem asgSt_eq {T:TypeId}:oC P T d x st=if jK x then ((((st.kill (.s d)).zS (.s d) (.row (((yQ P T).map (qd P)).getD 0) []))).put (some d) (.hs (.s d) (((yQ P T).map (qd P)).getD 0) 0 0))
  else match uQ x with
   | some k=>if k=.s d then st.put (some d) x else (st.move k (.s d)).put (some d) (x.tr (mv k (.s d)))
   | none=>st.put (some d) x:=rfl
@[simp] theorem canon_nil:canon [] st=st:=rfl
@[simp] theorem canon_cons {p:Nm×Nm} {l:List (Nm×Nm)}:canon (p::l) st=canon l (st.move p.1 p.2):=rfl
@[simp] theorem setNils_nil:St.kK [] st=st:=rfl
@[simp] theorem YN {p:Nm×Nat} {l:List (Nm×Nat)}:St.kK (p::l) st=(St.kK l st).zS p.1 (.row p.2 []):=rfl
@[simp] theorem addNils_nil:St.dI [] st=st:=rfl
@[simp] theorem addNils_cons {p:Nm×Nat} {l:List (Nm×Nat)}:St.dI (p::l) st=St.dI l ((st.kill p.1).zS p.1 (.row p.2 [])):=rfl
@[simp] theorem stoK_eq {T:TypeId} {off:Nat} {v0:List AV}:kz P T n i off v0 st=St.dI (yt (λj=>.c n i (off+j)) (zY P T) 0 v0) st:=rfl
@[simp] theorem stoV_eq {T:TypeId} {off:Nat} {v1:List AV}:iL P T n i off v1=yf (λj=>.c n i (off+j)) (zY P T) 0 v1:=rfl
@[simp] theorem stoSt_eq {z off:Nat} {rows:List (List AV)} {vals:List AV}:lc n z i off rows vals st=canon (kI (λj=>.c n i (off+j)) 0 vals) (st.zS n (.row z (wP rows i off vals))):=rfl
@[simp] theorem ownRows_nil {T i:Nat}:dW P T d i []=[]:=rfl
@[simp] theorem ownRows_cons {T i:Nat} {r:List AV} {l:List (List AV)}:dW P T d i (r::l)=yf (λj=>.c (.s d) i j) (zY P T) 0 r::dW P T d (i+1) l:=rfl
@[simp] theorem nilKeysLL_nil {T i:Nat}:gu P T d i []=[]:=rfl
@[simp] theorem nilKeysLL_cons {T i:Nat} {r:List AV} {l:List (List AV)}:gu P T d i (r::l)=yt (λj=>.c (.s d) i j) (zY P T) 0 r++gu P T d (i+1) l:=rfl
@[simp] theorem prsLL_nil {key:Nat->Nat->Nm}:iA key i []=[]:=rfl
@[simp] theorem prsLL_cons {key:Nat->Nat->Nm} {r:List AV} {l:List (List AV)}:iA key i (r::l)=kI (key i) 0 r++iA key (i+1) l:=rfl
@[simp] theorem zcs_nil {key:Nat->Nm} {es:List Nat}:yf key es j []=[]:=rfl
@[simp] theorem qBO {key:Nat->Nm} {es:List Nat} {l:List AV}:yf key es j (x::l)=(if jK x then .hs (key j) (es.getD j 0) 0 0 else x)::yf key es (j+1) l:=rfl
@[simp] theorem nk_nil {key:Nat->Nm} {es:List Nat}:yt key es j []=[]:=rfl
@[simp] theorem Tp {key:Nat->Nm} {es:List Nat} {l:List AV}:yt key es j (x::l)=if jK x then (key j,es.getD j 0)::yt key es (j+1) l else yt key es (j+1) l:=rfl
@[simp] theorem prs_nil {key:Nat->Nm}:kI key j []=[]:=rfl
@[simp] theorem VJ {key:Nat->Nm} {l:List AV}:kI key j (x::l)=match uQ x with|some k=>(k,key j)::kI key (j+1) l|none=>kI key (j+1) l:=rfl
@[simp] theorem rowsSet_one {r:List AV} {off:Nat} {vals:List AV}:wP [r] 0 off vals=[r.take off++vals++r.drop (off+vals.length)]:=rfl
@[simp] theorem rowsOf_nil:iG st []=some []:=rfl
@[simp] theorem rowsOf_cons {p:Nat×Operand} {l:List (Nat×Operand)}:iG st (p::l)=((ev st p.2).cells).bind λr=>(iG st l).map (r::·):=rfl
@[simp] theorem resL_nil:wj P st []=some []:=rfl
@[simp] theorem resL_tmp {l:List ResultVar}:wj P st (.tmp t::l)=(wj P st l).map (st.tm t::·):=rfl
@[simp] theorem resL_cell {T:TypeId} {l:List ResultVar}:wj P st (.cell t T::l)=((bJ st (st.tm t)).bind (λp=>cY P T p.1 p.2)).bind λx=>(wj P st l).map (x::·):=rfl
@[simp] theorem res1_one:fo [x]=x:=rfl
@[simp] theorem res1_nil:fo []=.zT []:=rfl
@[simp] theorem res1_two {y:AV} {l:List AV}:fo (x::y::l)=.zT (x::y::l):=rfl
@[simp] theorem noD_eq:zf m=false:=rfl
@[simp] theorem noH_eq:jv m=none:=rfl
@[simp] theorem finf_nil {D:Nm->Bool}:zE D [] m=if D m then some m else none:=rfl
@[simp] theorem finf_cons {D:Nm->Bool} {p:Nm×Nm} {l:List (Nm×Nm)}:zE D (p::l) m=if Nm.under p.1 m then some (Nm.qz p.1 p.2 m) else zE D l m:=rfl
@[simp] theorem fing_nil:o8 [] m=none:=rfl
@[simp] theorem fing_cons {p:Nm×Nm} {l:List (Nm×Nm)}:o8 (p::l) m=if Nm.under p.2 m then some (Nm.qz p.2 p.1 m) else o8 l m:=rfl
@[simp] theorem finH_eq {D:Nm->Bool} {sbs:List (Nm×Nm)} {hp:Nm->Option AO}:vd D sbs hp m=if D m then (hp m).map (AO.tr (zE D sbs)) else match o8 sbs m with
  | some q=>if zE D sbs q=some m then (hp q).map (AO.tr (zE D sbs)) else none
  | none=>none:=rfl
@[simp] theorem st0_tm {az:List AV} {H:Nm->Option AO} {gl:Nat->Option (List AV)}:(ky az H k gl).tm t=az.getD t (.sc undef):=rfl
@[simp] theorem st0_hp {az:List AV} {H:Nm->Option AO} {gl:Nat->Option (List AV)}:(ky az H k gl).hp=H:=rfl
@[simp] theorem st0_gl {az:List AV} {H:Nm->Option AO} {gl:Nat->Option (List AV)}:(ky az H k gl).gl=gl:=rfl
@[simp] theorem ctx0_P {C:Nat->Prop} {w:World} {g:Gh} {H:Nm->Option AO} {gl:Nat->Option (List AV)}:(jb P C w g H k gl).P=P:=rfl
@[simp] theorem ctx0_n {C:Nat->Prop} {w:World} {g:Gh} {H:Nm->Option AO} {gl:Nat->Option (List AV)}:(jb P C w g H k gl).n=k:=rfl
@[simp] theorem ctx0_gl {C:Nat->Prop} {w:World} {g:Gh} {H:Nm->Option AO} {gl:Nat->Option (List AV)}:(jb P C w g H k gl).gl=gl:=rfl
@[simp] theorem tr_sc {v:Value}:(AV.sc v).tr f=.sc v:=rfl
@[simp] theorem tr_sl {z:Nat} {rows:List (List AV)}:(AV.sl z rows).tr f=.sl z (rows.map (λr=>r.map (AV.tr f))):=by simp [AV.tr,C5]
@[simp] theorem tr_el {row:List AV} {off:Nat}:(AV.el row off).tr f=.el (row.map (AV.tr f)) off:=Aj
@[simp] theorem tr_hs {z lo len:Nat}:(AV.hs n z lo len).tr f=match f n with|some n'=>.hs n' z lo len|none=>.bot:=rfl
@[simp] theorem tr_pt {off:Nat}:(AV.pt n off).tr f=match f n with|some n'=>.pt n' off|none=>.bot:=rfl
@[simp] theorem tr_ep {z i off:Nat}:(AV.ep n z i off).tr f=match f n with|some n'=>.ep n' z i off|none=>.bot:=rfl
@[simp] theorem tr_mp:(AV.mp n).tr f=match f n with|some n'=>.mp n'|none=>.bot:=rfl
@[simp] theorem tr_agg {cs:List AV}:(AV.agg cs).tr f=.agg (cs.map (AV.tr f)):=Aj
@[simp] theorem tr_tup {cs:List AV}:(AV.zT cs).tr f=.zT (cs.map (AV.tr f)):=Aj
@[simp] theorem tr_ifc {T:TypeId}:(AV.zp T x).tr f=.zp T (x.tr f):=rfl
@[simp] theorem tr_fn {F:Fn} {xs ys:List AV}:(AV.fn F xs ys).tr f=.fn F (xs.map (AV.tr f)) (ys.map (AV.tr f)):=Aj
@[simp] theorem tr_bot:(AV.bot).tr f=.bot:=rfl
@[simp] theorem aotr_row {z:Nat} {rows:List (List AV)}:AO.tr f (.row z rows)=.row z (rows.map (λr=>r.map (AV.tr f))):=rfl
@[simp] theorem aotr_trow {T:TypeId} {z:Nat} {ex:Bool} {rows:List (List AV)}:AO.tr f (.vv T z ex rows)=.vv T z ex (rows.map (λr=>r.map (AV.tr f))):=rfl
@[simp] theorem aotr_map {es:List (AV×AV)}:AO.tr f (.map es)=.map (es.map (λe=>(e.1.tr f,e.2.tr f))):=rfl
@[simp] theorem nils_int {k:IntKind} {n:Int}:jK (.sc (.int k n))=false:=rfl
@[simp] theorem nils_bool {b:Bool}:jK (.sc (.bool b))=false:=rfl
@[simp] theorem nils_str {b:ByteArray}:jK (.sc (.string b))=false:=rfl
@[simp] theorem nils_ptr {p:Option Addr}:jK (.sc (.pointer p))=false:=rfl
@[simp] theorem nils_ifn:jK (.sc .nilIface)=false:=rfl
@[simp] theorem nils_tup {l:Array Value}:jK (.sc (.tuple l))=false:=rfl
@[simp] theorem nils_nil:jK (.sc (.slice none 0 0))=true:=rfl
@[simp] theorem nils_sl {z:Nat} {rows:List (List AV)}:jK (.sl z rows)=false:=rfl
@[simp] theorem nils_hs {z lo len:Nat}:jK (.hs n z lo len)=false:=rfl
@[simp] theorem nils_el {row:List AV} {off:Nat}:jK (.el row off)=false:=rfl
@[simp] theorem nils_pt {off:Nat}:jK (.pt n off)=false:=rfl
@[simp] theorem nils_ep {z i off:Nat}:jK (.ep n z i off)=false:=rfl
@[simp] theorem nils_mp:jK (.mp n)=false:=rfl
@[simp] theorem nils_agg {cs:List AV}:jK (.agg cs)=false:=rfl
@[simp] theorem nils_tup' {cs:List AV}:jK (.zT cs)=false:=rfl
@[simp] theorem nils_ifc {T:TypeId}:jK (.zp T x)=false:=rfl
@[simp] theorem nils_fn {F:Fn} {xs ys:List AV}:jK (.fn F xs ys)=false:=rfl
@[simp] theorem nils_bot:jK .bot=false:=rfl
@[simp] theorem snm_sc {v:Value}:uQ (.sc v)=none:=rfl
@[simp] theorem snm_sl {z:Nat} {rows:List (List AV)}:uQ (.sl z rows)=none:=rfl
@[simp] theorem snm_hs {z lo len:Nat}:uQ (.hs (.s t) z lo len)=some (.s t):=rfl
@[simp] theorem snm_hc {z lo len:Nat}:uQ (.hs (.c q i j) z lo len)=none:=rfl
@[simp] theorem snm_hu {z lo len:Nat}:uQ (.hs (.u k i j) z lo len)=none:=rfl
@[simp] theorem snm_pt {off:Nat}:uQ (.pt (.s t) off)=some (.s t):=rfl
@[simp] theorem snm_pc {off:Nat}:uQ (.pt (.c q i j) off)=none:=rfl
@[simp] theorem snm_pu {off:Nat}:uQ (.pt (.u k i j) off)=none:=rfl
@[simp] theorem snm_mp:uQ (.mp (.s t))=some (.s t):=rfl
@[simp] theorem snm_mc:uQ (.mp (.c q i j))=none:=rfl
@[simp] theorem snm_mu:uQ (.mp (.u k i j))=none:=rfl
@[simp] theorem snm_el {row:List AV} {off:Nat}:uQ (.el row off)=none:=rfl
@[simp] theorem snm_ep {z i off:Nat}:uQ (.ep n z i off)=none:=rfl
@[simp] theorem snm_agg {cs:List AV}:uQ (.agg cs)=none:=rfl
@[simp] theorem snm_tup {cs:List AV}:uQ (.zT cs)=none:=rfl
@[simp] theorem snm_ifc {T:TypeId}:uQ (.zp T x)=none:=rfl
@[simp] theorem snm_fn {F:Fn} {xs ys:List AV}:uQ (.fn F xs ys)=none:=rfl
@[simp] theorem snm_bot:uQ .bot=none:=rfl
@[simp] theorem one_int {k:IntKind} {n:Int}:(AV.sc (.int k n)).one=true:=rfl
@[simp] theorem one_bool {b:Bool}:(AV.sc (.bool b)).one=true:=rfl
@[simp] theorem one_str {b:ByteArray}:(AV.sc (.string b)).one=true:=rfl
@[simp] theorem one_ptr {p:Option Addr}:(AV.sc (.pointer p)).one=true:=rfl
@[simp] theorem one_ifn:(AV.sc .nilIface).one=true:=rfl
@[simp] theorem one_nil {p:Option Addr} {n c:Nat}:(AV.sc (.slice p n c)).one=true:=rfl
@[simp] theorem one_sl {z:Nat} {rows:List (List AV)}:(AV.sl z rows).one=true:=rfl
@[simp] theorem one_hs {z lo len:Nat}:(AV.hs n z lo len).one=true:=rfl
@[simp] theorem one_el {row:List AV} {off:Nat}:(AV.el row off).one=true:=rfl
@[simp] theorem one_pt {off:Nat}:(AV.pt n off).one=true:=rfl
@[simp] theorem one_ep {z i off:Nat}:(AV.ep n z i off).one=true:=rfl
@[simp] theorem one_mp:(AV.mp n).one=true:=rfl
@[simp] theorem one_ifc {T:TypeId}:(AV.zp T x).one=true:=rfl
@[simp] theorem cells_agg {cs:List AV}:(AV.agg cs).cells=if cs.all AV.one then some cs else none:=rfl
@[simp] theorem cells_sc {v:Value}:(AV.sc v).cells=if (AV.sc v).one then some [.sc v] else none:=rfl
@[simp] theorem cells_sl {z:Nat} {rows:List (List AV)}:(AV.sl z rows).cells=some [.sl z rows]:=rfl
@[simp] theorem cells_hs {z lo len:Nat}:(AV.hs n z lo len).cells=some [.hs n z lo len]:=rfl
@[simp] theorem cells_el {row:List AV} {off:Nat}:(AV.el row off).cells=some [.el row off]:=rfl
@[simp] theorem cells_pt {off:Nat}:(AV.pt n off).cells=some [.pt n off]:=rfl
@[simp] theorem cells_ep {z i off:Nat}:(AV.ep n z i off).cells=some [.ep n z i off]:=rfl
@[simp] theorem cells_mp:(AV.mp n).cells=some [.mp n]:=rfl
@[simp] theorem cells_ifc {T:TypeId}:(AV.zp T x).cells=some [.zp T x]:=rfl
@[simp] theorem cln_sc {v:Value}:(AV.sc v).jE=true:=rfl
@[simp] theorem cln_hs {z lo len:Nat}:(AV.hs n z lo len).jE=true:=rfl
@[simp] theorem cln_pt {off:Nat}:(AV.pt n off).jE=true:=rfl
@[simp] theorem cln_agg {cs:List AV}:(AV.agg cs).jE=cs.all AV.jE:=by simp [AV.jE,xI]
@[simp] theorem cln_tup {cs:List AV}:(AV.zT cs).jE=cs.all AV.jE:=by simp [AV.jE,xI]
@[simp] theorem cln_ifc {T:TypeId}:(AV.zp T x).jE=x.jE:=rfl
section
variable {ty:TypeId} {pos:String} {aft:Array Edge} {g:Option (Nat×Bool)} {T U A:TypeId} {y c i:Operand} {dst:Option Nat}
variable {x:Operand}
@[simp] theorem ev_tmp:ev st (.tmp t)=st.tm t:=rfl
@[simp] theorem ev_const {v:Value}:ev st (.const v)=.sc v:=rfl
@[simp] theorem ev_func {F:FuncId}:ev st (.func F)=.sc (.func (.func F) #[] #[]):=rfl
@[simp] theorem ev_global {G:Nat}:ev st (.global G)=match st.gl G with|some row=>.el row 0|none=>.bot:=rfl
@[simp] theorem qev_move:y5 P st ⟨dst,.move x,ty,pos,aft,g⟩=some (ev st x):=rfl
@[simp] theorem qev_pick:y5 P st ⟨dst,.pick c x y,ty,pos,aft,g⟩=lW (ev st c) (ev st x) (ev st y):=rfl
@[simp] theorem qev_load:y5 P st ⟨dst,.load T x,ty,pos,aft,g⟩=(bJ st (ev st x)).bind (λp=>cY P T p.1 p.2):=rfl
@[simp] theorem qev_nilCheck:y5 P st ⟨dst,.nilCheck x,ty,pos,aft,g⟩=ox (ev st x):=rfl
@[simp] theorem qev_binOp {op:BinOp}:y5 P st ⟨dst,.binOp op T x y U,ty,pos,aft,g⟩=bb P T op (match y with|.const _=>true|_=>false) (ev st x) (ev st y):=rfl
@[simp] theorem qev_unOp {op:UnOp}:y5 P st ⟨dst,.unOp op T x,ty,pos,aft,g⟩=sx op (ev st x):=rfl
@[simp] theorem qev_convert {S:TypeId}:y5 P st ⟨dst,.convert S T x,ty,pos,aft,g⟩=xJ P S T (ev st x):=rfl
@[simp] theorem qev_mki:y5 P st ⟨dst,.makeInterface T x,ty,pos,aft,g⟩=xc P T (ev st x):=rfl
@[simp] theorem qev_slice {lo hi:Option Operand}:y5 P st ⟨dst,.slice T x lo hi none,ty,pos,aft,g⟩=(lQ (lo.map (ev st))).bind λl=>(lQ (hi.map (ev st))).bind λh=>uo P T st.hp (ev st x) (l.map (·.2)) (h.map (·.2)):=rfl
@[simp] theorem qev_fieldAddr {F:Nat}:y5 P st ⟨dst,.fieldAddr T x F,ty,pos,aft,g⟩=oZ P T F (ev st x):=rfl
@[simp] theorem qev_field {F:Nat}:y5 P st ⟨dst,.field T x F,ty,pos,aft,g⟩=ru P T F (ev st x):=rfl
@[simp] theorem qev_indexAddr:y5 P st ⟨dst,.indexAddr T x i,ty,pos,aft,g⟩=match ev st i with|.sc (.int _ n)=>xR P T (ev st x) n|_=>none:=rfl
@[simp] theorem qev_index:y5 P st ⟨dst,.index T x i,ty,pos,aft,g⟩=match ev st i with|.sc (.int _ n)=>ry P T (ev st x) n|_=>none:=rfl
@[simp] theorem qev_extract {F:Nat}:y5 P st ⟨dst,.extract x F,ty,pos,aft,g⟩=xN F (ev st x):=rfl
@[simp] theorem qev_build {parts:Array (Nat×Operand)}:y5 P st ⟨dst,.build T parts,ty,pos,aft,g⟩=pg P T (parts.toList.map (λp=>(p.1,ev st p.2))):=rfl
@[simp] theorem qev_tas:y5 P st ⟨dst,.typeAssert x T A true,ty,pos,aft,g⟩=nK P A (ev st x):=rfl
@[simp] theorem qev_tas1:y5 P st ⟨dst,.typeAssert x T A false,ty,pos,aft,g⟩=CZ P A (ev st x):=rfl
@[simp] theorem qev_makeFunc {F:Fn} {xs ys:Array Operand}:y5 P st ⟨dst,.makeFunc F xs ys,ty,pos,aft,g⟩=some (.fn F (xs.toList.map (ev st)) (ys.toList.map (ev st))):=rfl
@[simp] theorem qev_lookup {ok:Bool}:y5 P st ⟨dst,.lookup T x i ok,ty,pos,aft,g⟩=sL P T st.hp (ev st x) (ev st i) ok:=rfl
@[simp] theorem qev_len:y5 P st ⟨dst,.call ⟨.builtin .len,#[x],#[T]⟩,ty,pos,aft,g⟩=lL P T st.hp (ev st x):=rfl
end
section
variable {T U A:TypeId} {cy:Bool} {op:BinOp} {xi yi:Int} {kd:IntKind}
@[simp] theorem bin_int:bb P T op cy (.sc (.int kd xi)) (.sc (.int kd yi))=bO kd op xi yi:=by simp [bb]
@[simp] theorem bin_str {s u:ByteArray}:bb P T op cy (.sc (.string s)) (.sc (.string u))=pL op s u:=rfl
@[simp] theorem bin_bool {s u:Bool}:bb P T op cy (.sc (.bool s)) (.sc (.bool u))=if C2 P T then kw op (s==u) else none:=rfl
@[simp] theorem bin_agg {xs ys:List AV}:bb P T op cy (.agg xs) (.agg ys)=match AR P T with
  | some n=>if xs.length=n then (eI xs ys).bind (kw op) else none
  | none=>none:=rfl
@[simp] theorem bin_pt {off:Nat}:bb P T op cy (.pt n off) (.sc (.pointer none))=if eL P T then kw op false else none:=rfl
@[simp] theorem bin_el {row:List AV} {off:Nat}:bb P T op cy (.el row off) (.sc (.pointer none))=if eL P T then kw op false else none:=rfl
@[simp] theorem bin_ep {z i off:Nat}:bb P T op cy (.ep n z i off) (.sc (.pointer none))=if eL P T then kw op false else none:=rfl
@[simp] theorem bin_nn:bb P T op cy (.sc (.pointer none)) (.sc (.pointer none))=if eL P T then kw op true else none:=rfl
@[simp] theorem bin_ifc {t:TypeId}:bb P T op cy (.zp t x) (.sc .nilIface)=if mj P T then kw op false else none:=rfl
@[simp] theorem bin_ifn:bb P T op cy (.sc .nilIface) (.sc .nilIface)=if mj P T&&cy then kw op true else none:=rfl
@[simp] theorem ptr_eql {r:Bool}:kw .eql r=some (.sc (.bool r)):=rfl
@[simp] theorem ptr_neq {r:Bool}:kw .neq r=some (.sc (.bool (!r))):=rfl
@[simp] theorem eqL_nil:eI [] []=some true:=rfl
@[simp] theorem eqL_cons' {xs ys:List AV}:eI (.sc (.int .i64 xi)::xs) (.sc (.int .i64 yi)::ys)=(eI xs ys).map (λr=>(xi==yi)&&r):=rfl
@[simp] theorem int_add:bO kd .add xi yi=some (.sc (.int kd (kd.wrap (xi+yi)))):=rfl
@[simp] theorem int_sub:bO kd .sub xi yi=some (.sc (.int kd (kd.wrap (xi - yi)))):=rfl
@[simp] theorem int_mul:bO kd .mul xi yi=some (.sc (.int kd (kd.wrap (xi * yi)))):=rfl
@[simp] theorem int_quo:bO kd .quo xi yi=if yi=0 then none else some (.sc (.int kd (kd.wrap (xi.tdiv yi)))):=rfl
@[simp] theorem int_rem:bO kd .rem xi yi=if yi=0 then none else some (.sc (.int kd (xi.tmod yi))):=rfl
@[simp] theorem int_eql:bO kd .eql xi yi=some (.sc (.bool (xi==yi))):=rfl
@[simp] theorem int_neq:bO kd .neq xi yi=some (.sc (.bool (xi != yi))):=rfl
@[simp] theorem int_lss:bO kd .lss xi yi=some (.sc (.bool (decide (xi<yi)))):=rfl
@[simp] theorem int_leq:bO kd .leq xi yi=some (.sc (.bool (decide (xi<=yi)))):=rfl
@[simp] theorem int_gtr:bO kd .gtr xi yi=some (.sc (.bool (decide (xi > yi)))):=rfl
@[simp] theorem int_geq:bO kd .geq xi yi=some (.sc (.bool (decide (xi≥yi)))):=rfl
@[simp] theorem str_add {s u:ByteArray}:pL .add s u=if s.size+u.size<=9223372036854775807 then some (.sc (.string (s++u))) else none:=rfl
@[simp] theorem str_eql {s u:ByteArray}:pL .eql s u=some (.sc (.bool (s.toList==u.toList))):=rfl
@[simp] theorem str_neq {s u:ByteArray}:pL .neq s u=some (.sc (.bool (!(s.toList==u.toList)))):=rfl
@[simp] theorem un_not {b:Bool}:sx .not (.sc (.bool b))=some (.sc (.bool (!b))):=rfl
@[simp] theorem un_neg:sx .neg (.sc (.int kd xi))=some (.sc (.int kd (kd.wrap (-xi)))):=rfl
@[simp] theorem pick_bb {t p q:Bool}:lW (.sc (.bool t)) (.sc (.bool p)) (.sc (.bool q))=some (.sc (.bool (bif t then p else q))):=rfl
@[simp] theorem pick_ii {t:Bool} {k':IntKind}:lW (.sc (.bool t)) (.sc (.int kd xi)) (.sc (.int k' yi))=some (bif t then .sc (.int kd xi) else .sc (.int k' yi)):=rfl
@[simp] theorem pick_u1 {t:Bool} {y:AV}:lW (.sc (.bool t)) (.sc undef) y=some (bif t then .sc undef else y):=rfl
@[simp] theorem pick_u2 {t:Bool} {p:Bool}:lW (.sc (.bool t)) (.sc (.bool p)) (.sc undef)=some (bif t then .sc (.bool p) else .sc undef):=rfl
@[simp] theorem pick_u3 {t:Bool} {k':IntKind}:lW (.sc (.bool t)) (.sc (.int k' xi)) (.sc undef)=some (bif t then .sc (.int k' xi) else .sc undef):=rfl
@[simp] theorem len_sl {hp:Nm->Option AO} {z:Nat} {rows:List (List AV)}:lL P T hp (.sl z rows)=if kL P T then some (.sc (.int .i64 rows.length)) else none:=rfl
@[simp] theorem len_hs {hp:Nm->Option AO} {z lo len:Nat}:lL P T hp (.hs n z lo len)=if kL P T then some (.sc (.int .i64 len)) else none:=rfl
@[simp] theorem len_nil {hp:Nm->Option AO}:lL P T hp (.sc (.slice none 0 0))=if kL P T then some (.sc (.int .i64 0)) else none:=rfl
@[simp] theorem len_str {hp:Nm->Option AO} {s:ByteArray}:lL P T hp (.sc (.string s))=if ld P T then some (.sc (.int .i64 s.size)) else none:=rfl
@[simp] theorem len_mp {hp:Nm->Option AO}:lL P T hp (.mp n)=if GW P T then (match hp n with|some (.map es)=>some (.sc (.int .i64 es.length))|_=>none) else none:=rfl
@[simp] theorem ext_tup {i:Nat} {l:List AV}:xN i (.zT l)=l[i]?:=rfl
@[simp] theorem field_pt {F off:Nat}:oZ P T F (.pt n off)=(qq P T F).map (λp=>.pt n (off+p.1)):=rfl
@[simp] theorem field_el {F off:Nat} {row:List AV}:oZ P T F (.el row off)=(qq P T F).map (λp=>.el row (off+p.1)):=rfl
@[simp] theorem field_ep {F z i off:Nat}:oZ P T F (.ep n z i off)=(qq P T F).map (λp=>.ep n z i (off+p.1)):=rfl
@[simp] theorem fld_agg {F:Nat} {cs:List AV}:ru P T F (.agg cs)=match qq P T F with|some (o,e)=>cY P e cs o|none=>none:=rfl
@[simp] theorem getC_eq {cs:List AV} {off:Nat}:cY P T cs off=match jD P T with
  | some true=>if off+qd P T<=cs.length then some (.agg ((cs.drop off).take (qd P T))) else none
  | some false=>cs[off]?
  | none=>none:=rfl
@[simp] theorem index_eq:xR P T x xi=match yQ P T with
  | some e=>match x with
   | .sl z rows=>if z=qd P e/\0<=xi then (rows[xi.toNat]?).map (λr=>.el r 0) else none
   | .hs m z lo len=>if z=qd P e/\0<=xi/\xi<len then some (.ep m z (lo+xi.toNat) 0) else none
   | _=>none
  | none=>match dA P T with
   | some (len,e)=>if 0<=xi/\xi<len then (match x with
    | .pt m off=>some (.pt m (off+xi.toNat * qd P e))
    | .el row off=>some (.el row (off+xi.toNat * qd P e))
    | .ep m z i off=>some (.ep m z i (off+xi.toNat * qd P e))
    | _=>none) else none
   | none=>none:=rfl
@[simp] theorem idx_agg {cs:List AV}:ry P T (.agg cs) xi=match dA P T with
  | some (len,e)=>if 0<=xi/\xi<len then cY P e cs (xi.toNat * qd P e) else none
  | none=>none:=rfl
@[simp] theorem idx_str {s:ByteArray}:ry P T (.sc (.string s)) xi=if ld P T/\0<=xi then (s.data.toList[xi.toNat]?).map (λb=>.sc (.int .u8 b.toNat)) else none:=rfl
@[simp] theorem cells_at_pt {off:Nat}:bJ st (.pt n off)=match st.hp n with
  | some (.row _ (r::_))=>some (r,off)
  | _=>none:=rfl
@[simp] theorem cells_at_el {row:List AV} {off:Nat}:bJ st (.el row off)=some (row,off):=rfl
@[simp] theorem cells_at_ep {z i off:Nat}:bJ st (.ep n z i off)=match st.hp n with
  | some (.row z' rows)=>if z'=z then (rows[i]?).map (λr=>(r,off)) else none
  | _=>none:=rfl
@[simp] theorem mki_eq:xc P T x=if wJ P T=some false then some (.zp T x) else none:=rfl
@[simp] theorem tas_ifc {t:TypeId}:nK P A (.zp t x)=if wJ P A=some false then (if t=A then some (.zT [x,.sc (.bool true)]) else (wx P A).map (λz=>.zT [z,.sc (.bool false)])) else none:=rfl
@[simp] theorem tas_nil:nK P A (.sc .nilIface)=if wJ P A=some false then (wx P A).map (λz=>.zT [z,.sc (.bool false)]) else none:=rfl
@[simp] theorem cnv_int:xJ P T A (.sc (.int kd xi))=match C3 P A,P.underlying T with|some k,some (.int _)=>some (.sc (.int k (k.wrap xi)))|_,_=>none:=rfl
@[simp] theorem bld_eq {parts:List (Nat×AV)}:pg P T parts=if yw P T then
  match yI P T with
  | some z=>(lC P T (z.map .sc) parts).map .agg
  | none=>none
 else none:=rfl
@[simp] theorem fill_nil {cs:List AV}:lC P T cs []=some cs:=rfl
@[simp] theorem fill_cons {cs:List AV} {i:Nat} {rest:List (Nat×AV)}:lC P T cs ((i,x)::rest)=match qq P T i,x.cells with
  | some (o,e),some ds=>if ds.length=qd P e/\o+ds.length<=cs.length then lC P T (cs.take o++ds++cs.drop (o+ds.length)) rest else none
  | _,_=>none:=rfl
@[simp] theorem nil_pt {off:Nat}:ox (.pt n off)=some (.pt n off):=rfl
@[simp] theorem nil_el {row:List AV} {off:Nat}:ox (.el row off)=some (.el row off):=rfl
@[simp] theorem nil_ep {z i off:Nat}:ox (.ep n z i off)=some (.ep n z i off):=rfl
@[simp] theorem nil_fn {F:FuncId} {xs ys:List AV}:ox (.fn (.func F) xs ys)=some (.fn (.func F) xs ys):=rfl
@[simp] theorem pl_pt {off:Nat}:pl (.pt n off)=some (n,0,off):=rfl
@[simp] theorem pl_ep {z i off:Nat}:pl (.ep n z i off)=some (n,i,off):=rfl
@[simp] theorem ra_pt {off:Nat}:iE st (.pt n off)=match st.hp n with|some (.row z rows)=>some (z,rows)|_=>none:=rfl
@[simp] theorem ra_ep {z i off:Nat}:iE st (.ep n z i off)=match st.hp n with|some (.row z' rows)=>if z'=z then some (z,rows) else none|_=>none:=rfl
@[simp] theorem src_sl {z z':Nat} {rows:List (List AV)}:am st z (.sl z' rows)=if z'=z then some rows else none:=rfl
@[simp] theorem src_nil {z:Nat}:am st z (.sc (.slice none 0 0))=some []:=rfl
@[simp] theorem src_hs {z z' lo len:Nat}:am st z (.hs n z' lo len)=match st.hp n with
  | some (.row z'' rows)=>if z'=z/\z''=z/\lo+len<=rows.length then some ((rows.drop lo).take len) else none
  | _=>none:=rfl
@[simp] theorem optInt_none:lQ none=some none:=rfl
@[simp] theorem optInt_some:lQ (some (.sc (.int kd xi)))=some (some (kd,xi)):=rfl
end
end
theorem qM.Bt {P:Program} {gl:Nat->Option (List AV)} {f:FuncId} {az:List AV} {R:Nm->AV->(Nm->Option AO)->Prop} {fn:Func} {c:Code} {rs:List ResultVar} {n:Nat}
  (hf:P.funcs[f]?=some fn) (hb:fn.body=some c) (hname:(fn.name == "runtime.NumGoroutine")=false) (hrs:fn.results.toList=rs) (hn:fn.ntmps=n) (hle:az.length<=n)
  (h:∀ C w g root,zu (jb P C w g jv n gl) c (oa P zf root rs R qy) (ky az jv n gl)):qM P gl f az R :=
 qV.Bt hf hb hname hrs hn hle (λ_ h=>wH) (λC w g root _=>h C w g root)
theorem qM.qa {P:Program} {gl:Nat->Option (List AV)} {f:FuncId} {as:List AV} {R:Nm->AV->(Nm->Option AO)->Prop} {fn:Func} {c:Code} {n:Nat} (hf:P.funcs[f]?=some fn) (rs:List ResultVar) (hn:fn.ntmps=n) (h:∀ C w g root,zu (jb P C w g jv n gl) c (oa P zf root rs R qy) (ky as jv n gl)) (hb:fn.body=some c:=by exact rfl) (hname:(fn.1 ==  "runtime.NumGoroutine")=false:=by kernel_rfl) (hrs:fn.results.toList=rs:=by exact rfl) (hle:as.length<=n:=by exact lB rfl):qM P gl f as R:=qM.Bt hf hb hname hrs hn hle h
def qm (xs:List Int):List (List AV):=xs.map (λn=>[iv n])
@[simp] theorem irows_len {xs:List Int}:(qm xs).length=xs.length:=yO
@[simp] theorem irows_get {xs:List Int} {i:Nat}:(qm xs)[i]?=(xs[i]?).map (λn=>[iv n]):=yO
@[simp] theorem irows_getE {xs:List Int} {i:Nat} {h:i<(qm xs).length}:(qm xs)[i]=[iv (xs[i]' qL)]:=yO
@[simp] theorem irows_tr {xs:List Int} {f:Nm->Option Nm}:(qm xs).map (λr=>r.map (AV.tr f))=qm xs:=yO
@[simp] theorem irows_take {xs:List Int} {i:Nat}:(qm xs).take i=qm (xs.take i):=yO
@[simp] theorem Ru {xs ys:List Int}:qm xs++qm ys=qm (xs++ys):=yO
@[simp] theorem irows_app1 {xs:List Int} {n:Int}:qm xs++[[.sc (.int .i64 n)]]=qm (xs++[n]):=yO
@[simp] theorem irows_nil:qm []=[]:=rfl
@[simp] theorem irows_cln {xs:List Int}:(qm xs).all (λr=>r.all AV.jE)=true:=yO
@[simp] theorem irows_set {xs:List Int} {i:Nat} {n:Int}:wP (qm xs) i 0 [.sc (.int .i64 n)]=qm (xs.set i n):=by
 simp only [wP,qm];apply vl
 grind
theorem Rv {xs:List Int}:∀ r∈qm xs,r.length=1:=yO
abbrev vJ (xs:List Int):AV:=.sl 1 (qm xs)
theorem gU {hp:Nm->Option AO} {n:Nm} {z len:Nat} {rows:List (List AV)} (hn:hp n=some (.row z rows)) (hl:len=rows.length) (hz:∀ r∈rows,r.length=z):Bw hp zf (.hs n z 0 len) (.sl z rows):=by
 refine .hs n z 0 len rows rows rfl hn qA hl.symm hz λi r r' hr hr' j a a' ha ha'=>?_;rw [ia] at hr;rw [hr] at hr';obtain rfl:=sI hr';rw [ha] at ha';obtain rfl:=sI ha';exact .refl _
theorem dl {hp:Nm->Option AO} {n:Nm} {len:Nat} {xs:List Int} (hn:hp n=some (.row 1 (qm xs))) (hl:len=xs.length):Bw hp zf (.hs n 1 0 len) (vJ xs):=gU hn oS Rv
structure qP where
 kind:Int
 to:Int
 a:Int
 b:Int
 deriving DecidableEq,Inhabited
abbrev qP.cells (s:qP):List AV:=[iv s.kind,iv s.to,iv s.a,iv s.b]
abbrev qP.av (s:qP):AV:=.agg s.cells
def yL (ss:List qP):List (List AV):=ss.map qP.cells
section
variable {ss tt:List qP} {s:qP} {i:Nat} {f:Nm->Option Nm}
@[simp] theorem srows_len:(yL ss).length=ss.length:=fP
@[simp] theorem srows_get:(yL ss)[i]?=(ss[i]?).map qP.cells:=fP
@[simp] theorem srows_getE {h:i<(yL ss).length}:(yL ss)[i]=(ss[i]' qL).cells:=fP
@[simp] theorem srows_tr:(yL ss).map (λr=>r.map (AV.tr f))=yL ss:=fP
@[simp] theorem srows_take:(yL ss).take i=yL (ss.take i):=fP
@[simp] theorem srows_drop:(yL ss).drop i=yL (ss.drop i):=fP
@[simp] theorem srows_app:yL ss++yL tt=yL (ss++tt):=fP
theorem sr:yL ss++[s.cells]=yL (ss++[s]):=fP
@[simp] theorem srows_nil:yL []=[]:=rfl
@[simp] theorem srows_cln:(yL ss).all (λr=>r.all AV.jE)=true:=fP
theorem Ys:∀ r∈yL ss,r.length=4:=fP
abbrev eZ (ss:List qP):AV:=.sl 4 (yL ss)
theorem Ah {hp:Nm->Option AO} {n:Nm} {len:Nat} (hn:hp n=some (.row 4 (yL ss))) (hl:len=ss.length):Bw hp zf (.hs n 4 0 len) (eZ ss):=gU hn oS Ys
end
structure qT where
 kind:Int
 parent:Int
 params:List Int
 body:List qP
 deriving DecidableEq,Inhabited
abbrev qT.cells (k:qT):List AV:=[iv k.kind,iv k.parent,vJ k.params,eZ k.body]
abbrev qT.av (k:qT):AV:=.agg k.cells
def lJ (ks:List qT):List (List AV):=ks.map qT.cells
abbrev qC:=List qT
section
variable {ks ls:List qT} {k:qT} {i:Nat} {f:Nm->Option Nm}
@[simp] theorem krows_len:(lJ ks).length=ks.length:=tc
@[simp] theorem SS:(lJ ks)[i]?=(ks[i]?).map qT.cells:=tc
@[simp] theorem krows_getE {h:i<(lJ ks).length}:(lJ ks)[i]=(ks[i]' qL).cells:=tc
@[simp] theorem krows_tr:(lJ ks).map (λr=>r.map (AV.tr f))=lJ ks:=tc
abbrev vK (ks:List qT):AV:=.sl 4 (lJ ks)
abbrev yu (p:qC):AV:=.agg [vK p]
end
def vg (xs:List Int) (x:Int):Int:=match xs.findIdx? (·==x) with|some i=>i|none=>-1
theorem sW {xs:List Int} {x:Int}:0<=vg xs x↔x∈xs:=by
 grind[vg]
def uR (xs:List Int):Nat->List Int
 | 0=>[]
 | n+1=>if (n:Int)∈xs then uR xs n++[(n:Int)] else uR xs n
def sorted (xs:List Int):List Int:=uR xs 8
theorem Bm {xs:List Int} {x:Int}:∀ n:Nat,x∈uR xs n↔x∈xs/\0<=x/\x<n
 | 0=>by
  grind[uR]
 | n+1=>by
  simp only [uR]
  split
  .rename_i h;simp only [jo,Bm n,yj]
   grind
  .rename_i h;rw [Bm n]
   grind
theorem mem_sorted {xs:List Int} {x:Int}:x∈sorted xs↔x∈xs/\0<=x/\x<=7:=by
 grind[sorted,Bm]
theorem M1 {xs:List Int}:∀ n:Nat,(uR xs n).length<=n
 := by intro x0;induction x0<;>grind[uR]
theorem CS {xs:List Int}:(sorted xs).length<=8:=M1 8
def qP.reads (s:qP):List Int :=
 if s.kind=1\/s.kind=6\/s.kind=7\/s.kind=8 then [s.a] else if s.kind=2 then [s.a,s.b] else if s.kind=5 then (if s.b=-1 then [s.a] else [s.a,s.b]) else []
theorem qP.pG (s:qP):s.reads.length<=2:=by
 grind[reads]
abbrev qP.cu (s:qP):Prop:=0<=s.kind/\s.kind<=6
def pF (ss:List qP):List Int:=ss.flatMap qP.reads
def mM (k:qT):List Int:=k.params++(k.body.filter (λs=>decide (s.cu\/s.kind=11))).map qP.to
def ma (k:qT) (d:Int):List Int:=(k.body.filter (λs=>decide (s.kind=d))).map qP.to
structure uA (p:qC):Prop where
 len:p.length<=1048576
 params:∀ k∈p,k.params.length<=1048576
 body:∀ k∈p,k.body.length<=1048576
structure n4 (k:qT):Prop where
 params:k.params.length<=1048576
 body:k.body.length<=1048576
theorem uA.uu {p:qC} (h:uA p) {b:Nat} {k:qT} (hk:p[b]?=some k):n4 k:=⟨h.params k (gM hk),h.body k (gM hk)⟩
def qT.rd (k:qT):List Int:=sorted (pF k.body)
def qT.bd (k:qT):List Int:=sorted (mM k)
def qT.dc (k:qT) (d:Int):List Int:=sorted (ma k d)
theorem qT.Oi (k:qT):k.bd.length<=8:=CS
theorem qT.xK (k:qT) (d:Int):(k.dc d).length<=8:=CS
def u7 (b:Nat) (k:qT) (x:Int):Bool:=decide (0<b)&&decide (x∈k.bd)&&!decide (x∈k.dc 9)&&!decide (x∈k.dc 10)
def zZ (p:qC):Prop:=∀ (i:Nat) (q:qT),p[i]?=some q -> -1<=q.parent/\q.parent<i/\(0<i->0<=q.parent)
def jx (p:qC) (x:Int):Nat->Int->Int
 | 0,_=>-1
 | n+1,j=>if j<=0 then -1 else match p[j.toNat]? with
  | none=>-1
  | some q=>if q.kind≠1 then jx p x n q.parent else if x∈q.dc 9 then -1 else if u7 j.toNat q x then j else jx p x n q.parent
theorem FG {p:qC} {x:Int} (hp:zZ p):∀ (n m:Nat) (j:Int),j<=n->j<=m->jx p x n j=jx p x m j
 | 0,0,_,_,_=>rfl
 | 0,m+1,j,h,_=>by grind[jx]
 | n+1,0,j,_,h=>by grind[jx]
 | n+1,m+1,j,h1,h2=>by
  simp only [jx]
  split
  .rfl
  .rename_i hj
   split
   .rfl
   .rename_i q hq;obtain⟨h3,h4,_⟩:=hp j.toNat q hq;rw [FG hp n m q.parent qA qA]
def outer (p:qC) (b:Nat) (x:Int):Int:=match p[b]? with
 | some k=>jx p x b k.parent
 | none=>-1
def zA (p:qC) (b:Nat) (x:Int):Int:=match p[b]? with
 | some k=>if b=0\/x∈k.dc 9 then -1 else if u7 b k x then b else outer p b x
 | none=>-1
def ac (p:qC) (b:Nat) (j kind:Int):Bool:=decide ((b:Int)+1<=j/\j<=(p.length:Int) - 1)&&match p[j.toNat]? with
 | some q=>(q.kind==kind)&&(q.parent==b)
 | none=>false
def eP (s:qP) (b:Int):Bool:=(s.kind==3||s.kind==4)&&s.a==b
def ae (p:qC) (b:Nat):Int:=match p[b]? with
 | some k=>match p[k.parent.toNat]? with
  | some q=>(q.body.filter (λs=>eP s b)).length
  | none=>0
 | none=>0
theorem nJ {α:Type} {l:List α} {s:α} {i:Nat} {f:α->Bool} (h:l[i]?=some s):(l.take (i+1)).filter f=(l.take i).filter f++(if f s then [s] else []):=by
 grind[vM]
theorem lT {p:qC} {b:Nat} {k:qT} {x:Int} (hp:zZ p) (hk:p[b]?=some k):outer p b x=jx p x p.length k.parent:=by
 simp only [outer,hk];obtain⟨h1,h2,_⟩:=hp b k hk
 grind[FG]
theorem lR {p:qC} {j:Nat} {q:qT} {x:Int} (hp:zZ p) (hq:p[j]?=some q) (h0:0<j):jx p x p.length j=if q.kind≠1 then jx p x p.length q.parent else if x∈q.dc 9 then -1 else if u7 j q x then (j:Int) else jx p x p.length q.parent:=by
 have hb:j<p.length:=(gS hq).1;obtain⟨h1,h2,_⟩:=hp j q hq;obtain⟨n,hn⟩:∃ n,p.length=n+1:=⟨p.length - 1,qA⟩;have e:jx p x n q.parent=jx p x (n+1) q.parent:=FG hp _ _ _ qA qA;rw [hn,<- e]
 conv=>lhs;rw [jx]
 grind
theorem xj {p:qC} {j x:Int} (h:j<=0):∀ n,jx p x n j=-1
 | 0=>rfl
 | n+1=>by grind[jx]
abbrev uU (b:Nat) (k:qT):Prop:=if b=0 then k.kind=0/\k.parent=-1/\k.params.length=0 else
 1<=k.kind/\k.kind<=2/\0<=k.parent/\k.parent<b/\(k.params.length=0\/(k.params.length=1/\k.kind=1/\0<=k.params.headD 0/\k.params.headD 0<=7))
def a6 (b:Nat) (k:qT):Bool:=decide (uU b k)
abbrev gk (x:Int):Bool:=decide (0<=x)&&decide (x<=7)
def zW (p:qC) (i:Nat) (k:qT) (s:qP):Bool:=gk s.to&&s.reads.all gk &&
 (if s.kind=0 then decide (0<=s.a)&&decide (s.a<=99)&&s.b==0 else if s.kind=1 then s.b==0 else if s.kind=2\/s.kind=5 then true
 else if s.kind=3 then s.b==0&&ac p i s.a 1 else if s.kind=4 then s.b==0&&ac p i s.a 2 else if s.kind=6 then gk s.b
 else if s.kind=7 then s.to==0&&s.b==0 else if s.kind=8 then s.to==0&&s.b==0&&k.kind==1
 else if s.kind=9\/s.kind=10 then s.a==0&&s.b==0&&k.kind != 0 else if s.kind=11 then s.a==0&&s.b==0 else false)
def aE (p:qC) (i:Nat):Bool:=match p[i]? with
 | some k=>a6 i k&&decide (k.body.length<=12)&&k.body.all (zW p i k)
 | none=>false
def wk (p:qC):Bool:=(decide (1<=p.length)&&decide (p.length<=7))&&(List.range p.length).all (aE p)&&(List.range p.length).all (λi=>i==0||ae p i==1)
theorem uU.head {b:Nat} {k:qT} (h:uU b k):-1<=k.parent/\k.parent<b/\(0<b->0<=k.parent):=by
 grind
theorem Aa {p:qC} {i:Nat} {k:qT} (hk:p[i]?=some k) (h:aE p i=true):uU i k/\k.body.length<=12/\k.body.all (zW p i k)=true:=by
 grind[aE,a6]
theorem mI {f:Nat->Bool} {n:Nat}:(List.range (n+1)).all f=((List.range n).all f&&f n):=by
 grind
theorem JQ {p:qC} (h:(List.range p.length).all (aE p)=true):zZ p:=by
 intro i q hq;have hi:i<p.length:=(gS hq).1;exact (Aa hq (yS.1 h i (gN.2 hi))).1.head
theorem l0 {f:Nat->Bool} {n i:Nat} (hi:i<n) (h:f i=false):(List.range n).all f=false:=by
 grind
theorem HV {α:Type} {f:α->Bool} {l:List α} {x:α} (hx:x∈l) (h:f x=false):l.all f=false:=by
 grind
def w6 (p:qC) (b:Nat) (k:qT) (x:Int):Bool :=
 !(decide (x∈k.dc 9)&&(decide (x∈k.dc 10)||decide (x∈k.params))||decide (x∈k.dc 10)&&(decide (x∈k.params)||decide (outer p b x<0)))
def aL (p:qC) (b:Nat):Bool:=match p[b]? with
 | some k=>(List.range 8).all (λx=>w6 p b k (x:Int))
 | none=>false
def ye (p:qC):Bool:=wk p&&(List.range p.length).all (λb=>b==0||aL p b)
theorem AF {p:qC} (h:wk p=true):zZ p/\1<=p.length/\p.length<=7/\(List.range p.length).all (aE p)=true/\∀ i,0<i->i<p.length->ae p i=1:=by
 grind[wk,JQ]
def uD (n0 n1 m:Nm):Option Nm:=if Nm.under n0 m&&decide (m≠n0) then some (Nm.qz n0 n1 m) else if Nm.under n1 m&&decide (m≠n1) then none else some m
theorem KT {k0 k1 k k' x:Nm} (h:uD k0 k1 k=some x) (h':uD k0 k1 k'=some x):k=k':=by
 have img:∀ m,Nm.under k0 m=true->m≠k0->Nm.under k1 (Nm.qz k0 k1 m)=true/\Nm.qz k0 k1 m≠k1:=by
  intro m hu hne;refine⟨Nm.de m hu,λe=>hne ?_⟩;exact Nm.CC m k0 hu (Nm.uH k0) ta
 grind[uD,Nm.CC]
def JR (n0 n1:Nm) (hp:Nm->Option AO):Nm->Option AO:=λm =>
 if Nm.under n1 m&&decide (m≠n1) then (if uD n0 n1 (Nm.qz n1 n0 m)=some m then (hp (Nm.qz n1 n0 m)).map (AO.tr (uD n0 n1)) else none)
 else if Nm.under n0 m&&decide (m≠n0) then none else (hp m).map (AO.tr (uD n0 n1))
def St.uD (n0 n1:Nm) (st:St):St:=st.nm (Hm.uD n0 n1) (JR n0 n1 st.hp)
section
variable {X:Ctx} {st:St} {a:Act} {w:World} {K:St->Prop} {E:AV->St->Prop}
theorem Rw.uD (h:Rw X st a w) (n0 n1:Nm):Rw X (st.uD n0 n1) a w:=by
 obtain⟨C,g,e1,e2,e3,e4,e5,hr⟩:=h;refine⟨C,_,e1,e2,e3,e4,?_,hr.rename (f:=Hm.uD n0 n1) (λ_ _ _=>KT) (λn' o' e=>?_)⟩
 .intro k i j he
  have e:Hm.uD n0 n1 (.u k i j)=some (.u k i j):=by
   grind[Nm.under,Hm.uD]
  obtain⟨x1,x2⟩:=Gh.ec (g:=g) (λ_ _ _=>KT) e;obtain⟨y1,y2⟩:=e5 k i j he
  simp_all
 grind[JR,zg,Hm.uD]
def oU:AV->Option Nm
 | .hs n _ _ _=>if n.z7 then none else some n
 | .pt n _=>if n.z7 then none else some n
 | .mp n=>if n.z7 then none else some n
 | _=>none
def fh (key:Nat->Nm):Nat->List AV->List (Nm×Nm)
 | _,[]=>[]
 | j,x::l=>match oU x with
  | some k=>(k,key j)::fh key (j+1) l
  | none=>fh key (j+1) l
def lZ (n:Nm):Nat->List (List AV)->List (Nm×Nm)
 | _,[]=>[]
 | i,r::l=>fh (λj=>.c n i j) 0 r++lZ n (i+1) l
theorem FY {n:Nm} (hn:n.z7=false) {i:Nat}:∀ (r:List AV) (j:Nat),gy (fh (λj=>.c n i j) j r)
 | [],_=>by simp [fh,gy]
 | x::l,j=>by
  simp only [fh]
  split
  .rename_i k hk;intro p hp;rcases vB.1 hp with rfl|hp
   .refine⟨?_,rfl⟩;unfold oU at hk
    grind
   .exact FY hn l (j+1) p hp
  .exact FY hn l (j+1)
theorem Kw {n:Nm} (hn:n.z7=false):∀ (rows:List (List AV)) (i:Nat),gy (lZ n i rows)
 | [],_=>by simp [lZ,gy]
 | r::l,i=>by
  intro p hp;rcases jo.1 hp with hp|hp
  .exact FY hn r 0 p hp
  .exact Kw hn l (i+1) p hp
theorem Rw.canon:∀ {l:List (Nm×Nm)} {st:St},gy l->Rw X st a w->Rw X (canon l st) a w
 | [],_,_,h=>h
 | p::l,st,hp,h=>Rw.canon (l:=l) (λq hq=>hp q ik) (h.move p.1 p.2 (.inl (hp p qB).1) (.inl (hp p qB).2))
theorem q8.post {o:Oper} {K':St->Prop} (h:q8 X o K' E st) (hK:∀ s a w,Rw X s a w->K' s->∃ s',Rw X s' a w/\K s'):q8 X o K E st:=by
 intro a w Q hR hE;refine Oper.wp_mono ?_ (h a w Q hR hE)
 grind
theorem K7 {T F:TypeId} {s x:Operand} {z len d:Nat} {n:Nm} {rows0 rows2:List (List AV)} {ty:TypeId} {pos:String} {aft:Array Edge} {g:Option (Nat×Bool)} {st':St} (hd:d<X.n) (hT:yN X.P T=some F) (hz:qd X.P F=z) (hs:ev st s=.hs n z 0 len) (hn:st.hp n=some (.row z rows0)) (hle:len<=rows0.length)
  (hx:am st z (ev st x)=some rows2) (hlen:len+rows2.length<=4294967296) (hq:Hm.canon (lZ (.s d) len rows2) ((kf d z (len+rows2.length) (some n) (rows0.take len++rows2) st).uD n (.s d))=st') (h:K st') :
  q8 X ⟨some d,.call ⟨.builtin .append,#[s,x],#[T,T]⟩,ty,pos,aft,g⟩ K E st:=by
 refine q8.post (MD (K:=λs'=>s'=kf d z (len+rows2.length) (some n) (rows0.take len++rows2) st) rfl rfl hd hT hz hs hn hle hx hlen rfl) ?_;rintro s' a w hR rfl;exact⟨_,Rw.canon (Kw rfl _ _) (hR.uD n (.s d)),hq ▸ h⟩
end
section
variable {st:St} {n q m k0 k1:Nm} {t:Nat} {x:AV} {k i j:Nat}
@[simp] theorem mvc_eq:uD k0 k1 m=if Nm.under k0 m&&decide (m≠k0) then some (Nm.qz k0 k1 m) else if Nm.under k1 m&&decide (m≠k1) then none else some m:=rfl
@[simp] theorem mvc_tm:(st.uD n q).tm t=(st.tm t).tr (uD n q):=rfl
@[simp] theorem mvc_gl:(st.uD n q).gl=st.gl:=rfl
@[simp] theorem mvc_hp:(st.uD n q).hp m=if Nm.under q m&&decide (m≠q) then (if uD n q (Nm.qz q n m)=some m then (st.hp (Nm.qz q n m)).map (AO.tr (uD n q)) else none) else if Nm.under n m&&decide (m≠n) then none else (st.hp m).map (AO.tr (uD n q)):=rfl
@[simp] theorem cnm_hs {z lo len:Nat}:oU (.hs n z lo len)=if n.z7 then none else some n:=rfl
@[simp] theorem cnm_pt {off:Nat}:oU (.pt n off)=if n.z7 then none else some n:=rfl
@[simp] theorem cnm_sc {v:Value}:oU (.sc v)=none:=rfl
@[simp] theorem cnm_sl {z:Nat} {rows:List (List AV)}:oU (.sl z rows)=none:=rfl
@[simp] theorem prc_nil {key:Nat->Nm}:fh key j []=[]:=rfl
@[simp] theorem prc_cons {key:Nat->Nm} {l:List AV}:fh key j (x::l)=match oU x with|some k=>(k,key j)::fh key (j+1) l|none=>fh key (j+1) l:=rfl
@[simp] theorem prcL_nil:lZ n i []=[]:=rfl
@[simp] theorem prcL_cons {r:List AV} {l:List (List AV)}:lZ n i (r::l)=fh (λj=>.c n i j) 0 r++lZ n (i+1) l:=rfl
@[simp] theorem isU_s:(Nm.s k).z7=false:=rfl
@[simp] theorem isU_c:(Nm.c n i j).z7=false:=rfl
@[simp] theorem isU_u:(Nm.u k i j).z7=true:=rfl
end
@[simp] theorem srows_app2 {ss:List qP} {a b c d:Int}:yL ss++[[.sc (.int .i64 a),.sc (.int .i64 b),.sc (.int .i64 c),.sc (.int .i64 d)]]=yL (ss++[⟨a,b,c,d⟩]):=fP
def Ud (p:qC) (b:Nat) (k:qT):List Int:=(List.range 8).map (λx:Nat=>if (x:Int)∈k.rd++k.bd then zA p b (x:Int) else -2)
def Uc (p:qC) (b:Nat):List Int:=match p[b]? with
 | some k=>Ud p b k
 | none=>[]
def Km (p:qC):List (List Int):=(List.range p.length).map (Uc p)
def ZT (n:Nm) (t:List (List Int)):List (List AV):=t.mapIdx (λi r=>[.hs (.c n i 0) 1 0 r.length])
section
variable {t:List (List Int)} {i:Nat} {f:Nm->Option Nm} {n:Nm}
@[simp] theorem tabRows_nil:ZT n []=[]:=rfl
end
def St.nw (st:St) (d:Nat) (H':Nm->Option AO):St:={ tm:=st.tm,hp:=λm=>if Nm.under (.s d) m then H' m else st.hp m,n:=st.n,gl:=st.gl }
section
variable {st:St} {d t:Nat} {H':Nm->Option AO} {m:Nm}
@[simp] theorem addH_tm:(st.nw d H').tm=st.tm:=rfl
@[simp] theorem addH_gl:(st.nw d H').gl=st.gl:=rfl
@[simp] theorem addH_hp:(st.nw d H').hp m=if Nm.under (.s d) m then H' m else st.hp m:=rfl
end
theorem PQ {st:St} {d:Nat} {H':Nm->Option AO}:st.call d zf jv H'=(st.kill (.s d)).nw d H':=by
 simp_all[St.call,St.nm,St.nw,St.kill,oX,jG]
section
variable {X:Ctx} {st:St} {K:St->Prop} {E:AV->St->Prop} {d f:Nat} {ty:TypeId} {pos:String} {aft:Array Edge} {g:Option (Nat×Bool)} {args:Array Operand} {Ts:Array TypeId} {az avs:List AV} {R:Nm->AV->(Nm->Option AO)->Prop}
theorem UE (hd:d<X.n) (ha:args.toList.map (ev st)=avs) (hB:aT st.hp zf avs az) (hF:qM X.P X.gl f az R) (hK:∀ y H',R (.s d) y H'->y.jE=true/\K (((st.kill (.s d)).nw d (uC H')).put (some d) y)) :
  q8 X ⟨some d,.call ⟨.value (.func f),args,Ts⟩,ty,pos,aft,g⟩ K E st:=by
 grind[Fy,PQ,lm]
end
theorem aN {H':Nm->Option AO} {n:Nm} {z:Nat} {rows:List (List AV)} (h:H' n=some (.row z rows)) (hc:rows.all (λr=>r.all AV.jE)=true):uC H' n=some (.row z rows):=by
 grind[uC,AO.jE]
end Go.Hm
end
section

end
section
namespace Go.Hm
open Go Go.RowKit
def yX (n:Nm) (p:qC):List (List AV):=p.mapIdx (λi k=>[iv k.kind,iv k.parent,.hs (.c n i 2) 1 0 k.params.length,.hs (.c n i 3) 4 0 k.body.length])
structure uf (hp:Nm->Option AO) (n:Nm) (p:qC):Prop where
 top:hp n=some (.row 4 (yX n p))
 params:∀ (i:Nat) k,p[i]?=some k->hp (.c n i 2)=some (.row 1 (qm k.params))
 body:∀ (i:Nat) k,p[i]?=some k->hp (.c n i 3)=some (.row 4 (yL k.body))
section
variable {p:qC} {i a b d l:Nat} {n q k1:Nm} {k:qT}
@[simp] theorem pRows_len:(yX n p).length=p.length:=tv
@[simp] theorem FO:(yX n p)[i]?=(p[i]?).map (λk=>[iv k.kind,iv k.parent,.hs (.c n i 2) 1 0 k.params.length,.hs (.c n i 3) 4 0 k.body.length]):=tv
@[simp] theorem pRows_getE {h:i<(yX n p).length}:(yX n p)[i]=[iv (p[i]' qL).kind,iv (p[i]' qL).parent,.hs (.c n i 2) 1 0 (p[i]' qL).params.length,.hs (.c n i 3) 4 0 (p[i]' qL).body.length]:=tv
@[simp] theorem pRows_nil:yX n []=[]:=rfl
@[simp] theorem pRows_take:(yX n p).take p.length=yX n p:=yU qB
theorem By:yX n (p++[k])=yX n p++[[iv k.kind,iv k.parent,.hs (.c n p.length 2) 1 0 k.params.length,.hs (.c n p.length 3) 4 0 k.body.length]]:=tv
theorem kr {f:Nm->Option Nm} {m:Nm} (h:∀ i j,i<p.length->f (.c n i j)=some (.c m i j)):(yX n p).map (λr=>r.map (AV.tr f))=yX m p:=by
 apply vl;intro i;simp only [jg,FO,Option.map_map]
 grind[AV.tr]
@[simp] theorem pRows_kl (h:Nm.under (.s d) n=false):(yX n p).map (λr=>r.map (AV.tr (kl (.s d))))=yX n p:=kr gZ
@[simp] theorem pRows_mv2 (h:Nm.under (.s a) n=false) (h':Nm.under (.s b) n=false):(yX n p).map (λr=>r.map (AV.tr (mv (.s a) (.s b))))=yX n p:=kr (by simp [h,h'])
@[simp] theorem pRows_mv3 (h:Nm.under (.s a) n=false) (hq:(q=n)=False) (hq':Nm.under (.c q b l) n=false):(yX n p).map (λr=>r.map (AV.tr (mv (.s a) (.c q b l))))=yX n p:=by
 grind[kr,Nm.under,mv]
@[simp] theorem pRows_mvc:(yX n p).map (λr=>r.map (AV.tr (uD n k1)))=yX k1 p:=by
 simp_all[kr,Nm.mz]
@[simp] theorem pRows_mv4 {j:Nat} (hq:(q=n)=False) (hq':Nm.under (.c q a b) n=false) (hl:p.length<=l):(yX n p).map (λr=>r.map (AV.tr (mv (.c q a b) (.c n l j))))=yX n p:=by
 have h1:¬ n=q:=λe=>qL
 have h2:Nm.under (.c n l j) n=false:=by
  cases h:Nm.under (.c n l j) n with
  | false=>rfl
  | true=>exact absurd rfl (Nm.G3 h).2
 grind[kr,Nm.under,mv]
end
theorem gV {hp:Nm->Option AO} {n:Nm} {len:Nat} {p:qC} (h:uf hp n p) (hl:len=p.length):Bw hp zf (.hs n 4 0 len) (vK p):=by
 subst hl;refine .hs n 4 0 p.length (yX n p) (lJ p) rfl h.top qB qB tc λi r r' hr hr' j a a' ha ha'=>?_;rw [ia,FO] at hr;rw [SS] at hr';obtain⟨x,hx,rfl⟩:=zg.1 hr;rw [hx] at hr';obtain rfl:=sI hr'
 match j,ha,ha' with
 | 0,ha,ha'=>obtain rfl:=sI ha;obtain rfl:=sI ha';exact .refl _
 | 1,ha,ha'=>obtain rfl:=sI ha;obtain rfl:=sI ha';exact .refl _
 | 2,ha,ha'=>obtain rfl:=sI ha;obtain rfl:=sI ha';exact dl (h.params i x hx) rfl
 | 3,ha,ha'=>obtain rfl:=sI ha;obtain rfl:=sI ha';exact Ah (h.body i x hx) rfl
 | j+4,ha,_=>simp at ha
theorem gR {hp:Nm->Option AO} {x y:AV} (h:Bw hp zf x y):Bw hp zf (.agg [x]) (.agg [y]):=by
 constructor<;>grind
theorem uf.uC {H':Nm->Option AO} {n:Nm} {p:qC} (h:uf H' n p):uf (uC H') n p:=by
 refine⟨aN h.top ?_,λi k hk=>aN (h.params i k hk) qB,λi k hk=>aN (h.body i k hk) qB⟩;simp only [yX,yS];intro r hr;obtain⟨i,hi⟩:=kB hr;rw [List.getElem?_mapIdx] at hi;obtain⟨x,_,rfl⟩:=zg.1 hi;simp
end Go.Hm
end
