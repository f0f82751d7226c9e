/-
  Own texts, joined by mkclaim.py: Hm20, Hm21, Hm22, Hm23, Hm24, Hm25, Hm26.
-/
import Derived.Test.YtbgmnmnoaamgkaaGreatDoorD07
set_option linter.unusedSimpArgs false
set_option linter.unusedVariables false
set_option maxRecDepth 100000
set_option maxHeartbeats 4000000

section
namespace Go.Hm
open Go Go.RowKit
abbrev iv (n:Int):AV:=.sc (.int .i64 n)
abbrev bv (b:Bool):AV:=.sc (.bool b)
abbrev hL (n:Nm) (len:Nat):AV:=.hs n 1 0 len
theorem wrp {n:Int} (h1:-9223372036854775808≤n) (h2:n≤9223372036854775807):IntKind.i64.wrap n=n:=by
 rw [IntKind.wrap_i64];omega
section
variable {st:St} {P:Program} {n m q k0 k1:Nm} {o:AO} {d t a b i j k i' j' k':Nat} {x:AV} {f:Nm→Option Nm}
@[simp] theorem under_ss:Nm.under (.s a) (.s b)=decide (b=a):=by simp [Nm.under]
@[simp] theorem under_sc:Nm.under (.s a) (.c q i j)=Nm.under (.s a) q:=by simp [Nm.under]
@[simp] theorem under_su:Nm.under (.s a) (.u k i j)=false:=by simp [Nm.under]
@[simp] theorem under_cs:Nm.under (.c q i j) (.s b)=false:=by simp [Nm.under]
@[simp] theorem under_cu:Nm.under (.c q i j) (.u k i' j')=false:=by simp [Nm.under]
@[simp] theorem under_cc:Nm.under (.c q i j) (.c m i' j')=(decide (m=q∧i'=i∧j'=j)||Nm.under (.c q i j) m):=by simp [Nm.under]
@[simp] theorem under_us:Nm.under (.u k i j) (.s b)=false:=by simp [Nm.under]
@[simp] theorem qEA:Nm.under (.u k i j) (.c q i' j')=Nm.under (.u k i j) q:=by simp [Nm.under]
@[simp] theorem under_uu:Nm.under (.u k i j) (.u k' i' j')=decide (k'=k∧i'=i∧j'=j):=by simp [Nm.under]
@[simp] theorem under_refl:Nm.under n n=true:=Nm.under_self n
@[simp] theorem under_c1:Nm.under n (.c n i j)=true:=by simp [Nm.under]
@[simp] theorem under_c2:Nm.under n (.c (.c n i j) i' j')=true:=by simp [Nm.under]
@[simp] theorem ren_sc:Nm.ren (.s a) k1 (.c q i j)=.c (Nm.ren (.s a) k1 q) i j:=by simp [Nm.ren]
@[simp] theorem ren_self:Nm.ren n k1 n=k1:=by cases n <;> simp [Nm.ren]
@[simp] theorem ren_c1:Nm.ren n k1 (.c n i j)=.c k1 i j:=by
 have:Nm.c n i j≠n:=Nm.not_under_c (Nm.under_self n)
 simp [Nm.ren,this]
@[simp] theorem ren_c2:Nm.ren n k1 (.c (.c n i j) i' j')=.c (.c k1 i j) i' j':=by
 have h1:Nm.c n i j≠n:=Nm.not_under_c (Nm.under_self n)
 have h2:Nm.c (.c n i j) i' j'≠n:=Nm.not_under_c (by simp)
 simp [Nm.ren,h1,h2]
@[simp] theorem kl_eq:kl k0 m=if Nm.under k0 m then none else some m:=rfl
@[simp] theorem mv_eq:mv k0 k1 m=if Nm.under k0 m then some (Nm.ren k0 k1 m) else if Nm.under k1 m then none else some m:=rfl
@[simp] theorem put_tm:(st.put (some d) x).tm t=if t=d then x else st.tm t:=rfl
@[simp] theorem put_no:st.put none x=st:=rfl
@[simp] theorem put_hp':(st.put (some d) x).hp=st.hp:=rfl
@[simp] theorem put_gl':(st.put (some d) x).gl=st.gl:=rfl
@[simp] theorem setO_tm:(st.setO n o).tm=st.tm:=rfl
@[simp] theorem setO_gl:(st.setO n o).gl=st.gl:=rfl
@[simp] theorem qEI:(st.setO n o).hp m=if m=n then some o else st.hp m:=rfl
@[simp] theorem kill_tm:(st.kill n).tm t=(st.tm t).tr (kl n):=rfl
@[simp] theorem kill_gl:(st.kill n).gl=st.gl:=rfl
@[simp] theorem qR0:(st.kill n).hp m=if Nm.under n m then none else (st.hp m).map (AO.tr (kl n)):=rfl
@[simp] theorem move_tm:(st.move n q).tm t=(st.tm t).tr (mv n q):=rfl
@[simp] theorem move_gl:(st.move n q).gl=st.gl:=rfl
@[simp] theorem qEe:(st.move n q).hp m=if Nm.under q m then (if mv n q (Nm.ren q n m)=some m then (st.hp (Nm.ren q n m)).map (AO.tr (mv n q)) else none) else if Nm.under n m then none else (st.hp m).map (AO.tr (mv n q)):=rfl
@[simp] theorem apd_tm {p:Option Nm}:(st.apd d p).tm t=(st.tm t).tr (kl (.s d)):=rfl
@[simp] theorem apd_gl {p:Option Nm}:(st.apd d p).gl=st.gl:=rfl
@[simp] theorem qMT {p:Option Nm}:(st.apd d p).hp m=if p=some m then none else (st.kill (.s d)).hp m:=rfl
@[simp] theorem apSt_eq {z len:Nat} {p:Option Nm} {rows:List (List AV)}:qDQ d z len p rows st=((st.apd d p).setO (.s d) (.row z (rows.map (fun r=>r.map (AV.tr (kl (.s d))))))).put (some d) (.hs (.s d) z 0 len):=rfl
@[simp] theorem mkSt_eq {z l:Nat} {zv:List AV}:qUZ d z l zv st=((st.kill (.s d)).setO (.s d) (.row z (List.replicate l zv))).put (some d) (.hs (.s d) z 0 l):=rfl
@[simp] theorem bsSt_eq {E z:Nat} {rows:List (List AV)}:qOu P E d z rows st=canon (qDK (fun i j=>.c (.s d) i j) 0 (yR P E d 0 (rows.map (fun r=>r.map (AV.tr (kl (.s d)))))))
  (((St.setNils (yI P E d 0 (rows.map (fun r=>r.map (AV.tr (kl (.s d)))))) (st.kill (.s d))).setO (.s d) (.row z (yR P E d 0 (rows.map (fun r=>r.map (AV.tr (kl (.s d)))))))).put (some d) (.hs (.s d) z 0 rows.length)):=rfl
@[simp] theorem boxSt_eq {T:TypeId} {cs:List AV}:wx P T d cs st=canon (prs (Nm.c (.s d) 0) 0 (zcs (Nm.c (.s d) 0) (tce P T) 0 (cs.map (AV.tr (kl (.s d))))))
  (((St.setNils (qr (Nm.c (.s d) 0) (tce P T) 0 (cs.map (AV.tr (kl (.s d))))) (st.kill (.s d))).setO (.s d) (.row (tsz P T) [zcs (Nm.c (.s d) 0) (tce P T) 0 (cs.map (AV.tr (kl (.s d))))])).put (some d) (.pt (.s d) 0)):=rfl
@[simp] theorem mpSt_eq:qY3 d st=((st.kill (.s d)).setO (.s d) (.map [])).put (some d) (.mp (.s d)):=rfl
@[simp] theorem asgSt_eq {T:TypeId}:qHn P T d x st=if qn x then ((((st.kill (.s d)).setO (.s d) (.row (((tel P T).map (tsz P)).getD 0) []))).put (some d) (.hs (.s d) (((tel P T).map (tsz P)).getD 0) 0 0))
  else match sNm x with
   | some k=>if k=.s d then st.put (some d) x else (st.move k (.s d)).put (some d) (x.tr (mv k (.s d)))
   | none=>st.put (some d) x:=rfl
@[simp] theorem canon_nil:canon [] st=st:=rfl
@[simp] theorem canon_cons {p:Nm×Nm} {l:List (Nm×Nm)}:canon (p::l) st=canon l (st.move p.1 p.2):=rfl
@[simp] theorem setNils_nil:St.setNils [] st=st:=rfl
@[simp] theorem qFf {p:Nm×Nat} {l:List (Nm×Nat)}:St.setNils (p::l) st=(St.setNils l st).setO p.1 (.row p.2 []):=rfl
@[simp] theorem addNils_nil:St.addNils [] st=st:=rfl
@[simp] theorem addNils_cons {p:Nm×Nat} {l:List (Nm×Nat)}:St.addNils (p::l) st=St.addNils l ((st.kill p.1).setO p.1 (.row p.2 [])):=rfl
@[simp] theorem stoK_eq {T:TypeId} {off:Nat} {v0:List AV}:qDE P T n i off v0 st=St.addNils (qr (fun j=>.c n i (off+j)) (tce P T) 0 v0) st:=rfl
@[simp] theorem stoV_eq {T:TypeId} {off:Nat} {v1:List AV}:qK1 P T n i off v1=zcs (fun j=>.c n i (off+j)) (tce P T) 0 v1:=rfl
@[simp] theorem stoSt_eq {z off:Nat} {rows:List (List AV)} {vals:List AV}:qEC n z i off rows vals st=canon (prs (fun j=>.c n i (off+j)) 0 vals) (st.setO n (.row z (qa rows i off vals))):=rfl
@[simp] theorem ownRows_nil {T i:Nat}:yR P T d i []=[]:=rfl
@[simp] theorem ownRows_cons {T i:Nat} {r:List AV} {l:List (List AV)}:yR P T d i (r::l)=zcs (fun j=>.c (.s d) i j) (tce P T) 0 r::yR P T d (i+1) l:=rfl
@[simp] theorem nilKeysLL_nil {T i:Nat}:yI P T d i []=[]:=rfl
@[simp] theorem nilKeysLL_cons {T i:Nat} {r:List AV} {l:List (List AV)}:yI P T d i (r::l)=qr (fun j=>.c (.s d) i j) (tce P T) 0 r++yI P T d (i+1) l:=rfl
@[simp] theorem prsLL_nil {key:Nat→Nat→Nm}:qDK key i []=[]:=rfl
@[simp] theorem prsLL_cons {key:Nat→Nat→Nm} {r:List AV} {l:List (List AV)}:qDK key i (r::l)=prs (key i) 0 r++qDK key (i+1) l:=rfl
@[simp] theorem zcs_nil {key:Nat→Nm} {es:List Nat}:zcs key es j []=[]:=rfl
@[simp] theorem qMc {key:Nat→Nm} {es:List Nat} {l:List AV}:zcs key es j (x::l)=(if qn x then .hs (key j) (es.getD j 0) 0 0 else x)::zcs key es (j+1) l:=rfl
@[simp] theorem nk_nil {key:Nat→Nm} {es:List Nat}:qr key es j []=[]:=rfl
@[simp] theorem qRW {key:Nat→Nm} {es:List Nat} {l:List AV}:qr key es j (x::l)=if qn x then (key j,es.getD j 0)::qr key es (j+1) l else qr key es (j+1) l:=rfl
@[simp] theorem prs_nil {key:Nat→Nm}:prs key j []=[]:=rfl
@[simp] theorem qIW {key:Nat→Nm} {l:List AV}:prs key j (x::l)=match sNm x with|some k=>(k,key j)::prs key (j+1) l|none=>prs key (j+1) l:=rfl
@[simp] theorem rowsSet_one {r:List AV} {off:Nat} {vals:List AV}:qa [r] 0 off vals=[r.take off++vals++r.drop (off+vals.length)]:=rfl
@[simp] theorem rowsOf_nil:kN st []=some []:=rfl
@[simp] theorem rowsOf_cons {p:Nat×Operand} {l:List (Nat×Operand)}:kN st (p::l)=((ev st p.2).cells).bind fun r=>(kN st l).map (r::·):=rfl
@[simp] theorem resL_nil:qFS P st []=some []:=rfl
@[simp] theorem resL_tmp {l:List ResultVar}:qFS P st (.tmp t::l)=(qFS P st l).map (st.tm t::·):=rfl
@[simp] theorem resL_cell {T:TypeId} {l:List ResultVar}:qFS P st (.cell t T::l)=((cellsAt st (st.tm t)).bind (fun p=>qIj P T p.1 p.2)).bind fun x=>(qFS P st l).map (x::·):=rfl
@[simp] theorem res1_one:qM7 [x]=x:=rfl
@[simp] theorem res1_nil:qM7 []=.tup []:=rfl
@[simp] theorem res1_two {y:AV} {l:List AV}:qM7 (x::y::l)=.tup (x::y::l):=rfl
@[simp] theorem noD_eq:noD m=false:=rfl
@[simp] theorem noH_eq:noH m=none:=rfl
@[simp] theorem finf_nil {D:Nm→Bool}:zu D [] m=if D m then some m else none:=rfl
@[simp] theorem finf_cons {D:Nm→Bool} {p:Nm×Nm} {l:List (Nm×Nm)}:zu D (p::l) m=if Nm.under p.1 m then some (Nm.ren p.1 p.2 m) else zu D l m:=rfl
@[simp] theorem fing_nil:qRd [] m=none:=rfl
@[simp] theorem fing_cons {p:Nm×Nm} {l:List (Nm×Nm)}:qRd (p::l) m=if Nm.under p.2 m then some (Nm.ren p.2 p.1 m) else qRd l m:=rfl
@[simp] theorem finH_eq {D:Nm→Bool} {sbs:List (Nm×Nm)} {hp:Nm→Option AO}:wS D sbs hp m=if D m then (hp m).map (AO.tr (zu D sbs)) else match qRd sbs m with
  | some q=>if zu D sbs q=some m then (hp q).map (AO.tr (zu D sbs)) else none
  | none=>none:=rfl
@[simp] theorem st0_tm {az:List AV} {H:Nm→Option AO} {gl:Nat→Option (List AV)}:(st0 az H k gl).tm t=az.getD t (.sc undef):=rfl
@[simp] theorem st0_hp {az:List AV} {H:Nm→Option AO} {gl:Nat→Option (List AV)}:(st0 az H k gl).hp=H:=rfl
@[simp] theorem st0_gl {az:List AV} {H:Nm→Option AO} {gl:Nat→Option (List AV)}:(st0 az H k gl).gl=gl:=rfl
@[simp] theorem ctx0_P {C:Nat→Prop} {w:World} {g:Gh} {H:Nm→Option AO} {gl:Nat→Option (List AV)}:(un P C w g H k gl).P=P:=rfl
@[simp] theorem ctx0_n {C:Nat→Prop} {w:World} {g:Gh} {H:Nm→Option AO} {gl:Nat→Option (List AV)}:(un P C w g H k gl).n=k:=rfl
@[simp] theorem ctx0_gl {C:Nat→Prop} {w:World} {g:Gh} {H:Nm→Option AO} {gl:Nat→Option (List AV)}:(un P C w g H k gl).gl=gl:=rfl
@[simp] theorem tr_sc {v:Value}:(AV.sc v).tr f=.sc v:=rfl
@[simp] theorem tr_sl {z:Nat} {rows:List (List AV)}:(AV.sl z rows).tr f=.sl z (rows.map (fun r=>r.map (AV.tr f))):=by simp [AV.tr,jL]
@[simp] theorem tr_el {row:List AV} {off:Nat}:(AV.el row off).tr f=.el (row.map (AV.tr f)) off:=by simp [AV.tr,wM]
@[simp] theorem tr_hs {z lo len:Nat}:(AV.hs n z lo len).tr f=match f n with|some n'=>.hs n' z lo len|none=>.bot:=rfl
@[simp] theorem tr_pt {off:Nat}:(AV.pt n off).tr f=match f n with|some n'=>.pt n' off|none=>.bot:=rfl
@[simp] theorem tr_ep {z i off:Nat}:(AV.ep n z i off).tr f=match f n with|some n'=>.ep n' z i off|none=>.bot:=rfl
@[simp] theorem tr_mp:(AV.mp n).tr f=match f n with|some n'=>.mp n'|none=>.bot:=rfl
@[simp] theorem tr_agg {cs:List AV}:(AV.agg cs).tr f=.agg (cs.map (AV.tr f)):=by simp [AV.tr,wM]
@[simp] theorem tr_tup {cs:List AV}:(AV.tup cs).tr f=.tup (cs.map (AV.tr f)):=by simp [AV.tr,wM]
@[simp] theorem tr_ifc {T:TypeId}:(AV.ifc T x).tr f=.ifc T (x.tr f):=rfl
@[simp] theorem tr_bot:(AV.bot).tr f=.bot:=rfl
@[simp] theorem aotr_row {z:Nat} {rows:List (List AV)}:AO.tr f (.row z rows)=.row z (rows.map (fun r=>r.map (AV.tr f))):=rfl
@[simp] theorem aotr_trow {T:TypeId} {z:Nat} {ex:Bool} {rows:List (List AV)}:AO.tr f (.trow T z ex rows)=.trow T z ex (rows.map (fun r=>r.map (AV.tr f))):=rfl
@[simp] theorem aotr_map {es:List (AV×AV)}:AO.tr f (.map es)=.map (es.map (fun e=>(e.1.tr f,e.2.tr f))):=rfl
@[simp] theorem nils_int {k:IntKind} {n:Int}:qn (.sc (.int k n))=false:=rfl
@[simp] theorem nils_bool {b:Bool}:qn (.sc (.bool b))=false:=rfl
@[simp] theorem nils_str {b:ByteArray}:qn (.sc (.string b))=false:=rfl
@[simp] theorem nils_ptr {p:Option Addr}:qn (.sc (.pointer p))=false:=rfl
@[simp] theorem nils_ifn:qn (.sc .nilIface)=false:=rfl
@[simp] theorem nils_tup {l:Array Value}:qn (.sc (.tuple l))=false:=rfl
@[simp] theorem nils_nil:qn (.sc (.slice none 0 0))=true:=rfl
@[simp] theorem nils_sl {z:Nat} {rows:List (List AV)}:qn (.sl z rows)=false:=rfl
@[simp] theorem nils_hs {z lo len:Nat}:qn (.hs n z lo len)=false:=rfl
@[simp] theorem nils_el {row:List AV} {off:Nat}:qn (.el row off)=false:=rfl
@[simp] theorem nils_pt {off:Nat}:qn (.pt n off)=false:=rfl
@[simp] theorem nils_ep {z i off:Nat}:qn (.ep n z i off)=false:=rfl
@[simp] theorem nils_mp:qn (.mp n)=false:=rfl
@[simp] theorem nils_agg {cs:List AV}:qn (.agg cs)=false:=rfl
@[simp] theorem nils_tup' {cs:List AV}:qn (.tup cs)=false:=rfl
@[simp] theorem nils_ifc {T:TypeId}:qn (.ifc T x)=false:=rfl
@[simp] theorem nils_fn {F:Fn} {xs ys:List AV}:qn (.fn F xs ys)=false:=rfl
@[simp] theorem nils_bot:qn .bot=false:=rfl
@[simp] theorem snm_sc {v:Value}:sNm (.sc v)=none:=rfl
@[simp] theorem snm_sl {z:Nat} {rows:List (List AV)}:sNm (.sl z rows)=none:=rfl
@[simp] theorem snm_hs {z lo len:Nat}:sNm (.hs (.s t) z lo len)=some (.s t):=rfl
@[simp] theorem snm_hc {z lo len:Nat}:sNm (.hs (.c q i j) z lo len)=none:=rfl
@[simp] theorem snm_hu {z lo len:Nat}:sNm (.hs (.u k i j) z lo len)=none:=rfl
@[simp] theorem snm_pt {off:Nat}:sNm (.pt (.s t) off)=some (.s t):=rfl
@[simp] theorem snm_pc {off:Nat}:sNm (.pt (.c q i j) off)=none:=rfl
@[simp] theorem snm_pu {off:Nat}:sNm (.pt (.u k i j) off)=none:=rfl
@[simp] theorem snm_mp:sNm (.mp (.s t))=some (.s t):=rfl
@[simp] theorem snm_mc:sNm (.mp (.c q i j))=none:=rfl
@[simp] theorem snm_mu:sNm (.mp (.u k i j))=none:=rfl
@[simp] theorem snm_el {row:List AV} {off:Nat}:sNm (.el row off)=none:=rfl
@[simp] theorem snm_ep {z i off:Nat}:sNm (.ep n z i off)=none:=rfl
@[simp] theorem snm_agg {cs:List AV}:sNm (.agg cs)=none:=rfl
@[simp] theorem snm_tup {cs:List AV}:sNm (.tup cs)=none:=rfl
@[simp] theorem snm_ifc {T:TypeId}:sNm (.ifc T x)=none:=rfl
@[simp] theorem snm_fn {F:Fn} {xs ys:List AV}:sNm (.fn F xs ys)=none:=rfl
@[simp] theorem snm_bot:sNm .bot=none:=rfl
@[simp] theorem one_int {k:IntKind} {n:Int}:(AV.sc (.int k n)).one=true:=rfl
@[simp] theorem one_bool {b:Bool}:(AV.sc (.bool b)).one=true:=rfl
@[simp] theorem one_str {b:ByteArray}:(AV.sc (.string b)).one=true:=rfl
@[simp] theorem one_ptr {p:Option Addr}:(AV.sc (.pointer p)).one=true:=rfl
@[simp] theorem one_ifn:(AV.sc .nilIface).one=true:=rfl
@[simp] theorem one_nil {p:Option Addr} {n c:Nat}:(AV.sc (.slice p n c)).one=true:=rfl
@[simp] theorem one_sl {z:Nat} {rows:List (List AV)}:(AV.sl z rows).one=true:=rfl
@[simp] theorem one_hs {z lo len:Nat}:(AV.hs n z lo len).one=true:=rfl
@[simp] theorem one_el {row:List AV} {off:Nat}:(AV.el row off).one=true:=rfl
@[simp] theorem one_pt {off:Nat}:(AV.pt n off).one=true:=rfl
@[simp] theorem one_ep {z i off:Nat}:(AV.ep n z i off).one=true:=rfl
@[simp] theorem one_mp:(AV.mp n).one=true:=rfl
@[simp] theorem one_ifc {T:TypeId}:(AV.ifc T x).one=true:=rfl
@[simp] theorem cells_agg {cs:List AV}:(AV.agg cs).cells=if cs.all AV.one then some cs else none:=rfl
@[simp] theorem cells_sc {v:Value}:(AV.sc v).cells=if (AV.sc v).one then some [.sc v] else none:=rfl
@[simp] theorem cells_sl {z:Nat} {rows:List (List AV)}:(AV.sl z rows).cells=some [.sl z rows]:=rfl
@[simp] theorem cells_hs {z lo len:Nat}:(AV.hs n z lo len).cells=some [.hs n z lo len]:=rfl
@[simp] theorem cells_el {row:List AV} {off:Nat}:(AV.el row off).cells=some [.el row off]:=rfl
@[simp] theorem cells_pt {off:Nat}:(AV.pt n off).cells=some [.pt n off]:=rfl
@[simp] theorem cells_ep {z i off:Nat}:(AV.ep n z i off).cells=some [.ep n z i off]:=rfl
@[simp] theorem cells_mp:(AV.mp n).cells=some [.mp n]:=rfl
@[simp] theorem cells_ifc {T:TypeId}:(AV.ifc T x).cells=some [.ifc T x]:=rfl
@[simp] theorem cln_sc {v:Value}:(AV.sc v).cln=true:=rfl
@[simp] theorem cln_hs {z lo len:Nat}:(AV.hs n z lo len).cln=true:=rfl
@[simp] theorem cln_pt {off:Nat}:(AV.pt n off).cln=true:=rfl
@[simp] theorem cln_agg {cs:List AV}:(AV.agg cs).cln=cs.all AV.cln:=by simp [AV.cln,qCu]
@[simp] theorem cln_tup {cs:List AV}:(AV.tup cs).cln=cs.all AV.cln:=by simp [AV.cln,qCu]
@[simp] theorem cln_ifc {T:TypeId}:(AV.ifc T x).cln=x.cln:=rfl
section
variable {ty:TypeId} {pos:String} {aft:Array Edge} {g:Option (Nat×Bool)} {T U A:TypeId} {y c i:Operand} {dst:Option Nat}
variable {x:Operand}
@[simp] theorem ev_tmp:ev st (.tmp t)=st.tm t:=rfl
@[simp] theorem ev_const {v:Value}:ev st (.const v)=.sc v:=rfl
@[simp] theorem ev_func {F:FuncId}:ev st (.func F)=.sc (.func (.func F) #[] #[]):=rfl
@[simp] theorem ev_global {G:Nat}:ev st (.global G)=match st.gl G with|some row=>.el row 0|none=>.bot:=rfl
@[simp] theorem qev_move:qev P st ⟨dst,.move x,ty,pos,aft,g⟩=some (ev st x):=rfl
@[simp] theorem qev_pick:qev P st ⟨dst,.pick c x y,ty,pos,aft,g⟩=qA0 (ev st c) (ev st x) (ev st y):=rfl
@[simp] theorem qev_load:qev P st ⟨dst,.load T x,ty,pos,aft,g⟩=(cellsAt st (ev st x)).bind (fun p=>qIj P T p.1 p.2):=rfl
@[simp] theorem qev_nilCheck:qev P st ⟨dst,.nilCheck x,ty,pos,aft,g⟩=qH4 (ev st x):=rfl
@[simp] theorem qev_binOp {op:BinOp}:qev P st ⟨dst,.binOp op T x y U,ty,pos,aft,g⟩=wz P T op (match y with|.const _=>true|_=>false) (ev st x) (ev st y):=rfl
@[simp] theorem qev_unOp {op:UnOp}:qev P st ⟨dst,.unOp op T x,ty,pos,aft,g⟩=qRw op (ev st x):=rfl
@[simp] theorem qev_convert {S:TypeId}:qev P st ⟨dst,.convert S T x,ty,pos,aft,g⟩=qMA P S T (ev st x):=rfl
@[simp] theorem qev_mki:qev P st ⟨dst,.makeInterface T x,ty,pos,aft,g⟩=qLP P T (ev st x):=rfl
@[simp] theorem qev_slice {lo hi:Option Operand}:qev P st ⟨dst,.slice T x lo hi none,ty,pos,aft,g⟩=(qA1 (lo.map (ev st))).bind fun l=>(qA1 (hi.map (ev st))).bind fun h=>qCH P T st.hp (ev st x) (l.map (·.2)) (h.map (·.2)):=rfl
@[simp] theorem qev_fieldAddr {F:Nat}:qev P st ⟨dst,.fieldAddr T x F,ty,pos,aft,g⟩=wn P T F (ev st x):=rfl
@[simp] theorem qev_field {F:Nat}:qev P st ⟨dst,.field T x F,ty,pos,aft,g⟩=qJu P T F (ev st x):=rfl
@[simp] theorem qev_indexAddr:qev P st ⟨dst,.indexAddr T x i,ty,pos,aft,g⟩=match ev st i with|.sc (.int _ n)=>qCk P T (ev st x) n|_=>none:=rfl
@[simp] theorem qev_index:qev P st ⟨dst,.index T x i,ty,pos,aft,g⟩=match ev st i with|.sc (.int _ n)=>qJp P T (ev st x) n|_=>none:=rfl
@[simp] theorem qev_extract {F:Nat}:qev P st ⟨dst,.extract x F,ty,pos,aft,g⟩=qLv F (ev st x):=rfl
@[simp] theorem qev_build {parts:Array (Nat×Operand)}:qev P st ⟨dst,.build T parts,ty,pos,aft,g⟩=qHk P T (parts.toList.map (fun p=>(p.1,ev st p.2))):=rfl
@[simp] theorem qev_tas:qev P st ⟨dst,.typeAssert x T A true,ty,pos,aft,g⟩=qF7 P A (ev st x):=rfl
@[simp] theorem qev_tas1:qev P st ⟨dst,.typeAssert x T A false,ty,pos,aft,g⟩=qVU P A (ev st x):=rfl
@[simp] theorem qev_makeFunc {F:Fn} {xs ys:Array Operand}:qev P st ⟨dst,.makeFunc F xs ys,ty,pos,aft,g⟩=some (.fn F (xs.toList.map (ev st)) (ys.toList.map (ev st))):=rfl
@[simp] theorem qev_lookup {ok:Bool}:qev P st ⟨dst,.lookup T x i ok,ty,pos,aft,g⟩=qOW P T st.hp (ev st x) (ev st i) ok:=rfl
@[simp] theorem qev_len:qev P st ⟨dst,.call ⟨.builtin .len,#[x],#[T]⟩,ty,pos,aft,g⟩=qEj P T st.hp (ev st x):=rfl
end
section
variable {T U A:TypeId} {cy:Bool} {op:BinOp} {xi yi:Int} {kd:IntKind}
@[simp] theorem bin_int:wz P T op cy (.sc (.int kd xi)) (.sc (.int kd yi))=wH kd op xi yi:=by simp [wz]
@[simp] theorem bin_str {s u:ByteArray}:wz P T op cy (.sc (.string s)) (.sc (.string u))=qHC op s u:=rfl
@[simp] theorem bin_bool {s u:Bool}:wz P T op cy (.sc (.bool s)) (.sc (.bool u))=if qNb P T then uK op (s==u) else none:=rfl
@[simp] theorem bin_agg {xs ys:List AV}:wz P T op cy (.agg xs) (.agg ys)=match qKW P T with
  | some n=>if xs.length=n then (eqL xs ys).bind (uK op) else none
  | none=>none:=rfl
@[simp] theorem bin_pt {off:Nat}:wz P T op cy (.pt n off) (.sc (.pointer none))=if qBf P T then uK op false else none:=rfl
@[simp] theorem bin_el {row:List AV} {off:Nat}:wz P T op cy (.el row off) (.sc (.pointer none))=if qBf P T then uK op false else none:=rfl
@[simp] theorem bin_ep {z i off:Nat}:wz P T op cy (.ep n z i off) (.sc (.pointer none))=if qBf P T then uK op false else none:=rfl
@[simp] theorem bin_nn:wz P T op cy (.sc (.pointer none)) (.sc (.pointer none))=if qBf P T then uK op true else none:=rfl
@[simp] theorem bin_ifc {t:TypeId}:wz P T op cy (.ifc t x) (.sc .nilIface)=if qP1 P T then uK op false else none:=rfl
@[simp] theorem bin_ifn:wz P T op cy (.sc .nilIface) (.sc .nilIface)=if qP1 P T&&cy then uK op true else none:=rfl
@[simp] theorem ptr_eql {r:Bool}:uK .eql r=some (.sc (.bool r)):=rfl
@[simp] theorem ptr_neq {r:Bool}:uK .neq r=some (.sc (.bool (!r))):=rfl
@[simp] theorem eqL_nil:eqL [] []=some true:=rfl
@[simp] theorem eqL_cons' {xs ys:List AV}:eqL (.sc (.int .i64 xi)::xs) (.sc (.int .i64 yi)::ys)=(eqL xs ys).map (fun r=>(xi==yi)&&r):=rfl
@[simp] theorem int_add:wH kd .add xi yi=some (.sc (.int kd (kd.wrap (xi+yi)))):=rfl
@[simp] theorem int_sub:wH kd .sub xi yi=some (.sc (.int kd (kd.wrap (xi - yi)))):=rfl
@[simp] theorem int_mul:wH kd .mul xi yi=some (.sc (.int kd (kd.wrap (xi * yi)))):=rfl
@[simp] theorem int_quo:wH kd .quo xi yi=if yi=0 then none else some (.sc (.int kd (kd.wrap (xi.tdiv yi)))):=rfl
@[simp] theorem int_rem:wH kd .rem xi yi=if yi=0 then none else some (.sc (.int kd (xi.tmod yi))):=rfl
@[simp] theorem int_eql:wH kd .eql xi yi=some (.sc (.bool (xi==yi))):=rfl
@[simp] theorem int_neq:wH kd .neq xi yi=some (.sc (.bool (xi != yi))):=rfl
@[simp] theorem int_lss:wH kd .lss xi yi=some (.sc (.bool (decide (xi<yi)))):=rfl
@[simp] theorem int_leq:wH kd .leq xi yi=some (.sc (.bool (decide (xi≤yi)))):=rfl
@[simp] theorem int_gtr:wH kd .gtr xi yi=some (.sc (.bool (decide (xi > yi)))):=rfl
@[simp] theorem int_geq:wH kd .geq xi yi=some (.sc (.bool (decide (xi≥yi)))):=rfl
@[simp] theorem str_add {s u:ByteArray}:qHC .add s u=if s.size+u.size≤9223372036854775807 then some (.sc (.string (s++u))) else none:=rfl
@[simp] theorem str_eql {s u:ByteArray}:qHC .eql s u=some (.sc (.bool (s.toList==u.toList))):=rfl
@[simp] theorem str_neq {s u:ByteArray}:qHC .neq s u=some (.sc (.bool (!(s.toList==u.toList)))):=rfl
@[simp] theorem un_not {b:Bool}:qRw .not (.sc (.bool b))=some (.sc (.bool (!b))):=rfl
@[simp] theorem un_neg:qRw .neg (.sc (.int kd xi))=some (.sc (.int kd (kd.wrap (-xi)))):=rfl
@[simp] theorem pick_bb {t p q:Bool}:qA0 (.sc (.bool t)) (.sc (.bool p)) (.sc (.bool q))=some (.sc (.bool (bif t then p else q))):=rfl
@[simp] theorem pick_ii {t:Bool} {k':IntKind}:qA0 (.sc (.bool t)) (.sc (.int kd xi)) (.sc (.int k' yi))=some (bif t then .sc (.int kd xi) else .sc (.int k' yi)):=rfl
@[simp] theorem pick_u1 {t:Bool} {y:AV}:qA0 (.sc (.bool t)) (.sc undef) y=some (bif t then .sc undef else y):=rfl
@[simp] theorem pick_u2 {t:Bool} {p:Bool}:qA0 (.sc (.bool t)) (.sc (.bool p)) (.sc undef)=some (bif t then .sc (.bool p) else .sc undef):=rfl
@[simp] theorem pick_u3 {t:Bool} {k':IntKind}:qA0 (.sc (.bool t)) (.sc (.int k' xi)) (.sc undef)=some (bif t then .sc (.int k' xi) else .sc undef):=rfl
@[simp] theorem len_sl {hp:Nm→Option AO} {z:Nat} {rows:List (List AV)}:qEj P T hp (.sl z rows)=if jx P T then some (.sc (.int .i64 rows.length)) else none:=rfl
@[simp] theorem len_hs {hp:Nm→Option AO} {z lo len:Nat}:qEj P T hp (.hs n z lo len)=if jx P T then some (.sc (.int .i64 len)) else none:=rfl
@[simp] theorem len_nil {hp:Nm→Option AO}:qEj P T hp (.sc (.slice none 0 0))=if jx P T then some (.sc (.int .i64 0)) else none:=rfl
@[simp] theorem len_str {hp:Nm→Option AO} {s:ByteArray}:qEj P T hp (.sc (.string s))=if qPQ P T then some (.sc (.int .i64 s.size)) else none:=rfl
@[simp] theorem len_mp {hp:Nm→Option AO}:qEj P T hp (.mp n)=if qWS P T then (match hp n with|some (.map es)=>some (.sc (.int .i64 es.length))|_=>none) else none:=rfl
@[simp] theorem ext_tup {i:Nat} {l:List AV}:qLv i (.tup l)=l[i]?:=rfl
@[simp] theorem field_pt {F off:Nat}:wn P T F (.pt n off)=(tfo P T F).map (fun p=>.pt n (off+p.1)):=rfl
@[simp] theorem field_el {F off:Nat} {row:List AV}:wn P T F (.el row off)=(tfo P T F).map (fun p=>.el row (off+p.1)):=rfl
@[simp] theorem field_ep {F z i off:Nat}:wn P T F (.ep n z i off)=(tfo P T F).map (fun p=>.ep n z i (off+p.1)):=rfl
@[simp] theorem fld_agg {F:Nat} {cs:List AV}:qJu P T F (.agg cs)=match tfo P T F with|some (o,e)=>qIj P e cs o|none=>none:=rfl
@[simp] theorem getC_eq {cs:List AV} {off:Nat}:qIj P T cs off=match uF P T with
  | some true=>if off+tsz P T≤cs.length then some (.agg ((cs.drop off).take (tsz P T))) else none
  | some false=>cs[off]?
  | none=>none:=rfl
@[simp] theorem index_eq:qCk P T x xi=match tel P T with
  | some e=>match x with
   | .sl z rows=>if z=tsz P e∧0≤xi then (rows[xi.toNat]?).map (fun r=>.el r 0) else none
   | .hs m z lo len=>if z=tsz P e∧0≤xi∧xi<len then some (.ep m z (lo+xi.toNat) 0) else none
   | _=>none
  | none=>match qKJ P T with
   | some (len,e)=>if 0≤xi∧xi<len then (match x with
    | .pt m off=>some (.pt m (off+xi.toNat * tsz P e))
    | .el row off=>some (.el row (off+xi.toNat * tsz P e))
    | .ep m z i off=>some (.ep m z i (off+xi.toNat * tsz P e))
    | _=>none) else none
   | none=>none:=rfl
@[simp] theorem idx_agg {cs:List AV}:qJp P T (.agg cs) xi=match qKJ P T with
  | some (len,e)=>if 0≤xi∧xi<len then qIj P e cs (xi.toNat * tsz P e) else none
  | none=>none:=rfl
@[simp] theorem idx_str {s:ByteArray}:qJp P T (.sc (.string s)) xi=if qPQ P T∧0≤xi then (s.data.toList[xi.toNat]?).map (fun b=>.sc (.int .u8 b.toNat)) else none:=rfl
@[simp] theorem cells_at_pt {off:Nat}:cellsAt st (.pt n off)=match st.hp n with
  | some (.row _ (r::_))=>some (r,off)
  | _=>none:=rfl
@[simp] theorem cells_at_el {row:List AV} {off:Nat}:cellsAt st (.el row off)=some (row,off):=rfl
@[simp] theorem cells_at_ep {z i off:Nat}:cellsAt st (.ep n z i off)=match st.hp n with
  | some (.row z' rows)=>if z'=z then (rows[i]?).map (fun r=>(r,off)) else none
  | _=>none:=rfl
@[simp] theorem mki_eq:qLP P T x=if j6 P T=some false then some (.ifc T x) else none:=rfl
@[simp] theorem tas_ifc {t:TypeId}:qF7 P A (.ifc t x)=if j6 P A=some false then (if t=A then some (.tup [x,.sc (.bool true)]) else (kE P A).map (fun z=>.tup [z,.sc (.bool false)])) else none:=rfl
@[simp] theorem tas_nil:qF7 P A (.sc .nilIface)=if j6 P A=some false then (kE P A).map (fun z=>.tup [z,.sc (.bool false)]) else none:=rfl
@[simp] theorem cnv_int:qMA P T A (.sc (.int kd xi))=match qVT P A,P.underlying T with|some k,some (.int _)=>some (.sc (.int k (k.wrap xi)))|_,_=>none:=rfl
@[simp] theorem bld_eq {parts:List (Nat×AV)}:qHk P T parts=if y6 P T then
  match ji P T with
  | some z=>(qEy P T (z.map .sc) parts).map .agg
  | none=>none
 else none:=rfl
@[simp] theorem fill_nil {cs:List AV}:qEy P T cs []=some cs:=rfl
@[simp] theorem fill_cons {cs:List AV} {i:Nat} {rest:List (Nat×AV)}:qEy P T cs ((i,x)::rest)=match tfo P T i,x.cells with
  | some (o,e),some ds=>if ds.length=tsz P e∧o+ds.length≤cs.length then qEy P T (cs.take o++ds++cs.drop (o+ds.length)) rest else none
  | _,_=>none:=rfl
@[simp] theorem nil_pt {off:Nat}:qH4 (.pt n off)=some (.pt n off):=rfl
@[simp] theorem nil_el {row:List AV} {off:Nat}:qH4 (.el row off)=some (.el row off):=rfl
@[simp] theorem nil_ep {z i off:Nat}:qH4 (.ep n z i off)=some (.ep n z i off):=rfl
@[simp] theorem nil_fn {F:FuncId} {xs ys:List AV}:qH4 (.fn (.func F) xs ys)=some (.fn (.func F) xs ys):=rfl
@[simp] theorem pl_pt {off:Nat}:pl (.pt n off)=some (n,0,off):=rfl
@[simp] theorem pl_ep {z i off:Nat}:pl (.ep n z i off)=some (n,i,off):=rfl
@[simp] theorem ra_pt {off:Nat}:wO st (.pt n off)=match st.hp n with|some (.row z rows)=>some (z,rows)|_=>none:=rfl
@[simp] theorem ra_ep {z i off:Nat}:wO st (.ep n z i off)=match st.hp n with|some (.row z' rows)=>if z'=z then some (z,rows) else none|_=>none:=rfl
@[simp] theorem src_sl {z z':Nat} {rows:List (List AV)}:yD st z (.sl z' rows)=if z'=z then some rows else none:=rfl
@[simp] theorem src_nil {z:Nat}:yD st z (.sc (.slice none 0 0))=some []:=rfl
@[simp] theorem src_hs {z z' lo len:Nat}:yD st z (.hs n z' lo len)=match st.hp n with
  | some (.row z'' rows)=>if z'=z∧z''=z∧lo+len≤rows.length then some ((rows.drop lo).take len) else none
  | _=>none:=rfl
@[simp] theorem optInt_none:qA1 none=some none:=rfl
@[simp] theorem optInt_some:qA1 (some (.sc (.int kd xi)))=some (some (kd,xi)):=rfl
end
end
theorem qV.of_sem {P:Program} {gl:Nat→Option (List AV)} {f:FuncId} {az:List AV} {R:Nm→AV→(Nm→Option AO)→Prop} {fn:Func} {c:Code} {rs:List ResultVar} {n:Nat}
  (hf:P.funcs[f]?=some fn) (hb:fn.body=some c) (hname:(fn.name == "runtime.NumGoroutine")=false) (hrs:fn.results.toList=rs) (hn:fn.ntmps=n) (hle:az.length≤n)
  (h:∀ C w g root,qW (un P C w g noH n gl) c (qGa P noD root rs R noE) (st0 az noH n gl)):qV P gl f az R :=
 FnE.of_sem hf hb hname hrs hn hle (fun _ h=>by cases h) (fun C w g root _=>h C w g root)
def qJ (xs:List Int):List (List AV):=xs.map (fun n=>[iv n])
@[simp] theorem irows_len {xs:List Int}:(qJ xs).length=xs.length:=by simp [qJ]
@[simp] theorem irows_get {xs:List Int} {i:Nat}:(qJ xs)[i]?=(xs[i]?).map (fun n=>[iv n]):=by simp [qJ]
@[simp] theorem irows_getE {xs:List Int} {i:Nat} {h:i<(qJ xs).length}:(qJ xs)[i]=[iv (xs[i]'(by simpa using h))]:=by simp [qJ]
@[simp] theorem irows_tr {xs:List Int} {f:Nm→Option Nm}:(qJ xs).map (fun r=>r.map (AV.tr f))=qJ xs:=by simp [qJ]
@[simp] theorem irows_take {xs:List Int} {i:Nat}:(qJ xs).take i=qJ (xs.take i):=by simp [qJ]
@[simp] theorem irows_app {xs ys:List Int}:qJ xs++qJ ys=qJ (xs++ys):=by simp [qJ]
@[simp] theorem irows_app1 {xs:List Int} {n:Int}:qJ xs++[[.sc (.int .i64 n)]]=qJ (xs++[n]):=by simp [qJ]
@[simp] theorem irows_nil:qJ []=[]:=rfl
@[simp] theorem irows_cln {xs:List Int}:(qJ xs).all (fun r=>r.all AV.cln)=true:=by simp [qJ]
theorem qLe {xs:List Int}:∀ r∈qJ xs,r.length=1:=by simp [qJ]
abbrev isl (xs:List Int):AV:=.sl 1 (qJ xs)
theorem ur {hp:Nm→Option AO} {n:Nm} {z len:Nat} {rows:List (List AV)} (hn:hp n=some (.row z rows)) (hl:len=rows.length) (hz:∀ r∈rows,r.length=z):Bw hp noD (.hs n z 0 len) (.sl z rows):=by
 refine .hs n z 0 len rows rows rfl hn (by omega) hl.symm hz fun i r r' hr hr' j a a' ha ha'=>?_
 rw [Nat.zero_add] at hr
 rw [hr] at hr'
 obtain rfl:=sI hr'
 rw [ha] at ha'
 obtain rfl:=sI ha'
 exact .refl _
theorem yw {hp:Nm→Option AO} {n:Nm} {len:Nat} {xs:List Int} (hn:hp n=some (.row 1 (qJ xs))) (hl:len=xs.length):Bw hp noD (.hs n 1 0 len) (isl xs):=ur hn (by simp [hl]) qLe
structure Stm where
 kind:Int
 to:Int
 a:Int
 b:Int
 deriving DecidableEq,Inhabited
abbrev Stm.cells (s:Stm):List AV:=[iv s.kind,iv s.to,iv s.a,iv s.b]
abbrev Stm.av (s:Stm):AV:=.agg s.cells
def zb (ss:List Stm):List (List AV):=ss.map Stm.cells
section
variable {ss tt:List Stm} {s:Stm} {i:Nat} {f:Nm→Option Nm}
@[simp] theorem srows_len:(zb ss).length=ss.length:=by simp [zb]
@[simp] theorem srows_get:(zb ss)[i]?=(ss[i]?).map Stm.cells:=by simp [zb]
@[simp] theorem srows_getE {h:i<(zb ss).length}:(zb ss)[i]=(ss[i]'(by simpa using h)).cells:=by simp [zb]
@[simp] theorem srows_tr:(zb ss).map (fun r=>r.map (AV.tr f))=zb ss:=by simp [zb]
@[simp] theorem srows_take:(zb ss).take i=zb (ss.take i):=by simp [zb]
@[simp] theorem srows_drop:(zb ss).drop i=zb (ss.drop i):=by simp [zb]
@[simp] theorem srows_app:zb ss++zb tt=zb (ss++tt):=by simp [zb]
theorem v5:zb ss++[s.cells]=zb (ss++[s]):=by simp [zb]
@[simp] theorem srows_nil:zb []=[]:=rfl
@[simp] theorem srows_cln:(zb ss).all (fun r=>r.all AV.cln)=true:=by simp [zb]
theorem qK7:∀ r∈zb ss,r.length=4:=by simp [zb]
abbrev ssl (ss:List Stm):AV:=.sl 4 (zb ss)
theorem qFI {hp:Nm→Option AO} {n:Nm} {len:Nat} (hn:hp n=some (.row 4 (zb ss))) (hl:len=ss.length):Bw hp noD (.hs n 4 0 len) (ssl ss):=ur hn (by simp [hl]) qK7
end
structure Blk where
 kind:Int
 parent:Int
 params:List Int
 body:List Stm
 deriving DecidableEq,Inhabited
abbrev Blk.cells (k:Blk):List AV:=[iv k.kind,iv k.parent,isl k.params,ssl k.body]
abbrev Blk.av (k:Blk):AV:=.agg k.cells
def qBD (ks:List Blk):List (List AV):=ks.map Blk.cells
abbrev Prg:=List Blk
section
variable {ks ls:List Blk} {k:Blk} {i:Nat} {f:Nm→Option Nm}
@[simp] theorem krows_len:(qBD ks).length=ks.length:=by simp [qBD]
@[simp] theorem qLc:(qBD ks)[i]?=(ks[i]?).map Blk.cells:=by simp [qBD]
@[simp] theorem krows_getE {h:i<(qBD ks).length}:(qBD ks)[i]=(ks[i]'(by simpa using h)).cells:=by simp [qBD]
@[simp] theorem krows_tr:(qBD ks).map (fun r=>r.map (AV.tr f))=qBD ks:=by simp [qBD]
abbrev ksl (ks:List Blk):AV:=.sl 4 (qBD ks)
abbrev pav (p:Prg):AV:=.agg [ksl p]
end
def qm (xs:List Int) (x:Int):Int:=match xs.findIdx? (·==x) with|some i=>i|none=>-1
theorem ze {xs:List Int} {x:Int}:0≤qm xs x↔x∈xs:=by
 unfold qm
 cases h:xs.findIdx? (·==x) with
 | none =>
  rw [List.findIdx?_eq_none_iff] at h
  simp only [beq_eq_false_iff_ne,ne_eq] at h
  refine⟨fun hh=>by simp at hh,fun hm=>absurd rfl (h x hm)⟩
 | some i =>
  obtain⟨h1,h2,_⟩:=List.findIdx?_eq_some_iff_getElem.1 h
  refine⟨fun _=>?_,fun _=>by simp only [];omega⟩
  have:xs[i]=x:=by simpa using h2
  rw [← this]
  exact List.getElem_mem h1
def qv (xs:List Int):Nat→List Int
 | 0=>[]
 | n+1=>if (n:Int)∈xs then qv xs n++[(n:Int)] else qv xs n
def sorted (xs:List Int):List Int:=qv xs 8
theorem ka {xs:List Int} {x:Int}:∀ n:Nat,x∈qv xs n↔x∈xs∧0≤x∧x<n
 | 0=>by
  simp only [qv,List.not_mem_nil,false_iff]
  omega
 | n+1=>by
  simp only [qv]
  split
  ·rename_i h
   simp only [List.mem_append,ka n,List.mem_singleton]
   constructor
   ·rintro (h|rfl)
    ·exact⟨h.1,h.2.1,by omega⟩
    ·exact⟨h,by omega,by omega⟩
   ·rintro⟨h1,h2,h3⟩
    by_cases e:x=n
    ·exact .inr e
    ·exact .inl ⟨h1,h2,by omega⟩
  ·rename_i h
   rw [ka n]
   constructor
   ·rintro⟨h1,h2,h3⟩;exact⟨h1,h2,by omega⟩
   ·rintro⟨h1,h2,h3⟩
    refine⟨h1,h2,?_⟩
    have:x≠n:=fun e=>h (e ▸ h1)
    omega
theorem mem_sorted {xs:List Int} {x:Int}:x∈sorted xs↔x∈xs∧0≤x∧x≤7:=by
 rw [sorted,ka]
 exact⟨fun h=>⟨h.1,h.2.1,by omega⟩,fun h=>⟨h.1,h.2.1,by omega⟩⟩
theorem kL {xs:List Int}:∀ n:Nat,(qv xs n).length≤n
 | 0=>by simp [qv]
 | n+1=>by
  have:=kL (xs:=xs) n
  simp only [qv]
  split <;> simp <;> omega
theorem v6 {xs:List Int}:(sorted xs).length≤8:=kL 8
def Stm.reads (s:Stm):List Int :=
 if s.kind=1∨s.kind=6∨s.kind=7∨s.kind=8 then [s.a] else if s.kind=2 then [s.a,s.b] else if s.kind=5 then (if s.b=-1 then [s.a] else [s.a,s.b]) else []
theorem Stm.reads_len (s:Stm):s.reads.length≤2:=by
 unfold Stm.reads
 repeat' split
 all_goals simp
abbrev Stm.sets (s:Stm):Prop:=0≤s.kind∧s.kind≤6
def zq (ss:List Stm):List Int:=ss.flatMap Stm.reads
def uv (k:Blk):List Int:=k.params++(k.body.filter (fun s=>decide (s.sets∨s.kind=11))).map Stm.to
def kj (k:Blk) (d:Int):List Int:=(k.body.filter (fun s=>decide (s.kind=d))).map Stm.to
theorem qFs (ss:List Stm):(zq ss).length≤2 * ss.length:=by
 induction ss with
 | nil=>simp [zq]
 | cons s l ih =>
  have:=s.reads_len
  simp only [zq,List.flatMap_cons,List.length_append,List.length_cons] at ih ⊢
  omega
structure Sml (p:Prg):Prop where
 len:p.length≤1048576
 params:∀ k∈p,k.params.length≤1048576
 body:∀ k∈p,k.body.length≤1048576
end Go.Hm
end
section
namespace Go.Hm
open Go Go.RowKit
structure BSm (k:Blk):Prop where
 params:k.params.length≤1048576
 body:k.body.length≤1048576
theorem Sml.bsm {p:Prg} (h:Sml p) {b:Nat} {k:Blk} (hk:p[b]?=some k):BSm k:=⟨h.params k (gM hk),h.body k (gM hk)⟩
def Blk.rd (k:Blk):List Int:=sorted (zq k.body)
def Blk.bd (k:Blk):List Int:=sorted (uv k)
def Blk.dc (k:Blk) (d:Int):List Int:=sorted (kj k d)
theorem Blk.rd_len (k:Blk):k.rd.length≤8:=v6
theorem Blk.bd_len (k:Blk):k.bd.length≤8:=v6
theorem Blk.dc_len (k:Blk) (d:Int):(k.dc d).length≤8:=v6
def zZ (b:Nat) (k:Blk) (x:Int):Bool:=decide (0<b)&&decide (x∈k.bd)&&!decide (x∈k.dc 9)&&!decide (x∈k.dc 10)
def z6 (p:Prg):Prop:=∀ (i:Nat) (q:Blk),p[i]?=some q → -1≤q.parent∧q.parent<i∧(0<i→0≤q.parent)
def zF (p:Prg) (x:Int):Nat→Int→Int
 | 0,_=>-1
 | n+1,j=>if j≤0 then -1 else match p[j.toNat]? with
  | none=>-1
  | some q=>if q.kind≠1 then zF p x n q.parent else if x∈q.dc 9 then -1 else if zZ j.toNat q x then j else zF p x n q.parent
theorem wh {p:Prg} {x:Int} (hp:z6 p):∀ (n m:Nat) (j:Int),j≤n→j≤m→zF p x n j=zF p x m j
 | 0,0,_,_,_=>rfl
 | 0,m+1,j,h,_=>by simp only [zF];rw [if_pos (by omega)]
 | n+1,0,j,_,h=>by simp only [zF];rw [if_pos (by omega)]
 | n+1,m+1,j,h1,h2=>by
  simp only [zF]
  split
  ·rfl
  ·rename_i hj
   split
   ·rfl
   ·rename_i q hq
    obtain⟨h3,h4,_⟩:=hp j.toNat q hq
    rw [wh hp n m q.parent (by omega) (by omega)]
def outer (p:Prg) (b:Nat) (x:Int):Int:=match p[b]? with
 | some k=>zF p x b k.parent
 | none=>-1
def qz (p:Prg) (b:Nat) (x:Int):Int:=match p[b]? with
 | some k=>if b=0∨x∈k.dc 9 then -1 else if zZ b k x then b else outer p b x
 | none=>-1
def vF (p:Prg) (b:Nat) (j kind:Int):Bool:=decide ((b:Int)+1≤j∧j≤(p.length:Int) - 1)&&match p[j.toNat]? with
 | some q=>(q.kind==kind)&&(q.parent==b)
 | none=>false
def qAz (s:Stm) (b:Int):Bool:=(s.kind==3||s.kind==4)&&s.a==b
def vQ (p:Prg) (b:Nat):Int:=match p[b]? with
 | some k=>match p[k.parent.toNat]? with
  | some q=>(q.body.filter (fun s=>qAz s b)).length
  | none=>0
 | none=>0
theorem qy {α:Type} {l:List α} {s:α} {i:Nat} {f:α→Bool} (h:l[i]?=some s):(l.take (i+1)).filter f=(l.take i).filter f++(if f s then [s] else []):=by
 rw [List.take_add_one,h]
 simp [List.filter_append,List.filter_cons]
theorem jv {p:Prg} {b:Nat} {k:Blk} {x:Int} (hp:z6 p) (hk:p[b]?=some k):outer p b x=zF p x p.length k.parent:=by
 simp only [outer,hk]
 obtain⟨h1,h2,_⟩:=hp b k hk
 have hb:b<p.length:=(gS hk).1
 exact wh hp _ _ _ (by omega) (by omega)
theorem j5 {p:Prg} {j:Nat} {q:Blk} {x:Int} (hp:z6 p) (hq:p[j]?=some q) (h0:0<j):zF p x p.length j=if q.kind≠1 then zF p x p.length q.parent else if x∈q.dc 9 then -1 else if zZ j q x then (j:Int) else zF p x p.length q.parent:=by
 have hb:j<p.length:=(gS hq).1
 obtain⟨h1,h2,_⟩:=hp j q hq
 obtain⟨n,hn⟩:∃ n,p.length=n+1:=⟨p.length - 1,by omega⟩
 have e:zF p x n q.parent=zF p x (n+1) q.parent:=wh hp _ _ _ (by omega) (by omega)
 rw [hn,← e]
 conv=>lhs;rw [zF]
 rw [if_neg (by omega)]
 simp [hq]
theorem yp {p:Prg} {j x:Int} (h:j≤0):∀ n,zF p x n j=-1
 | 0=>rfl
 | n+1=>by rw [zF,if_pos h]
abbrev jJ (b:Nat) (k:Blk):Prop:=if b=0 then k.kind=0∧k.parent=-1∧k.params.length=0 else
 1≤k.kind∧k.kind≤2∧0≤k.parent∧k.parent<b∧(k.params.length=0∨(k.params.length=1∧k.kind=1∧0≤k.params.headD 0∧k.params.headD 0≤7))
def vG (b:Nat) (k:Blk):Bool:=decide (jJ b k)
abbrev qM9 (x:Int):Bool:=decide (0≤x)&&decide (x≤7)
def zo (p:Prg) (i:Nat) (k:Blk) (s:Stm):Bool:=qM9 s.to&&s.reads.all qM9 &&
 (if s.kind=0 then decide (0≤s.a)&&decide (s.a≤99)&&s.b==0 else if s.kind=1 then s.b==0 else if s.kind=2∨s.kind=5 then true
 else if s.kind=3 then s.b==0&&vF p i s.a 1 else if s.kind=4 then s.b==0&&vF p i s.a 2 else if s.kind=6 then qM9 s.b
 else if s.kind=7 then s.to==0&&s.b==0 else if s.kind=8 then s.to==0&&s.b==0&&k.kind==1
 else if s.kind=9∨s.kind=10 then s.a==0&&s.b==0&&k.kind != 0 else if s.kind=11 then s.a==0&&s.b==0 else false)
def kC (p:Prg) (i:Nat):Bool:=match p[i]? with
 | some k=>vG i k&&decide (k.body.length≤12)&&k.body.all (zo p i k)
 | none=>false
def j2 (p:Prg):Bool:=(decide (1≤p.length)&&decide (p.length≤7))&&(List.range p.length).all (kC p)&&(List.range p.length).all (fun i=>i==0||vQ p i==1)
theorem jJ.head {b:Nat} {k:Blk} (h:jJ b k):-1≤k.parent∧k.parent<b∧(0<b→0≤k.parent):=by
 unfold jJ at h
 split at h
 ·rename_i e;subst e;omega
 ·rename_i e;omega
theorem qDn {p:Prg} {i:Nat} {k:Blk} (hk:p[i]?=some k) (h:kC p i=true):jJ i k∧k.body.length≤12∧k.body.all (zo p i k)=true:=by
 simp only [kC,vG,hk,Bool.and_eq_true,decide_eq_true_eq] at h
 exact⟨h.1.1,h.1.2,h.2⟩
theorem zw {f:Nat→Bool} {n:Nat}:(List.range (n+1)).all f=((List.range n).all f&&f n):=by
 rw [List.range_succ,List.all_append]
 simp
theorem qIg {p:Prg} (h:(List.range p.length).all (kC p)=true):z6 p:=by
 intro i q hq
 have hi:i<p.length:=(gS hq).1
 exact (qDn hq (List.all_eq_true.1 h i (List.mem_range.2 hi))).1.head
theorem j4 {f:Nat→Bool} {n i:Nat} (hi:i<n) (h:f i=false):(List.range n).all f=false:=by
 rw [Bool.eq_false_iff]
 intro e
 rw [List.all_eq_true.1 e i (List.mem_range.2 hi)] at h
 cases h
theorem qGr {α:Type} {f:α→Bool} {l:List α} {x:α} (hx:x∈l) (h:f x=false):l.all f=false:=by
 rw [Bool.eq_false_iff]
 intro e
 rw [List.all_eq_true.1 e x hx] at h
 cases h
def yk (p:Prg) (b:Nat) (k:Blk) (x:Int):Bool :=
 !(decide (x∈k.dc 9)&&(decide (x∈k.dc 10)||decide (x∈k.params))||decide (x∈k.dc 10)&&(decide (x∈k.params)||decide (outer p b x<0)))
def jt (p:Prg) (b:Nat):Bool:=match p[b]? with
 | some k=>(List.range 8).all (fun x=>yk p b k (x:Int))
 | none=>false
def jY (p:Prg):Bool:=j2 p&&(List.range p.length).all (fun b=>b==0||jt p b)
theorem qAN {p:Prg} (h:j2 p=true):z6 p∧1≤p.length∧p.length≤7∧(List.range p.length).all (kC p)=true∧∀ i,0<i→i<p.length→vQ p i=1:=by
 simp only [j2,Bool.and_eq_true,decide_eq_true_eq] at h
 obtain⟨⟨⟨h1,h2⟩,h3⟩,h4⟩:=h
 refine⟨qIg h3,h1,h2,h3,fun i hi hl=>?_⟩
 have:=List.all_eq_true.1 h4 i (List.mem_range.2 hl)
 simp at this
 omega
end Go.Hm
end
section
namespace Go.Hm
open Go Go.RowKit
def mvc (n0 n1 m:Nm):Option Nm:=if Nm.under n0 m&&decide (m≠n0) then some (Nm.ren n0 n1 m) else if Nm.under n1 m&&decide (m≠n1) then none else some m
theorem qLK {k0 k1 k k' x:Nm} (h:mvc k0 k1 k=some x) (h':mvc k0 k1 k'=some x):k=k':=by
 have img:∀ m,Nm.under k0 m=true→m≠k0→Nm.under k1 (Nm.ren k0 k1 m)=true∧Nm.ren k0 k1 m≠k1:=by
  intro m hu hne
  refine⟨Nm.under_ren m hu,fun e=>hne ?_⟩
  exact Nm.ren_inj m k0 hu (Nm.under_self k0) (by rw [e];simp)
 unfold mvc at h h'
 split at h
 ·rename_i u
  simp only [Bool.and_eq_true,decide_eq_true_eq] at u
  obtain rfl:=sI h
  split at h'
  ·rename_i u'
   simp only [Bool.and_eq_true,decide_eq_true_eq] at u'
   exact Nm.ren_inj _ _ u.1 u'.1 (sI h').symm
  ·split at h'
   ·cases h'
   ·rename_i u1
    obtain⟨x1,x2⟩:=img k u.1 u.2
    rw [sI h'] at u1
    exact absurd (by simp [x1,x2]) u1
 ·split at h
  ·cases h
  ·rename_i u1
   obtain rfl:=sI h
   split at h'
   ·rename_i u'
    simp only [Bool.and_eq_true,decide_eq_true_eq] at u'
    obtain⟨x1,x2⟩:=img k' u'.1 u'.2
    rw [← sI h'] at u1
    exact absurd (by simp [x1,x2]) u1
   ·split at h'
    ·cases h'
    ·exact (sI h').symm
def qYP (n0 n1:Nm) (hp:Nm→Option AO):Nm→Option AO:=fun m =>
 if Nm.under n1 m&&decide (m≠n1) then (if mvc n0 n1 (Nm.ren n1 n0 m)=some m then (hp (Nm.ren n1 n0 m)).map (AO.tr (mvc n0 n1)) else none)
 else if Nm.under n0 m&&decide (m≠n0) then none else (hp m).map (AO.tr (mvc n0 n1))
def St.mvc (n0 n1:Nm) (st:St):St:=st.nm (Hm.mvc n0 n1) (qYP n0 n1 st.hp)
section
variable {X:Ctx} {st:St} {a:Act} {w:World} {K:St→Prop} {E:AV→St→Prop}
theorem Rw.mvc (h:Rw X st a w) (n0 n1:Nm):Rw X (st.mvc n0 n1) a w:=by
 obtain⟨C,g,e1,e2,e3,e4,e5,hr⟩:=h
 refine⟨C,_,e1,e2,e3,e4,?_,hr.rename (f:=Hm.mvc n0 n1) (fun _ _ _=>qLK) (fun n' o' e=>?_)⟩
 ·intro k i j he
  have e:Hm.mvc n0 n1 (.u k i j)=some (.u k i j):=by
   have key:∀ n:Nm,(Nm.under n (.u k i j)&&decide (Nm.u k i j≠n))=false:=by
    intro n
    cases hn:Nm.under n (.u k i j) with
    | false=>rfl
    | true =>
     simp only [Nm.under,decide_eq_true_eq] at hn
     simp [hn]
   simp only [Hm.mvc,key,Bool.false_eq_true,if_false]
  obtain⟨x1,x2⟩:=Gh.tr_spec (g:=g) (fun _ _ _=>qLK) e
  obtain⟨y1,y2⟩:=e5 k i j he
  exact⟨x1.trans y1,x2.trans y2⟩
 ·unfold qYP at e
  split at e
  ·split at e
   ·rename_i hm
    obtain⟨o,e1,rfl⟩:=Option.map_eq_some_iff.1 e
    exact⟨_,o,hm,e1,rfl⟩
   ·cases e
  ·split at e
   ·cases e
   ·rename_i h1 h0
    obtain⟨o,e1,rfl⟩:=Option.map_eq_some_iff.1 e
    exact⟨n',o,by simp only [Hm.mvc];rw [if_neg h0,if_neg h1],e1,rfl⟩
def cNm:AV→Option Nm
 | .hs n _ _ _=>if n.isU then none else some n
 | .pt n _=>if n.isU then none else some n
 | .mp n=>if n.isU then none else some n
 | _=>none
def prc (key:Nat→Nm):Nat→List AV→List (Nm×Nm)
 | _,[]=>[]
 | j,x::l=>match cNm x with
  | some k=>(k,key j)::prc key (j+1) l
  | none=>prc key (j+1) l
def qNy (n:Nm):Nat→List (List AV)→List (Nm×Nm)
 | _,[]=>[]
 | i,r::l=>prc (fun j=>.c n i j) 0 r++qNy n (i+1) l
theorem qLA {n:Nm} (hn:n.isU=false) {i:Nat}:∀ (r:List AV) (j:Nat),qM8 (prc (fun j=>.c n i j) j r)
 | [],_=>by simp [prc,qM8]
 | x::l,j=>by
  simp only [prc]
  split
  ·rename_i k hk
   intro p hp
   rcases List.mem_cons.1 hp with rfl|hp
   ·refine⟨?_,rfl⟩
    unfold cNm at hk
    split at hk
    all_goals first|(cases hk;done)|skip
    all_goals
     split at hk
     ·cases hk
     ·rename_i hu
      obtain rfl:=sI hk
      simpa using hu
   ·exact qLA hn l (j+1) p hp
  ·exact qLA hn l (j+1)
theorem qLB {n:Nm} (hn:n.isU=false):∀ (rows:List (List AV)) (i:Nat),qM8 (qNy n i rows)
 | [],_=>by simp [qNy,qM8]
 | r::l,i=>by
  intro p hp
  rcases List.mem_append.1 hp with hp|hp
  ·exact qLA hn r 0 p hp
  ·exact qLB hn l (i+1) p hp
theorem Rw.canon:∀ {l:List (Nm×Nm)} {st:St},qM8 l→Rw X st a w→Rw X (canon l st) a w
 | [],_,_,h=>h
 | p::l,st,hp,h=>Rw.canon (l:=l) (fun q hq=>hp q (by simp [hq])) (h.move p.1 p.2 (.inl (hp p (by simp)).1) (.inl (hp p (by simp)).2))
theorem qK.post {o:Oper} {K':St→Prop} (h:qK X o K' E st) (hK:∀ s a w,Rw X s a w→K' s→∃ s',Rw X s' a w∧K s'):qK X o K E st:=by
 intro a w Q hR hE
 refine Oper.wp_mono ?_ (h a w Q hR hE)
 rintro a' w' ⟨s,h1,h2⟩
 exact hK s a' w' h1 h2
theorem qGO {T F:TypeId} {s x:Operand} {z len d:Nat} {n:Nm} {rows0 rows2:List (List AV)} {ty:TypeId} {pos:String} {aft:Array Edge} {g:Option (Nat×Bool)} {st':St} (hd:d<X.n) (hT:uw X.P T=some F) (hz:tsz X.P F=z) (hs:ev st s=.hs n z 0 len) (hn:st.hp n=some (.row z rows0)) (hle:len≤rows0.length)
  (hx:yD st z (ev st x)=some rows2) (hlen:len+rows2.length≤4294967296) (hq:Hm.canon (qNy (.s d) len rows2) ((qDQ d z (len+rows2.length) (some n) (rows0.take len++rows2) st).mvc n (.s d))=st') (h:K st') :
  qK X ⟨some d,.call ⟨.builtin .append,#[s,x],#[T,T]⟩,ty,pos,aft,g⟩ K E st:=by
 refine qK.post (qD0 (K:=fun s'=>s'=qDQ d z (len+rows2.length) (some n) (rows0.take len++rows2) st) rfl rfl hd hT hz hs hn hle hx hlen rfl) ?_
 rintro s' a w hR rfl
 exact⟨_,Rw.canon (qLB rfl _ _) (hR.mvc n (.s d)),hq ▸ h⟩
end
section
variable {st:St} {n q m k0 k1:Nm} {t:Nat} {x:AV} {k i j:Nat}
@[simp] theorem mvc_eq:mvc k0 k1 m=if Nm.under k0 m&&decide (m≠k0) then some (Nm.ren k0 k1 m) else if Nm.under k1 m&&decide (m≠k1) then none else some m:=rfl
@[simp] theorem mvc_tm:(st.mvc n q).tm t=(st.tm t).tr (mvc n q):=rfl
@[simp] theorem mvc_gl:(st.mvc n q).gl=st.gl:=rfl
@[simp] theorem mvc_hp:(st.mvc n q).hp m=if Nm.under q m&&decide (m≠q) then (if mvc n q (Nm.ren q n m)=some m then (st.hp (Nm.ren q n m)).map (AO.tr (mvc n q)) else none) else if Nm.under n m&&decide (m≠n) then none else (st.hp m).map (AO.tr (mvc n q)):=rfl
@[simp] theorem cnm_hs {z lo len:Nat}:cNm (.hs n z lo len)=if n.isU then none else some n:=rfl
@[simp] theorem cnm_pt {off:Nat}:cNm (.pt n off)=if n.isU then none else some n:=rfl
@[simp] theorem cnm_sc {v:Value}:cNm (.sc v)=none:=rfl
@[simp] theorem cnm_sl {z:Nat} {rows:List (List AV)}:cNm (.sl z rows)=none:=rfl
@[simp] theorem prc_nil {key:Nat→Nm}:prc key j []=[]:=rfl
@[simp] theorem prc_cons {key:Nat→Nm} {l:List AV}:prc key j (x::l)=match cNm x with|some k=>(k,key j)::prc key (j+1) l|none=>prc key (j+1) l:=rfl
@[simp] theorem prcL_nil:qNy n i []=[]:=rfl
@[simp] theorem prcL_cons {r:List AV} {l:List (List AV)}:qNy n i (r::l)=prc (fun j=>.c n i j) 0 r++qNy n (i+1) l:=rfl
@[simp] theorem isU_s:(Nm.s k).isU=false:=rfl
@[simp] theorem isU_c:(Nm.c n i j).isU=false:=rfl
@[simp] theorem isU_u:(Nm.u k i j).isU=true:=rfl
end
@[simp] theorem srows_app2 {ss:List Stm} {a b c d:Int}:zb ss++[[.sc (.int .i64 a),.sc (.int .i64 b),.sc (.int .i64 c),.sc (.int .i64 d)]]=zb (ss++[⟨a,b,c,d⟩]):=by simp [zb]
def qLD (p:Prg) (b:Nat) (k:Blk):List Int:=(List.range 8).map (fun x:Nat=>if (x:Int)∈k.rd++k.bd then qz p b (x:Int) else -2)
def qOE (p:Prg) (b:Nat):List Int:=match p[b]? with
 | some k=>qLD p b k
 | none=>[]
def qI0 (p:Prg):List (List Int):=(List.range p.length).map (qOE p)
def qQ8 (n:Nm) (t:List (List Int)):List (List AV):=t.mapIdx (fun i r=>[.hs (.c n i 0) 1 0 r.length])
section
variable {t:List (List Int)} {i:Nat} {f:Nm→Option Nm} {n:Nm}
@[simp] theorem tabRows_nil:qQ8 n []=[]:=rfl
end
def St.addH (st:St) (d:Nat) (H':Nm→Option AO):St:={ tm:=st.tm,hp:=fun m=>if Nm.under (.s d) m then H' m else st.hp m,n:=st.n,gl:=st.gl }
section
variable {st:St} {d t:Nat} {H':Nm→Option AO} {m:Nm}
@[simp] theorem addH_tm:(st.addH d H').tm=st.tm:=rfl
@[simp] theorem addH_gl:(st.addH d H').gl=st.gl:=rfl
@[simp] theorem addH_hp:(st.addH d H').hp m=if Nm.under (.s d) m then H' m else st.hp m:=rfl
end
theorem qOp {st:St} {d:Nat} {H':Nm→Option AO}:st.call d noD noH H'=(st.kill (.s d)).addH d H':=by
 simp only [St.call,St.nm,St.addH,St.kill,qAa,noD,Bool.false_or]
 congr 1
 funext m
 simp only [hkl]
 split
 ·rfl
 ·rename_i h;rfl
section
variable {X:Ctx} {st:St} {K:St→Prop} {E:AV→St→Prop} {d f:Nat} {ty:TypeId} {pos:String} {aft:Array Edge} {g:Option (Nat×Bool)} {args:Array Operand} {Ts:Array TypeId} {az avs:List AV} {R:Nm→AV→(Nm→Option AO)→Prop}
theorem qRT (hd:d<X.n) (ha:args.toList.map (ev st)=avs) (hB:BwL st.hp noD avs az) (hF:qV X.P X.gl f az R) (hK:∀ y H',R (.s d) y H'→y.cln=true∧K (((st.kill (.s d)).addH d (hcln H')).put (some d) y)) :
  qK X ⟨some d,.call ⟨.value (.func f),args,Ts⟩,ty,pos,aft,g⟩ K E st:=by
 subst ha
 refine qCJ rfl rfl hd hF hB fun y H' hR=>?_
 obtain⟨h1,h2⟩:=hK y H' hR
 rw [qOp]
 simpa [qMh,h1] using h2
end
theorem vA {H':Nm→Option AO} {n:Nm} {z:Nat} {rows:List (List AV)} (h:H' n=some (.row z rows)) (hc:rows.all (fun r=>r.all AV.cln)=true):hcln H' n=some (.row z rows):=by
 simp [hcln,h,AO.cln,hc]
end Go.Hm
end
section

end
