import Derived.Test.YtjgpejikjhojcaaGreatDoorD06
set_option linter.all false
set_option maxRecDepth 100000
set_option maxHeartbeats 4000000
open Option renaming some->Z,none->Y
open Bool renaming true->B,false->M
open List renaming length->O

section
namespace Go.Hm
open Go Go.RowKit
variable{C:Nat->Prop}{D:Nm->Bool}{F d i lo off z z':Nat}{H H' hp:Nm->Option AO}{T:TypeId}{az cs l r vals ys:List AV}{es:List Nat}{f:Nat->Bool}{g:Gh}{gl:Nat->Option (List AV)}{key:Nat->Nm}{n x:Int}{p:Option Nm}{rows:List (List AV)}{s u:ByteArray}{v:Value}{w:World}{xs:List Int}{y:AV}
abbrev iv(n:Int):AV:=.sc (.int .i64 n)
abbrev bv(b:Bool):AV:=.sc (.bool b)
abbrev hL(n:Nm)(len:Nat):AV:=.hs n 1 0 len
theorem qk(h1:-9223372036854775808<=n)(h2:n<=9223372036854775807):IntKind.i64.wrap n=n:=by
 grind[IntKind.wrap_i64]
section
variable{st:St}{P:Program}{n m q k0 k1:Nm}{o:AO}{d t a b i j k i' j' k':Nat}{x:AV}{f:Nm->Option Nm}
@[simp]theorem under_ss:Nm.under (.s a) (.s b)=decide (b=a):=ag
@[simp]theorem under_sc:Nm.under (.s a) (.c q i j)=Nm.under (.s a) q:=ag
@[simp]theorem under_su:Nm.under (.s a) (.u k i j)=M:=ag
@[simp]theorem under_cs:Nm.under (.c q i j) (.s b)=M:=ag
@[simp]theorem under_cu:Nm.under (.c q i j) (.u k i' j')=M:=ag
@[simp]theorem under_cc:Nm.under (.c q i j) (.c m i' j')=(decide (m=q/\i'=i/\j'=j)||Nm.under (.c q i j) m):=ag
@[simp]theorem under_us:Nm.under (.u k i j) (.s b)=M:=ag
@[simp]theorem under_uc:Nm.under (.u k i j) (.c q i' j')=Nm.under (.u k i j) q:=ag
@[simp]theorem under_uu:Nm.under (.u k i j) (.u k' i' j')=decide (k'=k/\i'=i/\j'=j):=ag
@[simp]theorem under_refl:Nm.under n n=B:=Nm.uQ n
@[simp]theorem under_c1:Nm.under n (.c n i j)=B:=ag
@[simp]theorem under_c2:Nm.under n (.c (.c n i j) i' j')=B:=ag
@[simp]theorem ren_sc:Nm.qy (.s a) k1 (.c q i j)=.c (Nm.qy (.s a) k1 q) i j:=by simp[Nm.qy]
@[simp]theorem ren_self:Nm.qy n k1 n=k1:=by cases n<;>simp[Nm.qy]
@[simp]theorem ren_c1:Nm.qy n k1 (.c n i j)=.c k1 i j:=by
 simp_all[Nm.pC,Nm.qy]
@[simp]theorem ren_c2:Nm.qy n k1 (.c (.c n i j) i' j')=.c (.c k1 i j) i' j':=by
 simp_all[Nm.pC,Nm.qy]
@[simp]theorem kl_eq:kl k0 m=if Nm.under k0 m then Y else Z m:=rfl
@[simp]theorem mv_eq:mv k0 k1 m=if Nm.under k0 m then Z (Nm.qy k0 k1 m)else if Nm.under k1 m then Y else Z m:=rfl
@[simp]theorem put_tm:(st.put (Z d) x).tm t=if t=d then x else st.tm t:=rfl
@[simp]theorem put_no:st.put Y x=st:=rfl
@[simp]theorem put_hp':(st.put (Z d) x).hp=st.hp:=rfl
@[simp]theorem put_gl':(st.put (Z d) x).gl=st.gl:=rfl
@[simp]theorem setO_tm:(st.zW n o).tm=st.tm:=rfl
@[simp]theorem setO_gl:(st.zW n o).gl=st.gl:=rfl
@[simp]theorem IS:(st.zW n o).hp m=if m=n then Z o else st.hp m:=rfl
@[simp]theorem kill_tm:(st.kill n).tm t=(st.tm t).tr (kl n):=rfl
@[simp]theorem kill_gl:(st.kill n).gl=st.gl:=rfl
@[simp]theorem kill_hp:(st.kill n).hp m=if Nm.under n m then Y else(st.hp m).map (AO.tr (kl n)):=rfl
@[simp]theorem move_tm:(st.move n q).tm t=(st.tm t).tr (mv n q):=rfl
@[simp]theorem move_gl:(st.move n q).gl=st.gl:=rfl
@[simp]theorem WW:(st.move n q).hp m=if Nm.under q m then(if mv n q (Nm.qy q n m)=Z m then(st.hp (Nm.qy q n m)).map (AO.tr (mv n q))else Y)else if Nm.under n m then Y else(st.hp m).map (AO.tr (mv n q)):=rfl
@[simp]theorem apd_tm:(st.gn d p).tm t=(st.tm t).tr (kl (.s d)):=rfl
@[simp]theorem apd_gl:(st.gn d p).gl=st.gl:=rfl
@[simp]theorem FB:(st.gn d p).hp m=if p=Z m then Y else(st.kill (.s d)).hp m:=rfl
@[simp]theorem apSt_eq{len:Nat}:wO d z len p rows st=((st.gn d p).zW (.s d) (.row z (rows.map (λr=>r.map (AV.tr (kl (.s d))))))).put (Z d) (.hs (.s d) z 0 len):=rfl
@[simp]theorem mkSt_eq{l:Nat}{zv:List AV}:BY d z l zv st=((st.kill (.s d)).zW (.s d) (.row z (List.replicate l zv))).put (Z d) (.hs (.s d) z 0 l):=rfl
@[simp]theorem bsSt_eq{E:Nat}:mN P E d z rows st=canon (la (λi j=>.c (.s d) i j) 0 (eu P E d 0 (rows.map (λr=>r.map (AV.tr (kl (.s d)))))))
  (((St.ki (l5 P E d 0 (rows.map (λr=>r.map (AV.tr (kl (.s d)))))) (st.kill (.s d))).zW (.s d) (.row z (eu P E d 0 (rows.map (λr=>r.map (AV.tr (kl (.s d)))))))).put (Z d) (.hs (.s d) z 0 (O rows))):=rfl
@[simp]theorem boxSt_eq:ce P T d cs st=canon (kg (Nm.c (.s d) 0) 0 (vM (Nm.c (.s d) 0) (zb P T) 0 (cs.map (AV.tr (kl (.s d))))))
  (((St.ki (vX (Nm.c (.s d) 0) (zb P T) 0 (cs.map (AV.tr (kl (.s d))))) (st.kill (.s d))).zW (.s d) (.row (qi P T) [vM (Nm.c (.s d) 0) (zb P T) 0 (cs.map (AV.tr (kl (.s d))))])).put (Z d) (.pt (.s d) 0)):=rfl
@[simp]theorem mpSt_eq:B0 d st=((st.kill (.s d)).zW (.s d) (.map [])).put (Z d) (.mp (.s d)):=rfl
@[simp]theorem asgSt_eq:rH P T d x st=if j5 x then((((st.kill (.s d)).zW (.s d) (.row (((y7 P T).map (qi P)).getD 0) []))).put (Z d) (.hs (.s d) (((y7 P T).map (qi P)).getD 0) 0 0))
  else match uh x with
   |some k=>if k=.s d then st.put (Z d) x else(st.move k (.s d)).put (Z d) (x.tr (mv k (.s d)))
   |none=>st.put (Z d) x:=rfl
@[simp]theorem canon_nil:canon [] st=st:=rfl
@[simp]theorem canon_cons{p:Nm×Nm}{l:List (Nm×Nm)}:canon (p::l) st=canon l (st.move p.1 p.2):=rfl
@[simp]theorem setNils_nil:St.ki [] st=st:=rfl
@[simp]theorem qBT{p:Nm×Nat}{l:List (Nm×Nat)}:St.ki (p::l) st=(St.ki l st).zW p.1 (.row p.2 []):=rfl
@[simp]theorem addNils_nil:St.eW [] st=st:=rfl
@[simp]theorem addNils_cons{p:Nm×Nat}{l:List (Nm×Nat)}:St.eW (p::l) st=St.eW l ((st.kill p.1).zW p.1 (.row p.2 [])):=rfl
@[simp]theorem stoK_eq{v0:List AV}:w5 P T n i off v0 st=St.eW (vX (λj=>.c n i (off+j)) (zb P T) 0 v0) st:=rfl
@[simp]theorem stoV_eq{v1:List AV}:ll P T n i off v1=vM (λj=>.c n i (off+j)) (zb P T) 0 v1:=rfl
@[simp]theorem stoSt_eq:nP n z i off rows vals st=canon (kg (λj=>.c n i (off+j)) 0 vals) (st.zW n (.row z (jn rows i off vals))):=rfl
@[simp]theorem ownRows_nil{T:Nat}:eu P T d i []=[]:=rfl
@[simp]theorem ownRows_cons{T:Nat}{l:List (List AV)}:eu P T d i (r::l)=vM (λj=>.c (.s d) i j) (zb P T) 0 r::eu P T d (i+1) l:=rfl
@[simp]theorem nilKeysLL_nil{T:Nat}:l5 P T d i []=[]:=rfl
@[simp]theorem nilKeysLL_cons{T:Nat}{l:List (List AV)}:l5 P T d i (r::l)=vX (λj=>.c (.s d) i j) (zb P T) 0 r++l5 P T d (i+1) l:=rfl
@[simp]theorem prsLL_nil{key:Nat->Nat->Nm}:la key i []=[]:=rfl
@[simp]theorem prsLL_cons{key:Nat->Nat->Nm}{l:List (List AV)}:la key i (r::l)=kg (key i) 0 r++la key (i+1) l:=rfl
@[simp]theorem zcs_nil:vM key es j []=[]:=rfl
@[simp]theorem qFG:vM key es j (x::l)=(if j5 x then .hs (key j) (es.getD j 0) 0 0 else x)::vM key es (j+1) l:=rfl
@[simp]theorem nk_nil:vX key es j []=[]:=rfl
@[simp]theorem Wc:vX key es j (x::l)=if j5 x then(key j,es.getD j 0)::vX key es (j+1) l else vX key es (j+1) l:=rfl
@[simp]theorem prs_nil:kg key j []=[]:=rfl
@[simp]theorem Xv:kg key j (x::l)=match uh x with|some k=>(k,key j)::kg key (j+1) l|none=>kg key (j+1) l:=rfl
@[simp]theorem rowsSet_one:jn [r] 0 off vals=[r.take off++vals++r.drop (off+O vals)]:=rfl
@[simp]theorem rowsOf_nil:li st []=Z []:=rfl
@[simp]theorem rowsOf_cons{p:Nat×Operand}{l:List (Nat×Operand)}:li st (p::l)=((ev st p.2).cells).bind λr=>(li st l).map (r::·):=rfl
@[simp]theorem resL_nil:aU P st []=Z []:=rfl
@[simp]theorem resL_tmp{l:List ResultVar}:aU P st (.tmp t::l)=(aU P st l).map (st.tm t::·):=rfl
@[simp]theorem resL_cell{l:List ResultVar}:aU P st (.cell t T::l)=((bu st (st.tm t)).bind (λp=>db P T p.1 p.2)).bind λx=>(aU P st l).map (x::·):=rfl
@[simp]theorem res1_one:iY [x]=x:=rfl
@[simp]theorem res1_nil:iY []=.zT []:=rfl
@[simp]theorem res1_two:iY (x::y::l)=.zT (x::y::l):=rfl
@[simp]theorem noD_eq:zl m=M:=rfl
@[simp]theorem noH_eq:y6 m=Y:=rfl
@[simp]theorem finf_nil:zH D [] m=if D m then Z m else Y:=rfl
@[simp]theorem finf_cons{p:Nm×Nm}{l:List (Nm×Nm)}:zH D (p::l) m=if Nm.under p.1 m then Z (Nm.qy p.1 p.2 m)else zH D l m:=rfl
@[simp]theorem fing_nil:rj [] m=Y:=rfl
@[simp]theorem fing_cons{p:Nm×Nm}{l:List (Nm×Nm)}:rj (p::l) m=if Nm.under p.2 m then Z (Nm.qy p.2 p.1 m)else rj l m:=rfl
@[simp]theorem finH_eq{sbs:List (Nm×Nm)}:vW D sbs hp m=if D m then(hp m).map (AO.tr (zH D sbs))else match rj sbs m with
  |some q=>if zH D sbs q=Z m then(hp q).map (AO.tr (zH D sbs))else Y
  |none=>Y:=rfl
@[simp]theorem st0_tm:(w4 az H k gl).tm t=az.getD t (.sc undef):=rfl
@[simp]theorem st0_hp:(w4 az H k gl).hp=H:=rfl
@[simp]theorem st0_gl:(w4 az H k gl).gl=gl:=rfl
@[simp]theorem ctx0_P:(jt P C w g H k gl).P=P:=rfl
@[simp]theorem ctx0_n:(jt P C w g H k gl).n=k:=rfl
@[simp]theorem ctx0_gl:(jt P C w g H k gl).gl=gl:=rfl
@[simp]theorem tr_sc:(AV.sc v).tr f=.sc v:=rfl
@[simp]theorem tr_sl:(AV.sl z rows).tr f=.sl z (rows.map (λr=>r.map (AV.tr f))):=by simp[AV.tr,AC]
@[simp]theorem tr_el{row:List AV}:(AV.el row off).tr f=.el (row.map (AV.tr f)) off:=Cn
@[simp]theorem tr_hs{len:Nat}:(AV.hs n z lo len).tr f=match f n with|some n'=>.hs n' z lo len|none=>.bot:=rfl
@[simp]theorem tr_pt:(AV.pt n off).tr f=match f n with|some n'=>.pt n' off|none=>.bot:=rfl
@[simp]theorem tr_ep:(AV.ep n z i off).tr f=match f n with|some n'=>.ep n' z i off|none=>.bot:=rfl
@[simp]theorem tr_mp:(AV.mp n).tr f=match f n with|some n'=>.mp n'|none=>.bot:=rfl
@[simp]theorem tr_agg:(AV.agg cs).tr f=.agg (cs.map (AV.tr f)):=Cn
@[simp]theorem tr_tup:(AV.zT cs).tr f=.zT (cs.map (AV.tr f)):=Cn
@[simp]theorem tr_ifc:(AV.jL T x).tr f=.jL T (x.tr f):=rfl
@[simp]theorem tr_fn{F:Fn}{xs:List AV}:(AV.fn F xs ys).tr f=.fn F (xs.map (AV.tr f)) (ys.map (AV.tr f)):=Cn
@[simp]theorem tr_bot:(AV.bot).tr f=.bot:=rfl
@[simp]theorem aotr_row:AO.tr f (.row z rows)=.row z (rows.map (λr=>r.map (AV.tr f))):=rfl
@[simp]theorem aotr_trow{ex:Bool}:AO.tr f (.uP T z ex rows)=.uP T z ex (rows.map (λr=>r.map (AV.tr f))):=rfl
@[simp]theorem aotr_map{es:List (AV×AV)}:AO.tr f (.map es)=.map (es.map (λe=>(e.1.tr f,e.2.tr f))):=rfl
@[simp]theorem nils_int{k:IntKind}{n:Int}:j5 (.sc (.int k n))=M:=rfl
@[simp]theorem nils_bool{b:Bool}:j5 (.sc (.bool b))=M:=rfl
@[simp]theorem nils_str{b:ByteArray}:j5 (.sc (.string b))=M:=rfl
@[simp]theorem nils_ptr{p:Option Addr}:j5 (.sc (.pointer p))=M:=rfl
@[simp]theorem nils_ifn:j5 (.sc .nilIface)=M:=rfl
@[simp]theorem nils_tup{l:Array Value}:j5 (.sc (.tuple l))=M:=rfl
@[simp]theorem nils_nil:j5 (.sc (.slice Y 0 0))=B:=rfl
@[simp]theorem nils_sl:j5 (.sl z rows)=M:=rfl
@[simp]theorem nils_hs{len:Nat}:j5 (.hs n z lo len)=M:=rfl
@[simp]theorem nils_el{row:List AV}:j5 (.el row off)=M:=rfl
@[simp]theorem nils_pt:j5 (.pt n off)=M:=rfl
@[simp]theorem nils_ep:j5 (.ep n z i off)=M:=rfl
@[simp]theorem nils_mp:j5 (.mp n)=M:=rfl
@[simp]theorem nils_agg:j5 (.agg cs)=M:=rfl
@[simp]theorem nils_tup':j5 (.zT cs)=M:=rfl
@[simp]theorem nils_ifc:j5 (.jL T x)=M:=rfl
@[simp]theorem nils_fn{F:Fn}{xs:List AV}:j5 (.fn F xs ys)=M:=rfl
@[simp]theorem nils_bot:j5 .bot=M:=rfl
@[simp]theorem snm_sc:uh (.sc v)=Y:=rfl
@[simp]theorem snm_sl:uh (.sl z rows)=Y:=rfl
@[simp]theorem snm_hs{len:Nat}:uh (.hs (.s t) z lo len)=Z (.s t):=rfl
@[simp]theorem snm_hc{len:Nat}:uh (.hs (.c q i j) z lo len)=Y:=rfl
@[simp]theorem snm_hu{len:Nat}:uh (.hs (.u k i j) z lo len)=Y:=rfl
@[simp]theorem snm_pt:uh (.pt (.s t) off)=Z (.s t):=rfl
@[simp]theorem snm_pc:uh (.pt (.c q i j) off)=Y:=rfl
@[simp]theorem snm_pu:uh (.pt (.u k i j) off)=Y:=rfl
@[simp]theorem snm_mp:uh (.mp (.s t))=Z (.s t):=rfl
@[simp]theorem snm_mc:uh (.mp (.c q i j))=Y:=rfl
@[simp]theorem snm_mu:uh (.mp (.u k i j))=Y:=rfl
@[simp]theorem snm_el{row:List AV}:uh (.el row off)=Y:=rfl
@[simp]theorem snm_ep:uh (.ep n z i off)=Y:=rfl
@[simp]theorem snm_agg:uh (.agg cs)=Y:=rfl
@[simp]theorem snm_tup:uh (.zT cs)=Y:=rfl
@[simp]theorem snm_ifc:uh (.jL T x)=Y:=rfl
@[simp]theorem snm_fn{F:Fn}{xs:List AV}:uh (.fn F xs ys)=Y:=rfl
@[simp]theorem snm_bot:uh .bot=Y:=rfl
@[simp]theorem one_int{k:IntKind}{n:Int}:(AV.sc (.int k n)).one=B:=rfl
@[simp]theorem one_bool{b:Bool}:(AV.sc (.bool b)).one=B:=rfl
@[simp]theorem one_str{b:ByteArray}:(AV.sc (.string b)).one=B:=rfl
@[simp]theorem one_ptr{p:Option Addr}:(AV.sc (.pointer p)).one=B:=rfl
@[simp]theorem one_ifn:(AV.sc .nilIface).one=B:=rfl
@[simp]theorem one_nil{p:Option Addr}{n c:Nat}:(AV.sc (.slice p n c)).one=B:=rfl
@[simp]theorem one_sl:(AV.sl z rows).one=B:=rfl
@[simp]theorem one_hs{len:Nat}:(AV.hs n z lo len).one=B:=rfl
@[simp]theorem one_el{row:List AV}:(AV.el row off).one=B:=rfl
@[simp]theorem one_pt:(AV.pt n off).one=B:=rfl
@[simp]theorem one_ep:(AV.ep n z i off).one=B:=rfl
@[simp]theorem one_mp:(AV.mp n).one=B:=rfl
@[simp]theorem one_ifc:(AV.jL T x).one=B:=rfl
@[simp]theorem cells_agg:(AV.agg cs).cells=if cs.all AV.one then Z cs else Y:=rfl
@[simp]theorem cells_sc:(AV.sc v).cells=if(AV.sc v).one then Z [.sc v]else Y:=rfl
@[simp]theorem cells_sl:(AV.sl z rows).cells=Z [.sl z rows]:=rfl
@[simp]theorem cells_hs{len:Nat}:(AV.hs n z lo len).cells=Z [.hs n z lo len]:=rfl
@[simp]theorem cells_el{row:List AV}:(AV.el row off).cells=Z [.el row off]:=rfl
@[simp]theorem cells_pt:(AV.pt n off).cells=Z [.pt n off]:=rfl
@[simp]theorem cells_ep:(AV.ep n z i off).cells=Z [.ep n z i off]:=rfl
@[simp]theorem cells_mp:(AV.mp n).cells=Z [.mp n]:=rfl
@[simp]theorem cells_ifc:(AV.jL T x).cells=Z [.jL T x]:=rfl
@[simp]theorem cln_sc:(AV.sc v).jX=B:=rfl
@[simp]theorem cln_hs{len:Nat}:(AV.hs n z lo len).jX=B:=rfl
@[simp]theorem cln_pt:(AV.pt n off).jX=B:=rfl
@[simp]theorem cln_agg:(AV.agg cs).jX=cs.all AV.jX:=by simp[AV.jX,BA]
@[simp]theorem cln_tup:(AV.zT cs).jX=cs.all AV.jX:=by simp[AV.jX,BA]
@[simp]theorem cln_ifc:(AV.jL T x).jX=x.jX:=rfl
section
variable{ty:TypeId}{pos:String}{aft:Array Edge}{g:Option (Nat×Bool)}{T U A:TypeId}{y c i:Operand}{dst:Option Nat}
variable{x:Operand}
@[simp]theorem ev_tmp:ev st (.tmp t)=st.tm t:=rfl
@[simp]theorem ev_const:ev st (.const v)=.sc v:=rfl
@[simp]theorem ev_func{F:FuncId}:ev st (.func F)=.sc (.func (.func F) #[] #[]):=rfl
@[simp]theorem ev_global{G:Nat}:ev st (.global G)=match st.gl G with|some row=>.el row 0|none=>.bot:=rfl
@[simp]theorem qev_move:vA P st ⟨dst,.move x,ty,pos,aft,g⟩=Z (ev st x):=rfl
@[simp]theorem qev_pick:vA P st ⟨dst,.pick c x y,ty,pos,aft,g⟩=nC (ev st c) (ev st x) (ev st y):=rfl
@[simp]theorem qev_load:vA P st ⟨dst,.load T x,ty,pos,aft,g⟩=(bu st (ev st x)).bind (λp=>db P T p.1 p.2):=rfl
@[simp]theorem qev_nilCheck:vA P st ⟨dst,.nilCheck x,ty,pos,aft,g⟩=rz (ev st x):=rfl
@[simp]theorem qev_binOp{op:BinOp}:vA P st ⟨dst,.binOp op T x y U,ty,pos,aft,g⟩=cd P T op (match y with|.const _=>B|_=>M) (ev st x) (ev st y):=rfl
@[simp]theorem qev_unOp{op:UnOp}:vA P st ⟨dst,.unOp op T x,ty,pos,aft,g⟩=AE op (ev st x):=rfl
@[simp]theorem qev_convert{S:TypeId}:vA P st ⟨dst,.convert S T x,ty,pos,aft,g⟩=BB P S T (ev st x):=rfl
@[simp]theorem qev_mki:vA P st ⟨dst,.makeInterface T x,ty,pos,aft,g⟩=BZ P T (ev st x):=rfl
@[simp]theorem qev_slice{lo hi:Option Operand}:vA P st ⟨dst,.slice T x lo hi Y,ty,pos,aft,g⟩=(mw (lo.map (ev st))).bind λl=>(mw (hi.map (ev st))).bind λh=>kM P T st.hp (ev st x) (l.map (·.2)) (h.map (·.2)):=rfl
@[simp]theorem qev_fieldAddr:vA P st ⟨dst,.fieldAddr T x F,ty,pos,aft,g⟩=rg P T F (ev st x):=rfl
@[simp]theorem qev_field:vA P st ⟨dst,.field T x F,ty,pos,aft,g⟩=xG P T F (ev st x):=rfl
@[simp]theorem qev_indexAddr:vA P st ⟨dst,.indexAddr T x i,ty,pos,aft,g⟩=match ev st i with|.sc (.int _ n)=>BK P T (ev st x) n|_=>Y:=rfl
@[simp]theorem qev_index:vA P st ⟨dst,.index T x i,ty,pos,aft,g⟩=match ev st i with|.sc (.int _ n)=>xI P T (ev st x) n|_=>Y:=rfl
@[simp]theorem qev_extract:vA P st ⟨dst,.extract x F,ty,pos,aft,g⟩=BF F (ev st x):=rfl
@[simp]theorem qev_build{parts:Array (Nat×Operand)}:vA P st ⟨dst,.build T parts,ty,pos,aft,g⟩=sp P T (parts.toList.map (λp=>(p.1,ev st p.2))):=rfl
@[simp]theorem qev_tas:vA P st ⟨dst,.typeAssert x T A B,ty,pos,aft,g⟩=pQ P A (ev st x):=rfl
@[simp]theorem qev_tas1:vA P st ⟨dst,.typeAssert x T A M,ty,pos,aft,g⟩=EZ P A (ev st x):=rfl
@[simp]theorem qev_makeFunc{F:Fn}{xs ys:Array Operand}:vA P st ⟨dst,.makeFunc F xs ys,ty,pos,aft,g⟩=Z (.fn F (xs.toList.map (ev st)) (ys.toList.map (ev st))):=rfl
@[simp]theorem qev_lookup{ok:Bool}:vA P st ⟨dst,.lookup T x i ok,ty,pos,aft,g⟩=xY P T st.hp (ev st x) (ev st i) ok:=rfl
@[simp]theorem qev_len:vA P st ⟨dst,.call ⟨.builtin .len,#[x],#[T]⟩,ty,pos,aft,g⟩=mn P T st.hp (ev st x):=rfl
end
section
variable{T U A:TypeId}{cy:Bool}{op:BinOp}{xi yi:Int}{kd:IntKind}
@[simp]theorem bin_int:cd P T op cy (.sc (.int kd xi)) (.sc (.int kd yi))=cG kd op xi yi:=by simp[cd]
@[simp]theorem bin_str:cd P T op cy (.sc (.string s)) (.sc (.string u))=sM op s u:=rfl
@[simp]theorem bin_bool{s u:Bool}:cd P T op cy (.sc (.bool s)) (.sc (.bool u))=if E3 P T then wZ op (s==u)else Y:=rfl
@[simp]theorem bin_agg{xs:List AV}:cd P T op cy (.agg xs) (.agg ys)=match CI P T with
  |some n=>if O xs=n then(fb xs ys).bind (wZ op)else Y
  |none=>Y:=rfl
@[simp]theorem bin_pt:cd P T op cy (.pt n off) (.sc (.pointer Y))=if fg P T then wZ op M else Y:=rfl
@[simp]theorem bin_el{row:List AV}:cd P T op cy (.el row off) (.sc (.pointer Y))=if fg P T then wZ op M else Y:=rfl
@[simp]theorem bin_ep:cd P T op cy (.ep n z i off) (.sc (.pointer Y))=if fg P T then wZ op M else Y:=rfl
@[simp]theorem bin_nn:cd P T op cy (.sc (.pointer Y)) (.sc (.pointer Y))=if fg P T then wZ op B else Y:=rfl
@[simp]theorem bin_ifc{t:TypeId}:cd P T op cy (.jL t x) (.sc .nilIface)=if oj P T then wZ op M else Y:=rfl
@[simp]theorem bin_ifn:cd P T op cy (.sc .nilIface) (.sc .nilIface)=if oj P T&&cy then wZ op B else Y:=rfl
@[simp]theorem ptr_eql{r:Bool}:wZ .eql r=Z (.sc (.bool r)):=rfl
@[simp]theorem ptr_neq{r:Bool}:wZ .neq r=Z (.sc (.bool (!r))):=rfl
@[simp]theorem eqL_nil:fb [] []=Z B:=rfl
@[simp]theorem eqL_cons'{xs:List AV}:fb (.sc (.int .i64 xi)::xs) (.sc (.int .i64 yi)::ys)=(fb xs ys).map (λr=>(xi==yi)&&r):=rfl
@[simp]theorem int_add:cG kd .add xi yi=Z (.sc (.int kd (kd.wrap (xi+yi)))):=rfl
@[simp]theorem int_sub:cG kd .sub xi yi=Z (.sc (.int kd (kd.wrap (xi-yi)))):=rfl
@[simp]theorem int_mul:cG kd .mul xi yi=Z (.sc (.int kd (kd.wrap (xi*yi)))):=rfl
@[simp]theorem int_quo:cG kd .quo xi yi=if yi=0 then Y else Z (.sc (.int kd (kd.wrap (xi.tdiv yi)))):=rfl
@[simp]theorem int_rem:cG kd .rem xi yi=if yi=0 then Y else Z (.sc (.int kd (xi.tmod yi))):=rfl
@[simp]theorem int_eql:cG kd .eql xi yi=Z (.sc (.bool (xi==yi))):=rfl
@[simp]theorem int_neq:cG kd .neq xi yi=Z (.sc (.bool (xi != yi))):=rfl
@[simp]theorem int_lss:cG kd .lss xi yi=Z (.sc (.bool (decide (xi<yi)))):=rfl
@[simp]theorem int_leq:cG kd .leq xi yi=Z (.sc (.bool (decide (xi<=yi)))):=rfl
@[simp]theorem int_gtr:cG kd .gtr xi yi=Z (.sc (.bool (decide (xi > yi)))):=rfl
@[simp]theorem int_geq:cG kd .geq xi yi=Z (.sc (.bool (decide (xi≥yi)))):=rfl
@[simp]theorem str_add:sM .add s u=if s.size+u.size<=9223372036854775807 then Z (.sc (.string (s++u)))else Y:=rfl
@[simp]theorem str_eql:sM .eql s u=Z (.sc (.bool (s.toList==u.toList))):=rfl
@[simp]theorem str_neq:sM .neq s u=Z (.sc (.bool (!(s.toList==u.toList)))):=rfl
@[simp]theorem un_not{b:Bool}:AE .not (.sc (.bool b))=Z (.sc (.bool (!b))):=rfl
@[simp]theorem un_neg:AE .neg (.sc (.int kd xi))=Z (.sc (.int kd (kd.wrap (-xi)))):=rfl
@[simp]theorem pick_bb{t p q:Bool}:nC (.sc (.bool t)) (.sc (.bool p)) (.sc (.bool q))=Z (.sc (.bool (bif t then p else q))):=rfl
@[simp]theorem pick_ii{t:Bool}{k':IntKind}:nC (.sc (.bool t)) (.sc (.int kd xi)) (.sc (.int k' yi))=Z (bif t then .sc (.int kd xi)else .sc (.int k' yi)):=rfl
@[simp]theorem pick_u1{t:Bool}:nC (.sc (.bool t)) (.sc undef) y=Z (bif t then .sc undef else y):=rfl
@[simp]theorem pick_u2{t:Bool}{p:Bool}:nC (.sc (.bool t)) (.sc (.bool p)) (.sc undef)=Z (bif t then .sc (.bool p)else .sc undef):=rfl
@[simp]theorem pick_u3{t:Bool}{k':IntKind}:nC (.sc (.bool t)) (.sc (.int k' xi)) (.sc undef)=Z (bif t then .sc (.int k' xi)else .sc undef):=rfl
@[simp]theorem len_sl:mn P T hp (.sl z rows)=if uy P T then Z (.sc (.int .i64 (O rows)))else Y:=rfl
@[simp]theorem len_hs{len:Nat}:mn P T hp (.hs n z lo len)=if uy P T then Z (.sc (.int .i64 len))else Y:=rfl
@[simp]theorem len_nil:mn P T hp (.sc (.slice Y 0 0))=if uy P T then Z (.sc (.int .i64 0))else Y:=rfl
@[simp]theorem len_str:mn P T hp (.sc (.string s))=if nQ P T then Z (.sc (.int .i64 s.size))else Y:=rfl
@[simp]theorem len_mp:mn P T hp (.mp n)=if If P T then(match hp n with|some (.map es)=>Z (.sc (.int .i64 (O es)))|_=>Y)else Y:=rfl
@[simp]theorem ext_tup:BF i (.zT l)=l[i]?:=rfl
@[simp]theorem field_pt:rg P T F (.pt n off)=(qn P T F).map (λp=>.pt n (off+p.1)):=rfl
@[simp]theorem field_el{row:List AV}:rg P T F (.el row off)=(qn P T F).map (λp=>.el row (off+p.1)):=rfl
@[simp]theorem field_ep:rg P T F (.ep n z i off)=(qn P T F).map (λp=>.ep n z i (off+p.1)):=rfl
@[simp]theorem fld_agg:xG P T F (.agg cs)=match qn P T F with|some (o,e)=>db P e cs o|none=>Y:=rfl
@[simp]theorem getC_eq:db P T cs off=match jR P T with
  |some B=>if off+qi P T<=O cs then Z (.agg ((cs.drop off).take (qi P T)))else Y
  |some M=>cs[off]?
  |none=>Y:=rfl
@[simp]theorem index_eq:BK P T x xi=match y7 P T with
  |some e=>match x with
   |.sl z rows=>if z=qi P e/\0<=xi then(rows[xi.toNat]?).map (λr=>.el r 0)else Y
   |.hs m z lo len=>if z=qi P e/\0<=xi/\xi<len then Z (.ep m z (lo+xi.toNat) 0)else Y
   |_=>Y
  |none=>match eO P T with
   |some (len,e)=>if 0<=xi/\xi<len then(match x with
    |.pt m off=>Z (.pt m (off+xi.toNat*qi P e))
    |.el row off=>Z (.el row (off+xi.toNat*qi P e))
    |.ep m z i off=>Z (.ep m z i (off+xi.toNat*qi P e))
    |_=>Y)else Y
   |none=>Y:=rfl
@[simp]theorem idx_agg:xI P T (.agg cs) xi=match eO P T with
  |some (len,e)=>if 0<=xi/\xi<len then db P e cs (xi.toNat*qi P e)else Y
  |none=>Y:=rfl
@[simp]theorem idx_str:xI P T (.sc (.string s)) xi=if nQ P T/\0<=xi then(s.data.toList[xi.toNat]?).map (λb=>.sc (.int .u8 b.toNat))else Y:=rfl
@[simp]theorem cells_at_pt:bu st (.pt n off)=match st.hp n with
  |some (.row _ (r::_))=>Z (r,off)
  |_=>Y:=rfl
@[simp]theorem cells_at_el{row:List AV}:bu st (.el row off)=Z (row,off):=rfl
@[simp]theorem cells_at_ep:bu st (.ep n z i off)=match st.hp n with
  |some (.row z' rows)=>if z'=z then(rows[i]?).map (λr=>(r,off))else Y
  |_=>Y:=rfl
@[simp]theorem mki_eq:BZ P T x=if wu P T=Z M then Z (.jL T x)else Y:=rfl
@[simp]theorem tas_ifc{t:TypeId}:pQ P A (.jL t x)=if wu P A=Z M then(if t=A then Z (.zT [x,.sc (.bool B)])else(a7 P A).map (λz=>.zT [z,.sc (.bool M)]))else Y:=rfl
@[simp]theorem tas_nil:pQ P A (.sc .nilIface)=if wu P A=Z M then(a7 P A).map (λz=>.zT [z,.sc (.bool M)])else Y:=rfl
@[simp]theorem cnv_int:BB P T A (.sc (.int kd xi))=match E6 P A,P.underlying T with|some k,Z (.int _)=>Z (.sc (.int k (k.wrap xi)))|_,_=>Y:=rfl
@[simp]theorem bld_eq{parts:List (Nat×AV)}:sp P T parts=if vC P T then
  match yH P T with
  |some z=>(ma P T (z.map .sc) parts).map .agg
  |none=>Y
 else Y:=rfl
@[simp]theorem fill_nil:ma P T cs []=Z cs:=rfl
@[simp]theorem fill_cons{rest:List (Nat×AV)}:ma P T cs ((i,x)::rest)=match qn P T i,x.cells with
  |some (o,e),Z ds=>if O ds=qi P e/\o+O ds<=O cs then ma P T (cs.take o++ds++cs.drop (o+O ds)) rest else Y
  |_,_=>Y:=rfl
@[simp]theorem nil_pt:rz (.pt n off)=Z (.pt n off):=rfl
@[simp]theorem nil_el{row:List AV}:rz (.el row off)=Z (.el row off):=rfl
@[simp]theorem nil_ep:rz (.ep n z i off)=Z (.ep n z i off):=rfl
@[simp]theorem nil_fn{F:FuncId}{xs:List AV}:rz (.fn (.func F) xs ys)=Z (.fn (.func F) xs ys):=rfl
@[simp]theorem pl_pt:pl (.pt n off)=Z (n,0,off):=rfl
@[simp]theorem pl_ep:pl (.ep n z i off)=Z (n,i,off):=rfl
@[simp]theorem ra_pt:lg st (.pt n off)=match st.hp n with|some (.row z rows)=>Z (z,rows)|_=>Y:=rfl
@[simp]theorem ra_ep:lg st (.ep n z i off)=match st.hp n with|some (.row z' rows)=>if z'=z then Z (z,rows)else Y|_=>Y:=rfl
@[simp]theorem src_sl:be st z (.sl z' rows)=if z'=z then Z rows else Y:=rfl
@[simp]theorem src_nil:be st z (.sc (.slice Y 0 0))=Z []:=rfl
@[simp]theorem src_hs{len:Nat}:be st z (.hs n z' lo len)=match st.hp n with
  |some (.row z'' rows)=>if z'=z/\z''=z/\lo+len<=O rows then Z ((rows.drop lo).take len)else Y
  |_=>Y:=rfl
@[simp]theorem optInt_none:mw Y=Z Y:=rfl
@[simp]theorem optInt_some:mw (Z (.sc (.int kd xi)))=Z (Z (kd,xi)):=rfl
end
end
def qL.Dt{P:Program}{gl:Nat->Option (List AV)}{f:FuncId}{az:List AV}{R:Nm->AV->(Nm->Option AO)->Prop}{fn:Func}{c:Code}{rs:List ResultVar}{n:Nat}
  (hf:P.funcs[f]?=Z fn)(hb:fn.body=Z c)(hname:(fn.name == "runtime.NumGoroutine")=M)(hrs:fn.results.toList=rs)(hn:fn.ntmps=n)(hle:O az<=n)
  (h:∀C w g root,jJ (jt P C w g y6 n gl) c (rm P zl root rs R qw) (w4 az y6 n gl)):qL P gl f az R:=
 qX.Dt hf hb hname hrs hn hle (λ_ h=>kv) (λC w g root _=>h C w g root)
def qL.q9{P:Program}{f:FuncId}{as:List AV}{R:Nm->AV->(Nm->Option AO)->Prop}{fn:Func}{c:Code}{n:Nat}(hf:P.funcs[f]?=Z fn)(rs:List ResultVar)(hn:fn.ntmps=n)(h:∀C w g root,jJ (jt P C w g y6 n gl) c (rm P zl root rs R qw) (w4 as y6 n gl))(hb:fn.body=Z c:=by exact rfl)(hname:(fn.1 ==  "runtime.NumGoroutine")=M:=by kernel_rfl)(hrs:fn.results.toList=rs:=by exact rfl)(hle:O as<=n:=by exact lB rfl):qL P gl f as R:=qL.Dt hf hb hname hrs hn hle h
def qh(xs:List Int):List (List AV):=xs.map (λn=>[iv n])
@[simp]theorem irows_len:O (qh xs)=O xs:=y3
@[simp]theorem irows_get:(qh xs)[i]?=(xs[i]?).map (λn=>[iv n]):=y3
@[simp]theorem irows_getE{h:i<O (qh xs)}:(qh xs)[i]=[iv (xs[i]' qQ)]:=y3
@[simp]theorem irows_tr{f:Nm->Option Nm}:(qh xs).map (λr=>r.map (AV.tr f))=qh xs:=y3
@[simp]theorem irows_take:(qh xs).take i=qh (xs.take i):=y3
@[simp]theorem Uk{ys:List Int}:qh xs++qh ys=qh (xs++ys):=y3
@[simp]theorem irows_app1:qh xs++[[.sc (.int .i64 n)]]=qh (xs++[n]):=y3
@[simp]theorem irows_nil:qh []=[]:=rfl
@[simp]theorem irows_cln:(qh xs).all (λr=>r.all AV.jX)=B:=y3
@[simp]theorem irows_set:jn (qh xs) i 0 [.sc (.int .i64 n)]=qh (xs.set i n):=by
 simp only[jn,qh];apply yp
 grind
def Ul:∀r∈qh xs,O r=1:=y3
abbrev jO(xs:List Int):AV:=.sl 1 (qh xs)
def gu{n:Nm}{len:Nat}(hn:hp n=Z (.row z rows))(hl:len=O rows)(hz:∀r∈rows,O r=z):Bw hp zl (.hs n z 0 len) (.sl z rows):=by
 refine .hs n z 0 len rows rows rfl hn qA hl.symm hz λi r r' hr hr' j a a' ha ha'=>?_;rw[gc]at hr;rw[hr]at hr';obtain rfl:=sI hr';rw[ha]at ha';obtain rfl:=sI ha';exact .refl _
theorem ea{n:Nm}{len:Nat}(hn:hp n=Z (.row 1 (qh xs)))(hl:len=O xs):Bw hp zl (.hs n 1 0 len) (jO xs):=gu hn rW Ul
structure qT where
 kind:Int
 to:Int
 a:Int
 b:Int
 deriving DecidableEq,Inhabited
abbrev qT.cells(s:qT):List AV:=[iv s.kind,iv s.to,iv s.a,iv s.b]
abbrev qT.av(s:qT):AV:=.agg s.cells
def yd(ss:List qT):List (List AV):=ss.map qT.cells
section
variable{ss tt:List qT}{s:qT}{i:Nat}{f:Nm->Option Nm}
@[simp]theorem srows_len:O (yd ss)=O ss:=gy
@[simp]theorem srows_get:(yd ss)[i]?=(ss[i]?).map qT.cells:=gy
@[simp]theorem srows_getE{h:i<O (yd ss)}:(yd ss)[i]=(ss[i]' qQ).cells:=gy
@[simp]theorem srows_tr:(yd ss).map (λr=>r.map (AV.tr f))=yd ss:=gy
@[simp]theorem srows_take:(yd ss).take i=yd (ss.take i):=gy
@[simp]theorem srows_drop:(yd ss).drop i=yd (ss.drop i):=gy
@[simp]theorem srows_app:yd ss++yd tt=yd (ss++tt):=gy
def xz:yd ss++[s.cells]=yd (ss++[s]):=gy
@[simp]theorem srows_nil:yd []=[]:=rfl
@[simp]theorem srows_cln:(yd ss).all (λr=>r.all AV.jX)=B:=gy
def qCH:∀r∈yd ss,O r=4:=gy
abbrev gD(ss:List qT):AV:=.sl 4 (yd ss)
def Ca{n:Nm}{len:Nat}(hn:hp n=Z (.row 4 (yd ss)))(hl:len=O ss):Bw hp zl (.hs n 4 0 len) (gD ss):=gu hn rW qCH
end
structure qY where
 kind:Int
 parent:Int
 params:List Int
 body:List qT
 deriving DecidableEq,Inhabited
abbrev qY.cells(k:qY):List AV:=[iv k.kind,iv k.parent,jO k.params,gD k.body]
abbrev qY.av(k:qY):AV:=.agg k.cells
def mj(ks:List qY):List (List AV):=ks.map qY.cells
abbrev qC:=List qY
section
variable{ks ls:List qY}{k:qY}{i:Nat}{f:Nm->Option Nm}
@[simp]theorem krows_len:O (mj ks)=O ks:=A3
@[simp]theorem VF:(mj ks)[i]?=(ks[i]?).map qY.cells:=A3
@[simp]theorem krows_getE{h:i<O (mj ks)}:(mj ks)[i]=(ks[i]' qQ).cells:=A3
@[simp]theorem krows_tr:(mj ks).map (λr=>r.map (AV.tr f))=mj ks:=A3
abbrev j6(ks:List qY):AV:=.sl 4 (mj ks)
abbrev jB(p:qC):AV:=.agg [j6 p]
end
def yz(xs:List Int)(x:Int):Int:=match xs.findIdx? (·==x)with|some i=>i|none=>-1
theorem nD:0<=yz xs x↔x∈xs:=by
 grind[yz]
def kN(xs:List Int):Nat->List Int
 |0=>[]
 |n+1=>if(n:Int)∈xs then kN xs n++[(n:Int)]else kN xs n
def sorted(xs:List Int):List Int:=kN xs 8
theorem HA{xs:List Int}{x:Int}:∀n:Nat,x∈kN xs n↔x∈xs/\0<=x/\x<n
 |0=>by
  grind[kN]
 |n+1=>by
  simp only[kN]
  split
  .rename_i h;simp only[yI,HA n,vG]
   grind
  .rename_i h;rw[HA n]
   grind
theorem mem_sorted:x∈sorted xs↔x∈xs/\0<=x/\x<=7:=by
 grind[sorted,HA]
theorem PB:∀n:Nat,O (kN xs n)<=n
 :=by intro x0;induction x0<;>grind[kN]
theorem xw:O (sorted xs)<=8:=PB 8
def qT.reads(s:qT):List Int:=
 if s.kind=1\/s.kind=6\/s.kind=7\/s.kind=8 then[s.a]else if s.kind=2 then[s.a,s.b]else if s.kind=5 then(if s.b=-1 then[s.a]else[s.a,s.b])else[]
theorem qT.lf(s:qT):O s.reads<=2:=by
 grind[reads]
abbrev qT.eK(s:qT):Prop:=0<=s.kind/\s.kind<=6
def aw(ss:List qT):List Int:=ss.flatMap qT.reads
def oK(k:qY):List Int:=k.params++(k.body.filter (λs=>decide (s.eK\/s.kind=11))).map qT.to
def o9(k:qY)(d:Int):List Int:=(k.body.filter (λs=>decide (s.kind=d))).map qT.to
theorem Ψ(ss:List qT):O (aw ss)<=2*O ss:=by
 induction ss<;>grind[aw,qT.lf]
structure jm(p:qC):Prop where
 len:O p<=1048576
 params:∀k∈p,O k.params<=1048576
 body:∀k∈p,O k.body<=1048576
structure lx(k:qY):Prop where
 params:O k.params<=1048576
 body:O k.body<=1048576
def jm.vu{p:qC}(h:jm p){b:Nat}{k:qY}(hk:p[b]?=Z k):lx k:=⟨h.params k (gM hk),h.body k (gM hk)⟩
def qY.rd(k:qY):List Int:=sorted (aw k.body)
def qY.bd(k:qY):List Int:=sorted (oK k)
def qY.dc(k:qY)(d:Int):List Int:=sorted (o9 k d)
def qY.OE(k:qY):O k.rd<=8:=xw
def qY.Je(k:qY):O k.bd<=8:=xw
def qY.rb(k:qY)(d:Int):O (k.dc d)<=8:=xw
def uW(b:Nat)(k:qY)(x:Int):Bool:=decide (0<b)&&decide (x∈k.bd)&&!decide (x∈k.dc 9)&&!decide (x∈k.dc 10)
def ze(p:qC):Prop:=∀(i:Nat)(q:qY),p[i]?=Z q -> -1<=q.parent/\q.parent<i/\(0<i->0<=q.parent)
def yU(p:qC)(x:Int):Nat->Int->Int
 |0,_=>-1
 |n+1,j=>if j<=0 then -1 else match p[j.toNat]? with
  |none=>-1
  |some q=>if q.kind≠1 then yU p x n q.parent else if x∈q.dc 9 then -1 else if uW j.toNat q x then j else yU p x n q.parent
theorem HQ{p:qC}{x:Int}(hp:ze p):∀(n m:Nat)(j:Int),j<=n->j<=m->yU p x n j=yU p x m j
 |0,0,_,_,_=>rfl
 |0,m+1,j,h,_=>by grind[yU]
 |n+1,0,j,_,h=>by grind[yU]
 |n+1,m+1,j,h1,h2=>by
  simp only[yU]
  split
  .rfl
  .rename_i hj
   split
   .rfl
   .rename_i q hq;obtain⟨h3,h4,_⟩:=hp j.toNat q hq;rw[HQ hp n m q.parent qA qA]
def outer(p:qC)(b:Nat)(x:Int):Int:=match p[b]? with
 |some k=>yU p x b k.parent
 |none=>-1
def zN(p:qC)(b:Nat)(x:Int):Int:=match p[b]? with
 |some k=>if b=0\/x∈k.dc 9 then -1 else if uW b k x then b else outer p b x
 |none=>-1
def bW(p:qC)(b:Nat)(j kind:Int):Bool:=decide ((b:Int)+1<=j/\j<=(O p:Int)-1)&&match p[j.toNat]? with
 |some q=>(q.kind==kind)&&(q.parent==b)
 |none=>M
def fo(s:qT)(b:Int):Bool:=(s.kind==3||s.kind==4)&&s.a==b
def bX(p:qC)(b:Nat):Int:=match p[b]? with
 |some k=>match p[k.parent.toNat]? with
  |some q=>O (q.body.filter (λs=>fo s b))
  |none=>0
 |none=>0
theorem lp{α:Type}{l:List α}{s:α}{f:α->Bool}(h:l[i]?=Z s):(l.take (i+1)).filter f=(l.take i).filter f++(if f s then[s]else[]):=by
 grind[vd]
theorem mz{p:qC}{b:Nat}{k:qY}(hp:ze p)(hk:p[b]?=Z k):outer p b x=yU p x (O p) k.parent:=by
 simp only[outer,hk];obtain⟨h1,h2,_⟩:=hp b k hk
 grind[HQ]
theorem mx{p:qC}{j:Nat}{q:qY}(hp:ze p)(hq:p[j]?=Z q)(h0:0<j):yU p x (O p) j=if q.kind≠1 then yU p x (O p) q.parent else if x∈q.dc 9 then -1 else if uW j q x then(j:Int)else yU p x (O p) q.parent:=by
 have hb:j<O p:=(gS hq).1;obtain⟨h1,h2,_⟩:=hp j q hq;obtain⟨n,hn⟩:∃n,O p=n+1:=⟨O p - 1,qA⟩;have e:yU p x n q.parent=yU p x (n+1) q.parent:=HQ hp _ _ _ qA qA;rw[hn,<- e]
 conv=>lhs;rw[yU]
 grind
theorem B6{p:qC}{j:Int}(h:j<=0):∀n,yU p x n j=-1
 |0=>rfl
 |n+1=>by grind[yU]
abbrev ul(b:Nat)(k:qY):Prop:=if b=0 then k.kind=0/\k.parent=-1/\O k.params=0 else
 1<=k.kind/\k.kind<=2/\0<=k.parent/\k.parent<b/\(O k.params=0\/(O k.params=1/\k.kind=1/\0<=k.params.headD 0/\k.params.headD 0<=7))
def bS(b:Nat)(k:qY):Bool:=decide (ul b k)
abbrev lT(x:Int):Bool:=decide (0<=x)&&decide (x<=7)
def zp(p:qC)(i:Nat)(k:qY)(s:qT):Bool:=lT s.to&&s.reads.all lT &&
 (if s.kind=0 then decide (0<=s.a)&&decide (s.a<=99)&&s.b==0 else if s.kind=1 then s.b==0 else if s.kind=2\/s.kind=5 then B
 else if s.kind=3 then s.b==0&&bW p i s.a 1 else if s.kind=4 then s.b==0&&bW p i s.a 2 else if s.kind=6 then lT s.b
 else if s.kind=7 then s.to==0&&s.b==0 else if s.kind=8 then s.to==0&&s.b==0&&k.kind==1
 else if s.kind=9\/s.kind=10 then s.a==0&&s.b==0&&k.kind != 0 else if s.kind=11 then s.a==0&&s.b==0 else M)
def ac(p:qC)(i:Nat):Bool:=match p[i]? with
 |some k=>bS i k&&decide (O k.body<=12)&&k.body.all (zp p i k)
 |none=>M
def kL(p:qC):Bool:=(decide (1<=O p)&&decide (O p<=7))&&(List.range (O p)).all (ac p)&&(List.range (O p)).all (λi=>i==0||bX p i==1)
theorem ul.head{b:Nat}{k:qY}(h:ul b k):-1<=k.parent/\k.parent<b/\(0<b->0<=k.parent):=by
 grind
theorem C3{p:qC}{k:qY}(hk:p[i]?=Z k)(h:ac p i=B):ul i k/\O k.body<=12/\k.body.all (zp p i k)=B:=by
 grind[ac,bS]
theorem oG{n:Nat}:(List.range (n+1)).all f=((List.range n).all f&&f n):=by
 grind
theorem Lk{p:qC}(h:(List.range (O p)).all (ac p)=B):ze p:=by
 intro i q hq;have hi:i<O p:=(gS hq).1;exact(C3 hq (yn.1 h i (ix.2 hi))).1.head
theorem nH{n:Nat}(hi:i<n)(h:f i=M):(List.range n).all f=M:=by
 grind
theorem Jb{α:Type}{f:α->Bool}{l:List α}{x:α}(hx:x∈l)(h:f x=M):l.all f=M:=by
 grind
def aM(p:qC)(b:Nat)(k:qY)(x:Int):Bool:=
 !(decide (x∈k.dc 9)&&(decide (x∈k.dc 10)||decide (x∈k.params))||decide (x∈k.dc 10)&&(decide (x∈k.params)||decide (outer p b x<0)))
def am(p:qC)(b:Nat):Bool:=match p[b]? with
 |some k=>(List.range 8).all (λx=>aM p b k (x:Int))
 |none=>M
def j2(p:qC):Bool:=kL p&&(List.range (O p)).all (λb=>b==0||am p b)
theorem Bx{p:qC}(h:kL p=B):ze p/\1<=O p/\O p<=7/\(List.range (O p)).all (ac p)=B/\∀i,0<i->i<O p->bX p i=1:=by
 grind[kL,Lk]
def uX(n0 n1 m:Nm):Option Nm:=if Nm.under n0 m&&decide (m≠n0)then Z (Nm.qy n0 n1 m)else if Nm.under n1 m&&decide (m≠n1)then Y else Z m
theorem Mv{k0 k1 k k' x:Nm}(h:uX k0 k1 k=Z x)(h':uX k0 k1 k'=Z x):k=k':=by
 have img:∀m,Nm.under k0 m=B->m≠k0->Nm.under k1 (Nm.qy k0 k1 m)=B/\Nm.qy k0 k1 m≠k1:=by
  intro m hu hne;refine⟨Nm.fG m hu,λe=>hne ?_⟩;exact Nm.EG m k0 hu (Nm.uQ k0) Aw
 grind[uX,Nm.EG]
def Ll(n0 n1:Nm)(hp:Nm->Option AO):Nm->Option AO:=λm=>
 if Nm.under n1 m&&decide (m≠n1)then(if uX n0 n1 (Nm.qy n1 n0 m)=Z m then(hp (Nm.qy n1 n0 m)).map (AO.tr (uX n0 n1))else Y)
 else if Nm.under n0 m&&decide (m≠n0)then Y else(hp m).map (AO.tr (uX n0 n1))
def St.uX(n0 n1:Nm)(st:St):St:=st.nm (Hm.uX n0 n1) (Ll n0 n1 st.hp)
section
variable{X:Ctx}{st:St}{a:Act}{w:World}{K:St->Prop}{E:AV->St->Prop}
theorem Rw.uX(h:Rw X st a w)(n0 n1:Nm):Rw X (st.uX n0 n1) a w:=by
 obtain⟨C,g,e1,e2,e3,e4,e5,hr⟩:=h;refine⟨C,_,e1,e2,e3,e4,?_,hr.rename (f:=Hm.uX n0 n1) (λ_ _ _=>Mv) (λn' o' e=>?_)⟩
 .intro k i j he
  have e:Hm.uX n0 n1 (.u k i j)=Z (.u k i j):=by
   grind[Nm.under,Hm.uX]
  obtain⟨x1,x2⟩:=Gh.gK (g:=g) (λ_ _ _=>Mv) e;obtain⟨y1,y2⟩:=e5 k i j he
  simp_all
 grind[Ll,zq,Hm.uX]
def rY:AV->Option Nm
 |.hs n _ _ _=>if n.z6 then Y else Z n
 |.pt n _=>if n.z6 then Y else Z n
 |.mp n=>if n.z6 then Y else Z n
 |_=>Y
def iU(key:Nat->Nm):Nat->List AV->List (Nm×Nm)
 |_,[]=>[]
 |j,x::l=>match rY x with
  |some k=>(k,key j)::iU key (j+1) l
  |none=>iU key (j+1) l
def nG(n:Nm):Nat->List (List AV)->List (Nm×Nm)
 |_,[]=>[]
 |i,r::l=>iU (λj=>.c n i j) 0 r++nG n (i+1) l
theorem H8{n:Nm}(hn:n.z6=M){i:Nat}:∀(r:List AV)(j:Nat),l9 (iU (λj=>.c n i j) j r)
 |[],_=>by simp[iU,l9]
 |x::l,j=>by
  simp only[iU]
  split
  .rename_i k hk;intro p hp;rcases vV.1 hp with rfl|hp
   .refine⟨?_,rfl⟩;unfold rY at hk
    grind
   .exact H8 hn l (j+1) p hp
  .exact H8 hn l (j+1)
def N8{n:Nm}(hn:n.z6=M):∀(rows:List (List AV))(i:Nat),l9 (nG n i rows)
 |[],_=>by simp[nG,l9]
 |r::l,i=>by
  intro p hp;rcases yI.1 hp with hp|hp
  .exact H8 hn r 0 p hp
  .exact N8 hn l (i+1) p hp
theorem Rw.canon:∀{l:List (Nm×Nm)}{st:St},l9 l->Rw X st a w->Rw X (canon l st) a w
 |[],_,_,h=>h
 |p::l,st,hp,h=>Rw.canon (l:=l) (λq hq=>hp q lL) (h.move p.1 p.2 (.inl (hp p qB).1) (.inl (hp p qB).2))
theorem qe.post{o:Oper}{K':St->Prop}(h:qe X o K' E st)(hK:∀s a w,Rw X s a w->K' s->∃s',Rw X s' a w/\K s'):qe X o K E st:=by
 intro a w Q hR hE;refine Oper.wp_mono ?_ (h a w Q hR hE)
 grind
def NL{F:TypeId}{s x:Operand}{len:Nat}{n:Nm}{rows0 rows2:List (List AV)}{ty:TypeId}{pos:String}{aft:Array Edge}{g:Option (Nat×Bool)}{st':St}(hd:d<X.n)(hT:yW X.P T=Z F)(hz:qi X.P F=z)(hs:ev st s=.hs n z 0 len)(hn:st.hp n=Z (.row z rows0))(hle:len<=O rows0)
  (hx:be st z (ev st x)=Z rows2)(hlen:len+O rows2<=4294967296)(hq:Hm.canon (nG (.s d) len rows2) ((wO d z (len+O rows2) (Z n) (rows0.take len++rows2) st).uX n (.s d))=st')(h:K st'):
  qe X ⟨Z d,.call ⟨.builtin .append,#[s,x],#[T,T]⟩,ty,pos,aft,g⟩ K E st:=by
 refine qe.post (Oe (K:=λs'=>s'=wO d z (len+O rows2) (Z n) (rows0.take len++rows2) st) rfl rfl hd hT hz hs hn hle hx hlen rfl) ?_;rintro s' a w hR rfl;exact⟨_,Rw.canon (N8 rfl _ _) (hR.uX n (.s d)),hq ▸ h⟩
end
section
variable{st:St}{n q m k0 k1:Nm}{t:Nat}{x:AV}{k i j:Nat}
@[simp]theorem mvc_eq:uX k0 k1 m=if Nm.under k0 m&&decide (m≠k0)then Z (Nm.qy k0 k1 m)else if Nm.under k1 m&&decide (m≠k1)then Y else Z m:=rfl
@[simp]theorem mvc_tm:(st.uX n q).tm t=(st.tm t).tr (uX n q):=rfl
@[simp]theorem mvc_gl:(st.uX n q).gl=st.gl:=rfl
@[simp]theorem mvc_hp:(st.uX n q).hp m=if Nm.under q m&&decide (m≠q)then(if uX n q (Nm.qy q n m)=Z m then(st.hp (Nm.qy q n m)).map (AO.tr (uX n q))else Y)else if Nm.under n m&&decide (m≠n)then Y else(st.hp m).map (AO.tr (uX n q)):=rfl
@[simp]theorem cnm_hs{len:Nat}:rY (.hs n z lo len)=if n.z6 then Y else Z n:=rfl
@[simp]theorem cnm_pt:rY (.pt n off)=if n.z6 then Y else Z n:=rfl
@[simp]theorem cnm_sc:rY (.sc v)=Y:=rfl
@[simp]theorem cnm_sl:rY (.sl z rows)=Y:=rfl
@[simp]theorem prc_nil:iU key j []=[]:=rfl
@[simp]theorem prc_cons:iU key j (x::l)=match rY x with|some k=>(k,key j)::iU key (j+1) l|none=>iU key (j+1) l:=rfl
@[simp]theorem prcL_nil:nG n i []=[]:=rfl
@[simp]theorem prcL_cons{l:List (List AV)}:nG n i (r::l)=iU (λj=>.c n i j) 0 r++nG n (i+1) l:=rfl
@[simp]theorem isU_s:(Nm.s k).z6=M:=rfl
@[simp]theorem isU_c:(Nm.c n i j).z6=M:=rfl
@[simp]theorem isU_u:(Nm.u k i j).z6=B:=rfl
end
@[simp]theorem srows_app2{ss:List qT}{a b c d:Int}:yd ss++[[.sc (.int .i64 a),.sc (.int .i64 b),.sc (.int .i64 c),.sc (.int .i64 d)]]=yd (ss++[⟨a,b,c,d⟩]):=gy
def X0(p:qC)(b:Nat)(k:qY):List Int:=(List.range 8).map (λx:Nat=>if(x:Int)∈k.rd++k.bd then zN p b (x:Int)else -2)
def XZ(p:qC)(b:Nat):List Int:=match p[b]? with
 |some k=>X0 p b k
 |none=>[]
def N0(p:qC):List (List Int):=(List.range (O p)).map (XZ p)
def qCa(n:Nm)(t:List (List Int)):List (List AV):=t.mapIdx (λi r=>[.hs (.c n i 0) 1 0 (O r)])
section
variable{t:List (List Int)}{i:Nat}{f:Nm->Option Nm}{n:Nm}
@[simp]theorem tabRows_nil:qCa n []=[]:=rfl
end
def St.pq(st:St)(d:Nat)(H':Nm->Option AO):St:={tm:=st.tm,hp:=λm=>if Nm.under (.s d) m then H' m else st.hp m,n:=st.n,gl:=st.gl}
section
variable{st:St}{d t:Nat}{H':Nm->Option AO}{m:Nm}
@[simp]theorem addH_tm:(st.pq d H').tm=st.tm:=rfl
@[simp]theorem addH_gl:(st.pq d H').gl=st.gl:=rfl
@[simp]theorem addH_hp:(st.pq d H').hp m=if Nm.under (.s d) m then H' m else st.hp m:=rfl
end
theorem Rt{st:St}:st.call d zl y6 H'=(st.kill (.s d)).pq d H':=by
 simp_all[St.call,St.nm,St.pq,St.kill,r8,jN]
section
variable{X:Ctx}{st:St}{K:St->Prop}{E:AV->St->Prop}{d f:Nat}{ty:TypeId}{pos:String}{aft:Array Edge}{g:Option (Nat×Bool)}{args:Array Operand}{Ts:Array TypeId}{az avs:List AV}{R:Nm->AV->(Nm->Option AO)->Prop}
theorem Wr(hd:d<X.n)(ha:args.toList.map (ev st)=avs)(hB:bJ st.hp zl avs az)(hF:qL X.P X.gl f az R)(hK:∀y H',R (.s d) y H'->y.jX=B/\K (((st.kill (.s d)).pq d (vj H')).put (Z d) y)):
  qe X ⟨Z d,.call ⟨.value (.func f),args,Ts⟩,ty,pos,aft,g⟩ K E st:=by
 grind[IP,Rt,ni]
end
theorem ap{n:Nm}(h:H' n=Z (.row z rows))(hc:rows.all (λr=>r.all AV.jX)=B):vj H' n=Z (.row z rows):=by
 grind[vj,AO.jX]
end Go.Hm
end
section

end
