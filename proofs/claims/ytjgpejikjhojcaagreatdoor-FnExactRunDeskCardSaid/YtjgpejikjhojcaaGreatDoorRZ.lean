/-
  Proved: the law FnExactRunDesk returns true for every text and every list of texts handed to it, and these read az they did before; tied to the program's text. Conditions: the listed variables hold what the program's text lays there (the card ties it).
  Own work: the arguments' readings are turned into values, the tables into rows; then the law's walk holds.
-/
import Derived.Test.YtjgpejikjhojcaaGreatDoorR44
import Derived.ChangeMaps5
import Derived.Lay
import Derived.ProofKit
import Derived.LaidMore
import Derived.OpenVars
import Derived.SevenTiedAt
import Derived.Test.YtjgpejikjhojcaaGreatDoorRows
import Derived.Test.YtjgpejikjhojcaaGreatDoorCards
import Derived.Test.YtjgpejikjhojcaaGreatDoorTie
set_option linter.unusedSimpArgs false
set_option linter.unusedVariables false

namespace Go.Proofs.YtjgpejikjhojcaaGreatDoor
open Go Go.ChangeShapes Go.WideShapes Go.ChangeAt Go.RowKit Go.Deep Go.Hm Go.ChangeMaps

theorem TB:ownKnob Tryz.prog.godebug=none:=qc
theorem KR:laidOutB Tryz.prog=true:=qc
theorem Si:Tryz.prog.underlying 4=some .bool:=qc
theorem KQ:Tryz.prog.underlying 3=some (.int .i64):=qc
theorem Sk:Tryz.prog.cellsOf 3=1:=qc
theorem AC:Tryz.prog.underlying 9=some .string:=qc
theorem FD:Tryz.prog.cellsOf 9=1:=qc
theorem Sj:Tryz.prog.bytesOf 9=16:=qc
theorem TC:Tryz.prog.underlying 22=some (.slice 9):=qc
theorem Sz {W:World} (h:W.ShapedOpen Tryz.prog):∃ m,W.cell? ⟨3,0,none⟩=some (.int .i64 m) :=
 cell_of_shapedOpen_int h (lB qc) (zero:=#[.int .i64 0]) (t:=3) qc rfl qc qc KQ
theorem TE:Tryz.prog.underlying 316=some (.array 5 3):=qc
theorem KN:Tryz.prog.globalNamed "loop.example/closurecells/impl.loadCodes"=some 4:=qc
theorem So:(Tryz.prog.globals[4]?).map (·.type)=some 316:=qc
abbrev Ξ:List Value:=([8,5,11,5,2]:List Int).map λk=>.int .i64 k
theorem TF:Tryz.prog.underlying 243=some (.array 12 9):=qc
theorem KO:Tryz.prog.globalNamed "loop.example/closurecells/impl.stmtWords"=some 1:=qc
theorem Sp:(Tryz.prog.globals[1]?).map (·.type)=some 243:=qc
abbrev Φ:List Value:=dF vH
theorem TD:Tryz.prog.underlying 64=some (.array 8 9):=qc
theorem KM:Tryz.prog.globalNamed "loop.example/closurecells/impl.endWords"=some 0:=qc
theorem Sn:(Tryz.prog.globals[0]?).map (·.type)=some 64:=qc
abbrev Θ:List Value:=dF aD
theorem KS:Tryz.prog.underlying 284=some (.array 20 230):=qc
theorem KT:Tryz.prog.underlying 230=some (.int .u64):=qc
theorem KK:Tryz.prog.cellsOf 230=1:=qc
theorem KL:Tryz.prog.cellsOf 284=20:=qc
theorem CI:Tryz.prog.globalNamed "internal/strconv.uint64pow10"=some 2:=qc
theorem KP:(Tryz.prog.globals[2]?).map (·.type)=some 284:=qc
abbrev Ψ:List Value:=fp

/-- what is laid -/
def nH:List (String×DataW Unit):=[("math/bits.deBruijn32tab",Rows.laid_math_bits_deBruijn32tab),("math/bits.deBruijn64tab",Rows.laid_math_bits_deBruijn64tab),("internal/strconv.uint64pow10",Rows.laid_internal_strconv_uint64pow10),("unicode/utf8.acceptRanges",Rows.laid_unicode_utf8_acceptRanges),("loop.example/closurecells/impl.loadCodes",Rows.laid_loop_example_closurecells_impl_loadCodes),("loop.example/closurecells/impl.stmtWords",Rows.laid_loop_example_closurecells_impl_stmtWords),("loop.example/closurecells/impl.endWords",Rows.laid_loop_example_closurecells_impl_endWords),("unicode/utf8.first",Rows.laid_unicode_utf8_first)]
/-- the tables -/
abbrev AB (m:Int):List (Nat×List Value):=[(3,[.int .i64 m]),(4,Ξ),(1,Φ),(0,Θ),(2,Ψ)]
theorem Sm (os:Os) (args:Array Value):laidMetH Tryz.prog nH ((World.laidAll Tryz.prog os nH).forCall (λ_ _=>0) ⟨#[],args,[]⟩).memory:=by
 rw [MakeChecks.laidMetH_plain _ _ _ qc];exact laidMet_laidAll _ qc qc
theorem Ω {W:World} {m:Int} (hm:W.cell? ⟨3,0,none⟩=some (.int .i64 m)) (h:laidMetH Tryz.prog nH W):∀ t∈(AB m),0<t.2.length/\(∀ v∈t.2,v.oneCell'=true)/\∀ i v,t.2[i]?=some v->W.cell? ⟨t.1,i,none⟩=some v:=by
 rw [MakeChecks.laidMetH_plain _ _ _ qc] at h;obtain⟨ps,⟨g0,t0,cs0,f0,p0,q0,hg0,ht0,hv0,hd0,⟨g1,t1,cs1,f1,p1,q1,hg1,ht1,hv1,hd1,⟨g2,t2,cs2,f2,p2,q2,hg2,ht2,hv2,hd2,⟨g3,t3,cs3,f3,p3,q3,hg3,ht3,hv3,hd3,⟨g4,t4,cs4,f4,p4,q4,hg4,ht4,hv4,hd4,⟨g5,t5,cs5,f5,p5,q5,hg5,ht5,hv5,hd5,⟨g6,t6,cs6,f6,p6,q6,hg6,ht6,hv6,hd6,⟨g7,t7,cs7,f7,p7,q7,hg7,ht7,hv7,hd7,_,_⟩,_⟩,_⟩,_⟩,_⟩,_⟩,_⟩,_⟩,_⟩:=h;intro t ht;simp only [AB,vQ,List.not_mem_nil,or_false] at ht;rcases ht with rfl|rfl|rfl|rfl|rfl
 .refine⟨qB,λv hv=>?_,λj v hv=>?_⟩
  .rw [vD] at hv;subst hv
   rfl
  .match j,hv with
   | 0,hv=>obtain rfl:=sI hv;exact hm
   | j+1,hv=>simp at hv
 .obtain rfl:=sI (KN.symm.trans hg4);obtain rfl:=sI (So.symm.trans ht4);refine⟨qe,λv hv=>?_,λj v hv=>?_⟩
  .obtain⟨x,_,rfl⟩:=bV.1 hv
   rfl
  .rw [jZ] at hv;obtain⟨x,hx,rfl⟩:=zu.1 hv;exact X2 (l:=[8,5,11,5,2]) TE KQ Sk KN hv4 hd4 j x hx
 .obtain rfl:=sI (KO.symm.trans hg5);obtain rfl:=sI (Sp.symm.trans ht5);refine⟨qe,λv hv=>?_,MC (l:=vH) TF AC FD KO hv5 hd5⟩;obtain⟨x,_,rfl⟩:=bV.1 hv
  rfl
 .obtain rfl:=sI (KM.symm.trans hg6);obtain rfl:=sI (Sn.symm.trans ht6);refine⟨qe,λv hv=>?_,MC (l:=aD) TD AC FD KM hv6 hd6⟩;obtain⟨x,_,rfl⟩:=bV.1 hv
  rfl
 .obtain rfl:=sI (CI.symm.trans hg2);obtain rfl:=sI (KP.symm.trans ht2);refine⟨qe,λv hv=>?_,(MB KS KT KK KL CI hv2 hd2 qc).1⟩;obtain⟨x,_,rfl⟩:=bV.1 hv
  rfl
theorem Qd {W:World} {m:Int} (h:laidMetH Tryz.prog nH W):∀ t∈(AB m),cB W t.1 (t.2.map .sc):=by
 rw [MakeChecks.laidMetH_plain _ _ _ qc] at h;obtain⟨ps,⟨g0,t0,cs0,f0,p0,q0,hg0,ht0,hv0,hd0,⟨g1,t1,cs1,f1,p1,q1,hg1,ht1,hv1,hd1,⟨g2,t2,cs2,f2,p2,q2,hg2,ht2,hv2,hd2,⟨g3,t3,cs3,f3,p3,q3,hg3,ht3,hv3,hd3,⟨g4,t4,cs4,f4,p4,q4,hg4,ht4,hv4,hd4,⟨g5,t5,cs5,f5,p5,q5,hg5,ht5,hv5,hd5,⟨g6,t6,cs6,f6,p6,q6,hg6,ht6,hv6,hd6,⟨g7,t7,cs7,f7,p7,q7,hg7,ht7,hv7,hd7,_,_⟩,_⟩,_⟩,_⟩,_⟩,_⟩,_⟩,_⟩,_⟩:=h;intro t ht;simp only [AB,vQ,List.not_mem_nil,or_false] at ht;rcases ht with rfl|rfl|rfl|rfl|rfl
 .exact Bs (λz e=>by simp at e)
 .exact Bs (λz e=>by simp at e)
 .exact Bs (λz e=>by simp at e)
 .exact Bs (λz e=>by simp at e)
 .obtain rfl:=sI (CI.symm.trans hg2);obtain rfl:=sI (KP.symm.trans ht2);exact (MB KS KT KK KL CI hv2 hd2 qc).2

set_option maxRecDepth 100000 in
theorem Sy (os:Os) (started:os.Started) (H:Type) (enc:TypeId×Value->H) :
  ReturnsInHanded {} Tryz.checked os 3 .any (λw args=>(Rows.fnExactRunDeskSpec.pre enc Tryz.prog Tryz.f3 [] false w args/\laidMetH Tryz.prog nH w)/\sizedMet enc Tryz.prog Tryz.f3 (OpenSpec.ofChange Rows.fnExactRunDeskSpec) false w args)
   (Rows.fnExactRunDeskSpec.post enc Tryz.prog Tryz.f3 false true false false):=by
 refine Ru (C:=Tryz.checked) (X:=λw _=>laidMetH Tryz.prog nH w) (λ_ _ _ hh h=>h.of_heap hh) TB started qc Tryz.func3
  (ChangeSpec.witness_shaped (enc:=enc) (C:=Tryz.checked) (os:=os) (X:=λw _=>laidMetH Tryz.prog nH w) false (World.laidAll Tryz.prog os nH) #[.string ⟨#[]⟩,.slice none 0 0] 8 (World.laidAll_os _ _ _) (World.shaped_of_ZipB qc qc) qc qc qc (Sm os _)) ?_
 intro W base args ds gs before hsh hval0 hW _ hsz0 hL _;obtain⟨m,hm⟩:=Sz hsh;have hval:∀ (j:Nat) t v,Tryz.f3.params[j]?=some t->args[j]?=some v->Value.okWide Tryz.prog W .any base t v:=hval0;have hsz:(DataW.weightsEach Tryz.prog (Tryz.f3.params.toList++Rows.fnExactRunDeskSpec.plain.varTypes Tryz.prog) (ds++gs)).all (·<=reachBytes)=true:=hsz0;have hW':=hW;obtain⟨p,q,hA0,hV,rfl,hfz,hnd⟩:=hW;have hA:DataW.TrodAll enc Tryz.prog W 0 (λ_=>true) true Tryz.f3.params.toList args.toList ds p:=hA0;rw [show Tryz.f3.params=#[9,22] from rfl] at hA hval hsz;obtain⟨v0,v1,d0,d1,p0,p1,rfl,rfl,rfl,h0,h1⟩:=trodAll_two hA;obtain⟨s0,rfl,rfl,rfl,w0⟩:=open_string AC (hval 0 9 v0 rfl rfl) h0;have hw:∀ m∈d1.weights Tryz.prog 22,m<=reachBytes:=λm hm=>of_decide_eq_true (y5.1 hsz m (DataW.weights_mem_each (j:=1) (t:=22) rfl rfl m hm));obtain⟨x,hx,hr⟩:=X4 TC AC FD (by rw [Sj];decide) (hval 1 22 v1 rfl rfl) h1 hw;obtain⟨dv,dw,dx,rfl⟩:=qA1 hV;clear hA0 hval0 hsz0;refine (qM.X0 (OL (m:=m) (xm (AB m)) b8 b8 b8 b8 b8 s0.data.toList x (show s0.data.toList.length<=9223372036854775807 from w0) hx.1 hx.2) (W:=W) (g:=g0 W) (args:=#[.string s0,v1]) (λb hb=>hb) (Je (Ω hm hL) (Qd hL)) rfl ?_).mono λe W' he=>?_
 .intro j v a hv ha
  match j,hv,ha with
  | 0,hv,ha=>simp at hv ha;subst hv;subst ha;exact .sc _
  | 1,hv,ha=>simp at hv ha;subst hv;subst ha;exact hr
  | j+2,hv,ha=>simp at hv
 .obtain⟨rfl,hb⟩:=he;have hlt:∀ y∈p1,y.block<W.heap.size:=λy hy=>hW'.lt y (by simp [hy]);refine⟨_,rfl,[.lit (.string s0.data.toList),d1],[dv,dw,dx],p1++q,[],[]++(p1++[]),_,?_,trodAll_cons_mk (shut_bool Si _) trodAll_mk0,?_,hb.trodVars KR qc hV,hb.frame _,λh=>kR⟩
  .simpa using hW'
  .exact trodAll_cons_mk (shut_string AC w0) (trodAll_cons_mk (hb.trod KR qc (of_decide_eq_true qc) h1 hlt) trodAll_mk0)
theorem Sq:Rows.fnExactRunDeskRow.wf (OpenSpec.ofChange Rows.fnExactRunDeskSpec)=true:=qc
theorem Sr:Tryz.f3.params.all (Tryz.prog.readableRec ·)=true:=qc
theorem Ss:namedTie Tryz.prog Rows.fnExactRunDeskRow.named Rows.fnExactRunDeskSpec.vars=true:=qc
theorem Su:(Rows.fnExactRunDeskRow.inPlace==Tryz.prog.inPlace 3)=true:=qc
theorem Sv:(Rows.fnExactRunDeskRow.unfollowed==Tryz.prog.unfollowed 3)=true:=qc
theorem Sw:(Rows.fnExactRunDeskRow.recurses==Tryz.prog.recurses 3)=true:=qc
theorem Sx:(Rows.fnExactRunDeskRow.named==Tryz.prog.varsNamed 3)=true:=qc
theorem Sl:joinedFacts Tryz.prog 3 Tryz.f3 Rows.fnExactRunDeskSpec Rows.fnExactRunDeskRow=true :=
 S6 VX Sq Sr Ss rfl rfl Su Sv Sw Sx qc qc qc qc qc qc qc qc qc rfl rfl rfl rfl qc qc qc qc

theorem TA:Rows.fnExactRunDeskRow.holds Tryz.pinned (OpenSpec.ofChange Rows.fnExactRunDeskSpec) :=
 OpenClaim.holds_of_wide 3 Tryz.f3 rfl rfl rfl rfl rfl rfl rfl ⟨rfl,rfl,rfl,rfl,rfl⟩ rfl rfl rfl rfl rfl qc Tryz.func3 Sl
  (of_decide_eq_true qc) (by unfold Func.isWrapper;first|(rw [if_pos (by decide +kernel)];kernel_rfl)|(rw [if_neg (by decide +kernel)];exact⟨rfl,rfl⟩))
  (λos started H enc _=>Sy os started H enc)

theorem fnExactRunDesk_holds:Rows.FnExactRunDeskCardSaid :=
 Claim7.holds_tied_plain_at .later [] [.data,.data,.data,.data,.data,.data,.data,.pinned] true Rows.fnExactRunDeskCard.stood.harness true
  TA (λ_ h=>kR) qc (λ_ h=>kR) fnExactRunDesk_row_tie rfl ⟨rfl,rfl⟩ qc rfl
  (λf fn hf hfn=>by
    obtain rfl:f=3:=sI ((show Tryz.prog.funcNamed "loop.example/closurecells/laws.FnExactRunDesk"=some 3 by kernel_rfl).symm.trans hf) |>.symm
    obtain rfl:fn=Tryz.f3:=(sI (Tryz.func3.symm.trans hfn)).symm
    exact⟨qc,λj t ht=>by
     rw [show Tryz.f3.params=#[9,22] from rfl] at ht;have hm:t∈[9,22]:=by simpa using Array.mem_of_getElem? ht
     have hall:([9,22].all λu=>!Tryz.prog.wantsStandIn u)=true:=qc;exact (show Tryz.prog.wantsStandIn t=false by simpa using y5.1 hall t hm)⟩)
  qc

#print axioms fnExactRunDesk_holds
end Go.Proofs.YtjgpejikjhojcaaGreatDoor
