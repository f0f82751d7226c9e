/-
  Proved: the law FnRunText returns true for every list of bytes handed to it, and these read az they did before; tied to the program's text. Conditions: the listed variables hold what the program's text lays there (the card ties it).
  Own work: the arguments' readings are turned into values, the tables into rows; then the law's walk holds.
-/
import Derived.Test.YtjgpejikjhojcaaGreatDoorT44
import Derived.Lay
import Derived.ProofKit
import Derived.LaidMore
import Derived.OpenVars
import Derived.SevenTiedAt
import Derived.Test.YtjgpejikjhojcaaGreatDoorRows
import Derived.Test.YtjgpejikjhojcaaGreatDoorCards
import Derived.Test.YtjgpejikjhojcaaGreatDoorTie
set_option linter.unusedSimpArgs false
set_option linter.unusedVariables false

namespace Go.Proofs.YtjgpejikjhojcaaGreatDoor
open Go Go.ChangeShapes Go.WideShapes Go.ChangeAt Go.RowKit Go.Deep Go.Hm

theorem Sf:ownKnob Tryz.prog.godebug=none:=qY
theorem Jk:laidOutB Tryz.prog=true:=qY
theorem SW:Tryz.prog.underlying 4=some .bool:=qY
theorem Sj:Tryz.prog.underlying 5=some (.int .u8):=qY
theorem SY:Tryz.prog.cellsOf 5=1:=qY
theorem SV:Tryz.prog.bytesOf 5=1:=qY
theorem SX:Tryz.prog.underlying 28=some (.slice 5):=qY
theorem Jj:Tryz.prog.underlying 3=some (.int .i64):=qY
theorem SZ:Tryz.prog.cellsOf 3=1:=qY
theorem Jl:Tryz.prog.underlying 9=some .string:=qY
theorem Jd:Tryz.prog.cellsOf 9=1:=qY
theorem Sd {W:World} (h:W.ShapedOpen Tryz.prog):∃ m,W.cell? ⟨3,0,none⟩=some (.int .i64 m) :=
 cell_of_shapedOpen_int h (lB qY) (zero:=#[.int .i64 0]) (t:=3) qY rfl qY qY Jj
theorem Sh:Tryz.prog.underlying 316=some (.array 5 3):=qY
theorem Jg:Tryz.prog.globalNamed "loop.example/closurecells/impl.loadCodes"=some 4:=qY
theorem S3:(Tryz.prog.globals[4]?).map (·.type)=some 316:=qY
abbrev ZV:List Value:=([8,5,11,5,2]:List Int).map λk=>.int .i64 k
theorem Si:Tryz.prog.underlying 243=some (.array 12 9):=qY
theorem Jh:Tryz.prog.globalNamed "loop.example/closurecells/impl.stmtWords"=some 1:=qY
theorem S4:(Tryz.prog.globals[1]?).map (·.type)=some 243:=qY
abbrev ZW:List Value:=df yM
theorem Sg:Tryz.prog.underlying 64=some (.array 8 9):=qY
theorem Jf:Tryz.prog.globalNamed "loop.example/closurecells/impl.endWords"=some 0:=qY
theorem S2:(Tryz.prog.globals[0]?).map (·.type)=some 64:=qY
abbrev ZU:List Value:=df kj
theorem Jm:Tryz.prog.underlying 284=some (.array 20 230):=qY
theorem Jn:Tryz.prog.underlying 230=some (.int .u64):=qY
theorem Jc:Tryz.prog.cellsOf 230=1:=qY
theorem Je:Tryz.prog.cellsOf 284=20:=qY
theorem Bf:Tryz.prog.globalNamed "internal/strconv.uint64pow10"=some 2:=qY
theorem Ji:(Tryz.prog.globals[2]?).map (·.type)=some 284:=qY
abbrev ZX:List Value:=lY

/-- what is laid -/
def mw:List (String×DataW Unit):=[("math/bits.deBruijn32tab",Rows.laid_math_bits_deBruijn32tab),("math/bits.deBruijn64tab",Rows.laid_math_bits_deBruijn64tab),("internal/strconv.uint64pow10",Rows.laid_internal_strconv_uint64pow10),("unicode/utf8.acceptRanges",Rows.laid_unicode_utf8_acceptRanges),("loop.example/closurecells/impl.loadCodes",Rows.laid_loop_example_closurecells_impl_loadCodes),("loop.example/closurecells/impl.stmtWords",Rows.laid_loop_example_closurecells_impl_stmtWords),("loop.example/closurecells/impl.endWords",Rows.laid_loop_example_closurecells_impl_endWords),("unicode/utf8.first",Rows.laid_unicode_utf8_first)]
/-- the tables -/
abbrev xa (m:Int):List (Nat×List Value):=[(3,[.int .i64 m]),(4,ZV),(1,ZW),(0,ZU),(2,ZX)]
theorem S1 (os:Os) (args:Array Value):laidMetH Tryz.prog mw ((World.laidAll Tryz.prog os mw).forCall (λ_ _=>0) ⟨#[],args,[]⟩).memory:=by
 rw [MakeChecks.laidMetH_plain _ _ _ qY];exact laidMet_laidAll _ qY qY
theorem ZY {W:World} {m:Int} (hm:W.cell? ⟨3,0,none⟩=some (.int .i64 m)) (h:laidMetH Tryz.prog mw W):∀ t∈(xa m),0<t.2.length/\(∀ v∈t.2,v.oneCell'=true)/\∀ i v,t.2[i]?=some v->W.cell? ⟨t.1,i,none⟩=some v:=by
 rw [MakeChecks.laidMetH_plain _ _ _ qY] at h;obtain⟨ps,⟨g0,t0,cs0,f0,p0,q0,hg0,ht0,hv0,hd0,⟨g1,t1,cs1,f1,p1,q1,hg1,ht1,hv1,hd1,⟨g2,t2,cs2,f2,p2,q2,hg2,ht2,hv2,hd2,⟨g3,t3,cs3,f3,p3,q3,hg3,ht3,hv3,hd3,⟨g4,t4,cs4,f4,p4,q4,hg4,ht4,hv4,hd4,⟨g5,t5,cs5,f5,p5,q5,hg5,ht5,hv5,hd5,⟨g6,t6,cs6,f6,p6,q6,hg6,ht6,hv6,hd6,⟨g7,t7,cs7,f7,p7,q7,hg7,ht7,hv7,hd7,_,_⟩,_⟩,_⟩,_⟩,_⟩,_⟩,_⟩,_⟩,_⟩:=h;intro t ht;simp only [xa,vB,tO,or_false] at ht;rcases ht with rfl|rfl|rfl|rfl|rfl
 .refine⟨qB,λv hv=>?_,λj v hv=>?_⟩
  .rw [yj] at hv;subst hv
   rfl
  .match j,hv with
   | 0,hv=>obtain rfl:=sI hv;exact hm
   | j+1,hv=>simp at hv
 .obtain rfl:=sI (Jg.symm.trans hg4);obtain rfl:=sI (S3.symm.trans ht4);refine⟨qc,λv hv=>?_,λj v hv=>?_⟩
  .obtain⟨x,_,rfl⟩:=wU.1 hv
   rfl
  .rw [jg] at hv;obtain⟨x,hx,rfl⟩:=zg.1 hv;exact W7 (l:=[8,5,11,5,2]) Sh Jj SZ Jg hv4 hd4 j x hx
 .obtain rfl:=sI (Jh.symm.trans hg5);obtain rfl:=sI (S4.symm.trans ht5);refine⟨qc,λv hv=>?_,L1 (l:=yM) Si Jl Jd Jh hv5 hd5⟩;obtain⟨x,_,rfl⟩:=wU.1 hv
  rfl
 .obtain rfl:=sI (Jf.symm.trans hg6);obtain rfl:=sI (S2.symm.trans ht6);refine⟨qc,λv hv=>?_,L1 (l:=kj) Sg Jl Jd Jf hv6 hd6⟩;obtain⟨x,_,rfl⟩:=wU.1 hv
  rfl
 .obtain rfl:=sI (Bf.symm.trans hg2);obtain rfl:=sI (Ji.symm.trans ht2);refine⟨qc,λv hv=>?_,(L0 Jm Jn Jc Je Bf hv2 hd2 qY).1⟩;obtain⟨x,_,rfl⟩:=wU.1 hv
  rfl
theorem QV {W:World} {m:Int} (h:laidMetH Tryz.prog mw W):∀ t∈(xa m),cL W t.1 (t.2.map .sc):=by
 rw [MakeChecks.laidMetH_plain _ _ _ qY] at h;obtain⟨ps,⟨g0,t0,cs0,f0,p0,q0,hg0,ht0,hv0,hd0,⟨g1,t1,cs1,f1,p1,q1,hg1,ht1,hv1,hd1,⟨g2,t2,cs2,f2,p2,q2,hg2,ht2,hv2,hd2,⟨g3,t3,cs3,f3,p3,q3,hg3,ht3,hv3,hd3,⟨g4,t4,cs4,f4,p4,q4,hg4,ht4,hv4,hd4,⟨g5,t5,cs5,f5,p5,q5,hg5,ht5,hv5,hd5,⟨g6,t6,cs6,f6,p6,q6,hg6,ht6,hv6,hd6,⟨g7,t7,cs7,f7,p7,q7,hg7,ht7,hv7,hd7,_,_⟩,_⟩,_⟩,_⟩,_⟩,_⟩,_⟩,_⟩,_⟩:=h;intro t ht;simp only [xa,vB,tO,or_false] at ht;rcases ht with rfl|rfl|rfl|rfl|rfl
 .exact BM (λz e=>fO)
 .exact BM (λz e=>fO)
 .exact BM (λz e=>fO)
 .exact BM (λz e=>fO)
 .obtain rfl:=sI (Bf.symm.trans hg2);obtain rfl:=sI (Ji.symm.trans ht2);exact (L0 Jm Jn Jc Je Bf hv2 hd2 qY).2

set_option maxRecDepth 100000 in
theorem Sc (os:Os) (started:os.Started) (H:Type) (enc:TypeId×Value->H) :
  ReturnsInHanded {} Tryz.checked os 4 .any (λw args=>(Rows.fnRunTextSpec.pre enc Tryz.prog Tryz.f4 [] false w args/\laidMetH Tryz.prog mw w)/\sizedMet enc Tryz.prog Tryz.f4 (OpenSpec.ofChange Rows.fnRunTextSpec) false w args)
   (Rows.fnRunTextSpec.post enc Tryz.prog Tryz.f4 false true false false):=by
 refine R7 (C:=Tryz.checked) (X:=λw _=>laidMetH Tryz.prog mw w) (λ_ _ _ hh h=>h.of_heap hh) Sf started qY Tryz.func4
  (ChangeSpec.witness_shaped (enc:=enc) (C:=Tryz.checked) (os:=os) (X:=λw _=>laidMetH Tryz.prog mw w) false (World.laidAll Tryz.prog os mw) #[.slice none 0 0] 8 (World.laidAll_os _ _ _) (World.shaped_of_ZipB qY qY) qY qY qY (S1 os _)) ?_
 intro W base args ds gs before hsh hval0 hW _ hsz0 hL _;obtain⟨m,hm⟩:=Sd hsh;have hval:∀ (j:Nat) t v,Tryz.f4.params[j]?=some t->args[j]?=some v->Value.okWide Tryz.prog W .any base t v:=hval0;have hsz:(DataW.weightsEach Tryz.prog (Tryz.f4.params.toList++Rows.fnRunTextSpec.plain.varTypes Tryz.prog) (ds++gs)).all (·<=reachBytes)=true:=hsz0;have hW':=hW;obtain⟨p,q,hA0,hV,rfl,hfz,hnd⟩:=hW;have hA:DataW.TrodAll enc Tryz.prog W 0 (λ_=>true) true Tryz.f4.params.toList args.toList ds p:=hA0;rw [show Tryz.f4.params=#[28] from rfl] at hA hval hsz;obtain⟨v0,d0,rfl,rfl,h0⟩:=trodAll_one hA;have hw:∀ m∈d0.weights Tryz.prog 28,m<=reachBytes:=λm hm=>of_decide_eq_true (yS.1 hsz m (DataW.weights_mem_each (j:=0) (t:=28) rfl rfl m hm));obtain⟨x,hx,hr⟩:=W5 SX Sj SY (by rw [SV];decide) (hval 0 28 v0 rfl rfl) h0 hw;obtain⟨dv,dw,dx,rfl⟩:=Zn hV;clear hA0 hval0 hsz0;refine (qM.W2 (Nq (m:=m) (xQ (xa m)) bf bf bf bf bf x hx.2 hx.1) (W:=W) (g:=g0 W) (args:=#[v0]) (λb hb=>hb) (JM (ZY hm hL) (QV hL)) rfl ?_).mono λe W' he=>?_
 .intro j v a hv ha
  match j,hv,ha with
  | 0,hv,ha=>simp at hv ha;subst hv;subst ha;exact hr
  | j+1,hv,ha=>simp at hv
 .obtain⟨rfl,hb⟩:=he;have hlt:∀ y∈p,y.block<W.heap.size:=λy hy=>hW'.lt y (by simp [hy]);refine⟨_,rfl,[d0],[dv,dw,dx],p++q,[],p++[],_,?_,trodAll_cons_mk (shut_bool SW _) trodAll_mk0,?_,hb.trodVars Jk qY hV,hb.frame _,λh=>wH⟩
  .simpa using hW'
  .exact⟨p,[],hb.trod Jk qY (of_decide_eq_true qY) h0 hlt,rfl,rfl⟩
theorem S5:Rows.fnRunTextRow.wf (OpenSpec.ofChange Rows.fnRunTextSpec)=true:=qY
theorem S6:Tryz.f4.params.all (Tryz.prog.readableRec ·)=true:=qY
theorem S7:namedTie Tryz.prog Rows.fnRunTextRow.named Rows.fnRunTextSpec.vars=true:=qY
theorem S8:(Rows.fnRunTextRow.inPlace==Tryz.prog.inPlace 4)=true:=qY
theorem S9:(Rows.fnRunTextRow.unfollowed==Tryz.prog.unfollowed 4)=true:=qY
theorem Sa:(Rows.fnRunTextRow.recurses==Tryz.prog.recurses 4)=true:=qY
theorem Sb:(Rows.fnRunTextRow.named==Tryz.prog.varsNamed 4)=true:=qY
theorem S0:joinedFacts Tryz.prog 4 Tryz.f4 Rows.fnRunTextSpec Rows.fnRunTextRow=true :=
 SH VI S5 S6 S7 rfl rfl S8 S9 Sa Sb qY qY qY qY qY qY qY qY qY rfl rfl rfl rfl qY qY qY qY

theorem Se:Rows.fnRunTextRow.holds Tryz.pinned (OpenSpec.ofChange Rows.fnRunTextSpec) :=
 OpenClaim.holds_of_wide 4 Tryz.f4 rfl rfl rfl rfl rfl rfl rfl ⟨rfl,rfl,rfl,rfl,rfl⟩ rfl rfl rfl rfl rfl qY Tryz.func4 S0
  (of_decide_eq_true qY) (by unfold Func.isWrapper;first|(rw [if_pos (by decide +kernel)];kernel_rfl)|(rw [if_neg (by decide +kernel)];exact⟨rfl,rfl⟩))
  (λos started H enc _=>Sc os started H enc)

theorem fnRunText_holds:Rows.FnRunTextCardSaid :=
 Claim7.holds_tied_plain_at .later [] [.data,.data,.data,.data,.data,.data,.data,.pinned] true Rows.fnRunTextCard.stood.harness true
  Se (λ_ h=>wH) qY (λ_ h=>wH) fnRunText_row_tie rfl ⟨rfl,rfl⟩ qY rfl
  (λf fn hf hfn=>by
    obtain rfl:f=4:=sI ((show Tryz.prog.funcNamed "loop.example/closurecells/laws.FnRunText"=some 4 by kernel_rfl).symm.trans hf) |>.symm
    obtain rfl:fn=Tryz.f4:=(sI (Tryz.func4.symm.trans hfn)).symm
    exact⟨qY,λj t ht=>by
     rw [show Tryz.f4.params=#[28] from rfl] at ht;have hm:t∈[28]:=by simpa using Array.mem_of_getElem? ht
     have hall:([28].all λu=>!Tryz.prog.wantsStandIn u)=true:=qY;exact (show Tryz.prog.wantsStandIn t=false by simpa using yS.1 hall t hm)⟩)
  qY

#print axioms fnRunText_holds
end Go.Proofs.YtjgpejikjhojcaaGreatDoor
