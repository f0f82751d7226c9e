/-
  Proved: the law FnRunDesk returns true for every list of bytes handed to it, and these read az they did before; tied to the program's text. Conditions: the listed variables hold what the program's text lays there (the card ties it).
  Own work: the arguments' readings are turned into values, the tables into rows; then the law's walk holds.
-/
import Derived.Test.YtjgpejikjhojcaaGreatDoorD49
import Derived.Lay
import Derived.ProofKit
import Derived.LaidMore
import Derived.OpenVars
import Derived.SevenTiedAt
import Derived.Test.YtjgpejikjhojcaaGreatDoorRows
import Derived.Test.YtjgpejikjhojcaaGreatDoorCards
import Derived.Test.YtjgpejikjhojcaaGreatDoorTie
set_option linter.all false
open Option renaming some->Z,none->Y
open Bool renaming true->B,false->M
open List renaming length->O

namespace Go.Proofs.YtjgpejikjhojcaaGreatDoor
open Go Go.ChangeShapes Go.WideShapes Go.ChangeAt Go.RowKit Go.Deep Go.Hm

def V1:ownKnob Tryz.prog.godebug=Y:=qc
def MV:laidOutB Tryz.prog=B:=qc
def VI:Tryz.prog.underlying 4=Z .bool:=qc
def V5:Tryz.prog.underlying 5=Z (.int .u8):=qc
def VK:Tryz.prog.cellsOf 5=1:=qc
def VH:Tryz.prog.bytesOf 5=1:=qc
def VJ:Tryz.prog.underlying 28=Z (.slice 5):=qc
def MU:Tryz.prog.underlying 3=Z (.int .i64):=qc
def VL:Tryz.prog.cellsOf 3=1:=qc
def MW:Tryz.prog.underlying 9=Z .string:=qc
def MO:Tryz.prog.cellsOf 9=1:=qc
def VZ{W:World}(h:W.ShapedOpen Tryz.prog):∃m,W.cell? ⟨3,0,Y⟩=Z (.int .i64 m):=
 cell_of_shapedOpen_int h (lB qc) (zero:=#[.int .i64 0]) (t:=3) qc rfl qc qc MU
def V3:Tryz.prog.underlying 316=Z (.array 5 3):=qc
def MR:Tryz.prog.globalNamed "loop.example/closurecells/impl.loadCodes"=Z 4:=qc
def VP:(Tryz.prog.globals[4]?).map (·.type)=Z 316:=qc
abbrev qCc:List Value:=([8,5,11,5,2]:List Int).map λk=>.int .i64 k
def V4:Tryz.prog.underlying 243=Z (.array 12 9):=qc
def MS:Tryz.prog.globalNamed "loop.example/closurecells/impl.stmtWords"=Z 1:=qc
def VQ:(Tryz.prog.globals[1]?).map (·.type)=Z 243:=qc
abbrev qCd:List Value:=eP ye
def V2:Tryz.prog.underlying 64=Z (.array 8 9):=qc
def MQ:Tryz.prog.globalNamed "loop.example/closurecells/impl.endWords"=Z 0:=qc
def VO:(Tryz.prog.globals[0]?).map (·.type)=Z 64:=qc
abbrev qCb:List Value:=eP aN
def MX:Tryz.prog.underlying 284=Z (.array 20 230):=qc
def MY:Tryz.prog.underlying 230=Z (.int .u64):=qc
def MN:Tryz.prog.cellsOf 230=1:=qc
def MP:Tryz.prog.cellsOf 284=20:=qc
def Dh:Tryz.prog.globalNamed "internal/strconv.uint64pow10"=Z 2:=qc
def MT:(Tryz.prog.globals[2]?).map (·.type)=Z 284:=qc
abbrev qCe:List Value:=iT

/-- what is laid -/
def ox:List (String×DataW Unit):=[("math/bits.deBruijn32tab",Rows.laid_math_bits_deBruijn32tab),("math/bits.deBruijn64tab",Rows.laid_math_bits_deBruijn64tab),("internal/strconv.uint64pow10",Rows.laid_internal_strconv_uint64pow10),("unicode/utf8.acceptRanges",Rows.laid_unicode_utf8_acceptRanges),("loop.example/closurecells/impl.loadCodes",Rows.laid_loop_example_closurecells_impl_loadCodes),("loop.example/closurecells/impl.stmtWords",Rows.laid_loop_example_closurecells_impl_stmtWords),("loop.example/closurecells/impl.endWords",Rows.laid_loop_example_closurecells_impl_endWords),("unicode/utf8.first",Rows.laid_unicode_utf8_first)]
/-- the tables -/
abbrev BW(m:Int):List (Nat×List Value):=[(3,[.int .i64 m]),(4,qCc),(1,qCd),(0,qCb),(2,qCe)]
def VN(os:Os)(args:Array Value):laidMetH Tryz.prog ox ((World.laidAll Tryz.prog os ox).forCall (λ_ _=>0) ⟨#[],args,[]⟩).memory:=by
 rw[MakeChecks.laidMetH_plain _ _ _ qc];exact laidMet_laidAll _ qc qc
def qCf{W:World}{m:Int}(hm:W.cell? ⟨3,0,Y⟩=Z (.int .i64 m))(h:laidMetH Tryz.prog ox W):∀t∈(BW m),0<O t.2/\(∀v∈t.2,v.oneCell'=B)/\∀i v,t.2[i]?=Z v->W.cell? ⟨t.1,i,Y⟩=Z v:=by
 rw[MakeChecks.laidMetH_plain _ _ _ qc]at h;obtain⟨ps,⟨g0,t0,cs0,f0,p0,q0,hg0,ht0,hv0,hd0,⟨g1,t1,cs1,f1,p1,q1,hg1,ht1,hv1,hd1,⟨g2,t2,cs2,f2,p2,q2,hg2,ht2,hv2,hd2,⟨g3,t3,cs3,f3,p3,q3,hg3,ht3,hv3,hd3,⟨g4,t4,cs4,f4,p4,q4,hg4,ht4,hv4,hd4,⟨g5,t5,cs5,f5,p5,q5,hg5,ht5,hv5,hd5,⟨g6,t6,cs6,f6,p6,q6,hg6,ht6,hv6,hd6,⟨g7,t7,cs7,f7,p7,q7,hg7,ht7,hv7,hd7,_,_⟩,_⟩,_⟩,_⟩,_⟩,_⟩,_⟩,_⟩,_⟩:=h;intro t ht;simp only[BW,vV,si,or_false]at ht;rcases ht with rfl|rfl|rfl|rfl|rfl
 .refine⟨qB,λv hv=>?_,λj v hv=>?_⟩
  .rw [vG]at hv;subst hv
   rfl
  .match j,hv with
   |0,hv=>obtain rfl:=sI hv;exact hm
   |j+1,hv=>simp at hv
 .obtain rfl:=sI (MR.symm.trans hg4);obtain rfl:=sI (VP.symm.trans ht4);refine⟨qf,λv hv=>?_,λj v hv=>?_⟩
  .obtain⟨x,_,rfl⟩:=wi.1 hv
   rfl
  .rw [j3]at hv;obtain⟨x,hx,rfl⟩:=zq.1 hv;exact η (l:=[8,5,11,5,2]) V3 MU VL MR hv4 hd4 j x hx
 .obtain rfl:=sI (MS.symm.trans hg5);obtain rfl:=sI (VQ.symm.trans ht5);refine⟨qf,λv hv=>?_,OG (l:=ye) V4 MW MO MS hv5 hd5⟩;obtain⟨x,_,rfl⟩:=wi.1 hv
  rfl
 .obtain rfl:=sI (MQ.symm.trans hg6);obtain rfl:=sI (VO.symm.trans ht6);refine⟨qf,λv hv=>?_,OG (l:=aN) V2 MW MO MQ hv6 hd6⟩;obtain⟨x,_,rfl⟩:=wi.1 hv
  rfl
 .obtain rfl:=sI (Dh.symm.trans hg2);obtain rfl:=sI (MT.symm.trans ht2);refine⟨qf,λv hv=>?_,(OF MX MY MN MP Dh hv2 hd2 qc).1⟩;obtain⟨x,_,rfl⟩:=wi.1 hv
  rfl
def TG{W:World}{m:Int}(h:laidMetH Tryz.prog ox W):∀t∈(BW m),dI W t.1 (t.2.map .sc):=by
 rw[MakeChecks.laidMetH_plain _ _ _ qc]at h;obtain⟨ps,⟨g0,t0,cs0,f0,p0,q0,hg0,ht0,hv0,hd0,⟨g1,t1,cs1,f1,p1,q1,hg1,ht1,hv1,hd1,⟨g2,t2,cs2,f2,p2,q2,hg2,ht2,hv2,hd2,⟨g3,t3,cs3,f3,p3,q3,hg3,ht3,hv3,hd3,⟨g4,t4,cs4,f4,p4,q4,hg4,ht4,hv4,hd4,⟨g5,t5,cs5,f5,p5,q5,hg5,ht5,hv5,hd5,⟨g6,t6,cs6,f6,p6,q6,hg6,ht6,hv6,hd6,⟨g7,t7,cs7,f7,p7,q7,hg7,ht7,hv7,hd7,_,_⟩,_⟩,_⟩,_⟩,_⟩,_⟩,_⟩,_⟩,_⟩:=h;intro t ht;simp only[BW,vV,si,or_false]at ht;rcases ht with rfl|rfl|rfl|rfl|rfl
 .exact DX (λz e=>by simp at e)
 .exact DX (λz e=>by simp at e)
 .exact DX (λz e=>by simp at e)
 .exact DX (λz e=>by simp at e)
 .obtain rfl:=sI (Dh.symm.trans hg2);obtain rfl:=sI (MT.symm.trans ht2);exact(OF MX MY MN MP Dh hv2 hd2 qc).2

set_option maxRecDepth 100000 in
def VY(os:Os)(started:os.Started)(H:Type)(enc:TypeId×Value->H):
  ReturnsInHanded {} Tryz.checked os 5 .any (λw args=>(Rows.fnRunDeskSpec.pre enc Tryz.prog Tryz.f5 [] M w args/\laidMetH Tryz.prog ox w)/\sizedMet enc Tryz.prog Tryz.f5 (OpenSpec.ofChange Rows.fnRunDeskSpec) M w args)
   (Rows.fnRunDeskSpec.post enc Tryz.prog Tryz.f5 M B M M):=by
 refine UX (C:=Tryz.checked) (X:=λw _=>laidMetH Tryz.prog ox w) (λ_ _ _ hh h=>h.of_heap hh) V1 started qc Tryz.func5
  (ChangeSpec.witness_shaped (enc:=enc) (C:=Tryz.checked) (os:=os) (X:=λw _=>laidMetH Tryz.prog ox w) M (World.laidAll Tryz.prog os ox) #[.slice Y 0 0] 8 (World.laidAll_os _ _ _) (World.shaped_of_ZipB qc qc) qc qc qc (VN os _)) ?_
 intro W base args ds gs before hsh hval0 hW _ hsz0 hL _;obtain⟨m,hm⟩:=VZ hsh;have hval:∀(j:Nat)t v,Tryz.f5.params[j]?=Z t->args[j]?=Z v->Value.okWide Tryz.prog W .any base t v:=hval0;have hsz:(DataW.weightsEach Tryz.prog (Tryz.f5.params.toList++Rows.fnRunDeskSpec.plain.varTypes Tryz.prog) (ds++gs)).all (·<=reachBytes)=B:=hsz0;have hW':=hW;obtain⟨p,q,hA0,hV,rfl,hfz,hnd⟩:=hW;have hA:DataW.TrodAll enc Tryz.prog W 0 (λ_=>B) B Tryz.f5.params.toList args.toList ds p:=hA0;rw[show Tryz.f5.params=#[28]from rfl]at hA hval hsz;obtain⟨v0,d0,rfl,rfl,h0⟩:=trodAll_one hA;have hw:∀m∈d0.weights Tryz.prog 28,m<=reachBytes:=λm hm=>of_decide_eq_true (yn.1 hsz m (DataW.weights_mem_each (j:=0) (t:=28) rfl rfl m hm));obtain⟨x,hx,hr⟩:=ε VJ V5 VK (by rw[VH];decide) (hval 0 28 v0 rfl rfl) h0 hw;obtain⟨dv,dw,dx,rfl⟩:=qDJ hV;clear hA0 hval0 hsz0;refine(qL.γ (Q0 (m:=m) (BJ (BW m)) cj cj cj cj cj x hx.2 hx.1) (W:=W) (g:=g0 W) (args:=#[v0]) (λb hb=>hb) (Lh (qCf hm hL) (TG hL)) rfl ?_).mono λe W' he=>?_
 .intro j v a hv ha
  match j,hv,ha with
  |0,hv,ha=>simp at hv ha;subst hv;subst ha;exact hr
  |j+1,hv,ha=>simp at hv
 .obtain⟨rfl,hb⟩:=he;have hlt:∀y∈p,y.block<W.heap.size:=λy hy=>hW'.lt y (by simp[hy]);refine⟨_,rfl,[d0],[dv,dw,dx],p++q,[],p++[],_,?_,trodAll_cons_mk (shut_bool VI _) trodAll_mk0,?_,hb.trodVars MV qc hV,hb.frame _,λh=>kv⟩
  .simpa using hW'
  .exact⟨p,[],hb.trod MV qc (of_decide_eq_true qc) h0 hlt,rfl,rfl⟩
def VR:Rows.fnRunDeskRow.wf (OpenSpec.ofChange Rows.fnRunDeskSpec)=B:=qc
def VS:Tryz.f5.params.all (Tryz.prog.readableRec ·)=B:=qc
def VT:namedTie Tryz.prog Rows.fnRunDeskRow.named Rows.fnRunDeskSpec.vars=B:=qc
def VU:(Rows.fnRunDeskRow.inPlace==Tryz.prog.inPlace 5)=B:=qc
def VV:(Rows.fnRunDeskRow.unfollowed==Tryz.prog.unfollowed 5)=B:=qc
def VW:(Rows.fnRunDeskRow.recurses==Tryz.prog.recurses 5)=B:=qc
def VX:(Rows.fnRunDeskRow.named==Tryz.prog.varsNamed 5)=B:=qc
def VM:joinedFacts Tryz.prog 5 Tryz.f5 Rows.fnRunDeskSpec Rows.fnRunDeskRow=B:=
 Uv Xu VR VS VT rfl rfl VU VV VW VX qc qc qc qc qc qc qc qc qc rfl rfl rfl rfl qc qc qc qc

def V0:Rows.fnRunDeskRow.holds Tryz.pinned (OpenSpec.ofChange Rows.fnRunDeskSpec):=
 OpenClaim.holds_of_wide 5 Tryz.f5 rfl rfl rfl rfl rfl rfl rfl ⟨rfl,rfl,rfl,rfl,rfl⟩ rfl rfl rfl rfl rfl qc Tryz.func5 VM
  (of_decide_eq_true qc) (by unfold Func.isWrapper;first|(rw[if_pos (by decide +kernel)];kernel_rfl)|(rw[if_neg (by decide +kernel)];exact⟨rfl,rfl⟩))
  (λos started H enc _=>VY os started H enc)

theorem fnRunDesk_holds:Rows.FnRunDeskCardSaid:=
 Claim7.holds_tied_plain_at .later [] [.data,.data,.data,.data,.data,.data,.data,.pinned] B Rows.fnRunDeskCard.stood.harness B
  V0 (λ_ h=>kv) qc (λ_ h=>kv) fnRunDesk_row_tie rfl ⟨rfl,rfl⟩ qc rfl
  (λf fn hf hfn=>by
    obtain rfl:f=5:=sI ((show Tryz.prog.funcNamed "loop.example/closurecells/laws.FnRunDesk"=Z 5 by kernel_rfl).symm.trans hf) |>.symm
    obtain rfl:fn=Tryz.f5:=(sI (Tryz.func5.symm.trans hfn)).symm
    exact⟨qc,λj t ht=>by
     rw[show Tryz.f5.params=#[28]from rfl]at ht;have hm:t∈[28]:=by simpa using Array.mem_of_getElem? ht
     have hall:([28].all λu=>!Tryz.prog.wantsStandIn u)=B:=qc;exact(show Tryz.prog.wantsStandIn t=M by simpa using yn.1 hall t hm)⟩)
  qc

#print axioms fnRunDesk_holds
end Go.Proofs.YtjgpejikjhojcaaGreatDoor
