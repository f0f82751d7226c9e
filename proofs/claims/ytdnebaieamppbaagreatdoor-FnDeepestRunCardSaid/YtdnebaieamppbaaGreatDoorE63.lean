import Derived.Test.YtdnebaieamppbaaGreatDoorE48
import Derived.Shelf.SortM.Plain
import Derived.Shelf.SortM.SortNone
import Derived.Test.YtdnebaieamppbaaGreatDoorE25
import Derived.Test.YtdnebaieamppbaaGreatDoorE35
import Derived.Test.YtdnebaieamppbaaGreatDoorE50
set_option linter.unusedSimpArgs false
set_option linter.unusedVariables false
set_option maxRecDepth 100000
set_option maxHeartbeats 4000000

section
namespace Go.Proofs.YtdnebaieamppbaaGreatDoor
open Go Go.Hm Go.Proofs Tryz
theorem mE (gl) (p:Z0) (f:Int) (hs:Sml p):qb prog gl 33 [pav p,iv f] (λ_ y _=>y=iv (Bc p f)):=by
 refine qb.Zl func33 [.tmp 4] ntmps33 λC w g root=>?_
 cases hv:jT p f
 .skip
  have fx:= hv;have c1:=hv ▸ kB gl p f hs;refine qG ?_;clear fx c1;refine qD [] .nil qE l6
 .obtain⟨hpo,n,rfl,hn⟩:=jl hv;have hP:=Zm.of hs hpo;have hG:Bc p n=ai p (n+1):=l6;rw [hG];have fx:= hv;have c1:=hv ▸ kB gl p n hs;refine qG ?_;clear fx c1;refine qX (λm st=>∃ i:Nat,m=n+1 - i/\i<=n+1/\st.tm 1=iv n/\st.tm 2=.pt (.s 2) 0/\st.hp (.s 2)=some (.row 1 [[ksl p]])/\st.tm 6=iv i/\st.tm 5=iv (ai p i)) (n+1) ⟨0,by simp [ai]⟩ ?_;rintro m st - - ⟨i,rfl,hi,h1,h2,hp2,h6,h5⟩;refine A6 (Nm.under Wn) ?_;refine uu (λst=>st.tm 1=iv n/\st.tm 2=.pt (.s 2) 0/\st.hp (.s 2)=some (.row 1 [[ksl p]])/\st.tm 6=iv i/\st.tm 5=iv (ai p i)/\st.hp (.u 1 0 0)=none) ⟨qy,ql,zF,j3,z7,qB⟩ ?_;clear h1 h2 hp2 h6 h5;rintro st ⟨h1,h2,hp2,h6,h5,hU⟩;by_cases hil:i<=n
  .have hle:(i:Int)<=n:=qA;have hm:=lD hP.sh (show i<=150 by omega);refine qC ?_<|uD h1 h2 hp2 h6 h5<|hle;intro K hK;have fx:=aI h1 (aI h2 (aI hp2 (aI h6 h5)));refine aL Wn rfl Bq (hF:=QV gl _ p i hP qA zb) (h:=?_);rintro y H1 ⟨rfl,hO1⟩;clear fx;have hT1:=hO1.top;simp only [wL] at hT1;refine qC ?_<|uD hT1 h1 h2 hp2 h6<|h5;have fx:=aI hT1 h5;refine PA (i:=(ai p i:Int)) (j:=((yI p i).stack.length:Int)) (ai p (i+1):Nat) GX (h:=?_);clear fx;refine qC ?_<|uD hT1 h1 h2 hp2 h6<|h5;exact⟨n+1 - (i+1),qA,i+1,rfl,qA,qy,ql,zF,tI,qB⟩
  .obtain rfl:i=n+1:=qA;have hlt:(n:Int)<(n:Int)+1:=qA;refine qC ?_<|uD h1 h2 hp2 h6 h5<|hlt;refine qD [] .nil qE qB
theorem bo (gl) (p:Z0) (f:Int) (hs:Sml p):qb prog gl 32 [pav p,iv f] (λ_ y _=>y=iv (Bc p f)):=by
 refine qb.Zl func32 [.tmp 4] ntmps32 λC w g root=>?_
 cases hv0:jF p
 .have hv:jT p f=false:=lZ;have fx:= hv0;have c1:=hv0 ▸ qM gl p hs;refine qG ?_;clear fx c1;refine qD [] .nil qE l6
 cases hv:jT p f
 .have hf:(decide (0<=f)&&decide (f<=150))=false:=bz;have fx:=aI hv0<|hf;have c1:=hv0 ▸ qM gl p hs;have c2:=hf ▸ yl gl f;refine qG ?_;clear fx c1 c2;refine qD [] .nil qE l6
 .obtain⟨hpo,n,rfl,hn⟩:=jl hv;have hP:=Zm.of hs hpo;have hf:(decide (0<=(n:Int))&&decide ((n:Int)<=150))=true:=bz;have hG:Bc p n=ai p (n+1):=l6;rw [hG];have hw:IntKind.i64.wrap ((n:Int)+1)=(n+1:Nat):=eM;have fx:=jI hv0 hf<|hw;have c1:=hv0 ▸ qM gl p hs;have c2:=hf ▸ yl gl n;refine qG ?_;clear fx c1 c2;refine qX (λm st=>∃ i:Nat,m=n+1 - i/\i<=n+1/\st.tm 2=.pt (.s 2) 0/\st.hp (.s 2)=some (.row 1 [[ksl p]])/\st.tm 16=iv (n+1:Nat)/\st.tm 17=iv i/\st.tm 5=iv (ai p i)) (n+1) ⟨0,by simp [ai]⟩ ?_;rintro m st - - ⟨i,rfl,hi,h2,hp2,h16,h17,h5⟩;refine A6 DM ?_;refine uu (λst=>st.tm 2=.pt (.s 2) 0/\st.hp (.s 2)=some (.row 1 [[ksl p]])/\st.tm 16=iv (n+1:Nat)/\st.tm 17=iv i/\st.tm 5=iv (ai p i)/\∀ k i j,vC DM st.hp (.u k i j)=none) ⟨ql,zF,by simp [h16],by simp [h17],z7,λk i j=>?_⟩ ?_
  .rw [cL]
   split
   .rename_i hd;simp [hd]
   .rfl
  clear h2 hp2 h16 h17 h5;rintro st ⟨h2,hp2,h16,h17,h5,hU⟩;by_cases hil:i<n+1
  .have hlt:(i:Int)<(n:Int)+1:=qA;have hm:=lD hP.sh (show i<=150 by omega);refine qC ?_<|uD h2 hp2 h16 h17 h5<|hlt;intro K hK;have fx:=aI h2 (aI hp2 (aI h16 (aI h17 h5)));refine eZ (λk i j he=>cO) (hF:=bj gl _ p i hP qA hU) (h:=?_);rintro y H1 ⟨rfl,hO1⟩;clear fx;have hT1:=hO1.top;simp only [uU] at hT1;refine qC ?_<|uD hT1 h2 hp2 h16 h17<|h5;have fx:=aI hT1 h5;refine PA (i:=(ai p i:Int)) (j:=((yI p i).stack.length:Int)) (ai p (i+1):Nat) GX (h:=?_);clear fx;refine qC ?_<|uD hT1 h2 hp2 h16 h17<|h5;exact⟨n+1 - (i+1),qA,i+1,rfl,qA,ql,zF,by simp [h16],by simp [h17];exact Zv qA qA,qB⟩
  .obtain rfl:i=n+1:=qA;have hlt:¬ n+1<n+1:=qA;refine qC ?_<|uD h2 hp2 h16 h17 h5<|hlt;refine qD [] .nil qE qB
end Go.Proofs.YtdnebaieamppbaaGreatDoor
end
section
namespace Go.Proofs.YtdnebaieamppbaaGreatDoor
open Go Go.Hm Go.Proofs Go.RowKit Go.Maps Go.Sort Go.Shelf Tryz
def Dr:Go.Shelf.Ren:=⟨fun|7=>163|10=>198|n=>n,fun|23=>169|26=>3|3=>65|28=>230|0=>0|27=>229|33=>59|4=>4|n=>n,fun|n=>n⟩
theorem Yf:Go.Proofs.SlLaysZI.n7 prog Dr where
 mixed:=qI
 f7:=⟨Tryz.f163.name,qO,func163.trans (congrArg some qI)⟩
 f10:=⟨Tryz.f198.name,qO,func198.trans (congrArg some qI)⟩
 t0:=Tryz.underlying0
 a0:=Tryz.isAgg0
 z0:=Tryz.sizeOf0
 v0:=Tryz.zeroValue0
 t4:=Tryz.underlying4
 a4:=Tryz.isAgg4
 z4:=Tryz.sizeOf4
 v4:=Tryz.zeroValue4
 t23:=Tryz.underlying169
 a23:=Tryz.isAgg169
 z23:=Tryz.sizeOf169
 v23:=Tryz.zeroValue169
 t26:=Tryz.underlying3
 a26:=Tryz.isAgg3
 z26:=Tryz.sizeOf3
 v26:=Tryz.zeroValue3
 t27:=Tryz.underlying229
 a27:=Tryz.isAgg229
 z27:=Tryz.sizeOf229
 v27:=Tryz.zeroValue229
 t28:=Tryz.underlying230
 a28:=Tryz.isAgg230
 z28:=Tryz.sizeOf230
 v28:=Tryz.zeroValue230
 t33:=Tryz.underlying59
 a33:=Tryz.isAgg59
 z33:=Tryz.sizeOf59
 v33:=Tryz.zeroValue59
def rI:Go.Shelf.Ren:=⟨fun|6=>162|8=>196|9=>197|11=>224|13=>226|12=>225|23=>247|24=>248|14=>238|15=>239|16=>240|17=>241|18=>242|19=>243|20=>244|21=>245|22=>246|25=>250|26=>251|27=>252|28=>253|29=>254|30=>255|31=>256|n=>n,fun|26=>3|28=>230|24=>32|0=>0|3=>3|37=>293|48=>315|50=>317|4=>4|40=>307|39=>306|45=>312|5=>5|9=>9|51=>319|55=>184|57=>324|58=>49|33=>59|n=>n,fun|n=>n⟩
theorem Sh:Go.Proofs.SlLaysZI.n6 prog rI where
 mixed:=qI
 f6:=⟨Tryz.f162.name,qO,func162.trans (congrArg some qI)⟩
 f8:=⟨Tryz.f196.name,qO,func196.trans (congrArg some qI)⟩
 f11:=⟨Tryz.f224.name,qO,func224.trans (congrArg some qI)⟩
 t0:=Tryz.underlying0
 a0:=Tryz.isAgg0
 z0:=Tryz.sizeOf0
 v0:=Tryz.zeroValue0
 t24:=Tryz.underlying32
 a24:=Tryz.isAgg32
 z24:=Tryz.sizeOf32
 v24:=Tryz.zeroValue32
 t26:=Tryz.underlying3
 a26:=Tryz.isAgg3
 z26:=Tryz.sizeOf3
 v26:=Tryz.zeroValue3
 t28:=Tryz.underlying230
 a28:=Tryz.isAgg230
 z28:=Tryz.sizeOf230
 v28:=Tryz.zeroValue230
 i26:=qI
def Lj:Go.Shelf.Ren:=⟨fun|5=>197|8=>226|7=>225|19=>247|20=>248|10=>238|11=>239|12=>240|13=>241|14=>242|15=>243|16=>244|17=>245|18=>246|30=>250|31=>251|32=>252|33=>253|34=>254|35=>255|40=>256|n=>n,fun|23=>32|25=>3|3=>3|32=>293|22=>32|0=>0|44=>315|46=>317|4=>4|36=>307|35=>306|41=>312|5=>5|9=>9|53=>319|57=>184|63=>324|64=>49|n=>n,fun|n=>n⟩
theorem Uw:Go.Proofs.SlLaysM.n5 prog Lj where
 mixed:=qI
 f5:=⟨Tryz.f197.name,qO,func197.trans (congrArg some qI)⟩
 f7:=⟨Tryz.f225.name,qO,func225.trans (congrArg some qI)⟩
 f8:=func226.trans (congrArg some qI)
 f10:=⟨Tryz.f238.name,qO,func238.trans (congrArg some qI)⟩
 f11:=⟨Tryz.f239.name,qO,func239.trans (congrArg some qI)⟩
 f12:=⟨Tryz.f240.name,qO,func240.trans (congrArg some qI)⟩
 f13:=⟨Tryz.f241.name,qO,func241.trans (congrArg some qI)⟩
 f14:=⟨Tryz.f242.name,qO,func242.trans (congrArg some qI)⟩
 f15:=⟨Tryz.f243.name,qO,func243.trans (congrArg some qI)⟩
 f16:=⟨Tryz.f244.name,qO,func244.trans (congrArg some qI)⟩
 f17:=⟨Tryz.f245.name,qO,func245.trans (congrArg some qI)⟩
 f18:=⟨Tryz.f246.name,qO,func246.trans (congrArg some qI)⟩
 f19:=func247.trans (congrArg some qI)
 f20:=func248.trans (congrArg some qI)
 f30:=⟨Tryz.f250.name,qO,func250.trans (congrArg some qI)⟩
 f31:=func251.trans (congrArg some qI)
 f32:=func252.trans (congrArg some qI)
 f33:=⟨Tryz.f253.name,qO,func253.trans (congrArg some qI)⟩
 f34:=⟨Tryz.f254.name,qO,func254.trans (congrArg some qI)⟩
 f35:=⟨Tryz.f255.name,qO,func255.trans (congrArg some qI)⟩
 f40:=⟨Tryz.f256.name,qO,func256.trans (congrArg some qI)⟩
 t0:=Tryz.underlying0
 a0:=Tryz.isAgg0
 z0:=Tryz.sizeOf0
 v0:=Tryz.zeroValue0
 t3:=Tryz.underlying3
 a3:=Tryz.isAgg3
 z3:=Tryz.sizeOf3
 v3:=Tryz.zeroValue3
 t4:=Tryz.underlying4
 a4:=Tryz.isAgg4
 z4:=Tryz.sizeOf4
 v4:=Tryz.zeroValue4
 t5:=Tryz.underlying5
 a5:=Tryz.isAgg5
 z5:=Tryz.sizeOf5
 v5:=Tryz.zeroValue5
 t9:=Tryz.underlying9
 a9:=Tryz.isAgg9
 z9:=Tryz.sizeOf9
 v9:=Tryz.zeroValue9
 t22:=Tryz.underlying32
 a22:=Tryz.isAgg32
 z22:=Tryz.sizeOf32
 v22:=Tryz.zeroValue32
 t23:=Tryz.underlying32
 a23:=Tryz.isAgg32
 z23:=Tryz.sizeOf32
 v23:=Tryz.zeroValue32
 t25:=Tryz.underlying3
 a25:=Tryz.isAgg3
 z25:=Tryz.sizeOf3
 v25:=Tryz.zeroValue3
 t32:=Tryz.underlying293
 a32:=Tryz.isAgg293
 z32:=Tryz.sizeOf293
 v32:=Tryz.zeroValue293
 t35:=Tryz.underlying306
 a35:=Tryz.isAgg306
 z35:=Tryz.sizeOf306
 v35:=Tryz.zeroValue306
 t36:=Tryz.underlying307
 a36:=Tryz.isAgg307
 z36:=Tryz.sizeOf307
 v36:=Tryz.zeroValue307
 t41:=Tryz.underlying312
 a41:=Tryz.isAgg312
 z41:=Tryz.sizeOf312
 v41:=Tryz.zeroValue312
 t44:=Tryz.underlying315
 a44:=Tryz.isAgg315
 z44:=Tryz.sizeOf315
 v44:=Tryz.zeroValue315
 t46:=Tryz.underlying317
 a46:=Tryz.isAgg317
 z46:=Tryz.sizeOf317
 v46:=Tryz.zeroValue317
 t53:=Tryz.underlying319
 a53:=Tryz.isAgg319
 z53:=Tryz.sizeOf319
 v53:=Tryz.zeroValue319
 t57:=Tryz.underlying184
 a57:=Tryz.isAgg184
 z57:=Tryz.sizeOf184
 v57:=Tryz.zeroValue184
 t63:=Tryz.underlying324
 a63:=Tryz.isAgg324
 z63:=Tryz.sizeOf324
 v63:=Tryz.zeroValue324
 t64:=Tryz.underlying49
 a64:=Tryz.isAgg49
 z64:=Tryz.sizeOf49
 v64:=Tryz.zeroValue49
theorem Uv (m:Nat):AnyZI.SortsIn prog rI Fence.wide m :=
 ⟨λZ1 off cap ss W hH hblk hsz=>callsIn_wide.2 (AnyM.slices_Sort_int Uw Z1 off cap ss W hH hblk hsz),λp cap W=>callsIn_wide.2 (AnyM.slices_Sort_int_none Uw p cap W)⟩
theorem DA {H:Type} (Bm b nn:Nat) (D0:DataW H) (R:Value->Option (DataW H×List MemPlace)) (w:World) (hBm:Bm<w.heap.size) (hm:w.cell? ⟨Bm,0,none⟩=some (.map (some b))) (hown:w.ownsMap prog 3 R b nn D0) (hmax:Maps.size D0<=maxLen) (hbytes:Maps.size D0 * 8<=140737488355328) :
  Calls prog 162 #[.func (.func 198) #[] #[.pointer (some ⟨Bm,0,none⟩)]] w λe w'=>∃ (v:Value) (ss:List Int),e=.returned v/\ss.Perm (intKeys D0) /\
   w'.ownsRow w.heap.size 3 1 v ss.length ((ss.mergeSort (λx y=>decide (x<=y))).map encZ)/\(v=.slice none 0 0↔ss=[])/\Below w.heap.size w w':=by
 have hseq:SeqGives Fence.wide 2 prog 198 #[.pointer (some ⟨Bm,0,none⟩)] encZ (λss=>ss.Perm (intKeys D0)) (Maps.size D0) w :=
  AnyZI.keys_gives (ρ:=Dr) { Yf with } Fence.wide _ trivial rfl qA Bm b nn D0 _ hBm hm hown
 have cS:=AnyZI.sorted_in Sh Fence.wide 5 trivial trivial trivial trivial rfl qA (Uv _) (enters_of func197 qI rfl) 198 #[.pointer (some ⟨Bm,0,none⟩)] trivial (enters_of func198 qI rfl) _ _ hmax hbytes _ hseq;exact (callsIn_wide (n:=5)).1 cS
end Go.Proofs.YtdnebaieamppbaaGreatDoor
end
section
namespace Go.Proofs.YtdnebaieamppbaaGreatDoor
open Go Go.Hm Go.Proofs Tryz
abbrev Xu:Zh:=wE<|.l 6 [1,0]<|.l 7 [1,0]<|.l 8 []<|.q 9<|.l 10 []<|.done
theorem Td (gl) (H:Nm->Option AO) (gs:Int->Zt) (l:List Int) (hH:H (.u 2 0 0)=some (.map (aQ gs l))) :
  Zj prog gl 163 (Nm.under (.u 2 0 0)) [.mp (.u 2 0 0)] H (λr y H'=>y=.fn (.func 198) [] [.pt r 0]/\H' r=some (.row 1 [[.mp (.u 2 0 0)]])/\H' (.u 2 0 0)=some (.map (aQ gs l))) noE:=by
 have hnf:zT (.sc Value.nilFunc)=false:=rfl;refine Zj.Zl func163 [.tmp 2] ntmps163 (λ_=>qR rfl) λC w g root hroot=>?_;refine qC ?_<|aI hH<|hnf;refine qD [(.s 1,root)] (.one rfl) qE ⟨qB,by simp [hroot root (Nm.Z6 _)],jM⟩
theorem JV:A1 prog 162 198 3:=λBm b nn D0 R w h1 h2 h3 h4 h5=>DA Bm b nn D0 R w h1 h2 h3 h4 h5
theorem ue {A G G2:Prop} (k:G2) (x:A) (h:A->Zx G2->G:=by
 intro fx kk;refine qG ?_
 repeat ((first|refine Ze (id:=12) Xu mixed ?_);refine qZ ?_;refine qG ?_)
 exact kk.h):G:=h x ⟨k⟩
theorem LJ (gl) (b:Int) (gs:Int->Zt) (l m:List Int) (hlm:l.Perm m) (hs:m.Pairwise (·<·)) (hr:∀ x∈l,0<=x/\x<=7) (h8:l.length<=8) (H:Nm->Option AO) (hH:H (.u 2 0 0)=some (.map (aQ gs l))) :
  Zj prog gl 110 (Nm.under (.u 2 0 0)) [iv b,.mp (.u 2 0 0)] H (λr y H'=>y=.agg ((Vw.mk b (xc (m.map λx=>(x,gs x))) (JG (m.map λx=>(x,gs x)))).own r 0)/\qE5 H' r 0 ⟨b,xc (m.map λx=>(x,gs x)),JG (m.map λx=>(x,gs x))⟩) noE:=by
 obtain⟨S,hS⟩:∃ S,S=m.filter λy=>(gs y).isSome:=⟨_,rfl⟩;obtain⟨L0,hL0⟩:∃ S,S=l.filter λy=>(gs y).isSome:=⟨_,rfl⟩;have hLS:L0.Perm S:=by rw [hS,hL0];exact hlm.filter _
 rw [FE,JF,<- hS];have hSl:S.length<=8:=by rw [hS];exact vk (List.length_filter_le _ _) (hlm.length_eq ▸ h8)
 have hSs:S.Pairwise (·<·):=hS ▸ hs.filter _;have hSm:∀ x∈S,x∈l/\(gs x).isSome=true:=λx hx=>by rw [hS] at hx;exact⟨hlm.mem_iff.2 (xB.1 hx).1,(xB.1 hx).2⟩
 have hSr:∀ x∈S,0<=x/\x<=7:=λx hx=>hr x (hSm x hx).1;have hnd:l.Nodup:=hlm.nodup_iff.2 (hs.imp λh=>qA);refine Zj.Zl func110 [.cell 4 104] ntmps110 (λ_=>qR rfl) λC w g root hroot=>?_;refine ue ?_<| hH;refine qX (λn st=>∃ x:Nat,n=8 - x/\x<=8/\st.tm 0=iv b/\st.tm 1=.mp (.u 2 0 0)/\st.hp (.u 2 0 0)=some (.map (aQ gs (lG gs l x)))/\st.tm 4=.pt (.s 4) 0/\st.hp (.s 4)=some (.row 3 [[iv 0,.hs (.c (.s 4) 0 1) 1 0 0,.hs (.c (.s 4) 0 2) 1 0 0]])/\st.hp (.c (.s 4) 0 1)=some (.row 1 [])/\st.hp (.c (.s 4) 0 2)=some (.row 1 [])/\st.tm 11=iv x) 8 ?_ ?_
 .exact⟨0,qA,qA,qB,qB,by simp [KF hr,hH],qB,qB,qB,qB,qB⟩
 rintro n st - - ⟨x,rfl,hx,h0,h1,hm,h4,hp4,hq4,hr4,h11⟩;by_cases hx8:x<8
 .have hx8':(x:Int)<8:=qA;have hget:=Dx (g:=gs) (l:=lG gs l x) (n:=(x:Int));by_cases hxl:(x:Int)∈l
  .rw [if_pos (Dj.2 hxl)] at hget;rcases hgx:gs x with _|⟨v1,v2⟩
   .have hdel:=NH (g:=gs) (l:=lG gs l x) (n:=(x:Int));rw [<- KG hnd (by rw [hgx];rfl)] at hdel;rw [hgx,wN] at hget;refine ue ?_<|uD h1 hm h11 hx8 hx8'<|hget;intro K hK;have fx:=aI h1 (aI hm hdel);refine He (h:=?_);clear fx;refine ue ?_<| h11;exact⟨8 - (x+1),qA,x+1,rfl,qA,zR,qy,qB,jp,kj,by simp [hq4],by simp [hr4],zD⟩
   .have hk:=AD (g:=gs) (l:=l) (x:=x) (λ_=>by rw [hgx];rfl);rw [hgx,kC] at hget;refine ue ?_<|uD h1 hm h11 hx8 hx8'<|hget;exact⟨8 - (x+1),qA,x+1,rfl,qA,zR,qy,by simp [hm,hk],jp,kj,by simp [hq4],by simp [hr4],zD⟩
  .rw [if_neg (λh=>hxl (Dj.1 h))] at hget;have hk:=AD (g:=gs) (l:=l) (x:=x) (λh=>absurd h hxl);refine ue ?_<|uD h1 hm h11 hx8 hx8'<|hget;exact⟨8 - (x+1),qA,x+1,rfl,qA,zR,qy,by simp [hm,hk],jp,kj,by simp [hq4],by simp [hr4],zD⟩
 .have hge:x=8:=qA;subst hge;rw [My hr,<- hL0] at hm;refine ue ?_<|yE h0 h1 hm<|h11;intro K hK;have fx:=aI h1 hm;refine aL (.u 2 0 0) rfl aF (hF:=Td gl _ gs L0 (by simp [nD,hm])) (h:=?_);rintro y H1 ⟨rfl,hk1,hk2⟩;clear fx;refine ue ?_<|jI h0 hk1<|hk2;have fx:=aI hk1 hk2;refine Oz (n:=.s 31) (N:=.u 2 0 0) (gs:=gs) (l:=L0) (S:=S) ⟨_,rfl,rfl,rfl⟩ Tryz.underlying3 JV (h8:=hLS.length_eq ▸ hSl) (hs:=hSs) (hlS:=hLS) (hr:=λx hx=>hSr x (hLS.mem_iff.1 hx)) (h:=?_);clear fx;refine ue ?_<|yS h0 h1 hm hk1<|hk2;refine qX (λn st=>∃ (i:Nat) (V:List Int),n=S.length - i/\i<=S.length/\V=(S.take i).map (λy=>Hm.shown ((gs y).getD (0,0)))/\V.length=i/\st.tm 1=.mp (.u 2 0 0)/\st.hp (.u 2 0 0)=some (.map (aQ gs L0))/\st.tm 4=.pt (.s 4) 0/\st.hp (.s 4)=some (.row 3 [[iv 0,.hs (.c (.s 4) 0 1) 1 0 0,.hs (.c (.s 4) 0 2) 1 0 0]])/\st.hp (.c (.s 4) 0 1)=some (.row 1 [])/\st.hp (.c (.s 4) 0 2)=some (.row 1 [])/\st.tm 8=.pt (.s 8) 0/\st.hp (.s 8)=some (.row 3 [[iv b,.hs (.c (.s 8) 0 1) 1 0 S.length,.hs (.c (.s 8) 0 2) 1 0 V.length]])/\st.hp (.c (.s 8) 0 1)=some (.row 1 (qT S))/\st.hp (.c (.s 8) 0 2)=some (.row 1 (qT V))/\st.tm 35=.hs (.c (.s 8) 0 1) 1 0 S.length/\st.tm 36=iv S.length/\st.tm 37=iv i) S.length ?_ ?_
  .exact⟨0,[],qA,qA,qB,rfl,by simp [h1,hm],by simp [hk2],jp,kj,by simp [hq4],by simp [hr4],qB,qB,qB,qB,qB,qB,qB⟩
  clear h0 h1 hm h4 hp4 hq4 hr4 h11 hk1 hk2;rintro n st - - ⟨i,V,rfl,hi,hV,hVl,h1,hm,h4,hp4,hq4,hr4,h8',hp8,hN8,hV8,h35,h36,h37⟩;have hVb:V.length<=8:=qA;by_cases hil:i<S.length
  .obtain⟨x,hxS⟩:=gX hil;obtain⟨_,hxE⟩:=gS hxS;have hxm:=gM hxS;have hget:=Dx (g:=gs) (l:=L0) (n:=x);rw [if_pos (hLS.mem_iff.2 hxm)] at hget;obtain⟨v,hv⟩:=O9.1 (hSm x hxm).2;have hsh:=uN gl v;obtain⟨v1,v2⟩:=v;rw [hv,kC] at hget;have fx:=qU h1 hm h8' hp8 hN8 hV8 h35 h36 h37 hil hxS hxE<|aI hget<|hVb;have c1:=hsh;refine ue ?_<|fx;clear fx c1;refine⟨S.length - (i+1),qA,i+1,V++[Hm.shown (v1,v2)],rfl,qA,by rw [uQ,hxS,E6,hV];simp [hv],by simp [hVl],qy,aF,jp,kj,by simp [hq4],by simp [hr4],by simp [h8'],qB,by simp [hN8],zd,by simp [h35],by simp [h36],by simp [h37];exact Zv qA qA⟩
  .obtain rfl:i=S.length:=qA;rw [an] at hV;subst hV;refine ue ?_<|jJ h1 hm h4 hp4 h8' hp8 hN8 hV8 h35 h36<|aI h37<|hil;have r1:Nm.under (.c root 0 1) (.c root 0 2)=false:=Nm.qDR qO (Nm.Z6 _);refine qD [(.c (.s 8) 0 1,.c root 0 1),(.c (.s 8) 0 2,.c root 0 2)] (.two rfl rfl qO) CN ⟨?_,⟨?_,?_⟩⟩
   .simp [MK,trL]
   .simp [hN8,r1,hroot root (Nm.Z6 _)]
   .simp [hV8,r1,hroot root (Nm.Z6 _)]
abbrev Xv:Zh:=ir<|.l 10 []<|.done
def T9 (p:Z0) (w:Z5) (a:Nat) (x:Int):Option Nat :=
 if w.Z1 a=0 then none else if qg p (w.Z1 a)=2 then some a else some (uV w.ZX (sU p (w.Z1 a) x) a a)
theorem Ln {p:Z0} {w:Z5} {a:Nat} {x:Int}:Ah p w a x=w.get (T9 p w a x) x:=by
 unfold Ah T9
 split
 .rfl
 .split <;> rfl
theorem BK {w:Z5} {i:Nat} {c:Hm.Act} (hc:w.ZX[i]?=some c) (hi:i≠0):w.nms i=w.vars (some i):=by simp [Z5.nms,Z5.vars,hi,hc]
theorem fj {A G G2:Prop} (k:G2) (x:A) (h:A->Zx G2->G:=by
 intro fx kk;refine qG ?_
 repeat ((first|refine Ze (id:=1) Xv mixed ?_);refine qZ ?_;refine qG ?_)
 exact kk.h):G:=h x ⟨k⟩
theorem MV (gl) (H:Nm->Option AO) (p:Z0) (W:Z5) (a x:Nat) (hP:Z7 p) (hw:Zy p W) (ha:a<W.ZX.length) (hx:x<8) (hsx:(x:Int)∈iQ p (W.Z1 a)) (hO:qA9 H p W) :
  Zj prog gl 116 DM [.pt Mn 0,ptE a,iv x] H (λ_ y H'=>y=.agg (jm (Ah p W a x))/\qA9 H' p W) noE:=by
 have hh:=hP.Zc;have hx7:0<=(x:Int)/\(x:Int)<=7:=qA;obtain⟨c,hc⟩:=gX ha;have Zs:=hw.qBC a c hc;obtain⟨k,hk⟩:=gX Zs;obtain⟨_,hkE⟩:=gS hk;have hbk:=jq hc;obtain⟨_,hT,x2,x3,x4,x5,x6,x7,x8,x9,rfl⟩:=hO.top;have hc1:=hO.scs.top;have hc2:=hO.scs.sc;have hE:=hO.env a c hc;simp only [yU] at hE;have hsr:=ci (n:=.c Mn 0 1) (len:=p.length) (i:=p.length) Zs;rw [if_pos Zs] at hsr;obtain⟨_,hsE⟩:=gS hsr;have hka:qg p c.Z1=k.kind:=bY;have hsc:=hc2 c.Z1 k Zs hk
 have ha0:a=0↔c.Z1=0:=by
  constructor
  .rintro rfl;obtain⟨a0,h1,h2⟩:=hw.a0;rw [hc] at h1;obtain rfl:=sI h1;exact h2
  .intro e;rcases dV a with h|h
   .exact h
   .obtain⟨_,c',k',_,_,_,h0⟩:=hw.up a c hc h;omega
 rw [Ln];obtain⟨s,hs⟩:∃ s,W.get (T9 p W a x) x=s:=⟨_,rfl⟩;rw [hs];by_cases hk1:k.kind=1
 .have hk1b:(k.kind==1)=true:=by simp [hk1]
  have hb0:0<c.Z1:=by
   rcases dV c.Z1 with e|e
   .rw [e] at hk;have:=(hP.qAx hk).2 rfl;omega
   .exact e
  rw [hbk] at hsx;obtain⟨ho,hins,hout⟩:=Tj hh hk hk1 hb0 hsx;have hins:qi p (W.Z1 a) (sU p c.Z1 x)=true:=by rw [hbk];exact hins
  have hloc:qa c.Z1 k x=true->sU p c.Z1 x=c.Z1:=λh=>by simp [sU,hk,h]
  have hlv:T9 p W a x=some (uV W.ZX (sU p c.Z1 x) a a):=by
   unfold T9;rw [hbk,if_neg qA,if_neg (by rw [hka,hk1];decide)]
  rw [hlv] at hs;generalize sU p c.Z1 x=o at *;obtain⟨d,hd,hdb⟩:=pb hh hw ho a a (qf _) ha hins;obtain⟨i,hi⟩:∃ i,i=uV W.ZX o a a:=⟨_,rfl⟩;rw [<- hi] at hd hs
  have hi0:i≠0:=by
   rintro rfl;obtain⟨a0,h1,h2⟩:=hw.a0;rw [hd] at h1;obtain rfl:=sI h1;omega
  have hil:=(gS hd).1;refine Zj.Zl func116 [.cell 6 65] ntmps116 (λ_=>qN) λC w g root hroot=>?_;have hlf:=vZ gl c.Z1 k (jK p k.parent) k.params x hx
  have hle:(k.kind != 0&&decide ((x:Int)∈k.bd)&&!(decide ((x:Int)∈k.dc 9)||decide ((x:Int)∈k.dc 10)))=qa c.Z1 k x:=by
   simp [qa,hk1,hb0,Bool.and_assoc]
  have hlf':=hlf;rw [hle] at hlf'
  cases hlc:qa c.Z1 k x
  .rw [hlc] at hlf';have hou:=cJ gl p hP c.Z1 k hk x hx;rw [hout hlc] at hou;have fx:=kO hT hE hc1 hsr hsE Zs hsc<|hk1b;have c1:=hlf';have c2:=hou;refine fj ?_<|fx;clear fx c1 c2;refine qX (λn st=>∃ b:Nat,n=b/\b<W.ZX.length/\uV W.ZX o b b=i/\qi p (W.Z1 b) o=true/\st.tm 9=iv o/\st.tm 8=ptE b/\st.tm 2=iv x/\st.tm 6=.pt (.s 6) 0/\st.hp (.s 6)=some (.row 3 [[bv false,iv 0,iv 0]])/\qA9 st.hp p W) a ?_ ?_
   .exact⟨a,rfl,ha,hi.symm,hins,qB,qB,qB,qB,qB,⟨gT,⟨br,λj k hj hk=>bq⟩,λk j hk hj=>gY,λi a ha=>gK,λi hi=>(hO.nms i hi).imp λms hm=>⟨vu,hm.2⟩,λk i j hk hn=>if e:k=1/\i=0/\j=0 then .inl e else hO.only k i j hk dN⟩⟩
   clear hT hc1 hc2 hE hsc hO;rintro n st - - ⟨b,rfl,hb,hcl,hib,t9,t8,t2,t6,tp6,hO⟩;obtain⟨e,he⟩:=gX hb;have hE:=hO.env n e he;simp only [yU] at hE;by_cases heb:e.Z1=o
   .have hni:n=i:=Ge;subst hni;obtain⟨ms,hms,hmo⟩:=hO.nms n hb;rw [BK he hi0] at hmo;have hlk:=hmo.get' hx7;rw [hs] at hlk;have hsame:((e.Z1:Int)==(o:Int))=true:=by simp [heb]
    rcases s with _|⟨v1,v2⟩
    all_goals
     refine fj ?_<|aJ t9 t8 t2 t6 tp6 hE hsame @qL hms<|hlk;refine qD [] .nil (by simp [t6];rfl) ⟨qB,qA9.fin ⟨gT,⟨br,λj k hj hk=>bq⟩,λk j hk hj=>gY,λi a ha=>gK,λi hi=>(hO.nms i hi).imp λms hm=>⟨vu,hm.2⟩,λk i j hk hn=>if e:k=1/\i=0/\j=0 then .inl e else hO.only k i j hk dN⟩⟩
   .obtain⟨e1,e2,e3⟩:=ui hh hw he heb ho hib;have hneb:((e.Z1:Int)==(o:Int))=false:=vP;have hn0:¬ n=0:=qA;rw [if_neg hn0] at hE;refine fj ?_<|yS t9 t8 hE hneb<|@qL;refine⟨e.up,qA,e.up,rfl,qA,?_,e3,eH,qB,yt,cR,by simp [tp6],⟨gT,⟨br,λj k hj hk=>bq⟩,λk j hk hj=>gY,λi a ha=>gK,λi hi=>(hO.nms i hi).imp λms hm=>⟨vu,hm.2⟩,λk i j hk hn=>if e:k=1/\i=0/\j=0 then .inl e else hO.only k i j hk dN⟩⟩;rw [<- hcl,eD hh hw ho he heb hib]
  .rw [hlc] at hlf';have hoc:=hloc hlc;have hia:i=a:=by rw [hi,yD hc hoc.symm]
   subst hia;obtain⟨ms,hms,hmo⟩:=hO.nms i ha;rw [BK hc hi0] at hmo;have hlk:=hmo.get' hx7;rw [hs] at hlk;rcases s with _|⟨v1,v2⟩
   all_goals
    have fx:=aJ hT hE hc1 hsr hsE Zs hsc hk1b hms<|hlk;have c1:=hlf';refine fj ?_<|fx;clear fx c1;refine qD [] .nil qE ⟨qB,qA9.fin ⟨gT,⟨br,λj k hj hk=>bq⟩,λk j hk hj=>gY,λi a ha=>gK,λi hi=>(hO.nms i hi).imp λms hm=>⟨vu,hm.2⟩,λk i j hk hn=>if e:k=1/\i=0/\j=0 then .inl e else hO.only k i j hk dN⟩⟩
 .have hk1b:(k.kind==1)=false:=by rw [beq_eq_false_iff_ne];exact hk1
  have hlv:W.nms a=W.vars (T9 p W a x):=by
   unfold T9;rw [hbk];by_cases hb:c.Z1=0
   .rw [if_pos hb];have:=ha0.2 hb;simp [Z5.nms,this,Z5.vars]
   .have hk2:k.kind=2:=by
     have:=hP.head c.Z1 k hk;unfold vG at this;rw [if_neg hb] at this;omega
    rw [if_neg hb,if_pos (by rw [hka];exact hk2)];exact BK hc (λe=>hb (ha0.1 e))
  obtain⟨ms,hms,hmo⟩:=hO.nms a ha;rw [hlv] at hmo;have hlk:=hmo.get' hx7;rw [hs] at hlk;refine Zj.Zl func116 [.cell 6 65] ntmps116 (λ_=>qN) λC w g root hroot=>?_;rcases s with _|⟨v1,v2⟩
  all_goals
   refine fj ?_<|aJ hT hE hc1 hsr hsE Zs hsc hk1b hms<|hlk;refine qD [] .nil qE ⟨qB,qA9.fin ⟨gT,⟨br,λj k hj hk=>bq⟩,λk j hk hj=>gY,λi a ha=>gK,λi hi=>(hO.nms i hi).imp λms hm=>⟨vu,hm.2⟩,λk i j hk hn=>if e:k=1/\i=0/\j=0 then .inl e else hO.only k i j hk dN⟩⟩
theorem MA (gl) (p:Z0) (hp:Z7 p) (b:Nat) (k:Za) (hk:p[b]?=some k):qb prog gl 115 [gx p,iv b] (λr y H'=>y=.hs r 1 0 (iQ p b).length/\H' r=some (.row 1 (qT (iQ p b)))):=by
 have hh:=hp.Zc;obtain⟨Zs,hbE⟩:=gS hk
 have hb0:k.kind=1->0<b:=by
  intro hk1;rcases dV b with e|e
  .rw [e] at hk;have:=(hp.qAx hk).2 rfl;omega
  .exact e
 have hsg:=vf (p:=p) Zs;rw [ji hh hk] at hsg;obtain⟨_,hse⟩:=gS hsg;have hfl:=yY (p:=p) (b:=b);rw [<- DF hh hk hb0];refine qb.Zl func115 [.tmp 4] ntmps115 λC w g root=>?_;have fx:=Zk;have d1:=iJ gl p hp b Zs;refine qG ?_;clear fx d1;refine qX (λn st=>∃ x:Nat,n=8 - x/\x<=8/\st.tm 0=gx p/\st.tm 1=iv b/\st.tm 5=.pt (.s 5) 0/\st.hp (.s 5)=some (.row 8 [vJ (zB (xO p b) x)])/\st.tm 6=.hs (.s 6) 1 0 (qd p b).length/\st.hp (.s 6)=some (.row 1 (qT (qd p b)))/\st.tm 11=iv x) 8 ?_ ?_
 .exact⟨0,qA,qA,qB,qB,qB,by simp [zB];rfl,qB,qB,qB⟩
 rintro n st - - ⟨x,rfl,hx,h0,h1,h5,hp5,h6,hp6,h11⟩;by_cases hx8:x<8
 .have hx8':(x:Int)<8:=qA;have hput:=RD (f:=xO p b) hx8;have hsx:xO p b x=(k.kind != 1||qa b k x||zI (qd p b) x != -1):=by simp [xO,hk]
  rw [hsx] at hput;have hlf:=vZ gl b k (jK p k.parent) k.params x hx8
  cases hk1:(k.kind==1)
  .have hb1:(k.kind != 1)=true:=by simp [bne,hk1]
   rw [hb1] at hput;simp only [E8] at hput;refine qC ?_<|qU h0 h1 h5 hp5 h6 hp6 h11 hx8 hx8' hsg hse Zs<|aI hb1<|hk1;exact⟨8 - (x+1),qA,x+1,rfl,qA,zR,qy,z7,by simp [hput],j3,aX,zD⟩
  .have hb1:(k.kind != 1)=false:=by simp [bne,hk1]
   have hkk:k.kind=1:=tM
   have hle:(k.kind != 0&&decide ((x:Int)∈k.bd)&&!(decide ((x:Int)∈k.dc 9)||decide ((x:Int)∈k.dc 10)))=qa b k x:=by
    simp [qa,hkk,hb0 hkk,Bool.and_assoc]
   rw [hle] at hlf;rw [hb1] at hput;simp only [Bool.false_or] at hput
   cases hl:qa b k x
   .rw [hl] at hlf hput;simp only [Bool.false_or] at hput;have fx:=qU h0 h1 h5 hp5 h6 hp6 h11 hx8 hx8' hsg hse Zs<|aI hb1<|hk1;have c1:=hlf;have c2:=wR gl (qd p b) x qA;refine qG ?_;clear fx c1 c2;exact⟨8 - (x+1),qA,x+1,rfl,qA,zR,qy,z7,by simp;exact hput,j3,aX,zD⟩
   .rw [hl] at hlf hput;simp only [E8] at hput;have fx:=qU h0 h1 h5 hp5 h6 hp6 h11 hx8 hx8' hsg hse Zs<|aI hb1<|hk1;have c1:=hlf;refine qG ?_;clear fx c1;exact⟨8 - (x+1),qA,x+1,rfl,qA,zR,qy,z7,by simp [hput],j3,aX,zD⟩
 .have hge:x=8:=qA;subst hge;have fx:=jI h5 hp5<|h11;have d1:=sC gl (zB (xO p b) 8);refine qG ?_;clear fx d1;exact jU (t:=4) zg zg qB
abbrev Vd:Zh:=aS<|.q 10<|.l 8 [10]<|.q 9<|.done
theorem FD {n:Nm} {vs:List Vw} {f:Nm->Option Nm} (h:∀ i j,f (.c n i j)=some (.c n i j)):(ua n vs).map (λr=>r.map (AV.tr f))=ua n vs:=ca λi j _=>h i j
attribute [local simp] FD
theorem wx {A G G2:Prop} (k:G2) (x:A) (h:A->Zx G2->G:=by
 intro fx kk;refine qG ?_
 repeat ((first|refine Ze (id:=6) Vd mixed ?_);refine qZ ?_;refine qG ?_)
 exact kk.h):G:=h x ⟨k⟩
theorem PL (gl) (H:Nm->Option AO) (F:Nat) (p:Z0) (W:Z5) (hP:Z7 p) (hw:Zy p W) (hno:H (.u 2 0 0)=none) (hn9:H (.u 9 0 0)=none) (hO0:Z4 H F p W) :
  Zj prog gl 64 DM [.pt Mn 0] H (λr y H'=>y=.hs r 3 0 (xd p W).length/\qDA H' r (xd p W)) noE:=by
 have hh:=hP.Zc;have hT:=hO0.top;obtain⟨lS,hlS,hR⟩:=hO0.run;simp only [uU] at hT;have hnst:=hw.qCJ;have hOv:=hO0.mv9
 have hin:∀ i∈W.stack++lS,i<W.ZX.length:=λi hi=>by
  rcases dY.1 hi with e|e
  .exact hw.stk i e
  .exact hlS i e
 generalize hSL:W.stack++lS=SL at hin hR;have hfx:∀ f:Nm->Option Nm,(∀ i∈SL,f (En i)=some (En i))->(zQ SL).map (λr=>r.map (AV.tr f))=zQ SL:=λf hf=>KT hf;refine Zj.Zl func64 [.tmp 2] ntmps64 (λ_=>qN) λC w g root hroot=>?_;refine wx ?_<|aI hT<|hR;refine Cl (.c Mn 0 7) (.u 9 0 0) (.inl rfl) (.inr (by simp [dz,hn9])) ?_;refine qX (λn st=>∃ (i:Nat) (vs:List Vw),n=W.stack.length - i/\i<=W.stack.length/\vs=(W.stack.take i).map (JH p W)/\vs.length=i/\st.tm 0=.pt Mn 0/\qA9 st.hp p W/\st.tm 3=.hs (.s 3) 3 0 vs.length/\qDA st.hp (.s 3) vs/\st.tm 12=.hs (.u 9 0 0) 1 0 W.stack.length/\st.hp (.u 9 0 0)=some (.row 1 (zQ SL))/\st.tm 13=iv W.stack.length/\st.tm 14=iv i) W.stack.length ?_ ?_
 .exact⟨0,[],qA,qA,qB,rfl,qB,⟨(by obtain⟨_,h9,_,_,_,_,_,_,_,_,rfl⟩:=hOv.top;exact⟨_,OA,.mk⟩),⟨by simp [hOv.scs.top],λj k hj hk=>by simp [hOv.scs.sc j k hj hk]⟩,λk j hk hj=>by simp [hOv.bx k j hk hj],λi a ha=>by simp [hOv.env i a ha],λi hi=>(hOv.nms i hi).imp λms hm=>⟨vu,hm.2⟩,λk i j hk hn=>if e:k=1/\i=0/\j=0 then .inl e else hOv.only k i j hk tB⟩,qB,⟨qB,λi c h=>by simp at h⟩,qB,eK,qB,qB⟩
 clear hT hR;rintro n0 st - - ⟨i,vs,rfl,hi,hvs,hvl,h0,hO,h3,⟨ht,he⟩,h12,hp9,h13,h14⟩;obtain⟨_,hT,x2,x3,x4,x5,x6,x7,x8,x9,rfl⟩:=hO.top;have hc1:=hO.scs.top;have hc2:=hO.scs.sc;by_cases hil:i<W.stack.length
 .obtain⟨a,ha⟩:=gX hil;obtain⟨_,haE⟩:=gS ha;have hal:=hw.stk a (gM ha);obtain⟨c,hc⟩:=gX hal;have hbk:=jq hc;have Zs:=hw.qBC a c hc;obtain⟨k,hk⟩:=gX Zs;have hE:=hO.env a c hc;simp only [yU] at hE
  have hSa:(zQ SL)[i]?=some [ptE a]:=by
   simp only [zQ,kx];rw [<- hSL,uW hil,ha]
   rfl
  obtain⟨hSal,hSaE⟩:=gS hSa;generalize hST:zQ SL=ST at hp9 hSa hSal hSaE;refine wx ?_<|aJ h0 h12 h13 h14 hT hp9 hSa hSal hSaE<|hil;intro K hK;have fx:=h0;refine PB (h:=?_);clear fx
  all_goals have fx:=u4 h0 h12 h13 h14 hT hE<|hc1
  repeat' (first
   | refine vH ?_|refine jd ?_|refine yH ?_|refine kL λK hK=>?_
   | ((with_reducible refine vA hK ?_);clear hK K)
   | (with_reducible first|refine qV ?_|refine jS ?_|refine jQ ?_|refine vW ?_|refine j6 ?_|refine kH ?_|refine kz ?_|refine jx qO ?_)
   | refine kR ?_
   | refine aM ?_
   | (with_reducible first|refine jL ?_|refine zL (h:=?_)|refine jW (T:=41) (h:=?_)|refine Cj (T:=41) (h:=?_)|refine yV (h:=?_))
   | ((with_reducible refine rr 115 rfl ?_);refine jP (hB:=(by first|((repeat' (first|exact .nil|refine .cons ?_ ?_|exact .refl _|exact vF vt vw|exact km vt vw eL|exact dS (n:=.c Mn 0 1) (p:=p) ⟨bW,λj k hj hk=>gA⟩ hh rfl));done)|fail)) (hF:=MA gl p hP c.Z1 k hk) (h:=?_))
   | (with_reducible refine x_q (h:=?_))
   | refine jr (h1:=?_)|refine yF (h1:=?_)
   | (refine Ze (id:=6) Vd mixed λK hK=>?_)
   | ((with_reducible refine u7 hK ?_);clear hK K)
   | ((with_reducible refine dZ ?_);first|refine nC (h:=?_)|refine pC (h:=?_)|refine pD (h:=?_)|refine pB (h:=?_))
   | ((with_reducible refine dZ ?_);refine pE (h1:=λht=>?_) (h2:=λht=>?_))
   | refine a_l rfl ?_|refine Kq ?_ ?_|refine Kp ?_ ?_ ?_|(with_reducible refine aI ?_ ?_)|exact vL|refine wj (h2:=?_)
   | fail)
  all_goals try clear fx
  subst hST;obtain⟨S,hSe⟩:∃ S,S=iQ p c.Z1:=⟨_,rfl⟩;have hSl:S.length<=8:=hSe ▸ Lz;have hSm:∀ x∈S,x∈iQ p c.Z1:=λx hx=>hSe ▸ hx;have hSp:S.Pairwise (·<·):=hSe ▸ Pe;have hSn:S.Nodup:=hSp.imp λh=>qA;rw [<- hSe];refine Cl (.s 6) (.u 2 0 0) (.inl rfl) (.inr l0) ?_;refine qX (λn1 st=>∃ (j:Nat),n1=S.length - j/\j<=S.length/\st.tm 6=.mp (.u 2 0 0)/\st.hp (.u 2 0 0)=some (.map (aQ (Ah p W a) (S.take j)))/\st.tm 27=.hs (.s 27) 1 0 S.length/\st.hp (.s 27)=some (.row 1 (qT S))/\st.tm 28=iv S.length/\st.tm 29=iv j/\st.tm 5=ptE a/\st.tm 0=.pt Mn 0/\qA9 st.hp p W/\st.tm 3=.hs (.s 3) 3 0 vs.length/\qDA st.hp (.s 3) vs/\st.tm 12=.hs (.u 9 0 0) 1 0 W.stack.length/\st.hp (.u 9 0 0)=some (.row 1 (zQ SL))/\st.tm 13=iv W.stack.length/\st.tm 14=iv i) S.length ⟨0,qA,qA,qB,qB,qB,qB,qB,qB,qB,zR,⟨gT,⟨br,λj k hj hk=>bq⟩,λk j hk hj=>gY,λi a ha=>gK,λi hi=>(hO.nms i hi).imp λms hm=>⟨vu,hm.2⟩,λk i j hk hn=>if e:k=1/\i=0/\j=0 then .inl e else hO.only k i j hk tB⟩,qt,⟨oI,λq v hq=>⟨HD,G0⟩⟩,aZ,by simp [hp9],gQ,cA⟩ ?_;clear hT hc1 hc2 hE hO h0 h3 ht he h12 hp9 h13 h14 hSa;rintro n1 st - - ⟨j,rfl,hj,h6,hm,h27,hp27,h28,h29,h5,h0,hO,h3,⟨ht,he⟩,h12,hp9,h13,h14⟩;obtain⟨_,hT,y2,y3,y4,y5,y6,y7,y8,y9,rfl⟩:=hO.top;have hE:=hO.env a c hc;simp only [yU] at hE;by_cases hjl:j<S.length
  .obtain⟨x,hx⟩:=gX hjl;obtain⟨_,hxE⟩:=gS hx;have hxs:=hSm x (gM hx);obtain⟨hx0,hx7⟩:=DE hxs;obtain⟨X,rfl⟩:∃ X:Nat,x=X:=⟨x.toNat,qA⟩;have hX8:X<8:=qA
   have hnot:(X:Int)∉S.take j:=by
    intro hmem;obtain⟨q,hq⟩:=eW hmem;rw [O8] at hq
    split at hq
    .rename_i hqj;have:=(List.getElem?_inj qA hSn).1 (hq.trans hx.symm);omega
    .cases hq
   have wF:=NF (g:=Ah p W a) hnot;have htk:S.take (j+1)=S.take j++[(X:Int)]:=by rw [uQ,hx];rfl
   have hEn:∀ i∈SL,(st.hp (En i)).isSome=true:=λi hi=>by
    obtain⟨q,hq⟩:∃ q,W.ZX[i]?=some q:=⟨_,gE (hin i hi)⟩;rw [hO.env i q hq]
    rfl
   refine wx ?_<|jJ h6 hm h27 hp27 h28 h29 h5 h0 hjl hx<|hxE;intro K hK;have fx:=aI h6 (aI h5 h0);refine S0 hO0 ⟨gT,⟨br,λj k hj hk=>bq⟩,λk j hk hj=>gY,λi a ha=>gK,λi hi=>(hO.nms i hi).imp λms hm=>⟨vu,hm.2⟩,λk i j hk hn=>if e:k=1/\i=0/\j=0 then .inl e else hO.only k i j hk tB⟩ (qf _) (qf _) (hF:=λhs=>MV gl _ p W a X hP hw hal hX8 (by rw [hbk];exact hxs) hs) (h:=?_);rintro y H1 ⟨rfl,hO1⟩;clear fx;refine wx ?_<|jI h6 hm<|h29;have fx:=aI h6 (aI hm (aI h29 wF));refine im (h:=?_);clear fx;refine wx ?_<| h29;refine⟨S.length - (j+1),qA,j+1,rfl,qA,j3,by simp [htk],by simp [h27],by simp [hp27],vo,by simp [h29];exact Zv qA qA,by simp [h5,hE],by simp [h0,hT],⟨(by obtain⟨_,h9,_,_,_,_,_,_,_,_,rfl⟩:=hO1.top;exact⟨_,OA,.mk⟩),⟨by simp [hO1.scs.top],λj k hj hk=>HI⟩,λk j hk hj=>by simp [hO1.bx k j hk hj],λi a ha=>by simp [hO1.env i a ha],λi hi=>(hO1.nms i hi).imp λms hm=>⟨vu,hm.2⟩,λk i j hk hn=>if e:k=1/\i=0/\j=0 then .inl e else hO1.only k i j hk tB⟩,qt,⟨oI,λq v hq=>⟨HD,G0⟩⟩,aZ,by simp [hp9,-List.map_map];rw [hfx _ (λi hi=>by have:=hEn i hi;simp [this])],gQ,cA⟩
  .obtain rfl:j=S.length:=qA;rw [an] at hm;have hvl2:vs.length<=1000:=qA;have hve:JH p W a=⟨c.Z1,xc (S.map λx=>(x,Ah p W a x)),JG (S.map λx=>(x,Ah p W a x))⟩:=by simp only [JH,hbk,<- hSe]
   refine wx ?_<|bA h6 hm h28 h29 hjl h5 h3 hE<|h0;intro K hK;have fx:=aI h6 (aI h3 hm);refine aL (.u 2 0 0) rfl aF (hF:=LJ gl c.Z1 (Ah p W a) S S (.refl _) hSp (λx hx=>DE (hSm x hx)) hSl _ (by simp [nD,hm])) (h:=?_);rw [<- hve];generalize JH p W a=v at hve;rintro y H2 ⟨rfl,hVv⟩;have o1:=hVv.names;have o2:=hVv.vals;clear fx;refine wx ?_<|uD h3 ht h14 hvl2 o1<|o2;refine⟨W.stack.length - (i+1),qA,i+1,vs++[v],rfl,qA,by rw [uQ,ha,E6,hvs];simp [hve,JH,hbk,<- hSe],by simp [hvl],zR,⟨gT,⟨br,λj k hj hk=>bq⟩,λk j hk hj=>gY,λi a ha=>gK,λi hi=>(hO.nms i hi).imp λms hm=>⟨vu,hm.2⟩,λk i j hk hn=>if e:k=1/\i=0/\j=0 then .inl e else hO.only k i j hk tB⟩,qB,⟨?_,λq d hq=>?_⟩,aZ,by simp [hp9],gQ,by simp [h14];exact Zv qA qA⟩
   .simp [ht,JE]
   .rcases fF q vs.length with hlq|hgq
    .rw [uW hlq] at hq;have hne:¬ q=vs.length:=qA;obtain⟨e1,e2⟩:=he q d hq;exact⟨by simp [hne,e1],by simp [hne,e2]⟩
    .rw [b7 hgq] at hq
     obtain rfl:q=vs.length:=by
      have:=(gS hq).1;simp at this;omega
     simp at hq;subst hq;exact⟨by simp [o1],by simp [o2]⟩
 .obtain rfl:i=W.stack.length:=qA;rw [an] at hvs;have hvs':xd p W=vs:=hvs.symm;rw [hvs'];refine wx ?_<|yS h3 ht h13 h14<|hil;refine qD [(.s 2,root)] (.one rfl) qE ⟨qB,⟨by simp [ht,hroot root (Nm.Z6 _),ca (n:=.s 2) (m:=root) (f:=jc DM [(.s 2,root)]) qB],λq v hq=>⟨by simp [(he q v hq).names,hroot root (Nm.Z6 _)],by simp [(he q v hq).vals,hroot root (Nm.Z6 _)]⟩⟩⟩
theorem fD (gl) (p:Z0) (f:Int) (hs:Sml p):qb prog gl 30 [pav p,iv f] (λr y H'=>y=.hs r 3 0 (ea p f).length/\qDA H' r (ea p f)):=by
 refine qb.Zl func30 [.tmp 4] ntmps30 λC w g root=>?_
 cases hv0:jF p
 .have hv:jT p f=false:=lZ;have hG:ea p f=[]:=by simp [ea,hv]
  rw [hG];have fx:= hv0;have c1:=hv0 ▸ qM gl p hs;refine qG ?_;clear fx c1;refine qD [(.s 4,root)] (.one rfl) qE ⟨qB,⟨qB,λi c h=>by simp at h⟩⟩
 cases hv:jT p f
 .have hf:(decide (0<=f)&&decide (f<=150))=false:=bz;have hG:ea p f=[]:=by simp [ea,hv]
  rw [hG];have fx:=aI hv0<|hf;have c1:=hv0 ▸ qM gl p hs;have c2:=hf ▸ yl gl f;refine qG ?_;clear fx c1 c2;refine qD [(.s 4,root)] (.one rfl) qE ⟨qB,⟨qB,λi c h=>by simp at h⟩⟩
 .obtain⟨hpo,n,rfl,hn⟩:=jl hv;have hP:=Zm.of hs hpo;have hf:(decide (0<=(n:Int))&&decide ((n:Int)<=150))=true:=bz;have hm:=lD hP.sh hn;have hG:ea p n=xd p (yI p n):=by simp [ea,hv]
  rw [hG];have fx:=aI hv0<|hf;have c1:=hv0 ▸ qM gl p hs;have c2:=hf ▸ yl gl n;refine qG ?_;clear fx c1 c2;intro K hK;have fx:=Zk;refine eZ (λk i j he=>cO) (hF:=bj gl _ p n hP hn cN) (h:=?_);rintro y H1 ⟨rfl,hO1⟩;clear fx;have hT1:=hO1.top;simp only [uU] at hT1;refine qC ?_<| hT1;have fx:=hT1;refine eZ (λk i j he=>cO) (hF:=PL gl _ _ p (yI p n) hP.sh hm.ok (by simp [cL]) (by simp [cL]) (Z4.sub (p:=p) (F:=235) (w:=yI p n) (have om:=hO1;Z4.re om))) (h:=?_);rintro y H2 ⟨rfl,hV2⟩;clear fx;obtain⟨ht,he⟩:=hV2;refine qC ?_<| ht;refine qD [(.s 4,root)] (.one rfl) qE ⟨qB,⟨by simp [ht,ca (n:=.s 4) (m:=root) (f:=jc noD [(.s 4,root)]) qB],λq v hq=>⟨HD,G0⟩⟩⟩
end Go.Proofs.YtdnebaieamppbaaGreatDoor
end
