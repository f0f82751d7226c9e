import Derived.Shelf.SlIterI.Nil
import Derived.Shelf.SortM.Plain
import Derived.Shelf.SortM.SortNone
import Derived.Test.YtdnebaieamppbaaGreatDoorF24
set_option linter.unusedSimpArgs false
set_option linter.unusedVariables false
set_option maxRecDepth 100000
set_option maxHeartbeats 4000000

section
namespace Go.Proofs.YtdnebaieamppbaaGreatDoor
open Go Go.Hm Go.Proofs Go.RowKit Go.Maps Go.Sort Go.Shelf Tryz
def DE:Go.Shelf.Ren:=⟨fun|7=>163|10=>198|n=>n,fun|23=>169|26=>3|3=>65|28=>230|0=>0|27=>229|33=>59|4=>4|n=>n,fun|n=>n⟩
theorem X8:Go.Proofs.SlLaysZI.n7 prog DE where
 mixed:=qM
 f7:=⟨Tryz.f163.name,qL,func163.trans (congrArg some qM)⟩
 f10:=⟨Tryz.f198.name,qL,func198.trans (congrArg some qM)⟩
 t0:=Tryz.underlying0
 a0:=Tryz.isAgg0
 z0:=Tryz.sizeOf0
 v0:=Tryz.zeroValue0
 t4:=Tryz.underlying4
 a4:=Tryz.isAgg4
 z4:=Tryz.sizeOf4
 v4:=Tryz.zeroValue4
 t23:=Tryz.underlying169
 a23:=Tryz.isAgg169
 z23:=Tryz.sizeOf169
 v23:=Tryz.zeroValue169
 t26:=Tryz.underlying3
 a26:=Tryz.isAgg3
 z26:=Tryz.sizeOf3
 v26:=Tryz.zeroValue3
 t27:=Tryz.underlying229
 a27:=Tryz.isAgg229
 z27:=Tryz.sizeOf229
 v27:=Tryz.zeroValue229
 t28:=Tryz.underlying230
 a28:=Tryz.isAgg230
 z28:=Tryz.sizeOf230
 v28:=Tryz.zeroValue230
 t33:=Tryz.underlying59
 a33:=Tryz.isAgg59
 z33:=Tryz.sizeOf59
 v33:=Tryz.zeroValue59
def oY:Go.Shelf.Ren:=⟨fun|6=>162|8=>196|9=>197|11=>224|13=>226|12=>225|23=>247|24=>248|14=>238|15=>239|16=>240|17=>241|18=>242|19=>243|20=>244|21=>245|22=>246|25=>250|26=>251|27=>252|28=>253|29=>254|30=>255|31=>256|n=>n,fun|26=>3|28=>230|24=>32|0=>0|3=>3|37=>293|48=>315|50=>317|4=>4|40=>307|39=>306|45=>312|5=>5|9=>9|51=>319|55=>184|57=>324|58=>49|33=>59|n=>n,fun|n=>n⟩
theorem R4:Go.Proofs.SlLaysZI.n6 prog oY where
 mixed:=qM
 f6:=⟨Tryz.f162.name,qL,func162.trans (congrArg some qM)⟩
 f8:=⟨Tryz.f196.name,qL,func196.trans (congrArg some qM)⟩
 f11:=⟨Tryz.f224.name,qL,func224.trans (congrArg some qM)⟩
 t0:=Tryz.underlying0
 a0:=Tryz.isAgg0
 z0:=Tryz.sizeOf0
 v0:=Tryz.zeroValue0
 t24:=Tryz.underlying32
 a24:=Tryz.isAgg32
 z24:=Tryz.sizeOf32
 v24:=Tryz.zeroValue32
 t26:=Tryz.underlying3
 a26:=Tryz.isAgg3
 z26:=Tryz.sizeOf3
 v26:=Tryz.zeroValue3
 t28:=Tryz.underlying230
 a28:=Tryz.isAgg230
 z28:=Tryz.sizeOf230
 v28:=Tryz.zeroValue230
 i26:=qM
def Kh:Go.Shelf.Ren:=⟨fun|5=>197|8=>226|7=>225|19=>247|20=>248|10=>238|11=>239|12=>240|13=>241|14=>242|15=>243|16=>244|17=>245|18=>246|30=>250|31=>251|32=>252|33=>253|34=>254|35=>255|40=>256|n=>n,fun|23=>32|25=>3|3=>3|32=>293|22=>32|0=>0|44=>315|46=>317|4=>4|36=>307|35=>306|41=>312|5=>5|9=>9|53=>319|57=>184|63=>324|64=>49|n=>n,fun|n=>n⟩
theorem Tw:Go.Proofs.SlLaysM.n5 prog Kh where
 mixed:=qM
 f5:=⟨Tryz.f197.name,qL,func197.trans (congrArg some qM)⟩
 f7:=⟨Tryz.f225.name,qL,func225.trans (congrArg some qM)⟩
 f8:=func226.trans (congrArg some qM)
 f10:=⟨Tryz.f238.name,qL,func238.trans (congrArg some qM)⟩
 f11:=⟨Tryz.f239.name,qL,func239.trans (congrArg some qM)⟩
 f12:=⟨Tryz.f240.name,qL,func240.trans (congrArg some qM)⟩
 f13:=⟨Tryz.f241.name,qL,func241.trans (congrArg some qM)⟩
 f14:=⟨Tryz.f242.name,qL,func242.trans (congrArg some qM)⟩
 f15:=⟨Tryz.f243.name,qL,func243.trans (congrArg some qM)⟩
 f16:=⟨Tryz.f244.name,qL,func244.trans (congrArg some qM)⟩
 f17:=⟨Tryz.f245.name,qL,func245.trans (congrArg some qM)⟩
 f18:=⟨Tryz.f246.name,qL,func246.trans (congrArg some qM)⟩
 f19:=func247.trans (congrArg some qM)
 f20:=func248.trans (congrArg some qM)
 f30:=⟨Tryz.f250.name,qL,func250.trans (congrArg some qM)⟩
 f31:=func251.trans (congrArg some qM)
 f32:=func252.trans (congrArg some qM)
 f33:=⟨Tryz.f253.name,qL,func253.trans (congrArg some qM)⟩
 f34:=⟨Tryz.f254.name,qL,func254.trans (congrArg some qM)⟩
 f35:=⟨Tryz.f255.name,qL,func255.trans (congrArg some qM)⟩
 f40:=⟨Tryz.f256.name,qL,func256.trans (congrArg some qM)⟩
 t0:=Tryz.underlying0
 a0:=Tryz.isAgg0
 z0:=Tryz.sizeOf0
 v0:=Tryz.zeroValue0
 t3:=Tryz.underlying3
 a3:=Tryz.isAgg3
 z3:=Tryz.sizeOf3
 v3:=Tryz.zeroValue3
 t4:=Tryz.underlying4
 a4:=Tryz.isAgg4
 z4:=Tryz.sizeOf4
 v4:=Tryz.zeroValue4
 t5:=Tryz.underlying5
 a5:=Tryz.isAgg5
 z5:=Tryz.sizeOf5
 v5:=Tryz.zeroValue5
 t9:=Tryz.underlying9
 a9:=Tryz.isAgg9
 z9:=Tryz.sizeOf9
 v9:=Tryz.zeroValue9
 t22:=Tryz.underlying32
 a22:=Tryz.isAgg32
 z22:=Tryz.sizeOf32
 v22:=Tryz.zeroValue32
 t23:=Tryz.underlying32
 a23:=Tryz.isAgg32
 z23:=Tryz.sizeOf32
 v23:=Tryz.zeroValue32
 t25:=Tryz.underlying3
 a25:=Tryz.isAgg3
 z25:=Tryz.sizeOf3
 v25:=Tryz.zeroValue3
 t32:=Tryz.underlying293
 a32:=Tryz.isAgg293
 z32:=Tryz.sizeOf293
 v32:=Tryz.zeroValue293
 t35:=Tryz.underlying306
 a35:=Tryz.isAgg306
 z35:=Tryz.sizeOf306
 v35:=Tryz.zeroValue306
 t36:=Tryz.underlying307
 a36:=Tryz.isAgg307
 z36:=Tryz.sizeOf307
 v36:=Tryz.zeroValue307
 t41:=Tryz.underlying312
 a41:=Tryz.isAgg312
 z41:=Tryz.sizeOf312
 v41:=Tryz.zeroValue312
 t44:=Tryz.underlying315
 a44:=Tryz.isAgg315
 z44:=Tryz.sizeOf315
 v44:=Tryz.zeroValue315
 t46:=Tryz.underlying317
 a46:=Tryz.isAgg317
 z46:=Tryz.sizeOf317
 v46:=Tryz.zeroValue317
 t53:=Tryz.underlying319
 a53:=Tryz.isAgg319
 z53:=Tryz.sizeOf319
 v53:=Tryz.zeroValue319
 t57:=Tryz.underlying184
 a57:=Tryz.isAgg184
 z57:=Tryz.sizeOf184
 v57:=Tryz.zeroValue184
 t63:=Tryz.underlying324
 a63:=Tryz.isAgg324
 z63:=Tryz.sizeOf324
 v63:=Tryz.zeroValue324
 t64:=Tryz.underlying49
 a64:=Tryz.isAgg49
 z64:=Tryz.sizeOf49
 v64:=Tryz.zeroValue49
theorem Tv (m:Nat):AnyZI.SortsIn prog oY Fence.wide m :=
 ⟨λYS off cap ss W hH hblk hsz=>callsIn_wide.2 (AnyM.slices_Sort_int Tw YS off cap ss W hH hblk hsz),λp cap W=>callsIn_wide.2 (AnyM.slices_Sort_int_none Tw p cap W)⟩
theorem CG {H:Type} (Bm b nn:Nat) (D0:DataW H) (R:Value->Option (DataW H×List MemPlace)) (w:World) (hBm:Bm<w.heap.size) (hm:w.cell? ⟨Bm,0,none⟩=some (.map (some b))) (hown:w.ownsMap prog 3 R b nn D0) (hmax:Maps.size D0<=maxLen) (hbytes:Maps.size D0 * 8<=140737488355328) :
  Calls prog 162 #[.func (.func 198) #[] #[.pointer (some ⟨Bm,0,none⟩)]] w λe w'=>∃ (v:Value) (ss:List Int),e=.returned v/\ss.Perm (intKeys D0) /\
   w'.ownsRow w.heap.size 3 1 v ss.length ((ss.mergeSort (λx y=>decide (x<=y))).map encZ)/\(v=.slice none 0 0↔ss=[])/\Below w.heap.size w w':=by
 have hseq:SeqGives Fence.wide 2 prog 198 #[.pointer (some ⟨Bm,0,none⟩)] encZ (λss=>ss.Perm (intKeys D0)) (Maps.size D0) w :=
  AnyZI.keys_gives (ρ:=DE) { X8 with } Fence.wide _ trivial rfl qA Bm b nn D0 _ hBm hm hown
 have cS:=AnyZI.sorted_in R4 Fence.wide 5 trivial trivial trivial trivial rfl qA (Tv _) (enters_of func197 qM rfl) 198 #[.pointer (some ⟨Bm,0,none⟩)] trivial (enters_of func198 qM rfl) _ _ hmax hbytes _ hseq;exact (callsIn_wide (n:=5)).1 cS
end Go.Proofs.YtdnebaieamppbaaGreatDoor
end
section
namespace Go.Proofs.YtdnebaieamppbaaGreatDoor
open Go Go.Hm Go.Proofs
def vC (s:Y5):AV :=
 if s.kind=0 then .Zf 241 (.agg [iv s.a]) else if s.kind=1 then .Zf 190 (.agg [iv s.a]) else if s.kind=2 then .Zf 194 (.agg [iv s.a,iv s.b])
 else if s.kind=3 then .Zf 205 (.agg [iv 1,iv s.a]) else if s.kind=4 then .Zf 205 (.agg [iv 2,iv s.a]) else if s.kind=5 then .Zf 196 (.agg [iv s.a,iv s.b])
 else if s.kind=6 then .Zf 192 (.agg [iv s.a,iv s.b]) else if s.kind=7 then .Zf 198 (.agg [iv s.a]) else if s.kind=8 then .Zf 199 (.agg [iv s.a])
 else if s.kind=9\/s.kind=10 then .Zf 243 (.agg []) else if s.kind=11 then .Zf 244 (.agg []) else .sc .nilIface
@[simp] theorem formAV_cln (s:Y5):(vC s).Zh=true:=by
 unfold vC
 repeat' split
 all_goals simp
section
variable {n:Int} {to a b:Int}
@[simp] theorem Pk:vC ⟨0,to,a,b⟩=.Zf 241 (.agg [iv a]):=dC
@[simp] theorem Pj:vC ⟨1,to,a,b⟩=.Zf 190 (.agg [iv a]):=dC
@[simp] theorem Pi:vC ⟨2,to,a,b⟩=.Zf 194 (.agg [iv a,iv b]):=dC
@[simp] theorem Ph:vC ⟨3,to,a,b⟩=.Zf 205 (.agg [iv 1,iv a]):=dC
@[simp] theorem Pg:vC ⟨4,to,a,b⟩=.Zf 205 (.agg [iv 2,iv a]):=dC
@[simp] theorem Pf:vC ⟨5,to,a,b⟩=.Zf 196 (.agg [iv a,iv b]):=dC
@[simp] theorem Pe:vC ⟨6,to,a,b⟩=.Zf 192 (.agg [iv a,iv b]):=dC
@[simp] theorem Pd:vC ⟨7,to,a,b⟩=.Zf 198 (.agg [iv a]):=dC
@[simp] theorem Pc:vC ⟨8,to,a,b⟩=.Zf 199 (.agg [iv a]):=dC
@[simp] theorem Pb:vC ⟨9,to,a,b⟩=.Zf 243 (.agg []):=dC
@[simp] theorem M2:vC ⟨10,to,a,b⟩=.Zf 243 (.agg []):=dC
@[simp] theorem M1:vC ⟨11,to,a,b⟩=.Zf 244 (.agg []):=dC
theorem DT {s:Y5} (h:¬ (0<=s.kind/\s.kind<=11)):vC s=.sc .nilIface:=by
 unfold vC
 repeat' split
 all_goals first|rfl|omega
theorem fK (n:Int):n=0\/n=1\/n=2\/n=3\/n=4\/n=5\/n=6\/n=7\/n=8\/n=9\/n=10\/n=11\/¬ (0<=n/\n<=11):=qA
end
theorem jk (gl) (s:Y5):qX Tryz.prog gl 129 [s.av] (λ_ x _=>x=vC s):=by
 refine qX.Yb Tryz.func129 [.tmp 2] Tryz.ntmps129 λC w g root=>?_
 all_goals have fx:=Ya
 repeat' (first|refine qK ?_|refine λ(K:St->Prop) hK=>?_|refine cJ (h1:=λht=>?_) (h2:=λht=>?_))
 all_goals try clear fx
 all_goals refine qE [] .nil qF ?_
 all_goals simp_all [vC]
theorem BP (gl) (s:Y5):qX Tryz.prog gl 173 [s.av] (λ_ x _=>x=bv (decide (s.qAX\/s.kind=11))):=by
 obtain⟨n,to,a,b⟩:=s;refine qX.Yb Tryz.func173 [.tmp 2] Tryz.ntmps173 λC w g root=>?_;rcases fK n with rfl|rfl|rfl|rfl|rfl|rfl|rfl|rfl|rfl|rfl|rfl|rfl|hn
 case inr.inr.inr.inr.inr.inr.inr.inr.inr.inr.inr.inr =>
  have hf:vC ⟨n,to,a,b⟩=.sc .nilIface:=DT hn;have fx:= hf;have c1:=jk gl ⟨n,to,a,b⟩;refine qI ?_;clear fx c1;refine qE [] .nil qF ?_;have h1:¬ (0<=n/\n<=6\/n=11):=qA;simp [h1]
 all_goals
  all_goals have fx:=Ya
  repeat' (first|refine qK ?_|refine λ(K:St->Prop) hK=>?_|refine qP (hF:=jk _ ⟨_,to,a,b⟩) (h:=?_))
  all_goals try clear fx
 all_goals refine qE [] .nil qF ?_
 all_goals simp
theorem uw (gl) (p:YU) (b:Int):qX Tryz.prog gl 70 [Zc p,iv b] (λ_ x _=>x=bv (decide (0<=b/\b<p.length))):=by
 refine qX.Yb Tryz.func70 [.tmp 4] Tryz.ntmps70 λC w g root=>?_
 all_goals have fx:=Ya
 repeat' (first|refine qK ?_|refine λ(K:St->Prop) hK=>?_|(with_reducible refine bq (λht=>?_) (λht=>?_)))
 all_goals try clear fx
 all_goals refine qE [] .nil qF ?_
 all_goals simp_all
 all_goals omega
theorem FC (gl) (i:Nat) (k:Y4):qX Tryz.prog gl 139 [iv i,k.av] (λ_ x _=>x=bv (wD i k)):=by
 obtain⟨kind,parent,params,body⟩:=k;refine qX.Yb Tryz.func139 [.tmp 4] Tryz.ntmps139 λC w g root=>?_;rcases params with _|⟨x,_|⟨y,l⟩⟩
 .skip
  all_goals have fx:=Ya
  repeat' (first|refine qK ?_|refine λ(K:St->Prop) hK=>?_|(with_reducible refine bq (λht=>?_) (λht=>?_))|refine cJ (h1:=λht=>?_) (h2:=λht=>?_))
  all_goals try clear fx
  all_goals refine qE [] .nil qF ?_
  all_goals simp_all [wD,ym]
  all_goals grind
 .skip
  all_goals have fx:=Ya
  repeat' (first|refine qK ?_|refine λ(K:St->Prop) hK=>?_|refine qP (hF:=j2 _ x) (h:=?_)|(with_reducible refine bq (λht=>?_) (λht=>?_))|refine cJ (h1:=λht=>?_) (h2:=λht=>?_))
  all_goals try clear fx
  all_goals refine qE [] .nil qF ?_
  all_goals simp_all [wD,ym]
  all_goals grind
 .have h1:((l.length:Int)+1+1==1)=false:=qv;have h0:((l.length:Int)+1+1==0)=false:=qv
  all_goals have fx:=aI h0<|h1
  repeat' (first|refine qK ?_|refine λ(K:St->Prop) hK=>?_|(with_reducible refine bq (λht=>?_) (λht=>?_))|refine cJ (h1:=λht=>?_) (h2:=λht=>?_))
  all_goals try clear fx
  all_goals refine qE [] .nil qF ?_
  all_goals simp_all [wD,ym]
  all_goals grind
theorem Cx {p:YU} {b j:Nat} {q:Y4} {d:Int} (hh:zD p) (hq:p[j]?=some q):wQ p b j d=((q.kind==d)&&(q.parent==b)):=by
 have hj:j<p.length:=(gS hq).1;obtain⟨_,h2,_⟩:=hh j q hq;simp only [wQ,a6,hq];by_cases h:q.parent=b
 .have:(b:Int)+1<=j/\(j:Int)<=p.length - 1:=qA;simp [this]
 .simp [h]
theorem Cw {p:YU} {b:Nat} {j d:Int} (h:¬ (0<=j/\j<p.length)):wQ p b j d=false:=by
 have:¬ ((b:Int)+1<=j/\j<=(p.length:Int) - 1):=qA;simp [wQ,this]
theorem gu (gl) (p:YU) (b:Nat) (k:Y4) (s:Y5) (hk:p[b]?=some k) (hh:zD p) (hd:ym b k):qX Tryz.prog gl 140 [Zc p,iv b,s.av] (λ_ x _=>x=bv (zP p b k s)):=by
 obtain⟨n,to,a,c⟩:=s
 have hb0:(k.kind=0)↔b=0:=by
  unfold ym at hd
  split at hd <;> omega
 refine qX.Yb Tryz.func140 [.tmp 6] Tryz.ntmps140 λC w g root=>?_;by_cases hto:0<=to/\to<=7
 case neg =>
  have h1:(decide (0<=to)&&decide (to<=7))=false:=qv;have fx:= h1;have c1:=j2 gl to;refine qI ?_;clear fx c1;refine qE [] .nil qF ?_;simp [zP,h1]
 have h1:(decide (0<=to)&&decide (to<=7))=true:=qv;rcases fK n with rfl|rfl|rfl|rfl|rfl|rfl|rfl|rfl|rfl|rfl|rfl|rfl|hn
 case inr.inr.inr.inr.inr.inr.inr.inr.inr.inr.inr.inr =>
  have hf:vC ⟨n,to,a,c⟩=.sc .nilIface:=DT hn;have fx:=aI h1<|hf;have c1:=j2 gl to;have c2:=jk gl ⟨n,to,a,c⟩;refine qI ?_;clear fx c1 c2;refine qE [] .nil qF ?_;have h2:¬ (n=0\/n=1\/n=2\/n=3\/n=4\/n=5\/n=6\/n=7\/n=8\/n=9\/n=10\/n=11):=qA;simp only [not_or] at h2;simp [zP,h2]
 case inr.inr.inr.inl =>
  by_cases ha:0<=a/\a<p.length
  .obtain⟨j,rfl⟩:∃ j:Nat,a=j:=⟨a.toNat,qA⟩;obtain⟨q,hq⟩:∃ q,p[j]?=some q:=⟨_,gE qA⟩;obtain⟨h2,h3⟩:=gS hq
   all_goals have fx:=j4 h1 hq h2<|h3
   repeat' (first|refine qK ?_|refine λ(K:St->Prop) hK=>?_|refine qP (hF:=j2 _ to) (h:=?_)|refine qP (hF:=jk _ ⟨_,to,_,c⟩) (h:=?_)|refine qP (hF:=uw _ p _) (h:=?_)|(with_reducible refine bq (λht=>?_) (λht=>?_))|refine cJ (h1:=λht=>?_) (h2:=λht=>?_))
   all_goals try clear fx
   all_goals refine qE [] .nil qF ?_
   all_goals simp_all [zP,Cx,Y5.reads]
  .have h2:¬ (0<=a/\a<p.length):=ha
   all_goals have fx:=aI h1<|h2
   repeat' (first|refine qK ?_|refine λ(K:St->Prop) hK=>?_|refine qP (hF:=j2 _ to) (h:=?_)|refine qP (hF:=jk _ ⟨_,to,_,c⟩) (h:=?_)|refine qP (hF:=uw _ p _) (h:=?_)|(with_reducible refine bq (λht=>?_) (λht=>?_))|refine cJ (h1:=λht=>?_) (h2:=λht=>?_))
   all_goals try clear fx
   all_goals refine qE [] .nil qF ?_
   all_goals simp [zP,Cw h2]
 case inr.inr.inr.inr.inl =>
  by_cases ha:0<=a/\a<p.length
  .obtain⟨j,rfl⟩:∃ j:Nat,a=j:=⟨a.toNat,qA⟩;obtain⟨q,hq⟩:∃ q,p[j]?=some q:=⟨_,gE qA⟩;obtain⟨h2,h3⟩:=gS hq
   all_goals have fx:=j4 h1 hq h2<|h3
   repeat' (first|refine qK ?_|refine λ(K:St->Prop) hK=>?_|refine qP (hF:=j2 _ to) (h:=?_)|refine qP (hF:=jk _ ⟨_,to,_,c⟩) (h:=?_)|refine qP (hF:=uw _ p _) (h:=?_)|(with_reducible refine bq (λht=>?_) (λht=>?_))|refine cJ (h1:=λht=>?_) (h2:=λht=>?_))
   all_goals try clear fx
   all_goals refine qE [] .nil qF ?_
   all_goals simp_all [zP,Cx,Y5.reads]
  .have h2:¬ (0<=a/\a<p.length):=ha
   all_goals have fx:=aI h1<|h2
   repeat' (first|refine qK ?_|refine λ(K:St->Prop) hK=>?_|refine qP (hF:=j2 _ to) (h:=?_)|refine qP (hF:=jk _ ⟨_,to,_,c⟩) (h:=?_)|refine qP (hF:=uw _ p _) (h:=?_)|(with_reducible refine bq (λht=>?_) (λht=>?_))|refine cJ (h1:=λht=>?_) (h2:=λht=>?_))
   all_goals try clear fx
   all_goals refine qE [] .nil qF ?_
   all_goals simp [zP,Cw h2]
 all_goals
  all_goals have fx:=aI h1<|hk
  repeat' (first|refine qK ?_|refine λ(K:St->Prop) hK=>?_|refine qP (hF:=j2 _ _) (h:=?_)|refine qP (hF:=jk _ ⟨_,to,a,c⟩) (h:=?_)|(with_reducible refine bq (λht=>?_) (λht=>?_))|refine cJ (h1:=λht=>?_) (h2:=λht=>?_))
  all_goals try clear fx
 all_goals refine qE [] .nil (by simp [hk];rfl) ?_
 all_goals simp_all [zP,Y5.reads]
 all_goals first|omega|grind
theorem O7 {s:Y5} (h:s.kind=3\/s.kind=4):∃ d,Bx Tryz.prog 205 (vC s)=some (.Zg [.agg [iv d,iv s.a],bv true]):=by
 obtain⟨n,to,a,b⟩:=s;rcases h with h|h
 .simp only at h;subst h;exact⟨1,qB⟩
 .simp only at h;subst h;exact⟨2,qB⟩
theorem Tr {s:Y5} (h:¬ (s.kind=3\/s.kind=4)):Bx Tryz.prog 205 (vC s)=some (.Zg [.agg [iv 0,iv 0],bv false]):=by
 simp only [not_or] at h;obtain⟨h3,h4⟩:=h;unfold vC;rw [if_neg h3,if_neg h4]
 repeat' split
 all_goals simp
theorem am (gl) (p:YU) (hs:Zm p):qX Tryz.prog gl 90 [Zc p] (λ_ y _=>y=bv (yn p)):=by
 have hpl:=hs.len;refine qX.Yb Tryz.func90 [.tmp 2] Tryz.ntmps90 λC w g root=>?_
 all_goals have fx:=Ya
 repeat' (first|refine qK ?_|refine λ(K:St->Prop) hK=>?_|(with_reducible refine bq (λht=>?_) (λht=>?_))|refine cJ (h1:=λht=>?_) (h2:=λht=>?_))
 all_goals try clear fx
 .refine qE [] .nil qF ?_
  have hno:(decide (1<=p.length)&&decide (p.length<=7))=false:=by
   rw [GW];intro h;simp at h ht;omega
  simp only [yn,hno]
  rfl
 .refine qE [] .nil qF ?_
  have hno:(decide (1<=p.length)&&decide (p.length<=7))=false:=by
   rw [GW];intro h;simp at h ht;omega
  simp only [yn,hno]
  rfl
 rename_i ht1
 have hyes:1<=p.length/\p.length<=7:=by
  simp at ht ht1;omega
 clear ht ht1;refine qR (λn st=>∃ i:Nat,n=p.length - i/\i<=p.length/\st.tm 1=.pt (.s 1) 0/\st.hp (.s 1)=some (.row 1 [[ZY p]])/\st.tm 24=ZY p/\st.tm 25=iv p.length/\st.tm 26=iv i/\∀ (j:Nat) q,j<i->p[j]?=some q->wD j q=true/\q.body.length<=12) p.length ?_ ?_
 .exact⟨0,qB⟩
 rintro n st - - ⟨i,rfl,hi,h1,hp1,h24,h25,h26,hal⟩;refine qD ?_<|yl h1 hp1 h24 h25<|h26;refine wJ zK (λht=>?_) (λhf=>?_)
 .have hlt:i<p.length:=zE;obtain⟨k,hk⟩:=gX hlt
  have fin:(wD i k=true->¬ k.body.length<=12)->yn p=false:=λh=>by
   have:dR p i=false:=by
    simp only [dR,hk,Bool.and_eq_false_iff,decide_eq_false_iff_not]
    cases hh:wD i k with
    | false=>exact .inl (.inl rfl)
    | true=>exact .inl (.inr (h hh))
   simp only [yn,yt hlt this,Bool.and_false,Bool.false_and]
  have Ym:=(hs.bsm hk).body;clear ht
  all_goals have fx:=kH h1 hp1 h24 h25 h26<|hk
  repeat' (first|refine qK ?_|refine λ(K:St->Prop) hK=>?_|refine qP (hF:=FC _ i k) (h:=?_)|(with_reducible refine bq (λht=>?_) (λht=>?_))|refine cJ (h1:=λht=>?_) (h2:=λht=>?_))
  all_goals try clear fx
  .refine qE [] .nil qF ?_;rw [fin (λh=>by simp [h] at ht)]
   rfl
  .refine qE [] .nil qF ?_;rw [fin (λ_ h=>by simp at ht;omega)]
   rfl
  .rename_i ht1;refine⟨p.length - (i+1),qA,i+1,rfl,qA,qz,jp,by simp [h24],by simp [h25],q8,λj q hj hq=>?_⟩;rcases Jd.1 hj with h|rfl
   .exact hal j q h hq
   .rw [hk] at hq;obtain rfl:=sI hq;refine⟨by simpa using ht1,?_⟩;simp at ht;omega
 have hge:i=p.length:=by
  have:¬ i<p.length:=zS;omega
 subst hge;clear hf hi
 have hal':∀ (j:Nat) q,p[j]?=some q->ym j q/\q.body.length<=12:=λj q hq=>by
  obtain⟨h1,h2⟩:=hal j q (gS hq).1 hq;exact⟨by simpa only [wD,decide_eq_true_eq] using h1,h2⟩
 clear hal;have hh:zD p:=λj q hq=>(hal' j q hq).1.head
 have hb12:∀ q∈p,q.body.length<=12:=λq hq=>by
  obtain⟨j,hj⟩:=ab hq;exact (hal' j q hj).2
 refine qD ?_<|aI h1<|hp1;refine qR (λn st=>∃ i:Nat,n=p.length - i/\i<=p.length/\st.tm 1=.pt (.s 1) 0/\st.hp (.s 1)=some (.row 1 [[ZY p]])/\st.tm 5=.pt (.s 5) 0/\st.hp (.s 5)=some (.row 7 [(be p [] i).map iv])/\st.tm 43=ZY p/\st.tm 44=iv p.length/\st.tm 45=iv i/\(List.range i).all (dR p)=true) p.length ?_ ?_
 .refine⟨0,qB,qB,qz,jp,qB,?_,qB,qB,qB,qB⟩;simp [be,gk,mkN]
  rfl
 clear h1 hp1 h24 h25 h26;rintro n st - - ⟨i,rfl,hi,h1,hp1,h5,hp5,h43,h44,h45,hal⟩;refine qD ?_<|yl h1 hp1 h43 h44<|h45;refine wJ zK (λht=>?_) (λhf=>?_)
 .have hlt:i<p.length:=zE;obtain⟨k,hk⟩:=gX hlt;have hbf:dR p i=(wD i k&&decide (k.body.length<=12)&&k.body.all (zP p i k)):=by simp only [dR,hk]
  obtain⟨hhd,hbd⟩:=hal' i k hk;have hhd':wD i k=true:=by simpa only [wD,decide_eq_true_eq] using hhd
  clear ht;refine qD ?_<|kH h1 hp1 h43 h44 h45<|hk;refine qR (λn st=>∃ j:Nat,n=k.body.length - j/\j<=k.body.length/\st.tm 1=.pt (.s 1) 0/\st.hp (.s 1)=some (.row 1 [[ZY p]])/\st.tm 5=.pt (.s 5) 0/\st.hp (.s 5)=some (.row 7 [(be p (k.body.take j) i).map iv])/\st.tm 43=ZY p/\st.tm 44=iv p.length/\st.tm 45=iv i/\st.tm 6=iv i/\st.tm 51=ssl k.body/\st.tm 52=iv k.body.length/\st.tm 53=iv j/\(k.body.take j).all (zP p i k)=true) k.body.length ?_ ?_
  .exact⟨0,by simp [h1,hp1,h5,hp5,h43,h44,h45]⟩
  clear h1 hp1 h5 hp5 h43 h44 h45;rintro n st - - ⟨j,rfl,hj,h1,hp1,h5,hp5,h43,h44,h45,h6,h51,h52,h53,haj⟩;refine qD ?_<|jD h51 h52<|h53;refine wJ zK (λht=>?_) (λhf=>?_)
  .have hlj:j<k.body.length:=zE;obtain⟨s,hsj⟩:=gX hlj;clear ht
   cases hok:zP p i k s with
   | false =>
    have fx:=ko h1 hp1 h51 h52 h53 h6 hsj<|hok;have c1:=gu gl p i k s hk hh hhd;refine qI ?_;clear fx c1;refine qE [] .nil qF ?_;have:dR p i=false:=by rw [hbf,Do (gM hsj) hok];simp
    simp only [yn,yt hlt this,Bool.and_false,Bool.false_and]
    rfl
   | true =>
    by_cases hm:s.kind=3\/s.kind=4
    .obtain⟨d,hta⟩:=O7 hm
     obtain⟨a,ha,hal7⟩:∃ a:Nat,s.a=a/\a<p.length:=by
      have:∃ d,wQ p i s.a d=true:=by
       rcases hm with h|h
       .simp [zP,h] at hok;exact⟨_,hok.2.2⟩
       .simp [zP,h] at hok;exact⟨_,hok.2.2⟩
      obtain⟨d,hd⟩:=this;simp only [wQ,uR,decide_eq_true_eq] at hd;exact⟨s.a.toNat,qA,qA⟩
     have ha7:a<7:=qA;have ha8:(a:Int)<7:=qA;rw [ha] at hta;have hget:=Cv (p:=p) (ss:=k.body.take j) (n:=i) ha7;have yF:=Lo (p:=p) (n:=i) hsj ha hm ha7;have hml:(be p (k.body.take j) i).length=7:=by simp [be]
     have hw:IntKind.i64.wrap (((gk p a i+mkN (k.body.take j) a:Nat):Int)+1)=((gk p a i+mkN (k.body.take j) a:Nat):Int)+1:=by
      have h1:=PV (b:=a) hb12 i;have h2:=Qb (k.body.take j) a;have h3:=List.length_take_le j k.body;exact Yi qA qA
     generalize hA:be p (k.body.take j) i=A at hp5 hget yF hml;generalize hv:((gk p a i+mkN (k.body.take j) a:Nat):Int)=v at hget yF hw;obtain⟨_,hge2⟩:=gS hget;have fx:=qQ h1 hp1 h5 hp5 h51 h52 h53 h6 hsj hok hta ha7<|yl ha8 hget hge2 hw<|hml;have c1:=gu gl p i k s hk hh hhd;have c2:=jk gl s;refine qI ?_;clear fx c1 c2;refine⟨k.body.length - (j+1),qA,j+1,rfl,qA,qz,jp,zA,?_,by simp [h43],by simp [h44],by simp [h45],zL,by simp [h51],by simp [h52],q8,?_⟩
     .rw [<- yF,<- VB qA];simp [hge2,hw]
     .rw [dN,hsj,List.all_append,haj]
      simpa using hok
    .have hta:=Tr hm;have hskip:=Ix (p:=p) (n:=i) hsj hm;have fx:=er h1 hp1 h51 h52 h53 h6 hsj hok<|hta;have c1:=gu gl p i k s hk hh hhd;have c2:=jk gl s;refine qI ?_;clear fx c1 c2;refine⟨k.body.length - (j+1),qA,j+1,rfl,qA,qz,jp,zA,by simp [hp5,hskip],by simp [h43],by simp [h44],by simp [h45],zL,by simp [h51],by simp [h52],q8,?_⟩;rw [dN,hsj,List.all_append,haj]
     simpa using hok
  .have hge:j=k.body.length:=by
    have:¬ j<k.body.length:=zS;omega
   subst hge;rw [kM] at haj hp5;rw [Iy hk] at hp5;refine qD ?_<|j4 h51 h52 h53<|h45;refine⟨p.length - (i+1),qA,i+1,rfl,qA,qz,jp,zA,uz,by simp [h43],by simp [h44],q8,?_⟩;rw [j3,hal,hbf,hhd',haj]
   simpa using hbd
 .have hge:i=p.length:=by
   have:¬ i<p.length:=zS;omega
  subst hge
  have hshp:yn p=(List.range p.length).all (λi=>i==0||kw p i==1):=by
   simp only [yn,hal,hyes,decide_true,Bool.and_true,sm]
  have hv:∀ (i:Nat) q,p[i]?=some q->∀ s∈q.body,zP p i q s=true:=λi q hq s hs=>by
   have:=uB.1 hal i (BW.2 (gS hq).1);simp only [dR,hq,uR] at this;exact uB.1 this.2 s hs
  clear hf hi;refine qD ?_<|yl h1 hp1 h43 h44<|h45;refine qR (λn st=>∃ i:Nat,n=p.length - i/\i<=p.length/\1<=i/\st.tm 1=.pt (.s 1) 0/\st.hp (.s 1)=some (.row 1 [[ZY p]])/\st.tm 5=.pt (.s 5) 0/\st.hp (.s 5)=some (.row 7 [(be p [] p.length).map iv])/\st.tm 12=iv i/\(List.range i).all (λi=>i==0||kw p i==1)=true) (p.length - 1) ?_ ?_
  .exact⟨1,qA,qA,qA,qz,jp,zA,uz,qB,qB⟩
  clear h1 hp1 h5 hp5 h43 h44 h45;rintro n st - - ⟨i,rfl,hi,hi1,h1,hp1,h5,hp5,h12,hmi⟩;refine qD ?_<|jD h1 hp1<|h12;refine wJ zK (λht=>?_) (λhf=>?_)
  .have hlt:i<p.length:=zE;obtain⟨k,hk⟩:=gX hlt;have hi7:i<7:=qA;have hi8:(i:Int)<7:=qA;have hpk:=(hh i k hk).2.2 qA
   have hget:(be p [] p.length)[i]?=some (kw p i):=by
    rw [Cv hi7,<- PW hh hk hv hpk];simp [mkN]
   generalize hA:be p [] p.length=A at hp5 hget;clear ht
   all_goals have fx:=er h1 hp1 h5 hp5 h12 hi7 hi8 hget<|@qT
   repeat' (first|refine qK ?_|refine λ(K:St->Prop) hK=>?_|(with_reducible refine bq (λht=>?_) (λht=>?_))|refine cJ (h1:=λht=>?_) (h2:=λht=>?_))
   all_goals try clear fx
   .refine qE [] .nil qF ?_;rw [hshp,yt hlt (show (i==0||kw p i==1)=false by simp at ht ⊢;exact⟨qA,ht⟩)]
    rfl
   .refine⟨p.length - (i+1),qA,i+1,rfl,qA,qA,qz,jp,zA,uz,q8,?_⟩;rw [j3,hmi];simp at ht ⊢;exact .inr ht
  .have hge:i=p.length:=by
    have:¬ i<p.length:=zS;omega
   subst hge;refine qD ?_<|Ya;refine qE [] .nil aS (by simp [hshp,hmi])
end Go.Proofs.YtdnebaieamppbaaGreatDoor
end
