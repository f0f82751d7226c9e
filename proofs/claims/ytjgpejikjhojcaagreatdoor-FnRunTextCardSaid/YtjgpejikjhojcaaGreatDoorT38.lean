import Derived.Test.YtjgpejikjhojcaaGreatDoorT29
import Derived.Test.YtjgpejikjhojcaaGreatDoorT26
set_option linter.unusedSimpArgs false
set_option linter.unusedVariables false
set_option maxRecDepth 100000
set_option maxHeartbeats 4000000

section
namespace Go.Proofs.YtjgpejikjhojcaaGreatDoor
open Go Go.Hm Go.Proofs Tryz
theorem F1 {p:qC} (h:ye p=true):uA p:=by
 simp only [ye,jh] at h;obtain⟨h1,h2,h3,h4,_⟩:=AF h.1
 have key:∀ (i:Nat) k,p[i]?=some k->uU i k/\k.body.length<=12/\k.body.all (zW p i k)=true:=λi k hk =>
  Aa hk (yS.1 h4 i (gN.2 (gS hk).1))
 refine⟨qA,λk hk=>?_,λk hk=>?_⟩
 all_goals
  obtain⟨i,hi⟩:=kB hk;obtain⟨h0,hb,_⟩:=key i k hi
 .unfold uU at h0
  split at h0
  .obtain⟨_,_,h⟩:=h0;omega
  .obtain⟨_,_,_,h,_⟩:=h0;omega
 .omega
attribute [local simp] uo
theorem Ou (w:World):(Instr.build 34 #[]).run prog w=.ok (.agg #[.slice none 0 0]) w:=qY
theorem ZJ (b:Nat) (w:World):(Instr.storeAt 34 (.pointer (some ⟨b,0,none⟩)) (.agg #[.slice none 0 0])).run prog w=(Instr.storeAt 32 (.pointer (some ⟨b,0,none⟩)) (.slice none 0 0)).run prog w:=qY
theorem VD (b1 b2:Nat) (w:World):CallsD prog 35 #[.pointer (some ⟨b1,0,none⟩),.pointer (some ⟨b2,0,none⟩)] .returning w λe u' w'=>e=.returned (.tuple #[])/\u'=.returning/\w'=w:=by
 refine callsD_of_wpS func35 rfl λc₀ cs hu=>?_;apply wpS_seq;apply wpS_region;simp [wpOpsS,go_sem,recoverD,hu,ntmps35,Exit.thenS];refine wpS_cond (t:=false) (by simp [Go.Act.eval,Array.replicate]) ?_;simp only [b7,if_false];refine wpS_of_wp (wp_skip ?_)
 cases c₀
 simp_all [bodyPostS,results,Tryz.results35]
theorem VC (b1 b2:Nat) (ty:TypeId) (pv:Value) (w w1 w2:World) (r1:(Instr.storeAt 32 (.pointer (some ⟨b1,0,none⟩)) (.slice none 0 0)).run prog w=.ok () w1) (r2:(Instr.storeAt 4 (.pointer (some ⟨b2,0,none⟩)) (.bool false)).run prog w1=.ok () w2) :
  CallsD prog 35 #[.pointer (some ⟨b1,0,none⟩),.pointer (some ⟨b2,0,none⟩)] (.panicking [{ v:=.iface ty pv,recovered:=false }]) w λe u' w'=>e=.returned (.tuple #[])/\u'=.panicking [{ v:=.iface ty pv,recovered:=true }]/\w'=w2:=by
 rw [<- ZJ] at r1;refine callsD_of_wpS func35 rfl λc₀ cs hu=>?_;apply wpS_seq;apply wpS_region;simp [wpOpsS,go_sem,recoverD,hu,ntmps35,Exit.thenS];refine wpS_cond (t:=true) (by simp [Go.Act.eval,Array.replicate]) ?_;simp only [if_true];apply wpS_region
 show wpOpsS _ _ _ [0,1,2] _ _ _
 simp [wpOpsS,Region.wanted,Oper.upon,Go.Act.put,execOp,Ou,Go.Act.eval,Array.replicate,r1,r2,bodyPostS,results,Tryz.results35]
theorem Ul {s:q9}:ku s=match l4 s with|some p=>if ye p=true then some p else none|none=>none:=by
 rw [<- Uk];unfold FP l4
 split <;> rfl
theorem dF.ft {p:qC} (h:dF p 1048575):uA p :=
 ⟨by have:=h.len;omega,λk hk=>EA,λk hk=>EA⟩
theorem Nv (gl) {m:Int} (hgm:gl 3=some [.sc (.int .i64 m)]) (hgs:gl 1=some ((df yM).map AV.sc)) (s:q9) (hs:s.length<=1048576) :
  qM prog gl 14 [tx s] (λr y H'=>∃ p,y=.zT [.agg [.hs r 4 0 p.length],bv (ku s).isSome]/\uf H' r p/\p=(ku s).getD []):=by
 have hro:=Wi gl hgm hgs s hs;have hprd:=Ul (s:=s);refine qV.UL (t:=5) (F:=35) (s1:=2) (s2:=3) (T1:=32) (T2:=4) (v1:=.slice none 0 0) (v2:=.bool false) (n1:=.s 2) (n2:=.s 3) (o1:=⟨none,.store 32 (.tmp 2) (.const (.slice none 0 0)),0, "",#[],none⟩) (o2:=⟨none,.store 4 (.tmp 3) (.const (.bool false)),0, "",#[],none⟩) func14 rfl qY (rs:=[.cell 2 34,.cell 3 4]) rfl ntmps14 (lB rfl) (λ_ h=>wH) ⟨_,func35,qY,rfl⟩ rfl rfl rfl rfl VD VC λC w g root hroot a w' hR=>?_
 refine Ω ?_ hR;clear hR;refine qI ?_<|qS
 show ∀ a w,Rw _ _ a w->_
 intro a w' hR;refine Ψ (ats:=#[]) (l1:=[_]) (l2:=[]) rfl ?_ ?_ ?_ qB ?_ hR
 .rfl
 .rfl
 .rfl
 clear hR;have fx:=qS;refine wQ ?_;refine ww (h:=?_);clear fx
 show _/\_
 refine⟨⟨_,_,_,by simp;exact⟨rfl,rfl,rfl⟩⟩,?_⟩
 show b5 _ _ _ _ _
 refine AX (Ca qB λK hK=>?_);have fx:=qS;refine wQ ?_;refine ww (h:=?_);clear fx;refine wQ ?_;refine qA3 (ha:=As) (hF:=hro) (hE:=λx H' hx hq=>?_) (h:=?_)
 .refine⟨qB,qB,qB,hx,?_⟩;refine qI ?_<|qS;refine⟨[(.c (.s 2) 0 0,root)],_,.one rfl,qH,[],?_,⟨?_,λj r hj=>rS,λj r hj=>rS⟩,?_⟩
  .simp [hprd,hq]
  .simp
  .simp [hprd,hq]
 .rintro y H' ⟨p,hp,rfl,⟨ho1,ho2,ho3⟩,hG⟩;rw [hp] at hprd;have hvp:=BZ gl p hG.ft;refine qI ?_<|aI ho1 ho1;refine AX (AX (Ca qB λK hK=>?_))
  cases hv:ye p
  .rw [hv] at hvp;have fx:=aI ho1 ho1;have c1:=hvp;refine qQ ?_;clear fx c1;refine NM (b:=true) As (λ_=>?_) (λh=>wH);refine AX (Ca qB λK hK=>?_);refine qI ?_<|aI ho1 ho1;refine NN ?_;refine aq ?_;refine⟨qB,[(.c (.s 2) 0 0,root)],_,.one rfl,qH,[],?_,⟨?_,λj r hj=>rS,λj r hj=>rS⟩,?_⟩
   .simp [hprd,hv]
   .simp
   .simp [hprd,hv]
  .rw [hv] at hvp;have fx:=aI ho1 ho1;have c1:=hvp;refine qQ ?_;clear fx c1;refine NM (b:=false) As (λh=>wH) (λ_=>?_);refine qAG ?_;have fx:=aI ho1 ho1;refine wt ?_;refine AX (Ca qB λK hK=>?_);refine qQ ?_;clear fx;refine NN ?_;refine⟨qB,[(.c (.s 4) 0 0,root)],_,.one rfl,qH,p,?_,⟨?_,λj r hj=>?_,λj r hj=>?_⟩,?_⟩
   .simp [hprd,hv]
   .simp [ho1,kr (n:=.c (.s 4) 0 0) (m:=root) (f:=zE zf [(.c (.s 4) 0 0,root)]) (p:=p) qB]
   .simp [ho2 j r hj]
   .simp [ho3 j r hj]
   .simp [hprd,hv]
end Go.Proofs.YtjgpejikjhojcaaGreatDoor
end
section

end
section

end
section
namespace Go.Proofs.YtjgpejikjhojcaaGreatDoor
open Go Go.Hm Go.Proofs Tryz
abbrev VN:qb:=.q 0<|.q 1<|.q 2<|.q 3<|.q 4<|.q 5<|.q 6<|.q 7<|.q 8<|.q 9<|.q 10<|.q 11<|.q 12<|.q 13<|.q 14<|.q 15<|.q 16<|.q 17<|.q 18<|.q 19<|.q 20<|.q 21<|.q 22<|.q 23<|.q 24<|.q 25<|.q 26<|.q 27<|.q 28<|.q 29<|.q 30<|.q 31<|.q 32<|.q 33<|.q 34<|.q 35<|.q 36<|.q 37<|.q 38<|.q 39<|.q 40<|.q 41<|.q 42<|.q 43<|.q 44<|.l 45 []<|.done
theorem C4 {v:Int} {n:Nat} (hv:0<=v) (hn:0<n):∃ k:Nat,v.tmod n=k/\k<n:=by
 have h1:=Int.tmod_nonneg n hv;have h2:=Int.tmod_lt_of_pos v (show (0:Int)<n by omega);exact⟨(v.tmod n).toNat,qA,qA⟩
theorem qA5 {x y:Int} (hx:0<=x/\x<=1000000000000) (hy:0<=y/\y<=1000000000000):∃ r:Nat,IntKind.i64.wrap (((x % 2 ^ IntKind.i64.bits).toNat ^^^ (y % 2 ^ IntKind.i64.bits).toNat:Nat):Int)=r:=by
 have e:∀ z:Int,0<=z/\z<=1000000000000->(z % 2 ^ IntKind.i64.bits).toNat<2 ^ 40:=by
  intro z hz;simp only [show IntKind.i64.bits=64 from rfl];omega
 have h:=Nat.xor_lt_two_pow (e x hx) (e y hy);exact⟨_,qi qA qA⟩
@[simp] theorem int_xorv {k:IntKind} {x y:Int}:bO k .xor x y=some (.sc (.int k (k.wrap ((BitVec.ofInt k.bits x ^^^ BitVec.ofInt k.bits y).toNat:Int)))):=rfl
theorem Ba {A G G2:Prop} (k:G2) (x:A) (h:A->jP G2->G:=by
 intro fx kk;refine qQ ?_
 repeat ((first|refine qf (id:=7) VN mixed ?_);refine zQ ?_;refine qQ ?_)
 exact kk.h):G:=h x ⟨k⟩
theorem FR (gl) (H:Nm->Option AO) (bs:List Int) (pos n:Nat) (hb:aA bs) (hpos:pos<=1000000) (hn:n<=1000000) (hH:H (.u 1 0 0)=some (jA bs pos)) :
  qV prog gl 26 (Nm.under (.u 1 0 0)) [.pt (.u 1 0 0) 0,iv n] H (λ_ z H'=>∃ k:Nat,z=iv k/\(k=0\/k<n)/\H' (.u 1 0 0)=some (jA bs (pos+1))) qy:=by
 have w1:IntKind.i64.wrap ((pos:Int)+1)=pos+1:=qi qA qA;have w0:IntKind.i64.wrap (pos:Int)=pos:=qi qA qA;have zF:=hb.len;refine qV.qa func26 [.tmp 4] ntmps26 (λ_=>yq rfl) λC w g root hroot=>?_;rcases dJ n with rfl|hn0
 .skip
  refine Ba ?_<|aI hH<|w1;refine qG [] .nil qH ⟨0,qB,.inl rfl,zb⟩
 have hn1:¬ (n:Int)<1:=qA;rcases dJ bs.length with hl0|hl
 .skip
  refine Ba ?_<|zC hH w1 hn1<|hl0;refine qG [] .nil qH ⟨0,qB,.inl rfl,zb⟩
 have hl1:((bs.length:Int)==0)=false:=wW;have hn2:¬ n=0:=qA;by_cases hpl:pos<bs.length
 .obtain⟨v,hv⟩:=gX hpl;obtain⟨_,hvE⟩:=gS hv;have hvr:=hb.xw v (gM hv);obtain⟨k,hk,hkn⟩:=C4 hvr.1 hn0;have wv:IntKind.i64.wrap v=v:=qi qA qA;refine Ba ?_<|yD hH w1 w0 hn1 hl1 hpl hv hvE hn2 hk<|wv;refine qG [] .nil qH ⟨k,qB,.inr hkn,zb⟩
 have hbl0:¬ bs.length=0:=qA;obtain⟨i1,hi1,hi1l⟩:=C4 (v:=(pos:Int)) qA hl;obtain⟨i2,hi2,hi2l⟩:=C4 (v:=(pos:Int) * 7+3) qA hl;obtain⟨b1,hb1⟩:=gX hi1l;obtain⟨b2,hb2⟩:=gX hi2l;obtain⟨_,hb1E⟩:=gS hb1;obtain⟨_,hb2E⟩:=gS hb2;have hr1:=hb.xw b1 (gM hb1);have hr2:=hb.xw b2 (gM hb2);have wb1:IntKind.i64.wrap b1=b1:=qi qA qA;have wb2:IntKind.i64.wrap b2=b2:=qi qA qA;have w7:IntKind.i64.wrap ((pos:Int) * 7)=pos * 7:=qi qA qA;have w73:IntKind.i64.wrap ((pos:Int) * 7+3)=pos * 7+3:=qi qA qA;obtain⟨q,hq,hql⟩:∃ q:Nat,(pos:Int) / (bs.length:Int)=q/\q<=pos:=⟨pos / bs.length,qB,Nat.div_le_self _ _⟩;have wq:IntKind.i64.wrap (q:Int)=q:=qi qA qA;have w131:IntKind.i64.wrap (b1 * 131)=b1 * 131:=qi qA qA;have w1117:IntKind.i64.wrap (b2 * 1117)=b2 * 1117:=qi qA qA;have wa:IntKind.i64.wrap (b1 * 131+b2 * 1117)=b1 * 131+b2 * 1117:=qi qA qA;have w29:IntKind.i64.wrap ((pos:Int) * 29)=pos * 29:=qi qA qA;have wb:IntKind.i64.wrap (b1 * 131+b2 * 1117+pos * 29)=b1 * 131+b2 * 1117+pos * 29:=qi qA qA;have w53:IntKind.i64.wrap ((q:Int) * 53)=q * 53:=qi qA qA;obtain⟨X,hX⟩:∃ X,X=b1 * 131+b2 * 1117+pos * 29+q * 53:=⟨_,rfl⟩;have wX:IntKind.i64.wrap (b1 * 131+b2 * 1117+pos * 29+q * 53)=X:=by rw [hX];exact qi qA qA
 obtain⟨Y,hY,hYr⟩:∃ Y,X.tdiv 64=Y/\0<=Y/\Y<=X:=by
  refine⟨_,rfl,Int.tdiv_nonneg qA qc,?_⟩;exact Int.tdiv_le_self _ qA
 have wY:IntKind.i64.wrap Y=Y:=qi qA qA;obtain⟨r,hr⟩:=qA5 (x:=X) (y:=Y) qA qA;obtain⟨k,hk,hkn⟩:=C4 (v:=(r:Int)) qA hn0;refine Ba ?_<|qr hH w1 w0 hn1 hl1 hpl hi1 hi2 hi1l hi2l hb1 hb2<|qr hb1E hb2E wb1 wb2 w7 w73 hbl0 hq wq w131 w1117 wa<|yz w29 wb w53 wX hY wY hr hn2<|hk;refine qG [] .nil qH ⟨k,qB,.inr hkn,zb⟩
theorem UT (gl) (H:Nm->Option AO) (bs:List Int) (pos:Nat) (xs:List Int) (hb:aA bs) (hpos:pos<=1000000) (hx:0<xs.length/\xs.length<=1000) (hH:H (.u 1 0 0)=some (jA bs pos)) (hL:H (.u 2 0 0)=some (.row 1 (qm xs))) :
  qV prog gl 25 vV [.pt (.u 1 0 0) 0,.hs (.u 2 0 0) 1 0 xs.length] H (λ_ z H'=>∃ v,z=iv v/\v∈xs/\H' (.u 1 0 0)=some (jA bs (pos+1))) qy:=by
 have hxl:=hx.2;refine qV.qa func25 [.tmp 4] ntmps25 (λ_=>bZ) λC w g root hroot=>?_
 all_goals have fx:=qS
 repeat' (first|refine zl ?_|refine λ(K:St->Prop) hK=>?_)
 all_goals try clear fx
 have fx:=hxl;refine ut (.u 1 0 0) rfl zb (hF:=FR _ _ bs pos xs.length hb hpos qA zb) (h:=?_);rintro z H1 ⟨k,rfl,hk,hk1⟩;have jG:k<xs.length:=qA;obtain⟨v,hv⟩:=gX jG;obtain⟨_,hvE⟩:=gS hv;clear fx;refine qI ?_<|zC hL jG hv<|hvE;refine qG [] .nil qH ⟨v,qB,gM hv,by simp [hk1]⟩
theorem ai (gl):HI prog gl 25:=λH bs pos xs hb hp hx hH hL=>UT gl H bs pos xs hb hp hx hH hL
theorem OA (gl) (H:Nm->Option AO) (bs:List Int) (pos:Nat) (hb:aA bs) (hpos:pos<=1000000) (hH:H (.u 1 0 0)=some (jA bs pos)) (hV:H (.u 2 0 0)=none) :
  qV prog gl 189 (Nm.under (.u 1 0 0)) [.pt (.u 1 0 0) 0] H (λ_ z H'=>∃ v,z=iv v/\(0<=v/\v<=7)/\H' (.u 1 0 0)=some (jA bs (pos+1))) qy:=by
 refine qV.qa func189 [.tmp 2] ntmps189 (λ_=>yq rfl) λC w g root hroot=>?_;refine qI ?_<|qS
 first|show q8 _ _ _ _ _|intro K hK
 refine aw (ai _) 4 [0,1,2,0,1,3,7] hb hpos (hV:=hV) (h0:=qB) (h1:=qB) (hH:=zb) (hL:=yO) (h:=?_);intro v hv;have hvR:0<=v/\v<=7:=ir;refine qI ?_<|qS;refine qG [] .nil qH ⟨v,qB,hvR,qB⟩
theorem bu (gl) (H:Nm->Option AO) (bs:List Int) (pos n:Nat) (hb:aA bs) (hpos:pos<=1000000) (hn:n<=1000000) (hH:H (.u 1 0 0)=some (jA bs pos)) :
  qV prog gl 26 (Nm.under (.u 1 0 0)) [.pt (.u 1 0 0) 0,iv n] H (nj bs (λk:Nat=>iv k) (λk pos'=>(k=0\/k<n)/\pos'=pos+1)) qy :=
 qV.mono (FR gl H bs pos n hb hpos hn hH) (λ_ _ _ ⟨k,h1,h2,h3⟩=>⟨k,pos+1,h1,⟨h2,rfl⟩,h3⟩) (λ_ _ _ h=>h)
theorem di (gl) (H:Nm->Option AO) (bs:List Int) (pos:Nat) (hb:aA bs) (hpos:pos<=1000000) (hH:H (.u 1 0 0)=some (jA bs pos)) (hV:H (.u 2 0 0)=none) :
  qV prog gl 189 (Nm.under (.u 1 0 0)) [.pt (.u 1 0 0) 0] H (nj bs (λv:Int=>iv v) (λv pos'=>(0<=v/\v<=7)/\pos'=pos+1)) qy :=
 qV.mono (OA gl H bs pos hb hpos hH hV) (λ_ _ _ ⟨v,h1,h2,h3⟩=>⟨v,pos+1,h1,⟨h2,rfl⟩,h3⟩) (λ_ _ _ h=>h)
abbrev Vm:qb:=AA<|.q 7<|.q 8<|.q 9<|.q 10<|.l 4 [10,9,8,7,3,2,1,0]<|.l 5 [10,9,8,7,2,1,0]<|.q 6<|.q 11<|.l 12 []<|.done
attribute [local simp] uo
theorem UM (gl) (H:Nm->Option AO) (bs:List Int) (pos:Nat) (xs:List q9) (hb:aA bs) (hpos:pos<=1000000) (hx:0<xs.length/\xs.length<=1000) (hH:H (.u 1 0 0)=some (jA bs pos)) (hL:H (.u 2 0 0)=some (.row 1 (ue xs))) :
  qV prog gl 40 vV [.pt (.u 1 0 0) 0,.hs (.u 2 0 0) 1 0 xs.length] H (λ_ z H'=>∃ v,z=tx v/\v∈xs/\H' (.u 1 0 0)=some (jA bs (pos+1))) qy:=by
 have hxl:=hx.2;refine qV.qa func40 [.tmp 4] ntmps40 (λ_=>bZ) λC w g root hroot=>?_;refine qI ?_<|qS
 first|show q8 _ _ _ _ _|intro K hK
 have fx:=hxl;refine ut (.u 1 0 0) rfl zb (hF:=FR _ _ bs pos xs.length hb hpos qA zb) (h:=?_);rintro z H1 ⟨k,rfl,hk,hk1⟩;have jG:k<xs.length:=qA;obtain⟨v,hv⟩:=gX jG;obtain⟨_,hvE⟩:=gS hv;clear fx;refine qI ?_<|zC hL jG hv<|hvE;refine qG [] .nil qH ⟨v,qB,gM hv,by simp [hk1]⟩
theorem FB (gl):HH prog gl 40:=λH bs pos xs hb hp hx hH hL=>UM gl H bs pos xs hb hp hx hH hL
theorem eN {A G G2:Prop} (k:G2) (x:A) (h:A->jP G2->G:=by
 intro fx kk;refine qQ ?_
 repeat ((first|refine qf (id:=6) Vm mixed ?_);refine zQ ?_;refine qQ ?_)
 exact kk.h):G:=h x ⟨k⟩
theorem Tg (gl) (H:Nm->Option AO) (bs:List Int) (pos:Nat) (v:q9) (hv:v.length<=900000) (hb:aA bs) (hpos:pos<=900000) (hH:H (.u 1 0 0)=some (jA bs pos)) (hV:H (.u 2 0 0)=none) :
  qV prog gl 59 (Nm.under (.u 1 0 0)) [.pt (.u 1 0 0) 0,tx v] H (nj bs (λu:q9=>tx u) (λu pos'=>u.length<=v.length+1/\pos'<=pos+3)) qy:=by
 have hwl:IntKind.i64.wrap ((v.length:Int)+1)=((v.length+1:Nat):Int):=ga;refine qV.qa func59 [.tmp 4] ntmps59 (λ_=>yq rfl) λC w g root hroot=>?_;refine eN ?_<| hwl
 first|show q8 _ _ _ _ _|intro K hK
 refine vk (hs:=zb) (ha:=uK) (hF:=bu _ _ bs pos (v.length+1) hb qA qA zb) (h:=?_);rintro k pk ⟨hk,rfl⟩;have jG:k<=v.length:=qA;clear hk;refine eN ?_<|qS;intro K hK;refine vk (hs:=qB) (ha:=uK) (hF:=bu _ _ bs (pos+1) 5 hb qA qA qB) (h:=?_);rintro c pc ⟨hc,rfl⟩;have hcc:c=0\/c=1\/c=2\/c=3\/c=4:=qA;clear hc;rcases hcc with rfl|rfl|rfl|rfl|rfl
 .by_cases hkv:k<v.length
  .have hkv2:(k:Int)<(v.length:Int):=qA;have hwk:IntKind.i64.wrap ((k:Int)+1)=(k:Int)+1:=qi qA qA;have hle1:(k:Int)+1<=(v.length:Int):=qA;have hk0:(0:Int)<=(k:Int)+1:=qA;have htn:((k:Int)+1).toNat=k+1:=qA;have htk:(v.drop (k+1)).take (v.length - (k+1))=v.drop (k+1):=yU qB;refine eN ?_<|jJ jG hkv hkv2 hwk hle1 hk0 htn<|htk
   first|show q8 _ _ _ _ _|intro K hK
   refine Gj (FB _) 24 [[48],[49],[32],[45],[112],[10],[57]] (bs:=bs) (pos:=pos+1+1) hb qA (hV:=hV) (h0:=qB) (h1:=qB) (hH:=qB) (hL:=fQ) (h:=?_);intro u hu
   have hul:u.length=1:=by
    simp only [vB,tO,or_false] at hu;rcases hu with rfl|rfl|rfl|rfl|rfl|rfl|rfl <;> rfl
   have hmn:min k v.length=k:=qA;have hl1:∀ c,2000000000<=c->k+u.length<=c:=λc hc=>qA;have hl2:∀ c,2000000000<=c->k+u.length+(v.length - (k+1))<=c:=λc hc=>qA;have hl3:∀ c,2000000000<=c->k+(u.length+(v.length - (k+1)))<=c:=λc hc=>qA;refine eN ?_<|yD jG hkv hkv2 hwk hle1 hk0 htn htk hmn hl1<|aI hl2<|hl3;exact qG [] .nil qH ⟨v.take k++u++v.drop (k+1),pos+1+1+1,qB,⟨qn,qA⟩,qB⟩
  .have hkv2:¬ (k:Int)<(v.length:Int):=qA;refine eN ?_<|aI hkv<|hkv2;exact qG [] .nil qH ⟨v,pos+1+1,qB,⟨qA,qA⟩,qB⟩
 .by_cases hkv:k<v.length
  .have hkv2:(k:Int)<(v.length:Int):=qA;have hwk:IntKind.i64.wrap ((k:Int)+1)=(k:Int)+1:=qi qA qA;have hle1:(k:Int)+1<=(v.length:Int):=qA;have hk0:(0:Int)<=(k:Int)+1:=qA;have htn:((k:Int)+1).toNat=k+1:=qA;have htk:(v.drop (k+1)).take (v.length - (k+1))=v.drop (k+1):=yU qB;refine eN ?_<|jJ jG hkv hkv2 hwk hle1 hk0 htn<|htk
   first|show q8 _ _ _ _ _|intro K hK
   refine Gj (FB _) 24 [[48],[49],[32],[45],[112],[10],[57]] (bs:=bs) (pos:=pos+1+1) hb qA (hV:=hV) (h0:=qB) (h1:=qB) (hH:=qB) (hL:=fQ) (h:=?_);intro u hu
   have hul:u.length=1:=by
    simp only [vB,tO,or_false] at hu;rcases hu with rfl|rfl|rfl|rfl|rfl|rfl|rfl <;> rfl
   have hmn:min k v.length=k:=qA;have hl1:∀ c,2000000000<=c->k+u.length<=c:=λc hc=>qA;have hl2:∀ c,2000000000<=c->k+u.length+(v.length - (k+1))<=c:=λc hc=>qA;have hl3:∀ c,2000000000<=c->k+(u.length+(v.length - (k+1)))<=c:=λc hc=>qA;refine eN ?_<|yD jG hkv hkv2 hwk hle1 hk0 htn htk hmn hl1<|aI hl2<|hl3;exact qG [] .nil qH ⟨v.take k++u++v.drop (k+1),pos+1+1+1,qB,⟨qn,qA⟩,qB⟩
  .have hkv2:¬ (k:Int)<(v.length:Int):=qA;refine eN ?_<|aI hkv<|hkv2;exact qG [] .nil qH ⟨v,pos+1+1,qB,⟨qA,qA⟩,qB⟩
 .have hkv2:(k:Int)<=(v.length:Int):=qA;refine eN ?_<|aI jG<|hkv2;exact qG [] .nil qH ⟨v.take k,pos+1+1,qB,⟨qn,qA⟩,qB⟩
 .skip
  refine eN ?_<|qS
  first|show q8 _ _ _ _ _|intro K hK
  refine Gj (FB _) 41 [[48],[32],[10],[120]] (bs:=bs) (pos:=pos+1+1) hb qA (hV:=hV) (h0:=qB) (h1:=qB) (hH:=qB) (hL:=fQ) (h:=?_);intro u hu
  have hul:u.length=1:=by
   simp only [vB,tO,or_false] at hu;rcases hu with rfl|rfl|rfl|rfl <;> rfl
  have hl1:∀ c,2000000000<=c->v.length+u.length<=c:=λc hc=>qA;refine eN ?_<| hl1;exact qG [] .nil qH ⟨v++u,pos+1+1+1,qB,⟨qn,qA⟩,qB⟩
 .skip
  refine eN ?_<|qS;exact qG [] .nil qH ⟨v,pos+1+1,qB,⟨qA,qA⟩,qB⟩
end Go.Proofs.YtjgpejikjhojcaaGreatDoor
end
section

end
section

end
section

end
section

end
section
namespace Go.Proofs.YtjgpejikjhojcaaGreatDoor
open Go Go.Hm Go.Proofs Tryz
theorem Y9 (gl) (H:Nm->Option AO) (bs:List Int) (pos:Nat) (kind:Int) (hb:aA bs) (hpos:pos<=900000) (hH:H (.u 1 0 0)=some (jA bs pos)) (hV:H (.u 2 0 0)=none) :
  qV prog gl 188 (Nm.under (.u 1 0 0)) [.pt (.u 1 0 0) 0,iv kind] H (nj bs (λs:qP=>s.av) (λs pos'=>(pos<=pos'/\pos'<=pos+8)/\vG s)) qy:=by
 refine qV.qa func188 [.cell 4 87] ntmps188 (λ_=>yq rfl) λC w g root hroot=>?_;refine qI ?_<|qS
 first|show q8 _ _ _ _ _|intro K hK
 refine aw (ai _) 7 [0,1,2,0,1,3] (bs:=bs) (pos:=pos) hb qA (hV:=hV) (h0:=qB) (h1:=qB) (hH:=zb) (hL:=yO) (h:=?_);intro to hto;have htoR:0<=to/\to<=99:=by simp at hto;omega
 refine qI ?_<|qS
 first|show q8 _ _ _ _ _|intro K hK
 refine vk (hs:=qB) (ha:=uK) (hF:=bu _ _ bs (pos+1) 12 hb qA qA qB) (h:=?_);rintro k pk ⟨hk,rfl⟩;have hk12:k<12:=qA;have hkc:k=0\/k=1\/k=2\/k=3\/k=4\/k=5\/k=6\/k=7\/k=8\/k=9\/k=10\/k=11:=qA;clear hk hk12;rcases hkc with rfl|rfl|rfl|rfl|rfl|rfl|rfl|rfl|rfl|rfl|rfl|rfl
 .skip
  refine qI ?_<|qS
  first|show q8 _ _ _ _ _|intro K hK
  refine vk (hs:=qB) (ha:=uK) (hF:=bu _ _ bs (pos+1+1) 20 hb qA qA qB) (h:=?_);rintro x px ⟨hx,rfl⟩;refine qI ?_<|qS
  first|show q8 _ _ _ _ _|intro K hK
  refine aw (ai _) 19 [(x:Int),99,5] (bs:=bs) (pos:=pos+1+1+1) hb qA (hV:=hV) (h0:=qB) (h1:=qB) (hH:=qB) (hL:=yO) (h:=?_);intro v hv;have hvR:0<=v/\v<=99:=ir;refine qI ?_<|qS;exact qG [] .nil qH ⟨⟨0,to,v,0⟩,pos+1+1+1+1,qB,⟨qA,wA⟩,qB⟩
 .skip
  refine qI ?_<|qS
  first|show q8 _ _ _ _ _|intro K hK
  refine vk (hs:=qB) (ha:=uK) (hF:=bu _ _ bs (pos+1+1) 20 hb qA qA qB) (h:=?_);rintro x px ⟨hx,rfl⟩;refine qI ?_<|qS
  first|show q8 _ _ _ _ _|intro K hK
  refine aw (ai _) 19 [(x:Int),99,5] (bs:=bs) (pos:=pos+1+1+1) hb qA (hV:=hV) (h0:=qB) (h1:=qB) (hH:=qB) (hL:=yO) (h:=?_);intro v hv;have hvR:0<=v/\v<=99:=ir;refine qI ?_<|qS;exact qG [] .nil qH ⟨⟨0,to,v,0⟩,pos+1+1+1+1,qB,⟨qA,wA⟩,qB⟩
 .skip
  refine qI ?_<|qS
  first|show q8 _ _ _ _ _|intro K hK
  refine vk (hs:=qB) (ha:=uK) (hF:=bu _ _ bs (pos+1+1) 20 hb qA qA qB) (h:=?_);rintro x px ⟨hx,rfl⟩;refine qI ?_<|qS
  first|show q8 _ _ _ _ _|intro K hK
  refine aw (ai _) 19 [(x:Int),99,5] (bs:=bs) (pos:=pos+1+1+1) hb qA (hV:=hV) (h0:=qB) (h1:=qB) (hH:=qB) (hL:=yO) (h:=?_);intro v hv;have hvR:0<=v/\v<=99:=ir;refine qI ?_<|qS;exact qG [] .nil qH ⟨⟨0,to,v,0⟩,pos+1+1+1+1,qB,⟨qA,wA⟩,qB⟩
 .skip
  refine qI ?_<|qS
  first|show q8 _ _ _ _ _|intro K hK
  refine vk (hs:=qB) (ha:=uK) (hF:=di _ _ bs (pos+1+1) hb qA qB qB) (h:=?_);rintro v pv ⟨hvR,rfl⟩;refine qI ?_<|qS;exact qG [] .nil qH ⟨⟨1,to,v,0⟩,pos+1+1+1,qB,⟨qA,wA⟩,qB⟩
 .skip
  refine qI ?_<|qS
  first|show q8 _ _ _ _ _|intro K hK
  refine vk (hs:=qB) (ha:=uK) (hF:=di _ _ bs (pos+1+1) hb qA qB qB) (h:=?_);rintro v pv ⟨hvR,rfl⟩;refine qI ?_<|qS
  first|show q8 _ _ _ _ _|intro K hK
  refine vk (hs:=qB) (ha:=uK) (hF:=di _ _ bs (pos+1+1+1) hb qA qB qB) (h:=?_);rintro w pw ⟨hwR,rfl⟩;refine qI ?_<|qS;exact qG [] .nil qH ⟨⟨2,to,v,w⟩,pos+1+1+1+1,qB,⟨qA,wA⟩,qB⟩
 .skip
  refine qI ?_<|qS
  first|show q8 _ _ _ _ _|intro K hK
  refine vk (hs:=qB) (ha:=uK) (hF:=di _ _ bs (pos+1+1) hb qA qB qB) (h:=?_);rintro v pv ⟨hvR,rfl⟩;refine qI ?_<|qS;exact qG [] .nil qH ⟨⟨7,0,v,0⟩,pos+1+1+1,qB,⟨qA,wA⟩,qB⟩
 .skip
  refine qI ?_<|qS
  first|show q8 _ _ _ _ _|intro K hK
  refine vk (hs:=qB) (ha:=uK) (hF:=di _ _ bs (pos+1+1) hb qA qB qB) (h:=?_);rintro v pv ⟨hvR,rfl⟩;refine qI ?_<|qS;exact qG [] .nil qH ⟨⟨7,0,v,0⟩,pos+1+1+1,qB,⟨qA,wA⟩,qB⟩
 .skip
  refine qI ?_<|qS
  first|show q8 _ _ _ _ _|intro K hK
  refine vk (hs:=qB) (ha:=uK) (hF:=di _ _ bs (pos+1+1) hb qA qB qB) (h:=?_);rintro v pv ⟨hvR,rfl⟩;refine qI ?_<|qS
  first|show q8 _ _ _ _ _|intro K hK
  refine aw (ai _) 48 [4,5,v] (bs:=bs) (pos:=pos+1+1+1) hb qA (hV:=hV) (h0:=qB) (h1:=qB) (hH:=qB) (hL:=yO) (h:=?_);intro x hx;have hxR:0<=x/\x<=99:=by simp at hx;omega
  refine qI ?_<|qS
  first|show q8 _ _ _ _ _|intro K hK
  refine vk (hs:=qB) (ha:=uK) (hF:=di _ _ bs (pos+1+1+1+1) hb qA qB qB) (h:=?_);rintro u pu ⟨huR,rfl⟩;refine qI ?_<|qS
  first|show q8 _ _ _ _ _|intro K hK
  refine aw (ai _) 53 [-1,-1,u] (bs:=bs) (pos:=pos+1+1+1+1+1) hb qA (hV:=hV) (h0:=qB) (h1:=qB) (hH:=qB) (hL:=yO) (h:=?_);intro y hy;have hyR:(0<=y/\y<=99)\/y=-1:=by simp at hy;omega
  refine qI ?_<|qS;exact qG [] .nil qH ⟨⟨5,to,x,y⟩,pos+1+1+1+1+1+1,qB,⟨qA,wA⟩,qB⟩
 .skip
  refine qI ?_<|qS
  first|show q8 _ _ _ _ _|intro K hK
  refine vk (hs:=qB) (ha:=uK) (hF:=di _ _ bs (pos+1+1) hb qA qB qB) (h:=?_);rintro v pv ⟨hvR,rfl⟩;refine qI ?_<|qS;exact qG [] .nil qH ⟨⟨6,to,6,v⟩,pos+1+1+1,qB,⟨qA,wA⟩,qB⟩
 .by_cases hk0:kind=0
  .subst hk0;refine qI ?_<|qS
   first|show q8 _ _ _ _ _|intro K hK
   refine vk (hs:=qB) (ha:=uK) (hF:=di _ _ bs (pos+1+1) hb qA qB qB) (h:=?_);rintro v pv ⟨hvR,rfl⟩;refine qI ?_<|qS;exact qG [] .nil qH ⟨⟨7,0,v,0⟩,pos+1+1+1,qB,⟨qA,wA⟩,qB⟩
  .have hkn:(kind != 0)=true:=by simp [hk0]
   refine qI ?_<|aI hk0<|hkn
   first|show q8 _ _ _ _ _|intro K hK
   refine aw (ai _) 67 [9,10,10] (bs:=bs) (pos:=pos+1+1) hb qA (hV:=hV) (h0:=qB) (h1:=qB) (hH:=qB) (hL:=yO) (h:=?_);intro v hv;have hvR:9<=v/\v<=10:=ir;refine qI ?_<|qS;exact qG [] .nil qH ⟨⟨v,to,0,0⟩,pos+1+1+1,qB,⟨qA,wA⟩,qB⟩
 .skip
  refine qI ?_<|qS
  first|show q8 _ _ _ _ _|intro K hK
  refine vk (hs:=qB) (ha:=uK) (hF:=bu _ _ bs (pos+1+1) 3 hb qA qA qB) (h:=?_);rintro x px ⟨hx,rfl⟩;rcases dJ x with rfl|hx0
  .skip
   refine qI ?_<|qS;exact qG [] .nil qH ⟨⟨11,to,0,0⟩,pos+1+1+1,qB,⟨qA,wA⟩,qB⟩
  .have hxn:((x:Int)==0)=false:=wW;have hxn2:¬ x=0:=qA;refine qI ?_<|aI hxn<|hxn2
   first|show q8 _ _ _ _ _|intro K hK
   refine vk (hs:=qB) (ha:=uK) (hF:=di _ _ bs (pos+1+1+1) hb qA qB qB) (h:=?_);rintro v pv ⟨hvR,rfl⟩;refine qI ?_<|qS;exact qG [] .nil qH ⟨⟨7,0,v,0⟩,pos+1+1+1+1,qB,⟨qA,wA⟩,qB⟩
 .skip
  refine qI ?_<|qS
  first|show q8 _ _ _ _ _|intro K hK
  refine vk (hs:=qB) (ha:=uK) (hF:=di _ _ bs (pos+1+1) hb qA qB qB) (h:=?_);rintro v pv ⟨hvR,rfl⟩;refine qI ?_<|qS;exact qG [] .nil qH ⟨⟨7,0,v,0⟩,pos+1+1+1,qB,⟨qA,wA⟩,qB⟩
abbrev VO:qb:=AA<|.l 4 [1,0]<|.l 5 [1,0]<|.l 6 []<|.q 7<|.l 8 []<|.done
abbrev VP:qb:=.q 0<|.q 1<|.q 2<|.l 3 [2,1,0]<|.l 4 [1,0]<|.q 5<|.l 6 [1,0]<|.l 7 []<|.q 8<|.l 9 []<|.done
def Nj (bs:List Int) (Q:qT->Nat->Prop):Nm->AV->(Nm->Option AO)->Prop:=λr z H'=>∃ (k:qT) (pos':Nat),z=.agg [iv k.kind,iv k.parent,.hs (.c r 0 2) 1 0 k.params.length,.hs (.c r 0 3) 4 0 k.body.length] /\
 H' (.c r 0 2)=some (.row 1 (qm k.params))/\H' (.c r 0 3)=some (.row 4 (yL k.body))/\Q k pos'/\H' (.u 1 0 0)=some (jA bs pos')
theorem ca {A G G2:Prop} (k:G2) (x:A) (h:A->jP G2->G:=by
 intro fx kk;refine qQ ?_
 repeat ((first|refine qf (id:=7) VO mixed ?_|refine qf (id:=9) VP mixed ?_);refine zQ ?_;refine qQ ?_)
 exact kk.h):G:=h x ⟨k⟩
theorem M0 (gl) (H:Nm->Option AO) (bs:List Int) (pos:Nat) (kind parent:Int) (hb:aA bs) (hpos:pos<=800000) (hH:H (.u 1 0 0)=some (jA bs pos)) (hV:H (.u 2 0 0)=none) :
  qV prog gl 139 (Nm.under (.u 1 0 0)) [.pt (.u 1 0 0) 0,iv kind,iv parent] H (Nj bs (λk pos'=>k.kind=kind/\k.parent=parent/\k.params.length<=1/\k.body.length<=6/\pos'<=pos+60/\tE k)) qy:=by
 refine qV.qa func139 [.cell 6 82] ntmps139 (λ_=>yq rfl) λC w g root hroot=>?_;have hr0:=hroot root (Nm.uH _);rcases (by cases hk:(kind==1) <;> simp:(kind==1)=false\/(kind==1)=true) with hk1|hk1
 case' inl =>
  refine ca ?_<| hk1
  first|show q8 _ _ _ _ _|intro K hK
  refine ua (λst=>∃ (ps:List Int) (q:Nat),ps.length<=1/\(b6 ps/\(¬ kind=1->ps=[]))/\q<=pos+2/\st.tm 0=.pt (.u 1 0 0) 0/\st.hp (.u 1 0 0)=some (jA bs q)/\st.tm 1=iv kind/\st.tm 6=.pt (.s 6) 0/\st.hp (.s 6)=some (.row 4 [[iv 0,iv 0,.hs (.c (.s 6) 0 2) 1 0 0,.hs (.c (.s 6) 0 3) 4 0 0]])/\st.hp (.c (.s 6) 0 2)=some (.row 1 [])/\st.hp (.c (.s 6) 0 3)=some (.row 4 []) /\
  st.tm 7=.pt (.s 7) 0/\st.hp (.s 7)=some (.row 4 [[iv kind,iv parent,.hs (.c (.s 7) 0 2) 1 0 ps.length,.hs (.c (.s 7) 0 3) 4 0 ([]:List qP).length]])/\st.hp (.c (.s 7) 0 2)=some (.row 1 (qm ps))/\st.hp (.c (.s 7) 0 3)=some (.row 4 (yL ([]:List qP)))/\st.tm 23=.pt (.u 1 0 0) 0/\st.tm 24=.hs (.s 24) 1 0 5/\st.hp (.s 24)=some (.row 1 (qm [3,2,4,1,5]))) ⟨[],pos,qB,⟨by simp [b6],qB⟩,qA,zb,zb,zb,zb,zb,zb,zb,zb,zb,yO,zb,qB,qB,yO⟩ ?_
 case' inr =>
  refine ca ?_<| hk1
  first|show q8 _ _ _ _ _|intro K hK
  refine vk (hs:=zb) (ha:=uK) (hF:=bu _ _ bs pos 3 hb qA qA zb) (h:=?_);rintro x px ⟨hx,rfl⟩;have hx0:x=0\/¬ x=0:=qA;rcases hx0 with rfl|hx0
  case' inl =>
   refine ca ?_<| hk1
   first|show q8 _ _ _ _ _|intro K hK
   refine vk (hs:=qB) (ha:=uK) (hF:=bu _ _ bs (pos+1) 3 hb qA qA qB) (h:=?_);rintro y py ⟨hy,rfl⟩;refine ca ?_<|qS
   first|show q8 _ _ _ _ _|intro K hK
   refine ua (λst=>∃ (ps:List Int) (q:Nat),ps.length<=1/\(b6 ps/\(¬ kind=1->ps=[]))/\q<=pos+2/\st.tm 0=.pt (.u 1 0 0) 0/\st.hp (.u 1 0 0)=some (jA bs q)/\st.tm 1=iv kind/\st.tm 6=.pt (.s 6) 0/\st.hp (.s 6)=some (.row 4 [[iv 0,iv 0,.hs (.c (.s 6) 0 2) 1 0 0,.hs (.c (.s 6) 0 3) 4 0 0]])/\st.hp (.c (.s 6) 0 2)=some (.row 1 [])/\st.hp (.c (.s 6) 0 3)=some (.row 4 []) /\
  st.tm 7=.pt (.s 7) 0/\st.hp (.s 7)=some (.row 4 [[iv kind,iv parent,.hs (.c (.s 7) 0 2) 1 0 ps.length,.hs (.c (.s 7) 0 3) 4 0 ([]:List qP).length]])/\st.hp (.c (.s 7) 0 2)=some (.row 1 (qm ps))/\st.hp (.c (.s 7) 0 3)=some (.row 4 (yL ([]:List qP)))/\st.tm 23=.pt (.u 1 0 0) 0/\st.tm 24=.hs (.s 24) 1 0 5/\st.hp (.s 24)=some (.row 1 (qm [3,2,4,1,5]))) ⟨[(y:Int)],pos+1+1,qB,⟨by simp [b6];omega,λh=>absurd Ar h⟩,qA,qB,qB,qB,qB,qB,qB,qB,qB,qB,yO,qB,qB,qB,yO⟩ ?_
  case' inr =>
   refine ca ?_<|aI hk1<|hx0
   first|show q8 _ _ _ _ _|intro K hK
   refine ua (λst=>∃ (ps:List Int) (q:Nat),ps.length<=1/\(b6 ps/\(¬ kind=1->ps=[]))/\q<=pos+2/\st.tm 0=.pt (.u 1 0 0) 0/\st.hp (.u 1 0 0)=some (jA bs q)/\st.tm 1=iv kind/\st.tm 6=.pt (.s 6) 0/\st.hp (.s 6)=some (.row 4 [[iv 0,iv 0,.hs (.c (.s 6) 0 2) 1 0 0,.hs (.c (.s 6) 0 3) 4 0 0]])/\st.hp (.c (.s 6) 0 2)=some (.row 1 [])/\st.hp (.c (.s 6) 0 3)=some (.row 4 []) /\
  st.tm 7=.pt (.s 7) 0/\st.hp (.s 7)=some (.row 4 [[iv kind,iv parent,.hs (.c (.s 7) 0 2) 1 0 ps.length,.hs (.c (.s 7) 0 3) 4 0 ([]:List qP).length]])/\st.hp (.c (.s 7) 0 2)=some (.row 1 (qm ps))/\st.hp (.c (.s 7) 0 3)=some (.row 4 (yL ([]:List qP)))/\st.tm 23=.pt (.u 1 0 0) 0/\st.tm 24=.hs (.s 24) 1 0 5/\st.hp (.s 24)=some (.row 1 (qm [3,2,4,1,5]))) ⟨[],pos+1,qB,⟨by simp [b6],qB⟩,qA,qB,qB,qB,qB,qB,qB,qB,qB,qB,yO,qB,qB,qB,yO⟩ ?_
 all_goals
  rintro st ⟨ps,q,hps,hpT,hq,h0,hU,h1,h6,hp6,hp62,hp63,h7,hp7,hp72,hp73,h23,h24,hp24⟩;refine aw (ai _) 24 [3,2,4,1,5] (bs:=bs) (pos:=q) hb qA (hV:=hV) (h0:=h23) (h1:=by simp [h24]) (hH:=hU) (hL:=by simp [hp24]) (h:=?_);intro v hv;have hvr:1<=v/\v<=5:=ir;obtain⟨V,rfl⟩:∃ V:Nat,v=V:=⟨v.toNat,qA⟩;refine ca ?_<|qS;refine zU (λn st=>∃ (L:List qP) (q:Nat),n+L.length=V/\(∀ s∈L,vG s)/\q+8 * n<=pos+50/\st.tm 0=.pt (.u 1 0 0) 0/\st.hp (.u 1 0 0)=some (jA bs q)/\st.tm 1=iv kind/\st.tm 6=.pt (.s 6) 0/\st.hp (.s 6)=some (.row 4 [[iv 0,iv 0,.hs (.c (.s 6) 0 2) 1 0 0,.hs (.c (.s 6) 0 3) 4 0 0]])/\st.hp (.c (.s 6) 0 2)=some (.row 1 [])/\st.hp (.c (.s 6) 0 3)=some (.row 4 []) /\
  st.tm 7=.pt (.s 7) 0/\st.hp (.s 7)=some (.row 4 [[iv kind,iv parent,.hs (.c (.s 7) 0 2) 1 0 ps.length,.hs (.c (.s 7) 0 3) 4 0 L.length]])/\st.hp (.c (.s 7) 0 2)=some (.row 1 (qm ps))/\st.hp (.c (.s 7) 0 3)=some (.row 4 (yL L))/\st.tm 8=iv n) V ?_ ?_
  .exact⟨[],q+1,qB,qB,qA,ji,qB,zx,aY,gb,tj,xE,du,by simp [hp7],by simp [hp72],by simp [hp73],qB⟩
  clear h0 hU h1 h6 hp6 hp62 hp63 h7 hp7 hp72 hp73 h23 h24 hp24;rintro n st - - ⟨L,q,hL,hLT,hq,h0,hU,h1,h6,hp6,hp62,hp63,h7,hp7,hp72,hp73,h8⟩;refine ca ?_<| h8;rcases dJ n with rfl|hn0
  .have hL5:L.length<=5:=qA
   cases hkk:(kind==1)
   .skip
    refine ca ?_<|jQ h0 h1 h6 hp6 h7 hp7<|hkk;exact qG [(.s 7,root)] (.one rfl) Ax ⟨⟨kind,parent,ps,L⟩,q,qB,by simp [hp72,hr0],by simp [hp73,hr0],⟨rfl,rfl,hps,qn,qA,hLT,hpT⟩,vC⟩
   .skip
    refine ca ?_<|jQ h0 h1 h6 hp6 h7 hp7<|hkk
    first|show q8 _ _ _ _ _|intro K hK
    refine vk (hs:=vC) (ha:=rB) (hF:=bu _ _ bs q 2 hb qA qA vC) (h:=?_);rintro x px ⟨hx,rfl⟩;have hx0:x=0\/¬ x=0:=qA;rcases hx0 with rfl|hx0
    .skip
     refine ca ?_<|jJ h0 h1 h6 hp6 h7 hp7 hp73<|hkk
     first|show q8 _ _ _ _ _|intro K hK
     refine aw (ai _) 48 [0,1,4,5] (bs:=bs) (pos:=q+1) hb qA (hV:=hV) (h0:=ji) (h1:=qB) (hH:=qB) (hL:=yO) (h:=?_);intro v2 hv2;have hv2R:0<=v2/\v2<=99:=by simp at hv2;omega
     refine ca ?_<|jJ h0 h1 h6 hp6 h7 hp7 hp73<|hkk;exact qG [(.s 7,root)] (.one rfl) Ax ⟨⟨kind,parent,ps,L++[⟨8,0,v2,0⟩]⟩,q+1+1,qB,by simp [hp72,hr0],by show _=some (AO.row 4 (yL (L++[⟨8,0,v2,0⟩])));rw [<- sr];simp [hp73,hr0],⟨rfl,rfl,hps,qn,qA,AM hLT wA,hpT⟩,vC⟩
    .skip
     refine ca ?_<|yz h0 h1 h6 hp6 h7 hp7 hp73 hkk<|hx0;exact qG [(.s 7,root)] (.one rfl) Ax ⟨⟨kind,parent,ps,L⟩,q+1,qB,by simp [hp72,hr0],by simp [hp73,hr0],⟨rfl,rfl,hps,qn,qA,hLT,hpT⟩,vC⟩
  .have hL5:L.length<=4:=qA;refine ca ?_<|j2 h0 h1 h7 hp7 hp73<|hn0
   first|show q8 _ _ _ _ _|intro K hK
   refine vk (hs:=vC) (ha:=by first|(simp [h0,h1];done)|(simp [h0,h1];rfl)) (hF:=Y9 _ _ bs q kind hb qA vC qB) (h:=?_);rintro s p2 ⟨⟨hp2a,hp2b⟩,hsT⟩;refine ca ?_<|jQ h0 h1 h7 hp7 hp73 h8<|hn0;refine⟨n - 1,qA,L++[s],p2,qn,AM hLT hsT,qA,ji,qB,zx,aY,gb,tj,xE,du,by simp [hp7],by simp [hp72],by rw [<- sr];simp [hp73],?_⟩;simp;rw [qi qA qA];omega
def Nz (bs:List Int) (Q:List qP->Nat->Prop):Nm->AV->(Nm->Option AO)->Prop:=λr z H'=>∃ (L:List qP) (pos':Nat),z=.hs r 4 0 L.length/\H' r=some (.row 4 (yL L))/\Q L pos'/\H' (.u 1 0 0)=some (jA bs pos')
theorem Ej (gl) (H:Nm->Option AO) (bs:List Int) (pos:Nat) (kind parent b:Int) (np nb:Nat) (hbr:0<=b/\b<=99) (hb:aA bs) (hpos:pos<=800000) (hH:H (.u 1 0 0)=some (jA bs pos)) (hV:H (.u 2 0 0)=none) :
  qV prog gl 140 (Nm.under (.u 1 0 0)) [.pt (.u 1 0 0) 0,.agg [iv kind,iv parent,.hs (.u 4 0 0) 1 0 np,.hs (.u 5 0 0) 4 0 nb],iv b] H (Nz bs (λL pos'=>L.length<=2/\pos'<=pos+5/\∀ s∈L,vG s)) qy:=by
 refine qV.qa func140 [.tmp 6] ntmps140 (λ_=>yq rfl) λC w g root hroot=>?_;have hr0:=hroot root (Nm.uH _)
 cases hk2:(kind==2)
 rotate_left
 .skip
  refine qI ?_<| hk2;exact qG [(.s 6,root)] (.one rfl) qH ⟨[⟨4,6,b,0⟩],pos,qB,Aw,⟨qB,qA,GM wA⟩,zb⟩
 refine qI ?_<| hk2
 first|show q8 _ _ _ _ _|intro K hK
 refine aw (ai _) 17 [4,5] (bs:=bs) (pos:=pos) hb qA (hV:=hV) (h0:=qB) (h1:=qB) (hH:=zb) (hL:=yO) (h:=?_);intro f hf;have hfR:0<=f/\f<=99:=by simp at hf;omega
 refine qI ?_<|qS
 first|show q8 _ _ _ _ _|intro K hK
 refine vk (hs:=qB) (ha:=uK) (hF:=bu _ _ bs (pos+1) 3 hb qA qA qB) (h:=?_);rintro x px ⟨hx,rfl⟩;have hx0:x=0\/¬ x=0:=qA;rcases hx0 with rfl|hx0
 .skip
  refine qI ?_<|qS;exact qG [(.s 6,root)] (.one rfl) qH ⟨[⟨3,f,b,0⟩],pos+1+1,qB,Aw,⟨qB,qA,GM wA⟩,qB⟩
 have hxp:0<x:=qA
 cases hn1:((np:Int)==1)
 .skip
  refine qI ?_<|aI hxp<|hn1
  first|show q8 _ _ _ _ _|intro K hK
  refine aw (ai _) 34 [0,1,5] (bs:=bs) (pos:=pos+1+1) hb qA (hV:=hV) (h0:=qB) (h1:=qB) (hH:=qB) (hL:=yO) (h:=?_);intro v hv;have hvR:0<=v/\v<=99:=ir;refine qI ?_<|qS;exact qG [(.s 6,root)] (.one rfl) qH ⟨[⟨3,f,b,0⟩,⟨5,v,f,-1⟩],pos+1+1+1,qB,Aw,⟨qB,qA,Mh wA wA⟩,qB⟩
 .skip
  refine qI ?_<|aI hxp<|hn1
  first|show q8 _ _ _ _ _|intro K hK
  refine vk (hs:=qB) (ha:=uK) (hF:=di _ _ bs (pos+1+1) hb qA qB qB) (h:=?_);rintro u pu ⟨huR,rfl⟩;refine qI ?_<|qS
  first|show q8 _ _ _ _ _|intro K hK
  refine aw (ai _) 34 [0,1,5] (bs:=bs) (pos:=pos+1+1+1) hb qA (hV:=hV) (h0:=qB) (h1:=qB) (hH:=qB) (hL:=yO) (h:=?_);intro v hv;have hvR:0<=v/\v<=99:=ir;refine qI ?_<|qS;exact qG [(.s 6,root)] (.one rfl) qH ⟨[⟨3,f,b,0⟩,⟨5,v,f,u⟩],pos+1+1+1+1,qB,Aw,⟨qB,qA,Mh wA wA⟩,qB⟩
end Go.Proofs.YtjgpejikjhojcaaGreatDoor
end
