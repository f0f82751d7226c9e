import Derived.Test.YtdnebaieamppbaaGreatDoorF23
import Derived.Test.YtdnebaieamppbaaGreatDoorF21
set_option linter.unusedSimpArgs false
set_option linter.unusedVariables false
set_option maxRecDepth 100000
set_option maxHeartbeats 4000000

section
namespace Go.Proofs.YtdnebaieamppbaaGreatDoor
open Go Go.Hm Go.Proofs Tryz
abbrev X2:Y8:=.q 0<|.q 1<|.q 2<|.q 3<|.q 4<|.q 5<|.q 6<|.q 7<|.q 8<|.q 9<|.q 10<|.q 11<|.q 12<|.q 13<|.q 14<|.q 15<|.q 16<|.q 17<|.q 18<|.q 19<|.q 20<|.q 21<|.q 22<|.q 23<|.q 24<|.q 25<|.q 26<|.q 27<|.q 28<|.q 29<|.q 30<|.q 31<|.q 32<|.q 33<|.q 34<|.q 35<|.q 36<|.q 37<|.q 38<|.q 39<|.q 40<|.q 41<|.q 42<|.q 43<|.q 44<|.l 45 []<|.done
theorem nZ {v:Int} {n:Nat} (hv:0<=v) (hn:0<n):∃ k:Nat,v.tmod n=k/\k<n:=by
 have h1:=Int.tmod_nonneg n hv;have h2:=Int.tmod_lt_of_pos v (show (0:Int)<n by omega);exact⟨(v.tmod n).toNat,qA,qA⟩
theorem RC {x y:Int} (hx:0<=x/\x<=1000000000000) (hy:0<=y/\y<=1000000000000):∃ r:Nat,IntKind.i64.wrap (((x % 2 ^ IntKind.i64.bits).toNat ^^^ (y % 2 ^ IntKind.i64.bits).toNat:Nat):Int)=r:=by
 have e:∀ z:Int,0<=z/\z<=1000000000000->(z % 2 ^ IntKind.i64.bits).toNat<2 ^ 40:=by
  intro z hz;simp only [show IntKind.i64.bits=64 from rfl];omega
 have h:=Nat.xor_lt_two_pow (e x hx) (e y hy);exact⟨_,Yi qA qA⟩
@[simp] theorem int_xorv {k:IntKind} {x y:Int}:fg k .xor x y=some (.sc (.int k (k.wrap ((BitVec.ofInt k.bits x ^^^ BitVec.ofInt k.bits y).toNat:Int)))):=rfl
theorem lD {A G G2:Prop} (k:G2) (x:A) (h:A->Yr G2->G:=by
 intro fx kk;refine qI ?_
 repeat ((first|refine Y7 (id:=7) X2 mixed ?_);refine qW ?_;refine qI ?_)
 exact kk.h):G:=h x ⟨k⟩
theorem LT (gl) (H:Nm->Option AO) (bs:List Int) (pos n:Nat) (hb:ZL bs) (hpos:pos<=1000000) (hn:n<=1000000) (hH:H (.u 1 0 0)=some (Zo bs pos)) :
  Yc prog gl 67 (Nm.under (.u 1 0 0)) [.pt (.u 1 0 0) 0,iv n] H (λ_ z H'=>∃ k:Nat,z=iv k/\(k=0\/k<n)/\H' (.u 1 0 0)=some (Zo bs (pos+1))) Yz:=by
 have w1:IntKind.i64.wrap ((pos:Int)+1)=pos+1:=Yi qA qA;have w0:IntKind.i64.wrap (pos:Int)=pos:=Yi qA qA;have Ym:=hb.len;refine Yc.Yb func67 [.tmp 4] ntmps67 (λ_=>qZ rfl) λC w g root hroot=>?_;rcases iR n with rfl|hn0
 .skip
  refine lD ?_<|aI hH<|w1;refine qE [] .nil qF ⟨0,qB,.inl rfl,jU⟩
 have hn1:¬ (n:Int)<1:=qA;rcases iR bs.length with hl0|hl
 .skip
  refine lD ?_<|j4 hH w1 hn1<|hl0;refine qE [] .nil qF ⟨0,qB,.inl rfl,jU⟩
 have hl1:((bs.length:Int)==0)=false:=yY;have hn2:¬ n=0:=qA;by_cases hpl:pos<bs.length
 .obtain⟨v,hv⟩:=gX hpl;obtain⟨_,hvE⟩:=gS hv;have hvr:=hb.rng v (gM hv);obtain⟨k,hk,hkn⟩:=nZ hvr.1 hn0;have wv:IntKind.i64.wrap v=v:=Yi qA qA;refine lD ?_<|jP hH w1 w0 hn1 hl1 hpl hv hvE hn2 hk<|wv;refine qE [] .nil qF ⟨k,qB,.inr hkn,jU⟩
 have hbl0:¬ bs.length=0:=qA;obtain⟨i1,hi1,hi1l⟩:=nZ (v:=(pos:Int)) qA hl;obtain⟨i2,hi2,hi2l⟩:=nZ (v:=(pos:Int) * 7+3) qA hl;obtain⟨b1,hb1⟩:=gX hi1l;obtain⟨b2,hb2⟩:=gX hi2l;obtain⟨_,hb1E⟩:=gS hb1;obtain⟨_,hb2E⟩:=gS hb2;have hr1:=hb.rng b1 (gM hb1);have hr2:=hb.rng b2 (gM hb2);have wb1:IntKind.i64.wrap b1=b1:=Yi qA qA;have wb2:IntKind.i64.wrap b2=b2:=Yi qA qA;have w7:IntKind.i64.wrap ((pos:Int) * 7)=pos * 7:=Yi qA qA;have w73:IntKind.i64.wrap ((pos:Int) * 7+3)=pos * 7+3:=Yi qA qA;obtain⟨q,hq,hql⟩:∃ q:Nat,(pos:Int) / (bs.length:Int)=q/\q<=pos:=⟨pos / bs.length,qB,Nat.div_le_self _ _⟩;have wq:IntKind.i64.wrap (q:Int)=q:=Yi qA qA;have w131:IntKind.i64.wrap (b1 * 131)=b1 * 131:=Yi qA qA;have w1117:IntKind.i64.wrap (b2 * 1117)=b2 * 1117:=Yi qA qA;have wa:IntKind.i64.wrap (b1 * 131+b2 * 1117)=b1 * 131+b2 * 1117:=Yi qA qA;have w29:IntKind.i64.wrap ((pos:Int) * 29)=pos * 29:=Yi qA qA;have wb:IntKind.i64.wrap (b1 * 131+b2 * 1117+pos * 29)=b1 * 131+b2 * 1117+pos * 29:=Yi qA qA;have w53:IntKind.i64.wrap ((q:Int) * 53)=q * 53:=Yi qA qA;obtain⟨X,hX⟩:∃ X,X=b1 * 131+b2 * 1117+pos * 29+q * 53:=⟨_,rfl⟩;have wX:IntKind.i64.wrap (b1 * 131+b2 * 1117+pos * 29+q * 53)=X:=by rw [hX];exact Yi qA qA
 obtain⟨Y,hY,hYr⟩:∃ Y,X.tdiv 64=Y/\0<=Y/\Y<=X:=by
  refine⟨_,rfl,Int.tdiv_nonneg qA qL,?_⟩;exact Int.tdiv_le_self _ qA
 have wY:IntKind.i64.wrap Y=Y:=Yi qA qA;obtain⟨r,hr⟩:=RC (x:=X) (y:=Y) qA qA;obtain⟨k,hk,hkn⟩:=nZ (v:=(r:Int)) qA hn0;refine lD ?_<|qQ hH w1 w0 hn1 hl1 hpl hi1 hi2 hi1l hi2l hb1 hb2<|qQ hb1E hb2E wb1 wb2 w7 w73 hbl0 hq wq w131 w1117 wa<|er w29 wb w53 wX hY wY hr hn2<|hk;refine qE [] .nil qF ⟨k,qB,.inr hkn,jU⟩
theorem Uq (gl) (H:Nm->Option AO) (bs:List Int) (pos:Nat) (xs:List Int) (hb:ZL bs) (hpos:pos<=1000000) (hx:0<xs.length/\xs.length<=1000) (hH:H (.u 1 0 0)=some (Zo bs pos)) (hL:H (.u 2 0 0)=some (.row 1 (qS xs))) :
  Yc prog gl 66 ZK [.pt (.u 1 0 0) 0,.hs (.u 2 0 0) 1 0 xs.length] H (λ_ z H'=>∃ v,z=iv v/\v∈xs/\H' (.u 1 0 0)=some (Zo bs (pos+1))) Yz:=by
 have hxl:=hx.2;refine Yc.Yb func66 [.tmp 4] ntmps66 (λ_=>zi) λC w g root hroot=>?_
 all_goals have fx:=Ya
 repeat' (first|refine qK ?_|refine λ(K:St->Prop) hK=>?_)
 all_goals try clear fx
 have fx:=hxl;refine xN (.u 1 0 0) rfl jU (hF:=LT _ _ bs pos xs.length hb hpos qA jU) (h:=?_);rintro z H1 ⟨k,rfl,hk,hk1⟩;have hkl:k<xs.length:=qA;obtain⟨v,hv⟩:=gX hkl;obtain⟨_,hvE⟩:=gS hv;clear fx;refine qD ?_<|j4 hL hkl hv<|hvE;refine qE [] .nil qF ⟨v,qB,gM hv,by simp [hk1]⟩
theorem bN (gl):VT prog gl 66:=λH bs pos xs hb hp hx hH hL=>Uq gl H bs pos xs hb hp hx hH hL
theorem QT (gl) (H:Nm->Option AO) (bs:List Int) (pos:Nat) (hb:ZL bs) (hpos:pos<=1000000) (hH:H (.u 1 0 0)=some (Zo bs pos)) (hV:H (.u 2 0 0)=none) :
  Yc prog gl 201 (Nm.under (.u 1 0 0)) [.pt (.u 1 0 0) 0] H (λ_ z H'=>∃ v,z=iv v/\(0<=v/\v<=7)/\H' (.u 1 0 0)=some (Zo bs (pos+1))) Yz:=by
 refine Yc.Yb func201 [.tmp 2] ntmps201 (λ_=>qZ rfl) λC w g root hroot=>?_;refine qD ?_<|Ya
 first|show qO _ _ _ _ _|intro K hK
 refine bG (bN _) 4 [0,1,2,0,1,3,7] hb hpos (hV:=hV) (h0:=qB) (h1:=qB) (hH:=jU) (hL:=zU) (h:=?_);intro v hv;have hvR:0<=v/\v<=7:=lV;refine qD ?_<|Ya;refine qE [] .nil qF ⟨v,qB,hvR,qB⟩
theorem un (gl) (H:Nm->Option AO) (bs:List Int) (pos n:Nat) (hb:ZL bs) (hpos:pos<=1000000) (hn:n<=1000000) (hH:H (.u 1 0 0)=some (Zo bs pos)) :
  Yc prog gl 67 (Nm.under (.u 1 0 0)) [.pt (.u 1 0 0) 0,iv n] H (EB bs (λk:Nat=>iv k) (λk pos'=>(k=0\/k<n)/\pos'=pos+1)) Yz :=
 Yc.mono (LT gl H bs pos n hb hpos hn hH) (λ_ _ _ ⟨k,h1,h2,h3⟩=>⟨k,pos+1,h1,⟨h2,rfl⟩,h3⟩) (λ_ _ _ h=>h)
theorem uX (gl) (H:Nm->Option AO) (bs:List Int) (pos:Nat) (hb:ZL bs) (hpos:pos<=1000000) (hH:H (.u 1 0 0)=some (Zo bs pos)) (hV:H (.u 2 0 0)=none) :
  Yc prog gl 201 (Nm.under (.u 1 0 0)) [.pt (.u 1 0 0) 0] H (EB bs (λv:Int=>iv v) (λv pos'=>(0<=v/\v<=7)/\pos'=pos+1)) Yz :=
 Yc.mono (QT gl H bs pos hb hpos hH hV) (λ_ _ _ ⟨v,h1,h2,h3⟩=>⟨v,pos+1,h1,⟨h2,rfl⟩,h3⟩) (λ_ _ _ h=>h)
theorem EY (gl) (H:Nm->Option AO) (bs:List Int) (pos:Nat) (kind:Int) (hb:ZL bs) (hpos:pos<=900000) (hH:H (.u 1 0 0)=some (Zo bs pos)) (hV:H (.u 2 0 0)=none) :
  Yc prog gl 200 (Nm.under (.u 1 0 0)) [.pt (.u 1 0 0) 0,iv kind] H (EB bs (λs:Y5=>s.av) (λs pos'=>(pos<=pos'/\pos'<=pos+8)/\Zj s)) Yz:=by
 refine Yc.Yb func200 [.cell 4 138] ntmps200 (λ_=>qZ rfl) λC w g root hroot=>?_;refine qD ?_<|Ya
 first|show qO _ _ _ _ _|intro K hK
 refine bG (bN _) 7 [0,1,2,0,1,3] (bs:=bs) (pos:=pos) hb qA (hV:=hV) (h0:=qB) (h1:=qB) (hH:=jU) (hL:=zU) (h:=?_);intro to hto;have htoR:0<=to/\to<=99:=by simp at hto;omega
 refine qD ?_<|Ya
 first|show qO _ _ _ _ _|intro K hK
 refine l7 (hs:=qB) (ha:=yK) (hF:=un _ _ bs (pos+1) 12 hb qA qA qB) (h:=?_);rintro k pk ⟨hk,rfl⟩;have hk12:k<12:=qA;have hkc:k=0\/k=1\/k=2\/k=3\/k=4\/k=5\/k=6\/k=7\/k=8\/k=9\/k=10\/k=11:=qA;clear hk hk12;rcases hkc with rfl|rfl|rfl|rfl|rfl|rfl|rfl|rfl|rfl|rfl|rfl|rfl
 .skip
  refine qD ?_<|Ya
  first|show qO _ _ _ _ _|intro K hK
  refine l7 (hs:=qB) (ha:=yK) (hF:=un _ _ bs (pos+1+1) 20 hb qA qA qB) (h:=?_);rintro x px ⟨hx,rfl⟩;refine qD ?_<|Ya
  first|show qO _ _ _ _ _|intro K hK
  refine bG (bN _) 19 [(x:Int),99,5] (bs:=bs) (pos:=pos+1+1+1) hb qA (hV:=hV) (h0:=qB) (h1:=qB) (hH:=qB) (hL:=zU) (h:=?_);intro v hv;have hvR:0<=v/\v<=99:=lV;refine qD ?_<|Ya;exact qE [] .nil qF ⟨⟨0,to,v,0⟩,pos+1+1+1+1,qB,⟨qA,txS⟩,qB⟩
 .skip
  refine qD ?_<|Ya
  first|show qO _ _ _ _ _|intro K hK
  refine l7 (hs:=qB) (ha:=yK) (hF:=un _ _ bs (pos+1+1) 20 hb qA qA qB) (h:=?_);rintro x px ⟨hx,rfl⟩;refine qD ?_<|Ya
  first|show qO _ _ _ _ _|intro K hK
  refine bG (bN _) 19 [(x:Int),99,5] (bs:=bs) (pos:=pos+1+1+1) hb qA (hV:=hV) (h0:=qB) (h1:=qB) (hH:=qB) (hL:=zU) (h:=?_);intro v hv;have hvR:0<=v/\v<=99:=lV;refine qD ?_<|Ya;exact qE [] .nil qF ⟨⟨0,to,v,0⟩,pos+1+1+1+1,qB,⟨qA,txS⟩,qB⟩
 .skip
  refine qD ?_<|Ya
  first|show qO _ _ _ _ _|intro K hK
  refine l7 (hs:=qB) (ha:=yK) (hF:=un _ _ bs (pos+1+1) 20 hb qA qA qB) (h:=?_);rintro x px ⟨hx,rfl⟩;refine qD ?_<|Ya
  first|show qO _ _ _ _ _|intro K hK
  refine bG (bN _) 19 [(x:Int),99,5] (bs:=bs) (pos:=pos+1+1+1) hb qA (hV:=hV) (h0:=qB) (h1:=qB) (hH:=qB) (hL:=zU) (h:=?_);intro v hv;have hvR:0<=v/\v<=99:=lV;refine qD ?_<|Ya;exact qE [] .nil qF ⟨⟨0,to,v,0⟩,pos+1+1+1+1,qB,⟨qA,txS⟩,qB⟩
 .skip
  refine qD ?_<|Ya
  first|show qO _ _ _ _ _|intro K hK
  refine l7 (hs:=qB) (ha:=yK) (hF:=uX _ _ bs (pos+1+1) hb qA qB qB) (h:=?_);rintro v pv ⟨hvR,rfl⟩;refine qD ?_<|Ya;exact qE [] .nil qF ⟨⟨1,to,v,0⟩,pos+1+1+1,qB,⟨qA,txS⟩,qB⟩
 .skip
  refine qD ?_<|Ya
  first|show qO _ _ _ _ _|intro K hK
  refine l7 (hs:=qB) (ha:=yK) (hF:=uX _ _ bs (pos+1+1) hb qA qB qB) (h:=?_);rintro v pv ⟨hvR,rfl⟩;refine qD ?_<|Ya
  first|show qO _ _ _ _ _|intro K hK
  refine l7 (hs:=qB) (ha:=yK) (hF:=uX _ _ bs (pos+1+1+1) hb qA qB qB) (h:=?_);rintro w pw ⟨hwR,rfl⟩;refine qD ?_<|Ya;exact qE [] .nil qF ⟨⟨2,to,v,w⟩,pos+1+1+1+1,qB,⟨qA,txS⟩,qB⟩
 .skip
  refine qD ?_<|Ya
  first|show qO _ _ _ _ _|intro K hK
  refine l7 (hs:=qB) (ha:=yK) (hF:=uX _ _ bs (pos+1+1) hb qA qB qB) (h:=?_);rintro v pv ⟨hvR,rfl⟩;refine qD ?_<|Ya;exact qE [] .nil qF ⟨⟨7,0,v,0⟩,pos+1+1+1,qB,⟨qA,txS⟩,qB⟩
 .skip
  refine qD ?_<|Ya
  first|show qO _ _ _ _ _|intro K hK
  refine l7 (hs:=qB) (ha:=yK) (hF:=uX _ _ bs (pos+1+1) hb qA qB qB) (h:=?_);rintro v pv ⟨hvR,rfl⟩;refine qD ?_<|Ya;exact qE [] .nil qF ⟨⟨7,0,v,0⟩,pos+1+1+1,qB,⟨qA,txS⟩,qB⟩
 .skip
  refine qD ?_<|Ya
  first|show qO _ _ _ _ _|intro K hK
  refine l7 (hs:=qB) (ha:=yK) (hF:=uX _ _ bs (pos+1+1) hb qA qB qB) (h:=?_);rintro v pv ⟨hvR,rfl⟩;refine qD ?_<|Ya
  first|show qO _ _ _ _ _|intro K hK
  refine bG (bN _) 48 [4,5,v] (bs:=bs) (pos:=pos+1+1+1) hb qA (hV:=hV) (h0:=qB) (h1:=qB) (hH:=qB) (hL:=zU) (h:=?_);intro x hx;have hxR:0<=x/\x<=99:=by simp at hx;omega
  refine qD ?_<|Ya
  first|show qO _ _ _ _ _|intro K hK
  refine l7 (hs:=qB) (ha:=yK) (hF:=uX _ _ bs (pos+1+1+1+1) hb qA qB qB) (h:=?_);rintro u pu ⟨huR,rfl⟩;refine qD ?_<|Ya
  first|show qO _ _ _ _ _|intro K hK
  refine bG (bN _) 53 [-1,-1,u] (bs:=bs) (pos:=pos+1+1+1+1+1) hb qA (hV:=hV) (h0:=qB) (h1:=qB) (hH:=qB) (hL:=zU) (h:=?_);intro y hy;have hyR:(0<=y/\y<=99)\/y=-1:=by simp at hy;omega
  refine qD ?_<|Ya;exact qE [] .nil qF ⟨⟨5,to,x,y⟩,pos+1+1+1+1+1+1,qB,⟨qA,txS⟩,qB⟩
 .skip
  refine qD ?_<|Ya
  first|show qO _ _ _ _ _|intro K hK
  refine l7 (hs:=qB) (ha:=yK) (hF:=uX _ _ bs (pos+1+1) hb qA qB qB) (h:=?_);rintro v pv ⟨hvR,rfl⟩;refine qD ?_<|Ya;exact qE [] .nil qF ⟨⟨6,to,6,v⟩,pos+1+1+1,qB,⟨qA,txS⟩,qB⟩
 .by_cases hk0:kind=0
  .subst hk0;refine qD ?_<|Ya
   first|show qO _ _ _ _ _|intro K hK
   refine l7 (hs:=qB) (ha:=yK) (hF:=uX _ _ bs (pos+1+1) hb qA qB qB) (h:=?_);rintro v pv ⟨hvR,rfl⟩;refine qD ?_<|Ya;exact qE [] .nil qF ⟨⟨7,0,v,0⟩,pos+1+1+1,qB,⟨qA,txS⟩,qB⟩
  .have hkn:(kind != 0)=true:=by simp [hk0]
   refine qD ?_<|aI hk0<|hkn
   first|show qO _ _ _ _ _|intro K hK
   refine bG (bN _) 67 [9,10,10] (bs:=bs) (pos:=pos+1+1) hb qA (hV:=hV) (h0:=qB) (h1:=qB) (hH:=qB) (hL:=zU) (h:=?_);intro v hv;have hvR:9<=v/\v<=10:=lV;refine qD ?_<|Ya;exact qE [] .nil qF ⟨⟨v,to,0,0⟩,pos+1+1+1,qB,⟨qA,txS⟩,qB⟩
 .skip
  refine qD ?_<|Ya
  first|show qO _ _ _ _ _|intro K hK
  refine l7 (hs:=qB) (ha:=yK) (hF:=un _ _ bs (pos+1+1) 3 hb qA qA qB) (h:=?_);rintro x px ⟨hx,rfl⟩;rcases iR x with rfl|hx0
  .skip
   refine qD ?_<|Ya;exact qE [] .nil qF ⟨⟨11,to,0,0⟩,pos+1+1+1,qB,⟨qA,txS⟩,qB⟩
  .have hxn:((x:Int)==0)=false:=yY;have hxn2:¬ x=0:=qA;refine qD ?_<|aI hxn<|hxn2
   first|show qO _ _ _ _ _|intro K hK
   refine l7 (hs:=qB) (ha:=yK) (hF:=uX _ _ bs (pos+1+1+1) hb qA qB qB) (h:=?_);rintro v pv ⟨hvR,rfl⟩;refine qD ?_<|Ya;exact qE [] .nil qF ⟨⟨7,0,v,0⟩,pos+1+1+1+1,qB,⟨qA,txS⟩,qB⟩
 .skip
  refine qD ?_<|Ya
  first|show qO _ _ _ _ _|intro K hK
  refine l7 (hs:=qB) (ha:=yK) (hF:=uX _ _ bs (pos+1+1) hb qA qB qB) (h:=?_);rintro v pv ⟨hvR,rfl⟩;refine qD ?_<|Ya;exact qE [] .nil qF ⟨⟨7,0,v,0⟩,pos+1+1+1,qB,⟨qA,txS⟩,qB⟩
abbrev X1:Y8:=CN<|.l 4 [1,0]<|.l 5 [1,0]<|.l 6 []<|.q 7<|.l 8 []<|.done
abbrev X0:Y8:=.q 0<|.q 1<|.q 2<|.l 3 [2,1,0]<|.l 4 [1,0]<|.q 5<|.l 6 [1,0]<|.l 7 []<|.q 8<|.l 9 []<|.done
def TF (bs:List Int) (Q:Y4->Nat->Prop):Nm->AV->(Nm->Option AO)->Prop:=λr z H'=>∃ (k:Y4) (pos':Nat),z=.agg [iv k.kind,iv k.parent,.hs (.c r 0 2) 1 0 k.params.length,.hs (.c r 0 3) 4 0 k.body.length] /\
 H' (.c r 0 2)=some (.row 1 (qS k.params))/\H' (.c r 0 3)=some (.row 4 (jI k.body))/\Q k pos'/\H' (.u 1 0 0)=some (Zo bs pos')
theorem jz {A G G2:Prop} (k:G2) (x:A) (h:A->Yr G2->G:=by
 intro fx kk;refine qI ?_
 repeat ((first|refine Y7 (id:=7) X1 mixed ?_|refine Y7 (id:=9) X0 mixed ?_);refine qW ?_;refine qI ?_)
 exact kk.h):G:=h x ⟨k⟩
theorem mq (gl) (H:Nm->Option AO) (bs:List Int) (pos:Nat) (kind parent:Int) (hb:ZL bs) (hpos:pos<=800000) (hH:H (.u 1 0 0)=some (Zo bs pos)) (hV:H (.u 2 0 0)=none) :
  Yc prog gl 168 (Nm.under (.u 1 0 0)) [.pt (.u 1 0 0) 0,iv kind,iv parent] H (TF bs (λk pos'=>k.kind=kind/\k.parent=parent/\k.params.length<=1/\k.body.length<=6/\pos'<=pos+60/\VY k)) Yz:=by
 refine Yc.Yb func168 [.cell 6 136] ntmps168 (λ_=>qZ rfl) λC w g root hroot=>?_;have hr0:=hroot root (Nm.Y0 _);rcases (by cases hk:(kind==1) <;> simp:(kind==1)=false\/(kind==1)=true) with hk1|hk1
 case' inl =>
  refine jz ?_<| hk1
  first|show qO _ _ _ _ _|intro K hK
  refine uD (λst=>∃ (ps:List Int) (q:Nat),ps.length<=1/\(B6 ps/\(¬ kind=1->ps=[]))/\q<=pos+2/\st.tm 0=.pt (.u 1 0 0) 0/\st.hp (.u 1 0 0)=some (Zo bs q)/\st.tm 1=iv kind/\st.tm 6=.pt (.s 6) 0/\st.hp (.s 6)=some (.row 4 [[iv 0,iv 0,.hs (.c (.s 6) 0 2) 1 0 0,.hs (.c (.s 6) 0 3) 4 0 0]])/\st.hp (.c (.s 6) 0 2)=some (.row 1 [])/\st.hp (.c (.s 6) 0 3)=some (.row 4 []) /\
  st.tm 7=.pt (.s 7) 0/\st.hp (.s 7)=some (.row 4 [[iv kind,iv parent,.hs (.c (.s 7) 0 2) 1 0 ps.length,.hs (.c (.s 7) 0 3) 4 0 ([]:List Y5).length]])/\st.hp (.c (.s 7) 0 2)=some (.row 1 (qS ps))/\st.hp (.c (.s 7) 0 3)=some (.row 4 (jI ([]:List Y5)))/\st.tm 23=.pt (.u 1 0 0) 0/\st.tm 24=.hs (.s 24) 1 0 5/\st.hp (.s 24)=some (.row 1 (qS [3,2,4,1,5]))) ⟨[],pos,qB,⟨by simp [B6],qB⟩,qA,jU,jU,jU,jU,jU,jU,jU,jU,jU,zU,jU,qB,qB,zU⟩ ?_
 case' inr =>
  refine jz ?_<| hk1
  first|show qO _ _ _ _ _|intro K hK
  refine l7 (hs:=jU) (ha:=yK) (hF:=un _ _ bs pos 3 hb qA qA jU) (h:=?_);rintro x px ⟨hx,rfl⟩;have hx0:x=0\/¬ x=0:=qA;rcases hx0 with rfl|hx0
  case' inl =>
   refine jz ?_<| hk1
   first|show qO _ _ _ _ _|intro K hK
   refine l7 (hs:=qB) (ha:=yK) (hF:=un _ _ bs (pos+1) 3 hb qA qA qB) (h:=?_);rintro y py ⟨hy,rfl⟩;refine jz ?_<|Ya
   first|show qO _ _ _ _ _|intro K hK
   refine uD (λst=>∃ (ps:List Int) (q:Nat),ps.length<=1/\(B6 ps/\(¬ kind=1->ps=[]))/\q<=pos+2/\st.tm 0=.pt (.u 1 0 0) 0/\st.hp (.u 1 0 0)=some (Zo bs q)/\st.tm 1=iv kind/\st.tm 6=.pt (.s 6) 0/\st.hp (.s 6)=some (.row 4 [[iv 0,iv 0,.hs (.c (.s 6) 0 2) 1 0 0,.hs (.c (.s 6) 0 3) 4 0 0]])/\st.hp (.c (.s 6) 0 2)=some (.row 1 [])/\st.hp (.c (.s 6) 0 3)=some (.row 4 []) /\
  st.tm 7=.pt (.s 7) 0/\st.hp (.s 7)=some (.row 4 [[iv kind,iv parent,.hs (.c (.s 7) 0 2) 1 0 ps.length,.hs (.c (.s 7) 0 3) 4 0 ([]:List Y5).length]])/\st.hp (.c (.s 7) 0 2)=some (.row 1 (qS ps))/\st.hp (.c (.s 7) 0 3)=some (.row 4 (jI ([]:List Y5)))/\st.tm 23=.pt (.u 1 0 0) 0/\st.tm 24=.hs (.s 24) 1 0 5/\st.hp (.s 24)=some (.row 1 (qS [3,2,4,1,5]))) ⟨[(y:Int)],pos+1+1,qB,⟨by simp [B6];omega,λh=>absurd ri h⟩,qA,qB,qB,qB,qB,qB,qB,qB,qB,qB,zU,qB,qB,qB,zU⟩ ?_
  case' inr =>
   refine jz ?_<|aI hk1<|hx0
   first|show qO _ _ _ _ _|intro K hK
   refine uD (λst=>∃ (ps:List Int) (q:Nat),ps.length<=1/\(B6 ps/\(¬ kind=1->ps=[]))/\q<=pos+2/\st.tm 0=.pt (.u 1 0 0) 0/\st.hp (.u 1 0 0)=some (Zo bs q)/\st.tm 1=iv kind/\st.tm 6=.pt (.s 6) 0/\st.hp (.s 6)=some (.row 4 [[iv 0,iv 0,.hs (.c (.s 6) 0 2) 1 0 0,.hs (.c (.s 6) 0 3) 4 0 0]])/\st.hp (.c (.s 6) 0 2)=some (.row 1 [])/\st.hp (.c (.s 6) 0 3)=some (.row 4 []) /\
  st.tm 7=.pt (.s 7) 0/\st.hp (.s 7)=some (.row 4 [[iv kind,iv parent,.hs (.c (.s 7) 0 2) 1 0 ps.length,.hs (.c (.s 7) 0 3) 4 0 ([]:List Y5).length]])/\st.hp (.c (.s 7) 0 2)=some (.row 1 (qS ps))/\st.hp (.c (.s 7) 0 3)=some (.row 4 (jI ([]:List Y5)))/\st.tm 23=.pt (.u 1 0 0) 0/\st.tm 24=.hs (.s 24) 1 0 5/\st.hp (.s 24)=some (.row 1 (qS [3,2,4,1,5]))) ⟨[],pos+1,qB,⟨by simp [B6],qB⟩,qA,qB,qB,qB,qB,qB,qB,qB,qB,qB,zU,qB,qB,qB,zU⟩ ?_
 all_goals
  rintro st ⟨ps,q,hps,hpT,hq,h0,hU,h1,h6,hp6,hp62,hp63,h7,hp7,hp72,hp73,h23,h24,hp24⟩;refine bG (bN _) 24 [3,2,4,1,5] (bs:=bs) (pos:=q) hb qA (hV:=hV) (h0:=h23) (h1:=by simp [h24]) (hH:=hU) (hL:=by simp [hp24]) (h:=?_);intro v hv;have hvr:1<=v/\v<=5:=lV;obtain⟨V,rfl⟩:∃ V:Nat,v=V:=⟨v.toNat,qA⟩;refine jz ?_<|Ya;refine qR (λn st=>∃ (L:List Y5) (q:Nat),n+L.length=V/\(∀ s∈L,Zj s)/\q+8 * n<=pos+50/\st.tm 0=.pt (.u 1 0 0) 0/\st.hp (.u 1 0 0)=some (Zo bs q)/\st.tm 1=iv kind/\st.tm 6=.pt (.s 6) 0/\st.hp (.s 6)=some (.row 4 [[iv 0,iv 0,.hs (.c (.s 6) 0 2) 1 0 0,.hs (.c (.s 6) 0 3) 4 0 0]])/\st.hp (.c (.s 6) 0 2)=some (.row 1 [])/\st.hp (.c (.s 6) 0 3)=some (.row 4 []) /\
  st.tm 7=.pt (.s 7) 0/\st.hp (.s 7)=some (.row 4 [[iv kind,iv parent,.hs (.c (.s 7) 0 2) 1 0 ps.length,.hs (.c (.s 7) 0 3) 4 0 L.length]])/\st.hp (.c (.s 7) 0 2)=some (.row 1 (qS ps))/\st.hp (.c (.s 7) 0 3)=some (.row 4 (jI L))/\st.tm 8=iv n) V ?_ ?_
  .exact⟨[],q+1,qB,qB,qA,qu,qB,qz,zL,va,rU,rY,yW,co,by simp [hp72],by simp [hp73],qB⟩
  clear h0 hU h1 h6 hp6 hp62 hp63 h7 hp7 hp72 hp73 h23 h24 hp24;rintro n st - - ⟨L,q,hL,hLT,hq,h0,hU,h1,h6,hp6,hp62,hp63,h7,hp7,hp72,hp73,h8⟩;refine jz ?_<| h8;rcases iR n with rfl|hn0
  .have hL5:L.length<=5:=qA
   cases hkk:(kind==1)
   .skip
    refine jz ?_<|kG h0 h1 h6 hp6 h7 hp7<|hkk;exact qE [(.s 7,root)] (.one rfl) sA ⟨⟨kind,parent,ps,L⟩,q,qB,by simp [hp72,hr0],by simp [hp73,hr0],⟨rfl,rfl,hps,qv,qA,hLT,hpT⟩,zo⟩
   .skip
    refine jz ?_<|kG h0 h1 h6 hp6 h7 hp7<|hkk
    first|show qO _ _ _ _ _|intro K hK
    refine l7 (hs:=zo) (ha:=iG) (hF:=un _ _ bs q 2 hb qA qA zo) (h:=?_);rintro x px ⟨hx,rfl⟩;have hx0:x=0\/¬ x=0:=qA;rcases hx0 with rfl|hx0
    .skip
     refine jz ?_<|ko h0 h1 h6 hp6 h7 hp7 hp73<|hkk
     first|show qO _ _ _ _ _|intro K hK
     refine bG (bN _) 48 [0,1,4,5] (bs:=bs) (pos:=q+1) hb qA (hV:=hV) (h0:=qu) (h1:=qB) (hH:=qB) (hL:=zU) (h:=?_);intro v2 hv2;have hv2R:0<=v2/\v2<=99:=by simp at hv2;omega
     refine jz ?_<|ko h0 h1 h6 hp6 h7 hp7 hp73<|hkk;exact qE [(.s 7,root)] (.one rfl) sA ⟨⟨kind,parent,ps,L++[⟨8,0,v2,0⟩]⟩,q+1+1,qB,by simp [hp72,hr0],by show _=some (AO.row 4 (jI (L++[⟨8,0,v2,0⟩])));rw [<- wm];simp [hp73,hr0],⟨rfl,rfl,hps,qv,qA,oV hLT txS,hpT⟩,zo⟩
    .skip
     refine jz ?_<|er h0 h1 h6 hp6 h7 hp7 hp73 hkk<|hx0;exact qE [(.s 7,root)] (.one rfl) sA ⟨⟨kind,parent,ps,L⟩,q+1,qB,by simp [hp72,hr0],by simp [hp73,hr0],⟨rfl,rfl,hps,qv,qA,hLT,hpT⟩,zo⟩
  .have hL5:L.length<=4:=qA;refine jz ?_<|kH h0 h1 h7 hp7 hp73<|hn0
   first|show qO _ _ _ _ _|intro K hK
   refine l7 (hs:=zo) (ha:=by first|(simp [h0,h1];done)|(simp [h0,h1];rfl)) (hF:=EY _ _ bs q kind hb qA zo qB) (h:=?_);rintro s p2 ⟨⟨hp2a,hp2b⟩,hsT⟩;refine jz ?_<|kG h0 h1 h7 hp7 hp73 h8<|hn0;refine⟨n - 1,qA,L++[s],p2,qv,oV hLT hsT,qA,qu,qB,qz,zL,va,rU,rY,yW,co,by simp [hp72],by rw [<- wm];simp [hp73],?_⟩;simp;rw [Yi qA qA];omega
def Sz (bs:List Int) (Q:List Y5->Nat->Prop):Nm->AV->(Nm->Option AO)->Prop:=λr z H'=>∃ (L:List Y5) (pos':Nat),z=.hs r 4 0 L.length/\H' r=some (.row 4 (jI L))/\Q L pos'/\H' (.u 1 0 0)=some (Zo bs pos')
theorem pG (gl) (H:Nm->Option AO) (bs:List Int) (pos:Nat) (kind parent b:Int) (np nb:Nat) (hbr:0<=b/\b<=99) (hb:ZL bs) (hpos:pos<=800000) (hH:H (.u 1 0 0)=some (Zo bs pos)) (hV:H (.u 2 0 0)=none) :
  Yc prog gl 169 (Nm.under (.u 1 0 0)) [.pt (.u 1 0 0) 0,.agg [iv kind,iv parent,.hs (.u 4 0 0) 1 0 np,.hs (.u 5 0 0) 4 0 nb],iv b] H (Sz bs (λL pos'=>L.length<=2/\pos'<=pos+5/\∀ s∈L,Zj s)) Yz:=by
 refine Yc.Yb func169 [.tmp 6] ntmps169 (λ_=>qZ rfl) λC w g root hroot=>?_;have hr0:=hroot root (Nm.Y0 _)
 cases hk2:(kind==2)
 rotate_left
 .skip
  refine qD ?_<| hk2;exact qE [(.s 6,root)] (.one rfl) qF ⟨[⟨4,6,b,0⟩],pos,qB,Ar,⟨qB,qA,Vp txS⟩,jU⟩
 refine qD ?_<| hk2
 first|show qO _ _ _ _ _|intro K hK
 refine bG (bN _) 17 [4,5] (bs:=bs) (pos:=pos) hb qA (hV:=hV) (h0:=qB) (h1:=qB) (hH:=jU) (hL:=zU) (h:=?_);intro f hf;have hfR:0<=f/\f<=99:=by simp at hf;omega
 refine qD ?_<|Ya
 first|show qO _ _ _ _ _|intro K hK
 refine l7 (hs:=qB) (ha:=yK) (hF:=un _ _ bs (pos+1) 3 hb qA qA qB) (h:=?_);rintro x px ⟨hx,rfl⟩;have hx0:x=0\/¬ x=0:=qA;rcases hx0 with rfl|hx0
 .skip
  refine qD ?_<|Ya;exact qE [(.s 6,root)] (.one rfl) qF ⟨[⟨3,f,b,0⟩],pos+1+1,qB,Ar,⟨qB,qA,Vp txS⟩,qB⟩
 have hxp:0<x:=qA
 cases hn1:((np:Int)==1)
 .skip
  refine qD ?_<|aI hxp<|hn1
  first|show qO _ _ _ _ _|intro K hK
  refine bG (bN _) 34 [0,1,5] (bs:=bs) (pos:=pos+1+1) hb qA (hV:=hV) (h0:=qB) (h1:=qB) (hH:=qB) (hL:=zU) (h:=?_);intro v hv;have hvR:0<=v/\v<=99:=lV;refine qD ?_<|Ya;exact qE [(.s 6,root)] (.one rfl) qF ⟨[⟨3,f,b,0⟩,⟨5,v,f,-1⟩],pos+1+1+1,qB,Ar,⟨qB,qA,Xm txS txS⟩,qB⟩
 .skip
  refine qD ?_<|aI hxp<|hn1
  first|show qO _ _ _ _ _|intro K hK
  refine l7 (hs:=qB) (ha:=yK) (hF:=uX _ _ bs (pos+1+1) hb qA qB qB) (h:=?_);rintro u pu ⟨huR,rfl⟩;refine qD ?_<|Ya
  first|show qO _ _ _ _ _|intro K hK
  refine bG (bN _) 34 [0,1,5] (bs:=bs) (pos:=pos+1+1+1) hb qA (hV:=hV) (h0:=qB) (h1:=qB) (hH:=qB) (hL:=zU) (h:=?_);intro v hv;have hvR:0<=v/\v<=99:=lV;refine qD ?_<|Ya;exact qE [(.s 6,root)] (.one rfl) qF ⟨[⟨3,f,b,0⟩,⟨5,v,f,u⟩],pos+1+1+1+1,qB,Ar,⟨qB,qA,Xm txS txS⟩,qB⟩
end Go.Proofs.YtdnebaieamppbaaGreatDoor
end
