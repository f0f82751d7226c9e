import Derived.Test.YtjgpejikjhojcaaGreatDoorD30
import Derived.Test.YtjgpejikjhojcaaGreatDoorD27
set_option linter.all false
set_option maxRecDepth 100000
set_option maxHeartbeats 4000000
open Option renaming some->Z,none->Y
open Bool renaming true->B,false->M
open List renaming length->O

section
namespace Go.Proofs.YtjgpejikjhojcaaGreatDoor
open Go Go.Hm Go.Proofs Tryz
variable{p:qC}
def EC(h:j2 p=B):jm p:=by
 simp only[j2,yF]at h;obtain⟨h1,h2,h3,h4,_⟩:=Bx h.1
 have key:∀(i:Nat)k,p[i]?=Z k->ul i k/\O k.body<=12/\k.body.all (zp p i k)=B:=λi k hk=>
  C3 hk (yn.1 h4 i (ix.2 (gS hk).1))
 refine⟨qA,λk hk=>?_,λk hk=>?_⟩
 all_goals
  obtain⟨i,hi⟩:=ko hk;obtain⟨h0,hb,_⟩:=key i k hi
 .unfold ul at h0
  split at h0
  .obtain⟨_,_,h⟩:=h0;omega
  .obtain⟨_,_,_,h,_⟩:=h0;omega
 .omega
attribute [local simp] kM
def R5(w:World):(Instr.build 34 #[]).run prog w=.ok (.agg #[.slice Y 0 0]) w:=qc
def qC0(b:Nat)(w:World):(Instr.storeAt 34 (.pointer (Z ⟨b,0,Y⟩)) (.agg #[.slice Y 0 0])).run prog w=(Instr.storeAt 32 (.pointer (Z ⟨b,0,Y⟩)) (.slice Y 0 0)).run prog w:=qc
theorem Xq(b1 b2:Nat)(w:World):CallsD prog 35 #[.pointer (Z ⟨b1,0,Y⟩),.pointer (Z ⟨b2,0,Y⟩)] .returning w λe u' w'=>e=.returned (.tuple #[])/\u'=.returning/\w'=w:=by
 refine callsD_of_wpS func35 rfl λc₀ cs hu=>?_;apply wpS_seq;apply wpS_region;simp[wpOpsS,go_sem,recoverD,hu,ntmps35,Exit.thenS];refine wpS_cond (t:=M) (by simp[Go.Act.eval,Array.replicate]) ?_;simp only[aF,if_false];refine wpS_of_wp (wp_skip ?_)
 cases c₀
 simp_all[bodyPostS,results,Tryz.results35]
def Xp(b1 b2:Nat)(ty:TypeId)(pv:Value)(w w1 w2:World)(r1:(Instr.storeAt 32 (.pointer (Z ⟨b1,0,Y⟩)) (.slice Y 0 0)).run prog w=.ok () w1)(r2:(Instr.storeAt 4 (.pointer (Z ⟨b2,0,Y⟩)) (.bool M)).run prog w1=.ok () w2):
  CallsD prog 35 #[.pointer (Z ⟨b1,0,Y⟩),.pointer (Z ⟨b2,0,Y⟩)] (.panicking [{v:=.iface ty pv,recovered:=M}]) w λe u' w'=>e=.returned (.tuple #[])/\u'=.panicking [{v:=.iface ty pv,recovered:=B}]/\w'=w2:=by
 rw[<- qC0]at r1;refine callsD_of_wpS func35 rfl λc₀ cs hu=>?_;apply wpS_seq;apply wpS_region;simp[wpOpsS,go_sem,recoverD,hu,ntmps35,Exit.thenS];refine wpS_cond (t:=B) (by simp[Go.Act.eval,Array.replicate]) ?_;simp only[if_true];apply wpS_region
 show wpOpsS _ _ _ [0,1,2] _ _ _
 simp[wpOpsS,Region.wanted,Oper.upon,Go.Act.put,execOp,R5,Go.Act.eval,Array.replicate,r1,r2,bodyPostS,results,Tryz.results35]
def X7{s:qZ}:vo s=match nI s with|some p=>if j2 p=B then Z p else Y|none=>Y:=by
 rw[<- X6];unfold HX nI
 split<;>rfl
def eS.bc(h:eS p 1048575):jm p:=
 ⟨by have:=h.len;omega,λk hk=>Fs,λk hk=>Fs⟩
def Q6(gl){m:Int}(hgm:gl 3=Z [.sc (.int .i64 m)])(hgs:gl 1=Z ((eP ye).map AV.sc))(s:qZ)(hs:O s<=1048576):
  qL prog gl 14 [tx s] (λr y H'=>∃p,y=.zT [.agg [.hs r 4 0 (O p)],bv (vo s).isSome]/\uz H' r p/\p=(vo s).getD []):=by
 have hro:=ψ gl hgm hgs s hs;have hprd:=X7 (s:=s);refine qX.Wx (t:=5) (F:=35) (s1:=2) (s2:=3) (T1:=32) (T2:=4) (v1:=.slice Y 0 0) (v2:=.bool M) (n1:=.s 2) (n2:=.s 3) (o1:=⟨Y,.store 32 (.tmp 2) (.const (.slice Y 0 0)),0, "",#[],Y⟩) (o2:=⟨Y,.store 4 (.tmp 3) (.const (.bool M)),0, "",#[],Y⟩) func14 rfl qc (rs:=[.cell 2 34,.cell 3 4]) rfl ntmps14 (lB rfl) (λ_ h=>kv) ⟨_,func35,qc,rfl⟩ rfl rfl rfl rfl Xq Xp λC w g root hroot a w' hR=>?_
 refine qDu ?_ hR;clear hR;refine qH ?_<|qW
 show ∀a w,Rw _ _ a w->_
 intro a w' hR;refine qDs (ats:=#[]) (l1:=[_]) (l2:=[]) rfl ?_ ?_ ?_ qB ?_ hR
 .rfl
 .rfl
 .rfl
 clear hR;have fx:=qW;refine kh ?_;refine wc (h:=?_);clear fx
 show _/\_
 refine⟨⟨_,_,_,by simp;exact⟨rfl,rfl,rfl⟩⟩,?_⟩
 show cU _ _ _ _ _
 refine CK (Ed qB λK hK=>?_);have fx:=qW;refine kh ?_;refine wc (h:=?_);clear fx;refine kh ?_;refine qEW (ha:=Cp) (hF:=hro) (hE:=λx H' hx hq=>?_) (h:=?_)
 .refine⟨qB,qB,qB,hx,?_⟩;refine qH ?_<|qW;refine⟨[(.c (.s 2) 0 0,root)],_,.one rfl,qD,[],?_,⟨?_,λj r hj=>sx,λj r hj=>sx⟩,?_⟩
  .simp [hprd,hq]
  .simp
  .simp [hprd,hq]
 .rintro y H' ⟨p,hp,rfl,⟨ho1,ho2,ho3⟩,hG⟩;rw[hp]at hprd;have hvp:=df gl p hG.bc;refine qH ?_<|aI ho1 ho1;refine CK (CK (Ed qB λK hK=>?_))
  cases hv:j2 p
  .rw [hv]at hvp;have fx:=aI ho1 ho1;have c1:=hvp;refine qK ?_;clear fx c1;refine Pm (b:=B) Cp (λ_=>?_) (λh=>kv);refine CK (Ed qB λK hK=>?_);refine qH ?_<|aI ho1 ho1;refine Pn ?_;refine bE ?_;refine⟨qB,[(.c (.s 2) 0 0,root)],_,.one rfl,qD,[],?_,⟨?_,λj r hj=>sx,λj r hj=>sx⟩,?_⟩
   .simp [hprd,hv]
   .simp
   .simp [hprd,hv]
  .rw [hv]at hvp;have fx:=aI ho1 ho1;have c1:=hvp;refine qK ?_;clear fx c1;refine Pm (b:=M) Cp (λh=>kv) (λ_=>?_);refine qEB ?_;have fx:=aI ho1 ho1;refine wK ?_;refine CK (Ed qB λK hK=>?_);refine qK ?_;clear fx;refine Pn ?_;refine⟨qB,[(.c (.s 4) 0 0,root)],_,.one rfl,qD,p,?_,⟨?_,λj r hj=>?_,λj r hj=>?_⟩,?_⟩
   .simp [hprd,hv]
   .simp [ho1,wV (n:=.c (.s 4) 0 0) (m:=root) (f:=zH zl [(.c (.s 4) 0 0,root)]) (p:=p) qB]
   .simp [ho2 j r hj]
   .simp [ho3 j r hj]
   .simp [hprd,hv]
end Go.Proofs.YtjgpejikjhojcaaGreatDoor
end
section

end
section

end
section
namespace Go.Proofs.YtjgpejikjhojcaaGreatDoor
open Go Go.Hm Go.Proofs Tryz
variable{A G G2:Prop}{x y:Int}
abbrev Xy:qV:=.q 0<|.q 1<|.q 2<|.q 3<|.q 4<|.q 5<|.q 6<|.q 7<|.q 8<|.q 9<|.q 10<|.q 11<|.q 12<|.q 13<|.q 14<|.q 15<|.q 16<|.q 17<|.q 18<|.q 19<|.q 20<|.q 21<|.q 22<|.q 23<|.q 24<|.q 25<|.q 26<|.q 27<|.q 28<|.q 29<|.q 30<|.q 31<|.q 32<|.q 33<|.q 34<|.q 35<|.q 36<|.q 37<|.q 38<|.q 39<|.q 40<|.q 41<|.q 42<|.q 43<|.q 44<|.l 45 []<|.done
def E7{v:Int}{n:Nat}(hv:0<=v)(hn:0<n):∃k:Nat,v.tmod n=k/\k<n:=by
 have h1:=AY n hv;have h2:=AZ v (show(0:Int)<n by omega);exact⟨(v.tmod n).toNat,qA,qA⟩
def qEY(hx:0<=x/\x<=1000000000000)(hy:0<=y/\y<=1000000000000):∃r:Nat,IntKind.i64.wrap (((x%2 ^ IntKind.i64.bits).toNat ^^^ (y%2 ^ IntKind.i64.bits).toNat:Nat):Int)=r:=by
 have e:∀z:Int,0<=z/\z<=1000000000000->(z%2 ^ IntKind.i64.bits).toNat<2 ^ 40:=by
  intro z hz;simp only[show IntKind.i64.bits=64 from rfl];omega
 have h:=Nat.xor_lt_two_pow (e x hx) (e y hy);exact⟨_,qk qA qA⟩
@[simp]theorem int_xorv{k:IntKind}:cG k .xor x y=Z (.sc (.int k (k.wrap ((BitVec.ofInt k.bits x ^^^ BitVec.ofInt k.bits y).toNat:Int)))):=rfl
def Df(k:G2)(x:A)(h:A->jH G2->G:=by
 intro fx kk;refine qK ?_
 repeat((first|refine qP (id:=7) Xy mixed ?_);refine zC ?_;refine qK ?_)
 exact kk.h):G:=h x ⟨k⟩
def HZ(gl)(H:Nm->Option AO)(bs:List Int)(pos n:Nat)(hb:ab bs)(hpos:pos<=1000000)(hn:n<=1000000)(hH:H (.u 1 0 0)=Z (jT bs pos)):
  qX prog gl 26 (Nm.under (.u 1 0 0)) [.pt (.u 1 0 0) 0,iv n] H (λ_ z H'=>∃k:Nat,z=iv k/\(k=0\/k<n)/\H' (.u 1 0 0)=Z (jT bs (pos+1))) qw:=by
 have w1:IntKind.i64.wrap ((pos:Int)+1)=pos+1:=qk qA qA;have w0:IntKind.i64.wrap (pos:Int)=pos:=qk qA qA;have qv:=hb.len;refine qX.q9 func26 [.tmp 4] ntmps26 (λ_=>y8 rfl) λC w g root hroot=>?_;rcases fN n with rfl|hn0
 .skip
  refine Df ?_<|aI hH<|w1;refine qE [] .nil qD ⟨0,qB,.inl rfl,zo⟩
 have hn1:¬(n:Int)<1:=qA;rcases fN (O bs)with hl0|hl
 .skip
  refine Df ?_<|qz hH w1 hn1<|hl0;refine qE [] .nil qD ⟨0,qB,.inl rfl,zo⟩
 have hl1:((O bs:Int)==0)=M:=kQ;have hn2:¬n=0:=qA;by_cases hpl:pos<O bs
 .obtain⟨v,hv⟩:=gX hpl;obtain⟨_,hvE⟩:=gS hv;have hvr:=hb.Bk v (gM hv);obtain⟨k,hk,hkn⟩:=E7 hvr.1 hn0;have wv:IntKind.i64.wrap v=v:=qk qA qA;refine Df ?_<|jU hH w1 w0 hn1 hl1 hpl hv hvE hn2 hk<|wv;refine qE [] .nil qD ⟨k,qB,.inr hkn,zo⟩
 have hbl0:¬O bs=0:=qA;obtain⟨i1,hi1,hi1l⟩:=E7 (v:=(pos:Int)) qA hl;obtain⟨i2,hi2,hi2l⟩:=E7 (v:=(pos:Int) * 7+3) qA hl;obtain⟨b1,hb1⟩:=gX hi1l;obtain⟨b2,hb2⟩:=gX hi2l;obtain⟨_,hb1E⟩:=gS hb1;obtain⟨_,hb2E⟩:=gS hb2;have hr1:=hb.Bk b1 (gM hb1);have hr2:=hb.Bk b2 (gM hb2);have wb1:IntKind.i64.wrap b1=b1:=qk qA qA;have wb2:IntKind.i64.wrap b2=b2:=qk qA qA;have w7:IntKind.i64.wrap ((pos:Int)*7)=pos*7:=qk qA qA;have w73:IntKind.i64.wrap ((pos:Int)*7+3)=pos*7+3:=qk qA qA;obtain⟨q,hq,hql⟩:∃q:Nat,(pos:Int)/(O bs:Int)=q/\q<=pos:=⟨pos/O bs,qB,Nat.div_le_self _ _⟩;have wq:IntKind.i64.wrap (q:Int)=q:=qk qA qA;have w131:IntKind.i64.wrap (b1*131)=b1*131:=qk qA qA;have w1117:IntKind.i64.wrap (b2*1117)=b2*1117:=qk qA qA;have wa:IntKind.i64.wrap (b1*131+b2*1117)=b1*131+b2*1117:=qk qA qA;have w29:IntKind.i64.wrap ((pos:Int)*29)=pos*29:=qk qA qA;have wb:IntKind.i64.wrap (b1*131+b2*1117+pos*29)=b1*131+b2*1117+pos*29:=qk qA qA;have w53:IntKind.i64.wrap ((q:Int)*53)=q*53:=qk qA qA;obtain⟨X,hX⟩:∃X,X=b1 * 131+b2 * 1117+pos * 29+q * 53:=⟨_,rfl⟩;have wX:IntKind.i64.wrap (b1*131+b2*1117+pos*29+q*53)=X:=by rw[hX];exact qk qA qA
 obtain⟨Y',hY,hYr⟩:∃Y',X.tdiv 64=Y'/\0<=Y'/\Y'<=X:=by
  refine⟨_,rfl,Int.tdiv_nonneg qA qf,?_⟩;exact Int.tdiv_le_self _ qA
 have wY:IntKind.i64.wrap Y'=Y':=qk qA qA;obtain⟨r,hr⟩:=qEY (x:=X) (y:=Y') qA qA;obtain⟨k,hk,hkn⟩:=E7 (v:=(r:Int)) qA hn0;refine Df ?_<|qg hH w1 w0 hn1 hl1 hpl hi1 hi2 hi1l hi2l hb1 hb2<|qg hb1E hb2E wb1 wb2 w7 w73 hbl0 hq wq w131 w1117 wa<|y9 w29 wb w53 wX hY wY hr hn2<|hk;refine qE [] .nil qD ⟨k,qB,.inr hkn,zo⟩
def XF(gl)(H:Nm->Option AO)(bs:List Int)(pos:Nat)(xs:List Int)(hb:ab bs)(hpos:pos<=1000000)(hx:0<O xs/\O xs<=1000)(hH:H (.u 1 0 0)=Z (jT bs pos))(hL:H (.u 2 0 0)=Z (.row 1 (qh xs))):
  qX prog gl 25 zP [.pt (.u 1 0 0) 0,.hs (.u 2 0 0) 1 0 (O xs)] H (λ_ z H'=>∃v,z=iv v/\v∈xs/\H' (.u 1 0 0)=Z (jT bs (pos+1))) qw:=by
 have hxl:=hx.2;refine qX.q9 func25 [.tmp 4] ntmps25 (λ_=>vF) λC w g root hroot=>?_
 all_goals have fx:=qW
 repeat'(first|refine zf ?_|refine λ(K:St->Prop)hK=>?_)
 all_goals try clear fx
 have fx:=hxl;refine uT (.u 1 0 0) rfl zo (hF:=HZ _ _ bs pos (O xs) hb hpos qA zo) (h:=?_);rintro z H1 ⟨k,rfl,hk,hk1⟩;have jN:k<O xs:=qA;obtain⟨v,hv⟩:=gX jN;obtain⟨_,hvE⟩:=gS hv;clear fx;refine qH ?_<|qz hL jN hv<|hvE;refine qE [] .nil qD ⟨v,qB,gM hv,by simp[hk1]⟩
def b7(gl):JV prog gl 25:=λH bs pos xs hb hp hx hH hL=>XF gl H bs pos xs hb hp hx hH hL
def Qc(gl)(H:Nm->Option AO)(bs:List Int)(pos:Nat)(hb:ab bs)(hpos:pos<=1000000)(hH:H (.u 1 0 0)=Z (jT bs pos))(hV:H (.u 2 0 0)=Y):
  qX prog gl 189 (Nm.under (.u 1 0 0)) [.pt (.u 1 0 0) 0] H (λ_ z H'=>∃v,z=iv v/\(0<=v/\v<=7)/\H' (.u 1 0 0)=Z (jT bs (pos+1))) qw:=by
 refine qX.q9 func189 [.tmp 2] ntmps189 (λ_=>y8 rfl) λC w g root hroot=>?_;refine qH ?_<|qW
 first|show qe _ _ _ _ _|intro K hK
 refine bj (b7 _) 4 [0,1,2,0,1,3,7] hb hpos (hV:=hV) (h0:=qB) (h1:=qB) (hH:=zo) (hL:=y3) (h:=?_);intro v hv;have hvR:0<=v/\v<=7:=mO;refine qH ?_<|qW;refine qE [] .nil qD ⟨v,qB,hvR,qB⟩
def dz(gl)(H:Nm->Option AO)(bs:List Int)(pos n:Nat)(hb:ab bs)(hpos:pos<=1000000)(hn:n<=1000000)(hH:H (.u 1 0 0)=Z (jT bs pos)):
  qX prog gl 26 (Nm.under (.u 1 0 0)) [.pt (.u 1 0 0) 0,iv n] H (pi bs (λk:Nat=>iv k) (λk pos'=>(k=0\/k<n)/\pos'=pos+1)) qw:=
 qX.mono (HZ gl H bs pos n hb hpos hn hH) (λ_ _ _⟨k,h1,h2,h3⟩=>⟨k,pos+1,h1,⟨h2,rfl⟩,h3⟩) (λ_ _ _ h=>h)
def fH(gl)(H:Nm->Option AO)(bs:List Int)(pos:Nat)(hb:ab bs)(hpos:pos<=1000000)(hH:H (.u 1 0 0)=Z (jT bs pos))(hV:H (.u 2 0 0)=Y):
  qX prog gl 189 (Nm.under (.u 1 0 0)) [.pt (.u 1 0 0) 0] H (pi bs (λv:Int=>iv v) (λv pos'=>(0<=v/\v<=7)/\pos'=pos+1)) qw:=
 qX.mono (Qc gl H bs pos hb hpos hH hV) (λ_ _ _⟨v,h1,h2,h3⟩=>⟨v,pos+1,h1,⟨h2,rfl⟩,h3⟩) (λ_ _ _ h=>h)
abbrev Y9:qV:=xq<|.q 7<|.q 8<|.q 9<|.q 10<|.l 4 [10,9,8,7,3,2,1,0]<|.l 5 [10,9,8,7,2,1,0]<|.q 6<|.q 11<|.l 12 []<|.done
attribute [local simp] kM
def Wy(gl)(H:Nm->Option AO)(bs:List Int)(pos:Nat)(xs:List qZ)(hb:ab bs)(hpos:pos<=1000000)(hx:0<O xs/\O xs<=1000)(hH:H (.u 1 0 0)=Z (jT bs pos))(hL:H (.u 2 0 0)=Z (.row 1 (uJ xs))):
  qX prog gl 40 zP [.pt (.u 1 0 0) 0,.hs (.u 2 0 0) 1 0 (O xs)] H (λ_ z H'=>∃v,z=tx v/\v∈xs/\H' (.u 1 0 0)=Z (jT bs (pos+1))) qw:=by
 have hxl:=hx.2;refine qX.q9 func40 [.tmp 4] ntmps40 (λ_=>vF) λC w g root hroot=>?_;refine qH ?_<|qW
 first|show qe _ _ _ _ _|intro K hK
 have fx:=hxl;refine uT (.u 1 0 0) rfl zo (hF:=HZ _ _ bs pos (O xs) hb hpos qA zo) (h:=?_);rintro z H1 ⟨k,rfl,hk,hk1⟩;have jN:k<O xs:=qA;obtain⟨v,hv⟩:=gX jN;obtain⟨_,hvE⟩:=gS hv;clear fx;refine qH ?_<|qz hL jN hv<|hvE;refine qE [] .nil qD ⟨v,qB,gM hv,by simp[hk1]⟩
def Ds(gl):JU prog gl 40:=λH bs pos xs hb hp hx hH hL=>Wy gl H bs pos xs hb hp hx hH hL
def fj(k:G2)(x:A)(h:A->jH G2->G:=by
 intro fx kk;refine qK ?_
 repeat((first|refine qP (id:=6) Y9 mixed ?_);refine zC ?_;refine qK ?_)
 exact kk.h):G:=h x ⟨k⟩
def W0(gl)(H:Nm->Option AO)(bs:List Int)(pos:Nat)(v:qZ)(hv:O v<=900000)(hb:ab bs)(hpos:pos<=900000)(hH:H (.u 1 0 0)=Z (jT bs pos))(hV:H (.u 2 0 0)=Y):
  qX prog gl 59 (Nm.under (.u 1 0 0)) [.pt (.u 1 0 0) 0,tx v] H (pi bs (λu:qZ=>tx u) (λu pos'=>O u<=O v+1/\pos'<=pos+3)) qw:=by
 have hwl:IntKind.i64.wrap ((O v:Int)+1)=((O v+1:Nat):Int):=iB;refine qX.q9 func59 [.tmp 4] ntmps59 (λ_=>y8 rfl) λC w g root hroot=>?_;refine fj ?_<| hwl
 first|show qe _ _ _ _ _|intro K hK
 refine uU (hs:=zo) (ha:=uq) (hF:=dz _ _ bs pos (O v+1) hb qA qA zo) (h:=?_);rintro k pk ⟨hk,rfl⟩;have jN:k<=O v:=qA;clear hk;refine fj ?_<|qW;intro K hK;refine uU (hs:=qB) (ha:=uq) (hF:=dz _ _ bs (pos+1) 5 hb qA qA qB) (h:=?_);rintro c pc ⟨hc,rfl⟩;have hcc:c=0\/c=1\/c=2\/c=3\/c=4:=qA;clear hc;rcases hcc with rfl|rfl|rfl|rfl|rfl
 .by_cases hkv:k<O v
  .have hkv2:(k:Int)<(O v:Int):=qA;have hwk:IntKind.i64.wrap ((k:Int)+1)=(k:Int)+1:=qk qA qA;have hle1:(k:Int)+1<=(O v:Int):=qA;have hk0:(0:Int)<=(k:Int)+1:=qA;have htn:((k:Int)+1).toNat=k+1:=qA;have htk:(v.drop (k+1)).take (O v-(k+1))=v.drop (k+1):=jg qB;refine fj ?_<|jA jN hkv hkv2 hwk hle1 hk0 htn<|htk
   first|show qe _ _ _ _ _|intro K hK
   refine Eh (Ds _) 24 [[48],[49],[32],[45],[112],[10],[57]] (bs:=bs) (pos:=pos+1+1) hb qA (hV:=hV) (h0:=qB) (h1:=qB) (hH:=qB) (hL:=iC) (h:=?_);intro u hu
   have hul:O u=1:=by
    simp only[vV,si,or_false]at hu;rcases hu with rfl|rfl|rfl|rfl|rfl|rfl|rfl<;>rfl
   have hmn:min k (O v)=k:=qA;have hl1:∀c,2000000000<=c->k+O u<=c:=λc hc=>qA;have hl2:∀c,2000000000<=c->k+O u+(O v-(k+1))<=c:=λc hc=>qA;have hl3:∀c,2000000000<=c->k+(O u+(O v-(k+1)))<=c:=λc hc=>qA;refine fj ?_<|jU jN hkv hkv2 hwk hle1 hk0 htn htk hmn hl1<|aI hl2<|hl3;exact qE [] .nil qD ⟨v.take k++u++v.drop (k+1),pos+1+1+1,qB,⟨qp,qA⟩,qB⟩
  .have hkv2:¬(k:Int)<(O v:Int):=qA;refine fj ?_<|aI hkv<|hkv2;exact qE [] .nil qD ⟨v,pos+1+1,qB,⟨qA,qA⟩,qB⟩
 .by_cases hkv:k<O v
  .have hkv2:(k:Int)<(O v:Int):=qA;have hwk:IntKind.i64.wrap ((k:Int)+1)=(k:Int)+1:=qk qA qA;have hle1:(k:Int)+1<=(O v:Int):=qA;have hk0:(0:Int)<=(k:Int)+1:=qA;have htn:((k:Int)+1).toNat=k+1:=qA;have htk:(v.drop (k+1)).take (O v-(k+1))=v.drop (k+1):=jg qB;refine fj ?_<|jA jN hkv hkv2 hwk hle1 hk0 htn<|htk
   first|show qe _ _ _ _ _|intro K hK
   refine Eh (Ds _) 24 [[48],[49],[32],[45],[112],[10],[57]] (bs:=bs) (pos:=pos+1+1) hb qA (hV:=hV) (h0:=qB) (h1:=qB) (hH:=qB) (hL:=iC) (h:=?_);intro u hu
   have hul:O u=1:=by
    simp only[vV,si,or_false]at hu;rcases hu with rfl|rfl|rfl|rfl|rfl|rfl|rfl<;>rfl
   have hmn:min k (O v)=k:=qA;have hl1:∀c,2000000000<=c->k+O u<=c:=λc hc=>qA;have hl2:∀c,2000000000<=c->k+O u+(O v-(k+1))<=c:=λc hc=>qA;have hl3:∀c,2000000000<=c->k+(O u+(O v-(k+1)))<=c:=λc hc=>qA;refine fj ?_<|jU jN hkv hkv2 hwk hle1 hk0 htn htk hmn hl1<|aI hl2<|hl3;exact qE [] .nil qD ⟨v.take k++u++v.drop (k+1),pos+1+1+1,qB,⟨qp,qA⟩,qB⟩
  .have hkv2:¬(k:Int)<(O v:Int):=qA;refine fj ?_<|aI hkv<|hkv2;exact qE [] .nil qD ⟨v,pos+1+1,qB,⟨qA,qA⟩,qB⟩
 .have hkv2:(k:Int)<=(O v:Int):=qA;refine fj ?_<|aI jN<|hkv2;exact qE [] .nil qD ⟨v.take k,pos+1+1,qB,⟨qp,qA⟩,qB⟩
 .skip
  refine fj ?_<|qW
  first|show qe _ _ _ _ _|intro K hK
  refine Eh (Ds _) 41 [[48],[32],[10],[120]] (bs:=bs) (pos:=pos+1+1) hb qA (hV:=hV) (h0:=qB) (h1:=qB) (hH:=qB) (hL:=iC) (h:=?_);intro u hu
  have hul:O u=1:=by
   simp only[vV,si,or_false]at hu;rcases hu with rfl|rfl|rfl|rfl<;>rfl
  have hl1:∀c,2000000000<=c->O v+O u<=c:=λc hc=>qA;refine fj ?_<| hl1;exact qE [] .nil qD ⟨v++u,pos+1+1+1,qB,⟨qp,qA⟩,qB⟩
 .skip
  refine fj ?_<|qW;exact qE [] .nil qD ⟨v,pos+1+1,qB,⟨qA,qA⟩,qB⟩
end Go.Proofs.YtjgpejikjhojcaaGreatDoor
end
section

end
section

end
section

end
section

end
section
namespace Go.Proofs.YtjgpejikjhojcaaGreatDoor
open Go Go.Hm Go.Proofs Tryz
def qBi(gl)(H:Nm->Option AO)(bs:List Int)(pos:Nat)(kind:Int)(hb:ab bs)(hpos:pos<=900000)(hH:H (.u 1 0 0)=Z (jT bs pos))(hV:H (.u 2 0 0)=Y):
  qX prog gl 188 (Nm.under (.u 1 0 0)) [.pt (.u 1 0 0) 0,iv kind] H (pi bs (λs:qT=>s.av) (λs pos'=>(pos<=pos'/\pos'<=pos+8)/\vb s)) qw:=by
 refine qX.q9 func188 [.cell 4 87] ntmps188 (λ_=>y8 rfl) λC w g root hroot=>?_;refine qH ?_<|qW
 first|show qe _ _ _ _ _|intro K hK
 refine bj (b7 _) 7 [0,1,2,0,1,3] (bs:=bs) (pos:=pos) hb qA (hV:=hV) (h0:=qB) (h1:=qB) (hH:=zo) (hL:=y3) (h:=?_);intro to hto;have htoR:0<=to/\to<=99:=by simp at hto;omega
 refine qH ?_<|qW
 first|show qe _ _ _ _ _|intro K hK
 refine uU (hs:=qB) (ha:=uq) (hF:=dz _ _ bs (pos+1) 12 hb qA qA qB) (h:=?_);rintro k pk ⟨hk,rfl⟩;have hk12:k<12:=qA;have hkc:k=0\/k=1\/k=2\/k=3\/k=4\/k=5\/k=6\/k=7\/k=8\/k=9\/k=10\/k=11:=qA;clear hk hk12;rcases hkc with rfl|rfl|rfl|rfl|rfl|rfl|rfl|rfl|rfl|rfl|rfl|rfl
 .skip
  refine qH ?_<|qW
  first|show qe _ _ _ _ _|intro K hK
  refine uU (hs:=qB) (ha:=uq) (hF:=dz _ _ bs (pos+1+1) 20 hb qA qA qB) (h:=?_);rintro x px ⟨hx,rfl⟩;refine qH ?_<|qW
  first|show qe _ _ _ _ _|intro K hK
  refine bj (b7 _) 19 [(x:Int),99,5] (bs:=bs) (pos:=pos+1+1+1) hb qA (hV:=hV) (h0:=qB) (h1:=qB) (hH:=qB) (hL:=y3) (h:=?_);intro v hv;have hvR:0<=v/\v<=99:=mO;refine qH ?_<|qW;exact qE [] .nil qD ⟨⟨0,to,v,0⟩,pos+1+1+1+1,qB,⟨qA,w6⟩,qB⟩
 .skip
  refine qH ?_<|qW
  first|show qe _ _ _ _ _|intro K hK
  refine uU (hs:=qB) (ha:=uq) (hF:=dz _ _ bs (pos+1+1) 20 hb qA qA qB) (h:=?_);rintro x px ⟨hx,rfl⟩;refine qH ?_<|qW
  first|show qe _ _ _ _ _|intro K hK
  refine bj (b7 _) 19 [(x:Int),99,5] (bs:=bs) (pos:=pos+1+1+1) hb qA (hV:=hV) (h0:=qB) (h1:=qB) (hH:=qB) (hL:=y3) (h:=?_);intro v hv;have hvR:0<=v/\v<=99:=mO;refine qH ?_<|qW;exact qE [] .nil qD ⟨⟨0,to,v,0⟩,pos+1+1+1+1,qB,⟨qA,w6⟩,qB⟩
 .skip
  refine qH ?_<|qW
  first|show qe _ _ _ _ _|intro K hK
  refine uU (hs:=qB) (ha:=uq) (hF:=dz _ _ bs (pos+1+1) 20 hb qA qA qB) (h:=?_);rintro x px ⟨hx,rfl⟩;refine qH ?_<|qW
  first|show qe _ _ _ _ _|intro K hK
  refine bj (b7 _) 19 [(x:Int),99,5] (bs:=bs) (pos:=pos+1+1+1) hb qA (hV:=hV) (h0:=qB) (h1:=qB) (hH:=qB) (hL:=y3) (h:=?_);intro v hv;have hvR:0<=v/\v<=99:=mO;refine qH ?_<|qW;exact qE [] .nil qD ⟨⟨0,to,v,0⟩,pos+1+1+1+1,qB,⟨qA,w6⟩,qB⟩
 .skip
  refine qH ?_<|qW
  first|show qe _ _ _ _ _|intro K hK
  refine uU (hs:=qB) (ha:=uq) (hF:=fH _ _ bs (pos+1+1) hb qA qB qB) (h:=?_);rintro v pv ⟨hvR,rfl⟩;refine qH ?_<|qW;exact qE [] .nil qD ⟨⟨1,to,v,0⟩,pos+1+1+1,qB,⟨qA,w6⟩,qB⟩
 .skip
  refine qH ?_<|qW
  first|show qe _ _ _ _ _|intro K hK
  refine uU (hs:=qB) (ha:=uq) (hF:=fH _ _ bs (pos+1+1) hb qA qB qB) (h:=?_);rintro v pv ⟨hvR,rfl⟩;refine qH ?_<|qW
  first|show qe _ _ _ _ _|intro K hK
  refine uU (hs:=qB) (ha:=uq) (hF:=fH _ _ bs (pos+1+1+1) hb qA qB qB) (h:=?_);rintro w pw ⟨hwR,rfl⟩;refine qH ?_<|qW;exact qE [] .nil qD ⟨⟨2,to,v,w⟩,pos+1+1+1+1,qB,⟨qA,w6⟩,qB⟩
 .skip
  refine qH ?_<|qW
  first|show qe _ _ _ _ _|intro K hK
  refine uU (hs:=qB) (ha:=uq) (hF:=fH _ _ bs (pos+1+1) hb qA qB qB) (h:=?_);rintro v pv ⟨hvR,rfl⟩;refine qH ?_<|qW;exact qE [] .nil qD ⟨⟨7,0,v,0⟩,pos+1+1+1,qB,⟨qA,w6⟩,qB⟩
 .skip
  refine qH ?_<|qW
  first|show qe _ _ _ _ _|intro K hK
  refine uU (hs:=qB) (ha:=uq) (hF:=fH _ _ bs (pos+1+1) hb qA qB qB) (h:=?_);rintro v pv ⟨hvR,rfl⟩;refine qH ?_<|qW;exact qE [] .nil qD ⟨⟨7,0,v,0⟩,pos+1+1+1,qB,⟨qA,w6⟩,qB⟩
 .skip
  refine qH ?_<|qW
  first|show qe _ _ _ _ _|intro K hK
  refine uU (hs:=qB) (ha:=uq) (hF:=fH _ _ bs (pos+1+1) hb qA qB qB) (h:=?_);rintro v pv ⟨hvR,rfl⟩;refine qH ?_<|qW
  first|show qe _ _ _ _ _|intro K hK
  refine bj (b7 _) 48 [4,5,v] (bs:=bs) (pos:=pos+1+1+1) hb qA (hV:=hV) (h0:=qB) (h1:=qB) (hH:=qB) (hL:=y3) (h:=?_);intro x hx;have hxR:0<=x/\x<=99:=by simp at hx;omega
  refine qH ?_<|qW
  first|show qe _ _ _ _ _|intro K hK
  refine uU (hs:=qB) (ha:=uq) (hF:=fH _ _ bs (pos+1+1+1+1) hb qA qB qB) (h:=?_);rintro u pu ⟨huR,rfl⟩;refine qH ?_<|qW
  first|show qe _ _ _ _ _|intro K hK
  refine bj (b7 _) 53 [-1,-1,u] (bs:=bs) (pos:=pos+1+1+1+1+1) hb qA (hV:=hV) (h0:=qB) (h1:=qB) (hH:=qB) (hL:=y3) (h:=?_);intro y hy;have hyR:(0<=y/\y<=99)\/y=-1:=by simp at hy;omega
  refine qH ?_<|qW;exact qE [] .nil qD ⟨⟨5,to,x,y⟩,pos+1+1+1+1+1+1,qB,⟨qA,w6⟩,qB⟩
 .skip
  refine qH ?_<|qW
  first|show qe _ _ _ _ _|intro K hK
  refine uU (hs:=qB) (ha:=uq) (hF:=fH _ _ bs (pos+1+1) hb qA qB qB) (h:=?_);rintro v pv ⟨hvR,rfl⟩;refine qH ?_<|qW;exact qE [] .nil qD ⟨⟨6,to,6,v⟩,pos+1+1+1,qB,⟨qA,w6⟩,qB⟩
 .by_cases hk0:kind=0
  .subst hk0;refine qH ?_<|qW
   first|show qe _ _ _ _ _|intro K hK
   refine uU (hs:=qB) (ha:=uq) (hF:=fH _ _ bs (pos+1+1) hb qA qB qB) (h:=?_);rintro v pv ⟨hvR,rfl⟩;refine qH ?_<|qW;exact qE [] .nil qD ⟨⟨7,0,v,0⟩,pos+1+1+1,qB,⟨qA,w6⟩,qB⟩
  .have hkn:(kind != 0)=B:=by simp[hk0]
   refine qH ?_<|aI hk0<|hkn
   first|show qe _ _ _ _ _|intro K hK
   refine bj (b7 _) 67 [9,10,10] (bs:=bs) (pos:=pos+1+1) hb qA (hV:=hV) (h0:=qB) (h1:=qB) (hH:=qB) (hL:=y3) (h:=?_);intro v hv;have hvR:9<=v/\v<=10:=mO;refine qH ?_<|qW;exact qE [] .nil qD ⟨⟨v,to,0,0⟩,pos+1+1+1,qB,⟨qA,w6⟩,qB⟩
 .skip
  refine qH ?_<|qW
  first|show qe _ _ _ _ _|intro K hK
  refine uU (hs:=qB) (ha:=uq) (hF:=dz _ _ bs (pos+1+1) 3 hb qA qA qB) (h:=?_);rintro x px ⟨hx,rfl⟩;rcases fN x with rfl|hx0
  .skip
   refine qH ?_<|qW;exact qE [] .nil qD ⟨⟨11,to,0,0⟩,pos+1+1+1,qB,⟨qA,w6⟩,qB⟩
  .have hxn:((x:Int)==0)=M:=kQ;have hxn2:¬x=0:=qA;refine qH ?_<|aI hxn<|hxn2
   first|show qe _ _ _ _ _|intro K hK
   refine uU (hs:=qB) (ha:=uq) (hF:=fH _ _ bs (pos+1+1+1) hb qA qB qB) (h:=?_);rintro v pv ⟨hvR,rfl⟩;refine qH ?_<|qW;exact qE [] .nil qD ⟨⟨7,0,v,0⟩,pos+1+1+1+1,qB,⟨qA,w6⟩,qB⟩
 .skip
  refine qH ?_<|qW
  first|show qe _ _ _ _ _|intro K hK
  refine uU (hs:=qB) (ha:=uq) (hF:=fH _ _ bs (pos+1+1) hb qA qB qB) (h:=?_);rintro v pv ⟨hvR,rfl⟩;refine qH ?_<|qW;exact qE [] .nil qD ⟨⟨7,0,v,0⟩,pos+1+1+1,qB,⟨qA,w6⟩,qB⟩
abbrev Xz:qV:=xq<|.l 4 [1,0]<|.l 5 [1,0]<|.l 6 []<|.q 7<|.l 8 []<|.done
abbrev YA:qV:=.q 0<|.q 1<|.q 2<|.l 3 [2,1,0]<|.l 4 [1,0]<|.q 5<|.l 6 [1,0]<|.l 7 []<|.q 8<|.l 9 []<|.done
def QS(bs:List Int)(Q:qY->Nat->Prop):Nm->AV->(Nm->Option AO)->Prop:=λr z H'=>∃(k:qY)(pos':Nat),z=.agg [iv k.kind,iv k.parent,.hs (.c r 0 2) 1 0 (O k.params),.hs (.c r 0 3) 4 0 (O k.body)] /\
 H' (.c r 0 2)=Z (.row 1 (qh k.params))/\H' (.c r 0 3)=Z (.row 4 (yd k.body))/\Q k pos'/\H' (.u 1 0 0)=Z (jT bs pos')
def di{A G G2:Prop}(k:G2)(x:A)(h:A->jH G2->G:=by
 intro fx kk;refine qK ?_
 repeat((first|refine qP (id:=7) Xz mixed ?_|refine qP (id:=9) YA mixed ?_);refine zC ?_;refine qK ?_)
 exact kk.h):G:=h x ⟨k⟩
def PA(gl)(H:Nm->Option AO)(bs:List Int)(pos:Nat)(kind parent:Int)(hb:ab bs)(hpos:pos<=800000)(hH:H (.u 1 0 0)=Z (jT bs pos))(hV:H (.u 2 0 0)=Y):
  qX prog gl 139 (Nm.under (.u 1 0 0)) [.pt (.u 1 0 0) 0,iv kind,iv parent] H (QS bs (λk pos'=>k.kind=kind/\k.parent=parent/\O k.params<=1/\O k.body<=6/\pos'<=pos+60/\AJ k)) qw:=by
 refine qX.q9 func139 [.cell 6 82] ntmps139 (λ_=>y8 rfl) λC w g root hroot=>?_;have hr0:=hroot root (Nm.uQ _);rcases(by cases hk:(kind==1)<;>simp:(kind==1)=M\/(kind==1)=B)with hk1|hk1
 case' inl=>
  refine di ?_<| hk1
  first|show qe _ _ _ _ _|intro K hK
  refine uM (λst=>∃(ps:List Int)(q:Nat),O ps<=1/\(cV ps/\(¬kind=1->ps=[]))/\q<=pos+2/\st.tm 0=.pt (.u 1 0 0) 0/\st.hp (.u 1 0 0)=Z (jT bs q)/\st.tm 1=iv kind/\st.tm 6=.pt (.s 6) 0/\st.hp (.s 6)=Z (.row 4 [[iv 0,iv 0,.hs (.c (.s 6) 0 2) 1 0 0,.hs (.c (.s 6) 0 3) 4 0 0]])/\st.hp (.c (.s 6) 0 2)=Z (.row 1 [])/\st.hp (.c (.s 6) 0 3)=Z (.row 4 []) /\
  st.tm 7=.pt (.s 7) 0/\st.hp (.s 7)=Z (.row 4 [[iv kind,iv parent,.hs (.c (.s 7) 0 2) 1 0 (O ps),.hs (.c (.s 7) 0 3) 4 0 (O ([]:List qT))]])/\st.hp (.c (.s 7) 0 2)=Z (.row 1 (qh ps))/\st.hp (.c (.s 7) 0 3)=Z (.row 4 (yd ([]:List qT)))/\st.tm 23=.pt (.u 1 0 0) 0/\st.tm 24=.hs (.s 24) 1 0 5/\st.hp (.s 24)=Z (.row 1 (qh [3,2,4,1,5]))) ⟨[],pos,qB,⟨by simp[cV],qB⟩,qA,zo,zo,zo,zo,zo,zo,zo,zo,zo,y3,zo,qB,qB,y3⟩ ?_
 case' inr=>
  refine di ?_<| hk1
  first|show qe _ _ _ _ _|intro K hK
  refine uU (hs:=zo) (ha:=uq) (hF:=dz _ _ bs pos 3 hb qA qA zo) (h:=?_);rintro x px ⟨hx,rfl⟩;have hx0:x=0\/¬x=0:=qA;rcases hx0 with rfl|hx0
  case' inl=>
   refine di ?_<| hk1
   first|show qe _ _ _ _ _|intro K hK
   refine uU (hs:=qB) (ha:=uq) (hF:=dz _ _ bs (pos+1) 3 hb qA qA qB) (h:=?_);rintro y py ⟨hy,rfl⟩;refine di ?_<|qW
   first|show qe _ _ _ _ _|intro K hK
   refine uM (λst=>∃(ps:List Int)(q:Nat),O ps<=1/\(cV ps/\(¬kind=1->ps=[]))/\q<=pos+2/\st.tm 0=.pt (.u 1 0 0) 0/\st.hp (.u 1 0 0)=Z (jT bs q)/\st.tm 1=iv kind/\st.tm 6=.pt (.s 6) 0/\st.hp (.s 6)=Z (.row 4 [[iv 0,iv 0,.hs (.c (.s 6) 0 2) 1 0 0,.hs (.c (.s 6) 0 3) 4 0 0]])/\st.hp (.c (.s 6) 0 2)=Z (.row 1 [])/\st.hp (.c (.s 6) 0 3)=Z (.row 4 []) /\
  st.tm 7=.pt (.s 7) 0/\st.hp (.s 7)=Z (.row 4 [[iv kind,iv parent,.hs (.c (.s 7) 0 2) 1 0 (O ps),.hs (.c (.s 7) 0 3) 4 0 (O ([]:List qT))]])/\st.hp (.c (.s 7) 0 2)=Z (.row 1 (qh ps))/\st.hp (.c (.s 7) 0 3)=Z (.row 4 (yd ([]:List qT)))/\st.tm 23=.pt (.u 1 0 0) 0/\st.tm 24=.hs (.s 24) 1 0 5/\st.hp (.s 24)=Z (.row 1 (qh [3,2,4,1,5]))) ⟨[(y:Int)],pos+1+1,qB,⟨by simp[cV];omega,λh=>absurd Ck h⟩,qA,qB,qB,qB,qB,qB,qB,qB,qB,qB,y3,qB,qB,qB,y3⟩ ?_
  case' inr=>
   refine di ?_<|aI hk1<|hx0
   first|show qe _ _ _ _ _|intro K hK
   refine uM (λst=>∃(ps:List Int)(q:Nat),O ps<=1/\(cV ps/\(¬kind=1->ps=[]))/\q<=pos+2/\st.tm 0=.pt (.u 1 0 0) 0/\st.hp (.u 1 0 0)=Z (jT bs q)/\st.tm 1=iv kind/\st.tm 6=.pt (.s 6) 0/\st.hp (.s 6)=Z (.row 4 [[iv 0,iv 0,.hs (.c (.s 6) 0 2) 1 0 0,.hs (.c (.s 6) 0 3) 4 0 0]])/\st.hp (.c (.s 6) 0 2)=Z (.row 1 [])/\st.hp (.c (.s 6) 0 3)=Z (.row 4 []) /\
  st.tm 7=.pt (.s 7) 0/\st.hp (.s 7)=Z (.row 4 [[iv kind,iv parent,.hs (.c (.s 7) 0 2) 1 0 (O ps),.hs (.c (.s 7) 0 3) 4 0 (O ([]:List qT))]])/\st.hp (.c (.s 7) 0 2)=Z (.row 1 (qh ps))/\st.hp (.c (.s 7) 0 3)=Z (.row 4 (yd ([]:List qT)))/\st.tm 23=.pt (.u 1 0 0) 0/\st.tm 24=.hs (.s 24) 1 0 5/\st.hp (.s 24)=Z (.row 1 (qh [3,2,4,1,5]))) ⟨[],pos+1,qB,⟨by simp[cV],qB⟩,qA,qB,qB,qB,qB,qB,qB,qB,qB,qB,y3,qB,qB,qB,y3⟩ ?_
 all_goals
  rintro st ⟨ps,q,hps,hpT,hq,h0,hU,h1,h6,hp6,hp62,hp63,h7,hp7,hp72,hp73,h23,h24,hp24⟩;refine bj (b7 _) 24 [3,2,4,1,5] (bs:=bs) (pos:=q) hb qA (hV:=hV) (h0:=h23) (h1:=by simp[h24]) (hH:=hU) (hL:=by simp[hp24]) (h:=?_);intro v hv;have hvr:1<=v/\v<=5:=mO;obtain⟨V,rfl⟩:∃V:Nat,v=V:=⟨v.toNat,qA⟩;refine di ?_<|qW;refine zK (λn st=>∃(L:List qT)(q:Nat),n+O L=V/\(∀s∈L,vb s)/\q+8*n<=pos+50/\st.tm 0=.pt (.u 1 0 0) 0/\st.hp (.u 1 0 0)=Z (jT bs q)/\st.tm 1=iv kind/\st.tm 6=.pt (.s 6) 0/\st.hp (.s 6)=Z (.row 4 [[iv 0,iv 0,.hs (.c (.s 6) 0 2) 1 0 0,.hs (.c (.s 6) 0 3) 4 0 0]])/\st.hp (.c (.s 6) 0 2)=Z (.row 1 [])/\st.hp (.c (.s 6) 0 3)=Z (.row 4 []) /\
  st.tm 7=.pt (.s 7) 0/\st.hp (.s 7)=Z (.row 4 [[iv kind,iv parent,.hs (.c (.s 7) 0 2) 1 0 (O ps),.hs (.c (.s 7) 0 3) 4 0 (O L)]])/\st.hp (.c (.s 7) 0 2)=Z (.row 1 (qh ps))/\st.hp (.c (.s 7) 0 3)=Z (.row 4 (yd L))/\st.tm 8=iv n) V ?_ ?_
  .exact⟨[],q+1,qB,qB,qA,yL,qB,zY,vZ,dU,Ai,A8,bP,oQ,by simp[hp72],by simp[hp73],qB⟩
  clear h0 hU h1 h6 hp6 hp62 hp63 h7 hp7 hp72 hp73 h23 h24 hp24;rintro n st - - ⟨L,q,hL,hLT,hq,h0,hU,h1,h6,hp6,hp62,hp63,h7,hp7,hp72,hp73,h8⟩;refine di ?_<| h8;rcases fN n with rfl|hn0
  .have hL5:O L<=5:=qA
   cases hkk:(kind==1)
   .skip
    refine di ?_<|zy h0 h1 h6 hp6 h7 hp7<|hkk;exact qE [(.s 7,root)] (.one rfl) Cx ⟨⟨kind,parent,ps,L⟩,q,qB,by simp[hp72,hr0],by simp[hp73,hr0],⟨rfl,rfl,hps,qp,qA,hLT,hpT⟩,vH⟩
   .skip
    refine di ?_<|zy h0 h1 h6 hp6 h7 hp7<|hkk
    first|show qe _ _ _ _ _|intro K hK
    refine uU (hs:=vH) (ha:=tU) (hF:=dz _ _ bs q 2 hb qA qA vH) (h:=?_);rintro x px ⟨hx,rfl⟩;have hx0:x=0\/¬x=0:=qA;rcases hx0 with rfl|hx0
    .skip
     refine di ?_<|jA h0 h1 h6 hp6 h7 hp7 hp73<|hkk
     first|show qe _ _ _ _ _|intro K hK
     refine bj (b7 _) 48 [0,1,4,5] (bs:=bs) (pos:=q+1) hb qA (hV:=hV) (h0:=yL) (h1:=qB) (hH:=qB) (hL:=y3) (h:=?_);intro v2 hv2;have hv2R:0<=v2/\v2<=99:=by simp at hv2;omega
     refine di ?_<|jA h0 h1 h6 hp6 h7 hp7 hp73<|hkk;exact qE [(.s 7,root)] (.one rfl) Cx ⟨⟨kind,parent,ps,L++[⟨8,0,v2,0⟩]⟩,q+1+1,qB,by simp[hp72,hr0],by show _=Z (AO.row 4 (yd (L++[⟨8,0,v2,0⟩])));rw[<- xz];simp[hp73,hr0],⟨rfl,rfl,hps,qp,qA,CF hLT w6,hpT⟩,vH⟩
    .skip
     refine di ?_<|y9 h0 h1 h6 hp6 h7 hp7 hp73 hkk<|hx0;exact qE [(.s 7,root)] (.one rfl) Cx ⟨⟨kind,parent,ps,L⟩,q+1,qB,by simp[hp72,hr0],by simp[hp73,hr0],⟨rfl,rfl,hps,qp,qA,hLT,hpT⟩,vH⟩
  .have hL5:O L<=4:=qA;refine di ?_<|zx h0 h1 h7 hp7 hp73<|hn0
   first|show qe _ _ _ _ _|intro K hK
   refine uU (hs:=vH) (ha:=by first|(simp[h0,h1];done)|(simp[h0,h1];rfl)) (hF:=qBi _ _ bs q kind hb qA vH qB) (h:=?_);rintro s p2 ⟨⟨hp2a,hp2b⟩,hsT⟩;refine di ?_<|zy h0 h1 h7 hp7 hp73 h8<|hn0;refine⟨n-1,qA,L++[s],p2,qp,CF hLT hsT,qA,yL,qB,zY,vZ,dU,Ai,A8,bP,oQ,by simp[hp72],by rw[<- xz];simp[hp73],?_⟩;simp;rw[qk qA qA];omega
def Qb(bs:List Int)(Q:List qT->Nat->Prop):Nm->AV->(Nm->Option AO)->Prop:=λr z H'=>∃(L:List qT)(pos':Nat),z=.hs r 4 0 (O L)/\H' r=Z (.row 4 (yd L))/\Q L pos'/\H' (.u 1 0 0)=Z (jT bs pos')
def Gy(gl)(H:Nm->Option AO)(bs:List Int)(pos:Nat)(kind parent b:Int)(np nb:Nat)(hbr:0<=b/\b<=99)(hb:ab bs)(hpos:pos<=800000)(hH:H (.u 1 0 0)=Z (jT bs pos))(hV:H (.u 2 0 0)=Y):
  qX prog gl 140 (Nm.under (.u 1 0 0)) [.pt (.u 1 0 0) 0,.agg [iv kind,iv parent,.hs (.u 4 0 0) 1 0 np,.hs (.u 5 0 0) 4 0 nb],iv b] H (Qb bs (λL pos'=>O L<=2/\pos'<=pos+5/\∀s∈L,vb s)) qw:=by
 refine qX.q9 func140 [.tmp 6] ntmps140 (λ_=>y8 rfl) λC w g root hroot=>?_;have hr0:=hroot root (Nm.uQ _)
 cases hk2:(kind==2)
 rotate_left
 .skip
  refine qH ?_<| hk2;exact qE [(.s 6,root)] (.one rfl) qD ⟨[⟨4,6,b,0⟩],pos,qB,DE,⟨qB,qA,I4 w6⟩,zo⟩
 refine qH ?_<| hk2
 first|show qe _ _ _ _ _|intro K hK
 refine bj (b7 _) 17 [4,5] (bs:=bs) (pos:=pos) hb qA (hV:=hV) (h0:=qB) (h1:=qB) (hH:=zo) (hL:=y3) (h:=?_);intro f hf;have hfR:0<=f/\f<=99:=by simp at hf;omega
 refine qH ?_<|qW
 first|show qe _ _ _ _ _|intro K hK
 refine uU (hs:=qB) (ha:=uq) (hF:=dz _ _ bs (pos+1) 3 hb qA qA qB) (h:=?_);rintro x px ⟨hx,rfl⟩;have hx0:x=0\/¬x=0:=qA;rcases hx0 with rfl|hx0
 .skip
  refine qH ?_<|qW;exact qE [(.s 6,root)] (.one rfl) qD ⟨[⟨3,f,b,0⟩],pos+1+1,qB,DE,⟨qB,qA,I4 w6⟩,qB⟩
 have hxp:0<x:=qA
 cases hn1:((np:Int)==1)
 .skip
  refine qH ?_<|aI hxp<|hn1
  first|show qe _ _ _ _ _|intro K hK
  refine bj (b7 _) 34 [0,1,5] (bs:=bs) (pos:=pos+1+1) hb qA (hV:=hV) (h0:=qB) (h1:=qB) (hH:=qB) (hL:=y3) (h:=?_);intro v hv;have hvR:0<=v/\v<=99:=mO;refine qH ?_<|qW;exact qE [(.s 6,root)] (.one rfl) qD ⟨[⟨3,f,b,0⟩,⟨5,v,f,-1⟩],pos+1+1+1,qB,DE,⟨qB,qA,PQ w6 w6⟩,qB⟩
 .skip
  refine qH ?_<|aI hxp<|hn1
  first|show qe _ _ _ _ _|intro K hK
  refine uU (hs:=qB) (ha:=uq) (hF:=fH _ _ bs (pos+1+1) hb qA qB qB) (h:=?_);rintro u pu ⟨huR,rfl⟩;refine qH ?_<|qW
  first|show qe _ _ _ _ _|intro K hK
  refine bj (b7 _) 34 [0,1,5] (bs:=bs) (pos:=pos+1+1+1) hb qA (hV:=hV) (h0:=qB) (h1:=qB) (hH:=qB) (hL:=y3) (h:=?_);intro v hv;have hvR:0<=v/\v<=99:=mO;refine qH ?_<|qW;exact qE [(.s 6,root)] (.one rfl) qD ⟨[⟨3,f,b,0⟩,⟨5,v,f,u⟩],pos+1+1+1+1,qB,DE,⟨qB,qA,PQ w6 w6⟩,qB⟩
end Go.Proofs.YtjgpejikjhojcaaGreatDoor
end
