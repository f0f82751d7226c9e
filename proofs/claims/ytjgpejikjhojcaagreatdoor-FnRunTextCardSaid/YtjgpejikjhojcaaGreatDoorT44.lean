import Derived.Test.YtjgpejikjhojcaaGreatDoorT43
import Derived.Test.YtjgpejikjhojcaaGreatDoorT41
import Derived.Test.YtjgpejikjhojcaaGreatDoorT37
import Derived.Test.YtjgpejikjhojcaaGreatDoorChecked
set_option linter.unusedSimpArgs false
set_option linter.unusedVariables false
set_option maxRecDepth 100000
set_option maxHeartbeats 4000000

section
namespace Go.Proofs.YtjgpejikjhojcaaGreatDoor
open Go Go.Hm Go.Proofs Tryz
abbrev Fb:qb:=AA<|.q 5<|.q 6<|.l 4 [6,5]<|.l 7 []<|.q 8<|.q 9<|.q 10<|.q 11<|.q 12<|.l 13 []<|.done
attribute [local simp] uo iF
theorem No (gl) (code:List Int) (hc:A3 code):qM prog gl 11 [tR code] (λ_ z _=>∃ (v:q9) (f:Int),z=.zT [tx v,iv f]/\v.length<=20001):=by
 have hb:=hc.bytes;refine qM.qa func11 [.tmp 2,.tmp 3] ntmps11 λC w g root=>?_;refine qI ?_<|qS;intro K hK;refine NW (ha:=qB) (hF:=Tj _ code hc.len) (h:=?_);rintro z H1 ⟨rfl,hR⟩;refine qI ?_<| hR;intro K hK;refine kH (.s 4) (.u 1 0 0) (.inl rfl) (.inr rfl) ?_;refine vk (bs:=code.take 2000) (hs:=by simp [hR]) (ha:=uK) (hF:=Ya _ _ (code.take 2000) 0 hb qA (by simp [hR]) qB qB qB) (h:=?_);rintro v pv ⟨hv,hpv⟩;refine qI ?_<|qS;refine vk (hs:=qB) (ha:=uK) (hF:=bu _ _ (code.take 2000) pv 40 hb qA qA qB) (h:=?_);rintro y py ⟨hy,rfl⟩;refine qI ?_<|qS;refine aw (ai _) 12 [150,20,(y:Int),0,151] (bs:=code.take 2000) (pos:=pv+1) hb qA (hV:=qB) (h0:=qB) (h1:=qB) (hH:=qB) (hL:=yO) (h:=?_);intro f hf;refine qI ?_<|qS;exact qG [] .nil qH ⟨v,f,qB,hv⟩
theorem Be {A G G2:Prop} (k:G2) (x:A) (h:A->jP G2->G:=by
 intro fx kk;refine qQ ?_
 repeat ((first|refine qf (id:=10) Fb mixed ?_);refine zQ ?_;refine qQ ?_)
 exact kk.h):G:=h x ⟨k⟩
theorem Nq (gl:Nat->Option (List AV)) (hgl:gl 4=some mZ) {m:Int} (hgm:gl 3=some [.sc (.int .i64 m)]) (hgs:gl 1=some ((df yM).map AV.sc)) (hge:gl 0=some ((df kj).map AV.sc)) (hgp:gl 2=some (lY.map .sc)) (code:List Int) (hcode:∀ v∈code,0<=v/\v<=255) (hbig:code.length<=1152921504606846976) :
  qM prog gl 4 [tR code] (λ_ z _=>z=bv true):=by
 refine qM.qa func4 [.tmp 2] ntmps4 λC w g root=>?_;by_cases hlen:1048576<code.length
 .have hl1:(1048576:Int)<code.length:=qA;refine Be ?_<| hl1;refine qG [] .nil qH qB
 have hl1:¬ (1048576:Int)<code.length:=qA;have hc:A3 code:=⟨qA,hcode⟩;have fx:= hl1;have e1:=No gl code hc;refine Be ?_<|@fx;clear fx e1;rintro K hK z H1 ⟨s,f,rfl,hsl⟩;refine⟨qB,?_⟩;have hsa:=Yd gl s f qA;have hia:=Re gl hgm hgs hge hgp s f qA;have hpi:=HJ gl hgm hgs s qA
 cases hr:(decide (0<=f)&&decide (f<=150))
 .rw [Fl hr] at hsa hia;have fx:= @qx;have c1:=hia;have c2:=hsa;refine Be ?_<|@fx;clear fx c1 c2;refine qG [] .nil qH qB
 obtain⟨h0,h1⟩:0<=f/\f<=150:=by simpa using hr
 obtain⟨n,rfl⟩:∃ n:Nat,f=n:=⟨f.toNat,qA⟩;have hn:n<=150:=qA;rw [Fm hn] at hsa hia
 cases hp:ku s with
 | none =>
  rw [hp] at hsa hia hpi;simp only [Option.getD_none,Option.isSome_none,show jO 10 [iN]=[119,114,111,110,103,10] from rfl] at hsa hia hpi;have fx:= @qx;have c1:=hia;have c2:=hsa;have p1:=hpi;refine j5 ?_
  repeat ((first|refine qf (id:=10) Fb mixed ?_);refine kn ?_;refine j5 ?_)
  clear fx c1 c2 p1;refine qG [] .nil qH qB
 | some q =>
  rw [hp] at hsa hia hpi;simp only [Option.getD_some,Option.isSome_some] at hsa hia hpi;have hpo:ye q=true:=(Ge hp).2.1;have hq:=F1 hpo;have hP:=zq.of hq hpo;have hm:=El hP.sh hn;have hic:=Rd gl hgl q n hq;rw [Wo hq] at hic
  have hv:fX q n=true:=by
   simp only [fX,hpo,dk,jh,decide_eq_true_eq];omega
  have hro:(xu q n).out=(vt q n).out:=by simp [xu,hv,eV]
  have hen:=hm.ok.eH;have hct:=XF (p:=q) (f:=n) hen;have hwr:=XG (p:=q) (f:=n) hen;have hor:=hm.ok.dV;have hol:=hm.ok.kR
  have hvl:(jO 10 (cB q n)).length<=1048577:=by
   have h1:=Ef hor
   have h2:∀ i,(kj.getD i []).length<=10:=by
    intro i
    match i with
    | 0|1|2|3|4|5|6|7=>decide
    | i+8=>simp [kj]
   have h3:=h2 (vt q n).en.toNat;rw [cB,sJ];simp only [kC,cQ,gH];omega
  rw [<- hro] at hct hol;clear hro hor hm hen;generalize xu q n=R at hic hct hol;generalize jO 10 (cB q n)=v at hsa hia hct hwr hvl;have hnl:=Tk gl v hvl;rw [hct] at hnl
  have e1:(v==[])=false:=by
   rw [beq_eq_false_iff_ne];rintro rfl;simp at hct
  have e2:(v==[119,114,111,110,103,10])=false:=by rw [beq_eq_false_iff_ne];exact hwr
  have hw:IntKind.i64.wrap ((R.out.length:Int)+1)=(R.out.length:Int)+1:=qi qA qA;have fx:=qk @qx e1<|e2;have c1:=hia;have c2:=hsa;have p1:=hpi;have c3:=hnl;have e1:=hic;refine j5 ?_
  repeat ((first|refine qf (id:=10) Fb mixed ?_);refine kn ?_;refine j5 ?_)
  clear fx c1 c2 p1 c3 e1;rintro K hK y H3 ⟨rfl,hR⟩;refine⟨qB,?_⟩;clear hR;refine Be ?_<| hw;refine qG [] .nil qH qB
end Go.Proofs.YtjgpejikjhojcaaGreatDoor
end
section
namespace Go.Proofs.YtjgpejikjhojcaaGreatDoor
open Go Go.Hm Go.Proofs Tryz
theorem Ur:laidOutB prog=true:=qY
theorem Uu:mapsRowed prog=true:=qY
theorem Uw:(prog.stops==[])=true:=qY
theorem Uq:(prog.stopKnobs==[])=true:=qY
theorem Up:prog.plainKeys=true:=qY
theorem Uo:prog.stopsHeard=true:=qY
theorem Uv:prog.mayEnter=true:=qY
theorem Us:prog.liftsFinal=false:=qY
theorem Ut:(prog.make==some .cut)=true:=qY
theorem VI:HL prog:=⟨Ur,Uu,Uw,Uq,Up,Uo,Uv,Us,Ut⟩
end Go.Proofs.YtjgpejikjhojcaaGreatDoor
end
