import Derived.Test.YtjgpejikjhojcaaGreatDoorR22
import Derived.Test.YtjgpejikjhojcaaGreatDoorR16
set_option linter.unusedSimpArgs false
set_option linter.unusedVariables false
set_option maxRecDepth 100000
set_option maxHeartbeats 4000000

section
namespace Go.Proofs.YtjgpejikjhojcaaGreatDoor
open Go Go.Hm Go.Proofs Tryz
attribute [local simp] wC
theorem QU:∀ n,n<10->([48,49,50,51,52,53,54,55,56,57]:qU).drop n=dg n::([48,49,50,51,52,53,54,55,56,57]:qU).drop (n+1):=qe
theorem FU (n:Nat):(yr n).length<=n+1:=by
 induction n using Nat.strongRecOn with
 | _ n ih =>
  rw [yr]
  split
  .simp
  .have:=ih (n / 10) qA;simp;omega
theorem LD (gl):∀ (k n:Nat),n<=k->n<1152921504606846976->qM prog gl 33 [iv n] (λ_ y _=>y=tx (yr n)):=by
 intro k
 induction k with
 | zero =>
  intro n hk hn;obtain rfl:n=0:=qA;have hw1:IntKind.i64.wrap 1=1:=qm qA qA;refine qM.q9 func33 [.tmp 2] ntmps33 λC w g root=>?_;refine qJ ?_<| hw1;refine qF [] .nil qE ?_;simp [yr]
  rfl
 | succ k ih =>
  intro n hk hn;have hw1:IntKind.i64.wrap ((n:Int)+1)=n+1:=qm qA qA;have n0:¬ (n:Int)<0:=qA;by_cases h:n<10
  .have hd:=QU n h;have hi:(n:Int)<10:=qA;have h1:(n:Int)<=9:=qA;have h2:((n:Int)+1).toNat=n+1:=qA;have h3:(n:Int)<=(n:Int)+1:=qA;have h4:(n:Int)+1<=10:=qA;have h5:(0:Int)<=(n:Int):=qA;have h6:n+1 - n=1:=qA;refine qM.q9 func33 [.tmp 2] ntmps33 λC w g root=>?_;refine qJ ?_<|y8 hw1 n0 hi h1 h2 h3 h4 h5 h6<|hd;refine qF [] .nil qE ?_;rw [yr,if_pos h];simp
  .have hi:¬ (n:Int)<10:=qA;obtain⟨q,hq⟩:∃ q,q=n / 10:=⟨_,rfl⟩;obtain⟨r,hr⟩:∃ r,r=n % 10:=⟨_,rfl⟩
   have hwq:IntKind.i64.wrap ((n:Int) / 10)=(q:Int):=by
    rw [show (n:Int) / 10=(q:Int) by omega];exact qm qA qA
   have hwr:(n:Int).tmod 10=(r:Int):=by
    rw [hr]
    rfl
   have q1:=ih q qA qA;have q2:=ih r qA qA;have hl1:=FU q;have hl2:=FU r;have hl:(yr q).length+(yr r).length<=9223372036854775807:=qA;refine qM.q9 func33 [.tmp 2] ntmps33 λC w g root=>?_;have fx:=zN n0 hi hwq hwr<|hl;have c1:=q1;have c2:=q2;refine qK ?_;clear fx c1 c2;refine qF [] .nil qE ?_;rw [LC (n:=r) qA]
   conv=>rhs;rw [yr,if_neg h,<- hq,<- hr]
   simp
theorem su (gl) (n:Int) (h0:-1000000<=n) (h1:n<=1000000):qM prog gl 33 [iv n] (λ_ y _=>y=tx (ug n)):=by
 by_cases h:n<0
 .obtain⟨k,rfl⟩:∃ k:Nat,n=-(k:Int):=⟨(-n).toNat,qA⟩;have q:=LD gl k k (qa _) qA;have hl1:=FU k;have hl:(yr k).length+1<=9223372036854775807:=qA;have hl':1+(yr k).length<=9223372036854775807:=qA;have hk0:0<k:=qA;have hk1:¬ k=0:=qA;have hne:¬ -(k:Int)=(k:Int):=qA;have hwn:IntKind.i64.wrap (k:Int)=k:=qm qA qA;refine qM.q9 func33 [.tmp 2] ntmps33 λC w g root=>?_;have fx:=jH hwn hk0 hk1 hne hl<|hl';have c1:=q;refine qK ?_;clear fx c1;refine qF [] .nil qE ?_;simp [ug,h,hk1]
 .obtain⟨k,rfl⟩:∃ k:Nat,n=(k:Int):=⟨n.toNat,qA⟩;rw [AJ];exact LD gl k k (qa _) qA
theorem θ (gl):qM prog gl 78 [] (λr y H'=>y=.hs r 1 0 vH.length/\H' r=some (.row 1 (uo vH))):=by
 refine qM.q9 func78 [.tmp 0] ntmps78 λC w g root=>?_;refine qJ ?_<|qd;exact y7 (t:=0) j7 j7 qB
end Go.Proofs.YtjgpejikjhojcaaGreatDoor
end
section
namespace Go.Proofs.YtjgpejikjhojcaaGreatDoor
open Go Go.Hm Go.Proofs Tryz
open Go.Shelf
def nJ:Ren:=⟨fun|0=>0|1=>1|2=>2|129=>197|138=>133|143=>134|146=>54|166=>21|169=>22|171=>30|195=>184|197=>185|217=>225|218=>186|219=>187|221=>88|224=>227|225=>226|240=>56|243=>63|246=>102|260=>224|266=>238|267=>228|268=>132|276=>91|283=>147|284=>148|285=>149|286=>150|314=>239|317=>196|318=>198|319=>199|320=>200|337=>232|338=>233|347=>242|348=>243|349=>244|350=>245|351=>246|352=>247|353=>248|354=>249|355=>250|356=>251|357=>252|358=>253|359=>254|360=>255|361=>256|362=>257|366=>267|367=>278|n=>n,fun|0=>0|1=>1|2=>2|3=>3|4=>4|5=>5|6=>6|7=>7|8=>8|9=>9|10=>10|11=>11|12=>12|13=>13|14=>14|15=>15|16=>16|17=>17|18=>18|19=>19|20=>20|21=>21|26=>31|27=>218|28=>38|29=>151|30=>210|31=>22|36=>57|37=>28|46=>287|47=>288|51=>285|52=>315|53=>230|54=>231|55=>276|61=>95|70=>46|71=>47|72=>48|74=>49|75=>50|76=>51|77=>52|80=>53|81=>186|83=>63|84=>179|101=>26|102=>25|103=>37|105=>274|106=>275|111=>59|113=>160|114=>58|119=>318|127=>97|131=>161|137=>319|138=>320|139=>321|146=>322|150=>217|151=>323|164=>163|165=>164|171=>229|172=>232|173=>233|174=>234|211=>283|212=>284|213=>286|229=>93|232=>325|233=>326|238=>327|239=>328|240=>329|241=>330|242=>331|243=>332|244=>333|245=>334|246=>335|247=>336|248=>337|249=>338|n=>n,fun|1=>3|3=>5|4=>6|17=>2|18=>7|19=>8|n=>n⟩
theorem KU:Lays.n166 prog nJ:={ mixed:=qc,f166:=func21.trans (congrArg some qc),f240:=func56.trans (congrArg some qc),f276:=func91.trans (congrArg some qc),t0:=Tryz.underlying0,a0:=Tryz.isAgg0,z0:=Tryz.sizeOf0,v0:=Tryz.zeroValue0,t3:=Tryz.underlying3,a3:=Tryz.isAgg3,z3:=Tryz.sizeOf3,v3:=Tryz.zeroValue3,t4:=Tryz.underlying4,a4:=Tryz.isAgg4,z4:=Tryz.sizeOf4,v4:=Tryz.zeroValue4,t9:=Tryz.underlying9,a9:=Tryz.isAgg9,z9:=Tryz.sizeOf9,v9:=Tryz.zeroValue9,t20:=Tryz.underlying20,a20:=Tryz.isAgg20,z20:=Tryz.sizeOf20,v20:=Tryz.zeroValue20,t37:=Tryz.underlying28,a37:=Tryz.isAgg28,z37:=Tryz.sizeOf28,v37:=Tryz.zeroValue28,t70:=Tryz.underlying46,a70:=Tryz.isAgg46,z70:=Tryz.sizeOf46,v70:=Tryz.zeroValue46,t72:=Tryz.underlying48,a72:=Tryz.isAgg48,z72:=Tryz.sizeOf48,v72:=Tryz.zeroValue48,t75:=Tryz.underlying50,a75:=Tryz.isAgg50,z75:=Tryz.sizeOf50,v75:=Tryz.zeroValue50,t164:=Tryz.underlying163,a164:=Tryz.isAgg163,z164:=Tryz.sizeOf163,v164:=Tryz.zeroValue163 }
theorem TH:Lays.n169 prog nJ:={ mixed:=qc,f169:=func22.trans (congrArg some qc),t0:=Tryz.underlying0,a0:=Tryz.isAgg0,z0:=Tryz.sizeOf0,v0:=Tryz.zeroValue0,t3:=Tryz.underlying3,a3:=Tryz.isAgg3,z3:=Tryz.sizeOf3,v3:=Tryz.zeroValue3,t9:=Tryz.underlying9,a9:=Tryz.isAgg9,z9:=Tryz.sizeOf9,v9:=Tryz.zeroValue9,t37:=Tryz.underlying28,a37:=Tryz.isAgg28,z37:=Tryz.sizeOf28,v37:=Tryz.zeroValue28,t70:=Tryz.underlying46,a70:=Tryz.isAgg46,z70:=Tryz.sizeOf46,v70:=Tryz.zeroValue46,t72:=Tryz.underlying48,a72:=Tryz.isAgg48,z72:=Tryz.sizeOf48,v72:=Tryz.zeroValue48,t127:=Tryz.underlying97,a127:=Tryz.isAgg97,z127:=Tryz.sizeOf97,v127:=Tryz.zeroValue97 }
theorem TI:Lays.n171 prog nJ:={ mixed:=qc,f129:=func197.trans (congrArg some qc),f171:=func30.trans (congrArg some qc),f243:=func63.trans (congrArg some qc),f246:=func102.trans (congrArg some qc),f283:=func147.trans (congrArg some qc),f284:=func148.trans (congrArg some qc),f285:=func149.trans (congrArg some qc),f286:=func150.trans (congrArg some qc),f317:=func196.trans (congrArg some qc),f318:=func198.trans (congrArg some qc),f319:=func199.trans (congrArg some qc),f320:=func200.trans (congrArg some qc),f337:=func232.trans (congrArg some qc),f338:=func233.trans (congrArg some qc),t0:=Tryz.underlying0,a0:=Tryz.isAgg0,z0:=Tryz.sizeOf0,v0:=Tryz.zeroValue0,t2:=Tryz.underlying2,a2:=Tryz.isAgg2,z2:=Tryz.sizeOf2,v2:=Tryz.zeroValue2,t3:=Tryz.underlying3,a3:=Tryz.isAgg3,z3:=Tryz.sizeOf3,v3:=Tryz.zeroValue3,t4:=Tryz.underlying4,a4:=Tryz.isAgg4,z4:=Tryz.sizeOf4,v4:=Tryz.zeroValue4,t5:=Tryz.underlying5,a5:=Tryz.isAgg5,z5:=Tryz.sizeOf5,v5:=Tryz.zeroValue5,t9:=Tryz.underlying9,a9:=Tryz.isAgg9,z9:=Tryz.sizeOf9,v9:=Tryz.zeroValue9,t20:=Tryz.underlying20,a20:=Tryz.isAgg20,z20:=Tryz.sizeOf20,v20:=Tryz.zeroValue20,t37:=Tryz.underlying28,a37:=Tryz.isAgg28,z37:=Tryz.sizeOf28,v37:=Tryz.zeroValue28,t46:=Tryz.underlying287,a46:=Tryz.isAgg287,z46:=Tryz.sizeOf287,v46:=Tryz.zeroValue287,t51:=Tryz.underlying285,a51:=Tryz.isAgg285,z51:=Tryz.sizeOf285,v51:=Tryz.zeroValue285,t53:=Tryz.underlying230,a53:=Tryz.isAgg230,z53:=Tryz.sizeOf230,v53:=Tryz.zeroValue230,t171:=Tryz.underlying229,a171:=Tryz.isAgg229,z171:=Tryz.sizeOf229,v171:=Tryz.zeroValue229,t173:=Tryz.underlying233,a173:=Tryz.isAgg233,z173:=Tryz.sizeOf233,v173:=Tryz.zeroValue233,t212:=Tryz.underlying284,a212:=Tryz.isAgg284,z212:=Tryz.sizeOf284,v212:=Tryz.zeroValue284,t213:=Tryz.underlying286,a213:=Tryz.isAgg286,z213:=Tryz.sizeOf286,t232:=Tryz.underlying325,a232:=Tryz.isAgg325,z232:=Tryz.sizeOf325,v232:=Tryz.zeroValue325,t233:=Tryz.underlying326,a233:=Tryz.isAgg326,z233:=Tryz.sizeOf326,v233:=Tryz.zeroValue326,g17:=qc,g18:=qc,g19:=qc}
theorem TG:Lays.n146 prog nJ:={ mixed:=qc,f138:=func133.trans (congrArg some qc),f143:=func134.trans (congrArg some qc),f146:=func54.trans (congrArg some qc),f195:=func184.trans (congrArg some qc),f197:=func185.trans (congrArg some qc),f217:=func225.trans (congrArg some qc),f218:=func186.trans (congrArg some qc),f219:=func187.trans (congrArg some qc),f221:=func88.trans (congrArg some qc),f224:=func227.trans (congrArg some qc),f225:=func226.trans (congrArg some qc),f260:=func224.trans (congrArg some qc),f266:=func238.trans (congrArg some qc),f267:=func228.trans (congrArg some qc),f268:=func132.trans (congrArg some qc),f314:=func239.trans (congrArg some qc),t0:=Tryz.underlying0,a0:=Tryz.isAgg0,z0:=Tryz.sizeOf0,v0:=Tryz.zeroValue0,t3:=Tryz.underlying3,a3:=Tryz.isAgg3,z3:=Tryz.sizeOf3,v3:=Tryz.zeroValue3,t4:=Tryz.underlying4,a4:=Tryz.isAgg4,z4:=Tryz.sizeOf4,v4:=Tryz.zeroValue4,t5:=Tryz.underlying5,a5:=Tryz.isAgg5,z5:=Tryz.sizeOf5,v5:=Tryz.zeroValue5,t9:=Tryz.underlying9,a9:=Tryz.isAgg9,z9:=Tryz.sizeOf9,v9:=Tryz.zeroValue9,t21:=Tryz.underlying21,a21:=Tryz.isAgg21,z21:=Tryz.sizeOf21,v21:=Tryz.zeroValue21,t31:=Tryz.underlying22,a31:=Tryz.isAgg22,z31:=Tryz.sizeOf22,v31:=Tryz.zeroValue22,t46:=Tryz.underlying287,a46:=Tryz.isAgg287,z46:=Tryz.sizeOf287,v46:=Tryz.zeroValue287,t51:=Tryz.underlying285,a51:=Tryz.isAgg285,z51:=Tryz.sizeOf285,v51:=Tryz.zeroValue285,t105:=Tryz.underlying274,a105:=Tryz.isAgg274,z105:=Tryz.sizeOf274,v105:=Tryz.zeroValue274,t119:=Tryz.underlying318,a119:=Tryz.isAgg318,z119:=Tryz.sizeOf318,t138:=Tryz.underlying320,a138:=Tryz.isAgg320,z138:=Tryz.sizeOf320,v138:=Tryz.zeroValue320,t139:=Tryz.underlying321,a139:=Tryz.isAgg321,z139:=Tryz.sizeOf321,v139:=Tryz.zeroValue321,t146:=Tryz.underlying322,a146:=Tryz.isAgg322,z146:=Tryz.sizeOf322,v146:=Tryz.zeroValue322,g1:=qc,g3:=qc,g4:=qc}
theorem FE:Builder.Extra prog nJ:={ sizeBuilder:=qc,liesBuilder:=qc,t5:=Tryz.underlying5,a5:=Tryz.isAgg5,z5:=Tryz.sizeOf5,v5:=Tryz.zeroValue5,infoByte:=qc,cellsByte:=qc,sizeByte:=qc,neB5:=qe}
theorem PM:jx prog 48=some [.sc (.pointer none),.sc (.slice none 0 0)]:=qc
@[simp] theorem lib_b:nJ.t 72=48:=rfl
@[simp] theorem lib_u:nJ.t 5=5:=rfl
theorem G3 (gl) {m:Int} (hgm:gl 3=some [.sc (.int .i64 m)]) (l:qU) (c:UInt8) (hl:l.length<4294967281):qM prog gl 54 [tx l,tx [c]] (λ_ y _=>y=jd (zM c l)) :=
 Zl TG qc gl m hgm l c hl
end Go.Proofs.YtjgpejikjhojcaaGreatDoor
end
section
namespace Go.Proofs.YtjgpejikjhojcaaGreatDoor
open Go Go.Hm Go.Proofs Tryz
attribute [local simp] wC
theorem u8w {n:Int} (h1:0<=n) (h2:n<=255):IntKind.u8.wrap n=n:=by rw [IntKind.wrap_u8];omega
theorem KC {v:qU} {i:Nat} {u:qU} (hu:vH[i]?=some u) (he:u=v) (hno:∀ j,j<i->∀ x,vH[j]?=some x->x≠v):wO v=some i:=by
 obtain⟨hi,hE⟩:=gS hu;unfold wO;rw [rH];refine⟨hi,by simp [hE,he],λj hj=>?_⟩;have:=hno j hj _ (gE qA)
 simpa using this
theorem KD {v:qU} (hno:∀ j,j<12->∀ x,vH[j]?=some x->x≠v):wO v=none:=by
 unfold wO;rw [List.findIdx?_eq_none_iff];intro x hx;obtain⟨j,hj⟩:=wj hx;have:=hno j (gS hj).1 x hj
 simpa using this
def Ao (o:Option Nat):Int:=match o with|some n=>n|none=>-1
theorem Sb (gl) (hgl:gl 1=some ((dF vH).map AV.sc)) (v:qU):qM prog gl 107 [tx v] (λ_ y _=>y=iv (Ao (wO v))):=by
 have hol:vH.length=12:=rfl;have htk:List.take 12 vH=vH:=rfl;have htm:∀ f:qU->AV,List.take 12 (List.map f vH)=List.map f vH:=λf=>rfl;refine qM.q9 func107 [.tmp 2] ntmps107 λC w g root=>?_;refine qJ ?_<|zD hgl hol htk<|htm;refine zQ (λn st=>∃ i:Nat,n=12 - i/\i<=12/\st.tm 0=tx v/\st.tm 5=.agg ((dF vH).map AV.sc)/\st.tm 6=iv i/\∀ j,j<i->∀ x,vH[j]?=some x->x≠v) 12 ?_ ?_
 .exact⟨0,qA,qA,qB,by simp [htk,htm],qB,λj hj=>absurd hj qA⟩
 rintro n st - - ⟨i,rfl,hi,h0,h5,h6,hno⟩;by_cases hil:i<12
 .have hii:(i:Int)<12:=qA;have hil':i<vH.length:=hil;obtain⟨u,hu⟩:∃ u,vH[i]?=some u:=⟨_,gE hil'⟩;obtain⟨_,huE⟩:=gS hu;by_cases he:u=v
  .have hb:(u==v)=true:=oc;refine qJ ?_<|vI h0 h5 h6 hii hil hil' hu huE<|hb;rw [KC hu he hno];refine qF [] .nil qE (by simp [Ao])
  .have hb:(u==v)=false:=oc;refine qJ ?_<|vI h0 h5 h6 hii hil hil' hu huE<|hb;refine⟨12 - (i+1),qA,i+1,rfl,qA,vg,yH,tz,λj hj x hx=>?_⟩;by_cases e:j=i
   .subst e;rw [hu] at hx;obtain rfl:=sI hx;exact he
   .exact hno j qA x hx
 .obtain rfl:i=12:=qA;rw [KD hno];refine qJ ?_<|qk h0 h5<|h6;refine qF [] .nil qE (by simp [Ao])
end Go.Proofs.YtjgpejikjhojcaaGreatDoor
end
section
namespace Go.Proofs.YtjgpejikjhojcaaGreatDoor
open Go Go.Hm Go.Proofs Tryz
attribute [local simp] wC
theorem Zh (gl) (v:qU) (c:UInt8) (hv:v.length<=1048577):qM prog gl 41 [tx v,.sc (.int .u8 (c.toNat:Int))] (λr y H'=>y=.hs r 1 0 (zM c v).length/\H' r=some (.row 1 (uo (zM c v)))):=by
 refine qM.q9 func41 [.tmp 4] ntmps41 λC w g root=>?_;refine qJ ?_<|qd;refine zQ (λn st=>∃ (i j:Nat) (ws:List qU),n=v.length - i/\j<=i/\i<=v.length/\ws.length<=j/\zM c v=ws++zM c (v.drop j)/\c∉(v.drop j).take (i - j)/\st.tm 0=tx v/\st.tm 1=.sc (.int .u8 (c.toNat:Int))/\st.tm 7=iv i/\st.tm 6=iv j/\st.tm 5=.hs (.s 5) 1 0 ws.length/\st.hp (.s 5)=some (.row 1 (uo ws))) v.length ?_ ?_
 .exact⟨0,0,[],qA,qA,qA,qB,qB,qB,qB,qB,qB,qB,qB,qB⟩
 rintro n st - - ⟨i,j,ws,rfl,hji,hi,hwj,hsp,hno,h0,h1,h7,h6,h5,hp5⟩;by_cases hil:i<v.length
 .obtain⟨x,hx⟩:=gX hil;obtain⟨_,hxE⟩:=gS hx;have hw1:IntKind.i64.wrap ((i:Int)+1)=(i:Int)+1:=qm qA qA;by_cases he:x=c
  .subst he;have hat:=Zk hx hji hno;refine qJ ?_<|qh h0 h1 h7 h6 h5 hp5 hil hx hxE hw1 hji hi<|@qz;refine⟨v.length - (i+1),qA,i+1,i+1,ws++[(v.drop j).take (i - j)],rfl,qA,qA,qu,by rw [hsp,hat];simp,qB,vg,zl,qB,qB,qB,mY⟩
  .have hnn:=UI hx he hji hno;have hn:¬ x.toNat=c.toNat:=λe=>he (UInt8.toNat_inj.1 e);have hb:((x.toNat:Int)==(c.toNat:Int))=false:=qu;refine qJ ?_<|jS h0 h1 h7 h6 h5 hp5 hil hx hxE hw1<|aI hn<|hb;exact⟨v.length - (i+1),qA,i+1,j,ws,rfl,qA,qA,hwj,hsp,hnn,vg,zl,by simp [hw1],vt,yH,wt⟩
 .have hge:i=v.length:=qA;have hjl:j<=v.length:=qA;have htk:(v.drop j).take (i - j)=v.drop j:=yG (by rw [List.length_drop];omega);have htk2:(v.drop j).take (v.length - j)=v.drop j:=yG (by rw [List.length_drop];exact qa _);rw [htk] at hno;rw [Ag hno] at hsp;refine qJ ?_<|y8 h0 h1 h7 h6 h5 hp5 hil hji hjl<|htk2;refine qF [(.s 4,root)] (.one rfl) qE ⟨by simp [hsp],by simp [hsp,uo]⟩
theorem CY (gl) (v:qU) (hv:v.length<=1048577):qM prog gl 45 [tx v] (λ_ y _=>y=iv (pa v)):=by
 refine qM.q9 func45 [.tmp 2] ntmps45 λC w g root=>?_;refine qJ ?_<|qd;refine zQ (λn st=>∃ i:Nat,n=v.length - i/\i<=v.length/\st.tm 0=tx v/\st.tm 4=iv i/\st.tm 3=iv (yp (v.take i))/\yp (v.take i)<=99) v.length ?_ ?_
 .exact⟨0,qA,qA,qB,qB,by simp [yp],by simp [yp]⟩
 rintro n st - - ⟨i,rfl,hi,h0,h4,h3,hd⟩;by_cases hil:i<v.length
 .obtain⟨c,hc⟩:=gX hil;obtain⟨_,hcE⟩:=gS hc;have hcl:=c.toNat_lt;by_cases hg:48<=c.toNat/\c.toNat<=57
  .obtain⟨g1,g2⟩:=hg;have g1':¬ c.toNat<48:=qA;have g2':¬ 57<c.toNat:=qA;have g1i:¬ (c.toNat:Int)<48:=qA;have g2i:¬ (57:Int)<(c.toNat:Int):=qA;by_cases h9:9<yp (v.take i)
   .have hno:=li (ZV hil h9);have h9i:(9:Int)<(yp (v.take i):Nat):=qA;generalize yp (v.take i)=m at h3 hd h9 h9i;refine qJ ?_<|jS h0 h4 h3 hil hc hcE g1' g2' g1i g2i<|aI h9<|h9i;refine qF [] .nil qE yO
   .have hdt:=Iw hc;have h9i:¬ (9:Int)<(yp (v.take i):Nat):=qA;generalize yp (v.take i)=m at h3 hd h9 h9i hdt;obtain⟨k,hk⟩:∃ k:Nat,k=c.toNat - 48:=⟨_,rfl⟩;have hw0:IntKind.i64.wrap ((i:Int)+1)=(i:Int)+1:=qm qA qA;have hw1:IntKind.i64.wrap (10 * (m:Int))=10 * (m:Int):=qm qA qA;have hw2:IntKind.u8.wrap ((c.toNat:Int) - 48)=(k:Int):=IF;have hw3:IntKind.i64.wrap (k:Int)=(k:Int):=qm qA qA;have hw4:IntKind.i64.wrap (10 * (m:Int)+(k:Int))=10 * (m:Int)+(k:Int):=qm qA qA;refine qJ ?_<|qh h0 h4 h3 hil hc hcE g1' g2' g1i g2i h9 h9i<|zN hw0 hw1 hw2 hw3<|hw4;refine⟨v.length - (i+1),qA,i+1,rfl,qA,vg,by simp [hw0],by simp [hdt,<- hk],by rw [hdt];omega⟩
  .have hno:=li (Mq hc hg);by_cases g1:c.toNat<48
   .have g1i:(c.toNat:Int)<48:=qA;refine qJ ?_<|jN h0 h4 h3 hil hc hcE g1<|g1i;refine qF [] .nil qE yO
   .have g1i:¬ (c.toNat:Int)<48:=qA;have g2:57<c.toNat:=qA;have g2i:(57:Int)<(c.toNat:Int):=qA;refine qJ ?_<|y8 h0 h4 h3 hil hc hcE g1 g1i g2<|g2i;refine qF [] .nil qE yO
 .have hge:i=v.length:=qA;rw [hge,kC] at h3 hd;have hend:=ZX hd;have hnum:=su gl (yp v) qA qA;rw [AJ] at hnum;by_cases he:v=[]
  .have hb:(v==[])=true:=by simp [he]
   have hno:pa v=-1:=li (by rw [he];rfl);refine qJ ?_<|zN h0 h4 h3 hil<|hb;refine qF [] .nil qE yO
  have hb:(v==[])=false:=oc;by_cases hq:v=yr (yp v)
  .rw [if_pos hq] at hend;have hqb:(v==yr (yp v))=true:=by simpa using hq
   have hsi:=tH hend;generalize yr (yp v)=u at hnum hqb;have fx:=jH h0 h4 h3 hil hb<|hqb;have c1:=hnum;refine qK ?_;clear fx c1;refine qF [] .nil (by simp [h3];rfl) (by simp [hsi])
  .rw [if_neg hq] at hend;have hqb:(v==yr (yp v))=false:=by simpa using hq
   have hsi:=li hend;generalize yr (yp v)=u at hnum hqb;have fx:=jH h0 h4 h3 hil hb<|hqb;have c1:=hnum;refine qK ?_;clear fx c1;refine qF [] .nil qE (by simp [hsi])
theorem ME {a b:List qU}:vA (a++b)=match vA a,vA b with|some x,some y=>some (x++y)|_,_=>none:=by
 induction a with
 | nil =>
  cases h:vA b <;> simp [vA] <;> simpa [vA] using h
 | cons l a ih =>
  rw [fK,iL,iL,ih]
  cases zq l with
  | none=>rfl
  | some o =>
   cases vA a with
   | none=>rfl
   | some x =>
    cases vA b <;> rfl
theorem Xd {ws:List qU} {i n:Nat} {w:qU} {ns:List Nat} (hw:ws[i]?=some w) (h:vA (ws.take i)=some ns) (hn:zq w=some n):vA (ws.take (i+1))=some (ns++[n]):=by
 rw [uG,hw,ME,h];simp [iL,hn,vA]
theorem Xb {ws:List qU} {i:Nat} {w:qU} (hw:ws[i]?=some w) (hn:zq w=none):vA ws=none:=by
 have e:ws=ws.take i++w::ws.drop (i+1):=by
  obtain⟨h,hE⟩:=gS hw
  conv=>lhs;rw [<- rI i ws]
  rw [gV h,hE]
 rw [e,ME,iL,hn]
 cases vA (ws.take i) <;> rfl
theorem Xc {ws:List qU} {ns:List Nat} (h:vA ws=some ns):ns.length=ws.length:=by
 induction ws generalizing ns with
 | nil=>simp [vA] at h;subst h;rfl
 | cons l a ih =>
  rw [iL] at h
  cases ho:zq l with
  | none=>rw [ho] at h;cases h
  | some o =>
   cases ha:vA a with
   | none=>rw [ho,ha] at h;cases h
   | some x =>
    rw [ho,ha] at h;obtain rfl:=sI h;simp [ih ha]
theorem MF (gl) (ws:List qU) (hl:ws.length<=1048577) (hw:∀ w∈ws,w.length<=1048577):qM prog gl 77 [jd ws] (λr y H'=>match vA ws with
  | some ns=>y=.zX [.hs r 1 0 ns.length,bv true]/\H' r=some (.row 1 (qj (ns.map λ(n:Nat)=>(n:Int))))
  | none=>y=.zX [.hs r 1 0 0,bv false]/\H' r=some (.row 1 [])):=by
 refine qM.q9 func77 [.tmp 2,.tmp 3] ntmps77 λC w g root=>?_;refine qJ ?_<|qd;refine zQ (λn st=>∃ (i:Nat) (ns:List Nat),n=ws.length - i/\i<=ws.length/\vA (ws.take i)=some ns/\st.tm 0=jd ws/\st.tm 5=iv i/\st.tm 4=.hs (.s 4) 1 0 ns.length/\st.hp (.s 4)=some (.row 1 (qj (ns.map λ(n:Nat)=>(n:Int))))) ws.length ?_ ?_
 .exact⟨0,[],qA,qA,by simp [vA],qB,qB,qB,qB⟩
 rintro n st - - ⟨i,ns,rfl,hi,hns,h0,h5,h4,hp4⟩;have hnl:=Xc hns;rw [im] at hnl;by_cases hil:i<ws.length
 .obtain⟨w',hw'⟩:∃ x,ws[i]?=some x:=⟨_,gE hil⟩;obtain⟨_,hwE⟩:=gS hw';have hq:=CY gl w' (hw _ (gM hw'));have hw0:IntKind.i64.wrap ((i:Int)+1)=(i:Int)+1:=qm qA qA
  cases hs:zq w' with
  | none =>
   have hno:=Xb hw' hs;rw [li hs] at hq;have fx:=jI h0 h5 h4 hp4 hil hw'<|hwE;have c1:=hq;refine qK ?_;clear fx c1;refine qF [(.s 2,root)] (.one rfl) qE ?_;rw [hno];simp
  | some b =>
   rw [tH hs] at hq;have hb0:¬ (b:Int)<0:=qA;have fx:=vI h0 h5 h4 hp4 hil hw' hwE hb0<|hw0;have c1:=hq;refine qK ?_;clear fx c1;refine⟨ws.length - (i+1),qA,i+1,ns++[b],rfl,qA,Xd hw' hns hs,vg,by simp [hw0],qB,?_⟩;have hmap:(ns++[b]).map (λ(n:Nat)=>(n:Int))=ns.map (λ(n:Nat)=>(n:Int))++[(b:Int)]:=qB;rw [hmap,<- SV];have hLl:(ns.map λ(n:Nat)=>(n:Int)).length=ns.length:=qB;generalize (ns.map λ(n:Nat)=>(n:Int))=L at hLl ⊢;rw [<- hLl];simp [qj]
 .have hge:i=ws.length:=qA;rw [hge,kC] at hns;refine qJ ?_<|zN h0 h5 h4 hp4<|hil;refine qF [(.s 2,root)] (.one rfl) qE ?_;rw [hns];simp [hp4]
end Go.Proofs.YtjgpejikjhojcaaGreatDoor
end
section
set_option maxHeartbeats 8000000
namespace Go.Proofs.YtjgpejikjhojcaaGreatDoor
open Go Go.Hm Go.Proofs
abbrev Vw:qV:=kf<|.l 11 []<|.l 12 []<|.done
attribute [local simp] wC
abbrev mz (ns:List Nat):List Int:=ns.map λ(n:Nat)=>(n:Int)
def tc (k:Nat) (ns:List Nat):AV->Prop:=λy=>∃ S:q8,y=.zX [S.av,bv (ac k ns).isSome]/\∀ s,ac k ns=some s->S=s
theorem CB {k:Nat} (hk:k<12):k=7\/k=8\/k=2\/k=5\/k=6\/9<=k\/(k<7/\k≠2/\k≠5/\k≠6):=qA
theorem KZ {l:List Nat} (h:l.length=2):∃ a b,l=[a,b]:=by
 rcases l with _|⟨a,_|⟨b,_|⟨c,l⟩⟩⟩
 .simp at h
 .simp at h
 .exact⟨a,b,rfl⟩
 .simp at h
theorem TL {l:List Nat} (h:l.length=3):∃ a b c,l=[a,b,c]:=by
 rcases l with _|⟨a,_|⟨b,_|⟨c,_|⟨d,l⟩⟩⟩⟩
 .simp at h
 .simp at h
 .simp at h
 .exact⟨a,b,c,rfl⟩
 .simp at h
theorem ca {A G G2:Prop} (k:G2) (x:A) (h:A->jL G2->G:=by
 intro fx kk;refine qK ?_
 repeat ((first|refine qQ (id:=15) Vw mixed ?_);refine zK ?_;refine qK ?_)
 exact kk.h):G:=h x ⟨k⟩
theorem δ (gl) (k:Nat) (a:Nat) (hk:k<12):qM Tryz.prog gl 79 [iv k,jG (mz [a])] (λ_ y _=>tc k [a] y):=by
 refine qM.q9 Tryz.func79 [.cell 4 87,.tmp 5] Tryz.ntmps79 λC w g root=>?_;rcases CB hk with rfl|rfl|rfl|rfl|rfl|h9|⟨h7,n2,n5,n6⟩
 .skip
  refine ca ?_<|qd;exact qF [] .nil qE ⟨⟨7,0,a,0⟩,vf,vf⟩
 .skip
  refine ca ?_<|qd;exact qF [] .nil qE ⟨⟨8,0,a,0⟩,vf,vf⟩
 .skip
  refine ca ?_<|qd;exact qF [] .nil qE ⟨⟨2,0,0,0⟩,vf,vf⟩
 .skip
  refine ca ?_<|qd;exact qF [] .nil qE ⟨⟨5,0,0,0⟩,vf,vf⟩
 .skip
  refine ca ?_<|qd;exact qF [] .nil qE ⟨⟨6,0,0,0⟩,vf,vf⟩
 .skip
  have e7:((k:Int)==7)=false:=qu;have e8:((k:Int)==8)=false:=qu;have e2:((k:Int)==2)=false:=qu;have e5:((k:Int)==5)=false:=qu;have e6:((k:Int)==6)=false:=qu;have c7:¬ k=7:=qA;have c8:¬ k=8:=qA;have c2:¬ k=2:=qA;have c5:¬ k=5:=qA;have c6:¬ k=6:=qA;have i9:(9:Int)<=k:=qA;have l7:¬ k<7:=qA;have i7:¬ (k:Int)<7:=qA;refine ca ?_<|qh e7 e8 e2 e5 e6 c7 c8 c2 c5 c6 h9 i9<|aI l7<|i7;exact qF [] .nil qE ⟨⟨k,a,0,0⟩,rt,rt⟩
 .skip
  have e7:((k:Int)==7)=false:=qu;have e8:((k:Int)==8)=false:=qu;have e2:((k:Int)==2)=false:=qu;have e5:((k:Int)==5)=false:=qu;have e6:((k:Int)==6)=false:=qu;have c7:¬ k=7:=qA;have c8:¬ k=8:=qA;have c2:¬ k=2:=qA;have c5:¬ k=5:=qA;have c6:¬ k=6:=qA;have i9:¬ (9:Int)<=k:=qA;have h9:¬ 9<=k:=qA;have i7:(k:Int)<7:=qA;refine ca ?_<|qh e7 e8 e2 e5 e6 c7 c8 c2 c5 c6 h9 i9<|aI h7<|i7;exact qF [] .nil qE ⟨⟨k,0,0,0⟩,rY,rY⟩
theorem ε (gl) (k:Nat) (a b:Nat) (hk:k<12):qM Tryz.prog gl 79 [iv k,jG (mz [a,b])] (λ_ y _=>tc k [a,b] y):=by
 refine qM.q9 Tryz.func79 [.cell 4 87,.tmp 5] Tryz.ntmps79 λC w g root=>?_;rcases CB hk with rfl|rfl|rfl|rfl|rfl|h9|⟨h7,n2,n5,n6⟩
 .skip
  refine ca ?_<|qd;exact qF [] .nil qE ⟨⟨7,0,0,0⟩,vf,vf⟩
 .skip
  refine ca ?_<|qd;exact qF [] .nil qE ⟨⟨8,0,0,0⟩,vf,vf⟩
 .skip
  refine ca ?_<|qd;exact qF [] .nil qE ⟨⟨2,0,0,0⟩,vf,vf⟩
 .skip
  refine ca ?_<|qd;exact qF [] .nil qE ⟨⟨5,a,b,-1⟩,vf,vf⟩
 .skip
  refine ca ?_<|qd;exact qF [] .nil qE ⟨⟨6,0,0,0⟩,vf,vf⟩
 .skip
  have e7:((k:Int)==7)=false:=qu;have e8:((k:Int)==8)=false:=qu;have e2:((k:Int)==2)=false:=qu;have e5:((k:Int)==5)=false:=qu;have e6:((k:Int)==6)=false:=qu;have c7:¬ k=7:=qA;have c8:¬ k=8:=qA;have c2:¬ k=2:=qA;have c5:¬ k=5:=qA;have c6:¬ k=6:=qA;have i9:(9:Int)<=k:=qA;have l7:¬ k<7:=qA;have i7:¬ (k:Int)<7:=qA;refine ca ?_<|qh e7 e8 e2 e5 e6 c7 c8 c2 c5 c6 h9 i9<|aI l7<|i7;exact qF [] .nil qE ⟨⟨k,0,0,0⟩,rt,rt⟩
 .skip
  have e7:((k:Int)==7)=false:=qu;have e8:((k:Int)==8)=false:=qu;have e2:((k:Int)==2)=false:=qu;have e5:((k:Int)==5)=false:=qu;have e6:((k:Int)==6)=false:=qu;have c7:¬ k=7:=qA;have c8:¬ k=8:=qA;have c2:¬ k=2:=qA;have c5:¬ k=5:=qA;have c6:¬ k=6:=qA;have i9:¬ (9:Int)<=k:=qA;have h9:¬ 9<=k:=qA;have i7:(k:Int)<7:=qA;refine ca ?_<|qh e7 e8 e2 e5 e6 c7 c8 c2 c5 c6 h9 i9<|qk h7 i7<|@qz;exact qF [] .nil qE ⟨⟨k,a,b,0⟩,rY,rY⟩
end Go.Proofs.YtjgpejikjhojcaaGreatDoor
end
section
set_option maxHeartbeats 8000000
namespace Go.Proofs.YtjgpejikjhojcaaGreatDoor
open Go Go.Hm Go.Proofs
abbrev Vx:qV:=kf<|.l 11 []<|.l 12 []<|.done
attribute [local simp] wC
theorem cd {A G G2:Prop} (k:G2) (x:A) (h:A->jL G2->G:=by
 intro fx kk;refine qK ?_
 repeat ((first|refine qQ (id:=15) Vx mixed ?_);refine zK ?_;refine qK ?_)
 exact kk.h):G:=h x ⟨k⟩
theorem ζ (gl) (k:Nat) (a b c:Nat) (hk:k<12):qM Tryz.prog gl 79 [iv k,jG (mz [a,b,c])] (λ_ y _=>tc k [a,b,c] y):=by
 refine qM.q9 Tryz.func79 [.cell 4 87,.tmp 5] Tryz.ntmps79 λC w g root=>?_;rcases CB hk with rfl|rfl|rfl|rfl|rfl|h9|⟨h7,n2,n5,n6⟩
 .skip
  refine cd ?_<|qd;exact qF [] .nil qE ⟨⟨7,0,0,0⟩,vf,vf⟩
 .skip
  refine cd ?_<|qd;exact qF [] .nil qE ⟨⟨8,0,0,0⟩,vf,vf⟩
 .skip
  refine cd ?_<|qd;exact qF [] .nil qE ⟨⟨2,a,b,c⟩,vf,vf⟩
 .skip
  refine cd ?_<|qd;exact qF [] .nil qE ⟨⟨5,a,b,c⟩,vf,vf⟩
 .skip
  refine cd ?_<|qd;exact qF [] .nil qE ⟨⟨6,a,b,c⟩,vf,vf⟩
 .skip
  have e7:((k:Int)==7)=false:=qu;have e8:((k:Int)==8)=false:=qu;have e2:((k:Int)==2)=false:=qu;have e5:((k:Int)==5)=false:=qu;have e6:((k:Int)==6)=false:=qu;have c7:¬ k=7:=qA;have c8:¬ k=8:=qA;have c2:¬ k=2:=qA;have c5:¬ k=5:=qA;have c6:¬ k=6:=qA;have i9:(9:Int)<=k:=qA;have l7:¬ k<7:=qA;have i7:¬ (k:Int)<7:=qA;refine cd ?_<|qh e7 e8 e2 e5 e6 c7 c8 c2 c5 c6 h9 i9<|aI l7<|i7;exact qF [] .nil qE ⟨⟨k,0,0,0⟩,rt,rt⟩
 .skip
  have e7:((k:Int)==7)=false:=qu;have e8:((k:Int)==8)=false:=qu;have e2:((k:Int)==2)=false:=qu;have e5:((k:Int)==5)=false:=qu;have e6:((k:Int)==6)=false:=qu;have c7:¬ k=7:=qA;have c8:¬ k=8:=qA;have c2:¬ k=2:=qA;have c5:¬ k=5:=qA;have c6:¬ k=6:=qA;have i9:¬ (9:Int)<=k:=qA;have h9:¬ 9<=k:=qA;have i7:(k:Int)<7:=qA;refine cd ?_<|qh e7 e8 e2 e5 e6 c7 c8 c2 c5 c6 h9 i9<|aI h7<|i7;exact qF [] .nil qE ⟨⟨k,0,0,0⟩,rY,rY⟩
theorem γ (gl) (k:Nat) (ns:List Nat) (hk:k<12) (h1:ns.length≠1) (h2:ns.length≠2) (h3:ns.length≠3):qM Tryz.prog gl 79 [iv k,jG (mz ns)] (λ_ y _=>tc k ns y):=by
 have hno:ac k ns=none:=by
  rcases ns with _|⟨a,_|⟨b,_|⟨c,_|⟨d,l⟩⟩⟩⟩
  .rfl
  .simp at h1
  .simp at h2
  .simp at h3
  .rfl
 have hL:(mz ns).length=ns.length:=qB;generalize mz ns=L at hL ⊢;have d1:((L.length:Int)==1)=false:=qu;have d2:((L.length:Int)==2)=false:=qu;have d3:((L.length:Int)==3)=false:=qu;refine qM.q9 Tryz.func79 [.cell 4 87,.tmp 5] Tryz.ntmps79 λC w g root=>?_;rcases CB hk with rfl|rfl|rfl|rfl|rfl|h9|⟨h7,n2,n5,n6⟩
 .skip
  refine cd ?_<|qk d1 d2<|d3;exact qF [] .nil qE ⟨⟨7,0,0,0⟩,yO,yO⟩
 .skip
  refine cd ?_<|qk d1 d2<|d3;exact qF [] .nil qE ⟨⟨8,0,0,0⟩,yO,yO⟩
 .skip
  refine cd ?_<|qk d1 d2<|d3;exact qF [] .nil qE ⟨⟨2,0,0,0⟩,yO,yO⟩
 .skip
  refine cd ?_<|qk d1 d2<|d3;exact qF [] .nil qE ⟨⟨5,0,0,0⟩,yO,yO⟩
 .skip
  refine cd ?_<|qk d1 d2<|d3;exact qF [] .nil qE ⟨⟨6,0,0,0⟩,yO,yO⟩
 .skip
  have e7:((k:Int)==7)=false:=qu;have e8:((k:Int)==8)=false:=qu;have e2:((k:Int)==2)=false:=qu;have e5:((k:Int)==5)=false:=qu;have e6:((k:Int)==6)=false:=qu;have c7:¬ k=7:=qA;have c8:¬ k=8:=qA;have c2:¬ k=2:=qA;have c5:¬ k=5:=qA;have c6:¬ k=6:=qA;have i9:(9:Int)<=k:=qA;have l7:¬ k<7:=qA;have i7:¬ (k:Int)<7:=qA;refine cd ?_<|qh d1 d2 d3 e7 e8 e2 e5 e6 c7 c8 c2 c5<|zN c6 h9 i9 l7<|i7;exact qF [] .nil qE ⟨⟨k,0,0,0⟩,yO,yO⟩
 .skip
  have e7:((k:Int)==7)=false:=qu;have e8:((k:Int)==8)=false:=qu;have e2:((k:Int)==2)=false:=qu;have e5:((k:Int)==5)=false:=qu;have e6:((k:Int)==6)=false:=qu;have c7:¬ k=7:=qA;have c8:¬ k=8:=qA;have c2:¬ k=2:=qA;have c5:¬ k=5:=qA;have c6:¬ k=6:=qA;have i9:¬ (9:Int)<=k:=qA;have h9:¬ 9<=k:=qA;have i7:(k:Int)<7:=qA;refine cd ?_<|qh d1 d2 d3 e7 e8 e2 e5 e6 c7 c8 c2 c5<|zN c6 h9 i9 h7<|i7;exact qF [] .nil qE ⟨⟨k,0,0,0⟩,yO,yO⟩
theorem η (gl) (k:Nat) (ns:List Nat) (hk:k<12):qM Tryz.prog gl 79 [iv k,jG (mz ns)] (λ_ y _=>tc k ns y):=by
 by_cases h1:ns.length=1
 .obtain⟨a,rfl⟩:=BB.1 h1;exact δ gl k a hk
 by_cases h2:ns.length=2
 .obtain⟨a,b,rfl⟩:=KZ h2;exact ε gl k a b hk
 by_cases h3:ns.length=3
 .obtain⟨a,b,c,rfl⟩:=TL h3;exact ζ gl k a b c hk
 exact γ gl k ns hk h1 h2 h3
end Go.Proofs.YtjgpejikjhojcaaGreatDoor
end
section
namespace Go.Proofs.YtjgpejikjhojcaaGreatDoor
open Go Go.Hm Go.Proofs Tryz
theorem Mx (gl) (v:qU) (c:UInt8) (hv:v.length<=1048577):qM prog gl 41 [tx v,.sc (.int .u8 (c.toNat:Int))] (λ_ y _=>y=jd (zM c v)) :=
 (Zh gl v c hv).settle λr y H' h=>⟨jd (zM c v),B3,rfl⟩
theorem G0 (gl) (l:qU) (hl:l.length<=1048577):qM prog gl 41 [tx l,.sc (.int .u8 32)] (λ_ y _=>y=jd (zM 32 l)):=Mx gl l 32 hl
theorem Zg (gl) (l:qU) (hl:l.length<=1048577):qM prog gl 41 [tx l,.sc (.int .u8 10)] (λ_ y _=>y=jd (zM 10 l)):=Mx gl l 10 hl
abbrev AS:qV:=bF<|.done
attribute [local simp] wC
theorem NK (gl):qM prog gl 78 [] (λ_ y _=>y=jd vH) :=
 (θ gl).settle λr y H' h=>⟨jd vH,B3,rfl⟩
theorem xy {A G G2:Prop} (k:G2) (x:A) (h:A->jL G2->G:=by
 intro fx kk;refine qK ?_
 repeat ((first|refine qQ (id:=7) AS mixed ?_);refine zK ?_;refine qK ?_)
 exact kk.h):G:=h x ⟨k⟩
theorem Za (gl) (l:qU) (hl:l.length<=1048577):qM prog gl 43 [tx l] (λ_ y _=>∃ S:q8,y=.zX [S.av,bv (df l).isSome]/\∀ s,df l=some s->S=s):=by
 have hsp:=G0 gl l hl;have hne:=eb (c:=32) (l:=l);have hlen:=tK (c:=32) (s:=l);have hpart:=pb (c:=32) (s:=l)
 have hrS:∀ u us,zM 32 l=u::us->df l=match wO u,vA us with|some k,some ns=>ac k ns|_,_=>none:=by
  intro u us e;unfold df;rw [e]
  rfl
 generalize df l=RS at hrS ⊢;generalize zM 32 l=W at hsp hne hlen hpart hrS
 obtain⟨u,us,rfl⟩:∃ u us,W=u::us:=by cases W with
  | nil=>exact absurd rfl hne
  | cons u us=>exact⟨u,us,rfl⟩
 have hrs:=hrS u us rfl;have hul:us.length<=1048577:=by simp at hlen;omega
 have hus:∀ v∈us,v.length<=1048577:=λv hv=>by have:=hpart v sF;omega
 have hrn:=MF gl us hul hus;have h1:(1:Int)<=(us.length:Int)+1:=qA;have hw12:vH.length=12:=rfl;refine qM.q9 func43 [.cell 2 87,.tmp 3] ntmps43 λC w g root=>?_
 cases hns:vA us with
 | none =>
  rw [hns] at hrs hrn;have hno:RS=none:=by rw [hrs];cases wO u <;> rfl
  have fx:= h1;have p1:=hsp;have e1:=hrn;refine zf ?_
  repeat ((first|refine qQ (id:=7) AS mixed ?_);refine vU ?_;refine zf ?_)
  clear fx p1 e1;rintro K hK y H' ⟨rfl,hH'⟩;refine⟨qB,?_⟩;have fx:=qd;have p1:=NK gl;refine zf ?_
  repeat ((first|refine qQ (id:=7) AS mixed ?_);refine vU ?_;refine zf ?_)
  clear fx p1;refine zQ (λn st=>n=0/\st.tm 2=.pt (.s 2) 0/\st.hp (.s 2)=some (.row 4 [[iv 0,iv 0,iv 0,iv 0]])/\st.tm 6=bv false/\st.tm 7=jd vH/\st.tm 8=iv 0) 0 ⟨rfl,qB,qB,qB,qB,qB⟩ ?_;rintro n st - - ⟨rfl,h2,hp2,h6,h7,h8⟩;refine xy ?_<|jH h2 hp2 h6 h7 h8<|hw12;refine qF [] .nil ge ⟨⟨0,0,0,0⟩,yO,yO⟩
 | some ns =>
  rw [hns] at hrs hrn;have fx:= h1;have p1:=hsp;have e1:=hrn;refine zf ?_
  repeat ((first|refine qQ (id:=7) AS mixed ?_);refine vU ?_;refine zf ?_)
  clear fx p1 e1;rintro K hK y H' ⟨rfl,hH'⟩;refine⟨qB,?_⟩;have fx:=qd;have p1:=NK gl;refine zf ?_
  repeat ((first|refine qQ (id:=7) AS mixed ?_);refine vU ?_;refine zf ?_)
  clear fx p1;refine zQ (λn st=>∃ i:Nat,n=12 - i/\i<=12/\(∀ j,j<i->∀ x,vH[j]?=some x->x≠u)/\st.tm 2=.pt (.s 2) 0/\st.hp (.s 2)=some (.row 4 [[iv 0,iv 0,iv 0,iv 0]])/\st.tm 6=bv true/\st.tm 7=jd vH/\st.tm 8=iv i/\st.tm 4=jd (u::us)/\st.tm 5=.hs (.s 5) 1 0 ns.length/\st.hp (.s 5)=some (.row 1 (qj (mz ns)))) 12 ?_ ?_
  .exact⟨0,qA,qA,λj hj=>qA,qB,qB,qB,qB,qB,qB,qB,by simp [aE hH' qB]⟩
  clear hH';rintro n st - - ⟨i,rfl,hi,hno,h2,hp2,h6,h7,h8,h4,h5,hp5⟩;have hwi:IntKind.i64.wrap ((i:Int)+1)=(i:Int)+1:=qm qA qA;by_cases hil:i<12
  .have hii:(i:Int)<12:=qA;obtain⟨x,hx⟩:∃ x,vH[i]?=some x:=⟨_,gE (by rw [hw12];exact hil)⟩;obtain⟨_,hxE⟩:=gS hx;by_cases he:x=u
   .have hkw:=KC hx he hno;rw [hkw] at hrs;have hb:(x==u)=true:=oc;have fx:=qh h2 hp2 h6 h7 h8 h4 h5 hp5 hw12 hil hii hx<|aI hxE<|hb;have e1:=η gl i ns hil;refine xy ?_<|@fx;clear fx e1;rintro K hK y H2 ⟨⟨sk,so,sa,sb⟩,rfl,hS⟩;refine⟨qB,?_⟩;have hrs2:RS=ac i ns:=hrs;refine xy ?_<|aI h2<|hp2;refine qF [] .nil ge ⟨⟨sk,so,sa,sb⟩,by simp [hrs2],λs hs=>hS s (by rw [<- hrs2];exact hs)⟩
   .have hb:(x==u)=false:=oc;refine xy ?_<|qh h2 hp2 h6 h7 h8 h4 h5 hp5 hw12 hil hii hx<|qk hxE hb<|hwi;refine⟨12 - (i+1),qA,i+1,rfl,qA,λj hj y hy=>?_,ya,yw,vt,b7,by simp [hwi],wv,yH,wt⟩;by_cases hji:j=i
    .subst hji;rw [hx] at hy;obtain rfl:=sI hy;exact he
    .exact hno j qA y hy
  .have hkn:=KD (v:=u) λj hj=>hno j qA;rw [hkn] at hrs;have hno2:RS=none:=hrs;have hin:¬ (i:Int)<12:=qA;refine xy ?_<|jN h2 hp2 h6 h7 h8 hw12 hil<|hin;refine qF [] .nil ge ⟨⟨0,0,0,0⟩,by simp [hno2],by simp [hno2]⟩
end Go.Proofs.YtjgpejikjhojcaaGreatDoor
end
