import Derived.Test.YtjgpejikjhojcaaGreatDoorD22
import Derived.Test.YtjgpejikjhojcaaGreatDoorD16
set_option linter.all false
set_option maxRecDepth 100000
set_option maxHeartbeats 4000000
open Option renaming some->Z,none->Y
open Bool renaming true->B,false->M
open List renaming length->O

section
namespace Go.Proofs.YtjgpejikjhojcaaGreatDoor
open Go Go.Hm Go.Proofs Tryz
abbrev Hk:qV:=.q 1<|.q 2<|.l 0 [2,1]<|.q 3<|.q 4<|.l 5 []<|.done
abbrev Hl:qV:=.q 0<|.q 1<|.q 5<|.q 6<|.q 7<|.q 8<|.l 2 [8,7,6,5]<|.q 3<|.q 4<|.l 9 [4,3]<|.q 10<|.l 11 []<|.done
attribute [local simp] kM
def Sm:∀n,n<10->([48,49,50,51,52,53,54,55,56,57]:qZ).drop n=dg n::([48,49,50,51,52,53,54,55,56,57]:qZ).drop (n+1):=qf
def HJ(n:Nat):O (yx n)<=n+1:=by
 induction n using Nat.strongRecOn with
 |_ n ih=>
  rw[yx]
  split
  .simp
  .have:=ih (n/10) qA;simp;omega
def NI(gl):∀(k n:Nat),n<=k->n<1152921504606846976->qL prog gl 33 [iv n] (λ_ y _=>y=tx (yx n)):=by
 intro k
 induction k with
 |zero=>
  intro n hk hn;obtain rfl:n=0:=qA;have hw1:IntKind.i64.wrap 1=1:=qk qA qA;refine qL.q9 func33 [.tmp 2] ntmps33 λC w g root=>?_;refine qH ?_<| hw1;refine qE [] .nil qD ?_;simp[yx]
  rfl
 |succ k ih=>
  intro n hk hn;have hw1:IntKind.i64.wrap ((n:Int)+1)=n+1:=qk qA qA;have n0:¬(n:Int)<0:=qA;by_cases h:n<10
  .have hd:=Sm n h;have hi:(n:Int)<10:=qA;have h1:(n:Int)<=9:=qA;have h2:((n:Int)+1).toNat=n+1:=qA;have h3:(n:Int)<=(n:Int)+1:=qA;have h4:(n:Int)+1<=10:=qA;have h5:(0:Int)<=(n:Int):=qA;have h6:n+1-n=1:=qA;refine qL.q9 func33 [.tmp 2] ntmps33 λC w g root=>?_;refine qH ?_<|ya hw1 n0 hi h1 h2 h3 h4 h5 h6<|hd;refine qE [] .nil qD ?_;rw[yx,if_pos h];simp
  .have hi:¬(n:Int)<10:=qA;obtain⟨q,hq⟩:∃q,q=n/10:=⟨_,rfl⟩;obtain⟨r,hr⟩:∃r,r=n%10:=⟨_,rfl⟩
   have hwq:IntKind.i64.wrap ((n:Int)/10)=(q:Int):=by
    rw[show(n:Int)/10=(q:Int)by omega];exact qk qA qA
   have hwr:(n:Int).tmod 10=(r:Int):=by
    rw[hr]
    rfl
   have q1:=ih q qA qA;have q2:=ih r qA qA;have hl1:=HJ q;have hl2:=HJ r;have hl:O (yx q)+O (yx r)<=9223372036854775807:=qA;refine qL.q9 func33 [.tmp 2] ntmps33 λC w g root=>?_;have fx:=zJ n0 hi hwq hwr<|hl;have c1:=q1;have c2:=q2;refine qK ?_;clear fx c1 c2;refine qE [] .nil qD ?_;rw[HK (n:=r) qA]
   conv=>rhs;rw[yx,if_neg h,<- hq,<- hr]
   simp
def iR(gl)(n:Int)(h0:-1000000<=n)(h1:n<=1000000):qL prog gl 33 [iv n] (λ_ y _=>y=tx (vL n)):=by
 by_cases h:n<0
 .obtain⟨k,rfl⟩:∃k:Nat,n=-(k:Int):=⟨(-n).toNat,qA⟩;have q:=NI gl k k (qb _) qA;have hl1:=HJ k;have hl:O (yx k)+1<=9223372036854775807:=qA;have hl':1+O (yx k)<=9223372036854775807:=qA;have hk0:0<k:=qA;have hk1:¬k=0:=qA;have hne:¬ -(k:Int)=(k:Int):=qA;have hwn:IntKind.i64.wrap (k:Int)=k:=qk qA qA;refine qL.q9 func33 [.tmp 2] ntmps33 λC w g root=>?_;have fx:=zx hwn hk0 hk1 hne hl<|hl';have c1:=q;refine qK ?_;clear fx c1;refine qE [] .nil qD ?_;simp[vL,h,hk1]
 .obtain⟨k,rfl⟩:∃k:Nat,n=(k:Int):=⟨n.toNat,qA⟩;rw[xf];exact NI gl k k (qb _) qA
def PV(gl):qL prog gl 78 [] (λr y H'=>y=.hs r 1 0 (O ye)/\H' r=Z (.row 1 (uJ ye))):=by
 refine qL.q9 func78 [.tmp 0] ntmps78 λC w g root=>?_;refine qH ?_<|qW;exact yg (t:=0) ji ji qB
theorem Wj(gl)(s:qT):qL prog gl 138 [qT.av s] (λr y H'=>y=.hs r 1 0 (O (em s))/\H' r=Z (.row 1 (qh (em s)))):=by
 refine qL.q9 func138 [.tmp 2] ntmps138 λC w g root=>?_;obtain⟨kind,to,a,b⟩:=s
 all_goals have fx:=qW
 repeat'(first|refine zf ?_|refine λ(K:St->Prop)hK=>?_|refine vr (h1:=λht=>?_) (h2:=λht=>?_))
 all_goals try clear fx
 all_goals refine yg (t:=2) ?_ ?_ ?_
 all_goals simp_all[em,qh]
def qB0(gl)(s:qT)(hs:vb s):qL prog gl 93 [qT.av s] (λ_ y _=>y=tx (cK s)):=by
 have hnum:=hs.NJ;have hkd:=hs.kind;have hn3:=NK (s:=s);have hnf:=Wj gl s;have hsh:cK s=uS (ye.getD s.kind.toNat []) (em s):=rfl;rw[hsh];generalize em s=ns at hnum hn3 hnf;obtain⟨kd,to,a,b⟩:=s;simp only at hkd;obtain⟨K,rfl⟩:∃K:Nat,kd=K:=⟨kd.toNat,qA⟩;have hK:K<12:=qA;have hKl:K<O ye:=hK;obtain⟨v,hw⟩:=gX hKl;obtain⟨_,hwE⟩:=gS hw;have hwg:ye.getD ((K:Int)).toNat []=v:=by simp[bO,hw]
 have hwl:=(PU K hK).2;rw[show ye.getD K []=v by simp[bO,hw]]at hwl;simp only[hwg];refine qL.q9 func93 [.tmp 2] ntmps93 λC w g root=>?_;have fx:=qz hK hKl hw<|hwE;have d1:=PV gl;have d2:=hnf;refine qK ?_
 repeat((first|refine qP (id:=1) Hk mixed ?_);refine zC ?_;refine qK ?_)
 clear fx d1 d2;refine zK (λn st=>∃i:Nat,n=O ns-i/\i<=O ns/\st.tm 4=.hs (.s 4) 1 0 (O ns)/\st.hp (.s 4)=Z (.row 1 (qh ns))/\st.tm 5=iv i/\st.tm 3=tx (uS v (ns.take i))) (O ns) ?_ ?_
 .exact⟨0,qA,qA,qB,qB,qB,by simp[uS]⟩
 rintro n st - - ⟨i,rfl,hi,h4,hp4,h5,h3⟩;by_cases hil:i<O ns
 .obtain⟨x,hx⟩:=gX hil;obtain⟨_,hxE⟩:=gS hx;have hxs:=hnum x (gM hx);have hwl2:=Iq (w:=v) (qBg (i:=i) hnum);have hxl:=B3 hxs;rw[ge]at hwl2;have hl1:∀c,2000000000<=c->O (uS v (ns.take i))+1<=c:=λc hc=>qA;have hl2:∀c,2000000000<=c->O (uS v (ns.take i))+1+O (vL x)<=c:=λc hc=>qA;have fx:=y9 h4 hp4 h5 h3 hil hx hxE hl1<|hl2;have c1:=iR gl x qA qA;refine qK ?_
  repeat((first|refine qP (id:=1) Hk mixed ?_);refine zC ?_;refine qK ?_)
  clear fx c1;refine⟨O ns-(i+1),qA,i+1,rfl,qA,vO,aJ,by simp[h5];exact qk qA qA,by simp[qEG hx]⟩
 .obtain rfl:i=O ns:=qA;have fx:=zJ h4 hp4 h5 h3<|hil;refine qK ?_
  repeat((first|refine qP (id:=1) Hk mixed ?_);refine zC ?_;refine qK ?_)
  clear fx;refine qE [] .nil Cz ?_;simp
def qBZ(gl)(k:qY)(hk:sX k)(hp1:O k.params<=1):qL prog gl 92 [qY.av k] (λ_ y _=>y=tx (aV k)):=by
 have hpar:=hk.parent;have hpl:=B3 hpar;have hl1:∀c,2000000000<=c->O (vL k.parent)<=c:=λc hc=>qA;have hl3:∀c,2000000000<=c->3+O (vL k.parent)<=c:=λc hc=>qA;refine qL.q9 func92 [.tmp 2] ntmps92 λC w g root=>?_;by_cases h2:k.kind=2
 .have hb:(k.kind==2)=B:=lH;have fx:=ql hb hl1<|hl3;have c1:=iR gl k.parent qA qA;refine qK ?_
  repeat((first|refine qP (id:=5) Hl mixed ?_);refine zC ?_;refine qK ?_)
  clear fx c1;refine qE [] .nil qD ?_;simp[aV,h2,uS,aX,cM]
 have hb:(k.kind==2)=M:=lH
 cases hps:k.params with
 |nil=>
  have fx:=qz hb hps hl1<|hl3;have c1:=iR gl k.parent qA qA;refine qK ?_
  repeat((first|refine qP (id:=5) Hl mixed ?_);refine zC ?_;refine qK ?_)
  clear fx c1;refine qE [] .nil qD ?_;simp[aV,h2,uS,aX,aW,hps]
 |cons x l=>
  obtain rfl:l=[]:=by
   rw[hps]at hp1;exact bN (by simpa using hp1)
  have hxs:=hk.params x (by simp[hps]);have hxl:=B3 hxs;have hl5:∀c,2000000000<=c->O (vL k.parent)+O (vL x)<=c:=λc hc=>qA;have hl6:∀c,2000000000<=c->O (vL k.parent)+5+1+1+1+O (vL x)<=c:=λc hc=>qA;have fx:=zx hb hps hl1 hl3 hl5<|hl6;have c1:=iR gl k.parent qA qA;have c2:=iR gl x qA qA;refine qK ?_
  repeat((first|refine qP (id:=5) Hl mixed ?_);refine zC ?_;refine qK ?_)
  clear fx c1 c2;refine qE [] .nil qD ?_;simp[aV,h2,uS,aX,aW,hps]
def Tg(gl)(p:qC)(hp:iu p):qL prog gl 57 [jB p] (λ_ y _=>y=tx (rl p)):=by
 have hl7:=hp.len;refine qL.q9 func57 [.tmp 2] ntmps57 λC w g root=>?_;refine qH ?_<|qW;refine zK (λn st=>∃b:Nat,n=O p-b/\b<=O p/\st.tm 1=.pt (.s 1) 0/\st.hp (.s 1)=Z (.row 1 [[j6 p]])/\st.tm 4=iv b/\st.tm 3=tx (y5 10 (wo p b))) (O p) ?_ ?_
 .exact⟨0,qA,qA,qB,qB,qB,by simp[D0,y5]⟩
 rintro n st - - ⟨b,rfl,hb,h1,hp1,h4,h3⟩;by_cases qv:b<O p
 .obtain⟨k,hk⟩:=gX qv;obtain⟨_,hkE⟩:=gS hk;have hkm:=gM hk;have hbody:=hp.body k hkm;have hL0:=TZ hp hb;have hb0:b=0\/0<b:=qA;rcases hb0 with hb0|hb0
  case' inl=>
   have hbi:¬0<b:=qA;have hbt:wj b k 0=[]:=by simp[wj,hb0]
   refine qH ?_<|jA h1 hp1 h4 h3 qv hk hkE<|hbi
  case' inr=>
   have hhd:=hp.bg.jK b k hk hb0;have hhl:=Om hhd (hp.par k hkm)
   have hbt:wj b k 0=[aV k]:=by
    have:¬b=0:=qA;simp[wj,this]
   have hL1:∀c,2000000000<=c->O (y5 10 (wo p b))+O (aV k)<=c:=λc hc=>qA;have hL2:∀c,2000000000<=c->O (y5 10 (wo p b))+O (aV k)+1<=c:=λc hc=>qA;have fx:=ya h1 hp1 h4 h3 qv hk hkE hb0 hL1<|hL2;have c1:=qBZ gl k hhd (hp.par k hkm);refine qK ?_;clear fx c1
  all_goals
   refine zK (λn st=>∃i:Nat,n=O k.body-i/\i<=O k.body/\st.tm 1=.pt (.s 1) 0/\st.hp (.s 1)=Z (.row 1 [[j6 p]])/\st.tm 4=iv b/\st.tm 5=iv i/\st.tm 3=tx (y5 10 (wo p b++wj b k i))) (O k.body) ?_ ?_
   .exact⟨0,qA,qA,zY,vY,vO,qB,by simp[h3,hbt,M7,Gt,y5]⟩
   clear h1 hp1 h4 h3 hbt;rintro n st - - ⟨i,rfl,hi,h1,hp1,h4,h5,h3⟩;by_cases hil:i<O k.body
   .obtain⟨s,hs⟩:=gX hil;obtain⟨_,hsE⟩:=gS hs;have hst:=hp.bg.eM k hkm s (gM hs);have hsl:=On hst;have hL3:=TY (i:=i) hp hk;have hL4:∀c,2000000000<=c->O (y5 10 (wo p b++wj b k i))+O (cK s)<=c:=λc hc=>qA;have hL5:∀c,2000000000<=c->O (y5 10 (wo p b++wj b k i))+O (cK s)+1<=c:=λc hc=>qA
    have hnext:y5 10 (wo p b++wj b k (i+1))=y5 10 (wo p b++wj b k i)++(cK s++[10]):=by
     rw[R9 hs,<- gm,Gt]
    generalize y5 10 (wo p b++wj b k i)=L at h3 hL4 hL5 hnext;have fx:=qg h1 hp1 h4 h5 h3 qv hk hkE hil hs hsE hL4<|hL5;have c1:=qB0 gl s hst;refine qK ?_;clear fx c1;refine⟨O k.body-(i+1),qA,i+1,rfl,qA,zY,vY,vO,by simp[h5];exact qk qA qA,by simp[hnext]⟩
   .obtain rfl:i=O k.body:=qA;rw[Jo,<- G4 hk]at h3;refine qH ?_<|y9 h1 hp1 h4 h5 h3 qv hk hkE<|hil;refine⟨O p-(b+1),qA,b+1,rfl,qA,zY,vY,FO,jr⟩
 .obtain rfl:b=O p:=qA;refine qH ?_<|zJ h1 hp1 h4 h3<|qv;refine qE [] .nil Cz ?_;simp[rl,G3]
end Go.Proofs.YtjgpejikjhojcaaGreatDoor
end
section
namespace Go.Proofs.YtjgpejikjhojcaaGreatDoor
open Go Go.Hm Go.Proofs Tryz
open Go.Shelf
def oz:Ren:=⟨fun|0=>0|1=>1|2=>2|129=>197|138=>133|143=>134|146=>54|166=>21|169=>22|171=>30|195=>184|197=>185|217=>225|218=>186|219=>187|221=>88|224=>227|225=>226|240=>56|243=>63|246=>102|260=>224|266=>238|267=>228|268=>132|276=>91|283=>147|284=>148|285=>149|286=>150|314=>239|317=>196|318=>198|319=>199|320=>200|337=>232|338=>233|347=>242|348=>243|349=>244|350=>245|351=>246|352=>247|353=>248|354=>249|355=>250|356=>251|357=>252|358=>253|359=>254|360=>255|361=>256|362=>257|366=>267|367=>278|n=>n,fun|0=>0|1=>1|2=>2|3=>3|4=>4|5=>5|6=>6|7=>7|8=>8|9=>9|10=>10|11=>11|12=>12|13=>13|14=>14|15=>15|16=>16|17=>17|18=>18|19=>19|20=>20|21=>21|26=>31|27=>218|28=>38|29=>151|30=>210|31=>22|36=>57|37=>28|46=>287|47=>288|51=>285|52=>315|53=>230|54=>231|55=>276|61=>95|70=>46|71=>47|72=>48|74=>49|75=>50|76=>51|77=>52|80=>53|81=>186|83=>63|84=>179|101=>26|102=>25|103=>37|105=>274|106=>275|111=>59|113=>160|114=>58|119=>318|127=>97|131=>161|137=>319|138=>320|139=>321|146=>322|150=>217|151=>323|164=>163|165=>164|171=>229|172=>232|173=>233|174=>234|211=>283|212=>284|213=>286|229=>93|232=>325|233=>326|238=>327|239=>328|240=>329|241=>330|242=>331|243=>332|244=>333|245=>334|246=>335|247=>336|248=>337|249=>338|n=>n,fun|1=>3|3=>5|4=>6|17=>2|18=>7|19=>8|n=>n⟩
def MZ:Lays.n166 prog oz:={mixed:=qc,f166:=func21.trans (congrArg Z qc),f240:=func56.trans (congrArg Z qc),f276:=func91.trans (congrArg Z qc),t0:=Tryz.underlying0,a0:=Tryz.isAgg0,z0:=Tryz.sizeOf0,v0:=Tryz.zeroValue0,t3:=Tryz.underlying3,a3:=Tryz.isAgg3,z3:=Tryz.sizeOf3,v3:=Tryz.zeroValue3,t4:=Tryz.underlying4,a4:=Tryz.isAgg4,z4:=Tryz.sizeOf4,v4:=Tryz.zeroValue4,t9:=Tryz.underlying9,a9:=Tryz.isAgg9,z9:=Tryz.sizeOf9,v9:=Tryz.zeroValue9,t20:=Tryz.underlying20,a20:=Tryz.isAgg20,z20:=Tryz.sizeOf20,v20:=Tryz.zeroValue20,t37:=Tryz.underlying28,a37:=Tryz.isAgg28,z37:=Tryz.sizeOf28,v37:=Tryz.zeroValue28,t70:=Tryz.underlying46,a70:=Tryz.isAgg46,z70:=Tryz.sizeOf46,v70:=Tryz.zeroValue46,t72:=Tryz.underlying48,a72:=Tryz.isAgg48,z72:=Tryz.sizeOf48,v72:=Tryz.zeroValue48,t75:=Tryz.underlying50,a75:=Tryz.isAgg50,z75:=Tryz.sizeOf50,v75:=Tryz.zeroValue50,t164:=Tryz.underlying163,a164:=Tryz.isAgg163,z164:=Tryz.sizeOf163,v164:=Tryz.zeroValue163}
def V7:Lays.n169 prog oz:={mixed:=qc,f169:=func22.trans (congrArg Z qc),t0:=Tryz.underlying0,a0:=Tryz.isAgg0,z0:=Tryz.sizeOf0,v0:=Tryz.zeroValue0,t3:=Tryz.underlying3,a3:=Tryz.isAgg3,z3:=Tryz.sizeOf3,v3:=Tryz.zeroValue3,t9:=Tryz.underlying9,a9:=Tryz.isAgg9,z9:=Tryz.sizeOf9,v9:=Tryz.zeroValue9,t37:=Tryz.underlying28,a37:=Tryz.isAgg28,z37:=Tryz.sizeOf28,v37:=Tryz.zeroValue28,t70:=Tryz.underlying46,a70:=Tryz.isAgg46,z70:=Tryz.sizeOf46,v70:=Tryz.zeroValue46,t72:=Tryz.underlying48,a72:=Tryz.isAgg48,z72:=Tryz.sizeOf48,v72:=Tryz.zeroValue48,t127:=Tryz.underlying97,a127:=Tryz.isAgg97,z127:=Tryz.sizeOf97,v127:=Tryz.zeroValue97}
def V8:Lays.n171 prog oz:={mixed:=qc,f129:=func197.trans (congrArg Z qc),f171:=func30.trans (congrArg Z qc),f243:=func63.trans (congrArg Z qc),f246:=func102.trans (congrArg Z qc),f283:=func147.trans (congrArg Z qc),f284:=func148.trans (congrArg Z qc),f285:=func149.trans (congrArg Z qc),f286:=func150.trans (congrArg Z qc),f317:=func196.trans (congrArg Z qc),f318:=func198.trans (congrArg Z qc),f319:=func199.trans (congrArg Z qc),f320:=func200.trans (congrArg Z qc),f337:=func232.trans (congrArg Z qc),f338:=func233.trans (congrArg Z qc),t0:=Tryz.underlying0,a0:=Tryz.isAgg0,z0:=Tryz.sizeOf0,v0:=Tryz.zeroValue0,t2:=Tryz.underlying2,a2:=Tryz.isAgg2,z2:=Tryz.sizeOf2,v2:=Tryz.zeroValue2,t3:=Tryz.underlying3,a3:=Tryz.isAgg3,z3:=Tryz.sizeOf3,v3:=Tryz.zeroValue3,t4:=Tryz.underlying4,a4:=Tryz.isAgg4,z4:=Tryz.sizeOf4,v4:=Tryz.zeroValue4,t5:=Tryz.underlying5,a5:=Tryz.isAgg5,z5:=Tryz.sizeOf5,v5:=Tryz.zeroValue5,t9:=Tryz.underlying9,a9:=Tryz.isAgg9,z9:=Tryz.sizeOf9,v9:=Tryz.zeroValue9,t20:=Tryz.underlying20,a20:=Tryz.isAgg20,z20:=Tryz.sizeOf20,v20:=Tryz.zeroValue20,t37:=Tryz.underlying28,a37:=Tryz.isAgg28,z37:=Tryz.sizeOf28,v37:=Tryz.zeroValue28,t46:=Tryz.underlying287,a46:=Tryz.isAgg287,z46:=Tryz.sizeOf287,v46:=Tryz.zeroValue287,t51:=Tryz.underlying285,a51:=Tryz.isAgg285,z51:=Tryz.sizeOf285,v51:=Tryz.zeroValue285,t53:=Tryz.underlying230,a53:=Tryz.isAgg230,z53:=Tryz.sizeOf230,v53:=Tryz.zeroValue230,t171:=Tryz.underlying229,a171:=Tryz.isAgg229,z171:=Tryz.sizeOf229,v171:=Tryz.zeroValue229,t173:=Tryz.underlying233,a173:=Tryz.isAgg233,z173:=Tryz.sizeOf233,v173:=Tryz.zeroValue233,t212:=Tryz.underlying284,a212:=Tryz.isAgg284,z212:=Tryz.sizeOf284,v212:=Tryz.zeroValue284,t213:=Tryz.underlying286,a213:=Tryz.isAgg286,z213:=Tryz.sizeOf286,t232:=Tryz.underlying325,a232:=Tryz.isAgg325,z232:=Tryz.sizeOf325,v232:=Tryz.zeroValue325,t233:=Tryz.underlying326,a233:=Tryz.isAgg326,z233:=Tryz.sizeOf326,v233:=Tryz.zeroValue326,g17:=qc,g18:=qc,g19:=qc}
def V6:Lays.n146 prog oz:={mixed:=qc,f138:=func133.trans (congrArg Z qc),f143:=func134.trans (congrArg Z qc),f146:=func54.trans (congrArg Z qc),f195:=func184.trans (congrArg Z qc),f197:=func185.trans (congrArg Z qc),f217:=func225.trans (congrArg Z qc),f218:=func186.trans (congrArg Z qc),f219:=func187.trans (congrArg Z qc),f221:=func88.trans (congrArg Z qc),f224:=func227.trans (congrArg Z qc),f225:=func226.trans (congrArg Z qc),f260:=func224.trans (congrArg Z qc),f266:=func238.trans (congrArg Z qc),f267:=func228.trans (congrArg Z qc),f268:=func132.trans (congrArg Z qc),f314:=func239.trans (congrArg Z qc),t0:=Tryz.underlying0,a0:=Tryz.isAgg0,z0:=Tryz.sizeOf0,v0:=Tryz.zeroValue0,t3:=Tryz.underlying3,a3:=Tryz.isAgg3,z3:=Tryz.sizeOf3,v3:=Tryz.zeroValue3,t4:=Tryz.underlying4,a4:=Tryz.isAgg4,z4:=Tryz.sizeOf4,v4:=Tryz.zeroValue4,t5:=Tryz.underlying5,a5:=Tryz.isAgg5,z5:=Tryz.sizeOf5,v5:=Tryz.zeroValue5,t9:=Tryz.underlying9,a9:=Tryz.isAgg9,z9:=Tryz.sizeOf9,v9:=Tryz.zeroValue9,t21:=Tryz.underlying21,a21:=Tryz.isAgg21,z21:=Tryz.sizeOf21,v21:=Tryz.zeroValue21,t31:=Tryz.underlying22,a31:=Tryz.isAgg22,z31:=Tryz.sizeOf22,v31:=Tryz.zeroValue22,t46:=Tryz.underlying287,a46:=Tryz.isAgg287,z46:=Tryz.sizeOf287,v46:=Tryz.zeroValue287,t51:=Tryz.underlying285,a51:=Tryz.isAgg285,z51:=Tryz.sizeOf285,v51:=Tryz.zeroValue285,t105:=Tryz.underlying274,a105:=Tryz.isAgg274,z105:=Tryz.sizeOf274,v105:=Tryz.zeroValue274,t119:=Tryz.underlying318,a119:=Tryz.isAgg318,z119:=Tryz.sizeOf318,t138:=Tryz.underlying320,a138:=Tryz.isAgg320,z138:=Tryz.sizeOf320,v138:=Tryz.zeroValue320,t139:=Tryz.underlying321,a139:=Tryz.isAgg321,z139:=Tryz.sizeOf321,v139:=Tryz.zeroValue321,t146:=Tryz.underlying322,a146:=Tryz.isAgg322,z146:=Tryz.sizeOf322,v146:=Tryz.zeroValue322,g1:=qc,g3:=qc,g4:=qc}
def Gn:Builder.Extra prog oz:={sizeBuilder:=qc,liesBuilder:=qc,t5:=Tryz.underlying5,a5:=Tryz.isAgg5,z5:=Tryz.sizeOf5,v5:=Tryz.zeroValue5,infoByte:=qc,cellsByte:=qc,sizeByte:=qc,neB5:=qf}
def R8:yO prog 48=Z [.sc (.pointer Y),.sc (.slice Y 0 0)]:=qc
@[simp]theorem lib_b:oz.t 72=48:=rfl
@[simp]theorem lib_u:oz.t 5=5:=rfl
def I0(gl){m:Int}(hgm:gl 3=Z [.sc (.int .i64 m)])(l:qZ)(c:UInt8)(hl:O l<4294967281):qL prog gl 54 [tx l,tx [c]] (λ_ y _=>y=vD (zO c l)):=
 qCF V6 qc gl m hgm l c hl
end Go.Proofs.YtjgpejikjhojcaaGreatDoor
end
section
namespace Go.Proofs.YtjgpejikjhojcaaGreatDoor
open Go Go.Hm Go.Proofs Tryz
variable{v:qZ}
attribute [local simp] kM
def u8w{n:Int}(h1:0<=n)(h2:n<=255):IntKind.u8.wrap n=n:=by rw[IntKind.wrap_u8];omega
def MF{i:Nat}{u:qZ}(hu:ye[i]?=Z u)(he:u=v)(hno:∀j,j<i->∀x,ye[j]?=Z x->x≠v):ww v=Z i:=by
 obtain⟨hi,hE⟩:=gS hu;unfold ww;rw[s8];refine⟨hi,by simp[hE,he],λj hj=>?_⟩;have:=hno j hj _ (gE qA)
 simpa using this
def MG(hno:∀j,j<12->∀x,ye[j]?=Z x->x≠v):ww v=Y:=by
 unfold ww;rw[List.findIdx?_eq_none_iff];intro x hx;obtain⟨j,hj⟩:=ko hx;have:=hno j (gS hj).1 x hj
 simpa using this
def CL(o:Option Nat):Int:=match o with|some n=>n|none=>-1
def VA(gl)(hgl:gl 1=Z ((eP ye).map AV.sc))(v:qZ):qL prog gl 107 [tx v] (λ_ y _=>y=iv (CL (ww v))):=by
 have hol:O ye=12:=rfl;have htk:List.take 12 ye=ye:=rfl;have htm:∀f:qZ->AV,List.take 12 (List.map f ye)=List.map f ye:=λf=>rfl;refine qL.q9 func107 [.tmp 2] ntmps107 λC w g root=>?_;refine qH ?_<|qz hgl hol htk<|htm;refine zK (λn st=>∃i:Nat,n=12-i/\i<=12/\st.tm 0=tx v/\st.tm 5=.agg ((eP ye).map AV.sc)/\st.tm 6=iv i/\∀j,j<i->∀x,ye[j]?=Z x->x≠v) 12 ?_ ?_
 .exact⟨0,qA,qA,qB,by simp[htk,htm],qB,λj hj=>absurd hj qA⟩
 rintro n st - - ⟨i,rfl,hi,h0,h5,h6,hno⟩;by_cases hil:i<12
 .have hii:(i:Int)<12:=qA;have hil':i<O ye:=hil;obtain⟨u,hu⟩:∃u,ye[i]?=Z u:=⟨_,gE hil'⟩;obtain⟨_,huE⟩:=gS hu;by_cases he:u=v
  .have hb:(u==v)=B:=rJ;refine qH ?_<|y9 h0 h5 h6 hii hil hil' hu huE<|hb;rw[MF hu he hno];refine qE [] .nil qD (by simp[CL])
  .have hb:(u==v)=M:=rJ;refine qH ?_<|y9 h0 h5 h6 hii hil hil' hu huE<|hb;refine⟨12-(i+1),qA,i+1,rfl,qA,yL,jh,Ag,λj hj x hx=>?_⟩;by_cases e:j=i
   .subst e;rw[hu]at hx;obtain rfl:=sI hx;exact he
   .exact hno j qA x hx
 .obtain rfl:i=12:=qA;rw[MG hno];refine qH ?_<|ql h0 h5<|h6;refine qE [] .nil qD (by simp[CL])
end Go.Proofs.YtjgpejikjhojcaaGreatDoor
end
section
namespace Go.Proofs.YtjgpejikjhojcaaGreatDoor
open Go Go.Hm Go.Proofs Tryz
variable{A G G2:Prop}{i:Nat}{l ns:List Nat}{w:qZ}{ws:List qZ}
attribute [local simp] kM
def qCB(gl)(v:qZ)(c:UInt8)(hv:O v<=1048577):qL prog gl 41 [tx v,.sc (.int .u8 (c.toNat:Int))] (λr y H'=>y=.hs r 1 0 (O (zO c v))/\H' r=Z (.row 1 (uJ (zO c v)))):=by
 refine qL.q9 func41 [.tmp 4] ntmps41 λC w g root=>?_;refine qH ?_<|qW;refine zK (λn st=>∃(i j:Nat)(ws:List qZ),n=O v-i/\j<=i/\i<=O v/\O ws<=j/\zO c v=ws++zO c (v.drop j)/\c∉(v.drop j).take (i-j)/\st.tm 0=tx v/\st.tm 1=.sc (.int .u8 (c.toNat:Int))/\st.tm 7=iv i/\st.tm 6=iv j/\st.tm 5=.hs (.s 5) 1 0 (O ws)/\st.hp (.s 5)=Z (.row 1 (uJ ws))) (O v) ?_ ?_
 .exact⟨0,0,[],qA,qA,qA,qB,qB,qB,qB,qB,qB,qB,qB,qB⟩
 rintro n st - - ⟨i,j,ws,rfl,hji,hi,hwj,hsp,hno,h0,h1,h7,h6,h5,hp5⟩;by_cases hil:i<O v
 .obtain⟨x,hx⟩:=gX hil;obtain⟨_,hxE⟩:=gS hx;have hw1:IntKind.i64.wrap ((i:Int)+1)=(i:Int)+1:=qk qA qA;by_cases he:x=c
  .subst he;have hat:=qCE hx hji hno;refine qH ?_<|qg h0 h1 h7 h6 h5 hp5 hil hx hxE hw1 hji hi<|@zA;refine⟨O v-(i+1),qA,i+1,i+1,ws++[(v.drop j).take (i-j)],rfl,qA,qA,qp,by rw[hsp,hat];simp,qB,yL,zY,qB,qB,qB,iC⟩
  .have hnn:=We hx he hji hno;have hn:¬x.toNat=c.toNat:=λe=>he (UInt8.toNat_inj.1 e);have hb:((x.toNat:Int)==(c.toNat:Int))=M:=qp;refine qH ?_<|jU h0 h1 h7 h6 h5 hp5 hil hx hxE hw1<|aI hn<|hb;exact⟨O v-(i+1),qA,i+1,j,ws,rfl,qA,qA,hwj,hsp,hnn,yL,zY,by simp[hw1],vZ,jh,kw⟩
 .have hge:i=O v:=qA;have hjl:j<=O v:=qA;have htk:(v.drop j).take (i-j)=v.drop j:=jg (by rw[List.length_drop];omega);have htk2:(v.drop j).take (O v-j)=v.drop j:=jg (by rw[List.length_drop];exact qb _);rw[htk]at hno;rw[CD hno]at hsp;refine qH ?_<|ya h0 h1 h7 h6 h5 hp5 hil hji hjl<|htk2;refine qE [(.s 4,root)] (.one rfl) qD ⟨by simp[hsp],by simp[hsp,uJ]⟩
def EE(gl)(v:qZ)(hv:O v<=1048577):qL prog gl 45 [tx v] (λ_ y _=>y=iv (sH v)):=by
 refine qL.q9 func45 [.tmp 2] ntmps45 λC w g root=>?_;refine qH ?_<|qW;refine zK (λn st=>∃i:Nat,n=O v-i/\i<=O v/\st.tm 0=tx v/\st.tm 4=iv i/\st.tm 3=iv (vJ (v.take i))/\vJ (v.take i)<=99) (O v) ?_ ?_
 .exact⟨0,qA,qA,qB,qB,by simp[vJ],by simp[vJ]⟩
 rintro n st - - ⟨i,rfl,hi,h0,h4,h3,hd⟩;by_cases hil:i<O v
 .obtain⟨c,hc⟩:=gX hil;obtain⟨_,hcE⟩:=gS hc;have hcl:=c.toNat_lt;by_cases hg:48<=c.toNat/\c.toNat<=57
  .obtain⟨g1,g2⟩:=hg;have g1':¬c.toNat<48:=qA;have g2':¬57<c.toNat:=qA;have g1i:¬(c.toNat:Int)<48:=qA;have g2i:¬(57:Int)<(c.toNat:Int):=qA;by_cases h9:9<vJ (v.take i)
   .have hno:=nN (qBc hil h9);have h9i:(9:Int)<(vJ (v.take i):Nat):=qA;generalize vJ (v.take i)=m at h3 hd h9 h9i;refine qH ?_<|jU h0 h4 h3 hil hc hcE g1' g2' g1i g2i<|aI h9<|h9i;refine qE [] .nil qD y4
   .have hdt:=Kv hc;have h9i:¬(9:Int)<(vJ (v.take i):Nat):=qA;generalize vJ (v.take i)=m at h3 hd h9 h9i hdt;obtain⟨k,hk⟩:∃k:Nat,k=c.toNat - 48:=⟨_,rfl⟩;have hw0:IntKind.i64.wrap ((i:Int)+1)=(i:Int)+1:=qk qA qA;have hw1:IntKind.i64.wrap (10*(m:Int))=10*(m:Int):=qk qA qA;have hw2:IntKind.u8.wrap ((c.toNat:Int)-48)=(k:Int):=KY;have hw3:IntKind.i64.wrap (k:Int)=(k:Int):=qk qA qA;have hw4:IntKind.i64.wrap (10*(m:Int)+(k:Int))=10*(m:Int)+(k:Int):=qk qA qA;refine qH ?_<|qg h0 h4 h3 hil hc hcE g1' g2' g1i g2i h9 h9i<|zJ hw0 hw1 hw2 hw3<|hw4;refine⟨O v-(i+1),qA,i+1,rfl,qA,yL,by simp[hw0],by simp[hdt,<- hk],by rw[hdt];omega⟩
  .have hno:=nN (Oy hc hg);by_cases g1:c.toNat<48
   .have g1i:(c.toNat:Int)<48:=qA;refine qH ?_<|jA h0 h4 h3 hil hc hcE g1<|g1i;refine qE [] .nil qD y4
   .have g1i:¬(c.toNat:Int)<48:=qA;have g2:57<c.toNat:=qA;have g2i:(57:Int)<(c.toNat:Int):=qA;refine qH ?_<|ya h0 h4 h3 hil hc hcE g1 g1i g2<|g2i;refine qE [] .nil qD y4
 .have hge:i=O v:=qA;rw[hge,kC]at h3 hd;have hend:=qBe hd;have hnum:=iR gl (vJ v) qA qA;rw[xf]at hnum;by_cases he:v=[]
  .have hb:(v==[])=B:=by simp[he]
   have hno:sH v=-1:=nN (by rw[he];rfl);refine qH ?_<|zJ h0 h4 h3 hil<|hb;refine qE [] .nil qD y4
  have hb:(v==[])=M:=rJ;by_cases hq:v=yx (vJ v)
  .rw [if_pos hq]at hend;have hqb:(v==yx (vJ v))=B:=by simpa using hq
   have hsi:=xv hend;generalize yx (vJ v)=u at hnum hqb;have fx:=zx h0 h4 h3 hil hb<|hqb;have c1:=hnum;refine qK ?_;clear fx c1;refine qE [] .nil Cz (by simp[hsi])
  .rw [if_neg hq]at hend;have hqb:(v==yx (vJ v))=M:=by simpa using hq
   have hsi:=nN hend;generalize yx (vJ v)=u at hnum hqb;have fx:=zx h0 h4 h3 hil hb<|hqb;have c1:=hnum;refine qK ?_;clear fx c1;refine qE [] .nil qD (by simp[hsi])
def OJ{a b:List qZ}:vT (a++b)=match vT a,vT b with|some x,Z y=>Z (x++y)|_,_=>Y:=by
 induction a with
 |nil=>
  cases h:vT b<;>simp[vT]<;>simpa[vT]using h
 |cons l a ih=>
  rw[gk,ld,ld,ih]
  cases jC l with
  |none=>rfl
  |some o=>
   cases vT a with
   |none=>rfl
   |some x=>
    cases vT b<;>rfl
def χ{n:Nat}(hw:ws[i]?=Z w)(h:vT (ws.take i)=Z ns)(hn:jC w=Z n):vT (ws.take (i+1))=Z (ns++[n]):=by
 rw[vd,hw,OJ,h];simp[ld,hn,vT]
def τ(hw:ws[i]?=Z w)(hn:jC w=Y):vT ws=Y:=by
 have e:ws=ws.take i++w::ws.drop (i+1):=by
  obtain⟨h,hE⟩:=gS hw
  conv=>lhs;rw[<- s9 i ws]
  rw[iz h,hE]
 rw[e,OJ,ld,hn]
 cases vT (ws.take i)<;>rfl
def υ(h:vT ws=Z ns):O ns=O ws:=by
 induction ws generalizing ns with
 |nil=>simp[vT]at h;subst h;rfl
 |cons l a ih=>
  rw[ld]at h
  cases ho:jC l with
  |none=>rw[ho]at h;cases h
  |some o=>
   cases ha:vT a with
   |none=>rw[ho,ha]at h;cases h
   |some x=>
    rw[ho,ha]at h;obtain rfl:=sI h;simp[ih ha]
def OK(gl)(ws:List qZ)(hl:O ws<=1048577)(hw:∀w∈ws,O w<=1048577):qL prog gl 77 [vD ws] (λr y H'=>match vT ws with
  |some ns=>y=.zT [.hs r 1 0 (O ns),bv B]/\H' r=Z (.row 1 (qh (ns.map λ(n:Nat)=>(n:Int))))
  |none=>y=.zT [.hs r 1 0 0,bv M]/\H' r=Z (.row 1 [])):=by
 refine qL.q9 func77 [.tmp 2,.tmp 3] ntmps77 λC w g root=>?_;refine qH ?_<|qW;refine zK (λn st=>∃(i:Nat)(ns:List Nat),n=O ws-i/\i<=O ws/\vT (ws.take i)=Z ns/\st.tm 0=vD ws/\st.tm 5=iv i/\st.tm 4=.hs (.s 4) 1 0 (O ns)/\st.hp (.s 4)=Z (.row 1 (qh (ns.map λ(n:Nat)=>(n:Int))))) (O ws) ?_ ?_
 .exact⟨0,[],qA,qA,by simp[vT],qB,qB,qB,qB⟩
 rintro n st - - ⟨i,ns,rfl,hi,hns,h0,h5,h4,hp4⟩;have hnl:=υ hns;rw[ge]at hnl;by_cases hil:i<O ws
 .obtain⟨w',hw'⟩:∃x,ws[i]?=Z x:=⟨_,gE hil⟩;obtain⟨_,hwE⟩:=gS hw';have hq:=EE gl w' (hw _ (gM hw'));have hw0:IntKind.i64.wrap ((i:Int)+1)=(i:Int)+1:=qk qA qA
  cases hs:jC w' with
  |none=>
   have hno:=τ hw' hs;rw[nN hs]at hq;have fx:=zy h0 h5 h4 hp4 hil hw'<|hwE;have c1:=hq;refine qK ?_;clear fx c1;refine qE [(.s 2,root)] (.one rfl) qD ?_;rw[hno];simp
  |some b=>
   rw[xv hs]at hq;have hb0:¬(b:Int)<0:=qA;have fx:=y9 h0 h5 h4 hp4 hil hw' hwE hb0<|hw0;have c1:=hq;refine qK ?_;clear fx c1;refine⟨O ws-(i+1),qA,i+1,ns++[b],rfl,qA,χ hw' hns hs,yL,by simp[hw0],qB,?_⟩;have hmap:(ns++[b]).map (λ(n:Nat)=>(n:Int))=ns.map (λ(n:Nat)=>(n:Int))++[(b:Int)]:=qB;rw[hmap,<- Uk];have hLl:O (ns.map λ(n:Nat)=>(n:Int))=O ns:=qB;generalize (ns.map λ(n:Nat)=>(n:Int))=L at hLl ⊢;rw[<- hLl];simp[qh]
 .have hge:i=O ws:=qA;rw[hge,kC]at hns;refine qH ?_<|zJ h0 h5 h4 hp4<|hil;refine qE [(.s 2,root)] (.one rfl) qD ?_;rw[hns];simp[hp4]
end Go.Proofs.YtjgpejikjhojcaaGreatDoor
end
section
set_option maxHeartbeats 8000000
namespace Go.Proofs.YtjgpejikjhojcaaGreatDoor
open Go Go.Hm Go.Proofs
variable{A G G2:Prop}{i:Nat}{l ns:List Nat}{w:qZ}{ws:List qZ}
abbrev Y7:qV:=wG<|.l 11 []<|.l 12 []<|.done
attribute [local simp] kM
abbrev oi(ns:List Nat):List Int:=ns.map λ(n:Nat)=>(n:Int)
def AR(k:Nat)(ns:List Nat):AV->Prop:=λy=>∃S:qT,y=.zT [S.av,bv (bf k ns).isSome]/\∀s,bf k ns=Z s->S=s
def D8{k:Nat}(hk:k<12):k=7\/k=8\/k=2\/k=5\/k=6\/9<=k\/(k<7/\k≠2/\k≠5/\k≠6):=qA
def M4(h:O l=2):∃a b,l=[a,b]:=by
 rcases l with _|⟨a,_|⟨b,_|⟨c,l⟩⟩⟩
 .simp at h
 .simp at h
 .exact⟨a,b,rfl⟩
 .simp at h
def Vb(h:O l=3):∃a b c,l=[a,b,c]:=by
 rcases l with _|⟨a,_|⟨b,_|⟨c,_|⟨d,l⟩⟩⟩⟩
 .simp at h
 .simp at h
 .simp at h
 .exact⟨a,b,c,rfl⟩
 .simp at h
def dj(k:G2)(x:A)(h:A->jH G2->G:=by
 intro fx kk;refine qK ?_
 repeat((first|refine qP (id:=15) Y7 mixed ?_);refine zC ?_;refine qK ?_)
 exact kk.h):G:=h x ⟨k⟩
theorem qCV(gl)(k:Nat)(a:Nat)(hk:k<12):qL Tryz.prog gl 79 [iv k,jO (oi [a])] (λ_ y _=>AR k [a] y):=by
 refine qL.q9 Tryz.func79 [.cell 4 87,.tmp 5] Tryz.ntmps79 λC w g root=>?_;rcases D8 hk with rfl|rfl|rfl|rfl|rfl|h9|⟨h7,n2,n5,n6⟩
 .skip
  refine dj ?_<|qW;exact qE [] .nil qD ⟨⟨7,0,a,0⟩,uC,uC⟩
 .skip
  refine dj ?_<|qW;exact qE [] .nil qD ⟨⟨8,0,a,0⟩,uC,uC⟩
 .skip
  refine dj ?_<|qW;exact qE [] .nil qD ⟨⟨2,0,0,0⟩,uC,uC⟩
 .skip
  refine dj ?_<|qW;exact qE [] .nil qD ⟨⟨5,0,0,0⟩,uC,uC⟩
 .skip
  refine dj ?_<|qW;exact qE [] .nil qD ⟨⟨6,0,0,0⟩,uC,uC⟩
 .skip
  have e7:((k:Int)==7)=M:=qp;have e8:((k:Int)==8)=M:=qp;have e2:((k:Int)==2)=M:=qp;have e5:((k:Int)==5)=M:=qp;have e6:((k:Int)==6)=M:=qp;have c7:¬k=7:=qA;have c8:¬k=8:=qA;have c2:¬k=2:=qA;have c5:¬k=5:=qA;have c6:¬k=6:=qA;have i9:(9:Int)<=k:=qA;have l7:¬k<7:=qA;have i7:¬(k:Int)<7:=qA;refine dj ?_<|qg e7 e8 e2 e5 e6 c7 c8 c2 c5 c6 h9 i9<|aI l7<|i7;exact qE [] .nil qD ⟨⟨k,a,0,0⟩,tG,tG⟩
 .skip
  have e7:((k:Int)==7)=M:=qp;have e8:((k:Int)==8)=M:=qp;have e2:((k:Int)==2)=M:=qp;have e5:((k:Int)==5)=M:=qp;have e6:((k:Int)==6)=M:=qp;have c7:¬k=7:=qA;have c8:¬k=8:=qA;have c2:¬k=2:=qA;have c5:¬k=5:=qA;have c6:¬k=6:=qA;have i9:¬(9:Int)<=k:=qA;have h9:¬9<=k:=qA;have i7:(k:Int)<7:=qA;refine dj ?_<|qg e7 e8 e2 e5 e6 c7 c8 c2 c5 c6 h9 i9<|aI h7<|i7;exact qE [] .nil qD ⟨⟨k,0,0,0⟩,tL,tL⟩
theorem qCW(gl)(k:Nat)(a b:Nat)(hk:k<12):qL Tryz.prog gl 79 [iv k,jO (oi [a,b])] (λ_ y _=>AR k [a,b] y):=by
 refine qL.q9 Tryz.func79 [.cell 4 87,.tmp 5] Tryz.ntmps79 λC w g root=>?_;rcases D8 hk with rfl|rfl|rfl|rfl|rfl|h9|⟨h7,n2,n5,n6⟩
 .skip
  refine dj ?_<|qW;exact qE [] .nil qD ⟨⟨7,0,0,0⟩,uC,uC⟩
 .skip
  refine dj ?_<|qW;exact qE [] .nil qD ⟨⟨8,0,0,0⟩,uC,uC⟩
 .skip
  refine dj ?_<|qW;exact qE [] .nil qD ⟨⟨2,0,0,0⟩,uC,uC⟩
 .skip
  refine dj ?_<|qW;exact qE [] .nil qD ⟨⟨5,a,b,-1⟩,uC,uC⟩
 .skip
  refine dj ?_<|qW;exact qE [] .nil qD ⟨⟨6,0,0,0⟩,uC,uC⟩
 .skip
  have e7:((k:Int)==7)=M:=qp;have e8:((k:Int)==8)=M:=qp;have e2:((k:Int)==2)=M:=qp;have e5:((k:Int)==5)=M:=qp;have e6:((k:Int)==6)=M:=qp;have c7:¬k=7:=qA;have c8:¬k=8:=qA;have c2:¬k=2:=qA;have c5:¬k=5:=qA;have c6:¬k=6:=qA;have i9:(9:Int)<=k:=qA;have l7:¬k<7:=qA;have i7:¬(k:Int)<7:=qA;refine dj ?_<|qg e7 e8 e2 e5 e6 c7 c8 c2 c5 c6 h9 i9<|aI l7<|i7;exact qE [] .nil qD ⟨⟨k,0,0,0⟩,tG,tG⟩
 .skip
  have e7:((k:Int)==7)=M:=qp;have e8:((k:Int)==8)=M:=qp;have e2:((k:Int)==2)=M:=qp;have e5:((k:Int)==5)=M:=qp;have e6:((k:Int)==6)=M:=qp;have c7:¬k=7:=qA;have c8:¬k=8:=qA;have c2:¬k=2:=qA;have c5:¬k=5:=qA;have c6:¬k=6:=qA;have i9:¬(9:Int)<=k:=qA;have h9:¬9<=k:=qA;have i7:(k:Int)<7:=qA;refine dj ?_<|qg e7 e8 e2 e5 e6 c7 c8 c2 c5 c6 h9 i9<|ql h7 i7<|@zA;exact qE [] .nil qD ⟨⟨k,a,b,0⟩,tL,tL⟩
end Go.Proofs.YtjgpejikjhojcaaGreatDoor
end
section
set_option maxHeartbeats 8000000
namespace Go.Proofs.YtjgpejikjhojcaaGreatDoor
open Go Go.Hm Go.Proofs
variable{A G G2:Prop}{i:Nat}{l ns:List Nat}{w:qZ}{ws:List qZ}
abbrev Y8:qV:=wG<|.l 11 []<|.l 12 []<|.done
attribute [local simp] kM
def dk(k:G2)(x:A)(h:A->jH G2->G:=by
 intro fx kk;refine qK ?_
 repeat((first|refine qP (id:=15) Y8 mixed ?_);refine zC ?_;refine qK ?_)
 exact kk.h):G:=h x ⟨k⟩
theorem qCX(gl)(k:Nat)(a b c:Nat)(hk:k<12):qL Tryz.prog gl 79 [iv k,jO (oi [a,b,c])] (λ_ y _=>AR k [a,b,c] y):=by
 refine qL.q9 Tryz.func79 [.cell 4 87,.tmp 5] Tryz.ntmps79 λC w g root=>?_;rcases D8 hk with rfl|rfl|rfl|rfl|rfl|h9|⟨h7,n2,n5,n6⟩
 .skip
  refine dk ?_<|qW;exact qE [] .nil qD ⟨⟨7,0,0,0⟩,uC,uC⟩
 .skip
  refine dk ?_<|qW;exact qE [] .nil qD ⟨⟨8,0,0,0⟩,uC,uC⟩
 .skip
  refine dk ?_<|qW;exact qE [] .nil qD ⟨⟨2,a,b,c⟩,uC,uC⟩
 .skip
  refine dk ?_<|qW;exact qE [] .nil qD ⟨⟨5,a,b,c⟩,uC,uC⟩
 .skip
  refine dk ?_<|qW;exact qE [] .nil qD ⟨⟨6,a,b,c⟩,uC,uC⟩
 .skip
  have e7:((k:Int)==7)=M:=qp;have e8:((k:Int)==8)=M:=qp;have e2:((k:Int)==2)=M:=qp;have e5:((k:Int)==5)=M:=qp;have e6:((k:Int)==6)=M:=qp;have c7:¬k=7:=qA;have c8:¬k=8:=qA;have c2:¬k=2:=qA;have c5:¬k=5:=qA;have c6:¬k=6:=qA;have i9:(9:Int)<=k:=qA;have l7:¬k<7:=qA;have i7:¬(k:Int)<7:=qA;refine dk ?_<|qg e7 e8 e2 e5 e6 c7 c8 c2 c5 c6 h9 i9<|aI l7<|i7;exact qE [] .nil qD ⟨⟨k,0,0,0⟩,tG,tG⟩
 .skip
  have e7:((k:Int)==7)=M:=qp;have e8:((k:Int)==8)=M:=qp;have e2:((k:Int)==2)=M:=qp;have e5:((k:Int)==5)=M:=qp;have e6:((k:Int)==6)=M:=qp;have c7:¬k=7:=qA;have c8:¬k=8:=qA;have c2:¬k=2:=qA;have c5:¬k=5:=qA;have c6:¬k=6:=qA;have i9:¬(9:Int)<=k:=qA;have h9:¬9<=k:=qA;have i7:(k:Int)<7:=qA;refine dk ?_<|qg e7 e8 e2 e5 e6 c7 c8 c2 c5 c6 h9 i9<|aI h7<|i7;exact qE [] .nil qD ⟨⟨k,0,0,0⟩,tL,tL⟩
def qCU(gl)(k:Nat)(ns:List Nat)(hk:k<12)(h1:O ns≠1)(h2:O ns≠2)(h3:O ns≠3):qL Tryz.prog gl 79 [iv k,jO (oi ns)] (λ_ y _=>AR k ns y):=by
 have hno:bf k ns=Y:=by
  rcases ns with _|⟨a,_|⟨b,_|⟨c,_|⟨d,l⟩⟩⟩⟩
  .rfl
  .simp at h1
  .simp at h2
  .simp at h3
  .rfl
 have hL:O (oi ns)=O ns:=qB;generalize oi ns=L at hL ⊢;have d1:((O L:Int)==1)=M:=qp;have d2:((O L:Int)==2)=M:=qp;have d3:((O L:Int)==3)=M:=qp;refine qL.q9 Tryz.func79 [.cell 4 87,.tmp 5] Tryz.ntmps79 λC w g root=>?_;rcases D8 hk with rfl|rfl|rfl|rfl|rfl|h9|⟨h7,n2,n5,n6⟩
 .skip
  refine dk ?_<|ql d1 d2<|d3;exact qE [] .nil qD ⟨⟨7,0,0,0⟩,y4,y4⟩
 .skip
  refine dk ?_<|ql d1 d2<|d3;exact qE [] .nil qD ⟨⟨8,0,0,0⟩,y4,y4⟩
 .skip
  refine dk ?_<|ql d1 d2<|d3;exact qE [] .nil qD ⟨⟨2,0,0,0⟩,y4,y4⟩
 .skip
  refine dk ?_<|ql d1 d2<|d3;exact qE [] .nil qD ⟨⟨5,0,0,0⟩,y4,y4⟩
 .skip
  refine dk ?_<|ql d1 d2<|d3;exact qE [] .nil qD ⟨⟨6,0,0,0⟩,y4,y4⟩
 .skip
  have e7:((k:Int)==7)=M:=qp;have e8:((k:Int)==8)=M:=qp;have e2:((k:Int)==2)=M:=qp;have e5:((k:Int)==5)=M:=qp;have e6:((k:Int)==6)=M:=qp;have c7:¬k=7:=qA;have c8:¬k=8:=qA;have c2:¬k=2:=qA;have c5:¬k=5:=qA;have c6:¬k=6:=qA;have i9:(9:Int)<=k:=qA;have l7:¬k<7:=qA;have i7:¬(k:Int)<7:=qA;refine dk ?_<|qg d1 d2 d3 e7 e8 e2 e5 e6 c7 c8 c2 c5<|zJ c6 h9 i9 l7<|i7;exact qE [] .nil qD ⟨⟨k,0,0,0⟩,y4,y4⟩
 .skip
  have e7:((k:Int)==7)=M:=qp;have e8:((k:Int)==8)=M:=qp;have e2:((k:Int)==2)=M:=qp;have e5:((k:Int)==5)=M:=qp;have e6:((k:Int)==6)=M:=qp;have c7:¬k=7:=qA;have c8:¬k=8:=qA;have c2:¬k=2:=qA;have c5:¬k=5:=qA;have c6:¬k=6:=qA;have i9:¬(9:Int)<=k:=qA;have h9:¬9<=k:=qA;have i7:(k:Int)<7:=qA;refine dk ?_<|qg d1 d2 d3 e7 e8 e2 e5 e6 c7 c8 c2 c5<|zJ c6 h9 i9 h7<|i7;exact qE [] .nil qD ⟨⟨k,0,0,0⟩,y4,y4⟩
def qCY(gl)(k:Nat)(ns:List Nat)(hk:k<12):qL Tryz.prog gl 79 [iv k,jO (oi ns)] (λ_ y _=>AR k ns y):=by
 by_cases h1:O ns=1
 .obtain⟨a,rfl⟩:=CZ.1 h1;exact qCV gl k a hk
 by_cases h2:O ns=2
 .obtain⟨a,b,rfl⟩:=M4 h2;exact qCW gl k a b hk
 by_cases h3:O ns=3
 .obtain⟨a,b,c,rfl⟩:=Vb h3;exact qCX gl k a b c hk
 exact qCU gl k ns hk h1 h2 h3
end Go.Proofs.YtjgpejikjhojcaaGreatDoor
end
section
namespace Go.Proofs.YtjgpejikjhojcaaGreatDoor
open Go Go.Hm Go.Proofs Tryz
def PG(gl)(v:qZ)(c:UInt8)(hv:O v<=1048577):qL prog gl 41 [tx v,.sc (.int .u8 (c.toNat:Int))] (λ_ y _=>y=vD (zO c v)):=
 (qCB gl v c hv).settle λr y H' h=>⟨vD (zO c v),Fu,rfl⟩
def IY(gl)(l:qZ)(hl:O l<=1048577):qL prog gl 41 [tx l,.sc (.int .u8 32)] (λ_ y _=>y=vD (zO 32 l)):=PG gl l 32 hl
def qCA(gl)(l:qZ)(hl:O l<=1048577):qL prog gl 41 [tx l,.sc (.int .u8 10)] (λ_ y _=>y=vD (zO 10 l)):=PG gl l 10 hl
end Go.Proofs.YtjgpejikjhojcaaGreatDoor
end
