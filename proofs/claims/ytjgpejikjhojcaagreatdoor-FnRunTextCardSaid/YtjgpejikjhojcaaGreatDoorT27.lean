import Derived.Test.YtjgpejikjhojcaaGreatDoorT22
import Derived.Test.YtjgpejikjhojcaaGreatDoorT18
set_option linter.unusedSimpArgs false
set_option linter.unusedVariables false
set_option maxRecDepth 100000
set_option maxHeartbeats 4000000

section
namespace Go.Proofs.YtjgpejikjhojcaaGreatDoor
open Go Go.Hm Go.Proofs Tryz
abbrev F8:qb:=.q 1<|.q 2<|.l 0 [2,1]<|.q 3<|.q 4<|.l 5 []<|.done
abbrev F9:qb:=.q 0<|.q 1<|.q 5<|.q 6<|.q 7<|.q 8<|.l 2 [8,7,6,5]<|.q 3<|.q 4<|.l 9 [4,3]<|.q 10<|.l 11 []<|.done
attribute [local simp] uo
theorem QA:∀ n,n<10->([48,49,50,51,52,53,54,55,56,57]:q9).drop n=dg n::([48,49,50,51,52,53,54,55,56,57]:q9).drop (n+1):=qc
theorem Br (n:Nat):(ym n).length<=n+1:=by
 induction n using Nat.strongRecOn with
 | _ n ih =>
  rw [ym]
  split
  .simp
  .have:=ih (n / 10) qA;simp;omega
theorem K4 (gl):∀ (k n:Nat),n<=k->n<1152921504606846976->qM prog gl 33 [iv n] (λ_ y _=>y=tx (ym n)):=by
 intro k
 induction k with
 | zero =>
  intro n hk hn;obtain rfl:n=0:=qA;have hw1:IntKind.i64.wrap 1=1:=qi qA qA;refine qM.qa func33 [.tmp 2] ntmps33 λC w g root=>?_;refine qI ?_<| hw1;refine qG [] .nil qH ?_;simp [ym]
  rfl
 | succ k ih =>
  intro n hk hn;have hw1:IntKind.i64.wrap ((n:Int)+1)=n+1:=qi qA qA;have n0:¬ (n:Int)<0:=qA;by_cases h:n<10
  .have hd:=QA n h;have hi:(n:Int)<10:=qA;have h1:(n:Int)<=9:=qA;have h2:((n:Int)+1).toNat=n+1:=qA;have h3:(n:Int)<=(n:Int)+1:=qA;have h4:(n:Int)+1<=10:=qA;have h5:(0:Int)<=(n:Int):=qA;have h6:n+1 - n=1:=qA;refine qM.qa func33 [.tmp 2] ntmps33 λC w g root=>?_;refine qI ?_<|vA hw1 n0 hi h1 h2 h3 h4 h5 h6<|hd;refine qG [] .nil qH ?_;rw [ym,if_pos h];simp
  .have hi:¬ (n:Int)<10:=qA;obtain⟨q,hq⟩:∃ q,q=n / 10:=⟨_,rfl⟩;obtain⟨r,hr⟩:∃ r,r=n % 10:=⟨_,rfl⟩
   have hwq:IntKind.i64.wrap ((n:Int) / 10)=(q:Int):=by
    rw [show (n:Int) / 10=(q:Int) by omega];exact qi qA qA
   have hwr:(n:Int).tmod 10=(r:Int):=by
    rw [hr]
    rfl
   have q1:=ih q qA qA;have q2:=ih r qA qA;have hl1:=Br q;have hl2:=Br r;have hl:(ym q).length+(ym r).length<=9223372036854775807:=qA;refine qM.qa func33 [.tmp 2] ntmps33 λC w g root=>?_;have fx:=zM n0 hi hwq hwr<|hl;have c1:=q1;have c2:=q2;refine qQ ?_;clear fx c1 c2;refine qG [] .nil qH ?_;rw [Ez (n:=r) qA]
   conv=>rhs;rw [ym,if_neg h,<- hq,<- hr]
   simp
theorem oy (gl) (n:Int) (h0:-1000000<=n) (h1:n<=1000000):qM prog gl 33 [iv n] (λ_ y _=>y=tx (jT n)):=by
 by_cases h:n<0
 .obtain⟨k,rfl⟩:∃ k:Nat,n=-(k:Int):=⟨(-n).toNat,qA⟩;have q:=K4 gl k k (qX _) qA;have hl1:=Br k;have hl:(ym k).length+1<=9223372036854775807:=qA;have hl':1+(ym k).length<=9223372036854775807:=qA;have hk0:0<k:=qA;have hk1:¬ k=0:=qA;have hne:¬ -(k:Int)=(k:Int):=qA;have hwn:IntKind.i64.wrap (k:Int)=k:=qi qA qA;refine qM.qa func33 [.tmp 2] ntmps33 λC w g root=>?_;have fx:=j2 hwn hk0 hk1 hne hl<|hl';have c1:=q;refine qQ ?_;clear fx c1;refine qG [] .nil qH ?_;simp [jT,h,hk1]
 .obtain⟨k,rfl⟩:∃ k:Nat,n=(k:Int):=⟨n.toNat,qA⟩;rw [sS];exact K4 gl k k (qX _) qA
theorem Ml (gl):qM prog gl 78 [] (λr y H'=>y=.hs r 1 0 yM.length/\H' r=some (.row 1 (ue yM))):=by
 refine qM.qa func78 [.tmp 0] ntmps78 λC w g root=>?_;refine qI ?_<|qS;exact vo (t:=0) y3 y3 qB
theorem Tx (gl) (s:qP):qM prog gl 138 [qP.av s] (λr y H'=>y=.hs r 1 0 (dT s).length/\H' r=some (.row 1 (qm (dT s)))):=by
 refine qM.qa func138 [.tmp 2] ntmps138 λC w g root=>?_;obtain⟨kind,to,a,b⟩:=s
 all_goals have fx:=qS
 repeat' (first|refine zl ?_|refine λ(K:St->Prop) hK=>?_|refine vj (h1:=λht=>?_) (h2:=λht=>?_))
 all_goals try clear fx
 all_goals refine vo (t:=2) ?_ ?_ ?_
 all_goals simp_all [dT,qm]
theorem YV (gl) (s:qP) (hs:vG s):qM prog gl 93 [qP.av s] (λ_ y _=>y=tx (bR s)):=by
 have hnum:=hs.K5;have hkd:=hs.kind;have hn3:=K6 (s:=s);have hnf:=Tx gl s;have hsh:bR s=vw (yM.getD s.kind.toNat []) (dT s):=rfl;rw [hsh];generalize dT s=ns at hnum hn3 hnf;obtain⟨kd,to,a,b⟩:=s;simp only at hkd;obtain⟨K,rfl⟩:∃ K:Nat,kd=K:=⟨kd.toNat,qA⟩;have hK:K<12:=qA;have hKl:K<yM.length:=hK;obtain⟨v,hw⟩:=gX hKl;obtain⟨_,hwE⟩:=gS hw;have hwg:yM.getD ((K:Int)).toNat []=v:=by simp [bC,hw]
 have hwl:=(Mk K hK).2;rw [show yM.getD K []=v by simp [bC,hw]] at hwl;simp only [hwg];refine qM.qa func93 [.tmp 2] ntmps93 λC w g root=>?_;have fx:=zC hK hKl hw<|hwE;have d1:=Ml gl;have d2:=hnf;refine qQ ?_
 repeat ((first|refine qf (id:=1) F8 mixed ?_);refine zQ ?_;refine qQ ?_)
 clear fx d1 d2;refine zU (λn st=>∃ i:Nat,n=ns.length - i/\i<=ns.length/\st.tm 4=.hs (.s 4) 1 0 ns.length/\st.hp (.s 4)=some (.row 1 (qm ns))/\st.tm 5=iv i/\st.tm 3=tx (vw v (ns.take i))) ns.length ?_ ?_
 .exact⟨0,qA,qA,qB,qB,qB,by simp [vw]⟩
 rintro n st - - ⟨i,rfl,hi,h4,hp4,h5,h3⟩;by_cases hil:i<ns.length
 .obtain⟨x,hx⟩:=gX hil;obtain⟨_,hxE⟩:=gS hx;have hxs:=hnum x (gM hx);have hwl2:=Gb (w:=v) (Y7 (i:=i) hnum);have hxl:=xf hxs;rw [mE] at hwl2;have hl1:∀ c,2000000000<=c->(vw v (ns.take i)).length+1<=c:=λc hc=>qA;have hl2:∀ c,2000000000<=c->(vw v (ns.take i)).length+1+(jT x).length<=c:=λc hc=>qA;have fx:=yz h4 hp4 h5 h3 hil hx hxE hl1<|hl2;have c1:=oy gl x qA qA;refine qQ ?_
  repeat ((first|refine qf (id:=1) F8 mixed ?_);refine zQ ?_;refine qQ ?_)
  clear fx c1;refine⟨ns.length - (i+1),qA,i+1,rfl,qA,yr,aG,by simp [h5];exact qi qA qA,by simp [qAL hx]⟩
 .obtain rfl:i=ns.length:=qA;have fx:=zM h4 hp4 h5 h3<|hil;refine qQ ?_
  repeat ((first|refine qf (id:=1) F8 mixed ?_);refine zQ ?_;refine qQ ?_)
  clear fx;refine qG [] .nil Az ?_;simp
theorem YU (gl) (k:qT) (hk:pT k) (hp1:k.params.length<=1):qM prog gl 92 [qT.av k] (λ_ y _=>y=tx (wl k)):=by
 have hpar:=hk.parent;have hpl:=xf hpar;have hl1:∀ c,2000000000<=c->(jT k.parent).length<=c:=λc hc=>qA;have hl3:∀ c,2000000000<=c->3+(jT k.parent).length<=c:=λc hc=>qA;refine qM.qa func92 [.tmp 2] ntmps92 λC w g root=>?_;by_cases h2:k.kind=2
 .have hb:(k.kind==2)=true:=oQ;have fx:=qk hb hl1<|hl3;have c1:=oy gl k.parent qA qA;refine qQ ?_
  repeat ((first|refine qf (id:=5) F9 mixed ?_);refine zQ ?_;refine qQ ?_)
  clear fx c1;refine qG [] .nil qH ?_;simp [wl,h2,vw,wn,bT]
 have hb:(k.kind==2)=false:=oQ
 cases hps:k.params with
 | nil =>
  have fx:=zC hb hps hl1<|hl3;have c1:=oy gl k.parent qA qA;refine qQ ?_
  repeat ((first|refine qf (id:=5) F9 mixed ?_);refine zQ ?_;refine qQ ?_)
  clear fx c1;refine qG [] .nil qH ?_;simp [wl,h2,vw,wn,wm,hps]
 | cons x l =>
  obtain rfl:l=[]:=by
   rw [hps] at hp1;exact aX (by simpa using hp1)
  have hxs:=hk.params x (by simp [hps]);have hxl:=xf hxs;have hl5:∀ c,2000000000<=c->(jT k.parent).length+(jT x).length<=c:=λc hc=>qA;have hl6:∀ c,2000000000<=c->(jT k.parent).length+5+1+1+1+(jT x).length<=c:=λc hc=>qA;have fx:=j2 hb hps hl1 hl3 hl5<|hl6;have c1:=oy gl k.parent qA qA;have c2:=oy gl x qA qA;refine qQ ?_
  repeat ((first|refine qf (id:=5) F9 mixed ?_);refine zQ ?_;refine qQ ?_)
  clear fx c1 c2;refine qG [] .nil qH ?_;simp [wl,h2,vw,wn,wm,hps]
theorem Qs (gl) (p:qC) (hp:gG p):qM prog gl 57 [yu p] (λ_ y _=>y=tx (o9 p)):=by
 have hl7:=hp.len;refine qM.qa func57 [.tmp 2] ntmps57 λC w g root=>?_;refine qI ?_<|qS;refine zU (λn st=>∃ b:Nat,n=p.length - b/\b<=p.length/\st.tm 1=.pt (.s 1) 0/\st.hp (.s 1)=some (.row 1 [[vK p]])/\st.tm 4=iv b/\st.tm 3=tx (jO 10 (wI p b))) p.length ?_ ?_
 .exact⟨0,qA,qA,qB,qB,qB,by simp [BS,jO]⟩
 rintro n st - - ⟨b,rfl,hb,h1,hp1,h4,h3⟩;by_cases zF:b<p.length
 .obtain⟨k,hk⟩:=gX zF;obtain⟨_,hkE⟩:=gS hk;have hkm:=gM hk;have hbody:=hp.body k hkm;have hL0:=Qe hp hb;have hb0:b=0\/0<b:=qA;rcases hb0 with hb0|hb0
  case' inl =>
   have hbi:¬ 0<b:=qA;have hbt:wE b k 0=[]:=by simp [wE,hb0]
   refine qI ?_<|jJ h1 hp1 h4 h3 zF hk hkE<|hbi
  case' inr =>
   have hhd:=hp.ar.jR b k hk hb0;have hhl:=MM hhd (hp.par k hkm)
   have hbt:wE b k 0=[wl k]:=by
    have:¬ b=0:=qA;simp [wE,this]
   have hL1:∀ c,2000000000<=c->(jO 10 (wI p b)).length+(wl k).length<=c:=λc hc=>qA;have hL2:∀ c,2000000000<=c->(jO 10 (wI p b)).length+(wl k).length+1<=c:=λc hc=>qA;have fx:=vA h1 hp1 h4 h3 zF hk hkE hb0 hL1<|hL2;have c1:=YU gl k hhd (hp.par k hkm);refine qQ ?_;clear fx c1
  all_goals
   refine zU (λn st=>∃ i:Nat,n=k.body.length - i/\i<=k.body.length/\st.tm 1=.pt (.s 1) 0/\st.hp (.s 1)=some (.row 1 [[vK p]])/\st.tm 4=iv b/\st.tm 5=iv i/\st.tm 3=tx (jO 10 (wI p b++wE b k i))) k.body.length ?_ ?_
   .exact⟨0,qA,qA,zx,vI,yr,qB,by simp [h3,hbt,Sv,sJ,jO]⟩
   clear h1 hp1 h4 h3 hbt;rintro n st - - ⟨i,rfl,hi,h1,hp1,h4,h5,h3⟩;by_cases hil:i<k.body.length
   .obtain⟨s,hs⟩:=gX hil;obtain⟨_,hsE⟩:=gS hs;have hst:=hp.ar.cx k hkm s (gM hs);have hsl:=MN hst;have hL3:=Qd (i:=i) hp hk;have hL4:∀ c,2000000000<=c->(jO 10 (wI p b++wE b k i)).length+(bR s).length<=c:=λc hc=>qA;have hL5:∀ c,2000000000<=c->(jO 10 (wI p b++wE b k i)).length+(bR s).length+1<=c:=λc hc=>qA
    have hnext:jO 10 (wI p b++wE b k (i+1))=jO 10 (wI p b++wE b k i)++(bR s++[10]):=by
     rw [Oy hs,<- ig,sJ]
    generalize jO 10 (wI p b++wE b k i)=L at h3 hL4 hL5 hnext;have fx:=qr h1 hp1 h4 h5 h3 zF hk hkE hil hs hsE hL4<|hL5;have c1:=YV gl s hst;refine qQ ?_;clear fx c1;refine⟨k.body.length - (i+1),qA,i+1,rfl,qA,zx,vI,yr,by simp [h5];exact qi qA qA,by simp [hnext]⟩
   .obtain rfl:i=k.body.length:=qA;rw [Ha,<- EV hk] at h3;refine qI ?_<|yz h1 hp1 h4 h5 h3 zF hk hkE<|hil;refine⟨p.length - (b+1),qA,b+1,rfl,qA,zx,vI,by simp [h4];exact qi qA qA,jj⟩
 .obtain rfl:b=p.length:=qA;refine qI ?_<|zM h1 hp1 h4 h3<|zF;refine qG [] .nil Az ?_;simp [o9,EU]
end Go.Proofs.YtjgpejikjhojcaaGreatDoor
end
section
namespace Go.Proofs.YtjgpejikjhojcaaGreatDoor
open Go Go.Hm Go.Proofs Tryz
open Go.Shelf
def my:Ren:=⟨fun|0=>0|1=>1|2=>2|129=>197|138=>133|143=>134|146=>54|166=>21|169=>22|171=>30|195=>184|197=>185|217=>225|218=>186|219=>187|221=>88|224=>227|225=>226|240=>56|243=>63|246=>102|260=>224|266=>238|267=>228|268=>132|276=>91|283=>147|284=>148|285=>149|286=>150|314=>239|317=>196|318=>198|319=>199|320=>200|337=>232|338=>233|347=>242|348=>243|349=>244|350=>245|351=>246|352=>247|353=>248|354=>249|355=>250|356=>251|357=>252|358=>253|359=>254|360=>255|361=>256|362=>257|366=>267|367=>278|n=>n,fun|0=>0|1=>1|2=>2|3=>3|4=>4|5=>5|6=>6|7=>7|8=>8|9=>9|10=>10|11=>11|12=>12|13=>13|14=>14|15=>15|16=>16|17=>17|18=>18|19=>19|20=>20|21=>21|26=>31|27=>218|28=>38|29=>151|30=>210|31=>22|36=>57|37=>28|46=>287|47=>288|51=>285|52=>315|53=>230|54=>231|55=>276|61=>95|70=>46|71=>47|72=>48|74=>49|75=>50|76=>51|77=>52|80=>53|81=>186|83=>63|84=>179|101=>26|102=>25|103=>37|105=>274|106=>275|111=>59|113=>160|114=>58|119=>318|127=>97|131=>161|137=>319|138=>320|139=>321|146=>322|150=>217|151=>323|164=>163|165=>164|171=>229|172=>232|173=>233|174=>234|211=>283|212=>284|213=>286|229=>93|232=>325|233=>326|238=>327|239=>328|240=>329|241=>330|242=>331|243=>332|244=>333|245=>334|246=>335|247=>336|248=>337|249=>338|n=>n,fun|1=>3|3=>5|4=>6|17=>2|18=>7|19=>8|n=>n⟩
theorem Jo:Lays.n166 prog my:={ mixed:=qY,f166:=func21.trans (congrArg some qY),f240:=func56.trans (congrArg some qY),f276:=func91.trans (congrArg some qY),t0:=Tryz.underlying0,a0:=Tryz.isAgg0,z0:=Tryz.sizeOf0,v0:=Tryz.zeroValue0,t3:=Tryz.underlying3,a3:=Tryz.isAgg3,z3:=Tryz.sizeOf3,v3:=Tryz.zeroValue3,t4:=Tryz.underlying4,a4:=Tryz.isAgg4,z4:=Tryz.sizeOf4,v4:=Tryz.zeroValue4,t9:=Tryz.underlying9,a9:=Tryz.isAgg9,z9:=Tryz.sizeOf9,v9:=Tryz.zeroValue9,t20:=Tryz.underlying20,a20:=Tryz.isAgg20,z20:=Tryz.sizeOf20,v20:=Tryz.zeroValue20,t37:=Tryz.underlying28,a37:=Tryz.isAgg28,z37:=Tryz.sizeOf28,v37:=Tryz.zeroValue28,t70:=Tryz.underlying46,a70:=Tryz.isAgg46,z70:=Tryz.sizeOf46,v70:=Tryz.zeroValue46,t72:=Tryz.underlying48,a72:=Tryz.isAgg48,z72:=Tryz.sizeOf48,v72:=Tryz.zeroValue48,t75:=Tryz.underlying50,a75:=Tryz.isAgg50,z75:=Tryz.sizeOf50,v75:=Tryz.zeroValue50,t164:=Tryz.underlying163,a164:=Tryz.isAgg163,z164:=Tryz.sizeOf163,v164:=Tryz.zeroValue163 }
theorem Sl:Lays.n169 prog my:={ mixed:=qY,f169:=func22.trans (congrArg some qY),t0:=Tryz.underlying0,a0:=Tryz.isAgg0,z0:=Tryz.sizeOf0,v0:=Tryz.zeroValue0,t3:=Tryz.underlying3,a3:=Tryz.isAgg3,z3:=Tryz.sizeOf3,v3:=Tryz.zeroValue3,t9:=Tryz.underlying9,a9:=Tryz.isAgg9,z9:=Tryz.sizeOf9,v9:=Tryz.zeroValue9,t37:=Tryz.underlying28,a37:=Tryz.isAgg28,z37:=Tryz.sizeOf28,v37:=Tryz.zeroValue28,t70:=Tryz.underlying46,a70:=Tryz.isAgg46,z70:=Tryz.sizeOf46,v70:=Tryz.zeroValue46,t72:=Tryz.underlying48,a72:=Tryz.isAgg48,z72:=Tryz.sizeOf48,v72:=Tryz.zeroValue48,t127:=Tryz.underlying97,a127:=Tryz.isAgg97,z127:=Tryz.sizeOf97,v127:=Tryz.zeroValue97 }
theorem Sm:Lays.n171 prog my:={ mixed:=qY,f129:=func197.trans (congrArg some qY),f171:=func30.trans (congrArg some qY),f243:=func63.trans (congrArg some qY),f246:=func102.trans (congrArg some qY),f283:=func147.trans (congrArg some qY),f284:=func148.trans (congrArg some qY),f285:=func149.trans (congrArg some qY),f286:=func150.trans (congrArg some qY),f317:=func196.trans (congrArg some qY),f318:=func198.trans (congrArg some qY),f319:=func199.trans (congrArg some qY),f320:=func200.trans (congrArg some qY),f337:=func232.trans (congrArg some qY),f338:=func233.trans (congrArg some qY),t0:=Tryz.underlying0,a0:=Tryz.isAgg0,z0:=Tryz.sizeOf0,v0:=Tryz.zeroValue0,t2:=Tryz.underlying2,a2:=Tryz.isAgg2,z2:=Tryz.sizeOf2,v2:=Tryz.zeroValue2,t3:=Tryz.underlying3,a3:=Tryz.isAgg3,z3:=Tryz.sizeOf3,v3:=Tryz.zeroValue3,t4:=Tryz.underlying4,a4:=Tryz.isAgg4,z4:=Tryz.sizeOf4,v4:=Tryz.zeroValue4,t5:=Tryz.underlying5,a5:=Tryz.isAgg5,z5:=Tryz.sizeOf5,v5:=Tryz.zeroValue5,t9:=Tryz.underlying9,a9:=Tryz.isAgg9,z9:=Tryz.sizeOf9,v9:=Tryz.zeroValue9,t20:=Tryz.underlying20,a20:=Tryz.isAgg20,z20:=Tryz.sizeOf20,v20:=Tryz.zeroValue20,t37:=Tryz.underlying28,a37:=Tryz.isAgg28,z37:=Tryz.sizeOf28,v37:=Tryz.zeroValue28,t46:=Tryz.underlying287,a46:=Tryz.isAgg287,z46:=Tryz.sizeOf287,v46:=Tryz.zeroValue287,t51:=Tryz.underlying285,a51:=Tryz.isAgg285,z51:=Tryz.sizeOf285,v51:=Tryz.zeroValue285,t53:=Tryz.underlying230,a53:=Tryz.isAgg230,z53:=Tryz.sizeOf230,v53:=Tryz.zeroValue230,t171:=Tryz.underlying229,a171:=Tryz.isAgg229,z171:=Tryz.sizeOf229,v171:=Tryz.zeroValue229,t173:=Tryz.underlying233,a173:=Tryz.isAgg233,z173:=Tryz.sizeOf233,v173:=Tryz.zeroValue233,t212:=Tryz.underlying284,a212:=Tryz.isAgg284,z212:=Tryz.sizeOf284,v212:=Tryz.zeroValue284,t213:=Tryz.underlying286,a213:=Tryz.isAgg286,z213:=Tryz.sizeOf286,t232:=Tryz.underlying325,a232:=Tryz.isAgg325,z232:=Tryz.sizeOf325,v232:=Tryz.zeroValue325,t233:=Tryz.underlying326,a233:=Tryz.isAgg326,z233:=Tryz.sizeOf326,v233:=Tryz.zeroValue326,g17:=qY,g18:=qY,g19:=qY}
theorem Sk:Lays.n146 prog my:={ mixed:=qY,f138:=func133.trans (congrArg some qY),f143:=func134.trans (congrArg some qY),f146:=func54.trans (congrArg some qY),f195:=func184.trans (congrArg some qY),f197:=func185.trans (congrArg some qY),f217:=func225.trans (congrArg some qY),f218:=func186.trans (congrArg some qY),f219:=func187.trans (congrArg some qY),f221:=func88.trans (congrArg some qY),f224:=func227.trans (congrArg some qY),f225:=func226.trans (congrArg some qY),f260:=func224.trans (congrArg some qY),f266:=func238.trans (congrArg some qY),f267:=func228.trans (congrArg some qY),f268:=func132.trans (congrArg some qY),f314:=func239.trans (congrArg some qY),t0:=Tryz.underlying0,a0:=Tryz.isAgg0,z0:=Tryz.sizeOf0,v0:=Tryz.zeroValue0,t3:=Tryz.underlying3,a3:=Tryz.isAgg3,z3:=Tryz.sizeOf3,v3:=Tryz.zeroValue3,t4:=Tryz.underlying4,a4:=Tryz.isAgg4,z4:=Tryz.sizeOf4,v4:=Tryz.zeroValue4,t5:=Tryz.underlying5,a5:=Tryz.isAgg5,z5:=Tryz.sizeOf5,v5:=Tryz.zeroValue5,t9:=Tryz.underlying9,a9:=Tryz.isAgg9,z9:=Tryz.sizeOf9,v9:=Tryz.zeroValue9,t21:=Tryz.underlying21,a21:=Tryz.isAgg21,z21:=Tryz.sizeOf21,v21:=Tryz.zeroValue21,t31:=Tryz.underlying22,a31:=Tryz.isAgg22,z31:=Tryz.sizeOf22,v31:=Tryz.zeroValue22,t46:=Tryz.underlying287,a46:=Tryz.isAgg287,z46:=Tryz.sizeOf287,v46:=Tryz.zeroValue287,t51:=Tryz.underlying285,a51:=Tryz.isAgg285,z51:=Tryz.sizeOf285,v51:=Tryz.zeroValue285,t105:=Tryz.underlying274,a105:=Tryz.isAgg274,z105:=Tryz.sizeOf274,v105:=Tryz.zeroValue274,t119:=Tryz.underlying318,a119:=Tryz.isAgg318,z119:=Tryz.sizeOf318,t138:=Tryz.underlying320,a138:=Tryz.isAgg320,z138:=Tryz.sizeOf320,v138:=Tryz.zeroValue320,t139:=Tryz.underlying321,a139:=Tryz.isAgg321,z139:=Tryz.sizeOf321,v139:=Tryz.zeroValue321,t146:=Tryz.underlying322,a146:=Tryz.isAgg322,z146:=Tryz.sizeOf322,v146:=Tryz.zeroValue322,g1:=qY,g3:=qY,g4:=qY}
theorem E8:Builder.Extra prog my:={ sizeBuilder:=qY,liesBuilder:=qY,t5:=Tryz.underlying5,a5:=Tryz.isAgg5,z5:=Tryz.sizeOf5,v5:=Tryz.zeroValue5,infoByte:=qY,cellsByte:=qY,sizeByte:=qY,neB5:=qc}
theorem Ox:yJ prog 48=some [.sc (.pointer none),.sc (.slice none 0 0)]:=qY
@[simp] theorem lib_b:my.t 72=48:=rfl
@[simp] theorem lib_u:my.t 5=5:=rfl
theorem M9 (gl) {m:Int} (hgm:gl 3=some [.sc (.int .i64 m)]) (l:q9) (c:UInt8) (hl:l.length<4294967281):qM prog gl 54 [tx l,tx [c]] (λ_ y _=>y=uT (zI c l)) :=
 Yr Sk qY gl m hgm l c hl
end Go.Proofs.YtjgpejikjhojcaaGreatDoor
end
section
namespace Go.Proofs.YtjgpejikjhojcaaGreatDoor
open Go Go.Hm Go.Proofs Tryz
attribute [local simp] uo
theorem ν {n:Int} (h1:0<=n) (h2:n<=255):IntKind.u8.wrap n=n:=by rw [IntKind.wrap_u8];omega
theorem J5 {v:q9} {i:Nat} {u:q9} (hu:yM[i]?=some u) (he:u=v) (hno:∀ j,j<i->∀ x,yM[j]?=some x->x≠v):wK v=some i:=by
 obtain⟨hi,hE⟩:=gS hu;unfold wK;rw [pW];refine⟨hi,by simp [hE,he],λj hj=>?_⟩;have:=hno j hj _ (gE qA)
 simpa using this
theorem J6 {v:q9} (hno:∀ j,j<12->∀ x,yM[j]?=some x->x≠v):wK v=none:=by
 unfold wK;rw [List.findIdx?_eq_none_iff];intro x hx;obtain⟨j,hj⟩:=kB hx;have:=hno j (gS hj).1 x hj
 simpa using this
def AY (o:Option Nat):Int:=match o with|some n=>n|none=>-1
theorem SN (gl) (hgl:gl 1=some ((df yM).map AV.sc)) (v:q9):qM prog gl 107 [tx v] (λ_ y _=>y=iv (AY (wK v))):=by
 have hol:yM.length=12:=rfl;have htk:List.take 12 yM=yM:=rfl;have htm:∀ f:q9->AV,List.take 12 (List.map f yM)=List.map f yM:=λf=>rfl;refine qM.qa func107 [.tmp 2] ntmps107 λC w g root=>?_;refine qI ?_<|zC hgl hol htk<|htm;refine zU (λn st=>∃ i:Nat,n=12 - i/\i<=12/\st.tm 0=tx v/\st.tm 5=.agg ((df yM).map AV.sc)/\st.tm 6=iv i/\∀ j,j<i->∀ x,yM[j]?=some x->x≠v) 12 ?_ ?_
 .exact⟨0,qA,qA,qB,by simp [htk,htm],qB,λj hj=>absurd hj qA⟩
 rintro n st - - ⟨i,rfl,hi,h0,h5,h6,hno⟩;by_cases hil:i<12
 .have hii:(i:Int)<12:=qA;have hil':i<yM.length:=hil;obtain⟨u,hu⟩:∃ u,yM[i]?=some u:=⟨_,gE hil'⟩;obtain⟨_,huE⟩:=gS hu;by_cases he:u=v
  .have hb:(u==v)=true:=rM;refine qI ?_<|yz h0 h5 h6 hii hil hil' hu huE<|hb;rw [J5 hu he hno];refine qG [] .nil qH (by simp [AY])
  .have hb:(u==v)=false:=rM;refine qI ?_<|yz h0 h5 h6 hii hil hil' hu huE<|hb;refine⟨12 - (i+1),qA,i+1,rfl,qA,ji,yV,by simp [h6];exact qi qA qA,λj hj x hx=>?_⟩;by_cases e:j=i
   .subst e;rw [hu] at hx;obtain rfl:=sI hx;exact he
   .exact hno j qA x hx
 .obtain rfl:i=12:=qA;rw [J6 hno];refine qI ?_<|qk h0 h5<|h6;refine qG [] .nil qH (by simp [AY])
end Go.Proofs.YtjgpejikjhojcaaGreatDoor
end
section
namespace Go.Proofs.YtjgpejikjhojcaaGreatDoor
open Go Go.Hm Go.Proofs Tryz
attribute [local simp] uo
theorem Ym (gl) (v:q9) (c:UInt8) (hv:v.length<=1048577):qM prog gl 41 [tx v,.sc (.int .u8 (c.toNat:Int))] (λr y H'=>y=.hs r 1 0 (zI c v).length/\H' r=some (.row 1 (ue (zI c v)))):=by
 refine qM.qa func41 [.tmp 4] ntmps41 λC w g root=>?_;refine qI ?_<|qS;refine zU (λn st=>∃ (i j:Nat) (ws:List q9),n=v.length - i/\j<=i/\i<=v.length/\ws.length<=j/\zI c v=ws++zI c (v.drop j)/\c∉(v.drop j).take (i - j)/\st.tm 0=tx v/\st.tm 1=.sc (.int .u8 (c.toNat:Int))/\st.tm 7=iv i/\st.tm 6=iv j/\st.tm 5=.hs (.s 5) 1 0 ws.length/\st.hp (.s 5)=some (.row 1 (ue ws))) v.length ?_ ?_
 .exact⟨0,0,[],qA,qA,qA,qB,qB,qB,qB,qB,qB,qB,qB,qB⟩
 rintro n st - - ⟨i,j,ws,rfl,hji,hi,hwj,hsp,hno,h0,h1,h7,h6,h5,hp5⟩;by_cases hil:i<v.length
 .obtain⟨x,hx⟩:=gX hil;obtain⟨_,hxE⟩:=gS hx;have hw1:IntKind.i64.wrap ((i:Int)+1)=(i:Int)+1:=qi qA qA;by_cases he:x=c
  .subst he;have hat:=Yq hx hji hno;refine qI ?_<|qr h0 h1 h7 h6 h5 hp5 hil hx hxE hw1 hji hi<|@qx;refine⟨v.length - (i+1),qA,i+1,i+1,ws++[(v.drop j).take (i - j)],rfl,qA,qA,qn,by rw [hsp,hat];simp,qB,ji,zx,qB,qB,qB,fQ⟩
  .have hnn:=Tr hx he hji hno;have hn:¬ x.toNat=c.toNat:=λe=>he (UInt8.toNat_inj.1 e);have hb:((x.toNat:Int)==(c.toNat:Int))=false:=qn;refine qI ?_<|yD h0 h1 h7 h6 h5 hp5 hil hx hxE hw1<|aI hn<|hb;exact⟨v.length - (i+1),qA,i+1,j,ws,rfl,qA,qA,hwj,hsp,hnn,ji,zx,rA,aY,yV,be⟩
 .have hge:i=v.length:=qA;have hjl:j<=v.length:=qA;have htk:(v.drop j).take (i - j)=v.drop j:=yU (by rw [List.length_drop];omega);have htk2:(v.drop j).take (v.length - j)=v.drop j:=yU (by rw [List.length_drop];exact qX _);rw [htk] at hno;rw [CV hno] at hsp;refine qI ?_<|vA h0 h1 h7 h6 h5 hp5 hil hji hjl<|htk2;refine qG [(.s 4,root)] (.one rfl) qH ⟨by simp [hsp],by simp [hsp,ue]⟩
theorem L6 (gl) (v:q9) (hv:v.length<=1048577):qM prog gl 45 [tx v] (λ_ y _=>y=iv (sm v)):=by
 refine qM.qa func45 [.tmp 2] ntmps45 λC w g root=>?_;refine qI ?_<|qS;refine zU (λn st=>∃ i:Nat,n=v.length - i/\i<=v.length/\st.tm 0=tx v/\st.tm 4=iv i/\st.tm 3=iv (yb (v.take i))/\yb (v.take i)<=99) v.length ?_ ?_
 .exact⟨0,qA,qA,qB,qB,by simp [yb],by simp [yb]⟩
 rintro n st - - ⟨i,rfl,hi,h0,h4,h3,hd⟩;by_cases hil:i<v.length
 .obtain⟨c,hc⟩:=gX hil;obtain⟨_,hcE⟩:=gS hc;have hcl:=c.toNat_lt;by_cases hg:48<=c.toNat/\c.toNat<=57
  .obtain⟨g1,g2⟩:=hg;have g1':¬ c.toNat<48:=qA;have g2':¬ 57<c.toNat:=qA;have g1i:¬ (c.toNat:Int)<48:=qA;have g2i:¬ (57:Int)<(c.toNat:Int):=qA;by_cases h9:9<yb (v.take i)
   .have hno:=sp (Y3 hil h9);have h9i:(9:Int)<(yb (v.take i):Nat):=qA;generalize yb (v.take i)=m at h3 hd h9 h9i;refine qI ?_<|yD h0 h4 h3 hil hc hcE g1' g2' g1i g2i<|aI h9<|h9i;refine qG [] .nil qH yF
   .have hdt:=I6 hc;have h9i:¬ (9:Int)<(yb (v.take i):Nat):=qA;generalize yb (v.take i)=m at h3 hd h9 h9i hdt;obtain⟨k,hk⟩:∃ k:Nat,k=c.toNat - 48:=⟨_,rfl⟩;have hw0:IntKind.i64.wrap ((i:Int)+1)=(i:Int)+1:=qi qA qA;have hw1:IntKind.i64.wrap (10 * (m:Int))=10 * (m:Int):=qi qA qA;have hw2:IntKind.u8.wrap ((c.toNat:Int) - 48)=(k:Int):=IE;have hw3:IntKind.i64.wrap (k:Int)=(k:Int):=qi qA qA;have hw4:IntKind.i64.wrap (10 * (m:Int)+(k:Int))=10 * (m:Int)+(k:Int):=qi qA qA;refine qI ?_<|qr h0 h4 h3 hil hc hcE g1' g2' g1i g2i h9 h9i<|zM hw0 hw1 hw2 hw3<|hw4;refine⟨v.length - (i+1),qA,i+1,rfl,qA,ji,by simp [hw0],by simp [hdt,<- hk],by rw [hdt];omega⟩
  .have hno:=sp (MY hc hg);by_cases g1:c.toNat<48
   .have g1i:(c.toNat:Int)<48:=qA;refine qI ?_<|jJ h0 h4 h3 hil hc hcE g1<|g1i;refine qG [] .nil qH yF
   .have g1i:¬ (c.toNat:Int)<48:=qA;have g2:57<c.toNat:=qA;have g2i:(57:Int)<(c.toNat:Int):=qA;refine qI ?_<|vA h0 h4 h3 hil hc hcE g1 g1i g2<|g2i;refine qG [] .nil qH yF
 .have hge:i=v.length:=qA;rw [hge,wD] at h3 hd;have hend:=Y5 hd;have hnum:=oy gl (yb v) qA qA;rw [sS] at hnum;by_cases he:v=[]
  .have hb:(v==[])=true:=by simp [he]
   have hno:sm v=-1:=sp (by rw [he];rfl);refine qI ?_<|zM h0 h4 h3 hil<|hb;refine qG [] .nil qH yF
  have hb:(v==[])=false:=rM;by_cases hq:v=ym (yb v)
  .rw [if_pos hq] at hend;have hqb:(v==ym (yb v))=true:=by simpa using hq
   have hsi:=GH hend;generalize ym (yb v)=u at hnum hqb;have fx:=j2 h0 h4 h3 hil hb<|hqb;have c1:=hnum;refine qQ ?_;clear fx c1;refine qG [] .nil Az (by simp [hsi])
  .rw [if_neg hq] at hend;have hqb:(v==ym (yb v))=false:=by simpa using hq
   have hsi:=sp hend;generalize ym (yb v)=u at hnum hqb;have fx:=j2 h0 h4 h3 hil hb<|hqb;have c1:=hnum;refine qQ ?_;clear fx c1;refine qG [] .nil qH (by simp [hsi])
theorem L5 {a b:List q9}:yp (a++b)=match yp a,yp b with|some x,some y=>some (x++y)|_,_=>none:=by
 induction a with
 | nil =>
  cases h:yp b <;> simp [yp] <;> simpa [yp] using h
 | cons l a ih =>
  rw [fF,iC,iC,ih]
  cases jL l with
  | none=>rfl
  | some o =>
   cases yp a with
   | none=>rfl
   | some x =>
    cases yp b <;> rfl
theorem Wh {ws:List q9} {i n:Nat} {w:q9} {ns:List Nat} (hw:ws[i]?=some w) (h:yp (ws.take i)=some ns) (hn:jL w=some n):yp (ws.take (i+1))=some (ns++[n]):=by
 rw [vM,hw,L5,h];simp [iC,hn,yp]
theorem Wf {ws:List q9} {i:Nat} {w:q9} (hw:ws[i]?=some w) (hn:jL w=none):yp ws=none:=by
 have e:ws=ws.take i++w::ws.drop (i+1):=by
  obtain⟨h,hE⟩:=gS hw
  conv=>lhs;rw [<- pY i ws]
  rw [gO h,hE]
 rw [e,L5,iC,hn]
 cases yp (ws.take i) <;> rfl
theorem Wg {ws:List q9} {ns:List Nat} (h:yp ws=some ns):ns.length=ws.length:=by
 induction ws generalizing ns with
 | nil=>simp [yp] at h;subst h;rfl
 | cons l a ih =>
  rw [iC] at h
  cases ho:jL l with
  | none=>rw [ho] at h;cases h
  | some o =>
   cases ha:yp a with
   | none=>rw [ho,ha] at h;cases h
   | some x =>
    rw [ho,ha] at h;obtain rfl:=sI h;simp [ih ha]
theorem L7 (gl) (ws:List q9) (hl:ws.length<=1048577) (hw:∀ w∈ws,w.length<=1048577):qM prog gl 77 [uT ws] (λr y H'=>match yp ws with
  | some ns=>y=.zT [.hs r 1 0 ns.length,bv true]/\H' r=some (.row 1 (qm (ns.map λ(n:Nat)=>(n:Int))))
  | none=>y=.zT [.hs r 1 0 0,bv false]/\H' r=some (.row 1 [])):=by
 refine qM.qa func77 [.tmp 2,.tmp 3] ntmps77 λC w g root=>?_;refine qI ?_<|qS;refine zU (λn st=>∃ (i:Nat) (ns:List Nat),n=ws.length - i/\i<=ws.length/\yp (ws.take i)=some ns/\st.tm 0=uT ws/\st.tm 5=iv i/\st.tm 4=.hs (.s 4) 1 0 ns.length/\st.hp (.s 4)=some (.row 1 (qm (ns.map λ(n:Nat)=>(n:Int))))) ws.length ?_ ?_
 .exact⟨0,[],qA,qA,by simp [yp],qB,qB,qB,qB⟩
 rintro n st - - ⟨i,ns,rfl,hi,hns,h0,h5,h4,hp4⟩;have hnl:=Wg hns;rw [mE] at hnl;by_cases hil:i<ws.length
 .obtain⟨w',hw'⟩:∃ x,ws[i]?=some x:=⟨_,gE hil⟩;obtain⟨_,hwE⟩:=gS hw';have hq:=L6 gl w' (hw _ (gM hw'));have hw0:IntKind.i64.wrap ((i:Int)+1)=(i:Int)+1:=qi qA qA
  cases hs:jL w' with
  | none =>
   have hno:=Wf hw' hs;rw [sp hs] at hq;have fx:=jQ h0 h5 h4 hp4 hil hw'<|hwE;have c1:=hq;refine qQ ?_;clear fx c1;refine qG [(.s 2,root)] (.one rfl) qH ?_;rw [hno];simp
  | some b =>
   rw [GH hs] at hq;have hb0:¬ (b:Int)<0:=qA;have fx:=yz h0 h5 h4 hp4 hil hw' hwE hb0<|hw0;have c1:=hq;refine qQ ?_;clear fx c1;refine⟨ws.length - (i+1),qA,i+1,ns++[b],rfl,qA,Wh hw' hns hs,ji,by simp [hw0],qB,?_⟩;have hmap:(ns++[b]).map (λ(n:Nat)=>(n:Int))=ns.map (λ(n:Nat)=>(n:Int))++[(b:Int)]:=qB;rw [hmap,<- Ru];have hLl:(ns.map λ(n:Nat)=>(n:Int)).length=ns.length:=qB;generalize (ns.map λ(n:Nat)=>(n:Int))=L at hLl ⊢;rw [<- hLl];simp [qm]
 .have hge:i=ws.length:=qA;rw [hge,wD] at hns;refine qI ?_<|zM h0 h5 h4 hp4<|hil;refine qG [(.s 2,root)] (.one rfl) qH ?_;rw [hns];simp [hp4]
end Go.Proofs.YtjgpejikjhojcaaGreatDoor
end
section
set_option maxHeartbeats 8000000
namespace Go.Proofs.YtjgpejikjhojcaaGreatDoor
open Go Go.Hm Go.Proofs
abbrev Vk:qb:=bQ<|.l 11 []<|.l 12 []<|.done
attribute [local simp] uo
abbrev mi (ns:List Nat):List Int:=ns.map λ(n:Nat)=>(n:Int)
def tI (k:Nat) (ns:List Nat):AV->Prop:=λy=>∃ S:qP,y=.zT [S.av,bv (ap k ns).isSome]/\∀ s,ap k ns=some s->S=s
theorem B7 {k:Nat} (hk:k<12):k=7\/k=8\/k=2\/k=5\/k=6\/9<=k\/(k<7/\k≠2/\k≠5/\k≠6):=qA
theorem Ec {l:List Nat} (h:l.length=2):∃ a b,l=[a,b]:=by
 rcases l with _|⟨a,_|⟨b,_|⟨c,l⟩⟩⟩
 .simp at h
 .simp at h
 .exact⟨a,b,rfl⟩
 .simp at h
theorem Sp {l:List Nat} (h:l.length=3):∃ a b c,l=[a,b,c]:=by
 rcases l with _|⟨a,_|⟨b,_|⟨c,_|⟨d,l⟩⟩⟩⟩
 .simp at h
 .simp at h
 .simp at h
 .exact⟨a,b,c,rfl⟩
 .simp at h
theorem cd {A G G2:Prop} (k:G2) (x:A) (h:A->jP G2->G:=by
 intro fx kk;refine qQ ?_
 repeat ((first|refine qf (id:=15) Vk mixed ?_);refine zQ ?_;refine qQ ?_)
 exact kk.h):G:=h x ⟨k⟩
theorem ZE (gl) (k:Nat) (a:Nat) (hk:k<12):qM Tryz.prog gl 79 [iv k,vJ (mi [a])] (λ_ y _=>tI k [a] y):=by
 refine qM.qa Tryz.func79 [.cell 4 87,.tmp 5] Tryz.ntmps79 λC w g root=>?_;rcases B7 hk with rfl|rfl|rfl|rfl|rfl|h9|⟨h7,n2,n5,n6⟩
 .skip
  refine cd ?_<|qS;exact qG [] .nil qH ⟨⟨7,0,a,0⟩,va,va⟩
 .skip
  refine cd ?_<|qS;exact qG [] .nil qH ⟨⟨8,0,a,0⟩,va,va⟩
 .skip
  refine cd ?_<|qS;exact qG [] .nil qH ⟨⟨2,0,0,0⟩,va,va⟩
 .skip
  refine cd ?_<|qS;exact qG [] .nil qH ⟨⟨5,0,0,0⟩,va,va⟩
 .skip
  refine cd ?_<|qS;exact qG [] .nil qH ⟨⟨6,0,0,0⟩,va,va⟩
 .skip
  have e7:((k:Int)==7)=false:=qn;have e8:((k:Int)==8)=false:=qn;have e2:((k:Int)==2)=false:=qn;have e5:((k:Int)==5)=false:=qn;have e6:((k:Int)==6)=false:=qn;have c7:¬ k=7:=qA;have c8:¬ k=8:=qA;have c2:¬ k=2:=qA;have c5:¬ k=5:=qA;have c6:¬ k=6:=qA;have i9:(9:Int)<=k:=qA;have l7:¬ k<7:=qA;have i7:¬ (k:Int)<7:=qA;refine cd ?_<|qr e7 e8 e2 e5 e6 c7 c8 c2 c5 c6 h9 i9<|aI l7<|i7;exact qG [] .nil qH ⟨⟨k,a,0,0⟩,r8,r8⟩
 .skip
  have e7:((k:Int)==7)=false:=qn;have e8:((k:Int)==8)=false:=qn;have e2:((k:Int)==2)=false:=qn;have e5:((k:Int)==5)=false:=qn;have e6:((k:Int)==6)=false:=qn;have c7:¬ k=7:=qA;have c8:¬ k=8:=qA;have c2:¬ k=2:=qA;have c5:¬ k=5:=qA;have c6:¬ k=6:=qA;have i9:¬ (9:Int)<=k:=qA;have h9:¬ 9<=k:=qA;have i7:(k:Int)<7:=qA;refine cd ?_<|qr e7 e8 e2 e5 e6 c7 c8 c2 c5 c6 h9 i9<|aI h7<|i7;exact qG [] .nil qH ⟨⟨k,0,0,0⟩,rb,rb⟩
theorem ZF (gl) (k:Nat) (a b:Nat) (hk:k<12):qM Tryz.prog gl 79 [iv k,vJ (mi [a,b])] (λ_ y _=>tI k [a,b] y):=by
 refine qM.qa Tryz.func79 [.cell 4 87,.tmp 5] Tryz.ntmps79 λC w g root=>?_;rcases B7 hk with rfl|rfl|rfl|rfl|rfl|h9|⟨h7,n2,n5,n6⟩
 .skip
  refine cd ?_<|qS;exact qG [] .nil qH ⟨⟨7,0,0,0⟩,va,va⟩
 .skip
  refine cd ?_<|qS;exact qG [] .nil qH ⟨⟨8,0,0,0⟩,va,va⟩
 .skip
  refine cd ?_<|qS;exact qG [] .nil qH ⟨⟨2,0,0,0⟩,va,va⟩
 .skip
  refine cd ?_<|qS;exact qG [] .nil qH ⟨⟨5,a,b,-1⟩,va,va⟩
 .skip
  refine cd ?_<|qS;exact qG [] .nil qH ⟨⟨6,0,0,0⟩,va,va⟩
 .skip
  have e7:((k:Int)==7)=false:=qn;have e8:((k:Int)==8)=false:=qn;have e2:((k:Int)==2)=false:=qn;have e5:((k:Int)==5)=false:=qn;have e6:((k:Int)==6)=false:=qn;have c7:¬ k=7:=qA;have c8:¬ k=8:=qA;have c2:¬ k=2:=qA;have c5:¬ k=5:=qA;have c6:¬ k=6:=qA;have i9:(9:Int)<=k:=qA;have l7:¬ k<7:=qA;have i7:¬ (k:Int)<7:=qA;refine cd ?_<|qr e7 e8 e2 e5 e6 c7 c8 c2 c5 c6 h9 i9<|aI l7<|i7;exact qG [] .nil qH ⟨⟨k,0,0,0⟩,r8,r8⟩
 .skip
  have e7:((k:Int)==7)=false:=qn;have e8:((k:Int)==8)=false:=qn;have e2:((k:Int)==2)=false:=qn;have e5:((k:Int)==5)=false:=qn;have e6:((k:Int)==6)=false:=qn;have c7:¬ k=7:=qA;have c8:¬ k=8:=qA;have c2:¬ k=2:=qA;have c5:¬ k=5:=qA;have c6:¬ k=6:=qA;have i9:¬ (9:Int)<=k:=qA;have h9:¬ 9<=k:=qA;have i7:(k:Int)<7:=qA;refine cd ?_<|qr e7 e8 e2 e5 e6 c7 c8 c2 c5 c6 h9 i9<|qk h7 i7<|@qx;exact qG [] .nil qH ⟨⟨k,a,b,0⟩,rb,rb⟩
end Go.Proofs.YtjgpejikjhojcaaGreatDoor
end
section
set_option maxHeartbeats 8000000
namespace Go.Proofs.YtjgpejikjhojcaaGreatDoor
open Go Go.Hm Go.Proofs
abbrev Vl:qb:=bQ<|.l 11 []<|.l 12 []<|.done
attribute [local simp] uo
theorem ce {A G G2:Prop} (k:G2) (x:A) (h:A->jP G2->G:=by
 intro fx kk;refine qQ ?_
 repeat ((first|refine qf (id:=15) Vl mixed ?_);refine zQ ?_;refine qQ ?_)
 exact kk.h):G:=h x ⟨k⟩
theorem ZG (gl) (k:Nat) (a b c:Nat) (hk:k<12):qM Tryz.prog gl 79 [iv k,vJ (mi [a,b,c])] (λ_ y _=>tI k [a,b,c] y):=by
 refine qM.qa Tryz.func79 [.cell 4 87,.tmp 5] Tryz.ntmps79 λC w g root=>?_;rcases B7 hk with rfl|rfl|rfl|rfl|rfl|h9|⟨h7,n2,n5,n6⟩
 .skip
  refine ce ?_<|qS;exact qG [] .nil qH ⟨⟨7,0,0,0⟩,va,va⟩
 .skip
  refine ce ?_<|qS;exact qG [] .nil qH ⟨⟨8,0,0,0⟩,va,va⟩
 .skip
  refine ce ?_<|qS;exact qG [] .nil qH ⟨⟨2,a,b,c⟩,va,va⟩
 .skip
  refine ce ?_<|qS;exact qG [] .nil qH ⟨⟨5,a,b,c⟩,va,va⟩
 .skip
  refine ce ?_<|qS;exact qG [] .nil qH ⟨⟨6,a,b,c⟩,va,va⟩
 .skip
  have e7:((k:Int)==7)=false:=qn;have e8:((k:Int)==8)=false:=qn;have e2:((k:Int)==2)=false:=qn;have e5:((k:Int)==5)=false:=qn;have e6:((k:Int)==6)=false:=qn;have c7:¬ k=7:=qA;have c8:¬ k=8:=qA;have c2:¬ k=2:=qA;have c5:¬ k=5:=qA;have c6:¬ k=6:=qA;have i9:(9:Int)<=k:=qA;have l7:¬ k<7:=qA;have i7:¬ (k:Int)<7:=qA;refine ce ?_<|qr e7 e8 e2 e5 e6 c7 c8 c2 c5 c6 h9 i9<|aI l7<|i7;exact qG [] .nil qH ⟨⟨k,0,0,0⟩,r8,r8⟩
 .skip
  have e7:((k:Int)==7)=false:=qn;have e8:((k:Int)==8)=false:=qn;have e2:((k:Int)==2)=false:=qn;have e5:((k:Int)==5)=false:=qn;have e6:((k:Int)==6)=false:=qn;have c7:¬ k=7:=qA;have c8:¬ k=8:=qA;have c2:¬ k=2:=qA;have c5:¬ k=5:=qA;have c6:¬ k=6:=qA;have i9:¬ (9:Int)<=k:=qA;have h9:¬ 9<=k:=qA;have i7:(k:Int)<7:=qA;refine ce ?_<|qr e7 e8 e2 e5 e6 c7 c8 c2 c5 c6 h9 i9<|aI h7<|i7;exact qG [] .nil qH ⟨⟨k,0,0,0⟩,rb,rb⟩
theorem ZD (gl) (k:Nat) (ns:List Nat) (hk:k<12) (h1:ns.length≠1) (h2:ns.length≠2) (h3:ns.length≠3):qM Tryz.prog gl 79 [iv k,vJ (mi ns)] (λ_ y _=>tI k ns y):=by
 have hno:ap k ns=none:=by
  rcases ns with _|⟨a,_|⟨b,_|⟨c,_|⟨d,l⟩⟩⟩⟩
  .rfl
  .simp at h1
  .simp at h2
  .simp at h3
  .rfl
 have hL:(mi ns).length=ns.length:=qB;generalize mi ns=L at hL ⊢;have d1:((L.length:Int)==1)=false:=qn;have d2:((L.length:Int)==2)=false:=qn;have d3:((L.length:Int)==3)=false:=qn;refine qM.qa Tryz.func79 [.cell 4 87,.tmp 5] Tryz.ntmps79 λC w g root=>?_;rcases B7 hk with rfl|rfl|rfl|rfl|rfl|h9|⟨h7,n2,n5,n6⟩
 .skip
  refine ce ?_<|qk d1 d2<|d3;exact qG [] .nil qH ⟨⟨7,0,0,0⟩,yF,yF⟩
 .skip
  refine ce ?_<|qk d1 d2<|d3;exact qG [] .nil qH ⟨⟨8,0,0,0⟩,yF,yF⟩
 .skip
  refine ce ?_<|qk d1 d2<|d3;exact qG [] .nil qH ⟨⟨2,0,0,0⟩,yF,yF⟩
 .skip
  refine ce ?_<|qk d1 d2<|d3;exact qG [] .nil qH ⟨⟨5,0,0,0⟩,yF,yF⟩
 .skip
  refine ce ?_<|qk d1 d2<|d3;exact qG [] .nil qH ⟨⟨6,0,0,0⟩,yF,yF⟩
 .skip
  have e7:((k:Int)==7)=false:=qn;have e8:((k:Int)==8)=false:=qn;have e2:((k:Int)==2)=false:=qn;have e5:((k:Int)==5)=false:=qn;have e6:((k:Int)==6)=false:=qn;have c7:¬ k=7:=qA;have c8:¬ k=8:=qA;have c2:¬ k=2:=qA;have c5:¬ k=5:=qA;have c6:¬ k=6:=qA;have i9:(9:Int)<=k:=qA;have l7:¬ k<7:=qA;have i7:¬ (k:Int)<7:=qA;refine ce ?_<|qr d1 d2 d3 e7 e8 e2 e5 e6 c7 c8 c2 c5<|zM c6 h9 i9 l7<|i7;exact qG [] .nil qH ⟨⟨k,0,0,0⟩,yF,yF⟩
 .skip
  have e7:((k:Int)==7)=false:=qn;have e8:((k:Int)==8)=false:=qn;have e2:((k:Int)==2)=false:=qn;have e5:((k:Int)==5)=false:=qn;have e6:((k:Int)==6)=false:=qn;have c7:¬ k=7:=qA;have c8:¬ k=8:=qA;have c2:¬ k=2:=qA;have c5:¬ k=5:=qA;have c6:¬ k=6:=qA;have i9:¬ (9:Int)<=k:=qA;have h9:¬ 9<=k:=qA;have i7:(k:Int)<7:=qA;refine ce ?_<|qr d1 d2 d3 e7 e8 e2 e5 e6 c7 c8 c2 c5<|zM c6 h9 i9 h7<|i7;exact qG [] .nil qH ⟨⟨k,0,0,0⟩,yF,yF⟩
theorem ZH (gl) (k:Nat) (ns:List Nat) (hk:k<12):qM Tryz.prog gl 79 [iv k,vJ (mi ns)] (λ_ y _=>tI k ns y):=by
 by_cases h1:ns.length=1
 .obtain⟨a,rfl⟩:=pX.1 h1;exact ZE gl k a hk
 by_cases h2:ns.length=2
 .obtain⟨a,b,rfl⟩:=Ec h2;exact ZF gl k a b hk
 by_cases h3:ns.length=3
 .obtain⟨a,b,c,rfl⟩:=Sp h3;exact ZG gl k a b c hk
 exact ZD gl k ns hk h1 h2 h3
end Go.Proofs.YtjgpejikjhojcaaGreatDoor
end
section
namespace Go.Proofs.YtjgpejikjhojcaaGreatDoor
open Go Go.Hm Go.Proofs Tryz
theorem M7 (gl) (v:q9) (c:UInt8) (hv:v.length<=1048577):qM prog gl 41 [tx v,.sc (.int .u8 (c.toNat:Int))] (λ_ y _=>y=uT (zI c v)) :=
 (Ym gl v c hv).settle λr y H' h=>⟨uT (zI c v),Dx,rfl⟩
theorem M6 (gl) (l:q9) (hl:l.length<=1048577):qM prog gl 41 [tx l,.sc (.int .u8 32)] (λ_ y _=>y=uT (zI 32 l)):=M7 gl l 32 hl
theorem Yl (gl) (l:q9) (hl:l.length<=1048577):qM prog gl 41 [tx l,.sc (.int .u8 10)] (λ_ y _=>y=uT (zI 10 l)):=M7 gl l 10 hl
end Go.Proofs.YtjgpejikjhojcaaGreatDoor
end
