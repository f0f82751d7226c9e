import Derived.Test.YtdnebaieamppbaaGreatDoorF31
import Derived.Test.YtdnebaieamppbaaGreatDoorF14
set_option linter.unusedSimpArgs false
set_option linter.unusedVariables false
set_option maxRecDepth 100000
set_option maxHeartbeats 4000000

section
namespace Go.Proofs.YtdnebaieamppbaaGreatDoor
open Go Go.Hm Go.Proofs Tryz
theorem QH {hp:Nm->Option AO} {n:Nm} {p:YU} {j:Nat} {k:Y4} (h:qAf hp n p p.length) (hh:zD p) (hk:p[j]?=some k):Bw hp Z5 (.pt (.c n j 0) 0) (Ns p j k):=by
 have:=Hp h hh j (gS hk).1
 rwa [jd hh hk] at this
theorem Om {n:Nm} {len j:Nat} (h:j<len):(wK n len len)[j]?=some [AV.pt (.c n j 0) 0]:=by rw [b8 h,if_pos h]
theorem Pr {p:YU} (hp:Y1 p):vJ p 0=true:=by
 obtain⟨k,hk⟩:∃ k,p[0]?=some k:=⟨_,gE (by have:=hp.len.1;omega)⟩;simp only [vJ,hk,uB];intro x _;simp [ux,hp.qCy hk]
theorem zx (gl) (p:YU) (hs:Zm p):qX prog gl 39 [Zc p] (λ_ y _=>y=bv (vL p)):=by
 refine qX.Yb func39 [.tmp 2] ntmps39 λC w g root=>?_
 cases hsh:yn p with
 | false =>
  have fx:= hsh;have c1:=am gl p hs;refine qI ?_;clear fx c1;refine qE [] .nil qF ?_;simp [vL,hsh]
 | true =>
  have hp:=Y1.of hs hsh;have hh:=hp.Y9;have hl7:=hp.len;have hpo:vL p=(List.range p.length).all (λb=>b==0||vJ p b):=by simp only [vL,hsh,sm]
  rw [hpo];have fx:= hsh;have c1:=am gl p hs;have e1:=gU gl p hs hh hp.names;refine qI ?_;clear fx c1 e1
  first|rintro K hK y H' ⟨rfl,hO⟩|rintro y H' ⟨rfl,hO⟩
  obtain⟨ho1,ho2⟩:=hO.Yv;refine⟨qB,?_⟩;refine qD ?_<|Ya;refine qR (λn st=>∃ i:Nat,n=p.length - i/\i<=p.length/\st.tm 9=.hs (.s 9) 1 0 p.length/\qAf st.hp (.s 9) p p.length/\st.tm 10=iv p.length/\st.tm 11=iv i/\(List.range i).all (λb=>b==0||vJ p b)=true) p.length ?_ ?_
  .exact⟨0,qB,qB,qB,⟨vE,λj k hj hk=>BM⟩,qB,qB,qB⟩
  clear ho1 ho2 hO;rintro n st - - ⟨i,rfl,hi,h9,⟨ho1,ho2⟩,h10,h11,hal⟩;refine qD ?_<|aI h10<|h11;refine wJ zK (λht=>?_) (λhf=>?_)
  .have hlt:i<p.length:=zE;obtain⟨k,hk⟩:=gX hlt;have hsg:=Om (n:=.s 9) hlt;obtain⟨_,hse⟩:=gS hsg;clear ht
   all_goals have fx:=kG h9 ho1 h10 h11 hsg hse<|hlt
   repeat' (first|refine qK ?_|refine λ(K:St->Prop) hK=>?_|refine qP (hB:=(by first|((repeat' (first|exact .nil|refine .cons ?_ ?_|exact .refl _|exact ya vq vn|exact kA vq vn ec|exact QH (n:=.s 9) (p:=p) (k:=k) ⟨vE,λj k hj hk=>BM⟩ hh hk));done)|fail)) (hF:=fY _ p hp i k hk) (h:=?_)|refine cJ (h1:=λht=>?_) (h2:=λht=>?_))
   all_goals try clear fx
   .refine qE [] .nil qF ?_;have hd:vJ p i=false:=zE;have hi0:i≠0:=λe=>by rw [e,Pr hp] at hd;cases hd
    rw [yt hlt (show (i==0||vJ p i)=false by simp [hd,hi0])]
    rfl
   .have hd:vJ p i=true:=zE;refine⟨p.length - (i+1),qA,i+1,rfl,qA,v8,⟨vE,λj k hj hk=>BM⟩,vo,q8,?_⟩;rw [j3,hal,hd];simp
  .have hge:i=p.length:=by
    have:¬ i<p.length:=zS;omega
   subst hge;refine qD ?_<|Ya;refine qE [] .nil aS (by simp [hal])
abbrev XX:Y8:=yq<|.l 11 [5,4,1,0]<|.l 12 []<|.done
theorem aM (gl) (v:Y6):qX prog gl 102 [Y6.av v] (λ_ y _=>y=iv (Hm.shown v)):=by
 refine qX.Yb func102 [.tmp 2] ntmps102 λC w g root=>?_;by_cases h1:v.1=1
 .skip
  refine qD ?_<| h1;refine qE [] .nil qF (by simp [Hm.shown,h1])
 by_cases h2:v.1=2
 .skip
  refine qD ?_<|aI h1<|h2;refine qE [] .nil qF (by simp [Hm.shown,h1,h2])
 by_cases h3:v.1=3
 .skip
  refine qD ?_<|jD h1 h2<|h3;refine qE [] .nil qF BF
 .skip
  refine qD ?_<|jD h1 h2<|h3;refine qE [] .nil qF BF
theorem bJ (gl) (H:Nm->Option AO) (F:Nat) (p:YU) (W:YY) (e:Int) (hO:YX H F p W) :
  Yc prog gl 155 DM [.pt Mn 0,iv e] H (λ_ y H'=>y=bv false/\YX H' F p { W with en:=e }) Yz:=by
 have hT:=hO.top;simp only [uF] at hT;refine Yc.Yb func155 [.tmp 4] ntmps155 (λ_=>qJ) λC w g root hroot=>?_;refine qD ?_<| hT;refine qE [] .nil qF ⟨qB,YX.fin ⟨by simp [hO.top,uF,hT],⟨by simp [hO.scs.top,hT],λj k hj hk=>by simp [hO.scs.sc j k hj hk,hT]⟩,by simp [hO.out,hT],by simp [hO.Zb,hT],hO.run.imp λl hl=>⟨hl.1,by simp [hl.2,hT]⟩,by simp [hO.YT,hT],λk g hg=>by simp [hO.bx k g hg,hT],by simp [hO.Yt,hT],λk c hc=>(hO.cls k c hc).imp λms hm=>⟨by simp [hm.1,hT],hm.2⟩,λi a ha=>by simp [hO.env i a ha,hT],λi hi=>(hO.Z4 i hi).imp λms hm=>⟨by simp [hm.1,hT],hm.2⟩,λk i j hk hn=>if e:k=1/\i=0/\j=0 then .inl e else hO.only k i j hk cG⟩⟩
theorem bl {A G G2:Prop} (k:G2) (x:A) (h:A->Yr G2->G:=by
 intro fx kk;refine qI ?_
 repeat ((first|refine Y7 (id:=1) XX mixed ?_);refine qW ?_;refine qI ?_)
 exact kk.h):G:=h x ⟨k⟩
theorem gp (gl) (H:Nm->Option AO) (F:Nat) (p:YU) (W:YY) (a x:Nat) (hP:Y1 p) (hw:Yx p W) (ha:a<W.YR.length) (hx:x<8) (hO:YX H F p W) :
  Yc prog gl 194 DM [.pt Mn 0,ptE a,iv x] H (λ_ y H'=>y=.Zg [ptE (A0 (W.loc p a x)),iv (Hm.ZO p (W.YS a) (qh p (W.YS a) x))]/\YX H' F p W) Yz:=by
 have hh:=hP.Y9;obtain⟨c,hc⟩:=gX ha;have Ym:=hw.Zs a c hc;obtain⟨k,hk⟩:=gX Ym;obtain⟨_,hkE⟩:=gS hk;have hbk:=jq hc;have hT:=hO.top;have hc1:=hO.scs.top;have hc2:=hO.scs.sc;have hE:=hO.env a c hc;simp only [uF] at hT;simp only [yE] at hE;have hsr:=b8 (n:=.c Mn 0 1) (len:=p.length) (i:=p.length) Ym;rw [if_pos Ym] at hsr;obtain⟨_,hsE⟩:=gS hsr;have hka:qV p c.YS=k.kind:=kS;refine Yc.Yb func194 [.tmp 6,.tmp 7] ntmps194 (λ_=>qJ) λC w g root hroot=>?_;rcases nj (x:=(x:Int)) hh hw ha with⟨h1,h2⟩|⟨o,i,d,ho,h1,h2,h3,hd,hdb,hins⟩
 .rw [hbk] at h1;have hl:Hm.ZO p (W.YS a) (qh p (W.YS a) x)=4:=by rw [hbk,h1];simp [Hm.ZO]
  rw [hl,h2];have fx:=kG hT hE hc1 hsr hsE Ym<|h1;have c1:=zM gl p hP c.YS k hk x hx;refine bl ?_<|fx;clear fx c1;refine qE [] .nil qF ⟨by simp [A0],YX.fin (have om:=hO;YX.re om)⟩
 .rw [hbk] at h1;have hon:((o:Int) == -1)=false:=yY;have hol:o<p.length:=by rw [<- hdb];exact hw.Zs i d hd
  rw [h2];by_cases hob:o=c.YS
  .have hai:i=a:=by rw [h3,jF hc hob.symm]
   have hsame:((c.YS:Int)==(c.YS:Int))=true:=qB;subst hob;by_cases hk2:k.kind=2
   .have hl:Hm.ZO p (W.YS a) (qh p (W.YS a) x)=4:=by
     rw [hbk,h1];simp [Hm.ZO,hka,hk2]
    rw [hl];have hkb:(k.kind==2)=true:=by simpa using hk2
    have hsc:=hc2 c.YS k Ym hk;have fx:=jP hT hE hc1 hsr hsE Ym h1 hon hsame hsc<|aI hkb<|@qT;have c1:=zM gl p hP c.YS k hk x hx;refine bl ?_<|fx;clear fx c1;refine qE [] .nil qF ⟨by simp [A0,hai],YX.fin (have om:=hO;YX.re om)⟩
   .have hl:Hm.ZO p (W.YS a) (qh p (W.YS a) x)=2:=by
     rw [hbk,h1];simp [Hm.ZO,hka,hk2]
    rw [hl];have hkb:(k.kind==2)=false:=by simpa using hk2
    have hsc:=hc2 c.YS k Ym hk;have fx:=jP hT hE hc1 hsr hsE Ym h1 hon hsame hsc<|aI hkb<|@qT;have c1:=zM gl p hP c.YS k hk x hx;refine bl ?_<|fx;clear fx c1;refine qE [] .nil qF ⟨by simp [A0,hai],YX.fin (have om:=hO;YX.re om)⟩
  .have hl:Hm.ZO p (W.YS a) (qh p (W.YS a) x)=3:=by
    have e1:¬ (o:Int)<0:=qA;have e2:¬ (o:Int)=c.YS:=qA;rw [hbk,h1];simp [Hm.ZO,e1,e2]
   rw [hl];have hne:((o:Int)==(c.YS:Int))=false:=yY;obtain⟨u1,u2,u3⟩:=uv hh hw hc (λe=>hob e.symm) ho hins;have ha0:¬ a=0:=qA;rw [if_neg ha0] at hE;have fx:=gJ hT hE hc1 hsr hsE Ym h1 hon hne<|@qT;have c1:=zM gl p hP c.YS k hk x hx;refine bl ?_<|fx;clear fx c1;refine qR (λn st=>∃ b:Nat,n=b/\b<W.YR.length/\ua W.YR o b b=i/\qy p (W.YS b) o=true/\st.tm 8=iv o/\st.tm 9=ptE b/\YX st.hp F p W) c.up ?_ ?_
   .exact⟨c.up,rfl,qA,by rw [<- fR hh hw ho hc (λe=>hob e.symm) hins];exact h3.symm,u3,qB,qB,(have om:=hO;YX.re om)⟩
   clear hT hc1 hc2 hE hO;rintro n st - - ⟨b,rfl,hb,hcl,hib,t8,t9,hO⟩;obtain⟨e,he⟩:=gX hb;have hE:=hO.env n e he;simp only [yE] at hE;by_cases heb:e.YS=o
   .have hni:n=i:=by rw [<- hcl,jF he heb]
    subst hni;subst heb;have hsame:((e.YS:Int)==(e.YS:Int))=true:=qB;refine bl ?_<|yl t8 t9 hE hsame<|@qT;refine qE [] .nil qF ⟨by simp [A0],YX.fin (have om:=hO;YX.re om)⟩
   .obtain⟨e1,e2,e3⟩:=uv hh hw he heb ho hib;have hneb:((e.YS:Int)==(o:Int))=false:=yY;have hn0:¬ n=0:=qA;rw [if_neg hn0] at hE;refine bl ?_<|yl t8 t9 hE hneb<|@qT;refine⟨e.up,qA,e.up,rfl,qA,?_,e3,gG,qB,(have om:=hO;YX.re om)⟩;rw [<- hcl,fR hh hw ho he heb hib]
abbrev XC:Y8:=kP<|.l 6 [1,0]<|.l 7 [1,0]<|.l 8 []<|.q 9<|.l 10 []<|.done
theorem S9 (gl) (H:Nm->Option AO) (gs:Int->Yj) (l:List Int) (hH:H (.u 2 0 0)=some (.map (vR gs l))) :
  Yc prog gl 163 (Nm.under (.u 2 0 0)) [.mp (.u 2 0 0)] H (λr y H'=>y=.fn (.func 198) [] [.pt r 0]/\H' r=some (.row 1 [[.mp (.u 2 0 0)]])/\H' (.u 2 0 0)=some (.map (vR gs l))) Yz:=by
 have hnf:zH (.sc Value.nilFunc)=false:=rfl;refine Yc.Yb func163 [.tmp 2] ntmps163 (λ_=>qZ rfl) λC w g root hroot=>?_;refine qD ?_<|aI hH<|hnf;refine qE [(.s 1,root)] (.one rfl) qF ⟨qB,by simp [hroot root (Nm.Y0 _)],jU⟩
theorem IW:xK prog 162 198 3:=λBm b nn D0 R w h1 h2 h3 h4 h5=>CG Bm b nn D0 R w h1 h2 h3 h4 h5
theorem uJ {A G G2:Prop} (k:G2) (x:A) (h:A->Yr G2->G:=by
 intro fx kk;refine qI ?_
 repeat ((first|refine Y7 (id:=12) XC mixed ?_);refine qW ?_;refine qI ?_)
 exact kk.h):G:=h x ⟨k⟩
theorem Br (gl) (b:Int) (gs:Int->Yj) (l m:List Int) (hlm:l.Perm m) (hs:m.Pairwise (·<·)) (hr:∀ x∈l,0<=x/\x<=7) (h8:l.length<=8) (H:Nm->Option AO) (hH:H (.u 2 0 0)=some (.map (vR gs l))) :
  Yc prog gl 110 (Nm.under (.u 2 0 0)) [iv b,.mp (.u 2 0 0)] H (λr y H'=>y=.agg ((Vw.mk b (uc (m.map λx=>(x,gs x))) (bZ (m.map λx=>(x,gs x)))).own r 0)/\qBm H' r 0 ⟨b,uc (m.map λx=>(x,gs x)),bZ (m.map λx=>(x,gs x))⟩) Yz:=by
 obtain⟨S,hS⟩:∃ S,S=m.filter λy=>(gs y).isSome:=⟨_,rfl⟩;obtain⟨L0,hL0⟩:∃ S,S=l.filter λy=>(gs y).isSome:=⟨_,rfl⟩;have hLS:L0.Perm S:=by rw [hS,hL0];exact hlm.filter _
 rw [EI,II,<- hS];have hSl:S.length<=8:=by rw [hS];exact uS (List.length_filter_le _ _) (hlm.length_eq ▸ h8)
 have hSs:S.Pairwise (·<·):=hS ▸ hs.filter _;have hSm:∀ x∈S,x∈l/\(gs x).isSome=true:=λx hx=>by rw [hS] at hx;exact⟨hlm.mem_iff.2 (Ds.1 hx).1,(Ds.1 hx).2⟩
 have hSr:∀ x∈S,0<=x/\x<=7:=λx hx=>hr x (hSm x hx).1;have hnd:l.Nodup:=hlm.nodup_iff.2 (hs.imp λh=>qA);refine Yc.Yb func110 [.cell 4 104] ntmps110 (λ_=>qZ rfl) λC w g root hroot=>?_;refine uJ ?_<| hH;refine qR (λn st=>∃ x:Nat,n=8 - x/\x<=8/\st.tm 0=iv b/\st.tm 1=.mp (.u 2 0 0)/\st.hp (.u 2 0 0)=some (.map (vR gs (gm gs l x)))/\st.tm 4=.pt (.s 4) 0/\st.hp (.s 4)=some (.row 3 [[iv 0,.hs (.c (.s 4) 0 1) 1 0 0,.hs (.c (.s 4) 0 2) 1 0 0]])/\st.hp (.c (.s 4) 0 1)=some (.row 1 [])/\st.hp (.c (.s 4) 0 2)=some (.row 1 [])/\st.tm 11=iv x) 8 ?_ ?_
 .exact⟨0,qA,qA,qB,qB,by simp [JG hr,hH],qB,qB,qB,qB,qB⟩
 rintro n st - - ⟨x,rfl,hx,h0,h1,hm,h4,hp4,hq4,hr4,h11⟩;by_cases hx8:x<8
 .have hx8':(x:Int)<8:=qA;have hget:=DO (g:=gs) (l:=gm gs l x) (n:=(x:Int));by_cases hxl:(x:Int)∈l
  .rw [if_pos (Cl.2 hxl)] at hget;rcases hgx:gs x with _|⟨v1,v2⟩
   .have hdel:=MR (g:=gs) (l:=gm gs l x) (n:=(x:Int));rw [<- JH hnd (by rw [hgx];rfl)] at hdel;rw [hgx,yR] at hget;refine uJ ?_<|kH h1 hm h11 hx8 hx8'<|hget;intro K hK;have fx:=aI h1 (aI hm hdel);refine Ge (h:=?_);clear fx;refine uJ ?_<| h11;exact⟨8 - (x+1),qA,x+1,rfl,qA,qu,qz,qB,jW,wU,by simp [hq4],by simp [hr4],q8⟩
   .have hk:=te (g:=gs) (l:=l) (x:=x) (λ_=>by rw [hgx];rfl);rw [hgx,jt] at hget;refine uJ ?_<|kH h1 hm h11 hx8 hx8'<|hget;exact⟨8 - (x+1),qA,x+1,rfl,qA,qu,qz,by simp [hm,hk],jW,wU,by simp [hq4],by simp [hr4],q8⟩
  .rw [if_neg (λh=>hxl (Cl.1 h))] at hget;have hk:=te (g:=gs) (l:=l) (x:=x) (λh=>absurd h hxl);refine uJ ?_<|kH h1 hm h11 hx8 hx8'<|hget;exact⟨8 - (x+1),qA,x+1,rfl,qA,qu,qz,by simp [hm,hk],jW,wU,by simp [hq4],by simp [hr4],q8⟩
 .have hge:x=8:=qA;subst hge;rw [Lz hr,<- hL0] at hm;refine uJ ?_<|j4 h0 h1 hm<|h11;intro K hK;have fx:=aI h1 hm;refine xN (.u 2 0 0) rfl cF (hF:=S9 gl _ gs L0 (by simp [nO,hm])) (h:=?_);rintro y H1 ⟨rfl,hk1,hk2⟩;clear fx;refine uJ ?_<|jD h0 hk1<|hk2;have fx:=aI hk1 hk2;refine OG (n:=.s 31) (N:=.u 2 0 0) (gs:=gs) (l:=L0) (S:=S) ⟨_,rfl,rfl,rfl⟩ Tryz.underlying3 IW (h8:=hLS.length_eq ▸ hSl) (hs:=hSs) (hlS:=hLS) (hr:=λx hx=>hSr x (hLS.mem_iff.1 hx)) (h:=?_);clear fx;refine uJ ?_<|yl h0 h1 hm hk1<|hk2;refine qR (λn st=>∃ (i:Nat) (V:List Int),n=S.length - i/\i<=S.length/\V=(S.take i).map (λy=>Hm.shown ((gs y).getD (0,0)))/\V.length=i/\st.tm 1=.mp (.u 2 0 0)/\st.hp (.u 2 0 0)=some (.map (vR gs L0))/\st.tm 4=.pt (.s 4) 0/\st.hp (.s 4)=some (.row 3 [[iv 0,.hs (.c (.s 4) 0 1) 1 0 0,.hs (.c (.s 4) 0 2) 1 0 0]])/\st.hp (.c (.s 4) 0 1)=some (.row 1 [])/\st.hp (.c (.s 4) 0 2)=some (.row 1 [])/\st.tm 8=.pt (.s 8) 0/\st.hp (.s 8)=some (.row 3 [[iv b,.hs (.c (.s 8) 0 1) 1 0 S.length,.hs (.c (.s 8) 0 2) 1 0 V.length]])/\st.hp (.c (.s 8) 0 1)=some (.row 1 (qS S))/\st.hp (.c (.s 8) 0 2)=some (.row 1 (qS V))/\st.tm 35=.hs (.c (.s 8) 0 1) 1 0 S.length/\st.tm 36=iv S.length/\st.tm 37=iv i) S.length ?_ ?_
  .exact⟨0,[],qA,qA,qB,rfl,by simp [h1,hm],by simp [hk2],jW,wU,by simp [hq4],by simp [hr4],qB,qB,qB,qB,qB,qB,qB⟩
  clear h0 h1 hm h4 hp4 hq4 hr4 h11 hk1 hk2;rintro n st - - ⟨i,V,rfl,hi,hV,hVl,h1,hm,h4,hp4,hq4,hr4,h8',hp8,hN8,hV8,h35,h36,h37⟩;have hVb:V.length<=8:=qA;by_cases hil:i<S.length
  .obtain⟨x,hxS⟩:=gX hil;obtain⟨_,hxE⟩:=gS hxS;have hxm:=gM hxS;have hget:=DO (g:=gs) (l:=L0) (n:=x);rw [if_pos (hLS.mem_iff.2 hxm)] at hget;obtain⟨v,hv⟩:=Nc.1 (hSm x hxm).2;have hsh:=aM gl v;obtain⟨v1,v2⟩:=v;rw [hv,jt] at hget;have fx:=qQ h1 hm h8' hp8 hN8 hV8 h35 h36 h37 hil hxS hxE<|aI hget<|hVb;have c1:=hsh;refine uJ ?_<|fx;clear fx c1;refine⟨S.length - (i+1),qA,i+1,V++[Hm.shown (v1,v2)],rfl,qA,by rw [dN,hxS,sQ,hV];simp [hv],by simp [hVl],qz,cF,jW,wU,by simp [hq4],by simp [hr4],by simp [h8'],qB,by simp [hN8],zU,by simp [h35],by simp [h36],by simp [h37];exact Yi qA qA⟩
  .obtain rfl:i=S.length:=qA;rw [kM] at hV;subst hV;refine uJ ?_<|jP h1 hm h4 hp4 h8' hp8 hN8 hV8 h35 h36<|aI h37<|hil;have r1:Nm.under (.c root 0 1) (.c root 0 2)=false:=Nm.qB4 qL (Nm.Y0 _);refine qE [(.c (.s 8) 0 1,.c root 0 1),(.c (.s 8) 0 2,.c root 0 2)] (.two rfl rfl qL) BI ⟨?_,⟨?_,?_⟩⟩
   .simp [Jq,trL]
   .simp [hN8,r1,hroot root (Nm.Y0 _)]
   .simp [hV8,r1,hroot root (Nm.Y0 _)]
abbrev XD:Y8:=gV<|.l 10 []<|.done
def SV (p:YU) (w:YY) (a:Nat) (x:Int):Option Nat :=
 if w.YS a=0 then none else if qV p (w.YS a)=2 then some a else some (ua w.YR (fi p (w.YS a) x) a a)
theorem Kl {p:YU} {w:YY} {a:Nat} {x:Int}:gQ p w a x=w.get (SV p w a x) x:=by
 unfold gQ SV
 split
 .rfl
 .split <;> rfl
theorem AE {w:YY} {i:Nat} {c:Hm.Act} (hc:w.YR[i]?=some c) (hi:i≠0):w.Z4 i=w.vars (some i):=by simp [YY.Z4,YY.vars,hi,hc]
theorem eE {A G G2:Prop} (k:G2) (x:A) (h:A->Yr G2->G:=by
 intro fx kk;refine qI ?_
 repeat ((first|refine Y7 (id:=1) XD mixed ?_);refine qW ?_;refine qI ?_)
 exact kk.h):G:=h x ⟨k⟩
theorem LS (gl) (H:Nm->Option AO) (p:YU) (W:YY) (a x:Nat) (hP:Y1 p) (hw:Yx p W) (ha:a<W.YR.length) (hx:x<8) (hsx:(x:Int)∈yp p (W.YS a)) (hO:ZX H p W) :
  Yc prog gl 116 DM [.pt Mn 0,ptE a,iv x] H (λ_ y H'=>y=.agg (jJ (gQ p W a x))/\ZX H' p W) Yz:=by
 have hh:=hP.Y9;have hx7:0<=(x:Int)/\(x:Int)<=7:=qA;obtain⟨c,hc⟩:=gX ha;have Ym:=hw.Zs a c hc;obtain⟨k,hk⟩:=gX Ym;obtain⟨_,hkE⟩:=gS hk;have hbk:=jq hc;obtain⟨_,hT,x2,x3,x4,x5,x6,x7,x8,x9,rfl⟩:=hO.top;have hc1:=hO.scs.top;have hc2:=hO.scs.sc;have hE:=hO.env a c hc;simp only [yE] at hE;have hsr:=b8 (n:=.c Mn 0 1) (len:=p.length) (i:=p.length) Ym;rw [if_pos Ym] at hsr;obtain⟨_,hsE⟩:=gS hsr;have hka:qV p c.YS=k.kind:=kS;have hsc:=hc2 c.YS k Ym hk
 have ha0:a=0↔c.YS=0:=by
  constructor
  .rintro rfl;obtain⟨a0,h1,h2⟩:=hw.a0;rw [hc] at h1;obtain rfl:=sI h1;exact h2
  .intro e;rcases iR a with h|h
   .exact h
   .obtain⟨_,c',k',_,_,_,h0⟩:=hw.up a c hc h;omega
 rw [Kl];obtain⟨s,hs⟩:∃ s,W.get (SV p W a x) x=s:=⟨_,rfl⟩;rw [hs];by_cases hk1:k.kind=1
 .have hk1b:(k.kind==1)=true:=by simp [hk1]
  have hb0:0<c.YS:=by
   rcases iR c.YS with e|e
   .rw [e] at hk;have:=(hP.Ze hk).2 rfl;omega
   .exact e
  rw [hbk] at hsx;obtain⟨ho,hins,hout⟩:=Sf hh hk hk1 hb0 hsx;have hins:qy p (W.YS a) (fi p c.YS x)=true:=by rw [hbk];exact hins
  have hloc:qr c.YS k x=true->fi p c.YS x=c.YS:=λh=>by simp [fi,hk,h]
  have hlv:SV p W a x=some (ua W.YR (fi p c.YS x) a a):=by
   unfold SV;rw [hbk,if_neg qA,if_neg (by rw [hka,hk1];decide)]
  rw [hlv] at hs;generalize fi p c.YS x=o at *;obtain⟨d,hd,hdb⟩:=ny hh hw ho a a (qp _) ha hins;obtain⟨i,hi⟩:∃ i,i=ua W.YR o a a:=⟨_,rfl⟩;rw [<- hi] at hd hs
  have hi0:i≠0:=by
   rintro rfl;obtain⟨a0,h1,h2⟩:=hw.a0;rw [hd] at h1;obtain rfl:=sI h1;omega
  have hil:=(gS hd).1;refine Yc.Yb func116 [.cell 6 65] ntmps116 (λ_=>qJ) λC w g root hroot=>?_;have hlf:=yz gl c.YS k (zp p k.parent) k.params x hx
  have hle:(k.kind != 0&&decide ((x:Int)∈k.bd)&&!(decide ((x:Int)∈k.dc 9)||decide ((x:Int)∈k.dc 10)))=qr c.YS k x:=by
   simp [qr,hk1,hb0,Bool.and_assoc]
  have hlf':=hlf;rw [hle] at hlf'
  cases hlc:qr c.YS k x
  .rw [hlc] at hlf';have hou:=bM gl p hP c.YS k hk x hx;rw [hout hlc] at hou;have fx:=ko hT hE hc1 hsr hsE Ym hsc<|hk1b;have c1:=hlf';have c2:=hou;refine eE ?_<|fx;clear fx c1 c2;refine qR (λn st=>∃ b:Nat,n=b/\b<W.YR.length/\ua W.YR o b b=i/\qy p (W.YS b) o=true/\st.tm 9=iv o/\st.tm 8=ptE b/\st.tm 2=iv x/\st.tm 6=.pt (.s 6) 0/\st.hp (.s 6)=some (.row 3 [[bv false,iv 0,iv 0]])/\ZX st.hp p W) a ?_ ?_
   .exact⟨a,rfl,ha,hi.symm,hins,qB,qB,qB,qB,qB,⟨eX,⟨ao,λj k hj hk=>au⟩,λk j hk hj=>eR,λi a ha=>eN,λi hi=>(hO.Z4 i hi).imp λms hm=>⟨vN,hm.2⟩,λk i j hk hn=>if e:k=1/\i=0/\j=0 then .inl e else hO.only k i j hk cG⟩⟩
   clear hT hc1 hc2 hE hsc hO;rintro n st - - ⟨b,rfl,hb,hcl,hib,t9,t8,t2,t6,tp6,hO⟩;obtain⟨e,he⟩:=gX hb;have hE:=hO.env n e he;simp only [yE] at hE;by_cases heb:e.YS=o
   .have hni:n=i:=by rw [<- hcl,jF he heb]
    subst hni;obtain⟨ms,hms,hmo⟩:=hO.Z4 n hb;rw [AE he hi0] at hmo;have hlk:=hmo.get' hx7;rw [hs] at hlk;have hsame:((e.YS:Int)==(o:Int))=true:=by simp [heb]
    rcases s with _|⟨v1,v2⟩
    all_goals
     refine eE ?_<|gJ t9 t8 t2 t6 tp6 hE hsame @qT hms<|hlk;refine qE [] .nil (by simp [t6];rfl) ⟨qB,ZX.fin ⟨eX,⟨ao,λj k hj hk=>au⟩,λk j hk hj=>eR,λi a ha=>eN,λi hi=>(hO.Z4 i hi).imp λms hm=>⟨vN,hm.2⟩,λk i j hk hn=>if e:k=1/\i=0/\j=0 then .inl e else hO.only k i j hk cG⟩⟩
   .obtain⟨e1,e2,e3⟩:=uv hh hw he heb ho hib;have hneb:((e.YS:Int)==(o:Int))=false:=yY;have hn0:¬ n=0:=qA;rw [if_neg hn0] at hE;refine eE ?_<|yl t9 t8 hE hneb<|@qT;refine⟨e.up,qA,e.up,rfl,qA,?_,e3,iJ,qB,uQ,aT,by simp [tp6],⟨eX,⟨ao,λj k hj hk=>au⟩,λk j hk hj=>eR,λi a ha=>eN,λi hi=>(hO.Z4 i hi).imp λms hm=>⟨vN,hm.2⟩,λk i j hk hn=>if e:k=1/\i=0/\j=0 then .inl e else hO.only k i j hk cG⟩⟩;rw [<- hcl,fR hh hw ho he heb hib]
  .rw [hlc] at hlf';have hoc:=hloc hlc;have hia:i=a:=by rw [hi,jF hc hoc.symm]
   subst hia;obtain⟨ms,hms,hmo⟩:=hO.Z4 i ha;rw [AE hc hi0] at hmo;have hlk:=hmo.get' hx7;rw [hs] at hlk;rcases s with _|⟨v1,v2⟩
   all_goals
    have fx:=gJ hT hE hc1 hsr hsE Ym hsc hk1b hms<|hlk;have c1:=hlf';refine eE ?_<|fx;clear fx c1;refine qE [] .nil qF ⟨qB,ZX.fin ⟨eX,⟨ao,λj k hj hk=>au⟩,λk j hk hj=>eR,λi a ha=>eN,λi hi=>(hO.Z4 i hi).imp λms hm=>⟨vN,hm.2⟩,λk i j hk hn=>if e:k=1/\i=0/\j=0 then .inl e else hO.only k i j hk cG⟩⟩
 .have hk1b:(k.kind==1)=false:=by rw [beq_eq_false_iff_ne];exact hk1
  have hlv:W.Z4 a=W.vars (SV p W a x):=by
   unfold SV;rw [hbk];by_cases hb:c.YS=0
   .rw [if_pos hb];have:=ha0.2 hb;simp [YY.Z4,this,YY.vars]
   .have hk2:k.kind=2:=by
     have:=hP.head c.YS k hk;unfold ym at this;rw [if_neg hb] at this;omega
    rw [if_neg hb,if_pos (by rw [hka];exact hk2)];exact AE hc (λe=>hb (ha0.1 e))
  obtain⟨ms,hms,hmo⟩:=hO.Z4 a ha;rw [hlv] at hmo;have hlk:=hmo.get' hx7;rw [hs] at hlk;refine Yc.Yb func116 [.cell 6 65] ntmps116 (λ_=>qJ) λC w g root hroot=>?_;rcases s with _|⟨v1,v2⟩
  all_goals
   refine eE ?_<|gJ hT hE hc1 hsr hsE Ym hsc hk1b hms<|hlk;refine qE [] .nil qF ⟨qB,ZX.fin ⟨eX,⟨ao,λj k hj hk=>au⟩,λk j hk hj=>eR,λi a ha=>eN,λi hi=>(hO.Z4 i hi).imp λms hm=>⟨vN,hm.2⟩,λk i j hk hn=>if e:k=1/\i=0/\j=0 then .inl e else hO.only k i j hk cG⟩⟩
@[simp] theorem scRows_tr {p:YU} {f:Nm->Option Nm}:(dh p).map (λr=>r.map (AV.tr f))=dh p:=by simp [dh]
theorem mu (p:YU) (j:Int):zp p j=Bb\/∃ r,zp p j=.el r 0:=by
 unfold zp
 cases p.length with
 | zero=>exact .inl rfl
 | succ n =>
  rw [ah]
  split
  .exact .inl rfl
  .split
   .exact .inl rfl
   .exact .inr ⟨_,rfl⟩
@[simp] theorem scopeA_isNil {p:YU} {j:Int}:zH (zp p j)=false:=by
 rcases mu p j with h|⟨r,h⟩ <;> rw [h] <;> rfl
@[simp] theorem scopeA_sNm {p:YU} {j:Int}:sNm (zp p j)=none:=by
 rcases mu p j with h|⟨r,h⟩ <;> rw [h] <;> rfl
theorem cX (gl) (p:YU) (hh:zD p) (i:Nat) (k:Y4) (hk:p[i]?=some k) (b:Nat):qX prog gl 125 [Ns p i k,iv b] (λ_ y _=>y=bv (qy p i b)):=by
 have hil:=(gS hk).1;refine qX.Yb func125 [.tmp 4] ntmps125 λC w g root=>?_;refine qD ?_<|Ya;refine qR (λn st=>∃ j:Int,n=(j+1).toNat /\ -1<=j/\j<p.length/\st.tm 1=iv b/\st.tm 5=zp p j/\qy p i b=qy p j b) (i+1) ?_ ?_
 .exact⟨i,qA,qA,qA,qB,by simp [jd hh hk],rfl⟩
 rintro n st - - ⟨j,rfl,hj1,hj,h1,h5,hin⟩;rcases Int.lt_or_le j 0 with hn|hn
 .rw [ll hn,Bb] at h5
  have hfa:qy p i b=false:=by
   rw [hin,zm qA];exact decide_eq_false qA
  refine qD ?_<|aI h1<|h5;refine qE [] .nil qF ?_;simp [hfa]
 .obtain⟨J,rfl⟩:∃ J:Nat,j=J:=⟨j.toNat,qA⟩;obtain⟨q,hq⟩:∃ q,p[J]?=some q:=⟨_,gE qA⟩;obtain⟨hq1,hq2,_⟩:=hh J q hq;rw [jd hh hq] at h5
  cases hjb:((J:Int)==b)
  .have hne:¬ (J:Int)=b:=by simpa using hjb
   have hin2:qy p i b=qy p q.parent b:=by
    rw [hin];rcases Int.lt_or_le b J with h|h
    .exact zZ hh qA hq h
    .rw [zm h,zm qA,decide_eq_false hne,decide_eq_false qA]
   refine qD ?_<|jD h1 h5<|hjb;exact⟨(q.parent+1).toNat,qA,q.parent,rfl,hq1,qA,qz,qB,hin2⟩
  .have he:(J:Int)=b:=by simpa using hjb
   have htr:qy p i b=true:=by
    rw [hin,zm qA];exact decide_eq_true he
   refine qD ?_<|jD h1 h5<|hjb;refine qE [] .nil qF ?_;simp [htr]
theorem Tf {k:Y4} {y:Nat} (hy:y<8):(decide ((y:Int)∈k.rd)||decide ((y:Int)∈k.bd)||(decide ((y:Int)∈k.dc 9)||decide ((y:Int)∈k.dc 10)))=decide ((y:Int)∈k.us):=by
 have e:=Ck (xs:=k.rd++k.bd++k.dc 9++k.dc 10) hy;simp only [Y4.us,e,cK];by_cases h1:(y:Int)∈k.rd <;> by_cases h2:(y:Int)∈k.bd <;> by_cases h3:(y:Int)∈k.dc 9 <;> by_cases h4:(y:Int)∈k.dc 10 <;> simp [h1,h2,h3,h4]
theorem cN (gl) (p:YU) (i:Nat) (k:Y4) (x:Nat) (hx:x<8):qX prog gl 75 [Ns p i k,iv x] (λ_ y _=>y=bv (decide ((x:Int)∈k.us))):=by
 have:=RK gl i k (zp p k.parent) k.params x hx
 rwa [Tf hx] at this
theorem pH (gl) (p:YU) (hp:Y1 p) (i:Nat) (k:Y4) (hk:p[i]?=some k) (x:Nat) (hx:x<8):qX prog gl 124 [Ns p i k,iv x] (λ_ y _=>y=bv (qr i k x)):=by
 have h:=yz gl i k (zp p k.parent) k.params x hx;have hk0:=hp.Ze hk
 have e:(k.kind != 0&&decide ((x:Int)∈k.bd)&&!(decide ((x:Int)∈k.dc 9)||decide ((x:Int)∈k.dc 10)))=qr i k x:=by
  by_cases h0:i=0
  .have:(k.kind != 0)=false:=by simp [hk0,h0]
   rw [this];simp [qr,h0]
  .have:(k.kind != 0)=true:=by simp [hk0,h0]
   rw [this];have h1:decide (0<i)=true:=decide_eq_true qA;simp only [qr,h1];simp [Bool.and_assoc]
 rwa [e] at h
abbrev Ud:Y8:=aB<|.done
theorem lF {A G G2:Prop} (k:G2) (x:A) (h:A->Yr G2->G:=by
 intro fx kk;refine qI ?_
 repeat ((first|refine Y7 (id:=6) Ud mixed ?_);refine qW ?_;refine qI ?_)
 exact kk.h):G:=h x ⟨k⟩
theorem nF (gl) (xs ys:List Int) (hx:xs.length<=1048576) (hy:ys.length<=1048576):qX prog gl 48 [ZD xs,ZD ys] (λ_ z _=>z=bv (decide (xs=ys))):=by
 refine qX.Yb func48 [.tmp 4] ntmps48 λC w g root=>?_;by_cases hl:xs.length=ys.length
 case neg =>
  have h1:((xs.length:Int)==ys.length)=false:=qv;refine lF ?_<|aI h1<|@qT;refine qE [] .nil qF ?_;have:¬ xs=ys:=λe=>hl (by rw [e]);simp [this]
 refine lF ?_<|aI hl<|@qT;refine qR (λn st=>∃ i:Nat,n=xs.length - i/\i<=xs.length/\st.tm 0=ZD xs/\st.tm 1=ZD ys/\st.tm 5=iv i/\xs.take i=ys.take i) xs.length ?_ ?_
 .exact⟨0,qB⟩
 rintro n st - - ⟨i,rfl,hi,h0,h1,h5,heq⟩;refine lF ?_<|aI h0<|h5;refine wJ zK (λht=>?_) (λhf=>?_)
 .have hlt:i<xs.length:=zE;obtain⟨x,hxi⟩:∃ x,xs[i]?=some x:=⟨_,gE qA⟩;obtain⟨y,hyi⟩:∃ y,ys[i]?=some y:=⟨_,gE qA⟩;clear ht
  all_goals have fx:=kH h0 h1 h5 hxi hyi<|@qT
  repeat' (first
   | refine uZ ?_|refine ja ?_|refine yH ?_|refine kJ λK hK=>?_
   | ((with_reducible refine vX hK ?_);clear hK K)
   | (with_reducible first|refine q9 ?_|refine jC ?_|refine jB ?_|refine vI ?_|refine za ?_|refine vk ?_|refine w5 ?_|refine jo qL ?_)
   | refine kN ?_
   | refine kV ?_
   | (with_reducible first|refine jg ?_|refine zO (h:=?_))
   | (with_reducible refine x_q (h:=?_))
   | refine j8 (h1:=?_)|refine jr (h1:=?_)
   | (refine Y7 (id:=6) Ud mixed λK hK=>?_)
   | ((with_reducible refine wI hK ?_);clear hK K)
   | ((with_reducible refine em ?_);first|refine su (h:=?_)|refine gL (h:=?_)|refine gN (h:=?_)|refine gK (h:=?_))
   | ((with_reducible refine em ?_);refine gO (h1:=λht=>?_) (h2:=λht=>?_))
   | refine a_l rfl ?_|refine G3 ?_ ?_|refine G1 ?_ ?_ ?_|(with_reducible refine aI ?_ ?_)|exact vi|refine cM (h2:=?_)
   | refine cJ (h1:=λht=>?_) (h2:=λht=>?_)
   | fail)
  all_goals try clear fx
  all_goals first
   | (refine qE [] .nil qF ?_
      have hne:¬ xs=ys:=λe=>BL;simp [hne])
   | (have hxy:x=y:=by simpa using ht
      refine⟨xs.length - (i+1),qA,i+1,rfl,qA,qu,qz,q8,?_⟩;rw [dN,dN,heq,hxi,hyi,hxy])
 .have hge:i=xs.length:=by
   have:¬ i<xs.length:=zS;omega
  have:xs=ys:=BK;refine lF ?_<|Ya;refine qE [] .nil aS (by simp [this])
theorem fo {l l':List Int} (h:∀ x:Int,0<=x->x<=7->(x∈l↔x∈l')):∀ n:Nat,n<=8->zG l n=zG l' n
 | 0,_=>rfl
 | n+1,hn=>by
  simp only [zG];rw [fo h n qA];have:=h n qA qA;by_cases e:(n:Int)∈l
  .rw [if_pos e,if_pos (this.1 e)]
  .rw [if_neg e,if_neg (λe'=>e (this.2 e'))]
theorem dd {l l':List Int} (h:∀ x:Int,0<=x->x<=7->(x∈l↔x∈l')):sorted l=sorted l':=fo h 8 (qp _)
theorem Di {l:List Int} {x:Nat} (h:x<8) (hx:(x:Int)∉l):(ye l).take x++bv false::(ye l).drop (x+1)=ye l:=by
 have hl:x<(ye l).length:=qv;have yF:=List.set_eq_take_append_cons_drop (l:=ye l) (i:=x) (a:=bv false);rw [if_pos hl] at yF;rw [<- yF];apply aW;intro i;rw [bT];by_cases e:x=i
 .subst e;rw [if_pos rfl,if_pos hl,lW h];simp [hx]
 .rw [if_neg e]
theorem pI (gl) (l:List Int):qX prog gl 166 [.agg (ye l)] (λr z H'=>z=.hs r 1 0 (sorted l).length/\H' r=some (.row 1 (qS (sorted l)))):=by
 refine qX.Yb func166 [.tmp 2] ntmps166 λC w g root=>?_;refine qD ?_<|Ya;refine qR (λn st=>∃ x:Nat,n=8 - x/\x<=8/\st.tm 6=.agg (ye l)/\st.tm 7=iv x/\st.tm 3=.hs (.s 3) 1 0 (zG l x).length/\st.hp (.s 3)=some (.row 1 (qS (zG l x)))/\(zG l x).length<=x) 8 ?_ ?_
 .exact⟨0,qA,qA,qB,qB,Aj,Aj,Aj⟩
 rintro n st - - ⟨x,rfl,hx,h6,h7,h3,hp3,hle⟩;refine qD ?_<| h7;refine wJ zK (λht=>?_) (λhf=>?_)
 .have hx8':(x:Int)<8:=zE;have hx8:x<8:=qA;have hbg:=lW (l:=l) hx8;obtain⟨Ym,hbE⟩:=gS hbg;clear ht;by_cases hm:(x:Int)∈l
  .have he:zG l (x+1)=zG l x++[(x:Int)]:=by simp [zG,hm]
   generalize hL:zG l x=L at h3 hp3 he hle;refine qD ?_<|er h6 h7 hbg hbE hx8 hx8' hm h3<|hp3;refine⟨8 - (x+1),qA,x+1,rfl,qA,zL,q8,by simp [he],?_,by simp [he];omega⟩;rw [he];simp [hp3,qS]
  .have he:zG l (x+1)=zG l x:=by simp [zG,hm]
   refine qD ?_<|kG h6 h7 hbg hbE hx8 hx8'<|hm;exact⟨8 - (x+1),qA,x+1,rfl,qA,zL,q8,by simp [he,h3],by simp [he,hp3],by rw [he];omega⟩
 .have hge:x=8:=by
   have:¬ (x:Int)<8:=zS;omega
  subst hge;refine qD ?_<|aI h3<|hp3;exact zq (t:=2) eQ eQ qB
end Go.Proofs.YtdnebaieamppbaaGreatDoor
end
