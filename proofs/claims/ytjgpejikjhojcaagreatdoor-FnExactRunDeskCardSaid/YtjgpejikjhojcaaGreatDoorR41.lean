import Derived.Test.YtjgpejikjhojcaaGreatDoorR40
import Derived.Test.YtjgpejikjhojcaaGreatDoorR17
set_option linter.unusedSimpArgs false
set_option linter.unusedVariables false
set_option maxRecDepth 100000
set_option maxHeartbeats 4000000

section
namespace Go.Proofs.YtjgpejikjhojcaaGreatDoor
open Go Go.Hm Go.Proofs Tryz
abbrev ft:qV:=bF<|.l 8 [7,6,5,4,3]<|.l 9 []<|.done
attribute [local simp] wC
def ON (RH:Option qX):Nm->AV->(Nm->Option AO)->Prop:=λr y H'=>∃ k:qX,y=.zX [.agg [iv k.kind,iv k.parent,.hs (.c r 0 2) 1 0 k.params.length,.hs (.c r 0 3) 4 0 0],bv RH.isSome]/\H' (.c r 0 2)=some (.row 1 (qj k.params))/\H' (.c r 0 3)=some (.row 4 [])/\∀ k',RH=some k'->k'=k
theorem xz {A G G2:Prop} (k:G2) (x:A) (h:A->jL G2->G:=by
 intro fx kk;refine qK ?_
 repeat ((first|refine qQ (id:=10) ft mixed ?_);refine zK ?_;refine qK ?_)
 exact kk.h):G:=h x ⟨k⟩
theorem Z9 (gl) (l:qU) (hl:l.length<=1048577):qM prog gl 42 [tx l] (ON (bq l)):=by
 have hsp:=G0 gl l hl;have hne:=eb (c:=32) (l:=l);have hlen:=tK (c:=32) (s:=l);have hpart:=pb (c:=32) (s:=l)
 have hrH:∀ W,zM 32 l=W->bq l=match W with
   | i::n::f::ws=>if i=bu then match zq n with
     | some q=>if f=dB/\ws=[] then some ⟨2,q,[],[]⟩ else if f=bK then (vA ws).map λns=>⟨1,q,ns.map λ(n:Nat)=>(n:Int),[]⟩ else none
     | none=>none
    else none
   | _=>none:=by
  intro W e;unfold bq;rw [e]
  rfl
 generalize bq l=RH at hrH ⊢;generalize zM 32 l=W at hsp hne hlen hpart hrH;have hrh:=hrH W rfl;clear hrH;refine qM.q9 func42 [.cell 2 82,.tmp 3] ntmps42 λC w g root=>?_;rcases W with _|⟨a,_|⟨b,_|⟨f,ws⟩⟩⟩
 .exact absurd rfl hne
 .have hno:RH=none:=hrh;have fx:=qd;have p1:=hsp;refine zf ?_
  repeat ((first|refine qQ (id:=10) ft mixed ?_);refine vU ?_;refine zf ?_)
  clear fx p1;refine qF [(.s 2,root)] (.one rfl) qE ⟨⟨0,0,[],[]⟩,yO,wJ,qB,yO⟩
 .have hno:RH=none:=hrh;have fx:=qd;have p1:=hsp;refine zf ?_
  repeat ((first|refine qQ (id:=10) ft mixed ?_);refine vU ?_;refine zf ?_)
  clear fx p1;refine qF [(.s 2,root)] (.one rfl) qE ⟨⟨0,0,[],[]⟩,yO,wJ,qB,yO⟩
 have h3:¬ (ws.length:Int)+1+1+1<3:=qA;have h3':(3:Int)<=(ws.length:Int)+1+1+1:=qA;have htn:((ws.length:Int)+1+1+1).toNat - 3=ws.length:=qA;have hrn:=MF gl ws (by simp at hlen;omega) (λv hv=>by have:=hpart v sF;omega);have hq:=CY gl b (by have:=hpart b qB;omega);by_cases ha:a=bu
 case neg =>
  have hb:(a==[105,110])=false:=by simpa [bu] using ha
  have hno:RH=none:=by rw [hrh];simp [ha]
  have fx:=qk h3 hb<|@qz;have p1:=hsp;refine zf ?_
  repeat ((first|refine qQ (id:=10) ft mixed ?_);refine vU ?_;refine zf ?_)
  clear fx p1;refine qF [(.s 2,root)] (.one rfl) qE ⟨⟨0,0,[],[]⟩,yO,wJ,qB,yO⟩
 have hb:(a==[105,110])=true:=by rw [ha];rfl
 cases hs:zq b with
 | none =>
  have hno:RH=none:=by rw [hrh];simp [hs]
  rw [li hs] at hq;have fx:=qk h3 hb<|@qz;have p1:=hsp;have c1:=hq;refine zf ?_
  repeat ((first|refine qQ (id:=10) ft mixed ?_);refine vU ?_;refine zf ?_)
  clear fx p1 c1;refine qF [(.s 2,root)] (.one rfl) qE ⟨⟨0,0,[],[]⟩,yO,wJ,qB,yO⟩
 | some q =>
  rw [tH hs] at hq;have hq0:¬ (q:Int)<0:=qA;by_cases hc:f=dB
  .have hcb:(f==[99,108,97,115,115])=true:=by rw [hc];rfl
   have hfb:(f==[102,117,110])=false:=by rw [hc];rfl
   by_cases hw:ws=[]
   .have hl3:((ws.length:Int)+1+1+1==3)=true:=by rw [hw];rfl
    have hyes:RH=some ⟨2,q,[],[]⟩:=by rw [hrh];simp [ha,hs,hc,hw]
    have fx:=jH h3 hb hq0 hcb hl3<|@qz;have p1:=hsp;have c1:=hq;refine zf ?_
    repeat ((first|refine qQ (id:=10) ft mixed ?_);refine vU ?_;refine zf ?_)
    clear fx p1 c1;refine qF [(.s 5,root)] (.one rfl) qE ⟨⟨2,q,[],[]⟩,rR,wJ,qB,rR⟩
   .have hl3:((ws.length:Int)+1+1+1==3)=false:=by have:=List.length_pos_iff.2 hw;simp;omega
    have hno:RH=none:=by rw [hrh];simp [ha,hs,hc,hw,(show ¬ dB=bK by decide)]
    cases hns:vA ws with
    | none =>
     rw [hns] at hrn;have fx:=jN h3 h3' htn hb hq0 hcb hl3<|@qz;have p1:=hsp;have c1:=hq;have e1:=hrn;refine zf ?_
     repeat ((first|refine qQ (id:=10) ft mixed ?_);refine vU ?_;refine zf ?_)
     clear fx p1 c1 e1;rintro K hK y H' ⟨rfl,hH'⟩;have hh:=aE hH' qB;refine⟨qB,?_⟩;refine xz ?_<|qk hh hfb<|@qz;refine qF [(.s 5,root)] (.one rfl) qE ⟨⟨1,q,[],[]⟩,yO,by simp [qj,hh],qB,yO⟩
    | some ns =>
     rw [hns] at hrn;have fx:=jN h3 h3' htn hb hq0 hcb hl3<|@qz;have p1:=hsp;have c1:=hq;have e1:=hrn;refine zf ?_
     repeat ((first|refine qQ (id:=10) ft mixed ?_);refine vU ?_;refine zf ?_)
     clear fx p1 c1 e1;rintro K hK y H' ⟨rfl,hH'⟩;have hh:=aE hH' qB;refine⟨qB,?_⟩;refine xz ?_<|qk hh hfb<|@qz;refine qF [(.s 5,root)] (.one rfl) qE ⟨⟨1,q,ns.map λ(n:Nat)=>(n:Int),[]⟩,yO,by simp [hh],qB,yO⟩
  .have hcb:(f==[99,108,97,115,115])=false:=by simpa [dB] using hc
   cases hns:vA ws with
   | none =>
    rw [hns] at hrn;have hno:RH=none:=by rw [hrh];simp [ha,hs,hc,hns]
    have fx:=jI h3 h3' htn hb hq0 hcb<|@qz;have p1:=hsp;have c1:=hq;have e1:=hrn;refine zf ?_
    repeat ((first|refine qQ (id:=10) ft mixed ?_);refine vU ?_;refine zf ?_)
    clear fx p1 c1 e1;rintro K hK y H' ⟨rfl,hH'⟩;have hh:=aE hH' qB;refine⟨qB,?_⟩;refine xz ?_<|aI hh<|@qz;refine qF [(.s 5,root)] (.one rfl) qE ⟨⟨1,q,[],[]⟩,yO,by simp [qj,hh],qB,yO⟩
   | some ns =>
    rw [hns] at hrn;by_cases hf:f=bK
    .have hfb:(f==[102,117,110])=true:=by rw [hf];rfl
     have hyes:RH=some ⟨1,q,ns.map λ(n:Nat)=>(n:Int),[]⟩:=by rw [hrh];simp [ha,hs,hc,hf,hns,(show ¬ bK=dB by decide)]
     have fx:=jI h3 h3' htn hb hq0 hcb<|@qz;have p1:=hsp;have c1:=hq;have e1:=hrn;refine zf ?_
     repeat ((first|refine qQ (id:=10) ft mixed ?_);refine vU ?_;refine zf ?_)
     clear fx p1 c1 e1;rintro K hK y H' ⟨rfl,hH'⟩;have hh:=aE hH' qB;refine⟨qB,?_⟩;refine xz ?_<|qk hh hfb<|@qz;refine qF [(.s 5,root)] (.one rfl) qE ⟨⟨1,q,ns.map λ(n:Nat)=>(n:Int),[]⟩,rR,by simp [hh],qB,rR⟩
    .have hfb:(f==[102,117,110])=false:=by simpa [bK] using hf
     have hno:RH=none:=by rw [hrh];simp [ha,hs,hc,hf]
     have fx:=jI h3 h3' htn hb hq0 hcb<|@qz;have p1:=hsp;have c1:=hq;have e1:=hrn;refine zf ?_
     repeat ((first|refine qQ (id:=10) ft mixed ?_);refine vU ?_;refine zf ?_)
     clear fx p1 c1 e1;rintro K hK y H' ⟨rfl,hH'⟩;have hh:=aE hH' qB;refine⟨qB,?_⟩;refine xz ?_<|qk hh hfb<|@qz;refine qF [(.s 5,root)] (.one rfl) qE ⟨⟨1,q,ns.map λ(n:Nat)=>(n:Int),[]⟩,yO,by simp [hh],qB,yO⟩
end Go.Proofs.YtjgpejikjhojcaaGreatDoor
end
section
namespace Go.Proofs.YtjgpejikjhojcaaGreatDoor
open Go Go.Hm Go.Proofs Tryz
attribute [local simp] wC
def AI (o:Option Nat):Int:=match o with|some n=>n|none=>0
theorem Ce (gl) (v:qU) (hv:v.length<=1048577):qM prog gl 89 [tx v] (λ_ y _=>y=.zX [iv (AI (zq v)),bv (zq v).isSome]):=by
 refine qM.q9 func89 [.tmp 2,.tmp 3] ntmps89 λC w g root=>?_;by_cases h1:v.length<1
 .have hno:=Mr (s:=v) (.inl h1);have h1':(v.length:Int)<1:=qA;refine qJ ?_<|aI h1<|h1';refine qF [] .nil qE xC
 by_cases h2:2<v.length
 .have hno:=Mr (s:=v) (.inr h2);have h1':¬ (v.length:Int)<1:=qA;have h2':(2:Int)<v.length:=qA;refine qJ ?_<|zD h1 h1' h2<|h2';refine qF [] .nil qE xC
 have h1':¬ (v.length:Int)<1:=qA;have h2':¬ (2:Int)<v.length:=qA;have h3:v.length=1\/v.length=2:=qA;obtain⟨c0,hc0⟩:∃ c,v[0]?=some c:=⟨_,gE qA⟩;obtain⟨_,hcE⟩:=gS hc0;by_cases hz:v.length=2/\c0=48
 .obtain⟨hl,rfl⟩:=hz;have hno:=ZZ hl hc0;refine qJ ?_<|jI h1 h1' h2 h2' hl hc0<|hcE;refine qF [] .nil qE xC
 have hzz:v.length=2->v[0]?≠some 48:=λe e2=>hz ⟨e,by rw [hc0] at e2;exact sI e2⟩;rcases h3 with hl|hl
 case' inl =>
  refine qJ ?_<|zN h1 h1' h2 h2'<|hl
 case' inr =>
  have hc48:¬ c0=48:=λe=>hz ⟨hl,e⟩;have hcn:¬ c0.toNat=48:=λe=>hc48 (UInt8.toNat_inj.1 e);have hcb:((c0.toNat:Int)==48)=false:=qu;refine qJ ?_<|vI h1 h1' h2 h2' hl hc0 hcE hcn<|hcb
 all_goals
  refine zQ (λn st=>∃ i:Nat,n=v.length - i/\i<=v.length/\st.tm 0=tx v/\st.tm 25=iv v.length/\st.tm 26=iv i/\st.tm 4=iv (yp (v.take i))/\∀ c∈v.take i,48<=c.toNat/\c.toNat<=57) v.length ?_ ?_
  .exact⟨0,qA,qA,qB,oh,qB,by simp [yp],qB⟩
  rintro n st - - ⟨i,rfl,hi,h0,h25,h26,h4,hd⟩;by_cases hil:i<v.length
  .obtain⟨c,hc⟩:=gX hil;obtain⟨_,hcE'⟩:=gS hc;have hdt:=Iw hc;have hdl:yp (v.take i)<=9:=Q0 (by rw [im];omega) hd;have hcl:=c.toNat_lt;generalize yp (v.take i)=m at h4 hdt hdl;by_cases hg:48<=c.toNat/\c.toNat<=57
   .obtain⟨g1,g2⟩:=hg;have g1':¬ c.toNat<48:=qA;have g2':¬ 57<c.toNat:=qA;have g1i:¬ (c.toNat:Int)<48:=qA;have g2i:¬ (57:Int)<(c.toNat:Int):=qA;obtain⟨k,hk⟩:∃ k:Nat,k=c.toNat - 48:=⟨_,rfl⟩;have hw1:IntKind.i64.wrap (10 * (m:Int))=10 * (m:Int):=qm qA qA;have hw2:IntKind.u8.wrap ((c.toNat:Int) - 48)=(k:Int):=IF;have hw3:IntKind.i64.wrap (k:Int)=(k:Int):=qm qA qA;have hw4:IntKind.i64.wrap (10 * (m:Int)+(k:Int))=10 * (m:Int)+(k:Int):=qm qA qA;refine qJ ?_<|qh h0 h25 h26 h4 hil hc hcE' g1' g2' g1i g2i hw1<|qk hw2 hw3<|hw4;refine⟨v.length - (i+1),qA,i+1,rfl,qA,vg,by simp [h25],jM,?_,?_⟩
    .simp [hdt,<- hk]
    .intro x hx;rw [uG,hc] at hx;simp at hx;rcases hx with hx|rfl
     .exact hd x hx
     .exact⟨g1,g2⟩
   .have hno:=Mq hc hg;by_cases g1:c.toNat<48
    .have g1i:(c.toNat:Int)<48:=qA;refine qJ ?_<|vI h0 h25 h26 h4 hil hc hcE' g1<|g1i;refine qF [] .nil qE xC
    .have g1i:¬ (c.toNat:Int)<48:=qA;have g2:57<c.toNat:=qA;have g2i:(57:Int)<(c.toNat:Int):=qA;refine qJ ?_<|jS h0 h25 h26 h4 hil hc hcE' g1 g1i g2<|g2i;refine qF [] .nil qE xC
  .obtain rfl:i=v.length:=qA;rw [kC] at h4 hd;have hyes:=ZW qA qA hzz hd;refine qJ ?_<|zN h0 h25 h26 h4<|hil;refine qF [] .nil BP (by simp [hyes,AI])
abbrev cq (ls ws:List qU):AO:=.row 2 [[jd ls,jd ws]]
theorem FO (gl) (H:Nm->Option AO) (ls ws:List qU) (hH:H (.u 1 0 0)=some (cq ls ws)) :
  qZ prog gl 105 (Nm.under (.u 1 0 0)) [.pt (.u 1 0 0) 0] H (λ_ y H'=>y=bv (!ws.isEmpty)/\H' (.u 1 0 0)=some (cq ls ws)) zG:=by
 refine qZ.q9 func105 [.tmp 2] ntmps105 (λ_=>vN rfl) λC w g root hroot=>?_;refine qJ ?_<| hH;refine qF [] .nil qE ⟨?_,vZ⟩
 cases ws <;> simp
theorem Gn (gl) (H:Nm->Option AO) (ls ws:List qU) (hH:H (.u 1 0 0)=some (cq ls ws)) :
  qZ prog gl 69 (Nm.under (.u 1 0 0)) [.pt (.u 1 0 0) 0] H (λ_ y H'=>∃ w ws',ws=w::ws'/\y=tx w/\H' (.u 1 0 0)=some (cq ls ws')) (cJ (ws=[])):=by
 refine qZ.q9 func69 [.tmp 2] ntmps69 (λ_=>vN rfl) λC w g root hroot=>?_
 cases ws with
 | nil =>
  refine qJ ?_<| hH;intro K hK;refine tS (hx:=rU) ?_;exact⟨[],.nil,⟨_,_,rfl,.inl rfl⟩,rfl⟩
 | cons u us =>
  have hne:((us.length:Int)+1==0)=false:=qu;have h1:(1:Int)<=(us.length:Int)+1:=qA;refine qJ ?_<|qk hH hne<|h1;refine qF [] .nil qE ⟨u,us,rfl,qB,qB⟩
theorem Iz (gl) (H:Nm->Option AO) (ls ws:List qU) (hH:H (.u 1 0 0)=some (cq ls ws)) :
  qZ prog gl 68 (Nm.under (.u 1 0 0)) [.pt (.u 1 0 0) 0] H (λ_ _ H'=>ws=[]/\H' (.u 1 0 0)=some (cq ls ws)) (cJ (ws≠[])):=by
 refine qZ.q9 func68 [] ntmps68 (λ_=>vN rfl) λC w g root hroot=>?_;refine qJ ?_<| hH;intro K hK;have fx:=hH;refine u0 (.u 1 0 0) rfl vZ (hF:=FO _ _ ls ws vZ) (h:=?_);rintro y H1 ⟨rfl,hH1⟩;clear fx
 cases ws with
 | nil =>
  refine qJ ?_<|aI hH<|hH1;refine yb [] .nil qE ⟨rfl,ix⟩
 | cons u us =>
  refine qJ ?_<|aI hH<|hH1;intro K hK;refine tS (hx:=rU) ?_;exact⟨[],.nil,⟨_,_,rfl,.inl rfl⟩,qB⟩
end Go.Proofs.YtjgpejikjhojcaaGreatDoor
end
section
namespace Go.Proofs.YtjgpejikjhojcaaGreatDoor
open Go Go.Hm Go.Proofs Tryz
attribute [local simp] wC
theorem uy (gl) (H:Nm->Option AO) (ls ws:List qU) (hws:∀ v∈ws,v.length<=1048577) (hH:H (.u 1 0 0)=some (cq ls ws)) :
  qZ prog gl 106 (Nm.under (.u 1 0 0)) [.pt (.u 1 0 0) 0] H (λ_ y H'=>∃ n ws',uh ws=some (n,ws')/\y=iv n/\H' (.u 1 0 0)=some (cq ls ws')) (cJ (uh ws=none)):=by
 refine qZ.q9 func106 [.tmp 2] ntmps106 (λ_=>vN rfl) λC w g root hroot=>?_;refine qJ ?_<| hH;intro K hK;have fx:=hH;refine uP (.u 1 0 0) rfl vZ (hF:=Gn _ _ ls ws vZ) (hE:=λx s hx hq=>⟨[],.nil,hx.tr,by rw [hq];rfl⟩) (h:=?_);rintro y H1 ⟨v,vs,rfl,rfl,hH1⟩;clear fx;have hvl:=hws v qB
 cases hs:zq v with
 | none =>
  have hq:=Ce gl v hvl;rw [hs] at hq;have fx:= hH1;have c1:=hq;refine qK ?_;clear fx c1;intro K hK;refine tS (hx:=rU) ?_;exact⟨[],.nil,⟨_,_,rfl,.inl rfl⟩,by simp [uh,hs]⟩
 | some n =>
  have hq:=Ce gl v hvl;rw [hs] at hq;have fx:= hH1;have c1:=hq;refine qK ?_;clear fx c1;refine qF [] .nil qE ⟨n,vs,by simp [uh,hs],by simp [AI],ix⟩
theorem Kr (gl) {m:Int} (hgm:gl 3=some [.sc (.int .i64 m)]) (H:Nm->Option AO) (ls:List qU) (x:AV) (hls:∀ v∈ls,v.length<=1048577) (hH:H (.u 1 0 0)=some (.row 2 [[jd ls,x]])) :
  qZ prog gl 67 (Nm.under (.u 1 0 0)) [.pt (.u 1 0 0) 0] H (λ_ y H'=>(ls=[]/\y=bv false)\/(∃ l ls',ls=l::ls'/\y=bv true/\H' (.u 1 0 0)=some (cq ls' (zM 32 l)))) zG:=by
 refine qZ.q9 func67 [.tmp 2] ntmps67 (λ_=>vN rfl) λC w g root hroot=>?_
 cases ls with
 | nil =>
  refine qJ ?_<| hH;refine qF [] .nil qE (.inl ⟨rfl,qB⟩)
 | cons u us =>
  have hul:=hls u qB;have hne:((us.length:Int)+1==0)=false:=qu;have h1:(1:Int)<=(us.length:Int)+1:=qA;have hsp:=G3 gl hgm u 32 qA;have fx:=qk hH hne<|h1;have p1:=hsp;refine zf ?_;clear fx p1;refine qF [] .nil qE (.inr ⟨u,us,rfl,qB,qB⟩)
theorem SU (gl) {m:Int} (hgm:gl 3=some [.sc (.int .i64 m)]) (s:qU) (hs:s.length<=1048576) :
  qZ prog gl 66 zn [tx s] yP (λr y H'=>(zM 10 s).getLast?=some []/\y=.pt r 0/\H' r=some (.row 2 [[jd (zM 10 s).dropLast,.hs (.c r 0 1) 1 0 0]])) (cJ ((zM 10 s).getLast?≠some [])):=by
 have hsp:=G3 gl hgm s 10 qA;have hne:=eb (c:=10) (l:=s);have hlen:=tK (c:=10) (s:=s);generalize zM 10 s=L at hsp hne hlen ⊢;obtain⟨I,z,rfl⟩:∃ I z,L=I++[z]:=⟨L.dropLast,L.getLast hne,(ip hne).symm⟩;have hl1:(I++[z]).length=I.length+1:=qB;have hz:(I++[z])[I.length]?=some z:=qB;have hw:IntKind.i64.wrap (I.length:Int)=I.length:=qm qA qA;have hn1:(I.length:Int)<=(I.length:Int)+1:=qA;have hn0:(0:Int)<=(I.length:Int):=qA;refine qZ.q9 func66 [.tmp 2] ntmps66 (λ_ h=>kR) λC w g root hroot=>?_;by_cases he:z=[]
 .have hb:(z==[])=true:=by simp [he]
  have fx:=jH hl1 hz hw hb hn1<|hn0;have p1:=hsp;refine zf ?_;clear fx p1;refine qF [(.s 2,root)] (.one rfl) qE ⟨by simp [he],qB,?_⟩;simp
 .have hb:(z==[])=false:=oc;have fx:=jH hl1 hz hw hb hn1<|hn0;have p1:=hsp;refine zf ?_;clear fx p1;intro K hK;refine tS (hx:=rU) ?_;exact⟨[],.nil,⟨_,_,rfl,.inl rfl⟩,by simp [he]⟩
end Go.Proofs.YtjgpejikjhojcaaGreatDoor
end
section
namespace Go.Proofs.YtjgpejikjhojcaaGreatDoor
open Go Go.Hm Go.Proofs Tryz
attribute [local simp] wC
theorem XT {ws ws':List qU} {n:Nat} (h:uh ws=some (n,ws')):∃ u,ws=u::ws':=by
 cases ws with
 | nil=>simp [uh] at h
 | cons u l =>
  simp only [uh] at h
  cases hs:zq u with
  | none=>rw [hs] at h;simp at h
  | some k=>rw [hs] at h;simp at h;exact⟨u,by rw [h.2]⟩
theorem co {ws ws':List qU} {n c:Nat} (h:uh ws=some (n,ws')) (hw:∀ v∈ws,v.length<=c):∀ v∈ws',v.length<=c:=by
 obtain⟨u,rfl⟩:=XT h;exact λv hv=>hw v sF
theorem Se {v:qU} {K:Nat} (h:wO v=some K):K<12:=by
 unfold wO at h;have:=(rH.1 h).1;exact this
theorem Xi (gl) (hgs:gl 1=some ((dF vH).map AV.sc)) (H:Nm->Option AO) (v:qU) (ls ws:List qU) (hws:∀ v∈ws,v.length<=1048577) (hH:H (.u 1 0 0)=some (cq ls ws)) :
  qZ prog gl 71 (Nm.under (.u 1 0 0)) [.pt (.u 1 0 0) 0,tx v] H (λ_ y H'=>∃ S ws',bE v ws=some (S,ws')/\y=S.av/\H' (.u 1 0 0)=some (cq ls ws')) (cJ (bE v ws=none)):=by
 refine qZ.q9 func71 [.cell 4 87] ntmps71 (λ_=>vN rfl) λC w g root hroot=>?_;have hq:=Sb gl hgs v
 cases hk:wO v with
 | none =>
  have hno:bE v ws=none:=by simp [bE,hk]
  have hwi:Ao none=-1:=rfl;rw [hk,hwi] at hq;have fx:= hH;have c1:=hq;refine qK ?_;clear fx c1;intro K hK;refine tS (hx:=rU) ?_;exact⟨[],.nil,⟨_,_,rfl,.inl rfl⟩,hno⟩
 | some c =>
  have hlt:=Se hk;have hwi:Ao (some c)=(c:Int):=rfl;rw [hk,hwi] at hq;have hcs:c=0\/c=1\/c=2\/c=3\/c=4\/c=5\/c=6\/c=7\/c=8\/c=9\/c=10\/c=11:=qA;clear hlt;rcases hcs with rfl|rfl|rfl|rfl|rfl|rfl|rfl|rfl|rfl|rfl|rfl|rfl
  .skip
   have fx:= hH;have c1:=hq;refine qK ?_;clear fx c1;intro K hK;have fx:=hH;refine uP (.u 1 0 0) rfl vZ (hF:=uy _ _ ls ws hws vZ) (hE:=λx s hx hq=>⟨[],.nil,hx.tr,eD⟩) (h:=?_);rintro y H1 ⟨n1,ws1,hn1,rfl,hH1⟩;clear fx;have fx:=aI hH<|hH1;have c1:=hq;refine qK ?_;clear fx c1;intro K hK;have fx:=aI hH<|hH1;refine uP (.u 1 0 0) rfl aq (hF:=uy _ _ ls ws1 (co hn1 hws) aq) (hE:=λx s hx hq=>⟨[],.nil,hx.tr,oa⟩) (h:=?_);rintro y H2 ⟨n2,ws2,hn2,rfl,hH2⟩;clear fx;refine qJ ?_<|qk hH hH1<|hH2;refine qF [] .nil qE ⟨⟨0,n1,n2,0⟩,ws2,xO,qB,lE⟩
  .skip
   have fx:= hH;have c1:=hq;refine qK ?_;clear fx c1;intro K hK;have fx:=hH;refine uP (.u 1 0 0) rfl vZ (hF:=uy _ _ ls ws hws vZ) (hE:=λx s hx hq=>⟨[],.nil,hx.tr,eD⟩) (h:=?_);rintro y H1 ⟨n1,ws1,hn1,rfl,hH1⟩;clear fx;have fx:=aI hH<|hH1;have c1:=hq;refine qK ?_;clear fx c1;intro K hK;have fx:=aI hH<|hH1;refine uP (.u 1 0 0) rfl aq (hF:=uy _ _ ls ws1 (co hn1 hws) aq) (hE:=λx s hx hq=>⟨[],.nil,hx.tr,oa⟩) (h:=?_);rintro y H2 ⟨n2,ws2,hn2,rfl,hH2⟩;clear fx;refine qJ ?_<|qk hH hH1<|hH2;refine qF [] .nil qE ⟨⟨1,n1,n2,0⟩,ws2,xO,qB,lE⟩
  .skip
   have fx:= hH;have c1:=hq;refine qK ?_;clear fx c1;intro K hK;have fx:=hH;refine uP (.u 1 0 0) rfl vZ (hF:=uy _ _ ls ws hws vZ) (hE:=λx s hx hq=>⟨[],.nil,hx.tr,eD⟩) (h:=?_);rintro y H1 ⟨n1,ws1,hn1,rfl,hH1⟩;clear fx;have fx:=aI hH<|hH1;have c1:=hq;refine qK ?_;clear fx c1;intro K hK;have fx:=aI hH<|hH1;refine uP (.u 1 0 0) rfl aq (hF:=uy _ _ ls ws1 (co hn1 hws) aq) (hE:=λx s hx hq=>⟨[],.nil,hx.tr,oa⟩) (h:=?_);rintro y H2 ⟨n2,ws2,hn2,rfl,hH2⟩;clear fx;have fx:=qk hH hH1<|hH2;have c1:=hq;refine qK ?_;clear fx c1;intro K hK;have fx:=qk hH hH1<|hH2;refine uP (.u 1 0 0) rfl mR (hF:=uy _ _ ls ws2 (co hn2 (co hn1 hws)) mR) (hE:=λx s hx hq=>⟨[],.nil,hx.tr,EB⟩) (h:=?_);rintro y H3 ⟨n3,ws3,hn3,rfl,hH3⟩;clear fx;refine qJ ?_<|zD hH hH1 hH2<|hH3;refine qF [] .nil qE ⟨⟨2,n1,n2,n3⟩,ws3,Da,qB,ou⟩
  .skip
   have fx:= hH;have c1:=hq;refine qK ?_;clear fx c1;intro K hK;have fx:=hH;refine uP (.u 1 0 0) rfl vZ (hF:=uy _ _ ls ws hws vZ) (hE:=λx s hx hq=>⟨[],.nil,hx.tr,eD⟩) (h:=?_);rintro y H1 ⟨n1,ws1,hn1,rfl,hH1⟩;clear fx;have fx:=aI hH<|hH1;have c1:=hq;refine qK ?_;clear fx c1;intro K hK;have fx:=aI hH<|hH1;refine uP (.u 1 0 0) rfl aq (hF:=uy _ _ ls ws1 (co hn1 hws) aq) (hE:=λx s hx hq=>⟨[],.nil,hx.tr,oa⟩) (h:=?_);rintro y H2 ⟨n2,ws2,hn2,rfl,hH2⟩;clear fx;refine qJ ?_<|qk hH hH1<|hH2;refine qF [] .nil qE ⟨⟨3,n1,n2,0⟩,ws2,xO,qB,lE⟩
  .skip
   have fx:= hH;have c1:=hq;refine qK ?_;clear fx c1;intro K hK;have fx:=hH;refine uP (.u 1 0 0) rfl vZ (hF:=uy _ _ ls ws hws vZ) (hE:=λx s hx hq=>⟨[],.nil,hx.tr,eD⟩) (h:=?_);rintro y H1 ⟨n1,ws1,hn1,rfl,hH1⟩;clear fx;have fx:=aI hH<|hH1;have c1:=hq;refine qK ?_;clear fx c1;intro K hK;have fx:=aI hH<|hH1;refine uP (.u 1 0 0) rfl aq (hF:=uy _ _ ls ws1 (co hn1 hws) aq) (hE:=λx s hx hq=>⟨[],.nil,hx.tr,oa⟩) (h:=?_);rintro y H2 ⟨n2,ws2,hn2,rfl,hH2⟩;clear fx;refine qJ ?_<|qk hH hH1<|hH2;refine qF [] .nil qE ⟨⟨4,n1,n2,0⟩,ws2,xO,qB,lE⟩
  .skip
   have fx:= hH;have c1:=hq;refine qK ?_;clear fx c1;intro K hK;have fx:=hH;refine uP (.u 1 0 0) rfl vZ (hF:=uy _ _ ls ws hws vZ) (hE:=λx s hx hq=>⟨[],.nil,hx.tr,eD⟩) (h:=?_);rintro y H1 ⟨n1,ws1,hn1,rfl,hH1⟩;clear fx;have fx:=aI hH<|hH1;have c1:=hq;refine qK ?_;clear fx c1;intro K hK;have fx:=aI hH<|hH1;refine uP (.u 1 0 0) rfl aq (hF:=uy _ _ ls ws1 (co hn1 hws) aq) (hE:=λx s hx hq=>⟨[],.nil,hx.tr,oa⟩) (h:=?_);rintro y H2 ⟨n2,ws2,hn2,rfl,hH2⟩;clear fx;refine qJ ?_<|qk hH hH1<|hH2;intro K hK;have fx:=qk hH hH1<|hH2;refine u0 (.u 1 0 0) rfl mR (hF:=FO _ _ ls ws2 mR) (h:=?_);rintro y H3 ⟨rfl,hH3⟩;clear fx
   cases ws2 with
   | nil =>
    refine qJ ?_<|zD hH hH1 hH2<|hH3;refine qF [] .nil qE ⟨⟨5,n1,n2,-1⟩,[],xO,qB,ou⟩
   | cons u us =>
    refine qJ ?_<|zD hH hH1 hH2<|hH3;intro K hK;have fx:=zD hH hH1 hH2<|hH3;refine uP (.u 1 0 0) rfl BL (hF:=uy _ _ ls (u::us) (co hn2 (co hn1 hws)) BL) (hE:=λx s hx hq=>⟨[],.nil,hx.tr,EB⟩) (h:=?_);rintro y H4 ⟨n3,ws3,hn3,rfl,hH4⟩;clear fx;refine qJ ?_<|zN hH hH1 hH2 hH3<|hH4;refine qF [] .nil qE ⟨⟨5,n1,n2,n3⟩,ws3,Da,qB,by simp [hH4]⟩
  .skip
   have fx:= hH;have c1:=hq;refine qK ?_;clear fx c1;intro K hK;have fx:=hH;refine uP (.u 1 0 0) rfl vZ (hF:=uy _ _ ls ws hws vZ) (hE:=λx s hx hq=>⟨[],.nil,hx.tr,eD⟩) (h:=?_);rintro y H1 ⟨n1,ws1,hn1,rfl,hH1⟩;clear fx;have fx:=aI hH<|hH1;have c1:=hq;refine qK ?_;clear fx c1;intro K hK;have fx:=aI hH<|hH1;refine uP (.u 1 0 0) rfl aq (hF:=uy _ _ ls ws1 (co hn1 hws) aq) (hE:=λx s hx hq=>⟨[],.nil,hx.tr,oa⟩) (h:=?_);rintro y H2 ⟨n2,ws2,hn2,rfl,hH2⟩;clear fx;have fx:=qk hH hH1<|hH2;have c1:=hq;refine qK ?_;clear fx c1;intro K hK;have fx:=qk hH hH1<|hH2;refine uP (.u 1 0 0) rfl mR (hF:=uy _ _ ls ws2 (co hn2 (co hn1 hws)) mR) (hE:=λx s hx hq=>⟨[],.nil,hx.tr,EB⟩) (h:=?_);rintro y H3 ⟨n3,ws3,hn3,rfl,hH3⟩;clear fx;refine qJ ?_<|zD hH hH1 hH2<|hH3;refine qF [] .nil qE ⟨⟨6,n1,n2,n3⟩,ws3,Da,qB,ou⟩
  .skip
   have fx:= hH;have c1:=hq;refine qK ?_;clear fx c1;intro K hK;have fx:=hH;refine uP (.u 1 0 0) rfl vZ (hF:=uy _ _ ls ws hws vZ) (hE:=λx s hx hq=>⟨[],.nil,hx.tr,eD⟩) (h:=?_);rintro y H1 ⟨n1,ws1,hn1,rfl,hH1⟩;clear fx;refine qJ ?_<|aI hH<|hH1;refine qF [] .nil qE ⟨⟨7,0,n1,0⟩,ws1,xS,qB,ix⟩
  .skip
   have fx:= hH;have c1:=hq;refine qK ?_;clear fx c1;intro K hK;have fx:=hH;refine uP (.u 1 0 0) rfl vZ (hF:=uy _ _ ls ws hws vZ) (hE:=λx s hx hq=>⟨[],.nil,hx.tr,eD⟩) (h:=?_);rintro y H1 ⟨n1,ws1,hn1,rfl,hH1⟩;clear fx;refine qJ ?_<|aI hH<|hH1;refine qF [] .nil qE ⟨⟨8,0,n1,0⟩,ws1,xS,qB,ix⟩
  .skip
   have fx:= hH;have c1:=hq;refine qK ?_;clear fx c1;intro K hK;have fx:=hH;refine uP (.u 1 0 0) rfl vZ (hF:=uy _ _ ls ws hws vZ) (hE:=λx s hx hq=>⟨[],.nil,hx.tr,eD⟩) (h:=?_);rintro y H1 ⟨n1,ws1,hn1,rfl,hH1⟩;clear fx;refine qJ ?_<|aI hH<|hH1;refine qF [] .nil qE ⟨⟨9,n1,0,0⟩,ws1,xS,qB,ix⟩
  .skip
   have fx:= hH;have c1:=hq;refine qK ?_;clear fx c1;intro K hK;have fx:=hH;refine uP (.u 1 0 0) rfl vZ (hF:=uy _ _ ls ws hws vZ) (hE:=λx s hx hq=>⟨[],.nil,hx.tr,eD⟩) (h:=?_);rintro y H1 ⟨n1,ws1,hn1,rfl,hH1⟩;clear fx;refine qJ ?_<|aI hH<|hH1;refine qF [] .nil qE ⟨⟨10,n1,0,0⟩,ws1,xS,qB,ix⟩
  .skip
   have fx:= hH;have c1:=hq;refine qK ?_;clear fx c1;intro K hK;have fx:=hH;refine uP (.u 1 0 0) rfl vZ (hF:=uy _ _ ls ws hws vZ) (hE:=λx s hx hq=>⟨[],.nil,hx.tr,eD⟩) (h:=?_);rintro y H1 ⟨n1,ws1,hn1,rfl,hH1⟩;clear fx;refine qJ ?_<|aI hH<|hH1;refine qF [] .nil qE ⟨⟨11,n1,0,0⟩,ws1,xS,qB,ix⟩
end Go.Proofs.YtjgpejikjhojcaaGreatDoor
end
section
namespace Go.Proofs.YtjgpejikjhojcaaGreatDoor
open Go Go.Hm Go.Proofs Tryz
attribute [local simp] wC
theorem Rv {k:qX} {ws ws':List qU} (h:bp ws=some (k,ws')):k.params.length<=1/\k.body=[]:=by
 unfold bp at h
 split at h
 .rename_i q f l _
  split at h
  .split at h
   .simp at h;obtain⟨rfl,_⟩:=h;exact⟨qB,rfl⟩
   .rename_i x l' _
    cases hx:zq x with
    | none=>rw [hx] at h;simp at h
    | some n=>rw [hx] at h;simp at h;obtain⟨rfl,_⟩:=h;exact⟨qB,rfl⟩
  .split at h
   .simp at h;obtain⟨rfl,_⟩:=h;exact⟨qB,rfl⟩
   .cases h
 .cases h
theorem X8 (gl) (H:Nm->Option AO) (ls ws:List qU) (hws:∀ v∈ws,v.length<=1048577) (hH:H (.u 1 0 0)=some (cq ls ws)) :
  qZ prog gl 70 (Nm.under (.u 1 0 0)) [.pt (.u 1 0 0) 0] H (λr y H'=>∃ k ws',bp ws=some (k,ws')/\y=.agg [iv k.kind,iv k.parent,.hs (.c r 0 2) 1 0 k.params.length,.hs (.c r 0 3) 4 0 0]/\H' (.c r 0 2)=some (.row 1 (qj k.params))/\H' (.c r 0 3)=some (.row 4 [])/\H' (.u 1 0 0)=some (cq ls ws')) (cJ (bp ws=none)):=by
 refine qZ.q9 func70 [.cell 2 82] ntmps70 (λ_=>vN rfl) λC w g root hroot=>?_;have hr0:=hroot root (Nm.kj _);refine qJ ?_<| hH;intro K hK;have fx:=hH;refine uP (.u 1 0 0) rfl vZ (hF:=uy _ _ ls ws hws vZ) (hE:=λx s hx hq=>⟨[],.nil,hx.tr,by simp [bp,hq]⟩) (h:=?_);rintro y H1 ⟨q,ws1,hn,rfl,hH1⟩;clear fx;refine qJ ?_<|aI hH<|hH1;intro K hK;have fx:=aI hH hH1;refine uP (.u 1 0 0) rfl aq (hF:=Gn _ _ ls ws1 aq) (hE:=λx s hx hq=>⟨[],.nil,hx.tr,by simp [bp,hn,hq]⟩) (h:=?_);rintro y H2 ⟨v,ws2,rfl,rfl,hH2⟩;clear fx;have hw1:=co hn hws;have hw2:∀ u∈ws2,u.length<=1048577:=λu hu=>hw1 u xB;by_cases hf:v=bK
 .have e1:(v==[102,117,110])=true:=by rw [hf];rfl
  refine qJ ?_<|zD hH hH1 hH2<|e1;intro K hK;have fx:=aI hH<|aI hH1 hH2;refine u0 (.u 1 0 0) rfl mR (hF:=FO _ _ ls ws2 mR) (h:=?_);rintro y H3 ⟨rfl,hH3⟩;clear fx
  cases ws2 with
  | nil =>
   refine qJ ?_<|zD hH hH1 hH2<|hH3;refine qF [(.s 3,root)] (.one rfl) qE ⟨⟨1,q,[],[]⟩,[],by simp [bp,hn,hf],?_,?_,?_,?_⟩
   .simp
   .simp [hr0,qj]
   .simp [hr0]
   .simp [hH3]
  | cons u us =>
   refine qJ ?_<|zD hH hH1 hH2<|hH3;intro K hK;have fx:=qk hH hH1<|aI hH2 hH3;refine uP (.u 1 0 0) rfl BL (hF:=uy _ _ ls (u::us) hw2 BL) (hE:=λx s hx hq=>⟨[],.nil,hx.tr,?_⟩) (h:=?_)
   .cases hu:zq u with
    | none=>simp [bp,hn,hf,hu]
    | some n=>simp [uh,hu] at hq
   rintro y H4 ⟨n,ws4,hn4,rfl,hH4⟩;clear fx
   have hu:zq u=some n/\us=ws4:=by
    cases hu:zq u with
    | none=>simp [uh,hu] at hn4
    | some k=>simp [uh,hu] at hn4;exact⟨by rw [hn4.1],hn4.2⟩
   obtain⟨hu,rfl⟩:=hu;refine qJ ?_<|zN hH hH1 hH2 hH3<|hH4;refine qF [(.s 3,root)] (.one rfl) qE ⟨⟨1,q,[(n:Int)],[]⟩,us,by simp [bp,hn,hf,hu],qB,by simp [hr0,qj],by simp [hr0],by simp [hH4]⟩
 have e1:(v==[102,117,110])=false:=by simpa [bK] using hf
 by_cases hc:v=dB
 .have e2:(v==[99,108,97,115,115])=true:=by rw [hc];rfl
  refine qJ ?_<|zN hH hH1 hH2 e1<|e2;refine qF [(.s 3,root)] (.one rfl) qE ⟨⟨2,q,[],[]⟩,ws2,by simp [bp,hn,hc,(show ¬ dB=bK by decide)],qB,by simp [hr0,qj],by simp [hr0],lE⟩
 have e2:(v==[99,108,97,115,115])=false:=by simpa [dB] using hc
 refine qJ ?_<|zN hH hH1 hH2 e1<|e2;intro K hK;refine tS (hx:=rU) ?_;exact⟨[],.nil,⟨_,_,rfl,.inl rfl⟩,by simp [bp,hn,hf,hc]⟩
end Go.Proofs.YtjgpejikjhojcaaGreatDoor
end
section
namespace Go.Proofs.YtjgpejikjhojcaaGreatDoor
open Go Go.Hm Go.Proofs Tryz
abbrev Vv:qV:=a7<|.l 7 [4,3,2,1,0]<|.l 8 [4,3,2,1,0]<|.l 9 [0]<|.q 10<|.q 11<|.l 12 []<|.done
attribute [local simp] wC
theorem L0 {a b:List qU} {p q:qC} (h:ka a p=some q):ka (a++b) p=ka b q:=by
 induction a generalizing p with
 | nil=>simp [ka] at h;subst h;rfl
 | cons l a ih =>
  rw [fK];simp only [ka] at h ⊢
  cases hl:aG p l with
  | none=>rw [hl] at h;cases h
  | some r=>rw [hl] at h;exact ih h
theorem AP {a b:List qU} {l:qU} {p q:qC} (h:ka a p=some q) (hl:aG q l=none):ka (a++l::b) p=none:=by
 rw [L0 h];simp [ka,hl]
theorem L2 {a:List qU} {l:qU} {p q r:qC} (h:ka a p=some q) (hl:aG q l=some r):ka (a++[l]) p=some r:=by
 rw [L0 h];simp [ka,hl]
abbrev Yk:qV:=a7<|.l 7 [4,3,2,1,0]<|.l 8 [4,3,2,1,0]<|.l 9 [3,2,1,0]<|.q 10<|.q 11<|.l 12 [10]<|.done
structure dL (p:qC) (n:Nat):Prop where
 pos:1<=p.length
 len:p.length<=n+1
 each:∀ k∈p,k.body.length<=n/\k.params.length<=1
theorem Rk:dL uN 0:=⟨mZ,mZ,mZ⟩
theorem dL.head {p:qC} {n:Nat} {k:qX} (h:dL p n) (hk:k.body.length<=n+1/\k.params.length<=1):dL (p++[k]) (n+1) :=
 ⟨qB,by simp;exact h.len,λx hx=>by
   rw [y9,vD] at hx;rcases hx with hx|rfl
   .have:=h.each x hx;omega
   .exact hk⟩
theorem Le {p:qC} {k:qX} {S:q8} (hp:1<=p.length) (hk:p[p.length - 1]?=some k):iK p S=bG p (p.length - 1) (k.body++[S]):=by
 unfold iK bG;apply y6;intro i;simp only [fE];by_cases e:p.length - 1=i
 .subst e;simp [hk]
 .simp [e]
theorem dL.put {p:qC} {n:Nat} {k:qX} {S:q8} (h:dL p n) (hk:p[p.length - 1]?=some k):dL (bG p (p.length - 1) (k.body++[S])) (n+1):=by
 have hkb:=h.each k (gM hk);refine⟨by simp;exact h.pos,by simp;have:=h.len;omega,λx hx=>?_⟩;obtain⟨r,hr,e1,e2⟩:=Mc hx;have:=h.each r hr;rw [e1];rcases e2 with e|e <;> rw [e]
 .omega
 .simp;omega
theorem Mz {c:UInt8} {s:qU}:((zM c s).map List.length).sum+(zM c s).length=s.length+1:=by
 induction s with
 | nil=>simp [zM]
 | cons x l ih =>
  rw [zM]
  split
  .simp;omega
  .split
   .rename_i w ws e;rw [e] at ih;simp at ih ⊢;omega
   .rename_i e;exact absurd e (eb)
theorem Qk {s:qU} {p:qC} (hs:s.length<=1048576) (h:ka (zM 10 s).dropLast uN=some p):(zM 10 s).dropLast.length<=1048575:=by
 have hsum:=Mz (c:=10) (s:=s);have hne:=eb (c:=10) (l:=s);generalize zM 10 s=L at h hsum hne ⊢;obtain⟨I,z,rfl⟩:∃ I z,L=I++[z]:=⟨L.dropLast,L.getLast hne,(ip hne).symm⟩;rw [Av] at h ⊢
 cases I with
 | nil=>simp
 | cons l r =>
  have hl:l≠[]:=by
   rintro rfl;have hno:aG uN []=none:=rfl;simp [ka,hno] at h
  have h1:=List.length_pos_iff.2 hl;simp at hsum ⊢;omega
def lf (s:qU):Option qC:=if (zM 10 s).getLast?=some [] then ka (zM 10 s).dropLast uN else none
theorem fm {A G G2:Prop} (k:G2) (x:A) (h:A->jL G2->G:=by
 intro fx kk;refine qK ?_
 repeat ((first|refine qQ (id:=9) Vv mixed ?_);refine zK ?_;refine qK ?_)
 exact kk.h):G:=h x ⟨k⟩
theorem Xe (gl) {m:Int} (hgm:gl 3=some [.sc (.int .i64 m)]) (hgs':gl 1=some ((dF vH).map AV.sc)) (s:qU) (hs:s.length<=1048576) :
  qZ prog gl 36 zn [tx s] yP (λr y H'=>∃ p,lf s=some p/\y=.agg [.hs r 4 0 p.length]/\ew H' r p/\dL p 1048575) (cJ (lf s=none)):=by
 have hlen:=tK (c:=10) (s:=s);have hpart:=pb (c:=10) (s:=s);have hsp:=SU gl hgm s hs;have hgood:(zM 10 s).getLast?=some []->lf s=ka (zM 10 s).dropLast uN:=λe=>by unfold lf;rw [if_pos e]
 have hbad:(zM 10 s).getLast?≠some []->lf s=none:=λe=>by unfold lf;rw [if_neg e]
 have hfew:∀ p,ka (zM 10 s).dropLast uN=some p->(zM 10 s).dropLast.length<=1048575:=λp h=>Qk hs h;generalize lf s=RC at hgood hbad ⊢;generalize zM 10 s=L at hlen hpart hsp hgood hbad hfew;refine qZ.q9 func36 [.cell 2 34] ntmps36 (λ_ h=>kR) λC w g root hroot=>?_;refine fm ?_<|qd;intro K hK;refine qBb (ha:=B8) (hF:=hsp) (hE:=λx s hx hq=>⟨[],.nil,hx.tr,hbad hq⟩) (h:=?_);rintro y H1 ⟨hlast,rfl,hH1⟩;have hRC:=hgood hlast;have hdl:∀ v∈L.dropLast,v.length<=1048577:=λv hv=>by have:=hpart v (List.dropLast_subset _ hv);omega
 have hdn:L.dropLast.length<=1048577:=by rw [List.length_dropLast];omega
 generalize L.dropLast=I at hH1 hdl hdn hRC hfew;clear hlast hpart hlen hsp hgood hbad;refine fm ?_<|qd;refine zQ (λn st=>∃ (dn ls:List qU) (p:qC) (x:AV),n=ls.length/\I=dn++ls/\ka dn uN=some p/\dL p dn.length/\st.tm 4=.pt (.s 4) 0/\st.hp (.s 4)=some (.row 2 [[jd ls,x]])/\st.tm 2=.pt (.s 2) 0/\st.hp (.s 2)=some (.row 1 [[.hs (.c (.s 2) 0 0) 4 0 0]])/\st.hp (.c (.s 2) 0 0)=some (.row 4 [])/\st.tm 3=.hs (.s 3) 4 0 p.length/\ew st.hp (.s 3) p/\(x=.hs (.c (.s 4) 0 1) 1 0 0\/∃ ws,x=jd ws)) I.length ?_ ?_
 .refine⟨[],I,uN,.hs (.c (.s 4) 0 1) 1 0 0,rfl,rfl,rfl,Rk,qB,ix,qB,qB,qB,mZ,⟨by simp [uN,vX],λj r hj=>?_,λj r hj=>?_⟩,.inl rfl⟩
  all_goals
   match j,hj with
   | 0,hj=>simp [uN] at hj;subst hj;simp
   | j+1,hj=>simp [uN] at hj
 clear hH1;rintro n st - hgs ⟨dn,ls,p,x,rfl,rfl,hpp,hG,h4,hp4,h2,hp2,hp2',h3,⟨ho1,ho2,ho3⟩,hx⟩;replace hgs:st.gl=gl:=hgs;rw [ua] at hdn;have hlsb:∀ v∈ls,v.length<=1048577:=λv hv=>hdl v sF;obtain⟨hG1,hG2,hG3⟩:=hG;rcases hx with rfl|⟨ws0,rfl⟩
 case' inl =>
  refine fm ?_<|zN h4 hp4 h3 h2<|hp2;intro K hK;have fx:=aI h4 h4;refine DA (.s 4) (.u 1 0 0) (hext:=rfl) (hs:=wu) (hF:=Kr _ hgm _ ls (.hs (.c (.u 1 0 0) 0 1) 1 0 0) hlsb wu) (h:=?_)
 case' inr =>
  refine fm ?_<|zN h4 hp4 h3 h2<|hp2;intro K hK;have fx:=aI h4 h4;refine DA (.s 4) (.u 1 0 0) (hext:=rfl) (hs:=wu) (hF:=Kr _ hgm _ ls (jd ws0) hlsb wu) (h:=?_)
 all_goals
  rintro y H1 hy;clear fx;rcases hy with⟨rfl,rfl⟩|⟨l,ls',rfl,rfl,hH1⟩
  .have hfw:=hfew p (by rw [ir];exact hpp);rw [ir] at hfw;refine fm ?_<|jH h4 h3 h2 hp2 hp2'<|ho1;refine qF [(.c (.s 2) 0 0,root)] (.one rfl) ge ⟨p,by rw [hRC,ir];exact hpp,qB,⟨?_,λj r hj=>?_,λj r hj=>?_⟩,⟨hG1,qA,λk hk=>by have:=hG3 k hk;omega⟩⟩
   .simp [ho1,iG (n:=.c (.s 2) 0 0) (m:=root) (f:=zL zn [(.c (.s 2) 0 0,root)]) (p:=p) qB]
   .simp [ho2 j r hj]
   .simp [ho3 j r hj]
  have hlb:=hlsb l qB;have hwb:∀ v∈zM 32 l,v.length<=1048577:=λv hv=>by have:=pb v hv;omega
  refine fm ?_<|qk h4 h3<|hH1;intro K hK;refine kJ (λst=>st.gl=gl/\st.tm 15=.pt (.s 4) 0/\st.tm 4=.pt (.s 4) 0/\st.hp (.s 4)=some (cq ls' (zM 32 l))/\st.tm 2=.pt (.s 2) 0/\st.hp (.s 2)=some (.row 1 [[.hs (.c (.s 2) 0 0) 4 0 0]])/\st.hp (.c (.s 2) 0 0)=some (.row 4 [])/\st.tm 3=.hs (.s 3) 4 0 p.length/\ew st.hp (.s 3) p) ⟨by simp [hgs],wv,wv,ix,ya,yw,xX,uT,⟨by simp [ho1],λj r hj=>by simp [ho2 j r hj],λj r hj=>by simp [ho3 j r hj]⟩⟩ ?_;clear h4 h3 h2 hp2 hp2' ho1 ho2 ho3 hp4 hH1 hgs;rintro st ⟨hgs,h15,h4,hp4,h2,hp2,hp2',h3,⟨ho1,ho2,ho3⟩⟩;have fx:=aI h15 h15;refine Ap (.s 4) (.u 1 0 0) (hext:=rfl) (hs:=wu) (hF:=Gn _ _ ls' (zM 32 l) wu) (hE:=λx s hx hq=>⟨[],.nil,hx.tr,by rw [hRC];exact AP hpp (by simp [aG,hq])⟩) (h:=?_);rintro y H2 ⟨v,ws,hvs,rfl,hH2⟩;clear fx;have hww:∀ x∈ws,x.length<=1048577:=λx hx=>hwb x (by rw [hvs];simp [hx]);by_cases hin:v=bu
  .have e1:(v==[105,110])=true:=by rw [hin];rfl
   refine fm ?_<|vI h4 h3 h2 hp2 hp2' ho1 hH2 hgs<|e1;intro K hK;have fx:=aI h4 h4;refine Ap (.s 4) (.u 1 0 0) (hext:=rfl) (hs:=lE) (hF:=X8 _ _ ls' ws hww lE) (hE:=λx s hx hq=>⟨[],.nil,hx.tr,by rw [hRC];exact AP hpp (by simp [aG,hvs,hin,hq])⟩) (h:=?_);rintro y H3 ⟨k,ws',hh,rfl,hk2,hk3,hH3⟩;clear fx;obtain⟨hkp,hkb⟩:=Rv hh;have hkb0:k.body.length=0:=by rw [hkb];rfl
   refine fm ?_<|vI h4 h3 h2 hp2 hp2' ho1 hH3 hk2<|hk3;intro K hK;have fx:=aI h4 h4;refine Ap (.s 4) (.u 1 0 0) (hext:=rfl) (hs:=ou) (hF:=Iz _ _ ls' ws' ou) (hE:=λx s hx hq=>⟨[],.nil,hx.tr,by rw [hRC];exact AP hpp (by simp [aG,hvs,hin,hh];cases ws' <;> simp at hq ⊢)⟩) (h:=?_);rintro y H4 ⟨rfl,hH4⟩;clear fx;refine fm ?_<|y8 h4 h3 h2 hp2 hp2' ho1 hH3 hk2 hk3<|hH4;have hli:aG p l=some (p++[k]):=by simp [aG,hvs,hin,hh]
   refine⟨ls'.length,qB,dn++[l],ls',p++[k],jd [],rfl,qB,L2 hpp hli,?_,wv,by simp [hH4],ya,yw,xX,qB,⟨?_,λd r hd=>?_,λd r hd=>?_⟩,.inr ⟨[],rfl⟩⟩
   .have:=dL.head ⟨hG1,hG2,hG3⟩ (k:=k) ⟨qA,hkp⟩
    simpa using this
   .rw [LX];simp [hkb0]
    try exact yG qB
   all_goals
    rw [oS] at hd
    split at hd
    .rename_i hdl;obtain⟨r0,hr0'⟩:∃ r0,p[d]?=some r0:=⟨_,gE hdl⟩;rw [hr0'] at hd;obtain rfl:=sI hd;have hdn:¬ p.length=d:=qA;have hdn':¬ d=p.length:=qA;simp [ho2 d _ hr0',ho3 d _ hr0',hdn,hdn']
    .rename_i hdl
     have hde:d=p.length:=by
      have h1:=(gS hd).1;simp at h1;omega
     subst hde;rw [Nat.sub_self] at hd;simp at hd;subst hd;simp [hk2,hk3,hkb]
  .have e1:(v==[105,110])=false:=by simpa [bu] using hin
   obtain⟨k,hk⟩:∃ k,p[p.length - 1]?=some k:=⟨_,gE qA⟩;obtain⟨jw,hkE⟩:=gS hk;have hwl:IntKind.i64.wrap ((p.length:Int) - 1)=((p.length - 1:Nat):Int):=tv;have hok:=ho3 _ _ hk;have hkb:=hG3 k (gM hk);have fx:=qh h4 h3 h2 hp2 hp2' ho1 hH2 hgs e1 hwl hk hkE<|aI jw<|hok;refine qK ?_;refine qBQ (λx=>gL x/\aG p l=none) (λx s hx=>⟨[],.nil,hx.1.tr,by rw [hRC];exact AP hpp hx.2⟩) Yk mixed qc qc ?_;intro K hK;refine oQ (h:=?_);refine oQ (h:=?_);refine oQ (h:=?_);refine oQ (h:=?_);refine oQ (h:=?_);refine oQ (h:=?_);refine oQ (h:=?_);refine Oe (h:=?_);refine Ap (.s 4) (.u 1 0 0) (hext:=rfl) (hs:=lE) (hF:=Xi _ (by simp [hgs];exact hgs') _ v ls' ws hww lE) (hE:=λx s hx hq=>⟨hx,by simp [aG,hvs,hin,hq]⟩) (h:=?_);rintro y H3 ⟨⟨sk,so,sa,sb⟩,ws',hst,rfl,hH3⟩;clear fx;refine aI ?_ (Ox ?_)
   .have fx:=jN h4 h3 ho1 hH3 hk hkE jw<|hok
    repeat' (first|exact iQ|refine iZ (h2:=?_))
   have yX:=LY (n:=.s 3) (a:=38) (i:=p.length - 1) (len:=k.body.length+1) (p:=p) (L:=k.body++[⟨sk,so,sa,sb⟩]) qB qB qB;have hsl:(bG p (p.length - 1) (k.body++[⟨sk,so,sa,sb⟩])).length=p.length:=Mb;refine fm ?_<|jS h4 h3 h2 hp2 hp2' ho1 hH3 hk hkE jw<|hok;intro K hK;have fx:=aI h4 h4;refine Ap (.s 4) (.u 1 0 0) (hext:=rfl) (hs:=ou) (hF:=Iz _ _ ls' ws' ou) (hE:=λx s hx hq=>⟨[],.nil,hx.tr,by rw [hRC];exact AP hpp (by simp [aG,hvs,hin,hst];cases ws' <;> simp at hq ⊢)⟩) (h:=?_);rintro y H4 ⟨rfl,hH4⟩;clear fx;refine fm ?_<|jS h4 h3 h2 hp2 hp2' ho1 hH3 hk hkE jw<|aI hok<|hH4;have hli:aG p l=some (bG p (p.length - 1) (k.body++[⟨sk,so,sa,sb⟩])):=by rw [<- Le hG1 hk];simp [aG,hvs,hin,hst]
   have hgot:=dL.put ⟨hG1,hG2,hG3⟩ (S:=⟨sk,so,sa,sb⟩) hk;refine⟨ls'.length,qB,dn++[l],ls',_,jd [],rfl,qB,L2 hpp hli,by simpa using hgot,wv,by simp [hH4],ya,yw,xX,by simp [h3,hsl],⟨by simp [yX],λd r hd=>?_,λd r hd=>?_⟩,.inr ⟨[],rfl⟩⟩
   all_goals
    have hdp:d<p.length:=by have h1:=(gS hd).1;rwa [hsl] at h1
    obtain⟨r0,hr0'⟩:∃ r0,p[d]?=some r0:=⟨_,gE hdp⟩;rw [GR hr0'] at hd;obtain rfl:=sI hd;by_cases hpd:p.length - 1=d
    .subst hpd;simp [ho2 _ r0 hr0']
    .simp [ho2 d r0 hr0',ho3 d r0 hr0',hpd,show ¬ d=p.length - 1 from λe=>hpd e.symm]
end Go.Proofs.YtjgpejikjhojcaaGreatDoor
end
