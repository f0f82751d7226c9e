import Derived.Test.YtdnebaieamppbaaGreatDoorF28
import Derived.Test.YtdnebaieamppbaaGreatDoorF20
set_option linter.unusedSimpArgs false
set_option linter.unusedVariables false
set_option maxRecDepth 100000
set_option maxHeartbeats 4000000

section
namespace Go.Proofs.YtdnebaieamppbaaGreatDoor
open Go Go.Hm Go.Proofs Tryz
abbrev XB:Y8:=.q 1<|.q 2<|.q 3<|.q 4<|.l 0 [4,3,2,1]<|.l 5 []<|.l 6 []<|.l 7 []<|.done
abbrev XA:Y8:=kr<|.l 8 [7,6,5,4,3,2,1,0]<|.l 9 []<|.done
abbrev Wz:Y8:=yq<|.l 11 [6,5,2,1,0]<|.l 12 [6,5,2,1]<|.l 13 []<|.done
abbrev Wy:Y8:=aB<|.l 9 [4,3,0]<|.l 10 [4,3]<|.l 11 []<|.done
abbrev Wx:Y8:=kP<|.l 6 []<|.q 7<|.l 8 []<|.done
abbrev Ww:Y8:=aB<|.l 9 [2,1,0]<|.q 10<|.q 11<|.l 12 [0]<|.l 13 []<|.l 14 []<|.done
abbrev Wv:Y8:=bK<|.l 14 [6,5,4,3,2,1,0]<|.q 15<|.q 16<|.q 17<|.q 18<|.l 19 [6,5,2,1,0]<|.l 20 [6,5,2,1]<|.l 21 []<|.done
attribute [local simp] oM
theorem yS {A G G2:Prop} (k:G2) (x:A) (h:A->Yr G2->G:=by
 intro fx kk;refine qI ?_
 repeat ((first|refine Y7 (id:=5) XB mixed ?_|refine Y7 (id:=11) XA mixed ?_|refine Y7 (id:=19) Wz mixed ?_|refine Y7 (id:=21) Wy mixed ?_|refine Y7 (id:=22) Wx mixed ?_|refine Y7 (id:=23) Ww mixed ?_|refine Y7 (id:=17) Wv mixed ?_);refine qW ?_;refine qI ?_)
 exact kk.h):G:=h x ⟨k⟩
theorem wx (gl) (p:YU) (f:Int) (hs:Zm p):qX prog gl 20 [Zc p,iv f] (λr y H'=>y=.hs r 3 0 (vh p f).length/\ZE H' r (vh p f)):=by
 rw [<- Gi hs];refine qX.Yb func20 [.tmp 4] ntmps20 λC w g root=>?_
 cases hv:wR p f
 .have hG:iZ p f=[]:=rt;rw [hG];have fx:= hv;have c1:=hv ▸ mj gl p f hs;refine yS ?_<|fx;clear fx c1;refine qE [(.s 4,root)] (.one rfl) qF ⟨qB,⟨qB,λi c h=>gA⟩⟩
 obtain⟨hpo,n,rfl,hn⟩:=eF hv;have hP:=Yl.of hs hpo;have hLk:Zk p:=⟨hs,hP.sh⟩;obtain⟨hg8,hf151,hfrv,-⟩:=pX hP hn;have hG:iZ p n=kO p (aY p n):=rt;rw [hG];have fx:= hv;have c1:=hv ▸ mj gl p n hs;refine yS ?_<|fx;clear fx c1;intro K hK;have fx:=Ya;refine xN Xn rfl (by simp [bz,noH]) (hF:=UH gl _ p n hP hLk hn (by simp [noH]) (by simp [noH])) (h:=?_);rintro y H1 ⟨rfl,hE1⟩;clear fx;generalize aY p n=M at *;obtain⟨b1,c1,d1,hT1⟩:=hE1.top;have hGl1:=hE1.Yd;by_cases hfr:M.YO=[]
 .have hl0:M.YO.length=0:=by rw [hfr];rfl
  rw [hl0] at hT1;have hvw:=KP gl 0 oA M.globals (by rw [hg8];rfl) qL
  have hVM:kO p M=[⟨0,uc (oA.zip M.globals),bZ (oA.zip M.globals)⟩]:=by
   rw [P8 hg8];unfold kO;rw [hfr]
  rw [hVM];obtain⟨v,hv'⟩:∃ v:Vw,v=⟨0,uc (oA.zip M.globals),bZ (oA.zip M.globals)⟩:=⟨_,rfl⟩;rw [<- hv'] at hvw ⊢;have fx:=jD hT1 hGl1<|hg8;have d1:=sG gl;have e1:=hvw;refine yS ?_<|fx;clear fx d1 e1;rintro K hK y H2 ⟨rfl,hVv⟩;obtain⟨o1,o2⟩:=hVv.Yv;refine⟨qB,?_⟩;have fx:=aI o1 o2;refine w5 ⟨vi,a_l rfl (jg (vG (h:=w5 ⟨vi,a_l rfl (jg ?_)⟩)))⟩;refine yu (.c (.s 31) 0 1) (.c (.s 4) 0 1) (.inl rfl) (.inl rfl) (yu (.c (.s 31) 0 2) (.c (.s 4) 0 2) (.inl rfl) (.inl rfl) ?_);refine zO (h:=w5 ⟨vi,wI hK ?_⟩);clear hK K fx;have hVw:kO p M=[v]:=by rw [hVM,hv']
  refine yS ?_<|Ya;rw [hVw];refine qE [(.s 4,root)] (.one rfl) qF ⟨qB,⟨rM,λq d hq=>?_⟩⟩
  obtain⟨rfl,rfl⟩:q=0/\d=v:=by
   have hl:=(gS hq).1;simp only [bS] at hl;obtain rfl:q=0:=qA;exact⟨rfl,by simpa using hq.symm⟩
  exact⟨mY,mH⟩
 have hne:0<M.YO.length:=List.length_pos_iff.2 hfr
 have hVM:kO p M=M.YO.map (dP p M):=by
  unfold kO
  split <;> simp_all
 have hl0:((M.YO.length:Int)==0)=false:=yY;refine yS ?_<|aI hT1<|hl0;refine qR (λn st=>∃ (i:Nat) (vs:List Vw),n=M.YO.length - i/\i<=M.YO.length/\vs=(M.YO.take i).map (dP p M)/\vs.length=i/\st.tm 7=iv i/\st.tm 5=.pt Xn 0/\Yu st.hp p M M.deep/\st.tm 2=.pt (.s 2) 0/\st.hp (.s 2)=some (.row 1 [[ZY p]])/\st.tm 6=.hs (.s 6) 3 0 vs.length/\ZE st.hp (.s 6) vs) M.YO.length ?_ ?_
 .exact⟨0,[],qA,qA,qB,rfl,qB,qB,(have h:=hE1;Yu.re h),qB,qB,qB,⟨qB,λi c h=>gA⟩⟩
 clear hT1 hE1 hGl1;rintro n0 st - - ⟨i,vs,rfl,hi,hvs,hvl,h7,h5,hE,h2,hp2,h6,⟨ht,he⟩⟩;obtain⟨b1,c1,d1,hT⟩:=hE.top;obtain⟨LF,hF,hFl,hFr⟩:=hE.fr.top;by_cases hil:i<M.YO.length
 .obtain⟨f,hf⟩:=gX hil;have hfv:=hfrv f (gM hf);have hfb:=hfv.YS;have hp7:=hP.sh.len;obtain⟨k,hk⟩:=gX hfb;have hkk:qV p f.YS=k.kind:=kS;obtain⟨g,a',b',hR,hgl⟩:=hFr i f hf;simp only [YZ.look,Dw] at hgl;obtain⟨gl1,gl2,gl3,gl4⟩:=hgl;have hR:=JC (n:=.c Xn 0 6) hR;rw [gl1,gl2,gl3] at hR;generalize g.stack.length=c' at hR;generalize bf (.c Xn 0 6) LF=rows at hF hR;obtain⟨hRl,hRE⟩:=gS hR;have hcd:(qg p p.length)[f.YS]?=some (qd p f.YS):=by simp [qg,hfb]
  obtain⟨hcdl,hcdE⟩:=gS hcd;have hse:=Rb gl p f.YS k hk hLk hs;have hcp:=λx=>eH gl p f.YS k x hk hLk;have hcK:(qd p f.YS).kind=k.kind:=kR;have hcF:(qd p f.YS).YV=qG p f.YS:=kR;have fx:=qQ h5 h7 h2 hp2 hT hF hR hRE hRl hil hcd hcdl<|hcdE;have d1:=hse;refine yS ?_<|fx;clear fx d1;obtain⟨S,hSe⟩:∃ S,S=yp p f.YS:=⟨_,rfl⟩;have hSl:S.length<=8:=hSe ▸ il;have hSm:∀ x∈S,x∈yp p f.YS:=λx hx=>hSe ▸ hx;rw [<- hSe];refine qR (λn1 st=>∃ (j:Nat) (L:List Yj),n1=S.length - j/\j<=S.length/\L=(S.take j).map (vW p M f)/\L.length=j/\st.tm 12=iv j/\st.tm 11=.hs (.s 11) 3 0 L.length/\st.hp (.s 11)=some (.row 3 (qU L))/\st.tm 10=.hs (.s 10) 1 0 S.length/\st.hp (.s 10)=some (.row 1 (qS S))/\st.tm 9=.pt (.s 9) 0/\st.hp (.s 9)=some (.row 6 [(qd p f.YS).row])/\st.tm 8=.pt (.s 8) 0/\st.hp (.s 8)=some (.row 7 [[iv f.YS,iv a',iv b',.hs (.c (.c Xn 0 6) i 3) 3 0 f.YV.length,ZD (zu f.cells),.hs (.c (.c Xn 0 6) i 5) 3 0 8,.hs (.c (.c Xn 0 6) i 6) 2 0 c']])/\st.tm 7=iv i/\st.tm 5=.pt Xn 0/\Yu st.hp p M M.deep/\st.tm 2=.pt (.s 2) 0/\st.hp (.s 2)=some (.row 1 [[ZY p]])/\st.tm 6=.hs (.s 6) 3 0 vs.length/\ZE st.hp (.s 6) vs) S.length ⟨0,[],qA,qA,qB,rfl,qB,qB,qB,qB,qB,qB,qB,qB,qB,yW,zA,(have h:=hE;Yu.re h),qj,qn,zL,⟨aU,λq v hq=>⟨ax,aw⟩⟩⟩ ?_;clear hT hF hFr hFl hR hRl hRE hE h5 h7 h2 hp2 h6 ht he
  rintro n1 st - - ⟨j,L,rfl,hj,hL,hLl,h12,h11,hp11,h10,hp10,h9,hp9,h8,hp8,h7,h5,hE,h2,hp2,h6,⟨ht,he⟩⟩;obtain⟨b1,c1,d1,hT⟩:=hE.top;have hLb:L.length<=100:=qA;simp only [Cod.row] at hp9;by_cases hjl:j<S.length
  .obtain⟨x,hx⟩:=gX hjl;obtain⟨_,hxE⟩:=gS hx;have hxs:=hSm x (gM hx);obtain⟨hx0,hx7⟩:=ik hxs;obtain⟨X,rfl⟩:∃ X:Nat,x=X:=⟨x.toNat,qA⟩;have hX8:X<8:=qA;have hXi:(X:Int)<8:=qA;by_cases hb0:f.YS=0
   .have hb0':((f.YS:Int)==0)=true:=by simp [hb0]
    have hGl:=hE.Yd;obtain⟨s,hs'⟩:∃ s,M.globals[X]?=some s:=⟨_,gE qA⟩;obtain⟨_,hsE⟩:=gS hs';have hsv:vW p M f X=s:=by simp [vW,hb0,ju,hs']
    rcases s with _|⟨v1,v2⟩
    all_goals
     refine yS ?_<|qQ h12 h11 hp11 h10 hp10 h8 hp8 h5 hT hGl hg8 hjl<|ko hx hxE hb0' hs' hsE hX8 hXi<|hLb
    .exact⟨S.length - (j+1),qA,j+1,L++[none],rfl,qA,ea,cm,ci,qB,eV,vo,eW,v8,fz,wW,cg,yW,zA,(have h:=hE;Yu.re h),qj,qn,zL,⟨aU,λq v hq=>⟨ax,aw⟩⟩⟩
    .exact⟨S.length - (j+1),qA,j+1,L++[some (v1,v2)],rfl,qA,ea,cm,ci,qB,eV,vo,eW,v8,fz,wW,cg,yW,zA,(have h:=hE;Yu.re h),qj,qn,zL,⟨aU,λq v hq=>⟨ax,aw⟩⟩⟩
   have hb0':((f.YS:Int)==0)=false:=yY;by_cases hk2:k.kind=2
   .have hk2':((qd p f.YS).kind==2)=true:=by simp [hcK,hk2]
    have hN:=hE.fr.names i f hf;have hnl:=hfv.names (by rw [hkk];exact hk2);obtain⟨s,hs'⟩:∃ s,f.names[X]?=some s:=⟨_,gE qA⟩;obtain⟨_,hsE⟩:=gS hs';have hsv:vW p M f X=s:=by simp [vW,hb0,hkk,hk2,ju,hs']
    rcases s with _|⟨v1,v2⟩
    all_goals
     refine yS ?_<|qQ h12 h11 hp11 h10 hp10 h9 hp9 h8 hp8 hN hnl hjl<|er hx hxE hb0' hk2' hs' hsE hX8 hXi<|hLb
    .exact⟨S.length - (j+1),qA,j+1,L++[none],rfl,qA,ea,cm,ci,qB,eV,vo,eW,v8,fz,wW,cg,yW,zA,(have h:=hE;Yu.re h),qj,qn,zL,⟨aU,λq v hq=>⟨ax,aw⟩⟩⟩
    .exact⟨S.length - (j+1),qA,j+1,L++[some (v1,v2)],rfl,qA,ea,cm,ci,qB,eV,vo,eW,v8,fz,wW,cg,yW,zA,(have h:=hE;Yu.re h),qj,qn,zL,⟨aU,λq v hq=>⟨ax,aw⟩⟩⟩
   have hk2':((qd p f.YS).kind==2)=false:=by rw [beq_eq_false_iff_ne,hcK];exact hk2
   have hk1:qV p f.YS=1:=by
    have:=hP.sh.head f.YS k hk;unfold ym at this;rw [if_neg hb0] at this;omega
   have hpf:=ve gl (qd p f.YS).YV (X:Int) (by rw [hcF];have:=vF (p:=p) (b:=f.YS);omega);rw [hcF] at hpf;by_cases hxf:(X:Int)∈qG p f.YS
   .obtain⟨q,q1,q2,q3⟩:=zQ hxf;rw [q1] at hpf;have hq0:(0:Int)<=q:=qA;have hFs:=hE.fr.YV i f hf;have hfl:=hfv.YV;have hqf:q<f.YV.length:=qA;have hqi:(q:Int)<f.YV.length:=qA;obtain⟨s,hs'⟩:∃ s,f.YV[q]?=some s:=⟨_,gE qA⟩;obtain⟨_,hsE⟩:=gS hs';have hsv:vW p M f X=s:=by rw [tF hk1 qA q3];simp [ju,hs']
    rw [<- hcF] at hpf;rcases s with _|⟨v1,v2⟩
    all_goals
     have fx:=qQ h12 h11 hp11 h10 hp10 h9 hp9 h8 hp8 hFs hjl hx<|er hxE hb0' hk2' hs' hsE hqf hqi hq0<|hLb;have c1:=hpf;refine yS ?_<|fx;clear fx c1
    .exact⟨S.length - (j+1),qA,j+1,L++[none],rfl,qA,ea,cm,ci,qB,eV,vo,eW,v8,fz,wW,cg,yW,zA,(have h:=hE;Yu.re h),qj,qn,zL,⟨aU,λq v hq=>⟨ax,aw⟩⟩⟩
    .exact⟨S.length - (j+1),qA,j+1,L++[some (v1,v2)],rfl,qA,ea,cm,ci,qB,eV,vo,eW,v8,fz,wW,cg,yW,zA,(have h:=hE;Yu.re h),qj,qn,zL,⟨aU,λq v hq=>⟨ax,aw⟩⟩⟩
   .have hq1:qq (qG p f.YS) (X:Int)=-1:=by
     have:=zr (xs:=qG p f.YS) (x:=(X:Int));unfold qq at this ⊢
     split at this <;> simp_all
    rw [hq1,<- hcF] at hpf;obtain⟨q,q1,q2⟩:=Mp ((Ra hk1 hxs).resolve_left hxf);have hcp':=hcp (X:Int);rw [q1] at hcp';have hnc:=hfv.qBw;have hCs:=hE.cells;obtain⟨c,hc⟩:∃ c,f.cells[q]?=some c:=⟨_,gE qA⟩;have hcl:=hfv.cells c (gM hc);have hci:(zu f.cells)[q]?=some (c:Int):=by simp [zu,hc]
    obtain⟨hcil,hciE⟩:=gS hci;have hqi:(q:Int)<(zu f.cells).length:=qA;have hclI:(c:Int)<M.cells.length:=qA;obtain⟨s,hs'⟩:∃ s,M.cells[c]?=some s:=⟨_,gE hcl⟩;obtain⟨_,hsE⟩:=gS hs'
    have hsv:vW p M f X=s:=by
     have h2:¬ qV p f.YS=2:=qA;simp [vW,hb0,h2,hxf,q1,ju,hs',hc]
    have hm1:¬ (0:Int) <= -1:=qA;generalize zu f.cells=CL at *;rcases s with _|⟨v1,v2⟩
    all_goals
     have fx:=qQ h12 h11 hp11 h10 hp10 h9 hp9 h8 hp8 h5 h2 hp2<|qQ hT hCs hjl hx hxE hb0' hk2' hs' hsE hci hcil hciE<|yl hqi hcl hclI hm1<|hLb;have c1:=hpf;have c2:=hcp';refine yS ?_<|fx;clear fx c1 c2
    .exact⟨S.length - (j+1),qA,j+1,L++[none],rfl,qA,ea,cm,ci,qB,eV,vo,eW,v8,fz,wW,cg,yW,zA,(have h:=hE;Yu.re h),qj,qn,zL,⟨aU,λq v hq=>⟨ax,aw⟩⟩⟩
    .exact⟨S.length - (j+1),qA,j+1,L++[some (v1,v2)],rfl,qA,ea,cm,ci,qB,eV,vo,eW,v8,fz,wW,cg,yW,zA,(have h:=hE;Yu.re h),qj,qn,zL,⟨aU,λq v hq=>⟨ax,aw⟩⟩⟩
  .obtain rfl:j=S.length:=qA;rw [kM] at hL;have hLS:L.length=S.length:=hLl;have hvw:=KP gl f.YS S L hLS hSl;have hzip:S.zip L=S.map λx=>(x,vW p M f x):=by rw [hL];exact mi _ S
   obtain⟨v,hv'⟩:∃ v:Vw,v=⟨f.YS,uc (S.zip L),bZ (S.zip L)⟩:=⟨_,rfl⟩
   have hve:dP p M f=v:=by
    rw [hv',hzip];simp only [dP,<- hSe]
   rw [<- hv'] at hvw;have hvl2:vs.length<=1000:=qA;have fx:=er h12 h11 hp11 h10 hp10 h8 hp8 h6<|hjl;have e1:=hvw;refine yS ?_<|fx;clear fx e1;rintro K hK y H2 ⟨rfl,hVv⟩;obtain⟨o1,o2⟩:=hVv.Yv;refine⟨qB,?_⟩;refine yS ?_<|kH h6 ht h7 hvl2 o1<|o2;refine⟨M.YO.length - (i+1),qA,i+1,vs++[v],rfl,qA,by rw [dN,hf,sQ,hvs];simp [hve],by simp [hvl],BE,zA,(have h:=hE;Yu.re h),qj,qn,qB,⟨?_,λq d hq=>?_⟩⟩
   .simp [ht,la]
   .rcases dS q vs.length with hlq|hgq
    .rw [dX hlq] at hq;have hne:¬ q=vs.length:=qA;obtain⟨e1,e2⟩:=he q d hq;exact⟨rO,r9⟩
    .rw [kh hgq] at hq
     obtain rfl:q=vs.length:=by
      have:=(gS hq).1;simp at this;omega
     simp at hq;subst hq;exact⟨mY,mH⟩
 .obtain rfl:i=M.YO.length:=qA;rw [kM] at hvs;have hve:vs=kO p M:=by rw [hVM];exact hvs
  subst hve;refine yS ?_<|kH h5 h7 hT hil h6<|ht;refine qE [(.s 4,root)] (.one rfl) qF ⟨qB,⟨FU,λq v hq=>⟨ax,aw⟩⟩⟩
end Go.Proofs.YtdnebaieamppbaaGreatDoor
end
section
namespace Go.Proofs.YtdnebaieamppbaaGreatDoor
open Go Go.Hm Go.Proofs Tryz
theorem cL (gl) (D:Nm->Bool) (hD:∀ k,D k=true->k.Y3=false) (H:Nm->Option AO) (R:List AV) (off k:Nat) (vs:List Y6) (v:Y6) (hr:H Yn=some (.row 4415 [R])) (hi:R[off+28]?=some (.hs (.c Yn 0 (off+28)) 2 0 (k+1))) (hs:H (.c Yn 0 (off+28))=some (.row 2 (zf vs))) (hv:vs[k]?=some v) (hk:k<=1000) (ho:off+29<=4415) :
  Yc prog gl 214 D [.pt Yn off] H (xI D (Y6.av v) Yn (.row 4415 [Yo R (off+28) [.hs (.c Yn 0 (off+28)) 2 0 k]]) H) Yz:=by
 obtain⟨hil,hiE⟩:=gS hi;obtain⟨hvl,hvE⟩:=gS hv;obtain⟨v1,v2⟩:=v;have hw1:IntKind.i64.wrap (k:Int)=k:=Yi qA qA;have hl1:(k:Int)<(k:Int)+1:=qA;have hl2:(k:Int)<=(k:Int)+1:=qA;have hl0:(0:Int)<=(k:Int):=qA;refine Yc.Yb func214 [.cell 2 63] ntmps214 hD λC w g root hroot=>?_;have ho2:off+28+1<=4415:=ho;have fx:=qQ hr hi hiE hil ho2 hs hv hvE hvl hw1 hl0 hl1<|hl2;refine qI ?_
 repeat ((first|refine Y7 (id:=1) (.q 0<|.q 1<|.q 2<|.q 3<|.q 4<|.q 5<|.q 6<|.q 7<|.q 8<|.q 9<|.q 10<|.q 11<|.l 12 [11,10,9,8,7,6,5,4,3,2,1,0]<|.l 13 []<|.done) mixed ?_|refine Y7 (id:=2) (.q 0<|.q 1<|.q 2<|.q 3<|.q 4<|.q 5<|.q 6<|.q 7<|.q 8<|.q 9<|.q 10<|.q 11<|.q 12<|.q 13<|.l 14 []<|.done) mixed ?_);refine qW ?_;refine qI ?_)
 clear fx;refine qE [] .nil qF ⟨qB,λq hq=>?_⟩;have hq2:=λd=>(Zq hD hq d).1;have hq3:=λd=>(Zq hD hq d).2;by_cases e:q=Yn
 .subst e;simp only [lO,hq,if_true];simp [AO.tr,Yo,Dr,Je,Pn hD,-List.map_map]
 .simp [lO,hq,hq2,hq3,e,M4 hD,-Option.map_map]
theorem vK (gl) (D:Nm->Bool) (hD:∀ k,D k=true->k.Y3=false) (H:Nm->Option AO) (R:List AV) (off:Nat) (vs js:List Y6) (v:Y6) (hDY:D Yn=true) (hDS:D (.c Yn 0 (off+28))=true) (hr:H Yn=some (.row 4415 [R])) (hi:R[off+28]?=some (.hs (.c Yn 0 (off+28)) 2 0 vs.length)) (hs:H (.c Yn 0 (off+28))=some (.row 2 (zf (vs++js)))) (hk:vs.length<=1000) (ho:off+29<=4415) :
  Yc prog gl 186 D [.pt Yn off,Y6.av v] H (Qm D (.c Yn 0 (off+28)) (off+28) R (vs++[v]) H) Yz:=by
 obtain⟨hil,hiE⟩:=gS hi;obtain⟨v1,v2⟩:=v;have ho2:off+28+1<=4415:=ho;refine Yc.Yb func186 [] ntmps186 hD λC w g root hroot=>?_;have fx:=kG hr hi hiE hil ho2 hs<|hk;refine qI ?_
 repeat ((first|refine Y7 (id:=1) (.q 0<|.q 1<|.q 2<|.q 3<|.q 4<|.q 5<|.l 6 [4,3,2,1,0]<|.l 7 [0]<|.q 8<|.q 9<|.l 10 []<|.done) mixed ?_);refine qW ?_;refine qI ?_)
 clear fx;refine jS [] .nil qF ⟨?_,?_,λq hq h1 h2=>?_⟩
 .have e:=YC (a:=3) (b:=10) (c:=11) (l:=R) hD hDS;simp only [sJ] at e;simp only [lO,hDY,if_true];simp [e,hDS,Yo]
 .simp only [lO,hDS,if_true];simp [zf]
 .have hq2:=λd=>(Zq hD hq d).1;have hq3:=λd=>(Zq hD hq d).2;have h3:¬ Nm.c Yn 0 (off+28)=q:=by rintro rfl;simp at h2
  have e:=YB (a:=3) (b:=10) (c:=11) (o:=H q) hD hDS;simp only [Option.map_map] at e;simp only [lO,hq,if_true];simp [hq2,hq3,h1,h2,h3,-Option.map_map,e];simp [e]
theorem uT (gl) (D:Nm->Bool) (hD:∀ k,D k=true->k.Y3=false) (H:Nm->Option AO) (R:List AV) (e:Int) (hr:H Yn=some (.row 4415 [R])) (hl:R.length=4415) :
  Yc prog gl 212 D [.pt Yn 0,iv e] H (xI D (bv false) Yn (.row 4415 [Yo R 3 [iv e]]) H) Yz:=by
 refine Yc.Yb func212 [.tmp 4] ntmps212 hD λC w g root hroot=>?_;refine qD ?_<|aI hr<|hl;refine qE [] .nil qF ⟨qB,λq hq=>?_⟩;have hq2:=λd=>(Zq hD hq d).1;have hq3:=λd=>(Zq hD hq d).2;by_cases e:q=Yn
 .subst e;simp only [lO,hq,if_true];simp [AO.tr,Yo,Dr,Je]
 .simp [lO,hq,hq2,hq3,e]
theorem xM (gl) (D:Nm->Bool) (hD:∀ k,D k=true->k.Y3=false) (hDY:D Yn=true) (H:Nm->Option AO) (R:List AV) (i:Nat) (hr:H Yn=some (.row 4415 [R])) (h:R[4411]?=some (iv ((i:Int)+1))) (hi:i<151) :
  Yc prog gl 145 D [.pt Yn 0] H (Qk D (.pt Yn (yo i)) H) Yz:=by
 obtain⟨hil,hiE⟩:=gS h;have hw1:IntKind.i64.wrap (i:Int)=i:=Yi qA qA;have hl0:(0:Int)<=(i:Int):=qA;have hl1:(i:Int)<151:=qA;refine Yc.Yb func145 [.tmp 2] ntmps145 hD λC w g root hroot=>?_;have fx:=ko hr h hil hiE hw1 hl0 hl1<|hi;refine qI ?_
 repeat ((first|refine Y7 (id:=1) (.q 0<|.q 1<|.q 2<|.q 3<|.q 4<|.q 5<|.q 6<|.q 7<|.q 8<|.l 9 []<|.done) mixed ?_);refine qW ?_;refine qI ?_)
 clear fx;refine qE [] .nil qF ⟨by simp [hDY,yo,B4],λq hq=>?_⟩;have hq2:=λd=>(Zq hD hq d).1;have hq3:=λd=>(Zq hD hq d).2;simp [lO,hq,hq2,hq3]
abbrev Wu:Y8:=gV<|.l 10 [9,8,7,6,5,4,3,2,1,0]<|.l 11 []<|.done
abbrev Wt:Y8:=E7<|.l 15 []<|.done
theorem zl {A G G2:Prop} (k:G2) (x:A) (h:A->Yr G2->G:=by
 intro fx kk;refine qI ?_
 repeat ((first|refine Y7 (id:=2) Wu mixed ?_|refine Y7 (id:=17) Wt mixed ?_);refine qW ?_;refine qI ?_)
 exact kk.h):G:=h x ⟨k⟩
theorem Ek (gl) (H:Nm->Option AO) (p:YU) (m:Y2) (i:Nat) (f:YZ) (hP:Y1 p) (hi:i<151) (hf:m.YO[i]?=some f) (hg8:m.globals.length=8) (hfb:f.YS<p.length) (hv:f.YS=0\/FrV p m f) (hO:YQ H p m) :
  Yc prog gl 111 DM [.pt Yn 0,.pt Yn (yo i)] H (λr y H'=>y=.mp r/\H' r=some (.map (vR (vW p m f) (lH p f.YS)))/\YQ H' p m) Yz:=by
 obtain⟨R,hT,hRl,r0,rtb,rb,r2,r3,rnm⟩:=hO.qBh hf hi;obtain⟨r0l,r0E⟩:=gS r0;obtain⟨rbl,rbE⟩:=gS rb;obtain⟨r2l,r2E⟩:=gS r2;obtain⟨r3l,r3E⟩:=gS r3;have hyo:yo i+29<=4415:=yX;have hy4:yo i+4+24<=4415:=qA;have hcd:(qg p p.length)[f.YS]?=some (qd p f.YS):=by simp [qg,hfb]
 obtain⟨hcdl,hcdE⟩:=gS hcd;obtain⟨k,hk⟩:=gX hfb;have hkk:qV p f.YS=k.kind:=kS;have hcK:(qd p f.YS).kind=k.kind:=kR;have hcF:(qd p f.YS).YV=qG p f.YS:=kR;have hcC:(qd p f.YS).cells=qC p f.YS:=kR;have hcG:(qd p f.YS).qAF=qN p f.YS:=kR;have hhd:=hP.head f.YS k hk;have hKn:=pN (p:=p) (b:=f.YS) hP.Y9;have hrng:∀ x∈lH p f.YS,0<=x/\x<=7:=λx hx=>pM hx;obtain⟨KK,hKK⟩:∃ K,K=lH p f.YS:=⟨_,rfl⟩;have hKl:KK.length<=8:=hKK ▸ DD hP.Y9;rw [<- hKK] at hKn hrng ⊢;refine Yc.Yb func111 [.tmp 4] ntmps111 (λ_=>qJ) λC w g root hroot=>?_;have hr0:DM root=false:=hroot root (Nm.Y0 _);have hnf:zH (.sc (Value.map none))=false:=rfl;refine zl ?_<|aI hT<|hnf;intro K hK;have fx:=aI hT hnf;refine KH (h:=?_);clear fx;refine zl ?_<|qQ hT hnf hRl r0 r0E r0l rb rbE rbl hcd hcdl hcdE<|aI hfb<|hyo;by_cases hb0:f.YS=0
 .have hb0':((qd p f.YS).kind==0)=true:=by
   unfold ym at hhd;rw [if_pos hb0] at hhd;rw [hcK];simp [hhd.1]
  have hk0:k.kind=0:=by simpa [hcK] using hb0'
  have hKe:KK=oA:=by rw [hKK,lH,if_neg (by rw [hkk];omega)]
  have hmt:∀ F,((R.map (AV.tr F)).drop 6).take 24=kI m.globals:=λF=>by rw [<- Je,<- Dr,rtb,pZ]
  refine zl ?_<|yl hT hRl rtb hyo<|hb0';refine qR (λn st=>∃ x:Nat,n=8 - x/\x<=8/\st.tm 97=.agg (kI m.globals)/\st.tm 98=iv x/\st.tm 5=.mp (.s 5)/\st.hp (.s 5)=some (.map (vR (vW p m f) (KK.take x)))/\YQ st.hp p m) 8 ?_ ?_
  .exact⟨0,qA,qA,by simp [bR,hmt],qB,qB,by simp [vR],vt⟩
  clear hT hRl r0 rtb rb r2 r3 rnm r0l r0E rbl rbE r2l r2E r3l r3E hmt hO;rintro n st - - ⟨x,rfl,hx,ta,ti,t5,hm,hO⟩;by_cases hx8:x<8
  .have hx8':(x:Int)<8:=qA;have hKx:KK[x]?=some (x:Int):=by rw [hKe];exact Hz hx8
   obtain⟨s,hs⟩:∃ s,ju m.globals x=s:=⟨_,rfl⟩;have hsv:vW p m f x=s:=by simp [vW,hb0,hs]
   have yF:=br hKn hKx hsv;have hfl:((kI m.globals).drop (x * 3)).take 3=jJ s:=by rw [B4,<- hs];exact A7 hx8
   have hi24:x * 3+3<=24:=qA;have hfn8:(kI m.globals).length=24:=A6;rcases s with _|⟨v1,v2⟩
   all_goals
    simp only [yR,jt] at hfl yF;refine zl ?_<|er ta ti t5 hm hx8' hx8 hfl hi24<|hfn8;intro K hK;have fx:=aI t5 (aI hm yF);refine vT (h:=?_);clear fx;refine zl ?_<| ti;exact⟨8 - (x+1),qA,x+1,rfl,qA,by simp [ta],rV,wG,qB,vt⟩
  .obtain rfl:x=8:=qA;rw [bC hKl] at hm;have h88:¬ (8:Int)<8:=qA;refine zl ?_<|j4 ti t5 hm<|h88;refine qE [(.s 4,root)] (.one rfl) qF ⟨qB,by simp [hm,hr0],YQ.fin vt⟩
 replace hv:=hv.resolve_left hb0;have hfl:=hv.YV;have hnc:=hv.qBw
 have hk12:k.kind=1\/k.kind=2:=by
  unfold ym at hhd;rw [if_neg hb0] at hhd;omega
 have hb0':((qd p f.YS).kind==0)=false:=by rw [beq_eq_false_iff_ne,hcK];omega
 by_cases hk2:k.kind=2
 .have hk2':((qd p f.YS).kind==2)=true:=by simp [hcK,hk2]
  have hKe:KK=oA:=by rw [hKK,lH,if_neg (by rw [hkk];omega)]
  have hmt:∀ F,((R.map (AV.tr F)).drop (yo i+4)).take 24=kI f.names:=λF=>by rw [<- Je,<- Dr,rnm,pZ]
  refine zl ?_<|kG hT hRl rnm hyo hy4 hb0'<|hk2';refine qR (λn st=>∃ x:Nat,n=8 - x/\x<=8/\st.tm 111=.agg (kI f.names)/\st.tm 112=iv x/\st.tm 5=.mp (.s 5)/\st.hp (.s 5)=some (.map (vR (vW p m f) (KK.take x)))/\YQ st.hp p m) 8 ?_ ?_
  .exact⟨0,qA,qA,by simp [bR,hmt],qB,qB,by simp [vR],vt⟩
  clear hT hRl r0 rtb rb r2 r3 rnm r0l r0E rbl rbE r2l r2E r3l r3E hmt hO;rintro n st - - ⟨x,rfl,hx,ta,ti,t5,hm,hO⟩;by_cases hx8:x<8
  .have hx8':(x:Int)<8:=qA;have hKx:KK[x]?=some (x:Int):=by rw [hKe];exact Hz hx8
   obtain⟨s,hs⟩:∃ s,ju f.names x=s:=⟨_,rfl⟩;have hsv:vW p m f x=s:=by simp [vW,hb0,hkk,hk2,hs]
   have yF:=br hKn hKx hsv;have hfl:((kI f.names).drop (x * 3)).take 3=jJ s:=by rw [B4,<- hs];exact A7 hx8
   have hi24:x * 3+3<=24:=qA;have hfn8:(kI f.names).length=24:=A6;rcases s with _|⟨v1,v2⟩
   all_goals
    simp only [yR,jt] at hfl yF;refine zl ?_<|er ta ti t5 hm hx8' hx8 hfl hi24<|hfn8;intro K hK;have fx:=aI t5 (aI hm yF);refine vT (h:=?_);clear fx;refine zl ?_<| ti;exact⟨8 - (x+1),qA,x+1,rfl,qA,by simp [ta],rV,wG,qB,vt⟩
  .obtain rfl:x=8:=qA;rw [bC hKl] at hm;have h88:¬ (8:Int)<8:=qA;refine zl ?_<|j4 ti t5 hm<|h88;refine qE [(.s 4,root)] (.one rfl) qF ⟨qB,by simp [hm,hr0],YQ.fin vt⟩
 have hk2':((qd p f.YS).kind==2)=false:=by rw [beq_eq_false_iff_ne,hcK];exact hk2
 have hk1:qV p f.YS=1:=qA;have hf8:=vF (p:=p) (b:=f.YS);have hc8:=zn (p:=p) (b:=f.YS);have hg8':(qN p f.YS).length<=8:=ud;have hKe:KK=qG p f.YS++(qC p f.YS++qN p f.YS):=by rw [hKK,lH,if_pos hk1]
 refine zl ?_<|jD hb0' hk2'<|hcF;refine qR (λn st=>∃ x:Nat,n=(qG p f.YS).length - x/\x<=(qG p f.YS).length/\st.tm 31=ZD (qG p f.YS)/\st.tm 32=iv (qG p f.YS).length/\st.tm 33=iv x/\st.tm 1=.pt Yn (yo i)/\st.tm 5=.mp (.s 5)/\st.hp (.s 5)=some (.map (vR (vW p m f) (KK.take (x))))/\st.tm 6=.pt (.s 6) 0/\st.hp (.s 6)=some (.row 6 [[iv (qd p f.YS).kind,ZD (qd p f.YS).params,ZD (qG p f.YS),ZD (qC p f.YS),ZD (qN p f.YS),osl (qd p f.YS).ops]])/\YQ st.hp p m) (qG p f.YS).length ?_ ?_
 .exact⟨0,qA,qA,by simp [hcF],by simp [hcF],qB,qB,qB,by simp [vR],qB,by simp [hcF,hcC,hcG],vt⟩
 clear hT hRl r0 rtb rb r2 r3 rnm r0l r0E rbl rbE r2l r2E r3l r3E hO;rintro n st - - ⟨x,rfl,hx,ta,tn,ti,t1,t5,hm,t6,hp6,hO⟩;by_cases hxl:x<(qG p f.YS).length
 .have hxl':(x:Int)<(qG p f.YS).length:=qA;obtain⟨y,hy⟩:=gX hxl;obtain⟨_,hyE⟩:=gS hy;have hKx:KK[x]?=some y:=by rw [hKe,dX hxl];exact hy
  have hFs:=hO.YV i f hf;have hql:x<f.YV.length:=qA;have hqi:(x:Int)<f.YV.length:=qA;obtain⟨s,hs'⟩:∃ s,f.YV[x]?=some s:=⟨_,gE hql⟩;obtain⟨_,hsE⟩:=gS hs';have hsv:vW p m f y=s:=by rw [tF hk1 qA hy];simp [ju,hs']
  rw [show 32+29 * i+2=yo i+2 from rfl] at hFs;have yF:=br hKn hKx hsv;obtain⟨R,hT,hRl,r0,rtb,rb,r2,r3,rnm⟩:=hO.qBh hf hi;obtain⟨r2l,r2E⟩:=gS r2;obtain⟨r3l,r3E⟩:=gS r3;rcases s with _|⟨v1,v2⟩
  all_goals
   simp only [yR,jt] at yF;refine zl ?_<|qQ ta tn ti t1 t5 hm t6 hp6 hxl hxl' hy hyE<|jP hT hRl hyo r2 r2E r2l hFs hs' hsE hqi<|hql;intro K hK;have fx:=aI t5 (aI hm yF);refine vT (h:=?_);clear fx;refine zl ?_<| ti;exact⟨(qG p f.YS).length - (x+1),qA,x+1,rfl,qA,by simp [ta],by simp [tn],rV,ap,wG,by simp [dU],aT,va,vt⟩
 obtain rfl:x=(qG p f.YS).length:=qA;refine zl ?_<|ko tn ti t1 t5 hm t6 hp6<|hxl;refine qR (λn st=>∃ x:Nat,n=(qC p f.YS).length - x/\x<=(qC p f.YS).length/\st.tm 49=ZD (qC p f.YS)/\st.tm 50=iv (qC p f.YS).length/\st.tm 51=iv x/\st.tm 1=.pt Yn (yo i)/\st.tm 5=.mp (.s 5)/\st.hp (.s 5)=some (.map (vR (vW p m f) (KK.take ((qG p f.YS).length+x))))/\st.tm 6=.pt (.s 6) 0/\st.hp (.s 6)=some (.row 6 [[iv (qd p f.YS).kind,ZD (qd p f.YS).params,ZD (qG p f.YS),ZD (qC p f.YS),ZD (qN p f.YS),osl (qd p f.YS).ops]])/\YQ st.hp p m) (qC p f.YS).length ?_ ?_
 .exact⟨0,qA,qA,qB,qB,qB,ap,wG,cF,aT,va,vt⟩
 clear ta tn ti t1 t5 hm t6 hp6 hO;rintro n st - - ⟨x,rfl,hx,ta,tn,ti,t1,t5,hm,t6,hp6,hO⟩;by_cases hxl:x<(qC p f.YS).length
 .have hxl':(x:Int)<(qC p f.YS).length:=qA;obtain⟨y,hy⟩:=gX hxl;obtain⟨_,hyE⟩:=gS hy;have hKx:KK[(qG p f.YS).length+x]?=some y:=by rw [hKe,kh qA,Ji,dX hxl];exact hy
  have hql:x<f.cells.length:=qA;obtain⟨c,hc⟩:=gX hql;have hCs:=hO.cls i f hf;rw [show 32+29 * i+3=yo i+3 from rfl] at hCs;have hce:(zC f.cells)[x]?=some [ptE c]:=by simp [zC,hc]
  obtain⟨hcel,hceE⟩:=gS hce;have hcl:=hv.cells c (gM hc);obtain⟨s,hs'⟩:∃ s,m.cells[c]?=some s:=⟨_,gE hcl⟩;have hCc:=hO.cell c s hs';have hqi:(x:Int)<f.cells.length:=qA;have hsv:vW p m f y=s:=by rw [I1 hk1 qA hy];simp [ju,hs',hc]
  have yF:=br hKn hKx hsv;obtain⟨R,hT,hRl,r0,rtb,rb,r2,r3,rnm⟩:=hO.qBh hf hi;obtain⟨r2l,r2E⟩:=gS r2;obtain⟨r3l,r3E⟩:=gS r3;rcases s with _|⟨v1,v2⟩
  all_goals
   simp only [yR,jt] at yF;refine zl ?_<|qQ ta tn ti t1 t5 hm t6 hp6 hxl hxl' hy hyE<|qQ hT hRl hyo r3 r3E r3l hCs hce hceE hcel hql hqi<|hCc;intro K hK;have fx:=aI t5 (aI hm yF);refine vT (h:=?_);clear fx;refine zl ?_<| ti;exact⟨(qC p f.YS).length - (x+1),qA,x+1,rfl,qA,by simp [ta],by simp [tn],rV,ap,wG,by simp [dU],aT,va,vt⟩
 obtain rfl:x=(qC p f.YS).length:=qA;refine zl ?_<|ko tn ti t1 t5 hm t6 hp6<|hxl;refine qR (λn st=>∃ x:Nat,n=(qN p f.YS).length - x/\x<=(qN p f.YS).length/\st.tm 69=ZD (qN p f.YS)/\st.tm 70=iv (qN p f.YS).length/\st.tm 71=iv x/\st.tm 1=.pt Yn (yo i)/\st.tm 5=.mp (.s 5)/\st.hp (.s 5)=some (.map (vR (vW p m f) (KK.take ((qG p f.YS).length+(qC p f.YS).length+x))))/\st.tm 6=.pt (.s 6) 0/\st.hp (.s 6)=some (.row 6 [[iv (qd p f.YS).kind,ZD (qd p f.YS).params,ZD (qG p f.YS),ZD (qC p f.YS),ZD (qN p f.YS),osl (qd p f.YS).ops]])/\YQ st.hp p m) (qN p f.YS).length ?_ ?_
 .exact⟨0,qA,qA,qB,qB,qB,ap,wG,cF,aT,va,vt⟩
 clear ta tn ti t1 t5 hm t6 hp6 hO;rintro n st - - ⟨x,rfl,hx,ta,tn,ti,t1,t5,hm,t6,hp6,hO⟩;by_cases hxl:x<(qN p f.YS).length
 .have hxl':(x:Int)<(qN p f.YS).length:=qA;obtain⟨y,hy⟩:=gX hxl;obtain⟨_,hyE⟩:=gS hy;have hKx:KK[(qG p f.YS).length+(qC p f.YS).length+x]?=some y:=by rw [hKe,kh qA,dU,Ji,kh qA,Ji];exact hy
  have hql:(qC p f.YS).length+x<f.cells.length:=qA;obtain⟨c,hc⟩:=gX hql;have hCs:=hO.cls i f hf;rw [show 32+29 * i+3=yo i+3 from rfl] at hCs;have hce:(zC f.cells)[(qC p f.YS).length+x]?=some [ptE c]:=by simp [zC,hc]
  obtain⟨hcel,hceE⟩:=gS hce;have hcl:=hv.cells c (gM hc);obtain⟨s,hs'⟩:∃ s,m.cells[c]?=some s:=⟨_,gE hcl⟩;have hCc:=hO.cell c s hs';have hcl8:=zn (p:=p) (b:=f.YS);have hfl8:(qN p f.YS).length<=8:=ud;have hqw:IntKind.i64.wrap (((qC p f.YS).length:Int)+(x:Int))=((qC p f.YS).length:Int)+(x:Int):=Yi qA qA;have hqi:((qC p f.YS).length:Int)+(x:Int)<f.cells.length:=qA;have hq0:(0:Int)<=((qC p f.YS).length:Int)+(x:Int):=qA;have hqt:(((qC p f.YS).length:Int)+(x:Int)).toNat=(qC p f.YS).length+x:=qA;have hsv:vW p m f y=s:=by rw [I0 hP.Y9 hk1 qA hy];simp [ju,hs',hc]
  have yF:=br hKn hKx hsv;obtain⟨R,hT,hRl,r0,rtb,rb,r2,r3,rnm⟩:=hO.qBh hf hi;obtain⟨r2l,r2E⟩:=gS r2;obtain⟨r3l,r3E⟩:=gS r3;rcases s with _|⟨v1,v2⟩
  all_goals
   simp only [yR,jt] at yF;refine zl ?_<|qQ ta tn ti t1 t5 hm t6 hp6 hxl hxl' hy hyE<|qQ hT hRl hyo r3 r3E r3l hCs hce hceE hcel hql hqi<|j4 hqw hq0 hqt<|hCc;intro K hK;have fx:=aI t5 (aI hm yF);refine vT (h:=?_);clear fx;refine zl ?_<| ti;exact⟨(qN p f.YS).length - (x+1),qA,x+1,rfl,qA,by simp [ta],by simp [tn],rV,ap,wG,by simp [dU],aT,va,vt⟩
 obtain rfl:x=(qN p f.YS).length:=qA;have hKt:KK.take ((qG p f.YS).length+(qC p f.YS).length+(qN p f.YS).length)=KK:=bC (by rw [hKe];simp;omega);rw [hKt] at hm;refine zl ?_<|ko tn ti t1 t5 hm t6 hp6<|hxl;refine qE [(.s 4,root)] (.one rfl) qF ⟨qB,by simp [hm,hr0],YQ.fin vt⟩
end Go.Proofs.YtdnebaieamppbaaGreatDoor
end
