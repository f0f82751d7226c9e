import Derived.Test.YtdnebaieamppbaaGreatDoorF42
import Derived.ProofKit
set_option linter.unusedSimpArgs false
set_option linter.unusedVariables false
set_option maxRecDepth 100000
set_option maxHeartbeats 4000000

section
namespace Go.Proofs.YtdnebaieamppbaaGreatDoor
open Go Go.Hm Go.Proofs Tryz
abbrev LJ:Y8:=.q 0<|.q 1<|.l 2 [0]<|.l 3 []<|.q 4<|.done
theorem ut {A G G2:Prop} (k:G2) (x:A) (h:A->Yr G2->G:=by
 intro fx kk;refine qI ?_
 repeat ((first|refine Y7 (id:=10) LJ mixed ?_);refine qW ?_;refine qI ?_)
 exact kk.h):G:=h x ⟨k⟩
theorem eu (gl:Nat->Option (List AV)) (hgl:gl 0=some lT) (p:YU) (b:Int) (hb:Big p):qX prog gl 5 [Zc p,iv b] (λ_ y _=>y=bv true):=by
 refine qX.Yb func5 [.tmp 4] ntmps5 λC w g root=>?_;by_cases ht:tot p<=1048576
 case neg =>
  have fx:= ht;have c1:=mn gl p hb;refine ut ?_<|fx;clear fx c1;refine qE [] .nil qF qB
 have hs:=RL ht;have hgt:¬ 1048576 - (tot p:Int)<0:=qA;have hsa:=wx gl p b hs;have hia:=u7 gl hgl p b hs;have hvs:=oP (f:=b) hs;generalize vh p b=R at hsa hia hvs;have hRl:=hvs.len;have heq:=JW gl R hvs;have hcR:=hvs.cnt R.length;rw [kM] at hcR;have hcp:=Hj hs p.length;have hpl:=hs.len;have fx:=aI ht<|hgt;have c1:=mn gl p hb;have e1:=af gl p hs;refine ut ?_<|fx;clear fx c1 e1;rintro K hK y H1 ⟨rfl,hO⟩;obtain⟨ho1,ho2,ho3⟩:=hO.Yv;refine⟨qB,?_⟩;have fx:=aI ht<|hgt;have e1:=hsa;refine ut ?_<|fx;clear fx e1;rintro y H2 ⟨rfl,hR⟩;obtain⟨r1,r2⟩:=hR.Yv;refine⟨qB,?_⟩;refine ut ?_<|jD ht hgt<|r1;intro K hK;refine uD (λst=>st.tm 2=.pt (.s 2) 0/\st.hp (.s 2)=some (.row 1 [[ZY p]])/\st.tm 6=.hs (.s 6) 3 0 R.length/\ZE st.hp (.s 6) R/\st.tm 1=iv b/\st.tm 22=Zc p) ⟨qB,qB,qB,⟨dH,λq v hq=>⟨dI,dE⟩⟩,qB,qB⟩ ?_;clear hO ho1 ho2 ho3 hR r1 r2;rintro st ⟨h2,hp2,h6,⟨r1,r2⟩,h1,h22⟩;have fx:=yl h2 hp2 h6 h1<|h22;have e1:=af gl p hs;refine ut ?_<|fx;clear fx e1;rintro y H2 ⟨rfl,hO⟩;obtain⟨b1,b2,b3⟩:=hO.Yv;refine⟨qB,?_⟩;have fx:=yl h2 hp2 h6 h1<|b1;have e1:=hia;refine ut ?_<|fx;clear fx e1;rintro K hK y H3 ⟨rfl,hR3⟩;obtain⟨s1,s2⟩:=hR3.Yv;refine⟨qB,?_⟩;refine ut ?_<|kG h2 hp2 h6 h1 b1 r1<|s1;intro K hK
 refine uD (λst=>st.tm 2=.pt (.s 2) 0/\st.hp (.s 2)=some (.row 1 [[ZY p]])/\st.tm 6=.hs (.s 6) 3 0 R.length/\ZE st.hp (.s 6) R/\st.tm 1=iv b/\st.tm 7=.pt (.s 7) 0/\st.hp (.s 7)=some (.row 1 [[.hs (.c (.s 7) 0 0) 4 0 p.length]])/\Z3 st.hp (.c (.s 7) 0 0) p/\st.tm 8=.hs (.s 8) 3 0 R.length/\ZE st.hp (.s 8) R/\st.tm 27=.hs (.s 8) 3 0 R.length/\st.tm 28=.hs (.s 6) 3 0 R.length)
  ⟨qj,qn,zL,⟨dH,λq v hq=>⟨dI,dE⟩⟩,qz,qB,qB,⟨by simp [b1,-List.map_map],λj r hj=>by simp [b2 j r hj],λj r hj=>by simp [b3 j r hj]⟩,qB,⟨eZ,λq v hq=>⟨iF,iD⟩⟩,qB,zL⟩ ?_
 clear h2 hp2 h6 h1 h22 r1 r2 s1 s2 hO b1 b2 b3 hR3;rintro st ⟨h2,hp2,h6,⟨r1,r2⟩,h1,h7,hp7,⟨b1,b2,b3⟩,h8,⟨s1,s2⟩,h27,h28⟩
 all_goals have fx:=jP h2 hp2 h6 h1 h7 hp7 h8 r1 s1 h27<|h28
 repeat' (first
  | refine uZ ?_|refine yH ?_|refine kJ λK hK=>?_
  | ((with_reducible refine vX hK ?_);clear hK K)
  | (with_reducible first|refine q9 ?_|refine za ?_|refine w5 ?_)
  | refine kV ?_
  | (with_reducible refine jg ?_)
  | ((with_reducible refine Ha ?_);refine uj (h:=?_))
  | (with_reducible first|refine lL ?_|refine mD ?_|refine IF (h:=?_)|refine IG (h:=?_)|refine x_u (h:=?_)|refine zO (h:=?_)|refine dO (h:=?_)|refine vu (h:=?_)|refine yM (h:=?_)|refine uY (h:=?_))
  | ((with_reducible refine nI 23 rfl ?_);refine qP (hB:=Fr) (hF:=heq) (h:=?_))
  | ((with_reducible refine nI 21 rfl ?_);refine xO (hB:=Fr) (hF:=af gl p hs) (h:=?_))
  | (with_reducible refine x_q (h:=?_))
  | (with_reducible refine bq (λht=>?_) (λht=>?_))
  | refine j8 (h1:=?_)|refine jr (h1:=?_)
  | (refine Y7 (id:=10) LJ mixed λK hK=>?_)
  | ((with_reducible refine wI hK ?_);clear hK K)
  | ((with_reducible refine em ?_);first|refine su (h:=?_)|refine gL (h:=?_)|refine gN (h:=?_)|refine gK (h:=?_))
  | ((with_reducible refine em ?_);refine gO (h1:=λht=>?_) (h2:=λht=>?_))
  | refine a_l rfl ?_|refine G3 ?_ ?_|refine G1 ?_ ?_ ?_|(with_reducible refine aI ?_ ?_)|exact vi|refine cM (h2:=?_)
  | fail)
 all_goals try clear fx
 rintro y H3 ⟨rfl,hO3⟩;obtain⟨ho1,ho2,ho3⟩:=hO3.Yv;refine⟨qB,?_⟩;have fx:=ko h2 hp2 h6 h7 hp7 h8 b1<|ho1;have c1:=D1 gl p p hs hs;refine ut ?_<|fx;clear fx c1;intro K hK
 refine uD (λst=>st.tm 2=.pt (.s 2) 0/\st.hp (.s 2)=some (.row 1 [[ZY p]])/\st.tm 6=.hs (.s 6) 3 0 R.length/\ZE st.hp (.s 6) R/\st.tm 1=iv b/\Z3 st.hp (.c (.s 7) 0 0) p/\st.tm 8=.hs (.s 8) 3 0 R.length/\ZE st.hp (.s 8) R/\st.tm 36=.agg [.hs (.c (.s 7) 0 0) 4 0 p.length]/\st.tm 37=iv 1)
  ⟨qj,qn,zL,⟨dH,λq v hq=>⟨dI,dE⟩⟩,qz,⟨by simp [b1],λj r hj=>by simp [b2 j r hj],λj r hj=>by simp [b3 j r hj]⟩,wW,⟨eZ,λq v hq=>⟨iF,iD⟩⟩,qB,qB⟩ ?_
 clear h2 hp2 h6 r1 r2 h1 h7 hp7 b1 b2 b3 h8 s1 s2 h27 h28 ho1 ho2 ho3 hO3;rintro st ⟨h2,hp2,h6,⟨r1,r2⟩,h1,⟨b1,b2,b3⟩,h8,⟨s1,s2⟩,h36,h37⟩;have fx:=aI h36 h37;refine sw (.c (.s 7) 0 0) (.u 0 0 0) (hext:=rfl) (hs:=by simp [b1]) (hF:=s8 _ _ p 1 hs ⟨by simp [b1],λj r hj=>by simp [b2 j r hj],λj r hj=>by simp [b3 j r hj]⟩ qB qL) (h:=?_);rintro y H6 ⟨rfl,⟨d1,d2,d3⟩⟩;clear fx
 refine Ol (λst=>st.tm 2=.pt (.s 2) 0/\st.hp (.s 2)=some (.row 1 [[ZY p]])/\st.tm 6=.hs (.s 6) 3 0 R.length/\ZE st.hp (.s 6) R/\st.tm 1=iv b/\st.tm 8=.hs (.s 8) 3 0 R.length/\ZE st.hp (.s 8) R/\st.tm 38=iv (1+cnt p))
  ⟨qj,qn,zL,⟨dH,λq v hq=>⟨dI,dE⟩⟩,qz,wW,⟨eZ,λq v hq=>⟨iF,iD⟩⟩,qB⟩ ?_
 clear h2 hp2 h6 r1 r2 h1 b1 b2 b3 h8 s1 s2 h36 h37 d1 d2 d3;rintro st ⟨h2,hp2,h6,⟨r1,r2⟩,h1,h8,⟨s1,s2⟩,h38⟩;have hk1:¬ 1+(cnt p:Int)<0:=qA
 all_goals have fx:=er h2 hp2 h6 h1 h8 r1 s1 h38<|hk1
 repeat' (first
  | refine uZ ?_|refine yH ?_|refine kJ λK hK=>?_
  | ((with_reducible refine vX hK ?_);clear hK K)
  | (with_reducible first|refine q9 ?_|refine za ?_|refine w5 ?_)
  | refine kV ?_
  | (with_reducible refine jg ?_)
  | ((with_reducible refine Ha ?_);refine uj (h:=?_))
  | (with_reducible first|refine lL ?_|refine mD ?_|refine IF (h:=?_)|refine IG (h:=?_)|refine x_u (h:=?_)|refine zO (h:=?_)|refine dO (h:=?_)|refine vu (h:=?_)|refine yM (h:=?_)|refine uY (h:=?_))
  | ((with_reducible refine nI 23 rfl ?_);refine qP (hB:=Fr) (hF:=heq) (h:=?_))
  | (with_reducible refine x_q (h:=?_))
  | (with_reducible refine bq (λht=>?_) (λht=>?_))
  | refine j8 (h1:=?_)|refine jr (h1:=?_)
  | (refine Y7 (id:=10) LJ mixed λK hK=>?_)
  | ((with_reducible refine wI hK ?_);clear hK K)
  | ((with_reducible refine em ?_);first|refine su (h:=?_)|refine gL (h:=?_)|refine gN (h:=?_)|refine gK (h:=?_))
  | ((with_reducible refine em ?_);refine gO (h1:=λht=>?_) (h2:=λht=>?_))
  | refine a_l rfl ?_|refine G3 ?_ ?_|refine G1 ?_ ?_ ?_|(with_reducible refine aI ?_ ?_)|exact vi|refine cM (h2:=?_)
  | fail)
 all_goals try clear fx
 refine uD (λst=>st.tm 2=.pt (.s 2) 0/\st.hp (.s 2)=some (.row 1 [[ZY p]])/\st.tm 6=.hs (.s 6) 3 0 R.length/\ZE st.hp (.s 6) R/\st.tm 1=iv b/\st.tm 8=.hs (.s 8) 3 0 R.length/\ZE st.hp (.s 8) R/\st.tm 47=.hs (.s 8) 3 0 R.length/\st.tm 48=iv 1)
  ⟨qj,qn,zL,⟨dH,λq v hq=>⟨dI,dE⟩⟩,qz,wW,⟨eZ,λq v hq=>⟨iF,iD⟩⟩,wW,qB⟩ ?_
 clear h2 hp2 h6 r1 r2 h1 h8 s1 s2 h38;rintro st ⟨h2,hp2,h6,⟨r1,r2⟩,h1,h8,⟨s1,s2⟩,h47,h48⟩;have fx:=aI h47 h48;refine sw (.s 8) (.u 0 0 0) (hext:=rfl) (hs:=eZ) (hF:=Cn _ _ R 1 hvs ⟨eZ,λq v hq=>⟨iF,iD⟩⟩ qB qL) (h:=?_);rintro y H7 ⟨rfl,⟨m1,m2⟩⟩;clear fx;have hml:(wN R 1).length=R.length:=bc
 refine Ol (λst=>st.tm 2=.pt (.s 2) 0/\st.hp (.s 2)=some (.row 1 [[ZY p]])/\st.tm 6=.hs (.s 6) 3 0 R.length/\ZE st.hp (.s 6) R/\st.tm 1=iv b/\st.tm 8=.hs (.s 8) 3 0 R.length/\ZE st.hp (.s 8) (wN R 1)/\st.tm 49=iv (1+fQ R))
  ⟨qj,qn,zL,⟨dH,λq v hq=>⟨dI,dE⟩⟩,qz,wW,⟨by simp [m1],λq v hq=>⟨by simp [(m2 q v hq).names],by simp [(m2 q v hq).vals]⟩⟩,qB⟩ ?_
 clear h2 hp2 h6 r1 r2 h1 h8 s1 s2 h47 h48 m1 m2;rintro st ⟨h2,hp2,h6,⟨r1,r2⟩,h1,h8,⟨s1,s2⟩,h49⟩;have hhe:=DL gl R 1 hvs qL;have hk2:¬ 1+(fQ R:Int)<0:=qA
 all_goals have fx:=gJ h2 hp2 h6 h1 h8 r1 s1 h49 hk2<|@qT
 repeat' (first
  | refine uZ ?_|refine yH ?_|refine kJ λK hK=>?_
  | ((with_reducible refine vX hK ?_);clear hK K)
  | (with_reducible first|refine q9 ?_|refine za ?_|refine w5 ?_)
  | refine kV ?_
  | (with_reducible refine jg ?_)
  | ((with_reducible refine Ha ?_);refine uj (h:=?_))
  | (with_reducible first|refine lL ?_|refine mD ?_|refine IF (h:=?_)|refine IG (h:=?_)|refine x_u (h:=?_)|refine zO (h:=?_)|refine dO (h:=?_)|refine vu (h:=?_)|refine yM (h:=?_)|refine uY (h:=?_))
  | ((with_reducible refine nI 27 rfl ?_);refine qP (hB:=NB) (hF:=hhe) (h:=?_))
  | ((with_reducible refine nI 21 rfl ?_);refine xO (hB:=NB) (hF:=af gl p hs) (h:=?_))
  | (with_reducible refine x_q (h:=?_))
  | (with_reducible refine bq (λht=>?_) (λht=>?_))
  | refine j8 (h1:=?_)|refine jr (h1:=?_)
  | (refine Y7 (id:=10) LJ mixed λK hK=>?_)
  | ((with_reducible refine wI hK ?_);clear hK K)
  | ((with_reducible refine em ?_);first|refine su (h:=?_)|refine gL (h:=?_)|refine gN (h:=?_)|refine gK (h:=?_))
  | ((with_reducible refine em ?_);refine gO (h1:=λht=>?_) (h2:=λht=>?_))
  | refine a_l rfl ?_|refine G3 ?_ ?_|refine G1 ?_ ?_ ?_|(with_reducible refine aI ?_ ?_)|exact vi|refine cM (h2:=?_)
  | fail)
 all_goals try clear fx
 rintro y H8 ⟨rfl,hO⟩;obtain⟨ho1,ho2,ho3⟩:=hO.Yv;refine⟨qB,?_⟩;have fx:=kH h2 hp2 h6 h1 h8<|ho1;have e1:=hia;refine ut ?_<|fx;clear fx e1;rintro y H9 ⟨rfl,hR9⟩;obtain⟨t1,t2⟩:=hR9.Yv;refine⟨qB,?_⟩
 all_goals have fx:=jP h2 hp2 h6 h1 h8 ho1 r1 s1 t1 hk2<|@qT
 repeat' (first
  | refine uZ ?_|refine yH ?_|refine kJ λK hK=>?_
  | ((with_reducible refine vX hK ?_);clear hK K)
  | (with_reducible first|refine q9 ?_|refine za ?_|refine w5 ?_)
  | refine kV ?_
  | (with_reducible refine jg ?_)
  | ((with_reducible refine Ha ?_);refine uj (h:=?_))
  | (with_reducible first|refine lL ?_|refine mD ?_|refine IF (h:=?_)|refine IG (h:=?_)|refine x_u (h:=?_)|refine zO (h:=?_)|refine dO (h:=?_)|refine vu (h:=?_)|refine yM (h:=?_)|refine uY (h:=?_))
  | ((with_reducible refine nI 23 rfl ?_);refine qP (hB:=NE) (hF:=heq) (h:=?_))
  | ((with_reducible refine nI 27 rfl ?_);refine qP (hB:=NE) (hF:=hhe) (h:=?_))
  | (with_reducible refine x_q (h:=?_))
  | (with_reducible refine bq (λht=>?_) (λht=>?_))
  | refine j8 (h1:=?_)|refine jr (h1:=?_)
  | (refine Y7 (id:=10) LJ mixed λK hK=>?_)
  | ((with_reducible refine wI hK ?_);clear hK K)
  | ((with_reducible refine em ?_);first|refine su (h:=?_)|refine gL (h:=?_)|refine gN (h:=?_)|refine gK (h:=?_))
  | ((with_reducible refine em ?_);refine gO (h1:=λht=>?_) (h2:=λht=>?_))
  | refine a_l rfl ?_|refine G3 ?_ ?_|refine G1 ?_ ?_ ?_|(with_reducible refine aI ?_ ?_)|exact vi|refine cM (h2:=?_)
  | fail)
 all_goals try clear fx
 refine qE [] .nil qF qB
end Go.Proofs.YtdnebaieamppbaaGreatDoor
end
section
namespace Go.Proofs.YtdnebaieamppbaaGreatDoor
open Go.ChangeShapes Go.WideShapes Go.ChangeAt Go.RowKit Go.Deep Go.Hm Tryz
theorem MA:prog.underlying 3=some (.int .i64):=qM
theorem Uy:prog.cellsOf 3=1:=qM
theorem VA:prog.bytesOf 3=8:=qM
theorem P1:prog.underlying 263=some (.struct #[{ name:= "Kind",type:=3,offset:=0,embedded:=false,tag:= "",pkgPath:= "",byteOffset:=0 },{ name:= "To",type:=3,offset:=1,embedded:=false,tag:= "",pkgPath:= "",byteOffset:=8 },{ name:= "A",type:=3,offset:=2,embedded:=false,tag:= "",pkgPath:= "",byteOffset:=16 },{ name:= "B",type:=3,offset:=3,embedded:=false,tag:= "",pkgPath:= "",byteOffset:=24 }]):=qM
theorem P2:oneCellFields prog #[{ name:= "Kind",type:=3,offset:=0,embedded:=false,tag:= "",pkgPath:= "",byteOffset:=0 },{ name:= "To",type:=3,offset:=1,embedded:=false,tag:= "",pkgPath:= "",byteOffset:=8 },{ name:= "A",type:=3,offset:=2,embedded:=false,tag:= "",pkgPath:= "",byteOffset:=16 },{ name:= "B",type:=3,offset:=3,embedded:=false,tag:= "",pkgPath:= "",byteOffset:=24 }]=true:=qM
theorem P3:prog.cellsOf 263=4:=qM
theorem P4:prog.bytesOf 263=32:=qM
theorem SZ:prog.underlying 164=some (.struct #[{ name:= "Kind",type:=3,offset:=0,embedded:=false,tag:= "",pkgPath:= "",byteOffset:=0 },{ name:= "Parent",type:=3,offset:=1,embedded:=false,tag:= "",pkgPath:= "",byteOffset:=8 },{ name:= "Params",type:=32,offset:=2,embedded:=false,tag:= "",pkgPath:= "",byteOffset:=16 },{ name:= "Body",type:=162,offset:=3,embedded:=false,tag:= "",pkgPath:= "",byteOffset:=40 }]):=qM
theorem S4:oneCellFields prog #[{ name:= "Kind",type:=3,offset:=0,embedded:=false,tag:= "",pkgPath:= "",byteOffset:=0 },{ name:= "Parent",type:=3,offset:=1,embedded:=false,tag:= "",pkgPath:= "",byteOffset:=8 },{ name:= "Params",type:=32,offset:=2,embedded:=false,tag:= "",pkgPath:= "",byteOffset:=16 },{ name:= "Body",type:=162,offset:=3,embedded:=false,tag:= "",pkgPath:= "",byteOffset:=40 }]=true:=qM
theorem S6:prog.cellsOf 164=4:=qM
theorem S8:prog.bytesOf 164=64:=qM
theorem S2:prog.underlying 39=some (.struct #[{ name:= "Blocks",type:=37,offset:=0,embedded:=false,tag:= "",pkgPath:= "",byteOffset:=0 }]):=qM
theorem S5:oneCellFields prog #[{ name:= "Blocks",type:=37,offset:=0,embedded:=false,tag:= "",pkgPath:= "",byteOffset:=0 }]=true:=qM
theorem S7:prog.cellsOf 39=1:=qM
theorem S1:prog.underlying 32=some (.slice 3):=qM
theorem S0:prog.underlying 162=some (.slice 263):=qM
theorem S3:prog.underlying 37=some (.slice 164):=qM
set_option maxRecDepth 100000 in
theorem Io {H:Type} {enc:TypeId×Value->H} {w:World} {r:Reach} {b0:Nat} {v:Value} {d:DataW H} {p:List MemPlace} (hv:Value.okWide prog w r b0 39 v) (h:DataW.Trod enc prog w 0 (λ_=>true) true 39 v d p)
  (hw:∀ m∈d.weights prog 39,m<=reachBytes):∃ x:YU,Big x/\RV (g0 w) w v (Zc x):=by
 refine Rj (P:=prog) (w:=w) (tp:=(39:TypeId)) (v:=v) (d:=d) (p:=p) (r:=r) (q0:=b0) (enc:=enc) MA Uy (by rw [VA];decide) P1 P2 P3 (by rw [P4];decide) rfl rfl rfl rfl S1 S0 SZ S4 S6 (by rw [S8];decide) rfl rfl rfl rfl S3 S2 S5 S7 rfl ?_ ?_ ?_
 .assumption
 .assumption
 .assumption
theorem Ew:ownKnob prog.godebug=none:=qM
theorem lA:laidOutB prog=true:=qM
theorem AU:prog.underlying 4=some .bool:=qM
end Go.Proofs.YtdnebaieamppbaaGreatDoor
end
