import Derived.Test.YtdnebaieamppbaaGreatDoorE34
set_option linter.unusedSimpArgs false
set_option linter.unusedVariables false
set_option maxRecDepth 100000
set_option maxHeartbeats 4000000

section
namespace Go.Proofs.YtdnebaieamppbaaGreatDoor
open Go Go.Hm Go.Proofs Tryz
abbrev YC:Zh:=wP<|.l 14 []<|.done
theorem fL:∀ {xs:List Int} {i:Nat} {v:Int},i<xs.length->(xs.set i v).take (i+1)=xs.take i++[v]
 | x::xs,0,v,_=>by simp
 | x::xs,i+1,v,h=>by simp [fL (xs:=xs) (i:=i) (v:=v) gL]
theorem mW {A G G2:Prop} (k:G2) (x:A) (h:A->Zx G2->G:=by
 intro fx kk;refine qG ?_
 repeat ((first|refine Ze (id:=10) YC mixed ?_);refine qZ ?_;refine qG ?_)
 exact kk.h):G:=h x ⟨k⟩
theorem MJ (gl) (H:Nm->Option AO) (F:Nat) (p:Z0) (W:Z5) (hw:Zy p W) (hO:Z4 H F p W) :
  Zj prog gl 50 DM [.pt Mn 0] H (λr y H'=>y=.agg ((On W).own r)/\qBf H' r (On W)) noE:=by
 have hg8:=hw.Zg.1;obtain⟨a0,h00,hb0⟩:=hw.a0;have hl0:=(gS h00).1;refine Zj.Zl func50 [.cell 2 34] ntmps50 (λ_=>qN) λC w g root hroot=>?_;have hr0:DM root=false:=hroot root (Nm.Z6 _);refine mW ?_<|Zk;refine qX (λn st=>∃ (i:Nat) (xs:List Int),n=8 - i/\i<=8/\xs.length=8/\xs.take i=yd (W.globals.take i)/\st.tm 0=.pt Mn 0/\st.tm 2=.pt (.s 2) 0/\st.hp (.s 2)=some (.row 4 [[.hs (.c (.s 2) 0 0) 1 0 0,iv 0,iv 0,.hs (.c (.s 2) 0 3) 1 0 0]])/\st.tm 3=.hs (.s 3) 1 0 8/\st.hp (.s 3)=some (.row 1 (qT xs))/\st.tm 9=iv 8/\st.tm 10=iv i/\Z4 st.hp F p W) 8 ?_ ?_
 .exact⟨0,List.replicate 8 0,qA,qA,qB,by simp [yd],by simp [hO.top],qB,qB,qB,zd,qB,qB,(have om:=hO;Z4.re om)⟩
 clear hO;rintro n st - - ⟨i,xs,rfl,hi,hxl,hxs,t0,t2,hp2,t3,hp3,t9,t10,hO⟩;have hT:=hO.top;have hE:=hO.env 0 a0 h00;simp only [uU] at hT;simp only [yU] at hE;obtain⟨ms,hms,hmo⟩:=hO.nms 0 hl0;have hmo':qAa ms (W.vars none):=by simpa [Z5.nms,Z5.vars] using hmo
 by_cases hil:i<8
 .obtain⟨s,hs⟩:∃ s,W.globals[i]?=some s:=⟨_,gE qA⟩;have hx7:0<=(i:Int)/\(i:Int)<=7:=qA;have hlk:=hmo'.get' hx7;have hgs:W.get none (i:Int)=s:=by simp [Z5.get,Z5.vars,hs]
  rw [hgs] at hlk
  have htk:yd (W.globals.take (i+1))=yd (W.globals.take i)++[match s with|some v=>Hm.shown v|none=>-9]:=by
   rw [uQ,hs]
   cases s <;> simp [yd]
  have hi8:(i:Int)<8:=qA
  cases s with
  | none =>
   refine mW ?_<|qU t0 t2 t3 hp3 t9 t10 hi8 hil hxl hT hE hms<|hlk;exact⟨8 - (i+1),qA,i+1,xs.set i (-9),rfl,qA,oM,by rw [htk,<- hxs,fL qA],un,yt,zF,aY,jv,eH,by simp [t10];exact Zv qA qA,(have om:=hO;Z4.re om)⟩
  | some v =>
   have hsh:=uN gl v;obtain⟨v1,v2⟩:=v;have fx:=qU t0 t2 t3 hp3 t9 t10 hi8 hil hxl hT hE hms<|hlk;have c1:=hsh;refine mW ?_<|fx;clear fx c1;exact⟨8 - (i+1),qA,i+1,xs.set i (Hm.shown (v1,v2)),rfl,qA,oM,by rw [htk,<- hxs,fL qA],un,yt,zF,aY,jv,eH,by simp [t10];exact Zv qA qA,(have om:=hO;Z4.re om)⟩
 .have hge:i=8:=qA;subst hge
  have hxe:xs=yd W.globals:=by
   rw [b9 qA,b9 qA] at hxs;exact hxs
  have hU:=hO.out;have hsl:(yd W.globals).length=8:=by rw [<- hxe];exact hxl
  have h88:¬ (8:Int)<8:=qA;refine Cl (.c Mn 0 4) (.s 1) (.inl rfl) (.inl rfl) ?_;refine mW ?_<|aJ t0 t2 hp2 t3 hp3 t9 t10 h88 hT<|hU;refine qD [(.s 2,root)] (.one rfl) (by simp [t2];rfl) ⟨by simp [On,hsl],⟨by simp [On,hU,hr0],by simp [On,hp3,hxe,hr0]⟩⟩
theorem kf (gl) (p:Z0) (f:Int) (hs:Sml p):qb prog gl 18 [pav p,iv f] (λr y H'=>y=.agg ((Ay p f).own r)/\qBf H' r (Ay p f)):=by
 refine qb.Zl func18 [.cell 4 34] ntmps18 λC w g root=>?_
 cases hv0:jF p
 .have hv:jT p f=false:=lZ;have hG:Ay p f=⟨[],0,0,[]⟩:=by simp [Ay,hv]
  rw [hG];have fx:= hv0;have c1:=hv0 ▸ qM gl p hs;refine qG ?_;clear fx c1;refine qD [(.s 4,root)] (.one rfl) qE ⟨qB,⟨qB,qB⟩⟩
 cases hv:jT p f
 .have hf:(decide (0<=f)&&decide (f<=150))=false:=bz;have hG:Ay p f=⟨[],0,0,[]⟩:=by simp [Ay,hv]
  rw [hG];have fx:=aI hv0<|hf;have c1:=hv0 ▸ qM gl p hs;have c2:=hf ▸ yl gl f;refine qG ?_;clear fx c1 c2;refine qD [(.s 4,root)] (.one rfl) qE ⟨qB,⟨qB,qB⟩⟩
 .obtain⟨hpo,n,rfl,hn⟩:=jl hv;have hP:=Zm.of hs hpo;have hf:(decide (0<=(n:Int))&&decide ((n:Int)<=150))=true:=bz;have hm:=lD hP.sh hn;have hG:Ay p n=On (yI p n):=by simp [Ay,hv]
  rw [hG];have fx:=aI hv0<|hf;have c1:=hv0 ▸ qM gl p hs;have c2:=hf ▸ yl gl n;refine qG ?_;clear fx c1 c2;intro K hK;have fx:=Zk;refine eZ (λk i j he=>cO) (hF:=bj gl _ p n hP hn cN) (h:=?_);rintro y H1 ⟨rfl,hO1⟩;clear fx;have hT1:=hO1.top;simp only [uU] at hT1;refine qC ?_<| hT1;have fx:=hT1;refine yP (.c (.s 17) 0 0) (.s 1) (.inl rfl) (.inl rfl) ?_;refine yP (.c (.s 17) 0 3) (.s 3) (.inl rfl) (.inl rfl) ?_;refine eZ (λk i j he=>cO) (hF:=MJ gl _ _ p (yI p n) hm.ok (Z4.sub (p:=p) (F:=235) (w:=yI p n) (have om:=hO1;Z4.re om))) (h:=?_);rintro y H2 ⟨rfl,hR2⟩;clear fx;have r1:=hR2.out;have r2:=hR2.gl;refine qC ?_<|aI r1<|r2;refine qD [(.s 4,root)] (.one rfl) qE ⟨qB,⟨eN,eI⟩⟩
end Go.Proofs.YtdnebaieamppbaaGreatDoor
end
