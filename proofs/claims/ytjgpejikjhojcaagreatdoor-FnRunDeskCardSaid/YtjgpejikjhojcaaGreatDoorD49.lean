import Derived.Test.YtjgpejikjhojcaaGreatDoorD48
import Derived.Test.YtjgpejikjhojcaaGreatDoorD47
import Derived.Test.YtjgpejikjhojcaaGreatDoorChecked
set_option linter.all false
set_option maxRecDepth 100000
set_option maxHeartbeats 4000000
open Option renaming some->Z
open Bool renaming true->B,false->M
open List renaming length->O

section
namespace Go.Proofs.YtjgpejikjhojcaaGreatDoor
open Go Go.Hm Go.Proofs Tryz
attribute [local simp] kM lh
def DS:List qZ:=[[111,119,110,101,114,32,49,32,48],[111,119,110,101,114,32,50,32,49],[111,119,110,101,114,32,48,32,48],[111,119,110,101,114,32,57,32,57],[111,119,110,101,114,32,49,32,48,49],[98,108,111,99,107,115],[101,110,100],[115,116,101,112,115],[99,101,108,108,115],[102,114,97,109,101,115],[104,101,108,112],[]]
def QY(gl)(code:List Int)(hc:AK code):qL prog gl 17 [sq code] (λr z H'=>∃(v:qZ)(ls:List qZ),(z=.zT [tx v,.hs r 1 0 (O ls)]/\H' r=Z (.row 1 (uJ ls)))/\O v<=20001/\O ls<=6/\∀l∈ls,O l<=20):=by
 have hb:=hc.bytes;refine qL.q9 func17 [.tmp 2,.tmp 3] ntmps17 λC w g root=>?_;refine qH ?_<|qW;intro K hK;refine Iw (ha:=qB) (hF:=W6 _ code hc.len) (h:=?_);rintro z H1 ⟨rfl,hR⟩;refine qH ?_<| hR;intro K hK;refine kU (.s 4) (.u 1 0 0) (.inl rfl) (.inr rfl) ?_;refine uU (bs:=code.take 2000) (hs:=by simp[hR]) (ha:=uq) (hF:=qBj _ _ (code.take 2000) 0 hb qA (by simp[hR]) qB qB qB) (h:=?_);rintro v pv ⟨hv,hpv⟩;refine qH ?_<|qW;intro K hK;refine bj (b7 _) 14 [4,6,2,0] (bs:=code.take 2000) (pos:=pv) hb qA (hV:=qB) (h0:=qB) (h1:=qB) (hH:=qB) (hL:=y3) (h:=?_);intro f hf
 obtain⟨k,rfl,hk⟩:∃k:Nat,f=k/\k<=6:=by
  simp only[vV,si,or_false]at hf;exact⟨f.toNat,qA,qA⟩
 refine qH ?_<|qW;refine zK (λn st=>∃(i pos:Nat)(ls:List qZ),n=i/\i+O ls<=6/\pos<=2000+O ls/\(∀l∈ls,O l<=20)/\st.tm 7=iv i/\st.tm 5=tx v/\st.tm 4=.pt (.u 1 0 0) 0/\st.hp (.u 1 0 0)=Z (jT (code.take 2000) pos)/\st.tm 6=.hs (.s 6) 1 0 (O ls)/\st.hp (.s 6)=Z (.row 1 (uJ ls))) k ?_ ?_
 .exact⟨k,pv+1,[],rfl,by simpa using hk,qA,qB,qB,qB,qB,qB,qB,qB⟩
 rintro n st - - ⟨i,pos,ls,rfl,h6,hps,hls,t7,t5,t4,hU,t6,hp6⟩;by_cases hi:0<n
 .have hi':(0:Int)<n:=qA;have hw:IntKind.i64.wrap ((n:Int)-1)=((n-1:Nat):Int):=iB;refine qH ?_<|jA t7 t5 t4 hU t6 hp6 hi<|hi'
  first|show qe _ _ _ _ _|intro K hK
  refine Eh (Ds _) 22 DS (bs:=code.take 2000) (pos:=pos) hb qA (hx:=qf) (hV:=qB) (h0:=tO) (h1:=by simp[DS]) (hH:=vH) (hL:=by simp[uJ,DS]) (h:=?_);intro u hu
  have hul:O u<=20:=by
   have:∀w∈DS,O w<=20:=qf;exact this u hu
  have hl6:O ls<=6:=qA;refine qH ?_<|zy t7 t5 t4 t6 hp6 hw<|hl6;exact⟨n-1,qA,n-1,pos+1,ls++[u],rfl,qp,qp,λl hl=>(yI.1 hl).elim (hls l) (λh=>by rw[vG.1 h];exact hul),qB,ee,tO,qB,qB,by simp[hp6,uJ]⟩
 .have hi':¬(0:Int)<n:=qA;refine qH ?_<|zx t7 t5 t6 hp6 hi<|hi';refine qE [(.s 3,root)] (.one rfl) qD ⟨v,ls,⟨qB,dU⟩,hv,qA,hls⟩
def QX(gl)(code:List Int)(hc:AK code):qL prog gl 17 [sq code] (λ_ z _=>∃(v:qZ)(ls:List qZ),z=.zT [tx v,vD ls]/\O v<=20001/\O ls<=6/\∀l∈ls,O l<=20):=
 (QY gl code hc).settle λr y H'⟨v,ls,⟨h1,h2⟩,h3⟩=>⟨.zT [tx v,vD ls],by
   rw[h1];refine .zT _ _ rfl λj a a' e1 e2=>?_
   match j,e1,e2 with
   |0,e1,e2=>
    obtain rfl:=sI e1;obtain rfl:=sI e2;exact .refl _
   |1,e1,e2=>
    obtain rfl:=sI e1;obtain rfl:=sI e2;exact gu h2 qB Iy
   |j+2,e1,e2=>simp at e1,v,ls,rfl,h3⟩
def Q0(gl:Nat->Option (List AV))(hgl:gl 4=Z iJ){m:Int}(hgm:gl 3=Z [.sc (.int .i64 m)])(hgs:gl 1=Z ((eP ye).map AV.sc))(hge:gl 0=Z ((eP aN).map AV.sc))(hgp:gl 2=Z (iT.map .sc))(code:List Int)(hcode:∀v∈code,0<=v/\v<=255)(hbig:O code<=1152921504606846976):
  qL prog gl 5 [sq code] (λ_ z _=>z=bv B):=by
 refine qL.q9 func5 [.tmp 2] ntmps5 λC w g root=>?_;by_cases hlen:1048576<O code
 .have hl1:(1048576:Int)<O code:=qA;refine qH ?_<| hl1;refine qE [] .nil qD qB
 have hl1:¬(1048576:Int)<O code:=qA;have hc:AK code:=⟨qA,hcode⟩;refine qH ?_<| hl1;intro K hK;refine Iw (ha:=qB) (hF:=QX gl code hc) (h:=?_);rintro z H1 ⟨s,ls,rfl,hsl,h6,hls⟩;have h20:O ls<=20:=qA;have h20':¬(20:Int)<O ls:=qA;have hls':∀l∈ls,O l<=1048577:=λl hl=>by have:=hls l hl;omega
 have hsa:=qBp gl s ls qA hls';have hia:=Ln gl hgl hgm hgs hge hgp s ls qA hls';have hik:=λk=>Ln gl hgl hgm hgs hge hgp s (ls.take k) qA (λl hl=>hls' l (mH hl));have hpre:=λk=>Sk (s:=s) (ls:=ls) (k:=k) h20
 have hcnt:=Sj (s:=s) (ls:=ls) h20 λp hp=>by
  have hpo:j2 p=B:=(CM hp).2.1;exact(mq (zi.of (EC hpo) hpo).sh (f:=150) qA).ok.eg
 have hvl:O (bR s ls)<=1048577:=by
  cases hp:vo s with
  |none=>
   rw[GQ h20 hp];have:=BC (A:=λ_=>gI) (λ_=>qf) ls;omega
  |some q=>
   have hpo:j2 q=B:=(CM hp).2.1;rw[GS h20 hp];have:=BC (A:=aH q) (λ_=>C2 (EC hpo) hpo) ls;omega
 generalize bR s ls=v at hsa hia hpre hcnt hvl;have hnl:=W7 gl v hvl;rw[hcnt]at hnl;have fx:=aI h20'<|@zA;have c1:=hia;have c2:=hsa;refine qK ?_;clear fx c1 c2;refine zK (λn st=>∃k:Nat,n=O ls+1-k/\k<=O ls+1/\st.tm 6=iv k/\st.tm 3=tx s/\st.tm 4=vD ls/\st.tm 5=tx v) (O ls+1) ⟨0,qB⟩ ?_;rintro n st - - ⟨k,rfl,hk,t6,t3,t4,t5⟩;by_cases jN:k<=O ls
 .have hkl':(k:Int)<=O ls:=qA;obtain⟨e,he⟩:∃e,bR s (ls.take k)=e:=⟨_,rfl⟩;have hk1:=hik k;have hk2:=hpre k;rw[he]at hk1 hk2;have hle:=hk2.length_le;have htk:v.take (O e)=e:=(List.prefix_iff_eq_take.1 hk2).symm;have hgt:¬(O v:Int)<O e:=qA;have hle':(O e:Int)<=O v:=qA;have fx:=jU t6 t3 t4 t5 jN hkl' hle hle' htk hgt<|@zA;have c1:=hk1;refine qK ?_;clear fx c1;exact⟨O ls+1-(k+1),qA,k+1,rfl,qA,zr,cg,tO,ee⟩
 .have hkl':¬(k:Int)<=O ls:=qA;have fx:=zx t6 t3 t4 t5 hkl'<|@zA;have c1:=hnl;refine qK ?_;clear fx c1;refine qE [] .nil qD qB
end Go.Proofs.YtjgpejikjhojcaaGreatDoor
end
section
namespace Go.Proofs.YtjgpejikjhojcaaGreatDoor
open Go Go.Hm Go.Proofs Tryz
def Xd:laidOutB prog=B:=qc
def Xg:mapsRowed prog=B:=qc
def Xi:(prog.stops==[])=B:=qc
def Xc:(prog.stopKnobs==[])=B:=qc
def Xb:prog.plainKeys=B:=qc
def Xa:prog.stopsHeard=B:=qc
def Xh:prog.mayEnter=B:=qc
def Xe:prog.liftsFinal=M:=qc
def Xf:(prog.make==Z .cut)=B:=qc
def Xu:JY prog:=⟨Xd,Xg,Xi,Xc,Xb,Xa,Xh,Xe,Xf⟩
end Go.Proofs.YtjgpejikjhojcaaGreatDoor
end
