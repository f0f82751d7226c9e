import Derived.Test.YtjgpejikjhojcaaGreatDoorD46
set_option linter.all false
set_option maxRecDepth 100000
set_option maxHeartbeats 4000000
open Option renaming some->Z,none->Y
open Bool renaming false->M
open List renaming length->O

section

end
section

end
section
namespace Go.Proofs.YtjgpejikjhojcaaGreatDoor
open Go Go.Hm Go.Proofs Tryz
attribute [local simp] kM lh
def W6(gl)(code:List Int)(hc:O code<=1048576):qL prog gl 23 [sq code] (λr z H'=>z=.pt r 0/\H' r=Z (jT (code.take 2000) 0)):=by
 refine qL.q9 func23 [.tmp 2] ntmps23 λC w g root=>?_;by_cases hl:2000<O code
 .have hl1:(2000:Int)<O code:=qA;have hl2:(2000:Int)<=O code:=qA
  all_goals have fx:=aI hl1<|hl2
  repeat'(first|refine zf ?_|refine λ(K:St->Prop)hK=>?_)
  all_goals try clear fx
  refine qE [(.s 2,root)] (.one rfl) qD ⟨qB,qB⟩
 .have ht:code.take 2000=code:=jg qA;have hl1:¬(2000:Int)<O code:=qA;rw[ht]
  all_goals have fx:=hl1
  repeat'(first|refine zf ?_|refine λ(K:St->Prop)hK=>?_)
  all_goals try clear fx
  refine qE [(.s 2,root)] (.one rfl) qD ⟨qB,qB⟩
structure AK(code:List Int):Prop where
 len:O code<=1048576
 Bk:∀v∈code,0<=v/\v<=255
def AK.bytes{code:List Int}(h:AK code):ab (code.take 2000):=⟨qp,λv hv=>h.Bk v (mH hv)⟩
end Go.Proofs.YtjgpejikjhojcaaGreatDoor
end
section
namespace Go.Proofs.YtjgpejikjhojcaaGreatDoor
open Go Go.Hm Go.Proofs Tryz
def Sb{v:qZ}{i:Nat}{c a:UInt8}(h:v[i]?=Z c):(v.take (i+1)).count a=(v.take i).count a+if c=a then 1 else 0:=by
 rw[vd,h,List.count_append];by_cases e:c=a
 .simp [e]
 .simp [e]
def W7(gl)(v:qZ)(hv:O v<=1048577):qL prog gl 15 [tx v] (λ_ y _=>y=iv (v.count 10)):=by
 refine qL.q9 func15 [.tmp 2] ntmps15 λC w g root=>?_;refine qH ?_<|qW;refine zK (λn st=>∃i:Nat,n=O v-i/\i<=O v/\st.tm 0=tx v/\st.tm 4=iv i/\st.tm 3=iv ((v.take i).count 10)) (O v) ⟨0,qB⟩ ?_;rintro n st - - ⟨i,rfl,hi,h0,h4,h3⟩;by_cases hil:i<O v
 .obtain⟨c,hc⟩:=gX hil;obtain⟨_,hcE⟩:=gS hc;have hct:=Sb (a:=10) hc;have hcl:(v.take i).count 10<=i:=uV List.count_le_length (by rw[ge];omega);generalize (v.take i).count 10=k at h3 hct hcl;have hw1:IntKind.i64.wrap ((i:Int)+1)=(i:Int)+1:=qk qA qA;have hw2:IntKind.i64.wrap ((k:Int)+1)=(k:Int)+1:=qk qA qA;by_cases he:c=10
  .subst he;refine qH ?_<|jA h0 h4 h3 hil hc hcE hw1<|hw2;exact⟨O v-(i+1),qA,i+1,rfl,qA,yL,by simp[hw1],by simp[hct,hw2]⟩
  .have hn:¬c.toNat=10:=λe=>he (UInt8.toNat_inj.1 e);have hb:((c.toNat:Int)==10)=M:=qp;refine qH ?_<|ya h0 h4 h3 hil hc hcE hw1 hw2 hn<|hb;exact⟨O v-(i+1),qA,i+1,rfl,qA,yL,by simp[hw1],by simp[hct,he,h3]⟩
 .have hge:i=O v:=qA;rw[hge,kC]at h3;refine qH ?_<|qz h0 h4 h3<|hil;refine qE [] .nil Cz qB
end Go.Proofs.YtjgpejikjhojcaaGreatDoor
end
section

end
section

end
section
namespace Go.Proofs.YtjgpejikjhojcaaGreatDoor
open Go Go.Hm Go.Proofs Tryz
variable{p:qC}
def mM(p:qC)(i:Nat):Nat:=((p.take i).map λk=>O k.body).sum
def Js{i:Nat}{k:qY}(hk:p[i]?=Z k):mM p (i+1)=mM p i+O k.body:=by
 unfold mM;rw[vd,hk];simp
def Jr{p:qC}{c:Nat}(h:∀k∈p,O k.body<=c):∀i,i<=O p->mM p i<=c*i
 |0,_=>by simp[mM]
 |i+1,hi=>by
  obtain⟨k,hk⟩:∃k,p[i]?=Z k:=⟨_,gE qA⟩;have h1:=Jr h i qA;have h2:=h k (gM hk);rw[Js hk,Nat.mul_succ];omega
def LY{p:qC}:∀b,b<=O p->O (wo p b)+(if b=0 then 0 else 1)=b+mM p b
 |0,_=>by simp[D0,mM]
 |b+1,hb=>by
  obtain⟨k,hk⟩:∃k,p[b]?=Z k:=⟨_,gE qA⟩;have h1:=LY (p:=p) b qA;rw[G4 hk,Js hk,u7];by_cases e:b=0
  .subst e;simp[lE,mM,D0];omega
  .simp only[lE,if_neg e,if_neg (show ¬b+1=0 by omega),u7,rA,aG]at h1 ⊢;omega
def T0(h1:1<=O p):O (lN p)=O p-1+mM p (O p):=by
 have:=LY (p:=p) (O p) (qb _);rw[G3,if_neg (show ¬O p=0 by omega)]at this;omega
def TX(h:wg p):O (rl p)<=20000:=by
 have h1:=h.len;have hn:=T0 h1.1;have hbd:=Jr h.body (O p) (qb _);have hl:=h.Dk;obtain⟨h2,_⟩:=DZ h.Pd (O p) (qb _);rw[G3]at h2;unfold rl;refine uV (Gs h2) ?_;omega
def qBj(gl)(H:Nm->Option AO)(bs:List Int)(pos:Nat)(hb:ab bs)(hpos:pos<=500000)(hH:H (.u 1 0 0)=Z (jT bs pos))(hV:H (.u 2 0 0)=Y)(hV4:H (.u 4 0 0)=Y)(hV5:H (.u 5 0 0)=Y):
  qX prog gl 24 (Nm.under (.u 1 0 0)) [.pt (.u 1 0 0) 0] H (pi bs (λv:qZ=>tx v) (λv pos'=>O v<=20001/\pos'<=pos+1010)) qw:=by
 refine qX.q9 func24 [.tmp 2] ntmps24 (λ_=>y8 rfl) λC w g root hroot=>?_;have hr0:=hroot root (Nm.uQ _);refine qH ?_<|qW
 first|show qe _ _ _ _ _|intro K hK
 refine pU (bs:=bs) (hs:=zo) (ha:=uq) (hF:=UN _ _ bs pos hb qA zo qB qB qB) (h:=?_);rintro z H1 ⟨p,q,rfl,⟨ho1,ho2,ho3⟩,⟨hg,hq⟩,hU⟩;refine⟨q,hU,?_⟩;have hfo:=Tg gl p hg.Pd;have hfl:=TX hg;generalize rl p=v at hfo hfl;have fx:=ho1;have c1:=hfo;refine qK ?_;clear fx c1;intro K hK;refine uM (λst=>st.hp (.u 1 0 0)=Z (jT bs q)/\st.tm 0=.pt (.u 1 0 0) 0/\st.tm 3=tx v/\st.tm 7=.pt (.u 1 0 0) 0) ⟨qB,qB,qB,qB⟩ ?_;clear ho1 ho2 ho3 hU;rintro st ⟨hU,h0,h3,h7⟩;refine uU (hs:=vH) (ha:=by first|(simp[h7];done)|(simp[h7];rfl)) (hF:=dz _ _ bs q 3 hb qA qA vH) (h:=?_);rintro x px ⟨hx,rfl⟩;rcases fN x with rfl|hx0
 .skip
  refine qH ?_<|aI h0<|h3;intro K hK;refine uU (hs:=qB) (ha:=by first|(simp[h0,h3];done)|(simp[h0,h3];rfl)) (hF:=W0 _ _ bs (q+1) v qA hb qA qB qB) (h:=?_);rintro u pu ⟨hul,hpu⟩;refine qH ?_<|aI h0<|h3;exact qE [] .nil qD ⟨u,pu,qB,⟨qA,qA⟩,qB⟩
 .have hxn:((x:Int)==0)=M:=kQ;have hxn2:¬x=0:=qA;refine qH ?_<|qz h0 h3 hxn<|hxn2;exact qE [] .nil qD ⟨v,q+1,qB,⟨qA,qA⟩,qB⟩
end Go.Proofs.YtjgpejikjhojcaaGreatDoor
end
