import Derived.Test.YtjgpejikjhojcaaGreatDoorT40
set_option linter.unusedSimpArgs false
set_option linter.unusedVariables false
set_option maxRecDepth 100000
set_option maxHeartbeats 4000000

section

end
section

end
section
namespace Go.Proofs.YtjgpejikjhojcaaGreatDoor
open Go Go.Hm Go.Proofs Tryz
attribute [local simp] uo iF
theorem Tj (gl) (code:List Int) (hc:code.length<=1048576):qM prog gl 23 [tR code] (λr z H'=>z=.pt r 0/\H' r=some (jA (code.take 2000) 0)):=by
 refine qM.qa func23 [.tmp 2] ntmps23 λC w g root=>?_;by_cases hl:2000<code.length
 .have hl1:(2000:Int)<code.length:=qA;have hl2:(2000:Int)<=code.length:=qA
  all_goals have fx:=aI hl1<|hl2
  repeat' (first|refine zl ?_|refine λ(K:St->Prop) hK=>?_)
  all_goals try clear fx
  refine qG [(.s 2,root)] (.one rfl) qH ⟨qB,qB⟩
 .have ht:code.take 2000=code:=yU qA;have hl1:¬ (2000:Int)<code.length:=qA;rw [ht]
  all_goals have fx:= hl1
  repeat' (first|refine zl ?_|refine λ(K:St->Prop) hK=>?_)
  all_goals try clear fx
  refine qG [(.s 2,root)] (.one rfl) qH ⟨qB,qB⟩
structure A3 (code:List Int):Prop where
 len:code.length<=1048576
 xw:∀ v∈code,0<=v/\v<=255
theorem A3.bytes {code:List Int} (h:A3 code):aA (code.take 2000):=⟨qn,λv hv=>h.xw v (gJ hv)⟩
end Go.Proofs.YtjgpejikjhojcaaGreatDoor
end
section
namespace Go.Proofs.YtjgpejikjhojcaaGreatDoor
open Go Go.Hm Go.Proofs Tryz
theorem Pp {v:q9} {i:Nat} {c a:UInt8} (h:v[i]?=some c):(v.take (i+1)).count a=(v.take i).count a+if c=a then 1 else 0:=by
 rw [vM,h,List.count_append];by_cases e:c=a
 .simp [e]
 .simp [e]
theorem Tk (gl) (v:q9) (hv:v.length<=1048577):qM prog gl 15 [tx v] (λ_ y _=>y=iv (v.count 10)):=by
 refine qM.qa func15 [.tmp 2] ntmps15 λC w g root=>?_;refine qI ?_<|qS;refine zU (λn st=>∃ i:Nat,n=v.length - i/\i<=v.length/\st.tm 0=tx v/\st.tm 4=iv i/\st.tm 3=iv ((v.take i).count 10)) v.length ⟨0,qB⟩ ?_;rintro n st - - ⟨i,rfl,hi,h0,h4,h3⟩;by_cases hil:i<v.length
 .obtain⟨c,hc⟩:=gX hil;obtain⟨_,hcE⟩:=gS hc;have hct:=Pp (a:=10) hc;have hcl:(v.take i).count 10<=i:=ka List.count_le_length (by rw [mE];omega);generalize (v.take i).count 10=k at h3 hct hcl;have hw1:IntKind.i64.wrap ((i:Int)+1)=(i:Int)+1:=qi qA qA;have hw2:IntKind.i64.wrap ((k:Int)+1)=(k:Int)+1:=qi qA qA;by_cases he:c=10
  .subst he;refine qI ?_<|jJ h0 h4 h3 hil hc hcE hw1<|hw2;exact⟨v.length - (i+1),qA,i+1,rfl,qA,ji,rA,by simp [hct,hw2]⟩
  .have hn:¬ c.toNat=10:=λe=>he (UInt8.toNat_inj.1 e);have hb:((c.toNat:Int)==10)=false:=qn;refine qI ?_<|vA h0 h4 h3 hil hc hcE hw1 hw2 hn<|hb;exact⟨v.length - (i+1),qA,i+1,rfl,qA,ji,rA,by simp [hct,he,h3]⟩
 .have hge:i=v.length:=qA;rw [hge,wD] at h3;refine qI ?_<|zC h0 h4 h3<|hil;refine qG [] .nil Az qB
end Go.Proofs.YtjgpejikjhojcaaGreatDoor
end
section

end
section

end
section
namespace Go.Proofs.YtjgpejikjhojcaaGreatDoor
open Go Go.Hm Go.Proofs Tryz
def ii (p:qC) (i:Nat):Nat:=((p.take i).map λk=>k.body.length).sum
theorem He {p:qC} {i:Nat} {k:qT} (hk:p[i]?=some k):ii p (i+1)=ii p i+k.body.length:=by
 unfold ii;rw [vM,hk];simp
theorem Hd {p:qC} {c:Nat} (h:∀ k∈p,k.body.length<=c):∀ i,i<=p.length->ii p i<=c * i
 | 0,_=>by simp [ii]
 | i+1,hi=>by
  obtain⟨k,hk⟩:∃ k,p[i]?=some k:=⟨_,gE qA⟩;have h1:=Hd h i qA;have h2:=h k (gM hk);rw [He hk,Nat.mul_succ];omega
theorem Iw {p:qC}:∀ b,b<=p.length->(wI p b).length+(if b=0 then 0 else 1)=b+ii p b
 | 0,_=>by simp [BS,ii]
 | b+1,hb=>by
  obtain⟨k,hk⟩:∃ k,p[b]?=some k:=⟨_,gE qA⟩;have h1:=Iw (p:=p) b qA;rw [EV hk,He hk,kC];by_cases e:b=0
  .subst e;simp [gQ,ii,BS];omega
  .simp only [gQ,if_neg e,if_neg (show ¬ b+1=0 by omega),kC,List.length_map,b8] at h1 ⊢;omega
theorem Qf {p:qC} (h1:1<=p.length):(gi p).length=p.length - 1+ii p p.length:=by
 have:=Iw (p:=p) p.length (qX _);rw [EU,if_neg (show ¬ p.length=0 by omega)] at this;omega
theorem Qc {p:qC} (h:wC p):(o9 p).length<=20000:=by
 have h1:=h.len;have hn:=Qf h1.1;have hbd:=Hd h.body p.length (qX _);have hl:=h.Bi;obtain⟨h2,_⟩:=BR h.NG p.length (qX _);rw [EU] at h2;unfold o9;refine ka (Ee h2) ?_;omega
theorem Ya (gl) (H:Nm->Option AO) (bs:List Int) (pos:Nat) (hb:aA bs) (hpos:pos<=500000) (hH:H (.u 1 0 0)=some (jA bs pos)) (hV:H (.u 2 0 0)=none) (hV4:H (.u 4 0 0)=none) (hV5:H (.u 5 0 0)=none) :
  qV prog gl 24 (Nm.under (.u 1 0 0)) [.pt (.u 1 0 0) 0] H (nj bs (λv:q9=>tx v) (λv pos'=>v.length<=20001/\pos'<=pos+1010)) qy:=by
 refine qV.qa func24 [.tmp 2] ntmps24 (λ_=>yq rfl) λC w g root hroot=>?_;have hr0:=hroot root (Nm.uH _);refine qI ?_<|qS
 first|show q8 _ _ _ _ _|intro K hK
 refine nQ (bs:=bs) (hs:=zb) (ha:=uK) (hF:=RR _ _ bs pos hb qA zb qB qB qB) (h:=?_);rintro z H1 ⟨p,q,rfl,⟨ho1,ho2,ho3⟩,⟨hg,hq⟩,hU⟩;refine⟨q,hU,?_⟩;have hfo:=Qs gl p hg.NG;have hfl:=Qc hg;generalize o9 p=v at hfo hfl;have fx:= ho1;have c1:=hfo;refine qQ ?_;clear fx c1;intro K hK;refine ua (λst=>st.hp (.u 1 0 0)=some (jA bs q)/\st.tm 0=.pt (.u 1 0 0) 0/\st.tm 3=tx v/\st.tm 7=.pt (.u 1 0 0) 0) ⟨qB,qB,qB,qB⟩ ?_;clear ho1 ho2 ho3 hU;rintro st ⟨hU,h0,h3,h7⟩;refine vk (hs:=vC) (ha:=by first|(simp [h7];done)|(simp [h7];rfl)) (hF:=bu _ _ bs q 3 hb qA qA vC) (h:=?_);rintro x px ⟨hx,rfl⟩;rcases dJ x with rfl|hx0
 .skip
  refine qI ?_<|aI h0<|h3;intro K hK;refine vk (hs:=qB) (ha:=by first|(simp [h0,h3];done)|(simp [h0,h3];rfl)) (hF:=Tg _ _ bs (q+1) v qA hb qA qB qB) (h:=?_);rintro u pu ⟨hul,hpu⟩;refine qI ?_<|aI h0<|h3;exact qG [] .nil qH ⟨u,pu,qB,⟨qA,qA⟩,qB⟩
 .have hxn:((x:Int)==0)=false:=wW;have hxn2:¬ x=0:=qA;refine qI ?_<|zC h0 h3 hxn<|hxn2;exact qG [] .nil qH ⟨v,q+1,qB,⟨qA,qA⟩,qB⟩
end Go.Proofs.YtjgpejikjhojcaaGreatDoor
end
