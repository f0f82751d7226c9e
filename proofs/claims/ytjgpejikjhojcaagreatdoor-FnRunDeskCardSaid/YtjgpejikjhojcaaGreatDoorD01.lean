import Derived.WalkKit
import Derived.MapKept
import Derived.Laws.StructEq
import Derived.Laws.CopyRow
set_option linter.all false
set_option maxRecDepth 100000
set_option maxHeartbeats 4000000
open Option renaming some->Z,none->Y
open Bool renaming true->B,false->M
open List renaming length->O

section
namespace Go.Hm
open Go Go.RowKit
variable{P p0 p1 p10 p2 p3 p4 p5 p6 p7 p8 p9:Prop}{i j:Nat}{v:Value}
def qA(h:P:=by omega):=h
def qB(h:P:=by simp):=h
def qD(h:P:=by simp;rfl):=h
def qQ(h:P:=by simp_all):=h
def qc(h:P:=by kernel_rfl):=h
def qf(h:P:=by decide):=h
def qp(h:P:=by simp;omega):=h
def qx(h:P:=by grind):=h
def zG(h:P:=by simp[hT]):=h
def zY(h:P:=by simp[h1]):=h
def zo(h:P:=by simp[hH]):=h
def zr(h:P:=by simp;exact qk (by omega) (by omega)):=h
def jS(h:P:=by simp[h2]):=h
def jV(h:P:=by simp[hp2]):=h
def jh(h:P:=by simp[h5]):=h
def ji(h:P:=by first|(simp[];done)|(simp[];rfl)):=h
def jr(h:P:=by simp[h3]):=h
def yJ(h:P:=by simpa using ht):=h
def yK(h:P:=by and_intros<;>kernel_rfl):=h
def yL(h:P:=by simp[h0]):=h
def y3(h:P:=by simp[qh]):=h
def y4(h:P:=by simp[hno]):=h
def yq(h:P:=by simp[];first|done|rfl|exact(vt _).symm):=h
def vH(h:P:=by simp[hU]):=h
def vO(h:P:=by simp[h4]):=h
def vP(h:P:=by simpa using hf):=h
def vY(h:P:=by simp[hp1]):=h
def vZ(h:P:=by simp[h6]):=h
def vi(h:P:=by cases e):=h
def uC(h:P:=by simp[bf]):=h
def uo(h:P:=by simp[hp3]):=h
def uq(h:P:=by first|(simp;done)|(simp;rfl)):=h
def kD(h:P:=by simp[hp2']):=h
def kP(h:P:=by simp only[yo];omega):=h
def kQ(h:P:=by rw[beq_eq_false_iff_ne];omega):=h
def kR(h:P:=by simp[ho1]):=h
def kX(h:P:=by simp[h28]):=h
def ku(h:P:=by simp[t0]):=h
def kv(h:P:=by cases h):=h
def kw(h:P:=by simp[hp5]):=h
def kx(h:P:=by simp[t2]):=h
def wP(h:P:=by simp[t0,hT]):=h
def wl(h:P:=by simp[ho3 j r hj]):=h
def wm(h:P:=by simp[ho2 j r hj]):=h
def aJ(h:P:=by simp[hp4]):=h
def ag(h:P:=by simp[Nm.under]):=h
def ah(h:P:=by first|(simp[fx];done)|(simp[fx];omega)|omega):=h
def ai(h:P:=by simp[fx];first|done|rfl):=h
def bP(h:P:=by simp[h7]):=h
def bp(h:P:=by simp[h2];rfl):=h
def bq(h:P:=by simp[hH,hH1]):=h
def br(h:P:=by simp[yl]):=h
def cg(h:P:=by simp[t3]):=h
def ci(h:P:=by simp[yY]):=h
def cj(h:P:=by rfl):=h
def dS(h:P:=by simp[hm]):=h
def dT(h:P:=by simp[h10]):=h
def dU(h:P:=by simp[hp6]):=h
def dV(h:P:=by simp[h9]):=h
def dW(h:P:=by simp[hT1]):=h
def dX(h:P:=by simp[hm.1]):=h
def dY(h:P:=by simp[qR.top]):=h
def dZ(h:P:=by simp[hT,zu]):=h
def eb(h:P:=by simp[hF]):=h
def ec(h:P:=by simpa using hen):=h
def ed(h:P:=by simp[hL]):=h
def ee(h:P:=by simp[t5]):=h
def ef(h:P:=by exact(have h:=hO;qF.re h)):=h
def fO(h:P:=by simp[hn,qO.push]):=h
def fP(h:P:=by simp[qR.top,hm0]):=h
def fQ(h:P:=by simp[hf,qO.push]):=h
def fR(h:P:=by simp[qO.push,zm]):=h
def fT(h:P:=by simp[cJ,hk,hq]):=h
def fU(h:P:=by simp;exact Tq hat):=h
def fV(h:P:=by simp[kG]):=h
def gv(h:P:=by simp[h11]):=h
def gx(h:P:=by simp[];rfl):=h
def gy(h:P:=by simp[yd]):=h
def gz(h:P:=by simp[zQ,hk]):=h
def iA(h:P:=by simp[jY]):=h
def iB(h:P:=by rw[qk (by omega) (by omega)];omega):=h
def iC(h:P:=by simp[uJ]):=h
def iD(h:P:=by simp[t8]):=h
def iE(h:P:=by simp[h]):=h
def iF(h:P:=by simp[jk,hk]):=h
def iG(h:P:=by simp[hJ]):=h
def lH(h:P:=by simpa using h2):=h
def lI(h:P:=by simpa using hkd):=h
def lJ(h:P:=by simp[uF]):=h
def lK(h:P:=by simp[jb]):=h
def lL(h:P:=by simp[hq]):=h
def mP(h:P:=by simp[y6]):=h
def mQ(h:P:=by simp[yy]):=h
def mR(h:P:=by simp[t6]):=h
def mS(h:P:=by simp[hH1]):=h
def mT(h:P:=by intro e;simp[e]):=h
def mU(h:P:=by simp[hH2]):=h
def mV(h:P:=by simpa using h):=h
def mW(h:P:=by simp[t4];rfl):=h
def mX(h:P:=by simp only at harg;omega):=h
def mO(h:P:=by simp at hv;omega):=h
def oM(h:P:=by simp[zD]):=h
def oN(h:P:=by simpa[hk,e]using hn):=h
def oO(h:P:=by simp[zm]):=h
def oP(h:P:=by simp[yZ]):=h
def oQ(h:P:=by simp[hp7]):=h
def oR(h:P:=by simp[t9]):=h
def oS(h:P:=by simp[ug]):=h
def oT(h:P:=by rw[Va hc]):=h
def oU(h:P:=by simp[yD,yl]):=h
def oV(h:P:=by repeat(first|(with_reducible exact hO)|refine JG ?_|refine JH (by rfl) ?_|refine JE ?_|refine CP ?_|refine JF ?_|refine JD ?_|exact(have h:=hO;qF.re h))):=h
def oW(h:P:=by simp[hH,hH1,hH2]):=h
def oX(h:P:=by simp[t1]):=h
def oY(h:P:=by simp[h19]):=h
def rI(h:P:=by simp[zd]):=h
def rJ(h:P:=by simpa using he):=h
def rK(h:P:=by simp[hH3]):=h
def rL(h:P:=by grind[uc]):=h
def rM(h:P:=by simp[fF]):=h
def rN(h:P:=by simp[hO.out,hT]):=h
def rO(h:P:=by simp[hO.qI,hT]):=h
def rP(h:P:=by simp[hO.out]):=h
def rQ(h:P:=by simp[hO.jG,hT]):=h
def rR(h:P:=by simp[p8]):=h
def rS(h:P:=by simp[cJ,hk,hn1,hq]):=h
def rT(h:P:=by simp[hO.zt,hT]):=h
def rU(h:P:=by grind[jY]):=h
def rV(h:P:=by simp[h18]):=h
def rW(h:P:=by simp[hl]):=h
def rX(h:P:=by simp[h12]):=h
def su(h:P:=by simp[hO.act i a ha,hT]):=h
def sw(h:P:=by simp[jt,hno]):=h
def sx(h:P:=by simp at hj):=h
def sy(h:P:=by first|(simp;done)|fail):=h
def tA(h:P:=by simp[hO.wH.sc j k hj hk]):=h
def tB(h:P:=by simp[ja]):=h
def tC(h:P:=by simp[z8]):=h
def tD(h:P:=by simp at hv):=h
def tE(h:P:=by simp[hr0]):=h
def tF(h:P:=by simp[qR.stop]):=h
def tG(h:P:=by simp[bf,e7,e8,e2,e5,e6,c7,c8,c2,c5,c6,h9,i9,l7,i7]):=h
def tH(h:P:=by simp;first|done|exact⟨rfl,rfl⟩):=h
def tI(h:P:=by simp[hO.cls i c hc,hT]):=h
def tJ(h:P:=by simp[hO.qI]):=h
def tK(h:P:=by first|(simp[hc1];done)|fail):=h
def tL(h:P:=by simp[bf,e7,e8,e2,e5,e6,c7,c8,c2,c5,c6,h9,i9,h7,i7]):=h
def tM(h:P:=by simpa using hen2):=h
def tN(h:P:=by simp[St.kill]):=h
def tO(h:P:=by simp[t4]):=h
def tP(h:P:=by first|(simp[hc2 j k hj hk];done)|fail):=h
def tQ(h:P:=by grind[maxLen]):=h
def tR(h:P:=by simp;try omega):=h
def tS(h:P:=by simp[h20]):=h
def tT(h:P:=by simpa[kZ,hv0]using hv):=h
def tU(h:P:=by first|(simp[h0];done)|(simp[h0];rfl)):=h
def tV(h:P:=by simp[h15]):=h
def tW(h:P:=by simp[hv]):=h
def tX(h:P:=by simp[y5]):=h
def tY(h:P:=by simp[hl,hT]):=h
def tZ(h:P:=by simp[ht]):=h
def ta(h:P:=by simp[aC]):=h
def tc(h:P:=by simp[h281]):=h
def td(h:P:=by simp[jt,hV]):=h
def te(h:P:=by simp[hO.wH.top]):=h
def tg(h:P:=by simp[xH,hv]):=h
def th(h:P:=by simp[zR]):=h
def ti(h:P:=by grind[DI.len]):=h
def tj(h:P:=by simp[aB]):=h
def tk(h:P:=by simp[hO.top,jW,hT]):=h
def tp(h:P:=by repeat(first|(with_reducible exact hOB)|refine JB ?_|refine QJ (by rfl) ?_|refine QH (by rfl) ?_|refine QI (by rfl) (by rfl) ?_|refine QF (by rfl) ?_|exact hOB)):=h
def tq(h:P:=by simp[hO.zt]):=h
def tu(h:P:=by simp[DN,hv]):=h
def tv(h:P:=by simp[hO.qJ,hT]):=h
def tw(h:P:=by simp[hyes]):=h
def tz(h:P:=by simp[hO.zM,hT]):=h
def A2(h:P:=by simp[jt,h9]):=h
def A3(h:P:=by simp[mj]):=h
def A4(h:P:=by simp[cB]):=h
def A5(h:P:=by simp[hO.jG]):=h
def A6(h:P:=by simp[jt,y6]at he):=h
def A7(h:P:=by simp[cJ,hk,hn1,hn2]):=h
def A8(h:P:=by simp[hp63]):=h
def A9(h:P:=by simp[hl.2]):=h
def Aa(h:P:=by simp[Nm.zj]):=h
def Ab(h:P:=by repeat(first|(with_reducible exact hO2)|refine JG ?_|refine JH (by rfl) ?_|refine JE ?_|refine CP ?_|refine JF ?_|refine JD ?_|exact(have h:=hO2;qF.re h))):=h
def Ac(h:P:=by simp[qq]):=h
def Ad(h:P:=by simp[hO1.zt]):=h
def Ae(h:P:=by rw[hT];simp):=h
def Af(h:P:=by simp[cJ,hk,hn1]):=h
def Ag(h:P:=by simp[h6];exact qk (by omega) (by omega)):=h
def Ah(h:P:=by simp[jt,y6]):=h
def Ai(h:P:=by simp[hp62]):=h
def Aj(h:P:=by simpa using h1):=h
def Ak(h:P:=by simp[hO1.jG]):=h
def Al(h:P:=by simp[yt]):=h
def Am(h:P:=by simp[<- hap]):=h
def An(h:P:=by simp[hnext,h5]):=h
def Ao(h:P:=by simp[jt,h2]):=h
def Ap(h:P:=by cases d<;>rfl):=h
def Aq(h:P:=by simp[h9,LG]):=h
def Ar(h:P:=by simp[hu]):=h
def As(h:P:=by simp[wQ]):=h
def At(h:P:=by simp[hp5,hn2]):=h
def Au(h:P:=by simp[hno,B2]):=h
def Av(h:P:=by simp[jo,hp]):=h
def Aw(h:P:=by rw[e];simp):=h
def Ax(h:P:=by simp[gq]):=h
def Cb(h:P:=by have:=(gS hc).1;omega):=h
def Cc(h:P:=by first|(simp[hp5];done)|(simp[hp5];rfl)):=h
def Cd(h:P:=by simp[sH,h]):=h
def Ce(h:P:=by simp[jo,hb]):=h
def Cf(h:P:=by simp[hH,hH1,hH2,hH3]):=h
def Cg(h:P:=by simp only[qDX];omega):=h
def Ch(h:P:=by simp[Hm.shown,h1,h2,h3]):=h
def Ci(h:P:=by simp[hnext,hp5]):=h
def Cj(h:P:=by simp[h4];rfl):=h
def Ck(h:P:=by simpa using hk1):=h
def Cl(h:P:=by simp[b8,h]):=h
def Cm(h:P:=by grind[Region.wanted]):=h
def Cn(h:P:=by simp[AV.tr,pR]):=h
def Co(h:P:=by simp[sK,hv]):=h
def Cp(h:P:=by simp;first|done|rfl):=h
def Cq(h:P:=by simp[kl,(jp (λ_=>zF) hk i).2]):=h
def Cr(h:P:=by simp[kO,hc,hs]):=h
def Ct(h:P:=by simp[hm0,qR.top]):=h
def Cu(h:P:=by simp only[Pa];omega):=h
def Cv(h:P:=by simp[ho2 j k hj hk]):=h
def Cw(h:P:=by simp[Value.ownBlock]):=h
def Cx(h:P:=by simp[h6];rfl):=h
def Cy(h:P:=by grind[getObj,Sem.run]):=h
def Cz(h:P:=by simp[h3];rfl):=h
def DA(h:P:=by simp[qO.look,qO.push,qR.stop]):=h
def DB(h:P:=by simp[hm.1,hen2]):=h
def DC(h:P:=by simp[hO1.qI]):=h
def DD(h:P:=by simp[kN]):=h
def DE(h:P:=by simp[yd,hr0]):=h
def DF(h:P:=by simp[yR,j4];omega):=h
def DG(h:P:=by first|(simp[hp3];done)|(simp[hp3];rfl)):=h
def FL(h:P:=by intro i x hi hx;rw[yh]at hi;have e:=ik hi;simp[hx,e.1,e.2.1,e.2.2.1,e.2.2.2]):=h
def FM(h:P:=by simp[h7];exact qk (by omega) (by omega)):=h
def FN(h:P:=by first|(simp[o5];done)|fail):=h
def FO(h:P:=by simp[h4];exact qk (by omega) (by omega)):=h
def FP(h:P:=by first|(simp[b1];done)|fail):=h
def FQ(h:P:=by first|(simp[(me i c hc).cells];done)|fail):=h
def FR(h:P:=by first|(simp[(ke i c hc).qt];done)|fail):=h
def FT(h:P:=by first|(simp[mt];done)|fail):=h
def FU(h:P:=by simp only[uN,if_neg w1,hs,if_neg w0]):=h
def FV(h:P:=by first|(simp[a1];done)|fail):=h
def FW(h:P:=by first|(simp[q4];done)|fail):=h
def FX(h:P:=by first|(simp[ho2 j r hj];done)|fail):=h
def FY(h:P:=by simp[cJ,hk,hn1,hn2,hn3]):=h
def FZ(h:P:=by simp only[uN,if_neg w1,hs,if_true]):=h
def F0(h:P:=by first|(simp[(ne i c hc).iK];done)|fail):=h
def F1(h:P:=by first|(simp[q2];done)|fail):=h
def F2(h:P:=by intro i x hi hx;rw[yh]at hi;have e:=ik hi;simp only[zR]at hx;rw[if_neg (by simp),if_neg (by simp)]at hx;simp[hx,e.1,e.2.1,e.2.2.1,e.2.2.2]):=h
def F3(h:P:=by simp[h8];exact qk (by omega) (by omega)):=h
def F4(h:P:=by first|(simp[(me i c hc).params];done)|fail):=h
def F5(h:P:=by first|(simp[(me i c hc).qt];done)|fail):=h
def F6(h:P:=by rw[o6 hc];omega):=h
def F7(h:P:=by first|(simp[ho3 j r hj];done)|fail):=h
def F8(h:P:=by first|(simp[o4];done)|fail):=h
def F9(h:P:=by first|(simp[q5];done)|fail):=h
def Fa(h:P:=by first|(simp[(me i c hc).iK];done)|fail):=h
def Fb(h:P:=by first|(simp[(ke i c hc).cells];done)|fail):=h
def Fc(h:P:=by simp[cJ,hk,hn1,hn2,hq]):=h
def Fe(h:P:=by first|(simp[(ne i c hc).ops];done)|fail):=h
def Ff(h:P:=by first|(simp[ho1];done)|fail):=h
def Fg(h:P:=by first|(simp[(ne i c hc).cells];done)|fail):=h
def Fh(h:P:=by rw[hat];exact(have h:=hO1;qF.re h)):=h
def Fi(h:P:=by first|(simp[(ke i c hc).ops];done)|fail):=h
def Fj(h:P:=by obtain rfl:=sI e;exact hn):=h
def Fk(h:P:=by first|(simp[(me i c hc).ops];done)|fail):=h
def Fl(h:P:=by first|(simp[o3];done)|fail):=h
def Fm(h:P:=by first|(simp[q1];done)|fail):=h
def Fo(h:P:=by simp only[uN,if_neg w1,hs]):=h
def Fp(h:P:=by first|(simp[(ke i c hc).iK];done)|fail):=h
def Fq(h:P:=by first|(simp;done)|(simp;rw[Ue (by omega)])):=h
def Fr(h:P:=by first|(simp[a3 j r hj];done)|fail):=h
def Fs(h:P:=by have:=h.each k hk;omega):=h
def Ft(h:P:=by first|(simp[(ke i c hc).params];done)|fail):=h
def Fu(h:P:=by rw[h.1];exact gu h.2 (by simp) Iy):=h
def Fv(h:P:=by first|(simp[nt];done)|fail):=h
def Fw(h:P:=by first|(simp[o2];done)|fail):=h
def Fx(h:P:=by first|(simp[(ne i c hc).qt];done)|fail):=h
def Fy(h:P:=by intro x0;induction x0<;>grind[St.ki,St.zW]):=h
def Fz(h:P:=by first|(simp[a2 j r hj];done)|fail):=h
def GA(h:P:=by first|(simp[q3];done)|fail):=h
def GB(h:P:=by first|(simp[kt];done)|fail):=h
def GC(h:P:=by first|(simp[b2 j r hj];done)|fail):=h
def GD(h:P:=by first|(simp[o1];done)|fail):=h
def GE(h:P:=by first|(simp[b3 j r hj];done)|fail):=h
def GF(h:P:=by first|(simp[(ne i c hc).params];done)|fail):=h
def KH(h:P:=by simp[Instr.lookup,uA hT,hg,hck,Instr.findKey,uA hkey,f1,hr0]):=h
def KI(h:P:=by rw[k6];exact nj gl im (λ_=>JP) _ R' (yo (O fs)) k vs f.zE k2 k3 k4 k5 (by omega) yoh):=h
def KJ(h:P:=by rw[show(zZ V a i).qG a=V.qG a from rfl,wk hd]):=h
def KK(h:P:=by simp[uj,c5,d4,cL,cN,eN,gH,ic]):=h
def KL(h:P:=by rw[hTt];exact⟨by simp[jW,hT],by simp[hO.qJ],λj b hb=>by simp[hO.act j b hb],hO.jw.imp λl hl=>by simp[hl],by simp[hO.zM],by simp[hO.qI],by simp[hO.jG],λj b hb=>by simp[hO.cls j b hb],by simp[hO.out],by simp[<- hap]⟩):=h
def KM(h:P:=by simp only[beq_eq_false_iff_ne,ne_eq];omega):=h
def KN(h:P:=by first|(simp[t7,p7,hcl2];done)|(simp[t7,p7,hcl2];rfl)):=h
def KO(h:P:=by have:=jp (λ_=>zF) hk 8;simp[this.1,this.2,hk]):=h
def KP(h:P:=by have:=jp (λ_=>zF) hk 7;simp[this.1,this.2,hk]):=h
def KQ(h:P:=by unfold vK;simp only[List.getLast?_append,List.getLast?_singleton,CT,Option.some_or];exact(have h:=hO2;qF.re h)):=h
def KR(h:P:=by repeat(first|(with_reducible exact hSm)|refine Ow ?_|refine Ox hD ?_|refine Ou hD ?_|refine Ov hD ?_|refine Ot hD ?_|exact hSm)):=h
def KS(h:P:=by first|(simp[t7,h7,hqs];done)|(simp[t7,h7,hqs];rfl)):=h
def KT(h:P:=by simp[uj,c4,d2,cL,cN,eN,gH]):=h
def KU(h:P:=by simp[Instr.lookup,uA hT,hg,hck,Instr.findKey,uA hkey,f1]):=h
def KV(h:P:=by rw[e6];exact ry gl D9 (λ_=>QT) _ rows' (O fs) k a0 a1 a2 a3 a4 a5 vs f.zE e2 e3 e4 e5 (by omega)):=h
def KW(h:P:=by first|(simp[t5,p5,hcl2];done)|(simp[t5,p5,hcl2];rfl)):=h
def KX(h:P:=by rintro(rfl|rfl)<;>simp at hok<;>exact hok.1):=h
def KY(h:P:=by rw[show(c.toNat:Int)-48=(k:Int)by omega];exact u8w (by omega) (by omega)):=h
def KZ(h:P:=by rw[hall q (hD.ord.lt q x1)]at x2;cases x2):=h
def qb:type_of% @Nat.le_refl:=@Nat.le_refl
def vt:type_of% @Bool.not_not:=@Bool.not_not
theorem zq:type_of% @Option.map_eq_some_iff.{0,0}:=@Option.map_eq_some_iff
def j3:type_of% @List.getElem?_map.{0,0}:=@List.getElem?_map
theorem jg:type_of% @List.take_of_length_le.{0}:=@List.take_of_length_le
def yF:type_of% @Bool.and_eq_true:=@Bool.and_eq_true
def yI:type_of% @List.mem_append.{0}:=@List.mem_append
def yn:type_of% @List.all_eq_true.{0}:=@List.all_eq_true
def yp:type_of% @List.ext_getElem?.{0}:=@List.ext_getElem?
def vG:type_of% @List.mem_singleton.{0}:=@List.mem_singleton
def vV:type_of% @List.mem_cons.{0}:=@List.mem_cons
theorem vd:type_of% @List.take_add_one.{0}:=@List.take_add_one
def uV:type_of% @Nat.le_trans:=@Nat.le_trans
def u7:type_of% @List.length_append.{0}:=@List.length_append
def ua:type_of% @List.getElem?_append_left.{0}:=@List.getElem?_append_left
theorem um:type_of% @Nat.lt_of_lt_of_le:=@Nat.lt_of_lt_of_le
theorem un:type_of% @Int.toNat_natCast:=@Int.toNat_natCast
def kB:type_of% @Option.map_some.{0,0}:=@Option.map_some
def kC:type_of% @List.take_length.{0}:=@List.take_length
theorem ko:type_of% @List.getElem?_of_mem.{0}:=@List.getElem?_of_mem
def kr:type_of% @Bool.not_eq_true:=@Bool.not_eq_true
def wi:type_of% @List.mem_map.{0,0}:=@List.mem_map
def aF:type_of% @Bool.false_eq_true:=@Bool.false_eq_true
def aG:type_of% @List.length_singleton.{0}:=@List.length_singleton
def bM:type_of% @Nat.mul_le_mul_right:=@Nat.mul_le_mul_right
def bN:type_of% @List.eq_nil_of_length_eq_zero.{0}:=@List.eq_nil_of_length_eq_zero
def bO:type_of% @List.getD_eq_getElem?_getD.{0}:=@List.getD_eq_getElem?_getD
def bl:type_of% @Bool.not_eq_true':=@Bool.not_eq_true'
def bm:type_of% @Array.getElem?_toList.{0}:=@Array.getElem?_toList
def bn:type_of% @List.getElem?_append_right.{0}:=@List.getElem?_append_right
def cX:type_of% @List.map_cons.{0,0}:=@List.map_cons
def cY:type_of% @List.mem_cons_of_mem.{0}:=@List.mem_cons_of_mem
def dL:type_of% @Nat.add_assoc:=@Nat.add_assoc
def dM:type_of% @Option.ne_none_iff_exists'.{0}:=@Option.ne_none_iff_exists'
def dN:type_of% @Nat.lt_or_ge:=@Nat.lt_or_ge
def eX:type_of% @List.getElem?_eq_none.{0}:=@List.getElem?_eq_none
def fJ:type_of% @Nat.add_zero:=@Nat.add_zero
theorem fK:type_of% @List.length_cons.{0}:=@List.length_cons
def fL:type_of% @List.getElem?_set.{0}:=@List.getElem?_set
def fN:type_of% @Nat.eq_zero_or_pos:=@Nat.eq_zero_or_pos
def ga:type_of% @Prod.mk.inj.{0,0}:=@Prod.mk.inj
theorem gb:type_of% @Option.bind_eq_some_iff.{0,0}:=@Option.bind_eq_some_iff
def gc:type_of% @Nat.zero_add:=@Nat.zero_add
def ge:type_of% @List.length_take.{0}:=@List.length_take
def gh:type_of% @List.getElem?_cons_zero.{0}:=@List.getElem?_cons_zero
def gi:type_of% @List.getElem?_cons_succ.{0}:=@List.getElem?_cons_succ
def gj:type_of% @Bool.true_and:=@Bool.true_and
def gk:type_of% @List.cons_append.{0}:=@List.cons_append
def gm:type_of% @List.append_assoc.{0}:=@List.append_assoc
def it:type_of% @List.getElem?_modify.{0}:=@List.getElem?_modify
def iw:type_of% @List.getElem?_append.{0}:=@List.getElem?_append
def ix:type_of% @List.mem_range:=@List.mem_range
def iy:type_of% @List.map_map.{0,0,0}:=@List.map_map
theorem iz:type_of% @List.drop_eq_getElem_cons.{0}:=@List.drop_eq_getElem_cons
def lA:type_of% @List.take_append.{0}:=@List.take_append
def mG:type_of% @List.length_nil.{0}:=@List.length_nil
def mH:type_of% @List.mem_of_mem_take.{0}:=@List.mem_of_mem_take
def mI:type_of% @Array.getElem?_eq_getElem.{0}:=@Array.getElem?_eq_getElem
theorem mJ:type_of% @List.dropLast_concat_getLast.{0}:=@List.dropLast_concat_getLast
def mK:type_of% @List.append_nil.{0}:=@List.append_nil
def nz:type_of% @Nat.add_mul:=@Nat.add_mul
def oA:type_of% @Array.getElem?_eq_some_iff.{0}:=@Array.getElem?_eq_some_iff
def oB:type_of% @Array.getD_eq_getD_getElem?.{0}:=@Array.getD_eq_getD_getElem?
def oC:type_of% @Option.bind_some.{0,0}:=@Option.bind_some
theorem oD:type_of% @List.map_congr_left.{0,0}:=@List.map_congr_left
def oE:type_of% @Nat.lt_trichotomy:=@Nat.lt_trichotomy
def oF:type_of% @Option.isSome_iff_ne_none.{0}:=@Option.isSome_iff_ne_none
def pz:type_of% @Nat.mul_comm:=@Nat.mul_comm
def rA:type_of% @List.length_map.{0,0}:=@List.length_map
def rB:type_of% @Array.getElem?_setIfInBounds_ne.{0}:=@Array.getElem?_setIfInBounds_ne
def rC:type_of% @List.range_succ:=@List.range_succ
def rD:type_of% @List.prefix_refl.{0}:=@List.prefix_refl
def rE:type_of% @List.map_nil.{0,0}:=@List.map_nil
def rF:type_of% @List.map_append.{0,0}:=@List.map_append
def rG:type_of% @Bool.eq_false_iff:=@Bool.eq_false_iff
def s5:type_of% @Nat.one_mul:=@Nat.one_mul
def s6:type_of% @Prod.mk.injEq.{0,0}:=@Prod.mk.injEq
def s7:type_of% @List.nil_append.{0}:=@List.nil_append
theorem s8:type_of% @List.findIdx?_eq_some_iff_getElem.{0}:=@List.findIdx?_eq_some_iff_getElem
theorem s9:type_of% @List.take_append_drop.{0}:=@List.take_append_drop
def sd:type_of% @Nat.ne_of_lt:=@Nat.ne_of_lt
def se:type_of% @Bool.true_or:=@Bool.true_or
theorem sf:type_of% @List.map_take.{0,0}:=@List.map_take
def si:type_of% @List.not_mem_nil.{0}:=@List.not_mem_nil
def AS:type_of% @Option.some.injEq.{0}:=@Option.some.injEq
def AT:type_of% @List.getElem?_take.{0}:=@List.getElem?_take
theorem AU:type_of% @List.drop_append.{0}:=@List.drop_append
def AW:type_of% @List.getElem?_drop.{0}:=@List.getElem?_drop
def AX:type_of% @Bool.or_eq_true:=@Bool.or_eq_true
def CT:type_of% @List.dropLast_concat.{0}:=@List.dropLast_concat
def AY:type_of% @Int.tmod_nonneg:=@Int.tmod_nonneg
def AZ:type_of% @Int.tmod_lt_of_pos:=@Int.tmod_lt_of_pos
def CU:type_of% @Option.isSome_iff_exists.{0}:=@Option.isSome_iff_exists
def CV:type_of% @List.eq_nil_iff_forall_not_mem.{0}:=@List.eq_nil_iff_forall_not_mem
theorem CW:type_of% @List.getLast?_eq_some_iff.{0}:=@List.getLast?_eq_some_iff
theorem CX:type_of% @List.drop_eq_nil_of_le.{0}:=@List.drop_eq_nil_of_le
def CY:type_of% @Nat.lt_succ_iff_lt_or_eq:=@Nat.lt_succ_iff_lt_or_eq
def CZ:type_of% @List.length_eq_one_iff.{0}:=@List.length_eq_one_iff
def aI{a b:Prop}(x:a)(y:b):a/\b:=⟨x,y⟩
def ql(x0:p0)(x1:p1)(y:p2):p0/\p1/\p2:=⟨x0,x1,y⟩
def qz(x0:p0)(x1:p1)(x2:p2)(y:p3):p0/\p1/\p2/\p3:=⟨x0,x1,x2,y⟩
def zJ(x0:p0)(x1:p1)(x2:p2)(x3:p3)(y:p4):p0/\p1/\p2/\p3/\p4:=⟨x0,x1,x2,x3,y⟩
def zx(x0:p0)(x1:p1)(x2:p2)(x3:p3)(x4:p4)(y:p5):p0/\p1/\p2/\p3/\p4/\p5:=⟨x0,x1,x2,x3,x4,y⟩
def zy(x0:p0)(x1:p1)(x2:p2)(x3:p3)(x4:p4)(x5:p5)(y:p6):p0/\p1/\p2/\p3/\p4/\p5/\p6:=⟨x0,x1,x2,x3,x4,x5,y⟩
def jA(x0:p0)(x1:p1)(x2:p2)(x3:p3)(x4:p4)(x5:p5)(x6:p6)(y:p7):p0/\p1/\p2/\p3/\p4/\p5/\p6/\p7:=⟨x0,x1,x2,x3,x4,x5,x6,y⟩
def y9(x0:p0)(x1:p1)(x2:p2)(x3:p3)(x4:p4)(x5:p5)(x6:p6)(x7:p7)(y:p8):p0/\p1/\p2/\p3/\p4/\p5/\p6/\p7/\p8:=⟨x0,x1,x2,x3,x4,x5,x6,x7,y⟩
def ya(x0:p0)(x1:p1)(x2:p2)(x3:p3)(x4:p4)(x5:p5)(x6:p6)(x7:p7)(x8:p8)(y:p9):p0/\p1/\p2/\p3/\p4/\p5/\p6/\p7/\p8/\p9:=⟨x0,x1,x2,x3,x4,x5,x6,x7,x8,y⟩
def jU(x0:p0)(x1:p1)(x2:p2)(x3:p3)(x4:p4)(x5:p5)(x6:p6)(x7:p7)(x8:p8)(x9:p9)(y:p10):p0/\p1/\p2/\p3/\p4/\p5/\p6/\p7/\p8/\p9/\p10:=⟨x0,x1,x2,x3,x4,x5,x6,x7,x8,x9,y⟩
def qg{p11 p12:Prop}(x0:p0)(x1:p1)(x2:p2)(x3:p3)(x4:p4)(x5:p5)(x6:p6)(x7:p7)(x8:p8)(x9:p9)(x10:p10)(x11:p11)(y:p12):p0/\p1/\p2/\p3/\p4/\p5/\p6/\p7/\p8/\p9/\p10/\p11/\p12:=⟨x0,x1,x2,x3,x4,x5,x6,x7,x8,x9,x10,x11,y⟩
def sI{α:Type _}{a b:α}(h:Z a=Z b):a=b:=Option.some.inj h
def lB{a b:Nat}(h:Nat.ble a b=B):a<=b:=Nat.le_of_ble_eq_true h
def gM{α:Type _}{l:List α}{a:α}(h:l[i]?=Z a):a∈l:=List.mem_of_getElem? h
def gS{α:Type _}{l:List α}{a:α}(h:l[i]?=Z a):∃h:i<O l,l[i]=a:=List.getElem?_eq_some_iff.1 h
def gE{α:Type _}{l:List α}(h:i<O l):l[i]?=Z l[i]:=List.getElem?_eq_getElem h
def gX{α:Type _}{l:List α}(h:i<O l):∃a,l[i]?=Z a:=⟨_,gE h⟩
inductive Nm where
 |s (d:Nat)
 |c (n:Nm) (i j:Nat)
 |u (k i j:Nat)
 deriving DecidableEq
def Nm.under(k0:Nm):Nm->Bool
 |.s d=>decide (Nm.s d=k0)
 |.u k i j=>decide (Nm.u k i j=k0)
 |.c q i j=>decide (Nm.c q i j=k0)||Nm.under k0 q
def Nm.qy(k0 k1:Nm):Nm->Nm
 |.s d=>if Nm.s d=k0 then k1 else .s d
 |.u k i j=>if Nm.u k i j=k0 then k1 else .u k i j
 |.c q i j=>if Nm.c q i j=k0 then k1 else .c (Nm.qy k0 k1 q) i j
def mv(k0 k1 k:Nm):Option Nm:=if Nm.under k0 k then Z (Nm.qy k0 k1 k)else if Nm.under k1 k then Y else Z k
def kl(k0 k:Nm):Option Nm:=if Nm.under k0 k then Y else Z k
inductive AV where
 |sc (v:Value)
 |sl (z:Nat) (rows:List (List AV))
 |el (row:List AV) (off:Nat)
 |hs (n:Nm) (z lo len:Nat)
 |pt (n:Nm) (off:Nat)
 |ep (n:Nm) (z i off:Nat)
 |mp (n:Nm)
 |agg (cs:List AV)
 |zT (cs:List AV)
 |jL (t:TypeId) (a:AV)
 |fn (f:Fn) (xs ys:List AV)
 |bot
inductive AO where
 |row (z:Nat) (rows:List (List AV))
 |map (es:List (AV×AV))
 |uP (T:TypeId) (z:Nat) (ex:Bool) (rows:List (List AV))
mutual
def AV.tr(f:Nm->Option Nm):AV->AV
 |.sc v=>.sc v
 |.sl z rows=>.sl z (lr f rows)
 |.el row off=>.el (cP f row) off
 |.hs n z lo len=>match f n with|some n'=>.hs n' z lo len|none=>.bot
 |.pt n off=>match f n with|some n'=>.pt n' off|none=>.bot
 |.ep n z i off=>match f n with|some n'=>.ep n' z i off|none=>.bot
 |.mp n=>match f n with|some n'=>.mp n'|none=>.bot
 |.agg cs=>.agg (cP f cs)
 |.zT cs=>.zT (cP f cs)
 |.jL t a=>.jL t (AV.tr f a)
 |.fn g xs ys=>.fn g (cP f xs) (cP f ys)
 |.bot=>.bot
def cP(f:Nm->Option Nm):List AV->List AV
 |[]=>[]
 |a::l=>AV.tr f a::cP f l
def lr(f:Nm->Option Nm):List (List AV)->List (List AV)
 |[]=>[]
 |r::l=>cP f r::lr f l
end
theorem pR(f:Nm->Option Nm)(l:List AV):cP f l=l.map (AV.tr f):=by
 induction l<;>grind[cP]
theorem AC(f:Nm->Option Nm)(l:List (List AV)):lr f l=l.map (λr=>r.map (AV.tr f)):=by
 induction l<;>grind[lr,pR]
def AO.tr(f:Nm->Option Nm):AO->AO
 |.row z rows=>.row z (rows.map (λr=>r.map (AV.tr f)))
 |.map es=>.map (es.map (λe=>(e.1.tr f,e.2.tr f)))
 |.uP T z ex rows=>.uP T z ex (rows.map (λr=>r.map (AV.tr f)))
theorem Nm.uQ(k:Nm):Nm.under k k=B:=by cases k<;>simp[Nm.under]
theorem Nm.fG{k0 k1:Nm}:∀k,Nm.under k0 k=B->Nm.under k1 (Nm.qy k0 k1 k)=B:=by
 intro k
 induction k<;>grind[under,qy,uQ]
theorem Nm.pC{k0 q:Nm}(h:Nm.under k0 q=B):Nm.c q i j≠k0:=by
 have size:∀k:Nm,Nm.under k0 k=B->SizeOf.sizeOf k0<=SizeOf.sizeOf k:=by
  intro k
  induction k<;>grind[under]
 grind
theorem Nm.EG{k0 k1:Nm}:∀k k',Nm.under k0 k=B->Nm.under k0 k'=B->Nm.qy k0 k1 k=Nm.qy k0 k1 k'->k=k':=by
 have base:∀k:Nm,k=k0->Nm.qy k0 k1 k=k1:=by
  intro k e
  cases k<;>simp[Nm.qy,e]
 have leaf:∀k k',k=k0->Nm.under k0 k'=B->Nm.qy k0 k1 k=Nm.qy k0 k1 k'->k=k':=by
  intro k k' h h' e;rw[base k h]at e
  cases k'<;>grind[under,qy,pC,fG]
 intro k
 induction k with
 |s d=>grind[under]
 |u a b d=>grind[under]
 |c q i j ih=>
  intro k' h h' e;by_cases hq:Nm.c q i j=k0
  .grind
  .by_cases hk':k'=k0
   .grind
   .simp [Nm.under,hq]at h;have e0:Nm.qy k0 k1 (.c q i j)=.c (Nm.qy k0 k1 q) i j:=by grind[qy]
    rw[e0]at e
    cases k'<;>grind[under,qy]
theorem Do{k0 k1 k k' x:Nm}(h:mv k0 k1 k=Z x)(h':mv k0 k1 k'=Z x):k=k':=by
 grind[mv,Nm.EG,Nm.fG]
theorem MK{k0 k x:Nm}(h:kl k0 k=Z x):k=x/\Nm.under k0 x=M:=by
 grind[kl]
def MJ{k0 k k' x:Nm}(h:kl k0 k=Z x)(h':kl k0 k'=Z x):k=k':=(MK h).1.trans (MK h').1.symm
theorem OO{α:Type}{r:List α}{off:Nat}{vals:List α}(h:off+O vals<=O r)(j:Nat):
  (r.take off++vals++r.drop (off+O vals))[j]?=if off<=j/\j<off+O vals then vals[j-off]? else r[j]?:=by
 simp_all<;>grind
theorem ER(cur:List Value)(o:Nat)(nv:List Value)(h:o+O nv<=O cur)(p:Nat):
  ((cur.take o++nv++cur.drop (o+O nv)).toArray).getD p undef=if o<=p/\p<o+O nv then nv.getD (p-o) undef else cur.getD p undef:=by
 simp_all<;>grind
def qi(P:Program)(T:TypeId):Nat:=((P.info? T).map (·.size)).getD 0
structure Gh where
 C:Nat->Prop
 φ:Nm->Option Nat
 κ:Nm->Nat
inductive RV(g:Gh)(w:World):Value->AV->Prop
 |sc (v:Value):RV g w v (.sc v)
 |yV (ad:Option Addr) (cap:Nat) (z:Nat):RV g w (.slice ad 0 cap) (.sl z [])
 |eL (b off cap n z:Nat) (rows:List (List AV)) (f:Nat->Nat->Value) (hC:g.C b) (hn:O rows=n) (hcap:n<=cap) (hu:∀r∈rows,O r=z)
  (hcell:∀i j,i<n->j<z->w.cell? ⟨b,off+i*z+j,Y⟩=Z (f i j))
  (ho:∀i j,i<n->j<z->(f i j).oneCell'=B)
  (hr:∀(i:Nat)row,rows[i]?=Z row->∀(j:Nat)a,row[j]?=Z a->RV g w (f i j) a):RV g w (.slice (Z ⟨b,off,Y⟩) n cap) (.sl z rows)
 |el (b o off:Nat) (row:List AV) (f:Nat->Value) (hC:g.C b)
  (hcell:∀j,j<O row->w.cell? ⟨b,o+j,Y⟩=Z (f j))
  (ho:∀j,j<O row->(f j).oneCell'=B)
  (hr:∀(j:Nat)a,row[j]?=Z a->RV g w (f j) a):RV g w (.pointer (Z ⟨b,o+off,Y⟩)) (.el row off)
 |de (n:Nm) (z:Nat) (hk:g.φ n=Y):RV g w (.slice Y 0 0) (.hs n z 0 0)
 |bT (n:Nm) (z lo len b cap:Nat) (ad:Option Addr) (hk:g.φ n=Z b) (h1:len<=cap) (h2:lo+cap=g.κ n) (h3:0<cap->ad=Z ⟨b,lo*z,Y⟩):
  RV g w (.slice ad len cap) (.hs n z lo len)
 |pt (n:Nm) (off b:Nat) (hk:g.φ n=Z b):RV g w (.pointer (Z ⟨b,off,Y⟩)) (.pt n off)
 |ep (n:Nm) (z i off b:Nat) (hk:g.φ n=Z b):RV g w (.pointer (Z ⟨b,i*z+off,Y⟩)) (.ep n z i off)
 |mp (n:Nm) (b:Nat) (hk:g.φ n=Z b):RV g w (.map (Z b)) (.mp n)
 |agg (vs:List Value) (cs:List AV) (hl:O vs=O cs) (hr:∀(j:Nat)v a,vs[j]?=Z v->cs[j]?=Z a->RV g w v a):RV g w (.agg vs.toArray) (.agg cs)
 |zT (vs:List Value) (cs:List AV) (hl:O vs=O cs) (hr:∀(j:Nat)v a,vs[j]?=Z v->cs[j]?=Z a->RV g w v a):RV g w (.tuple vs.toArray) (.zT cs)
 |jL (t:TypeId) (v:Value) (a:AV) (h:RV g w v a):RV g w (.iface t v) (.jL t a)
 |fn (f:Fn) (vs us:List Value) (xs ys:List AV) (hl:O vs=O xs) (hl2:O us=O ys) (hr:∀(j:Nat)v a,vs[j]?=Z v->xs[j]?=Z a->RV g w v a)
  (hr2:∀(j:Nat)v a,us[j]?=Z v->ys[j]?=Z a->RV g w v a):RV g w (.func f vs.toArray us.toArray) (.fn f xs ys)
 |bot (v:Value):RV g w v .bot
theorem RV.tr{g g':Gh}{w w':World}{v:Value}{a:AV}{f:Nm->Option Nm}(h:RV g w v a)(hC:∀b,g.C b->g'.C b)(hw:∀b,g.C b->w'.heap[b]?=w.heap[b]?)
  (hf:∀n n',f n=Z n'->g'.φ n'=g.φ n/\g'.κ n'=g.κ n):RV g' w' v (a.tr f):=by
 have cell:∀(b o:Nat),g.C b->w'.cell? ⟨b,o,Y⟩=w.cell? ⟨b,o,Y⟩:=by
  grind[World.cell?]
 induction h with
 |sc v=>exact .sc v
 |yV ad cap z=>exact .yV ad cap z
 |eL b off cap n z rows fv hCb hn hcap hu hcell ho _ ih=>
  simp only[AV.tr,AC];refine .eL b off cap n z _ fv (hC b hCb) qQ hcap ?_ (λi j hi hj=>qQ) ho ?_<;>grind
 |el b o off row fv hCb hcell ho _ ih=>
  simp only[AV.tr,pR];refine .el b o off _ fv (hC b hCb) (λj hj=>qQ) (λj hj=>ho j qQ) ?_
  simp_all
 |de n z hk=>
  simp only[AV.tr]
  cases e:f n with
  |none=>exact .bot _
  |some n'=>constructor<;>grind
 |bT n z lo len b cap ad hk h1 h2 h3=>
  simp only[AV.tr]
  cases e:f n with
  |none=>exact .bot _
  |some n'=>exact .bT n' z lo len b cap ad ((hf n n' e).1.trans hk) h1 (h2.trans (hf n n' e).2.symm) h3
 |pt n off b hk=>
  simp only[AV.tr]
  cases e:f n with
  |none=>exact .bot _
  |some n'=>constructor<;>grind
 |ep n z i off b hk=>
  simp only[AV.tr]
  cases e:f n with
  |none=>exact .bot _
  |some n'=>constructor<;>grind
 |mp n b hk=>
  simp only[AV.tr]
  cases e:f n with
  |none=>exact .bot _
  |some n'=>constructor<;>grind
 |agg vs cs hl _ ih=>
  constructor<;>grind[pR]
 |zT vs cs hl _ ih=>
  constructor<;>grind[pR]
 |jL t v a _ ih=>exact .jL t v _ ih
 |fn fv vs us xs ys hl hl2 _ _ ih ih2=>
  constructor<;>grind[pR]
 |bot v=>exact .bot v
theorem AV.uO(a:AV):a.tr Z=a:=by
 refine AV.rec (motive_1:=λa=>a.tr Z=a) (motive_2:=λl=>lr Z l=l) (motive_3:=λl=>cP Z l=l) ?_ ?_ ?_ ?_ ?_ ?_ ?_ ?_ ?_ ?_ ?_ ?_ ?_ ?_ ?_ ?_ a<;>grind[tr,cP,lr]
theorem AO.uO(o:AO):o.tr Z=o:=by
 cases o with
 |row z rows=>
  have:(λr:List AV=>r.map (AV.tr Z))=id:=by
   funext r
   have e:AV.tr Z=id:=by grind[AV.uO]
   rw[e];simp
  simp_all[tr]
 |map es=>simp[AO.tr,AV.uO]
 |uP T z ex rows=>
  have:(λr:List AV=>r.map (AV.tr Z))=id:=by
   funext r
   have e:AV.tr Z=id:=by grind[AV.uO]
   rw[e];simp
  simp_all[tr]
theorem RV.same{g g':Gh}{w w':World}{a:AV}(h:RV g w v a)(hC:∀b,g.C b->g'.C b)(hw:∀b,g.C b->w'.heap[b]?=w.heap[b]?)
  (hf:∀n,g'.φ n=g.φ n/\g'.κ n=g.κ n):RV g' w' v a:=by
 have:=h.tr (f:=Z) hC hw (λn n' e=>qQ)
 grind[AV.uO]
def AQ(g:Gh)(w:World)(b cap z:Nat)(rows:List (List AV)):Prop:=
 ∃(cur:Array Value)(T:TypeId),w.heap[b]?=Z (.cells cur T (0,0))/\cur.size=cap*z/\cap<=maxLen/\O rows<=cap/\(∀r∈rows,O r=z) /\
  (∀j,j<O rows*z->(cur.getD j undef).oneCell'=B)/\∀(i:Nat)row,rows[i]?=Z row->∀(j:Nat)a,row[j]?=Z a->RV g w (cur.getD (i*z+j) undef) a
def J0(g:Gh)(w:World)(b cap:Nat)(T:TypeId)(z:Nat)(rows:List (List AV)):Prop:=
 ∃(cur:Array Value),w.heap[b]?=Z (.cells cur T (0,0))/\cur.size=cap*z/\cap<=maxLen/\O rows<=cap/\(∀r∈rows,O r=z) /\
  (∀j,j<O rows*z->(cur.getD j undef).oneCell'=B)/\∀(i:Nat)row,rows[i]?=Z row->∀(j:Nat)a,row[j]?=Z a->RV g w (cur.getD (i*z+j) undef) a
def JT(g:Gh)(w:World)(b:Nat)(es:List (AV×AV)):Prop:=
 ∃(ms:List MapEntry)(clock:Nat),w.heap[b]?=Z (.map ms.toArray clock)/\MapKept.Stamped ms.toArray clock/\O ms=O es/\∀(i:Nat)m e,ms[i]?=Z m->es[i]?=Z e->RV g w m.key e.1/\RV g w m.val e.2
def jd(g:Gh)(w:World)(n:Nm):AO->Prop
 |.row z rows=>match g.φ n with|some b=>AQ g w b (g.κ n) z rows|none=>rows=[]
 |.map es=>match g.φ n with|some b=>JT g w b es|none=>False
 |.uP T z ex rows=>match g.φ n with|some b=>J0 g w b (g.κ n) T z rows/\(ex=B->g.κ n=O rows)/\(ex=M->0<g.κ n)|none=>rows=[]
theorem jd.tr{g g':Gh}{w w':World}{n n':Nm}{o:AO}{f:Nm->Option Nm}(h:jd g w n o)(hC:∀b,g.C b->g'.C b)(hw:∀b,g.C b->w'.heap[b]?=w.heap[b]?)
  (hf:∀n n',f n=Z n'->g'.φ n'=g.φ n/\g'.κ n'=g.κ n)(hn:f n=Z n')(hb:∀b,g.φ n=Z b->w'.heap[b]?=w.heap[b]?):jd g' w' n' (o.tr f):=by
 obtain⟨e1,e2⟩:=hf n n' hn
 cases o with
 |row z rows=>
  simp only[jd,AO.tr,e1,e2]at h ⊢
  cases e:g.φ n with
  |none=>simp_all
  |some b=>
   rw[e]at h;obtain⟨cur,T,h1,h2,h3,h4,h5,h6,h7⟩:=h;refine⟨cur,T,(hb b e).trans h1,h2,h3,qQ,?_,qQ,?_⟩
   .simp_all
   .intro i row hrow j a ha;rw[j3]at hrow;obtain⟨r0,h0,rfl⟩:=zq.1 hrow;rw[j3]at ha;obtain⟨a0,ha0,rfl⟩:=zq.1 ha;exact(h7 i r0 h0 j a0 ha0).tr hC hw hf
 |map es=>
  simp only[jd,AO.tr,e1]at h ⊢
  cases e:g.φ n with
  |none=>simp_all
  |some b=>
   rw[e]at h;obtain⟨ms,clock,h1,hst,h2,h3⟩:=h;refine⟨ms,clock,(hb b e).trans h1,hst,qQ,λi m en hm he=>?_⟩;rw[j3]at he;obtain⟨e0,he0,rfl⟩:=zq.1 he;obtain⟨r1,r2⟩:=h3 i m e0 hm he0;exact⟨r1.tr hC hw hf,r2.tr hC hw hf⟩
 |uP T z ex rows=>
  simp only[jd,AO.tr,e1,e2]at h ⊢
  cases e:g.φ n with
  |none=>simp_all
  |some b=>
   rw[e]at h;obtain⟨⟨cur,h1,h2,h3,h4,h5,h6,h7⟩,h8⟩:=h;refine⟨⟨cur,(hb b e).trans h1,h2,h3,qQ,?_,qQ,?_⟩,λhe=>qQ,h8.2⟩
   .simp_all
   .intro i row hrow j a ha;rw[j3]at hrow;obtain⟨r0,h0,rfl⟩:=zq.1 hrow;rw[j3]at ha;obtain⟨a0,ha0,rfl⟩:=zq.1 ha;exact(h7 i r0 h0 j a0 ha0).tr hC hw hf
structure Inv(own:Nat->Prop)(C:Nat->Prop)(w0:World)(g:Gh)(hp:Nm->Option AO)(w:World):Prop where
 os:w.os=w0.os
 tape:w.tape=w0.tape
 output:w.output=w0.output
 size:w0.heap.size<=w.heap.size
 wx:∀b,b<w0.heap.size->¬own b->w.heap[b]?=w0.heap[b]?
 hC:g.C=C
 ur:∀b,C b->b<w.heap.size
 obj:∀n o,hp n=Z o->jd g w n o
 qG:∀n o b,hp n=Z o->g.φ n=Z b->¬C b/\(w0.heap.size<=b\/own b)/\b<w.heap.size
 inj:∀n n' o o' b,hp n=Z o->hp n'=Z o'->g.φ n=Z b->g.φ n'=Z b->n=n'
structure St where
 tm:Nat->AV
 hp:Nm->Option AO
 n:Nat
 gl:Nat->Option (List AV)
def dI(w:World)(i:Nat)(row:List AV):Prop:=∀zs:List Int,zs≠[]->row=zs.map (λz=>.sc (.int .u64 z))->∃T b,w.heap[i]?=Z (.cells (zs.map λz=>Value.int .u64 z).toArray T b)
theorem dI.same{g:Gh}{w w':World}{row:List AV}(h:dI w i row)(hv:RV g w (.pointer (Z ⟨i,0,Y⟩)) (.el row 0))(hw:∀b,g.C b->w'.heap[b]?=w.heap[b]?):dI w' i row:=by
 intro zs h1 h2
 have hC:g.C i:=by
  generalize hp:Value.pointer (Z ⟨i,0,Y⟩)=p at hv
  cases hv<;>grind
 grind[dI]
structure Rg(P:Program)(own:Nat->Prop)(C:Nat->Prop)(w0:World)(g:Gh)(st:St)(a:Act)(w:World):Prop where
 inv:Inv own C w0 g st.hp w
 defers:a.defers=[]
 size:a.tmps.size=st.n
 dG:∀t,RV g w (a.tmps.getD t undef) (st.tm t)
 zM:∀i row,st.gl i=Z row->(RV g w (.pointer (Z ⟨i,0,Y⟩)) (.el row 0)/\dI w i row)/\∀f:Nm->Option Nm,row.map (AV.tr f)=row
def kA(g g':Gh):Prop:=∀k i j,g'.φ (.u k i j)=g.φ (.u k i j)/\g'.κ (.u k i j)=g.κ (.u k i j)
theorem kA.refl(g:Gh):kA g g:=λ_ _ _=>⟨rfl,rfl⟩
def kA.trans{g g' g'':Gh}(h:kA g g')(h':kA g' g''):kA g g'':=λk i j=>⟨(h' k i j).1.trans (h k i j).1,(h' k i j).2.trans (h k i j).2⟩
def Nm.z6:Nm->Bool
 |.u _ _ _=>B
 |_=>M
theorem Ik{n:Nm}{k:Nat}(h:n.z6=M):Nm.under n (.u k i j)=M:=by
 grind[Nm.z6,Nm.under]
def kV(P:Program)(own:Nat->Prop)(C:Nat->Prop)(w0:World)(g0:Gh)(st:St)(a:Act)(w:World):Prop:=∃g,kA g0 g/\Rg P own C w0 g st a w
def St.nm(f:Nm->Option Nm)(hp:Nm->Option AO)(st:St):St:={tm:=λt=>(st.tm t).tr f,hp:=hp,n:=st.n,gl:=st.gl}
def jN(n:Nm)(hp:Nm->Option AO):Nm->Option AO:=λm=>if Nm.under n m then Y else(hp m).map (AO.tr (kl n))
def jP(n0 n1:Nm)(hp:Nm->Option AO):Nm->Option AO:=λm=>
 if Nm.under n1 m then(if mv n0 n1 (Nm.qy n1 n0 m)=Z m then(hp (Nm.qy n1 n0 m)).map (AO.tr (mv n0 n1))else Y)else if Nm.under n0 m then Y else(hp m).map (AO.tr (mv n0 n1))
def St.kill(n:Nm)(st:St):St:=st.nm (kl n) (jN n st.hp)
def St.move(n0 n1:Nm)(st:St):St:=st.nm (mv n0 n1) (jP n0 n1 st.hp)
def St.put(st:St)(d:Option Nat)(a:AV):St:=
 match d with
 |some d=>{tm:=λt=>if t=d then a else st.tm t,hp:=st.hp,n:=st.n,gl:=st.gl}
 |none=>st
def St.zW(st:St)(n:Nm)(o:AO):St:={tm:=st.tm,hp:=λm=>if m=n then Z o else st.hp m,n:=st.n,gl:=st.gl}
section
variable{P:Program}{own:Nat->Prop}{C:Nat->Prop}{w0:World}{g:Gh}{st:St}{a:Act}{w:World}
def Rg.rv(h:Rg P own C w0 g st a w){g':Gh}{w':World}{f:Nm->Option Nm}(gC:g'.C=g.C)(hw:∀b,C b->w'.heap[b]?=w.heap[b]?)
  (gf:∀n n',f n=Z n'->g'.φ n'=g.φ n/\g'.κ n'=g.κ n){x:AV}(hv:RV g w v x):RV g' w' v (x.tr f):=
 hv.tr (λb hb=>qQ) (λb hb=>hw b (h.inv.hC ▸ hb)) gf
theorem Rg.step(h:Rg P own C w0 g st a w){g':Gh}{w':World}{f:Nm->Option Nm}{hp':Nm->Option AO}
  (gC:g'.C=g.C)(gf:∀n n',f n=Z n'->g'.φ n'=g.φ n/\g'.κ n'=g.κ n)
  (h1:w'.os=w.os)(h2:w'.tape=w.tape)(h3:w'.output=w.output)(h4:w.heap.size<=w'.heap.size)
  (hw:∀b,C b->w'.heap[b]?=w.heap[b]?)(hkeep:∀b,b<w0.heap.size->¬own b->w'.heap[b]?=w.heap[b]?)
  (hobj:∀n' o',hp' n'=Z o' ->
    (∃n o,f n=Z n'/\st.hp n=Z o/\o'=o.tr f/\∀b,g.φ n=Z b->w'.heap[b]?=w.heap[b]?) \/
    (jd g' w' n' o'/\∀b,g'.φ n'=Z b->(¬C b/\(w0.heap.size<=b\/own b)/\b<w'.heap.size)/\∀n'' o'',hp' n''=Z o''->g'.φ n''=Z b->n''=n')):
  Rg P own C w0 g' (st.nm f hp') a w':=by
 obtain⟨i,hd,hs,hsl,hgl⟩:=h;have h0:Rg P own C w0 g st a w:=⟨i,hd,hs,hsl,hgl⟩;have hwg:∀b,g.C b->w'.heap[b]?=w.heap[b]?:=λb hb=>hw b (i.hC ▸ hb);have gCf:∀b,g.C b->g'.C b:=λb hb=>qQ
 have old:∀n' o' b,hp' n'=Z o'->g'.φ n'=Z b ->
   (∃n o,f n=Z n'/\st.hp n=Z o/\g.φ n=Z b)\/((¬C b/\(w0.heap.size<=b\/own b)/\b<w'.heap.size)/\∀n'' o'',hp' n''=Z o''->g'.φ n''=Z b->n''=n'):=by
  grind
 refine⟨⟨h1.trans i.os,h2.trans i.tape,h3.trans i.output,uV i.size h4,λb hb ho=>(hkeep b hb ho).trans (i.wx b hb ho),gC.trans i.hC,λb hb=>um (i.ur b hb) h4,?_,?_,?_⟩,
  hd,hs,λt=>h0.rv gC hw gf (hsl t),λj row e=>⟨?_,(hgl j row e).2⟩⟩
 .intro n' o' hn';rcases hobj n' o' hn' with⟨n,o,e1,e2,rfl,e4⟩|⟨e,_⟩
  .exact (i.obj n o e2).tr gCf hwg gf e1 e4
  .exact e
 .intro n' o' b hn' hb;rcases old n' o' b hn' hb with⟨n,o,_,e2,e3⟩|⟨e,_⟩
  .obtain⟨x1,x2,x3⟩:=i.qG n o b e2 e3
   grind
  .exact e
 .intro n1 n2 o1 o2 b hn1 hn2 hb1 hb2;rcases old n1 o1 b hn1 hb1 with⟨m1,p1,e1,e2,e3⟩|⟨_,e⟩
  .rcases old n2 o2 b hn2 hb2 with⟨m2,p2,f1,f2,f3⟩|⟨_,e'⟩
   .have:=i.inj m1 m2 p1 p2 b e2 f2 e3 f3
    simp_all
   .exact e' n1 o1 hn1 hb1
  .exact (e n2 o2 hn2 hb2).symm
 .refine⟨?_,(hgl j row e).1.2.same (hgl j row e).1.1 hwg⟩;have:=h0.rv gC hw gf (hgl j row e).1.1
  simpa only[AV.tr,pR,(hgl j row e).2 f]using this
noncomputable def Gh.tr(f:Nm->Option Nm)(g:Gh):Gh:=
 {C:=g.C,φ:=λx=>open Classical in if h:∃k,f k=Z x then g.φ h.choose else Y,κ:=λx=>open Classical in if h:∃k,f k=Z x then g.κ h.choose else 0}
theorem Gh.gK{f:Nm->Option Nm}(hf:∀k k' x,f k=Z x->f k'=Z x->k=k'){k k':Nm}(h:f k=Z k'):(g.tr f).φ k'=g.φ k/\(g.tr f).κ k'=g.κ k:=by
 have he:∃k,f k=Z k':=⟨k,h⟩
 grind[tr]
theorem kA.kl{n:Nm}(h:n.z6=M):kA g (g.tr (kl n)):=λk i j=>by
 grind[Hm.kl,Ik,Gh.gK]
theorem kA.mv{n0 n1:Nm}(h:n0.z6=M)(h':n1.z6=M):kA g (g.tr (mv n0 n1)):=λk i j=>by
 grind[Hm.mv,Ik,Gh.gK,Do]
theorem Rg.rename(h:Rg P own C w0 g st a w){f:Nm->Option Nm}{hp':Nm->Option AO}(hf:∀k k' x,f k=Z x->f k'=Z x->k=k')
  (hobj:∀n' o',hp' n'=Z o'->∃n o,f n=Z n'/\st.hp n=Z o/\o'=o.tr f):Rg P own C w0 (g.tr f) (st.nm f hp') a w:=
 h.step rfl (λ_ _ e=>Gh.gK hf e) rfl rfl rfl (qb _) (λ_ _=>rfl) (λ_ _ _=>rfl) (λn' o' e=>by
  simp_all)
theorem D4{n:Nm}{hp:Nm->Option AO}{n':Nm}{o':AO}(e:jN n hp n'=Z o'):∃o,kl n n'=Z n'/\hp n'=Z o/\o'=o.tr (kl n):=by
 grind[jN,zq,kl]
theorem Rg.move(h:Rg P own C w0 g st a w)(n0 n1:Nm):Rg P own C w0 (g.tr (mv n0 n1)) (st.move n0 n1) a w:=
 h.rename (λ_ _ _=>Do) (λn' o' e=>by
  grind[jP,zq,mv])
theorem xN{n m:Nm}(h:Nm.under n m=B):(g.tr (kl n)).φ m=Y:=by
 grind[Gh.tr,kl]
theorem Rg.put{d:Option Nat}{v:Value}{x:AV}(h:Rg P own C w0 g st a w)(hd:∀t,d=Z t->t<st.n)(hv:RV g w v x):Rg P own C w0 g (st.put d x) (a.put d v) w:=by
 cases d with
 |none=>exact h
 |some d=>
  obtain⟨i,hdf,hs,hsl,hgl⟩:=h;refine⟨i,hdf,by grind[Act.put,St.put],λt=>?_,hgl⟩
  simp_all<;>grind[Act.put,St.put]
def Rg.weaken(h:Rg P own C w0 g st a w)(hp':Nm->Option AO)(sub:∀m o,hp' m=Z o->st.hp m=Z o):Rg P own C w0 g {tm:=st.tm,hp:=hp',n:=st.n,gl:=st.gl} a w:=by
 obtain⟨i,hd,hs,hsl,hgl⟩:=h;exact⟨⟨i.os,i.tape,i.output,i.size,i.wx,i.hC,i.ur,λm o e=>i.obj m o (sub m o e),λm o b e=>i.qG m o b (sub m o e),λm m' o o' b e e'=>i.inj m m' o o' b (sub m o e) (sub m' o' e')⟩,hd,hs,hsl,hgl⟩
theorem Rg.NC(h:Rg P own C w0 g st a w)(n:Nm)(z:Nat):∃g',Rg P own C w0 g' ((st.kill n).zW n (.row z [])) a w/\RV g' w (.slice Y 0 0) (.hs n z 0 0)/\(n.z6=M->kA g g')/\∀v x,RV g w v x->RV g' w v (x.tr (kl n)):=by
 have gf:∀k k',kl n k=Z k'->(g.tr (kl n)).φ k'=g.φ k/\(g.tr (kl n)).κ k'=g.κ k:=λ_ _ e=>Gh.gK (λ_ _ _=>MJ) e
 have hs:=h.step (g':=g.tr (kl n)) (w':=w) (f:=kl n) (hp':=((st.kill n).zW n (.row z [])).hp) rfl gf rfl rfl rfl (qb _) (λ_ _=>rfl) (λ_ _ _=>rfl) (λn' o' e=>by
  simp only[St.zW]at e
  split at e
  .grind[jd,xN,Nm.uQ]
  .obtain⟨o,e1,e2,e3⟩:=D4 e
   grind)
 exact⟨_,hs,.de n z (xN (Nm.uQ n)),λhu=>.kl hu,λv x hx=>h.rv (g':=g.tr (kl n)) rfl (λ_ _=>rfl) gf hx⟩
end
end Go.Hm
end
section
namespace Go.Hm
open Go Go.RowKit
variable{P:Program}{T e:TypeId}{b f o off p:Nat}{cs xs ys:List AV}{k:IntKind}{n:Int}{op:BinOp}{r t:Bool}{v v1 v2:Value}{x y z:AV}{xo:Operand}
def jR(P:Program)(T:TypeId):Option Bool:=
 if(P.info? T).isSome then
  match P.underlying T with
  |some (.struct _)=>Z B
  |some (.array _ _)=>Z B
  |some _=>Z M
  |none=>Y
 else Y
def y7(P:Program)(T:TypeId):Option TypeId:=
 match P.underlying T with
 |some (.slice e)=>if(P.info? e).isSome then Z e else Y
 |_=>Y
def eO(P:Program)(T:TypeId):Option (Nat×TypeId):=
 match P.underlying T with
 |some (.array n e)=>if(P.info? e).isSome then Z (n,e)else Y
 |_=>Y
def qn(P:Program)(T:TypeId)(f:Nat):Option (Nat×TypeId):=
 match P.underlying T with
 |some (.struct fs)=>match fs[f]? with
  |some fd=>if qi P fd.type=0 then Y else Z (fd.offset,fd.type)
  |none=>Y
 |_=>Y
def yH(P:Program)(T:TypeId):Option (List Value):=((P.info? T).bind (·.zero)).map (λz=>z.cells.toList)
def nM{w:World}(h:(P.info? T).isSome):(sizeOf T).run P w=.ok (qi P T) w:=by
 obtain⟨i,hi⟩:=CU.1 h;simp[sizeOf,typeInfo,hi,qi]
def uA{w:World}{d:TypeDesc}(h:P.underlying T=Z d):(underlying T).run P w=.ok d w:=by
 simp[underlying,h]
theorem Un(h:qi P T≠0):(P.info? T).isSome:=by
 unfold qi at h
 cases hi:P.info? T<;>grind
theorem xn{w:World}(h:jR P T=Z t):(isAgg T).run P w=.ok t w:=by
 unfold jR at h
 split at h
 .cases hu:P.underlying T with
  |none=>simp_all
  |some d=>cases d<;>simp[hu]at h<;>simp[isAgg,underlying,hu,h]
 .cases h
theorem Lr(h:jR P T=Z t):(P.info? T).isSome:=by
 grind[jR]
def AV.one:AV->Bool
 |.sc v=>v.oneCell'
 |.agg _=>M
 |.zT _=>M
 |.bot=>M
 |_=>B
def AV.cells:AV->Option (List AV)
 |.agg cs=>if cs.all AV.one then Z cs else Y
 |a=>if a.one then Z [a]else Y
def db(P:Program)(T:TypeId)(cs:List AV)(off:Nat):Option AV:=
 match jR P T with
 |some B=>if off+qi P T<=O cs then Z (.agg ((cs.drop off).take (qi P T)))else Y
 |some M=>cs[off]?
 |none=>Y
theorem SQ(h:v.oneCell'=B):v.cells=#[v]:=by
 cases v<;>first|rfl|grind[Value.oneCell']
section
variable{P:Program}{own:Nat->Prop}{C:Nat->Prop}{w0:World}{g:Gh}{st:St}{a:Act}{w:World}
theorem RV.jF{u:Value}(h:RV g w v (.sc u)):v=u:=by
 cases h;rfl
def sZ(h:RV g w v (.agg cs)):∃vs:List Value,v=.agg vs.toArray/\O vs=O cs/\∀(j:Nat)y,cs[j]?=Z y->∃u,vs[j]?=Z u/\RV g w u y:=by
 cases h with
 |agg vs cs hl hr=>
  refine⟨vs,rfl,hl,λj y hy=>?_⟩;have hlt:j<O vs:=qx;exact⟨_,gE hlt,hr j _ y (gE hlt) hy⟩
def qD8(h:RV g w v (.zT cs)):∃vs:List Value,v=.tuple vs.toArray/\O vs=O cs/\∀(j:Nat)y,cs[j]?=Z y->∃u,vs[j]?=Z u/\RV g w u y:=by
 cases h with
 |zT vs cs hl hr=>
  refine⟨vs,rfl,hl,λj y hy=>?_⟩;have hlt:j<O vs:=qx;exact⟨_,gE hlt,hr j _ y (gE hlt) hy⟩
theorem RV.NP(h:RV g w v x)(ho:x.one=B):v.oneCell'=B:=by
 cases h<;>first|rfl|exact ho|grind[AV.one]
theorem RV.cells{v:Value}{x:AV}{cs:List AV}(h:RV g w v x)(hc:x.cells=Z cs):
  v.cells.toList.length=O cs/\(∀u∈v.cells.toList,u.oneCell'=B)/\∀(j:Nat)u y,v.cells.toList[j]?=Z u->cs[j]?=Z y->RV g w u y:=by
 by_cases hx:∃ds,x=.agg ds
 .obtain⟨ds,rfl⟩:=hx;simp only[AV.cells]at hc
  split at hc
  .rename_i hall;obtain rfl:=sI hc;have hone:∀y∈ds,y.one=B:=λy hy=>yn.1 hall y hy
   cases h with
   |agg vs cs hl hr=>
    refine⟨by grind[Value.cells],?_,λj u y hu hy=>hr j u y (by grind[Value.cells]) hy⟩;intro u hu;simp only[Value.cells]at hu;obtain⟨j,hj⟩:=ko hu;have hlt:j<O ds:=qx;exact(hr j u _ hj (gE hlt)).NP (hone _ (List.getElem_mem hlt))
  .cases hc
 .have hc':(if x.one then Z [x]else Y)=Z cs:=by
   cases x<;>first|exact hc|simp_all
  split at hc'
  .rename_i ho;obtain rfl:=sI hc';have h1:=h.NP ho
   grind[SQ]
  grind
theorem OX{f:Nat->Value}(hq:db P T cs off=Z x)
  (hcell:∀j,j<O cs->w.cell? ⟨b,o+j,Y⟩=Z (f j))(hr:∀(j:Nat)y,cs[j]?=Z y->RV g w (f j) y):
  ∃v,(loadVar T ⟨b,o+off,Y⟩).run P w=.ok v w/\RV g w v x:=by
 unfold db at hq
 split at hq
 .rename_i hagg
  split at hq
  .rename_i hle;obtain rfl:=sI hq;have hl:=run_loadCells (P:=P) (w:=w) ⟨b,o+off,Y⟩ (qi P T) (λj=>f (off+j)) (λj hj=>by grind[Addr.add_lit]);refine⟨.agg ((List.range (qi P T)).map (λj=>f (off+j))).toArray,?_,?_⟩
   .simp_all[loadVar,xn,nM,Lr]
   constructor<;>grind
  .cases hq
 .rename_i hagg;have hlt:off<O cs:=(gS hq).1
  simp_all[loadVar,xn]
 .cases hq
def ev(st:St):Operand->AV
 |.tmp t=>st.tm t
 |.const v=>.sc v
 |.global i=>match st.gl i with|some row=>.el row 0|none=>.bot
 |.func f=>.sc (.func (.func f) #[] #[])
def Rg.ev(h:Rg P own C w0 g st a w)(x:Operand):RV g w (a.eval x) (ev st x):=by
 cases x with
 |tmp t=>exact h.dG t
 |const v=>exact .sc v
 |global i=>
  simp only[Hm.ev,Act.eval]
  split
  .rename_i row hrow;exact(h.zM i row hrow).1.1
  .exact .bot _
 |func f=>exact .sc _
def bu(st:St):AV->Option (List AV×Nat)
 |.pt n off=>match st.hp n with
  |some (.row _ (r::_))=>Z (r,off)
  |_=>Y
 |.el row off=>Z (row,off)
 |.ep n z i off=>match st.hp n with
  |some (.row z' rows)=>if z'=z then(rows[i]?).map (λr=>(r,off))else Y
  |_=>Y
 |_=>Y
theorem Inv.rowAt{hp:Nm->Option AO}(h:Inv own C w0 g hp w){n:Nm}{z i:Nat}{rows:List (List AV)}{row:List AV}(hn:hp n=Z (.row z rows))(hk:g.φ n=Z b)(hi:rows[i]?=Z row):
  ∃f:Nat->Value,(∀j,j<O row->w.cell? ⟨b,i*z+j,Y⟩=Z (f j))/\(∀j,j<O row->(f j).oneCell'=B)/\∀(j:Nat)y,row[j]?=Z y->RV g w (f j) y:=by
 have ho:=h.obj n _ hn;simp only[jd,hk]at ho;obtain⟨cur,T,h1,h2,h3,h4,h5,h6,h7⟩:=ho;have hlen:O row=z:=h5 row (gM hi);have hlt:i<O rows:=(gS hi).1
 have hin:∀j,j<O row->i*z+j<O rows*z:=by
  intro j hj;have:(i+1)*z<=O rows*z:=bM _ hlt
  grind
 have hcur:∀j,j<O row->i*z+j<cur.size:=by
  grind[Value.oneCell',undef]
 refine⟨λj=>cur.getD (i*z+j) undef,?_,λj hj=>h6 _ (hin j hj),λj y hy=>h7 i row hi j y hy⟩
 simp_all<;>grind[cell_of_row]
def Rg.bu(h:Rg P own C w0 g st a w){v:Value}{x:AV}{cs:List AV}{off:Nat}(hv:RV g w v x)(hq:bu st x=Z (cs,off)):
  ∃(b o:Nat)(f:Nat->Value),v=.pointer (Z ⟨b,o+off,Y⟩)/\(∀j,j<O cs->w.cell? ⟨b,o+j,Y⟩=Z (f j))/\(∀j,j<O cs->(f j).oneCell'=B)/\∀(j:Nat)y,cs[j]?=Z y->RV g w (f j) y:=by
 cases x with
 |pt n o=>
  simp only[Hm.bu]at hq
  split at hq
  .rename_i z r rest hn;obtain⟨rfl,rfl⟩:=ga (sI hq)
   cases hv with
   |pt _ _ b hk=>
    obtain⟨f,f1,f2,f3⟩:=h.inv.rowAt hn hk (i:=0) rfl;exact⟨b,0,f,qB,λj hj=>qQ,f2,f3⟩
  .cases hq
 |el row o=>
  simp only[Hm.bu]at hq;obtain⟨rfl,rfl⟩:=ga (sI hq)
  cases hv with
  |el b o' off row f hC hcell ho hr=>exact⟨b,o',f,rfl,hcell,ho,λj y hy=>hr j y hy⟩
 |ep n z i o=>
  simp only[Hm.bu]at hq
  split at hq
  .rename_i z' rows hn
   split at hq
   .rename_i hz;subst hz;obtain⟨r,hr0,e⟩:=zq.1 hq;obtain⟨rfl,rfl⟩:=ga e
    cases hv with
    |ep _ _ _ _ b hk=>
     obtain⟨f,f1,f2,f3⟩:=h.inv.rowAt hn hk hr0;exact⟨b,i*z' ,f,rfl,f1,f2,f3⟩
   .cases hq
  .cases hq
 |_=>simp[Hm.bu]at hq
theorem qAf{x:Operand}(h:Rg P own C w0 g st a w)(hy:ev st x=y)(h1:bu st y=Z (cs,off))(h2:db P T cs off=Z z):
  ∃v,(Instr.loadAt T (a.eval x)).run P w=.ok v w/\RV g w v z:=by
 have hv:=h.ev x;rw[hy]at hv;obtain⟨b,o,f,e,hcell,_,hr⟩:=h.bu hv h1;obtain⟨v,hrun,hrv⟩:=OX h2 hcell hr
 grind[Instr.loadAt,Instr.sureAddr]
def rg(P:Program)(T:TypeId)(f:Nat):AV->Option AV
 |.pt n off=>(qn P T f).map (λp=>.pt n (off+p.1))
 |.el row off=>(qn P T f).map (λp=>.el row (off+p.1))
 |.ep n z i off=>(qn P T f).map (λp=>.ep n z i (off+p.1))
 |_=>Y
theorem IG(ht:qn P T f=Z (o,e)):(Instr.fieldAt T (.pointer (Z ⟨b,p,Y⟩)) f).run P w=.ok (.pointer (Z ⟨b,p+o,Y⟩)) w:=by
 unfold qn at ht
 split at ht
 .rename_i fs hu
  split at ht
  .rename_i fd hfd
   split at ht
   .cases ht
   .rename_i hz;obtain⟨rfl,rfl⟩:=ga (sI ht)
    simp_all[Instr.fieldAt,Instr.sureAddr,fieldPlace,Addr.add_lit,uA,nM,Un]
  .cases ht
 .cases ht
theorem qA3(hv:RV g w v y)(h1:rg P T f y=Z z):∃v',(Instr.fieldAt T v f).run P w=.ok v' w/\RV g w v' z:=by
 cases y with
 |pt n off=>
  obtain⟨⟨o,e⟩,ht,rfl⟩:=zq.1 h1
  cases hv with
  |pt _ _ b hk=>exact⟨_,IG ht,.pt n (off+o) b hk⟩
 |el row off=>
  obtain⟨⟨o,e⟩,ht,rfl⟩:=zq.1 h1
  cases hv with
  |el b o' off row f hC hcell ho hr=>exact⟨_,IG ht,by rw[dL];exact .el b o' (off+o) row f hC hcell ho hr⟩
 |ep n z i off=>
  obtain⟨⟨o,e⟩,ht,rfl⟩:=zq.1 h1
  cases hv with
  |ep _ _ _ _ b hk=>exact⟨_,IG ht,by rw[dL];constructor<;>grind⟩
 |_=>simp[rg]at h1
def BK(P:Program)(T:TypeId)(x:AV)(n:Int):Option AV:=
 match y7 P T with
 |some e=>match x with
  |.sl z rows=>if z=qi P e/\0<=n then(rows[n.toNat]?).map (λr=>.el r 0)else Y
  |.hs m z lo len=>if z=qi P e/\0<=n/\n<len then Z (.ep m z (lo+n.toNat) 0)else Y
  |_=>Y
 |none=>match eO P T with
  |some (len,e)=>if 0<=n/\n<len then(match x with
   |.pt m off=>Z (.pt m (off+n.toNat*qi P e))
   |.el row off=>Z (.el row (off+n.toNat*qi P e))
   |.ep m z i off=>Z (.ep m z i (off+n.toNat*qi P e))
   |_=>Y)else Y
  |none=>Y
theorem P1(h:y7 P T=Z e):P.underlying T=Z (.slice e)/\(P.info? e).isSome:=by
 grind[y7]
theorem P0{n:Nat}(h:eO P T=Z (n,e)):P.underlying T=Z (.array n e)/\(P.info? e).isSome:=by
 grind[eO]
def OY{len cap:Nat}(ht:y7 P T=Z e)(h0:0<=n)(h1:n<len):
  (Instr.indexAt T (.slice (Z ⟨b,p,Y⟩) len cap) (.int k n)).run P w=.ok (.pointer (Z ⟨b,p+n.toNat*qi P e,Y⟩)) w:=by
 obtain⟨hu,hi⟩:=P1 ht;simp only[Instr.indexAt,asIntOf,Sem.run_bind,Sem.run_pure,Result.andThen_ok,uA hu,h0,h1,and_self,if_true,nM hi,Addr.add_lit]
def IH{len:Nat}(ht:eO P T=Z (len,e))(h0:0<=n)(h1:n<len):
  (Instr.indexAt T (.pointer (Z ⟨b,p,Y⟩)) (.int k n)).run P w=.ok (.pointer (Z ⟨b,p+n.toNat*qi P e,Y⟩)) w:=by
 obtain⟨hu,hi⟩:=P0 ht;simp only[Instr.indexAt,asIntOf,Sem.run_bind,Sem.run_pure,Result.andThen_ok,uA hu,Instr.sureAddr,h0,h1,and_self,if_true,nM hi,Addr.add_lit]
theorem qAc(hv:RV g w v y)(h1:BK P T y n=Z z):∃v',(Instr.indexAt T v (.int k n)).run P w=.ok v' w/\RV g w v' z:=by
 unfold BK at h1
 split at h1
 .rename_i e ht
  cases y with
  |sl E rows=>
   simp only at h1
   split at h1
   .rename_i hc;obtain⟨rfl,h0⟩:=hc;obtain⟨r,hr0,rfl⟩:=zq.1 h1
    cases hv with
    |yV=>simp at hr0
    |eL b off cap len E rows f hC hn hcap hu hcell ho hr=>
     have hlt:n.toNat<len:=qx;have hlen:O r=qi P e:=hu r (gM hr0);refine⟨_,OY ht h0 qA,?_⟩;exact .el b (off+n.toNat*qi P e) 0 r (f n.toNat) hC (λj hj=>hcell n.toNat j hlt qA) (λj hj=>ho n.toNat j hlt qA) (λj y hy=>hr n.toNat r hr0 j y hy)
   .cases h1
  |hs m z' lo len=>
   simp only at h1
   split at h1
   .rename_i hc;obtain⟨rfl,h0,hlt⟩:=hc;obtain rfl:=sI h1
    cases hv with
    |de=>omega
    |bT _ _ _ _ b cap ad hk g1 g2 g3=>
     rw[g3 qA];refine⟨_,OY ht h0 qA,?_⟩;have:=RV.ep (g:=g) (w:=w) m (qi P e) (lo+n.toNat) 0 b hk
     grind
   .cases h1
  |_=>simp at h1
 .split at h1
  .rename_i len e ht
   split at h1
   .rename_i hc;obtain⟨h0,hlt⟩:=hc
    cases y with
    |pt m off=>
     obtain rfl:=sI h1
     cases hv with
     |pt _ _ b hk=>exact⟨_,IH ht h0 hlt,.pt m _ b hk⟩
    |el row off=>
     obtain rfl:=sI h1
     cases hv with
     |el b o' off row f hC hcell ho hr=>exact⟨_,IH ht h0 hlt,by rw[dL];exact .el b o' _ row f hC hcell ho hr⟩
    |ep m z' i off=>
     obtain rfl:=sI h1
     cases hv with
     |ep _ _ _ _ b hk=>exact⟨_,IH ht h0 hlt,by rw[dL];exact .ep m z' i _ b hk⟩
    |_=>simp at h1
   .cases h1
  .cases h1
end
section
variable{P:Program}{own:Nat->Prop}{C:Nat->Prop}{w0:World}{g:Gh}{st:St}{a:Act}{w:World}
def cG(k:IntKind)(op:BinOp)(x y:Int):Option AV:=
 match op with
 |.add=>Z (.sc (.int k (k.wrap (x+y))))
 |.sub=>Z (.sc (.int k (k.wrap (x-y))))
 |.mul=>Z (.sc (.int k (k.wrap (x*y))))
 |.quo=>if y=0 then Y else Z (.sc (.int k (k.wrap (x.tdiv y))))
 |.rem=>if y=0 then Y else Z (.sc (.int k (x.tmod y)))
 |.xor=>Z (.sc (.int k (k.wrap (BitVec.ofInt k.bits x ^^^ BitVec.ofInt k.bits y).toNat)))
 |.eql=>Z (.sc (.bool (x==y)))
 |.neq=>Z (.sc (.bool (x != y)))
 |.lss=>Z (.sc (.bool (decide (x<y))))
 |.leq=>Z (.sc (.bool (decide (x<=y))))
 |.gtr=>Z (.sc (.bool (decide (x > y))))
 |.geq=>Z (.sc (.bool (decide (x≥y))))
 |_=>Y
def sM(op:BinOp)(x y:ByteArray):Option AV:=
 match op with
 |.add=>if x.size+y.size<=9223372036854775807 then Z (.sc (.string (x++y)))else Y
 |.eql=>Z (.sc (.bool (x.toList==y.toList)))
 |.neq=>Z (.sc (.bool (!(x.toList==y.toList))))
 |_=>Y
def fb:List AV->List AV->Option Bool
 |[],[]=>Z B
 |.sc (.int .i64 x)::xs,.sc (.int .i64 y)::ys=>(fb xs ys).map (λr=>(x==y)&&r)
 |_,_=>Y
def CI(P:Program)(T:TypeId):Option Nat:=
 match P.underlying T with
 |some (.struct fs)=>if(fs.toList.zipIdx.all λ(f,j)=>f.name != "_"&&f.offset==j&&(match P.underlying f.type with|some (.int .i64)=>B|_=>M)&&(match jR P f.type with|some M=>B|_=>M))&&!P.stoodInHeld T&&!P.eqGuardType P.depth T then Z fs.size else Y
 |_=>Y
def E3(P:Program)(T:TypeId):Bool:=match P.underlying T with|some .bool=>B|_=>M
def oj(P:Program)(T:TypeId):Bool:=match P.underlying T with|some (.interface _)=>B|_=>M
def fg(P:Program)(T:TypeId):Bool:=match P.underlying T with|some (.pointer _)=>B|_=>M
def wZ(op:BinOp)(r:Bool):Option AV:=match op with|.eql=>Z (.sc (.bool r))|.neq=>Z (.sc (.bool (!r)))|_=>Y
def cd(P:Program)(T:TypeId)(op:BinOp)(cy:Bool)(x y:AV):Option AV:=
 match x,y with
 |.sc (.int k m),.sc (.int k' n)=>if k=k' then cG k op m n else Y
 |.sc (.string s),.sc (.string t)=>sM op s t
 |.sc (.bool s),.sc (.bool t)=>if E3 P T then wZ op (s==t)else Y
 |.agg xs,.agg ys=>match CI P T with
  |some n=>if O xs=n then(fb xs ys).bind (wZ op)else Y
  |none=>Y
 |.pt _ _,.sc (.pointer Y)=>if fg P T then wZ op M else Y
 |.el _ _,.sc (.pointer Y)=>if fg P T then wZ op M else Y
 |.ep _ _ _ _,.sc (.pointer Y)=>if fg P T then wZ op M else Y
 |.sc (.pointer Y),.sc (.pointer Y)=>if fg P T then wZ op B else Y
 |.jL _ _,.sc .nilIface=>if oj P T then wZ op M else Y
 |.sc .nilIface,.sc .nilIface=>if oj P T&&cy then wZ op B else Y
 |_,_=>Y
theorem qAd{x y:Int}(h:cG k op x y=Z z):∃v,(binOp op T (.int k x) (.int k y)).run P w=.ok v w/\RV g w v z:=by
 cases op<;>simp only[cG]at h<;>first
  |(cases h;done)
  |(obtain rfl:=sI h;exact⟨_,by simp[binOp,Op.intArith,Op.intCmp,Op.intBits];try rfl,.sc _⟩)
  |(split at h
    .cases h
    .rename_i hy;obtain rfl:=sI h;exact⟨_,by simp_all[binOp,Op.intDiv],.sc _⟩)
theorem qAo{x y:ByteArray}(h:sM op x y=Z z):∃v,(binOp op T (.string x) (.string y)).run P w=.ok v w/\RV g w v z:=by
 cases op<;>simp only[sM]at h<;>first
  |(cases h;done)
  |(obtain rfl:=sI h;exact⟨_,by constructor<;>grind,.sc _⟩)
  |(split at h
    .rename_i hs;obtain rfl:=sI h;refine⟨.string (x++y),?_,.sc _⟩
     have hm:¬(((x.size+y.size:Nat):Int) > IntKind.i64.max):=by
      simp_all<;>omega
     simp_all[binOp,Op.stringOp]
    .cases h)
theorem TC(h:fb (x::xs) ys=Z r):∃m n ys' r',x=.sc (.int .i64 m)/\ys=.sc (.int .i64 n)::ys'/\fb xs ys'=Z r'/\r=((m==n)&&r'):=by
 generalize hz:x::xs=zs at h;unfold fb at h
 grind[zq]
theorem TD(d:Nat):∀(fs:List Field)(o:Nat)(xs ys:List AV)(vx vy:Array Value)(r:Bool),
  (∀(j:Nat)f,fs[j]?=Z f->f.name ≠ "_"/\f.offset=o+j/\P.underlying f.type=Z (.int .i64)/\jR P f.type=Z M) ->
  (∀(j:Nat)y,xs[j]?=Z y->∃v,vx[o+j]?=Z v/\RV g w v y)->(∀(j:Nat)y,ys[j]?=Z y->∃v,vy[o+j]?=Z v/\RV g w v y)->O fs=O xs ->
  fb xs ys=Z r->(Op.eqFields (d+1) vx vy fs).run P w=.ok r w:=by
 intro fs
 induction fs with
 |nil=>
  intro o xs ys vx vy r hf hx hy hl h;have:xs=[]:=bN hl.symm;subst this
  cases ys<;>simp_all[fb,Op.eqFields]
 |cons f fs ih=>
  intro o xs ys vx vy r hf hx hy hl h
  cases xs with
  |nil=>simp at hl
  |cons x xs=>
   obtain⟨m,n,ys',r',rfl,rfl,hr',rfl⟩:=TC h
   .obtain⟨f1,f2,f3,f4⟩:=hf 0 f rfl;obtain⟨v1,hv1,hr1⟩:=hx 0 _ rfl;obtain⟨v2,hv2,hr2⟩:=hy 0 _ rfl;rw[hr1.jF]at hv1;rw[hr2.jF]at hv2
    have hp1:(part f.type vx f.offset).run P w=.ok (.int .i64 m) w:=by
     simp_all[part,xn]
    have hp2:(part f.type vy f.offset).run P w=.ok (.int .i64 n) w:=by
     simp_all[part,xn]
    have hih:=ih (o+1) xs ys' vx vy r' (λj f' hj=>by
      have:=hf (j+1) f' qQ
      grind)
     (λj y hj=>by have:=hx (j+1) y qQ;grind)
     (λj y hj=>by have:=hy (j+1) y qQ;grind)
     qQ hr'
    simp only[Op.eqFields,ne_eq,f1,not_false_eq_true,if_true,Sem.run_bind,hp1,Result.andThen_ok,hp2,run_equalIn_int w d f.type .i64 .i64 m n f3];by_cases hmn:m=n
    .simp_all
    simp_all
theorem P9{n:Nat}(h:CI P T=Z n):∃fs,P.underlying T=Z (.struct fs)/\fs.size=n/\P.stoodInHeld T=M/\P.eqGuardType P.depth T=M /\
  ∀(j:Nat)f,fs.toList[j]?=Z f->f.name ≠ "_"/\f.offset=j/\P.underlying f.type=Z (.int .i64)/\jR P f.type=Z M:=by
 unfold CI at h
 split at h
 .rename_i fs hu
  split at h
  .rename_i hc;simp only[yF,bl]at hc;obtain⟨⟨hall,h1⟩,h2⟩:=hc;refine⟨fs,hu,sI h,h1,h2,λj f hj=>?_⟩
   have hm:(f,j)∈fs.toList.zipIdx:=by
    grind
   grind
  .cases h
 .cases h
theorem qAX{n:Nat}(ht:CI P T=Z n)(h1:RV g w v1 (.agg xs))(h2:RV g w v2 (.agg ys))(hn:O xs=n)(hr:fb xs ys=Z r):
  (Op.equal T v1 v2).run P w=.ok r w:=by
 obtain⟨fs,hu,hs,hp,_,hf⟩:=P9 ht;obtain⟨vx,rfl,hl1,hx⟩:=sZ h1;obtain⟨vy,rfl,hl2,hy⟩:=sZ h2;have hfo:P.fieldsOf T=fs:=by simp[Program.fieldsOf,hu]
 have:=run_equalIn_struct (P:=P) w 9999 T vx.toArray vy.toArray qQ hp;rw[hfo]at this;unfold Op.equal Op.maxDepth;rw[this];refine TD (g:=g) 9998 fs.toList 0 xs ys _ _ r (λj f hj=>?_) (λj y hj=>?_) (λj y hj=>?_) (by simp[hs,hn]) hr<;>grind
def qA1{p q:Option Addr}(h:fg P T=B)(hq:q=Y):(Op.equal T (.pointer p) (.pointer q)).run P w=.ok p.isNone w:=by
 subst hq;unfold fg at h
 split at h
 .rename_i e hu
  have:∀d,(Op.equalIn (d+1) T (.pointer p) (.pointer Y)).run P w=.ok p.isNone w:=by
   intro d
   cases p<;>simp[Op.equalIn,underlying,hu]
  exact this 9999
 .cases h
theorem qA7{yo:Operand}{k':IntKind}{m:Int}:(eqGuard op T xo yo (.int k m) (.int k' n)).run P w=.ok () w:=by
 simp_all[eqGuard]
theorem qAa{yo:Operand}{m n:ByteArray}:(eqGuard op T xo yo (.string m) (.string n)).run P w=.ok () w:=by
 simp_all[eqGuard]
theorem qA9{yo:Operand}{m n:Option Addr}:(eqGuard op T xo yo (.pointer m) (.pointer n)).run P w=.ok () w:=by
 simp_all[eqGuard]
theorem RV.xm(h:RV g w v x)(hx:(∃id o,x=.pt id o)\/(∃r o,x=.el r o)\/∃n z i o,x=.ep n z i o):∃ad,v=.pointer (Z ad):=by
 rcases hx with⟨id,o,rfl⟩|⟨r,o,rfl⟩|⟨n,z,i,o,rfl⟩
 .cases h<;>grind
 .cases h<;>grind
 .cases h<;>grind
def qAY{x y:Bool}(h:E3 P T=B):(Op.equal T (.bool x) (.bool y)).run P w=.ok (x==y) w:=by
 unfold E3 at h
 split at h
 .rename_i hu
  have:∀d,(Op.equalIn (d+1) T (.bool x) (.bool y)).run P w=.ok (x==y) w:=by
   intro d;simp[Op.equalIn,underlying,hu]
  exact this 9999
 .cases h
theorem qA5{yo:Operand}{m n:Bool}:(eqGuard op T xo yo (.bool m) (.bool n)).run P w=.ok () w:=by
 simp_all[eqGuard]
def qAZ{t:TypeId}(h:oj P T=B):(Op.equal T (.iface t v) .nilIface).run P w=.ok M w:=by
 unfold oj at h
 split at h
 .rename_i ms hu
  have:∀d,(Op.equalIn (d+1) T (.iface t v) .nilIface).run P w=.ok M w:=by
   intro d;simp[Op.equalIn,underlying,hu]
  exact this 9999
 .cases h
def qA0(h:oj P T=B):(Op.equal T .nilIface .nilIface).run P w=.ok B w:=by
 unfold oj at h
 split at h
 .rename_i ms hu
  have:∀d,(Op.equalIn (d+1) T .nilIface .nilIface).run P w=.ok B w:=by
   intro d;simp[Op.equalIn,underlying,hu]
  exact this 9999
 .cases h
theorem qA6{t:TypeId}{yo:Operand}:(eqGuard op T xo yo (.iface t v) .nilIface).run P w=.ok () w:=by
 simp_all[eqGuard]
theorem qA8{c:Value}:(eqGuard op T xo (.const c) .nilIface .nilIface).run P w=.ok () w:=by
 simp_all[eqGuard]
def Bb(hi:∀op,op=.eql\/op=.neq->(binOp op T v1 v2).run P w=.ok (.bool (match op with|.eql=>r|_=>!r)) w)(h:wZ op r=Z z):
  ∃v',(binOp op T v1 v2).run P w=.ok v' w/\RV g w v' z:=by
 cases op<;>simp only[wZ]at h<;>first|(cases h;done)|skip
 .obtain rfl:=sI h;exact⟨_,hi .eql (.inl rfl),.sc _⟩
 .obtain rfl:=sI h;exact⟨_,hi .neq (.inr rfl),.sc _⟩
theorem qAT{yo:Operand}{cy:Bool}(hcy:cy=B->∃c,yo=.const c)(h1:RV g w v1 x)(h2:RV g w v2 y)(h:cd P T op cy x y=Z z):
  ∃v',(do eqGuard op T xo yo v1 v2;binOp op T v1 v2).run P w=.ok v' w/\RV g w v' z:=by
 have ptr:∀(p:Option Addr)(r:Bool),p.isNone=r->fg P T=B->wZ op r=Z z->∃v',(do eqGuard op T xo yo (.pointer p) (.pointer Y);binOp op T (.pointer p) (.pointer Y)).run P w=.ok v' w/\RV g w v' z:=by
  intro p r hp ht hz;have he:=qA1 (P:=P) (w:=w) (T:=T) (p:=p) ht rfl
  obtain⟨v',e1,e2⟩:=Bb (P:=P) (w:=w) (g:=g) (T:=T) (v1:=.pointer p) (v2:=.pointer Y) (r:=r) (λop ho=>by
   rcases ho with rfl|rfl<;>simp[binOp,he,hp]) hz
  simp_all[qA9]
 unfold cd at h
 split at h
 .obtain rfl:=h1.jF;obtain rfl:=h2.jF
  split at h
  .rename_i hk;subst hk;obtain⟨v',hr,hv⟩:=qAd (P:=P) (g:=g) (w:=w) (T:=T) h
   simp_all[qA7]
  .cases h
 .obtain rfl:=h1.jF;obtain rfl:=h2.jF;obtain⟨v',hr,hv⟩:=qAo (P:=P) (g:=g) (w:=w) (T:=T) h
  simp_all[qAa]
 .obtain rfl:=h1.jF;obtain rfl:=h2.jF
  split at h
  .rename_i s t ht;have he:=qAY (P:=P) (w:=w) (T:=T) (x:=s) (y:=t) ht
   obtain⟨v',e1,e2⟩:=Bb (P:=P) (w:=w) (g:=g) (T:=T) (v1:=.bool s) (v2:=.bool t) (r:=s==t) (λop ho=>by
    rcases ho with rfl|rfl<;>simp[binOp,he]) h
   simp_all[qA5]
  .cases h
 .rename_i xs ys;obtain⟨vs1,rfl,_⟩:=sZ h1;obtain⟨vs2,rfl,_⟩:=sZ h2
  split at h
  .rename_i n ht
   split at h
   .rename_i hn;obtain⟨r,hr,h⟩:=gb.1 h;have he:=qAX ht h1 h2 hn hr;obtain⟨fs,hu,hs,hp,hgd,hf⟩:=P9 ht
    obtain⟨v',e1,e2⟩:=Bb (P:=P) (w:=w) (g:=g) (T:=T) (v1:=.agg vs1.toArray) (v2:=.agg vs2.toArray) (r:=r) (λop ho=>by
     rcases ho with rfl|rfl<;>simp[binOp,he]) h
    simp_all[eqGuard]
   .cases h
  .cases h
 .obtain rfl:=h2.jF
  split at h
  .rename_i hp;obtain⟨ad,rfl⟩:=h1.xm (.inl ⟨_,_,rfl⟩)
   simp_all
  .cases h
 .obtain rfl:=h2.jF
  split at h
  .rename_i hp;obtain⟨ad,rfl⟩:=h1.xm (.inr (.inl ⟨_,_,rfl⟩))
   simp_all
  .cases h
 .obtain rfl:=h2.jF
  split at h
  .rename_i hp;obtain⟨ad,rfl⟩:=h1.xm (.inr (.inr ⟨_,_,_,_,rfl⟩))
   simp_all
  .cases h
 .obtain rfl:=h1.jF;obtain rfl:=h2.jF
  simp_all
 .obtain rfl:=h2.jF
  split at h
  .rename_i hp;have hv1:∃t v,v1=.iface t v:=by cases h1<;>grind
   obtain⟨t,v,rfl⟩:=hv1
   .have he:=qAZ (P:=P) (w:=w) (T:=T) (t:=t) (v:=v) hp
    obtain⟨v',e1,e2⟩:=Bb (P:=P) (w:=w) (g:=g) (T:=T) (v1:=.iface t v) (v2:=.nilIface) (r:=M) (λop ho=>by
     rcases ho with rfl|rfl<;>simp[binOp,he]) h
    simp_all[qA6]
  .cases h
 .obtain rfl:=h1.jF;obtain rfl:=h2.jF
  split at h
  .rename_i hp;simp only[yF]at hp;obtain⟨hp,hc⟩:=hp;obtain⟨c,rfl⟩:=hcy hc;have he:=qA0 (P:=P) (w:=w) (T:=T) hp
   obtain⟨v',e1,e2⟩:=Bb (P:=P) (w:=w) (g:=g) (T:=T) (v1:=.nilIface) (v2:=.nilIface) (r:=B) (λop ho=>by
    rcases ho with rfl|rfl<;>simp[binOp,he]) h
   simp_all[qA8]
  .cases h
 .cases h
end
end Go.Hm
end
