import Derived.WalkKit
import Derived.MapKept
import Derived.Laws.StructEq
import Derived.Laws.CopyRow
set_option linter.unusedSimpArgs false
set_option linter.unusedVariables false
set_option maxRecDepth 100000
set_option maxHeartbeats 4000000

section
namespace Go.Hm
open Go Go.RowKit
theorem qA {P:Prop} (h:P:=by omega):P:=h
theorem qB {P:Prop} (h:P:=by simp):P:=h
theorem qF {P:Prop} (h:P:=by simp;rfl):P:=h
theorem qH {P:Prop} (h:P:=by simp_all):P:=h
theorem qL {P:Prop} (h:P:=by decide):P:=h
theorem qM {P:Prop} (h:P:=by kernel_rfl):P:=h
theorem qe {P:Prop} (h:P:=by grind):P:=h
theorem qv {P:Prop} (h:P:=by simp;omega):P:=h
theorem qz {P:Prop} (h:P:=by simp [h1]):P:=h
theorem zB {P:Prop} (h:P:=by simp [hT]):P:=h
theorem q8 {P:Prop} (h:P:=by simp;exact Yi (by omega) (by omega)):P:=h
theorem qj {P:Prop} (h:P:=by simp [h2]):P:=h
theorem qn {P:Prop} (h:P:=by simp [hp2]):P:=h
theorem qu {P:Prop} (h:P:=by simp [h0]):P:=h
theorem zA {P:Prop} (h:P:=by simp [h5]):P:=h
theorem zE {P:Prop} (h:P:=by simpa using ht):P:=h
theorem zL {P:Prop} (h:P:=by simp [h6]):P:=h
theorem zK {P:Prop} (h:P:=by simp [];first|done|rfl|exact (iS _).symm):P:=h
theorem zN {P:Prop} (h:P:=by simp [h3]):P:=h
theorem zU {P:Prop} (h:P:=by simp [qS]):P:=h
theorem zT {P:Prop} (h:P:=by first|(simp [];done)|(simp [];rfl)):P:=h
theorem zS {P:Prop} (h:P:=by simpa using hf):P:=h
theorem zj {P:Prop} (h:P:=by and_intros<;>kernel_rfl):P:=h
theorem zo {P:Prop} (h:P:=by simp [hU]):P:=h
theorem jU {P:Prop} (h:P:=by simp [hH]):P:=h
theorem jW {P:Prop} (h:P:=by simp [h4]):P:=h
theorem jp {P:Prop} (h:P:=by simp [hp1]):P:=h
theorem yK {P:Prop} (h:P:=by first|(simp;done)|(simp;rfl)):P:=h
theorem yJ {P:Prop} (h:P:=by simp [hp3]):P:=h
theorem yY {P:Prop} (h:P:=by rw [beq_eq_false_iff_ne];omega):P:=h
theorem yX {P:Prop} (h:P:=by simp only [yo];omega):P:=h
theorem yW {P:Prop} (h:P:=by simp [h7]):P:=h
theorem vE {P:Prop} (h:P:=by simp [ho1]):P:=h
theorem vO {P:Prop} (h:P:=by simp [h28]):P:=h
theorem vN {P:Prop} (h:P:=by simp [hm.1]):P:=h
theorem va {P:Prop} (h:P:=by simp [hp6]):P:=h
theorem v8 {P:Prop} (h:P:=by simp [h9]):P:=h
theorem vt {P:Prop} (h:P:=by repeat (first|(with_reducible exact hO)|refine Be ?_|refine oD (by rfl) ?_|refine oF ?_|refine oC ?_|refine oE ?_|refine Bf ?_|exact (have h:=hO;YQ.re h))):P:=h
theorem vr {P:Prop} (h:P:=by simp [t0]):P:=h
theorem vq {P:Prop} (h:P:=by simp [fx];first|done|rfl):P:=h
theorem vo {P:Prop} (h:P:=by simp [h10]):P:=h
theorem vn {P:Prop} (h:P:=by first|(simp [fx];done)|(simp [fx];omega)|omega):P:=h
theorem uQ {P:Prop} (h:P:=by simp [t2]):P:=h
theorem uP {P:Prop} (h:P:=by simp [ho2 j r hj]):P:=h
theorem uO {P:Prop} (h:P:=by simp [ho3 j r hj]):P:=h
theorem uN {P:Prop} (h:P:=by cases e):P:=h
theorem ug {P:Prop} (h:P:=by simp [hp2']):P:=h
theorem uz {P:Prop} (h:P:=by simp [hp5]):P:=h
theorem kT {P:Prop} (h:P:=by cases h):P:=h
theorem kS {P:Prop} (h:P:=by simp [qV,hk]):P:=h
theorem kR {P:Prop} (h:P:=by simp [qd,hk]):P:=h
theorem wG {P:Prop} (h:P:=by simp [t5]):P:=h
theorem wF {P:Prop} (h:P:=by simp [t0,hT]):P:=h
theorem wW {P:Prop} (h:P:=by simp [h8]):P:=h
theorem wV {P:Prop} (h:P:=by simp [yd]):P:=h
theorem wU {P:Prop} (h:P:=by simp [hp4]):P:=h
theorem aV {P:Prop} (h:P:=by simp [uq,yd]):P:=h
theorem aU {P:Prop} (h:P:=by simp [ht]):P:=h
theorem aT {P:Prop} (h:P:=by simp [t6]):P:=h
theorem aS {P:Prop} (h:P:=by simp [];rfl):P:=h
theorem aR {P:Prop} (h:P:=by simp [h2];rfl):P:=h
theorem bA {P:Prop} (h:P:=by simp [h]):P:=h
theorem ax {P:Prop} (h:P:=by simp [(he q v hq).names]):P:=h
theorem aw {P:Prop} (h:P:=by simp [(he q v hq).vals]):P:=h
theorem au {P:Prop} (h:P:=by simp [hO.scs.sc j k hj hk]):P:=h
theorem ar {P:Prop} (h:P:=by simp [hT,vg]):P:=h
theorem aq {P:Prop} (h:P:=by simp [Nm.under]):P:=h
theorem ap {P:Prop} (h:P:=by simp [t1]):P:=h
theorem ao {P:Prop} (h:P:=by simp [hO.scs.top]):P:=h
theorem cG {P:Prop} (h:P:=by simpa [hk,e] using hn):P:=h
theorem cF {P:Prop} (h:P:=by simp [hm]):P:=h
theorem cE {P:Prop} (h:P:=by simp [hF]):P:=h
theorem cD {P:Prop} (h:P:=by exact (have h:=hO;YQ.re h)):P:=h
theorem cC {P:Prop} (h:P:=by simp [Y2.top]):P:=h
theorem dM {P:Prop} (h:P:=by simp [Y2.top,hm0]):P:=h
theorem dL {P:Prop} (h:P:=by simp;exact DQ hat):P:=h
theorem dK {P:Prop} (h:P:=by simp [hn,YZ.push]):P:=h
theorem dJ {P:Prop} (h:P:=by simp [YZ.push,zf]):P:=h
theorem dI {P:Prop} (h:P:=by simp [(r2 q v hq).names]):P:=h
theorem dH {P:Prop} (h:P:=by simp [r1]):P:=h
theorem dG {P:Prop} (h:P:=by simp [jI]):P:=h
theorem dF {P:Prop} (h:P:=by simp [hf,YZ.push]):P:=h
theorem dE {P:Prop} (h:P:=by simp [(r2 q v hq).vals]):P:=h
theorem dD {P:Prop} (h:P:=by rfl):P:=h
theorem dC {P:Prop} (h:P:=by simp [vC]):P:=h
theorem eP {P:Prop} (h:P:=by simp [hr0]):P:=h
theorem eO {P:Prop} (h:P:=by simp [t3]):P:=h
theorem eN {P:Prop} (h:P:=by simp [hO.env i a ha]):P:=h
theorem eM {P:Prop} (h:P:=by simp [h11]):P:=h
theorem eL {P:Prop} (h:P:=by simp [hJ]):P:=h
theorem eK {P:Prop} (h:P:=by simp [zR]):P:=h
theorem gI {P:Prop} (h:P:=by simpa using hkd):P:=h
theorem gH {P:Prop} (h:P:=by simp [uh]):P:=h
theorem gG {P:Prop} (h:P:=by simp [t8]):P:=h
theorem gF {P:Prop} (h:P:=by simp [qk]):P:=h
theorem gD {P:Prop} (h:P:=by simp [hq]):P:=h
theorem gB {P:Prop} (h:P:=by simp [h12]):P:=h
theorem gA {P:Prop} (h:P:=by simp at h):P:=h
theorem fz {P:Prop} (h:P:=by simp [hp9]):P:=h
theorem lV {P:Prop} (h:P:=by simp at hv;omega):P:=h
theorem cu {P:Prop} (h:P:=by simp [vA]):P:=h
theorem ct {P:Prop} (h:P:=by simpa using h):P:=h
theorem cq {P:Prop} (h:P:=by grind[qV]):P:=h
theorem cp {P:Prop} (h:P:=by simp at hv):P:=h
theorem co {P:Prop} (h:P:=by simp [hp7]):P:=h
theorem cm {P:Prop} (h:P:=by simp [hLl]):P:=h
theorem ck {P:Prop} (h:P:=by simp [qU]):P:=h
theorem cj {P:Prop} (h:P:=by simp only at harg;omega):P:=h
theorem ci {P:Prop} (h:P:=by simp [h12];exact Yi (by omega) (by omega)):P:=h
theorem cg {P:Prop} (h:P:=by simp [hp8]):P:=h
theorem ce {P:Prop} (h:P:=by simp [zg]):P:=h
theorem ec {P:Prop} (h:P:=by first|(simp;done)|fail):P:=h
theorem eb {P:Prop} (h:P:=by rw [Xy hc]):P:=h
theorem ea {P:Prop} (h:P:=by rw [dN,hx,sQ,hL];simp [hsv]):P:=h
theorem eZ {P:Prop} (h:P:=by simp [s1]):P:=h
theorem eX {P:Prop} (h:P:=by obtain⟨_,h9,_,_,_,_,_,_,_,_,rfl⟩:=hO.top;exact⟨_,by first|(simp [h9];done)|(simp [h9];exact⟨rfl,rfl,rfl,rfl,rfl,rfl,rfl,rfl⟩),.mk⟩):P:=h
theorem eW {P:Prop} (h:P:=by simp [hp10]):P:=h
theorem eV {P:Prop} (h:P:=by simp [<- IZ];rfl):P:=h
theorem eU {P:Prop} (h:P:=by simp [h19]):P:=h
theorem eT {P:Prop} (h:P:=by simp [yZ]):P:=h
theorem eS {P:Prop} (h:P:=by simp [bz,hno]):P:=h
theorem eR {P:Prop} (h:P:=by simp [hO.bx k j hk hj]):P:=h
theorem eQ {P:Prop} (h:P:=by first|(simp [hp3];done)|(simp [hp3];rfl)):P:=h
theorem iM {P:Prop} (h:P:=by simp [zf]):P:=h
theorem iL {P:Prop} (h:P:=by simp [zC]):P:=h
theorem iK {P:Prop} (h:P:=by rw [Yi (by omega) (by omega)];omega):P:=h
theorem iJ {P:Prop} (h:P:=by simp [t9]):P:=h
theorem iI {P:Prop} (h:P:=by simp [St.kill]):P:=h
theorem iH {P:Prop} (h:P:=by simp [h18]):P:=h
theorem iG {P:Prop} (h:P:=by first|(simp [h0];done)|(simp [h0];rfl)):P:=h
theorem iF {P:Prop} (h:P:=by simp [(s2 q v hq).names]):P:=h
theorem iE {P:Prop} (h:P:=by simp [hT1]):P:=h
theorem iD {P:Prop} (h:P:=by simp [(s2 q v hq).vals]):P:=h
theorem iC {P:Prop} (h:P:=by simp [h14]):P:=h
theorem iB {P:Prop} (h:P:=by simp [yL]):P:=h
theorem iA {P:Prop} (h:P:=by simp [p8]):P:=h
theorem mc {P:Prop} (h:P:=by simp [Y2.stop]):P:=h
theorem mb {P:Prop} (h:P:=by grind[Y5.reads]):P:=h
theorem ma {P:Prop} (h:P:=by simp [hO.out]):P:=h
theorem mZ {P:Prop} (h:P:=by simp at e):P:=h
theorem mY {P:Prop} (h:P:=by simp [o1]):P:=h
theorem mX {P:Prop} (h:P:=by grind[jq]):P:=h
theorem mW {P:Prop} (h:P:=by simp;try omega):P:=h
theorem mV {P:Prop} (h:P:=by simp [ZG]):P:=h
theorem mU {P:Prop} (h:P:=by simp [h281]):P:=h
theorem mT {P:Prop} (h:P:=by first|(simp [hc1];done)|fail):P:=h
theorem mS {P:Prop} (h:P:=by grind[zg]):P:=h
theorem mR {P:Prop} (h:P:=by simp [qAB]):P:=h
theorem mQ {P:Prop} (h:P:=by simp [p92]):P:=h
theorem mP {P:Prop} (h:P:=by repeat (first|(with_reducible exact hOB)|refine KA ?_|refine Jz (by rfl) ?_|refine KC (by rfl) ?_|refine KB (by rfl) (by rfl) ?_|refine QX (by rfl) ?_|exact hOB)):P:=h
theorem mO {P:Prop} (h:P:=by grind[Y2.top]):P:=h
theorem mN {P:Prop} (h:P:=by simp [h15]):P:=h
theorem mM {P:Prop} (h:P:=by simp [p2]):P:=h
theorem mL {P:Prop} (h:P:=by simp [h20]):P:=h
theorem mK {P:Prop} (h:P:=by simp [hL]):P:=h
theorem mJ {P:Prop} (h:P:=by simpa using h2):P:=h
theorem mI {P:Prop} (h:P:=by simp [ye]):P:=h
theorem mH {P:Prop} (h:P:=by simp [o2]):P:=h
theorem mG {P:Prop} (h:P:=by first|(simp [hc2 j k hj hk];done)|fail):P:=h
theorem sD {P:Prop} (h:P:=by rw [e];simp):P:=h
theorem sC {P:Prop} (h:P:=by simp [bz,h2]):P:=h
theorem sB {P:Prop} (h:P:=by grind[YZ.next]):P:=h
theorem sA {P:Prop} (h:P:=by simp [h6];rfl):P:=h
theorem rz {P:Prop} (h:P:=by simp [uL]):P:=h
theorem ry {P:Prop} (h:P:=by simp [hnext,h5]):P:=h
theorem ru {P:Prop} (h:P:=by simp [lI]):P:=h
theorem rt {P:Prop} (h:P:=by simp [iZ,hv]):P:=h
theorem rr {P:Prop} (h:P:=by have h2:¬ (k=2/\i=0/\j=0):=(λh=>by rw [h.1] at hk;exact absurd hk (by decide));have h3:¬ (k=9/\i=0/\j=0):=(λh=>by rw [h.1] at hk;exact absurd hk (by decide));simpa [hk,e,h2,h3] using hn):P:=h
theorem rq {P:Prop} (h:P:=by simp [AW]):P:=h
theorem rp {P:Prop} (h:P:=by simp [hl.2]):P:=h
theorem ro {P:Prop} (h:P:=by repeat (first|(with_reducible exact hO2)|refine Be ?_|refine oD (by rfl) ?_|refine oF ?_|refine oC ?_|refine oE ?_|refine Bf ?_|exact (have h:=hO2;YQ.re h))):P:=h
theorem rm {P:Prop} (h:P:=by grind[bu]):P:=h
theorem rl {P:Prop} (h:P:=by simp [hp5,hn2]):P:=h
theorem rj {P:Prop} (h:P:=by simp [qg,hp]):P:=h
theorem ri {P:Prop} (h:P:=by simpa using hk1):P:=h
theorem rf {P:Prop} (h:P:=by simp [j5]):P:=h
theorem r9 {P:Prop} (h:P:=by simp [hne,e2]):P:=h
theorem r8 {P:Prop} (h:P:=by simp [sE]):P:=h
theorem r7 {P:Prop} (h:P:=by simp [hO.YT]):P:=h
theorem rZ {P:Prop} (h:P:=by grind[maxLen]):P:=h
theorem rY {P:Prop} (h:P:=by simp [hp63]):P:=h
theorem rX {P:Prop} (h:P:=by simp [<- hap]):P:=h
theorem rW {P:Prop} (h:P:=by simp [bz,h9]):P:=h
theorem rV {P:Prop} (h:P:=by simp [ti];exact Yi (by omega) (by omega)):P:=h
theorem rU {P:Prop} (h:P:=by simp [hp62]):P:=h
theorem rT {P:Prop} (h:P:=by rw [hT];simp):P:=h
theorem rR {P:Prop} (h:P:=by simp [hO.Zb]):P:=h
theorem rQ {P:Prop} (h:P:=by simp [h9,fM9]):P:=h
theorem rO {P:Prop} (h:P:=by simp [hne,e1]):P:=h
theorem rN {P:Prop} (h:P:=by grind[zR]):P:=h
theorem rM {P:Prop} (h:P:=by simp [zt]):P:=h
theorem rJ {P:Prop} (h:P:=by simp [wT]):P:=h
theorem rH {P:Prop} (h:P:=by simp [t4];rfl):P:=h
theorem rG {P:Prop} (h:P:=by simp [Yo]):P:=h
theorem rF {P:Prop} (h:P:=by grind[zF]):P:=h
theorem BM {P:Prop} (h:P:=by simp [ho2 j k hj hk]):P:=h
theorem BL {P:Prop} (h:P:=by rw [e,hyi] at hxi;obtain rfl:=sI hxi;simp at ht):P:=h
theorem BK {P:Prop} (h:P:=by rw [hge,kM,hl,kM] at heq;exact heq):P:=h
theorem BJ {P:Prop} (h:P:=by simp [bz,noH] at he):P:=h
theorem BI {P:Prop} (h:P:=by simp [h4];rfl):P:=h
theorem BH {P:Prop} (h:P:=by simp [AV.tr,ml]):P:=h
theorem BG {P:Prop} (h:P:=by grind[Region.wanted]):P:=h
theorem BF {P:Prop} (h:P:=by simp [Hm.shown,h1,h2,h3]):P:=h
theorem BE {P:Prop} (h:P:=by simp [h7];exact Yi (by omega) (by omega)):P:=h
theorem BD {P:Prop} (h:P:=by simp [hnext,hp5]):P:=h
theorem BC {P:Prop} (h:P:=by simp [bz,hV]):P:=h
theorem BB {P:Prop} (h:P:=by grind[getObj,Sem.run]):P:=h
theorem BA {P:Prop} (h:P:=by simpa using h1):P:=h
theorem Az {P:Prop} (h:P:=by rw [hv1];exact Yi (by omega) (by omega)):P:=h
theorem Ay {P:Prop} (h:P:=by simp [Value.ownBlock]):P:=h
theorem Ax {P:Prop} (h:P:=by simp [kl,(Zq (λ_=>qJ) hk i).2]):P:=h
theorem Aw {P:Prop} (h:P:=by simp [YZ.look,YZ.push,Y2.stop]):P:=h
theorem Av {P:Prop} (h:P:=by simp only [Bu];omega):P:=h
theorem Au {P:Prop} (h:P:=by simp [bV,aZ];omega):P:=h
theorem At {P:Prop} (h:P:=by simp [hm.1,hen2]):P:=h
theorem As {P:Prop} (h:P:=by simp only [OV];omega):P:=h
theorem Ar {P:Prop} (h:P:=by simp [jI,hr0]):P:=h
theorem Aq {P:Prop} (h:P:=by simpa [wR,hv0] using hv):P:=h
theorem Ap {P:Prop} (h:P:=by first|(simp [hp5];done)|(simp [hp5];rfl)):P:=h
theorem Ao {P:Prop} (h:P:=by simp [h6];exact Yi (by omega) (by omega)):P:=h
theorem An {P:Prop} (h:P:=by have:=hA.grow.left;omega):P:=h
theorem Am {P:Prop} (h:P:=by simp [hm0,Y2.top]):P:=h
theorem Al {P:Prop} (h:P:=by grind[zI]):P:=h
theorem Ak {P:Prop} (h:P:=by simp [qg,hb]):P:=h
theorem Aj {P:Prop} (h:P:=by simp [zG]):P:=h
theorem GP {P:Prop} (h:P:=by first|(simp [o5];done)|fail):P:=h
theorem GO {P:Prop} (h:P:=by simp only [jw,if_neg w1,hs]):P:=h
theorem GN {P:Prop} (h:P:=by first|(simp [(ne i c hc).ops];done)|fail):P:=h
theorem GM {P:Prop} (h:P:=by obtain rfl:=sI e;show d<st.n;omega):P:=h
theorem GL {P:Prop} (h:P:=by first|(simp [(ne i c hc).cells];done)|fail):P:=h
theorem GK {P:Prop} (h:P:=by first|(simp [q5];done)|fail):P:=h
theorem GJ {P:Prop} (h:P:=by first|(simp [mt];done)|fail):P:=h
theorem GI {P:Prop} (h:P:=by first|(simp [a3 j r hj];done)|fail):P:=h
theorem GH {P:Prop} (h:P:=by first|(simp [q1];done)|fail):P:=h
theorem GG {P:Prop} (h:P:=by first|(simp [o3];done)|fail):P:=h
theorem GF {P:Prop} (h:P:=by rw [eI hc];omega):P:=h
theorem GE {P:Prop} (h:P:=by first|(simp [(ne i c hc).qAF];done)|fail):P:=h
theorem GD {P:Prop} (h:P:=by simp [h4];exact Yi (by omega) (by omega)):P:=h
theorem GC {P:Prop} (h:P:=by simp [hO1.scs.sc j k hj hk]):P:=h
theorem GB {P:Prop} (h:P:=by first|(simp [(me i c hc).cells];done)|fail):P:=h
theorem GA {P:Prop} (h:P:=by simp [(t2 q v hq).vals]):P:=h
theorem Fz {P:Prop} (h:P:=by intro i x hi hx;rw [yh] at hi;have e:=oG hi;simp only [ZG] at hx;rw [if_neg (by simp),if_neg (by simp)] at hx;simp [hx,e.1,e.2.1,e.2.2.1,e.2.2.2]):P:=h
theorem Fy {P:Prop} (h:P:=by first|(simp [nt];done)|fail):P:=h
theorem Fx {P:Prop} (h:P:=by first|(simp [kt];done)|fail):P:=h
theorem Fw {P:Prop} (h:P:=by first|(simp [ho1];done)|fail):P:=h
theorem Fv {P:Prop} (h:P:=by first|(simp;done)|(simp;rw [P6 (by omega)])):P:=h
theorem Fu {P:Prop} (h:P:=by first|(simp [(me i c hc).YV];done)|fail):P:=h
theorem Ft {P:Prop} (h:P:=by first|(simp [o4];done)|fail):P:=h
theorem Fs {P:Prop} (h:P:=by first|(simp [(ke i c hc).ops];done)|fail):P:=h
theorem Fr {P:Prop} (h:P:=by first|((repeat' (first|exact .nil|refine .cons ?_ ?_|exact .refl _|exact ya (by simp [fx];first|done|rfl) (by first|(simp [fx];done)|(simp [fx];omega)|omega)|exact kA (by simp [fx];first|done|rfl) (by first|(simp [fx];done)|(simp [fx];omega)|omega) (by first|(simp;done)|fail)|exact vP (n:=.s 8) (vs:=R) ⟨by simp [s1],λq v hq=>⟨by simp [(s2 q v hq).names],by simp [(s2 q v hq).vals]⟩⟩ rfl|exact vP (n:=.s 6) (vs:=R) ⟨by simp [r1],λq v hq=>⟨by simp [(r2 q v hq).names],by simp [(r2 q v hq).vals]⟩⟩ rfl));done)|fail):P:=h
theorem Fq {P:Prop} (h:P:=by first|(simp [q3];done)|fail):P:=h
theorem Fp {P:Prop} (h:P:=by first|(simp [b1];done)|fail):P:=h
theorem Fo {P:Prop} (h:P:=by intro x0;induction x0<;>grind[St.Yp,St.Yf]):P:=h
theorem Fm {P:Prop} (h:P:=by first|(simp [(ke i c hc).YV];done)|fail):P:=h
theorem Fl {P:Prop} (h:P:=by intro i x hi hx;rw [yh] at hi;have e:=oG hi;simp [hx,e.1,e.2.1,e.2.2.1,e.2.2.2]):P:=h
theorem Fk {P:Prop} (h:P:=by grind[YZ.push,YZ.next]):P:=h
theorem Fj {P:Prop} (h:P:=by first|(simp [a2 j r hj];done)|fail):P:=h
theorem Fi {P:Prop} (h:P:=by simp only [EN];omega):P:=h
theorem Fh {P:Prop} (h:P:=by first|(simp [q2];done)|fail):P:=h
theorem Fg {P:Prop} (h:P:=by first|(simp [ho2 j r hj];done)|fail):P:=h
theorem Ff {P:Prop} (h:P:=by simp only [jw,if_neg w1,hs,if_true]):P:=h
theorem Fe {P:Prop} (h:P:=by simp [(t2 q v hq).names]):P:=h
theorem Fd {P:Prop} (h:P:=by grind[kK,Y5.reads]):P:=h
theorem Fc {P:Prop} (h:P:=by obtain rfl:=sI e;exact hn):P:=h
theorem Fb {P:Prop} (h:P:=by first|(simp [(ke i c hc).qAF];done)|fail):P:=h
theorem Fa {P:Prop} (h:P:=by first|(simp [b2 j r hj];done)|fail):P:=h
theorem F9 {P:Prop} (h:P:=by simp only [jw,if_neg w1,hs,if_neg w0]):P:=h
theorem F8 {P:Prop} (h:P:=by first|(simp [o2];done)|fail):P:=h
theorem F7 {P:Prop} (h:P:=by rw [hat];exact (have h:=hO1;YQ.re h)):P:=h
theorem F6 {P:Prop} (h:P:=by first|(simp [(ke i c hc).cells];done)|fail):P:=h
theorem F5 {P:Prop} (h:P:=by first|(simp [b3 j r hj];done)|fail):P:=h
theorem F4 {P:Prop} (h:P:=by first|(simp [ho3 j r hj];done)|fail):P:=h
theorem F3 {P:Prop} (h:P:=by first|(simp [(ke i c hc).params];done)|fail):P:=h
theorem F2 {P:Prop} (h:P:=by first|(simp [o1];done)|fail):P:=h
theorem F1 {P:Prop} (h:P:=by first|(simp [(me i c hc).params];done)|fail):P:=h
theorem F0 {P:Prop} (h:P:=by first|(simp [(ne i c hc).params];done)|fail):P:=h
theorem FZ {P:Prop} (h:P:=by first|(simp [a1];done)|fail):P:=h
theorem FY {P:Prop} (h:P:=by first|(simp [(me i c hc).ops];done)|fail):P:=h
theorem FX {P:Prop} (h:P:=by first|(simp [q4];done)|fail):P:=h
theorem FW {P:Prop} (h:P:=by first|(simp [(me i c hc).qAF];done)|fail):P:=h
theorem FV {P:Prop} (h:P:=by first|(simp [(ne i c hc).YV];done)|fail):P:=h
theorem FU {P:Prop} (h:P:=by simp [ht,jb (n:=.s 4) (m:=root) (f:=jY Z5 [(.s 4,root)]) (by simp)]):P:=h
theorem FT {P:Prop} (h:P:=by simp [h5];exact Yi (by omega) (by omega)):P:=h
theorem FR {P:Prop} (h:P:=by rw [jq hc];exact hp.stm _ k hk s hs):P:=h
theorem NQ {P:Prop} (h:P:=by rw [k6];exact cL gl DY9 (λ_=>ID) _ R' (yo fs.length) k vs f.Yw k2 k3 k4 k5 (by omega) yoh):P:=h
theorem NP {P:Prop} (h:P:=by first|(simp [h9];done)|(simp [h9];exact⟨rfl,rfl,rfl,rfl,rfl,rfl,rfl,rfl⟩)):P:=h
theorem NO {P:Prop} (h:P:=by simp [Instr.lookup,zk hT,hg,hck,Instr.findKey,zk hkey,f1]):P:=h
theorem NN {P:Prop} (h:P:=by first|(simp [t7,p7,hcl2];done)|(simp [t7,p7,hcl2];rfl)):P:=h
theorem NM {P:Prop} (h:P:=by simp [Instr.lookup,zk hT,hg,hck,Instr.findKey,zk hkey,f1,hr0]):P:=h
theorem NL {P:Prop} (h:P:=by first|(simp [t7,h7,hqs];done)|(simp [t7,h7,hqs];rfl)):P:=h
theorem NK {P:Prop} (h:P:=by have:=Zq (λ_=>qJ) hk 7;simp [this.1,this.2,hk]):P:=h
theorem NJ {P:Prop} (h:P:=by rintro (rfl|rfl) <;> simp at hok <;> exact hok.1):P:=h
theorem NI {P:Prop} (h:P:=by repeat (first|(with_reducible exact hSm)|refine Q4 ?_|refine Ki hD ?_|refine Kk hD ?_|refine Kj hD ?_|refine Q5 hD ?_|exact hSm)):P:=h
theorem NH {P:Prop} (h:P:=by unfold Func.isWrapper;first|(rw [if_pos (by decide +kernel)];kernel_rfl)|(rw [if_neg (by decide +kernel)];exact⟨rfl,rfl⟩)):P:=h
theorem NG {P:Prop} (h:P:=by have:=Zq (λ_=>qJ) hk 8;simp [this.1,this.2,hk]):P:=h
theorem NF {P:Prop} (h:P:=by simp only [beq_eq_false_iff_ne,ne_eq];omega):P:=h
theorem NE {P:Prop} (h:P:=by first|((repeat' (first|exact .nil|refine .cons ?_ ?_|exact .refl _|exact ya (by simp [fx];first|done|rfl) (by first|(simp [fx];done)|(simp [fx];omega)|omega)|exact kA (by simp [fx];first|done|rfl) (by first|(simp [fx];done)|(simp [fx];omega)|omega) (by first|(simp;done)|fail)|exact vP (n:=.s 12) (vs:=R) ⟨by simp [t1],λq v hq=>⟨by simp [(t2 q v hq).names],by simp [(t2 q v hq).vals]⟩⟩ rfl|exact vP (n:=.s 6) (vs:=R) ⟨by simp [r1],λq v hq=>⟨by simp [(r2 q v hq).names],by simp [(r2 q v hq).vals]⟩⟩ rfl|exact vP (n:=.s 8) (vs:=wN R 1) ⟨by simp [s1],λq v hq=>⟨by simp [(s2 q v hq).names],by simp [(s2 q v hq).vals]⟩⟩ hml.symm));done)|fail):P:=h
theorem ND {P:Prop} (h:P:=by first|(simp [t5,p5,hcl2];done)|(simp [t5,p5,hcl2];rfl)):P:=h
theorem NC {P:Prop} (h:P:=by unfold zd;simp only [List.getLast?_append,List.getLast?_singleton,List.dropLast_concat,Option.some_or];exact (have h:=hO2;YQ.re h)):P:=h
theorem NB {P:Prop} (h:P:=by first|((repeat' (first|exact .nil|refine .cons ?_ ?_|exact .refl _|exact ya (by simp [fx];first|done|rfl) (by first|(simp [fx];done)|(simp [fx];omega)|omega)|exact kA (by simp [fx];first|done|rfl) (by first|(simp [fx];done)|(simp [fx];omega)|omega) (by first|(simp;done)|fail)|exact vP (n:=.s 8) (vs:=wN R 1) ⟨by simp [s1],λq v hq=>⟨by simp [(s2 q v hq).names],by simp [(s2 q v hq).vals]⟩⟩ hml.symm));done)|fail):P:=h
theorem NA {P:Prop} (h:P:=by rw [e6];exact gh gl D9 (λ_=>TE) _ rows' fs.length k a0 a1 a2 a3 a4 a5 vs f.Yw e2 e3 e4 e5 (by omega)):P:=h
theorem qp:type_of% @Nat.le_refl:=@Nat.le_refl
theorem iS:type_of% @Bool.not_not:=@Bool.not_not
theorem ui:type_of% @Option.map_eq_some_iff.{0,0}:=@Option.map_eq_some_iff
theorem kU:type_of% @List.getElem?_map.{0,0}:=@List.getElem?_map
theorem aW:type_of% @List.ext_getElem?.{0}:=@List.ext_getElem?
theorem a6:type_of% @Int.toNat_natCast:=@Int.toNat_natCast
theorem dN:type_of% @List.take_add_one.{0}:=@List.take_add_one
theorem bC:type_of% @List.take_of_length_le.{0}:=@List.take_of_length_le
theorem cK:type_of% @List.mem_append.{0}:=@List.mem_append
theorem dX:type_of% @List.getElem?_append_left.{0}:=@List.getElem?_append_left
theorem kM:type_of% @List.take_length.{0}:=@List.take_length
theorem uB:type_of% @List.all_eq_true.{0}:=@List.all_eq_true
theorem uS:type_of% @Nat.le_trans:=@Nat.le_trans
theorem uR:type_of% @Bool.and_eq_true:=@Bool.and_eq_true
theorem kE:type_of% @List.prefix_refl.{0}:=@List.prefix_refl
theorem kh:type_of% @List.getElem?_append_right.{0}:=@List.getElem?_append_right
theorem kg:type_of% @List.mem_singleton.{0}:=@List.mem_singleton
theorem wH:type_of% @List.mem_cons.{0}:=@List.mem_cons
theorem wk:type_of% @List.length_append.{0}:=@List.length_append
theorem ac:type_of% @Nat.lt_of_lt_of_le:=@Nat.lt_of_lt_of_le
theorem ab:type_of% @List.getElem?_of_mem.{0}:=@List.getElem?_of_mem
theorem a8:type_of% @Bool.not_eq_true:=@Bool.not_eq_true
theorem bU:type_of% @Option.map_some.{0,0}:=@Option.map_some
theorem bT:type_of% @List.getElem?_set.{0}:=@List.getElem?_set
theorem bS:type_of% @List.length_singleton.{0}:=@List.length_singleton
theorem cH:type_of% @Bool.false_eq_true:=@Bool.false_eq_true
theorem dV:type_of% @Nat.mul_le_mul_right:=@Nat.mul_le_mul_right
theorem dU:type_of% @Nat.add_assoc:=@Nat.add_assoc
theorem dT:type_of% @List.map_cons.{0,0}:=@List.map_cons
theorem dS:type_of% @Nat.lt_or_ge:=@Nat.lt_or_ge
theorem sQ:type_of% @List.map_append.{0,0}:=@List.map_append
theorem eh:type_of% @List.eq_nil_of_length_eq_zero.{0}:=@List.eq_nil_of_length_eq_zero
theorem eg:type_of% @List.mem_map.{0,0}:=@List.mem_map
theorem fm:type_of% @List.getElem?_cons_zero.{0}:=@List.getElem?_cons_zero
theorem iR:type_of% @Nat.eq_zero_or_pos:=@Nat.eq_zero_or_pos
theorem lZ:type_of% @List.map_congr_left.{0,0}:=@List.map_congr_left
theorem mf:type_of% @List.mem_cons_of_mem.{0}:=@List.mem_cons_of_mem
theorem nV:type_of% @List.getElem?_modify.{0}:=@List.getElem?_modify
theorem nT:type_of% @List.getElem?_eq_none.{0}:=@List.getElem?_eq_none
theorem nS:type_of% @List.append_assoc.{0}:=@List.append_assoc
theorem sP:type_of% @Prod.mk.inj.{0,0}:=@Prod.mk.inj
theorem sO:type_of% @Bool.not_eq_true':=@Bool.not_eq_true'
theorem sN:type_of% @Option.bind_eq_some_iff.{0,0}:=@Option.bind_eq_some_iff
theorem sM:type_of% @List.getD_eq_getElem?_getD.{0}:=@List.getD_eq_getElem?_getD
theorem sL:type_of% @Option.some.injEq.{0}:=@Option.some.injEq
theorem sK:type_of% @Nat.zero_add:=@Nat.zero_add
theorem sJ:type_of% @List.map_map.{0,0,0}:=@List.map_map
theorem sH:type_of% @List.map_nil.{0,0}:=@List.map_nil
theorem so:type_of% @Nat.add_zero:=@Nat.add_zero
theorem sm:type_of% @Bool.true_and:=@Bool.true_and
theorem sk:type_of% @List.cons_append.{0}:=@List.cons_append
theorem sj:type_of% @List.append_nil.{0}:=@List.append_nil
theorem B5:type_of% @Nat.add_mul:=@Nat.add_mul
theorem B4:type_of% @Nat.mul_comm:=@Nat.mul_comm
theorem B0:type_of% @Array.getElem?_eq_some_iff.{0}:=@Array.getElem?_eq_some_iff
theorem BZ:type_of% @Array.getElem?_toList.{0}:=@Array.getElem?_toList
theorem BY:type_of% @List.getElem?_cons_succ.{0}:=@List.getElem?_cons_succ
theorem BX:type_of% @Option.ne_none_iff_exists'.{0}:=@Option.ne_none_iff_exists'
theorem BW:type_of% @List.mem_range:=@List.mem_range
theorem BV:type_of% @List.drop_eq_getElem_cons.{0}:=@List.drop_eq_getElem_cons
theorem BU:type_of% @List.range_succ:=@List.range_succ
theorem BT:type_of% @List.take_append.{0}:=@List.take_append
theorem BS:type_of% @Bool.true_or:=@Bool.true_or
theorem Dy:type_of% @List.length_nil.{0}:=@List.length_nil
theorem Dx:type_of% @Nat.sub_self:=@Nat.sub_self
theorem Dw:type_of% @Prod.mk.injEq.{0,0}:=@Prod.mk.injEq
theorem Dv:type_of% @List.getElem?_append.{0}:=@List.getElem?_append
theorem Dt:type_of% @Option.bind_some.{0,0}:=@Option.bind_some
theorem Ds:type_of% @List.mem_filter.{0}:=@List.mem_filter
theorem Dr:type_of% @List.map_take.{0,0}:=@List.map_take
theorem Dq:type_of% @Nat.lt_trichotomy:=@Nat.lt_trichotomy
theorem Dp:type_of% @Option.isSome_iff_ne_none.{0}:=@Option.isSome_iff_ne_none
theorem G0:type_of% @List.mem_of_mem_take.{0}:=@List.mem_of_mem_take
theorem GZ:type_of% @List.length_map.{0,0}:=@List.length_map
theorem GY:type_of% @List.length_cons.{0}:=@List.length_cons
theorem GX:type_of% @List.length_eq_one_iff.{0}:=@List.length_eq_one_iff
theorem GW:type_of% @Bool.eq_false_iff:=@Bool.eq_false_iff
theorem Jk:type_of% @List.getElem?_take.{0}:=@List.getElem?_take
theorem Jj:type_of% @Array.getD_eq_getD_getElem?.{0}:=@Array.getD_eq_getD_getElem?
theorem Ji:type_of% @Nat.add_sub_cancel_left:=@Nat.add_sub_cancel_left
theorem Jh:type_of% @Bool.or_eq_true:=@Bool.or_eq_true
theorem Jg:type_of% @List.not_mem_nil.{0}:=@List.not_mem_nil
theorem Jf:type_of% @Nat.ne_of_lt:=@Nat.ne_of_lt
theorem Je:type_of% @List.map_drop.{0,0}:=@List.map_drop
theorem Jd:type_of% @Nat.lt_succ_iff_lt_or_eq:=@Nat.lt_succ_iff_lt_or_eq
theorem Nc:type_of% @Option.isSome_iff_exists.{0}:=@Option.isSome_iff_exists
theorem Nb:type_of% @Array.getElem?_setIfInBounds_ne.{0}:=@Array.getElem?_setIfInBounds_ne
theorem Na:type_of% @List.getElem?_mapIdx.{0,0}:=@List.getElem?_mapIdx
theorem N9:type_of% @List.prefix_append.{0}:=@List.prefix_append
theorem QR:type_of% @List.dropLast_concat_getLast.{0}:=@List.dropLast_concat_getLast
theorem aI {a b:Prop} (x:a) (y:b):a/\b:=⟨x,y⟩
theorem jD {p0 p1 p2:Prop} (x0:p0) (x1:p1) (y:p2):p0/\p1/\p2:=⟨x0,x1,y⟩
theorem j4 {p0 p1 p2 p3:Prop} (x0:p0) (x1:p1) (x2:p2) (y:p3):p0/\p1/\p2/\p3:=⟨x0,x1,x2,y⟩
theorem yl {p0 p1 p2 p3 p4:Prop} (x0:p0) (x1:p1) (x2:p2) (x3:p3) (y:p4):p0/\p1/\p2/\p3/\p4:=⟨x0,x1,x2,x3,y⟩
theorem kH {p0 p1 p2 p3 p4 p5:Prop} (x0:p0) (x1:p1) (x2:p2) (x3:p3) (x4:p4) (y:p5):p0/\p1/\p2/\p3/\p4/\p5:=⟨x0,x1,x2,x3,x4,y⟩
theorem kG {p0 p1 p2 p3 p4 p5 p6:Prop} (x0:p0) (x1:p1) (x2:p2) (x3:p3) (x4:p4) (x5:p5) (y:p6):p0/\p1/\p2/\p3/\p4/\p5/\p6:=⟨x0,x1,x2,x3,x4,x5,y⟩
theorem ko {p0 p1 p2 p3 p4 p5 p6 p7:Prop} (x0:p0) (x1:p1) (x2:p2) (x3:p3) (x4:p4) (x5:p5) (x6:p6) (y:p7):p0/\p1/\p2/\p3/\p4/\p5/\p6/\p7:=⟨x0,x1,x2,x3,x4,x5,x6,y⟩
theorem er {p0 p1 p2 p3 p4 p5 p6 p7 p8:Prop} (x0:p0) (x1:p1) (x2:p2) (x3:p3) (x4:p4) (x5:p5) (x6:p6) (x7:p7) (y:p8):p0/\p1/\p2/\p3/\p4/\p5/\p6/\p7/\p8:=⟨x0,x1,x2,x3,x4,x5,x6,x7,y⟩
theorem gJ {p0 p1 p2 p3 p4 p5 p6 p7 p8 p9:Prop} (x0:p0) (x1:p1) (x2:p2) (x3:p3) (x4:p4) (x5:p5) (x6:p6) (x7:p7) (x8:p8) (y:p9):p0/\p1/\p2/\p3/\p4/\p5/\p6/\p7/\p8/\p9:=⟨x0,x1,x2,x3,x4,x5,x6,x7,x8,y⟩
theorem jP {p0 p1 p2 p3 p4 p5 p6 p7 p8 p9 p10:Prop} (x0:p0) (x1:p1) (x2:p2) (x3:p3) (x4:p4) (x5:p5) (x6:p6) (x7:p7) (x8:p8) (x9:p9) (y:p10):p0/\p1/\p2/\p3/\p4/\p5/\p6/\p7/\p8/\p9/\p10:=⟨x0,x1,x2,x3,x4,x5,x6,x7,x8,x9,y⟩
theorem qQ {p0 p1 p2 p3 p4 p5 p6 p7 p8 p9 p10 p11 p12:Prop} (x0:p0) (x1:p1) (x2:p2) (x3:p3) (x4:p4) (x5:p5) (x6:p6) (x7:p7) (x8:p8) (x9:p9) (x10:p10) (x11:p11) (y:p12):p0/\p1/\p2/\p3/\p4/\p5/\p6/\p7/\p8/\p9/\p10/\p11/\p12:=⟨x0,x1,x2,x3,x4,x5,x6,x7,x8,x9,x10,x11,y⟩
theorem sI {α:Type _} {a b:α} (h:some a=some b):a=b:=Option.some.inj h
theorem lB {a b:Nat} (h:Nat.ble a b=true):a<=b:=Nat.le_of_ble_eq_true h
theorem gM {α:Type _} {l:List α} {i:Nat} {a:α} (h:l[i]?=some a):a∈l:=List.mem_of_getElem? h
theorem gS {α:Type _} {l:List α} {i:Nat} {a:α} (h:l[i]?=some a):∃ h:i<l.length,l[i]=a:=List.getElem?_eq_some_iff.1 h
theorem gE {α:Type _} {l:List α} {i:Nat} (h:i<l.length):l[i]?=some l[i]:=List.getElem?_eq_getElem h
theorem gX {α:Type _} {l:List α} {i:Nat} (h:i<l.length):∃ a,l[i]?=some a:=⟨_,gE h⟩
inductive Nm where
 | s (d:Nat)
 | c (n:Nm) (i j:Nat)
 | u (k i j:Nat)
 deriving DecidableEq
def Nm.under (k0:Nm):Nm->Bool
 | .s d=>decide (Nm.s d=k0)
 | .u k i j=>decide (Nm.u k i j=k0)
 | .c q i j=>decide (Nm.c q i j=k0)||Nm.under k0 q
def Nm.Yq (k0 k1:Nm):Nm->Nm
 | .s d=>if Nm.s d=k0 then k1 else .s d
 | .u k i j=>if Nm.u k i j=k0 then k1 else .u k i j
 | .c q i j=>if Nm.c q i j=k0 then k1 else .c (Nm.Yq k0 k1 q) i j
def mv (k0 k1 k:Nm):Option Nm:=if Nm.under k0 k then some (Nm.Yq k0 k1 k) else if Nm.under k1 k then none else some k
def kl (k0 k:Nm):Option Nm:=if Nm.under k0 k then none else some k
inductive AV where
 | sc (v:Value)
 | sl (z:Nat) (rows:List (List AV))
 | el (row:List AV) (off:Nat)
 | hs (n:Nm) (z lo len:Nat)
 | pt (n:Nm) (off:Nat)
 | ep (n:Nm) (z i off:Nat)
 | mp (n:Nm)
 | agg (cs:List AV)
 | Zg (cs:List AV)
 | Zf (t:TypeId) (a:AV)
 | fn (f:Fn) (xs ys:List AV)
 | bot
inductive AO where
 | row (z:Nat) (rows:List (List AV))
 | map (es:List (AV×AV))
 | qAi (T:TypeId) (z:Nat) (ex:Bool) (rows:List (List AV))
mutual
def AV.tr (f:Nm->Option Nm):AV->AV
 | .sc v=>.sc v
 | .sl z rows=>.sl z (Nq f rows)
 | .el row off=>.el (trL f row) off
 | .hs n z lo len=>match f n with|some n'=>.hs n' z lo len|none=>.bot
 | .pt n off=>match f n with|some n'=>.pt n' off|none=>.bot
 | .ep n z i off=>match f n with|some n'=>.ep n' z i off|none=>.bot
 | .mp n=>match f n with|some n'=>.mp n'|none=>.bot
 | .agg cs=>.agg (trL f cs)
 | .Zg cs=>.Zg (trL f cs)
 | .Zf t a=>.Zf t (AV.tr f a)
 | .fn g xs ys=>.fn g (trL f xs) (trL f ys)
 | .bot=>.bot
def trL (f:Nm->Option Nm):List AV->List AV
 | []=>[]
 | a::l=>AV.tr f a::trL f l
def Nq (f:Nm->Option Nm):List (List AV)->List (List AV)
 | []=>[]
 | r::l=>trL f r::Nq f l
end
theorem ml (f:Nm->Option Nm) (l:List AV):trL f l=l.map (AV.tr f):=by
 induction l<;>grind[trL]
theorem lc (f:Nm->Option Nm) (l:List (List AV)):Nq f l=l.map (λr=>r.map (AV.tr f)):=by
 induction l<;>grind[Nq,ml]
def AO.tr (f:Nm->Option Nm):AO->AO
 | .row z rows=>.row z (rows.map (λr=>r.map (AV.tr f)))
 | .map es=>.map (es.map (λe=>(e.1.tr f,e.2.tr f)))
 | .qAi T z ex rows=>.qAi T z ex (rows.map (λr=>r.map (AV.tr f)))
theorem Nm.Y0 (k:Nm):Nm.under k k=true:=by cases k <;> simp [Nm.under]
theorem Nm.ZC {k0 k1:Nm}:∀ k,Nm.under k0 k=true->Nm.under k1 (Nm.Yq k0 k1 k)=true:=by
 intro k
 induction k<;>grind[under,Yq,Y0]
theorem Nm.ZJ {k0 q:Nm} {i j:Nat} (h:Nm.under k0 q=true):Nm.c q i j≠k0:=by
 have size:∀ k:Nm,Nm.under k0 k=true->SizeOf.sizeOf k0<=SizeOf.sizeOf k:=by
  intro k
  induction k<;>grind[under]
 grind
theorem Nm.qAh {k0 k1:Nm}:∀ k k',Nm.under k0 k=true->Nm.under k0 k'=true->Nm.Yq k0 k1 k=Nm.Yq k0 k1 k'->k=k':=by
 have base:∀ k:Nm,k=k0->Nm.Yq k0 k1 k=k1:=by
  intro k e
  cases k <;> simp [Nm.Yq,e]
 have leaf:∀ k k',k=k0->Nm.under k0 k'=true->Nm.Yq k0 k1 k=Nm.Yq k0 k1 k'->k=k':=by
  intro k k' h h' e;rw [base k h] at e
  cases k'<;>grind[under,Yq,ZJ,ZC]
 intro k
 induction k with
 | s d=>grind[under]
 | u a b d=>grind[under]
 | c q i j ih =>
  intro k' h h' e;by_cases hq:Nm.c q i j=k0
  .grind
  .by_cases hk':k'=k0
   .grind
   .simp [Nm.under,hq] at h;have e0:Nm.Yq k0 k1 (.c q i j)=.c (Nm.Yq k0 k1 q) i j:=by grind[Yq]
    rw [e0] at e
    cases k'<;>grind[under,Yq]
theorem HN {k0 k1 k k' x:Nm} (h:mv k0 k1 k=some x) (h':mv k0 k1 k'=some x):k=k':=by
 grind[mv,Nm.qAh,Nm.ZC]
theorem MK {k0 k x:Nm} (h:kl k0 k=some x):k=x/\Nm.under k0 x=false:=by
 grind[kl]
theorem ML {k0 k k' x:Nm} (h:kl k0 k=some x) (h':kl k0 k'=some x):k=k':=(MK h).1.trans (MK h').1.symm
theorem dB {α:Type} {r:List α} {off:Nat} {vals:List α} (h:off+vals.length<=r.length) (j:Nat) :
  (r.take off++vals++r.drop (off+vals.length))[j]?=if off<=j/\j<off+vals.length then vals[j - off]? else r[j]?:=by
 simp_all<;>grind
theorem na (cur:List Value) (o:Nat) (nv:List Value) (h:o+nv.length<=cur.length) (p:Nat) :
  ((cur.take o++nv++cur.drop (o+nv.length)).toArray).getD p undef=if o<=p/\p<o+nv.length then nv.getD (p - o) undef else cur.getD p undef:=by
 simp_all<;>grind
def Yh (P:Program) (T:TypeId):Nat:=((P.info? T).map (·.size)).getD 0
structure Gh where
 C:Nat->Prop
 φ:Nm->Option Nat
 κ:Nm->Nat
inductive RV (g:Gh) (w:World):Value->AV->Prop
 | sc (v:Value):RV g w v (.sc v)
 | Zv (ad:Option Addr) (cap:Nat) (z:Nat):RV g w (.slice ad 0 cap) (.sl z [])
 | slC (b off cap n z:Nat) (rows:List (List AV)) (f:Nat->Nat->Value) (hC:g.C b) (hn:rows.length=n) (hcap:n<=cap) (hu:∀ r∈rows,r.length=z)
   (hcell:∀ i j,i<n->j<z->w.cell? ⟨b,off+i * z+j,none⟩=some (f i j))
   (ho:∀ i j,i<n->j<z->(f i j).oneCell'=true)
   (hr:∀ (i:Nat) row,rows[i]?=some row->∀ (j:Nat) a,row[j]?=some a->RV g w (f i j) a):RV g w (.slice (some ⟨b,off,none⟩) n cap) (.sl z rows)
 | el (b o off:Nat) (row:List AV) (f:Nat->Value) (hC:g.C b)
   (hcell:∀ j,j<row.length->w.cell? ⟨b,o+j,none⟩=some (f j))
   (ho:∀ j,j<row.length->(f j).oneCell'=true)
   (hr:∀ (j:Nat) a,row[j]?=some a->RV g w (f j) a):RV g w (.pointer (some ⟨b,o+off,none⟩)) (.el row off)
 | hsN (n:Nm) (z:Nat) (hk:g.φ n=none):RV g w (.slice none 0 0) (.hs n z 0 0)
 | hsB (n:Nm) (z lo len b cap:Nat) (ad:Option Addr) (hk:g.φ n=some b) (h1:len<=cap) (h2:lo+cap=g.κ n) (h3:0<cap->ad=some ⟨b,lo * z,none⟩) :
   RV g w (.slice ad len cap) (.hs n z lo len)
 | pt (n:Nm) (off b:Nat) (hk:g.φ n=some b):RV g w (.pointer (some ⟨b,off,none⟩)) (.pt n off)
 | ep (n:Nm) (z i off b:Nat) (hk:g.φ n=some b):RV g w (.pointer (some ⟨b,i * z+off,none⟩)) (.ep n z i off)
 | mp (n:Nm) (b:Nat) (hk:g.φ n=some b):RV g w (.map (some b)) (.mp n)
 | agg (vs:List Value) (cs:List AV) (hl:vs.length=cs.length) (hr:∀ (j:Nat) v a,vs[j]?=some v->cs[j]?=some a->RV g w v a):RV g w (.agg vs.toArray) (.agg cs)
 | Zg (vs:List Value) (cs:List AV) (hl:vs.length=cs.length) (hr:∀ (j:Nat) v a,vs[j]?=some v->cs[j]?=some a->RV g w v a):RV g w (.tuple vs.toArray) (.Zg cs)
 | Zf (t:TypeId) (v:Value) (a:AV) (h:RV g w v a):RV g w (.iface t v) (.Zf t a)
 | fn (f:Fn) (vs us:List Value) (xs ys:List AV) (hl:vs.length=xs.length) (hl2:us.length=ys.length) (hr:∀ (j:Nat) v a,vs[j]?=some v->xs[j]?=some a->RV g w v a)
   (hr2:∀ (j:Nat) v a,us[j]?=some v->ys[j]?=some a->RV g w v a):RV g w (.func f vs.toArray us.toArray) (.fn f xs ys)
 | bot (v:Value):RV g w v .bot
theorem RV.tr {g g':Gh} {w w':World} {v:Value} {a:AV} {f:Nm->Option Nm} (h:RV g w v a) (hC:∀ b,g.C b->g'.C b) (hw:∀ b,g.C b->w'.heap[b]?=w.heap[b]?)
  (hf:∀ n n',f n=some n'->g'.φ n'=g.φ n/\g'.κ n'=g.κ n):RV g' w' v (a.tr f):=by
 have cell:∀ (b o:Nat),g.C b->w'.cell? ⟨b,o,none⟩=w.cell? ⟨b,o,none⟩:=by
  grind[World.cell?]
 induction h with
 | sc v=>exact .sc v
 | Zv ad cap z=>exact .Zv ad cap z
 | slC b off cap n z rows fv hCb hn hcap hu hcell ho _ ih =>
  simp only [AV.tr,lc];refine .slC b off cap n z _ fv (hC b hCb) qH hcap ?_ (λi j hi hj=>qH) ho ?_<;>grind
 | el b o off row fv hCb hcell ho _ ih =>
  simp only [AV.tr,ml];refine .el b o off _ fv (hC b hCb) (λj hj=>qH) (λj hj=>ho j qH) ?_
  simp_all
 | hsN n z hk =>
  simp only [AV.tr]
  cases e:f n with
  | none=>exact .bot _
  | some n'=>constructor<;>grind
 | hsB n z lo len b cap ad hk h1 h2 h3 =>
  simp only [AV.tr]
  cases e:f n with
  | none=>exact .bot _
  | some n'=>exact .hsB n' z lo len b cap ad ((hf n n' e).1.trans hk) h1 (h2.trans (hf n n' e).2.symm) h3
 | pt n off b hk =>
  simp only [AV.tr]
  cases e:f n with
  | none=>exact .bot _
  | some n'=>constructor<;>grind
 | ep n z i off b hk =>
  simp only [AV.tr]
  cases e:f n with
  | none=>exact .bot _
  | some n'=>constructor<;>grind
 | mp n b hk =>
  simp only [AV.tr]
  cases e:f n with
  | none=>exact .bot _
  | some n'=>constructor<;>grind
 | agg vs cs hl _ ih =>
  constructor<;>grind[ml]
 | Zg vs cs hl _ ih =>
  constructor<;>grind[ml]
 | Zf t v a _ ih=>exact .Zf t v _ ih
 | fn fv vs us xs ys hl hl2 _ _ ih ih2 =>
  constructor<;>grind[ml]
 | bot v=>exact .bot v
theorem AV.Yg (a:AV):a.tr some=a:=by
 refine AV.rec (motive_1:=λa=>a.tr some=a) (motive_2:=λl=>Nq some l=l) (motive_3:=λl=>trL some l=l) ?_ ?_ ?_ ?_ ?_ ?_ ?_ ?_ ?_ ?_ ?_ ?_ ?_ ?_ ?_ ?_ a<;>grind[tr,trL,Nq]
theorem AO.Yg (o:AO):o.tr some=o:=by
 cases o with
 | row z rows =>
  have:(λr:List AV=>r.map (AV.tr some))=id:=by
   funext r
   have e:AV.tr some=id:=by grind[AV.Yg]
   rw [e];simp
  simp_all[tr]
 | map es=>simp [AO.tr,AV.Yg]
 | qAi T z ex rows =>
  have:(λr:List AV=>r.map (AV.tr some))=id:=by
   funext r
   have e:AV.tr some=id:=by grind[AV.Yg]
   rw [e];simp
  simp_all[tr]
theorem RV.same {g g':Gh} {w w':World} {v:Value} {a:AV} (h:RV g w v a) (hC:∀ b,g.C b->g'.C b) (hw:∀ b,g.C b->w'.heap[b]?=w.heap[b]?)
  (hf:∀ n,g'.φ n=g.φ n/\g'.κ n=g.κ n):RV g' w' v a:=by
 have:=h.tr (f:=some) hC hw (λn n' e=>qH)
 grind[AV.Yg]
def Nk (g:Gh) (w:World) (b cap z:Nat) (rows:List (List AV)):Prop :=
 ∃ (cur:Array Value) (T:TypeId),w.heap[b]?=some (.cells cur T (0,0))/\cur.size=cap * z/\cap<=maxLen/\rows.length<=cap/\(∀ r∈rows,r.length=z) /\
  (∀ j,j<rows.length * z->(cur.getD j undef).oneCell'=true)/\∀ (i:Nat) row,rows[i]?=some row->∀ (j:Nat) a,row[j]?=some a->RV g w (cur.getD (i * z+j) undef) a
def Ql (g:Gh) (w:World) (b cap:Nat) (T:TypeId) (z:Nat) (rows:List (List AV)):Prop :=
 ∃ (cur:Array Value),w.heap[b]?=some (.cells cur T (0,0))/\cur.size=cap * z/\cap<=maxLen/\rows.length<=cap/\(∀ r∈rows,r.length=z) /\
  (∀ j,j<rows.length * z->(cur.getD j undef).oneCell'=true)/\∀ (i:Nat) row,rows[i]?=some row->∀ (j:Nat) a,row[j]?=some a->RV g w (cur.getD (i * z+j) undef) a
def TB (g:Gh) (w:World) (b:Nat) (es:List (AV×AV)):Prop :=
 ∃ (ms:List MapEntry) (clock:Nat),w.heap[b]?=some (.map ms.toArray clock)/\MapKept.Stamped ms.toArray clock/\ms.length=es.length/\∀ (i:Nat) m e,ms[i]?=some m->es[i]?=some e->RV g w m.key e.1/\RV g w m.val e.2
def Zu (g:Gh) (w:World) (n:Nm):AO->Prop
 | .row z rows=>match g.φ n with|some b=>Nk g w b (g.κ n) z rows|none=>rows=[]
 | .map es=>match g.φ n with|some b=>TB g w b es|none=>False
 | .qAi T z ex rows=>match g.φ n with|some b=>Ql g w b (g.κ n) T z rows/\(ex=true->g.κ n=rows.length)/\(ex=false->0<g.κ n)|none=>rows=[]
theorem Zu.tr {g g':Gh} {w w':World} {n n':Nm} {o:AO} {f:Nm->Option Nm} (h:Zu g w n o) (hC:∀ b,g.C b->g'.C b) (hw:∀ b,g.C b->w'.heap[b]?=w.heap[b]?)
  (hf:∀ n n',f n=some n'->g'.φ n'=g.φ n/\g'.κ n'=g.κ n) (hn:f n=some n') (hb:∀ b,g.φ n=some b->w'.heap[b]?=w.heap[b]?):Zu g' w' n' (o.tr f):=by
 obtain⟨e1,e2⟩:=hf n n' hn
 cases o with
 | row z rows =>
  simp only [Zu,AO.tr,e1,e2] at h ⊢
  cases e:g.φ n with
  | none=>simp_all
  | some b =>
   rw [e] at h;obtain⟨cur,T,h1,h2,h3,h4,h5,h6,h7⟩:=h;refine⟨cur,T,(hb b e).trans h1,h2,h3,qH,?_,qH,?_⟩
   .simp_all
   .intro i row hrow j a ha;rw [kU] at hrow;obtain⟨r0,h0,rfl⟩:=ui.1 hrow;rw [kU] at ha;obtain⟨a0,ha0,rfl⟩:=ui.1 ha;exact (h7 i r0 h0 j a0 ha0).tr hC hw hf
 | map es =>
  simp only [Zu,AO.tr,e1] at h ⊢
  cases e:g.φ n with
  | none=>simp_all
  | some b =>
   rw [e] at h;obtain⟨ms,clock,h1,hst,h2,h3⟩:=h;refine⟨ms,clock,(hb b e).trans h1,hst,qH,λi m en hm he=>?_⟩;rw [kU] at he;obtain⟨e0,he0,rfl⟩:=ui.1 he;obtain⟨r1,r2⟩:=h3 i m e0 hm he0;exact⟨r1.tr hC hw hf,r2.tr hC hw hf⟩
 | qAi T z ex rows =>
  simp only [Zu,AO.tr,e1,e2] at h ⊢
  cases e:g.φ n with
  | none=>simp_all
  | some b =>
   rw [e] at h;obtain⟨⟨cur,h1,h2,h3,h4,h5,h6,h7⟩,h8⟩:=h;refine⟨⟨cur,(hb b e).trans h1,h2,h3,qH,?_,qH,?_⟩,λhe=>qH,h8.2⟩
   .simp_all
   .intro i row hrow j a ha;rw [kU] at hrow;obtain⟨r0,h0,rfl⟩:=ui.1 hrow;rw [kU] at ha;obtain⟨a0,ha0,rfl⟩:=ui.1 ha;exact (h7 i r0 h0 j a0 ha0).tr hC hw hf
structure Inv (own:Nat->Prop) (C:Nat->Prop) (w0:World) (g:Gh) (hp:Nm->Option AO) (w:World):Prop where
 os:w.os=w0.os
 tape:w.tape=w0.tape
 output:w.output=w0.output
 size:w0.heap.size<=w.heap.size
 qAQ:∀ b,b<w0.heap.size->¬ own b->w.heap[b]?=w0.heap[b]?
 hC:g.C=C
 clt:∀ b,C b->b<w.heap.size
 obj:∀ n o,hp n=some o->Zu g w n o
 YS:∀ n o b,hp n=some o->g.φ n=some b->¬ C b/\(w0.heap.size<=b\/own b)/\b<w.heap.size
 inj:∀ n n' o o' b,hp n=some o->hp n'=some o'->g.φ n=some b->g.φ n'=some b->n=n'
structure St where
 tm:Nat->AV
 hp:Nm->Option AO
 n:Nat
 gl:Nat->Option (List AV)
def Exw (w:World) (i:Nat) (row:List AV):Prop:=∀ zs:List Int,zs≠[]->row=zs.map (λz=>.sc (.int .u64 z))->∃ T b,w.heap[i]?=some (.cells (zs.map λz=>Value.int .u64 z).toArray T b)
theorem Exw.same {g:Gh} {w w':World} {i:Nat} {row:List AV} (h:Exw w i row) (hv:RV g w (.pointer (some ⟨i,0,none⟩)) (.el row 0)) (hw:∀ b,g.C b->w'.heap[b]?=w.heap[b]?):Exw w' i row:=by
 intro zs h1 h2
 have hC:g.C i:=by
  generalize hp:Value.pointer (some ⟨i,0,none⟩)=p at hv
  cases hv<;>grind
 grind[Exw]
structure Rg (P:Program) (own:Nat->Prop) (C:Nat->Prop) (w0:World) (g:Gh) (st:St) (a:Act) (w:World):Prop where
 inv:Inv own C w0 g st.hp w
 defers:a.defers=[]
 size:a.tmps.size=st.n
 qA9:∀ t,RV g w (a.tmps.getD t undef) (st.tm t)
 Yd:∀ i row,st.gl i=some row->(RV g w (.pointer (some ⟨i,0,none⟩)) (.el row 0)/\Exw w i row)/\∀ f:Nm->Option Nm,row.map (AV.tr f)=row
def Ust (g g':Gh):Prop:=∀ k i j,g'.φ (.u k i j)=g.φ (.u k i j)/\g'.κ (.u k i j)=g.κ (.u k i j)
theorem Ust.refl (g:Gh):Ust g g:=λ_ _ _=>⟨rfl,rfl⟩
theorem Ust.trans {g g' g'':Gh} (h:Ust g g') (h':Ust g' g''):Ust g g'':=λk i j=>⟨(h' k i j).1.trans (h k i j).1,(h' k i j).2.trans (h k i j).2⟩
def Nm.ZN:Nm->Bool
 | .u _ _ _=>true
 | _=>false
theorem EM {n:Nm} {k i j:Nat} (h:n.ZN=false):Nm.under n (.u k i j)=false:=by
 grind[Nm.ZN,Nm.under]
def Rel (P:Program) (own:Nat->Prop) (C:Nat->Prop) (w0:World) (g0:Gh) (st:St) (a:Act) (w:World):Prop:=∃ g,Ust g0 g/\Rg P own C w0 g st a w
def St.nm (f:Nm->Option Nm) (hp:Nm->Option AO) (st:St):St:={ tm:=λt=>(st.tm t).tr f,hp:=hp,n:=st.n,gl:=st.gl }
def hkl (n:Nm) (hp:Nm->Option AO):Nm->Option AO:=λm=>if Nm.under n m then none else (hp m).map (AO.tr (kl n))
def Z6 (n0 n1:Nm) (hp:Nm->Option AO):Nm->Option AO:=λm =>
 if Nm.under n1 m then (if mv n0 n1 (Nm.Yq n1 n0 m)=some m then (hp (Nm.Yq n1 n0 m)).map (AO.tr (mv n0 n1)) else none) else if Nm.under n0 m then none else (hp m).map (AO.tr (mv n0 n1))
def St.kill (n:Nm) (st:St):St:=st.nm (kl n) (hkl n st.hp)
def St.move (n0 n1:Nm) (st:St):St:=st.nm (mv n0 n1) (Z6 n0 n1 st.hp)
def St.put (st:St) (d:Option Nat) (a:AV):St :=
 match d with
 | some d=>{ tm:=λt=>if t=d then a else st.tm t,hp:=st.hp,n:=st.n,gl:=st.gl }
 | none=>st
def St.Yf (st:St) (n:Nm) (o:AO):St:={ tm:=st.tm,hp:=λm=>if m=n then some o else st.hp m,n:=st.n,gl:=st.gl }
section
variable {P:Program} {own:Nat->Prop} {C:Nat->Prop} {w0:World} {g:Gh} {st:St} {a:Act} {w:World}
theorem Rg.rv (h:Rg P own C w0 g st a w) {g':Gh} {w':World} {f:Nm->Option Nm} (gC:g'.C=g.C) (hw:∀ b,C b->w'.heap[b]?=w.heap[b]?)
  (gf:∀ n n',f n=some n'->g'.φ n'=g.φ n/\g'.κ n'=g.κ n) {v:Value} {x:AV} (hv:RV g w v x):RV g' w' v (x.tr f) :=
 hv.tr (λb hb=>qH) (λb hb=>hw b (h.inv.hC ▸ hb)) gf
theorem Rg.step (h:Rg P own C w0 g st a w) {g':Gh} {w':World} {f:Nm->Option Nm} {hp':Nm->Option AO}
  (gC:g'.C=g.C) (gf:∀ n n',f n=some n'->g'.φ n'=g.φ n/\g'.κ n'=g.κ n)
  (h1:w'.os=w.os) (h2:w'.tape=w.tape) (h3:w'.output=w.output) (h4:w.heap.size<=w'.heap.size)
  (hw:∀ b,C b->w'.heap[b]?=w.heap[b]?) (hkeep:∀ b,b<w0.heap.size->¬ own b->w'.heap[b]?=w.heap[b]?)
  (hobj:∀ n' o',hp' n'=some o' ->
    (∃ n o,f n=some n'/\st.hp n=some o/\o'=o.tr f/\∀ b,g.φ n=some b->w'.heap[b]?=w.heap[b]?) \/
    (Zu g' w' n' o'/\∀ b,g'.φ n'=some b->(¬ C b/\(w0.heap.size<=b\/own b)/\b<w'.heap.size)/\∀ n'' o'',hp' n''=some o''->g'.φ n''=some b->n''=n')) :
  Rg P own C w0 g' (st.nm f hp') a w':=by
 obtain⟨i,hd,hs,hsl,hgl⟩:=h;have h0:Rg P own C w0 g st a w:=⟨i,hd,hs,hsl,hgl⟩;have hwg:∀ b,g.C b->w'.heap[b]?=w.heap[b]?:=λb hb=>hw b (i.hC ▸ hb);have gCf:∀ b,g.C b->g'.C b:=λb hb=>qH
 have old:∀ n' o' b,hp' n'=some o'->g'.φ n'=some b ->
   (∃ n o,f n=some n'/\st.hp n=some o/\g.φ n=some b)\/((¬ C b/\(w0.heap.size<=b\/own b)/\b<w'.heap.size)/\∀ n'' o'',hp' n''=some o''->g'.φ n''=some b->n''=n'):=by
  grind
 refine⟨⟨h1.trans i.os,h2.trans i.tape,h3.trans i.output,uS i.size h4,λb hb ho=>(hkeep b hb ho).trans (i.qAQ b hb ho),gC.trans i.hC,λb hb=>ac (i.clt b hb) h4,?_,?_,?_⟩,
  hd,hs,λt=>h0.rv gC hw gf (hsl t),λj row e=>⟨?_,(hgl j row e).2⟩⟩
 .intro n' o' hn';rcases hobj n' o' hn' with⟨n,o,e1,e2,rfl,e4⟩|⟨e,_⟩
  .exact (i.obj n o e2).tr gCf hwg gf e1 e4
  .exact e
 .intro n' o' b hn' hb;rcases old n' o' b hn' hb with⟨n,o,_,e2,e3⟩|⟨e,_⟩
  .obtain⟨x1,x2,x3⟩:=i.YS n o b e2 e3
   grind
  .exact e
 .intro n1 n2 o1 o2 b hn1 hn2 hb1 hb2;rcases old n1 o1 b hn1 hb1 with⟨m1,p1,e1,e2,e3⟩|⟨_,e⟩
  .rcases old n2 o2 b hn2 hb2 with⟨m2,p2,f1,f2,f3⟩|⟨_,e'⟩
   .have:=i.inj m1 m2 p1 p2 b e2 f2 e3 f3
    simp_all
   .exact e' n1 o1 hn1 hb1
  .exact (e n2 o2 hn2 hb2).symm
 .refine⟨?_,(hgl j row e).1.2.same (hgl j row e).1.1 hwg⟩;have:=h0.rv gC hw gf (hgl j row e).1.1
  simpa only [AV.tr,ml,(hgl j row e).2 f] using this
noncomputable def Gh.tr (f:Nm->Option Nm) (g:Gh):Gh :=
 { C:=g.C,φ:=λx=>open Classical in if h:∃ k,f k=some x then g.φ h.choose else none,κ:=λx=>open Classical in if h:∃ k,f k=some x then g.κ h.choose else 0 }
theorem Gh.Z0 {f:Nm->Option Nm} (hf:∀ k k' x,f k=some x->f k'=some x->k=k') {k k':Nm} (h:f k=some k'):(g.tr f).φ k'=g.φ k/\(g.tr f).κ k'=g.κ k:=by
 have he:∃ k,f k=some k':=⟨k,h⟩
 grind[tr]
theorem Ust.kl {n:Nm} (h:n.ZN=false):Ust g (g.tr (kl n)):=λk i j=>by
 grind[Hm.kl,EM,Gh.Z0]
theorem Ust.mv {n0 n1:Nm} (h:n0.ZN=false) (h':n1.ZN=false):Ust g (g.tr (mv n0 n1)):=λk i j=>by
 grind[Hm.mv,EM,Gh.Z0,HN]
theorem Rg.rename (h:Rg P own C w0 g st a w) {f:Nm->Option Nm} {hp':Nm->Option AO} (hf:∀ k k' x,f k=some x->f k'=some x->k=k')
  (hobj:∀ n' o',hp' n'=some o'->∃ n o,f n=some n'/\st.hp n=some o/\o'=o.tr f):Rg P own C w0 (g.tr f) (st.nm f hp') a w :=
 h.step rfl (λ_ _ e=>Gh.Z0 hf e) rfl rfl rfl (qp _) (λ_ _=>rfl) (λ_ _ _=>rfl) (λn' o' e=>by
  simp_all)
theorem pR {n:Nm} {hp:Nm->Option AO} {n':Nm} {o':AO} (e:hkl n hp n'=some o'):∃ o,kl n n'=some n'/\hp n'=some o/\o'=o.tr (kl n):=by
 grind[hkl,ui,kl]
theorem Rg.move (h:Rg P own C w0 g st a w) (n0 n1:Nm):Rg P own C w0 (g.tr (mv n0 n1)) (st.move n0 n1) a w :=
 h.rename (λ_ _ _=>HN) (λn' o' e=>by
  grind[Z6,ui,mv])
theorem uf {n m:Nm} (h:Nm.under n m=true):(g.tr (kl n)).φ m=none:=by
 grind[Gh.tr,kl]
theorem Rg.put {d:Option Nat} {v:Value} {x:AV} (h:Rg P own C w0 g st a w) (hd:∀ t,d=some t->t<st.n) (hv:RV g w v x):Rg P own C w0 g (st.put d x) (a.put d v) w:=by
 cases d with
 | none=>exact h
 | some d =>
  obtain⟨i,hdf,hs,hsl,hgl⟩:=h;refine⟨i,hdf,by grind[Act.put,St.put],λt=>?_,hgl⟩
  simp_all<;>grind[Act.put,St.put]
theorem Rg.weaken (h:Rg P own C w0 g st a w) (hp':Nm->Option AO) (sub:∀ m o,hp' m=some o->st.hp m=some o):Rg P own C w0 g { tm:=st.tm,hp:=hp',n:=st.n,gl:=st.gl } a w:=by
 obtain⟨i,hd,hs,hsl,hgl⟩:=h;exact⟨⟨i.os,i.tape,i.output,i.size,i.qAQ,i.hC,i.clt,λm o e=>i.obj m o (sub m o e),λm o b e=>i.YS m o b (sub m o e),λm m' o o' b e e'=>i.inj m m' o o' b (sub m o e) (sub m' o' e')⟩,hd,hs,hsl,hgl⟩
theorem Rg.qCo (h:Rg P own C w0 g st a w) (n:Nm) (z:Nat):∃ g',Rg P own C w0 g' ((st.kill n).Yf n (.row z [])) a w/\RV g' w (.slice none 0 0) (.hs n z 0 0)/\(n.ZN=false->Ust g g')/\∀ v x,RV g w v x->RV g' w v (x.tr (kl n)):=by
 have gf:∀ k k',kl n k=some k'->(g.tr (kl n)).φ k'=g.φ k/\(g.tr (kl n)).κ k'=g.κ k:=λ_ _ e=>Gh.Z0 (λ_ _ _=>ML) e
 have hs:=h.step (g':=g.tr (kl n)) (w':=w) (f:=kl n) (hp':=((st.kill n).Yf n (.row z [])).hp) rfl gf rfl rfl rfl (qp _) (λ_ _=>rfl) (λ_ _ _=>rfl) (λn' o' e=>by
  simp only [St.Yf] at e
  split at e
  .grind[Zu,uf,Nm.Y0]
  .obtain⟨o,e1,e2,e3⟩:=pR e
   grind)
 exact⟨_,hs,.hsN n z (uf (Nm.Y0 n)),λhu=>.kl hu,λv x hx=>h.rv (g':=g.tr (kl n)) rfl (λ_ _=>rfl) gf hx⟩
end
end Go.Hm
end
section
namespace Go.Hm
open Go Go.RowKit
def kF (P:Program) (T:TypeId):Option Bool :=
 if (P.info? T).isSome then
  match P.underlying T with
  | some (.struct _)=>some true
  | some (.array _ _)=>some true
  | some _=>some false
  | none=>none
 else none
def Zx (P:Program) (T:TypeId):Option TypeId :=
 match P.underlying T with
 | some (.slice e)=>if (P.info? e).isSome then some e else none
 | _=>none
def Jp (P:Program) (T:TypeId):Option (Nat×TypeId) :=
 match P.underlying T with
 | some (.array n e)=>if (P.info? e).isSome then some (n,e) else none
 | _=>none
def Yk (P:Program) (T:TypeId) (f:Nat):Option (Nat×TypeId) :=
 match P.underlying T with
 | some (.struct fs)=>match fs[f]? with
  | some fd=>if Yh P fd.type=0 then none else some (fd.offset,fd.type)
  | none=>none
 | _=>none
def yP (P:Program) (T:TypeId):Option (List Value):=((P.info? T).bind (·.zero)).map (λz=>z.cells.toList)
theorem io {P:Program} {w:World} {T:TypeId} (h:(P.info? T).isSome):(sizeOf T).run P w=.ok (Yh P T) w:=by
 obtain⟨i,hi⟩:=Nc.1 h;simp [sizeOf,typeInfo,hi,Yh]
theorem zk {P:Program} {w:World} {T:TypeId} {d:TypeDesc} (h:P.underlying T=some d):(underlying T).run P w=.ok d w:=by
 simp [underlying,h]
theorem AZ {P:Program} {T:TypeId} (h:Yh P T≠0):(P.info? T).isSome:=by
 unfold Yh at h
 cases hi:P.info? T<;>grind
theorem wn {P:Program} {w:World} {T:TypeId} {t:Bool} (h:kF P T=some t):(isAgg T).run P w=.ok t w:=by
 unfold kF at h
 split at h
 .cases hu:P.underlying T with
  | none=>simp_all
  | some d=>cases d <;> simp [hu] at h <;> simp [isAgg,underlying,hu,h]
 .cases h
theorem nC {P:Program} {T:TypeId} {t:Bool} (h:kF P T=some t):(P.info? T).isSome:=by
 grind[kF]
def AV.one:AV->Bool
 | .sc v=>v.oneCell'
 | .agg _=>false
 | .Zg _=>false
 | .bot=>false
 | _=>true
def AV.cells:AV->Option (List AV)
 | .agg cs=>if cs.all AV.one then some cs else none
 | a=>if a.one then some [a] else none
def H5 (P:Program) (T:TypeId) (cs:List AV) (off:Nat):Option AV :=
 match kF P T with
 | some true=>if off+Yh P T<=cs.length then some (.agg ((cs.drop off).take (Yh P T))) else none
 | some false=>cs[off]?
 | none=>none
theorem Da {v:Value} (h:v.oneCell'=true):v.cells=#[v]:=by
 cases v <;> first|rfl|grind[Value.oneCell']
section
variable {P:Program} {own:Nat->Prop} {C:Nat->Prop} {w0:World} {g:Gh} {st:St} {a:Act} {w:World}
theorem RV.Ye {v u:Value} (h:RV g w v (.sc u)):v=u:=by
 cases h;rfl
theorem cI {v:Value} {cs:List AV} (h:RV g w v (.agg cs)):∃ vs:List Value,v=.agg vs.toArray/\vs.length=cs.length/\∀ (j:Nat) y,cs[j]?=some y->∃ u,vs[j]?=some u/\RV g w u y:=by
 cases h with
 | agg vs cs hl hr =>
  refine⟨vs,rfl,hl,λj y hy=>?_⟩;have hlt:j<vs.length:=qe;exact⟨_,gE hlt,hr j _ y (gE hlt) hy⟩
theorem KQ {v:Value} {cs:List AV} (h:RV g w v (.Zg cs)):∃ vs:List Value,v=.tuple vs.toArray/\vs.length=cs.length/\∀ (j:Nat) y,cs[j]?=some y->∃ u,vs[j]?=some u/\RV g w u y:=by
 cases h with
 | Zg vs cs hl hr =>
  refine⟨vs,rfl,hl,λj y hy=>?_⟩;have hlt:j<vs.length:=qe;exact⟨_,gE hlt,hr j _ y (gE hlt) hy⟩
theorem RV.qB8 {v:Value} {x:AV} (h:RV g w v x) (ho:x.one=true):v.oneCell'=true:=by
 cases h <;> first|rfl|exact ho|grind[AV.one]
theorem RV.cells {v:Value} {x:AV} {cs:List AV} (h:RV g w v x) (hc:x.cells=some cs) :
  v.cells.toList.length=cs.length/\(∀ u∈v.cells.toList,u.oneCell'=true)/\∀ (j:Nat) u y,v.cells.toList[j]?=some u->cs[j]?=some y->RV g w u y:=by
 by_cases hx:∃ ds,x=.agg ds
 .obtain⟨ds,rfl⟩:=hx;simp only [AV.cells] at hc
  split at hc
  .rename_i hall;obtain rfl:=sI hc;have hone:∀ y∈ds,y.one=true:=λy hy=>uB.1 hall y hy
   cases h with
   | agg vs cs hl hr =>
    refine⟨by grind[Value.cells],?_,λj u y hu hy=>hr j u y (by grind[Value.cells]) hy⟩;intro u hu;simp only [Value.cells] at hu;obtain⟨j,hj⟩:=ab hu;have hlt:j<ds.length:=qe;exact (hr j u _ hj (gE hlt)).qB8 (hone _ (List.getElem_mem hlt))
  .cases hc
 .have hc':(if x.one then some [x] else none)=some cs:=by
   cases x <;> first|exact hc|simp_all
  split at hc'
  .rename_i ho;obtain rfl:=sI hc';have h1:=h.qB8 ho
   grind[Da]
  grind
theorem Gy {T:TypeId} {cs:List AV} {off:Nat} {x:AV} {b o:Nat} {f:Nat->Value} (hq:H5 P T cs off=some x)
  (hcell:∀ j,j<cs.length->w.cell? ⟨b,o+j,none⟩=some (f j)) (hr:∀ (j:Nat) y,cs[j]?=some y->RV g w (f j) y) :
  ∃ v,(loadVar T ⟨b,o+off,none⟩).run P w=.ok v w/\RV g w v x:=by
 unfold H5 at hq
 split at hq
 .rename_i hagg
  split at hq
  .rename_i hle;obtain rfl:=sI hq;have hl:=run_loadCells (P:=P) (w:=w) ⟨b,o+off,none⟩ (Yh P T) (λj=>f (off+j)) (λj hj=>by grind[Addr.add_lit]);refine⟨.agg ((List.range (Yh P T)).map (λj=>f (off+j))).toArray,?_,?_⟩
   .simp_all[loadVar,wn,io,nC]
   constructor<;>grind
  .cases hq
 .rename_i hagg;have hlt:off<cs.length:=(gS hq).1
  simp_all[loadVar,wn]
 .cases hq
def ev (st:St):Operand->AV
 | .tmp t=>st.tm t
 | .const v=>.sc v
 | .global i=>match st.gl i with|some row=>.el row 0|none=>.bot
 | .func f=>.sc (.func (.func f) #[] #[])
theorem Rg.ev (h:Rg P own C w0 g st a w) (x:Operand):RV g w (a.eval x) (ev st x):=by
 cases x with
 | tmp t=>exact h.qA9 t
 | const v=>exact .sc v
 | global i =>
  simp only [Hm.ev,Act.eval]
  split
  .rename_i row hrow;exact (h.Yd i row hrow).1.1
  .exact .bot _
 | func f=>exact .sc _
def ZI (st:St):AV->Option (List AV×Nat)
 | .pt n off=>match st.hp n with
  | some (.row _ (r::_))=>some (r,off)
  | _=>none
 | .el row off=>some (row,off)
 | .ep n z i off=>match st.hp n with
  | some (.row z' rows)=>if z'=z then (rows[i]?).map (λr=>(r,off)) else none
  | _=>none
 | _=>none
theorem Inv.rowAt {own:Nat->Prop} {C:Nat->Prop} {w0:World} {g:Gh} {hp:Nm->Option AO} {w:World} (h:Inv own C w0 g hp w) {n:Nm} {b z i:Nat} {rows:List (List AV)} {row:List AV} (hn:hp n=some (.row z rows)) (hk:g.φ n=some b) (hi:rows[i]?=some row) :
  ∃ f:Nat->Value,(∀ j,j<row.length->w.cell? ⟨b,i * z+j,none⟩=some (f j))/\(∀ j,j<row.length->(f j).oneCell'=true)/\∀ (j:Nat) y,row[j]?=some y->RV g w (f j) y:=by
 have ho:=h.obj n _ hn;simp only [Zu,hk] at ho;obtain⟨cur,T,h1,h2,h3,h4,h5,h6,h7⟩:=ho;have hlen:row.length=z:=h5 row (gM hi);have hlt:i<rows.length:=(gS hi).1
 have hin:∀ j,j<row.length->i * z+j<rows.length * z:=by
  intro j hj;have:(i+1) * z<=rows.length * z:=dV _ hlt
  grind
 have hcur:∀ j,j<row.length->i * z+j<cur.size:=by
  grind[Value.oneCell',undef]
 refine⟨λj=>cur.getD (i * z+j) undef,?_,λj hj=>h6 _ (hin j hj),λj y hy=>h7 i row hi j y hy⟩
 simp_all<;>grind[cell_of_row]
theorem Rg.ZI (h:Rg P own C w0 g st a w) {v:Value} {x:AV} {cs:List AV} {off:Nat} (hv:RV g w v x) (hq:ZI st x=some (cs,off)) :
  ∃ (b o:Nat) (f:Nat->Value),v=.pointer (some ⟨b,o+off,none⟩)/\(∀ j,j<cs.length->w.cell? ⟨b,o+j,none⟩=some (f j))/\(∀ j,j<cs.length->(f j).oneCell'=true)/\∀ (j:Nat) y,cs[j]?=some y->RV g w (f j) y:=by
 cases x with
 | pt n o =>
  simp only [Hm.ZI] at hq
  split at hq
  .rename_i z r rest hn;obtain⟨rfl,rfl⟩:=sP (sI hq)
   cases hv with
   | pt _ _ b hk =>
    obtain⟨f,f1,f2,f3⟩:=h.inv.rowAt hn hk (i:=0) rfl;exact⟨b,0,f,qB,λj hj=>qH,f2,f3⟩
  .cases hq
 | el row o =>
  simp only [Hm.ZI] at hq;obtain⟨rfl,rfl⟩:=sP (sI hq)
  cases hv with
  | el b o' off row f hC hcell ho hr=>exact⟨b,o',f,rfl,hcell,ho,λj y hy=>hr j y hy⟩
 | ep n z i o =>
  simp only [Hm.ZI] at hq
  split at hq
  .rename_i z' rows hn
   split at hq
   .rename_i hz;subst hz;obtain⟨r,hr0,e⟩:=ui.1 hq;obtain⟨rfl,rfl⟩:=sP e
    cases hv with
    | ep _ _ _ _ b hk =>
     obtain⟨f,f1,f2,f3⟩:=h.inv.rowAt hn hk hr0;exact⟨b,i * z' ,f,rfl,f1,f2,f3⟩
   .cases hq
  .cases hq
 | _=>simp [Hm.ZI] at hq
theorem Eb {T:TypeId} {x:Operand} {y z:AV} {cs:List AV} {off:Nat} (h:Rg P own C w0 g st a w) (hy:ev st x=y) (h1:ZI st y=some (cs,off)) (h2:H5 P T cs off=some z) :
  ∃ v,(Instr.loadAt T (a.eval x)).run P w=.ok v w/\RV g w v z:=by
 have hv:=h.ev x;rw [hy] at hv;obtain⟨b,o,f,e,hcell,_,hr⟩:=h.ZI hv h1;obtain⟨v,hrun,hrv⟩:=Gy h2 hcell hr
 grind[Instr.loadAt,Instr.sureAddr]
def gv (P:Program) (T:TypeId) (f:Nat):AV->Option AV
 | .pt n off=>(Yk P T f).map (λp=>.pt n (off+p.1))
 | .el row off=>(Yk P T f).map (λp=>.el row (off+p.1))
 | .ep n z i off=>(Yk P T f).map (λp=>.ep n z i (off+p.1))
 | _=>none
theorem wL {T:TypeId} {f:Nat} {o:Nat} {e:TypeId} {b p:Nat} (ht:Yk P T f=some (o,e)):(Instr.fieldAt T (.pointer (some ⟨b,p,none⟩)) f).run P w=.ok (.pointer (some ⟨b,p+o,none⟩)) w:=by
 unfold Yk at ht
 split at ht
 .rename_i fs hu
  split at ht
  .rename_i fd hfd
   split at ht
   .cases ht
   .rename_i hz;obtain⟨rfl,rfl⟩:=sP (sI ht)
    simp_all[Instr.fieldAt,Instr.sureAddr,fieldPlace,Addr.add_lit,zk,io,AZ]
  .cases ht
 .cases ht
theorem CT {T:TypeId} {f:Nat} {v:Value} {y z:AV} (hv:RV g w v y) (h1:gv P T f y=some z):∃ v',(Instr.fieldAt T v f).run P w=.ok v' w/\RV g w v' z:=by
 cases y with
 | pt n off =>
  obtain⟨⟨o,e⟩,ht,rfl⟩:=ui.1 h1
  cases hv with
  | pt _ _ b hk=>exact⟨_,wL ht,.pt n (off+o) b hk⟩
 | el row off =>
  obtain⟨⟨o,e⟩,ht,rfl⟩:=ui.1 h1
  cases hv with
  | el b o' off row f hC hcell ho hr=>exact⟨_,wL ht,by rw [dU];exact .el b o' (off+o) row f hC hcell ho hr⟩
 | ep n z i off =>
  obtain⟨⟨o,e⟩,ht,rfl⟩:=ui.1 h1
  cases hv with
  | ep _ _ _ _ b hk=>exact⟨_,wL ht,by rw [dU];constructor<;>grind⟩
 | _=>simp [gv] at h1
def pP (P:Program) (T:TypeId) (x:AV) (n:Int):Option AV :=
 match Zx P T with
 | some e=>match x with
  | .sl z rows=>if z=Yh P e/\0<=n then (rows[n.toNat]?).map (λr=>.el r 0) else none
  | .hs m z lo len=>if z=Yh P e/\0<=n/\n<len then some (.ep m z (lo+n.toNat) 0) else none
  | _=>none
 | none=>match Jp P T with
  | some (len,e)=>if 0<=n/\n<len then (match x with
   | .pt m off=>some (.pt m (off+n.toNat * Yh P e))
   | .el row off=>some (.el row (off+n.toNat * Yh P e))
   | .ep m z i off=>some (.ep m z i (off+n.toNat * Yh P e))
   | _=>none) else none
  | none=>none
theorem Gn {T e:TypeId} (h:Zx P T=some e):P.underlying T=some (.slice e)/\(P.info? e).isSome:=by
 grind[Zx]
theorem By {T e:TypeId} {n:Nat} (h:Jp P T=some (n,e)):P.underlying T=some (.array n e)/\(P.info? e).isSome:=by
 grind[Jp]
theorem di {T e:TypeId} {b p len cap:Nat} {k:IntKind} {n:Int} (ht:Zx P T=some e) (h0:0<=n) (h1:n<len) :
  (Instr.indexAt T (.slice (some ⟨b,p,none⟩) len cap) (.int k n)).run P w=.ok (.pointer (some ⟨b,p+n.toNat * Yh P e,none⟩)) w:=by
 obtain⟨hu,hi⟩:=Gn ht;simp only [Instr.indexAt,asIntOf,Sem.run_bind,Sem.run_pure,Result.andThen_ok,zk hu,h0,h1,and_self,if_true,io hi,Addr.add_lit]
theorem cT {T e:TypeId} {b p len:Nat} {k:IntKind} {n:Int} (ht:Jp P T=some (len,e)) (h0:0<=n) (h1:n<len) :
  (Instr.indexAt T (.pointer (some ⟨b,p,none⟩)) (.int k n)).run P w=.ok (.pointer (some ⟨b,p+n.toNat * Yh P e,none⟩)) w:=by
 obtain⟨hu,hi⟩:=By ht;simp only [Instr.indexAt,asIntOf,Sem.run_bind,Sem.run_pure,Result.andThen_ok,zk hu,Instr.sureAddr,h0,h1,and_self,if_true,io hi,Addr.add_lit]
theorem CS {T:TypeId} {v:Value} {y z:AV} {k:IntKind} {n:Int} (hv:RV g w v y) (h1:pP P T y n=some z):∃ v',(Instr.indexAt T v (.int k n)).run P w=.ok v' w/\RV g w v' z:=by
 unfold pP at h1
 split at h1
 .rename_i e ht
  cases y with
  | sl E rows =>
   simp only at h1
   split at h1
   .rename_i hc;obtain⟨rfl,h0⟩:=hc;obtain⟨r,hr0,rfl⟩:=ui.1 h1
    cases hv with
    | Zv=>simp at hr0
    | slC b off cap len E rows f hC hn hcap hu hcell ho hr =>
     have hlt:n.toNat<len:=qe;have hlen:r.length=Yh P e:=hu r (gM hr0);refine⟨_,di ht h0 qA,?_⟩;exact .el b (off+n.toNat * Yh P e) 0 r (f n.toNat) hC (λj hj=>hcell n.toNat j hlt qA) (λj hj=>ho n.toNat j hlt qA) (λj y hy=>hr n.toNat r hr0 j y hy)
   .cases h1
  | hs m z' lo len =>
   simp only at h1
   split at h1
   .rename_i hc;obtain⟨rfl,h0,hlt⟩:=hc;obtain rfl:=sI h1
    cases hv with
    | hsN=>omega
    | hsB _ _ _ _ b cap ad hk g1 g2 g3 =>
     rw [g3 qA];refine⟨_,di ht h0 qA,?_⟩;have:=RV.ep (g:=g) (w:=w) m (Yh P e) (lo+n.toNat) 0 b hk
     grind
   .cases h1
  | _=>simp at h1
 .split at h1
  .rename_i len e ht
   split at h1
   .rename_i hc;obtain⟨h0,hlt⟩:=hc
    cases y with
    | pt m off =>
     obtain rfl:=sI h1
     cases hv with
     | pt _ _ b hk=>exact⟨_,cT ht h0 hlt,.pt m _ b hk⟩
    | el row off =>
     obtain rfl:=sI h1
     cases hv with
     | el b o' off row f hC hcell ho hr=>exact⟨_,cT ht h0 hlt,by rw [dU];exact .el b o' _ row f hC hcell ho hr⟩
    | ep m z' i off =>
     obtain rfl:=sI h1
     cases hv with
     | ep _ _ _ _ b hk=>exact⟨_,cT ht h0 hlt,by rw [dU];exact .ep m z' i _ b hk⟩
    | _=>simp at h1
   .cases h1
  .cases h1
end
section
variable {P:Program} {own:Nat->Prop} {C:Nat->Prop} {w0:World} {g:Gh} {st:St} {a:Act} {w:World}
def fg (k:IntKind) (op:BinOp) (x y:Int):Option AV :=
 match op with
 | .add=>some (.sc (.int k (k.wrap (x+y))))
 | .sub=>some (.sc (.int k (k.wrap (x - y))))
 | .mul=>some (.sc (.int k (k.wrap (x * y))))
 | .quo=>if y=0 then none else some (.sc (.int k (k.wrap (x.tdiv y))))
 | .rem=>if y=0 then none else some (.sc (.int k (x.tmod y)))
 | .xor=>some (.sc (.int k (k.wrap (BitVec.ofInt k.bits x ^^^ BitVec.ofInt k.bits y).toNat)))
 | .eql=>some (.sc (.bool (x==y)))
 | .neq=>some (.sc (.bool (x != y)))
 | .lss=>some (.sc (.bool (decide (x<y))))
 | .leq=>some (.sc (.bool (decide (x<=y))))
 | .gtr=>some (.sc (.bool (decide (x > y))))
 | .geq=>some (.sc (.bool (decide (x≥y))))
 | _=>none
def EU (op:BinOp) (x y:ByteArray):Option AV :=
 match op with
 | .add=>if x.size+y.size<=9223372036854775807 then some (.sc (.string (x++y))) else none
 | .eql=>some (.sc (.bool (x.toList==y.toList)))
 | .neq=>some (.sc (.bool (!(x.toList==y.toList))))
 | _=>none
def eqL:List AV->List AV->Option Bool
 | [],[]=>some true
 | .sc (.int .i64 x)::xs,.sc (.int .i64 y)::ys=>(eqL xs ys).map (λr=>(x==y)&&r)
 | _,_=>none
def KU (P:Program) (T:TypeId):Option Nat :=
 match P.underlying T with
 | some (.struct fs)=>if (fs.toList.zipIdx.all λ(f,j)=>f.name != "_"&&f.offset==j&&(match P.underlying f.type with|some (.int .i64)=>true|_=>false)&&(match kF P f.type with|some false=>true|_=>false))&&!P.stoodInHeld T&&!P.eqGuardType P.depth T then some fs.size else none
 | _=>none
def O6 (P:Program) (T:TypeId):Bool:=match P.underlying T with|some .bool=>true|_=>false
def Qf (P:Program) (T:TypeId):Bool:=match P.underlying T with|some (.interface _)=>true|_=>false
def nL (P:Program) (T:TypeId):Bool:=match P.underlying T with|some (.pointer _)=>true|_=>false
def bL (op:BinOp) (r:Bool):Option AV:=match op with|.eql=>some (.sc (.bool r))|.neq=>some (.sc (.bool (!r)))|_=>none
def iO (P:Program) (T:TypeId) (op:BinOp) (cy:Bool) (x y:AV):Option AV :=
 match x,y with
 | .sc (.int k m),.sc (.int k' n)=>if k=k' then fg k op m n else none
 | .sc (.string s),.sc (.string t)=>EU op s t
 | .sc (.bool s),.sc (.bool t)=>if O6 P T then bL op (s==t) else none
 | .agg xs,.agg ys=>match KU P T with
  | some n=>if xs.length=n then (eqL xs ys).bind (bL op) else none
  | none=>none
 | .pt _ _,.sc (.pointer none)=>if nL P T then bL op false else none
 | .el _ _,.sc (.pointer none)=>if nL P T then bL op false else none
 | .ep _ _ _ _,.sc (.pointer none)=>if nL P T then bL op false else none
 | .sc (.pointer none),.sc (.pointer none)=>if nL P T then bL op true else none
 | .Zf _ _,.sc .nilIface=>if Qf P T then bL op false else none
 | .sc .nilIface,.sc .nilIface=>if Qf P T&&cy then bL op true else none
 | _,_=>none
theorem Re {k:IntKind} {op:BinOp} {T:TypeId} {x y:Int} {z:AV} (h:fg k op x y=some z):∃ v,(binOp op T (.int k x) (.int k y)).run P w=.ok v w/\RV g w v z:=by
 cases op <;> simp only [fg] at h <;> first
  | (cases h;done)
  | (obtain rfl:=sI h;exact⟨_,by simp [binOp,Op.intArith,Op.intCmp,Op.intBits];try rfl,.sc _⟩)
  | (split at h
     .cases h
     .rename_i hy;obtain rfl:=sI h;exact⟨_,by simp_all[binOp,Op.intDiv],.sc _⟩)
theorem Rd {op:BinOp} {T:TypeId} {x y:ByteArray} {z:AV} (h:EU op x y=some z):∃ v,(binOp op T (.string x) (.string y)).run P w=.ok v w/\RV g w v z:=by
 cases op <;> simp only [EU] at h <;> first
  | (cases h;done)
  | (obtain rfl:=sI h;exact⟨_,by constructor<;>grind,.sc _⟩)
  | (split at h
     .rename_i hs;obtain rfl:=sI h;refine⟨.string (x++y),?_,.sc _⟩
      have hm:¬ (((x.size+y.size:Nat):Int) > IntKind.i64.max):=by
       simp_all<;>omega
      simp_all[binOp,Op.stringOp]
     .cases h)
theorem Pp {x:AV} {xs ys:List AV} {r:Bool} (h:eqL (x::xs) ys=some r):∃ m n ys' r',x=.sc (.int .i64 m)/\ys=.sc (.int .i64 n)::ys'/\eqL xs ys'=some r'/\r=((m==n)&&r'):=by
 generalize hz:x::xs=zs at h;unfold eqL at h
 grind[ui]
theorem Sn (d:Nat):∀ (fs:List Field) (o:Nat) (xs ys:List AV) (vx vy:Array Value) (r:Bool),
  (∀ (j:Nat) f,fs[j]?=some f->f.name ≠ "_"/\f.offset=o+j/\P.underlying f.type=some (.int .i64)/\kF P f.type=some false) ->
  (∀ (j:Nat) y,xs[j]?=some y->∃ v,vx[o+j]?=some v/\RV g w v y)->(∀ (j:Nat) y,ys[j]?=some y->∃ v,vy[o+j]?=some v/\RV g w v y)->fs.length=xs.length ->
  eqL xs ys=some r->(Op.eqFields (d+1) vx vy fs).run P w=.ok r w:=by
 intro fs
 induction fs with
 | nil =>
  intro o xs ys vx vy r hf hx hy hl h;have:xs=[]:=eh hl.symm;subst this
  cases ys<;>simp_all[eqL,Op.eqFields]
 | cons f fs ih =>
  intro o xs ys vx vy r hf hx hy hl h
  cases xs with
  | nil=>simp at hl
  | cons x xs =>
   obtain⟨m,n,ys',r',rfl,rfl,hr',rfl⟩:=Pp h
   .obtain⟨f1,f2,f3,f4⟩:=hf 0 f rfl;obtain⟨v1,hv1,hr1⟩:=hx 0 _ rfl;obtain⟨v2,hv2,hr2⟩:=hy 0 _ rfl;rw [hr1.Ye] at hv1;rw [hr2.Ye] at hv2
    have hp1:(part f.type vx f.offset).run P w=.ok (.int .i64 m) w:=by
     simp_all[part,wn]
    have hp2:(part f.type vy f.offset).run P w=.ok (.int .i64 n) w:=by
     simp_all[part,wn]
    have hih:=ih (o+1) xs ys' vx vy r' (λj f' hj=>by
      have:=hf (j+1) f' qH
      grind)
     (λj y hj=>by have:=hx (j+1) y qH;grind)
     (λj y hj=>by have:=hy (j+1) y qH;grind)
     qH hr'
    simp only [Op.eqFields,ne_eq,f1,not_false_eq_true,if_true,Sem.run_bind,hp1,Result.andThen_ok,hp2,run_equalIn_int w d f.type .i64 .i64 m n f3];by_cases hmn:m=n
    .simp_all
    simp_all
theorem tC {T:TypeId} {n:Nat} (h:KU P T=some n):∃ fs,P.underlying T=some (.struct fs)/\fs.size=n/\P.stoodInHeld T=false/\P.eqGuardType P.depth T=false /\
  ∀ (j:Nat) f,fs.toList[j]?=some f->f.name ≠ "_"/\f.offset=j/\P.underlying f.type=some (.int .i64)/\kF P f.type=some false:=by
 unfold KU at h
 split at h
 .rename_i fs hu
  split at h
  .rename_i hc;simp only [uR,sO] at hc;obtain⟨⟨hall,h1⟩,h2⟩:=hc;refine⟨fs,hu,sI h,h1,h2,λj f hj=>?_⟩
   have hm:(f,j)∈fs.toList.zipIdx:=by
    grind
   grind
  .cases h
 .cases h
theorem xt {T:TypeId} {n:Nat} {xs ys:List AV} {v1 v2:Value} {r:Bool} (ht:KU P T=some n) (h1:RV g w v1 (.agg xs)) (h2:RV g w v2 (.agg ys)) (hn:xs.length=n) (hr:eqL xs ys=some r) :
  (Op.equal T v1 v2).run P w=.ok r w:=by
 obtain⟨fs,hu,hs,hp,_,hf⟩:=tC ht;obtain⟨vx,rfl,hl1,hx⟩:=cI h1;obtain⟨vy,rfl,hl2,hy⟩:=cI h2;have hfo:P.fieldsOf T=fs:=by simp [Program.fieldsOf,hu]
 have:=run_equalIn_struct (P:=P) w 9999 T vx.toArray vy.toArray qH hp;rw [hfo] at this;unfold Op.equal Op.maxDepth;rw [this];refine Sn (g:=g) 9998 fs.toList 0 xs ys _ _ r (λj f hj=>?_) (λj y hj=>?_) (λj y hj=>?_) (by simp [hs,hn]) hr<;>grind
theorem Ec {T:TypeId} {p q:Option Addr} (h:nL P T=true) (hq:q=none):(Op.equal T (.pointer p) (.pointer q)).run P w=.ok p.isNone w:=by
 subst hq;unfold nL at h
 split at h
 .rename_i e hu
  have:∀ d,(Op.equalIn (d+1) T (.pointer p) (.pointer none)).run P w=.ok p.isNone w:=by
   intro d
   cases p <;> simp [Op.equalIn,underlying,hu]
  exact this 9999
 .cases h
theorem xp {op:BinOp} {T:TypeId} {xo yo:Operand} {k k':IntKind} {m n:Int}:(eqGuard op T xo yo (.int k m) (.int k' n)).run P w=.ok () w:=by
 simp_all[eqGuard]
theorem xm {op:BinOp} {T:TypeId} {xo yo:Operand} {m n:ByteArray}:(eqGuard op T xo yo (.string m) (.string n)).run P w=.ok () w:=by
 simp_all[eqGuard]
theorem xn {op:BinOp} {T:TypeId} {xo yo:Operand} {m n:Option Addr}:(eqGuard op T xo yo (.pointer m) (.pointer n)).run P w=.ok () w:=by
 simp_all[eqGuard]
theorem RV.qAA {v:Value} {x:AV} (h:RV g w v x) (hx:(∃ id o,x=.pt id o)\/(∃ r o,x=.el r o)\/∃ n z i o,x=.ep n z i o):∃ ad,v=.pointer (some ad):=by
 rcases hx with⟨id,o,rfl⟩|⟨r,o,rfl⟩|⟨n,z,i,o,rfl⟩
 .cases h<;>grind
 .cases h<;>grind
 .cases h<;>grind
theorem CU {T:TypeId} {x y:Bool} (h:O6 P T=true):(Op.equal T (.bool x) (.bool y)).run P w=.ok (x==y) w:=by
 unfold O6 at h
 split at h
 .rename_i hu
  have:∀ d,(Op.equalIn (d+1) T (.bool x) (.bool y)).run P w=.ok (x==y) w:=by
   intro d;simp [Op.equalIn,underlying,hu]
  exact this 9999
 .cases h
theorem s6 {op:BinOp} {T:TypeId} {xo yo:Operand} {m n:Bool}:(eqGuard op T xo yo (.bool m) (.bool n)).run P w=.ok () w:=by
 simp_all[eqGuard]
theorem Ed {T t:TypeId} {v:Value} (h:Qf P T=true):(Op.equal T (.iface t v) .nilIface).run P w=.ok false w:=by
 unfold Qf at h
 split at h
 .rename_i ms hu
  have:∀ d,(Op.equalIn (d+1) T (.iface t v) .nilIface).run P w=.ok false w:=by
   intro d;simp [Op.equalIn,underlying,hu]
  exact this 9999
 .cases h
theorem xr {T:TypeId} (h:Qf P T=true):(Op.equal T .nilIface .nilIface).run P w=.ok true w:=by
 unfold Qf at h
 split at h
 .rename_i ms hu
  have:∀ d,(Op.equalIn (d+1) T .nilIface .nilIface).run P w=.ok true w:=by
   intro d;simp [Op.equalIn,underlying,hu]
  exact this 9999
 .cases h
theorem xq {op:BinOp} {T t:TypeId} {xo yo:Operand} {v:Value}:(eqGuard op T xo yo (.iface t v) .nilIface).run P w=.ok () w:=by
 simp_all[eqGuard]
theorem od {op:BinOp} {T:TypeId} {xo:Operand} {c:Value}:(eqGuard op T xo (.const c) .nilIface .nilIface).run P w=.ok () w:=by
 simp_all[eqGuard]
theorem oo {T:TypeId} {op:BinOp} {v1 v2:Value} {r:Bool} {z:AV} (hi:∀ op,op=.eql\/op=.neq->(binOp op T v1 v2).run P w=.ok (.bool (match op with|.eql=>r|_=>!r)) w) (h:bL op r=some z) :
  ∃ v',(binOp op T v1 v2).run P w=.ok v' w/\RV g w v' z:=by
 cases op <;> simp only [bL] at h <;> first|(cases h;done)|skip
 .obtain rfl:=sI h;exact⟨_,hi .eql (.inl rfl),.sc _⟩
 .obtain rfl:=sI h;exact⟨_,hi .neq (.inr rfl),.sc _⟩
theorem Ik {T:TypeId} {op:BinOp} {xo yo:Operand} {v1 v2:Value} {x y z:AV} {cy:Bool} (hcy:cy=true->∃ c,yo=.const c) (h1:RV g w v1 x) (h2:RV g w v2 y) (h:iO P T op cy x y=some z) :
  ∃ v',(do eqGuard op T xo yo v1 v2;binOp op T v1 v2).run P w=.ok v' w/\RV g w v' z:=by
 have ptr:∀ (p:Option Addr) (r:Bool),p.isNone=r->nL P T=true->bL op r=some z->∃ v',(do eqGuard op T xo yo (.pointer p) (.pointer none);binOp op T (.pointer p) (.pointer none)).run P w=.ok v' w/\RV g w v' z:=by
  intro p r hp ht hz;have he:=Ec (P:=P) (w:=w) (T:=T) (p:=p) ht rfl
  obtain⟨v',e1,e2⟩:=oo (P:=P) (w:=w) (g:=g) (T:=T) (v1:=.pointer p) (v2:=.pointer none) (r:=r) (λop ho=>by
   rcases ho with rfl|rfl <;> simp [binOp,he,hp]) hz
  simp_all[xn]
 unfold iO at h
 split at h
 .obtain rfl:=h1.Ye;obtain rfl:=h2.Ye
  split at h
  .rename_i hk;subst hk;obtain⟨v',hr,hv⟩:=Re (P:=P) (g:=g) (w:=w) (T:=T) h
   simp_all[xp]
  .cases h
 .obtain rfl:=h1.Ye;obtain rfl:=h2.Ye;obtain⟨v',hr,hv⟩:=Rd (P:=P) (g:=g) (w:=w) (T:=T) h
  simp_all[xm]
 .obtain rfl:=h1.Ye;obtain rfl:=h2.Ye
  split at h
  .rename_i s t ht;have he:=CU (P:=P) (w:=w) (T:=T) (x:=s) (y:=t) ht
   obtain⟨v',e1,e2⟩:=oo (P:=P) (w:=w) (g:=g) (T:=T) (v1:=.bool s) (v2:=.bool t) (r:=s==t) (λop ho=>by
    rcases ho with rfl|rfl <;> simp [binOp,he]) h
   simp_all[s6]
  .cases h
 .rename_i xs ys;obtain⟨vs1,rfl,_⟩:=cI h1;obtain⟨vs2,rfl,_⟩:=cI h2
  split at h
  .rename_i n ht
   split at h
   .rename_i hn;obtain⟨r,hr,h⟩:=sN.1 h;have he:=xt ht h1 h2 hn hr;obtain⟨fs,hu,hs,hp,hgd,hf⟩:=tC ht
    obtain⟨v',e1,e2⟩:=oo (P:=P) (w:=w) (g:=g) (T:=T) (v1:=.agg vs1.toArray) (v2:=.agg vs2.toArray) (r:=r) (λop ho=>by
     rcases ho with rfl|rfl <;> simp [binOp,he]) h
    simp_all[eqGuard]
   .cases h
  .cases h
 .obtain rfl:=h2.Ye
  split at h
  .rename_i hp;obtain⟨ad,rfl⟩:=h1.qAA (.inl ⟨_,_,rfl⟩)
   simp_all
  .cases h
 .obtain rfl:=h2.Ye
  split at h
  .rename_i hp;obtain⟨ad,rfl⟩:=h1.qAA (.inr (.inl ⟨_,_,rfl⟩))
   simp_all
  .cases h
 .obtain rfl:=h2.Ye
  split at h
  .rename_i hp;obtain⟨ad,rfl⟩:=h1.qAA (.inr (.inr ⟨_,_,_,_,rfl⟩))
   simp_all
  .cases h
 .obtain rfl:=h1.Ye;obtain rfl:=h2.Ye
  simp_all
 .obtain rfl:=h2.Ye
  split at h
  .rename_i hp;have hv1:∃ t v,v1=.iface t v:=by cases h1<;>grind
   obtain⟨t,v,rfl⟩:=hv1
   .have he:=Ed (P:=P) (w:=w) (T:=T) (t:=t) (v:=v) hp
    obtain⟨v',e1,e2⟩:=oo (P:=P) (w:=w) (g:=g) (T:=T) (v1:=.iface t v) (v2:=.nilIface) (r:=false) (λop ho=>by
     rcases ho with rfl|rfl <;> simp [binOp,he]) h
    simp_all[xq]
  .cases h
 .obtain rfl:=h1.Ye;obtain rfl:=h2.Ye
  split at h
  .rename_i hp;simp only [uR] at hp;obtain⟨hp,hc⟩:=hp;obtain⟨c,rfl⟩:=hcy hc;have he:=xr (P:=P) (w:=w) (T:=T) hp
   obtain⟨v',e1,e2⟩:=oo (P:=P) (w:=w) (g:=g) (T:=T) (v1:=.nilIface) (v2:=.nilIface) (r:=true) (λop ho=>by
    rcases ho with rfl|rfl <;> simp [binOp,he]) h
   simp_all[od]
  .cases h
 .cases h
end
end Go.Hm
end
