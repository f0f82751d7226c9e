import Derived.WalkKit
import Derived.MapKept
import Derived.Laws.StructEq
import Derived.Laws.CopyRow
set_option linter.unusedSimpArgs false
set_option linter.unusedVariables false
set_option maxRecDepth 100000
set_option maxHeartbeats 4000000

section
namespace Go.Hm
open Go Go.RowKit
theorem qA {P:Prop} (h:P:=by omega):P:=h
theorem qB {P:Prop} (h:P:=by simp):P:=h
theorem qE {P:Prop} (h:P:=by simp;rfl):P:=h
theorem qP {P:Prop} (h:P:=by simp_all):P:=h
theorem qc {P:Prop} (h:P:=by kernel_rfl):P:=h
theorem qe {P:Prop} (h:P:=by decide):P:=h
theorem qu {P:Prop} (h:P:=by simp;omega):P:=h
theorem qw {P:Prop} (h:P:=by grind):P:=h
theorem zE {P:Prop} (h:P:=by simp [hT]):P:=h
theorem zl {P:Prop} (h:P:=by simp [h1]):P:=h
theorem jM {P:Prop} (h:P:=by simp;exact qm (by omega) (by omega)):P:=h
theorem j7 {P:Prop} (h:P:=by first|(simp [];done)|(simp [];rfl)):P:=h
theorem yH {P:Prop} (h:P:=by simp [h5]):P:=h
theorem yI {P:Prop} (h:P:=by and_intros<;>kernel_rfl):P:=h
theorem yO {P:Prop} (h:P:=by simp [hno]):P:=h
theorem yW {P:Prop} (h:P:=by simpa using ht):P:=h
theorem ya {P:Prop} (h:P:=by simp [h2]):P:=h
theorem yw {P:Prop} (h:P:=by simp [hp2]):P:=h
theorem vE {P:Prop} (h:P:=by simp [];first|done|rfl|exact (ve _).symm):P:=h
theorem vS {P:Prop} (h:P:=by cases e):P:=h
theorem vT {P:Prop} (h:P:=by simpa using hf):P:=h
theorem vZ {P:Prop} (h:P:=by simp [hH]):P:=h
theorem vf {P:Prop} (h:P:=by simp [ac]):P:=h
theorem vg {P:Prop} (h:P:=by simp [h0]):P:=h
theorem vt {P:Prop} (h:P:=by simp [h6]):P:=h
theorem uS {P:Prop} (h:P:=by simp [hp1]):P:=h
theorem uT {P:Prop} (h:P:=by simp [h3]):P:=h
theorem uu {P:Prop} (h:P:=by simp only [yo];omega):P:=h
theorem uv {P:Prop} (h:P:=by simp [t0]):P:=h
theorem kD {P:Prop} (h:P:=by simp [h28]):P:=h
theorem kR {P:Prop} (h:P:=by cases h):P:=h
theorem kS {P:Prop} (h:P:=by simp [t2]):P:=h
theorem kr {P:Prop} (h:P:=by simp [t0,hT]):P:=h
theorem ku {P:Prop} (h:P:=by rw [beq_eq_false_iff_ne];omega):P:=h
theorem wJ {P:Prop} (h:P:=by simp [qj]):P:=h
theorem wq {P:Prop} (h:P:=by first|(simp [fx];done)|(simp [fx];omega)|omega):P:=h
theorem wt {P:Prop} (h:P:=by simp [hp5]):P:=h
theorem wu {P:Prop} (h:P:=by simp [hp4]):P:=h
theorem wv {P:Prop} (h:P:=by simp [h4]):P:=h
theorem ww {P:Prop} (h:P:=by simp [Nm.under]):P:=h
theorem wx {P:Prop} (h:P:=by simp [fx];first|done|rfl):P:=h
theorem ap {P:Prop} (h:P:=by simp [y3]):P:=h
theorem aq {P:Prop} (h:P:=by simp [hH,hH1]):P:=h
theorem b6 {P:Prop} (h:P:=by simp [yN]):P:=h
theorem b7 {P:Prop} (h:P:=by simp [h7]):P:=h
theorem b8 {P:Prop} (h:P:=by rfl):P:=h
theorem cL {P:Prop} (h:P:=by simp [qR.top]):P:=h
theorem cM {P:Prop} (h:P:=by simp [hT1]):P:=h
theorem cN {P:Prop} (h:P:=by simp [h10]):P:=h
theorem cO {P:Prop} (h:P:=by simp [h9]):P:=h
theorem cP {P:Prop} (h:P:=by simp [hT,zp]):P:=h
theorem cQ {P:Prop} (h:P:=by simp [hm.1]):P:=h
theorem cR {P:Prop} (h:P:=by simp [hm]):P:=h
theorem cS {P:Prop} (h:P:=by simp [t3]):P:=h
theorem dS {P:Prop} (h:P:=by exact (have h:=hO;qD.re h)):P:=h
theorem dT {P:Prop} (h:P:=by simp [hF]):P:=h
theorem dU {P:Prop} (h:P:=by simpa using hen):P:=h
theorem dy {P:Prop} (h:P:=by simp [hf,qO.push]):P:=h
theorem dz {P:Prop} (h:P:=by simp [qO.push,zh]):P:=h
theorem eC {P:Prop} (h:P:=by simp;exact RT hat):P:=h
theorem eD {P:Prop} (h:P:=by simp [bE,hk,hq]):P:=h
theorem eE {P:Prop} (h:P:=by simp [ue]):P:=h
theorem eF {P:Prop} (h:P:=by simp [hn,qO.push]):P:=h
theorem eG {P:Prop} (h:P:=by simp [qR.top,hm0]):P:=h
theorem fP {P:Prop} (h:P:=by simp [j9,hk]):P:=h
theorem fQ {P:Prop} (h:P:=by simp [t8]):P:=h
theorem fR {P:Prop} (h:P:=by simp [h11]):P:=h
theorem fT {P:Prop} (h:P:=by simp [zO,hk]):P:=h
theorem fU {P:Prop} (h:P:=by simp [jQ]):P:=h
theorem fV {P:Prop} (h:P:=by simp [hJ]):P:=h
theorem fW {P:Prop} (h:P:=by simp [];rfl):P:=h
theorem fX {P:Prop} (h:P:=by simp [t5]):P:=h
theorem ge {P:Prop} (h:P:=by simp [h2];rfl):P:=h
theorem gh {P:Prop} (h:P:=by simpa using hkd):P:=h
theorem gi {P:Prop} (h:P:=by simp [hq]):P:=h
theorem gj {P:Prop} (h:P:=by simp [h]):P:=h
theorem gk {P:Prop} (h:P:=by simp [j4]):P:=h
theorem gm {P:Prop} (h:P:=by simp [vk]):P:=h
theorem iw {P:Prop} (h:P:=by simp [t4];rfl):P:=h
theorem ix {P:Prop} (h:P:=by simp [hH1]):P:=h
theorem iy {P:Prop} (h:P:=by simp [t6]):P:=h
theorem iz {P:Prop} (h:P:=by simp [yg]):P:=h
theorem lA {P:Prop} (h:P:=by simpa using h):P:=h
theorem lC {P:Prop} (h:P:=by simp only at harg;omega):P:=h
theorem lD {P:Prop} (h:P:=by simp [yP]):P:=h
theorem lE {P:Prop} (h:P:=by simp [hH2]):P:=h
theorem lF {P:Prop} (h:P:=by intro e;simp [e]):P:=h
theorem lG {P:Prop} (h:P:=by simp [t1]):P:=h
theorem mV {P:Prop} (h:P:=by simp [jp,y3]):P:=h
theorem mW {P:Prop} (h:P:=by repeat (first|(with_reducible exact hO)|refine HF ?_|refine HG (by rfl) ?_|refine HD ?_|refine Ar ?_|refine HE ?_|refine HC ?_|exact (have h:=hO;qD.re h))):P:=h
theorem mX {P:Prop} (h:P:=by simp [h19]):P:=h
theorem mY {P:Prop} (h:P:=by simp [uo]):P:=h
theorem mZ {P:Prop} (h:P:=by simp [uN]):P:=h
theorem ma {P:Prop} (h:P:=by simp [hp3]):P:=h
theorem mb {P:Prop} (h:P:=by simpa using h2):P:=h
theorem mc {P:Prop} (h:P:=by rw [TK hc]):P:=h
theorem md {P:Prop} (h:P:=by simp [ab]):P:=h
theorem mf {P:Prop} (h:P:=by simp [hp6]):P:=h
theorem mh {P:Prop} (h:P:=by simp [t9]):P:=h
theorem mi {P:Prop} (h:P:=by simp [zA]):P:=h
theorem mR {P:Prop} (h:P:=by simp [hH,hH1,hH2]):P:=h
theorem mS {P:Prop} (h:P:=by simpa [hk,e] using hn):P:=h
theorem mT {P:Prop} (h:P:=by simp [zh]):P:=h
theorem mU {P:Prop} (h:P:=by simp [yZ]):P:=h
theorem oZ {P:Prop} (h:P:=by simp [h12]):P:=h
theorem o6 {P:Prop} (h:P:=by simp [hO.qH,hT]):P:=h
theorem o8 {P:Prop} (h:P:=by simp [hO.out,hT]):P:=h
theorem o9 {P:Prop} (h:P:=by simp [hO.zo,hT]):P:=h
theorem oa {P:Prop} (h:P:=by simp [bE,hk,hn1,hq]):P:=h
theorem oc {P:Prop} (h:P:=by simpa using he):P:=h
theorem oe {P:Prop} (h:P:=by simp [hO.out]):P:=h
theorem og {P:Prop} (h:P:=by simp [p8]):P:=h
theorem oh {P:Prop} (h:P:=by simp [hl]):P:=h
theorem oi {P:Prop} (h:P:=by simp [hO.jA,hT]):P:=h
theorem oj {P:Prop} (h:P:=by simp [h18]):P:=h
theorem ol {P:Prop} (h:P:=by simp [dj]):P:=h
theorem oo {P:Prop} (h:P:=by grind[jQ]):P:=h
theorem oq {P:Prop} (h:P:=by grind[uI]):P:=h
theorem ot {P:Prop} (h:P:=by simp [za]):P:=h
theorem ou {P:Prop} (h:P:=by simp [hH3]):P:=h
theorem ov {P:Prop} (h:P:=by simp [hL]):P:=h
theorem rQ {P:Prop} (h:P:=by simp [hO.act i a ha,hT]):P:=h
theorem rR {P:Prop} (h:P:=by simp [hyes]):P:=h
theorem rS {P:Prop} (h:P:=by simp [h281]):P:=h
theorem rT {P:Prop} (h:P:=by simp [qR.stop]):P:=h
theorem rU {P:Prop} (h:P:=by simp;first|done|exact⟨rfl,rfl⟩):P:=h
theorem rV {P:Prop} (h:P:=by simp [j2]):P:=h
theorem rW {P:Prop} (h:P:=by first|(simp;done)|fail):P:=h
theorem rX {P:Prop} (h:P:=by simp [hO.qI,hT]):P:=h
theorem rY {P:Prop} (h:P:=by simp [ac,e7,e8,e2,e5,e6,c7,c8,c2,c5,c6,h9,i9,h7,i7]):P:=h
theorem rZ {P:Prop} (h:P:=by simp at hv):P:=h
theorem r7 {P:Prop} (h:P:=by simp [hO.kg.top]):P:=h
theorem r8 {P:Prop} (h:P:=by first|(simp [hc1];done)|fail):P:=h
theorem r9 {P:Prop} (h:P:=by simp [yR,hno]):P:=h
theorem ra {P:Prop} (h:P:=by simp [zP]):P:=h
theorem rb {P:Prop} (h:P:=by simp [zY]):P:=h
theorem rf {P:Prop} (h:P:=by grind[maxLen]):P:=h
theorem rg {P:Prop} (h:P:=by simp [hO.cls i c hc,hT]):P:=h
theorem ri {P:Prop} (h:P:=by simp [wS]):P:=h
theorem rj {P:Prop} (h:P:=by simp [sQ,hv]):P:=h
theorem rk {P:Prop} (h:P:=by simp [hO.kg.sc j k hj hk]):P:=h
theorem rl {P:Prop} (h:P:=by simp [wR]):P:=h
theorem rm {P:Prop} (h:P:=by simpa using hen2):P:=h
theorem rn {P:Prop} (h:P:=by simp [hl,hT]):P:=h
theorem ro {P:Prop} (h:P:=by simpa [kF,hv0] using hv):P:=h
theorem rp {P:Prop} (h:P:=by simp [hO.qH]):P:=h
theorem rq {P:Prop} (h:P:=by first|(simp [hc2 j k hj hk];done)|fail):P:=h
theorem rr {P:Prop} (h:P:=by simp [hO.zo]):P:=h
theorem rt {P:Prop} (h:P:=by simp [ac,e7,e8,e2,e5,e6,c7,c8,c2,c5,c6,h9,i9,l7,i7]):P:=h
theorem ru {P:Prop} (h:P:=by simp [hO.zJ,hT]):P:=h
theorem rx {P:Prop} (h:P:=by simp [h20]):P:=h
theorem ry {P:Prop} (h:P:=by simp [ht]):P:=h
theorem rz {P:Prop} (h:P:=by simp [hp7]):P:=h
theorem sA {P:Prop} (h:P:=by simp [Bj,hv]):P:=h
theorem sB {P:Prop} (h:P:=by simp [St.kill]):P:=h
theorem sC {P:Prop} (h:P:=by repeat (first|(with_reducible exact hOB)|refine HA ?_|refine Nx (by rfl) ?_|refine Nv (by rfl) ?_|refine Nw (by rfl) (by rfl) ?_|refine Nu (by rfl) ?_|exact hOB)):P:=h
theorem sD {P:Prop} (h:P:=by simp [hO.top,jP,hT]):P:=h
theorem sE {P:Prop} (h:P:=by simp at hj):P:=h
theorem sF {P:Prop} (h:P:=by simp [hv]):P:=h
theorem sG {P:Prop} (h:P:=by grind[DI.len]):P:=h
theorem tu {P:Prop} (h:P:=by simpa using h1):P:=h
theorem tv {P:Prop} (h:P:=by rw [qm (by omega) (by omega)];omega):P:=h
theorem tw {P:Prop} (h:P:=by simp [yR,yP]):P:=h
theorem tz {P:Prop} (h:P:=by simp [h6];exact qm (by omega) (by omega)):P:=h
theorem xA {P:Prop} (h:P:=by simp [Nm.zg]):P:=h
theorem xB {P:Prop} (h:P:=by simp [hu]):P:=h
theorem xC {P:Prop} (h:P:=by simp [hno,AI]):P:=h
theorem xD {P:Prop} (h:P:=by simp [ax]):P:=h
theorem xE {P:Prop} (h:P:=by rw [hT];simp):P:=h
theorem xF {P:Prop} (h:P:=by simp [hO1.zo]):P:=h
theorem xG {P:Prop} (h:P:=by simp [kv]):P:=h
theorem xH {P:Prop} (h:P:=by simp [jb,hp]):P:=h
theorem xI {P:Prop} (h:P:=by simp [hO1.jA]):P:=h
theorem xJ {P:Prop} (h:P:=by rw [e];simp):P:=h
theorem xK {P:Prop} (h:P:=by simp [qp]):P:=h
theorem xL {P:Prop} (h:P:=by simp [yR,yP] at he):P:=h
theorem xM {P:Prop} (h:P:=by simp [<- hap]):P:=h
theorem xN {P:Prop} (h:P:=by simp [hl.2]):P:=h
theorem xO {P:Prop} (h:P:=by simp [bE,hk,hn1,hn2]):P:=h
theorem xP {P:Prop} (h:P:=by simp [hO.jA]):P:=h
theorem xQ {P:Prop} (h:P:=by simp [hnext,h5]):P:=h
theorem xR {P:Prop} (h:P:=by simp [lR]):P:=h
theorem xS {P:Prop} (h:P:=by simp [bE,hk,hn1]):P:=h
theorem xT {P:Prop} (h:P:=by simp [kI]):P:=h
theorem xU {P:Prop} (h:P:=by simp [hp5,hn2]):P:=h
theorem xV {P:Prop} (h:P:=by simp [yR,h9]):P:=h
theorem xW {P:Prop} (h:P:=by simp [h9,JG]):P:=h
theorem xX {P:Prop} (h:P:=by simp [hp2']):P:=h
theorem xY {P:Prop} (h:P:=by simp [yR,h2]):P:=h
theorem xZ {P:Prop} (h:P:=by repeat (first|(with_reducible exact hO2)|refine HF ?_|refine HG (by rfl) ?_|refine HD ?_|refine Ar ?_|refine HE ?_|refine HC ?_|exact (have h:=hO2;qD.re h))):P:=h
theorem BL {P:Prop} (h:P:=by simp [hH,hH1,hH2,hH3]):P:=h
theorem BM {P:Prop} (h:P:=by simp [Hm.shown,h1,h2,h3]):P:=h
theorem BN {P:Prop} (h:P:=by simp [ut,hc,hs]):P:=h
theorem BO {P:Prop} (h:P:=by simp [qO.look,qO.push,qR.stop]):P:=h
theorem BP {P:Prop} (h:P:=by simp [h4];rfl):P:=h
theorem BQ {P:Prop} (h:P:=by simp [pa,h]):P:=h
theorem BR {P:Prop} (h:P:=by grind[Region.wanted]):P:=h
theorem BS {P:Prop} (h:P:=by simp [hO1.qH]):P:=h
theorem BT {P:Prop} (h:P:=by simp [AV.tr,nq]):P:=h
theorem BU {P:Prop} (h:P:=by have:=(gS hc).1;omega):P:=h
theorem BV {P:Prop} (h:P:=by cases d <;> rfl):P:=h
theorem BW {P:Prop} (h:P:=by simp only [NY];omega):P:=h
theorem BX {P:Prop} (h:P:=by simp only [qAg];omega):P:=h
theorem BY {P:Prop} (h:P:=by simp [hm.1,hen2]):P:=h
theorem BZ {P:Prop} (h:P:=by simp [pf,hv]):P:=h
theorem B0 {P:Prop} (h:P:=by simp [Value.ownBlock]):P:=h
theorem B1 {P:Prop} (h:P:=by first|(simp [hp3];done)|(simp [hp3];rfl)):P:=h
theorem B2 {P:Prop} (h:P:=by simp [jb,hb]):P:=h
theorem B3 {P:Prop} (h:P:=by rw [h.1];exact gb h.2 (by simp) Nl):P:=h
theorem B4 {P:Prop} (h:P:=by grind[getObj,Sem.run]):P:=h
theorem B5 {P:Prop} (h:P:=by simp [yF,jT];omega):P:=h
theorem B6 {P:Prop} (h:P:=by simp [yR,hV]):P:=h
theorem B7 {P:Prop} (h:P:=by first|(simp [hp5];done)|(simp [hp5];rfl)):P:=h
theorem B8 {P:Prop} (h:P:=by simp;first|done|rfl):P:=h
theorem B9 {P:Prop} (h:P:=by simp [kl,(jg (λ_=>zC) hk i).2]):P:=h
theorem Ba {P:Prop} (h:P:=by simp [ul]):P:=h
theorem Bb {P:Prop} (h:P:=by simp [aZ,h]):P:=h
theorem Bc {P:Prop} (h:P:=by simp [ho2 j k hj hk]):P:=h
theorem Bd {P:Prop} (h:P:=by simp [hnext,hp5]):P:=h
theorem Be {P:Prop} (h:P:=by simp [hm0,qR.top]):P:=h
theorem D4 {P:Prop} (h:P:=by first|(simp [(me i c hc).ff];done)|fail):P:=h
theorem D5 {P:Prop} (h:P:=by first|(simp [q4];done)|fail):P:=h
theorem D6 {P:Prop} (h:P:=by first|(simp [a1];done)|fail):P:=h
theorem D7 {P:Prop} (h:P:=by first|(simp [q5];done)|fail):P:=h
theorem D8 {P:Prop} (h:P:=by intro i x hi hx;rw [yh] at hi;have e:=gK hi;simp only [zP] at hx;rw [if_neg (by simp),if_neg (by simp)] at hx;simp [hx,e.1,e.2.1,e.2.2.1,e.2.2.2]):P:=h
theorem Da {P:Prop} (h:P:=by simp [bE,hk,hn1,hn2,hn3]):P:=h
theorem Db {P:Prop} (h:P:=by first|(simp [o4];done)|fail):P:=h
theorem Dc {P:Prop} (h:P:=by first|(simp [a2 j r hj];done)|fail):P:=h
theorem Dd {P:Prop} (h:P:=by first|(simp [(ke i c hc).ff];done)|fail):P:=h
theorem De {P:Prop} (h:P:=by first|(simp [b1];done)|fail):P:=h
theorem Df {P:Prop} (h:P:=by first|(simp [(ne i c hc).params];done)|fail):P:=h
theorem Dg {P:Prop} (h:P:=by first|(simp [mt];done)|fail):P:=h
theorem Dh {P:Prop} (h:P:=by first|(simp [(ne i c hc).ff];done)|fail):P:=h
theorem Di {P:Prop} (h:P:=by first|(simp [(ne i c hc).qq];done)|fail):P:=h
theorem Dj {P:Prop} (h:P:=by first|(simp [(ke i c hc).ops];done)|fail):P:=h
theorem Dk {P:Prop} (h:P:=by first|(simp [kt];done)|fail):P:=h
theorem Dl {P:Prop} (h:P:=by simp only [vu,if_neg w1,hs,if_neg w0]):P:=h
theorem Dm {P:Prop} (h:P:=by first|(simp [q1];done)|fail):P:=h
theorem Dn {P:Prop} (h:P:=by first|(simp [b2 j r hj];done)|fail):P:=h
theorem Do {P:Prop} (h:P:=by first|(simp [(ke i c hc).qq];done)|fail):P:=h
theorem Dp {P:Prop} (h:P:=by intro x0;induction x0<;>grind[St.kL,St.zT]):P:=h
theorem Dq {P:Prop} (h:P:=by first|(simp [(ke i c hc).params];done)|fail):P:=h
theorem Dr {P:Prop} (h:P:=by first|(simp [(ne i c hc).ops];done)|fail):P:=h
theorem Ds {P:Prop} (h:P:=by first|(simp [a3 j r hj];done)|fail):P:=h
theorem Dt {P:Prop} (h:P:=by intro i x hi hx;rw [yh] at hi;have e:=gK hi;simp [hx,e.1,e.2.1,e.2.2.1,e.2.2.2]):P:=h
theorem Dv {P:Prop} (h:P:=by have:=h.each k hk;omega):P:=h
theorem Dw {P:Prop} (h:P:=by first|(simp [ho3 j r hj];done)|fail):P:=h
theorem Dx {P:Prop} (h:P:=by first|(simp [nt];done)|fail):P:=h
theorem Dy {P:Prop} (h:P:=by rw [hat];exact (have h:=hO1;qD.re h)):P:=h
theorem Dz {P:Prop} (h:P:=by first|(simp [(ke i c hc).cells];done)|fail):P:=h
theorem EA {P:Prop} (h:P:=by first|(simp [o3];done)|fail):P:=h
theorem EB {P:Prop} (h:P:=by simp [bE,hk,hn1,hn2,hq]):P:=h
theorem EC {P:Prop} (h:P:=by first|(simp [(me i c hc).params];done)|fail):P:=h
theorem ED {P:Prop} (h:P:=by first|(simp [(me i c hc).qq];done)|fail):P:=h
theorem EE {P:Prop} (h:P:=by simp [h7];exact qm (by omega) (by omega)):P:=h
theorem EF {P:Prop} (h:P:=by first|(simp [q3];done)|fail):P:=h
theorem EG {P:Prop} (h:P:=by first|(simp [ho1];done)|fail):P:=h
theorem EH {P:Prop} (h:P:=by simp only [vu,if_neg w1,hs]):P:=h
theorem EI {P:Prop} (h:P:=by first|(simp [o2];done)|fail):P:=h
theorem EJ {P:Prop} (h:P:=by obtain rfl:=sI e;exact hn):P:=h
theorem EK {P:Prop} (h:P:=by first|(simp [ho2 j r hj];done)|fail):P:=h
theorem EL {P:Prop} (h:P:=by first|(simp [o1];done)|fail):P:=h
theorem EM {P:Prop} (h:P:=by simp [h8];exact qm (by omega) (by omega)):P:=h
theorem EN {P:Prop} (h:P:=by first|(simp [b3 j r hj];done)|fail):P:=h
theorem EO {P:Prop} (h:P:=by first|(simp [(me i c hc).ops];done)|fail):P:=h
theorem EP {P:Prop} (h:P:=by simp only [vu,if_neg w1,hs,if_true]):P:=h
theorem EQ {P:Prop} (h:P:=by first|(simp [o5];done)|fail):P:=h
theorem ER {P:Prop} (h:P:=by first|(simp [(me i c hc).cells];done)|fail):P:=h
theorem ES {P:Prop} (h:P:=by first|(simp [(ne i c hc).cells];done)|fail):P:=h
theorem ET {P:Prop} (h:P:=by first|(simp [q2];done)|fail):P:=h
theorem EU {P:Prop} (h:P:=by rw [ml hc];omega):P:=h
theorem IF {P:Prop} (h:P:=by rw [show (c.toNat:Int) - 48=(k:Int) by omega];exact u8w (by omega) (by omega)):P:=h
theorem IG {P:Prop} (h:P:=by rintro (rfl|rfl) <;> simp at hok <;> exact hok.1):P:=h
theorem IH {P:Prop} (h:P:=by unfold yq;simp only [List.getLast?_append,List.getLast?_singleton,Av,Option.some_or];exact (have h:=hO2;qD.re h)):P:=h
theorem II {P:Prop} (h:P:=by first|(simp [t5,p5,hcl2];done)|(simp [t5,p5,hcl2];rfl)):P:=h
theorem IJ {P:Prop} (h:P:=by rw [k6];exact lw gl gN (λ_=>HO) _ R' (yo fs.length) k vs f.zB k2 k3 k4 k5 (by omega) yoh):P:=h
theorem IK {P:Prop} (h:P:=by simp [un,c4,d2,bI,bJ,dC,ef]):P:=h
theorem IL {P:Prop} (h:P:=by have:=jg (λ_=>zC) hk 8;simp [this.1,this.2,hk]):P:=h
theorem IM {P:Prop} (h:P:=by repeat (first|(with_reducible exact hSm)|refine Mo ?_|refine Mp hD ?_|refine Ml hD ?_|refine Mm hD ?_|refine Mk hD ?_|exact hSm)):P:=h
theorem IN {P:Prop} (h:P:=by simp [Instr.lookup,va hT,hg,hck,Instr.findKey,va hkey,f1,hr0]):P:=h
theorem IP {P:Prop} (h:P:=by first|(simp [t7,p7,hcl2];done)|(simp [t7,p7,hcl2];rfl)):P:=h
theorem IQ {P:Prop} (h:P:=by simp only [beq_eq_false_iff_ne,ne_eq];omega):P:=h
theorem IR {P:Prop} (h:P:=by rw [hTt];exact⟨by simp [jP,hT],by simp [hO.qI],λj b hb=>by simp [hO.act j b hb],hO.jl.imp λl hl=>by simp [hl],by simp [hO.zJ],by simp [hO.qH],by simp [hO.jA],λj b hb=>by simp [hO.cls j b hb],by simp [hO.out],by simp [<- hap]⟩):P:=h
theorem IS {P:Prop} (h:P:=by simp [Instr.lookup,va hT,hg,hck,Instr.findKey,va hkey,f1]):P:=h
theorem IT {P:Prop} (h:P:=by rw [show (zV V a i).qG a=V.qG a from rfl,wI hd]):P:=h
theorem IU {P:Prop} (h:P:=by have:=jg (λ_=>zC) hk 7;simp [this.1,this.2,hk]):P:=h
theorem IV {P:Prop} (h:P:=by first|(simp [t7,h7,hqs];done)|(simp [t7,h7,hqs];rfl)):P:=h
theorem IW {P:Prop} (h:P:=by rw [hall q (hD.ord.lt q x1)] at x2;cases x2):P:=h
theorem IX {P:Prop} (h:P:=by rw [e6];exact pR gl D9 (λ_=>OG) _ rows' fs.length k a0 a1 a2 a3 a4 a5 vs f.zB e2 e3 e4 e5 (by omega)):P:=h
theorem IY {P:Prop} (h:P:=by simp [un,c5,d4,bI,bJ,dC,ef,gF]):P:=h
theorem qa:type_of% @Nat.le_refl:=@Nat.le_refl
theorem zu:type_of% @Option.map_eq_some_iff.{0,0}:=@Option.map_eq_some_iff
theorem ve:type_of% @Bool.not_not:=@Bool.not_not
theorem jZ:type_of% @List.getElem?_map.{0,0}:=@List.getElem?_map
theorem ju:type_of% @Bool.and_eq_true:=@Bool.and_eq_true
theorem yG:type_of% @List.take_of_length_le.{0}:=@List.take_of_length_le
theorem y5:type_of% @List.all_eq_true.{0}:=@List.all_eq_true
theorem y6:type_of% @List.ext_getElem?.{0}:=@List.ext_getElem?
theorem y9:type_of% @List.mem_append.{0}:=@List.mem_append
theorem vD:type_of% @List.mem_singleton.{0}:=@List.mem_singleton
theorem vQ:type_of% @List.mem_cons.{0}:=@List.mem_cons
theorem uG:type_of% @List.take_add_one.{0}:=@List.take_add_one
theorem uQ:type_of% @Nat.lt_of_lt_of_le:=@Nat.lt_of_lt_of_le
theorem uR:type_of% @Int.toNat_natCast:=@Int.toNat_natCast
theorem u7:type_of% @Option.map_some.{0,0}:=@Option.map_some
theorem ua:type_of% @List.length_append.{0}:=@List.length_append
theorem ub:type_of% @List.getElem?_append_left.{0}:=@List.getElem?_append_left
theorem ur:type_of% @Nat.le_trans:=@Nat.le_trans
theorem kC:type_of% @List.take_length.{0}:=@List.take_length
theorem wj:type_of% @List.getElem?_of_mem.{0}:=@List.getElem?_of_mem
theorem wk:type_of% @Bool.false_eq_true:=@Bool.false_eq_true
theorem wl:type_of% @Bool.not_eq_true:=@Bool.not_eq_true
theorem wm:type_of% @List.length_singleton.{0}:=@List.length_singleton
theorem aS:type_of% @Nat.mul_le_mul_right:=@Nat.mul_le_mul_right
theorem ai:type_of% @List.eq_nil_of_length_eq_zero.{0}:=@List.eq_nil_of_length_eq_zero
theorem aj:type_of% @Bool.not_eq_true':=@Bool.not_eq_true'
theorem ak:type_of% @Array.getElem?_toList.{0}:=@Array.getElem?_toList
theorem al:type_of% @List.map_cons.{0,0}:=@List.map_cons
theorem bT:type_of% @List.getD_eq_getElem?_getD.{0}:=@List.getD_eq_getElem?_getD
theorem bU:type_of% @List.mem_cons_of_mem.{0}:=@List.mem_cons_of_mem
theorem bV:type_of% @List.mem_map.{0,0}:=@List.mem_map
theorem cF:type_of% @Nat.add_assoc:=@Nat.add_assoc
theorem cG:type_of% @List.getElem?_append_right.{0}:=@List.getElem?_append_right
theorem cH:type_of% @Option.ne_none_iff_exists'.{0}:=@Option.ne_none_iff_exists'
theorem dQ:type_of% @List.getElem?_eq_none.{0}:=@List.getElem?_eq_none
theorem dq:type_of% @Nat.add_zero:=@Nat.add_zero
theorem dt:type_of% @List.getElem?_set.{0}:=@List.getElem?_set
theorem du:type_of% @Nat.lt_or_ge:=@Nat.lt_or_ge
theorem fC:type_of% @Prod.mk.inj.{0,0}:=@Prod.mk.inj
theorem fD:type_of% @Option.bind_eq_some_iff.{0,0}:=@Option.bind_eq_some_iff
theorem fE:type_of% @List.getElem?_modify.{0}:=@List.getElem?_modify
theorem fF:type_of% @Nat.zero_add:=@Nat.zero_add
theorem fG:type_of% @List.length_cons.{0}:=@List.length_cons
theorem fH:type_of% @List.getElem?_cons_zero.{0}:=@List.getElem?_cons_zero
theorem fI:type_of% @List.getElem?_cons_succ.{0}:=@List.getElem?_cons_succ
theorem fJ:type_of% @Bool.true_and:=@Bool.true_and
theorem fK:type_of% @List.cons_append.{0}:=@List.cons_append
theorem gT:type_of% @List.mem_range:=@List.mem_range
theorem gU:type_of% @List.map_map.{0,0,0}:=@List.map_map
theorem gV:type_of% @List.drop_eq_getElem_cons.{0}:=@List.drop_eq_getElem_cons
theorem gW:type_of% @List.take_append.{0}:=@List.take_append
theorem il:type_of% @List.length_nil.{0}:=@List.length_nil
theorem im:type_of% @List.length_take.{0}:=@List.length_take
theorem io:type_of% @Array.getElem?_eq_getElem.{0}:=@Array.getElem?_eq_getElem
theorem ip:type_of% @List.dropLast_concat_getLast.{0}:=@List.dropLast_concat_getLast
theorem iq:type_of% @List.append_assoc.{0}:=@List.append_assoc
theorem ir:type_of% @List.append_nil.{0}:=@List.append_nil
theorem mD:type_of% @Nat.add_mul:=@Nat.add_mul
theorem mE:type_of% @Array.getElem?_eq_some_iff.{0}:=@Array.getElem?_eq_some_iff
theorem mF:type_of% @Array.getD_eq_getD_getElem?.{0}:=@Array.getD_eq_getD_getElem?
theorem mG:type_of% @Option.bind_some.{0,0}:=@Option.bind_some
theorem mH:type_of% @List.map_congr_left.{0,0}:=@List.map_congr_left
theorem mI:type_of% @Nat.lt_trichotomy:=@Nat.lt_trichotomy
theorem mJ:type_of% @List.map_append.{0,0}:=@List.map_append
theorem mK:type_of% @Option.isSome_iff_ne_none.{0}:=@Option.isSome_iff_ne_none
theorem oR:type_of% @Nat.mul_comm:=@Nat.mul_comm
theorem oS:type_of% @List.getElem?_append.{0}:=@List.getElem?_append
theorem oT:type_of% @Array.getElem?_setIfInBounds_ne.{0}:=@Array.getElem?_setIfInBounds_ne
theorem oU:type_of% @List.range_succ:=@List.range_succ
theorem oV:type_of% @List.prefix_refl.{0}:=@List.prefix_refl
theorem oW:type_of% @List.map_nil.{0,0}:=@List.map_nil
theorem oX:type_of% @Bool.eq_false_iff:=@Bool.eq_false_iff
theorem rE:type_of% @Nat.one_mul:=@Nat.one_mul
theorem rF:type_of% @Prod.mk.injEq.{0,0}:=@Prod.mk.injEq
theorem rG:type_of% @List.nil_append.{0}:=@List.nil_append
theorem rH:type_of% @List.findIdx?_eq_some_iff_getElem.{0}:=@List.findIdx?_eq_some_iff_getElem
theorem rI:type_of% @List.take_append_drop.{0}:=@List.take_append_drop
theorem rJ:type_of% @Nat.ne_of_lt:=@Nat.ne_of_lt
theorem rK:type_of% @Bool.true_or:=@Bool.true_or
theorem rL:type_of% @List.map_take.{0,0}:=@List.map_take
theorem te:type_of% @Option.some.injEq.{0}:=@Option.some.injEq
theorem tg:type_of% @List.getElem?_take.{0}:=@List.getElem?_take
theorem th:type_of% @List.drop_append.{0}:=@List.drop_append
theorem ti:type_of% @List.getElem?_drop.{0}:=@List.getElem?_drop
theorem tj:type_of% @Nat.eq_zero_or_pos:=@Nat.eq_zero_or_pos
theorem tk:type_of% @Bool.or_eq_true:=@Bool.or_eq_true
theorem Av:type_of% @List.dropLast_concat.{0}:=@List.dropLast_concat
theorem Aw:type_of% @Option.isSome_iff_exists.{0}:=@Option.isSome_iff_exists
theorem Ax:type_of% @List.eq_nil_iff_forall_not_mem.{0}:=@List.eq_nil_iff_forall_not_mem
theorem Ay:type_of% @List.getLast?_eq_some_iff.{0}:=@List.getLast?_eq_some_iff
theorem Az:type_of% @List.drop_eq_nil_of_le.{0}:=@List.drop_eq_nil_of_le
theorem BA:type_of% @Nat.lt_succ_iff_lt_or_eq:=@Nat.lt_succ_iff_lt_or_eq
theorem BB:type_of% @List.length_eq_one_iff.{0}:=@List.length_eq_one_iff
theorem aI {a b:Prop} (x:a) (y:b):a/\b:=⟨x,y⟩
theorem qk {p0 p1 p2:Prop} (x0:p0) (x1:p1) (y:p2):p0/\p1/\p2:=⟨x0,x1,y⟩
theorem zD {p0 p1 p2 p3:Prop} (x0:p0) (x1:p1) (x2:p2) (y:p3):p0/\p1/\p2/\p3:=⟨x0,x1,x2,y⟩
theorem zN {p0 p1 p2 p3 p4:Prop} (x0:p0) (x1:p1) (x2:p2) (x3:p3) (y:p4):p0/\p1/\p2/\p3/\p4:=⟨x0,x1,x2,x3,y⟩
theorem jH {p0 p1 p2 p3 p4 p5:Prop} (x0:p0) (x1:p1) (x2:p2) (x3:p3) (x4:p4) (y:p5):p0/\p1/\p2/\p3/\p4/\p5:=⟨x0,x1,x2,x3,x4,y⟩
theorem jI {p0 p1 p2 p3 p4 p5 p6:Prop} (x0:p0) (x1:p1) (x2:p2) (x3:p3) (x4:p4) (x5:p5) (y:p6):p0/\p1/\p2/\p3/\p4/\p5/\p6:=⟨x0,x1,x2,x3,x4,x5,y⟩
theorem jN {p0 p1 p2 p3 p4 p5 p6 p7:Prop} (x0:p0) (x1:p1) (x2:p2) (x3:p3) (x4:p4) (x5:p5) (x6:p6) (y:p7):p0/\p1/\p2/\p3/\p4/\p5/\p6/\p7:=⟨x0,x1,x2,x3,x4,x5,x6,y⟩
theorem vI {p0 p1 p2 p3 p4 p5 p6 p7 p8:Prop} (x0:p0) (x1:p1) (x2:p2) (x3:p3) (x4:p4) (x5:p5) (x6:p6) (x7:p7) (y:p8):p0/\p1/\p2/\p3/\p4/\p5/\p6/\p7/\p8:=⟨x0,x1,x2,x3,x4,x5,x6,x7,y⟩
theorem y8 {p0 p1 p2 p3 p4 p5 p6 p7 p8 p9:Prop} (x0:p0) (x1:p1) (x2:p2) (x3:p3) (x4:p4) (x5:p5) (x6:p6) (x7:p7) (x8:p8) (y:p9):p0/\p1/\p2/\p3/\p4/\p5/\p6/\p7/\p8/\p9:=⟨x0,x1,x2,x3,x4,x5,x6,x7,x8,y⟩
theorem jS {p0 p1 p2 p3 p4 p5 p6 p7 p8 p9 p10:Prop} (x0:p0) (x1:p1) (x2:p2) (x3:p3) (x4:p4) (x5:p5) (x6:p6) (x7:p7) (x8:p8) (x9:p9) (y:p10):p0/\p1/\p2/\p3/\p4/\p5/\p6/\p7/\p8/\p9/\p10:=⟨x0,x1,x2,x3,x4,x5,x6,x7,x8,x9,y⟩
theorem qh {p0 p1 p2 p3 p4 p5 p6 p7 p8 p9 p10 p11 p12:Prop} (x0:p0) (x1:p1) (x2:p2) (x3:p3) (x4:p4) (x5:p5) (x6:p6) (x7:p7) (x8:p8) (x9:p9) (x10:p10) (x11:p11) (y:p12):p0/\p1/\p2/\p3/\p4/\p5/\p6/\p7/\p8/\p9/\p10/\p11/\p12:=⟨x0,x1,x2,x3,x4,x5,x6,x7,x8,x9,x10,x11,y⟩
theorem sI {α:Type _} {a b:α} (h:some a=some b):a=b:=Option.some.inj h
theorem lB {a b:Nat} (h:Nat.ble a b=true):a<=b:=Nat.le_of_ble_eq_true h
theorem gM {α:Type _} {l:List α} {i:Nat} {a:α} (h:l[i]?=some a):a∈l:=List.mem_of_getElem? h
theorem gS {α:Type _} {l:List α} {i:Nat} {a:α} (h:l[i]?=some a):∃ h:i<l.length,l[i]=a:=List.getElem?_eq_some_iff.1 h
theorem gE {α:Type _} {l:List α} {i:Nat} (h:i<l.length):l[i]?=some l[i]:=List.getElem?_eq_getElem h
theorem gX {α:Type _} {l:List α} {i:Nat} (h:i<l.length):∃ a,l[i]?=some a:=⟨_,gE h⟩
inductive Nm where
 | s (d:Nat)
 | c (n:Nm) (i j:Nat)
 | u (k i j:Nat)
 deriving DecidableEq
def Nm.under (k0:Nm):Nm->Bool
 | .s d=>decide (Nm.s d=k0)
 | .u k i j=>decide (Nm.u k i j=k0)
 | .c q i j=>decide (Nm.c q i j=k0)||Nm.under k0 q
def Nm.qv (k0 k1:Nm):Nm->Nm
 | .s d=>if Nm.s d=k0 then k1 else .s d
 | .u k i j=>if Nm.u k i j=k0 then k1 else .u k i j
 | .c q i j=>if Nm.c q i j=k0 then k1 else .c (Nm.qv k0 k1 q) i j
def mv (k0 k1 k:Nm):Option Nm:=if Nm.under k0 k then some (Nm.qv k0 k1 k) else if Nm.under k1 k then none else some k
def kl (k0 k:Nm):Option Nm:=if Nm.under k0 k then none else some k
inductive AV where
 | sc (v:Value)
 | sl (z:Nat) (rows:List (List AV))
 | el (row:List AV) (off:Nat)
 | hs (n:Nm) (z lo len:Nat)
 | pt (n:Nm) (off:Nat)
 | ep (n:Nm) (z i off:Nat)
 | mp (n:Nm)
 | agg (cs:List AV)
 | zX (cs:List AV)
 | jE (t:TypeId) (a:AV)
 | fn (f:Fn) (xs ys:List AV)
 | bot
inductive AO where
 | row (z:Nat) (rows:List (List AV))
 | map (es:List (AV×AV))
 | vw (T:TypeId) (z:Nat) (ex:Bool) (rows:List (List AV))
mutual
def AV.tr (f:Nm->Option Nm):AV->AV
 | .sc v=>.sc v
 | .sl z rows=>.sl z (iV f rows)
 | .el row off=>.el (bM f row) off
 | .hs n z lo len=>match f n with|some n'=>.hs n' z lo len|none=>.bot
 | .pt n off=>match f n with|some n'=>.pt n' off|none=>.bot
 | .ep n z i off=>match f n with|some n'=>.ep n' z i off|none=>.bot
 | .mp n=>match f n with|some n'=>.mp n'|none=>.bot
 | .agg cs=>.agg (bM f cs)
 | .zX cs=>.zX (bM f cs)
 | .jE t a=>.jE t (AV.tr f a)
 | .fn g xs ys=>.fn g (bM f xs) (bM f ys)
 | .bot=>.bot
def bM (f:Nm->Option Nm):List AV->List AV
 | []=>[]
 | a::l=>AV.tr f a::bM f l
def iV (f:Nm->Option Nm):List (List AV)->List (List AV)
 | []=>[]
 | r::l=>bM f r::iV f l
end
theorem nq (f:Nm->Option Nm) (l:List AV):bM f l=l.map (AV.tr f):=by
 induction l<;>grind[bM]
theorem tO (f:Nm->Option Nm) (l:List (List AV)):iV f l=l.map (λr=>r.map (AV.tr f)):=by
 induction l<;>grind[iV,nq]
def AO.tr (f:Nm->Option Nm):AO->AO
 | .row z rows=>.row z (rows.map (λr=>r.map (AV.tr f)))
 | .map es=>.map (es.map (λe=>(e.1.tr f,e.2.tr f)))
 | .vw T z ex rows=>.vw T z ex (rows.map (λr=>r.map (AV.tr f)))
theorem Nm.kj (k:Nm):Nm.under k k=true:=by cases k <;> simp [Nm.under]
theorem Nm.ei {k0 k1:Nm}:∀ k,Nm.under k0 k=true->Nm.under k1 (Nm.qv k0 k1 k)=true:=by
 intro k
 induction k<;>grind[under,qv,kj]
theorem Nm.nN {k0 q:Nm} {i j:Nat} (h:Nm.under k0 q=true):Nm.c q i j≠k0:=by
 have size:∀ k:Nm,Nm.under k0 k=true->SizeOf.sizeOf k0<=SizeOf.sizeOf k:=by
  intro k
  induction k<;>grind[under]
 grind
theorem Nm.C2 {k0 k1:Nm}:∀ k k',Nm.under k0 k=true->Nm.under k0 k'=true->Nm.qv k0 k1 k=Nm.qv k0 k1 k'->k=k':=by
 have base:∀ k:Nm,k=k0->Nm.qv k0 k1 k=k1:=by
  intro k e
  cases k <;> simp [Nm.qv,e]
 have leaf:∀ k k',k=k0->Nm.under k0 k'=true->Nm.qv k0 k1 k=Nm.qv k0 k1 k'->k=k':=by
  intro k k' h h' e;rw [base k h] at e
  cases k'<;>grind[under,qv,nN,ei]
 intro k
 induction k with
 | s d=>grind[under]
 | u a b d=>grind[under]
 | c q i j ih =>
  intro k' h h' e;by_cases hq:Nm.c q i j=k0
  .grind
  .by_cases hk':k'=k0
   .grind
   .simp [Nm.under,hq] at h;have e0:Nm.qv k0 k1 (.c q i j)=.c (Nm.qv k0 k1 q) i j:=by grind[qv]
    rw [e0] at e
    cases k'<;>grind[under,qv]
theorem CO {k0 k1 k k' x:Nm} (h:mv k0 k1 k=some x) (h':mv k0 k1 k'=some x):k=k':=by
 grind[mv,Nm.C2,Nm.ei]
theorem KH {k0 k x:Nm} (h:kl k0 k=some x):k=x/\Nm.under k0 x=false:=by
 grind[kl]
theorem KG {k0 k k' x:Nm} (h:kl k0 k=some x) (h':kl k0 k'=some x):k=k':=(KH h).1.trans (KH h').1.symm
theorem MJ {α:Type} {r:List α} {off:Nat} {vals:List α} (h:off+vals.length<=r.length) (j:Nat) :
  (r.take off++vals++r.drop (off+vals.length))[j]?=if off<=j/\j<off+vals.length then vals[j - off]? else r[j]?:=by
 simp_all<;>grind
theorem Cd (cur:List Value) (o:Nat) (nv:List Value) (h:o+nv.length<=cur.length) (p:Nat) :
  ((cur.take o++nv++cur.drop (o+nv.length)).toArray).getD p undef=if o<=p/\p<o+nv.length then nv.getD (p - o) undef else cur.getD p undef:=by
 simp_all<;>grind
def qf (P:Program) (T:TypeId):Nat:=((P.info? T).map (·.size)).getD 0
structure Gh where
 C:Nat->Prop
 φ:Nm->Option Nat
 κ:Nm->Nat
inductive RV (g:Gh) (w:World):Value->AV->Prop
 | sc (v:Value):RV g w v (.sc v)
 | yL (ad:Option Addr) (cap:Nat) (z:Nat):RV g w (.slice ad 0 cap) (.sl z [])
 | dA (b off cap n z:Nat) (rows:List (List AV)) (f:Nat->Nat->Value) (hC:g.C b) (hn:rows.length=n) (hcap:n<=cap) (hu:∀ r∈rows,r.length=z)
   (hcell:∀ i j,i<n->j<z->w.cell? ⟨b,off+i * z+j,none⟩=some (f i j))
   (ho:∀ i j,i<n->j<z->(f i j).oneCell'=true)
   (hr:∀ (i:Nat) row,rows[i]?=some row->∀ (j:Nat) a,row[j]?=some a->RV g w (f i j) a):RV g w (.slice (some ⟨b,off,none⟩) n cap) (.sl z rows)
 | el (b o off:Nat) (row:List AV) (f:Nat->Value) (hC:g.C b)
   (hcell:∀ j,j<row.length->w.cell? ⟨b,o+j,none⟩=some (f j))
   (ho:∀ j,j<row.length->(f j).oneCell'=true)
   (hr:∀ (j:Nat) a,row[j]?=some a->RV g w (f j) a):RV g w (.pointer (some ⟨b,o+off,none⟩)) (.el row off)
 | cV (n:Nm) (z:Nat) (hk:g.φ n=none):RV g w (.slice none 0 0) (.hs n z 0 0)
 | aV (n:Nm) (z lo len b cap:Nat) (ad:Option Addr) (hk:g.φ n=some b) (h1:len<=cap) (h2:lo+cap=g.κ n) (h3:0<cap->ad=some ⟨b,lo * z,none⟩) :
   RV g w (.slice ad len cap) (.hs n z lo len)
 | pt (n:Nm) (off b:Nat) (hk:g.φ n=some b):RV g w (.pointer (some ⟨b,off,none⟩)) (.pt n off)
 | ep (n:Nm) (z i off b:Nat) (hk:g.φ n=some b):RV g w (.pointer (some ⟨b,i * z+off,none⟩)) (.ep n z i off)
 | mp (n:Nm) (b:Nat) (hk:g.φ n=some b):RV g w (.map (some b)) (.mp n)
 | agg (vs:List Value) (cs:List AV) (hl:vs.length=cs.length) (hr:∀ (j:Nat) v a,vs[j]?=some v->cs[j]?=some a->RV g w v a):RV g w (.agg vs.toArray) (.agg cs)
 | zX (vs:List Value) (cs:List AV) (hl:vs.length=cs.length) (hr:∀ (j:Nat) v a,vs[j]?=some v->cs[j]?=some a->RV g w v a):RV g w (.tuple vs.toArray) (.zX cs)
 | jE (t:TypeId) (v:Value) (a:AV) (h:RV g w v a):RV g w (.iface t v) (.jE t a)
 | fn (f:Fn) (vs us:List Value) (xs ys:List AV) (hl:vs.length=xs.length) (hl2:us.length=ys.length) (hr:∀ (j:Nat) v a,vs[j]?=some v->xs[j]?=some a->RV g w v a)
   (hr2:∀ (j:Nat) v a,us[j]?=some v->ys[j]?=some a->RV g w v a):RV g w (.func f vs.toArray us.toArray) (.fn f xs ys)
 | bot (v:Value):RV g w v .bot
theorem RV.tr {g g':Gh} {w w':World} {v:Value} {a:AV} {f:Nm->Option Nm} (h:RV g w v a) (hC:∀ b,g.C b->g'.C b) (hw:∀ b,g.C b->w'.heap[b]?=w.heap[b]?)
  (hf:∀ n n',f n=some n'->g'.φ n'=g.φ n/\g'.κ n'=g.κ n):RV g' w' v (a.tr f):=by
 have cell:∀ (b o:Nat),g.C b->w'.cell? ⟨b,o,none⟩=w.cell? ⟨b,o,none⟩:=by
  grind[World.cell?]
 induction h with
 | sc v=>exact .sc v
 | yL ad cap z=>exact .yL ad cap z
 | dA b off cap n z rows fv hCb hn hcap hu hcell ho _ ih =>
  simp only [AV.tr,tO];refine .dA b off cap n z _ fv (hC b hCb) qP hcap ?_ (λi j hi hj=>qP) ho ?_<;>grind
 | el b o off row fv hCb hcell ho _ ih =>
  simp only [AV.tr,nq];refine .el b o off _ fv (hC b hCb) (λj hj=>qP) (λj hj=>ho j qP) ?_
  simp_all
 | cV n z hk =>
  simp only [AV.tr]
  cases e:f n with
  | none=>exact .bot _
  | some n'=>constructor<;>grind
 | aV n z lo len b cap ad hk h1 h2 h3 =>
  simp only [AV.tr]
  cases e:f n with
  | none=>exact .bot _
  | some n'=>exact .aV n' z lo len b cap ad ((hf n n' e).1.trans hk) h1 (h2.trans (hf n n' e).2.symm) h3
 | pt n off b hk =>
  simp only [AV.tr]
  cases e:f n with
  | none=>exact .bot _
  | some n'=>constructor<;>grind
 | ep n z i off b hk =>
  simp only [AV.tr]
  cases e:f n with
  | none=>exact .bot _
  | some n'=>constructor<;>grind
 | mp n b hk =>
  simp only [AV.tr]
  cases e:f n with
  | none=>exact .bot _
  | some n'=>constructor<;>grind
 | agg vs cs hl _ ih =>
  constructor<;>grind[nq]
 | zX vs cs hl _ ih =>
  constructor<;>grind[nq]
 | jE t v a _ ih=>exact .jE t v _ ih
 | fn fv vs us xs ys hl hl2 _ _ ih ih2 =>
  constructor<;>grind[nq]
 | bot v=>exact .bot v
theorem AV.vv (a:AV):a.tr some=a:=by
 refine AV.rec (motive_1:=λa=>a.tr some=a) (motive_2:=λl=>iV some l=l) (motive_3:=λl=>bM some l=l) ?_ ?_ ?_ ?_ ?_ ?_ ?_ ?_ ?_ ?_ ?_ ?_ ?_ ?_ ?_ ?_ a<;>grind[tr,bM,iV]
theorem AO.vv (o:AO):o.tr some=o:=by
 cases o with
 | row z rows =>
  have:(λr:List AV=>r.map (AV.tr some))=id:=by
   funext r
   have e:AV.tr some=id:=by grind[AV.vv]
   rw [e];simp
  simp_all[tr]
 | map es=>simp [AO.tr,AV.vv]
 | vw T z ex rows =>
  have:(λr:List AV=>r.map (AV.tr some))=id:=by
   funext r
   have e:AV.tr some=id:=by grind[AV.vv]
   rw [e];simp
  simp_all[tr]
theorem RV.same {g g':Gh} {w w':World} {v:Value} {a:AV} (h:RV g w v a) (hC:∀ b,g.C b->g'.C b) (hw:∀ b,g.C b->w'.heap[b]?=w.heap[b]?)
  (hf:∀ n,g'.φ n=g.φ n/\g'.κ n=g.κ n):RV g' w' v a:=by
 have:=h.tr (f:=some) hC hw (λn n' e=>qP)
 grind[AV.vv]
def tZ (g:Gh) (w:World) (b cap z:Nat) (rows:List (List AV)):Prop :=
 ∃ (cur:Array Value) (T:TypeId),w.heap[b]?=some (.cells cur T (0,0))/\cur.size=cap * z/\cap<=maxLen/\rows.length<=cap/\(∀ r∈rows,r.length=z) /\
  (∀ j,j<rows.length * z->(cur.getD j undef).oneCell'=true)/\∀ (i:Nat) row,rows[i]?=some row->∀ (j:Nat) a,row[j]?=some a->RV g w (cur.getD (i * z+j) undef) a
def HW (g:Gh) (w:World) (b cap:Nat) (T:TypeId) (z:Nat) (rows:List (List AV)):Prop :=
 ∃ (cur:Array Value),w.heap[b]?=some (.cells cur T (0,0))/\cur.size=cap * z/\cap<=maxLen/\rows.length<=cap/\(∀ r∈rows,r.length=z) /\
  (∀ j,j<rows.length * z->(cur.getD j undef).oneCell'=true)/\∀ (i:Nat) row,rows[i]?=some row->∀ (j:Nat) a,row[j]?=some a->RV g w (cur.getD (i * z+j) undef) a
def HS (g:Gh) (w:World) (b:Nat) (es:List (AV×AV)):Prop :=
 ∃ (ms:List MapEntry) (clock:Nat),w.heap[b]?=some (.map ms.toArray clock)/\MapKept.Stamped ms.toArray clock/\ms.length=es.length/\∀ (i:Nat) m e,ms[i]?=some m->es[i]?=some e->RV g w m.key e.1/\RV g w m.val e.2
def j6 (g:Gh) (w:World) (n:Nm):AO->Prop
 | .row z rows=>match g.φ n with|some b=>tZ g w b (g.κ n) z rows|none=>rows=[]
 | .map es=>match g.φ n with|some b=>HS g w b es|none=>False
 | .vw T z ex rows=>match g.φ n with|some b=>HW g w b (g.κ n) T z rows/\(ex=true->g.κ n=rows.length)/\(ex=false->0<g.κ n)|none=>rows=[]
theorem j6.tr {g g':Gh} {w w':World} {n n':Nm} {o:AO} {f:Nm->Option Nm} (h:j6 g w n o) (hC:∀ b,g.C b->g'.C b) (hw:∀ b,g.C b->w'.heap[b]?=w.heap[b]?)
  (hf:∀ n n',f n=some n'->g'.φ n'=g.φ n/\g'.κ n'=g.κ n) (hn:f n=some n') (hb:∀ b,g.φ n=some b->w'.heap[b]?=w.heap[b]?):j6 g' w' n' (o.tr f):=by
 obtain⟨e1,e2⟩:=hf n n' hn
 cases o with
 | row z rows =>
  simp only [j6,AO.tr,e1,e2] at h ⊢
  cases e:g.φ n with
  | none=>simp_all
  | some b =>
   rw [e] at h;obtain⟨cur,T,h1,h2,h3,h4,h5,h6,h7⟩:=h;refine⟨cur,T,(hb b e).trans h1,h2,h3,qP,?_,qP,?_⟩
   .simp_all
   .intro i row hrow j a ha;rw [jZ] at hrow;obtain⟨r0,h0,rfl⟩:=zu.1 hrow;rw [jZ] at ha;obtain⟨a0,ha0,rfl⟩:=zu.1 ha;exact (h7 i r0 h0 j a0 ha0).tr hC hw hf
 | map es =>
  simp only [j6,AO.tr,e1] at h ⊢
  cases e:g.φ n with
  | none=>simp_all
  | some b =>
   rw [e] at h;obtain⟨ms,clock,h1,hst,h2,h3⟩:=h;refine⟨ms,clock,(hb b e).trans h1,hst,qP,λi m en hm he=>?_⟩;rw [jZ] at he;obtain⟨e0,he0,rfl⟩:=zu.1 he;obtain⟨r1,r2⟩:=h3 i m e0 hm he0;exact⟨r1.tr hC hw hf,r2.tr hC hw hf⟩
 | vw T z ex rows =>
  simp only [j6,AO.tr,e1,e2] at h ⊢
  cases e:g.φ n with
  | none=>simp_all
  | some b =>
   rw [e] at h;obtain⟨⟨cur,h1,h2,h3,h4,h5,h6,h7⟩,h8⟩:=h;refine⟨⟨cur,(hb b e).trans h1,h2,h3,qP,?_,qP,?_⟩,λhe=>qP,h8.2⟩
   .simp_all
   .intro i row hrow j a ha;rw [jZ] at hrow;obtain⟨r0,h0,rfl⟩:=zu.1 hrow;rw [jZ] at ha;obtain⟨a0,ha0,rfl⟩:=zu.1 ha;exact (h7 i r0 h0 j a0 ha0).tr hC hw hf
structure Inv (own:Nat->Prop) (C:Nat->Prop) (w0:World) (g:Gh) (hp:Nm->Option AO) (w:World):Prop where
 os:w.os=w0.os
 tape:w.tape=w0.tape
 output:w.output=w0.output
 size:w0.heap.size<=w.heap.size
 wN:∀ b,b<w0.heap.size->¬ own b->w.heap[b]?=w0.heap[b]?
 hC:g.C=C
 uU:∀ b,C b->b<w.heap.size
 obj:∀ n o,hp n=some o->j6 g w n o
 qG:∀ n o b,hp n=some o->g.φ n=some b->¬ C b/\(w0.heap.size<=b\/own b)/\b<w.heap.size
 inj:∀ n n' o o' b,hp n=some o->hp n'=some o'->g.φ n=some b->g.φ n'=some b->n=n'
structure St where
 tm:Nat->AV
 hp:Nm->Option AO
 n:Nat
 gl:Nat->Option (List AV)
def cB (w:World) (i:Nat) (row:List AV):Prop:=∀ zs:List Int,zs≠[]->row=zs.map (λz=>.sc (.int .u64 z))->∃ T b,w.heap[i]?=some (.cells (zs.map λz=>Value.int .u64 z).toArray T b)
theorem cB.same {g:Gh} {w w':World} {i:Nat} {row:List AV} (h:cB w i row) (hv:RV g w (.pointer (some ⟨i,0,none⟩)) (.el row 0)) (hw:∀ b,g.C b->w'.heap[b]?=w.heap[b]?):cB w' i row:=by
 intro zs h1 h2
 have hC:g.C i:=by
  generalize hp:Value.pointer (some ⟨i,0,none⟩)=p at hv
  cases hv<;>grind
 grind[cB]
structure Rg (P:Program) (own:Nat->Prop) (C:Nat->Prop) (w0:World) (g:Gh) (st:St) (a:Act) (w:World):Prop where
 inv:Inv own C w0 g st.hp w
 defers:a.defers=[]
 size:a.tmps.size=st.n
 dh:∀ t,RV g w (a.tmps.getD t undef) (st.tm t)
 zJ:∀ i row,st.gl i=some row->(RV g w (.pointer (some ⟨i,0,none⟩)) (.el row 0)/\cB w i row)/\∀ f:Nm->Option Nm,row.map (AV.tr f)=row
def u6 (g g':Gh):Prop:=∀ k i j,g'.φ (.u k i j)=g.φ (.u k i j)/\g'.κ (.u k i j)=g.κ (.u k i j)
theorem u6.refl (g:Gh):u6 g g:=λ_ _ _=>⟨rfl,rfl⟩
theorem u6.trans {g g' g'':Gh} (h:u6 g g') (h':u6 g' g''):u6 g g'':=λk i j=>⟨(h' k i j).1.trans (h k i j).1,(h' k i j).2.trans (h k i j).2⟩
def Nm.z7:Nm->Bool
 | .u _ _ _=>true
 | _=>false
theorem Gj {n:Nm} {k i j:Nat} (h:n.z7=false):Nm.under n (.u k i j)=false:=by
 grind[Nm.z7,Nm.under]
def kA (P:Program) (own:Nat->Prop) (C:Nat->Prop) (w0:World) (g0:Gh) (st:St) (a:Act) (w:World):Prop:=∃ g,u6 g0 g/\Rg P own C w0 g st a w
def St.nm (f:Nm->Option Nm) (hp:Nm->Option AO) (st:St):St:={ tm:=λt=>(st.tm t).tr f,hp:=hp,n:=st.n,gl:=st.gl }
def jw (n:Nm) (hp:Nm->Option AO):Nm->Option AO:=λm=>if Nm.under n m then none else (hp m).map (AO.tr (kl n))
def jJ (n0 n1:Nm) (hp:Nm->Option AO):Nm->Option AO:=λm =>
 if Nm.under n1 m then (if mv n0 n1 (Nm.qv n1 n0 m)=some m then (hp (Nm.qv n1 n0 m)).map (AO.tr (mv n0 n1)) else none) else if Nm.under n0 m then none else (hp m).map (AO.tr (mv n0 n1))
def St.kill (n:Nm) (st:St):St:=st.nm (kl n) (jw n st.hp)
def St.move (n0 n1:Nm) (st:St):St:=st.nm (mv n0 n1) (jJ n0 n1 st.hp)
def St.put (st:St) (d:Option Nat) (a:AV):St :=
 match d with
 | some d=>{ tm:=λt=>if t=d then a else st.tm t,hp:=st.hp,n:=st.n,gl:=st.gl }
 | none=>st
def St.zT (st:St) (n:Nm) (o:AO):St:={ tm:=st.tm,hp:=λm=>if m=n then some o else st.hp m,n:=st.n,gl:=st.gl }
section
variable {P:Program} {own:Nat->Prop} {C:Nat->Prop} {w0:World} {g:Gh} {st:St} {a:Act} {w:World}
theorem Rg.rv (h:Rg P own C w0 g st a w) {g':Gh} {w':World} {f:Nm->Option Nm} (gC:g'.C=g.C) (hw:∀ b,C b->w'.heap[b]?=w.heap[b]?)
  (gf:∀ n n',f n=some n'->g'.φ n'=g.φ n/\g'.κ n'=g.κ n) {v:Value} {x:AV} (hv:RV g w v x):RV g' w' v (x.tr f) :=
 hv.tr (λb hb=>qP) (λb hb=>hw b (h.inv.hC ▸ hb)) gf
theorem Rg.step (h:Rg P own C w0 g st a w) {g':Gh} {w':World} {f:Nm->Option Nm} {hp':Nm->Option AO}
  (gC:g'.C=g.C) (gf:∀ n n',f n=some n'->g'.φ n'=g.φ n/\g'.κ n'=g.κ n)
  (h1:w'.os=w.os) (h2:w'.tape=w.tape) (h3:w'.output=w.output) (h4:w.heap.size<=w'.heap.size)
  (hw:∀ b,C b->w'.heap[b]?=w.heap[b]?) (hkeep:∀ b,b<w0.heap.size->¬ own b->w'.heap[b]?=w.heap[b]?)
  (hobj:∀ n' o',hp' n'=some o' ->
    (∃ n o,f n=some n'/\st.hp n=some o/\o'=o.tr f/\∀ b,g.φ n=some b->w'.heap[b]?=w.heap[b]?) \/
    (j6 g' w' n' o'/\∀ b,g'.φ n'=some b->(¬ C b/\(w0.heap.size<=b\/own b)/\b<w'.heap.size)/\∀ n'' o'',hp' n''=some o''->g'.φ n''=some b->n''=n')) :
  Rg P own C w0 g' (st.nm f hp') a w':=by
 obtain⟨i,hd,hs,hsl,hgl⟩:=h;have h0:Rg P own C w0 g st a w:=⟨i,hd,hs,hsl,hgl⟩;have hwg:∀ b,g.C b->w'.heap[b]?=w.heap[b]?:=λb hb=>hw b (i.hC ▸ hb);have gCf:∀ b,g.C b->g'.C b:=λb hb=>qP
 have old:∀ n' o' b,hp' n'=some o'->g'.φ n'=some b ->
   (∃ n o,f n=some n'/\st.hp n=some o/\g.φ n=some b)\/((¬ C b/\(w0.heap.size<=b\/own b)/\b<w'.heap.size)/\∀ n'' o'',hp' n''=some o''->g'.φ n''=some b->n''=n'):=by
  grind
 refine⟨⟨h1.trans i.os,h2.trans i.tape,h3.trans i.output,ur i.size h4,λb hb ho=>(hkeep b hb ho).trans (i.wN b hb ho),gC.trans i.hC,λb hb=>uQ (i.uU b hb) h4,?_,?_,?_⟩,
  hd,hs,λt=>h0.rv gC hw gf (hsl t),λj row e=>⟨?_,(hgl j row e).2⟩⟩
 .intro n' o' hn';rcases hobj n' o' hn' with⟨n,o,e1,e2,rfl,e4⟩|⟨e,_⟩
  .exact (i.obj n o e2).tr gCf hwg gf e1 e4
  .exact e
 .intro n' o' b hn' hb;rcases old n' o' b hn' hb with⟨n,o,_,e2,e3⟩|⟨e,_⟩
  .obtain⟨x1,x2,x3⟩:=i.qG n o b e2 e3
   grind
  .exact e
 .intro n1 n2 o1 o2 b hn1 hn2 hb1 hb2;rcases old n1 o1 b hn1 hb1 with⟨m1,p1,e1,e2,e3⟩|⟨_,e⟩
  .rcases old n2 o2 b hn2 hb2 with⟨m2,p2,f1,f2,f3⟩|⟨_,e'⟩
   .have:=i.inj m1 m2 p1 p2 b e2 f2 e3 f3
    simp_all
   .exact e' n1 o1 hn1 hb1
  .exact (e n2 o2 hn2 hb2).symm
 .refine⟨?_,(hgl j row e).1.2.same (hgl j row e).1.1 hwg⟩;have:=h0.rv gC hw gf (hgl j row e).1.1
  simpa only [AV.tr,nq,(hgl j row e).2 f] using this
noncomputable def Gh.tr (f:Nm->Option Nm) (g:Gh):Gh :=
 { C:=g.C,φ:=λx=>open Classical in if h:∃ k,f k=some x then g.φ h.choose else none,κ:=λx=>open Classical in if h:∃ k,f k=some x then g.κ h.choose else 0 }
theorem Gh.eh {f:Nm->Option Nm} (hf:∀ k k' x,f k=some x->f k'=some x->k=k') {k k':Nm} (h:f k=some k'):(g.tr f).φ k'=g.φ k/\(g.tr f).κ k'=g.κ k:=by
 have he:∃ k,f k=some k':=⟨k,h⟩
 grind[tr]
theorem u6.kl {n:Nm} (h:n.z7=false):u6 g (g.tr (kl n)):=λk i j=>by
 grind[Hm.kl,Gj,Gh.eh]
theorem u6.mv {n0 n1:Nm} (h:n0.z7=false) (h':n1.z7=false):u6 g (g.tr (mv n0 n1)):=λk i j=>by
 grind[Hm.mv,Gj,Gh.eh,CO]
theorem Rg.rename (h:Rg P own C w0 g st a w) {f:Nm->Option Nm} {hp':Nm->Option AO} (hf:∀ k k' x,f k=some x->f k'=some x->k=k')
  (hobj:∀ n' o',hp' n'=some o'->∃ n o,f n=some n'/\st.hp n=some o/\o'=o.tr f):Rg P own C w0 (g.tr f) (st.nm f hp') a w :=
 h.step rfl (λ_ _ e=>Gh.eh hf e) rfl rfl rfl (qa _) (λ_ _=>rfl) (λ_ _ _=>rfl) (λn' o' e=>by
  simp_all)
theorem Eo {n:Nm} {hp:Nm->Option AO} {n':Nm} {o':AO} (e:jw n hp n'=some o'):∃ o,kl n n'=some n'/\hp n'=some o/\o'=o.tr (kl n):=by
 grind[jw,zu,kl]
theorem Rg.move (h:Rg P own C w0 g st a w) (n0 n1:Nm):Rg P own C w0 (g.tr (mv n0 n1)) (st.move n0 n1) a w :=
 h.rename (λ_ _ _=>CO) (λn' o' e=>by
  grind[jJ,zu,mv])
theorem sW {n m:Nm} (h:Nm.under n m=true):(g.tr (kl n)).φ m=none:=by
 grind[Gh.tr,kl]
theorem Rg.put {d:Option Nat} {v:Value} {x:AV} (h:Rg P own C w0 g st a w) (hd:∀ t,d=some t->t<st.n) (hv:RV g w v x):Rg P own C w0 g (st.put d x) (a.put d v) w:=by
 cases d with
 | none=>exact h
 | some d =>
  obtain⟨i,hdf,hs,hsl,hgl⟩:=h;refine⟨i,hdf,by grind[Act.put,St.put],λt=>?_,hgl⟩
  simp_all<;>grind[Act.put,St.put]
theorem Rg.weaken (h:Rg P own C w0 g st a w) (hp':Nm->Option AO) (sub:∀ m o,hp' m=some o->st.hp m=some o):Rg P own C w0 g { tm:=st.tm,hp:=hp',n:=st.n,gl:=st.gl } a w:=by
 obtain⟨i,hd,hs,hsl,hgl⟩:=h;exact⟨⟨i.os,i.tape,i.output,i.size,i.wN,i.hC,i.uU,λm o e=>i.obj m o (sub m o e),λm o b e=>i.qG m o b (sub m o e),λm m' o o' b e e'=>i.inj m m' o o' b (sub m o e) (sub m' o' e')⟩,hd,hs,hsl,hgl⟩
theorem Rg.Kw (h:Rg P own C w0 g st a w) (n:Nm) (z:Nat):∃ g',Rg P own C w0 g' ((st.kill n).zT n (.row z [])) a w/\RV g' w (.slice none 0 0) (.hs n z 0 0)/\(n.z7=false->u6 g g')/\∀ v x,RV g w v x->RV g' w v (x.tr (kl n)):=by
 have gf:∀ k k',kl n k=some k'->(g.tr (kl n)).φ k'=g.φ k/\(g.tr (kl n)).κ k'=g.κ k:=λ_ _ e=>Gh.eh (λ_ _ _=>KG) e
 have hs:=h.step (g':=g.tr (kl n)) (w':=w) (f:=kl n) (hp':=((st.kill n).zT n (.row z [])).hp) rfl gf rfl rfl rfl (qa _) (λ_ _=>rfl) (λ_ _ _=>rfl) (λn' o' e=>by
  simp only [St.zT] at e
  split at e
  .grind[j6,sW,Nm.kj]
  .obtain⟨o,e1,e2,e3⟩:=Eo e
   grind)
 exact⟨_,hs,.cV n z (sW (Nm.kj n)),λhu=>.kl hu,λv x hx=>h.rv (g':=g.tr (kl n)) rfl (λ_ _=>rfl) gf hx⟩
end
end Go.Hm
end
section
namespace Go.Hm
open Go Go.RowKit
def jO (P:Program) (T:TypeId):Option Bool :=
 if (P.info? T).isSome then
  match P.underlying T with
  | some (.struct _)=>some true
  | some (.array _ _)=>some true
  | some _=>some false
  | none=>none
 else none
def yU (P:Program) (T:TypeId):Option TypeId :=
 match P.underlying T with
 | some (.slice e)=>if (P.info? e).isSome then some e else none
 | _=>none
def dD (P:Program) (T:TypeId):Option (Nat×TypeId) :=
 match P.underlying T with
 | some (.array n e)=>if (P.info? e).isSome then some (n,e) else none
 | _=>none
def ql (P:Program) (T:TypeId) (f:Nat):Option (Nat×TypeId) :=
 match P.underlying T with
 | some (.struct fs)=>match fs[f]? with
  | some fd=>if qf P fd.type=0 then none else some (fd.offset,fd.type)
  | none=>none
 | _=>none
def yC (P:Program) (T:TypeId):Option (List Value):=((P.info? T).bind (·.zero)).map (λz=>z.cells.toList)
theorem lh {P:Program} {w:World} {T:TypeId} (h:(P.info? T).isSome):(sizeOf T).run P w=.ok (qf P T) w:=by
 obtain⟨i,hi⟩:=Aw.1 h;simp [sizeOf,typeInfo,hi,qf]
theorem va {P:Program} {w:World} {T:TypeId} {d:TypeDesc} (h:P.underlying T=some d):(underlying T).run P w=.ok d w:=by
 simp [underlying,h]
theorem SY {P:Program} {T:TypeId} (h:qf P T≠0):(P.info? T).isSome:=by
 unfold qf at h
 cases hi:P.info? T<;>grind
theorem tC {P:Program} {w:World} {T:TypeId} {t:Bool} (h:jO P T=some t):(isAgg T).run P w=.ok t w:=by
 unfold jO at h
 split at h
 .cases hu:P.underlying T with
  | none=>simp_all
  | some d=>cases d <;> simp [hu] at h <;> simp [isAgg,underlying,hu,h]
 .cases h
theorem Jn {P:Program} {T:TypeId} {t:Bool} (h:jO P T=some t):(P.info? T).isSome:=by
 grind[jO]
def AV.one:AV->Bool
 | .sc v=>v.oneCell'
 | .agg _=>false
 | .zX _=>false
 | .bot=>false
 | _=>true
def AV.cells:AV->Option (List AV)
 | .agg cs=>if cs.all AV.one then some cs else none
 | a=>if a.one then some [a] else none
def cU (P:Program) (T:TypeId) (cs:List AV) (off:Nat):Option AV :=
 match jO P T with
 | some true=>if off+qf P T<=cs.length then some (.agg ((cs.drop off).take (qf P T))) else none
 | some false=>cs[off]?
 | none=>none
theorem Pr {v:Value} (h:v.oneCell'=true):v.cells=#[v]:=by
 cases v <;> first|rfl|grind[Value.oneCell']
section
variable {P:Program} {own:Nat->Prop} {C:Nat->Prop} {w0:World} {g:Gh} {st:St} {a:Act} {w:World}
theorem RV.zy {v u:Value} (h:RV g w v (.sc u)):v=u:=by
 cases h;rfl
theorem rD {v:Value} {cs:List AV} (h:RV g w v (.agg cs)):∃ vs:List Value,v=.agg vs.toArray/\vs.length=cs.length/\∀ (j:Nat) y,cs[j]?=some y->∃ u,vs[j]?=some u/\RV g w u y:=by
 cases h with
 | agg vs cs hl hr =>
  refine⟨vs,rfl,hl,λj y hy=>?_⟩;have hlt:j<vs.length:=qw;exact⟨_,gE hlt,hr j _ y (gE hlt) hy⟩
theorem qAp {v:Value} {cs:List AV} (h:RV g w v (.zX cs)):∃ vs:List Value,v=.tuple vs.toArray/\vs.length=cs.length/\∀ (j:Nat) y,cs[j]?=some y->∃ u,vs[j]?=some u/\RV g w u y:=by
 cases h with
 | zX vs cs hl hr =>
  refine⟨vs,rfl,hl,λj y hy=>?_⟩;have hlt:j<vs.length:=qw;exact⟨_,gE hlt,hr j _ y (gE hlt) hy⟩
theorem RV.LI {v:Value} {x:AV} (h:RV g w v x) (ho:x.one=true):v.oneCell'=true:=by
 cases h <;> first|rfl|exact ho|grind[AV.one]
theorem RV.cells {v:Value} {x:AV} {cs:List AV} (h:RV g w v x) (hc:x.cells=some cs) :
  v.cells.toList.length=cs.length/\(∀ u∈v.cells.toList,u.oneCell'=true)/\∀ (j:Nat) u y,v.cells.toList[j]?=some u->cs[j]?=some y->RV g w u y:=by
 by_cases hx:∃ ds,x=.agg ds
 .obtain⟨ds,rfl⟩:=hx;simp only [AV.cells] at hc
  split at hc
  .rename_i hall;obtain rfl:=sI hc;have hone:∀ y∈ds,y.one=true:=λy hy=>y5.1 hall y hy
   cases h with
   | agg vs cs hl hr =>
    refine⟨by grind[Value.cells],?_,λj u y hu hy=>hr j u y (by grind[Value.cells]) hy⟩;intro u hu;simp only [Value.cells] at hu;obtain⟨j,hj⟩:=wj hu;have hlt:j<ds.length:=qw;exact (hr j u _ hj (gE hlt)).LI (hone _ (List.getElem_mem hlt))
  .cases hc
 .have hc':(if x.one then some [x] else none)=some cs:=by
   cases x <;> first|exact hc|simp_all
  split at hc'
  .rename_i ho;obtain rfl:=sI hc';have h1:=h.LI ho
   grind[Pr]
  grind
theorem MS {T:TypeId} {cs:List AV} {off:Nat} {x:AV} {b o:Nat} {f:Nat->Value} (hq:cU P T cs off=some x)
  (hcell:∀ j,j<cs.length->w.cell? ⟨b,o+j,none⟩=some (f j)) (hr:∀ (j:Nat) y,cs[j]?=some y->RV g w (f j) y) :
  ∃ v,(loadVar T ⟨b,o+off,none⟩).run P w=.ok v w/\RV g w v x:=by
 unfold cU at hq
 split at hq
 .rename_i hagg
  split at hq
  .rename_i hle;obtain rfl:=sI hq;have hl:=run_loadCells (P:=P) (w:=w) ⟨b,o+off,none⟩ (qf P T) (λj=>f (off+j)) (λj hj=>by grind[Addr.add_lit]);refine⟨.agg ((List.range (qf P T)).map (λj=>f (off+j))).toArray,?_,?_⟩
   .simp_all[loadVar,tC,lh,Jn]
   constructor<;>grind
  .cases hq
 .rename_i hagg;have hlt:off<cs.length:=(gS hq).1
  simp_all[loadVar,tC]
 .cases hq
def ev (st:St):Operand->AV
 | .tmp t=>st.tm t
 | .const v=>.sc v
 | .global i=>match st.gl i with|some row=>.el row 0|none=>.bot
 | .func f=>.sc (.func (.func f) #[] #[])
theorem Rg.ev (h:Rg P own C w0 g st a w) (x:Operand):RV g w (a.eval x) (ev st x):=by
 cases x with
 | tmp t=>exact h.dh t
 | const v=>exact .sc v
 | global i =>
  simp only [Hm.ev,Act.eval]
  split
  .rename_i row hrow;exact (h.zJ i row hrow).1.1
  .exact .bot _
 | func f=>exact .sc _
def ar (st:St):AV->Option (List AV×Nat)
 | .pt n off=>match st.hp n with
  | some (.row _ (r::_))=>some (r,off)
  | _=>none
 | .el row off=>some (row,off)
 | .ep n z i off=>match st.hp n with
  | some (.row z' rows)=>if z'=z then (rows[i]?).map (λr=>(r,off)) else none
  | _=>none
 | _=>none
theorem Inv.rowAt {own:Nat->Prop} {C:Nat->Prop} {w0:World} {g:Gh} {hp:Nm->Option AO} {w:World} (h:Inv own C w0 g hp w) {n:Nm} {b z i:Nat} {rows:List (List AV)} {row:List AV} (hn:hp n=some (.row z rows)) (hk:g.φ n=some b) (hi:rows[i]?=some row) :
  ∃ f:Nat->Value,(∀ j,j<row.length->w.cell? ⟨b,i * z+j,none⟩=some (f j))/\(∀ j,j<row.length->(f j).oneCell'=true)/\∀ (j:Nat) y,row[j]?=some y->RV g w (f j) y:=by
 have ho:=h.obj n _ hn;simp only [j6,hk] at ho;obtain⟨cur,T,h1,h2,h3,h4,h5,h6,h7⟩:=ho;have hlen:row.length=z:=h5 row (gM hi);have hlt:i<rows.length:=(gS hi).1
 have hin:∀ j,j<row.length->i * z+j<rows.length * z:=by
  intro j hj;have:(i+1) * z<=rows.length * z:=aS _ hlt
  grind
 have hcur:∀ j,j<row.length->i * z+j<cur.size:=by
  grind[Value.oneCell',undef]
 refine⟨λj=>cur.getD (i * z+j) undef,?_,λj hj=>h6 _ (hin j hj),λj y hy=>h7 i row hi j y hy⟩
 simp_all<;>grind[cell_of_row]
theorem Rg.ar (h:Rg P own C w0 g st a w) {v:Value} {x:AV} {cs:List AV} {off:Nat} (hv:RV g w v x) (hq:ar st x=some (cs,off)) :
  ∃ (b o:Nat) (f:Nat->Value),v=.pointer (some ⟨b,o+off,none⟩)/\(∀ j,j<cs.length->w.cell? ⟨b,o+j,none⟩=some (f j))/\(∀ j,j<cs.length->(f j).oneCell'=true)/\∀ (j:Nat) y,cs[j]?=some y->RV g w (f j) y:=by
 cases x with
 | pt n o =>
  simp only [Hm.ar] at hq
  split at hq
  .rename_i z r rest hn;obtain⟨rfl,rfl⟩:=fC (sI hq)
   cases hv with
   | pt _ _ b hk =>
    obtain⟨f,f1,f2,f3⟩:=h.inv.rowAt hn hk (i:=0) rfl;exact⟨b,0,f,qB,λj hj=>qP,f2,f3⟩
  .cases hq
 | el row o =>
  simp only [Hm.ar] at hq;obtain⟨rfl,rfl⟩:=fC (sI hq)
  cases hv with
  | el b o' off row f hC hcell ho hr=>exact⟨b,o',f,rfl,hcell,ho,λj y hy=>hr j y hy⟩
 | ep n z i o =>
  simp only [Hm.ar] at hq
  split at hq
  .rename_i z' rows hn
   split at hq
   .rename_i hz;subst hz;obtain⟨r,hr0,e⟩:=zu.1 hq;obtain⟨rfl,rfl⟩:=fC e
    cases hv with
    | ep _ _ _ _ b hk =>
     obtain⟨f,f1,f2,f3⟩:=h.inv.rowAt hn hk hr0;exact⟨b,i * z' ,f,rfl,f1,f2,f3⟩
   .cases hq
  .cases hq
 | _=>simp [Hm.ar] at hq
theorem Y2 {T:TypeId} {x:Operand} {y z:AV} {cs:List AV} {off:Nat} (h:Rg P own C w0 g st a w) (hy:ev st x=y) (h1:ar st y=some (cs,off)) (h2:cU P T cs off=some z) :
  ∃ v,(Instr.loadAt T (a.eval x)).run P w=.ok v w/\RV g w v z:=by
 have hv:=h.ev x;rw [hy] at hv;obtain⟨b,o,f,e,hcell,_,hr⟩:=h.ar hv h1;obtain⟨v,hrun,hrv⟩:=MS h2 hcell hr
 grind[Instr.loadAt,Instr.sureAddr]
def pE (P:Program) (T:TypeId) (f:Nat):AV->Option AV
 | .pt n off=>(ql P T f).map (λp=>.pt n (off+p.1))
 | .el row off=>(ql P T f).map (λp=>.el row (off+p.1))
 | .ep n z i off=>(ql P T f).map (λp=>.ep n z i (off+p.1))
 | _=>none
theorem GI {T:TypeId} {f:Nat} {o:Nat} {e:TypeId} {b p:Nat} (ht:ql P T f=some (o,e)):(Instr.fieldAt T (.pointer (some ⟨b,p,none⟩)) f).run P w=.ok (.pointer (some ⟨b,p+o,none⟩)) w:=by
 unfold ql at ht
 split at ht
 .rename_i fs hu
  split at ht
  .rename_i fd hfd
   split at ht
   .cases ht
   .rename_i hz;obtain⟨rfl,rfl⟩:=fC (sI ht)
    simp_all[Instr.fieldAt,Instr.sureAddr,fieldPlace,Addr.add_lit,va,lh,SY]
  .cases ht
 .cases ht
theorem YQ {T:TypeId} {f:Nat} {v:Value} {y z:AV} (hv:RV g w v y) (h1:pE P T f y=some z):∃ v',(Instr.fieldAt T v f).run P w=.ok v' w/\RV g w v' z:=by
 cases y with
 | pt n off =>
  obtain⟨⟨o,e⟩,ht,rfl⟩:=zu.1 h1
  cases hv with
  | pt _ _ b hk=>exact⟨_,GI ht,.pt n (off+o) b hk⟩
 | el row off =>
  obtain⟨⟨o,e⟩,ht,rfl⟩:=zu.1 h1
  cases hv with
  | el b o' off row f hC hcell ho hr=>exact⟨_,GI ht,by rw [cF];exact .el b o' (off+o) row f hC hcell ho hr⟩
 | ep n z i off =>
  obtain⟨⟨o,e⟩,ht,rfl⟩:=zu.1 h1
  cases hv with
  | ep _ _ _ _ b hk=>exact⟨_,GI ht,by rw [cF];constructor<;>grind⟩
 | _=>simp [pE] at h1
def xn (P:Program) (T:TypeId) (x:AV) (n:Int):Option AV :=
 match yU P T with
 | some e=>match x with
  | .sl z rows=>if z=qf P e/\0<=n then (rows[n.toNat]?).map (λr=>.el r 0) else none
  | .hs m z lo len=>if z=qf P e/\0<=n/\n<len then some (.ep m z (lo+n.toNat) 0) else none
  | _=>none
 | none=>match dD P T with
  | some (len,e)=>if 0<=n/\n<len then (match x with
   | .pt m off=>some (.pt m (off+n.toNat * qf P e))
   | .el row off=>some (.el row (off+n.toNat * qf P e))
   | .ep m z i off=>some (.ep m z i (off+n.toNat * qf P e))
   | _=>none) else none
  | none=>none
theorem NP {T e:TypeId} (h:yU P T=some e):P.underlying T=some (.slice e)/\(P.info? e).isSome:=by
 grind[yU]
theorem NO {T e:TypeId} {n:Nat} (h:dD P T=some (n,e)):P.underlying T=some (.array n e)/\(P.info? e).isSome:=by
 grind[dD]
theorem MT {T e:TypeId} {b p len cap:Nat} {k:IntKind} {n:Int} (ht:yU P T=some e) (h0:0<=n) (h1:n<len) :
  (Instr.indexAt T (.slice (some ⟨b,p,none⟩) len cap) (.int k n)).run P w=.ok (.pointer (some ⟨b,p+n.toNat * qf P e,none⟩)) w:=by
 obtain⟨hu,hi⟩:=NP ht;simp only [Instr.indexAt,asIntOf,Sem.run_bind,Sem.run_pure,Result.andThen_ok,va hu,h0,h1,and_self,if_true,lh hi,Addr.add_lit]
theorem GJ {T e:TypeId} {b p len:Nat} {k:IntKind} {n:Int} (ht:dD P T=some (len,e)) (h0:0<=n) (h1:n<len) :
  (Instr.indexAt T (.pointer (some ⟨b,p,none⟩)) (.int k n)).run P w=.ok (.pointer (some ⟨b,p+n.toNat * qf P e,none⟩)) w:=by
 obtain⟨hu,hi⟩:=NO ht;simp only [Instr.indexAt,asIntOf,Sem.run_bind,Sem.run_pure,Result.andThen_ok,va hu,Instr.sureAddr,h0,h1,and_self,if_true,lh hi,Addr.add_lit]
theorem YZ {T:TypeId} {v:Value} {y z:AV} {k:IntKind} {n:Int} (hv:RV g w v y) (h1:xn P T y n=some z):∃ v',(Instr.indexAt T v (.int k n)).run P w=.ok v' w/\RV g w v' z:=by
 unfold xn at h1
 split at h1
 .rename_i e ht
  cases y with
  | sl E rows =>
   simp only at h1
   split at h1
   .rename_i hc;obtain⟨rfl,h0⟩:=hc;obtain⟨r,hr0,rfl⟩:=zu.1 h1
    cases hv with
    | yL=>simp at hr0
    | dA b off cap len E rows f hC hn hcap hu hcell ho hr =>
     have hlt:n.toNat<len:=qw;have hlen:r.length=qf P e:=hu r (gM hr0);refine⟨_,MT ht h0 qA,?_⟩;exact .el b (off+n.toNat * qf P e) 0 r (f n.toNat) hC (λj hj=>hcell n.toNat j hlt qA) (λj hj=>ho n.toNat j hlt qA) (λj y hy=>hr n.toNat r hr0 j y hy)
   .cases h1
  | hs m z' lo len =>
   simp only at h1
   split at h1
   .rename_i hc;obtain⟨rfl,h0,hlt⟩:=hc;obtain rfl:=sI h1
    cases hv with
    | cV=>omega
    | aV _ _ _ _ b cap ad hk g1 g2 g3 =>
     rw [g3 qA];refine⟨_,MT ht h0 qA,?_⟩;have:=RV.ep (g:=g) (w:=w) m (qf P e) (lo+n.toNat) 0 b hk
     grind
   .cases h1
  | _=>simp at h1
 .split at h1
  .rename_i len e ht
   split at h1
   .rename_i hc;obtain⟨h0,hlt⟩:=hc
    cases y with
    | pt m off =>
     obtain rfl:=sI h1
     cases hv with
     | pt _ _ b hk=>exact⟨_,GJ ht h0 hlt,.pt m _ b hk⟩
    | el row off =>
     obtain rfl:=sI h1
     cases hv with
     | el b o' off row f hC hcell ho hr=>exact⟨_,GJ ht h0 hlt,by rw [cF];exact .el b o' _ row f hC hcell ho hr⟩
    | ep m z' i off =>
     obtain rfl:=sI h1
     cases hv with
     | ep _ _ _ _ b hk=>exact⟨_,GJ ht h0 hlt,by rw [cF];exact .ep m z' i _ b hk⟩
    | _=>simp at h1
   .cases h1
  .cases h1
end
section
variable {P:Program} {own:Nat->Prop} {C:Nat->Prop} {w0:World} {g:Gh} {st:St} {a:Act} {w:World}
def bj (k:IntKind) (op:BinOp) (x y:Int):Option AV :=
 match op with
 | .add=>some (.sc (.int k (k.wrap (x+y))))
 | .sub=>some (.sc (.int k (k.wrap (x - y))))
 | .mul=>some (.sc (.int k (k.wrap (x * y))))
 | .quo=>if y=0 then none else some (.sc (.int k (k.wrap (x.tdiv y))))
 | .rem=>if y=0 then none else some (.sc (.int k (x.tmod y)))
 | .xor=>some (.sc (.int k (k.wrap (BitVec.ofInt k.bits x ^^^ BitVec.ofInt k.bits y).toNat)))
 | .eql=>some (.sc (.bool (x==y)))
 | .neq=>some (.sc (.bool (x != y)))
 | .lss=>some (.sc (.bool (decide (x<y))))
 | .leq=>some (.sc (.bool (decide (x<=y))))
 | .gtr=>some (.sc (.bool (decide (x > y))))
 | .geq=>some (.sc (.bool (decide (x≥y))))
 | _=>none
def ph (op:BinOp) (x y:ByteArray):Option AV :=
 match op with
 | .add=>if x.size+y.size<=9223372036854775807 then some (.sc (.string (x++y))) else none
 | .eql=>some (.sc (.bool (x.toList==y.toList)))
 | .neq=>some (.sc (.bool (!(x.toList==y.toList))))
 | _=>none
def eL:List AV->List AV->Option Bool
 | [],[]=>some true
 | .sc (.int .i64 x)::xs,.sc (.int .i64 y)::ys=>(eL xs ys).map (λr=>(x==y)&&r)
 | _,_=>none
def Al (P:Program) (T:TypeId):Option Nat :=
 match P.underlying T with
 | some (.struct fs)=>if (fs.toList.zipIdx.all λ(f,j)=>f.name != "_"&&f.offset==j&&(match P.underlying f.type with|some (.int .i64)=>true|_=>false)&&(match jO P f.type with|some false=>true|_=>false))&&!P.stoodInHeld T&&!P.eqGuardType P.depth T then some fs.size else none
 | _=>none
def Cm (P:Program) (T:TypeId):Bool:=match P.underlying T with|some .bool=>true|_=>false
def nA (P:Program) (T:TypeId):Bool:=match P.underlying T with|some (.interface _)=>true|_=>false
def eN (P:Program) (T:TypeId):Bool:=match P.underlying T with|some (.pointer _)=>true|_=>false
def wA (op:BinOp) (r:Bool):Option AV:=match op with|.eql=>some (.sc (.bool r))|.neq=>some (.sc (.bool (!r)))|_=>none
def bY (P:Program) (T:TypeId) (op:BinOp) (cy:Bool) (x y:AV):Option AV :=
 match x,y with
 | .sc (.int k m),.sc (.int k' n)=>if k=k' then bj k op m n else none
 | .sc (.string s),.sc (.string t)=>ph op s t
 | .sc (.bool s),.sc (.bool t)=>if Cm P T then wA op (s==t) else none
 | .agg xs,.agg ys=>match Al P T with
  | some n=>if xs.length=n then (eL xs ys).bind (wA op) else none
  | none=>none
 | .pt _ _,.sc (.pointer none)=>if eN P T then wA op false else none
 | .el _ _,.sc (.pointer none)=>if eN P T then wA op false else none
 | .ep _ _ _ _,.sc (.pointer none)=>if eN P T then wA op false else none
 | .sc (.pointer none),.sc (.pointer none)=>if eN P T then wA op true else none
 | .jE _ _,.sc .nilIface=>if nA P T then wA op false else none
 | .sc .nilIface,.sc .nilIface=>if nA P T&&cy then wA op true else none
 | _,_=>none
theorem Y0 {k:IntKind} {op:BinOp} {T:TypeId} {x y:Int} {z:AV} (h:bj k op x y=some z):∃ v,(binOp op T (.int k x) (.int k y)).run P w=.ok v w/\RV g w v z:=by
 cases op <;> simp only [bj] at h <;> first
  | (cases h;done)
  | (obtain rfl:=sI h;exact⟨_,by simp [binOp,Op.intArith,Op.intCmp,Op.intBits];try rfl,.sc _⟩)
  | (split at h
     .cases h
     .rename_i hy;obtain rfl:=sI h;exact⟨_,by simp_all[binOp,Op.intDiv],.sc _⟩)
theorem Yb {op:BinOp} {T:TypeId} {x y:ByteArray} {z:AV} (h:ph op x y=some z):∃ v,(binOp op T (.string x) (.string y)).run P w=.ok v w/\RV g w v z:=by
 cases op <;> simp only [ph] at h <;> first
  | (cases h;done)
  | (obtain rfl:=sI h;exact⟨_,by constructor<;>grind,.sc _⟩)
  | (split at h
     .rename_i hs;obtain rfl:=sI h;refine⟨.string (x++y),?_,.sc _⟩
      have hm:¬ (((x.size+y.size:Nat):Int) > IntKind.i64.max):=by
       simp_all<;>omega
      simp_all[binOp,Op.stringOp]
     .cases h)
theorem Q8 {x:AV} {xs ys:List AV} {r:Bool} (h:eL (x::xs) ys=some r):∃ m n ys' r',x=.sc (.int .i64 m)/\ys=.sc (.int .i64 n)::ys'/\eL xs ys'=some r'/\r=((m==n)&&r'):=by
 generalize hz:x::xs=zs at h;unfold eL at h
 grind[zu]
theorem Q9 (d:Nat):∀ (fs:List Field) (o:Nat) (xs ys:List AV) (vx vy:Array Value) (r:Bool),
  (∀ (j:Nat) f,fs[j]?=some f->f.name ≠ "_"/\f.offset=o+j/\P.underlying f.type=some (.int .i64)/\jO P f.type=some false) ->
  (∀ (j:Nat) y,xs[j]?=some y->∃ v,vx[o+j]?=some v/\RV g w v y)->(∀ (j:Nat) y,ys[j]?=some y->∃ v,vy[o+j]?=some v/\RV g w v y)->fs.length=xs.length ->
  eL xs ys=some r->(Op.eqFields (d+1) vx vy fs).run P w=.ok r w:=by
 intro fs
 induction fs with
 | nil =>
  intro o xs ys vx vy r hf hx hy hl h;have:xs=[]:=ai hl.symm;subst this
  cases ys<;>simp_all[eL,Op.eqFields]
 | cons f fs ih =>
  intro o xs ys vx vy r hf hx hy hl h
  cases xs with
  | nil=>simp at hl
  | cons x xs =>
   obtain⟨m,n,ys',r',rfl,rfl,hr',rfl⟩:=Q8 h
   .obtain⟨f1,f2,f3,f4⟩:=hf 0 f rfl;obtain⟨v1,hv1,hr1⟩:=hx 0 _ rfl;obtain⟨v2,hv2,hr2⟩:=hy 0 _ rfl;rw [hr1.zy] at hv1;rw [hr2.zy] at hv2
    have hp1:(part f.type vx f.offset).run P w=.ok (.int .i64 m) w:=by
     simp_all[part,tC]
    have hp2:(part f.type vy f.offset).run P w=.ok (.int .i64 n) w:=by
     simp_all[part,tC]
    have hih:=ih (o+1) xs ys' vx vy r' (λj f' hj=>by
      have:=hf (j+1) f' qP
      grind)
     (λj y hj=>by have:=hx (j+1) y qP;grind)
     (λj y hj=>by have:=hy (j+1) y qP;grind)
     qP hr'
    simp only [Op.eqFields,ne_eq,f1,not_false_eq_true,if_true,Sem.run_bind,hp1,Result.andThen_ok,hp2,run_equalIn_int w d f.type .i64 .i64 m n f3];by_cases hmn:m=n
    .simp_all
    simp_all
theorem NX {T:TypeId} {n:Nat} (h:Al P T=some n):∃ fs,P.underlying T=some (.struct fs)/\fs.size=n/\P.stoodInHeld T=false/\P.eqGuardType P.depth T=false /\
  ∀ (j:Nat) f,fs.toList[j]?=some f->f.name ≠ "_"/\f.offset=j/\P.underlying f.type=some (.int .i64)/\jO P f.type=some false:=by
 unfold Al at h
 split at h
 .rename_i fs hu
  split at h
  .rename_i hc;simp only [ju,aj] at hc;obtain⟨⟨hall,h1⟩,h2⟩:=hc;refine⟨fs,hu,sI h,h1,h2,λj f hj=>?_⟩
   have hm:(f,j)∈fs.toList.zipIdx:=by
    grind
   grind
  .cases h
 .cases h
theorem YK {T:TypeId} {n:Nat} {xs ys:List AV} {v1 v2:Value} {r:Bool} (ht:Al P T=some n) (h1:RV g w v1 (.agg xs)) (h2:RV g w v2 (.agg ys)) (hn:xs.length=n) (hr:eL xs ys=some r) :
  (Op.equal T v1 v2).run P w=.ok r w:=by
 obtain⟨fs,hu,hs,hp,_,hf⟩:=NX ht;obtain⟨vx,rfl,hl1,hx⟩:=rD h1;obtain⟨vy,rfl,hl2,hy⟩:=rD h2;have hfo:P.fieldsOf T=fs:=by simp [Program.fieldsOf,hu]
 have:=run_equalIn_struct (P:=P) w 9999 T vx.toArray vy.toArray qP hp;rw [hfo] at this;unfold Op.equal Op.maxDepth;rw [this];refine Q9 (g:=g) 9998 fs.toList 0 xs ys _ _ r (λj f hj=>?_) (λj y hj=>?_) (λj y hj=>?_) (by simp [hs,hn]) hr<;>grind
theorem YO {T:TypeId} {p q:Option Addr} (h:eN P T=true) (hq:q=none):(Op.equal T (.pointer p) (.pointer q)).run P w=.ok p.isNone w:=by
 subst hq;unfold eN at h
 split at h
 .rename_i e hu
  have:∀ d,(Op.equalIn (d+1) T (.pointer p) (.pointer none)).run P w=.ok p.isNone w:=by
   intro d
   cases p <;> simp [Op.equalIn,underlying,hu]
  exact this 9999
 .cases h
theorem YU {op:BinOp} {T:TypeId} {xo yo:Operand} {k k':IntKind} {m n:Int}:(eqGuard op T xo yo (.int k m) (.int k' n)).run P w=.ok () w:=by
 simp_all[eqGuard]
theorem YX {op:BinOp} {T:TypeId} {xo yo:Operand} {m n:ByteArray}:(eqGuard op T xo yo (.string m) (.string n)).run P w=.ok () w:=by
 simp_all[eqGuard]
theorem YW {op:BinOp} {T:TypeId} {xo yo:Operand} {m n:Option Addr}:(eqGuard op T xo yo (.pointer m) (.pointer n)).run P w=.ok () w:=by
 simp_all[eqGuard]
theorem RV.tB {v:Value} {x:AV} (h:RV g w v x) (hx:(∃ id o,x=.pt id o)\/(∃ r o,x=.el r o)\/∃ n z i o,x=.ep n z i o):∃ ad,v=.pointer (some ad):=by
 rcases hx with⟨id,o,rfl⟩|⟨r,o,rfl⟩|⟨n,z,i,o,rfl⟩
 .cases h<;>grind
 .cases h<;>grind
 .cases h<;>grind
theorem YL {T:TypeId} {x y:Bool} (h:Cm P T=true):(Op.equal T (.bool x) (.bool y)).run P w=.ok (x==y) w:=by
 unfold Cm at h
 split at h
 .rename_i hu
  have:∀ d,(Op.equalIn (d+1) T (.bool x) (.bool y)).run P w=.ok (x==y) w:=by
   intro d;simp [Op.equalIn,underlying,hu]
  exact this 9999
 .cases h
theorem YS {op:BinOp} {T:TypeId} {xo yo:Operand} {m n:Bool}:(eqGuard op T xo yo (.bool m) (.bool n)).run P w=.ok () w:=by
 simp_all[eqGuard]
theorem YM {T t:TypeId} {v:Value} (h:nA P T=true):(Op.equal T (.iface t v) .nilIface).run P w=.ok false w:=by
 unfold nA at h
 split at h
 .rename_i ms hu
  have:∀ d,(Op.equalIn (d+1) T (.iface t v) .nilIface).run P w=.ok false w:=by
   intro d;simp [Op.equalIn,underlying,hu]
  exact this 9999
 .cases h
theorem YN {T:TypeId} (h:nA P T=true):(Op.equal T .nilIface .nilIface).run P w=.ok true w:=by
 unfold nA at h
 split at h
 .rename_i ms hu
  have:∀ d,(Op.equalIn (d+1) T .nilIface .nilIface).run P w=.ok true w:=by
   intro d;simp [Op.equalIn,underlying,hu]
  exact this 9999
 .cases h
theorem YT {op:BinOp} {T t:TypeId} {xo yo:Operand} {v:Value}:(eqGuard op T xo yo (.iface t v) .nilIface).run P w=.ok () w:=by
 simp_all[eqGuard]
theorem YV {op:BinOp} {T:TypeId} {xo:Operand} {c:Value}:(eqGuard op T xo (.const c) .nilIface .nilIface).run P w=.ok () w:=by
 simp_all[eqGuard]
theorem AR {T:TypeId} {op:BinOp} {v1 v2:Value} {r:Bool} {z:AV} (hi:∀ op,op=.eql\/op=.neq->(binOp op T v1 v2).run P w=.ok (.bool (match op with|.eql=>r|_=>!r)) w) (h:wA op r=some z) :
  ∃ v',(binOp op T v1 v2).run P w=.ok v' w/\RV g w v' z:=by
 cases op <;> simp only [wA] at h <;> first|(cases h;done)|skip
 .obtain rfl:=sI h;exact⟨_,hi .eql (.inl rfl),.sc _⟩
 .obtain rfl:=sI h;exact⟨_,hi .neq (.inr rfl),.sc _⟩
theorem YG {T:TypeId} {op:BinOp} {xo yo:Operand} {v1 v2:Value} {x y z:AV} {cy:Bool} (hcy:cy=true->∃ c,yo=.const c) (h1:RV g w v1 x) (h2:RV g w v2 y) (h:bY P T op cy x y=some z) :
  ∃ v',(do eqGuard op T xo yo v1 v2;binOp op T v1 v2).run P w=.ok v' w/\RV g w v' z:=by
 have ptr:∀ (p:Option Addr) (r:Bool),p.isNone=r->eN P T=true->wA op r=some z->∃ v',(do eqGuard op T xo yo (.pointer p) (.pointer none);binOp op T (.pointer p) (.pointer none)).run P w=.ok v' w/\RV g w v' z:=by
  intro p r hp ht hz;have he:=YO (P:=P) (w:=w) (T:=T) (p:=p) ht rfl
  obtain⟨v',e1,e2⟩:=AR (P:=P) (w:=w) (g:=g) (T:=T) (v1:=.pointer p) (v2:=.pointer none) (r:=r) (λop ho=>by
   rcases ho with rfl|rfl <;> simp [binOp,he,hp]) hz
  simp_all[YW]
 unfold bY at h
 split at h
 .obtain rfl:=h1.zy;obtain rfl:=h2.zy
  split at h
  .rename_i hk;subst hk;obtain⟨v',hr,hv⟩:=Y0 (P:=P) (g:=g) (w:=w) (T:=T) h
   simp_all[YU]
  .cases h
 .obtain rfl:=h1.zy;obtain rfl:=h2.zy;obtain⟨v',hr,hv⟩:=Yb (P:=P) (g:=g) (w:=w) (T:=T) h
  simp_all[YX]
 .obtain rfl:=h1.zy;obtain rfl:=h2.zy
  split at h
  .rename_i s t ht;have he:=YL (P:=P) (w:=w) (T:=T) (x:=s) (y:=t) ht
   obtain⟨v',e1,e2⟩:=AR (P:=P) (w:=w) (g:=g) (T:=T) (v1:=.bool s) (v2:=.bool t) (r:=s==t) (λop ho=>by
    rcases ho with rfl|rfl <;> simp [binOp,he]) h
   simp_all[YS]
  .cases h
 .rename_i xs ys;obtain⟨vs1,rfl,_⟩:=rD h1;obtain⟨vs2,rfl,_⟩:=rD h2
  split at h
  .rename_i n ht
   split at h
   .rename_i hn;obtain⟨r,hr,h⟩:=fD.1 h;have he:=YK ht h1 h2 hn hr;obtain⟨fs,hu,hs,hp,hgd,hf⟩:=NX ht
    obtain⟨v',e1,e2⟩:=AR (P:=P) (w:=w) (g:=g) (T:=T) (v1:=.agg vs1.toArray) (v2:=.agg vs2.toArray) (r:=r) (λop ho=>by
     rcases ho with rfl|rfl <;> simp [binOp,he]) h
    simp_all[eqGuard]
   .cases h
  .cases h
 .obtain rfl:=h2.zy
  split at h
  .rename_i hp;obtain⟨ad,rfl⟩:=h1.tB (.inl ⟨_,_,rfl⟩)
   simp_all
  .cases h
 .obtain rfl:=h2.zy
  split at h
  .rename_i hp;obtain⟨ad,rfl⟩:=h1.tB (.inr (.inl ⟨_,_,rfl⟩))
   simp_all
  .cases h
 .obtain rfl:=h2.zy
  split at h
  .rename_i hp;obtain⟨ad,rfl⟩:=h1.tB (.inr (.inr ⟨_,_,_,_,rfl⟩))
   simp_all
  .cases h
 .obtain rfl:=h1.zy;obtain rfl:=h2.zy
  simp_all
 .obtain rfl:=h2.zy
  split at h
  .rename_i hp;have hv1:∃ t v,v1=.iface t v:=by cases h1<;>grind
   obtain⟨t,v,rfl⟩:=hv1
   .have he:=YM (P:=P) (w:=w) (T:=T) (t:=t) (v:=v) hp
    obtain⟨v',e1,e2⟩:=AR (P:=P) (w:=w) (g:=g) (T:=T) (v1:=.iface t v) (v2:=.nilIface) (r:=false) (λop ho=>by
     rcases ho with rfl|rfl <;> simp [binOp,he]) h
    simp_all[YT]
  .cases h
 .obtain rfl:=h1.zy;obtain rfl:=h2.zy
  split at h
  .rename_i hp;simp only [ju] at hp;obtain⟨hp,hc⟩:=hp;obtain⟨c,rfl⟩:=hcy hc;have he:=YN (P:=P) (w:=w) (T:=T) hp
   obtain⟨v',e1,e2⟩:=AR (P:=P) (w:=w) (g:=g) (T:=T) (v1:=.nilIface) (v2:=.nilIface) (r:=true) (λop ho=>by
    rcases ho with rfl|rfl <;> simp [binOp,he]) h
   simp_all[YV]
  .cases h
 .cases h
end
end Go.Hm
end
