import Derived.WalkKit
import Derived.MapKept
import Derived.Laws.StructEq
import Derived.Laws.CopyRow
set_option linter.unusedSimpArgs false
set_option linter.unusedVariables false
set_option maxRecDepth 100000
set_option maxHeartbeats 4000000

section
namespace Go.Hm
open Go Go.RowKit
theorem qA {P:Prop} (h:P:=by omega):P:=h
theorem qB {P:Prop} (h:P:=by simp):P:=h
theorem qH {P:Prop} (h:P:=by simp;rfl):P:=h
theorem qL {P:Prop} (h:P:=by simp_all):P:=h
theorem qY {P:Prop} (h:P:=by kernel_rfl):P:=h
theorem qc {P:Prop} (h:P:=by decide):P:=h
theorem qn {P:Prop} (h:P:=by simp;omega):P:=h
theorem qp {P:Prop} (h:P:=by grind):P:=h
theorem zG {P:Prop} (h:P:=by simp [hT]):P:=h
theorem zb {P:Prop} (h:P:=by simp [hH]):P:=h
theorem zw {P:Prop} (h:P:=by simp;exact qi (by omega) (by omega)):P:=h
theorem zx {P:Prop} (h:P:=by simp [h1]):P:=h
theorem ji {P:Prop} (h:P:=by simp [h0]):P:=h
theorem jj {P:Prop} (h:P:=by simp [h3]):P:=h
theorem jp {P:Prop} (h:P:=by simp [h2]):P:=h
theorem jq {P:Prop} (h:P:=by simp [hp2]):P:=h
theorem yE {P:Prop} (h:P:=by simpa using ht):P:=h
theorem yF {P:Prop} (h:P:=by simp [hno]):P:=h
theorem yO {P:Prop} (h:P:=by simp [qm]):P:=h
theorem yV {P:Prop} (h:P:=by simp [h5]):P:=h
theorem yW {P:Prop} (h:P:=by and_intros<;>kernel_rfl):P:=h
theorem y3 {P:Prop} (h:P:=by first|(simp [];done)|(simp [];rfl)):P:=h
theorem ya {P:Prop} (h:P:=by simp [];first|done|rfl|exact (vW _).symm):P:=h
theorem yr {P:Prop} (h:P:=by simp [h4]):P:=h
theorem vC {P:Prop} (h:P:=by simp [hU]):P:=h
theorem vH {P:Prop} (h:P:=by simpa using hf):P:=h
theorem vI {P:Prop} (h:P:=by simp [hp1]):P:=h
theorem vQ {P:Prop} (h:P:=by cases e):P:=h
theorem va {P:Prop} (h:P:=by simp [ap]):P:=h
theorem uJ {P:Prop} (h:P:=by simp [hp3]):P:=h
theorem uK {P:Prop} (h:P:=by first|(simp;done)|(simp;rfl)):P:=h
theorem uh {P:Prop} (h:P:=by simp [hp2']):P:=h
theorem uv {P:Prop} (h:P:=by simp only [yo];omega):P:=h
theorem uw {P:Prop} (h:P:=by simp [ho1]):P:=h
theorem kE {P:Prop} (h:P:=by simp [h28]):P:=h
theorem kg {P:Prop} (h:P:=by simp [t0]):P:=h
theorem wF {P:Prop} (h:P:=by simp [ho2 j r hj]):P:=h
theorem wG {P:Prop} (h:P:=by simp [ho3 j r hj]):P:=h
theorem wH {P:Prop} (h:P:=by cases h):P:=h
theorem wW {P:Prop} (h:P:=by rw [beq_eq_false_iff_ne];omega):P:=h
theorem aF {P:Prop} (h:P:=by first|(simp [fx];done)|(simp [fx];omega)|omega):P:=h
theorem aG {P:Prop} (h:P:=by simp [hp4]):P:=h
theorem aH {P:Prop} (h:P:=by simp [Nm.under]):P:=h
theorem aJ {P:Prop} (h:P:=by simp [fx];first|done|rfl):P:=h
theorem aY {P:Prop} (h:P:=by simp [h6]):P:=h
theorem bG {P:Prop} (h:P:=by simp [t3]):P:=h
theorem bH {P:Prop} (h:P:=by simp [hH,hH1]):P:=h
theorem bI {P:Prop} (h:P:=by simp [h2];rfl):P:=h
theorem be {P:Prop} (h:P:=by simp [hp5]):P:=h
theorem bf {P:Prop} (h:P:=by rfl):P:=h
theorem bg {P:Prop} (h:P:=by simp [j9]):P:=h
theorem bh {P:Prop} (h:P:=by simp [t2]):P:=h
theorem bi {P:Prop} (h:P:=by simp [jW,ur]):P:=h
theorem cV {P:Prop} (h:P:=by simp [h10]):P:=h
theorem cW {P:Prop} (h:P:=by simp [hm.1]):P:=h
theorem cX {P:Prop} (h:P:=by simp [h9]):P:=h
theorem dM {P:Prop} (h:P:=by simpa using hen):P:=h
theorem dN {P:Prop} (h:P:=by exact (have h:=hO;qE.re h)):P:=h
theorem dO {P:Prop} (h:P:=by simp [hL]):P:=h
theorem dP {P:Prop} (h:P:=by simp [hT1]):P:=h
theorem dt {P:Prop} (h:P:=by simp [bP,hk,hq]):P:=h
theorem du {P:Prop} (h:P:=by simp [h7]):P:=h
theorem dy {P:Prop} (h:P:=by simp [qU.top]):P:=h
theorem dz {P:Prop} (h:P:=by simp [qU.top,hm0]):P:=h
theorem eC {P:Prop} (h:P:=by simp [t0,hT]):P:=h
theorem eD {P:Prop} (h:P:=by simp [ul]):P:=h
theorem fJ {P:Prop} (h:P:=by simp [];rfl):P:=h
theorem fK {P:Prop} (h:P:=by repeat (first|(with_reducible exact hO)|refine Gt ?_|refine Gu (by rfl) ?_|refine Gr ?_|refine A1 ?_|refine Gs ?_|refine Gq ?_|exact (have h:=hO;qE.re h))):P:=h
theorem fL {P:Prop} (h:P:=by simp [h11]):P:=h
theorem fN {P:Prop} (h:P:=by simp [hJ]):P:=h
theorem fO {P:Prop} (h:P:=by simp at e):P:=h
theorem fP {P:Prop} (h:P:=by simp [yL]):P:=h
theorem fQ {P:Prop} (h:P:=by simp [ue]):P:=h
theorem gW {P:Prop} (h:P:=by simp [t8]):P:=h
theorem gY {P:Prop} (h:P:=by simp [jX]):P:=h
theorem gZ {P:Prop} (h:P:=by simp [h]):P:=h
theorem ga {P:Prop} (h:P:=by rw [qi (by omega) (by omega)];omega):P:=h
theorem gb {P:Prop} (h:P:=by simp [hp6]):P:=h
theorem gc {P:Prop} (h:P:=by simp [hm]):P:=h
theorem ge {P:Prop} (h:P:=by simp [zt,hk]):P:=h
theorem ik {P:Prop} (h:P:=by simp [hq]):P:=h
theorem il {P:Prop} (h:P:=by simp [hH2]):P:=h
theorem im {P:Prop} (h:P:=by intro e;simp [e]):P:=h
theorem io {P:Prop} (h:P:=by simp [uE]):P:=h
theorem ip {P:Prop} (h:P:=by simp [hH1]):P:=h
theorem iq {P:Prop} (h:P:=by simp [t4];rfl):P:=h
theorem ir {P:Prop} (h:P:=by simp at hv;omega):P:=h
theorem it {P:Prop} (h:P:=by simp [y4]):P:=h
theorem mO {P:Prop} (h:P:=by simp [hH,hH1,hH2]):P:=h
theorem mP {P:Prop} (h:P:=by simp [uj]):P:=h
theorem mQ {P:Prop} (h:P:=by simp [h19]):P:=h
theorem mR {P:Prop} (h:P:=by simpa [hk,e] using hn):P:=h
theorem mS {P:Prop} (h:P:=by simp [zr,hk]):P:=h
theorem mT {P:Prop} (h:P:=by simp [yZ]):P:=h
theorem mU {P:Prop} (h:P:=by simp [uO]):P:=h
theorem mV {P:Prop} (h:P:=by simp [ur]):P:=h
theorem mW {P:Prop} (h:P:=by rw [So hc]):P:=h
theorem mX {P:Prop} (h:P:=by simp [t9]):P:=h
theorem oS {P:Prop} (h:P:=by simp [hl]):P:=h
theorem oT {P:Prop} (h:P:=by simp [p8]):P:=h
theorem oE {P:Prop} (h:P:=by simp [h18]):P:=h
theorem oF {P:Prop} (h:P:=by simp [hO.yH,hT]):P:=h
theorem oG {P:Prop} (h:P:=by grind[uL]):P:=h
theorem oH {P:Prop} (h:P:=by simp at hv):P:=h
theorem oI {P:Prop} (h:P:=by simp [hO.qJ,hT]):P:=h
theorem oJ {P:Prop} (h:P:=by simp [zd]):P:=h
theorem oK {P:Prop} (h:P:=by simp [hH3]):P:=h
theorem oL {P:Prop} (h:P:=by simp [h12]):P:=h
theorem oM {P:Prop} (h:P:=by simp [jZ]):P:=h
theorem oN {P:Prop} (h:P:=by simp [hO.out,hT]):P:=h
theorem oO {P:Prop} (h:P:=by simp [hO.jk,hT]):P:=h
theorem oP {P:Prop} (h:P:=by simp [zV]):P:=h
theorem oQ {P:Prop} (h:P:=by simpa using h2):P:=h
theorem oR {P:Prop} (h:P:=by simp [bP,hk,hn1,hq]):P:=h
theorem pi {P:Prop} (h:P:=by simp [hO.kW.sc j k hj hk]):P:=h
theorem pj {P:Prop} (h:P:=by simp [wO]):P:=h
theorem pn {P:Prop} (h:P:=by repeat (first|(with_reducible exact hOB)|refine Gn ?_|refine N9 (by rfl) ?_|refine N7 (by rfl) ?_|refine N8 (by rfl) (by rfl) ?_|refine N6 (by rfl) ?_|exact hOB)):P:=h
theorem po {P:Prop} (h:P:=by simp [jb,hno]):P:=h
theorem pp {P:Prop} (h:P:=by first|(simp [hc1];done)|fail):P:=h
theorem pq {P:Prop} (h:P:=by simp [wN]):P:=h
theorem pr {P:Prop} (h:P:=by simp;try omega):P:=h
theorem pz {P:Prop} (h:P:=by simp [hO.cls i c hc,hT]):P:=h
theorem rA {P:Prop} (h:P:=by simp [hw1]):P:=h
theorem rB {P:Prop} (h:P:=by first|(simp [h0];done)|(simp [h0];rfl)):P:=h
theorem rC {P:Prop} (h:P:=by simp [hv]):P:=h
theorem rD {P:Prop} (h:P:=by simp [hr0]):P:=h
theorem rE {P:Prop} (h:P:=by first|(simp [hc2 j k hj hk];done)|fail):P:=h
theorem rF {P:Prop} (h:P:=by simp [hO.out]):P:=h
theorem rG {P:Prop} (h:P:=by simp [zH]):P:=h
theorem rH {P:Prop} (h:P:=by simp [hO.act i a ha,hT]):P:=h
theorem rI {P:Prop} (h:P:=by simp [St.kill]):P:=h
theorem rJ {P:Prop} (h:P:=by simp;first|done|exact⟨rfl,rfl⟩):P:=h
theorem rK {P:Prop} (h:P:=by simp [t5]):P:=h
theorem rL {P:Prop} (h:P:=by simp [h15]):P:=h
theorem rM {P:Prop} (h:P:=by simpa using he):P:=h
theorem rN {P:Prop} (h:P:=by simp [hyes]):P:=h
theorem rO {P:Prop} (h:P:=by grind[DI.len]):P:=h
theorem rP {P:Prop} (h:P:=by simp [zP]):P:=h
theorem rQ {P:Prop} (h:P:=by simp [jb,hV]):P:=h
theorem rR {P:Prop} (h:P:=by simp [hO.kW.top]):P:=h
theorem rS {P:Prop} (h:P:=by simp at hj):P:=h
theorem rT {P:Prop} (h:P:=by simp [j4]):P:=h
theorem rU {P:Prop} (h:P:=by simp [hO.top,jC,hT]):P:=h
theorem rV {P:Prop} (h:P:=by grind[maxLen]):P:=h
theorem rW {P:Prop} (h:P:=by simpa using hen2):P:=h
theorem rX {P:Prop} (h:P:=by simp [hO.qJ]):P:=h
theorem rY {P:Prop} (h:P:=by simp [qU.stop]):P:=h
theorem rZ {P:Prop} (h:P:=by first|(simp;done)|fail):P:=h
theorem r6 {P:Prop} (h:P:=by grind[qP.reads]):P:=h
theorem r7 {P:Prop} (h:P:=by simp [hO.zJ,hT]):P:=h
theorem r8 {P:Prop} (h:P:=by simp [ap,e7,e8,e2,e5,e6,c7,c8,c2,c5,c6,h9,i9,l7,i7]):P:=h
theorem r9 {P:Prop} (h:P:=by simp [h20]):P:=h
theorem ra {P:Prop} (h:P:=by simp [hl,hT]):P:=h
theorem rb {P:Prop} (h:P:=by simp [ap,e7,e8,e2,e5,e6,c7,c8,c2,c5,c6,h9,i9,h7,i7]):P:=h
theorem rf {P:Prop} (h:P:=by simp [h281]):P:=h
theorem rg {P:Prop} (h:P:=by simp [hO.qF,hT]):P:=h
theorem tS {P:Prop} (h:P:=by simp [h9,Ii]):P:=h
theorem tT {P:Prop} (h:P:=by simp [ki]):P:=h
theorem tU {P:Prop} (h:P:=by simp [hno,Bq]):P:=h
theorem tV {P:Prop} (h:P:=by simp [hO1.yH]):P:=h
theorem tW {P:Prop} (h:P:=by cases d <;> rfl):P:=h
theorem tX {P:Prop} (h:P:=by simp [hp5,hn2]):P:=h
theorem tY {P:Prop} (h:P:=by simp [ql]):P:=h
theorem tZ {P:Prop} (h:P:=by simp [bP,hk,hn1]):P:=h
theorem ta {P:Prop} (h:P:=by rw [e];simp):P:=h
theorem tc {P:Prop} (h:P:=by simp [lJ]):P:=h
theorem td {P:Prop} (h:P:=by simp [fI]):P:=h
theorem te {P:Prop} (h:P:=by simp [hu]):P:=h
theorem tg {P:Prop} (h:P:=by simp [hO.jk]):P:=h
theorem th {P:Prop} (h:P:=by simp [hl.2]):P:=h
theorem ti {P:Prop} (h:P:=by simp [hO.yH]):P:=h
theorem tj {P:Prop} (h:P:=by simp [hp62]):P:=h
theorem tk {P:Prop} (h:P:=by simp [Nm.zo]):P:=h
theorem tp {P:Prop} (h:P:=by simpa using h):P:=h
theorem tq {P:Prop} (h:P:=by simp only at harg;omega):P:=h
theorem tu {P:Prop} (h:P:=by grind[qN.next]):P:=h
theorem tv {P:Prop} (h:P:=by simp [yX]):P:=h
theorem tw {P:Prop} (h:P:=by repeat (first|(with_reducible exact hO2)|refine Gt ?_|refine Gu (by rfl) ?_|refine Gr ?_|refine A1 ?_|refine Gs ?_|refine Gq ?_|exact (have h:=hO2;qE.re h))):P:=h
theorem tz {P:Prop} (h:P:=by simpa using h1):P:=h
theorem xA {P:Prop} (h:P:=by simp [bP,hk,hn1,hn2]):P:=h
theorem xB {P:Prop} (h:P:=by simp [jO]):P:=h
theorem xC {P:Prop} (h:P:=by grind[zt]):P:=h
theorem xD {P:Prop} (h:P:=by simp [hO1.jk]):P:=h
theorem xE {P:Prop} (h:P:=by simp [hp63]):P:=h
theorem Ai {P:Prop} (h:P:=by grind[jX]):P:=h
theorem Aj {P:Prop} (h:P:=by simp [AV.tr,nM]):P:=h
theorem Ak {P:Prop} (h:P:=by simp [hm.1,hen2]):P:=h
theorem Al {P:Prop} (h:P:=by simp [Hm.shown,h1,h2,h3]):P:=h
theorem Am {P:Prop} (h:P:=by simpa using hkd):P:=h
theorem An {P:Prop} (h:P:=by simp [Value.ownBlock]):P:=h
theorem Ao {P:Prop} (h:P:=by simp [hO1.qJ]):P:=h
theorem Ap {P:Prop} (h:P:=by grind[Region.wanted]):P:=h
theorem Aq {P:Prop} (h:P:=by simp [uR]):P:=h
theorem Ar {P:Prop} (h:P:=by simpa using hk1):P:=h
theorem As {P:Prop} (h:P:=by simp;first|done|rfl):P:=h
theorem At {P:Prop} (h:P:=by simp [uI,hc,hs]):P:=h
theorem Au {P:Prop} (h:P:=by have:=(gS hc).1;omega):P:=h
theorem Av {P:Prop} (h:P:=by simp [ho2 j k hj hk]):P:=h
theorem Aw {P:Prop} (h:P:=by simp [yL,hr0]):P:=h
theorem Ax {P:Prop} (h:P:=by simp [h6];rfl):P:=h
theorem Ay {P:Prop} (h:P:=by simp [jn,jI];omega):P:=h
theorem Az {P:Prop} (h:P:=by simp [h3];rfl):P:=h
theorem BA {P:Prop} (h:P:=by simp [kl,(yC (λ_=>qv) hk i).2]):P:=h
theorem BB {P:Prop} (h:P:=by simp [hm0,qU.top]):P:=h
theorem BC {P:Prop} (h:P:=by simp [jb,jv] at he):P:=h
theorem BD {P:Prop} (h:P:=by grind[getObj,Sem.run]):P:=h
theorem BE {P:Prop} (h:P:=by simp [hH,hH1,hH2,hH3]):P:=h
theorem BF {P:Prop} (h:P:=by first|(simp [hp3];done)|(simp [hp3];rfl)):P:=h
theorem DF {P:Prop} (h:P:=by first|(simp [(ke i c hc).fW];done)|fail):P:=h
theorem DG {P:Prop} (h:P:=by first|(simp [(ke i c hc).params];done)|fail):P:=h
theorem DH {P:Prop} (h:P:=by first|(simp [q1];done)|fail):P:=h
theorem DJ {P:Prop} (h:P:=by first|(simp [o5];done)|fail):P:=h
theorem DK {P:Prop} (h:P:=by first|(simp [(ke i c hc).qw];done)|fail):P:=h
theorem DL {P:Prop} (h:P:=by obtain rfl:=sI e;exact hn):P:=h
theorem DN {P:Prop} (h:P:=by first|(simp [q3];done)|fail):P:=h
theorem DO {P:Prop} (h:P:=by first|(simp [nt];done)|fail):P:=h
theorem DP {P:Prop} (h:P:=by first|(simp [(ne i c hc).params];done)|fail):P:=h
theorem DQ {P:Prop} (h:P:=by first|(simp [(me i c hc).cells];done)|fail):P:=h
theorem DR {P:Prop} (h:P:=by first|(simp [a3 j r hj];done)|fail):P:=h
theorem DS {P:Prop} (h:P:=by rw [mY hc];omega):P:=h
theorem DT {P:Prop} (h:P:=by first|(simp [o3];done)|fail):P:=h
theorem DU {P:Prop} (h:P:=by grind[uG,qP.reads]):P:=h
theorem DV {P:Prop} (h:P:=by simp [bP,hk,hn1,hn2,hn3]):P:=h
theorem DX {P:Prop} (h:P:=by first|(simp [o4];done)|fail):P:=h
theorem DY {P:Prop} (h:P:=by simp only [vu,if_neg w1,hs]):P:=h
theorem DZ {P:Prop} (h:P:=by simp [t11];exact qi (by omega) (by omega)):P:=h
theorem D0 {P:Prop} (h:P:=by grind[qN.push,qN.next]):P:=h
theorem D1 {P:Prop} (h:P:=by first|(simp [q2];done)|fail):P:=h
theorem D2 {P:Prop} (h:P:=by first|(simp [b3 j r hj];done)|fail):P:=h
theorem D3 {P:Prop} (h:P:=by first|(simp [o2];done)|fail):P:=h
theorem D4 {P:Prop} (h:P:=by first|(simp [b1];done)|fail):P:=h
theorem D5 {P:Prop} (h:P:=by simp [bP,hk,hn1,hn2,hq]):P:=h
theorem D6 {P:Prop} (h:P:=by first|(simp [ho3 j r hj];done)|fail):P:=h
theorem D7 {P:Prop} (h:P:=by first|(simp [mt];done)|fail):P:=h
theorem D8 {P:Prop} (h:P:=by first|(simp [a2 j r hj];done)|fail):P:=h
theorem D9 {P:Prop} (h:P:=by first|(simp [kt];done)|fail):P:=h
theorem Da {P:Prop} (h:P:=by first|(simp [(ne i c hc).cells];done)|fail):P:=h
theorem Db {P:Prop} (h:P:=by first|(simp;done)|(simp;rw [Ro (by omega)])):P:=h
theorem Dc {P:Prop} (h:P:=by first|(simp [(me i c hc).qw];done)|fail):P:=h
theorem Dd {P:Prop} (h:P:=by rw [hat];exact (have h:=hO1;qE.re h)):P:=h
theorem De {P:Prop} (h:P:=by first|(simp [(ke i c hc).cells];done)|fail):P:=h
theorem Df {P:Prop} (h:P:=by simp only [vu,if_neg w1,hs,if_neg w0]):P:=h
theorem Dg {P:Prop} (h:P:=by first|(simp [b2 j r hj];done)|fail):P:=h
theorem Dh {P:Prop} (h:P:=by first|(simp [a1];done)|fail):P:=h
theorem Di {P:Prop} (h:P:=by first|(simp [o1];done)|fail):P:=h
theorem Dj {P:Prop} (h:P:=by first|(simp [ho2 j r hj];done)|fail):P:=h
theorem Dk {P:Prop} (h:P:=by intro x0;induction x0<;>grind[St.kK,St.zS]):P:=h
theorem Dl {P:Prop} (h:P:=by first|(simp [(ne i c hc).qw];done)|fail):P:=h
theorem Dm {P:Prop} (h:P:=by first|(simp [ho1];done)|fail):P:=h
theorem Dn {P:Prop} (h:P:=by first|(simp [(me i c hc).fW];done)|fail):P:=h
theorem Do {P:Prop} (h:P:=by intro i x hi hx;rw [yh] at hi;have e:=gA hi;simp only [zH] at hx;rw [if_neg (by simp),if_neg (by simp)] at hx;simp [hx,e.1,e.2.1,e.2.2.1,e.2.2.2]):P:=h
theorem Dp {P:Prop} (h:P:=by first|(simp [(ne i c hc).ops];done)|fail):P:=h
theorem Dq {P:Prop} (h:P:=by first|(simp [q4];done)|fail):P:=h
theorem Dr {P:Prop} (h:P:=by first|(simp [(ne i c hc).fW];done)|fail):P:=h
theorem Ds {P:Prop} (h:P:=by intro i x hi hx;rw [yh] at hi;have e:=gA hi;simp [hx,e.1,e.2.1,e.2.2.1,e.2.2.2]):P:=h
theorem Dt {P:Prop} (h:P:=by first|(simp [(me i c hc).params];done)|fail):P:=h
theorem Dv {P:Prop} (h:P:=by first|(simp [(ke i c hc).ops];done)|fail):P:=h
theorem Dw {P:Prop} (h:P:=by first|(simp [q5];done)|fail):P:=h
theorem Dx {P:Prop} (h:P:=by rw [h.1];exact gU h.2 (by simp) NY):P:=h
theorem Dy {P:Prop} (h:P:=by simp only [vu,if_neg w1,hs,if_true]):P:=h
theorem Dz {P:Prop} (h:P:=by first|(simp [(me i c hc).ops];done)|fail):P:=h
theorem EA {P:Prop} (h:P:=by have:=h.each k hk;omega):P:=h
theorem Hu {P:Prop} (h:P:=by repeat (first|(with_reducible exact hSm)|refine MV ?_|refine MW hD ?_|refine MT hD ?_|refine MU hD ?_|refine MS hD ?_|exact hSm)):P:=h
theorem Hv {P:Prop} (h:P:=by rw [k6];exact lp gl gD (λ_=>HC) _ R' (yo fs.length) k vs f.zN k2 k3 k4 k5 (by omega) yoh):P:=h
theorem Hw {P:Prop} (h:P:=by first|(simp [t7,p7,hcl2];done)|(simp [t7,p7,hcl2];rfl)):P:=h
theorem Hx {P:Prop} (h:P:=by simp [Instr.lookup,vZ hT,hg,hck,Instr.findKey,vZ hkey,f1,hr0]):P:=h
theorem Hy {P:Prop} (h:P:=by simp only [beq_eq_false_iff_ne,ne_eq];omega):P:=h
theorem Hz {P:Prop} (h:P:=by rw [hTt];exact⟨by simp [jC,hT],by simp [hO.qF],λj b hb=>by simp [hO.act j b hb],hO.zR.imp λl hl=>by simp [hl],by simp [hO.zJ],by simp [hO.qJ],by simp [hO.jk],λj b hb=>by simp [hO.cls j b hb],by simp [hO.out],by simp [<- hap]⟩):P:=h
theorem IA {P:Prop} (h:P:=by simp [Instr.lookup,vZ hT,hg,hck,Instr.findKey,vZ hkey,f1]):P:=h
theorem IB {P:Prop} (h:P:=by rw [show (zD V a i).qD a=V.qD a from rfl,v8 hd]):P:=h
theorem IC {P:Prop} (h:P:=by have:=yC (λ_=>qv) hk 8;simp [this.1,this.2,hk]):P:=h
theorem ID {P:Prop} (h:P:=by unfold vr;simp only [List.getLast?_append,List.getLast?_singleton,tJ,Option.some_or];exact (have h:=hO2;qE.re h)):P:=h
theorem IE {P:Prop} (h:P:=by rw [show (c.toNat:Int) - 48=(k:Int) by omega];exact ν (by omega) (by omega)):P:=h
theorem IF {P:Prop} (h:P:=by have:=yC (λ_=>qv) hk 7;simp [this.1,this.2,hk]):P:=h
theorem IG {P:Prop} (h:P:=by rw [hall q (hD.ord.lt q x1)] at x2;cases x2):P:=h
theorem qX:type_of% @Nat.le_refl:=@Nat.le_refl
theorem vW:type_of% @Bool.not_not:=@Bool.not_not
theorem zg:type_of% @Option.map_eq_some_iff.{0,0}:=@Option.map_eq_some_iff
theorem jg:type_of% @List.getElem?_map.{0,0}:=@List.getElem?_map
theorem jh:type_of% @Bool.and_eq_true:=@Bool.and_eq_true
theorem jo:type_of% @List.mem_append.{0}:=@List.mem_append
theorem yS:type_of% @List.all_eq_true.{0}:=@List.all_eq_true
theorem yU:type_of% @List.take_of_length_le.{0}:=@List.take_of_length_le
theorem yj:type_of% @List.mem_singleton.{0}:=@List.mem_singleton
theorem vB:type_of% @List.mem_cons.{0}:=@List.mem_cons
theorem vM:type_of% @List.take_add_one.{0}:=@List.take_add_one
theorem vN:type_of% @Int.toNat_natCast:=@Int.toNat_natCast
theorem vl:type_of% @List.ext_getElem?.{0}:=@List.ext_getElem?
theorem vn:type_of% @List.getElem?_append_left.{0}:=@List.getElem?_append_left
theorem uW:type_of% @Nat.lt_of_lt_of_le:=@Nat.lt_of_lt_of_le
theorem uX:type_of% @Option.map_some.{0,0}:=@Option.map_some
theorem uY:type_of% @List.prefix_refl.{0}:=@List.prefix_refl
theorem kB:type_of% @List.getElem?_of_mem.{0}:=@List.getElem?_of_mem
theorem kC:type_of% @List.length_append.{0}:=@List.length_append
theorem kD:type_of% @List.getElem?_append_right.{0}:=@List.getElem?_append_right
theorem kN:type_of% @Bool.not_eq_true:=@Bool.not_eq_true
theorem ka:type_of% @Nat.le_trans:=@Nat.le_trans
theorem wD:type_of% @List.take_length.{0}:=@List.take_length
theorem wU:type_of% @List.mem_map.{0,0}:=@List.mem_map
theorem aB:type_of% @List.mem_cons_of_mem.{0}:=@List.mem_cons_of_mem
theorem aC:type_of% @Nat.lt_or_ge:=@Nat.lt_or_ge
theorem aW:type_of% @Nat.mul_le_mul_right:=@Nat.mul_le_mul_right
theorem aX:type_of% @List.eq_nil_of_length_eq_zero.{0}:=@List.eq_nil_of_length_eq_zero
theorem bB:type_of% @Bool.not_eq_true':=@Bool.not_eq_true'
theorem bC:type_of% @List.getD_eq_getElem?_getD.{0}:=@List.getD_eq_getElem?_getD
theorem bD:type_of% @Array.getElem?_toList.{0}:=@Array.getElem?_toList
theorem bE:type_of% @List.getElem?_cons_zero.{0}:=@List.getElem?_cons_zero
theorem b7:type_of% @Bool.false_eq_true:=@Bool.false_eq_true
theorem b8:type_of% @List.length_singleton.{0}:=@List.length_singleton
theorem cP:type_of% @Nat.add_assoc:=@Nat.add_assoc
theorem cQ:type_of% @List.length_cons.{0}:=@List.length_cons
theorem cR:type_of% @List.map_cons.{0,0}:=@List.map_cons
theorem cS:type_of% @Option.ne_none_iff_exists'.{0}:=@Option.ne_none_iff_exists'
theorem dJ:type_of% @Nat.eq_zero_or_pos:=@Nat.eq_zero_or_pos
theorem dj:type_of% @Nat.add_zero:=@Nat.add_zero
theorem dk:type_of% @Bool.true_and:=@Bool.true_and
theorem fA:type_of% @Prod.mk.inj.{0,0}:=@Prod.mk.inj
theorem fB:type_of% @Option.bind_eq_some_iff.{0,0}:=@Option.bind_eq_some_iff
theorem fC:type_of% @Option.some.injEq.{0}:=@Option.some.injEq
theorem fD:type_of% @List.getElem?_eq_none.{0}:=@List.getElem?_eq_none
theorem fE:type_of% @List.map_congr_left.{0,0}:=@List.map_congr_left
theorem fF:type_of% @List.cons_append.{0}:=@List.cons_append
theorem gH:type_of% @List.length_nil.{0}:=@List.length_nil
theorem gI:type_of% @Nat.sub_self:=@Nat.sub_self
theorem gJ:type_of% @List.mem_of_mem_take.{0}:=@List.mem_of_mem_take
theorem gK:type_of% @List.getElem?_append.{0}:=@List.getElem?_append
theorem gL:type_of% @List.getElem?_cons_succ.{0}:=@List.getElem?_cons_succ
theorem gN:type_of% @List.mem_range:=@List.mem_range
theorem gO:type_of% @List.drop_eq_getElem_cons.{0}:=@List.drop_eq_getElem_cons
theorem ia:type_of% @Nat.zero_add:=@Nat.zero_add
theorem ib:type_of% @Array.getElem?_eq_getElem.{0}:=@Array.getElem?_eq_getElem
theorem ic:type_of% @List.getElem?_set.{0}:=@List.getElem?_set
theorem ie:type_of% @List.map_map.{0,0,0}:=@List.map_map
theorem ig:type_of% @List.append_assoc.{0}:=@List.append_assoc
theorem mB:type_of% @Nat.add_mul:=@Nat.add_mul
theorem mC:type_of% @Nat.mul_comm:=@Nat.mul_comm
theorem mD:type_of% @Array.getElem?_eq_some_iff.{0}:=@Array.getElem?_eq_some_iff
theorem mE:type_of% @List.length_take.{0}:=@List.length_take
theorem mF:type_of% @Array.getD_eq_getD_getElem?.{0}:=@Array.getD_eq_getD_getElem?
theorem mG:type_of% @Option.bind_some.{0,0}:=@Option.bind_some
theorem mH:type_of% @List.dropLast_concat_getLast.{0}:=@List.dropLast_concat_getLast
theorem nz:type_of% @List.getElem?_modify.{0}:=@List.getElem?_modify
theorem oA:type_of% @Array.getElem?_setIfInBounds_ne.{0}:=@Array.getElem?_setIfInBounds_ne
theorem oB:type_of% @List.map_append.{0,0}:=@List.map_append
theorem pV:type_of% @Nat.one_mul:=@Nat.one_mul
theorem pW:type_of% @List.findIdx?_eq_some_iff_getElem.{0}:=@List.findIdx?_eq_some_iff_getElem
theorem pX:type_of% @List.length_eq_one_iff.{0}:=@List.length_eq_one_iff
theorem tJ:type_of% @List.dropLast_concat.{0}:=@List.dropLast_concat
theorem pY:type_of% @List.take_append_drop.{0}:=@List.take_append_drop
theorem pZ:type_of% @List.take_append.{0}:=@List.take_append
theorem pa:type_of% @Bool.true_or:=@Bool.true_or
theorem pb:type_of% @Nat.lt_trichotomy:=@Nat.lt_trichotomy
theorem pe:type_of% @Bool.eq_false_iff:=@Bool.eq_false_iff
theorem pf:type_of% @List.append_nil.{0}:=@List.append_nil
theorem tK:type_of% @List.getElem?_take.{0}:=@List.getElem?_take
theorem tL:type_of% @List.getElem?_drop.{0}:=@List.getElem?_drop
theorem tM:type_of% @List.range_succ:=@List.range_succ
theorem tN:type_of% @List.mem_cons_self.{0}:=@List.mem_cons_self
theorem tO:type_of% @List.not_mem_nil.{0}:=@List.not_mem_nil
theorem A7:type_of% @Option.isSome_iff_exists.{0}:=@Option.isSome_iff_exists
theorem A8:type_of% @List.eq_nil_iff_forall_not_mem.{0}:=@List.eq_nil_iff_forall_not_mem
theorem A9:type_of% @Nat.lt_succ_iff_lt_or_eq:=@Nat.lt_succ_iff_lt_or_eq
theorem aI {a b:Prop} (x:a) (y:b):a/\b:=⟨x,y⟩
theorem qk {p0 p1 p2:Prop} (x0:p0) (x1:p1) (y:p2):p0/\p1/\p2:=⟨x0,x1,y⟩
theorem zC {p0 p1 p2 p3:Prop} (x0:p0) (x1:p1) (x2:p2) (y:p3):p0/\p1/\p2/\p3:=⟨x0,x1,x2,y⟩
theorem zM {p0 p1 p2 p3 p4:Prop} (x0:p0) (x1:p1) (x2:p2) (x3:p3) (y:p4):p0/\p1/\p2/\p3/\p4:=⟨x0,x1,x2,x3,y⟩
theorem j2 {p0 p1 p2 p3 p4 p5:Prop} (x0:p0) (x1:p1) (x2:p2) (x3:p3) (x4:p4) (y:p5):p0/\p1/\p2/\p3/\p4/\p5:=⟨x0,x1,x2,x3,x4,y⟩
theorem jQ {p0 p1 p2 p3 p4 p5 p6:Prop} (x0:p0) (x1:p1) (x2:p2) (x3:p3) (x4:p4) (x5:p5) (y:p6):p0/\p1/\p2/\p3/\p4/\p5/\p6:=⟨x0,x1,x2,x3,x4,x5,y⟩
theorem jJ {p0 p1 p2 p3 p4 p5 p6 p7:Prop} (x0:p0) (x1:p1) (x2:p2) (x3:p3) (x4:p4) (x5:p5) (x6:p6) (y:p7):p0/\p1/\p2/\p3/\p4/\p5/\p6/\p7:=⟨x0,x1,x2,x3,x4,x5,x6,y⟩
theorem yz {p0 p1 p2 p3 p4 p5 p6 p7 p8:Prop} (x0:p0) (x1:p1) (x2:p2) (x3:p3) (x4:p4) (x5:p5) (x6:p6) (x7:p7) (y:p8):p0/\p1/\p2/\p3/\p4/\p5/\p6/\p7/\p8:=⟨x0,x1,x2,x3,x4,x5,x6,x7,y⟩
theorem vA {p0 p1 p2 p3 p4 p5 p6 p7 p8 p9:Prop} (x0:p0) (x1:p1) (x2:p2) (x3:p3) (x4:p4) (x5:p5) (x6:p6) (x7:p7) (x8:p8) (y:p9):p0/\p1/\p2/\p3/\p4/\p5/\p6/\p7/\p8/\p9:=⟨x0,x1,x2,x3,x4,x5,x6,x7,x8,y⟩
theorem yD {p0 p1 p2 p3 p4 p5 p6 p7 p8 p9 p10:Prop} (x0:p0) (x1:p1) (x2:p2) (x3:p3) (x4:p4) (x5:p5) (x6:p6) (x7:p7) (x8:p8) (x9:p9) (y:p10):p0/\p1/\p2/\p3/\p4/\p5/\p6/\p7/\p8/\p9/\p10:=⟨x0,x1,x2,x3,x4,x5,x6,x7,x8,x9,y⟩
theorem qr {p0 p1 p2 p3 p4 p5 p6 p7 p8 p9 p10 p11 p12:Prop} (x0:p0) (x1:p1) (x2:p2) (x3:p3) (x4:p4) (x5:p5) (x6:p6) (x7:p7) (x8:p8) (x9:p9) (x10:p10) (x11:p11) (y:p12):p0/\p1/\p2/\p3/\p4/\p5/\p6/\p7/\p8/\p9/\p10/\p11/\p12:=⟨x0,x1,x2,x3,x4,x5,x6,x7,x8,x9,x10,x11,y⟩
theorem sI {α:Type _} {a b:α} (h:some a=some b):a=b:=Option.some.inj h
theorem lB {a b:Nat} (h:Nat.ble a b=true):a<=b:=Nat.le_of_ble_eq_true h
theorem gM {α:Type _} {l:List α} {i:Nat} {a:α} (h:l[i]?=some a):a∈l:=List.mem_of_getElem? h
theorem gS {α:Type _} {l:List α} {i:Nat} {a:α} (h:l[i]?=some a):∃ h:i<l.length,l[i]=a:=List.getElem?_eq_some_iff.1 h
theorem gE {α:Type _} {l:List α} {i:Nat} (h:i<l.length):l[i]?=some l[i]:=List.getElem?_eq_getElem h
theorem gX {α:Type _} {l:List α} {i:Nat} (h:i<l.length):∃ a,l[i]?=some a:=⟨_,gE h⟩
inductive Nm where
 | s (d:Nat)
 | c (n:Nm) (i j:Nat)
 | u (k i j:Nat)
 deriving DecidableEq
def Nm.under (k0:Nm):Nm->Bool
 | .s d=>decide (Nm.s d=k0)
 | .u k i j=>decide (Nm.u k i j=k0)
 | .c q i j=>decide (Nm.c q i j=k0)||Nm.under k0 q
def Nm.qz (k0 k1:Nm):Nm->Nm
 | .s d=>if Nm.s d=k0 then k1 else .s d
 | .u k i j=>if Nm.u k i j=k0 then k1 else .u k i j
 | .c q i j=>if Nm.c q i j=k0 then k1 else .c (Nm.qz k0 k1 q) i j
def mv (k0 k1 k:Nm):Option Nm:=if Nm.under k0 k then some (Nm.qz k0 k1 k) else if Nm.under k1 k then none else some k
def kl (k0 k:Nm):Option Nm:=if Nm.under k0 k then none else some k
inductive AV where
 | sc (v:Value)
 | sl (z:Nat) (rows:List (List AV))
 | el (row:List AV) (off:Nat)
 | hs (n:Nm) (z lo len:Nat)
 | pt (n:Nm) (off:Nat)
 | ep (n:Nm) (z i off:Nat)
 | mp (n:Nm)
 | agg (cs:List AV)
 | zT (cs:List AV)
 | zp (t:TypeId) (a:AV)
 | fn (f:Fn) (xs ys:List AV)
 | bot
inductive AO where
 | row (z:Nat) (rows:List (List AV))
 | map (es:List (AV×AV))
 | vv (T:TypeId) (z:Nat) (ex:Bool) (rows:List (List AV))
mutual
def AV.tr (f:Nm->Option Nm):AV->AV
 | .sc v=>.sc v
 | .sl z rows=>.sl z (iO f rows)
 | .el row off=>.el (bU f row) off
 | .hs n z lo len=>match f n with|some n'=>.hs n' z lo len|none=>.bot
 | .pt n off=>match f n with|some n'=>.pt n' off|none=>.bot
 | .ep n z i off=>match f n with|some n'=>.ep n' z i off|none=>.bot
 | .mp n=>match f n with|some n'=>.mp n'|none=>.bot
 | .agg cs=>.agg (bU f cs)
 | .zT cs=>.zT (bU f cs)
 | .zp t a=>.zp t (AV.tr f a)
 | .fn g xs ys=>.fn g (bU f xs) (bU f ys)
 | .bot=>.bot
def bU (f:Nm->Option Nm):List AV->List AV
 | []=>[]
 | a::l=>AV.tr f a::bU f l
def iO (f:Nm->Option Nm):List (List AV)->List (List AV)
 | []=>[]
 | r::l=>bU f r::iO f l
end
theorem nM (f:Nm->Option Nm) (l:List AV):bU f l=l.map (AV.tr f):=by
 induction l<;>grind[bU]
theorem C5 (f:Nm->Option Nm) (l:List (List AV)):iO f l=l.map (λr=>r.map (AV.tr f)):=by
 induction l<;>grind[iO,nM]
def AO.tr (f:Nm->Option Nm):AO->AO
 | .row z rows=>.row z (rows.map (λr=>r.map (AV.tr f)))
 | .map es=>.map (es.map (λe=>(e.1.tr f,e.2.tr f)))
 | .vv T z ex rows=>.vv T z ex (rows.map (λr=>r.map (AV.tr f)))
theorem Nm.uH (k:Nm):Nm.under k k=true:=by cases k <;> simp [Nm.under]
theorem Nm.de {k0 k1:Nm}:∀ k,Nm.under k0 k=true->Nm.under k1 (Nm.qz k0 k1 k)=true:=by
 intro k
 induction k<;>grind[under,qz,uH]
theorem Nm.mz {k0 q:Nm} {i j:Nat} (h:Nm.under k0 q=true):Nm.c q i j≠k0:=by
 have size:∀ k:Nm,Nm.under k0 k=true->SizeOf.sizeOf k0<=SizeOf.sizeOf k:=by
  intro k
  induction k<;>grind[under]
 grind
theorem Nm.CC {k0 k1:Nm}:∀ k k',Nm.under k0 k=true->Nm.under k0 k'=true->Nm.qz k0 k1 k=Nm.qz k0 k1 k'->k=k':=by
 have base:∀ k:Nm,k=k0->Nm.qz k0 k1 k=k1:=by
  intro k e
  cases k <;> simp [Nm.qz,e]
 have leaf:∀ k k',k=k0->Nm.under k0 k'=true->Nm.qz k0 k1 k=Nm.qz k0 k1 k'->k=k':=by
  intro k k' h h' e;rw [base k h] at e
  cases k'<;>grind[under,qz,mz,de]
 intro k
 induction k with
 | s d=>grind[under]
 | u a b d=>grind[under]
 | c q i j ih =>
  intro k' h h' e;by_cases hq:Nm.c q i j=k0
  .grind
  .by_cases hk':k'=k0
   .grind
   .simp [Nm.under,hq] at h;have e0:Nm.qz k0 k1 (.c q i j)=.c (Nm.qz k0 k1 q) i j:=by grind[qz]
    rw [e0] at e
    cases k'<;>grind[under,qz]
theorem Bo {k0 k1 k k' x:Nm} (h:mv k0 k1 k=some x) (h':mv k0 k1 k'=some x):k=k':=by
 grind[mv,Nm.CC,Nm.de]
theorem J9 {k0 k x:Nm} (h:kl k0 k=some x):k=x/\Nm.under k0 x=false:=by
 grind[kl]
theorem J8 {k0 k k' x:Nm} (h:kl k0 k=some x) (h':kl k0 k'=some x):k=k':=(J9 h).1.trans (J9 h').1.symm
theorem Lb {α:Type} {r:List α} {off:Nat} {vals:List α} (h:off+vals.length<=r.length) (j:Nat) :
  (r.take off++vals++r.drop (off+vals.length))[j]?=if off<=j/\j<off+vals.length then vals[j - off]? else r[j]?:=by
 simp_all<;>grind
theorem CP (cur:List Value) (o:Nat) (nv:List Value) (h:o+nv.length<=cur.length) (p:Nat) :
  ((cur.take o++nv++cur.drop (o+nv.length)).toArray).getD p undef=if o<=p/\p<o+nv.length then nv.getD (p - o) undef else cur.getD p undef:=by
 simp_all<;>grind
def qd (P:Program) (T:TypeId):Nat:=((P.info? T).map (·.size)).getD 0
structure Gh where
 C:Nat->Prop
 φ:Nm->Option Nat
 κ:Nm->Nat
inductive RV (g:Gh) (w:World):Value->AV->Prop
 | sc (v:Value):RV g w v (.sc v)
 | kX (ad:Option Addr) (cap:Nat) (z:Nat):RV g w (.slice ad 0 cap) (.sl z [])
 | cw (b off cap n z:Nat) (rows:List (List AV)) (f:Nat->Nat->Value) (hC:g.C b) (hn:rows.length=n) (hcap:n<=cap) (hu:∀ r∈rows,r.length=z)
   (hcell:∀ i j,i<n->j<z->w.cell? ⟨b,off+i * z+j,none⟩=some (f i j))
   (ho:∀ i j,i<n->j<z->(f i j).oneCell'=true)
   (hr:∀ (i:Nat) row,rows[i]?=some row->∀ (j:Nat) a,row[j]?=some a->RV g w (f i j) a):RV g w (.slice (some ⟨b,off,none⟩) n cap) (.sl z rows)
 | el (b o off:Nat) (row:List AV) (f:Nat->Value) (hC:g.C b)
   (hcell:∀ j,j<row.length->w.cell? ⟨b,o+j,none⟩=some (f j))
   (ho:∀ j,j<row.length->(f j).oneCell'=true)
   (hr:∀ (j:Nat) a,row[j]?=some a->RV g w (f j) a):RV g w (.pointer (some ⟨b,o+off,none⟩)) (.el row off)
 | cZ (n:Nm) (z:Nat) (hk:g.φ n=none):RV g w (.slice none 0 0) (.hs n z 0 0)
 | a7 (n:Nm) (z lo len b cap:Nat) (ad:Option Addr) (hk:g.φ n=some b) (h1:len<=cap) (h2:lo+cap=g.κ n) (h3:0<cap->ad=some ⟨b,lo * z,none⟩) :
   RV g w (.slice ad len cap) (.hs n z lo len)
 | pt (n:Nm) (off b:Nat) (hk:g.φ n=some b):RV g w (.pointer (some ⟨b,off,none⟩)) (.pt n off)
 | ep (n:Nm) (z i off b:Nat) (hk:g.φ n=some b):RV g w (.pointer (some ⟨b,i * z+off,none⟩)) (.ep n z i off)
 | mp (n:Nm) (b:Nat) (hk:g.φ n=some b):RV g w (.map (some b)) (.mp n)
 | agg (vs:List Value) (cs:List AV) (hl:vs.length=cs.length) (hr:∀ (j:Nat) v a,vs[j]?=some v->cs[j]?=some a->RV g w v a):RV g w (.agg vs.toArray) (.agg cs)
 | zT (vs:List Value) (cs:List AV) (hl:vs.length=cs.length) (hr:∀ (j:Nat) v a,vs[j]?=some v->cs[j]?=some a->RV g w v a):RV g w (.tuple vs.toArray) (.zT cs)
 | zp (t:TypeId) (v:Value) (a:AV) (h:RV g w v a):RV g w (.iface t v) (.zp t a)
 | fn (f:Fn) (vs us:List Value) (xs ys:List AV) (hl:vs.length=xs.length) (hl2:us.length=ys.length) (hr:∀ (j:Nat) v a,vs[j]?=some v->xs[j]?=some a->RV g w v a)
   (hr2:∀ (j:Nat) v a,us[j]?=some v->ys[j]?=some a->RV g w v a):RV g w (.func f vs.toArray us.toArray) (.fn f xs ys)
 | bot (v:Value):RV g w v .bot
theorem RV.tr {g g':Gh} {w w':World} {v:Value} {a:AV} {f:Nm->Option Nm} (h:RV g w v a) (hC:∀ b,g.C b->g'.C b) (hw:∀ b,g.C b->w'.heap[b]?=w.heap[b]?)
  (hf:∀ n n',f n=some n'->g'.φ n'=g.φ n/\g'.κ n'=g.κ n):RV g' w' v (a.tr f):=by
 have cell:∀ (b o:Nat),g.C b->w'.cell? ⟨b,o,none⟩=w.cell? ⟨b,o,none⟩:=by
  grind[World.cell?]
 induction h with
 | sc v=>exact .sc v
 | kX ad cap z=>exact .kX ad cap z
 | cw b off cap n z rows fv hCb hn hcap hu hcell ho _ ih =>
  simp only [AV.tr,C5];refine .cw b off cap n z _ fv (hC b hCb) qL hcap ?_ (λi j hi hj=>qL) ho ?_<;>grind
 | el b o off row fv hCb hcell ho _ ih =>
  simp only [AV.tr,nM];refine .el b o off _ fv (hC b hCb) (λj hj=>qL) (λj hj=>ho j qL) ?_
  simp_all
 | cZ n z hk =>
  simp only [AV.tr]
  cases e:f n with
  | none=>exact .bot _
  | some n'=>constructor<;>grind
 | a7 n z lo len b cap ad hk h1 h2 h3 =>
  simp only [AV.tr]
  cases e:f n with
  | none=>exact .bot _
  | some n'=>exact .a7 n' z lo len b cap ad ((hf n n' e).1.trans hk) h1 (h2.trans (hf n n' e).2.symm) h3
 | pt n off b hk =>
  simp only [AV.tr]
  cases e:f n with
  | none=>exact .bot _
  | some n'=>constructor<;>grind
 | ep n z i off b hk =>
  simp only [AV.tr]
  cases e:f n with
  | none=>exact .bot _
  | some n'=>constructor<;>grind
 | mp n b hk =>
  simp only [AV.tr]
  cases e:f n with
  | none=>exact .bot _
  | some n'=>constructor<;>grind
 | agg vs cs hl _ ih =>
  constructor<;>grind[nM]
 | zT vs cs hl _ ih =>
  constructor<;>grind[nM]
 | zp t v a _ ih=>exact .zp t v _ ih
 | fn fv vs us xs ys hl hl2 _ _ ih ih2 =>
  constructor<;>grind[nM]
 | bot v=>exact .bot v
theorem AV.ud (a:AV):a.tr some=a:=by
 refine AV.rec (motive_1:=λa=>a.tr some=a) (motive_2:=λl=>iO some l=l) (motive_3:=λl=>bU some l=l) ?_ ?_ ?_ ?_ ?_ ?_ ?_ ?_ ?_ ?_ ?_ ?_ ?_ ?_ ?_ ?_ a<;>grind[tr,bU,iO]
theorem AO.ud (o:AO):o.tr some=o:=by
 cases o with
 | row z rows =>
  have:(λr:List AV=>r.map (AV.tr some))=id:=by
   funext r
   have e:AV.tr some=id:=by grind[AV.ud]
   rw [e];simp
  simp_all[tr]
 | map es=>simp [AO.tr,AV.ud]
 | vv T z ex rows =>
  have:(λr:List AV=>r.map (AV.tr some))=id:=by
   funext r
   have e:AV.tr some=id:=by grind[AV.ud]
   rw [e];simp
  simp_all[tr]
theorem RV.same {g g':Gh} {w w':World} {v:Value} {a:AV} (h:RV g w v a) (hC:∀ b,g.C b->g'.C b) (hw:∀ b,g.C b->w'.heap[b]?=w.heap[b]?)
  (hf:∀ n,g'.φ n=g.φ n/\g'.κ n=g.κ n):RV g' w' v a:=by
 have:=h.tr (f:=some) hC hw (λn n' e=>qL)
 grind[AV.ud]
def tH (g:Gh) (w:World) (b cap z:Nat) (rows:List (List AV)):Prop :=
 ∃ (cur:Array Value) (T:TypeId),w.heap[b]?=some (.cells cur T (0,0))/\cur.size=cap * z/\cap<=maxLen/\rows.length<=cap/\(∀ r∈rows,r.length=z) /\
  (∀ j,j<rows.length * z->(cur.getD j undef).oneCell'=true)/\∀ (i:Nat) row,rows[i]?=some row->∀ (j:Nat) a,row[j]?=some a->RV g w (cur.getD (i * z+j) undef) a
def HN (g:Gh) (w:World) (b cap:Nat) (T:TypeId) (z:Nat) (rows:List (List AV)):Prop :=
 ∃ (cur:Array Value),w.heap[b]?=some (.cells cur T (0,0))/\cur.size=cap * z/\cap<=maxLen/\rows.length<=cap/\(∀ r∈rows,r.length=z) /\
  (∀ j,j<rows.length * z->(cur.getD j undef).oneCell'=true)/\∀ (i:Nat) row,rows[i]?=some row->∀ (j:Nat) a,row[j]?=some a->RV g w (cur.getD (i * z+j) undef) a
def HG (g:Gh) (w:World) (b:Nat) (es:List (AV×AV)):Prop :=
 ∃ (ms:List MapEntry) (clock:Nat),w.heap[b]?=some (.map ms.toArray clock)/\MapKept.Stamped ms.toArray clock/\ms.length=es.length/\∀ (i:Nat) m e,ms[i]?=some m->es[i]?=some e->RV g w m.key e.1/\RV g w m.val e.2
def jU (g:Gh) (w:World) (n:Nm):AO->Prop
 | .row z rows=>match g.φ n with|some b=>tH g w b (g.κ n) z rows|none=>rows=[]
 | .map es=>match g.φ n with|some b=>HG g w b es|none=>False
 | .vv T z ex rows=>match g.φ n with|some b=>HN g w b (g.κ n) T z rows/\(ex=true->g.κ n=rows.length)/\(ex=false->0<g.κ n)|none=>rows=[]
theorem jU.tr {g g':Gh} {w w':World} {n n':Nm} {o:AO} {f:Nm->Option Nm} (h:jU g w n o) (hC:∀ b,g.C b->g'.C b) (hw:∀ b,g.C b->w'.heap[b]?=w.heap[b]?)
  (hf:∀ n n',f n=some n'->g'.φ n'=g.φ n/\g'.κ n'=g.κ n) (hn:f n=some n') (hb:∀ b,g.φ n=some b->w'.heap[b]?=w.heap[b]?):jU g' w' n' (o.tr f):=by
 obtain⟨e1,e2⟩:=hf n n' hn
 cases o with
 | row z rows =>
  simp only [jU,AO.tr,e1,e2] at h ⊢
  cases e:g.φ n with
  | none=>simp_all
  | some b =>
   rw [e] at h;obtain⟨cur,T,h1,h2,h3,h4,h5,h6,h7⟩:=h;refine⟨cur,T,(hb b e).trans h1,h2,h3,qL,?_,qL,?_⟩
   .simp_all
   .intro i row hrow j a ha;rw [jg] at hrow;obtain⟨r0,h0,rfl⟩:=zg.1 hrow;rw [jg] at ha;obtain⟨a0,ha0,rfl⟩:=zg.1 ha;exact (h7 i r0 h0 j a0 ha0).tr hC hw hf
 | map es =>
  simp only [jU,AO.tr,e1] at h ⊢
  cases e:g.φ n with
  | none=>simp_all
  | some b =>
   rw [e] at h;obtain⟨ms,clock,h1,hst,h2,h3⟩:=h;refine⟨ms,clock,(hb b e).trans h1,hst,qL,λi m en hm he=>?_⟩;rw [jg] at he;obtain⟨e0,he0,rfl⟩:=zg.1 he;obtain⟨r1,r2⟩:=h3 i m e0 hm he0;exact⟨r1.tr hC hw hf,r2.tr hC hw hf⟩
 | vv T z ex rows =>
  simp only [jU,AO.tr,e1,e2] at h ⊢
  cases e:g.φ n with
  | none=>simp_all
  | some b =>
   rw [e] at h;obtain⟨⟨cur,h1,h2,h3,h4,h5,h6,h7⟩,h8⟩:=h;refine⟨⟨cur,(hb b e).trans h1,h2,h3,qL,?_,qL,?_⟩,λhe=>qL,h8.2⟩
   .simp_all
   .intro i row hrow j a ha;rw [jg] at hrow;obtain⟨r0,h0,rfl⟩:=zg.1 hrow;rw [jg] at ha;obtain⟨a0,ha0,rfl⟩:=zg.1 ha;exact (h7 i r0 h0 j a0 ha0).tr hC hw hf
structure Inv (own:Nat->Prop) (C:Nat->Prop) (w0:World) (g:Gh) (hp:Nm->Option AO) (w:World):Prop where
 os:w.os=w0.os
 tape:w.tape=w0.tape
 output:w.output=w0.output
 size:w0.heap.size<=w.heap.size
 a8:∀ b,b<w0.heap.size->¬ own b->w.heap[b]?=w0.heap[b]?
 hC:g.C=C
 u0:∀ b,C b->b<w.heap.size
 obj:∀ n o,hp n=some o->jU g w n o
 qD:∀ n o b,hp n=some o->g.φ n=some b->¬ C b/\(w0.heap.size<=b\/own b)/\b<w.heap.size
 inj:∀ n n' o o' b,hp n=some o->hp n'=some o'->g.φ n=some b->g.φ n'=some b->n=n'
structure St where
 tm:Nat->AV
 hp:Nm->Option AO
 n:Nat
 gl:Nat->Option (List AV)
def cL (w:World) (i:Nat) (row:List AV):Prop:=∀ zs:List Int,zs≠[]->row=zs.map (λz=>.sc (.int .u64 z))->∃ T b,w.heap[i]?=some (.cells (zs.map λz=>Value.int .u64 z).toArray T b)
theorem cL.same {g:Gh} {w w':World} {i:Nat} {row:List AV} (h:cL w i row) (hv:RV g w (.pointer (some ⟨i,0,none⟩)) (.el row 0)) (hw:∀ b,g.C b->w'.heap[b]?=w.heap[b]?):cL w' i row:=by
 intro zs h1 h2
 have hC:g.C i:=by
  generalize hp:Value.pointer (some ⟨i,0,none⟩)=p at hv
  cases hv<;>grind
 grind[cL]
structure Rg (P:Program) (own:Nat->Prop) (C:Nat->Prop) (w0:World) (g:Gh) (st:St) (a:Act) (w:World):Prop where
 inv:Inv own C w0 g st.hp w
 defers:a.defers=[]
 size:a.tmps.size=st.n
 cC:∀ t,RV g w (a.tmps.getD t undef) (st.tm t)
 zJ:∀ i row,st.gl i=some row->(RV g w (.pointer (some ⟨i,0,none⟩)) (.el row 0)/\cL w i row)/\∀ f:Nm->Option Nm,row.map (AV.tr f)=row
def ug (g g':Gh):Prop:=∀ k i j,g'.φ (.u k i j)=g.φ (.u k i j)/\g'.κ (.u k i j)=g.κ (.u k i j)
theorem ug.refl (g:Gh):ug g g:=λ_ _ _=>⟨rfl,rfl⟩
theorem ug.trans {g g' g'':Gh} (h:ug g g') (h':ug g' g''):ug g g'':=λk i j=>⟨(h' k i j).1.trans (h k i j).1,(h' k i j).2.trans (h k i j).2⟩
def Nm.z7:Nm->Bool
 | .u _ _ _=>true
 | _=>false
theorem G5 {n:Nm} {k i j:Nat} (h:n.z7=false):Nm.under n (.u k i j)=false:=by
 grind[Nm.z7,Nm.under]
def uy (P:Program) (own:Nat->Prop) (C:Nat->Prop) (w0:World) (g0:Gh) (st:St) (a:Act) (w:World):Prop:=∃ g,ug g0 g/\Rg P own C w0 g st a w
def St.nm (f:Nm->Option Nm) (hp:Nm->Option AO) (st:St):St:={ tm:=λt=>(st.tm t).tr f,hp:=hp,n:=st.n,gl:=st.gl }
def jG (n:Nm) (hp:Nm->Option AO):Nm->Option AO:=λm=>if Nm.under n m then none else (hp m).map (AO.tr (kl n))
def jt (n0 n1:Nm) (hp:Nm->Option AO):Nm->Option AO:=λm =>
 if Nm.under n1 m then (if mv n0 n1 (Nm.qz n1 n0 m)=some m then (hp (Nm.qz n1 n0 m)).map (AO.tr (mv n0 n1)) else none) else if Nm.under n0 m then none else (hp m).map (AO.tr (mv n0 n1))
def St.kill (n:Nm) (st:St):St:=st.nm (kl n) (jG n st.hp)
def St.move (n0 n1:Nm) (st:St):St:=st.nm (mv n0 n1) (jt n0 n1 st.hp)
def St.put (st:St) (d:Option Nat) (a:AV):St :=
 match d with
 | some d=>{ tm:=λt=>if t=d then a else st.tm t,hp:=st.hp,n:=st.n,gl:=st.gl }
 | none=>st
def St.zS (st:St) (n:Nm) (o:AO):St:={ tm:=st.tm,hp:=λm=>if m=n then some o else st.hp m,n:=st.n,gl:=st.gl }
section
variable {P:Program} {own:Nat->Prop} {C:Nat->Prop} {w0:World} {g:Gh} {st:St} {a:Act} {w:World}
theorem Rg.rv (h:Rg P own C w0 g st a w) {g':Gh} {w':World} {f:Nm->Option Nm} (gC:g'.C=g.C) (hw:∀ b,C b->w'.heap[b]?=w.heap[b]?)
  (gf:∀ n n',f n=some n'->g'.φ n'=g.φ n/\g'.κ n'=g.κ n) {v:Value} {x:AV} (hv:RV g w v x):RV g' w' v (x.tr f) :=
 hv.tr (λb hb=>qL) (λb hb=>hw b (h.inv.hC ▸ hb)) gf
theorem Rg.step (h:Rg P own C w0 g st a w) {g':Gh} {w':World} {f:Nm->Option Nm} {hp':Nm->Option AO}
  (gC:g'.C=g.C) (gf:∀ n n',f n=some n'->g'.φ n'=g.φ n/\g'.κ n'=g.κ n)
  (h1:w'.os=w.os) (h2:w'.tape=w.tape) (h3:w'.output=w.output) (h4:w.heap.size<=w'.heap.size)
  (hw:∀ b,C b->w'.heap[b]?=w.heap[b]?) (hkeep:∀ b,b<w0.heap.size->¬ own b->w'.heap[b]?=w.heap[b]?)
  (hobj:∀ n' o',hp' n'=some o' ->
    (∃ n o,f n=some n'/\st.hp n=some o/\o'=o.tr f/\∀ b,g.φ n=some b->w'.heap[b]?=w.heap[b]?) \/
    (jU g' w' n' o'/\∀ b,g'.φ n'=some b->(¬ C b/\(w0.heap.size<=b\/own b)/\b<w'.heap.size)/\∀ n'' o'',hp' n''=some o''->g'.φ n''=some b->n''=n')) :
  Rg P own C w0 g' (st.nm f hp') a w':=by
 obtain⟨i,hd,hs,hsl,hgl⟩:=h;have h0:Rg P own C w0 g st a w:=⟨i,hd,hs,hsl,hgl⟩;have hwg:∀ b,g.C b->w'.heap[b]?=w.heap[b]?:=λb hb=>hw b (i.hC ▸ hb);have gCf:∀ b,g.C b->g'.C b:=λb hb=>qL
 have old:∀ n' o' b,hp' n'=some o'->g'.φ n'=some b ->
   (∃ n o,f n=some n'/\st.hp n=some o/\g.φ n=some b)\/((¬ C b/\(w0.heap.size<=b\/own b)/\b<w'.heap.size)/\∀ n'' o'',hp' n''=some o''->g'.φ n''=some b->n''=n'):=by
  grind
 refine⟨⟨h1.trans i.os,h2.trans i.tape,h3.trans i.output,ka i.size h4,λb hb ho=>(hkeep b hb ho).trans (i.a8 b hb ho),gC.trans i.hC,λb hb=>uW (i.u0 b hb) h4,?_,?_,?_⟩,
  hd,hs,λt=>h0.rv gC hw gf (hsl t),λj row e=>⟨?_,(hgl j row e).2⟩⟩
 .intro n' o' hn';rcases hobj n' o' hn' with⟨n,o,e1,e2,rfl,e4⟩|⟨e,_⟩
  .exact (i.obj n o e2).tr gCf hwg gf e1 e4
  .exact e
 .intro n' o' b hn' hb;rcases old n' o' b hn' hb with⟨n,o,_,e2,e3⟩|⟨e,_⟩
  .obtain⟨x1,x2,x3⟩:=i.qD n o b e2 e3
   grind
  .exact e
 .intro n1 n2 o1 o2 b hn1 hn2 hb1 hb2;rcases old n1 o1 b hn1 hb1 with⟨m1,p1,e1,e2,e3⟩|⟨_,e⟩
  .rcases old n2 o2 b hn2 hb2 with⟨m2,p2,f1,f2,f3⟩|⟨_,e'⟩
   .have:=i.inj m1 m2 p1 p2 b e2 f2 e3 f3
    simp_all
   .exact e' n1 o1 hn1 hb1
  .exact (e n2 o2 hn2 hb2).symm
 .refine⟨?_,(hgl j row e).1.2.same (hgl j row e).1.1 hwg⟩;have:=h0.rv gC hw gf (hgl j row e).1.1
  simpa only [AV.tr,nM,(hgl j row e).2 f] using this
noncomputable def Gh.tr (f:Nm->Option Nm) (g:Gh):Gh :=
 { C:=g.C,φ:=λx=>open Classical in if h:∃ k,f k=some x then g.φ h.choose else none,κ:=λx=>open Classical in if h:∃ k,f k=some x then g.κ h.choose else 0 }
theorem Gh.ec {f:Nm->Option Nm} (hf:∀ k k' x,f k=some x->f k'=some x->k=k') {k k':Nm} (h:f k=some k'):(g.tr f).φ k'=g.φ k/\(g.tr f).κ k'=g.κ k:=by
 have he:∃ k,f k=some k':=⟨k,h⟩
 grind[tr]
theorem ug.kl {n:Nm} (h:n.z7=false):ug g (g.tr (kl n)):=λk i j=>by
 grind[Hm.kl,G5,Gh.ec]
theorem ug.mv {n0 n1:Nm} (h:n0.z7=false) (h':n1.z7=false):ug g (g.tr (mv n0 n1)):=λk i j=>by
 grind[Hm.mv,G5,Gh.ec,Bo]
theorem Rg.rename (h:Rg P own C w0 g st a w) {f:Nm->Option Nm} {hp':Nm->Option AO} (hf:∀ k k' x,f k=some x->f k'=some x->k=k')
  (hobj:∀ n' o',hp' n'=some o'->∃ n o,f n=some n'/\st.hp n=some o/\o'=o.tr f):Rg P own C w0 (g.tr f) (st.nm f hp') a w :=
 h.step rfl (λ_ _ e=>Gh.ec hf e) rfl rfl rfl (qX _) (λ_ _=>rfl) (λ_ _ _=>rfl) (λn' o' e=>by
  simp_all)
theorem BX {n:Nm} {hp:Nm->Option AO} {n':Nm} {o':AO} (e:jG n hp n'=some o'):∃ o,kl n n'=some n'/\hp n'=some o/\o'=o.tr (kl n):=by
 grind[jG,zg,kl]
theorem Rg.move (h:Rg P own C w0 g st a w) (n0 n1:Nm):Rg P own C w0 (g.tr (mv n0 n1)) (st.move n0 n1) a w :=
 h.rename (λ_ _ _=>Bo) (λn' o' e=>by
  grind[jt,zg,mv])
theorem rz {n m:Nm} (h:Nm.under n m=true):(g.tr (kl n)).φ m=none:=by
 grind[Gh.tr,kl]
theorem Rg.put {d:Option Nat} {v:Value} {x:AV} (h:Rg P own C w0 g st a w) (hd:∀ t,d=some t->t<st.n) (hv:RV g w v x):Rg P own C w0 g (st.put d x) (a.put d v) w:=by
 cases d with
 | none=>exact h
 | some d =>
  obtain⟨i,hdf,hs,hsl,hgl⟩:=h;refine⟨i,hdf,by grind[Act.put,St.put],λt=>?_,hgl⟩
  simp_all<;>grind[Act.put,St.put]
theorem Rg.weaken (h:Rg P own C w0 g st a w) (hp':Nm->Option AO) (sub:∀ m o,hp' m=some o->st.hp m=some o):Rg P own C w0 g { tm:=st.tm,hp:=hp',n:=st.n,gl:=st.gl } a w:=by
 obtain⟨i,hd,hs,hsl,hgl⟩:=h;exact⟨⟨i.os,i.tape,i.output,i.size,i.a8,i.hC,i.u0,λm o e=>i.obj m o (sub m o e),λm o b e=>i.qD m o b (sub m o e),λm m' o o' b e e'=>i.inj m m' o o' b (sub m o e) (sub m' o' e')⟩,hd,hs,hsl,hgl⟩
theorem Rg.K0 (h:Rg P own C w0 g st a w) (n:Nm) (z:Nat):∃ g',Rg P own C w0 g' ((st.kill n).zS n (.row z [])) a w/\RV g' w (.slice none 0 0) (.hs n z 0 0)/\(n.z7=false->ug g g')/\∀ v x,RV g w v x->RV g' w v (x.tr (kl n)):=by
 have gf:∀ k k',kl n k=some k'->(g.tr (kl n)).φ k'=g.φ k/\(g.tr (kl n)).κ k'=g.κ k:=λ_ _ e=>Gh.ec (λ_ _ _=>J8) e
 have hs:=h.step (g':=g.tr (kl n)) (w':=w) (f:=kl n) (hp':=((st.kill n).zS n (.row z [])).hp) rfl gf rfl rfl rfl (qX _) (λ_ _=>rfl) (λ_ _ _=>rfl) (λn' o' e=>by
  simp only [St.zS] at e
  split at e
  .grind[jU,rz,Nm.uH]
  .obtain⟨o,e1,e2,e3⟩:=BX e
   grind)
 exact⟨_,hs,.cZ n z (rz (Nm.uH n)),λhu=>.kl hu,λv x hx=>h.rv (g':=g.tr (kl n)) rfl (λ_ _=>rfl) gf hx⟩
end
end Go.Hm
end
section
namespace Go.Hm
open Go Go.RowKit
def jD (P:Program) (T:TypeId):Option Bool :=
 if (P.info? T).isSome then
  match P.underlying T with
  | some (.struct _)=>some true
  | some (.array _ _)=>some true
  | some _=>some false
  | none=>none
 else none
def yQ (P:Program) (T:TypeId):Option TypeId :=
 match P.underlying T with
 | some (.slice e)=>if (P.info? e).isSome then some e else none
 | _=>none
def dA (P:Program) (T:TypeId):Option (Nat×TypeId) :=
 match P.underlying T with
 | some (.array n e)=>if (P.info? e).isSome then some (n,e) else none
 | _=>none
def qq (P:Program) (T:TypeId) (f:Nat):Option (Nat×TypeId) :=
 match P.underlying T with
 | some (.struct fs)=>match fs[f]? with
  | some fd=>if qd P fd.type=0 then none else some (fd.offset,fd.type)
  | none=>none
 | _=>none
def yI (P:Program) (T:TypeId):Option (List Value):=((P.info? T).bind (·.zero)).map (λz=>z.cells.toList)
theorem l8 {P:Program} {w:World} {T:TypeId} (h:(P.info? T).isSome):(sizeOf T).run P w=.ok (qd P T) w:=by
 obtain⟨i,hi⟩:=A7.1 h;simp [sizeOf,typeInfo,hi,qd]
theorem vZ {P:Program} {w:World} {T:TypeId} {d:TypeDesc} (h:P.underlying T=some d):(underlying T).run P w=.ok d w:=by
 simp [underlying,h]
theorem Ry {P:Program} {T:TypeId} (h:qd P T≠0):(P.info? T).isSome:=by
 unfold qd at h
 cases hi:P.info? T<;>grind
theorem s7 {P:Program} {w:World} {T:TypeId} {t:Bool} (h:jD P T=some t):(isAgg T).run P w=.ok t w:=by
 unfold jD at h
 split at h
 .cases hu:P.underlying T with
  | none=>simp_all
  | some d=>cases d <;> simp [hu] at h <;> simp [isAgg,underlying,hu,h]
 .cases h
theorem JW {P:Program} {T:TypeId} {t:Bool} (h:jD P T=some t):(P.info? T).isSome:=by
 grind[jD]
def AV.one:AV->Bool
 | .sc v=>v.oneCell'
 | .agg _=>false
 | .zT _=>false
 | .bot=>false
 | _=>true
def AV.cells:AV->Option (List AV)
 | .agg cs=>if cs.all AV.one then some cs else none
 | a=>if a.one then some [a] else none
def cY (P:Program) (T:TypeId) (cs:List AV) (off:Nat):Option AV :=
 match jD P T with
 | some true=>if off+qd P T<=cs.length then some (.agg ((cs.drop off).take (qd P T))) else none
 | some false=>cs[off]?
 | none=>none
theorem P3 {v:Value} (h:v.oneCell'=true):v.cells=#[v]:=by
 cases v <;> first|rfl|grind[Value.oneCell']
section
variable {P:Program} {own:Nat->Prop} {C:Nat->Prop} {w0:World} {g:Gh} {st:St} {a:Act} {w:World}
theorem RV.zi {v u:Value} (h:RV g w v (.sc u)):v=u:=by
 cases h;rfl
theorem pU {v:Value} {cs:List AV} (h:RV g w v (.agg cs)):∃ vs:List Value,v=.agg vs.toArray/\vs.length=cs.length/\∀ (j:Nat) y,cs[j]?=some y->∃ u,vs[j]?=some u/\RV g w u y:=by
 cases h with
 | agg vs cs hl hr =>
  refine⟨vs,rfl,hl,λj y hy=>?_⟩;have hlt:j<vs.length:=qp;exact⟨_,gE hlt,hr j _ y (gE hlt) hy⟩
theorem ε {v:Value} {cs:List AV} (h:RV g w v (.zT cs)):∃ vs:List Value,v=.tuple vs.toArray/\vs.length=cs.length/\∀ (j:Nat) y,cs[j]?=some y->∃ u,vs[j]?=some u/\RV g w u y:=by
 cases h with
 | zT vs cs hl hr =>
  refine⟨vs,rfl,hl,λj y hy=>?_⟩;have hlt:j<vs.length:=qp;exact⟨_,gE hlt,hr j _ y (gE hlt) hy⟩
theorem RV.Kb {v:Value} {x:AV} (h:RV g w v x) (ho:x.one=true):v.oneCell'=true:=by
 cases h <;> first|rfl|exact ho|grind[AV.one]
theorem RV.cells {v:Value} {x:AV} {cs:List AV} (h:RV g w v x) (hc:x.cells=some cs) :
  v.cells.toList.length=cs.length/\(∀ u∈v.cells.toList,u.oneCell'=true)/\∀ (j:Nat) u y,v.cells.toList[j]?=some u->cs[j]?=some y->RV g w u y:=by
 by_cases hx:∃ ds,x=.agg ds
 .obtain⟨ds,rfl⟩:=hx;simp only [AV.cells] at hc
  split at hc
  .rename_i hall;obtain rfl:=sI hc;have hone:∀ y∈ds,y.one=true:=λy hy=>yS.1 hall y hy
   cases h with
   | agg vs cs hl hr =>
    refine⟨by grind[Value.cells],?_,λj u y hu hy=>hr j u y (by grind[Value.cells]) hy⟩;intro u hu;simp only [Value.cells] at hu;obtain⟨j,hj⟩:=kB hu;have hlt:j<ds.length:=qp;exact (hr j u _ hj (gE hlt)).Kb (hone _ (List.getElem_mem hlt))
  .cases hc
 .have hc':(if x.one then some [x] else none)=some cs:=by
   cases x <;> first|exact hc|simp_all
  split at hc'
  .rename_i ho;obtain rfl:=sI hc';have h1:=h.Kb ho
   grind[P3]
  grind
theorem Ll {T:TypeId} {cs:List AV} {off:Nat} {x:AV} {b o:Nat} {f:Nat->Value} (hq:cY P T cs off=some x)
  (hcell:∀ j,j<cs.length->w.cell? ⟨b,o+j,none⟩=some (f j)) (hr:∀ (j:Nat) y,cs[j]?=some y->RV g w (f j) y) :
  ∃ v,(loadVar T ⟨b,o+off,none⟩).run P w=.ok v w/\RV g w v x:=by
 unfold cY at hq
 split at hq
 .rename_i hagg
  split at hq
  .rename_i hle;obtain rfl:=sI hq;have hl:=run_loadCells (P:=P) (w:=w) ⟨b,o+off,none⟩ (qd P T) (λj=>f (off+j)) (λj hj=>by grind[Addr.add_lit]);refine⟨.agg ((List.range (qd P T)).map (λj=>f (off+j))).toArray,?_,?_⟩
   .simp_all[loadVar,s7,l8,JW]
   constructor<;>grind
  .cases hq
 .rename_i hagg;have hlt:off<cs.length:=(gS hq).1
  simp_all[loadVar,s7]
 .cases hq
def ev (st:St):Operand->AV
 | .tmp t=>st.tm t
 | .const v=>.sc v
 | .global i=>match st.gl i with|some row=>.el row 0|none=>.bot
 | .func f=>.sc (.func (.func f) #[] #[])
theorem Rg.ev (h:Rg P own C w0 g st a w) (x:Operand):RV g w (a.eval x) (ev st x):=by
 cases x with
 | tmp t=>exact h.cC t
 | const v=>exact .sc v
 | global i =>
  simp only [Hm.ev,Act.eval]
  split
  .rename_i row hrow;exact (h.zJ i row hrow).1.1
  .exact .bot _
 | func f=>exact .sc _
def bJ (st:St):AV->Option (List AV×Nat)
 | .pt n off=>match st.hp n with
  | some (.row _ (r::_))=>some (r,off)
  | _=>none
 | .el row off=>some (row,off)
 | .ep n z i off=>match st.hp n with
  | some (.row z' rows)=>if z'=z then (rows[i]?).map (λr=>(r,off)) else none
  | _=>none
 | _=>none
theorem Inv.rowAt {own:Nat->Prop} {C:Nat->Prop} {w0:World} {g:Gh} {hp:Nm->Option AO} {w:World} (h:Inv own C w0 g hp w) {n:Nm} {b z i:Nat} {rows:List (List AV)} {row:List AV} (hn:hp n=some (.row z rows)) (hk:g.φ n=some b) (hi:rows[i]?=some row) :
  ∃ f:Nat->Value,(∀ j,j<row.length->w.cell? ⟨b,i * z+j,none⟩=some (f j))/\(∀ j,j<row.length->(f j).oneCell'=true)/\∀ (j:Nat) y,row[j]?=some y->RV g w (f j) y:=by
 have ho:=h.obj n _ hn;simp only [jU,hk] at ho;obtain⟨cur,T,h1,h2,h3,h4,h5,h6,h7⟩:=ho;have hlen:row.length=z:=h5 row (gM hi);have hlt:i<rows.length:=(gS hi).1
 have hin:∀ j,j<row.length->i * z+j<rows.length * z:=by
  intro j hj;have:(i+1) * z<=rows.length * z:=aW _ hlt
  grind
 have hcur:∀ j,j<row.length->i * z+j<cur.size:=by
  grind[Value.oneCell',undef]
 refine⟨λj=>cur.getD (i * z+j) undef,?_,λj hj=>h6 _ (hin j hj),λj y hy=>h7 i row hi j y hy⟩
 simp_all<;>grind[cell_of_row]
theorem Rg.bJ (h:Rg P own C w0 g st a w) {v:Value} {x:AV} {cs:List AV} {off:Nat} (hv:RV g w v x) (hq:bJ st x=some (cs,off)) :
  ∃ (b o:Nat) (f:Nat->Value),v=.pointer (some ⟨b,o+off,none⟩)/\(∀ j,j<cs.length->w.cell? ⟨b,o+j,none⟩=some (f j))/\(∀ j,j<cs.length->(f j).oneCell'=true)/\∀ (j:Nat) y,cs[j]?=some y->RV g w (f j) y:=by
 cases x with
 | pt n o =>
  simp only [Hm.bJ] at hq
  split at hq
  .rename_i z r rest hn;obtain⟨rfl,rfl⟩:=fA (sI hq)
   cases hv with
   | pt _ _ b hk =>
    obtain⟨f,f1,f2,f3⟩:=h.inv.rowAt hn hk (i:=0) rfl;exact⟨b,0,f,qB,λj hj=>qL,f2,f3⟩
  .cases hq
 | el row o =>
  simp only [Hm.bJ] at hq;obtain⟨rfl,rfl⟩:=fA (sI hq)
  cases hv with
  | el b o' off row f hC hcell ho hr=>exact⟨b,o',f,rfl,hcell,ho,λj y hy=>hr j y hy⟩
 | ep n z i o =>
  simp only [Hm.bJ] at hq
  split at hq
  .rename_i z' rows hn
   split at hq
   .rename_i hz;subst hz;obtain⟨r,hr0,e⟩:=zg.1 hq;obtain⟨rfl,rfl⟩:=fA e
    cases hv with
    | ep _ _ _ _ b hk =>
     obtain⟨f,f1,f2,f3⟩:=h.inv.rowAt hn hk hr0;exact⟨b,i * z' ,f,rfl,f1,f2,f3⟩
   .cases hq
  .cases hq
 | _=>simp [Hm.bJ] at hq
theorem X7 {T:TypeId} {x:Operand} {y z:AV} {cs:List AV} {off:Nat} (h:Rg P own C w0 g st a w) (hy:ev st x=y) (h1:bJ st y=some (cs,off)) (h2:cY P T cs off=some z) :
  ∃ v,(Instr.loadAt T (a.eval x)).run P w=.ok v w/\RV g w v z:=by
 have hv:=h.ev x;rw [hy] at hv;obtain⟨b,o,f,e,hcell,_,hr⟩:=h.bJ hv h1;obtain⟨v,hrun,hrv⟩:=Ll h2 hcell hr
 grind[Instr.loadAt,Instr.sureAddr]
def oZ (P:Program) (T:TypeId) (f:Nat):AV->Option AV
 | .pt n off=>(qq P T f).map (λp=>.pt n (off+p.1))
 | .el row off=>(qq P T f).map (λp=>.el row (off+p.1))
 | .ep n z i off=>(qq P T f).map (λp=>.ep n z i (off+p.1))
 | _=>none
theorem Fp {T:TypeId} {f:Nat} {o:Nat} {e:TypeId} {b p:Nat} (ht:qq P T f=some (o,e)):(Instr.fieldAt T (.pointer (some ⟨b,p,none⟩)) f).run P w=.ok (.pointer (some ⟨b,p+o,none⟩)) w:=by
 unfold qq at ht
 split at ht
 .rename_i fs hu
  split at ht
  .rename_i fd hfd
   split at ht
   .cases ht
   .rename_i hz;obtain⟨rfl,rfl⟩:=fA (sI ht)
    simp_all[Instr.fieldAt,Instr.sureAddr,fieldPlace,Addr.add_lit,vZ,l8,Ry]
  .cases ht
 .cases ht
theorem XV {T:TypeId} {f:Nat} {v:Value} {y z:AV} (hv:RV g w v y) (h1:oZ P T f y=some z):∃ v',(Instr.fieldAt T v f).run P w=.ok v' w/\RV g w v' z:=by
 cases y with
 | pt n off =>
  obtain⟨⟨o,e⟩,ht,rfl⟩:=zg.1 h1
  cases hv with
  | pt _ _ b hk=>exact⟨_,Fp ht,.pt n (off+o) b hk⟩
 | el row off =>
  obtain⟨⟨o,e⟩,ht,rfl⟩:=zg.1 h1
  cases hv with
  | el b o' off row f hC hcell ho hr=>exact⟨_,Fp ht,by rw [cP];exact .el b o' (off+o) row f hC hcell ho hr⟩
 | ep n z i off =>
  obtain⟨⟨o,e⟩,ht,rfl⟩:=zg.1 h1
  cases hv with
  | ep _ _ _ _ b hk=>exact⟨_,Fp ht,by rw [cP];constructor<;>grind⟩
 | _=>simp [oZ] at h1
def xR (P:Program) (T:TypeId) (x:AV) (n:Int):Option AV :=
 match yQ P T with
 | some e=>match x with
  | .sl z rows=>if z=qd P e/\0<=n then (rows[n.toNat]?).map (λr=>.el r 0) else none
  | .hs m z lo len=>if z=qd P e/\0<=n/\n<len then some (.ep m z (lo+n.toNat) 0) else none
  | _=>none
 | none=>match dA P T with
  | some (len,e)=>if 0<=n/\n<len then (match x with
   | .pt m off=>some (.pt m (off+n.toNat * qd P e))
   | .el row off=>some (.el row (off+n.toNat * qd P e))
   | .ep m z i off=>some (.ep m z i (off+n.toNat * qd P e))
   | _=>none) else none
  | none=>none
theorem Ms {T e:TypeId} (h:yQ P T=some e):P.underlying T=some (.slice e)/\(P.info? e).isSome:=by
 grind[yQ]
theorem Mr {T e:TypeId} {n:Nat} (h:dA P T=some (n,e)):P.underlying T=some (.array n e)/\(P.info? e).isSome:=by
 grind[dA]
theorem Lm {T e:TypeId} {b p len cap:Nat} {k:IntKind} {n:Int} (ht:yQ P T=some e) (h0:0<=n) (h1:n<len) :
  (Instr.indexAt T (.slice (some ⟨b,p,none⟩) len cap) (.int k n)).run P w=.ok (.pointer (some ⟨b,p+n.toNat * qd P e,none⟩)) w:=by
 obtain⟨hu,hi⟩:=Ms ht;simp only [Instr.indexAt,asIntOf,Sem.run_bind,Sem.run_pure,Result.andThen_ok,vZ hu,h0,h1,and_self,if_true,l8 hi,Addr.add_lit]
theorem Fq {T e:TypeId} {b p len:Nat} {k:IntKind} {n:Int} (ht:dA P T=some (len,e)) (h0:0<=n) (h1:n<len) :
  (Instr.indexAt T (.pointer (some ⟨b,p,none⟩)) (.int k n)).run P w=.ok (.pointer (some ⟨b,p+n.toNat * qd P e,none⟩)) w:=by
 obtain⟨hu,hi⟩:=Mr ht;simp only [Instr.indexAt,asIntOf,Sem.run_bind,Sem.run_pure,Result.andThen_ok,vZ hu,Instr.sureAddr,h0,h1,and_self,if_true,l8 hi,Addr.add_lit]
theorem X4 {T:TypeId} {v:Value} {y z:AV} {k:IntKind} {n:Int} (hv:RV g w v y) (h1:xR P T y n=some z):∃ v',(Instr.indexAt T v (.int k n)).run P w=.ok v' w/\RV g w v' z:=by
 unfold xR at h1
 split at h1
 .rename_i e ht
  cases y with
  | sl E rows =>
   simp only at h1
   split at h1
   .rename_i hc;obtain⟨rfl,h0⟩:=hc;obtain⟨r,hr0,rfl⟩:=zg.1 h1
    cases hv with
    | kX=>simp at hr0
    | cw b off cap len E rows f hC hn hcap hu hcell ho hr =>
     have hlt:n.toNat<len:=qp;have hlen:r.length=qd P e:=hu r (gM hr0);refine⟨_,Lm ht h0 qA,?_⟩;exact .el b (off+n.toNat * qd P e) 0 r (f n.toNat) hC (λj hj=>hcell n.toNat j hlt qA) (λj hj=>ho n.toNat j hlt qA) (λj y hy=>hr n.toNat r hr0 j y hy)
   .cases h1
  | hs m z' lo len =>
   simp only at h1
   split at h1
   .rename_i hc;obtain⟨rfl,h0,hlt⟩:=hc;obtain rfl:=sI h1
    cases hv with
    | cZ=>omega
    | a7 _ _ _ _ b cap ad hk g1 g2 g3 =>
     rw [g3 qA];refine⟨_,Lm ht h0 qA,?_⟩;have:=RV.ep (g:=g) (w:=w) m (qd P e) (lo+n.toNat) 0 b hk
     grind
   .cases h1
  | _=>simp at h1
 .split at h1
  .rename_i len e ht
   split at h1
   .rename_i hc;obtain⟨h0,hlt⟩:=hc
    cases y with
    | pt m off =>
     obtain rfl:=sI h1
     cases hv with
     | pt _ _ b hk=>exact⟨_,Fq ht h0 hlt,.pt m _ b hk⟩
    | el row off =>
     obtain rfl:=sI h1
     cases hv with
     | el b o' off row f hC hcell ho hr=>exact⟨_,Fq ht h0 hlt,by rw [cP];exact .el b o' _ row f hC hcell ho hr⟩
    | ep m z' i off =>
     obtain rfl:=sI h1
     cases hv with
     | ep _ _ _ _ b hk=>exact⟨_,Fq ht h0 hlt,by rw [cP];exact .ep m z' i _ b hk⟩
    | _=>simp at h1
   .cases h1
  .cases h1
end
section
variable {P:Program} {own:Nat->Prop} {C:Nat->Prop} {w0:World} {g:Gh} {st:St} {a:Act} {w:World}
def bO (k:IntKind) (op:BinOp) (x y:Int):Option AV :=
 match op with
 | .add=>some (.sc (.int k (k.wrap (x+y))))
 | .sub=>some (.sc (.int k (k.wrap (x - y))))
 | .mul=>some (.sc (.int k (k.wrap (x * y))))
 | .quo=>if y=0 then none else some (.sc (.int k (k.wrap (x.tdiv y))))
 | .rem=>if y=0 then none else some (.sc (.int k (x.tmod y)))
 | .xor=>some (.sc (.int k (k.wrap (BitVec.ofInt k.bits x ^^^ BitVec.ofInt k.bits y).toNat)))
 | .eql=>some (.sc (.bool (x==y)))
 | .neq=>some (.sc (.bool (x != y)))
 | .lss=>some (.sc (.bool (decide (x<y))))
 | .leq=>some (.sc (.bool (decide (x<=y))))
 | .gtr=>some (.sc (.bool (decide (x > y))))
 | .geq=>some (.sc (.bool (decide (x≥y))))
 | _=>none
def pL (op:BinOp) (x y:ByteArray):Option AV :=
 match op with
 | .add=>if x.size+y.size<=9223372036854775807 then some (.sc (.string (x++y))) else none
 | .eql=>some (.sc (.bool (x.toList==y.toList)))
 | .neq=>some (.sc (.bool (!(x.toList==y.toList))))
 | _=>none
def eI:List AV->List AV->Option Bool
 | [],[]=>some true
 | .sc (.int .i64 x)::xs,.sc (.int .i64 y)::ys=>(eI xs ys).map (λr=>(x==y)&&r)
 | _,_=>none
def AR (P:Program) (T:TypeId):Option Nat :=
 match P.underlying T with
 | some (.struct fs)=>if (fs.toList.zipIdx.all λ(f,j)=>f.name != "_"&&f.offset==j&&(match P.underlying f.type with|some (.int .i64)=>true|_=>false)&&(match jD P f.type with|some false=>true|_=>false))&&!P.stoodInHeld T&&!P.eqGuardType P.depth T then some fs.size else none
 | _=>none
def C2 (P:Program) (T:TypeId):Bool:=match P.underlying T with|some .bool=>true|_=>false
def mj (P:Program) (T:TypeId):Bool:=match P.underlying T with|some (.interface _)=>true|_=>false
def eL (P:Program) (T:TypeId):Bool:=match P.underlying T with|some (.pointer _)=>true|_=>false
def kw (op:BinOp) (r:Bool):Option AV:=match op with|.eql=>some (.sc (.bool r))|.neq=>some (.sc (.bool (!r)))|_=>none
def bb (P:Program) (T:TypeId) (op:BinOp) (cy:Bool) (x y:AV):Option AV :=
 match x,y with
 | .sc (.int k m),.sc (.int k' n)=>if k=k' then bO k op m n else none
 | .sc (.string s),.sc (.string t)=>pL op s t
 | .sc (.bool s),.sc (.bool t)=>if C2 P T then kw op (s==t) else none
 | .agg xs,.agg ys=>match AR P T with
  | some n=>if xs.length=n then (eI xs ys).bind (kw op) else none
  | none=>none
 | .pt _ _,.sc (.pointer none)=>if eL P T then kw op false else none
 | .el _ _,.sc (.pointer none)=>if eL P T then kw op false else none
 | .ep _ _ _ _,.sc (.pointer none)=>if eL P T then kw op false else none
 | .sc (.pointer none),.sc (.pointer none)=>if eL P T then kw op true else none
 | .zp _ _,.sc .nilIface=>if mj P T then kw op false else none
 | .sc .nilIface,.sc .nilIface=>if mj P T&&cy then kw op true else none
 | _,_=>none
theorem X5 {k:IntKind} {op:BinOp} {T:TypeId} {x y:Int} {z:AV} (h:bO k op x y=some z):∃ v,(binOp op T (.int k x) (.int k y)).run P w=.ok v w/\RV g w v z:=by
 cases op <;> simp only [bO] at h <;> first
  | (cases h;done)
  | (obtain rfl:=sI h;exact⟨_,by simp [binOp,Op.intArith,Op.intCmp,Op.intBits];try rfl,.sc _⟩)
  | (split at h
     .cases h
     .rename_i hy;obtain rfl:=sI h;exact⟨_,by simp_all[binOp,Op.intDiv],.sc _⟩)
theorem Xg {op:BinOp} {T:TypeId} {x y:ByteArray} {z:AV} (h:pL op x y=some z):∃ v,(binOp op T (.string x) (.string y)).run P w=.ok v w/\RV g w v z:=by
 cases op <;> simp only [pL] at h <;> first
  | (cases h;done)
  | (obtain rfl:=sI h;exact⟨_,by constructor<;>grind,.sc _⟩)
  | (split at h
     .rename_i hs;obtain rfl:=sI h;refine⟨.string (x++y),?_,.sc _⟩
      have hm:¬ (((x.size+y.size:Nat):Int) > IntKind.i64.max):=by
       simp_all<;>omega
      simp_all[binOp,Op.stringOp]
     .cases h)
theorem QR {x:AV} {xs ys:List AV} {r:Bool} (h:eI (x::xs) ys=some r):∃ m n ys' r',x=.sc (.int .i64 m)/\ys=.sc (.int .i64 n)::ys'/\eI xs ys'=some r'/\r=((m==n)&&r'):=by
 generalize hz:x::xs=zs at h;unfold eI at h
 grind[zg]
theorem QS (d:Nat):∀ (fs:List Field) (o:Nat) (xs ys:List AV) (vx vy:Array Value) (r:Bool),
  (∀ (j:Nat) f,fs[j]?=some f->f.name ≠ "_"/\f.offset=o+j/\P.underlying f.type=some (.int .i64)/\jD P f.type=some false) ->
  (∀ (j:Nat) y,xs[j]?=some y->∃ v,vx[o+j]?=some v/\RV g w v y)->(∀ (j:Nat) y,ys[j]?=some y->∃ v,vy[o+j]?=some v/\RV g w v y)->fs.length=xs.length ->
  eI xs ys=some r->(Op.eqFields (d+1) vx vy fs).run P w=.ok r w:=by
 intro fs
 induction fs with
 | nil =>
  intro o xs ys vx vy r hf hx hy hl h;have:xs=[]:=aX hl.symm;subst this
  cases ys<;>simp_all[eI,Op.eqFields]
 | cons f fs ih =>
  intro o xs ys vx vy r hf hx hy hl h
  cases xs with
  | nil=>simp at hl
  | cons x xs =>
   obtain⟨m,n,ys',r',rfl,rfl,hr',rfl⟩:=QR h
   .obtain⟨f1,f2,f3,f4⟩:=hf 0 f rfl;obtain⟨v1,hv1,hr1⟩:=hx 0 _ rfl;obtain⟨v2,hv2,hr2⟩:=hy 0 _ rfl;rw [hr1.zi] at hv1;rw [hr2.zi] at hv2
    have hp1:(part f.type vx f.offset).run P w=.ok (.int .i64 m) w:=by
     simp_all[part,s7]
    have hp2:(part f.type vy f.offset).run P w=.ok (.int .i64 n) w:=by
     simp_all[part,s7]
    have hih:=ih (o+1) xs ys' vx vy r' (λj f' hj=>by
      have:=hf (j+1) f' qL
      grind)
     (λj y hj=>by have:=hx (j+1) y qL;grind)
     (λj y hj=>by have:=hy (j+1) y qL;grind)
     qL hr'
    simp only [Op.eqFields,ne_eq,f1,not_false_eq_true,if_true,Sem.run_bind,hp1,Result.andThen_ok,hp2,run_equalIn_int w d f.type .i64 .i64 m n f3];by_cases hmn:m=n
    .simp_all
    simp_all
theorem NB {T:TypeId} {n:Nat} (h:AR P T=some n):∃ fs,P.underlying T=some (.struct fs)/\fs.size=n/\P.stoodInHeld T=false/\P.eqGuardType P.depth T=false /\
  ∀ (j:Nat) f,fs.toList[j]?=some f->f.name ≠ "_"/\f.offset=j/\P.underlying f.type=some (.int .i64)/\jD P f.type=some false:=by
 unfold AR at h
 split at h
 .rename_i fs hu
  split at h
  .rename_i hc;simp only [jh,bB] at hc;obtain⟨⟨hall,h1⟩,h2⟩:=hc;refine⟨fs,hu,sI h,h1,h2,λj f hj=>?_⟩
   have hm:(f,j)∈fs.toList.zipIdx:=by
    grind
   grind
  .cases h
 .cases h
theorem XP {T:TypeId} {n:Nat} {xs ys:List AV} {v1 v2:Value} {r:Bool} (ht:AR P T=some n) (h1:RV g w v1 (.agg xs)) (h2:RV g w v2 (.agg ys)) (hn:xs.length=n) (hr:eI xs ys=some r) :
  (Op.equal T v1 v2).run P w=.ok r w:=by
 obtain⟨fs,hu,hs,hp,_,hf⟩:=NB ht;obtain⟨vx,rfl,hl1,hx⟩:=pU h1;obtain⟨vy,rfl,hl2,hy⟩:=pU h2;have hfo:P.fieldsOf T=fs:=by simp [Program.fieldsOf,hu]
 have:=run_equalIn_struct (P:=P) w 9999 T vx.toArray vy.toArray qL hp;rw [hfo] at this;unfold Op.equal Op.maxDepth;rw [this];refine QS (g:=g) 9998 fs.toList 0 xs ys _ _ r (λj f hj=>?_) (λj y hj=>?_) (λj y hj=>?_) (by simp [hs,hn]) hr<;>grind
theorem XT {T:TypeId} {p q:Option Addr} (h:eL P T=true) (hq:q=none):(Op.equal T (.pointer p) (.pointer q)).run P w=.ok p.isNone w:=by
 subst hq;unfold eL at h
 split at h
 .rename_i e hu
  have:∀ d,(Op.equalIn (d+1) T (.pointer p) (.pointer none)).run P w=.ok p.isNone w:=by
   intro d
   cases p <;> simp [Op.equalIn,underlying,hu]
  exact this 9999
 .cases h
theorem XZ {op:BinOp} {T:TypeId} {xo yo:Operand} {k k':IntKind} {m n:Int}:(eqGuard op T xo yo (.int k m) (.int k' n)).run P w=.ok () w:=by
 simp_all[eqGuard]
theorem X2 {op:BinOp} {T:TypeId} {xo yo:Operand} {m n:ByteArray}:(eqGuard op T xo yo (.string m) (.string n)).run P w=.ok () w:=by
 simp_all[eqGuard]
theorem X1 {op:BinOp} {T:TypeId} {xo yo:Operand} {m n:Option Addr}:(eqGuard op T xo yo (.pointer m) (.pointer n)).run P w=.ok () w:=by
 simp_all[eqGuard]
theorem RV.sY {v:Value} {x:AV} (h:RV g w v x) (hx:(∃ id o,x=.pt id o)\/(∃ r o,x=.el r o)\/∃ n z i o,x=.ep n z i o):∃ ad,v=.pointer (some ad):=by
 rcases hx with⟨id,o,rfl⟩|⟨r,o,rfl⟩|⟨n,z,i,o,rfl⟩
 .cases h<;>grind
 .cases h<;>grind
 .cases h<;>grind
theorem XQ {T:TypeId} {x y:Bool} (h:C2 P T=true):(Op.equal T (.bool x) (.bool y)).run P w=.ok (x==y) w:=by
 unfold C2 at h
 split at h
 .rename_i hu
  have:∀ d,(Op.equalIn (d+1) T (.bool x) (.bool y)).run P w=.ok (x==y) w:=by
   intro d;simp [Op.equalIn,underlying,hu]
  exact this 9999
 .cases h
theorem XX {op:BinOp} {T:TypeId} {xo yo:Operand} {m n:Bool}:(eqGuard op T xo yo (.bool m) (.bool n)).run P w=.ok () w:=by
 simp_all[eqGuard]
theorem XR {T t:TypeId} {v:Value} (h:mj P T=true):(Op.equal T (.iface t v) .nilIface).run P w=.ok false w:=by
 unfold mj at h
 split at h
 .rename_i ms hu
  have:∀ d,(Op.equalIn (d+1) T (.iface t v) .nilIface).run P w=.ok false w:=by
   intro d;simp [Op.equalIn,underlying,hu]
  exact this 9999
 .cases h
theorem XS {T:TypeId} (h:mj P T=true):(Op.equal T .nilIface .nilIface).run P w=.ok true w:=by
 unfold mj at h
 split at h
 .rename_i ms hu
  have:∀ d,(Op.equalIn (d+1) T .nilIface .nilIface).run P w=.ok true w:=by
   intro d;simp [Op.equalIn,underlying,hu]
  exact this 9999
 .cases h
theorem XY {op:BinOp} {T t:TypeId} {xo yo:Operand} {v:Value}:(eqGuard op T xo yo (.iface t v) .nilIface).run P w=.ok () w:=by
 simp_all[eqGuard]
theorem X0 {op:BinOp} {T:TypeId} {xo:Operand} {c:Value}:(eqGuard op T xo (.const c) .nilIface .nilIface).run P w=.ok () w:=by
 simp_all[eqGuard]
theorem xn {T:TypeId} {op:BinOp} {v1 v2:Value} {r:Bool} {z:AV} (hi:∀ op,op=.eql\/op=.neq->(binOp op T v1 v2).run P w=.ok (.bool (match op with|.eql=>r|_=>!r)) w) (h:kw op r=some z) :
  ∃ v',(binOp op T v1 v2).run P w=.ok v' w/\RV g w v' z:=by
 cases op <;> simp only [kw] at h <;> first|(cases h;done)|skip
 .obtain rfl:=sI h;exact⟨_,hi .eql (.inl rfl),.sc _⟩
 .obtain rfl:=sI h;exact⟨_,hi .neq (.inr rfl),.sc _⟩
theorem XL {T:TypeId} {op:BinOp} {xo yo:Operand} {v1 v2:Value} {x y z:AV} {cy:Bool} (hcy:cy=true->∃ c,yo=.const c) (h1:RV g w v1 x) (h2:RV g w v2 y) (h:bb P T op cy x y=some z) :
  ∃ v',(do eqGuard op T xo yo v1 v2;binOp op T v1 v2).run P w=.ok v' w/\RV g w v' z:=by
 have ptr:∀ (p:Option Addr) (r:Bool),p.isNone=r->eL P T=true->kw op r=some z->∃ v',(do eqGuard op T xo yo (.pointer p) (.pointer none);binOp op T (.pointer p) (.pointer none)).run P w=.ok v' w/\RV g w v' z:=by
  intro p r hp ht hz;have he:=XT (P:=P) (w:=w) (T:=T) (p:=p) ht rfl
  obtain⟨v',e1,e2⟩:=xn (P:=P) (w:=w) (g:=g) (T:=T) (v1:=.pointer p) (v2:=.pointer none) (r:=r) (λop ho=>by
   rcases ho with rfl|rfl <;> simp [binOp,he,hp]) hz
  simp_all[X1]
 unfold bb at h
 split at h
 .obtain rfl:=h1.zi;obtain rfl:=h2.zi
  split at h
  .rename_i hk;subst hk;obtain⟨v',hr,hv⟩:=X5 (P:=P) (g:=g) (w:=w) (T:=T) h
   simp_all[XZ]
  .cases h
 .obtain rfl:=h1.zi;obtain rfl:=h2.zi;obtain⟨v',hr,hv⟩:=Xg (P:=P) (g:=g) (w:=w) (T:=T) h
  simp_all[X2]
 .obtain rfl:=h1.zi;obtain rfl:=h2.zi
  split at h
  .rename_i s t ht;have he:=XQ (P:=P) (w:=w) (T:=T) (x:=s) (y:=t) ht
   obtain⟨v',e1,e2⟩:=xn (P:=P) (w:=w) (g:=g) (T:=T) (v1:=.bool s) (v2:=.bool t) (r:=s==t) (λop ho=>by
    rcases ho with rfl|rfl <;> simp [binOp,he]) h
   simp_all[XX]
  .cases h
 .rename_i xs ys;obtain⟨vs1,rfl,_⟩:=pU h1;obtain⟨vs2,rfl,_⟩:=pU h2
  split at h
  .rename_i n ht
   split at h
   .rename_i hn;obtain⟨r,hr,h⟩:=fB.1 h;have he:=XP ht h1 h2 hn hr;obtain⟨fs,hu,hs,hp,hgd,hf⟩:=NB ht
    obtain⟨v',e1,e2⟩:=xn (P:=P) (w:=w) (g:=g) (T:=T) (v1:=.agg vs1.toArray) (v2:=.agg vs2.toArray) (r:=r) (λop ho=>by
     rcases ho with rfl|rfl <;> simp [binOp,he]) h
    simp_all[eqGuard]
   .cases h
  .cases h
 .obtain rfl:=h2.zi
  split at h
  .rename_i hp;obtain⟨ad,rfl⟩:=h1.sY (.inl ⟨_,_,rfl⟩)
   simp_all
  .cases h
 .obtain rfl:=h2.zi
  split at h
  .rename_i hp;obtain⟨ad,rfl⟩:=h1.sY (.inr (.inl ⟨_,_,rfl⟩))
   simp_all
  .cases h
 .obtain rfl:=h2.zi
  split at h
  .rename_i hp;obtain⟨ad,rfl⟩:=h1.sY (.inr (.inr ⟨_,_,_,_,rfl⟩))
   simp_all
  .cases h
 .obtain rfl:=h1.zi;obtain rfl:=h2.zi
  simp_all
 .obtain rfl:=h2.zi
  split at h
  .rename_i hp;have hv1:∃ t v,v1=.iface t v:=by cases h1<;>grind
   obtain⟨t,v,rfl⟩:=hv1
   .have he:=XR (P:=P) (w:=w) (T:=T) (t:=t) (v:=v) hp
    obtain⟨v',e1,e2⟩:=xn (P:=P) (w:=w) (g:=g) (T:=T) (v1:=.iface t v) (v2:=.nilIface) (r:=false) (λop ho=>by
     rcases ho with rfl|rfl <;> simp [binOp,he]) h
    simp_all[XY]
  .cases h
 .obtain rfl:=h1.zi;obtain rfl:=h2.zi
  split at h
  .rename_i hp;simp only [jh] at hp;obtain⟨hp,hc⟩:=hp;obtain⟨c,rfl⟩:=hcy hc;have he:=XS (P:=P) (w:=w) (T:=T) hp
   obtain⟨v',e1,e2⟩:=xn (P:=P) (w:=w) (g:=g) (T:=T) (v1:=.nilIface) (v2:=.nilIface) (r:=true) (λop ho=>by
    rcases ho with rfl|rfl <;> simp [binOp,he]) h
   simp_all[X0]
  .cases h
 .cases h
end
end Go.Hm
end
