import Derived.WalkKit
import Derived.MapKept
import Derived.Laws.StructEq
import Derived.Laws.CopyRow
set_option linter.unusedSimpArgs false
set_option linter.unusedVariables false
set_option maxRecDepth 100000
set_option maxHeartbeats 4000000

section
namespace Go.Hm
open Go Go.RowKit
theorem qA {P:Prop} (h:P:=by omega):P:=h
theorem qB {P:Prop} (h:P:=by simp):P:=h
theorem qE {P:Prop} (h:P:=by simp;rfl):P:=h
theorem qI {P:Prop} (h:P:=by kernel_rfl):P:=h
theorem qH {P:Prop} (h:P:=by simp_all):P:=h
theorem qO {P:Prop} (h:P:=by decide):P:=h
theorem qj {P:Prop} (h:P:=by grind):P:=h
theorem qu {P:Prop} (h:P:=by simp [hT]):P:=h
theorem qy {P:Prop} (h:P:=by simp [h1]):P:=h
theorem zD {P:Prop} (h:P:=by simp;exact Zv (by omega) (by omega)):P:=h
theorem qc {P:Prop} (h:P:=by simp;omega):P:=h
theorem ql {P:Prop} (h:P:=by simp [h2]):P:=h
theorem qt {P:Prop} (h:P:=by simp [h3]):P:=h
theorem zF {P:Prop} (h:P:=by simp [hp2]):P:=h
theorem zJ {P:Prop} (h:P:=by simpa using ht):P:=h
theorem zR {P:Prop} (h:P:=by simp [h0]):P:=h
theorem zU {P:Prop} (h:P:=by simp [];first|done|rfl|exact (ll _).symm):P:=h
theorem z7 {P:Prop} (h:P:=by simp [h5]):P:=h
theorem ze {P:Prop} (h:P:=by simpa using hf):P:=h
theorem zd {P:Prop} (h:P:=by simp [qT]):P:=h
theorem zb {P:Prop} (h:P:=by simp [hU]):P:=h
theorem zg {P:Prop} (h:P:=by first|(simp [];done)|(simp [];rfl)):P:=h
theorem zp {P:Prop} (h:P:=by simp [ho1]):P:=h
theorem zw {P:Prop} (h:P:=by and_intros<;>kernel_rfl):P:=h
theorem jM {P:Prop} (h:P:=by simp [hH]):P:=h
theorem j3 {P:Prop} (h:P:=by simp [h6]):P:=h
theorem j2 {P:Prop} (h:P:=by first|(simp;done)|(simp;rfl)):P:=h
theorem jp {P:Prop} (h:P:=by simp [h4]):P:=h
theorem jv {P:Prop} (h:P:=by simp [hp3]):P:=h
theorem jy {P:Prop} (h:P:=by simp [hp1]):P:=h
theorem yv {P:Prop} (h:P:=by simp [ho3 j r hj]):P:=h
theorem yu {P:Prop} (h:P:=by simp [ho2 j r hj]):P:=h
theorem yt {P:Prop} (h:P:=by simp [t2]):P:=h
theorem vQ {P:Prop} (h:P:=by simp at hk):P:=h
theorem vP {P:Prop} (h:P:=by rw [beq_eq_false_iff_ne];omega):P:=h
theorem uA {P:Prop} (h:P:=by cases h):P:=h
theorem vw {P:Prop} (h:P:=by first|(simp [fx];done)|(simp [fx];omega)|omega):P:=h
theorem vv {P:Prop} (h:P:=by simp [t0]):P:=h
theorem vu {P:Prop} (h:P:=by simp [hm.1]):P:=h
theorem vt {P:Prop} (h:P:=by simp [fx];first|done|rfl):P:=h
theorem vr {P:Prop} (h:P:=by simp [h11]):P:=h
theorem vq {P:Prop} (h:P:=by simp only [yo];omega):P:=h
theorem vo {P:Prop} (h:P:=by simp [h28]):P:=h
theorem un {P:Prop} (h:P:=by simp [t0,hT]):P:=h
theorem um {P:Prop} (h:P:=by cases e):P:=h
theorem ul {P:Prop} (h:P:=by simp [hp2']):P:=h
theorem kK {P:Prop} (h:P:=by simp [h8]):P:=h
theorem kj {P:Prop} (h:P:=by simp [hp4]):P:=h
theorem ki {P:Prop} (h:P:=by simp [hr0]):P:=h
theorem kh {P:Prop} (h:P:=by simp [hp5]):P:=h
theorem wJ {P:Prop} (h:P:=by simp [h2];rfl):P:=h
theorem wI {P:Prop} (h:P:=by simp [h7]):P:=h
theorem wH {P:Prop} (h:P:=by simp [Nm.under]):P:=h
theorem wG {P:Prop} (h:P:=by simp [hp8]):P:=h
theorem aF {P:Prop} (h:P:=by simp [hm]):P:=h
theorem a6 {P:Prop} (h:P:=by simp [Zb.top]):P:=h
theorem aZ {P:Prop} (h:P:=by simp [h12]):P:=h
theorem aY {P:Prop} (h:P:=by simp [t3]):P:=h
theorem aX {P:Prop} (h:P:=by simp [hp6]):P:=h
theorem aW {P:Prop} (h:P:=by simp [hp8']):P:=h
theorem aV {P:Prop} (h:P:=by simp [ya]):P:=h
theorem b5 {P:Prop} (h:P:=by simp [h9]):P:=h
theorem bZ {P:Prop} (h:P:=by simp [ju]):P:=h
theorem bY {P:Prop} (h:P:=by simp [qg,hk]):P:=h
theorem bX {P:Prop} (h:P:=by simp [kM,ya]):P:=h
theorem bW {P:Prop} (h:P:=by simp [hc1]):P:=h
theorem bV {P:Prop} (h:P:=by simp [h10]):P:=h
theorem cB {P:Prop} (h:P:=by simp [hT,uX]):P:=h
theorem cA {P:Prop} (h:P:=by simp [h14]):P:=h
theorem bz {P:Prop} (h:P:=by simpa [jT,hv0] using hv):P:=h
theorem bu {P:Prop} (h:P:=by simp [];rfl):P:=h
theorem bt {P:Prop} (h:P:=by simp [hT1]):P:=h
theorem br {P:Prop} (h:P:=by simp [hO.scs.top]):P:=h
theorem bq {P:Prop} (h:P:=by simp [hO.scs.sc j k hj hk]):P:=h
theorem dR {P:Prop} (h:P:=by simp [hF]):P:=h
theorem dQ {P:Prop} (h:P:=by simp [hp11]):P:=h
theorem dP {P:Prop} (h:P:=by exact (have h:=hO;ZY.re h)):P:=h
theorem dO {P:Prop} (h:P:=by simp [h]):P:=h
theorem dN {P:Prop} (h:P:=by simpa [hk,e] using hn):P:=h
theorem dM {P:Prop} (h:P:=by simpa using hen):P:=h
theorem fA {P:Prop} (h:P:=by simp;exact EA hat):P:=h
theorem ez {P:Prop} (h:P:=by simp [Z8.push,zn]):P:=h
theorem ey {P:Prop} (h:P:=by simp [Zb.top,hm0]):P:=h
theorem ew {P:Prop} (h:P:=by simp [hf,Z8.push]):P:=h
theorem eu {P:Prop} (h:P:=by simp [vd]):P:=h
theorem er {P:Prop} (h:P:=by simp [hn,Z8.push]):P:=h
theorem em {P:Prop} (h:P:=by simp [zC,hk]):P:=h
theorem eh {P:Prop} (h:P:=by rfl):P:=h
theorem gK {P:Prop} (h:P:=by simp [hO.env i a ha]):P:=h
theorem gJ {P:Prop} (h:P:=by simp [jg]):P:=h
theorem gI {P:Prop} (h:P:=by simp [hJ]):P:=h
theorem gH {P:Prop} (h:P:=by simp [t1]):P:=h
theorem gG {P:Prop} (h:P:=by simp [t5]):P:=h
theorem gF {P:Prop} (h:P:=by simp [zK]):P:=h
theorem gD {P:Prop} (h:P:=by simp [z6]):P:=h
theorem gB {P:Prop} (h:P:=by repeat (first|(with_reducible exact hO)|refine Ks ?_|refine Ey (by rfl) ?_|refine FA ?_|refine Cd ?_|refine Ez ?_|refine Kt ?_|exact (have h:=hO;ZY.re h))):P:=h
theorem gA {P:Prop} (h:P:=by simp [hc2 j k hj hk]):P:=h
theorem fz {P:Prop} (h:P:=by simp [t8]):P:=h
theorem ij {P:Prop} (h:P:=by simp [h51]):P:=h
theorem ii {P:Prop} (h:P:=by first|(simp [h0];done)|(simp [h0];rfl)):P:=h
theorem cV {P:Prop} (h:P:=by simpa using hkd):P:=h
theorem cU {P:Prop} (h:P:=by simp [hq]):P:=h
theorem cT {P:Prop} (h:P:=by simp [hL]):P:=h
theorem cR {P:Prop} (h:P:=by simp [t6]):P:=h
theorem cQ {P:Prop} (h:P:=by simp [hp7]):P:=h
theorem cP {P:Prop} (h:P:=by simp [uc]):P:=h
theorem cO {P:Prop} (h:P:=by simp [dz,noH] at he):P:=h
theorem cN {P:Prop} (h:P:=by simp [noH]):P:=h
theorem eS {P:Prop} (h:P:=by simp [t4];rfl):P:=h
theorem eR {P:Prop} (h:P:=by simp [v7]):P:=h
theorem eQ {P:Prop} (h:P:=by grind[qg]):P:=h
theorem eP {P:Prop} (h:P:=by simp [qn]):P:=h
theorem eO {P:Prop} (h:P:=by simp at hv;omega):P:=h
theorem eN {P:Prop} (h:P:=by simp [r1]):P:=h
theorem eM {P:Prop} (h:P:=by rw [Zv (by omega) (by omega)];omega):P:=h
theorem eL {P:Prop} (h:P:=by first|(simp;done)|fail):P:=h
theorem eK {P:Prop} (h:P:=by simp [hR]):P:=h
theorem eJ {P:Prop} (h:P:=by simp at hv):P:=h
theorem eI {P:Prop} (h:P:=by simp [r2]):P:=h
theorem eH {P:Prop} (h:P:=by simp [t9]):P:=h
theorem eG {P:Prop} (h:P:=by simp only at harg;omega):P:=h
theorem gc {P:Prop} (h:P:=by simp [zn]):P:=h
theorem ga {P:Prop} (h:P:=by simpa using h2):P:=h
theorem gZ {P:Prop} (h:P:=by rw [ZH hc]):P:=h
theorem gY {P:Prop} (h:P:=by simp [hO.bx k j hk hj]):P:=h
theorem gW {P:Prop} (h:P:=by simp [yZ]):P:=h
theorem gV {P:Prop} (h:P:=by simp [hp14]):P:=h
theorem gU {P:Prop} (h:P:=by simp [hc0]):P:=h
theorem gT {P:Prop} (h:P:=by obtain⟨_,h9,_,_,_,_,_,_,_,_,rfl⟩:=hO.top;exact⟨_,by first|(simp [h9];done)|(simp [h9];exact⟨rfl,rfl,rfl,rfl,rfl,rfl,rfl,rfl⟩),.mk⟩):P:=h
theorem gR {P:Prop} (h:P:=by simp [h50]):P:=h
theorem gQ {P:Prop} (h:P:=by simp [h13]):P:=h
theorem gP {P:Prop} (h:P:=by simp [h19]):P:=h
theorem gO {P:Prop} (h:P:=by simp [qW]):P:=h
theorem gN {P:Prop} (h:P:=by simp [hc0];rfl):P:=h
theorem gL {P:Prop} (h:P:=by simpa using h):P:=h
theorem lf {P:Prop} (h:P:=by simp [hO.trc,hT]):P:=h
theorem ld {P:Prop} (h:P:=by simp [h52]):P:=h
theorem lc {P:Prop} (h:P:=by simp [hO.out]):P:=h
theorem la {P:Prop} (h:P:=by simpa using hx):P:=h
theorem l9 {P:Prop} (h:P:=by simp [zQ]):P:=h
theorem l8 {P:Prop} (h:P:=by simp [hO.Zw,hT]):P:=h
theorem l7 {P:Prop} (h:P:=by simp [hO.ZZ,hT]):P:=h
theorem l6 {P:Prop} (h:P:=by simp [Bc,hv]):P:=h
theorem l5 {P:Prop} (h:P:=by simp [hO.out,hT]):P:=h
theorem l0 {P:Prop} (h:P:=by simp [dz,hno]):P:=h
theorem lZ {P:Prop} (h:P:=by simp [jT,hv0]):P:=h
theorem lY {P:Prop} (h:P:=by simp [h18]):P:=h
theorem lX {P:Prop} (h:P:=by simp [St.kill]):P:=h
theorem lW {P:Prop} (h:P:=by simp [p8]):P:=h
theorem oW {P:Prop} (h:P:=by simp [qBP]):P:=h
theorem oV {P:Prop} (h:P:=by first|(simp [hc2 j k hj hk];done)|fail):P:=h
theorem oU {P:Prop} (h:P:=by simp [hl]):P:=h
theorem oT {P:Prop} (h:P:=by simp [hO.top,wL,hT]):P:=h
theorem oS {P:Prop} (h:P:=by simp [h281]):P:=h
theorem oR {P:Prop} (h:P:=by simp [wrO]):P:=h
theorem oQ {P:Prop} (h:P:=by simp [Zb.stop]):P:=h
theorem oP {P:Prop} (h:P:=by simp [h20]):P:=h
theorem oO {P:Prop} (h:P:=by simp [hO.trc]):P:=h
theorem oN {P:Prop} (h:P:=by simp [hO.ZZ]):P:=h
theorem oM {P:Prop} (h:P:=by simp [hxl]):P:=h
theorem oL {P:Prop} (h:P:=by simp;try omega):P:=h
theorem oK {P:Prop} (h:P:=by first|(simp [hc1];done)|fail):P:=h
theorem oJ {P:Prop} (h:P:=by simp [hO.act i a ha,hT]):P:=h
theorem oI {P:Prop} (h:P:=by simp [ht]):P:=h
theorem oH {P:Prop} (h:P:=by simp at e):P:=h
theorem oG {P:Prop} (h:P:=by simp [h15]):P:=h
theorem oF {P:Prop} (h:P:=by simp [hO.cls i c hc,hT]):P:=h
theorem oE {P:Prop} (h:P:=by simpa using ho):P:=h
theorem oD {P:Prop} (h:P:=by simp [hl,hT]):P:=h
theorem oC {P:Prop} (h:P:=by grind[Z9.reads]):P:=h
theorem oB {P:Prop} (h:P:=by simp [p92]):P:=h
theorem oA {P:Prop} (h:P:=by first|((repeat' (first|exact .nil|refine .cons ?_ ?_|exact .refl _|exact vF (by simp [fx];first|done|rfl) (by first|(simp [fx];done)|(simp [fx];omega)|omega)|exact km (by simp [fx];first|done|rfl) (by first|(simp [fx];done)|(simp [fx];omega)|omega) (by first|(simp;done)|fail)|exact cX (cW (p:=p) (n:=.c (.s 5) 0 0) ⟨by simp [ho1],λj r hj=>by simp [ho2 j r hj],λj r hj=>by simp [ho3 j r hj]⟩ rfl)));done)|fail):P:=h
theorem nz {P:Prop} (h:P:=by simpa using hen2):P:=h
theorem ny {P:Prop} (h:P:=by simpa using hb):P:=h
theorem nw {P:Prop} (h:P:=by simp [vJ]):P:=h
theorem nu {P:Prop} (h:P:=by repeat (first|(with_reducible exact hOB)|refine LA ?_|refine Kz (by rfl) ?_|refine LC (by rfl) ?_|refine LB (by rfl) (by rfl) ?_|refine RY (by rfl) ?_|exact hOB)):P:=h
theorem nr {P:Prop} (h:P:=by grind[Zb.top]):P:=h
theorem nq {P:Prop} (h:P:=by simp [hO.ZX,hT]):P:=h
theorem nj {P:Prop} (h:P:=by simp [hO.Zg,hT]):P:=h
theorem tv {P:Prop} (h:P:=by simp [hl.2]):P:=h
theorem tu {P:Prop} (h:P:=by simp [qw,hp]):P:=h
theorem tq {P:Prop} (h:P:=by simp [h9,fM9]):P:=h
theorem tp {P:Prop} (h:P:=by simp [h2,h3r,h4r];rfl):P:=h
theorem tk {P:Prop} (h:P:=by simp [hp62]):P:=h
theorem tj {P:Prop} (h:P:=by simp [dz,hV]):P:=h
theorem ti {P:Prop} (h:P:=by simp [hbod]):P:=h
theorem th {P:Prop} (h:P:=by rw [hT];simp):P:=h
theorem tg {P:Prop} (h:P:=by simp [tw]):P:=h
theorem te {P:Prop} (h:P:=by simp [Zz]):P:=h
theorem td {P:Prop} (h:P:=by grind[dG]):P:=h
theorem tc {P:Prop} (h:P:=by first|((repeat' (first|exact .nil|refine .cons ?_ ?_|exact .refl _|exact vF (by simp [fx];first|done|rfl) (by first|(simp [fx];done)|(simp [fx];omega)|omega)|exact km (by simp [fx];first|done|rfl) (by first|(simp [fx];done)|(simp [fx];omega)|omega) (by first|(simp;done)|fail)|exact OM (n:=.s 10) (p:=p) (k:=q) ⟨by simp [hc1],λj k hj hk=>by simp [hc2 j k hj hk]⟩ hh hq));done)|fail):P:=h
theorem ta {P:Prop} (h:P:=by simp [hy]):P:=h
theorem tZ {P:Prop} (h:P:=by simp [hp12]):P:=h
theorem tY {P:Prop} (h:P:=by simp [hnext,h5]):P:=h
theorem tX {P:Prop} (h:P:=by simp [C9,hv]):P:=h
theorem tW {P:Prop} (h:P:=by grind[zK]):P:=h
theorem tV {P:Prop} (h:P:=by simpa using h1):P:=h
theorem tU {P:Prop} (h:P:=by simp [JK,hv]):P:=h
theorem tT {P:Prop} (h:P:=by simp [yR]):P:=h
theorem tS {P:Prop} (h:P:=by simp [hO.Zw]):P:=h
theorem tR {P:Prop} (h:P:=by grind[Z8.next]):P:=h
theorem tQ {P:Prop} (h:P:=by simp [Nm.Zi]):P:=h
theorem tP {P:Prop} (h:P:=by simp [uj]):P:=h
theorem tO {P:Prop} (h:P:=by simp [hp5,hn2]):P:=h
theorem tN {P:Prop} (h:P:=by grind[z6]):P:=h
theorem tM {P:Prop} (h:P:=by simpa using hk1):P:=h
theorem tL {P:Prop} (h:P:=by rw [e];simp):P:=h
theorem tK {P:Prop} (h:P:=by simp [hO1.trc]):P:=h
theorem tJ {P:Prop} (h:P:=by simp [hp63]):P:=h
theorem tI {P:Prop} (h:P:=by simp [h6];exact Zv (by omega) (by omega)):P:=h
theorem tH {P:Prop} (h:P:=by simp [hO1.Zw]):P:=h
theorem tG {P:Prop} (h:P:=by simp [<- hap]):P:=h
theorem tF {P:Prop} (h:P:=by simp [aU]):P:=h
theorem tE {P:Prop} (h:P:=by simp [dz,h2]):P:=h
theorem tD {P:Prop} (h:P:=by simp [BT]):P:=h
theorem tC {P:Prop} (h:P:=by grind[maxLen]):P:=h
theorem tB {P:Prop} (h:P:=by have h2:¬ (k=2/\i=0/\j=0):=(λh=>by rw [h.1] at hk;exact absurd hk (by decide));have h3:¬ (k=9/\i=0/\j=0):=(λh=>by rw [h.1] at hk;exact absurd hk (by decide));simpa [hk,e,h2,h3] using hn):P:=h
theorem tA {P:Prop} (h:P:=by simp [dz,h9]):P:=h
theorem sy {P:Prop} (h:P:=by repeat (first|(with_reducible exact hO2)|refine Ks ?_|refine Ey (by rfl) ?_|refine FA ?_|refine Cd ?_|refine Ez ?_|refine Kt ?_|exact (have h:=hO2;ZY.re h))):P:=h
theorem CT {P:Prop} (h:P:=by unfold Func.isWrapper;first|(rw [if_pos (by decide +kernel)];kernel_rfl)|(rw [if_neg (by decide +kernel)];exact⟨rfl,rfl⟩)):P:=h
theorem CS {P:Prop} (h:P:=by grind[getObj,Sem.run]):P:=h
theorem CR {P:Prop} (h:P:=by simp [hO1.ZZ]):P:=h
theorem CQ {P:Prop} (h:P:=by first|(simp [hp3];done)|(simp [hp3];rfl)):P:=h
theorem CP {P:Prop} (h:P:=by simp [ho3 j k hk]):P:=h
theorem CO {P:Prop} (h:P:=by simp [B6,hv]):P:=h
theorem CN {P:Prop} (h:P:=by simp [h4];rfl):P:=h
theorem CM {P:Prop} (h:P:=by simp [Z8.look,Z8.push,Zb.stop]):P:=h
theorem CL {P:Prop} (h:P:=by simp [h6];rfl):P:=h
theorem CK {P:Prop} (h:P:=by simp [hm.1,hen2]):P:=h
theorem CJ {P:Prop} (h:P:=by simp [cY,wi];omega):P:=h
theorem CI {P:Prop} (h:P:=by simp only [Co];omega):P:=h
theorem CH {P:Prop} (h:P:=by simp [ho2 j k hk]):P:=h
theorem CG {P:Prop} (h:P:=by simp [Hm.shown,h1,h2,h3]):P:=h
theorem CF {P:Prop} (h:P:=by simp [ho2 j k hj hk]):P:=h
theorem CE {P:Prop} (h:P:=by simp [AV.tr,o8]):P:=h
theorem CD {P:Prop} (h:P:=by simp [zM]):P:=h
theorem CC {P:Prop} (h:P:=by have:=(gS hc).1;omega):P:=h
theorem CB {P:Prop} (h:P:=by first|(simp [hp5];done)|(simp [hp5];rfl)):P:=h
theorem CA {P:Prop} (h:P:=by simp [qw,hb]):P:=h
theorem Bz {P:Prop} (h:P:=by simp only [PR];omega):P:=h
theorem By {P:Prop} (h:P:=by grind[Region.wanted]):P:=h
theorem Bx {P:Prop} (h:P:=by simp [Value.ownBlock]):P:=h
theorem Bv {P:Prop} (h:P:=by simp [hnext,hp5]):P:=h
theorem Bu {P:Prop} (h:P:=by simpa using Array.mem_of_getElem? ht):P:=h
theorem Bt {P:Prop} (h:P:=by rw [IX];decide):P:=h
theorem Bs {P:Prop} (h:P:=by simp [kl,(D_s (λ_=>qN) hk i).2]):P:=h
theorem Br {P:Prop} (h:P:=by simp [kN,hc,hs]):P:=h
theorem Bq {P:Prop} (h:P:=by simp [dz,noH]):P:=h
theorem Bp {P:Prop} (h:P:=by grind[zO]):P:=h
theorem Bo {P:Prop} (h:P:=by simp [jg,hr0]):P:=h
theorem Bl {P:Prop} (h:P:=by simp [hm0,Zb.top]):P:=h
theorem HI {P:Prop} (h:P:=by simp [hO1.scs.sc j k hj hk]):P:=h
theorem HH {P:Prop} (h:P:=by obtain rfl:=sI e;show d<st.n;omega):P:=h
theorem HG {P:Prop} (h:P:=by first|(simp [a3 j r hj];done)|fail):P:=h
theorem HF {P:Prop} (h:P:=by rw [h4];exact qf _):P:=h
theorem HE {P:Prop} (h:P:=by first|(simp [ho1];done)|fail):P:=h
theorem HD {P:Prop} (h:P:=by simp [(he q v hq).names]):P:=h
theorem HC {P:Prop} (h:P:=by first|(simp [(me i c hc).Z3];done)|fail):P:=h
theorem HB {P:Prop} (h:P:=by simp only [yf,if_neg w1,hs,if_true]):P:=h
theorem HA {P:Prop} (h:P:=by first|(simp [b3 j r hj];done)|fail):P:=h
theorem Gz {P:Prop} (h:P:=by first|(simp [a1];done)|fail):P:=h
theorem Gy {P:Prop} (h:P:=by first|(simp [q5];done)|fail):P:=h
theorem Gw {P:Prop} (h:P:=by simp only [yf,if_neg w1,hs]):P:=h
theorem Gv {P:Prop} (h:P:=by first|(simp [o5];done)|fail):P:=h
theorem Gu {P:Prop} (h:P:=by first|(simp [o2];done)|fail):P:=h
theorem Gt {P:Prop} (h:P:=by first|(simp [(ke i c hc).cells];done)|fail):P:=h
theorem Gs {P:Prop} (h:P:=by first|(simp [nt];done)|fail):P:=h
theorem Gq {P:Prop} (h:P:=by first|(simp [o1];done)|fail):P:=h
theorem Gp {P:Prop} (h:P:=by grind[Z8.push,Z8.next]):P:=h
theorem Gn {P:Prop} (h:P:=by intro x0;induction x0<;>grind[St.qAA,St.Zp]):P:=h
theorem Gm {P:Prop} (h:P:=by first|(simp [q3];done)|fail):P:=h
theorem Gl {P:Prop} (h:P:=by first|(simp [(ke i c hc).params];done)|fail):P:=h
theorem Gk {P:Prop} (h:P:=by simp only [yf,if_neg w1,hs,if_neg w0]):P:=h
theorem Gj {P:Prop} (h:P:=by first|(simp [kt];done)|fail):P:=h
theorem Gi {P:Prop} (h:P:=by first|(simp [(me i c hc).cells];done)|fail):P:=h
theorem Gg {P:Prop} (h:P:=by first|(simp [(ne i c hc).cells];done)|fail):P:=h
theorem Gf {P:Prop} (h:P:=by first|(simp [(ke i c hc).ops];done)|fail):P:=h
theorem Ge {P:Prop} (h:P:=by rw [<- hcl,yD he heb]):P:=h
theorem Gd {P:Prop} (h:P:=by first|(simp [(ne i c hc).params];done)|fail):P:=h
theorem Gc {P:Prop} (h:P:=by first|(simp [q1];done)|fail):P:=h
theorem Gb {P:Prop} (h:P:=by first|(simp [(me i c hc).params];done)|fail):P:=h
theorem Ga {P:Prop} (h:P:=by first|(simp [q2];done)|fail):P:=h
theorem G9 {P:Prop} (h:P:=by simp [(hoth d k hq hd).1]):P:=h
theorem G8 {P:Prop} (h:P:=by first|(simp [(ne i c hc).qB2];done)|fail):P:=h
theorem G7 {P:Prop} (h:P:=by intro i x hi hx;rw [yh] at hi;have e:=pg hi;simp only [wrO] at hx;rw [if_neg (by simp),if_neg (by simp)] at hx;simp [hx,e.1,e.2.1,e.2.2.1,e.2.2.2]):P:=h
theorem G6 {P:Prop} (h:P:=by simp [h7];exact Zv (by omega) (by omega)):P:=h
theorem G5 {P:Prop} (h:P:=by first|(simp [b1];done)|fail):P:=h
theorem G4 {P:Prop} (h:P:=by first|(simp [(ne i c hc).Z3];done)|fail):P:=h
theorem G3 {P:Prop} (h:P:=by first|(simp;done)|(simp;rw [Q5 (by omega)])):P:=h
theorem G1 {P:Prop} (h:P:=by first|(simp [ho2 j r hj];done)|fail):P:=h
theorem G0 {P:Prop} (h:P:=by simp [(he q v hq).vals]):P:=h
theorem GZ {P:Prop} (h:P:=by rw [fy hc];omega):P:=h
theorem GY {P:Prop} (h:P:=by obtain rfl:=sI e;exact hn):P:=h
theorem GX {P:Prop} (h:P:=by simp only [ai];omega):P:=h
theorem GW {P:Prop} (h:P:=by first|(simp [a2 j r hj];done)|fail):P:=h
theorem GV {P:Prop} (h:P:=by first|(simp [ho3 j r hj];done)|fail):P:=h
theorem GU {P:Prop} (h:P:=by first|(simp [o4];done)|fail):P:=h
theorem GT {P:Prop} (h:P:=by first|(simp [(me i c hc).ops];done)|fail):P:=h
theorem GS {P:Prop} (h:P:=by first|(simp [o3];done)|fail):P:=h
theorem GR {P:Prop} (h:P:=by intro i x hi hx;rw [yh] at hi;have e:=pg hi;simp [hx,e.1,e.2.1,e.2.2.1,e.2.2.2]):P:=h
theorem GQ {P:Prop} (h:P:=by rw [hge,an,hl,an] at heq;exact heq):P:=h
theorem GP {P:Prop} (h:P:=by first|(simp [mt];done)|fail):P:=h
theorem GO {P:Prop} (h:P:=by first|(simp [(ke i c hc).Z3];done)|fail):P:=h
theorem GN {P:Prop} (h:P:=by simp [t11];exact Zv (by omega) (by omega)):P:=h
theorem GM {P:Prop} (h:P:=by first|(simp [(ke i c hc).qB2];done)|fail):P:=h
theorem GL {P:Prop} (h:P:=by first|(simp [b2 j r hj];done)|fail):P:=h
theorem GK {P:Prop} (h:P:=by first|(simp [(me i c hc).qB2];done)|fail):P:=h
theorem GJ {P:Prop} (h:P:=by first|(simp [(ne i c hc).ops];done)|fail):P:=h
theorem GI {P:Prop} (h:P:=by grind[wA,Z9.reads]):P:=h
theorem GH {P:Prop} (h:P:=by first|(simp [q4];done)|fail):P:=h
theorem GG {P:Prop} (h:P:=by simp [(hoth d k hq hd).2]):P:=h
theorem GF {P:Prop} (h:P:=by rw [hat];exact (have h:=hO1;ZY.re h)):P:=h
theorem OL {P:Prop} (h:P:=by first|(simp [t7,h7,hqs];done)|(simp [t7,h7,hqs];rfl)):P:=h
theorem OK {P:Prop} (h:P:=by rw [e,hyi] at hxi;obtain rfl:=sI hxi;simp at ht):P:=h
theorem OJ {P:Prop} (h:P:=by rintro (rfl|rfl) <;> simp at hok <;> exact hok.1):P:=h
theorem OI {P:Prop} (h:P:=by first|(simp [hp7,zi];done)|(simp [hp7,zi];rfl)):P:=h
theorem OH {P:Prop} (h:P:=by simp [Instr.lookup,jD hT,hg,hck,Instr.findKey,jD hkey,f1]):P:=h
theorem OG {P:Prop} (h:P:=by simp [Instr.lookup,jD hT,hg,hck,Instr.findKey,jD hkey,f1,hr0]):P:=h
theorem OF {P:Prop} (h:P:=by first|(simp [t5,p5,hcl2];done)|(simp [t5,p5,hcl2];rfl)):P:=h
theorem OE {P:Prop} (h:P:=by have:=D_s (λ_=>qN) hk 7;simp [this.1,this.2,hk]):P:=h
theorem OD {P:Prop} (h:P:=by rw [show (qq V a i).Z1 a=V.Z1 a from rfl,jq hd]):P:=h
theorem OC {P:Prop} (h:P:=by unfold zW;simp only [List.getLast?_append,List.getLast?_singleton,List.dropLast_concat,Option.some_or];exact (have h:=hO2;ZY.re h)):P:=h
theorem OB {P:Prop} (h:P:=by first|(simp [t7,p7,hcl2];done)|(simp [t7,p7,hcl2];rfl)):P:=h
theorem OA {P:Prop} (h:P:=by first|(simp [h9];done)|(simp [h9];exact⟨rfl,rfl,rfl,rfl,rfl,rfl,rfl,rfl⟩)):P:=h
theorem Nz {P:Prop} (h:P:=by simp only [beq_eq_false_iff_ne,ne_eq];omega):P:=h
theorem Ny {P:Prop} (h:P:=by repeat (first|(with_reducible exact hSm)|refine Rf ?_|refine Lk hD ?_|refine Lm hD ?_|refine Ll hD ?_|refine Rh hD ?_|exact hSm)):P:=h
theorem Nx {P:Prop} (h:P:=by rw [k6];exact da gl DY9 (λ_=>JA) _ R' (yo fs.length) k vs f.tos k2 k3 k4 k5 (by omega) yoh):P:=h
theorem Nw {P:Prop} (h:P:=by rw [hTt];exact⟨by simp [wL,hT],by simp [hO.ZX],λj b hb=>by simp [hO.act j b hb],hO.stk.imp λl hl=>by simp [hl],by simp [hO.Zg],by simp [hO.ZZ],by simp [hO.Zw],λj b hb=>by simp [hO.cls j b hb],by simp [hO.out],by simp [<- hap]⟩):P:=h
theorem Nv {P:Prop} (h:P:=by have:=D_s (λ_=>qN) hk 8;simp [this.1,this.2,hk]):P:=h
theorem Nu {P:Prop} (h:P:=by rw [e6];exact lC gl D9 (λ_=>UO) _ rows' fs.length k a0 a1 a2 a3 a4 a5 vs f.tos e2 e3 e4 e5 (by omega)):P:=h
theorem qf:type_of% @Nat.le_refl:=@Nat.le_refl
theorem ll:type_of% @Bool.not_not:=@Bool.not_not
theorem ku:type_of% @Option.map_eq_some_iff.{0,0}:=@Option.map_eq_some_iff
theorem kx:type_of% @List.getElem?_map.{0,0}:=@List.getElem?_map
theorem wK:type_of% @List.ext_getElem?.{0}:=@List.ext_getElem?
theorem b6:type_of% @Int.toNat_natCast:=@Int.toNat_natCast
theorem ba:type_of% @Bool.and_eq_true:=@Bool.and_eq_true
theorem b9:type_of% @List.take_of_length_le.{0}:=@List.take_of_length_le
theorem dT:type_of% @List.all_eq_true.{0}:=@List.all_eq_true
theorem dY:type_of% @List.mem_append.{0}:=@List.mem_append
theorem vk:type_of% @Nat.le_trans:=@Nat.le_trans
theorem uQ:type_of% @List.take_add_one.{0}:=@List.take_add_one
theorem uW:type_of% @List.getElem?_append_left.{0}:=@List.getElem?_append_left
theorem kv:type_of% @Option.map_some.{0,0}:=@Option.map_some
theorem an:type_of% @List.take_length.{0}:=@List.take_length
theorem w6:type_of% @List.mem_singleton.{0}:=@List.mem_singleton
theorem aH:type_of% @List.mem_cons.{0}:=@List.mem_cons
theorem aG:type_of% @List.prefix_refl.{0}:=@List.prefix_refl
theorem aR:type_of% @Nat.lt_of_lt_of_le:=@Nat.lt_of_lt_of_le
theorem am:type_of% @List.length_append.{0}:=@List.length_append
theorem ak:type_of% @Bool.false_eq_true:=@Bool.false_eq_true
theorem b7:type_of% @List.getElem?_append_right.{0}:=@List.getElem?_append_right
theorem bc:type_of% @Bool.not_eq_true:=@Bool.not_eq_true
theorem dV:type_of% @Nat.eq_zero_or_pos:=@Nat.eq_zero_or_pos
theorem dU:type_of% @List.length_singleton.{0}:=@List.length_singleton
theorem eW:type_of% @List.getElem?_of_mem.{0}:=@List.getElem?_of_mem
theorem eV:type_of% @List.getElem?_set.{0}:=@List.getElem?_set
theorem fG:type_of% @List.mem_map.{0,0}:=@List.mem_map
theorem fF:type_of% @Nat.lt_or_ge:=@Nat.lt_or_ge
theorem gk:type_of% @Nat.mul_le_mul_right:=@Nat.mul_le_mul_right
theorem gj:type_of% @List.eq_nil_of_length_eq_zero.{0}:=@List.eq_nil_of_length_eq_zero
theorem gi:type_of% @List.map_cons.{0,0}:=@List.map_cons
theorem gh:type_of% @List.mem_range:=@List.mem_range
theorem iU:type_of% @List.getElem?_cons_zero.{0}:=@List.getElem?_cons_zero
theorem lj:type_of% @List.mem_cons_of_mem.{0}:=@List.mem_cons_of_mem
theorem nA:type_of% @Nat.add_assoc:=@Nat.add_assoc
theorem mz:type_of% @List.map_congr_left.{0,0}:=@List.map_congr_left
theorem oY:type_of% @Option.some.injEq.{0}:=@Option.some.injEq
theorem pR:type_of% @List.getElem?_modify.{0}:=@List.getElem?_modify
theorem pQ:type_of% @List.getElem?_eq_none.{0}:=@List.getElem?_eq_none
theorem pP:type_of% @Bool.true_and:=@Bool.true_and
theorem xF:type_of% @Prod.mk.inj.{0,0}:=@Prod.mk.inj
theorem xE:type_of% @Bool.not_eq_true':=@Bool.not_eq_true'
theorem xD:type_of% @Option.bind_eq_some_iff.{0,0}:=@Option.bind_eq_some_iff
theorem xC:type_of% @List.getD_eq_getElem?_getD.{0}:=@List.getD_eq_getElem?_getD
theorem xB:type_of% @List.mem_filter.{0}:=@List.mem_filter
theorem xA:type_of% @List.map_map.{0,0,0}:=@List.map_map
theorem tz:type_of% @Bool.eq_false_iff:=@Bool.eq_false_iff
theorem xX:type_of% @Nat.zero_add:=@Nat.zero_add
theorem xW:type_of% @List.append_assoc.{0}:=@List.append_assoc
theorem C4:type_of% @Nat.add_zero:=@Nat.add_zero
theorem C3:type_of% @Array.getElem?_eq_some_iff.{0}:=@Array.getElem?_eq_some_iff
theorem C2:type_of% @Array.getElem?_toList.{0}:=@Array.getElem?_toList
theorem CZ:type_of% @Option.ne_none_iff_exists'.{0}:=@Option.ne_none_iff_exists'
theorem CY:type_of% @List.take_append.{0}:=@List.take_append
theorem Ek:type_of% @List.length_nil.{0}:=@List.length_nil
theorem Ej:type_of% @Nat.sub_self:=@Nat.sub_self
theorem Ei:type_of% @Nat.add_mul:=@Nat.add_mul
theorem Eh:type_of% @Nat.mul_comm:=@Nat.mul_comm
theorem Eg:type_of% @List.length_map.{0,0}:=@List.length_map
theorem Ef:type_of% @List.getElem?_append.{0}:=@List.getElem?_append
theorem Ee:type_of% @Option.bind_some.{0,0}:=@Option.bind_some
theorem Ed:type_of% @List.getElem?_cons_succ.{0}:=@List.getElem?_cons_succ
theorem Ec:type_of% @List.cons_append.{0}:=@List.cons_append
theorem Eb:type_of% @List.map_nil.{0,0}:=@List.map_nil
theorem Ea:type_of% @List.drop_eq_getElem_cons.{0}:=@List.drop_eq_getElem_cons
theorem E9:type_of% @List.length_eq_one_iff.{0}:=@List.length_eq_one_iff
theorem E8:type_of% @Bool.true_or:=@Bool.true_or
theorem E7:type_of% @Nat.lt_trichotomy:=@Nat.lt_trichotomy
theorem E6:type_of% @List.map_append.{0,0}:=@List.map_append
theorem E5:type_of% @Nat.lt_succ_iff_lt_or_eq:=@Nat.lt_succ_iff_lt_or_eq
theorem E4:type_of% @Option.isSome_iff_ne_none.{0}:=@Option.isSome_iff_ne_none
theorem HT:type_of% @List.range_succ:=@List.range_succ
theorem HS:type_of% @List.not_mem_nil.{0}:=@List.not_mem_nil
theorem HR:type_of% @List.mem_cons_self.{0}:=@List.mem_cons_self
theorem HQ:type_of% @List.map_take.{0,0}:=@List.map_take
theorem Kj:type_of% @Prod.mk.injEq.{0,0}:=@Prod.mk.injEq
theorem Ki:type_of% @List.mem_of_mem_take.{0}:=@List.mem_of_mem_take
theorem Kh:type_of% @Array.getD_eq_getD_getElem?.{0}:=@Array.getD_eq_getD_getElem?
theorem Kg:type_of% @List.length_cons.{0}:=@List.length_cons
theorem Kf:type_of% @Bool.or_eq_true:=@Bool.or_eq_true
theorem Ke:type_of% @Nat.ne_of_lt:=@Nat.ne_of_lt
theorem Kd:type_of% @List.append_nil.{0}:=@List.append_nil
theorem O9:type_of% @Option.isSome_iff_exists.{0}:=@Option.isSome_iff_exists
theorem O8:type_of% @List.getElem?_take.{0}:=@List.getElem?_take
theorem O7:type_of% @Array.getElem?_setIfInBounds_ne.{0}:=@Array.getElem?_setIfInBounds_ne
theorem O6:type_of% @List.any_eq_true.{0}:=@List.any_eq_true
theorem O5:type_of% @Int.tmod_nonneg:=@Int.tmod_nonneg
theorem O4:type_of% @Int.tmod_lt_of_pos:=@Int.tmod_lt_of_pos
theorem RN:type_of% @Bool.or_eq_false_iff:=@Bool.or_eq_false_iff
theorem RM:type_of% @List.getElem?_eq_none_iff.{0}:=@List.getElem?_eq_none_iff
theorem RL:type_of% @List.dropLast_concat_getLast.{0}:=@List.dropLast_concat_getLast
theorem aI {a b:Prop} (x:a) (y:b):a/\b:=⟨x,y⟩
theorem jI {p0 p1 p2:Prop} (x0:p0) (x1:p1) (y:p2):p0/\p1/\p2:=⟨x0,x1,y⟩
theorem yE {p0 p1 p2 p3:Prop} (x0:p0) (x1:p1) (x2:p2) (y:p3):p0/\p1/\p2/\p3:=⟨x0,x1,x2,y⟩
theorem yS {p0 p1 p2 p3 p4:Prop} (x0:p0) (x1:p1) (x2:p2) (x3:p3) (y:p4):p0/\p1/\p2/\p3/\p4:=⟨x0,x1,x2,x3,y⟩
theorem uD {p0 p1 p2 p3 p4 p5:Prop} (x0:p0) (x1:p1) (x2:p2) (x3:p3) (x4:p4) (y:p5):p0/\p1/\p2/\p3/\p4/\p5:=⟨x0,x1,x2,x3,x4,y⟩
theorem u4 {p0 p1 p2 p3 p4 p5 p6:Prop} (x0:p0) (x1:p1) (x2:p2) (x3:p3) (x4:p4) (x5:p5) (y:p6):p0/\p1/\p2/\p3/\p4/\p5/\p6:=⟨x0,x1,x2,x3,x4,x5,y⟩
theorem kO {p0 p1 p2 p3 p4 p5 p6 p7:Prop} (x0:p0) (x1:p1) (x2:p2) (x3:p3) (x4:p4) (x5:p5) (x6:p6) (y:p7):p0/\p1/\p2/\p3/\p4/\p5/\p6/\p7:=⟨x0,x1,x2,x3,x4,x5,x6,y⟩
theorem bA {p0 p1 p2 p3 p4 p5 p6 p7 p8:Prop} (x0:p0) (x1:p1) (x2:p2) (x3:p3) (x4:p4) (x5:p5) (x6:p6) (x7:p7) (y:p8):p0/\p1/\p2/\p3/\p4/\p5/\p6/\p7/\p8:=⟨x0,x1,x2,x3,x4,x5,x6,x7,y⟩
theorem aJ {p0 p1 p2 p3 p4 p5 p6 p7 p8 p9:Prop} (x0:p0) (x1:p1) (x2:p2) (x3:p3) (x4:p4) (x5:p5) (x6:p6) (x7:p7) (x8:p8) (y:p9):p0/\p1/\p2/\p3/\p4/\p5/\p6/\p7/\p8/\p9:=⟨x0,x1,x2,x3,x4,x5,x6,x7,x8,y⟩
theorem jJ {p0 p1 p2 p3 p4 p5 p6 p7 p8 p9 p10:Prop} (x0:p0) (x1:p1) (x2:p2) (x3:p3) (x4:p4) (x5:p5) (x6:p6) (x7:p7) (x8:p8) (x9:p9) (y:p10):p0/\p1/\p2/\p3/\p4/\p5/\p6/\p7/\p8/\p9/\p10:=⟨x0,x1,x2,x3,x4,x5,x6,x7,x8,x9,y⟩
theorem qU {p0 p1 p2 p3 p4 p5 p6 p7 p8 p9 p10 p11 p12:Prop} (x0:p0) (x1:p1) (x2:p2) (x3:p3) (x4:p4) (x5:p5) (x6:p6) (x7:p7) (x8:p8) (x9:p9) (x10:p10) (x11:p11) (y:p12):p0/\p1/\p2/\p3/\p4/\p5/\p6/\p7/\p8/\p9/\p10/\p11/\p12:=⟨x0,x1,x2,x3,x4,x5,x6,x7,x8,x9,x10,x11,y⟩
theorem sI {α:Type _} {a b:α} (h:some a=some b):a=b:=Option.some.inj h
theorem lB {a b:Nat} (h:Nat.ble a b=true):a<=b:=Nat.le_of_ble_eq_true h
theorem gM {α:Type _} {l:List α} {i:Nat} {a:α} (h:l[i]?=some a):a∈l:=List.mem_of_getElem? h
theorem gS {α:Type _} {l:List α} {i:Nat} {a:α} (h:l[i]?=some a):∃ h:i<l.length,l[i]=a:=List.getElem?_eq_some_iff.1 h
theorem gE {α:Type _} {l:List α} {i:Nat} (h:i<l.length):l[i]?=some l[i]:=List.getElem?_eq_getElem h
theorem gX {α:Type _} {l:List α} {i:Nat} (h:i<l.length):∃ a,l[i]?=some a:=⟨_,gE h⟩
inductive Nm where
 | s (d:Nat)
 | c (n:Nm) (i j:Nat)
 | u (k i j:Nat)
 deriving DecidableEq
def Nm.under (k0:Nm):Nm->Bool
 | .s d=>decide (Nm.s d=k0)
 | .u k i j=>decide (Nm.u k i j=k0)
 | .c q i j=>decide (Nm.c q i j=k0)||Nm.under k0 q
def Nm.Zn (k0 k1:Nm):Nm->Nm
 | .s d=>if Nm.s d=k0 then k1 else .s d
 | .u k i j=>if Nm.u k i j=k0 then k1 else .u k i j
 | .c q i j=>if Nm.c q i j=k0 then k1 else .c (Nm.Zn k0 k1 q) i j
def mv (k0 k1 k:Nm):Option Nm:=if Nm.under k0 k then some (Nm.Zn k0 k1 k) else if Nm.under k1 k then none else some k
def kl (k0 k:Nm):Option Nm:=if Nm.under k0 k then none else some k
inductive AV where
 | sc (v:Value)
 | sl (z:Nat) (rows:List (List AV))
 | el (row:List AV) (off:Nat)
 | hs (n:Nm) (z lo len:Nat)
 | pt (n:Nm) (off:Nat)
 | ep (n:Nm) (z i off:Nat)
 | mp (n:Nm)
 | agg (cs:List AV)
 | tup (cs:List AV)
 | ifc (t:TypeId) (a:AV)
 | fn (f:Fn) (xs ys:List AV)
 | bot
inductive AO where
 | row (z:Nat) (rows:List (List AV))
 | map (es:List (AV×AV))
 | qCG (T:TypeId) (z:Nat) (ex:Bool) (rows:List (List AV))
mutual
def AV.tr (f:Nm->Option Nm):AV->AV
 | .sc v=>.sc v
 | .sl z rows=>.sl z (Oj f rows)
 | .el row off=>.el (trL f row) off
 | .hs n z lo len=>match f n with|some n'=>.hs n' z lo len|none=>.bot
 | .pt n off=>match f n with|some n'=>.pt n' off|none=>.bot
 | .ep n z i off=>match f n with|some n'=>.ep n' z i off|none=>.bot
 | .mp n=>match f n with|some n'=>.mp n'|none=>.bot
 | .agg cs=>.agg (trL f cs)
 | .tup cs=>.tup (trL f cs)
 | .ifc t a=>.ifc t (AV.tr f a)
 | .fn g xs ys=>.fn g (trL f xs) (trL f ys)
 | .bot=>.bot
def trL (f:Nm->Option Nm):List AV->List AV
 | []=>[]
 | a::l=>AV.tr f a::trL f l
def Oj (f:Nm->Option Nm):List (List AV)->List (List AV)
 | []=>[]
 | r::l=>trL f r::Oj f l
end
theorem o8 (f:Nm->Option Nm) (l:List AV):trL f l=l.map (AV.tr f):=by
 induction l<;>grind[trL]
theorem nI (f:Nm->Option Nm) (l:List (List AV)):Oj f l=l.map (λr=>r.map (AV.tr f)):=by
 induction l<;>grind[Oj,o8]
def AO.tr (f:Nm->Option Nm):AO->AO
 | .row z rows=>.row z (rows.map (λr=>r.map (AV.tr f)))
 | .map es=>.map (es.map (λe=>(e.1.tr f,e.2.tr f)))
 | .qCG T z ex rows=>.qCG T z ex (rows.map (λr=>r.map (AV.tr f)))
theorem Nm.Z6 (k:Nm):Nm.under k k=true:=by cases k <;> simp [Nm.under]
theorem Nm.qAK {k0 k1:Nm}:∀ k,Nm.under k0 k=true->Nm.under k1 (Nm.Zn k0 k1 k)=true:=by
 intro k
 induction k<;>grind[under,Zn,Z6]
theorem Nm.qAT {k0 q:Nm} {i j:Nat} (h:Nm.under k0 q=true):Nm.c q i j≠k0:=by
 have size:∀ k:Nm,Nm.under k0 k=true->SizeOf.sizeOf k0<=SizeOf.sizeOf k:=by
  intro k
  induction k<;>grind[under]
 grind
theorem Nm.qCC {k0 k1:Nm}:∀ k k',Nm.under k0 k=true->Nm.under k0 k'=true->Nm.Zn k0 k1 k=Nm.Zn k0 k1 k'->k=k':=by
 have base:∀ k:Nm,k=k0->Nm.Zn k0 k1 k=k1:=by
  intro k e
  cases k <;> simp [Nm.Zn,e]
 have leaf:∀ k k',k=k0->Nm.under k0 k'=true->Nm.Zn k0 k1 k=Nm.Zn k0 k1 k'->k=k':=by
  intro k k' h h' e;rw [base k h] at e
  cases k'<;>grind[under,Zn,qAT,qAK]
 intro k
 induction k with
 | s d=>grind[under]
 | u a b d=>grind[under]
 | c q i j ih =>
  intro k' h h' e;by_cases hq:Nm.c q i j=k0
  .grind
  .by_cases hk':k'=k0
   .grind
   .simp [Nm.under,hq] at h;have e0:Nm.Zn k0 k1 (.c q i j)=.c (Nm.Zn k0 k1 q) i j:=by grind[Zn]
    rw [e0] at e
    cases k'<;>grind[under,Zn]
theorem IP {k0 k1 k k' x:Nm} (h:mv k0 k1 k=some x) (h':mv k0 k1 k'=some x):k=k':=by
 grind[mv,Nm.qCC,Nm.qAK]
theorem NB {k0 k x:Nm} (h:kl k0 k=some x):k=x/\Nm.under k0 x=false:=by
 grind[kl]
theorem NC {k0 k k' x:Nm} (h:kl k0 k=some x) (h':kl k0 k'=some x):k=k':=(NB h).1.trans (NB h').1.symm
theorem ee {α:Type} {r:List α} {off:Nat} {vals:List α} (h:off+vals.length<=r.length) (j:Nat) :
  (r.take off++vals++r.drop (off+vals.length))[j]?=if off<=j/\j<off+vals.length then vals[j - off]? else r[j]?:=by
 simp_all<;>grind
theorem pU (cur:List Value) (o:Nat) (nv:List Value) (h:o+nv.length<=cur.length) (p:Nat) :
  ((cur.take o++nv++cur.drop (o+nv.length)).toArray).getD p undef=if o<=p/\p<o+nv.length then nv.getD (p - o) undef else cur.getD p undef:=by
 simp_all<;>grind
def Zq (P:Program) (T:TypeId):Nat:=((P.info? T).map (·.size)).getD 0
structure Gh where
 C:Nat->Prop
 φ:Nm->Option Nat
 κ:Nm->Nat
inductive RV (g:Gh) (w:World):Value->AV->Prop
 | sc (v:Value):RV g w v (.sc v)
 | slN (ad:Option Addr) (cap:Nat) (z:Nat):RV g w (.slice ad 0 cap) (.sl z [])
 | slC (b off cap n z:Nat) (rows:List (List AV)) (f:Nat->Nat->Value) (hC:g.C b) (hn:rows.length=n) (hcap:n<=cap) (hu:∀ r∈rows,r.length=z)
   (hcell:∀ i j,i<n->j<z->w.cell? ⟨b,off+i * z+j,none⟩=some (f i j))
   (ho:∀ i j,i<n->j<z->(f i j).oneCell'=true)
   (hr:∀ (i:Nat) row,rows[i]?=some row->∀ (j:Nat) a,row[j]?=some a->RV g w (f i j) a):RV g w (.slice (some ⟨b,off,none⟩) n cap) (.sl z rows)
 | el (b o off:Nat) (row:List AV) (f:Nat->Value) (hC:g.C b)
   (hcell:∀ j,j<row.length->w.cell? ⟨b,o+j,none⟩=some (f j))
   (ho:∀ j,j<row.length->(f j).oneCell'=true)
   (hr:∀ (j:Nat) a,row[j]?=some a->RV g w (f j) a):RV g w (.pointer (some ⟨b,o+off,none⟩)) (.el row off)
 | hsN (n:Nm) (z:Nat) (hk:g.φ n=none):RV g w (.slice none 0 0) (.hs n z 0 0)
 | hsB (n:Nm) (z lo len b cap:Nat) (ad:Option Addr) (hk:g.φ n=some b) (h1:len<=cap) (h2:lo+cap=g.κ n) (h3:0<cap->ad=some ⟨b,lo * z,none⟩) :
   RV g w (.slice ad len cap) (.hs n z lo len)
 | pt (n:Nm) (off b:Nat) (hk:g.φ n=some b):RV g w (.pointer (some ⟨b,off,none⟩)) (.pt n off)
 | ep (n:Nm) (z i off b:Nat) (hk:g.φ n=some b):RV g w (.pointer (some ⟨b,i * z+off,none⟩)) (.ep n z i off)
 | mp (n:Nm) (b:Nat) (hk:g.φ n=some b):RV g w (.map (some b)) (.mp n)
 | agg (vs:List Value) (cs:List AV) (hl:vs.length=cs.length) (hr:∀ (j:Nat) v a,vs[j]?=some v->cs[j]?=some a->RV g w v a):RV g w (.agg vs.toArray) (.agg cs)
 | tup (vs:List Value) (cs:List AV) (hl:vs.length=cs.length) (hr:∀ (j:Nat) v a,vs[j]?=some v->cs[j]?=some a->RV g w v a):RV g w (.tuple vs.toArray) (.tup cs)
 | ifc (t:TypeId) (v:Value) (a:AV) (h:RV g w v a):RV g w (.iface t v) (.ifc t a)
 | fn (f:Fn) (vs us:List Value) (xs ys:List AV) (hl:vs.length=xs.length) (hl2:us.length=ys.length) (hr:∀ (j:Nat) v a,vs[j]?=some v->xs[j]?=some a->RV g w v a)
   (hr2:∀ (j:Nat) v a,us[j]?=some v->ys[j]?=some a->RV g w v a):RV g w (.func f vs.toArray us.toArray) (.fn f xs ys)
 | bot (v:Value):RV g w v .bot
theorem RV.tr {g g':Gh} {w w':World} {v:Value} {a:AV} {f:Nm->Option Nm} (h:RV g w v a) (hC:∀ b,g.C b->g'.C b) (hw:∀ b,g.C b->w'.heap[b]?=w.heap[b]?)
  (hf:∀ n n',f n=some n'->g'.φ n'=g.φ n/\g'.κ n'=g.κ n):RV g' w' v (a.tr f):=by
 have cell:∀ (b o:Nat),g.C b->w'.cell? ⟨b,o,none⟩=w.cell? ⟨b,o,none⟩:=by
  grind[World.cell?]
 induction h with
 | sc v=>exact .sc v
 | slN ad cap z=>exact .slN ad cap z
 | slC b off cap n z rows fv hCb hn hcap hu hcell ho _ ih =>
  simp only [AV.tr,nI];refine .slC b off cap n z _ fv (hC b hCb) qH hcap ?_ (λi j hi hj=>qH) ho ?_<;>grind
 | el b o off row fv hCb hcell ho _ ih =>
  simp only [AV.tr,o8];refine .el b o off _ fv (hC b hCb) (λj hj=>qH) (λj hj=>ho j qH) ?_
  simp_all
 | hsN n z hk =>
  simp only [AV.tr]
  cases e:f n with
  | none=>exact .bot _
  | some n'=>constructor<;>grind
 | hsB n z lo len b cap ad hk h1 h2 h3 =>
  simp only [AV.tr]
  cases e:f n with
  | none=>exact .bot _
  | some n'=>exact .hsB n' z lo len b cap ad ((hf n n' e).1.trans hk) h1 (h2.trans (hf n n' e).2.symm) h3
 | pt n off b hk =>
  simp only [AV.tr]
  cases e:f n with
  | none=>exact .bot _
  | some n'=>constructor<;>grind
 | ep n z i off b hk =>
  simp only [AV.tr]
  cases e:f n with
  | none=>exact .bot _
  | some n'=>constructor<;>grind
 | mp n b hk =>
  simp only [AV.tr]
  cases e:f n with
  | none=>exact .bot _
  | some n'=>constructor<;>grind
 | agg vs cs hl _ ih =>
  constructor<;>grind[o8]
 | tup vs cs hl _ ih =>
  constructor<;>grind[o8]
 | ifc t v a _ ih=>exact .ifc t v _ ih
 | fn fv vs us xs ys hl hl2 _ _ ih ih2 =>
  constructor<;>grind[o8]
 | bot v=>exact .bot v
theorem AV.Zr (a:AV):a.tr some=a:=by
 refine AV.rec (motive_1:=λa=>a.tr some=a) (motive_2:=λl=>Oj some l=l) (motive_3:=λl=>trL some l=l) ?_ ?_ ?_ ?_ ?_ ?_ ?_ ?_ ?_ ?_ ?_ ?_ ?_ ?_ ?_ ?_ a<;>grind[tr,trL,Oj]
theorem AO.Zr (o:AO):o.tr some=o:=by
 cases o with
 | row z rows =>
  have:(λr:List AV=>r.map (AV.tr some))=id:=by
   funext r
   have e:AV.tr some=id:=by grind[AV.Zr]
   rw [e];simp
  simp_all[tr]
 | map es=>simp [AO.tr,AV.Zr]
 | qCG T z ex rows =>
  have:(λr:List AV=>r.map (AV.tr some))=id:=by
   funext r
   have e:AV.tr some=id:=by grind[AV.Zr]
   rw [e];simp
  simp_all[tr]
theorem RV.same {g g':Gh} {w w':World} {v:Value} {a:AV} (h:RV g w v a) (hC:∀ b,g.C b->g'.C b) (hw:∀ b,g.C b->w'.heap[b]?=w.heap[b]?)
  (hf:∀ n,g'.φ n=g.φ n/\g'.κ n=g.κ n):RV g' w' v a:=by
 have:=h.tr (f:=some) hC hw (λn n' e=>qH)
 grind[AV.Zr]
def Of (g:Gh) (w:World) (b cap z:Nat) (rows:List (List AV)):Prop :=
 ∃ (cur:Array Value) (T:TypeId),w.heap[b]?=some (.cells cur T (0,0))/\cur.size=cap * z/\cap<=maxLen/\rows.length<=cap/\(∀ r∈rows,r.length=z) /\
  (∀ j,j<rows.length * z->(cur.getD j undef).oneCell'=true)/\∀ (i:Nat) row,rows[i]?=some row->∀ (j:Nat) a,row[j]?=some a->RV g w (cur.getD (i * z+j) undef) a
def SC (g:Gh) (w:World) (b cap:Nat) (T:TypeId) (z:Nat) (rows:List (List AV)):Prop :=
 ∃ (cur:Array Value),w.heap[b]?=some (.cells cur T (0,0))/\cur.size=cap * z/\cap<=maxLen/\rows.length<=cap/\(∀ r∈rows,r.length=z) /\
  (∀ j,j<rows.length * z->(cur.getD j undef).oneCell'=true)/\∀ (i:Nat) row,rows[i]?=some row->∀ (j:Nat) a,row[j]?=some a->RV g w (cur.getD (i * z+j) undef) a
def UK (g:Gh) (w:World) (b:Nat) (es:List (AV×AV)):Prop :=
 ∃ (ms:List MapEntry) (clock:Nat),w.heap[b]?=some (.map ms.toArray clock)/\MapKept.Stamped ms.toArray clock/\ms.length=es.length/\∀ (i:Nat) m e,ms[i]?=some m->es[i]?=some e->RV g w m.key e.1/\RV g w m.val e.2
def OAt (g:Gh) (w:World) (n:Nm):AO->Prop
 | .row z rows=>match g.φ n with|some b=>Of g w b (g.κ n) z rows|none=>rows=[]
 | .map es=>match g.φ n with|some b=>UK g w b es|none=>False
 | .qCG T z ex rows=>match g.φ n with|some b=>SC g w b (g.κ n) T z rows/\(ex=true->g.κ n=rows.length)/\(ex=false->0<g.κ n)|none=>rows=[]
theorem OAt.tr {g g':Gh} {w w':World} {n n':Nm} {o:AO} {f:Nm->Option Nm} (h:OAt g w n o) (hC:∀ b,g.C b->g'.C b) (hw:∀ b,g.C b->w'.heap[b]?=w.heap[b]?)
  (hf:∀ n n',f n=some n'->g'.φ n'=g.φ n/\g'.κ n'=g.κ n) (hn:f n=some n') (hb:∀ b,g.φ n=some b->w'.heap[b]?=w.heap[b]?):OAt g' w' n' (o.tr f):=by
 obtain⟨e1,e2⟩:=hf n n' hn
 cases o with
 | row z rows =>
  simp only [OAt,AO.tr,e1,e2] at h ⊢
  cases e:g.φ n with
  | none=>simp_all
  | some b =>
   rw [e] at h;obtain⟨cur,T,h1,h2,h3,h4,h5,h6,h7⟩:=h;refine⟨cur,T,(hb b e).trans h1,h2,h3,qH,?_,qH,?_⟩
   .simp_all
   .intro i row hrow j a ha;rw [kx] at hrow;obtain⟨r0,h0,rfl⟩:=ku.1 hrow;rw [kx] at ha;obtain⟨a0,ha0,rfl⟩:=ku.1 ha;exact (h7 i r0 h0 j a0 ha0).tr hC hw hf
 | map es =>
  simp only [OAt,AO.tr,e1] at h ⊢
  cases e:g.φ n with
  | none=>simp_all
  | some b =>
   rw [e] at h;obtain⟨ms,clock,h1,hst,h2,h3⟩:=h;refine⟨ms,clock,(hb b e).trans h1,hst,qH,λi m en hm he=>?_⟩;rw [kx] at he;obtain⟨e0,he0,rfl⟩:=ku.1 he;obtain⟨r1,r2⟩:=h3 i m e0 hm he0;exact⟨r1.tr hC hw hf,r2.tr hC hw hf⟩
 | qCG T z ex rows =>
  simp only [OAt,AO.tr,e1,e2] at h ⊢
  cases e:g.φ n with
  | none=>simp_all
  | some b =>
   rw [e] at h;obtain⟨⟨cur,h1,h2,h3,h4,h5,h6,h7⟩,h8⟩:=h;refine⟨⟨cur,(hb b e).trans h1,h2,h3,qH,?_,qH,?_⟩,λhe=>qH,h8.2⟩
   .simp_all
   .intro i row hrow j a ha;rw [kx] at hrow;obtain⟨r0,h0,rfl⟩:=ku.1 hrow;rw [kx] at ha;obtain⟨a0,ha0,rfl⟩:=ku.1 ha;exact (h7 i r0 h0 j a0 ha0).tr hC hw hf
structure Inv (own:Nat->Prop) (C:Nat->Prop) (w0:World) (g:Gh) (hp:Nm->Option AO) (w:World):Prop where
 os:w.os=w0.os
 tape:w.tape=w0.tape
 output:w.output=w0.output
 size:w0.heap.size<=w.heap.size
 qB7:∀ b,b<w0.heap.size->¬ own b->w.heap[b]?=w0.heap[b]?
 hC:g.C=C
 clt:∀ b,C b->b<w.heap.size
 obj:∀ n o,hp n=some o->OAt g w n o
 Z1:∀ n o b,hp n=some o->g.φ n=some b->¬ C b/\(w0.heap.size<=b\/own b)/\b<w.heap.size
 inj:∀ n n' o o' b,hp n=some o->hp n'=some o'->g.φ n=some b->g.φ n'=some b->n=n'
structure St where
 tm:Nat->AV
 hp:Nm->Option AO
 n:Nat
 gl:Nat->Option (List AV)
def Exw (w:World) (i:Nat) (row:List AV):Prop:=∀ zs:List Int,zs≠[]->row=zs.map (λz=>.sc (.int .u64 z))->∃ T b,w.heap[i]?=some (.cells (zs.map λz=>Value.int .u64 z).toArray T b)
theorem Exw.same {g:Gh} {w w':World} {i:Nat} {row:List AV} (h:Exw w i row) (hv:RV g w (.pointer (some ⟨i,0,none⟩)) (.el row 0)) (hw:∀ b,g.C b->w'.heap[b]?=w.heap[b]?):Exw w' i row:=by
 intro zs h1 h2
 have hC:g.C i:=by
  generalize hp:Value.pointer (some ⟨i,0,none⟩)=p at hv
  cases hv<;>grind
 grind[Exw]
structure Rg (P:Program) (own:Nat->Prop) (C:Nat->Prop) (w0:World) (g:Gh) (st:St) (a:Act) (w:World):Prop where
 inv:Inv own C w0 g st.hp w
 defers:a.defers=[]
 size:a.tmps.size=st.n
 qBr:∀ t,RV g w (a.tmps.getD t undef) (st.tm t)
 Zg:∀ i row,st.gl i=some row->(RV g w (.pointer (some ⟨i,0,none⟩)) (.el row 0)/\Exw w i row)/\∀ f:Nm->Option Nm,row.map (AV.tr f)=row
def Ust (g g':Gh):Prop:=∀ k i j,g'.φ (.u k i j)=g.φ (.u k i j)/\g'.κ (.u k i j)=g.κ (.u k i j)
theorem Ust.refl (g:Gh):Ust g g:=λ_ _ _=>⟨rfl,rfl⟩
theorem Ust.trans {g g' g'':Gh} (h:Ust g g') (h':Ust g' g''):Ust g g'':=λk i j=>⟨(h' k i j).1.trans (h k i j).1,(h' k i j).2.trans (h k i j).2⟩
def Nm.isU:Nm->Bool
 | .u _ _ _=>true
 | _=>false
theorem FH {n:Nm} {k i j:Nat} (h:n.isU=false):Nm.under n (.u k i j)=false:=by
 grind[Nm.isU,Nm.under]
def Rel (P:Program) (own:Nat->Prop) (C:Nat->Prop) (w0:World) (g0:Gh) (st:St) (a:Act) (w:World):Prop:=∃ g,Ust g0 g/\Rg P own C w0 g st a w
def St.nm (f:Nm->Option Nm) (hp:Nm->Option AO) (st:St):St:={ tm:=λt=>(st.tm t).tr f,hp:=hp,n:=st.n,gl:=st.gl }
def hkl (n:Nm) (hp:Nm->Option AO):Nm->Option AO:=λm=>if Nm.under n m then none else (hp m).map (AO.tr (kl n))
def hmv (n0 n1:Nm) (hp:Nm->Option AO):Nm->Option AO:=λm =>
 if Nm.under n1 m then (if mv n0 n1 (Nm.Zn n1 n0 m)=some m then (hp (Nm.Zn n1 n0 m)).map (AO.tr (mv n0 n1)) else none) else if Nm.under n0 m then none else (hp m).map (AO.tr (mv n0 n1))
def St.kill (n:Nm) (st:St):St:=st.nm (kl n) (hkl n st.hp)
def St.move (n0 n1:Nm) (st:St):St:=st.nm (mv n0 n1) (hmv n0 n1 st.hp)
def St.put (st:St) (d:Option Nat) (a:AV):St :=
 match d with
 | some d=>{ tm:=λt=>if t=d then a else st.tm t,hp:=st.hp,n:=st.n,gl:=st.gl }
 | none=>st
def St.Zp (st:St) (n:Nm) (o:AO):St:={ tm:=st.tm,hp:=λm=>if m=n then some o else st.hp m,n:=st.n,gl:=st.gl }
section
variable {P:Program} {own:Nat->Prop} {C:Nat->Prop} {w0:World} {g:Gh} {st:St} {a:Act} {w:World}
theorem Rg.rv (h:Rg P own C w0 g st a w) {g':Gh} {w':World} {f:Nm->Option Nm} (gC:g'.C=g.C) (hw:∀ b,C b->w'.heap[b]?=w.heap[b]?)
  (gf:∀ n n',f n=some n'->g'.φ n'=g.φ n/\g'.κ n'=g.κ n) {v:Value} {x:AV} (hv:RV g w v x):RV g' w' v (x.tr f) :=
 hv.tr (λb hb=>qH) (λb hb=>hw b (h.inv.hC ▸ hb)) gf
theorem Rg.step (h:Rg P own C w0 g st a w) {g':Gh} {w':World} {f:Nm->Option Nm} {hp':Nm->Option AO}
  (gC:g'.C=g.C) (gf:∀ n n',f n=some n'->g'.φ n'=g.φ n/\g'.κ n'=g.κ n)
  (h1:w'.os=w.os) (h2:w'.tape=w.tape) (h3:w'.output=w.output) (h4:w.heap.size<=w'.heap.size)
  (hw:∀ b,C b->w'.heap[b]?=w.heap[b]?) (hkeep:∀ b,b<w0.heap.size->¬ own b->w'.heap[b]?=w.heap[b]?)
  (hobj:∀ n' o',hp' n'=some o' ->
    (∃ n o,f n=some n'/\st.hp n=some o/\o'=o.tr f/\∀ b,g.φ n=some b->w'.heap[b]?=w.heap[b]?) \/
    (OAt g' w' n' o'/\∀ b,g'.φ n'=some b->(¬ C b/\(w0.heap.size<=b\/own b)/\b<w'.heap.size)/\∀ n'' o'',hp' n''=some o''->g'.φ n''=some b->n''=n')) :
  Rg P own C w0 g' (st.nm f hp') a w':=by
 obtain⟨i,hd,hs,hsl,hgl⟩:=h;have h0:Rg P own C w0 g st a w:=⟨i,hd,hs,hsl,hgl⟩;have hwg:∀ b,g.C b->w'.heap[b]?=w.heap[b]?:=λb hb=>hw b (i.hC ▸ hb);have gCf:∀ b,g.C b->g'.C b:=λb hb=>qH
 have old:∀ n' o' b,hp' n'=some o'->g'.φ n'=some b ->
   (∃ n o,f n=some n'/\st.hp n=some o/\g.φ n=some b)\/((¬ C b/\(w0.heap.size<=b\/own b)/\b<w'.heap.size)/\∀ n'' o'',hp' n''=some o''->g'.φ n''=some b->n''=n'):=by
  grind
 refine⟨⟨h1.trans i.os,h2.trans i.tape,h3.trans i.output,vk i.size h4,λb hb ho=>(hkeep b hb ho).trans (i.qB7 b hb ho),gC.trans i.hC,λb hb=>aR (i.clt b hb) h4,?_,?_,?_⟩,
  hd,hs,λt=>h0.rv gC hw gf (hsl t),λj row e=>⟨?_,(hgl j row e).2⟩⟩
 .intro n' o' hn';rcases hobj n' o' hn' with⟨n,o,e1,e2,rfl,e4⟩|⟨e,_⟩
  .exact (i.obj n o e2).tr gCf hwg gf e1 e4
  .exact e
 .intro n' o' b hn' hb;rcases old n' o' b hn' hb with⟨n,o,_,e2,e3⟩|⟨e,_⟩
  .obtain⟨x1,x2,x3⟩:=i.Z1 n o b e2 e3
   grind
  .exact e
 .intro n1 n2 o1 o2 b hn1 hn2 hb1 hb2;rcases old n1 o1 b hn1 hb1 with⟨m1,p1,e1,e2,e3⟩|⟨_,e⟩
  .rcases old n2 o2 b hn2 hb2 with⟨m2,p2,f1,f2,f3⟩|⟨_,e'⟩
   .have:=i.inj m1 m2 p1 p2 b e2 f2 e3 f3
    simp_all
   .exact e' n1 o1 hn1 hb1
  .exact (e n2 o2 hn2 hb2).symm
 .refine⟨?_,(hgl j row e).1.2.same (hgl j row e).1.1 hwg⟩;have:=h0.rv gC hw gf (hgl j row e).1.1
  simpa only [AV.tr,o8,(hgl j row e).2 f] using this
noncomputable def Gh.tr (f:Nm->Option Nm) (g:Gh):Gh :=
 { C:=g.C,φ:=λx=>open Classical in if h:∃ k,f k=some x then g.φ h.choose else none,κ:=λx=>open Classical in if h:∃ k,f k=some x then g.κ h.choose else 0 }
theorem Gh.qAf {f:Nm->Option Nm} (hf:∀ k k' x,f k=some x->f k'=some x->k=k') {k k':Nm} (h:f k=some k'):(g.tr f).φ k'=g.φ k/\(g.tr f).κ k'=g.κ k:=by
 have he:∃ k,f k=some k':=⟨k,h⟩
 grind[tr]
theorem Ust.kl {n:Nm} (h:n.isU=false):Ust g (g.tr (kl n)):=λk i j=>by
 grind[Hm.kl,FH,Gh.qAf]
theorem Ust.mv {n0 n1:Nm} (h:n0.isU=false) (h':n1.isU=false):Ust g (g.tr (mv n0 n1)):=λk i j=>by
 grind[Hm.mv,FH,Gh.qAf,IP]
theorem Rg.rename (h:Rg P own C w0 g st a w) {f:Nm->Option Nm} {hp':Nm->Option AO} (hf:∀ k k' x,f k=some x->f k'=some x->k=k')
  (hobj:∀ n' o',hp' n'=some o'->∃ n o,f n=some n'/\st.hp n=some o/\o'=o.tr f):Rg P own C w0 (g.tr f) (st.nm f hp') a w :=
 h.step rfl (λ_ _ e=>Gh.qAf hf e) rfl rfl rfl (qf _) (λ_ _=>rfl) (λ_ _ _=>rfl) (λn' o' e=>by
  simp_all)
theorem sV {n:Nm} {hp:Nm->Option AO} {n':Nm} {o':AO} (e:hkl n hp n'=some o'):∃ o,kl n n'=some n'/\hp n'=some o/\o'=o.tr (kl n):=by
 grind[hkl,ku,kl]
theorem Rg.move (h:Rg P own C w0 g st a w) (n0 n1:Nm):Rg P own C w0 (g.tr (mv n0 n1)) (st.move n0 n1) a w :=
 h.rename (λ_ _ _=>IP) (λn' o' e=>by
  grind[hmv,ku,mv])
theorem kG {n m:Nm} (h:Nm.under n m=true):(g.tr (kl n)).φ m=none:=by
 grind[Gh.tr,kl]
theorem Rg.put {d:Option Nat} {v:Value} {x:AV} (h:Rg P own C w0 g st a w) (hd:∀ t,d=some t->t<st.n) (hv:RV g w v x):Rg P own C w0 g (st.put d x) (a.put d v) w:=by
 cases d with
 | none=>exact h
 | some d =>
  obtain⟨i,hdf,hs,hsl,hgl⟩:=h;refine⟨i,hdf,by grind[Act.put,St.put],λt=>?_,hgl⟩
  simp_all<;>grind[Act.put,St.put]
theorem Rg.weaken (h:Rg P own C w0 g st a w) (hp':Nm->Option AO) (sub:∀ m o,hp' m=some o->st.hp m=some o):Rg P own C w0 g { tm:=st.tm,hp:=hp',n:=st.n,gl:=st.gl } a w:=by
 obtain⟨i,hd,hs,hsl,hgl⟩:=h;exact⟨⟨i.os,i.tape,i.output,i.size,i.qB7,i.hC,i.clt,λm o e=>i.obj m o (sub m o e),λm o b e=>i.Z1 m o b (sub m o e),λm m' o o' b e e'=>i.inj m m' o o' b (sub m o e) (sub m' o' e')⟩,hd,hs,hsl,hgl⟩
theorem Rg.qEO (h:Rg P own C w0 g st a w) (n:Nm) (z:Nat):∃ g',Rg P own C w0 g' ((st.kill n).Zp n (.row z [])) a w/\RV g' w (.slice none 0 0) (.hs n z 0 0)/\(n.isU=false->Ust g g')/\∀ v x,RV g w v x->RV g' w v (x.tr (kl n)):=by
 have gf:∀ k k',kl n k=some k'->(g.tr (kl n)).φ k'=g.φ k/\(g.tr (kl n)).κ k'=g.κ k:=λ_ _ e=>Gh.qAf (λ_ _ _=>NC) e
 have hs:=h.step (g':=g.tr (kl n)) (w':=w) (f:=kl n) (hp':=((st.kill n).Zp n (.row z [])).hp) rfl gf rfl rfl rfl (qf _) (λ_ _=>rfl) (λ_ _ _=>rfl) (λn' o' e=>by
  simp only [St.Zp] at e
  split at e
  .grind[OAt,kG,Nm.Z6]
  .obtain⟨o,e1,e2,e3⟩:=sV e
   grind)
 exact⟨_,hs,.hsN n z (kG (Nm.Z6 n)),λhu=>.kl hu,λv x hx=>h.rv (g':=g.tr (kl n)) rfl (λ_ _=>rfl) gf hx⟩
end
end Go.Hm
end
section
namespace Go.Hm
open Go Go.RowKit
def ky (P:Program) (T:TypeId):Option Bool :=
 if (P.info? T).isSome then
  match P.underlying T with
  | some (.struct _)=>some true
  | some (.array _ _)=>some true
  | some _=>some false
  | none=>none
 else none
def tel (P:Program) (T:TypeId):Option TypeId :=
 match P.underlying T with
 | some (.slice e)=>if (P.info? e).isSome then some e else none
 | _=>none
def Kn (P:Program) (T:TypeId):Option (Nat×TypeId) :=
 match P.underlying T with
 | some (.array n e)=>if (P.info? e).isSome then some (n,e) else none
 | _=>none
def Zu (P:Program) (T:TypeId) (f:Nat):Option (Nat×TypeId) :=
 match P.underlying T with
 | some (.struct fs)=>match fs[f]? with
  | some fd=>if Zq P fd.type=0 then none else some (fd.offset,fd.type)
  | none=>none
 | _=>none
def yb (P:Program) (T:TypeId):Option (List Value):=((P.info? T).bind (·.zero)).map (λz=>z.cells.toList)
theorem mH {P:Program} {w:World} {T:TypeId} (h:(P.info? T).isSome):(sizeOf T).run P w=.ok (Zq P T) w:=by
 obtain⟨i,hi⟩:=O9.1 h;simp [sizeOf,typeInfo,hi,Zq]
theorem jD {P:Program} {w:World} {T:TypeId} {d:TypeDesc} (h:P.underlying T=some d):(underlying T).run P w=.ok d w:=by
 simp [underlying,h]
theorem BV {P:Program} {T:TypeId} (h:Zq P T≠0):(P.info? T).isSome:=by
 unfold Zq at h
 cases hi:P.info? T<;>grind
theorem au {P:Program} {w:World} {T:TypeId} {t:Bool} (h:ky P T=some t):(isAgg T).run P w=.ok t w:=by
 unfold ky at h
 split at h
 .cases hu:P.underlying T with
  | none=>simp_all
  | some d=>cases d <;> simp [hu] at h <;> simp [isAgg,underlying,hu,h]
 .cases h
theorem ot {P:Program} {T:TypeId} {t:Bool} (h:ky P T=some t):(P.info? T).isSome:=by
 grind[ky]
def AV.one:AV->Bool
 | .sc v=>v.oneCell'
 | .agg _=>false
 | .tup _=>false
 | .bot=>false
 | _=>true
def AV.cells:AV->Option (List AV)
 | .agg cs=>if cs.all AV.one then some cs else none
 | a=>if a.one then some [a] else none
def I7 (P:Program) (T:TypeId) (cs:List AV) (off:Nat):Option AV :=
 match ky P T with
 | some true=>if off+Zq P T<=cs.length then some (.agg ((cs.drop off).take (Zq P T))) else none
 | some false=>cs[off]?
 | none=>none
theorem EN {v:Value} (h:v.oneCell'=true):v.cells=#[v]:=by
 cases v <;> first|rfl|grind[Value.oneCell']
section
variable {P:Program} {own:Nat->Prop} {C:Nat->Prop} {w0:World} {g:Gh} {st:St} {a:Act} {w:World}
theorem RV.Zo {v u:Value} (h:RV g w v (.sc u)):v=u:=by
 cases h;rfl
theorem dW {v:Value} {cs:List AV} (h:RV g w v (.agg cs)):∃ vs:List Value,v=.agg vs.toArray/\vs.length=cs.length/\∀ (j:Nat) y,cs[j]?=some y->∃ u,vs[j]?=some u/\RV g w u y:=by
 cases h with
 | agg vs cs hl hr =>
  refine⟨vs,rfl,hl,λj y hy=>?_⟩;have hlt:j<vs.length:=qj;exact⟨_,gE hlt,hr j _ y (gE hlt) hy⟩
theorem LN {v:Value} {cs:List AV} (h:RV g w v (.tup cs)):∃ vs:List Value,v=.tuple vs.toArray/\vs.length=cs.length/\∀ (j:Nat) y,cs[j]?=some y->∃ u,vs[j]?=some u/\RV g w u y:=by
 cases h with
 | tup vs cs hl hr =>
  refine⟨vs,rfl,hl,λj y hy=>?_⟩;have hlt:j<vs.length:=qj;exact⟨_,gE hlt,hr j _ y (gE hlt) hy⟩
theorem RV.qCx {v:Value} {x:AV} (h:RV g w v x) (ho:x.one=true):v.oneCell'=true:=by
 cases h <;> first|rfl|exact ho|grind[AV.one]
theorem RV.cells {v:Value} {x:AV} {cs:List AV} (h:RV g w v x) (hc:x.cells=some cs) :
  v.cells.toList.length=cs.length/\(∀ u∈v.cells.toList,u.oneCell'=true)/\∀ (j:Nat) u y,v.cells.toList[j]?=some u->cs[j]?=some y->RV g w u y:=by
 by_cases hx:∃ ds,x=.agg ds
 .obtain⟨ds,rfl⟩:=hx;simp only [AV.cells] at hc
  split at hc
  .rename_i hall;obtain rfl:=sI hc;have hone:∀ y∈ds,y.one=true:=λy hy=>dT.1 hall y hy
   cases h with
   | agg vs cs hl hr =>
    refine⟨by grind[Value.cells],?_,λj u y hu hy=>hr j u y (by grind[Value.cells]) hy⟩;intro u hu;simp only [Value.cells] at hu;obtain⟨j,hj⟩:=eW hu;have hlt:j<ds.length:=qj;exact (hr j u _ hj (gE hlt)).qCx (hone _ (List.getElem_mem hlt))
  .cases hc
 .have hc':(if x.one then some [x] else none)=some cs:=by
   cases x <;> first|exact hc|simp_all
  split at hc'
  .rename_i ho;obtain rfl:=sI hc';have h1:=h.qCx ho
   grind[EN]
  grind
theorem Hz {T:TypeId} {cs:List AV} {off:Nat} {x:AV} {b o:Nat} {f:Nat->Value} (hq:I7 P T cs off=some x)
  (hcell:∀ j,j<cs.length->w.cell? ⟨b,o+j,none⟩=some (f j)) (hr:∀ (j:Nat) y,cs[j]?=some y->RV g w (f j) y) :
  ∃ v,(loadVar T ⟨b,o+off,none⟩).run P w=.ok v w/\RV g w v x:=by
 unfold I7 at hq
 split at hq
 .rename_i hagg
  split at hq
  .rename_i hle;obtain rfl:=sI hq;have hl:=run_loadCells (P:=P) (w:=w) ⟨b,o+off,none⟩ (Zq P T) (λj=>f (off+j)) (λj hj=>by grind[Addr.add_lit]);refine⟨.agg ((List.range (Zq P T)).map (λj=>f (off+j))).toArray,?_,?_⟩
   .simp_all[loadVar,au,mH,ot]
   constructor<;>grind
  .cases hq
 .rename_i hagg;have hlt:off<cs.length:=(gS hq).1
  simp_all[loadVar,au]
 .cases hq
def ev (st:St):Operand->AV
 | .tmp t=>st.tm t
 | .const v=>.sc v
 | .global i=>match st.gl i with|some row=>.el row 0|none=>.bot
 | .func f=>.sc (.func (.func f) #[] #[])
theorem Rg.ev (h:Rg P own C w0 g st a w) (x:Operand):RV g w (a.eval x) (ev st x):=by
 cases x with
 | tmp t=>exact h.qBr t
 | const v=>exact .sc v
 | global i =>
  simp only [Hm.ev,Act.eval]
  split
  .rename_i row hrow;exact (h.Zg i row hrow).1.1
  .exact .bot _
 | func f=>exact .sc _
def qAP (st:St):AV->Option (List AV×Nat)
 | .pt n off=>match st.hp n with
  | some (.row _ (r::_))=>some (r,off)
  | _=>none
 | .el row off=>some (row,off)
 | .ep n z i off=>match st.hp n with
  | some (.row z' rows)=>if z'=z then (rows[i]?).map (λr=>(r,off)) else none
  | _=>none
 | _=>none
theorem Inv.rowAt {own:Nat->Prop} {C:Nat->Prop} {w0:World} {g:Gh} {hp:Nm->Option AO} {w:World} (h:Inv own C w0 g hp w) {n:Nm} {b z i:Nat} {rows:List (List AV)} {row:List AV} (hn:hp n=some (.row z rows)) (hk:g.φ n=some b) (hi:rows[i]?=some row) :
  ∃ f:Nat->Value,(∀ j,j<row.length->w.cell? ⟨b,i * z+j,none⟩=some (f j))/\(∀ j,j<row.length->(f j).oneCell'=true)/\∀ (j:Nat) y,row[j]?=some y->RV g w (f j) y:=by
 have ho:=h.obj n _ hn;simp only [OAt,hk] at ho;obtain⟨cur,T,h1,h2,h3,h4,h5,h6,h7⟩:=ho;have hlen:row.length=z:=h5 row (gM hi);have hlt:i<rows.length:=(gS hi).1
 have hin:∀ j,j<row.length->i * z+j<rows.length * z:=by
  intro j hj;have:(i+1) * z<=rows.length * z:=gk _ hlt
  grind
 have hcur:∀ j,j<row.length->i * z+j<cur.size:=by
  grind[Value.oneCell',undef]
 refine⟨λj=>cur.getD (i * z+j) undef,?_,λj hj=>h6 _ (hin j hj),λj y hy=>h7 i row hi j y hy⟩
 simp_all<;>grind[cell_of_row]
theorem Rg.qAP (h:Rg P own C w0 g st a w) {v:Value} {x:AV} {cs:List AV} {off:Nat} (hv:RV g w v x) (hq:qAP st x=some (cs,off)) :
  ∃ (b o:Nat) (f:Nat->Value),v=.pointer (some ⟨b,o+off,none⟩)/\(∀ j,j<cs.length->w.cell? ⟨b,o+j,none⟩=some (f j))/\(∀ j,j<cs.length->(f j).oneCell'=true)/\∀ (j:Nat) y,cs[j]?=some y->RV g w (f j) y:=by
 cases x with
 | pt n o =>
  simp only [Hm.qAP] at hq
  split at hq
  .rename_i z r rest hn;obtain⟨rfl,rfl⟩:=xF (sI hq)
   cases hv with
   | pt _ _ b hk =>
    obtain⟨f,f1,f2,f3⟩:=h.inv.rowAt hn hk (i:=0) rfl;exact⟨b,0,f,qB,λj hj=>qH,f2,f3⟩
  .cases hq
 | el row o =>
  simp only [Hm.qAP] at hq;obtain⟨rfl,rfl⟩:=xF (sI hq)
  cases hv with
  | el b o' off row f hC hcell ho hr=>exact⟨b,o',f,rfl,hcell,ho,λj y hy=>hr j y hy⟩
 | ep n z i o =>
  simp only [Hm.qAP] at hq
  split at hq
  .rename_i z' rows hn
   split at hq
   .rename_i hz;subst hz;obtain⟨r,hr0,e⟩:=ku.1 hq;obtain⟨rfl,rfl⟩:=xF e
    cases hv with
    | ep _ _ _ _ b hk =>
     obtain⟨f,f1,f2,f3⟩:=h.inv.rowAt hn hk hr0;exact⟨b,i * z' ,f,rfl,f1,f2,f3⟩
   .cases hq
  .cases hq
 | _=>simp [Hm.qAP] at hq
theorem F3 {T:TypeId} {x:Operand} {y z:AV} {cs:List AV} {off:Nat} (h:Rg P own C w0 g st a w) (hy:ev st x=y) (h1:qAP st y=some (cs,off)) (h2:I7 P T cs off=some z) :
  ∃ v,(Instr.loadAt T (a.eval x)).run P w=.ok v w/\RV g w v z:=by
 have hv:=h.ev x;rw [hy] at hv;obtain⟨b,o,f,e,hcell,_,hr⟩:=h.qAP hv h1;obtain⟨v,hrun,hrv⟩:=Hz h2 hcell hr
 grind[Instr.loadAt,Instr.sureAddr]
def lR (P:Program) (T:TypeId) (f:Nat):AV->Option AV
 | .pt n off=>(Zu P T f).map (λp=>.pt n (off+p.1))
 | .el row off=>(Zu P T f).map (λp=>.el row (off+p.1))
 | .ep n z i off=>(Zu P T f).map (λp=>.ep n z i (off+p.1))
 | _=>none
theorem aN {T:TypeId} {f:Nat} {o:Nat} {e:TypeId} {b p:Nat} (ht:Zu P T f=some (o,e)):(Instr.fieldAt T (.pointer (some ⟨b,p,none⟩)) f).run P w=.ok (.pointer (some ⟨b,p+o,none⟩)) w:=by
 unfold Zu at ht
 split at ht
 .rename_i fs hu
  split at ht
  .rename_i fd hfd
   split at ht
   .cases ht
   .rename_i hz;obtain⟨rfl,rfl⟩:=xF (sI ht)
    simp_all[Instr.fieldAt,Instr.sureAddr,fieldPlace,Addr.add_lit,jD,mH,BV]
  .cases ht
 .cases ht
theorem DP {T:TypeId} {f:Nat} {v:Value} {y z:AV} (hv:RV g w v y) (h1:lR P T f y=some z):∃ v',(Instr.fieldAt T v f).run P w=.ok v' w/\RV g w v' z:=by
 cases y with
 | pt n off =>
  obtain⟨⟨o,e⟩,ht,rfl⟩:=ku.1 h1
  cases hv with
  | pt _ _ b hk=>exact⟨_,aN ht,.pt n (off+o) b hk⟩
 | el row off =>
  obtain⟨⟨o,e⟩,ht,rfl⟩:=ku.1 h1
  cases hv with
  | el b o' off row f hC hcell ho hr=>exact⟨_,aN ht,by rw [nA];exact .el b o' (off+o) row f hC hcell ho hr⟩
 | ep n z i off =>
  obtain⟨⟨o,e⟩,ht,rfl⟩:=ku.1 h1
  cases hv with
  | ep _ _ _ _ b hk=>exact⟨_,aN ht,by rw [nA];constructor<;>grind⟩
 | _=>simp [lR] at h1
def sR (P:Program) (T:TypeId) (x:AV) (n:Int):Option AV :=
 match tel P T with
 | some e=>match x with
  | .sl z rows=>if z=Zq P e/\0<=n then (rows[n.toNat]?).map (λr=>.el r 0) else none
  | .hs m z lo len=>if z=Zq P e/\0<=n/\n<len then some (.ep m z (lo+n.toNat) 0) else none
  | _=>none
 | none=>match Kn P T with
  | some (len,e)=>if 0<=n/\n<len then (match x with
   | .pt m off=>some (.pt m (off+n.toNat * Zq P e))
   | .el row off=>some (.el row (off+n.toNat * Zq P e))
   | .ep m z i off=>some (.ep m z i (off+n.toNat * Zq P e))
   | _=>none) else none
  | none=>none
theorem Hl {T e:TypeId} (h:tel P T=some e):P.underlying T=some (.slice e)/\(P.info? e).isSome:=by
 grind[tel]
theorem Cr {T e:TypeId} {n:Nat} (h:Kn P T=some (n,e)):P.underlying T=some (.array n e)/\(P.info? e).isSome:=by
 grind[Kn]
theorem fU {T e:TypeId} {b p len cap:Nat} {k:IntKind} {n:Int} (ht:tel P T=some e) (h0:0<=n) (h1:n<len) :
  (Instr.indexAt T (.slice (some ⟨b,p,none⟩) len cap) (.int k n)).run P w=.ok (.pointer (some ⟨b,p+n.toNat * Zq P e,none⟩)) w:=by
 obtain⟨hu,hi⟩:=Hl ht;simp only [Instr.indexAt,asIntOf,Sem.run_bind,Sem.run_pure,Result.andThen_ok,jD hu,h0,h1,and_self,if_true,mH hi,Addr.add_lit]
theorem di {T e:TypeId} {b p len:Nat} {k:IntKind} {n:Int} (ht:Kn P T=some (len,e)) (h0:0<=n) (h1:n<len) :
  (Instr.indexAt T (.pointer (some ⟨b,p,none⟩)) (.int k n)).run P w=.ok (.pointer (some ⟨b,p+n.toNat * Zq P e,none⟩)) w:=by
 obtain⟨hu,hi⟩:=Cr ht;simp only [Instr.indexAt,asIntOf,Sem.run_bind,Sem.run_pure,Result.andThen_ok,jD hu,Instr.sureAddr,h0,h1,and_self,if_true,mH hi,Addr.add_lit]
theorem DO {T:TypeId} {v:Value} {y z:AV} {k:IntKind} {n:Int} (hv:RV g w v y) (h1:sR P T y n=some z):∃ v',(Instr.indexAt T v (.int k n)).run P w=.ok v' w/\RV g w v' z:=by
 unfold sR at h1
 split at h1
 .rename_i e ht
  cases y with
  | sl E rows =>
   simp only at h1
   split at h1
   .rename_i hc;obtain⟨rfl,h0⟩:=hc;obtain⟨r,hr0,rfl⟩:=ku.1 h1
    cases hv with
    | slN=>simp at hr0
    | slC b off cap len E rows f hC hn hcap hu hcell ho hr =>
     have hlt:n.toNat<len:=qj;have hlen:r.length=Zq P e:=hu r (gM hr0);refine⟨_,fU ht h0 qA,?_⟩;exact .el b (off+n.toNat * Zq P e) 0 r (f n.toNat) hC (λj hj=>hcell n.toNat j hlt qA) (λj hj=>ho n.toNat j hlt qA) (λj y hy=>hr n.toNat r hr0 j y hy)
   .cases h1
  | hs m z' lo len =>
   simp only at h1
   split at h1
   .rename_i hc;obtain⟨rfl,h0,hlt⟩:=hc;obtain rfl:=sI h1
    cases hv with
    | hsN=>omega
    | hsB _ _ _ _ b cap ad hk g1 g2 g3 =>
     rw [g3 qA];refine⟨_,fU ht h0 qA,?_⟩;have:=RV.ep (g:=g) (w:=w) m (Zq P e) (lo+n.toNat) 0 b hk
     grind
   .cases h1
  | _=>simp at h1
 .split at h1
  .rename_i len e ht
   split at h1
   .rename_i hc;obtain⟨h0,hlt⟩:=hc
    cases y with
    | pt m off =>
     obtain rfl:=sI h1
     cases hv with
     | pt _ _ b hk=>exact⟨_,di ht h0 hlt,.pt m _ b hk⟩
    | el row off =>
     obtain rfl:=sI h1
     cases hv with
     | el b o' off row f hC hcell ho hr=>exact⟨_,di ht h0 hlt,by rw [nA];exact .el b o' _ row f hC hcell ho hr⟩
    | ep m z' i off =>
     obtain rfl:=sI h1
     cases hv with
     | ep _ _ _ _ b hk=>exact⟨_,di ht h0 hlt,by rw [nA];exact .ep m z' i _ b hk⟩
    | _=>simp at h1
   .cases h1
  .cases h1
end
section
variable {P:Program} {own:Nat->Prop} {C:Nat->Prop} {w0:World} {g:Gh} {st:St} {a:Act} {w:World}
def iS (k:IntKind) (op:BinOp) (x y:Int):Option AV :=
 match op with
 | .add=>some (.sc (.int k (k.wrap (x+y))))
 | .sub=>some (.sc (.int k (k.wrap (x - y))))
 | .mul=>some (.sc (.int k (k.wrap (x * y))))
 | .quo=>if y=0 then none else some (.sc (.int k (k.wrap (x.tdiv y))))
 | .rem=>if y=0 then none else some (.sc (.int k (x.tmod y)))
 | .xor=>some (.sc (.int k (k.wrap (BitVec.ofInt k.bits x ^^^ BitVec.ofInt k.bits y).toNat)))
 | .eql=>some (.sc (.bool (x==y)))
 | .neq=>some (.sc (.bool (x != y)))
 | .lss=>some (.sc (.bool (decide (x<y))))
 | .leq=>some (.sc (.bool (decide (x<=y))))
 | .gtr=>some (.sc (.bool (decide (x > y))))
 | .geq=>some (.sc (.bool (decide (x≥y))))
 | _=>none
def FN (op:BinOp) (x y:ByteArray):Option AV :=
 match op with
 | .add=>if x.size+y.size<=9223372036854775807 then some (.sc (.string (x++y))) else none
 | .eql=>some (.sc (.bool (x.toList==y.toList)))
 | .neq=>some (.sc (.bool (!(x.toList==y.toList))))
 | _=>none
def eqL:List AV->List AV->Option Bool
 | [],[]=>some true
 | .sc (.int .i64 x)::xs,.sc (.int .i64 y)::ys=>(eqL xs ys).map (λr=>(x==y)&&r)
 | _,_=>none
def FK (P:Program) (T:TypeId):Option Nat :=
 match P.underlying T with
 | some (.struct fs)=>if (fs.toList.zipIdx.all λ(f,j)=>f.name != "_"&&f.offset==j&&(match P.underlying f.type with|some (.int .i64)=>true|_=>false)&&(match ky P f.type with|some false=>true|_=>false))&&!P.stoodInHeld T&&!P.eqGuardType P.depth T then some fs.size else none
 | _=>none
def LY (P:Program) (T:TypeId):Bool:=match P.underlying T with|some .bool=>true|_=>false
def Rv (P:Program) (T:TypeId):Bool:=match P.underlying T with|some (.interface _)=>true|_=>false
def pJ (P:Program) (T:TypeId):Bool:=match P.underlying T with|some (.pointer _)=>true|_=>false
def cI (op:BinOp) (r:Bool):Option AV:=match op with|.eql=>some (.sc (.bool r))|.neq=>some (.sc (.bool (!r)))|_=>none
def lh (P:Program) (T:TypeId) (op:BinOp) (cy:Bool) (x y:AV):Option AV :=
 match x,y with
 | .sc (.int k m),.sc (.int k' n)=>if k=k' then iS k op m n else none
 | .sc (.string s),.sc (.string t)=>FN op s t
 | .sc (.bool s),.sc (.bool t)=>if LY P T then cI op (s==t) else none
 | .agg xs,.agg ys=>match FK P T with
  | some n=>if xs.length=n then (eqL xs ys).bind (cI op) else none
  | none=>none
 | .pt _ _,.sc (.pointer none)=>if pJ P T then cI op false else none
 | .el _ _,.sc (.pointer none)=>if pJ P T then cI op false else none
 | .ep _ _ _ _,.sc (.pointer none)=>if pJ P T then cI op false else none
 | .sc (.pointer none),.sc (.pointer none)=>if pJ P T then cI op true else none
 | .ifc _ _,.sc .nilIface=>if Rv P T then cI op false else none
 | .sc .nilIface,.sc .nilIface=>if Rv P T&&cy then cI op true else none
 | _,_=>none
theorem Sp {k:IntKind} {op:BinOp} {T:TypeId} {x y:Int} {z:AV} (h:iS k op x y=some z):∃ v,(binOp op T (.int k x) (.int k y)).run P w=.ok v w/\RV g w v z:=by
 cases op <;> simp only [iS] at h <;> first
  | (cases h;done)
  | (obtain rfl:=sI h;exact⟨_,by simp [binOp,Op.intArith,Op.intCmp,Op.intBits];try rfl,.sc _⟩)
  | (split at h
     .cases h
     .rename_i hy;obtain rfl:=sI h;exact⟨_,by simp_all[binOp,Op.intDiv],.sc _⟩)
theorem So {op:BinOp} {T:TypeId} {x y:ByteArray} {z:AV} (h:FN op x y=some z):∃ v,(binOp op T (.string x) (.string y)).run P w=.ok v w/\RV g w v z:=by
 cases op <;> simp only [FN] at h <;> first
  | (cases h;done)
  | (obtain rfl:=sI h;exact⟨_,by constructor<;>grind,.sc _⟩)
  | (split at h
     .rename_i hs;obtain rfl:=sI h;refine⟨.string (x++y),?_,.sc _⟩
      have hm:¬ (((x.size+y.size:Nat):Int) > IntKind.i64.max):=by
       simp_all<;>omega
      simp_all[binOp,Op.stringOp]
     .cases h)
theorem Qo {x:AV} {xs ys:List AV} {r:Bool} (h:eqL (x::xs) ys=some r):∃ m n ys' r',x=.sc (.int .i64 m)/\ys=.sc (.int .i64 n)::ys'/\eqL xs ys'=some r'/\r=((m==n)&&r'):=by
 generalize hz:x::xs=zs at h;unfold eqL at h
 grind[ku]
theorem Tr (d:Nat):∀ (fs:List Field) (o:Nat) (xs ys:List AV) (vx vy:Array Value) (r:Bool),
  (∀ (j:Nat) f,fs[j]?=some f->f.name ≠ "_"/\f.offset=o+j/\P.underlying f.type=some (.int .i64)/\ky P f.type=some false) ->
  (∀ (j:Nat) y,xs[j]?=some y->∃ v,vx[o+j]?=some v/\RV g w v y)->(∀ (j:Nat) y,ys[j]?=some y->∃ v,vy[o+j]?=some v/\RV g w v y)->fs.length=xs.length ->
  eqL xs ys=some r->(Op.eqFields (d+1) vx vy fs).run P w=.ok r w:=by
 intro fs
 induction fs with
 | nil =>
  intro o xs ys vx vy r hf hx hy hl h;have:xs=[]:=gj hl.symm;subst this
  cases ys<;>simp_all[eqL,Op.eqFields]
 | cons f fs ih =>
  intro o xs ys vx vy r hf hx hy hl h
  cases xs with
  | nil=>simp at hl
  | cons x xs =>
   obtain⟨m,n,ys',r',rfl,rfl,hr',rfl⟩:=Qo h
   .obtain⟨f1,f2,f3,f4⟩:=hf 0 f rfl;obtain⟨v1,hv1,hr1⟩:=hx 0 _ rfl;obtain⟨v2,hv2,hr2⟩:=hy 0 _ rfl;rw [hr1.Zo] at hv1;rw [hr2.Zo] at hv2
    have hp1:(part f.type vx f.offset).run P w=.ok (.int .i64 m) w:=by
     simp_all[part,au]
    have hp2:(part f.type vy f.offset).run P w=.ok (.int .i64 n) w:=by
     simp_all[part,au]
    have hih:=ih (o+1) xs ys' vx vy r' (λj f' hj=>by
      have:=hf (j+1) f' qH
      grind)
     (λj y hj=>by have:=hx (j+1) y qH;grind)
     (λj y hj=>by have:=hy (j+1) y qH;grind)
     qH hr'
    simp only [Op.eqFields,ne_eq,f1,not_false_eq_true,if_true,Sem.run_bind,hp1,Result.andThen_ok,hp2,run_equalIn_int w d f.type .i64 .i64 m n f3];by_cases hmn:m=n
    .simp_all
    simp_all
theorem xe {T:TypeId} {n:Nat} (h:FK P T=some n):∃ fs,P.underlying T=some (.struct fs)/\fs.size=n/\P.stoodInHeld T=false/\P.eqGuardType P.depth T=false /\
  ∀ (j:Nat) f,fs.toList[j]?=some f->f.name ≠ "_"/\f.offset=j/\P.underlying f.type=some (.int .i64)/\ky P f.type=some false:=by
 unfold FK at h
 split at h
 .rename_i fs hu
  split at h
  .rename_i hc;simp only [ba,xE] at hc;obtain⟨⟨hall,h1⟩,h2⟩:=hc;refine⟨fs,hu,sI h,h1,h2,λj f hj=>?_⟩
   have hm:(f,j)∈fs.toList.zipIdx:=by
    grind
   grind
  .cases h
 .cases h
theorem Av {T:TypeId} {n:Nat} {xs ys:List AV} {v1 v2:Value} {r:Bool} (ht:FK P T=some n) (h1:RV g w v1 (.agg xs)) (h2:RV g w v2 (.agg ys)) (hn:xs.length=n) (hr:eqL xs ys=some r) :
  (Op.equal T v1 v2).run P w=.ok r w:=by
 obtain⟨fs,hu,hs,hp,_,hf⟩:=xe ht;obtain⟨vx,rfl,hl1,hx⟩:=dW h1;obtain⟨vy,rfl,hl2,hy⟩:=dW h2;have hfo:P.fieldsOf T=fs:=by simp [Program.fieldsOf,hu]
 have:=run_equalIn_struct (P:=P) w 9999 T vx.toArray vy.toArray qH hp;rw [hfo] at this;unfold Op.equal Op.maxDepth;rw [this];refine Tr (g:=g) 9998 fs.toList 0 xs ys _ _ r (λj f hj=>?_) (λj y hj=>?_) (λj y hj=>?_) (by simp [hs,hn]) hr<;>grind
theorem F4 {T:TypeId} {p q:Option Addr} (h:pJ P T=true) (hq:q=none):(Op.equal T (.pointer p) (.pointer q)).run P w=.ok p.isNone w:=by
 subst hq;unfold pJ at h
 split at h
 .rename_i e hu
  have:∀ d,(Op.equalIn (d+1) T (.pointer p) (.pointer none)).run P w=.ok p.isNone w:=by
   intro d
   cases p <;> simp [Op.equalIn,underlying,hu]
  exact this 9999
 .cases h
theorem As {op:BinOp} {T:TypeId} {xo yo:Operand} {k k':IntKind} {m n:Int}:(eqGuard op T xo yo (.int k m) (.int k' n)).run P w=.ok () w:=by
 simp_all[eqGuard]
theorem Aq {op:BinOp} {T:TypeId} {xo yo:Operand} {m n:ByteArray}:(eqGuard op T xo yo (.string m) (.string n)).run P w=.ok () w:=by
 simp_all[eqGuard]
theorem Ar {op:BinOp} {T:TypeId} {xo yo:Operand} {m n:Option Addr}:(eqGuard op T xo yo (.pointer m) (.pointer n)).run P w=.ok () w:=by
 simp_all[eqGuard]
theorem RV.qBO {v:Value} {x:AV} (h:RV g w v x) (hx:(∃ id o,x=.pt id o)\/(∃ r o,x=.el r o)\/∃ n z i o,x=.ep n z i o):∃ ad,v=.pointer (some ad):=by
 rcases hx with⟨id,o,rfl⟩|⟨r,o,rfl⟩|⟨n,z,i,o,rfl⟩
 .cases h<;>grind
 .cases h<;>grind
 .cases h<;>grind
theorem DQ {T:TypeId} {x y:Bool} (h:LY P T=true):(Op.equal T (.bool x) (.bool y)).run P w=.ok (x==y) w:=by
 unfold LY at h
 split at h
 .rename_i hu
  have:∀ d,(Op.equalIn (d+1) T (.bool x) (.bool y)).run P w=.ok (x==y) w:=by
   intro d;simp [Op.equalIn,underlying,hu]
  exact this 9999
 .cases h
theorem xP {op:BinOp} {T:TypeId} {xo yo:Operand} {m n:Bool}:(eqGuard op T xo yo (.bool m) (.bool n)).run P w=.ok () w:=by
 simp_all[eqGuard]
theorem F5 {T t:TypeId} {v:Value} (h:Rv P T=true):(Op.equal T (.iface t v) .nilIface).run P w=.ok false w:=by
 unfold Rv at h
 split at h
 .rename_i ms hu
  have:∀ d,(Op.equalIn (d+1) T (.iface t v) .nilIface).run P w=.ok false w:=by
   intro d;simp [Op.equalIn,underlying,hu]
  exact this 9999
 .cases h
theorem Au {T:TypeId} (h:Rv P T=true):(Op.equal T .nilIface .nilIface).run P w=.ok true w:=by
 unfold Rv at h
 split at h
 .rename_i ms hu
  have:∀ d,(Op.equalIn (d+1) T .nilIface .nilIface).run P w=.ok true w:=by
   intro d;simp [Op.equalIn,underlying,hu]
  exact this 9999
 .cases h
theorem At {op:BinOp} {T t:TypeId} {xo yo:Operand} {v:Value}:(eqGuard op T xo yo (.iface t v) .nilIface).run P w=.ok () w:=by
 simp_all[eqGuard]
theorem rR {op:BinOp} {T:TypeId} {xo:Operand} {c:Value}:(eqGuard op T xo (.const c) .nilIface .nilIface).run P w=.ok () w:=by
 simp_all[eqGuard]
theorem r9 {T:TypeId} {op:BinOp} {v1 v2:Value} {r:Bool} {z:AV} (hi:∀ op,op=.eql\/op=.neq->(binOp op T v1 v2).run P w=.ok (.bool (match op with|.eql=>r|_=>!r)) w) (h:cI op r=some z) :
  ∃ v',(binOp op T v1 v2).run P w=.ok v' w/\RV g w v' z:=by
 cases op <;> simp only [cI] at h <;> first|(cases h;done)|skip
 .obtain rfl:=sI h;exact⟨_,hi .eql (.inl rfl),.sc _⟩
 .obtain rfl:=sI h;exact⟨_,hi .neq (.inr rfl),.sc _⟩
theorem Jg {T:TypeId} {op:BinOp} {xo yo:Operand} {v1 v2:Value} {x y z:AV} {cy:Bool} (hcy:cy=true->∃ c,yo=.const c) (h1:RV g w v1 x) (h2:RV g w v2 y) (h:lh P T op cy x y=some z) :
  ∃ v',(do eqGuard op T xo yo v1 v2;binOp op T v1 v2).run P w=.ok v' w/\RV g w v' z:=by
 have ptr:∀ (p:Option Addr) (r:Bool),p.isNone=r->pJ P T=true->cI op r=some z->∃ v',(do eqGuard op T xo yo (.pointer p) (.pointer none);binOp op T (.pointer p) (.pointer none)).run P w=.ok v' w/\RV g w v' z:=by
  intro p r hp ht hz;have he:=F4 (P:=P) (w:=w) (T:=T) (p:=p) ht rfl
  obtain⟨v',e1,e2⟩:=r9 (P:=P) (w:=w) (g:=g) (T:=T) (v1:=.pointer p) (v2:=.pointer none) (r:=r) (λop ho=>by
   rcases ho with rfl|rfl <;> simp [binOp,he,hp]) hz
  simp_all[Ar]
 unfold lh at h
 split at h
 .obtain rfl:=h1.Zo;obtain rfl:=h2.Zo
  split at h
  .rename_i hk;subst hk;obtain⟨v',hr,hv⟩:=Sp (P:=P) (g:=g) (w:=w) (T:=T) h
   simp_all[As]
  .cases h
 .obtain rfl:=h1.Zo;obtain rfl:=h2.Zo;obtain⟨v',hr,hv⟩:=So (P:=P) (g:=g) (w:=w) (T:=T) h
  simp_all[Aq]
 .obtain rfl:=h1.Zo;obtain rfl:=h2.Zo
  split at h
  .rename_i s t ht;have he:=DQ (P:=P) (w:=w) (T:=T) (x:=s) (y:=t) ht
   obtain⟨v',e1,e2⟩:=r9 (P:=P) (w:=w) (g:=g) (T:=T) (v1:=.bool s) (v2:=.bool t) (r:=s==t) (λop ho=>by
    rcases ho with rfl|rfl <;> simp [binOp,he]) h
   simp_all[xP]
  .cases h
 .rename_i xs ys;obtain⟨vs1,rfl,_⟩:=dW h1;obtain⟨vs2,rfl,_⟩:=dW h2
  split at h
  .rename_i n ht
   split at h
   .rename_i hn;obtain⟨r,hr,h⟩:=xD.1 h;have he:=Av ht h1 h2 hn hr;obtain⟨fs,hu,hs,hp,hgd,hf⟩:=xe ht
    obtain⟨v',e1,e2⟩:=r9 (P:=P) (w:=w) (g:=g) (T:=T) (v1:=.agg vs1.toArray) (v2:=.agg vs2.toArray) (r:=r) (λop ho=>by
     rcases ho with rfl|rfl <;> simp [binOp,he]) h
    simp_all[eqGuard]
   .cases h
  .cases h
 .obtain rfl:=h2.Zo
  split at h
  .rename_i hp;obtain⟨ad,rfl⟩:=h1.qBO (.inl ⟨_,_,rfl⟩)
   simp_all
  .cases h
 .obtain rfl:=h2.Zo
  split at h
  .rename_i hp;obtain⟨ad,rfl⟩:=h1.qBO (.inr (.inl ⟨_,_,rfl⟩))
   simp_all
  .cases h
 .obtain rfl:=h2.Zo
  split at h
  .rename_i hp;obtain⟨ad,rfl⟩:=h1.qBO (.inr (.inr ⟨_,_,_,_,rfl⟩))
   simp_all
  .cases h
 .obtain rfl:=h1.Zo;obtain rfl:=h2.Zo
  simp_all
 .obtain rfl:=h2.Zo
  split at h
  .rename_i hp;have hv1:∃ t v,v1=.iface t v:=by cases h1<;>grind
   obtain⟨t,v,rfl⟩:=hv1
   .have he:=F5 (P:=P) (w:=w) (T:=T) (t:=t) (v:=v) hp
    obtain⟨v',e1,e2⟩:=r9 (P:=P) (w:=w) (g:=g) (T:=T) (v1:=.iface t v) (v2:=.nilIface) (r:=false) (λop ho=>by
     rcases ho with rfl|rfl <;> simp [binOp,he]) h
    simp_all[At]
  .cases h
 .obtain rfl:=h1.Zo;obtain rfl:=h2.Zo
  split at h
  .rename_i hp;simp only [ba] at hp;obtain⟨hp,hc⟩:=hp;obtain⟨c,rfl⟩:=hcy hc;have he:=Au (P:=P) (w:=w) (T:=T) hp
   obtain⟨v',e1,e2⟩:=r9 (P:=P) (w:=w) (g:=g) (T:=T) (v1:=.nilIface) (v2:=.nilIface) (r:=true) (λop ho=>by
    rcases ho with rfl|rfl <;> simp [binOp,he]) h
   simp_all[rR]
  .cases h
 .cases h
end
end Go.Hm
end
