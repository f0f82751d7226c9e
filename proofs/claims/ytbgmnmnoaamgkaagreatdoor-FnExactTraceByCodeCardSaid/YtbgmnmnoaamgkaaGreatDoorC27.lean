/-
  Own texts, joined by mkclaim.py: Hi, Hj, Hk, Hp, Ta, Tb.
-/
import Derived.Test.YtbgmnmnoaamgkaaGreatDoorC26
import Derived.Test.YtbgmnmnoaamgkaaGreatDoorC12
import Derived.Test.YtbgmnmnoaamgkaaGreatDoorC10
set_option linter.unusedSimpArgs false
set_option linter.unusedVariables false
set_option maxRecDepth 100000
set_option maxHeartbeats 4000000

section
namespace Go.Proofs.YtbgmnmnoaamgkaaGreatDoor
open Go Go.Hm Go.Proofs Go.RowKit Go.Shelf
attribute [local go_sem] Oper.semAt_some
theorem qHc {W:World} {B:Nat} {v:Value} {t:TypeId} (h:W.heap[B]?=some (.cells #[v] t (0,0))):W.cell? ⟨B,0,none⟩=some v∧W.frozen? ⟨B,0,none⟩=false:=by
 constructor <;> simp [World.cell?,World.frozen?,h]
theorem qDA (W:World) (v:Value) (t:TypeId):(W.alloc (.cells #[v] t)).cell? ⟨W.heap.size,0,none⟩=some v∧(W.alloc (.cells #[v] t)).frozen? ⟨W.heap.size,0,none⟩=false:=qHc (World.alloc_heap_new W _)
theorem wv {W:World} {a:Addr} {v:Value} (o:Obj) (h:W.cell? a=some v):(W.alloc o).cell? a=some v:=cell_kept h (World.grownBy_alloc W o none) (fun r e=>by cases e)
theorem qEn {W:World} {a:Addr} {v:Value} (o:Obj) (h:W.cell? a=some v) (hf:W.frozen? a=false):(W.alloc o).frozen? a=false:=(frozen_kept h (World.grownBy_alloc W o none) (fun r e=>by cases e)).trans hf
theorem qE5 (n:Nat) (hn:3≤n) (p:Prg) (hh:zj p) (hb0:∀ k,p[0]?=some k→k.kind≠1) (g:Gh) (w:World) (hC:∀ b,g.C b→b<w.heap.size) (i:Nat) (k:Blk) (hk:p[i]?=some k) (a0:Option Addr) (ha:RV g w (.pointer a0) (z8 p i)) (x:Nat) (hx:x<8) :
  CallsIn Fence.wide n Tryz.prog 110 #[.pointer a0,.int .i64 x] w fun e W'=>e=.returned (.int .i64 (zN p x p.length k.parent))∧Below w.heap.size w W':=by
 have h1:1≤n:=by omega
 refine callsIn_of_wp_marks Tryz.func110 rfl trivial ?_ rfl
 simp only [Tryz.ntmps110,List.size_toArray,List.length_cons,List.length_nil,Nat.reduceAdd,Nat.reduceSub,Array.replicate_succ,Array.replicate_zero,List.push_toArray,List.append_toArray,List.nil_append,List.cons_append]
 gi_wp2_with (refine⟨trivial,?_⟩;gi_at_call 144;refine (wo (n - 1) _ _).mono ?_;rintro e w' ⟨rfl,rfl⟩)
 have c0:=qDA w (.int .i64 x) 3
 have c1:=qDA (w.alloc (.cells #[.int .i64 x] 3)) (.int .i64 0) 3
 have c2:=qDA ((w.alloc (.cells #[.int .i64 x] 3)).alloc (.cells #[.int .i64 0] 3)) (.pointer a0) 125
 simp only [World.size_alloc] at c1 c2
 have hB0:Below w.heap.size w (((w.alloc (.cells #[.int .i64 x] 3)).alloc (.cells #[.int .i64 0] 3)).alloc (.cells #[.pointer a0] 125)):=(((Below.refl _ w).alloc (Nat.le_refl _) _).alloc (by simp) _).alloc (by simp;omega) _
 refine wpIn_rangeFunc_ownF rfl h1 (gf:=168) (lb:=#[.pointer (some ⟨w.heap.size+1+1,0,none⟩)]) rfl trivial (enters_of Tryz.func168 (by kernel_rfl) rfl)
  (qJj (n - 1) (w.heap.size+1+1) p hh g w _ hC i k hk a0 ha (by omega) hB0 (by simp) c2.1) belowK_t (belowK_b (by simp;omega)) (Below.refl _ _) (fun _=>rfl)
  (fun pre W=>((∀ y∈pre,found p x y.1.2=none)∧W.cell? ⟨w.heap.size,0,none⟩=some (.int .i64 x)∧W.cell? ⟨w.heap.size+1,0,none⟩=some (.int .i64 0)∧W.frozen? ⟨w.heap.size+1,0,none⟩=false)∧Below w.heap.size w W)
  (fun c pre W=>(c=.ret∧(∃ l y r,pre=l++[y]∧(∀ y∈l,found p x y.1.2=none)∧found p x y.1.2=some r∧W.cell? ⟨w.heap.size+1,0,none⟩=some (.int .i64 r)))∧Below w.heap.size w W)
  (OwnFrom.and (Own.from (fun s A B row hs hg hr=>⟨hs.1,cell_kept hs.2.1 hg hr,cell_kept hs.2.2.1 hg hr,(frozen_kept hs.2.2.1 hg hr).trans hs.2.2.2⟩) _) (ownFrom_below (Nat.le_refl _) (by simp;omega)))
  (fun c=>OwnFrom.and (Own.from (fun s A B row hs hg hr=>⟨hs.1,by obtain⟨l,y,r,e1,e2,e3,e4⟩:=hs.2;exact⟨l,y,r,e1,e2,e3,cell_kept e4 hg hr⟩⟩) _) (ownFrom_below (Nat.le_refl _) (by simp;omega)))
  ⟨⟨by simp,wv _ (wv _ c0.1),wv _ c1.1,qEn _ c1.1 c1.2⟩,hB0⟩
  (fun y=>{ tmps:=#[.pointer a0,.int .i64 x,undef,.pointer (some ⟨w.heap.size,0,none⟩),.pointer (some ⟨w.heap.size+1,0,none⟩),.pointer y.1.1,.pointer a0,.func (.func 168) #[] #[.pointer (some ⟨w.heap.size+1+1,0,none⟩)],.pointer y.1.1,undef,undef,undef,undef,undef,undef,undef,undef,undef,undef,undef,undef,undef],defers:=[] }) ?assign ?body ?done ?stop
 case assign =>
  intro l y W K hK
  gi_wp2
  exact hK
 case body =>
  rintro l pre ⟨⟨ay,j⟩,q,hq,hq1,hr⟩ W ⟨⟨hp,hcx,hcr,hfr⟩,hB⟩ _
  dsimp only at hq hr ⊢
  obtain⟨b,o,rfl,hs⟩:∃ b o,ay=some ⟨b,o,none⟩∧ScAt g w p j q b o:=by
   obtain⟨b,o,e,h⟩:=hr.scAt hh hq
   exact⟨b,o,by simpa using e,h⟩
  have hb:=hC b hs.C
  have hg:W.cell? ⟨b,o+(27+x),none⟩=some (.bool (decide ((x:Int)∈q.dc 9))):=(hB.cell (p:=⟨b,o+(27+x),none⟩) hb).trans (hs.glob x hx)
  have hidx:W.cell? ⟨b,o,none⟩=some (.int .i64 j):=(hB.cell (p:=⟨b,o,none⟩) hb).trans hs.idx
  have h8:(x:Int)<8:=by omega
  have hg2:W.cell? ⟨b,o+27+x,none⟩=some (.bool (decide ((x:Int)∈q.dc 9))):=by rw [Nat.add_assoc];exact hg
  have hmx:Tryz.prog.follows .mixedOrders=true:=by kernel_rfl
  have hj0:0<j:=by
   rcases Nat.eq_zero_or_pos j with rfl|h
   ·exact absurd hq1 (hb0 q hq)
   ·exact h
  have hcall:∀ W',Below w.heap.size w W'→Calls Tryz.prog 121 #[.pointer (some ⟨b,o,none⟩),.int .i64 x] W' fun e W''=>e=.returned (.bool (za j q x))∧Below W'.heap.size W' W'':=by
   intro W' hB'
   have hF:=vS (fun _=>none) j q (z8 p q.parent) q.params x hx
   have e:(q.kind != 0&&decide ((x:Int)∈q.bd)&&!(decide ((x:Int)∈q.dc 9)||decide ((x:Int)∈q.dc 10)))=za j q x:=by
    simp [za,hq1,hj0,Bool.and_assoc]
   rw [e] at hF
   refine qW.raw hF (g:=g) (fun b hb=>Nat.lt_of_lt_of_le (hC b hb) hB'.size) rfl ?_
   intro a v y hv hy
   match a,hv,hy with
   | 0,hv,hy =>
    obtain rfl:=sI hv
    obtain rfl:=sI hy
    have:=hr.keepB hC hB'
    rwa [jJ hh hq] at this
   | 1,hv,hy =>
    obtain rfl:=sI hv
    obtain rfl:=sI hy
    exact .sc _
   | a+2,hv,_=>simp at hv
  have hBd:Below w.heap.size w W.drew:=⟨hB.os,hB.tape,hB.output,hB.size,hB.block⟩
  have hbW:b<W.drew.heap.size:=Nat.lt_of_lt_of_le hb hB.size
  have hrW:w.heap.size+1<W.drew.heap.size:=by
   refine Nat.lt_of_not_le fun hge=>?_
   have:W.heap[w.heap.size+1]?=none:=Array.getElem?_eq_none hge
   simp [World.cell?,this] at hcr
  have hko:∀ w3,Below W.drew.heap.size W.drew w3→KeepsOthers W w3:=fun w3 h=>⟨h.size,fun k o hk _=>(h.block k (Array.getElem?_eq_some_iff.1 hk).1).trans hk⟩
  have hfd:found p x j=if (x:Int)∈q.dc 9 then some (-1) else if za j q x then some (j:Int) else none:=by simp only [found,hq]
  by_cases hm:(x:Int)∈q.dc 9
  ·rw [decide_eq_true hm] at hg hg2
   rw [if_pos hm] at hfd
   gi_wp2
   gi_region_o
   all_goals gi_wp2
   all_goals exact⟨(KeepsOthers.drew W).trans (KeepsOthers.setCell _ _ _),⟨rfl,pre,⟨(some ⟨b,o,none⟩,j),q,hq,hq1,hr⟩,-1,rfl,hp,hfd,World.cell?_setCell_same' _ _ _ (by rw [hcr];rfl)⟩,hBd.setCell (p:=⟨w.heap.size+1,0,none⟩) (by simp) _⟩
  ·rw [decide_eq_false hm] at hg hg2
   rw [if_neg hm] at hfd
   cases hl:za j q x with
   | true =>
    rw [hl] at hcall
    rw [if_pos hl] at hfd
    gi_wp2
    gi_region_o
    all_goals gi_wp2_with (refine⟨trivial,fun _=>by omega,?_⟩;refine (CallsIn.inRound l (callsIn_wide.2 (hcall _ hBd))).mono ?_;rintro e w3 ⟨rfl,hbw⟩;have hi3:=(hbw.cell (p:=⟨b,o,none⟩) hbW).trans hidx;have hc3:=(hbw.cell (p:=⟨w.heap.size+1,0,none⟩) hrW).trans hcr;have hf3:=(hbw.frozen (p:=⟨w.heap.size+1,0,none⟩) hrW).trans hfr)
    all_goals exact⟨(hko _ (by assumption)).trans (KeepsOthers.setCell _ _ _),⟨rfl,pre,⟨(some ⟨b,o,none⟩,j),q,hq,hq1,hr⟩,(j:Int),rfl,hp,hfd,World.cell?_setCell_same' _ _ _ (by rw [hc3];rfl)⟩,(hBd.trans (Below.mono (by assumption) hBd.size)).setCell (p:=⟨w.heap.size+1,0,none⟩) (by simp) _⟩
   | false =>
    rw [hl] at hcall
    rw [if_neg (by rw [hl];decide)] at hfd
    gi_wp2
    gi_region_o
    all_goals gi_wp2_with (refine⟨trivial,fun _=>by omega,?_⟩;refine (CallsIn.inRound l (callsIn_wide.2 (hcall _ hBd))).mono ?_;rintro e w3 ⟨rfl,hbw⟩)
    all_goals
     have hWw:Below W.drew.heap.size W.drew w3:=by assumption
     have hB3:Below w.heap.size W.drew w3:=hWw.mono hBd.size
     have hBW:Below w.heap.size W w3:=⟨hB3.os,hB3.tape,hB3.output,hB3.size,hB3.block⟩
     have hsW:w.heap.size<W.drew.heap.size:=Nat.lt_of_succ_lt hrW
     refine⟨hko _ hWw,hBW,⟨fun y hy=>?_,(hWw.cell (p:=⟨w.heap.size,0,none⟩) hsW).trans hcx,(hWw.cell (p:=⟨w.heap.size+1,0,none⟩) hrW).trans hcr,(hWw.frozen (p:=⟨w.heap.size+1,0,none⟩) hrW).trans hfr⟩,hB.trans hBW⟩
     rcases List.mem_append.1 hy with hy|hy
     ·exact hp y hy
     ·obtain rfl:=List.mem_singleton.1 hy
      exact hfd
 case done =>
  rintro D ys W hD ⟨je,hneg,hpath⟩ ⟨⟨hne,_,hcr,hfr⟩,hB⟩ hK
  gi_wp2
  have hK':=(KeepsOthers.setCell W ⟨w.heap.size+1,0,none⟩ (.int .i64 (-1))).same D _ hK rfl
  refine⟨by simp,.inl ⟨_,_,rfl,run_takeDeferred hK',?_⟩⟩
  have hc5:=cell_kept (World.cell?_setCell_same' W ⟨w.heap.size+1,0,none⟩ (.int .i64 (-1)) (by rw [hcr];rfl)) (grownBy_putObj' _ D (.deferred none)) (fun r e=>by cases e;exact⟨_,hK',rfl⟩)
  have hout:zN p x p.length k.parent=-1:=by
   rw [hpath.outer hh hb0 (x:=x) (fun y hy=>by obtain⟨z,hz,rfl⟩:=List.mem_map.1 hy;exact hne z hz),yu (by omega)]
  refine⟨.int .i64 (-1),?_,by rw [hout],(hB.setCell (p:=⟨w.heap.size+1,0,none⟩) (by simp) _).trans (belowK_b (w:=w) (Nat.le_refl _) _ D _ _ (by simp at hD;omega) hK' rfl rfl)⟩
  simp [results,Tryz.f110,go_sem,hc5]
 case stop =>
  rintro D c pre W hD ⟨je,hpath⟩ ⟨⟨rfl,l,y,r,rfl,hno,hf,hcr⟩,hB⟩ hK
  gi_wp2
  refine⟨by simp,.inl ⟨_,_,rfl,run_takeDeferred hK,?_⟩⟩
  have hc5:=cell_kept hcr (grownBy_putObj' _ D (.deferred none)) (fun r e=>by cases e;exact⟨_,hK,rfl⟩)
  have hout:zN p x p.length k.parent=r:=by
   rw [List.map_append,List.map_singleton] at hpath
   exact Path.found hh hpath hb0 (fun y hy=>by obtain⟨z,hz,rfl⟩:=List.mem_map.1 hy;exact hno z hz) hf
  refine⟨.int .i64 r,?_,by rw [hout],hB.trans (belowK_b (w:=w) (Nat.le_refl _) W D _ _ (by simp at hD;omega) hK rfl rfl)⟩
  simp [results,Tryz.f110,go_sem,hc5]
theorem qE6 (gl) (p:Prg) (hh:zj p) (hb0:∀ k,p[0]?=some k→k.kind≠1) (i:Nat) (k:Blk) (hk:p[i]?=some k) (x:Nat) (hx:x<8) :
  qW Tryz.prog gl 110 [z8 p i,iv x] (fun _ y _=>y=iv (outer p i x)):=by
 refine qW.of_raw ⟨_,Tryz.func110,by kernel_rfl,by kernel_rfl⟩ fun w g args hC hsz hargs=>?_
 rw [jw hh hk]
 obtain⟨v0,v1,rfl⟩:∃ v0 v1,args=#[v0,v1]:=by
  refine⟨args[0]'(by simp at hsz;omega),args[1]'(by simp at hsz;omega),?_⟩
  apply Array.ext
  ·simpa using hsz
  ·intro i h1 h2
   match i with
   | 0=>rfl
   | 1=>rfl
   | i+2=>simp at hsz;omega
 have h0:=hargs 0 v0 _ rfl rfl
 have h1:=hargs 1 v1 _ rfl rfl
 obtain⟨a0,rfl⟩:=h0.ptr
 obtain rfl:=h1.sc_eq
 exact callsIn_wide.1 (qE5 3 (Nat.le_refl _) p hh hb0 g w hC i k hk a0 h0 x hx)
end Go.Proofs.YtbgmnmnoaamgkaaGreatDoor
end
section
namespace Go.Proofs.YtbgmnmnoaamgkaaGreatDoor
open Go Go.Hm Go.Proofs
abbrev qM6 (p:Prg) (i:Nat) (k:Blk):AV:=.el (qh i k (z8 p k.parent) k.params) 0
theorem wT (gl) (p:Prg) (hp:ShapeP p) (i:Nat) (k:Blk) (hk:p[i]?=some k) (x:Nat) (hx:x<8):qW Tryz.prog gl 110 [qM6 p i k,iv x] (fun _ y _=>y=iv (outer p i x)):=by
 have:=qE6 gl p hp.heads hp.fun0 i k hk x hx
 rwa [jJ hp.heads hk] at this
theorem zV (gl) (p:Prg) (hp:ShapeP p) (i:Nat) (k:Blk) (hk:p[i]?=some k) (x:Nat) (hx:x<8):qW Tryz.prog gl 81 [qM6 p i k,iv x] (fun _ y _=>y=iv (zE p i x)):=by
 have h8:(x:Int)<8:=by omega
 have hg:=kz (i:=i) (k:=k) (o:=z8 p k.parent) (ps:=k.params) hx
 have hk0:=hp.kind0 hk
 refine qW.of_sem Tryz.func81 rfl (by kernel_rfl) (rs:=[.tmp 4]) rfl Tryz.ntmps81 (lB rfl) fun C w g root=>?_
 all_goals have fx:=aI h8<|hg
 repeat' (first
  | refine qN ?_|refine qR ?_|refine qM fun K hK=>?_
  | ((with_reducible refine qK hK ?_);clear hK K)
  | (with_reducible first|refine qC ?_|refine qI ?_)
  | refine qX ?_
  | (with_reducible refine qG ?_)
  | ((with_reducible refine yV ?_);refine q6 (h:=?_))
  | (with_reducible first|refine jE ?_|refine vj (h:=?_)|refine qE (h:=?_))
  | ((with_reducible refine qv 121 rfl ?_);refine qL (hF:=vS _ _ _ _ _ _ hx) (h:=?_))
  | ((with_reducible refine qv 110 rfl ?_);refine qL (hF:=wT _ p hp i k hk x hx) (h:=?_))
  | (with_reducible refine x_q (h:=?_))
  | (with_reducible refine vC (fun ht=>?_) (fun ht=>?_))
  | refine qO (h1:=?_)
  | refine uk (h1:=fun ht=>?_) (h2:=fun ht=>?_)
  | fail)
 all_goals try clear fx
 all_goals refine qH [] .nil (by simp;rfl) ?_
 all_goals simp_all [zE,za]
 all_goals grind
theorem wI (gl) (p:Prg) (hp:ShapeP p) (i:Nat) (k:Blk) (hk:p[i]?=some k):qW Tryz.prog gl 72 [qM6 p i k] (fun _ y _=>y=bv (jr p i)):=by
 have hdo:jr p i=(List.range 8).all (fun x=>yl p i k (x:Int)):=by simp only [jr,hk]
 rw [hdo]
 refine qW.of_sem Tryz.func72 rfl (by kernel_rfl) (rs:=[.tmp 2]) rfl Tryz.ntmps72 (lB rfl) fun C w g root=>?_
 have fx:=fx0
 refine qB ?_
 clear fx
 refine q7 (fun n st=>∃ x:Nat,n=8 - x∧x≤8∧st.tm 0=qM6 p i k∧st.tm 4=iv x∧(List.range x).all (fun x=>yl p i k (x:Int))=true) 8 ⟨0,by simp⟩ ?_
 rintro n st - - ⟨x,rfl,hx,h0,h4,hal⟩
 have fx:=aI h0<|h4
 refine qB ?_
 clear fx
 refine vk (by simp [];first|done|rfl|exact (Bool.not_not _).symm) (fun ht=>?_) (fun hf=>?_)
 ·have h8:(x:Int)<8:=by simpa using ht
  have hx8:x<8:=by omega
  have hg:=kz (i:=i) (k:=k) (o:=z8 p k.parent) (ps:=k.params) hx8
  have hn:=qDY (i:=i) (k:=k) (o:=z8 p k.parent) (ps:=k.params) hx8
  have hq:=qJJ (i:=i) (k:=k) (o:=z8 p k.parent) (ps:=k.params) hx8
  have hge:=qOJ (p:=p) (b:=i) (x:=x)
  have fin:yl p i k x=false→(List.range 8).all (fun x=>yl p i k (x:Int))=false:=fun h=>j4 hx8 h
  have nxt:yl p i k x=true→(List.range (x+1)).all (fun x=>yl p i k (x:Int))=true:=fun h=>by rw [zy,hal,h];rfl
  clear ht hal
  all_goals have fx:=aI h0<|aI h4<|aI h8<|aI hg<|aI hn<|hq
  repeat' (first
   | refine qN ?_|refine qJ ?_|refine qR ?_|refine qM fun K hK=>?_
   | ((with_reducible refine qK hK ?_);clear hK K)
   | (with_reducible first|refine qC ?_|refine qP ?_|refine qd ?_|refine zD ?_|refine qI ?_|refine qc ?_|refine ql (by decide) ?_)
   | refine qn ?_
   | refine qX ?_
   | (with_reducible refine qG ?_)
   | ((with_reducible refine yV ?_);refine q6 (h:=?_))
   | (with_reducible first|refine ze ?_|refine jE ?_|refine vG (h:=?_)|refine vj (h:=?_)|refine x_u (h:=?_)|refine qE (h:=?_))
   | ((with_reducible refine qv 109 rfl ?_);refine qL (hF:=wu _ _ _ _ _ _ hx8) (h:=?_))
   | ((with_reducible refine qv 110 rfl ?_);refine qL (hF:=wT _ p hp i k hk x hx8) (h:=?_))
   | (with_reducible refine x_q (h:=?_))
   | (with_reducible refine vC (fun ht=>?_) (fun ht=>?_))
   | refine qO (h1:=?_)|refine qS (h1:=?_)
   | refine uk (h1:=fun ht=>?_) (h2:=fun ht=>?_)
   | fail)
  all_goals try clear fx
  all_goals clear hg hn hq
  all_goals first
   | (refine qH [] .nil (by simp;rfl) ?_
      rw [fin (by simp only [yl];simp_all;done)]
      rfl)
   | (refine⟨8 - (x+1),by omega,x+1,rfl,by omega,by simp [h0],by simp;exact wrp (by omega) (by omega),nxt ?_⟩
      simp only [yl]
      simp_all
      try omega)
 ·have hge:x=8:=by
   have:¬ (x:Int)<8:=by simpa using hf
   omega
  subst hge
  have fx:=fx0
  refine qB ?_
  clear fx
  refine qH [] .nil (by simp [];rfl) (by simp [hal])
theorem qOu {hp:Nm→Option AO} {n:Nm} {p:Prg} {j:Nat} {k:Blk} (h:OwnS hp n p p.length) (hh:zj p) (hk:p[j]?=some k):Bw hp noD (.pt (.c n j 0) 0) (qM6 p j k):=by
 have:=qIn h hh j (gS hk).1
 rwa [jJ hh hk] at this
theorem qNs {n:Nm} {len j:Nat} (h:j<len):(uC n len len)[j]?=some [AV.pt (.c n j 0) 0]:=by rw [u3 h,if_pos h]
theorem qOl {p:Prg} (hp:ShapeP p):jr p 0=true:=by
 obtain⟨k,hk⟩:∃ k,p[0]?=some k:=⟨_,gE (by have:=hp.len.1;omega)⟩
 simp only [jr,hk,List.all_eq_true]
 intro x _
 simp [yl,hp.decl0 hk]
theorem qe (gl) (p:Prg) (hs:Sml p):qW Tryz.prog gl 42 [pav p] (fun _ y _=>y=bv (yq p)):=by
 refine qW.of_sem Tryz.func42 rfl (by kernel_rfl) (rs:=[.tmp 2]) rfl Tryz.ntmps42 (lB rfl) fun C w g root=>?_
 cases hsh:j2 p with
 | false =>
  have fx:= hsh
  have c1:=uK gl p hs
  refine qB ?_
  clear fx c1
  refine qH [] .nil (by simp;rfl) ?_
  simp [yq,hsh]
 | true =>
  have hp:=ShapeP.of hs hsh
  have hh:=hp.heads
  have hl7:=hp.len
  have hpo:yq p=(List.range p.length).all (fun b=>b==0||jr p b):=by simp only [yq,hsh,Bool.true_and]
  rw [hpo]
  have fx:= hsh
  have c1:=uK gl p hs
  have e1:=qCF gl p hs hh hp.names
  refine qB ?_
  clear fx c1 e1
  first|rintro K hK y H' ⟨rfl,hO⟩|rintro y H' ⟨rfl,hO⟩
  obtain⟨ho1,ho2⟩:=hO.hcln
  refine⟨by simp,?_⟩
  have fx:=fx0
  refine qB ?_
  clear fx
  refine q7 (fun n st=>∃ i:Nat,n=p.length - i∧i≤p.length∧st.tm 9=.hs (.s 9) 1 0 p.length∧OwnS st.hp (.s 9) p p.length∧st.tm 10=iv p.length∧st.tm 11=iv i∧(List.range i).all (fun b=>b==0||jr p b)=true) p.length ?_ ?_
  ·exact⟨0,by simp,by simp,by simp,⟨by simp [ho1],fun j k hj hk=>by simp [ho2 j k hj hk]⟩,by simp,by simp,by simp⟩
  clear ho1 ho2 hO
  rintro n st - - ⟨i,rfl,hi,h9,⟨ho1,ho2⟩,h10,h11,hal⟩
  have fx:=aI h10<|h11
  refine qB ?_
  clear fx
  refine vk (by simp [];first|done|rfl|exact (Bool.not_not _).symm) (fun ht=>?_) (fun hf=>?_)
  ·have hlt:i<p.length:=by simpa using ht
   obtain⟨k,hk⟩:∃ k,p[i]?=some k:=⟨_,gE hlt⟩
   have hsg:=qNs (n:=.s 9) hlt
   obtain⟨_,hse⟩:=gS hsg
   clear ht
   all_goals have fx:=aI h9<|aI ho1<|aI h10<|aI h11<|aI hsg<|aI hse<|hlt
   repeat' (first
    | refine qN ?_|refine qJ ?_|refine qR ?_|refine qM fun K hK=>?_
    | ((with_reducible refine qK hK ?_);clear hK K)
    | (with_reducible first|refine qC ?_|refine qP ?_|refine qd ?_|refine zD ?_|refine qI ?_|refine qc ?_|refine ql (by decide) ?_)
    | refine qn ?_
    | refine qX ?_
    | (with_reducible first|refine qG ?_|refine qE (h:=?_)|refine zG (h:=?_))
    | ((with_reducible refine qv 72 rfl ?_);refine qL (hB:=(by first|((repeat' (first|exact .nil|refine .cons ?_ ?_|exact .refl _|exact jF (by simp [fx];first|done|rfl) (by first|(simp [fx];done)|(simp [fx];omega)|omega)|exact jt (by simp [fx];first|done|rfl) (by first|(simp [fx];done)|(simp [fx];omega)|omega) (by first|(simp;done)|fail)|exact qOu (n:=.s 9) (p:=p) (k:=k) ⟨by simp [ho1],fun j k hj hk=>by simp [ho2 j k hj hk]⟩ hh hk));done)|fail)) (hF:=wI _ p hp i k hk) (h:=?_))
    | (with_reducible refine x_q (h:=?_))
    | refine qO (h1:=?_)|refine qS (h1:=?_)
    | refine uk (h1:=fun ht=>?_) (h2:=fun ht=>?_)
    | fail)
   all_goals try clear fx
   ·refine qH [] .nil (by simp;rfl) ?_
    have hd:jr p i=false:=by simpa using ht
    have hi0:i≠0:=fun e=>by rw [e,qOl hp] at hd;cases hd
    rw [j4 hlt (show (i==0||jr p i)=false by simp [hd,hi0])]
    rfl
   ·have hd:jr p i=true:=by simpa using ht
    refine⟨p.length - (i+1),by omega,i+1,rfl,by omega,by simp [h9],⟨by simp [ho1],fun j k hj hk=>by simp [ho2 j k hj hk]⟩,by simp [h10],by simp;exact wrp (by omega) (by omega),?_⟩
    rw [zy,hal,hd]
    simp
  ·have hge:i=p.length:=by
    have:¬ i<p.length:=by simpa using hf
    omega
   subst hge
   have fx:=fx0
   refine qB ?_
   clear fx
   refine qH [] .nil (by simp [];rfl) (by simp [hal])
end Go.Proofs.YtbgmnmnoaamgkaaGreatDoor
end
section
namespace Go.Proofs.YtbgmnmnoaamgkaaGreatDoor
open Go Go.Hm Go.Proofs
@[simp] theorem scRows_tr {p:Prg} {f:Nm→Option Nm}:(wQ p).map (fun r=>r.map (AV.tr f))=wQ p:=by simp [wQ]
theorem qBJ (p:Prg) (j:Int):z8 p j=qFK∨∃ r,z8 p j=.el r 0:=by
 unfold z8
 cases p.length with
 | zero=>exact .inl rfl
 | succ n =>
  rw [vX]
  split
  ·exact .inl rfl
  ·split
   ·exact .inl rfl
   ·exact .inr ⟨_,rfl⟩
@[simp] theorem scopeA_isNil {p:Prg} {j:Int}:qy (z8 p j)=false:=by
 rcases qBJ p j with h|⟨r,h⟩ <;> rw [h] <;> rfl
@[simp] theorem scopeA_sNm {p:Prg} {j:Int}:sNm (z8 p j)=none:=by
 rcases qBJ p j with h|⟨r,h⟩ <;> rw [h] <;> rfl
theorem uy (gl) (p:Prg) (hh:zj p) (i:Nat) (k:Blk) (hk:p[i]?=some k) (b:Nat):qW Tryz.prog gl 147 [qM6 p i k,iv b] (fun _ y _=>y=bv (zP p i b)):=by
 have hil:=(gS hk).1
 refine qW.of_sem Tryz.func147 rfl (by kernel_rfl) (rs:=[.tmp 4]) rfl Tryz.ntmps147 (lB rfl) fun C w g root=>?_
 have fx:=fx0
 refine qB ?_
 clear fx
 refine q7 (fun n st=>∃ j:Int,n=(j+1).toNat ∧ -1≤j∧j<p.length∧st.tm 1=iv b∧st.tm 5=z8 p j∧zP p i b=zP p j b) (i+1) ?_ ?_
 ·exact⟨i,by omega,by omega,by omega,by simp,by simp [jJ hh hk],rfl⟩
 rintro n st - - ⟨j,rfl,hj1,hj,h1,h5,hin⟩
 rcases Int.lt_or_le j 0 with hn|hn
 ·rw [qAl hn,qFK] at h5
  have hfa:zP p i b=false:=by
   rw [hin,jR (by omega)]
   exact decide_eq_false (by omega)
  have fx:=aI h1<|h5
  refine qB ?_
  clear fx
  refine qH [] .nil (by simp;rfl) ?_
  simp [hfa]
 ·obtain⟨J,rfl⟩:∃ J:Nat,j=J:=⟨j.toNat,by omega⟩
  obtain⟨q,hq⟩:∃ q,p[J]?=some q:=⟨_,gE (by omega)⟩
  obtain⟨hq1,hq2,_⟩:=hh J q hq
  rw [jJ hh hq] at h5
  cases hjb:((J:Int)==b)
  ·have hne:¬ (J:Int)=b:=by simpa using hjb
   have hin2:zP p i b=zP p q.parent b:=by
    rw [hin]
    rcases Int.lt_or_le b J with h|h
    ·exact jD hh (by omega) hq h
    ·rw [jR h,jR (by omega),decide_eq_false hne,decide_eq_false (by omega)]
   have fx:=aI h1<|aI h5<|hjb
   refine qB ?_
   clear fx
   exact⟨(q.parent+1).toNat,by omega,q.parent,rfl,hq1,by omega,by simp [h1],by simp,hin2⟩
  ·have he:(J:Int)=b:=by simpa using hjb
   have htr:zP p i b=true:=by
    rw [hin,jR (by omega)]
    exact decide_eq_true he
   have fx:=aI h1<|aI h5<|hjb
   refine qB ?_
   clear fx
   refine qH [] .nil (by simp;rfl) ?_
   simp [htr]
theorem qSf {k:Blk} {y:Nat} (hy:y<8):(decide ((y:Int)∈k.rd)||decide ((y:Int)∈k.bd)||(decide ((y:Int)∈k.dc 9)||decide ((y:Int)∈k.dc 10)))=decide ((y:Int)∈k.us):=by
 have e:=qGI (xs:=k.rd++k.bd++k.dc 9++k.dc 10) hy
 simp only [Blk.us,e,List.mem_append]
 by_cases h1:(y:Int)∈k.rd <;> by_cases h2:(y:Int)∈k.bd <;> by_cases h3:(y:Int)∈k.dc 9 <;> by_cases h4:(y:Int)∈k.dc 10 <;> simp [h1,h2,h3,h4]
theorem ul (gl) (p:Prg) (i:Nat) (k:Blk) (x:Nat) (hx:x<8):qW Tryz.prog gl 80 [qM6 p i k,iv x] (fun _ y _=>y=bv (decide ((x:Int)∈k.us))):=by
 have:=qPk gl i k (z8 p k.parent) k.params x hx
 rwa [qSf hx] at this
theorem qC8 (gl) (p:Prg) (hp:ShapeP p) (i:Nat) (k:Blk) (hk:p[i]?=some k) (x:Nat) (hx:x<8):qW Tryz.prog gl 121 [qM6 p i k,iv x] (fun _ y _=>y=bv (za i k x)):=by
 have h:=vS gl i k (z8 p k.parent) k.params x hx
 have hk0:=hp.kind0 hk
 have e:(k.kind != 0&&decide ((x:Int)∈k.bd)&&!(decide ((x:Int)∈k.dc 9)||decide ((x:Int)∈k.dc 10)))=za i k x:=by
  by_cases h0:i=0
  ·have:(k.kind != 0)=false:=by simp [hk0,h0]
   rw [this]
   simp [za,h0]
  ·have:(k.kind != 0)=true:=by simp [hk0,h0]
   rw [this]
   have h1:decide (0<i)=true:=decide_eq_true (by omega)
   simp only [za,h1]
   simp [Bool.and_assoc]
 rwa [e] at h
end Go.Proofs.YtbgmnmnoaamgkaaGreatDoor
end
section

end
section
namespace Go.Proofs.YtbgmnmnoaamgkaaGreatDoor
open Go Go.Hm Go.Proofs
theorem qGf {l:List Int} {x:Nat} (h:x<8) (hx:(x:Int)∉l):(jP l).take x++bv false::(jP l).drop (x+1)=jP l:=by
 have hl:x<(jP l).length:=by simp;omega
 have vr:=List.set_eq_take_append_cons_drop (l:=jP l) (i:=x) (a:=bv false)
 rw [if_pos hl] at vr
 rw [← vr]
 apply List.ext_getElem?
 intro i
 rw [List.getElem?_set]
 by_cases e:x=i
 ·subst e
  rw [if_pos rfl,if_pos hl,wF h]
  simp [hx]
 ·rw [if_neg e]
theorem qEf (gl) (l:List Int):qW Tryz.prog gl 51 [.agg (jP l)] (fun r z H'=>z=.hs r 1 0 (sorted l).length∧H' r=some (.row 1 (qY (sorted l)))):=by
 refine qW.of_sem Tryz.func51 rfl (by kernel_rfl) (rs:=[.tmp 2]) rfl Tryz.ntmps51 (lB rfl) fun C w g root=>?_
 have fx:=fx0
 refine qB ?_
 clear fx
 refine q7 (fun n st=>∃ x:Nat,n=8 - x∧x≤8∧st.tm 6=.agg (jP l)∧st.tm 7=iv x∧st.tm 3=.hs (.s 3) 1 0 (zC l x).length∧st.hp (.s 3)=some (.row 1 (qY (zC l x)))∧(zC l x).length≤x) 8 ?_ ?_
 ·exact⟨0,by omega,by omega,by simp,by simp,by simp [zC],by simp [zC],by simp [zC]⟩
 rintro n st - - ⟨x,rfl,hx,h6,h7,h3,hp3,hle⟩
 have fx:= h7
 refine qB ?_
 clear fx
 refine vk (by simp [];first|done|rfl|exact (Bool.not_not _).symm) (fun ht=>?_) (fun hf=>?_)
 ·have hx8':(x:Int)<8:=by simpa using ht
  have hx8:x<8:=by omega
  have hbg:=wF (l:=l) hx8
  obtain⟨hbl,hbE⟩:=gS hbg
  clear ht
  by_cases hm:(x:Int)∈l
  ·have he:zC l (x+1)=zC l x++[(x:Int)]:=by simp [zC,hm]
   generalize hL:zC l x=L at h3 hp3 he hle
   have fx:=aI h6<|aI h7<|aI hbg<|aI hbE<|aI hx8<|aI hx8'<|aI hm<|aI h3<|hp3
   refine qB ?_
   clear fx
   refine⟨8 - (x+1),by omega,x+1,rfl,by omega,by simp [h6],by simp;exact wrp (by omega) (by omega),by simp [he],?_,by simp [he];omega⟩
   rw [he]
   simp [hp3,qY]
  ·have he:zC l (x+1)=zC l x:=by simp [zC,hm]
   have fx:=aI h6<|aI h7<|aI hbg<|aI hbE<|aI hx8<|aI hx8'<|hm
   refine qB ?_
   clear fx
   exact⟨8 - (x+1),by omega,x+1,rfl,by omega,by simp [h6],by simp;exact wrp (by omega) (by omega),by simp [he,h3],by simp [he,hp3],by rw [he];omega⟩
 ·have hge:x=8:=by
   have:¬ (x:Int)<8:=by simpa using hf
   omega
  subst hge
  have fx:=aI h3<|hp3
  refine qB ?_
  clear fx
  exact zZ (t:=2) (by first|(simp [hp3];done)|(simp [hp3];rfl)) (by first|(simp [hp3];done)|(simp [hp3];rfl)) (by simp)
end Go.Proofs.YtbgmnmnoaamgkaaGreatDoor
end
