/- For the laws of the group C19: the Lean functions that the Go functions compute, and proofs that they do. Written by wip/hprint.py of this repo over the kit's printer; nothing here is trusted: Lean checks it. -/
import Derived.Test.YteoaegigjlhamaaPC19x0
import Derived.Test.YteoaegigjlhamaaPC19x4
import Derived.Test.YteoaegigjlhamaaPC19x5
namespace Go.Proofs.Yteoaegigjlhamaa.PC19
open Go.RowKit Go.Proofs.YteoaegigjlhamaaW.PrintWords Go.Proofs.YteoaegigjlhamaaW.PrintLast Go.Proofs.YteoaegigjlhamaaW.PrintMore
attribute [local go_sem] max2_int min2_int max_two min_two max_three min_three max_four min_four
set_option linter.unusedVariables false
set_option linter.unusedSimpArgs false
/-! ### cluster_Of:function 13:by hand -/
def cluster_Of.grow (c:S40) (r1 r2 a3:Int) (a5:Bool) (b4 n:Int):S40:=⟨c.f0,wrap64 (c.f1+r1),c.f2,n,if (a3==1)=true then c.f4 else if (r2==65039)=true then (if a5=true then 2 else max c.f4 b4) else max c.f4 b4,c.f5⟩
def cluster_Of.lp:List S36→List S40→Int→Int→Int→Int→Int→Bool→Int→Int→Nat→Option (List S40)
 | [],out,_,_,_,_,_,_,_,_,_=>some out
 | r::t,out,a0,a1,a2,a3,a4,a5,a6,a7,i =>
  (cluster_see.f r.f0 r.f1 r.f2).bind fun b=>(cluster_seen_then.f a0 a1 a2 a3 a4 a5 a6 a7 b.1 b.2.1 b.2.2.1 b.2.2.2.1 b.2.2.2.2.1 b.2.2.2.2.2).bind fun n =>
   if i=0 then (if out.length < 2932031007402 then (cluster_first.f b.1 b.2.1 b.2.2.1 b.2.2.2.1 b.2.2.2.2.1 b.2.2.2.2.2 (i:Int)).bind fun c=>cluster_Of.lp t (out++[⟨c.1,c.2.1,c.2.2.1,c.2.2.2.1,c.2.2.2.2.1,c.2.2.2.2.2⟩]) n.1 n.2.1 n.2.2.1 n.2.2.2.1 n.2.2.2.2.1 n.2.2.2.2.2.1 n.2.2.2.2.2.2.1 n.2.2.2.2.2.2.2 (i+1) else none)
   else (cluster_seen_joins.f a0 a1 a2 a3 a4 a5 a6 a7 b.1 b.2.1 b.2.2.1 b.2.2.2.1 b.2.2.2.2.1 b.2.2.2.2.2).bind fun j =>
    if j=true then (if 0 < out.length then cluster_Of.lp t (out.set (out.length - 1) (cluster_Of.grow (out.getD (out.length - 1) z40) r.f1 r.f2 a3 a5 b.2.2.2.2.1 ((i:Int)+1))) n.1 n.2.1 n.2.2.1 n.2.2.2.1 n.2.2.2.2.1 n.2.2.2.2.2.1 n.2.2.2.2.2.2.1 n.2.2.2.2.2.2.2 (i+1) else none)
    else (if out.length < 2932031007402 then (cluster_first.f b.1 b.2.1 b.2.2.1 b.2.2.2.1 b.2.2.2.2.1 b.2.2.2.2.2 (i:Int)).bind fun c=>cluster_Of.lp t (out++[⟨c.1,c.2.1,c.2.2.1,c.2.2.2.1,c.2.2.2.2.1,c.2.2.2.2.2⟩]) n.1 n.2.1 n.2.2.1 n.2.2.2.1 n.2.2.2.2.1 n.2.2.2.2.2.1 n.2.2.2.2.2.2.1 n.2.2.2.2.2.2.2 (i+1) else none)
def cluster_Of.f (l0:List S36):Option (List S40):=cluster_Of.lp l0 [] 0 0 0 0 0 false 0 0 0
section
open Go.Proofs.YteoaegigjlhamaaH
def cluster_Of.St (w0 W:World) (ok:Nat→Prop) (v:Value) (out:List S40) (A:Array Value):Prop :=
 Kd.R k40 40 W w0.heap.size ok v out∧W.heap[w0.heap.size]?=some (.cells A 64 (0,0))∧Below w0.heap.size w0 W∧ ∀ k,ok k→k≠w0.heap.size
theorem cluster_Of.St_below {w0 W W':World} {ok:Nat→Prop} {v:Value} {out:List S40} {A:Array Value} (h:cluster_Of.St w0 W ok v out A) (hb:Below W.heap.size W W'):cluster_Of.St w0 W' ok v out A :=
 ⟨Kd.R_below h.1 hb,blk_below h.2.1 hb,below_step h.2.2.1 hb,h.2.2.2⟩
theorem cluster_Of.St_alloc {w0 W W':World} {ok:Nat→Prop} {v:Value} {out:List S40} {A:Array Value} (h:cluster_Of.St w0 W ok v out A) (hb:Below W.heap.size W W') {g:Nat} (hg:g=W.heap.size):cluster_Of.St w0 W' (fun k=>ok k∧k≠g) v out A :=
 ⟨Kd.R_below (Kd.R_elderB h.1 g (by omega)) hb,blk_below h.2.1 hb,below_step h.2.2.1 hb,fun k hk=>h.2.2.2 k hk.1⟩
theorem cluster_Of.St_put {w0 W W':World} {ok:Nat→Prop} {v:Value} {out:List S40} {A:Array Value} (h:cluster_Of.St w0 W ok v out A) {g:Nat} (hk: ∀ k,k≠g→W'.heap[k]?=W.heap[k]?) (hB: ∀ B w0,Below B w0 W→B≤g→Below B w0 W') (hg:w0.heap.size < g) (hok: ∀ k,ok k→k≠g):cluster_Of.St w0 W' ok v out A :=
 ⟨Kd.R_move h.1 (fun k hk2=>hk k (hok k hk2)),(hk _ (by omega)).trans h.2.1,hB _ _ h.2.2.1 (by omega),h.2.2.2⟩
theorem cluster_Of.St_putA {w0 W W':World} {ok:Nat→Prop} {v:Value} {out:List S40} {A A':Array Value} (h:cluster_Of.St w0 W ok v out A) (hk: ∀ k,k≠w0.heap.size→W'.heap[k]?=W.heap[k]?) (hB: ∀ B w,Below B w W→B≤w0.heap.size→Below B w W') (hA:W'.heap[w0.heap.size]?=some (.cells A' 64 (0,0))):cluster_Of.St w0 W' ok v out A' :=
 ⟨Kd.R_move h.1 (fun k hk2=>hk k (h.2.2.2 k hk2)),hA,hB _ _ h.2.2.1 (Nat.le_refl _),h.2.2.2⟩
theorem cluster_Of.St_app {w0 W W':World} {ok:Nat→Prop} {v v':Value} {out out':List S40} {A:Array Value} (h:cluster_Of.St w0 W ok v out A) (ho:Kd.R k40 40 W' w0.heap.size ok v' out') (hb:Below w0.heap.size w0 W') (hg:W.grownBy W' v.ownBlock):cluster_Of.St w0 W' ok v' out' A :=
 ⟨ho,blk_grown h.2.1 hg (Kd.R_away h.1 h.2.2.2),hb,h.2.2.2⟩
theorem cluster_Of.St_weak {w0 W:World} {ok1 ok2:Nat→Prop} {v:Value} {out:List S40} {A:Array Value} (h:cluster_Of.St w0 W (fun k=>(k≠w0.heap.size∧ok1 k)∧ok2 k) v out A):cluster_Of.St w0 W (fun k=>k≠w0.heap.size) v out A :=
 ⟨Kd.R_mono h.1 (fun _ hk=>hk.1.1),h.2.1,h.2.2.1,fun _ hk=>hk⟩
theorem cluster_Of.block_load {P:Program} {ops:Array Oper} {rest:List Oper} {o:Oper} {a:Act} {Q:Exit→Act→World→Prop} {W:World} (hgd:o.guard=none) (t:TypeId) (p:Operand) (ho:o.op= .load t p) {g e:Nat} {cs:Array Value} (hp:a.eval p= .pointer (some ⟨g,0,none⟩)) (hb:W.heap[g]?=some (.cells cs e (0,0))) (d:TypeDesc)
  (hu:P.underlying t=some d) (hd:(match d with| .struct _| .array _ _=>true|_=>false)=true) (hi:(P.info? t).map (·.size)=some cs.size) (hw:wpList P ops Q rest (a.put o.dst (.agg cs)) W):wpList P ops Q (o::rest) a W:=by
 refine agg_load hgd t p ho ⟨g,0,none⟩ hp cs.toList d hu hd (by rw [Array.length_toList];exact hi) (fun j v hj=>?_) hw
 have e:(⟨g,0,none⟩:Addr).add j=⟨g,j,none⟩:=by
  by_cases h0:j=0
  ·
   rw [h0];rfl
  ·
   simp [Addr.add,h0]
 rw [e,blk_cell hb j]
 simpa using hj
theorem cluster_Of.cells3 (a b c:Int): ∀ q ∈ (Value.agg #[.int .i64 a,.int .i64 b,.int .i64 c]).cells.toList,q.oneCell'=true:=fun q hq=>by
 have hq':q ∈ [Value.int .i64 a,.int .i64 b,.int .i64 c]:=hq
 simp only [List.mem_cons,List.not_mem_nil,or_false] at hq'
 rcases hq' with rfl|rfl|rfl <;> rfl
theorem cluster_Of.cells6 (a b c d e:Int) (f:Bool): ∀ q ∈ (Value.agg #[.int .i64 a,.int .i64 b,.int .i64 c,.int .i64 d,.int .i64 e,.bool f]).cells.toList,q.oneCell'=true:=fun q hq=>by
 have hq':q ∈ [Value.int .i64 a,.int .i64 b,.int .i64 c,.int .i64 d,.int .i64 e,.bool f]:=hq
 simp only [List.mem_cons,List.not_mem_nil,or_false] at hq'
 rcases hq' with rfl|rfl|rfl|rfl|rfl|rfl <;> rfl
theorem cluster_Of.cells8 (a b c d e:Int) (f:Bool) (g h:Int): ∀ q ∈ (Value.agg #[.int .i64 a,.int .i64 b,.int .i64 c,.int .i64 d,.int .i64 e,.bool f,.int .i64 g,.int .i64 h]).cells.toList,q.oneCell'=true:=fun q hq=>by
 have hq':q ∈ [Value.int .i64 a,.int .i64 b,.int .i64 c,.int .i64 d,.int .i64 e,.bool f,.int .i64 g,.int .i64 h]:=hq
 simp only [List.mem_cons,List.not_mem_nil,or_false] at hq'
 rcases hq' with rfl|rfl|rfl|rfl|rfl|rfl|rfl|rfl <;> rfl
def cluster_Of.cellsC (x:S40):List Value:=[.int .i64 x.f0,.int .i64 x.f1,.int .i64 x.f2,.int .i64 x.f3,.int .i64 x.f4,.int .i64 x.f5]
theorem cluster_Of.fld {W:World} {base g m cap:Nat} {ok:Nat→Prop} {xs:List S40} (h:Kd.R k40 40 W base ok (.slice (some ⟨g,0,none⟩) m cap) xs) (n:Nat) (hn:n < m) (x':S40) (j:Nat) (u:Value) (hj:j+1≤6)
  (hc:cluster_Of.cellsC x'=(cluster_Of.cellsC (xs.getD n z40)).take j++[u]++(cluster_Of.cellsC (xs.getD n z40)).drop (j+1)) :
  Kd.R k40 40 (W.setCell ⟨g,n * 6+j,none⟩ u) base ok (.slice (some ⟨g,0,none⟩) m cap) (xs.set n x')∧W.grownBy (W.setCell ⟨g,n * 6+j,none⟩ u) (some g):=by
 obtain ⟨c,hcl,hM,hcc,hfr⟩:=Kd.R_elem h z40 (n:Int) (by omega) (by omega)
 obtain rfl:=k40_openM hM
 have hx:([.int .i64 (xs.getD ((n:Int).toNat) z40).f0,.int .i64 (xs.getD ((n:Int).toNat) z40).f1,.int .i64 (xs.getD ((n:Int).toNat) z40).f2,.int .i64 (xs.getD ((n:Int).toNat) z40).f3,.int .i64 (xs.getD ((n:Int).toNat) z40).f4,.int .i64 (xs.getD ((n:Int).toNat) z40).f5]:List Value)=cluster_Of.cellsC (xs.getD n z40):=rfl
 rw [hx] at hcl hcc
 exact Kd.R_seg (d:=k40) h (n:Int) (by omega) (by omega) (j:=j) (seg:=[u]) (x':=x') (okp:=fun _=>False) hcl hcc hj (by show k40.M W base _ x' ((cluster_Of.cellsC (xs.getD n z40)).take j++[u]++(cluster_Of.cellsC (xs.getD n z40)).drop (j+1));rw [← hc];exact k40_mkM _ _ _ x') (fun _ hk=>hk.elim)
theorem cluster_Of.cell_at {W:World} {base g m cap:Nat} {ok:Nat→Prop} {xs:List S40} (h:Kd.R k40 40 W base ok (.slice (some ⟨g,0,none⟩) m cap) xs) (n:Nat) (hn:n < m) :
  (∀ j u,(cluster_Of.cellsC (xs.getD n z40))[j]?=some u→W.cell? ⟨g,n * 6+j,none⟩=some u)∧ ∀ j,W.frozen? ⟨g,n * 6+j,none⟩=false:=by
 obtain ⟨c,hcl,hM,hcc,hfr⟩:=Kd.R_elem h z40 (n:Int) (by omega) (by omega)
 obtain rfl:=k40_openM hM
 exact ⟨hcc,hfr⟩
theorem cluster_Of.St_drew {w0 W:World} {ok:Nat→Prop} {v:Value} {out:List S40} {A:Array Value} (h:cluster_Of.St w0 W ok v out A):cluster_Of.St w0 W.drew ok v out A :=
 cluster_Of.St_below h (below_drew (Below.refl _ _))
theorem cluster_Of.St_fld {w0 W:World} {ok:Nat→Prop} {g M cap:Nat} {out:List S40} {A:Array Value} (h:cluster_Of.St w0 W ok (.slice (some ⟨g,0,none⟩) M cap) out A) (n:Nat) (hn:n < M) (x':S40) (j:Nat) (u:Value) (hj:j+1≤6)
  (hc:cluster_Of.cellsC x'=(cluster_Of.cellsC (out.getD n z40)).take j++[u]++(cluster_Of.cellsC (out.getD n z40)).drop (j+1)) :
  cluster_Of.St w0 (W.setCell ⟨g,n * 6+j,none⟩ u) ok (.slice (some ⟨g,0,none⟩) M cap) (out.set n x') A:=by
 obtain ⟨h1,h2⟩:=cluster_Of.fld h.1 n hn x' j u hj hc
 exact ⟨h1,blk_grown h.2.1 h2 (Kd.R_away h.1 h.2.2.2),h.2.2.1.setCell (Kd.R_base h.1 g rfl) _,h.2.2.2⟩
theorem cluster_Of.get_set (out:List S40) (n:Nat) (x:S40) (hn:n < out.length):(out.set n x).getD n z40=x:=by
 rw [List.getD_eq_getElem?_getD,List.getElem?_set_self hn]
 rfl
set_option maxHeartbeats 8000000 in
set_option maxRecDepth 100000 in
theorem cluster_Of.calls (A0:Option Addr) (q0:Nat) (l0:List S36) (xs:List S40) (w:World) (hr0:Kd.C k36 w A0 l0.length l0) (hq0:l0.length≤q0) (h:cluster_Of.f l0=some xs) :
  Calls Try.prog 13 #[.slice A0 l0.length q0] w fun e w'=> ∃ v,e= .returned v∧Kd.R k40 40 w' w.heap.size (fun _=>True) v xs∧Below w.heap.size w w':=by
 have hn:l0.length≤9223372036854775807:=hr0.2.1
 have hu1:=Try.underlying36
 have hu2:=Try.underlying64
 have hu3:=Try.underlying62
 have hu4:=Try.underlying40
 have HR0:=Aside0.mk hr0
 have HH:=Aside0.mk h
 clear hr0 hq0 h
 have HB:=Aside0.mk (Below.refl w.heap.size w)
 go_enter Try.func13,Try.ntmps13
 go_wp2
 have HS:=Aside0.mk (show cluster_Of.St w (w.alloc (.cells #[.int .i64 0,.int .i64 0,.int .i64 0,.int .i64 0,.int .i64 0,.bool false,.int .i64 0,.int .i64 0] 64)) (fun k=>k≠w.heap.size) (.slice none 0 0) [] #[.int .i64 0,.int .i64 0,.int .i64 0,.int .i64 0,.int .i64 0,.bool false,.int .i64 0,.int .i64 0] from ⟨Kd.R_nil _ _ _ _ _,blk_new _ _,below_alloc HB.out _,fun _ hk=>hk⟩)
 go_loopg [3,11] l0.length (fun kq v3 v11 w'=> ∃ (i:Nat) (out:List S40) (a0 a1 a2 a3 a4:Int) (a5:Bool) (a6 a7:Int),v11= .int .i64 (i:Int)∧i≤l0.length∧l0.length - i≤kq∧Aside0 (cluster_Of.lp (l0.drop i) out a0 a1 a2 a3 a4 a5 a6 a7 i=some xs)∧Aside0 (cluster_Of.St w w' (fun k=>k≠w.heap.size) v3 out #[.int .i64 a0,.int .i64 a1,.int .i64 a2,.int .i64 a3,.int .i64 a4,.bool a5,.int .i64 a6,.int .i64 a7]))
 case atStart=>exact ⟨0,[],0,0,0,0,0,false,0,0,rfl,Nat.zero_le _,by omega,⟨by rw [List.drop_zero];exact HH.out⟩,HS⟩
 case round =>
  clear HS HB HH
  obtain ⟨i,out,a0,a1,a2,a3,a4,a5,a6,a7,rfl,hi,hq,HA,HS⟩:=hrel
  by_cases hlt:i < l0.length
  ·
   have H:=HA.out
   clear HA
   rw [List.drop_eq_getElem_cons hlt] at H
   have hrd:rd_T36 l0 (i:Int)=l0[i]:=by
    unfold rd_T36
    simp [List.getD_eq_getElem?_getD,hlt]
   rw [← hrd] at H
   obtain ⟨ad,e1,hx0,hx1,hx2⟩:=at_T36 HR0.out (i:Int) (by omega) (by omega)
   cases e1
   simp only [Int.toNat_natCast] at hx0 hx1 hx2
   have hb0:=HS.out.2.2.1
   replace hx0:=(hb0.cell (World.block_lt_of_cell? w _ hx0)).trans hx0
   replace hx1:=(hb0.cell (World.block_lt_of_cell? w _ hx1)).trans hx1
   replace hx2:=(hb0.cell (World.block_lt_of_cell? w _ hx2)).trans hx2
   clear hb0 hrd
   generalize rd_T36 l0 (i:Int)=r at *
   obtain ⟨r0,r1,r2⟩:=r
   simp only [cluster_Of.lp] at H
   obtain ⟨b,hsee,H⟩:=Option.bind_eq_some_iff.1 H
   obtain ⟨b0,b1,b2,b3,b4,b5⟩:=b
   obtain ⟨nn,hthen,H⟩:=Option.bind_eq_some_iff.1 H
   obtain ⟨n0,n1,n2,n3,n4,n5,n6,n7⟩:=nn
   have HSEE:=Aside0.mk hsee
   have HT:=Aside0.mk hthen
   clear hsee hthen
   dsimp only at H
   obtain ⟨ii,hii⟩: ∃ z:Int,z=(i:Int):=⟨_,rfl⟩
   have hi0:0≤ii:=by omega
   have hi1:ii < (l0.length:Int):=by omega
   rw [← hii] at H ⊢
   dsimp only at hx0 hx1 hx2
   have HII:=Aside0.mk hii
   have hin:(i:Nat)=ii.toNat:=by omega
   rw [hin] at hx0 hx1 hx2
   clear hii hin
   have hi0e:=eq_true hi0
   have hi1e:=eq_true hi1
   by_cases hz:i=0
   ·
    rw [if_pos hz] at H
    have hzb:(ii==0)=true:=beq_iff_eq.2 (by have:=HII.out;omega)
    by_cases hL:out.length < 2932031007402
    ·
     rw [if_pos hL] at H
     have HL:=Aside0.mk hL
     clear hL hz
     obtain ⟨c,hf,H⟩:=Option.bind_eq_some_iff.1 H
     obtain ⟨c0,c1,c2,c3,c4,c5⟩:=c
     have HF:=Aside0.mk hf
     have HH:=Aside0.mk H
     clear hf H
     go_wp2_with (first|((with_reducible refine gate_dst (N:=6) rfl ?_);refine alloc_event rfl 36 rfl 3 (by kernel_rfl) ?_;intro g6 w1 cs6 hcs hg hb hbel hsz;have n0_:=Aside0.mk (cluster_Of.St_alloc HS.out hbel hg);have G6:=Aside0.mk (show w.heap.size < g6 by rw [hg];exact blk_lt HS.out.2.1);have K6:=Aside0.mk hb;have C6:=Aside0.mk hcs;clear HS hcs hg hb hbel hsz;have HS:=n0_;clear n0_)|((with_reducible refine gate_store (t:=36) (p:=6) (v:= .tmp 15) rfl ?_);refine block_store rfl rfl 36 (.tmp 6) (.tmp 15) rfl rfl (.agg #[.int .i64 r0,.int .i64 r1,.int .i64 r2]) rfl K6.out (by rw [C6.out];rfl) (by rw [C6.out];kernel_rfl) (cluster_Of.cells3 r0 r1 r2) ?_;intro w2 hb hk hs hB;have n0_:=Aside0.mk (cluster_Of.St_put HS.out hk hB G6.out (fun k hk=>hk.2));have n1_:=Aside0.mk hb;clear HS K6 C6 hb hk hs hB;have HS:=n0_;have K6:=n1_;clear n0_ n1_)|((with_reducible refine gate_dst (N:=16) rfl ?_);refine cluster_Of.block_load rfl 36 (.tmp 6) rfl rfl K6.out _ Try.underlying36 rfl (by kernel_rfl) ?_)|(go_at_call 25;(with_reducible refine (cluster_see.calls r0 r1 r2 b0 b1 b2 b3 b4 b5 _ HSEE.out).mono ?_);rintro e w3 ⟨rfl,hb⟩;have n0_:=Aside0.mk (cluster_Of.St_below HS.out hb);have n1_:=Aside0.mk (blk_below K6.out hb);clear HS hb K6;have HS:=n0_;have K6:=n1_;clear n0_ n1_)|((with_reducible refine gate_dst (N:=7) rfl ?_);refine alloc_event rfl 62 rfl 6 (by kernel_rfl) ?_;intro g7 w4 cs7 hcs hg hb hbel hsz;have n0_:=Aside0.mk (cluster_Of.St_alloc HS.out hbel hg);have G7:=Aside0.mk (show w.heap.size < g7∧g6 < g7 by rw [hg];exact ⟨blk_lt HS.out.2.1,blk_lt K6.out⟩);have n1_:=Aside0.mk (blk_below K6.out hbel);have K7:=Aside0.mk hb;have C7:=Aside0.mk hcs;clear HS K6 hcs hg hb hbel hsz;have HS:=n0_;have K6:=n1_;clear n0_ n1_)|((with_reducible refine gate_store (t:=62) (p:=7) (v:= .tmp 17) rfl ?_);refine block_store rfl rfl 62 (.tmp 7) (.tmp 17) rfl rfl (.agg #[.int .i64 b0,.int .i64 b1,.int .i64 b2,.int .i64 b3,.int .i64 b4,.bool b5]) rfl K7.out (by rw [C7.out];rfl) (by rw [C7.out];kernel_rfl) (cluster_Of.cells6 b0 b1 b2 b3 b4 b5) ?_;intro w5 hb hk hs hB;have n0_:=Aside0.mk (cluster_Of.St_put HS.out hk hB G7.out.1 (fun k hk=>hk.2));have n1_:=Aside0.mk hb;have n2_:=Aside0.mk ((hk g6 (by have:=G7.out.2;omega)).trans K6.out);clear HS K6 K7 C7 hb hk hs hB;have HS:=n0_;have K7:=n1_;have K6:=n2_;clear n0_ n1_ n2_)|((with_reducible refine gate_dst (N:=27) rfl ?_);refine cluster_Of.block_load rfl 62 (.tmp 7) rfl rfl K7.out _ Try.underlying62 rfl (by kernel_rfl) ?_)|(go_at_call 27;(with_reducible refine (cluster_first.calls b0 b1 b2 b3 b4 b5 ii c0 c1 c2 c3 c4 c5 _ HF.out).mono ?_);rintro e w7 ⟨rfl,hb⟩;have n0_:=Aside0.mk (cluster_Of.St_below HS.out hb);have n1_:=Aside0.mk (blk_below K6.out hb);have n2_:=Aside0.mk (blk_below K7.out hb);clear HS hb K6 K7;have HS:=n0_;have K6:=n1_;have K7:=n2_;clear n0_ n1_ n2_)|((with_reducible refine gate_builtin (b:= .append) (xs:= #[.tmp 26,.tmp 30]) rfl ?_);at_builtin;refine Kd.R_append k40 (w0:=w) w.heap.size rfl (.tmp 26) (.tmp 30) 37 40 (.agg #[(.int .i64 0),(.int .i64 0),(.int .i64 0),(.int .i64 0),(.int .i64 0),(.int .i64 0)]) 48 rfl Try.underlying37 info40 rfl (by decide) (by omega) _ out (⟨c0,c1,c2,c3,c4,c5⟩:S40) [.int .i64 c0,.int .i64 c1,.int .i64 c2,.int .i64 c3,.int .i64 c4,.int .i64 c5] (fun k=>(k≠w.heap.size∧k≠g6)∧k≠g7) (fun _=>False) rfl rfl (k40_mkM _ _ _ (⟨c0,c1,c2,c3,c4,c5⟩:S40)) (fun _ hk=>hk.elim) (fun k hk=>⟨⟨by have:=blk_lt HS.out.2.1;omega,by have:=blk_lt K6.out;omega⟩,by have:=blk_lt K7.out;omega⟩) HS.out.1 HS.out.2.2.1 HS.out.2.2.1.size (by have:=HL.out;omega) ?_;intro v8 w8 ho hb hg hat;have n0_:=Aside0.mk (cluster_Of.St_app HS.out ho hb hg);have n1_:=Aside0.mk (blk_grown K6.out hg (Kd.R_away HS.out.1 (fun k hk=>hk.1.2)));have n2_:=Aside0.mk (blk_grown K7.out hg (Kd.R_away HS.out.1 (fun k hk=>hk.2)));clear HS K6 K7 ho hb hg hat;have HS:=n0_;have K6:=n1_;have K7:=n2_;clear n0_ n1_ n2_)|((with_reducible refine gate_dst (N:=32) rfl ?_);refine cluster_Of.block_load rfl 64 (.tmp 4) rfl rfl HS.out.2.1 _ Try.underlying64 rfl (by kernel_rfl) ?_)|((with_reducible refine gate_dst (N:=33) rfl ?_);refine cluster_Of.block_load rfl 62 (.tmp 7) rfl rfl K7.out _ Try.underlying62 rfl (by kernel_rfl) ?_)|(go_at_call 28;(with_reducible refine (cluster_seen_then.calls a0 a1 a2 a3 a4 a5 a6 a7 b0 b1 b2 b3 b4 b5 n0 n1 n2 n3 n4 n5 n6 n7 _ HT.out).mono ?_);rintro e w9 ⟨rfl,hb⟩;have n0_:=Aside0.mk (cluster_Of.St_below HS.out hb);have n1_:=Aside0.mk (blk_below K6.out hb);have n2_:=Aside0.mk (blk_below K7.out hb);clear HS hb K6 K7;have HS:=n0_;have K6:=n1_;have K7:=n2_;clear n0_ n1_ n2_)|((with_reducible refine gate_store (t:=64) (p:=4) (v:= .tmp 34) rfl ?_);refine block_store rfl rfl 64 (.tmp 4) (.tmp 34) rfl rfl (.agg #[.int .i64 n0,.int .i64 n1,.int .i64 n2,.int .i64 n3,.int .i64 n4,.bool n5,.int .i64 n6,.int .i64 n7]) rfl HS.out.2.1 rfl (by kernel_rfl) (cluster_Of.cells8 n0 n1 n2 n3 n4 n5 n6 n7) ?_;intro w10 hb hk hs hB;have n0_:=Aside0.mk (cluster_Of.St_putA HS.out hk hB hb);clear HS hb hk hs hB;have HS:=n0_;clear n0_))
     go_roundg (l0.length - (i+1))
     case measure=>omega
     case rel=>exact ⟨i+1,_,n0,n1,n2,n3,n4,n5,n6,n7,by rw [HII.out];go_num,by omega,Nat.le_refl _,HH,⟨cluster_Of.St_weak HS.out⟩⟩
    ·
     rw [if_neg hL] at H
     cases H
   ·
    rw [if_neg hz] at H
    have hzb:(ii==0)=false:=beq_eq_false_iff_ne.2 (by have:=HII.out;omega)
    obtain ⟨jj,hj,H⟩:=Option.bind_eq_some_iff.1 H
    have HJ:=Aside0.mk hj
    clear hj
    cases jj with
    | false =>
     rw [if_neg (by decide)] at H
     by_cases hL:out.length < 2932031007402
     ·
      rw [if_pos hL] at H
      have HL:=Aside0.mk hL
      clear hL hz
      obtain ⟨c,hf,H⟩:=Option.bind_eq_some_iff.1 H
      obtain ⟨c0,c1,c2,c3,c4,c5⟩:=c
      have HF:=Aside0.mk hf
      have HH:=Aside0.mk H
      clear hf H
      go_wp2_with (first|((with_reducible refine gate_dst (N:=6) rfl ?_);refine alloc_event rfl 36 rfl 3 (by kernel_rfl) ?_;intro g6 w1 cs6 hcs hg hb hbel hsz;have n0_:=Aside0.mk (cluster_Of.St_alloc HS.out hbel hg);have G6:=Aside0.mk (show w.heap.size < g6 by rw [hg];exact blk_lt HS.out.2.1);have K6:=Aside0.mk hb;have C6:=Aside0.mk hcs;clear HS hcs hg hb hbel hsz;have HS:=n0_;clear n0_)|((with_reducible refine gate_store (t:=36) (p:=6) (v:= .tmp 15) rfl ?_);refine block_store rfl rfl 36 (.tmp 6) (.tmp 15) rfl rfl (.agg #[.int .i64 r0,.int .i64 r1,.int .i64 r2]) rfl K6.out (by rw [C6.out];rfl) (by rw [C6.out];kernel_rfl) (cluster_Of.cells3 r0 r1 r2) ?_;intro w2 hb hk hs hB;have n0_:=Aside0.mk (cluster_Of.St_put HS.out hk hB G6.out (fun k hk=>hk.2));have n1_:=Aside0.mk hb;clear HS K6 C6 hb hk hs hB;have HS:=n0_;have K6:=n1_;clear n0_ n1_)|((with_reducible refine gate_dst (N:=16) rfl ?_);refine cluster_Of.block_load rfl 36 (.tmp 6) rfl rfl K6.out _ Try.underlying36 rfl (by kernel_rfl) ?_)|(go_at_call 25;(with_reducible refine (cluster_see.calls r0 r1 r2 b0 b1 b2 b3 b4 b5 _ HSEE.out).mono ?_);rintro e w3 ⟨rfl,hb⟩;have n0_:=Aside0.mk (cluster_Of.St_below HS.out hb);have n1_:=Aside0.mk (blk_below K6.out hb);clear HS hb K6;have HS:=n0_;have K6:=n1_;clear n0_ n1_)|((with_reducible refine gate_dst (N:=7) rfl ?_);refine alloc_event rfl 62 rfl 6 (by kernel_rfl) ?_;intro g7 w4 cs7 hcs hg hb hbel hsz;have n0_:=Aside0.mk (cluster_Of.St_alloc HS.out hbel hg);have G7:=Aside0.mk (show w.heap.size < g7∧g6 < g7 by rw [hg];exact ⟨blk_lt HS.out.2.1,blk_lt K6.out⟩);have n1_:=Aside0.mk (blk_below K6.out hbel);have K7:=Aside0.mk hb;have C7:=Aside0.mk hcs;clear HS K6 hcs hg hb hbel hsz;have HS:=n0_;have K6:=n1_;clear n0_ n1_)|((with_reducible refine gate_store (t:=62) (p:=7) (v:= .tmp 17) rfl ?_);refine block_store rfl rfl 62 (.tmp 7) (.tmp 17) rfl rfl (.agg #[.int .i64 b0,.int .i64 b1,.int .i64 b2,.int .i64 b3,.int .i64 b4,.bool b5]) rfl K7.out (by rw [C7.out];rfl) (by rw [C7.out];kernel_rfl) (cluster_Of.cells6 b0 b1 b2 b3 b4 b5) ?_;intro w5 hb hk hs hB;have n0_:=Aside0.mk (cluster_Of.St_put HS.out hk hB G7.out.1 (fun k hk=>hk.2));have n1_:=Aside0.mk hb;have n2_:=Aside0.mk ((hk g6 (by have:=G7.out.2;omega)).trans K6.out);clear HS K6 K7 C7 hb hk hs hB;have HS:=n0_;have K7:=n1_;have K6:=n2_;clear n0_ n1_ n2_;have ca0:=(blk_cell HS.out.2.1 0).trans rfl;have ca1:=(blk_cell HS.out.2.1 1).trans rfl;have ca2:=(blk_cell HS.out.2.1 2).trans rfl;have ca3:=(blk_cell HS.out.2.1 3).trans rfl;have ca4:=(blk_cell HS.out.2.1 4).trans rfl;have ca5:=(blk_cell HS.out.2.1 5).trans rfl;have ca6:=(blk_cell HS.out.2.1 6).trans rfl;have ca7:=(blk_cell HS.out.2.1 7).trans rfl;have cb0:=(blk_cell K7.out 0).trans rfl;have cb1:=(blk_cell K7.out 1).trans rfl;have cb2:=(blk_cell K7.out 2).trans rfl;have cb3:=(blk_cell K7.out 3).trans rfl;have cb4:=(blk_cell K7.out 4).trans rfl;have cb5:=(blk_cell K7.out 5).trans rfl)|(go_at_call 26;(with_reducible refine (cluster_seen_joins.calls a0 a1 a2 a3 a4 a5 a6 a7 b0 b1 b2 b3 b4 b5 false _ HJ.out).mono ?_);rintro e w6 ⟨rfl,hb⟩;have n0_:=Aside0.mk (cluster_Of.St_below HS.out hb);have n1_:=Aside0.mk (blk_below K6.out hb);have n2_:=Aside0.mk (blk_below K7.out hb);clear HS hb K6 K7;have HS:=n0_;have K6:=n1_;have K7:=n2_;clear n0_ n1_ n2_;clear ca0 ca1 ca2 ca3 ca4 ca5 ca6 ca7 cb0 cb1 cb2 cb3 cb4 cb5)|((with_reducible refine gate_dst (N:=27) rfl ?_);refine cluster_Of.block_load rfl 62 (.tmp 7) rfl rfl K7.out _ Try.underlying62 rfl (by kernel_rfl) ?_)|(go_at_call 27;(with_reducible refine (cluster_first.calls b0 b1 b2 b3 b4 b5 ii c0 c1 c2 c3 c4 c5 _ HF.out).mono ?_);rintro e w7 ⟨rfl,hb⟩;have n0_:=Aside0.mk (cluster_Of.St_below HS.out hb);have n1_:=Aside0.mk (blk_below K6.out hb);have n2_:=Aside0.mk (blk_below K7.out hb);clear HS hb K6 K7;have HS:=n0_;have K6:=n1_;have K7:=n2_;clear n0_ n1_ n2_)|((with_reducible refine gate_builtin (b:= .append) (xs:= #[.tmp 26,.tmp 30]) rfl ?_);at_builtin;refine Kd.R_append k40 (w0:=w) w.heap.size rfl (.tmp 26) (.tmp 30) 37 40 (.agg #[(.int .i64 0),(.int .i64 0),(.int .i64 0),(.int .i64 0),(.int .i64 0),(.int .i64 0)]) 48 rfl Try.underlying37 info40 rfl (by decide) (by omega) _ out (⟨c0,c1,c2,c3,c4,c5⟩:S40) [.int .i64 c0,.int .i64 c1,.int .i64 c2,.int .i64 c3,.int .i64 c4,.int .i64 c5] (fun k=>(k≠w.heap.size∧k≠g6)∧k≠g7) (fun _=>False) rfl rfl (k40_mkM _ _ _ (⟨c0,c1,c2,c3,c4,c5⟩:S40)) (fun _ hk=>hk.elim) (fun k hk=>⟨⟨by have:=blk_lt HS.out.2.1;omega,by have:=blk_lt K6.out;omega⟩,by have:=blk_lt K7.out;omega⟩) HS.out.1 HS.out.2.2.1 HS.out.2.2.1.size (by have:=HL.out;omega) ?_;intro v8 w8 ho hb hg hat;have n0_:=Aside0.mk (cluster_Of.St_app HS.out ho hb hg);have n1_:=Aside0.mk (blk_grown K6.out hg (Kd.R_away HS.out.1 (fun k hk=>hk.1.2)));have n2_:=Aside0.mk (blk_grown K7.out hg (Kd.R_away HS.out.1 (fun k hk=>hk.2)));clear HS K6 K7 ho hb hg hat;have HS:=n0_;have K6:=n1_;have K7:=n2_;clear n0_ n1_ n2_)|((with_reducible refine gate_dst (N:=32) rfl ?_);refine cluster_Of.block_load rfl 64 (.tmp 4) rfl rfl HS.out.2.1 _ Try.underlying64 rfl (by kernel_rfl) ?_)|((with_reducible refine gate_dst (N:=33) rfl ?_);refine cluster_Of.block_load rfl 62 (.tmp 7) rfl rfl K7.out _ Try.underlying62 rfl (by kernel_rfl) ?_)|(go_at_call 28;(with_reducible refine (cluster_seen_then.calls a0 a1 a2 a3 a4 a5 a6 a7 b0 b1 b2 b3 b4 b5 n0 n1 n2 n3 n4 n5 n6 n7 _ HT.out).mono ?_);rintro e w9 ⟨rfl,hb⟩;have n0_:=Aside0.mk (cluster_Of.St_below HS.out hb);have n1_:=Aside0.mk (blk_below K6.out hb);have n2_:=Aside0.mk (blk_below K7.out hb);clear HS hb K6 K7;have HS:=n0_;have K6:=n1_;have K7:=n2_;clear n0_ n1_ n2_)|((with_reducible refine gate_store (t:=64) (p:=4) (v:= .tmp 34) rfl ?_);refine block_store rfl rfl 64 (.tmp 4) (.tmp 34) rfl rfl (.agg #[.int .i64 n0,.int .i64 n1,.int .i64 n2,.int .i64 n3,.int .i64 n4,.bool n5,.int .i64 n6,.int .i64 n7]) rfl HS.out.2.1 rfl (by kernel_rfl) (cluster_Of.cells8 n0 n1 n2 n3 n4 n5 n6 n7) ?_;intro w10 hb hk hs hB;have n0_:=Aside0.mk (cluster_Of.St_putA HS.out hk hB hb);clear HS hb hk hs hB;have HS:=n0_;clear n0_))
      go_roundg (l0.length - (i+1))
      case measure=>omega
      case rel=>exact ⟨i+1,_,n0,n1,n2,n3,n4,n5,n6,n7,by rw [HII.out];go_num,by omega,Nat.le_refl _,HH,⟨cluster_Of.St_weak HS.out⟩⟩
     ·
      rw [if_neg hL] at H
      cases H
    | true =>
     rw [if_pos rfl] at H
     by_cases hp:0 < out.length
     ·
      rw [if_pos hp] at H
      obtain ⟨m,hm⟩: ∃ m,out.length=m+1:=⟨out.length - 1,by omega⟩
      obtain ⟨g3,q3,rfl,hgb,hgl,hty⟩:=Kd.R_form HS.out.1 hp
      clear hgb hgl hty
      rw [hm] at H HS ⊢
      rw [Nat.add_sub_cancel] at H
      have HM:=Aside0.mk hm
      have HH:=Aside0.mk H
      clear H hm hp hz
      have hwr:IntKind.i64.wrap (m:Int)=(m:Int):=by have:=(Kd.R_reads' HS.out.1).2.2.2.1;have:=HM.out;rw [IntKind.wrap_i64];omega
      go_upto_region 11 with (first|((with_reducible refine gate_dst (N:=6) rfl ?_);refine alloc_event rfl 36 rfl 3 (by kernel_rfl) ?_;intro g6 w1 cs6 hcs hg hb hbel hsz;have n0_:=Aside0.mk (cluster_Of.St_alloc HS.out hbel hg);have G6:=Aside0.mk (show w.heap.size < g6 by rw [hg];exact blk_lt HS.out.2.1);have K6:=Aside0.mk hb;have C6:=Aside0.mk hcs;clear HS hcs hg hb hbel hsz;have HS:=n0_;clear n0_)|((with_reducible refine gate_store (t:=36) (p:=6) (v:= .tmp 15) rfl ?_);refine block_store rfl rfl 36 (.tmp 6) (.tmp 15) rfl rfl (.agg #[.int .i64 r0,.int .i64 r1,.int .i64 r2]) rfl K6.out (by rw [C6.out];rfl) (by rw [C6.out];kernel_rfl) (cluster_Of.cells3 r0 r1 r2) ?_;intro w2 hb hk hs hB;have n0_:=Aside0.mk (cluster_Of.St_put HS.out hk hB G6.out (fun k hk=>hk.2));have n1_:=Aside0.mk hb;clear HS K6 C6 hb hk hs hB;have HS:=n0_;have K6:=n1_;clear n0_ n1_)|((with_reducible refine gate_dst (N:=16) rfl ?_);refine cluster_Of.block_load rfl 36 (.tmp 6) rfl rfl K6.out _ Try.underlying36 rfl (by kernel_rfl) ?_)|(go_at_call 25;(with_reducible refine (cluster_see.calls r0 r1 r2 b0 b1 b2 b3 b4 b5 _ HSEE.out).mono ?_);rintro e w3 ⟨rfl,hb⟩;have n0_:=Aside0.mk (cluster_Of.St_below HS.out hb);have n1_:=Aside0.mk (blk_below K6.out hb);clear HS hb K6;have HS:=n0_;have K6:=n1_;clear n0_ n1_)|((with_reducible refine gate_dst (N:=7) rfl ?_);refine alloc_event rfl 62 rfl 6 (by kernel_rfl) ?_;intro g7 w4 cs7 hcs hg hb hbel hsz;have n0_:=Aside0.mk (cluster_Of.St_alloc HS.out hbel hg);have G7:=Aside0.mk (show w.heap.size < g7∧g6 < g7 by rw [hg];exact ⟨blk_lt HS.out.2.1,blk_lt K6.out⟩);have n1_:=Aside0.mk (blk_below K6.out hbel);have K7:=Aside0.mk hb;have C7:=Aside0.mk hcs;clear HS K6 hcs hg hb hbel hsz;have HS:=n0_;have K6:=n1_;clear n0_ n1_)|((with_reducible refine gate_store (t:=62) (p:=7) (v:= .tmp 17) rfl ?_);refine block_store rfl rfl 62 (.tmp 7) (.tmp 17) rfl rfl (.agg #[.int .i64 b0,.int .i64 b1,.int .i64 b2,.int .i64 b3,.int .i64 b4,.bool b5]) rfl K7.out (by rw [C7.out];rfl) (by rw [C7.out];kernel_rfl) (cluster_Of.cells6 b0 b1 b2 b3 b4 b5) ?_;intro w5 hb hk hs hB;have n0_:=Aside0.mk (cluster_Of.St_put HS.out hk hB G7.out.1 (fun k hk=>hk.2));have n1_:=Aside0.mk hb;have n2_:=Aside0.mk ((hk g6 (by have:=G7.out.2;omega)).trans K6.out);clear HS K6 K7 C7 hb hk hs hB;have HS:=n0_;have K7:=n1_;have K6:=n2_;clear n0_ n1_ n2_;have ca0:=(blk_cell HS.out.2.1 0).trans rfl;have ca1:=(blk_cell HS.out.2.1 1).trans rfl;have ca2:=(blk_cell HS.out.2.1 2).trans rfl;have ca3:=(blk_cell HS.out.2.1 3).trans rfl;have ca4:=(blk_cell HS.out.2.1 4).trans rfl;have ca5:=(blk_cell HS.out.2.1 5).trans rfl;have ca6:=(blk_cell HS.out.2.1 6).trans rfl;have ca7:=(blk_cell HS.out.2.1 7).trans rfl;have cb0:=(blk_cell K7.out 0).trans rfl;have cb1:=(blk_cell K7.out 1).trans rfl;have cb2:=(blk_cell K7.out 2).trans rfl;have cb3:=(blk_cell K7.out 3).trans rfl;have cb4:=(blk_cell K7.out 4).trans rfl;have cb5:=(blk_cell K7.out 5).trans rfl)|(go_at_call 26;(with_reducible refine (cluster_seen_joins.calls a0 a1 a2 a3 a4 a5 a6 a7 b0 b1 b2 b3 b4 b5 true _ HJ.out).mono ?_);rintro e w6 ⟨rfl,hb⟩;have n0_:=Aside0.mk (cluster_Of.St_below HS.out hb);have n1_:=Aside0.mk (blk_below K6.out hb);have n2_:=Aside0.mk (blk_below K7.out hb);clear HS hb K6 K7;have HS:=n0_;have K6:=n1_;have K7:=n2_;clear n0_ n1_ n2_;clear ca0 ca1 ca2 ca3 ca4 ca5 ca6 ca7 cb0 cb1 cb2 cb3 cb4 cb5))
      obtain ⟨hcl,hfr⟩:=cluster_Of.cell_at HS.out.1 m (by omega)
      have hf1:=hfr 1
      have hf3:=hfr 3
      have hc1:=hcl 1 _ rfl
      have hc3:=hcl 3 _ rfl
      have h61:=(blk_cell K6.out 1).trans rfl
      clear hcl hfr
      generalize hc:out.getD m z40=c at *
      obtain ⟨c0,c1,c2,c3,c4,c5⟩:=c
      have HC:=Aside0.mk hc
      clear hc
      dsimp only at hc1 hc3
      (try simp only [Act.put,List.setIfInBounds_toArray,List.set_cons_zero,List.set_cons_succ])
      refine start_ (n:=17) (S:=fun w'=>w'.cell? ⟨g3,m * 6+1,none⟩=some (.int .i64 c1)∧w'.cell? ⟨g6,1,none⟩=some (.int .i64 r1)) (ds:=[13,16]) #[false,false,false,false,false,false,false,false,false,false,false,false,false,false,false,false,false] (by kernel_rfl) rfl rfl ⟨hc1,h61⟩ (fun hHeld=>?_)
      refine pure_ (i:=0) (N:=some 40) (v:=?_) (a':=?_) #[true,false,false,false,false,false,false,false,false,false,false,false,false,false,false,false,false] rfl rfl (by kernel_rfl) (fun _ _ _ h=>h) (Or.inl ⟨by rfl,?_⟩) ?_ ?_
      rotate_left
      ·
       intro w'
       go_simp
       with_reducible rfl
      rotate_left
      ·
       simp only [Act.put,List.setIfInBounds_toArray,List.set_cons_zero,List.set_cons_succ,i64_w,i32_w]
       rfl
      refine pure_ (i:=1) (N:=some 41) (v:=?_) (a':=?_) #[true,true,false,false,false,false,false,false,false,false,false,false,false,false,false,false,false] rfl rfl (by kernel_rfl) (fun _ _ _ h=>h) (Or.inl ⟨by rfl,?_⟩) ?_ ?_
      rotate_left
      ·
       intro w'
       go_simp
       with_reducible rfl
      rotate_left
      ·
       simp only [Act.put,List.setIfInBounds_toArray,List.set_cons_zero,List.set_cons_succ,i64_w,i32_w]
       rfl
      refine pure_ (i:=2) (N:=some 42) (v:=?_) (a':=?_) #[true,true,true,false,false,false,false,false,false,false,false,false,false,false,false,false,false] rfl rfl (by kernel_rfl) (fun _ _ _ h=>h) (Or.inl ⟨by rfl,?_⟩) ?_ ?_
      rotate_left
      ·
       intro w'
       go_simp
       with_reducible rfl
      rotate_left
      ·
       simp only [Act.put,List.setIfInBounds_toArray,List.set_cons_zero,List.set_cons_succ,i64_w,i32_w]
       rfl
      refine pure_ (i:=3) (N:=some 43) (v:=?_) (a':=?_) #[true,true,true,true,false,false,false,false,false,false,false,false,false,false,false,false,false] rfl rfl (by kernel_rfl) (fun _ _ _ h=>h) (Or.inl ⟨by rfl,?_⟩) ?_ ?_
      rotate_left
      ·
       intro w'
       go_simp
       with_reducible rfl
      rotate_left
      ·
       simp only [Act.put,List.setIfInBounds_toArray,List.set_cons_zero,List.set_cons_succ,i64_w,i32_w]
       rfl
      refine pure_ (i:=4) (N:=some 44) (v:=?_) (a':=?_) #[true,true,true,true,true,false,false,false,false,false,false,false,false,false,false,false,false] rfl rfl (by kernel_rfl) (fun _ _ _ h=>h) (Or.inl ⟨by rfl,?_⟩) ?_ ?_
      rotate_left
      ·
       intro w'
       go_simp
       with_reducible rfl
      rotate_left
      ·
       simp only [Act.put,List.setIfInBounds_toArray,List.set_cons_zero,List.set_cons_succ,i64_w,i32_w]
       rfl
      refine pure_ (i:=6) (N:=some 46) (v:=?_) (a':=?_) #[true,true,true,true,true,false,true,false,false,false,false,false,false,false,false,false,false] rfl rfl (by kernel_rfl) (fun _ _ _ h=>h) (Or.inl ⟨by rfl,?_⟩) ?_ ?_
      rotate_left
      ·
       intro w'
       go_simp
       with_reducible rfl
      rotate_left
      ·
       simp only [Act.put,List.setIfInBounds_toArray,List.set_cons_zero,List.set_cons_succ,i64_w,i32_w]
       rfl
      refine pure_ (i:=9) (N:=some 49) (v:=?_) (a':=?_) #[true,true,true,true,true,false,true,false,false,true,false,false,false,false,false,false,false] rfl rfl (by kernel_rfl) (fun _ _ _ h=>h) (Or.inl ⟨by rfl,?_⟩) ?_ ?_
      rotate_left
      ·
       intro w'
       go_simp
       with_reducible rfl
      rotate_left
      ·
       simp only [Act.put,List.setIfInBounds_toArray,List.set_cons_zero,List.set_cons_succ,i64_w,i32_w]
       rfl
      refine pure_ (i:=10) (N:=some 50) (v:=?_) (a':=?_) #[true,true,true,true,true,false,true,false,false,true,true,false,false,false,false,false,false] rfl rfl (by kernel_rfl) (fun _ _ _ h=>h) (Or.inl ⟨by rfl,?_⟩) ?_ ?_
      rotate_left
      ·
       intro w'
       go_simp
       with_reducible rfl
      rotate_left
      ·
       simp only [Act.put,List.setIfInBounds_toArray,List.set_cons_zero,List.set_cons_succ,i64_w,i32_w]
       rfl
      refine take_ (i:=5) (N:=some 45) (v:=?_) (a':=?_) #[true,true,true,true,true,true,true,false,false,true,true,false,false,false,false,false,false] rfl rfl (by kernel_rfl) (fun _ _ _ h=>h) (Or.inl ⟨by rfl,?_⟩) hHeld ?_ ?_
      rotate_left
      ·
       rintro w' ⟨s0,s1⟩
       go_simp
       with_reducible rfl
      rotate_left
      ·
       simp only [Act.put,List.setIfInBounds_toArray,List.set_cons_zero,List.set_cons_succ,i64_w,i32_w]
       rfl
      refine take_ (i:=7) (N:=some 47) (v:=?_) (a':=?_) #[true,true,true,true,true,true,true,true,false,true,true,false,false,false,false,false,false] rfl rfl (by kernel_rfl) (fun _ _ _ h=>h) (Or.inl ⟨by rfl,?_⟩) hHeld ?_ ?_
      rotate_left
      ·
       rintro w' ⟨s0,s1⟩
       go_simp
       with_reducible rfl
      rotate_left
      ·
       simp only [Act.put,List.setIfInBounds_toArray,List.set_cons_zero,List.set_cons_succ,i64_w,i32_w]
       rfl
      refine pure_ (i:=8) (N:=some 48) (v:=?_) (a':=?_) #[true,true,true,true,true,true,true,true,true,true,true,false,false,false,false,false,false] rfl rfl (by kernel_rfl) (fun _ _ _ h=>h) (Or.inl ⟨by rfl,?_⟩) ?_ ?_
      rotate_left
      ·
       intro w'
       go_simp
       with_reducible rfl
      rotate_left
      ·
       simp only [Act.put,List.setIfInBounds_toArray,List.set_cons_zero,List.set_cons_succ,i64_w,i32_w]
       rfl
      refine pure_ (i:=11) (N:=some 51) (v:=?_) (a':=?_) #[true,true,true,true,true,true,true,true,true,true,true,true,false,false,false,false,false] rfl rfl (by kernel_rfl) (fun _ _ _ h=>h) (Or.inl ⟨by rfl,?_⟩) ?_ ?_
      rotate_left
      ·
       intro w'
       go_simp
       with_reducible rfl
      rotate_left
      ·
       simp only [Act.put,List.setIfInBounds_toArray,List.set_cons_zero,List.set_cons_succ,i64_w,i32_w]
       rfl
      refine pure_ (i:=12) (N:=some 52) (v:=?_) (a':=?_) #[true,true,true,true,true,true,true,true,true,true,true,true,true,false,false,false,false] rfl rfl (by kernel_rfl) (fun _ _ _ h=>h) (Or.inl ⟨by rfl,?_⟩) ?_ ?_
      rotate_left
      ·
       intro w'
       go_simp
       with_reducible rfl
      rotate_left
      ·
       simp only [Act.put,List.setIfInBounds_toArray,List.set_cons_zero,List.set_cons_succ,i64_w,i32_w]
       rfl
      refine last_ (i:=13) (N:=none) #[true,true,true,true,true,true,true,true,true,true,true,true,true,true,false,false,false] rfl rfl (by kernel_rfl) (by decide) (fun K hK=>?_)
      refine skip_ (w1:=?_) (by rfl) rfl ?_ ?_
      rotate_left
      ·
       go_simp
       rfl
      refine hK.out _ _ ?_
      clear hK K
      refine pure_ (i:=14) (N:=some 53) (v:=?_) (a':=?_) #[true,true,true,true,true,true,true,true,true,true,true,true,true,true,true,false,false] rfl rfl (by kernel_rfl) (fun _ _ _ h=>h) (Or.inl ⟨by rfl,?_⟩) ?_ ?_
      rotate_left
      ·
       intro w'
       go_simp
       with_reducible rfl
      rotate_left
      ·
       simp only [Act.put,List.setIfInBounds_toArray,List.set_cons_zero,List.set_cons_succ,i64_w,i32_w]
       rfl
      refine pure_ (i:=15) (N:=some 54) (v:=?_) (a':=?_) #[true,true,true,true,true,true,true,true,true,true,true,true,true,true,true,true,false] rfl rfl (by kernel_rfl) (fun _ _ _ h=>h) (Or.inl ⟨by rfl,?_⟩) ?_ ?_
      rotate_left
      ·
       intro w'
       go_simp
       with_reducible rfl
      rotate_left
      ·
       simp only [Act.put,List.setIfInBounds_toArray,List.set_cons_zero,List.set_cons_succ,i64_w,i32_w]
       rfl
      refine last_ (i:=16) (N:=none) #[true,true,true,true,true,true,true,true,true,true,true,true,true,true,true,true,true] rfl rfl (by kernel_rfl) (by decide) (fun K hK=>?_)
      refine skip_ (w1:=?_) (by rfl) rfl ?_ ?_
      rotate_left
      ·
       go_simp
       rfl
      refine hK.out _ _ ?_
      clear hK K
      refine done_ (by kernel_rfl) ?_
      have HW:=Aside0.mk (show wrap64 (ii+1)=ii+1 by unfold wrap64;omega)
      have HC2:=Aside0.mk (cluster_Of.get_set out m (⟨c0,wrap64 (c1+r1),c2,c3,c4,c5⟩:S40) (by have:=HM.out;omega))
      have n0_:=cluster_Of.St_fld HS.out m (by omega) (⟨c0,wrap64 (c1+r1),c2,c3,c4,c5⟩:S40) 1 (.int .i64 (wrap64 (c1+r1))) (by omega) (by rw [HC.out];rfl)
      have n1_:=cluster_Of.St_fld n0_ m (by omega) (⟨c0,wrap64 (c1+r1),c2,wrap64 (ii+1),c4,c5⟩:S40) 3 (.int .i64 (wrap64 (ii+1))) (by omega) (by rw [HC2.out];rfl)
      rw [List.set_set] at n1_
      have n2_:=Aside0.mk (cluster_Of.St_drew n1_)
      have hne6:g6≠g3:=fun e=>(HS.out.1.1 g3 rfl).1.2 e.symm
      have hne7:g7≠g3:=fun e=>(HS.out.1.1 g3 rfl).2 e.symm
      have n3_:=Aside0.mk (blk_drew (blk_far (blk_far K6.out (p:=⟨g3,m * 6+1,none⟩) hne6 (.int .i64 (wrap64 (c1+r1)))) (p:=⟨g3,m * 6+3,none⟩) hne6 (.int .i64 (wrap64 (ii+1)))))
      have n4_:=Aside0.mk (blk_drew (blk_far (blk_far K7.out (p:=⟨g3,m * 6+1,none⟩) hne7 (.int .i64 (wrap64 (c1+r1)))) (p:=⟨g3,m * 6+3,none⟩) hne7 (.int .i64 (wrap64 (ii+1)))))
      have HNE:=Aside0.mk (And.intro hne6 hne7)
      clear HS K6 K7 n0_ n1_ hne6 hne7 hf1 hf3 hc1 hc3 h61 HC2
      have HS:=n2_
      have K6:=n3_
      have K7:=n4_
      clear n2_ n3_ n4_
      generalize ((w6.setCell {block:=g3,off:=m * 6+1} (Value.int IntKind.i64 (wrap64 (c1+r1)))).setCell {block:=g3,off:=m * 6+3} (Value.int IntKind.i64 (wrap64 (ii+1)))).drew=w7 at *
      have HC2:=Aside0.mk (cluster_Of.get_set out m (⟨c0,wrap64 (c1+r1),c2,wrap64 (ii+1),c4,c5⟩:S40) (by have:=HM.out;omega))
      have ca3:=(blk_cell HS.out.2.1 3).trans rfl
      have ca5:=(blk_cell HS.out.2.1 5).trans rfl
      have cr2:=(blk_cell K6.out 2).trans rfl
      have cb4:=(blk_cell K7.out 4).trans rfl
      obtain ⟨hcl,hfr⟩:=cluster_Of.cell_at HS.out.1 m (by omega)
      rw [HC2.out] at hcl
      have hf4:=hfr 4
      have hc4:=hcl 4 _ rfl
      clear hcl hfr
      cases h3b:(a3==1) with
      | true =>
       have hg:=HH.out
       rw [show cluster_Of.grow (⟨c0,c1,c2,c3,c4,c5⟩:S40) r1 r2 a3 a5 b4 (ii+1)=(⟨c0,wrap64 (c1+r1),c2,wrap64 (ii+1),c4,c5⟩:S40) from by unfold cluster_Of.grow;rw [h3b,if_pos rfl];rw [HW.out]] at hg
       have n0_:=Aside0.mk hg
       clear HH hg
       have HH:=n0_
       clear n0_
       go_wp2_with (first|((with_reducible refine gate_dst (N:=82) rfl ?_);refine cluster_Of.block_load rfl 64 (.tmp 4) rfl rfl HS.out.2.1 _ Try.underlying64 rfl (by kernel_rfl) ?_)|((with_reducible refine gate_dst (N:=83) rfl ?_);refine cluster_Of.block_load rfl 62 (.tmp 7) rfl rfl K7.out _ Try.underlying62 rfl (by kernel_rfl) ?_)|(go_at_call 28;(with_reducible refine (cluster_seen_then.calls a0 a1 a2 a3 a4 _ a6 a7 b0 b1 b2 b3 b4 b5 n0 n1 n2 n3 n4 n5 n6 n7 _ HT.out).mono ?_);rintro e w9 ⟨rfl,hb⟩;have n0_:=Aside0.mk (cluster_Of.St_below HS.out hb);have n2_:=Aside0.mk (blk_below K7.out hb);clear HS hb K7;have HS:=n0_;have K7:=n2_;clear n0_ n2_)|((with_reducible refine gate_store (t:=64) (p:=4) (v:= .tmp 84) rfl ?_);refine block_store rfl rfl 64 (.tmp 4) (.tmp 84) rfl rfl (.agg #[.int .i64 n0,.int .i64 n1,.int .i64 n2,.int .i64 n3,.int .i64 n4,.bool n5,.int .i64 n6,.int .i64 n7]) rfl HS.out.2.1 rfl (by kernel_rfl) (cluster_Of.cells8 n0 n1 n2 n3 n4 n5 n6 n7) ?_;intro w10 hb hk hs hB;have n0_:=Aside0.mk (cluster_Of.St_putA HS.out hk hB hb);clear HS hb hk hs hB;have HS:=n0_;clear n0_))
       go_roundg (l0.length - (i+1))
       case measure=>omega
       case rel=>exact ⟨i+1,_,n0,n1,n2,n3,n4,n5,n6,n7,by rw [HII.out];go_num,by omega,Nat.le_refl _,HH,⟨cluster_Of.St_weak HS.out⟩⟩
      | false =>
       cases hr2:(r2==65039) with
       | true =>
        cases a5 with
        | true =>
         have hg:=HH.out
         rw [show cluster_Of.grow (⟨c0,c1,c2,c3,c4,c5⟩:S40) r1 r2 a3 true b4 (ii+1)=(⟨c0,wrap64 (c1+r1),c2,wrap64 (ii+1),2,c5⟩:S40) from by unfold cluster_Of.grow;rw [h3b,hr2,if_neg (by decide),if_pos rfl,if_pos rfl];rw [HW.out]] at hg
         have n0_:=Aside0.mk hg
         clear HH hg
         have HH:=n0_
         clear n0_
         go_upto_region 16 with (fail)
         (try simp only [Act.put,List.setIfInBounds_toArray,List.set_cons_zero,List.set_cons_succ])
         have n1_:=cluster_Of.St_fld HS.out m (by omega) (⟨c0,wrap64 (c1+r1),c2,wrap64 (ii+1),2,c5⟩:S40) 4 (.int .i64 (2)) (by omega) (by rw [HC2.out];rfl)
         rw [List.set_set] at n1_
         have n2_:=Aside0.mk (n1_)
         have n4_:=Aside0.mk (blk_far K7.out (p:=⟨g3,m * 6+4,none⟩) HNE.out.2 (.int .i64 (2)))
         clear HS K6 K7 n1_ hf4 hc4 ca3 ca5 cr2 cb4
         have HS:=n2_
         have K7:=n4_
         clear n2_ n4_
         generalize w7.setCell {block:=g3,off:=m * 6+4} (Value.int IntKind.i64 2)=w8 at *
         go_wp2_with (first|((with_reducible refine gate_dst (N:=82) rfl ?_);refine cluster_Of.block_load rfl 64 (.tmp 4) rfl rfl HS.out.2.1 _ Try.underlying64 rfl (by kernel_rfl) ?_)|((with_reducible refine gate_dst (N:=83) rfl ?_);refine cluster_Of.block_load rfl 62 (.tmp 7) rfl rfl K7.out _ Try.underlying62 rfl (by kernel_rfl) ?_)|(go_at_call 28;(with_reducible refine (cluster_seen_then.calls a0 a1 a2 a3 a4 _ a6 a7 b0 b1 b2 b3 b4 b5 n0 n1 n2 n3 n4 n5 n6 n7 _ HT.out).mono ?_);rintro e w9 ⟨rfl,hb⟩;have n0_:=Aside0.mk (cluster_Of.St_below HS.out hb);have n2_:=Aside0.mk (blk_below K7.out hb);clear HS hb K7;have HS:=n0_;have K7:=n2_;clear n0_ n2_)|((with_reducible refine gate_store (t:=64) (p:=4) (v:= .tmp 84) rfl ?_);refine block_store rfl rfl 64 (.tmp 4) (.tmp 84) rfl rfl (.agg #[.int .i64 n0,.int .i64 n1,.int .i64 n2,.int .i64 n3,.int .i64 n4,.bool n5,.int .i64 n6,.int .i64 n7]) rfl HS.out.2.1 rfl (by kernel_rfl) (cluster_Of.cells8 n0 n1 n2 n3 n4 n5 n6 n7) ?_;intro w10 hb hk hs hB;have n0_:=Aside0.mk (cluster_Of.St_putA HS.out hk hB hb);clear HS hb hk hs hB;have HS:=n0_;clear n0_))
         go_roundg (l0.length - (i+1))
         case measure=>omega
         case rel=>exact ⟨i+1,_,n0,n1,n2,n3,n4,n5,n6,n7,by rw [HII.out];go_num,by omega,Nat.le_refl _,HH,⟨cluster_Of.St_weak HS.out⟩⟩
        | false =>
         obtain ⟨mv,hmv⟩: ∃ z:Int,(if c4 < b4 then b4 else c4)=z:=⟨_,rfl⟩
         have hmx:max c4 b4=mv:=by rw [← hmv];split <;> omega
         have hg:=HH.out
         rw [show cluster_Of.grow (⟨c0,c1,c2,c3,c4,c5⟩:S40) r1 r2 a3 false b4 (ii+1)=(⟨c0,wrap64 (c1+r1),c2,wrap64 (ii+1),mv,c5⟩:S40) from by unfold cluster_Of.grow;rw [h3b,hr2,if_neg (by decide),if_pos rfl,if_neg (by decide)];rw [HW.out,hmx]] at hg
         have n0_:=Aside0.mk hg
         clear HH hg hmx
         have HH:=n0_
         clear n0_
         go_upto_region 12 with (fail)
         (try simp only [Act.put,List.setIfInBounds_toArray,List.set_cons_zero,List.set_cons_succ])
         refine start_ (n:=11) (S:=fun w'=>w'.cell? ⟨g3,m * 6+4,none⟩=some (.int .i64 c4)∧w'.cell? ⟨g7,4,none⟩=some (.int .i64 b4)) (ds:=[10]) #[false,false,false,false,false,false,false,false,false,false,false] (by kernel_rfl) rfl rfl ⟨hc4,cb4⟩ (fun hHeld=>?_)
         refine pure_ (i:=0) (N:=some 55) (v:=?_) (a':=?_) #[true,false,false,false,false,false,false,false,false,false,false] rfl rfl (by kernel_rfl) (fun _ _ _ h=>h) (Or.inl ⟨by rfl,?_⟩) ?_ ?_
         rotate_left
         ·
          intro w'
          go_simp
          with_reducible rfl
         rotate_left
         ·
          simp only [Act.put,List.setIfInBounds_toArray,List.set_cons_zero,List.set_cons_succ,i64_w,i32_w]
          rfl
         refine pure_ (i:=1) (N:=some 56) (v:=?_) (a':=?_) #[true,true,false,false,false,false,false,false,false,false,false] rfl rfl (by kernel_rfl) (fun _ _ _ h=>h) (Or.inl ⟨by rfl,?_⟩) ?_ ?_
         rotate_left
         ·
          intro w'
          go_simp
          with_reducible rfl
         rotate_left
         ·
          simp only [Act.put,List.setIfInBounds_toArray,List.set_cons_zero,List.set_cons_succ,i64_w,i32_w]
          rfl
         refine pure_ (i:=2) (N:=some 57) (v:=?_) (a':=?_) #[true,true,true,false,false,false,false,false,false,false,false] rfl rfl (by kernel_rfl) (fun _ _ _ h=>h) (Or.inl ⟨by rfl,?_⟩) ?_ ?_
         rotate_left
         ·
          intro w'
          go_simp
          with_reducible rfl
         rotate_left
         ·
          simp only [Act.put,List.setIfInBounds_toArray,List.set_cons_zero,List.set_cons_succ,i64_w,i32_w]
          rfl
         refine pure_ (i:=3) (N:=some 58) (v:=?_) (a':=?_) #[true,true,true,true,false,false,false,false,false,false,false] rfl rfl (by kernel_rfl) (fun _ _ _ h=>h) (Or.inl ⟨by rfl,?_⟩) ?_ ?_
         rotate_left
         ·
          intro w'
          go_simp
          with_reducible rfl
         rotate_left
         ·
          simp only [Act.put,List.setIfInBounds_toArray,List.set_cons_zero,List.set_cons_succ,i64_w,i32_w]
          rfl
         refine pure_ (i:=5) (N:=some 60) (v:=?_) (a':=?_) #[true,true,true,true,false,true,false,false,false,false,false] rfl rfl (by kernel_rfl) (fun _ _ _ h=>h) (Or.inl ⟨by rfl,?_⟩) ?_ ?_
         rotate_left
         ·
          intro w'
          go_simp
          with_reducible rfl
         rotate_left
         ·
          simp only [Act.put,List.setIfInBounds_toArray,List.set_cons_zero,List.set_cons_succ,i64_w,i32_w]
          rfl
         refine take_ (i:=4) (N:=some 59) (v:=?_) (a':=?_) #[true,true,true,true,true,true,false,false,false,false,false] rfl rfl (by kernel_rfl) (fun _ _ _ h=>h) (Or.inl ⟨by rfl,?_⟩) hHeld ?_ ?_
         rotate_left
         ·
          rintro w' ⟨s0,s1⟩
          go_simp
          with_reducible rfl
         rotate_left
         ·
          simp only [Act.put,List.setIfInBounds_toArray,List.set_cons_zero,List.set_cons_succ,i64_w,i32_w]
          rfl
         refine take_ (i:=6) (N:=some 61) (v:=?_) (a':=?_) #[true,true,true,true,true,true,true,false,false,false,false] rfl rfl (by kernel_rfl) (fun _ _ _ h=>h) (Or.inl ⟨by rfl,?_⟩) hHeld ?_ ?_
         rotate_left
         ·
          rintro w' ⟨s0,s1⟩
          go_simp
          with_reducible rfl
         rotate_left
         ·
          simp only [Act.put,List.setIfInBounds_toArray,List.set_cons_zero,List.set_cons_succ,i64_w,i32_w]
          rfl
         refine pure_ (i:=7) (N:=some 62) (v:=?_) (a':=?_) #[true,true,true,true,true,true,true,true,false,false,false] rfl rfl (by kernel_rfl) (fun _ _ _ h=>h) (Or.inl ⟨by rfl,?_⟩) ?_ ?_
         rotate_left
         ·
          intro w'
          go_simp
          with_reducible rfl
         rotate_left
         ·
          simp only [Act.put,List.setIfInBounds_toArray,List.set_cons_zero,List.set_cons_succ,i64_w,i32_w]
          rfl
         refine pure_ (i:=8) (N:=some 63) (v:=?_) (a':=?_) #[true,true,true,true,true,true,true,true,true,false,false] rfl rfl (by kernel_rfl) (fun _ _ _ h=>h) (Or.inl ⟨by rfl,?_⟩) ?_ ?_
         rotate_left
         ·
          intro w'
          go_simp
          with_reducible rfl
         rotate_left
         ·
          simp only [Act.put,List.setIfInBounds_toArray,List.set_cons_zero,List.set_cons_succ,i64_w,i32_w]
          rfl
         refine pure_ (i:=9) (N:=some 64) (v:=?_) (a':=?_) #[true,true,true,true,true,true,true,true,true,true,false] rfl rfl (by kernel_rfl) (fun _ _ _ h=>h) (Or.inl ⟨by rfl,?_⟩) ?_ ?_
         rotate_left
         ·
          intro w'
          go_simp
          with_reducible rfl
         rotate_left
         ·
          simp only [Act.put,List.setIfInBounds_toArray,List.set_cons_zero,List.set_cons_succ,i64_w,i32_w]
          rfl
         refine last_ (i:=10) (N:=none) #[true,true,true,true,true,true,true,true,true,true,true] rfl rfl (by kernel_rfl) (by decide) (fun K hK=>?_)
         refine skip_ (w1:=?_) (by rfl) rfl ?_ ?_
         rotate_left
         ·
          go_simp
          rfl
         refine hK.out _ _ ?_
         clear hK K
         refine done_ (by kernel_rfl) ?_
         clear hmv
         have n1_:=cluster_Of.St_fld HS.out m (by omega) (⟨c0,wrap64 (c1+r1),c2,wrap64 (ii+1),mv,c5⟩:S40) 4 (.int .i64 mv) (by omega) (by rw [HC2.out];rfl)
         rw [List.set_set] at n1_
         have n2_:=Aside0.mk (cluster_Of.St_drew n1_)
         have n4_:=Aside0.mk (blk_drew (blk_far K7.out (p:=⟨g3,m * 6+4,none⟩) HNE.out.2 (.int .i64 mv)))
         clear HS K6 K7 n1_ hf4 hc4 ca3 ca5 cr2 cb4
         have HS:=n2_
         have K7:=n4_
         clear n2_ n4_
         generalize (w7.setCell {block:=g3,off:=m * 6+4} (Value.int IntKind.i64 mv)).drew=w8 at *
         go_wp2_with (first|((with_reducible refine gate_dst (N:=82) rfl ?_);refine cluster_Of.block_load rfl 64 (.tmp 4) rfl rfl HS.out.2.1 _ Try.underlying64 rfl (by kernel_rfl) ?_)|((with_reducible refine gate_dst (N:=83) rfl ?_);refine cluster_Of.block_load rfl 62 (.tmp 7) rfl rfl K7.out _ Try.underlying62 rfl (by kernel_rfl) ?_)|(go_at_call 28;(with_reducible refine (cluster_seen_then.calls a0 a1 a2 a3 a4 _ a6 a7 b0 b1 b2 b3 b4 b5 n0 n1 n2 n3 n4 n5 n6 n7 _ HT.out).mono ?_);rintro e w9 ⟨rfl,hb⟩;have n0_:=Aside0.mk (cluster_Of.St_below HS.out hb);have n2_:=Aside0.mk (blk_below K7.out hb);clear HS hb K7;have HS:=n0_;have K7:=n2_;clear n0_ n2_)|((with_reducible refine gate_store (t:=64) (p:=4) (v:= .tmp 84) rfl ?_);refine block_store rfl rfl 64 (.tmp 4) (.tmp 84) rfl rfl (.agg #[.int .i64 n0,.int .i64 n1,.int .i64 n2,.int .i64 n3,.int .i64 n4,.bool n5,.int .i64 n6,.int .i64 n7]) rfl HS.out.2.1 rfl (by kernel_rfl) (cluster_Of.cells8 n0 n1 n2 n3 n4 n5 n6 n7) ?_;intro w10 hb hk hs hB;have n0_:=Aside0.mk (cluster_Of.St_putA HS.out hk hB hb);clear HS hb hk hs hB;have HS:=n0_;clear n0_))
         go_roundg (l0.length - (i+1))
         case measure=>omega
         case rel=>exact ⟨i+1,_,n0,n1,n2,n3,n4,n5,n6,n7,by rw [HII.out];go_num,by omega,Nat.le_refl _,HH,⟨cluster_Of.St_weak HS.out⟩⟩
       | false =>
        obtain ⟨mv,hmv⟩: ∃ z:Int,(if c4 < b4 then b4 else c4)=z:=⟨_,rfl⟩
        have hmx:max c4 b4=mv:=by rw [← hmv];split <;> omega
        have hg:=HH.out
        rw [show cluster_Of.grow (⟨c0,c1,c2,c3,c4,c5⟩:S40) r1 r2 a3 a5 b4 (ii+1)=(⟨c0,wrap64 (c1+r1),c2,wrap64 (ii+1),mv,c5⟩:S40) from by unfold cluster_Of.grow;rw [h3b,hr2,if_neg (by decide),if_neg (by decide)];rw [HW.out,hmx]] at hg
        have n0_:=Aside0.mk hg
        clear HH hg hmx
        have HH:=n0_
        clear n0_
        go_upto_region 12 with (fail)
        (try simp only [Act.put,List.setIfInBounds_toArray,List.set_cons_zero,List.set_cons_succ])
        refine start_ (n:=11) (S:=fun w'=>w'.cell? ⟨g3,m * 6+4,none⟩=some (.int .i64 c4)∧w'.cell? ⟨g7,4,none⟩=some (.int .i64 b4)) (ds:=[10]) #[false,false,false,false,false,false,false,false,false,false,false] (by kernel_rfl) rfl rfl ⟨hc4,cb4⟩ (fun hHeld=>?_)
        refine pure_ (i:=0) (N:=some 55) (v:=?_) (a':=?_) #[true,false,false,false,false,false,false,false,false,false,false] rfl rfl (by kernel_rfl) (fun _ _ _ h=>h) (Or.inl ⟨by rfl,?_⟩) ?_ ?_
        rotate_left
        ·
         intro w'
         go_simp
         with_reducible rfl
        rotate_left
        ·
         simp only [Act.put,List.setIfInBounds_toArray,List.set_cons_zero,List.set_cons_succ,i64_w,i32_w]
         rfl
        refine pure_ (i:=1) (N:=some 56) (v:=?_) (a':=?_) #[true,true,false,false,false,false,false,false,false,false,false] rfl rfl (by kernel_rfl) (fun _ _ _ h=>h) (Or.inl ⟨by rfl,?_⟩) ?_ ?_
        rotate_left
        ·
         intro w'
         go_simp
         with_reducible rfl
        rotate_left
        ·
         simp only [Act.put,List.setIfInBounds_toArray,List.set_cons_zero,List.set_cons_succ,i64_w,i32_w]
         rfl
        refine pure_ (i:=2) (N:=some 57) (v:=?_) (a':=?_) #[true,true,true,false,false,false,false,false,false,false,false] rfl rfl (by kernel_rfl) (fun _ _ _ h=>h) (Or.inl ⟨by rfl,?_⟩) ?_ ?_
        rotate_left
        ·
         intro w'
         go_simp
         with_reducible rfl
        rotate_left
        ·
         simp only [Act.put,List.setIfInBounds_toArray,List.set_cons_zero,List.set_cons_succ,i64_w,i32_w]
         rfl
        refine pure_ (i:=3) (N:=some 58) (v:=?_) (a':=?_) #[true,true,true,true,false,false,false,false,false,false,false] rfl rfl (by kernel_rfl) (fun _ _ _ h=>h) (Or.inl ⟨by rfl,?_⟩) ?_ ?_
        rotate_left
        ·
         intro w'
         go_simp
         with_reducible rfl
        rotate_left
        ·
         simp only [Act.put,List.setIfInBounds_toArray,List.set_cons_zero,List.set_cons_succ,i64_w,i32_w]
         rfl
        refine pure_ (i:=5) (N:=some 60) (v:=?_) (a':=?_) #[true,true,true,true,false,true,false,false,false,false,false] rfl rfl (by kernel_rfl) (fun _ _ _ h=>h) (Or.inl ⟨by rfl,?_⟩) ?_ ?_
        rotate_left
        ·
         intro w'
         go_simp
         with_reducible rfl
        rotate_left
        ·
         simp only [Act.put,List.setIfInBounds_toArray,List.set_cons_zero,List.set_cons_succ,i64_w,i32_w]
         rfl
        refine take_ (i:=4) (N:=some 59) (v:=?_) (a':=?_) #[true,true,true,true,true,true,false,false,false,false,false] rfl rfl (by kernel_rfl) (fun _ _ _ h=>h) (Or.inl ⟨by rfl,?_⟩) hHeld ?_ ?_
        rotate_left
        ·
         rintro w' ⟨s0,s1⟩
         go_simp
         with_reducible rfl
        rotate_left
        ·
         simp only [Act.put,List.setIfInBounds_toArray,List.set_cons_zero,List.set_cons_succ,i64_w,i32_w]
         rfl
        refine take_ (i:=6) (N:=some 61) (v:=?_) (a':=?_) #[true,true,true,true,true,true,true,false,false,false,false] rfl rfl (by kernel_rfl) (fun _ _ _ h=>h) (Or.inl ⟨by rfl,?_⟩) hHeld ?_ ?_
        rotate_left
        ·
         rintro w' ⟨s0,s1⟩
         go_simp
         with_reducible rfl
        rotate_left
        ·
         simp only [Act.put,List.setIfInBounds_toArray,List.set_cons_zero,List.set_cons_succ,i64_w,i32_w]
         rfl
        refine pure_ (i:=7) (N:=some 62) (v:=?_) (a':=?_) #[true,true,true,true,true,true,true,true,false,false,false] rfl rfl (by kernel_rfl) (fun _ _ _ h=>h) (Or.inl ⟨by rfl,?_⟩) ?_ ?_
        rotate_left
        ·
         intro w'
         go_simp
         with_reducible rfl
        rotate_left
        ·
         simp only [Act.put,List.setIfInBounds_toArray,List.set_cons_zero,List.set_cons_succ,i64_w,i32_w]
         rfl
        refine pure_ (i:=8) (N:=some 63) (v:=?_) (a':=?_) #[true,true,true,true,true,true,true,true,true,false,false] rfl rfl (by kernel_rfl) (fun _ _ _ h=>h) (Or.inl ⟨by rfl,?_⟩) ?_ ?_
        rotate_left
        ·
         intro w'
         go_simp
         with_reducible rfl
        rotate_left
        ·
         simp only [Act.put,List.setIfInBounds_toArray,List.set_cons_zero,List.set_cons_succ,i64_w,i32_w]
         rfl
        refine pure_ (i:=9) (N:=some 64) (v:=?_) (a':=?_) #[true,true,true,true,true,true,true,true,true,true,false] rfl rfl (by kernel_rfl) (fun _ _ _ h=>h) (Or.inl ⟨by rfl,?_⟩) ?_ ?_
        rotate_left
        ·
         intro w'
         go_simp
         with_reducible rfl
        rotate_left
        ·
         simp only [Act.put,List.setIfInBounds_toArray,List.set_cons_zero,List.set_cons_succ,i64_w,i32_w]
         rfl
        refine last_ (i:=10) (N:=none) #[true,true,true,true,true,true,true,true,true,true,true] rfl rfl (by kernel_rfl) (by decide) (fun K hK=>?_)
        refine skip_ (w1:=?_) (by rfl) rfl ?_ ?_
        rotate_left
        ·
         go_simp
         rfl
        refine hK.out _ _ ?_
        clear hK K
        refine done_ (by kernel_rfl) ?_
        clear hmv
        have n1_:=cluster_Of.St_fld HS.out m (by omega) (⟨c0,wrap64 (c1+r1),c2,wrap64 (ii+1),mv,c5⟩:S40) 4 (.int .i64 mv) (by omega) (by rw [HC2.out];rfl)
        rw [List.set_set] at n1_
        have n2_:=Aside0.mk (cluster_Of.St_drew n1_)
        have n4_:=Aside0.mk (blk_drew (blk_far K7.out (p:=⟨g3,m * 6+4,none⟩) HNE.out.2 (.int .i64 mv)))
        clear HS K6 K7 n1_ hf4 hc4 ca3 ca5 cr2 cb4
        have HS:=n2_
        have K7:=n4_
        clear n2_ n4_
        generalize (w7.setCell {block:=g3,off:=m * 6+4} (Value.int IntKind.i64 mv)).drew=w8 at *
        go_wp2_with (first|((with_reducible refine gate_dst (N:=82) rfl ?_);refine cluster_Of.block_load rfl 64 (.tmp 4) rfl rfl HS.out.2.1 _ Try.underlying64 rfl (by kernel_rfl) ?_)|((with_reducible refine gate_dst (N:=83) rfl ?_);refine cluster_Of.block_load rfl 62 (.tmp 7) rfl rfl K7.out _ Try.underlying62 rfl (by kernel_rfl) ?_)|(go_at_call 28;(with_reducible refine (cluster_seen_then.calls a0 a1 a2 a3 a4 _ a6 a7 b0 b1 b2 b3 b4 b5 n0 n1 n2 n3 n4 n5 n6 n7 _ HT.out).mono ?_);rintro e w9 ⟨rfl,hb⟩;have n0_:=Aside0.mk (cluster_Of.St_below HS.out hb);have n2_:=Aside0.mk (blk_below K7.out hb);clear HS hb K7;have HS:=n0_;have K7:=n2_;clear n0_ n2_)|((with_reducible refine gate_store (t:=64) (p:=4) (v:= .tmp 84) rfl ?_);refine block_store rfl rfl 64 (.tmp 4) (.tmp 84) rfl rfl (.agg #[.int .i64 n0,.int .i64 n1,.int .i64 n2,.int .i64 n3,.int .i64 n4,.bool n5,.int .i64 n6,.int .i64 n7]) rfl HS.out.2.1 rfl (by kernel_rfl) (cluster_Of.cells8 n0 n1 n2 n3 n4 n5 n6 n7) ?_;intro w10 hb hk hs hB;have n0_:=Aside0.mk (cluster_Of.St_putA HS.out hk hB hb);clear HS hb hk hs hB;have HS:=n0_;clear n0_))
        go_roundg (l0.length - (i+1))
        case measure=>omega
        case rel=>exact ⟨i+1,_,n0,n1,n2,n3,n4,n5,n6,n7,by rw [HII.out];go_num,by omega,Nat.le_refl _,HH,⟨cluster_Of.St_weak HS.out⟩⟩
     ·
      rw [if_neg hp] at H
      cases H
  ·
   obtain rfl:i=l0.length:=by omega
   have H:=HA.out
   rw [List.drop_length] at H
   obtain rfl:=Option.some.inj H
   clear H HA
   go_wp2
   go_ret
   exact ⟨_,rfl,Kd.R_mono HS.out.1 (fun _ _=>trivial),HS.out.2.2.1⟩
end
/-! ### place_has:function 30 -/
def place_has.f (a0_0:Int) (a0_1:Int) (a0_2:Int) (a0_3:Int) (a0_4:Int) (a1:Int):Option (Bool):=if a0_0≥0 then (if a0_0≤a0_2 then (if a0_2≤a0_1 then (some (decide (a0_1≤a1))) else (some false)) else (some false)) else (some false)
set_option maxHeartbeats 8000000 in
set_option maxRecDepth 100000 in
theorem place_has.calls (a0_0:Int) (a0_1:Int) (a0_2:Int) (a0_3:Int) (a0_4:Int) (a1:Int) (r:Bool) (w:World) (h:place_has.f a0_0 a0_1 a0_2 a0_3 a0_4 a1=some r) :
  Calls Try.prog 30 #[.agg #[.int .i64 a0_0,.int .i64 a0_1,.int .i64 a0_2,.int .i64 a0_3,.int .i64 a0_4],.int .i64 a1] w fun e w'=>e= .returned (.bool r)∧Below w.heap.size w w':=by
 have hu25:=Try.underlying25
 have HB:=Aside0.mk (Below.refl w.heap.size w)
 have H:(if a0_0≥0 then (if a0_0≤a0_2 then (if a0_2≤a0_1 then (some (decide (a0_1≤a1))) else (some false)) else (some false)) else (some false))=some r:=h
 clear h
 by_cases c3:a0_0≥0
 ·
  rw [if_pos c3] at H
  have c3b0:decide (0≤a0_0)=true:=decide_eq_true c3
  clear c3
  by_cases c4:a0_0≤a0_2
  ·
   rw [if_pos c4] at H
   have c4b0:decide (a0_0≤a0_2)=true:=decide_eq_true c4
   clear c4
   by_cases c5:a0_2≤a0_1
   ·
    rw [if_pos c5] at H
    have c5b0:decide (a0_2≤a0_1)=true:=decide_eq_true c5
    clear c5
    obtain rfl:=Option.some.inj H
    go_enter Try.func30,Try.ntmps30
    go_wp2_with (first|((with_reducible refine gate_dst (N:=2) rfl ?_);refine box_event ?hg (N:=2) ?hd (cs:= #[.int .i64 a0_0,.int .i64 a0_1,.int .i64 a0_2,.int .i64 a0_3,.int .i64 a0_4]) (t:=25) ?hr ?_;(case hd=>rfl);(case hg=>rfl);(case hr=>first|(go_simp;done)|(go_simp;rfl));intro gb118 hg w6 hbox hb;have n0_:=Aside0.mk (below_step (by repeat (first|(with_reducible first|exact HB.out|apply below_alloc|apply pw_below_drewN|apply below_drew1)|exact HB.out)) hb);have n1_:=Aside0.mk (hbox);have n2_:=Aside0.mk ((by rw [hg];exact (below_size (by repeat (first|(with_reducible first|exact HB.out|apply below_alloc|apply pw_below_drewN|apply below_drew1)|exact HB.out))):w.heap.size≤gb118));have n3_:=Aside0.mk ((by rw [hg];exact (below_size (by repeat (first|(with_reducible first|exact HB.out|apply below_alloc|apply pw_below_drewN|apply below_drew1)|exact HB.out))):w.heap.size≤gb118));clear HB;have HB:=n0_;have BK118:=n1_;have GW118:=n2_;have GE118:=n3_;clear n0_ n1_ n2_ n3_;clear hb hbox hg;have hcz7_0:w6.cell? ⟨gb118,0,none⟩=some (.int .i64 a0_0):=(blk_cell BK118.out 0).trans rfl;have hcz7_1:w6.cell? ⟨gb118,1,none⟩=some (.int .i64 a0_1):=(blk_cell BK118.out 1).trans rfl;have hcz7_2:w6.cell? ⟨gb118,2,none⟩=some (.int .i64 a0_2):=(blk_cell BK118.out 2).trans rfl;have hcz7_3:w6.cell? ⟨gb118,3,none⟩=some (.int .i64 a0_3):=(blk_cell BK118.out 3).trans rfl;have hcz7_4:w6.cell? ⟨gb118,4,none⟩=some (.int .i64 a0_4):=(blk_cell BK118.out 4).trans rfl;have hfz7_0:=blk_frozen BK118.out 0;have hfz7_1:=blk_frozen BK118.out 1;have hfz7_2:=blk_frozen BK118.out 2;have hfz7_3:=blk_frozen BK118.out 3;have hfz7_4:=blk_frozen BK118.out 4))
    go_ret
    exact ⟨by first|rfl|(simp [errW_none,errW_some] <;> rfl)|(simp [*,errW_none,errW_some] <;> rfl),by repeat (first|(with_reducible first|exact HB.out|apply below_alloc|apply pw_below_drewN|apply below_drew1|refine below_set ?_ GE118.out)|exact HB.out)⟩
   ·
    rw [if_neg c5] at H
    have c5b0:decide (a0_2≤a0_1)=false:=decide_eq_false c5
    clear c5
    obtain rfl:=Option.some.inj H
    go_enter Try.func30,Try.ntmps30
    go_wp2_with (first|((with_reducible refine gate_dst (N:=2) rfl ?_);refine box_event ?hg (N:=2) ?hd (cs:= #[.int .i64 a0_0,.int .i64 a0_1,.int .i64 a0_2,.int .i64 a0_3,.int .i64 a0_4]) (t:=25) ?hr ?_;(case hd=>rfl);(case hg=>rfl);(case hr=>first|(go_simp;done)|(go_simp;rfl));intro gb118 hg w8 hbox hb;have n0_:=Aside0.mk (below_step (by repeat (first|(with_reducible first|exact HB.out|apply below_alloc|apply pw_below_drewN|apply below_drew1)|exact HB.out)) hb);have n1_:=Aside0.mk (hbox);have n2_:=Aside0.mk ((by rw [hg];exact (below_size (by repeat (first|(with_reducible first|exact HB.out|apply below_alloc|apply pw_below_drewN|apply below_drew1)|exact HB.out))):w.heap.size≤gb118));have n3_:=Aside0.mk ((by rw [hg];exact (below_size (by repeat (first|(with_reducible first|exact HB.out|apply below_alloc|apply pw_below_drewN|apply below_drew1)|exact HB.out))):w.heap.size≤gb118));clear HB;have HB:=n0_;have BK118:=n1_;have GW118:=n2_;have GE118:=n3_;clear n0_ n1_ n2_ n3_;clear hb hbox hg;have hcz9_0:w8.cell? ⟨gb118,0,none⟩=some (.int .i64 a0_0):=(blk_cell BK118.out 0).trans rfl;have hcz9_1:w8.cell? ⟨gb118,1,none⟩=some (.int .i64 a0_1):=(blk_cell BK118.out 1).trans rfl;have hcz9_2:w8.cell? ⟨gb118,2,none⟩=some (.int .i64 a0_2):=(blk_cell BK118.out 2).trans rfl;have hcz9_3:w8.cell? ⟨gb118,3,none⟩=some (.int .i64 a0_3):=(blk_cell BK118.out 3).trans rfl;have hcz9_4:w8.cell? ⟨gb118,4,none⟩=some (.int .i64 a0_4):=(blk_cell BK118.out 4).trans rfl;have hfz9_0:=blk_frozen BK118.out 0;have hfz9_1:=blk_frozen BK118.out 1;have hfz9_2:=blk_frozen BK118.out 2;have hfz9_3:=blk_frozen BK118.out 3;have hfz9_4:=blk_frozen BK118.out 4))
    go_ret
    exact ⟨by first|rfl|(simp [errW_none,errW_some] <;> rfl)|(simp [*,errW_none,errW_some] <;> rfl),by repeat (first|(with_reducible first|exact HB.out|apply below_alloc|apply pw_below_drewN|apply below_drew1|refine below_set ?_ GE118.out)|exact HB.out)⟩
  ·
   rw [if_neg c4] at H
   have c4b0:decide (a0_0≤a0_2)=false:=decide_eq_false c4
   clear c4
   obtain rfl:=Option.some.inj H
   go_enter Try.func30,Try.ntmps30
   go_wp2_with (first|((with_reducible refine gate_dst (N:=2) rfl ?_);refine box_event ?hg (N:=2) ?hd (cs:= #[.int .i64 a0_0,.int .i64 a0_1,.int .i64 a0_2,.int .i64 a0_3,.int .i64 a0_4]) (t:=25) ?hr ?_;(case hd=>rfl);(case hg=>rfl);(case hr=>first|(go_simp;done)|(go_simp;rfl));intro gb118 hg w10 hbox hb;have n0_:=Aside0.mk (below_step (by repeat (first|(with_reducible first|exact HB.out|apply below_alloc|apply pw_below_drewN|apply below_drew1)|exact HB.out)) hb);have n1_:=Aside0.mk (hbox);have n2_:=Aside0.mk ((by rw [hg];exact (below_size (by repeat (first|(with_reducible first|exact HB.out|apply below_alloc|apply pw_below_drewN|apply below_drew1)|exact HB.out))):w.heap.size≤gb118));have n3_:=Aside0.mk ((by rw [hg];exact (below_size (by repeat (first|(with_reducible first|exact HB.out|apply below_alloc|apply pw_below_drewN|apply below_drew1)|exact HB.out))):w.heap.size≤gb118));clear HB;have HB:=n0_;have BK118:=n1_;have GW118:=n2_;have GE118:=n3_;clear n0_ n1_ n2_ n3_;clear hb hbox hg;have hcz11_0:w10.cell? ⟨gb118,0,none⟩=some (.int .i64 a0_0):=(blk_cell BK118.out 0).trans rfl;have hcz11_1:w10.cell? ⟨gb118,1,none⟩=some (.int .i64 a0_1):=(blk_cell BK118.out 1).trans rfl;have hcz11_2:w10.cell? ⟨gb118,2,none⟩=some (.int .i64 a0_2):=(blk_cell BK118.out 2).trans rfl;have hcz11_3:w10.cell? ⟨gb118,3,none⟩=some (.int .i64 a0_3):=(blk_cell BK118.out 3).trans rfl;have hcz11_4:w10.cell? ⟨gb118,4,none⟩=some (.int .i64 a0_4):=(blk_cell BK118.out 4).trans rfl;have hfz11_0:=blk_frozen BK118.out 0;have hfz11_1:=blk_frozen BK118.out 1;have hfz11_2:=blk_frozen BK118.out 2;have hfz11_3:=blk_frozen BK118.out 3;have hfz11_4:=blk_frozen BK118.out 4))
   go_ret
   exact ⟨by first|rfl|(simp [errW_none,errW_some] <;> rfl)|(simp [*,errW_none,errW_some] <;> rfl),by repeat (first|(with_reducible first|exact HB.out|apply below_alloc|apply pw_below_drewN|apply below_drew1|refine below_set ?_ GE118.out)|exact HB.out)⟩
 ·
  rw [if_neg c3] at H
  have c3b0:decide (0≤a0_0)=false:=decide_eq_false c3
  clear c3
  obtain rfl:=Option.some.inj H
  go_enter Try.func30,Try.ntmps30
  go_wp2_with (first|((with_reducible refine gate_dst (N:=2) rfl ?_);refine box_event ?hg (N:=2) ?hd (cs:= #[.int .i64 a0_0,.int .i64 a0_1,.int .i64 a0_2,.int .i64 a0_3,.int .i64 a0_4]) (t:=25) ?hr ?_;(case hd=>rfl);(case hg=>rfl);(case hr=>first|(go_simp;done)|(go_simp;rfl));intro gb118 hg w12 hbox hb;have n0_:=Aside0.mk (below_step (by repeat (first|(with_reducible first|exact HB.out|apply below_alloc|apply pw_below_drewN|apply below_drew1)|exact HB.out)) hb);have n1_:=Aside0.mk (hbox);have n2_:=Aside0.mk ((by rw [hg];exact (below_size (by repeat (first|(with_reducible first|exact HB.out|apply below_alloc|apply pw_below_drewN|apply below_drew1)|exact HB.out))):w.heap.size≤gb118));have n3_:=Aside0.mk ((by rw [hg];exact (below_size (by repeat (first|(with_reducible first|exact HB.out|apply below_alloc|apply pw_below_drewN|apply below_drew1)|exact HB.out))):w.heap.size≤gb118));clear HB;have HB:=n0_;have BK118:=n1_;have GW118:=n2_;have GE118:=n3_;clear n0_ n1_ n2_ n3_;clear hb hbox hg;have hcz13_0:w12.cell? ⟨gb118,0,none⟩=some (.int .i64 a0_0):=(blk_cell BK118.out 0).trans rfl;have hcz13_1:w12.cell? ⟨gb118,1,none⟩=some (.int .i64 a0_1):=(blk_cell BK118.out 1).trans rfl;have hcz13_2:w12.cell? ⟨gb118,2,none⟩=some (.int .i64 a0_2):=(blk_cell BK118.out 2).trans rfl;have hcz13_3:w12.cell? ⟨gb118,3,none⟩=some (.int .i64 a0_3):=(blk_cell BK118.out 3).trans rfl;have hcz13_4:w12.cell? ⟨gb118,4,none⟩=some (.int .i64 a0_4):=(blk_cell BK118.out 4).trans rfl;have hfz13_0:=blk_frozen BK118.out 0;have hfz13_1:=blk_frozen BK118.out 1;have hfz13_2:=blk_frozen BK118.out 2;have hfz13_3:=blk_frozen BK118.out 3;have hfz13_4:=blk_frozen BK118.out 4))
  go_ret
  exact ⟨by first|rfl|(simp [errW_none,errW_some] <;> rfl)|(simp [*,errW_none,errW_some] <;> rfl),by repeat (first|(with_reducible first|exact HB.out|apply below_alloc|apply pw_below_drewN|apply below_drew1|refine below_set ?_ GE118.out)|exact HB.out)⟩
end Go.Proofs.Yteoaegigjlhamaa.PC19
