/- For the laws of the group C19: the Lean functions that the Go functions compute, and proofs that they do. Written by wip/hprint.py of this repo over the kit's printer; nothing here is trusted: Lean checks it. -/
import Derived.Test.YteoaegigjlhamaaPC19x0
namespace Go.Proofs.Yteoaegigjlhamaa.PC19
open Go.RowKit Go.Proofs.YteoaegigjlhamaaW.PrintWords Go.Proofs.YteoaegigjlhamaaW.PrintLast Go.Proofs.YteoaegigjlhamaaW.PrintMore
attribute [local go_sem] max2_int min2_int max_two min_two max_three min_three max_four min_four
set_option linter.unusedVariables false
set_option linter.unusedSimpArgs false
/-! ### cluster_seen_joins:function 26:by hand -/
section
open Go.Proofs.YteoaegigjlhamaaH
def cluster_seen_joins.base:List Int:=[0,0,0,0,0,0,0,0,0,13824,3072,2048,3072,2048]
def cluster_seen_joins.zeros:List Int:=[0,0,0,0,0,0,0,0,0,0,0,0,0,0]
def cluster_seen_joins.tb (i:Int):List Int:=(List.range 14).map fun (j:Nat)=>if (j:Int) < i∧(j < 1∨3 < j) then bits .or .i64 (nth cluster_seen_joins.base j) 304 else nth cluster_seen_joins.base j
def cluster_seen_joins.tab:List Int:=[304,4,0,0,304,304,304,16369,304,14128,3376,2352,3376,2352]
theorem cluster_seen_joins.tb_get (i:Int) (h0:0≤i) (h1:i < 14):nth (cluster_seen_joins.tb i) i.toNat=nth cluster_seen_joins.base i.toNat:=by
 obtain ⟨n,rfl⟩:=Int.eq_ofNat_of_zero_le h0
 have h: ∀ n:Nat,n < 14→nth (cluster_seen_joins.tb (n:Int)) n=nth cluster_seen_joins.base n:=by decide +kernel
 exact h n (by omega)
theorem cluster_seen_joins.tb_set (i:Int) (h0:0≤i) (h1:i < 14) (h:i < 1∨3 < i):(nums .i64 (cluster_seen_joins.tb i)).toArray.setIfInBounds i.toNat (.int .i64 (bits .or .i64 (nth cluster_seen_joins.base i.toNat) 304))=(nums .i64 (cluster_seen_joins.tb (i+1))).toArray:=by
 obtain ⟨n,rfl⟩:=Int.eq_ofNat_of_zero_le h0
 have h: ∀ n:Nat,n < 14→(n < 1∨3 < n)→(cluster_seen_joins.tb (n:Int)).set n (bits .or .i64 (nth cluster_seen_joins.base n) 304)=cluster_seen_joins.tb ((n:Int)+1):=by decide +kernel
 rw [← h n (by omega) (by omega)]
 simp [nums,List.map_set]
theorem cluster_seen_joins.tb_keep (i:Int) (h0:0≤i) (h1:i < 14) (h: ¬ (i < 1∨3 < i)):cluster_seen_joins.tb i=cluster_seen_joins.tb (i+1):=by
 obtain ⟨n,rfl⟩:=Int.eq_ofNat_of_zero_le h0
 have h: ∀ n:Nat,n < 14→ ¬ (n < 1∨3 < n)→cluster_seen_joins.tb (n:Int)=cluster_seen_joins.tb ((n:Int)+1):=by decide +kernel
 exact h n (by omega) (by omega)
theorem cluster_seen_joins.tb_len (i:Int):(cluster_seen_joins.tb i).length=14:=by simp [cluster_seen_joins.tb]
theorem cluster_seen_joins.tb_0:cluster_seen_joins.tb 0=cluster_seen_joins.base:=by decide +kernel
theorem cluster_seen_joins.tb_end:((cluster_seen_joins.tb 14).set 7 16369).set 1 4=cluster_seen_joins.tab:=by decide +kernel
theorem cluster_seen_joins.end_eq:((nums .i64 (cluster_seen_joins.tb 14)).toArray.setIfInBounds 7 (.int .i64 16369)).setIfInBounds 1 (.int .i64 4)=(nums .i64 cluster_seen_joins.tab).toArray:=by
 rw [← cluster_seen_joins.tb_end]
 simp [nums,List.map_set]
theorem cluster_seen_joins.cell_of {W:World} {g:Nat} {t:TypeId} (h:W.heap[g]?=some (.cells (nums .i64 cluster_seen_joins.tab).toArray t (0,0))) (j:Nat) (v:Value) (hj:(nums .i64 cluster_seen_joins.tab)[j]?=some v):W.cell? ((⟨g,0,none⟩:Addr).add j)=some v:=by
 have e:(⟨g,0,none⟩:Addr).add j=⟨g,j,none⟩:=by
  by_cases h0:j=0
  ·
   rw [h0];rfl
  ·
   simp [Addr.add,h0]
 rw [e,blk_cell h j]
 simpa using hj
theorem cluster_seen_joins.build86 (W:World):(Instr.build 84 #[(9,.int .i64 13824),(12,.int .i64 3072),(10,.int .i64 3072),(13,.int .i64 2048),(11,.int .i64 2048)]).run Try.prog W= .ok (.agg (nums .i64 cluster_seen_joins.base).toArray) W:=by kernel_rfl
attribute [local go_sem] cluster_seen_joins.build86
set_option maxHeartbeats 4000000 in
set_option maxRecDepth 100000 in
theorem cluster_seen_joins.behind_calls (w:World):Calls Try.prog 46 #[] w fun e w'=>e= .returned (.agg (nums .i64 cluster_seen_joins.tab).toArray)∧Below w.heap.size w w':=by
 go_enter Try.func46,Try.ntmps46
 have HB:=Aside0.mk (Below.refl w.heap.size w)
 go_wp2_with fail
 have hk1:=blk_new (w.alloc (Obj.cells (nums .i64 cluster_seen_joins.zeros).toArray 84)) (Obj.cells (nums .i64 cluster_seen_joins.base).toArray 84)
 have hk0:=blk_alloc (blk_new w (Obj.cells (nums .i64 cluster_seen_joins.zeros).toArray 84)) (Obj.cells (nums .i64 cluster_seen_joins.base).toArray 84)
 rw [World.size_alloc] at hk1
 have HB1:=Aside0.mk (below_alloc (below_alloc HB.out (Obj.cells (nums .i64 cluster_seen_joins.zeros).toArray 84)) (Obj.cells (nums .i64 cluster_seen_joins.base).toArray 84))
 have HK0:=Aside0.mk hk0
 have HK1:=Aside0.mk hk1
 clear hk0 hk1 HB
 go_loopg [4] 14 (fun kq v4 w'=> ∃ i:Int,v4= .int .i64 i∧0≤i∧i≤14∧14 - i≤kq∧Aside0 (Below w.heap.size w w')∧Aside0 (w'.heap[w.heap.size]?=some (.cells (nums .i64 cluster_seen_joins.zeros).toArray 84 (0,0)))∧Aside0 (w'.heap[w.heap.size+1]?=some (.cells (nums .i64 (cluster_seen_joins.tb i)).toArray 84 (0,0))))
 case atStart=>exact ⟨0,rfl,by omega,by omega,by omega,HB1,HK0,⟨by rw [cluster_seen_joins.tb_0];exact HK1.out⟩⟩
 case round =>
  clear HB1 HK0 HK1
  obtain ⟨i,rfl,h0,h14,hq,HB,HK0,HK1⟩:=hrel
  by_cases hlt:i < 14
  ·
   have hlb:decide (i < 14)=true:=decide_eq_true hlt
   have hl2:=eq_true hlt
   have h02:=eq_true h0
   have hc1:=nums_cell wr (w.heap.size+1) 84 (cluster_seen_joins.tb i) HK1.out i.toNat (by rw [cluster_seen_joins.tb_len];omega)
   rw [cluster_seen_joins.tb_get i h0 hlt] at hc1
   have hfr:=blk_frozen HK1.out i.toNat
   by_cases hs:i < 1∨3 < i
   ·
    have HS:=Aside0.mk (cluster_seen_joins.tb_set i h0 hlt hs)
    generalize nth cluster_seen_joins.base i.toNat=v at *
    by_cases h1:i < 1
    ·
     have h1b:decide (i < 1)=true:=decide_eq_true h1
     go_wp2
     go_roundg (gk - 1)
     case measure=>omega
     case rel=>exact ⟨i+1,rfl,by omega,by omega,by omega,⟨HB.out.setCell (p:=⟨w.heap.size+1,i.toNat,none⟩) (Nat.le_succ _) _⟩,⟨blk_far HK0.out (p:=⟨w.heap.size+1,i.toNat,none⟩) (Nat.ne_of_lt (Nat.lt_succ_self _)) _⟩,⟨by rw [← HS.out];exact blk_set HK1.out i.toNat _⟩⟩
    ·
     have h1b:decide (i < 1)=false:=decide_eq_false h1
     have h1c:decide (i > 3)=true:=decide_eq_true (by omega)
     go_wp2
     go_roundg (gk - 1)
     case measure=>omega
     case rel=>exact ⟨i+1,rfl,by omega,by omega,by omega,⟨HB.out.setCell (p:=⟨w.heap.size+1,i.toNat,none⟩) (Nat.le_succ _) _⟩,⟨blk_far HK0.out (p:=⟨w.heap.size+1,i.toNat,none⟩) (Nat.ne_of_lt (Nat.lt_succ_self _)) _⟩,⟨by rw [← HS.out];exact blk_set HK1.out i.toNat _⟩⟩
   ·
    have HS:=Aside0.mk (cluster_seen_joins.tb_keep i h0 hlt hs)
    have h1b:decide (i < 1)=false:=decide_eq_false (by omega)
    have h1c:decide (i > 3)=false:=decide_eq_false (by omega)
    clear hc1 hfr
    go_wp2
    go_roundg (gk - 1)
    case measure=>omega
    case rel=>exact ⟨i+1,rfl,by omega,by omega,by omega,HB,HK0,⟨by rw [← HS.out];exact HK1.out⟩⟩
  ·
   have hlb:decide (i < 14)=false:=decide_eq_false hlt
   obtain rfl:i=14:=by omega
   have hc7:=nums_cell wr (w.heap.size+1) 84 (cluster_seen_joins.tb 14) HK1.out 7 (by rw [cluster_seen_joins.tb_len];omega)
   have hc1:=nums_cell wr (w.heap.size+1) 84 (cluster_seen_joins.tb 14) HK1.out 1 (by rw [cluster_seen_joins.tb_len];omega)
   have hf7:=blk_frozen HK1.out 7
   have hf1:=blk_frozen HK1.out 1
   generalize nth (cluster_seen_joins.tb 14) 7=v7 at *
   generalize nth (cluster_seen_joins.tb 14) 1=v1 at *
   go_wp2_with (first|((with_reducible refine gate_dst (N:=21) rfl ?_);have hk2:=blk_set (blk_set HK1.out 7 (.int .i64 16369)) 1 (.int .i64 4);rw [cluster_seen_joins.end_eq] at hk2;have HK2:=Aside0.mk hk2;have HK3:=Aside0.mk (blk_far (blk_far HK0.out (p:=⟨w.heap.size+1,7,none⟩) (Nat.ne_of_lt (Nat.lt_succ_self _)) (.int .i64 16369)) (p:=⟨w.heap.size+1,1,none⟩) (Nat.ne_of_lt (Nat.lt_succ_self _)) (.int .i64 4));have HB3:=Aside0.mk ((HB.out.setCell (p:=⟨w.heap.size+1,7,none⟩) (Nat.le_succ _) (.int .i64 16369)).setCell (p:=⟨w.heap.size+1,1,none⟩) (Nat.le_succ _) (.int .i64 4));clear hk2 hc7 hc1 hf7 hf1 HB HK0 HK1;refine agg_load rfl 84 (.tmp 1) rfl ⟨w.heap.size+1,0,none⟩ rfl (nums .i64 cluster_seen_joins.tab) _ Try.underlying84 rfl (by kernel_rfl) (fun j v hj=>cluster_seen_joins.cell_of HK2.out j v hj) ?_;generalize (wr.setCell {block:=w.heap.size+1,off:=7} (Value.int IntKind.i64 16369)).setCell {block:=w.heap.size+1,off:=1} (Value.int IntKind.i64 4)=w4 at *)|((with_reducible refine gate_store (t:=84) (p:=0) (v:= .tmp 21) rfl ?_);refine block_store rfl rfl 84 (.tmp 0) (.tmp 21) rfl rfl (.agg (nums .i64 cluster_seen_joins.tab).toArray) rfl HK3.out rfl (by kernel_rfl) (nums_one cluster_seen_joins.tab) ?_;intro w5 hb5 hk5 hs5 hB5;have HB5:=Aside0.mk (hB5 _ _ HB3.out (Nat.le_refl _));clear hk5 hs5 hB5))
   exact bodyPost_ret (v:= .agg (nums .i64 cluster_seen_joins.tab).toArray) (results_c1 rfl _ _ _ _ _ _ _ rfl hb5 Try.underlying84 rfl (by kernel_rfl)) rfl ⟨rfl,HB5.out⟩
theorem cluster_seen_joins.new_blk (w:World) (o o':Obj):((w.alloc o).alloc o').heap[w.heap.size+1]?=some o':=by
 have h:=blk_new (w.alloc o) o'
 rw [World.size_alloc] at h
 exact h
def cluster_seen_joins.jn (a b:Int):Bool:=bits .and .i64 (nth cluster_seen_joins.tab a.toNat / 2 ^ b.toNat) 1==1
def cluster_seen_joins.f (a0_0 a0_1 a0_2 a0_3 a0_4:Int) (a0_5:Bool) (a0_6 a0_7 a1_0 a1_1 a1_2 a1_3 a1_4:Int) (a1_5:Bool):Option Bool :=
 if 0≤a0_3 then (if a0_3 < 14 then (if 0≤a1_3 then (if a1_3 < 14 then (some (if cluster_seen_joins.jn a0_3 a1_3=true then true else if a1_5=true then (if (a0_6==2)=true then true else if (a1_3==6)=true then (Int.tmod a0_7 2==1) else false) else if (a1_3==6)=true then (Int.tmod a0_7 2==1) else false)) else none) else none) else none) else none
set_option maxHeartbeats 4000000 in
set_option maxRecDepth 100000 in
theorem cluster_seen_joins.calls (a0_0 a0_1 a0_2 a0_3 a0_4:Int) (a0_5:Bool) (a0_6 a0_7 a1_0 a1_1 a1_2 a1_3 a1_4:Int) (a1_5:Bool) (r:Bool) (w:World) (h:cluster_seen_joins.f a0_0 a0_1 a0_2 a0_3 a0_4 a0_5 a0_6 a0_7 a1_0 a1_1 a1_2 a1_3 a1_4 a1_5=some r) :
  Calls Try.prog 26 #[.agg #[.int .i64 a0_0,.int .i64 a0_1,.int .i64 a0_2,.int .i64 a0_3,.int .i64 a0_4,.bool a0_5,.int .i64 a0_6,.int .i64 a0_7],.agg #[.int .i64 a1_0,.int .i64 a1_1,.int .i64 a1_2,.int .i64 a1_3,.int .i64 a1_4,.bool a1_5]] w fun e w'=>e= .returned (.bool r)∧Below w.heap.size w w':=by
 have hu1:=Try.underlying64
 have hu2:=Try.underlying62
 unfold cluster_seen_joins.f at h
 by_cases c1:0≤a0_3
 ·
  rw [if_pos c1] at h
  by_cases c2:a0_3 < 14
  ·
   rw [if_pos c2] at h
   by_cases c3:0≤a1_3
   ·
    rw [if_pos c3] at h
    by_cases c4:a1_3 < 14
    ·
     rw [if_pos c4] at h
     have c1e:=eq_true c1
     have c2e:=eq_true c2
     have c3e:=eq_true c3
     have HT:=Aside0.mk (show ∀ (W:World) (g:Nat),W.heap[g]?=some (.cells (nums .i64 cluster_seen_joins.tab).toArray 84 (0,0))→W.cell? ⟨g,a0_3.toNat,none⟩=some (.int .i64 (nth cluster_seen_joins.tab a0_3.toNat)) from fun W g hW=>nums_cell W g 84 cluster_seen_joins.tab hW a0_3.toNat (by show a0_3.toNat < 14;omega))
     unfold cluster_seen_joins.jn at h
     generalize nth cluster_seen_joins.tab a0_3.toNat=v at *
     injection h with h
     subst h
     cases hj:(bits .and .i64 (v / 2 ^ a1_3.toNat) 1==1)
     all_goals cases a1_5
     all_goals cases h2:(a0_6==2)
     all_goals cases h6:(a1_3==6)
     all_goals simp only [Bool.false_eq_true,if_true,if_false,reduceIte]
     all_goals (
      go_enter Try.func26,Try.ntmps26
      have HB:=Aside0.mk (Below.refl w.heap.size w)
      go_wp2_with (first|(go_at_call 46;refine (cluster_seen_joins.behind_calls _).mono ?_;rintro e w1 ⟨rfl,hb1⟩;have n0_:=Aside0.mk (below_step (below_alloc (below_alloc HB.out _) _) hb1);have HK0:=Aside0.mk (blk_below (blk_alloc (blk_new w _) _) hb1);have HK1:=Aside0.mk (blk_below (cluster_seen_joins.new_blk w _ _) hb1);clear HB hb1;have HB:=n0_;clear n0_)|((with_reducible refine gate_dst (N:=5) rfl ?_);refine alloc_event rfl 84 rfl 14 (by kernel_rfl) ?_;intro g2 w2 cs hcs hg2 hb2 hbel hsz;have n0_:=Aside0.mk (below_step HB.out hbel);have n1_:=Aside0.mk (blk_below HK0.out hbel);have n2_:=Aside0.mk (blk_below HK1.out hbel);have HG:=Aside0.mk (show w.heap.size+2≤g2 by rw [hg2];have:=blk_lt HK1.out;omega);have HK2:=Aside0.mk hb2;have HCS:=Aside0.mk hcs;clear HB HK0 HK1 hcs hg2 hb2 hbel hsz;have HB:=n0_;have HK0:=n1_;have HK1:=n2_;clear n0_ n1_ n2_)|((with_reducible refine gate_store (t:=84) (p:=5) (v:= .tmp 6) rfl ?_);refine block_store rfl rfl 84 (.tmp 5) (.tmp 6) rfl rfl (.agg (nums .i64 cluster_seen_joins.tab).toArray) rfl HK2.out (by rw [HCS.out];rfl) (by rw [HCS.out];kernel_rfl) (nums_one cluster_seen_joins.tab) ?_;intro w3 hb3 hk3 hs3 hB3;have ct:=HT.out w3 g2 hb3;have hft:=blk_frozen hb3 a0_3.toNat;have n0_:=Aside0.mk (hB3 _ _ HB.out (by have:=HG.out;omega));have k0:=(hk3 w.heap.size (by have:=HG.out;omega)).trans HK0.out;have k1:=(hk3 (w.heap.size+1) (by have:=HG.out;omega)).trans HK1.out;have ca3:=(blk_cell k0 3).trans rfl;have ca6:=(blk_cell k0 6).trans rfl;have ca7:=(blk_cell k0 7).trans rfl;have cb3:=(blk_cell k1 3).trans rfl;have cb5:=(blk_cell k1 5).trans rfl;clear HB HK0 HK1 HK2 HCS HG hb3 hk3 hs3 hB3 k0 k1;have HB:=n0_;clear n0_))
      (try simp only [Act.put,List.setIfInBounds_toArray,List.set_cons_zero,List.set_cons_succ])
      go_quiet (fail)
      all_goals (try go_wp2)
      go_ret
      exact ⟨rfl,pw_below_drewN (by repeat (first|exact HB.out|apply pw_below_drewN)) _⟩)
    ·
     rw [if_neg c4] at h
     cases h
   ·
    rw [if_neg c3] at h
    cases h
  ·
   rw [if_neg c2] at h
   cases h
 ·
  rw [if_neg c1] at h
  cases h
end
/-! ### cluster_first:function 27:by hand -/
def cluster_first.f (a0_0 a0_1 a0_2 a0_3 a0_4:Int) (a0_5:Bool) (a1:Int):Option (Int × Int × Int × Int × Int × Int) :=
 some (a0_0,a0_1,a1,wrap64 (a1+1),if a0_3≥1 then (if a0_3≤3 then 0 else a0_4) else a0_4,a0_2)
section
open Go.Proofs.YteoaegigjlhamaaH
theorem cluster_first.new2 (w:World) (o0 o1:Obj):((w.alloc o0).alloc o1).heap[w.heap.size+1]?=some o1:=by
 have h:=blk_new (w.alloc o0) o1
 rw [World.size_alloc] at h
 exact h
set_option maxHeartbeats 4000000 in
set_option maxRecDepth 100000 in
theorem cluster_first.calls (a0_0 a0_1 a0_2 a0_3 a0_4:Int) (a0_5:Bool) (a1:Int) (r1 r2 r3 r4 r5 r6:Int) (w:World) (h:cluster_first.f a0_0 a0_1 a0_2 a0_3 a0_4 a0_5 a1=some (r1,r2,r3,r4,r5,r6)) :
  Calls Try.prog 27 #[.agg #[.int .i64 a0_0,.int .i64 a0_1,.int .i64 a0_2,.int .i64 a0_3,.int .i64 a0_4,.bool a0_5],.int .i64 a1] w fun e w'=>e= .returned (.agg #[.int .i64 r1,.int .i64 r2,.int .i64 r3,.int .i64 r4,.int .i64 r5,.int .i64 r6])∧Below w.heap.size w w':=by
 have hu1:=Try.underlying62
 have hu2:=Try.underlying40
 unfold cluster_first.f at h
 simp only [Option.some.injEq,Prod.mk.injEq] at h
 obtain ⟨rfl,rfl,rfl,rfl,h5,rfl⟩:=h
 have HB:=Aside0.mk (Below.refl w.heap.size w)
 by_cases c1:a0_3≥1
 ·
  rw [if_pos c1] at h5
  have c1b:=decide_eq_true c1
  by_cases c2:a0_3≤3
  ·
   rw [if_pos c2] at h5
   subst h5
   have c2b:=decide_eq_true c2
   clear c1 c2
   go_enter Try.func27,Try.ntmps27
   go_wp2
   refine bodyPost_ret (results_c1 (p:=4) rfl _ _ (w.heap.size+1) 40 _ (0,0) _ rfl (blk_alloc (cluster_first.new2 w _ _) _) hu2 rfl (by kernel_rfl)) rfl ⟨rfl,?_⟩
   exact below_alloc (below_alloc (below_alloc HB.out _) _) _
  ·
   rw [if_neg c2] at h5
   subst h5
   have c2b:=decide_eq_false c2
   clear c1 c2
   go_enter Try.func27,Try.ntmps27
   go_wp2
   refine bodyPost_ret (results_c1 (p:=4) rfl _ _ (w.heap.size+1) 40 _ (0,0) _ rfl (blk_alloc (cluster_first.new2 w _ _) _) hu2 rfl (by kernel_rfl)) rfl ⟨rfl,?_⟩
   exact below_alloc (below_alloc (below_alloc HB.out _) _) _
 ·
  rw [if_neg c1] at h5
  subst h5
  have c1b:=decide_eq_false c1
  clear c1
  go_enter Try.func27,Try.ntmps27
  go_wp2
  refine bodyPost_ret (results_c1 (p:=4) rfl _ _ (w.heap.size+1) 40 _ (0,0) _ rfl (blk_alloc (cluster_first.new2 w _ _) _) hu2 rfl (by kernel_rfl)) rfl ⟨rfl,?_⟩
  exact below_alloc (below_alloc (below_alloc HB.out _) _) _
end
/-! ### cluster_seen_then:function 28:by hand -/
def cluster_seen_then.tie (b3:Int) (b5:Bool) (a6:Int):Int:=if b5=true then 1 else if (b3==4)=true then (if (a6==1)=true then 1 else 0) else if (b3==5)=true then (if (a6==1)=true then 2 else 0) else 0
def cluster_seen_then.flag (b3:Int) (a7:Int):Int:=if (b3==6)=true then wrap64 (a7+1) else 0
def cluster_seen_then.f (a0_0 a0_1 a0_2 a0_3 a0_4:Int) (a0_5:Bool) (a0_6 a0_7 a1_0 a1_1 a1_2 a1_3 a1_4:Int) (a1_5:Bool):Option (Int × Int × Int × Int × Int × Bool × Int × Int) :=
 some (a1_0,a1_1,a1_2,a1_3,a1_4,a1_5,cluster_seen_then.tie a1_3 a1_5 a0_6,cluster_seen_then.flag a1_3 a0_7)
theorem cluster_seen_then.new3 (w:World) (o0 o1 o2 o3:Obj):((((w.alloc o0).alloc o1).alloc o2).alloc o3).heap[w.heap.size+1+1]?=some o2:=by
 have h:=blk_alloc (blk_new ((w.alloc o0).alloc o1) o2) o3
 rw [World.size_alloc,World.size_alloc] at h
 exact h
section
open Go.Proofs.YteoaegigjlhamaaH
set_option maxHeartbeats 4000000 in
set_option maxRecDepth 100000 in
theorem cluster_seen_then.calls (a0_0 a0_1 a0_2 a0_3 a0_4:Int) (a0_5:Bool) (a0_6 a0_7 a1_0 a1_1 a1_2 a1_3 a1_4:Int) (a1_5:Bool) (r1 r2 r3 r4 r5:Int) (r6:Bool) (r7 r8:Int) (w:World) (h:cluster_seen_then.f a0_0 a0_1 a0_2 a0_3 a0_4 a0_5 a0_6 a0_7 a1_0 a1_1 a1_2 a1_3 a1_4 a1_5=some (r1,r2,r3,r4,r5,r6,r7,r8)) :
  Calls Try.prog 28 #[.agg #[.int .i64 a0_0,.int .i64 a0_1,.int .i64 a0_2,.int .i64 a0_3,.int .i64 a0_4,.bool a0_5,.int .i64 a0_6,.int .i64 a0_7],.agg #[.int .i64 a1_0,.int .i64 a1_1,.int .i64 a1_2,.int .i64 a1_3,.int .i64 a1_4,.bool a1_5]] w fun e w'=>e= .returned (.agg #[.int .i64 r1,.int .i64 r2,.int .i64 r3,.int .i64 r4,.int .i64 r5,.bool r6,.int .i64 r7,.int .i64 r8])∧Below w.heap.size w w':=by
 have hu1:=Try.underlying64
 have hu2:=Try.underlying62
 unfold cluster_seen_then.f at h
 simp only [Option.some.injEq,Prod.mk.injEq] at h
 obtain ⟨rfl,rfl,rfl,rfl,rfl,rfl,h7,h8⟩:=h
 unfold cluster_seen_then.tie at h7
 unfold cluster_seen_then.flag at h8
 cases a1_5
 all_goals cases h4b:(a1_3==4)
 all_goals cases h5b:(a1_3==5)
 all_goals cases h1b:(a0_6==1)
 all_goals cases h6b:(a1_3==6)
 all_goals simp only [h4b,h5b,h1b,h6b,Bool.false_eq_true,if_true,if_false,reduceIte] at h7 h8
 all_goals subst h7
 all_goals subst h8
 all_goals (
  have HB:=Aside0.mk (Below.refl w.heap.size w)
  go_enter Try.func28,Try.ntmps28
  go_wp2
  refine bodyPost_ret (results_c1 (p:=4) rfl _ _ (w.heap.size+1+1) 64 _ (0,0) _ rfl (cluster_seen_then.new3 w _ _ _ _) hu1 rfl (by kernel_rfl)) rfl ⟨rfl,?_⟩
  exact below_alloc (below_alloc (below_alloc (below_alloc HB.out _) _) _) _)
end
end Go.Proofs.Yteoaegigjlhamaa.PC19
