/- For the laws of the group C19: the Lean functions that the Go functions compute, and proofs that they do. Written by wip/hprint.py of this repo over the kit's printer; nothing here is trusted: Lean checks it. -/
import Derived.Test.YteoaegigjlhamaaPC19x0
import Derived.Test.YteoaegigjlhamaaPC19x3
import Derived.Test.YteoaegigjlhamaaPC19x16
namespace Go.Proofs.Yteoaegigjlhamaa.PC19
open Go.RowKit Go.Proofs.YteoaegigjlhamaaW.PrintWords Go.Proofs.YteoaegigjlhamaaW.PrintLast Go.Proofs.YteoaegigjlhamaaW.PrintMore
attribute [local go_sem] max2_int min2_int max_two min_two max_three min_three max_four min_four
set_option linter.unusedVariables false
set_option linter.unusedSimpArgs false
/-! ### parquetrylaw19_awake:function 7:by hand -/
def parquetrylaw19_awake.f (k:Nat):Option Bool:=some true
theorem parquetrylaw19_awake.mono: ∀ k,LeO (parquetrylaw19_awake.f k) (parquetrylaw19_awake.f (k+1)):=fun _=>LeO.refl _
section
open Go.Proofs.YteoaegigjlhamaaH
def parquetrylaw19_awake.xa:List S36:=[⟨0,1,97⟩,⟨1,1,1488⟩,⟨2,1,1489⟩]
theorem parquetrylaw19_awake.at_a:parquetrylaw19_of.f 60 [97,1488,1489]=some parquetrylaw19_awake.xa:=by kernel_rfl
def parquetrylaw19_awake.xb:List S36:=[⟨0,1,40⟩,⟨1,1,1488⟩]
theorem parquetrylaw19_awake.at_b:parquetrylaw19_of.f 60 [40,1488]=some parquetrylaw19_awake.xb:=by kernel_rfl
def parquetrylaw19_awake.xc:List S36:=[⟨0,1,97⟩,⟨1,1,98⟩,⟨2,1,99⟩]
theorem parquetrylaw19_awake.at_c:parquetrylaw19_of.f 60 [97,98,99]=some parquetrylaw19_awake.xc:=by kernel_rfl
def parquetrylaw19_awake.xd:List S36:=[⟨0,1,19968⟩]
theorem parquetrylaw19_awake.at_d:parquetrylaw19_of.f 60 [19968]=some parquetrylaw19_awake.xd:=by kernel_rfl
set_option maxRecDepth 100000
theorem parquetrylaw19_awake.is0:parquetrylaw19_comes.f 60 parquetrylaw19_awake.xa [0,1,1] 0 3 3 1 0 0 5 2 [97,1489,1488,(-2),(-2)]=some true:=by decide +kernel
theorem parquetrylaw19_awake.is1:parquetrylaw19_comes.f 60 parquetrylaw19_awake.xa [2,1,1] 0 3 3 1 0 1 5 3 [(-2),(-2),1489,1488,97]=some true:=by decide +kernel
theorem parquetrylaw19_awake.is2:parquetrylaw19_comes.f 60 parquetrylaw19_awake.xb [1,1] 0 2 2 0 0 1 4 4 [(-2),1488,41,(-2)]=some true:=by decide +kernel
theorem parquetrylaw19_awake.is3:parquetrylaw19_comes.f 60 parquetrylaw19_awake.xc [0,0,0] 0 3 1 0 1 0 3 2 [97,(-3),(-2)]=some true:=by decide +kernel
theorem parquetrylaw19_awake.is4:parquetrylaw19_comes.f 60 parquetrylaw19_awake.xd [0] 0 1 1 0 0 0 3 3 [(-2),19968,2117120]=some true:=by decide +kernel
theorem parquetrylaw19_awake.lit_C (W:World) (g t:Nat) (l:List Int) (h:W.heap[g]?=some (.cells (nums .i64 l).toArray t (0,0))) (hl:l.length≤1000):Kd.C (Kd.int .i64) W (some ⟨g,0,none⟩) l.length l:=by
 refine Kd.C_of_reads (d:=(0:Int)) (h1:=fun _=>rfl) ⟨rfl,by omega,fun _=>⟨_,rfl,fun j hj=>?_⟩⟩
 have e:(⟨g,0,none⟩:Addr).add j=⟨g,j,none⟩:=by
  by_cases h0:j=0
  ·
   rw [h0];rfl
  ·
   simp [Addr.add,h0]
 rw [e]
 exact nums_cell W g t l h j hj
theorem parquetrylaw19_awake.block_load {P:Program} {ops:Array Oper} {rest:List Oper} {o:Oper} {a:Act} {Q:Exit→Act→World→Prop} {W:World} (hgd:o.guard=none) (t:TypeId) (p:Operand) (ho:o.op= .load t p) {g e:Nat} {cs:Array Value} (hp:a.eval p= .pointer (some ⟨g,0,none⟩)) (hb:W.heap[g]?=some (.cells cs e (0,0))) (d:TypeDesc)
  (hu:P.underlying t=some d) (hd:(match d with| .struct _| .array _ _=>true|_=>false)=true) (hi:(P.info? t).map (·.size)=some cs.size) (hw:wpList P ops Q rest (a.put o.dst (.agg cs)) W):wpList P ops Q (o::rest) a W:=by
 refine agg_load hgd t p ho ⟨g,0,none⟩ hp cs.toList d hu hd (by rw [Array.length_toList];exact hi) (fun j v hj=>?_) hw
 have e:(⟨g,0,none⟩:Addr).add j=⟨g,j,none⟩:=by
  by_cases h0:j=0
  ·
   rw [h0];rfl
  ·
   simp [Addr.add,h0]
 rw [e,blk_cell hb j]
 simpa using hj
set_option maxHeartbeats 4000000 in
theorem parquetrylaw19_awake.calls (k:Nat) (r:Bool) (w:World) (h:parquetrylaw19_awake.f k=some r):Calls Try.prog 7 #[] w fun e w'=>e= .returned (.bool r)∧Below w.heap.size w w':=by
 obtain rfl:true=r:=Option.some.inj h
 clear h
 have HB:=Aside0.mk (Below.refl w.heap.size w)
 go_enter Try.func7,Try.ntmps7
 go_upto_region 1 with (fail)
 refine wp_region_list ?_
 refine Kd.event_run (w1:=w.alloc (.cells #[.int .i64 97,.int .i64 1488,.int .i64 1489] 3)) (v:= .slice (some ⟨w.heap.size,0,none⟩) 3 3) rfl (by kernel_rfl) ?_
 simp only [Act.put,List.setIfInBounds_toArray,List.set_cons_succ,List.set_cons_zero]
 obtain ⟨w1,hW_⟩: ∃ W_,w.alloc (.cells #[.int .i64 97,.int .i64 1488,.int .i64 1489] 3)=W_:=⟨_,rfl⟩
 have hb:Below w.heap.size w w1:=by rw [← hW_];exact below_alloc (Below.refl _ _) _
 have hI:Aside0 (Kd.C (Kd.int .i64) w1 (some ⟨w.heap.size,0,none⟩) 3 [97,1488,1489]):=⟨by rw [← hW_];exact parquetrylaw19_awake.lit_C _ _ _ [97,1488,1489] (blk_new _ _) (by decide)⟩
 rw [hW_]
 have nB_:=Aside0.mk (below_step HB.out hb)
 clear HB
 have HB:=nB_
 clear hb nB_
 clear hW_
 generalize w.heap.size=gx at hI ⊢
 have Hx:=hI
 clear hI
 refine goesL_ (some 4) rfl rfl Try.func15 (by kernel_rfl) rfl #[.slice (some ⟨gx,0,none⟩) 3 3] rfl (by kernel_rfl) ?_
 refine (parquetrylaw19_of.calls 60 (some ⟨gx,0,none⟩) 3 [97,1488,1489] parquetrylaw19_awake.xa _ Hx.out (Nat.le_refl _) parquetrylaw19_awake.at_a).mono ?_
 rintro e w2 ⟨v_,rfl,ho,hb⟩
 obtain ⟨Aa,ca,rfl⟩:=Kd.R_slice ho
 obtain ⟨_,hc_,hr_⟩:=Kd.R_reads' ho
 refine ⟨_,rfl,?_⟩
 simp only [Act.put,List.setIfInBounds_toArray,List.set_cons_succ,List.set_cons_zero]
 clear Hx ho
 have nB_:=Aside0.mk (below_step HB.out hb)
 clear HB
 have HB:=nB_
 clear hb nB_
 have Ha:=Aside0.mk hr_
 have HCa:=Aside0.mk hc_
 clear hr_ hc_
 refine Kd.event_run (w1:=w2) (v:=(.slice Aa parquetrylaw19_awake.xa.length ca:Value)) rfl (by kernel_rfl) ?_
 simp only [Act.put,List.setIfInBounds_toArray,List.set_cons_succ,List.set_cons_zero]
 refine wpList_nil ?_
 go_upto_region 2 with (fail)
 refine wp_region_list ?_
 refine Kd.event_run (w1:=w2) (v:= .agg #[.int .i64 0,.int .i64 3,.int .i64 3,.int .i64 1,.int .i64 0]) rfl (by kernel_rfl) ?_
 simp only [Act.put,List.setIfInBounds_toArray,List.set_cons_succ,List.set_cons_zero]
 refine alloc_event rfl 25 rfl 5 (by kernel_rfl) ?_
 intro gt w3 cs_ hcs_ hg_ hk_ hb_ _
 simp only [Act.put,List.setIfInBounds_toArray,List.set_cons_succ,List.set_cons_zero]
 refine block_store rfl rfl 25 (.tmp 2) (.tmp 5) rfl (by kernel_rfl) (.agg #[.int .i64 0,.int .i64 3,.int .i64 3,.int .i64 1,.int .i64 0]) (by kernel_rfl) hk_ (by rw [hcs_];rfl) (by rw [hcs_];kernel_rfl) (by decide) ?_
 intro w4 hk2_ _ _ hB2_
 have hb:=hB2_ _ _ hb_ (Nat.le_of_eq hg_.symm)
 clear hB2_ hb_ hg_ hk_ hcs_
 have nB_:=Aside0.mk (below_step HB.out hb)
 have na_:=Aside0.mk (Kd.C_below Ha.out hb)
 clear HB Ha
 have HB:=nB_
 have Ha:=na_
 clear hb nB_ na_
 have Ht:=Aside0.mk hk2_
 clear hk2_
 refine wpList_nil ?_
 go_upto_region 3 with (fail)
 refine wp_region_list ?_
 refine Kd.event_run (w1:=w4) (v:=(.slice Aa parquetrylaw19_awake.xa.length ca:Value)) rfl (by kernel_rfl) ?_
 simp only [Act.put,List.setIfInBounds_toArray,List.set_cons_succ,List.set_cons_zero]
 refine Kd.event_run (w1:=w4.alloc (.cells #[.int .i64 0,.int .i64 1,.int .i64 1] 3)) (v:= .slice (some ⟨w4.heap.size,0,none⟩) 3 3) rfl (by kernel_rfl) ?_
 simp only [Act.put,List.setIfInBounds_toArray,List.set_cons_succ,List.set_cons_zero]
 obtain ⟨w5,hW_⟩: ∃ W_,w4.alloc (.cells #[.int .i64 0,.int .i64 1,.int .i64 1] 3)=W_:=⟨_,rfl⟩
 have hb:Below w4.heap.size w4 w5:=by rw [← hW_];exact below_alloc (Below.refl _ _) _
 have hI:Aside0 (Kd.C (Kd.int .i64) w5 (some ⟨w4.heap.size,0,none⟩) 3 [0,1,1]):=⟨by rw [← hW_];exact parquetrylaw19_awake.lit_C _ _ _ [0,1,1] (blk_new _ _) (by decide)⟩
 rw [hW_]
 have nB_:=Aside0.mk (below_step HB.out hb)
 have na_:=Aside0.mk (Kd.C_below Ha.out hb)
 have nt_:=Aside0.mk (blk_below Ht.out hb)
 clear HB Ha Ht
 have HB:=nB_
 have Ha:=na_
 have Ht:=nt_
 clear hb nB_ na_ nt_
 clear hW_
 generalize w4.heap.size=gl at hI ⊢
 have Hl:=hI
 clear hI
 refine parquetrylaw19_awake.block_load rfl 25 (.tmp 2) rfl (by kernel_rfl) Ht.out _ Try.underlying25 rfl (by kernel_rfl) ?_
 simp only [Act.put,List.setIfInBounds_toArray,List.set_cons_succ,List.set_cons_zero]
 refine Kd.event_run (w1:=w5.alloc (.cells #[.int .i64 97,.int .i64 1489,.int .i64 1488,.int .i64 (-2),.int .i64 (-2)] 3)) (v:= .slice (some ⟨w5.heap.size,0,none⟩) 5 5) rfl (by kernel_rfl) ?_
 simp only [Act.put,List.setIfInBounds_toArray,List.set_cons_succ,List.set_cons_zero]
 obtain ⟨w6,hW_⟩: ∃ W_,w5.alloc (.cells #[.int .i64 97,.int .i64 1489,.int .i64 1488,.int .i64 (-2),.int .i64 (-2)] 3)=W_:=⟨_,rfl⟩
 have hb:Below w5.heap.size w5 w6:=by rw [← hW_];exact below_alloc (Below.refl _ _) _
 have hI:Aside0 (Kd.C (Kd.int .i64) w6 (some ⟨w5.heap.size,0,none⟩) 5 [97,1489,1488,(-2),(-2)]):=⟨by rw [← hW_];exact parquetrylaw19_awake.lit_C _ _ _ [97,1489,1488,(-2),(-2)] (blk_new _ _) (by decide)⟩
 rw [hW_]
 have nB_:=Aside0.mk (below_step HB.out hb)
 have na_:=Aside0.mk (Kd.C_below Ha.out hb)
 have nt_:=Aside0.mk (blk_below Ht.out hb)
 have nl_:=Aside0.mk (Kd.C_below Hl.out hb)
 clear HB Ha Ht Hl
 have HB:=nB_
 have Ha:=na_
 have Ht:=nt_
 have Hl:=nl_
 clear hb nB_ na_ nt_ nl_
 clear hW_
 generalize w5.heap.size=gy at hI ⊢
 have Hy:=hI
 clear hI
 refine goesL_ (some 10) rfl rfl Try.func16 (by kernel_rfl) rfl #[.slice Aa parquetrylaw19_awake.xa.length ca,.slice (some ⟨gl,0,none⟩) 3 3,.agg #[.int .i64 0,.int .i64 3,.int .i64 3,.int .i64 1,.int .i64 0],.int .i64 0,.int .i64 5,.int .i64 2,.slice (some ⟨gy,0,none⟩) 5 5] rfl (by kernel_rfl) ?_
 refine (parquetrylaw19_comes.calls 60 Aa ca parquetrylaw19_awake.xa (some ⟨gl,0,none⟩) 3 [0,1,1] 0 3 3 1 0 0 5 2 (some ⟨gy,0,none⟩) 5 [97,1489,1488,(-2),(-2)] true _ Ha.out HCa.out Hl.out (Nat.le_refl _) Hy.out (Nat.le_refl _) parquetrylaw19_awake.is0).mono ?_
 rintro e w7 ⟨rfl,hb⟩
 refine ⟨_,rfl,?_⟩
 simp only [Act.put,List.setIfInBounds_toArray,List.set_cons_succ,List.set_cons_zero]
 clear Hl Hy
 have nB_:=Aside0.mk (below_step HB.out hb)
 have na_:=Aside0.mk (Kd.C_below Ha.out hb)
 have nt_:=Aside0.mk (blk_below Ht.out hb)
 clear HB Ha Ht
 have HB:=nB_
 have Ha:=na_
 have Ht:=nt_
 clear hb nB_ na_ nt_
 refine Kd.event_run (w1:=w7) (v:= .bool true) rfl (by kernel_rfl) ?_
 simp only [Act.put,List.setIfInBounds_toArray,List.set_cons_succ,List.set_cons_zero]
 refine gate_guard (by kernel_rfl) ?_
 dsimp only
 refine Kd.event_run (w1:=w7) (v:=(.slice Aa parquetrylaw19_awake.xa.length ca:Value)) rfl (by kernel_rfl) ?_
 simp only [Act.put,List.setIfInBounds_toArray,List.set_cons_succ,List.set_cons_zero]
 refine gate_guard (by kernel_rfl) ?_
 dsimp only
 refine Kd.event_run (w1:=w7.alloc (.cells #[.int .i64 2,.int .i64 1,.int .i64 1] 3)) (v:= .slice (some ⟨w7.heap.size,0,none⟩) 3 3) rfl (by kernel_rfl) ?_
 simp only [Act.put,List.setIfInBounds_toArray,List.set_cons_succ,List.set_cons_zero]
 obtain ⟨w8,hW_⟩: ∃ W_,w7.alloc (.cells #[.int .i64 2,.int .i64 1,.int .i64 1] 3)=W_:=⟨_,rfl⟩
 have hb:Below w7.heap.size w7 w8:=by rw [← hW_];exact below_alloc (Below.refl _ _) _
 have hI:Aside0 (Kd.C (Kd.int .i64) w8 (some ⟨w7.heap.size,0,none⟩) 3 [2,1,1]):=⟨by rw [← hW_];exact parquetrylaw19_awake.lit_C _ _ _ [2,1,1] (blk_new _ _) (by decide)⟩
 rw [hW_]
 have nB_:=Aside0.mk (below_step HB.out hb)
 have na_:=Aside0.mk (Kd.C_below Ha.out hb)
 have nt_:=Aside0.mk (blk_below Ht.out hb)
 clear HB Ha Ht
 have HB:=nB_
 have Ha:=na_
 have Ht:=nt_
 clear hb nB_ na_ nt_
 clear hW_
 generalize w7.heap.size=gl at hI ⊢
 have Hl:=hI
 clear hI
 refine gate_guard (by kernel_rfl) ?_
 dsimp only
 refine parquetrylaw19_awake.block_load rfl 25 (.tmp 2) rfl (by kernel_rfl) Ht.out _ Try.underlying25 rfl (by kernel_rfl) ?_
 simp only [Act.put,List.setIfInBounds_toArray,List.set_cons_succ,List.set_cons_zero]
 refine gate_guard (by kernel_rfl) ?_
 dsimp only
 refine Kd.event_run (w1:=w8.alloc (.cells #[.int .i64 (-2),.int .i64 (-2),.int .i64 1489,.int .i64 1488,.int .i64 97] 3)) (v:= .slice (some ⟨w8.heap.size,0,none⟩) 5 5) rfl (by kernel_rfl) ?_
 simp only [Act.put,List.setIfInBounds_toArray,List.set_cons_succ,List.set_cons_zero]
 obtain ⟨w9,hW_⟩: ∃ W_,w8.alloc (.cells #[.int .i64 (-2),.int .i64 (-2),.int .i64 1489,.int .i64 1488,.int .i64 97] 3)=W_:=⟨_,rfl⟩
 have hb:Below w8.heap.size w8 w9:=by rw [← hW_];exact below_alloc (Below.refl _ _) _
 have hI:Aside0 (Kd.C (Kd.int .i64) w9 (some ⟨w8.heap.size,0,none⟩) 5 [(-2),(-2),1489,1488,97]):=⟨by rw [← hW_];exact parquetrylaw19_awake.lit_C _ _ _ [(-2),(-2),1489,1488,97] (blk_new _ _) (by decide)⟩
 rw [hW_]
 have nB_:=Aside0.mk (below_step HB.out hb)
 have na_:=Aside0.mk (Kd.C_below Ha.out hb)
 have nt_:=Aside0.mk (blk_below Ht.out hb)
 have nl_:=Aside0.mk (Kd.C_below Hl.out hb)
 clear HB Ha Ht Hl
 have HB:=nB_
 have Ha:=na_
 have Ht:=nt_
 have Hl:=nl_
 clear hb nB_ na_ nt_ nl_
 clear hW_
 generalize w8.heap.size=gy at hI ⊢
 have Hy:=hI
 clear hI
 refine gate_guard (by kernel_rfl) ?_
 dsimp only
 refine goesL_ (some 16) rfl rfl Try.func16 (by kernel_rfl) rfl #[.slice Aa parquetrylaw19_awake.xa.length ca,.slice (some ⟨gl,0,none⟩) 3 3,.agg #[.int .i64 0,.int .i64 3,.int .i64 3,.int .i64 1,.int .i64 0],.int .i64 1,.int .i64 5,.int .i64 3,.slice (some ⟨gy,0,none⟩) 5 5] rfl (by kernel_rfl) ?_
 refine (parquetrylaw19_comes.calls 60 Aa ca parquetrylaw19_awake.xa (some ⟨gl,0,none⟩) 3 [2,1,1] 0 3 3 1 0 1 5 3 (some ⟨gy,0,none⟩) 5 [(-2),(-2),1489,1488,97] true _ Ha.out HCa.out Hl.out (Nat.le_refl _) Hy.out (Nat.le_refl _) parquetrylaw19_awake.is1).mono ?_
 rintro e w10 ⟨rfl,hb⟩
 refine ⟨_,rfl,?_⟩
 simp only [Act.put,List.setIfInBounds_toArray,List.set_cons_succ,List.set_cons_zero]
 clear Hl Hy
 clear Ha HCa
 have nB_:=Aside0.mk (below_step HB.out hb)
 have nt_:=Aside0.mk (blk_below Ht.out hb)
 clear HB Ht
 have HB:=nB_
 have Ht:=nt_
 clear hb nB_ nt_
 refine Kd.event_run (w1:=w10) (v:= .bool true) rfl (by kernel_rfl) ?_
 simp only [Act.put,List.setIfInBounds_toArray,List.set_cons_succ,List.set_cons_zero]
 refine Kd.event_run (w1:=w10) (v:= .bool true) rfl (by kernel_rfl) ?_
 simp only [Act.put,List.setIfInBounds_toArray,List.set_cons_succ,List.set_cons_zero]
 clear Ht
 refine gate_guard (by kernel_rfl) ?_
 dsimp only
 refine Kd.event_run (w1:=w10.alloc (.cells #[.int .i64 40,.int .i64 1488] 3)) (v:= .slice (some ⟨w10.heap.size,0,none⟩) 2 2) rfl (by kernel_rfl) ?_
 simp only [Act.put,List.setIfInBounds_toArray,List.set_cons_succ,List.set_cons_zero]
 obtain ⟨w11,hW_⟩: ∃ W_,w10.alloc (.cells #[.int .i64 40,.int .i64 1488] 3)=W_:=⟨_,rfl⟩
 have hb:Below w10.heap.size w10 w11:=by rw [← hW_];exact below_alloc (Below.refl _ _) _
 have hI:Aside0 (Kd.C (Kd.int .i64) w11 (some ⟨w10.heap.size,0,none⟩) 2 [40,1488]):=⟨by rw [← hW_];exact parquetrylaw19_awake.lit_C _ _ _ [40,1488] (blk_new _ _) (by decide)⟩
 rw [hW_]
 have nB_:=Aside0.mk (below_step HB.out hb)
 clear HB
 have HB:=nB_
 clear hb nB_
 clear hW_
 generalize w10.heap.size=gx at hI ⊢
 have Hx:=hI
 clear hI
 refine gate_guard (by kernel_rfl) ?_
 dsimp only
 refine goesL_ (some 20) rfl rfl Try.func15 (by kernel_rfl) rfl #[.slice (some ⟨gx,0,none⟩) 2 2] rfl (by kernel_rfl) ?_
 refine (parquetrylaw19_of.calls 60 (some ⟨gx,0,none⟩) 2 [40,1488] parquetrylaw19_awake.xb _ Hx.out (Nat.le_refl _) parquetrylaw19_awake.at_b).mono ?_
 rintro e w12 ⟨v_,rfl,ho,hb⟩
 obtain ⟨Ab,cb,rfl⟩:=Kd.R_slice ho
 obtain ⟨_,hc_,hr_⟩:=Kd.R_reads' ho
 refine ⟨_,rfl,?_⟩
 simp only [Act.put,List.setIfInBounds_toArray,List.set_cons_succ,List.set_cons_zero]
 clear Hx ho
 have nB_:=Aside0.mk (below_step HB.out hb)
 clear HB
 have HB:=nB_
 clear hb nB_
 have Hb:=Aside0.mk hr_
 have HCb:=Aside0.mk hc_
 clear hr_ hc_
 refine gate_guard (by kernel_rfl) ?_
 dsimp only
 refine Kd.event_run (w1:=w12.alloc (.cells #[.int .i64 1,.int .i64 1] 3)) (v:= .slice (some ⟨w12.heap.size,0,none⟩) 2 2) rfl (by kernel_rfl) ?_
 simp only [Act.put,List.setIfInBounds_toArray,List.set_cons_succ,List.set_cons_zero]
 obtain ⟨w13,hW_⟩: ∃ W_,w12.alloc (.cells #[.int .i64 1,.int .i64 1] 3)=W_:=⟨_,rfl⟩
 have hb:Below w12.heap.size w12 w13:=by rw [← hW_];exact below_alloc (Below.refl _ _) _
 have hI:Aside0 (Kd.C (Kd.int .i64) w13 (some ⟨w12.heap.size,0,none⟩) 2 [1,1]):=⟨by rw [← hW_];exact parquetrylaw19_awake.lit_C _ _ _ [1,1] (blk_new _ _) (by decide)⟩
 rw [hW_]
 have nB_:=Aside0.mk (below_step HB.out hb)
 have nb_:=Aside0.mk (Kd.C_below Hb.out hb)
 clear HB Hb
 have HB:=nB_
 have Hb:=nb_
 clear hb nB_ nb_
 clear hW_
 generalize w12.heap.size=gl at hI ⊢
 have Hl:=hI
 clear hI
 refine gate_guard (by kernel_rfl) ?_
 dsimp only
 refine Kd.event_run (w1:=w13) (v:= .agg #[.int .i64 0,.int .i64 2,.int .i64 2,.int .i64 0,.int .i64 0]) rfl (by kernel_rfl) ?_
 simp only [Act.put,List.setIfInBounds_toArray,List.set_cons_succ,List.set_cons_zero]
 refine gate_guard (by kernel_rfl) ?_
 dsimp only
 refine Kd.event_run (w1:=w13.alloc (.cells #[.int .i64 (-2),.int .i64 1488,.int .i64 41,.int .i64 (-2)] 3)) (v:= .slice (some ⟨w13.heap.size,0,none⟩) 4 4) rfl (by kernel_rfl) ?_
 simp only [Act.put,List.setIfInBounds_toArray,List.set_cons_succ,List.set_cons_zero]
 obtain ⟨w14,hW_⟩: ∃ W_,w13.alloc (.cells #[.int .i64 (-2),.int .i64 1488,.int .i64 41,.int .i64 (-2)] 3)=W_:=⟨_,rfl⟩
 have hb:Below w13.heap.size w13 w14:=by rw [← hW_];exact below_alloc (Below.refl _ _) _
 have hI:Aside0 (Kd.C (Kd.int .i64) w14 (some ⟨w13.heap.size,0,none⟩) 4 [(-2),1488,41,(-2)]):=⟨by rw [← hW_];exact parquetrylaw19_awake.lit_C _ _ _ [(-2),1488,41,(-2)] (blk_new _ _) (by decide)⟩
 rw [hW_]
 have nB_:=Aside0.mk (below_step HB.out hb)
 have nb_:=Aside0.mk (Kd.C_below Hb.out hb)
 have nl_:=Aside0.mk (Kd.C_below Hl.out hb)
 clear HB Hb Hl
 have HB:=nB_
 have Hb:=nb_
 have Hl:=nl_
 clear hb nB_ nb_ nl_
 clear hW_
 generalize w13.heap.size=gy at hI ⊢
 have Hy:=hI
 clear hI
 refine gate_guard (by kernel_rfl) ?_
 dsimp only
 refine goesL_ (some 24) rfl rfl Try.func16 (by kernel_rfl) rfl #[.slice Ab parquetrylaw19_awake.xb.length cb,.slice (some ⟨gl,0,none⟩) 2 2,.agg #[.int .i64 0,.int .i64 2,.int .i64 2,.int .i64 0,.int .i64 0],.int .i64 1,.int .i64 4,.int .i64 4,.slice (some ⟨gy,0,none⟩) 4 4] rfl (by kernel_rfl) ?_
 refine (parquetrylaw19_comes.calls 60 Ab cb parquetrylaw19_awake.xb (some ⟨gl,0,none⟩) 2 [1,1] 0 2 2 0 0 1 4 4 (some ⟨gy,0,none⟩) 4 [(-2),1488,41,(-2)] true _ Hb.out HCb.out Hl.out (Nat.le_refl _) Hy.out (Nat.le_refl _) parquetrylaw19_awake.is2).mono ?_
 rintro e w15 ⟨rfl,hb⟩
 refine ⟨_,rfl,?_⟩
 simp only [Act.put,List.setIfInBounds_toArray,List.set_cons_succ,List.set_cons_zero]
 clear Hl Hy
 clear Hb HCb
 have nB_:=Aside0.mk (below_step HB.out hb)
 clear HB
 have HB:=nB_
 clear hb nB_
 refine Kd.event_run (w1:=w15) (v:= .bool true) rfl (by kernel_rfl) ?_
 simp only [Act.put,List.setIfInBounds_toArray,List.set_cons_succ,List.set_cons_zero]
 refine Kd.event_run (w1:=w15) (v:= .bool true) rfl (by kernel_rfl) ?_
 simp only [Act.put,List.setIfInBounds_toArray,List.set_cons_succ,List.set_cons_zero]
 refine gate_guard (by kernel_rfl) ?_
 dsimp only
 refine Kd.event_run (w1:=w15.alloc (.cells #[.int .i64 97,.int .i64 98,.int .i64 99] 3)) (v:= .slice (some ⟨w15.heap.size,0,none⟩) 3 3) rfl (by kernel_rfl) ?_
 simp only [Act.put,List.setIfInBounds_toArray,List.set_cons_succ,List.set_cons_zero]
 obtain ⟨w16,hW_⟩: ∃ W_,w15.alloc (.cells #[.int .i64 97,.int .i64 98,.int .i64 99] 3)=W_:=⟨_,rfl⟩
 have hb:Below w15.heap.size w15 w16:=by rw [← hW_];exact below_alloc (Below.refl _ _) _
 have hI:Aside0 (Kd.C (Kd.int .i64) w16 (some ⟨w15.heap.size,0,none⟩) 3 [97,98,99]):=⟨by rw [← hW_];exact parquetrylaw19_awake.lit_C _ _ _ [97,98,99] (blk_new _ _) (by decide)⟩
 rw [hW_]
 have nB_:=Aside0.mk (below_step HB.out hb)
 clear HB
 have HB:=nB_
 clear hb nB_
 clear hW_
 generalize w15.heap.size=gx at hI ⊢
 have Hx:=hI
 clear hI
 refine gate_guard (by kernel_rfl) ?_
 dsimp only
 refine goesL_ (some 28) rfl rfl Try.func15 (by kernel_rfl) rfl #[.slice (some ⟨gx,0,none⟩) 3 3] rfl (by kernel_rfl) ?_
 refine (parquetrylaw19_of.calls 60 (some ⟨gx,0,none⟩) 3 [97,98,99] parquetrylaw19_awake.xc _ Hx.out (Nat.le_refl _) parquetrylaw19_awake.at_c).mono ?_
 rintro e w17 ⟨v_,rfl,ho,hb⟩
 obtain ⟨Ac,cc,rfl⟩:=Kd.R_slice ho
 obtain ⟨_,hc_,hr_⟩:=Kd.R_reads' ho
 refine ⟨_,rfl,?_⟩
 simp only [Act.put,List.setIfInBounds_toArray,List.set_cons_succ,List.set_cons_zero]
 clear Hx ho
 have nB_:=Aside0.mk (below_step HB.out hb)
 clear HB
 have HB:=nB_
 clear hb nB_
 have Hc:=Aside0.mk hr_
 have HCc:=Aside0.mk hc_
 clear hr_ hc_
 refine gate_guard (by kernel_rfl) ?_
 dsimp only
 refine Kd.event_run (w1:=w17.alloc (.cells #[.int .i64 0,.int .i64 0,.int .i64 0] 3)) (v:= .slice (some ⟨w17.heap.size,0,none⟩) 3 3) rfl (by kernel_rfl) ?_
 simp only [Act.put,List.setIfInBounds_toArray,List.set_cons_succ,List.set_cons_zero]
 obtain ⟨w18,hW_⟩: ∃ W_,w17.alloc (.cells #[.int .i64 0,.int .i64 0,.int .i64 0] 3)=W_:=⟨_,rfl⟩
 have hb:Below w17.heap.size w17 w18:=by rw [← hW_];exact below_alloc (Below.refl _ _) _
 have hI:Aside0 (Kd.C (Kd.int .i64) w18 (some ⟨w17.heap.size,0,none⟩) 3 [0,0,0]):=⟨by rw [← hW_];exact parquetrylaw19_awake.lit_C _ _ _ [0,0,0] (blk_new _ _) (by decide)⟩
 rw [hW_]
 have nB_:=Aside0.mk (below_step HB.out hb)
 have nc_:=Aside0.mk (Kd.C_below Hc.out hb)
 clear HB Hc
 have HB:=nB_
 have Hc:=nc_
 clear hb nB_ nc_
 clear hW_
 generalize w17.heap.size=gl at hI ⊢
 have Hl:=hI
 clear hI
 refine gate_guard (by kernel_rfl) ?_
 dsimp only
 refine Kd.event_run (w1:=w18) (v:= .agg #[.int .i64 0,.int .i64 3,.int .i64 1,.int .i64 0,.int .i64 1]) rfl (by kernel_rfl) ?_
 simp only [Act.put,List.setIfInBounds_toArray,List.set_cons_succ,List.set_cons_zero]
 refine gate_guard (by kernel_rfl) ?_
 dsimp only
 refine Kd.event_run (w1:=w18.alloc (.cells #[.int .i64 97,.int .i64 (-3),.int .i64 (-2)] 3)) (v:= .slice (some ⟨w18.heap.size,0,none⟩) 3 3) rfl (by kernel_rfl) ?_
 simp only [Act.put,List.setIfInBounds_toArray,List.set_cons_succ,List.set_cons_zero]
 obtain ⟨w19,hW_⟩: ∃ W_,w18.alloc (.cells #[.int .i64 97,.int .i64 (-3),.int .i64 (-2)] 3)=W_:=⟨_,rfl⟩
 have hb:Below w18.heap.size w18 w19:=by rw [← hW_];exact below_alloc (Below.refl _ _) _
 have hI:Aside0 (Kd.C (Kd.int .i64) w19 (some ⟨w18.heap.size,0,none⟩) 3 [97,(-3),(-2)]):=⟨by rw [← hW_];exact parquetrylaw19_awake.lit_C _ _ _ [97,(-3),(-2)] (blk_new _ _) (by decide)⟩
 rw [hW_]
 have nB_:=Aside0.mk (below_step HB.out hb)
 have nc_:=Aside0.mk (Kd.C_below Hc.out hb)
 have nl_:=Aside0.mk (Kd.C_below Hl.out hb)
 clear HB Hc Hl
 have HB:=nB_
 have Hc:=nc_
 have Hl:=nl_
 clear hb nB_ nc_ nl_
 clear hW_
 generalize w18.heap.size=gy at hI ⊢
 have Hy:=hI
 clear hI
 refine gate_guard (by kernel_rfl) ?_
 dsimp only
 refine goesL_ (some 32) rfl rfl Try.func16 (by kernel_rfl) rfl #[.slice Ac parquetrylaw19_awake.xc.length cc,.slice (some ⟨gl,0,none⟩) 3 3,.agg #[.int .i64 0,.int .i64 3,.int .i64 1,.int .i64 0,.int .i64 1],.int .i64 0,.int .i64 3,.int .i64 2,.slice (some ⟨gy,0,none⟩) 3 3] rfl (by kernel_rfl) ?_
 refine (parquetrylaw19_comes.calls 60 Ac cc parquetrylaw19_awake.xc (some ⟨gl,0,none⟩) 3 [0,0,0] 0 3 1 0 1 0 3 2 (some ⟨gy,0,none⟩) 3 [97,(-3),(-2)] true _ Hc.out HCc.out Hl.out (Nat.le_refl _) Hy.out (Nat.le_refl _) parquetrylaw19_awake.is3).mono ?_
 rintro e w20 ⟨rfl,hb⟩
 refine ⟨_,rfl,?_⟩
 simp only [Act.put,List.setIfInBounds_toArray,List.set_cons_succ,List.set_cons_zero]
 clear Hl Hy
 clear Hc HCc
 have nB_:=Aside0.mk (below_step HB.out hb)
 clear HB
 have HB:=nB_
 clear hb nB_
 refine Kd.event_run (w1:=w20) (v:= .bool true) rfl (by kernel_rfl) ?_
 simp only [Act.put,List.setIfInBounds_toArray,List.set_cons_succ,List.set_cons_zero]
 refine Kd.event_run (w1:=w20) (v:= .bool true) rfl (by kernel_rfl) ?_
 simp only [Act.put,List.setIfInBounds_toArray,List.set_cons_succ,List.set_cons_zero]
 refine gate_guard (by kernel_rfl) ?_
 dsimp only
 refine Kd.event_run (w1:=w20.alloc (.cells #[.int .i64 19968] 3)) (v:= .slice (some ⟨w20.heap.size,0,none⟩) 1 1) rfl (by kernel_rfl) ?_
 simp only [Act.put,List.setIfInBounds_toArray,List.set_cons_succ,List.set_cons_zero]
 obtain ⟨w21,hW_⟩: ∃ W_,w20.alloc (.cells #[.int .i64 19968] 3)=W_:=⟨_,rfl⟩
 have hb:Below w20.heap.size w20 w21:=by rw [← hW_];exact below_alloc (Below.refl _ _) _
 have hI:Aside0 (Kd.C (Kd.int .i64) w21 (some ⟨w20.heap.size,0,none⟩) 1 [19968]):=⟨by rw [← hW_];exact parquetrylaw19_awake.lit_C _ _ _ [19968] (blk_new _ _) (by decide)⟩
 rw [hW_]
 have nB_:=Aside0.mk (below_step HB.out hb)
 clear HB
 have HB:=nB_
 clear hb nB_
 clear hW_
 generalize w20.heap.size=gx at hI ⊢
 have Hx:=hI
 clear hI
 refine gate_guard (by kernel_rfl) ?_
 dsimp only
 refine goesL_ (some 36) rfl rfl Try.func15 (by kernel_rfl) rfl #[.slice (some ⟨gx,0,none⟩) 1 1] rfl (by kernel_rfl) ?_
 refine (parquetrylaw19_of.calls 60 (some ⟨gx,0,none⟩) 1 [19968] parquetrylaw19_awake.xd _ Hx.out (Nat.le_refl _) parquetrylaw19_awake.at_d).mono ?_
 rintro e w22 ⟨v_,rfl,ho,hb⟩
 obtain ⟨Ad,cd,rfl⟩:=Kd.R_slice ho
 obtain ⟨_,hc_,hr_⟩:=Kd.R_reads' ho
 refine ⟨_,rfl,?_⟩
 simp only [Act.put,List.setIfInBounds_toArray,List.set_cons_succ,List.set_cons_zero]
 clear Hx ho
 have nB_:=Aside0.mk (below_step HB.out hb)
 clear HB
 have HB:=nB_
 clear hb nB_
 have Hd:=Aside0.mk hr_
 have HCd:=Aside0.mk hc_
 clear hr_ hc_
 refine gate_guard (by kernel_rfl) ?_
 dsimp only
 refine Kd.event_run (w1:=w22.alloc (.cells #[.int .i64 0] 3)) (v:= .slice (some ⟨w22.heap.size,0,none⟩) 1 1) rfl (by kernel_rfl) ?_
 simp only [Act.put,List.setIfInBounds_toArray,List.set_cons_succ,List.set_cons_zero]
 obtain ⟨w23,hW_⟩: ∃ W_,w22.alloc (.cells #[.int .i64 0] 3)=W_:=⟨_,rfl⟩
 have hb:Below w22.heap.size w22 w23:=by rw [← hW_];exact below_alloc (Below.refl _ _) _
 have hI:Aside0 (Kd.C (Kd.int .i64) w23 (some ⟨w22.heap.size,0,none⟩) 1 [0]):=⟨by rw [← hW_];exact parquetrylaw19_awake.lit_C _ _ _ [0] (blk_new _ _) (by decide)⟩
 rw [hW_]
 have nB_:=Aside0.mk (below_step HB.out hb)
 have nd_:=Aside0.mk (Kd.C_below Hd.out hb)
 clear HB Hd
 have HB:=nB_
 have Hd:=nd_
 clear hb nB_ nd_
 clear hW_
 generalize w22.heap.size=gl at hI ⊢
 have Hl:=hI
 clear hI
 refine gate_guard (by kernel_rfl) ?_
 dsimp only
 refine Kd.event_run (w1:=w23) (v:= .agg #[.int .i64 0,.int .i64 1,.int .i64 1,.int .i64 0,.int .i64 0]) rfl (by kernel_rfl) ?_
 simp only [Act.put,List.setIfInBounds_toArray,List.set_cons_succ,List.set_cons_zero]
 refine gate_guard (by kernel_rfl) ?_
 dsimp only
 refine Kd.event_run (w1:=w23.alloc (.cells #[.int .i64 (-2),.int .i64 19968,.int .i64 2117120] 3)) (v:= .slice (some ⟨w23.heap.size,0,none⟩) 3 3) rfl (by kernel_rfl) ?_
 simp only [Act.put,List.setIfInBounds_toArray,List.set_cons_succ,List.set_cons_zero]
 obtain ⟨w24,hW_⟩: ∃ W_,w23.alloc (.cells #[.int .i64 (-2),.int .i64 19968,.int .i64 2117120] 3)=W_:=⟨_,rfl⟩
 have hb:Below w23.heap.size w23 w24:=by rw [← hW_];exact below_alloc (Below.refl _ _) _
 have hI:Aside0 (Kd.C (Kd.int .i64) w24 (some ⟨w23.heap.size,0,none⟩) 3 [(-2),19968,2117120]):=⟨by rw [← hW_];exact parquetrylaw19_awake.lit_C _ _ _ [(-2),19968,2117120] (blk_new _ _) (by decide)⟩
 rw [hW_]
 have nB_:=Aside0.mk (below_step HB.out hb)
 have nd_:=Aside0.mk (Kd.C_below Hd.out hb)
 have nl_:=Aside0.mk (Kd.C_below Hl.out hb)
 clear HB Hd Hl
 have HB:=nB_
 have Hd:=nd_
 have Hl:=nl_
 clear hb nB_ nd_ nl_
 clear hW_
 generalize w23.heap.size=gy at hI ⊢
 have Hy:=hI
 clear hI
 refine gate_guard (by kernel_rfl) ?_
 dsimp only
 refine goesL_ (some 40) rfl rfl Try.func16 (by kernel_rfl) rfl #[.slice Ad parquetrylaw19_awake.xd.length cd,.slice (some ⟨gl,0,none⟩) 1 1,.agg #[.int .i64 0,.int .i64 1,.int .i64 1,.int .i64 0,.int .i64 0],.int .i64 0,.int .i64 3,.int .i64 3,.slice (some ⟨gy,0,none⟩) 3 3] rfl (by kernel_rfl) ?_
 refine (parquetrylaw19_comes.calls 60 Ad cd parquetrylaw19_awake.xd (some ⟨gl,0,none⟩) 1 [0] 0 1 1 0 0 0 3 3 (some ⟨gy,0,none⟩) 3 [(-2),19968,2117120] true _ Hd.out HCd.out Hl.out (Nat.le_refl _) Hy.out (Nat.le_refl _) parquetrylaw19_awake.is4).mono ?_
 rintro e w25 ⟨rfl,hb⟩
 refine ⟨_,rfl,?_⟩
 simp only [Act.put,List.setIfInBounds_toArray,List.set_cons_succ,List.set_cons_zero]
 clear Hl Hy
 clear Hd HCd
 have nB_:=Aside0.mk (below_step HB.out hb)
 clear HB
 have HB:=nB_
 clear hb nB_
 refine Kd.event_run (w1:=w25) (v:= .bool true) rfl (by kernel_rfl) ?_
 simp only [Act.put,List.setIfInBounds_toArray,List.set_cons_succ,List.set_cons_zero]
 refine Kd.event_run (w1:=w25) (v:= .bool true) rfl (by kernel_rfl) ?_
 simp only [Act.put,List.setIfInBounds_toArray,List.set_cons_succ,List.set_cons_zero]
 refine wpList_nil ?_
 go_wp2
 go_ret
 exact ⟨rfl,HB.out⟩
end
end Go.Proofs.Yteoaegigjlhamaa.PC19
