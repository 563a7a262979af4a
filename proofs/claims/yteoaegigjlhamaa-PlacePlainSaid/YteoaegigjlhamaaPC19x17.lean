/- For the laws of the group C19: the Lean functions that the Go functions compute, and proofs that they do. Written by wip/hprint.py of this repo over the kit's printer; nothing here is trusted: Lean checks it. -/
import Derived.Test.YteoaegigjlhamaaPC19x0
import Derived.Test.YteoaegigjlhamaaPC19x2
import Derived.Test.YteoaegigjlhamaaPC19x6
import Derived.Test.YteoaegigjlhamaaPC19x15
import Derived.Test.YteoaegigjlhamaaPC19x16
namespace Go.Proofs.Yteoaegigjlhamaa.PC19
open Go.RowKit Go.Proofs.YteoaegigjlhamaaW.PrintWords Go.Proofs.YteoaegigjlhamaaW.PrintLast Go.Proofs.YteoaegigjlhamaaW.PrintMore
attribute [local go_sem] max2_int min2_int max_two min_two max_three min_three max_four min_four
set_option linter.unusedVariables false
set_option linter.unusedSimpArgs false
attribute [local go_sem high] eqA42
mutual
def parquetrylaw19_PlacePlain.j0:Nat→Int→Int→Int→List (S42)→List (S40)→Bool→Option (Bool)
 | 0,_,_,_,_,_,_=>none
 | k+1,x1,x2,x4,x12,x14,x54=>if x54=true then (some false) else (parquetrylaw19_PlacePlain.l0 k x2 x4 x12 x14 0 (wrap64 (x1)))
def parquetrylaw19_PlacePlain.l0:Nat→Int→Int→List (S42)→List (S40)→Int→Int→Option (Bool)
 | 0,_,_,_,_,_,_=>none
 | k+1,x2,x4,x12,x14,x15,x16=>if x16 < (wrap64 (x2)) then (parquetrylaw19_PlacePlain.l1 k x2 x4 x12 x14 x15 x16 0) else (parquetrylaw19_PlacePlain.l2 k x4 x12 x15)
def parquetrylaw19_PlacePlain.l1:Nat→Int→Int→List (S42)→List (S40)→Int→Int→Int→Option (Bool)
 | 0,_,_,_,_,_,_,_=>none
 | k+1,x2,x4,x12,x14,x15,x16,x17=>if 0≤x16 then (if x16 < (x14.length:Int) then (if x17 < ((rd_T40 x14 x16).f4) then (parquetrylaw19_PlacePlain.j3 k x2 x4 x12 x14 x15 x16 x17 (decide (x15 < x4))) else (parquetrylaw19_PlacePlain.j3 k x2 x4 x12 x14 x15 x16 x17 false)) else (none)) else (none)
def parquetrylaw19_PlacePlain.j3:Nat→Int→Int→List (S42)→List (S40)→Int→Int→Int→Bool→Option (Bool)
 | 0,_,_,_,_,_,_,_,_=>none
 | k+1,x2,x4,x12,x14,x15,x16,x17,x74=>if x74=true then (if 0≤x15 then (if x15 < (x12.length:Int) then (if 0≤x16 then (if x16 < (x14.length:Int) then (if (!(((rd_T42 x12 x15).f0)==4) || (!(((rd_T42 x12 x15).f1)==0) || (!(((rd_T42 x12 x15).f2)==0) || (!(((rd_T42 x12 x15).f3)==((rd_T40 x14 x16).f0)) || (!(((rd_T42 x12 x15).f4)==x17) || (!(((rd_T42 x12 x15).f5)==((rd_T40 x14 x16).f5))))))))=true then (some false) else (parquetrylaw19_PlacePlain.l1 k x2 x4 x12 x14 (wrap64 (x15+1)) x16 (wrap64 (x17+1)))) else (none)) else (none)) else (none)) else (none)) else (parquetrylaw19_PlacePlain.l0 k x2 x4 x12 x14 x15 (wrap64 (x16+1)))
def parquetrylaw19_PlacePlain.l2:Nat→Int→List (S42)→Int→Option (Bool)
 | 0,_,_,_=>none
 | k+1,x4,x12,x15=>if x15 < x4 then (if 0≤x15 then (if x15 < (x12.length:Int) then (if (!(((rd_T42 x12 x15).f0)==2) || (!(((rd_T42 x12 x15).f1)==0) || (!(((rd_T42 x12 x15).f2)==0) || (!(((rd_T42 x12 x15).f3)==0) || (!(((rd_T42 x12 x15).f4)==0) || (!(((rd_T42 x12 x15).f5)==0)))))))=true then (some false) else (parquetrylaw19_PlacePlain.l2 k x4 x12 (wrap64 (x15+1)))) else (none)) else (none)) else ((parquetrylaw19_awake.f k).bind fun t269=>(some t269))
end
def parquetrylaw19_PlacePlain.f (k:Nat) (l0:List (S36)) (a1:Int) (a2:Int) (a3:Int) (a4:Int):Option (Bool):=if (l0.length:Int) > 200 then ((parquetrylaw19_awake.f k).bind fun t252=>(some t252)) else (if 0≤(l0.length:Int) then (if ((l0.length:Int):Int).toNat≤35184372088832 then ((place_Slots.f k l0 (List.replicate ((l0.length:Int):Int).toNat 0) (wrap64 (a1)) (wrap64 (a3)) (wrap64 (a2)) 0 0 0 a4 2).bind fun bt256=>(if bt256.2=0 then ((cluster_Of.f l0).bind fun t261=>(if (wrap64 (a3)) > (t261.length:Int) then (parquetrylaw19_PlacePlain.j0 k a1 a2 a4 bt256.1 t261 true) else (parquetrylaw19_PlacePlain.j0 k a1 a2 a4 bt256.1 t261 ((bt256.1.length:Int) !=a4)))) else ((parquetrylaw19_awake.f k).bind fun t260=>(some t260)))) else (none)) else (none))
theorem parquetrylaw19_PlacePlain.mono_l: ∀ k,(∀ y0 y1 y2 y3 y4 y5,LeO (parquetrylaw19_PlacePlain.j0 k y0 y1 y2 y3 y4 y5) (parquetrylaw19_PlacePlain.j0 (k+1) y0 y1 y2 y3 y4 y5))∧(∀ y0 y1 y2 y3 y4 y5,LeO (parquetrylaw19_PlacePlain.l0 k y0 y1 y2 y3 y4 y5) (parquetrylaw19_PlacePlain.l0 (k+1) y0 y1 y2 y3 y4 y5))∧(∀ y0 y1 y2 y3 y4 y5 y6,LeO (parquetrylaw19_PlacePlain.l1 k y0 y1 y2 y3 y4 y5 y6) (parquetrylaw19_PlacePlain.l1 (k+1) y0 y1 y2 y3 y4 y5 y6))∧(∀ y0 y1 y2 y3 y4 y5 y6 y7,LeO (parquetrylaw19_PlacePlain.j3 k y0 y1 y2 y3 y4 y5 y6 y7) (parquetrylaw19_PlacePlain.j3 (k+1) y0 y1 y2 y3 y4 y5 y6 y7))∧(∀ y0 y1 y2,LeO (parquetrylaw19_PlacePlain.l2 k y0 y1 y2) (parquetrylaw19_PlacePlain.l2 (k+1) y0 y1 y2))
 | 0=>⟨fun _ _ _ _ _ _ r h=>by simp [parquetrylaw19_PlacePlain.j0] at h,fun _ _ _ _ _ _ r h=>by simp [parquetrylaw19_PlacePlain.l0] at h,fun _ _ _ _ _ _ _ r h=>by simp [parquetrylaw19_PlacePlain.l1] at h,fun _ _ _ _ _ _ _ _ r h=>by simp [parquetrylaw19_PlacePlain.j3] at h,fun _ _ _ r h=>by simp [parquetrylaw19_PlacePlain.l2] at h⟩
 | k+1=>by
  obtain ⟨ih0,ih1,ih2,ih3,ih4⟩:=parquetrylaw19_PlacePlain.mono_l k
  refine ⟨?_,?_,?_,?_,?_⟩
  ·
   intro y0 y1 y2 y3 y4 y5
   unfold parquetrylaw19_PlacePlain.j0
   repeat' first
   | (with_reducible exact ih0 _ _ _ _ _ _)
   | (with_reducible exact ih1 _ _ _ _ _ _)
   | (with_reducible exact ih2 _ _ _ _ _ _ _)
   | (with_reducible exact ih3 _ _ _ _ _ _ _ _)
   | (with_reducible exact ih4 _ _ _)
   | (with_reducible exact parquetrylaw19_awake.mono _)
   | (with_reducible exact place_Slots.mono _ _ _ _ _ _ _ _ _ _ _)
   | (with_reducible exact LeO.refl _)
   | (with_reducible exact LeO.none _)
   | (with_reducible refine LeO.ite ?_ ?_)
   | (with_reducible refine LeO.bind ?_ (fun _=>?_))
   | exact ih0 _ _ _ _ _ _
   | exact ih1 _ _ _ _ _ _
   | exact ih2 _ _ _ _ _ _ _
   | exact ih3 _ _ _ _ _ _ _ _
   | exact ih4 _ _ _
   | exact parquetrylaw19_awake.mono _
   | exact place_Slots.mono _ _ _ _ _ _ _ _ _ _ _
   | exact LeO.none _
   | refine LeO.ite ?_ ?_
   | refine LeO.bind ?_ (fun _=>?_)
  ·
   intro y0 y1 y2 y3 y4 y5
   unfold parquetrylaw19_PlacePlain.l0
   repeat' first
   | (with_reducible exact ih0 _ _ _ _ _ _)
   | (with_reducible exact ih1 _ _ _ _ _ _)
   | (with_reducible exact ih2 _ _ _ _ _ _ _)
   | (with_reducible exact ih3 _ _ _ _ _ _ _ _)
   | (with_reducible exact ih4 _ _ _)
   | (with_reducible exact parquetrylaw19_awake.mono _)
   | (with_reducible exact place_Slots.mono _ _ _ _ _ _ _ _ _ _ _)
   | (with_reducible exact LeO.refl _)
   | (with_reducible exact LeO.none _)
   | (with_reducible refine LeO.ite ?_ ?_)
   | (with_reducible refine LeO.bind ?_ (fun _=>?_))
   | exact ih0 _ _ _ _ _ _
   | exact ih1 _ _ _ _ _ _
   | exact ih2 _ _ _ _ _ _ _
   | exact ih3 _ _ _ _ _ _ _ _
   | exact ih4 _ _ _
   | exact parquetrylaw19_awake.mono _
   | exact place_Slots.mono _ _ _ _ _ _ _ _ _ _ _
   | exact LeO.none _
   | refine LeO.ite ?_ ?_
   | refine LeO.bind ?_ (fun _=>?_)
  ·
   intro y0 y1 y2 y3 y4 y5 y6
   unfold parquetrylaw19_PlacePlain.l1
   repeat' first
   | (with_reducible exact ih0 _ _ _ _ _ _)
   | (with_reducible exact ih1 _ _ _ _ _ _)
   | (with_reducible exact ih2 _ _ _ _ _ _ _)
   | (with_reducible exact ih3 _ _ _ _ _ _ _ _)
   | (with_reducible exact ih4 _ _ _)
   | (with_reducible exact parquetrylaw19_awake.mono _)
   | (with_reducible exact place_Slots.mono _ _ _ _ _ _ _ _ _ _ _)
   | (with_reducible exact LeO.refl _)
   | (with_reducible exact LeO.none _)
   | (with_reducible refine LeO.ite ?_ ?_)
   | (with_reducible refine LeO.bind ?_ (fun _=>?_))
   | exact ih0 _ _ _ _ _ _
   | exact ih1 _ _ _ _ _ _
   | exact ih2 _ _ _ _ _ _ _
   | exact ih3 _ _ _ _ _ _ _ _
   | exact ih4 _ _ _
   | exact parquetrylaw19_awake.mono _
   | exact place_Slots.mono _ _ _ _ _ _ _ _ _ _ _
   | exact LeO.none _
   | refine LeO.ite ?_ ?_
   | refine LeO.bind ?_ (fun _=>?_)
  ·
   intro y0 y1 y2 y3 y4 y5 y6 y7
   unfold parquetrylaw19_PlacePlain.j3
   repeat' first
   | (with_reducible exact ih0 _ _ _ _ _ _)
   | (with_reducible exact ih1 _ _ _ _ _ _)
   | (with_reducible exact ih2 _ _ _ _ _ _ _)
   | (with_reducible exact ih3 _ _ _ _ _ _ _ _)
   | (with_reducible exact ih4 _ _ _)
   | (with_reducible exact parquetrylaw19_awake.mono _)
   | (with_reducible exact place_Slots.mono _ _ _ _ _ _ _ _ _ _ _)
   | (with_reducible exact LeO.refl _)
   | (with_reducible exact LeO.none _)
   | (with_reducible refine LeO.ite ?_ ?_)
   | (with_reducible refine LeO.bind ?_ (fun _=>?_))
   | exact ih0 _ _ _ _ _ _
   | exact ih1 _ _ _ _ _ _
   | exact ih2 _ _ _ _ _ _ _
   | exact ih3 _ _ _ _ _ _ _ _
   | exact ih4 _ _ _
   | exact parquetrylaw19_awake.mono _
   | exact place_Slots.mono _ _ _ _ _ _ _ _ _ _ _
   | exact LeO.none _
   | refine LeO.ite ?_ ?_
   | refine LeO.bind ?_ (fun _=>?_)
  ·
   intro y0 y1 y2
   unfold parquetrylaw19_PlacePlain.l2
   repeat' first
   | (with_reducible exact ih0 _ _ _ _ _ _)
   | (with_reducible exact ih1 _ _ _ _ _ _)
   | (with_reducible exact ih2 _ _ _ _ _ _ _)
   | (with_reducible exact ih3 _ _ _ _ _ _ _ _)
   | (with_reducible exact ih4 _ _ _)
   | (with_reducible exact parquetrylaw19_awake.mono _)
   | (with_reducible exact place_Slots.mono _ _ _ _ _ _ _ _ _ _ _)
   | (with_reducible exact LeO.refl _)
   | (with_reducible exact LeO.none _)
   | (with_reducible refine LeO.ite ?_ ?_)
   | (with_reducible refine LeO.bind ?_ (fun _=>?_))
   | exact ih0 _ _ _ _ _ _
   | exact ih1 _ _ _ _ _ _
   | exact ih2 _ _ _ _ _ _ _
   | exact ih3 _ _ _ _ _ _ _ _
   | exact ih4 _ _ _
   | exact parquetrylaw19_awake.mono _
   | exact place_Slots.mono _ _ _ _ _ _ _ _ _ _ _
   | exact LeO.none _
   | refine LeO.ite ?_ ?_
   | refine LeO.bind ?_ (fun _=>?_)
theorem parquetrylaw19_PlacePlain.mono: ∀ a0 a1 a2 a3 a4 k,LeO (parquetrylaw19_PlacePlain.f k a0 a1 a2 a3 a4) (parquetrylaw19_PlacePlain.f (k+1) a0 a1 a2 a3 a4):=by
 intro a0 a1 a2 a3 a4 k
 obtain ⟨ih0,ih1,ih2,ih3,ih4⟩:=parquetrylaw19_PlacePlain.mono_l k
 unfold parquetrylaw19_PlacePlain.f
 repeat' first
   | (with_reducible exact ih0 _ _ _ _ _ _)
   | (with_reducible exact ih1 _ _ _ _ _ _)
   | (with_reducible exact ih2 _ _ _ _ _ _ _)
   | (with_reducible exact ih3 _ _ _ _ _ _ _ _)
   | (with_reducible exact ih4 _ _ _)
   | (with_reducible exact parquetrylaw19_awake.mono _)
   | (with_reducible exact place_Slots.mono _ _ _ _ _ _ _ _ _ _ _)
   | (with_reducible exact LeO.refl _)
   | (with_reducible exact LeO.none _)
   | (with_reducible refine LeO.ite ?_ ?_)
   | (with_reducible refine LeO.bind ?_ (fun _=>?_))
   | exact ih0 _ _ _ _ _ _
   | exact ih1 _ _ _ _ _ _
   | exact ih2 _ _ _ _ _ _ _
   | exact ih3 _ _ _ _ _ _ _ _
   | exact ih4 _ _ _
   | exact parquetrylaw19_awake.mono _
   | exact place_Slots.mono _ _ _ _ _ _ _ _ _ _ _
   | exact LeO.none _
   | refine LeO.ite ?_ ?_
   | refine LeO.bind ?_ (fun _=>?_)
set_option maxHeartbeats 8000000 in
set_option maxRecDepth 100000 in
theorem parquetrylaw19_PlacePlain.calls (k:Nat) (A0:Option Addr) (c0:Nat) (l0:List (S36)) (a1:Int) (a2:Int) (a3:Int) (a4:Int) (r:Bool) (w:World) (hr0:Kd.C k36 w A0 l0.length l0) (hc0:l0.length≤c0) (h:parquetrylaw19_PlacePlain.f k l0 a1 a2 a3 a4=some r) :
  Calls Try.prog 6 #[.slice A0 l0.length c0,.int .u8 a1,.int .u8 a2,.int .u8 a3,.int .i64 a4] w fun e w'=>e= .returned (.bool r)∧Below w.heap.size w w':=by
 have hu25:=Try.underlying25
 have hu42:=Try.underlying42
 have HR0:=Aside0.mk hr0
 have HC0:=Aside0.mk hc0
 clear hr0 hc0
 have HB:=Aside0.mk (Below.refl w.heap.size w)
 have H:(if (l0.length:Int) > 200 then ((parquetrylaw19_awake.f k).bind fun t252=>(some t252)) else (if 0≤(l0.length:Int) then (if ((l0.length:Int):Int).toNat≤35184372088832 then ((place_Slots.f k l0 (List.replicate ((l0.length:Int):Int).toNat 0) (wrap64 (a1)) (wrap64 (a3)) (wrap64 (a2)) 0 0 0 a4 2).bind fun bt256=>(if bt256.2=0 then ((cluster_Of.f l0).bind fun t261=>(if (wrap64 (a3)) > (t261.length:Int) then (parquetrylaw19_PlacePlain.j0 k a1 a2 a4 bt256.1 t261 true) else (parquetrylaw19_PlacePlain.j0 k a1 a2 a4 bt256.1 t261 ((bt256.1.length:Int) !=a4)))) else ((parquetrylaw19_awake.f k).bind fun t260=>(some t260)))) else (none)) else (none)))=some r:=h
 clear h
 by_cases c6:(l0.length:Int) > 200
 ·
  rw [if_pos c6] at H
  have c6b0:decide (200 < (l0.length:Int))=true:=decide_eq_true c6
  have c6b1:decide (200 < l0.length)=true:=decide_eq_true (by omega)
  clear c6
  replace H:=Option.bind_eq_some_iff.mp H
  obtain ⟨t252,A70,H⟩:=H
  replace H:(some t252)=some r:=H
  have A7:=Aside0.mk A70
  clear A70
  obtain rfl:=Option.some.inj H
  go_enter Try.func6,Try.ntmps6
  try dsimp only [List.append]
  go_wp2_with (first|(go_at_call 7;(with_reducible refine (parquetrylaw19_awake.calls k t252 _ A7.out).mono ?_);rintro e w8 ⟨rfl,hb⟩;have n0_:=Aside0.mk (below_step (by repeat (first|(with_reducible first|exact HB.out|apply below_alloc|apply pw_below_drewN|apply below_drew1)|exact HB.out)) hb);clear HB;have HB:=n0_;clear n0_;(try clear hb);(try clear hb2);(try clear hk);(try clear hi)))
  repeat (go_quiet (first|(go_at_call 7;(with_reducible refine (parquetrylaw19_awake.calls k t252 _ A7.out).mono ?_);rintro e w8 ⟨rfl,hb⟩;have n0_:=Aside0.mk (below_step (by repeat (first|(with_reducible first|exact HB.out|apply below_alloc|apply pw_below_drewN|apply below_drew1)|exact HB.out)) hb);clear HB;have HB:=n0_;clear n0_;(try clear hb);(try clear hb2);(try clear hk);(try clear hi)));try go_wp2_with (first|(go_at_call 7;(with_reducible refine (parquetrylaw19_awake.calls k t252 _ A7.out).mono ?_);rintro e w8 ⟨rfl,hb⟩;have n0_:=Aside0.mk (below_step (by repeat (first|(with_reducible first|exact HB.out|apply below_alloc|apply pw_below_drewN|apply below_drew1)|exact HB.out)) hb);clear HB;have HB:=n0_;clear n0_;(try clear hb);(try clear hb2);(try clear hk);(try clear hi))))
  go_ret
  exact ⟨by first|rfl|(simp [errW_none,errW_some] <;> rfl)|(simp [*,errW_none,errW_some] <;> rfl),by repeat (first|(with_reducible first|exact HB.out|apply below_alloc|apply pw_below_drewN|apply below_drew1)|exact HB.out)⟩
 ·
  rw [if_neg c6] at H
  have c6b0:decide (200 < (l0.length:Int))=false:=decide_eq_false c6
  have c6b1:decide (200 < l0.length)=false:=decide_eq_false (by omega)
  clear c6
  by_cases c9:0≤(l0.length:Int)
  ·
   rw [if_pos c9] at H
   have c9b0:=eq_true c9
   have c9b1:decide (0≤(l0.length:Int))=true:=decide_eq_true c9
   clear c9
   by_cases c10:((l0.length:Int):Int).toNat≤35184372088832
   ·
    rw [if_pos c10] at H
    have c10b0:=eq_true c10
    have c10b1:decide (((l0.length:Int):Int).toNat≤35184372088832)=true:=decide_eq_true c10
    clear c10
    obtain ⟨y253,hy253⟩: ∃ y_:List Int,y_=(List.replicate ((l0.length:Int):Int).toNat 0):=⟨_,rfl⟩
    replace H:((place_Slots.f k l0 y253 (wrap64 (a1)) (wrap64 (a3)) (wrap64 (a2)) 0 0 0 a4 2).bind fun bt256=>(if bt256.2=0 then ((cluster_Of.f l0).bind fun t261=>(if (wrap64 (a3)) > (t261.length:Int) then (parquetrylaw19_PlacePlain.j0 k a1 a2 a4 bt256.1 t261 true) else (parquetrylaw19_PlacePlain.j0 k a1 a2 a4 bt256.1 t261 ((bt256.1.length:Int) !=a4)))) else ((parquetrylaw19_awake.f k).bind fun t260=>(some t260))))=some r:=by first|(rw [hy253];with_reducible exact H)|(have H2_:=(Option.bind_some _ _).symm.trans H;rw [hy253];with_reducible exact H2_)|(have H2_:=(Option.bind_some _ _).symm.trans H;with_reducible exact H2_)|with_reducible exact H|(rw [hy253];exact H)|exact H
    have Ny253:=Aside0.mk hy253
    clear hy253
    replace H:=Option.bind_eq_some_iff.mp H
    obtain ⟨⟨t256,t259⟩,A110,H⟩:=H
    replace H:(if t259=0 then ((cluster_Of.f l0).bind fun t261=>(if (wrap64 (a3)) > (t261.length:Int) then (parquetrylaw19_PlacePlain.j0 k a1 a2 a4 t256 t261 true) else (parquetrylaw19_PlacePlain.j0 k a1 a2 a4 t256 t261 ((t256.length:Int) !=a4)))) else ((parquetrylaw19_awake.f k).bind fun t260=>(some t260)))=some r:=H
    have A11:=Aside0.mk A110
    clear A110
    by_cases c12:t259=0
    ·
     rw [if_pos c12] at H
     have c12b0:(t259==0)=true:=beq_iff_eq.mpr c12
     have c12b1:(t259 !=0)=false:=bne_eq_false_iff_eq.mpr c12
     clear c12
     replace H:=Option.bind_eq_some_iff.mp H
     obtain ⟨t261,A130,H⟩:=H
     replace H:(if (wrap64 (a3)) > (t261.length:Int) then (parquetrylaw19_PlacePlain.j0 k a1 a2 a4 t256 t261 true) else (parquetrylaw19_PlacePlain.j0 k a1 a2 a4 t256 t261 ((t256.length:Int) !=a4)))=some r:=H
     have A13:=Aside0.mk A130
     clear A130
     have HC14:=Aside0.mk H
     clear H
     go_enter Try.func6,Try.ntmps6
     try dsimp only [List.append]
     go_upto_region 8 with (first|((with_reducible refine gate_dst (N:=24) rfl ?_);(try (refine gate_guard (by rfl) ?_;dsimp only));refine Kd.R_make (Kd.int .i64) _ 3 rfl (N:=24) rfl 23 _ _ rfl (l0.length:Int) rfl rfl Try.underlying23 (.int .i64 0) 8 info3 rfl (by decide) (by omega) 0 (ok:=fun _=>True) (okp:=fun _=>True) rfl (fun _ hk=>hk) trivial (of_decide_eq_true (by first|(with_reducible assumption)|assumption)) (Nat.le_trans (Nat.mul_le_mul_right _ (of_decide_eq_true (by first|(with_reducible assumption)|assumption):(l0.length:Int).toNat≤35184372088832)) (by omega)) (Below.refl _ _) (Nat.le_refl _) ?_;intro v254 w15 ho16 hb hg_ hnew_;clear hg_ hnew_;(first|rw [← Ny253.out] at ho16|(simp only [Int.reduceToNat] at ho16;rw [← Ny253.out] at ho16));have n0_:=Aside0.mk (Kd.R_lower ho16 (below_size (by repeat (first|(with_reducible first|exact HB.out|apply below_alloc|apply pw_below_drewN|apply below_drew1)|exact HB.out))));have n1_:=Aside0.mk (below_step (by repeat (first|(with_reducible first|exact HB.out|apply below_alloc|apply pw_below_drewN|apply below_drew1)|exact HB.out)) hb);clear HB;have HO255:=n0_;have HB:=n1_;clear n0_ n1_;clear hb ho16;obtain ⟨Ao17,co17,eo17⟩:=Kd.R_slice HO255.out;subst eo17)|(go_at_call 8;(with_reducible refine (place_Slots.calls k _ _ l0 _ _ y253 (wrap64 (a1)) (wrap64 (a3)) (wrap64 (a2)) 0 0 0 a4 2 t256 t259 _ ?side1 ?side2 ?side3 ?side4 A11.out).mono ?_);(case side1=>repeat (first|exact (Kd.C_below HR0.out HB.out)|(with_reducible refine Kd.C_alloc ?_ _)|(with_reducible refine Kd.C_drewN ?_ _)|(with_reducible refine Kd.C_drew ?_)));(case side2=>exact HC0.out);(case side3=>repeat (first|exact (Kd.R_reads' HO255.out).2.2|(with_reducible refine Kd.C_alloc ?_ _)|(with_reducible refine Kd.C_drewN ?_ _)|(with_reducible refine Kd.C_drew ?_)));(case side4=>exact (Kd.R_reads' HO255.out).2.1);rintro e w18 ⟨v257,rfl,ho0,hb⟩;have n0_:=Aside0.mk (Kd.R_below (by (with_reducible repeat (first|apply Kd.R_alloc|apply Kd.R_drewN|apply Kd.R_drew));exact HO255.out) hb);have n1_:=Aside0.mk (Kd.R_lower ho0 (below_size (by repeat (first|(with_reducible first|exact HB.out|apply below_alloc|apply pw_below_drewN|apply below_drew1)|exact HB.out))));have n2_:=Aside0.mk (below_step (by repeat (first|(with_reducible first|exact HB.out|apply below_alloc|apply pw_below_drewN|apply below_drew1)|exact HB.out)) hb);clear HO255;clear HB;have HO255:=n0_;have HO258:=n1_;have HB:=n2_;clear n0_ n1_ n2_;(try clear hb);(try clear hb2);(try clear hk);(try clear hi);(try clear ho0))|(go_at_call 13;(with_reducible refine (cluster_Of.calls _ _ l0 t261 _ ?side1 ?side2 A13.out).mono ?_);(case side1=>repeat (first|exact (Kd.C_below HR0.out HB.out)|(with_reducible refine Kd.C_alloc ?_ _)|(with_reducible refine Kd.C_drewN ?_ _)|(with_reducible refine Kd.C_drew ?_)));(case side2=>exact HC0.out);rintro e w19 ⟨v262,rfl,ho0,hb⟩;have n0_:=Aside0.mk (Kd.R_below (by (with_reducible repeat (first|apply Kd.R_alloc|apply Kd.R_drewN|apply Kd.R_drew));exact HO255.out) hb);have n1_:=Aside0.mk (Kd.R_below (by (with_reducible repeat (first|apply Kd.R_alloc|apply Kd.R_drewN|apply Kd.R_drew));exact HO258.out) hb);have n2_:=Aside0.mk (Kd.R_lower ho0 (below_size (by repeat (first|(with_reducible first|exact HB.out|apply below_alloc|apply pw_below_drewN|apply below_drew1)|exact HB.out))));have n3_:=Aside0.mk (below_step (by repeat (first|(with_reducible first|exact HB.out|apply below_alloc|apply pw_below_drewN|apply below_drew1)|exact HB.out)) hb);clear HO255;clear HO258;clear HB;have HO255:=n0_;have HO258:=n1_;have HO263:=n2_;have HB:=n3_;clear n0_ n1_ n2_ n3_;(try clear hb);(try clear hb2);(try clear hk);(try clear hi);(try clear ho0)))
     repeat (go_quiet (first|((with_reducible refine gate_dst (N:=24) rfl ?_);(try (refine gate_guard (by rfl) ?_;dsimp only));refine Kd.R_make (Kd.int .i64) _ 3 rfl (N:=24) rfl 23 _ _ rfl (l0.length:Int) rfl rfl Try.underlying23 (.int .i64 0) 8 info3 rfl (by decide) (by omega) 0 (ok:=fun _=>True) (okp:=fun _=>True) rfl (fun _ hk=>hk) trivial (of_decide_eq_true (by first|(with_reducible assumption)|assumption)) (Nat.le_trans (Nat.mul_le_mul_right _ (of_decide_eq_true (by first|(with_reducible assumption)|assumption):(l0.length:Int).toNat≤35184372088832)) (by omega)) (Below.refl _ _) (Nat.le_refl _) ?_;intro v254 w15 ho16 hb hg_ hnew_;clear hg_ hnew_;(first|rw [← Ny253.out] at ho16|(simp only [Int.reduceToNat] at ho16;rw [← Ny253.out] at ho16));have n0_:=Aside0.mk (Kd.R_lower ho16 (below_size (by repeat (first|(with_reducible first|exact HB.out|apply below_alloc|apply pw_below_drewN|apply below_drew1)|exact HB.out))));have n1_:=Aside0.mk (below_step (by repeat (first|(with_reducible first|exact HB.out|apply below_alloc|apply pw_below_drewN|apply below_drew1)|exact HB.out)) hb);clear HB;have HO255:=n0_;have HB:=n1_;clear n0_ n1_;clear hb ho16;obtain ⟨Ao17,co17,eo17⟩:=Kd.R_slice HO255.out;subst eo17)|(go_at_call 8;(with_reducible refine (place_Slots.calls k _ _ l0 _ _ y253 (wrap64 (a1)) (wrap64 (a3)) (wrap64 (a2)) 0 0 0 a4 2 t256 t259 _ ?side1 ?side2 ?side3 ?side4 A11.out).mono ?_);(case side1=>repeat (first|exact (Kd.C_below HR0.out HB.out)|(with_reducible refine Kd.C_alloc ?_ _)|(with_reducible refine Kd.C_drewN ?_ _)|(with_reducible refine Kd.C_drew ?_)));(case side2=>exact HC0.out);(case side3=>repeat (first|exact (Kd.R_reads' HO255.out).2.2|(with_reducible refine Kd.C_alloc ?_ _)|(with_reducible refine Kd.C_drewN ?_ _)|(with_reducible refine Kd.C_drew ?_)));(case side4=>exact (Kd.R_reads' HO255.out).2.1);rintro e w18 ⟨v257,rfl,ho0,hb⟩;have n0_:=Aside0.mk (Kd.R_below (by (with_reducible repeat (first|apply Kd.R_alloc|apply Kd.R_drewN|apply Kd.R_drew));exact HO255.out) hb);have n1_:=Aside0.mk (Kd.R_lower ho0 (below_size (by repeat (first|(with_reducible first|exact HB.out|apply below_alloc|apply pw_below_drewN|apply below_drew1)|exact HB.out))));have n2_:=Aside0.mk (below_step (by repeat (first|(with_reducible first|exact HB.out|apply below_alloc|apply pw_below_drewN|apply below_drew1)|exact HB.out)) hb);clear HO255;clear HB;have HO255:=n0_;have HO258:=n1_;have HB:=n2_;clear n0_ n1_ n2_;(try clear hb);(try clear hb2);(try clear hk);(try clear hi);(try clear ho0))|(go_at_call 13;(with_reducible refine (cluster_Of.calls _ _ l0 t261 _ ?side1 ?side2 A13.out).mono ?_);(case side1=>repeat (first|exact (Kd.C_below HR0.out HB.out)|(with_reducible refine Kd.C_alloc ?_ _)|(with_reducible refine Kd.C_drewN ?_ _)|(with_reducible refine Kd.C_drew ?_)));(case side2=>exact HC0.out);rintro e w19 ⟨v262,rfl,ho0,hb⟩;have n0_:=Aside0.mk (Kd.R_below (by (with_reducible repeat (first|apply Kd.R_alloc|apply Kd.R_drewN|apply Kd.R_drew));exact HO255.out) hb);have n1_:=Aside0.mk (Kd.R_below (by (with_reducible repeat (first|apply Kd.R_alloc|apply Kd.R_drewN|apply Kd.R_drew));exact HO258.out) hb);have n2_:=Aside0.mk (Kd.R_lower ho0 (below_size (by repeat (first|(with_reducible first|exact HB.out|apply below_alloc|apply pw_below_drewN|apply below_drew1)|exact HB.out))));have n3_:=Aside0.mk (below_step (by repeat (first|(with_reducible first|exact HB.out|apply below_alloc|apply pw_below_drewN|apply below_drew1)|exact HB.out)) hb);clear HO255;clear HO258;clear HB;have HO255:=n0_;have HO258:=n1_;have HO263:=n2_;have HB:=n3_;clear n0_ n1_ n2_ n3_;(try clear hb);(try clear hb2);(try clear hk);(try clear hi);(try clear ho0)));go_upto_region 8 with (first|((with_reducible refine gate_dst (N:=24) rfl ?_);(try (refine gate_guard (by rfl) ?_;dsimp only));refine Kd.R_make (Kd.int .i64) _ 3 rfl (N:=24) rfl 23 _ _ rfl (l0.length:Int) rfl rfl Try.underlying23 (.int .i64 0) 8 info3 rfl (by decide) (by omega) 0 (ok:=fun _=>True) (okp:=fun _=>True) rfl (fun _ hk=>hk) trivial (of_decide_eq_true (by first|(with_reducible assumption)|assumption)) (Nat.le_trans (Nat.mul_le_mul_right _ (of_decide_eq_true (by first|(with_reducible assumption)|assumption):(l0.length:Int).toNat≤35184372088832)) (by omega)) (Below.refl _ _) (Nat.le_refl _) ?_;intro v254 w15 ho16 hb hg_ hnew_;clear hg_ hnew_;(first|rw [← Ny253.out] at ho16|(simp only [Int.reduceToNat] at ho16;rw [← Ny253.out] at ho16));have n0_:=Aside0.mk (Kd.R_lower ho16 (below_size (by repeat (first|(with_reducible first|exact HB.out|apply below_alloc|apply pw_below_drewN|apply below_drew1)|exact HB.out))));have n1_:=Aside0.mk (below_step (by repeat (first|(with_reducible first|exact HB.out|apply below_alloc|apply pw_below_drewN|apply below_drew1)|exact HB.out)) hb);clear HB;have HO255:=n0_;have HB:=n1_;clear n0_ n1_;clear hb ho16;obtain ⟨Ao17,co17,eo17⟩:=Kd.R_slice HO255.out;subst eo17)|(go_at_call 8;(with_reducible refine (place_Slots.calls k _ _ l0 _ _ y253 (wrap64 (a1)) (wrap64 (a3)) (wrap64 (a2)) 0 0 0 a4 2 t256 t259 _ ?side1 ?side2 ?side3 ?side4 A11.out).mono ?_);(case side1=>repeat (first|exact (Kd.C_below HR0.out HB.out)|(with_reducible refine Kd.C_alloc ?_ _)|(with_reducible refine Kd.C_drewN ?_ _)|(with_reducible refine Kd.C_drew ?_)));(case side2=>exact HC0.out);(case side3=>repeat (first|exact (Kd.R_reads' HO255.out).2.2|(with_reducible refine Kd.C_alloc ?_ _)|(with_reducible refine Kd.C_drewN ?_ _)|(with_reducible refine Kd.C_drew ?_)));(case side4=>exact (Kd.R_reads' HO255.out).2.1);rintro e w18 ⟨v257,rfl,ho0,hb⟩;have n0_:=Aside0.mk (Kd.R_below (by (with_reducible repeat (first|apply Kd.R_alloc|apply Kd.R_drewN|apply Kd.R_drew));exact HO255.out) hb);have n1_:=Aside0.mk (Kd.R_lower ho0 (below_size (by repeat (first|(with_reducible first|exact HB.out|apply below_alloc|apply pw_below_drewN|apply below_drew1)|exact HB.out))));have n2_:=Aside0.mk (below_step (by repeat (first|(with_reducible first|exact HB.out|apply below_alloc|apply pw_below_drewN|apply below_drew1)|exact HB.out)) hb);clear HO255;clear HB;have HO255:=n0_;have HO258:=n1_;have HB:=n2_;clear n0_ n1_ n2_;(try clear hb);(try clear hb2);(try clear hk);(try clear hi);(try clear ho0))|(go_at_call 13;(with_reducible refine (cluster_Of.calls _ _ l0 t261 _ ?side1 ?side2 A13.out).mono ?_);(case side1=>repeat (first|exact (Kd.C_below HR0.out HB.out)|(with_reducible refine Kd.C_alloc ?_ _)|(with_reducible refine Kd.C_drewN ?_ _)|(with_reducible refine Kd.C_drew ?_)));(case side2=>exact HC0.out);rintro e w19 ⟨v262,rfl,ho0,hb⟩;have n0_:=Aside0.mk (Kd.R_below (by (with_reducible repeat (first|apply Kd.R_alloc|apply Kd.R_drewN|apply Kd.R_drew));exact HO255.out) hb);have n1_:=Aside0.mk (Kd.R_below (by (with_reducible repeat (first|apply Kd.R_alloc|apply Kd.R_drewN|apply Kd.R_drew));exact HO258.out) hb);have n2_:=Aside0.mk (Kd.R_lower ho0 (below_size (by repeat (first|(with_reducible first|exact HB.out|apply below_alloc|apply pw_below_drewN|apply below_drew1)|exact HB.out))));have n3_:=Aside0.mk (below_step (by repeat (first|(with_reducible first|exact HB.out|apply below_alloc|apply pw_below_drewN|apply below_drew1)|exact HB.out)) hb);clear HO255;clear HO258;clear HB;have HO255:=n0_;have HO258:=n1_;have HO263:=n2_;have HB:=n3_;clear n0_ n1_ n2_ n3_;(try clear hb);(try clear hb2);(try clear hk);(try clear hi);(try clear ho0))))
     (try simp only [Act.put,List.setIfInBounds_toArray,List.set_cons_zero,List.set_cons_succ])
     go_cut [54] (fun v54 wc=> ∃ (kq:Nat) (x54_13:Bool),v54= .bool x54_13∧Aside0 (parquetrylaw19_PlacePlain.j0 kq a1 a2 a4 t256 t261 x54_13=some r)∧Aside0 (kq≤k)∧Aside0 (Kd.R k42 42 wc w.heap.size (fun _=>True) v257 t256)∧Aside0 (Kd.R k40 40 wc w.heap.size (fun _=>True) v262 t261)∧Aside0 (Below w.heap.size w wc))
     case first =>
      have H:=HC14.out
      clear HC14
      by_cases c20:(wrap64 (a3)) > (t261.length:Int)
      ·
       rw [if_pos c20] at H
       have c20b0:decide ((t261.length:Int) < (wrap64 (a3)))=true:=decide_eq_true c20
       clear c20
       (first|rw [c20b0]|(simp only [i64_w,i32_w];rw [c20b0])|skip)
       have H':=Aside0.mk H
       clear H
       obtain ⟨Ao21,co21,eo21⟩:=Kd.R_slice HO263.out
       subst eo21
       go_wp2
       repeat (go_quiet (fail);try go_wp2)
       go_meet
       case rel=>exact ⟨_,(true),(by first|rfl|(simp;done)|(simp [*];done)),H',⟨by first|omega|exact Nat.le_refl _⟩,⟨by (with_reducible repeat (first|apply Kd.R_alloc|apply Kd.R_drewN|apply Kd.R_drew));exact HO258.out⟩,⟨by (with_reducible repeat (first|apply Kd.R_alloc|apply Kd.R_drewN|apply Kd.R_drew));exact HO263.out⟩,⟨by repeat (first|(with_reducible first|exact HB.out|apply below_alloc|apply pw_below_drewN|apply below_drew1)|exact HB.out)⟩⟩
      ·
       rw [if_neg c20] at H
       have c20b0:decide ((t261.length:Int) < (wrap64 (a3)))=false:=decide_eq_false c20
       clear c20
       (first|rw [c20b0]|(simp only [i64_w,i32_w];rw [c20b0])|skip)
       have H':=Aside0.mk H
       clear H
       obtain ⟨Ao22,co22,eo22⟩:=Kd.R_slice HO263.out
       subst eo22
       obtain ⟨Ao23,co23,eo23⟩:=Kd.R_slice HO258.out
       subst eo23
       go_wp2
       repeat (go_quiet (fail);try go_wp2)
       go_meet
       case rel=>exact ⟨_,(((t256.length:Int) !=a4)),(by first|rfl|(simp;done)|(simp [*];done)),H',⟨by first|omega|exact Nat.le_refl _⟩,⟨by (with_reducible repeat (first|apply Kd.R_alloc|apply Kd.R_drewN|apply Kd.R_drew));exact HO258.out⟩,⟨by (with_reducible repeat (first|apply Kd.R_alloc|apply Kd.R_drewN|apply Kd.R_drew));exact HO263.out⟩,⟨by repeat (first|(with_reducible first|exact HB.out|apply below_alloc|apply pw_below_drewN|apply below_drew1)|exact HB.out)⟩⟩
     case rest =>
      clear HC14
      try clear c1
      try clear c2
      try clear p2
      try clear c6
      try clear c6b0
      try clear c6b1
      try clear p6
      try clear c9
      try clear c9b0
      try clear c9b1
      try clear c10
      try clear c10b0
      try clear c10b1
      try clear c12
      try clear c12b0
      try clear c12b1
      try clear c20
      try clear c20b0
      obtain ⟨kq,x54_13,rfl,HA,HJ13,HO_12,HO_14,HB⟩:=hcut
      cases kq with
      | zero=>exact absurd HA.out (by simp [parquetrylaw19_PlacePlain.j0])
      | succ kj13 =>
       have H:=HA.out
       clear HA
       simp only [parquetrylaw19_PlacePlain.j0] at H
       by_cases c24:x54_13=true
       ·
        subst c24
        have H1:(some false)=some r:=by rw [if_pos rfl] at H;exact H
        clear H
        have H:=H1
        clear H1
        obtain rfl:=Option.some.inj H
        go_wp2
        repeat (go_quiet (fail);try go_wp2)
        go_ret
        exact ⟨by first|rfl|(simp [errW_none,errW_some] <;> rfl)|(simp [*,errW_none,errW_some] <;> rfl),by repeat (first|(with_reducible first|exact HB.out|apply below_alloc|apply pw_below_drewN|apply below_drew1)|exact HB.out)⟩
       ·
        replace c24:=Bool.eq_false_iff.mpr c24
        subst c24
        have H1:(parquetrylaw19_PlacePlain.l0 kj13 a2 a4 t256 t261 0 (wrap64 (a1)))=some r:=by rw [if_neg (show ¬ (false=true) by decide)] at H;exact H
        clear H
        have H:=H1
        clear H1
        have H':=Aside0.mk H
        clear H
        go_wp2
        repeat (go_quiet (fail);try go_wp2)
        go_loopg [15,16] kj13 (fun kq v15 v16 w'=> ∃ (x15_2:Int) (x16_2:Int),v15= .int .i64 x15_2∧v16= .int .i64 x16_2∧Aside0 (parquetrylaw19_PlacePlain.l0 kq a2 a4 t256 t261 x15_2 x16_2=some r)∧Aside0 (kq≤kj13)∧Aside0 (Kd.R k42 42 w' w.heap.size (fun _=>True) v257 t256)∧Aside0 (Kd.R k40 40 w' w.heap.size (fun _=>True) v262 t261)∧Aside0 (Below w.heap.size w w'))
        case atStart=>exact ⟨(0),(wrap64 (a1)),(by first|rfl|(simp;done)|(simp [*];done)),(by first|rfl|(simp;done)|(simp [*];done)),H',⟨Nat.le_refl _⟩,⟨by (with_reducible repeat (first|apply Kd.R_alloc|apply Kd.R_drewN|apply Kd.R_drew));exact HO_12.out⟩,⟨by (with_reducible repeat (first|apply Kd.R_alloc|apply Kd.R_drewN|apply Kd.R_drew));exact HO_14.out⟩,⟨by repeat (first|(with_reducible first|exact HB.out|apply below_alloc|apply pw_below_drewN|apply below_drew1)|exact HB.out)⟩⟩
        case round =>
         clear H'
         try clear c24
         obtain ⟨x15_2,x16_2,rfl,rfl,HA,HK2,HO_12,HO_14,HB⟩:=hrel
         cases gk with
         | zero=>exact absurd HA.out (by simp [parquetrylaw19_PlacePlain.l0])
         | succ k2 =>
          have H:=HA.out
          clear HA
          simp only [parquetrylaw19_PlacePlain.l0] at H
          by_cases c25:x16_2 < (wrap64 (a2))
          ·
           rw [if_pos c25] at H
           have c25b0:decide (x16_2 < (wrap64 (a2)))=true:=decide_eq_true c25
           clear c25
           have H':=Aside0.mk H
           clear H
           go_wp2
           repeat (go_quiet (fail);try go_wp2)
           go_loopg [15,17] k2 (fun kq v15 v17 w'=> ∃ (x15_3:Int) (x17_3:Int),v15= .int .i64 x15_3∧v17= .int .i64 x17_3∧Aside0 (parquetrylaw19_PlacePlain.l1 kq a2 a4 t256 t261 x15_3 x16_2 x17_3=some r)∧Aside0 (kq≤k2)∧Aside0 (Kd.R k42 42 w' w.heap.size (fun _=>True) v257 t256)∧Aside0 (Kd.R k40 40 w' w.heap.size (fun _=>True) v262 t261)∧Aside0 (Below w.heap.size w w'))
           case atStart=>exact ⟨(x15_2),(0),(by first|rfl|(simp;done)|(simp [*];done)),(by first|rfl|(simp;done)|(simp [*];done)),H',⟨Nat.le_refl _⟩,⟨by (with_reducible repeat (first|apply Kd.R_alloc|apply Kd.R_drewN|apply Kd.R_drew));exact HO_12.out⟩,⟨by (with_reducible repeat (first|apply Kd.R_alloc|apply Kd.R_drewN|apply Kd.R_drew));exact HO_14.out⟩,⟨by repeat (first|(with_reducible first|exact HB.out|apply below_alloc|apply pw_below_drewN|apply below_drew1)|exact HB.out)⟩⟩
           case round =>
            clear H'
            try clear c25
            try clear c25b0
            obtain ⟨x15_3,x17_3,rfl,rfl,HA,HK3,HO_12,HO_14,HB⟩:=hrel
            cases gk with
            | zero=>exact absurd HA.out (by simp [parquetrylaw19_PlacePlain.l1])
            | succ k3 =>
             have H:=HA.out
             clear HA
             simp only [parquetrylaw19_PlacePlain.l1] at H
             have HC26:=Aside0.mk H
             clear H
             go_upto_region 15 with (fail)
             repeat (go_quiet (fail);go_upto_region 15 with (fail))
             go_cut [74] (fun v74 wc=> ∃ (kq:Nat) (x74_25:Bool),v74= .bool x74_25∧Aside0 (parquetrylaw19_PlacePlain.j3 kq a2 a4 t256 t261 x15_3 x16_2 x17_3 x74_25=some r)∧Aside0 (kq≤k3)∧Aside0 (Kd.R k42 42 wc w.heap.size (fun _=>True) v257 t256)∧Aside0 (Kd.R k40 40 wc w.heap.size (fun _=>True) v262 t261)∧Aside0 (Below w.heap.size w wc))
             case first =>
              have H:=HC26.out
              clear HC26
              by_cases c27:0≤x16_2
              ·
               rw [if_pos c27] at H
               have c27b0:decide (0≤x16_2)=true:=decide_eq_true c27
               clear c27
               (first|rw [c27b0]|(simp only [i64_w,i32_w];rw [c27b0])|skip)
               by_cases c28:x16_2 < (t261.length:Int)
               ·
                rw [if_pos c28] at H
                have c28b0:decide (x16_2 < (t261.length:Int))=true:=decide_eq_true c28
                clear c28
                by_cases c29:x17_3 < ((rd_T40 t261 x16_2).f4)
                ·
                 rw [if_pos c29] at H
                 have c29b0:decide (x17_3 < ((rd_T40 t261 x16_2).f4))=true:=decide_eq_true c29
                 clear c29
                 have H':=Aside0.mk H
                 clear H
                 obtain ⟨Ao30,co30,eo30⟩:=Kd.R_slice HO_14.out
                 subst eo30
                 have p264:0≤(x16_2:Int):=of_decide_eq_true (by first|(with_reducible assumption)|assumption)
                 have q264:x16_2 < (t261.length:Int):=of_decide_eq_true (by first|(with_reducible assumption)|assumption)
                 obtain ⟨ad264,e264,hx264_0,hx264_1,hx264_2,hx264_3,hx264_4,hx264_5⟩:=at_T40 (Kd.R_reads' HO_14.out).2.2 x16_2 p264 q264
                 cases e264
                 replace p264:=eq_true p264
                 replace q264:=eq_true q264
                 go_wp2
                 repeat (go_quiet (fail);try go_wp2)
                 go_meet
                 case rel=>exact ⟨_,(decide (x15_3 < a4)),(by first|rfl|(simp;done)|(simp [*];done)),H',⟨by have:=HJ13.out;have:=HK2.out;have:=HK3.out;first|omega|exact Nat.le_refl _⟩,⟨by (with_reducible repeat (first|apply Kd.R_alloc|apply Kd.R_drewN|apply Kd.R_drew));exact HO_12.out⟩,⟨by (with_reducible repeat (first|apply Kd.R_alloc|apply Kd.R_drewN|apply Kd.R_drew));exact HO_14.out⟩,⟨by repeat (first|(with_reducible first|exact HB.out|apply below_alloc|apply pw_below_drewN|apply below_drew1)|exact HB.out)⟩⟩
                ·
                 rw [if_neg c29] at H
                 have c29b0:decide (x17_3 < ((rd_T40 t261 x16_2).f4))=false:=decide_eq_false c29
                 clear c29
                 have H':=Aside0.mk H
                 clear H
                 obtain ⟨Ao31,co31,eo31⟩:=Kd.R_slice HO_14.out
                 subst eo31
                 have p264:0≤(x16_2:Int):=of_decide_eq_true (by first|(with_reducible assumption)|assumption)
                 have q264:x16_2 < (t261.length:Int):=of_decide_eq_true (by first|(with_reducible assumption)|assumption)
                 obtain ⟨ad264,e264,hx264_0,hx264_1,hx264_2,hx264_3,hx264_4,hx264_5⟩:=at_T40 (Kd.R_reads' HO_14.out).2.2 x16_2 p264 q264
                 cases e264
                 replace p264:=eq_true p264
                 replace q264:=eq_true q264
                 go_wp2
                 repeat (go_quiet (fail);try go_wp2)
                 go_meet
                 case rel=>exact ⟨_,(false),(by first|rfl|(simp;done)|(simp [*];done)),H',⟨by have:=HJ13.out;have:=HK2.out;have:=HK3.out;first|omega|exact Nat.le_refl _⟩,⟨by (with_reducible repeat (first|apply Kd.R_alloc|apply Kd.R_drewN|apply Kd.R_drew));exact HO_12.out⟩,⟨by (with_reducible repeat (first|apply Kd.R_alloc|apply Kd.R_drewN|apply Kd.R_drew));exact HO_14.out⟩,⟨by repeat (first|(with_reducible first|exact HB.out|apply below_alloc|apply pw_below_drewN|apply below_drew1)|exact HB.out)⟩⟩
               ·
                rw [if_neg c28] at H
                exact absurd H (by simp)
              ·
               rw [if_neg c27] at H
               exact absurd H (by simp)
             case rest =>
              clear HC26
              try clear q2
              try clear hx2
              try clear p26
              try clear q26
              try clear hx26
              try clear c27
              try clear c27b0
              try clear c28
              try clear c28b0
              try clear c29
              try clear c29b0
              try clear hx264_0
              try clear hx264_1
              try clear hx264_2
              try clear hx264_3
              try clear hx264_4
              try clear hx264_5
              try clear p264
              try clear q264
              obtain ⟨kq,x74_25,rfl,HA,HJ25,HO_12,HO_14,HB⟩:=hcut
              cases kq with
              | zero=>exact absurd HA.out (by simp [parquetrylaw19_PlacePlain.j3])
              | succ kj25 =>
               have H:=HA.out
               clear HA
               simp only [parquetrylaw19_PlacePlain.j3] at H
               by_cases c32:x74_25=true
               ·
                subst c32
                have H1:(if 0≤x15_3 then (if x15_3 < (t256.length:Int) then (if 0≤x16_2 then (if x16_2 < (t261.length:Int) then (if (!(((rd_T42 t256 x15_3).f0)==4) || (!(((rd_T42 t256 x15_3).f1)==0) || (!(((rd_T42 t256 x15_3).f2)==0) || (!(((rd_T42 t256 x15_3).f3)==((rd_T40 t261 x16_2).f0)) || (!(((rd_T42 t256 x15_3).f4)==x17_3) || (!(((rd_T42 t256 x15_3).f5)==((rd_T40 t261 x16_2).f5))))))))=true then (some false) else (parquetrylaw19_PlacePlain.l1 kj25 a2 a4 t256 t261 (wrap64 (x15_3+1)) x16_2 (wrap64 (x17_3+1)))) else (none)) else (none)) else (none)) else (none))=some r:=by rw [if_pos rfl] at H;exact H
                clear H
                have H:=H1
                clear H1
                by_cases c33:0≤x15_3
                ·
                 rw [if_pos c33] at H
                 have c33b0:decide (0≤x15_3)=true:=decide_eq_true c33
                 clear c33
                 by_cases c34:x15_3 < (t256.length:Int)
                 ·
                  rw [if_pos c34] at H
                  have c34b0:decide (x15_3 < (t256.length:Int))=true:=decide_eq_true c34
                  clear c34
                  by_cases c35:0≤x16_2
                  ·
                   rw [if_pos c35] at H
                   have c35b0:decide (0≤x16_2)=true:=decide_eq_true c35
                   clear c35
                   by_cases c36:x16_2 < (t261.length:Int)
                   ·
                    rw [if_pos c36] at H
                    have c36b0:decide (x16_2 < (t261.length:Int))=true:=decide_eq_true c36
                    clear c36
                    by_cases c37:(!(((rd_T42 t256 x15_3).f0)==4) || (!(((rd_T42 t256 x15_3).f1)==0) || (!(((rd_T42 t256 x15_3).f2)==0) || (!(((rd_T42 t256 x15_3).f3)==((rd_T40 t261 x16_2).f0)) || (!(((rd_T42 t256 x15_3).f4)==x17_3) || (!(((rd_T42 t256 x15_3).f5)==((rd_T40 t261 x16_2).f5))))))))=true
                    ·
                     rw [if_pos c37] at H
                     have c37b0:(!(((rd_T42 t256 x15_3).f0)==4) || (!(((rd_T42 t256 x15_3).f1)==0) || (!(((rd_T42 t256 x15_3).f2)==0) || (!(((rd_T42 t256 x15_3).f3)==((rd_T40 t261 x16_2).f0)) || (!(((rd_T42 t256 x15_3).f4)==x17_3) || (!(((rd_T42 t256 x15_3).f5)==((rd_T40 t261 x16_2).f5))))))))=true:=c37
                     clear c37
                     obtain rfl:=Option.some.inj H
                     obtain ⟨Ao38,co38,eo38⟩:=Kd.R_slice HO_12.out
                     subst eo38
                     have p265:0≤(x15_3:Int):=of_decide_eq_true (by first|(with_reducible assumption)|assumption)
                     have q265:x15_3 < (t256.length:Int):=of_decide_eq_true (by first|(with_reducible assumption)|assumption)
                     obtain ⟨ad265,e265,hx265_0,hx265_1,hx265_2,hx265_3,hx265_4,hx265_5⟩:=at_T42 (Kd.R_reads' HO_12.out).2.2 x15_3 p265 q265
                     cases e265
                     replace p265:=eq_true p265
                     replace q265:=eq_true q265
                     obtain ⟨Ao39,co39,eo39⟩:=Kd.R_slice HO_14.out
                     subst eo39
                     have p266:0≤(x16_2:Int):=of_decide_eq_true (by first|(with_reducible assumption)|assumption)
                     have q266:x16_2 < (t261.length:Int):=of_decide_eq_true (by first|(with_reducible assumption)|assumption)
                     obtain ⟨ad266,e266,hx266_0,hx266_1,hx266_2,hx266_3,hx266_4,hx266_5⟩:=at_T40 (Kd.R_reads' HO_14.out).2.2 x16_2 p266 q266
                     cases e266
                     replace p266:=eq_true p266
                     replace q266:=eq_true q266
                     have p267:0≤(x16_2:Int):=of_decide_eq_true (by first|(with_reducible assumption)|assumption)
                     have q267:x16_2 < (t261.length:Int):=of_decide_eq_true (by first|(with_reducible assumption)|assumption)
                     obtain ⟨ad267,e267,hx267_0,hx267_1,hx267_2,hx267_3,hx267_4,hx267_5⟩:=at_T40 (Kd.R_reads' HO_14.out).2.2 x16_2 p267 q267
                     obtain rfl:ad266=ad267:=(by injection e267)
                     replace p267:=eq_true p267
                     replace q267:=eq_true q267
                     go_wp2
                     repeat (go_quiet (fail);try go_wp2)
                     go_ret
                     exact ⟨by first|rfl|(simp [errW_none,errW_some] <;> rfl)|(simp [*,errW_none,errW_some] <;> rfl),by repeat (first|(with_reducible first|exact HB.out|apply below_alloc|apply pw_below_drewN|apply below_drew1)|exact HB.out)⟩
                    ·
                     rw [if_neg c37] at H
                     have c37b0:(!(((rd_T42 t256 x15_3).f0)==4) || (!(((rd_T42 t256 x15_3).f1)==0) || (!(((rd_T42 t256 x15_3).f2)==0) || (!(((rd_T42 t256 x15_3).f3)==((rd_T40 t261 x16_2).f0)) || (!(((rd_T42 t256 x15_3).f4)==x17_3) || (!(((rd_T42 t256 x15_3).f5)==((rd_T40 t261 x16_2).f5))))))))=false:=by simpa using c37
                     clear c37
                     have H':=Aside0.mk H
                     clear H
                     obtain ⟨Ao40,co40,eo40⟩:=Kd.R_slice HO_12.out
                     subst eo40
                     have p265:0≤(x15_3:Int):=of_decide_eq_true (by first|(with_reducible assumption)|assumption)
                     have q265:x15_3 < (t256.length:Int):=of_decide_eq_true (by first|(with_reducible assumption)|assumption)
                     obtain ⟨ad265,e265,hx265_0,hx265_1,hx265_2,hx265_3,hx265_4,hx265_5⟩:=at_T42 (Kd.R_reads' HO_12.out).2.2 x15_3 p265 q265
                     cases e265
                     replace p265:=eq_true p265
                     replace q265:=eq_true q265
                     obtain ⟨Ao41,co41,eo41⟩:=Kd.R_slice HO_14.out
                     subst eo41
                     have p266:0≤(x16_2:Int):=of_decide_eq_true (by first|(with_reducible assumption)|assumption)
                     have q266:x16_2 < (t261.length:Int):=of_decide_eq_true (by first|(with_reducible assumption)|assumption)
                     obtain ⟨ad266,e266,hx266_0,hx266_1,hx266_2,hx266_3,hx266_4,hx266_5⟩:=at_T40 (Kd.R_reads' HO_14.out).2.2 x16_2 p266 q266
                     cases e266
                     replace p266:=eq_true p266
                     replace q266:=eq_true q266
                     have p267:0≤(x16_2:Int):=of_decide_eq_true (by first|(with_reducible assumption)|assumption)
                     have q267:x16_2 < (t261.length:Int):=of_decide_eq_true (by first|(with_reducible assumption)|assumption)
                     obtain ⟨ad267,e267,hx267_0,hx267_1,hx267_2,hx267_3,hx267_4,hx267_5⟩:=at_T40 (Kd.R_reads' HO_14.out).2.2 x16_2 p267 q267
                     obtain rfl:ad266=ad267:=(by injection e267)
                     replace p267:=eq_true p267
                     replace q267:=eq_true q267
                     go_wp2
                     repeat (go_quiet (fail);try go_wp2)
                     go_roundg kj25
                     case measure=>have:=HJ13.out;have:=HK2.out;have:=HK3.out;have:=HJ25.out;omega
                     case rel=>exact ⟨(wrap64 (x15_3+1)),(wrap64 (x17_3+1)),(by first|rfl|(simp;done)|(simp [*];done)),(by first|rfl|(simp;done)|(simp [*];done)),H',⟨by have:=HJ13.out;have:=HK2.out;have:=HK3.out;have:=HJ25.out;omega⟩,⟨by (with_reducible repeat (first|apply Kd.R_alloc|apply Kd.R_drewN|apply Kd.R_drew));exact HO_12.out⟩,⟨by (with_reducible repeat (first|apply Kd.R_alloc|apply Kd.R_drewN|apply Kd.R_drew));exact HO_14.out⟩,⟨by repeat (first|(with_reducible first|exact HB.out|apply below_alloc|apply pw_below_drewN|apply below_drew1)|exact HB.out)⟩⟩
                   ·
                    rw [if_neg c36] at H
                    exact absurd H (by simp)
                  ·
                   rw [if_neg c35] at H
                   exact absurd H (by simp)
                 ·
                  rw [if_neg c34] at H
                  exact absurd H (by simp)
                ·
                 rw [if_neg c33] at H
                 exact absurd H (by simp)
               ·
                replace c32:=Bool.eq_false_iff.mpr c32
                subst c32
                have H1:(parquetrylaw19_PlacePlain.l0 kj25 a2 a4 t256 t261 x15_3 (wrap64 (x16_2+1)))=some r:=by rw [if_neg (show ¬ (false=true) by decide)] at H;exact H
                clear H
                have H:=H1
                clear H1
                have H':=Aside0.mk H
                clear H
                go_wp2
                repeat (go_quiet (fail);try go_wp2)
                go_roundg kj25
                case measure=>have:=HJ13.out;have:=HK2.out;have:=HK3.out;have:=HJ25.out;omega
                case rel=>exact ⟨(x15_3),(wrap64 (x16_2+1)),(by first|rfl|(simp;done)|(simp [*];done)),(by first|rfl|(simp;done)|(simp [*];done)),H',⟨by have:=HJ13.out;have:=HK2.out;have:=HK3.out;have:=HJ25.out;omega⟩,⟨by (with_reducible repeat (first|apply Kd.R_alloc|apply Kd.R_drewN|apply Kd.R_drew));exact HO_12.out⟩,⟨by (with_reducible repeat (first|apply Kd.R_alloc|apply Kd.R_drewN|apply Kd.R_drew));exact HO_14.out⟩,⟨by repeat (first|(with_reducible first|exact HB.out|apply below_alloc|apply pw_below_drewN|apply below_drew1)|exact HB.out)⟩⟩
          ·
           rw [if_neg c25] at H
           have c25b0:decide (x16_2 < (wrap64 (a2)))=false:=decide_eq_false c25
           clear c25
           have H':=Aside0.mk H
           clear H
           go_wp2
           repeat (go_quiet (fail);try go_wp2)
           go_loopg [15] k2 (fun kq v15 w'=> ∃ (x15_3:Int),v15= .int .i64 x15_3∧Aside0 (parquetrylaw19_PlacePlain.l2 kq a4 t256 x15_3=some r)∧Aside0 (kq≤k2)∧Aside0 (Kd.R k42 42 w' w.heap.size (fun _=>True) v257 t256)∧Aside0 (Below w.heap.size w w'))
           case atStart=>exact ⟨(x15_2),(by first|rfl|(simp;done)|(simp [*];done)),H',⟨Nat.le_refl _⟩,⟨by (with_reducible repeat (first|apply Kd.R_alloc|apply Kd.R_drewN|apply Kd.R_drew));exact HO_12.out⟩,⟨by repeat (first|(with_reducible first|exact HB.out|apply below_alloc|apply pw_below_drewN|apply below_drew1)|exact HB.out)⟩⟩
           case round =>
            clear H'
            try clear q2
            try clear hx2
            try clear c3
            try clear c25
            try clear c25b0
            try clear p26
            try clear q26
            try clear hx26
            try clear c27
            try clear c27b0
            try clear c28
            try clear c28b0
            try clear c29
            try clear c29b0
            try clear c32
            try clear c33
            try clear c33b0
            try clear c34
            try clear c34b0
            try clear c35
            try clear c35b0
            try clear c36
            try clear c36b0
            try clear c37
            try clear c37b0
            try clear hx264_0
            try clear hx264_1
            try clear hx264_2
            try clear hx264_3
            try clear hx264_4
            try clear hx264_5
            try clear hx265_0
            try clear hx265_1
            try clear hx265_2
            try clear hx265_3
            try clear hx265_4
            try clear hx265_5
            try clear hx266_0
            try clear hx266_1
            try clear hx266_2
            try clear hx266_3
            try clear hx266_4
            try clear hx266_5
            try clear hx267_0
            try clear hx267_1
            try clear hx267_2
            try clear hx267_3
            try clear hx267_4
            try clear hx267_5
            try clear p264
            try clear p265
            try clear p266
            try clear p267
            try clear q264
            try clear q265
            try clear q266
            try clear q267
            obtain ⟨x15_3,rfl,HA,HK3,HO_12,HB⟩:=hrel
            cases gk with
            | zero=>exact absurd HA.out (by simp [parquetrylaw19_PlacePlain.l2])
            | succ k3 =>
             have H:=HA.out
             clear HA
             simp only [parquetrylaw19_PlacePlain.l2] at H
             by_cases c42:x15_3 < a4
             ·
              rw [if_pos c42] at H
              have c42b0:decide (x15_3 < a4)=true:=decide_eq_true c42
              clear c42
              by_cases c43:0≤x15_3
              ·
               rw [if_pos c43] at H
               have c43b0:decide (0≤x15_3)=true:=decide_eq_true c43
               clear c43
               by_cases c44:x15_3 < (t256.length:Int)
               ·
                rw [if_pos c44] at H
                have c44b0:decide (x15_3 < (t256.length:Int))=true:=decide_eq_true c44
                clear c44
                by_cases c45:(!(((rd_T42 t256 x15_3).f0)==2) || (!(((rd_T42 t256 x15_3).f1)==0) || (!(((rd_T42 t256 x15_3).f2)==0) || (!(((rd_T42 t256 x15_3).f3)==0) || (!(((rd_T42 t256 x15_3).f4)==0) || (!(((rd_T42 t256 x15_3).f5)==0)))))))=true
                ·
                 rw [if_pos c45] at H
                 have c45b0:(!(((rd_T42 t256 x15_3).f0)==2) || (!(((rd_T42 t256 x15_3).f1)==0) || (!(((rd_T42 t256 x15_3).f2)==0) || (!(((rd_T42 t256 x15_3).f3)==0) || (!(((rd_T42 t256 x15_3).f4)==0) || (!(((rd_T42 t256 x15_3).f5)==0)))))))=true:=c45
                 clear c45
                 obtain rfl:=Option.some.inj H
                 obtain ⟨Ao46,co46,eo46⟩:=Kd.R_slice HO_12.out
                 subst eo46
                 have p268:0≤(x15_3:Int):=of_decide_eq_true (by first|(with_reducible assumption)|assumption)
                 have q268:x15_3 < (t256.length:Int):=of_decide_eq_true (by first|(with_reducible assumption)|assumption)
                 obtain ⟨ad268,e268,hx268_0,hx268_1,hx268_2,hx268_3,hx268_4,hx268_5⟩:=at_T42 (Kd.R_reads' HO_12.out).2.2 x15_3 p268 q268
                 cases e268
                 replace p268:=eq_true p268
                 replace q268:=eq_true q268
                 go_wp2
                 repeat (go_quiet (fail);try go_wp2)
                 go_ret
                 exact ⟨by first|rfl|(simp [errW_none,errW_some] <;> rfl)|(simp [*,errW_none,errW_some] <;> rfl),by repeat (first|(with_reducible first|exact HB.out|apply below_alloc|apply pw_below_drewN|apply below_drew1)|exact HB.out)⟩
                ·
                 rw [if_neg c45] at H
                 have c45b0:(!(((rd_T42 t256 x15_3).f0)==2) || (!(((rd_T42 t256 x15_3).f1)==0) || (!(((rd_T42 t256 x15_3).f2)==0) || (!(((rd_T42 t256 x15_3).f3)==0) || (!(((rd_T42 t256 x15_3).f4)==0) || (!(((rd_T42 t256 x15_3).f5)==0)))))))=false:=by simpa using c45
                 clear c45
                 have H':=Aside0.mk H
                 clear H
                 obtain ⟨Ao47,co47,eo47⟩:=Kd.R_slice HO_12.out
                 subst eo47
                 have p268:0≤(x15_3:Int):=of_decide_eq_true (by first|(with_reducible assumption)|assumption)
                 have q268:x15_3 < (t256.length:Int):=of_decide_eq_true (by first|(with_reducible assumption)|assumption)
                 obtain ⟨ad268,e268,hx268_0,hx268_1,hx268_2,hx268_3,hx268_4,hx268_5⟩:=at_T42 (Kd.R_reads' HO_12.out).2.2 x15_3 p268 q268
                 cases e268
                 replace p268:=eq_true p268
                 replace q268:=eq_true q268
                 go_wp2
                 repeat (go_quiet (fail);try go_wp2)
                 go_roundg k3
                 case measure=>have:=HJ13.out;have:=HK2.out;have:=HK3.out;omega
                 case rel=>exact ⟨(wrap64 (x15_3+1)),(by first|rfl|(simp;done)|(simp [*];done)),H',⟨by have:=HJ13.out;have:=HK2.out;have:=HK3.out;omega⟩,⟨by (with_reducible repeat (first|apply Kd.R_alloc|apply Kd.R_drewN|apply Kd.R_drew));exact HO_12.out⟩,⟨by repeat (first|(with_reducible first|exact HB.out|apply below_alloc|apply pw_below_drewN|apply below_drew1)|exact HB.out)⟩⟩
               ·
                rw [if_neg c44] at H
                exact absurd H (by simp)
              ·
               rw [if_neg c43] at H
               exact absurd H (by simp)
             ·
              rw [if_neg c42] at H
              have c42b0:decide (x15_3 < a4)=false:=decide_eq_false c42
              clear c42
              replace H:=Option.bind_eq_some_iff.mp H
              obtain ⟨t269,A480,H⟩:=H
              replace H:(some t269)=some r:=H
              have A48:=Aside0.mk A480
              clear A480
              obtain rfl:=Option.some.inj H
              go_wp2_with (first|(go_at_call 7;(with_reducible refine (parquetrylaw19_awake.calls k3 t269 _ A48.out).mono ?_);rintro e w49 ⟨rfl,hb⟩;have n0_:=Aside0.mk (Kd.R_below (by (with_reducible repeat (first|apply Kd.R_alloc|apply Kd.R_drewN|apply Kd.R_drew));exact HO_12.out) hb);have n1_:=Aside0.mk (below_step (by repeat (first|(with_reducible first|exact HB.out|apply below_alloc|apply pw_below_drewN|apply below_drew1)|exact HB.out)) hb);clear HO_12;clear HB;have HO_12:=n0_;have HB:=n1_;clear n0_ n1_;(try clear hb);(try clear hb2);(try clear hk);(try clear hi)))
              repeat (go_quiet (first|(go_at_call 7;(with_reducible refine (parquetrylaw19_awake.calls k3 t269 _ A48.out).mono ?_);rintro e w49 ⟨rfl,hb⟩;have n0_:=Aside0.mk (Kd.R_below (by (with_reducible repeat (first|apply Kd.R_alloc|apply Kd.R_drewN|apply Kd.R_drew));exact HO_12.out) hb);have n1_:=Aside0.mk (below_step (by repeat (first|(with_reducible first|exact HB.out|apply below_alloc|apply pw_below_drewN|apply below_drew1)|exact HB.out)) hb);clear HO_12;clear HB;have HO_12:=n0_;have HB:=n1_;clear n0_ n1_;(try clear hb);(try clear hb2);(try clear hk);(try clear hi)));try go_wp2_with (first|(go_at_call 7;(with_reducible refine (parquetrylaw19_awake.calls k3 t269 _ A48.out).mono ?_);rintro e w49 ⟨rfl,hb⟩;have n0_:=Aside0.mk (Kd.R_below (by (with_reducible repeat (first|apply Kd.R_alloc|apply Kd.R_drewN|apply Kd.R_drew));exact HO_12.out) hb);have n1_:=Aside0.mk (below_step (by repeat (first|(with_reducible first|exact HB.out|apply below_alloc|apply pw_below_drewN|apply below_drew1)|exact HB.out)) hb);clear HO_12;clear HB;have HO_12:=n0_;have HB:=n1_;clear n0_ n1_;(try clear hb);(try clear hb2);(try clear hk);(try clear hi))))
              go_ret
              exact ⟨by first|rfl|(simp [errW_none,errW_some] <;> rfl)|(simp [*,errW_none,errW_some] <;> rfl),by repeat (first|(with_reducible first|exact HB.out|apply below_alloc|apply pw_below_drewN|apply below_drew1)|exact HB.out)⟩
    ·
     rw [if_neg c12] at H
     have c12b0:(t259==0)=false:=beq_eq_false_iff_ne.mpr c12
     have c12b1:(t259 !=0)=true:=bne_iff_ne.mpr c12
     replace H:=Option.bind_eq_some_iff.mp H
     obtain ⟨t260,A500,H⟩:=H
     replace H:(some t260)=some r:=H
     have A50:=Aside0.mk A500
     clear A500
     obtain rfl:=Option.some.inj H
     go_enter Try.func6,Try.ntmps6
     try dsimp only [List.append]
     go_wp2_with (first|((with_reducible refine gate_dst (N:=24) rfl ?_);(try (refine gate_guard (by rfl) ?_;dsimp only));refine Kd.R_make (Kd.int .i64) _ 3 rfl (N:=24) rfl 23 _ _ rfl (l0.length:Int) rfl rfl Try.underlying23 (.int .i64 0) 8 info3 rfl (by decide) (by omega) 0 (ok:=fun _=>True) (okp:=fun _=>True) rfl (fun _ hk=>hk) trivial (of_decide_eq_true (by first|(with_reducible assumption)|assumption)) (Nat.le_trans (Nat.mul_le_mul_right _ (of_decide_eq_true (by first|(with_reducible assumption)|assumption):(l0.length:Int).toNat≤35184372088832)) (by omega)) (Below.refl _ _) (Nat.le_refl _) ?_;intro v254 w51 ho52 hb hg_ hnew_;clear hg_ hnew_;(first|rw [← Ny253.out] at ho52|(simp only [Int.reduceToNat] at ho52;rw [← Ny253.out] at ho52));have n0_:=Aside0.mk (Kd.R_lower ho52 (below_size (by repeat (first|(with_reducible first|exact HB.out|apply below_alloc|apply pw_below_drewN|apply below_drew1)|exact HB.out))));have n1_:=Aside0.mk (below_step (by repeat (first|(with_reducible first|exact HB.out|apply below_alloc|apply pw_below_drewN|apply below_drew1)|exact HB.out)) hb);clear HB;have HO255:=n0_;have HB:=n1_;clear n0_ n1_;clear hb ho52;obtain ⟨Ao53,co53,eo53⟩:=Kd.R_slice HO255.out;subst eo53)|(go_at_call 8;(with_reducible refine (place_Slots.calls k _ _ l0 _ _ y253 (wrap64 (a1)) (wrap64 (a3)) (wrap64 (a2)) 0 0 0 a4 2 t256 t259 _ ?side1 ?side2 ?side3 ?side4 A11.out).mono ?_);(case side1=>repeat (first|exact (Kd.C_below HR0.out HB.out)|(with_reducible refine Kd.C_alloc ?_ _)|(with_reducible refine Kd.C_drewN ?_ _)|(with_reducible refine Kd.C_drew ?_)));(case side2=>exact HC0.out);(case side3=>repeat (first|exact (Kd.R_reads' HO255.out).2.2|(with_reducible refine Kd.C_alloc ?_ _)|(with_reducible refine Kd.C_drewN ?_ _)|(with_reducible refine Kd.C_drew ?_)));(case side4=>exact (Kd.R_reads' HO255.out).2.1);rintro e w54 ⟨v257,rfl,ho0,hb⟩;have n0_:=Aside0.mk (Kd.R_below (by (with_reducible repeat (first|apply Kd.R_alloc|apply Kd.R_drewN|apply Kd.R_drew));exact HO255.out) hb);have n1_:=Aside0.mk (Kd.R_lower ho0 (below_size (by repeat (first|(with_reducible first|exact HB.out|apply below_alloc|apply pw_below_drewN|apply below_drew1)|exact HB.out))));have n2_:=Aside0.mk (below_step (by repeat (first|(with_reducible first|exact HB.out|apply below_alloc|apply pw_below_drewN|apply below_drew1)|exact HB.out)) hb);clear HO255;clear HB;have HO255:=n0_;have HO258:=n1_;have HB:=n2_;clear n0_ n1_ n2_;(try clear hb);(try clear hb2);(try clear hk);(try clear hi);(try clear ho0))|(go_at_call 7;(with_reducible refine (parquetrylaw19_awake.calls k t260 _ A50.out).mono ?_);rintro e w55 ⟨rfl,hb⟩;have n0_:=Aside0.mk (Kd.R_below (by (with_reducible repeat (first|apply Kd.R_alloc|apply Kd.R_drewN|apply Kd.R_drew));exact HO255.out) hb);have n1_:=Aside0.mk (Kd.R_below (by (with_reducible repeat (first|apply Kd.R_alloc|apply Kd.R_drewN|apply Kd.R_drew));exact HO258.out) hb);have n2_:=Aside0.mk (below_step (by repeat (first|(with_reducible first|exact HB.out|apply below_alloc|apply pw_below_drewN|apply below_drew1)|exact HB.out)) hb);clear HO255;clear HO258;clear HB;have HO255:=n0_;have HO258:=n1_;have HB:=n2_;clear n0_ n1_ n2_;(try clear hb);(try clear hb2);(try clear hk);(try clear hi)))
     repeat (go_quiet (first|((with_reducible refine gate_dst (N:=24) rfl ?_);(try (refine gate_guard (by rfl) ?_;dsimp only));refine Kd.R_make (Kd.int .i64) _ 3 rfl (N:=24) rfl 23 _ _ rfl (l0.length:Int) rfl rfl Try.underlying23 (.int .i64 0) 8 info3 rfl (by decide) (by omega) 0 (ok:=fun _=>True) (okp:=fun _=>True) rfl (fun _ hk=>hk) trivial (of_decide_eq_true (by first|(with_reducible assumption)|assumption)) (Nat.le_trans (Nat.mul_le_mul_right _ (of_decide_eq_true (by first|(with_reducible assumption)|assumption):(l0.length:Int).toNat≤35184372088832)) (by omega)) (Below.refl _ _) (Nat.le_refl _) ?_;intro v254 w51 ho52 hb hg_ hnew_;clear hg_ hnew_;(first|rw [← Ny253.out] at ho52|(simp only [Int.reduceToNat] at ho52;rw [← Ny253.out] at ho52));have n0_:=Aside0.mk (Kd.R_lower ho52 (below_size (by repeat (first|(with_reducible first|exact HB.out|apply below_alloc|apply pw_below_drewN|apply below_drew1)|exact HB.out))));have n1_:=Aside0.mk (below_step (by repeat (first|(with_reducible first|exact HB.out|apply below_alloc|apply pw_below_drewN|apply below_drew1)|exact HB.out)) hb);clear HB;have HO255:=n0_;have HB:=n1_;clear n0_ n1_;clear hb ho52;obtain ⟨Ao53,co53,eo53⟩:=Kd.R_slice HO255.out;subst eo53)|(go_at_call 8;(with_reducible refine (place_Slots.calls k _ _ l0 _ _ y253 (wrap64 (a1)) (wrap64 (a3)) (wrap64 (a2)) 0 0 0 a4 2 t256 t259 _ ?side1 ?side2 ?side3 ?side4 A11.out).mono ?_);(case side1=>repeat (first|exact (Kd.C_below HR0.out HB.out)|(with_reducible refine Kd.C_alloc ?_ _)|(with_reducible refine Kd.C_drewN ?_ _)|(with_reducible refine Kd.C_drew ?_)));(case side2=>exact HC0.out);(case side3=>repeat (first|exact (Kd.R_reads' HO255.out).2.2|(with_reducible refine Kd.C_alloc ?_ _)|(with_reducible refine Kd.C_drewN ?_ _)|(with_reducible refine Kd.C_drew ?_)));(case side4=>exact (Kd.R_reads' HO255.out).2.1);rintro e w54 ⟨v257,rfl,ho0,hb⟩;have n0_:=Aside0.mk (Kd.R_below (by (with_reducible repeat (first|apply Kd.R_alloc|apply Kd.R_drewN|apply Kd.R_drew));exact HO255.out) hb);have n1_:=Aside0.mk (Kd.R_lower ho0 (below_size (by repeat (first|(with_reducible first|exact HB.out|apply below_alloc|apply pw_below_drewN|apply below_drew1)|exact HB.out))));have n2_:=Aside0.mk (below_step (by repeat (first|(with_reducible first|exact HB.out|apply below_alloc|apply pw_below_drewN|apply below_drew1)|exact HB.out)) hb);clear HO255;clear HB;have HO255:=n0_;have HO258:=n1_;have HB:=n2_;clear n0_ n1_ n2_;(try clear hb);(try clear hb2);(try clear hk);(try clear hi);(try clear ho0))|(go_at_call 7;(with_reducible refine (parquetrylaw19_awake.calls k t260 _ A50.out).mono ?_);rintro e w55 ⟨rfl,hb⟩;have n0_:=Aside0.mk (Kd.R_below (by (with_reducible repeat (first|apply Kd.R_alloc|apply Kd.R_drewN|apply Kd.R_drew));exact HO255.out) hb);have n1_:=Aside0.mk (Kd.R_below (by (with_reducible repeat (first|apply Kd.R_alloc|apply Kd.R_drewN|apply Kd.R_drew));exact HO258.out) hb);have n2_:=Aside0.mk (below_step (by repeat (first|(with_reducible first|exact HB.out|apply below_alloc|apply pw_below_drewN|apply below_drew1)|exact HB.out)) hb);clear HO255;clear HO258;clear HB;have HO255:=n0_;have HO258:=n1_;have HB:=n2_;clear n0_ n1_ n2_;(try clear hb);(try clear hb2);(try clear hk);(try clear hi)));try go_wp2_with (first|((with_reducible refine gate_dst (N:=24) rfl ?_);(try (refine gate_guard (by rfl) ?_;dsimp only));refine Kd.R_make (Kd.int .i64) _ 3 rfl (N:=24) rfl 23 _ _ rfl (l0.length:Int) rfl rfl Try.underlying23 (.int .i64 0) 8 info3 rfl (by decide) (by omega) 0 (ok:=fun _=>True) (okp:=fun _=>True) rfl (fun _ hk=>hk) trivial (of_decide_eq_true (by first|(with_reducible assumption)|assumption)) (Nat.le_trans (Nat.mul_le_mul_right _ (of_decide_eq_true (by first|(with_reducible assumption)|assumption):(l0.length:Int).toNat≤35184372088832)) (by omega)) (Below.refl _ _) (Nat.le_refl _) ?_;intro v254 w51 ho52 hb hg_ hnew_;clear hg_ hnew_;(first|rw [← Ny253.out] at ho52|(simp only [Int.reduceToNat] at ho52;rw [← Ny253.out] at ho52));have n0_:=Aside0.mk (Kd.R_lower ho52 (below_size (by repeat (first|(with_reducible first|exact HB.out|apply below_alloc|apply pw_below_drewN|apply below_drew1)|exact HB.out))));have n1_:=Aside0.mk (below_step (by repeat (first|(with_reducible first|exact HB.out|apply below_alloc|apply pw_below_drewN|apply below_drew1)|exact HB.out)) hb);clear HB;have HO255:=n0_;have HB:=n1_;clear n0_ n1_;clear hb ho52;obtain ⟨Ao53,co53,eo53⟩:=Kd.R_slice HO255.out;subst eo53)|(go_at_call 8;(with_reducible refine (place_Slots.calls k _ _ l0 _ _ y253 (wrap64 (a1)) (wrap64 (a3)) (wrap64 (a2)) 0 0 0 a4 2 t256 t259 _ ?side1 ?side2 ?side3 ?side4 A11.out).mono ?_);(case side1=>repeat (first|exact (Kd.C_below HR0.out HB.out)|(with_reducible refine Kd.C_alloc ?_ _)|(with_reducible refine Kd.C_drewN ?_ _)|(with_reducible refine Kd.C_drew ?_)));(case side2=>exact HC0.out);(case side3=>repeat (first|exact (Kd.R_reads' HO255.out).2.2|(with_reducible refine Kd.C_alloc ?_ _)|(with_reducible refine Kd.C_drewN ?_ _)|(with_reducible refine Kd.C_drew ?_)));(case side4=>exact (Kd.R_reads' HO255.out).2.1);rintro e w54 ⟨v257,rfl,ho0,hb⟩;have n0_:=Aside0.mk (Kd.R_below (by (with_reducible repeat (first|apply Kd.R_alloc|apply Kd.R_drewN|apply Kd.R_drew));exact HO255.out) hb);have n1_:=Aside0.mk (Kd.R_lower ho0 (below_size (by repeat (first|(with_reducible first|exact HB.out|apply below_alloc|apply pw_below_drewN|apply below_drew1)|exact HB.out))));have n2_:=Aside0.mk (below_step (by repeat (first|(with_reducible first|exact HB.out|apply below_alloc|apply pw_below_drewN|apply below_drew1)|exact HB.out)) hb);clear HO255;clear HB;have HO255:=n0_;have HO258:=n1_;have HB:=n2_;clear n0_ n1_ n2_;(try clear hb);(try clear hb2);(try clear hk);(try clear hi);(try clear ho0))|(go_at_call 7;(with_reducible refine (parquetrylaw19_awake.calls k t260 _ A50.out).mono ?_);rintro e w55 ⟨rfl,hb⟩;have n0_:=Aside0.mk (Kd.R_below (by (with_reducible repeat (first|apply Kd.R_alloc|apply Kd.R_drewN|apply Kd.R_drew));exact HO255.out) hb);have n1_:=Aside0.mk (Kd.R_below (by (with_reducible repeat (first|apply Kd.R_alloc|apply Kd.R_drewN|apply Kd.R_drew));exact HO258.out) hb);have n2_:=Aside0.mk (below_step (by repeat (first|(with_reducible first|exact HB.out|apply below_alloc|apply pw_below_drewN|apply below_drew1)|exact HB.out)) hb);clear HO255;clear HO258;clear HB;have HO255:=n0_;have HO258:=n1_;have HB:=n2_;clear n0_ n1_ n2_;(try clear hb);(try clear hb2);(try clear hk);(try clear hi))))
     go_ret
     exact ⟨by first|rfl|(simp [errW_none,errW_some] <;> rfl)|(simp [*,errW_none,errW_some] <;> rfl),by repeat (first|(with_reducible first|exact HB.out|apply below_alloc|apply pw_below_drewN|apply below_drew1)|exact HB.out)⟩
   ·
    rw [if_neg c10] at H
    exact absurd H (by simp)
  ·
   rw [if_neg c9] at H
   exact absurd H (by simp)
def parquetrylaw19_PlacePlain.Pure:Prop:= ∀ (l0:List (S36)) (a1:Int) (a2:Int) (a3:Int) (a4:Int),l0.length≤maxLen→l0.length * 24≤140737488351232→(∀ x ∈ l0,(Lit.int .i64 x.f0).wf=true∧(Lit.int .i64 x.f1).wf=true∧(Lit.int .i64 x.f2).wf=true)→(Lit.int .u8 a1).wf=true→(Lit.int .u8 a2).wf=true→(Lit.int .u8 a3).wf=true→(Lit.int .i64 a4).wf=true→ ∃ k,parquetrylaw19_PlacePlain.f k l0 a1 a2 a3 a4=some true
theorem parquetrylaw19_PlacePlain.walk (P:parquetrylaw19_PlacePlain.Pure) (a0:Option Addr) (cap0:Nat) (l0:List (S36)) (a1:Int) (a2:Int) (a3:Int) (a4:Int) (w:World) (hr0:Kd.C k36 w a0 l0.length l0) (hc0:l0.length≤cap0) (hm0:l0.length≤maxLen) (y0:l0.length * 24≤140737488351232) (hw0: ∀ x ∈ l0,(Lit.int .i64 x.f0).wf=true∧(Lit.int .i64 x.f1).wf=true∧(Lit.int .i64 x.f2).wf=true) (w1:(Lit.int .u8 a1).wf=true) (w2:(Lit.int .u8 a2).wf=true) (w3:(Lit.int .u8 a3).wf=true) (w4:(Lit.int .i64 a4).wf=true) :
  Calls Try.prog 6 #[.slice a0 l0.length cap0,.int .u8 a1,.int .u8 a2,.int .u8 a3,.int .i64 a4] w fun e w'=>e= .returned (.bool true)∧Below w.heap.size w w':=by
 obtain ⟨k,h⟩:=P l0 a1 a2 a3 a4 hm0 y0 hw0 w1 w2 w3 w4
 refine (parquetrylaw19_PlacePlain.calls k _ _ l0 a1 a2 a3 a4 true w hr0 hc0 h).mono ?_
 rintro e w' ⟨rfl,hd⟩
 exact ⟨rfl,hd⟩
end Go.Proofs.Yteoaegigjlhamaa.PC19
