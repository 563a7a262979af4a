/- For the laws of the group C19: the Lean functions that the Go functions compute, and proofs that they do. Written by wip/hprint.py of this repo over the kit's printer; nothing here is trusted: Lean checks it. -/
import Derived.Test.YteoaegigjlhamaaPC19x0
import Derived.Test.YteoaegigjlhamaaPC19x2
import Derived.Test.YteoaegigjlhamaaPC19x15
import Derived.Test.YteoaegigjlhamaaPC19x17
import Derived.Test.YteoaegigjlhamaaPC19x19
namespace Go.Proofs.Yteoaegigjlhamaa.PC19
open Go.RowKit Go.Proofs.YteoaegigjlhamaaW.PrintWords Go.Proofs.YteoaegigjlhamaaW.PrintLast Go.Proofs.YteoaegigjlhamaaW.PrintMore
attribute [local go_sem] max2_int min2_int max_two min_two max_three min_three max_four min_four
set_option linter.unusedVariables false
set_option linter.unusedSimpArgs false
attribute [local go_sem high] eqA42
/-! ### parquetrylaw19_PlaceAligns:function 5 -/
mutual
def parquetrylaw19_PlaceAligns.j0:Nat→Int→List (S42)→Int→List (S42)→List (S42)→Bool→Option (Bool)
 | 0,_,_,_,_,_,_=>none
 | k+1,x4,x11,x12,x13,x15,x63=>if x63=true then (some false) else (if x12=0 then ((parquetrylaw19_bare.f k x11).bind fun bt297=>((parquetrylaw19_bare.f k x13).bind fun bt301=>((parquetrylaw19_bare.f k x15).bind fun bt305=>(if (bt301.1.length:Int)=(bt297.1.length:Int) then (if (bt305.1.length:Int)=(bt297.1.length:Int) then (if (x11.length:Int)=x4 then (if (x13.length:Int)=x4 then (parquetrylaw19_PlaceAligns.j1 k x4 bt297.1 bt297.2 bt301.1 bt301.2 bt305.1 bt305.2 (bt297.1.length:Int) ((x15.length:Int) !=x4)) else (parquetrylaw19_PlaceAligns.j1 k x4 bt297.1 bt297.2 bt301.1 bt301.2 bt305.1 bt305.2 (bt297.1.length:Int) true)) else (parquetrylaw19_PlaceAligns.j1 k x4 bt297.1 bt297.2 bt301.1 bt301.2 bt305.1 bt305.2 (bt297.1.length:Int) true)) else (parquetrylaw19_PlaceAligns.j1 k x4 bt297.1 bt297.2 bt301.1 bt301.2 bt305.1 bt305.2 (bt297.1.length:Int) true)) else (parquetrylaw19_PlaceAligns.j1 k x4 bt297.1 bt297.2 bt301.1 bt301.2 bt305.1 bt305.2 (bt297.1.length:Int) true))))) else ((parquetrylaw19_awake.f k).bind fun t296=>(some t296)))
def parquetrylaw19_PlaceAligns.j1:Nat→Int→List (S42)→Int→List (S42)→Int→List (S42)→Int→Int→Bool→Option (Bool)
 | 0,_,_,_,_,_,_,_,_,_=>none
 | k+1,x4,x17,x18,x19,x20,x21,x22,x23,x111=>if x111=true then (some false) else (parquetrylaw19_PlaceAligns.l0 k x4 x17 x18 x19 x20 x21 x22 x23 0)
def parquetrylaw19_PlaceAligns.l0:Nat→Int→List (S42)→Int→List (S42)→Int→List (S42)→Int→Int→Int→Option (Bool)
 | 0,_,_,_,_,_,_,_,_,_=>none
 | k+1,x4,x17,x18,x19,x20,x21,x22,x23,x24=>if x24 < x23 then (if 0≤x24 then (if x24 < (x17.length:Int) then (if x24 < (x19.length:Int) then (if (!(((rd_T42 x17 x24).f0)==((rd_T42 x19 x24).f0)) || (!(((rd_T42 x17 x24).f1)==((rd_T42 x19 x24).f1)) || (!(((rd_T42 x17 x24).f2)==((rd_T42 x19 x24).f2)) || (!(((rd_T42 x17 x24).f3)==((rd_T42 x19 x24).f3)) || (!(((rd_T42 x17 x24).f4)==((rd_T42 x19 x24).f4)) || (!(((rd_T42 x17 x24).f5)==((rd_T42 x19 x24).f5))))))))=true then (some false) else (if x24 < (x21.length:Int) then (if (!(((rd_T42 x17 x24).f0)==((rd_T42 x21 x24).f0)) || (!(((rd_T42 x17 x24).f1)==((rd_T42 x21 x24).f1)) || (!(((rd_T42 x17 x24).f2)==((rd_T42 x21 x24).f2)) || (!(((rd_T42 x17 x24).f3)==((rd_T42 x21 x24).f3)) || (!(((rd_T42 x17 x24).f4)==((rd_T42 x21 x24).f4)) || (!(((rd_T42 x17 x24).f5)==((rd_T42 x21 x24).f5))))))))=true then (some false) else (parquetrylaw19_PlaceAligns.l0 k x4 x17 x18 x19 x20 x21 x22 x23 (wrap64 (x24+1)))) else (none))) else (none)) else (none)) else (none)) else (if x23=0 then ((parquetrylaw19_awake.f k).bind fun t313=>(some t313)) else (if x18=0 then (if x20=(wrap64 (x4 - x23)) then (if x22=(wrap64 (Int.tdiv (wrap64 (x4 - x23)) 2)) then ((parquetrylaw19_awake.f k).bind fun t314=>(some t314)) else (some false)) else (some false)) else (some false)))
end
def parquetrylaw19_PlaceAligns.f (k:Nat) (l0:List (S36)) (l1:List Int) (a2_0:Int) (a2_1:Int) (a2_2:Int) (a2_3:Int) (a2_4:Int) (a3:Int) (a4:Int):Option (Bool):=if (l0.length:Int) > 200 then ((parquetrylaw19_awake.f k).bind fun t283=>(some t283)) else ((place_Slots.f k l0 l1 a2_0 a2_1 a2_2 a2_3 a2_4 a3 a4 2).bind fun bt284=>((place_Slots.f k l0 l1 a2_0 a2_1 a2_2 a2_3 a2_4 a3 a4 3).bind fun bt288=>((place_Slots.f k l0 l1 a2_0 a2_1 a2_2 a2_3 a2_4 a3 a4 4).bind fun bt292=>(if bt284.2=bt288.2 then (parquetrylaw19_PlaceAligns.j0 k a4 bt284.1 bt284.2 bt288.1 bt292.1 (bt284.2 !=bt292.2)) else (parquetrylaw19_PlaceAligns.j0 k a4 bt284.1 bt284.2 bt288.1 bt292.1 true)))))
theorem parquetrylaw19_PlaceAligns.mono_l: ∀ k,(∀ y0 y1 y2 y3 y4 y5,LeO (parquetrylaw19_PlaceAligns.j0 k y0 y1 y2 y3 y4 y5) (parquetrylaw19_PlaceAligns.j0 (k+1) y0 y1 y2 y3 y4 y5))∧(∀ y0 y1 y2 y3 y4 y5 y6 y7 y8,LeO (parquetrylaw19_PlaceAligns.j1 k y0 y1 y2 y3 y4 y5 y6 y7 y8) (parquetrylaw19_PlaceAligns.j1 (k+1) y0 y1 y2 y3 y4 y5 y6 y7 y8))∧(∀ y0 y1 y2 y3 y4 y5 y6 y7 y8,LeO (parquetrylaw19_PlaceAligns.l0 k y0 y1 y2 y3 y4 y5 y6 y7 y8) (parquetrylaw19_PlaceAligns.l0 (k+1) y0 y1 y2 y3 y4 y5 y6 y7 y8))
 | 0=>⟨fun _ _ _ _ _ _ r h=>by simp [parquetrylaw19_PlaceAligns.j0] at h,fun _ _ _ _ _ _ _ _ _ r h=>by simp [parquetrylaw19_PlaceAligns.j1] at h,fun _ _ _ _ _ _ _ _ _ r h=>by simp [parquetrylaw19_PlaceAligns.l0] at h⟩
 | k+1=>by
  obtain ⟨ih0,ih1,ih2⟩:=parquetrylaw19_PlaceAligns.mono_l k
  refine ⟨?_,?_,?_⟩
  ·
   intro y0 y1 y2 y3 y4 y5
   unfold parquetrylaw19_PlaceAligns.j0
   repeat' first
   | (with_reducible exact ih0 _ _ _ _ _ _)
   | (with_reducible exact ih1 _ _ _ _ _ _ _ _ _)
   | (with_reducible exact ih2 _ _ _ _ _ _ _ _ _)
   | (with_reducible exact parquetrylaw19_awake.mono _)
   | (with_reducible exact parquetrylaw19_bare.mono _ _)
   | (with_reducible exact place_Slots.mono _ _ _ _ _ _ _ _ _ _ _)
   | (with_reducible exact LeO.refl _)
   | (with_reducible exact LeO.none _)
   | (with_reducible refine LeO.ite ?_ ?_)
   | (with_reducible refine LeO.bind ?_ (fun _=>?_))
   | exact ih0 _ _ _ _ _ _
   | exact ih1 _ _ _ _ _ _ _ _ _
   | exact ih2 _ _ _ _ _ _ _ _ _
   | exact parquetrylaw19_awake.mono _
   | exact parquetrylaw19_bare.mono _ _
   | exact place_Slots.mono _ _ _ _ _ _ _ _ _ _ _
   | exact LeO.none _
   | refine LeO.ite ?_ ?_
   | refine LeO.bind ?_ (fun _=>?_)
  ·
   intro y0 y1 y2 y3 y4 y5 y6 y7 y8
   unfold parquetrylaw19_PlaceAligns.j1
   repeat' first
   | (with_reducible exact ih0 _ _ _ _ _ _)
   | (with_reducible exact ih1 _ _ _ _ _ _ _ _ _)
   | (with_reducible exact ih2 _ _ _ _ _ _ _ _ _)
   | (with_reducible exact parquetrylaw19_awake.mono _)
   | (with_reducible exact parquetrylaw19_bare.mono _ _)
   | (with_reducible exact place_Slots.mono _ _ _ _ _ _ _ _ _ _ _)
   | (with_reducible exact LeO.refl _)
   | (with_reducible exact LeO.none _)
   | (with_reducible refine LeO.ite ?_ ?_)
   | (with_reducible refine LeO.bind ?_ (fun _=>?_))
   | exact ih0 _ _ _ _ _ _
   | exact ih1 _ _ _ _ _ _ _ _ _
   | exact ih2 _ _ _ _ _ _ _ _ _
   | exact parquetrylaw19_awake.mono _
   | exact parquetrylaw19_bare.mono _ _
   | exact place_Slots.mono _ _ _ _ _ _ _ _ _ _ _
   | exact LeO.none _
   | refine LeO.ite ?_ ?_
   | refine LeO.bind ?_ (fun _=>?_)
  ·
   intro y0 y1 y2 y3 y4 y5 y6 y7 y8
   unfold parquetrylaw19_PlaceAligns.l0
   repeat' first
   | (with_reducible exact ih0 _ _ _ _ _ _)
   | (with_reducible exact ih1 _ _ _ _ _ _ _ _ _)
   | (with_reducible exact ih2 _ _ _ _ _ _ _ _ _)
   | (with_reducible exact parquetrylaw19_awake.mono _)
   | (with_reducible exact parquetrylaw19_bare.mono _ _)
   | (with_reducible exact place_Slots.mono _ _ _ _ _ _ _ _ _ _ _)
   | (with_reducible exact LeO.refl _)
   | (with_reducible exact LeO.none _)
   | (with_reducible refine LeO.ite ?_ ?_)
   | (with_reducible refine LeO.bind ?_ (fun _=>?_))
   | exact ih0 _ _ _ _ _ _
   | exact ih1 _ _ _ _ _ _ _ _ _
   | exact ih2 _ _ _ _ _ _ _ _ _
   | exact parquetrylaw19_awake.mono _
   | exact parquetrylaw19_bare.mono _ _
   | exact place_Slots.mono _ _ _ _ _ _ _ _ _ _ _
   | exact LeO.none _
   | refine LeO.ite ?_ ?_
   | refine LeO.bind ?_ (fun _=>?_)
theorem parquetrylaw19_PlaceAligns.mono: ∀ a0 a1 a2 a3 a4 a5 a6 a7 a8 k,LeO (parquetrylaw19_PlaceAligns.f k a0 a1 a2 a3 a4 a5 a6 a7 a8) (parquetrylaw19_PlaceAligns.f (k+1) a0 a1 a2 a3 a4 a5 a6 a7 a8):=by
 intro a0 a1 a2 a3 a4 a5 a6 a7 a8 k
 obtain ⟨ih0,ih1,ih2⟩:=parquetrylaw19_PlaceAligns.mono_l k
 unfold parquetrylaw19_PlaceAligns.f
 repeat' first
   | (with_reducible exact ih0 _ _ _ _ _ _)
   | (with_reducible exact ih1 _ _ _ _ _ _ _ _ _)
   | (with_reducible exact ih2 _ _ _ _ _ _ _ _ _)
   | (with_reducible exact parquetrylaw19_awake.mono _)
   | (with_reducible exact parquetrylaw19_bare.mono _ _)
   | (with_reducible exact place_Slots.mono _ _ _ _ _ _ _ _ _ _ _)
   | (with_reducible exact LeO.refl _)
   | (with_reducible exact LeO.none _)
   | (with_reducible refine LeO.ite ?_ ?_)
   | (with_reducible refine LeO.bind ?_ (fun _=>?_))
   | exact ih0 _ _ _ _ _ _
   | exact ih1 _ _ _ _ _ _ _ _ _
   | exact ih2 _ _ _ _ _ _ _ _ _
   | exact parquetrylaw19_awake.mono _
   | exact parquetrylaw19_bare.mono _ _
   | exact place_Slots.mono _ _ _ _ _ _ _ _ _ _ _
   | exact LeO.none _
   | refine LeO.ite ?_ ?_
   | refine LeO.bind ?_ (fun _=>?_)
set_option maxHeartbeats 8000000 in
set_option maxRecDepth 100000 in
theorem parquetrylaw19_PlaceAligns.calls (k:Nat) (A0:Option Addr) (c0:Nat) (l0:List (S36)) (A1:Option Addr) (c1:Nat) (l1:List Int) (a2_0:Int) (a2_1:Int) (a2_2:Int) (a2_3:Int) (a2_4:Int) (a3:Int) (a4:Int) (r:Bool) (w:World) (hr0:Kd.C k36 w A0 l0.length l0) (hc0:l0.length≤c0) (hr1:Kd.C (Kd.int .i64) w A1 l1.length l1) (hc1:l1.length≤c1) (h:parquetrylaw19_PlaceAligns.f k l0 l1 a2_0 a2_1 a2_2 a2_3 a2_4 a3 a4=some r) :
  Calls Try.prog 5 #[.slice A0 l0.length c0,.slice A1 l1.length c1,.agg #[.int .i64 a2_0,.int .i64 a2_1,.int .i64 a2_2,.int .i64 a2_3,.int .i64 a2_4],.int .i64 a3,.int .i64 a4] w fun e w'=>e= .returned (.bool r)∧Below w.heap.size w w':=by
 have hu25:=Try.underlying25
 have hu42:=Try.underlying42
 have HR0:=Aside0.mk hr0
 have HC0:=Aside0.mk hc0
 clear hr0 hc0
 have HR1:=Aside0.mk hr1
 have HC1:=Aside0.mk hc1
 clear hr1 hc1
 have HB:=Aside0.mk (Below.refl w.heap.size w)
 have H:(if (l0.length:Int) > 200 then ((parquetrylaw19_awake.f k).bind fun t283=>(some t283)) else ((place_Slots.f k l0 l1 a2_0 a2_1 a2_2 a2_3 a2_4 a3 a4 2).bind fun bt284=>((place_Slots.f k l0 l1 a2_0 a2_1 a2_2 a2_3 a2_4 a3 a4 3).bind fun bt288=>((place_Slots.f k l0 l1 a2_0 a2_1 a2_2 a2_3 a2_4 a3 a4 4).bind fun bt292=>(if bt284.2=bt288.2 then (parquetrylaw19_PlaceAligns.j0 k a4 bt284.1 bt284.2 bt288.1 bt292.1 (bt284.2 !=bt292.2)) else (parquetrylaw19_PlaceAligns.j0 k a4 bt284.1 bt284.2 bt288.1 bt292.1 true))))))=some r:=h
 clear h
 by_cases c6:(l0.length:Int) > 200
 ·
  rw [if_pos c6] at H
  have c6b0:decide (200 < (l0.length:Int))=true:=decide_eq_true c6
  have c6b1:decide (200 < l0.length)=true:=decide_eq_true (by omega)
  clear c6
  replace H:=Option.bind_eq_some_iff.mp H
  obtain ⟨t283,A70,H⟩:=H
  replace H:(some t283)=some r:=H
  have A7:=Aside0.mk A70
  clear A70
  obtain rfl:=Option.some.inj H
  go_enter Try.func5,Try.ntmps5
  try dsimp only [List.append]
  go_wp2_with (first|((with_reducible refine gate_dst (N:=7) rfl ?_);(try (refine gate_guard (by rfl) ?_;dsimp only));refine box_event ?hg (N:=7) ?hd (cs:= #[.int .i64 a2_0,.int .i64 a2_1,.int .i64 a2_2,.int .i64 a2_3,.int .i64 a2_4]) (t:=25) ?hr ?_;(case hd=>rfl);(case hg=>rfl);(case hr=>first|(go_simp;done)|(go_simp;rfl));intro gb282 hg w8 hbox hb;have n0_:=Aside0.mk (below_step (by repeat (first|(with_reducible first|exact HB.out|apply below_alloc|apply pw_below_drewN|apply below_drew1)|exact HB.out)) hb);have n1_:=Aside0.mk (hbox);have n2_:=Aside0.mk ((by rw [hg];exact (below_size (by repeat (first|(with_reducible first|exact HB.out|apply below_alloc|apply pw_below_drewN|apply below_drew1)|exact HB.out))):w.heap.size≤gb282));have n3_:=Aside0.mk ((by rw [hg];exact (below_size (by repeat (first|(with_reducible first|exact HB.out|apply below_alloc|apply pw_below_drewN|apply below_drew1)|exact HB.out))):w.heap.size≤gb282));clear HB;have HB:=n0_;have BK282:=n1_;have GW282:=n2_;have GE282:=n3_;clear n0_ n1_ n2_ n3_;clear hb hbox hg)|(go_at_call 7;(with_reducible refine (parquetrylaw19_awake.calls k t283 _ A7.out).mono ?_);rintro e w9 ⟨rfl,hb⟩;have n0_:=Aside0.mk (blk_below (g:=gb282) (o:= .cells #[.int .i64 a2_0,.int .i64 a2_1,.int .i64 a2_2,.int .i64 a2_3,.int .i64 a2_4] 25 (0,0)) (by (with_reducible repeat (first|refine blk_drewN ?_ _|refine blk_drew ?_|refine blk_alloc ?_ _));exact BK282.out) hb);have n1_:=Aside0.mk (below_step (by repeat (first|(with_reducible first|exact HB.out|apply below_alloc|apply pw_below_drewN|apply below_drew1|refine below_set ?_ GE282.out)|exact HB.out)) hb);clear BK282;clear HB;have BK282:=n0_;have HB:=n1_;clear n0_ n1_;(try clear hb);(try clear hb2);(try clear hk);(try clear hi)))
  repeat (go_quiet (first|((with_reducible refine gate_dst (N:=7) rfl ?_);(try (refine gate_guard (by rfl) ?_;dsimp only));refine box_event ?hg (N:=7) ?hd (cs:= #[.int .i64 a2_0,.int .i64 a2_1,.int .i64 a2_2,.int .i64 a2_3,.int .i64 a2_4]) (t:=25) ?hr ?_;(case hd=>rfl);(case hg=>rfl);(case hr=>first|(go_simp;done)|(go_simp;rfl));intro gb282 hg w8 hbox hb;have n0_:=Aside0.mk (below_step (by repeat (first|(with_reducible first|exact HB.out|apply below_alloc|apply pw_below_drewN|apply below_drew1)|exact HB.out)) hb);have n1_:=Aside0.mk (hbox);have n2_:=Aside0.mk ((by rw [hg];exact (below_size (by repeat (first|(with_reducible first|exact HB.out|apply below_alloc|apply pw_below_drewN|apply below_drew1)|exact HB.out))):w.heap.size≤gb282));have n3_:=Aside0.mk ((by rw [hg];exact (below_size (by repeat (first|(with_reducible first|exact HB.out|apply below_alloc|apply pw_below_drewN|apply below_drew1)|exact HB.out))):w.heap.size≤gb282));clear HB;have HB:=n0_;have BK282:=n1_;have GW282:=n2_;have GE282:=n3_;clear n0_ n1_ n2_ n3_;clear hb hbox hg)|(go_at_call 7;(with_reducible refine (parquetrylaw19_awake.calls k t283 _ A7.out).mono ?_);rintro e w9 ⟨rfl,hb⟩;have n0_:=Aside0.mk (blk_below (g:=gb282) (o:= .cells #[.int .i64 a2_0,.int .i64 a2_1,.int .i64 a2_2,.int .i64 a2_3,.int .i64 a2_4] 25 (0,0)) (by (with_reducible repeat (first|refine blk_drewN ?_ _|refine blk_drew ?_|refine blk_alloc ?_ _));exact BK282.out) hb);have n1_:=Aside0.mk (below_step (by repeat (first|(with_reducible first|exact HB.out|apply below_alloc|apply pw_below_drewN|apply below_drew1|refine below_set ?_ GE282.out)|exact HB.out)) hb);clear BK282;clear HB;have BK282:=n0_;have HB:=n1_;clear n0_ n1_;(try clear hb);(try clear hb2);(try clear hk);(try clear hi)));try go_wp2_with (first|((with_reducible refine gate_dst (N:=7) rfl ?_);(try (refine gate_guard (by rfl) ?_;dsimp only));refine box_event ?hg (N:=7) ?hd (cs:= #[.int .i64 a2_0,.int .i64 a2_1,.int .i64 a2_2,.int .i64 a2_3,.int .i64 a2_4]) (t:=25) ?hr ?_;(case hd=>rfl);(case hg=>rfl);(case hr=>first|(go_simp;done)|(go_simp;rfl));intro gb282 hg w8 hbox hb;have n0_:=Aside0.mk (below_step (by repeat (first|(with_reducible first|exact HB.out|apply below_alloc|apply pw_below_drewN|apply below_drew1)|exact HB.out)) hb);have n1_:=Aside0.mk (hbox);have n2_:=Aside0.mk ((by rw [hg];exact (below_size (by repeat (first|(with_reducible first|exact HB.out|apply below_alloc|apply pw_below_drewN|apply below_drew1)|exact HB.out))):w.heap.size≤gb282));have n3_:=Aside0.mk ((by rw [hg];exact (below_size (by repeat (first|(with_reducible first|exact HB.out|apply below_alloc|apply pw_below_drewN|apply below_drew1)|exact HB.out))):w.heap.size≤gb282));clear HB;have HB:=n0_;have BK282:=n1_;have GW282:=n2_;have GE282:=n3_;clear n0_ n1_ n2_ n3_;clear hb hbox hg)|(go_at_call 7;(with_reducible refine (parquetrylaw19_awake.calls k t283 _ A7.out).mono ?_);rintro e w9 ⟨rfl,hb⟩;have n0_:=Aside0.mk (blk_below (g:=gb282) (o:= .cells #[.int .i64 a2_0,.int .i64 a2_1,.int .i64 a2_2,.int .i64 a2_3,.int .i64 a2_4] 25 (0,0)) (by (with_reducible repeat (first|refine blk_drewN ?_ _|refine blk_drew ?_|refine blk_alloc ?_ _));exact BK282.out) hb);have n1_:=Aside0.mk (below_step (by repeat (first|(with_reducible first|exact HB.out|apply below_alloc|apply pw_below_drewN|apply below_drew1|refine below_set ?_ GE282.out)|exact HB.out)) hb);clear BK282;clear HB;have BK282:=n0_;have HB:=n1_;clear n0_ n1_;(try clear hb);(try clear hb2);(try clear hk);(try clear hi))))
  go_ret
  exact ⟨by first|rfl|(simp [errW_none,errW_some] <;> rfl)|(simp [*,errW_none,errW_some] <;> rfl),by repeat (first|(with_reducible first|exact HB.out|apply below_alloc|apply pw_below_drewN|apply below_drew1|refine below_set ?_ GE282.out)|exact HB.out)⟩
 ·
  rw [if_neg c6] at H
  have c6b0:decide (200 < (l0.length:Int))=false:=decide_eq_false c6
  have c6b1:decide (200 < l0.length)=false:=decide_eq_false (by omega)
  clear c6
  replace H:=Option.bind_eq_some_iff.mp H
  obtain ⟨⟨t284,t287⟩,A100,H⟩:=H
  replace H:((place_Slots.f k l0 l1 a2_0 a2_1 a2_2 a2_3 a2_4 a3 a4 3).bind fun bt288=>((place_Slots.f k l0 l1 a2_0 a2_1 a2_2 a2_3 a2_4 a3 a4 4).bind fun bt292=>(if t287=bt288.2 then (parquetrylaw19_PlaceAligns.j0 k a4 t284 t287 bt288.1 bt292.1 (t287 !=bt292.2)) else (parquetrylaw19_PlaceAligns.j0 k a4 t284 t287 bt288.1 bt292.1 true))))=some r:=H
  have A10:=Aside0.mk A100
  clear A100
  replace H:=Option.bind_eq_some_iff.mp H
  obtain ⟨⟨t288,t291⟩,A110,H⟩:=H
  replace H:((place_Slots.f k l0 l1 a2_0 a2_1 a2_2 a2_3 a2_4 a3 a4 4).bind fun bt292=>(if t287=t291 then (parquetrylaw19_PlaceAligns.j0 k a4 t284 t287 t288 bt292.1 (t287 !=bt292.2)) else (parquetrylaw19_PlaceAligns.j0 k a4 t284 t287 t288 bt292.1 true)))=some r:=H
  have A11:=Aside0.mk A110
  clear A110
  replace H:=Option.bind_eq_some_iff.mp H
  obtain ⟨⟨t292,t295⟩,A120,H⟩:=H
  replace H:(if t287=t291 then (parquetrylaw19_PlaceAligns.j0 k a4 t284 t287 t288 t292 (t287 !=t295)) else (parquetrylaw19_PlaceAligns.j0 k a4 t284 t287 t288 t292 true))=some r:=H
  have A12:=Aside0.mk A120
  clear A120
  have HC13:=Aside0.mk H
  clear H
  go_enter Try.func5,Try.ntmps5
  try dsimp only [List.append]
  go_upto_region 6 with (first|((with_reducible refine gate_dst (N:=7) rfl ?_);(try (refine gate_guard (by rfl) ?_;dsimp only));refine box_event ?hg (N:=7) ?hd (cs:= #[.int .i64 a2_0,.int .i64 a2_1,.int .i64 a2_2,.int .i64 a2_3,.int .i64 a2_4]) (t:=25) ?hr ?_;(case hd=>rfl);(case hg=>rfl);(case hr=>first|(go_simp;done)|(go_simp;rfl));intro gb282 hg w14 hbox hb;have n0_:=Aside0.mk (below_step (by repeat (first|(with_reducible first|exact HB.out|apply below_alloc|apply pw_below_drewN|apply below_drew1)|exact HB.out)) hb);have n1_:=Aside0.mk (hbox);have n2_:=Aside0.mk ((by rw [hg];exact (below_size (by repeat (first|(with_reducible first|exact HB.out|apply below_alloc|apply pw_below_drewN|apply below_drew1)|exact HB.out))):w.heap.size≤gb282));have n3_:=Aside0.mk ((by rw [hg];exact (below_size (by repeat (first|(with_reducible first|exact HB.out|apply below_alloc|apply pw_below_drewN|apply below_drew1)|exact HB.out))):w.heap.size≤gb282));clear HB;have HB:=n0_;have BK282:=n1_;have GW282:=n2_;have GE282:=n3_;clear n0_ n1_ n2_ n3_;clear hb hbox hg;have hcz15_0:w14.cell? ⟨gb282,0,none⟩=some (.int .i64 a2_0):=(blk_cell BK282.out 0).trans rfl;have hcz15_1:w14.cell? ⟨gb282,1,none⟩=some (.int .i64 a2_1):=(blk_cell BK282.out 1).trans rfl;have hcz15_2:w14.cell? ⟨gb282,2,none⟩=some (.int .i64 a2_2):=(blk_cell BK282.out 2).trans rfl;have hcz15_3:w14.cell? ⟨gb282,3,none⟩=some (.int .i64 a2_3):=(blk_cell BK282.out 3).trans rfl;have hcz15_4:w14.cell? ⟨gb282,4,none⟩=some (.int .i64 a2_4):=(blk_cell BK282.out 4).trans rfl;have hfz15_0:=blk_frozen BK282.out 0;have hfz15_1:=blk_frozen BK282.out 1;have hfz15_2:=blk_frozen BK282.out 2;have hfz15_3:=blk_frozen BK282.out 3;have hfz15_4:=blk_frozen BK282.out 4)|(go_at_call 8;(with_reducible refine (place_Slots.calls k _ _ l0 _ _ l1 a2_0 a2_1 a2_2 a2_3 a2_4 a3 a4 2 t284 t287 _ ?side1 ?side2 ?side3 ?side4 A10.out).mono ?_);(case side1=>repeat (first|exact (Kd.C_below HR0.out HB.out)|(with_reducible refine Kd.C_alloc ?_ _)|(with_reducible refine Kd.C_drewN ?_ _)|(with_reducible refine Kd.C_drew ?_)));(case side2=>exact HC0.out);(case side3=>repeat (first|exact (Kd.C_below HR1.out HB.out)|(with_reducible refine Kd.C_alloc ?_ _)|(with_reducible refine Kd.C_drewN ?_ _)|(with_reducible refine Kd.C_drew ?_)));(case side4=>exact HC1.out);rintro e w16 ⟨v285,rfl,ho0,hb⟩;have n0_:=Aside0.mk (Kd.R_lower ho0 (below_size (by repeat (first|(with_reducible first|exact HB.out|apply below_alloc|apply pw_below_drewN|apply below_drew1|refine below_set ?_ GE282.out)|exact HB.out))));have n1_:=Aside0.mk (blk_below (g:=gb282) (o:= .cells #[.int .i64 a2_0,.int .i64 a2_1,.int .i64 a2_2,.int .i64 a2_3,.int .i64 a2_4] 25 (0,0)) (by (with_reducible repeat (first|refine blk_drewN ?_ _|refine blk_drew ?_|refine blk_alloc ?_ _));exact BK282.out) hb);have n2_:=Aside0.mk (below_step (by repeat (first|(with_reducible first|exact HB.out|apply below_alloc|apply pw_below_drewN|apply below_drew1|refine below_set ?_ GE282.out)|exact HB.out)) hb);clear BK282;clear HB;have HO286:=n0_;have BK282:=n1_;have HB:=n2_;clear n0_ n1_ n2_;(try clear hb);(try clear hb2);(try clear hk);(try clear hi);(try clear ho0);have hcz17_0:w16.cell? ⟨gb282,0,none⟩=some (.int .i64 a2_0):=(blk_cell BK282.out 0).trans rfl;have hcz17_1:w16.cell? ⟨gb282,1,none⟩=some (.int .i64 a2_1):=(blk_cell BK282.out 1).trans rfl;have hcz17_2:w16.cell? ⟨gb282,2,none⟩=some (.int .i64 a2_2):=(blk_cell BK282.out 2).trans rfl;have hcz17_3:w16.cell? ⟨gb282,3,none⟩=some (.int .i64 a2_3):=(blk_cell BK282.out 3).trans rfl;have hcz17_4:w16.cell? ⟨gb282,4,none⟩=some (.int .i64 a2_4):=(blk_cell BK282.out 4).trans rfl;have hfz17_0:=blk_frozen BK282.out 0;have hfz17_1:=blk_frozen BK282.out 1;have hfz17_2:=blk_frozen BK282.out 2;have hfz17_3:=blk_frozen BK282.out 3;have hfz17_4:=blk_frozen BK282.out 4)|(go_at_call 8;(with_reducible refine (place_Slots.calls k _ _ l0 _ _ l1 a2_0 a2_1 a2_2 a2_3 a2_4 a3 a4 3 t288 t291 _ ?side1 ?side2 ?side3 ?side4 A11.out).mono ?_);(case side1=>repeat (first|exact (Kd.C_below HR0.out HB.out)|(with_reducible refine Kd.C_alloc ?_ _)|(with_reducible refine Kd.C_drewN ?_ _)|(with_reducible refine Kd.C_drew ?_)));(case side2=>exact HC0.out);(case side3=>repeat (first|exact (Kd.C_below HR1.out HB.out)|(with_reducible refine Kd.C_alloc ?_ _)|(with_reducible refine Kd.C_drewN ?_ _)|(with_reducible refine Kd.C_drew ?_)));(case side4=>exact HC1.out);rintro e w18 ⟨v289,rfl,ho0,hb⟩;have n0_:=Aside0.mk (Kd.R_elder' (by (with_reducible repeat (first|apply Kd.R_alloc|apply Kd.R_drewN|apply Kd.R_drew));exact HO286.out) (Kd.R_base ho0) hb);have n1_:=Aside0.mk (Kd.R_lower (Kd.R_new' ho0 (Kd.R_lt (by (with_reducible repeat (first|apply Kd.R_alloc|apply Kd.R_drewN|apply Kd.R_drew));exact HO286.out))) (below_size (by repeat (first|(with_reducible first|exact HB.out|apply below_alloc|apply pw_below_drewN|apply below_drew1|refine below_set ?_ GE282.out)|exact HB.out))));have n2_:=Aside0.mk (blk_below (g:=gb282) (o:= .cells #[.int .i64 a2_0,.int .i64 a2_1,.int .i64 a2_2,.int .i64 a2_3,.int .i64 a2_4] 25 (0,0)) (by (with_reducible repeat (first|refine blk_drewN ?_ _|refine blk_drew ?_|refine blk_alloc ?_ _));exact BK282.out) hb);have n3_:=Aside0.mk (below_step (by repeat (first|(with_reducible first|exact HB.out|apply below_alloc|apply pw_below_drewN|apply below_drew1|refine below_set ?_ GE282.out)|exact HB.out)) hb);clear HO286;clear BK282;clear HB;have HO286:=n0_;have HO290:=n1_;have BK282:=n2_;have HB:=n3_;clear n0_ n1_ n2_ n3_;(try clear hb);(try clear hb2);(try clear hk);(try clear hi);(try clear ho0);have hcz19_0:w18.cell? ⟨gb282,0,none⟩=some (.int .i64 a2_0):=(blk_cell BK282.out 0).trans rfl;have hcz19_1:w18.cell? ⟨gb282,1,none⟩=some (.int .i64 a2_1):=(blk_cell BK282.out 1).trans rfl;have hcz19_2:w18.cell? ⟨gb282,2,none⟩=some (.int .i64 a2_2):=(blk_cell BK282.out 2).trans rfl;have hcz19_3:w18.cell? ⟨gb282,3,none⟩=some (.int .i64 a2_3):=(blk_cell BK282.out 3).trans rfl;have hcz19_4:w18.cell? ⟨gb282,4,none⟩=some (.int .i64 a2_4):=(blk_cell BK282.out 4).trans rfl;have hfz19_0:=blk_frozen BK282.out 0;have hfz19_1:=blk_frozen BK282.out 1;have hfz19_2:=blk_frozen BK282.out 2;have hfz19_3:=blk_frozen BK282.out 3;have hfz19_4:=blk_frozen BK282.out 4)|(go_at_call 8;(with_reducible refine (place_Slots.calls k _ _ l0 _ _ l1 a2_0 a2_1 a2_2 a2_3 a2_4 a3 a4 4 t292 t295 _ ?side1 ?side2 ?side3 ?side4 A12.out).mono ?_);(case side1=>repeat (first|exact (Kd.C_below HR0.out HB.out)|(with_reducible refine Kd.C_alloc ?_ _)|(with_reducible refine Kd.C_drewN ?_ _)|(with_reducible refine Kd.C_drew ?_)));(case side2=>exact HC0.out);(case side3=>repeat (first|exact (Kd.C_below HR1.out HB.out)|(with_reducible refine Kd.C_alloc ?_ _)|(with_reducible refine Kd.C_drewN ?_ _)|(with_reducible refine Kd.C_drew ?_)));(case side4=>exact HC1.out);rintro e w20 ⟨v293,rfl,ho0,hb⟩;have n0_:=Aside0.mk (Kd.R_elder' (by (with_reducible repeat (first|apply Kd.R_alloc|apply Kd.R_drewN|apply Kd.R_drew));exact HO286.out) (Kd.R_base ho0) hb);have n1_:=Aside0.mk (Kd.R_elder' (by (with_reducible repeat (first|apply Kd.R_alloc|apply Kd.R_drewN|apply Kd.R_drew));exact HO290.out) (Kd.R_base ho0) hb);have n2_:=Aside0.mk (Kd.R_lower (Kd.R_new' (Kd.R_new' ho0 (Kd.R_lt (by (with_reducible repeat (first|apply Kd.R_alloc|apply Kd.R_drewN|apply Kd.R_drew));exact HO286.out))) (Kd.R_lt (by (with_reducible repeat (first|apply Kd.R_alloc|apply Kd.R_drewN|apply Kd.R_drew));exact HO290.out))) (below_size (by repeat (first|(with_reducible first|exact HB.out|apply below_alloc|apply pw_below_drewN|apply below_drew1|refine below_set ?_ GE282.out)|exact HB.out))));have n3_:=Aside0.mk (blk_below (g:=gb282) (o:= .cells #[.int .i64 a2_0,.int .i64 a2_1,.int .i64 a2_2,.int .i64 a2_3,.int .i64 a2_4] 25 (0,0)) (by (with_reducible repeat (first|refine blk_drewN ?_ _|refine blk_drew ?_|refine blk_alloc ?_ _));exact BK282.out) hb);have n4_:=Aside0.mk (below_step (by repeat (first|(with_reducible first|exact HB.out|apply below_alloc|apply pw_below_drewN|apply below_drew1|refine below_set ?_ GE282.out)|exact HB.out)) hb);clear HO286;clear HO290;clear BK282;clear HB;have HO286:=n0_;have HO290:=n1_;have HO294:=n2_;have BK282:=n3_;have HB:=n4_;clear n0_ n1_ n2_ n3_ n4_;(try clear hb);(try clear hb2);(try clear hk);(try clear hi);(try clear ho0)))
  repeat (go_quiet (first|((with_reducible refine gate_dst (N:=7) rfl ?_);(try (refine gate_guard (by rfl) ?_;dsimp only));refine box_event ?hg (N:=7) ?hd (cs:= #[.int .i64 a2_0,.int .i64 a2_1,.int .i64 a2_2,.int .i64 a2_3,.int .i64 a2_4]) (t:=25) ?hr ?_;(case hd=>rfl);(case hg=>rfl);(case hr=>first|(go_simp;done)|(go_simp;rfl));intro gb282 hg w14 hbox hb;have n0_:=Aside0.mk (below_step (by repeat (first|(with_reducible first|exact HB.out|apply below_alloc|apply pw_below_drewN|apply below_drew1)|exact HB.out)) hb);have n1_:=Aside0.mk (hbox);have n2_:=Aside0.mk ((by rw [hg];exact (below_size (by repeat (first|(with_reducible first|exact HB.out|apply below_alloc|apply pw_below_drewN|apply below_drew1)|exact HB.out))):w.heap.size≤gb282));have n3_:=Aside0.mk ((by rw [hg];exact (below_size (by repeat (first|(with_reducible first|exact HB.out|apply below_alloc|apply pw_below_drewN|apply below_drew1)|exact HB.out))):w.heap.size≤gb282));clear HB;have HB:=n0_;have BK282:=n1_;have GW282:=n2_;have GE282:=n3_;clear n0_ n1_ n2_ n3_;clear hb hbox hg;have hcz15_0:w14.cell? ⟨gb282,0,none⟩=some (.int .i64 a2_0):=(blk_cell BK282.out 0).trans rfl;have hcz15_1:w14.cell? ⟨gb282,1,none⟩=some (.int .i64 a2_1):=(blk_cell BK282.out 1).trans rfl;have hcz15_2:w14.cell? ⟨gb282,2,none⟩=some (.int .i64 a2_2):=(blk_cell BK282.out 2).trans rfl;have hcz15_3:w14.cell? ⟨gb282,3,none⟩=some (.int .i64 a2_3):=(blk_cell BK282.out 3).trans rfl;have hcz15_4:w14.cell? ⟨gb282,4,none⟩=some (.int .i64 a2_4):=(blk_cell BK282.out 4).trans rfl;have hfz15_0:=blk_frozen BK282.out 0;have hfz15_1:=blk_frozen BK282.out 1;have hfz15_2:=blk_frozen BK282.out 2;have hfz15_3:=blk_frozen BK282.out 3;have hfz15_4:=blk_frozen BK282.out 4)|(go_at_call 8;(with_reducible refine (place_Slots.calls k _ _ l0 _ _ l1 a2_0 a2_1 a2_2 a2_3 a2_4 a3 a4 2 t284 t287 _ ?side1 ?side2 ?side3 ?side4 A10.out).mono ?_);(case side1=>repeat (first|exact (Kd.C_below HR0.out HB.out)|(with_reducible refine Kd.C_alloc ?_ _)|(with_reducible refine Kd.C_drewN ?_ _)|(with_reducible refine Kd.C_drew ?_)));(case side2=>exact HC0.out);(case side3=>repeat (first|exact (Kd.C_below HR1.out HB.out)|(with_reducible refine Kd.C_alloc ?_ _)|(with_reducible refine Kd.C_drewN ?_ _)|(with_reducible refine Kd.C_drew ?_)));(case side4=>exact HC1.out);rintro e w16 ⟨v285,rfl,ho0,hb⟩;have n0_:=Aside0.mk (Kd.R_lower ho0 (below_size (by repeat (first|(with_reducible first|exact HB.out|apply below_alloc|apply pw_below_drewN|apply below_drew1|refine below_set ?_ GE282.out)|exact HB.out))));have n1_:=Aside0.mk (blk_below (g:=gb282) (o:= .cells #[.int .i64 a2_0,.int .i64 a2_1,.int .i64 a2_2,.int .i64 a2_3,.int .i64 a2_4] 25 (0,0)) (by (with_reducible repeat (first|refine blk_drewN ?_ _|refine blk_drew ?_|refine blk_alloc ?_ _));exact BK282.out) hb);have n2_:=Aside0.mk (below_step (by repeat (first|(with_reducible first|exact HB.out|apply below_alloc|apply pw_below_drewN|apply below_drew1|refine below_set ?_ GE282.out)|exact HB.out)) hb);clear BK282;clear HB;have HO286:=n0_;have BK282:=n1_;have HB:=n2_;clear n0_ n1_ n2_;(try clear hb);(try clear hb2);(try clear hk);(try clear hi);(try clear ho0);have hcz17_0:w16.cell? ⟨gb282,0,none⟩=some (.int .i64 a2_0):=(blk_cell BK282.out 0).trans rfl;have hcz17_1:w16.cell? ⟨gb282,1,none⟩=some (.int .i64 a2_1):=(blk_cell BK282.out 1).trans rfl;have hcz17_2:w16.cell? ⟨gb282,2,none⟩=some (.int .i64 a2_2):=(blk_cell BK282.out 2).trans rfl;have hcz17_3:w16.cell? ⟨gb282,3,none⟩=some (.int .i64 a2_3):=(blk_cell BK282.out 3).trans rfl;have hcz17_4:w16.cell? ⟨gb282,4,none⟩=some (.int .i64 a2_4):=(blk_cell BK282.out 4).trans rfl;have hfz17_0:=blk_frozen BK282.out 0;have hfz17_1:=blk_frozen BK282.out 1;have hfz17_2:=blk_frozen BK282.out 2;have hfz17_3:=blk_frozen BK282.out 3;have hfz17_4:=blk_frozen BK282.out 4)|(go_at_call 8;(with_reducible refine (place_Slots.calls k _ _ l0 _ _ l1 a2_0 a2_1 a2_2 a2_3 a2_4 a3 a4 3 t288 t291 _ ?side1 ?side2 ?side3 ?side4 A11.out).mono ?_);(case side1=>repeat (first|exact (Kd.C_below HR0.out HB.out)|(with_reducible refine Kd.C_alloc ?_ _)|(with_reducible refine Kd.C_drewN ?_ _)|(with_reducible refine Kd.C_drew ?_)));(case side2=>exact HC0.out);(case side3=>repeat (first|exact (Kd.C_below HR1.out HB.out)|(with_reducible refine Kd.C_alloc ?_ _)|(with_reducible refine Kd.C_drewN ?_ _)|(with_reducible refine Kd.C_drew ?_)));(case side4=>exact HC1.out);rintro e w18 ⟨v289,rfl,ho0,hb⟩;have n0_:=Aside0.mk (Kd.R_elder' (by (with_reducible repeat (first|apply Kd.R_alloc|apply Kd.R_drewN|apply Kd.R_drew));exact HO286.out) (Kd.R_base ho0) hb);have n1_:=Aside0.mk (Kd.R_lower (Kd.R_new' ho0 (Kd.R_lt (by (with_reducible repeat (first|apply Kd.R_alloc|apply Kd.R_drewN|apply Kd.R_drew));exact HO286.out))) (below_size (by repeat (first|(with_reducible first|exact HB.out|apply below_alloc|apply pw_below_drewN|apply below_drew1|refine below_set ?_ GE282.out)|exact HB.out))));have n2_:=Aside0.mk (blk_below (g:=gb282) (o:= .cells #[.int .i64 a2_0,.int .i64 a2_1,.int .i64 a2_2,.int .i64 a2_3,.int .i64 a2_4] 25 (0,0)) (by (with_reducible repeat (first|refine blk_drewN ?_ _|refine blk_drew ?_|refine blk_alloc ?_ _));exact BK282.out) hb);have n3_:=Aside0.mk (below_step (by repeat (first|(with_reducible first|exact HB.out|apply below_alloc|apply pw_below_drewN|apply below_drew1|refine below_set ?_ GE282.out)|exact HB.out)) hb);clear HO286;clear BK282;clear HB;have HO286:=n0_;have HO290:=n1_;have BK282:=n2_;have HB:=n3_;clear n0_ n1_ n2_ n3_;(try clear hb);(try clear hb2);(try clear hk);(try clear hi);(try clear ho0);have hcz19_0:w18.cell? ⟨gb282,0,none⟩=some (.int .i64 a2_0):=(blk_cell BK282.out 0).trans rfl;have hcz19_1:w18.cell? ⟨gb282,1,none⟩=some (.int .i64 a2_1):=(blk_cell BK282.out 1).trans rfl;have hcz19_2:w18.cell? ⟨gb282,2,none⟩=some (.int .i64 a2_2):=(blk_cell BK282.out 2).trans rfl;have hcz19_3:w18.cell? ⟨gb282,3,none⟩=some (.int .i64 a2_3):=(blk_cell BK282.out 3).trans rfl;have hcz19_4:w18.cell? ⟨gb282,4,none⟩=some (.int .i64 a2_4):=(blk_cell BK282.out 4).trans rfl;have hfz19_0:=blk_frozen BK282.out 0;have hfz19_1:=blk_frozen BK282.out 1;have hfz19_2:=blk_frozen BK282.out 2;have hfz19_3:=blk_frozen BK282.out 3;have hfz19_4:=blk_frozen BK282.out 4)|(go_at_call 8;(with_reducible refine (place_Slots.calls k _ _ l0 _ _ l1 a2_0 a2_1 a2_2 a2_3 a2_4 a3 a4 4 t292 t295 _ ?side1 ?side2 ?side3 ?side4 A12.out).mono ?_);(case side1=>repeat (first|exact (Kd.C_below HR0.out HB.out)|(with_reducible refine Kd.C_alloc ?_ _)|(with_reducible refine Kd.C_drewN ?_ _)|(with_reducible refine Kd.C_drew ?_)));(case side2=>exact HC0.out);(case side3=>repeat (first|exact (Kd.C_below HR1.out HB.out)|(with_reducible refine Kd.C_alloc ?_ _)|(with_reducible refine Kd.C_drewN ?_ _)|(with_reducible refine Kd.C_drew ?_)));(case side4=>exact HC1.out);rintro e w20 ⟨v293,rfl,ho0,hb⟩;have n0_:=Aside0.mk (Kd.R_elder' (by (with_reducible repeat (first|apply Kd.R_alloc|apply Kd.R_drewN|apply Kd.R_drew));exact HO286.out) (Kd.R_base ho0) hb);have n1_:=Aside0.mk (Kd.R_elder' (by (with_reducible repeat (first|apply Kd.R_alloc|apply Kd.R_drewN|apply Kd.R_drew));exact HO290.out) (Kd.R_base ho0) hb);have n2_:=Aside0.mk (Kd.R_lower (Kd.R_new' (Kd.R_new' ho0 (Kd.R_lt (by (with_reducible repeat (first|apply Kd.R_alloc|apply Kd.R_drewN|apply Kd.R_drew));exact HO286.out))) (Kd.R_lt (by (with_reducible repeat (first|apply Kd.R_alloc|apply Kd.R_drewN|apply Kd.R_drew));exact HO290.out))) (below_size (by repeat (first|(with_reducible first|exact HB.out|apply below_alloc|apply pw_below_drewN|apply below_drew1|refine below_set ?_ GE282.out)|exact HB.out))));have n3_:=Aside0.mk (blk_below (g:=gb282) (o:= .cells #[.int .i64 a2_0,.int .i64 a2_1,.int .i64 a2_2,.int .i64 a2_3,.int .i64 a2_4] 25 (0,0)) (by (with_reducible repeat (first|refine blk_drewN ?_ _|refine blk_drew ?_|refine blk_alloc ?_ _));exact BK282.out) hb);have n4_:=Aside0.mk (below_step (by repeat (first|(with_reducible first|exact HB.out|apply below_alloc|apply pw_below_drewN|apply below_drew1|refine below_set ?_ GE282.out)|exact HB.out)) hb);clear HO286;clear HO290;clear BK282;clear HB;have HO286:=n0_;have HO290:=n1_;have HO294:=n2_;have BK282:=n3_;have HB:=n4_;clear n0_ n1_ n2_ n3_ n4_;(try clear hb);(try clear hb2);(try clear hk);(try clear hi);(try clear ho0)));go_upto_region 6 with (first|((with_reducible refine gate_dst (N:=7) rfl ?_);(try (refine gate_guard (by rfl) ?_;dsimp only));refine box_event ?hg (N:=7) ?hd (cs:= #[.int .i64 a2_0,.int .i64 a2_1,.int .i64 a2_2,.int .i64 a2_3,.int .i64 a2_4]) (t:=25) ?hr ?_;(case hd=>rfl);(case hg=>rfl);(case hr=>first|(go_simp;done)|(go_simp;rfl));intro gb282 hg w14 hbox hb;have n0_:=Aside0.mk (below_step (by repeat (first|(with_reducible first|exact HB.out|apply below_alloc|apply pw_below_drewN|apply below_drew1)|exact HB.out)) hb);have n1_:=Aside0.mk (hbox);have n2_:=Aside0.mk ((by rw [hg];exact (below_size (by repeat (first|(with_reducible first|exact HB.out|apply below_alloc|apply pw_below_drewN|apply below_drew1)|exact HB.out))):w.heap.size≤gb282));have n3_:=Aside0.mk ((by rw [hg];exact (below_size (by repeat (first|(with_reducible first|exact HB.out|apply below_alloc|apply pw_below_drewN|apply below_drew1)|exact HB.out))):w.heap.size≤gb282));clear HB;have HB:=n0_;have BK282:=n1_;have GW282:=n2_;have GE282:=n3_;clear n0_ n1_ n2_ n3_;clear hb hbox hg;have hcz15_0:w14.cell? ⟨gb282,0,none⟩=some (.int .i64 a2_0):=(blk_cell BK282.out 0).trans rfl;have hcz15_1:w14.cell? ⟨gb282,1,none⟩=some (.int .i64 a2_1):=(blk_cell BK282.out 1).trans rfl;have hcz15_2:w14.cell? ⟨gb282,2,none⟩=some (.int .i64 a2_2):=(blk_cell BK282.out 2).trans rfl;have hcz15_3:w14.cell? ⟨gb282,3,none⟩=some (.int .i64 a2_3):=(blk_cell BK282.out 3).trans rfl;have hcz15_4:w14.cell? ⟨gb282,4,none⟩=some (.int .i64 a2_4):=(blk_cell BK282.out 4).trans rfl;have hfz15_0:=blk_frozen BK282.out 0;have hfz15_1:=blk_frozen BK282.out 1;have hfz15_2:=blk_frozen BK282.out 2;have hfz15_3:=blk_frozen BK282.out 3;have hfz15_4:=blk_frozen BK282.out 4)|(go_at_call 8;(with_reducible refine (place_Slots.calls k _ _ l0 _ _ l1 a2_0 a2_1 a2_2 a2_3 a2_4 a3 a4 2 t284 t287 _ ?side1 ?side2 ?side3 ?side4 A10.out).mono ?_);(case side1=>repeat (first|exact (Kd.C_below HR0.out HB.out)|(with_reducible refine Kd.C_alloc ?_ _)|(with_reducible refine Kd.C_drewN ?_ _)|(with_reducible refine Kd.C_drew ?_)));(case side2=>exact HC0.out);(case side3=>repeat (first|exact (Kd.C_below HR1.out HB.out)|(with_reducible refine Kd.C_alloc ?_ _)|(with_reducible refine Kd.C_drewN ?_ _)|(with_reducible refine Kd.C_drew ?_)));(case side4=>exact HC1.out);rintro e w16 ⟨v285,rfl,ho0,hb⟩;have n0_:=Aside0.mk (Kd.R_lower ho0 (below_size (by repeat (first|(with_reducible first|exact HB.out|apply below_alloc|apply pw_below_drewN|apply below_drew1|refine below_set ?_ GE282.out)|exact HB.out))));have n1_:=Aside0.mk (blk_below (g:=gb282) (o:= .cells #[.int .i64 a2_0,.int .i64 a2_1,.int .i64 a2_2,.int .i64 a2_3,.int .i64 a2_4] 25 (0,0)) (by (with_reducible repeat (first|refine blk_drewN ?_ _|refine blk_drew ?_|refine blk_alloc ?_ _));exact BK282.out) hb);have n2_:=Aside0.mk (below_step (by repeat (first|(with_reducible first|exact HB.out|apply below_alloc|apply pw_below_drewN|apply below_drew1|refine below_set ?_ GE282.out)|exact HB.out)) hb);clear BK282;clear HB;have HO286:=n0_;have BK282:=n1_;have HB:=n2_;clear n0_ n1_ n2_;(try clear hb);(try clear hb2);(try clear hk);(try clear hi);(try clear ho0);have hcz17_0:w16.cell? ⟨gb282,0,none⟩=some (.int .i64 a2_0):=(blk_cell BK282.out 0).trans rfl;have hcz17_1:w16.cell? ⟨gb282,1,none⟩=some (.int .i64 a2_1):=(blk_cell BK282.out 1).trans rfl;have hcz17_2:w16.cell? ⟨gb282,2,none⟩=some (.int .i64 a2_2):=(blk_cell BK282.out 2).trans rfl;have hcz17_3:w16.cell? ⟨gb282,3,none⟩=some (.int .i64 a2_3):=(blk_cell BK282.out 3).trans rfl;have hcz17_4:w16.cell? ⟨gb282,4,none⟩=some (.int .i64 a2_4):=(blk_cell BK282.out 4).trans rfl;have hfz17_0:=blk_frozen BK282.out 0;have hfz17_1:=blk_frozen BK282.out 1;have hfz17_2:=blk_frozen BK282.out 2;have hfz17_3:=blk_frozen BK282.out 3;have hfz17_4:=blk_frozen BK282.out 4)|(go_at_call 8;(with_reducible refine (place_Slots.calls k _ _ l0 _ _ l1 a2_0 a2_1 a2_2 a2_3 a2_4 a3 a4 3 t288 t291 _ ?side1 ?side2 ?side3 ?side4 A11.out).mono ?_);(case side1=>repeat (first|exact (Kd.C_below HR0.out HB.out)|(with_reducible refine Kd.C_alloc ?_ _)|(with_reducible refine Kd.C_drewN ?_ _)|(with_reducible refine Kd.C_drew ?_)));(case side2=>exact HC0.out);(case side3=>repeat (first|exact (Kd.C_below HR1.out HB.out)|(with_reducible refine Kd.C_alloc ?_ _)|(with_reducible refine Kd.C_drewN ?_ _)|(with_reducible refine Kd.C_drew ?_)));(case side4=>exact HC1.out);rintro e w18 ⟨v289,rfl,ho0,hb⟩;have n0_:=Aside0.mk (Kd.R_elder' (by (with_reducible repeat (first|apply Kd.R_alloc|apply Kd.R_drewN|apply Kd.R_drew));exact HO286.out) (Kd.R_base ho0) hb);have n1_:=Aside0.mk (Kd.R_lower (Kd.R_new' ho0 (Kd.R_lt (by (with_reducible repeat (first|apply Kd.R_alloc|apply Kd.R_drewN|apply Kd.R_drew));exact HO286.out))) (below_size (by repeat (first|(with_reducible first|exact HB.out|apply below_alloc|apply pw_below_drewN|apply below_drew1|refine below_set ?_ GE282.out)|exact HB.out))));have n2_:=Aside0.mk (blk_below (g:=gb282) (o:= .cells #[.int .i64 a2_0,.int .i64 a2_1,.int .i64 a2_2,.int .i64 a2_3,.int .i64 a2_4] 25 (0,0)) (by (with_reducible repeat (first|refine blk_drewN ?_ _|refine blk_drew ?_|refine blk_alloc ?_ _));exact BK282.out) hb);have n3_:=Aside0.mk (below_step (by repeat (first|(with_reducible first|exact HB.out|apply below_alloc|apply pw_below_drewN|apply below_drew1|refine below_set ?_ GE282.out)|exact HB.out)) hb);clear HO286;clear BK282;clear HB;have HO286:=n0_;have HO290:=n1_;have BK282:=n2_;have HB:=n3_;clear n0_ n1_ n2_ n3_;(try clear hb);(try clear hb2);(try clear hk);(try clear hi);(try clear ho0);have hcz19_0:w18.cell? ⟨gb282,0,none⟩=some (.int .i64 a2_0):=(blk_cell BK282.out 0).trans rfl;have hcz19_1:w18.cell? ⟨gb282,1,none⟩=some (.int .i64 a2_1):=(blk_cell BK282.out 1).trans rfl;have hcz19_2:w18.cell? ⟨gb282,2,none⟩=some (.int .i64 a2_2):=(blk_cell BK282.out 2).trans rfl;have hcz19_3:w18.cell? ⟨gb282,3,none⟩=some (.int .i64 a2_3):=(blk_cell BK282.out 3).trans rfl;have hcz19_4:w18.cell? ⟨gb282,4,none⟩=some (.int .i64 a2_4):=(blk_cell BK282.out 4).trans rfl;have hfz19_0:=blk_frozen BK282.out 0;have hfz19_1:=blk_frozen BK282.out 1;have hfz19_2:=blk_frozen BK282.out 2;have hfz19_3:=blk_frozen BK282.out 3;have hfz19_4:=blk_frozen BK282.out 4)|(go_at_call 8;(with_reducible refine (place_Slots.calls k _ _ l0 _ _ l1 a2_0 a2_1 a2_2 a2_3 a2_4 a3 a4 4 t292 t295 _ ?side1 ?side2 ?side3 ?side4 A12.out).mono ?_);(case side1=>repeat (first|exact (Kd.C_below HR0.out HB.out)|(with_reducible refine Kd.C_alloc ?_ _)|(with_reducible refine Kd.C_drewN ?_ _)|(with_reducible refine Kd.C_drew ?_)));(case side2=>exact HC0.out);(case side3=>repeat (first|exact (Kd.C_below HR1.out HB.out)|(with_reducible refine Kd.C_alloc ?_ _)|(with_reducible refine Kd.C_drewN ?_ _)|(with_reducible refine Kd.C_drew ?_)));(case side4=>exact HC1.out);rintro e w20 ⟨v293,rfl,ho0,hb⟩;have n0_:=Aside0.mk (Kd.R_elder' (by (with_reducible repeat (first|apply Kd.R_alloc|apply Kd.R_drewN|apply Kd.R_drew));exact HO286.out) (Kd.R_base ho0) hb);have n1_:=Aside0.mk (Kd.R_elder' (by (with_reducible repeat (first|apply Kd.R_alloc|apply Kd.R_drewN|apply Kd.R_drew));exact HO290.out) (Kd.R_base ho0) hb);have n2_:=Aside0.mk (Kd.R_lower (Kd.R_new' (Kd.R_new' ho0 (Kd.R_lt (by (with_reducible repeat (first|apply Kd.R_alloc|apply Kd.R_drewN|apply Kd.R_drew));exact HO286.out))) (Kd.R_lt (by (with_reducible repeat (first|apply Kd.R_alloc|apply Kd.R_drewN|apply Kd.R_drew));exact HO290.out))) (below_size (by repeat (first|(with_reducible first|exact HB.out|apply below_alloc|apply pw_below_drewN|apply below_drew1|refine below_set ?_ GE282.out)|exact HB.out))));have n3_:=Aside0.mk (blk_below (g:=gb282) (o:= .cells #[.int .i64 a2_0,.int .i64 a2_1,.int .i64 a2_2,.int .i64 a2_3,.int .i64 a2_4] 25 (0,0)) (by (with_reducible repeat (first|refine blk_drewN ?_ _|refine blk_drew ?_|refine blk_alloc ?_ _));exact BK282.out) hb);have n4_:=Aside0.mk (below_step (by repeat (first|(with_reducible first|exact HB.out|apply below_alloc|apply pw_below_drewN|apply below_drew1|refine below_set ?_ GE282.out)|exact HB.out)) hb);clear HO286;clear HO290;clear BK282;clear HB;have HO286:=n0_;have HO290:=n1_;have HO294:=n2_;have BK282:=n3_;have HB:=n4_;clear n0_ n1_ n2_ n3_ n4_;(try clear hb);(try clear hb2);(try clear hk);(try clear hi);(try clear ho0))))
  (try simp only [Act.put,List.setIfInBounds_toArray,List.set_cons_zero,List.set_cons_succ])
  go_cut [63] (fun v63 wc=> ∃ (kq:Nat) (x63_12:Bool),v63= .bool x63_12∧Aside0 (parquetrylaw19_PlaceAligns.j0 kq a4 t284 t287 t288 t292 x63_12=some r)∧Aside0 (kq≤k)∧Aside0 (Kd.R k42 42 wc w.heap.size (fun k_=>some k_≠(v289:Value).ownBlock∧some k_≠(v293:Value).ownBlock) v285 t284)∧Aside0 (Kd.R k42 42 wc w.heap.size (fun k_=>some k_≠(v285:Value).ownBlock∧some k_≠(v293:Value).ownBlock) v289 t288)∧Aside0 (Kd.R k42 42 wc w.heap.size (fun k_=>some k_≠(v285:Value).ownBlock∧some k_≠(v289:Value).ownBlock) v293 t292)∧Aside0 (wc.heap[gb282]?=some (.cells #[.int .i64 a2_0,.int .i64 a2_1,.int .i64 a2_2,.int .i64 a2_3,.int .i64 a2_4] 25 (0,0)))∧Aside0 (Below w.heap.size w wc))
  case first =>
   have H:=HC13.out
   clear HC13
   by_cases c21:t287=t291
   ·
    rw [if_pos c21] at H
    have c21b0:(t287==t291)=true:=beq_iff_eq.mpr c21
    have c21b1:(t287 !=t291)=false:=bne_eq_false_iff_eq.mpr c21
    clear c21
    (first|rw [c21b0]|(simp only [i64_w,i32_w];rw [c21b0])|skip)
    have H':=Aside0.mk H
    clear H
    go_wp2
    repeat (go_quiet (fail);try go_wp2)
    go_meet
    case rel=>exact ⟨_,((t287 !=t295)),(by first|rfl|(simp;done)|(simp [*];done)),H',⟨by first|omega|exact Nat.le_refl _⟩,⟨by (with_reducible repeat (first|apply Kd.R_alloc|apply Kd.R_drewN|apply Kd.R_drew));exact Kd.R_mono HO286.out (fun _ hk=>⟨hk.1.2,hk.2⟩)⟩,⟨by (with_reducible repeat (first|apply Kd.R_alloc|apply Kd.R_drewN|apply Kd.R_drew));exact Kd.R_mono HO290.out (fun _ hk=>⟨hk.1.2,hk.2⟩)⟩,⟨by (with_reducible repeat (first|apply Kd.R_alloc|apply Kd.R_drewN|apply Kd.R_drew));exact Kd.R_mono HO294.out (fun _ hk=>⟨hk.1.2,hk.2⟩)⟩,⟨by (with_reducible repeat (first|refine blk_drewN ?_ _|refine blk_drew ?_|refine blk_alloc ?_ _));exact BK282.out⟩,⟨by repeat (first|(with_reducible first|exact HB.out|apply below_alloc|apply pw_below_drewN|apply below_drew1|refine below_set ?_ GE282.out)|exact HB.out)⟩⟩
   ·
    rw [if_neg c21] at H
    have c21b0:(t287==t291)=false:=beq_eq_false_iff_ne.mpr c21
    have c21b1:(t287 !=t291)=true:=bne_iff_ne.mpr c21
    (first|rw [c21b0]|(simp only [i64_w,i32_w];rw [c21b0])|skip)
    have H':=Aside0.mk H
    clear H
    go_wp2
    repeat (go_quiet (fail);try go_wp2)
    go_meet
    case rel=>exact ⟨_,(true),(by first|rfl|(simp;done)|(simp [*];done)),H',⟨by first|omega|exact Nat.le_refl _⟩,⟨by (with_reducible repeat (first|apply Kd.R_alloc|apply Kd.R_drewN|apply Kd.R_drew));exact Kd.R_mono HO286.out (fun _ hk=>⟨hk.1.2,hk.2⟩)⟩,⟨by (with_reducible repeat (first|apply Kd.R_alloc|apply Kd.R_drewN|apply Kd.R_drew));exact Kd.R_mono HO290.out (fun _ hk=>⟨hk.1.2,hk.2⟩)⟩,⟨by (with_reducible repeat (first|apply Kd.R_alloc|apply Kd.R_drewN|apply Kd.R_drew));exact Kd.R_mono HO294.out (fun _ hk=>⟨hk.1.2,hk.2⟩)⟩,⟨by (with_reducible repeat (first|refine blk_drewN ?_ _|refine blk_drew ?_|refine blk_alloc ?_ _));exact BK282.out⟩,⟨by repeat (first|(with_reducible first|exact HB.out|apply below_alloc|apply pw_below_drewN|apply below_drew1|refine below_set ?_ GE282.out)|exact HB.out)⟩⟩
  case rest =>
   clear HC13
   try clear c1
   try clear c2
   try clear p2
   try clear c5
   try clear c6
   try clear c6b0
   try clear c6b1
   try clear c21
   try clear c21b0
   try clear c21b1
   try clear hcz15_0
   try clear hcz15_1
   try clear hcz15_2
   try clear hcz15_3
   try clear hcz15_4
   try clear hcz17_0
   try clear hcz17_1
   try clear hcz17_2
   try clear hcz17_3
   try clear hcz17_4
   try clear hcz19_0
   try clear hcz19_1
   try clear hcz19_2
   try clear hcz19_3
   try clear hcz19_4
   try clear hfz15_0
   try clear hfz15_1
   try clear hfz15_2
   try clear hfz15_3
   try clear hfz15_4
   try clear hfz17_0
   try clear hfz17_1
   try clear hfz17_2
   try clear hfz17_3
   try clear hfz17_4
   try clear hfz19_0
   try clear hfz19_1
   try clear hfz19_2
   try clear hfz19_3
   try clear hfz19_4
   obtain ⟨kq,x63_12,rfl,HA,HJ12,HO_11,HO_13,HO_15,BK282,HB⟩:=hcut
   cases kq with
   | zero=>exact absurd HA.out (by simp [parquetrylaw19_PlaceAligns.j0])
   | succ kj12 =>
    have H:=HA.out
    clear HA
    simp only [parquetrylaw19_PlaceAligns.j0] at H
    by_cases c22:x63_12=true
    ·
     subst c22
     have H1:(some false)=some r:=by rw [if_pos rfl] at H;exact H
     clear H
     have H:=H1
     clear H1
     obtain rfl:=Option.some.inj H
     go_wp2
     repeat (go_quiet (fail);try go_wp2)
     go_ret
     exact ⟨by first|rfl|(simp [errW_none,errW_some] <;> rfl)|(simp [*,errW_none,errW_some] <;> rfl),by repeat (first|(with_reducible first|exact HB.out|apply below_alloc|apply pw_below_drewN|apply below_drew1|refine below_set ?_ GE282.out)|exact HB.out)⟩
    ·
     replace c22:=Bool.eq_false_iff.mpr c22
     subst c22
     have H1:(if t287=0 then ((parquetrylaw19_bare.f kj12 t284).bind fun bt297=>((parquetrylaw19_bare.f kj12 t288).bind fun bt301=>((parquetrylaw19_bare.f kj12 t292).bind fun bt305=>(if (bt301.1.length:Int)=(bt297.1.length:Int) then (if (bt305.1.length:Int)=(bt297.1.length:Int) then (if (t284.length:Int)=a4 then (if (t288.length:Int)=a4 then (parquetrylaw19_PlaceAligns.j1 kj12 a4 bt297.1 bt297.2 bt301.1 bt301.2 bt305.1 bt305.2 (bt297.1.length:Int) ((t292.length:Int) !=a4)) else (parquetrylaw19_PlaceAligns.j1 kj12 a4 bt297.1 bt297.2 bt301.1 bt301.2 bt305.1 bt305.2 (bt297.1.length:Int) true)) else (parquetrylaw19_PlaceAligns.j1 kj12 a4 bt297.1 bt297.2 bt301.1 bt301.2 bt305.1 bt305.2 (bt297.1.length:Int) true)) else (parquetrylaw19_PlaceAligns.j1 kj12 a4 bt297.1 bt297.2 bt301.1 bt301.2 bt305.1 bt305.2 (bt297.1.length:Int) true)) else (parquetrylaw19_PlaceAligns.j1 kj12 a4 bt297.1 bt297.2 bt301.1 bt301.2 bt305.1 bt305.2 (bt297.1.length:Int) true))))) else ((parquetrylaw19_awake.f kj12).bind fun t296=>(some t296)))=some r:=by rw [if_neg (show ¬ (false=true) by decide)] at H;exact H
     clear H
     have H:=H1
     clear H1
     by_cases c23:t287=0
     ·
      rw [if_pos c23] at H
      have c23b0:(t287==0)=true:=beq_iff_eq.mpr c23
      have c23b1:(t287 !=0)=false:=bne_eq_false_iff_eq.mpr c23
      clear c23
      replace H:=Option.bind_eq_some_iff.mp H
      obtain ⟨⟨t297,t300⟩,A240,H⟩:=H
      replace H:((parquetrylaw19_bare.f kj12 t288).bind fun bt301=>((parquetrylaw19_bare.f kj12 t292).bind fun bt305=>(if (bt301.1.length:Int)=(t297.length:Int) then (if (bt305.1.length:Int)=(t297.length:Int) then (if (t284.length:Int)=a4 then (if (t288.length:Int)=a4 then (parquetrylaw19_PlaceAligns.j1 kj12 a4 t297 t300 bt301.1 bt301.2 bt305.1 bt305.2 (t297.length:Int) ((t292.length:Int) !=a4)) else (parquetrylaw19_PlaceAligns.j1 kj12 a4 t297 t300 bt301.1 bt301.2 bt305.1 bt305.2 (t297.length:Int) true)) else (parquetrylaw19_PlaceAligns.j1 kj12 a4 t297 t300 bt301.1 bt301.2 bt305.1 bt305.2 (t297.length:Int) true)) else (parquetrylaw19_PlaceAligns.j1 kj12 a4 t297 t300 bt301.1 bt301.2 bt305.1 bt305.2 (t297.length:Int) true)) else (parquetrylaw19_PlaceAligns.j1 kj12 a4 t297 t300 bt301.1 bt301.2 bt305.1 bt305.2 (t297.length:Int) true))))=some r:=H
      have A24:=Aside0.mk A240
      clear A240
      replace H:=Option.bind_eq_some_iff.mp H
      obtain ⟨⟨t301,t304⟩,A250,H⟩:=H
      replace H:((parquetrylaw19_bare.f kj12 t292).bind fun bt305=>(if (t301.length:Int)=(t297.length:Int) then (if (bt305.1.length:Int)=(t297.length:Int) then (if (t284.length:Int)=a4 then (if (t288.length:Int)=a4 then (parquetrylaw19_PlaceAligns.j1 kj12 a4 t297 t300 t301 t304 bt305.1 bt305.2 (t297.length:Int) ((t292.length:Int) !=a4)) else (parquetrylaw19_PlaceAligns.j1 kj12 a4 t297 t300 t301 t304 bt305.1 bt305.2 (t297.length:Int) true)) else (parquetrylaw19_PlaceAligns.j1 kj12 a4 t297 t300 t301 t304 bt305.1 bt305.2 (t297.length:Int) true)) else (parquetrylaw19_PlaceAligns.j1 kj12 a4 t297 t300 t301 t304 bt305.1 bt305.2 (t297.length:Int) true)) else (parquetrylaw19_PlaceAligns.j1 kj12 a4 t297 t300 t301 t304 bt305.1 bt305.2 (t297.length:Int) true)))=some r:=H
      have A25:=Aside0.mk A250
      clear A250
      replace H:=Option.bind_eq_some_iff.mp H
      obtain ⟨⟨t305,t308⟩,A260,H⟩:=H
      replace H:(if (t301.length:Int)=(t297.length:Int) then (if (t305.length:Int)=(t297.length:Int) then (if (t284.length:Int)=a4 then (if (t288.length:Int)=a4 then (parquetrylaw19_PlaceAligns.j1 kj12 a4 t297 t300 t301 t304 t305 t308 (t297.length:Int) ((t292.length:Int) !=a4)) else (parquetrylaw19_PlaceAligns.j1 kj12 a4 t297 t300 t301 t304 t305 t308 (t297.length:Int) true)) else (parquetrylaw19_PlaceAligns.j1 kj12 a4 t297 t300 t301 t304 t305 t308 (t297.length:Int) true)) else (parquetrylaw19_PlaceAligns.j1 kj12 a4 t297 t300 t301 t304 t305 t308 (t297.length:Int) true)) else (parquetrylaw19_PlaceAligns.j1 kj12 a4 t297 t300 t301 t304 t305 t308 (t297.length:Int) true))=some r:=H
      have A26:=Aside0.mk A260
      clear A260
      have HC27:=Aside0.mk H
      clear H
      obtain ⟨Ao28,co28,eo28⟩:=Kd.R_slice HO_11.out
      subst eo28
      go_upto_region 14 with (first|(go_at_call 14;(with_reducible refine (parquetrylaw19_bare.calls kj12 (fun k_=>some k_=(.slice Ao28 t284.length co28:Value).ownBlock) _ _ t284 t297 t300 _ ?side1 A24.out).mono ?_);(case side1=>exact Kd.R_V (Kd.R_tight rfl (Kd.R_types (HO_11.out) BK282.out (by decide))));rintro e w29 ⟨v298,rfl,ho0,hb⟩;have n0_:=Aside0.mk (Kd.R_below (by (with_reducible repeat (first|apply Kd.R_alloc|apply Kd.R_drewN|apply Kd.R_drew));exact HO_11.out) hb);have n1_:=Aside0.mk (Kd.R_below (by (with_reducible repeat (first|apply Kd.R_alloc|apply Kd.R_drewN|apply Kd.R_drew));exact HO_13.out) hb);have n2_:=Aside0.mk (Kd.R_below (by (with_reducible repeat (first|apply Kd.R_alloc|apply Kd.R_drewN|apply Kd.R_drew));exact HO_15.out) hb);have n3_:=Aside0.mk (Kd.V_lower (Kd.V_mono (ok':=fun k_=>some k_≠(v289:Value).ownBlock∧some k_≠(v293:Value).ownBlock∧k_≠gb282) ho0 (fun k_ hk_=>⟨Or.elim hk_ (fun hs_=>((Kd.R_types (HO_11.out) BK282.out (by decide)).1 k_ hs_.symm).1.1) (fun hn_=>(Kd.fresh' (Kd.R_lt (by (with_reducible repeat (first|apply Kd.R_alloc|apply Kd.R_drewN|apply Kd.R_drew));exact HO_13.out)) k_ hn_)),Or.elim hk_ (fun hs_=>((Kd.R_types (HO_11.out) BK282.out (by decide)).1 k_ hs_.symm).1.2) (fun hn_=>(Kd.fresh' (Kd.R_lt (by (with_reducible repeat (first|apply Kd.R_alloc|apply Kd.R_drewN|apply Kd.R_drew));exact HO_15.out)) k_ hn_)),Or.elim hk_ (fun hs_=>((Kd.R_types (HO_11.out) BK282.out (by decide)).1 k_ hs_.symm).2) (fun hn_=>(Kd.freshB (g:=gb282) (o:= .cells #[.int .i64 a2_0,.int .i64 a2_1,.int .i64 a2_2,.int .i64 a2_3,.int .i64 a2_4] 25 (0,0)) (by (with_reducible repeat (first|refine blk_drewN ?_ _|refine blk_drew ?_|refine blk_alloc ?_ _));exact BK282.out) k_ hn_))⟩)) (below_size (by repeat (first|(with_reducible first|exact HB.out|apply below_alloc|apply pw_below_drewN|apply below_drew1|refine below_set ?_ GE282.out)|exact HB.out))));have n4_:=Aside0.mk (blk_below (g:=gb282) (o:= .cells #[.int .i64 a2_0,.int .i64 a2_1,.int .i64 a2_2,.int .i64 a2_3,.int .i64 a2_4] 25 (0,0)) (by (with_reducible repeat (first|refine blk_drewN ?_ _|refine blk_drew ?_|refine blk_alloc ?_ _));exact BK282.out) hb);have n5_:=Aside0.mk (below_step (by repeat (first|(with_reducible first|exact HB.out|apply below_alloc|apply pw_below_drewN|apply below_drew1|refine below_set ?_ GE282.out)|exact HB.out)) hb);clear HO_11;clear HO_13;clear HO_15;clear BK282;clear HB;have HO_11:=n0_;have HO_13:=n1_;have HO_15:=n2_;have HO299:=n3_;have BK282:=n4_;have HB:=n5_;clear n0_ n1_ n2_ n3_ n4_ n5_;(try clear hb);(try clear hb2);(try clear hk);(try clear hi);(try clear ho0);obtain ⟨Ao30,co30,eo30⟩:=Kd.R_slice HO_13.out;subst eo30)|(go_at_call 14;(with_reducible refine (parquetrylaw19_bare.calls kj12 (fun k_=>some k_=(.slice Ao30 t288.length co30:Value).ownBlock) _ _ t288 t301 t304 _ ?side1 A25.out).mono ?_);(case side1=>exact Kd.R_V (Kd.R_tight rfl (Kd.R_types (HO_13.out) BK282.out (by decide))));rintro e w31 ⟨v302,rfl,ho0,hb⟩;have n0_:=Aside0.mk (Kd.R_below (by (with_reducible repeat (first|apply Kd.R_alloc|apply Kd.R_drewN|apply Kd.R_drew));exact HO_11.out) hb);have n1_:=Aside0.mk (Kd.R_below (by (with_reducible repeat (first|apply Kd.R_alloc|apply Kd.R_drewN|apply Kd.R_drew));exact HO_13.out) hb);have n2_:=Aside0.mk (Kd.R_below (by (with_reducible repeat (first|apply Kd.R_alloc|apply Kd.R_drewN|apply Kd.R_drew));exact HO_15.out) hb);have n3_:=Aside0.mk (Kd.V_below (by (with_reducible repeat (first|apply Kd.V_alloc|apply Kd.V_drewN|apply Kd.V_drew));exact HO299.out) hb);have n4_:=Aside0.mk (Kd.V_lower (Kd.V_mono (ok':=fun k_=>some k_≠(.slice Ao28 t284.length co28:Value).ownBlock∧some k_≠(v293:Value).ownBlock∧k_≠gb282) ho0 (fun k_ hk_=>⟨Or.elim hk_ (fun hs_=>((Kd.R_types (HO_13.out) BK282.out (by decide)).1 k_ hs_.symm).1.1) (fun hn_=>(Kd.fresh' (Kd.R_lt (by (with_reducible repeat (first|apply Kd.R_alloc|apply Kd.R_drewN|apply Kd.R_drew));exact HO_11.out)) k_ hn_)),Or.elim hk_ (fun hs_=>((Kd.R_types (HO_13.out) BK282.out (by decide)).1 k_ hs_.symm).1.2) (fun hn_=>(Kd.fresh' (Kd.R_lt (by (with_reducible repeat (first|apply Kd.R_alloc|apply Kd.R_drewN|apply Kd.R_drew));exact HO_15.out)) k_ hn_)),Or.elim hk_ (fun hs_=>((Kd.R_types (HO_13.out) BK282.out (by decide)).1 k_ hs_.symm).2) (fun hn_=>(Kd.freshB (g:=gb282) (o:= .cells #[.int .i64 a2_0,.int .i64 a2_1,.int .i64 a2_2,.int .i64 a2_3,.int .i64 a2_4] 25 (0,0)) (by (with_reducible repeat (first|refine blk_drewN ?_ _|refine blk_drew ?_|refine blk_alloc ?_ _));exact BK282.out) k_ hn_))⟩)) (below_size (by repeat (first|(with_reducible first|exact HB.out|apply below_alloc|apply pw_below_drewN|apply below_drew1|refine below_set ?_ GE282.out)|exact HB.out))));have n5_:=Aside0.mk (blk_below (g:=gb282) (o:= .cells #[.int .i64 a2_0,.int .i64 a2_1,.int .i64 a2_2,.int .i64 a2_3,.int .i64 a2_4] 25 (0,0)) (by (with_reducible repeat (first|refine blk_drewN ?_ _|refine blk_drew ?_|refine blk_alloc ?_ _));exact BK282.out) hb);have n6_:=Aside0.mk (below_step (by repeat (first|(with_reducible first|exact HB.out|apply below_alloc|apply pw_below_drewN|apply below_drew1|refine below_set ?_ GE282.out)|exact HB.out)) hb);clear HO_11;clear HO_13;clear HO_15;clear HO299;clear BK282;clear HB;have HO_11:=n0_;have HO_13:=n1_;have HO_15:=n2_;have HO299:=n3_;have HO303:=n4_;have BK282:=n5_;have HB:=n6_;clear n0_ n1_ n2_ n3_ n4_ n5_ n6_;(try clear hb);(try clear hb2);(try clear hk);(try clear hi);(try clear ho0);obtain ⟨Ao32,co32,eo32⟩:=Kd.R_slice HO_15.out;subst eo32)|(go_at_call 14;(with_reducible refine (parquetrylaw19_bare.calls kj12 (fun k_=>some k_=(.slice Ao32 t292.length co32:Value).ownBlock) _ _ t292 t305 t308 _ ?side1 A26.out).mono ?_);(case side1=>exact Kd.R_V (Kd.R_tight rfl (Kd.R_types (HO_15.out) BK282.out (by decide))));rintro e w33 ⟨v306,rfl,ho0,hb⟩;have n0_:=Aside0.mk (Kd.R_below (by (with_reducible repeat (first|apply Kd.R_alloc|apply Kd.R_drewN|apply Kd.R_drew));exact HO_11.out) hb);have n1_:=Aside0.mk (Kd.R_below (by (with_reducible repeat (first|apply Kd.R_alloc|apply Kd.R_drewN|apply Kd.R_drew));exact HO_13.out) hb);have n2_:=Aside0.mk (Kd.R_below (by (with_reducible repeat (first|apply Kd.R_alloc|apply Kd.R_drewN|apply Kd.R_drew));exact HO_15.out) hb);have n3_:=Aside0.mk (Kd.V_below (by (with_reducible repeat (first|apply Kd.V_alloc|apply Kd.V_drewN|apply Kd.V_drew));exact HO299.out) hb);have n4_:=Aside0.mk (Kd.V_below (by (with_reducible repeat (first|apply Kd.V_alloc|apply Kd.V_drewN|apply Kd.V_drew));exact HO303.out) hb);have n5_:=Aside0.mk (Kd.V_lower (Kd.V_mono (ok':=fun k_=>some k_≠(.slice Ao28 t284.length co28:Value).ownBlock∧some k_≠(.slice Ao30 t288.length co30:Value).ownBlock∧k_≠gb282) ho0 (fun k_ hk_=>⟨Or.elim hk_ (fun hs_=>((Kd.R_types (HO_15.out) BK282.out (by decide)).1 k_ hs_.symm).1.1) (fun hn_=>(Kd.fresh' (Kd.R_lt (by (with_reducible repeat (first|apply Kd.R_alloc|apply Kd.R_drewN|apply Kd.R_drew));exact HO_11.out)) k_ hn_)),Or.elim hk_ (fun hs_=>((Kd.R_types (HO_15.out) BK282.out (by decide)).1 k_ hs_.symm).1.2) (fun hn_=>(Kd.fresh' (Kd.R_lt (by (with_reducible repeat (first|apply Kd.R_alloc|apply Kd.R_drewN|apply Kd.R_drew));exact HO_13.out)) k_ hn_)),Or.elim hk_ (fun hs_=>((Kd.R_types (HO_15.out) BK282.out (by decide)).1 k_ hs_.symm).2) (fun hn_=>(Kd.freshB (g:=gb282) (o:= .cells #[.int .i64 a2_0,.int .i64 a2_1,.int .i64 a2_2,.int .i64 a2_3,.int .i64 a2_4] 25 (0,0)) (by (with_reducible repeat (first|refine blk_drewN ?_ _|refine blk_drew ?_|refine blk_alloc ?_ _));exact BK282.out) k_ hn_))⟩)) (below_size (by repeat (first|(with_reducible first|exact HB.out|apply below_alloc|apply pw_below_drewN|apply below_drew1|refine below_set ?_ GE282.out)|exact HB.out))));have n6_:=Aside0.mk (blk_below (g:=gb282) (o:= .cells #[.int .i64 a2_0,.int .i64 a2_1,.int .i64 a2_2,.int .i64 a2_3,.int .i64 a2_4] 25 (0,0)) (by (with_reducible repeat (first|refine blk_drewN ?_ _|refine blk_drew ?_|refine blk_alloc ?_ _));exact BK282.out) hb);have n7_:=Aside0.mk (below_step (by repeat (first|(with_reducible first|exact HB.out|apply below_alloc|apply pw_below_drewN|apply below_drew1|refine below_set ?_ GE282.out)|exact HB.out)) hb);clear HO_11;clear HO_13;clear HO_15;clear HO299;clear HO303;clear BK282;clear HB;have HO_11:=n0_;have HO_13:=n1_;have HO_15:=n2_;have HO299:=n3_;have HO303:=n4_;have HO307:=n5_;have BK282:=n6_;have HB:=n7_;clear n0_ n1_ n2_ n3_ n4_ n5_ n6_ n7_;(try clear hb);(try clear hb2);(try clear hk);(try clear hi);(try clear ho0);obtain ⟨Ao34,co34,eo34⟩:=Kd.V_slice HO299.out;subst eo34))
      repeat (go_quiet (first|(go_at_call 14;(with_reducible refine (parquetrylaw19_bare.calls kj12 (fun k_=>some k_=(.slice Ao28 t284.length co28:Value).ownBlock) _ _ t284 t297 t300 _ ?side1 A24.out).mono ?_);(case side1=>exact Kd.R_V (Kd.R_tight rfl (Kd.R_types (HO_11.out) BK282.out (by decide))));rintro e w29 ⟨v298,rfl,ho0,hb⟩;have n0_:=Aside0.mk (Kd.R_below (by (with_reducible repeat (first|apply Kd.R_alloc|apply Kd.R_drewN|apply Kd.R_drew));exact HO_11.out) hb);have n1_:=Aside0.mk (Kd.R_below (by (with_reducible repeat (first|apply Kd.R_alloc|apply Kd.R_drewN|apply Kd.R_drew));exact HO_13.out) hb);have n2_:=Aside0.mk (Kd.R_below (by (with_reducible repeat (first|apply Kd.R_alloc|apply Kd.R_drewN|apply Kd.R_drew));exact HO_15.out) hb);have n3_:=Aside0.mk (Kd.V_lower (Kd.V_mono (ok':=fun k_=>some k_≠(v289:Value).ownBlock∧some k_≠(v293:Value).ownBlock∧k_≠gb282) ho0 (fun k_ hk_=>⟨Or.elim hk_ (fun hs_=>((Kd.R_types (HO_11.out) BK282.out (by decide)).1 k_ hs_.symm).1.1) (fun hn_=>(Kd.fresh' (Kd.R_lt (by (with_reducible repeat (first|apply Kd.R_alloc|apply Kd.R_drewN|apply Kd.R_drew));exact HO_13.out)) k_ hn_)),Or.elim hk_ (fun hs_=>((Kd.R_types (HO_11.out) BK282.out (by decide)).1 k_ hs_.symm).1.2) (fun hn_=>(Kd.fresh' (Kd.R_lt (by (with_reducible repeat (first|apply Kd.R_alloc|apply Kd.R_drewN|apply Kd.R_drew));exact HO_15.out)) k_ hn_)),Or.elim hk_ (fun hs_=>((Kd.R_types (HO_11.out) BK282.out (by decide)).1 k_ hs_.symm).2) (fun hn_=>(Kd.freshB (g:=gb282) (o:= .cells #[.int .i64 a2_0,.int .i64 a2_1,.int .i64 a2_2,.int .i64 a2_3,.int .i64 a2_4] 25 (0,0)) (by (with_reducible repeat (first|refine blk_drewN ?_ _|refine blk_drew ?_|refine blk_alloc ?_ _));exact BK282.out) k_ hn_))⟩)) (below_size (by repeat (first|(with_reducible first|exact HB.out|apply below_alloc|apply pw_below_drewN|apply below_drew1|refine below_set ?_ GE282.out)|exact HB.out))));have n4_:=Aside0.mk (blk_below (g:=gb282) (o:= .cells #[.int .i64 a2_0,.int .i64 a2_1,.int .i64 a2_2,.int .i64 a2_3,.int .i64 a2_4] 25 (0,0)) (by (with_reducible repeat (first|refine blk_drewN ?_ _|refine blk_drew ?_|refine blk_alloc ?_ _));exact BK282.out) hb);have n5_:=Aside0.mk (below_step (by repeat (first|(with_reducible first|exact HB.out|apply below_alloc|apply pw_below_drewN|apply below_drew1|refine below_set ?_ GE282.out)|exact HB.out)) hb);clear HO_11;clear HO_13;clear HO_15;clear BK282;clear HB;have HO_11:=n0_;have HO_13:=n1_;have HO_15:=n2_;have HO299:=n3_;have BK282:=n4_;have HB:=n5_;clear n0_ n1_ n2_ n3_ n4_ n5_;(try clear hb);(try clear hb2);(try clear hk);(try clear hi);(try clear ho0);obtain ⟨Ao30,co30,eo30⟩:=Kd.R_slice HO_13.out;subst eo30)|(go_at_call 14;(with_reducible refine (parquetrylaw19_bare.calls kj12 (fun k_=>some k_=(.slice Ao30 t288.length co30:Value).ownBlock) _ _ t288 t301 t304 _ ?side1 A25.out).mono ?_);(case side1=>exact Kd.R_V (Kd.R_tight rfl (Kd.R_types (HO_13.out) BK282.out (by decide))));rintro e w31 ⟨v302,rfl,ho0,hb⟩;have n0_:=Aside0.mk (Kd.R_below (by (with_reducible repeat (first|apply Kd.R_alloc|apply Kd.R_drewN|apply Kd.R_drew));exact HO_11.out) hb);have n1_:=Aside0.mk (Kd.R_below (by (with_reducible repeat (first|apply Kd.R_alloc|apply Kd.R_drewN|apply Kd.R_drew));exact HO_13.out) hb);have n2_:=Aside0.mk (Kd.R_below (by (with_reducible repeat (first|apply Kd.R_alloc|apply Kd.R_drewN|apply Kd.R_drew));exact HO_15.out) hb);have n3_:=Aside0.mk (Kd.V_below (by (with_reducible repeat (first|apply Kd.V_alloc|apply Kd.V_drewN|apply Kd.V_drew));exact HO299.out) hb);have n4_:=Aside0.mk (Kd.V_lower (Kd.V_mono (ok':=fun k_=>some k_≠(.slice Ao28 t284.length co28:Value).ownBlock∧some k_≠(v293:Value).ownBlock∧k_≠gb282) ho0 (fun k_ hk_=>⟨Or.elim hk_ (fun hs_=>((Kd.R_types (HO_13.out) BK282.out (by decide)).1 k_ hs_.symm).1.1) (fun hn_=>(Kd.fresh' (Kd.R_lt (by (with_reducible repeat (first|apply Kd.R_alloc|apply Kd.R_drewN|apply Kd.R_drew));exact HO_11.out)) k_ hn_)),Or.elim hk_ (fun hs_=>((Kd.R_types (HO_13.out) BK282.out (by decide)).1 k_ hs_.symm).1.2) (fun hn_=>(Kd.fresh' (Kd.R_lt (by (with_reducible repeat (first|apply Kd.R_alloc|apply Kd.R_drewN|apply Kd.R_drew));exact HO_15.out)) k_ hn_)),Or.elim hk_ (fun hs_=>((Kd.R_types (HO_13.out) BK282.out (by decide)).1 k_ hs_.symm).2) (fun hn_=>(Kd.freshB (g:=gb282) (o:= .cells #[.int .i64 a2_0,.int .i64 a2_1,.int .i64 a2_2,.int .i64 a2_3,.int .i64 a2_4] 25 (0,0)) (by (with_reducible repeat (first|refine blk_drewN ?_ _|refine blk_drew ?_|refine blk_alloc ?_ _));exact BK282.out) k_ hn_))⟩)) (below_size (by repeat (first|(with_reducible first|exact HB.out|apply below_alloc|apply pw_below_drewN|apply below_drew1|refine below_set ?_ GE282.out)|exact HB.out))));have n5_:=Aside0.mk (blk_below (g:=gb282) (o:= .cells #[.int .i64 a2_0,.int .i64 a2_1,.int .i64 a2_2,.int .i64 a2_3,.int .i64 a2_4] 25 (0,0)) (by (with_reducible repeat (first|refine blk_drewN ?_ _|refine blk_drew ?_|refine blk_alloc ?_ _));exact BK282.out) hb);have n6_:=Aside0.mk (below_step (by repeat (first|(with_reducible first|exact HB.out|apply below_alloc|apply pw_below_drewN|apply below_drew1|refine below_set ?_ GE282.out)|exact HB.out)) hb);clear HO_11;clear HO_13;clear HO_15;clear HO299;clear BK282;clear HB;have HO_11:=n0_;have HO_13:=n1_;have HO_15:=n2_;have HO299:=n3_;have HO303:=n4_;have BK282:=n5_;have HB:=n6_;clear n0_ n1_ n2_ n3_ n4_ n5_ n6_;(try clear hb);(try clear hb2);(try clear hk);(try clear hi);(try clear ho0);obtain ⟨Ao32,co32,eo32⟩:=Kd.R_slice HO_15.out;subst eo32)|(go_at_call 14;(with_reducible refine (parquetrylaw19_bare.calls kj12 (fun k_=>some k_=(.slice Ao32 t292.length co32:Value).ownBlock) _ _ t292 t305 t308 _ ?side1 A26.out).mono ?_);(case side1=>exact Kd.R_V (Kd.R_tight rfl (Kd.R_types (HO_15.out) BK282.out (by decide))));rintro e w33 ⟨v306,rfl,ho0,hb⟩;have n0_:=Aside0.mk (Kd.R_below (by (with_reducible repeat (first|apply Kd.R_alloc|apply Kd.R_drewN|apply Kd.R_drew));exact HO_11.out) hb);have n1_:=Aside0.mk (Kd.R_below (by (with_reducible repeat (first|apply Kd.R_alloc|apply Kd.R_drewN|apply Kd.R_drew));exact HO_13.out) hb);have n2_:=Aside0.mk (Kd.R_below (by (with_reducible repeat (first|apply Kd.R_alloc|apply Kd.R_drewN|apply Kd.R_drew));exact HO_15.out) hb);have n3_:=Aside0.mk (Kd.V_below (by (with_reducible repeat (first|apply Kd.V_alloc|apply Kd.V_drewN|apply Kd.V_drew));exact HO299.out) hb);have n4_:=Aside0.mk (Kd.V_below (by (with_reducible repeat (first|apply Kd.V_alloc|apply Kd.V_drewN|apply Kd.V_drew));exact HO303.out) hb);have n5_:=Aside0.mk (Kd.V_lower (Kd.V_mono (ok':=fun k_=>some k_≠(.slice Ao28 t284.length co28:Value).ownBlock∧some k_≠(.slice Ao30 t288.length co30:Value).ownBlock∧k_≠gb282) ho0 (fun k_ hk_=>⟨Or.elim hk_ (fun hs_=>((Kd.R_types (HO_15.out) BK282.out (by decide)).1 k_ hs_.symm).1.1) (fun hn_=>(Kd.fresh' (Kd.R_lt (by (with_reducible repeat (first|apply Kd.R_alloc|apply Kd.R_drewN|apply Kd.R_drew));exact HO_11.out)) k_ hn_)),Or.elim hk_ (fun hs_=>((Kd.R_types (HO_15.out) BK282.out (by decide)).1 k_ hs_.symm).1.2) (fun hn_=>(Kd.fresh' (Kd.R_lt (by (with_reducible repeat (first|apply Kd.R_alloc|apply Kd.R_drewN|apply Kd.R_drew));exact HO_13.out)) k_ hn_)),Or.elim hk_ (fun hs_=>((Kd.R_types (HO_15.out) BK282.out (by decide)).1 k_ hs_.symm).2) (fun hn_=>(Kd.freshB (g:=gb282) (o:= .cells #[.int .i64 a2_0,.int .i64 a2_1,.int .i64 a2_2,.int .i64 a2_3,.int .i64 a2_4] 25 (0,0)) (by (with_reducible repeat (first|refine blk_drewN ?_ _|refine blk_drew ?_|refine blk_alloc ?_ _));exact BK282.out) k_ hn_))⟩)) (below_size (by repeat (first|(with_reducible first|exact HB.out|apply below_alloc|apply pw_below_drewN|apply below_drew1|refine below_set ?_ GE282.out)|exact HB.out))));have n6_:=Aside0.mk (blk_below (g:=gb282) (o:= .cells #[.int .i64 a2_0,.int .i64 a2_1,.int .i64 a2_2,.int .i64 a2_3,.int .i64 a2_4] 25 (0,0)) (by (with_reducible repeat (first|refine blk_drewN ?_ _|refine blk_drew ?_|refine blk_alloc ?_ _));exact BK282.out) hb);have n7_:=Aside0.mk (below_step (by repeat (first|(with_reducible first|exact HB.out|apply below_alloc|apply pw_below_drewN|apply below_drew1|refine below_set ?_ GE282.out)|exact HB.out)) hb);clear HO_11;clear HO_13;clear HO_15;clear HO299;clear HO303;clear BK282;clear HB;have HO_11:=n0_;have HO_13:=n1_;have HO_15:=n2_;have HO299:=n3_;have HO303:=n4_;have HO307:=n5_;have BK282:=n6_;have HB:=n7_;clear n0_ n1_ n2_ n3_ n4_ n5_ n6_ n7_;(try clear hb);(try clear hb2);(try clear hk);(try clear hi);(try clear ho0);obtain ⟨Ao34,co34,eo34⟩:=Kd.V_slice HO299.out;subst eo34));go_upto_region 14 with (first|(go_at_call 14;(with_reducible refine (parquetrylaw19_bare.calls kj12 (fun k_=>some k_=(.slice Ao28 t284.length co28:Value).ownBlock) _ _ t284 t297 t300 _ ?side1 A24.out).mono ?_);(case side1=>exact Kd.R_V (Kd.R_tight rfl (Kd.R_types (HO_11.out) BK282.out (by decide))));rintro e w29 ⟨v298,rfl,ho0,hb⟩;have n0_:=Aside0.mk (Kd.R_below (by (with_reducible repeat (first|apply Kd.R_alloc|apply Kd.R_drewN|apply Kd.R_drew));exact HO_11.out) hb);have n1_:=Aside0.mk (Kd.R_below (by (with_reducible repeat (first|apply Kd.R_alloc|apply Kd.R_drewN|apply Kd.R_drew));exact HO_13.out) hb);have n2_:=Aside0.mk (Kd.R_below (by (with_reducible repeat (first|apply Kd.R_alloc|apply Kd.R_drewN|apply Kd.R_drew));exact HO_15.out) hb);have n3_:=Aside0.mk (Kd.V_lower (Kd.V_mono (ok':=fun k_=>some k_≠(v289:Value).ownBlock∧some k_≠(v293:Value).ownBlock∧k_≠gb282) ho0 (fun k_ hk_=>⟨Or.elim hk_ (fun hs_=>((Kd.R_types (HO_11.out) BK282.out (by decide)).1 k_ hs_.symm).1.1) (fun hn_=>(Kd.fresh' (Kd.R_lt (by (with_reducible repeat (first|apply Kd.R_alloc|apply Kd.R_drewN|apply Kd.R_drew));exact HO_13.out)) k_ hn_)),Or.elim hk_ (fun hs_=>((Kd.R_types (HO_11.out) BK282.out (by decide)).1 k_ hs_.symm).1.2) (fun hn_=>(Kd.fresh' (Kd.R_lt (by (with_reducible repeat (first|apply Kd.R_alloc|apply Kd.R_drewN|apply Kd.R_drew));exact HO_15.out)) k_ hn_)),Or.elim hk_ (fun hs_=>((Kd.R_types (HO_11.out) BK282.out (by decide)).1 k_ hs_.symm).2) (fun hn_=>(Kd.freshB (g:=gb282) (o:= .cells #[.int .i64 a2_0,.int .i64 a2_1,.int .i64 a2_2,.int .i64 a2_3,.int .i64 a2_4] 25 (0,0)) (by (with_reducible repeat (first|refine blk_drewN ?_ _|refine blk_drew ?_|refine blk_alloc ?_ _));exact BK282.out) k_ hn_))⟩)) (below_size (by repeat (first|(with_reducible first|exact HB.out|apply below_alloc|apply pw_below_drewN|apply below_drew1|refine below_set ?_ GE282.out)|exact HB.out))));have n4_:=Aside0.mk (blk_below (g:=gb282) (o:= .cells #[.int .i64 a2_0,.int .i64 a2_1,.int .i64 a2_2,.int .i64 a2_3,.int .i64 a2_4] 25 (0,0)) (by (with_reducible repeat (first|refine blk_drewN ?_ _|refine blk_drew ?_|refine blk_alloc ?_ _));exact BK282.out) hb);have n5_:=Aside0.mk (below_step (by repeat (first|(with_reducible first|exact HB.out|apply below_alloc|apply pw_below_drewN|apply below_drew1|refine below_set ?_ GE282.out)|exact HB.out)) hb);clear HO_11;clear HO_13;clear HO_15;clear BK282;clear HB;have HO_11:=n0_;have HO_13:=n1_;have HO_15:=n2_;have HO299:=n3_;have BK282:=n4_;have HB:=n5_;clear n0_ n1_ n2_ n3_ n4_ n5_;(try clear hb);(try clear hb2);(try clear hk);(try clear hi);(try clear ho0);obtain ⟨Ao30,co30,eo30⟩:=Kd.R_slice HO_13.out;subst eo30)|(go_at_call 14;(with_reducible refine (parquetrylaw19_bare.calls kj12 (fun k_=>some k_=(.slice Ao30 t288.length co30:Value).ownBlock) _ _ t288 t301 t304 _ ?side1 A25.out).mono ?_);(case side1=>exact Kd.R_V (Kd.R_tight rfl (Kd.R_types (HO_13.out) BK282.out (by decide))));rintro e w31 ⟨v302,rfl,ho0,hb⟩;have n0_:=Aside0.mk (Kd.R_below (by (with_reducible repeat (first|apply Kd.R_alloc|apply Kd.R_drewN|apply Kd.R_drew));exact HO_11.out) hb);have n1_:=Aside0.mk (Kd.R_below (by (with_reducible repeat (first|apply Kd.R_alloc|apply Kd.R_drewN|apply Kd.R_drew));exact HO_13.out) hb);have n2_:=Aside0.mk (Kd.R_below (by (with_reducible repeat (first|apply Kd.R_alloc|apply Kd.R_drewN|apply Kd.R_drew));exact HO_15.out) hb);have n3_:=Aside0.mk (Kd.V_below (by (with_reducible repeat (first|apply Kd.V_alloc|apply Kd.V_drewN|apply Kd.V_drew));exact HO299.out) hb);have n4_:=Aside0.mk (Kd.V_lower (Kd.V_mono (ok':=fun k_=>some k_≠(.slice Ao28 t284.length co28:Value).ownBlock∧some k_≠(v293:Value).ownBlock∧k_≠gb282) ho0 (fun k_ hk_=>⟨Or.elim hk_ (fun hs_=>((Kd.R_types (HO_13.out) BK282.out (by decide)).1 k_ hs_.symm).1.1) (fun hn_=>(Kd.fresh' (Kd.R_lt (by (with_reducible repeat (first|apply Kd.R_alloc|apply Kd.R_drewN|apply Kd.R_drew));exact HO_11.out)) k_ hn_)),Or.elim hk_ (fun hs_=>((Kd.R_types (HO_13.out) BK282.out (by decide)).1 k_ hs_.symm).1.2) (fun hn_=>(Kd.fresh' (Kd.R_lt (by (with_reducible repeat (first|apply Kd.R_alloc|apply Kd.R_drewN|apply Kd.R_drew));exact HO_15.out)) k_ hn_)),Or.elim hk_ (fun hs_=>((Kd.R_types (HO_13.out) BK282.out (by decide)).1 k_ hs_.symm).2) (fun hn_=>(Kd.freshB (g:=gb282) (o:= .cells #[.int .i64 a2_0,.int .i64 a2_1,.int .i64 a2_2,.int .i64 a2_3,.int .i64 a2_4] 25 (0,0)) (by (with_reducible repeat (first|refine blk_drewN ?_ _|refine blk_drew ?_|refine blk_alloc ?_ _));exact BK282.out) k_ hn_))⟩)) (below_size (by repeat (first|(with_reducible first|exact HB.out|apply below_alloc|apply pw_below_drewN|apply below_drew1|refine below_set ?_ GE282.out)|exact HB.out))));have n5_:=Aside0.mk (blk_below (g:=gb282) (o:= .cells #[.int .i64 a2_0,.int .i64 a2_1,.int .i64 a2_2,.int .i64 a2_3,.int .i64 a2_4] 25 (0,0)) (by (with_reducible repeat (first|refine blk_drewN ?_ _|refine blk_drew ?_|refine blk_alloc ?_ _));exact BK282.out) hb);have n6_:=Aside0.mk (below_step (by repeat (first|(with_reducible first|exact HB.out|apply below_alloc|apply pw_below_drewN|apply below_drew1|refine below_set ?_ GE282.out)|exact HB.out)) hb);clear HO_11;clear HO_13;clear HO_15;clear HO299;clear BK282;clear HB;have HO_11:=n0_;have HO_13:=n1_;have HO_15:=n2_;have HO299:=n3_;have HO303:=n4_;have BK282:=n5_;have HB:=n6_;clear n0_ n1_ n2_ n3_ n4_ n5_ n6_;(try clear hb);(try clear hb2);(try clear hk);(try clear hi);(try clear ho0);obtain ⟨Ao32,co32,eo32⟩:=Kd.R_slice HO_15.out;subst eo32)|(go_at_call 14;(with_reducible refine (parquetrylaw19_bare.calls kj12 (fun k_=>some k_=(.slice Ao32 t292.length co32:Value).ownBlock) _ _ t292 t305 t308 _ ?side1 A26.out).mono ?_);(case side1=>exact Kd.R_V (Kd.R_tight rfl (Kd.R_types (HO_15.out) BK282.out (by decide))));rintro e w33 ⟨v306,rfl,ho0,hb⟩;have n0_:=Aside0.mk (Kd.R_below (by (with_reducible repeat (first|apply Kd.R_alloc|apply Kd.R_drewN|apply Kd.R_drew));exact HO_11.out) hb);have n1_:=Aside0.mk (Kd.R_below (by (with_reducible repeat (first|apply Kd.R_alloc|apply Kd.R_drewN|apply Kd.R_drew));exact HO_13.out) hb);have n2_:=Aside0.mk (Kd.R_below (by (with_reducible repeat (first|apply Kd.R_alloc|apply Kd.R_drewN|apply Kd.R_drew));exact HO_15.out) hb);have n3_:=Aside0.mk (Kd.V_below (by (with_reducible repeat (first|apply Kd.V_alloc|apply Kd.V_drewN|apply Kd.V_drew));exact HO299.out) hb);have n4_:=Aside0.mk (Kd.V_below (by (with_reducible repeat (first|apply Kd.V_alloc|apply Kd.V_drewN|apply Kd.V_drew));exact HO303.out) hb);have n5_:=Aside0.mk (Kd.V_lower (Kd.V_mono (ok':=fun k_=>some k_≠(.slice Ao28 t284.length co28:Value).ownBlock∧some k_≠(.slice Ao30 t288.length co30:Value).ownBlock∧k_≠gb282) ho0 (fun k_ hk_=>⟨Or.elim hk_ (fun hs_=>((Kd.R_types (HO_15.out) BK282.out (by decide)).1 k_ hs_.symm).1.1) (fun hn_=>(Kd.fresh' (Kd.R_lt (by (with_reducible repeat (first|apply Kd.R_alloc|apply Kd.R_drewN|apply Kd.R_drew));exact HO_11.out)) k_ hn_)),Or.elim hk_ (fun hs_=>((Kd.R_types (HO_15.out) BK282.out (by decide)).1 k_ hs_.symm).1.2) (fun hn_=>(Kd.fresh' (Kd.R_lt (by (with_reducible repeat (first|apply Kd.R_alloc|apply Kd.R_drewN|apply Kd.R_drew));exact HO_13.out)) k_ hn_)),Or.elim hk_ (fun hs_=>((Kd.R_types (HO_15.out) BK282.out (by decide)).1 k_ hs_.symm).2) (fun hn_=>(Kd.freshB (g:=gb282) (o:= .cells #[.int .i64 a2_0,.int .i64 a2_1,.int .i64 a2_2,.int .i64 a2_3,.int .i64 a2_4] 25 (0,0)) (by (with_reducible repeat (first|refine blk_drewN ?_ _|refine blk_drew ?_|refine blk_alloc ?_ _));exact BK282.out) k_ hn_))⟩)) (below_size (by repeat (first|(with_reducible first|exact HB.out|apply below_alloc|apply pw_below_drewN|apply below_drew1|refine below_set ?_ GE282.out)|exact HB.out))));have n6_:=Aside0.mk (blk_below (g:=gb282) (o:= .cells #[.int .i64 a2_0,.int .i64 a2_1,.int .i64 a2_2,.int .i64 a2_3,.int .i64 a2_4] 25 (0,0)) (by (with_reducible repeat (first|refine blk_drewN ?_ _|refine blk_drew ?_|refine blk_alloc ?_ _));exact BK282.out) hb);have n7_:=Aside0.mk (below_step (by repeat (first|(with_reducible first|exact HB.out|apply below_alloc|apply pw_below_drewN|apply below_drew1|refine below_set ?_ GE282.out)|exact HB.out)) hb);clear HO_11;clear HO_13;clear HO_15;clear HO299;clear HO303;clear BK282;clear HB;have HO_11:=n0_;have HO_13:=n1_;have HO_15:=n2_;have HO299:=n3_;have HO303:=n4_;have HO307:=n5_;have BK282:=n6_;have HB:=n7_;clear n0_ n1_ n2_ n3_ n4_ n5_ n6_ n7_;(try clear hb);(try clear hb2);(try clear hk);(try clear hi);(try clear ho0);obtain ⟨Ao34,co34,eo34⟩:=Kd.V_slice HO299.out;subst eo34)))
      (try simp only [Act.put,List.setIfInBounds_toArray,List.set_cons_zero,List.set_cons_succ])
      go_cut [111] (fun v111 wc=> ∃ (kq:Nat) (x111_26:Bool),v111= .bool x111_26∧Aside0 (parquetrylaw19_PlaceAligns.j1 kq a4 t297 t300 t301 t304 t305 t308 (t297.length:Int) x111_26=some r)∧Aside0 (kq≤kj12)∧Aside0 (Kd.V k42 42 wc w.heap.size (fun k_=>k_≠gb282) (.slice Ao34 t297.length co34) t297)∧Aside0 (Kd.V k42 42 wc w.heap.size (fun k_=>k_≠gb282) v302 t301)∧Aside0 (Kd.V k42 42 wc w.heap.size (fun k_=>k_≠gb282) v306 t305)∧Aside0 (wc.heap[gb282]?=some (.cells #[.int .i64 a2_0,.int .i64 a2_1,.int .i64 a2_2,.int .i64 a2_3,.int .i64 a2_4] 25 (0,0)))∧Aside0 (Below w.heap.size w wc))
      case first =>
       have H:=HC27.out
       clear HC27
       by_cases c35:(t301.length:Int)=(t297.length:Int)
       ·
        rw [if_pos c35] at H
        have c35b0:((t301.length:Int)==(t297.length:Int))=true:=beq_iff_eq.mpr c35
        have c35b1:((t301.length:Int) !=(t297.length:Int))=false:=bne_eq_false_iff_eq.mpr c35
        have c35b2:(t301.length==t297.length)=true:=by first|simpa using c35|(simp at c35 ⊢;omega)
        clear c35
        (first|rw [c35b0]|(simp only [i64_w,i32_w];rw [c35b0])|skip)
        by_cases c36:(t305.length:Int)=(t297.length:Int)
        ·
         rw [if_pos c36] at H
         have c36b0:((t305.length:Int)==(t297.length:Int))=true:=beq_iff_eq.mpr c36
         have c36b1:((t305.length:Int) !=(t297.length:Int))=false:=bne_eq_false_iff_eq.mpr c36
         have c36b2:(t305.length==t297.length)=true:=by first|simpa using c36|(simp at c36 ⊢;omega)
         clear c36
         by_cases c37:(t284.length:Int)=a4
         ·
          rw [if_pos c37] at H
          have c37b0:((t284.length:Int)==a4)=true:=beq_iff_eq.mpr c37
          have c37b1:((t284.length:Int) !=a4)=false:=bne_eq_false_iff_eq.mpr c37
          clear c37
          by_cases c38:(t288.length:Int)=a4
          ·
           rw [if_pos c38] at H
           have c38b0:((t288.length:Int)==a4)=true:=beq_iff_eq.mpr c38
           have c38b1:((t288.length:Int) !=a4)=false:=bne_eq_false_iff_eq.mpr c38
           clear c38
           have H':=Aside0.mk H
           clear H
           obtain ⟨Ao39,co39,eo39⟩:=Kd.V_slice HO303.out
           subst eo39
           obtain ⟨Ao40,co40,eo40⟩:=Kd.V_slice HO307.out
           subst eo40
           go_wp2
           repeat (go_quiet (fail);try go_wp2)
           go_meet
           case rel=>exact ⟨_,(((t292.length:Int) !=a4)),(by first|rfl|(simp;done)|(simp [*];done)),H',⟨by have:=HJ12.out;first|omega|exact Nat.le_refl _⟩,⟨by (with_reducible repeat (first|apply Kd.V_alloc|apply Kd.V_drewN|apply Kd.V_drew));exact Kd.V_mono HO299.out (fun _ hk=>hk.2.2)⟩,⟨by (with_reducible repeat (first|apply Kd.V_alloc|apply Kd.V_drewN|apply Kd.V_drew));exact Kd.V_mono HO303.out (fun _ hk=>hk.2.2)⟩,⟨by (with_reducible repeat (first|apply Kd.V_alloc|apply Kd.V_drewN|apply Kd.V_drew));exact Kd.V_mono HO307.out (fun _ hk=>hk.2.2)⟩,⟨by (with_reducible repeat (first|refine blk_drewN ?_ _|refine blk_drew ?_|refine blk_alloc ?_ _));exact BK282.out⟩,⟨by repeat (first|(with_reducible first|exact HB.out|apply below_alloc|apply pw_below_drewN|apply below_drew1|refine below_set ?_ GE282.out)|exact HB.out)⟩⟩
          ·
           rw [if_neg c38] at H
           have c38b0:((t288.length:Int)==a4)=false:=beq_eq_false_iff_ne.mpr c38
           have c38b1:((t288.length:Int) !=a4)=true:=bne_iff_ne.mpr c38
           have H':=Aside0.mk H
           clear H
           obtain ⟨Ao41,co41,eo41⟩:=Kd.V_slice HO303.out
           subst eo41
           obtain ⟨Ao42,co42,eo42⟩:=Kd.V_slice HO307.out
           subst eo42
           go_wp2
           repeat (go_quiet (fail);try go_wp2)
           go_meet
           case rel=>exact ⟨_,(true),(by first|rfl|(simp;done)|(simp [*];done)),H',⟨by have:=HJ12.out;first|omega|exact Nat.le_refl _⟩,⟨by (with_reducible repeat (first|apply Kd.V_alloc|apply Kd.V_drewN|apply Kd.V_drew));exact Kd.V_mono HO299.out (fun _ hk=>hk.2.2)⟩,⟨by (with_reducible repeat (first|apply Kd.V_alloc|apply Kd.V_drewN|apply Kd.V_drew));exact Kd.V_mono HO303.out (fun _ hk=>hk.2.2)⟩,⟨by (with_reducible repeat (first|apply Kd.V_alloc|apply Kd.V_drewN|apply Kd.V_drew));exact Kd.V_mono HO307.out (fun _ hk=>hk.2.2)⟩,⟨by (with_reducible repeat (first|refine blk_drewN ?_ _|refine blk_drew ?_|refine blk_alloc ?_ _));exact BK282.out⟩,⟨by repeat (first|(with_reducible first|exact HB.out|apply below_alloc|apply pw_below_drewN|apply below_drew1|refine below_set ?_ GE282.out)|exact HB.out)⟩⟩
         ·
          rw [if_neg c37] at H
          have c37b0:((t284.length:Int)==a4)=false:=beq_eq_false_iff_ne.mpr c37
          have c37b1:((t284.length:Int) !=a4)=true:=bne_iff_ne.mpr c37
          have H':=Aside0.mk H
          clear H
          obtain ⟨Ao43,co43,eo43⟩:=Kd.V_slice HO303.out
          subst eo43
          obtain ⟨Ao44,co44,eo44⟩:=Kd.V_slice HO307.out
          subst eo44
          go_wp2
          repeat (go_quiet (fail);try go_wp2)
          go_meet
          case rel=>exact ⟨_,(true),(by first|rfl|(simp;done)|(simp [*];done)),H',⟨by have:=HJ12.out;first|omega|exact Nat.le_refl _⟩,⟨by (with_reducible repeat (first|apply Kd.V_alloc|apply Kd.V_drewN|apply Kd.V_drew));exact Kd.V_mono HO299.out (fun _ hk=>hk.2.2)⟩,⟨by (with_reducible repeat (first|apply Kd.V_alloc|apply Kd.V_drewN|apply Kd.V_drew));exact Kd.V_mono HO303.out (fun _ hk=>hk.2.2)⟩,⟨by (with_reducible repeat (first|apply Kd.V_alloc|apply Kd.V_drewN|apply Kd.V_drew));exact Kd.V_mono HO307.out (fun _ hk=>hk.2.2)⟩,⟨by (with_reducible repeat (first|refine blk_drewN ?_ _|refine blk_drew ?_|refine blk_alloc ?_ _));exact BK282.out⟩,⟨by repeat (first|(with_reducible first|exact HB.out|apply below_alloc|apply pw_below_drewN|apply below_drew1|refine below_set ?_ GE282.out)|exact HB.out)⟩⟩
        ·
         rw [if_neg c36] at H
         have c36b0:((t305.length:Int)==(t297.length:Int))=false:=beq_eq_false_iff_ne.mpr c36
         have c36b1:((t305.length:Int) !=(t297.length:Int))=true:=bne_iff_ne.mpr c36
         have c36b2:(t305.length==t297.length)=false:=by first|simpa using c36|(simp at c36 ⊢;omega)
         have H':=Aside0.mk H
         clear H
         obtain ⟨Ao45,co45,eo45⟩:=Kd.V_slice HO303.out
         subst eo45
         obtain ⟨Ao46,co46,eo46⟩:=Kd.V_slice HO307.out
         subst eo46
         go_wp2
         repeat (go_quiet (fail);try go_wp2)
         go_meet
         case rel=>exact ⟨_,(true),(by first|rfl|(simp;done)|(simp [*];done)),H',⟨by have:=HJ12.out;first|omega|exact Nat.le_refl _⟩,⟨by (with_reducible repeat (first|apply Kd.V_alloc|apply Kd.V_drewN|apply Kd.V_drew));exact Kd.V_mono HO299.out (fun _ hk=>hk.2.2)⟩,⟨by (with_reducible repeat (first|apply Kd.V_alloc|apply Kd.V_drewN|apply Kd.V_drew));exact Kd.V_mono HO303.out (fun _ hk=>hk.2.2)⟩,⟨by (with_reducible repeat (first|apply Kd.V_alloc|apply Kd.V_drewN|apply Kd.V_drew));exact Kd.V_mono HO307.out (fun _ hk=>hk.2.2)⟩,⟨by (with_reducible repeat (first|refine blk_drewN ?_ _|refine blk_drew ?_|refine blk_alloc ?_ _));exact BK282.out⟩,⟨by repeat (first|(with_reducible first|exact HB.out|apply below_alloc|apply pw_below_drewN|apply below_drew1|refine below_set ?_ GE282.out)|exact HB.out)⟩⟩
       ·
        rw [if_neg c35] at H
        have c35b0:((t301.length:Int)==(t297.length:Int))=false:=beq_eq_false_iff_ne.mpr c35
        have c35b1:((t301.length:Int) !=(t297.length:Int))=true:=bne_iff_ne.mpr c35
        have c35b2:(t301.length==t297.length)=false:=by first|simpa using c35|(simp at c35 ⊢;omega)
        (first|rw [c35b0]|(simp only [i64_w,i32_w];rw [c35b0])|skip)
        have H':=Aside0.mk H
        clear H
        obtain ⟨Ao47,co47,eo47⟩:=Kd.V_slice HO303.out
        subst eo47
        go_wp2
        repeat (go_quiet (fail);try go_wp2)
        go_meet
        case rel=>exact ⟨_,(true),(by first|rfl|(simp;done)|(simp [*];done)),H',⟨by have:=HJ12.out;first|omega|exact Nat.le_refl _⟩,⟨by (with_reducible repeat (first|apply Kd.V_alloc|apply Kd.V_drewN|apply Kd.V_drew));exact Kd.V_mono HO299.out (fun _ hk=>hk.2.2)⟩,⟨by (with_reducible repeat (first|apply Kd.V_alloc|apply Kd.V_drewN|apply Kd.V_drew));exact Kd.V_mono HO303.out (fun _ hk=>hk.2.2)⟩,⟨by (with_reducible repeat (first|apply Kd.V_alloc|apply Kd.V_drewN|apply Kd.V_drew));exact Kd.V_mono HO307.out (fun _ hk=>hk.2.2)⟩,⟨by (with_reducible repeat (first|refine blk_drewN ?_ _|refine blk_drew ?_|refine blk_alloc ?_ _));exact BK282.out⟩,⟨by repeat (first|(with_reducible first|exact HB.out|apply below_alloc|apply pw_below_drewN|apply below_drew1|refine below_set ?_ GE282.out)|exact HB.out)⟩⟩
      case rest =>
       clear HC27
       try clear c3
       try clear c22
       try clear c23
       try clear c23b0
       try clear c23b1
       try clear c35
       try clear c35b0
       try clear c35b1
       try clear c35b2
       try clear c36
       try clear c36b0
       try clear c36b1
       try clear c36b2
       try clear c37
       try clear c37b0
       try clear c37b1
       try clear c38
       try clear c38b0
       try clear c38b1
       obtain ⟨kq,x111_26,rfl,HA,HJ26,HO_17,HO_19,HO_21,BK282,HB⟩:=hcut
       cases kq with
       | zero=>exact absurd HA.out (by simp [parquetrylaw19_PlaceAligns.j1])
       | succ kj26 =>
        have H:=HA.out
        clear HA
        simp only [parquetrylaw19_PlaceAligns.j1] at H
        by_cases c48:x111_26=true
        ·
         subst c48
         have H1:(some false)=some r:=by rw [if_pos rfl] at H;exact H
         clear H
         have H:=H1
         clear H1
         obtain rfl:=Option.some.inj H
         go_wp2
         repeat (go_quiet (fail);try go_wp2)
         go_ret
         exact ⟨by first|rfl|(simp [errW_none,errW_some] <;> rfl)|(simp [*,errW_none,errW_some] <;> rfl),by repeat (first|(with_reducible first|exact HB.out|apply below_alloc|apply pw_below_drewN|apply below_drew1|refine below_set ?_ GE282.out)|exact HB.out)⟩
        ·
         replace c48:=Bool.eq_false_iff.mpr c48
         subst c48
         have H1:(parquetrylaw19_PlaceAligns.l0 kj26 a4 t297 t300 t301 t304 t305 t308 (t297.length:Int) 0)=some r:=by rw [if_neg (show ¬ (false=true) by decide)] at H;exact H
         clear H
         have H:=H1
         clear H1
         have H':=Aside0.mk H
         clear H
         go_wp2
         repeat (go_quiet (fail);try go_wp2)
         go_loopg [24] kj26 (fun kq v24 w'=> ∃ (x24_3:Int),v24= .int .i64 x24_3∧Aside0 (parquetrylaw19_PlaceAligns.l0 kq a4 t297 t300 t301 t304 t305 t308 (t297.length:Int) x24_3=some r)∧Aside0 (kq≤kj26)∧Aside0 (Kd.V k42 42 w' w.heap.size (fun k_=>k_≠gb282) (.slice Ao34 t297.length co34) t297)∧Aside0 (Kd.V k42 42 w' w.heap.size (fun k_=>k_≠gb282) v302 t301)∧Aside0 (Kd.V k42 42 w' w.heap.size (fun k_=>k_≠gb282) v306 t305)∧Aside0 (w'.heap[gb282]?=some (.cells #[.int .i64 a2_0,.int .i64 a2_1,.int .i64 a2_2,.int .i64 a2_3,.int .i64 a2_4] 25 (0,0)))∧Aside0 (Below w.heap.size w w'))
         case atStart=>exact ⟨(0),(by first|rfl|(simp;done)|(simp [*];done)),H',⟨Nat.le_refl _⟩,⟨by (with_reducible repeat (first|apply Kd.V_alloc|apply Kd.V_drewN|apply Kd.V_drew));exact HO_17.out⟩,⟨by (with_reducible repeat (first|apply Kd.V_alloc|apply Kd.V_drewN|apply Kd.V_drew));exact HO_19.out⟩,⟨by (with_reducible repeat (first|apply Kd.V_alloc|apply Kd.V_drewN|apply Kd.V_drew));exact HO_21.out⟩,⟨by (with_reducible repeat (first|refine blk_drewN ?_ _|refine blk_drew ?_|refine blk_alloc ?_ _));exact BK282.out⟩,⟨by repeat (first|(with_reducible first|exact HB.out|apply below_alloc|apply pw_below_drewN|apply below_drew1|refine below_set ?_ GE282.out)|exact HB.out)⟩⟩
         case round =>
          clear H'
          try clear c4
          try clear c48
          obtain ⟨x24_3,rfl,HA,HK3,HO_17,HO_19,HO_21,BK282,HB⟩:=hrel
          cases gk with
          | zero=>exact absurd HA.out (by simp [parquetrylaw19_PlaceAligns.l0])
          | succ k3 =>
           have H:=HA.out
           clear HA
           simp only [parquetrylaw19_PlaceAligns.l0] at H
           by_cases c49:x24_3 < (t297.length:Int)
           ·
            rw [if_pos c49] at H
            have c49b0:decide (x24_3 < (t297.length:Int))=true:=decide_eq_true c49
            clear c49
            by_cases c50:0≤x24_3
            ·
             rw [if_pos c50] at H
             have c50b0:decide (0≤x24_3)=true:=decide_eq_true c50
             clear c50
             by_cases c51:x24_3 < (t297.length:Int)
             ·
              rw [if_pos c51] at H
              have c51b0:decide (x24_3 < (t297.length:Int))=true:=decide_eq_true c51
              clear c51
              by_cases c52:x24_3 < (t301.length:Int)
              ·
               rw [if_pos c52] at H
               have c52b0:decide (x24_3 < (t301.length:Int))=true:=decide_eq_true c52
               clear c52
               by_cases c53:(!(((rd_T42 t297 x24_3).f0)==((rd_T42 t301 x24_3).f0)) || (!(((rd_T42 t297 x24_3).f1)==((rd_T42 t301 x24_3).f1)) || (!(((rd_T42 t297 x24_3).f2)==((rd_T42 t301 x24_3).f2)) || (!(((rd_T42 t297 x24_3).f3)==((rd_T42 t301 x24_3).f3)) || (!(((rd_T42 t297 x24_3).f4)==((rd_T42 t301 x24_3).f4)) || (!(((rd_T42 t297 x24_3).f5)==((rd_T42 t301 x24_3).f5))))))))=true
               ·
                rw [if_pos c53] at H
                have c53b0:(!(((rd_T42 t297 x24_3).f0)==((rd_T42 t301 x24_3).f0)) || (!(((rd_T42 t297 x24_3).f1)==((rd_T42 t301 x24_3).f1)) || (!(((rd_T42 t297 x24_3).f2)==((rd_T42 t301 x24_3).f2)) || (!(((rd_T42 t297 x24_3).f3)==((rd_T42 t301 x24_3).f3)) || (!(((rd_T42 t297 x24_3).f4)==((rd_T42 t301 x24_3).f4)) || (!(((rd_T42 t297 x24_3).f5)==((rd_T42 t301 x24_3).f5))))))))=true:=c53
                clear c53
                obtain rfl:=Option.some.inj H
                have p309:0≤(x24_3:Int):=of_decide_eq_true (by first|(with_reducible assumption)|assumption)
                have q309:x24_3 < (t297.length:Int):=of_decide_eq_true (by first|(with_reducible assumption)|assumption)
                obtain ⟨ad309,e309,hx309_0,hx309_1,hx309_2,hx309_3,hx309_4,hx309_5⟩:=at_T42 (Kd.V_reads' HO_17.out).2.2 x24_3 p309 q309
                cases e309
                replace p309:=eq_true p309
                replace q309:=eq_true q309
                obtain ⟨Ao54,co54,eo54⟩:=Kd.V_slice HO_19.out
                subst eo54
                have p310:0≤(x24_3:Int):=of_decide_eq_true (by first|(with_reducible assumption)|assumption)
                have q310:x24_3 < (t301.length:Int):=of_decide_eq_true (by first|(with_reducible assumption)|assumption)
                obtain ⟨ad310,e310,hx310_0,hx310_1,hx310_2,hx310_3,hx310_4,hx310_5⟩:=at_T42 (Kd.V_reads' HO_19.out).2.2 x24_3 p310 q310
                cases e310
                replace p310:=eq_true p310
                replace q310:=eq_true q310
                go_wp2
                repeat (go_quiet (fail);try go_wp2)
                go_ret
                exact ⟨by first|rfl|(simp [errW_none,errW_some] <;> rfl)|(simp [*,errW_none,errW_some] <;> rfl),by repeat (first|(with_reducible first|exact HB.out|apply below_alloc|apply pw_below_drewN|apply below_drew1|refine below_set ?_ GE282.out)|exact HB.out)⟩
               ·
                rw [if_neg c53] at H
                have c53b0:(!(((rd_T42 t297 x24_3).f0)==((rd_T42 t301 x24_3).f0)) || (!(((rd_T42 t297 x24_3).f1)==((rd_T42 t301 x24_3).f1)) || (!(((rd_T42 t297 x24_3).f2)==((rd_T42 t301 x24_3).f2)) || (!(((rd_T42 t297 x24_3).f3)==((rd_T42 t301 x24_3).f3)) || (!(((rd_T42 t297 x24_3).f4)==((rd_T42 t301 x24_3).f4)) || (!(((rd_T42 t297 x24_3).f5)==((rd_T42 t301 x24_3).f5))))))))=false:=by simpa using c53
                clear c53
                by_cases c55:x24_3 < (t305.length:Int)
                ·
                 rw [if_pos c55] at H
                 have c55b0:decide (x24_3 < (t305.length:Int))=true:=decide_eq_true c55
                 clear c55
                 by_cases c56:(!(((rd_T42 t297 x24_3).f0)==((rd_T42 t305 x24_3).f0)) || (!(((rd_T42 t297 x24_3).f1)==((rd_T42 t305 x24_3).f1)) || (!(((rd_T42 t297 x24_3).f2)==((rd_T42 t305 x24_3).f2)) || (!(((rd_T42 t297 x24_3).f3)==((rd_T42 t305 x24_3).f3)) || (!(((rd_T42 t297 x24_3).f4)==((rd_T42 t305 x24_3).f4)) || (!(((rd_T42 t297 x24_3).f5)==((rd_T42 t305 x24_3).f5))))))))=true
                 ·
                  rw [if_pos c56] at H
                  have c56b0:(!(((rd_T42 t297 x24_3).f0)==((rd_T42 t305 x24_3).f0)) || (!(((rd_T42 t297 x24_3).f1)==((rd_T42 t305 x24_3).f1)) || (!(((rd_T42 t297 x24_3).f2)==((rd_T42 t305 x24_3).f2)) || (!(((rd_T42 t297 x24_3).f3)==((rd_T42 t305 x24_3).f3)) || (!(((rd_T42 t297 x24_3).f4)==((rd_T42 t305 x24_3).f4)) || (!(((rd_T42 t297 x24_3).f5)==((rd_T42 t305 x24_3).f5))))))))=true:=c56
                  clear c56
                  obtain rfl:=Option.some.inj H
                  have p309:0≤(x24_3:Int):=of_decide_eq_true (by first|(with_reducible assumption)|assumption)
                  have q309:x24_3 < (t297.length:Int):=of_decide_eq_true (by first|(with_reducible assumption)|assumption)
                  obtain ⟨ad309,e309,hx309_0,hx309_1,hx309_2,hx309_3,hx309_4,hx309_5⟩:=at_T42 (Kd.V_reads' HO_17.out).2.2 x24_3 p309 q309
                  cases e309
                  replace p309:=eq_true p309
                  replace q309:=eq_true q309
                  obtain ⟨Ao57,co57,eo57⟩:=Kd.V_slice HO_19.out
                  subst eo57
                  have p310:0≤(x24_3:Int):=of_decide_eq_true (by first|(with_reducible assumption)|assumption)
                  have q310:x24_3 < (t301.length:Int):=of_decide_eq_true (by first|(with_reducible assumption)|assumption)
                  obtain ⟨ad310,e310,hx310_0,hx310_1,hx310_2,hx310_3,hx310_4,hx310_5⟩:=at_T42 (Kd.V_reads' HO_19.out).2.2 x24_3 p310 q310
                  cases e310
                  replace p310:=eq_true p310
                  replace q310:=eq_true q310
                  have p311:0≤(x24_3:Int):=of_decide_eq_true (by first|(with_reducible assumption)|assumption)
                  have q311:x24_3 < (t297.length:Int):=of_decide_eq_true (by first|(with_reducible assumption)|assumption)
                  obtain ⟨ad311,e311,hx311_0,hx311_1,hx311_2,hx311_3,hx311_4,hx311_5⟩:=at_T42 (Kd.V_reads' HO_17.out).2.2 x24_3 p311 q311
                  obtain rfl:ad309=ad311:=(by injection e311)
                  replace p311:=eq_true p311
                  replace q311:=eq_true q311
                  obtain ⟨Ao58,co58,eo58⟩:=Kd.V_slice HO_21.out
                  subst eo58
                  have p312:0≤(x24_3:Int):=of_decide_eq_true (by first|(with_reducible assumption)|assumption)
                  have q312:x24_3 < (t305.length:Int):=of_decide_eq_true (by first|(with_reducible assumption)|assumption)
                  obtain ⟨ad312,e312,hx312_0,hx312_1,hx312_2,hx312_3,hx312_4,hx312_5⟩:=at_T42 (Kd.V_reads' HO_21.out).2.2 x24_3 p312 q312
                  cases e312
                  replace p312:=eq_true p312
                  replace q312:=eq_true q312
                  go_wp2
                  repeat (go_quiet (fail);try go_wp2)
                  go_ret
                  exact ⟨by first|rfl|(simp [errW_none,errW_some] <;> rfl)|(simp [*,errW_none,errW_some] <;> rfl),by repeat (first|(with_reducible first|exact HB.out|apply below_alloc|apply pw_below_drewN|apply below_drew1|refine below_set ?_ GE282.out)|exact HB.out)⟩
                 ·
                  rw [if_neg c56] at H
                  have c56b0:(!(((rd_T42 t297 x24_3).f0)==((rd_T42 t305 x24_3).f0)) || (!(((rd_T42 t297 x24_3).f1)==((rd_T42 t305 x24_3).f1)) || (!(((rd_T42 t297 x24_3).f2)==((rd_T42 t305 x24_3).f2)) || (!(((rd_T42 t297 x24_3).f3)==((rd_T42 t305 x24_3).f3)) || (!(((rd_T42 t297 x24_3).f4)==((rd_T42 t305 x24_3).f4)) || (!(((rd_T42 t297 x24_3).f5)==((rd_T42 t305 x24_3).f5))))))))=false:=by simpa using c56
                  clear c56
                  have H':=Aside0.mk H
                  clear H
                  have p309:0≤(x24_3:Int):=of_decide_eq_true (by first|(with_reducible assumption)|assumption)
                  have q309:x24_3 < (t297.length:Int):=of_decide_eq_true (by first|(with_reducible assumption)|assumption)
                  obtain ⟨ad309,e309,hx309_0,hx309_1,hx309_2,hx309_3,hx309_4,hx309_5⟩:=at_T42 (Kd.V_reads' HO_17.out).2.2 x24_3 p309 q309
                  cases e309
                  replace p309:=eq_true p309
                  replace q309:=eq_true q309
                  obtain ⟨Ao59,co59,eo59⟩:=Kd.V_slice HO_19.out
                  subst eo59
                  have p310:0≤(x24_3:Int):=of_decide_eq_true (by first|(with_reducible assumption)|assumption)
                  have q310:x24_3 < (t301.length:Int):=of_decide_eq_true (by first|(with_reducible assumption)|assumption)
                  obtain ⟨ad310,e310,hx310_0,hx310_1,hx310_2,hx310_3,hx310_4,hx310_5⟩:=at_T42 (Kd.V_reads' HO_19.out).2.2 x24_3 p310 q310
                  cases e310
                  replace p310:=eq_true p310
                  replace q310:=eq_true q310
                  have p311:0≤(x24_3:Int):=of_decide_eq_true (by first|(with_reducible assumption)|assumption)
                  have q311:x24_3 < (t297.length:Int):=of_decide_eq_true (by first|(with_reducible assumption)|assumption)
                  obtain ⟨ad311,e311,hx311_0,hx311_1,hx311_2,hx311_3,hx311_4,hx311_5⟩:=at_T42 (Kd.V_reads' HO_17.out).2.2 x24_3 p311 q311
                  obtain rfl:ad309=ad311:=(by injection e311)
                  replace p311:=eq_true p311
                  replace q311:=eq_true q311
                  obtain ⟨Ao60,co60,eo60⟩:=Kd.V_slice HO_21.out
                  subst eo60
                  have p312:0≤(x24_3:Int):=of_decide_eq_true (by first|(with_reducible assumption)|assumption)
                  have q312:x24_3 < (t305.length:Int):=of_decide_eq_true (by first|(with_reducible assumption)|assumption)
                  obtain ⟨ad312,e312,hx312_0,hx312_1,hx312_2,hx312_3,hx312_4,hx312_5⟩:=at_T42 (Kd.V_reads' HO_21.out).2.2 x24_3 p312 q312
                  cases e312
                  replace p312:=eq_true p312
                  replace q312:=eq_true q312
                  go_wp2
                  repeat (go_quiet (fail);try go_wp2)
                  go_roundg k3
                  case measure=>have:=HJ12.out;have:=HJ26.out;have:=HK3.out;omega
                  case rel=>exact ⟨(wrap64 (x24_3+1)),(by first|rfl|(simp;done)|(simp [*];done)),H',⟨by have:=HJ12.out;have:=HJ26.out;have:=HK3.out;omega⟩,⟨by (with_reducible repeat (first|apply Kd.V_alloc|apply Kd.V_drewN|apply Kd.V_drew));exact HO_17.out⟩,⟨by (with_reducible repeat (first|apply Kd.V_alloc|apply Kd.V_drewN|apply Kd.V_drew));exact HO_19.out⟩,⟨by (with_reducible repeat (first|apply Kd.V_alloc|apply Kd.V_drewN|apply Kd.V_drew));exact HO_21.out⟩,⟨by (with_reducible repeat (first|refine blk_drewN ?_ _|refine blk_drew ?_|refine blk_alloc ?_ _));exact BK282.out⟩,⟨by repeat (first|(with_reducible first|exact HB.out|apply below_alloc|apply pw_below_drewN|apply below_drew1|refine below_set ?_ GE282.out)|exact HB.out)⟩⟩
                ·
                 rw [if_neg c55] at H
                 exact absurd H (by simp)
              ·
               rw [if_neg c52] at H
               exact absurd H (by simp)
             ·
              rw [if_neg c51] at H
              exact absurd H (by simp)
            ·
             rw [if_neg c50] at H
             exact absurd H (by simp)
           ·
            rw [if_neg c49] at H
            have c49b0:decide (x24_3 < (t297.length:Int))=false:=decide_eq_false c49
            clear c49
            by_cases c61:(t297.length:Int)=0
            ·
             rw [if_pos c61] at H
             have c61b0:((t297.length:Int)==0)=true:=beq_iff_eq.mpr c61
             have c61b1:((t297.length:Int) !=0)=false:=bne_eq_false_iff_eq.mpr c61
             clear c61
             replace H:=Option.bind_eq_some_iff.mp H
             obtain ⟨t313,A620,H⟩:=H
             replace H:(some t313)=some r:=H
             have A62:=Aside0.mk A620
             clear A620
             obtain rfl:=Option.some.inj H
             go_wp2_with (first|(go_at_call 7;(with_reducible refine (parquetrylaw19_awake.calls k3 t313 _ A62.out).mono ?_);rintro e w63 ⟨rfl,hb⟩;have n0_:=Aside0.mk (Kd.V_below (by (with_reducible repeat (first|apply Kd.V_alloc|apply Kd.V_drewN|apply Kd.V_drew));exact HO_17.out) hb);have n1_:=Aside0.mk (Kd.V_below (by (with_reducible repeat (first|apply Kd.V_alloc|apply Kd.V_drewN|apply Kd.V_drew));exact HO_19.out) hb);have n2_:=Aside0.mk (Kd.V_below (by (with_reducible repeat (first|apply Kd.V_alloc|apply Kd.V_drewN|apply Kd.V_drew));exact HO_21.out) hb);have n3_:=Aside0.mk (blk_below (g:=gb282) (o:= .cells #[.int .i64 a2_0,.int .i64 a2_1,.int .i64 a2_2,.int .i64 a2_3,.int .i64 a2_4] 25 (0,0)) (by (with_reducible repeat (first|refine blk_drewN ?_ _|refine blk_drew ?_|refine blk_alloc ?_ _));exact BK282.out) hb);have n4_:=Aside0.mk (below_step (by repeat (first|(with_reducible first|exact HB.out|apply below_alloc|apply pw_below_drewN|apply below_drew1|refine below_set ?_ GE282.out)|exact HB.out)) hb);clear HO_17;clear HO_19;clear HO_21;clear BK282;clear HB;have HO_17:=n0_;have HO_19:=n1_;have HO_21:=n2_;have BK282:=n3_;have HB:=n4_;clear n0_ n1_ n2_ n3_ n4_;(try clear hb);(try clear hb2);(try clear hk);(try clear hi)))
             repeat (go_quiet (first|(go_at_call 7;(with_reducible refine (parquetrylaw19_awake.calls k3 t313 _ A62.out).mono ?_);rintro e w63 ⟨rfl,hb⟩;have n0_:=Aside0.mk (Kd.V_below (by (with_reducible repeat (first|apply Kd.V_alloc|apply Kd.V_drewN|apply Kd.V_drew));exact HO_17.out) hb);have n1_:=Aside0.mk (Kd.V_below (by (with_reducible repeat (first|apply Kd.V_alloc|apply Kd.V_drewN|apply Kd.V_drew));exact HO_19.out) hb);have n2_:=Aside0.mk (Kd.V_below (by (with_reducible repeat (first|apply Kd.V_alloc|apply Kd.V_drewN|apply Kd.V_drew));exact HO_21.out) hb);have n3_:=Aside0.mk (blk_below (g:=gb282) (o:= .cells #[.int .i64 a2_0,.int .i64 a2_1,.int .i64 a2_2,.int .i64 a2_3,.int .i64 a2_4] 25 (0,0)) (by (with_reducible repeat (first|refine blk_drewN ?_ _|refine blk_drew ?_|refine blk_alloc ?_ _));exact BK282.out) hb);have n4_:=Aside0.mk (below_step (by repeat (first|(with_reducible first|exact HB.out|apply below_alloc|apply pw_below_drewN|apply below_drew1|refine below_set ?_ GE282.out)|exact HB.out)) hb);clear HO_17;clear HO_19;clear HO_21;clear BK282;clear HB;have HO_17:=n0_;have HO_19:=n1_;have HO_21:=n2_;have BK282:=n3_;have HB:=n4_;clear n0_ n1_ n2_ n3_ n4_;(try clear hb);(try clear hb2);(try clear hk);(try clear hi)));try go_wp2_with (first|(go_at_call 7;(with_reducible refine (parquetrylaw19_awake.calls k3 t313 _ A62.out).mono ?_);rintro e w63 ⟨rfl,hb⟩;have n0_:=Aside0.mk (Kd.V_below (by (with_reducible repeat (first|apply Kd.V_alloc|apply Kd.V_drewN|apply Kd.V_drew));exact HO_17.out) hb);have n1_:=Aside0.mk (Kd.V_below (by (with_reducible repeat (first|apply Kd.V_alloc|apply Kd.V_drewN|apply Kd.V_drew));exact HO_19.out) hb);have n2_:=Aside0.mk (Kd.V_below (by (with_reducible repeat (first|apply Kd.V_alloc|apply Kd.V_drewN|apply Kd.V_drew));exact HO_21.out) hb);have n3_:=Aside0.mk (blk_below (g:=gb282) (o:= .cells #[.int .i64 a2_0,.int .i64 a2_1,.int .i64 a2_2,.int .i64 a2_3,.int .i64 a2_4] 25 (0,0)) (by (with_reducible repeat (first|refine blk_drewN ?_ _|refine blk_drew ?_|refine blk_alloc ?_ _));exact BK282.out) hb);have n4_:=Aside0.mk (below_step (by repeat (first|(with_reducible first|exact HB.out|apply below_alloc|apply pw_below_drewN|apply below_drew1|refine below_set ?_ GE282.out)|exact HB.out)) hb);clear HO_17;clear HO_19;clear HO_21;clear BK282;clear HB;have HO_17:=n0_;have HO_19:=n1_;have HO_21:=n2_;have BK282:=n3_;have HB:=n4_;clear n0_ n1_ n2_ n3_ n4_;(try clear hb);(try clear hb2);(try clear hk);(try clear hi))))
             go_ret
             exact ⟨by first|rfl|(simp [errW_none,errW_some] <;> rfl)|(simp [*,errW_none,errW_some] <;> rfl),by repeat (first|(with_reducible first|exact HB.out|apply below_alloc|apply pw_below_drewN|apply below_drew1|refine below_set ?_ GE282.out)|exact HB.out)⟩
            ·
             rw [if_neg c61] at H
             have c61b0:((t297.length:Int)==0)=false:=beq_eq_false_iff_ne.mpr c61
             have c61b1:((t297.length:Int) !=0)=true:=bne_iff_ne.mpr c61
             have c61b2: ¬ (t297=[]):=fun h_=>c61 (by rw [h_];rfl)
             by_cases c64:t300=0
             ·
              rw [if_pos c64] at H
              have c64b0:(t300==0)=true:=beq_iff_eq.mpr c64
              have c64b1:(t300 !=0)=false:=bne_eq_false_iff_eq.mpr c64
              clear c64
              by_cases c65:t304=(wrap64 (a4 - (t297.length:Int)))
              ·
               rw [if_pos c65] at H
               have c65b0:(t304==(wrap64 (a4 - (t297.length:Int))))=true:=beq_iff_eq.mpr c65
               have c65b1:(t304 !=(wrap64 (a4 - (t297.length:Int))))=false:=bne_eq_false_iff_eq.mpr c65
               clear c65
               by_cases c66:t308=(wrap64 (Int.tdiv (wrap64 (a4 - (t297.length:Int))) 2))
               ·
                rw [if_pos c66] at H
                have c66b0:(t308==(wrap64 (Int.tdiv (wrap64 (a4 - (t297.length:Int))) 2)))=true:=beq_iff_eq.mpr c66
                have c66b1:(t308 !=(wrap64 (Int.tdiv (wrap64 (a4 - (t297.length:Int))) 2)))=false:=bne_eq_false_iff_eq.mpr c66
                clear c66
                replace H:=Option.bind_eq_some_iff.mp H
                obtain ⟨t314,A670,H⟩:=H
                replace H:(some t314)=some r:=H
                have A67:=Aside0.mk A670
                clear A670
                obtain rfl:=Option.some.inj H
                go_wp2_with (first|(go_at_call 7;(with_reducible refine (parquetrylaw19_awake.calls k3 t314 _ A67.out).mono ?_);rintro e w68 ⟨rfl,hb⟩;have n0_:=Aside0.mk (Kd.V_below (by (with_reducible repeat (first|apply Kd.V_alloc|apply Kd.V_drewN|apply Kd.V_drew));exact HO_17.out) hb);have n1_:=Aside0.mk (Kd.V_below (by (with_reducible repeat (first|apply Kd.V_alloc|apply Kd.V_drewN|apply Kd.V_drew));exact HO_19.out) hb);have n2_:=Aside0.mk (Kd.V_below (by (with_reducible repeat (first|apply Kd.V_alloc|apply Kd.V_drewN|apply Kd.V_drew));exact HO_21.out) hb);have n3_:=Aside0.mk (blk_below (g:=gb282) (o:= .cells #[.int .i64 a2_0,.int .i64 a2_1,.int .i64 a2_2,.int .i64 a2_3,.int .i64 a2_4] 25 (0,0)) (by (with_reducible repeat (first|refine blk_drewN ?_ _|refine blk_drew ?_|refine blk_alloc ?_ _));exact BK282.out) hb);have n4_:=Aside0.mk (below_step (by repeat (first|(with_reducible first|exact HB.out|apply below_alloc|apply pw_below_drewN|apply below_drew1|refine below_set ?_ GE282.out)|exact HB.out)) hb);clear HO_17;clear HO_19;clear HO_21;clear BK282;clear HB;have HO_17:=n0_;have HO_19:=n1_;have HO_21:=n2_;have BK282:=n3_;have HB:=n4_;clear n0_ n1_ n2_ n3_ n4_;(try clear hb);(try clear hb2);(try clear hk);(try clear hi)))
                repeat (go_quiet (first|(go_at_call 7;(with_reducible refine (parquetrylaw19_awake.calls k3 t314 _ A67.out).mono ?_);rintro e w68 ⟨rfl,hb⟩;have n0_:=Aside0.mk (Kd.V_below (by (with_reducible repeat (first|apply Kd.V_alloc|apply Kd.V_drewN|apply Kd.V_drew));exact HO_17.out) hb);have n1_:=Aside0.mk (Kd.V_below (by (with_reducible repeat (first|apply Kd.V_alloc|apply Kd.V_drewN|apply Kd.V_drew));exact HO_19.out) hb);have n2_:=Aside0.mk (Kd.V_below (by (with_reducible repeat (first|apply Kd.V_alloc|apply Kd.V_drewN|apply Kd.V_drew));exact HO_21.out) hb);have n3_:=Aside0.mk (blk_below (g:=gb282) (o:= .cells #[.int .i64 a2_0,.int .i64 a2_1,.int .i64 a2_2,.int .i64 a2_3,.int .i64 a2_4] 25 (0,0)) (by (with_reducible repeat (first|refine blk_drewN ?_ _|refine blk_drew ?_|refine blk_alloc ?_ _));exact BK282.out) hb);have n4_:=Aside0.mk (below_step (by repeat (first|(with_reducible first|exact HB.out|apply below_alloc|apply pw_below_drewN|apply below_drew1|refine below_set ?_ GE282.out)|exact HB.out)) hb);clear HO_17;clear HO_19;clear HO_21;clear BK282;clear HB;have HO_17:=n0_;have HO_19:=n1_;have HO_21:=n2_;have BK282:=n3_;have HB:=n4_;clear n0_ n1_ n2_ n3_ n4_;(try clear hb);(try clear hb2);(try clear hk);(try clear hi)));try go_wp2_with (first|(go_at_call 7;(with_reducible refine (parquetrylaw19_awake.calls k3 t314 _ A67.out).mono ?_);rintro e w68 ⟨rfl,hb⟩;have n0_:=Aside0.mk (Kd.V_below (by (with_reducible repeat (first|apply Kd.V_alloc|apply Kd.V_drewN|apply Kd.V_drew));exact HO_17.out) hb);have n1_:=Aside0.mk (Kd.V_below (by (with_reducible repeat (first|apply Kd.V_alloc|apply Kd.V_drewN|apply Kd.V_drew));exact HO_19.out) hb);have n2_:=Aside0.mk (Kd.V_below (by (with_reducible repeat (first|apply Kd.V_alloc|apply Kd.V_drewN|apply Kd.V_drew));exact HO_21.out) hb);have n3_:=Aside0.mk (blk_below (g:=gb282) (o:= .cells #[.int .i64 a2_0,.int .i64 a2_1,.int .i64 a2_2,.int .i64 a2_3,.int .i64 a2_4] 25 (0,0)) (by (with_reducible repeat (first|refine blk_drewN ?_ _|refine blk_drew ?_|refine blk_alloc ?_ _));exact BK282.out) hb);have n4_:=Aside0.mk (below_step (by repeat (first|(with_reducible first|exact HB.out|apply below_alloc|apply pw_below_drewN|apply below_drew1|refine below_set ?_ GE282.out)|exact HB.out)) hb);clear HO_17;clear HO_19;clear HO_21;clear BK282;clear HB;have HO_17:=n0_;have HO_19:=n1_;have HO_21:=n2_;have BK282:=n3_;have HB:=n4_;clear n0_ n1_ n2_ n3_ n4_;(try clear hb);(try clear hb2);(try clear hk);(try clear hi))))
                go_ret
                exact ⟨by first|rfl|(simp [errW_none,errW_some] <;> rfl)|(simp [*,errW_none,errW_some] <;> rfl),by repeat (first|(with_reducible first|exact HB.out|apply below_alloc|apply pw_below_drewN|apply below_drew1|refine below_set ?_ GE282.out)|exact HB.out)⟩
               ·
                rw [if_neg c66] at H
                have c66b0:(t308==(wrap64 (Int.tdiv (wrap64 (a4 - (t297.length:Int))) 2)))=false:=beq_eq_false_iff_ne.mpr c66
                have c66b1:(t308 !=(wrap64 (Int.tdiv (wrap64 (a4 - (t297.length:Int))) 2)))=true:=bne_iff_ne.mpr c66
                obtain rfl:=Option.some.inj H
                go_wp2
                repeat (go_quiet (fail);try go_wp2)
                go_ret
                exact ⟨by first|rfl|(simp [errW_none,errW_some] <;> rfl)|(simp [*,errW_none,errW_some] <;> rfl),by repeat (first|(with_reducible first|exact HB.out|apply below_alloc|apply pw_below_drewN|apply below_drew1|refine below_set ?_ GE282.out)|exact HB.out)⟩
              ·
               rw [if_neg c65] at H
               have c65b0:(t304==(wrap64 (a4 - (t297.length:Int))))=false:=beq_eq_false_iff_ne.mpr c65
               have c65b1:(t304 !=(wrap64 (a4 - (t297.length:Int))))=true:=bne_iff_ne.mpr c65
               obtain rfl:=Option.some.inj H
               go_wp2
               repeat (go_quiet (fail);try go_wp2)
               go_ret
               exact ⟨by first|rfl|(simp [errW_none,errW_some] <;> rfl)|(simp [*,errW_none,errW_some] <;> rfl),by repeat (first|(with_reducible first|exact HB.out|apply below_alloc|apply pw_below_drewN|apply below_drew1|refine below_set ?_ GE282.out)|exact HB.out)⟩
             ·
              rw [if_neg c64] at H
              have c64b0:(t300==0)=false:=beq_eq_false_iff_ne.mpr c64
              have c64b1:(t300 !=0)=true:=bne_iff_ne.mpr c64
              obtain rfl:=Option.some.inj H
              go_wp2
              repeat (go_quiet (fail);try go_wp2)
              go_ret
              exact ⟨by first|rfl|(simp [errW_none,errW_some] <;> rfl)|(simp [*,errW_none,errW_some] <;> rfl),by repeat (first|(with_reducible first|exact HB.out|apply below_alloc|apply pw_below_drewN|apply below_drew1|refine below_set ?_ GE282.out)|exact HB.out)⟩
     ·
      rw [if_neg c23] at H
      have c23b0:(t287==0)=false:=beq_eq_false_iff_ne.mpr c23
      have c23b1:(t287 !=0)=true:=bne_iff_ne.mpr c23
      replace H:=Option.bind_eq_some_iff.mp H
      obtain ⟨t296,A690,H⟩:=H
      replace H:(some t296)=some r:=H
      have A69:=Aside0.mk A690
      clear A690
      obtain rfl:=Option.some.inj H
      go_wp2_with (first|(go_at_call 7;(with_reducible refine (parquetrylaw19_awake.calls kj12 t296 _ A69.out).mono ?_);rintro e w70 ⟨rfl,hb⟩;have n0_:=Aside0.mk (Kd.R_below (by (with_reducible repeat (first|apply Kd.R_alloc|apply Kd.R_drewN|apply Kd.R_drew));exact HO_11.out) hb);have n1_:=Aside0.mk (Kd.R_below (by (with_reducible repeat (first|apply Kd.R_alloc|apply Kd.R_drewN|apply Kd.R_drew));exact HO_13.out) hb);have n2_:=Aside0.mk (Kd.R_below (by (with_reducible repeat (first|apply Kd.R_alloc|apply Kd.R_drewN|apply Kd.R_drew));exact HO_15.out) hb);have n3_:=Aside0.mk (blk_below (g:=gb282) (o:= .cells #[.int .i64 a2_0,.int .i64 a2_1,.int .i64 a2_2,.int .i64 a2_3,.int .i64 a2_4] 25 (0,0)) (by (with_reducible repeat (first|refine blk_drewN ?_ _|refine blk_drew ?_|refine blk_alloc ?_ _));exact BK282.out) hb);have n4_:=Aside0.mk (below_step (by repeat (first|(with_reducible first|exact HB.out|apply below_alloc|apply pw_below_drewN|apply below_drew1|refine below_set ?_ GE282.out)|exact HB.out)) hb);clear HO_11;clear HO_13;clear HO_15;clear BK282;clear HB;have HO_11:=n0_;have HO_13:=n1_;have HO_15:=n2_;have BK282:=n3_;have HB:=n4_;clear n0_ n1_ n2_ n3_ n4_;(try clear hb);(try clear hb2);(try clear hk);(try clear hi)))
      repeat (go_quiet (first|(go_at_call 7;(with_reducible refine (parquetrylaw19_awake.calls kj12 t296 _ A69.out).mono ?_);rintro e w70 ⟨rfl,hb⟩;have n0_:=Aside0.mk (Kd.R_below (by (with_reducible repeat (first|apply Kd.R_alloc|apply Kd.R_drewN|apply Kd.R_drew));exact HO_11.out) hb);have n1_:=Aside0.mk (Kd.R_below (by (with_reducible repeat (first|apply Kd.R_alloc|apply Kd.R_drewN|apply Kd.R_drew));exact HO_13.out) hb);have n2_:=Aside0.mk (Kd.R_below (by (with_reducible repeat (first|apply Kd.R_alloc|apply Kd.R_drewN|apply Kd.R_drew));exact HO_15.out) hb);have n3_:=Aside0.mk (blk_below (g:=gb282) (o:= .cells #[.int .i64 a2_0,.int .i64 a2_1,.int .i64 a2_2,.int .i64 a2_3,.int .i64 a2_4] 25 (0,0)) (by (with_reducible repeat (first|refine blk_drewN ?_ _|refine blk_drew ?_|refine blk_alloc ?_ _));exact BK282.out) hb);have n4_:=Aside0.mk (below_step (by repeat (first|(with_reducible first|exact HB.out|apply below_alloc|apply pw_below_drewN|apply below_drew1|refine below_set ?_ GE282.out)|exact HB.out)) hb);clear HO_11;clear HO_13;clear HO_15;clear BK282;clear HB;have HO_11:=n0_;have HO_13:=n1_;have HO_15:=n2_;have BK282:=n3_;have HB:=n4_;clear n0_ n1_ n2_ n3_ n4_;(try clear hb);(try clear hb2);(try clear hk);(try clear hi)));try go_wp2_with (first|(go_at_call 7;(with_reducible refine (parquetrylaw19_awake.calls kj12 t296 _ A69.out).mono ?_);rintro e w70 ⟨rfl,hb⟩;have n0_:=Aside0.mk (Kd.R_below (by (with_reducible repeat (first|apply Kd.R_alloc|apply Kd.R_drewN|apply Kd.R_drew));exact HO_11.out) hb);have n1_:=Aside0.mk (Kd.R_below (by (with_reducible repeat (first|apply Kd.R_alloc|apply Kd.R_drewN|apply Kd.R_drew));exact HO_13.out) hb);have n2_:=Aside0.mk (Kd.R_below (by (with_reducible repeat (first|apply Kd.R_alloc|apply Kd.R_drewN|apply Kd.R_drew));exact HO_15.out) hb);have n3_:=Aside0.mk (blk_below (g:=gb282) (o:= .cells #[.int .i64 a2_0,.int .i64 a2_1,.int .i64 a2_2,.int .i64 a2_3,.int .i64 a2_4] 25 (0,0)) (by (with_reducible repeat (first|refine blk_drewN ?_ _|refine blk_drew ?_|refine blk_alloc ?_ _));exact BK282.out) hb);have n4_:=Aside0.mk (below_step (by repeat (first|(with_reducible first|exact HB.out|apply below_alloc|apply pw_below_drewN|apply below_drew1|refine below_set ?_ GE282.out)|exact HB.out)) hb);clear HO_11;clear HO_13;clear HO_15;clear BK282;clear HB;have HO_11:=n0_;have HO_13:=n1_;have HO_15:=n2_;have BK282:=n3_;have HB:=n4_;clear n0_ n1_ n2_ n3_ n4_;(try clear hb);(try clear hb2);(try clear hk);(try clear hi))))
      go_ret
      exact ⟨by first|rfl|(simp [errW_none,errW_some] <;> rfl)|(simp [*,errW_none,errW_some] <;> rfl),by repeat (first|(with_reducible first|exact HB.out|apply below_alloc|apply pw_below_drewN|apply below_drew1|refine below_set ?_ GE282.out)|exact HB.out)⟩
def parquetrylaw19_PlaceAligns.Pure:Prop:= ∀ (l0:List (S36)) (l1:List Int) (a2_0:Int) (a2_1:Int) (a2_2:Int) (a2_3:Int) (a2_4:Int) (a3:Int) (a4:Int),l0.length≤maxLen→l0.length * 24≤140737488351232→(∀ x ∈ l0,(Lit.int .i64 x.f0).wf=true∧(Lit.int .i64 x.f1).wf=true∧(Lit.int .i64 x.f2).wf=true)→l1.length≤maxLen→l1.length * 8≤140737488351232→(∀ x ∈ l1,(Lit.int .i64 x).wf=true)→(Lit.int .i64 a2_0).wf=true→(Lit.int .i64 a2_1).wf=true→(Lit.int .i64 a2_2).wf=true→(Lit.int .i64 a2_3).wf=true→(Lit.int .i64 a2_4).wf=true→(Lit.int .i64 a3).wf=true→(Lit.int .i64 a4).wf=true→ ∃ k,parquetrylaw19_PlaceAligns.f k l0 l1 a2_0 a2_1 a2_2 a2_3 a2_4 a3 a4=some true
theorem parquetrylaw19_PlaceAligns.walk (P:parquetrylaw19_PlaceAligns.Pure) (a0:Option Addr) (cap0:Nat) (l0:List (S36)) (a1:Option Addr) (len1 cap1:Nat) (z1:List Int) (a2_0:Int) (a2_1:Int) (a2_2:Int) (a2_3:Int) (a2_4:Int) (a3:Int) (a4:Int) (w:World) (hr0:Kd.C k36 w a0 l0.length l0) (hc0:l0.length≤cap0) (hm0:l0.length≤maxLen) (y0:l0.length * 24≤140737488351232) (hw0: ∀ x ∈ l0,(Lit.int .i64 x.f0).wf=true∧(Lit.int .i64 x.f1).wf=true∧(Lit.int .i64 x.f2).wf=true) (w1:(a1=none∧len1=0∧cap1=0∧z1=[])∨ ∃ x,a1=some x∧len1≤cap1∧cap1≤maxLen∧z1.length=cap1∧(∀ i,i < z1.length→w.cell? (x.add i)=some (.int .i64 (z1.getD i 0)))∧ ∀ n ∈ z1,(Lit.int .i64 n).wf=true) (y1:len1 * 8≤140737488351232) (w2_0:(Lit.int .i64 a2_0).wf=true) (w2_1:(Lit.int .i64 a2_1).wf=true) (w2_2:(Lit.int .i64 a2_2).wf=true) (w2_3:(Lit.int .i64 a2_3).wf=true) (w2_4:(Lit.int .i64 a2_4).wf=true) (w3:(Lit.int .i64 a3).wf=true) (w4:(Lit.int .i64 a4).wf=true) :
  Calls Try.prog 5 #[.slice a0 l0.length cap0,.slice a1 len1 cap1,.agg #[.int .i64 a2_0,.int .i64 a2_1,.int .i64 a2_2,.int .i64 a2_3,.int .i64 a2_4],.int .i64 a3,.int .i64 a4] w fun e w'=>e= .returned (.bool true)∧Below w.heap.size w w':=by
 obtain ⟨l1,rfl,hr1,hm1,hw1,hc1⟩:=ReadsInt.ofRowC w1
 obtain ⟨k,h⟩:=P l0 l1 a2_0 a2_1 a2_2 a2_3 a2_4 a3 a4 hm0 y0 hw0 hm1 y1 hw1 w2_0 w2_1 w2_2 w2_3 w2_4 w3 w4
 refine (parquetrylaw19_PlaceAligns.calls k _ _ l0 _ _ l1 a2_0 a2_1 a2_2 a2_3 a2_4 a3 a4 true w hr0 hc0 (Kd.C_of_reads (d:=(0:Int)) (h1:=fun _=>rfl) hr1) hc1 h).mono ?_
 rintro e w' ⟨rfl,hd⟩
 exact ⟨rfl,hd⟩
end Go.Proofs.Yteoaegigjlhamaa.PC19
