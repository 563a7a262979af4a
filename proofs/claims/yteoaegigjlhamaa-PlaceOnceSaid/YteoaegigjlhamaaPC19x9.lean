/- For the laws of the group C19: the Lean functions that the Go functions compute, and proofs that they do. Written by wip/hprint.py of this repo over the kit's printer; nothing here is trusted: Lean checks it. -/
import Derived.Test.YteoaegigjlhamaaPC19x0
import Derived.Test.YteoaegigjlhamaaPC19x6
import Derived.Test.YteoaegigjlhamaaPC19x8
namespace Go.Proofs.Yteoaegigjlhamaa.PC19
open Go.RowKit Go.Proofs.YteoaegigjlhamaaW.PrintWords Go.Proofs.YteoaegigjlhamaaW.PrintLast Go.Proofs.YteoaegigjlhamaaW.PrintMore
attribute [local go_sem] max2_int min2_int max_two min_two max_three min_three max_four min_four
set_option linter.unusedVariables false
set_option linter.unusedSimpArgs false
/-! ### place_begin:function 17 -/
def place_begin.f (l0:List (S36)) (l1:List Int) (a2_0:Int) (a2_1:Int) (a2_2:Int) (a2_3:Int) (a2_4:Int) (a3:Int):Option (Int × Int × Int × Int × Int × (List (S40)) × List Int × Int × Bool):=(cluster_Of.f l0).bind fun t123=>((place_has.f a2_0 a2_1 a2_2 a2_3 a2_4 (t123.length:Int)).bind fun t127=>(if t127=true then (if a2_0 < a2_1 then (if 0≤(wrap64 (a2_1 - 1)) then (if (wrap64 (a2_1 - 1)) < (t123.length:Int) then (if 0≤a2_0 then (if a2_0 < (t123.length:Int) then (if 0≤((rd_T40 t123 a2_0).f2) then (if ((rd_T40 t123 a2_0).f2)≤((rd_T40 t123 (wrap64 (a2_1 - 1))).f3) then (if ((rd_T40 t123 (wrap64 (a2_1 - 1))).f3)≤(l0.length:Int) then (if ((rd_T40 t123 (wrap64 (a2_1 - 1))).f3)≤(l1.length:Int) then ((bidi_Line.f ((l0.take (((rd_T40 t123 (wrap64 (a2_1 - 1))).f3):Int).toNat).drop (((rd_T40 t123 a2_0).f2):Int).toNat) ((l1.take (((rd_T40 t123 (wrap64 (a2_1 - 1))).f3):Int).toNat).drop (((rd_T40 t123 a2_0).f2):Int).toNat) a3).bind fun t135=>(some (a2_0,a2_1,a2_2,a2_3,a2_4,t123,t135,(rd_T40 t123 a2_0).f2,true))) else (none)) else (none)) else (none)) else (none)) else (none)) else (none)) else (none)) else (none)) else (some (a2_0,a2_1,a2_2,a2_3,a2_4,t123,([]:List Int),0,true))) else (some (0,0,0,0,0,([]:List (S40)),([]:List Int),0,false))))
def place_begin.T7:Bool × List (List Nat × List Nat):=(true,[([],[]),([],[]),([1],[1]),([],[]),([0,2,3],[0,2,3]),([],[]),([],[]),([6],[6]),([],[]),([5,7,8],[5,7,8]),([],[]),([4,9,10],[4,9,10]),([0,1,2,3,4,5,6,7,8,9,10,11],[]),([12,11,11,0,1,2,3,4,5,6,7,8,9,10,11],[11,12])])
def place_begin.B7:List Nat:=[0,0,2,0,15,0,0,64,0,480,0,2047,4095,8191]
theorem place_begin.tab7:rtab .any (opsOf Try.f17 7)=place_begin.T7:=by kernel_rfl
theorem place_begin.bits7:waitsOk place_begin.T7.2 place_begin.B7=true:=by kernel_rfl
set_option maxHeartbeats 8000000 in
set_option maxRecDepth 100000 in
theorem place_begin.calls (A0:Option Addr) (c0:Nat) (l0:List (S36)) (A1:Option Addr) (c1:Nat) (l1:List Int) (a2_0:Int) (a2_1:Int) (a2_2:Int) (a2_3:Int) (a2_4:Int) (a3:Int) (r1:Int) (r2:Int) (r3:Int) (r4:Int) (r5:Int) (r6:List (S40)) (r7:List Int) (r8:Int) (r9:Bool) (w:World) (hr0:Kd.C k36 w A0 l0.length l0) (hc0:l0.length≤c0) (hr1:Kd.C (Kd.int .i64) w A1 l1.length l1) (hc1:l1.length≤c1) (h:place_begin.f l0 l1 a2_0 a2_1 a2_2 a2_3 a2_4 a3=some (r1,r2,r3,r4,r5,r6,r7,r8,r9)) :
  Calls Try.prog 17 #[.slice A0 l0.length c0,.slice A1 l1.length c1,.agg #[.int .i64 a2_0,.int .i64 a2_1,.int .i64 a2_2,.int .i64 a2_3,.int .i64 a2_4],.int .i64 a3] w fun e w'=> ∃ v5_ v6_:Value,e= .returned (.tuple #[.agg #[.int .i64 r1,.int .i64 r2,.int .i64 r3,.int .i64 r4,.int .i64 r5,v5_,v6_,.int .i64 r8],.bool r9])∧Kd.R k40 40 w' w.heap.size (fun _=>True) v5_ r6∧Kd.R (Kd.int .i64) 3 w' w.heap.size (fun _=>True) v6_ r7∧Below w.heap.size w w':=by
 have hu25:=Try.underlying25
 have hu50:=Try.underlying50
 have HR0:=Aside0.mk hr0
 have HC0:=Aside0.mk hc0
 clear hr0 hc0
 have HR1:=Aside0.mk hr1
 have HC1:=Aside0.mk hc1
 clear hr1 hc1
 have HB:=Aside0.mk (Below.refl w.heap.size w)
 have H:((cluster_Of.f l0).bind fun t123=>((place_has.f a2_0 a2_1 a2_2 a2_3 a2_4 (t123.length:Int)).bind fun t127=>(if t127=true then (if a2_0 < a2_1 then (if 0≤(wrap64 (a2_1 - 1)) then (if (wrap64 (a2_1 - 1)) < (t123.length:Int) then (if 0≤a2_0 then (if a2_0 < (t123.length:Int) then (if 0≤((rd_T40 t123 a2_0).f2) then (if ((rd_T40 t123 a2_0).f2)≤((rd_T40 t123 (wrap64 (a2_1 - 1))).f3) then (if ((rd_T40 t123 (wrap64 (a2_1 - 1))).f3)≤(l0.length:Int) then (if ((rd_T40 t123 (wrap64 (a2_1 - 1))).f3)≤(l1.length:Int) then ((bidi_Line.f ((l0.take (((rd_T40 t123 (wrap64 (a2_1 - 1))).f3):Int).toNat).drop (((rd_T40 t123 a2_0).f2):Int).toNat) ((l1.take (((rd_T40 t123 (wrap64 (a2_1 - 1))).f3):Int).toNat).drop (((rd_T40 t123 a2_0).f2):Int).toNat) a3).bind fun t135=>(some (a2_0,a2_1,a2_2,a2_3,a2_4,t123,t135,(rd_T40 t123 a2_0).f2,true))) else (none)) else (none)) else (none)) else (none)) else (none)) else (none)) else (none)) else (none)) else (some (a2_0,a2_1,a2_2,a2_3,a2_4,t123,([]:List Int),0,true))) else (some (0,0,0,0,0,([]:List (S40)),([]:List Int),0,false)))))=some (r1,r2,r3,r4,r5,r6,r7,r8,r9):=h
 clear h
 replace H:=Option.bind_eq_some_iff.mp H
 obtain ⟨t123,A50,H⟩:=H
 replace H:((place_has.f a2_0 a2_1 a2_2 a2_3 a2_4 (t123.length:Int)).bind fun t127=>(if t127=true then (if a2_0 < a2_1 then (if 0≤(wrap64 (a2_1 - 1)) then (if (wrap64 (a2_1 - 1)) < (t123.length:Int) then (if 0≤a2_0 then (if a2_0 < (t123.length:Int) then (if 0≤((rd_T40 t123 a2_0).f2) then (if ((rd_T40 t123 a2_0).f2)≤((rd_T40 t123 (wrap64 (a2_1 - 1))).f3) then (if ((rd_T40 t123 (wrap64 (a2_1 - 1))).f3)≤(l0.length:Int) then (if ((rd_T40 t123 (wrap64 (a2_1 - 1))).f3)≤(l1.length:Int) then ((bidi_Line.f ((l0.take (((rd_T40 t123 (wrap64 (a2_1 - 1))).f3):Int).toNat).drop (((rd_T40 t123 a2_0).f2):Int).toNat) ((l1.take (((rd_T40 t123 (wrap64 (a2_1 - 1))).f3):Int).toNat).drop (((rd_T40 t123 a2_0).f2):Int).toNat) a3).bind fun t135=>(some (a2_0,a2_1,a2_2,a2_3,a2_4,t123,t135,(rd_T40 t123 a2_0).f2,true))) else (none)) else (none)) else (none)) else (none)) else (none)) else (none)) else (none)) else (none)) else (some (a2_0,a2_1,a2_2,a2_3,a2_4,t123,([]:List Int),0,true))) else (some (0,0,0,0,0,([]:List (S40)),([]:List Int),0,false))))=some (r1,r2,r3,r4,r5,r6,r7,r8,r9):=H
 have A5:=Aside0.mk A50
 clear A50
 replace H:=Option.bind_eq_some_iff.mp H
 obtain ⟨t127,A60,H⟩:=H
 replace H:(if t127=true then (if a2_0 < a2_1 then (if 0≤(wrap64 (a2_1 - 1)) then (if (wrap64 (a2_1 - 1)) < (t123.length:Int) then (if 0≤a2_0 then (if a2_0 < (t123.length:Int) then (if 0≤((rd_T40 t123 a2_0).f2) then (if ((rd_T40 t123 a2_0).f2)≤((rd_T40 t123 (wrap64 (a2_1 - 1))).f3) then (if ((rd_T40 t123 (wrap64 (a2_1 - 1))).f3)≤(l0.length:Int) then (if ((rd_T40 t123 (wrap64 (a2_1 - 1))).f3)≤(l1.length:Int) then ((bidi_Line.f ((l0.take (((rd_T40 t123 (wrap64 (a2_1 - 1))).f3):Int).toNat).drop (((rd_T40 t123 a2_0).f2):Int).toNat) ((l1.take (((rd_T40 t123 (wrap64 (a2_1 - 1))).f3):Int).toNat).drop (((rd_T40 t123 a2_0).f2):Int).toNat) a3).bind fun t135=>(some (a2_0,a2_1,a2_2,a2_3,a2_4,t123,t135,(rd_T40 t123 a2_0).f2,true))) else (none)) else (none)) else (none)) else (none)) else (none)) else (none)) else (none)) else (none)) else (some (a2_0,a2_1,a2_2,a2_3,a2_4,t123,([]:List Int),0,true))) else (some (0,0,0,0,0,([]:List (S40)),([]:List Int),0,false)))=some (r1,r2,r3,r4,r5,r6,r7,r8,r9):=H
 have A6:=Aside0.mk A60
 clear A60
 by_cases c7:t127=true
 ·
  subst c7
  have H1:(if a2_0 < a2_1 then (if 0≤(wrap64 (a2_1 - 1)) then (if (wrap64 (a2_1 - 1)) < (t123.length:Int) then (if 0≤a2_0 then (if a2_0 < (t123.length:Int) then (if 0≤((rd_T40 t123 a2_0).f2) then (if ((rd_T40 t123 a2_0).f2)≤((rd_T40 t123 (wrap64 (a2_1 - 1))).f3) then (if ((rd_T40 t123 (wrap64 (a2_1 - 1))).f3)≤(l0.length:Int) then (if ((rd_T40 t123 (wrap64 (a2_1 - 1))).f3)≤(l1.length:Int) then ((bidi_Line.f ((l0.take (((rd_T40 t123 (wrap64 (a2_1 - 1))).f3):Int).toNat).drop (((rd_T40 t123 a2_0).f2):Int).toNat) ((l1.take (((rd_T40 t123 (wrap64 (a2_1 - 1))).f3):Int).toNat).drop (((rd_T40 t123 a2_0).f2):Int).toNat) a3).bind fun t135=>(some (a2_0,a2_1,a2_2,a2_3,a2_4,t123,t135,(rd_T40 t123 a2_0).f2,true))) else (none)) else (none)) else (none)) else (none)) else (none)) else (none)) else (none)) else (none)) else (some (a2_0,a2_1,a2_2,a2_3,a2_4,t123,([]:List Int),0,true)))=some (r1,r2,r3,r4,r5,r6,r7,r8,r9):=by rw [if_pos rfl] at H;exact H
  clear H
  have H:=H1
  clear H1
  by_cases c8:a2_0 < a2_1
  ·
   rw [if_pos c8] at H
   have c8b0:decide (a2_0 < a2_1)=true:=decide_eq_true c8
   clear c8
   obtain ⟨ji9,hji9⟩: ∃ j_:Int,(wrap64 (a2_1 - 1))=j_:=⟨_,rfl⟩
   replace H:(if 0≤(ji9) then (if (ji9) < (t123.length:Int) then (if 0≤a2_0 then (if a2_0 < (t123.length:Int) then (if 0≤((rd_T40 t123 a2_0).f2) then (if ((rd_T40 t123 a2_0).f2)≤((rd_T40 t123 (ji9)).f3) then (if ((rd_T40 t123 (ji9)).f3)≤(l0.length:Int) then (if ((rd_T40 t123 (ji9)).f3)≤(l1.length:Int) then ((bidi_Line.f ((l0.take (((rd_T40 t123 (ji9)).f3):Int).toNat).drop (((rd_T40 t123 a2_0).f2):Int).toNat) ((l1.take (((rd_T40 t123 (ji9)).f3):Int).toNat).drop (((rd_T40 t123 a2_0).f2):Int).toNat) a3).bind fun t135=>(some (a2_0,a2_1,a2_2,a2_3,a2_4,t123,t135,(rd_T40 t123 a2_0).f2,true))) else (none)) else (none)) else (none)) else (none)) else (none)) else (none)) else (none)) else (none))=some (r1,r2,r3,r4,r5,r6,r7,r8,r9):=by first|(rw [hji9] at H;exact H)|(simp only [hji9] at H ⊢;exact H)
   (try rw [hji9] at A5)
   (try rw [hji9] at A6)
   have hji9w:(IntKind.i64.wrap (a2_1 - 1))=ji9:=(i64_w _).trans hji9
   by_cases c10:0≤(ji9)
   ·
    rw [if_pos c10] at H
    have c10b0:decide (0≤(ji9))=true:=decide_eq_true c10
    clear c10
    by_cases c11:(ji9) < (t123.length:Int)
    ·
     rw [if_pos c11] at H
     have c11b0:decide ((ji9) < (t123.length:Int))=true:=decide_eq_true c11
     clear c11
     by_cases c12:0≤a2_0
     ·
      rw [if_pos c12] at H
      have c12b0:decide (0≤a2_0)=true:=decide_eq_true c12
      clear c12
      by_cases c13:a2_0 < (t123.length:Int)
      ·
       rw [if_pos c13] at H
       have c13b0:decide (a2_0 < (t123.length:Int))=true:=decide_eq_true c13
       clear c13
       by_cases c14:0≤((rd_T40 t123 a2_0).f2)
       ·
        rw [if_pos c14] at H
        have c14b0:=eq_true c14
        have c14b1:decide (0≤((rd_T40 t123 a2_0).f2))=true:=decide_eq_true c14
        clear c14
        by_cases c15:((rd_T40 t123 a2_0).f2)≤((rd_T40 t123 (ji9)).f3)
        ·
         rw [if_pos c15] at H
         have c15b0:=eq_true c15
         have c15b1:decide (((rd_T40 t123 a2_0).f2)≤((rd_T40 t123 (ji9)).f3))=true:=decide_eq_true c15
         clear c15
         by_cases c16:((rd_T40 t123 (ji9)).f3)≤(l0.length:Int)
         ·
          rw [if_pos c16] at H
          have c16b0:=eq_true c16
          have c16b1:decide (((rd_T40 t123 (ji9)).f3)≤(l0.length:Int))=true:=decide_eq_true c16
          clear c16
          obtain ⟨y130,hy130⟩: ∃ y_:List (S36),y_=((l0.take (((rd_T40 t123 (ji9)).f3):Int).toNat).drop (((rd_T40 t123 a2_0).f2):Int).toNat):=⟨_,rfl⟩
          replace H:(if ((rd_T40 t123 (ji9)).f3)≤(l1.length:Int) then ((bidi_Line.f y130 ((l1.take (((rd_T40 t123 (ji9)).f3):Int).toNat).drop (((rd_T40 t123 a2_0).f2):Int).toNat) a3).bind fun t135=>(some (a2_0,a2_1,a2_2,a2_3,a2_4,t123,t135,(rd_T40 t123 a2_0).f2,true))) else (none))=some (r1,r2,r3,r4,r5,r6,r7,r8,r9):=by first|(rw [hy130];with_reducible exact H)|(have H2_:=(Option.bind_some _ _).symm.trans H;rw [hy130];with_reducible exact H2_)|(have H2_:=(Option.bind_some _ _).symm.trans H;with_reducible exact H2_)|with_reducible exact H|(rw [hy130];exact H)|exact H
          have Ny130:=Aside0.mk hy130
          clear hy130
          have c17b0:=eq_true (of_decide_eq_true (by first|(with_reducible assumption)|assumption):0≤((rd_T40 t123 a2_0).f2))
          have c18b0:=eq_true (of_decide_eq_true (by first|(with_reducible assumption)|assumption):((rd_T40 t123 a2_0).f2)≤((rd_T40 t123 (ji9)).f3))
          by_cases c19:((rd_T40 t123 (ji9)).f3)≤(l1.length:Int)
          ·
           rw [if_pos c19] at H
           have c19b0:=eq_true c19
           have c19b1:decide (((rd_T40 t123 (ji9)).f3)≤(l1.length:Int))=true:=decide_eq_true c19
           clear c19
           replace H:=Option.bind_eq_some_iff.mp H
           obtain ⟨t135,A200,H⟩:=H
           replace H:(some (a2_0,a2_1,a2_2,a2_3,a2_4,t123,t135,(rd_T40 t123 a2_0).f2,true))=some (r1,r2,r3,r4,r5,r6,r7,r8,r9):=H
           have A20:=Aside0.mk A200
           clear A200
           simp only [Option.some.injEq,Prod.mk.injEq] at H
           obtain ⟨rfl,rfl,rfl,rfl,rfl,rfl,rfl,rfl,rfl⟩:=H
           go_enter Try.func17,Try.ntmps17
           try go_wp2_with (first|((with_reducible refine gate_dst (N:=6) rfl ?_);refine box_event ?hg (N:=6) ?hd (cs:= #[.int .i64 a2_0,.int .i64 a2_1,.int .i64 a2_2,.int .i64 a2_3,.int .i64 a2_4]) (t:=25) ?hr ?_;(case hd=>rfl);(case hg=>rfl);(case hr=>first|(go_simp;done)|(go_simp;rfl));intro gb121 hg w21 hbox hb;have n0_:=Aside0.mk (below_step (by repeat (first|(with_reducible first|exact HB.out|apply below_alloc|apply pw_below_drewN|apply below_drew1)|exact HB.out)) hb);have n1_:=Aside0.mk (hbox);have n2_:=Aside0.mk ((by rw [hg];exact (below_size (by repeat (first|(with_reducible first|exact HB.out|apply below_alloc|apply pw_below_drewN|apply below_drew1)|exact HB.out))):w.heap.size≤gb121));have n3_:=Aside0.mk ((by rw [hg];exact (below_size (by repeat (first|(with_reducible first|exact HB.out|apply below_alloc|apply pw_below_drewN|apply below_drew1)|exact HB.out))):w.heap.size≤gb121));clear HB;have HB:=n0_;have BK121:=n1_;have GW121:=n2_;have GE121:=n3_;clear n0_ n1_ n2_ n3_;clear hb hbox hg)|((with_reducible refine gate_dst (N:=8) rfl ?_);refine box_event ?hg (N:=8) ?hd (cs:= #[.int .i64 0,.int .i64 0,.int .i64 0,.int .i64 0,.int .i64 0,.slice none 0 0,.slice none 0 0,.int .i64 0]) (t:=50) ?hr ?_;(case hd=>rfl);(case hg=>rfl);(case hr=>first|(go_simp;done)|(go_simp;rfl));intro gb122 hg w22 hbox hb;have n0_:=Aside0.mk (blk_below (g:=gb121) (o:= .cells #[.int .i64 a2_0,.int .i64 a2_1,.int .i64 a2_2,.int .i64 a2_3,.int .i64 a2_4] 25 (0,0)) (by (with_reducible repeat (first|refine blk_drewN ?_ _|refine blk_drew ?_|refine blk_alloc ?_ _));exact BK121.out) hb);have n1_:=Aside0.mk (below_step (by repeat (first|(with_reducible first|exact HB.out|apply below_alloc|apply pw_below_drewN|apply below_drew1|refine below_set ?_ GE121.out)|exact HB.out)) hb);have n2_:=Aside0.mk (hbox);have n3_:=Aside0.mk ((by rw [hg];exact (below_size (by repeat (first|(with_reducible first|exact HB.out|apply below_alloc|apply pw_below_drewN|apply below_drew1|refine below_set ?_ GE121.out)|exact HB.out))):w.heap.size≤gb122));have n4_:=Aside0.mk ((by rw [hg];exact (below_size (by repeat (first|(with_reducible first|exact HB.out|apply below_alloc|apply pw_below_drewN|apply below_drew1|refine below_set ?_ GE121.out)|exact HB.out))):w.heap.size≤gb122));have n5_:=Aside0.mk ((by rw [hg];exact Nat.ne_of_lt (blk_lt (g:=gb121) (o:= .cells #[.int .i64 a2_0,.int .i64 a2_1,.int .i64 a2_2,.int .i64 a2_3,.int .i64 a2_4] 25 (0,0)) (by (with_reducible repeat (first|refine blk_drewN ?_ _|refine blk_drew ?_|refine blk_alloc ?_ _));exact BK121.out)):gb121≠gb122));have n6_:=Aside0.mk ((by rw [hg];exact Nat.ne_of_gt (blk_lt (g:=gb121) (o:= .cells #[.int .i64 a2_0,.int .i64 a2_1,.int .i64 a2_2,.int .i64 a2_3,.int .i64 a2_4] 25 (0,0)) (by (with_reducible repeat (first|refine blk_drewN ?_ _|refine blk_drew ?_|refine blk_alloc ?_ _));exact BK121.out)):gb122≠gb121));clear BK121;clear HB;have BK121:=n0_;have HB:=n1_;have BK122:=n2_;have GW122:=n3_;have GE122:=n4_;have NB121_122:=n5_;have NB122_121:=n6_;clear n0_ n1_ n2_ n3_ n4_ n5_ n6_;clear hb hbox hg))
           have n0_:=Aside0.mk (blk_drew BK121.out)
           have n1_:=Aside0.mk (blk_drew BK122.out)
           have n2_:=Aside0.mk (below_drew1 HB.out)
           clear BK121
           clear BK122
           clear HB
           have BK121:=n0_
           have BK122:=n1_
           have HB:=n2_
           clear n0_ n1_ n2_
           refine start_ (n:=6) (S:=fun w'=>w'.cell? ⟨gb121,0,none⟩=some (.int .i64 a2_0)∧w'.cell? ⟨gb121,1,none⟩=some (.int .i64 a2_1)∧w'.cell? ⟨gb121,2,none⟩=some (.int .i64 a2_2)∧w'.cell? ⟨gb121,3,none⟩=some (.int .i64 a2_3)∧w'.cell? ⟨gb121,4,none⟩=some (.int .i64 a2_4)) (ds:=[]) #[false,false,false,false,false,false] (by kernel_rfl) rfl rfl ⟨(blk_cell BK121.out 0).trans rfl,(blk_cell BK121.out 1).trans rfl,(blk_cell BK121.out 2).trans rfl,(blk_cell BK121.out 3).trans rfl,(blk_cell BK121.out 4).trans rfl⟩ (fun hHeld=>?_)
           generalize w22.drew=w23 at BK121 BK122 HB hHeld ⊢
           refine pure_ (i:=1) (N:=some 13) (v:=?_) (a':=?_) #[false,true,false,false,false,false] rfl rfl (by kernel_rfl) (fun _ _ _ h=>h) (Or.inl ⟨by rfl,?_⟩) ?_ ?_
           rotate_left
           ·
            intro w'
            go_simp
            with_reducible rfl
           rotate_left
           ·
            simp only [Act.put,List.setIfInBounds_toArray,List.set_cons_zero,List.set_cons_succ,i64_w,i32_w]
            rfl
           refine take_ (i:=0) (N:=some 12) (v:=?_) (a':=?_) #[true,true,false,false,false,false] rfl rfl (by kernel_rfl) (fun _ _ _ h=>h) (Or.inl ⟨by rfl,?_⟩) hHeld ?_ ?_
           rotate_left
           ·
            rintro w' ⟨s0,s1,s2,s3,s4⟩
            go_simp
            with_reducible rfl
           rotate_left
           ·
            simp only [Act.put,List.setIfInBounds_toArray,List.set_cons_zero,List.set_cons_succ,i64_w,i32_w]
            rfl
           refine join_ (σ:=Value × Nat) 1 #[true,true,true,true,true,false] (fun s_=>[(14,s_.1),(10,.pointer (some ⟨s_.2,0,none⟩)),(15,.agg #[.int .i64 a2_0,.int .i64 a2_1,.int .i64 a2_2,.int .i64 a2_3,.int .i64 a2_4,s_.1,.slice none 0 0,.int .i64 0])]) (fun s_ w'=>(w'.cell? ⟨gb121,0,none⟩=some (.int .i64 a2_0)∧w'.cell? ⟨gb121,1,none⟩=some (.int .i64 a2_1)∧w'.cell? ⟨gb121,2,none⟩=some (.int .i64 a2_2)∧w'.cell? ⟨gb121,3,none⟩=some (.int .i64 a2_3)∧w'.cell? ⟨gb121,4,none⟩=some (.int .i64 a2_4))∧(Kd.R k40 40 w' w.heap.size (fun _=>True) s_.1 t123)∧(w'.heap[gb121]?=some (.cells #[.int .i64 a2_0,.int .i64 a2_1,.int .i64 a2_2,.int .i64 a2_3,.int .i64 a2_4] 25 (0,0)))∧(w'.heap[gb122]?=some (.cells #[.int .i64 0,.int .i64 0,.int .i64 0,.int .i64 0,.int .i64 0,.slice none 0 0,.slice none 0 0,.int .i64 0] 50 (0,0)))∧(w'.heap[s_.2]?=some (.cells #[.int .i64 0,.int .i64 0,.int .i64 0,.int .i64 0,.int .i64 0,.slice none 0 0,.slice none 0 0,.int .i64 0] 50 (0,0)))∧(w.heap.size≤s_.2)∧(w.heap.size≤s_.2)∧(gb121≠s_.2)∧(s_.2≠gb121)∧(gb122≠s_.2)∧(s_.2≠gb122)∧(Below w.heap.size w w')) ?_ ?_
           rotate_left
           ·
            intro hCont
            refine two_ (i:=2) (j:=4) (Ni:=some 14) (Nj:=some 10) #[true,true,true,false,false,false] #[true,true,false,false,true,false] rfl rfl rfl rfl (by kernel_rfl) (by decide) (by decide) (fun K hK=>?_) (fun K hK=>?_)
            ·
             skip
             refine goes_ Try.func13 (by kernel_rfl) rfl #[.slice A0 l0.length c0] (by rfl) rfl rfl (by (try simp only [List.map_toArray,List.map_cons,List.map_nil]);first|done|rfl|(simp only [List.length_drop,List.length_take];rfl)) ?_
             with_reducible refine (cluster_Of.calls _ _ l0 t123 _ ?side1 ?side2 A5.out).mono ?_
             (case side1=>repeat (first|exact (Kd.C_below HR0.out HB.out)|(with_reducible refine Kd.C_alloc ?_ _)|(with_reducible refine Kd.C_drewN ?_ _)|(with_reducible refine Kd.C_drew ?_)))
             (case side2=>exact HC0.out)
             rintro e w24 ⟨v124,rfl,ho0,hb⟩
             refine ⟨_,rfl,?_⟩
             have n0_:=Aside0.mk (Kd.R_lower ho0 (below_size (by repeat (first|(with_reducible first|exact HB.out|apply below_alloc|apply pw_below_drewN|apply below_drew1|refine below_set ?_ GE121.out|refine below_set ?_ GE122.out)|exact HB.out))))
             have n1_:=Aside0.mk (blk_below (g:=gb121) (o:= .cells #[.int .i64 a2_0,.int .i64 a2_1,.int .i64 a2_2,.int .i64 a2_3,.int .i64 a2_4] 25 (0,0)) (by (with_reducible repeat (first|refine blk_drewN ?_ _|refine blk_drew ?_|refine blk_alloc ?_ _));exact BK121.out) hb)
             have n2_:=Aside0.mk (blk_below (g:=gb122) (o:= .cells #[.int .i64 0,.int .i64 0,.int .i64 0,.int .i64 0,.int .i64 0,.slice none 0 0,.slice none 0 0,.int .i64 0] 50 (0,0)) (by (with_reducible repeat (first|refine blk_drewN ?_ _|refine blk_drew ?_|refine blk_alloc ?_ _));exact BK122.out) hb)
             have n3_:=Aside0.mk (below_step (by repeat (first|(with_reducible first|exact HB.out|apply below_alloc|apply pw_below_drewN|apply below_drew1|refine below_set ?_ GE121.out|refine below_set ?_ GE122.out)|exact HB.out)) hb)
             clear BK121
             clear BK122
             clear HB
             have HO125:=n0_
             have BK121:=n1_
             have BK122:=n2_
             have HB:=n3_
             clear n0_ n1_ n2_ n3_
             (try clear hb)
             (try clear hb2)
             (try clear hk)
             (try clear hi)
             (try clear ho0)
             obtain ⟨Ao25,co25,eo25⟩:=Kd.R_slice HO125.out
             (first|subst eo25|(injection eo25 with f1_ f2_ f3_;have f4_:=f1_.symm;have f5_:=f3_.symm;clear f1_ f2_ f3_;subst f4_;subst f5_))
             refine hK.out _ _ ⟨(blk_cell BK121.out 0).trans rfl,(blk_cell BK121.out 1).trans rfl,(blk_cell BK121.out 2).trans rfl,(blk_cell BK121.out 3).trans rfl,(blk_cell BK121.out 4).trans rfl⟩ (fun hHeld=>?_)
             clear hK K
             refine norm_ (a':=?_) ?_ ?_
             rotate_left
             ·
              show Act.put _ (some 14) _=_
              simp only [Act.put,List.setIfInBounds_toArray,List.set_cons_zero,List.set_cons_succ,i64_w,i32_w]
              rfl
             refine pure_ (i:=3) (N:=some 15) (v:=?_) (a':=?_) #[true,true,true,true,false,false] rfl rfl (by kernel_rfl) (fun _ _ _ h=>h) (Or.inl ⟨by rfl,?_⟩) ?_ ?_
             rotate_left
             ·
              intro w'
              go_simp
              with_reducible rfl
             rotate_left
             ·
              simp only [Act.put,List.setIfInBounds_toArray,List.set_cons_zero,List.set_cons_succ,i64_w,i32_w]
              rfl
             refine one_ (i:=4) (N:=some 10) #[true,true,true,true,true,false] rfl rfl (by kernel_rfl) (by decide) (fun K hK=>?_)
             refine box_step ?hg (N:=10) ?hd (cs:= #[.int .i64 0,.int .i64 0,.int .i64 0,.int .i64 0,.int .i64 0,.slice none 0 0,.slice none 0 0,.int .i64 0]) (t:=50) ?hr ?_;(case hd=>rfl);(case hg=>rfl);(case hr=>first|(go_simp;done)|(go_simp;rfl))
             intro gb126 hg w26 hbox hb
             have n0_:=Aside0.mk (Kd.R_below (by (with_reducible repeat (first|apply Kd.R_alloc|apply Kd.R_drewN|apply Kd.R_drew));exact HO125.out) hb)
             have n1_:=Aside0.mk (blk_below (g:=gb121) (o:= .cells #[.int .i64 a2_0,.int .i64 a2_1,.int .i64 a2_2,.int .i64 a2_3,.int .i64 a2_4] 25 (0,0)) (by (with_reducible repeat (first|refine blk_drewN ?_ _|refine blk_drew ?_|refine blk_alloc ?_ _));exact BK121.out) hb)
             have n2_:=Aside0.mk (blk_below (g:=gb122) (o:= .cells #[.int .i64 0,.int .i64 0,.int .i64 0,.int .i64 0,.int .i64 0,.slice none 0 0,.slice none 0 0,.int .i64 0] 50 (0,0)) (by (with_reducible repeat (first|refine blk_drewN ?_ _|refine blk_drew ?_|refine blk_alloc ?_ _));exact BK122.out) hb)
             have n3_:=Aside0.mk (below_step (by repeat (first|(with_reducible first|exact HB.out|apply below_alloc|apply pw_below_drewN|apply below_drew1|refine below_set ?_ GE121.out|refine below_set ?_ GE122.out)|exact HB.out)) hb)
             have n4_:=Aside0.mk (hbox)
             have n5_:=Aside0.mk ((by rw [hg];exact (below_size (by repeat (first|(with_reducible first|exact HB.out|apply below_alloc|apply pw_below_drewN|apply below_drew1|refine below_set ?_ GE121.out|refine below_set ?_ GE122.out)|exact HB.out))):w.heap.size≤gb126))
             have n6_:=Aside0.mk ((by rw [hg];exact (below_size (by repeat (first|(with_reducible first|exact HB.out|apply below_alloc|apply pw_below_drewN|apply below_drew1|refine below_set ?_ GE121.out|refine below_set ?_ GE122.out)|exact HB.out))):w.heap.size≤gb126))
             have n7_:=Aside0.mk ((by rw [hg];exact Nat.ne_of_lt (blk_lt (g:=gb121) (o:= .cells #[.int .i64 a2_0,.int .i64 a2_1,.int .i64 a2_2,.int .i64 a2_3,.int .i64 a2_4] 25 (0,0)) (by (with_reducible repeat (first|refine blk_drewN ?_ _|refine blk_drew ?_|refine blk_alloc ?_ _));exact BK121.out)):gb121≠gb126))
             have n8_:=Aside0.mk ((by rw [hg];exact Nat.ne_of_gt (blk_lt (g:=gb121) (o:= .cells #[.int .i64 a2_0,.int .i64 a2_1,.int .i64 a2_2,.int .i64 a2_3,.int .i64 a2_4] 25 (0,0)) (by (with_reducible repeat (first|refine blk_drewN ?_ _|refine blk_drew ?_|refine blk_alloc ?_ _));exact BK121.out)):gb126≠gb121))
             have n9_:=Aside0.mk ((by rw [hg];exact Nat.ne_of_lt (blk_lt (g:=gb122) (o:= .cells #[.int .i64 0,.int .i64 0,.int .i64 0,.int .i64 0,.int .i64 0,.slice none 0 0,.slice none 0 0,.int .i64 0] 50 (0,0)) (by (with_reducible repeat (first|refine blk_drewN ?_ _|refine blk_drew ?_|refine blk_alloc ?_ _));exact BK122.out)):gb122≠gb126))
             have n10_:=Aside0.mk ((by rw [hg];exact Nat.ne_of_gt (blk_lt (g:=gb122) (o:= .cells #[.int .i64 0,.int .i64 0,.int .i64 0,.int .i64 0,.int .i64 0,.slice none 0 0,.slice none 0 0,.int .i64 0] 50 (0,0)) (by (with_reducible repeat (first|refine blk_drewN ?_ _|refine blk_drew ?_|refine blk_alloc ?_ _));exact BK122.out)):gb126≠gb122))
             clear HO125
             clear BK121
             clear BK122
             clear HB
             have HO125:=n0_
             have BK121:=n1_
             have BK122:=n2_
             have HB:=n3_
             have BK126:=n4_
             have GW126:=n5_
             have GE126:=n6_
             have NB121_126:=n7_
             have NB126_121:=n8_
             have NB122_126:=n9_
             have NB126_122:=n10_
             clear n0_ n1_ n2_ n3_ n4_ n5_ n6_ n7_ n8_ n9_ n10_
             clear hb hbox hg
             refine hK.out _ _ ⟨(blk_cell BK121.out 0).trans rfl,(blk_cell BK121.out 1).trans rfl,(blk_cell BK121.out 2).trans rfl,(blk_cell BK121.out 3).trans rfl,(blk_cell BK121.out 4).trans rfl⟩ (fun hHeld=>?_)
             clear hK K
             refine norm_ (a':=?_) ?_ ?_
             rotate_left
             ·
              show Act.put _ (some 10) _=_
              simp only [Act.put,List.setIfInBounds_toArray,List.set_cons_zero,List.set_cons_succ,i64_w,i32_w]
              rfl
             exact norm_ (by simp only [putAll,Act.put,List.setIfInBounds_toArray,List.set_cons_zero,List.set_cons_succ]) (hCont (.slice Ao25 t123.length co25,gb126) _ ⟨hHeld,(by (with_reducible repeat (first|apply Kd.R_alloc|apply Kd.R_drewN|apply Kd.R_drew));exact HO125.out),(by (with_reducible repeat (first|refine blk_drewN ?_ _|refine blk_drew ?_|refine blk_alloc ?_ _));exact BK121.out),(by (with_reducible repeat (first|refine blk_drewN ?_ _|refine blk_drew ?_|refine blk_alloc ?_ _));exact BK122.out),(by (with_reducible repeat (first|refine blk_drewN ?_ _|refine blk_drew ?_|refine blk_alloc ?_ _));exact BK126.out),GW126.out,GE126.out,NB121_126.out,NB126_121.out,NB122_126.out,NB126_122.out,(by repeat (first|(with_reducible first|exact HB.out|apply below_alloc|apply pw_below_drewN|apply below_drew1|refine below_set ?_ GE121.out|refine below_set ?_ GE122.out|refine below_set ?_ GE126.out)|exact HB.out))⟩)
            ·
             skip
             refine box_step ?hg (N:=10) ?hd (cs:= #[.int .i64 0,.int .i64 0,.int .i64 0,.int .i64 0,.int .i64 0,.slice none 0 0,.slice none 0 0,.int .i64 0]) (t:=50) ?hr ?_;(case hd=>rfl);(case hg=>rfl);(case hr=>first|(go_simp;done)|(go_simp;rfl))
             intro gb126 hg w24 hbox hb
             have n0_:=Aside0.mk (blk_below (g:=gb121) (o:= .cells #[.int .i64 a2_0,.int .i64 a2_1,.int .i64 a2_2,.int .i64 a2_3,.int .i64 a2_4] 25 (0,0)) (by (with_reducible repeat (first|refine blk_drewN ?_ _|refine blk_drew ?_|refine blk_alloc ?_ _));exact BK121.out) hb)
             have n1_:=Aside0.mk (blk_below (g:=gb122) (o:= .cells #[.int .i64 0,.int .i64 0,.int .i64 0,.int .i64 0,.int .i64 0,.slice none 0 0,.slice none 0 0,.int .i64 0] 50 (0,0)) (by (with_reducible repeat (first|refine blk_drewN ?_ _|refine blk_drew ?_|refine blk_alloc ?_ _));exact BK122.out) hb)
             have n2_:=Aside0.mk (below_step (by repeat (first|(with_reducible first|exact HB.out|apply below_alloc|apply pw_below_drewN|apply below_drew1|refine below_set ?_ GE121.out|refine below_set ?_ GE122.out)|exact HB.out)) hb)
             have n3_:=Aside0.mk (hbox)
             have n4_:=Aside0.mk ((by rw [hg];exact (below_size (by repeat (first|(with_reducible first|exact HB.out|apply below_alloc|apply pw_below_drewN|apply below_drew1|refine below_set ?_ GE121.out|refine below_set ?_ GE122.out)|exact HB.out))):w.heap.size≤gb126))
             have n5_:=Aside0.mk ((by rw [hg];exact (below_size (by repeat (first|(with_reducible first|exact HB.out|apply below_alloc|apply pw_below_drewN|apply below_drew1|refine below_set ?_ GE121.out|refine below_set ?_ GE122.out)|exact HB.out))):w.heap.size≤gb126))
             have n6_:=Aside0.mk ((by rw [hg];exact Nat.ne_of_lt (blk_lt (g:=gb121) (o:= .cells #[.int .i64 a2_0,.int .i64 a2_1,.int .i64 a2_2,.int .i64 a2_3,.int .i64 a2_4] 25 (0,0)) (by (with_reducible repeat (first|refine blk_drewN ?_ _|refine blk_drew ?_|refine blk_alloc ?_ _));exact BK121.out)):gb121≠gb126))
             have n7_:=Aside0.mk ((by rw [hg];exact Nat.ne_of_gt (blk_lt (g:=gb121) (o:= .cells #[.int .i64 a2_0,.int .i64 a2_1,.int .i64 a2_2,.int .i64 a2_3,.int .i64 a2_4] 25 (0,0)) (by (with_reducible repeat (first|refine blk_drewN ?_ _|refine blk_drew ?_|refine blk_alloc ?_ _));exact BK121.out)):gb126≠gb121))
             have n8_:=Aside0.mk ((by rw [hg];exact Nat.ne_of_lt (blk_lt (g:=gb122) (o:= .cells #[.int .i64 0,.int .i64 0,.int .i64 0,.int .i64 0,.int .i64 0,.slice none 0 0,.slice none 0 0,.int .i64 0] 50 (0,0)) (by (with_reducible repeat (first|refine blk_drewN ?_ _|refine blk_drew ?_|refine blk_alloc ?_ _));exact BK122.out)):gb122≠gb126))
             have n9_:=Aside0.mk ((by rw [hg];exact Nat.ne_of_gt (blk_lt (g:=gb122) (o:= .cells #[.int .i64 0,.int .i64 0,.int .i64 0,.int .i64 0,.int .i64 0,.slice none 0 0,.slice none 0 0,.int .i64 0] 50 (0,0)) (by (with_reducible repeat (first|refine blk_drewN ?_ _|refine blk_drew ?_|refine blk_alloc ?_ _));exact BK122.out)):gb126≠gb122))
             clear BK121
             clear BK122
             clear HB
             have BK121:=n0_
             have BK122:=n1_
             have HB:=n2_
             have BK126:=n3_
             have GW126:=n4_
             have GE126:=n5_
             have NB121_126:=n6_
             have NB126_121:=n7_
             have NB122_126:=n8_
             have NB126_122:=n9_
             clear n0_ n1_ n2_ n3_ n4_ n5_ n6_ n7_ n8_ n9_
             clear hb hbox hg
             refine hK.out _ _ ⟨(blk_cell BK121.out 0).trans rfl,(blk_cell BK121.out 1).trans rfl,(blk_cell BK121.out 2).trans rfl,(blk_cell BK121.out 3).trans rfl,(blk_cell BK121.out 4).trans rfl⟩ (fun hHeld=>?_)
             clear hK K
             refine norm_ (a':=?_) ?_ ?_
             rotate_left
             ·
              show Act.put _ (some 10) _=_
              simp only [Act.put,List.setIfInBounds_toArray,List.set_cons_zero,List.set_cons_succ,i64_w,i32_w]
              rfl
             refine one_ (i:=2) (N:=some 14) #[true,true,true,false,true,false] rfl rfl (by kernel_rfl) (by decide) (fun K hK=>?_)
             refine goes_ Try.func13 (by kernel_rfl) rfl #[.slice A0 l0.length c0] (by rfl) rfl rfl (by (try simp only [List.map_toArray,List.map_cons,List.map_nil]);first|done|rfl|(simp only [List.length_drop,List.length_take];rfl)) ?_
             with_reducible refine (cluster_Of.calls _ _ l0 t123 _ ?side1 ?side2 A5.out).mono ?_
             (case side1=>repeat (first|exact (Kd.C_below HR0.out HB.out)|(with_reducible refine Kd.C_alloc ?_ _)|(with_reducible refine Kd.C_drewN ?_ _)|(with_reducible refine Kd.C_drew ?_)))
             (case side2=>exact HC0.out)
             rintro e w25 ⟨v124,rfl,ho0,hb⟩
             refine ⟨_,rfl,?_⟩
             have n0_:=Aside0.mk (Kd.R_lower ho0 (below_size (by repeat (first|(with_reducible first|exact HB.out|apply below_alloc|apply pw_below_drewN|apply below_drew1|refine below_set ?_ GE121.out|refine below_set ?_ GE122.out|refine below_set ?_ GE126.out)|exact HB.out))))
             have n1_:=Aside0.mk (blk_below (g:=gb121) (o:= .cells #[.int .i64 a2_0,.int .i64 a2_1,.int .i64 a2_2,.int .i64 a2_3,.int .i64 a2_4] 25 (0,0)) (by (with_reducible repeat (first|refine blk_drewN ?_ _|refine blk_drew ?_|refine blk_alloc ?_ _));exact BK121.out) hb)
             have n2_:=Aside0.mk (blk_below (g:=gb122) (o:= .cells #[.int .i64 0,.int .i64 0,.int .i64 0,.int .i64 0,.int .i64 0,.slice none 0 0,.slice none 0 0,.int .i64 0] 50 (0,0)) (by (with_reducible repeat (first|refine blk_drewN ?_ _|refine blk_drew ?_|refine blk_alloc ?_ _));exact BK122.out) hb)
             have n3_:=Aside0.mk (blk_below (g:=gb126) (o:= .cells #[.int .i64 0,.int .i64 0,.int .i64 0,.int .i64 0,.int .i64 0,.slice none 0 0,.slice none 0 0,.int .i64 0] 50 (0,0)) (by (with_reducible repeat (first|refine blk_drewN ?_ _|refine blk_drew ?_|refine blk_alloc ?_ _));exact BK126.out) hb)
             have n4_:=Aside0.mk (below_step (by repeat (first|(with_reducible first|exact HB.out|apply below_alloc|apply pw_below_drewN|apply below_drew1|refine below_set ?_ GE121.out|refine below_set ?_ GE122.out|refine below_set ?_ GE126.out)|exact HB.out)) hb)
             clear BK121
             clear BK122
             clear BK126
             clear HB
             have HO125:=n0_
             have BK121:=n1_
             have BK122:=n2_
             have BK126:=n3_
             have HB:=n4_
             clear n0_ n1_ n2_ n3_ n4_
             (try clear hb)
             (try clear hb2)
             (try clear hk)
             (try clear hi)
             (try clear ho0)
             obtain ⟨Ao26,co26,eo26⟩:=Kd.R_slice HO125.out
             (first|subst eo26|(injection eo26 with f1_ f2_ f3_;have f4_:=f1_.symm;have f5_:=f3_.symm;clear f1_ f2_ f3_;subst f4_;subst f5_))
             refine hK.out _ _ ⟨(blk_cell BK121.out 0).trans rfl,(blk_cell BK121.out 1).trans rfl,(blk_cell BK121.out 2).trans rfl,(blk_cell BK121.out 3).trans rfl,(blk_cell BK121.out 4).trans rfl⟩ (fun hHeld=>?_)
             clear hK K
             refine norm_ (a':=?_) ?_ ?_
             rotate_left
             ·
              show Act.put _ (some 14) _=_
              simp only [Act.put,List.setIfInBounds_toArray,List.set_cons_zero,List.set_cons_succ,i64_w,i32_w]
              rfl
             refine pure_ (i:=3) (N:=some 15) (v:=?_) (a':=?_) #[true,true,true,true,true,false] rfl rfl (by kernel_rfl) (fun _ _ _ h=>h) (Or.inl ⟨by rfl,?_⟩) ?_ ?_
             rotate_left
             ·
              intro w'
              go_simp
              with_reducible rfl
             rotate_left
             ·
              simp only [Act.put,List.setIfInBounds_toArray,List.set_cons_zero,List.set_cons_succ,i64_w,i32_w]
              rfl
             exact norm_ (by simp only [putAll,Act.put,List.setIfInBounds_toArray,List.set_cons_zero,List.set_cons_succ]) (hCont (.slice Ao26 t123.length co26,gb126) _ ⟨hHeld,(by (with_reducible repeat (first|apply Kd.R_alloc|apply Kd.R_drewN|apply Kd.R_drew));exact HO125.out),(by (with_reducible repeat (first|refine blk_drewN ?_ _|refine blk_drew ?_|refine blk_alloc ?_ _));exact BK121.out),(by (with_reducible repeat (first|refine blk_drewN ?_ _|refine blk_drew ?_|refine blk_alloc ?_ _));exact BK122.out),(by (with_reducible repeat (first|refine blk_drewN ?_ _|refine blk_drew ?_|refine blk_alloc ?_ _));exact BK126.out),GW126.out,GE126.out,NB121_126.out,NB126_121.out,NB122_126.out,NB126_122.out,(by repeat (first|(with_reducible first|exact HB.out|apply below_alloc|apply pw_below_drewN|apply below_drew1|refine below_set ?_ GE121.out|refine below_set ?_ GE122.out|refine below_set ?_ GE126.out)|exact HB.out))⟩)
           rintro ⟨v124,gb126⟩ w27 ⟨hS_,h0_,h1_,h2_,h3_,h4_,h5_,h6_,h7_,h8_,h9_,h10_⟩
           have n0_:Aside0 (Kd.R k40 40 w27 w.heap.size (fun _=>True) v124 t123):=⟨h0_⟩
           have n1_:Aside0 (w27.heap[gb121]?=some (.cells #[.int .i64 a2_0,.int .i64 a2_1,.int .i64 a2_2,.int .i64 a2_3,.int .i64 a2_4] 25 (0,0))):=⟨h1_⟩
           have n2_:Aside0 (w27.heap[gb122]?=some (.cells #[.int .i64 0,.int .i64 0,.int .i64 0,.int .i64 0,.int .i64 0,.slice none 0 0,.slice none 0 0,.int .i64 0] 50 (0,0))):=⟨h2_⟩
           have n3_:Aside0 (w27.heap[gb126]?=some (.cells #[.int .i64 0,.int .i64 0,.int .i64 0,.int .i64 0,.int .i64 0,.slice none 0 0,.slice none 0 0,.int .i64 0] 50 (0,0))):=⟨h3_⟩
           have n4_:Aside0 (w.heap.size≤gb126):=⟨h4_⟩
           have n5_:Aside0 (w.heap.size≤gb126):=⟨h5_⟩
           have n6_:Aside0 (gb121≠gb126):=⟨h6_⟩
           have n7_:Aside0 (gb126≠gb121):=⟨h7_⟩
           have n8_:Aside0 (gb122≠gb126):=⟨h8_⟩
           have n9_:Aside0 (gb126≠gb122):=⟨h9_⟩
           have n10_:Aside0 (Below w.heap.size w w27):=⟨h10_⟩
           clear BK121
           clear BK122
           clear HB
           clear h0_ h1_ h2_ h3_ h4_ h5_ h6_ h7_ h8_ h9_ h10_
           have HO125:=n0_
           have BK121:=n1_
           have BK122:=n2_
           have BK126:=n3_
           have GW126:=n4_
           have GE126:=n5_
           have NB121_126:=n6_
           have NB126_121:=n7_
           have NB122_126:=n8_
           have NB126_122:=n9_
           have HB:=n10_
           clear n0_ n1_ n2_ n3_ n4_ n5_ n6_ n7_ n8_ n9_ n10_
           have hHeld:w27.cell? ⟨gb121,0,none⟩=some (.int .i64 a2_0)∧w27.cell? ⟨gb121,1,none⟩=some (.int .i64 a2_1)∧w27.cell? ⟨gb121,2,none⟩=some (.int .i64 a2_2)∧w27.cell? ⟨gb121,3,none⟩=some (.int .i64 a2_3)∧w27.cell? ⟨gb121,4,none⟩=some (.int .i64 a2_4):=hS_
           obtain ⟨Ao28,co28,eo28⟩:=Kd.R_slice HO125.out
           (first|subst eo28|(injection eo28 with f1_ f2_ f3_;have f4_:=f1_.symm;have f5_:=f3_.symm;clear f1_ f2_ f3_;subst f4_;subst f5_))
           refine norm_ (a':=?_) ?_ ?_
           rotate_left
           ·
            simp only [putAll,Act.put,List.setIfInBounds_toArray,List.set_cons_zero,List.set_cons_succ]
            rfl
           refine one_ (i:=5) (N:=none) #[true,true,true,true,true,true] rfl rfl (by kernel_rfl) (by decide) (fun K hK=>?_)
           have hs29:w27.cell? ⟨gb126,0,none⟩=some (.int .i64 0):=(blk_cell BK126.out 0).trans rfl
           have hfs29:=blk_frozen BK126.out 0
           have hns29_0:=NB121_126.out
           have hns29_1:=NB122_126.out
           have hms29_0:=NB126_121.out
           have hms29_1:=NB126_122.out
           have hs30:w27.cell? ⟨gb126,1,none⟩=some (.int .i64 0):=(blk_cell BK126.out 1).trans rfl
           have hfs30:=blk_frozen BK126.out 1
           have hns30_0:=NB121_126.out
           have hns30_1:=NB122_126.out
           have hms30_0:=NB126_121.out
           have hms30_1:=NB126_122.out
           have hs31:w27.cell? ⟨gb126,2,none⟩=some (.int .i64 0):=(blk_cell BK126.out 2).trans rfl
           have hfs31:=blk_frozen BK126.out 2
           have hns31_0:=NB121_126.out
           have hns31_1:=NB122_126.out
           have hms31_0:=NB126_121.out
           have hms31_1:=NB126_122.out
           have hs32:w27.cell? ⟨gb126,3,none⟩=some (.int .i64 0):=(blk_cell BK126.out 3).trans rfl
           have hfs32:=blk_frozen BK126.out 3
           have hns32_0:=NB121_126.out
           have hns32_1:=NB122_126.out
           have hms32_0:=NB126_121.out
           have hms32_1:=NB126_122.out
           have hs33:w27.cell? ⟨gb126,4,none⟩=some (.int .i64 0):=(blk_cell BK126.out 4).trans rfl
           have hfs33:=blk_frozen BK126.out 4
           have hns33_0:=NB121_126.out
           have hns33_1:=NB122_126.out
           have hms33_0:=NB126_121.out
           have hms33_1:=NB126_122.out
           have hs34:w27.cell? ⟨gb126,5,none⟩=some (.slice none 0 0):=(blk_cell BK126.out 5).trans rfl
           have hfs34:=blk_frozen BK126.out 5
           have hns34_0:=NB121_126.out
           have hns34_1:=NB122_126.out
           have hms34_0:=NB126_121.out
           have hms34_1:=NB126_122.out
           have hs35:w27.cell? ⟨gb126,6,none⟩=some (.slice none 0 0):=(blk_cell BK126.out 6).trans rfl
           have hfs35:=blk_frozen BK126.out 6
           have hns35_0:=NB121_126.out
           have hns35_1:=NB122_126.out
           have hms35_0:=NB126_121.out
           have hms35_1:=NB126_122.out
           have hs36:w27.cell? ⟨gb126,7,none⟩=some (.int .i64 0):=(blk_cell BK126.out 7).trans rfl
           have hfs36:=blk_frozen BK126.out 7
           have hns36_0:=NB121_126.out
           have hns36_1:=NB122_126.out
           have hms36_0:=NB126_121.out
           have hms36_1:=NB126_122.out
           refine skip_ (w1:=?_) (by rfl) rfl ?_ ?_
           rotate_left
           ·
            go_simp
            rfl
           refine hK.out _ _ ⟨((cell_far (p:=⟨gb126,_,none⟩) NB121_126.out _).trans (((cell_far (p:=⟨gb126,_,none⟩) NB121_126.out _).trans (((cell_far (p:=⟨gb126,_,none⟩) NB121_126.out _).trans (((cell_far (p:=⟨gb126,_,none⟩) NB121_126.out _).trans (((cell_far (p:=⟨gb126,_,none⟩) NB121_126.out _).trans (((cell_far (p:=⟨gb126,_,none⟩) NB121_126.out _).trans (((cell_far (p:=⟨gb126,_,none⟩) NB121_126.out _).trans (((cell_far (p:=⟨gb126,_,none⟩) NB121_126.out _).trans (hHeld.1)))))))))))))))),((cell_far (p:=⟨gb126,_,none⟩) NB121_126.out _).trans (((cell_far (p:=⟨gb126,_,none⟩) NB121_126.out _).trans (((cell_far (p:=⟨gb126,_,none⟩) NB121_126.out _).trans (((cell_far (p:=⟨gb126,_,none⟩) NB121_126.out _).trans (((cell_far (p:=⟨gb126,_,none⟩) NB121_126.out _).trans (((cell_far (p:=⟨gb126,_,none⟩) NB121_126.out _).trans (((cell_far (p:=⟨gb126,_,none⟩) NB121_126.out _).trans (((cell_far (p:=⟨gb126,_,none⟩) NB121_126.out _).trans (hHeld.2.1)))))))))))))))),((cell_far (p:=⟨gb126,_,none⟩) NB121_126.out _).trans (((cell_far (p:=⟨gb126,_,none⟩) NB121_126.out _).trans (((cell_far (p:=⟨gb126,_,none⟩) NB121_126.out _).trans (((cell_far (p:=⟨gb126,_,none⟩) NB121_126.out _).trans (((cell_far (p:=⟨gb126,_,none⟩) NB121_126.out _).trans (((cell_far (p:=⟨gb126,_,none⟩) NB121_126.out _).trans (((cell_far (p:=⟨gb126,_,none⟩) NB121_126.out _).trans (((cell_far (p:=⟨gb126,_,none⟩) NB121_126.out _).trans (hHeld.2.2.1)))))))))))))))),((cell_far (p:=⟨gb126,_,none⟩) NB121_126.out _).trans (((cell_far (p:=⟨gb126,_,none⟩) NB121_126.out _).trans (((cell_far (p:=⟨gb126,_,none⟩) NB121_126.out _).trans (((cell_far (p:=⟨gb126,_,none⟩) NB121_126.out _).trans (((cell_far (p:=⟨gb126,_,none⟩) NB121_126.out _).trans (((cell_far (p:=⟨gb126,_,none⟩) NB121_126.out _).trans (((cell_far (p:=⟨gb126,_,none⟩) NB121_126.out _).trans (((cell_far (p:=⟨gb126,_,none⟩) NB121_126.out _).trans (hHeld.2.2.2.1)))))))))))))))),((cell_far (p:=⟨gb126,_,none⟩) NB121_126.out _).trans (((cell_far (p:=⟨gb126,_,none⟩) NB121_126.out _).trans (((cell_far (p:=⟨gb126,_,none⟩) NB121_126.out _).trans (((cell_far (p:=⟨gb126,_,none⟩) NB121_126.out _).trans (((cell_far (p:=⟨gb126,_,none⟩) NB121_126.out _).trans (((cell_far (p:=⟨gb126,_,none⟩) NB121_126.out _).trans (((cell_far (p:=⟨gb126,_,none⟩) NB121_126.out _).trans (((cell_far (p:=⟨gb126,_,none⟩) NB121_126.out _).trans (hHeld.2.2.2.2))))))))))))))))⟩ (fun hHeld=>?_)
           clear hK K
           refine done_ (by kernel_rfl) ?_
           have hnb37:=NB121_122.out
           have hnc37:=NB122_121.out
           have hnb38:=NB121_126.out
           have hnc38:=NB126_121.out
           have hcz39_0:w27.cell? ⟨gb121,0,none⟩=some (.int .i64 a2_0):=(blk_cell BK121.out 0).trans rfl
           have hcz39_1:w27.cell? ⟨gb121,1,none⟩=some (.int .i64 a2_1):=(blk_cell BK121.out 1).trans rfl
           have hcz39_2:w27.cell? ⟨gb121,2,none⟩=some (.int .i64 a2_2):=(blk_cell BK121.out 2).trans rfl
           have hcz39_3:w27.cell? ⟨gb121,3,none⟩=some (.int .i64 a2_3):=(blk_cell BK121.out 3).trans rfl
           have hcz39_4:w27.cell? ⟨gb121,4,none⟩=some (.int .i64 a2_4):=(blk_cell BK121.out 4).trans rfl
           have hfz39_0:=blk_frozen BK121.out 0
           have hfz39_1:=blk_frozen BK121.out 1
           have hfz39_2:=blk_frozen BK121.out 2
           have hfz39_3:=blk_frozen BK121.out 3
           have hfz39_4:=blk_frozen BK121.out 4
           have hnb40:=NB126_122.out
           have hnc40:=NB122_126.out
           have hcz41_0:w27.cell? ⟨gb126,0,none⟩=some (.int .i64 0):=(blk_cell BK126.out 0).trans rfl
           have hcz41_1:w27.cell? ⟨gb126,1,none⟩=some (.int .i64 0):=(blk_cell BK126.out 1).trans rfl
           have hcz41_2:w27.cell? ⟨gb126,2,none⟩=some (.int .i64 0):=(blk_cell BK126.out 2).trans rfl
           have hcz41_3:w27.cell? ⟨gb126,3,none⟩=some (.int .i64 0):=(blk_cell BK126.out 3).trans rfl
           have hcz41_4:w27.cell? ⟨gb126,4,none⟩=some (.int .i64 0):=(blk_cell BK126.out 4).trans rfl
           have hcz41_5:w27.cell? ⟨gb126,5,none⟩=some (.slice none 0 0):=(blk_cell BK126.out 5).trans rfl
           have hcz41_6:w27.cell? ⟨gb126,6,none⟩=some (.slice none 0 0):=(blk_cell BK126.out 6).trans rfl
           have hcz41_7:w27.cell? ⟨gb126,7,none⟩=some (.int .i64 0):=(blk_cell BK126.out 7).trans rfl
           have hfz41_0:=blk_frozen BK126.out 0
           have hfz41_1:=blk_frozen BK126.out 1
           have hfz41_2:=blk_frozen BK126.out 2
           have hfz41_3:=blk_frozen BK126.out 3
           have hfz41_4:=blk_frozen BK126.out 4
           have hfz41_5:=blk_frozen BK126.out 5
           have hfz41_6:=blk_frozen BK126.out 6
           have hfz41_7:=blk_frozen BK126.out 7
           try go_wp2_with (first|((with_reducible refine gate_callee (f:=30) rfl ?_);refine goesL_ (some 20) rfl rfl Try.func30 (by kernel_rfl) rfl #[.agg #[.int .i64 a2_0,.int .i64 a2_1,.int .i64 a2_2,.int .i64 a2_3,.int .i64 a2_4],.int .i64 (t123.length:Int)] rfl (by (try simp only [List.map_toArray,List.map_cons,List.map_nil]);first|done|rfl|(simp only [List.length_drop,List.length_take];rfl)) ?_;(with_reducible refine (place_has.calls a2_0 a2_1 a2_2 a2_3 a2_4 (t123.length:Int) true _ A6.out).mono ?_);rintro e w42 ⟨rfl,hb⟩;refine ⟨_,rfl,?_⟩;have n0_:=Aside0.mk (Kd.R_below (by (with_reducible repeat (first|apply Kd.R_alloc|apply Kd.R_drewN|apply Kd.R_drew));exact (Kd.R_mono (Kd.R_far (p:=⟨gb126,7,none⟩) (Kd.R_far (p:=⟨gb126,6,none⟩) (Kd.R_far (p:=⟨gb126,5,none⟩) (Kd.R_far (p:=⟨gb126,4,none⟩) (Kd.R_far (p:=⟨gb126,3,none⟩) (Kd.R_far (p:=⟨gb126,2,none⟩) (Kd.R_far (p:=⟨gb126,1,none⟩) (Kd.R_far (p:=⟨gb126,0,none⟩) (Kd.R_types HO125.out BK126.out (by decide)) (fun _ hk=>hk.2) (.int .i64 a2_0)) (fun _ hk=>hk.2) (.int .i64 a2_1)) (fun _ hk=>hk.2) (.int .i64 a2_2)) (fun _ hk=>hk.2) (.int .i64 a2_3)) (fun _ hk=>hk.2) (.int .i64 a2_4)) (fun _ hk=>hk.2) (.slice Ao28 t123.length co28)) (fun _ hk=>hk.2) (.slice none 0 0)) (fun _ hk=>hk.2) (.int .i64 0)) (fun _ h_=>h_.1))) hb);have n1_:=Aside0.mk (blk_below (g:=gb121) (o:= .cells #[.int .i64 a2_0,.int .i64 a2_1,.int .i64 a2_2,.int .i64 a2_3,.int .i64 a2_4] 25 (0,0)) (by (with_reducible repeat (first|refine blk_drewN ?_ _|refine blk_drew ?_|refine blk_alloc ?_ _));refine blk_far ?_ NB121_126.out _;(with_reducible repeat (first|refine blk_drewN ?_ _|refine blk_drew ?_|refine blk_alloc ?_ _));refine blk_far ?_ NB121_126.out _;(with_reducible repeat (first|refine blk_drewN ?_ _|refine blk_drew ?_|refine blk_alloc ?_ _));refine blk_far ?_ NB121_126.out _;(with_reducible repeat (first|refine blk_drewN ?_ _|refine blk_drew ?_|refine blk_alloc ?_ _));refine blk_far ?_ NB121_126.out _;(with_reducible repeat (first|refine blk_drewN ?_ _|refine blk_drew ?_|refine blk_alloc ?_ _));refine blk_far ?_ NB121_126.out _;(with_reducible repeat (first|refine blk_drewN ?_ _|refine blk_drew ?_|refine blk_alloc ?_ _));refine blk_far ?_ NB121_126.out _;(with_reducible repeat (first|refine blk_drewN ?_ _|refine blk_drew ?_|refine blk_alloc ?_ _));refine blk_far ?_ NB121_126.out _;(with_reducible repeat (first|refine blk_drewN ?_ _|refine blk_drew ?_|refine blk_alloc ?_ _));refine blk_far ?_ NB121_126.out _;(with_reducible repeat (first|refine blk_drewN ?_ _|refine blk_drew ?_|refine blk_alloc ?_ _));exact BK121.out) hb);have n2_:=Aside0.mk (blk_below (g:=gb122) (o:= .cells #[.int .i64 0,.int .i64 0,.int .i64 0,.int .i64 0,.int .i64 0,.slice none 0 0,.slice none 0 0,.int .i64 0] 50 (0,0)) (by (with_reducible repeat (first|refine blk_drewN ?_ _|refine blk_drew ?_|refine blk_alloc ?_ _));refine blk_far ?_ NB122_126.out _;(with_reducible repeat (first|refine blk_drewN ?_ _|refine blk_drew ?_|refine blk_alloc ?_ _));refine blk_far ?_ NB122_126.out _;(with_reducible repeat (first|refine blk_drewN ?_ _|refine blk_drew ?_|refine blk_alloc ?_ _));refine blk_far ?_ NB122_126.out _;(with_reducible repeat (first|refine blk_drewN ?_ _|refine blk_drew ?_|refine blk_alloc ?_ _));refine blk_far ?_ NB122_126.out _;(with_reducible repeat (first|refine blk_drewN ?_ _|refine blk_drew ?_|refine blk_alloc ?_ _));refine blk_far ?_ NB122_126.out _;(with_reducible repeat (first|refine blk_drewN ?_ _|refine blk_drew ?_|refine blk_alloc ?_ _));refine blk_far ?_ NB122_126.out _;(with_reducible repeat (first|refine blk_drewN ?_ _|refine blk_drew ?_|refine blk_alloc ?_ _));refine blk_far ?_ NB122_126.out _;(with_reducible repeat (first|refine blk_drewN ?_ _|refine blk_drew ?_|refine blk_alloc ?_ _));refine blk_far ?_ NB122_126.out _;(with_reducible repeat (first|refine blk_drewN ?_ _|refine blk_drew ?_|refine blk_alloc ?_ _));exact BK122.out) hb);have n3_:=Aside0.mk (blk_below (g:=gb126) (o:= .cells #[.int .i64 a2_0,.int .i64 a2_1,.int .i64 a2_2,.int .i64 a2_3,.int .i64 a2_4,.slice Ao28 t123.length co28,.slice none 0 0,.int .i64 0] 50 (0,0)) (by (with_reducible repeat (first|refine blk_drewN ?_ _|refine blk_drew ?_|refine blk_alloc ?_ _));refine blk_put (cs:= #[.int .i64 a2_0,.int .i64 a2_1,.int .i64 a2_2,.int .i64 a2_3,.int .i64 a2_4,.slice Ao28 t123.length co28,.slice none 0 0,.int .i64 0]) ?_ 7 _ rfl;(with_reducible repeat (first|refine blk_drewN ?_ _|refine blk_drew ?_|refine blk_alloc ?_ _));refine blk_put (cs:= #[.int .i64 a2_0,.int .i64 a2_1,.int .i64 a2_2,.int .i64 a2_3,.int .i64 a2_4,.slice Ao28 t123.length co28,.slice none 0 0,.int .i64 0]) ?_ 6 _ rfl;(with_reducible repeat (first|refine blk_drewN ?_ _|refine blk_drew ?_|refine blk_alloc ?_ _));refine blk_put (cs:= #[.int .i64 a2_0,.int .i64 a2_1,.int .i64 a2_2,.int .i64 a2_3,.int .i64 a2_4,.slice none 0 0,.slice none 0 0,.int .i64 0]) ?_ 5 _ rfl;(with_reducible repeat (first|refine blk_drewN ?_ _|refine blk_drew ?_|refine blk_alloc ?_ _));refine blk_put (cs:= #[.int .i64 a2_0,.int .i64 a2_1,.int .i64 a2_2,.int .i64 a2_3,.int .i64 0,.slice none 0 0,.slice none 0 0,.int .i64 0]) ?_ 4 _ rfl;(with_reducible repeat (first|refine blk_drewN ?_ _|refine blk_drew ?_|refine blk_alloc ?_ _));refine blk_put (cs:= #[.int .i64 a2_0,.int .i64 a2_1,.int .i64 a2_2,.int .i64 0,.int .i64 0,.slice none 0 0,.slice none 0 0,.int .i64 0]) ?_ 3 _ rfl;(with_reducible repeat (first|refine blk_drewN ?_ _|refine blk_drew ?_|refine blk_alloc ?_ _));refine blk_put (cs:= #[.int .i64 a2_0,.int .i64 a2_1,.int .i64 0,.int .i64 0,.int .i64 0,.slice none 0 0,.slice none 0 0,.int .i64 0]) ?_ 2 _ rfl;(with_reducible repeat (first|refine blk_drewN ?_ _|refine blk_drew ?_|refine blk_alloc ?_ _));refine blk_put (cs:= #[.int .i64 a2_0,.int .i64 0,.int .i64 0,.int .i64 0,.int .i64 0,.slice none 0 0,.slice none 0 0,.int .i64 0]) ?_ 1 _ rfl;(with_reducible repeat (first|refine blk_drewN ?_ _|refine blk_drew ?_|refine blk_alloc ?_ _));refine blk_put (cs:= #[.int .i64 0,.int .i64 0,.int .i64 0,.int .i64 0,.int .i64 0,.slice none 0 0,.slice none 0 0,.int .i64 0]) ?_ 0 _ rfl;(with_reducible repeat (first|refine blk_drewN ?_ _|refine blk_drew ?_|refine blk_alloc ?_ _));exact BK126.out) hb);have n4_:=Aside0.mk (below_step (by repeat (first|(with_reducible first|exact HB.out|apply below_alloc|apply pw_below_drewN|apply below_drew1|refine below_set ?_ GE121.out|refine below_set ?_ GE122.out|refine below_set ?_ GE126.out)|exact HB.out)) hb);clear HO125;clear BK121;clear BK122;clear BK126;clear HB;have HO125:=n0_;have BK121:=n1_;have BK122:=n2_;have BK126:=n3_;have HB:=n4_;clear n0_ n1_ n2_ n3_ n4_;(try clear hb);(try clear hb2);(try clear hk);(try clear hi);have hcz43_0:w42.cell? ⟨gb121,0,none⟩=some (.int .i64 a2_0):=(blk_cell BK121.out 0).trans rfl;have hcz43_1:w42.cell? ⟨gb121,1,none⟩=some (.int .i64 a2_1):=(blk_cell BK121.out 1).trans rfl;have hcz43_2:w42.cell? ⟨gb121,2,none⟩=some (.int .i64 a2_2):=(blk_cell BK121.out 2).trans rfl;have hcz43_3:w42.cell? ⟨gb121,3,none⟩=some (.int .i64 a2_3):=(blk_cell BK121.out 3).trans rfl;have hcz43_4:w42.cell? ⟨gb121,4,none⟩=some (.int .i64 a2_4):=(blk_cell BK121.out 4).trans rfl;have hfz43_0:=blk_frozen BK121.out 0;have hfz43_1:=blk_frozen BK121.out 1;have hfz43_2:=blk_frozen BK121.out 2;have hfz43_3:=blk_frozen BK121.out 3;have hfz43_4:=blk_frozen BK121.out 4;have hcz44_0:w42.cell? ⟨gb126,0,none⟩=some (.int .i64 a2_0):=(blk_cell BK126.out 0).trans rfl;have hcz44_1:w42.cell? ⟨gb126,1,none⟩=some (.int .i64 a2_1):=(blk_cell BK126.out 1).trans rfl;have hcz44_2:w42.cell? ⟨gb126,2,none⟩=some (.int .i64 a2_2):=(blk_cell BK126.out 2).trans rfl;have hcz44_3:w42.cell? ⟨gb126,3,none⟩=some (.int .i64 a2_3):=(blk_cell BK126.out 3).trans rfl;have hcz44_4:w42.cell? ⟨gb126,4,none⟩=some (.int .i64 a2_4):=(blk_cell BK126.out 4).trans rfl;have hcz44_5:w42.cell? ⟨gb126,5,none⟩=some (.slice Ao28 t123.length co28):=(blk_cell BK126.out 5).trans rfl;have hcz44_6:w42.cell? ⟨gb126,6,none⟩=some (.slice none 0 0):=(blk_cell BK126.out 6).trans rfl;have hcz44_7:w42.cell? ⟨gb126,7,none⟩=some (.int .i64 0):=(blk_cell BK126.out 7).trans rfl;have hfz44_0:=blk_frozen BK126.out 0;have hfz44_1:=blk_frozen BK126.out 1;have hfz44_2:=blk_frozen BK126.out 2;have hfz44_3:=blk_frozen BK126.out 3;have hfz44_4:=blk_frozen BK126.out 4;have hfz44_5:=blk_frozen BK126.out 5;have hfz44_6:=blk_frozen BK126.out 6;have hfz44_7:=blk_frozen BK126.out 7;have p128:0≤((ji9):Int):=of_decide_eq_true (by first|(with_reducible assumption)|assumption);have q128:(ji9) < (t123.length:Int):=of_decide_eq_true (by first|(with_reducible assumption)|assumption);obtain ⟨ad128,e128,hx128_0,hx128_1,hx128_2,hx128_3,hx128_4,hx128_5⟩:=at_T40 (Kd.R_reads' HO125.out).2.2 (ji9) p128 q128;cases e128;replace p128:=eq_true p128;replace q128:=eq_true q128;have p129:0≤(a2_0:Int):=of_decide_eq_true (by first|(with_reducible assumption)|assumption);have q129:a2_0 < (t123.length:Int):=of_decide_eq_true (by first|(with_reducible assumption)|assumption);obtain ⟨ad129,e129,hx129_0,hx129_1,hx129_2,hx129_3,hx129_4,hx129_5⟩:=at_T40 (Kd.R_reads' HO125.out).2.2 a2_0 p129 q129;obtain rfl:ad128=ad129:=(by injection e129);replace p129:=eq_true p129;replace q129:=eq_true q129))
           have n0_:Aside0 (Kd.R k40 40 (w42.setCell ⟨gb126,7,none⟩ (.int .i64 ((rd_T40 t123 a2_0).f2))) w.heap.size (fun _=>True) (.slice (some ad128) t123.length co28) t123):=⟨by (with_reducible repeat (first|apply Kd.R_alloc|apply Kd.R_drewN|apply Kd.R_drew));exact Kd.R_mono (Kd.R_far (p:=⟨gb126,7,none⟩) (Kd.R_types HO125.out BK126.out (by decide)) (fun _ hk=>hk.2) (.int .i64 ((rd_T40 t123 a2_0).f2))) (fun _ hk=>trivial)⟩
           have n1_:Aside0 ((w42.setCell ⟨gb126,7,none⟩ (.int .i64 ((rd_T40 t123 a2_0).f2))).heap[gb121]?=some (.cells #[.int .i64 a2_0,.int .i64 a2_1,.int .i64 a2_2,.int .i64 a2_3,.int .i64 a2_4] 25 (0,0))):=⟨by (with_reducible repeat (first|refine blk_drewN ?_ _|refine blk_drew ?_|refine blk_alloc ?_ _));refine blk_far ?_ NB121_126.out _;(with_reducible repeat (first|refine blk_drewN ?_ _|refine blk_drew ?_|refine blk_alloc ?_ _));exact BK121.out⟩
           have n2_:Aside0 ((w42.setCell ⟨gb126,7,none⟩ (.int .i64 ((rd_T40 t123 a2_0).f2))).heap[gb122]?=some (.cells #[.int .i64 0,.int .i64 0,.int .i64 0,.int .i64 0,.int .i64 0,.slice none 0 0,.slice none 0 0,.int .i64 0] 50 (0,0))):=⟨by (with_reducible repeat (first|refine blk_drewN ?_ _|refine blk_drew ?_|refine blk_alloc ?_ _));refine blk_far ?_ NB122_126.out _;(with_reducible repeat (first|refine blk_drewN ?_ _|refine blk_drew ?_|refine blk_alloc ?_ _));exact BK122.out⟩
           have n3_:Aside0 ((w42.setCell ⟨gb126,7,none⟩ (.int .i64 ((rd_T40 t123 a2_0).f2))).heap[gb126]?=some (.cells #[.int .i64 a2_0,.int .i64 a2_1,.int .i64 a2_2,.int .i64 a2_3,.int .i64 a2_4,.slice (some ad128) t123.length co28,.slice none 0 0,.int .i64 ((rd_T40 t123 a2_0).f2)] 50 (0,0))):=⟨by (with_reducible repeat (first|refine blk_drewN ?_ _|refine blk_drew ?_|refine blk_alloc ?_ _));refine blk_put (cs:= #[.int .i64 a2_0,.int .i64 a2_1,.int .i64 a2_2,.int .i64 a2_3,.int .i64 a2_4,.slice (some ad128) t123.length co28,.slice none 0 0,.int .i64 0]) ?_ 7 _ rfl;(with_reducible repeat (first|refine blk_drewN ?_ _|refine blk_drew ?_|refine blk_alloc ?_ _));exact BK126.out⟩
           have n4_:Aside0 (Below w.heap.size w (w42.setCell ⟨gb126,7,none⟩ (.int .i64 ((rd_T40 t123 a2_0).f2)))):=⟨by repeat (first|(with_reducible first|exact HB.out|apply below_alloc|apply pw_below_drewN|apply below_drew1|refine below_set ?_ GE121.out|refine below_set ?_ GE122.out|refine below_set ?_ GE126.out)|exact HB.out)⟩
           (try clear HO125)
           (try clear BK121)
           (try clear BK122)
           (try clear BK126)
           (try clear HB)
           generalize (w42.setCell ⟨gb126,7,none⟩ (.int .i64 ((rd_T40 t123 a2_0).f2)))=w45 at n0_ n1_ n2_ n3_ n4_ ⊢
           have HO125:=n0_
           have BK121:=n1_
           have BK122:=n2_
           have BK126:=n3_
           have HB:=n4_
           clear n0_ n1_ n2_ n3_ n4_
           have n0_:=Aside0.mk (Kd.R_drew HO125.out)
           have n1_:=Aside0.mk (blk_drew BK121.out)
           have n2_:=Aside0.mk (blk_drew BK122.out)
           have n3_:=Aside0.mk (blk_drew BK126.out)
           have n4_:=Aside0.mk (below_drew1 HB.out)
           clear HO125
           clear BK121
           clear BK122
           clear BK126
           clear HB
           have HO125:=n0_
           have BK121:=n1_
           have BK122:=n2_
           have BK126:=n3_
           have HB:=n4_
           clear n0_ n1_ n2_ n3_ n4_
           have q47:(((rd_T40 t123 (ji9)).f3):Int)≤((l0.length:Int):Int):=of_decide_eq_true (by first|(with_reducible assumption)|assumption)
           obtain ⟨i047,hi047,_,hsz47,_⟩:=info_parts info36
           have hroom47:l0.length≤c0:=HC0.out
           have hC47:Kd.C k36 _ A0 l0.length l0:=HR0.out
           have ql47:(((rd_T40 t123 a2_0).f2):Int)≤(((rd_T40 t123 (ji9)).f3):Int):=of_decide_eq_true (by first|(with_reducible assumption)|assumption)
           have q047:(0:Int)≤(((rd_T40 t123 a2_0).f2):Int):=of_decide_eq_true (by first|(with_reducible assumption)|assumption)
           have hcut47:=cut_mid (P:=Try.prog) 22 36 .i64 .i64 Try.underlying22 hi047 3 hsz47 A0 l0.length c0 ((rd_T40 t123 a2_0).f2) ((rd_T40 t123 (ji9)).f3) q047 ql47 q47 hroom47
           have hr47:=Kd.C_mid (lo:=(((rd_T40 t123 a2_0).f2):Int).toNat) (hi:=(((rd_T40 t123 (ji9)).f3):Int).toNat) (c:=c0) hC47 (by omega) (by omega) hroom47
           obtain ⟨A47,hA47⟩: ∃ A1,A1=(if c0=(((rd_T40 t123 a2_0).f2):Int).toNat then A0 else (A0:Option Addr).map (·.add ((((rd_T40 t123 a2_0).f2):Int).toNat * 3))):=⟨_,rfl⟩
           obtain ⟨c47,hc47⟩: ∃ c1,c1=c0 - (((rd_T40 t123 a2_0).f2):Int).toNat:=⟨_,rfl⟩
           have hy47:y130.length=(((rd_T40 t123 (ji9)).f3):Int).toNat - (((rd_T40 t123 a2_0).f2):Int).toNat:=(by rw [Ny130.out,List.length_drop,List.length_take] <;> omega)
           rw [show ((l0).take (((rd_T40 t123 (ji9)).f3):Int).toNat).drop (((rd_T40 t123 a2_0).f2):Int).toNat=y130 from Ny130.out.symm] at hr47
           replace hr47:Kd.C k36 _ A47 y130.length y130:=(by rw [hA47];exact hr47)
           rw [← hy47,← hA47,← hc47] at hcut47
           have HR133:=Aside0.mk hr47
           have HC133:=Aside0.mk (show y130.length≤c47 from by rw [hy47,hc47];exact Nat.sub_le_sub_right (Nat.le_trans (by omega) hroom47) _)
           clear hr47 hC47 hroom47 hi047 hsz47 hc47
           have KY47:=Aside0.mk hy47
           have KA47:=Aside0.mk hA47
           clear hy47 hA47
           replace q47:=eq_true q47
           obtain ⟨i048,hi048,_,hsz48,_⟩:=info_parts info3
           obtain ⟨A48,hcut48,hA48,hC48⟩:=print_mid_of (P:=Try.prog) (Value.int .i64) 0 23 3 .i64 .i64 Try.underlying23 hi048 hsz48 A1 c1 l1 ((rd_T40 t123 a2_0).f2) ((rd_T40 t123 (ji9)).f3) (of_decide_eq_true (by first|(with_reducible assumption)|assumption)) (by first|omega|exact of_decide_eq_true (by first|(with_reducible assumption)|assumption)) (of_decide_eq_true (by first|(with_reducible assumption)|assumption)) HC1.out
           have HR134:=Aside0.mk (Kd.C_of_reads (h1:=fun _=>rfl) (hA48 _ (Kd.reads_of_C HR1.out)))
           have HC134:=Aside0.mk hC48
           clear hA48 hC48 hi048 hsz48
           refine start_ (n:=14) (S:=fun w'=>w'.cell? ⟨gb126,0,none⟩=some (.int .i64 a2_0)∧w'.cell? ⟨gb126,1,none⟩=some (.int .i64 a2_1)∧w'.cell? ⟨gb126,2,none⟩=some (.int .i64 a2_2)∧w'.cell? ⟨gb126,3,none⟩=some (.int .i64 a2_3)∧w'.cell? ⟨gb126,4,none⟩=some (.int .i64 a2_4)∧w'.cell? ⟨gb126,5,none⟩=some (.slice (some ad128) t123.length co28)∧w'.cell? ⟨gb126,6,none⟩=some (.slice none 0 0)∧w'.cell? ⟨gb126,7,none⟩=some (.int .i64 ((rd_T40 t123 a2_0).f2))) (ds:=[13]) #[false,false,false,false,false,false,false,false,false,false,false,false,false,false] (by kernel_rfl) rfl rfl ⟨(blk_cell BK126.out 0).trans rfl,(blk_cell BK126.out 1).trans rfl,(blk_cell BK126.out 2).trans rfl,(blk_cell BK126.out 3).trans rfl,(blk_cell BK126.out 4).trans rfl,(blk_cell BK126.out 5).trans rfl,(blk_cell BK126.out 6).trans rfl,(blk_cell BK126.out 7).trans rfl⟩ (fun hHeld=>?_);refine with_tabW place_begin.tab7 place_begin.bits7 (fun HT_ HW_=>?_)
           generalize w45.drew=w46 at HO125 BK121 BK122 BK126 HB HR133 HR134 hHeld ⊢
           refine pure_ (i:=0) (N:=some 44) (v:=?_) (a':=?_) #[true,false,false,false,false,false,false,false,false,false,false,false,false,false] rfl rfl (any_of HT_.out (by kernel_rfl)) (fun _ _ _ h=>h) (Or.inl ⟨by rfl,?_⟩) ?_ ?_
           rotate_left
           ·
            intro w'
            go_simp
            with_reducible rfl
           rotate_left
           ·
            simp only [Act.put,List.setIfInBounds_toArray,List.set_cons_zero,List.set_cons_succ,i64_w,i32_w]
            rfl
           refine pure_ (i:=1) (N:=some 45) (v:=?_) (a':=?_) #[true,true,false,false,false,false,false,false,false,false,false,false,false,false] rfl rfl (any_of HT_.out (by kernel_rfl)) (fun _ _ _ h=>h) (Or.inl ⟨by rfl,?_⟩) ?_ ?_
           rotate_left
           ·
            intro w'
            go_simp
            with_reducible rfl
           rotate_left
           ·
            simp only [Act.put,List.setIfInBounds_toArray,List.set_cons_zero,List.set_cons_succ,i64_w,i32_w]
            rfl
           refine pure_ (i:=3) (N:=some 47) (v:=?_) (a':=?_) #[true,true,false,true,false,false,false,false,false,false,false,false,false,false] rfl rfl (any_of HT_.out (by kernel_rfl)) (fun _ _ _ h=>h) (Or.inl ⟨by rfl,?_⟩) ?_ ?_
           rotate_left
           ·
            intro w'
            go_simp
            with_reducible rfl
           rotate_left
           ·
            simp only [Act.put,List.setIfInBounds_toArray,List.set_cons_zero,List.set_cons_succ,i64_w,i32_w]
            rfl
           refine pure_ (i:=5) (N:=some 49) (v:=?_) (a':=?_) #[true,true,false,true,false,true,false,false,false,false,false,false,false,false] rfl rfl (any_of HT_.out (by kernel_rfl)) (fun _ _ _ h=>h) (Or.inl ⟨by rfl,?_⟩) ?_ ?_
           rotate_left
           ·
            intro w'
            go_simp
            with_reducible rfl
           rotate_left
           ·
            simp only [Act.put,List.setIfInBounds_toArray,List.set_cons_zero,List.set_cons_succ,i64_w,i32_w]
            rfl
           refine pure_ (i:=6) (N:=some 50) (v:=?_) (a':=?_) #[true,true,false,true,false,true,true,false,false,false,false,false,false,false] rfl rfl (any_of HT_.out (by kernel_rfl)) (fun _ _ _ h=>h) (Or.inl ⟨by rfl,?_⟩) ?_ ?_
           rotate_left
           ·
            intro w'
            go_simp
            with_reducible rfl
           rotate_left
           ·
            simp only [Act.put,List.setIfInBounds_toArray,List.set_cons_zero,List.set_cons_succ,i64_w,i32_w]
            rfl
           refine pure_ (i:=8) (N:=some 52) (v:=?_) (a':=?_) #[true,true,false,true,false,true,true,false,true,false,false,false,false,false] rfl rfl (any_of HT_.out (by kernel_rfl)) (fun _ _ _ h=>h) (Or.inl ⟨by rfl,?_⟩) ?_ ?_
           rotate_left
           ·
            intro w'
            go_simp
            with_reducible rfl
           rotate_left
           ·
            simp only [Act.put,List.setIfInBounds_toArray,List.set_cons_zero,List.set_cons_succ,i64_w,i32_w]
            rfl
           refine pure_ (i:=10) (N:=some 54) (v:=?_) (a':=?_) #[true,true,false,true,false,true,true,false,true,false,true,false,false,false] rfl rfl (any_of HT_.out (by kernel_rfl)) (fun _ _ _ h=>h) (Or.inl ⟨by rfl,?_⟩) ?_ ?_
           rotate_left
           ·
            intro w'
            go_simp
            with_reducible rfl
           rotate_left
           ·
            simp only [Act.put,List.setIfInBounds_toArray,List.set_cons_zero,List.set_cons_succ,i64_w,i32_w]
            rfl
           refine take_ (i:=2) (N:=some 46) (v:=?_) (a':=?_) #[true,true,true,true,false,true,true,false,true,false,true,false,false,false] rfl rfl (take_ofW HT_.out HW_.out (by kernel_rfl)) (fun _ _ _ h=>h) (Or.inl ⟨by rfl,?_⟩) hHeld ?_ ?_
           rotate_left
           ·
            rintro w' ⟨s0,s1,s2,s3,s4,s5,s6,s7⟩
            go_simp
            with_reducible rfl
           rotate_left
           ·
            simp only [Act.put,List.setIfInBounds_toArray,List.set_cons_zero,List.set_cons_succ,i64_w,i32_w]
            rfl
           refine pure_ (i:=4) (N:=some 48) (v:=?_) (a':=?_) #[true,true,true,true,true,true,true,false,true,false,true,false,false,false] rfl rfl (any_of HT_.out (by kernel_rfl)) (fun _ _ _ h=>h) (Or.inl ⟨by rfl,?_⟩) ?_ ?_
           rotate_left
           ·
            intro w'
            go_simp
            with_reducible rfl
           rotate_left
           ·
            simp only [Act.put,List.setIfInBounds_toArray,List.set_cons_zero,List.set_cons_succ,i64_w,i32_w]
            rfl
           refine take_ (i:=7) (N:=some 51) (v:=?_) (a':=?_) #[true,true,true,true,true,true,true,true,true,false,true,false,false,false] rfl rfl (take_ofW HT_.out HW_.out (by kernel_rfl)) (fun _ _ _ h=>h) (Or.inl ⟨by rfl,?_⟩) hHeld ?_ ?_
           rotate_left
           ·
            rintro w' ⟨s0,s1,s2,s3,s4,s5,s6,s7⟩
            go_simp
            with_reducible rfl
           rotate_left
           ·
            simp only [Act.put,List.setIfInBounds_toArray,List.set_cons_zero,List.set_cons_succ,i64_w,i32_w]
            rfl
           refine pure_ (i:=9) (N:=some 53) (v:=?_) (a':=?_) #[true,true,true,true,true,true,true,true,true,true,true,false,false,false] rfl rfl (any_of HT_.out (by kernel_rfl)) (fun _ _ _ h=>h) (Or.inl ⟨by rfl,?_⟩) ?_ ?_
           rotate_left
           ·
            intro w'
            go_simp
            with_reducible rfl
           rotate_left
           ·
            simp only [Act.put,List.setIfInBounds_toArray,List.set_cons_zero,List.set_cons_succ,i64_w,i32_w]
            rfl
           refine one_ (i:=11) (N:=some 55) #[true,true,true,true,true,true,true,true,true,true,true,true,false,false] rfl rfl (one_of HT_.out (by kernel_rfl)) (by decide) (fun K hK=>?_)
           refine goes_ Try.func31 (by kernel_rfl) rfl #[.slice A47 y130.length c47,.slice A48 ((l1.take (((rd_T40 t123 (ji9)).f3):Int).toNat).drop (((rd_T40 t123 a2_0).f2):Int).toNat).length (c1 - ((rd_T40 t123 a2_0).f2).toNat),.int .i64 a3] (by rfl) rfl rfl (by (try simp only [List.map_toArray,List.map_cons,List.map_nil]);first|done|(rw [show ((l1.take (((rd_T40 t123 (ji9)).f3):Int).toNat).drop (((rd_T40 t123 a2_0).f2):Int).toNat).length=(((rd_T40 t123 (ji9)).f3).toNat - ((rd_T40 t123 a2_0).f2).toNat) from (by rw [List.length_drop,List.length_take];have h_:(((rd_T40 t123 (ji9)).f3):Int)≤(l1.length:Int):=of_decide_eq_true (by first|(with_reducible assumption)|assumption);omega)] <;> rfl)|(simp only [hji9];rfl)|rfl|(simp only [List.length_drop,List.length_take];rfl)) ?_
           with_reducible refine (bidi_Line.calls _ _ y130 _ _ ((l1.take (((rd_T40 t123 (ji9)).f3):Int).toNat).drop (((rd_T40 t123 a2_0).f2):Int).toNat) a3 t135 _ ?side1 ?side2 ?side3 ?side4 A20.out).mono ?_
           (case side1=>repeat (first|exact (Kd.C_below HR133.out HB.out)|(with_reducible refine Kd.C_alloc ?_ _)|(with_reducible refine Kd.C_drewN ?_ _)|(with_reducible refine Kd.C_drew ?_)))
           (case side2=>exact HC133.out)
           (case side3=>repeat (first|exact (Kd.C_below HR134.out HB.out)|(with_reducible refine Kd.C_alloc ?_ _)|(with_reducible refine Kd.C_drewN ?_ _)|(with_reducible refine Kd.C_drew ?_)))
           (case side4=>exact HC134.out)
           rintro e w49 ⟨v136,rfl,ho0,hb⟩
           refine ⟨_,rfl,?_⟩
           have n0_:=Aside0.mk (Kd.R_below (by (with_reducible repeat (first|apply Kd.R_alloc|apply Kd.R_drewN|apply Kd.R_drew));exact HO125.out) hb)
           have n1_:=Aside0.mk (Kd.R_lower ho0 (below_size (by repeat (first|(with_reducible first|exact HB.out|apply below_alloc|apply pw_below_drewN|apply below_drew1|refine below_set ?_ GE121.out|refine below_set ?_ GE122.out|refine below_set ?_ GE126.out)|exact HB.out))))
           have n2_:=Aside0.mk (blk_below (g:=gb121) (o:= .cells #[.int .i64 a2_0,.int .i64 a2_1,.int .i64 a2_2,.int .i64 a2_3,.int .i64 a2_4] 25 (0,0)) (by (with_reducible repeat (first|refine blk_drewN ?_ _|refine blk_drew ?_|refine blk_alloc ?_ _));exact BK121.out) hb)
           have n3_:=Aside0.mk (blk_below (g:=gb122) (o:= .cells #[.int .i64 0,.int .i64 0,.int .i64 0,.int .i64 0,.int .i64 0,.slice none 0 0,.slice none 0 0,.int .i64 0] 50 (0,0)) (by (with_reducible repeat (first|refine blk_drewN ?_ _|refine blk_drew ?_|refine blk_alloc ?_ _));exact BK122.out) hb)
           have n4_:=Aside0.mk (blk_below (g:=gb126) (o:= .cells #[.int .i64 a2_0,.int .i64 a2_1,.int .i64 a2_2,.int .i64 a2_3,.int .i64 a2_4,.slice (some ad128) t123.length co28,.slice none 0 0,.int .i64 ((rd_T40 t123 a2_0).f2)] 50 (0,0)) (by (with_reducible repeat (first|refine blk_drewN ?_ _|refine blk_drew ?_|refine blk_alloc ?_ _));exact BK126.out) hb)
           have n5_:=Aside0.mk (below_step (by repeat (first|(with_reducible first|exact HB.out|apply below_alloc|apply pw_below_drewN|apply below_drew1|refine below_set ?_ GE121.out|refine below_set ?_ GE122.out|refine below_set ?_ GE126.out)|exact HB.out)) hb)
           clear HO125
           clear BK121
           clear BK122
           clear BK126
           clear HB
           have HO125:=n0_
           have HO137:=n1_
           have BK121:=n2_
           have BK122:=n3_
           have BK126:=n4_
           have HB:=n5_
           clear n0_ n1_ n2_ n3_ n4_ n5_
           (try clear hb)
           (try clear hb2)
           (try clear hk)
           (try clear hi)
           (try clear ho0)
           obtain ⟨Ao50,co50,eo50⟩:=Kd.R_slice HO137.out
           (first|subst eo50|(injection eo50 with f1_ f2_ f3_;have f4_:=f1_.symm;have f5_:=f3_.symm;clear f1_ f2_ f3_;subst f4_;subst f5_))
           refine hK.out _ _ ⟨(blk_cell BK126.out 0).trans rfl,(blk_cell BK126.out 1).trans rfl,(blk_cell BK126.out 2).trans rfl,(blk_cell BK126.out 3).trans rfl,(blk_cell BK126.out 4).trans rfl,(blk_cell BK126.out 5).trans rfl,(blk_cell BK126.out 6).trans rfl,(blk_cell BK126.out 7).trans rfl⟩ (fun hHeld=>?_)
           clear hK K
           refine norm_ (a':=?_) ?_ ?_
           rotate_left
           ·
            show Act.put _ (some 55) _=_
            simp only [Act.put,List.setIfInBounds_toArray,List.set_cons_zero,List.set_cons_succ,i64_w,i32_w]
            rfl
           refine pure_ (i:=12) (N:=some 56) (v:=?_) (a':=?_) #[true,true,true,true,true,true,true,true,true,true,true,true,true,false] rfl rfl (any_of HT_.out (by kernel_rfl)) (fun _ _ _ h=>h) (Or.inl ⟨by rfl,?_⟩) ?_ ?_
           rotate_left
           ·
            intro w'
            go_simp
            with_reducible rfl
           rotate_left
           ·
            simp only [Act.put,List.setIfInBounds_toArray,List.set_cons_zero,List.set_cons_succ,i64_w,i32_w]
            rfl
           refine last_ (i:=13) (N:=none) #[true,true,true,true,true,true,true,true,true,true,true,true,true,true] rfl rfl (one_of HT_.out (by kernel_rfl)) (by decide) (fun K hK=>?_)
           have hs51:w49.cell? ⟨gb126,6,none⟩=some (.slice none 0 0):=(blk_cell BK126.out 6).trans rfl
           have hfs51:=blk_frozen BK126.out 6
           have hns51_0:=NB121_126.out
           have hns51_1:=NB122_126.out
           have hms51_0:=NB126_121.out
           have hms51_1:=NB126_122.out
           refine skip_ (w1:=?_) (by rfl) rfl ?_ ?_
           rotate_left
           ·
            go_simp
            rfl
           refine hK.out _ _ ?_
           clear hK K
           refine done_ (done_of HT_.out (by kernel_rfl)) ?_
           have hcz52_0:w49.cell? ⟨gb126,0,none⟩=some (.int .i64 a2_0):=(blk_cell BK126.out 0).trans rfl
           have hcz52_1:w49.cell? ⟨gb126,1,none⟩=some (.int .i64 a2_1):=(blk_cell BK126.out 1).trans rfl
           have hcz52_2:w49.cell? ⟨gb126,2,none⟩=some (.int .i64 a2_2):=(blk_cell BK126.out 2).trans rfl
           have hcz52_3:w49.cell? ⟨gb126,3,none⟩=some (.int .i64 a2_3):=(blk_cell BK126.out 3).trans rfl
           have hcz52_4:w49.cell? ⟨gb126,4,none⟩=some (.int .i64 a2_4):=(blk_cell BK126.out 4).trans rfl
           have hcz52_5:w49.cell? ⟨gb126,5,none⟩=some (.slice (some ad128) t123.length co28):=(blk_cell BK126.out 5).trans rfl
           have hcz52_6:w49.cell? ⟨gb126,6,none⟩=some (.slice none 0 0):=(blk_cell BK126.out 6).trans rfl
           have hcz52_7:w49.cell? ⟨gb126,7,none⟩=some (.int .i64 ((rd_T40 t123 a2_0).f2)):=(blk_cell BK126.out 7).trans rfl
           have hfz52_0:=blk_frozen BK126.out 0
           have hfz52_1:=blk_frozen BK126.out 1
           have hfz52_2:=blk_frozen BK126.out 2
           have hfz52_3:=blk_frozen BK126.out 3
           have hfz52_4:=blk_frozen BK126.out 4
           have hfz52_5:=blk_frozen BK126.out 5
           have hfz52_6:=blk_frozen BK126.out 6
           have hfz52_7:=blk_frozen BK126.out 7
           have hcz53_0:w49.cell? ⟨gb122,0,none⟩=some (.int .i64 0):=(blk_cell BK122.out 0).trans rfl
           have hcz53_1:w49.cell? ⟨gb122,1,none⟩=some (.int .i64 0):=(blk_cell BK122.out 1).trans rfl
           have hcz53_2:w49.cell? ⟨gb122,2,none⟩=some (.int .i64 0):=(blk_cell BK122.out 2).trans rfl
           have hcz53_3:w49.cell? ⟨gb122,3,none⟩=some (.int .i64 0):=(blk_cell BK122.out 3).trans rfl
           have hcz53_4:w49.cell? ⟨gb122,4,none⟩=some (.int .i64 0):=(blk_cell BK122.out 4).trans rfl
           have hcz53_5:w49.cell? ⟨gb122,5,none⟩=some (.slice none 0 0):=(blk_cell BK122.out 5).trans rfl
           have hcz53_6:w49.cell? ⟨gb122,6,none⟩=some (.slice none 0 0):=(blk_cell BK122.out 6).trans rfl
           have hcz53_7:w49.cell? ⟨gb122,7,none⟩=some (.int .i64 0):=(blk_cell BK122.out 7).trans rfl
           have hfz53_0:=blk_frozen BK122.out 0
           have hfz53_1:=blk_frozen BK122.out 1
           have hfz53_2:=blk_frozen BK122.out 2
           have hfz53_3:=blk_frozen BK122.out 3
           have hfz53_4:=blk_frozen BK122.out 4
           have hfz53_5:=blk_frozen BK122.out 5
           have hfz53_6:=blk_frozen BK122.out 6
           have hfz53_7:=blk_frozen BK122.out 7
           try go_wp2
           refine bodyPost_ret (results_ct rfl _ _ gb122 50 #[.int .i64 a2_0,.int .i64 a2_1,.int .i64 a2_2,.int .i64 a2_3,.int .i64 a2_4,.slice (some ad128) t123.length co28,.slice Ao50 t135.length co50,.int .i64 ((rd_T40 t123 a2_0).f2)] (0,0) _ rfl (by (with_reducible repeat (first|refine blk_drewN ?_ _|refine blk_drew ?_|refine blk_alloc ?_ _));refine blk_put (cs:= #[.int .i64 a2_0,.int .i64 a2_1,.int .i64 a2_2,.int .i64 a2_3,.int .i64 a2_4,.slice (some ad128) t123.length co28,.slice Ao50 t135.length co50,.int .i64 0]) ?_ 7 _ rfl;(with_reducible repeat (first|refine blk_drewN ?_ _|refine blk_drew ?_|refine blk_alloc ?_ _));refine blk_put (cs:= #[.int .i64 a2_0,.int .i64 a2_1,.int .i64 a2_2,.int .i64 a2_3,.int .i64 a2_4,.slice (some ad128) t123.length co28,.slice none 0 0,.int .i64 0]) ?_ 6 _ rfl;(with_reducible repeat (first|refine blk_drewN ?_ _|refine blk_drew ?_|refine blk_alloc ?_ _));refine blk_put (cs:= #[.int .i64 a2_0,.int .i64 a2_1,.int .i64 a2_2,.int .i64 a2_3,.int .i64 a2_4,.slice none 0 0,.slice none 0 0,.int .i64 0]) ?_ 5 _ rfl;(with_reducible repeat (first|refine blk_drewN ?_ _|refine blk_drew ?_|refine blk_alloc ?_ _));refine blk_put (cs:= #[.int .i64 a2_0,.int .i64 a2_1,.int .i64 a2_2,.int .i64 a2_3,.int .i64 0,.slice none 0 0,.slice none 0 0,.int .i64 0]) ?_ 4 _ rfl;(with_reducible repeat (first|refine blk_drewN ?_ _|refine blk_drew ?_|refine blk_alloc ?_ _));refine blk_put (cs:= #[.int .i64 a2_0,.int .i64 a2_1,.int .i64 a2_2,.int .i64 0,.int .i64 0,.slice none 0 0,.slice none 0 0,.int .i64 0]) ?_ 3 _ rfl;(with_reducible repeat (first|refine blk_drewN ?_ _|refine blk_drew ?_|refine blk_alloc ?_ _));refine blk_put (cs:= #[.int .i64 a2_0,.int .i64 a2_1,.int .i64 0,.int .i64 0,.int .i64 0,.slice none 0 0,.slice none 0 0,.int .i64 0]) ?_ 2 _ rfl;(with_reducible repeat (first|refine blk_drewN ?_ _|refine blk_drew ?_|refine blk_alloc ?_ _));refine blk_put (cs:= #[.int .i64 a2_0,.int .i64 0,.int .i64 0,.int .i64 0,.int .i64 0,.slice none 0 0,.slice none 0 0,.int .i64 0]) ?_ 1 _ rfl;(with_reducible repeat (first|refine blk_drewN ?_ _|refine blk_drew ?_|refine blk_alloc ?_ _));refine blk_put (cs:= #[.int .i64 0,.int .i64 0,.int .i64 0,.int .i64 0,.int .i64 0,.slice none 0 0,.slice none 0 0,.int .i64 0]) ?_ 0 _ rfl;(with_reducible repeat (first|refine blk_drewN ?_ _|refine blk_drew ?_|refine blk_alloc ?_ _));refine blk_far ?_ NB122_126.out _;(with_reducible repeat (first|refine blk_drewN ?_ _|refine blk_drew ?_|refine blk_alloc ?_ _));exact BK122.out) Try.underlying50 rfl (by kernel_rfl)) rfl ?_
           exact ⟨_,_,by first|rfl|(simp [errW_none,errW_some] <;> rfl)|(simp only [← hji9];first|rfl|(simp [errW_none,errW_some] <;> rfl))|(simp [*,errW_none,errW_some] <;> rfl),by (with_reducible repeat (first|apply Kd.R_alloc|apply Kd.R_drewN|apply Kd.R_drew));exact Kd.R_mono (Kd.R_far (p:=⟨gb122,7,none⟩) (Kd.R_far (p:=⟨gb122,6,none⟩) (Kd.R_far (p:=⟨gb122,5,none⟩) (Kd.R_far (p:=⟨gb122,4,none⟩) (Kd.R_far (p:=⟨gb122,3,none⟩) (Kd.R_far (p:=⟨gb122,2,none⟩) (Kd.R_far (p:=⟨gb122,1,none⟩) (Kd.R_far (p:=⟨gb122,0,none⟩) (Kd.R_far (p:=⟨gb126,6,none⟩) (Kd.R_types (Kd.R_types HO125.out BK126.out (by decide)) BK122.out (by decide)) (fun _ hk=>hk.1.2) (.slice Ao50 t135.length co50)) (fun _ hk=>hk.2) (.int .i64 a2_0)) (fun _ hk=>hk.2) (.int .i64 a2_1)) (fun _ hk=>hk.2) (.int .i64 a2_2)) (fun _ hk=>hk.2) (.int .i64 a2_3)) (fun _ hk=>hk.2) (.int .i64 a2_4)) (fun _ hk=>hk.2) (.slice (some ad128) t123.length co28)) (fun _ hk=>hk.2) (.slice Ao50 t135.length co50)) (fun _ hk=>hk.2) (.int .i64 ((rd_T40 t123 a2_0).f2))) (fun _ hk=>trivial),by (with_reducible repeat (first|apply Kd.R_alloc|apply Kd.R_drewN|apply Kd.R_drew));exact Kd.R_mono (Kd.R_far (p:=⟨gb122,7,none⟩) (Kd.R_far (p:=⟨gb122,6,none⟩) (Kd.R_far (p:=⟨gb122,5,none⟩) (Kd.R_far (p:=⟨gb122,4,none⟩) (Kd.R_far (p:=⟨gb122,3,none⟩) (Kd.R_far (p:=⟨gb122,2,none⟩) (Kd.R_far (p:=⟨gb122,1,none⟩) (Kd.R_far (p:=⟨gb122,0,none⟩) (Kd.R_far (p:=⟨gb126,6,none⟩) (Kd.R_types (Kd.R_types HO137.out BK126.out (by decide)) BK122.out (by decide)) (fun _ hk=>hk.1.2) (.slice Ao50 t135.length co50)) (fun _ hk=>hk.2) (.int .i64 a2_0)) (fun _ hk=>hk.2) (.int .i64 a2_1)) (fun _ hk=>hk.2) (.int .i64 a2_2)) (fun _ hk=>hk.2) (.int .i64 a2_3)) (fun _ hk=>hk.2) (.int .i64 a2_4)) (fun _ hk=>hk.2) (.slice (some ad128) t123.length co28)) (fun _ hk=>hk.2) (.slice Ao50 t135.length co50)) (fun _ hk=>hk.2) (.int .i64 ((rd_T40 t123 a2_0).f2))) (fun _ hk=>trivial),by repeat (first|(with_reducible first|exact HB.out|apply below_alloc|apply pw_below_drewN|apply below_drew1|refine below_set ?_ GE121.out|refine below_set ?_ GE122.out|refine below_set ?_ GE126.out)|exact HB.out)⟩
          ·
           rw [if_neg c19] at H
           exact absurd H (by simp)
         ·
          rw [if_neg c16] at H
          exact absurd H (by simp)
        ·
         rw [if_neg c15] at H
         exact absurd H (by simp)
       ·
        rw [if_neg c14] at H
        exact absurd H (by simp)
      ·
       rw [if_neg c13] at H
       exact absurd H (by simp)
     ·
      rw [if_neg c12] at H
      exact absurd H (by simp)
    ·
     rw [if_neg c11] at H
     exact absurd H (by simp)
   ·
    rw [if_neg c10] at H
    exact absurd H (by simp)
  ·
   rw [if_neg c8] at H
   have c8b0:decide (a2_0 < a2_1)=false:=decide_eq_false c8
   clear c8
   simp only [Option.some.injEq,Prod.mk.injEq] at H
   obtain ⟨rfl,rfl,rfl,rfl,rfl,rfl,rfl,rfl,rfl⟩:=H
   go_enter Try.func17,Try.ntmps17
   try go_wp2_with (first|((with_reducible refine gate_dst (N:=6) rfl ?_);refine box_event ?hg (N:=6) ?hd (cs:= #[.int .i64 a2_0,.int .i64 a2_1,.int .i64 a2_2,.int .i64 a2_3,.int .i64 a2_4]) (t:=25) ?hr ?_;(case hd=>rfl);(case hg=>rfl);(case hr=>first|(go_simp;done)|(go_simp;rfl));intro gb121 hg w54 hbox hb;have n0_:=Aside0.mk (below_step (by repeat (first|(with_reducible first|exact HB.out|apply below_alloc|apply pw_below_drewN|apply below_drew1)|exact HB.out)) hb);have n1_:=Aside0.mk (hbox);have n2_:=Aside0.mk ((by rw [hg];exact (below_size (by repeat (first|(with_reducible first|exact HB.out|apply below_alloc|apply pw_below_drewN|apply below_drew1)|exact HB.out))):w.heap.size≤gb121));have n3_:=Aside0.mk ((by rw [hg];exact (below_size (by repeat (first|(with_reducible first|exact HB.out|apply below_alloc|apply pw_below_drewN|apply below_drew1)|exact HB.out))):w.heap.size≤gb121));clear HB;have HB:=n0_;have BK121:=n1_;have GW121:=n2_;have GE121:=n3_;clear n0_ n1_ n2_ n3_;clear hb hbox hg)|((with_reducible refine gate_dst (N:=8) rfl ?_);refine box_event ?hg (N:=8) ?hd (cs:= #[.int .i64 0,.int .i64 0,.int .i64 0,.int .i64 0,.int .i64 0,.slice none 0 0,.slice none 0 0,.int .i64 0]) (t:=50) ?hr ?_;(case hd=>rfl);(case hg=>rfl);(case hr=>first|(go_simp;done)|(go_simp;rfl));intro gb122 hg w55 hbox hb;have n0_:=Aside0.mk (blk_below (g:=gb121) (o:= .cells #[.int .i64 a2_0,.int .i64 a2_1,.int .i64 a2_2,.int .i64 a2_3,.int .i64 a2_4] 25 (0,0)) (by (with_reducible repeat (first|refine blk_drewN ?_ _|refine blk_drew ?_|refine blk_alloc ?_ _));exact BK121.out) hb);have n1_:=Aside0.mk (below_step (by repeat (first|(with_reducible first|exact HB.out|apply below_alloc|apply pw_below_drewN|apply below_drew1|refine below_set ?_ GE121.out)|exact HB.out)) hb);have n2_:=Aside0.mk (hbox);have n3_:=Aside0.mk ((by rw [hg];exact (below_size (by repeat (first|(with_reducible first|exact HB.out|apply below_alloc|apply pw_below_drewN|apply below_drew1|refine below_set ?_ GE121.out)|exact HB.out))):w.heap.size≤gb122));have n4_:=Aside0.mk ((by rw [hg];exact (below_size (by repeat (first|(with_reducible first|exact HB.out|apply below_alloc|apply pw_below_drewN|apply below_drew1|refine below_set ?_ GE121.out)|exact HB.out))):w.heap.size≤gb122));have n5_:=Aside0.mk ((by rw [hg];exact Nat.ne_of_lt (blk_lt (g:=gb121) (o:= .cells #[.int .i64 a2_0,.int .i64 a2_1,.int .i64 a2_2,.int .i64 a2_3,.int .i64 a2_4] 25 (0,0)) (by (with_reducible repeat (first|refine blk_drewN ?_ _|refine blk_drew ?_|refine blk_alloc ?_ _));exact BK121.out)):gb121≠gb122));have n6_:=Aside0.mk ((by rw [hg];exact Nat.ne_of_gt (blk_lt (g:=gb121) (o:= .cells #[.int .i64 a2_0,.int .i64 a2_1,.int .i64 a2_2,.int .i64 a2_3,.int .i64 a2_4] 25 (0,0)) (by (with_reducible repeat (first|refine blk_drewN ?_ _|refine blk_drew ?_|refine blk_alloc ?_ _));exact BK121.out)):gb122≠gb121));clear BK121;clear HB;have BK121:=n0_;have HB:=n1_;have BK122:=n2_;have GW122:=n3_;have GE122:=n4_;have NB121_122:=n5_;have NB122_121:=n6_;clear n0_ n1_ n2_ n3_ n4_ n5_ n6_;clear hb hbox hg))
   have n0_:=Aside0.mk (blk_drew BK121.out)
   have n1_:=Aside0.mk (blk_drew BK122.out)
   have n2_:=Aside0.mk (below_drew1 HB.out)
   clear BK121
   clear BK122
   clear HB
   have BK121:=n0_
   have BK122:=n1_
   have HB:=n2_
   clear n0_ n1_ n2_
   refine start_ (n:=6) (S:=fun w'=>w'.cell? ⟨gb121,0,none⟩=some (.int .i64 a2_0)∧w'.cell? ⟨gb121,1,none⟩=some (.int .i64 a2_1)∧w'.cell? ⟨gb121,2,none⟩=some (.int .i64 a2_2)∧w'.cell? ⟨gb121,3,none⟩=some (.int .i64 a2_3)∧w'.cell? ⟨gb121,4,none⟩=some (.int .i64 a2_4)) (ds:=[]) #[false,false,false,false,false,false] (by kernel_rfl) rfl rfl ⟨(blk_cell BK121.out 0).trans rfl,(blk_cell BK121.out 1).trans rfl,(blk_cell BK121.out 2).trans rfl,(blk_cell BK121.out 3).trans rfl,(blk_cell BK121.out 4).trans rfl⟩ (fun hHeld=>?_)
   generalize w55.drew=w56 at BK121 BK122 HB hHeld ⊢
   refine pure_ (i:=1) (N:=some 13) (v:=?_) (a':=?_) #[false,true,false,false,false,false] rfl rfl (by kernel_rfl) (fun _ _ _ h=>h) (Or.inl ⟨by rfl,?_⟩) ?_ ?_
   rotate_left
   ·
    intro w'
    go_simp
    with_reducible rfl
   rotate_left
   ·
    simp only [Act.put,List.setIfInBounds_toArray,List.set_cons_zero,List.set_cons_succ,i64_w,i32_w]
    rfl
   refine take_ (i:=0) (N:=some 12) (v:=?_) (a':=?_) #[true,true,false,false,false,false] rfl rfl (by kernel_rfl) (fun _ _ _ h=>h) (Or.inl ⟨by rfl,?_⟩) hHeld ?_ ?_
   rotate_left
   ·
    rintro w' ⟨s0,s1,s2,s3,s4⟩
    go_simp
    with_reducible rfl
   rotate_left
   ·
    simp only [Act.put,List.setIfInBounds_toArray,List.set_cons_zero,List.set_cons_succ,i64_w,i32_w]
    rfl
   refine join_ (σ:=Value × Nat) 1 #[true,true,true,true,true,false] (fun s_=>[(14,s_.1),(10,.pointer (some ⟨s_.2,0,none⟩)),(15,.agg #[.int .i64 a2_0,.int .i64 a2_1,.int .i64 a2_2,.int .i64 a2_3,.int .i64 a2_4,s_.1,.slice none 0 0,.int .i64 0])]) (fun s_ w'=>(w'.cell? ⟨gb121,0,none⟩=some (.int .i64 a2_0)∧w'.cell? ⟨gb121,1,none⟩=some (.int .i64 a2_1)∧w'.cell? ⟨gb121,2,none⟩=some (.int .i64 a2_2)∧w'.cell? ⟨gb121,3,none⟩=some (.int .i64 a2_3)∧w'.cell? ⟨gb121,4,none⟩=some (.int .i64 a2_4))∧(Kd.R k40 40 w' w.heap.size (fun _=>True) s_.1 t123)∧(w'.heap[gb121]?=some (.cells #[.int .i64 a2_0,.int .i64 a2_1,.int .i64 a2_2,.int .i64 a2_3,.int .i64 a2_4] 25 (0,0)))∧(w'.heap[gb122]?=some (.cells #[.int .i64 0,.int .i64 0,.int .i64 0,.int .i64 0,.int .i64 0,.slice none 0 0,.slice none 0 0,.int .i64 0] 50 (0,0)))∧(w'.heap[s_.2]?=some (.cells #[.int .i64 0,.int .i64 0,.int .i64 0,.int .i64 0,.int .i64 0,.slice none 0 0,.slice none 0 0,.int .i64 0] 50 (0,0)))∧(w.heap.size≤s_.2)∧(w.heap.size≤s_.2)∧(gb121≠s_.2)∧(s_.2≠gb121)∧(gb122≠s_.2)∧(s_.2≠gb122)∧(Below w.heap.size w w')) ?_ ?_
   rotate_left
   ·
    intro hCont
    refine two_ (i:=2) (j:=4) (Ni:=some 14) (Nj:=some 10) #[true,true,true,false,false,false] #[true,true,false,false,true,false] rfl rfl rfl rfl (by kernel_rfl) (by decide) (by decide) (fun K hK=>?_) (fun K hK=>?_)
    ·
     skip
     refine goes_ Try.func13 (by kernel_rfl) rfl #[.slice A0 l0.length c0] (by rfl) rfl rfl (by (try simp only [List.map_toArray,List.map_cons,List.map_nil]);first|done|rfl|(simp only [List.length_drop,List.length_take];rfl)) ?_
     with_reducible refine (cluster_Of.calls _ _ l0 t123 _ ?side1 ?side2 A5.out).mono ?_
     (case side1=>repeat (first|exact (Kd.C_below HR0.out HB.out)|(with_reducible refine Kd.C_alloc ?_ _)|(with_reducible refine Kd.C_drewN ?_ _)|(with_reducible refine Kd.C_drew ?_)))
     (case side2=>exact HC0.out)
     rintro e w57 ⟨v124,rfl,ho0,hb⟩
     refine ⟨_,rfl,?_⟩
     have n0_:=Aside0.mk (Kd.R_lower ho0 (below_size (by repeat (first|(with_reducible first|exact HB.out|apply below_alloc|apply pw_below_drewN|apply below_drew1|refine below_set ?_ GE121.out|refine below_set ?_ GE122.out)|exact HB.out))))
     have n1_:=Aside0.mk (blk_below (g:=gb121) (o:= .cells #[.int .i64 a2_0,.int .i64 a2_1,.int .i64 a2_2,.int .i64 a2_3,.int .i64 a2_4] 25 (0,0)) (by (with_reducible repeat (first|refine blk_drewN ?_ _|refine blk_drew ?_|refine blk_alloc ?_ _));exact BK121.out) hb)
     have n2_:=Aside0.mk (blk_below (g:=gb122) (o:= .cells #[.int .i64 0,.int .i64 0,.int .i64 0,.int .i64 0,.int .i64 0,.slice none 0 0,.slice none 0 0,.int .i64 0] 50 (0,0)) (by (with_reducible repeat (first|refine blk_drewN ?_ _|refine blk_drew ?_|refine blk_alloc ?_ _));exact BK122.out) hb)
     have n3_:=Aside0.mk (below_step (by repeat (first|(with_reducible first|exact HB.out|apply below_alloc|apply pw_below_drewN|apply below_drew1|refine below_set ?_ GE121.out|refine below_set ?_ GE122.out)|exact HB.out)) hb)
     clear BK121
     clear BK122
     clear HB
     have HO125:=n0_
     have BK121:=n1_
     have BK122:=n2_
     have HB:=n3_
     clear n0_ n1_ n2_ n3_
     (try clear hb)
     (try clear hb2)
     (try clear hk)
     (try clear hi)
     (try clear ho0)
     obtain ⟨Ao58,co58,eo58⟩:=Kd.R_slice HO125.out
     (first|subst eo58|(injection eo58 with f1_ f2_ f3_;have f4_:=f1_.symm;have f5_:=f3_.symm;clear f1_ f2_ f3_;subst f4_;subst f5_))
     refine hK.out _ _ ⟨(blk_cell BK121.out 0).trans rfl,(blk_cell BK121.out 1).trans rfl,(blk_cell BK121.out 2).trans rfl,(blk_cell BK121.out 3).trans rfl,(blk_cell BK121.out 4).trans rfl⟩ (fun hHeld=>?_)
     clear hK K
     refine norm_ (a':=?_) ?_ ?_
     rotate_left
     ·
      show Act.put _ (some 14) _=_
      simp only [Act.put,List.setIfInBounds_toArray,List.set_cons_zero,List.set_cons_succ,i64_w,i32_w]
      rfl
     refine pure_ (i:=3) (N:=some 15) (v:=?_) (a':=?_) #[true,true,true,true,false,false] rfl rfl (by kernel_rfl) (fun _ _ _ h=>h) (Or.inl ⟨by rfl,?_⟩) ?_ ?_
     rotate_left
     ·
      intro w'
      go_simp
      with_reducible rfl
     rotate_left
     ·
      simp only [Act.put,List.setIfInBounds_toArray,List.set_cons_zero,List.set_cons_succ,i64_w,i32_w]
      rfl
     refine one_ (i:=4) (N:=some 10) #[true,true,true,true,true,false] rfl rfl (by kernel_rfl) (by decide) (fun K hK=>?_)
     refine box_step ?hg (N:=10) ?hd (cs:= #[.int .i64 0,.int .i64 0,.int .i64 0,.int .i64 0,.int .i64 0,.slice none 0 0,.slice none 0 0,.int .i64 0]) (t:=50) ?hr ?_;(case hd=>rfl);(case hg=>rfl);(case hr=>first|(go_simp;done)|(go_simp;rfl))
     intro gb126 hg w59 hbox hb
     have n0_:=Aside0.mk (Kd.R_below (by (with_reducible repeat (first|apply Kd.R_alloc|apply Kd.R_drewN|apply Kd.R_drew));exact HO125.out) hb)
     have n1_:=Aside0.mk (blk_below (g:=gb121) (o:= .cells #[.int .i64 a2_0,.int .i64 a2_1,.int .i64 a2_2,.int .i64 a2_3,.int .i64 a2_4] 25 (0,0)) (by (with_reducible repeat (first|refine blk_drewN ?_ _|refine blk_drew ?_|refine blk_alloc ?_ _));exact BK121.out) hb)
     have n2_:=Aside0.mk (blk_below (g:=gb122) (o:= .cells #[.int .i64 0,.int .i64 0,.int .i64 0,.int .i64 0,.int .i64 0,.slice none 0 0,.slice none 0 0,.int .i64 0] 50 (0,0)) (by (with_reducible repeat (first|refine blk_drewN ?_ _|refine blk_drew ?_|refine blk_alloc ?_ _));exact BK122.out) hb)
     have n3_:=Aside0.mk (below_step (by repeat (first|(with_reducible first|exact HB.out|apply below_alloc|apply pw_below_drewN|apply below_drew1|refine below_set ?_ GE121.out|refine below_set ?_ GE122.out)|exact HB.out)) hb)
     have n4_:=Aside0.mk (hbox)
     have n5_:=Aside0.mk ((by rw [hg];exact (below_size (by repeat (first|(with_reducible first|exact HB.out|apply below_alloc|apply pw_below_drewN|apply below_drew1|refine below_set ?_ GE121.out|refine below_set ?_ GE122.out)|exact HB.out))):w.heap.size≤gb126))
     have n6_:=Aside0.mk ((by rw [hg];exact (below_size (by repeat (first|(with_reducible first|exact HB.out|apply below_alloc|apply pw_below_drewN|apply below_drew1|refine below_set ?_ GE121.out|refine below_set ?_ GE122.out)|exact HB.out))):w.heap.size≤gb126))
     have n7_:=Aside0.mk ((by rw [hg];exact Nat.ne_of_lt (blk_lt (g:=gb121) (o:= .cells #[.int .i64 a2_0,.int .i64 a2_1,.int .i64 a2_2,.int .i64 a2_3,.int .i64 a2_4] 25 (0,0)) (by (with_reducible repeat (first|refine blk_drewN ?_ _|refine blk_drew ?_|refine blk_alloc ?_ _));exact BK121.out)):gb121≠gb126))
     have n8_:=Aside0.mk ((by rw [hg];exact Nat.ne_of_gt (blk_lt (g:=gb121) (o:= .cells #[.int .i64 a2_0,.int .i64 a2_1,.int .i64 a2_2,.int .i64 a2_3,.int .i64 a2_4] 25 (0,0)) (by (with_reducible repeat (first|refine blk_drewN ?_ _|refine blk_drew ?_|refine blk_alloc ?_ _));exact BK121.out)):gb126≠gb121))
     have n9_:=Aside0.mk ((by rw [hg];exact Nat.ne_of_lt (blk_lt (g:=gb122) (o:= .cells #[.int .i64 0,.int .i64 0,.int .i64 0,.int .i64 0,.int .i64 0,.slice none 0 0,.slice none 0 0,.int .i64 0] 50 (0,0)) (by (with_reducible repeat (first|refine blk_drewN ?_ _|refine blk_drew ?_|refine blk_alloc ?_ _));exact BK122.out)):gb122≠gb126))
     have n10_:=Aside0.mk ((by rw [hg];exact Nat.ne_of_gt (blk_lt (g:=gb122) (o:= .cells #[.int .i64 0,.int .i64 0,.int .i64 0,.int .i64 0,.int .i64 0,.slice none 0 0,.slice none 0 0,.int .i64 0] 50 (0,0)) (by (with_reducible repeat (first|refine blk_drewN ?_ _|refine blk_drew ?_|refine blk_alloc ?_ _));exact BK122.out)):gb126≠gb122))
     clear HO125
     clear BK121
     clear BK122
     clear HB
     have HO125:=n0_
     have BK121:=n1_
     have BK122:=n2_
     have HB:=n3_
     have BK126:=n4_
     have GW126:=n5_
     have GE126:=n6_
     have NB121_126:=n7_
     have NB126_121:=n8_
     have NB122_126:=n9_
     have NB126_122:=n10_
     clear n0_ n1_ n2_ n3_ n4_ n5_ n6_ n7_ n8_ n9_ n10_
     clear hb hbox hg
     refine hK.out _ _ ⟨(blk_cell BK121.out 0).trans rfl,(blk_cell BK121.out 1).trans rfl,(blk_cell BK121.out 2).trans rfl,(blk_cell BK121.out 3).trans rfl,(blk_cell BK121.out 4).trans rfl⟩ (fun hHeld=>?_)
     clear hK K
     refine norm_ (a':=?_) ?_ ?_
     rotate_left
     ·
      show Act.put _ (some 10) _=_
      simp only [Act.put,List.setIfInBounds_toArray,List.set_cons_zero,List.set_cons_succ,i64_w,i32_w]
      rfl
     exact norm_ (by simp only [putAll,Act.put,List.setIfInBounds_toArray,List.set_cons_zero,List.set_cons_succ]) (hCont (.slice Ao58 t123.length co58,gb126) _ ⟨hHeld,(by (with_reducible repeat (first|apply Kd.R_alloc|apply Kd.R_drewN|apply Kd.R_drew));exact HO125.out),(by (with_reducible repeat (first|refine blk_drewN ?_ _|refine blk_drew ?_|refine blk_alloc ?_ _));exact BK121.out),(by (with_reducible repeat (first|refine blk_drewN ?_ _|refine blk_drew ?_|refine blk_alloc ?_ _));exact BK122.out),(by (with_reducible repeat (first|refine blk_drewN ?_ _|refine blk_drew ?_|refine blk_alloc ?_ _));exact BK126.out),GW126.out,GE126.out,NB121_126.out,NB126_121.out,NB122_126.out,NB126_122.out,(by repeat (first|(with_reducible first|exact HB.out|apply below_alloc|apply pw_below_drewN|apply below_drew1|refine below_set ?_ GE121.out|refine below_set ?_ GE122.out|refine below_set ?_ GE126.out)|exact HB.out))⟩)
    ·
     skip
     refine box_step ?hg (N:=10) ?hd (cs:= #[.int .i64 0,.int .i64 0,.int .i64 0,.int .i64 0,.int .i64 0,.slice none 0 0,.slice none 0 0,.int .i64 0]) (t:=50) ?hr ?_;(case hd=>rfl);(case hg=>rfl);(case hr=>first|(go_simp;done)|(go_simp;rfl))
     intro gb126 hg w57 hbox hb
     have n0_:=Aside0.mk (blk_below (g:=gb121) (o:= .cells #[.int .i64 a2_0,.int .i64 a2_1,.int .i64 a2_2,.int .i64 a2_3,.int .i64 a2_4] 25 (0,0)) (by (with_reducible repeat (first|refine blk_drewN ?_ _|refine blk_drew ?_|refine blk_alloc ?_ _));exact BK121.out) hb)
     have n1_:=Aside0.mk (blk_below (g:=gb122) (o:= .cells #[.int .i64 0,.int .i64 0,.int .i64 0,.int .i64 0,.int .i64 0,.slice none 0 0,.slice none 0 0,.int .i64 0] 50 (0,0)) (by (with_reducible repeat (first|refine blk_drewN ?_ _|refine blk_drew ?_|refine blk_alloc ?_ _));exact BK122.out) hb)
     have n2_:=Aside0.mk (below_step (by repeat (first|(with_reducible first|exact HB.out|apply below_alloc|apply pw_below_drewN|apply below_drew1|refine below_set ?_ GE121.out|refine below_set ?_ GE122.out)|exact HB.out)) hb)
     have n3_:=Aside0.mk (hbox)
     have n4_:=Aside0.mk ((by rw [hg];exact (below_size (by repeat (first|(with_reducible first|exact HB.out|apply below_alloc|apply pw_below_drewN|apply below_drew1|refine below_set ?_ GE121.out|refine below_set ?_ GE122.out)|exact HB.out))):w.heap.size≤gb126))
     have n5_:=Aside0.mk ((by rw [hg];exact (below_size (by repeat (first|(with_reducible first|exact HB.out|apply below_alloc|apply pw_below_drewN|apply below_drew1|refine below_set ?_ GE121.out|refine below_set ?_ GE122.out)|exact HB.out))):w.heap.size≤gb126))
     have n6_:=Aside0.mk ((by rw [hg];exact Nat.ne_of_lt (blk_lt (g:=gb121) (o:= .cells #[.int .i64 a2_0,.int .i64 a2_1,.int .i64 a2_2,.int .i64 a2_3,.int .i64 a2_4] 25 (0,0)) (by (with_reducible repeat (first|refine blk_drewN ?_ _|refine blk_drew ?_|refine blk_alloc ?_ _));exact BK121.out)):gb121≠gb126))
     have n7_:=Aside0.mk ((by rw [hg];exact Nat.ne_of_gt (blk_lt (g:=gb121) (o:= .cells #[.int .i64 a2_0,.int .i64 a2_1,.int .i64 a2_2,.int .i64 a2_3,.int .i64 a2_4] 25 (0,0)) (by (with_reducible repeat (first|refine blk_drewN ?_ _|refine blk_drew ?_|refine blk_alloc ?_ _));exact BK121.out)):gb126≠gb121))
     have n8_:=Aside0.mk ((by rw [hg];exact Nat.ne_of_lt (blk_lt (g:=gb122) (o:= .cells #[.int .i64 0,.int .i64 0,.int .i64 0,.int .i64 0,.int .i64 0,.slice none 0 0,.slice none 0 0,.int .i64 0] 50 (0,0)) (by (with_reducible repeat (first|refine blk_drewN ?_ _|refine blk_drew ?_|refine blk_alloc ?_ _));exact BK122.out)):gb122≠gb126))
     have n9_:=Aside0.mk ((by rw [hg];exact Nat.ne_of_gt (blk_lt (g:=gb122) (o:= .cells #[.int .i64 0,.int .i64 0,.int .i64 0,.int .i64 0,.int .i64 0,.slice none 0 0,.slice none 0 0,.int .i64 0] 50 (0,0)) (by (with_reducible repeat (first|refine blk_drewN ?_ _|refine blk_drew ?_|refine blk_alloc ?_ _));exact BK122.out)):gb126≠gb122))
     clear BK121
     clear BK122
     clear HB
     have BK121:=n0_
     have BK122:=n1_
     have HB:=n2_
     have BK126:=n3_
     have GW126:=n4_
     have GE126:=n5_
     have NB121_126:=n6_
     have NB126_121:=n7_
     have NB122_126:=n8_
     have NB126_122:=n9_
     clear n0_ n1_ n2_ n3_ n4_ n5_ n6_ n7_ n8_ n9_
     clear hb hbox hg
     refine hK.out _ _ ⟨(blk_cell BK121.out 0).trans rfl,(blk_cell BK121.out 1).trans rfl,(blk_cell BK121.out 2).trans rfl,(blk_cell BK121.out 3).trans rfl,(blk_cell BK121.out 4).trans rfl⟩ (fun hHeld=>?_)
     clear hK K
     refine norm_ (a':=?_) ?_ ?_
     rotate_left
     ·
      show Act.put _ (some 10) _=_
      simp only [Act.put,List.setIfInBounds_toArray,List.set_cons_zero,List.set_cons_succ,i64_w,i32_w]
      rfl
     refine one_ (i:=2) (N:=some 14) #[true,true,true,false,true,false] rfl rfl (by kernel_rfl) (by decide) (fun K hK=>?_)
     refine goes_ Try.func13 (by kernel_rfl) rfl #[.slice A0 l0.length c0] (by rfl) rfl rfl (by (try simp only [List.map_toArray,List.map_cons,List.map_nil]);first|done|rfl|(simp only [List.length_drop,List.length_take];rfl)) ?_
     with_reducible refine (cluster_Of.calls _ _ l0 t123 _ ?side1 ?side2 A5.out).mono ?_
     (case side1=>repeat (first|exact (Kd.C_below HR0.out HB.out)|(with_reducible refine Kd.C_alloc ?_ _)|(with_reducible refine Kd.C_drewN ?_ _)|(with_reducible refine Kd.C_drew ?_)))
     (case side2=>exact HC0.out)
     rintro e w58 ⟨v124,rfl,ho0,hb⟩
     refine ⟨_,rfl,?_⟩
     have n0_:=Aside0.mk (Kd.R_lower ho0 (below_size (by repeat (first|(with_reducible first|exact HB.out|apply below_alloc|apply pw_below_drewN|apply below_drew1|refine below_set ?_ GE121.out|refine below_set ?_ GE122.out|refine below_set ?_ GE126.out)|exact HB.out))))
     have n1_:=Aside0.mk (blk_below (g:=gb121) (o:= .cells #[.int .i64 a2_0,.int .i64 a2_1,.int .i64 a2_2,.int .i64 a2_3,.int .i64 a2_4] 25 (0,0)) (by (with_reducible repeat (first|refine blk_drewN ?_ _|refine blk_drew ?_|refine blk_alloc ?_ _));exact BK121.out) hb)
     have n2_:=Aside0.mk (blk_below (g:=gb122) (o:= .cells #[.int .i64 0,.int .i64 0,.int .i64 0,.int .i64 0,.int .i64 0,.slice none 0 0,.slice none 0 0,.int .i64 0] 50 (0,0)) (by (with_reducible repeat (first|refine blk_drewN ?_ _|refine blk_drew ?_|refine blk_alloc ?_ _));exact BK122.out) hb)
     have n3_:=Aside0.mk (blk_below (g:=gb126) (o:= .cells #[.int .i64 0,.int .i64 0,.int .i64 0,.int .i64 0,.int .i64 0,.slice none 0 0,.slice none 0 0,.int .i64 0] 50 (0,0)) (by (with_reducible repeat (first|refine blk_drewN ?_ _|refine blk_drew ?_|refine blk_alloc ?_ _));exact BK126.out) hb)
     have n4_:=Aside0.mk (below_step (by repeat (first|(with_reducible first|exact HB.out|apply below_alloc|apply pw_below_drewN|apply below_drew1|refine below_set ?_ GE121.out|refine below_set ?_ GE122.out|refine below_set ?_ GE126.out)|exact HB.out)) hb)
     clear BK121
     clear BK122
     clear BK126
     clear HB
     have HO125:=n0_
     have BK121:=n1_
     have BK122:=n2_
     have BK126:=n3_
     have HB:=n4_
     clear n0_ n1_ n2_ n3_ n4_
     (try clear hb)
     (try clear hb2)
     (try clear hk)
     (try clear hi)
     (try clear ho0)
     obtain ⟨Ao59,co59,eo59⟩:=Kd.R_slice HO125.out
     (first|subst eo59|(injection eo59 with f1_ f2_ f3_;have f4_:=f1_.symm;have f5_:=f3_.symm;clear f1_ f2_ f3_;subst f4_;subst f5_))
     refine hK.out _ _ ⟨(blk_cell BK121.out 0).trans rfl,(blk_cell BK121.out 1).trans rfl,(blk_cell BK121.out 2).trans rfl,(blk_cell BK121.out 3).trans rfl,(blk_cell BK121.out 4).trans rfl⟩ (fun hHeld=>?_)
     clear hK K
     refine norm_ (a':=?_) ?_ ?_
     rotate_left
     ·
      show Act.put _ (some 14) _=_
      simp only [Act.put,List.setIfInBounds_toArray,List.set_cons_zero,List.set_cons_succ,i64_w,i32_w]
      rfl
     refine pure_ (i:=3) (N:=some 15) (v:=?_) (a':=?_) #[true,true,true,true,true,false] rfl rfl (by kernel_rfl) (fun _ _ _ h=>h) (Or.inl ⟨by rfl,?_⟩) ?_ ?_
     rotate_left
     ·
      intro w'
      go_simp
      with_reducible rfl
     rotate_left
     ·
      simp only [Act.put,List.setIfInBounds_toArray,List.set_cons_zero,List.set_cons_succ,i64_w,i32_w]
      rfl
     exact norm_ (by simp only [putAll,Act.put,List.setIfInBounds_toArray,List.set_cons_zero,List.set_cons_succ]) (hCont (.slice Ao59 t123.length co59,gb126) _ ⟨hHeld,(by (with_reducible repeat (first|apply Kd.R_alloc|apply Kd.R_drewN|apply Kd.R_drew));exact HO125.out),(by (with_reducible repeat (first|refine blk_drewN ?_ _|refine blk_drew ?_|refine blk_alloc ?_ _));exact BK121.out),(by (with_reducible repeat (first|refine blk_drewN ?_ _|refine blk_drew ?_|refine blk_alloc ?_ _));exact BK122.out),(by (with_reducible repeat (first|refine blk_drewN ?_ _|refine blk_drew ?_|refine blk_alloc ?_ _));exact BK126.out),GW126.out,GE126.out,NB121_126.out,NB126_121.out,NB122_126.out,NB126_122.out,(by repeat (first|(with_reducible first|exact HB.out|apply below_alloc|apply pw_below_drewN|apply below_drew1|refine below_set ?_ GE121.out|refine below_set ?_ GE122.out|refine below_set ?_ GE126.out)|exact HB.out))⟩)
   rintro ⟨v124,gb126⟩ w60 ⟨hS_,h0_,h1_,h2_,h3_,h4_,h5_,h6_,h7_,h8_,h9_,h10_⟩
   have n0_:Aside0 (Kd.R k40 40 w60 w.heap.size (fun _=>True) v124 t123):=⟨h0_⟩
   have n1_:Aside0 (w60.heap[gb121]?=some (.cells #[.int .i64 a2_0,.int .i64 a2_1,.int .i64 a2_2,.int .i64 a2_3,.int .i64 a2_4] 25 (0,0))):=⟨h1_⟩
   have n2_:Aside0 (w60.heap[gb122]?=some (.cells #[.int .i64 0,.int .i64 0,.int .i64 0,.int .i64 0,.int .i64 0,.slice none 0 0,.slice none 0 0,.int .i64 0] 50 (0,0))):=⟨h2_⟩
   have n3_:Aside0 (w60.heap[gb126]?=some (.cells #[.int .i64 0,.int .i64 0,.int .i64 0,.int .i64 0,.int .i64 0,.slice none 0 0,.slice none 0 0,.int .i64 0] 50 (0,0))):=⟨h3_⟩
   have n4_:Aside0 (w.heap.size≤gb126):=⟨h4_⟩
   have n5_:Aside0 (w.heap.size≤gb126):=⟨h5_⟩
   have n6_:Aside0 (gb121≠gb126):=⟨h6_⟩
   have n7_:Aside0 (gb126≠gb121):=⟨h7_⟩
   have n8_:Aside0 (gb122≠gb126):=⟨h8_⟩
   have n9_:Aside0 (gb126≠gb122):=⟨h9_⟩
   have n10_:Aside0 (Below w.heap.size w w60):=⟨h10_⟩
   clear BK121
   clear BK122
   clear HB
   clear h0_ h1_ h2_ h3_ h4_ h5_ h6_ h7_ h8_ h9_ h10_
   have HO125:=n0_
   have BK121:=n1_
   have BK122:=n2_
   have BK126:=n3_
   have GW126:=n4_
   have GE126:=n5_
   have NB121_126:=n6_
   have NB126_121:=n7_
   have NB122_126:=n8_
   have NB126_122:=n9_
   have HB:=n10_
   clear n0_ n1_ n2_ n3_ n4_ n5_ n6_ n7_ n8_ n9_ n10_
   have hHeld:w60.cell? ⟨gb121,0,none⟩=some (.int .i64 a2_0)∧w60.cell? ⟨gb121,1,none⟩=some (.int .i64 a2_1)∧w60.cell? ⟨gb121,2,none⟩=some (.int .i64 a2_2)∧w60.cell? ⟨gb121,3,none⟩=some (.int .i64 a2_3)∧w60.cell? ⟨gb121,4,none⟩=some (.int .i64 a2_4):=hS_
   obtain ⟨Ao61,co61,eo61⟩:=Kd.R_slice HO125.out
   (first|subst eo61|(injection eo61 with f1_ f2_ f3_;have f4_:=f1_.symm;have f5_:=f3_.symm;clear f1_ f2_ f3_;subst f4_;subst f5_))
   refine norm_ (a':=?_) ?_ ?_
   rotate_left
   ·
    simp only [putAll,Act.put,List.setIfInBounds_toArray,List.set_cons_zero,List.set_cons_succ]
    rfl
   refine one_ (i:=5) (N:=none) #[true,true,true,true,true,true] rfl rfl (by kernel_rfl) (by decide) (fun K hK=>?_)
   have hs62:w60.cell? ⟨gb126,0,none⟩=some (.int .i64 0):=(blk_cell BK126.out 0).trans rfl
   have hfs62:=blk_frozen BK126.out 0
   have hns62_0:=NB121_126.out
   have hns62_1:=NB122_126.out
   have hms62_0:=NB126_121.out
   have hms62_1:=NB126_122.out
   have hs63:w60.cell? ⟨gb126,1,none⟩=some (.int .i64 0):=(blk_cell BK126.out 1).trans rfl
   have hfs63:=blk_frozen BK126.out 1
   have hns63_0:=NB121_126.out
   have hns63_1:=NB122_126.out
   have hms63_0:=NB126_121.out
   have hms63_1:=NB126_122.out
   have hs64:w60.cell? ⟨gb126,2,none⟩=some (.int .i64 0):=(blk_cell BK126.out 2).trans rfl
   have hfs64:=blk_frozen BK126.out 2
   have hns64_0:=NB121_126.out
   have hns64_1:=NB122_126.out
   have hms64_0:=NB126_121.out
   have hms64_1:=NB126_122.out
   have hs65:w60.cell? ⟨gb126,3,none⟩=some (.int .i64 0):=(blk_cell BK126.out 3).trans rfl
   have hfs65:=blk_frozen BK126.out 3
   have hns65_0:=NB121_126.out
   have hns65_1:=NB122_126.out
   have hms65_0:=NB126_121.out
   have hms65_1:=NB126_122.out
   have hs66:w60.cell? ⟨gb126,4,none⟩=some (.int .i64 0):=(blk_cell BK126.out 4).trans rfl
   have hfs66:=blk_frozen BK126.out 4
   have hns66_0:=NB121_126.out
   have hns66_1:=NB122_126.out
   have hms66_0:=NB126_121.out
   have hms66_1:=NB126_122.out
   have hs67:w60.cell? ⟨gb126,5,none⟩=some (.slice none 0 0):=(blk_cell BK126.out 5).trans rfl
   have hfs67:=blk_frozen BK126.out 5
   have hns67_0:=NB121_126.out
   have hns67_1:=NB122_126.out
   have hms67_0:=NB126_121.out
   have hms67_1:=NB126_122.out
   have hs68:w60.cell? ⟨gb126,6,none⟩=some (.slice none 0 0):=(blk_cell BK126.out 6).trans rfl
   have hfs68:=blk_frozen BK126.out 6
   have hns68_0:=NB121_126.out
   have hns68_1:=NB122_126.out
   have hms68_0:=NB126_121.out
   have hms68_1:=NB126_122.out
   have hs69:w60.cell? ⟨gb126,7,none⟩=some (.int .i64 0):=(blk_cell BK126.out 7).trans rfl
   have hfs69:=blk_frozen BK126.out 7
   have hns69_0:=NB121_126.out
   have hns69_1:=NB122_126.out
   have hms69_0:=NB126_121.out
   have hms69_1:=NB126_122.out
   refine skip_ (w1:=?_) (by rfl) rfl ?_ ?_
   rotate_left
   ·
    go_simp
    rfl
   refine hK.out _ _ ⟨((cell_far (p:=⟨gb126,_,none⟩) NB121_126.out _).trans (((cell_far (p:=⟨gb126,_,none⟩) NB121_126.out _).trans (((cell_far (p:=⟨gb126,_,none⟩) NB121_126.out _).trans (((cell_far (p:=⟨gb126,_,none⟩) NB121_126.out _).trans (((cell_far (p:=⟨gb126,_,none⟩) NB121_126.out _).trans (((cell_far (p:=⟨gb126,_,none⟩) NB121_126.out _).trans (((cell_far (p:=⟨gb126,_,none⟩) NB121_126.out _).trans (((cell_far (p:=⟨gb126,_,none⟩) NB121_126.out _).trans (hHeld.1)))))))))))))))),((cell_far (p:=⟨gb126,_,none⟩) NB121_126.out _).trans (((cell_far (p:=⟨gb126,_,none⟩) NB121_126.out _).trans (((cell_far (p:=⟨gb126,_,none⟩) NB121_126.out _).trans (((cell_far (p:=⟨gb126,_,none⟩) NB121_126.out _).trans (((cell_far (p:=⟨gb126,_,none⟩) NB121_126.out _).trans (((cell_far (p:=⟨gb126,_,none⟩) NB121_126.out _).trans (((cell_far (p:=⟨gb126,_,none⟩) NB121_126.out _).trans (((cell_far (p:=⟨gb126,_,none⟩) NB121_126.out _).trans (hHeld.2.1)))))))))))))))),((cell_far (p:=⟨gb126,_,none⟩) NB121_126.out _).trans (((cell_far (p:=⟨gb126,_,none⟩) NB121_126.out _).trans (((cell_far (p:=⟨gb126,_,none⟩) NB121_126.out _).trans (((cell_far (p:=⟨gb126,_,none⟩) NB121_126.out _).trans (((cell_far (p:=⟨gb126,_,none⟩) NB121_126.out _).trans (((cell_far (p:=⟨gb126,_,none⟩) NB121_126.out _).trans (((cell_far (p:=⟨gb126,_,none⟩) NB121_126.out _).trans (((cell_far (p:=⟨gb126,_,none⟩) NB121_126.out _).trans (hHeld.2.2.1)))))))))))))))),((cell_far (p:=⟨gb126,_,none⟩) NB121_126.out _).trans (((cell_far (p:=⟨gb126,_,none⟩) NB121_126.out _).trans (((cell_far (p:=⟨gb126,_,none⟩) NB121_126.out _).trans (((cell_far (p:=⟨gb126,_,none⟩) NB121_126.out _).trans (((cell_far (p:=⟨gb126,_,none⟩) NB121_126.out _).trans (((cell_far (p:=⟨gb126,_,none⟩) NB121_126.out _).trans (((cell_far (p:=⟨gb126,_,none⟩) NB121_126.out _).trans (((cell_far (p:=⟨gb126,_,none⟩) NB121_126.out _).trans (hHeld.2.2.2.1)))))))))))))))),((cell_far (p:=⟨gb126,_,none⟩) NB121_126.out _).trans (((cell_far (p:=⟨gb126,_,none⟩) NB121_126.out _).trans (((cell_far (p:=⟨gb126,_,none⟩) NB121_126.out _).trans (((cell_far (p:=⟨gb126,_,none⟩) NB121_126.out _).trans (((cell_far (p:=⟨gb126,_,none⟩) NB121_126.out _).trans (((cell_far (p:=⟨gb126,_,none⟩) NB121_126.out _).trans (((cell_far (p:=⟨gb126,_,none⟩) NB121_126.out _).trans (((cell_far (p:=⟨gb126,_,none⟩) NB121_126.out _).trans (hHeld.2.2.2.2))))))))))))))))⟩ (fun hHeld=>?_)
   clear hK K
   refine done_ (by kernel_rfl) ?_
   have hnb70:=NB121_122.out
   have hnc70:=NB122_121.out
   have hnb71:=NB121_126.out
   have hnc71:=NB126_121.out
   have hcz72_0:w60.cell? ⟨gb121,0,none⟩=some (.int .i64 a2_0):=(blk_cell BK121.out 0).trans rfl
   have hcz72_1:w60.cell? ⟨gb121,1,none⟩=some (.int .i64 a2_1):=(blk_cell BK121.out 1).trans rfl
   have hcz72_2:w60.cell? ⟨gb121,2,none⟩=some (.int .i64 a2_2):=(blk_cell BK121.out 2).trans rfl
   have hcz72_3:w60.cell? ⟨gb121,3,none⟩=some (.int .i64 a2_3):=(blk_cell BK121.out 3).trans rfl
   have hcz72_4:w60.cell? ⟨gb121,4,none⟩=some (.int .i64 a2_4):=(blk_cell BK121.out 4).trans rfl
   have hfz72_0:=blk_frozen BK121.out 0
   have hfz72_1:=blk_frozen BK121.out 1
   have hfz72_2:=blk_frozen BK121.out 2
   have hfz72_3:=blk_frozen BK121.out 3
   have hfz72_4:=blk_frozen BK121.out 4
   have hnb73:=NB126_122.out
   have hnc73:=NB122_126.out
   have hcz74_0:w60.cell? ⟨gb126,0,none⟩=some (.int .i64 0):=(blk_cell BK126.out 0).trans rfl
   have hcz74_1:w60.cell? ⟨gb126,1,none⟩=some (.int .i64 0):=(blk_cell BK126.out 1).trans rfl
   have hcz74_2:w60.cell? ⟨gb126,2,none⟩=some (.int .i64 0):=(blk_cell BK126.out 2).trans rfl
   have hcz74_3:w60.cell? ⟨gb126,3,none⟩=some (.int .i64 0):=(blk_cell BK126.out 3).trans rfl
   have hcz74_4:w60.cell? ⟨gb126,4,none⟩=some (.int .i64 0):=(blk_cell BK126.out 4).trans rfl
   have hcz74_5:w60.cell? ⟨gb126,5,none⟩=some (.slice none 0 0):=(blk_cell BK126.out 5).trans rfl
   have hcz74_6:w60.cell? ⟨gb126,6,none⟩=some (.slice none 0 0):=(blk_cell BK126.out 6).trans rfl
   have hcz74_7:w60.cell? ⟨gb126,7,none⟩=some (.int .i64 0):=(blk_cell BK126.out 7).trans rfl
   have hfz74_0:=blk_frozen BK126.out 0
   have hfz74_1:=blk_frozen BK126.out 1
   have hfz74_2:=blk_frozen BK126.out 2
   have hfz74_3:=blk_frozen BK126.out 3
   have hfz74_4:=blk_frozen BK126.out 4
   have hfz74_5:=blk_frozen BK126.out 5
   have hfz74_6:=blk_frozen BK126.out 6
   have hfz74_7:=blk_frozen BK126.out 7
   try go_wp2_with (first|((with_reducible refine gate_callee (f:=30) rfl ?_);refine goesL_ (some 20) rfl rfl Try.func30 (by kernel_rfl) rfl #[.agg #[.int .i64 a2_0,.int .i64 a2_1,.int .i64 a2_2,.int .i64 a2_3,.int .i64 a2_4],.int .i64 (t123.length:Int)] rfl (by (try simp only [List.map_toArray,List.map_cons,List.map_nil]);first|done|rfl|(simp only [List.length_drop,List.length_take];rfl)) ?_;(with_reducible refine (place_has.calls a2_0 a2_1 a2_2 a2_3 a2_4 (t123.length:Int) true _ A6.out).mono ?_);rintro e w75 ⟨rfl,hb⟩;refine ⟨_,rfl,?_⟩;have n0_:=Aside0.mk (Kd.R_below (by (with_reducible repeat (first|apply Kd.R_alloc|apply Kd.R_drewN|apply Kd.R_drew));exact (Kd.R_mono (Kd.R_far (p:=⟨gb126,7,none⟩) (Kd.R_far (p:=⟨gb126,6,none⟩) (Kd.R_far (p:=⟨gb126,5,none⟩) (Kd.R_far (p:=⟨gb126,4,none⟩) (Kd.R_far (p:=⟨gb126,3,none⟩) (Kd.R_far (p:=⟨gb126,2,none⟩) (Kd.R_far (p:=⟨gb126,1,none⟩) (Kd.R_far (p:=⟨gb126,0,none⟩) (Kd.R_types HO125.out BK126.out (by decide)) (fun _ hk=>hk.2) (.int .i64 a2_0)) (fun _ hk=>hk.2) (.int .i64 a2_1)) (fun _ hk=>hk.2) (.int .i64 a2_2)) (fun _ hk=>hk.2) (.int .i64 a2_3)) (fun _ hk=>hk.2) (.int .i64 a2_4)) (fun _ hk=>hk.2) (.slice Ao61 t123.length co61)) (fun _ hk=>hk.2) (.slice none 0 0)) (fun _ hk=>hk.2) (.int .i64 0)) (fun _ h_=>h_.1))) hb);have n1_:=Aside0.mk (blk_below (g:=gb121) (o:= .cells #[.int .i64 a2_0,.int .i64 a2_1,.int .i64 a2_2,.int .i64 a2_3,.int .i64 a2_4] 25 (0,0)) (by (with_reducible repeat (first|refine blk_drewN ?_ _|refine blk_drew ?_|refine blk_alloc ?_ _));refine blk_far ?_ NB121_126.out _;(with_reducible repeat (first|refine blk_drewN ?_ _|refine blk_drew ?_|refine blk_alloc ?_ _));refine blk_far ?_ NB121_126.out _;(with_reducible repeat (first|refine blk_drewN ?_ _|refine blk_drew ?_|refine blk_alloc ?_ _));refine blk_far ?_ NB121_126.out _;(with_reducible repeat (first|refine blk_drewN ?_ _|refine blk_drew ?_|refine blk_alloc ?_ _));refine blk_far ?_ NB121_126.out _;(with_reducible repeat (first|refine blk_drewN ?_ _|refine blk_drew ?_|refine blk_alloc ?_ _));refine blk_far ?_ NB121_126.out _;(with_reducible repeat (first|refine blk_drewN ?_ _|refine blk_drew ?_|refine blk_alloc ?_ _));refine blk_far ?_ NB121_126.out _;(with_reducible repeat (first|refine blk_drewN ?_ _|refine blk_drew ?_|refine blk_alloc ?_ _));refine blk_far ?_ NB121_126.out _;(with_reducible repeat (first|refine blk_drewN ?_ _|refine blk_drew ?_|refine blk_alloc ?_ _));refine blk_far ?_ NB121_126.out _;(with_reducible repeat (first|refine blk_drewN ?_ _|refine blk_drew ?_|refine blk_alloc ?_ _));exact BK121.out) hb);have n2_:=Aside0.mk (blk_below (g:=gb122) (o:= .cells #[.int .i64 0,.int .i64 0,.int .i64 0,.int .i64 0,.int .i64 0,.slice none 0 0,.slice none 0 0,.int .i64 0] 50 (0,0)) (by (with_reducible repeat (first|refine blk_drewN ?_ _|refine blk_drew ?_|refine blk_alloc ?_ _));refine blk_far ?_ NB122_126.out _;(with_reducible repeat (first|refine blk_drewN ?_ _|refine blk_drew ?_|refine blk_alloc ?_ _));refine blk_far ?_ NB122_126.out _;(with_reducible repeat (first|refine blk_drewN ?_ _|refine blk_drew ?_|refine blk_alloc ?_ _));refine blk_far ?_ NB122_126.out _;(with_reducible repeat (first|refine blk_drewN ?_ _|refine blk_drew ?_|refine blk_alloc ?_ _));refine blk_far ?_ NB122_126.out _;(with_reducible repeat (first|refine blk_drewN ?_ _|refine blk_drew ?_|refine blk_alloc ?_ _));refine blk_far ?_ NB122_126.out _;(with_reducible repeat (first|refine blk_drewN ?_ _|refine blk_drew ?_|refine blk_alloc ?_ _));refine blk_far ?_ NB122_126.out _;(with_reducible repeat (first|refine blk_drewN ?_ _|refine blk_drew ?_|refine blk_alloc ?_ _));refine blk_far ?_ NB122_126.out _;(with_reducible repeat (first|refine blk_drewN ?_ _|refine blk_drew ?_|refine blk_alloc ?_ _));refine blk_far ?_ NB122_126.out _;(with_reducible repeat (first|refine blk_drewN ?_ _|refine blk_drew ?_|refine blk_alloc ?_ _));exact BK122.out) hb);have n3_:=Aside0.mk (blk_below (g:=gb126) (o:= .cells #[.int .i64 a2_0,.int .i64 a2_1,.int .i64 a2_2,.int .i64 a2_3,.int .i64 a2_4,.slice Ao61 t123.length co61,.slice none 0 0,.int .i64 0] 50 (0,0)) (by (with_reducible repeat (first|refine blk_drewN ?_ _|refine blk_drew ?_|refine blk_alloc ?_ _));refine blk_put (cs:= #[.int .i64 a2_0,.int .i64 a2_1,.int .i64 a2_2,.int .i64 a2_3,.int .i64 a2_4,.slice Ao61 t123.length co61,.slice none 0 0,.int .i64 0]) ?_ 7 _ rfl;(with_reducible repeat (first|refine blk_drewN ?_ _|refine blk_drew ?_|refine blk_alloc ?_ _));refine blk_put (cs:= #[.int .i64 a2_0,.int .i64 a2_1,.int .i64 a2_2,.int .i64 a2_3,.int .i64 a2_4,.slice Ao61 t123.length co61,.slice none 0 0,.int .i64 0]) ?_ 6 _ rfl;(with_reducible repeat (first|refine blk_drewN ?_ _|refine blk_drew ?_|refine blk_alloc ?_ _));refine blk_put (cs:= #[.int .i64 a2_0,.int .i64 a2_1,.int .i64 a2_2,.int .i64 a2_3,.int .i64 a2_4,.slice none 0 0,.slice none 0 0,.int .i64 0]) ?_ 5 _ rfl;(with_reducible repeat (first|refine blk_drewN ?_ _|refine blk_drew ?_|refine blk_alloc ?_ _));refine blk_put (cs:= #[.int .i64 a2_0,.int .i64 a2_1,.int .i64 a2_2,.int .i64 a2_3,.int .i64 0,.slice none 0 0,.slice none 0 0,.int .i64 0]) ?_ 4 _ rfl;(with_reducible repeat (first|refine blk_drewN ?_ _|refine blk_drew ?_|refine blk_alloc ?_ _));refine blk_put (cs:= #[.int .i64 a2_0,.int .i64 a2_1,.int .i64 a2_2,.int .i64 0,.int .i64 0,.slice none 0 0,.slice none 0 0,.int .i64 0]) ?_ 3 _ rfl;(with_reducible repeat (first|refine blk_drewN ?_ _|refine blk_drew ?_|refine blk_alloc ?_ _));refine blk_put (cs:= #[.int .i64 a2_0,.int .i64 a2_1,.int .i64 0,.int .i64 0,.int .i64 0,.slice none 0 0,.slice none 0 0,.int .i64 0]) ?_ 2 _ rfl;(with_reducible repeat (first|refine blk_drewN ?_ _|refine blk_drew ?_|refine blk_alloc ?_ _));refine blk_put (cs:= #[.int .i64 a2_0,.int .i64 0,.int .i64 0,.int .i64 0,.int .i64 0,.slice none 0 0,.slice none 0 0,.int .i64 0]) ?_ 1 _ rfl;(with_reducible repeat (first|refine blk_drewN ?_ _|refine blk_drew ?_|refine blk_alloc ?_ _));refine blk_put (cs:= #[.int .i64 0,.int .i64 0,.int .i64 0,.int .i64 0,.int .i64 0,.slice none 0 0,.slice none 0 0,.int .i64 0]) ?_ 0 _ rfl;(with_reducible repeat (first|refine blk_drewN ?_ _|refine blk_drew ?_|refine blk_alloc ?_ _));exact BK126.out) hb);have n4_:=Aside0.mk (below_step (by repeat (first|(with_reducible first|exact HB.out|apply below_alloc|apply pw_below_drewN|apply below_drew1|refine below_set ?_ GE121.out|refine below_set ?_ GE122.out|refine below_set ?_ GE126.out)|exact HB.out)) hb);clear HO125;clear BK121;clear BK122;clear BK126;clear HB;have HO125:=n0_;have BK121:=n1_;have BK122:=n2_;have BK126:=n3_;have HB:=n4_;clear n0_ n1_ n2_ n3_ n4_;(try clear hb);(try clear hb2);(try clear hk);(try clear hi);have hcz76_0:w75.cell? ⟨gb121,0,none⟩=some (.int .i64 a2_0):=(blk_cell BK121.out 0).trans rfl;have hcz76_1:w75.cell? ⟨gb121,1,none⟩=some (.int .i64 a2_1):=(blk_cell BK121.out 1).trans rfl;have hcz76_2:w75.cell? ⟨gb121,2,none⟩=some (.int .i64 a2_2):=(blk_cell BK121.out 2).trans rfl;have hcz76_3:w75.cell? ⟨gb121,3,none⟩=some (.int .i64 a2_3):=(blk_cell BK121.out 3).trans rfl;have hcz76_4:w75.cell? ⟨gb121,4,none⟩=some (.int .i64 a2_4):=(blk_cell BK121.out 4).trans rfl;have hfz76_0:=blk_frozen BK121.out 0;have hfz76_1:=blk_frozen BK121.out 1;have hfz76_2:=blk_frozen BK121.out 2;have hfz76_3:=blk_frozen BK121.out 3;have hfz76_4:=blk_frozen BK121.out 4;have hcz77_0:w75.cell? ⟨gb126,0,none⟩=some (.int .i64 a2_0):=(blk_cell BK126.out 0).trans rfl;have hcz77_1:w75.cell? ⟨gb126,1,none⟩=some (.int .i64 a2_1):=(blk_cell BK126.out 1).trans rfl;have hcz77_2:w75.cell? ⟨gb126,2,none⟩=some (.int .i64 a2_2):=(blk_cell BK126.out 2).trans rfl;have hcz77_3:w75.cell? ⟨gb126,3,none⟩=some (.int .i64 a2_3):=(blk_cell BK126.out 3).trans rfl;have hcz77_4:w75.cell? ⟨gb126,4,none⟩=some (.int .i64 a2_4):=(blk_cell BK126.out 4).trans rfl;have hcz77_5:w75.cell? ⟨gb126,5,none⟩=some (.slice Ao61 t123.length co61):=(blk_cell BK126.out 5).trans rfl;have hcz77_6:w75.cell? ⟨gb126,6,none⟩=some (.slice none 0 0):=(blk_cell BK126.out 6).trans rfl;have hcz77_7:w75.cell? ⟨gb126,7,none⟩=some (.int .i64 0):=(blk_cell BK126.out 7).trans rfl;have hfz77_0:=blk_frozen BK126.out 0;have hfz77_1:=blk_frozen BK126.out 1;have hfz77_2:=blk_frozen BK126.out 2;have hfz77_3:=blk_frozen BK126.out 3;have hfz77_4:=blk_frozen BK126.out 4;have hfz77_5:=blk_frozen BK126.out 5;have hfz77_6:=blk_frozen BK126.out 6;have hfz77_7:=blk_frozen BK126.out 7;have hcz78_0:w75.cell? ⟨gb122,0,none⟩=some (.int .i64 0):=(blk_cell BK122.out 0).trans rfl;have hcz78_1:w75.cell? ⟨gb122,1,none⟩=some (.int .i64 0):=(blk_cell BK122.out 1).trans rfl;have hcz78_2:w75.cell? ⟨gb122,2,none⟩=some (.int .i64 0):=(blk_cell BK122.out 2).trans rfl;have hcz78_3:w75.cell? ⟨gb122,3,none⟩=some (.int .i64 0):=(blk_cell BK122.out 3).trans rfl;have hcz78_4:w75.cell? ⟨gb122,4,none⟩=some (.int .i64 0):=(blk_cell BK122.out 4).trans rfl;have hcz78_5:w75.cell? ⟨gb122,5,none⟩=some (.slice none 0 0):=(blk_cell BK122.out 5).trans rfl;have hcz78_6:w75.cell? ⟨gb122,6,none⟩=some (.slice none 0 0):=(blk_cell BK122.out 6).trans rfl;have hcz78_7:w75.cell? ⟨gb122,7,none⟩=some (.int .i64 0):=(blk_cell BK122.out 7).trans rfl;have hfz78_0:=blk_frozen BK122.out 0;have hfz78_1:=blk_frozen BK122.out 1;have hfz78_2:=blk_frozen BK122.out 2;have hfz78_3:=blk_frozen BK122.out 3;have hfz78_4:=blk_frozen BK122.out 4;have hfz78_5:=blk_frozen BK122.out 5;have hfz78_6:=blk_frozen BK122.out 6;have hfz78_7:=blk_frozen BK122.out 7))
   refine bodyPost_ret (results_ct rfl _ _ gb122 50 #[.int .i64 a2_0,.int .i64 a2_1,.int .i64 a2_2,.int .i64 a2_3,.int .i64 a2_4,.slice Ao61 t123.length co61,.slice none 0 0,.int .i64 0] (0,0) _ rfl (by (with_reducible repeat (first|refine blk_drewN ?_ _|refine blk_drew ?_|refine blk_alloc ?_ _));refine blk_put (cs:= #[.int .i64 a2_0,.int .i64 a2_1,.int .i64 a2_2,.int .i64 a2_3,.int .i64 a2_4,.slice Ao61 t123.length co61,.slice none 0 0,.int .i64 0]) ?_ 7 _ rfl;(with_reducible repeat (first|refine blk_drewN ?_ _|refine blk_drew ?_|refine blk_alloc ?_ _));refine blk_put (cs:= #[.int .i64 a2_0,.int .i64 a2_1,.int .i64 a2_2,.int .i64 a2_3,.int .i64 a2_4,.slice Ao61 t123.length co61,.slice none 0 0,.int .i64 0]) ?_ 6 _ rfl;(with_reducible repeat (first|refine blk_drewN ?_ _|refine blk_drew ?_|refine blk_alloc ?_ _));refine blk_put (cs:= #[.int .i64 a2_0,.int .i64 a2_1,.int .i64 a2_2,.int .i64 a2_3,.int .i64 a2_4,.slice none 0 0,.slice none 0 0,.int .i64 0]) ?_ 5 _ rfl;(with_reducible repeat (first|refine blk_drewN ?_ _|refine blk_drew ?_|refine blk_alloc ?_ _));refine blk_put (cs:= #[.int .i64 a2_0,.int .i64 a2_1,.int .i64 a2_2,.int .i64 a2_3,.int .i64 0,.slice none 0 0,.slice none 0 0,.int .i64 0]) ?_ 4 _ rfl;(with_reducible repeat (first|refine blk_drewN ?_ _|refine blk_drew ?_|refine blk_alloc ?_ _));refine blk_put (cs:= #[.int .i64 a2_0,.int .i64 a2_1,.int .i64 a2_2,.int .i64 0,.int .i64 0,.slice none 0 0,.slice none 0 0,.int .i64 0]) ?_ 3 _ rfl;(with_reducible repeat (first|refine blk_drewN ?_ _|refine blk_drew ?_|refine blk_alloc ?_ _));refine blk_put (cs:= #[.int .i64 a2_0,.int .i64 a2_1,.int .i64 0,.int .i64 0,.int .i64 0,.slice none 0 0,.slice none 0 0,.int .i64 0]) ?_ 2 _ rfl;(with_reducible repeat (first|refine blk_drewN ?_ _|refine blk_drew ?_|refine blk_alloc ?_ _));refine blk_put (cs:= #[.int .i64 a2_0,.int .i64 0,.int .i64 0,.int .i64 0,.int .i64 0,.slice none 0 0,.slice none 0 0,.int .i64 0]) ?_ 1 _ rfl;(with_reducible repeat (first|refine blk_drewN ?_ _|refine blk_drew ?_|refine blk_alloc ?_ _));refine blk_put (cs:= #[.int .i64 0,.int .i64 0,.int .i64 0,.int .i64 0,.int .i64 0,.slice none 0 0,.slice none 0 0,.int .i64 0]) ?_ 0 _ rfl;(with_reducible repeat (first|refine blk_drewN ?_ _|refine blk_drew ?_|refine blk_alloc ?_ _));exact BK122.out) Try.underlying50 rfl (by kernel_rfl)) rfl ?_
   exact ⟨_,_,by first|rfl|(simp [errW_none,errW_some] <;> rfl)|(simp [*,errW_none,errW_some] <;> rfl),by (with_reducible repeat (first|apply Kd.R_alloc|apply Kd.R_drewN|apply Kd.R_drew));exact Kd.R_mono (Kd.R_far (p:=⟨gb122,7,none⟩) (Kd.R_far (p:=⟨gb122,6,none⟩) (Kd.R_far (p:=⟨gb122,5,none⟩) (Kd.R_far (p:=⟨gb122,4,none⟩) (Kd.R_far (p:=⟨gb122,3,none⟩) (Kd.R_far (p:=⟨gb122,2,none⟩) (Kd.R_far (p:=⟨gb122,1,none⟩) (Kd.R_far (p:=⟨gb122,0,none⟩) (Kd.R_types HO125.out BK122.out (by decide)) (fun _ hk=>hk.2) (.int .i64 a2_0)) (fun _ hk=>hk.2) (.int .i64 a2_1)) (fun _ hk=>hk.2) (.int .i64 a2_2)) (fun _ hk=>hk.2) (.int .i64 a2_3)) (fun _ hk=>hk.2) (.int .i64 a2_4)) (fun _ hk=>hk.2) (.slice Ao61 t123.length co61)) (fun _ hk=>hk.2) (.slice none 0 0)) (fun _ hk=>hk.2) (.int .i64 0)) (fun _ hk=>trivial),by first|exact Kd.R_nil _ _ _ _ _|exact Kd.N_nil _ _ _ _ _|exact Kd.V_nil _ _ _ _ _|exact Kd.Q_nil _ _ _ _ _|exact Kd.S_nil _ _ _ _ _,by repeat (first|(with_reducible first|exact HB.out|apply below_alloc|apply pw_below_drewN|apply below_drew1|refine below_set ?_ GE121.out|refine below_set ?_ GE122.out|refine below_set ?_ GE126.out)|exact HB.out)⟩
 ·
  replace c7:=Bool.eq_false_iff.mpr c7
  subst c7
  have H1:(some (0,0,0,0,0,([]:List (S40)),([]:List Int),0,false))=some (r1,r2,r3,r4,r5,r6,r7,r8,r9):=by rw [if_neg (show ¬ (false=true) by decide)] at H;exact H
  clear H
  have H:=H1
  clear H1
  simp only [Option.some.injEq,Prod.mk.injEq] at H
  obtain ⟨rfl,rfl,rfl,rfl,rfl,rfl,rfl,rfl,rfl⟩:=H
  go_enter Try.func17,Try.ntmps17
  try go_wp2_with (first|((with_reducible refine gate_dst (N:=6) rfl ?_);refine box_event ?hg (N:=6) ?hd (cs:= #[.int .i64 a2_0,.int .i64 a2_1,.int .i64 a2_2,.int .i64 a2_3,.int .i64 a2_4]) (t:=25) ?hr ?_;(case hd=>rfl);(case hg=>rfl);(case hr=>first|(go_simp;done)|(go_simp;rfl));intro gb121 hg w79 hbox hb;have n0_:=Aside0.mk (below_step (by repeat (first|(with_reducible first|exact HB.out|apply below_alloc|apply pw_below_drewN|apply below_drew1)|exact HB.out)) hb);have n1_:=Aside0.mk (hbox);have n2_:=Aside0.mk ((by rw [hg];exact (below_size (by repeat (first|(with_reducible first|exact HB.out|apply below_alloc|apply pw_below_drewN|apply below_drew1)|exact HB.out))):w.heap.size≤gb121));have n3_:=Aside0.mk ((by rw [hg];exact (below_size (by repeat (first|(with_reducible first|exact HB.out|apply below_alloc|apply pw_below_drewN|apply below_drew1)|exact HB.out))):w.heap.size≤gb121));clear HB;have HB:=n0_;have BK121:=n1_;have GW121:=n2_;have GE121:=n3_;clear n0_ n1_ n2_ n3_;clear hb hbox hg)|((with_reducible refine gate_dst (N:=8) rfl ?_);refine box_event ?hg (N:=8) ?hd (cs:= #[.int .i64 0,.int .i64 0,.int .i64 0,.int .i64 0,.int .i64 0,.slice none 0 0,.slice none 0 0,.int .i64 0]) (t:=50) ?hr ?_;(case hd=>rfl);(case hg=>rfl);(case hr=>first|(go_simp;done)|(go_simp;rfl));intro gb122 hg w80 hbox hb;have n0_:=Aside0.mk (blk_below (g:=gb121) (o:= .cells #[.int .i64 a2_0,.int .i64 a2_1,.int .i64 a2_2,.int .i64 a2_3,.int .i64 a2_4] 25 (0,0)) (by (with_reducible repeat (first|refine blk_drewN ?_ _|refine blk_drew ?_|refine blk_alloc ?_ _));exact BK121.out) hb);have n1_:=Aside0.mk (below_step (by repeat (first|(with_reducible first|exact HB.out|apply below_alloc|apply pw_below_drewN|apply below_drew1|refine below_set ?_ GE121.out)|exact HB.out)) hb);have n2_:=Aside0.mk (hbox);have n3_:=Aside0.mk ((by rw [hg];exact (below_size (by repeat (first|(with_reducible first|exact HB.out|apply below_alloc|apply pw_below_drewN|apply below_drew1|refine below_set ?_ GE121.out)|exact HB.out))):w.heap.size≤gb122));have n4_:=Aside0.mk ((by rw [hg];exact (below_size (by repeat (first|(with_reducible first|exact HB.out|apply below_alloc|apply pw_below_drewN|apply below_drew1|refine below_set ?_ GE121.out)|exact HB.out))):w.heap.size≤gb122));have n5_:=Aside0.mk ((by rw [hg];exact Nat.ne_of_lt (blk_lt (g:=gb121) (o:= .cells #[.int .i64 a2_0,.int .i64 a2_1,.int .i64 a2_2,.int .i64 a2_3,.int .i64 a2_4] 25 (0,0)) (by (with_reducible repeat (first|refine blk_drewN ?_ _|refine blk_drew ?_|refine blk_alloc ?_ _));exact BK121.out)):gb121≠gb122));have n6_:=Aside0.mk ((by rw [hg];exact Nat.ne_of_gt (blk_lt (g:=gb121) (o:= .cells #[.int .i64 a2_0,.int .i64 a2_1,.int .i64 a2_2,.int .i64 a2_3,.int .i64 a2_4] 25 (0,0)) (by (with_reducible repeat (first|refine blk_drewN ?_ _|refine blk_drew ?_|refine blk_alloc ?_ _));exact BK121.out)):gb122≠gb121));clear BK121;clear HB;have BK121:=n0_;have HB:=n1_;have BK122:=n2_;have GW122:=n3_;have GE122:=n4_;have NB121_122:=n5_;have NB122_121:=n6_;clear n0_ n1_ n2_ n3_ n4_ n5_ n6_;clear hb hbox hg))
  have n0_:=Aside0.mk (blk_drew BK121.out)
  have n1_:=Aside0.mk (blk_drew BK122.out)
  have n2_:=Aside0.mk (below_drew1 HB.out)
  clear BK121
  clear BK122
  clear HB
  have BK121:=n0_
  have BK122:=n1_
  have HB:=n2_
  clear n0_ n1_ n2_
  refine start_ (n:=6) (S:=fun w'=>w'.cell? ⟨gb121,0,none⟩=some (.int .i64 a2_0)∧w'.cell? ⟨gb121,1,none⟩=some (.int .i64 a2_1)∧w'.cell? ⟨gb121,2,none⟩=some (.int .i64 a2_2)∧w'.cell? ⟨gb121,3,none⟩=some (.int .i64 a2_3)∧w'.cell? ⟨gb121,4,none⟩=some (.int .i64 a2_4)) (ds:=[]) #[false,false,false,false,false,false] (by kernel_rfl) rfl rfl ⟨(blk_cell BK121.out 0).trans rfl,(blk_cell BK121.out 1).trans rfl,(blk_cell BK121.out 2).trans rfl,(blk_cell BK121.out 3).trans rfl,(blk_cell BK121.out 4).trans rfl⟩ (fun hHeld=>?_)
  generalize w80.drew=w81 at BK121 BK122 HB hHeld ⊢
  refine pure_ (i:=1) (N:=some 13) (v:=?_) (a':=?_) #[false,true,false,false,false,false] rfl rfl (by kernel_rfl) (fun _ _ _ h=>h) (Or.inl ⟨by rfl,?_⟩) ?_ ?_
  rotate_left
  ·
   intro w'
   go_simp
   with_reducible rfl
  rotate_left
  ·
   simp only [Act.put,List.setIfInBounds_toArray,List.set_cons_zero,List.set_cons_succ,i64_w,i32_w]
   rfl
  refine take_ (i:=0) (N:=some 12) (v:=?_) (a':=?_) #[true,true,false,false,false,false] rfl rfl (by kernel_rfl) (fun _ _ _ h=>h) (Or.inl ⟨by rfl,?_⟩) hHeld ?_ ?_
  rotate_left
  ·
   rintro w' ⟨s0,s1,s2,s3,s4⟩
   go_simp
   with_reducible rfl
  rotate_left
  ·
   simp only [Act.put,List.setIfInBounds_toArray,List.set_cons_zero,List.set_cons_succ,i64_w,i32_w]
   rfl
  refine join_ (σ:=Value × Nat) 1 #[true,true,true,true,true,false] (fun s_=>[(14,s_.1),(10,.pointer (some ⟨s_.2,0,none⟩)),(15,.agg #[.int .i64 a2_0,.int .i64 a2_1,.int .i64 a2_2,.int .i64 a2_3,.int .i64 a2_4,s_.1,.slice none 0 0,.int .i64 0])]) (fun s_ w'=>(w'.cell? ⟨gb121,0,none⟩=some (.int .i64 a2_0)∧w'.cell? ⟨gb121,1,none⟩=some (.int .i64 a2_1)∧w'.cell? ⟨gb121,2,none⟩=some (.int .i64 a2_2)∧w'.cell? ⟨gb121,3,none⟩=some (.int .i64 a2_3)∧w'.cell? ⟨gb121,4,none⟩=some (.int .i64 a2_4))∧(Kd.R k40 40 w' w.heap.size (fun _=>True) s_.1 t123)∧(w'.heap[gb121]?=some (.cells #[.int .i64 a2_0,.int .i64 a2_1,.int .i64 a2_2,.int .i64 a2_3,.int .i64 a2_4] 25 (0,0)))∧(w'.heap[gb122]?=some (.cells #[.int .i64 0,.int .i64 0,.int .i64 0,.int .i64 0,.int .i64 0,.slice none 0 0,.slice none 0 0,.int .i64 0] 50 (0,0)))∧(w'.heap[s_.2]?=some (.cells #[.int .i64 0,.int .i64 0,.int .i64 0,.int .i64 0,.int .i64 0,.slice none 0 0,.slice none 0 0,.int .i64 0] 50 (0,0)))∧(w.heap.size≤s_.2)∧(w.heap.size≤s_.2)∧(gb121≠s_.2)∧(s_.2≠gb121)∧(gb122≠s_.2)∧(s_.2≠gb122)∧(Below w.heap.size w w')) ?_ ?_
  rotate_left
  ·
   intro hCont
   refine two_ (i:=2) (j:=4) (Ni:=some 14) (Nj:=some 10) #[true,true,true,false,false,false] #[true,true,false,false,true,false] rfl rfl rfl rfl (by kernel_rfl) (by decide) (by decide) (fun K hK=>?_) (fun K hK=>?_)
   ·
    skip
    refine goes_ Try.func13 (by kernel_rfl) rfl #[.slice A0 l0.length c0] (by rfl) rfl rfl (by (try simp only [List.map_toArray,List.map_cons,List.map_nil]);first|done|rfl|(simp only [List.length_drop,List.length_take];rfl)) ?_
    with_reducible refine (cluster_Of.calls _ _ l0 t123 _ ?side1 ?side2 A5.out).mono ?_
    (case side1=>repeat (first|exact (Kd.C_below HR0.out HB.out)|(with_reducible refine Kd.C_alloc ?_ _)|(with_reducible refine Kd.C_drewN ?_ _)|(with_reducible refine Kd.C_drew ?_)))
    (case side2=>exact HC0.out)
    rintro e w82 ⟨v124,rfl,ho0,hb⟩
    refine ⟨_,rfl,?_⟩
    have n0_:=Aside0.mk (Kd.R_lower ho0 (below_size (by repeat (first|(with_reducible first|exact HB.out|apply below_alloc|apply pw_below_drewN|apply below_drew1|refine below_set ?_ GE121.out|refine below_set ?_ GE122.out)|exact HB.out))))
    have n1_:=Aside0.mk (blk_below (g:=gb121) (o:= .cells #[.int .i64 a2_0,.int .i64 a2_1,.int .i64 a2_2,.int .i64 a2_3,.int .i64 a2_4] 25 (0,0)) (by (with_reducible repeat (first|refine blk_drewN ?_ _|refine blk_drew ?_|refine blk_alloc ?_ _));exact BK121.out) hb)
    have n2_:=Aside0.mk (blk_below (g:=gb122) (o:= .cells #[.int .i64 0,.int .i64 0,.int .i64 0,.int .i64 0,.int .i64 0,.slice none 0 0,.slice none 0 0,.int .i64 0] 50 (0,0)) (by (with_reducible repeat (first|refine blk_drewN ?_ _|refine blk_drew ?_|refine blk_alloc ?_ _));exact BK122.out) hb)
    have n3_:=Aside0.mk (below_step (by repeat (first|(with_reducible first|exact HB.out|apply below_alloc|apply pw_below_drewN|apply below_drew1|refine below_set ?_ GE121.out|refine below_set ?_ GE122.out)|exact HB.out)) hb)
    clear BK121
    clear BK122
    clear HB
    have HO125:=n0_
    have BK121:=n1_
    have BK122:=n2_
    have HB:=n3_
    clear n0_ n1_ n2_ n3_
    (try clear hb)
    (try clear hb2)
    (try clear hk)
    (try clear hi)
    (try clear ho0)
    obtain ⟨Ao83,co83,eo83⟩:=Kd.R_slice HO125.out
    (first|subst eo83|(injection eo83 with f1_ f2_ f3_;have f4_:=f1_.symm;have f5_:=f3_.symm;clear f1_ f2_ f3_;subst f4_;subst f5_))
    refine hK.out _ _ ⟨(blk_cell BK121.out 0).trans rfl,(blk_cell BK121.out 1).trans rfl,(blk_cell BK121.out 2).trans rfl,(blk_cell BK121.out 3).trans rfl,(blk_cell BK121.out 4).trans rfl⟩ (fun hHeld=>?_)
    clear hK K
    refine norm_ (a':=?_) ?_ ?_
    rotate_left
    ·
     show Act.put _ (some 14) _=_
     simp only [Act.put,List.setIfInBounds_toArray,List.set_cons_zero,List.set_cons_succ,i64_w,i32_w]
     rfl
    refine pure_ (i:=3) (N:=some 15) (v:=?_) (a':=?_) #[true,true,true,true,false,false] rfl rfl (by kernel_rfl) (fun _ _ _ h=>h) (Or.inl ⟨by rfl,?_⟩) ?_ ?_
    rotate_left
    ·
     intro w'
     go_simp
     with_reducible rfl
    rotate_left
    ·
     simp only [Act.put,List.setIfInBounds_toArray,List.set_cons_zero,List.set_cons_succ,i64_w,i32_w]
     rfl
    refine one_ (i:=4) (N:=some 10) #[true,true,true,true,true,false] rfl rfl (by kernel_rfl) (by decide) (fun K hK=>?_)
    refine box_step ?hg (N:=10) ?hd (cs:= #[.int .i64 0,.int .i64 0,.int .i64 0,.int .i64 0,.int .i64 0,.slice none 0 0,.slice none 0 0,.int .i64 0]) (t:=50) ?hr ?_;(case hd=>rfl);(case hg=>rfl);(case hr=>first|(go_simp;done)|(go_simp;rfl))
    intro gb126 hg w84 hbox hb
    have n0_:=Aside0.mk (Kd.R_below (by (with_reducible repeat (first|apply Kd.R_alloc|apply Kd.R_drewN|apply Kd.R_drew));exact HO125.out) hb)
    have n1_:=Aside0.mk (blk_below (g:=gb121) (o:= .cells #[.int .i64 a2_0,.int .i64 a2_1,.int .i64 a2_2,.int .i64 a2_3,.int .i64 a2_4] 25 (0,0)) (by (with_reducible repeat (first|refine blk_drewN ?_ _|refine blk_drew ?_|refine blk_alloc ?_ _));exact BK121.out) hb)
    have n2_:=Aside0.mk (blk_below (g:=gb122) (o:= .cells #[.int .i64 0,.int .i64 0,.int .i64 0,.int .i64 0,.int .i64 0,.slice none 0 0,.slice none 0 0,.int .i64 0] 50 (0,0)) (by (with_reducible repeat (first|refine blk_drewN ?_ _|refine blk_drew ?_|refine blk_alloc ?_ _));exact BK122.out) hb)
    have n3_:=Aside0.mk (below_step (by repeat (first|(with_reducible first|exact HB.out|apply below_alloc|apply pw_below_drewN|apply below_drew1|refine below_set ?_ GE121.out|refine below_set ?_ GE122.out)|exact HB.out)) hb)
    have n4_:=Aside0.mk (hbox)
    have n5_:=Aside0.mk ((by rw [hg];exact (below_size (by repeat (first|(with_reducible first|exact HB.out|apply below_alloc|apply pw_below_drewN|apply below_drew1|refine below_set ?_ GE121.out|refine below_set ?_ GE122.out)|exact HB.out))):w.heap.size≤gb126))
    have n6_:=Aside0.mk ((by rw [hg];exact (below_size (by repeat (first|(with_reducible first|exact HB.out|apply below_alloc|apply pw_below_drewN|apply below_drew1|refine below_set ?_ GE121.out|refine below_set ?_ GE122.out)|exact HB.out))):w.heap.size≤gb126))
    have n7_:=Aside0.mk ((by rw [hg];exact Nat.ne_of_lt (blk_lt (g:=gb121) (o:= .cells #[.int .i64 a2_0,.int .i64 a2_1,.int .i64 a2_2,.int .i64 a2_3,.int .i64 a2_4] 25 (0,0)) (by (with_reducible repeat (first|refine blk_drewN ?_ _|refine blk_drew ?_|refine blk_alloc ?_ _));exact BK121.out)):gb121≠gb126))
    have n8_:=Aside0.mk ((by rw [hg];exact Nat.ne_of_gt (blk_lt (g:=gb121) (o:= .cells #[.int .i64 a2_0,.int .i64 a2_1,.int .i64 a2_2,.int .i64 a2_3,.int .i64 a2_4] 25 (0,0)) (by (with_reducible repeat (first|refine blk_drewN ?_ _|refine blk_drew ?_|refine blk_alloc ?_ _));exact BK121.out)):gb126≠gb121))
    have n9_:=Aside0.mk ((by rw [hg];exact Nat.ne_of_lt (blk_lt (g:=gb122) (o:= .cells #[.int .i64 0,.int .i64 0,.int .i64 0,.int .i64 0,.int .i64 0,.slice none 0 0,.slice none 0 0,.int .i64 0] 50 (0,0)) (by (with_reducible repeat (first|refine blk_drewN ?_ _|refine blk_drew ?_|refine blk_alloc ?_ _));exact BK122.out)):gb122≠gb126))
    have n10_:=Aside0.mk ((by rw [hg];exact Nat.ne_of_gt (blk_lt (g:=gb122) (o:= .cells #[.int .i64 0,.int .i64 0,.int .i64 0,.int .i64 0,.int .i64 0,.slice none 0 0,.slice none 0 0,.int .i64 0] 50 (0,0)) (by (with_reducible repeat (first|refine blk_drewN ?_ _|refine blk_drew ?_|refine blk_alloc ?_ _));exact BK122.out)):gb126≠gb122))
    clear HO125
    clear BK121
    clear BK122
    clear HB
    have HO125:=n0_
    have BK121:=n1_
    have BK122:=n2_
    have HB:=n3_
    have BK126:=n4_
    have GW126:=n5_
    have GE126:=n6_
    have NB121_126:=n7_
    have NB126_121:=n8_
    have NB122_126:=n9_
    have NB126_122:=n10_
    clear n0_ n1_ n2_ n3_ n4_ n5_ n6_ n7_ n8_ n9_ n10_
    clear hb hbox hg
    refine hK.out _ _ ⟨(blk_cell BK121.out 0).trans rfl,(blk_cell BK121.out 1).trans rfl,(blk_cell BK121.out 2).trans rfl,(blk_cell BK121.out 3).trans rfl,(blk_cell BK121.out 4).trans rfl⟩ (fun hHeld=>?_)
    clear hK K
    refine norm_ (a':=?_) ?_ ?_
    rotate_left
    ·
     show Act.put _ (some 10) _=_
     simp only [Act.put,List.setIfInBounds_toArray,List.set_cons_zero,List.set_cons_succ,i64_w,i32_w]
     rfl
    exact norm_ (by simp only [putAll,Act.put,List.setIfInBounds_toArray,List.set_cons_zero,List.set_cons_succ]) (hCont (.slice Ao83 t123.length co83,gb126) _ ⟨hHeld,(by (with_reducible repeat (first|apply Kd.R_alloc|apply Kd.R_drewN|apply Kd.R_drew));exact HO125.out),(by (with_reducible repeat (first|refine blk_drewN ?_ _|refine blk_drew ?_|refine blk_alloc ?_ _));exact BK121.out),(by (with_reducible repeat (first|refine blk_drewN ?_ _|refine blk_drew ?_|refine blk_alloc ?_ _));exact BK122.out),(by (with_reducible repeat (first|refine blk_drewN ?_ _|refine blk_drew ?_|refine blk_alloc ?_ _));exact BK126.out),GW126.out,GE126.out,NB121_126.out,NB126_121.out,NB122_126.out,NB126_122.out,(by repeat (first|(with_reducible first|exact HB.out|apply below_alloc|apply pw_below_drewN|apply below_drew1|refine below_set ?_ GE121.out|refine below_set ?_ GE122.out|refine below_set ?_ GE126.out)|exact HB.out))⟩)
   ·
    skip
    refine box_step ?hg (N:=10) ?hd (cs:= #[.int .i64 0,.int .i64 0,.int .i64 0,.int .i64 0,.int .i64 0,.slice none 0 0,.slice none 0 0,.int .i64 0]) (t:=50) ?hr ?_;(case hd=>rfl);(case hg=>rfl);(case hr=>first|(go_simp;done)|(go_simp;rfl))
    intro gb126 hg w82 hbox hb
    have n0_:=Aside0.mk (blk_below (g:=gb121) (o:= .cells #[.int .i64 a2_0,.int .i64 a2_1,.int .i64 a2_2,.int .i64 a2_3,.int .i64 a2_4] 25 (0,0)) (by (with_reducible repeat (first|refine blk_drewN ?_ _|refine blk_drew ?_|refine blk_alloc ?_ _));exact BK121.out) hb)
    have n1_:=Aside0.mk (blk_below (g:=gb122) (o:= .cells #[.int .i64 0,.int .i64 0,.int .i64 0,.int .i64 0,.int .i64 0,.slice none 0 0,.slice none 0 0,.int .i64 0] 50 (0,0)) (by (with_reducible repeat (first|refine blk_drewN ?_ _|refine blk_drew ?_|refine blk_alloc ?_ _));exact BK122.out) hb)
    have n2_:=Aside0.mk (below_step (by repeat (first|(with_reducible first|exact HB.out|apply below_alloc|apply pw_below_drewN|apply below_drew1|refine below_set ?_ GE121.out|refine below_set ?_ GE122.out)|exact HB.out)) hb)
    have n3_:=Aside0.mk (hbox)
    have n4_:=Aside0.mk ((by rw [hg];exact (below_size (by repeat (first|(with_reducible first|exact HB.out|apply below_alloc|apply pw_below_drewN|apply below_drew1|refine below_set ?_ GE121.out|refine below_set ?_ GE122.out)|exact HB.out))):w.heap.size≤gb126))
    have n5_:=Aside0.mk ((by rw [hg];exact (below_size (by repeat (first|(with_reducible first|exact HB.out|apply below_alloc|apply pw_below_drewN|apply below_drew1|refine below_set ?_ GE121.out|refine below_set ?_ GE122.out)|exact HB.out))):w.heap.size≤gb126))
    have n6_:=Aside0.mk ((by rw [hg];exact Nat.ne_of_lt (blk_lt (g:=gb121) (o:= .cells #[.int .i64 a2_0,.int .i64 a2_1,.int .i64 a2_2,.int .i64 a2_3,.int .i64 a2_4] 25 (0,0)) (by (with_reducible repeat (first|refine blk_drewN ?_ _|refine blk_drew ?_|refine blk_alloc ?_ _));exact BK121.out)):gb121≠gb126))
    have n7_:=Aside0.mk ((by rw [hg];exact Nat.ne_of_gt (blk_lt (g:=gb121) (o:= .cells #[.int .i64 a2_0,.int .i64 a2_1,.int .i64 a2_2,.int .i64 a2_3,.int .i64 a2_4] 25 (0,0)) (by (with_reducible repeat (first|refine blk_drewN ?_ _|refine blk_drew ?_|refine blk_alloc ?_ _));exact BK121.out)):gb126≠gb121))
    have n8_:=Aside0.mk ((by rw [hg];exact Nat.ne_of_lt (blk_lt (g:=gb122) (o:= .cells #[.int .i64 0,.int .i64 0,.int .i64 0,.int .i64 0,.int .i64 0,.slice none 0 0,.slice none 0 0,.int .i64 0] 50 (0,0)) (by (with_reducible repeat (first|refine blk_drewN ?_ _|refine blk_drew ?_|refine blk_alloc ?_ _));exact BK122.out)):gb122≠gb126))
    have n9_:=Aside0.mk ((by rw [hg];exact Nat.ne_of_gt (blk_lt (g:=gb122) (o:= .cells #[.int .i64 0,.int .i64 0,.int .i64 0,.int .i64 0,.int .i64 0,.slice none 0 0,.slice none 0 0,.int .i64 0] 50 (0,0)) (by (with_reducible repeat (first|refine blk_drewN ?_ _|refine blk_drew ?_|refine blk_alloc ?_ _));exact BK122.out)):gb126≠gb122))
    clear BK121
    clear BK122
    clear HB
    have BK121:=n0_
    have BK122:=n1_
    have HB:=n2_
    have BK126:=n3_
    have GW126:=n4_
    have GE126:=n5_
    have NB121_126:=n6_
    have NB126_121:=n7_
    have NB122_126:=n8_
    have NB126_122:=n9_
    clear n0_ n1_ n2_ n3_ n4_ n5_ n6_ n7_ n8_ n9_
    clear hb hbox hg
    refine hK.out _ _ ⟨(blk_cell BK121.out 0).trans rfl,(blk_cell BK121.out 1).trans rfl,(blk_cell BK121.out 2).trans rfl,(blk_cell BK121.out 3).trans rfl,(blk_cell BK121.out 4).trans rfl⟩ (fun hHeld=>?_)
    clear hK K
    refine norm_ (a':=?_) ?_ ?_
    rotate_left
    ·
     show Act.put _ (some 10) _=_
     simp only [Act.put,List.setIfInBounds_toArray,List.set_cons_zero,List.set_cons_succ,i64_w,i32_w]
     rfl
    refine one_ (i:=2) (N:=some 14) #[true,true,true,false,true,false] rfl rfl (by kernel_rfl) (by decide) (fun K hK=>?_)
    refine goes_ Try.func13 (by kernel_rfl) rfl #[.slice A0 l0.length c0] (by rfl) rfl rfl (by (try simp only [List.map_toArray,List.map_cons,List.map_nil]);first|done|rfl|(simp only [List.length_drop,List.length_take];rfl)) ?_
    with_reducible refine (cluster_Of.calls _ _ l0 t123 _ ?side1 ?side2 A5.out).mono ?_
    (case side1=>repeat (first|exact (Kd.C_below HR0.out HB.out)|(with_reducible refine Kd.C_alloc ?_ _)|(with_reducible refine Kd.C_drewN ?_ _)|(with_reducible refine Kd.C_drew ?_)))
    (case side2=>exact HC0.out)
    rintro e w83 ⟨v124,rfl,ho0,hb⟩
    refine ⟨_,rfl,?_⟩
    have n0_:=Aside0.mk (Kd.R_lower ho0 (below_size (by repeat (first|(with_reducible first|exact HB.out|apply below_alloc|apply pw_below_drewN|apply below_drew1|refine below_set ?_ GE121.out|refine below_set ?_ GE122.out|refine below_set ?_ GE126.out)|exact HB.out))))
    have n1_:=Aside0.mk (blk_below (g:=gb121) (o:= .cells #[.int .i64 a2_0,.int .i64 a2_1,.int .i64 a2_2,.int .i64 a2_3,.int .i64 a2_4] 25 (0,0)) (by (with_reducible repeat (first|refine blk_drewN ?_ _|refine blk_drew ?_|refine blk_alloc ?_ _));exact BK121.out) hb)
    have n2_:=Aside0.mk (blk_below (g:=gb122) (o:= .cells #[.int .i64 0,.int .i64 0,.int .i64 0,.int .i64 0,.int .i64 0,.slice none 0 0,.slice none 0 0,.int .i64 0] 50 (0,0)) (by (with_reducible repeat (first|refine blk_drewN ?_ _|refine blk_drew ?_|refine blk_alloc ?_ _));exact BK122.out) hb)
    have n3_:=Aside0.mk (blk_below (g:=gb126) (o:= .cells #[.int .i64 0,.int .i64 0,.int .i64 0,.int .i64 0,.int .i64 0,.slice none 0 0,.slice none 0 0,.int .i64 0] 50 (0,0)) (by (with_reducible repeat (first|refine blk_drewN ?_ _|refine blk_drew ?_|refine blk_alloc ?_ _));exact BK126.out) hb)
    have n4_:=Aside0.mk (below_step (by repeat (first|(with_reducible first|exact HB.out|apply below_alloc|apply pw_below_drewN|apply below_drew1|refine below_set ?_ GE121.out|refine below_set ?_ GE122.out|refine below_set ?_ GE126.out)|exact HB.out)) hb)
    clear BK121
    clear BK122
    clear BK126
    clear HB
    have HO125:=n0_
    have BK121:=n1_
    have BK122:=n2_
    have BK126:=n3_
    have HB:=n4_
    clear n0_ n1_ n2_ n3_ n4_
    (try clear hb)
    (try clear hb2)
    (try clear hk)
    (try clear hi)
    (try clear ho0)
    obtain ⟨Ao84,co84,eo84⟩:=Kd.R_slice HO125.out
    (first|subst eo84|(injection eo84 with f1_ f2_ f3_;have f4_:=f1_.symm;have f5_:=f3_.symm;clear f1_ f2_ f3_;subst f4_;subst f5_))
    refine hK.out _ _ ⟨(blk_cell BK121.out 0).trans rfl,(blk_cell BK121.out 1).trans rfl,(blk_cell BK121.out 2).trans rfl,(blk_cell BK121.out 3).trans rfl,(blk_cell BK121.out 4).trans rfl⟩ (fun hHeld=>?_)
    clear hK K
    refine norm_ (a':=?_) ?_ ?_
    rotate_left
    ·
     show Act.put _ (some 14) _=_
     simp only [Act.put,List.setIfInBounds_toArray,List.set_cons_zero,List.set_cons_succ,i64_w,i32_w]
     rfl
    refine pure_ (i:=3) (N:=some 15) (v:=?_) (a':=?_) #[true,true,true,true,true,false] rfl rfl (by kernel_rfl) (fun _ _ _ h=>h) (Or.inl ⟨by rfl,?_⟩) ?_ ?_
    rotate_left
    ·
     intro w'
     go_simp
     with_reducible rfl
    rotate_left
    ·
     simp only [Act.put,List.setIfInBounds_toArray,List.set_cons_zero,List.set_cons_succ,i64_w,i32_w]
     rfl
    exact norm_ (by simp only [putAll,Act.put,List.setIfInBounds_toArray,List.set_cons_zero,List.set_cons_succ]) (hCont (.slice Ao84 t123.length co84,gb126) _ ⟨hHeld,(by (with_reducible repeat (first|apply Kd.R_alloc|apply Kd.R_drewN|apply Kd.R_drew));exact HO125.out),(by (with_reducible repeat (first|refine blk_drewN ?_ _|refine blk_drew ?_|refine blk_alloc ?_ _));exact BK121.out),(by (with_reducible repeat (first|refine blk_drewN ?_ _|refine blk_drew ?_|refine blk_alloc ?_ _));exact BK122.out),(by (with_reducible repeat (first|refine blk_drewN ?_ _|refine blk_drew ?_|refine blk_alloc ?_ _));exact BK126.out),GW126.out,GE126.out,NB121_126.out,NB126_121.out,NB122_126.out,NB126_122.out,(by repeat (first|(with_reducible first|exact HB.out|apply below_alloc|apply pw_below_drewN|apply below_drew1|refine below_set ?_ GE121.out|refine below_set ?_ GE122.out|refine below_set ?_ GE126.out)|exact HB.out))⟩)
  rintro ⟨v124,gb126⟩ w85 ⟨hS_,h0_,h1_,h2_,h3_,h4_,h5_,h6_,h7_,h8_,h9_,h10_⟩
  have n0_:Aside0 (Kd.R k40 40 w85 w.heap.size (fun _=>True) v124 t123):=⟨h0_⟩
  have n1_:Aside0 (w85.heap[gb121]?=some (.cells #[.int .i64 a2_0,.int .i64 a2_1,.int .i64 a2_2,.int .i64 a2_3,.int .i64 a2_4] 25 (0,0))):=⟨h1_⟩
  have n2_:Aside0 (w85.heap[gb122]?=some (.cells #[.int .i64 0,.int .i64 0,.int .i64 0,.int .i64 0,.int .i64 0,.slice none 0 0,.slice none 0 0,.int .i64 0] 50 (0,0))):=⟨h2_⟩
  have n3_:Aside0 (w85.heap[gb126]?=some (.cells #[.int .i64 0,.int .i64 0,.int .i64 0,.int .i64 0,.int .i64 0,.slice none 0 0,.slice none 0 0,.int .i64 0] 50 (0,0))):=⟨h3_⟩
  have n4_:Aside0 (w.heap.size≤gb126):=⟨h4_⟩
  have n5_:Aside0 (w.heap.size≤gb126):=⟨h5_⟩
  have n6_:Aside0 (gb121≠gb126):=⟨h6_⟩
  have n7_:Aside0 (gb126≠gb121):=⟨h7_⟩
  have n8_:Aside0 (gb122≠gb126):=⟨h8_⟩
  have n9_:Aside0 (gb126≠gb122):=⟨h9_⟩
  have n10_:Aside0 (Below w.heap.size w w85):=⟨h10_⟩
  clear BK121
  clear BK122
  clear HB
  clear h0_ h1_ h2_ h3_ h4_ h5_ h6_ h7_ h8_ h9_ h10_
  have HO125:=n0_
  have BK121:=n1_
  have BK122:=n2_
  have BK126:=n3_
  have GW126:=n4_
  have GE126:=n5_
  have NB121_126:=n6_
  have NB126_121:=n7_
  have NB122_126:=n8_
  have NB126_122:=n9_
  have HB:=n10_
  clear n0_ n1_ n2_ n3_ n4_ n5_ n6_ n7_ n8_ n9_ n10_
  have hHeld:w85.cell? ⟨gb121,0,none⟩=some (.int .i64 a2_0)∧w85.cell? ⟨gb121,1,none⟩=some (.int .i64 a2_1)∧w85.cell? ⟨gb121,2,none⟩=some (.int .i64 a2_2)∧w85.cell? ⟨gb121,3,none⟩=some (.int .i64 a2_3)∧w85.cell? ⟨gb121,4,none⟩=some (.int .i64 a2_4):=hS_
  obtain ⟨Ao86,co86,eo86⟩:=Kd.R_slice HO125.out
  (first|subst eo86|(injection eo86 with f1_ f2_ f3_;have f4_:=f1_.symm;have f5_:=f3_.symm;clear f1_ f2_ f3_;subst f4_;subst f5_))
  refine norm_ (a':=?_) ?_ ?_
  rotate_left
  ·
   simp only [putAll,Act.put,List.setIfInBounds_toArray,List.set_cons_zero,List.set_cons_succ]
   rfl
  refine one_ (i:=5) (N:=none) #[true,true,true,true,true,true] rfl rfl (by kernel_rfl) (by decide) (fun K hK=>?_)
  have hs87:w85.cell? ⟨gb126,0,none⟩=some (.int .i64 0):=(blk_cell BK126.out 0).trans rfl
  have hfs87:=blk_frozen BK126.out 0
  have hns87_0:=NB121_126.out
  have hns87_1:=NB122_126.out
  have hms87_0:=NB126_121.out
  have hms87_1:=NB126_122.out
  have hs88:w85.cell? ⟨gb126,1,none⟩=some (.int .i64 0):=(blk_cell BK126.out 1).trans rfl
  have hfs88:=blk_frozen BK126.out 1
  have hns88_0:=NB121_126.out
  have hns88_1:=NB122_126.out
  have hms88_0:=NB126_121.out
  have hms88_1:=NB126_122.out
  have hs89:w85.cell? ⟨gb126,2,none⟩=some (.int .i64 0):=(blk_cell BK126.out 2).trans rfl
  have hfs89:=blk_frozen BK126.out 2
  have hns89_0:=NB121_126.out
  have hns89_1:=NB122_126.out
  have hms89_0:=NB126_121.out
  have hms89_1:=NB126_122.out
  have hs90:w85.cell? ⟨gb126,3,none⟩=some (.int .i64 0):=(blk_cell BK126.out 3).trans rfl
  have hfs90:=blk_frozen BK126.out 3
  have hns90_0:=NB121_126.out
  have hns90_1:=NB122_126.out
  have hms90_0:=NB126_121.out
  have hms90_1:=NB126_122.out
  have hs91:w85.cell? ⟨gb126,4,none⟩=some (.int .i64 0):=(blk_cell BK126.out 4).trans rfl
  have hfs91:=blk_frozen BK126.out 4
  have hns91_0:=NB121_126.out
  have hns91_1:=NB122_126.out
  have hms91_0:=NB126_121.out
  have hms91_1:=NB126_122.out
  have hs92:w85.cell? ⟨gb126,5,none⟩=some (.slice none 0 0):=(blk_cell BK126.out 5).trans rfl
  have hfs92:=blk_frozen BK126.out 5
  have hns92_0:=NB121_126.out
  have hns92_1:=NB122_126.out
  have hms92_0:=NB126_121.out
  have hms92_1:=NB126_122.out
  have hs93:w85.cell? ⟨gb126,6,none⟩=some (.slice none 0 0):=(blk_cell BK126.out 6).trans rfl
  have hfs93:=blk_frozen BK126.out 6
  have hns93_0:=NB121_126.out
  have hns93_1:=NB122_126.out
  have hms93_0:=NB126_121.out
  have hms93_1:=NB126_122.out
  have hs94:w85.cell? ⟨gb126,7,none⟩=some (.int .i64 0):=(blk_cell BK126.out 7).trans rfl
  have hfs94:=blk_frozen BK126.out 7
  have hns94_0:=NB121_126.out
  have hns94_1:=NB122_126.out
  have hms94_0:=NB126_121.out
  have hms94_1:=NB126_122.out
  refine skip_ (w1:=?_) (by rfl) rfl ?_ ?_
  rotate_left
  ·
   go_simp
   rfl
  refine hK.out _ _ ⟨((cell_far (p:=⟨gb126,_,none⟩) NB121_126.out _).trans (((cell_far (p:=⟨gb126,_,none⟩) NB121_126.out _).trans (((cell_far (p:=⟨gb126,_,none⟩) NB121_126.out _).trans (((cell_far (p:=⟨gb126,_,none⟩) NB121_126.out _).trans (((cell_far (p:=⟨gb126,_,none⟩) NB121_126.out _).trans (((cell_far (p:=⟨gb126,_,none⟩) NB121_126.out _).trans (((cell_far (p:=⟨gb126,_,none⟩) NB121_126.out _).trans (((cell_far (p:=⟨gb126,_,none⟩) NB121_126.out _).trans (hHeld.1)))))))))))))))),((cell_far (p:=⟨gb126,_,none⟩) NB121_126.out _).trans (((cell_far (p:=⟨gb126,_,none⟩) NB121_126.out _).trans (((cell_far (p:=⟨gb126,_,none⟩) NB121_126.out _).trans (((cell_far (p:=⟨gb126,_,none⟩) NB121_126.out _).trans (((cell_far (p:=⟨gb126,_,none⟩) NB121_126.out _).trans (((cell_far (p:=⟨gb126,_,none⟩) NB121_126.out _).trans (((cell_far (p:=⟨gb126,_,none⟩) NB121_126.out _).trans (((cell_far (p:=⟨gb126,_,none⟩) NB121_126.out _).trans (hHeld.2.1)))))))))))))))),((cell_far (p:=⟨gb126,_,none⟩) NB121_126.out _).trans (((cell_far (p:=⟨gb126,_,none⟩) NB121_126.out _).trans (((cell_far (p:=⟨gb126,_,none⟩) NB121_126.out _).trans (((cell_far (p:=⟨gb126,_,none⟩) NB121_126.out _).trans (((cell_far (p:=⟨gb126,_,none⟩) NB121_126.out _).trans (((cell_far (p:=⟨gb126,_,none⟩) NB121_126.out _).trans (((cell_far (p:=⟨gb126,_,none⟩) NB121_126.out _).trans (((cell_far (p:=⟨gb126,_,none⟩) NB121_126.out _).trans (hHeld.2.2.1)))))))))))))))),((cell_far (p:=⟨gb126,_,none⟩) NB121_126.out _).trans (((cell_far (p:=⟨gb126,_,none⟩) NB121_126.out _).trans (((cell_far (p:=⟨gb126,_,none⟩) NB121_126.out _).trans (((cell_far (p:=⟨gb126,_,none⟩) NB121_126.out _).trans (((cell_far (p:=⟨gb126,_,none⟩) NB121_126.out _).trans (((cell_far (p:=⟨gb126,_,none⟩) NB121_126.out _).trans (((cell_far (p:=⟨gb126,_,none⟩) NB121_126.out _).trans (((cell_far (p:=⟨gb126,_,none⟩) NB121_126.out _).trans (hHeld.2.2.2.1)))))))))))))))),((cell_far (p:=⟨gb126,_,none⟩) NB121_126.out _).trans (((cell_far (p:=⟨gb126,_,none⟩) NB121_126.out _).trans (((cell_far (p:=⟨gb126,_,none⟩) NB121_126.out _).trans (((cell_far (p:=⟨gb126,_,none⟩) NB121_126.out _).trans (((cell_far (p:=⟨gb126,_,none⟩) NB121_126.out _).trans (((cell_far (p:=⟨gb126,_,none⟩) NB121_126.out _).trans (((cell_far (p:=⟨gb126,_,none⟩) NB121_126.out _).trans (((cell_far (p:=⟨gb126,_,none⟩) NB121_126.out _).trans (hHeld.2.2.2.2))))))))))))))))⟩ (fun hHeld=>?_)
  clear hK K
  refine done_ (by kernel_rfl) ?_
  have hnb95:=NB121_122.out
  have hnc95:=NB122_121.out
  have hnb96:=NB121_126.out
  have hnc96:=NB126_121.out
  have hcz97_0:w85.cell? ⟨gb121,0,none⟩=some (.int .i64 a2_0):=(blk_cell BK121.out 0).trans rfl
  have hcz97_1:w85.cell? ⟨gb121,1,none⟩=some (.int .i64 a2_1):=(blk_cell BK121.out 1).trans rfl
  have hcz97_2:w85.cell? ⟨gb121,2,none⟩=some (.int .i64 a2_2):=(blk_cell BK121.out 2).trans rfl
  have hcz97_3:w85.cell? ⟨gb121,3,none⟩=some (.int .i64 a2_3):=(blk_cell BK121.out 3).trans rfl
  have hcz97_4:w85.cell? ⟨gb121,4,none⟩=some (.int .i64 a2_4):=(blk_cell BK121.out 4).trans rfl
  have hfz97_0:=blk_frozen BK121.out 0
  have hfz97_1:=blk_frozen BK121.out 1
  have hfz97_2:=blk_frozen BK121.out 2
  have hfz97_3:=blk_frozen BK121.out 3
  have hfz97_4:=blk_frozen BK121.out 4
  have hnb98:=NB126_122.out
  have hnc98:=NB122_126.out
  have hcz99_0:w85.cell? ⟨gb126,0,none⟩=some (.int .i64 0):=(blk_cell BK126.out 0).trans rfl
  have hcz99_1:w85.cell? ⟨gb126,1,none⟩=some (.int .i64 0):=(blk_cell BK126.out 1).trans rfl
  have hcz99_2:w85.cell? ⟨gb126,2,none⟩=some (.int .i64 0):=(blk_cell BK126.out 2).trans rfl
  have hcz99_3:w85.cell? ⟨gb126,3,none⟩=some (.int .i64 0):=(blk_cell BK126.out 3).trans rfl
  have hcz99_4:w85.cell? ⟨gb126,4,none⟩=some (.int .i64 0):=(blk_cell BK126.out 4).trans rfl
  have hcz99_5:w85.cell? ⟨gb126,5,none⟩=some (.slice none 0 0):=(blk_cell BK126.out 5).trans rfl
  have hcz99_6:w85.cell? ⟨gb126,6,none⟩=some (.slice none 0 0):=(blk_cell BK126.out 6).trans rfl
  have hcz99_7:w85.cell? ⟨gb126,7,none⟩=some (.int .i64 0):=(blk_cell BK126.out 7).trans rfl
  have hfz99_0:=blk_frozen BK126.out 0
  have hfz99_1:=blk_frozen BK126.out 1
  have hfz99_2:=blk_frozen BK126.out 2
  have hfz99_3:=blk_frozen BK126.out 3
  have hfz99_4:=blk_frozen BK126.out 4
  have hfz99_5:=blk_frozen BK126.out 5
  have hfz99_6:=blk_frozen BK126.out 6
  have hfz99_7:=blk_frozen BK126.out 7
  try go_wp2_with (first|((with_reducible refine gate_callee (f:=30) rfl ?_);refine goesL_ (some 20) rfl rfl Try.func30 (by kernel_rfl) rfl #[.agg #[.int .i64 a2_0,.int .i64 a2_1,.int .i64 a2_2,.int .i64 a2_3,.int .i64 a2_4],.int .i64 (t123.length:Int)] rfl (by (try simp only [List.map_toArray,List.map_cons,List.map_nil]);first|done|rfl|(simp only [List.length_drop,List.length_take];rfl)) ?_;(with_reducible refine (place_has.calls a2_0 a2_1 a2_2 a2_3 a2_4 (t123.length:Int) false _ A6.out).mono ?_);rintro e w100 ⟨rfl,hb⟩;refine ⟨_,rfl,?_⟩;have n0_:=Aside0.mk (Kd.R_below (by (with_reducible repeat (first|apply Kd.R_alloc|apply Kd.R_drewN|apply Kd.R_drew));exact (Kd.R_mono (Kd.R_far (p:=⟨gb126,7,none⟩) (Kd.R_far (p:=⟨gb126,6,none⟩) (Kd.R_far (p:=⟨gb126,5,none⟩) (Kd.R_far (p:=⟨gb126,4,none⟩) (Kd.R_far (p:=⟨gb126,3,none⟩) (Kd.R_far (p:=⟨gb126,2,none⟩) (Kd.R_far (p:=⟨gb126,1,none⟩) (Kd.R_far (p:=⟨gb126,0,none⟩) (Kd.R_types HO125.out BK126.out (by decide)) (fun _ hk=>hk.2) (.int .i64 a2_0)) (fun _ hk=>hk.2) (.int .i64 a2_1)) (fun _ hk=>hk.2) (.int .i64 a2_2)) (fun _ hk=>hk.2) (.int .i64 a2_3)) (fun _ hk=>hk.2) (.int .i64 a2_4)) (fun _ hk=>hk.2) (.slice Ao86 t123.length co86)) (fun _ hk=>hk.2) (.slice none 0 0)) (fun _ hk=>hk.2) (.int .i64 0)) (fun _ h_=>h_.1))) hb);have n1_:=Aside0.mk (blk_below (g:=gb121) (o:= .cells #[.int .i64 a2_0,.int .i64 a2_1,.int .i64 a2_2,.int .i64 a2_3,.int .i64 a2_4] 25 (0,0)) (by (with_reducible repeat (first|refine blk_drewN ?_ _|refine blk_drew ?_|refine blk_alloc ?_ _));refine blk_far ?_ NB121_126.out _;(with_reducible repeat (first|refine blk_drewN ?_ _|refine blk_drew ?_|refine blk_alloc ?_ _));refine blk_far ?_ NB121_126.out _;(with_reducible repeat (first|refine blk_drewN ?_ _|refine blk_drew ?_|refine blk_alloc ?_ _));refine blk_far ?_ NB121_126.out _;(with_reducible repeat (first|refine blk_drewN ?_ _|refine blk_drew ?_|refine blk_alloc ?_ _));refine blk_far ?_ NB121_126.out _;(with_reducible repeat (first|refine blk_drewN ?_ _|refine blk_drew ?_|refine blk_alloc ?_ _));refine blk_far ?_ NB121_126.out _;(with_reducible repeat (first|refine blk_drewN ?_ _|refine blk_drew ?_|refine blk_alloc ?_ _));refine blk_far ?_ NB121_126.out _;(with_reducible repeat (first|refine blk_drewN ?_ _|refine blk_drew ?_|refine blk_alloc ?_ _));refine blk_far ?_ NB121_126.out _;(with_reducible repeat (first|refine blk_drewN ?_ _|refine blk_drew ?_|refine blk_alloc ?_ _));refine blk_far ?_ NB121_126.out _;(with_reducible repeat (first|refine blk_drewN ?_ _|refine blk_drew ?_|refine blk_alloc ?_ _));exact BK121.out) hb);have n2_:=Aside0.mk (blk_below (g:=gb122) (o:= .cells #[.int .i64 0,.int .i64 0,.int .i64 0,.int .i64 0,.int .i64 0,.slice none 0 0,.slice none 0 0,.int .i64 0] 50 (0,0)) (by (with_reducible repeat (first|refine blk_drewN ?_ _|refine blk_drew ?_|refine blk_alloc ?_ _));refine blk_far ?_ NB122_126.out _;(with_reducible repeat (first|refine blk_drewN ?_ _|refine blk_drew ?_|refine blk_alloc ?_ _));refine blk_far ?_ NB122_126.out _;(with_reducible repeat (first|refine blk_drewN ?_ _|refine blk_drew ?_|refine blk_alloc ?_ _));refine blk_far ?_ NB122_126.out _;(with_reducible repeat (first|refine blk_drewN ?_ _|refine blk_drew ?_|refine blk_alloc ?_ _));refine blk_far ?_ NB122_126.out _;(with_reducible repeat (first|refine blk_drewN ?_ _|refine blk_drew ?_|refine blk_alloc ?_ _));refine blk_far ?_ NB122_126.out _;(with_reducible repeat (first|refine blk_drewN ?_ _|refine blk_drew ?_|refine blk_alloc ?_ _));refine blk_far ?_ NB122_126.out _;(with_reducible repeat (first|refine blk_drewN ?_ _|refine blk_drew ?_|refine blk_alloc ?_ _));refine blk_far ?_ NB122_126.out _;(with_reducible repeat (first|refine blk_drewN ?_ _|refine blk_drew ?_|refine blk_alloc ?_ _));refine blk_far ?_ NB122_126.out _;(with_reducible repeat (first|refine blk_drewN ?_ _|refine blk_drew ?_|refine blk_alloc ?_ _));exact BK122.out) hb);have n3_:=Aside0.mk (blk_below (g:=gb126) (o:= .cells #[.int .i64 a2_0,.int .i64 a2_1,.int .i64 a2_2,.int .i64 a2_3,.int .i64 a2_4,.slice Ao86 t123.length co86,.slice none 0 0,.int .i64 0] 50 (0,0)) (by (with_reducible repeat (first|refine blk_drewN ?_ _|refine blk_drew ?_|refine blk_alloc ?_ _));refine blk_put (cs:= #[.int .i64 a2_0,.int .i64 a2_1,.int .i64 a2_2,.int .i64 a2_3,.int .i64 a2_4,.slice Ao86 t123.length co86,.slice none 0 0,.int .i64 0]) ?_ 7 _ rfl;(with_reducible repeat (first|refine blk_drewN ?_ _|refine blk_drew ?_|refine blk_alloc ?_ _));refine blk_put (cs:= #[.int .i64 a2_0,.int .i64 a2_1,.int .i64 a2_2,.int .i64 a2_3,.int .i64 a2_4,.slice Ao86 t123.length co86,.slice none 0 0,.int .i64 0]) ?_ 6 _ rfl;(with_reducible repeat (first|refine blk_drewN ?_ _|refine blk_drew ?_|refine blk_alloc ?_ _));refine blk_put (cs:= #[.int .i64 a2_0,.int .i64 a2_1,.int .i64 a2_2,.int .i64 a2_3,.int .i64 a2_4,.slice none 0 0,.slice none 0 0,.int .i64 0]) ?_ 5 _ rfl;(with_reducible repeat (first|refine blk_drewN ?_ _|refine blk_drew ?_|refine blk_alloc ?_ _));refine blk_put (cs:= #[.int .i64 a2_0,.int .i64 a2_1,.int .i64 a2_2,.int .i64 a2_3,.int .i64 0,.slice none 0 0,.slice none 0 0,.int .i64 0]) ?_ 4 _ rfl;(with_reducible repeat (first|refine blk_drewN ?_ _|refine blk_drew ?_|refine blk_alloc ?_ _));refine blk_put (cs:= #[.int .i64 a2_0,.int .i64 a2_1,.int .i64 a2_2,.int .i64 0,.int .i64 0,.slice none 0 0,.slice none 0 0,.int .i64 0]) ?_ 3 _ rfl;(with_reducible repeat (first|refine blk_drewN ?_ _|refine blk_drew ?_|refine blk_alloc ?_ _));refine blk_put (cs:= #[.int .i64 a2_0,.int .i64 a2_1,.int .i64 0,.int .i64 0,.int .i64 0,.slice none 0 0,.slice none 0 0,.int .i64 0]) ?_ 2 _ rfl;(with_reducible repeat (first|refine blk_drewN ?_ _|refine blk_drew ?_|refine blk_alloc ?_ _));refine blk_put (cs:= #[.int .i64 a2_0,.int .i64 0,.int .i64 0,.int .i64 0,.int .i64 0,.slice none 0 0,.slice none 0 0,.int .i64 0]) ?_ 1 _ rfl;(with_reducible repeat (first|refine blk_drewN ?_ _|refine blk_drew ?_|refine blk_alloc ?_ _));refine blk_put (cs:= #[.int .i64 0,.int .i64 0,.int .i64 0,.int .i64 0,.int .i64 0,.slice none 0 0,.slice none 0 0,.int .i64 0]) ?_ 0 _ rfl;(with_reducible repeat (first|refine blk_drewN ?_ _|refine blk_drew ?_|refine blk_alloc ?_ _));exact BK126.out) hb);have n4_:=Aside0.mk (below_step (by repeat (first|(with_reducible first|exact HB.out|apply below_alloc|apply pw_below_drewN|apply below_drew1|refine below_set ?_ GE121.out|refine below_set ?_ GE122.out|refine below_set ?_ GE126.out)|exact HB.out)) hb);clear HO125;clear BK121;clear BK122;clear BK126;clear HB;have HO125:=n0_;have BK121:=n1_;have BK122:=n2_;have BK126:=n3_;have HB:=n4_;clear n0_ n1_ n2_ n3_ n4_;(try clear hb);(try clear hb2);(try clear hk);(try clear hi);have hcz101_0:w100.cell? ⟨gb122,0,none⟩=some (.int .i64 0):=(blk_cell BK122.out 0).trans rfl;have hcz101_1:w100.cell? ⟨gb122,1,none⟩=some (.int .i64 0):=(blk_cell BK122.out 1).trans rfl;have hcz101_2:w100.cell? ⟨gb122,2,none⟩=some (.int .i64 0):=(blk_cell BK122.out 2).trans rfl;have hcz101_3:w100.cell? ⟨gb122,3,none⟩=some (.int .i64 0):=(blk_cell BK122.out 3).trans rfl;have hcz101_4:w100.cell? ⟨gb122,4,none⟩=some (.int .i64 0):=(blk_cell BK122.out 4).trans rfl;have hcz101_5:w100.cell? ⟨gb122,5,none⟩=some (.slice none 0 0):=(blk_cell BK122.out 5).trans rfl;have hcz101_6:w100.cell? ⟨gb122,6,none⟩=some (.slice none 0 0):=(blk_cell BK122.out 6).trans rfl;have hcz101_7:w100.cell? ⟨gb122,7,none⟩=some (.int .i64 0):=(blk_cell BK122.out 7).trans rfl;have hfz101_0:=blk_frozen BK122.out 0;have hfz101_1:=blk_frozen BK122.out 1;have hfz101_2:=blk_frozen BK122.out 2;have hfz101_3:=blk_frozen BK122.out 3;have hfz101_4:=blk_frozen BK122.out 4;have hfz101_5:=blk_frozen BK122.out 5;have hfz101_6:=blk_frozen BK122.out 6;have hfz101_7:=blk_frozen BK122.out 7))
  refine bodyPost_ret (results_ct rfl _ _ gb122 50 #[.int .i64 0,.int .i64 0,.int .i64 0,.int .i64 0,.int .i64 0,.slice none 0 0,.slice none 0 0,.int .i64 0] (0,0) _ rfl (by (with_reducible repeat (first|refine blk_drewN ?_ _|refine blk_drew ?_|refine blk_alloc ?_ _));refine blk_put (cs:= #[.int .i64 0,.int .i64 0,.int .i64 0,.int .i64 0,.int .i64 0,.slice none 0 0,.slice none 0 0,.int .i64 0]) ?_ 7 _ rfl;(with_reducible repeat (first|refine blk_drewN ?_ _|refine blk_drew ?_|refine blk_alloc ?_ _));refine blk_put (cs:= #[.int .i64 0,.int .i64 0,.int .i64 0,.int .i64 0,.int .i64 0,.slice none 0 0,.slice none 0 0,.int .i64 0]) ?_ 6 _ rfl;(with_reducible repeat (first|refine blk_drewN ?_ _|refine blk_drew ?_|refine blk_alloc ?_ _));refine blk_put (cs:= #[.int .i64 0,.int .i64 0,.int .i64 0,.int .i64 0,.int .i64 0,.slice none 0 0,.slice none 0 0,.int .i64 0]) ?_ 5 _ rfl;(with_reducible repeat (first|refine blk_drewN ?_ _|refine blk_drew ?_|refine blk_alloc ?_ _));refine blk_put (cs:= #[.int .i64 0,.int .i64 0,.int .i64 0,.int .i64 0,.int .i64 0,.slice none 0 0,.slice none 0 0,.int .i64 0]) ?_ 4 _ rfl;(with_reducible repeat (first|refine blk_drewN ?_ _|refine blk_drew ?_|refine blk_alloc ?_ _));refine blk_put (cs:= #[.int .i64 0,.int .i64 0,.int .i64 0,.int .i64 0,.int .i64 0,.slice none 0 0,.slice none 0 0,.int .i64 0]) ?_ 3 _ rfl;(with_reducible repeat (first|refine blk_drewN ?_ _|refine blk_drew ?_|refine blk_alloc ?_ _));refine blk_put (cs:= #[.int .i64 0,.int .i64 0,.int .i64 0,.int .i64 0,.int .i64 0,.slice none 0 0,.slice none 0 0,.int .i64 0]) ?_ 2 _ rfl;(with_reducible repeat (first|refine blk_drewN ?_ _|refine blk_drew ?_|refine blk_alloc ?_ _));refine blk_put (cs:= #[.int .i64 0,.int .i64 0,.int .i64 0,.int .i64 0,.int .i64 0,.slice none 0 0,.slice none 0 0,.int .i64 0]) ?_ 1 _ rfl;(with_reducible repeat (first|refine blk_drewN ?_ _|refine blk_drew ?_|refine blk_alloc ?_ _));refine blk_put (cs:= #[.int .i64 0,.int .i64 0,.int .i64 0,.int .i64 0,.int .i64 0,.slice none 0 0,.slice none 0 0,.int .i64 0]) ?_ 0 _ rfl;(with_reducible repeat (first|refine blk_drewN ?_ _|refine blk_drew ?_|refine blk_alloc ?_ _));exact BK122.out) Try.underlying50 rfl (by kernel_rfl)) rfl ?_
  exact ⟨_,_,by first|rfl|(simp [errW_none,errW_some] <;> rfl)|(simp [*,errW_none,errW_some] <;> rfl),by first|exact Kd.R_nil _ _ _ _ _|exact Kd.N_nil _ _ _ _ _|exact Kd.V_nil _ _ _ _ _|exact Kd.Q_nil _ _ _ _ _|exact Kd.S_nil _ _ _ _ _,by first|exact Kd.R_nil _ _ _ _ _|exact Kd.N_nil _ _ _ _ _|exact Kd.V_nil _ _ _ _ _|exact Kd.Q_nil _ _ _ _ _|exact Kd.S_nil _ _ _ _ _,by repeat (first|(with_reducible first|exact HB.out|apply below_alloc|apply pw_below_drewN|apply below_drew1|refine below_set ?_ GE121.out|refine below_set ?_ GE122.out|refine below_set ?_ GE126.out)|exact HB.out)⟩
end Go.Proofs.Yteoaegigjlhamaa.PC19
