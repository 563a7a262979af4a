/- Chapter 19, printed: what the functions compute, and proofs that they do. -/
import Derived.Test.YteoaegigjlhamaaPC19x0
import Derived.Test.YteoaegigjlhamaaPC19x1
import Derived.Test.YteoaegigjlhamaaPC19x2
import Derived.Test.YteoaegigjlhamaaPC19x10
import Derived.Test.YteoaegigjlhamaaPC19x11
import Derived.Test.YteoaegigjlhamaaPC19x12
namespace Go.Proofs.Yteoaegigjlhamaa.PC19
open Go.RowKit Go.Proofs.YteoaegigjlhamaaW.PrintWords Go.Proofs.YteoaegigjlhamaaW.PrintLast Go.Proofs.YteoaegigjlhamaaW.PrintMore
attribute [local go_sem] max2_int min2_int max_two min_two max_three min_three max_four min_four
set_option linter.unusedVariables false
set_option maxRecDepth 100000
set_option linter.unusedSimpArgs false
attribute [local go_sem high] eqA36 eqA42
mutual
def q19_Slots.j0:Nat→List (S36)→List Int→Int→Int→Int→Bool→Int→Int→Int→Int→Int→Option ((List (S42)) × Int)
 | 0,_,_,_,_,_,_,_,_,_,_,_=>none
 | k+1,x0,x1,x3,x4,x5,x43,x469000,x469001,x469002,x469003,x469004=>if x43=true then (some (([]:List (S42)),1)) else ((q06_Of.f k x0).bind fun t469=>(if x469000 < 0 then (q19_Slots.j1 k x0 x1 x3 x4 x5 t469 true x469000 x469001 x469002 x469003 x469004) else (if x469002 < x469000 then (q19_Slots.j1 k x0 x1 x3 x4 x5 t469 true x469000 x469001 x469002 x469003 x469004) else (if x469001 < x469002 then (q19_Slots.j1 k x0 x1 x3 x4 x5 t469 true x469000 x469001 x469002 x469003 x469004) else (q19_Slots.j1 k x0 x1 x3 x4 x5 t469 (decide (x469001 > (t469.length:Int))) x469000 x469001 x469002 x469003 x469004)))))
def q19_Slots.j1:Nat→List (S36)→List Int→Int→Int→Int→List (S40)→Bool→Int→Int→Int→Int→Int→Option ((List (S42)) × Int)
 | 0,_,_,_,_,_,_,_,_,_,_,_,_=>none
 | k+1,x0,x1,x3,x4,x5,x14,x69,x469000,x469001,x469002,x469003,x469004=>if x69=true then (some (([]:List (S42)),4)) else ((q19_Seen.f k x0 x1 x14 x469000 x469001 x469002 x469003 x469004 x3).bind fun bt472=>((q19_Text.f k bt472.1 bt472.2 x469004 x3).bind fun t478=>((q19_Pad.f k t478 x4 x5).bind fun t481=>(some (t481,0)))))
end
def q19_Slots.f (k:Nat) (l0:List (S36)) (l1:List Int) (a2_0:Int) (a2_1:Int) (a2_2:Int) (a2_3:Int) (a2_4:Int) (a3:Int) (a4:Int) (a5:Int):Option ((List (S42)) × Int):=if (l0.length:Int)=(l1.length:Int) then (if a3 < 0 then (q19_Slots.j0 k l0 l1 a3 a4 a5 true a2_0 a2_1 a2_2 a2_3 a2_4) else (if a3 > 1 then (q19_Slots.j0 k l0 l1 a3 a4 a5 true a2_0 a2_1 a2_2 a2_3 a2_4) else (if a4 < 1 then (q19_Slots.j0 k l0 l1 a3 a4 a5 true a2_0 a2_1 a2_2 a2_3 a2_4) else (if a4 > 1024 then (q19_Slots.j0 k l0 l1 a3 a4 a5 true a2_0 a2_1 a2_2 a2_3 a2_4) else (if a5 < 2 then (q19_Slots.j0 k l0 l1 a3 a4 a5 true a2_0 a2_1 a2_2 a2_3 a2_4) else (q19_Slots.j0 k l0 l1 a3 a4 a5 (decide (a5 > 4)) a2_0 a2_1 a2_2 a2_3 a2_4)))))) else (q19_Slots.j0 k l0 l1 a3 a4 a5 true a2_0 a2_1 a2_2 a2_3 a2_4)
theorem q19_Slots.mono_l: ∀ k,(∀ y0 y1 y2 y3 y4 y5 y6 y7 y8 y9 y10,LeO (q19_Slots.j0 k y0 y1 y2 y3 y4 y5 y6 y7 y8 y9 y10) (q19_Slots.j0 (k+1) y0 y1 y2 y3 y4 y5 y6 y7 y8 y9 y10))∧(∀ y0 y1 y2 y3 y4 y5 y6 y7 y8 y9 y10 y11,LeO (q19_Slots.j1 k y0 y1 y2 y3 y4 y5 y6 y7 y8 y9 y10 y11) (q19_Slots.j1 (k+1) y0 y1 y2 y3 y4 y5 y6 y7 y8 y9 y10 y11))
 | 0=>⟨fun _ _ _ _ _ _ _ _ _ _ _ r h=>by simp [q19_Slots.j0] at h,fun _ _ _ _ _ _ _ _ _ _ _ _ r h=>by simp [q19_Slots.j1] at h⟩
 | k+1=>by
  obtain ⟨ih0,ih1⟩:=q19_Slots.mono_l k
  refine ⟨?_,?_⟩
  ·
   intros
   unfold q19_Slots.j0
   have j0:=@q06_Of.mono
   have j1:=@q19_Pad.mono
   have j2:=@q19_Seen.mono
   have j3:=@q19_Text.mono
   exact TL
  ·
   intros
   unfold q19_Slots.j1
   have j0:=@q06_Of.mono
   have j1:=@q19_Pad.mono
   have j2:=@q19_Seen.mono
   have j3:=@q19_Text.mono
   exact TL
theorem q19_Slots.mono: ∀ a0 a1 a2 a3 a4 a5 a6 a7 a8 a9 k,LeO (q19_Slots.f k a0 a1 a2 a3 a4 a5 a6 a7 a8 a9) (q19_Slots.f (k+1) a0 a1 a2 a3 a4 a5 a6 a7 a8 a9):=by
 intro a0 a1 a2 a3 a4 a5 a6 a7 a8 a9 k
 obtain ⟨ih0,ih1⟩:=q19_Slots.mono_l k
 unfold q19_Slots.f
 repeat' first
   | (with_reducible exact ih0 _ _ _ _ _ _ _ _ _ _ _)
   | (with_reducible exact ih1 _ _ _ _ _ _ _ _ _ _ _ _)
   | (with_reducible exact q06_Of.mono _ _)
   | (with_reducible exact q19_Pad.mono _ _ _ _)
   | (with_reducible exact q19_Seen.mono _ _ _ _ _ _ _ _ _ _)
   | (with_reducible exact q19_Text.mono _ _ _ _ _)
   | (with_reducible exact LeO.refl _)
   | (with_reducible exact LeO.none _)
   | (with_reducible refine LeO.ite ?_ ?_)
   | (with_reducible refine LeO.bind ?_ (fun _=>?_))
def q19_Slots.T6:Bool × List (List Nat × List Nat):=(true,[([],[]),([],[]),([],[]),([],[]),([],[]),([0,1,2,3,4],[0,1,2,3,4]),([],[]),([6],[6]),([],[]),([5,7,8,5],[5,7,8]),([],[]),([],[]),([9,10,11,9],[9,10,11]),([12,12,0,1,2,3,4,5,6,7,8,9,10,11,12],[12]),([13,0,1,2,3,4,5,6,7,8,9,10,11,12,13],[])])
def q19_Slots.B6:List Nat:=[0,0,0,0,0,31,0,64,0,511,0,0,4095,8191,16383]
theorem q19_Slots.tab6:rtab .any (opsOf Try.f9 6)=q19_Slots.T6:=by kernel_rfl
theorem q19_Slots.bits6:waitsOk q19_Slots.T6.2 q19_Slots.B6=true:=by kernel_rfl
set_option maxHeartbeats 8000000 in
theorem q19_Slots.calls (k:Nat) (A0:Option Addr) (c0:Nat) (l0:List (S36)) (A1:Option Addr) (c1:Nat) (l1:List Int) (a2_0:Int) (a2_1:Int) (a2_2:Int) (a2_3:Int) (a2_4:Int) (a3:Int) (a4:Int) (a5:Int) (r1:List (S42)) (r2:Int) (w:World) (hr0:Kd.C k36 w A0 l0.length l0) (hc0:l0.length≤c0) (hr1:Kd.C (Kd.int .i64) w A1 l1.length l1) (hc1:l1.length≤c1) (h:q19_Slots.f k l0 l1 a2_0 a2_1 a2_2 a2_3 a2_4 a3 a4 a5=some (r1,r2)) :
  Calls Try.prog 9 #[.slice A0 l0.length c0,.slice A1 l1.length c1,.agg #[.int .i64 a2_0,.int .i64 a2_1,.int .i64 a2_2,.int .i64 a2_3,.int .i64 a2_4],.int .i64 a3,.int .i64 a4,.int .i64 a5] w fun e w'=> ∃ v0_:Value,e= .returned (.tuple #[v0_,.int .i64 r2])∧Kd.R k42 42 w' w.heap.size (fun _=>True) v0_ r1∧Below w.heap.size w w':=by
 have hu25:=Try.underlying25
 have HR0:=Am hr0
 have HC0:=Am hc0
 clear hr0 hc0
 have HR1:=Am hr1
 have HC1:=Am hc1
 clear hr1 hc1
 have HB:=Am (Below.refl w.heap.size w)
 have H:(if (l0.length:Int)=(l1.length:Int) then (if a3 < 0 then (q19_Slots.j0 k l0 l1 a3 a4 a5 true a2_0 a2_1 a2_2 a2_3 a2_4) else (if a3 > 1 then (q19_Slots.j0 k l0 l1 a3 a4 a5 true a2_0 a2_1 a2_2 a2_3 a2_4) else (if a4 < 1 then (q19_Slots.j0 k l0 l1 a3 a4 a5 true a2_0 a2_1 a2_2 a2_3 a2_4) else (if a4 > 1024 then (q19_Slots.j0 k l0 l1 a3 a4 a5 true a2_0 a2_1 a2_2 a2_3 a2_4) else (if a5 < 2 then (q19_Slots.j0 k l0 l1 a3 a4 a5 true a2_0 a2_1 a2_2 a2_3 a2_4) else (q19_Slots.j0 k l0 l1 a3 a4 a5 (decide (a5 > 4)) a2_0 a2_1 a2_2 a2_3 a2_4)))))) else (q19_Slots.j0 k l0 l1 a3 a4 a5 true a2_0 a2_1 a2_2 a2_3 a2_4))=some (r1,r2):=h
 clear h
 have HC7:=Am H
 clear H
 go_enter Try.func9,Try.ntmps9
 try dsimp only [List.append]
 go_upto_region 1 with (first|((with_reducible refine gate_dst (N:=8) rfl ?_);(try (refine gate_guard (by rfl) ?_;dsimp only));refine box_event ?hg (N:=8) ?hd (cs:= #[.int .i64 a2_0,.int .i64 a2_1,.int .i64 a2_2,.int .i64 a2_3,.int .i64 a2_4]) (t:=25) ?hr ?_;(case hd=>rfl);(case hg=>rfl);(case hr=>exact TG);intro gb468 hg w8 hbox hb;have BK468:=Am (hbox);have GW468:=Am (gwS hg);have GE468:=Am (gwS hg);replace HB:=Am (below_step TB hb);clear hb hbox hg))
 (try simp only [Act.put,List.setIfInBounds_toArray,List.set_cons_zero,List.set_cons_succ])
 go_cut [43] (fun v43 wc=> ∃ (kq:Nat) (x43_6:Bool),v43= .bool x43_6∧Aside0 (q19_Slots.j0 kq l0 l1 a3 a4 a5 x43_6 a2_0 a2_1 a2_2 a2_3 a2_4=some (r1,r2))∧Aside0 (kq≤k)∧Aside0 (wc.heap[gb468]?=some (.cells #[.int .i64 a2_0,.int .i64 a2_1,.int .i64 a2_2,.int .i64 a2_3,.int .i64 a2_4] 25 (0,0)))∧Aside0 (Below w.heap.size w wc))
 case first =>
  have H:=HC7.out
  clear HC7
  by_cases c9:(l0.length:Int)=(l1.length:Int)
  rotate_left
  ·
   rw [if_neg c9] at H
   have c9b0:((l0.length:Int)==(l1.length:Int))=false:=beq_eq_false_iff_ne.mpr c9
   have c9b1:((l0.length:Int) !=(l1.length:Int))=true:=bne_iff_ne.mpr c9
   have c9b2:(l0.length==l1.length)=false:=by first|simpa using c9|(simp at c9 ⊢;omega)
   (first|rw [c9b0]|(simp only [i64_w,i32_w];rw [c9b0])|skip)
   have H':=Am H
   clear H
   go_wp2
   go_meet
   case rel=>exact ⟨_,(true),TS,H',⟨by first|omega|exact Nat.le_refl _⟩,⟨blkU BK468.out⟩,⟨TB⟩⟩
  rw [if_pos c9] at H
  have c9b0:((l0.length:Int)==(l1.length:Int))=true:=beq_iff_eq.mpr c9
  have c9b1:((l0.length:Int) !=(l1.length:Int))=false:=bne_eq_false_iff_eq.mpr c9
  have c9b2:(l0.length==l1.length)=true:=by first|simpa using c9|(simp at c9 ⊢;omega)
  clear c9
  (first|rw [c9b0]|(simp only [i64_w,i32_w];rw [c9b0])|skip)
  by_cases c10:a3 < 0
  ·
   rw [if_pos c10] at H
   have c10b0:decide (a3 < 0)=true:=decide_eq_true c10
   clear c10
   have H':=Am H
   clear H
   go_wp2
   go_meet
   case rel=>exact ⟨_,(true),TS,H',⟨by first|omega|exact Nat.le_refl _⟩,⟨blkU BK468.out⟩,⟨TB⟩⟩
  rw [if_neg c10] at H
  have c10b0:decide (a3 < 0)=false:=decide_eq_false c10
  clear c10
  by_cases c11:a3 > 1
  ·
   rw [if_pos c11] at H
   have c11b0:decide (1 < a3)=true:=decide_eq_true c11
   clear c11
   have H':=Am H
   clear H
   go_wp2
   go_meet
   case rel=>exact ⟨_,(true),TS,H',⟨by first|omega|exact Nat.le_refl _⟩,⟨blkU BK468.out⟩,⟨TB⟩⟩
  rw [if_neg c11] at H
  have c11b0:decide (1 < a3)=false:=decide_eq_false c11
  clear c11
  by_cases c12:a4 < 1
  ·
   rw [if_pos c12] at H
   have c12b0:decide (a4 < 1)=true:=decide_eq_true c12
   clear c12
   have H':=Am H
   clear H
   go_wp2
   go_meet
   case rel=>exact ⟨_,(true),TS,H',⟨by first|omega|exact Nat.le_refl _⟩,⟨blkU BK468.out⟩,⟨TB⟩⟩
  rw [if_neg c12] at H
  have c12b0:decide (a4 < 1)=false:=decide_eq_false c12
  clear c12
  by_cases c13:a4 > 1024
  ·
   rw [if_pos c13] at H
   have c13b0:decide (1024 < a4)=true:=decide_eq_true c13
   clear c13
   have H':=Am H
   clear H
   go_wp2
   go_meet
   case rel=>exact ⟨_,(true),TS,H',⟨by first|omega|exact Nat.le_refl _⟩,⟨blkU BK468.out⟩,⟨TB⟩⟩
  rw [if_neg c13] at H
  have c13b0:decide (1024 < a4)=false:=decide_eq_false c13
  clear c13
  by_cases c14:a5 < 2
  ·
   rw [if_pos c14] at H
   have c14b0:decide (a5 < 2)=true:=decide_eq_true c14
   clear c14
   have H':=Am H
   clear H
   go_wp2
   go_meet
   case rel=>exact ⟨_,(true),TS,H',⟨by first|omega|exact Nat.le_refl _⟩,⟨blkU BK468.out⟩,⟨TB⟩⟩
  rw [if_neg c14] at H
  have c14b0:decide (a5 < 2)=false:=decide_eq_false c14
  clear c14
  have H':=Am H
  clear H
  go_wp2
  go_meet
  case rel=>exact ⟨_,(decide (a5 > 4)),TS,H',⟨by first|omega|exact Nat.le_refl _⟩,⟨blkU BK468.out⟩,⟨TB⟩⟩
 case rest =>
  clear HC7
  obtain ⟨kq,x43_6,rfl,HA,HJ6,BK468,HB⟩:=hcut
  cases kq with
  | zero=>exact absurd HA.out (by simp [q19_Slots.j0])
  | succ kj6 =>
   have H:=HA.out
   clear HA
   simp only [q19_Slots.j0] at H
   by_cases c15:x43_6=true
   ·
    subst c15
    rw [if_pos rfl] at H
    simp only [Option.some.injEq,Prod.mk.injEq] at H
    obtain ⟨rfl,rfl⟩:=H
    go_wp2
    go_ret2
    exact ⟨_,TE,by first|exact Kd.R_nil _ _ _ _ _|exact Kd.N_nil _ _ _ _ _|exact Kd.V_nil _ _ _ _ _|exact Kd.Q_nil _ _ _ _ _|exact Kd.S_nil _ _ _ _ _,TB⟩
   replace c15:=Bool.eq_false_iff.mpr c15
   subst c15
   rw [if_neg (show ¬ (false=true) by decide)] at H
   obtain ⟨t469,A160,H⟩:=Option.bind_eq_some_iff.mp H
   try dsimp only at H
   have A16:=Am A160
   clear A160
   have HC17:=Am H
   clear H
   go_upto_region 4 with (first|((with_reducible refine gate_callee (f:=21) rfl ?_);refine goesL_ (some 45) rfl rfl Try.func21 TK rfl #[.slice A0 l0.length c0] rfl TM ?_;(with_reducible refine (q06_Of.calls kj6 _ _ l0 t469 _ ?side1 ?side2 A16.out).mono ?_);(case side1=>exact CU (Kd.C_below HR0.out HB.out));(case side2=>exact HC0.out);rintro e w18 ⟨v470,rfl,ho0,hb⟩;refine ⟨_,rfl,?_⟩;have HO471:=Am (Kd.R_lower ho0 (below_size TB));replace BK468:=Am (blk_below (blkU BK468.out) hb);replace HB:=Am (below_step TB hb);(try clear hb);(try clear hb2);(try clear hk);(try clear hi);(try clear ho0)))
   (try simp only [Act.put,List.setIfInBounds_toArray,List.set_cons_zero,List.set_cons_succ])
   go_cut [69] (fun v69 wc=> ∃ (kq:Nat) (x69_16:Bool),v69= .bool x69_16∧Aside0 (q19_Slots.j1 kq l0 l1 a3 a4 a5 t469 x69_16 a2_0 a2_1 a2_2 a2_3 a2_4=some (r1,r2))∧Aside0 (kq≤kj6)∧Aside0 (Kd.R k40 40 wc w.heap.size (fun _=>True) v470 t469)∧Aside0 (wc.heap[gb468]?=some (.cells #[.int .i64 a2_0,.int .i64 a2_1,.int .i64 a2_2,.int .i64 a2_3,.int .i64 a2_4] 25 (0,0)))∧Aside0 (Below w.heap.size w wc))
   case first =>
    have H:=HC17.out
    clear HC17
    by_cases c19:a2_0 < 0
    ·
     rw [if_pos c19] at H
     have c19b0:decide (a2_0 < 0)=true:=decide_eq_true c19
     clear c19
     (first|rw [c19b0]|(simp only [i64_w,i32_w];rw [c19b0])|skip)
     have H':=Am H
     clear H
     obtain ⟨hcz20_0,hcz20_1,hcz20_2,hcz20_3,hcz20_4⟩:=blkC5 BK468.out
     obtain ⟨hfz20_0,hfz20_1,hfz20_2,hfz20_3,hfz20_4⟩:=blkF5 BK468.out
     go_wp2
     go_meet
     case rel=>exact ⟨_,(true),TS,H',⟨by have:=HJ6.out;first|omega|exact Nat.le_refl _⟩,⟨RU HO471.out⟩,⟨blkU BK468.out⟩,⟨TB⟩⟩
    rw [if_neg c19] at H
    have c19b0:decide (a2_0 < 0)=false:=decide_eq_false c19
    clear c19
    (first|rw [c19b0]|(simp only [i64_w,i32_w];rw [c19b0])|skip)
    by_cases c21:a2_2 < a2_0
    ·
     rw [if_pos c21] at H
     have c21b0:decide (a2_2 < a2_0)=true:=decide_eq_true c21
     clear c21
     have H':=Am H
     clear H
     obtain ⟨hcz22_0,hcz22_1,hcz22_2,hcz22_3,hcz22_4⟩:=blkC5 BK468.out
     obtain ⟨hfz22_0,hfz22_1,hfz22_2,hfz22_3,hfz22_4⟩:=blkF5 BK468.out
     go_wp2
     go_meet
     case rel=>exact ⟨_,(true),TS,H',⟨by have:=HJ6.out;first|omega|exact Nat.le_refl _⟩,⟨RU HO471.out⟩,⟨blkU BK468.out⟩,⟨TB⟩⟩
    rw [if_neg c21] at H
    have c21b0:decide (a2_2 < a2_0)=false:=decide_eq_false c21
    clear c21
    by_cases c23:a2_1 < a2_2
    ·
     rw [if_pos c23] at H
     have c23b0:decide (a2_1 < a2_2)=true:=decide_eq_true c23
     clear c23
     have H':=Am H
     clear H
     obtain ⟨hcz24_0,hcz24_1,hcz24_2,hcz24_3,hcz24_4⟩:=blkC5 BK468.out
     obtain ⟨hfz24_0,hfz24_1,hfz24_2,hfz24_3,hfz24_4⟩:=blkF5 BK468.out
     go_wp2
     go_meet
     case rel=>exact ⟨_,(true),TS,H',⟨by have:=HJ6.out;first|omega|exact Nat.le_refl _⟩,⟨RU HO471.out⟩,⟨blkU BK468.out⟩,⟨TB⟩⟩
    rw [if_neg c23] at H
    have c23b0:decide (a2_1 < a2_2)=false:=decide_eq_false c23
    clear c23
    have H':=Am H
    clear H
    obtain ⟨hcz25_0,hcz25_1,hcz25_2,hcz25_3,hcz25_4⟩:=blkC5 BK468.out
    obtain ⟨hfz25_0,hfz25_1,hfz25_2,hfz25_3,hfz25_4⟩:=blkF5 BK468.out
    obtain ⟨Ao26,co26,eo26⟩:=Kd.R_slice HO471.out
    subst eo26
    go_wp2
    go_meet
    case rel=>exact ⟨_,(decide (a2_1 > (t469.length:Int))),TS,H',⟨by have:=HJ6.out;first|omega|exact Nat.le_refl _⟩,⟨RU HO471.out⟩,⟨blkU BK468.out⟩,⟨TB⟩⟩
   case rest =>
    clear HC17
    obtain ⟨kq,x69_16,rfl,HA,HJ16,HO_14,BK468,HB⟩:=hcut
    cases kq with
    | zero=>exact absurd HA.out (by simp [q19_Slots.j1])
    | succ kj16 =>
     have H:=HA.out
     clear HA
     simp only [q19_Slots.j1] at H
     by_cases c27:x69_16=true
     ·
      subst c27
      rw [if_pos rfl] at H
      simp only [Option.some.injEq,Prod.mk.injEq] at H
      obtain ⟨rfl,rfl⟩:=H
      go_wp2
      go_ret2
      exact ⟨_,TE,by first|exact Kd.R_nil _ _ _ _ _|exact Kd.N_nil _ _ _ _ _|exact Kd.V_nil _ _ _ _ _|exact Kd.Q_nil _ _ _ _ _|exact Kd.S_nil _ _ _ _ _,TB⟩
     replace c27:=Bool.eq_false_iff.mpr c27
     subst c27
     rw [if_neg (show ¬ (false=true) by decide)] at H
     replace H:=Option.bind_eq_some_iff.mp H
     obtain ⟨⟨t472,t475⟩,A280,H⟩:=H
     try dsimp only at H
     have A28:=Am A280
     clear A280
     obtain ⟨t478,A290,H⟩:=Option.bind_eq_some_iff.mp H
     try dsimp only at H
     have A29:=Am A290
     clear A290
     obtain ⟨t481,A300,H⟩:=Option.bind_eq_some_iff.mp H
     try dsimp only at H
     have A30:=Am A300
     clear A300
     simp only [Option.some.injEq,Prod.mk.injEq] at H
     obtain ⟨rfl,rfl⟩:=H
     try go_wp2
     replace HO_14:=Am (Kd.R_drew HO_14.out)
     replace BK468:=Am (blk_drew BK468.out)
     replace HB:=Am (below_drew1 HB.out)
     obtain ⟨Ao32,co32,eo32⟩:=Kd.R_slice HO_14.out
     (first|subst eo32|(injection eo32 with f1_ f2_ f3_;have f4_:=f1_.symm;have f5_:=f3_.symm;clear f1_ f2_ f3_;subst f4_;subst f5_))
     refine start_ (n:=15) (S:=fun w'=>w'.cell? ⟨gb468,0,none⟩=some (.int .i64 a2_0)∧w'.cell? ⟨gb468,1,none⟩=some (.int .i64 a2_1)∧w'.cell? ⟨gb468,2,none⟩=some (.int .i64 a2_2)∧w'.cell? ⟨gb468,3,none⟩=some (.int .i64 a2_3)∧w'.cell? ⟨gb468,4,none⟩=some (.int .i64 a2_4)) (ds:=[]) (bl 15 0) TK rfl rfl ⟨(blk_cell BK468.out 0).trans rfl,(blk_cell BK468.out 1).trans rfl,(blk_cell BK468.out 2).trans rfl,(blk_cell BK468.out 3).trans rfl,(blk_cell BK468.out 4).trans rfl⟩ (fun hHeld=>?_);refine with_tabW q19_Slots.tab6 q19_Slots.bits6 (fun HT_ HW_=>?_)
     generalize wc.drew=w31 at HO_14 BK468 HB hHeld ⊢
     refine pureS (i:=0) (N:=some 70) (bl 15 1) rfl rfl (any_of HT_.out TK) ?_
     refine pureS (i:=1) (N:=some 71) (bl 15 3) rfl rfl (any_of HT_.out TK) ?_
     refine pureS (i:=2) (N:=some 72) (bl 15 7) rfl rfl (any_of HT_.out TK) ?_
     refine pureS (i:=4) (N:=some 74) (bl 15 23) rfl rfl (any_of HT_.out TK) ?_
     refine pureS (i:=6) (N:=some 76) (bl 15 87) rfl rfl (any_of HT_.out TK) ?_
     refine pureS (i:=8) (N:=some 78) (bl 15 343) rfl rfl (any_of HT_.out TK) ?_
     refine pureS (i:=10) (N:=some 80) (bl 15 1367) rfl rfl (any_of HT_.out TK) ?_
     refine pureS (i:=11) (N:=some 81) (bl 15 3415) rfl rfl (any_of HT_.out TK) ?_
     refine take_ (i:=3) (N:=some 73) (v:=?_) (a':=?_) (bl 15 3423) rfl rfl (take_ofW HT_.out HW_.out TK) (fun _ _ _ h=>h) (Or.inl ⟨by rfl,?_⟩) hHeld ?_ ?_
     rotate_left
     ·
      rintro w' ⟨s0,s1,s2,s3,s4⟩
      go_simp
      with_reducible rfl
     rotate_left
     ·
      simp only [PT]
      rfl
     refine take_ (i:=7) (N:=some 77) (v:=?_) (a':=?_) (bl 15 3551) rfl rfl (take_ofW HT_.out HW_.out TK) (fun _ _ _ h=>h) (Or.inl ⟨by rfl,?_⟩) hHeld ?_ ?_
     rotate_left
     ·
      rintro w' ⟨s0,s1,s2,s3,s4⟩
      go_simp
      with_reducible rfl
     rotate_left
     ·
      simp only [PT]
      rfl
     refine one_ (i:=5) (N:=some 75) (bl 15 3583) rfl rfl (one_of HT_.out TK) (by decide) (fun K hK=>?_)
     refine goes_ Try.func24 TK rfl #[.slice A0 l0.length c0,.slice A1 l1.length c1,.slice Ao32 t469.length co32,.agg #[.int .i64 a2_0,.int .i64 a2_1,.int .i64 a2_2,.int .i64 a2_3,.int .i64 a2_4],.int .i64 a3] (by rfl) rfl rfl TM ?_
     with_reducible refine (q19_Seen.calls kj16 _ _ l0 _ _ l1 _ _ t469 a2_0 a2_1 a2_2 a2_3 a2_4 a3 t472 t475 _ ?side1 ?side2 ?side3 ?side4 ?side5 ?side6 A28.out).mono ?_
     (case side1=>exact CU (Kd.C_below HR0.out HB.out))
     (case side2=>exact HC0.out)
     (case side3=>exact CU (Kd.C_below HR1.out HB.out))
     (case side4=>exact HC1.out)
     (case side5=>exact CU ((Kd.R_reads' HO_14.out).2.2))
     (case side6=>exact (Kd.R_reads' HO_14.out).2.1)
     rintro e w33 ⟨v473,v476,rfl,ho0,ho1,hb⟩
     refine ⟨_,rfl,?_⟩
     have HO474:=Am (Kd.R_lower (Kd.R_new' ho0 (Kd.R_lt (RU HO_14.out))) (below_size TB))
     replace HO_14:=Am (Kd.R_elder' (RU HO_14.out) (Kd.R_base ho0) hb)
     have HO477:=Am (Kd.R_lower ho1 (below_size TB))
     replace BK468:=Am (blk_below (blkU BK468.out) hb)
     replace HB:=Am (below_step TB hb)
     (try clear hb)
     (try clear hb2)
     (try clear hk)
     (try clear hi)
     (try clear ho0)
     (try clear ho1)
     obtain ⟨Ao34,co34,eo34⟩:=Kd.R_slice HO474.out
     (first|subst eo34|(injection eo34 with f1_ f2_ f3_;have f4_:=f1_.symm;have f5_:=f3_.symm;clear f1_ f2_ f3_;subst f4_;subst f5_))
     obtain ⟨Ao35,co35,eo35⟩:=Kd.R_slice HO477.out
     (first|subst eo35|(injection eo35 with f1_ f2_ f3_;have f4_:=f1_.symm;have f5_:=f3_.symm;clear f1_ f2_ f3_;subst f4_;subst f5_))
     refine hK.out _ _ ⟨(blk_cell BK468.out 0).trans rfl,(blk_cell BK468.out 1).trans rfl,(blk_cell BK468.out 2).trans rfl,(blk_cell BK468.out 3).trans rfl,(blk_cell BK468.out 4).trans rfl⟩ (fun hHeld=>?_)
     clear hK K
     refine norm_ (a':=?_) ?_ ?_
     rotate_left
     ·
      show Act.put _ (some 75) _=_
      simp only [PT]
      rfl
     refine one_ (i:=9) (N:=some 79) (bl 15 4095) rfl rfl (one_of HT_.out TK) (by decide) (fun K hK=>?_)
     refine goes_ Try.func23 TK rfl #[.agg #[.slice Ao34 t472.length co34,.slice Ao35 t475.length co35],.int .i64 a2_4,.int .i64 a3] (by rfl) rfl rfl TM ?_
     with_reducible refine (q19_Text.calls kj16 _ _ t472 _ _ t475 a2_4 a3 t478 _ ?side1 ?side2 ?side3 ?side4 A29.out).mono ?_
     (case side1=>exact CU ((Kd.R_reads' HO474.out).2.2))
     (case side2=>exact (Kd.R_reads' HO474.out).2.1)
     (case side3=>exact CU ((Kd.R_reads' HO477.out).2.2))
     (case side4=>exact (Kd.R_reads' HO477.out).2.1)
     rintro e w36 ⟨v479,rfl,ho0,hb⟩
     refine ⟨_,rfl,?_⟩
     replace HO_14:=Am (Kd.R_below (RU HO_14.out) hb)
     replace HO474:=Am (Kd.R_below (RU HO474.out) hb)
     replace HO477:=Am (Kd.R_below (RU HO477.out) hb)
     have HO480:=Am (Kd.R_lower ho0 (below_size TB))
     replace BK468:=Am (blk_below (blkU BK468.out) hb)
     replace HB:=Am (below_step TB hb)
     (try clear hb)
     (try clear hb2)
     (try clear hk)
     (try clear hi)
     (try clear ho0)
     obtain ⟨Ao37,co37,eo37⟩:=Kd.R_slice HO480.out
     (first|subst eo37|(injection eo37 with f1_ f2_ f3_;have f4_:=f1_.symm;have f5_:=f3_.symm;clear f1_ f2_ f3_;subst f4_;subst f5_))
     refine hK.out _ _ ⟨(blk_cell BK468.out 0).trans rfl,(blk_cell BK468.out 1).trans rfl,(blk_cell BK468.out 2).trans rfl,(blk_cell BK468.out 3).trans rfl,(blk_cell BK468.out 4).trans rfl⟩ (fun hHeld=>?_)
     clear hK K
     refine norm_ (a':=?_) ?_ ?_
     rotate_left
     ·
      show Act.put _ (some 79) _=_
      simp only [PT]
      rfl
     refine one_ (i:=12) (N:=some 82) (bl 15 8191) rfl rfl (one_of HT_.out TK) (by decide) (fun K hK=>?_)
     refine goes_ Try.func22 TK rfl #[.slice Ao37 t478.length co37,.int .i64 a4,.int .i64 a5] (by rfl) rfl rfl TM ?_
     with_reducible refine (q19_Pad.calls kj16 (fun k_=>some k_=(.slice Ao37 t478.length co37:Value).ownBlock) _ _ t478 a4 a5 t481 _ ?side1 A30.out).mono ?_
     (case side1=>exact Kd.R_V (Kd.R_tight rfl (Kd.R_types (Kd.R_apart' (Kd.R_apart' (Kd.R_apart' (HO480.out) (Kd.R_typed HO_14.out) (by decide)) (Kd.R_typed HO474.out) (by decide)) (Kd.R_typed HO477.out) (by decide)) BK468.out (by decide))))
     rintro e w38 ⟨v482,rfl,ho0,hb⟩
     refine ⟨_,rfl,?_⟩
     replace HO_14:=Am (Kd.R_below (RU HO_14.out) hb)
     replace HO474:=Am (Kd.R_below (RU HO474.out) hb)
     replace HO477:=Am (Kd.R_below (RU HO477.out) hb)
     have HO483:=Am (Kd.R_lower (Kd.R_new' (Kd.R_mono (ok':=fun k_=>True) ho0 (fun _ hk_=>trivial)) (Kd.R_lt (RU HO480.out))) (below_size TB))
     replace HO480:=Am (Kd.R_elder' (RU HO480.out) (Kd.R_base ho0) hb)
     replace BK468:=Am (blk_below (blkU BK468.out) hb)
     replace HB:=Am (below_step TB hb)
     (try clear hb)
     (try clear hb2)
     (try clear hk)
     (try clear hi)
     (try clear ho0)
     refine hK.out _ _ ⟨(blk_cell BK468.out 0).trans rfl,(blk_cell BK468.out 1).trans rfl,(blk_cell BK468.out 2).trans rfl,(blk_cell BK468.out 3).trans rfl,(blk_cell BK468.out 4).trans rfl⟩ (fun hHeld=>?_)
     clear hK K
     refine norm_ (a':=?_) ?_ ?_
     rotate_left
     ·
      show Act.put _ (some 82) _=_
      simp only [PT]
      rfl
     refine pureS (i:=13) (N:=some 12) (bl 15 16383) rfl rfl (any_of HT_.out TK) ?_
     refine pureS (i:=14) (N:=some 13) (bl 15 32767) rfl rfl (any_of HT_.out TK) ?_
     refine done_ (done_of HT_.out TK) ?_
     try go_wp2
     go_ret2
     exact ⟨_,TE,RU (Kd.R_mono HO483.out (fun _ hk=>trivial)),TB⟩
def q19_Same.l0:Nat→List (S42)→List (S42)→Int→Option (Bool)
 | 0,_,_,_=>none
 | k+1,x0,x1,x5=>if x5 < (x0.length:Int) then (if 0≤x5 then (if x5 < (x1.length:Int) then (if (!(((rd_T42 x0 x5).f0)==((rd_T42 x1 x5).f0)) || (!(((rd_T42 x0 x5).f1)==((rd_T42 x1 x5).f1)) || (!(((rd_T42 x0 x5).f2)==((rd_T42 x1 x5).f2)) || (!(((rd_T42 x0 x5).f3)==((rd_T42 x1 x5).f3)) || (!(((rd_T42 x0 x5).f4)==((rd_T42 x1 x5).f4)) || (!(((rd_T42 x0 x5).f5)==((rd_T42 x1 x5).f5))))))))=true then (some false) else (q19_Same.l0 k x0 x1 (wrap64 (x5+1)))) else (none)) else (none)) else (some true)
def q19_Same.f (k:Nat) (l0:List (S42)) (l1:List (S42)):Option (Bool):=if (l0.length:Int)=(l1.length:Int) then (q19_Same.l0 k l0 l1 0) else (some false)
theorem q19_Same.mono_l: ∀ k,(∀ y0 y1 y2,LeO (q19_Same.l0 k y0 y1 y2) (q19_Same.l0 (k+1) y0 y1 y2))
 | 0=>fun _ _ _ r h=>by simp [q19_Same.l0] at h
 | k+1=>by
  have ih0:=q19_Same.mono_l k
  ·
   intros
   unfold q19_Same.l0
   exact TL
theorem q19_Same.mono: ∀ a0 a1 k,LeO (q19_Same.f k a0 a1) (q19_Same.f (k+1) a0 a1):=by
 intro a0 a1 k
 have ih0:=q19_Same.mono_l k
 unfold q19_Same.f
 repeat' first
   | (with_reducible exact ih0 _ _ _)
   | (with_reducible exact LeO.refl _)
   | (with_reducible exact LeO.none _)
   | (with_reducible refine LeO.ite ?_ ?_)
   | (with_reducible refine LeO.bind ?_ (fun _=>?_))
set_option maxHeartbeats 8000000 in
theorem q19_Same.calls (k:Nat) (A0:Option Addr) (c0:Nat) (l0:List (S42)) (A1:Option Addr) (c1:Nat) (l1:List (S42)) (r:Bool) (w:World) (hr0:Kd.C k42 w A0 l0.length l0) (hc0:l0.length≤c0) (hr1:Kd.C k42 w A1 l1.length l1) (hc1:l1.length≤c1) (h:q19_Same.f k l0 l1=some r) :
  Calls Try.prog 10 #[.slice A0 l0.length c0,.slice A1 l1.length c1] w fun e w'=>e= .returned (.bool r)∧Drawn0 w w':=by
 have hu42:=Try.underlying42
 have HR0:=Am hr0
 have HC0:=Am hc0
 clear hr0 hc0
 have HR1:=Am hr1
 have HC1:=Am hc1
 clear hr1 hc1
 have H:(if (l0.length:Int)=(l1.length:Int) then (q19_Same.l0 k l0 l1 0) else (some false))=some r:=h
 clear h
 by_cases c3:(l0.length:Int)=(l1.length:Int)
 rotate_left
 ·
  rw [if_neg c3] at H
  have c3b0:((l0.length:Int)==(l1.length:Int))=false:=beq_eq_false_iff_ne.mpr c3
  have c3b1:((l0.length:Int) !=(l1.length:Int))=true:=bne_iff_ne.mpr c3
  have c3b2:(l0.length==l1.length)=false:=by first|simpa using c3|(simp at c3 ⊢;omega)
  obtain rfl:=Option.some.inj H
  go_enter Try.func10,Try.ntmps10
  go_wp2
  repeat (go_quiet (fail);try go_wp2)
  go_ret
  exact ⟨by first|rfl|(simp;done)|(simp [*];done),by repeat (first|exact Drawn0.refl _|apply Drawn0.step)⟩
 rw [if_pos c3] at H
 have c3b0:((l0.length:Int)==(l1.length:Int))=true:=beq_iff_eq.mpr c3
 have c3b1:((l0.length:Int) !=(l1.length:Int))=false:=bne_eq_false_iff_eq.mpr c3
 have c3b2:(l0.length==l1.length)=true:=by first|simpa using c3|(simp at c3 ⊢;omega)
 clear c3
 have H':=Am H
 clear H
 go_enter Try.func10,Try.ntmps10
 go_wp2
 repeat (go_quiet (fail);try go_wp2)
 go_loopg [5] k (fun kq v5 w'=> ∃ (x5_1:Int),v5= .int .i64 x5_1∧Aside0 (q19_Same.l0 kq l0 l1 x5_1=some r)∧Aside0 (kq≤k)∧Drawn0 w w')
 case atStart=>exact ⟨(0),TS,H',⟨Nat.le_refl _⟩,by repeat (first|exact Drawn0.refl _|apply Drawn0.step)⟩
 case round =>
  clear H'
  obtain ⟨x5_1,rfl,HA,HK1,⟨m1,rfl⟩⟩:=hrel
  cases gk with
  | zero=>exact absurd HA.out (by simp [q19_Same.l0])
  | succ k1 =>
   have H:=HA.out
   clear HA
   simp only [q19_Same.l0] at H
   by_cases c4:x5_1 < (l0.length:Int)
   rotate_left
   ·
    rw [if_neg c4] at H
    have c4b0:decide (x5_1 < (l0.length:Int))=false:=decide_eq_false c4
    clear c4
    obtain rfl:=Option.some.inj H
    go_wp2
    repeat (go_quiet (fail);try go_wp2)
    go_ret
    exact ⟨by first|rfl|(simp;done)|(simp [*];done),by repeat (first|exact Drawn0.refl _|apply Drawn0.step)⟩
   rw [if_pos c4] at H
   have c4b0:decide (x5_1 < (l0.length:Int))=true:=decide_eq_true c4
   clear c4
   obtain ⟨c5,H⟩:=ifS H
   have c5b0:decide (0≤x5_1)=true:=decide_eq_true c5
   clear c5
   obtain ⟨c6,H⟩:=ifS H
   have c6b0:decide (x5_1 < (l1.length:Int))=true:=decide_eq_true c6
   clear c6
   by_cases c7:(!(((rd_T42 l0 x5_1).f0)==((rd_T42 l1 x5_1).f0)) || (!(((rd_T42 l0 x5_1).f1)==((rd_T42 l1 x5_1).f1)) || (!(((rd_T42 l0 x5_1).f2)==((rd_T42 l1 x5_1).f2)) || (!(((rd_T42 l0 x5_1).f3)==((rd_T42 l1 x5_1).f3)) || (!(((rd_T42 l0 x5_1).f4)==((rd_T42 l1 x5_1).f4)) || (!(((rd_T42 l0 x5_1).f5)==((rd_T42 l1 x5_1).f5))))))))=true
   ·
    rw [if_pos c7] at H
    have c7b0:(!(((rd_T42 l0 x5_1).f0)==((rd_T42 l1 x5_1).f0)) || (!(((rd_T42 l0 x5_1).f1)==((rd_T42 l1 x5_1).f1)) || (!(((rd_T42 l0 x5_1).f2)==((rd_T42 l1 x5_1).f2)) || (!(((rd_T42 l0 x5_1).f3)==((rd_T42 l1 x5_1).f3)) || (!(((rd_T42 l0 x5_1).f4)==((rd_T42 l1 x5_1).f4)) || (!(((rd_T42 l0 x5_1).f5)==((rd_T42 l1 x5_1).f5))))))))=true:=c7
    clear c7
    obtain rfl:=Option.some.inj H
    have p484:0≤(x5_1:Int):=tD
    have q484:x5_1 < (l0.length:Int):=tD
    obtain ⟨ad484,e484,hx484_0,hx484_1,hx484_2,hx484_3,hx484_4,hx484_5⟩:=at_T42 HR0.out x5_1 p484 q484
    cases e484
    replace p484:=eq_true p484
    replace q484:=eq_true q484
    have p485:0≤(x5_1:Int):=tD
    have q485:x5_1 < (l1.length:Int):=tD
    obtain ⟨ad485,e485,hx485_0,hx485_1,hx485_2,hx485_3,hx485_4,hx485_5⟩:=at_T42 HR1.out x5_1 p485 q485
    cases e485
    replace p485:=eq_true p485
    replace q485:=eq_true q485
    go_wp2
    repeat (go_quiet (fail);try go_wp2)
    go_ret
    exact ⟨by first|rfl|(simp;done)|(simp [*];done),by repeat (first|exact Drawn0.refl _|apply Drawn0.step)⟩
   rw [if_neg c7] at H
   have c7b0:(!(((rd_T42 l0 x5_1).f0)==((rd_T42 l1 x5_1).f0)) || (!(((rd_T42 l0 x5_1).f1)==((rd_T42 l1 x5_1).f1)) || (!(((rd_T42 l0 x5_1).f2)==((rd_T42 l1 x5_1).f2)) || (!(((rd_T42 l0 x5_1).f3)==((rd_T42 l1 x5_1).f3)) || (!(((rd_T42 l0 x5_1).f4)==((rd_T42 l1 x5_1).f4)) || (!(((rd_T42 l0 x5_1).f5)==((rd_T42 l1 x5_1).f5))))))))=false:=by simpa using c7
   clear c7
   have H':=Am H
   clear H
   have p484:0≤(x5_1:Int):=tD
   have q484:x5_1 < (l0.length:Int):=tD
   obtain ⟨ad484,e484,hx484_0,hx484_1,hx484_2,hx484_3,hx484_4,hx484_5⟩:=at_T42 HR0.out x5_1 p484 q484
   cases e484
   replace p484:=eq_true p484
   replace q484:=eq_true q484
   have p485:0≤(x5_1:Int):=tD
   have q485:x5_1 < (l1.length:Int):=tD
   obtain ⟨ad485,e485,hx485_0,hx485_1,hx485_2,hx485_3,hx485_4,hx485_5⟩:=at_T42 HR1.out x5_1 p485 q485
   cases e485
   replace p485:=eq_true p485
   replace q485:=eq_true q485
   go_wp2
   repeat (go_quiet (fail);try go_wp2)
   go_roundg k1
   case measure=>have:=HK1.out;omega
   case rel=>exact ⟨(wrap64 (x5_1+1)),TS,H',⟨by have:=HK1.out;omega⟩,by repeat (first|exact Drawn0.refl _|apply Drawn0.step)⟩
def q01_Same.l0:Nat→List (S36)→List (S36)→Int→Option (Bool)
 | 0,_,_,_=>none
 | k+1,x0,x1,x5=>if x5 < (x0.length:Int) then (if 0≤x5 then (if x5 < (x1.length:Int) then (if (!(((rd_T36 x0 x5).f0)==((rd_T36 x1 x5).f0)) || (!(((rd_T36 x0 x5).f1)==((rd_T36 x1 x5).f1)) || (!(((rd_T36 x0 x5).f2)==((rd_T36 x1 x5).f2)))))=true then (some false) else (q01_Same.l0 k x0 x1 (wrap64 (x5+1)))) else (none)) else (none)) else (some true)
def q01_Same.f (k:Nat) (l0:List (S36)) (l1:List (S36)):Option (Bool):=if (l0.length:Int)=(l1.length:Int) then (q01_Same.l0 k l0 l1 0) else (some false)
theorem q01_Same.mono_l: ∀ k,(∀ y0 y1 y2,LeO (q01_Same.l0 k y0 y1 y2) (q01_Same.l0 (k+1) y0 y1 y2))
 | 0=>fun _ _ _ r h=>by simp [q01_Same.l0] at h
 | k+1=>by
  have ih0:=q01_Same.mono_l k
  ·
   intros
   unfold q01_Same.l0
   exact TL
theorem q01_Same.mono: ∀ a0 a1 k,LeO (q01_Same.f k a0 a1) (q01_Same.f (k+1) a0 a1):=by
 intro a0 a1 k
 have ih0:=q01_Same.mono_l k
 unfold q01_Same.f
 repeat' first
   | (with_reducible exact ih0 _ _ _)
   | (with_reducible exact LeO.refl _)
   | (with_reducible exact LeO.none _)
   | (with_reducible refine LeO.ite ?_ ?_)
   | (with_reducible refine LeO.bind ?_ (fun _=>?_))
set_option maxHeartbeats 8000000 in
theorem q01_Same.calls (k:Nat) (A0:Option Addr) (c0:Nat) (l0:List (S36)) (A1:Option Addr) (c1:Nat) (l1:List (S36)) (r:Bool) (w:World) (hr0:Kd.C k36 w A0 l0.length l0) (hc0:l0.length≤c0) (hr1:Kd.C k36 w A1 l1.length l1) (hc1:l1.length≤c1) (h:q01_Same.f k l0 l1=some r) :
  Calls Try.prog 11 #[.slice A0 l0.length c0,.slice A1 l1.length c1] w fun e w'=>e= .returned (.bool r)∧Drawn0 w w':=by
 have hu36:=Try.underlying36
 have HR0:=Am hr0
 have HC0:=Am hc0
 clear hr0 hc0
 have HR1:=Am hr1
 have HC1:=Am hc1
 clear hr1 hc1
 have H:(if (l0.length:Int)=(l1.length:Int) then (q01_Same.l0 k l0 l1 0) else (some false))=some r:=h
 clear h
 by_cases c3:(l0.length:Int)=(l1.length:Int)
 rotate_left
 ·
  rw [if_neg c3] at H
  have c3b0:((l0.length:Int)==(l1.length:Int))=false:=beq_eq_false_iff_ne.mpr c3
  have c3b1:((l0.length:Int) !=(l1.length:Int))=true:=bne_iff_ne.mpr c3
  have c3b2:(l0.length==l1.length)=false:=by first|simpa using c3|(simp at c3 ⊢;omega)
  obtain rfl:=Option.some.inj H
  go_enter Try.func11,Try.ntmps11
  go_wp2
  repeat (go_quiet (fail);try go_wp2)
  go_ret
  exact ⟨by first|rfl|(simp;done)|(simp [*];done),by repeat (first|exact Drawn0.refl _|apply Drawn0.step)⟩
 rw [if_pos c3] at H
 have c3b0:((l0.length:Int)==(l1.length:Int))=true:=beq_iff_eq.mpr c3
 have c3b1:((l0.length:Int) !=(l1.length:Int))=false:=bne_eq_false_iff_eq.mpr c3
 have c3b2:(l0.length==l1.length)=true:=by first|simpa using c3|(simp at c3 ⊢;omega)
 clear c3
 have H':=Am H
 clear H
 go_enter Try.func11,Try.ntmps11
 go_wp2
 repeat (go_quiet (fail);try go_wp2)
 go_loopg [5] k (fun kq v5 w'=> ∃ (x5_1:Int),v5= .int .i64 x5_1∧Aside0 (q01_Same.l0 kq l0 l1 x5_1=some r)∧Aside0 (kq≤k)∧Drawn0 w w')
 case atStart=>exact ⟨(0),TS,H',⟨Nat.le_refl _⟩,by repeat (first|exact Drawn0.refl _|apply Drawn0.step)⟩
 case round =>
  clear H'
  obtain ⟨x5_1,rfl,HA,HK1,⟨m1,rfl⟩⟩:=hrel
  cases gk with
  | zero=>exact absurd HA.out (by simp [q01_Same.l0])
  | succ k1 =>
   have H:=HA.out
   clear HA
   simp only [q01_Same.l0] at H
   by_cases c4:x5_1 < (l0.length:Int)
   rotate_left
   ·
    rw [if_neg c4] at H
    have c4b0:decide (x5_1 < (l0.length:Int))=false:=decide_eq_false c4
    clear c4
    obtain rfl:=Option.some.inj H
    go_wp2
    repeat (go_quiet (fail);try go_wp2)
    go_ret
    exact ⟨by first|rfl|(simp;done)|(simp [*];done),by repeat (first|exact Drawn0.refl _|apply Drawn0.step)⟩
   rw [if_pos c4] at H
   have c4b0:decide (x5_1 < (l0.length:Int))=true:=decide_eq_true c4
   clear c4
   obtain ⟨c5,H⟩:=ifS H
   have c5b0:decide (0≤x5_1)=true:=decide_eq_true c5
   clear c5
   obtain ⟨c6,H⟩:=ifS H
   have c6b0:decide (x5_1 < (l1.length:Int))=true:=decide_eq_true c6
   clear c6
   by_cases c7:(!(((rd_T36 l0 x5_1).f0)==((rd_T36 l1 x5_1).f0)) || (!(((rd_T36 l0 x5_1).f1)==((rd_T36 l1 x5_1).f1)) || (!(((rd_T36 l0 x5_1).f2)==((rd_T36 l1 x5_1).f2)))))=true
   ·
    rw [if_pos c7] at H
    have c7b0:(!(((rd_T36 l0 x5_1).f0)==((rd_T36 l1 x5_1).f0)) || (!(((rd_T36 l0 x5_1).f1)==((rd_T36 l1 x5_1).f1)) || (!(((rd_T36 l0 x5_1).f2)==((rd_T36 l1 x5_1).f2)))))=true:=c7
    clear c7
    obtain rfl:=Option.some.inj H
    have p486:0≤(x5_1:Int):=tD
    have q486:x5_1 < (l0.length:Int):=tD
    obtain ⟨ad486,e486,hx486_0,hx486_1,hx486_2⟩:=at_T36 HR0.out x5_1 p486 q486
    cases e486
    replace p486:=eq_true p486
    replace q486:=eq_true q486
    have p487:0≤(x5_1:Int):=tD
    have q487:x5_1 < (l1.length:Int):=tD
    obtain ⟨ad487,e487,hx487_0,hx487_1,hx487_2⟩:=at_T36 HR1.out x5_1 p487 q487
    cases e487
    replace p487:=eq_true p487
    replace q487:=eq_true q487
    go_wp2
    repeat (go_quiet (fail);try go_wp2)
    go_ret
    exact ⟨by first|rfl|(simp;done)|(simp [*];done),by repeat (first|exact Drawn0.refl _|apply Drawn0.step)⟩
   rw [if_neg c7] at H
   have c7b0:(!(((rd_T36 l0 x5_1).f0)==((rd_T36 l1 x5_1).f0)) || (!(((rd_T36 l0 x5_1).f1)==((rd_T36 l1 x5_1).f1)) || (!(((rd_T36 l0 x5_1).f2)==((rd_T36 l1 x5_1).f2)))))=false:=by simpa using c7
   clear c7
   have H':=Am H
   clear H
   have p486:0≤(x5_1:Int):=tD
   have q486:x5_1 < (l0.length:Int):=tD
   obtain ⟨ad486,e486,hx486_0,hx486_1,hx486_2⟩:=at_T36 HR0.out x5_1 p486 q486
   cases e486
   replace p486:=eq_true p486
   replace q486:=eq_true q486
   have p487:0≤(x5_1:Int):=tD
   have q487:x5_1 < (l1.length:Int):=tD
   obtain ⟨ad487,e487,hx487_0,hx487_1,hx487_2⟩:=at_T36 HR1.out x5_1 p487 q487
   cases e487
   replace p487:=eq_true p487
   replace q487:=eq_true q487
   go_wp2
   repeat (go_quiet (fail);try go_wp2)
   go_roundg k1
   case measure=>have:=HK1.out;omega
   case rel=>exact ⟨(wrap64 (x5_1+1)),TS,H',⟨by have:=HK1.out;omega⟩,by repeat (first|exact Drawn0.refl _|apply Drawn0.step)⟩
end Go.Proofs.Yteoaegigjlhamaa.PC19
