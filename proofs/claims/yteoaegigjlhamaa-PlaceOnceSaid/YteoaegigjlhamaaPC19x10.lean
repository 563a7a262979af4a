/- For the laws of the group C19: the Lean functions that the Go functions compute, and proofs that they do. Written by wip/hprint.py of this repo over the kit's printer; nothing here is trusted: Lean checks it. -/
import Derived.Test.YteoaegigjlhamaaPC19x0
namespace Go.Proofs.Yteoaegigjlhamaa.PC19
open Go.RowKit Go.Proofs.YteoaegigjlhamaaW.PrintWords Go.Proofs.YteoaegigjlhamaaW.PrintLast Go.Proofs.YteoaegigjlhamaaW.PrintMore
attribute [local go_sem] max2_int min2_int max_two min_two max_three min_three max_four min_four
set_option linter.unusedVariables false
set_option linter.unusedSimpArgs false
/-! ### place_laid_seen:function 32 -/
def place_laid_seen.l0:Nat→List (S40)→List Int→List (S40)→Int→Int→Int→Int→Int→Int→Int→List (S40)→List Int→Int→Option ((List (S40)) × List Int)
 | 0,_,_,_,_,_,_,_,_,_,_,_,_,_=>none
 | k+1,x2,x3,x14,x15,x16,x139000,x139001,x139002,x139003,x139004,x139005,x139006,x139007=>if x16 < x15 then (if 0≤x16 then (if x16 < (x14.length:Int) then (if ((rd_T40 x14 x16).f4) > 0 then ((some (([(⟨(rd_T40 x14 x16).f0,(rd_T40 x14 x16).f1,(rd_T40 x14 x16).f2,(rd_T40 x14 x16).f3,(rd_T40 x14 x16).f4,(rd_T40 x14 x16).f5⟩:S40)]:List (S40)):List (S40))).bind fun y145=>(if x2.length+y145.length < 2932031007402 then (if 0≤(wrap64 (((rd_T40 x14 x16).f2) - x139007)) then (if (wrap64 (((rd_T40 x14 x16).f2) - x139007)) < (x139006.length:Int) then ((some (([rd x139006 (wrap64 (((rd_T40 x14 x16).f2) - x139007))]:List Int):List Int)).bind fun y152=>(if x3.length+y152.length < 17592186044416 then (place_laid_seen.l0 k (x2++y145) (x3++y152) x14 x15 (wrap64 (x16+1)) x139000 x139001 x139002 x139003 x139004 x139005 x139006 x139007) else (none))) else (none)) else (none)) else (none))) else (place_laid_seen.l0 k x2 x3 x14 x15 (wrap64 (x16+1)) x139000 x139001 x139002 x139003 x139004 x139005 x139006 x139007)) else (none)) else (none)) else (some (x2,x3))
def place_laid_seen.f (k:Nat) (a0_0:Int) (a0_1:Int) (a0_2:Int) (a0_3:Int) (a0_4:Int) (l0_5:List (S40)) (l0_6:List Int) (a0_7:Int):Option ((List (S40)) × List Int):=if 0≤a0_0 then (if a0_0≤a0_2 then (if a0_2≤(l0_5.length:Int) then ((some ((l0_5.take (a0_2:Int).toNat).drop (a0_0:Int).toNat:List (S40))).bind fun y139=>(place_laid_seen.l0 k ([]:List (S40)) ([]:List Int) y139 (y139.length:Int) 0 a0_0 a0_1 a0_2 a0_3 a0_4 l0_5 l0_6 a0_7)) else (none)) else (none)) else (none)
theorem place_laid_seen.mono_l: ∀ k,(∀ y0 y1 y2 y3 y4 y5 y6 y7 y8 y9 y10 y11 y12,LeO (place_laid_seen.l0 k y0 y1 y2 y3 y4 y5 y6 y7 y8 y9 y10 y11 y12) (place_laid_seen.l0 (k+1) y0 y1 y2 y3 y4 y5 y6 y7 y8 y9 y10 y11 y12))
 | 0=>fun _ _ _ _ _ _ _ _ _ _ _ _ _ r h=>by simp [place_laid_seen.l0] at h
 | k+1=>by
  have ih0:=place_laid_seen.mono_l k
  ·
   intro y0 y1 y2 y3 y4 y5 y6 y7 y8 y9 y10 y11 y12
   unfold place_laid_seen.l0
   repeat' first
   | (with_reducible exact ih0 _ _ _ _ _ _ _ _ _ _ _ _ _)
   | (with_reducible exact LeO.refl _)
   | (with_reducible exact LeO.none _)
   | (with_reducible refine LeO.ite ?_ ?_)
   | (with_reducible refine LeO.bind ?_ (fun _=>?_))
   | exact ih0 _ _ _ _ _ _ _ _ _ _ _ _ _
   | exact LeO.none _
   | refine LeO.ite ?_ ?_
   | refine LeO.bind ?_ (fun _=>?_)
theorem place_laid_seen.mono: ∀ a0 a1 a2 a3 a4 a5 a6 a7 k,LeO (place_laid_seen.f k a0 a1 a2 a3 a4 a5 a6 a7) (place_laid_seen.f (k+1) a0 a1 a2 a3 a4 a5 a6 a7):=by
 intro a0 a1 a2 a3 a4 a5 a6 a7 k
 have ih0:=place_laid_seen.mono_l k
 unfold place_laid_seen.f
 repeat' first
   | (with_reducible exact ih0 _ _ _ _ _ _ _ _ _ _ _ _ _)
   | (with_reducible exact LeO.refl _)
   | (with_reducible exact LeO.none _)
   | (with_reducible refine LeO.ite ?_ ?_)
   | (with_reducible refine LeO.bind ?_ (fun _=>?_))
   | exact ih0 _ _ _ _ _ _ _ _ _ _ _ _ _
   | exact LeO.none _
   | refine LeO.ite ?_ ?_
   | refine LeO.bind ?_ (fun _=>?_)
def place_laid_seen.T5:Bool × List (List Nat × List Nat):=(true,[([],[]),([],[]),([1],[1]),([0,2],[0,2]),([],[]),([],[]),([5],[5]),([],[]),([7],[7]),([],[]),([9],[9]),([8,10],[8,10]),([6,11],[6,11]),([12],[12]),([13],[13]),([4,14,3],[4,14]),([3,15,0,1,2,3],[0,3]),([15,16,0,1,2,3,4,5,6,7,8,9,10,11,12,13,14,15,16],[4,15])])
def place_laid_seen.B5:List Nat:=[0,0,2,7,0,0,32,0,128,0,512,1920,4064,8160,16352,32767,65535,131071]
theorem place_laid_seen.tab5:rtab .any (opsOf Try.f32 5)=place_laid_seen.T5:=by kernel_rfl
theorem place_laid_seen.bits5:waitsOk place_laid_seen.T5.2 place_laid_seen.B5=true:=by kernel_rfl
set_option maxHeartbeats 8000000 in
set_option maxRecDepth 100000 in
theorem place_laid_seen.calls (k:Nat) (a0_0:Int) (a0_1:Int) (a0_2:Int) (a0_3:Int) (a0_4:Int) (A0_5:Option Addr) (c0_5:Nat) (l0_5:List (S40)) (A0_6:Option Addr) (c0_6:Nat) (l0_6:List Int) (a0_7:Int) (r1:List (S40)) (r2:List Int) (w:World) (hr0_5:Kd.C k40 w A0_5 l0_5.length l0_5) (hc0_5:l0_5.length≤c0_5) (hr0_6:Kd.C (Kd.int .i64) w A0_6 l0_6.length l0_6) (hc0_6:l0_6.length≤c0_6) (h:place_laid_seen.f k a0_0 a0_1 a0_2 a0_3 a0_4 l0_5 l0_6 a0_7=some (r1,r2)) :
  Calls Try.prog 32 #[.agg #[.int .i64 a0_0,.int .i64 a0_1,.int .i64 a0_2,.int .i64 a0_3,.int .i64 a0_4,.slice A0_5 l0_5.length c0_5,.slice A0_6 l0_6.length c0_6,.int .i64 a0_7]] w fun e w'=> ∃ v0_ v1_:Value,e= .returned (.tuple #[v0_,v1_])∧Kd.R k40 40 w' w.heap.size (fun _=>True) v0_ r1∧Kd.R (Kd.int .i64) 3 w' w.heap.size (fun _=>True) v1_ r2∧Below w.heap.size w w':=by
 have hu50:=Try.underlying50
 have hu40:=Try.underlying40
 have HR0_5:=Aside0.mk hr0_5
 have HC0_5:=Aside0.mk hc0_5
 clear hr0_5 hc0_5
 have HR0_6:=Aside0.mk hr0_6
 have HC0_6:=Aside0.mk hc0_6
 clear hr0_6 hc0_6
 have HB:=Aside0.mk (Below.refl w.heap.size w)
 have H:(if 0≤a0_0 then (if a0_0≤a0_2 then (if a0_2≤(l0_5.length:Int) then ((some ((l0_5.take (a0_2:Int).toNat).drop (a0_0:Int).toNat:List (S40))).bind fun y139=>(place_laid_seen.l0 k ([]:List (S40)) ([]:List Int) y139 (y139.length:Int) 0 a0_0 a0_1 a0_2 a0_3 a0_4 l0_5 l0_6 a0_7)) else (none)) else (none)) else (none))=some (r1,r2):=h
 clear h
 by_cases c2:0≤a0_0
 ·
  rw [if_pos c2] at H
  have c2b0:=eq_true c2
  have c2b1:decide (0≤a0_0)=true:=decide_eq_true c2
  clear c2
  by_cases c3:a0_0≤a0_2
  ·
   rw [if_pos c3] at H
   have c3b0:=eq_true c3
   have c3b1:decide (a0_0≤a0_2)=true:=decide_eq_true c3
   clear c3
   by_cases c4:a0_2≤(l0_5.length:Int)
   ·
    rw [if_pos c4] at H
    have c4b0:=eq_true c4
    have c4b1:decide (a0_2≤(l0_5.length:Int))=true:=decide_eq_true c4
    clear c4
    obtain ⟨y139,hy139⟩: ∃ y_:List (S40),y_=((l0_5.take (a0_2:Int).toNat).drop (a0_0:Int).toNat):=⟨_,rfl⟩
    replace H:(place_laid_seen.l0 k ([]:List (S40)) ([]:List Int) y139 (y139.length:Int) 0 a0_0 a0_1 a0_2 a0_3 a0_4 l0_5 l0_6 a0_7)=some (r1,r2):=by first|(rw [hy139];with_reducible exact H)|(have H2_:=(Option.bind_some _ _).symm.trans H;rw [hy139];with_reducible exact H2_)|(have H2_:=(Option.bind_some _ _).symm.trans H;with_reducible exact H2_)|with_reducible exact H|(rw [hy139];exact H)|exact H
    have Ny139:=Aside0.mk hy139
    clear hy139
    have H':=Aside0.mk H
    clear H
    go_enter Try.func32,Try.ntmps32
    try dsimp only [List.append]
    go_wp2_with (first|((with_reducible refine gate_dst (N:=1) rfl ?_);refine box_event ?hg (N:=1) ?hd (cs:= #[.int .i64 a0_0,.int .i64 a0_1,.int .i64 a0_2,.int .i64 a0_3,.int .i64 a0_4,.slice A0_5 l0_5.length c0_5,.slice A0_6 l0_6.length c0_6,.int .i64 a0_7]) (t:=50) ?hr ?_;(case hd=>rfl);(case hg=>rfl);(case hr=>first|(go_simp;done)|(go_simp;rfl));intro gb138 hg w5 hbox hb;have n0_:=Aside0.mk (below_step (by repeat (first|(with_reducible first|exact HB.out|apply below_alloc|apply pw_below_drewN|apply below_drew1)|exact HB.out)) hb);have n1_:=Aside0.mk (hbox);have n2_:=Aside0.mk ((by rw [hg];exact (below_size (by repeat (first|(with_reducible first|exact HB.out|apply below_alloc|apply pw_below_drewN|apply below_drew1)|exact HB.out))):w.heap.size≤gb138));have n3_:=Aside0.mk ((by rw [hg];exact (below_size (by repeat (first|(with_reducible first|exact HB.out|apply below_alloc|apply pw_below_drewN|apply below_drew1)|exact HB.out))):w.heap.size≤gb138));clear HB;have HB:=n0_;have BK138:=n1_;have GW138:=n2_;have GE138:=n3_;clear n0_ n1_ n2_ n3_;clear hb hbox hg;have hcz6_0:w5.cell? ⟨gb138,0,none⟩=some (.int .i64 a0_0):=(blk_cell BK138.out 0).trans rfl;have hcz6_1:w5.cell? ⟨gb138,1,none⟩=some (.int .i64 a0_1):=(blk_cell BK138.out 1).trans rfl;have hcz6_2:w5.cell? ⟨gb138,2,none⟩=some (.int .i64 a0_2):=(blk_cell BK138.out 2).trans rfl;have hcz6_3:w5.cell? ⟨gb138,3,none⟩=some (.int .i64 a0_3):=(blk_cell BK138.out 3).trans rfl;have hcz6_4:w5.cell? ⟨gb138,4,none⟩=some (.int .i64 a0_4):=(blk_cell BK138.out 4).trans rfl;have hcz6_5:w5.cell? ⟨gb138,5,none⟩=some (.slice A0_5 l0_5.length c0_5):=(blk_cell BK138.out 5).trans rfl;have hcz6_6:w5.cell? ⟨gb138,6,none⟩=some (.slice A0_6 l0_6.length c0_6):=(blk_cell BK138.out 6).trans rfl;have hcz6_7:w5.cell? ⟨gb138,7,none⟩=some (.int .i64 a0_7):=(blk_cell BK138.out 7).trans rfl;have hfz6_0:=blk_frozen BK138.out 0;have hfz6_1:=blk_frozen BK138.out 1;have hfz6_2:=blk_frozen BK138.out 2;have hfz6_3:=blk_frozen BK138.out 3;have hfz6_4:=blk_frozen BK138.out 4;have hfz6_5:=blk_frozen BK138.out 5;have hfz6_6:=blk_frozen BK138.out 6;have hfz6_7:=blk_frozen BK138.out 7;have q7:(a0_2:Int)≤((l0_5.length:Int):Int):=of_decide_eq_true (by first|(with_reducible assumption)|assumption);obtain ⟨i07,hi07,_,hsz7,_⟩:=info_parts info40;have hroom7:l0_5.length≤c0_5:=HC0_5.out;have hC7:Kd.C k40 _ A0_5 l0_5.length l0_5:=HR0_5.out;have ql7:(a0_0:Int)≤(a0_2:Int):=of_decide_eq_true (by first|(with_reducible assumption)|assumption);have q07:(0:Int)≤(a0_0:Int):=of_decide_eq_true (by first|(with_reducible assumption)|assumption);have hcut7:=cut_mid (P:=Try.prog) 37 40 .i64 .i64 Try.underlying37 hi07 6 hsz7 A0_5 l0_5.length c0_5 a0_0 a0_2 q07 ql7 q7 hroom7;have hr7:=Kd.C_mid (lo:=(a0_0:Int).toNat) (hi:=(a0_2:Int).toNat) (c:=c0_5) hC7 (by omega) (by omega) hroom7;obtain ⟨A7,hA7⟩: ∃ A1,A1=(if c0_5=(a0_0:Int).toNat then A0_5 else (A0_5:Option Addr).map (·.add ((a0_0:Int).toNat * 6))):=⟨_,rfl⟩;obtain ⟨c7,hc7⟩: ∃ c1,c1=c0_5 - (a0_0:Int).toNat:=⟨_,rfl⟩;have hy7:y139.length=(a0_2:Int).toNat - (a0_0:Int).toNat:=(by rw [Ny139.out,List.length_drop,List.length_take] <;> omega);rw [show ((l0_5).take (a0_2:Int).toNat).drop (a0_0:Int).toNat=y139 from Ny139.out.symm] at hr7;replace hr7:Kd.C k40 _ A7 y139.length y139:=(by rw [hA7];exact hr7);rw [← hy7,← hA7,← hc7] at hcut7;have HR142:=Aside0.mk hr7;have HC142:=Aside0.mk (show y139.length≤c7 from by rw [hy7,hc7];exact Nat.sub_le_sub_right (Nat.le_trans (by omega) hroom7) _);clear hr7 hC7 hroom7 hi07 hsz7 hc7;have KY7:=Aside0.mk hy7;have KA7:=Aside0.mk hA7;clear hy7 hA7;replace q7:=eq_true q7))
    go_loopg [2,3,16] k (fun kq v2 v3 v16 w'=> ∃ (x2_1:List (S40)) (x3_1:List Int) (x16_1:Int),v16= .int .i64 x16_1∧Aside0 (place_laid_seen.l0 kq x2_1 x3_1 y139 (y139.length:Int) x16_1 a0_0 a0_1 a0_2 a0_3 a0_4 l0_5 l0_6 a0_7=some (r1,r2))∧Aside0 (kq≤k)∧Aside0 (Kd.R k40 40 w' w.heap.size (fun _=>True) v2 x2_1)∧Aside0 (Kd.R (Kd.int .i64) 3 w' w.heap.size (fun _=>True) v3 x3_1)∧Aside0 (w'.heap[gb138]?=some (.cells #[.int .i64 a0_0,.int .i64 a0_1,.int .i64 a0_2,.int .i64 a0_3,.int .i64 a0_4,(.slice A0_5 l0_5.length c0_5),(.slice A0_6 l0_6.length c0_6),.int .i64 a0_7] 50 (0,0)))∧Aside0 (Below w.heap.size w w'))
    case atStart=>exact ⟨(([]:List (S40))),(([]:List Int)),(0),(by first|rfl|(simp;done)|(simp [*];done)),H',⟨Nat.le_refl _⟩,⟨by first|exact Kd.R_nil _ _ _ _ _|exact Kd.N_nil _ _ _ _ _|exact Kd.V_nil _ _ _ _ _|exact Kd.Q_nil _ _ _ _ _|exact Kd.S_nil _ _ _ _ _⟩,⟨by first|exact Kd.R_nil _ _ _ _ _|exact Kd.N_nil _ _ _ _ _|exact Kd.V_nil _ _ _ _ _|exact Kd.Q_nil _ _ _ _ _|exact Kd.S_nil _ _ _ _ _⟩,⟨by (with_reducible repeat (first|refine blk_drewN ?_ _|refine blk_drew ?_|refine blk_alloc ?_ _));exact BK138.out⟩,⟨by repeat (first|(with_reducible first|exact HB.out|apply below_alloc|apply pw_below_drewN|apply below_drew1|refine below_set ?_ GE138.out)|exact HB.out)⟩⟩
    case round =>
     clear H'
     try clear c1
     try clear c2
     try clear c2b0
     try clear c2b1
     try clear p2
     try clear c3
     try clear c3b0
     try clear c3b1
     try clear c4
     try clear c4b0
     try clear c4b1
     try clear c7
     try clear q7
     try clear hcz6_0
     try clear hcz6_1
     try clear hcz6_2
     try clear hcz6_3
     try clear hcz6_4
     try clear hcz6_5
     try clear hcz6_6
     try clear hcz6_7
     try clear hfz6_0
     try clear hfz6_1
     try clear hfz6_2
     try clear hfz6_3
     try clear hfz6_4
     try clear hfz6_5
     try clear hfz6_6
     try clear hfz6_7
     try clear q07
     obtain ⟨x2_1,x3_1,x16_1,rfl,HA,HK1,HO_2,HO_3,BK138,HB⟩:=hrel
     cases gk with
     | zero=>exact absurd HA.out (by simp [place_laid_seen.l0])
     | succ k1 =>
      have H:=HA.out
      clear HA
      simp only [place_laid_seen.l0] at H
      by_cases c8:x16_1 < (y139.length:Int)
      ·
       rw [if_pos c8] at H
       have c8b0:decide (x16_1 < (y139.length:Int))=true:=decide_eq_true c8
       clear c8
       by_cases c9:0≤x16_1
       ·
        rw [if_pos c9] at H
        have c9b0:decide (0≤x16_1)=true:=decide_eq_true c9
        clear c9
        by_cases c10:x16_1 < (y139.length:Int)
        ·
         rw [if_pos c10] at H
         have c10b0:decide (x16_1 < (y139.length:Int))=true:=decide_eq_true c10
         clear c10
         by_cases c11:((rd_T40 y139 x16_1).f4) > 0
         ·
          rw [if_pos c11] at H
          have c11b0:decide (0 < ((rd_T40 y139 x16_1).f4))=true:=decide_eq_true c11
          clear c11
          obtain ⟨y145,hy145⟩: ∃ y_:List (S40),y_=(([(⟨(rd_T40 y139 x16_1).f0,(rd_T40 y139 x16_1).f1,(rd_T40 y139 x16_1).f2,(rd_T40 y139 x16_1).f3,(rd_T40 y139 x16_1).f4,(rd_T40 y139 x16_1).f5⟩:S40)]:List (S40))):=⟨_,rfl⟩
          replace H:(if x2_1.length+y145.length < 2932031007402 then (if 0≤(wrap64 (((rd_T40 y139 x16_1).f2) - a0_7)) then (if (wrap64 (((rd_T40 y139 x16_1).f2) - a0_7)) < (l0_6.length:Int) then ((some (([rd l0_6 (wrap64 (((rd_T40 y139 x16_1).f2) - a0_7))]:List Int):List Int)).bind fun y152=>(if x3_1.length+y152.length < 17592186044416 then (place_laid_seen.l0 k1 (x2_1++y145) (x3_1++y152) y139 (y139.length:Int) (wrap64 (x16_1+1)) a0_0 a0_1 a0_2 a0_3 a0_4 l0_5 l0_6 a0_7) else (none))) else (none)) else (none)) else (none))=some (r1,r2):=by first|(rw [hy145];with_reducible exact H)|(have H2_:=(Option.bind_some _ _).symm.trans H;rw [hy145];with_reducible exact H2_)|(have H2_:=(Option.bind_some _ _).symm.trans H;with_reducible exact H2_)|with_reducible exact H|(rw [hy145];exact H)|exact H
          have Ny145:=Aside0.mk hy145
          clear hy145
          by_cases c12:x2_1.length+y145.length < 2932031007402
          ·
           rw [if_pos c12] at H
           have LMc12:=Aside0.mk c12
           clear c12
           obtain ⟨y148,hy148⟩: ∃ y_:List (S40),y_=(x2_1++y145):=⟨_,rfl⟩
           replace H:(if 0≤(wrap64 (((rd_T40 y139 x16_1).f2) - a0_7)) then (if (wrap64 (((rd_T40 y139 x16_1).f2) - a0_7)) < (l0_6.length:Int) then ((some (([rd l0_6 (wrap64 (((rd_T40 y139 x16_1).f2) - a0_7))]:List Int):List Int)).bind fun y152=>(if x3_1.length+y152.length < 17592186044416 then (place_laid_seen.l0 k1 y148 (x3_1++y152) y139 (y139.length:Int) (wrap64 (x16_1+1)) a0_0 a0_1 a0_2 a0_3 a0_4 l0_5 l0_6 a0_7) else (none))) else (none)) else (none))=some (r1,r2):=by first|(rw [hy148];with_reducible exact H)|(have H2_:=(Option.bind_some _ _).symm.trans H;rw [hy148];with_reducible exact H2_)|(have H2_:=(Option.bind_some _ _).symm.trans H;with_reducible exact H2_)|with_reducible exact H|(rw [hy148];exact H)|exact H
           have Ny148:=Aside0.mk hy148
           clear hy148
           obtain ⟨ji13,hji13⟩: ∃ j_:Int,(wrap64 (((rd_T40 y139 x16_1).f2) - a0_7))=j_:=⟨_,rfl⟩
           replace H:(if 0≤(ji13) then (if (ji13) < (l0_6.length:Int) then ((some (([rd l0_6 (ji13)]:List Int):List Int)).bind fun y152=>(if x3_1.length+y152.length < 17592186044416 then (place_laid_seen.l0 k1 y148 (x3_1++y152) y139 (y139.length:Int) (wrap64 (x16_1+1)) a0_0 a0_1 a0_2 a0_3 a0_4 l0_5 l0_6 a0_7) else (none))) else (none)) else (none))=some (r1,r2):=by first|(rw [hji13] at H;exact H)|(simp only [hji13] at H ⊢;exact H)
           have hji13w:(IntKind.i64.wrap (((rd_T40 y139 x16_1).f2) - a0_7))=ji13:=(i64_w _).trans hji13
           by_cases c14:0≤(ji13)
           ·
            rw [if_pos c14] at H
            have c14b0:decide (0≤(ji13))=true:=decide_eq_true c14
            clear c14
            by_cases c15:(ji13) < (l0_6.length:Int)
            ·
             rw [if_pos c15] at H
             have c15b0:decide ((ji13) < (l0_6.length:Int))=true:=decide_eq_true c15
             clear c15
             obtain ⟨y152,hy152⟩: ∃ y_:List Int,y_=(([rd l0_6 (ji13)]:List Int)):=⟨_,rfl⟩
             replace H:(if x3_1.length+y152.length < 17592186044416 then (place_laid_seen.l0 k1 y148 (x3_1++y152) y139 (y139.length:Int) (wrap64 (x16_1+1)) a0_0 a0_1 a0_2 a0_3 a0_4 l0_5 l0_6 a0_7) else (none))=some (r1,r2):=by first|(rw [hy152];with_reducible exact H)|(have H2_:=(Option.bind_some _ _).symm.trans H;rw [hy152];with_reducible exact H2_)|(have H2_:=(Option.bind_some _ _).symm.trans H;with_reducible exact H2_)|with_reducible exact H|(rw [hy152];exact H)|exact H
             have Ny152:=Aside0.mk hy152
             clear hy152
             by_cases c16:x3_1.length+y152.length < 17592186044416
             ·
              rw [if_pos c16] at H
              have LMc16:=Aside0.mk c16
              clear c16
              obtain ⟨y155,hy155⟩: ∃ y_:List Int,y_=(x3_1++y152):=⟨_,rfl⟩
              replace H:(place_laid_seen.l0 k1 y148 y155 y139 (y139.length:Int) (wrap64 (x16_1+1)) a0_0 a0_1 a0_2 a0_3 a0_4 l0_5 l0_6 a0_7)=some (r1,r2):=by first|(rw [hy155];with_reducible exact H)|(have H2_:=(Option.bind_some _ _).symm.trans H;rw [hy155];with_reducible exact H2_)|(have H2_:=(Option.bind_some _ _).symm.trans H;with_reducible exact H2_)|with_reducible exact H|(rw [hy155];exact H)|exact H
              have Ny155:=Aside0.mk hy155
              clear hy155
              have H':=Aside0.mk H
              clear H
              have p143:0≤(x16_1:Int):=of_decide_eq_true (by first|(with_reducible assumption)|assumption)
              have q143:x16_1 < (y139.length:Int):=of_decide_eq_true (by first|(with_reducible assumption)|assumption)
              obtain ⟨ad143,e143,hx143_0,hx143_1,hx143_2,hx143_3,hx143_4,hx143_5⟩:=at_T40 HR142.out x16_1 p143 q143
              cases e143
              replace hx143_0:=(HB.out.cell (World.block_lt_of_cell? w _ hx143_0)).trans hx143_0
              replace hx143_1:=(HB.out.cell (World.block_lt_of_cell? w _ hx143_1)).trans hx143_1
              replace hx143_2:=(HB.out.cell (World.block_lt_of_cell? w _ hx143_2)).trans hx143_2
              replace hx143_3:=(HB.out.cell (World.block_lt_of_cell? w _ hx143_3)).trans hx143_3
              replace hx143_4:=(HB.out.cell (World.block_lt_of_cell? w _ hx143_4)).trans hx143_4
              replace hx143_5:=(HB.out.cell (World.block_lt_of_cell? w _ hx143_5)).trans hx143_5
              replace p143:=eq_true p143
              replace q143:=eq_true q143
              try go_wp2_with (first|((with_reducible refine gate_dst (N:=5) rfl ?_);refine box_event ?hg (N:=5) ?hd (cs:= #[.int .i64 0,.int .i64 0,.int .i64 0,.int .i64 0,.int .i64 0,.int .i64 0]) (t:=40) ?hr ?_;(case hd=>rfl);(case hg=>rfl);(case hr=>first|(go_simp;done)|(go_simp;rfl));intro gb144 hg w17 hbox hb;have n0_:=Aside0.mk (Kd.R_below (Kd.R_elderB (by (with_reducible repeat (first|apply Kd.R_alloc|apply Kd.R_drewN|apply Kd.R_drew));exact HO_2.out) gb144 (Nat.le_of_eq hg.symm)) hb);have n1_:=Aside0.mk (Kd.R_below (by (with_reducible repeat (first|apply Kd.R_alloc|apply Kd.R_drewN|apply Kd.R_drew));exact HO_3.out) hb);have n2_:=Aside0.mk (blk_below (g:=gb138) (o:= .cells #[.int .i64 a0_0,.int .i64 a0_1,.int .i64 a0_2,.int .i64 a0_3,.int .i64 a0_4,.slice A0_5 l0_5.length c0_5,.slice A0_6 l0_6.length c0_6,.int .i64 a0_7] 50 (0,0)) (by (with_reducible repeat (first|refine blk_drewN ?_ _|refine blk_drew ?_|refine blk_alloc ?_ _));exact BK138.out) hb);have n3_:=Aside0.mk (below_step (by repeat (first|(with_reducible first|exact HB.out|apply below_alloc|apply pw_below_drewN|apply below_drew1|refine below_set ?_ GE138.out)|exact HB.out)) hb);have n4_:=Aside0.mk (hbox);have n5_:=Aside0.mk ((by rw [hg];exact (below_size (by repeat (first|(with_reducible first|exact HB.out|apply below_alloc|apply pw_below_drewN|apply below_drew1|refine below_set ?_ GE138.out)|exact HB.out))):w.heap.size≤gb144));have n6_:=Aside0.mk ((by rw [hg];exact (below_size (by repeat (first|(with_reducible first|exact HB.out|apply below_alloc|apply pw_below_drewN|apply below_drew1|refine below_set ?_ GE138.out)|exact HB.out))):w.heap.size≤gb144));have n7_:=Aside0.mk ((by rw [hg];exact Nat.ne_of_lt (blk_lt (g:=gb138) (o:= .cells #[.int .i64 a0_0,.int .i64 a0_1,.int .i64 a0_2,.int .i64 a0_3,.int .i64 a0_4,.slice A0_5 l0_5.length c0_5,.slice A0_6 l0_6.length c0_6,.int .i64 a0_7] 50 (0,0)) (by (with_reducible repeat (first|refine blk_drewN ?_ _|refine blk_drew ?_|refine blk_alloc ?_ _));exact BK138.out)):gb138≠gb144));have n8_:=Aside0.mk ((by rw [hg];exact Nat.ne_of_gt (blk_lt (g:=gb138) (o:= .cells #[.int .i64 a0_0,.int .i64 a0_1,.int .i64 a0_2,.int .i64 a0_3,.int .i64 a0_4,.slice A0_5 l0_5.length c0_5,.slice A0_6 l0_6.length c0_6,.int .i64 a0_7] 50 (0,0)) (by (with_reducible repeat (first|refine blk_drewN ?_ _|refine blk_drew ?_|refine blk_alloc ?_ _));exact BK138.out)):gb144≠gb138));clear HO_2;clear HO_3;clear BK138;clear HB;have HO_2:=n0_;have HO_3:=n1_;have BK138:=n2_;have HB:=n3_;have BK144:=n4_;have GW144:=n5_;have GE144:=n6_;have NB138_144:=n7_;have NB144_138:=n8_;clear n0_ n1_ n2_ n3_ n4_ n5_ n6_ n7_ n8_;clear hb hbox hg;have hnb18:=NB144_138.out;have hnc18:=NB138_144.out;have hcz19_0:w17.cell? ⟨gb144,0,none⟩=some (.int .i64 0):=(blk_cell BK144.out 0).trans rfl;have hcz19_1:w17.cell? ⟨gb144,1,none⟩=some (.int .i64 0):=(blk_cell BK144.out 1).trans rfl;have hcz19_2:w17.cell? ⟨gb144,2,none⟩=some (.int .i64 0):=(blk_cell BK144.out 2).trans rfl;have hcz19_3:w17.cell? ⟨gb144,3,none⟩=some (.int .i64 0):=(blk_cell BK144.out 3).trans rfl;have hcz19_4:w17.cell? ⟨gb144,4,none⟩=some (.int .i64 0):=(blk_cell BK144.out 4).trans rfl;have hcz19_5:w17.cell? ⟨gb144,5,none⟩=some (.int .i64 0):=(blk_cell BK144.out 5).trans rfl;have hfz19_0:=blk_frozen BK144.out 0;have hfz19_1:=blk_frozen BK144.out 1;have hfz19_2:=blk_frozen BK144.out 2;have hfz19_3:=blk_frozen BK144.out 3;have hfz19_4:=blk_frozen BK144.out 4;have hfz19_5:=blk_frozen BK144.out 5;obtain ⟨Ao20,co20,eo20⟩:=Kd.R_slice HO_2.out;subst eo20;obtain ⟨Ao21,co21,eo21⟩:=Kd.R_slice HO_3.out;subst eo21))
              have n0_:Aside0 (Kd.R k40 40 ((((((w17.setCell ⟨gb144,0,none⟩ (.int .i64 ((rd_T40 y139 x16_1).f0))).setCell ⟨gb144,1,none⟩ (.int .i64 ((rd_T40 y139 x16_1).f1))).setCell ⟨gb144,2,none⟩ (.int .i64 ((rd_T40 y139 x16_1).f2))).setCell ⟨gb144,3,none⟩ (.int .i64 ((rd_T40 y139 x16_1).f3))).setCell ⟨gb144,4,none⟩ (.int .i64 ((rd_T40 y139 x16_1).f4))).setCell ⟨gb144,5,none⟩ (.int .i64 ((rd_T40 y139 x16_1).f5))) w.heap.size (fun k_=>k_≠gb144) (.slice Ao20 x2_1.length co20) x2_1):=⟨by (with_reducible repeat (first|apply Kd.R_alloc|apply Kd.R_drewN|apply Kd.R_drew));exact Kd.R_mono (Kd.R_far (p:=⟨gb144,5,none⟩) (Kd.R_far (p:=⟨gb144,4,none⟩) (Kd.R_far (p:=⟨gb144,3,none⟩) (Kd.R_far (p:=⟨gb144,2,none⟩) (Kd.R_far (p:=⟨gb144,1,none⟩) (Kd.R_far (p:=⟨gb144,0,none⟩) (Kd.R_mono HO_2.out (fun k_ hk=>(⟨hk,hk.2⟩:_∧k_≠gb144))) (fun _ hk=>hk.2) (.int .i64 ((rd_T40 y139 x16_1).f0))) (fun _ hk=>hk.2) (.int .i64 ((rd_T40 y139 x16_1).f1))) (fun _ hk=>hk.2) (.int .i64 ((rd_T40 y139 x16_1).f2))) (fun _ hk=>hk.2) (.int .i64 ((rd_T40 y139 x16_1).f3))) (fun _ hk=>hk.2) (.int .i64 ((rd_T40 y139 x16_1).f4))) (fun _ hk=>hk.2) (.int .i64 ((rd_T40 y139 x16_1).f5))) (fun _ hk=>hk.1.2)⟩
              have n1_:Aside0 (Kd.R (Kd.int .i64) 3 ((((((w17.setCell ⟨gb144,0,none⟩ (.int .i64 ((rd_T40 y139 x16_1).f0))).setCell ⟨gb144,1,none⟩ (.int .i64 ((rd_T40 y139 x16_1).f1))).setCell ⟨gb144,2,none⟩ (.int .i64 ((rd_T40 y139 x16_1).f2))).setCell ⟨gb144,3,none⟩ (.int .i64 ((rd_T40 y139 x16_1).f3))).setCell ⟨gb144,4,none⟩ (.int .i64 ((rd_T40 y139 x16_1).f4))).setCell ⟨gb144,5,none⟩ (.int .i64 ((rd_T40 y139 x16_1).f5))) w.heap.size (fun _=>True) (.slice Ao21 x3_1.length co21) x3_1):=⟨by (with_reducible repeat (first|apply Kd.R_alloc|apply Kd.R_drewN|apply Kd.R_drew));exact Kd.R_mono (Kd.R_far (p:=⟨gb144,5,none⟩) (Kd.R_far (p:=⟨gb144,4,none⟩) (Kd.R_far (p:=⟨gb144,3,none⟩) (Kd.R_far (p:=⟨gb144,2,none⟩) (Kd.R_far (p:=⟨gb144,1,none⟩) (Kd.R_far (p:=⟨gb144,0,none⟩) (Kd.R_types HO_3.out BK144.out (by decide)) (fun _ hk=>hk.2) (.int .i64 ((rd_T40 y139 x16_1).f0))) (fun _ hk=>hk.2) (.int .i64 ((rd_T40 y139 x16_1).f1))) (fun _ hk=>hk.2) (.int .i64 ((rd_T40 y139 x16_1).f2))) (fun _ hk=>hk.2) (.int .i64 ((rd_T40 y139 x16_1).f3))) (fun _ hk=>hk.2) (.int .i64 ((rd_T40 y139 x16_1).f4))) (fun _ hk=>hk.2) (.int .i64 ((rd_T40 y139 x16_1).f5))) (fun _ hk=>trivial)⟩
              have n2_:Aside0 (((((((w17.setCell ⟨gb144,0,none⟩ (.int .i64 ((rd_T40 y139 x16_1).f0))).setCell ⟨gb144,1,none⟩ (.int .i64 ((rd_T40 y139 x16_1).f1))).setCell ⟨gb144,2,none⟩ (.int .i64 ((rd_T40 y139 x16_1).f2))).setCell ⟨gb144,3,none⟩ (.int .i64 ((rd_T40 y139 x16_1).f3))).setCell ⟨gb144,4,none⟩ (.int .i64 ((rd_T40 y139 x16_1).f4))).setCell ⟨gb144,5,none⟩ (.int .i64 ((rd_T40 y139 x16_1).f5))).heap[gb138]?=some (.cells #[.int .i64 a0_0,.int .i64 a0_1,.int .i64 a0_2,.int .i64 a0_3,.int .i64 a0_4,.slice A0_5 l0_5.length c0_5,.slice A0_6 l0_6.length c0_6,.int .i64 a0_7] 50 (0,0))):=⟨by (with_reducible repeat (first|refine blk_drewN ?_ _|refine blk_drew ?_|refine blk_alloc ?_ _));refine blk_far ?_ NB138_144.out _;(with_reducible repeat (first|refine blk_drewN ?_ _|refine blk_drew ?_|refine blk_alloc ?_ _));refine blk_far ?_ NB138_144.out _;(with_reducible repeat (first|refine blk_drewN ?_ _|refine blk_drew ?_|refine blk_alloc ?_ _));refine blk_far ?_ NB138_144.out _;(with_reducible repeat (first|refine blk_drewN ?_ _|refine blk_drew ?_|refine blk_alloc ?_ _));refine blk_far ?_ NB138_144.out _;(with_reducible repeat (first|refine blk_drewN ?_ _|refine blk_drew ?_|refine blk_alloc ?_ _));refine blk_far ?_ NB138_144.out _;(with_reducible repeat (first|refine blk_drewN ?_ _|refine blk_drew ?_|refine blk_alloc ?_ _));refine blk_far ?_ NB138_144.out _;(with_reducible repeat (first|refine blk_drewN ?_ _|refine blk_drew ?_|refine blk_alloc ?_ _));exact BK138.out⟩
              have n3_:Aside0 (((((((w17.setCell ⟨gb144,0,none⟩ (.int .i64 ((rd_T40 y139 x16_1).f0))).setCell ⟨gb144,1,none⟩ (.int .i64 ((rd_T40 y139 x16_1).f1))).setCell ⟨gb144,2,none⟩ (.int .i64 ((rd_T40 y139 x16_1).f2))).setCell ⟨gb144,3,none⟩ (.int .i64 ((rd_T40 y139 x16_1).f3))).setCell ⟨gb144,4,none⟩ (.int .i64 ((rd_T40 y139 x16_1).f4))).setCell ⟨gb144,5,none⟩ (.int .i64 ((rd_T40 y139 x16_1).f5))).heap[gb144]?=some (.cells #[.int .i64 ((rd_T40 y139 x16_1).f0),.int .i64 ((rd_T40 y139 x16_1).f1),.int .i64 ((rd_T40 y139 x16_1).f2),.int .i64 ((rd_T40 y139 x16_1).f3),.int .i64 ((rd_T40 y139 x16_1).f4),.int .i64 ((rd_T40 y139 x16_1).f5)] 40 (0,0))):=⟨by (with_reducible repeat (first|refine blk_drewN ?_ _|refine blk_drew ?_|refine blk_alloc ?_ _));refine blk_put (cs:= #[.int .i64 ((rd_T40 y139 x16_1).f0),.int .i64 ((rd_T40 y139 x16_1).f1),.int .i64 ((rd_T40 y139 x16_1).f2),.int .i64 ((rd_T40 y139 x16_1).f3),.int .i64 ((rd_T40 y139 x16_1).f4),.int .i64 0]) ?_ 5 _ rfl;(with_reducible repeat (first|refine blk_drewN ?_ _|refine blk_drew ?_|refine blk_alloc ?_ _));refine blk_put (cs:= #[.int .i64 ((rd_T40 y139 x16_1).f0),.int .i64 ((rd_T40 y139 x16_1).f1),.int .i64 ((rd_T40 y139 x16_1).f2),.int .i64 ((rd_T40 y139 x16_1).f3),.int .i64 0,.int .i64 0]) ?_ 4 _ rfl;(with_reducible repeat (first|refine blk_drewN ?_ _|refine blk_drew ?_|refine blk_alloc ?_ _));refine blk_put (cs:= #[.int .i64 ((rd_T40 y139 x16_1).f0),.int .i64 ((rd_T40 y139 x16_1).f1),.int .i64 ((rd_T40 y139 x16_1).f2),.int .i64 0,.int .i64 0,.int .i64 0]) ?_ 3 _ rfl;(with_reducible repeat (first|refine blk_drewN ?_ _|refine blk_drew ?_|refine blk_alloc ?_ _));refine blk_put (cs:= #[.int .i64 ((rd_T40 y139 x16_1).f0),.int .i64 ((rd_T40 y139 x16_1).f1),.int .i64 0,.int .i64 0,.int .i64 0,.int .i64 0]) ?_ 2 _ rfl;(with_reducible repeat (first|refine blk_drewN ?_ _|refine blk_drew ?_|refine blk_alloc ?_ _));refine blk_put (cs:= #[.int .i64 ((rd_T40 y139 x16_1).f0),.int .i64 0,.int .i64 0,.int .i64 0,.int .i64 0,.int .i64 0]) ?_ 1 _ rfl;(with_reducible repeat (first|refine blk_drewN ?_ _|refine blk_drew ?_|refine blk_alloc ?_ _));refine blk_put (cs:= #[.int .i64 0,.int .i64 0,.int .i64 0,.int .i64 0,.int .i64 0,.int .i64 0]) ?_ 0 _ rfl;(with_reducible repeat (first|refine blk_drewN ?_ _|refine blk_drew ?_|refine blk_alloc ?_ _));exact BK144.out⟩
              have n4_:Aside0 (Below w.heap.size w ((((((w17.setCell ⟨gb144,0,none⟩ (.int .i64 ((rd_T40 y139 x16_1).f0))).setCell ⟨gb144,1,none⟩ (.int .i64 ((rd_T40 y139 x16_1).f1))).setCell ⟨gb144,2,none⟩ (.int .i64 ((rd_T40 y139 x16_1).f2))).setCell ⟨gb144,3,none⟩ (.int .i64 ((rd_T40 y139 x16_1).f3))).setCell ⟨gb144,4,none⟩ (.int .i64 ((rd_T40 y139 x16_1).f4))).setCell ⟨gb144,5,none⟩ (.int .i64 ((rd_T40 y139 x16_1).f5)))):=⟨by repeat (first|(with_reducible first|exact HB.out|apply below_alloc|apply pw_below_drewN|apply below_drew1|refine below_set ?_ GE138.out|refine below_set ?_ GE144.out)|exact HB.out)⟩
              (try clear HO_2)
              (try clear HO_3)
              (try clear BK138)
              (try clear BK144)
              (try clear HB)
              generalize ((((((w17.setCell ⟨gb144,0,none⟩ (.int .i64 ((rd_T40 y139 x16_1).f0))).setCell ⟨gb144,1,none⟩ (.int .i64 ((rd_T40 y139 x16_1).f1))).setCell ⟨gb144,2,none⟩ (.int .i64 ((rd_T40 y139 x16_1).f2))).setCell ⟨gb144,3,none⟩ (.int .i64 ((rd_T40 y139 x16_1).f3))).setCell ⟨gb144,4,none⟩ (.int .i64 ((rd_T40 y139 x16_1).f4))).setCell ⟨gb144,5,none⟩ (.int .i64 ((rd_T40 y139 x16_1).f5)))=w22 at n0_ n1_ n2_ n3_ n4_ ⊢
              have HO_2:=n0_
              have HO_3:=n1_
              have BK138:=n2_
              have BK144:=n3_
              have HB:=n4_
              clear n0_ n1_ n2_ n3_ n4_
              have n0_:=Aside0.mk (Kd.R_drew HO_2.out)
              have n1_:=Aside0.mk (Kd.R_drew HO_3.out)
              have n2_:=Aside0.mk (blk_drew BK138.out)
              have n3_:=Aside0.mk (blk_drew BK144.out)
              have n4_:=Aside0.mk (below_drew1 HB.out)
              clear HO_2
              clear HO_3
              clear BK138
              clear BK144
              clear HB
              have HO_2:=n0_
              have HO_3:=n1_
              have BK138:=n2_
              have BK144:=n3_
              have HB:=n4_
              clear n0_ n1_ n2_ n3_ n4_
              have p151:0≤((ji13):Int):=of_decide_eq_true (by first|(with_reducible assumption)|assumption)
              have q151:(ji13) < (l0_6.length:Int):=of_decide_eq_true (by first|(with_reducible assumption)|assumption)
              obtain ⟨ad151,e151,hx151_0⟩:=Kd.at_int HR0_6.out (ji13) p151 q151
              have hw151_0:=hx151_0
              cases e151
              replace hx151_0:=(HB.out.cell (World.block_lt_of_cell? w _ hx151_0)).trans hx151_0
              replace p151:=eq_true p151
              replace q151:=eq_true q151
              refine start_ (n:=18) (S:=fun w'=>w'.cell? ⟨gb144,0,none⟩=some (.int .i64 ((rd_T40 y139 x16_1).f0))∧w'.cell? ⟨gb144,1,none⟩=some (.int .i64 ((rd_T40 y139 x16_1).f1))∧w'.cell? ⟨gb144,2,none⟩=some (.int .i64 ((rd_T40 y139 x16_1).f2))∧w'.cell? ⟨gb144,3,none⟩=some (.int .i64 ((rd_T40 y139 x16_1).f3))∧w'.cell? ⟨gb144,4,none⟩=some (.int .i64 ((rd_T40 y139 x16_1).f4))∧w'.cell? ⟨gb144,5,none⟩=some (.int .i64 ((rd_T40 y139 x16_1).f5))∧w'.cell? ⟨gb138,0,none⟩=some (.int .i64 a0_0)∧w'.cell? ⟨gb138,1,none⟩=some (.int .i64 a0_1)∧w'.cell? ⟨gb138,2,none⟩=some (.int .i64 a0_2)∧w'.cell? ⟨gb138,3,none⟩=some (.int .i64 a0_3)∧w'.cell? ⟨gb138,4,none⟩=some (.int .i64 a0_4)∧w'.cell? ⟨gb138,5,none⟩=some (.slice A0_5 l0_5.length c0_5)∧w'.cell? ⟨gb138,6,none⟩=some (.slice (some ad151) l0_6.length c0_6)∧w'.cell? ⟨gb138,7,none⟩=some (.int .i64 a0_7)∧w'.cell? (ad151.add ((ji13)).toNat)=some (.int .i64 (rd l0_6 (ji13)))) (ds:=[]) #[false,false,false,false,false,false,false,false,false,false,false,false,false,false,false,false,false,false] (by kernel_rfl) rfl rfl ⟨(blk_cell BK144.out 0).trans rfl,(blk_cell BK144.out 1).trans rfl,(blk_cell BK144.out 2).trans rfl,(blk_cell BK144.out 3).trans rfl,(blk_cell BK144.out 4).trans rfl,(blk_cell BK144.out 5).trans rfl,(blk_cell BK138.out 0).trans rfl,(blk_cell BK138.out 1).trans rfl,(blk_cell BK138.out 2).trans rfl,(blk_cell BK138.out 3).trans rfl,(blk_cell BK138.out 4).trans rfl,(blk_cell BK138.out 5).trans rfl,(blk_cell BK138.out 6).trans rfl,(blk_cell BK138.out 7).trans rfl,((HB.out.cell (World.block_lt_of_cell? w _ hw151_0)).trans hw151_0)⟩ (fun hHeld=>?_);refine with_tabW place_laid_seen.tab5 place_laid_seen.bits5 (fun HT_ HW_=>?_)
              generalize w22.drew=w23 at HO_2 HO_3 BK138 BK144 HB hx151_0 hHeld ⊢
              refine pure_ (i:=0) (N:=some 23) (v:=?_) (a':=?_) #[true,false,false,false,false,false,false,false,false,false,false,false,false,false,false,false,false,false] rfl rfl (any_of HT_.out (by kernel_rfl)) (fun _ _ _ h=>h) (Or.inl ⟨by rfl,?_⟩) ?_ ?_
              rotate_left
              ·
               intro w'
               go_simp
               with_reducible rfl
              rotate_left
              ·
               simp only [Act.put,List.setIfInBounds_toArray,List.set_cons_zero,List.set_cons_succ,i64_w,i32_w]
               rfl
              refine pure_ (i:=4) (N:=some 27) (v:=?_) (a':=?_) #[true,false,false,false,true,false,false,false,false,false,false,false,false,false,false,false,false,false] rfl rfl (any_of HT_.out (by kernel_rfl)) (fun _ _ _ h=>h) (Or.inl ⟨by rfl,?_⟩) ?_ ?_
              rotate_left
              ·
               intro w'
               go_simp
               with_reducible rfl
              rotate_left
              ·
               simp only [Act.put,List.setIfInBounds_toArray,List.set_cons_zero,List.set_cons_succ,i64_w,i32_w]
               rfl
              refine pure_ (i:=5) (N:=some 28) (v:=?_) (a':=?_) #[true,false,false,false,true,true,false,false,false,false,false,false,false,false,false,false,false,false] rfl rfl (any_of HT_.out (by kernel_rfl)) (fun _ _ _ h=>h) (Or.inl ⟨by rfl,?_⟩) ?_ ?_
              rotate_left
              ·
               intro w'
               go_simp
               with_reducible rfl
              rotate_left
              ·
               simp only [Act.put,List.setIfInBounds_toArray,List.set_cons_zero,List.set_cons_succ,i64_w,i32_w]
               rfl
              refine pure_ (i:=7) (N:=some 30) (v:=?_) (a':=?_) #[true,false,false,false,true,true,false,true,false,false,false,false,false,false,false,false,false,false] rfl rfl (any_of HT_.out (by kernel_rfl)) (fun _ _ _ h=>h) (Or.inl ⟨by rfl,?_⟩) ?_ ?_
              rotate_left
              ·
               intro w'
               go_simp
               with_reducible rfl
              rotate_left
              ·
               simp only [Act.put,List.setIfInBounds_toArray,List.set_cons_zero,List.set_cons_succ,i64_w,i32_w]
               rfl
              refine pure_ (i:=9) (N:=some 32) (v:=?_) (a':=?_) #[true,false,false,false,true,true,false,true,false,true,false,false,false,false,false,false,false,false] rfl rfl (any_of HT_.out (by kernel_rfl)) (fun _ _ _ h=>h) (Or.inl ⟨by rfl,?_⟩) ?_ ?_
              rotate_left
              ·
               intro w'
               go_simp
               with_reducible rfl
              rotate_left
              ·
               simp only [Act.put,List.setIfInBounds_toArray,List.set_cons_zero,List.set_cons_succ,i64_w,i32_w]
               rfl
              refine take_ (i:=1) (N:=some 24) (v:=?_) (a':=?_) #[true,true,false,false,true,true,false,true,false,true,false,false,false,false,false,false,false,false] rfl rfl (take_ofW HT_.out HW_.out (by kernel_rfl)) (fun _ _ _ h=>h) (Or.inl ⟨by rfl,?_⟩) hHeld ?_ ?_
              rotate_left
              ·
               rintro w' ⟨s0,s1,s2,s3,s4,s5,s6,s7,s8,s9,s10,s11,s12,s13,s14⟩
               go_simp
               with_reducible rfl
              rotate_left
              ·
               simp only [Act.put,List.setIfInBounds_toArray,List.set_cons_zero,List.set_cons_succ,i64_w,i32_w]
               rfl
              refine take_ (i:=6) (N:=some 29) (v:=?_) (a':=?_) #[true,true,false,false,true,true,true,true,false,true,false,false,false,false,false,false,false,false] rfl rfl (take_ofW HT_.out HW_.out (by kernel_rfl)) (fun _ _ _ h=>h) (Or.inl ⟨by rfl,?_⟩) hHeld ?_ ?_
              rotate_left
              ·
               rintro w' ⟨s0,s1,s2,s3,s4,s5,s6,s7,s8,s9,s10,s11,s12,s13,s14⟩
               go_simp
               with_reducible rfl
              rotate_left
              ·
               simp only [Act.put,List.setIfInBounds_toArray,List.set_cons_zero,List.set_cons_succ,i64_w,i32_w]
               rfl
              refine take_ (i:=8) (N:=some 31) (v:=?_) (a':=?_) #[true,true,false,false,true,true,true,true,true,true,false,false,false,false,false,false,false,false] rfl rfl (take_ofW HT_.out HW_.out (by kernel_rfl)) (fun _ _ _ h=>h) (Or.inl ⟨by rfl,?_⟩) hHeld ?_ ?_
              rotate_left
              ·
               rintro w' ⟨s0,s1,s2,s3,s4,s5,s6,s7,s8,s9,s10,s11,s12,s13,s14⟩
               go_simp
               with_reducible rfl
              rotate_left
              ·
               simp only [Act.put,List.setIfInBounds_toArray,List.set_cons_zero,List.set_cons_succ,i64_w,i32_w]
               rfl
              refine take_ (i:=10) (N:=some 33) (v:=?_) (a':=?_) #[true,true,false,false,true,true,true,true,true,true,true,false,false,false,false,false,false,false] rfl rfl (take_ofW HT_.out HW_.out (by kernel_rfl)) (fun _ _ _ h=>h) (Or.inl ⟨by rfl,?_⟩) hHeld ?_ ?_
              rotate_left
              ·
               rintro w' ⟨s0,s1,s2,s3,s4,s5,s6,s7,s8,s9,s10,s11,s12,s13,s14⟩
               go_simp
               with_reducible rfl
              rotate_left
              ·
               simp only [Act.put,List.setIfInBounds_toArray,List.set_cons_zero,List.set_cons_succ,i64_w,i32_w]
               rfl
              refine pure_ (i:=11) (N:=some 34) (v:=?_) (a':=?_) #[true,true,false,false,true,true,true,true,true,true,true,true,false,false,false,false,false,false] rfl rfl (any_of HT_.out (by kernel_rfl)) (fun _ _ _ h=>h) (Or.inl ⟨by rfl,?_⟩) ?_ ?_
              rotate_left
              ·
               intro w'
               go_simp
               with_reducible rfl
              rotate_left
              ·
               simp only [Act.put,List.setIfInBounds_toArray,List.set_cons_zero,List.set_cons_succ,i64_w,i32_w]
               rfl
              refine pure_ (i:=12) (N:=some 35) (v:=?_) (a':=?_) #[true,true,false,false,true,true,true,true,true,true,true,true,true,false,false,false,false,false] rfl rfl (any_of HT_.out (by kernel_rfl)) (fun _ _ _ h=>h) (Or.inl ⟨by rfl,?_⟩) ?_ ?_
              rotate_left
              ·
               intro w'
               go_simp
               with_reducible rfl
              rotate_left
              ·
               simp only [Act.put,List.setIfInBounds_toArray,List.set_cons_zero,List.set_cons_succ,i64_w,i32_w]
               rfl
              refine take_ (i:=13) (N:=some 36) (v:=?_) (a':=?_) #[true,true,false,false,true,true,true,true,true,true,true,true,true,true,false,false,false,false] rfl rfl (take_ofW HT_.out HW_.out (by kernel_rfl)) (fun _ _ _ h=>h) (Or.inl ⟨by rfl,?_⟩) hHeld ?_ ?_
              rotate_left
              ·
               rintro w' ⟨s0,s1,s2,s3,s4,s5,s6,s7,s8,s9,s10,s11,s12,s13,s14⟩
               go_simp
               with_reducible rfl
              rotate_left
              ·
               simp only [Act.put,List.setIfInBounds_toArray,List.set_cons_zero,List.set_cons_succ,i64_w,i32_w]
               rfl
              refine join_ (σ:=Value × Value × Value) 3 #[true,true,true,true,true,true,true,true,true,true,true,true,true,true,true,false,false,false] (fun s_=>[(25,s_.1),(26,s_.2.1),(37,s_.2.2)]) (fun s_ w'=>(w'.cell? ⟨gb144,0,none⟩=some (.int .i64 ((rd_T40 y139 x16_1).f0))∧w'.cell? ⟨gb144,1,none⟩=some (.int .i64 ((rd_T40 y139 x16_1).f1))∧w'.cell? ⟨gb144,2,none⟩=some (.int .i64 ((rd_T40 y139 x16_1).f2))∧w'.cell? ⟨gb144,3,none⟩=some (.int .i64 ((rd_T40 y139 x16_1).f3))∧w'.cell? ⟨gb144,4,none⟩=some (.int .i64 ((rd_T40 y139 x16_1).f4))∧w'.cell? ⟨gb144,5,none⟩=some (.int .i64 ((rd_T40 y139 x16_1).f5))∧w'.cell? ⟨gb138,0,none⟩=some (.int .i64 a0_0)∧w'.cell? ⟨gb138,1,none⟩=some (.int .i64 a0_1)∧w'.cell? ⟨gb138,2,none⟩=some (.int .i64 a0_2)∧w'.cell? ⟨gb138,3,none⟩=some (.int .i64 a0_3)∧w'.cell? ⟨gb138,4,none⟩=some (.int .i64 a0_4)∧w'.cell? ⟨gb138,5,none⟩=some (.slice A0_5 l0_5.length c0_5)∧w'.cell? ⟨gb138,6,none⟩=some (.slice (some ad151) l0_6.length c0_6)∧w'.cell? ⟨gb138,7,none⟩=some (.int .i64 a0_7)∧w'.cell? (ad151.add ((ji13)).toNat)=some (.int .i64 (rd l0_6 (ji13))))∧(Kd.R k40 40 w' w.heap.size (fun k_=>some k_≠(s_.2.1:Value).ownBlock∧k_≠gb144) s_.1 y145)∧(Kd.R k40 40 w' w.heap.size (fun k_=>some k_≠(s_.1:Value).ownBlock∧k_≠gb144) s_.2.1 y148)∧(Kd.R (Kd.int .i64) 3 w' w.heap.size (fun k_=>some k_≠(.slice Ao21 x3_1.length co21:Value).ownBlock) s_.2.2 y152)∧(Kd.R (Kd.int .i64) 3 w' w.heap.size (fun k_=>some k_≠(s_.2.2:Value).ownBlock) (.slice Ao21 x3_1.length co21) x3_1)∧(w'.heap[gb138]?=some (.cells #[.int .i64 a0_0,.int .i64 a0_1,.int .i64 a0_2,.int .i64 a0_3,.int .i64 a0_4,.slice A0_5 l0_5.length c0_5,.slice (some ad151) l0_6.length c0_6,.int .i64 a0_7] 50 (0,0)))∧(w'.heap[gb144]?=some (.cells #[.int .i64 ((rd_T40 y139 x16_1).f0),.int .i64 ((rd_T40 y139 x16_1).f1),.int .i64 ((rd_T40 y139 x16_1).f2),.int .i64 ((rd_T40 y139 x16_1).f3),.int .i64 ((rd_T40 y139 x16_1).f4),.int .i64 ((rd_T40 y139 x16_1).f5)] 40 (0,0)))∧(Below w.heap.size w w')) ?_ ?_
              rotate_left
              ·
               intro hCont
               refine two_ (i:=2) (j:=14) (Ni:=some 25) (Nj:=some 37) #[true,true,true,false,true,true,true,true,true,true,true,true,true,true,false,false,false,false] #[true,true,false,false,true,true,true,true,true,true,true,true,true,true,true,false,false,false] rfl rfl rfl rfl (two_of HT_.out (by kernel_rfl)) (by decide) (by decide) (fun K hK=>?_) (fun K hK=>?_)
               ·
                skip
                refine Kd.R_lit_step k40 _ 40 ?hg (N:=25) ?hd (xs:=([(⟨(rd_T40 y139 x16_1).f0,(rd_T40 y139 x16_1).f1,(rd_T40 y139 x16_1).f2,(rd_T40 y139 x16_1).f3,(rd_T40 y139 x16_1).f4,(rd_T40 y139 x16_1).f5⟩:S40)]:List (S40))) (inner:=[.int .i64 ((rd_T40 y139 x16_1).f0),.int .i64 ((rd_T40 y139 x16_1).f1),.int .i64 ((rd_T40 y139 x16_1).f2),.int .i64 ((rd_T40 y139 x16_1).f3),.int .i64 ((rd_T40 y139 x16_1).f4),.int .i64 ((rd_T40 y139 x16_1).f5)]) (ok:=fun _=>True) (okp:=fun _=>True) ?hr ?hp (fun _ hk=>hk) trivial (Below.refl _ _) (Nat.le_refl _) (by simp) ?_;(case hd=>rfl);(case hg=>rfl);(case hr=>first|(go_simp;done)|(go_simp;rfl));(case hp=>exact (Reps.c6 (show Kd.M k40 _ _ _ (⟨(rd_T40 y139 x16_1).f0,(rd_T40 y139 x16_1).f1,(rd_T40 y139 x16_1).f2,(rd_T40 y139 x16_1).f3,(rd_T40 y139 x16_1).f4,(rd_T40 y139 x16_1).f5⟩:S40) [.int .i64 ((rd_T40 y139 x16_1).f0),.int .i64 ((rd_T40 y139 x16_1).f1),.int .i64 ((rd_T40 y139 x16_1).f2),.int .i64 ((rd_T40 y139 x16_1).f3),.int .i64 ((rd_T40 y139 x16_1).f4),.int .i64 ((rd_T40 y139 x16_1).f5)] from (k40_mkM _ _ _ (⟨(rd_T40 y139 x16_1).f0,(rd_T40 y139 x16_1).f1,(rd_T40 y139 x16_1).f2,(rd_T40 y139 x16_1).f3,(rd_T40 y139 x16_1).f4,(rd_T40 y139 x16_1).f5⟩:S40))) (Reps.none _ _)))
                intro v146 w24 ho25 hb hg_ hnew_
                clear hg_ hnew_
                (first|rw [← Ny145.out] at ho25|(simp only [Int.reduceToNat] at ho25;rw [← Ny145.out] at ho25))
                have n0_:=Aside0.mk (Kd.R_elder' (by (with_reducible repeat (first|apply Kd.R_alloc|apply Kd.R_drewN|apply Kd.R_drew));exact HO_2.out) (Kd.R_base ho25) hb)
                have n1_:=Aside0.mk (Kd.R_below (by (with_reducible repeat (first|apply Kd.R_alloc|apply Kd.R_drewN|apply Kd.R_drew));exact HO_3.out) hb)
                have n2_:=Aside0.mk (Kd.R_lower (Kd.R_newB (Kd.R_new' ho25 (Kd.R_lt (by (with_reducible repeat (first|apply Kd.R_alloc|apply Kd.R_drewN|apply Kd.R_drew));exact HO_2.out))) (g:=gb144) (o:= .cells #[.int .i64 ((rd_T40 y139 x16_1).f0),.int .i64 ((rd_T40 y139 x16_1).f1),.int .i64 ((rd_T40 y139 x16_1).f2),.int .i64 ((rd_T40 y139 x16_1).f3),.int .i64 ((rd_T40 y139 x16_1).f4),.int .i64 ((rd_T40 y139 x16_1).f5)] 40 (0,0)) (by (with_reducible repeat (first|refine blk_drewN ?_ _|refine blk_drew ?_|refine blk_alloc ?_ _));exact BK144.out)) (below_size (by repeat (first|(with_reducible first|exact HB.out|apply below_alloc|apply pw_below_drewN|apply below_drew1|refine below_set ?_ GE138.out|refine below_set ?_ GE144.out)|exact HB.out))))
                have n3_:=Aside0.mk (blk_below (g:=gb138) (o:= .cells #[.int .i64 a0_0,.int .i64 a0_1,.int .i64 a0_2,.int .i64 a0_3,.int .i64 a0_4,.slice A0_5 l0_5.length c0_5,.slice (some ad151) l0_6.length c0_6,.int .i64 a0_7] 50 (0,0)) (by (with_reducible repeat (first|refine blk_drewN ?_ _|refine blk_drew ?_|refine blk_alloc ?_ _));exact BK138.out) hb)
                have n4_:=Aside0.mk (blk_below (g:=gb144) (o:= .cells #[.int .i64 ((rd_T40 y139 x16_1).f0),.int .i64 ((rd_T40 y139 x16_1).f1),.int .i64 ((rd_T40 y139 x16_1).f2),.int .i64 ((rd_T40 y139 x16_1).f3),.int .i64 ((rd_T40 y139 x16_1).f4),.int .i64 ((rd_T40 y139 x16_1).f5)] 40 (0,0)) (by (with_reducible repeat (first|refine blk_drewN ?_ _|refine blk_drew ?_|refine blk_alloc ?_ _));exact BK144.out) hb)
                have n5_:=Aside0.mk (below_step (by repeat (first|(with_reducible first|exact HB.out|apply below_alloc|apply pw_below_drewN|apply below_drew1|refine below_set ?_ GE138.out|refine below_set ?_ GE144.out)|exact HB.out)) hb)
                clear HO_2
                clear HO_3
                clear BK138
                clear BK144
                clear HB
                have HO_2:=n0_
                have HO_3:=n1_
                have HO147:=n2_
                have BK138:=n3_
                have BK144:=n4_
                have HB:=n5_
                clear n0_ n1_ n2_ n3_ n4_ n5_
                clear hb ho25
                obtain ⟨Ao27,co27,eo27⟩:=Kd.R_slice HO147.out
                (first|subst eo27|(injection eo27 with f1_ f2_ f3_;have f4_:=f1_.symm;have f5_:=f3_.symm;clear f1_ f2_ f3_;subst f4_;subst f5_))
                refine hK.out _ _ ⟨(blk_cell BK144.out 0).trans rfl,(blk_cell BK144.out 1).trans rfl,(blk_cell BK144.out 2).trans rfl,(blk_cell BK144.out 3).trans rfl,(blk_cell BK144.out 4).trans rfl,(blk_cell BK144.out 5).trans rfl,(blk_cell BK138.out 0).trans rfl,(blk_cell BK138.out 1).trans rfl,(blk_cell BK138.out 2).trans rfl,(blk_cell BK138.out 3).trans rfl,(blk_cell BK138.out 4).trans rfl,(blk_cell BK138.out 5).trans rfl,(blk_cell BK138.out 6).trans rfl,(blk_cell BK138.out 7).trans rfl,((HB.out.cell (World.block_lt_of_cell? w _ hw151_0)).trans hw151_0)⟩ (fun hHeld=>?_)
                clear hK K
                refine norm_ (a':=?_) ?_ ?_
                rotate_left
                ·
                 show Act.put _ (some 25) _=_
                 simp only [Act.put,List.setIfInBounds_toArray,List.set_cons_zero,List.set_cons_succ,i64_w,i32_w]
                 rfl
                refine two_ (i:=3) (j:=14) (Ni:=some 26) (Nj:=some 37) #[true,true,true,true,true,true,true,true,true,true,true,true,true,true,false,false,false,false] #[true,true,true,false,true,true,true,true,true,true,true,true,true,true,true,false,false,false] rfl rfl rfl rfl (two_of HT_.out (by kernel_rfl)) (by decide) (by decide) (fun K hK=>?_) (fun K hK=>?_)
                ·
                 skip
                 refine Kd.R_append_rows_step k40 (w0:=w) w.heap.size (by rfl) (.tmp 23) (.tmp 25) 37 40 (.agg #[(.int .i64 0),(.int .i64 0),(.int .i64 0),(.int .i64 0),(.int .i64 0),(.int .i64 0)]) 48 rfl Try.underlying37 info40 rfl (by decide) (by omega) (.slice Ao20 x2_1.length co20) x2_1 y145 _ _ _ (fun k_=>some k_≠(.slice Ao27 y145.length co27:Value).ownBlock∧k_≠gb144) (fun _=>False) rfl rfl ?aO ?aR (fun _ _ h=>h) (fun _ h=>h.elim) ?aF ?aB ?aS ?aL ?_
                 (case aR=>repeat (first|exact (Kd.R_reads' HO147.out).2.2|(with_reducible refine Kd.C_alloc ?_ _)|(with_reducible refine Kd.C_drewN ?_ _)|(with_reducible refine Kd.C_drew ?_)))
                 (case aB=>exact (by repeat (first|(with_reducible first|exact HB.out|apply below_alloc|apply pw_below_drewN|apply below_drew1|refine below_set ?_ GE138.out|refine below_set ?_ GE144.out)|exact HB.out)))
                 (case aF=>exact (fun k_ hk=>⟨Kd.fresh' (Kd.R_lt (by (with_reducible repeat (first|apply Kd.R_alloc|apply Kd.R_drewN|apply Kd.R_drew));exact HO147.out)) k_ hk,Kd.freshB (g:=gb144) (o:= .cells #[.int .i64 ((rd_T40 y139 x16_1).f0),.int .i64 ((rd_T40 y139 x16_1).f1),.int .i64 ((rd_T40 y139 x16_1).f2),.int .i64 ((rd_T40 y139 x16_1).f3),.int .i64 ((rd_T40 y139 x16_1).f4),.int .i64 ((rd_T40 y139 x16_1).f5)] 40 (0,0)) (by (with_reducible repeat (first|refine blk_drewN ?_ _|refine blk_drew ?_|refine blk_alloc ?_ _));exact BK144.out) k_ hk⟩))
                 (case aO=>exact (by (with_reducible repeat (first|apply Kd.R_alloc|apply Kd.R_drewN|apply Kd.R_drew));exact Kd.R_mono HO_2.out (fun _ hk=>⟨hk.2,hk.1⟩)))
                 (case aS=>exact (below_size (by repeat (first|(with_reducible first|exact HB.out|apply below_alloc|apply pw_below_drewN|apply below_drew1|refine below_set ?_ GE138.out|refine below_set ?_ GE144.out)|exact HB.out))))
                 (case aL=>have:=LMc12.out;omega)
                 intro v149 w26 ho hb hg hat
                 rw [← Ny148.out] at ho
                 have n0_:=Aside0.mk (Kd.R_over' (by (with_reducible repeat (first|apply Kd.R_alloc|apply Kd.R_drewN|apply Kd.R_drew));exact HO_3.out) (Kd.R_typed (by (with_reducible repeat (first|apply Kd.R_alloc|apply Kd.R_drewN|apply Kd.R_drew));exact HO_2.out)) (by decide) hg)
                 have n1_:=Aside0.mk (blk_grown (g:=gb138) (o:= .cells #[.int .i64 a0_0,.int .i64 a0_1,.int .i64 a0_2,.int .i64 a0_3,.int .i64 a0_4,.slice A0_5 l0_5.length c0_5,.slice (some ad151) l0_6.length c0_6,.int .i64 a0_7] 50 (0,0)) (by (with_reducible repeat (first|refine blk_drewN ?_ _|refine blk_drew ?_|refine blk_alloc ?_ _));exact BK138.out) hg (Kd.R_ne HO_2.out BK138.out (by decide)))
                 have n2_:=Aside0.mk (blk_grown (g:=gb144) (o:= .cells #[.int .i64 ((rd_T40 y139 x16_1).f0),.int .i64 ((rd_T40 y139 x16_1).f1),.int .i64 ((rd_T40 y139 x16_1).f2),.int .i64 ((rd_T40 y139 x16_1).f3),.int .i64 ((rd_T40 y139 x16_1).f4),.int .i64 ((rd_T40 y139 x16_1).f5)] 40 (0,0)) (by (with_reducible repeat (first|refine blk_drewN ?_ _|refine blk_drew ?_|refine blk_alloc ?_ _));exact BK144.out) hg (Kd.R_away HO_2.out (fun _ hk=>hk.1)))
                 have n3_:=Aside0.mk (Kd.R_after (ok:=(fun k_=>k_≠gb144)) (by (with_reducible repeat (first|apply Kd.R_alloc|apply Kd.R_drewN|apply Kd.R_drew));exact Kd.R_mono HO147.out (fun _ hk=>⟨hk.2,hk.1.2⟩)) hg hat)
                 have n4_:=Aside0.mk (hb)
                 have n5_:=Aside0.mk (ho)
                 clear HO_3
                 clear BK138
                 clear BK144
                 clear HO147
                 clear HB
                 clear HO_2
                 have HO_3:=n0_
                 have BK138:=n1_
                 have BK144:=n2_
                 have HO147:=n3_
                 have HB:=n4_
                 have HO150:=n5_
                 clear n0_ n1_ n2_ n3_ n4_ n5_
                 clear ho hb hg hat
                 refine hK.out _ _ ⟨(blk_cell BK144.out 0).trans rfl,(blk_cell BK144.out 1).trans rfl,(blk_cell BK144.out 2).trans rfl,(blk_cell BK144.out 3).trans rfl,(blk_cell BK144.out 4).trans rfl,(blk_cell BK144.out 5).trans rfl,(blk_cell BK138.out 0).trans rfl,(blk_cell BK138.out 1).trans rfl,(blk_cell BK138.out 2).trans rfl,(blk_cell BK138.out 3).trans rfl,(blk_cell BK138.out 4).trans rfl,(blk_cell BK138.out 5).trans rfl,(blk_cell BK138.out 6).trans rfl,(blk_cell BK138.out 7).trans rfl,((HB.out.cell (World.block_lt_of_cell? w _ hw151_0)).trans hw151_0)⟩ (fun hHeld=>?_)
                 clear hK K
                 refine norm_ (a':=?_) ?_ ?_
                 rotate_left
                 ·
                  show Act.put _ (some 26) _=_
                  simp only [Act.put,List.setIfInBounds_toArray,List.set_cons_zero,List.set_cons_succ,i64_w,i32_w]
                  rfl
                 refine one_ (i:=14) (N:=some 37) #[true,true,true,true,true,true,true,true,true,true,true,true,true,true,true,false,false,false] rfl rfl (one_of HT_.out (by kernel_rfl)) (by decide) (fun K hK=>?_)
                 refine Kd.R_lit_step (Kd.int .i64) _ 3 ?hg (N:=37) ?hd (xs:=([rd l0_6 (ji13)]:List Int)) (inner:=[.int .i64 (rd l0_6 (ji13))]) (ok:=fun _=>True) (okp:=fun _=>True) ?hr ?hp (fun _ hk=>hk) trivial (Below.refl _ _) (Nat.le_refl _) (by simp) ?_;(case hd=>rfl);(case hg=>rfl);(case hr=>first|(go_simp;done)|(go_simp;rfl));(case hp=>exact (Reps.one (show Kd.M (Kd.int .i64) _ _ _ (rd l0_6 (ji13)) [.int .i64 (rd l0_6 (ji13))] from rfl) (Reps.none _ _)))
                 intro v153 w28 ho29 hb hg_ hnew_
                 clear hg_ hnew_
                 (first|rw [← Ny152.out] at ho29|(simp only [Int.reduceToNat] at ho29;rw [← Ny152.out] at ho29))
                 have n0_:=Aside0.mk (Kd.R_elder' (by (with_reducible repeat (first|apply Kd.R_alloc|apply Kd.R_drewN|apply Kd.R_drew));exact HO_3.out) (Kd.R_base ho29) hb)
                 have n1_:=Aside0.mk (Kd.R_below (by (with_reducible repeat (first|apply Kd.R_alloc|apply Kd.R_drewN|apply Kd.R_drew));exact HO147.out) hb)
                 have n2_:=Aside0.mk (Kd.R_below (by (with_reducible repeat (first|apply Kd.R_alloc|apply Kd.R_drewN|apply Kd.R_drew));exact HO150.out) hb)
                 have n3_:=Aside0.mk (Kd.R_lower (Kd.R_new' ho29 (Kd.R_lt (by (with_reducible repeat (first|apply Kd.R_alloc|apply Kd.R_drewN|apply Kd.R_drew));exact HO_3.out))) (below_size (by repeat (first|(with_reducible first|exact HB.out|apply below_alloc|apply pw_below_drewN|apply below_drew1|refine below_set ?_ GE138.out|refine below_set ?_ GE144.out)|exact HB.out))))
                 have n4_:=Aside0.mk (blk_below (g:=gb138) (o:= .cells #[.int .i64 a0_0,.int .i64 a0_1,.int .i64 a0_2,.int .i64 a0_3,.int .i64 a0_4,.slice A0_5 l0_5.length c0_5,.slice (some ad151) l0_6.length c0_6,.int .i64 a0_7] 50 (0,0)) (by (with_reducible repeat (first|refine blk_drewN ?_ _|refine blk_drew ?_|refine blk_alloc ?_ _));exact BK138.out) hb)
                 have n5_:=Aside0.mk (blk_below (g:=gb144) (o:= .cells #[.int .i64 ((rd_T40 y139 x16_1).f0),.int .i64 ((rd_T40 y139 x16_1).f1),.int .i64 ((rd_T40 y139 x16_1).f2),.int .i64 ((rd_T40 y139 x16_1).f3),.int .i64 ((rd_T40 y139 x16_1).f4),.int .i64 ((rd_T40 y139 x16_1).f5)] 40 (0,0)) (by (with_reducible repeat (first|refine blk_drewN ?_ _|refine blk_drew ?_|refine blk_alloc ?_ _));exact BK144.out) hb)
                 have n6_:=Aside0.mk (below_step (by repeat (first|(with_reducible first|exact HB.out|apply below_alloc|apply pw_below_drewN|apply below_drew1|refine below_set ?_ GE138.out|refine below_set ?_ GE144.out)|exact HB.out)) hb)
                 clear HO_3
                 clear HO147
                 clear HO150
                 clear BK138
                 clear BK144
                 clear HB
                 have HO_3:=n0_
                 have HO147:=n1_
                 have HO150:=n2_
                 have HO154:=n3_
                 have BK138:=n4_
                 have BK144:=n5_
                 have HB:=n6_
                 clear n0_ n1_ n2_ n3_ n4_ n5_ n6_
                 clear hb ho29
                 refine hK.out _ _ ⟨(blk_cell BK144.out 0).trans rfl,(blk_cell BK144.out 1).trans rfl,(blk_cell BK144.out 2).trans rfl,(blk_cell BK144.out 3).trans rfl,(blk_cell BK144.out 4).trans rfl,(blk_cell BK144.out 5).trans rfl,(blk_cell BK138.out 0).trans rfl,(blk_cell BK138.out 1).trans rfl,(blk_cell BK138.out 2).trans rfl,(blk_cell BK138.out 3).trans rfl,(blk_cell BK138.out 4).trans rfl,(blk_cell BK138.out 5).trans rfl,(blk_cell BK138.out 6).trans rfl,(blk_cell BK138.out 7).trans rfl,((HB.out.cell (World.block_lt_of_cell? w _ hw151_0)).trans hw151_0)⟩ (fun hHeld=>?_)
                 clear hK K
                 refine norm_ (a':=?_) ?_ ?_
                 rotate_left
                 ·
                  show Act.put _ (some 37) _=_
                  simp only [Act.put,List.setIfInBounds_toArray,List.set_cons_zero,List.set_cons_succ,i64_w,i32_w]
                  rfl
                 exact norm_ (by simp only [putAll,Act.put,List.setIfInBounds_toArray,List.set_cons_zero,List.set_cons_succ]) (hCont (.slice Ao27 y145.length co27,v149,v153) _ ⟨hHeld,(by (with_reducible repeat (first|apply Kd.R_alloc|apply Kd.R_drewN|apply Kd.R_drew));exact Kd.R_mono HO147.out (fun _ hk=>⟨hk.2,hk.1⟩)),(by (with_reducible repeat (first|apply Kd.R_alloc|apply Kd.R_drewN|apply Kd.R_drew));exact HO150.out),(by (with_reducible repeat (first|apply Kd.R_alloc|apply Kd.R_drewN|apply Kd.R_drew));exact Kd.R_mono HO154.out (fun _ hk=>hk.2)),(by (with_reducible repeat (first|apply Kd.R_alloc|apply Kd.R_drewN|apply Kd.R_drew));exact Kd.R_mono HO_3.out (fun _ hk=>hk.2)),(by (with_reducible repeat (first|refine blk_drewN ?_ _|refine blk_drew ?_|refine blk_alloc ?_ _));exact BK138.out),(by (with_reducible repeat (first|refine blk_drewN ?_ _|refine blk_drew ?_|refine blk_alloc ?_ _));exact BK144.out),(by repeat (first|(with_reducible first|exact HB.out|apply below_alloc|apply pw_below_drewN|apply below_drew1|refine below_set ?_ GE138.out|refine below_set ?_ GE144.out)|exact HB.out))⟩)
                ·
                 skip
                 refine Kd.R_lit_step (Kd.int .i64) _ 3 ?hg (N:=37) ?hd (xs:=([rd l0_6 (ji13)]:List Int)) (inner:=[.int .i64 (rd l0_6 (ji13))]) (ok:=fun _=>True) (okp:=fun _=>True) ?hr ?hp (fun _ hk=>hk) trivial (Below.refl _ _) (Nat.le_refl _) (by simp) ?_;(case hd=>rfl);(case hg=>rfl);(case hr=>first|(go_simp;done)|(go_simp;rfl));(case hp=>exact (Reps.one (show Kd.M (Kd.int .i64) _ _ _ (rd l0_6 (ji13)) [.int .i64 (rd l0_6 (ji13))] from rfl) (Reps.none _ _)))
                 intro v153 w26 ho27 hb hg_ hnew_
                 clear hg_ hnew_
                 (first|rw [← Ny152.out] at ho27|(simp only [Int.reduceToNat] at ho27;rw [← Ny152.out] at ho27))
                 have n0_:=Aside0.mk (Kd.R_below (by (with_reducible repeat (first|apply Kd.R_alloc|apply Kd.R_drewN|apply Kd.R_drew));exact HO_2.out) hb)
                 have n1_:=Aside0.mk (Kd.R_elder' (by (with_reducible repeat (first|apply Kd.R_alloc|apply Kd.R_drewN|apply Kd.R_drew));exact HO_3.out) (Kd.R_base ho27) hb)
                 have n2_:=Aside0.mk (Kd.R_below (by (with_reducible repeat (first|apply Kd.R_alloc|apply Kd.R_drewN|apply Kd.R_drew));exact HO147.out) hb)
                 have n3_:=Aside0.mk (Kd.R_lower (Kd.R_new' ho27 (Kd.R_lt (by (with_reducible repeat (first|apply Kd.R_alloc|apply Kd.R_drewN|apply Kd.R_drew));exact HO_3.out))) (below_size (by repeat (first|(with_reducible first|exact HB.out|apply below_alloc|apply pw_below_drewN|apply below_drew1|refine below_set ?_ GE138.out|refine below_set ?_ GE144.out)|exact HB.out))))
                 have n4_:=Aside0.mk (blk_below (g:=gb138) (o:= .cells #[.int .i64 a0_0,.int .i64 a0_1,.int .i64 a0_2,.int .i64 a0_3,.int .i64 a0_4,.slice A0_5 l0_5.length c0_5,.slice (some ad151) l0_6.length c0_6,.int .i64 a0_7] 50 (0,0)) (by (with_reducible repeat (first|refine blk_drewN ?_ _|refine blk_drew ?_|refine blk_alloc ?_ _));exact BK138.out) hb)
                 have n5_:=Aside0.mk (blk_below (g:=gb144) (o:= .cells #[.int .i64 ((rd_T40 y139 x16_1).f0),.int .i64 ((rd_T40 y139 x16_1).f1),.int .i64 ((rd_T40 y139 x16_1).f2),.int .i64 ((rd_T40 y139 x16_1).f3),.int .i64 ((rd_T40 y139 x16_1).f4),.int .i64 ((rd_T40 y139 x16_1).f5)] 40 (0,0)) (by (with_reducible repeat (first|refine blk_drewN ?_ _|refine blk_drew ?_|refine blk_alloc ?_ _));exact BK144.out) hb)
                 have n6_:=Aside0.mk (below_step (by repeat (first|(with_reducible first|exact HB.out|apply below_alloc|apply pw_below_drewN|apply below_drew1|refine below_set ?_ GE138.out|refine below_set ?_ GE144.out)|exact HB.out)) hb)
                 clear HO_2
                 clear HO_3
                 clear HO147
                 clear BK138
                 clear BK144
                 clear HB
                 have HO_2:=n0_
                 have HO_3:=n1_
                 have HO147:=n2_
                 have HO154:=n3_
                 have BK138:=n4_
                 have BK144:=n5_
                 have HB:=n6_
                 clear n0_ n1_ n2_ n3_ n4_ n5_ n6_
                 clear hb ho27
                 obtain ⟨Ao29,co29,eo29⟩:=Kd.R_slice HO147.out
                 (first|subst eo29|(injection eo29 with f1_ f2_ f3_;have f4_:=f1_.symm;have f5_:=f3_.symm;clear f1_ f2_ f3_;subst f4_;subst f5_))
                 refine hK.out _ _ ⟨(blk_cell BK144.out 0).trans rfl,(blk_cell BK144.out 1).trans rfl,(blk_cell BK144.out 2).trans rfl,(blk_cell BK144.out 3).trans rfl,(blk_cell BK144.out 4).trans rfl,(blk_cell BK144.out 5).trans rfl,(blk_cell BK138.out 0).trans rfl,(blk_cell BK138.out 1).trans rfl,(blk_cell BK138.out 2).trans rfl,(blk_cell BK138.out 3).trans rfl,(blk_cell BK138.out 4).trans rfl,(blk_cell BK138.out 5).trans rfl,(blk_cell BK138.out 6).trans rfl,(blk_cell BK138.out 7).trans rfl,((HB.out.cell (World.block_lt_of_cell? w _ hw151_0)).trans hw151_0)⟩ (fun hHeld=>?_)
                 clear hK K
                 refine norm_ (a':=?_) ?_ ?_
                 rotate_left
                 ·
                  show Act.put _ (some 37) _=_
                  simp only [Act.put,List.setIfInBounds_toArray,List.set_cons_zero,List.set_cons_succ,i64_w,i32_w]
                  rfl
                 refine one_ (i:=3) (N:=some 26) #[true,true,true,true,true,true,true,true,true,true,true,true,true,true,true,false,false,false] rfl rfl (one_of HT_.out (by kernel_rfl)) (by decide) (fun K hK=>?_)
                 refine Kd.R_append_rows_step k40 (w0:=w) w.heap.size (by rfl) (.tmp 23) (.tmp 25) 37 40 (.agg #[(.int .i64 0),(.int .i64 0),(.int .i64 0),(.int .i64 0),(.int .i64 0),(.int .i64 0)]) 48 rfl Try.underlying37 info40 rfl (by decide) (by omega) (.slice Ao20 x2_1.length co20) x2_1 y145 _ _ _ (fun k_=>some k_≠(.slice Ao29 y145.length co29:Value).ownBlock∧k_≠gb144) (fun _=>False) rfl rfl ?aO ?aR (fun _ _ h=>h) (fun _ h=>h.elim) ?aF ?aB ?aS ?aL ?_
                 (case aR=>repeat (first|exact (Kd.R_reads' HO147.out).2.2|(with_reducible refine Kd.C_alloc ?_ _)|(with_reducible refine Kd.C_drewN ?_ _)|(with_reducible refine Kd.C_drew ?_)))
                 (case aB=>exact (by repeat (first|(with_reducible first|exact HB.out|apply below_alloc|apply pw_below_drewN|apply below_drew1|refine below_set ?_ GE138.out|refine below_set ?_ GE144.out)|exact HB.out)))
                 (case aF=>exact (fun k_ hk=>⟨Kd.fresh' (Kd.R_lt (by (with_reducible repeat (first|apply Kd.R_alloc|apply Kd.R_drewN|apply Kd.R_drew));exact HO147.out)) k_ hk,Kd.freshB (g:=gb144) (o:= .cells #[.int .i64 ((rd_T40 y139 x16_1).f0),.int .i64 ((rd_T40 y139 x16_1).f1),.int .i64 ((rd_T40 y139 x16_1).f2),.int .i64 ((rd_T40 y139 x16_1).f3),.int .i64 ((rd_T40 y139 x16_1).f4),.int .i64 ((rd_T40 y139 x16_1).f5)] 40 (0,0)) (by (with_reducible repeat (first|refine blk_drewN ?_ _|refine blk_drew ?_|refine blk_alloc ?_ _));exact BK144.out) k_ hk⟩))
                 (case aO=>exact (by (with_reducible repeat (first|apply Kd.R_alloc|apply Kd.R_drewN|apply Kd.R_drew));exact Kd.R_mono HO_2.out (fun _ hk=>⟨hk.2,hk.1⟩)))
                 (case aS=>exact (below_size (by repeat (first|(with_reducible first|exact HB.out|apply below_alloc|apply pw_below_drewN|apply below_drew1|refine below_set ?_ GE138.out|refine below_set ?_ GE144.out)|exact HB.out))))
                 (case aL=>have:=LMc12.out;omega)
                 intro v149 w28 ho hb hg hat
                 rw [← Ny148.out] at ho
                 have n0_:=Aside0.mk (Kd.R_over' (by (with_reducible repeat (first|apply Kd.R_alloc|apply Kd.R_drewN|apply Kd.R_drew));exact HO_3.out) (Kd.R_typed (by (with_reducible repeat (first|apply Kd.R_alloc|apply Kd.R_drewN|apply Kd.R_drew));exact HO_2.out)) (by decide) hg)
                 have n1_:=Aside0.mk (blk_grown (g:=gb138) (o:= .cells #[.int .i64 a0_0,.int .i64 a0_1,.int .i64 a0_2,.int .i64 a0_3,.int .i64 a0_4,.slice A0_5 l0_5.length c0_5,.slice (some ad151) l0_6.length c0_6,.int .i64 a0_7] 50 (0,0)) (by (with_reducible repeat (first|refine blk_drewN ?_ _|refine blk_drew ?_|refine blk_alloc ?_ _));exact BK138.out) hg (Kd.R_ne HO_2.out BK138.out (by decide)))
                 have n2_:=Aside0.mk (blk_grown (g:=gb144) (o:= .cells #[.int .i64 ((rd_T40 y139 x16_1).f0),.int .i64 ((rd_T40 y139 x16_1).f1),.int .i64 ((rd_T40 y139 x16_1).f2),.int .i64 ((rd_T40 y139 x16_1).f3),.int .i64 ((rd_T40 y139 x16_1).f4),.int .i64 ((rd_T40 y139 x16_1).f5)] 40 (0,0)) (by (with_reducible repeat (first|refine blk_drewN ?_ _|refine blk_drew ?_|refine blk_alloc ?_ _));exact BK144.out) hg (Kd.R_away HO_2.out (fun _ hk=>hk.1)))
                 have n3_:=Aside0.mk (Kd.R_after (ok:=(fun k_=>k_≠gb144)) (by (with_reducible repeat (first|apply Kd.R_alloc|apply Kd.R_drewN|apply Kd.R_drew));exact Kd.R_mono HO147.out (fun _ hk=>⟨hk.2,hk.1.2⟩)) hg hat)
                 have n4_:=Aside0.mk (Kd.R_over' (by (with_reducible repeat (first|apply Kd.R_alloc|apply Kd.R_drewN|apply Kd.R_drew));exact HO154.out) (Kd.R_typed (by (with_reducible repeat (first|apply Kd.R_alloc|apply Kd.R_drewN|apply Kd.R_drew));exact HO_2.out)) (by decide) hg)
                 have n5_:=Aside0.mk (hb)
                 have n6_:=Aside0.mk (ho)
                 clear HO_3
                 clear BK138
                 clear BK144
                 clear HO147
                 clear HO154
                 clear HB
                 clear HO_2
                 have HO_3:=n0_
                 have BK138:=n1_
                 have BK144:=n2_
                 have HO147:=n3_
                 have HO154:=n4_
                 have HB:=n5_
                 have HO150:=n6_
                 clear n0_ n1_ n2_ n3_ n4_ n5_ n6_
                 clear ho hb hg hat
                 refine hK.out _ _ ⟨(blk_cell BK144.out 0).trans rfl,(blk_cell BK144.out 1).trans rfl,(blk_cell BK144.out 2).trans rfl,(blk_cell BK144.out 3).trans rfl,(blk_cell BK144.out 4).trans rfl,(blk_cell BK144.out 5).trans rfl,(blk_cell BK138.out 0).trans rfl,(blk_cell BK138.out 1).trans rfl,(blk_cell BK138.out 2).trans rfl,(blk_cell BK138.out 3).trans rfl,(blk_cell BK138.out 4).trans rfl,(blk_cell BK138.out 5).trans rfl,(blk_cell BK138.out 6).trans rfl,(blk_cell BK138.out 7).trans rfl,((HB.out.cell (World.block_lt_of_cell? w _ hw151_0)).trans hw151_0)⟩ (fun hHeld=>?_)
                 clear hK K
                 refine norm_ (a':=?_) ?_ ?_
                 rotate_left
                 ·
                  show Act.put _ (some 26) _=_
                  simp only [Act.put,List.setIfInBounds_toArray,List.set_cons_zero,List.set_cons_succ,i64_w,i32_w]
                  rfl
                 exact norm_ (by simp only [putAll,Act.put,List.setIfInBounds_toArray,List.set_cons_zero,List.set_cons_succ]) (hCont (.slice Ao29 y145.length co29,v149,v153) _ ⟨hHeld,(by (with_reducible repeat (first|apply Kd.R_alloc|apply Kd.R_drewN|apply Kd.R_drew));exact Kd.R_mono HO147.out (fun _ hk=>⟨hk.2,hk.1⟩)),(by (with_reducible repeat (first|apply Kd.R_alloc|apply Kd.R_drewN|apply Kd.R_drew));exact HO150.out),(by (with_reducible repeat (first|apply Kd.R_alloc|apply Kd.R_drewN|apply Kd.R_drew));exact Kd.R_mono HO154.out (fun _ hk=>hk.2)),(by (with_reducible repeat (first|apply Kd.R_alloc|apply Kd.R_drewN|apply Kd.R_drew));exact Kd.R_mono HO_3.out (fun _ hk=>hk.2)),(by (with_reducible repeat (first|refine blk_drewN ?_ _|refine blk_drew ?_|refine blk_alloc ?_ _));exact BK138.out),(by (with_reducible repeat (first|refine blk_drewN ?_ _|refine blk_drew ?_|refine blk_alloc ?_ _));exact BK144.out),(by repeat (first|(with_reducible first|exact HB.out|apply below_alloc|apply pw_below_drewN|apply below_drew1|refine below_set ?_ GE138.out|refine below_set ?_ GE144.out)|exact HB.out))⟩)
               ·
                skip
                refine Kd.R_lit_step (Kd.int .i64) _ 3 ?hg (N:=37) ?hd (xs:=([rd l0_6 (ji13)]:List Int)) (inner:=[.int .i64 (rd l0_6 (ji13))]) (ok:=fun _=>True) (okp:=fun _=>True) ?hr ?hp (fun _ hk=>hk) trivial (Below.refl _ _) (Nat.le_refl _) (by simp) ?_;(case hd=>rfl);(case hg=>rfl);(case hr=>first|(go_simp;done)|(go_simp;rfl));(case hp=>exact (Reps.one (show Kd.M (Kd.int .i64) _ _ _ (rd l0_6 (ji13)) [.int .i64 (rd l0_6 (ji13))] from rfl) (Reps.none _ _)))
                intro v153 w24 ho25 hb hg_ hnew_
                clear hg_ hnew_
                (first|rw [← Ny152.out] at ho25|(simp only [Int.reduceToNat] at ho25;rw [← Ny152.out] at ho25))
                have n0_:=Aside0.mk (Kd.R_below (by (with_reducible repeat (first|apply Kd.R_alloc|apply Kd.R_drewN|apply Kd.R_drew));exact HO_2.out) hb)
                have n1_:=Aside0.mk (Kd.R_elder' (by (with_reducible repeat (first|apply Kd.R_alloc|apply Kd.R_drewN|apply Kd.R_drew));exact HO_3.out) (Kd.R_base ho25) hb)
                have n2_:=Aside0.mk (Kd.R_lower (Kd.R_new' ho25 (Kd.R_lt (by (with_reducible repeat (first|apply Kd.R_alloc|apply Kd.R_drewN|apply Kd.R_drew));exact HO_3.out))) (below_size (by repeat (first|(with_reducible first|exact HB.out|apply below_alloc|apply pw_below_drewN|apply below_drew1|refine below_set ?_ GE138.out|refine below_set ?_ GE144.out)|exact HB.out))))
                have n3_:=Aside0.mk (blk_below (g:=gb138) (o:= .cells #[.int .i64 a0_0,.int .i64 a0_1,.int .i64 a0_2,.int .i64 a0_3,.int .i64 a0_4,.slice A0_5 l0_5.length c0_5,.slice (some ad151) l0_6.length c0_6,.int .i64 a0_7] 50 (0,0)) (by (with_reducible repeat (first|refine blk_drewN ?_ _|refine blk_drew ?_|refine blk_alloc ?_ _));exact BK138.out) hb)
                have n4_:=Aside0.mk (blk_below (g:=gb144) (o:= .cells #[.int .i64 ((rd_T40 y139 x16_1).f0),.int .i64 ((rd_T40 y139 x16_1).f1),.int .i64 ((rd_T40 y139 x16_1).f2),.int .i64 ((rd_T40 y139 x16_1).f3),.int .i64 ((rd_T40 y139 x16_1).f4),.int .i64 ((rd_T40 y139 x16_1).f5)] 40 (0,0)) (by (with_reducible repeat (first|refine blk_drewN ?_ _|refine blk_drew ?_|refine blk_alloc ?_ _));exact BK144.out) hb)
                have n5_:=Aside0.mk (below_step (by repeat (first|(with_reducible first|exact HB.out|apply below_alloc|apply pw_below_drewN|apply below_drew1|refine below_set ?_ GE138.out|refine below_set ?_ GE144.out)|exact HB.out)) hb)
                clear HO_2
                clear HO_3
                clear BK138
                clear BK144
                clear HB
                have HO_2:=n0_
                have HO_3:=n1_
                have HO154:=n2_
                have BK138:=n3_
                have BK144:=n4_
                have HB:=n5_
                clear n0_ n1_ n2_ n3_ n4_ n5_
                clear hb ho25
                refine hK.out _ _ ⟨(blk_cell BK144.out 0).trans rfl,(blk_cell BK144.out 1).trans rfl,(blk_cell BK144.out 2).trans rfl,(blk_cell BK144.out 3).trans rfl,(blk_cell BK144.out 4).trans rfl,(blk_cell BK144.out 5).trans rfl,(blk_cell BK138.out 0).trans rfl,(blk_cell BK138.out 1).trans rfl,(blk_cell BK138.out 2).trans rfl,(blk_cell BK138.out 3).trans rfl,(blk_cell BK138.out 4).trans rfl,(blk_cell BK138.out 5).trans rfl,(blk_cell BK138.out 6).trans rfl,(blk_cell BK138.out 7).trans rfl,((HB.out.cell (World.block_lt_of_cell? w _ hw151_0)).trans hw151_0)⟩ (fun hHeld=>?_)
                clear hK K
                refine norm_ (a':=?_) ?_ ?_
                rotate_left
                ·
                 show Act.put _ (some 37) _=_
                 simp only [Act.put,List.setIfInBounds_toArray,List.set_cons_zero,List.set_cons_succ,i64_w,i32_w]
                 rfl
                refine one_ (i:=2) (N:=some 25) #[true,true,true,false,true,true,true,true,true,true,true,true,true,true,true,false,false,false] rfl rfl (one_of HT_.out (by kernel_rfl)) (by decide) (fun K hK=>?_)
                refine Kd.R_lit_step k40 _ 40 ?hg (N:=25) ?hd (xs:=([(⟨(rd_T40 y139 x16_1).f0,(rd_T40 y139 x16_1).f1,(rd_T40 y139 x16_1).f2,(rd_T40 y139 x16_1).f3,(rd_T40 y139 x16_1).f4,(rd_T40 y139 x16_1).f5⟩:S40)]:List (S40))) (inner:=[.int .i64 ((rd_T40 y139 x16_1).f0),.int .i64 ((rd_T40 y139 x16_1).f1),.int .i64 ((rd_T40 y139 x16_1).f2),.int .i64 ((rd_T40 y139 x16_1).f3),.int .i64 ((rd_T40 y139 x16_1).f4),.int .i64 ((rd_T40 y139 x16_1).f5)]) (ok:=fun _=>True) (okp:=fun _=>True) ?hr ?hp (fun _ hk=>hk) trivial (Below.refl _ _) (Nat.le_refl _) (by simp) ?_;(case hd=>rfl);(case hg=>rfl);(case hr=>first|(go_simp;done)|(go_simp;rfl));(case hp=>exact (Reps.c6 (show Kd.M k40 _ _ _ (⟨(rd_T40 y139 x16_1).f0,(rd_T40 y139 x16_1).f1,(rd_T40 y139 x16_1).f2,(rd_T40 y139 x16_1).f3,(rd_T40 y139 x16_1).f4,(rd_T40 y139 x16_1).f5⟩:S40) [.int .i64 ((rd_T40 y139 x16_1).f0),.int .i64 ((rd_T40 y139 x16_1).f1),.int .i64 ((rd_T40 y139 x16_1).f2),.int .i64 ((rd_T40 y139 x16_1).f3),.int .i64 ((rd_T40 y139 x16_1).f4),.int .i64 ((rd_T40 y139 x16_1).f5)] from (k40_mkM _ _ _ (⟨(rd_T40 y139 x16_1).f0,(rd_T40 y139 x16_1).f1,(rd_T40 y139 x16_1).f2,(rd_T40 y139 x16_1).f3,(rd_T40 y139 x16_1).f4,(rd_T40 y139 x16_1).f5⟩:S40))) (Reps.none _ _)))
                intro v146 w26 ho27 hb hg_ hnew_
                clear hg_ hnew_
                (first|rw [← Ny145.out] at ho27|(simp only [Int.reduceToNat] at ho27;rw [← Ny145.out] at ho27))
                have n0_:=Aside0.mk (Kd.R_elder' (by (with_reducible repeat (first|apply Kd.R_alloc|apply Kd.R_drewN|apply Kd.R_drew));exact HO_2.out) (Kd.R_base ho27) hb)
                have n1_:=Aside0.mk (Kd.R_below (by (with_reducible repeat (first|apply Kd.R_alloc|apply Kd.R_drewN|apply Kd.R_drew));exact HO_3.out) hb)
                have n2_:=Aside0.mk (Kd.R_below (by (with_reducible repeat (first|apply Kd.R_alloc|apply Kd.R_drewN|apply Kd.R_drew));exact HO154.out) hb)
                have n3_:=Aside0.mk (Kd.R_lower (Kd.R_newB (Kd.R_new' ho27 (Kd.R_lt (by (with_reducible repeat (first|apply Kd.R_alloc|apply Kd.R_drewN|apply Kd.R_drew));exact HO_2.out))) (g:=gb144) (o:= .cells #[.int .i64 ((rd_T40 y139 x16_1).f0),.int .i64 ((rd_T40 y139 x16_1).f1),.int .i64 ((rd_T40 y139 x16_1).f2),.int .i64 ((rd_T40 y139 x16_1).f3),.int .i64 ((rd_T40 y139 x16_1).f4),.int .i64 ((rd_T40 y139 x16_1).f5)] 40 (0,0)) (by (with_reducible repeat (first|refine blk_drewN ?_ _|refine blk_drew ?_|refine blk_alloc ?_ _));exact BK144.out)) (below_size (by repeat (first|(with_reducible first|exact HB.out|apply below_alloc|apply pw_below_drewN|apply below_drew1|refine below_set ?_ GE138.out|refine below_set ?_ GE144.out)|exact HB.out))))
                have n4_:=Aside0.mk (blk_below (g:=gb138) (o:= .cells #[.int .i64 a0_0,.int .i64 a0_1,.int .i64 a0_2,.int .i64 a0_3,.int .i64 a0_4,.slice A0_5 l0_5.length c0_5,.slice (some ad151) l0_6.length c0_6,.int .i64 a0_7] 50 (0,0)) (by (with_reducible repeat (first|refine blk_drewN ?_ _|refine blk_drew ?_|refine blk_alloc ?_ _));exact BK138.out) hb)
                have n5_:=Aside0.mk (blk_below (g:=gb144) (o:= .cells #[.int .i64 ((rd_T40 y139 x16_1).f0),.int .i64 ((rd_T40 y139 x16_1).f1),.int .i64 ((rd_T40 y139 x16_1).f2),.int .i64 ((rd_T40 y139 x16_1).f3),.int .i64 ((rd_T40 y139 x16_1).f4),.int .i64 ((rd_T40 y139 x16_1).f5)] 40 (0,0)) (by (with_reducible repeat (first|refine blk_drewN ?_ _|refine blk_drew ?_|refine blk_alloc ?_ _));exact BK144.out) hb)
                have n6_:=Aside0.mk (below_step (by repeat (first|(with_reducible first|exact HB.out|apply below_alloc|apply pw_below_drewN|apply below_drew1|refine below_set ?_ GE138.out|refine below_set ?_ GE144.out)|exact HB.out)) hb)
                clear HO_2
                clear HO_3
                clear HO154
                clear BK138
                clear BK144
                clear HB
                have HO_2:=n0_
                have HO_3:=n1_
                have HO154:=n2_
                have HO147:=n3_
                have BK138:=n4_
                have BK144:=n5_
                have HB:=n6_
                clear n0_ n1_ n2_ n3_ n4_ n5_ n6_
                clear hb ho27
                obtain ⟨Ao29,co29,eo29⟩:=Kd.R_slice HO147.out
                (first|subst eo29|(injection eo29 with f1_ f2_ f3_;have f4_:=f1_.symm;have f5_:=f3_.symm;clear f1_ f2_ f3_;subst f4_;subst f5_))
                refine hK.out _ _ ⟨(blk_cell BK144.out 0).trans rfl,(blk_cell BK144.out 1).trans rfl,(blk_cell BK144.out 2).trans rfl,(blk_cell BK144.out 3).trans rfl,(blk_cell BK144.out 4).trans rfl,(blk_cell BK144.out 5).trans rfl,(blk_cell BK138.out 0).trans rfl,(blk_cell BK138.out 1).trans rfl,(blk_cell BK138.out 2).trans rfl,(blk_cell BK138.out 3).trans rfl,(blk_cell BK138.out 4).trans rfl,(blk_cell BK138.out 5).trans rfl,(blk_cell BK138.out 6).trans rfl,(blk_cell BK138.out 7).trans rfl,((HB.out.cell (World.block_lt_of_cell? w _ hw151_0)).trans hw151_0)⟩ (fun hHeld=>?_)
                clear hK K
                refine norm_ (a':=?_) ?_ ?_
                rotate_left
                ·
                 show Act.put _ (some 25) _=_
                 simp only [Act.put,List.setIfInBounds_toArray,List.set_cons_zero,List.set_cons_succ,i64_w,i32_w]
                 rfl
                refine one_ (i:=3) (N:=some 26) #[true,true,true,true,true,true,true,true,true,true,true,true,true,true,true,false,false,false] rfl rfl (one_of HT_.out (by kernel_rfl)) (by decide) (fun K hK=>?_)
                refine Kd.R_append_rows_step k40 (w0:=w) w.heap.size (by rfl) (.tmp 23) (.tmp 25) 37 40 (.agg #[(.int .i64 0),(.int .i64 0),(.int .i64 0),(.int .i64 0),(.int .i64 0),(.int .i64 0)]) 48 rfl Try.underlying37 info40 rfl (by decide) (by omega) (.slice Ao20 x2_1.length co20) x2_1 y145 _ _ _ (fun k_=>some k_≠(.slice Ao29 y145.length co29:Value).ownBlock∧k_≠gb144) (fun _=>False) rfl rfl ?aO ?aR (fun _ _ h=>h) (fun _ h=>h.elim) ?aF ?aB ?aS ?aL ?_
                (case aR=>repeat (first|exact (Kd.R_reads' HO147.out).2.2|(with_reducible refine Kd.C_alloc ?_ _)|(with_reducible refine Kd.C_drewN ?_ _)|(with_reducible refine Kd.C_drew ?_)))
                (case aB=>exact (by repeat (first|(with_reducible first|exact HB.out|apply below_alloc|apply pw_below_drewN|apply below_drew1|refine below_set ?_ GE138.out|refine below_set ?_ GE144.out)|exact HB.out)))
                (case aF=>exact (fun k_ hk=>⟨Kd.fresh' (Kd.R_lt (by (with_reducible repeat (first|apply Kd.R_alloc|apply Kd.R_drewN|apply Kd.R_drew));exact HO147.out)) k_ hk,Kd.freshB (g:=gb144) (o:= .cells #[.int .i64 ((rd_T40 y139 x16_1).f0),.int .i64 ((rd_T40 y139 x16_1).f1),.int .i64 ((rd_T40 y139 x16_1).f2),.int .i64 ((rd_T40 y139 x16_1).f3),.int .i64 ((rd_T40 y139 x16_1).f4),.int .i64 ((rd_T40 y139 x16_1).f5)] 40 (0,0)) (by (with_reducible repeat (first|refine blk_drewN ?_ _|refine blk_drew ?_|refine blk_alloc ?_ _));exact BK144.out) k_ hk⟩))
                (case aO=>exact (by (with_reducible repeat (first|apply Kd.R_alloc|apply Kd.R_drewN|apply Kd.R_drew));exact Kd.R_mono HO_2.out (fun _ hk=>⟨hk.2,hk.1⟩)))
                (case aS=>exact (below_size (by repeat (first|(with_reducible first|exact HB.out|apply below_alloc|apply pw_below_drewN|apply below_drew1|refine below_set ?_ GE138.out|refine below_set ?_ GE144.out)|exact HB.out))))
                (case aL=>have:=LMc12.out;omega)
                intro v149 w28 ho hb hg hat
                rw [← Ny148.out] at ho
                have n0_:=Aside0.mk (Kd.R_over' (by (with_reducible repeat (first|apply Kd.R_alloc|apply Kd.R_drewN|apply Kd.R_drew));exact HO_3.out) (Kd.R_typed (by (with_reducible repeat (first|apply Kd.R_alloc|apply Kd.R_drewN|apply Kd.R_drew));exact HO_2.out)) (by decide) hg)
                have n1_:=Aside0.mk (blk_grown (g:=gb138) (o:= .cells #[.int .i64 a0_0,.int .i64 a0_1,.int .i64 a0_2,.int .i64 a0_3,.int .i64 a0_4,.slice A0_5 l0_5.length c0_5,.slice (some ad151) l0_6.length c0_6,.int .i64 a0_7] 50 (0,0)) (by (with_reducible repeat (first|refine blk_drewN ?_ _|refine blk_drew ?_|refine blk_alloc ?_ _));exact BK138.out) hg (Kd.R_ne HO_2.out BK138.out (by decide)))
                have n2_:=Aside0.mk (blk_grown (g:=gb144) (o:= .cells #[.int .i64 ((rd_T40 y139 x16_1).f0),.int .i64 ((rd_T40 y139 x16_1).f1),.int .i64 ((rd_T40 y139 x16_1).f2),.int .i64 ((rd_T40 y139 x16_1).f3),.int .i64 ((rd_T40 y139 x16_1).f4),.int .i64 ((rd_T40 y139 x16_1).f5)] 40 (0,0)) (by (with_reducible repeat (first|refine blk_drewN ?_ _|refine blk_drew ?_|refine blk_alloc ?_ _));exact BK144.out) hg (Kd.R_away HO_2.out (fun _ hk=>hk.1)))
                have n3_:=Aside0.mk (Kd.R_over' (by (with_reducible repeat (first|apply Kd.R_alloc|apply Kd.R_drewN|apply Kd.R_drew));exact HO154.out) (Kd.R_typed (by (with_reducible repeat (first|apply Kd.R_alloc|apply Kd.R_drewN|apply Kd.R_drew));exact HO_2.out)) (by decide) hg)
                have n4_:=Aside0.mk (Kd.R_after (ok:=(fun k_=>k_≠gb144)) (by (with_reducible repeat (first|apply Kd.R_alloc|apply Kd.R_drewN|apply Kd.R_drew));exact Kd.R_mono HO147.out (fun _ hk=>⟨hk.2,hk.1.2⟩)) hg hat)
                have n5_:=Aside0.mk (hb)
                have n6_:=Aside0.mk (ho)
                clear HO_3
                clear BK138
                clear BK144
                clear HO154
                clear HO147
                clear HB
                clear HO_2
                have HO_3:=n0_
                have BK138:=n1_
                have BK144:=n2_
                have HO154:=n3_
                have HO147:=n4_
                have HB:=n5_
                have HO150:=n6_
                clear n0_ n1_ n2_ n3_ n4_ n5_ n6_
                clear ho hb hg hat
                refine hK.out _ _ ⟨(blk_cell BK144.out 0).trans rfl,(blk_cell BK144.out 1).trans rfl,(blk_cell BK144.out 2).trans rfl,(blk_cell BK144.out 3).trans rfl,(blk_cell BK144.out 4).trans rfl,(blk_cell BK144.out 5).trans rfl,(blk_cell BK138.out 0).trans rfl,(blk_cell BK138.out 1).trans rfl,(blk_cell BK138.out 2).trans rfl,(blk_cell BK138.out 3).trans rfl,(blk_cell BK138.out 4).trans rfl,(blk_cell BK138.out 5).trans rfl,(blk_cell BK138.out 6).trans rfl,(blk_cell BK138.out 7).trans rfl,((HB.out.cell (World.block_lt_of_cell? w _ hw151_0)).trans hw151_0)⟩ (fun hHeld=>?_)
                clear hK K
                refine norm_ (a':=?_) ?_ ?_
                rotate_left
                ·
                 show Act.put _ (some 26) _=_
                 simp only [Act.put,List.setIfInBounds_toArray,List.set_cons_zero,List.set_cons_succ,i64_w,i32_w]
                 rfl
                exact norm_ (by simp only [putAll,Act.put,List.setIfInBounds_toArray,List.set_cons_zero,List.set_cons_succ]) (hCont (.slice Ao29 y145.length co29,v149,v153) _ ⟨hHeld,(by (with_reducible repeat (first|apply Kd.R_alloc|apply Kd.R_drewN|apply Kd.R_drew));exact Kd.R_mono HO147.out (fun _ hk=>⟨hk.2,hk.1⟩)),(by (with_reducible repeat (first|apply Kd.R_alloc|apply Kd.R_drewN|apply Kd.R_drew));exact HO150.out),(by (with_reducible repeat (first|apply Kd.R_alloc|apply Kd.R_drewN|apply Kd.R_drew));exact Kd.R_mono HO154.out (fun _ hk=>hk.2)),(by (with_reducible repeat (first|apply Kd.R_alloc|apply Kd.R_drewN|apply Kd.R_drew));exact Kd.R_mono HO_3.out (fun _ hk=>hk.2)),(by (with_reducible repeat (first|refine blk_drewN ?_ _|refine blk_drew ?_|refine blk_alloc ?_ _));exact BK138.out),(by (with_reducible repeat (first|refine blk_drewN ?_ _|refine blk_drew ?_|refine blk_alloc ?_ _));exact BK144.out),(by repeat (first|(with_reducible first|exact HB.out|apply below_alloc|apply pw_below_drewN|apply below_drew1|refine below_set ?_ GE138.out|refine below_set ?_ GE144.out)|exact HB.out))⟩)
              rintro ⟨v146,v149,v153⟩ w30 ⟨hS_,h0_,h1_,h2_,h3_,h4_,h5_,h6_⟩
              have n0_:Aside0 (Kd.R k40 40 w30 w.heap.size (fun k_=>some k_≠(v149:Value).ownBlock∧k_≠gb144) v146 y145):=⟨h0_⟩
              have n1_:Aside0 (Kd.R k40 40 w30 w.heap.size (fun k_=>some k_≠(v146:Value).ownBlock∧k_≠gb144) v149 y148):=⟨h1_⟩
              have n2_:Aside0 (Kd.R (Kd.int .i64) 3 w30 w.heap.size (fun k_=>some k_≠(.slice Ao21 x3_1.length co21:Value).ownBlock) v153 y152):=⟨h2_⟩
              have n3_:Aside0 (Kd.R (Kd.int .i64) 3 w30 w.heap.size (fun k_=>some k_≠(v153:Value).ownBlock) (.slice Ao21 x3_1.length co21) x3_1):=⟨h3_⟩
              have n4_:Aside0 (w30.heap[gb138]?=some (.cells #[.int .i64 a0_0,.int .i64 a0_1,.int .i64 a0_2,.int .i64 a0_3,.int .i64 a0_4,.slice A0_5 l0_5.length c0_5,.slice (some ad151) l0_6.length c0_6,.int .i64 a0_7] 50 (0,0))):=⟨h4_⟩
              have n5_:Aside0 (w30.heap[gb144]?=some (.cells #[.int .i64 ((rd_T40 y139 x16_1).f0),.int .i64 ((rd_T40 y139 x16_1).f1),.int .i64 ((rd_T40 y139 x16_1).f2),.int .i64 ((rd_T40 y139 x16_1).f3),.int .i64 ((rd_T40 y139 x16_1).f4),.int .i64 ((rd_T40 y139 x16_1).f5)] 40 (0,0))):=⟨h5_⟩
              have n6_:Aside0 (Below w.heap.size w w30):=⟨h6_⟩
              clear HO_2
              clear HO_3
              clear BK138
              clear BK144
              clear HB
              clear h0_ h1_ h2_ h3_ h4_ h5_ h6_
              have HO147:=n0_
              have HO150:=n1_
              have HO154:=n2_
              have HO_3:=n3_
              have BK138:=n4_
              have BK144:=n5_
              have HB:=n6_
              clear n0_ n1_ n2_ n3_ n4_ n5_ n6_
              have hHeld:w30.cell? ⟨gb144,0,none⟩=some (.int .i64 ((rd_T40 y139 x16_1).f0))∧w30.cell? ⟨gb144,1,none⟩=some (.int .i64 ((rd_T40 y139 x16_1).f1))∧w30.cell? ⟨gb144,2,none⟩=some (.int .i64 ((rd_T40 y139 x16_1).f2))∧w30.cell? ⟨gb144,3,none⟩=some (.int .i64 ((rd_T40 y139 x16_1).f3))∧w30.cell? ⟨gb144,4,none⟩=some (.int .i64 ((rd_T40 y139 x16_1).f4))∧w30.cell? ⟨gb144,5,none⟩=some (.int .i64 ((rd_T40 y139 x16_1).f5))∧w30.cell? ⟨gb138,0,none⟩=some (.int .i64 a0_0)∧w30.cell? ⟨gb138,1,none⟩=some (.int .i64 a0_1)∧w30.cell? ⟨gb138,2,none⟩=some (.int .i64 a0_2)∧w30.cell? ⟨gb138,3,none⟩=some (.int .i64 a0_3)∧w30.cell? ⟨gb138,4,none⟩=some (.int .i64 a0_4)∧w30.cell? ⟨gb138,5,none⟩=some (.slice A0_5 l0_5.length c0_5)∧w30.cell? ⟨gb138,6,none⟩=some (.slice (some ad151) l0_6.length c0_6)∧w30.cell? ⟨gb138,7,none⟩=some (.int .i64 a0_7)∧w30.cell? (ad151.add ((ji13)).toNat)=some (.int .i64 (rd l0_6 (ji13))):=hS_
              obtain ⟨Ao32,co32,eo32⟩:=Kd.R_slice HO154.out
              (first|subst eo32|(injection eo32 with f1_ f2_ f3_;have f4_:=f1_.symm;have f5_:=f3_.symm;clear f1_ f2_ f3_;subst f4_;subst f5_))
              refine norm_ (a':=?_) ?_ ?_
              rotate_left
              ·
               simp only [putAll,Act.put,List.setIfInBounds_toArray,List.set_cons_zero,List.set_cons_succ]
               rfl
              refine one_ (i:=15) (N:=some 38) #[true,true,true,true,true,true,true,true,true,true,true,true,true,true,true,true,false,false] rfl rfl (one_of HT_.out (by kernel_rfl)) (by decide) (fun K hK=>?_)
              refine Kd.R_append_rows_step (Kd.int .i64) (w0:=w) w.heap.size (by rfl) (.tmp 27) (.tmp 37) 23 3 (.int .i64 0) 8 rfl Try.underlying23 info3 rfl (by decide) (by omega) (.slice Ao21 x3_1.length co21) x3_1 y152 _ _ _ (fun k_=>some k_≠(.slice Ao32 y152.length co32:Value).ownBlock) (fun _=>False) rfl rfl ?aO ?aR (fun _ _ h=>h) (fun _ h=>h.elim) ?aF ?aB ?aS ?aL ?_
              (case aR=>repeat (first|exact (Kd.R_reads' HO154.out).2.2|(with_reducible refine Kd.C_alloc ?_ _)|(with_reducible refine Kd.C_drewN ?_ _)|(with_reducible refine Kd.C_drew ?_)))
              (case aB=>exact (by repeat (first|(with_reducible first|exact HB.out|apply below_alloc|apply pw_below_drewN|apply below_drew1|refine below_set ?_ GE138.out|refine below_set ?_ GE144.out)|exact HB.out)))
              (case aF=>exact (fun k_ hk=>Kd.fresh' (Kd.R_lt (by (with_reducible repeat (first|apply Kd.R_alloc|apply Kd.R_drewN|apply Kd.R_drew));exact HO154.out)) k_ hk))
              (case aO=>exact (by (with_reducible repeat (first|apply Kd.R_alloc|apply Kd.R_drewN|apply Kd.R_drew));exact HO_3.out))
              (case aS=>exact (below_size (by repeat (first|(with_reducible first|exact HB.out|apply below_alloc|apply pw_below_drewN|apply below_drew1|refine below_set ?_ GE138.out|refine below_set ?_ GE144.out)|exact HB.out))))
              (case aL=>have:=LMc16.out;omega)
              intro v156 w31 ho hb hg hat
              rw [← Ny155.out] at ho
              have n0_:=Aside0.mk (blk_grown (g:=gb138) (o:= .cells #[.int .i64 a0_0,.int .i64 a0_1,.int .i64 a0_2,.int .i64 a0_3,.int .i64 a0_4,.slice A0_5 l0_5.length c0_5,.slice (some ad151) l0_6.length c0_6,.int .i64 a0_7] 50 (0,0)) (by (with_reducible repeat (first|refine blk_drewN ?_ _|refine blk_drew ?_|refine blk_alloc ?_ _));exact BK138.out) hg (Kd.R_ne HO_3.out BK138.out (by decide)))
              have n1_:=Aside0.mk (blk_grown (g:=gb144) (o:= .cells #[.int .i64 ((rd_T40 y139 x16_1).f0),.int .i64 ((rd_T40 y139 x16_1).f1),.int .i64 ((rd_T40 y139 x16_1).f2),.int .i64 ((rd_T40 y139 x16_1).f3),.int .i64 ((rd_T40 y139 x16_1).f4),.int .i64 ((rd_T40 y139 x16_1).f5)] 40 (0,0)) (by (with_reducible repeat (first|refine blk_drewN ?_ _|refine blk_drew ?_|refine blk_alloc ?_ _));exact BK144.out) hg (Kd.R_ne HO_3.out BK144.out (by decide)))
              have n2_:=Aside0.mk (Kd.R_over' (by (with_reducible repeat (first|apply Kd.R_alloc|apply Kd.R_drewN|apply Kd.R_drew));exact HO147.out) (Kd.R_typed (by (with_reducible repeat (first|apply Kd.R_alloc|apply Kd.R_drewN|apply Kd.R_drew));exact HO_3.out)) (by decide) hg)
              have n3_:=Aside0.mk (Kd.R_over' (by (with_reducible repeat (first|apply Kd.R_alloc|apply Kd.R_drewN|apply Kd.R_drew));exact HO150.out) (Kd.R_typed (by (with_reducible repeat (first|apply Kd.R_alloc|apply Kd.R_drewN|apply Kd.R_drew));exact HO_3.out)) (by decide) hg)
              have n4_:=Aside0.mk (Kd.R_after (ok:=(fun _=>True)) (by (with_reducible repeat (first|apply Kd.R_alloc|apply Kd.R_drewN|apply Kd.R_drew));exact Kd.R_mono HO154.out (fun _ hk=>⟨trivial,hk⟩)) hg hat)
              have n5_:=Aside0.mk (hb)
              have n6_:=Aside0.mk (ho)
              clear BK138
              clear BK144
              clear HO147
              clear HO150
              clear HO154
              clear HB
              clear HO_3
              have BK138:=n0_
              have BK144:=n1_
              have HO147:=n2_
              have HO150:=n3_
              have HO154:=n4_
              have HB:=n5_
              have HO157:=n6_
              clear n0_ n1_ n2_ n3_ n4_ n5_ n6_
              clear ho hb hg hat
              refine hK.out _ _ ⟨(blk_cell BK144.out 0).trans rfl,(blk_cell BK144.out 1).trans rfl,(blk_cell BK144.out 2).trans rfl,(blk_cell BK144.out 3).trans rfl,(blk_cell BK144.out 4).trans rfl,(blk_cell BK144.out 5).trans rfl,(blk_cell BK138.out 0).trans rfl,(blk_cell BK138.out 1).trans rfl,(blk_cell BK138.out 2).trans rfl,(blk_cell BK138.out 3).trans rfl,(blk_cell BK138.out 4).trans rfl,(blk_cell BK138.out 5).trans rfl,(blk_cell BK138.out 6).trans rfl,(blk_cell BK138.out 7).trans rfl,((HB.out.cell (World.block_lt_of_cell? w _ hw151_0)).trans hw151_0)⟩ (fun hHeld=>?_)
              clear hK K
              refine norm_ (a':=?_) ?_ ?_
              rotate_left
              ·
               show Act.put _ (some 38) _=_
               simp only [Act.put,List.setIfInBounds_toArray,List.set_cons_zero,List.set_cons_succ,i64_w,i32_w]
               rfl
              refine pure_ (i:=16) (N:=some 2) (v:=?_) (a':=?_) #[true,true,true,true,true,true,true,true,true,true,true,true,true,true,true,true,true,false] rfl rfl (any_of HT_.out (by kernel_rfl)) (fun _ _ _ h=>h) (Or.inl ⟨by rfl,?_⟩) ?_ ?_
              rotate_left
              ·
               intro w'
               go_simp
               with_reducible rfl
              rotate_left
              ·
               simp only [Act.put,List.setIfInBounds_toArray,List.set_cons_zero,List.set_cons_succ,i64_w,i32_w]
               rfl
              refine pure_ (i:=17) (N:=some 3) (v:=?_) (a':=?_) #[true,true,true,true,true,true,true,true,true,true,true,true,true,true,true,true,true,true] rfl rfl (any_of HT_.out (by kernel_rfl)) (fun _ _ _ h=>h) (Or.inl ⟨by rfl,?_⟩) ?_ ?_
              rotate_left
              ·
               intro w'
               go_simp
               with_reducible rfl
              rotate_left
              ·
               simp only [Act.put,List.setIfInBounds_toArray,List.set_cons_zero,List.set_cons_succ,i64_w,i32_w]
               rfl
              refine done_ (done_of HT_.out (by kernel_rfl)) ?_
              try go_wp2
              go_roundg k1
              case measure=>have:=HK1.out;omega
              case rel=>exact ⟨(y148),(y155),(wrap64 (x16_1+1)),(by first|rfl|(simp;done)|(simp [*];done)),H',⟨by have:=HK1.out;omega⟩,⟨by (with_reducible repeat (first|apply Kd.R_alloc|apply Kd.R_drewN|apply Kd.R_drew));exact Kd.R_mono HO150.out (fun _ hk=>trivial)⟩,⟨by (with_reducible repeat (first|apply Kd.R_alloc|apply Kd.R_drewN|apply Kd.R_drew));exact Kd.R_mono HO157.out (fun _ hk=>trivial)⟩,⟨by (with_reducible repeat (first|refine blk_drewN ?_ _|refine blk_drew ?_|refine blk_alloc ?_ _));exact BK138.out⟩,⟨by repeat (first|(with_reducible first|exact HB.out|apply below_alloc|apply pw_below_drewN|apply below_drew1|refine below_set ?_ GE138.out|refine below_set ?_ GE144.out)|exact HB.out)⟩⟩
             ·
              rw [if_neg c16] at H
              exact absurd H (by simp)
            ·
             rw [if_neg c15] at H
             exact absurd H (by simp)
           ·
            rw [if_neg c14] at H
            exact absurd H (by simp)
          ·
           rw [if_neg c12] at H
           exact absurd H (by simp)
         ·
          rw [if_neg c11] at H
          have c11b0:decide (0 < ((rd_T40 y139 x16_1).f4))=false:=decide_eq_false c11
          clear c11
          have H':=Aside0.mk H
          clear H
          have p143:0≤(x16_1:Int):=of_decide_eq_true (by first|(with_reducible assumption)|assumption)
          have q143:x16_1 < (y139.length:Int):=of_decide_eq_true (by first|(with_reducible assumption)|assumption)
          obtain ⟨ad143,e143,hx143_0,hx143_1,hx143_2,hx143_3,hx143_4,hx143_5⟩:=at_T40 HR142.out x16_1 p143 q143
          cases e143
          replace hx143_0:=(HB.out.cell (World.block_lt_of_cell? w _ hx143_0)).trans hx143_0
          replace hx143_1:=(HB.out.cell (World.block_lt_of_cell? w _ hx143_1)).trans hx143_1
          replace hx143_2:=(HB.out.cell (World.block_lt_of_cell? w _ hx143_2)).trans hx143_2
          replace hx143_3:=(HB.out.cell (World.block_lt_of_cell? w _ hx143_3)).trans hx143_3
          replace hx143_4:=(HB.out.cell (World.block_lt_of_cell? w _ hx143_4)).trans hx143_4
          replace hx143_5:=(HB.out.cell (World.block_lt_of_cell? w _ hx143_5)).trans hx143_5
          replace p143:=eq_true p143
          replace q143:=eq_true q143
          go_wp2_with (first|((with_reducible refine gate_dst (N:=5) rfl ?_);refine box_event ?hg (N:=5) ?hd (cs:= #[.int .i64 0,.int .i64 0,.int .i64 0,.int .i64 0,.int .i64 0,.int .i64 0]) (t:=40) ?hr ?_;(case hd=>rfl);(case hg=>rfl);(case hr=>first|(go_simp;done)|(go_simp;rfl));intro gb144 hg w33 hbox hb;have n0_:=Aside0.mk (Kd.R_below (Kd.R_elderB (by (with_reducible repeat (first|apply Kd.R_alloc|apply Kd.R_drewN|apply Kd.R_drew));exact HO_2.out) gb144 (Nat.le_of_eq hg.symm)) hb);have n1_:=Aside0.mk (Kd.R_below (by (with_reducible repeat (first|apply Kd.R_alloc|apply Kd.R_drewN|apply Kd.R_drew));exact HO_3.out) hb);have n2_:=Aside0.mk (blk_below (g:=gb138) (o:= .cells #[.int .i64 a0_0,.int .i64 a0_1,.int .i64 a0_2,.int .i64 a0_3,.int .i64 a0_4,.slice A0_5 l0_5.length c0_5,.slice A0_6 l0_6.length c0_6,.int .i64 a0_7] 50 (0,0)) (by (with_reducible repeat (first|refine blk_drewN ?_ _|refine blk_drew ?_|refine blk_alloc ?_ _));exact BK138.out) hb);have n3_:=Aside0.mk (below_step (by repeat (first|(with_reducible first|exact HB.out|apply below_alloc|apply pw_below_drewN|apply below_drew1|refine below_set ?_ GE138.out)|exact HB.out)) hb);have n4_:=Aside0.mk (hbox);have n5_:=Aside0.mk ((by rw [hg];exact (below_size (by repeat (first|(with_reducible first|exact HB.out|apply below_alloc|apply pw_below_drewN|apply below_drew1|refine below_set ?_ GE138.out)|exact HB.out))):w.heap.size≤gb144));have n6_:=Aside0.mk ((by rw [hg];exact (below_size (by repeat (first|(with_reducible first|exact HB.out|apply below_alloc|apply pw_below_drewN|apply below_drew1|refine below_set ?_ GE138.out)|exact HB.out))):w.heap.size≤gb144));have n7_:=Aside0.mk ((by rw [hg];exact Nat.ne_of_lt (blk_lt (g:=gb138) (o:= .cells #[.int .i64 a0_0,.int .i64 a0_1,.int .i64 a0_2,.int .i64 a0_3,.int .i64 a0_4,.slice A0_5 l0_5.length c0_5,.slice A0_6 l0_6.length c0_6,.int .i64 a0_7] 50 (0,0)) (by (with_reducible repeat (first|refine blk_drewN ?_ _|refine blk_drew ?_|refine blk_alloc ?_ _));exact BK138.out)):gb138≠gb144));have n8_:=Aside0.mk ((by rw [hg];exact Nat.ne_of_gt (blk_lt (g:=gb138) (o:= .cells #[.int .i64 a0_0,.int .i64 a0_1,.int .i64 a0_2,.int .i64 a0_3,.int .i64 a0_4,.slice A0_5 l0_5.length c0_5,.slice A0_6 l0_6.length c0_6,.int .i64 a0_7] 50 (0,0)) (by (with_reducible repeat (first|refine blk_drewN ?_ _|refine blk_drew ?_|refine blk_alloc ?_ _));exact BK138.out)):gb144≠gb138));clear HO_2;clear HO_3;clear BK138;clear HB;have HO_2:=n0_;have HO_3:=n1_;have BK138:=n2_;have HB:=n3_;have BK144:=n4_;have GW144:=n5_;have GE144:=n6_;have NB138_144:=n7_;have NB144_138:=n8_;clear n0_ n1_ n2_ n3_ n4_ n5_ n6_ n7_ n8_;clear hb hbox hg;have hnb34:=NB144_138.out;have hnc34:=NB138_144.out;have hcz35_0:w33.cell? ⟨gb144,0,none⟩=some (.int .i64 0):=(blk_cell BK144.out 0).trans rfl;have hcz35_1:w33.cell? ⟨gb144,1,none⟩=some (.int .i64 0):=(blk_cell BK144.out 1).trans rfl;have hcz35_2:w33.cell? ⟨gb144,2,none⟩=some (.int .i64 0):=(blk_cell BK144.out 2).trans rfl;have hcz35_3:w33.cell? ⟨gb144,3,none⟩=some (.int .i64 0):=(blk_cell BK144.out 3).trans rfl;have hcz35_4:w33.cell? ⟨gb144,4,none⟩=some (.int .i64 0):=(blk_cell BK144.out 4).trans rfl;have hcz35_5:w33.cell? ⟨gb144,5,none⟩=some (.int .i64 0):=(blk_cell BK144.out 5).trans rfl;have hfz35_0:=blk_frozen BK144.out 0;have hfz35_1:=blk_frozen BK144.out 1;have hfz35_2:=blk_frozen BK144.out 2;have hfz35_3:=blk_frozen BK144.out 3;have hfz35_4:=blk_frozen BK144.out 4;have hfz35_5:=blk_frozen BK144.out 5))
          go_roundg k1
          case measure=>have:=HK1.out;omega
          case rel=>exact ⟨(x2_1),(x3_1),(wrap64 (x16_1+1)),(by first|rfl|(simp;done)|(simp [*];done)),H',⟨by have:=HK1.out;omega⟩,⟨by (with_reducible repeat (first|apply Kd.R_alloc|apply Kd.R_drewN|apply Kd.R_drew));exact Kd.R_mono (Kd.R_far (p:=⟨gb144,5,none⟩) (Kd.R_far (p:=⟨gb144,4,none⟩) (Kd.R_far (p:=⟨gb144,3,none⟩) (Kd.R_far (p:=⟨gb144,2,none⟩) (Kd.R_far (p:=⟨gb144,1,none⟩) (Kd.R_far (p:=⟨gb144,0,none⟩) (Kd.R_mono HO_2.out (fun k_ hk=>(⟨hk,hk.2⟩:_∧k_≠gb144))) (fun _ hk=>hk.2) (.int .i64 ((rd_T40 y139 x16_1).f0))) (fun _ hk=>hk.2) (.int .i64 ((rd_T40 y139 x16_1).f1))) (fun _ hk=>hk.2) (.int .i64 ((rd_T40 y139 x16_1).f2))) (fun _ hk=>hk.2) (.int .i64 ((rd_T40 y139 x16_1).f3))) (fun _ hk=>hk.2) (.int .i64 ((rd_T40 y139 x16_1).f4))) (fun _ hk=>hk.2) (.int .i64 ((rd_T40 y139 x16_1).f5))) (fun _ hk=>trivial)⟩,⟨by (with_reducible repeat (first|apply Kd.R_alloc|apply Kd.R_drewN|apply Kd.R_drew));exact Kd.R_mono (Kd.R_far (p:=⟨gb144,5,none⟩) (Kd.R_far (p:=⟨gb144,4,none⟩) (Kd.R_far (p:=⟨gb144,3,none⟩) (Kd.R_far (p:=⟨gb144,2,none⟩) (Kd.R_far (p:=⟨gb144,1,none⟩) (Kd.R_far (p:=⟨gb144,0,none⟩) (Kd.R_types HO_3.out BK144.out (by decide)) (fun _ hk=>hk.2) (.int .i64 ((rd_T40 y139 x16_1).f0))) (fun _ hk=>hk.2) (.int .i64 ((rd_T40 y139 x16_1).f1))) (fun _ hk=>hk.2) (.int .i64 ((rd_T40 y139 x16_1).f2))) (fun _ hk=>hk.2) (.int .i64 ((rd_T40 y139 x16_1).f3))) (fun _ hk=>hk.2) (.int .i64 ((rd_T40 y139 x16_1).f4))) (fun _ hk=>hk.2) (.int .i64 ((rd_T40 y139 x16_1).f5))) (fun _ hk=>trivial)⟩,⟨by (with_reducible repeat (first|refine blk_drewN ?_ _|refine blk_drew ?_|refine blk_alloc ?_ _));refine blk_far ?_ NB138_144.out _;(with_reducible repeat (first|refine blk_drewN ?_ _|refine blk_drew ?_|refine blk_alloc ?_ _));refine blk_far ?_ NB138_144.out _;(with_reducible repeat (first|refine blk_drewN ?_ _|refine blk_drew ?_|refine blk_alloc ?_ _));refine blk_far ?_ NB138_144.out _;(with_reducible repeat (first|refine blk_drewN ?_ _|refine blk_drew ?_|refine blk_alloc ?_ _));refine blk_far ?_ NB138_144.out _;(with_reducible repeat (first|refine blk_drewN ?_ _|refine blk_drew ?_|refine blk_alloc ?_ _));refine blk_far ?_ NB138_144.out _;(with_reducible repeat (first|refine blk_drewN ?_ _|refine blk_drew ?_|refine blk_alloc ?_ _));refine blk_far ?_ NB138_144.out _;(with_reducible repeat (first|refine blk_drewN ?_ _|refine blk_drew ?_|refine blk_alloc ?_ _));exact BK138.out⟩,⟨by repeat (first|(with_reducible first|exact HB.out|apply below_alloc|apply pw_below_drewN|apply below_drew1|refine below_set ?_ GE138.out|refine below_set ?_ GE144.out)|exact HB.out)⟩⟩
        ·
         rw [if_neg c10] at H
         exact absurd H (by simp)
       ·
        rw [if_neg c9] at H
        exact absurd H (by simp)
      ·
       rw [if_neg c8] at H
       have c8b0:decide (x16_1 < (y139.length:Int))=false:=decide_eq_false c8
       clear c8
       simp only [Option.some.injEq,Prod.mk.injEq] at H
       obtain ⟨rfl,rfl⟩:=H
       go_wp2
       go_ret2
       exact ⟨_,_,by first|rfl|(simp [errW_none,errW_some] <;> rfl)|(simp [*,errW_none,errW_some] <;> rfl),by (with_reducible repeat (first|apply Kd.R_alloc|apply Kd.R_drewN|apply Kd.R_drew));exact HO_2.out,by (with_reducible repeat (first|apply Kd.R_alloc|apply Kd.R_drewN|apply Kd.R_drew));exact HO_3.out,by repeat (first|(with_reducible first|exact HB.out|apply below_alloc|apply pw_below_drewN|apply below_drew1|refine below_set ?_ GE138.out)|exact HB.out)⟩
   ·
    rw [if_neg c4] at H
    exact absurd H (by simp)
  ·
   rw [if_neg c3] at H
   exact absurd H (by simp)
 ·
  rw [if_neg c2] at H
  exact absurd H (by simp)
end Go.Proofs.Yteoaegigjlhamaa.PC19
