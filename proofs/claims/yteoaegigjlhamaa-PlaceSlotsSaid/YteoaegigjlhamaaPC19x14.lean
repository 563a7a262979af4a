/- Chapter 19, printed: what the functions compute, and proofs that they do. -/
import Derived.Test.YteoaegigjlhamaaPC19x0
import Derived.Test.YteoaegigjlhamaaPC19x7
import Derived.Test.YteoaegigjlhamaaPC19x8
import Derived.Test.YteoaegigjlhamaaPC19x13
namespace Go.Proofs.Yteoaegigjlhamaa.PC19
open Go.RowKit Go.Proofs.YteoaegigjlhamaaW.PrintWords Go.Proofs.YteoaegigjlhamaaW.PrintLast Go.Proofs.YteoaegigjlhamaaW.PrintMore
attribute [local go_sem] max2_int min2_int max_two min_two max_three min_three max_four min_four
set_option linter.unusedVariables false
set_option maxRecDepth 100000
set_option linter.unusedSimpArgs false
def y_PlaceSlots.j0:Nat→List (S36)→List Int→Int→Int→Int→Bool→Int→Int→Int→Int→Int→Option (Bool)
 | 0,_,_,_,_,_,_,_,_,_,_,_=>none
 | k+1,x0,x1,x3,x4,x5,x26,x489000,x489001,x489002,x489003,x489004=>if x26=true then ((y_awake.f k).bind fun t489=>(some t489)) else ((some (([]:List (S36)):List (S36))).bind fun y490=>(if y490.length+x0.length < 5864062014805 then ((some (y490++x0:List (S36))).bind fun y493=>((some (([]:List Int):List Int)).bind fun y496=>(if y496.length+x1.length < 17592186044416 then ((some (y496++x1:List Int)).bind fun y499=>((place_Slots.f k y493 y499 x489000 x489001 x489002 x489003 x489004 x3 x4 x5).bind fun bt502=>((q19_Slots.f k x0 x1 x489000 x489001 x489002 x489003 x489004 x3 x4 x5).bind fun bt506=>(if bt502.2=bt506.2 then ((q19_Same.f k bt502.1 bt506.1).bind fun t510=>(if t510=true then ((q01_Same.f k y493 x0).bind fun t511=>(if t511=true then ((q02_Same.f k y499 x1).bind fun t512=>(if t512=true then ((y_awake.f k).bind fun t513=>(some t513)) else (none))) else (none))) else (none))) else (none))))) else (none)))) else (none)))
def y_PlaceSlots.f (k:Nat) (l0:List (S36)) (l1:List Int) (a2_0:Int) (a2_1:Int) (a2_2:Int) (a2_3:Int) (a2_4:Int) (a3:Int) (a4:Int) (a5:Int):Option (Bool):=if (l0.length:Int) > 120 then (y_PlaceSlots.j0 k l0 l1 a3 a4 a5 true a2_0 a2_1 a2_2 a2_3 a2_4) else (y_PlaceSlots.j0 k l0 l1 a3 a4 a5 (decide ((l1.length:Int) > 120)) a2_0 a2_1 a2_2 a2_3 a2_4)
theorem y_PlaceSlots.mono_l: ∀ k,(∀ y0 y1 y2 y3 y4 y5 y6 y7 y8 y9 y10,LeO (y_PlaceSlots.j0 k y0 y1 y2 y3 y4 y5 y6 y7 y8 y9 y10) (y_PlaceSlots.j0 (k+1) y0 y1 y2 y3 y4 y5 y6 y7 y8 y9 y10))
 | 0=>fun _ _ _ _ _ _ _ _ _ _ _ r h=>by simp [y_PlaceSlots.j0] at h
 | k+1=>by
  have ih0:=y_PlaceSlots.mono_l k
  ·
   intros
   unfold y_PlaceSlots.j0
   have j0:=@y_awake.mono
   have j1:=@q01_Same.mono
   have j2:=@q02_Same.mono
   have j3:=@q19_Same.mono
   have j4:=@q19_Slots.mono
   have j5:=@place_Slots.mono
   exact TL
theorem y_PlaceSlots.mono: ∀ a0 a1 a2 a3 a4 a5 a6 a7 a8 a9 k,LeO (y_PlaceSlots.f k a0 a1 a2 a3 a4 a5 a6 a7 a8 a9) (y_PlaceSlots.f (k+1) a0 a1 a2 a3 a4 a5 a6 a7 a8 a9):=by
 intro a0 a1 a2 a3 a4 a5 a6 a7 a8 a9 k
 have ih0:=y_PlaceSlots.mono_l k
 unfold y_PlaceSlots.f
 repeat' first
   | (with_reducible exact ih0 _ _ _ _ _ _ _ _ _ _ _)
   | (with_reducible exact y_awake.mono _)
   | (with_reducible exact q01_Same.mono _ _ _)
   | (with_reducible exact q02_Same.mono _ _ _)
   | (with_reducible exact q19_Same.mono _ _ _)
   | (with_reducible exact q19_Slots.mono _ _ _ _ _ _ _ _ _ _ _)
   | (with_reducible exact place_Slots.mono _ _ _ _ _ _ _ _ _ _ _)
   | (with_reducible exact LeO.refl _)
   | (with_reducible exact LeO.none _)
   | (with_reducible refine LeO.ite ?_ ?_)
   | (with_reducible refine LeO.bind ?_ (fun _=>?_))
set_option maxHeartbeats 8000000 in
theorem y_PlaceSlots.calls (k:Nat) (A0:Option Addr) (c0:Nat) (l0:List (S36)) (A1:Option Addr) (c1:Nat) (l1:List Int) (a2_0:Int) (a2_1:Int) (a2_2:Int) (a2_3:Int) (a2_4:Int) (a3:Int) (a4:Int) (a5:Int) (r:Bool) (w:World) (hr0:Kd.C k36 w A0 l0.length l0) (hc0:l0.length≤c0) (hr1:Kd.C (Kd.int .i64) w A1 l1.length l1) (hc1:l1.length≤c1) (h:y_PlaceSlots.f k l0 l1 a2_0 a2_1 a2_2 a2_3 a2_4 a3 a4 a5=some r) :
  Calls Try.prog 3 #[.slice A0 l0.length c0,.slice A1 l1.length c1,.agg #[.int .i64 a2_0,.int .i64 a2_1,.int .i64 a2_2,.int .i64 a2_3,.int .i64 a2_4],.int .i64 a3,.int .i64 a4,.int .i64 a5] w fun e w'=>e= .returned (.bool r)∧Below w.heap.size w w':=by
 have hu25:=Try.underlying25
 have HR0:=Am hr0
 have HC0:=Am hc0
 clear hr0 hc0
 have HR1:=Am hr1
 have HC1:=Am hc1
 clear hr1 hc1
 have HB:=Am (Below.refl w.heap.size w)
 have H:(if (l0.length:Int) > 120 then (y_PlaceSlots.j0 k l0 l1 a3 a4 a5 true a2_0 a2_1 a2_2 a2_3 a2_4) else (y_PlaceSlots.j0 k l0 l1 a3 a4 a5 (decide ((l1.length:Int) > 120)) a2_0 a2_1 a2_2 a2_3 a2_4))=some r:=h
 clear h
 have HC7:=Am H
 clear H
 go_enter Try.func3,Try.ntmps3
 try dsimp only [List.append]
 go_upto_region 1 with (first|((with_reducible refine gate_dst (N:=8) rfl ?_);(try (refine gate_guard (by rfl) ?_;dsimp only));refine box_event ?hg (N:=8) ?hd (cs:= #[.int .i64 a2_0,.int .i64 a2_1,.int .i64 a2_2,.int .i64 a2_3,.int .i64 a2_4]) (t:=25) ?hr ?_;(case hd=>rfl);(case hg=>rfl);(case hr=>exact TG);intro gb488 hg w8 hbox hb;have BK488:=Am (hbox);have GW488:=Am (gwS hg);have GE488:=Am (gwS hg);replace HB:=Am (below_step TB hb);clear hb hbox hg))
 (try simp only [Act.put,List.setIfInBounds_toArray,List.set_cons_zero,List.set_cons_succ])
 go_cut [26] (fun v26 wc=> ∃ (kq:Nat) (x26_6:Bool),v26= .bool x26_6∧Aside0 (y_PlaceSlots.j0 kq l0 l1 a3 a4 a5 x26_6 a2_0 a2_1 a2_2 a2_3 a2_4=some r)∧Aside0 (kq≤k)∧Aside0 (wc.heap[gb488]?=some (.cells #[.int .i64 a2_0,.int .i64 a2_1,.int .i64 a2_2,.int .i64 a2_3,.int .i64 a2_4] 25 (0,0)))∧Aside0 (Below w.heap.size w wc))
 case first =>
  have H:=HC7.out
  clear HC7
  by_cases c9:(l0.length:Int) > 120
  ·
   rw [if_pos c9] at H
   have c9b0:decide (120 < (l0.length:Int))=true:=decide_eq_true c9
   have c9b1:decide (120 < l0.length)=true:=decide_eq_true (by omega)
   clear c9
   (first|rw [c9b0]|(simp only [i64_w,i32_w];rw [c9b0])|skip)
   have H':=Am H
   clear H
   go_wp2
   go_meet
   case rel=>exact ⟨_,(true),TS,H',⟨by first|omega|exact Nat.le_refl _⟩,⟨blkU BK488.out⟩,⟨TB⟩⟩
  rw [if_neg c9] at H
  have c9b0:decide (120 < (l0.length:Int))=false:=decide_eq_false c9
  have c9b1:decide (120 < l0.length)=false:=decide_eq_false (by omega)
  clear c9
  (first|rw [c9b0]|(simp only [i64_w,i32_w];rw [c9b0])|skip)
  have H':=Am H
  clear H
  go_wp2
  go_meet
  case rel=>exact ⟨_,(decide ((l1.length:Int) > 120)),TS,H',⟨by first|omega|exact Nat.le_refl _⟩,⟨blkU BK488.out⟩,⟨TB⟩⟩
 case rest =>
  clear HC7
  obtain ⟨kq,x26_6,rfl,HA,HJ6,BK488,HB⟩:=hcut
  cases kq with
  | zero=>exact absurd HA.out (by simp [y_PlaceSlots.j0])
  | succ kj6 =>
   have H:=HA.out
   clear HA
   simp only [y_PlaceSlots.j0] at H
   by_cases c10:x26_6=true
   ·
    subst c10
    rw [if_pos rfl] at H
    obtain ⟨t489,A110,H⟩:=Option.bind_eq_some_iff.mp H
    try dsimp only at H
    have A11:=Am A110
    clear A110
    obtain rfl:=Option.some.inj H
    go_wp2_with (first|((with_reducible refine gate_callee (f:=7) rfl ?_);refine goesL_ (some 27) rfl rfl Try.func7 TK rfl #[] rfl TM ?_;(with_reducible refine (y_awake.calls kj6 t489 _ A11.out).mono ?_);rintro e w12 ⟨rfl,hb⟩;refine ⟨_,rfl,?_⟩;replace BK488:=Am (blk_below (blkU BK488.out) hb);replace HB:=Am (below_step TB hb);(try clear hb);(try clear hb2);(try clear hk);(try clear hi)))
    go_ret
    exact ⟨TE,TB⟩
   replace c10:=Bool.eq_false_iff.mpr c10
   subst c10
   rw [if_neg (show ¬ (false=true) by decide)] at H
   obtain ⟨y490,hy490⟩: ∃ y_:List (S36),y_=(([]:List (S36))):=⟨_,rfl⟩
   replace H:(if y490.length+l0.length < 5864062014805 then ((some (y490++l0:List (S36))).bind fun y493=>((some (([]:List Int):List Int)).bind fun y496=>(if y496.length+l1.length < 17592186044416 then ((some (y496++l1:List Int)).bind fun y499=>((place_Slots.f kj6 y493 y499 a2_0 a2_1 a2_2 a2_3 a2_4 a3 a4 a5).bind fun bt502=>((q19_Slots.f kj6 l0 l1 a2_0 a2_1 a2_2 a2_3 a2_4 a3 a4 a5).bind fun bt506=>(if bt502.2=bt506.2 then ((q19_Same.f kj6 bt502.1 bt506.1).bind fun t510=>(if t510=true then ((q01_Same.f kj6 y493 l0).bind fun t511=>(if t511=true then ((q02_Same.f kj6 y499 l1).bind fun t512=>(if t512=true then ((y_awake.f kj6).bind fun t513=>(some t513)) else (none))) else (none))) else (none))) else (none))))) else (none)))) else (none))=some r:=by first|(rw [hy490];with_reducible exact H)|(have H2_:=(Option.bind_some _ _).symm.trans H;rw [hy490];with_reducible exact H2_)|(have H2_:=(Option.bind_some _ _).symm.trans H;with_reducible exact H2_)|with_reducible exact H|(rw [hy490];exact H)|exact H
   have Ny490:=Am hy490
   clear hy490
   obtain ⟨c13,H⟩:=ifS H
   have LMc13:=Am c13
   clear c13
   obtain ⟨y493,hy493⟩: ∃ y_:List (S36),y_=(y490++l0):=⟨_,rfl⟩
   replace H:((some (([]:List Int):List Int)).bind fun y496=>(if y496.length+l1.length < 17592186044416 then ((some (y496++l1:List Int)).bind fun y499=>((place_Slots.f kj6 y493 y499 a2_0 a2_1 a2_2 a2_3 a2_4 a3 a4 a5).bind fun bt502=>((q19_Slots.f kj6 l0 l1 a2_0 a2_1 a2_2 a2_3 a2_4 a3 a4 a5).bind fun bt506=>(if bt502.2=bt506.2 then ((q19_Same.f kj6 bt502.1 bt506.1).bind fun t510=>(if t510=true then ((q01_Same.f kj6 y493 l0).bind fun t511=>(if t511=true then ((q02_Same.f kj6 y499 l1).bind fun t512=>(if t512=true then ((y_awake.f kj6).bind fun t513=>(some t513)) else (none))) else (none))) else (none))) else (none))))) else (none)))=some r:=by first|(rw [hy493];with_reducible exact H)|(have H2_:=(Option.bind_some _ _).symm.trans H;rw [hy493];with_reducible exact H2_)|(have H2_:=(Option.bind_some _ _).symm.trans H;with_reducible exact H2_)|with_reducible exact H|(rw [hy493];exact H)|exact H
   have Ny493:=Am hy493
   clear hy493
   obtain ⟨y496,hy496⟩: ∃ y_:List Int,y_=(([]:List Int)):=⟨_,rfl⟩
   replace H:(if y496.length+l1.length < 17592186044416 then ((some (y496++l1:List Int)).bind fun y499=>((place_Slots.f kj6 y493 y499 a2_0 a2_1 a2_2 a2_3 a2_4 a3 a4 a5).bind fun bt502=>((q19_Slots.f kj6 l0 l1 a2_0 a2_1 a2_2 a2_3 a2_4 a3 a4 a5).bind fun bt506=>(if bt502.2=bt506.2 then ((q19_Same.f kj6 bt502.1 bt506.1).bind fun t510=>(if t510=true then ((q01_Same.f kj6 y493 l0).bind fun t511=>(if t511=true then ((q02_Same.f kj6 y499 l1).bind fun t512=>(if t512=true then ((y_awake.f kj6).bind fun t513=>(some t513)) else (none))) else (none))) else (none))) else (none))))) else (none))=some r:=by first|(rw [hy496];with_reducible exact H)|(have H2_:=(Option.bind_some _ _).symm.trans H;rw [hy496];with_reducible exact H2_)|(have H2_:=(Option.bind_some _ _).symm.trans H;with_reducible exact H2_)|with_reducible exact H|(rw [hy496];exact H)|exact H
   have Ny496:=Am hy496
   clear hy496
   obtain ⟨c14,H⟩:=ifS H
   have LMc14:=Am c14
   clear c14
   obtain ⟨y499,hy499⟩: ∃ y_:List Int,y_=(y496++l1):=⟨_,rfl⟩
   replace H:((place_Slots.f kj6 y493 y499 a2_0 a2_1 a2_2 a2_3 a2_4 a3 a4 a5).bind fun bt502=>((q19_Slots.f kj6 l0 l1 a2_0 a2_1 a2_2 a2_3 a2_4 a3 a4 a5).bind fun bt506=>(if bt502.2=bt506.2 then ((q19_Same.f kj6 bt502.1 bt506.1).bind fun t510=>(if t510=true then ((q01_Same.f kj6 y493 l0).bind fun t511=>(if t511=true then ((q02_Same.f kj6 y499 l1).bind fun t512=>(if t512=true then ((y_awake.f kj6).bind fun t513=>(some t513)) else (none))) else (none))) else (none))) else (none))))=some r:=by first|(rw [hy499];with_reducible exact H)|(have H2_:=(Option.bind_some _ _).symm.trans H;rw [hy499];with_reducible exact H2_)|(have H2_:=(Option.bind_some _ _).symm.trans H;with_reducible exact H2_)|with_reducible exact H|(rw [hy499];exact H)|exact H
   have Ny499:=Am hy499
   clear hy499
   replace H:=Option.bind_eq_some_iff.mp H
   obtain ⟨⟨t502,t505⟩,A150,H⟩:=H
   try dsimp only at H
   have A15:=Am A150
   clear A150
   replace H:=Option.bind_eq_some_iff.mp H
   obtain ⟨⟨t506,t509⟩,A160,H⟩:=H
   try dsimp only at H
   have A16:=Am A160
   clear A160
   by_cases c17:t505=t509
   rotate_left
   ·
    rw [if_neg c17] at H
    have c17b0:(t505==t509)=false:=beq_eq_false_iff_ne.mpr c17
    have c17b1:(t505 !=t509)=true:=bne_iff_ne.mpr c17
    cases H
   rw [if_pos c17] at H
   have c17b0:(t505==t509)=true:=beq_iff_eq.mpr c17
   have c17b1:(t505 !=t509)=false:=bne_eq_false_iff_eq.mpr c17
   clear c17
   obtain ⟨t510,A180,H⟩:=Option.bind_eq_some_iff.mp H
   try dsimp only at H
   have A18:=Am A180
   clear A180
   by_cases c19:t510=true
   rotate_left
   ·
    replace c19:=Bool.eq_false_iff.mpr c19
    subst c19
    rw [if_neg (show ¬ (false=true) by decide)] at H
    cases H
   subst c19
   rw [if_pos rfl] at H
   obtain ⟨t511,A200,H⟩:=Option.bind_eq_some_iff.mp H
   try dsimp only at H
   have A20:=Am A200
   clear A200
   by_cases c21:t511=true
   rotate_left
   ·
    replace c21:=Bool.eq_false_iff.mpr c21
    subst c21
    rw [if_neg (show ¬ (false=true) by decide)] at H
    cases H
   subst c21
   rw [if_pos rfl] at H
   obtain ⟨t512,A220,H⟩:=Option.bind_eq_some_iff.mp H
   try dsimp only at H
   have A22:=Am A220
   clear A220
   by_cases c23:t512=true
   rotate_left
   ·
    replace c23:=Bool.eq_false_iff.mpr c23
    subst c23
    rw [if_neg (show ¬ (false=true) by decide)] at H
    cases H
   subst c23
   rw [if_pos rfl] at H
   obtain ⟨t513,A240,H⟩:=Option.bind_eq_some_iff.mp H
   try dsimp only at H
   have A24:=Am A240
   clear A240
   obtain rfl:=Option.some.inj H
   go_wp2_with (first|((with_reducible refine gate_dst (N:=28) rfl ?_);(try (refine gate_guard (by rfl) ?_;dsimp only));refine Kd.R_lit k36 _ 36 ?hg (N:=28) ?hd (xs:=([]:List (S36))) (inner:=[]) (ok:=fun _=>True) (okp:=fun _=>True) ?hr ?hp (fun _ hk=>hk) trivial (Below.refl _ _) (Nat.le_refl _) (by simp) ?_;(case hd=>rfl);(case hg=>rfl);(case hr=>exact TG);(case hp=>exact (Reps.none _ _));intro v491 w25 ho26 hb hg_ hnew_;clear hg_ hnew_;(first|rw [← Ny490.out] at ho26|(simp only [Int.reduceToNat] at ho26;rw [← Ny490.out] at ho26));have HO492:=Am (Kd.R_lower ho26 (below_size TB));replace BK488:=Am (blk_below (blkU BK488.out) hb);replace HB:=Am (below_step TB hb);clear hb ho26)|((with_reducible refine gate_builtin (b:= .append) (xs:= #[.tmp 28,.tmp 29]) rfl ?_);(try (refine gate_guard (by rfl) ?_;dsimp only));at_builtin;refine Kd.R_append_rows k36 (w0:=w) w.heap.size rfl (.tmp 28) (.tmp 29) 22 36 (.agg #[(.int .i64 0),(.int .i64 0),(.int .i64 0)]) 24 rfl Try.underlying22 info36 rfl (by decide) (by omega) v491 y490 l0 _ _ _ (fun _=>True) (fun _=>False) rfl rfl ?aO ?aR (fun _ _ h=>h) (fun _ h=>h.elim) ?aF ?aB ?aS ?aL ?_;(case aR=>exact CU (Kd.C_below HR0.out HB.out));(case aB=>exact TB);(case aF=>exact (fun _ _=>trivial));(case aO=>exact (RU HO492.out));(case aS=>exact (below_size TB));(case aL=>have:=LMc13.out;omega);intro v494 w27 ho hb hg hat;rw [← Ny493.out] at ho;replace BK488:=Am (blk_grown (g:=gb488) (o:= .cells #[.int .i64 a2_0,.int .i64 a2_1,.int .i64 a2_2,.int .i64 a2_3,.int .i64 a2_4] 25 (0,0)) (blkU BK488.out) hg (Kd.R_ne HO492.out BK488.out (by decide)));have HO495:=Am (ho);replace HB:=Am (hb);clear HO492;clear ho hb hg hat)|((with_reducible refine gate_dst (N:=31) rfl ?_);(try (refine gate_guard (by rfl) ?_;dsimp only));refine Kd.R_lit (Kd.int .i64) _ 3 ?hg (N:=31) ?hd (xs:=([]:List Int)) (inner:=[]) (ok:=fun _=>True) (okp:=fun _=>True) ?hr ?hp (fun _ hk=>hk) trivial (Below.refl _ _) (Nat.le_refl _) (by simp) ?_;(case hd=>rfl);(case hg=>rfl);(case hr=>exact TG);(case hp=>exact (Reps.none _ _));intro v497 w28 ho29 hb hg_ hnew_;clear hg_ hnew_;(first|rw [← Ny496.out] at ho29|(simp only [Int.reduceToNat] at ho29;rw [← Ny496.out] at ho29));replace HO495:=Am (Kd.R_below (RU HO495.out) hb);have HO498:=Am (Kd.R_lower ho29 (below_size TB));replace BK488:=Am (blk_below (blkU BK488.out) hb);replace HB:=Am (below_step TB hb);clear hb ho29)|((with_reducible refine gate_builtin (b:= .append) (xs:= #[.tmp 31,.tmp 32]) rfl ?_);(try (refine gate_guard (by rfl) ?_;dsimp only));at_builtin;refine Kd.R_append_rows (Kd.int .i64) (w0:=w) w.heap.size rfl (.tmp 31) (.tmp 32) 23 3 (.int .i64 0) 8 rfl Try.underlying23 info3 rfl (by decide) (by omega) v497 y496 l1 _ _ _ (fun _=>True) (fun _=>False) rfl rfl ?aO ?aR (fun _ _ h=>h) (fun _ h=>h.elim) ?aF ?aB ?aS ?aL ?_;(case aR=>exact CU (Kd.C_below HR1.out HB.out));(case aB=>exact TB);(case aF=>exact (fun _ _=>trivial));(case aO=>exact (RU HO498.out));(case aS=>exact (below_size TB));(case aL=>have:=LMc14.out;omega);intro v500 w30 ho hb hg hat;rw [← Ny499.out] at ho;replace BK488:=Am (blk_grown (g:=gb488) (o:= .cells #[.int .i64 a2_0,.int .i64 a2_1,.int .i64 a2_2,.int .i64 a2_3,.int .i64 a2_4] 25 (0,0)) (blkU BK488.out) hg (Kd.R_ne HO498.out BK488.out (by decide)));replace HO495:=Am (Kd.R_over' (RU HO495.out) (Kd.R_typed (RU HO498.out)) (by decide) hg);have HO501:=Am (ho);replace HB:=Am (hb);clear HO498;clear ho hb hg hat;obtain ⟨hcz31_0,hcz31_1,hcz31_2,hcz31_3,hcz31_4⟩:=blkC5 BK488.out;obtain ⟨hfz31_0,hfz31_1,hfz31_2,hfz31_3,hfz31_4⟩:=blkF5 BK488.out;obtain ⟨Ao32,co32,eo32⟩:=Kd.R_slice HO495.out;subst eo32;obtain ⟨Ao33,co33,eo33⟩:=Kd.R_slice HO501.out;subst eo33)|((with_reducible refine gate_callee (f:=8) rfl ?_);refine goesL_ (some 41) rfl rfl Try.func8 TK rfl #[.slice Ao32 y493.length co32,.slice Ao33 y499.length co33,.agg #[.int .i64 a2_0,.int .i64 a2_1,.int .i64 a2_2,.int .i64 a2_3,.int .i64 a2_4],.int .i64 a3,.int .i64 a4,.int .i64 a5] rfl TM ?_;(with_reducible refine (place_Slots.calls kj6 _ _ y493 _ _ y499 a2_0 a2_1 a2_2 a2_3 a2_4 a3 a4 a5 t502 t505 _ ?side1 ?side2 ?side3 ?side4 A15.out).mono ?_);(case side1=>exact CU ((Kd.R_reads' HO495.out).2.2));(case side2=>exact (Kd.R_reads' HO495.out).2.1);(case side3=>exact CU ((Kd.R_reads' HO501.out).2.2));(case side4=>exact (Kd.R_reads' HO501.out).2.1);rintro e w34 ⟨v503,rfl,ho0,hb⟩;refine ⟨_,rfl,?_⟩;replace HO495:=Am (Kd.R_below (RU HO495.out) hb);replace HO501:=Am (Kd.R_below (RU HO501.out) hb);have HO504:=Am (Kd.R_lower ho0 (below_size TB));replace BK488:=Am (blk_below (blkU BK488.out) hb);replace HB:=Am (below_step TB hb);(try clear hb);(try clear hb2);(try clear hk);(try clear hi);(try clear ho0);obtain ⟨hcz35_0,hcz35_1,hcz35_2,hcz35_3,hcz35_4⟩:=blkC5 BK488.out;obtain ⟨hfz35_0,hfz35_1,hfz35_2,hfz35_3,hfz35_4⟩:=blkF5 BK488.out)|((with_reducible refine gate_callee (f:=9) rfl ?_);refine goesL_ (some 51) rfl rfl Try.func9 TK rfl #[.slice A0 l0.length c0,.slice A1 l1.length c1,.agg #[.int .i64 a2_0,.int .i64 a2_1,.int .i64 a2_2,.int .i64 a2_3,.int .i64 a2_4],.int .i64 a3,.int .i64 a4,.int .i64 a5] rfl TM ?_;(with_reducible refine (q19_Slots.calls kj6 _ _ l0 _ _ l1 a2_0 a2_1 a2_2 a2_3 a2_4 a3 a4 a5 t506 t509 _ ?side1 ?side2 ?side3 ?side4 A16.out).mono ?_);(case side1=>exact CU (Kd.C_below HR0.out HB.out));(case side2=>exact HC0.out);(case side3=>exact CU (Kd.C_below HR1.out HB.out));(case side4=>exact HC1.out);rintro e w36 ⟨v507,rfl,ho0,hb⟩;refine ⟨_,rfl,?_⟩;replace HO495:=Am (Kd.R_below (RU HO495.out) hb);replace HO501:=Am (Kd.R_below (RU HO501.out) hb);have HO508:=Am (Kd.R_lower (Kd.R_new' ho0 (Kd.R_lt (RU HO504.out))) (below_size TB));replace HO504:=Am (Kd.R_elder' (RU HO504.out) (Kd.R_base ho0) hb);replace BK488:=Am (blk_below (blkU BK488.out) hb);replace HB:=Am (below_step TB hb);(try clear hb);(try clear hb2);(try clear hk);(try clear hi);(try clear ho0);obtain ⟨Ao37,co37,eo37⟩:=Kd.R_slice HO504.out;subst eo37;obtain ⟨Ao38,co38,eo38⟩:=Kd.R_slice HO508.out;subst eo38)|(go_at_call 10;(with_reducible refine (q19_Same.calls kj6 _ _ t502 _ _ t506 true _ ?side1 ?side2 ?side3 ?side4 A18.out).mono ?_);(case side1=>exact CU ((Kd.R_reads' HO504.out).2.2));(case side2=>exact (Kd.R_reads' HO504.out).2.1);(case side3=>exact CU ((Kd.R_reads' HO508.out).2.2));(case side4=>exact (Kd.R_reads' HO508.out).2.1);rintro e w' ⟨rfl,⟨nd,rfl⟩⟩)|(go_at_call 11;(with_reducible refine (q01_Same.calls kj6 _ _ y493 _ _ l0 true _ ?side1 ?side2 ?side3 ?side4 A20.out).mono ?_);(case side1=>exact CU ((Kd.R_reads' HO495.out).2.2));(case side2=>exact (Kd.R_reads' HO495.out).2.1);(case side3=>exact CU (Kd.C_below HR0.out TB));(case side4=>exact HC0.out);rintro e w' ⟨rfl,⟨nd,rfl⟩⟩)|(go_at_call 12;(with_reducible refine (q02_Same.calls kj6 _ _ y499 _ _ l1 true _ ?side1 ?side2 ?side3 ?side4 A22.out).mono ?_);(case side1=>exact CU ((Kd.R_reads' HO501.out).2.2));(case side2=>exact (Kd.R_reads' HO501.out).2.1);(case side3=>exact CU (Kd.C_below HR1.out TB));(case side4=>exact HC1.out);rintro e w' ⟨rfl,⟨nd,rfl⟩⟩)|(go_at_call 7;(with_reducible refine (y_awake.calls kj6 t513 _ A24.out).mono ?_);rintro e w39 ⟨rfl,hb⟩;replace HO495:=Am (Kd.R_below (RU HO495.out) hb);replace HO501:=Am (Kd.R_below (RU HO501.out) hb);replace HO504:=Am (Kd.R_below (RU HO504.out) hb);replace HO508:=Am (Kd.R_below (RU HO508.out) hb);replace BK488:=Am (blk_below (blkU BK488.out) hb);replace HB:=Am (below_step TB hb);(try clear hb);(try clear hb2);(try clear hk);(try clear hi)))
   go_ret
   exact ⟨TE,TB⟩
def y_PlaceSlots.Pure:Prop:= ∀ (l0:List (S36)) (l1:List Int) (a2_0:Int) (a2_1:Int) (a2_2:Int) (a2_3:Int) (a2_4:Int) (a3:Int) (a4:Int) (a5:Int),l0.length≤maxLen→l0.length * 24≤140737488351232→(∀ x ∈ l0,(Lit.int .i64 x.f0).wf=true∧(Lit.int .i64 x.f1).wf=true∧(Lit.int .i64 x.f2).wf=true)→l1.length≤maxLen→l1.length * 8≤140737488351232→(∀ x ∈ l1,(Lit.int .i64 x).wf=true)→(Lit.int .i64 a2_0).wf=true→(Lit.int .i64 a2_1).wf=true→(Lit.int .i64 a2_2).wf=true→(Lit.int .i64 a2_3).wf=true→(Lit.int .i64 a2_4).wf=true→(Lit.int .i64 a3).wf=true→(Lit.int .i64 a4).wf=true→(Lit.int .i64 a5).wf=true→ ∃ k,y_PlaceSlots.f k l0 l1 a2_0 a2_1 a2_2 a2_3 a2_4 a3 a4 a5=some true
theorem y_PlaceSlots.walk (P:y_PlaceSlots.Pure) (a0:Option Addr) (cap0:Nat) (l0:List (S36)) (a1:Option Addr) (len1 cap1:Nat) (z1:List Int) (a2_0:Int) (a2_1:Int) (a2_2:Int) (a2_3:Int) (a2_4:Int) (a3:Int) (a4:Int) (a5:Int) (w:World) (hr0:Kd.C k36 w a0 l0.length l0) (hc0:l0.length≤cap0) (hm0:l0.length≤maxLen) (y0:l0.length * 24≤140737488351232) (hw0: ∀ x ∈ l0,(Lit.int .i64 x.f0).wf=true∧(Lit.int .i64 x.f1).wf=true∧(Lit.int .i64 x.f2).wf=true) (w1:(a1=none∧len1=0∧cap1=0∧z1=[])∨ ∃ x,a1=some x∧len1≤cap1∧cap1≤maxLen∧z1.length=cap1∧(∀ i,i < z1.length→w.cell? (x.add i)=some (.int .i64 (z1.getD i 0)))∧ ∀ n ∈ z1,(Lit.int .i64 n).wf=true) (y1:len1 * 8≤140737488351232) (w2_0:(Lit.int .i64 a2_0).wf=true) (w2_1:(Lit.int .i64 a2_1).wf=true) (w2_2:(Lit.int .i64 a2_2).wf=true) (w2_3:(Lit.int .i64 a2_3).wf=true) (w2_4:(Lit.int .i64 a2_4).wf=true) (w3:(Lit.int .i64 a3).wf=true) (w4:(Lit.int .i64 a4).wf=true) (w5:(Lit.int .i64 a5).wf=true) :
    Calls Try.prog 3 #[.slice a0 l0.length cap0,.slice a1 len1 cap1,.agg #[.int .i64 a2_0,.int .i64 a2_1,.int .i64 a2_2,.int .i64 a2_3,.int .i64 a2_4],.int .i64 a3,.int .i64 a4,.int .i64 a5] w fun e w'=>e= .returned (.bool true)∧Below w.heap.size w w':=by
  obtain ⟨l1,rfl,hr1,hm1,hw1,hc1⟩:=ReadsInt.ofRowC w1
  obtain ⟨k,h⟩:=P l0 l1 a2_0 a2_1 a2_2 a2_3 a2_4 a3 a4 a5 hm0 y0 hw0 hm1 y1 hw1 w2_0 w2_1 w2_2 w2_3 w2_4 w3 w4 w5
  refine (y_PlaceSlots.calls k _ _ l0 _ _ l1 a2_0 a2_1 a2_2 a2_3 a2_4 a3 a4 a5 true w hr0 hc0 (Kd.C_of_reads (d:=(0:Int)) (h1:=fun _=>rfl) hr1) hc1 h).mono ?_
  rintro e w' ⟨rfl,hd⟩
  exact ⟨rfl,hd⟩
end Go.Proofs.Yteoaegigjlhamaa.PC19
