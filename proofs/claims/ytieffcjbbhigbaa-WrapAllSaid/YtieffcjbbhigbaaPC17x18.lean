/- For the laws of the group C17: the Lean functions that the Go functions compute, and proofs that they do. Written by wip/hprint.py of this repo over the kit's printer; nothing here is trusted: Lean checks it. -/
import Derived.Test.YtieffcjbbhigbaaPC17x0
import Derived.Test.YtieffcjbbhigbaaPC17x3
import Derived.Test.YtieffcjbbhigbaaPC17x4
import Derived.Test.YtieffcjbbhigbaaPC17x10
namespace Go.Proofs.Ytieffcjbbhigbaa.PC17
open Go.RowKit Go.Proofs.YtieffcjbbhigbaaW.PrintWords Go.Proofs.YtieffcjbbhigbaaW.PrintLast Go.Proofs.YtieffcjbbhigbaaW.PrintMore
attribute [local go_sem] max2_int min2_int max_two min_two max_three min_three max_four min_four   -- for this text's walks alone
set_option linter.unusedVariables false
set_option linter.unusedSimpArgs false

/-! ### parquetrylaw17_WrapAll: function 8 -/
mutual
def parquetrylaw17_WrapAll.l0 : Nat → List (S39) → List (S29) → Int → Int → Option (Bool)
 | 0, _, _, _, _ => none
 | k + 1, x0, x7, x8, x9 => if x9 < (x7.length : Int) then (if 0 ≤ x9 then (if ((rd_T29 x7 x9).f0) = x8 then (if ((rd_T29 x7 x9).f2) < ((rd_T29 x7 x9).f0) then (parquetrylaw17_WrapAll.j1 k x0 x7 x9 true ((rd_T29 x7 x9).f0) ((rd_T29 x7 x9).f1) ((rd_T29 x7 x9).f2) ((rd_T29 x7 x9).f3) ((rd_T29 x7 x9).f4)) else (if ((rd_T29 x7 x9).f1) < ((rd_T29 x7 x9).f2) then (parquetrylaw17_WrapAll.j1 k x0 x7 x9 true ((rd_T29 x7 x9).f0) ((rd_T29 x7 x9).f1) ((rd_T29 x7 x9).f2) ((rd_T29 x7 x9).f3) ((rd_T29 x7 x9).f4)) else (if ((rd_T29 x7 x9).f1) > (x0.length : Int) then (parquetrylaw17_WrapAll.j1 k x0 x7 x9 true ((rd_T29 x7 x9).f0) ((rd_T29 x7 x9).f1) ((rd_T29 x7 x9).f2) ((rd_T29 x7 x9).f3) ((rd_T29 x7 x9).f4)) else (if ((rd_T29 x7 x9).f1) = ((rd_T29 x7 x9).f0) then (if (x0.length : Int) > 0 then (parquetrylaw17_WrapAll.j1 k x0 x7 x9 true ((rd_T29 x7 x9).f0) ((rd_T29 x7 x9).f1) ((rd_T29 x7 x9).f2) ((rd_T29 x7 x9).f3) ((rd_T29 x7 x9).f4)) else (if ((((rd_T29 x7 x9).f3) == 1) != ((wrap64 (x9 + 1)) == (x7.length : Int))) = true then (parquetrylaw17_WrapAll.j1 k x0 x7 x9 true ((rd_T29 x7 x9).f0) ((rd_T29 x7 x9).f1) ((rd_T29 x7 x9).f2) ((rd_T29 x7 x9).f3) ((rd_T29 x7 x9).f4)) else (parquetrylaw17_WrapAll.j1 k x0 x7 x9 (((rd_T29 x7 x9).f4) != 0) ((rd_T29 x7 x9).f0) ((rd_T29 x7 x9).f1) ((rd_T29 x7 x9).f2) ((rd_T29 x7 x9).f3) ((rd_T29 x7 x9).f4)))) else (if ((((rd_T29 x7 x9).f3) == 1) != ((wrap64 (x9 + 1)) == (x7.length : Int))) = true then (parquetrylaw17_WrapAll.j1 k x0 x7 x9 true ((rd_T29 x7 x9).f0) ((rd_T29 x7 x9).f1) ((rd_T29 x7 x9).f2) ((rd_T29 x7 x9).f3) ((rd_T29 x7 x9).f4)) else (parquetrylaw17_WrapAll.j1 k x0 x7 x9 (((rd_T29 x7 x9).f4) != 0) ((rd_T29 x7 x9).f0) ((rd_T29 x7 x9).f1) ((rd_T29 x7 x9).f2) ((rd_T29 x7 x9).f3) ((rd_T29 x7 x9).f4))))))) else (parquetrylaw17_WrapAll.j1 k x0 x7 x9 true ((rd_T29 x7 x9).f0) ((rd_T29 x7 x9).f1) ((rd_T29 x7 x9).f2) ((rd_T29 x7 x9).f3) ((rd_T29 x7 x9).f4))) else (none)) else (if x8 = (x0.length : Int) then (if (x7.length : Int) > 0 then ((parquetrylaw17_awake.f k).bind fun t274 => (some t274)) else (some false)) else (some false))
def parquetrylaw17_WrapAll.j1 : Nat → List (S39) → List (S29) → Int → Bool → Int → Int → Int → Int → Int → Option (Bool)
 | 0, _, _, _, _, _, _, _, _, _ => none
 | k + 1, x0, x7, x9, x82, x277000, x277001, x277002, x277003, x277004 => if x82 = true then (some false) else (parquetrylaw17_WrapAll.l1 k x0 x7 x9 x277002 x277000 x277001 x277002 x277003 x277004)
def parquetrylaw17_WrapAll.l1 : Nat → List (S39) → List (S29) → Int → Int → Int → Int → Int → Int → Int → Option (Bool)
 | 0, _, _, _, _, _, _, _, _, _ => none
 | k + 1, x0, x7, x9, x11, x277000, x277001, x277002, x277003, x277004 => if x11 < x277001 then (if 0 ≤ x11 then (if x11 < (x0.length : Int) then ((wrap_Blank.f ((rd_T39 x0 x11).f0) ((rd_T39 x0 x11).f1) ((rd_T39 x0 x11).f2) ((rd_T39 x0 x11).f3) ((rd_T39 x0 x11).f4) ((rd_T39 x0 x11).f5)).bind fun t278 => (if t278 = true then (parquetrylaw17_WrapAll.l1 k x0 x7 x9 (wrap64 (x11 + 1)) x277000 x277001 x277002 x277003 x277004) else (if (wrap64 (x11 + 1)) = (x0.length : Int) then ((wrap_Break.f ((rd_T39 x0 x11).f0) ((rd_T39 x0 x11).f1) ((rd_T39 x0 x11).f2) ((rd_T39 x0 x11).f3) ((rd_T39 x0 x11).f4) ((rd_T39 x0 x11).f5)).bind fun t280 => (if t280 = true then (parquetrylaw17_WrapAll.l1 k x0 x7 x9 (wrap64 (x11 + 1)) x277000 x277001 x277002 x277003 x277004) else (some false))) else (some false)))) else (none)) else (none)) else (parquetrylaw17_WrapAll.l0 k x0 x7 x277001 (wrap64 (x9 + 1)))
end
def parquetrylaw17_WrapAll.f (k : Nat) (l0 : List (S39)) (a1 : Int) (a2 : Int) : Option (Bool) := if (l0.length : Int) > 200 then ((parquetrylaw17_awake.f k).bind fun t270 => (some t270)) else ((wrap_Lines.f k l0 a1 a2).bind fun t271 => (parquetrylaw17_WrapAll.l0 k l0 t271 0 0))
theorem parquetrylaw17_WrapAll.mono_l : ∀ k, (∀ y0 y1 y2 y3, LeO (parquetrylaw17_WrapAll.l0 k y0 y1 y2 y3) (parquetrylaw17_WrapAll.l0 (k + 1) y0 y1 y2 y3)) ∧ (∀ y0 y1 y2 y3 y4 y5 y6 y7 y8, LeO (parquetrylaw17_WrapAll.j1 k y0 y1 y2 y3 y4 y5 y6 y7 y8) (parquetrylaw17_WrapAll.j1 (k + 1) y0 y1 y2 y3 y4 y5 y6 y7 y8)) ∧ (∀ y0 y1 y2 y3 y4 y5 y6 y7 y8, LeO (parquetrylaw17_WrapAll.l1 k y0 y1 y2 y3 y4 y5 y6 y7 y8) (parquetrylaw17_WrapAll.l1 (k + 1) y0 y1 y2 y3 y4 y5 y6 y7 y8))
 | 0 => ⟨fun _ _ _ _ r h => by simp [parquetrylaw17_WrapAll.l0] at h, fun _ _ _ _ _ _ _ _ _ r h => by simp [parquetrylaw17_WrapAll.j1] at h, fun _ _ _ _ _ _ _ _ _ r h => by simp [parquetrylaw17_WrapAll.l1] at h⟩
 | k + 1 => by
  obtain ⟨ih0, ih1, ih2⟩ := parquetrylaw17_WrapAll.mono_l k
  refine ⟨?_, ?_, ?_⟩
  ·
   intro y0 y1 y2 y3
   unfold parquetrylaw17_WrapAll.l0
   repeat' first
   | (with_reducible exact ih0 _ _ _ _)
   | (with_reducible exact ih1 _ _ _ _ _ _ _ _ _)
   | (with_reducible exact ih2 _ _ _ _ _ _ _ _ _)
   | (with_reducible exact parquetrylaw17_awake.mono _)
   | (with_reducible exact wrap_Lines.mono _ _ _ _)
   | (with_reducible exact LeO.refl _)
   | (with_reducible exact LeO.none _)
   | (with_reducible refine LeO.ite ?_ ?_)
   | (with_reducible refine LeO.bind ?_ (fun _ => ?_))
   | exact ih0 _ _ _ _
   | exact ih1 _ _ _ _ _ _ _ _ _
   | exact ih2 _ _ _ _ _ _ _ _ _
   | exact parquetrylaw17_awake.mono _
   | exact wrap_Lines.mono _ _ _ _
   | exact LeO.none _
   | refine LeO.ite ?_ ?_
   | refine LeO.bind ?_ (fun _ => ?_)
  ·
   intro y0 y1 y2 y3 y4 y5 y6 y7 y8
   unfold parquetrylaw17_WrapAll.j1
   repeat' first
   | (with_reducible exact ih0 _ _ _ _)
   | (with_reducible exact ih1 _ _ _ _ _ _ _ _ _)
   | (with_reducible exact ih2 _ _ _ _ _ _ _ _ _)
   | (with_reducible exact parquetrylaw17_awake.mono _)
   | (with_reducible exact wrap_Lines.mono _ _ _ _)
   | (with_reducible exact LeO.refl _)
   | (with_reducible exact LeO.none _)
   | (with_reducible refine LeO.ite ?_ ?_)
   | (with_reducible refine LeO.bind ?_ (fun _ => ?_))
   | exact ih0 _ _ _ _
   | exact ih1 _ _ _ _ _ _ _ _ _
   | exact ih2 _ _ _ _ _ _ _ _ _
   | exact parquetrylaw17_awake.mono _
   | exact wrap_Lines.mono _ _ _ _
   | exact LeO.none _
   | refine LeO.ite ?_ ?_
   | refine LeO.bind ?_ (fun _ => ?_)
  ·
   intro y0 y1 y2 y3 y4 y5 y6 y7 y8
   unfold parquetrylaw17_WrapAll.l1
   repeat' first
   | (with_reducible exact ih0 _ _ _ _)
   | (with_reducible exact ih1 _ _ _ _ _ _ _ _ _)
   | (with_reducible exact ih2 _ _ _ _ _ _ _ _ _)
   | (with_reducible exact parquetrylaw17_awake.mono _)
   | (with_reducible exact wrap_Lines.mono _ _ _ _)
   | (with_reducible exact LeO.refl _)
   | (with_reducible exact LeO.none _)
   | (with_reducible refine LeO.ite ?_ ?_)
   | (with_reducible refine LeO.bind ?_ (fun _ => ?_))
   | exact ih0 _ _ _ _
   | exact ih1 _ _ _ _ _ _ _ _ _
   | exact ih2 _ _ _ _ _ _ _ _ _
   | exact parquetrylaw17_awake.mono _
   | exact wrap_Lines.mono _ _ _ _
   | exact LeO.none _
   | refine LeO.ite ?_ ?_
   | refine LeO.bind ?_ (fun _ => ?_)
theorem parquetrylaw17_WrapAll.mono : ∀ a0 a1 a2 k, LeO (parquetrylaw17_WrapAll.f k a0 a1 a2) (parquetrylaw17_WrapAll.f (k + 1) a0 a1 a2) := by
 intro a0 a1 a2 k
 obtain ⟨ih0, ih1, ih2⟩ := parquetrylaw17_WrapAll.mono_l k
 unfold parquetrylaw17_WrapAll.f
 repeat' first
   | (with_reducible exact ih0 _ _ _ _)
   | (with_reducible exact ih1 _ _ _ _ _ _ _ _ _)
   | (with_reducible exact ih2 _ _ _ _ _ _ _ _ _)
   | (with_reducible exact parquetrylaw17_awake.mono _)
   | (with_reducible exact wrap_Lines.mono _ _ _ _)
   | (with_reducible exact LeO.refl _)
   | (with_reducible exact LeO.none _)
   | (with_reducible refine LeO.ite ?_ ?_)
   | (with_reducible refine LeO.bind ?_ (fun _ => ?_))
   | exact ih0 _ _ _ _
   | exact ih1 _ _ _ _ _ _ _ _ _
   | exact ih2 _ _ _ _ _ _ _ _ _
   | exact parquetrylaw17_awake.mono _
   | exact wrap_Lines.mono _ _ _ _
   | exact LeO.none _
   | refine LeO.ite ?_ ?_
   | refine LeO.bind ?_ (fun _ => ?_)
set_option maxHeartbeats 8000000 in
set_option maxRecDepth 100000 in
theorem parquetrylaw17_WrapAll.calls (k : Nat) (A0 : Option Addr) (c0 : Nat) (l0 : List (S39)) (a1 : Int) (a2 : Int) (r : Bool) (w : World) (hr0 : Kd.C k39 w A0 l0.length l0) (hc0 : l0.length ≤ c0) (h : parquetrylaw17_WrapAll.f k l0 a1 a2 = some r) :
  Calls Try.prog 8 #[.slice A0 l0.length c0, .int .i64 a1, .int .i64 a2] w fun e w' => e = .returned (.bool r) ∧ Below w.heap.size w w' := by
 have hu29 := Try.underlying29
 have hu39 := Try.underlying39
 have HR0 := Aside0.mk hr0
 have HC0 := Aside0.mk hc0
 clear hr0 hc0
 have HB := Aside0.mk (Below.refl w.heap.size w)
 have H : (if (l0.length : Int) > 200 then ((parquetrylaw17_awake.f k).bind fun t270 => (some t270)) else ((wrap_Lines.f k l0 a1 a2).bind fun t271 => (parquetrylaw17_WrapAll.l0 k l0 t271 0 0))) = some r := h
 clear h
 by_cases c4 : (l0.length : Int) > 200
 ·
  rw [if_pos c4] at H
  have c4b0 : decide (200 < (l0.length : Int)) = true := decide_eq_true c4
  have c4b1 : decide (200 < l0.length) = true := decide_eq_true (by omega)
  clear c4
  replace H := Option.bind_eq_some_iff.mp H
  obtain ⟨t270, A50, H⟩ := H
  replace H : (some t270) = some r := H
  have A5 := Aside0.mk A50
  clear A50
  obtain rfl := Option.some.inj H
  go_enter Try.func8, Try.ntmps8
  try dsimp only [List.append]
  go_wp2_with (first | ((with_reducible refine gate_callee (f := 17) rfl ?_); refine goesL_ (some 15) rfl rfl Try.func17 (by kernel_rfl) rfl #[] rfl (by (try simp only [List.map_toArray, List.map_cons, List.map_nil]); first | done | rfl | (simp only [List.length_drop, List.length_take]; rfl)) ?_; (with_reducible refine (parquetrylaw17_awake.calls k  t270 _ A5.out).mono ?_); rintro e w6 ⟨rfl, hb⟩; refine ⟨_, rfl, ?_⟩; have n0_ := Aside0.mk (below_step (by repeat (first | (with_reducible first | exact HB.out | apply below_alloc | apply pw_below_drewN | apply below_drew1) | exact HB.out)) hb); clear HB; have HB := n0_; clear n0_; (try clear hb); (try clear hb2); (try clear hk); (try clear hi)))
  go_ret
  exact ⟨by first | rfl | (simp [errW_none, errW_some] <;> rfl) | (simp [*, errW_none, errW_some] <;> rfl), by repeat (first | (with_reducible first | exact HB.out | apply below_alloc | apply pw_below_drewN | apply below_drew1) | exact HB.out)⟩
 ·
  rw [if_neg c4] at H
  have c4b0 : decide (200 < (l0.length : Int)) = false := decide_eq_false c4
  have c4b1 : decide (200 < l0.length) = false := decide_eq_false (by omega)
  clear c4
  replace H := Option.bind_eq_some_iff.mp H
  obtain ⟨t271, A70, H⟩ := H
  replace H : (parquetrylaw17_WrapAll.l0 k l0 t271 0 0) = some r := H
  have A7 := Aside0.mk A70
  clear A70
  have H' := Aside0.mk H
  clear H
  go_enter Try.func8, Try.ntmps8
  try dsimp only [List.append]
  go_wp2_with (first | ((with_reducible refine gate_callee (f := 26) rfl ?_); refine goesL_ (some 19) rfl rfl Try.func26 (by kernel_rfl) rfl #[.slice A0 l0.length c0, .int .i64 a1, .int .i64 a2] rfl (by (try simp only [List.map_toArray, List.map_cons, List.map_nil]); first | done | rfl | (simp only [List.length_drop, List.length_take]; rfl)) ?_; (with_reducible refine (wrap_Lines.calls k _ _ l0 a1 a2 t271 _ ?side1 ?side2 A7.out).mono ?_); (case side1 => repeat (first | exact HR0.out | (with_reducible refine Kd.C_alloc ?_ _) | (with_reducible refine Kd.C_drewN ?_ _) | (with_reducible refine Kd.C_drew ?_))); (case side2 => exact HC0.out); rintro e w8 ⟨v272, rfl, ho0, hb⟩; refine ⟨_, rfl, ?_⟩; have n0_ := Aside0.mk (Kd.R_lower ho0 (below_size (by repeat (first | (with_reducible first | exact HB.out | apply below_alloc | apply pw_below_drewN | apply below_drew1) | exact HB.out)))); have n1_ := Aside0.mk (below_step (by repeat (first | (with_reducible first | exact HB.out | apply below_alloc | apply pw_below_drewN | apply below_drew1) | exact HB.out)) hb); clear HB; have HO273 := n0_; have HB := n1_; clear n0_ n1_; (try clear hb); (try clear hb2); (try clear hk); (try clear hi); (try clear ho0)))
  go_loopg [8, 9] k (fun kq v8 v9 w' => ∃ (x8_1 : Int) (x9_1 : Int), v8 = .int .i64 x8_1 ∧ v9 = .int .i64 x9_1 ∧ Aside0 (parquetrylaw17_WrapAll.l0 kq l0 t271 x8_1 x9_1 = some r) ∧ Aside0 (kq ≤ k) ∧ Aside0 (Kd.R k29 29 w' w.heap.size (fun _ => True) v272 t271) ∧ Aside0 (Below w.heap.size w w'))
  case atStart => exact ⟨(0), (0), (by first | rfl | (simp; done) | (simp [*]; done)), (by first | rfl | (simp; done) | (simp [*]; done)), H', ⟨Nat.le_refl _⟩, ⟨by (with_reducible repeat (first | apply Kd.R_alloc | apply Kd.R_drewN | apply Kd.R_drew)); exact HO273.out⟩, ⟨by repeat (first | (with_reducible first | exact HB.out | apply below_alloc | apply pw_below_drewN | apply below_drew1) | exact HB.out)⟩⟩
  case round =>
   clear H'
   try clear c1
   try clear c2
   try clear p2
   try clear c4
   try clear c4b0
   try clear c4b1
   try clear c8
   obtain ⟨x8_1, x9_1, rfl, rfl, HA, HK1, HO_7, HB⟩ := hrel
   cases gk with
   | zero => exact absurd HA.out (by simp [parquetrylaw17_WrapAll.l0])
   | succ k1 =>
    have H := HA.out
    clear HA
    simp only [parquetrylaw17_WrapAll.l0] at H
    by_cases c9 : x9_1 < (t271.length : Int)
    ·
     rw [if_pos c9] at H
     have c9b0 : decide (x9_1 < (t271.length : Int)) = true := decide_eq_true c9
     clear c9
     by_cases c10 : 0 ≤ x9_1
     ·
      rw [if_pos c10] at H
      have c10b0 : decide (0 ≤ x9_1) = true := decide_eq_true c10
      clear c10
      have HC11 := Aside0.mk H
      clear H
      obtain ⟨Ao12, co12, eo12⟩ := Kd.R_slice HO_7.out
      subst eo12
      have p275 : 0 ≤ (x9_1 : Int) := of_decide_eq_true (by first | (with_reducible assumption) | assumption)
      have q275 : x9_1 < (t271.length : Int) := of_decide_eq_true (by first | (with_reducible assumption) | assumption)
      obtain ⟨ad275, e275, hx275_0, hx275_1, hx275_2, hx275_3, hx275_4⟩ := at_T29 (Kd.R_reads' HO_7.out).2.2 x9_1 p275 q275
      cases e275
      replace p275 := eq_true p275
      replace q275 := eq_true q275
      go_upto_region 9 with (first | ((with_reducible refine gate_dst (N := 10) rfl ?_); (try (refine gate_guard (by rfl) ?_; dsimp only)); refine box_event ?hg (N := 10) ?hd (cs := #[.int .i64 0, .int .i64 0, .int .i64 0, .int .i64 0, .int .i64 0]) (t := 29) ?hr ?_; (case hd => rfl); (case hg => rfl); (case hr => first | (go_simp; done) | (go_simp; rfl)); intro gb276 hg w13 hbox hb; have n0_ := Aside0.mk (Kd.R_below (Kd.R_elderB (by (with_reducible repeat (first | apply Kd.R_alloc | apply Kd.R_drewN | apply Kd.R_drew)); exact HO_7.out) gb276 (Nat.le_of_eq hg.symm)) hb); have n1_ := Aside0.mk (below_step (by repeat (first | (with_reducible first | exact HB.out | apply below_alloc | apply pw_below_drewN | apply below_drew1) | exact HB.out)) hb); have n2_ := Aside0.mk (hbox); have n3_ := Aside0.mk ((by rw [hg]; exact (below_size (by repeat (first | (with_reducible first | exact HB.out | apply below_alloc | apply pw_below_drewN | apply below_drew1) | exact HB.out))) : w.heap.size ≤ gb276)); have n4_ := Aside0.mk ((by rw [hg]; exact (below_size (by repeat (first | (with_reducible first | exact HB.out | apply below_alloc | apply pw_below_drewN | apply below_drew1) | exact HB.out))) : w.heap.size ≤ gb276)); clear HO_7; clear HB; have HO_7 := n0_; have HB := n1_; have BK276 := n2_; have GW276 := n3_; have GE276 := n4_; clear n0_ n1_ n2_ n3_ n4_; clear hb hbox hg; have hcz14_0 : w13.cell? ⟨gb276, 0, none⟩ = some (.int .i64 0) := (blk_cell BK276.out 0).trans rfl; have hcz14_1 : w13.cell? ⟨gb276, 1, none⟩ = some (.int .i64 0) := (blk_cell BK276.out 1).trans rfl; have hcz14_2 : w13.cell? ⟨gb276, 2, none⟩ = some (.int .i64 0) := (blk_cell BK276.out 2).trans rfl; have hcz14_3 : w13.cell? ⟨gb276, 3, none⟩ = some (.int .i64 0) := (blk_cell BK276.out 3).trans rfl; have hcz14_4 : w13.cell? ⟨gb276, 4, none⟩ = some (.int .i64 0) := (blk_cell BK276.out 4).trans rfl; have hfz14_0 := blk_frozen BK276.out 0; have hfz14_1 := blk_frozen BK276.out 1; have hfz14_2 := blk_frozen BK276.out 2; have hfz14_3 := blk_frozen BK276.out 3; have hfz14_4 := blk_frozen BK276.out 4))
      (try simp only [Act.put, List.setIfInBounds_toArray, List.set_cons_zero, List.set_cons_succ])
      go_cut [82] (fun v82 wc => ∃ (kq : Nat) (x82_10 : Bool), v82 = .bool x82_10 ∧ Aside0 (parquetrylaw17_WrapAll.j1 kq l0 t271 x9_1 x82_10 ((rd_T29 t271 x9_1).f0) ((rd_T29 t271 x9_1).f1) ((rd_T29 t271 x9_1).f2) ((rd_T29 t271 x9_1).f3) ((rd_T29 t271 x9_1).f4) = some r) ∧ Aside0 (kq ≤ k1) ∧ Aside0 (Kd.R k29 29 wc w.heap.size (fun k_ => k_ ≠ gb276) (.slice (some ad275) t271.length co12) t271) ∧ Aside0 (wc.heap[gb276]? = some (.cells #[.int .i64 ((rd_T29 t271 x9_1).f0), .int .i64 ((rd_T29 t271 x9_1).f1), .int .i64 ((rd_T29 t271 x9_1).f2), .int .i64 ((rd_T29 t271 x9_1).f3), .int .i64 ((rd_T29 t271 x9_1).f4)] 29 (0, 0))) ∧ Aside0 (Below w.heap.size w wc))
      case first =>
       have H := HC11.out
       clear HC11
       by_cases c15 : ((rd_T29 t271 x9_1).f0) = x8_1
       ·
        rw [if_pos c15] at H
        have c15b0 : (((rd_T29 t271 x9_1).f0) == x8_1) = true := beq_iff_eq.mpr c15
        have c15b1 : (((rd_T29 t271 x9_1).f0) != x8_1) = false := bne_eq_false_iff_eq.mpr c15
        clear c15
        (first | rw [c15b0] | (simp only [i64_w, i32_w]; rw [c15b0]) | skip)
        by_cases c16 : ((rd_T29 t271 x9_1).f2) < ((rd_T29 t271 x9_1).f0)
        ·
         rw [if_pos c16] at H
         have c16b0 : decide (((rd_T29 t271 x9_1).f2) < ((rd_T29 t271 x9_1).f0)) = true := decide_eq_true c16
         clear c16
         have H' := Aside0.mk H
         clear H
         have hcz17_0 : w13.cell? ⟨gb276, 0, none⟩ = some (.int .i64 0) := (blk_cell BK276.out 0).trans rfl
         have hcz17_1 : w13.cell? ⟨gb276, 1, none⟩ = some (.int .i64 0) := (blk_cell BK276.out 1).trans rfl
         have hcz17_2 : w13.cell? ⟨gb276, 2, none⟩ = some (.int .i64 0) := (blk_cell BK276.out 2).trans rfl
         have hcz17_3 : w13.cell? ⟨gb276, 3, none⟩ = some (.int .i64 0) := (blk_cell BK276.out 3).trans rfl
         have hcz17_4 : w13.cell? ⟨gb276, 4, none⟩ = some (.int .i64 0) := (blk_cell BK276.out 4).trans rfl
         have hfz17_0 := blk_frozen BK276.out 0
         have hfz17_1 := blk_frozen BK276.out 1
         have hfz17_2 := blk_frozen BK276.out 2
         have hfz17_3 := blk_frozen BK276.out 3
         have hfz17_4 := blk_frozen BK276.out 4
         go_wp2
         go_meet
         case rel => exact ⟨_, (true), (by first | rfl | (simp; done) | (simp [*]; done)), H', ⟨by have := HK1.out; first | omega | exact Nat.le_refl _⟩, ⟨by (with_reducible repeat (first | apply Kd.R_alloc | apply Kd.R_drewN | apply Kd.R_drew)); exact Kd.R_mono (Kd.R_far (p := ⟨gb276, 4, none⟩) (Kd.R_far (p := ⟨gb276, 3, none⟩) (Kd.R_far (p := ⟨gb276, 2, none⟩) (Kd.R_far (p := ⟨gb276, 1, none⟩) (Kd.R_far (p := ⟨gb276, 0, none⟩) (Kd.R_mono HO_7.out (fun k_ hk => (⟨hk, hk.2⟩ : _ ∧ k_ ≠ gb276))) (fun _ hk => hk.2) (.int .i64 ((rd_T29 t271 x9_1).f0))) (fun _ hk => hk.2) (.int .i64 ((rd_T29 t271 x9_1).f1))) (fun _ hk => hk.2) (.int .i64 ((rd_T29 t271 x9_1).f2))) (fun _ hk => hk.2) (.int .i64 ((rd_T29 t271 x9_1).f3))) (fun _ hk => hk.2) (.int .i64 ((rd_T29 t271 x9_1).f4))) (fun _ hk => hk.1.2)⟩, ⟨by (with_reducible repeat (first | refine blk_drewN ?_ _ | refine blk_drew ?_ | refine blk_alloc ?_ _)); refine blk_put (cs := #[.int .i64 ((rd_T29 t271 x9_1).f0), .int .i64 ((rd_T29 t271 x9_1).f1), .int .i64 ((rd_T29 t271 x9_1).f2), .int .i64 ((rd_T29 t271 x9_1).f3), .int .i64 0]) ?_ 4 _ rfl; (with_reducible repeat (first | refine blk_drewN ?_ _ | refine blk_drew ?_ | refine blk_alloc ?_ _)); refine blk_put (cs := #[.int .i64 ((rd_T29 t271 x9_1).f0), .int .i64 ((rd_T29 t271 x9_1).f1), .int .i64 ((rd_T29 t271 x9_1).f2), .int .i64 0, .int .i64 0]) ?_ 3 _ rfl; (with_reducible repeat (first | refine blk_drewN ?_ _ | refine blk_drew ?_ | refine blk_alloc ?_ _)); refine blk_put (cs := #[.int .i64 ((rd_T29 t271 x9_1).f0), .int .i64 ((rd_T29 t271 x9_1).f1), .int .i64 0, .int .i64 0, .int .i64 0]) ?_ 2 _ rfl; (with_reducible repeat (first | refine blk_drewN ?_ _ | refine blk_drew ?_ | refine blk_alloc ?_ _)); refine blk_put (cs := #[.int .i64 ((rd_T29 t271 x9_1).f0), .int .i64 0, .int .i64 0, .int .i64 0, .int .i64 0]) ?_ 1 _ rfl; (with_reducible repeat (first | refine blk_drewN ?_ _ | refine blk_drew ?_ | refine blk_alloc ?_ _)); refine blk_put (cs := #[.int .i64 0, .int .i64 0, .int .i64 0, .int .i64 0, .int .i64 0]) ?_ 0 _ rfl; (with_reducible repeat (first | refine blk_drewN ?_ _ | refine blk_drew ?_ | refine blk_alloc ?_ _)); exact BK276.out⟩, ⟨by repeat (first | (with_reducible first | exact HB.out | apply below_alloc | apply pw_below_drewN | apply below_drew1 | refine below_set ?_ GE276.out) | exact HB.out)⟩⟩
        ·
         rw [if_neg c16] at H
         have c16b0 : decide (((rd_T29 t271 x9_1).f2) < ((rd_T29 t271 x9_1).f0)) = false := decide_eq_false c16
         clear c16
         by_cases c18 : ((rd_T29 t271 x9_1).f1) < ((rd_T29 t271 x9_1).f2)
         ·
          rw [if_pos c18] at H
          have c18b0 : decide (((rd_T29 t271 x9_1).f1) < ((rd_T29 t271 x9_1).f2)) = true := decide_eq_true c18
          clear c18
          have H' := Aside0.mk H
          clear H
          have hcz19_0 : w13.cell? ⟨gb276, 0, none⟩ = some (.int .i64 0) := (blk_cell BK276.out 0).trans rfl
          have hcz19_1 : w13.cell? ⟨gb276, 1, none⟩ = some (.int .i64 0) := (blk_cell BK276.out 1).trans rfl
          have hcz19_2 : w13.cell? ⟨gb276, 2, none⟩ = some (.int .i64 0) := (blk_cell BK276.out 2).trans rfl
          have hcz19_3 : w13.cell? ⟨gb276, 3, none⟩ = some (.int .i64 0) := (blk_cell BK276.out 3).trans rfl
          have hcz19_4 : w13.cell? ⟨gb276, 4, none⟩ = some (.int .i64 0) := (blk_cell BK276.out 4).trans rfl
          have hfz19_0 := blk_frozen BK276.out 0
          have hfz19_1 := blk_frozen BK276.out 1
          have hfz19_2 := blk_frozen BK276.out 2
          have hfz19_3 := blk_frozen BK276.out 3
          have hfz19_4 := blk_frozen BK276.out 4
          go_wp2
          go_meet
          case rel => exact ⟨_, (true), (by first | rfl | (simp; done) | (simp [*]; done)), H', ⟨by have := HK1.out; first | omega | exact Nat.le_refl _⟩, ⟨by (with_reducible repeat (first | apply Kd.R_alloc | apply Kd.R_drewN | apply Kd.R_drew)); exact Kd.R_mono (Kd.R_far (p := ⟨gb276, 4, none⟩) (Kd.R_far (p := ⟨gb276, 3, none⟩) (Kd.R_far (p := ⟨gb276, 2, none⟩) (Kd.R_far (p := ⟨gb276, 1, none⟩) (Kd.R_far (p := ⟨gb276, 0, none⟩) (Kd.R_mono HO_7.out (fun k_ hk => (⟨hk, hk.2⟩ : _ ∧ k_ ≠ gb276))) (fun _ hk => hk.2) (.int .i64 ((rd_T29 t271 x9_1).f0))) (fun _ hk => hk.2) (.int .i64 ((rd_T29 t271 x9_1).f1))) (fun _ hk => hk.2) (.int .i64 ((rd_T29 t271 x9_1).f2))) (fun _ hk => hk.2) (.int .i64 ((rd_T29 t271 x9_1).f3))) (fun _ hk => hk.2) (.int .i64 ((rd_T29 t271 x9_1).f4))) (fun _ hk => hk.1.2)⟩, ⟨by (with_reducible repeat (first | refine blk_drewN ?_ _ | refine blk_drew ?_ | refine blk_alloc ?_ _)); refine blk_put (cs := #[.int .i64 ((rd_T29 t271 x9_1).f0), .int .i64 ((rd_T29 t271 x9_1).f1), .int .i64 ((rd_T29 t271 x9_1).f2), .int .i64 ((rd_T29 t271 x9_1).f3), .int .i64 0]) ?_ 4 _ rfl; (with_reducible repeat (first | refine blk_drewN ?_ _ | refine blk_drew ?_ | refine blk_alloc ?_ _)); refine blk_put (cs := #[.int .i64 ((rd_T29 t271 x9_1).f0), .int .i64 ((rd_T29 t271 x9_1).f1), .int .i64 ((rd_T29 t271 x9_1).f2), .int .i64 0, .int .i64 0]) ?_ 3 _ rfl; (with_reducible repeat (first | refine blk_drewN ?_ _ | refine blk_drew ?_ | refine blk_alloc ?_ _)); refine blk_put (cs := #[.int .i64 ((rd_T29 t271 x9_1).f0), .int .i64 ((rd_T29 t271 x9_1).f1), .int .i64 0, .int .i64 0, .int .i64 0]) ?_ 2 _ rfl; (with_reducible repeat (first | refine blk_drewN ?_ _ | refine blk_drew ?_ | refine blk_alloc ?_ _)); refine blk_put (cs := #[.int .i64 ((rd_T29 t271 x9_1).f0), .int .i64 0, .int .i64 0, .int .i64 0, .int .i64 0]) ?_ 1 _ rfl; (with_reducible repeat (first | refine blk_drewN ?_ _ | refine blk_drew ?_ | refine blk_alloc ?_ _)); refine blk_put (cs := #[.int .i64 0, .int .i64 0, .int .i64 0, .int .i64 0, .int .i64 0]) ?_ 0 _ rfl; (with_reducible repeat (first | refine blk_drewN ?_ _ | refine blk_drew ?_ | refine blk_alloc ?_ _)); exact BK276.out⟩, ⟨by repeat (first | (with_reducible first | exact HB.out | apply below_alloc | apply pw_below_drewN | apply below_drew1 | refine below_set ?_ GE276.out) | exact HB.out)⟩⟩
         ·
          rw [if_neg c18] at H
          have c18b0 : decide (((rd_T29 t271 x9_1).f1) < ((rd_T29 t271 x9_1).f2)) = false := decide_eq_false c18
          clear c18
          by_cases c20 : ((rd_T29 t271 x9_1).f1) > (l0.length : Int)
          ·
           rw [if_pos c20] at H
           have c20b0 : decide ((l0.length : Int) < ((rd_T29 t271 x9_1).f1)) = true := decide_eq_true c20
           clear c20
           have H' := Aside0.mk H
           clear H
           have hcz21_0 : w13.cell? ⟨gb276, 0, none⟩ = some (.int .i64 0) := (blk_cell BK276.out 0).trans rfl
           have hcz21_1 : w13.cell? ⟨gb276, 1, none⟩ = some (.int .i64 0) := (blk_cell BK276.out 1).trans rfl
           have hcz21_2 : w13.cell? ⟨gb276, 2, none⟩ = some (.int .i64 0) := (blk_cell BK276.out 2).trans rfl
           have hcz21_3 : w13.cell? ⟨gb276, 3, none⟩ = some (.int .i64 0) := (blk_cell BK276.out 3).trans rfl
           have hcz21_4 : w13.cell? ⟨gb276, 4, none⟩ = some (.int .i64 0) := (blk_cell BK276.out 4).trans rfl
           have hfz21_0 := blk_frozen BK276.out 0
           have hfz21_1 := blk_frozen BK276.out 1
           have hfz21_2 := blk_frozen BK276.out 2
           have hfz21_3 := blk_frozen BK276.out 3
           have hfz21_4 := blk_frozen BK276.out 4
           go_wp2
           go_meet
           case rel => exact ⟨_, (true), (by first | rfl | (simp; done) | (simp [*]; done)), H', ⟨by have := HK1.out; first | omega | exact Nat.le_refl _⟩, ⟨by (with_reducible repeat (first | apply Kd.R_alloc | apply Kd.R_drewN | apply Kd.R_drew)); exact Kd.R_mono (Kd.R_far (p := ⟨gb276, 4, none⟩) (Kd.R_far (p := ⟨gb276, 3, none⟩) (Kd.R_far (p := ⟨gb276, 2, none⟩) (Kd.R_far (p := ⟨gb276, 1, none⟩) (Kd.R_far (p := ⟨gb276, 0, none⟩) (Kd.R_mono HO_7.out (fun k_ hk => (⟨hk, hk.2⟩ : _ ∧ k_ ≠ gb276))) (fun _ hk => hk.2) (.int .i64 ((rd_T29 t271 x9_1).f0))) (fun _ hk => hk.2) (.int .i64 ((rd_T29 t271 x9_1).f1))) (fun _ hk => hk.2) (.int .i64 ((rd_T29 t271 x9_1).f2))) (fun _ hk => hk.2) (.int .i64 ((rd_T29 t271 x9_1).f3))) (fun _ hk => hk.2) (.int .i64 ((rd_T29 t271 x9_1).f4))) (fun _ hk => hk.1.2)⟩, ⟨by (with_reducible repeat (first | refine blk_drewN ?_ _ | refine blk_drew ?_ | refine blk_alloc ?_ _)); refine blk_put (cs := #[.int .i64 ((rd_T29 t271 x9_1).f0), .int .i64 ((rd_T29 t271 x9_1).f1), .int .i64 ((rd_T29 t271 x9_1).f2), .int .i64 ((rd_T29 t271 x9_1).f3), .int .i64 0]) ?_ 4 _ rfl; (with_reducible repeat (first | refine blk_drewN ?_ _ | refine blk_drew ?_ | refine blk_alloc ?_ _)); refine blk_put (cs := #[.int .i64 ((rd_T29 t271 x9_1).f0), .int .i64 ((rd_T29 t271 x9_1).f1), .int .i64 ((rd_T29 t271 x9_1).f2), .int .i64 0, .int .i64 0]) ?_ 3 _ rfl; (with_reducible repeat (first | refine blk_drewN ?_ _ | refine blk_drew ?_ | refine blk_alloc ?_ _)); refine blk_put (cs := #[.int .i64 ((rd_T29 t271 x9_1).f0), .int .i64 ((rd_T29 t271 x9_1).f1), .int .i64 0, .int .i64 0, .int .i64 0]) ?_ 2 _ rfl; (with_reducible repeat (first | refine blk_drewN ?_ _ | refine blk_drew ?_ | refine blk_alloc ?_ _)); refine blk_put (cs := #[.int .i64 ((rd_T29 t271 x9_1).f0), .int .i64 0, .int .i64 0, .int .i64 0, .int .i64 0]) ?_ 1 _ rfl; (with_reducible repeat (first | refine blk_drewN ?_ _ | refine blk_drew ?_ | refine blk_alloc ?_ _)); refine blk_put (cs := #[.int .i64 0, .int .i64 0, .int .i64 0, .int .i64 0, .int .i64 0]) ?_ 0 _ rfl; (with_reducible repeat (first | refine blk_drewN ?_ _ | refine blk_drew ?_ | refine blk_alloc ?_ _)); exact BK276.out⟩, ⟨by repeat (first | (with_reducible first | exact HB.out | apply below_alloc | apply pw_below_drewN | apply below_drew1 | refine below_set ?_ GE276.out) | exact HB.out)⟩⟩
          ·
           rw [if_neg c20] at H
           have c20b0 : decide ((l0.length : Int) < ((rd_T29 t271 x9_1).f1)) = false := decide_eq_false c20
           clear c20
           by_cases c22 : ((rd_T29 t271 x9_1).f1) = ((rd_T29 t271 x9_1).f0)
           ·
            rw [if_pos c22] at H
            have c22b0 : (((rd_T29 t271 x9_1).f1) == ((rd_T29 t271 x9_1).f0)) = true := beq_iff_eq.mpr c22
            have c22b1 : (((rd_T29 t271 x9_1).f1) != ((rd_T29 t271 x9_1).f0)) = false := bne_eq_false_iff_eq.mpr c22
            clear c22
            by_cases c23 : (l0.length : Int) > 0
            ·
             rw [if_pos c23] at H
             have c23b0 : decide (0 < (l0.length : Int)) = true := decide_eq_true c23
             have c23b1 : decide (0 < l0.length) = true := decide_eq_true (by omega)
             clear c23
             have H' := Aside0.mk H
             clear H
             have hcz24_0 : w13.cell? ⟨gb276, 0, none⟩ = some (.int .i64 0) := (blk_cell BK276.out 0).trans rfl
             have hcz24_1 : w13.cell? ⟨gb276, 1, none⟩ = some (.int .i64 0) := (blk_cell BK276.out 1).trans rfl
             have hcz24_2 : w13.cell? ⟨gb276, 2, none⟩ = some (.int .i64 0) := (blk_cell BK276.out 2).trans rfl
             have hcz24_3 : w13.cell? ⟨gb276, 3, none⟩ = some (.int .i64 0) := (blk_cell BK276.out 3).trans rfl
             have hcz24_4 : w13.cell? ⟨gb276, 4, none⟩ = some (.int .i64 0) := (blk_cell BK276.out 4).trans rfl
             have hfz24_0 := blk_frozen BK276.out 0
             have hfz24_1 := blk_frozen BK276.out 1
             have hfz24_2 := blk_frozen BK276.out 2
             have hfz24_3 := blk_frozen BK276.out 3
             have hfz24_4 := blk_frozen BK276.out 4
             go_wp2
             go_meet
             case rel => exact ⟨_, (true), (by first | rfl | (simp; done) | (simp [*]; done)), H', ⟨by have := HK1.out; first | omega | exact Nat.le_refl _⟩, ⟨by (with_reducible repeat (first | apply Kd.R_alloc | apply Kd.R_drewN | apply Kd.R_drew)); exact Kd.R_mono (Kd.R_far (p := ⟨gb276, 4, none⟩) (Kd.R_far (p := ⟨gb276, 3, none⟩) (Kd.R_far (p := ⟨gb276, 2, none⟩) (Kd.R_far (p := ⟨gb276, 1, none⟩) (Kd.R_far (p := ⟨gb276, 0, none⟩) (Kd.R_mono HO_7.out (fun k_ hk => (⟨hk, hk.2⟩ : _ ∧ k_ ≠ gb276))) (fun _ hk => hk.2) (.int .i64 ((rd_T29 t271 x9_1).f0))) (fun _ hk => hk.2) (.int .i64 ((rd_T29 t271 x9_1).f1))) (fun _ hk => hk.2) (.int .i64 ((rd_T29 t271 x9_1).f2))) (fun _ hk => hk.2) (.int .i64 ((rd_T29 t271 x9_1).f3))) (fun _ hk => hk.2) (.int .i64 ((rd_T29 t271 x9_1).f4))) (fun _ hk => hk.1.2)⟩, ⟨by (with_reducible repeat (first | refine blk_drewN ?_ _ | refine blk_drew ?_ | refine blk_alloc ?_ _)); refine blk_put (cs := #[.int .i64 ((rd_T29 t271 x9_1).f0), .int .i64 ((rd_T29 t271 x9_1).f1), .int .i64 ((rd_T29 t271 x9_1).f2), .int .i64 ((rd_T29 t271 x9_1).f3), .int .i64 0]) ?_ 4 _ rfl; (with_reducible repeat (first | refine blk_drewN ?_ _ | refine blk_drew ?_ | refine blk_alloc ?_ _)); refine blk_put (cs := #[.int .i64 ((rd_T29 t271 x9_1).f0), .int .i64 ((rd_T29 t271 x9_1).f1), .int .i64 ((rd_T29 t271 x9_1).f2), .int .i64 0, .int .i64 0]) ?_ 3 _ rfl; (with_reducible repeat (first | refine blk_drewN ?_ _ | refine blk_drew ?_ | refine blk_alloc ?_ _)); refine blk_put (cs := #[.int .i64 ((rd_T29 t271 x9_1).f0), .int .i64 ((rd_T29 t271 x9_1).f1), .int .i64 0, .int .i64 0, .int .i64 0]) ?_ 2 _ rfl; (with_reducible repeat (first | refine blk_drewN ?_ _ | refine blk_drew ?_ | refine blk_alloc ?_ _)); refine blk_put (cs := #[.int .i64 ((rd_T29 t271 x9_1).f0), .int .i64 0, .int .i64 0, .int .i64 0, .int .i64 0]) ?_ 1 _ rfl; (with_reducible repeat (first | refine blk_drewN ?_ _ | refine blk_drew ?_ | refine blk_alloc ?_ _)); refine blk_put (cs := #[.int .i64 0, .int .i64 0, .int .i64 0, .int .i64 0, .int .i64 0]) ?_ 0 _ rfl; (with_reducible repeat (first | refine blk_drewN ?_ _ | refine blk_drew ?_ | refine blk_alloc ?_ _)); exact BK276.out⟩, ⟨by repeat (first | (with_reducible first | exact HB.out | apply below_alloc | apply pw_below_drewN | apply below_drew1 | refine below_set ?_ GE276.out) | exact HB.out)⟩⟩
            ·
             rw [if_neg c23] at H
             have c23b0 : decide (0 < (l0.length : Int)) = false := decide_eq_false c23
             have c23b1 : decide (0 < l0.length) = false := decide_eq_false (by omega)
             clear c23
             by_cases c25 : ((((rd_T29 t271 x9_1).f3) == 1) != ((wrap64 (x9_1 + 1)) == (t271.length : Int))) = true
             ·
              rw [if_pos c25] at H
              have c25b0 : ((((rd_T29 t271 x9_1).f3) == 1) != ((wrap64 (x9_1 + 1)) == (t271.length : Int))) = true := c25
              (try (have c25b1 : decide ((((rd_T29 t271 x9_1).f3) == 1) = ((wrap64 (x9_1 + 1)) == (t271.length : Int))) = false := by simpa using c25))
              (try (have c25b2 : ((((rd_T29 t271 x9_1).f3) == 1) == ((wrap64 (x9_1 + 1)) == (t271.length : Int))) = false := by simpa using c25))
              (try (have c25b3 : ¬ ((((rd_T29 t271 x9_1).f3) == 1) = ((wrap64 (x9_1 + 1)) == (t271.length : Int))) := by simpa using c25))
              clear c25
              have H' := Aside0.mk H
              clear H
              have hcz26_0 : w13.cell? ⟨gb276, 0, none⟩ = some (.int .i64 0) := (blk_cell BK276.out 0).trans rfl
              have hcz26_1 : w13.cell? ⟨gb276, 1, none⟩ = some (.int .i64 0) := (blk_cell BK276.out 1).trans rfl
              have hcz26_2 : w13.cell? ⟨gb276, 2, none⟩ = some (.int .i64 0) := (blk_cell BK276.out 2).trans rfl
              have hcz26_3 : w13.cell? ⟨gb276, 3, none⟩ = some (.int .i64 0) := (blk_cell BK276.out 3).trans rfl
              have hcz26_4 : w13.cell? ⟨gb276, 4, none⟩ = some (.int .i64 0) := (blk_cell BK276.out 4).trans rfl
              have hfz26_0 := blk_frozen BK276.out 0
              have hfz26_1 := blk_frozen BK276.out 1
              have hfz26_2 := blk_frozen BK276.out 2
              have hfz26_3 := blk_frozen BK276.out 3
              have hfz26_4 := blk_frozen BK276.out 4
              go_wp2
              go_meet
              case rel => exact ⟨_, (true), (by first | rfl | (simp; done) | (simp [*]; done)), H', ⟨by have := HK1.out; first | omega | exact Nat.le_refl _⟩, ⟨by (with_reducible repeat (first | apply Kd.R_alloc | apply Kd.R_drewN | apply Kd.R_drew)); exact Kd.R_mono (Kd.R_far (p := ⟨gb276, 4, none⟩) (Kd.R_far (p := ⟨gb276, 3, none⟩) (Kd.R_far (p := ⟨gb276, 2, none⟩) (Kd.R_far (p := ⟨gb276, 1, none⟩) (Kd.R_far (p := ⟨gb276, 0, none⟩) (Kd.R_mono HO_7.out (fun k_ hk => (⟨hk, hk.2⟩ : _ ∧ k_ ≠ gb276))) (fun _ hk => hk.2) (.int .i64 ((rd_T29 t271 x9_1).f0))) (fun _ hk => hk.2) (.int .i64 ((rd_T29 t271 x9_1).f1))) (fun _ hk => hk.2) (.int .i64 ((rd_T29 t271 x9_1).f2))) (fun _ hk => hk.2) (.int .i64 ((rd_T29 t271 x9_1).f3))) (fun _ hk => hk.2) (.int .i64 ((rd_T29 t271 x9_1).f4))) (fun _ hk => hk.1.2)⟩, ⟨by (with_reducible repeat (first | refine blk_drewN ?_ _ | refine blk_drew ?_ | refine blk_alloc ?_ _)); refine blk_put (cs := #[.int .i64 ((rd_T29 t271 x9_1).f0), .int .i64 ((rd_T29 t271 x9_1).f1), .int .i64 ((rd_T29 t271 x9_1).f2), .int .i64 ((rd_T29 t271 x9_1).f3), .int .i64 0]) ?_ 4 _ rfl; (with_reducible repeat (first | refine blk_drewN ?_ _ | refine blk_drew ?_ | refine blk_alloc ?_ _)); refine blk_put (cs := #[.int .i64 ((rd_T29 t271 x9_1).f0), .int .i64 ((rd_T29 t271 x9_1).f1), .int .i64 ((rd_T29 t271 x9_1).f2), .int .i64 0, .int .i64 0]) ?_ 3 _ rfl; (with_reducible repeat (first | refine blk_drewN ?_ _ | refine blk_drew ?_ | refine blk_alloc ?_ _)); refine blk_put (cs := #[.int .i64 ((rd_T29 t271 x9_1).f0), .int .i64 ((rd_T29 t271 x9_1).f1), .int .i64 0, .int .i64 0, .int .i64 0]) ?_ 2 _ rfl; (with_reducible repeat (first | refine blk_drewN ?_ _ | refine blk_drew ?_ | refine blk_alloc ?_ _)); refine blk_put (cs := #[.int .i64 ((rd_T29 t271 x9_1).f0), .int .i64 0, .int .i64 0, .int .i64 0, .int .i64 0]) ?_ 1 _ rfl; (with_reducible repeat (first | refine blk_drewN ?_ _ | refine blk_drew ?_ | refine blk_alloc ?_ _)); refine blk_put (cs := #[.int .i64 0, .int .i64 0, .int .i64 0, .int .i64 0, .int .i64 0]) ?_ 0 _ rfl; (with_reducible repeat (first | refine blk_drewN ?_ _ | refine blk_drew ?_ | refine blk_alloc ?_ _)); exact BK276.out⟩, ⟨by repeat (first | (with_reducible first | exact HB.out | apply below_alloc | apply pw_below_drewN | apply below_drew1 | refine below_set ?_ GE276.out) | exact HB.out)⟩⟩
             ·
              rw [if_neg c25] at H
              have c25b0 : ((((rd_T29 t271 x9_1).f3) == 1) != ((wrap64 (x9_1 + 1)) == (t271.length : Int))) = false := by simpa using c25
              (try (have c25b1 : decide ((((rd_T29 t271 x9_1).f3) == 1) = ((wrap64 (x9_1 + 1)) == (t271.length : Int))) = true := by simpa using c25))
              (try (have c25b2 : ((((rd_T29 t271 x9_1).f3) == 1) == ((wrap64 (x9_1 + 1)) == (t271.length : Int))) = true := by simpa using c25))
              clear c25
              have H' := Aside0.mk H
              clear H
              have hcz27_0 : w13.cell? ⟨gb276, 0, none⟩ = some (.int .i64 0) := (blk_cell BK276.out 0).trans rfl
              have hcz27_1 : w13.cell? ⟨gb276, 1, none⟩ = some (.int .i64 0) := (blk_cell BK276.out 1).trans rfl
              have hcz27_2 : w13.cell? ⟨gb276, 2, none⟩ = some (.int .i64 0) := (blk_cell BK276.out 2).trans rfl
              have hcz27_3 : w13.cell? ⟨gb276, 3, none⟩ = some (.int .i64 0) := (blk_cell BK276.out 3).trans rfl
              have hcz27_4 : w13.cell? ⟨gb276, 4, none⟩ = some (.int .i64 0) := (blk_cell BK276.out 4).trans rfl
              have hfz27_0 := blk_frozen BK276.out 0
              have hfz27_1 := blk_frozen BK276.out 1
              have hfz27_2 := blk_frozen BK276.out 2
              have hfz27_3 := blk_frozen BK276.out 3
              have hfz27_4 := blk_frozen BK276.out 4
              go_wp2
              go_meet
              case rel => exact ⟨_, ((((rd_T29 t271 x9_1).f4) != 0)), (by first | rfl | (simp; done) | (simp [*]; done)), H', ⟨by have := HK1.out; first | omega | exact Nat.le_refl _⟩, ⟨by (with_reducible repeat (first | apply Kd.R_alloc | apply Kd.R_drewN | apply Kd.R_drew)); exact Kd.R_mono (Kd.R_far (p := ⟨gb276, 4, none⟩) (Kd.R_far (p := ⟨gb276, 3, none⟩) (Kd.R_far (p := ⟨gb276, 2, none⟩) (Kd.R_far (p := ⟨gb276, 1, none⟩) (Kd.R_far (p := ⟨gb276, 0, none⟩) (Kd.R_mono HO_7.out (fun k_ hk => (⟨hk, hk.2⟩ : _ ∧ k_ ≠ gb276))) (fun _ hk => hk.2) (.int .i64 ((rd_T29 t271 x9_1).f0))) (fun _ hk => hk.2) (.int .i64 ((rd_T29 t271 x9_1).f1))) (fun _ hk => hk.2) (.int .i64 ((rd_T29 t271 x9_1).f2))) (fun _ hk => hk.2) (.int .i64 ((rd_T29 t271 x9_1).f3))) (fun _ hk => hk.2) (.int .i64 ((rd_T29 t271 x9_1).f4))) (fun _ hk => hk.1.2)⟩, ⟨by (with_reducible repeat (first | refine blk_drewN ?_ _ | refine blk_drew ?_ | refine blk_alloc ?_ _)); refine blk_put (cs := #[.int .i64 ((rd_T29 t271 x9_1).f0), .int .i64 ((rd_T29 t271 x9_1).f1), .int .i64 ((rd_T29 t271 x9_1).f2), .int .i64 ((rd_T29 t271 x9_1).f3), .int .i64 0]) ?_ 4 _ rfl; (with_reducible repeat (first | refine blk_drewN ?_ _ | refine blk_drew ?_ | refine blk_alloc ?_ _)); refine blk_put (cs := #[.int .i64 ((rd_T29 t271 x9_1).f0), .int .i64 ((rd_T29 t271 x9_1).f1), .int .i64 ((rd_T29 t271 x9_1).f2), .int .i64 0, .int .i64 0]) ?_ 3 _ rfl; (with_reducible repeat (first | refine blk_drewN ?_ _ | refine blk_drew ?_ | refine blk_alloc ?_ _)); refine blk_put (cs := #[.int .i64 ((rd_T29 t271 x9_1).f0), .int .i64 ((rd_T29 t271 x9_1).f1), .int .i64 0, .int .i64 0, .int .i64 0]) ?_ 2 _ rfl; (with_reducible repeat (first | refine blk_drewN ?_ _ | refine blk_drew ?_ | refine blk_alloc ?_ _)); refine blk_put (cs := #[.int .i64 ((rd_T29 t271 x9_1).f0), .int .i64 0, .int .i64 0, .int .i64 0, .int .i64 0]) ?_ 1 _ rfl; (with_reducible repeat (first | refine blk_drewN ?_ _ | refine blk_drew ?_ | refine blk_alloc ?_ _)); refine blk_put (cs := #[.int .i64 0, .int .i64 0, .int .i64 0, .int .i64 0, .int .i64 0]) ?_ 0 _ rfl; (with_reducible repeat (first | refine blk_drewN ?_ _ | refine blk_drew ?_ | refine blk_alloc ?_ _)); exact BK276.out⟩, ⟨by repeat (first | (with_reducible first | exact HB.out | apply below_alloc | apply pw_below_drewN | apply below_drew1 | refine below_set ?_ GE276.out) | exact HB.out)⟩⟩
           ·
            rw [if_neg c22] at H
            have c22b0 : (((rd_T29 t271 x9_1).f1) == ((rd_T29 t271 x9_1).f0)) = false := beq_eq_false_iff_ne.mpr c22
            have c22b1 : (((rd_T29 t271 x9_1).f1) != ((rd_T29 t271 x9_1).f0)) = true := bne_iff_ne.mpr c22
            by_cases c28 : ((((rd_T29 t271 x9_1).f3) == 1) != ((wrap64 (x9_1 + 1)) == (t271.length : Int))) = true
            ·
             rw [if_pos c28] at H
             have c28b0 : ((((rd_T29 t271 x9_1).f3) == 1) != ((wrap64 (x9_1 + 1)) == (t271.length : Int))) = true := c28
             (try (have c28b1 : decide ((((rd_T29 t271 x9_1).f3) == 1) = ((wrap64 (x9_1 + 1)) == (t271.length : Int))) = false := by simpa using c28))
             (try (have c28b2 : ((((rd_T29 t271 x9_1).f3) == 1) == ((wrap64 (x9_1 + 1)) == (t271.length : Int))) = false := by simpa using c28))
             (try (have c28b3 : ¬ ((((rd_T29 t271 x9_1).f3) == 1) = ((wrap64 (x9_1 + 1)) == (t271.length : Int))) := by simpa using c28))
             clear c28
             have H' := Aside0.mk H
             clear H
             have hcz29_0 : w13.cell? ⟨gb276, 0, none⟩ = some (.int .i64 0) := (blk_cell BK276.out 0).trans rfl
             have hcz29_1 : w13.cell? ⟨gb276, 1, none⟩ = some (.int .i64 0) := (blk_cell BK276.out 1).trans rfl
             have hcz29_2 : w13.cell? ⟨gb276, 2, none⟩ = some (.int .i64 0) := (blk_cell BK276.out 2).trans rfl
             have hcz29_3 : w13.cell? ⟨gb276, 3, none⟩ = some (.int .i64 0) := (blk_cell BK276.out 3).trans rfl
             have hcz29_4 : w13.cell? ⟨gb276, 4, none⟩ = some (.int .i64 0) := (blk_cell BK276.out 4).trans rfl
             have hfz29_0 := blk_frozen BK276.out 0
             have hfz29_1 := blk_frozen BK276.out 1
             have hfz29_2 := blk_frozen BK276.out 2
             have hfz29_3 := blk_frozen BK276.out 3
             have hfz29_4 := blk_frozen BK276.out 4
             go_wp2
             go_meet
             case rel => exact ⟨_, (true), (by first | rfl | (simp; done) | (simp [*]; done)), H', ⟨by have := HK1.out; first | omega | exact Nat.le_refl _⟩, ⟨by (with_reducible repeat (first | apply Kd.R_alloc | apply Kd.R_drewN | apply Kd.R_drew)); exact Kd.R_mono (Kd.R_far (p := ⟨gb276, 4, none⟩) (Kd.R_far (p := ⟨gb276, 3, none⟩) (Kd.R_far (p := ⟨gb276, 2, none⟩) (Kd.R_far (p := ⟨gb276, 1, none⟩) (Kd.R_far (p := ⟨gb276, 0, none⟩) (Kd.R_mono HO_7.out (fun k_ hk => (⟨hk, hk.2⟩ : _ ∧ k_ ≠ gb276))) (fun _ hk => hk.2) (.int .i64 ((rd_T29 t271 x9_1).f0))) (fun _ hk => hk.2) (.int .i64 ((rd_T29 t271 x9_1).f1))) (fun _ hk => hk.2) (.int .i64 ((rd_T29 t271 x9_1).f2))) (fun _ hk => hk.2) (.int .i64 ((rd_T29 t271 x9_1).f3))) (fun _ hk => hk.2) (.int .i64 ((rd_T29 t271 x9_1).f4))) (fun _ hk => hk.1.2)⟩, ⟨by (with_reducible repeat (first | refine blk_drewN ?_ _ | refine blk_drew ?_ | refine blk_alloc ?_ _)); refine blk_put (cs := #[.int .i64 ((rd_T29 t271 x9_1).f0), .int .i64 ((rd_T29 t271 x9_1).f1), .int .i64 ((rd_T29 t271 x9_1).f2), .int .i64 ((rd_T29 t271 x9_1).f3), .int .i64 0]) ?_ 4 _ rfl; (with_reducible repeat (first | refine blk_drewN ?_ _ | refine blk_drew ?_ | refine blk_alloc ?_ _)); refine blk_put (cs := #[.int .i64 ((rd_T29 t271 x9_1).f0), .int .i64 ((rd_T29 t271 x9_1).f1), .int .i64 ((rd_T29 t271 x9_1).f2), .int .i64 0, .int .i64 0]) ?_ 3 _ rfl; (with_reducible repeat (first | refine blk_drewN ?_ _ | refine blk_drew ?_ | refine blk_alloc ?_ _)); refine blk_put (cs := #[.int .i64 ((rd_T29 t271 x9_1).f0), .int .i64 ((rd_T29 t271 x9_1).f1), .int .i64 0, .int .i64 0, .int .i64 0]) ?_ 2 _ rfl; (with_reducible repeat (first | refine blk_drewN ?_ _ | refine blk_drew ?_ | refine blk_alloc ?_ _)); refine blk_put (cs := #[.int .i64 ((rd_T29 t271 x9_1).f0), .int .i64 0, .int .i64 0, .int .i64 0, .int .i64 0]) ?_ 1 _ rfl; (with_reducible repeat (first | refine blk_drewN ?_ _ | refine blk_drew ?_ | refine blk_alloc ?_ _)); refine blk_put (cs := #[.int .i64 0, .int .i64 0, .int .i64 0, .int .i64 0, .int .i64 0]) ?_ 0 _ rfl; (with_reducible repeat (first | refine blk_drewN ?_ _ | refine blk_drew ?_ | refine blk_alloc ?_ _)); exact BK276.out⟩, ⟨by repeat (first | (with_reducible first | exact HB.out | apply below_alloc | apply pw_below_drewN | apply below_drew1 | refine below_set ?_ GE276.out) | exact HB.out)⟩⟩
            ·
             rw [if_neg c28] at H
             have c28b0 : ((((rd_T29 t271 x9_1).f3) == 1) != ((wrap64 (x9_1 + 1)) == (t271.length : Int))) = false := by simpa using c28
             (try (have c28b1 : decide ((((rd_T29 t271 x9_1).f3) == 1) = ((wrap64 (x9_1 + 1)) == (t271.length : Int))) = true := by simpa using c28))
             (try (have c28b2 : ((((rd_T29 t271 x9_1).f3) == 1) == ((wrap64 (x9_1 + 1)) == (t271.length : Int))) = true := by simpa using c28))
             clear c28
             have H' := Aside0.mk H
             clear H
             have hcz30_0 : w13.cell? ⟨gb276, 0, none⟩ = some (.int .i64 0) := (blk_cell BK276.out 0).trans rfl
             have hcz30_1 : w13.cell? ⟨gb276, 1, none⟩ = some (.int .i64 0) := (blk_cell BK276.out 1).trans rfl
             have hcz30_2 : w13.cell? ⟨gb276, 2, none⟩ = some (.int .i64 0) := (blk_cell BK276.out 2).trans rfl
             have hcz30_3 : w13.cell? ⟨gb276, 3, none⟩ = some (.int .i64 0) := (blk_cell BK276.out 3).trans rfl
             have hcz30_4 : w13.cell? ⟨gb276, 4, none⟩ = some (.int .i64 0) := (blk_cell BK276.out 4).trans rfl
             have hfz30_0 := blk_frozen BK276.out 0
             have hfz30_1 := blk_frozen BK276.out 1
             have hfz30_2 := blk_frozen BK276.out 2
             have hfz30_3 := blk_frozen BK276.out 3
             have hfz30_4 := blk_frozen BK276.out 4
             go_wp2
             go_meet
             case rel => exact ⟨_, ((((rd_T29 t271 x9_1).f4) != 0)), (by first | rfl | (simp; done) | (simp [*]; done)), H', ⟨by have := HK1.out; first | omega | exact Nat.le_refl _⟩, ⟨by (with_reducible repeat (first | apply Kd.R_alloc | apply Kd.R_drewN | apply Kd.R_drew)); exact Kd.R_mono (Kd.R_far (p := ⟨gb276, 4, none⟩) (Kd.R_far (p := ⟨gb276, 3, none⟩) (Kd.R_far (p := ⟨gb276, 2, none⟩) (Kd.R_far (p := ⟨gb276, 1, none⟩) (Kd.R_far (p := ⟨gb276, 0, none⟩) (Kd.R_mono HO_7.out (fun k_ hk => (⟨hk, hk.2⟩ : _ ∧ k_ ≠ gb276))) (fun _ hk => hk.2) (.int .i64 ((rd_T29 t271 x9_1).f0))) (fun _ hk => hk.2) (.int .i64 ((rd_T29 t271 x9_1).f1))) (fun _ hk => hk.2) (.int .i64 ((rd_T29 t271 x9_1).f2))) (fun _ hk => hk.2) (.int .i64 ((rd_T29 t271 x9_1).f3))) (fun _ hk => hk.2) (.int .i64 ((rd_T29 t271 x9_1).f4))) (fun _ hk => hk.1.2)⟩, ⟨by (with_reducible repeat (first | refine blk_drewN ?_ _ | refine blk_drew ?_ | refine blk_alloc ?_ _)); refine blk_put (cs := #[.int .i64 ((rd_T29 t271 x9_1).f0), .int .i64 ((rd_T29 t271 x9_1).f1), .int .i64 ((rd_T29 t271 x9_1).f2), .int .i64 ((rd_T29 t271 x9_1).f3), .int .i64 0]) ?_ 4 _ rfl; (with_reducible repeat (first | refine blk_drewN ?_ _ | refine blk_drew ?_ | refine blk_alloc ?_ _)); refine blk_put (cs := #[.int .i64 ((rd_T29 t271 x9_1).f0), .int .i64 ((rd_T29 t271 x9_1).f1), .int .i64 ((rd_T29 t271 x9_1).f2), .int .i64 0, .int .i64 0]) ?_ 3 _ rfl; (with_reducible repeat (first | refine blk_drewN ?_ _ | refine blk_drew ?_ | refine blk_alloc ?_ _)); refine blk_put (cs := #[.int .i64 ((rd_T29 t271 x9_1).f0), .int .i64 ((rd_T29 t271 x9_1).f1), .int .i64 0, .int .i64 0, .int .i64 0]) ?_ 2 _ rfl; (with_reducible repeat (first | refine blk_drewN ?_ _ | refine blk_drew ?_ | refine blk_alloc ?_ _)); refine blk_put (cs := #[.int .i64 ((rd_T29 t271 x9_1).f0), .int .i64 0, .int .i64 0, .int .i64 0, .int .i64 0]) ?_ 1 _ rfl; (with_reducible repeat (first | refine blk_drewN ?_ _ | refine blk_drew ?_ | refine blk_alloc ?_ _)); refine blk_put (cs := #[.int .i64 0, .int .i64 0, .int .i64 0, .int .i64 0, .int .i64 0]) ?_ 0 _ rfl; (with_reducible repeat (first | refine blk_drewN ?_ _ | refine blk_drew ?_ | refine blk_alloc ?_ _)); exact BK276.out⟩, ⟨by repeat (first | (with_reducible first | exact HB.out | apply below_alloc | apply pw_below_drewN | apply below_drew1 | refine below_set ?_ GE276.out) | exact HB.out)⟩⟩
       ·
        rw [if_neg c15] at H
        have c15b0 : (((rd_T29 t271 x9_1).f0) == x8_1) = false := beq_eq_false_iff_ne.mpr c15
        have c15b1 : (((rd_T29 t271 x9_1).f0) != x8_1) = true := bne_iff_ne.mpr c15
        (first | rw [c15b0] | (simp only [i64_w, i32_w]; rw [c15b0]) | skip)
        have H' := Aside0.mk H
        clear H
        have hcz31_0 : w13.cell? ⟨gb276, 0, none⟩ = some (.int .i64 0) := (blk_cell BK276.out 0).trans rfl
        have hcz31_1 : w13.cell? ⟨gb276, 1, none⟩ = some (.int .i64 0) := (blk_cell BK276.out 1).trans rfl
        have hcz31_2 : w13.cell? ⟨gb276, 2, none⟩ = some (.int .i64 0) := (blk_cell BK276.out 2).trans rfl
        have hcz31_3 : w13.cell? ⟨gb276, 3, none⟩ = some (.int .i64 0) := (blk_cell BK276.out 3).trans rfl
        have hcz31_4 : w13.cell? ⟨gb276, 4, none⟩ = some (.int .i64 0) := (blk_cell BK276.out 4).trans rfl
        have hfz31_0 := blk_frozen BK276.out 0
        have hfz31_1 := blk_frozen BK276.out 1
        have hfz31_2 := blk_frozen BK276.out 2
        have hfz31_3 := blk_frozen BK276.out 3
        have hfz31_4 := blk_frozen BK276.out 4
        go_wp2
        go_meet
        case rel => exact ⟨_, (true), (by first | rfl | (simp; done) | (simp [*]; done)), H', ⟨by have := HK1.out; first | omega | exact Nat.le_refl _⟩, ⟨by (with_reducible repeat (first | apply Kd.R_alloc | apply Kd.R_drewN | apply Kd.R_drew)); exact Kd.R_mono (Kd.R_far (p := ⟨gb276, 4, none⟩) (Kd.R_far (p := ⟨gb276, 3, none⟩) (Kd.R_far (p := ⟨gb276, 2, none⟩) (Kd.R_far (p := ⟨gb276, 1, none⟩) (Kd.R_far (p := ⟨gb276, 0, none⟩) (Kd.R_mono HO_7.out (fun k_ hk => (⟨hk, hk.2⟩ : _ ∧ k_ ≠ gb276))) (fun _ hk => hk.2) (.int .i64 ((rd_T29 t271 x9_1).f0))) (fun _ hk => hk.2) (.int .i64 ((rd_T29 t271 x9_1).f1))) (fun _ hk => hk.2) (.int .i64 ((rd_T29 t271 x9_1).f2))) (fun _ hk => hk.2) (.int .i64 ((rd_T29 t271 x9_1).f3))) (fun _ hk => hk.2) (.int .i64 ((rd_T29 t271 x9_1).f4))) (fun _ hk => hk.1.2)⟩, ⟨by (with_reducible repeat (first | refine blk_drewN ?_ _ | refine blk_drew ?_ | refine blk_alloc ?_ _)); refine blk_put (cs := #[.int .i64 ((rd_T29 t271 x9_1).f0), .int .i64 ((rd_T29 t271 x9_1).f1), .int .i64 ((rd_T29 t271 x9_1).f2), .int .i64 ((rd_T29 t271 x9_1).f3), .int .i64 0]) ?_ 4 _ rfl; (with_reducible repeat (first | refine blk_drewN ?_ _ | refine blk_drew ?_ | refine blk_alloc ?_ _)); refine blk_put (cs := #[.int .i64 ((rd_T29 t271 x9_1).f0), .int .i64 ((rd_T29 t271 x9_1).f1), .int .i64 ((rd_T29 t271 x9_1).f2), .int .i64 0, .int .i64 0]) ?_ 3 _ rfl; (with_reducible repeat (first | refine blk_drewN ?_ _ | refine blk_drew ?_ | refine blk_alloc ?_ _)); refine blk_put (cs := #[.int .i64 ((rd_T29 t271 x9_1).f0), .int .i64 ((rd_T29 t271 x9_1).f1), .int .i64 0, .int .i64 0, .int .i64 0]) ?_ 2 _ rfl; (with_reducible repeat (first | refine blk_drewN ?_ _ | refine blk_drew ?_ | refine blk_alloc ?_ _)); refine blk_put (cs := #[.int .i64 ((rd_T29 t271 x9_1).f0), .int .i64 0, .int .i64 0, .int .i64 0, .int .i64 0]) ?_ 1 _ rfl; (with_reducible repeat (first | refine blk_drewN ?_ _ | refine blk_drew ?_ | refine blk_alloc ?_ _)); refine blk_put (cs := #[.int .i64 0, .int .i64 0, .int .i64 0, .int .i64 0, .int .i64 0]) ?_ 0 _ rfl; (with_reducible repeat (first | refine blk_drewN ?_ _ | refine blk_drew ?_ | refine blk_alloc ?_ _)); exact BK276.out⟩, ⟨by repeat (first | (with_reducible first | exact HB.out | apply below_alloc | apply pw_below_drewN | apply below_drew1 | refine below_set ?_ GE276.out) | exact HB.out)⟩⟩
      case rest =>
       clear HC11
       try clear q2
       try clear hx2
       try clear p6
       try clear c9
       try clear c9b0
       try clear c10
       try clear c10b0
       try clear c15
       try clear c15b0
       try clear c15b1
       try clear c16
       try clear c16b0
       try clear c17
       try clear c18
       try clear c18b0
       try clear c20
       try clear c20b0
       try clear c22
       try clear c22b0
       try clear c22b1
       try clear c23
       try clear c23b0
       try clear c23b1
       try clear c25
       try clear c25b0
       try clear c25b1
       try clear c25b2
       try clear c26
       try clear p27
       try clear q27
       try clear hx27
       try clear c28
       try clear c28b0
       try clear c28b1
       try clear c28b2
       try clear hcz14_0
       try clear hcz14_1
       try clear hcz14_2
       try clear hcz14_3
       try clear hcz14_4
       try clear hcz17_0
       try clear hcz17_1
       try clear hcz17_2
       try clear hcz17_3
       try clear hcz17_4
       try clear hcz19_0
       try clear hcz19_1
       try clear hcz19_2
       try clear hcz19_3
       try clear hcz19_4
       try clear hcz21_0
       try clear hcz21_1
       try clear hcz21_2
       try clear hcz21_3
       try clear hcz21_4
       try clear hcz24_0
       try clear hcz24_1
       try clear hcz24_2
       try clear hcz24_3
       try clear hcz24_4
       try clear hcz26_0
       try clear hcz26_1
       try clear hcz26_2
       try clear hcz26_3
       try clear hcz26_4
       try clear hcz27_0
       try clear hcz27_1
       try clear hcz27_2
       try clear hcz27_3
       try clear hcz27_4
       try clear hcz29_0
       try clear hcz29_1
       try clear hcz29_2
       try clear hcz29_3
       try clear hcz29_4
       try clear hcz30_0
       try clear hcz30_1
       try clear hcz30_2
       try clear hcz30_3
       try clear hcz30_4
       try clear hcz31_0
       try clear hcz31_1
       try clear hcz31_2
       try clear hcz31_3
       try clear hcz31_4
       try clear hfz14_0
       try clear hfz14_1
       try clear hfz14_2
       try clear hfz14_3
       try clear hfz14_4
       try clear hfz17_0
       try clear hfz17_1
       try clear hfz17_2
       try clear hfz17_3
       try clear hfz17_4
       try clear hfz19_0
       try clear hfz19_1
       try clear hfz19_2
       try clear hfz19_3
       try clear hfz19_4
       try clear hfz21_0
       try clear hfz21_1
       try clear hfz21_2
       try clear hfz21_3
       try clear hfz21_4
       try clear hfz24_0
       try clear hfz24_1
       try clear hfz24_2
       try clear hfz24_3
       try clear hfz24_4
       try clear hfz26_0
       try clear hfz26_1
       try clear hfz26_2
       try clear hfz26_3
       try clear hfz26_4
       try clear hfz27_0
       try clear hfz27_1
       try clear hfz27_2
       try clear hfz27_3
       try clear hfz27_4
       try clear hfz29_0
       try clear hfz29_1
       try clear hfz29_2
       try clear hfz29_3
       try clear hfz29_4
       try clear hfz30_0
       try clear hfz30_1
       try clear hfz30_2
       try clear hfz30_3
       try clear hfz30_4
       try clear hfz31_0
       try clear hfz31_1
       try clear hfz31_2
       try clear hfz31_3
       try clear hfz31_4
       try clear hx275_0
       try clear hx275_1
       try clear hx275_2
       try clear hx275_3
       try clear hx275_4
       try clear p275
       try clear q275
       obtain ⟨kq, x82_10, rfl, HA, HJ10, HO_7, BK276, HB⟩ := hcut
       cases kq with
       | zero => exact absurd HA.out (by simp [parquetrylaw17_WrapAll.j1])
       | succ kj10 =>
        have H := HA.out
        clear HA
        simp only [parquetrylaw17_WrapAll.j1] at H
        by_cases c32 : x82_10 = true
        ·
         subst c32
         have H1 : (some false) = some r := by rw [if_pos rfl] at H; exact H
         clear H
         have H := H1
         clear H1
         obtain rfl := Option.some.inj H
         go_wp2
         go_ret
         exact ⟨by first | rfl | (simp [errW_none, errW_some] <;> rfl) | (simp [*, errW_none, errW_some] <;> rfl), by repeat (first | (with_reducible first | exact HB.out | apply below_alloc | apply pw_below_drewN | apply below_drew1 | refine below_set ?_ GE276.out) | exact HB.out)⟩
        ·
         replace c32 := Bool.eq_false_iff.mpr c32
         subst c32
         have H1 : (parquetrylaw17_WrapAll.l1 kj10 l0 t271 x9_1 ((rd_T29 t271 x9_1).f2) ((rd_T29 t271 x9_1).f0) ((rd_T29 t271 x9_1).f1) ((rd_T29 t271 x9_1).f2) ((rd_T29 t271 x9_1).f3) ((rd_T29 t271 x9_1).f4)) = some r := by rw [if_neg (show ¬ (false = true) by decide)] at H; exact H
         clear H
         have H := H1
         clear H1
         have H' := Aside0.mk H
         clear H
         have hcz33_0 : wc.cell? ⟨gb276, 0, none⟩ = some (.int .i64 ((rd_T29 t271 x9_1).f0)) := (blk_cell BK276.out 0).trans rfl
         have hcz33_1 : wc.cell? ⟨gb276, 1, none⟩ = some (.int .i64 ((rd_T29 t271 x9_1).f1)) := (blk_cell BK276.out 1).trans rfl
         have hcz33_2 : wc.cell? ⟨gb276, 2, none⟩ = some (.int .i64 ((rd_T29 t271 x9_1).f2)) := (blk_cell BK276.out 2).trans rfl
         have hcz33_3 : wc.cell? ⟨gb276, 3, none⟩ = some (.int .i64 ((rd_T29 t271 x9_1).f3)) := (blk_cell BK276.out 3).trans rfl
         have hcz33_4 : wc.cell? ⟨gb276, 4, none⟩ = some (.int .i64 ((rd_T29 t271 x9_1).f4)) := (blk_cell BK276.out 4).trans rfl
         have hfz33_0 := blk_frozen BK276.out 0
         have hfz33_1 := blk_frozen BK276.out 1
         have hfz33_2 := blk_frozen BK276.out 2
         have hfz33_3 := blk_frozen BK276.out 3
         have hfz33_4 := blk_frozen BK276.out 4
         go_wp2
         go_loopg [11] kj10 (fun kq v11 w' => ∃ (x11_3 : Int), v11 = .int .i64 x11_3 ∧ Aside0 (parquetrylaw17_WrapAll.l1 kq l0 t271 x9_1 x11_3 ((rd_T29 t271 x9_1).f0) ((rd_T29 t271 x9_1).f1) ((rd_T29 t271 x9_1).f2) ((rd_T29 t271 x9_1).f3) ((rd_T29 t271 x9_1).f4) = some r) ∧ Aside0 (kq ≤ kj10) ∧ Aside0 (Kd.R k29 29 w' w.heap.size (fun k_ => k_ ≠ gb276) (.slice (some ad275) t271.length co12) t271) ∧ Aside0 (w'.heap[gb276]? = some (.cells #[.int .i64 ((rd_T29 t271 x9_1).f0), .int .i64 ((rd_T29 t271 x9_1).f1), .int .i64 ((rd_T29 t271 x9_1).f2), .int .i64 ((rd_T29 t271 x9_1).f3), .int .i64 ((rd_T29 t271 x9_1).f4)] 29 (0, 0))) ∧ Aside0 (Below w.heap.size w w'))
         case atStart => exact ⟨(((rd_T29 t271 x9_1).f2)), (by first | rfl | (simp; done) | (simp [*]; done)), H', ⟨Nat.le_refl _⟩, ⟨by (with_reducible repeat (first | apply Kd.R_alloc | apply Kd.R_drewN | apply Kd.R_drew)); exact HO_7.out⟩, ⟨by (with_reducible repeat (first | refine blk_drewN ?_ _ | refine blk_drew ?_ | refine blk_alloc ?_ _)); exact BK276.out⟩, ⟨by repeat (first | (with_reducible first | exact HB.out | apply below_alloc | apply pw_below_drewN | apply below_drew1 | refine below_set ?_ GE276.out) | exact HB.out)⟩⟩
         case round =>
          clear H'
          try clear c3
          try clear c32
          try clear hcz33_0
          try clear hcz33_1
          try clear hcz33_2
          try clear hcz33_3
          try clear hcz33_4
          try clear hfz33_0
          try clear hfz33_1
          try clear hfz33_2
          try clear hfz33_3
          try clear hfz33_4
          obtain ⟨x11_3, rfl, HA, HK3, HO_7, BK276, HB⟩ := hrel
          cases gk with
          | zero => exact absurd HA.out (by simp [parquetrylaw17_WrapAll.l1])
          | succ k3 =>
           have H := HA.out
           clear HA
           simp only [parquetrylaw17_WrapAll.l1] at H
           by_cases c34 : x11_3 < ((rd_T29 t271 x9_1).f1)
           ·
            rw [if_pos c34] at H
            have c34b0 : decide (x11_3 < ((rd_T29 t271 x9_1).f1)) = true := decide_eq_true c34
            clear c34
            by_cases c35 : 0 ≤ x11_3
            ·
             rw [if_pos c35] at H
             have c35b0 : decide (0 ≤ x11_3) = true := decide_eq_true c35
             clear c35
             by_cases c36 : x11_3 < (l0.length : Int)
             ·
              rw [if_pos c36] at H
              have c36b0 : decide (x11_3 < (l0.length : Int)) = true := decide_eq_true c36
              clear c36
              replace H := Option.bind_eq_some_iff.mp H
              obtain ⟨t278, A370, H⟩ := H
              replace H : (if t278 = true then (parquetrylaw17_WrapAll.l1 k3 l0 t271 x9_1 (wrap64 (x11_3 + 1)) ((rd_T29 t271 x9_1).f0) ((rd_T29 t271 x9_1).f1) ((rd_T29 t271 x9_1).f2) ((rd_T29 t271 x9_1).f3) ((rd_T29 t271 x9_1).f4)) else (if (wrap64 (x11_3 + 1)) = (l0.length : Int) then ((wrap_Break.f ((rd_T39 l0 x11_3).f0) ((rd_T39 l0 x11_3).f1) ((rd_T39 l0 x11_3).f2) ((rd_T39 l0 x11_3).f3) ((rd_T39 l0 x11_3).f4) ((rd_T39 l0 x11_3).f5)).bind fun t280 => (if t280 = true then (parquetrylaw17_WrapAll.l1 k3 l0 t271 x9_1 (wrap64 (x11_3 + 1)) ((rd_T29 t271 x9_1).f0) ((rd_T29 t271 x9_1).f1) ((rd_T29 t271 x9_1).f2) ((rd_T29 t271 x9_1).f3) ((rd_T29 t271 x9_1).f4)) else (some false))) else (some false))) = some r := H
              have A37 := Aside0.mk A370
              clear A370
              by_cases c38 : t278 = true
              ·
               subst c38
               have H1 : (parquetrylaw17_WrapAll.l1 k3 l0 t271 x9_1 (wrap64 (x11_3 + 1)) ((rd_T29 t271 x9_1).f0) ((rd_T29 t271 x9_1).f1) ((rd_T29 t271 x9_1).f2) ((rd_T29 t271 x9_1).f3) ((rd_T29 t271 x9_1).f4)) = some r := by rw [if_pos rfl] at H; exact H
               clear H
               have H := H1
               clear H1
               have H' := Aside0.mk H
               clear H
               have hcz39_0 : wr.cell? ⟨gb276, 0, none⟩ = some (.int .i64 ((rd_T29 t271 x9_1).f0)) := (blk_cell BK276.out 0).trans rfl
               have hcz39_1 : wr.cell? ⟨gb276, 1, none⟩ = some (.int .i64 ((rd_T29 t271 x9_1).f1)) := (blk_cell BK276.out 1).trans rfl
               have hcz39_2 : wr.cell? ⟨gb276, 2, none⟩ = some (.int .i64 ((rd_T29 t271 x9_1).f2)) := (blk_cell BK276.out 2).trans rfl
               have hcz39_3 : wr.cell? ⟨gb276, 3, none⟩ = some (.int .i64 ((rd_T29 t271 x9_1).f3)) := (blk_cell BK276.out 3).trans rfl
               have hcz39_4 : wr.cell? ⟨gb276, 4, none⟩ = some (.int .i64 ((rd_T29 t271 x9_1).f4)) := (blk_cell BK276.out 4).trans rfl
               have hfz39_0 := blk_frozen BK276.out 0
               have hfz39_1 := blk_frozen BK276.out 1
               have hfz39_2 := blk_frozen BK276.out 2
               have hfz39_3 := blk_frozen BK276.out 3
               have hfz39_4 := blk_frozen BK276.out 4
               have p277 : 0 ≤ (x11_3 : Int) := of_decide_eq_true (by first | (with_reducible assumption) | assumption)
               have q277 : x11_3 < (l0.length : Int) := of_decide_eq_true (by first | (with_reducible assumption) | assumption)
               obtain ⟨ad277, e277, hx277_0, hx277_1, hx277_2, hx277_3, hx277_4, hx277_5⟩ := at_T39 HR0.out x11_3 p277 q277
               cases e277
               replace hx277_0 := (HB.out.cell (World.block_lt_of_cell? w _ hx277_0)).trans hx277_0
               replace hx277_1 := (HB.out.cell (World.block_lt_of_cell? w _ hx277_1)).trans hx277_1
               replace hx277_2 := (HB.out.cell (World.block_lt_of_cell? w _ hx277_2)).trans hx277_2
               replace hx277_3 := (HB.out.cell (World.block_lt_of_cell? w _ hx277_3)).trans hx277_3
               replace hx277_4 := (HB.out.cell (World.block_lt_of_cell? w _ hx277_4)).trans hx277_4
               replace hx277_5 := (HB.out.cell (World.block_lt_of_cell? w _ hx277_5)).trans hx277_5
               replace p277 := eq_true p277
               replace q277 := eq_true q277
               go_wp2_with (first | ((with_reducible refine gate_callee (f := 20) rfl ?_); refine goesL_ (some 95) rfl rfl Try.func20 (by kernel_rfl) rfl #[.agg #[.int .i64 ((rd_T39 l0 x11_3).f0), .int .i64 ((rd_T39 l0 x11_3).f1), .int .i64 ((rd_T39 l0 x11_3).f2), .int .i64 ((rd_T39 l0 x11_3).f3), .int .i64 ((rd_T39 l0 x11_3).f4), .int .i64 ((rd_T39 l0 x11_3).f5)]] rfl (by (try simp only [List.map_toArray, List.map_cons, List.map_nil]); first | done | rfl | (simp only [List.length_drop, List.length_take]; rfl)) ?_; (with_reducible refine (wrap_Blank.calls ((rd_T39 l0 x11_3).f0) ((rd_T39 l0 x11_3).f1) ((rd_T39 l0 x11_3).f2) ((rd_T39 l0 x11_3).f3) ((rd_T39 l0 x11_3).f4) ((rd_T39 l0 x11_3).f5) true _ A37.out).mono ?_); rintro e w40 ⟨rfl, hb⟩; refine ⟨_, rfl, ?_⟩; have n0_ := Aside0.mk (Kd.R_below (by (with_reducible repeat (first | apply Kd.R_alloc | apply Kd.R_drewN | apply Kd.R_drew)); exact HO_7.out) hb); have n1_ := Aside0.mk (blk_below (g := gb276) (o := .cells #[.int .i64 ((rd_T29 t271 x9_1).f0), .int .i64 ((rd_T29 t271 x9_1).f1), .int .i64 ((rd_T29 t271 x9_1).f2), .int .i64 ((rd_T29 t271 x9_1).f3), .int .i64 ((rd_T29 t271 x9_1).f4)] 29 (0, 0)) (by (with_reducible repeat (first | refine blk_drewN ?_ _ | refine blk_drew ?_ | refine blk_alloc ?_ _)); exact BK276.out) hb); have n2_ := Aside0.mk (below_step (by repeat (first | (with_reducible first | exact HB.out | apply below_alloc | apply pw_below_drewN | apply below_drew1 | refine below_set ?_ GE276.out) | exact HB.out)) hb); clear HO_7; clear BK276; clear HB; have HO_7 := n0_; have BK276 := n1_; have HB := n2_; clear n0_ n1_ n2_; (try clear hb); (try clear hb2); (try clear hk); (try clear hi)))
               go_roundg k3
               case measure => have := HK1.out; have := HJ10.out; have := HK3.out; omega
               case rel => exact ⟨(wrap64 (x11_3 + 1)), (by first | rfl | (simp; done) | (simp [*]; done)), H', ⟨by have := HK1.out; have := HJ10.out; have := HK3.out; omega⟩, ⟨by (with_reducible repeat (first | apply Kd.R_alloc | apply Kd.R_drewN | apply Kd.R_drew)); exact HO_7.out⟩, ⟨by (with_reducible repeat (first | refine blk_drewN ?_ _ | refine blk_drew ?_ | refine blk_alloc ?_ _)); exact BK276.out⟩, ⟨by repeat (first | (with_reducible first | exact HB.out | apply below_alloc | apply pw_below_drewN | apply below_drew1 | refine below_set ?_ GE276.out) | exact HB.out)⟩⟩
              ·
               replace c38 := Bool.eq_false_iff.mpr c38
               subst c38
               have H1 : (if (wrap64 (x11_3 + 1)) = (l0.length : Int) then ((wrap_Break.f ((rd_T39 l0 x11_3).f0) ((rd_T39 l0 x11_3).f1) ((rd_T39 l0 x11_3).f2) ((rd_T39 l0 x11_3).f3) ((rd_T39 l0 x11_3).f4) ((rd_T39 l0 x11_3).f5)).bind fun t280 => (if t280 = true then (parquetrylaw17_WrapAll.l1 k3 l0 t271 x9_1 (wrap64 (x11_3 + 1)) ((rd_T29 t271 x9_1).f0) ((rd_T29 t271 x9_1).f1) ((rd_T29 t271 x9_1).f2) ((rd_T29 t271 x9_1).f3) ((rd_T29 t271 x9_1).f4)) else (some false))) else (some false)) = some r := by rw [if_neg (show ¬ (false = true) by decide)] at H; exact H
               clear H
               have H := H1
               clear H1
               by_cases c41 : (wrap64 (x11_3 + 1)) = (l0.length : Int)
               ·
                rw [if_pos c41] at H
                have c41b0 : ((wrap64 (x11_3 + 1)) == (l0.length : Int)) = true := beq_iff_eq.mpr c41
                have c41b1 : ((wrap64 (x11_3 + 1)) != (l0.length : Int)) = false := bne_eq_false_iff_eq.mpr c41
                clear c41
                replace H := Option.bind_eq_some_iff.mp H
                obtain ⟨t280, A420, H⟩ := H
                replace H : (if t280 = true then (parquetrylaw17_WrapAll.l1 k3 l0 t271 x9_1 (wrap64 (x11_3 + 1)) ((rd_T29 t271 x9_1).f0) ((rd_T29 t271 x9_1).f1) ((rd_T29 t271 x9_1).f2) ((rd_T29 t271 x9_1).f3) ((rd_T29 t271 x9_1).f4)) else (some false)) = some r := H
                have A42 := Aside0.mk A420
                clear A420
                by_cases c43 : t280 = true
                ·
                 subst c43
                 have H1 : (parquetrylaw17_WrapAll.l1 k3 l0 t271 x9_1 (wrap64 (x11_3 + 1)) ((rd_T29 t271 x9_1).f0) ((rd_T29 t271 x9_1).f1) ((rd_T29 t271 x9_1).f2) ((rd_T29 t271 x9_1).f3) ((rd_T29 t271 x9_1).f4)) = some r := by rw [if_pos rfl] at H; exact H
                 clear H
                 have H := H1
                 clear H1
                 have H' := Aside0.mk H
                 clear H
                 have hcz44_0 : wr.cell? ⟨gb276, 0, none⟩ = some (.int .i64 ((rd_T29 t271 x9_1).f0)) := (blk_cell BK276.out 0).trans rfl
                 have hcz44_1 : wr.cell? ⟨gb276, 1, none⟩ = some (.int .i64 ((rd_T29 t271 x9_1).f1)) := (blk_cell BK276.out 1).trans rfl
                 have hcz44_2 : wr.cell? ⟨gb276, 2, none⟩ = some (.int .i64 ((rd_T29 t271 x9_1).f2)) := (blk_cell BK276.out 2).trans rfl
                 have hcz44_3 : wr.cell? ⟨gb276, 3, none⟩ = some (.int .i64 ((rd_T29 t271 x9_1).f3)) := (blk_cell BK276.out 3).trans rfl
                 have hcz44_4 : wr.cell? ⟨gb276, 4, none⟩ = some (.int .i64 ((rd_T29 t271 x9_1).f4)) := (blk_cell BK276.out 4).trans rfl
                 have hfz44_0 := blk_frozen BK276.out 0
                 have hfz44_1 := blk_frozen BK276.out 1
                 have hfz44_2 := blk_frozen BK276.out 2
                 have hfz44_3 := blk_frozen BK276.out 3
                 have hfz44_4 := blk_frozen BK276.out 4
                 have p277 : 0 ≤ (x11_3 : Int) := of_decide_eq_true (by first | (with_reducible assumption) | assumption)
                 have q277 : x11_3 < (l0.length : Int) := of_decide_eq_true (by first | (with_reducible assumption) | assumption)
                 obtain ⟨ad277, e277, hx277_0, hx277_1, hx277_2, hx277_3, hx277_4, hx277_5⟩ := at_T39 HR0.out x11_3 p277 q277
                 cases e277
                 replace hx277_0 := (HB.out.cell (World.block_lt_of_cell? w _ hx277_0)).trans hx277_0
                 replace hx277_1 := (HB.out.cell (World.block_lt_of_cell? w _ hx277_1)).trans hx277_1
                 replace hx277_2 := (HB.out.cell (World.block_lt_of_cell? w _ hx277_2)).trans hx277_2
                 replace hx277_3 := (HB.out.cell (World.block_lt_of_cell? w _ hx277_3)).trans hx277_3
                 replace hx277_4 := (HB.out.cell (World.block_lt_of_cell? w _ hx277_4)).trans hx277_4
                 replace hx277_5 := (HB.out.cell (World.block_lt_of_cell? w _ hx277_5)).trans hx277_5
                 replace p277 := eq_true p277
                 replace q277 := eq_true q277
                 go_wp2_with (first | ((with_reducible refine gate_callee (f := 20) rfl ?_); refine goesL_ (some 95) rfl rfl Try.func20 (by kernel_rfl) rfl #[.agg #[.int .i64 ((rd_T39 l0 x11_3).f0), .int .i64 ((rd_T39 l0 x11_3).f1), .int .i64 ((rd_T39 l0 x11_3).f2), .int .i64 ((rd_T39 l0 x11_3).f3), .int .i64 ((rd_T39 l0 x11_3).f4), .int .i64 ((rd_T39 l0 x11_3).f5)]] rfl (by (try simp only [List.map_toArray, List.map_cons, List.map_nil]); first | done | rfl | (simp only [List.length_drop, List.length_take]; rfl)) ?_; (with_reducible refine (wrap_Blank.calls ((rd_T39 l0 x11_3).f0) ((rd_T39 l0 x11_3).f1) ((rd_T39 l0 x11_3).f2) ((rd_T39 l0 x11_3).f3) ((rd_T39 l0 x11_3).f4) ((rd_T39 l0 x11_3).f5) false _ A37.out).mono ?_); rintro e w45 ⟨rfl, hb⟩; refine ⟨_, rfl, ?_⟩; have n0_ := Aside0.mk (Kd.R_below (by (with_reducible repeat (first | apply Kd.R_alloc | apply Kd.R_drewN | apply Kd.R_drew)); exact HO_7.out) hb); have n1_ := Aside0.mk (blk_below (g := gb276) (o := .cells #[.int .i64 ((rd_T29 t271 x9_1).f0), .int .i64 ((rd_T29 t271 x9_1).f1), .int .i64 ((rd_T29 t271 x9_1).f2), .int .i64 ((rd_T29 t271 x9_1).f3), .int .i64 ((rd_T29 t271 x9_1).f4)] 29 (0, 0)) (by (with_reducible repeat (first | refine blk_drewN ?_ _ | refine blk_drew ?_ | refine blk_alloc ?_ _)); exact BK276.out) hb); have n2_ := Aside0.mk (below_step (by repeat (first | (with_reducible first | exact HB.out | apply below_alloc | apply pw_below_drewN | apply below_drew1 | refine below_set ?_ GE276.out) | exact HB.out)) hb); clear HO_7; clear BK276; clear HB; have HO_7 := n0_; have BK276 := n1_; have HB := n2_; clear n0_ n1_ n2_; (try clear hb); (try clear hb2); (try clear hk); (try clear hi); have p279 : 0 ≤ (x11_3 : Int) := of_decide_eq_true (by first | (with_reducible assumption) | assumption); have q279 : x11_3 < (l0.length : Int) := of_decide_eq_true (by first | (with_reducible assumption) | assumption); obtain ⟨ad279, e279, hx279_0, hx279_1, hx279_2, hx279_3, hx279_4, hx279_5⟩ := at_T39 HR0.out x11_3 p279 q279; obtain rfl : ad277 = ad279 := (by injection e279); replace hx279_0 := (HB.out.cell (World.block_lt_of_cell? w _ hx279_0)).trans hx279_0; replace hx279_1 := (HB.out.cell (World.block_lt_of_cell? w _ hx279_1)).trans hx279_1; replace hx279_2 := (HB.out.cell (World.block_lt_of_cell? w _ hx279_2)).trans hx279_2; replace hx279_3 := (HB.out.cell (World.block_lt_of_cell? w _ hx279_3)).trans hx279_3; replace hx279_4 := (HB.out.cell (World.block_lt_of_cell? w _ hx279_4)).trans hx279_4; replace hx279_5 := (HB.out.cell (World.block_lt_of_cell? w _ hx279_5)).trans hx279_5; replace p279 := eq_true p279; replace q279 := eq_true q279) | (go_at_call 18; (with_reducible refine (wrap_Break.calls ((rd_T39 l0 x11_3).f0) ((rd_T39 l0 x11_3).f1) ((rd_T39 l0 x11_3).f2) ((rd_T39 l0 x11_3).f3) ((rd_T39 l0 x11_3).f4) ((rd_T39 l0 x11_3).f5) true _ A42.out).mono ?_); rintro e w46 ⟨rfl, hb⟩; have n0_ := Aside0.mk (Kd.R_below (by (with_reducible repeat (first | apply Kd.R_alloc | apply Kd.R_drewN | apply Kd.R_drew)); exact HO_7.out) hb); have n1_ := Aside0.mk (blk_below (g := gb276) (o := .cells #[.int .i64 ((rd_T29 t271 x9_1).f0), .int .i64 ((rd_T29 t271 x9_1).f1), .int .i64 ((rd_T29 t271 x9_1).f2), .int .i64 ((rd_T29 t271 x9_1).f3), .int .i64 ((rd_T29 t271 x9_1).f4)] 29 (0, 0)) (by (with_reducible repeat (first | refine blk_drewN ?_ _ | refine blk_drew ?_ | refine blk_alloc ?_ _)); exact BK276.out) hb); have n2_ := Aside0.mk (below_step (by repeat (first | (with_reducible first | exact HB.out | apply below_alloc | apply pw_below_drewN | apply below_drew1 | refine below_set ?_ GE276.out) | exact HB.out)) hb); clear HO_7; clear BK276; clear HB; have HO_7 := n0_; have BK276 := n1_; have HB := n2_; clear n0_ n1_ n2_; (try clear hb); (try clear hb2); (try clear hk); (try clear hi)))
                 go_roundg k3
                 case measure => have := HK1.out; have := HJ10.out; have := HK3.out; omega
                 case rel => exact ⟨(wrap64 (x11_3 + 1)), (by first | rfl | (simp; done) | (simp [*]; done)), H', ⟨by have := HK1.out; have := HJ10.out; have := HK3.out; omega⟩, ⟨by (with_reducible repeat (first | apply Kd.R_alloc | apply Kd.R_drewN | apply Kd.R_drew)); exact HO_7.out⟩, ⟨by (with_reducible repeat (first | refine blk_drewN ?_ _ | refine blk_drew ?_ | refine blk_alloc ?_ _)); exact BK276.out⟩, ⟨by repeat (first | (with_reducible first | exact HB.out | apply below_alloc | apply pw_below_drewN | apply below_drew1 | refine below_set ?_ GE276.out) | exact HB.out)⟩⟩
                ·
                 replace c43 := Bool.eq_false_iff.mpr c43
                 subst c43
                 have H1 : (some false) = some r := by rw [if_neg (show ¬ (false = true) by decide)] at H; exact H
                 clear H
                 have H := H1
                 clear H1
                 obtain rfl := Option.some.inj H
                 have hcz47_0 : wr.cell? ⟨gb276, 0, none⟩ = some (.int .i64 ((rd_T29 t271 x9_1).f0)) := (blk_cell BK276.out 0).trans rfl
                 have hcz47_1 : wr.cell? ⟨gb276, 1, none⟩ = some (.int .i64 ((rd_T29 t271 x9_1).f1)) := (blk_cell BK276.out 1).trans rfl
                 have hcz47_2 : wr.cell? ⟨gb276, 2, none⟩ = some (.int .i64 ((rd_T29 t271 x9_1).f2)) := (blk_cell BK276.out 2).trans rfl
                 have hcz47_3 : wr.cell? ⟨gb276, 3, none⟩ = some (.int .i64 ((rd_T29 t271 x9_1).f3)) := (blk_cell BK276.out 3).trans rfl
                 have hcz47_4 : wr.cell? ⟨gb276, 4, none⟩ = some (.int .i64 ((rd_T29 t271 x9_1).f4)) := (blk_cell BK276.out 4).trans rfl
                 have hfz47_0 := blk_frozen BK276.out 0
                 have hfz47_1 := blk_frozen BK276.out 1
                 have hfz47_2 := blk_frozen BK276.out 2
                 have hfz47_3 := blk_frozen BK276.out 3
                 have hfz47_4 := blk_frozen BK276.out 4
                 have p277 : 0 ≤ (x11_3 : Int) := of_decide_eq_true (by first | (with_reducible assumption) | assumption)
                 have q277 : x11_3 < (l0.length : Int) := of_decide_eq_true (by first | (with_reducible assumption) | assumption)
                 obtain ⟨ad277, e277, hx277_0, hx277_1, hx277_2, hx277_3, hx277_4, hx277_5⟩ := at_T39 HR0.out x11_3 p277 q277
                 cases e277
                 replace hx277_0 := (HB.out.cell (World.block_lt_of_cell? w _ hx277_0)).trans hx277_0
                 replace hx277_1 := (HB.out.cell (World.block_lt_of_cell? w _ hx277_1)).trans hx277_1
                 replace hx277_2 := (HB.out.cell (World.block_lt_of_cell? w _ hx277_2)).trans hx277_2
                 replace hx277_3 := (HB.out.cell (World.block_lt_of_cell? w _ hx277_3)).trans hx277_3
                 replace hx277_4 := (HB.out.cell (World.block_lt_of_cell? w _ hx277_4)).trans hx277_4
                 replace hx277_5 := (HB.out.cell (World.block_lt_of_cell? w _ hx277_5)).trans hx277_5
                 replace p277 := eq_true p277
                 replace q277 := eq_true q277
                 go_wp2_with (first | ((with_reducible refine gate_callee (f := 20) rfl ?_); refine goesL_ (some 95) rfl rfl Try.func20 (by kernel_rfl) rfl #[.agg #[.int .i64 ((rd_T39 l0 x11_3).f0), .int .i64 ((rd_T39 l0 x11_3).f1), .int .i64 ((rd_T39 l0 x11_3).f2), .int .i64 ((rd_T39 l0 x11_3).f3), .int .i64 ((rd_T39 l0 x11_3).f4), .int .i64 ((rd_T39 l0 x11_3).f5)]] rfl (by (try simp only [List.map_toArray, List.map_cons, List.map_nil]); first | done | rfl | (simp only [List.length_drop, List.length_take]; rfl)) ?_; (with_reducible refine (wrap_Blank.calls ((rd_T39 l0 x11_3).f0) ((rd_T39 l0 x11_3).f1) ((rd_T39 l0 x11_3).f2) ((rd_T39 l0 x11_3).f3) ((rd_T39 l0 x11_3).f4) ((rd_T39 l0 x11_3).f5) false _ A37.out).mono ?_); rintro e w48 ⟨rfl, hb⟩; refine ⟨_, rfl, ?_⟩; have n0_ := Aside0.mk (Kd.R_below (by (with_reducible repeat (first | apply Kd.R_alloc | apply Kd.R_drewN | apply Kd.R_drew)); exact HO_7.out) hb); have n1_ := Aside0.mk (blk_below (g := gb276) (o := .cells #[.int .i64 ((rd_T29 t271 x9_1).f0), .int .i64 ((rd_T29 t271 x9_1).f1), .int .i64 ((rd_T29 t271 x9_1).f2), .int .i64 ((rd_T29 t271 x9_1).f3), .int .i64 ((rd_T29 t271 x9_1).f4)] 29 (0, 0)) (by (with_reducible repeat (first | refine blk_drewN ?_ _ | refine blk_drew ?_ | refine blk_alloc ?_ _)); exact BK276.out) hb); have n2_ := Aside0.mk (below_step (by repeat (first | (with_reducible first | exact HB.out | apply below_alloc | apply pw_below_drewN | apply below_drew1 | refine below_set ?_ GE276.out) | exact HB.out)) hb); clear HO_7; clear BK276; clear HB; have HO_7 := n0_; have BK276 := n1_; have HB := n2_; clear n0_ n1_ n2_; (try clear hb); (try clear hb2); (try clear hk); (try clear hi); have p279 : 0 ≤ (x11_3 : Int) := of_decide_eq_true (by first | (with_reducible assumption) | assumption); have q279 : x11_3 < (l0.length : Int) := of_decide_eq_true (by first | (with_reducible assumption) | assumption); obtain ⟨ad279, e279, hx279_0, hx279_1, hx279_2, hx279_3, hx279_4, hx279_5⟩ := at_T39 HR0.out x11_3 p279 q279; obtain rfl : ad277 = ad279 := (by injection e279); replace hx279_0 := (HB.out.cell (World.block_lt_of_cell? w _ hx279_0)).trans hx279_0; replace hx279_1 := (HB.out.cell (World.block_lt_of_cell? w _ hx279_1)).trans hx279_1; replace hx279_2 := (HB.out.cell (World.block_lt_of_cell? w _ hx279_2)).trans hx279_2; replace hx279_3 := (HB.out.cell (World.block_lt_of_cell? w _ hx279_3)).trans hx279_3; replace hx279_4 := (HB.out.cell (World.block_lt_of_cell? w _ hx279_4)).trans hx279_4; replace hx279_5 := (HB.out.cell (World.block_lt_of_cell? w _ hx279_5)).trans hx279_5; replace p279 := eq_true p279; replace q279 := eq_true q279) | (go_at_call 18; (with_reducible refine (wrap_Break.calls ((rd_T39 l0 x11_3).f0) ((rd_T39 l0 x11_3).f1) ((rd_T39 l0 x11_3).f2) ((rd_T39 l0 x11_3).f3) ((rd_T39 l0 x11_3).f4) ((rd_T39 l0 x11_3).f5) false _ A42.out).mono ?_); rintro e w49 ⟨rfl, hb⟩; have n0_ := Aside0.mk (Kd.R_below (by (with_reducible repeat (first | apply Kd.R_alloc | apply Kd.R_drewN | apply Kd.R_drew)); exact HO_7.out) hb); have n1_ := Aside0.mk (blk_below (g := gb276) (o := .cells #[.int .i64 ((rd_T29 t271 x9_1).f0), .int .i64 ((rd_T29 t271 x9_1).f1), .int .i64 ((rd_T29 t271 x9_1).f2), .int .i64 ((rd_T29 t271 x9_1).f3), .int .i64 ((rd_T29 t271 x9_1).f4)] 29 (0, 0)) (by (with_reducible repeat (first | refine blk_drewN ?_ _ | refine blk_drew ?_ | refine blk_alloc ?_ _)); exact BK276.out) hb); have n2_ := Aside0.mk (below_step (by repeat (first | (with_reducible first | exact HB.out | apply below_alloc | apply pw_below_drewN | apply below_drew1 | refine below_set ?_ GE276.out) | exact HB.out)) hb); clear HO_7; clear BK276; clear HB; have HO_7 := n0_; have BK276 := n1_; have HB := n2_; clear n0_ n1_ n2_; (try clear hb); (try clear hb2); (try clear hk); (try clear hi)))
                 go_ret
                 exact ⟨by first | rfl | (simp [errW_none, errW_some] <;> rfl) | (simp [*, errW_none, errW_some] <;> rfl), by repeat (first | (with_reducible first | exact HB.out | apply below_alloc | apply pw_below_drewN | apply below_drew1 | refine below_set ?_ GE276.out) | exact HB.out)⟩
               ·
                rw [if_neg c41] at H
                have c41b0 : ((wrap64 (x11_3 + 1)) == (l0.length : Int)) = false := beq_eq_false_iff_ne.mpr c41
                have c41b1 : ((wrap64 (x11_3 + 1)) != (l0.length : Int)) = true := bne_iff_ne.mpr c41
                obtain rfl := Option.some.inj H
                have hcz50_0 : wr.cell? ⟨gb276, 0, none⟩ = some (.int .i64 ((rd_T29 t271 x9_1).f0)) := (blk_cell BK276.out 0).trans rfl
                have hcz50_1 : wr.cell? ⟨gb276, 1, none⟩ = some (.int .i64 ((rd_T29 t271 x9_1).f1)) := (blk_cell BK276.out 1).trans rfl
                have hcz50_2 : wr.cell? ⟨gb276, 2, none⟩ = some (.int .i64 ((rd_T29 t271 x9_1).f2)) := (blk_cell BK276.out 2).trans rfl
                have hcz50_3 : wr.cell? ⟨gb276, 3, none⟩ = some (.int .i64 ((rd_T29 t271 x9_1).f3)) := (blk_cell BK276.out 3).trans rfl
                have hcz50_4 : wr.cell? ⟨gb276, 4, none⟩ = some (.int .i64 ((rd_T29 t271 x9_1).f4)) := (blk_cell BK276.out 4).trans rfl
                have hfz50_0 := blk_frozen BK276.out 0
                have hfz50_1 := blk_frozen BK276.out 1
                have hfz50_2 := blk_frozen BK276.out 2
                have hfz50_3 := blk_frozen BK276.out 3
                have hfz50_4 := blk_frozen BK276.out 4
                have p277 : 0 ≤ (x11_3 : Int) := of_decide_eq_true (by first | (with_reducible assumption) | assumption)
                have q277 : x11_3 < (l0.length : Int) := of_decide_eq_true (by first | (with_reducible assumption) | assumption)
                obtain ⟨ad277, e277, hx277_0, hx277_1, hx277_2, hx277_3, hx277_4, hx277_5⟩ := at_T39 HR0.out x11_3 p277 q277
                cases e277
                replace hx277_0 := (HB.out.cell (World.block_lt_of_cell? w _ hx277_0)).trans hx277_0
                replace hx277_1 := (HB.out.cell (World.block_lt_of_cell? w _ hx277_1)).trans hx277_1
                replace hx277_2 := (HB.out.cell (World.block_lt_of_cell? w _ hx277_2)).trans hx277_2
                replace hx277_3 := (HB.out.cell (World.block_lt_of_cell? w _ hx277_3)).trans hx277_3
                replace hx277_4 := (HB.out.cell (World.block_lt_of_cell? w _ hx277_4)).trans hx277_4
                replace hx277_5 := (HB.out.cell (World.block_lt_of_cell? w _ hx277_5)).trans hx277_5
                replace p277 := eq_true p277
                replace q277 := eq_true q277
                go_wp2_with (first | ((with_reducible refine gate_callee (f := 20) rfl ?_); refine goesL_ (some 95) rfl rfl Try.func20 (by kernel_rfl) rfl #[.agg #[.int .i64 ((rd_T39 l0 x11_3).f0), .int .i64 ((rd_T39 l0 x11_3).f1), .int .i64 ((rd_T39 l0 x11_3).f2), .int .i64 ((rd_T39 l0 x11_3).f3), .int .i64 ((rd_T39 l0 x11_3).f4), .int .i64 ((rd_T39 l0 x11_3).f5)]] rfl (by (try simp only [List.map_toArray, List.map_cons, List.map_nil]); first | done | rfl | (simp only [List.length_drop, List.length_take]; rfl)) ?_; (with_reducible refine (wrap_Blank.calls ((rd_T39 l0 x11_3).f0) ((rd_T39 l0 x11_3).f1) ((rd_T39 l0 x11_3).f2) ((rd_T39 l0 x11_3).f3) ((rd_T39 l0 x11_3).f4) ((rd_T39 l0 x11_3).f5) false _ A37.out).mono ?_); rintro e w51 ⟨rfl, hb⟩; refine ⟨_, rfl, ?_⟩; have n0_ := Aside0.mk (Kd.R_below (by (with_reducible repeat (first | apply Kd.R_alloc | apply Kd.R_drewN | apply Kd.R_drew)); exact HO_7.out) hb); have n1_ := Aside0.mk (blk_below (g := gb276) (o := .cells #[.int .i64 ((rd_T29 t271 x9_1).f0), .int .i64 ((rd_T29 t271 x9_1).f1), .int .i64 ((rd_T29 t271 x9_1).f2), .int .i64 ((rd_T29 t271 x9_1).f3), .int .i64 ((rd_T29 t271 x9_1).f4)] 29 (0, 0)) (by (with_reducible repeat (first | refine blk_drewN ?_ _ | refine blk_drew ?_ | refine blk_alloc ?_ _)); exact BK276.out) hb); have n2_ := Aside0.mk (below_step (by repeat (first | (with_reducible first | exact HB.out | apply below_alloc | apply pw_below_drewN | apply below_drew1 | refine below_set ?_ GE276.out) | exact HB.out)) hb); clear HO_7; clear BK276; clear HB; have HO_7 := n0_; have BK276 := n1_; have HB := n2_; clear n0_ n1_ n2_; (try clear hb); (try clear hb2); (try clear hk); (try clear hi)))
                go_ret
                exact ⟨by first | rfl | (simp [errW_none, errW_some] <;> rfl) | (simp [*, errW_none, errW_some] <;> rfl), by repeat (first | (with_reducible first | exact HB.out | apply below_alloc | apply pw_below_drewN | apply below_drew1 | refine below_set ?_ GE276.out) | exact HB.out)⟩
             ·
              rw [if_neg c36] at H
              exact absurd H (by simp)
            ·
             rw [if_neg c35] at H
             exact absurd H (by simp)
           ·
            rw [if_neg c34] at H
            have c34b0 : decide (x11_3 < ((rd_T29 t271 x9_1).f1)) = false := decide_eq_false c34
            clear c34
            have H' := Aside0.mk H
            clear H
            have hcz52_0 : wr.cell? ⟨gb276, 0, none⟩ = some (.int .i64 ((rd_T29 t271 x9_1).f0)) := (blk_cell BK276.out 0).trans rfl
            have hcz52_1 : wr.cell? ⟨gb276, 1, none⟩ = some (.int .i64 ((rd_T29 t271 x9_1).f1)) := (blk_cell BK276.out 1).trans rfl
            have hcz52_2 : wr.cell? ⟨gb276, 2, none⟩ = some (.int .i64 ((rd_T29 t271 x9_1).f2)) := (blk_cell BK276.out 2).trans rfl
            have hcz52_3 : wr.cell? ⟨gb276, 3, none⟩ = some (.int .i64 ((rd_T29 t271 x9_1).f3)) := (blk_cell BK276.out 3).trans rfl
            have hcz52_4 : wr.cell? ⟨gb276, 4, none⟩ = some (.int .i64 ((rd_T29 t271 x9_1).f4)) := (blk_cell BK276.out 4).trans rfl
            have hfz52_0 := blk_frozen BK276.out 0
            have hfz52_1 := blk_frozen BK276.out 1
            have hfz52_2 := blk_frozen BK276.out 2
            have hfz52_3 := blk_frozen BK276.out 3
            have hfz52_4 := blk_frozen BK276.out 4
            go_wp2
            go_roundg k3
            case measure => have := HK1.out; have := HJ10.out; have := HK3.out; omega
            case rel => exact ⟨(((rd_T29 t271 x9_1).f1)), (wrap64 (x9_1 + 1)), (by first | rfl | (simp; done) | (simp [*]; done)), (by first | rfl | (simp; done) | (simp [*]; done)), H', ⟨by have := HK1.out; have := HJ10.out; have := HK3.out; omega⟩, ⟨by (with_reducible repeat (first | apply Kd.R_alloc | apply Kd.R_drewN | apply Kd.R_drew)); exact Kd.R_mono HO_7.out (fun _ hk => trivial)⟩, ⟨by repeat (first | (with_reducible first | exact HB.out | apply below_alloc | apply pw_below_drewN | apply below_drew1 | refine below_set ?_ GE276.out) | exact HB.out)⟩⟩
     ·
      rw [if_neg c10] at H
      exact absurd H (by simp)
    ·
     rw [if_neg c9] at H
     have c9b0 : decide (x9_1 < (t271.length : Int)) = false := decide_eq_false c9
     clear c9
     by_cases c53 : x8_1 = (l0.length : Int)
     ·
      rw [if_pos c53] at H
      have c53b0 : (x8_1 == (l0.length : Int)) = true := beq_iff_eq.mpr c53
      have c53b1 : (x8_1 != (l0.length : Int)) = false := bne_eq_false_iff_eq.mpr c53
      clear c53
      by_cases c54 : (t271.length : Int) > 0
      ·
       rw [if_pos c54] at H
       have c54b0 : decide (0 < (t271.length : Int)) = true := decide_eq_true c54
       have c54b1 : decide (0 < t271.length) = true := decide_eq_true (by omega)
       clear c54
       replace H := Option.bind_eq_some_iff.mp H
       obtain ⟨t274, A550, H⟩ := H
       replace H : (some t274) = some r := H
       have A55 := Aside0.mk A550
       clear A550
       obtain rfl := Option.some.inj H
       obtain ⟨Ao56, co56, eo56⟩ := Kd.R_slice HO_7.out
       subst eo56
       go_wp2_with (first | (go_at_call 17; (with_reducible refine (parquetrylaw17_awake.calls k1  t274 _ A55.out).mono ?_); rintro e w57 ⟨rfl, hb⟩; have n0_ := Aside0.mk (Kd.R_below (by (with_reducible repeat (first | apply Kd.R_alloc | apply Kd.R_drewN | apply Kd.R_drew)); exact HO_7.out) hb); have n1_ := Aside0.mk (below_step (by repeat (first | (with_reducible first | exact HB.out | apply below_alloc | apply pw_below_drewN | apply below_drew1) | exact HB.out)) hb); clear HO_7; clear HB; have HO_7 := n0_; have HB := n1_; clear n0_ n1_; (try clear hb); (try clear hb2); (try clear hk); (try clear hi)))
       go_ret
       exact ⟨by first | rfl | (simp [errW_none, errW_some] <;> rfl) | (simp [*, errW_none, errW_some] <;> rfl), by repeat (first | (with_reducible first | exact HB.out | apply below_alloc | apply pw_below_drewN | apply below_drew1) | exact HB.out)⟩
      ·
       rw [if_neg c54] at H
       have c54b0 : decide (0 < (t271.length : Int)) = false := decide_eq_false c54
       have c54b1 : decide (0 < t271.length) = false := decide_eq_false (by omega)
       clear c54
       obtain rfl := Option.some.inj H
       obtain ⟨Ao58, co58, eo58⟩ := Kd.R_slice HO_7.out
       subst eo58
       go_wp2
       go_ret
       exact ⟨by first | rfl | (simp [errW_none, errW_some] <;> rfl) | (simp [*, errW_none, errW_some] <;> rfl), by repeat (first | (with_reducible first | exact HB.out | apply below_alloc | apply pw_below_drewN | apply below_drew1) | exact HB.out)⟩
     ·
      rw [if_neg c53] at H
      have c53b0 : (x8_1 == (l0.length : Int)) = false := beq_eq_false_iff_ne.mpr c53
      have c53b1 : (x8_1 != (l0.length : Int)) = true := bne_iff_ne.mpr c53
      obtain rfl := Option.some.inj H
      obtain ⟨Ao59, co59, eo59⟩ := Kd.R_slice HO_7.out
      subst eo59
      go_wp2
      go_ret
      exact ⟨by first | rfl | (simp [errW_none, errW_some] <;> rfl) | (simp [*, errW_none, errW_some] <;> rfl), by repeat (first | (with_reducible first | exact HB.out | apply below_alloc | apply pw_below_drewN | apply below_drew1) | exact HB.out)⟩

/-- THE ONE PURE STATEMENT of parquetrylaw17_WrapAll: yours. -/
def parquetrylaw17_WrapAll.Pure : Prop := ∀ (l0 : List (S39)) (a1 : Int) (a2 : Int), l0.length ≤ maxLen → l0.length * 48 ≤ 140737488351232 → (∀ x ∈ l0, (Lit.int .i64 x.f0).wf = true ∧ (Lit.int .i64 x.f1).wf = true ∧ (Lit.int .i64 x.f2).wf = true ∧ (Lit.int .i64 x.f3).wf = true ∧ (Lit.int .i64 x.f4).wf = true ∧ (Lit.int .i64 x.f5).wf = true) → (Lit.int .i64 a1).wf = true → (Lit.int .i64 a2).wf = true → ∃ k, parquetrylaw17_WrapAll.f k l0 a1 a2 = some true
theorem parquetrylaw17_WrapAll.walk (P : parquetrylaw17_WrapAll.Pure) (a0 : Option Addr) (cap0 : Nat) (l0 : List (S39)) (a1 : Int) (a2 : Int) (w : World) (hr0 : Kd.C k39 w a0 l0.length l0) (hc0 : l0.length ≤ cap0) (hm0 : l0.length ≤ maxLen) (y0 : l0.length * 48 ≤ 140737488351232) (hw0 : ∀ x ∈ l0, (Lit.int .i64 x.f0).wf = true ∧ (Lit.int .i64 x.f1).wf = true ∧ (Lit.int .i64 x.f2).wf = true ∧ (Lit.int .i64 x.f3).wf = true ∧ (Lit.int .i64 x.f4).wf = true ∧ (Lit.int .i64 x.f5).wf = true) (w1 : (Lit.int .i64 a1).wf = true) (w2 : (Lit.int .i64 a2).wf = true) :
  Calls Try.prog 8 #[.slice a0 l0.length cap0, .int .i64 a1, .int .i64 a2] w fun e w' => e = .returned (.bool true) ∧ Below w.heap.size w w' := by
 obtain ⟨k, h⟩ := P l0 a1 a2 hm0 y0 hw0 w1 w2
 refine (parquetrylaw17_WrapAll.calls k _ _ l0 a1 a2 true w hr0 hc0 h).mono ?_
 rintro e w' ⟨rfl, hd⟩
 exact ⟨rfl, hd⟩

end Go.Proofs.Ytieffcjbbhigbaa.PC17
