/- For the laws of the group C17: the Lean functions that the Go functions compute, and proofs that they do. Written by wip/hprint.py of this repo over the kit's printer; nothing here is trusted: Lean checks it. -/
import Derived.Test.YtieffcjbbhigbaaPC17x0
import Derived.Test.YtieffcjbbhigbaaPC17x2
import Derived.Test.YtieffcjbbhigbaaPC17x11
import Derived.Test.YtieffcjbbhigbaaPC17x15
namespace Go.Proofs.Ytieffcjbbhigbaa.PC17
open Go.RowKit Go.Proofs.YtieffcjbbhigbaaW.PrintWords Go.Proofs.YtieffcjbbhigbaaW.PrintLast Go.Proofs.YtieffcjbbhigbaaW.PrintMore
attribute [local go_sem] max2_int min2_int max_two min_two max_three min_three max_four min_four   -- for this text's walks alone
set_option linter.unusedVariables false
set_option linter.unusedSimpArgs false

attribute [local go_sem high] eqA39
/-! ### parquetryref17_Lines: function 28: by hand -/
mutual
def parquetryref17_Lines.j0 : Nat → List (S39) → Int → Int → Bool → Option ((List (S29)))
 | 0, _, _, _, _ => none
 | k + 1, x0, x1, x7, x20 => if x20 = true then (some (([(⟨0, (x0.length : Int), x7, 1, 0⟩ : S29)] : List (S29)))) else (if x1 < 1 then (parquetryref17_Lines.j1 k x0 1 x7) else (parquetryref17_Lines.j1 k x0 x1 x7))
def parquetryref17_Lines.j1 : Nat → List (S39) → Int → Int → Option ((List (S29)))
 | 0, _, _, _ => none
 | k + 1, x0, x1, x7 => parquetryref17_Lines.l0 k x0 x1 x7 ([] : List (S29)) 0
def parquetryref17_Lines.l0 : Nat → List (S39) → Int → Int → List (S29) → Int → Option ((List (S29)))
 | 0, _, _, _, _, _ => none
 | k + 1, x0, x1, x7, x8, x9 => if x9 < x7 then (if 0 ≤ x7 then (if x7 ≤ (x0.length : Int) then ((parquetryref17_first.f k (x0.take (x7 : Int).toNat) x9 x1).bind fun bt260 => (if bt260.1 = x7 then (if x8.length < 3518437208883 then (parquetryref17_Lines.l0 k x0 x1 x7 (x8 ++ [(⟨x9, (x0.length : Int), bt260.2, 1, 0⟩ : S29)]) bt260.1) else (none)) else (if x8.length < 3518437208883 then (parquetryref17_Lines.l0 k x0 x1 x7 (x8 ++ [(⟨x9, bt260.1, bt260.2, 0, 0⟩ : S29)]) bt260.1) else (none)))) else (none)) else (none)) else (some x8)
end
def parquetryref17_Lines.f (k : Nat) (l0 : List (S39)) (a1 : Int) (a2 : Int) : Option ((List (S29))) := (parquetryref17_Shown.f k l0).bind fun t252 => (if a2 = 0 then (parquetryref17_Lines.j0 k l0 a1 t252 true) else (parquetryref17_Lines.j0 k l0 a1 t252 (t252 == 0)))
theorem parquetryref17_Lines.mono_l : ∀ k, (∀ y0 y1 y2 y3, LeO (parquetryref17_Lines.j0 k y0 y1 y2 y3) (parquetryref17_Lines.j0 (k + 1) y0 y1 y2 y3)) ∧ (∀ y0 y1 y2, LeO (parquetryref17_Lines.j1 k y0 y1 y2) (parquetryref17_Lines.j1 (k + 1) y0 y1 y2)) ∧ (∀ y0 y1 y2 y3 y4, LeO (parquetryref17_Lines.l0 k y0 y1 y2 y3 y4) (parquetryref17_Lines.l0 (k + 1) y0 y1 y2 y3 y4))
 | 0 => ⟨fun _ _ _ _ r h => by simp [parquetryref17_Lines.j0] at h, fun _ _ _ r h => by simp [parquetryref17_Lines.j1] at h, fun _ _ _ _ _ r h => by simp [parquetryref17_Lines.l0] at h⟩
 | k + 1 => by
  obtain ⟨ih0, ih1, ih2⟩ := parquetryref17_Lines.mono_l k
  refine ⟨?_, ?_, ?_⟩
  ·
   intro y0 y1 y2 y3
   unfold parquetryref17_Lines.j0
   repeat' first
   | (with_reducible exact ih0 _ _ _ _)
   | (with_reducible exact ih1 _ _ _)
   | (with_reducible exact ih2 _ _ _ _ _)
   | (with_reducible exact parquetryref17_Shown.mono _ _)
   | (with_reducible exact parquetryref17_first.mono _ _ _ _)
   | (with_reducible exact LeO.refl _)
   | (with_reducible exact LeO.none _)
   | (with_reducible refine LeO.ite ?_ ?_)
   | (with_reducible refine LeO.bind ?_ (fun _ => ?_))
   | exact ih0 _ _ _ _
   | exact ih1 _ _ _
   | exact ih2 _ _ _ _ _
   | exact parquetryref17_Shown.mono _ _
   | exact parquetryref17_first.mono _ _ _ _
   | exact LeO.none _
   | refine LeO.ite ?_ ?_
   | refine LeO.bind ?_ (fun _ => ?_)
  ·
   intro y0 y1 y2
   unfold parquetryref17_Lines.j1
   repeat' first
   | (with_reducible exact ih0 _ _ _ _)
   | (with_reducible exact ih1 _ _ _)
   | (with_reducible exact ih2 _ _ _ _ _)
   | (with_reducible exact parquetryref17_Shown.mono _ _)
   | (with_reducible exact parquetryref17_first.mono _ _ _ _)
   | (with_reducible exact LeO.refl _)
   | (with_reducible exact LeO.none _)
   | (with_reducible refine LeO.ite ?_ ?_)
   | (with_reducible refine LeO.bind ?_ (fun _ => ?_))
   | exact ih0 _ _ _ _
   | exact ih1 _ _ _
   | exact ih2 _ _ _ _ _
   | exact parquetryref17_Shown.mono _ _
   | exact parquetryref17_first.mono _ _ _ _
   | exact LeO.none _
   | refine LeO.ite ?_ ?_
   | refine LeO.bind ?_ (fun _ => ?_)
  ·
   intro y0 y1 y2 y3 y4
   unfold parquetryref17_Lines.l0
   repeat' first
   | (with_reducible exact ih0 _ _ _ _)
   | (with_reducible exact ih1 _ _ _)
   | (with_reducible exact ih2 _ _ _ _ _)
   | (with_reducible exact parquetryref17_Shown.mono _ _)
   | (with_reducible exact parquetryref17_first.mono _ _ _ _)
   | (with_reducible exact LeO.refl _)
   | (with_reducible exact LeO.none _)
   | (with_reducible refine LeO.ite ?_ ?_)
   | (with_reducible refine LeO.bind ?_ (fun _ => ?_))
   | exact ih0 _ _ _ _
   | exact ih1 _ _ _
   | exact ih2 _ _ _ _ _
   | exact parquetryref17_Shown.mono _ _
   | exact parquetryref17_first.mono _ _ _ _
   | exact LeO.none _
   | refine LeO.ite ?_ ?_
   | refine LeO.bind ?_ (fun _ => ?_)
theorem parquetryref17_Lines.mono : ∀ a0 a1 a2 k, LeO (parquetryref17_Lines.f k a0 a1 a2) (parquetryref17_Lines.f (k + 1) a0 a1 a2) := by
 intro a0 a1 a2 k
 obtain ⟨ih0, ih1, ih2⟩ := parquetryref17_Lines.mono_l k
 unfold parquetryref17_Lines.f
 repeat' first
   | (with_reducible exact ih0 _ _ _ _)
   | (with_reducible exact ih1 _ _ _)
   | (with_reducible exact ih2 _ _ _ _ _)
   | (with_reducible exact parquetryref17_Shown.mono _ _)
   | (with_reducible exact parquetryref17_first.mono _ _ _ _)
   | (with_reducible exact LeO.refl _)
   | (with_reducible exact LeO.none _)
   | (with_reducible refine LeO.ite ?_ ?_)
   | (with_reducible refine LeO.bind ?_ (fun _ => ?_))
   | exact ih0 _ _ _ _
   | exact ih1 _ _ _
   | exact ih2 _ _ _ _ _
   | exact parquetryref17_Shown.mono _ _
   | exact parquetryref17_first.mono _ _ _ _
   | exact LeO.none _
   | refine LeO.ite ?_ ?_
   | refine LeO.bind ?_ (fun _ => ?_)
set_option maxHeartbeats 8000000 in
set_option maxRecDepth 100000 in
theorem parquetryref17_Lines.calls (k : Nat) (A0 : Option Addr) (c0 : Nat) (l0 : List (S39)) (a1 : Int) (a2 : Int) (r : List (S29)) (w : World) (hr0 : Kd.C k39 w A0 l0.length l0) (hc0 : l0.length ≤ c0) (h : parquetryref17_Lines.f k l0 a1 a2 = some r) :
  Calls Try.prog 28 #[.slice A0 l0.length c0, .int .i64 a1, .int .i64 a2] w fun e w' => ∃ v0_ : Value, e = .returned (v0_) ∧ Kd.R k29 29 w' w.heap.size (fun _ => True) v0_ r ∧ Below w.heap.size w w' := by
 have hu29 := Try.underlying29
 have HR0 := Aside0.mk hr0
 have HC0 := Aside0.mk hc0
 clear hr0 hc0
 have HB := Aside0.mk (Below.refl w.heap.size w)
 have H : ((parquetryref17_Shown.f k l0).bind fun t252 => (if a2 = 0 then (parquetryref17_Lines.j0 k l0 a1 t252 true) else (parquetryref17_Lines.j0 k l0 a1 t252 (t252 == 0)))) = some r := h
 clear h
 replace H := Option.bind_eq_some_iff.mp H
 obtain ⟨t252, A40, H⟩ := H
 replace H : (if a2 = 0 then (parquetryref17_Lines.j0 k l0 a1 t252 true) else (parquetryref17_Lines.j0 k l0 a1 t252 (t252 == 0))) = some r := H
 have A4 := Aside0.mk A40
 clear A40
 have HC5 := Aside0.mk H
 clear H
 go_enter Try.func28, Try.ntmps28
 try dsimp only [List.append]
 go_upto_region 2 with (first | ((with_reducible refine gate_callee (f := 23) rfl ?_); refine goesL_ (some 14) rfl rfl Try.func23 (by kernel_rfl) rfl #[.slice A0 l0.length c0] rfl (by (try simp only [List.map_toArray, List.map_cons, List.map_nil]); first | done | rfl | (simp only [List.length_drop, List.length_take]; rfl)) ?_; (with_reducible refine (parquetryref17_Shown.calls k _ _ l0 t252 _ ?side1 ?side2 A4.out).mono ?_); (case side1 => repeat (first | exact HR0.out | (with_reducible refine Kd.C_alloc ?_ _) | (with_reducible refine Kd.C_drewN ?_ _) | (with_reducible refine Kd.C_drew ?_))); (case side2 => exact HC0.out); rintro e w6 ⟨rfl, hb⟩; refine ⟨_, rfl, ?_⟩; have n0_ := Aside0.mk (below_step (by repeat (first | (with_reducible first | exact HB.out | apply below_alloc | apply pw_below_drewN | apply below_drew1) | exact HB.out)) hb); clear HB; have HB := n0_; clear n0_; (try clear hb); (try clear hb2); (try clear hk); (try clear hi)))
 (try simp only [Act.put, List.setIfInBounds_toArray, List.set_cons_zero, List.set_cons_succ])
 go_cut [20] (fun v20 wc => ∃ (kq : Nat) (x20_4 : Bool), v20 = .bool x20_4 ∧ Aside0 (parquetryref17_Lines.j0 kq l0 a1 t252 x20_4 = some r) ∧ Aside0 (kq ≤ k) ∧ Aside0 (Below w.heap.size w wc))
 case first =>
  have H := HC5.out
  clear HC5
  by_cases c7 : a2 = 0
  ·
   rw [if_pos c7] at H
   have c7b0 : (a2 == 0) = true := beq_iff_eq.mpr c7
   have c7b1 : (a2 != 0) = false := bne_eq_false_iff_eq.mpr c7
   clear c7
   (first | rw [c7b0] | (simp only [i64_w, i32_w]; rw [c7b0]) | skip)
   have H' := Aside0.mk H
   clear H
   go_wp2
   go_meet
   case rel => exact ⟨_, (true), (by first | rfl | (simp; done) | (simp [*]; done)), H', ⟨by first | omega | exact Nat.le_refl _⟩, ⟨by repeat (first | (with_reducible first | exact HB.out | apply below_alloc | apply pw_below_drewN | apply below_drew1) | exact HB.out)⟩⟩
  ·
   rw [if_neg c7] at H
   have c7b0 : (a2 == 0) = false := beq_eq_false_iff_ne.mpr c7
   have c7b1 : (a2 != 0) = true := bne_iff_ne.mpr c7
   (first | rw [c7b0] | (simp only [i64_w, i32_w]; rw [c7b0]) | skip)
   have H' := Aside0.mk H
   clear H
   go_wp2
   go_meet
   case rel => exact ⟨_, ((t252 == 0)), (by first | rfl | (simp; done) | (simp [*]; done)), H', ⟨by first | omega | exact Nat.le_refl _⟩, ⟨by repeat (first | (with_reducible first | exact HB.out | apply below_alloc | apply pw_below_drewN | apply below_drew1) | exact HB.out)⟩⟩
 case rest =>
  clear HC5
  try clear c2
  try clear p2
  try clear c7
  try clear c7b0
  try clear c7b1
  obtain ⟨kq, x20_4, rfl, HA, HJ4, HB⟩ := hcut
  cases kq with
  | zero => exact absurd HA.out (by simp [parquetryref17_Lines.j0])
  | succ kj4 =>
   have H := HA.out
   clear HA
   simp only [parquetryref17_Lines.j0] at H
   by_cases c8 : x20_4 = true
   ·
    subst c8
    have H1 : (some (([(⟨0, (l0.length : Int), t252, 1, 0⟩ : S29)] : List (S29)))) = some r := by rw [if_pos rfl] at H; exact H
    clear H
    have H := H1
    clear H1
    obtain ⟨y253, hy253⟩ : ∃ y_ : List (S29), y_ = (([(⟨0, (l0.length : Int), t252, 1, 0⟩ : S29)] : List (S29))) := ⟨_, rfl⟩
    replace H : (some y253) = some r := by first | (rw [hy253]; with_reducible exact H) | (have H2_ := (Option.bind_some _ _).symm.trans H; rw [hy253]; with_reducible exact H2_) | (have H2_ := (Option.bind_some _ _).symm.trans H; with_reducible exact H2_) | with_reducible exact H | (rw [hy253]; exact H) | exact H
    have Ny253 := Aside0.mk hy253
    clear hy253
    obtain rfl := Option.some.inj H
    go_wp2_with (first | ((with_reducible refine gate_dst (N := 25) rfl ?_); refine Kd.R_lit k29 _ 29 ?hg (N := 25) ?hd (xs := ([(⟨0, (l0.length : Int), t252, 1, 0⟩ : S29)] : List (S29))) (inner := [.int .i64 0, .int .i64 (l0.length : Int), .int .i64 t252, .int .i64 1, .int .i64 0]) (ok := fun _ => True) (okp := fun _ => True) ?hr ?hp (fun _ hk => hk) trivial (Below.refl _ _) (Nat.le_refl _) (by simp) ?_; (case hd => rfl); (case hg => rfl); (case hr => first | (go_simp; done) | (go_simp; rfl)); (case hp => exact (Reps.c5 (show Kd.M k29 _ _ _ (⟨0, (l0.length : Int), t252, 1, 0⟩ : S29) [.int .i64 0, .int .i64 (l0.length : Int), .int .i64 t252, .int .i64 1, .int .i64 0] from (k29_mkM _ _ _ (⟨0, (l0.length : Int), t252, 1, 0⟩ : S29) )) (Reps.none _ _))); intro v254 w9 ho10 hb hg_ hnew_; clear hg_ hnew_; (first | rw [← Ny253.out] at ho10 | (simp only [Int.reduceToNat] at ho10; rw [← Ny253.out] at ho10)); have n0_ := Aside0.mk (Kd.R_lower ho10 (below_size (by repeat (first | (with_reducible first | exact HB.out | apply below_alloc | apply pw_below_drewN | apply below_drew1) | exact HB.out)))); have n1_ := Aside0.mk (below_step (by repeat (first | (with_reducible first | exact HB.out | apply below_alloc | apply pw_below_drewN | apply below_drew1) | exact HB.out)) hb); clear HB; have HO255 := n0_; have HB := n1_; clear n0_ n1_; clear hb ho10))
    go_ret
    exact ⟨_, by first | rfl | (simp [errW_none, errW_some] <;> rfl) | (simp [*, errW_none, errW_some] <;> rfl), by (with_reducible repeat (first | apply Kd.R_alloc | apply Kd.R_drewN | apply Kd.R_drew)); exact HO255.out, by repeat (first | (with_reducible first | exact HB.out | apply below_alloc | apply pw_below_drewN | apply below_drew1) | exact HB.out)⟩
   ·
    replace c8 := Bool.eq_false_iff.mpr c8
    subst c8
    have H1 : (if a1 < 1 then (parquetryref17_Lines.j1 kj4 l0 1 t252) else (parquetryref17_Lines.j1 kj4 l0 a1 t252)) = some r := by rw [if_neg (show ¬ (false = true) by decide)] at H; exact H
    clear H
    have H := H1
    clear H1
    have HC11 := Aside0.mk H
    clear H
    go_upto_if 27 with (fail)
    go_cut [1] (fun v1 wc => ∃ (kq : Nat) (x1_10 : Int), v1 = .int .i64 x1_10 ∧ Aside0 (parquetryref17_Lines.j1 kq l0 x1_10 t252 = some r) ∧ Aside0 (kq ≤ kj4) ∧ Aside0 (Below w.heap.size w wc))
    case first =>
     have H := HC11.out
     clear HC11
     by_cases c12 : a1 < 1
     ·
      rw [if_pos c12] at H
      have c12b0 : decide (a1 < 1) = true := decide_eq_true c12
      clear c12
      (first | rw [c12b0] | (simp only [i64_w, i32_w]; rw [c12b0]) | skip)
      have H' := Aside0.mk H
      clear H
      go_wp2
      go_meet
      case rel => exact ⟨_, (1), (by first | rfl | (simp; done) | (simp [*]; done)), H', ⟨by have := HJ4.out; first | omega | exact Nat.le_refl _⟩, ⟨by repeat (first | (with_reducible first | exact HB.out | apply below_alloc | apply pw_below_drewN | apply below_drew1) | exact HB.out)⟩⟩
     ·
      rw [if_neg c12] at H
      have c12b0 : decide (a1 < 1) = false := decide_eq_false c12
      clear c12
      (first | rw [c12b0] | (simp only [i64_w, i32_w]; rw [c12b0]) | skip)
      have H' := Aside0.mk H
      clear H
      go_wp2
      go_meet
      case rel => exact ⟨_, (a1), (by first | rfl | (simp; done) | (simp [*]; done)), H', ⟨by have := HJ4.out; first | omega | exact Nat.le_refl _⟩, ⟨by repeat (first | (with_reducible first | exact HB.out | apply below_alloc | apply pw_below_drewN | apply below_drew1) | exact HB.out)⟩⟩
    case rest =>
     clear HC11
     try clear c1
     try clear c5
     try clear c8
     try clear c12
     try clear c12b0
     obtain ⟨kq, x1_10, rfl, HA, HJ10, HB⟩ := hcut
     cases kq with
     | zero => exact absurd HA.out (by simp [parquetryref17_Lines.j1])
     | succ kj10 =>
      have H := HA.out
      clear HA
      simp only [parquetryref17_Lines.j1] at H
      have H' := Aside0.mk H
      clear H
      go_wp2
      go_loopg [8, 9] kj10 (fun kq v8 v9 w' => ∃ (x8_3 : List (S29)) (x9_3 : Int), v9 = .int .i64 x9_3 ∧ Aside0 (parquetryref17_Lines.l0 kq l0 x1_10 t252 x8_3 x9_3 = some r) ∧ Aside0 (kq ≤ kj10) ∧ Aside0 (Kd.R k29 29 w' w.heap.size (fun _ => True) v8 x8_3) ∧ Aside0 (Below w.heap.size w w'))
      case atStart => exact ⟨(([] : List (S29))), (0), (by first | rfl | (simp; done) | (simp [*]; done)), H', ⟨Nat.le_refl _⟩, ⟨by first | exact Kd.R_nil _ _ _ _ _ | exact Kd.N_nil _ _ _ _ _ | exact Kd.V_nil _ _ _ _ _ | exact Kd.Q_nil _ _ _ _ _ | exact Kd.S_nil _ _ _ _ _⟩, ⟨by repeat (first | (with_reducible first | exact HB.out | apply below_alloc | apply pw_below_drewN | apply below_drew1) | exact HB.out)⟩⟩
      case round =>
       clear H'
       obtain ⟨x8_3, x9_3, rfl, HA, HK3, HO_8, HB⟩ := hrel
       cases gk with
       | zero => exact absurd HA.out (by simp [parquetryref17_Lines.l0])
       | succ k3 =>
        have H := HA.out
        clear HA
        simp only [parquetryref17_Lines.l0] at H
        by_cases c13 : x9_3 < t252
        ·
         rw [if_pos c13] at H
         have c13b0 : decide (x9_3 < t252) = true := decide_eq_true c13
         clear c13
         by_cases c14 : 0 ≤ t252
         ·
          rw [if_pos c14] at H
          have c14b0 := eq_true c14
          have c14b1 : decide (0 ≤ t252) = true := decide_eq_true c14
          clear c14
          by_cases c15 : t252 ≤ (l0.length : Int)
          ·
           rw [if_pos c15] at H
           have c15b0 := eq_true c15
           have c15b1 : decide (t252 ≤ (l0.length : Int)) = true := decide_eq_true c15
           clear c15
           obtain ⟨y256, hy256⟩ : ∃ y_ : List (S39), y_ = (l0.take (t252 : Int).toNat) := ⟨_, rfl⟩
           replace H : ((parquetryref17_first.f k3 y256 x9_3 x1_10).bind fun bt260 => (if bt260.1 = t252 then (if x8_3.length < 3518437208883 then (parquetryref17_Lines.l0 k3 l0 x1_10 t252 (x8_3 ++ [(⟨x9_3, (l0.length : Int), bt260.2, 1, 0⟩ : S29)]) bt260.1) else (none)) else (if x8_3.length < 3518437208883 then (parquetryref17_Lines.l0 k3 l0 x1_10 t252 (x8_3 ++ [(⟨x9_3, bt260.1, bt260.2, 0, 0⟩ : S29)]) bt260.1) else (none)))) = some r := by first | (rw [hy256]; with_reducible exact H) | (have H2_ := (Option.bind_some _ _).symm.trans H; rw [hy256]; with_reducible exact H2_) | (have H2_ := (Option.bind_some _ _).symm.trans H; with_reducible exact H2_) | with_reducible exact H | (rw [hy256]; exact H) | exact H
           have Ny256 := Aside0.mk hy256
           clear hy256
           replace H := Option.bind_eq_some_iff.mp H
           obtain ⟨⟨t260, t261⟩, A160, H⟩ := H
           replace H : (if t260 = t252 then (if x8_3.length < 3518437208883 then (parquetryref17_Lines.l0 k3 l0 x1_10 t252 (x8_3 ++ [(⟨x9_3, (l0.length : Int), t261, 1, 0⟩ : S29)]) t260) else (none)) else (if x8_3.length < 3518437208883 then (parquetryref17_Lines.l0 k3 l0 x1_10 t252 (x8_3 ++ [(⟨x9_3, t260, t261, 0, 0⟩ : S29)]) t260) else (none))) = some r := H
           have A16 := Aside0.mk A160
           clear A160
           by_cases c17 : t260 = t252
           ·
            rw [if_pos c17] at H
            have c17b0 : (t260 == t252) = true := beq_iff_eq.mpr c17
            have c17b1 : (t260 != t252) = false := bne_eq_false_iff_eq.mpr c17
            clear c17
            by_cases c18 : x8_3.length < 3518437208883
            ·
             rw [if_pos c18] at H
             have LMc18 := Aside0.mk c18
             clear c18
             obtain ⟨y263, hy263⟩ : ∃ y_ : List (S29), y_ = (x8_3 ++ [(⟨x9_3, (l0.length : Int), t261, 1, 0⟩ : S29)]) := ⟨_, rfl⟩
             replace H : (parquetryref17_Lines.l0 k3 l0 x1_10 t252 y263 t260) = some r := by first | (rw [hy263]; with_reducible exact H) | (have H2_ := (Option.bind_some _ _).symm.trans H; rw [hy263]; with_reducible exact H2_) | (have H2_ := (Option.bind_some _ _).symm.trans H; with_reducible exact H2_) | with_reducible exact H | (rw [hy263]; exact H) | exact H
             have Ny263 := Aside0.mk hy263
             clear hy263
             have H' := Aside0.mk H
             clear H
             have q19 : (t252 : Int) ≤ ((l0.length : Int) : Int) := of_decide_eq_true (by first | (with_reducible assumption) | assumption)
             obtain ⟨i019, hi019, _, hsz19, _⟩ := info_parts info39
             have hroom19 : l0.length ≤ c0 := HC0.out
             have hC19 : Kd.C k39 _ A0 l0.length l0 := HR0.out
             have hcut19 := cut_to (P := Try.prog) 22 39 .i64 Try.underlying22 hi019 A0 l0.length c0 t252 (of_decide_eq_true (by first | (with_reducible assumption) | assumption)) q19 hroom19
             have hr19 := Kd.C_take (m := (t252 : Int).toNat) hC19 (by omega)
             have hy19 : y256.length = (t252 : Int).toNat := (by rw [Ny256.out, List.length_take]; omega)
             rw [← Ny256.out] at hr19
             rw [← hy19] at hcut19
             have HR259 := Aside0.mk hr19
             have HC259 := Aside0.mk (show y256.length ≤ c0 from by omega)
             clear hr19 hC19 hroom19 hi019 hsz19
             have KY19 := Aside0.mk hy19
             clear hy19
             replace q19 := eq_true q19
             go_upto_region 14 with ((with_reducible refine gate_callee (f := 40) rfl ?_); refine goesL_ (some 37) rfl rfl Try.func40 (by kernel_rfl) rfl #[.slice A0 y256.length c0, .int .i64 x9_3, .int .i64 x1_10] rfl (by (try simp only [List.map_toArray, List.map_cons, List.map_nil]); first | done | rfl | (simp only [List.length_drop, List.length_take]; rfl)) ?_; (with_reducible refine (parquetryref17_first.calls k3 _ _ y256 x9_3 x1_10 t260 t261 _ ?side1 ?side2 A16.out).mono ?_); (case side1 => repeat (first | exact (Kd.C_below HR259.out HB.out) | (with_reducible refine Kd.C_alloc ?_ _) | (with_reducible refine Kd.C_drewN ?_ _) | (with_reducible refine Kd.C_drew ?_))); (case side2 => exact HC259.out); rintro e w20 ⟨rfl, hb⟩; refine ⟨_, rfl, ?_⟩; have n0_ := Aside0.mk (Kd.R_below (by (with_reducible repeat (first | apply Kd.R_alloc | apply Kd.R_drewN | apply Kd.R_drew)); exact HO_8.out) hb); have n1_ := Aside0.mk (below_step (by repeat (first | (with_reducible first | exact HB.out | apply below_alloc | apply pw_below_drewN | apply below_drew1) | exact HB.out)) hb); clear HO_8; clear HB; have HO_8 := n0_; have HB := n1_; clear n0_ n1_; (try clear hb); (try clear hb2); (try clear hk); (try clear hi))
             obtain ⟨W5, hW5⟩ : ∃ W5, (World.alloc w20 (Obj.cells #[.int .i64 x9_3, .int .i64 (l0.length : Int), .int .i64 t261, .int .i64 1, .int .i64 0] 29)) = W5 := ⟨_, rfl⟩
             rw [hW5]
             have hB5 : Below _ _ W5 := hW5 ▸ below_alloc (Below.refl _ _) _
             have bk5 : W5.heap[w20.heap.size]? = some (Obj.cells #[.int .i64 x9_3, .int .i64 (l0.length : Int), .int .i64 t261, .int .i64 1, .int .i64 0] 29 (0, 0)) := hW5 ▸ blk_new _ _
             have n0_ := Aside0.mk (Kd.R_below HO_8.out hB5)
             have n1_ := Aside0.mk (below_step HB.out hB5)
             clear HO_8 HB
             have HO_8 := n0_
             have HB := n1_
             clear n0_ n1_ hB5 hW5
             have y0_ := (blk_cell bk5 0).trans rfl
             have y1_ := (blk_cell bk5 1).trans rfl
             have y2_ := (blk_cell bk5 2).trans rfl
             have y3_ := (blk_cell bk5 3).trans rfl
             have y4_ := (blk_cell bk5 4).trans rfl
             clear bk5
             go_wp2_with ((with_reducible refine gate_builtin (b := .append) (xs := #[.tmp 51, .tmp 53]) rfl ?_); at_builtin; refine Kd.R_append k29 (w0 := w) w.heap.size rfl (.tmp 51) (.tmp 53) 23 29 (.agg #[(.int .i64 0), (.int .i64 0), (.int .i64 0), (.int .i64 0), (.int .i64 0)]) 40 rfl Try.underlying23 info29 rfl (by decide) (by omega) _ x8_3 (⟨x9_3, (l0.length : Int), t261, 1, 0⟩ : S29) [.int .i64 x9_3, .int .i64 (l0.length : Int), .int .i64 t261, .int .i64 1, .int .i64 0] (fun _ => True) (fun _ => False) rfl (by first | (go_simp; done) | (go_simp; rfl)) (k29_mkM _ _ _ (⟨x9_3, (l0.length : Int), t261, 1, 0⟩ : S29)) (fun _ hk => hk.elim) (fun _ _ => trivial) HO_8.out HB.out (below_size HB.out) (by have := LMc18.out; omega) ?_; intro v_ w_ ho hb hg hat; rw [← Ny263.out] at ho; have n1_ := Aside0.mk hb; have n2_ := Aside0.mk ho; clear HB HO_8; have HB := n1_; have HO265 := n2_; clear n1_ n2_ ho hb hg hat)
             go_roundg k3
             case measure => have := HJ4.out; have := HJ10.out; have := HK3.out; omega
             case rel => exact ⟨(y263), (t260), (by first | rfl | (simp; done) | (simp [*]; done)), H', ⟨by have := HJ4.out; have := HJ10.out; have := HK3.out; omega⟩, ⟨by (with_reducible repeat (first | apply Kd.R_alloc | apply Kd.R_drewN | apply Kd.R_drew)); exact Kd.R_mono HO265.out (fun _ hk => trivial)⟩, ⟨by repeat (first | (with_reducible first | exact HB.out | apply below_alloc | apply pw_below_drewN | apply below_drew1 | refine below_set ?_ GE262.out) | exact HB.out)⟩⟩
            ·
             rw [if_neg c18] at H
             exact absurd H (by simp)
           ·
            rw [if_neg c17] at H
            have c17b0 : (t260 == t252) = false := beq_eq_false_iff_ne.mpr c17
            have c17b1 : (t260 != t252) = true := bne_iff_ne.mpr c17
            by_cases c24 : x8_3.length < 3518437208883
            ·
             rw [if_pos c24] at H
             have LMc24 := Aside0.mk c24
             clear c24
             obtain ⟨y266, hy266⟩ : ∃ y_ : List (S29), y_ = (x8_3 ++ [(⟨x9_3, t260, t261, 0, 0⟩ : S29)]) := ⟨_, rfl⟩
             replace H : (parquetryref17_Lines.l0 k3 l0 x1_10 t252 y266 t260) = some r := by first | (rw [hy266]; with_reducible exact H) | (have H2_ := (Option.bind_some _ _).symm.trans H; rw [hy266]; with_reducible exact H2_) | (have H2_ := (Option.bind_some _ _).symm.trans H; with_reducible exact H2_) | with_reducible exact H | (rw [hy266]; exact H) | exact H
             have Ny266 := Aside0.mk hy266
             clear hy266
             have H' := Aside0.mk H
             clear H
             have q25 : (t252 : Int) ≤ ((l0.length : Int) : Int) := of_decide_eq_true (by first | (with_reducible assumption) | assumption)
             obtain ⟨i025, hi025, _, hsz25, _⟩ := info_parts info39
             have hroom25 : l0.length ≤ c0 := HC0.out
             have hC25 : Kd.C k39 _ A0 l0.length l0 := HR0.out
             have hcut25 := cut_to (P := Try.prog) 22 39 .i64 Try.underlying22 hi025 A0 l0.length c0 t252 (of_decide_eq_true (by first | (with_reducible assumption) | assumption)) q25 hroom25
             have hr25 := Kd.C_take (m := (t252 : Int).toNat) hC25 (by omega)
             have hy25 : y256.length = (t252 : Int).toNat := (by rw [Ny256.out, List.length_take]; omega)
             rw [← Ny256.out] at hr25
             rw [← hy25] at hcut25
             have HR259 := Aside0.mk hr25
             have HC259 := Aside0.mk (show y256.length ≤ c0 from by omega)
             clear hr25 hC25 hroom25 hi025 hsz25
             have KY25 := Aside0.mk hy25
             clear hy25
             replace q25 := eq_true q25
             go_upto_region 14 with ((with_reducible refine gate_callee (f := 40) rfl ?_); refine goesL_ (some 37) rfl rfl Try.func40 (by kernel_rfl) rfl #[.slice A0 y256.length c0, .int .i64 x9_3, .int .i64 x1_10] rfl (by (try simp only [List.map_toArray, List.map_cons, List.map_nil]); first | done | rfl | (simp only [List.length_drop, List.length_take]; rfl)) ?_; (with_reducible refine (parquetryref17_first.calls k3 _ _ y256 x9_3 x1_10 t260 t261 _ ?side1 ?side2 A16.out).mono ?_); (case side1 => repeat (first | exact (Kd.C_below HR259.out HB.out) | (with_reducible refine Kd.C_alloc ?_ _) | (with_reducible refine Kd.C_drewN ?_ _) | (with_reducible refine Kd.C_drew ?_))); (case side2 => exact HC259.out); rintro e w26 ⟨rfl, hb⟩; refine ⟨_, rfl, ?_⟩; have n0_ := Aside0.mk (Kd.R_below (by (with_reducible repeat (first | apply Kd.R_alloc | apply Kd.R_drewN | apply Kd.R_drew)); exact HO_8.out) hb); have n1_ := Aside0.mk (below_step (by repeat (first | (with_reducible first | exact HB.out | apply below_alloc | apply pw_below_drewN | apply below_drew1) | exact HB.out)) hb); clear HO_8; clear HB; have HO_8 := n0_; have HB := n1_; clear n0_ n1_; (try clear hb); (try clear hb2); (try clear hk); (try clear hi))
             obtain ⟨W5, hW5⟩ : ∃ W5, (World.alloc w26 (Obj.cells #[.int .i64 x9_3, .int .i64 t260, .int .i64 t261, .int .i64 0, .int .i64 0] 29)) = W5 := ⟨_, rfl⟩
             rw [hW5]
             have hB5 : Below _ _ W5 := hW5 ▸ below_alloc (Below.refl _ _) _
             have bk5 : W5.heap[w26.heap.size]? = some (Obj.cells #[.int .i64 x9_3, .int .i64 t260, .int .i64 t261, .int .i64 0, .int .i64 0] 29 (0, 0)) := hW5 ▸ blk_new _ _
             have n0_ := Aside0.mk (Kd.R_below HO_8.out hB5)
             have n1_ := Aside0.mk (below_step HB.out hB5)
             clear HO_8 HB
             have HO_8 := n0_
             have HB := n1_
             clear n0_ n1_ hB5 hW5
             have y0_ := (blk_cell bk5 0).trans rfl
             have y1_ := (blk_cell bk5 1).trans rfl
             have y2_ := (blk_cell bk5 2).trans rfl
             have y3_ := (blk_cell bk5 3).trans rfl
             have y4_ := (blk_cell bk5 4).trans rfl
             clear bk5
             go_wp2_with ((with_reducible refine gate_builtin (b := .append) (xs := #[.tmp 51, .tmp 53]) rfl ?_); at_builtin; refine Kd.R_append k29 (w0 := w) w.heap.size rfl (.tmp 51) (.tmp 53) 23 29 (.agg #[(.int .i64 0), (.int .i64 0), (.int .i64 0), (.int .i64 0), (.int .i64 0)]) 40 rfl Try.underlying23 info29 rfl (by decide) (by omega) _ x8_3 (⟨x9_3, t260, t261, 0, 0⟩ : S29) [.int .i64 x9_3, .int .i64 t260, .int .i64 t261, .int .i64 0, .int .i64 0] (fun _ => True) (fun _ => False) rfl (by first | (go_simp; done) | (go_simp; rfl)) (k29_mkM _ _ _ (⟨x9_3, t260, t261, 0, 0⟩ : S29)) (fun _ hk => hk.elim) (fun _ _ => trivial) HO_8.out HB.out (below_size HB.out) (by have := LMc24.out; omega) ?_; intro v_ w_ ho hb hg hat; rw [← Ny266.out] at ho; have n1_ := Aside0.mk hb; have n2_ := Aside0.mk ho; clear HB HO_8; have HB := n1_; have HO268 := n2_; clear n1_ n2_ ho hb hg hat)
             go_roundg k3
             case measure => have := HJ4.out; have := HJ10.out; have := HK3.out; omega
             case rel => exact ⟨(y266), (t260), (by first | rfl | (simp; done) | (simp [*]; done)), H', ⟨by have := HJ4.out; have := HJ10.out; have := HK3.out; omega⟩, ⟨by (with_reducible repeat (first | apply Kd.R_alloc | apply Kd.R_drewN | apply Kd.R_drew)); exact Kd.R_mono HO268.out (fun _ hk => trivial)⟩, ⟨by repeat (first | (with_reducible first | exact HB.out | apply below_alloc | apply pw_below_drewN | apply below_drew1 | refine below_set ?_ GE262.out) | exact HB.out)⟩⟩
            ·
             rw [if_neg c24] at H
             exact absurd H (by simp)
          ·
           rw [if_neg c15] at H
           exact absurd H (by simp)
         ·
          rw [if_neg c14] at H
          exact absurd H (by simp)
        ·
         rw [if_neg c13] at H
         have c13b0 : decide (x9_3 < t252) = false := decide_eq_false c13
         clear c13
         obtain rfl := Option.some.inj H
         go_wp2
         go_ret
         exact ⟨_, by first | rfl | (simp [errW_none, errW_some] <;> rfl) | (simp [*, errW_none, errW_some] <;> rfl), by (with_reducible repeat (first | apply Kd.R_alloc | apply Kd.R_drewN | apply Kd.R_drew)); exact HO_8.out, by repeat (first | (with_reducible first | exact HB.out | apply below_alloc | apply pw_below_drewN | apply below_drew1) | exact HB.out)⟩


/-! ### parquetryref06_Same: function 29 -/
def parquetryref06_Same.l0 : Nat → List (S39) → List (S39) → Int → Option (Bool)
 | 0, _, _, _ => none
 | k + 1, x0, x1, x5 => if x5 < (x0.length : Int) then (if 0 ≤ x5 then (if x5 < (x1.length : Int) then (if (!(((rd_T39 x0 x5).f0) == ((rd_T39 x1 x5).f0)) || (!(((rd_T39 x0 x5).f1) == ((rd_T39 x1 x5).f1)) || (!(((rd_T39 x0 x5).f2) == ((rd_T39 x1 x5).f2)) || (!(((rd_T39 x0 x5).f3) == ((rd_T39 x1 x5).f3)) || (!(((rd_T39 x0 x5).f4) == ((rd_T39 x1 x5).f4)) || (!(((rd_T39 x0 x5).f5) == ((rd_T39 x1 x5).f5)))))))) = true then (some false) else (parquetryref06_Same.l0 k x0 x1 (wrap64 (x5 + 1)))) else (none)) else (none)) else (some true)
def parquetryref06_Same.f (k : Nat) (l0 : List (S39)) (l1 : List (S39)) : Option (Bool) := if (l0.length : Int) = (l1.length : Int) then (parquetryref06_Same.l0 k l0 l1 0) else (some false)
theorem parquetryref06_Same.mono_l : ∀ k, (∀ y0 y1 y2, LeO (parquetryref06_Same.l0 k y0 y1 y2) (parquetryref06_Same.l0 (k + 1) y0 y1 y2))
 | 0 => fun _ _ _ r h => by simp [parquetryref06_Same.l0] at h
 | k + 1 => by
  have ih0 := parquetryref06_Same.mono_l k
  ·
   intro y0 y1 y2
   unfold parquetryref06_Same.l0
   repeat' first
   | (with_reducible exact ih0 _ _ _)
   | (with_reducible exact LeO.refl _)
   | (with_reducible exact LeO.none _)
   | (with_reducible refine LeO.ite ?_ ?_)
   | (with_reducible refine LeO.bind ?_ (fun _ => ?_))
   | exact ih0 _ _ _
   | exact LeO.none _
   | refine LeO.ite ?_ ?_
   | refine LeO.bind ?_ (fun _ => ?_)
theorem parquetryref06_Same.mono : ∀ a0 a1 k, LeO (parquetryref06_Same.f k a0 a1) (parquetryref06_Same.f (k + 1) a0 a1) := by
 intro a0 a1 k
 have ih0 := parquetryref06_Same.mono_l k
 unfold parquetryref06_Same.f
 repeat' first
   | (with_reducible exact ih0 _ _ _)
   | (with_reducible exact LeO.refl _)
   | (with_reducible exact LeO.none _)
   | (with_reducible refine LeO.ite ?_ ?_)
   | (with_reducible refine LeO.bind ?_ (fun _ => ?_))
   | exact ih0 _ _ _
   | exact LeO.none _
   | refine LeO.ite ?_ ?_
   | refine LeO.bind ?_ (fun _ => ?_)
set_option maxHeartbeats 8000000 in
set_option maxRecDepth 100000 in
theorem parquetryref06_Same.calls (k : Nat) (A0 : Option Addr) (c0 : Nat) (l0 : List (S39)) (A1 : Option Addr) (c1 : Nat) (l1 : List (S39)) (r : Bool) (w : World) (hr0 : Kd.C k39 w A0 l0.length l0) (hc0 : l0.length ≤ c0) (hr1 : Kd.C k39 w A1 l1.length l1) (hc1 : l1.length ≤ c1) (h : parquetryref06_Same.f k l0 l1 = some r) :
  Calls Try.prog 29 #[.slice A0 l0.length c0, .slice A1 l1.length c1] w fun e w' => e = .returned (.bool r) ∧ Drawn0 w w' := by
 have hu39 := Try.underlying39
 have HR0 := Aside0.mk hr0
 have HC0 := Aside0.mk hc0
 clear hr0 hc0
 have HR1 := Aside0.mk hr1
 have HC1 := Aside0.mk hc1
 clear hr1 hc1
 have H : (if (l0.length : Int) = (l1.length : Int) then (parquetryref06_Same.l0 k l0 l1 0) else (some false)) = some r := h
 clear h
 by_cases c3 : (l0.length : Int) = (l1.length : Int)
 ·
  rw [if_pos c3] at H
  have c3b0 : ((l0.length : Int) == (l1.length : Int)) = true := beq_iff_eq.mpr c3
  have c3b1 : ((l0.length : Int) != (l1.length : Int)) = false := bne_eq_false_iff_eq.mpr c3
  have c3b2 : (l0.length == l1.length) = true := by first | simpa using c3 | (simp at c3 ⊢; omega)
  clear c3
  have H' := Aside0.mk H
  clear H
  go_enter Try.func29, Try.ntmps29
  go_wp2
  repeat (go_quiet (fail); try go_wp2)
  go_loopg [5] k (fun kq v5 w' => ∃ (x5_1 : Int), v5 = .int .i64 x5_1 ∧ Aside0 (parquetryref06_Same.l0 kq l0 l1 x5_1 = some r) ∧ Aside0 (kq ≤ k) ∧ Drawn0 w w')
  case atStart => exact ⟨(0), (by first | rfl | (simp; done) | (simp [*]; done)), H', ⟨Nat.le_refl _⟩, by repeat (first | exact Drawn0.refl _ | apply Drawn0.step)⟩
  case round =>
   clear H'
   try clear c1
   try clear c2
   try clear p2
   try clear c3
   try clear c3b0
   try clear c3b1
   try clear c3b2
   obtain ⟨x5_1, rfl, HA, HK1, ⟨m1, rfl⟩⟩ := hrel
   cases gk with
   | zero => exact absurd HA.out (by simp [parquetryref06_Same.l0])
   | succ k1 =>
    have H := HA.out
    clear HA
    simp only [parquetryref06_Same.l0] at H
    by_cases c4 : x5_1 < (l0.length : Int)
    ·
     rw [if_pos c4] at H
     have c4b0 : decide (x5_1 < (l0.length : Int)) = true := decide_eq_true c4
     clear c4
     by_cases c5 : 0 ≤ x5_1
     ·
      rw [if_pos c5] at H
      have c5b0 : decide (0 ≤ x5_1) = true := decide_eq_true c5
      clear c5
      by_cases c6 : x5_1 < (l1.length : Int)
      ·
       rw [if_pos c6] at H
       have c6b0 : decide (x5_1 < (l1.length : Int)) = true := decide_eq_true c6
       clear c6
       by_cases c7 : (!(((rd_T39 l0 x5_1).f0) == ((rd_T39 l1 x5_1).f0)) || (!(((rd_T39 l0 x5_1).f1) == ((rd_T39 l1 x5_1).f1)) || (!(((rd_T39 l0 x5_1).f2) == ((rd_T39 l1 x5_1).f2)) || (!(((rd_T39 l0 x5_1).f3) == ((rd_T39 l1 x5_1).f3)) || (!(((rd_T39 l0 x5_1).f4) == ((rd_T39 l1 x5_1).f4)) || (!(((rd_T39 l0 x5_1).f5) == ((rd_T39 l1 x5_1).f5)))))))) = true
       ·
        rw [if_pos c7] at H
        have c7b0 : (!(((rd_T39 l0 x5_1).f0) == ((rd_T39 l1 x5_1).f0)) || (!(((rd_T39 l0 x5_1).f1) == ((rd_T39 l1 x5_1).f1)) || (!(((rd_T39 l0 x5_1).f2) == ((rd_T39 l1 x5_1).f2)) || (!(((rd_T39 l0 x5_1).f3) == ((rd_T39 l1 x5_1).f3)) || (!(((rd_T39 l0 x5_1).f4) == ((rd_T39 l1 x5_1).f4)) || (!(((rd_T39 l0 x5_1).f5) == ((rd_T39 l1 x5_1).f5)))))))) = true := c7
        clear c7
        obtain rfl := Option.some.inj H
        have p252 : 0 ≤ (x5_1 : Int) := of_decide_eq_true (by first | (with_reducible assumption) | assumption)
        have q252 : x5_1 < (l0.length : Int) := of_decide_eq_true (by first | (with_reducible assumption) | assumption)
        obtain ⟨ad252, e252, hx252_0, hx252_1, hx252_2, hx252_3, hx252_4, hx252_5⟩ := at_T39 HR0.out x5_1 p252 q252
        cases e252
        replace p252 := eq_true p252
        replace q252 := eq_true q252
        have p253 : 0 ≤ (x5_1 : Int) := of_decide_eq_true (by first | (with_reducible assumption) | assumption)
        have q253 : x5_1 < (l1.length : Int) := of_decide_eq_true (by first | (with_reducible assumption) | assumption)
        obtain ⟨ad253, e253, hx253_0, hx253_1, hx253_2, hx253_3, hx253_4, hx253_5⟩ := at_T39 HR1.out x5_1 p253 q253
        cases e253
        replace p253 := eq_true p253
        replace q253 := eq_true q253
        go_wp2
        repeat (go_quiet (fail); try go_wp2)
        go_ret
        exact ⟨by first | rfl | (simp; done) | (simp [*]; done), by repeat (first | exact Drawn0.refl _ | apply Drawn0.step)⟩
       ·
        rw [if_neg c7] at H
        have c7b0 : (!(((rd_T39 l0 x5_1).f0) == ((rd_T39 l1 x5_1).f0)) || (!(((rd_T39 l0 x5_1).f1) == ((rd_T39 l1 x5_1).f1)) || (!(((rd_T39 l0 x5_1).f2) == ((rd_T39 l1 x5_1).f2)) || (!(((rd_T39 l0 x5_1).f3) == ((rd_T39 l1 x5_1).f3)) || (!(((rd_T39 l0 x5_1).f4) == ((rd_T39 l1 x5_1).f4)) || (!(((rd_T39 l0 x5_1).f5) == ((rd_T39 l1 x5_1).f5)))))))) = false := by simpa using c7
        clear c7
        have H' := Aside0.mk H
        clear H
        have p252 : 0 ≤ (x5_1 : Int) := of_decide_eq_true (by first | (with_reducible assumption) | assumption)
        have q252 : x5_1 < (l0.length : Int) := of_decide_eq_true (by first | (with_reducible assumption) | assumption)
        obtain ⟨ad252, e252, hx252_0, hx252_1, hx252_2, hx252_3, hx252_4, hx252_5⟩ := at_T39 HR0.out x5_1 p252 q252
        cases e252
        replace p252 := eq_true p252
        replace q252 := eq_true q252
        have p253 : 0 ≤ (x5_1 : Int) := of_decide_eq_true (by first | (with_reducible assumption) | assumption)
        have q253 : x5_1 < (l1.length : Int) := of_decide_eq_true (by first | (with_reducible assumption) | assumption)
        obtain ⟨ad253, e253, hx253_0, hx253_1, hx253_2, hx253_3, hx253_4, hx253_5⟩ := at_T39 HR1.out x5_1 p253 q253
        cases e253
        replace p253 := eq_true p253
        replace q253 := eq_true q253
        go_wp2
        repeat (go_quiet (fail); try go_wp2)
        go_roundg k1
        case measure => have := HK1.out; omega
        case rel => exact ⟨(wrap64 (x5_1 + 1)), (by first | rfl | (simp; done) | (simp [*]; done)), H', ⟨by have := HK1.out; omega⟩, by repeat (first | exact Drawn0.refl _ | apply Drawn0.step)⟩
      ·
       rw [if_neg c6] at H
       exact absurd H (by simp)
     ·
      rw [if_neg c5] at H
      exact absurd H (by simp)
    ·
     rw [if_neg c4] at H
     have c4b0 : decide (x5_1 < (l0.length : Int)) = false := decide_eq_false c4
     clear c4
     obtain rfl := Option.some.inj H
     go_wp2
     repeat (go_quiet (fail); try go_wp2)
     go_ret
     exact ⟨by first | rfl | (simp; done) | (simp [*]; done), by repeat (first | exact Drawn0.refl _ | apply Drawn0.step)⟩
 ·
  rw [if_neg c3] at H
  have c3b0 : ((l0.length : Int) == (l1.length : Int)) = false := beq_eq_false_iff_ne.mpr c3
  have c3b1 : ((l0.length : Int) != (l1.length : Int)) = true := bne_iff_ne.mpr c3
  have c3b2 : (l0.length == l1.length) = false := by first | simpa using c3 | (simp at c3 ⊢; omega)
  obtain rfl := Option.some.inj H
  go_enter Try.func29, Try.ntmps29
  go_wp2
  repeat (go_quiet (fail); try go_wp2)
  go_ret
  exact ⟨by first | rfl | (simp; done) | (simp [*]; done), by repeat (first | exact Drawn0.refl _ | apply Drawn0.step)⟩

end Go.Proofs.Ytieffcjbbhigbaa.PC17
