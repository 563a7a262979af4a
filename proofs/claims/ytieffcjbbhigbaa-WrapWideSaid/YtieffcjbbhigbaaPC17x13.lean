/- For the laws of the group C17: the Lean functions that the Go functions compute, and proofs that they do. Written by wip/hprint.py of this repo over the kit's printer; nothing here is trusted: Lean checks it. -/
import Derived.Test.YtieffcjbbhigbaaPC17x0
namespace Go.Proofs.Ytieffcjbbhigbaa.PC17
open Go.RowKit Go.Proofs.YtieffcjbbhigbaaW.PrintWords Go.Proofs.YtieffcjbbhigbaaW.PrintLast Go.Proofs.YtieffcjbbhigbaaW.PrintMore
attribute [local go_sem] max2_int min2_int max_two min_two max_three min_three max_four min_four   -- for this text's walks alone
set_option linter.unusedVariables false
set_option linter.unusedSimpArgs false

/-! ### parquetryref17_More: function 16 -/
def parquetryref17_More.l0 : Nat → List (S39) → Int → Int → Option (Bool)
 | 0, _, _, _ => none
 | k + 1, x0, x1, x5 => if x5 < (x0.length : Int) then (if 0 ≤ x5 then (if (mx ((rd_T39 x0 x5).f4) 0) > x1 then (some true) else (parquetryref17_More.l0 k x0 (wrap64 (x1 - (mx ((rd_T39 x0 x5).f4) 0))) (wrap64 (x5 + 1)))) else (none)) else (some false)
def parquetryref17_More.f (k : Nat) (l0 : List (S39)) (a1 : Int) : Option (Bool) := parquetryref17_More.l0 k l0 a1 0
theorem parquetryref17_More.mono_l : ∀ k, (∀ y0 y1 y2, LeO (parquetryref17_More.l0 k y0 y1 y2) (parquetryref17_More.l0 (k + 1) y0 y1 y2))
 | 0 => fun _ _ _ r h => by simp [parquetryref17_More.l0] at h
 | k + 1 => by
  have ih0 := parquetryref17_More.mono_l k
  ·
   intro y0 y1 y2
   unfold parquetryref17_More.l0
   repeat' first
   | (with_reducible exact ih0 _ _ _)
   | (with_reducible exact LeO.refl _)
   | (with_reducible exact LeO.none _)
   | (with_reducible refine LeO.ite ?_ ?_)
   | (with_reducible refine LeO.bind ?_ (fun _ => ?_))
   | exact ih0 _ _ _
   | exact LeO.none _
   | refine LeO.ite ?_ ?_
   | refine LeO.bind ?_ (fun _ => ?_)
theorem parquetryref17_More.mono : ∀ a0 a1 k, LeO (parquetryref17_More.f k a0 a1) (parquetryref17_More.f (k + 1) a0 a1) := by
 intro a0 a1 k
 have ih0 := parquetryref17_More.mono_l k
 unfold parquetryref17_More.f
 repeat' first
   | (with_reducible exact ih0 _ _ _)
   | (with_reducible exact LeO.refl _)
   | (with_reducible exact LeO.none _)
   | (with_reducible refine LeO.ite ?_ ?_)
   | (with_reducible refine LeO.bind ?_ (fun _ => ?_))
   | exact ih0 _ _ _
   | exact LeO.none _
   | refine LeO.ite ?_ ?_
   | refine LeO.bind ?_ (fun _ => ?_)
set_option maxHeartbeats 8000000 in
set_option maxRecDepth 100000 in
theorem parquetryref17_More.calls (k : Nat) (A0 : Option Addr) (c0 : Nat) (l0 : List (S39)) (a1 : Int) (r : Bool) (w : World) (hr0 : Kd.C k39 w A0 l0.length l0) (hc0 : l0.length ≤ c0) (h : parquetryref17_More.f k l0 a1 = some r) :
  Calls Try.prog 16 #[.slice A0 l0.length c0, .int .i64 a1] w fun e w' => e = .returned (.bool r) ∧ Below w.heap.size w w' := by
 have HR0 := Aside0.mk hr0
 have HC0 := Aside0.mk hc0
 clear hr0 hc0
 have HB := Aside0.mk (Below.refl w.heap.size w)
 have H : (parquetryref17_More.l0 k l0 a1 0) = some r := h
 clear h
 have H' := Aside0.mk H
 clear H
 go_enter Try.func16, Try.ntmps16
 go_wp2
 go_loopg [1, 5] k (fun kq v1 v5 w' => ∃ (x1_1 : Int) (x5_1 : Int), v1 = .int .i64 x1_1 ∧ v5 = .int .i64 x5_1 ∧ Aside0 (parquetryref17_More.l0 kq l0 x1_1 x5_1 = some r) ∧ Aside0 (kq ≤ k) ∧ Aside0 (Below w.heap.size w w'))
 case atStart => exact ⟨(a1), (0), (by first | rfl | (simp; done) | (simp [*]; done)), (by first | rfl | (simp; done) | (simp [*]; done)), H', ⟨Nat.le_refl _⟩, ⟨by repeat (first | (with_reducible first | exact HB.out | apply below_alloc | apply pw_below_drewN | apply below_drew1) | exact HB.out)⟩⟩
 case round =>
  clear H'
  try clear c1
  try clear p2
  obtain ⟨x1_1, x5_1, rfl, rfl, HA, HK1, HB⟩ := hrel
  cases gk with
  | zero => exact absurd HA.out (by simp [parquetryref17_More.l0])
  | succ k1 =>
   have H := HA.out
   clear HA
   simp only [parquetryref17_More.l0] at H
   by_cases c3 : x5_1 < (l0.length : Int)
   ·
    rw [if_pos c3] at H
    have c3b0 : decide (x5_1 < (l0.length : Int)) = true := decide_eq_true c3
    clear c3
    by_cases c4 : 0 ≤ x5_1
    ·
     rw [if_pos c4] at H
     have c4b0 : decide (0 ≤ x5_1) = true := decide_eq_true c4
     clear c4
     obtain ⟨ji5, hji5⟩ : ∃ j_ : Int, (mx ((rd_T39 l0 x5_1).f4) 0) = j_ := ⟨_, rfl⟩
     replace H : (if (ji5) > x1_1 then (some true) else (parquetryref17_More.l0 k1 l0 (wrap64 (x1_1 - (ji5))) (wrap64 (x5_1 + 1)))) = some r := by first | (rw [hji5] at H; exact H) | (simp only [hji5] at H ⊢; exact H)
     have hji5_ : (if ((rd_T39 l0 x5_1).f4) < 0 then 0 else ((rd_T39 l0 x5_1).f4)) = ji5 := hji5
     by_cases c6 : (ji5) > x1_1
     ·
      rw [if_pos c6] at H
      have c6b0 : decide (x1_1 < (ji5)) = true := decide_eq_true c6
      clear c6
      obtain rfl := Option.some.inj H
      have p224 : 0 ≤ (x5_1 : Int) := of_decide_eq_true (by first | (with_reducible assumption) | assumption)
      have q224 : x5_1 < (l0.length : Int) := of_decide_eq_true (by first | (with_reducible assumption) | assumption)
      obtain ⟨ad224, e224, hx224_0, hx224_1, hx224_2, hx224_3, hx224_4, hx224_5⟩ := at_T39 HR0.out x5_1 p224 q224
      cases e224
      replace hx224_0 := (HB.out.cell (World.block_lt_of_cell? w _ hx224_0)).trans hx224_0
      replace hx224_1 := (HB.out.cell (World.block_lt_of_cell? w _ hx224_1)).trans hx224_1
      replace hx224_2 := (HB.out.cell (World.block_lt_of_cell? w _ hx224_2)).trans hx224_2
      replace hx224_3 := (HB.out.cell (World.block_lt_of_cell? w _ hx224_3)).trans hx224_3
      replace hx224_4 := (HB.out.cell (World.block_lt_of_cell? w _ hx224_4)).trans hx224_4
      replace hx224_5 := (HB.out.cell (World.block_lt_of_cell? w _ hx224_5)).trans hx224_5
      replace p224 := eq_true p224
      replace q224 := eq_true q224
      go_wp2
      go_ret
      exact ⟨by first | rfl | (simp [errW_none, errW_some] <;> rfl) | (simp only [← hji5]; first | rfl | (simp [errW_none, errW_some] <;> rfl)) | (simp [*, errW_none, errW_some] <;> rfl), by repeat (first | (with_reducible first | exact HB.out | apply below_alloc | apply pw_below_drewN | apply below_drew1) | exact HB.out)⟩
     ·
      rw [if_neg c6] at H
      have c6b0 : decide (x1_1 < (ji5)) = false := decide_eq_false c6
      clear c6
      have H' := Aside0.mk H
      clear H
      have p224 : 0 ≤ (x5_1 : Int) := of_decide_eq_true (by first | (with_reducible assumption) | assumption)
      have q224 : x5_1 < (l0.length : Int) := of_decide_eq_true (by first | (with_reducible assumption) | assumption)
      obtain ⟨ad224, e224, hx224_0, hx224_1, hx224_2, hx224_3, hx224_4, hx224_5⟩ := at_T39 HR0.out x5_1 p224 q224
      cases e224
      replace hx224_0 := (HB.out.cell (World.block_lt_of_cell? w _ hx224_0)).trans hx224_0
      replace hx224_1 := (HB.out.cell (World.block_lt_of_cell? w _ hx224_1)).trans hx224_1
      replace hx224_2 := (HB.out.cell (World.block_lt_of_cell? w _ hx224_2)).trans hx224_2
      replace hx224_3 := (HB.out.cell (World.block_lt_of_cell? w _ hx224_3)).trans hx224_3
      replace hx224_4 := (HB.out.cell (World.block_lt_of_cell? w _ hx224_4)).trans hx224_4
      replace hx224_5 := (HB.out.cell (World.block_lt_of_cell? w _ hx224_5)).trans hx224_5
      replace p224 := eq_true p224
      replace q224 := eq_true q224
      go_wp2
      go_roundg k1
      case measure => have := HK1.out; omega
      case rel => exact ⟨(wrap64 (x1_1 - (ji5))), (wrap64 (x5_1 + 1)), (by first | rfl | (simp; done) | (simp only [← hji5] <;> (first | rfl | simp)) | (simp [*]; done)), (by first | rfl | (simp; done) | (simp [*]; done)), H', ⟨by have := HK1.out; omega⟩, ⟨by repeat (first | (with_reducible first | exact HB.out | apply below_alloc | apply pw_below_drewN | apply below_drew1) | exact HB.out)⟩⟩
    ·
     rw [if_neg c4] at H
     exact absurd H (by simp)
   ·
    rw [if_neg c3] at H
    have c3b0 : decide (x5_1 < (l0.length : Int)) = false := decide_eq_false c3
    clear c3
    obtain rfl := Option.some.inj H
    go_wp2
    go_ret
    exact ⟨by first | rfl | (simp [errW_none, errW_some] <;> rfl) | (simp [*, errW_none, errW_some] <;> rfl), by repeat (first | (with_reducible first | exact HB.out | apply below_alloc | apply pw_below_drewN | apply below_drew1) | exact HB.out)⟩

/-! ### parquetryref17_Fits: function 25 -/
mutual
def parquetryref17_Fits.j0 : Nat → List (S39) → Int → Int → Option (Int)
 | 0, _, _, _ => none
 | k + 1, x0, x1, x2 => if x1 ≥ (x0.length : Int) then (some (x0.length : Int)) else (parquetryref17_Fits.l0 k x0 x1 x2 x1)
def parquetryref17_Fits.l0 : Nat → List (S39) → Int → Int → Int → Option (Int)
 | 0, _, _, _, _ => none
 | k + 1, x0, x1, x2, x7 => if x7 < (x0.length : Int) then (if 0 ≤ x1 then (if x1 ≤ (wrap64 (x7 + 1)) then (if (wrap64 (x7 + 1)) ≤ (x0.length : Int) then ((parquetryref17_More.f k ((x0.take ((wrap64 (x7 + 1)) : Int).toNat).drop (x1 : Int).toNat) x2).bind fun t229 => (if t229 = true then (some x7) else (parquetryref17_Fits.l0 k x0 x1 x2 (wrap64 (x7 + 1))))) else (none)) else (none)) else (none)) else (some x7)
end
def parquetryref17_Fits.f (k : Nat) (l0 : List (S39)) (a1 : Int) (a2 : Int) : Option (Int) := if a1 < 0 then (parquetryref17_Fits.j0 k l0 0 a2) else (parquetryref17_Fits.j0 k l0 a1 a2)
theorem parquetryref17_Fits.mono_l : ∀ k, (∀ y0 y1 y2, LeO (parquetryref17_Fits.j0 k y0 y1 y2) (parquetryref17_Fits.j0 (k + 1) y0 y1 y2)) ∧ (∀ y0 y1 y2 y3, LeO (parquetryref17_Fits.l0 k y0 y1 y2 y3) (parquetryref17_Fits.l0 (k + 1) y0 y1 y2 y3))
 | 0 => ⟨fun _ _ _ r h => by simp [parquetryref17_Fits.j0] at h, fun _ _ _ _ r h => by simp [parquetryref17_Fits.l0] at h⟩
 | k + 1 => by
  obtain ⟨ih0, ih1⟩ := parquetryref17_Fits.mono_l k
  refine ⟨?_, ?_⟩
  ·
   intro y0 y1 y2
   unfold parquetryref17_Fits.j0
   repeat' first
   | (with_reducible exact ih0 _ _ _)
   | (with_reducible exact ih1 _ _ _ _)
   | (with_reducible exact parquetryref17_More.mono _ _ _)
   | (with_reducible exact LeO.refl _)
   | (with_reducible exact LeO.none _)
   | (with_reducible refine LeO.ite ?_ ?_)
   | (with_reducible refine LeO.bind ?_ (fun _ => ?_))
   | exact ih0 _ _ _
   | exact ih1 _ _ _ _
   | exact parquetryref17_More.mono _ _ _
   | exact LeO.none _
   | refine LeO.ite ?_ ?_
   | refine LeO.bind ?_ (fun _ => ?_)
  ·
   intro y0 y1 y2 y3
   unfold parquetryref17_Fits.l0
   repeat' first
   | (with_reducible exact ih0 _ _ _)
   | (with_reducible exact ih1 _ _ _ _)
   | (with_reducible exact parquetryref17_More.mono _ _ _)
   | (with_reducible exact LeO.refl _)
   | (with_reducible exact LeO.none _)
   | (with_reducible refine LeO.ite ?_ ?_)
   | (with_reducible refine LeO.bind ?_ (fun _ => ?_))
   | exact ih0 _ _ _
   | exact ih1 _ _ _ _
   | exact parquetryref17_More.mono _ _ _
   | exact LeO.none _
   | refine LeO.ite ?_ ?_
   | refine LeO.bind ?_ (fun _ => ?_)
theorem parquetryref17_Fits.mono : ∀ a0 a1 a2 k, LeO (parquetryref17_Fits.f k a0 a1 a2) (parquetryref17_Fits.f (k + 1) a0 a1 a2) := by
 intro a0 a1 a2 k
 obtain ⟨ih0, ih1⟩ := parquetryref17_Fits.mono_l k
 unfold parquetryref17_Fits.f
 repeat' first
   | (with_reducible exact ih0 _ _ _)
   | (with_reducible exact ih1 _ _ _ _)
   | (with_reducible exact parquetryref17_More.mono _ _ _)
   | (with_reducible exact LeO.refl _)
   | (with_reducible exact LeO.none _)
   | (with_reducible refine LeO.ite ?_ ?_)
   | (with_reducible refine LeO.bind ?_ (fun _ => ?_))
   | exact ih0 _ _ _
   | exact ih1 _ _ _ _
   | exact parquetryref17_More.mono _ _ _
   | exact LeO.none _
   | refine LeO.ite ?_ ?_
   | refine LeO.bind ?_ (fun _ => ?_)
set_option maxHeartbeats 8000000 in
set_option maxRecDepth 100000 in
theorem parquetryref17_Fits.calls (k : Nat) (A0 : Option Addr) (c0 : Nat) (l0 : List (S39)) (a1 : Int) (a2 : Int) (r : Int) (w : World) (hr0 : Kd.C k39 w A0 l0.length l0) (hc0 : l0.length ≤ c0) (h : parquetryref17_Fits.f k l0 a1 a2 = some r) :
  Calls Try.prog 25 #[.slice A0 l0.length c0, .int .i64 a1, .int .i64 a2] w fun e w' => e = .returned (.int .i64 r) ∧ Below w.heap.size w w' := by
 have HR0 := Aside0.mk hr0
 have HC0 := Aside0.mk hc0
 clear hr0 hc0
 have HB := Aside0.mk (Below.refl w.heap.size w)
 have H : (if a1 < 0 then (parquetryref17_Fits.j0 k l0 0 a2) else (parquetryref17_Fits.j0 k l0 a1 a2)) = some r := h
 clear h
 have HC4 := Aside0.mk H
 clear H
 go_enter Try.func25, Try.ntmps25
 go_upto_if 9 with (fail)
 go_cut [1] (fun v1 wc => ∃ (kq : Nat) (x1_3 : Int), v1 = .int .i64 x1_3 ∧ Aside0 (parquetryref17_Fits.j0 kq l0 x1_3 a2 = some r) ∧ Aside0 (kq ≤ k) ∧ Aside0 (Below w.heap.size w wc))
 case first =>
  have H := HC4.out
  clear HC4
  by_cases c5 : a1 < 0
  ·
   rw [if_pos c5] at H
   have c5b0 : decide (a1 < 0) = true := decide_eq_true c5
   clear c5
   (first | rw [c5b0] | (simp only [i64_w, i32_w]; rw [c5b0]) | skip)
   have H' := Aside0.mk H
   clear H
   go_wp2
   go_meet
   case rel => exact ⟨_, (0), (by first | rfl | (simp; done) | (simp [*]; done)), H', ⟨by first | omega | exact Nat.le_refl _⟩, ⟨by repeat (first | (with_reducible first | exact HB.out | apply below_alloc | apply pw_below_drewN | apply below_drew1) | exact HB.out)⟩⟩
  ·
   rw [if_neg c5] at H
   have c5b0 : decide (a1 < 0) = false := decide_eq_false c5
   clear c5
   (first | rw [c5b0] | (simp only [i64_w, i32_w]; rw [c5b0]) | skip)
   have H' := Aside0.mk H
   clear H
   go_wp2
   go_meet
   case rel => exact ⟨_, (a1), (by first | rfl | (simp; done) | (simp [*]; done)), H', ⟨by first | omega | exact Nat.le_refl _⟩, ⟨by repeat (first | (with_reducible first | exact HB.out | apply below_alloc | apply pw_below_drewN | apply below_drew1) | exact HB.out)⟩⟩
 case rest =>
  clear HC4
  try clear c2
  try clear p2
  try clear c5
  try clear c5b0
  obtain ⟨kq, x1_3, rfl, HA, HJ3, HB⟩ := hcut
  cases kq with
  | zero => exact absurd HA.out (by simp [parquetryref17_Fits.j0])
  | succ kj3 =>
   have H := HA.out
   clear HA
   simp only [parquetryref17_Fits.j0] at H
   by_cases c6 : x1_3 ≥ (l0.length : Int)
   ·
    rw [if_pos c6] at H
    have c6b0 : decide ((l0.length : Int) ≤ x1_3) = true := decide_eq_true c6
    clear c6
    obtain rfl := Option.some.inj H
    go_wp2
    go_ret
    exact ⟨by first | rfl | (simp [errW_none, errW_some] <;> rfl) | (simp [*, errW_none, errW_some] <;> rfl), by repeat (first | (with_reducible first | exact HB.out | apply below_alloc | apply pw_below_drewN | apply below_drew1) | exact HB.out)⟩
   ·
    rw [if_neg c6] at H
    have c6b0 : decide ((l0.length : Int) ≤ x1_3) = false := decide_eq_false c6
    clear c6
    have H' := Aside0.mk H
    clear H
    go_wp2
    go_loopg [7] kj3 (fun kq v7 w' => ∃ (x7_2 : Int), v7 = .int .i64 x7_2 ∧ Aside0 (parquetryref17_Fits.l0 kq l0 x1_3 a2 x7_2 = some r) ∧ Aside0 (kq ≤ kj3) ∧ Aside0 (Below w.heap.size w w'))
    case atStart => exact ⟨(x1_3), (by first | rfl | (simp; done) | (simp [*]; done)), H', ⟨Nat.le_refl _⟩, ⟨by repeat (first | (with_reducible first | exact HB.out | apply below_alloc | apply pw_below_drewN | apply below_drew1) | exact HB.out)⟩⟩
    case round =>
     clear H'
     try clear c6
     try clear c6b0
     obtain ⟨x7_2, rfl, HA, HK2, HB⟩ := hrel
     cases gk with
     | zero => exact absurd HA.out (by simp [parquetryref17_Fits.l0])
     | succ k2 =>
      have H := HA.out
      clear HA
      simp only [parquetryref17_Fits.l0] at H
      by_cases c7 : x7_2 < (l0.length : Int)
      ·
       rw [if_pos c7] at H
       have c7b0 : decide (x7_2 < (l0.length : Int)) = true := decide_eq_true c7
       clear c7
       by_cases c8 : 0 ≤ x1_3
       ·
        rw [if_pos c8] at H
        have c8b0 := eq_true c8
        have c8b1 : decide (0 ≤ x1_3) = true := decide_eq_true c8
        clear c8
        by_cases c9 : x1_3 ≤ (wrap64 (x7_2 + 1))
        ·
         rw [if_pos c9] at H
         have c9b0 := eq_true c9
         have c9b1 : decide (x1_3 ≤ (wrap64 (x7_2 + 1))) = true := decide_eq_true c9
         by_cases c10 : (wrap64 (x7_2 + 1)) ≤ (l0.length : Int)
         ·
          rw [if_pos c10] at H
          have c10b0 := eq_true c10
          have c10b1 : decide ((wrap64 (x7_2 + 1)) ≤ (l0.length : Int)) = true := decide_eq_true c10
          obtain ⟨y225, hy225⟩ : ∃ y_ : List (S39), y_ = ((l0.take ((wrap64 (x7_2 + 1)) : Int).toNat).drop (x1_3 : Int).toNat) := ⟨_, rfl⟩
          replace H : ((parquetryref17_More.f k2 y225 a2).bind fun t229 => (if t229 = true then (some x7_2) else (parquetryref17_Fits.l0 k2 l0 x1_3 a2 (wrap64 (x7_2 + 1))))) = some r := by first | (rw [hy225]; with_reducible exact H) | (have H2_ := (Option.bind_some _ _).symm.trans H; rw [hy225]; with_reducible exact H2_) | (have H2_ := (Option.bind_some _ _).symm.trans H; with_reducible exact H2_) | with_reducible exact H | (rw [hy225]; exact H) | exact H
          have Ny225 := Aside0.mk hy225
          clear hy225
          replace H := Option.bind_eq_some_iff.mp H
          obtain ⟨t229, A110, H⟩ := H
          replace H : (if t229 = true then (some x7_2) else (parquetryref17_Fits.l0 k2 l0 x1_3 a2 (wrap64 (x7_2 + 1)))) = some r := H
          have A11 := Aside0.mk A110
          clear A110
          by_cases c12 : t229 = true
          ·
           subst c12
           have H1 : (some x7_2) = some r := by rw [if_pos rfl] at H; exact H
           clear H
           have H := H1
           clear H1
           obtain rfl := Option.some.inj H
           have q13 : ((wrap64 (x7_2 + 1)) : Int) ≤ ((l0.length : Int) : Int) := of_decide_eq_true (by first | (with_reducible assumption) | assumption)
           obtain ⟨i013, hi013, _, hsz13, _⟩ := info_parts info39
           have hroom13 : l0.length ≤ c0 := HC0.out
           have hC13 : Kd.C k39 _ A0 l0.length l0 := HR0.out
           have ql13 : (x1_3 : Int) ≤ ((wrap64 (x7_2 + 1)) : Int) := of_decide_eq_true (by first | (with_reducible assumption) | assumption)
           have q013 : (0 : Int) ≤ (x1_3 : Int) := of_decide_eq_true (by first | (with_reducible assumption) | assumption)
           have hcut13 := cut_mid (P := Try.prog) 22 39 .i64 .i64 Try.underlying22 hi013 6 hsz13 A0 l0.length c0 x1_3 (wrap64 (x7_2 + 1)) q013 ql13 q13 hroom13
           have hr13 := Kd.C_mid (lo := (x1_3 : Int).toNat) (hi := ((wrap64 (x7_2 + 1)) : Int).toNat) (c := c0) hC13 (by omega) (by omega) hroom13
           obtain ⟨A13, hA13⟩ : ∃ A1, A1 = (if c0 = (x1_3 : Int).toNat then A0 else (A0 : Option Addr).map (·.add ((x1_3 : Int).toNat * 6))) := ⟨_, rfl⟩
           obtain ⟨c13, hc13⟩ : ∃ c1, c1 = c0 - (x1_3 : Int).toNat := ⟨_, rfl⟩
           have hy13 : y225.length = ((wrap64 (x7_2 + 1)) : Int).toNat - (x1_3 : Int).toNat := (by rw [Ny225.out, List.length_drop, List.length_take] <;> omega)
           rw [show ((l0).take ((wrap64 (x7_2 + 1)) : Int).toNat).drop (x1_3 : Int).toNat = y225 from Ny225.out.symm] at hr13
           replace hr13 : Kd.C k39 _ A13 y225.length y225 := (by rw [hA13]; exact hr13)
           rw [← hy13, ← hA13, ← hc13] at hcut13
           have HR228 := Aside0.mk hr13
           have HC228 := Aside0.mk (show y225.length ≤ c13 from by rw [hy13, hc13]; exact Nat.sub_le_sub_right (Nat.le_trans (by omega) hroom13) _)
           clear hr13 hC13 hroom13 hi013 hsz13 hc13
           have KY13 := Aside0.mk hy13
           have KA13 := Aside0.mk hA13
           clear hy13 hA13
           replace q13 := eq_true q13
           go_wp2_with (first | (go_at_call 16; (with_reducible refine (parquetryref17_More.calls k2 _ _ y225 a2 true _ ?side1 ?side2 A11.out).mono ?_); (case side1 => repeat (first | exact (Kd.C_below HR228.out HB.out) | (with_reducible refine Kd.C_alloc ?_ _) | (with_reducible refine Kd.C_drewN ?_ _) | (with_reducible refine Kd.C_drew ?_))); (case side2 => exact HC228.out); rintro e w14 ⟨rfl, hb⟩; have n0_ := Aside0.mk (below_step (by repeat (first | (with_reducible first | exact HB.out | apply below_alloc | apply pw_below_drewN | apply below_drew1) | exact HB.out)) hb); clear HB; have HB := n0_; clear n0_; (try clear hb); (try clear hb2); (try clear hk); (try clear hi)))
           go_ret
           exact ⟨by first | rfl | (simp [errW_none, errW_some] <;> rfl) | (simp [*, errW_none, errW_some] <;> rfl), by repeat (first | (with_reducible first | exact HB.out | apply below_alloc | apply pw_below_drewN | apply below_drew1) | exact HB.out)⟩
          ·
           replace c12 := Bool.eq_false_iff.mpr c12
           subst c12
           have H1 : (parquetryref17_Fits.l0 k2 l0 x1_3 a2 (wrap64 (x7_2 + 1))) = some r := by rw [if_neg (show ¬ (false = true) by decide)] at H; exact H
           clear H
           have H := H1
           clear H1
           have H' := Aside0.mk H
           clear H
           have q15 : ((wrap64 (x7_2 + 1)) : Int) ≤ ((l0.length : Int) : Int) := of_decide_eq_true (by first | (with_reducible assumption) | assumption)
           obtain ⟨i015, hi015, _, hsz15, _⟩ := info_parts info39
           have hroom15 : l0.length ≤ c0 := HC0.out
           have hC15 : Kd.C k39 _ A0 l0.length l0 := HR0.out
           have ql15 : (x1_3 : Int) ≤ ((wrap64 (x7_2 + 1)) : Int) := of_decide_eq_true (by first | (with_reducible assumption) | assumption)
           have q015 : (0 : Int) ≤ (x1_3 : Int) := of_decide_eq_true (by first | (with_reducible assumption) | assumption)
           have hcut15 := cut_mid (P := Try.prog) 22 39 .i64 .i64 Try.underlying22 hi015 6 hsz15 A0 l0.length c0 x1_3 (wrap64 (x7_2 + 1)) q015 ql15 q15 hroom15
           have hr15 := Kd.C_mid (lo := (x1_3 : Int).toNat) (hi := ((wrap64 (x7_2 + 1)) : Int).toNat) (c := c0) hC15 (by omega) (by omega) hroom15
           obtain ⟨A15, hA15⟩ : ∃ A1, A1 = (if c0 = (x1_3 : Int).toNat then A0 else (A0 : Option Addr).map (·.add ((x1_3 : Int).toNat * 6))) := ⟨_, rfl⟩
           obtain ⟨c15, hc15⟩ : ∃ c1, c1 = c0 - (x1_3 : Int).toNat := ⟨_, rfl⟩
           have hy15 : y225.length = ((wrap64 (x7_2 + 1)) : Int).toNat - (x1_3 : Int).toNat := (by rw [Ny225.out, List.length_drop, List.length_take] <;> omega)
           rw [show ((l0).take ((wrap64 (x7_2 + 1)) : Int).toNat).drop (x1_3 : Int).toNat = y225 from Ny225.out.symm] at hr15
           replace hr15 : Kd.C k39 _ A15 y225.length y225 := (by rw [hA15]; exact hr15)
           rw [← hy15, ← hA15, ← hc15] at hcut15
           have HR228 := Aside0.mk hr15
           have HC228 := Aside0.mk (show y225.length ≤ c15 from by rw [hy15, hc15]; exact Nat.sub_le_sub_right (Nat.le_trans (by omega) hroom15) _)
           clear hr15 hC15 hroom15 hi015 hsz15 hc15
           have KY15 := Aside0.mk hy15
           have KA15 := Aside0.mk hA15
           clear hy15 hA15
           replace q15 := eq_true q15
           go_wp2_with (first | (go_at_call 16; (with_reducible refine (parquetryref17_More.calls k2 _ _ y225 a2 false _ ?side1 ?side2 A11.out).mono ?_); (case side1 => repeat (first | exact (Kd.C_below HR228.out HB.out) | (with_reducible refine Kd.C_alloc ?_ _) | (with_reducible refine Kd.C_drewN ?_ _) | (with_reducible refine Kd.C_drew ?_))); (case side2 => exact HC228.out); rintro e w16 ⟨rfl, hb⟩; have n0_ := Aside0.mk (below_step (by repeat (first | (with_reducible first | exact HB.out | apply below_alloc | apply pw_below_drewN | apply below_drew1) | exact HB.out)) hb); clear HB; have HB := n0_; clear n0_; (try clear hb); (try clear hb2); (try clear hk); (try clear hi)))
           go_roundg k2
           case measure => have := HJ3.out; have := HK2.out; omega
           case rel => exact ⟨(wrap64 (x7_2 + 1)), (by first | rfl | (simp; done) | (simp [*]; done)), H', ⟨by have := HJ3.out; have := HK2.out; omega⟩, ⟨by repeat (first | (with_reducible first | exact HB.out | apply below_alloc | apply pw_below_drewN | apply below_drew1) | exact HB.out)⟩⟩
         ·
          rw [if_neg c10] at H
          exact absurd H (by simp)
        ·
         rw [if_neg c9] at H
         exact absurd H (by simp)
       ·
        rw [if_neg c8] at H
        exact absurd H (by simp)
      ·
       rw [if_neg c7] at H
       have c7b0 : decide (x7_2 < (l0.length : Int)) = false := decide_eq_false c7
       clear c7
       obtain rfl := Option.some.inj H
       go_wp2
       go_ret
       exact ⟨by first | rfl | (simp [errW_none, errW_some] <;> rfl) | (simp [*, errW_none, errW_some] <;> rfl), by repeat (first | (with_reducible first | exact HB.out | apply below_alloc | apply pw_below_drewN | apply below_drew1) | exact HB.out)⟩

end Go.Proofs.Ytieffcjbbhigbaa.PC17
