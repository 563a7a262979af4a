/- For the laws of the group C12: the Lean functions that the Go functions compute, and proofs that they do. Written by wip/hprint.py of this repo over the kit's printer; nothing here is trusted: Lean checks it. -/
import Derived.Test.YtdieknpikdepgaaPC12x0
import Derived.Test.YtdieknpikdepgaaPC12x1
import Derived.Test.YtdieknpikdepgaaPC12x4
import Derived.Test.YtdieknpikdepgaaPC12x6
namespace Go.Proofs.Ytdieknpikdepgaa.PC12
open Go.RowKit Go.Proofs.YtdieknpikdepgaaW.PrintWords Go.Proofs.YtdieknpikdepgaaW.PrintLast Go.Proofs.YtdieknpikdepgaaW.PrintMore
attribute [local go_sem] max2_int min2_int max_two min_two max_three min_three max_four min_four   -- for this text's walks alone
set_option linter.unusedVariables false
set_option linter.unusedSimpArgs false

/-! ### parquetrylaw12_SeqsOne: function 5 -/
mutual
def parquetrylaw12_SeqsOne.l0 : Nat → List Int → Int → Int → Int → Option (Bool)
 | 0, _, _, _, _ => none
 | k + 1, x0, x1, x5, x6 => if x6 < (x0.length : Int) then (if 0 ≤ x6 then (if (rd x0 x6) ≥ 14 then (parquetrylaw12_SeqsOne.j1 k x0 x1 x5 x6 (decide ((rd x0 x6) ≤ 22))) else (parquetrylaw12_SeqsOne.j1 k x0 x1 x5 x6 false)) else (none)) else ((seqs_Sequences.f k x0 (Go.bits .and .i64 x1 1)).bind fun t143 => (if x5 = 0 then (if (t143.length : Int) = 0 then ((parquetrylaw12_awake.f k).bind fun t146 => (some t146)) else (some false)) else (if (Go.bits .and .i64 x1 1) = 1 then (if (t143.length : Int) = 1 then (if 0 < (t143.length : Int) then (if (((rd_T28 t143 0).f3).length : Int) = x5 then (if ((rd_T28 t143 0).f0) = (Go.bits .and .i64 x1 1) then (if ((rd_T28 t143 0).f1) = 1 then (if ((rd_T28 t143 0).f2) = 1 then ((parquetrylaw12_awake.f k).bind fun t151 => (some t151)) else (some false)) else (some false)) else (some false)) else (some false)) else (none)) else (some false)) else (if (t143.length : Int) = 1 then (if 0 < (t143.length : Int) then (if (((rd_T28 t143 0).f3).length : Int) = x5 then (if ((rd_T28 t143 0).f0) = (Go.bits .and .i64 x1 1) then (if ((rd_T28 t143 0).f1) = 0 then (if ((rd_T28 t143 0).f2) = 0 then ((parquetrylaw12_awake.f k).bind fun t156 => (some t156)) else (some false)) else (some false)) else (some false)) else (some false)) else (none)) else (some false)))))
def parquetrylaw12_SeqsOne.j1 : Nat → List Int → Int → Int → Int → Bool → Option (Bool)
 | 0, _, _, _, _, _ => none
 | k + 1, x0, x1, x5, x6, x30 => if x30 = true then ((parquetrylaw12_awake.f k).bind fun t140 => (some t140)) else (if 0 ≤ x6 then (if x6 < (x0.length : Int) then ((level_Removed.f (rd x0 x6)).bind fun t142 => (if t142 = true then (parquetrylaw12_SeqsOne.l0 k x0 x1 x5 (wrap64 (x6 + 1))) else (parquetrylaw12_SeqsOne.l0 k x0 x1 (wrap64 (x5 + 1)) (wrap64 (x6 + 1))))) else (none)) else (none))
end
def parquetrylaw12_SeqsOne.f (k : Nat) (l0 : List Int) (a1 : Int) : Option (Bool) := if (l0.length : Int) > 500 then ((parquetrylaw12_awake.f k).bind fun t137 => (some t137)) else (parquetrylaw12_SeqsOne.l0 k l0 a1 0 0)
theorem parquetrylaw12_SeqsOne.mono_l : ∀ k, (∀ y0 y1 y2 y3, LeO (parquetrylaw12_SeqsOne.l0 k y0 y1 y2 y3) (parquetrylaw12_SeqsOne.l0 (k + 1) y0 y1 y2 y3)) ∧ (∀ y0 y1 y2 y3 y4, LeO (parquetrylaw12_SeqsOne.j1 k y0 y1 y2 y3 y4) (parquetrylaw12_SeqsOne.j1 (k + 1) y0 y1 y2 y3 y4))
 | 0 => ⟨fun _ _ _ _ r h => by simp [parquetrylaw12_SeqsOne.l0] at h, fun _ _ _ _ _ r h => by simp [parquetrylaw12_SeqsOne.j1] at h⟩
 | k + 1 => by
  obtain ⟨ih0, ih1⟩ := parquetrylaw12_SeqsOne.mono_l k
  refine ⟨?_, ?_⟩
  ·
   intro y0 y1 y2 y3
   unfold parquetrylaw12_SeqsOne.l0
   repeat' first
   | (with_reducible exact ih0 _ _ _ _)
   | (with_reducible exact ih1 _ _ _ _ _)
   | (with_reducible exact parquetrylaw12_awake.mono _)
   | (with_reducible exact seqs_Sequences.mono _ _ _)
   | (with_reducible exact LeO.refl _)
   | (with_reducible exact LeO.none _)
   | (with_reducible refine LeO.ite ?_ ?_)
   | (with_reducible refine LeO.bind ?_ (fun _ => ?_))
   | exact ih0 _ _ _ _
   | exact ih1 _ _ _ _ _
   | exact parquetrylaw12_awake.mono _
   | exact seqs_Sequences.mono _ _ _
   | exact LeO.none _
   | refine LeO.ite ?_ ?_
   | refine LeO.bind ?_ (fun _ => ?_)
  ·
   intro y0 y1 y2 y3 y4
   unfold parquetrylaw12_SeqsOne.j1
   repeat' first
   | (with_reducible exact ih0 _ _ _ _)
   | (with_reducible exact ih1 _ _ _ _ _)
   | (with_reducible exact parquetrylaw12_awake.mono _)
   | (with_reducible exact seqs_Sequences.mono _ _ _)
   | (with_reducible exact LeO.refl _)
   | (with_reducible exact LeO.none _)
   | (with_reducible refine LeO.ite ?_ ?_)
   | (with_reducible refine LeO.bind ?_ (fun _ => ?_))
   | exact ih0 _ _ _ _
   | exact ih1 _ _ _ _ _
   | exact parquetrylaw12_awake.mono _
   | exact seqs_Sequences.mono _ _ _
   | exact LeO.none _
   | refine LeO.ite ?_ ?_
   | refine LeO.bind ?_ (fun _ => ?_)
theorem parquetrylaw12_SeqsOne.mono : ∀ a0 a1 k, LeO (parquetrylaw12_SeqsOne.f k a0 a1) (parquetrylaw12_SeqsOne.f (k + 1) a0 a1) := by
 intro a0 a1 k
 obtain ⟨ih0, ih1⟩ := parquetrylaw12_SeqsOne.mono_l k
 unfold parquetrylaw12_SeqsOne.f
 repeat' first
   | (with_reducible exact ih0 _ _ _ _)
   | (with_reducible exact ih1 _ _ _ _ _)
   | (with_reducible exact parquetrylaw12_awake.mono _)
   | (with_reducible exact seqs_Sequences.mono _ _ _)
   | (with_reducible exact LeO.refl _)
   | (with_reducible exact LeO.none _)
   | (with_reducible refine LeO.ite ?_ ?_)
   | (with_reducible refine LeO.bind ?_ (fun _ => ?_))
   | exact ih0 _ _ _ _
   | exact ih1 _ _ _ _ _
   | exact parquetrylaw12_awake.mono _
   | exact seqs_Sequences.mono _ _ _
   | exact LeO.none _
   | refine LeO.ite ?_ ?_
   | refine LeO.bind ?_ (fun _ => ?_)
set_option maxHeartbeats 8000000 in
set_option maxRecDepth 100000 in
theorem parquetrylaw12_SeqsOne.calls (k : Nat) (A0 : Option Addr) (c0 : Nat) (l0 : List Int) (a1 : Int) (r : Bool) (w : World) (hr0 : Kd.C (Kd.int .i64) w A0 l0.length l0) (hc0 : l0.length ≤ c0) (h : parquetrylaw12_SeqsOne.f k l0 a1 = some r) :
  Calls Try.prog 5 #[.slice A0 l0.length c0, .int .i64 a1] w fun e w' => e = .returned (.bool r) ∧ Below w.heap.size w w' := by
 have HR0 := Aside0.mk hr0
 have HC0 := Aside0.mk hc0
 clear hr0 hc0
 have HB := Aside0.mk (Below.refl w.heap.size w)
 have H : (if (l0.length : Int) > 500 then ((parquetrylaw12_awake.f k).bind fun t137 => (some t137)) else (parquetrylaw12_SeqsOne.l0 k l0 a1 0 0)) = some r := h
 clear h
 by_cases c3 : (l0.length : Int) > 500
 ·
  rw [if_pos c3] at H
  have c3b0 : decide (500 < (l0.length : Int)) = true := decide_eq_true c3
  have c3b1 : decide (500 < l0.length) = true := decide_eq_true (by omega)
  clear c3
  replace H := Option.bind_eq_some_iff.mp H
  obtain ⟨t137, A40, H⟩ := H
  replace H : (some t137) = some r := H
  have A4 := Aside0.mk A40
  clear A40
  obtain rfl := Option.some.inj H
  go_enter Try.func5, Try.ntmps5
  try dsimp only [List.append]
  go_wp2_with (first | ((with_reducible refine gate_callee (f := 7) rfl ?_); refine goesL_ (some 12) rfl rfl Try.func7 (by kernel_rfl) rfl #[] rfl (by (try simp only [List.map_toArray, List.map_cons, List.map_nil]); first | done | rfl | (simp only [List.length_drop, List.length_take]; rfl)) ?_; (with_reducible refine (parquetrylaw12_awake.calls k  t137 _ A4.out).mono ?_); rintro e w5 ⟨rfl, hb⟩; refine ⟨_, rfl, ?_⟩; have n0_ := Aside0.mk (below_step (by repeat (first | (with_reducible first | exact HB.out | apply below_alloc | apply pw_below_drewN | apply below_drew1) | exact HB.out)) hb); clear HB; have HB := n0_; clear n0_; (try clear hb); (try clear hb2); (try clear hk); (try clear hi)))
  go_ret
  exact ⟨by first | rfl | (simp [errW_none, errW_some] <;> rfl) | (simp [*, errW_none, errW_some] <;> rfl), by repeat (first | (with_reducible first | exact HB.out | apply below_alloc | apply pw_below_drewN | apply below_drew1) | exact HB.out)⟩
 ·
  rw [if_neg c3] at H
  have c3b0 : decide (500 < (l0.length : Int)) = false := decide_eq_false c3
  have c3b1 : decide (500 < l0.length) = false := decide_eq_false (by omega)
  clear c3
  have H' := Aside0.mk H
  clear H
  go_enter Try.func5, Try.ntmps5
  try dsimp only [List.append]
  go_wp2
  go_loopg [5, 6] k (fun kq v5 v6 w' => ∃ (x5_1 : Int) (x6_1 : Int), v5 = .int .i64 x5_1 ∧ v6 = .int .i64 x6_1 ∧ Aside0 (parquetrylaw12_SeqsOne.l0 kq l0 a1 x5_1 x6_1 = some r) ∧ Aside0 (kq ≤ k) ∧ Aside0 (Below w.heap.size w w'))
  case atStart => exact ⟨(0), (0), (by first | rfl | (simp; done) | (simp [*]; done)), (by first | rfl | (simp; done) | (simp [*]; done)), H', ⟨Nat.le_refl _⟩, ⟨by repeat (first | (with_reducible first | exact HB.out | apply below_alloc | apply pw_below_drewN | apply below_drew1) | exact HB.out)⟩⟩
  case round =>
   clear H'
   try clear p2
   try clear c3
   try clear c3b0
   try clear c3b1
   try clear c5
   obtain ⟨x5_1, x6_1, rfl, rfl, HA, HK1, HB⟩ := hrel
   cases gk with
   | zero => exact absurd HA.out (by simp [parquetrylaw12_SeqsOne.l0])
   | succ k1 =>
    have H := HA.out
    clear HA
    simp only [parquetrylaw12_SeqsOne.l0] at H
    by_cases c6 : x6_1 < (l0.length : Int)
    ·
     rw [if_pos c6] at H
     have c6b0 : decide (x6_1 < (l0.length : Int)) = true := decide_eq_true c6
     clear c6
     have HC7 := Aside0.mk H
     clear H
     go_upto_region 7 with (fail)
     go_cut [30] (fun v30 wc => ∃ (kq : Nat) (x30_6 : Bool), v30 = .bool x30_6 ∧ Aside0 (parquetrylaw12_SeqsOne.j1 kq l0 a1 x5_1 x6_1 x30_6 = some r) ∧ Aside0 (kq ≤ k1) ∧ Aside0 (Below w.heap.size w wc))
     case first =>
      have H := HC7.out
      clear HC7
      by_cases c8 : 0 ≤ x6_1
      ·
       rw [if_pos c8] at H
       have c8b0 : decide (0 ≤ x6_1) = true := decide_eq_true c8
       clear c8
       (first | rw [c8b0] | (simp only [i64_w, i32_w]; rw [c8b0]) | skip)
       by_cases c9 : (rd l0 x6_1) ≥ 14
       ·
        rw [if_pos c9] at H
        have c9b0 : decide (14 ≤ (rd l0 x6_1)) = true := decide_eq_true c9
        clear c9
        have H' := Aside0.mk H
        clear H
        have p138 : 0 ≤ (x6_1 : Int) := of_decide_eq_true (by first | (with_reducible assumption) | assumption)
        have q138 : x6_1 < (l0.length : Int) := of_decide_eq_true (by first | (with_reducible assumption) | assumption)
        obtain ⟨ad138, e138, hx138_0⟩ := Kd.at_int HR0.out x6_1 p138 q138
        cases e138
        replace hx138_0 := (HB.out.cell (World.block_lt_of_cell? w _ hx138_0)).trans hx138_0
        replace p138 := eq_true p138
        replace q138 := eq_true q138
        have p139 : 0 ≤ (x6_1 : Int) := of_decide_eq_true (by first | (with_reducible assumption) | assumption)
        have q139 : x6_1 < (l0.length : Int) := of_decide_eq_true (by first | (with_reducible assumption) | assumption)
        obtain ⟨ad139, e139, hx139_0⟩ := Kd.at_int HR0.out x6_1 p139 q139
        obtain rfl : ad138 = ad139 := (by injection e139)
        replace hx139_0 := (HB.out.cell (World.block_lt_of_cell? w _ hx139_0)).trans hx139_0
        replace p139 := eq_true p139
        replace q139 := eq_true q139
        go_wp2
        go_meet
        case rel => exact ⟨_, (decide ((rd l0 x6_1) ≤ 22)), (by first | rfl | (simp; done) | (simp [*]; done)), H', ⟨by have := HK1.out; first | omega | exact Nat.le_refl _⟩, ⟨by repeat (first | (with_reducible first | exact HB.out | apply below_alloc | apply pw_below_drewN | apply below_drew1) | exact HB.out)⟩⟩
       ·
        rw [if_neg c9] at H
        have c9b0 : decide (14 ≤ (rd l0 x6_1)) = false := decide_eq_false c9
        clear c9
        have H' := Aside0.mk H
        clear H
        have p138 : 0 ≤ (x6_1 : Int) := of_decide_eq_true (by first | (with_reducible assumption) | assumption)
        have q138 : x6_1 < (l0.length : Int) := of_decide_eq_true (by first | (with_reducible assumption) | assumption)
        obtain ⟨ad138, e138, hx138_0⟩ := Kd.at_int HR0.out x6_1 p138 q138
        cases e138
        replace hx138_0 := (HB.out.cell (World.block_lt_of_cell? w _ hx138_0)).trans hx138_0
        replace p138 := eq_true p138
        replace q138 := eq_true q138
        go_wp2
        go_meet
        case rel => exact ⟨_, (false), (by first | rfl | (simp; done) | (simp [*]; done)), H', ⟨by have := HK1.out; first | omega | exact Nat.le_refl _⟩, ⟨by repeat (first | (with_reducible first | exact HB.out | apply below_alloc | apply pw_below_drewN | apply below_drew1) | exact HB.out)⟩⟩
      ·
       rw [if_neg c8] at H
       exact absurd H (by simp)
     case rest =>
      clear HC7
      try clear p1
      try clear q1
      try clear hx1
      try clear c6
      try clear c6b0
      try clear c7
      try clear c8
      try clear c8b0
      try clear c9
      try clear c9b0
      try clear hx138_0
      try clear hx139_0
      try clear p138
      try clear p139
      try clear q138
      try clear q139
      obtain ⟨kq, x30_6, rfl, HA, HJ6, HB⟩ := hcut
      cases kq with
      | zero => exact absurd HA.out (by simp [parquetrylaw12_SeqsOne.j1])
      | succ kj6 =>
       have H := HA.out
       clear HA
       simp only [parquetrylaw12_SeqsOne.j1] at H
       by_cases c10 : x30_6 = true
       ·
        subst c10
        have H1 : ((parquetrylaw12_awake.f kj6).bind fun t140 => (some t140)) = some r := by rw [if_pos rfl] at H; exact H
        clear H
        have H := H1
        clear H1
        replace H := Option.bind_eq_some_iff.mp H
        obtain ⟨t140, A110, H⟩ := H
        replace H : (some t140) = some r := H
        have A11 := Aside0.mk A110
        clear A110
        obtain rfl := Option.some.inj H
        go_wp2_with (first | ((with_reducible refine gate_callee (f := 7) rfl ?_); refine goesL_ (some 31) rfl rfl Try.func7 (by kernel_rfl) rfl #[] rfl (by (try simp only [List.map_toArray, List.map_cons, List.map_nil]); first | done | rfl | (simp only [List.length_drop, List.length_take]; rfl)) ?_; (with_reducible refine (parquetrylaw12_awake.calls kj6  t140 _ A11.out).mono ?_); rintro e w12 ⟨rfl, hb⟩; refine ⟨_, rfl, ?_⟩; have n0_ := Aside0.mk (below_step (by repeat (first | (with_reducible first | exact HB.out | apply below_alloc | apply pw_below_drewN | apply below_drew1) | exact HB.out)) hb); clear HB; have HB := n0_; clear n0_; (try clear hb); (try clear hb2); (try clear hk); (try clear hi)))
        go_ret
        exact ⟨by first | rfl | (simp [errW_none, errW_some] <;> rfl) | (simp [*, errW_none, errW_some] <;> rfl), by repeat (first | (with_reducible first | exact HB.out | apply below_alloc | apply pw_below_drewN | apply below_drew1) | exact HB.out)⟩
       ·
        replace c10 := Bool.eq_false_iff.mpr c10
        subst c10
        have H1 : (if 0 ≤ x6_1 then (if x6_1 < (l0.length : Int) then ((level_Removed.f (rd l0 x6_1)).bind fun t142 => (if t142 = true then (parquetrylaw12_SeqsOne.l0 kj6 l0 a1 x5_1 (wrap64 (x6_1 + 1))) else (parquetrylaw12_SeqsOne.l0 kj6 l0 a1 (wrap64 (x5_1 + 1)) (wrap64 (x6_1 + 1))))) else (none)) else (none)) = some r := by rw [if_neg (show ¬ (false = true) by decide)] at H; exact H
        clear H
        have H := H1
        clear H1
        by_cases c13 : 0 ≤ x6_1
        ·
         rw [if_pos c13] at H
         have c13b0 : decide (0 ≤ x6_1) = true := decide_eq_true c13
         clear c13
         by_cases c14 : x6_1 < (l0.length : Int)
         ·
          rw [if_pos c14] at H
          have c14b0 : decide (x6_1 < (l0.length : Int)) = true := decide_eq_true c14
          clear c14
          replace H := Option.bind_eq_some_iff.mp H
          obtain ⟨t142, A150, H⟩ := H
          replace H : (if t142 = true then (parquetrylaw12_SeqsOne.l0 kj6 l0 a1 x5_1 (wrap64 (x6_1 + 1))) else (parquetrylaw12_SeqsOne.l0 kj6 l0 a1 (wrap64 (x5_1 + 1)) (wrap64 (x6_1 + 1)))) = some r := H
          have A15 := Aside0.mk A150
          clear A150
          by_cases c16 : t142 = true
          ·
           subst c16
           have H1 : (parquetrylaw12_SeqsOne.l0 kj6 l0 a1 x5_1 (wrap64 (x6_1 + 1))) = some r := by rw [if_pos rfl] at H; exact H
           clear H
           have H := H1
           clear H1
           have H' := Aside0.mk H
           clear H
           have p141 : 0 ≤ (x6_1 : Int) := of_decide_eq_true (by first | (with_reducible assumption) | assumption)
           have q141 : x6_1 < (l0.length : Int) := of_decide_eq_true (by first | (with_reducible assumption) | assumption)
           obtain ⟨ad141, e141, hx141_0⟩ := Kd.at_int HR0.out x6_1 p141 q141
           cases e141
           replace hx141_0 := (HB.out.cell (World.block_lt_of_cell? w _ hx141_0)).trans hx141_0
           replace p141 := eq_true p141
           replace q141 := eq_true q141
           go_wp2_with (first | ((with_reducible refine gate_callee (f := 14) rfl ?_); refine goesL_ (some 36) rfl rfl Try.func14 (by kernel_rfl) rfl #[.int .i64 (rd l0 x6_1)] rfl (by (try simp only [List.map_toArray, List.map_cons, List.map_nil]); first | done | rfl | (simp only [List.length_drop, List.length_take]; rfl)) ?_; (with_reducible refine (level_Removed.calls (rd l0 x6_1) true _ A15.out).mono ?_); rintro e w' ⟨rfl, ⟨nd, rfl⟩⟩; refine ⟨_, rfl, ?_⟩))
           go_roundg kj6
           case measure => have := HK1.out; have := HJ6.out; omega
           case rel => exact ⟨(x5_1), (wrap64 (x6_1 + 1)), (by first | rfl | (simp; done) | (simp [*]; done)), (by first | rfl | (simp; done) | (simp [*]; done)), H', ⟨by have := HK1.out; have := HJ6.out; omega⟩, ⟨by repeat (first | (with_reducible first | exact HB.out | apply below_alloc | apply pw_below_drewN | apply below_drew1) | exact HB.out)⟩⟩
          ·
           replace c16 := Bool.eq_false_iff.mpr c16
           subst c16
           have H1 : (parquetrylaw12_SeqsOne.l0 kj6 l0 a1 (wrap64 (x5_1 + 1)) (wrap64 (x6_1 + 1))) = some r := by rw [if_neg (show ¬ (false = true) by decide)] at H; exact H
           clear H
           have H := H1
           clear H1
           have H' := Aside0.mk H
           clear H
           have p141 : 0 ≤ (x6_1 : Int) := of_decide_eq_true (by first | (with_reducible assumption) | assumption)
           have q141 : x6_1 < (l0.length : Int) := of_decide_eq_true (by first | (with_reducible assumption) | assumption)
           obtain ⟨ad141, e141, hx141_0⟩ := Kd.at_int HR0.out x6_1 p141 q141
           cases e141
           replace hx141_0 := (HB.out.cell (World.block_lt_of_cell? w _ hx141_0)).trans hx141_0
           replace p141 := eq_true p141
           replace q141 := eq_true q141
           go_wp2_with (first | ((with_reducible refine gate_callee (f := 14) rfl ?_); refine goesL_ (some 36) rfl rfl Try.func14 (by kernel_rfl) rfl #[.int .i64 (rd l0 x6_1)] rfl (by (try simp only [List.map_toArray, List.map_cons, List.map_nil]); first | done | rfl | (simp only [List.length_drop, List.length_take]; rfl)) ?_; (with_reducible refine (level_Removed.calls (rd l0 x6_1) false _ A15.out).mono ?_); rintro e w' ⟨rfl, ⟨nd, rfl⟩⟩; refine ⟨_, rfl, ?_⟩))
           go_roundg kj6
           case measure => have := HK1.out; have := HJ6.out; omega
           case rel => exact ⟨(wrap64 (x5_1 + 1)), (wrap64 (x6_1 + 1)), (by first | rfl | (simp; done) | (simp [*]; done)), (by first | rfl | (simp; done) | (simp [*]; done)), H', ⟨by have := HK1.out; have := HJ6.out; omega⟩, ⟨by repeat (first | (with_reducible first | exact HB.out | apply below_alloc | apply pw_below_drewN | apply below_drew1) | exact HB.out)⟩⟩
         ·
          rw [if_neg c14] at H
          exact absurd H (by simp)
        ·
         rw [if_neg c13] at H
         exact absurd H (by simp)
    ·
     rw [if_neg c6] at H
     have c6b0 : decide (x6_1 < (l0.length : Int)) = false := decide_eq_false c6
     clear c6
     replace H := Option.bind_eq_some_iff.mp H
     obtain ⟨t143, A170, H⟩ := H
     replace H : (if x5_1 = 0 then (if (t143.length : Int) = 0 then ((parquetrylaw12_awake.f k1).bind fun t146 => (some t146)) else (some false)) else (if (Go.bits .and .i64 a1 1) = 1 then (if (t143.length : Int) = 1 then (if 0 < (t143.length : Int) then (if (((rd_T28 t143 0).f3).length : Int) = x5_1 then (if ((rd_T28 t143 0).f0) = (Go.bits .and .i64 a1 1) then (if ((rd_T28 t143 0).f1) = 1 then (if ((rd_T28 t143 0).f2) = 1 then ((parquetrylaw12_awake.f k1).bind fun t151 => (some t151)) else (some false)) else (some false)) else (some false)) else (some false)) else (none)) else (some false)) else (if (t143.length : Int) = 1 then (if 0 < (t143.length : Int) then (if (((rd_T28 t143 0).f3).length : Int) = x5_1 then (if ((rd_T28 t143 0).f0) = (Go.bits .and .i64 a1 1) then (if ((rd_T28 t143 0).f1) = 0 then (if ((rd_T28 t143 0).f2) = 0 then ((parquetrylaw12_awake.f k1).bind fun t156 => (some t156)) else (some false)) else (some false)) else (some false)) else (some false)) else (none)) else (some false)))) = some r := H
     have A17 := Aside0.mk A170
     clear A170
     by_cases c18 : x5_1 = 0
     ·
      rw [if_pos c18] at H
      have c18b0 : (x5_1 == 0) = true := beq_iff_eq.mpr c18
      have c18b1 : (x5_1 != 0) = false := bne_eq_false_iff_eq.mpr c18
      clear c18
      by_cases c19 : (t143.length : Int) = 0
      ·
       rw [if_pos c19] at H
       have c19b0 : ((t143.length : Int) == 0) = true := beq_iff_eq.mpr c19
       have c19b1 : ((t143.length : Int) != 0) = false := bne_eq_false_iff_eq.mpr c19
       clear c19
       replace H := Option.bind_eq_some_iff.mp H
       obtain ⟨t146, A200, H⟩ := H
       replace H : (some t146) = some r := H
       have A20 := Aside0.mk A200
       clear A200
       obtain rfl := Option.some.inj H
       go_wp2_with (first | ((with_reducible refine gate_callee (f := 8) rfl ?_); refine goesL_ (some 43) rfl rfl Try.func8 (by kernel_rfl) rfl #[.slice A0 l0.length c0, .int .i64 (Go.bits .and .i64 a1 1)] rfl (by (try simp only [List.map_toArray, List.map_cons, List.map_nil]); first | done | rfl | (simp only [List.length_drop, List.length_take]; rfl)) ?_; (with_reducible refine (seqs_Sequences.calls k1 _ _ l0 (Go.bits .and .i64 a1 1) t143 _ ?side1 ?side2 A17.out).mono ?_); (case side1 => repeat (first | exact (Kd.C_below HR0.out HB.out) | (with_reducible refine Kd.C_alloc ?_ _) | (with_reducible refine Kd.C_drewN ?_ _) | (with_reducible refine Kd.C_drew ?_))); (case side2 => exact HC0.out); rintro e w21 ⟨v144, rfl, ho0, hb⟩; refine ⟨_, rfl, ?_⟩; have n0_ := Aside0.mk (Kd.S_lower ho0 (below_size (by repeat (first | (with_reducible first | exact HB.out | apply below_alloc | apply pw_below_drewN | apply below_drew1) | exact HB.out)))); have n1_ := Aside0.mk (below_step (by repeat (first | (with_reducible first | exact HB.out | apply below_alloc | apply pw_below_drewN | apply below_drew1) | exact HB.out)) hb); clear HB; have HO145 := n0_; have HB := n1_; clear n0_ n1_; (try clear hb); (try clear hb2); (try clear hk); (try clear hi); (try clear ho0); obtain ⟨Ao22, co22, eo22⟩ := Kd.S_slice HO145.out; subst eo22) | (go_at_call 7; (with_reducible refine (parquetrylaw12_awake.calls k1  t146 _ A20.out).mono ?_); rintro e w23 ⟨rfl, hb⟩; have n0_ := Aside0.mk (Kd.S_below (by (with_reducible repeat (first | apply Kd.S_alloc | apply Kd.S_drewN | apply Kd.S_drew)); exact HO145.out) hb); have n1_ := Aside0.mk (below_step (by repeat (first | (with_reducible first | exact HB.out | apply below_alloc | apply pw_below_drewN | apply below_drew1) | exact HB.out)) hb); clear HO145; clear HB; have HO145 := n0_; have HB := n1_; clear n0_ n1_; (try clear hb); (try clear hb2); (try clear hk); (try clear hi)))
       go_ret
       exact ⟨by first | rfl | (simp [errW_none, errW_some] <;> rfl) | (simp [*, errW_none, errW_some] <;> rfl), by repeat (first | (with_reducible first | exact HB.out | apply below_alloc | apply pw_below_drewN | apply below_drew1) | exact HB.out)⟩
      ·
       rw [if_neg c19] at H
       have c19b0 : ((t143.length : Int) == 0) = false := beq_eq_false_iff_ne.mpr c19
       have c19b1 : ((t143.length : Int) != 0) = true := bne_iff_ne.mpr c19
       have c19b2 : ¬ (t143 = []) := fun h_ => c19 (by rw [h_]; rfl)
       obtain rfl := Option.some.inj H
       go_wp2_with (first | ((with_reducible refine gate_callee (f := 8) rfl ?_); refine goesL_ (some 43) rfl rfl Try.func8 (by kernel_rfl) rfl #[.slice A0 l0.length c0, .int .i64 (Go.bits .and .i64 a1 1)] rfl (by (try simp only [List.map_toArray, List.map_cons, List.map_nil]); first | done | rfl | (simp only [List.length_drop, List.length_take]; rfl)) ?_; (with_reducible refine (seqs_Sequences.calls k1 _ _ l0 (Go.bits .and .i64 a1 1) t143 _ ?side1 ?side2 A17.out).mono ?_); (case side1 => repeat (first | exact (Kd.C_below HR0.out HB.out) | (with_reducible refine Kd.C_alloc ?_ _) | (with_reducible refine Kd.C_drewN ?_ _) | (with_reducible refine Kd.C_drew ?_))); (case side2 => exact HC0.out); rintro e w24 ⟨v144, rfl, ho0, hb⟩; refine ⟨_, rfl, ?_⟩; have n0_ := Aside0.mk (Kd.S_lower ho0 (below_size (by repeat (first | (with_reducible first | exact HB.out | apply below_alloc | apply pw_below_drewN | apply below_drew1) | exact HB.out)))); have n1_ := Aside0.mk (below_step (by repeat (first | (with_reducible first | exact HB.out | apply below_alloc | apply pw_below_drewN | apply below_drew1) | exact HB.out)) hb); clear HB; have HO145 := n0_; have HB := n1_; clear n0_ n1_; (try clear hb); (try clear hb2); (try clear hk); (try clear hi); (try clear ho0); obtain ⟨Ao25, co25, eo25⟩ := Kd.S_slice HO145.out; subst eo25))
       go_ret
       exact ⟨by first | rfl | (simp [errW_none, errW_some] <;> rfl) | (simp [*, errW_none, errW_some] <;> rfl), by repeat (first | (with_reducible first | exact HB.out | apply below_alloc | apply pw_below_drewN | apply below_drew1) | exact HB.out)⟩
     ·
      rw [if_neg c18] at H
      have c18b0 : (x5_1 == 0) = false := beq_eq_false_iff_ne.mpr c18
      have c18b1 : (x5_1 != 0) = true := bne_iff_ne.mpr c18
      by_cases c26 : (Go.bits .and .i64 a1 1) = 1
      ·
       rw [if_pos c26] at H
       have c26b0 : ((Go.bits .and .i64 a1 1) == 1) = true := beq_iff_eq.mpr c26
       have c26b1 : ((Go.bits .and .i64 a1 1) != 1) = false := bne_eq_false_iff_eq.mpr c26
       clear c26
       by_cases c27 : (t143.length : Int) = 1
       ·
        rw [if_pos c27] at H
        have c27b0 : ((t143.length : Int) == 1) = true := beq_iff_eq.mpr c27
        have c27b1 : ((t143.length : Int) != 1) = false := bne_eq_false_iff_eq.mpr c27
        clear c27
        by_cases c28 : 0 < (t143.length : Int)
        ·
         rw [if_pos c28] at H
         have c28b0 : decide (0 < (t143.length : Int)) = true := decide_eq_true c28
         have c28b1 : decide (0 < t143.length) = true := decide_eq_true (by omega)
         clear c28
         by_cases c29 : (((rd_T28 t143 0).f3).length : Int) = x5_1
         ·
          rw [if_pos c29] at H
          have c29b0 : ((((rd_T28 t143 0).f3).length : Int) == x5_1) = true := beq_iff_eq.mpr c29
          have c29b1 : ((((rd_T28 t143 0).f3).length : Int) != x5_1) = false := bne_eq_false_iff_eq.mpr c29
          clear c29
          by_cases c30 : ((rd_T28 t143 0).f0) = (Go.bits .and .i64 a1 1)
          ·
           rw [if_pos c30] at H
           have c30b0 : (((rd_T28 t143 0).f0) == (Go.bits .and .i64 a1 1)) = true := beq_iff_eq.mpr c30
           have c30b1 : (((rd_T28 t143 0).f0) != (Go.bits .and .i64 a1 1)) = false := bne_eq_false_iff_eq.mpr c30
           clear c30
           by_cases c31 : ((rd_T28 t143 0).f1) = 1
           ·
            rw [if_pos c31] at H
            have c31b0 : (((rd_T28 t143 0).f1) == 1) = true := beq_iff_eq.mpr c31
            have c31b1 : (((rd_T28 t143 0).f1) != 1) = false := bne_eq_false_iff_eq.mpr c31
            clear c31
            by_cases c32 : ((rd_T28 t143 0).f2) = 1
            ·
             rw [if_pos c32] at H
             have c32b0 : (((rd_T28 t143 0).f2) == 1) = true := beq_iff_eq.mpr c32
             have c32b1 : (((rd_T28 t143 0).f2) != 1) = false := bne_eq_false_iff_eq.mpr c32
             clear c32
             replace H := Option.bind_eq_some_iff.mp H
             obtain ⟨t151, A330, H⟩ := H
             replace H : (some t151) = some r := H
             have A33 := Aside0.mk A330
             clear A330
             obtain rfl := Option.some.inj H
             go_wp2_with (first | ((with_reducible refine gate_callee (f := 8) rfl ?_); refine goesL_ (some 43) rfl rfl Try.func8 (by kernel_rfl) rfl #[.slice A0 l0.length c0, .int .i64 (Go.bits .and .i64 a1 1)] rfl (by (try simp only [List.map_toArray, List.map_cons, List.map_nil]); first | done | rfl | (simp only [List.length_drop, List.length_take]; rfl)) ?_; (with_reducible refine (seqs_Sequences.calls k1 _ _ l0 (Go.bits .and .i64 a1 1) t143 _ ?side1 ?side2 A17.out).mono ?_); (case side1 => repeat (first | exact (Kd.C_below HR0.out HB.out) | (with_reducible refine Kd.C_alloc ?_ _) | (with_reducible refine Kd.C_drewN ?_ _) | (with_reducible refine Kd.C_drew ?_))); (case side2 => exact HC0.out); rintro e w34 ⟨v144, rfl, ho0, hb⟩; refine ⟨_, rfl, ?_⟩; have n0_ := Aside0.mk (Kd.S_lower ho0 (below_size (by repeat (first | (with_reducible first | exact HB.out | apply below_alloc | apply pw_below_drewN | apply below_drew1) | exact HB.out)))); have n1_ := Aside0.mk (below_step (by repeat (first | (with_reducible first | exact HB.out | apply below_alloc | apply pw_below_drewN | apply below_drew1) | exact HB.out)) hb); clear HB; have HO145 := n0_; have HB := n1_; clear n0_ n1_; (try clear hb); (try clear hb2); (try clear hk); (try clear hi); (try clear ho0); obtain ⟨Ao35, co35, eo35⟩ := Kd.S_slice HO145.out; subst eo35; have p147 : 0 ≤ (0 : Int) := (by omega); have q147 : 0 < (t143.length : Int) := of_decide_eq_true (by first | (with_reducible assumption) | assumption); obtain ⟨ad147, A147_3, c147_3, e147, hx147_0, hx147_1, hx147_2, hx147_3, hl147_3, hi147_3⟩ := at_T28 (Kd.S_reads' HO145.out).2.2 0 p147 q147; cases e147; obtain ⟨ce147, hce147, hMe147, hcc147⟩ := Kd.S_get HO145.out z28 0 p147 (by first | exact q147 | exact of_decide_eq_true (by first | (with_reducible assumption) | assumption) | (have e_ := (Kd.S_reads' HO145.out).1; omega)); obtain ⟨ve147_3, rfl, ge147_3⟩ := k28_openM hMe147; have hv147_3 := hcc147 3 _ rfl; rw [add_field _ _ 3 (by omega)] at hv147_3; replace hv147_3 := Option.some.inj (hv147_3.symm.trans hx147_3); rw [hv147_3] at ge147_3; have HL147_3 := Aside0.mk (show Kd.R (Kd.int .i64) 3 _ _ _ _ ((rd_T28 t143 0).f3) from ge147_3); clear hv147_3 ge147_3; clear hcc147 hce147; have qi147 : (0 < t143.length) = True := eq_true (by omega); (try rw [show ((0 : Int)).toNat = 0 from rfl] at hx147_0); (try rw [show 0 * 4 = 0 from rfl] at hx147_0); (try rw [Addr.add_zero'] at hx147_0); (try rw [show ((0 : Int)).toNat = 0 from rfl] at hx147_1); (try rw [show 0 * 4 = 0 from rfl] at hx147_1); (try rw [Addr.add_zero'] at hx147_1); (try rw [show ((0 : Int)).toNat = 0 from rfl] at hx147_2); (try rw [show 0 * 4 = 0 from rfl] at hx147_2); (try rw [Addr.add_zero'] at hx147_2); (try rw [show ((0 : Int)).toNat = 0 from rfl] at hx147_3); (try rw [show 0 * 4 = 0 from rfl] at hx147_3); (try rw [Addr.add_zero'] at hx147_3); have HR147_3 := Aside0.mk hi147_3; have HC147_3 := Aside0.mk hl147_3; clear hi147_3 hl147_3; replace p147 := eq_true p147; replace q147 := eq_true q147; have p148 : 0 ≤ (0 : Int) := (by omega); have q148 : 0 < (t143.length : Int) := of_decide_eq_true (by first | (with_reducible assumption) | assumption); obtain ⟨ad148, A148_3, c148_3, e148, hx148_0, hx148_1, hx148_2, hx148_3, hl148_3, hi148_3⟩ := at_T28 (Kd.S_reads' HO145.out).2.2 0 p148 q148; obtain rfl : ad147 = ad148 := (by injection e148); obtain ⟨ce148, hce148, hMe148, hcc148⟩ := Kd.S_get HO145.out z28 0 p148 (by first | exact q148 | exact of_decide_eq_true (by first | (with_reducible assumption) | assumption) | (have e_ := (Kd.S_reads' HO145.out).1; omega)); obtain ⟨ve148_3, rfl, ge148_3⟩ := k28_openM hMe148; have hv148_3 := hcc148 3 _ rfl; rw [add_field _ _ 3 (by omega)] at hv148_3; replace hv148_3 := Option.some.inj (hv148_3.symm.trans hx148_3); rw [hv148_3] at ge148_3; have HL148_3 := Aside0.mk (show Kd.R (Kd.int .i64) 3 _ _ _ _ ((rd_T28 t143 0).f3) from ge148_3); clear hv148_3 ge148_3; clear hcc148 hce148; have qi148 : (0 < t143.length) = True := eq_true (by omega); (try rw [show ((0 : Int)).toNat = 0 from rfl] at hx148_0); (try rw [show 0 * 4 = 0 from rfl] at hx148_0); (try rw [Addr.add_zero'] at hx148_0); (try rw [show ((0 : Int)).toNat = 0 from rfl] at hx148_1); (try rw [show 0 * 4 = 0 from rfl] at hx148_1); (try rw [Addr.add_zero'] at hx148_1); (try rw [show ((0 : Int)).toNat = 0 from rfl] at hx148_2); (try rw [show 0 * 4 = 0 from rfl] at hx148_2); (try rw [Addr.add_zero'] at hx148_2); (try rw [show ((0 : Int)).toNat = 0 from rfl] at hx148_3); (try rw [show 0 * 4 = 0 from rfl] at hx148_3); (try rw [Addr.add_zero'] at hx148_3); have HR148_3 := Aside0.mk hi148_3; have HC148_3 := Aside0.mk hl148_3; clear hi148_3 hl148_3; replace p148 := eq_true p148; replace q148 := eq_true q148; have ea_ := Option.some.inj (hx147_3.symm.trans hx148_3); injection ea_ with ea_ en_ ec_; subst ea_; subst ec_; clear en_; have p149 : 0 ≤ (0 : Int) := (by omega); have q149 : 0 < (t143.length : Int) := of_decide_eq_true (by first | (with_reducible assumption) | assumption); obtain ⟨ad149, A149_3, c149_3, e149, hx149_0, hx149_1, hx149_2, hx149_3, hl149_3, hi149_3⟩ := at_T28 (Kd.S_reads' HO145.out).2.2 0 p149 q149; obtain rfl : ad147 = ad149 := (by injection e149); obtain ⟨ce149, hce149, hMe149, hcc149⟩ := Kd.S_get HO145.out z28 0 p149 (by first | exact q149 | exact of_decide_eq_true (by first | (with_reducible assumption) | assumption) | (have e_ := (Kd.S_reads' HO145.out).1; omega)); obtain ⟨ve149_3, rfl, ge149_3⟩ := k28_openM hMe149; have hv149_3 := hcc149 3 _ rfl; rw [add_field _ _ 3 (by omega)] at hv149_3; replace hv149_3 := Option.some.inj (hv149_3.symm.trans hx149_3); rw [hv149_3] at ge149_3; have HL149_3 := Aside0.mk (show Kd.R (Kd.int .i64) 3 _ _ _ _ ((rd_T28 t143 0).f3) from ge149_3); clear hv149_3 ge149_3; clear hcc149 hce149; have qi149 : (0 < t143.length) = True := eq_true (by omega); (try rw [show ((0 : Int)).toNat = 0 from rfl] at hx149_0); (try rw [show 0 * 4 = 0 from rfl] at hx149_0); (try rw [Addr.add_zero'] at hx149_0); (try rw [show ((0 : Int)).toNat = 0 from rfl] at hx149_1); (try rw [show 0 * 4 = 0 from rfl] at hx149_1); (try rw [Addr.add_zero'] at hx149_1); (try rw [show ((0 : Int)).toNat = 0 from rfl] at hx149_2); (try rw [show 0 * 4 = 0 from rfl] at hx149_2); (try rw [Addr.add_zero'] at hx149_2); (try rw [show ((0 : Int)).toNat = 0 from rfl] at hx149_3); (try rw [show 0 * 4 = 0 from rfl] at hx149_3); (try rw [Addr.add_zero'] at hx149_3); have HR149_3 := Aside0.mk hi149_3; have HC149_3 := Aside0.mk hl149_3; clear hi149_3 hl149_3; replace p149 := eq_true p149; replace q149 := eq_true q149; have ea_ := Option.some.inj (hx147_3.symm.trans hx149_3); injection ea_ with ea_ en_ ec_; subst ea_; subst ec_; clear en_; have p150 : 0 ≤ (0 : Int) := (by omega); have q150 : 0 < (t143.length : Int) := of_decide_eq_true (by first | (with_reducible assumption) | assumption); obtain ⟨ad150, A150_3, c150_3, e150, hx150_0, hx150_1, hx150_2, hx150_3, hl150_3, hi150_3⟩ := at_T28 (Kd.S_reads' HO145.out).2.2 0 p150 q150; obtain rfl : ad147 = ad150 := (by injection e150); obtain ⟨ce150, hce150, hMe150, hcc150⟩ := Kd.S_get HO145.out z28 0 p150 (by first | exact q150 | exact of_decide_eq_true (by first | (with_reducible assumption) | assumption) | (have e_ := (Kd.S_reads' HO145.out).1; omega)); obtain ⟨ve150_3, rfl, ge150_3⟩ := k28_openM hMe150; have hv150_3 := hcc150 3 _ rfl; rw [add_field _ _ 3 (by omega)] at hv150_3; replace hv150_3 := Option.some.inj (hv150_3.symm.trans hx150_3); rw [hv150_3] at ge150_3; have HL150_3 := Aside0.mk (show Kd.R (Kd.int .i64) 3 _ _ _ _ ((rd_T28 t143 0).f3) from ge150_3); clear hv150_3 ge150_3; clear hcc150 hce150; have qi150 : (0 < t143.length) = True := eq_true (by omega); (try rw [show ((0 : Int)).toNat = 0 from rfl] at hx150_0); (try rw [show 0 * 4 = 0 from rfl] at hx150_0); (try rw [Addr.add_zero'] at hx150_0); (try rw [show ((0 : Int)).toNat = 0 from rfl] at hx150_1); (try rw [show 0 * 4 = 0 from rfl] at hx150_1); (try rw [Addr.add_zero'] at hx150_1); (try rw [show ((0 : Int)).toNat = 0 from rfl] at hx150_2); (try rw [show 0 * 4 = 0 from rfl] at hx150_2); (try rw [Addr.add_zero'] at hx150_2); (try rw [show ((0 : Int)).toNat = 0 from rfl] at hx150_3); (try rw [show 0 * 4 = 0 from rfl] at hx150_3); (try rw [Addr.add_zero'] at hx150_3); have HR150_3 := Aside0.mk hi150_3; have HC150_3 := Aside0.mk hl150_3; clear hi150_3 hl150_3; replace p150 := eq_true p150; replace q150 := eq_true q150; have ea_ := Option.some.inj (hx147_3.symm.trans hx150_3); injection ea_ with ea_ en_ ec_; subst ea_; subst ec_; clear en_) | (go_at_call 7; (with_reducible refine (parquetrylaw12_awake.calls k1  t151 _ A33.out).mono ?_); rintro e w36 ⟨rfl, hb⟩; have n0_ := Aside0.mk (Kd.S_below (by (with_reducible repeat (first | apply Kd.S_alloc | apply Kd.S_drewN | apply Kd.S_drew)); exact HO145.out) hb); have n1_ := Aside0.mk (Kd.R_below (by (with_reducible repeat (first | apply Kd.R_alloc | apply Kd.R_drewN | apply Kd.R_drew)); exact HL147_3.out) hb); have n2_ := Aside0.mk (Kd.R_below (by (with_reducible repeat (first | apply Kd.R_alloc | apply Kd.R_drewN | apply Kd.R_drew)); exact HL148_3.out) hb); have n3_ := Aside0.mk (Kd.R_below (by (with_reducible repeat (first | apply Kd.R_alloc | apply Kd.R_drewN | apply Kd.R_drew)); exact HL149_3.out) hb); have n4_ := Aside0.mk (Kd.R_below (by (with_reducible repeat (first | apply Kd.R_alloc | apply Kd.R_drewN | apply Kd.R_drew)); exact HL150_3.out) hb); have n5_ := Aside0.mk (Kd.C_below (by repeat (first | (with_reducible exact HR147_3.out) | (with_reducible refine Kd.C_alloc ?_ _) | (with_reducible refine Kd.C_drewN ?_ _) | (with_reducible refine Kd.C_drew ?_) | exact HR147_3.out)) hb); have n6_ := Aside0.mk (Kd.C_below (by repeat (first | (with_reducible exact HR148_3.out) | (with_reducible refine Kd.C_alloc ?_ _) | (with_reducible refine Kd.C_drewN ?_ _) | (with_reducible refine Kd.C_drew ?_) | exact HR148_3.out)) hb); have n7_ := Aside0.mk (Kd.C_below (by repeat (first | (with_reducible exact HR149_3.out) | (with_reducible refine Kd.C_alloc ?_ _) | (with_reducible refine Kd.C_drewN ?_ _) | (with_reducible refine Kd.C_drew ?_) | exact HR149_3.out)) hb); have n8_ := Aside0.mk (Kd.C_below (by repeat (first | (with_reducible exact HR150_3.out) | (with_reducible refine Kd.C_alloc ?_ _) | (with_reducible refine Kd.C_drewN ?_ _) | (with_reducible refine Kd.C_drew ?_) | exact HR150_3.out)) hb); have n9_ := Aside0.mk (below_step (by repeat (first | (with_reducible first | exact HB.out | apply below_alloc | apply pw_below_drewN | apply below_drew1) | exact HB.out)) hb); clear HO145; clear HL147_3; clear HL148_3; clear HL149_3; clear HL150_3; clear HR147_3; clear HR148_3; clear HR149_3; clear HR150_3; clear HB; have HO145 := n0_; have HL147_3 := n1_; have HL148_3 := n2_; have HL149_3 := n3_; have HL150_3 := n4_; have HR147_3 := n5_; have HR148_3 := n6_; have HR149_3 := n7_; have HR150_3 := n8_; have HB := n9_; clear n0_ n1_ n2_ n3_ n4_ n5_ n6_ n7_ n8_ n9_; (try clear hb); (try clear hb2); (try clear hk); (try clear hi)))
             go_ret
             exact ⟨by first | rfl | (simp [errW_none, errW_some] <;> rfl) | (simp [*, errW_none, errW_some] <;> rfl), by repeat (first | (with_reducible first | exact HB.out | apply below_alloc | apply pw_below_drewN | apply below_drew1) | exact HB.out)⟩
            ·
             rw [if_neg c32] at H
             have c32b0 : (((rd_T28 t143 0).f2) == 1) = false := beq_eq_false_iff_ne.mpr c32
             have c32b1 : (((rd_T28 t143 0).f2) != 1) = true := bne_iff_ne.mpr c32
             obtain rfl := Option.some.inj H
             go_wp2_with (first | ((with_reducible refine gate_callee (f := 8) rfl ?_); refine goesL_ (some 43) rfl rfl Try.func8 (by kernel_rfl) rfl #[.slice A0 l0.length c0, .int .i64 (Go.bits .and .i64 a1 1)] rfl (by (try simp only [List.map_toArray, List.map_cons, List.map_nil]); first | done | rfl | (simp only [List.length_drop, List.length_take]; rfl)) ?_; (with_reducible refine (seqs_Sequences.calls k1 _ _ l0 (Go.bits .and .i64 a1 1) t143 _ ?side1 ?side2 A17.out).mono ?_); (case side1 => repeat (first | exact (Kd.C_below HR0.out HB.out) | (with_reducible refine Kd.C_alloc ?_ _) | (with_reducible refine Kd.C_drewN ?_ _) | (with_reducible refine Kd.C_drew ?_))); (case side2 => exact HC0.out); rintro e w37 ⟨v144, rfl, ho0, hb⟩; refine ⟨_, rfl, ?_⟩; have n0_ := Aside0.mk (Kd.S_lower ho0 (below_size (by repeat (first | (with_reducible first | exact HB.out | apply below_alloc | apply pw_below_drewN | apply below_drew1) | exact HB.out)))); have n1_ := Aside0.mk (below_step (by repeat (first | (with_reducible first | exact HB.out | apply below_alloc | apply pw_below_drewN | apply below_drew1) | exact HB.out)) hb); clear HB; have HO145 := n0_; have HB := n1_; clear n0_ n1_; (try clear hb); (try clear hb2); (try clear hk); (try clear hi); (try clear ho0); obtain ⟨Ao38, co38, eo38⟩ := Kd.S_slice HO145.out; subst eo38; have p147 : 0 ≤ (0 : Int) := (by omega); have q147 : 0 < (t143.length : Int) := of_decide_eq_true (by first | (with_reducible assumption) | assumption); obtain ⟨ad147, A147_3, c147_3, e147, hx147_0, hx147_1, hx147_2, hx147_3, hl147_3, hi147_3⟩ := at_T28 (Kd.S_reads' HO145.out).2.2 0 p147 q147; cases e147; obtain ⟨ce147, hce147, hMe147, hcc147⟩ := Kd.S_get HO145.out z28 0 p147 (by first | exact q147 | exact of_decide_eq_true (by first | (with_reducible assumption) | assumption) | (have e_ := (Kd.S_reads' HO145.out).1; omega)); obtain ⟨ve147_3, rfl, ge147_3⟩ := k28_openM hMe147; have hv147_3 := hcc147 3 _ rfl; rw [add_field _ _ 3 (by omega)] at hv147_3; replace hv147_3 := Option.some.inj (hv147_3.symm.trans hx147_3); rw [hv147_3] at ge147_3; have HL147_3 := Aside0.mk (show Kd.R (Kd.int .i64) 3 _ _ _ _ ((rd_T28 t143 0).f3) from ge147_3); clear hv147_3 ge147_3; clear hcc147 hce147; have qi147 : (0 < t143.length) = True := eq_true (by omega); (try rw [show ((0 : Int)).toNat = 0 from rfl] at hx147_0); (try rw [show 0 * 4 = 0 from rfl] at hx147_0); (try rw [Addr.add_zero'] at hx147_0); (try rw [show ((0 : Int)).toNat = 0 from rfl] at hx147_1); (try rw [show 0 * 4 = 0 from rfl] at hx147_1); (try rw [Addr.add_zero'] at hx147_1); (try rw [show ((0 : Int)).toNat = 0 from rfl] at hx147_2); (try rw [show 0 * 4 = 0 from rfl] at hx147_2); (try rw [Addr.add_zero'] at hx147_2); (try rw [show ((0 : Int)).toNat = 0 from rfl] at hx147_3); (try rw [show 0 * 4 = 0 from rfl] at hx147_3); (try rw [Addr.add_zero'] at hx147_3); have HR147_3 := Aside0.mk hi147_3; have HC147_3 := Aside0.mk hl147_3; clear hi147_3 hl147_3; replace p147 := eq_true p147; replace q147 := eq_true q147; have p148 : 0 ≤ (0 : Int) := (by omega); have q148 : 0 < (t143.length : Int) := of_decide_eq_true (by first | (with_reducible assumption) | assumption); obtain ⟨ad148, A148_3, c148_3, e148, hx148_0, hx148_1, hx148_2, hx148_3, hl148_3, hi148_3⟩ := at_T28 (Kd.S_reads' HO145.out).2.2 0 p148 q148; obtain rfl : ad147 = ad148 := (by injection e148); obtain ⟨ce148, hce148, hMe148, hcc148⟩ := Kd.S_get HO145.out z28 0 p148 (by first | exact q148 | exact of_decide_eq_true (by first | (with_reducible assumption) | assumption) | (have e_ := (Kd.S_reads' HO145.out).1; omega)); obtain ⟨ve148_3, rfl, ge148_3⟩ := k28_openM hMe148; have hv148_3 := hcc148 3 _ rfl; rw [add_field _ _ 3 (by omega)] at hv148_3; replace hv148_3 := Option.some.inj (hv148_3.symm.trans hx148_3); rw [hv148_3] at ge148_3; have HL148_3 := Aside0.mk (show Kd.R (Kd.int .i64) 3 _ _ _ _ ((rd_T28 t143 0).f3) from ge148_3); clear hv148_3 ge148_3; clear hcc148 hce148; have qi148 : (0 < t143.length) = True := eq_true (by omega); (try rw [show ((0 : Int)).toNat = 0 from rfl] at hx148_0); (try rw [show 0 * 4 = 0 from rfl] at hx148_0); (try rw [Addr.add_zero'] at hx148_0); (try rw [show ((0 : Int)).toNat = 0 from rfl] at hx148_1); (try rw [show 0 * 4 = 0 from rfl] at hx148_1); (try rw [Addr.add_zero'] at hx148_1); (try rw [show ((0 : Int)).toNat = 0 from rfl] at hx148_2); (try rw [show 0 * 4 = 0 from rfl] at hx148_2); (try rw [Addr.add_zero'] at hx148_2); (try rw [show ((0 : Int)).toNat = 0 from rfl] at hx148_3); (try rw [show 0 * 4 = 0 from rfl] at hx148_3); (try rw [Addr.add_zero'] at hx148_3); have HR148_3 := Aside0.mk hi148_3; have HC148_3 := Aside0.mk hl148_3; clear hi148_3 hl148_3; replace p148 := eq_true p148; replace q148 := eq_true q148; have ea_ := Option.some.inj (hx147_3.symm.trans hx148_3); injection ea_ with ea_ en_ ec_; subst ea_; subst ec_; clear en_; have p149 : 0 ≤ (0 : Int) := (by omega); have q149 : 0 < (t143.length : Int) := of_decide_eq_true (by first | (with_reducible assumption) | assumption); obtain ⟨ad149, A149_3, c149_3, e149, hx149_0, hx149_1, hx149_2, hx149_3, hl149_3, hi149_3⟩ := at_T28 (Kd.S_reads' HO145.out).2.2 0 p149 q149; obtain rfl : ad147 = ad149 := (by injection e149); obtain ⟨ce149, hce149, hMe149, hcc149⟩ := Kd.S_get HO145.out z28 0 p149 (by first | exact q149 | exact of_decide_eq_true (by first | (with_reducible assumption) | assumption) | (have e_ := (Kd.S_reads' HO145.out).1; omega)); obtain ⟨ve149_3, rfl, ge149_3⟩ := k28_openM hMe149; have hv149_3 := hcc149 3 _ rfl; rw [add_field _ _ 3 (by omega)] at hv149_3; replace hv149_3 := Option.some.inj (hv149_3.symm.trans hx149_3); rw [hv149_3] at ge149_3; have HL149_3 := Aside0.mk (show Kd.R (Kd.int .i64) 3 _ _ _ _ ((rd_T28 t143 0).f3) from ge149_3); clear hv149_3 ge149_3; clear hcc149 hce149; have qi149 : (0 < t143.length) = True := eq_true (by omega); (try rw [show ((0 : Int)).toNat = 0 from rfl] at hx149_0); (try rw [show 0 * 4 = 0 from rfl] at hx149_0); (try rw [Addr.add_zero'] at hx149_0); (try rw [show ((0 : Int)).toNat = 0 from rfl] at hx149_1); (try rw [show 0 * 4 = 0 from rfl] at hx149_1); (try rw [Addr.add_zero'] at hx149_1); (try rw [show ((0 : Int)).toNat = 0 from rfl] at hx149_2); (try rw [show 0 * 4 = 0 from rfl] at hx149_2); (try rw [Addr.add_zero'] at hx149_2); (try rw [show ((0 : Int)).toNat = 0 from rfl] at hx149_3); (try rw [show 0 * 4 = 0 from rfl] at hx149_3); (try rw [Addr.add_zero'] at hx149_3); have HR149_3 := Aside0.mk hi149_3; have HC149_3 := Aside0.mk hl149_3; clear hi149_3 hl149_3; replace p149 := eq_true p149; replace q149 := eq_true q149; have ea_ := Option.some.inj (hx147_3.symm.trans hx149_3); injection ea_ with ea_ en_ ec_; subst ea_; subst ec_; clear en_; have p150 : 0 ≤ (0 : Int) := (by omega); have q150 : 0 < (t143.length : Int) := of_decide_eq_true (by first | (with_reducible assumption) | assumption); obtain ⟨ad150, A150_3, c150_3, e150, hx150_0, hx150_1, hx150_2, hx150_3, hl150_3, hi150_3⟩ := at_T28 (Kd.S_reads' HO145.out).2.2 0 p150 q150; obtain rfl : ad147 = ad150 := (by injection e150); obtain ⟨ce150, hce150, hMe150, hcc150⟩ := Kd.S_get HO145.out z28 0 p150 (by first | exact q150 | exact of_decide_eq_true (by first | (with_reducible assumption) | assumption) | (have e_ := (Kd.S_reads' HO145.out).1; omega)); obtain ⟨ve150_3, rfl, ge150_3⟩ := k28_openM hMe150; have hv150_3 := hcc150 3 _ rfl; rw [add_field _ _ 3 (by omega)] at hv150_3; replace hv150_3 := Option.some.inj (hv150_3.symm.trans hx150_3); rw [hv150_3] at ge150_3; have HL150_3 := Aside0.mk (show Kd.R (Kd.int .i64) 3 _ _ _ _ ((rd_T28 t143 0).f3) from ge150_3); clear hv150_3 ge150_3; clear hcc150 hce150; have qi150 : (0 < t143.length) = True := eq_true (by omega); (try rw [show ((0 : Int)).toNat = 0 from rfl] at hx150_0); (try rw [show 0 * 4 = 0 from rfl] at hx150_0); (try rw [Addr.add_zero'] at hx150_0); (try rw [show ((0 : Int)).toNat = 0 from rfl] at hx150_1); (try rw [show 0 * 4 = 0 from rfl] at hx150_1); (try rw [Addr.add_zero'] at hx150_1); (try rw [show ((0 : Int)).toNat = 0 from rfl] at hx150_2); (try rw [show 0 * 4 = 0 from rfl] at hx150_2); (try rw [Addr.add_zero'] at hx150_2); (try rw [show ((0 : Int)).toNat = 0 from rfl] at hx150_3); (try rw [show 0 * 4 = 0 from rfl] at hx150_3); (try rw [Addr.add_zero'] at hx150_3); have HR150_3 := Aside0.mk hi150_3; have HC150_3 := Aside0.mk hl150_3; clear hi150_3 hl150_3; replace p150 := eq_true p150; replace q150 := eq_true q150; have ea_ := Option.some.inj (hx147_3.symm.trans hx150_3); injection ea_ with ea_ en_ ec_; subst ea_; subst ec_; clear en_))
             go_ret
             exact ⟨by first | rfl | (simp [errW_none, errW_some] <;> rfl) | (simp [*, errW_none, errW_some] <;> rfl), by repeat (first | (with_reducible first | exact HB.out | apply below_alloc | apply pw_below_drewN | apply below_drew1) | exact HB.out)⟩
           ·
            rw [if_neg c31] at H
            have c31b0 : (((rd_T28 t143 0).f1) == 1) = false := beq_eq_false_iff_ne.mpr c31
            have c31b1 : (((rd_T28 t143 0).f1) != 1) = true := bne_iff_ne.mpr c31
            obtain rfl := Option.some.inj H
            go_wp2_with (first | ((with_reducible refine gate_callee (f := 8) rfl ?_); refine goesL_ (some 43) rfl rfl Try.func8 (by kernel_rfl) rfl #[.slice A0 l0.length c0, .int .i64 (Go.bits .and .i64 a1 1)] rfl (by (try simp only [List.map_toArray, List.map_cons, List.map_nil]); first | done | rfl | (simp only [List.length_drop, List.length_take]; rfl)) ?_; (with_reducible refine (seqs_Sequences.calls k1 _ _ l0 (Go.bits .and .i64 a1 1) t143 _ ?side1 ?side2 A17.out).mono ?_); (case side1 => repeat (first | exact (Kd.C_below HR0.out HB.out) | (with_reducible refine Kd.C_alloc ?_ _) | (with_reducible refine Kd.C_drewN ?_ _) | (with_reducible refine Kd.C_drew ?_))); (case side2 => exact HC0.out); rintro e w39 ⟨v144, rfl, ho0, hb⟩; refine ⟨_, rfl, ?_⟩; have n0_ := Aside0.mk (Kd.S_lower ho0 (below_size (by repeat (first | (with_reducible first | exact HB.out | apply below_alloc | apply pw_below_drewN | apply below_drew1) | exact HB.out)))); have n1_ := Aside0.mk (below_step (by repeat (first | (with_reducible first | exact HB.out | apply below_alloc | apply pw_below_drewN | apply below_drew1) | exact HB.out)) hb); clear HB; have HO145 := n0_; have HB := n1_; clear n0_ n1_; (try clear hb); (try clear hb2); (try clear hk); (try clear hi); (try clear ho0); obtain ⟨Ao40, co40, eo40⟩ := Kd.S_slice HO145.out; subst eo40; have p147 : 0 ≤ (0 : Int) := (by omega); have q147 : 0 < (t143.length : Int) := of_decide_eq_true (by first | (with_reducible assumption) | assumption); obtain ⟨ad147, A147_3, c147_3, e147, hx147_0, hx147_1, hx147_2, hx147_3, hl147_3, hi147_3⟩ := at_T28 (Kd.S_reads' HO145.out).2.2 0 p147 q147; cases e147; obtain ⟨ce147, hce147, hMe147, hcc147⟩ := Kd.S_get HO145.out z28 0 p147 (by first | exact q147 | exact of_decide_eq_true (by first | (with_reducible assumption) | assumption) | (have e_ := (Kd.S_reads' HO145.out).1; omega)); obtain ⟨ve147_3, rfl, ge147_3⟩ := k28_openM hMe147; have hv147_3 := hcc147 3 _ rfl; rw [add_field _ _ 3 (by omega)] at hv147_3; replace hv147_3 := Option.some.inj (hv147_3.symm.trans hx147_3); rw [hv147_3] at ge147_3; have HL147_3 := Aside0.mk (show Kd.R (Kd.int .i64) 3 _ _ _ _ ((rd_T28 t143 0).f3) from ge147_3); clear hv147_3 ge147_3; clear hcc147 hce147; have qi147 : (0 < t143.length) = True := eq_true (by omega); (try rw [show ((0 : Int)).toNat = 0 from rfl] at hx147_0); (try rw [show 0 * 4 = 0 from rfl] at hx147_0); (try rw [Addr.add_zero'] at hx147_0); (try rw [show ((0 : Int)).toNat = 0 from rfl] at hx147_1); (try rw [show 0 * 4 = 0 from rfl] at hx147_1); (try rw [Addr.add_zero'] at hx147_1); (try rw [show ((0 : Int)).toNat = 0 from rfl] at hx147_2); (try rw [show 0 * 4 = 0 from rfl] at hx147_2); (try rw [Addr.add_zero'] at hx147_2); (try rw [show ((0 : Int)).toNat = 0 from rfl] at hx147_3); (try rw [show 0 * 4 = 0 from rfl] at hx147_3); (try rw [Addr.add_zero'] at hx147_3); have HR147_3 := Aside0.mk hi147_3; have HC147_3 := Aside0.mk hl147_3; clear hi147_3 hl147_3; replace p147 := eq_true p147; replace q147 := eq_true q147; have p148 : 0 ≤ (0 : Int) := (by omega); have q148 : 0 < (t143.length : Int) := of_decide_eq_true (by first | (with_reducible assumption) | assumption); obtain ⟨ad148, A148_3, c148_3, e148, hx148_0, hx148_1, hx148_2, hx148_3, hl148_3, hi148_3⟩ := at_T28 (Kd.S_reads' HO145.out).2.2 0 p148 q148; obtain rfl : ad147 = ad148 := (by injection e148); obtain ⟨ce148, hce148, hMe148, hcc148⟩ := Kd.S_get HO145.out z28 0 p148 (by first | exact q148 | exact of_decide_eq_true (by first | (with_reducible assumption) | assumption) | (have e_ := (Kd.S_reads' HO145.out).1; omega)); obtain ⟨ve148_3, rfl, ge148_3⟩ := k28_openM hMe148; have hv148_3 := hcc148 3 _ rfl; rw [add_field _ _ 3 (by omega)] at hv148_3; replace hv148_3 := Option.some.inj (hv148_3.symm.trans hx148_3); rw [hv148_3] at ge148_3; have HL148_3 := Aside0.mk (show Kd.R (Kd.int .i64) 3 _ _ _ _ ((rd_T28 t143 0).f3) from ge148_3); clear hv148_3 ge148_3; clear hcc148 hce148; have qi148 : (0 < t143.length) = True := eq_true (by omega); (try rw [show ((0 : Int)).toNat = 0 from rfl] at hx148_0); (try rw [show 0 * 4 = 0 from rfl] at hx148_0); (try rw [Addr.add_zero'] at hx148_0); (try rw [show ((0 : Int)).toNat = 0 from rfl] at hx148_1); (try rw [show 0 * 4 = 0 from rfl] at hx148_1); (try rw [Addr.add_zero'] at hx148_1); (try rw [show ((0 : Int)).toNat = 0 from rfl] at hx148_2); (try rw [show 0 * 4 = 0 from rfl] at hx148_2); (try rw [Addr.add_zero'] at hx148_2); (try rw [show ((0 : Int)).toNat = 0 from rfl] at hx148_3); (try rw [show 0 * 4 = 0 from rfl] at hx148_3); (try rw [Addr.add_zero'] at hx148_3); have HR148_3 := Aside0.mk hi148_3; have HC148_3 := Aside0.mk hl148_3; clear hi148_3 hl148_3; replace p148 := eq_true p148; replace q148 := eq_true q148; have ea_ := Option.some.inj (hx147_3.symm.trans hx148_3); injection ea_ with ea_ en_ ec_; subst ea_; subst ec_; clear en_; have p149 : 0 ≤ (0 : Int) := (by omega); have q149 : 0 < (t143.length : Int) := of_decide_eq_true (by first | (with_reducible assumption) | assumption); obtain ⟨ad149, A149_3, c149_3, e149, hx149_0, hx149_1, hx149_2, hx149_3, hl149_3, hi149_3⟩ := at_T28 (Kd.S_reads' HO145.out).2.2 0 p149 q149; obtain rfl : ad147 = ad149 := (by injection e149); obtain ⟨ce149, hce149, hMe149, hcc149⟩ := Kd.S_get HO145.out z28 0 p149 (by first | exact q149 | exact of_decide_eq_true (by first | (with_reducible assumption) | assumption) | (have e_ := (Kd.S_reads' HO145.out).1; omega)); obtain ⟨ve149_3, rfl, ge149_3⟩ := k28_openM hMe149; have hv149_3 := hcc149 3 _ rfl; rw [add_field _ _ 3 (by omega)] at hv149_3; replace hv149_3 := Option.some.inj (hv149_3.symm.trans hx149_3); rw [hv149_3] at ge149_3; have HL149_3 := Aside0.mk (show Kd.R (Kd.int .i64) 3 _ _ _ _ ((rd_T28 t143 0).f3) from ge149_3); clear hv149_3 ge149_3; clear hcc149 hce149; have qi149 : (0 < t143.length) = True := eq_true (by omega); (try rw [show ((0 : Int)).toNat = 0 from rfl] at hx149_0); (try rw [show 0 * 4 = 0 from rfl] at hx149_0); (try rw [Addr.add_zero'] at hx149_0); (try rw [show ((0 : Int)).toNat = 0 from rfl] at hx149_1); (try rw [show 0 * 4 = 0 from rfl] at hx149_1); (try rw [Addr.add_zero'] at hx149_1); (try rw [show ((0 : Int)).toNat = 0 from rfl] at hx149_2); (try rw [show 0 * 4 = 0 from rfl] at hx149_2); (try rw [Addr.add_zero'] at hx149_2); (try rw [show ((0 : Int)).toNat = 0 from rfl] at hx149_3); (try rw [show 0 * 4 = 0 from rfl] at hx149_3); (try rw [Addr.add_zero'] at hx149_3); have HR149_3 := Aside0.mk hi149_3; have HC149_3 := Aside0.mk hl149_3; clear hi149_3 hl149_3; replace p149 := eq_true p149; replace q149 := eq_true q149; have ea_ := Option.some.inj (hx147_3.symm.trans hx149_3); injection ea_ with ea_ en_ ec_; subst ea_; subst ec_; clear en_))
            go_ret
            exact ⟨by first | rfl | (simp [errW_none, errW_some] <;> rfl) | (simp [*, errW_none, errW_some] <;> rfl), by repeat (first | (with_reducible first | exact HB.out | apply below_alloc | apply pw_below_drewN | apply below_drew1) | exact HB.out)⟩
          ·
           rw [if_neg c30] at H
           have c30b0 : (((rd_T28 t143 0).f0) == (Go.bits .and .i64 a1 1)) = false := beq_eq_false_iff_ne.mpr c30
           have c30b1 : (((rd_T28 t143 0).f0) != (Go.bits .and .i64 a1 1)) = true := bne_iff_ne.mpr c30
           obtain rfl := Option.some.inj H
           go_wp2_with (first | ((with_reducible refine gate_callee (f := 8) rfl ?_); refine goesL_ (some 43) rfl rfl Try.func8 (by kernel_rfl) rfl #[.slice A0 l0.length c0, .int .i64 (Go.bits .and .i64 a1 1)] rfl (by (try simp only [List.map_toArray, List.map_cons, List.map_nil]); first | done | rfl | (simp only [List.length_drop, List.length_take]; rfl)) ?_; (with_reducible refine (seqs_Sequences.calls k1 _ _ l0 (Go.bits .and .i64 a1 1) t143 _ ?side1 ?side2 A17.out).mono ?_); (case side1 => repeat (first | exact (Kd.C_below HR0.out HB.out) | (with_reducible refine Kd.C_alloc ?_ _) | (with_reducible refine Kd.C_drewN ?_ _) | (with_reducible refine Kd.C_drew ?_))); (case side2 => exact HC0.out); rintro e w41 ⟨v144, rfl, ho0, hb⟩; refine ⟨_, rfl, ?_⟩; have n0_ := Aside0.mk (Kd.S_lower ho0 (below_size (by repeat (first | (with_reducible first | exact HB.out | apply below_alloc | apply pw_below_drewN | apply below_drew1) | exact HB.out)))); have n1_ := Aside0.mk (below_step (by repeat (first | (with_reducible first | exact HB.out | apply below_alloc | apply pw_below_drewN | apply below_drew1) | exact HB.out)) hb); clear HB; have HO145 := n0_; have HB := n1_; clear n0_ n1_; (try clear hb); (try clear hb2); (try clear hk); (try clear hi); (try clear ho0); obtain ⟨Ao42, co42, eo42⟩ := Kd.S_slice HO145.out; subst eo42; have p147 : 0 ≤ (0 : Int) := (by omega); have q147 : 0 < (t143.length : Int) := of_decide_eq_true (by first | (with_reducible assumption) | assumption); obtain ⟨ad147, A147_3, c147_3, e147, hx147_0, hx147_1, hx147_2, hx147_3, hl147_3, hi147_3⟩ := at_T28 (Kd.S_reads' HO145.out).2.2 0 p147 q147; cases e147; obtain ⟨ce147, hce147, hMe147, hcc147⟩ := Kd.S_get HO145.out z28 0 p147 (by first | exact q147 | exact of_decide_eq_true (by first | (with_reducible assumption) | assumption) | (have e_ := (Kd.S_reads' HO145.out).1; omega)); obtain ⟨ve147_3, rfl, ge147_3⟩ := k28_openM hMe147; have hv147_3 := hcc147 3 _ rfl; rw [add_field _ _ 3 (by omega)] at hv147_3; replace hv147_3 := Option.some.inj (hv147_3.symm.trans hx147_3); rw [hv147_3] at ge147_3; have HL147_3 := Aside0.mk (show Kd.R (Kd.int .i64) 3 _ _ _ _ ((rd_T28 t143 0).f3) from ge147_3); clear hv147_3 ge147_3; clear hcc147 hce147; have qi147 : (0 < t143.length) = True := eq_true (by omega); (try rw [show ((0 : Int)).toNat = 0 from rfl] at hx147_0); (try rw [show 0 * 4 = 0 from rfl] at hx147_0); (try rw [Addr.add_zero'] at hx147_0); (try rw [show ((0 : Int)).toNat = 0 from rfl] at hx147_1); (try rw [show 0 * 4 = 0 from rfl] at hx147_1); (try rw [Addr.add_zero'] at hx147_1); (try rw [show ((0 : Int)).toNat = 0 from rfl] at hx147_2); (try rw [show 0 * 4 = 0 from rfl] at hx147_2); (try rw [Addr.add_zero'] at hx147_2); (try rw [show ((0 : Int)).toNat = 0 from rfl] at hx147_3); (try rw [show 0 * 4 = 0 from rfl] at hx147_3); (try rw [Addr.add_zero'] at hx147_3); have HR147_3 := Aside0.mk hi147_3; have HC147_3 := Aside0.mk hl147_3; clear hi147_3 hl147_3; replace p147 := eq_true p147; replace q147 := eq_true q147; have p148 : 0 ≤ (0 : Int) := (by omega); have q148 : 0 < (t143.length : Int) := of_decide_eq_true (by first | (with_reducible assumption) | assumption); obtain ⟨ad148, A148_3, c148_3, e148, hx148_0, hx148_1, hx148_2, hx148_3, hl148_3, hi148_3⟩ := at_T28 (Kd.S_reads' HO145.out).2.2 0 p148 q148; obtain rfl : ad147 = ad148 := (by injection e148); obtain ⟨ce148, hce148, hMe148, hcc148⟩ := Kd.S_get HO145.out z28 0 p148 (by first | exact q148 | exact of_decide_eq_true (by first | (with_reducible assumption) | assumption) | (have e_ := (Kd.S_reads' HO145.out).1; omega)); obtain ⟨ve148_3, rfl, ge148_3⟩ := k28_openM hMe148; have hv148_3 := hcc148 3 _ rfl; rw [add_field _ _ 3 (by omega)] at hv148_3; replace hv148_3 := Option.some.inj (hv148_3.symm.trans hx148_3); rw [hv148_3] at ge148_3; have HL148_3 := Aside0.mk (show Kd.R (Kd.int .i64) 3 _ _ _ _ ((rd_T28 t143 0).f3) from ge148_3); clear hv148_3 ge148_3; clear hcc148 hce148; have qi148 : (0 < t143.length) = True := eq_true (by omega); (try rw [show ((0 : Int)).toNat = 0 from rfl] at hx148_0); (try rw [show 0 * 4 = 0 from rfl] at hx148_0); (try rw [Addr.add_zero'] at hx148_0); (try rw [show ((0 : Int)).toNat = 0 from rfl] at hx148_1); (try rw [show 0 * 4 = 0 from rfl] at hx148_1); (try rw [Addr.add_zero'] at hx148_1); (try rw [show ((0 : Int)).toNat = 0 from rfl] at hx148_2); (try rw [show 0 * 4 = 0 from rfl] at hx148_2); (try rw [Addr.add_zero'] at hx148_2); (try rw [show ((0 : Int)).toNat = 0 from rfl] at hx148_3); (try rw [show 0 * 4 = 0 from rfl] at hx148_3); (try rw [Addr.add_zero'] at hx148_3); have HR148_3 := Aside0.mk hi148_3; have HC148_3 := Aside0.mk hl148_3; clear hi148_3 hl148_3; replace p148 := eq_true p148; replace q148 := eq_true q148; have ea_ := Option.some.inj (hx147_3.symm.trans hx148_3); injection ea_ with ea_ en_ ec_; subst ea_; subst ec_; clear en_))
           go_ret
           exact ⟨by first | rfl | (simp [errW_none, errW_some] <;> rfl) | (simp [*, errW_none, errW_some] <;> rfl), by repeat (first | (with_reducible first | exact HB.out | apply below_alloc | apply pw_below_drewN | apply below_drew1) | exact HB.out)⟩
         ·
          rw [if_neg c29] at H
          have c29b0 : ((((rd_T28 t143 0).f3).length : Int) == x5_1) = false := beq_eq_false_iff_ne.mpr c29
          have c29b1 : ((((rd_T28 t143 0).f3).length : Int) != x5_1) = true := bne_iff_ne.mpr c29
          obtain rfl := Option.some.inj H
          go_wp2_with (first | ((with_reducible refine gate_callee (f := 8) rfl ?_); refine goesL_ (some 43) rfl rfl Try.func8 (by kernel_rfl) rfl #[.slice A0 l0.length c0, .int .i64 (Go.bits .and .i64 a1 1)] rfl (by (try simp only [List.map_toArray, List.map_cons, List.map_nil]); first | done | rfl | (simp only [List.length_drop, List.length_take]; rfl)) ?_; (with_reducible refine (seqs_Sequences.calls k1 _ _ l0 (Go.bits .and .i64 a1 1) t143 _ ?side1 ?side2 A17.out).mono ?_); (case side1 => repeat (first | exact (Kd.C_below HR0.out HB.out) | (with_reducible refine Kd.C_alloc ?_ _) | (with_reducible refine Kd.C_drewN ?_ _) | (with_reducible refine Kd.C_drew ?_))); (case side2 => exact HC0.out); rintro e w43 ⟨v144, rfl, ho0, hb⟩; refine ⟨_, rfl, ?_⟩; have n0_ := Aside0.mk (Kd.S_lower ho0 (below_size (by repeat (first | (with_reducible first | exact HB.out | apply below_alloc | apply pw_below_drewN | apply below_drew1) | exact HB.out)))); have n1_ := Aside0.mk (below_step (by repeat (first | (with_reducible first | exact HB.out | apply below_alloc | apply pw_below_drewN | apply below_drew1) | exact HB.out)) hb); clear HB; have HO145 := n0_; have HB := n1_; clear n0_ n1_; (try clear hb); (try clear hb2); (try clear hk); (try clear hi); (try clear ho0); obtain ⟨Ao44, co44, eo44⟩ := Kd.S_slice HO145.out; subst eo44; have p147 : 0 ≤ (0 : Int) := (by omega); have q147 : 0 < (t143.length : Int) := of_decide_eq_true (by first | (with_reducible assumption) | assumption); obtain ⟨ad147, A147_3, c147_3, e147, hx147_0, hx147_1, hx147_2, hx147_3, hl147_3, hi147_3⟩ := at_T28 (Kd.S_reads' HO145.out).2.2 0 p147 q147; cases e147; obtain ⟨ce147, hce147, hMe147, hcc147⟩ := Kd.S_get HO145.out z28 0 p147 (by first | exact q147 | exact of_decide_eq_true (by first | (with_reducible assumption) | assumption) | (have e_ := (Kd.S_reads' HO145.out).1; omega)); obtain ⟨ve147_3, rfl, ge147_3⟩ := k28_openM hMe147; have hv147_3 := hcc147 3 _ rfl; rw [add_field _ _ 3 (by omega)] at hv147_3; replace hv147_3 := Option.some.inj (hv147_3.symm.trans hx147_3); rw [hv147_3] at ge147_3; have HL147_3 := Aside0.mk (show Kd.R (Kd.int .i64) 3 _ _ _ _ ((rd_T28 t143 0).f3) from ge147_3); clear hv147_3 ge147_3; clear hcc147 hce147; have qi147 : (0 < t143.length) = True := eq_true (by omega); (try rw [show ((0 : Int)).toNat = 0 from rfl] at hx147_0); (try rw [show 0 * 4 = 0 from rfl] at hx147_0); (try rw [Addr.add_zero'] at hx147_0); (try rw [show ((0 : Int)).toNat = 0 from rfl] at hx147_1); (try rw [show 0 * 4 = 0 from rfl] at hx147_1); (try rw [Addr.add_zero'] at hx147_1); (try rw [show ((0 : Int)).toNat = 0 from rfl] at hx147_2); (try rw [show 0 * 4 = 0 from rfl] at hx147_2); (try rw [Addr.add_zero'] at hx147_2); (try rw [show ((0 : Int)).toNat = 0 from rfl] at hx147_3); (try rw [show 0 * 4 = 0 from rfl] at hx147_3); (try rw [Addr.add_zero'] at hx147_3); have HR147_3 := Aside0.mk hi147_3; have HC147_3 := Aside0.mk hl147_3; clear hi147_3 hl147_3; replace p147 := eq_true p147; replace q147 := eq_true q147))
          go_ret
          exact ⟨by first | rfl | (simp [errW_none, errW_some] <;> rfl) | (simp [*, errW_none, errW_some] <;> rfl), by repeat (first | (with_reducible first | exact HB.out | apply below_alloc | apply pw_below_drewN | apply below_drew1) | exact HB.out)⟩
        ·
         rw [if_neg c28] at H
         exact absurd H (by simp)
       ·
        rw [if_neg c27] at H
        have c27b0 : ((t143.length : Int) == 1) = false := beq_eq_false_iff_ne.mpr c27
        have c27b1 : ((t143.length : Int) != 1) = true := bne_iff_ne.mpr c27
        obtain rfl := Option.some.inj H
        go_wp2_with (first | ((with_reducible refine gate_callee (f := 8) rfl ?_); refine goesL_ (some 43) rfl rfl Try.func8 (by kernel_rfl) rfl #[.slice A0 l0.length c0, .int .i64 (Go.bits .and .i64 a1 1)] rfl (by (try simp only [List.map_toArray, List.map_cons, List.map_nil]); first | done | rfl | (simp only [List.length_drop, List.length_take]; rfl)) ?_; (with_reducible refine (seqs_Sequences.calls k1 _ _ l0 (Go.bits .and .i64 a1 1) t143 _ ?side1 ?side2 A17.out).mono ?_); (case side1 => repeat (first | exact (Kd.C_below HR0.out HB.out) | (with_reducible refine Kd.C_alloc ?_ _) | (with_reducible refine Kd.C_drewN ?_ _) | (with_reducible refine Kd.C_drew ?_))); (case side2 => exact HC0.out); rintro e w45 ⟨v144, rfl, ho0, hb⟩; refine ⟨_, rfl, ?_⟩; have n0_ := Aside0.mk (Kd.S_lower ho0 (below_size (by repeat (first | (with_reducible first | exact HB.out | apply below_alloc | apply pw_below_drewN | apply below_drew1) | exact HB.out)))); have n1_ := Aside0.mk (below_step (by repeat (first | (with_reducible first | exact HB.out | apply below_alloc | apply pw_below_drewN | apply below_drew1) | exact HB.out)) hb); clear HB; have HO145 := n0_; have HB := n1_; clear n0_ n1_; (try clear hb); (try clear hb2); (try clear hk); (try clear hi); (try clear ho0); obtain ⟨Ao46, co46, eo46⟩ := Kd.S_slice HO145.out; subst eo46))
        go_ret
        exact ⟨by first | rfl | (simp [errW_none, errW_some] <;> rfl) | (simp [*, errW_none, errW_some] <;> rfl), by repeat (first | (with_reducible first | exact HB.out | apply below_alloc | apply pw_below_drewN | apply below_drew1) | exact HB.out)⟩
      ·
       rw [if_neg c26] at H
       have c26b0 : ((Go.bits .and .i64 a1 1) == 1) = false := beq_eq_false_iff_ne.mpr c26
       have c26b1 : ((Go.bits .and .i64 a1 1) != 1) = true := bne_iff_ne.mpr c26
       by_cases c47 : (t143.length : Int) = 1
       ·
        rw [if_pos c47] at H
        have c47b0 : ((t143.length : Int) == 1) = true := beq_iff_eq.mpr c47
        have c47b1 : ((t143.length : Int) != 1) = false := bne_eq_false_iff_eq.mpr c47
        clear c47
        by_cases c48 : 0 < (t143.length : Int)
        ·
         rw [if_pos c48] at H
         have c48b0 : decide (0 < (t143.length : Int)) = true := decide_eq_true c48
         have c48b1 : decide (0 < t143.length) = true := decide_eq_true (by omega)
         clear c48
         by_cases c49 : (((rd_T28 t143 0).f3).length : Int) = x5_1
         ·
          rw [if_pos c49] at H
          have c49b0 : ((((rd_T28 t143 0).f3).length : Int) == x5_1) = true := beq_iff_eq.mpr c49
          have c49b1 : ((((rd_T28 t143 0).f3).length : Int) != x5_1) = false := bne_eq_false_iff_eq.mpr c49
          clear c49
          by_cases c50 : ((rd_T28 t143 0).f0) = (Go.bits .and .i64 a1 1)
          ·
           rw [if_pos c50] at H
           have c50b0 : (((rd_T28 t143 0).f0) == (Go.bits .and .i64 a1 1)) = true := beq_iff_eq.mpr c50
           have c50b1 : (((rd_T28 t143 0).f0) != (Go.bits .and .i64 a1 1)) = false := bne_eq_false_iff_eq.mpr c50
           clear c50
           by_cases c51 : ((rd_T28 t143 0).f1) = 0
           ·
            rw [if_pos c51] at H
            have c51b0 : (((rd_T28 t143 0).f1) == 0) = true := beq_iff_eq.mpr c51
            have c51b1 : (((rd_T28 t143 0).f1) != 0) = false := bne_eq_false_iff_eq.mpr c51
            clear c51
            by_cases c52 : ((rd_T28 t143 0).f2) = 0
            ·
             rw [if_pos c52] at H
             have c52b0 : (((rd_T28 t143 0).f2) == 0) = true := beq_iff_eq.mpr c52
             have c52b1 : (((rd_T28 t143 0).f2) != 0) = false := bne_eq_false_iff_eq.mpr c52
             clear c52
             replace H := Option.bind_eq_some_iff.mp H
             obtain ⟨t156, A530, H⟩ := H
             replace H : (some t156) = some r := H
             have A53 := Aside0.mk A530
             clear A530
             obtain rfl := Option.some.inj H
             go_wp2_with (first | ((with_reducible refine gate_callee (f := 8) rfl ?_); refine goesL_ (some 43) rfl rfl Try.func8 (by kernel_rfl) rfl #[.slice A0 l0.length c0, .int .i64 (Go.bits .and .i64 a1 1)] rfl (by (try simp only [List.map_toArray, List.map_cons, List.map_nil]); first | done | rfl | (simp only [List.length_drop, List.length_take]; rfl)) ?_; (with_reducible refine (seqs_Sequences.calls k1 _ _ l0 (Go.bits .and .i64 a1 1) t143 _ ?side1 ?side2 A17.out).mono ?_); (case side1 => repeat (first | exact (Kd.C_below HR0.out HB.out) | (with_reducible refine Kd.C_alloc ?_ _) | (with_reducible refine Kd.C_drewN ?_ _) | (with_reducible refine Kd.C_drew ?_))); (case side2 => exact HC0.out); rintro e w54 ⟨v144, rfl, ho0, hb⟩; refine ⟨_, rfl, ?_⟩; have n0_ := Aside0.mk (Kd.S_lower ho0 (below_size (by repeat (first | (with_reducible first | exact HB.out | apply below_alloc | apply pw_below_drewN | apply below_drew1) | exact HB.out)))); have n1_ := Aside0.mk (below_step (by repeat (first | (with_reducible first | exact HB.out | apply below_alloc | apply pw_below_drewN | apply below_drew1) | exact HB.out)) hb); clear HB; have HO145 := n0_; have HB := n1_; clear n0_ n1_; (try clear hb); (try clear hb2); (try clear hk); (try clear hi); (try clear ho0); obtain ⟨Ao55, co55, eo55⟩ := Kd.S_slice HO145.out; subst eo55; have p152 : 0 ≤ (0 : Int) := (by omega); have q152 : 0 < (t143.length : Int) := of_decide_eq_true (by first | (with_reducible assumption) | assumption); obtain ⟨ad152, A152_3, c152_3, e152, hx152_0, hx152_1, hx152_2, hx152_3, hl152_3, hi152_3⟩ := at_T28 (Kd.S_reads' HO145.out).2.2 0 p152 q152; cases e152; obtain ⟨ce152, hce152, hMe152, hcc152⟩ := Kd.S_get HO145.out z28 0 p152 (by first | exact q152 | exact of_decide_eq_true (by first | (with_reducible assumption) | assumption) | (have e_ := (Kd.S_reads' HO145.out).1; omega)); obtain ⟨ve152_3, rfl, ge152_3⟩ := k28_openM hMe152; have hv152_3 := hcc152 3 _ rfl; rw [add_field _ _ 3 (by omega)] at hv152_3; replace hv152_3 := Option.some.inj (hv152_3.symm.trans hx152_3); rw [hv152_3] at ge152_3; have HL152_3 := Aside0.mk (show Kd.R (Kd.int .i64) 3 _ _ _ _ ((rd_T28 t143 0).f3) from ge152_3); clear hv152_3 ge152_3; clear hcc152 hce152; have qi152 : (0 < t143.length) = True := eq_true (by omega); (try rw [show ((0 : Int)).toNat = 0 from rfl] at hx152_0); (try rw [show 0 * 4 = 0 from rfl] at hx152_0); (try rw [Addr.add_zero'] at hx152_0); (try rw [show ((0 : Int)).toNat = 0 from rfl] at hx152_1); (try rw [show 0 * 4 = 0 from rfl] at hx152_1); (try rw [Addr.add_zero'] at hx152_1); (try rw [show ((0 : Int)).toNat = 0 from rfl] at hx152_2); (try rw [show 0 * 4 = 0 from rfl] at hx152_2); (try rw [Addr.add_zero'] at hx152_2); (try rw [show ((0 : Int)).toNat = 0 from rfl] at hx152_3); (try rw [show 0 * 4 = 0 from rfl] at hx152_3); (try rw [Addr.add_zero'] at hx152_3); have HR152_3 := Aside0.mk hi152_3; have HC152_3 := Aside0.mk hl152_3; clear hi152_3 hl152_3; replace p152 := eq_true p152; replace q152 := eq_true q152; have p153 : 0 ≤ (0 : Int) := (by omega); have q153 : 0 < (t143.length : Int) := of_decide_eq_true (by first | (with_reducible assumption) | assumption); obtain ⟨ad153, A153_3, c153_3, e153, hx153_0, hx153_1, hx153_2, hx153_3, hl153_3, hi153_3⟩ := at_T28 (Kd.S_reads' HO145.out).2.2 0 p153 q153; obtain rfl : ad152 = ad153 := (by injection e153); obtain ⟨ce153, hce153, hMe153, hcc153⟩ := Kd.S_get HO145.out z28 0 p153 (by first | exact q153 | exact of_decide_eq_true (by first | (with_reducible assumption) | assumption) | (have e_ := (Kd.S_reads' HO145.out).1; omega)); obtain ⟨ve153_3, rfl, ge153_3⟩ := k28_openM hMe153; have hv153_3 := hcc153 3 _ rfl; rw [add_field _ _ 3 (by omega)] at hv153_3; replace hv153_3 := Option.some.inj (hv153_3.symm.trans hx153_3); rw [hv153_3] at ge153_3; have HL153_3 := Aside0.mk (show Kd.R (Kd.int .i64) 3 _ _ _ _ ((rd_T28 t143 0).f3) from ge153_3); clear hv153_3 ge153_3; clear hcc153 hce153; have qi153 : (0 < t143.length) = True := eq_true (by omega); (try rw [show ((0 : Int)).toNat = 0 from rfl] at hx153_0); (try rw [show 0 * 4 = 0 from rfl] at hx153_0); (try rw [Addr.add_zero'] at hx153_0); (try rw [show ((0 : Int)).toNat = 0 from rfl] at hx153_1); (try rw [show 0 * 4 = 0 from rfl] at hx153_1); (try rw [Addr.add_zero'] at hx153_1); (try rw [show ((0 : Int)).toNat = 0 from rfl] at hx153_2); (try rw [show 0 * 4 = 0 from rfl] at hx153_2); (try rw [Addr.add_zero'] at hx153_2); (try rw [show ((0 : Int)).toNat = 0 from rfl] at hx153_3); (try rw [show 0 * 4 = 0 from rfl] at hx153_3); (try rw [Addr.add_zero'] at hx153_3); have HR153_3 := Aside0.mk hi153_3; have HC153_3 := Aside0.mk hl153_3; clear hi153_3 hl153_3; replace p153 := eq_true p153; replace q153 := eq_true q153; have ea_ := Option.some.inj (hx152_3.symm.trans hx153_3); injection ea_ with ea_ en_ ec_; subst ea_; subst ec_; clear en_; have p154 : 0 ≤ (0 : Int) := (by omega); have q154 : 0 < (t143.length : Int) := of_decide_eq_true (by first | (with_reducible assumption) | assumption); obtain ⟨ad154, A154_3, c154_3, e154, hx154_0, hx154_1, hx154_2, hx154_3, hl154_3, hi154_3⟩ := at_T28 (Kd.S_reads' HO145.out).2.2 0 p154 q154; obtain rfl : ad152 = ad154 := (by injection e154); obtain ⟨ce154, hce154, hMe154, hcc154⟩ := Kd.S_get HO145.out z28 0 p154 (by first | exact q154 | exact of_decide_eq_true (by first | (with_reducible assumption) | assumption) | (have e_ := (Kd.S_reads' HO145.out).1; omega)); obtain ⟨ve154_3, rfl, ge154_3⟩ := k28_openM hMe154; have hv154_3 := hcc154 3 _ rfl; rw [add_field _ _ 3 (by omega)] at hv154_3; replace hv154_3 := Option.some.inj (hv154_3.symm.trans hx154_3); rw [hv154_3] at ge154_3; have HL154_3 := Aside0.mk (show Kd.R (Kd.int .i64) 3 _ _ _ _ ((rd_T28 t143 0).f3) from ge154_3); clear hv154_3 ge154_3; clear hcc154 hce154; have qi154 : (0 < t143.length) = True := eq_true (by omega); (try rw [show ((0 : Int)).toNat = 0 from rfl] at hx154_0); (try rw [show 0 * 4 = 0 from rfl] at hx154_0); (try rw [Addr.add_zero'] at hx154_0); (try rw [show ((0 : Int)).toNat = 0 from rfl] at hx154_1); (try rw [show 0 * 4 = 0 from rfl] at hx154_1); (try rw [Addr.add_zero'] at hx154_1); (try rw [show ((0 : Int)).toNat = 0 from rfl] at hx154_2); (try rw [show 0 * 4 = 0 from rfl] at hx154_2); (try rw [Addr.add_zero'] at hx154_2); (try rw [show ((0 : Int)).toNat = 0 from rfl] at hx154_3); (try rw [show 0 * 4 = 0 from rfl] at hx154_3); (try rw [Addr.add_zero'] at hx154_3); have HR154_3 := Aside0.mk hi154_3; have HC154_3 := Aside0.mk hl154_3; clear hi154_3 hl154_3; replace p154 := eq_true p154; replace q154 := eq_true q154; have ea_ := Option.some.inj (hx152_3.symm.trans hx154_3); injection ea_ with ea_ en_ ec_; subst ea_; subst ec_; clear en_; have p155 : 0 ≤ (0 : Int) := (by omega); have q155 : 0 < (t143.length : Int) := of_decide_eq_true (by first | (with_reducible assumption) | assumption); obtain ⟨ad155, A155_3, c155_3, e155, hx155_0, hx155_1, hx155_2, hx155_3, hl155_3, hi155_3⟩ := at_T28 (Kd.S_reads' HO145.out).2.2 0 p155 q155; obtain rfl : ad152 = ad155 := (by injection e155); obtain ⟨ce155, hce155, hMe155, hcc155⟩ := Kd.S_get HO145.out z28 0 p155 (by first | exact q155 | exact of_decide_eq_true (by first | (with_reducible assumption) | assumption) | (have e_ := (Kd.S_reads' HO145.out).1; omega)); obtain ⟨ve155_3, rfl, ge155_3⟩ := k28_openM hMe155; have hv155_3 := hcc155 3 _ rfl; rw [add_field _ _ 3 (by omega)] at hv155_3; replace hv155_3 := Option.some.inj (hv155_3.symm.trans hx155_3); rw [hv155_3] at ge155_3; have HL155_3 := Aside0.mk (show Kd.R (Kd.int .i64) 3 _ _ _ _ ((rd_T28 t143 0).f3) from ge155_3); clear hv155_3 ge155_3; clear hcc155 hce155; have qi155 : (0 < t143.length) = True := eq_true (by omega); (try rw [show ((0 : Int)).toNat = 0 from rfl] at hx155_0); (try rw [show 0 * 4 = 0 from rfl] at hx155_0); (try rw [Addr.add_zero'] at hx155_0); (try rw [show ((0 : Int)).toNat = 0 from rfl] at hx155_1); (try rw [show 0 * 4 = 0 from rfl] at hx155_1); (try rw [Addr.add_zero'] at hx155_1); (try rw [show ((0 : Int)).toNat = 0 from rfl] at hx155_2); (try rw [show 0 * 4 = 0 from rfl] at hx155_2); (try rw [Addr.add_zero'] at hx155_2); (try rw [show ((0 : Int)).toNat = 0 from rfl] at hx155_3); (try rw [show 0 * 4 = 0 from rfl] at hx155_3); (try rw [Addr.add_zero'] at hx155_3); have HR155_3 := Aside0.mk hi155_3; have HC155_3 := Aside0.mk hl155_3; clear hi155_3 hl155_3; replace p155 := eq_true p155; replace q155 := eq_true q155; have ea_ := Option.some.inj (hx152_3.symm.trans hx155_3); injection ea_ with ea_ en_ ec_; subst ea_; subst ec_; clear en_) | (go_at_call 7; (with_reducible refine (parquetrylaw12_awake.calls k1  t156 _ A53.out).mono ?_); rintro e w56 ⟨rfl, hb⟩; have n0_ := Aside0.mk (Kd.S_below (by (with_reducible repeat (first | apply Kd.S_alloc | apply Kd.S_drewN | apply Kd.S_drew)); exact HO145.out) hb); have n1_ := Aside0.mk (Kd.R_below (by (with_reducible repeat (first | apply Kd.R_alloc | apply Kd.R_drewN | apply Kd.R_drew)); exact HL152_3.out) hb); have n2_ := Aside0.mk (Kd.R_below (by (with_reducible repeat (first | apply Kd.R_alloc | apply Kd.R_drewN | apply Kd.R_drew)); exact HL153_3.out) hb); have n3_ := Aside0.mk (Kd.R_below (by (with_reducible repeat (first | apply Kd.R_alloc | apply Kd.R_drewN | apply Kd.R_drew)); exact HL154_3.out) hb); have n4_ := Aside0.mk (Kd.R_below (by (with_reducible repeat (first | apply Kd.R_alloc | apply Kd.R_drewN | apply Kd.R_drew)); exact HL155_3.out) hb); have n5_ := Aside0.mk (Kd.C_below (by repeat (first | (with_reducible exact HR152_3.out) | (with_reducible refine Kd.C_alloc ?_ _) | (with_reducible refine Kd.C_drewN ?_ _) | (with_reducible refine Kd.C_drew ?_) | exact HR152_3.out)) hb); have n6_ := Aside0.mk (Kd.C_below (by repeat (first | (with_reducible exact HR153_3.out) | (with_reducible refine Kd.C_alloc ?_ _) | (with_reducible refine Kd.C_drewN ?_ _) | (with_reducible refine Kd.C_drew ?_) | exact HR153_3.out)) hb); have n7_ := Aside0.mk (Kd.C_below (by repeat (first | (with_reducible exact HR154_3.out) | (with_reducible refine Kd.C_alloc ?_ _) | (with_reducible refine Kd.C_drewN ?_ _) | (with_reducible refine Kd.C_drew ?_) | exact HR154_3.out)) hb); have n8_ := Aside0.mk (Kd.C_below (by repeat (first | (with_reducible exact HR155_3.out) | (with_reducible refine Kd.C_alloc ?_ _) | (with_reducible refine Kd.C_drewN ?_ _) | (with_reducible refine Kd.C_drew ?_) | exact HR155_3.out)) hb); have n9_ := Aside0.mk (below_step (by repeat (first | (with_reducible first | exact HB.out | apply below_alloc | apply pw_below_drewN | apply below_drew1) | exact HB.out)) hb); clear HO145; clear HL152_3; clear HL153_3; clear HL154_3; clear HL155_3; clear HR152_3; clear HR153_3; clear HR154_3; clear HR155_3; clear HB; have HO145 := n0_; have HL152_3 := n1_; have HL153_3 := n2_; have HL154_3 := n3_; have HL155_3 := n4_; have HR152_3 := n5_; have HR153_3 := n6_; have HR154_3 := n7_; have HR155_3 := n8_; have HB := n9_; clear n0_ n1_ n2_ n3_ n4_ n5_ n6_ n7_ n8_ n9_; (try clear hb); (try clear hb2); (try clear hk); (try clear hi)))
             go_ret
             exact ⟨by first | rfl | (simp [errW_none, errW_some] <;> rfl) | (simp [*, errW_none, errW_some] <;> rfl), by repeat (first | (with_reducible first | exact HB.out | apply below_alloc | apply pw_below_drewN | apply below_drew1) | exact HB.out)⟩
            ·
             rw [if_neg c52] at H
             have c52b0 : (((rd_T28 t143 0).f2) == 0) = false := beq_eq_false_iff_ne.mpr c52
             have c52b1 : (((rd_T28 t143 0).f2) != 0) = true := bne_iff_ne.mpr c52
             obtain rfl := Option.some.inj H
             go_wp2_with (first | ((with_reducible refine gate_callee (f := 8) rfl ?_); refine goesL_ (some 43) rfl rfl Try.func8 (by kernel_rfl) rfl #[.slice A0 l0.length c0, .int .i64 (Go.bits .and .i64 a1 1)] rfl (by (try simp only [List.map_toArray, List.map_cons, List.map_nil]); first | done | rfl | (simp only [List.length_drop, List.length_take]; rfl)) ?_; (with_reducible refine (seqs_Sequences.calls k1 _ _ l0 (Go.bits .and .i64 a1 1) t143 _ ?side1 ?side2 A17.out).mono ?_); (case side1 => repeat (first | exact (Kd.C_below HR0.out HB.out) | (with_reducible refine Kd.C_alloc ?_ _) | (with_reducible refine Kd.C_drewN ?_ _) | (with_reducible refine Kd.C_drew ?_))); (case side2 => exact HC0.out); rintro e w57 ⟨v144, rfl, ho0, hb⟩; refine ⟨_, rfl, ?_⟩; have n0_ := Aside0.mk (Kd.S_lower ho0 (below_size (by repeat (first | (with_reducible first | exact HB.out | apply below_alloc | apply pw_below_drewN | apply below_drew1) | exact HB.out)))); have n1_ := Aside0.mk (below_step (by repeat (first | (with_reducible first | exact HB.out | apply below_alloc | apply pw_below_drewN | apply below_drew1) | exact HB.out)) hb); clear HB; have HO145 := n0_; have HB := n1_; clear n0_ n1_; (try clear hb); (try clear hb2); (try clear hk); (try clear hi); (try clear ho0); obtain ⟨Ao58, co58, eo58⟩ := Kd.S_slice HO145.out; subst eo58; have p152 : 0 ≤ (0 : Int) := (by omega); have q152 : 0 < (t143.length : Int) := of_decide_eq_true (by first | (with_reducible assumption) | assumption); obtain ⟨ad152, A152_3, c152_3, e152, hx152_0, hx152_1, hx152_2, hx152_3, hl152_3, hi152_3⟩ := at_T28 (Kd.S_reads' HO145.out).2.2 0 p152 q152; cases e152; obtain ⟨ce152, hce152, hMe152, hcc152⟩ := Kd.S_get HO145.out z28 0 p152 (by first | exact q152 | exact of_decide_eq_true (by first | (with_reducible assumption) | assumption) | (have e_ := (Kd.S_reads' HO145.out).1; omega)); obtain ⟨ve152_3, rfl, ge152_3⟩ := k28_openM hMe152; have hv152_3 := hcc152 3 _ rfl; rw [add_field _ _ 3 (by omega)] at hv152_3; replace hv152_3 := Option.some.inj (hv152_3.symm.trans hx152_3); rw [hv152_3] at ge152_3; have HL152_3 := Aside0.mk (show Kd.R (Kd.int .i64) 3 _ _ _ _ ((rd_T28 t143 0).f3) from ge152_3); clear hv152_3 ge152_3; clear hcc152 hce152; have qi152 : (0 < t143.length) = True := eq_true (by omega); (try rw [show ((0 : Int)).toNat = 0 from rfl] at hx152_0); (try rw [show 0 * 4 = 0 from rfl] at hx152_0); (try rw [Addr.add_zero'] at hx152_0); (try rw [show ((0 : Int)).toNat = 0 from rfl] at hx152_1); (try rw [show 0 * 4 = 0 from rfl] at hx152_1); (try rw [Addr.add_zero'] at hx152_1); (try rw [show ((0 : Int)).toNat = 0 from rfl] at hx152_2); (try rw [show 0 * 4 = 0 from rfl] at hx152_2); (try rw [Addr.add_zero'] at hx152_2); (try rw [show ((0 : Int)).toNat = 0 from rfl] at hx152_3); (try rw [show 0 * 4 = 0 from rfl] at hx152_3); (try rw [Addr.add_zero'] at hx152_3); have HR152_3 := Aside0.mk hi152_3; have HC152_3 := Aside0.mk hl152_3; clear hi152_3 hl152_3; replace p152 := eq_true p152; replace q152 := eq_true q152; have p153 : 0 ≤ (0 : Int) := (by omega); have q153 : 0 < (t143.length : Int) := of_decide_eq_true (by first | (with_reducible assumption) | assumption); obtain ⟨ad153, A153_3, c153_3, e153, hx153_0, hx153_1, hx153_2, hx153_3, hl153_3, hi153_3⟩ := at_T28 (Kd.S_reads' HO145.out).2.2 0 p153 q153; obtain rfl : ad152 = ad153 := (by injection e153); obtain ⟨ce153, hce153, hMe153, hcc153⟩ := Kd.S_get HO145.out z28 0 p153 (by first | exact q153 | exact of_decide_eq_true (by first | (with_reducible assumption) | assumption) | (have e_ := (Kd.S_reads' HO145.out).1; omega)); obtain ⟨ve153_3, rfl, ge153_3⟩ := k28_openM hMe153; have hv153_3 := hcc153 3 _ rfl; rw [add_field _ _ 3 (by omega)] at hv153_3; replace hv153_3 := Option.some.inj (hv153_3.symm.trans hx153_3); rw [hv153_3] at ge153_3; have HL153_3 := Aside0.mk (show Kd.R (Kd.int .i64) 3 _ _ _ _ ((rd_T28 t143 0).f3) from ge153_3); clear hv153_3 ge153_3; clear hcc153 hce153; have qi153 : (0 < t143.length) = True := eq_true (by omega); (try rw [show ((0 : Int)).toNat = 0 from rfl] at hx153_0); (try rw [show 0 * 4 = 0 from rfl] at hx153_0); (try rw [Addr.add_zero'] at hx153_0); (try rw [show ((0 : Int)).toNat = 0 from rfl] at hx153_1); (try rw [show 0 * 4 = 0 from rfl] at hx153_1); (try rw [Addr.add_zero'] at hx153_1); (try rw [show ((0 : Int)).toNat = 0 from rfl] at hx153_2); (try rw [show 0 * 4 = 0 from rfl] at hx153_2); (try rw [Addr.add_zero'] at hx153_2); (try rw [show ((0 : Int)).toNat = 0 from rfl] at hx153_3); (try rw [show 0 * 4 = 0 from rfl] at hx153_3); (try rw [Addr.add_zero'] at hx153_3); have HR153_3 := Aside0.mk hi153_3; have HC153_3 := Aside0.mk hl153_3; clear hi153_3 hl153_3; replace p153 := eq_true p153; replace q153 := eq_true q153; have ea_ := Option.some.inj (hx152_3.symm.trans hx153_3); injection ea_ with ea_ en_ ec_; subst ea_; subst ec_; clear en_; have p154 : 0 ≤ (0 : Int) := (by omega); have q154 : 0 < (t143.length : Int) := of_decide_eq_true (by first | (with_reducible assumption) | assumption); obtain ⟨ad154, A154_3, c154_3, e154, hx154_0, hx154_1, hx154_2, hx154_3, hl154_3, hi154_3⟩ := at_T28 (Kd.S_reads' HO145.out).2.2 0 p154 q154; obtain rfl : ad152 = ad154 := (by injection e154); obtain ⟨ce154, hce154, hMe154, hcc154⟩ := Kd.S_get HO145.out z28 0 p154 (by first | exact q154 | exact of_decide_eq_true (by first | (with_reducible assumption) | assumption) | (have e_ := (Kd.S_reads' HO145.out).1; omega)); obtain ⟨ve154_3, rfl, ge154_3⟩ := k28_openM hMe154; have hv154_3 := hcc154 3 _ rfl; rw [add_field _ _ 3 (by omega)] at hv154_3; replace hv154_3 := Option.some.inj (hv154_3.symm.trans hx154_3); rw [hv154_3] at ge154_3; have HL154_3 := Aside0.mk (show Kd.R (Kd.int .i64) 3 _ _ _ _ ((rd_T28 t143 0).f3) from ge154_3); clear hv154_3 ge154_3; clear hcc154 hce154; have qi154 : (0 < t143.length) = True := eq_true (by omega); (try rw [show ((0 : Int)).toNat = 0 from rfl] at hx154_0); (try rw [show 0 * 4 = 0 from rfl] at hx154_0); (try rw [Addr.add_zero'] at hx154_0); (try rw [show ((0 : Int)).toNat = 0 from rfl] at hx154_1); (try rw [show 0 * 4 = 0 from rfl] at hx154_1); (try rw [Addr.add_zero'] at hx154_1); (try rw [show ((0 : Int)).toNat = 0 from rfl] at hx154_2); (try rw [show 0 * 4 = 0 from rfl] at hx154_2); (try rw [Addr.add_zero'] at hx154_2); (try rw [show ((0 : Int)).toNat = 0 from rfl] at hx154_3); (try rw [show 0 * 4 = 0 from rfl] at hx154_3); (try rw [Addr.add_zero'] at hx154_3); have HR154_3 := Aside0.mk hi154_3; have HC154_3 := Aside0.mk hl154_3; clear hi154_3 hl154_3; replace p154 := eq_true p154; replace q154 := eq_true q154; have ea_ := Option.some.inj (hx152_3.symm.trans hx154_3); injection ea_ with ea_ en_ ec_; subst ea_; subst ec_; clear en_; have p155 : 0 ≤ (0 : Int) := (by omega); have q155 : 0 < (t143.length : Int) := of_decide_eq_true (by first | (with_reducible assumption) | assumption); obtain ⟨ad155, A155_3, c155_3, e155, hx155_0, hx155_1, hx155_2, hx155_3, hl155_3, hi155_3⟩ := at_T28 (Kd.S_reads' HO145.out).2.2 0 p155 q155; obtain rfl : ad152 = ad155 := (by injection e155); obtain ⟨ce155, hce155, hMe155, hcc155⟩ := Kd.S_get HO145.out z28 0 p155 (by first | exact q155 | exact of_decide_eq_true (by first | (with_reducible assumption) | assumption) | (have e_ := (Kd.S_reads' HO145.out).1; omega)); obtain ⟨ve155_3, rfl, ge155_3⟩ := k28_openM hMe155; have hv155_3 := hcc155 3 _ rfl; rw [add_field _ _ 3 (by omega)] at hv155_3; replace hv155_3 := Option.some.inj (hv155_3.symm.trans hx155_3); rw [hv155_3] at ge155_3; have HL155_3 := Aside0.mk (show Kd.R (Kd.int .i64) 3 _ _ _ _ ((rd_T28 t143 0).f3) from ge155_3); clear hv155_3 ge155_3; clear hcc155 hce155; have qi155 : (0 < t143.length) = True := eq_true (by omega); (try rw [show ((0 : Int)).toNat = 0 from rfl] at hx155_0); (try rw [show 0 * 4 = 0 from rfl] at hx155_0); (try rw [Addr.add_zero'] at hx155_0); (try rw [show ((0 : Int)).toNat = 0 from rfl] at hx155_1); (try rw [show 0 * 4 = 0 from rfl] at hx155_1); (try rw [Addr.add_zero'] at hx155_1); (try rw [show ((0 : Int)).toNat = 0 from rfl] at hx155_2); (try rw [show 0 * 4 = 0 from rfl] at hx155_2); (try rw [Addr.add_zero'] at hx155_2); (try rw [show ((0 : Int)).toNat = 0 from rfl] at hx155_3); (try rw [show 0 * 4 = 0 from rfl] at hx155_3); (try rw [Addr.add_zero'] at hx155_3); have HR155_3 := Aside0.mk hi155_3; have HC155_3 := Aside0.mk hl155_3; clear hi155_3 hl155_3; replace p155 := eq_true p155; replace q155 := eq_true q155; have ea_ := Option.some.inj (hx152_3.symm.trans hx155_3); injection ea_ with ea_ en_ ec_; subst ea_; subst ec_; clear en_))
             go_ret
             exact ⟨by first | rfl | (simp [errW_none, errW_some] <;> rfl) | (simp [*, errW_none, errW_some] <;> rfl), by repeat (first | (with_reducible first | exact HB.out | apply below_alloc | apply pw_below_drewN | apply below_drew1) | exact HB.out)⟩
           ·
            rw [if_neg c51] at H
            have c51b0 : (((rd_T28 t143 0).f1) == 0) = false := beq_eq_false_iff_ne.mpr c51
            have c51b1 : (((rd_T28 t143 0).f1) != 0) = true := bne_iff_ne.mpr c51
            obtain rfl := Option.some.inj H
            go_wp2_with (first | ((with_reducible refine gate_callee (f := 8) rfl ?_); refine goesL_ (some 43) rfl rfl Try.func8 (by kernel_rfl) rfl #[.slice A0 l0.length c0, .int .i64 (Go.bits .and .i64 a1 1)] rfl (by (try simp only [List.map_toArray, List.map_cons, List.map_nil]); first | done | rfl | (simp only [List.length_drop, List.length_take]; rfl)) ?_; (with_reducible refine (seqs_Sequences.calls k1 _ _ l0 (Go.bits .and .i64 a1 1) t143 _ ?side1 ?side2 A17.out).mono ?_); (case side1 => repeat (first | exact (Kd.C_below HR0.out HB.out) | (with_reducible refine Kd.C_alloc ?_ _) | (with_reducible refine Kd.C_drewN ?_ _) | (with_reducible refine Kd.C_drew ?_))); (case side2 => exact HC0.out); rintro e w59 ⟨v144, rfl, ho0, hb⟩; refine ⟨_, rfl, ?_⟩; have n0_ := Aside0.mk (Kd.S_lower ho0 (below_size (by repeat (first | (with_reducible first | exact HB.out | apply below_alloc | apply pw_below_drewN | apply below_drew1) | exact HB.out)))); have n1_ := Aside0.mk (below_step (by repeat (first | (with_reducible first | exact HB.out | apply below_alloc | apply pw_below_drewN | apply below_drew1) | exact HB.out)) hb); clear HB; have HO145 := n0_; have HB := n1_; clear n0_ n1_; (try clear hb); (try clear hb2); (try clear hk); (try clear hi); (try clear ho0); obtain ⟨Ao60, co60, eo60⟩ := Kd.S_slice HO145.out; subst eo60; have p152 : 0 ≤ (0 : Int) := (by omega); have q152 : 0 < (t143.length : Int) := of_decide_eq_true (by first | (with_reducible assumption) | assumption); obtain ⟨ad152, A152_3, c152_3, e152, hx152_0, hx152_1, hx152_2, hx152_3, hl152_3, hi152_3⟩ := at_T28 (Kd.S_reads' HO145.out).2.2 0 p152 q152; cases e152; obtain ⟨ce152, hce152, hMe152, hcc152⟩ := Kd.S_get HO145.out z28 0 p152 (by first | exact q152 | exact of_decide_eq_true (by first | (with_reducible assumption) | assumption) | (have e_ := (Kd.S_reads' HO145.out).1; omega)); obtain ⟨ve152_3, rfl, ge152_3⟩ := k28_openM hMe152; have hv152_3 := hcc152 3 _ rfl; rw [add_field _ _ 3 (by omega)] at hv152_3; replace hv152_3 := Option.some.inj (hv152_3.symm.trans hx152_3); rw [hv152_3] at ge152_3; have HL152_3 := Aside0.mk (show Kd.R (Kd.int .i64) 3 _ _ _ _ ((rd_T28 t143 0).f3) from ge152_3); clear hv152_3 ge152_3; clear hcc152 hce152; have qi152 : (0 < t143.length) = True := eq_true (by omega); (try rw [show ((0 : Int)).toNat = 0 from rfl] at hx152_0); (try rw [show 0 * 4 = 0 from rfl] at hx152_0); (try rw [Addr.add_zero'] at hx152_0); (try rw [show ((0 : Int)).toNat = 0 from rfl] at hx152_1); (try rw [show 0 * 4 = 0 from rfl] at hx152_1); (try rw [Addr.add_zero'] at hx152_1); (try rw [show ((0 : Int)).toNat = 0 from rfl] at hx152_2); (try rw [show 0 * 4 = 0 from rfl] at hx152_2); (try rw [Addr.add_zero'] at hx152_2); (try rw [show ((0 : Int)).toNat = 0 from rfl] at hx152_3); (try rw [show 0 * 4 = 0 from rfl] at hx152_3); (try rw [Addr.add_zero'] at hx152_3); have HR152_3 := Aside0.mk hi152_3; have HC152_3 := Aside0.mk hl152_3; clear hi152_3 hl152_3; replace p152 := eq_true p152; replace q152 := eq_true q152; have p153 : 0 ≤ (0 : Int) := (by omega); have q153 : 0 < (t143.length : Int) := of_decide_eq_true (by first | (with_reducible assumption) | assumption); obtain ⟨ad153, A153_3, c153_3, e153, hx153_0, hx153_1, hx153_2, hx153_3, hl153_3, hi153_3⟩ := at_T28 (Kd.S_reads' HO145.out).2.2 0 p153 q153; obtain rfl : ad152 = ad153 := (by injection e153); obtain ⟨ce153, hce153, hMe153, hcc153⟩ := Kd.S_get HO145.out z28 0 p153 (by first | exact q153 | exact of_decide_eq_true (by first | (with_reducible assumption) | assumption) | (have e_ := (Kd.S_reads' HO145.out).1; omega)); obtain ⟨ve153_3, rfl, ge153_3⟩ := k28_openM hMe153; have hv153_3 := hcc153 3 _ rfl; rw [add_field _ _ 3 (by omega)] at hv153_3; replace hv153_3 := Option.some.inj (hv153_3.symm.trans hx153_3); rw [hv153_3] at ge153_3; have HL153_3 := Aside0.mk (show Kd.R (Kd.int .i64) 3 _ _ _ _ ((rd_T28 t143 0).f3) from ge153_3); clear hv153_3 ge153_3; clear hcc153 hce153; have qi153 : (0 < t143.length) = True := eq_true (by omega); (try rw [show ((0 : Int)).toNat = 0 from rfl] at hx153_0); (try rw [show 0 * 4 = 0 from rfl] at hx153_0); (try rw [Addr.add_zero'] at hx153_0); (try rw [show ((0 : Int)).toNat = 0 from rfl] at hx153_1); (try rw [show 0 * 4 = 0 from rfl] at hx153_1); (try rw [Addr.add_zero'] at hx153_1); (try rw [show ((0 : Int)).toNat = 0 from rfl] at hx153_2); (try rw [show 0 * 4 = 0 from rfl] at hx153_2); (try rw [Addr.add_zero'] at hx153_2); (try rw [show ((0 : Int)).toNat = 0 from rfl] at hx153_3); (try rw [show 0 * 4 = 0 from rfl] at hx153_3); (try rw [Addr.add_zero'] at hx153_3); have HR153_3 := Aside0.mk hi153_3; have HC153_3 := Aside0.mk hl153_3; clear hi153_3 hl153_3; replace p153 := eq_true p153; replace q153 := eq_true q153; have ea_ := Option.some.inj (hx152_3.symm.trans hx153_3); injection ea_ with ea_ en_ ec_; subst ea_; subst ec_; clear en_; have p154 : 0 ≤ (0 : Int) := (by omega); have q154 : 0 < (t143.length : Int) := of_decide_eq_true (by first | (with_reducible assumption) | assumption); obtain ⟨ad154, A154_3, c154_3, e154, hx154_0, hx154_1, hx154_2, hx154_3, hl154_3, hi154_3⟩ := at_T28 (Kd.S_reads' HO145.out).2.2 0 p154 q154; obtain rfl : ad152 = ad154 := (by injection e154); obtain ⟨ce154, hce154, hMe154, hcc154⟩ := Kd.S_get HO145.out z28 0 p154 (by first | exact q154 | exact of_decide_eq_true (by first | (with_reducible assumption) | assumption) | (have e_ := (Kd.S_reads' HO145.out).1; omega)); obtain ⟨ve154_3, rfl, ge154_3⟩ := k28_openM hMe154; have hv154_3 := hcc154 3 _ rfl; rw [add_field _ _ 3 (by omega)] at hv154_3; replace hv154_3 := Option.some.inj (hv154_3.symm.trans hx154_3); rw [hv154_3] at ge154_3; have HL154_3 := Aside0.mk (show Kd.R (Kd.int .i64) 3 _ _ _ _ ((rd_T28 t143 0).f3) from ge154_3); clear hv154_3 ge154_3; clear hcc154 hce154; have qi154 : (0 < t143.length) = True := eq_true (by omega); (try rw [show ((0 : Int)).toNat = 0 from rfl] at hx154_0); (try rw [show 0 * 4 = 0 from rfl] at hx154_0); (try rw [Addr.add_zero'] at hx154_0); (try rw [show ((0 : Int)).toNat = 0 from rfl] at hx154_1); (try rw [show 0 * 4 = 0 from rfl] at hx154_1); (try rw [Addr.add_zero'] at hx154_1); (try rw [show ((0 : Int)).toNat = 0 from rfl] at hx154_2); (try rw [show 0 * 4 = 0 from rfl] at hx154_2); (try rw [Addr.add_zero'] at hx154_2); (try rw [show ((0 : Int)).toNat = 0 from rfl] at hx154_3); (try rw [show 0 * 4 = 0 from rfl] at hx154_3); (try rw [Addr.add_zero'] at hx154_3); have HR154_3 := Aside0.mk hi154_3; have HC154_3 := Aside0.mk hl154_3; clear hi154_3 hl154_3; replace p154 := eq_true p154; replace q154 := eq_true q154; have ea_ := Option.some.inj (hx152_3.symm.trans hx154_3); injection ea_ with ea_ en_ ec_; subst ea_; subst ec_; clear en_))
            go_ret
            exact ⟨by first | rfl | (simp [errW_none, errW_some] <;> rfl) | (simp [*, errW_none, errW_some] <;> rfl), by repeat (first | (with_reducible first | exact HB.out | apply below_alloc | apply pw_below_drewN | apply below_drew1) | exact HB.out)⟩
          ·
           rw [if_neg c50] at H
           have c50b0 : (((rd_T28 t143 0).f0) == (Go.bits .and .i64 a1 1)) = false := beq_eq_false_iff_ne.mpr c50
           have c50b1 : (((rd_T28 t143 0).f0) != (Go.bits .and .i64 a1 1)) = true := bne_iff_ne.mpr c50
           obtain rfl := Option.some.inj H
           go_wp2_with (first | ((with_reducible refine gate_callee (f := 8) rfl ?_); refine goesL_ (some 43) rfl rfl Try.func8 (by kernel_rfl) rfl #[.slice A0 l0.length c0, .int .i64 (Go.bits .and .i64 a1 1)] rfl (by (try simp only [List.map_toArray, List.map_cons, List.map_nil]); first | done | rfl | (simp only [List.length_drop, List.length_take]; rfl)) ?_; (with_reducible refine (seqs_Sequences.calls k1 _ _ l0 (Go.bits .and .i64 a1 1) t143 _ ?side1 ?side2 A17.out).mono ?_); (case side1 => repeat (first | exact (Kd.C_below HR0.out HB.out) | (with_reducible refine Kd.C_alloc ?_ _) | (with_reducible refine Kd.C_drewN ?_ _) | (with_reducible refine Kd.C_drew ?_))); (case side2 => exact HC0.out); rintro e w61 ⟨v144, rfl, ho0, hb⟩; refine ⟨_, rfl, ?_⟩; have n0_ := Aside0.mk (Kd.S_lower ho0 (below_size (by repeat (first | (with_reducible first | exact HB.out | apply below_alloc | apply pw_below_drewN | apply below_drew1) | exact HB.out)))); have n1_ := Aside0.mk (below_step (by repeat (first | (with_reducible first | exact HB.out | apply below_alloc | apply pw_below_drewN | apply below_drew1) | exact HB.out)) hb); clear HB; have HO145 := n0_; have HB := n1_; clear n0_ n1_; (try clear hb); (try clear hb2); (try clear hk); (try clear hi); (try clear ho0); obtain ⟨Ao62, co62, eo62⟩ := Kd.S_slice HO145.out; subst eo62; have p152 : 0 ≤ (0 : Int) := (by omega); have q152 : 0 < (t143.length : Int) := of_decide_eq_true (by first | (with_reducible assumption) | assumption); obtain ⟨ad152, A152_3, c152_3, e152, hx152_0, hx152_1, hx152_2, hx152_3, hl152_3, hi152_3⟩ := at_T28 (Kd.S_reads' HO145.out).2.2 0 p152 q152; cases e152; obtain ⟨ce152, hce152, hMe152, hcc152⟩ := Kd.S_get HO145.out z28 0 p152 (by first | exact q152 | exact of_decide_eq_true (by first | (with_reducible assumption) | assumption) | (have e_ := (Kd.S_reads' HO145.out).1; omega)); obtain ⟨ve152_3, rfl, ge152_3⟩ := k28_openM hMe152; have hv152_3 := hcc152 3 _ rfl; rw [add_field _ _ 3 (by omega)] at hv152_3; replace hv152_3 := Option.some.inj (hv152_3.symm.trans hx152_3); rw [hv152_3] at ge152_3; have HL152_3 := Aside0.mk (show Kd.R (Kd.int .i64) 3 _ _ _ _ ((rd_T28 t143 0).f3) from ge152_3); clear hv152_3 ge152_3; clear hcc152 hce152; have qi152 : (0 < t143.length) = True := eq_true (by omega); (try rw [show ((0 : Int)).toNat = 0 from rfl] at hx152_0); (try rw [show 0 * 4 = 0 from rfl] at hx152_0); (try rw [Addr.add_zero'] at hx152_0); (try rw [show ((0 : Int)).toNat = 0 from rfl] at hx152_1); (try rw [show 0 * 4 = 0 from rfl] at hx152_1); (try rw [Addr.add_zero'] at hx152_1); (try rw [show ((0 : Int)).toNat = 0 from rfl] at hx152_2); (try rw [show 0 * 4 = 0 from rfl] at hx152_2); (try rw [Addr.add_zero'] at hx152_2); (try rw [show ((0 : Int)).toNat = 0 from rfl] at hx152_3); (try rw [show 0 * 4 = 0 from rfl] at hx152_3); (try rw [Addr.add_zero'] at hx152_3); have HR152_3 := Aside0.mk hi152_3; have HC152_3 := Aside0.mk hl152_3; clear hi152_3 hl152_3; replace p152 := eq_true p152; replace q152 := eq_true q152; have p153 : 0 ≤ (0 : Int) := (by omega); have q153 : 0 < (t143.length : Int) := of_decide_eq_true (by first | (with_reducible assumption) | assumption); obtain ⟨ad153, A153_3, c153_3, e153, hx153_0, hx153_1, hx153_2, hx153_3, hl153_3, hi153_3⟩ := at_T28 (Kd.S_reads' HO145.out).2.2 0 p153 q153; obtain rfl : ad152 = ad153 := (by injection e153); obtain ⟨ce153, hce153, hMe153, hcc153⟩ := Kd.S_get HO145.out z28 0 p153 (by first | exact q153 | exact of_decide_eq_true (by first | (with_reducible assumption) | assumption) | (have e_ := (Kd.S_reads' HO145.out).1; omega)); obtain ⟨ve153_3, rfl, ge153_3⟩ := k28_openM hMe153; have hv153_3 := hcc153 3 _ rfl; rw [add_field _ _ 3 (by omega)] at hv153_3; replace hv153_3 := Option.some.inj (hv153_3.symm.trans hx153_3); rw [hv153_3] at ge153_3; have HL153_3 := Aside0.mk (show Kd.R (Kd.int .i64) 3 _ _ _ _ ((rd_T28 t143 0).f3) from ge153_3); clear hv153_3 ge153_3; clear hcc153 hce153; have qi153 : (0 < t143.length) = True := eq_true (by omega); (try rw [show ((0 : Int)).toNat = 0 from rfl] at hx153_0); (try rw [show 0 * 4 = 0 from rfl] at hx153_0); (try rw [Addr.add_zero'] at hx153_0); (try rw [show ((0 : Int)).toNat = 0 from rfl] at hx153_1); (try rw [show 0 * 4 = 0 from rfl] at hx153_1); (try rw [Addr.add_zero'] at hx153_1); (try rw [show ((0 : Int)).toNat = 0 from rfl] at hx153_2); (try rw [show 0 * 4 = 0 from rfl] at hx153_2); (try rw [Addr.add_zero'] at hx153_2); (try rw [show ((0 : Int)).toNat = 0 from rfl] at hx153_3); (try rw [show 0 * 4 = 0 from rfl] at hx153_3); (try rw [Addr.add_zero'] at hx153_3); have HR153_3 := Aside0.mk hi153_3; have HC153_3 := Aside0.mk hl153_3; clear hi153_3 hl153_3; replace p153 := eq_true p153; replace q153 := eq_true q153; have ea_ := Option.some.inj (hx152_3.symm.trans hx153_3); injection ea_ with ea_ en_ ec_; subst ea_; subst ec_; clear en_))
           go_ret
           exact ⟨by first | rfl | (simp [errW_none, errW_some] <;> rfl) | (simp [*, errW_none, errW_some] <;> rfl), by repeat (first | (with_reducible first | exact HB.out | apply below_alloc | apply pw_below_drewN | apply below_drew1) | exact HB.out)⟩
         ·
          rw [if_neg c49] at H
          have c49b0 : ((((rd_T28 t143 0).f3).length : Int) == x5_1) = false := beq_eq_false_iff_ne.mpr c49
          have c49b1 : ((((rd_T28 t143 0).f3).length : Int) != x5_1) = true := bne_iff_ne.mpr c49
          obtain rfl := Option.some.inj H
          go_wp2_with (first | ((with_reducible refine gate_callee (f := 8) rfl ?_); refine goesL_ (some 43) rfl rfl Try.func8 (by kernel_rfl) rfl #[.slice A0 l0.length c0, .int .i64 (Go.bits .and .i64 a1 1)] rfl (by (try simp only [List.map_toArray, List.map_cons, List.map_nil]); first | done | rfl | (simp only [List.length_drop, List.length_take]; rfl)) ?_; (with_reducible refine (seqs_Sequences.calls k1 _ _ l0 (Go.bits .and .i64 a1 1) t143 _ ?side1 ?side2 A17.out).mono ?_); (case side1 => repeat (first | exact (Kd.C_below HR0.out HB.out) | (with_reducible refine Kd.C_alloc ?_ _) | (with_reducible refine Kd.C_drewN ?_ _) | (with_reducible refine Kd.C_drew ?_))); (case side2 => exact HC0.out); rintro e w63 ⟨v144, rfl, ho0, hb⟩; refine ⟨_, rfl, ?_⟩; have n0_ := Aside0.mk (Kd.S_lower ho0 (below_size (by repeat (first | (with_reducible first | exact HB.out | apply below_alloc | apply pw_below_drewN | apply below_drew1) | exact HB.out)))); have n1_ := Aside0.mk (below_step (by repeat (first | (with_reducible first | exact HB.out | apply below_alloc | apply pw_below_drewN | apply below_drew1) | exact HB.out)) hb); clear HB; have HO145 := n0_; have HB := n1_; clear n0_ n1_; (try clear hb); (try clear hb2); (try clear hk); (try clear hi); (try clear ho0); obtain ⟨Ao64, co64, eo64⟩ := Kd.S_slice HO145.out; subst eo64; have p152 : 0 ≤ (0 : Int) := (by omega); have q152 : 0 < (t143.length : Int) := of_decide_eq_true (by first | (with_reducible assumption) | assumption); obtain ⟨ad152, A152_3, c152_3, e152, hx152_0, hx152_1, hx152_2, hx152_3, hl152_3, hi152_3⟩ := at_T28 (Kd.S_reads' HO145.out).2.2 0 p152 q152; cases e152; obtain ⟨ce152, hce152, hMe152, hcc152⟩ := Kd.S_get HO145.out z28 0 p152 (by first | exact q152 | exact of_decide_eq_true (by first | (with_reducible assumption) | assumption) | (have e_ := (Kd.S_reads' HO145.out).1; omega)); obtain ⟨ve152_3, rfl, ge152_3⟩ := k28_openM hMe152; have hv152_3 := hcc152 3 _ rfl; rw [add_field _ _ 3 (by omega)] at hv152_3; replace hv152_3 := Option.some.inj (hv152_3.symm.trans hx152_3); rw [hv152_3] at ge152_3; have HL152_3 := Aside0.mk (show Kd.R (Kd.int .i64) 3 _ _ _ _ ((rd_T28 t143 0).f3) from ge152_3); clear hv152_3 ge152_3; clear hcc152 hce152; have qi152 : (0 < t143.length) = True := eq_true (by omega); (try rw [show ((0 : Int)).toNat = 0 from rfl] at hx152_0); (try rw [show 0 * 4 = 0 from rfl] at hx152_0); (try rw [Addr.add_zero'] at hx152_0); (try rw [show ((0 : Int)).toNat = 0 from rfl] at hx152_1); (try rw [show 0 * 4 = 0 from rfl] at hx152_1); (try rw [Addr.add_zero'] at hx152_1); (try rw [show ((0 : Int)).toNat = 0 from rfl] at hx152_2); (try rw [show 0 * 4 = 0 from rfl] at hx152_2); (try rw [Addr.add_zero'] at hx152_2); (try rw [show ((0 : Int)).toNat = 0 from rfl] at hx152_3); (try rw [show 0 * 4 = 0 from rfl] at hx152_3); (try rw [Addr.add_zero'] at hx152_3); have HR152_3 := Aside0.mk hi152_3; have HC152_3 := Aside0.mk hl152_3; clear hi152_3 hl152_3; replace p152 := eq_true p152; replace q152 := eq_true q152))
          go_ret
          exact ⟨by first | rfl | (simp [errW_none, errW_some] <;> rfl) | (simp [*, errW_none, errW_some] <;> rfl), by repeat (first | (with_reducible first | exact HB.out | apply below_alloc | apply pw_below_drewN | apply below_drew1) | exact HB.out)⟩
        ·
         rw [if_neg c48] at H
         exact absurd H (by simp)
       ·
        rw [if_neg c47] at H
        have c47b0 : ((t143.length : Int) == 1) = false := beq_eq_false_iff_ne.mpr c47
        have c47b1 : ((t143.length : Int) != 1) = true := bne_iff_ne.mpr c47
        obtain rfl := Option.some.inj H
        go_wp2_with (first | ((with_reducible refine gate_callee (f := 8) rfl ?_); refine goesL_ (some 43) rfl rfl Try.func8 (by kernel_rfl) rfl #[.slice A0 l0.length c0, .int .i64 (Go.bits .and .i64 a1 1)] rfl (by (try simp only [List.map_toArray, List.map_cons, List.map_nil]); first | done | rfl | (simp only [List.length_drop, List.length_take]; rfl)) ?_; (with_reducible refine (seqs_Sequences.calls k1 _ _ l0 (Go.bits .and .i64 a1 1) t143 _ ?side1 ?side2 A17.out).mono ?_); (case side1 => repeat (first | exact (Kd.C_below HR0.out HB.out) | (with_reducible refine Kd.C_alloc ?_ _) | (with_reducible refine Kd.C_drewN ?_ _) | (with_reducible refine Kd.C_drew ?_))); (case side2 => exact HC0.out); rintro e w65 ⟨v144, rfl, ho0, hb⟩; refine ⟨_, rfl, ?_⟩; have n0_ := Aside0.mk (Kd.S_lower ho0 (below_size (by repeat (first | (with_reducible first | exact HB.out | apply below_alloc | apply pw_below_drewN | apply below_drew1) | exact HB.out)))); have n1_ := Aside0.mk (below_step (by repeat (first | (with_reducible first | exact HB.out | apply below_alloc | apply pw_below_drewN | apply below_drew1) | exact HB.out)) hb); clear HB; have HO145 := n0_; have HB := n1_; clear n0_ n1_; (try clear hb); (try clear hb2); (try clear hk); (try clear hi); (try clear ho0); obtain ⟨Ao66, co66, eo66⟩ := Kd.S_slice HO145.out; subst eo66))
        go_ret
        exact ⟨by first | rfl | (simp [errW_none, errW_some] <;> rfl) | (simp [*, errW_none, errW_some] <;> rfl), by repeat (first | (with_reducible first | exact HB.out | apply below_alloc | apply pw_below_drewN | apply below_drew1) | exact HB.out)⟩

/-- THE ONE PURE STATEMENT of parquetrylaw12_SeqsOne: yours. -/
def parquetrylaw12_SeqsOne.Pure : Prop := ∀ (l0 : List Int) (a1 : Int), l0.length ≤ maxLen → l0.length * 8 ≤ 140737488351232 → (∀ x ∈ l0, (Lit.int .i64 x).wf = true) → (Lit.int .i64 a1).wf = true → ∃ k, parquetrylaw12_SeqsOne.f k l0 a1 = some true
theorem parquetrylaw12_SeqsOne.walk (P : parquetrylaw12_SeqsOne.Pure) (a0 : Option Addr) (len0 cap0 : Nat) (z0 : List Int) (a1 : Int) (w : World) (w0 : (a0 = none ∧ len0 = 0 ∧ cap0 = 0 ∧ z0 = []) ∨ ∃ x, a0 = some x ∧ len0 ≤ cap0 ∧ cap0 ≤ maxLen ∧ z0.length = cap0 ∧ (∀ i, i < z0.length → w.cell? (x.add i) = some (.int .i64 (z0.getD i 0))) ∧ ∀ n ∈ z0, (Lit.int .i64 n).wf = true) (y0 : len0 * 8 ≤ 140737488351232) (w1 : (Lit.int .i64 a1).wf = true) :
  Calls Try.prog 5 #[.slice a0 len0 cap0, .int .i64 a1] w fun e w' => e = .returned (.bool true) ∧ Below w.heap.size w w' := by
 obtain ⟨l0, rfl, hr0, hm0, hw0, hc0⟩ := ReadsInt.ofRowC w0
 obtain ⟨k, h⟩ := P l0 a1 hm0 y0 hw0 w1
 refine (parquetrylaw12_SeqsOne.calls k _ _ l0 a1 true w (Kd.C_of_reads (d := (0 : Int)) (h1 := fun _ => rfl) hr0) hc0 h).mono ?_
 rintro e w' ⟨rfl, hd⟩
 exact ⟨rfl, hd⟩

end Go.Proofs.Ytdieknpikdepgaa.PC12
