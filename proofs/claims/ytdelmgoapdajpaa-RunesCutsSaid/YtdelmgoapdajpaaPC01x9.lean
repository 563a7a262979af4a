/- For the laws of the group C01: the Lean functions that the Go functions compute, and proofs that they do. Written by wip/hprint.py of this repo over the kit's printer; nothing here is trusted: Lean checks it. -/
import Derived.Test.YtdelmgoapdajpaaPC01x0
import Derived.Test.YtdelmgoapdajpaaPC01x1
import Derived.Test.YtdelmgoapdajpaaPC01x2
namespace Go.Proofs.Ytdelmgoapdajpaa.PC01
open Go.RowKit Go.Proofs.YtdelmgoapdajpaaW.PrintWords Go.Proofs.YtdelmgoapdajpaaW.PrintLast Go.Proofs.YtdelmgoapdajpaaW.PrintMore
attribute [local go_sem] max2_int min2_int max_two min_two max_three min_three max_four min_four   -- for this text's walks alone
set_option linter.unusedVariables false
set_option linter.unusedSimpArgs false

attribute [local go_sem high] eqA27
/-! ### parquetrylaw01_RunesCuts: function 8 -/
mutual
def parquetrylaw01_RunesCuts.j0 : Nat → ByteArray → Int → Bool → Option (Bool)
  | 0, _, _, _ => none
  | k + 1, x0, x1, x19 => if x19 = true then ((parquetrylaw01_awake.f k).bind fun t256 => (some t256)) else ((runes_Split.f x0).bind fun t257 => (if (t257.length : Int) = 0 then (some false) else (if 0 ≤ (Int.tmod (Go.bits .and .i64 x1 65535) (t257.length : Int)) then (if (Int.tmod (Go.bits .and .i64 x1 65535) (t257.length : Int)) < (t257.length : Int) then (if ((rd_T27 t257 (Int.tmod (Go.bits .and .i64 x1 65535) (t257.length : Int))).f0) < 0 then (parquetrylaw01_RunesCuts.j1 k x0 t257 (Int.tmod (Go.bits .and .i64 x1 65535) (t257.length : Int)) ((rd_T27 t257 (Int.tmod (Go.bits .and .i64 x1 65535) (t257.length : Int))).f0) true) else (parquetrylaw01_RunesCuts.j1 k x0 t257 (Int.tmod (Go.bits .and .i64 x1 65535) (t257.length : Int)) ((rd_T27 t257 (Int.tmod (Go.bits .and .i64 x1 65535) (t257.length : Int))).f0) (decide (((rd_T27 t257 (Int.tmod (Go.bits .and .i64 x1 65535) (t257.length : Int))).f0) > (x0.size : Int))))) else (none)) else (none))))
def parquetrylaw01_RunesCuts.j1 : Nat → ByteArray → List (S27) → Int → Int → Bool → Option (Bool)
  | 0, _, _, _, _, _ => none
  | k + 1, x0, x5, x6, x7, x43 => if x43 = true then (some false) else (if 0 ≤ x7 then (if x7 ≤ (x0.size : Int) then ((runes_Split.f (x0.extract 0 (x7 : Int).toNat)).bind fun t261 => ((runes_Split.f (x0.extract (x7 : Int).toNat x0.size)).bind fun t264 => (if (t261.length : Int) = x6 then (parquetrylaw01_RunesCuts.j2 k x5 x6 x7 t261 t264 ((t264.length : Int) != (wrap64 ((x5.length : Int) - x6)))) else (parquetrylaw01_RunesCuts.j2 k x5 x6 x7 t261 t264 true)))) else (none)) else (none))
def parquetrylaw01_RunesCuts.j2 : Nat → List (S27) → Int → Int → List (S27) → List (S27) → Bool → Option (Bool)
  | 0, _, _, _, _, _, _ => none
  | k + 1, x5, x6, x7, x8, x9, x64 => if x64 = true then (some false) else (parquetrylaw01_RunesCuts.l0 k x5 x6 x7 x8 x9 0)
def parquetrylaw01_RunesCuts.l0 : Nat → List (S27) → Int → Int → List (S27) → List (S27) → Int → Option (Bool)
  | 0, _, _, _, _, _, _ => none
  | k + 1, x5, x6, x7, x8, x9, x10 => if x10 < (x5.length : Int) then (if 0 ≤ x10 then (if x10 < x6 then (if x10 < (x8.length : Int) then (parquetrylaw01_RunesCuts.j4 k x5 x6 x7 x8 x9 x10 (!(((rd_T27 x8 x10).f0) == ((rd_T27 x5 x10).f0)) || (!(((rd_T27 x8 x10).f1) == ((rd_T27 x5 x10).f1)) || (!(((rd_T27 x8 x10).f2) == ((rd_T27 x5 x10).f2))))) ((rd_T27 x5 x10).f0) ((rd_T27 x5 x10).f1) ((rd_T27 x5 x10).f2)) else (none)) else (parquetrylaw01_RunesCuts.j4 k x5 x6 x7 x8 x9 x10 false ((rd_T27 x5 x10).f0) ((rd_T27 x5 x10).f1) ((rd_T27 x5 x10).f2))) else (none)) else ((parquetrylaw01_awake.f k).bind fun t267 => (some t267))
def parquetrylaw01_RunesCuts.j4 : Nat → List (S27) → Int → Int → List (S27) → List (S27) → Int → Bool → Int → Int → Int → Option (Bool)
  | 0, _, _, _, _, _, _, _, _, _, _ => none
  | k + 1, x5, x6, x7, x8, x9, x10, x85, x270000, x270001, x270002 => if x85 = true then (some false) else (if x10 ≥ x6 then (if 0 ≤ (wrap64 (x10 - x6)) then (if (wrap64 (x10 - x6)) < (x9.length : Int) then (if (!(((rd_T27 x9 (wrap64 (x10 - x6))).f0) == (wrap64 (x270000 - x7))) || (!(((rd_T27 x9 (wrap64 (x10 - x6))).f1) == x270001) || (!(((rd_T27 x9 (wrap64 (x10 - x6))).f2) == x270002)))) = true then (some false) else (parquetrylaw01_RunesCuts.l0 k x5 x6 x7 x8 x9 (wrap64 (x10 + 1)))) else (none)) else (none)) else (parquetrylaw01_RunesCuts.l0 k x5 x6 x7 x8 x9 (wrap64 (x10 + 1))))
end
def parquetrylaw01_RunesCuts.f (k : Nat) (a0 : ByteArray) (a1 : Int) : Option (Bool) := if (a0.size : Int) > 4000 then (parquetrylaw01_RunesCuts.j0 k a0 a1 true) else (parquetrylaw01_RunesCuts.j0 k a0 a1 ((a0.size : Int) == 0))
theorem parquetrylaw01_RunesCuts.mono_l : ∀ k, (∀ y0 y1 y2, LeO (parquetrylaw01_RunesCuts.j0 k y0 y1 y2) (parquetrylaw01_RunesCuts.j0 (k + 1) y0 y1 y2)) ∧ (∀ y0 y1 y2 y3 y4, LeO (parquetrylaw01_RunesCuts.j1 k y0 y1 y2 y3 y4) (parquetrylaw01_RunesCuts.j1 (k + 1) y0 y1 y2 y3 y4)) ∧ (∀ y0 y1 y2 y3 y4 y5, LeO (parquetrylaw01_RunesCuts.j2 k y0 y1 y2 y3 y4 y5) (parquetrylaw01_RunesCuts.j2 (k + 1) y0 y1 y2 y3 y4 y5)) ∧ (∀ y0 y1 y2 y3 y4 y5, LeO (parquetrylaw01_RunesCuts.l0 k y0 y1 y2 y3 y4 y5) (parquetrylaw01_RunesCuts.l0 (k + 1) y0 y1 y2 y3 y4 y5)) ∧ (∀ y0 y1 y2 y3 y4 y5 y6 y7 y8 y9, LeO (parquetrylaw01_RunesCuts.j4 k y0 y1 y2 y3 y4 y5 y6 y7 y8 y9) (parquetrylaw01_RunesCuts.j4 (k + 1) y0 y1 y2 y3 y4 y5 y6 y7 y8 y9))
  | 0 => ⟨fun _ _ _ r h => by simp [parquetrylaw01_RunesCuts.j0] at h, fun _ _ _ _ _ r h => by simp [parquetrylaw01_RunesCuts.j1] at h, fun _ _ _ _ _ _ r h => by simp [parquetrylaw01_RunesCuts.j2] at h, fun _ _ _ _ _ _ r h => by simp [parquetrylaw01_RunesCuts.l0] at h, fun _ _ _ _ _ _ _ _ _ _ r h => by simp [parquetrylaw01_RunesCuts.j4] at h⟩
  | k + 1 => by
    obtain ⟨ih0, ih1, ih2, ih3, ih4⟩ := parquetrylaw01_RunesCuts.mono_l k
    refine ⟨?_, ?_, ?_, ?_, ?_⟩
    · intro y0 y1 y2
      unfold parquetrylaw01_RunesCuts.j0
      repeat' first
      | (with_reducible exact ih0 _ _ _)
      | (with_reducible exact ih1 _ _ _ _ _)
      | (with_reducible exact ih2 _ _ _ _ _ _)
      | (with_reducible exact ih3 _ _ _ _ _ _)
      | (with_reducible exact ih4 _ _ _ _ _ _ _ _ _ _)
      | (with_reducible exact parquetrylaw01_awake.mono _)
      | (with_reducible exact LeO.refl _)
      | (with_reducible exact LeO.none _)
      | (with_reducible refine LeO.ite ?_ ?_)
      | (with_reducible refine LeO.bind ?_ (fun _ => ?_))
      | exact ih0 _ _ _
      | exact ih1 _ _ _ _ _
      | exact ih2 _ _ _ _ _ _
      | exact ih3 _ _ _ _ _ _
      | exact ih4 _ _ _ _ _ _ _ _ _ _
      | exact parquetrylaw01_awake.mono _
      | exact LeO.none _
      | refine LeO.ite ?_ ?_
      | refine LeO.bind ?_ (fun _ => ?_)
    · intro y0 y1 y2 y3 y4
      unfold parquetrylaw01_RunesCuts.j1
      repeat' first
      | (with_reducible exact ih0 _ _ _)
      | (with_reducible exact ih1 _ _ _ _ _)
      | (with_reducible exact ih2 _ _ _ _ _ _)
      | (with_reducible exact ih3 _ _ _ _ _ _)
      | (with_reducible exact ih4 _ _ _ _ _ _ _ _ _ _)
      | (with_reducible exact parquetrylaw01_awake.mono _)
      | (with_reducible exact LeO.refl _)
      | (with_reducible exact LeO.none _)
      | (with_reducible refine LeO.ite ?_ ?_)
      | (with_reducible refine LeO.bind ?_ (fun _ => ?_))
      | exact ih0 _ _ _
      | exact ih1 _ _ _ _ _
      | exact ih2 _ _ _ _ _ _
      | exact ih3 _ _ _ _ _ _
      | exact ih4 _ _ _ _ _ _ _ _ _ _
      | exact parquetrylaw01_awake.mono _
      | exact LeO.none _
      | refine LeO.ite ?_ ?_
      | refine LeO.bind ?_ (fun _ => ?_)
    · intro y0 y1 y2 y3 y4 y5
      unfold parquetrylaw01_RunesCuts.j2
      repeat' first
      | (with_reducible exact ih0 _ _ _)
      | (with_reducible exact ih1 _ _ _ _ _)
      | (with_reducible exact ih2 _ _ _ _ _ _)
      | (with_reducible exact ih3 _ _ _ _ _ _)
      | (with_reducible exact ih4 _ _ _ _ _ _ _ _ _ _)
      | (with_reducible exact parquetrylaw01_awake.mono _)
      | (with_reducible exact LeO.refl _)
      | (with_reducible exact LeO.none _)
      | (with_reducible refine LeO.ite ?_ ?_)
      | (with_reducible refine LeO.bind ?_ (fun _ => ?_))
      | exact ih0 _ _ _
      | exact ih1 _ _ _ _ _
      | exact ih2 _ _ _ _ _ _
      | exact ih3 _ _ _ _ _ _
      | exact ih4 _ _ _ _ _ _ _ _ _ _
      | exact parquetrylaw01_awake.mono _
      | exact LeO.none _
      | refine LeO.ite ?_ ?_
      | refine LeO.bind ?_ (fun _ => ?_)
    · intro y0 y1 y2 y3 y4 y5
      unfold parquetrylaw01_RunesCuts.l0
      repeat' first
      | (with_reducible exact ih0 _ _ _)
      | (with_reducible exact ih1 _ _ _ _ _)
      | (with_reducible exact ih2 _ _ _ _ _ _)
      | (with_reducible exact ih3 _ _ _ _ _ _)
      | (with_reducible exact ih4 _ _ _ _ _ _ _ _ _ _)
      | (with_reducible exact parquetrylaw01_awake.mono _)
      | (with_reducible exact LeO.refl _)
      | (with_reducible exact LeO.none _)
      | (with_reducible refine LeO.ite ?_ ?_)
      | (with_reducible refine LeO.bind ?_ (fun _ => ?_))
      | exact ih0 _ _ _
      | exact ih1 _ _ _ _ _
      | exact ih2 _ _ _ _ _ _
      | exact ih3 _ _ _ _ _ _
      | exact ih4 _ _ _ _ _ _ _ _ _ _
      | exact parquetrylaw01_awake.mono _
      | exact LeO.none _
      | refine LeO.ite ?_ ?_
      | refine LeO.bind ?_ (fun _ => ?_)
    · intro y0 y1 y2 y3 y4 y5 y6 y7 y8 y9
      unfold parquetrylaw01_RunesCuts.j4
      repeat' first
      | (with_reducible exact ih0 _ _ _)
      | (with_reducible exact ih1 _ _ _ _ _)
      | (with_reducible exact ih2 _ _ _ _ _ _)
      | (with_reducible exact ih3 _ _ _ _ _ _)
      | (with_reducible exact ih4 _ _ _ _ _ _ _ _ _ _)
      | (with_reducible exact parquetrylaw01_awake.mono _)
      | (with_reducible exact LeO.refl _)
      | (with_reducible exact LeO.none _)
      | (with_reducible refine LeO.ite ?_ ?_)
      | (with_reducible refine LeO.bind ?_ (fun _ => ?_))
      | exact ih0 _ _ _
      | exact ih1 _ _ _ _ _
      | exact ih2 _ _ _ _ _ _
      | exact ih3 _ _ _ _ _ _
      | exact ih4 _ _ _ _ _ _ _ _ _ _
      | exact parquetrylaw01_awake.mono _
      | exact LeO.none _
      | refine LeO.ite ?_ ?_
      | refine LeO.bind ?_ (fun _ => ?_)
theorem parquetrylaw01_RunesCuts.mono : ∀ a0 a1 k, LeO (parquetrylaw01_RunesCuts.f k a0 a1) (parquetrylaw01_RunesCuts.f (k + 1) a0 a1) := by
  intro a0 a1 k
  obtain ⟨ih0, ih1, ih2, ih3, ih4⟩ := parquetrylaw01_RunesCuts.mono_l k
  unfold parquetrylaw01_RunesCuts.f
  repeat' first
      | (with_reducible exact ih0 _ _ _)
      | (with_reducible exact ih1 _ _ _ _ _)
      | (with_reducible exact ih2 _ _ _ _ _ _)
      | (with_reducible exact ih3 _ _ _ _ _ _)
      | (with_reducible exact ih4 _ _ _ _ _ _ _ _ _ _)
      | (with_reducible exact parquetrylaw01_awake.mono _)
      | (with_reducible exact LeO.refl _)
      | (with_reducible exact LeO.none _)
      | (with_reducible refine LeO.ite ?_ ?_)
      | (with_reducible refine LeO.bind ?_ (fun _ => ?_))
      | exact ih0 _ _ _
      | exact ih1 _ _ _ _ _
      | exact ih2 _ _ _ _ _ _
      | exact ih3 _ _ _ _ _ _
      | exact ih4 _ _ _ _ _ _ _ _ _ _
      | exact parquetrylaw01_awake.mono _
      | exact LeO.none _
      | refine LeO.ite ?_ ?_
      | refine LeO.bind ?_ (fun _ => ?_)
def parquetrylaw01_RunesCuts.T10 : Bool × List (List Nat × List Nat) := (true, [([], []), ([], []), ([0, 1], [0, 1]), ([2], [2]), ([], []), ([], []), ([4, 5], [4, 5]), ([6, 3], [6]), ([3, 7, 0, 1, 2, 3], [3]), ([7, 8, 0, 1, 2, 3, 4, 5, 6, 7, 8], [7])])
def parquetrylaw01_RunesCuts.B10 : List Nat := [0, 0, 3, 7, 0, 0, 48, 127, 255, 511]
theorem parquetrylaw01_RunesCuts.tab10 : rtab .any (opsOf Try.f8 10) = parquetrylaw01_RunesCuts.T10 := by kernel_rfl
theorem parquetrylaw01_RunesCuts.bits10 : waitsOk parquetrylaw01_RunesCuts.T10.2 parquetrylaw01_RunesCuts.B10 = true := by kernel_rfl
def parquetrylaw01_RunesCuts.T17 : Bool × List (List Nat × List Nat) := (true, [([], []), ([], []), ([0, 1], [0, 1]), ([2], [2]), ([3], [3]), ([3], [3]), ([4, 5, 3], [3, 4, 5]), ([6, 3], [3, 6]), ([3], [3]), ([7, 8, 3], [3, 7, 8]), ([3, 9], [3, 9])])
def parquetrylaw01_RunesCuts.B17 : List Nat := [0, 0, 3, 7, 15, 15, 63, 127, 15, 511, 1023]
theorem parquetrylaw01_RunesCuts.tab17 : rtab .any (opsOf Try.f8 17) = parquetrylaw01_RunesCuts.T17 := by kernel_rfl
theorem parquetrylaw01_RunesCuts.bits17 : waitsOk parquetrylaw01_RunesCuts.T17.2 parquetrylaw01_RunesCuts.B17 = true := by kernel_rfl
def parquetrylaw01_RunesCuts.T20 : Bool × List (List Nat × List Nat) := (true, [([], []), ([], []), ([0, 1], [0, 1]), ([2], [2]), ([3], [3]), ([3], [3]), ([3], [3]), ([5, 6, 3], [3, 5, 6]), ([4, 7, 3], [3, 4, 7]), ([8, 3], [3, 8]), ([3], [3]), ([9, 10, 3], [3, 9, 10]), ([3, 11], [3, 11])])
def parquetrylaw01_RunesCuts.B20 : List Nat := [0, 0, 3, 7, 15, 15, 15, 111, 255, 511, 15, 2047, 4095]
theorem parquetrylaw01_RunesCuts.tab20 : rtab .any (opsOf Try.f8 20) = parquetrylaw01_RunesCuts.T20 := by kernel_rfl
theorem parquetrylaw01_RunesCuts.bits20 : waitsOk parquetrylaw01_RunesCuts.T20.2 parquetrylaw01_RunesCuts.B20 = true := by kernel_rfl
set_option maxHeartbeats 8000000 in
set_option maxRecDepth 100000 in
theorem parquetrylaw01_RunesCuts.calls (k : Nat) (a0 : ByteArray) (a1 : Int) (r : Bool) (w : World) (h : parquetrylaw01_RunesCuts.f k a0 a1 = some r) :
    Calls Try.prog 8 #[.string a0, .int .i64 a1] w fun e w' => e = .returned (.bool r) ∧ Below w.heap.size w w' := by
  have hu27 := Try.underlying27
  have HB := Aside0.mk (Below.refl w.heap.size w)
  have H : (if (a0.size : Int) > 4000 then (parquetrylaw01_RunesCuts.j0 k a0 a1 true) else (parquetrylaw01_RunesCuts.j0 k a0 a1 ((a0.size : Int) == 0))) = some r := h
  clear h
  have HC3 := Aside0.mk H
  clear H
  go_enter Try.func8, Try.ntmps8
  go_upto_region 1 with (fail)
  go_cut [19] (fun v19 wc => ∃ (kq : Nat) (x19_2 : Bool), v19 = .bool x19_2 ∧ Aside0 (parquetrylaw01_RunesCuts.j0 kq a0 a1 x19_2 = some r) ∧ Aside0 (kq ≤ k) ∧ Aside0 (Below w.heap.size w wc))
  case first =>
    have H := HC3.out
    clear HC3
    by_cases c4 : (a0.size : Int) > 4000
    · rw [if_pos c4] at H
      have c4b0 : decide (4000 < (a0.size : Int)) = true := decide_eq_true c4
      have c4b1 : decide (4000 < a0.size) = true := decide_eq_true (by omega)
      clear c4
      (first | rw [c4b0] | (simp only [i64_w, i32_w]; rw [c4b0]) | skip)
      have H' := Aside0.mk H
      clear H
      go_wp2
      go_meet
      case rel => exact ⟨_, (true), (by first | rfl | (simp; done) | (simp [*]; done)), H', ⟨by first | omega | exact Nat.le_refl _⟩, ⟨by repeat (first | (with_reducible first | exact HB.out | apply below_alloc | apply pw_below_drewN | apply below_drew1) | exact HB.out)⟩⟩
    · rw [if_neg c4] at H
      have c4b0 : decide (4000 < (a0.size : Int)) = false := decide_eq_false c4
      have c4b1 : decide (4000 < a0.size) = false := decide_eq_false (by omega)
      clear c4
      (first | rw [c4b0] | (simp only [i64_w, i32_w]; rw [c4b0]) | skip)
      have H' := Aside0.mk H
      clear H
      go_wp2
      go_meet
      case rel => exact ⟨_, (((a0.size : Int) == 0)), (by first | rfl | (simp; done) | (simp [*]; done)), H', ⟨by first | omega | exact Nat.le_refl _⟩, ⟨by repeat (first | (with_reducible first | exact HB.out | apply below_alloc | apply pw_below_drewN | apply below_drew1) | exact HB.out)⟩⟩
  case rest =>
    clear HC3
    try clear p2
    try clear c4
    try clear c4b0
    try clear c4b1
    obtain ⟨kq, x19_2, rfl, HA, HJ2, HB⟩ := hcut
    cases kq with
    | zero => exact absurd HA.out (by simp [parquetrylaw01_RunesCuts.j0])
    | succ kj2 =>
      have H := HA.out
      clear HA
      simp only [parquetrylaw01_RunesCuts.j0] at H
      by_cases c5 : x19_2 = true
      · subst c5
        have H1 : ((parquetrylaw01_awake.f kj2).bind fun t256 => (some t256)) = some r := by rw [if_pos rfl] at H; exact H
        clear H
        have H := H1
        clear H1
        replace H := Option.bind_eq_some_iff.mp H
        obtain ⟨t256, A60, H⟩ := H
        replace H : (some t256) = some r := H
        have A6 := Aside0.mk A60
        clear A60
        obtain rfl := Option.some.inj H
        go_wp2_with (first | ((with_reducible refine gate_callee (f := 14) rfl ?_); refine goesL_ (some 20) rfl rfl Try.func14 (by kernel_rfl) rfl #[] rfl (by (try simp only [List.map_toArray, List.map_cons, List.map_nil]); first | done | rfl | (simp only [List.length_drop, List.length_take]; rfl)) ?_; (with_reducible refine (parquetrylaw01_awake.calls kj2  t256 _ A6.out).mono ?_); rintro e w7 ⟨rfl, hb⟩; refine ⟨_, rfl, ?_⟩; have n0_ := Aside0.mk (below_step (by repeat (first | (with_reducible first | exact HB.out | apply below_alloc | apply pw_below_drewN | apply below_drew1) | exact HB.out)) hb); clear HB; have HB := n0_; clear n0_; (try clear hb); (try clear hb2); (try clear hk); (try clear hi)))
        go_ret
        exact ⟨by first | rfl | (simp [errW_none, errW_some] <;> rfl) | (simp [*, errW_none, errW_some] <;> rfl), by repeat (first | (with_reducible first | exact HB.out | apply below_alloc | apply pw_below_drewN | apply below_drew1) | exact HB.out)⟩
      · replace c5 := Bool.eq_false_iff.mpr c5
        subst c5
        have H1 : ((runes_Split.f a0).bind fun t257 => (if (t257.length : Int) = 0 then (some false) else (if 0 ≤ (Int.tmod (Go.bits .and .i64 a1 65535) (t257.length : Int)) then (if (Int.tmod (Go.bits .and .i64 a1 65535) (t257.length : Int)) < (t257.length : Int) then (if ((rd_T27 t257 (Int.tmod (Go.bits .and .i64 a1 65535) (t257.length : Int))).f0) < 0 then (parquetrylaw01_RunesCuts.j1 kj2 a0 t257 (Int.tmod (Go.bits .and .i64 a1 65535) (t257.length : Int)) ((rd_T27 t257 (Int.tmod (Go.bits .and .i64 a1 65535) (t257.length : Int))).f0) true) else (parquetrylaw01_RunesCuts.j1 kj2 a0 t257 (Int.tmod (Go.bits .and .i64 a1 65535) (t257.length : Int)) ((rd_T27 t257 (Int.tmod (Go.bits .and .i64 a1 65535) (t257.length : Int))).f0) (decide (((rd_T27 t257 (Int.tmod (Go.bits .and .i64 a1 65535) (t257.length : Int))).f0) > (a0.size : Int))))) else (none)) else (none)))) = some r := by rw [if_neg (show ¬ (false = true) by decide)] at H; exact H
        clear H
        have H := H1
        clear H1
        replace H := Option.bind_eq_some_iff.mp H
        obtain ⟨t257, A80, H⟩ := H
        replace H : (if (t257.length : Int) = 0 then (some false) else (if 0 ≤ (Int.tmod (Go.bits .and .i64 a1 65535) (t257.length : Int)) then (if (Int.tmod (Go.bits .and .i64 a1 65535) (t257.length : Int)) < (t257.length : Int) then (if ((rd_T27 t257 (Int.tmod (Go.bits .and .i64 a1 65535) (t257.length : Int))).f0) < 0 then (parquetrylaw01_RunesCuts.j1 kj2 a0 t257 (Int.tmod (Go.bits .and .i64 a1 65535) (t257.length : Int)) ((rd_T27 t257 (Int.tmod (Go.bits .and .i64 a1 65535) (t257.length : Int))).f0) true) else (parquetrylaw01_RunesCuts.j1 kj2 a0 t257 (Int.tmod (Go.bits .and .i64 a1 65535) (t257.length : Int)) ((rd_T27 t257 (Int.tmod (Go.bits .and .i64 a1 65535) (t257.length : Int))).f0) (decide (((rd_T27 t257 (Int.tmod (Go.bits .and .i64 a1 65535) (t257.length : Int))).f0) > (a0.size : Int))))) else (none)) else (none))) = some r := H
        have A8 := Aside0.mk A80
        clear A80
        by_cases c9 : (t257.length : Int) = 0
        · rw [if_pos c9] at H
          have c9b0 : ((t257.length : Int) == 0) = true := beq_iff_eq.mpr c9
          have c9b1 : ((t257.length : Int) != 0) = false := bne_eq_false_iff_eq.mpr c9
          clear c9
          obtain rfl := Option.some.inj H
          go_wp2_with (first | ((with_reducible refine gate_callee (f := 17) rfl ?_); refine goesL_ (some 22) rfl rfl Try.func17 (by kernel_rfl) rfl #[.string a0] rfl (by (try simp only [List.map_toArray, List.map_cons, List.map_nil]); first | done | rfl | (simp only [List.length_drop, List.length_take]; rfl)) ?_; (with_reducible refine (runes_Split.calls a0 t257 _ A8.out).mono ?_); rintro e w10 ⟨v258, rfl, ho0, hb⟩; refine ⟨_, rfl, ?_⟩; have n0_ := Aside0.mk (Kd.R_lower ho0 (below_size (by repeat (first | (with_reducible first | exact HB.out | apply below_alloc | apply pw_below_drewN | apply below_drew1) | exact HB.out)))); have n1_ := Aside0.mk (below_step (by repeat (first | (with_reducible first | exact HB.out | apply below_alloc | apply pw_below_drewN | apply below_drew1) | exact HB.out)) hb); clear HB; have HO259 := n0_; have HB := n1_; clear n0_ n1_; (try clear hb); (try clear hb2); (try clear hk); (try clear hi); (try clear ho0); obtain ⟨Ao11, co11, eo11⟩ := Kd.R_slice HO259.out; subst eo11))
          go_ret
          exact ⟨by first | rfl | (simp [errW_none, errW_some] <;> rfl) | (simp [*, errW_none, errW_some] <;> rfl), by repeat (first | (with_reducible first | exact HB.out | apply below_alloc | apply pw_below_drewN | apply below_drew1) | exact HB.out)⟩
        · rw [if_neg c9] at H
          have c9b0 : ((t257.length : Int) == 0) = false := beq_eq_false_iff_ne.mpr c9
          have c9b1 : ((t257.length : Int) != 0) = true := bne_iff_ne.mpr c9
          have c9b2 : ¬ (t257 = []) := fun h_ => c9 (by rw [h_]; rfl)
          obtain ⟨ji12, hji12⟩ : ∃ j_ : Int, (Int.tmod (Go.bits .and .i64 a1 65535) (t257.length : Int)) = j_ := ⟨_, rfl⟩
          replace H : (if 0 ≤ (ji12) then (if (ji12) < (t257.length : Int) then (if ((rd_T27 t257 (ji12)).f0) < 0 then (parquetrylaw01_RunesCuts.j1 kj2 a0 t257 ji12 ((rd_T27 t257 (ji12)).f0) true) else (parquetrylaw01_RunesCuts.j1 kj2 a0 t257 ji12 ((rd_T27 t257 (ji12)).f0) (decide (((rd_T27 t257 (ji12)).f0) > (a0.size : Int))))) else (none)) else (none)) = some r := by first | (rw [hji12] at H; exact H) | (simp only [hji12] at H ⊢; exact H)
          (try rw [hji12] at A8)
          by_cases c13 : 0 ≤ (ji12)
          · rw [if_pos c13] at H
            have c13b0 : decide (0 ≤ (ji12)) = true := decide_eq_true c13
            clear c13
            by_cases c14 : (ji12) < (t257.length : Int)
            · rw [if_pos c14] at H
              have c14b0 : decide ((ji12) < (t257.length : Int)) = true := decide_eq_true c14
              clear c14
              have HC15 := Aside0.mk H
              clear H
              go_upto_region 8 with (first | ((with_reducible refine gate_callee (f := 17) rfl ?_); refine goesL_ (some 22) rfl rfl Try.func17 (by kernel_rfl) rfl #[.string a0] rfl (by (try simp only [List.map_toArray, List.map_cons, List.map_nil]); first | done | rfl | (simp only [List.length_drop, List.length_take]; rfl)) ?_; (with_reducible refine (runes_Split.calls a0 t257 _ A8.out).mono ?_); rintro e w16 ⟨v258, rfl, ho0, hb⟩; refine ⟨_, rfl, ?_⟩; have n0_ := Aside0.mk (Kd.R_lower ho0 (below_size (by repeat (first | (with_reducible first | exact HB.out | apply below_alloc | apply pw_below_drewN | apply below_drew1) | exact HB.out)))); have n1_ := Aside0.mk (below_step (by repeat (first | (with_reducible first | exact HB.out | apply below_alloc | apply pw_below_drewN | apply below_drew1) | exact HB.out)) hb); clear HB; have HO259 := n0_; have HB := n1_; clear n0_ n1_; (try clear hb); (try clear hb2); (try clear hk); (try clear hi); (try clear ho0); obtain ⟨Ao17, co17, eo17⟩ := Kd.R_slice HO259.out; subst eo17; have p260 : 0 ≤ ((ji12) : Int) := of_decide_eq_true (by first | (with_reducible assumption) | assumption); have q260 : (ji12) < (t257.length : Int) := of_decide_eq_true (by first | (with_reducible assumption) | assumption); obtain ⟨ad260, e260, hx260_0, hx260_1, hx260_2⟩ := at_T27 (Kd.R_reads' HO259.out).2.2 (ji12) p260 q260; cases e260; replace p260 := eq_true p260; replace q260 := eq_true q260))
              (try simp only [Act.put, List.setIfInBounds_toArray, List.set_cons_zero, List.set_cons_succ])
              go_cut [43] (fun v43 wc => ∃ (kq : Nat) (x43_14 : Bool), v43 = .bool x43_14 ∧ Aside0 (parquetrylaw01_RunesCuts.j1 kq a0 t257 ji12 ((rd_T27 t257 (ji12)).f0) x43_14 = some r) ∧ Aside0 (kq ≤ kj2) ∧ Aside0 (Kd.R k27 27 wc w.heap.size (fun _ => True) (.slice (some ad260) t257.length co17) t257) ∧ Aside0 (Below w.heap.size w wc))
              case first =>
                have H := HC15.out
                clear HC15
                by_cases c18 : ((rd_T27 t257 (ji12)).f0) < 0
                · rw [if_pos c18] at H
                  have c18b0 : decide (((rd_T27 t257 (ji12)).f0) < 0) = true := decide_eq_true c18
                  clear c18
                  (first | rw [c18b0] | (simp only [i64_w, i32_w]; rw [c18b0]) | skip)
                  have H' := Aside0.mk H
                  clear H
                  go_wp2
                  go_meet
                  case rel => exact ⟨_, (true), (by first | rfl | (simp; done) | (simp [*]; done)), H', ⟨by have := HJ2.out; first | omega | exact Nat.le_refl _⟩, ⟨by (with_reducible repeat (first | apply Kd.R_alloc | apply Kd.R_drewN | apply Kd.R_drew)); exact HO259.out⟩, ⟨by repeat (first | (with_reducible first | exact HB.out | apply below_alloc | apply pw_below_drewN | apply below_drew1) | exact HB.out)⟩⟩
                · rw [if_neg c18] at H
                  have c18b0 : decide (((rd_T27 t257 (ji12)).f0) < 0) = false := decide_eq_false c18
                  clear c18
                  (first | rw [c18b0] | (simp only [i64_w, i32_w]; rw [c18b0]) | skip)
                  have H' := Aside0.mk H
                  clear H
                  go_wp2
                  go_meet
                  case rel => exact ⟨_, (decide (((rd_T27 t257 (ji12)).f0) > (a0.size : Int))), (by first | rfl | (simp; done) | (simp only [← hji12] <;> (first | rfl | simp)) | (simp [*]; done)), H', ⟨by have := HJ2.out; first | omega | exact Nat.le_refl _⟩, ⟨by (with_reducible repeat (first | apply Kd.R_alloc | apply Kd.R_drewN | apply Kd.R_drew)); exact HO259.out⟩, ⟨by repeat (first | (with_reducible first | exact HB.out | apply below_alloc | apply pw_below_drewN | apply below_drew1) | exact HB.out)⟩⟩
              case rest =>
                clear HC15
                try clear c1
                try clear p2
                try clear q2
                try clear hx2
                try clear c4
                try clear c4b0
                try clear c4b1
                try clear c5
                try clear c8
                try clear c9
                try clear c9b0
                try clear c9b1
                try clear c9b2
                try clear c13
                try clear c13b0
                try clear c14
                try clear c14b0
                try clear c17
                try clear c18
                try clear c18b0
                try clear hx260_0
                try clear hx260_1
                try clear hx260_2
                try clear p2
                try clear p260
                try clear q260
                obtain ⟨kq, x43_14, rfl, HA, HJ14, HO_5, HB⟩ := hcut
                cases kq with
                | zero => exact absurd HA.out (by simp [parquetrylaw01_RunesCuts.j1])
                | succ kj14 =>
                  have H := HA.out
                  clear HA
                  simp only [parquetrylaw01_RunesCuts.j1] at H
                  by_cases c19 : x43_14 = true
                  · subst c19
                    have H1 : (some false) = some r := by rw [if_pos rfl] at H; exact H
                    clear H
                    have H := H1
                    clear H1
                    obtain rfl := Option.some.inj H
                    go_wp2
                    go_ret
                    exact ⟨by first | rfl | (simp [errW_none, errW_some] <;> rfl) | (simp only [← hji12]; first | rfl | (simp [errW_none, errW_some] <;> rfl)) | (simp [*, errW_none, errW_some] <;> rfl), by repeat (first | (with_reducible first | exact HB.out | apply below_alloc | apply pw_below_drewN | apply below_drew1) | exact HB.out)⟩
                  · replace c19 := Bool.eq_false_iff.mpr c19
                    subst c19
                    have H1 : (if 0 ≤ ((rd_T27 t257 (ji12)).f0) then (if ((rd_T27 t257 (ji12)).f0) ≤ (a0.size : Int) then ((runes_Split.f (a0.extract 0 (((rd_T27 t257 (ji12)).f0) : Int).toNat)).bind fun t261 => ((runes_Split.f (a0.extract (((rd_T27 t257 (ji12)).f0) : Int).toNat a0.size)).bind fun t264 => (if (t261.length : Int) = ji12 then (parquetrylaw01_RunesCuts.j2 kj14 t257 ji12 ((rd_T27 t257 (ji12)).f0) t261 t264 ((t264.length : Int) != (wrap64 ((t257.length : Int) - ji12)))) else (parquetrylaw01_RunesCuts.j2 kj14 t257 ji12 ((rd_T27 t257 (ji12)).f0) t261 t264 true)))) else (none)) else (none)) = some r := by rw [if_neg (show ¬ (false = true) by decide)] at H; exact H
                    clear H
                    have H := H1
                    clear H1
                    by_cases c20 : 0 ≤ ((rd_T27 t257 (ji12)).f0)
                    · rw [if_pos c20] at H
                      have c20b0 := eq_true c20
                      have c20b1 : decide (0 ≤ ((rd_T27 t257 (ji12)).f0)) = true := decide_eq_true c20
                      clear c20
                      by_cases c21 : ((rd_T27 t257 (ji12)).f0) ≤ (a0.size : Int)
                      · rw [if_pos c21] at H
                        have c21b0 := eq_true c21
                        have c21b1 : decide (((rd_T27 t257 (ji12)).f0) ≤ (a0.size : Int)) = true := decide_eq_true c21
                        clear c21
                        replace H := Option.bind_eq_some_iff.mp H
                        obtain ⟨t261, A220, H⟩ := H
                        replace H : ((runes_Split.f (a0.extract (((rd_T27 t257 (ji12)).f0) : Int).toNat a0.size)).bind fun t264 => (if (t261.length : Int) = ji12 then (parquetrylaw01_RunesCuts.j2 kj14 t257 ji12 ((rd_T27 t257 (ji12)).f0) t261 t264 ((t264.length : Int) != (wrap64 ((t257.length : Int) - ji12)))) else (parquetrylaw01_RunesCuts.j2 kj14 t257 ji12 ((rd_T27 t257 (ji12)).f0) t261 t264 true))) = some r := H
                        have A22 := Aside0.mk A220
                        clear A220
                        have c23b0 := eq_true (of_decide_eq_true (by first | (with_reducible assumption) | assumption) : 0 ≤ ((rd_T27 t257 (ji12)).f0))
                        have c24b0 := eq_true (of_decide_eq_true (by first | (with_reducible assumption) | assumption) : ((rd_T27 t257 (ji12)).f0) ≤ (a0.size : Int))
                        replace H := Option.bind_eq_some_iff.mp H
                        obtain ⟨t264, A250, H⟩ := H
                        replace H : (if (t261.length : Int) = ji12 then (parquetrylaw01_RunesCuts.j2 kj14 t257 ji12 ((rd_T27 t257 (ji12)).f0) t261 t264 ((t264.length : Int) != (wrap64 ((t257.length : Int) - ji12)))) else (parquetrylaw01_RunesCuts.j2 kj14 t257 ji12 ((rd_T27 t257 (ji12)).f0) t261 t264 true)) = some r := H
                        have A25 := Aside0.mk A250
                        clear A250
                        have HC26 := Aside0.mk H
                        clear H
                        try go_wp2
                        have n0_ := Aside0.mk (Kd.R_drew HO_5.out)
                        have n1_ := Aside0.mk (below_drew1 HB.out)
                        clear HO_5
                        clear HB
                        have HO_5 := n0_
                        have HB := n1_
                        clear n0_ n1_
                        refine start_ (n := 10) (S := fun w' => True) (ds := []) #[false, false, false, false, false, false, false, false, false, false] (by kernel_rfl) rfl rfl trivial (fun hHeld => ?_); refine with_tabW parquetrylaw01_RunesCuts.tab10 parquetrylaw01_RunesCuts.bits10 (fun HT_ HW_ => ?_)
                        generalize wc.drew = w27 at HO_5 HB hHeld ⊢
                        refine pure_ (i := 0) (N := some 44) (v := ?_) (a' := ?_) #[true, false, false, false, false, false, false, false, false, false] rfl rfl (any_of HT_.out (by kernel_rfl)) (fun _ _ _ h => h) (Or.inl ⟨by rfl, ?_⟩) ?_ ?_
                        rotate_left
                        · intro w'
                          go_simp
                          with_reducible rfl
                        rotate_left
                        · simp only [Act.put, List.setIfInBounds_toArray, List.set_cons_zero, List.set_cons_succ, i64_w, i32_w]
                          rfl
                        refine pure_ (i := 1) (N := some 45) (v := ?_) (a' := ?_) #[true, true, false, false, false, false, false, false, false, false] rfl rfl (any_of HT_.out (by kernel_rfl)) (fun _ _ _ h => h) (Or.inl ⟨by rfl, ?_⟩) ?_ ?_
                        rotate_left
                        · intro w'
                          go_simp
                          with_reducible rfl
                        rotate_left
                        · simp only [Act.put, List.setIfInBounds_toArray, List.set_cons_zero, List.set_cons_succ, i64_w, i32_w]
                          rfl
                        refine pure_ (i := 2) (N := some 46) (v := ?_) (a' := ?_) #[true, true, true, false, false, false, false, false, false, false] rfl rfl (any_of HT_.out (by kernel_rfl)) (fun _ _ _ h => h) (Or.inl ⟨by rfl, ?_⟩) ?_ ?_
                        rotate_left
                        · intro w'
                          go_simp
                          with_reducible rfl
                        rotate_left
                        · simp only [Act.put, List.setIfInBounds_toArray, List.set_cons_zero, List.set_cons_succ, i64_w, i32_w]
                          rfl
                        refine pure_ (i := 4) (N := some 48) (v := ?_) (a' := ?_) #[true, true, true, false, true, false, false, false, false, false] rfl rfl (any_of HT_.out (by kernel_rfl)) (fun _ _ _ h => h) (Or.inl ⟨by rfl, ?_⟩) ?_ ?_
                        rotate_left
                        · intro w'
                          go_simp
                          with_reducible rfl
                        rotate_left
                        · simp only [Act.put, List.setIfInBounds_toArray, List.set_cons_zero, List.set_cons_succ, i64_w, i32_w]
                          rfl
                        refine pure_ (i := 5) (N := some 49) (v := ?_) (a' := ?_) #[true, true, true, false, true, true, false, false, false, false] rfl rfl (any_of HT_.out (by kernel_rfl)) (fun _ _ _ h => h) (Or.inl ⟨by rfl, ?_⟩) ?_ ?_
                        rotate_left
                        · intro w'
                          go_simp
                          with_reducible rfl
                        rotate_left
                        · simp only [Act.put, List.setIfInBounds_toArray, List.set_cons_zero, List.set_cons_succ, i64_w, i32_w]
                          rfl
                        refine pure_ (i := 6) (N := some 50) (v := ?_) (a' := ?_) #[true, true, true, false, true, true, true, false, false, false] rfl rfl (any_of HT_.out (by kernel_rfl)) (fun _ _ _ h => h) (Or.inl ⟨by rfl, ?_⟩) ?_ ?_
                        rotate_left
                        · intro w'
                          go_simp
                          with_reducible rfl
                        rotate_left
                        · simp only [Act.put, List.setIfInBounds_toArray, List.set_cons_zero, List.set_cons_succ, i64_w, i32_w]
                          rfl
                        refine one_ (i := 3) (N := some 47) #[true, true, true, true, true, true, true, false, false, false] rfl rfl (one_of HT_.out (by kernel_rfl)) (by decide) (fun K hK => ?_)
                        refine goes_ Try.func17 (by kernel_rfl) rfl #[.string (a0.extract 0 (((rd_T27 t257 (ji12)).f0) : Int).toNat)] (by rfl) rfl rfl (by (try simp only [List.map_toArray, List.map_cons, List.map_nil]); first | done | (simp only [hji12]; rfl) | rfl | (simp only [List.length_drop, List.length_take]; rfl)) ?_
                        with_reducible refine (runes_Split.calls (a0.extract 0 (((rd_T27 t257 (ji12)).f0) : Int).toNat) t261 _ A22.out).mono ?_
                        rintro e w28 ⟨v262, rfl, ho0, hb⟩
                        refine ⟨_, rfl, ?_⟩
                        have n0_ := Aside0.mk (Kd.R_elder' (by (with_reducible repeat (first | apply Kd.R_alloc | apply Kd.R_drewN | apply Kd.R_drew)); exact HO_5.out) (Kd.R_base ho0) hb)
                        have n1_ := Aside0.mk (Kd.R_lower (Kd.R_new' ho0 (Kd.R_lt (by (with_reducible repeat (first | apply Kd.R_alloc | apply Kd.R_drewN | apply Kd.R_drew)); exact HO_5.out))) (below_size (by repeat (first | (with_reducible first | exact HB.out | apply below_alloc | apply pw_below_drewN | apply below_drew1) | exact HB.out))))
                        have n2_ := Aside0.mk (below_step (by repeat (first | (with_reducible first | exact HB.out | apply below_alloc | apply pw_below_drewN | apply below_drew1) | exact HB.out)) hb)
                        clear HO_5
                        clear HB
                        have HO_5 := n0_
                        have HO263 := n1_
                        have HB := n2_
                        clear n0_ n1_ n2_
                        (try clear hb)
                        (try clear hb2)
                        (try clear hk)
                        (try clear hi)
                        (try clear ho0)
                        refine hK.out _ _ trivial (fun hHeld => ?_)
                        clear hK K
                        refine norm_ (a' := ?_) ?_ ?_
                        rotate_left
                        · show Act.put _ (some 47) _ = _
                          simp only [Act.put, List.setIfInBounds_toArray, List.set_cons_zero, List.set_cons_succ, i64_w, i32_w]
                          rfl
                        refine one_ (i := 7) (N := some 51) #[true, true, true, true, true, true, true, true, false, false] rfl rfl (one_of HT_.out (by kernel_rfl)) (by decide) (fun K hK => ?_)
                        refine goes_ Try.func17 (by kernel_rfl) rfl #[.string (a0.extract (((rd_T27 t257 (ji12)).f0) : Int).toNat a0.size)] (by rfl) rfl rfl (by (try simp only [List.map_toArray, List.map_cons, List.map_nil]); first | done | (simp only [hji12]; rfl) | rfl | (simp only [List.length_drop, List.length_take]; rfl)) ?_
                        with_reducible refine (runes_Split.calls (a0.extract (((rd_T27 t257 (ji12)).f0) : Int).toNat a0.size) t264 _ A25.out).mono ?_
                        rintro e w29 ⟨v265, rfl, ho0, hb⟩
                        refine ⟨_, rfl, ?_⟩
                        have n0_ := Aside0.mk (Kd.R_elder' (by (with_reducible repeat (first | apply Kd.R_alloc | apply Kd.R_drewN | apply Kd.R_drew)); exact HO_5.out) (Kd.R_base ho0) hb)
                        have n1_ := Aside0.mk (Kd.R_elder' (by (with_reducible repeat (first | apply Kd.R_alloc | apply Kd.R_drewN | apply Kd.R_drew)); exact HO263.out) (Kd.R_base ho0) hb)
                        have n2_ := Aside0.mk (Kd.R_lower (Kd.R_new' (Kd.R_new' ho0 (Kd.R_lt (by (with_reducible repeat (first | apply Kd.R_alloc | apply Kd.R_drewN | apply Kd.R_drew)); exact HO_5.out))) (Kd.R_lt (by (with_reducible repeat (first | apply Kd.R_alloc | apply Kd.R_drewN | apply Kd.R_drew)); exact HO263.out))) (below_size (by repeat (first | (with_reducible first | exact HB.out | apply below_alloc | apply pw_below_drewN | apply below_drew1) | exact HB.out))))
                        have n3_ := Aside0.mk (below_step (by repeat (first | (with_reducible first | exact HB.out | apply below_alloc | apply pw_below_drewN | apply below_drew1) | exact HB.out)) hb)
                        clear HO_5
                        clear HO263
                        clear HB
                        have HO_5 := n0_
                        have HO263 := n1_
                        have HO266 := n2_
                        have HB := n3_
                        clear n0_ n1_ n2_ n3_
                        (try clear hb)
                        (try clear hb2)
                        (try clear hk)
                        (try clear hi)
                        (try clear ho0)
                        refine hK.out _ _ trivial (fun hHeld => ?_)
                        clear hK K
                        refine norm_ (a' := ?_) ?_ ?_
                        rotate_left
                        · show Act.put _ (some 51) _ = _
                          simp only [Act.put, List.setIfInBounds_toArray, List.set_cons_zero, List.set_cons_succ, i64_w, i32_w]
                          rfl
                        refine pure_ (i := 8) (N := some 8) (v := ?_) (a' := ?_) #[true, true, true, true, true, true, true, true, true, false] rfl rfl (any_of HT_.out (by kernel_rfl)) (fun _ _ _ h => h) (Or.inl ⟨by rfl, ?_⟩) ?_ ?_
                        rotate_left
                        · intro w'
                          go_simp
                          with_reducible rfl
                        rotate_left
                        · simp only [Act.put, List.setIfInBounds_toArray, List.set_cons_zero, List.set_cons_succ, i64_w, i32_w]
                          rfl
                        refine pure_ (i := 9) (N := some 9) (v := ?_) (a' := ?_) #[true, true, true, true, true, true, true, true, true, true] rfl rfl (any_of HT_.out (by kernel_rfl)) (fun _ _ _ h => h) (Or.inl ⟨by rfl, ?_⟩) ?_ ?_
                        rotate_left
                        · intro w'
                          go_simp
                          with_reducible rfl
                        rotate_left
                        · simp only [Act.put, List.setIfInBounds_toArray, List.set_cons_zero, List.set_cons_succ, i64_w, i32_w]
                          rfl
                        refine done_ (done_of HT_.out (by kernel_rfl)) ?_
                        go_upto_region 11 with (fail)
                        go_cut [64] (fun v64 wc => ∃ (kq : Nat) (x64_25 : Bool), v64 = .bool x64_25 ∧ Aside0 (parquetrylaw01_RunesCuts.j2 kq t257 ji12 ((rd_T27 t257 (ji12)).f0) t261 t264 x64_25 = some r) ∧ Aside0 (kq ≤ kj14) ∧ Aside0 (Kd.R k27 27 wc w.heap.size (fun k_ => some k_ ≠ (v262 : Value).ownBlock ∧ some k_ ≠ (v265 : Value).ownBlock) (.slice (some ad260) t257.length co17) t257) ∧ Aside0 (Kd.R k27 27 wc w.heap.size (fun k_ => some k_ ≠ ((.slice (some ad260) t257.length co17) : Value).ownBlock ∧ some k_ ≠ (v265 : Value).ownBlock) v262 t261) ∧ Aside0 (Kd.R k27 27 wc w.heap.size (fun k_ => some k_ ≠ ((.slice (some ad260) t257.length co17) : Value).ownBlock ∧ some k_ ≠ (v262 : Value).ownBlock) v265 t264) ∧ Aside0 (Below w.heap.size w wc))
                        case first =>
                          have H := HC26.out
                          clear HC26
                          by_cases c30 : (t261.length : Int) = ji12
                          · rw [if_pos c30] at H
                            have c30b0 : ((t261.length : Int) == ji12) = true := beq_iff_eq.mpr c30
                            have c30b1 : ((t261.length : Int) != ji12) = false := bne_eq_false_iff_eq.mpr c30
                            clear c30
                            (first | rw [c30b0] | (simp only [i64_w, i32_w]; rw [c30b0]) | skip)
                            have H' := Aside0.mk H
                            clear H
                            obtain ⟨Ao31, co31, eo31⟩ := Kd.R_slice HO263.out
                            subst eo31
                            obtain ⟨Ao32, co32, eo32⟩ := Kd.R_slice HO266.out
                            subst eo32
                            go_wp2
                            go_meet
                            case rel => exact ⟨_, (((t264.length : Int) != (wrap64 ((t257.length : Int) - ji12)))), (by first | rfl | (simp; done) | (simp only [← hji12] <;> (first | rfl | simp)) | (simp [*]; done)), H', ⟨by have := HJ2.out; have := HJ14.out; first | omega | exact Nat.le_refl _⟩, ⟨by (with_reducible repeat (first | apply Kd.R_alloc | apply Kd.R_drewN | apply Kd.R_drew)); exact Kd.R_mono HO_5.out (fun _ hk => ⟨hk.1.2, hk.2⟩)⟩, ⟨by (with_reducible repeat (first | apply Kd.R_alloc | apply Kd.R_drewN | apply Kd.R_drew)); exact Kd.R_mono HO263.out (fun _ hk => ⟨hk.1.2, hk.2⟩)⟩, ⟨by (with_reducible repeat (first | apply Kd.R_alloc | apply Kd.R_drewN | apply Kd.R_drew)); exact Kd.R_mono HO266.out (fun _ hk => ⟨hk.1.2, hk.2⟩)⟩, ⟨by repeat (first | (with_reducible first | exact HB.out | apply below_alloc | apply pw_below_drewN | apply below_drew1) | exact HB.out)⟩⟩
                          · rw [if_neg c30] at H
                            have c30b0 : ((t261.length : Int) == ji12) = false := beq_eq_false_iff_ne.mpr c30
                            have c30b1 : ((t261.length : Int) != ji12) = true := bne_iff_ne.mpr c30
                            (first | rw [c30b0] | (simp only [i64_w, i32_w]; rw [c30b0]) | skip)
                            have H' := Aside0.mk H
                            clear H
                            obtain ⟨Ao33, co33, eo33⟩ := Kd.R_slice HO263.out
                            subst eo33
                            go_wp2
                            go_meet
                            case rel => exact ⟨_, (true), (by first | rfl | (simp; done) | (simp [*]; done)), H', ⟨by have := HJ2.out; have := HJ14.out; first | omega | exact Nat.le_refl _⟩, ⟨by (with_reducible repeat (first | apply Kd.R_alloc | apply Kd.R_drewN | apply Kd.R_drew)); exact Kd.R_mono HO_5.out (fun _ hk => ⟨hk.1.2, hk.2⟩)⟩, ⟨by (with_reducible repeat (first | apply Kd.R_alloc | apply Kd.R_drewN | apply Kd.R_drew)); exact Kd.R_mono HO263.out (fun _ hk => ⟨hk.1.2, hk.2⟩)⟩, ⟨by (with_reducible repeat (first | apply Kd.R_alloc | apply Kd.R_drewN | apply Kd.R_drew)); exact Kd.R_mono HO266.out (fun _ hk => ⟨hk.1.2, hk.2⟩)⟩, ⟨by repeat (first | (with_reducible first | exact HB.out | apply below_alloc | apply pw_below_drewN | apply below_drew1) | exact HB.out)⟩⟩
                        case rest =>
                          clear HC26
                          try clear c1
                          try clear c2
                          try clear p2
                          try clear q2
                          try clear hx2
                          try clear c3
                          try clear c4
                          try clear c4b0
                          try clear c4b1
                          try clear c5
                          try clear p6
                          try clear c8
                          try clear c9
                          try clear c9b0
                          try clear c9b1
                          try clear c9b2
                          try clear c13
                          try clear c13b0
                          try clear c14
                          try clear c14b0
                          try clear c17
                          try clear c18
                          try clear c18b0
                          try clear c19
                          try clear c20
                          try clear c20b0
                          try clear c20b1
                          try clear c21
                          try clear c21b0
                          try clear c21b1
                          try clear c23
                          try clear c23b0
                          try clear c24
                          try clear c24b0
                          try clear p26
                          try clear q26
                          try clear hx26
                          try clear c30
                          try clear c30b0
                          try clear c30b1
                          try clear hx260_0
                          try clear hx260_1
                          try clear hx260_2
                          try clear p2
                          try clear p260
                          try clear q2
                          try clear q260
                          obtain ⟨kq, x64_25, rfl, HA, HJ25, HO_5, HO_8, HO_9, HB⟩ := hcut
                          cases kq with
                          | zero => exact absurd HA.out (by simp [parquetrylaw01_RunesCuts.j2])
                          | succ kj25 =>
                            have H := HA.out
                            clear HA
                            simp only [parquetrylaw01_RunesCuts.j2] at H
                            by_cases c34 : x64_25 = true
                            · subst c34
                              have H1 : (some false) = some r := by rw [if_pos rfl] at H; exact H
                              clear H
                              have H := H1
                              clear H1
                              obtain rfl := Option.some.inj H
                              go_wp2
                              go_ret
                              exact ⟨by first | rfl | (simp [errW_none, errW_some] <;> rfl) | (simp only [← hji12]; first | rfl | (simp [errW_none, errW_some] <;> rfl)) | (simp [*, errW_none, errW_some] <;> rfl), by repeat (first | (with_reducible first | exact HB.out | apply below_alloc | apply pw_below_drewN | apply below_drew1) | exact HB.out)⟩
                            · replace c34 := Bool.eq_false_iff.mpr c34
                              subst c34
                              have H1 : (parquetrylaw01_RunesCuts.l0 kj25 t257 ji12 ((rd_T27 t257 (ji12)).f0) t261 t264 0) = some r := by rw [if_neg (show ¬ (false = true) by decide)] at H; exact H
                              clear H
                              have H := H1
                              clear H1
                              have H' := Aside0.mk H
                              clear H
                              go_wp2
                              go_loopg [10] kj25 (fun kq v10 w' => ∃ (x10_4 : Int), v10 = .int .i64 x10_4 ∧ Aside0 (parquetrylaw01_RunesCuts.l0 kq t257 ji12 ((rd_T27 t257 (ji12)).f0) t261 t264 x10_4 = some r) ∧ Aside0 (kq ≤ kj25) ∧ Aside0 (Kd.R k27 27 w' w.heap.size (fun k_ => some k_ ≠ (v262 : Value).ownBlock ∧ some k_ ≠ (v265 : Value).ownBlock) (.slice (some ad260) t257.length co17) t257) ∧ Aside0 (Kd.R k27 27 w' w.heap.size (fun k_ => some k_ ≠ ((.slice (some ad260) t257.length co17) : Value).ownBlock ∧ some k_ ≠ (v265 : Value).ownBlock) v262 t261) ∧ Aside0 (Kd.R k27 27 w' w.heap.size (fun k_ => some k_ ≠ ((.slice (some ad260) t257.length co17) : Value).ownBlock ∧ some k_ ≠ (v262 : Value).ownBlock) v265 t264) ∧ Aside0 (Below w.heap.size w w'))
                              case atStart => exact ⟨(0), (by first | rfl | (simp; done) | (simp [*]; done)), H', ⟨Nat.le_refl _⟩, ⟨by (with_reducible repeat (first | apply Kd.R_alloc | apply Kd.R_drewN | apply Kd.R_drew)); exact HO_5.out⟩, ⟨by (with_reducible repeat (first | apply Kd.R_alloc | apply Kd.R_drewN | apply Kd.R_drew)); exact HO_8.out⟩, ⟨by (with_reducible repeat (first | apply Kd.R_alloc | apply Kd.R_drewN | apply Kd.R_drew)); exact HO_9.out⟩, ⟨by repeat (first | (with_reducible first | exact HB.out | apply below_alloc | apply pw_below_drewN | apply below_drew1) | exact HB.out)⟩⟩
                              case round =>
                                clear H'
                                try clear c1
                                try clear c2
                                try clear p2
                                try clear q2
                                try clear hx2
                                try clear c3
                                try clear c4
                                try clear c4b0
                                try clear c4b1
                                try clear c5
                                try clear p6
                                try clear c8
                                try clear c9
                                try clear c9b0
                                try clear c9b1
                                try clear c9b2
                                try clear c13
                                try clear c13b0
                                try clear c14
                                try clear c14b0
                                try clear c17
                                try clear c18
                                try clear c18b0
                                try clear c19
                                try clear c20
                                try clear c20b0
                                try clear c20b1
                                try clear c21
                                try clear c21b0
                                try clear c21b1
                                try clear c23
                                try clear c23b0
                                try clear c24
                                try clear c24b0
                                try clear p26
                                try clear q26
                                try clear hx26
                                try clear c30
                                try clear c30b0
                                try clear c30b1
                                try clear c34
                                try clear hx260_0
                                try clear hx260_1
                                try clear hx260_2
                                try clear p2
                                try clear p26
                                try clear p260
                                try clear p6
                                try clear q2
                                try clear q26
                                try clear q260
                                obtain ⟨x10_4, rfl, HA, HK4, HO_5, HO_8, HO_9, HB⟩ := hrel
                                cases gk with
                                | zero => exact absurd HA.out (by simp [parquetrylaw01_RunesCuts.l0])
                                | succ k4 =>
                                  have H := HA.out
                                  clear HA
                                  simp only [parquetrylaw01_RunesCuts.l0] at H
                                  by_cases c35 : x10_4 < (t257.length : Int)
                                  · rw [if_pos c35] at H
                                    have c35b0 : decide (x10_4 < (t257.length : Int)) = true := decide_eq_true c35
                                    clear c35
                                    by_cases c36 : 0 ≤ x10_4
                                    · rw [if_pos c36] at H
                                      have c36b0 : decide (0 ≤ x10_4) = true := decide_eq_true c36
                                      clear c36
                                      have HC37 := Aside0.mk H
                                      clear H
                                      have p268 : 0 ≤ (x10_4 : Int) := of_decide_eq_true (by first | (with_reducible assumption) | assumption)
                                      have q268 : x10_4 < (t257.length : Int) := of_decide_eq_true (by first | (with_reducible assumption) | assumption)
                                      obtain ⟨ad268, e268, hx268_0, hx268_1, hx268_2⟩ := at_T27 (Kd.R_reads' HO_5.out).2.2 x10_4 p268 q268
                                      obtain rfl : ad260 = ad268 := (by injection e268)
                                      replace p268 := eq_true p268
                                      replace q268 := eq_true q268
                                      go_upto_region 17 with (first | ((with_reducible refine gate_dst (N := 11) rfl ?_); (try (refine gate_guard (by rfl) ?_; dsimp only)); refine box_event ?hg (N := 11) ?hd (cs := #[.int .i64 0, .int .i64 0, .int .i64 0]) (t := 27) ?hr ?_; (case hd => rfl); (case hg => rfl); (case hr => first | (go_simp; done) | (go_simp; rfl)); intro gb269 hg w38 hbox hb; have n0_ := Aside0.mk (Kd.R_below (Kd.R_elderB (by (with_reducible repeat (first | apply Kd.R_alloc | apply Kd.R_drewN | apply Kd.R_drew)); exact HO_5.out) gb269 (Nat.le_of_eq hg.symm)) hb); have n1_ := Aside0.mk (Kd.R_below (Kd.R_elderB (by (with_reducible repeat (first | apply Kd.R_alloc | apply Kd.R_drewN | apply Kd.R_drew)); exact HO_8.out) gb269 (Nat.le_of_eq hg.symm)) hb); have n2_ := Aside0.mk (Kd.R_below (Kd.R_elderB (by (with_reducible repeat (first | apply Kd.R_alloc | apply Kd.R_drewN | apply Kd.R_drew)); exact HO_9.out) gb269 (Nat.le_of_eq hg.symm)) hb); have n3_ := Aside0.mk (below_step (by repeat (first | (with_reducible first | exact HB.out | apply below_alloc | apply pw_below_drewN | apply below_drew1) | exact HB.out)) hb); have n4_ := Aside0.mk (hbox); have n5_ := Aside0.mk ((by rw [hg]; exact (below_size (by repeat (first | (with_reducible first | exact HB.out | apply below_alloc | apply pw_below_drewN | apply below_drew1) | exact HB.out))) : w.heap.size ≤ gb269)); have n6_ := Aside0.mk ((by rw [hg]; exact (below_size (by repeat (first | (with_reducible first | exact HB.out | apply below_alloc | apply pw_below_drewN | apply below_drew1) | exact HB.out))) : w.heap.size ≤ gb269)); clear HO_5; clear HO_8; clear HO_9; clear HB; have HO_5 := n0_; have HO_8 := n1_; have HO_9 := n2_; have HB := n3_; have BK269 := n4_; have GW269 := n5_; have GE269 := n6_; clear n0_ n1_ n2_ n3_ n4_ n5_ n6_; clear hb hbox hg; have hcz39_0 : w38.cell? ⟨gb269, 0, none⟩ = some (.int .i64 0) := (blk_cell BK269.out 0).trans rfl; have hcz39_1 : w38.cell? ⟨gb269, 1, none⟩ = some (.int .i64 0) := (blk_cell BK269.out 1).trans rfl; have hcz39_2 : w38.cell? ⟨gb269, 2, none⟩ = some (.int .i64 0) := (blk_cell BK269.out 2).trans rfl; have hfz39_0 := blk_frozen BK269.out 0; have hfz39_1 := blk_frozen BK269.out 1; have hfz39_2 := blk_frozen BK269.out 2))
                                      (try simp only [Act.put, List.setIfInBounds_toArray, List.set_cons_zero, List.set_cons_succ])
                                      go_cut [85] (fun v85 wc => ∃ (kq : Nat) (x85_36 : Bool), v85 = .bool x85_36 ∧ Aside0 (parquetrylaw01_RunesCuts.j4 kq t257 ji12 ((rd_T27 t257 (ji12)).f0) t261 t264 x10_4 x85_36 ((rd_T27 t257 x10_4).f0) ((rd_T27 t257 x10_4).f1) ((rd_T27 t257 x10_4).f2) = some r) ∧ Aside0 (kq ≤ k4) ∧ Aside0 (Kd.R k27 27 wc w.heap.size (fun k_ => some k_ ≠ (v262 : Value).ownBlock ∧ some k_ ≠ (v265 : Value).ownBlock ∧ k_ ≠ gb269) (.slice (some ad260) t257.length co17) t257) ∧ Aside0 (Kd.R k27 27 wc w.heap.size (fun k_ => some k_ ≠ ((.slice (some ad260) t257.length co17) : Value).ownBlock ∧ some k_ ≠ (v265 : Value).ownBlock ∧ k_ ≠ gb269) v262 t261) ∧ Aside0 (Kd.R k27 27 wc w.heap.size (fun k_ => some k_ ≠ ((.slice (some ad260) t257.length co17) : Value).ownBlock ∧ some k_ ≠ (v262 : Value).ownBlock ∧ k_ ≠ gb269) v265 t264) ∧ Aside0 (wc.heap[gb269]? = some (.cells #[.int .i64 ((rd_T27 t257 x10_4).f0), .int .i64 ((rd_T27 t257 x10_4).f1), .int .i64 ((rd_T27 t257 x10_4).f2)] 27 (0, 0))) ∧ Aside0 (Below w.heap.size w wc))
                                      case first =>
                                        have H := HC37.out
                                        clear HC37
                                        by_cases c40 : x10_4 < ji12
                                        · rw [if_pos c40] at H
                                          have c40b0 : decide (x10_4 < ji12) = true := decide_eq_true c40
                                          clear c40
                                          (first | rw [c40b0] | (simp only [i64_w, i32_w]; rw [c40b0]) | skip)
                                          by_cases c41 : x10_4 < (t261.length : Int)
                                          · rw [if_pos c41] at H
                                            have c41b0 : decide (x10_4 < (t261.length : Int)) = true := decide_eq_true c41
                                            clear c41
                                            have H' := Aside0.mk H
                                            clear H
                                            try go_wp2
                                            have n0_ : Aside0 (Kd.R k27 27 (((w38.setCell ⟨gb269, 0, none⟩ (.int .i64 ((rd_T27 t257 x10_4).f0))).setCell ⟨gb269, 1, none⟩ (.int .i64 ((rd_T27 t257 x10_4).f1))).setCell ⟨gb269, 2, none⟩ (.int .i64 ((rd_T27 t257 x10_4).f2))) w.heap.size (fun k_ => some k_ ≠ (v262 : Value).ownBlock ∧ some k_ ≠ (v265 : Value).ownBlock ∧ k_ ≠ gb269) (.slice (some ad260) t257.length co17) t257) := ⟨by (with_reducible repeat (first | apply Kd.R_alloc | apply Kd.R_drewN | apply Kd.R_drew)); exact Kd.R_mono (Kd.R_far (p := ⟨gb269, 2, none⟩) (Kd.R_far (p := ⟨gb269, 1, none⟩) (Kd.R_far (p := ⟨gb269, 0, none⟩) (Kd.R_mono HO_5.out (fun k_ hk => (⟨hk, hk.2⟩ : _ ∧ k_ ≠ gb269))) (fun _ hk => hk.2) (.int .i64 ((rd_T27 t257 x10_4).f0))) (fun _ hk => hk.2) (.int .i64 ((rd_T27 t257 x10_4).f1))) (fun _ hk => hk.2) (.int .i64 ((rd_T27 t257 x10_4).f2))) (fun _ hk => ⟨hk.1.1.1, ⟨hk.1.1.2, hk.1.2⟩⟩)⟩
                                            have n1_ : Aside0 (Kd.R k27 27 (((w38.setCell ⟨gb269, 0, none⟩ (.int .i64 ((rd_T27 t257 x10_4).f0))).setCell ⟨gb269, 1, none⟩ (.int .i64 ((rd_T27 t257 x10_4).f1))).setCell ⟨gb269, 2, none⟩ (.int .i64 ((rd_T27 t257 x10_4).f2))) w.heap.size (fun k_ => some k_ ≠ (.slice (some ad260) t257.length co17 : Value).ownBlock ∧ some k_ ≠ (v265 : Value).ownBlock ∧ k_ ≠ gb269) v262 t261) := ⟨by (with_reducible repeat (first | apply Kd.R_alloc | apply Kd.R_drewN | apply Kd.R_drew)); exact Kd.R_mono (Kd.R_far (p := ⟨gb269, 2, none⟩) (Kd.R_far (p := ⟨gb269, 1, none⟩) (Kd.R_far (p := ⟨gb269, 0, none⟩) (Kd.R_mono HO_8.out (fun k_ hk => (⟨hk, hk.2⟩ : _ ∧ k_ ≠ gb269))) (fun _ hk => hk.2) (.int .i64 ((rd_T27 t257 x10_4).f0))) (fun _ hk => hk.2) (.int .i64 ((rd_T27 t257 x10_4).f1))) (fun _ hk => hk.2) (.int .i64 ((rd_T27 t257 x10_4).f2))) (fun _ hk => ⟨hk.1.1.1, ⟨hk.1.1.2, hk.1.2⟩⟩)⟩
                                            have n2_ : Aside0 (Kd.R k27 27 (((w38.setCell ⟨gb269, 0, none⟩ (.int .i64 ((rd_T27 t257 x10_4).f0))).setCell ⟨gb269, 1, none⟩ (.int .i64 ((rd_T27 t257 x10_4).f1))).setCell ⟨gb269, 2, none⟩ (.int .i64 ((rd_T27 t257 x10_4).f2))) w.heap.size (fun k_ => some k_ ≠ (.slice (some ad260) t257.length co17 : Value).ownBlock ∧ some k_ ≠ (v262 : Value).ownBlock ∧ k_ ≠ gb269) v265 t264) := ⟨by (with_reducible repeat (first | apply Kd.R_alloc | apply Kd.R_drewN | apply Kd.R_drew)); exact Kd.R_mono (Kd.R_far (p := ⟨gb269, 2, none⟩) (Kd.R_far (p := ⟨gb269, 1, none⟩) (Kd.R_far (p := ⟨gb269, 0, none⟩) (Kd.R_mono HO_9.out (fun k_ hk => (⟨hk, hk.2⟩ : _ ∧ k_ ≠ gb269))) (fun _ hk => hk.2) (.int .i64 ((rd_T27 t257 x10_4).f0))) (fun _ hk => hk.2) (.int .i64 ((rd_T27 t257 x10_4).f1))) (fun _ hk => hk.2) (.int .i64 ((rd_T27 t257 x10_4).f2))) (fun _ hk => ⟨hk.1.1.1, ⟨hk.1.1.2, hk.1.2⟩⟩)⟩
                                            have n3_ : Aside0 ((((w38.setCell ⟨gb269, 0, none⟩ (.int .i64 ((rd_T27 t257 x10_4).f0))).setCell ⟨gb269, 1, none⟩ (.int .i64 ((rd_T27 t257 x10_4).f1))).setCell ⟨gb269, 2, none⟩ (.int .i64 ((rd_T27 t257 x10_4).f2))).heap[gb269]? = some (.cells #[.int .i64 ((rd_T27 t257 x10_4).f0), .int .i64 ((rd_T27 t257 x10_4).f1), .int .i64 ((rd_T27 t257 x10_4).f2)] 27 (0, 0))) := ⟨by (with_reducible repeat (first | refine blk_drewN ?_ _ | refine blk_drew ?_ | refine blk_alloc ?_ _)); refine blk_put (cs := #[.int .i64 ((rd_T27 t257 x10_4).f0), .int .i64 ((rd_T27 t257 x10_4).f1), .int .i64 0]) ?_ 2 _ rfl; (with_reducible repeat (first | refine blk_drewN ?_ _ | refine blk_drew ?_ | refine blk_alloc ?_ _)); refine blk_put (cs := #[.int .i64 ((rd_T27 t257 x10_4).f0), .int .i64 0, .int .i64 0]) ?_ 1 _ rfl; (with_reducible repeat (first | refine blk_drewN ?_ _ | refine blk_drew ?_ | refine blk_alloc ?_ _)); refine blk_put (cs := #[.int .i64 0, .int .i64 0, .int .i64 0]) ?_ 0 _ rfl; (with_reducible repeat (first | refine blk_drewN ?_ _ | refine blk_drew ?_ | refine blk_alloc ?_ _)); exact BK269.out⟩
                                            have n4_ : Aside0 (Below w.heap.size w (((w38.setCell ⟨gb269, 0, none⟩ (.int .i64 ((rd_T27 t257 x10_4).f0))).setCell ⟨gb269, 1, none⟩ (.int .i64 ((rd_T27 t257 x10_4).f1))).setCell ⟨gb269, 2, none⟩ (.int .i64 ((rd_T27 t257 x10_4).f2)))) := ⟨by repeat (first | (with_reducible first | exact HB.out | apply below_alloc | apply pw_below_drewN | apply below_drew1 | refine below_set ?_ GE269.out) | exact HB.out)⟩
                                            (try clear HO_5)
                                            (try clear HO_8)
                                            (try clear HO_9)
                                            (try clear BK269)
                                            (try clear HB)
                                            generalize (((w38.setCell ⟨gb269, 0, none⟩ (.int .i64 ((rd_T27 t257 x10_4).f0))).setCell ⟨gb269, 1, none⟩ (.int .i64 ((rd_T27 t257 x10_4).f1))).setCell ⟨gb269, 2, none⟩ (.int .i64 ((rd_T27 t257 x10_4).f2))) = w42 at n0_ n1_ n2_ n3_ n4_ ⊢
                                            have HO_5 := n0_
                                            have HO_8 := n1_
                                            have HO_9 := n2_
                                            have BK269 := n3_
                                            have HB := n4_
                                            clear n0_ n1_ n2_ n3_ n4_
                                            have n0_ := Aside0.mk (Kd.R_drew HO_5.out)
                                            have n1_ := Aside0.mk (Kd.R_drew HO_8.out)
                                            have n2_ := Aside0.mk (Kd.R_drew HO_9.out)
                                            have n3_ := Aside0.mk (blk_drew BK269.out)
                                            have n4_ := Aside0.mk (below_drew1 HB.out)
                                            clear HO_5
                                            clear HO_8
                                            clear HO_9
                                            clear BK269
                                            clear HB
                                            have HO_5 := n0_
                                            have HO_8 := n1_
                                            have HO_9 := n2_
                                            have BK269 := n3_
                                            have HB := n4_
                                            clear n0_ n1_ n2_ n3_ n4_
                                            obtain ⟨Ao44, co44, eo44⟩ := Kd.R_slice HO_8.out
                                            (first | subst eo44 | (injection eo44 with f1_ f2_ f3_; have f4_ := f1_.symm; have f5_ := f3_.symm; clear f1_ f2_ f3_; subst f4_; subst f5_))
                                            have p270 : 0 ≤ (x10_4 : Int) := of_decide_eq_true (by first | (with_reducible assumption) | assumption)
                                            have q270 : x10_4 < (t261.length : Int) := of_decide_eq_true (by first | (with_reducible assumption) | assumption)
                                            obtain ⟨ad270, e270, hx270_0, hx270_1, hx270_2⟩ := at_T27 (Kd.R_reads' HO_8.out).2.2 x10_4 p270 q270
                                            cases e270
                                            replace p270 := eq_true p270
                                            replace q270 := eq_true q270
                                            refine start_ (n := 11) (S := fun w' => w'.cell? ⟨gb269, 0, none⟩ = some (.int .i64 ((rd_T27 t257 x10_4).f0)) ∧ w'.cell? ⟨gb269, 1, none⟩ = some (.int .i64 ((rd_T27 t257 x10_4).f1)) ∧ w'.cell? ⟨gb269, 2, none⟩ = some (.int .i64 ((rd_T27 t257 x10_4).f2)) ∧ w'.cell? (ad270.add ((x10_4).toNat * 3)) = some (.int .i64 ((rd_T27 t261 x10_4).f0)) ∧ w'.cell? ⟨(ad270.add ((x10_4).toNat * 3)).block, (ad270.add ((x10_4).toNat * 3)).off + 1, none⟩ = some (.int .i64 ((rd_T27 t261 x10_4).f1)) ∧ w'.cell? ⟨(ad270.add ((x10_4).toNat * 3)).block, (ad270.add ((x10_4).toNat * 3)).off + 2, none⟩ = some (.int .i64 ((rd_T27 t261 x10_4).f2))) (ds := []) #[false, false, false, false, false, false, false, false, false, false, false] (by kernel_rfl) rfl rfl ⟨(blk_cell BK269.out 0).trans rfl, (blk_cell BK269.out 1).trans rfl, (blk_cell BK269.out 2).trans rfl, hx270_0, hx270_1, hx270_2⟩ (fun hHeld => ?_); refine with_tabW parquetrylaw01_RunesCuts.tab17 parquetrylaw01_RunesCuts.bits17 (fun HT_ HW_ => ?_)
                                            generalize w42.drew = w43 at HO_5 HO_8 HO_9 BK269 HB hx270_0 hx270_1 hx270_2 hHeld ⊢
                                            refine pure_ (i := 0) (N := some 75) (v := ?_) (a' := ?_) #[true, false, false, false, false, false, false, false, false, false, false] rfl rfl (any_of HT_.out (by kernel_rfl)) (fun _ _ _ h => h) (Or.inl ⟨by rfl, ?_⟩) ?_ ?_
                                            rotate_left
                                            · intro w'
                                              go_simp
                                              with_reducible rfl
                                            rotate_left
                                            · simp only [Act.put, List.setIfInBounds_toArray, List.set_cons_zero, List.set_cons_succ, i64_w, i32_w]
                                              rfl
                                            refine pure_ (i := 1) (N := some 76) (v := ?_) (a' := ?_) #[true, true, false, false, false, false, false, false, false, false, false] rfl rfl (any_of HT_.out (by kernel_rfl)) (fun _ _ _ h => h) (Or.inl ⟨by rfl, ?_⟩) ?_ ?_
                                            rotate_left
                                            · intro w'
                                              go_simp
                                              with_reducible rfl
                                            rotate_left
                                            · simp only [Act.put, List.setIfInBounds_toArray, List.set_cons_zero, List.set_cons_succ, i64_w, i32_w]
                                              rfl
                                            refine pure_ (i := 2) (N := some 77) (v := ?_) (a' := ?_) #[true, true, true, false, false, false, false, false, false, false, false] rfl rfl (any_of HT_.out (by kernel_rfl)) (fun _ _ _ h => h) (Or.inl ⟨by rfl, ?_⟩) ?_ ?_
                                            rotate_left
                                            · intro w'
                                              go_simp
                                              with_reducible rfl
                                            rotate_left
                                            · simp only [Act.put, List.setIfInBounds_toArray, List.set_cons_zero, List.set_cons_succ, i64_w, i32_w]
                                              rfl
                                            refine pure_ (i := 3) (N := some 78) (v := ?_) (a' := ?_) #[true, true, true, true, false, false, false, false, false, false, false] rfl rfl (any_of HT_.out (by kernel_rfl)) (fun _ _ _ h => h) (Or.inl ⟨by rfl, ?_⟩) ?_ ?_
                                            rotate_left
                                            · intro w'
                                              go_simp
                                              with_reducible rfl
                                            rotate_left
                                            · simp only [Act.put, List.setIfInBounds_toArray, List.set_cons_zero, List.set_cons_succ, i64_w, i32_w]
                                              rfl
                                            refine pure_ (i := 4) (N := some 79) (v := ?_) (a' := ?_) #[true, true, true, true, true, false, false, false, false, false, false] rfl rfl (any_of HT_.out (by kernel_rfl)) (fun _ _ _ h => h) (Or.inl ⟨by rfl, ?_⟩) ?_ ?_
                                            rotate_left
                                            · intro w'
                                              go_simp
                                              with_reducible rfl
                                            rotate_left
                                            · simp only [Act.put, List.setIfInBounds_toArray, List.set_cons_zero, List.set_cons_succ, i64_w, i32_w]
                                              rfl
                                            refine pure_ (i := 5) (N := some 80) (v := ?_) (a' := ?_) #[true, true, true, true, true, true, false, false, false, false, false] rfl rfl (any_of HT_.out (by kernel_rfl)) (fun _ _ _ h => h) (Or.inl ⟨by rfl, ?_⟩) ?_ ?_
                                            rotate_left
                                            · intro w'
                                              go_simp
                                              with_reducible rfl
                                            rotate_left
                                            · simp only [Act.put, List.setIfInBounds_toArray, List.set_cons_zero, List.set_cons_succ, i64_w, i32_w]
                                              rfl
                                            refine pure_ (i := 6) (N := some 81) (v := ?_) (a' := ?_) #[true, true, true, true, true, true, true, false, false, false, false] rfl rfl (any_of HT_.out (by kernel_rfl)) (fun _ _ _ h => h) (Or.inl ⟨by rfl, ?_⟩) ?_ ?_
                                            rotate_left
                                            · intro w'
                                              go_simp
                                              with_reducible rfl
                                            rotate_left
                                            · simp only [Act.put, List.setIfInBounds_toArray, List.set_cons_zero, List.set_cons_succ, i64_w, i32_w]
                                              rfl
                                            refine take_ (i := 7) (N := some 82) (v := ?_) (a' := ?_) #[true, true, true, true, true, true, true, true, false, false, false] rfl rfl (take_ofW HT_.out HW_.out (by kernel_rfl)) (fun _ _ _ h => h) (Or.inl ⟨by rfl, ?_⟩) hHeld ?_ ?_
                                            rotate_left
                                            · rintro w' ⟨s0, s1, s2, s3, s4, s5⟩
                                              go_simp
                                              with_reducible rfl
                                            rotate_left
                                            · simp only [Act.put, List.setIfInBounds_toArray, List.set_cons_zero, List.set_cons_succ, i64_w, i32_w]
                                              rfl
                                            refine take_ (i := 8) (N := some 83) (v := ?_) (a' := ?_) #[true, true, true, true, true, true, true, true, true, false, false] rfl rfl (take_ofW HT_.out HW_.out (by kernel_rfl)) (fun _ _ _ h => h) (Or.inl ⟨by rfl, ?_⟩) hHeld ?_ ?_
                                            rotate_left
                                            · rintro w' ⟨s0, s1, s2, s3, s4, s5⟩
                                              go_simp
                                              with_reducible rfl
                                            rotate_left
                                            · simp only [Act.put, List.setIfInBounds_toArray, List.set_cons_zero, List.set_cons_succ, i64_w, i32_w]
                                              rfl
                                            refine pure_ (i := 9) (N := some 84) (v := ?_) (a' := ?_) #[true, true, true, true, true, true, true, true, true, true, false] rfl rfl (any_of HT_.out (by kernel_rfl)) (fun _ _ _ h => h) (Or.inl ⟨by rfl, ?_⟩) ?_ ?_
                                            rotate_left
                                            · intro w'
                                              go_simp
                                              with_reducible rfl
                                            rotate_left
                                            · simp only [Act.put, List.setIfInBounds_toArray, List.set_cons_zero, List.set_cons_succ, i64_w, i32_w]
                                              rfl
                                            refine pure_ (i := 10) (N := some 85) (v := ?_) (a' := ?_) #[true, true, true, true, true, true, true, true, true, true, true] rfl rfl (any_of HT_.out (by kernel_rfl)) (fun _ _ _ h => h) (Or.inl ⟨by rfl, ?_⟩) ?_ ?_
                                            rotate_left
                                            · intro w'
                                              go_simp
                                              with_reducible rfl
                                            rotate_left
                                            · simp only [Act.put, List.setIfInBounds_toArray, List.set_cons_zero, List.set_cons_succ, i64_w, i32_w]
                                              rfl
                                            refine done_ (done_of HT_.out (by kernel_rfl)) ?_
                                            try go_wp2
                                            go_meet
                                            case rel => exact ⟨_, ((!(((rd_T27 t261 x10_4).f0) == ((rd_T27 t257 x10_4).f0)) || (!(((rd_T27 t261 x10_4).f1) == ((rd_T27 t257 x10_4).f1)) || (!(((rd_T27 t261 x10_4).f2) == ((rd_T27 t257 x10_4).f2)))))), (by first | rfl | (simp; done) | (simp [*]; done)), H', ⟨by have := HJ2.out; have := HJ14.out; have := HJ25.out; have := HK4.out; first | omega | exact Nat.le_refl _⟩, ⟨by (with_reducible repeat (first | apply Kd.R_alloc | apply Kd.R_drewN | apply Kd.R_drew)); exact HO_5.out⟩, ⟨by (with_reducible repeat (first | apply Kd.R_alloc | apply Kd.R_drewN | apply Kd.R_drew)); exact HO_8.out⟩, ⟨by (with_reducible repeat (first | apply Kd.R_alloc | apply Kd.R_drewN | apply Kd.R_drew)); exact HO_9.out⟩, ⟨by (with_reducible repeat (first | refine blk_drewN ?_ _ | refine blk_drew ?_ | refine blk_alloc ?_ _)); exact BK269.out⟩, ⟨by repeat (first | (with_reducible first | exact HB.out | apply below_alloc | apply pw_below_drewN | apply below_drew1 | refine below_set ?_ GE269.out) | exact HB.out)⟩⟩
                                          · rw [if_neg c41] at H
                                            exact absurd H (by simp)
                                        · rw [if_neg c40] at H
                                          have c40b0 : decide (x10_4 < ji12) = false := decide_eq_false c40
                                          clear c40
                                          (first | rw [c40b0] | (simp only [i64_w, i32_w]; rw [c40b0]) | skip)
                                          have H' := Aside0.mk H
                                          clear H
                                          try go_wp2
                                          have n0_ : Aside0 (Kd.R k27 27 (((w38.setCell ⟨gb269, 0, none⟩ (.int .i64 ((rd_T27 t257 x10_4).f0))).setCell ⟨gb269, 1, none⟩ (.int .i64 ((rd_T27 t257 x10_4).f1))).setCell ⟨gb269, 2, none⟩ (.int .i64 ((rd_T27 t257 x10_4).f2))) w.heap.size (fun k_ => some k_ ≠ (v262 : Value).ownBlock ∧ some k_ ≠ (v265 : Value).ownBlock ∧ k_ ≠ gb269) (.slice (some ad260) t257.length co17) t257) := ⟨by (with_reducible repeat (first | apply Kd.R_alloc | apply Kd.R_drewN | apply Kd.R_drew)); exact Kd.R_mono (Kd.R_far (p := ⟨gb269, 2, none⟩) (Kd.R_far (p := ⟨gb269, 1, none⟩) (Kd.R_far (p := ⟨gb269, 0, none⟩) (Kd.R_mono HO_5.out (fun k_ hk => (⟨hk, hk.2⟩ : _ ∧ k_ ≠ gb269))) (fun _ hk => hk.2) (.int .i64 ((rd_T27 t257 x10_4).f0))) (fun _ hk => hk.2) (.int .i64 ((rd_T27 t257 x10_4).f1))) (fun _ hk => hk.2) (.int .i64 ((rd_T27 t257 x10_4).f2))) (fun _ hk => ⟨hk.1.1.1, ⟨hk.1.1.2, hk.1.2⟩⟩)⟩
                                          have n1_ : Aside0 (Kd.R k27 27 (((w38.setCell ⟨gb269, 0, none⟩ (.int .i64 ((rd_T27 t257 x10_4).f0))).setCell ⟨gb269, 1, none⟩ (.int .i64 ((rd_T27 t257 x10_4).f1))).setCell ⟨gb269, 2, none⟩ (.int .i64 ((rd_T27 t257 x10_4).f2))) w.heap.size (fun k_ => some k_ ≠ (.slice (some ad260) t257.length co17 : Value).ownBlock ∧ some k_ ≠ (v265 : Value).ownBlock ∧ k_ ≠ gb269) v262 t261) := ⟨by (with_reducible repeat (first | apply Kd.R_alloc | apply Kd.R_drewN | apply Kd.R_drew)); exact Kd.R_mono (Kd.R_far (p := ⟨gb269, 2, none⟩) (Kd.R_far (p := ⟨gb269, 1, none⟩) (Kd.R_far (p := ⟨gb269, 0, none⟩) (Kd.R_mono HO_8.out (fun k_ hk => (⟨hk, hk.2⟩ : _ ∧ k_ ≠ gb269))) (fun _ hk => hk.2) (.int .i64 ((rd_T27 t257 x10_4).f0))) (fun _ hk => hk.2) (.int .i64 ((rd_T27 t257 x10_4).f1))) (fun _ hk => hk.2) (.int .i64 ((rd_T27 t257 x10_4).f2))) (fun _ hk => ⟨hk.1.1.1, ⟨hk.1.1.2, hk.1.2⟩⟩)⟩
                                          have n2_ : Aside0 (Kd.R k27 27 (((w38.setCell ⟨gb269, 0, none⟩ (.int .i64 ((rd_T27 t257 x10_4).f0))).setCell ⟨gb269, 1, none⟩ (.int .i64 ((rd_T27 t257 x10_4).f1))).setCell ⟨gb269, 2, none⟩ (.int .i64 ((rd_T27 t257 x10_4).f2))) w.heap.size (fun k_ => some k_ ≠ (.slice (some ad260) t257.length co17 : Value).ownBlock ∧ some k_ ≠ (v262 : Value).ownBlock ∧ k_ ≠ gb269) v265 t264) := ⟨by (with_reducible repeat (first | apply Kd.R_alloc | apply Kd.R_drewN | apply Kd.R_drew)); exact Kd.R_mono (Kd.R_far (p := ⟨gb269, 2, none⟩) (Kd.R_far (p := ⟨gb269, 1, none⟩) (Kd.R_far (p := ⟨gb269, 0, none⟩) (Kd.R_mono HO_9.out (fun k_ hk => (⟨hk, hk.2⟩ : _ ∧ k_ ≠ gb269))) (fun _ hk => hk.2) (.int .i64 ((rd_T27 t257 x10_4).f0))) (fun _ hk => hk.2) (.int .i64 ((rd_T27 t257 x10_4).f1))) (fun _ hk => hk.2) (.int .i64 ((rd_T27 t257 x10_4).f2))) (fun _ hk => ⟨hk.1.1.1, ⟨hk.1.1.2, hk.1.2⟩⟩)⟩
                                          have n3_ : Aside0 ((((w38.setCell ⟨gb269, 0, none⟩ (.int .i64 ((rd_T27 t257 x10_4).f0))).setCell ⟨gb269, 1, none⟩ (.int .i64 ((rd_T27 t257 x10_4).f1))).setCell ⟨gb269, 2, none⟩ (.int .i64 ((rd_T27 t257 x10_4).f2))).heap[gb269]? = some (.cells #[.int .i64 ((rd_T27 t257 x10_4).f0), .int .i64 ((rd_T27 t257 x10_4).f1), .int .i64 ((rd_T27 t257 x10_4).f2)] 27 (0, 0))) := ⟨by (with_reducible repeat (first | refine blk_drewN ?_ _ | refine blk_drew ?_ | refine blk_alloc ?_ _)); refine blk_put (cs := #[.int .i64 ((rd_T27 t257 x10_4).f0), .int .i64 ((rd_T27 t257 x10_4).f1), .int .i64 0]) ?_ 2 _ rfl; (with_reducible repeat (first | refine blk_drewN ?_ _ | refine blk_drew ?_ | refine blk_alloc ?_ _)); refine blk_put (cs := #[.int .i64 ((rd_T27 t257 x10_4).f0), .int .i64 0, .int .i64 0]) ?_ 1 _ rfl; (with_reducible repeat (first | refine blk_drewN ?_ _ | refine blk_drew ?_ | refine blk_alloc ?_ _)); refine blk_put (cs := #[.int .i64 0, .int .i64 0, .int .i64 0]) ?_ 0 _ rfl; (with_reducible repeat (first | refine blk_drewN ?_ _ | refine blk_drew ?_ | refine blk_alloc ?_ _)); exact BK269.out⟩
                                          have n4_ : Aside0 (Below w.heap.size w (((w38.setCell ⟨gb269, 0, none⟩ (.int .i64 ((rd_T27 t257 x10_4).f0))).setCell ⟨gb269, 1, none⟩ (.int .i64 ((rd_T27 t257 x10_4).f1))).setCell ⟨gb269, 2, none⟩ (.int .i64 ((rd_T27 t257 x10_4).f2)))) := ⟨by repeat (first | (with_reducible first | exact HB.out | apply below_alloc | apply pw_below_drewN | apply below_drew1 | refine below_set ?_ GE269.out) | exact HB.out)⟩
                                          (try clear HO_5)
                                          (try clear HO_8)
                                          (try clear HO_9)
                                          (try clear BK269)
                                          (try clear HB)
                                          generalize (((w38.setCell ⟨gb269, 0, none⟩ (.int .i64 ((rd_T27 t257 x10_4).f0))).setCell ⟨gb269, 1, none⟩ (.int .i64 ((rd_T27 t257 x10_4).f1))).setCell ⟨gb269, 2, none⟩ (.int .i64 ((rd_T27 t257 x10_4).f2))) = w45 at n0_ n1_ n2_ n3_ n4_ ⊢
                                          have HO_5 := n0_
                                          have HO_8 := n1_
                                          have HO_9 := n2_
                                          have BK269 := n3_
                                          have HB := n4_
                                          clear n0_ n1_ n2_ n3_ n4_
                                          have n0_ := Aside0.mk (Kd.R_drew HO_5.out)
                                          have n1_ := Aside0.mk (Kd.R_drew HO_8.out)
                                          have n2_ := Aside0.mk (Kd.R_drew HO_9.out)
                                          have n3_ := Aside0.mk (blk_drew BK269.out)
                                          have n4_ := Aside0.mk (below_drew1 HB.out)
                                          clear HO_5
                                          clear HO_8
                                          clear HO_9
                                          clear BK269
                                          clear HB
                                          have HO_5 := n0_
                                          have HO_8 := n1_
                                          have HO_9 := n2_
                                          have BK269 := n3_
                                          have HB := n4_
                                          clear n0_ n1_ n2_ n3_ n4_
                                          refine start_ (n := 11) (S := fun w' => True) (ds := []) #[false, false, false, false, false, false, false, false, false, false, false] (by kernel_rfl) rfl rfl trivial (fun hHeld => ?_); refine with_tabW parquetrylaw01_RunesCuts.tab17 parquetrylaw01_RunesCuts.bits17 (fun HT_ HW_ => ?_)
                                          generalize w45.drew = w46 at HO_5 HO_8 HO_9 BK269 HB hHeld ⊢
                                          refine pure_ (i := 0) (N := some 75) (v := ?_) (a' := ?_) #[true, false, false, false, false, false, false, false, false, false, false] rfl rfl (any_of HT_.out (by kernel_rfl)) (fun _ _ _ h => h) (Or.inl ⟨by rfl, ?_⟩) ?_ ?_
                                          rotate_left
                                          · intro w'
                                            go_simp
                                            with_reducible rfl
                                          rotate_left
                                          · simp only [Act.put, List.setIfInBounds_toArray, List.set_cons_zero, List.set_cons_succ, i64_w, i32_w]
                                            rfl
                                          refine pure_ (i := 1) (N := some 76) (v := ?_) (a' := ?_) #[true, true, false, false, false, false, false, false, false, false, false] rfl rfl (any_of HT_.out (by kernel_rfl)) (fun _ _ _ h => h) (Or.inl ⟨by rfl, ?_⟩) ?_ ?_
                                          rotate_left
                                          · intro w'
                                            go_simp
                                            with_reducible rfl
                                          rotate_left
                                          · simp only [Act.put, List.setIfInBounds_toArray, List.set_cons_zero, List.set_cons_succ, i64_w, i32_w]
                                            rfl
                                          refine pure_ (i := 2) (N := some 77) (v := ?_) (a' := ?_) #[true, true, true, false, false, false, false, false, false, false, false] rfl rfl (any_of HT_.out (by kernel_rfl)) (fun _ _ _ h => h) (Or.inl ⟨by rfl, ?_⟩) ?_ ?_
                                          rotate_left
                                          · intro w'
                                            go_simp
                                            with_reducible rfl
                                          rotate_left
                                          · simp only [Act.put, List.setIfInBounds_toArray, List.set_cons_zero, List.set_cons_succ, i64_w, i32_w]
                                            rfl
                                          refine pure_ (i := 3) (N := some 78) (v := ?_) (a' := ?_) #[true, true, true, true, false, false, false, false, false, false, false] rfl rfl (any_of HT_.out (by kernel_rfl)) (fun _ _ _ h => h) (Or.inl ⟨by rfl, ?_⟩) ?_ ?_
                                          rotate_left
                                          · intro w'
                                            go_simp
                                            with_reducible rfl
                                          rotate_left
                                          · simp only [Act.put, List.setIfInBounds_toArray, List.set_cons_zero, List.set_cons_succ, i64_w, i32_w]
                                            rfl
                                          refine pure_ (i := 4) (N := some 79) (v := undef) (a' := ?_) #[true, true, true, true, true, false, false, false, false, false, false] rfl rfl (any_of HT_.out (by kernel_rfl)) (fun _ _ _ h => h) (Or.inr ⟨by rfl, rfl⟩) ?_ ?_
                                          rotate_left
                                          · simp only [Act.put, List.setIfInBounds_toArray, List.set_cons_zero, List.set_cons_succ, i64_w, i32_w]
                                            rfl
                                          refine pure_ (i := 5) (N := some 80) (v := undef) (a' := ?_) #[true, true, true, true, true, true, false, false, false, false, false] rfl rfl (any_of HT_.out (by kernel_rfl)) (fun _ _ _ h => h) (Or.inr ⟨by rfl, rfl⟩) ?_ ?_
                                          rotate_left
                                          · simp only [Act.put, List.setIfInBounds_toArray, List.set_cons_zero, List.set_cons_succ, i64_w, i32_w]
                                            rfl
                                          refine pure_ (i := 6) (N := some 81) (v := undef) (a' := ?_) #[true, true, true, true, true, true, true, false, false, false, false] rfl rfl (any_of HT_.out (by kernel_rfl)) (fun _ _ _ h => h) (Or.inr ⟨by rfl, rfl⟩) ?_ ?_
                                          rotate_left
                                          · simp only [Act.put, List.setIfInBounds_toArray, List.set_cons_zero, List.set_cons_succ, i64_w, i32_w]
                                            rfl
                                          refine pure_ (i := 7) (N := some 82) (v := undef) (a' := ?_) #[true, true, true, true, true, true, true, true, false, false, false] rfl rfl (any_of HT_.out (by kernel_rfl)) (fun _ _ _ h => h) (Or.inr ⟨by rfl, rfl⟩) ?_ ?_
                                          rotate_left
                                          · simp only [Act.put, List.setIfInBounds_toArray, List.set_cons_zero, List.set_cons_succ, i64_w, i32_w]
                                            rfl
                                          refine pure_ (i := 8) (N := some 83) (v := undef) (a' := ?_) #[true, true, true, true, true, true, true, true, true, false, false] rfl rfl (any_of HT_.out (by kernel_rfl)) (fun _ _ _ h => h) (Or.inr ⟨by rfl, rfl⟩) ?_ ?_
                                          rotate_left
                                          · simp only [Act.put, List.setIfInBounds_toArray, List.set_cons_zero, List.set_cons_succ, i64_w, i32_w]
                                            rfl
                                          refine pure_ (i := 9) (N := some 84) (v := undef) (a' := ?_) #[true, true, true, true, true, true, true, true, true, true, false] rfl rfl (any_of HT_.out (by kernel_rfl)) (fun _ _ _ h => h) (Or.inr ⟨by rfl, rfl⟩) ?_ ?_
                                          rotate_left
                                          · simp only [Act.put, List.setIfInBounds_toArray, List.set_cons_zero, List.set_cons_succ, i64_w, i32_w]
                                            rfl
                                          refine pure_ (i := 10) (N := some 85) (v := ?_) (a' := ?_) #[true, true, true, true, true, true, true, true, true, true, true] rfl rfl (any_of HT_.out (by kernel_rfl)) (fun _ _ _ h => h) (Or.inl ⟨by rfl, ?_⟩) ?_ ?_
                                          rotate_left
                                          · intro w'
                                            go_simp
                                            with_reducible rfl
                                          rotate_left
                                          · simp only [Act.put, List.setIfInBounds_toArray, List.set_cons_zero, List.set_cons_succ, i64_w, i32_w]
                                            rfl
                                          refine done_ (done_of HT_.out (by kernel_rfl)) ?_
                                          try go_wp2
                                          go_meet
                                          case rel => exact ⟨_, (false), (by first | rfl | (simp; done) | (simp [*]; done)), H', ⟨by have := HJ2.out; have := HJ14.out; have := HJ25.out; have := HK4.out; first | omega | exact Nat.le_refl _⟩, ⟨by (with_reducible repeat (first | apply Kd.R_alloc | apply Kd.R_drewN | apply Kd.R_drew)); exact HO_5.out⟩, ⟨by (with_reducible repeat (first | apply Kd.R_alloc | apply Kd.R_drewN | apply Kd.R_drew)); exact HO_8.out⟩, ⟨by (with_reducible repeat (first | apply Kd.R_alloc | apply Kd.R_drewN | apply Kd.R_drew)); exact HO_9.out⟩, ⟨by (with_reducible repeat (first | refine blk_drewN ?_ _ | refine blk_drew ?_ | refine blk_alloc ?_ _)); exact BK269.out⟩, ⟨by repeat (first | (with_reducible first | exact HB.out | apply below_alloc | apply pw_below_drewN | apply below_drew1 | refine below_set ?_ GE269.out) | exact HB.out)⟩⟩
                                      case rest =>
                                        clear HC37
                                        try clear c1
                                        try clear c2
                                        try clear p2
                                        try clear q2
                                        try clear hx2
                                        try clear c3
                                        try clear c4
                                        try clear c4b0
                                        try clear c4b1
                                        try clear c5
                                        try clear p6
                                        try clear c8
                                        try clear c9
                                        try clear c9b0
                                        try clear c9b1
                                        try clear c9b2
                                        try clear c13
                                        try clear c13b0
                                        try clear c14
                                        try clear c14b0
                                        try clear c17
                                        try clear c18
                                        try clear c18b0
                                        try clear c19
                                        try clear c20
                                        try clear c20b0
                                        try clear c20b1
                                        try clear c21
                                        try clear c21b0
                                        try clear c21b1
                                        try clear c23
                                        try clear c23b0
                                        try clear c24
                                        try clear c24b0
                                        try clear p26
                                        try clear q26
                                        try clear hx26
                                        try clear p27
                                        try clear q27
                                        try clear hx27
                                        try clear c30
                                        try clear c30b0
                                        try clear c30b1
                                        try clear c34
                                        try clear c35
                                        try clear c35b0
                                        try clear c36
                                        try clear c36b0
                                        try clear c40
                                        try clear c40b0
                                        try clear c41
                                        try clear c41b0
                                        try clear hcz39_0
                                        try clear hcz39_1
                                        try clear hcz39_2
                                        try clear hfz39_0
                                        try clear hfz39_1
                                        try clear hfz39_2
                                        try clear hx260_0
                                        try clear hx260_1
                                        try clear hx260_2
                                        try clear hx268_0
                                        try clear hx268_1
                                        try clear hx268_2
                                        try clear hx270_0
                                        try clear hx270_1
                                        try clear hx270_2
                                        try clear p2
                                        try clear p26
                                        try clear p260
                                        try clear p268
                                        try clear p270
                                        try clear p6
                                        try clear q2
                                        try clear q26
                                        try clear q260
                                        try clear q268
                                        try clear q270
                                        obtain ⟨kq, x85_36, rfl, HA, HJ36, HO_5, HO_8, HO_9, BK269, HB⟩ := hcut
                                        cases kq with
                                        | zero => exact absurd HA.out (by simp [parquetrylaw01_RunesCuts.j4])
                                        | succ kj36 =>
                                          have H := HA.out
                                          clear HA
                                          simp only [parquetrylaw01_RunesCuts.j4] at H
                                          by_cases c47 : x85_36 = true
                                          · subst c47
                                            have H1 : (some false) = some r := by rw [if_pos rfl] at H; exact H
                                            clear H
                                            have H := H1
                                            clear H1
                                            obtain rfl := Option.some.inj H
                                            go_wp2
                                            go_ret
                                            exact ⟨by first | rfl | (simp [errW_none, errW_some] <;> rfl) | (simp only [← hji12]; first | rfl | (simp [errW_none, errW_some] <;> rfl)) | (simp [*, errW_none, errW_some] <;> rfl), by repeat (first | (with_reducible first | exact HB.out | apply below_alloc | apply pw_below_drewN | apply below_drew1 | refine below_set ?_ GE269.out) | exact HB.out)⟩
                                          · replace c47 := Bool.eq_false_iff.mpr c47
                                            subst c47
                                            have H1 : (if x10_4 ≥ ji12 then (if 0 ≤ (wrap64 (x10_4 - ji12)) then (if (wrap64 (x10_4 - ji12)) < (t264.length : Int) then (if (!(((rd_T27 t264 (wrap64 (x10_4 - ji12))).f0) == (wrap64 (((rd_T27 t257 x10_4).f0) - ((rd_T27 t257 (ji12)).f0)))) || (!(((rd_T27 t264 (wrap64 (x10_4 - ji12))).f1) == ((rd_T27 t257 x10_4).f1)) || (!(((rd_T27 t264 (wrap64 (x10_4 - ji12))).f2) == ((rd_T27 t257 x10_4).f2))))) = true then (some false) else (parquetrylaw01_RunesCuts.l0 kj36 t257 ji12 ((rd_T27 t257 (ji12)).f0) t261 t264 (wrap64 (x10_4 + 1)))) else (none)) else (none)) else (parquetrylaw01_RunesCuts.l0 kj36 t257 ji12 ((rd_T27 t257 (ji12)).f0) t261 t264 (wrap64 (x10_4 + 1)))) = some r := by rw [if_neg (show ¬ (false = true) by decide)] at H; exact H
                                            clear H
                                            have H := H1
                                            clear H1
                                            by_cases c48 : x10_4 ≥ ji12
                                            · rw [if_pos c48] at H
                                              have c48b0 : decide (ji12 ≤ x10_4) = true := decide_eq_true c48
                                              clear c48
                                              obtain ⟨ji49, hji49⟩ : ∃ j_ : Int, (wrap64 (x10_4 - ji12)) = j_ := ⟨_, rfl⟩
                                              replace H : (if 0 ≤ (ji49) then (if (ji49) < (t264.length : Int) then (if (!(((rd_T27 t264 (ji49)).f0) == (wrap64 (((rd_T27 t257 x10_4).f0) - ((rd_T27 t257 (ji12)).f0)))) || (!(((rd_T27 t264 (ji49)).f1) == ((rd_T27 t257 x10_4).f1)) || (!(((rd_T27 t264 (ji49)).f2) == ((rd_T27 t257 x10_4).f2))))) = true then (some false) else (parquetrylaw01_RunesCuts.l0 kj36 t257 ji12 ((rd_T27 t257 (ji12)).f0) t261 t264 (wrap64 (x10_4 + 1)))) else (none)) else (none)) = some r := by first | (rw [hji49] at H; exact H) | (simp only [hji49] at H ⊢; exact H)
                                              have hji49w : (IntKind.i64.wrap (x10_4 - ji12)) = ji49 := (i64_w _).trans hji49
                                              by_cases c50 : 0 ≤ (ji49)
                                              · rw [if_pos c50] at H
                                                have c50b0 : decide (0 ≤ (ji49)) = true := decide_eq_true c50
                                                clear c50
                                                by_cases c51 : (ji49) < (t264.length : Int)
                                                · rw [if_pos c51] at H
                                                  have c51b0 : decide ((ji49) < (t264.length : Int)) = true := decide_eq_true c51
                                                  clear c51
                                                  by_cases c52 : (!(((rd_T27 t264 (ji49)).f0) == (wrap64 (((rd_T27 t257 x10_4).f0) - ((rd_T27 t257 (ji12)).f0)))) || (!(((rd_T27 t264 (ji49)).f1) == ((rd_T27 t257 x10_4).f1)) || (!(((rd_T27 t264 (ji49)).f2) == ((rd_T27 t257 x10_4).f2))))) = true
                                                  · rw [if_pos c52] at H
                                                    have c52b0 : (!(((rd_T27 t264 (ji49)).f0) == (wrap64 (((rd_T27 t257 x10_4).f0) - ((rd_T27 t257 (ji12)).f0)))) || (!(((rd_T27 t264 (ji49)).f1) == ((rd_T27 t257 x10_4).f1)) || (!(((rd_T27 t264 (ji49)).f2) == ((rd_T27 t257 x10_4).f2))))) = true := c52
                                                    clear c52
                                                    obtain rfl := Option.some.inj H
                                                    have hcz53_0 : wc.cell? ⟨gb269, 0, none⟩ = some (.int .i64 ((rd_T27 t257 x10_4).f0)) := (blk_cell BK269.out 0).trans rfl
                                                    have hcz53_1 : wc.cell? ⟨gb269, 1, none⟩ = some (.int .i64 ((rd_T27 t257 x10_4).f1)) := (blk_cell BK269.out 1).trans rfl
                                                    have hcz53_2 : wc.cell? ⟨gb269, 2, none⟩ = some (.int .i64 ((rd_T27 t257 x10_4).f2)) := (blk_cell BK269.out 2).trans rfl
                                                    have hfz53_0 := blk_frozen BK269.out 0
                                                    have hfz53_1 := blk_frozen BK269.out 1
                                                    have hfz53_2 := blk_frozen BK269.out 2
                                                    try go_wp2
                                                    have n0_ : Aside0 (Kd.R k27 27 (wc.setCell ⟨gb269, 0, none⟩ (.int .i64 (wrap64 (((rd_T27 t257 x10_4).f0) - ((rd_T27 t257 (ji12)).f0))))) w.heap.size (fun k_ => some k_ ≠ (v262 : Value).ownBlock ∧ some k_ ≠ (v265 : Value).ownBlock ∧ k_ ≠ gb269) (.slice (some ad260) t257.length co17) t257) := ⟨by (with_reducible repeat (first | apply Kd.R_alloc | apply Kd.R_drewN | apply Kd.R_drew)); exact Kd.R_mono (Kd.R_far (p := ⟨gb269, 0, none⟩) (Kd.R_mono HO_5.out (fun k_ hk => (⟨hk, hk.2.2⟩ : _ ∧ k_ ≠ gb269))) (fun _ hk => hk.2) (.int .i64 (wrap64 (((rd_T27 t257 x10_4).f0) - ((rd_T27 t257 (ji12)).f0))))) (fun _ hk => ⟨hk.1.1, ⟨hk.1.2.1, hk.1.2.2⟩⟩)⟩
                                                    have n1_ : Aside0 (Kd.R k27 27 (wc.setCell ⟨gb269, 0, none⟩ (.int .i64 (wrap64 (((rd_T27 t257 x10_4).f0) - ((rd_T27 t257 (ji12)).f0))))) w.heap.size (fun k_ => some k_ ≠ (.slice (some ad260) t257.length co17 : Value).ownBlock ∧ some k_ ≠ (v265 : Value).ownBlock ∧ k_ ≠ gb269) v262 t261) := ⟨by (with_reducible repeat (first | apply Kd.R_alloc | apply Kd.R_drewN | apply Kd.R_drew)); exact Kd.R_mono (Kd.R_far (p := ⟨gb269, 0, none⟩) (Kd.R_mono HO_8.out (fun k_ hk => (⟨hk, hk.2.2⟩ : _ ∧ k_ ≠ gb269))) (fun _ hk => hk.2) (.int .i64 (wrap64 (((rd_T27 t257 x10_4).f0) - ((rd_T27 t257 (ji12)).f0))))) (fun _ hk => ⟨hk.1.1, ⟨hk.1.2.1, hk.1.2.2⟩⟩)⟩
                                                    have n2_ : Aside0 (Kd.R k27 27 (wc.setCell ⟨gb269, 0, none⟩ (.int .i64 (wrap64 (((rd_T27 t257 x10_4).f0) - ((rd_T27 t257 (ji12)).f0))))) w.heap.size (fun k_ => some k_ ≠ (.slice (some ad260) t257.length co17 : Value).ownBlock ∧ some k_ ≠ (v262 : Value).ownBlock ∧ k_ ≠ gb269) v265 t264) := ⟨by (with_reducible repeat (first | apply Kd.R_alloc | apply Kd.R_drewN | apply Kd.R_drew)); exact Kd.R_mono (Kd.R_far (p := ⟨gb269, 0, none⟩) (Kd.R_mono HO_9.out (fun k_ hk => (⟨hk, hk.2.2⟩ : _ ∧ k_ ≠ gb269))) (fun _ hk => hk.2) (.int .i64 (wrap64 (((rd_T27 t257 x10_4).f0) - ((rd_T27 t257 (ji12)).f0))))) (fun _ hk => ⟨hk.1.1, ⟨hk.1.2.1, hk.1.2.2⟩⟩)⟩
                                                    have n3_ : Aside0 ((wc.setCell ⟨gb269, 0, none⟩ (.int .i64 (wrap64 (((rd_T27 t257 x10_4).f0) - ((rd_T27 t257 (ji12)).f0))))).heap[gb269]? = some (.cells #[.int .i64 (wrap64 (((rd_T27 t257 x10_4).f0) - ((rd_T27 t257 (ji12)).f0))), .int .i64 ((rd_T27 t257 x10_4).f1), .int .i64 ((rd_T27 t257 x10_4).f2)] 27 (0, 0))) := ⟨by (with_reducible repeat (first | refine blk_drewN ?_ _ | refine blk_drew ?_ | refine blk_alloc ?_ _)); refine blk_put (cs := #[.int .i64 ((rd_T27 t257 x10_4).f0), .int .i64 ((rd_T27 t257 x10_4).f1), .int .i64 ((rd_T27 t257 x10_4).f2)]) ?_ 0 _ rfl; (with_reducible repeat (first | refine blk_drewN ?_ _ | refine blk_drew ?_ | refine blk_alloc ?_ _)); exact BK269.out⟩
                                                    have n4_ : Aside0 (Below w.heap.size w (wc.setCell ⟨gb269, 0, none⟩ (.int .i64 (wrap64 (((rd_T27 t257 x10_4).f0) - ((rd_T27 t257 (ji12)).f0)))))) := ⟨by repeat (first | (with_reducible first | exact HB.out | apply below_alloc | apply pw_below_drewN | apply below_drew1 | refine below_set ?_ GE269.out) | exact HB.out)⟩
                                                    (try clear HO_5)
                                                    (try clear HO_8)
                                                    (try clear HO_9)
                                                    (try clear BK269)
                                                    (try clear HB)
                                                    generalize (wc.setCell ⟨gb269, 0, none⟩ (.int .i64 (wrap64 (((rd_T27 t257 x10_4).f0) - ((rd_T27 t257 (ji12)).f0))))) = w54 at n0_ n1_ n2_ n3_ n4_ ⊢
                                                    have HO_5 := n0_
                                                    have HO_8 := n1_
                                                    have HO_9 := n2_
                                                    have BK269 := n3_
                                                    have HB := n4_
                                                    clear n0_ n1_ n2_ n3_ n4_
                                                    have n0_ := Aside0.mk (Kd.R_drew HO_5.out)
                                                    have n1_ := Aside0.mk (Kd.R_drew HO_8.out)
                                                    have n2_ := Aside0.mk (Kd.R_drew HO_9.out)
                                                    have n3_ := Aside0.mk (blk_drew BK269.out)
                                                    have n4_ := Aside0.mk (below_drew1 HB.out)
                                                    clear HO_5
                                                    clear HO_8
                                                    clear HO_9
                                                    clear BK269
                                                    clear HB
                                                    have HO_5 := n0_
                                                    have HO_8 := n1_
                                                    have HO_9 := n2_
                                                    have BK269 := n3_
                                                    have HB := n4_
                                                    clear n0_ n1_ n2_ n3_ n4_
                                                    obtain ⟨Ao56, co56, eo56⟩ := Kd.R_slice HO_9.out
                                                    (first | subst eo56 | (injection eo56 with f1_ f2_ f3_; have f4_ := f1_.symm; have f5_ := f3_.symm; clear f1_ f2_ f3_; subst f4_; subst f5_))
                                                    have p271 : 0 ≤ ((ji49) : Int) := of_decide_eq_true (by first | (with_reducible assumption) | assumption)
                                                    have q271 : (ji49) < (t264.length : Int) := of_decide_eq_true (by first | (with_reducible assumption) | assumption)
                                                    obtain ⟨ad271, e271, hx271_0, hx271_1, hx271_2⟩ := at_T27 (Kd.R_reads' HO_9.out).2.2 (ji49) p271 q271
                                                    cases e271
                                                    replace p271 := eq_true p271
                                                    replace q271 := eq_true q271
                                                    refine start_ (n := 13) (S := fun w' => w'.cell? ⟨gb269, 0, none⟩ = some (.int .i64 (wrap64 (((rd_T27 t257 x10_4).f0) - ((rd_T27 t257 (ji12)).f0)))) ∧ w'.cell? ⟨gb269, 1, none⟩ = some (.int .i64 ((rd_T27 t257 x10_4).f1)) ∧ w'.cell? ⟨gb269, 2, none⟩ = some (.int .i64 ((rd_T27 t257 x10_4).f2)) ∧ w'.cell? (ad271.add (((ji49)).toNat * 3)) = some (.int .i64 ((rd_T27 t264 (ji49)).f0)) ∧ w'.cell? ⟨(ad271.add (((ji49)).toNat * 3)).block, (ad271.add (((ji49)).toNat * 3)).off + 1, none⟩ = some (.int .i64 ((rd_T27 t264 (ji49)).f1)) ∧ w'.cell? ⟨(ad271.add (((ji49)).toNat * 3)).block, (ad271.add (((ji49)).toNat * 3)).off + 2, none⟩ = some (.int .i64 ((rd_T27 t264 (ji49)).f2))) (ds := []) #[false, false, false, false, false, false, false, false, false, false, false, false, false] (by kernel_rfl) rfl rfl ⟨(blk_cell BK269.out 0).trans rfl, (blk_cell BK269.out 1).trans rfl, (blk_cell BK269.out 2).trans rfl, hx271_0, hx271_1, hx271_2⟩ (fun hHeld => ?_); refine with_tabW parquetrylaw01_RunesCuts.tab20 parquetrylaw01_RunesCuts.bits20 (fun HT_ HW_ => ?_)
                                                    generalize w54.drew = w55 at HO_5 HO_8 HO_9 BK269 HB hx271_0 hx271_1 hx271_2 hHeld ⊢
                                                    refine pure_ (i := 0) (N := some 91) (v := ?_) (a' := ?_) #[true, false, false, false, false, false, false, false, false, false, false, false, false] rfl rfl (any_of HT_.out (by kernel_rfl)) (fun _ _ _ h => h) (Or.inl ⟨by rfl, ?_⟩) ?_ ?_
                                                    rotate_left
                                                    · intro w'
                                                      go_simp
                                                      with_reducible rfl
                                                    rotate_left
                                                    · simp only [Act.put, List.setIfInBounds_toArray, List.set_cons_zero, List.set_cons_succ, i64_w, i32_w]
                                                      rfl
                                                    refine pure_ (i := 1) (N := some 92) (v := ?_) (a' := ?_) #[true, true, false, false, false, false, false, false, false, false, false, false, false] rfl rfl (any_of HT_.out (by kernel_rfl)) (fun _ _ _ h => h) (Or.inl ⟨by rfl, ?_⟩) ?_ ?_
                                                    rotate_left
                                                    · intro w'
                                                      go_simp
                                                      with_reducible rfl
                                                    rotate_left
                                                    · simp only [Act.put, List.setIfInBounds_toArray, List.set_cons_zero, List.set_cons_succ, i64_w, i32_w]
                                                      rfl
                                                    refine pure_ (i := 2) (N := some 93) (v := ?_) (a' := ?_) #[true, true, true, false, false, false, false, false, false, false, false, false, false] rfl rfl (any_of HT_.out (by kernel_rfl)) (fun _ _ _ h => h) (Or.inl ⟨by rfl, ?_⟩) ?_ ?_
                                                    rotate_left
                                                    · intro w'
                                                      go_simp
                                                      with_reducible rfl
                                                    rotate_left
                                                    · simp only [Act.put, List.setIfInBounds_toArray, List.set_cons_zero, List.set_cons_succ, i64_w, i32_w]
                                                      rfl
                                                    refine pure_ (i := 3) (N := some 94) (v := ?_) (a' := ?_) #[true, true, true, true, false, false, false, false, false, false, false, false, false] rfl rfl (any_of HT_.out (by kernel_rfl)) (fun _ _ _ h => h) (Or.inl ⟨by rfl, ?_⟩) ?_ ?_
                                                    rotate_left
                                                    · intro w'
                                                      go_simp
                                                      with_reducible rfl
                                                    rotate_left
                                                    · simp only [Act.put, List.setIfInBounds_toArray, List.set_cons_zero, List.set_cons_succ, i64_w, i32_w]
                                                      rfl
                                                    refine pure_ (i := 4) (N := some 95) (v := ?_) (a' := ?_) #[true, true, true, true, true, false, false, false, false, false, false, false, false] rfl rfl (any_of HT_.out (by kernel_rfl)) (fun _ _ _ h => h) (Or.inl ⟨by rfl, ?_⟩) ?_ ?_
                                                    rotate_left
                                                    · intro w'
                                                      go_simp
                                                      with_reducible rfl
                                                    rotate_left
                                                    · simp only [Act.put, List.setIfInBounds_toArray, List.set_cons_zero, List.set_cons_succ, i64_w, i32_w]
                                                      rfl
                                                    refine pure_ (i := 5) (N := some 96) (v := ?_) (a' := ?_) #[true, true, true, true, true, true, false, false, false, false, false, false, false] rfl rfl (any_of HT_.out (by kernel_rfl)) (fun _ _ _ h => h) (Or.inl ⟨by rfl, ?_⟩) ?_ ?_
                                                    rotate_left
                                                    · intro w'
                                                      go_simp
                                                      with_reducible rfl
                                                    rotate_left
                                                    · simp only [Act.put, List.setIfInBounds_toArray, List.set_cons_zero, List.set_cons_succ, i64_w, i32_w]
                                                      rfl
                                                    refine pure_ (i := 6) (N := some 97) (v := ?_) (a' := ?_) #[true, true, true, true, true, true, true, false, false, false, false, false, false] rfl rfl (any_of HT_.out (by kernel_rfl)) (fun _ _ _ h => h) (Or.inl ⟨by rfl, ?_⟩) ?_ ?_
                                                    rotate_left
                                                    · intro w'
                                                      go_simp
                                                      with_reducible rfl
                                                    rotate_left
                                                    · simp only [Act.put, List.setIfInBounds_toArray, List.set_cons_zero, List.set_cons_succ, i64_w, i32_w]
                                                      rfl
                                                    refine pure_ (i := 7) (N := some 98) (v := ?_) (a' := ?_) #[true, true, true, true, true, true, true, true, false, false, false, false, false] rfl rfl (any_of HT_.out (by kernel_rfl)) (fun _ _ _ h => h) (Or.inl ⟨by rfl, ?_⟩) ?_ ?_
                                                    rotate_left
                                                    · intro w'
                                                      go_simp
                                                      with_reducible rfl
                                                    rotate_left
                                                    · simp only [Act.put, List.setIfInBounds_toArray, List.set_cons_zero, List.set_cons_succ, i64_w, i32_w]
                                                      rfl
                                                    refine pure_ (i := 8) (N := some 99) (v := ?_) (a' := ?_) #[true, true, true, true, true, true, true, true, true, false, false, false, false] rfl rfl (any_of HT_.out (by kernel_rfl)) (fun _ _ _ h => h) (Or.inl ⟨by rfl, ?_⟩) ?_ ?_
                                                    rotate_left
                                                    · intro w'
                                                      go_simp
                                                      with_reducible rfl
                                                    rotate_left
                                                    · simp only [Act.put, List.setIfInBounds_toArray, List.set_cons_zero, List.set_cons_succ, i64_w, i32_w]
                                                      rfl
                                                    refine take_ (i := 9) (N := some 100) (v := ?_) (a' := ?_) #[true, true, true, true, true, true, true, true, true, true, false, false, false] rfl rfl (take_ofW HT_.out HW_.out (by kernel_rfl)) (fun _ _ _ h => h) (Or.inl ⟨by rfl, ?_⟩) hHeld ?_ ?_
                                                    rotate_left
                                                    · rintro w' ⟨s0, s1, s2, s3, s4, s5⟩
                                                      go_simp
                                                      with_reducible rfl
                                                    rotate_left
                                                    · simp only [Act.put, List.setIfInBounds_toArray, List.set_cons_zero, List.set_cons_succ, i64_w, i32_w]
                                                      rfl
                                                    refine take_ (i := 10) (N := some 101) (v := ?_) (a' := ?_) #[true, true, true, true, true, true, true, true, true, true, true, false, false] rfl rfl (take_ofW HT_.out HW_.out (by kernel_rfl)) (fun _ _ _ h => h) (Or.inl ⟨by rfl, ?_⟩) hHeld ?_ ?_
                                                    rotate_left
                                                    · rintro w' ⟨s0, s1, s2, s3, s4, s5⟩
                                                      go_simp
                                                      with_reducible rfl
                                                    rotate_left
                                                    · simp only [Act.put, List.setIfInBounds_toArray, List.set_cons_zero, List.set_cons_succ, i64_w, i32_w]
                                                      rfl
                                                    refine pure_ (i := 11) (N := some 102) (v := ?_) (a' := ?_) #[true, true, true, true, true, true, true, true, true, true, true, true, false] rfl rfl (any_of HT_.out (by kernel_rfl)) (fun _ _ _ h => h) (Or.inl ⟨by rfl, ?_⟩) ?_ ?_
                                                    rotate_left
                                                    · intro w'
                                                      go_simp
                                                      with_reducible rfl
                                                    rotate_left
                                                    · simp only [Act.put, List.setIfInBounds_toArray, List.set_cons_zero, List.set_cons_succ, i64_w, i32_w]
                                                      rfl
                                                    refine pure_ (i := 12) (N := some 103) (v := ?_) (a' := ?_) #[true, true, true, true, true, true, true, true, true, true, true, true, true] rfl rfl (any_of HT_.out (by kernel_rfl)) (fun _ _ _ h => h) (Or.inl ⟨by rfl, ?_⟩) ?_ ?_
                                                    rotate_left
                                                    · intro w'
                                                      go_simp
                                                      with_reducible rfl
                                                    rotate_left
                                                    · simp only [Act.put, List.setIfInBounds_toArray, List.set_cons_zero, List.set_cons_succ, i64_w, i32_w]
                                                      rfl
                                                    refine done_ (done_of HT_.out (by kernel_rfl)) ?_
                                                    try go_wp2
                                                    go_ret
                                                    exact ⟨by first | rfl | (simp [errW_none, errW_some] <;> rfl) | (simp only [← hji12, ← hji49]; first | rfl | (simp [errW_none, errW_some] <;> rfl)) | (simp [*, errW_none, errW_some] <;> rfl), by repeat (first | (with_reducible first | exact HB.out | apply below_alloc | apply pw_below_drewN | apply below_drew1 | refine below_set ?_ GE269.out) | exact HB.out)⟩
                                                  · rw [if_neg c52] at H
                                                    have c52b0 : (!(((rd_T27 t264 (ji49)).f0) == (wrap64 (((rd_T27 t257 x10_4).f0) - ((rd_T27 t257 (ji12)).f0)))) || (!(((rd_T27 t264 (ji49)).f1) == ((rd_T27 t257 x10_4).f1)) || (!(((rd_T27 t264 (ji49)).f2) == ((rd_T27 t257 x10_4).f2))))) = false := by simpa using c52
                                                    clear c52
                                                    have H' := Aside0.mk H
                                                    clear H
                                                    have hcz57_0 : wc.cell? ⟨gb269, 0, none⟩ = some (.int .i64 ((rd_T27 t257 x10_4).f0)) := (blk_cell BK269.out 0).trans rfl
                                                    have hcz57_1 : wc.cell? ⟨gb269, 1, none⟩ = some (.int .i64 ((rd_T27 t257 x10_4).f1)) := (blk_cell BK269.out 1).trans rfl
                                                    have hcz57_2 : wc.cell? ⟨gb269, 2, none⟩ = some (.int .i64 ((rd_T27 t257 x10_4).f2)) := (blk_cell BK269.out 2).trans rfl
                                                    have hfz57_0 := blk_frozen BK269.out 0
                                                    have hfz57_1 := blk_frozen BK269.out 1
                                                    have hfz57_2 := blk_frozen BK269.out 2
                                                    try go_wp2
                                                    have n0_ : Aside0 (Kd.R k27 27 (wc.setCell ⟨gb269, 0, none⟩ (.int .i64 (wrap64 (((rd_T27 t257 x10_4).f0) - ((rd_T27 t257 (ji12)).f0))))) w.heap.size (fun k_ => some k_ ≠ (v262 : Value).ownBlock ∧ some k_ ≠ (v265 : Value).ownBlock ∧ k_ ≠ gb269) (.slice (some ad260) t257.length co17) t257) := ⟨by (with_reducible repeat (first | apply Kd.R_alloc | apply Kd.R_drewN | apply Kd.R_drew)); exact Kd.R_mono (Kd.R_far (p := ⟨gb269, 0, none⟩) (Kd.R_mono HO_5.out (fun k_ hk => (⟨hk, hk.2.2⟩ : _ ∧ k_ ≠ gb269))) (fun _ hk => hk.2) (.int .i64 (wrap64 (((rd_T27 t257 x10_4).f0) - ((rd_T27 t257 (ji12)).f0))))) (fun _ hk => ⟨hk.1.1, ⟨hk.1.2.1, hk.1.2.2⟩⟩)⟩
                                                    have n1_ : Aside0 (Kd.R k27 27 (wc.setCell ⟨gb269, 0, none⟩ (.int .i64 (wrap64 (((rd_T27 t257 x10_4).f0) - ((rd_T27 t257 (ji12)).f0))))) w.heap.size (fun k_ => some k_ ≠ (.slice (some ad260) t257.length co17 : Value).ownBlock ∧ some k_ ≠ (v265 : Value).ownBlock ∧ k_ ≠ gb269) v262 t261) := ⟨by (with_reducible repeat (first | apply Kd.R_alloc | apply Kd.R_drewN | apply Kd.R_drew)); exact Kd.R_mono (Kd.R_far (p := ⟨gb269, 0, none⟩) (Kd.R_mono HO_8.out (fun k_ hk => (⟨hk, hk.2.2⟩ : _ ∧ k_ ≠ gb269))) (fun _ hk => hk.2) (.int .i64 (wrap64 (((rd_T27 t257 x10_4).f0) - ((rd_T27 t257 (ji12)).f0))))) (fun _ hk => ⟨hk.1.1, ⟨hk.1.2.1, hk.1.2.2⟩⟩)⟩
                                                    have n2_ : Aside0 (Kd.R k27 27 (wc.setCell ⟨gb269, 0, none⟩ (.int .i64 (wrap64 (((rd_T27 t257 x10_4).f0) - ((rd_T27 t257 (ji12)).f0))))) w.heap.size (fun k_ => some k_ ≠ (.slice (some ad260) t257.length co17 : Value).ownBlock ∧ some k_ ≠ (v262 : Value).ownBlock ∧ k_ ≠ gb269) v265 t264) := ⟨by (with_reducible repeat (first | apply Kd.R_alloc | apply Kd.R_drewN | apply Kd.R_drew)); exact Kd.R_mono (Kd.R_far (p := ⟨gb269, 0, none⟩) (Kd.R_mono HO_9.out (fun k_ hk => (⟨hk, hk.2.2⟩ : _ ∧ k_ ≠ gb269))) (fun _ hk => hk.2) (.int .i64 (wrap64 (((rd_T27 t257 x10_4).f0) - ((rd_T27 t257 (ji12)).f0))))) (fun _ hk => ⟨hk.1.1, ⟨hk.1.2.1, hk.1.2.2⟩⟩)⟩
                                                    have n3_ : Aside0 ((wc.setCell ⟨gb269, 0, none⟩ (.int .i64 (wrap64 (((rd_T27 t257 x10_4).f0) - ((rd_T27 t257 (ji12)).f0))))).heap[gb269]? = some (.cells #[.int .i64 (wrap64 (((rd_T27 t257 x10_4).f0) - ((rd_T27 t257 (ji12)).f0))), .int .i64 ((rd_T27 t257 x10_4).f1), .int .i64 ((rd_T27 t257 x10_4).f2)] 27 (0, 0))) := ⟨by (with_reducible repeat (first | refine blk_drewN ?_ _ | refine blk_drew ?_ | refine blk_alloc ?_ _)); refine blk_put (cs := #[.int .i64 ((rd_T27 t257 x10_4).f0), .int .i64 ((rd_T27 t257 x10_4).f1), .int .i64 ((rd_T27 t257 x10_4).f2)]) ?_ 0 _ rfl; (with_reducible repeat (first | refine blk_drewN ?_ _ | refine blk_drew ?_ | refine blk_alloc ?_ _)); exact BK269.out⟩
                                                    have n4_ : Aside0 (Below w.heap.size w (wc.setCell ⟨gb269, 0, none⟩ (.int .i64 (wrap64 (((rd_T27 t257 x10_4).f0) - ((rd_T27 t257 (ji12)).f0)))))) := ⟨by repeat (first | (with_reducible first | exact HB.out | apply below_alloc | apply pw_below_drewN | apply below_drew1 | refine below_set ?_ GE269.out) | exact HB.out)⟩
                                                    (try clear HO_5)
                                                    (try clear HO_8)
                                                    (try clear HO_9)
                                                    (try clear BK269)
                                                    (try clear HB)
                                                    generalize (wc.setCell ⟨gb269, 0, none⟩ (.int .i64 (wrap64 (((rd_T27 t257 x10_4).f0) - ((rd_T27 t257 (ji12)).f0))))) = w58 at n0_ n1_ n2_ n3_ n4_ ⊢
                                                    have HO_5 := n0_
                                                    have HO_8 := n1_
                                                    have HO_9 := n2_
                                                    have BK269 := n3_
                                                    have HB := n4_
                                                    clear n0_ n1_ n2_ n3_ n4_
                                                    have n0_ := Aside0.mk (Kd.R_drew HO_5.out)
                                                    have n1_ := Aside0.mk (Kd.R_drew HO_8.out)
                                                    have n2_ := Aside0.mk (Kd.R_drew HO_9.out)
                                                    have n3_ := Aside0.mk (blk_drew BK269.out)
                                                    have n4_ := Aside0.mk (below_drew1 HB.out)
                                                    clear HO_5
                                                    clear HO_8
                                                    clear HO_9
                                                    clear BK269
                                                    clear HB
                                                    have HO_5 := n0_
                                                    have HO_8 := n1_
                                                    have HO_9 := n2_
                                                    have BK269 := n3_
                                                    have HB := n4_
                                                    clear n0_ n1_ n2_ n3_ n4_
                                                    obtain ⟨Ao60, co60, eo60⟩ := Kd.R_slice HO_9.out
                                                    (first | subst eo60 | (injection eo60 with f1_ f2_ f3_; have f4_ := f1_.symm; have f5_ := f3_.symm; clear f1_ f2_ f3_; subst f4_; subst f5_))
                                                    have p271 : 0 ≤ ((ji49) : Int) := of_decide_eq_true (by first | (with_reducible assumption) | assumption)
                                                    have q271 : (ji49) < (t264.length : Int) := of_decide_eq_true (by first | (with_reducible assumption) | assumption)
                                                    obtain ⟨ad271, e271, hx271_0, hx271_1, hx271_2⟩ := at_T27 (Kd.R_reads' HO_9.out).2.2 (ji49) p271 q271
                                                    cases e271
                                                    replace p271 := eq_true p271
                                                    replace q271 := eq_true q271
                                                    refine start_ (n := 13) (S := fun w' => w'.cell? ⟨gb269, 0, none⟩ = some (.int .i64 (wrap64 (((rd_T27 t257 x10_4).f0) - ((rd_T27 t257 (ji12)).f0)))) ∧ w'.cell? ⟨gb269, 1, none⟩ = some (.int .i64 ((rd_T27 t257 x10_4).f1)) ∧ w'.cell? ⟨gb269, 2, none⟩ = some (.int .i64 ((rd_T27 t257 x10_4).f2)) ∧ w'.cell? (ad271.add (((ji49)).toNat * 3)) = some (.int .i64 ((rd_T27 t264 (ji49)).f0)) ∧ w'.cell? ⟨(ad271.add (((ji49)).toNat * 3)).block, (ad271.add (((ji49)).toNat * 3)).off + 1, none⟩ = some (.int .i64 ((rd_T27 t264 (ji49)).f1)) ∧ w'.cell? ⟨(ad271.add (((ji49)).toNat * 3)).block, (ad271.add (((ji49)).toNat * 3)).off + 2, none⟩ = some (.int .i64 ((rd_T27 t264 (ji49)).f2))) (ds := []) #[false, false, false, false, false, false, false, false, false, false, false, false, false] (by kernel_rfl) rfl rfl ⟨(blk_cell BK269.out 0).trans rfl, (blk_cell BK269.out 1).trans rfl, (blk_cell BK269.out 2).trans rfl, hx271_0, hx271_1, hx271_2⟩ (fun hHeld => ?_); refine with_tabW parquetrylaw01_RunesCuts.tab20 parquetrylaw01_RunesCuts.bits20 (fun HT_ HW_ => ?_)
                                                    generalize w58.drew = w59 at HO_5 HO_8 HO_9 BK269 HB hx271_0 hx271_1 hx271_2 hHeld ⊢
                                                    refine pure_ (i := 0) (N := some 91) (v := ?_) (a' := ?_) #[true, false, false, false, false, false, false, false, false, false, false, false, false] rfl rfl (any_of HT_.out (by kernel_rfl)) (fun _ _ _ h => h) (Or.inl ⟨by rfl, ?_⟩) ?_ ?_
                                                    rotate_left
                                                    · intro w'
                                                      go_simp
                                                      with_reducible rfl
                                                    rotate_left
                                                    · simp only [Act.put, List.setIfInBounds_toArray, List.set_cons_zero, List.set_cons_succ, i64_w, i32_w]
                                                      rfl
                                                    refine pure_ (i := 1) (N := some 92) (v := ?_) (a' := ?_) #[true, true, false, false, false, false, false, false, false, false, false, false, false] rfl rfl (any_of HT_.out (by kernel_rfl)) (fun _ _ _ h => h) (Or.inl ⟨by rfl, ?_⟩) ?_ ?_
                                                    rotate_left
                                                    · intro w'
                                                      go_simp
                                                      with_reducible rfl
                                                    rotate_left
                                                    · simp only [Act.put, List.setIfInBounds_toArray, List.set_cons_zero, List.set_cons_succ, i64_w, i32_w]
                                                      rfl
                                                    refine pure_ (i := 2) (N := some 93) (v := ?_) (a' := ?_) #[true, true, true, false, false, false, false, false, false, false, false, false, false] rfl rfl (any_of HT_.out (by kernel_rfl)) (fun _ _ _ h => h) (Or.inl ⟨by rfl, ?_⟩) ?_ ?_
                                                    rotate_left
                                                    · intro w'
                                                      go_simp
                                                      with_reducible rfl
                                                    rotate_left
                                                    · simp only [Act.put, List.setIfInBounds_toArray, List.set_cons_zero, List.set_cons_succ, i64_w, i32_w]
                                                      rfl
                                                    refine pure_ (i := 3) (N := some 94) (v := ?_) (a' := ?_) #[true, true, true, true, false, false, false, false, false, false, false, false, false] rfl rfl (any_of HT_.out (by kernel_rfl)) (fun _ _ _ h => h) (Or.inl ⟨by rfl, ?_⟩) ?_ ?_
                                                    rotate_left
                                                    · intro w'
                                                      go_simp
                                                      with_reducible rfl
                                                    rotate_left
                                                    · simp only [Act.put, List.setIfInBounds_toArray, List.set_cons_zero, List.set_cons_succ, i64_w, i32_w]
                                                      rfl
                                                    refine pure_ (i := 4) (N := some 95) (v := ?_) (a' := ?_) #[true, true, true, true, true, false, false, false, false, false, false, false, false] rfl rfl (any_of HT_.out (by kernel_rfl)) (fun _ _ _ h => h) (Or.inl ⟨by rfl, ?_⟩) ?_ ?_
                                                    rotate_left
                                                    · intro w'
                                                      go_simp
                                                      with_reducible rfl
                                                    rotate_left
                                                    · simp only [Act.put, List.setIfInBounds_toArray, List.set_cons_zero, List.set_cons_succ, i64_w, i32_w]
                                                      rfl
                                                    refine pure_ (i := 5) (N := some 96) (v := ?_) (a' := ?_) #[true, true, true, true, true, true, false, false, false, false, false, false, false] rfl rfl (any_of HT_.out (by kernel_rfl)) (fun _ _ _ h => h) (Or.inl ⟨by rfl, ?_⟩) ?_ ?_
                                                    rotate_left
                                                    · intro w'
                                                      go_simp
                                                      with_reducible rfl
                                                    rotate_left
                                                    · simp only [Act.put, List.setIfInBounds_toArray, List.set_cons_zero, List.set_cons_succ, i64_w, i32_w]
                                                      rfl
                                                    refine pure_ (i := 6) (N := some 97) (v := ?_) (a' := ?_) #[true, true, true, true, true, true, true, false, false, false, false, false, false] rfl rfl (any_of HT_.out (by kernel_rfl)) (fun _ _ _ h => h) (Or.inl ⟨by rfl, ?_⟩) ?_ ?_
                                                    rotate_left
                                                    · intro w'
                                                      go_simp
                                                      with_reducible rfl
                                                    rotate_left
                                                    · simp only [Act.put, List.setIfInBounds_toArray, List.set_cons_zero, List.set_cons_succ, i64_w, i32_w]
                                                      rfl
                                                    refine pure_ (i := 7) (N := some 98) (v := ?_) (a' := ?_) #[true, true, true, true, true, true, true, true, false, false, false, false, false] rfl rfl (any_of HT_.out (by kernel_rfl)) (fun _ _ _ h => h) (Or.inl ⟨by rfl, ?_⟩) ?_ ?_
                                                    rotate_left
                                                    · intro w'
                                                      go_simp
                                                      with_reducible rfl
                                                    rotate_left
                                                    · simp only [Act.put, List.setIfInBounds_toArray, List.set_cons_zero, List.set_cons_succ, i64_w, i32_w]
                                                      rfl
                                                    refine pure_ (i := 8) (N := some 99) (v := ?_) (a' := ?_) #[true, true, true, true, true, true, true, true, true, false, false, false, false] rfl rfl (any_of HT_.out (by kernel_rfl)) (fun _ _ _ h => h) (Or.inl ⟨by rfl, ?_⟩) ?_ ?_
                                                    rotate_left
                                                    · intro w'
                                                      go_simp
                                                      with_reducible rfl
                                                    rotate_left
                                                    · simp only [Act.put, List.setIfInBounds_toArray, List.set_cons_zero, List.set_cons_succ, i64_w, i32_w]
                                                      rfl
                                                    refine take_ (i := 9) (N := some 100) (v := ?_) (a' := ?_) #[true, true, true, true, true, true, true, true, true, true, false, false, false] rfl rfl (take_ofW HT_.out HW_.out (by kernel_rfl)) (fun _ _ _ h => h) (Or.inl ⟨by rfl, ?_⟩) hHeld ?_ ?_
                                                    rotate_left
                                                    · rintro w' ⟨s0, s1, s2, s3, s4, s5⟩
                                                      go_simp
                                                      with_reducible rfl
                                                    rotate_left
                                                    · simp only [Act.put, List.setIfInBounds_toArray, List.set_cons_zero, List.set_cons_succ, i64_w, i32_w]
                                                      rfl
                                                    refine take_ (i := 10) (N := some 101) (v := ?_) (a' := ?_) #[true, true, true, true, true, true, true, true, true, true, true, false, false] rfl rfl (take_ofW HT_.out HW_.out (by kernel_rfl)) (fun _ _ _ h => h) (Or.inl ⟨by rfl, ?_⟩) hHeld ?_ ?_
                                                    rotate_left
                                                    · rintro w' ⟨s0, s1, s2, s3, s4, s5⟩
                                                      go_simp
                                                      with_reducible rfl
                                                    rotate_left
                                                    · simp only [Act.put, List.setIfInBounds_toArray, List.set_cons_zero, List.set_cons_succ, i64_w, i32_w]
                                                      rfl
                                                    refine pure_ (i := 11) (N := some 102) (v := ?_) (a' := ?_) #[true, true, true, true, true, true, true, true, true, true, true, true, false] rfl rfl (any_of HT_.out (by kernel_rfl)) (fun _ _ _ h => h) (Or.inl ⟨by rfl, ?_⟩) ?_ ?_
                                                    rotate_left
                                                    · intro w'
                                                      go_simp
                                                      with_reducible rfl
                                                    rotate_left
                                                    · simp only [Act.put, List.setIfInBounds_toArray, List.set_cons_zero, List.set_cons_succ, i64_w, i32_w]
                                                      rfl
                                                    refine pure_ (i := 12) (N := some 103) (v := ?_) (a' := ?_) #[true, true, true, true, true, true, true, true, true, true, true, true, true] rfl rfl (any_of HT_.out (by kernel_rfl)) (fun _ _ _ h => h) (Or.inl ⟨by rfl, ?_⟩) ?_ ?_
                                                    rotate_left
                                                    · intro w'
                                                      go_simp
                                                      with_reducible rfl
                                                    rotate_left
                                                    · simp only [Act.put, List.setIfInBounds_toArray, List.set_cons_zero, List.set_cons_succ, i64_w, i32_w]
                                                      rfl
                                                    refine done_ (done_of HT_.out (by kernel_rfl)) ?_
                                                    try go_wp2
                                                    go_roundg kj36
                                                    case measure => have := HJ2.out; have := HJ14.out; have := HJ25.out; have := HK4.out; have := HJ36.out; omega
                                                    case rel => exact ⟨(wrap64 (x10_4 + 1)), (by first | rfl | (simp; done) | (simp [*]; done)), H', ⟨by have := HJ2.out; have := HJ14.out; have := HJ25.out; have := HK4.out; have := HJ36.out; omega⟩, ⟨by (with_reducible repeat (first | apply Kd.R_alloc | apply Kd.R_drewN | apply Kd.R_drew)); exact Kd.R_mono HO_5.out (fun _ hk => ⟨hk.1, hk.2.1⟩)⟩, ⟨by (with_reducible repeat (first | apply Kd.R_alloc | apply Kd.R_drewN | apply Kd.R_drew)); exact Kd.R_mono HO_8.out (fun _ hk => ⟨hk.1, hk.2.1⟩)⟩, ⟨by (with_reducible repeat (first | apply Kd.R_alloc | apply Kd.R_drewN | apply Kd.R_drew)); exact Kd.R_mono HO_9.out (fun _ hk => ⟨hk.1, hk.2.1⟩)⟩, ⟨by repeat (first | (with_reducible first | exact HB.out | apply below_alloc | apply pw_below_drewN | apply below_drew1 | refine below_set ?_ GE269.out) | exact HB.out)⟩⟩
                                                · rw [if_neg c51] at H
                                                  exact absurd H (by simp)
                                              · rw [if_neg c50] at H
                                                exact absurd H (by simp)
                                            · rw [if_neg c48] at H
                                              have c48b0 : decide (ji12 ≤ x10_4) = false := decide_eq_false c48
                                              clear c48
                                              have H' := Aside0.mk H
                                              clear H
                                              have hcz61_0 : wc.cell? ⟨gb269, 0, none⟩ = some (.int .i64 ((rd_T27 t257 x10_4).f0)) := (blk_cell BK269.out 0).trans rfl
                                              have hcz61_1 : wc.cell? ⟨gb269, 1, none⟩ = some (.int .i64 ((rd_T27 t257 x10_4).f1)) := (blk_cell BK269.out 1).trans rfl
                                              have hcz61_2 : wc.cell? ⟨gb269, 2, none⟩ = some (.int .i64 ((rd_T27 t257 x10_4).f2)) := (blk_cell BK269.out 2).trans rfl
                                              have hfz61_0 := blk_frozen BK269.out 0
                                              have hfz61_1 := blk_frozen BK269.out 1
                                              have hfz61_2 := blk_frozen BK269.out 2
                                              try go_wp2
                                              have n0_ : Aside0 (Kd.R k27 27 (wc.setCell ⟨gb269, 0, none⟩ (.int .i64 (wrap64 (((rd_T27 t257 x10_4).f0) - ((rd_T27 t257 (ji12)).f0))))) w.heap.size (fun k_ => some k_ ≠ (v262 : Value).ownBlock ∧ some k_ ≠ (v265 : Value).ownBlock ∧ k_ ≠ gb269) (.slice (some ad260) t257.length co17) t257) := ⟨by (with_reducible repeat (first | apply Kd.R_alloc | apply Kd.R_drewN | apply Kd.R_drew)); exact Kd.R_mono (Kd.R_far (p := ⟨gb269, 0, none⟩) (Kd.R_mono HO_5.out (fun k_ hk => (⟨hk, hk.2.2⟩ : _ ∧ k_ ≠ gb269))) (fun _ hk => hk.2) (.int .i64 (wrap64 (((rd_T27 t257 x10_4).f0) - ((rd_T27 t257 (ji12)).f0))))) (fun _ hk => ⟨hk.1.1, ⟨hk.1.2.1, hk.1.2.2⟩⟩)⟩
                                              have n1_ : Aside0 (Kd.R k27 27 (wc.setCell ⟨gb269, 0, none⟩ (.int .i64 (wrap64 (((rd_T27 t257 x10_4).f0) - ((rd_T27 t257 (ji12)).f0))))) w.heap.size (fun k_ => some k_ ≠ (.slice (some ad260) t257.length co17 : Value).ownBlock ∧ some k_ ≠ (v265 : Value).ownBlock ∧ k_ ≠ gb269) v262 t261) := ⟨by (with_reducible repeat (first | apply Kd.R_alloc | apply Kd.R_drewN | apply Kd.R_drew)); exact Kd.R_mono (Kd.R_far (p := ⟨gb269, 0, none⟩) (Kd.R_mono HO_8.out (fun k_ hk => (⟨hk, hk.2.2⟩ : _ ∧ k_ ≠ gb269))) (fun _ hk => hk.2) (.int .i64 (wrap64 (((rd_T27 t257 x10_4).f0) - ((rd_T27 t257 (ji12)).f0))))) (fun _ hk => ⟨hk.1.1, ⟨hk.1.2.1, hk.1.2.2⟩⟩)⟩
                                              have n2_ : Aside0 (Kd.R k27 27 (wc.setCell ⟨gb269, 0, none⟩ (.int .i64 (wrap64 (((rd_T27 t257 x10_4).f0) - ((rd_T27 t257 (ji12)).f0))))) w.heap.size (fun k_ => some k_ ≠ (.slice (some ad260) t257.length co17 : Value).ownBlock ∧ some k_ ≠ (v262 : Value).ownBlock ∧ k_ ≠ gb269) v265 t264) := ⟨by (with_reducible repeat (first | apply Kd.R_alloc | apply Kd.R_drewN | apply Kd.R_drew)); exact Kd.R_mono (Kd.R_far (p := ⟨gb269, 0, none⟩) (Kd.R_mono HO_9.out (fun k_ hk => (⟨hk, hk.2.2⟩ : _ ∧ k_ ≠ gb269))) (fun _ hk => hk.2) (.int .i64 (wrap64 (((rd_T27 t257 x10_4).f0) - ((rd_T27 t257 (ji12)).f0))))) (fun _ hk => ⟨hk.1.1, ⟨hk.1.2.1, hk.1.2.2⟩⟩)⟩
                                              have n3_ : Aside0 ((wc.setCell ⟨gb269, 0, none⟩ (.int .i64 (wrap64 (((rd_T27 t257 x10_4).f0) - ((rd_T27 t257 (ji12)).f0))))).heap[gb269]? = some (.cells #[.int .i64 (wrap64 (((rd_T27 t257 x10_4).f0) - ((rd_T27 t257 (ji12)).f0))), .int .i64 ((rd_T27 t257 x10_4).f1), .int .i64 ((rd_T27 t257 x10_4).f2)] 27 (0, 0))) := ⟨by (with_reducible repeat (first | refine blk_drewN ?_ _ | refine blk_drew ?_ | refine blk_alloc ?_ _)); refine blk_put (cs := #[.int .i64 ((rd_T27 t257 x10_4).f0), .int .i64 ((rd_T27 t257 x10_4).f1), .int .i64 ((rd_T27 t257 x10_4).f2)]) ?_ 0 _ rfl; (with_reducible repeat (first | refine blk_drewN ?_ _ | refine blk_drew ?_ | refine blk_alloc ?_ _)); exact BK269.out⟩
                                              have n4_ : Aside0 (Below w.heap.size w (wc.setCell ⟨gb269, 0, none⟩ (.int .i64 (wrap64 (((rd_T27 t257 x10_4).f0) - ((rd_T27 t257 (ji12)).f0)))))) := ⟨by repeat (first | (with_reducible first | exact HB.out | apply below_alloc | apply pw_below_drewN | apply below_drew1 | refine below_set ?_ GE269.out) | exact HB.out)⟩
                                              (try clear HO_5)
                                              (try clear HO_8)
                                              (try clear HO_9)
                                              (try clear BK269)
                                              (try clear HB)
                                              generalize (wc.setCell ⟨gb269, 0, none⟩ (.int .i64 (wrap64 (((rd_T27 t257 x10_4).f0) - ((rd_T27 t257 (ji12)).f0))))) = w62 at n0_ n1_ n2_ n3_ n4_ ⊢
                                              have HO_5 := n0_
                                              have HO_8 := n1_
                                              have HO_9 := n2_
                                              have BK269 := n3_
                                              have HB := n4_
                                              clear n0_ n1_ n2_ n3_ n4_
                                              have n0_ := Aside0.mk (Kd.R_drew HO_5.out)
                                              have n1_ := Aside0.mk (Kd.R_drew HO_8.out)
                                              have n2_ := Aside0.mk (Kd.R_drew HO_9.out)
                                              have n3_ := Aside0.mk (blk_drew BK269.out)
                                              have n4_ := Aside0.mk (below_drew1 HB.out)
                                              clear HO_5
                                              clear HO_8
                                              clear HO_9
                                              clear BK269
                                              clear HB
                                              have HO_5 := n0_
                                              have HO_8 := n1_
                                              have HO_9 := n2_
                                              have BK269 := n3_
                                              have HB := n4_
                                              clear n0_ n1_ n2_ n3_ n4_
                                              refine start_ (n := 13) (S := fun w' => True) (ds := []) #[false, false, false, false, false, false, false, false, false, false, false, false, false] (by kernel_rfl) rfl rfl trivial (fun hHeld => ?_); refine with_tabW parquetrylaw01_RunesCuts.tab20 parquetrylaw01_RunesCuts.bits20 (fun HT_ HW_ => ?_)
                                              generalize w62.drew = w63 at HO_5 HO_8 HO_9 BK269 HB hHeld ⊢
                                              refine pure_ (i := 0) (N := some 91) (v := ?_) (a' := ?_) #[true, false, false, false, false, false, false, false, false, false, false, false, false] rfl rfl (any_of HT_.out (by kernel_rfl)) (fun _ _ _ h => h) (Or.inl ⟨by rfl, ?_⟩) ?_ ?_
                                              rotate_left
                                              · intro w'
                                                go_simp
                                                with_reducible rfl
                                              rotate_left
                                              · simp only [Act.put, List.setIfInBounds_toArray, List.set_cons_zero, List.set_cons_succ, i64_w, i32_w]
                                                rfl
                                              refine pure_ (i := 1) (N := some 92) (v := ?_) (a' := ?_) #[true, true, false, false, false, false, false, false, false, false, false, false, false] rfl rfl (any_of HT_.out (by kernel_rfl)) (fun _ _ _ h => h) (Or.inl ⟨by rfl, ?_⟩) ?_ ?_
                                              rotate_left
                                              · intro w'
                                                go_simp
                                                with_reducible rfl
                                              rotate_left
                                              · simp only [Act.put, List.setIfInBounds_toArray, List.set_cons_zero, List.set_cons_succ, i64_w, i32_w]
                                                rfl
                                              refine pure_ (i := 2) (N := some 93) (v := ?_) (a' := ?_) #[true, true, true, false, false, false, false, false, false, false, false, false, false] rfl rfl (any_of HT_.out (by kernel_rfl)) (fun _ _ _ h => h) (Or.inl ⟨by rfl, ?_⟩) ?_ ?_
                                              rotate_left
                                              · intro w'
                                                go_simp
                                                with_reducible rfl
                                              rotate_left
                                              · simp only [Act.put, List.setIfInBounds_toArray, List.set_cons_zero, List.set_cons_succ, i64_w, i32_w]
                                                rfl
                                              refine pure_ (i := 3) (N := some 94) (v := ?_) (a' := ?_) #[true, true, true, true, false, false, false, false, false, false, false, false, false] rfl rfl (any_of HT_.out (by kernel_rfl)) (fun _ _ _ h => h) (Or.inl ⟨by rfl, ?_⟩) ?_ ?_
                                              rotate_left
                                              · intro w'
                                                go_simp
                                                with_reducible rfl
                                              rotate_left
                                              · simp only [Act.put, List.setIfInBounds_toArray, List.set_cons_zero, List.set_cons_succ, i64_w, i32_w]
                                                rfl
                                              refine pure_ (i := 4) (N := some 95) (v := undef) (a' := ?_) #[true, true, true, true, true, false, false, false, false, false, false, false, false] rfl rfl (any_of HT_.out (by kernel_rfl)) (fun _ _ _ h => h) (Or.inr ⟨by rfl, rfl⟩) ?_ ?_
                                              rotate_left
                                              · simp only [Act.put, List.setIfInBounds_toArray, List.set_cons_zero, List.set_cons_succ, i64_w, i32_w]
                                                rfl
                                              refine pure_ (i := 5) (N := some 96) (v := undef) (a' := ?_) #[true, true, true, true, true, true, false, false, false, false, false, false, false] rfl rfl (any_of HT_.out (by kernel_rfl)) (fun _ _ _ h => h) (Or.inr ⟨by rfl, rfl⟩) ?_ ?_
                                              rotate_left
                                              · simp only [Act.put, List.setIfInBounds_toArray, List.set_cons_zero, List.set_cons_succ, i64_w, i32_w]
                                                rfl
                                              refine pure_ (i := 6) (N := some 97) (v := undef) (a' := ?_) #[true, true, true, true, true, true, true, false, false, false, false, false, false] rfl rfl (any_of HT_.out (by kernel_rfl)) (fun _ _ _ h => h) (Or.inr ⟨by rfl, rfl⟩) ?_ ?_
                                              rotate_left
                                              · simp only [Act.put, List.setIfInBounds_toArray, List.set_cons_zero, List.set_cons_succ, i64_w, i32_w]
                                                rfl
                                              refine pure_ (i := 7) (N := some 98) (v := undef) (a' := ?_) #[true, true, true, true, true, true, true, true, false, false, false, false, false] rfl rfl (any_of HT_.out (by kernel_rfl)) (fun _ _ _ h => h) (Or.inr ⟨by rfl, rfl⟩) ?_ ?_
                                              rotate_left
                                              · simp only [Act.put, List.setIfInBounds_toArray, List.set_cons_zero, List.set_cons_succ, i64_w, i32_w]
                                                rfl
                                              refine pure_ (i := 8) (N := some 99) (v := undef) (a' := ?_) #[true, true, true, true, true, true, true, true, true, false, false, false, false] rfl rfl (any_of HT_.out (by kernel_rfl)) (fun _ _ _ h => h) (Or.inr ⟨by rfl, rfl⟩) ?_ ?_
                                              rotate_left
                                              · simp only [Act.put, List.setIfInBounds_toArray, List.set_cons_zero, List.set_cons_succ, i64_w, i32_w]
                                                rfl
                                              refine pure_ (i := 9) (N := some 100) (v := undef) (a' := ?_) #[true, true, true, true, true, true, true, true, true, true, false, false, false] rfl rfl (any_of HT_.out (by kernel_rfl)) (fun _ _ _ h => h) (Or.inr ⟨by rfl, rfl⟩) ?_ ?_
                                              rotate_left
                                              · simp only [Act.put, List.setIfInBounds_toArray, List.set_cons_zero, List.set_cons_succ, i64_w, i32_w]
                                                rfl
                                              refine pure_ (i := 10) (N := some 101) (v := undef) (a' := ?_) #[true, true, true, true, true, true, true, true, true, true, true, false, false] rfl rfl (any_of HT_.out (by kernel_rfl)) (fun _ _ _ h => h) (Or.inr ⟨by rfl, rfl⟩) ?_ ?_
                                              rotate_left
                                              · simp only [Act.put, List.setIfInBounds_toArray, List.set_cons_zero, List.set_cons_succ, i64_w, i32_w]
                                                rfl
                                              refine pure_ (i := 11) (N := some 102) (v := undef) (a' := ?_) #[true, true, true, true, true, true, true, true, true, true, true, true, false] rfl rfl (any_of HT_.out (by kernel_rfl)) (fun _ _ _ h => h) (Or.inr ⟨by rfl, rfl⟩) ?_ ?_
                                              rotate_left
                                              · simp only [Act.put, List.setIfInBounds_toArray, List.set_cons_zero, List.set_cons_succ, i64_w, i32_w]
                                                rfl
                                              refine pure_ (i := 12) (N := some 103) (v := ?_) (a' := ?_) #[true, true, true, true, true, true, true, true, true, true, true, true, true] rfl rfl (any_of HT_.out (by kernel_rfl)) (fun _ _ _ h => h) (Or.inl ⟨by rfl, ?_⟩) ?_ ?_
                                              rotate_left
                                              · intro w'
                                                go_simp
                                                with_reducible rfl
                                              rotate_left
                                              · simp only [Act.put, List.setIfInBounds_toArray, List.set_cons_zero, List.set_cons_succ, i64_w, i32_w]
                                                rfl
                                              refine done_ (done_of HT_.out (by kernel_rfl)) ?_
                                              try go_wp2
                                              go_roundg kj36
                                              case measure => have := HJ2.out; have := HJ14.out; have := HJ25.out; have := HK4.out; have := HJ36.out; omega
                                              case rel => exact ⟨(wrap64 (x10_4 + 1)), (by first | rfl | (simp; done) | (simp [*]; done)), H', ⟨by have := HJ2.out; have := HJ14.out; have := HJ25.out; have := HK4.out; have := HJ36.out; omega⟩, ⟨by (with_reducible repeat (first | apply Kd.R_alloc | apply Kd.R_drewN | apply Kd.R_drew)); exact Kd.R_mono HO_5.out (fun _ hk => ⟨hk.1, hk.2.1⟩)⟩, ⟨by (with_reducible repeat (first | apply Kd.R_alloc | apply Kd.R_drewN | apply Kd.R_drew)); exact Kd.R_mono HO_8.out (fun _ hk => ⟨hk.1, hk.2.1⟩)⟩, ⟨by (with_reducible repeat (first | apply Kd.R_alloc | apply Kd.R_drewN | apply Kd.R_drew)); exact Kd.R_mono HO_9.out (fun _ hk => ⟨hk.1, hk.2.1⟩)⟩, ⟨by repeat (first | (with_reducible first | exact HB.out | apply below_alloc | apply pw_below_drewN | apply below_drew1 | refine below_set ?_ GE269.out) | exact HB.out)⟩⟩
                                    · rw [if_neg c36] at H
                                      exact absurd H (by simp)
                                  · rw [if_neg c35] at H
                                    have c35b0 : decide (x10_4 < (t257.length : Int)) = false := decide_eq_false c35
                                    clear c35
                                    replace H := Option.bind_eq_some_iff.mp H
                                    obtain ⟨t267, A640, H⟩ := H
                                    replace H : (some t267) = some r := H
                                    have A64 := Aside0.mk A640
                                    clear A640
                                    obtain rfl := Option.some.inj H
                                    go_wp2_with (first | ((with_reducible refine gate_callee (f := 14) rfl ?_); refine goesL_ (some 104) rfl rfl Try.func14 (by kernel_rfl) rfl #[] rfl (by (try simp only [List.map_toArray, List.map_cons, List.map_nil]); first | done | rfl | (simp only [List.length_drop, List.length_take]; rfl)) ?_; (with_reducible refine (parquetrylaw01_awake.calls k4  t267 _ A64.out).mono ?_); rintro e w65 ⟨rfl, hb⟩; refine ⟨_, rfl, ?_⟩; have n0_ := Aside0.mk (Kd.R_below (by (with_reducible repeat (first | apply Kd.R_alloc | apply Kd.R_drewN | apply Kd.R_drew)); exact HO_5.out) hb); have n1_ := Aside0.mk (Kd.R_below (by (with_reducible repeat (first | apply Kd.R_alloc | apply Kd.R_drewN | apply Kd.R_drew)); exact HO_8.out) hb); have n2_ := Aside0.mk (Kd.R_below (by (with_reducible repeat (first | apply Kd.R_alloc | apply Kd.R_drewN | apply Kd.R_drew)); exact HO_9.out) hb); have n3_ := Aside0.mk (below_step (by repeat (first | (with_reducible first | exact HB.out | apply below_alloc | apply pw_below_drewN | apply below_drew1) | exact HB.out)) hb); clear HO_5; clear HO_8; clear HO_9; clear HB; have HO_5 := n0_; have HO_8 := n1_; have HO_9 := n2_; have HB := n3_; clear n0_ n1_ n2_ n3_; (try clear hb); (try clear hb2); (try clear hk); (try clear hi)))
                                    go_ret
                                    exact ⟨by first | rfl | (simp [errW_none, errW_some] <;> rfl) | (simp only [← hji12]; first | rfl | (simp [errW_none, errW_some] <;> rfl)) | (simp [*, errW_none, errW_some] <;> rfl), by repeat (first | (with_reducible first | exact HB.out | apply below_alloc | apply pw_below_drewN | apply below_drew1) | exact HB.out)⟩
                      · rw [if_neg c21] at H
                        exact absurd H (by simp)
                    · rw [if_neg c20] at H
                      exact absurd H (by simp)
            · rw [if_neg c14] at H
              exact absurd H (by simp)
          · rw [if_neg c13] at H
            exact absurd H (by simp)

/-- THE ONE PURE STATEMENT of parquetrylaw01_RunesCuts: yours. -/
def parquetrylaw01_RunesCuts.Pure : Prop := ∀ (a0 : ByteArray) (a1 : Int), a0.size ≤ 140737488351232 → (Lit.int .i64 a1).wf = true → ∃ k, parquetrylaw01_RunesCuts.f k a0 a1 = some true
theorem parquetrylaw01_RunesCuts.walk (P : parquetrylaw01_RunesCuts.Pure) (a0 : ByteArray) (a1 : Int) (w : World) (w0 : a0.size ≤ 140737488351232) (w1 : (Lit.int .i64 a1).wf = true) :
    Calls Try.prog 8 #[.string a0, .int .i64 a1] w fun e w' => e = .returned (.bool true) ∧ Below w.heap.size w w' := by
  obtain ⟨k, h⟩ := P a0 a1 w0 w1
  refine (parquetrylaw01_RunesCuts.calls k a0 a1 true w h).mono ?_
  rintro e w' ⟨rfl, hd⟩
  exact ⟨rfl, hd⟩

end Go.Proofs.Ytdelmgoapdajpaa.PC01
