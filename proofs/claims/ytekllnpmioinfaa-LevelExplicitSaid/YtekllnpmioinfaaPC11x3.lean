/- For the laws of the group C11: the Lean functions that the Go functions compute, and proofs that they do. Written by wip/hprint.py of this repo over the kit's printer; nothing here is trusted: Lean checks it. -/
import Derived.Test.YtekllnpmioinfaaPC11x0
import Derived.Test.YtekllnpmioinfaaPC11x1
import Derived.Test.YtekllnpmioinfaaPC11x2
namespace Go.Proofs.Ytekllnpmioinfaa.PC11
open Go.RowKit Go.Proofs.YtekllnpmioinfaaW.PrintWords Go.Proofs.YtekllnpmioinfaaW.PrintLast Go.Proofs.YtekllnpmioinfaaW.PrintMore
attribute [local go_sem] max2_int min2_int max_two min_two max_three min_three max_four min_four   -- for this text's walks alone
set_option linter.unusedVariables false
set_option linter.unusedSimpArgs false

/-! ### parquetrylaw11_is: function 39 -/
def parquetrylaw11_is.f (k : Nat) (l0 : List Int) (a1 : Int) (l2 : List Int) (l3 : List Int) : Option (Bool) := (level_Explicit.f k l0 a1).bind fun bt121 => ((parquetryref02_Same.f k bt121.1 l2).bind fun t127 => (if t127 = true then ((parquetryref02_Same.f k bt121.2 l3).bind fun t128 => (some t128)) else (some false)))
theorem parquetrylaw11_is.mono : ∀ a0 a1 a2 a3 k, LeO (parquetrylaw11_is.f k a0 a1 a2 a3) (parquetrylaw11_is.f (k + 1) a0 a1 a2 a3) := by
 intro a0 a1 a2 a3 k
 unfold parquetrylaw11_is.f
 repeat' first
   | (with_reducible exact level_Explicit.mono _ _ _)
   | (with_reducible exact parquetryref02_Same.mono _ _ _)
   | (with_reducible exact LeO.refl _)
   | (with_reducible exact LeO.none _)
   | (with_reducible refine LeO.ite ?_ ?_)
   | (with_reducible refine LeO.bind ?_ (fun _ => ?_))
   | exact level_Explicit.mono _ _ _
   | exact parquetryref02_Same.mono _ _ _
   | exact LeO.none _
   | refine LeO.ite ?_ ?_
   | refine LeO.bind ?_ (fun _ => ?_)
set_option maxHeartbeats 8000000 in
set_option maxRecDepth 100000 in
theorem parquetrylaw11_is.calls (k : Nat) (A0 : Option Addr) (c0 : Nat) (l0 : List Int) (a1 : Int) (A2 : Option Addr) (c2 : Nat) (l2 : List Int) (A3 : Option Addr) (c3 : Nat) (l3 : List Int) (r : Bool) (w : World) (hr0 : Kd.C (Kd.int .i64) w A0 l0.length l0) (hc0 : l0.length ≤ c0) (hr2 : Kd.C (Kd.int .i64) w A2 l2.length l2) (hc2 : l2.length ≤ c2) (hr3 : Kd.C (Kd.int .i64) w A3 l3.length l3) (hc3 : l3.length ≤ c3) (h : parquetrylaw11_is.f k l0 a1 l2 l3 = some r) :
  Calls Try.prog 39 #[.slice A0 l0.length c0, .int .i64 a1, .slice A2 l2.length c2, .slice A3 l3.length c3] w fun e w' => e = .returned (.bool r) ∧ Below w.heap.size w w' := by
 have HR0 := Aside0.mk hr0
 have HC0 := Aside0.mk hc0
 clear hr0 hc0
 have HR2 := Aside0.mk hr2
 have HC2 := Aside0.mk hc2
 clear hr2 hc2
 have HR3 := Aside0.mk hr3
 have HC3 := Aside0.mk hc3
 clear hr3 hc3
 have HB := Aside0.mk (Below.refl w.heap.size w)
 have H : ((level_Explicit.f k l0 a1).bind fun bt121 => ((parquetryref02_Same.f k bt121.1 l2).bind fun t127 => (if t127 = true then ((parquetryref02_Same.f k bt121.2 l3).bind fun t128 => (some t128)) else (some false)))) = some r := h
 clear h
 replace H := Option.bind_eq_some_iff.mp H
 obtain ⟨⟨t121, t122⟩, A50, H⟩ := H
 replace H : ((parquetryref02_Same.f k t121 l2).bind fun t127 => (if t127 = true then ((parquetryref02_Same.f k t122 l3).bind fun t128 => (some t128)) else (some false))) = some r := H
 have A5 := Aside0.mk A50
 clear A50
 replace H := Option.bind_eq_some_iff.mp H
 obtain ⟨t127, A60, H⟩ := H
 replace H : (if t127 = true then ((parquetryref02_Same.f k t122 l3).bind fun t128 => (some t128)) else (some false)) = some r := H
 have A6 := Aside0.mk A60
 clear A60
 by_cases c7 : t127 = true
 ·
  subst c7
  have H1 : ((parquetryref02_Same.f k t122 l3).bind fun t128 => (some t128)) = some r := by rw [if_pos rfl] at H; exact H
  clear H
  have H := H1
  clear H1
  replace H := Option.bind_eq_some_iff.mp H
  obtain ⟨t128, A80, H⟩ := H
  replace H : (some t128) = some r := H
  have A8 := Aside0.mk A80
  clear A80
  obtain rfl := Option.some.inj H
  go_enter Try.func39, Try.ntmps39
  go_wp2_with (first | ((with_reducible refine gate_callee (f := 26) rfl ?_); refine goesL_ (some 14) rfl rfl Try.func26 (by kernel_rfl) rfl #[.slice A0 l0.length c0, .int .i64 a1] rfl (by (try simp only [List.map_toArray, List.map_cons, List.map_nil]); first | done | rfl | (simp only [List.length_drop, List.length_take]; rfl)) ?_; (with_reducible refine (level_Explicit.calls k _ _ l0 a1 t121 t122 _ ?side1 ?side2 A5.out).mono ?_); (case side1 => repeat (first | exact HR0.out | (with_reducible refine Kd.C_alloc ?_ _) | (with_reducible refine Kd.C_drewN ?_ _) | (with_reducible refine Kd.C_drew ?_))); (case side2 => exact HC0.out); rintro e w9 ⟨v123, v125, rfl, ho0, ho1, hb⟩; refine ⟨_, rfl, ?_⟩; have n0_ := Aside0.mk (Kd.R_lower ho0 (below_size (by repeat (first | (with_reducible first | exact HB.out | apply below_alloc | apply pw_below_drewN | apply below_drew1) | exact HB.out)))); have n1_ := Aside0.mk (Kd.R_lower ho1 (below_size (by repeat (first | (with_reducible first | exact HB.out | apply below_alloc | apply pw_below_drewN | apply below_drew1) | exact HB.out)))); have n2_ := Aside0.mk (below_step (by repeat (first | (with_reducible first | exact HB.out | apply below_alloc | apply pw_below_drewN | apply below_drew1) | exact HB.out)) hb); clear HB; have HO124 := n0_; have HO126 := n1_; have HB := n2_; clear n0_ n1_ n2_; (try clear hb); (try clear hb2); (try clear hk); (try clear hi); (try clear ho0); (try clear ho1); obtain ⟨Ao10, co10, eo10⟩ := Kd.R_slice HO124.out; subst eo10) | ((with_reducible refine gate_callee (f := 15) rfl ?_); refine goesL_ (some 19) rfl rfl Try.func15 (by kernel_rfl) rfl #[.slice Ao10 t121.length co10, .slice A2 l2.length c2] rfl (by (try simp only [List.map_toArray, List.map_cons, List.map_nil]); first | done | rfl | (simp only [List.length_drop, List.length_take]; rfl)) ?_; (with_reducible refine (parquetryref02_Same.calls k _ _ t121 _ _ l2 true _ ?side1 ?side2 ?side3 ?side4 A6.out).mono ?_); (case side1 => repeat (first | exact (Kd.R_reads' HO124.out).2.2 | (with_reducible refine Kd.C_alloc ?_ _) | (with_reducible refine Kd.C_drewN ?_ _) | (with_reducible refine Kd.C_drew ?_))); (case side2 => exact (Kd.R_reads' HO124.out).2.1); (case side3 => repeat (first | exact (Kd.C_below HR2.out HB.out) | (with_reducible refine Kd.C_alloc ?_ _) | (with_reducible refine Kd.C_drewN ?_ _) | (with_reducible refine Kd.C_drew ?_))); (case side4 => exact HC2.out); rintro e w' ⟨rfl, ⟨nd, rfl⟩⟩; refine ⟨_, rfl, ?_⟩; obtain ⟨Ao11, co11, eo11⟩ := Kd.R_slice HO126.out; subst eo11) | (go_at_call 15; (with_reducible refine (parquetryref02_Same.calls k _ _ t122 _ _ l3 t128 _ ?side1 ?side2 ?side3 ?side4 A8.out).mono ?_); (case side1 => repeat (first | exact (Kd.R_reads' HO126.out).2.2 | (with_reducible refine Kd.C_alloc ?_ _) | (with_reducible refine Kd.C_drewN ?_ _) | (with_reducible refine Kd.C_drew ?_))); (case side2 => exact (Kd.R_reads' HO126.out).2.1); (case side3 => repeat (first | exact (Kd.C_below HR3.out (by repeat (first | (with_reducible first | exact HB.out | apply below_alloc | apply pw_below_drewN | apply below_drew1) | exact HB.out))) | (with_reducible refine Kd.C_alloc ?_ _) | (with_reducible refine Kd.C_drewN ?_ _) | (with_reducible refine Kd.C_drew ?_))); (case side4 => exact HC3.out); rintro e w' ⟨rfl, ⟨nd, rfl⟩⟩))
  go_ret
  exact ⟨by first | rfl | (simp [errW_none, errW_some] <;> rfl) | (simp [*, errW_none, errW_some] <;> rfl), by repeat (first | (with_reducible first | exact HB.out | apply below_alloc | apply pw_below_drewN | apply below_drew1) | exact HB.out)⟩
 ·
  replace c7 := Bool.eq_false_iff.mpr c7
  subst c7
  have H1 : (some false) = some r := by rw [if_neg (show ¬ (false = true) by decide)] at H; exact H
  clear H
  have H := H1
  clear H1
  obtain rfl := Option.some.inj H
  go_enter Try.func39, Try.ntmps39
  go_wp2_with (first | ((with_reducible refine gate_callee (f := 26) rfl ?_); refine goesL_ (some 14) rfl rfl Try.func26 (by kernel_rfl) rfl #[.slice A0 l0.length c0, .int .i64 a1] rfl (by (try simp only [List.map_toArray, List.map_cons, List.map_nil]); first | done | rfl | (simp only [List.length_drop, List.length_take]; rfl)) ?_; (with_reducible refine (level_Explicit.calls k _ _ l0 a1 t121 t122 _ ?side1 ?side2 A5.out).mono ?_); (case side1 => repeat (first | exact HR0.out | (with_reducible refine Kd.C_alloc ?_ _) | (with_reducible refine Kd.C_drewN ?_ _) | (with_reducible refine Kd.C_drew ?_))); (case side2 => exact HC0.out); rintro e w12 ⟨v123, v125, rfl, ho0, ho1, hb⟩; refine ⟨_, rfl, ?_⟩; have n0_ := Aside0.mk (Kd.R_lower ho0 (below_size (by repeat (first | (with_reducible first | exact HB.out | apply below_alloc | apply pw_below_drewN | apply below_drew1) | exact HB.out)))); have n1_ := Aside0.mk (Kd.R_lower ho1 (below_size (by repeat (first | (with_reducible first | exact HB.out | apply below_alloc | apply pw_below_drewN | apply below_drew1) | exact HB.out)))); have n2_ := Aside0.mk (below_step (by repeat (first | (with_reducible first | exact HB.out | apply below_alloc | apply pw_below_drewN | apply below_drew1) | exact HB.out)) hb); clear HB; have HO124 := n0_; have HO126 := n1_; have HB := n2_; clear n0_ n1_ n2_; (try clear hb); (try clear hb2); (try clear hk); (try clear hi); (try clear ho0); (try clear ho1); obtain ⟨Ao13, co13, eo13⟩ := Kd.R_slice HO124.out; subst eo13) | ((with_reducible refine gate_callee (f := 15) rfl ?_); refine goesL_ (some 19) rfl rfl Try.func15 (by kernel_rfl) rfl #[.slice Ao13 t121.length co13, .slice A2 l2.length c2] rfl (by (try simp only [List.map_toArray, List.map_cons, List.map_nil]); first | done | rfl | (simp only [List.length_drop, List.length_take]; rfl)) ?_; (with_reducible refine (parquetryref02_Same.calls k _ _ t121 _ _ l2 false _ ?side1 ?side2 ?side3 ?side4 A6.out).mono ?_); (case side1 => repeat (first | exact (Kd.R_reads' HO124.out).2.2 | (with_reducible refine Kd.C_alloc ?_ _) | (with_reducible refine Kd.C_drewN ?_ _) | (with_reducible refine Kd.C_drew ?_))); (case side2 => exact (Kd.R_reads' HO124.out).2.1); (case side3 => repeat (first | exact (Kd.C_below HR2.out HB.out) | (with_reducible refine Kd.C_alloc ?_ _) | (with_reducible refine Kd.C_drewN ?_ _) | (with_reducible refine Kd.C_drew ?_))); (case side4 => exact HC2.out); rintro e w' ⟨rfl, ⟨nd, rfl⟩⟩; refine ⟨_, rfl, ?_⟩))
  go_ret
  exact ⟨by first | rfl | (simp [errW_none, errW_some] <;> rfl) | (simp [*, errW_none, errW_some] <;> rfl), by repeat (first | (with_reducible first | exact HB.out | apply below_alloc | apply pw_below_drewN | apply below_drew1) | exact HB.out)⟩

/-! ### parquetrylaw11_awake: function 25 -/
def parquetrylaw11_awake.f (k : Nat)  : Option (Bool) := (some (([0, 16, 0, 18, 0] : List Int) : List Int)).bind fun y129 => ((some (([20, 0, 22, 1] : List Int) : List Int)).bind fun y135 => ((parquetrylaw11_is.f k y129 0 (([0, (-1), 1, (-1), 0] : List Int)) y129).bind fun t144 => (if t144 = true then ((parquetrylaw11_is.f k (([17, 0, 18, 0] : List Int)) 0 (([(-1), 1, (-1), 0] : List Int)) (([17, 1, 18, 0] : List Int))).bind fun t151 => (if t151 = true then ((parquetrylaw11_is.f k y135 1 (([1, 3, 1, 1] : List Int)) y135).bind fun t155 => (if t155 = true then ((parquetrylaw11_is.f k (([15, 21, 1, 22] : List Int)) 0 (([(-1), 2, 3, 2] : List Int)) (([15, 0, 1, 0] : List Int))).bind fun t162 => (if t162 = true then ((parquetrylaw11_is.f k (([0] : List Int)) 2 ([] : List Int) ([] : List Int)).bind fun t166 => (if t166 = true then ((level_Removed.f 9).bind fun t167 => (if t167 = true then ((level_Removed.f 22).bind fun t168 => (some (!t168))) else (none))) else (none))) else (none))) else (none))) else (none))) else (none))))
theorem parquetrylaw11_awake.mono : ∀ k, LeO (parquetrylaw11_awake.f k ) (parquetrylaw11_awake.f (k + 1) ) := by
 intro  k
 unfold parquetrylaw11_awake.f
 repeat' first
   | (with_reducible exact parquetrylaw11_is.mono _ _ _ _ _)
   | (with_reducible exact LeO.refl _)
   | (with_reducible exact LeO.none _)
   | (with_reducible refine LeO.ite ?_ ?_)
   | (with_reducible refine LeO.bind ?_ (fun _ => ?_))
   | exact parquetrylaw11_is.mono _ _ _ _ _
   | exact LeO.none _
   | refine LeO.ite ?_ ?_
   | refine LeO.bind ?_ (fun _ => ?_)
set_option maxHeartbeats 8000000 in
set_option maxRecDepth 100000 in
theorem parquetrylaw11_awake.calls (k : Nat)  (r : Bool) (w : World) (h : parquetrylaw11_awake.f k  = some r) :
  Calls Try.prog 25 #[] w fun e w' => e = .returned (.bool r) ∧ Below w.heap.size w w' := by
 have HB := Aside0.mk (Below.refl w.heap.size w)
 have H : ((some (([0, 16, 0, 18, 0] : List Int) : List Int)).bind fun y129 => ((some (([20, 0, 22, 1] : List Int) : List Int)).bind fun y135 => ((parquetrylaw11_is.f k y129 0 (([0, (-1), 1, (-1), 0] : List Int)) y129).bind fun t144 => (if t144 = true then ((parquetrylaw11_is.f k (([17, 0, 18, 0] : List Int)) 0 (([(-1), 1, (-1), 0] : List Int)) (([17, 1, 18, 0] : List Int))).bind fun t151 => (if t151 = true then ((parquetrylaw11_is.f k y135 1 (([1, 3, 1, 1] : List Int)) y135).bind fun t155 => (if t155 = true then ((parquetrylaw11_is.f k (([15, 21, 1, 22] : List Int)) 0 (([(-1), 2, 3, 2] : List Int)) (([15, 0, 1, 0] : List Int))).bind fun t162 => (if t162 = true then ((parquetrylaw11_is.f k (([0] : List Int)) 2 ([] : List Int) ([] : List Int)).bind fun t166 => (if t166 = true then ((level_Removed.f 9).bind fun t167 => (if t167 = true then ((level_Removed.f 22).bind fun t168 => (some (!t168))) else (none))) else (none))) else (none))) else (none))) else (none))) else (none))))) = some r := h
 clear h
 obtain ⟨y129, hy129⟩ : ∃ y_ : List Int, y_ = (([0, 16, 0, 18, 0] : List Int)) := ⟨_, rfl⟩
 replace H : ((some (([20, 0, 22, 1] : List Int) : List Int)).bind fun y135 => ((parquetrylaw11_is.f k y129 0 (([0, (-1), 1, (-1), 0] : List Int)) y129).bind fun t144 => (if t144 = true then ((parquetrylaw11_is.f k (([17, 0, 18, 0] : List Int)) 0 (([(-1), 1, (-1), 0] : List Int)) (([17, 1, 18, 0] : List Int))).bind fun t151 => (if t151 = true then ((parquetrylaw11_is.f k y135 1 (([1, 3, 1, 1] : List Int)) y135).bind fun t155 => (if t155 = true then ((parquetrylaw11_is.f k (([15, 21, 1, 22] : List Int)) 0 (([(-1), 2, 3, 2] : List Int)) (([15, 0, 1, 0] : List Int))).bind fun t162 => (if t162 = true then ((parquetrylaw11_is.f k (([0] : List Int)) 2 ([] : List Int) ([] : List Int)).bind fun t166 => (if t166 = true then ((level_Removed.f 9).bind fun t167 => (if t167 = true then ((level_Removed.f 22).bind fun t168 => (some (!t168))) else (none))) else (none))) else (none))) else (none))) else (none))) else (none)))) = some r := by first | (rw [hy129]; with_reducible exact H) | (have H2_ := (Option.bind_some _ _).symm.trans H; rw [hy129]; with_reducible exact H2_) | (have H2_ := (Option.bind_some _ _).symm.trans H; with_reducible exact H2_) | with_reducible exact H | (rw [hy129]; exact H) | exact H
 have Ny129 := Aside0.mk hy129
 clear hy129
 obtain ⟨y132, hy132⟩ : ∃ y_ : List Int, y_ = (([17, 0, 18, 0] : List Int)) := ⟨_, rfl⟩
 replace H : ((some (([20, 0, 22, 1] : List Int) : List Int)).bind fun y135 => ((parquetrylaw11_is.f k y129 0 (([0, (-1), 1, (-1), 0] : List Int)) y129).bind fun t144 => (if t144 = true then ((parquetrylaw11_is.f k y132 0 (([(-1), 1, (-1), 0] : List Int)) (([17, 1, 18, 0] : List Int))).bind fun t151 => (if t151 = true then ((parquetrylaw11_is.f k y135 1 (([1, 3, 1, 1] : List Int)) y135).bind fun t155 => (if t155 = true then ((parquetrylaw11_is.f k (([15, 21, 1, 22] : List Int)) 0 (([(-1), 2, 3, 2] : List Int)) (([15, 0, 1, 0] : List Int))).bind fun t162 => (if t162 = true then ((parquetrylaw11_is.f k (([0] : List Int)) 2 ([] : List Int) ([] : List Int)).bind fun t166 => (if t166 = true then ((level_Removed.f 9).bind fun t167 => (if t167 = true then ((level_Removed.f 22).bind fun t168 => (some (!t168))) else (none))) else (none))) else (none))) else (none))) else (none))) else (none)))) = some r := by first | (rw [hy132]; with_reducible exact H) | (have H2_ := (Option.bind_some _ _).symm.trans H; rw [hy132]; with_reducible exact H2_) | (have H2_ := (Option.bind_some _ _).symm.trans H; with_reducible exact H2_) | with_reducible exact H | (rw [hy132]; exact H) | exact H
 have Ny132 := Aside0.mk hy132
 clear hy132
 obtain ⟨y135, hy135⟩ : ∃ y_ : List Int, y_ = (([20, 0, 22, 1] : List Int)) := ⟨_, rfl⟩
 replace H : ((parquetrylaw11_is.f k y129 0 (([0, (-1), 1, (-1), 0] : List Int)) y129).bind fun t144 => (if t144 = true then ((parquetrylaw11_is.f k y132 0 (([(-1), 1, (-1), 0] : List Int)) (([17, 1, 18, 0] : List Int))).bind fun t151 => (if t151 = true then ((parquetrylaw11_is.f k y135 1 (([1, 3, 1, 1] : List Int)) y135).bind fun t155 => (if t155 = true then ((parquetrylaw11_is.f k (([15, 21, 1, 22] : List Int)) 0 (([(-1), 2, 3, 2] : List Int)) (([15, 0, 1, 0] : List Int))).bind fun t162 => (if t162 = true then ((parquetrylaw11_is.f k (([0] : List Int)) 2 ([] : List Int) ([] : List Int)).bind fun t166 => (if t166 = true then ((level_Removed.f 9).bind fun t167 => (if t167 = true then ((level_Removed.f 22).bind fun t168 => (some (!t168))) else (none))) else (none))) else (none))) else (none))) else (none))) else (none))) = some r := by first | (rw [hy135]; with_reducible exact H) | (have H2_ := (Option.bind_some _ _).symm.trans H; rw [hy135]; with_reducible exact H2_) | (have H2_ := (Option.bind_some _ _).symm.trans H; with_reducible exact H2_) | with_reducible exact H | (rw [hy135]; exact H) | exact H
 have Ny135 := Aside0.mk hy135
 clear hy135
 obtain ⟨y138, hy138⟩ : ∃ y_ : List Int, y_ = (([15, 21, 1, 22] : List Int)) := ⟨_, rfl⟩
 replace H : ((parquetrylaw11_is.f k y129 0 (([0, (-1), 1, (-1), 0] : List Int)) y129).bind fun t144 => (if t144 = true then ((parquetrylaw11_is.f k y132 0 (([(-1), 1, (-1), 0] : List Int)) (([17, 1, 18, 0] : List Int))).bind fun t151 => (if t151 = true then ((parquetrylaw11_is.f k y135 1 (([1, 3, 1, 1] : List Int)) y135).bind fun t155 => (if t155 = true then ((parquetrylaw11_is.f k y138 0 (([(-1), 2, 3, 2] : List Int)) (([15, 0, 1, 0] : List Int))).bind fun t162 => (if t162 = true then ((parquetrylaw11_is.f k (([0] : List Int)) 2 ([] : List Int) ([] : List Int)).bind fun t166 => (if t166 = true then ((level_Removed.f 9).bind fun t167 => (if t167 = true then ((level_Removed.f 22).bind fun t168 => (some (!t168))) else (none))) else (none))) else (none))) else (none))) else (none))) else (none))) = some r := by first | (rw [hy138]; with_reducible exact H) | (have H2_ := (Option.bind_some _ _).symm.trans H; rw [hy138]; with_reducible exact H2_) | (have H2_ := (Option.bind_some _ _).symm.trans H; with_reducible exact H2_) | with_reducible exact H | (rw [hy138]; exact H) | exact H
 have Ny138 := Aside0.mk hy138
 clear hy138
 obtain ⟨y141, hy141⟩ : ∃ y_ : List Int, y_ = (([0, (-1), 1, (-1), 0] : List Int)) := ⟨_, rfl⟩
 replace H : ((parquetrylaw11_is.f k y129 0 y141 y129).bind fun t144 => (if t144 = true then ((parquetrylaw11_is.f k y132 0 (([(-1), 1, (-1), 0] : List Int)) (([17, 1, 18, 0] : List Int))).bind fun t151 => (if t151 = true then ((parquetrylaw11_is.f k y135 1 (([1, 3, 1, 1] : List Int)) y135).bind fun t155 => (if t155 = true then ((parquetrylaw11_is.f k y138 0 (([(-1), 2, 3, 2] : List Int)) (([15, 0, 1, 0] : List Int))).bind fun t162 => (if t162 = true then ((parquetrylaw11_is.f k (([0] : List Int)) 2 ([] : List Int) ([] : List Int)).bind fun t166 => (if t166 = true then ((level_Removed.f 9).bind fun t167 => (if t167 = true then ((level_Removed.f 22).bind fun t168 => (some (!t168))) else (none))) else (none))) else (none))) else (none))) else (none))) else (none))) = some r := by first | (rw [hy141]; with_reducible exact H) | (have H2_ := (Option.bind_some _ _).symm.trans H; rw [hy141]; with_reducible exact H2_) | (have H2_ := (Option.bind_some _ _).symm.trans H; with_reducible exact H2_) | with_reducible exact H | (rw [hy141]; exact H) | exact H
 have Ny141 := Aside0.mk hy141
 clear hy141
 replace H := Option.bind_eq_some_iff.mp H
 obtain ⟨t144, A10, H⟩ := H
 try dsimp only at H
 have A1 := Aside0.mk A10
 clear A10
 by_cases c2 : t144 = true
 ·
  subst c2
  rw [if_pos rfl] at H
  obtain ⟨y145, hy145⟩ : ∃ y_ : List Int, y_ = (([(-1), 1, (-1), 0] : List Int)) := ⟨_, rfl⟩
  replace H : ((parquetrylaw11_is.f k y132 0 y145 (([17, 1, 18, 0] : List Int))).bind fun t151 => (if t151 = true then ((parquetrylaw11_is.f k y135 1 (([1, 3, 1, 1] : List Int)) y135).bind fun t155 => (if t155 = true then ((parquetrylaw11_is.f k y138 0 (([(-1), 2, 3, 2] : List Int)) (([15, 0, 1, 0] : List Int))).bind fun t162 => (if t162 = true then ((parquetrylaw11_is.f k (([0] : List Int)) 2 ([] : List Int) ([] : List Int)).bind fun t166 => (if t166 = true then ((level_Removed.f 9).bind fun t167 => (if t167 = true then ((level_Removed.f 22).bind fun t168 => (some (!t168))) else (none))) else (none))) else (none))) else (none))) else (none))) = some r := by first | (rw [hy145]; with_reducible exact H) | (have H2_ := (Option.bind_some _ _).symm.trans H; rw [hy145]; with_reducible exact H2_) | (have H2_ := (Option.bind_some _ _).symm.trans H; with_reducible exact H2_) | with_reducible exact H | (rw [hy145]; exact H) | exact H
  have Ny145 := Aside0.mk hy145
  clear hy145
  obtain ⟨y148, hy148⟩ : ∃ y_ : List Int, y_ = (([17, 1, 18, 0] : List Int)) := ⟨_, rfl⟩
  replace H : ((parquetrylaw11_is.f k y132 0 y145 y148).bind fun t151 => (if t151 = true then ((parquetrylaw11_is.f k y135 1 (([1, 3, 1, 1] : List Int)) y135).bind fun t155 => (if t155 = true then ((parquetrylaw11_is.f k y138 0 (([(-1), 2, 3, 2] : List Int)) (([15, 0, 1, 0] : List Int))).bind fun t162 => (if t162 = true then ((parquetrylaw11_is.f k (([0] : List Int)) 2 ([] : List Int) ([] : List Int)).bind fun t166 => (if t166 = true then ((level_Removed.f 9).bind fun t167 => (if t167 = true then ((level_Removed.f 22).bind fun t168 => (some (!t168))) else (none))) else (none))) else (none))) else (none))) else (none))) = some r := by first | (rw [hy148]; with_reducible exact H) | (have H2_ := (Option.bind_some _ _).symm.trans H; rw [hy148]; with_reducible exact H2_) | (have H2_ := (Option.bind_some _ _).symm.trans H; with_reducible exact H2_) | with_reducible exact H | (rw [hy148]; exact H) | exact H
  have Ny148 := Aside0.mk hy148
  clear hy148
  replace H := Option.bind_eq_some_iff.mp H
  obtain ⟨t151, A30, H⟩ := H
  try dsimp only at H
  have A3 := Aside0.mk A30
  clear A30
  by_cases c4 : t151 = true
  ·
   subst c4
   rw [if_pos rfl] at H
   obtain ⟨y152, hy152⟩ : ∃ y_ : List Int, y_ = (([1, 3, 1, 1] : List Int)) := ⟨_, rfl⟩
   replace H : ((parquetrylaw11_is.f k y135 1 y152 y135).bind fun t155 => (if t155 = true then ((parquetrylaw11_is.f k y138 0 (([(-1), 2, 3, 2] : List Int)) (([15, 0, 1, 0] : List Int))).bind fun t162 => (if t162 = true then ((parquetrylaw11_is.f k (([0] : List Int)) 2 ([] : List Int) ([] : List Int)).bind fun t166 => (if t166 = true then ((level_Removed.f 9).bind fun t167 => (if t167 = true then ((level_Removed.f 22).bind fun t168 => (some (!t168))) else (none))) else (none))) else (none))) else (none))) = some r := by first | (rw [hy152]; with_reducible exact H) | (have H2_ := (Option.bind_some _ _).symm.trans H; rw [hy152]; with_reducible exact H2_) | (have H2_ := (Option.bind_some _ _).symm.trans H; with_reducible exact H2_) | with_reducible exact H | (rw [hy152]; exact H) | exact H
   have Ny152 := Aside0.mk hy152
   clear hy152
   replace H := Option.bind_eq_some_iff.mp H
   obtain ⟨t155, A50, H⟩ := H
   try dsimp only at H
   have A5 := Aside0.mk A50
   clear A50
   by_cases c6 : t155 = true
   ·
    subst c6
    rw [if_pos rfl] at H
    obtain ⟨y156, hy156⟩ : ∃ y_ : List Int, y_ = (([(-1), 2, 3, 2] : List Int)) := ⟨_, rfl⟩
    replace H : ((parquetrylaw11_is.f k y138 0 y156 (([15, 0, 1, 0] : List Int))).bind fun t162 => (if t162 = true then ((parquetrylaw11_is.f k (([0] : List Int)) 2 ([] : List Int) ([] : List Int)).bind fun t166 => (if t166 = true then ((level_Removed.f 9).bind fun t167 => (if t167 = true then ((level_Removed.f 22).bind fun t168 => (some (!t168))) else (none))) else (none))) else (none))) = some r := by first | (rw [hy156]; with_reducible exact H) | (have H2_ := (Option.bind_some _ _).symm.trans H; rw [hy156]; with_reducible exact H2_) | (have H2_ := (Option.bind_some _ _).symm.trans H; with_reducible exact H2_) | with_reducible exact H | (rw [hy156]; exact H) | exact H
    have Ny156 := Aside0.mk hy156
    clear hy156
    obtain ⟨y159, hy159⟩ : ∃ y_ : List Int, y_ = (([15, 0, 1, 0] : List Int)) := ⟨_, rfl⟩
    replace H : ((parquetrylaw11_is.f k y138 0 y156 y159).bind fun t162 => (if t162 = true then ((parquetrylaw11_is.f k (([0] : List Int)) 2 ([] : List Int) ([] : List Int)).bind fun t166 => (if t166 = true then ((level_Removed.f 9).bind fun t167 => (if t167 = true then ((level_Removed.f 22).bind fun t168 => (some (!t168))) else (none))) else (none))) else (none))) = some r := by first | (rw [hy159]; with_reducible exact H) | (have H2_ := (Option.bind_some _ _).symm.trans H; rw [hy159]; with_reducible exact H2_) | (have H2_ := (Option.bind_some _ _).symm.trans H; with_reducible exact H2_) | with_reducible exact H | (rw [hy159]; exact H) | exact H
    have Ny159 := Aside0.mk hy159
    clear hy159
    replace H := Option.bind_eq_some_iff.mp H
    obtain ⟨t162, A70, H⟩ := H
    try dsimp only at H
    have A7 := Aside0.mk A70
    clear A70
    by_cases c8 : t162 = true
    ·
     subst c8
     rw [if_pos rfl] at H
     obtain ⟨y163, hy163⟩ : ∃ y_ : List Int, y_ = (([0] : List Int)) := ⟨_, rfl⟩
     replace H : ((parquetrylaw11_is.f k y163 2 ([] : List Int) ([] : List Int)).bind fun t166 => (if t166 = true then ((level_Removed.f 9).bind fun t167 => (if t167 = true then ((level_Removed.f 22).bind fun t168 => (some (!t168))) else (none))) else (none))) = some r := by first | (rw [hy163]; with_reducible exact H) | (have H2_ := (Option.bind_some _ _).symm.trans H; rw [hy163]; with_reducible exact H2_) | (have H2_ := (Option.bind_some _ _).symm.trans H; with_reducible exact H2_) | with_reducible exact H | (rw [hy163]; exact H) | exact H
     have Ny163 := Aside0.mk hy163
     clear hy163
     replace H := Option.bind_eq_some_iff.mp H
     obtain ⟨t166, A90, H⟩ := H
     try dsimp only at H
     have A9 := Aside0.mk A90
     clear A90
     by_cases c10 : t166 = true
     ·
      subst c10
      rw [if_pos rfl] at H
      replace H := Option.bind_eq_some_iff.mp H
      obtain ⟨t167, A110, H⟩ := H
      try dsimp only at H
      have A11 := Aside0.mk A110
      clear A110
      by_cases c12 : t167 = true
      ·
       subst c12
       rw [if_pos rfl] at H
       replace H := Option.bind_eq_some_iff.mp H
       obtain ⟨t168, A130, H⟩ := H
       replace H : (some (!t168)) = some r := H
       have A13 := Aside0.mk A130
       clear A130
       obtain rfl := Option.some.inj H
       go_enter Try.func25, Try.ntmps25
       go_wp2_with (first | ((with_reducible refine gate_dst (N := 5) rfl ?_); (try (refine gate_guard (by rfl) ?_; dsimp only)); refine Kd.R_lit (Kd.int .i64) _ 3 ?hg (N := 5) ?hd (xs := ([0, 16, 0, 18, 0] : List Int)) (inner := [.int .i64 0, .int .i64 16, .int .i64 0, .int .i64 18, .int .i64 0]) (ok := fun _ => True) (okp := fun _ => True) ?hr ?hp (fun _ hk => hk) trivial (Below.refl _ _) (Nat.le_refl _) (by simp) ?_; (case hd => rfl); (case hg => rfl); (case hr => first | (go_simp; done) | (go_simp; rfl)); (case hp => exact (Reps.one (show Kd.M (Kd.int .i64) _ _ _ 0 [.int .i64 0] from rfl) (Reps.one (show Kd.M (Kd.int .i64) _ _ _ 16 [.int .i64 16] from rfl) (Reps.one (show Kd.M (Kd.int .i64) _ _ _ 0 [.int .i64 0] from rfl) (Reps.one (show Kd.M (Kd.int .i64) _ _ _ 18 [.int .i64 18] from rfl) (Reps.one (show Kd.M (Kd.int .i64) _ _ _ 0 [.int .i64 0] from rfl) (Reps.none _ _))))))); intro v130 w14 ho15 hb hg_ hnew_; clear hg_ hnew_; (first | rw [← Ny129.out] at ho15 | (simp only [Int.reduceToNat] at ho15; rw [← Ny129.out] at ho15)); have n0_ := Aside0.mk (Kd.R_lower ho15 (below_size HB.out)); have n1_ := Aside0.mk (below_step HB.out hb); clear HB; have HO131 := n0_; have HB := n1_; clear n0_ n1_; clear hb ho15) | ((with_reducible refine gate_dst (N := 6) rfl ?_); (try (refine gate_guard (by rfl) ?_; dsimp only)); refine Kd.R_lit (Kd.int .i64) _ 3 ?hg (N := 6) ?hd (xs := ([17, 0, 18, 0] : List Int)) (inner := [.int .i64 17, .int .i64 0, .int .i64 18, .int .i64 0]) (ok := fun _ => True) (okp := fun _ => True) ?hr ?hp (fun _ hk => hk) trivial (Below.refl _ _) (Nat.le_refl _) (by simp) ?_; (case hd => rfl); (case hg => rfl); (case hr => first | (go_simp; done) | (go_simp; rfl)); (case hp => exact (Reps.one (show Kd.M (Kd.int .i64) _ _ _ 17 [.int .i64 17] from rfl) (Reps.one (show Kd.M (Kd.int .i64) _ _ _ 0 [.int .i64 0] from rfl) (Reps.one (show Kd.M (Kd.int .i64) _ _ _ 18 [.int .i64 18] from rfl) (Reps.one (show Kd.M (Kd.int .i64) _ _ _ 0 [.int .i64 0] from rfl) (Reps.none _ _)))))); intro v133 w16 ho17 hb hg_ hnew_; clear hg_ hnew_; (first | rw [← Ny132.out] at ho17 | (simp only [Int.reduceToNat] at ho17; rw [← Ny132.out] at ho17)); have n0_ := Aside0.mk (Kd.R_elder' (by exact HO131.out) (Kd.R_base ho17) hb); have n1_ := Aside0.mk (Kd.R_lower (Kd.R_new' ho17 (Kd.R_lt (by exact HO131.out))) (below_size HB.out)); have n2_ := Aside0.mk (below_step HB.out hb); clear HO131; clear HB; have HO131 := n0_; have HO134 := n1_; have HB := n2_; clear n0_ n1_ n2_; clear hb ho17) | ((with_reducible refine gate_dst (N := 7) rfl ?_); (try (refine gate_guard (by rfl) ?_; dsimp only)); refine Kd.R_lit (Kd.int .i64) _ 3 ?hg (N := 7) ?hd (xs := ([20, 0, 22, 1] : List Int)) (inner := [.int .i64 20, .int .i64 0, .int .i64 22, .int .i64 1]) (ok := fun _ => True) (okp := fun _ => True) ?hr ?hp (fun _ hk => hk) trivial (Below.refl _ _) (Nat.le_refl _) (by simp) ?_; (case hd => rfl); (case hg => rfl); (case hr => first | (go_simp; done) | (go_simp; rfl)); (case hp => exact (Reps.one (show Kd.M (Kd.int .i64) _ _ _ 20 [.int .i64 20] from rfl) (Reps.one (show Kd.M (Kd.int .i64) _ _ _ 0 [.int .i64 0] from rfl) (Reps.one (show Kd.M (Kd.int .i64) _ _ _ 22 [.int .i64 22] from rfl) (Reps.one (show Kd.M (Kd.int .i64) _ _ _ 1 [.int .i64 1] from rfl) (Reps.none _ _)))))); intro v136 w18 ho19 hb hg_ hnew_; clear hg_ hnew_; (first | rw [← Ny135.out] at ho19 | (simp only [Int.reduceToNat] at ho19; rw [← Ny135.out] at ho19)); have n0_ := Aside0.mk (Kd.R_elder' (by exact HO131.out) (Kd.R_base ho19) hb); have n1_ := Aside0.mk (Kd.R_elder' (by exact HO134.out) (Kd.R_base ho19) hb); have n2_ := Aside0.mk (Kd.R_lower (Kd.R_new' (Kd.R_new' ho19 (Kd.R_lt (by exact HO131.out))) (Kd.R_lt (by exact HO134.out))) (below_size HB.out)); have n3_ := Aside0.mk (below_step HB.out hb); clear HO131; clear HO134; clear HB; have HO131 := n0_; have HO134 := n1_; have HO137 := n2_; have HB := n3_; clear n0_ n1_ n2_ n3_; clear hb ho19) | ((with_reducible refine gate_dst (N := 8) rfl ?_); (try (refine gate_guard (by rfl) ?_; dsimp only)); refine Kd.R_lit (Kd.int .i64) _ 3 ?hg (N := 8) ?hd (xs := ([15, 21, 1, 22] : List Int)) (inner := [.int .i64 15, .int .i64 21, .int .i64 1, .int .i64 22]) (ok := fun _ => True) (okp := fun _ => True) ?hr ?hp (fun _ hk => hk) trivial (Below.refl _ _) (Nat.le_refl _) (by simp) ?_; (case hd => rfl); (case hg => rfl); (case hr => first | (go_simp; done) | (go_simp; rfl)); (case hp => exact (Reps.one (show Kd.M (Kd.int .i64) _ _ _ 15 [.int .i64 15] from rfl) (Reps.one (show Kd.M (Kd.int .i64) _ _ _ 21 [.int .i64 21] from rfl) (Reps.one (show Kd.M (Kd.int .i64) _ _ _ 1 [.int .i64 1] from rfl) (Reps.one (show Kd.M (Kd.int .i64) _ _ _ 22 [.int .i64 22] from rfl) (Reps.none _ _)))))); intro v139 w20 ho21 hb hg_ hnew_; clear hg_ hnew_; (first | rw [← Ny138.out] at ho21 | (simp only [Int.reduceToNat] at ho21; rw [← Ny138.out] at ho21)); have n0_ := Aside0.mk (Kd.R_elder' (by exact HO131.out) (Kd.R_base ho21) hb); have n1_ := Aside0.mk (Kd.R_elder' (by exact HO134.out) (Kd.R_base ho21) hb); have n2_ := Aside0.mk (Kd.R_elder' (by exact HO137.out) (Kd.R_base ho21) hb); have n3_ := Aside0.mk (Kd.R_lower (Kd.R_new' (Kd.R_new' (Kd.R_new' ho21 (Kd.R_lt (by exact HO131.out))) (Kd.R_lt (by exact HO134.out))) (Kd.R_lt (by exact HO137.out))) (below_size HB.out)); have n4_ := Aside0.mk (below_step HB.out hb); clear HO131; clear HO134; clear HO137; clear HB; have HO131 := n0_; have HO134 := n1_; have HO137 := n2_; have HO140 := n3_; have HB := n4_; clear n0_ n1_ n2_ n3_ n4_; clear hb ho21) | ((with_reducible refine gate_dst (N := 10) rfl ?_); (try (refine gate_guard (by rfl) ?_; dsimp only)); refine Kd.R_lit (Kd.int .i64) _ 3 ?hg (N := 10) ?hd (xs := ([0, (-1), 1, (-1), 0] : List Int)) (inner := [.int .i64 0, .int .i64 (-1), .int .i64 1, .int .i64 (-1), .int .i64 0]) (ok := fun _ => True) (okp := fun _ => True) ?hr ?hp (fun _ hk => hk) trivial (Below.refl _ _) (Nat.le_refl _) (by simp) ?_; (case hd => rfl); (case hg => rfl); (case hr => first | (go_simp; done) | (go_simp; rfl)); (case hp => exact (Reps.one (show Kd.M (Kd.int .i64) _ _ _ 0 [.int .i64 0] from rfl) (Reps.one (show Kd.M (Kd.int .i64) _ _ _ (-1) [.int .i64 (-1)] from rfl) (Reps.one (show Kd.M (Kd.int .i64) _ _ _ 1 [.int .i64 1] from rfl) (Reps.one (show Kd.M (Kd.int .i64) _ _ _ (-1) [.int .i64 (-1)] from rfl) (Reps.one (show Kd.M (Kd.int .i64) _ _ _ 0 [.int .i64 0] from rfl) (Reps.none _ _))))))); intro v142 w22 ho23 hb hg_ hnew_; clear hg_ hnew_; (first | rw [← Ny141.out] at ho23 | (simp only [Int.reduceToNat] at ho23; rw [← Ny141.out] at ho23)); have n0_ := Aside0.mk (Kd.R_elder' (by exact HO131.out) (Kd.R_base ho23) hb); have n1_ := Aside0.mk (Kd.R_elder' (by exact HO134.out) (Kd.R_base ho23) hb); have n2_ := Aside0.mk (Kd.R_elder' (by exact HO137.out) (Kd.R_base ho23) hb); have n3_ := Aside0.mk (Kd.R_elder' (by exact HO140.out) (Kd.R_base ho23) hb); have n4_ := Aside0.mk (Kd.R_lower (Kd.R_new' (Kd.R_new' (Kd.R_new' (Kd.R_new' ho23 (Kd.R_lt (by exact HO131.out))) (Kd.R_lt (by exact HO134.out))) (Kd.R_lt (by exact HO137.out))) (Kd.R_lt (by exact HO140.out))) (below_size HB.out)); have n5_ := Aside0.mk (below_step HB.out hb); clear HO131; clear HO134; clear HO137; clear HO140; clear HB; have HO131 := n0_; have HO134 := n1_; have HO137 := n2_; have HO140 := n3_; have HO143 := n4_; have HB := n5_; clear n0_ n1_ n2_ n3_ n4_ n5_; clear hb ho23; obtain ⟨Ao24, co24, eo24⟩ := Kd.R_slice HO131.out; subst eo24; obtain ⟨Ao25, co25, eo25⟩ := Kd.R_slice HO143.out; subst eo25) | ((with_reducible refine gate_callee (f := 39) rfl ?_); refine goesL_ (some 12) rfl rfl Try.func39 (by kernel_rfl) rfl #[.slice Ao24 y129.length co24, .int .i64 0, .slice Ao25 y141.length co25, .slice Ao24 y129.length co24] rfl (by (try simp only [List.map_toArray, List.map_cons, List.map_nil]); first | done | rfl | (simp only [List.length_drop, List.length_take]; rfl)) ?_; (with_reducible refine (parquetrylaw11_is.calls k _ _ y129 0 _ _ y141 _ _ y129 true _ ?side1 ?side2 ?side3 ?side4 ?side5 ?side6 A1.out).mono ?_); (case side1 => repeat (first | exact (Kd.R_reads' HO131.out).2.2 | (with_reducible refine Kd.C_alloc ?_ _) | (with_reducible refine Kd.C_drewN ?_ _) | (with_reducible refine Kd.C_drew ?_))); (case side2 => exact (Kd.R_reads' HO131.out).2.1); (case side3 => repeat (first | exact (Kd.R_reads' HO143.out).2.2 | (with_reducible refine Kd.C_alloc ?_ _) | (with_reducible refine Kd.C_drewN ?_ _) | (with_reducible refine Kd.C_drew ?_))); (case side4 => exact (Kd.R_reads' HO143.out).2.1); (case side5 => repeat (first | exact (Kd.R_reads' HO131.out).2.2 | (with_reducible refine Kd.C_alloc ?_ _) | (with_reducible refine Kd.C_drewN ?_ _) | (with_reducible refine Kd.C_drew ?_))); (case side6 => exact (Kd.R_reads' HO131.out).2.1); rintro e w26 ⟨rfl, hb⟩; refine ⟨_, rfl, ?_⟩; have n0_ := Aside0.mk (Kd.R_below (by exact HO131.out) hb); have n1_ := Aside0.mk (Kd.R_below (by exact HO134.out) hb); have n2_ := Aside0.mk (Kd.R_below (by exact HO137.out) hb); have n3_ := Aside0.mk (Kd.R_below (by exact HO140.out) hb); have n4_ := Aside0.mk (Kd.R_below (by exact HO143.out) hb); have n5_ := Aside0.mk (below_step HB.out hb); clear HO131; clear HO134; clear HO137; clear HO140; clear HO143; clear HB; have HO131 := n0_; have HO134 := n1_; have HO137 := n2_; have HO140 := n3_; have HO143 := n4_; have HB := n5_; clear n0_ n1_ n2_ n3_ n4_ n5_; (try clear hb); (try clear hb2); (try clear hk); (try clear hi)) | ((with_reducible refine gate_dst (N := 15) rfl ?_); (try (refine gate_guard (by rfl) ?_; dsimp only)); refine Kd.R_lit (Kd.int .i64) _ 3 ?hg (N := 15) ?hd (xs := ([(-1), 1, (-1), 0] : List Int)) (inner := [.int .i64 (-1), .int .i64 1, .int .i64 (-1), .int .i64 0]) (ok := fun _ => True) (okp := fun _ => True) ?hr ?hp (fun _ hk => hk) trivial (Below.refl _ _) (Nat.le_refl _) (by simp) ?_; (case hd => rfl); (case hg => rfl); (case hr => first | (go_simp; done) | (go_simp; rfl)); (case hp => exact (Reps.one (show Kd.M (Kd.int .i64) _ _ _ (-1) [.int .i64 (-1)] from rfl) (Reps.one (show Kd.M (Kd.int .i64) _ _ _ 1 [.int .i64 1] from rfl) (Reps.one (show Kd.M (Kd.int .i64) _ _ _ (-1) [.int .i64 (-1)] from rfl) (Reps.one (show Kd.M (Kd.int .i64) _ _ _ 0 [.int .i64 0] from rfl) (Reps.none _ _)))))); intro v146 w27 ho28 hb hg_ hnew_; clear hg_ hnew_; (first | rw [← Ny145.out] at ho28 | (simp only [Int.reduceToNat] at ho28; rw [← Ny145.out] at ho28)); have n0_ := Aside0.mk (Kd.R_elder' (by exact HO131.out) (Kd.R_base ho28) hb); have n1_ := Aside0.mk (Kd.R_elder' (by exact HO134.out) (Kd.R_base ho28) hb); have n2_ := Aside0.mk (Kd.R_elder' (by exact HO137.out) (Kd.R_base ho28) hb); have n3_ := Aside0.mk (Kd.R_elder' (by exact HO140.out) (Kd.R_base ho28) hb); have n4_ := Aside0.mk (Kd.R_elder' (by exact HO143.out) (Kd.R_base ho28) hb); have n5_ := Aside0.mk (Kd.R_lower (Kd.R_new' (Kd.R_new' (Kd.R_new' (Kd.R_new' (Kd.R_new' ho28 (Kd.R_lt (by exact HO131.out))) (Kd.R_lt (by exact HO134.out))) (Kd.R_lt (by exact HO137.out))) (Kd.R_lt (by exact HO140.out))) (Kd.R_lt (by exact HO143.out))) (below_size HB.out)); have n6_ := Aside0.mk (below_step HB.out hb); clear HO131; clear HO134; clear HO137; clear HO140; clear HO143; clear HB; have HO131 := n0_; have HO134 := n1_; have HO137 := n2_; have HO140 := n3_; have HO143 := n4_; have HO147 := n5_; have HB := n6_; clear n0_ n1_ n2_ n3_ n4_ n5_ n6_; clear hb ho28) | ((with_reducible refine gate_dst (N := 16) rfl ?_); (try (refine gate_guard (by rfl) ?_; dsimp only)); refine Kd.R_lit (Kd.int .i64) _ 3 ?hg (N := 16) ?hd (xs := ([17, 1, 18, 0] : List Int)) (inner := [.int .i64 17, .int .i64 1, .int .i64 18, .int .i64 0]) (ok := fun _ => True) (okp := fun _ => True) ?hr ?hp (fun _ hk => hk) trivial (Below.refl _ _) (Nat.le_refl _) (by simp) ?_; (case hd => rfl); (case hg => rfl); (case hr => first | (go_simp; done) | (go_simp; rfl)); (case hp => exact (Reps.one (show Kd.M (Kd.int .i64) _ _ _ 17 [.int .i64 17] from rfl) (Reps.one (show Kd.M (Kd.int .i64) _ _ _ 1 [.int .i64 1] from rfl) (Reps.one (show Kd.M (Kd.int .i64) _ _ _ 18 [.int .i64 18] from rfl) (Reps.one (show Kd.M (Kd.int .i64) _ _ _ 0 [.int .i64 0] from rfl) (Reps.none _ _)))))); intro v149 w29 ho30 hb hg_ hnew_; clear hg_ hnew_; (first | rw [← Ny148.out] at ho30 | (simp only [Int.reduceToNat] at ho30; rw [← Ny148.out] at ho30)); have n0_ := Aside0.mk (Kd.R_elder' (by exact HO131.out) (Kd.R_base ho30) hb); have n1_ := Aside0.mk (Kd.R_elder' (by exact HO134.out) (Kd.R_base ho30) hb); have n2_ := Aside0.mk (Kd.R_elder' (by exact HO137.out) (Kd.R_base ho30) hb); have n3_ := Aside0.mk (Kd.R_elder' (by exact HO140.out) (Kd.R_base ho30) hb); have n4_ := Aside0.mk (Kd.R_elder' (by exact HO143.out) (Kd.R_base ho30) hb); have n5_ := Aside0.mk (Kd.R_elder' (by exact HO147.out) (Kd.R_base ho30) hb); have n6_ := Aside0.mk (Kd.R_lower (Kd.R_new' (Kd.R_new' (Kd.R_new' (Kd.R_new' (Kd.R_new' (Kd.R_new' ho30 (Kd.R_lt (by exact HO131.out))) (Kd.R_lt (by exact HO134.out))) (Kd.R_lt (by exact HO137.out))) (Kd.R_lt (by exact HO140.out))) (Kd.R_lt (by exact HO143.out))) (Kd.R_lt (by exact HO147.out))) (below_size HB.out)); have n7_ := Aside0.mk (below_step HB.out hb); clear HO131; clear HO134; clear HO137; clear HO140; clear HO143; clear HO147; clear HB; have HO131 := n0_; have HO134 := n1_; have HO137 := n2_; have HO140 := n3_; have HO143 := n4_; have HO147 := n5_; have HO150 := n6_; have HB := n7_; clear n0_ n1_ n2_ n3_ n4_ n5_ n6_ n7_; clear hb ho30; obtain ⟨Ao31, co31, eo31⟩ := Kd.R_slice HO134.out; subst eo31; obtain ⟨Ao32, co32, eo32⟩ := Kd.R_slice HO147.out; subst eo32; obtain ⟨Ao33, co33, eo33⟩ := Kd.R_slice HO150.out; subst eo33) | (go_at_call 39; (with_reducible refine (parquetrylaw11_is.calls k _ _ y132 0 _ _ y145 _ _ y148 true _ ?side1 ?side2 ?side3 ?side4 ?side5 ?side6 A3.out).mono ?_); (case side1 => repeat (first | exact (Kd.R_reads' HO134.out).2.2 | (with_reducible refine Kd.C_alloc ?_ _) | (with_reducible refine Kd.C_drewN ?_ _) | (with_reducible refine Kd.C_drew ?_))); (case side2 => exact (Kd.R_reads' HO134.out).2.1); (case side3 => repeat (first | exact (Kd.R_reads' HO147.out).2.2 | (with_reducible refine Kd.C_alloc ?_ _) | (with_reducible refine Kd.C_drewN ?_ _) | (with_reducible refine Kd.C_drew ?_))); (case side4 => exact (Kd.R_reads' HO147.out).2.1); (case side5 => repeat (first | exact (Kd.R_reads' HO150.out).2.2 | (with_reducible refine Kd.C_alloc ?_ _) | (with_reducible refine Kd.C_drewN ?_ _) | (with_reducible refine Kd.C_drew ?_))); (case side6 => exact (Kd.R_reads' HO150.out).2.1); rintro e w34 ⟨rfl, hb⟩; have n0_ := Aside0.mk (Kd.R_below (by exact HO131.out) hb); have n1_ := Aside0.mk (Kd.R_below (by exact HO134.out) hb); have n2_ := Aside0.mk (Kd.R_below (by exact HO137.out) hb); have n3_ := Aside0.mk (Kd.R_below (by exact HO140.out) hb); have n4_ := Aside0.mk (Kd.R_below (by exact HO143.out) hb); have n5_ := Aside0.mk (Kd.R_below (by exact HO147.out) hb); have n6_ := Aside0.mk (Kd.R_below (by exact HO150.out) hb); have n7_ := Aside0.mk (below_step HB.out hb); clear HO131; clear HO134; clear HO137; clear HO140; clear HO143; clear HO147; clear HO150; clear HB; have HO131 := n0_; have HO134 := n1_; have HO137 := n2_; have HO140 := n3_; have HO143 := n4_; have HO147 := n5_; have HO150 := n6_; have HB := n7_; clear n0_ n1_ n2_ n3_ n4_ n5_ n6_ n7_; (try clear hb); (try clear hb2); (try clear hk); (try clear hi)) | ((with_reducible refine gate_dst (N := 21) rfl ?_); (try (refine gate_guard (by rfl) ?_; dsimp only)); refine Kd.R_lit (Kd.int .i64) _ 3 ?hg (N := 21) ?hd (xs := ([1, 3, 1, 1] : List Int)) (inner := [.int .i64 1, .int .i64 3, .int .i64 1, .int .i64 1]) (ok := fun _ => True) (okp := fun _ => True) ?hr ?hp (fun _ hk => hk) trivial (Below.refl _ _) (Nat.le_refl _) (by simp) ?_; (case hd => rfl); (case hg => rfl); (case hr => first | (go_simp; done) | (go_simp; rfl)); (case hp => exact (Reps.one (show Kd.M (Kd.int .i64) _ _ _ 1 [.int .i64 1] from rfl) (Reps.one (show Kd.M (Kd.int .i64) _ _ _ 3 [.int .i64 3] from rfl) (Reps.one (show Kd.M (Kd.int .i64) _ _ _ 1 [.int .i64 1] from rfl) (Reps.one (show Kd.M (Kd.int .i64) _ _ _ 1 [.int .i64 1] from rfl) (Reps.none _ _)))))); intro v153 w35 ho36 hb hg_ hnew_; clear hg_ hnew_; (first | rw [← Ny152.out] at ho36 | (simp only [Int.reduceToNat] at ho36; rw [← Ny152.out] at ho36)); have n0_ := Aside0.mk (Kd.R_elder' (by exact HO131.out) (Kd.R_base ho36) hb); have n1_ := Aside0.mk (Kd.R_elder' (by exact HO134.out) (Kd.R_base ho36) hb); have n2_ := Aside0.mk (Kd.R_elder' (by exact HO137.out) (Kd.R_base ho36) hb); have n3_ := Aside0.mk (Kd.R_elder' (by exact HO140.out) (Kd.R_base ho36) hb); have n4_ := Aside0.mk (Kd.R_elder' (by exact HO143.out) (Kd.R_base ho36) hb); have n5_ := Aside0.mk (Kd.R_elder' (by exact HO147.out) (Kd.R_base ho36) hb); have n6_ := Aside0.mk (Kd.R_elder' (by exact HO150.out) (Kd.R_base ho36) hb); have n7_ := Aside0.mk (Kd.R_lower (Kd.R_new' (Kd.R_new' (Kd.R_new' (Kd.R_new' (Kd.R_new' (Kd.R_new' (Kd.R_new' ho36 (Kd.R_lt (by exact HO131.out))) (Kd.R_lt (by exact HO134.out))) (Kd.R_lt (by exact HO137.out))) (Kd.R_lt (by exact HO140.out))) (Kd.R_lt (by exact HO143.out))) (Kd.R_lt (by exact HO147.out))) (Kd.R_lt (by exact HO150.out))) (below_size HB.out)); have n8_ := Aside0.mk (below_step HB.out hb); clear HO131; clear HO134; clear HO137; clear HO140; clear HO143; clear HO147; clear HO150; clear HB; have HO131 := n0_; have HO134 := n1_; have HO137 := n2_; have HO140 := n3_; have HO143 := n4_; have HO147 := n5_; have HO150 := n6_; have HO154 := n7_; have HB := n8_; clear n0_ n1_ n2_ n3_ n4_ n5_ n6_ n7_ n8_; clear hb ho36; obtain ⟨Ao37, co37, eo37⟩ := Kd.R_slice HO137.out; subst eo37; obtain ⟨Ao38, co38, eo38⟩ := Kd.R_slice HO154.out; subst eo38) | (go_at_call 39; (with_reducible refine (parquetrylaw11_is.calls k _ _ y135 1 _ _ y152 _ _ y135 true _ ?side1 ?side2 ?side3 ?side4 ?side5 ?side6 A5.out).mono ?_); (case side1 => repeat (first | exact (Kd.R_reads' HO137.out).2.2 | (with_reducible refine Kd.C_alloc ?_ _) | (with_reducible refine Kd.C_drewN ?_ _) | (with_reducible refine Kd.C_drew ?_))); (case side2 => exact (Kd.R_reads' HO137.out).2.1); (case side3 => repeat (first | exact (Kd.R_reads' HO154.out).2.2 | (with_reducible refine Kd.C_alloc ?_ _) | (with_reducible refine Kd.C_drewN ?_ _) | (with_reducible refine Kd.C_drew ?_))); (case side4 => exact (Kd.R_reads' HO154.out).2.1); (case side5 => repeat (first | exact (Kd.R_reads' HO137.out).2.2 | (with_reducible refine Kd.C_alloc ?_ _) | (with_reducible refine Kd.C_drewN ?_ _) | (with_reducible refine Kd.C_drew ?_))); (case side6 => exact (Kd.R_reads' HO137.out).2.1); rintro e w39 ⟨rfl, hb⟩; have n0_ := Aside0.mk (Kd.R_below (by exact HO131.out) hb); have n1_ := Aside0.mk (Kd.R_below (by exact HO134.out) hb); have n2_ := Aside0.mk (Kd.R_below (by exact HO137.out) hb); have n3_ := Aside0.mk (Kd.R_below (by exact HO140.out) hb); have n4_ := Aside0.mk (Kd.R_below (by exact HO143.out) hb); have n5_ := Aside0.mk (Kd.R_below (by exact HO147.out) hb); have n6_ := Aside0.mk (Kd.R_below (by exact HO150.out) hb); have n7_ := Aside0.mk (Kd.R_below (by exact HO154.out) hb); have n8_ := Aside0.mk (below_step HB.out hb); clear HO131; clear HO134; clear HO137; clear HO140; clear HO143; clear HO147; clear HO150; clear HO154; clear HB; have HO131 := n0_; have HO134 := n1_; have HO137 := n2_; have HO140 := n3_; have HO143 := n4_; have HO147 := n5_; have HO150 := n6_; have HO154 := n7_; have HB := n8_; clear n0_ n1_ n2_ n3_ n4_ n5_ n6_ n7_ n8_; (try clear hb); (try clear hb2); (try clear hk); (try clear hi)) | ((with_reducible refine gate_dst (N := 27) rfl ?_); (try (refine gate_guard (by rfl) ?_; dsimp only)); refine Kd.R_lit (Kd.int .i64) _ 3 ?hg (N := 27) ?hd (xs := ([(-1), 2, 3, 2] : List Int)) (inner := [.int .i64 (-1), .int .i64 2, .int .i64 3, .int .i64 2]) (ok := fun _ => True) (okp := fun _ => True) ?hr ?hp (fun _ hk => hk) trivial (Below.refl _ _) (Nat.le_refl _) (by simp) ?_; (case hd => rfl); (case hg => rfl); (case hr => first | (go_simp; done) | (go_simp; rfl)); (case hp => exact (Reps.one (show Kd.M (Kd.int .i64) _ _ _ (-1) [.int .i64 (-1)] from rfl) (Reps.one (show Kd.M (Kd.int .i64) _ _ _ 2 [.int .i64 2] from rfl) (Reps.one (show Kd.M (Kd.int .i64) _ _ _ 3 [.int .i64 3] from rfl) (Reps.one (show Kd.M (Kd.int .i64) _ _ _ 2 [.int .i64 2] from rfl) (Reps.none _ _)))))); intro v157 w40 ho41 hb hg_ hnew_; clear hg_ hnew_; (first | rw [← Ny156.out] at ho41 | (simp only [Int.reduceToNat] at ho41; rw [← Ny156.out] at ho41)); have n0_ := Aside0.mk (Kd.R_elder' (by exact HO131.out) (Kd.R_base ho41) hb); have n1_ := Aside0.mk (Kd.R_elder' (by exact HO134.out) (Kd.R_base ho41) hb); have n2_ := Aside0.mk (Kd.R_elder' (by exact HO137.out) (Kd.R_base ho41) hb); have n3_ := Aside0.mk (Kd.R_elder' (by exact HO140.out) (Kd.R_base ho41) hb); have n4_ := Aside0.mk (Kd.R_elder' (by exact HO143.out) (Kd.R_base ho41) hb); have n5_ := Aside0.mk (Kd.R_elder' (by exact HO147.out) (Kd.R_base ho41) hb); have n6_ := Aside0.mk (Kd.R_elder' (by exact HO150.out) (Kd.R_base ho41) hb); have n7_ := Aside0.mk (Kd.R_elder' (by exact HO154.out) (Kd.R_base ho41) hb); have n8_ := Aside0.mk (Kd.R_lower (Kd.R_new' (Kd.R_new' (Kd.R_new' (Kd.R_new' (Kd.R_new' (Kd.R_new' (Kd.R_new' (Kd.R_new' ho41 (Kd.R_lt (by exact HO131.out))) (Kd.R_lt (by exact HO134.out))) (Kd.R_lt (by exact HO137.out))) (Kd.R_lt (by exact HO140.out))) (Kd.R_lt (by exact HO143.out))) (Kd.R_lt (by exact HO147.out))) (Kd.R_lt (by exact HO150.out))) (Kd.R_lt (by exact HO154.out))) (below_size HB.out)); have n9_ := Aside0.mk (below_step HB.out hb); clear HO131; clear HO134; clear HO137; clear HO140; clear HO143; clear HO147; clear HO150; clear HO154; clear HB; have HO131 := n0_; have HO134 := n1_; have HO137 := n2_; have HO140 := n3_; have HO143 := n4_; have HO147 := n5_; have HO150 := n6_; have HO154 := n7_; have HO158 := n8_; have HB := n9_; clear n0_ n1_ n2_ n3_ n4_ n5_ n6_ n7_ n8_ n9_; clear hb ho41) | ((with_reducible refine gate_dst (N := 28) rfl ?_); (try (refine gate_guard (by rfl) ?_; dsimp only)); refine Kd.R_lit (Kd.int .i64) _ 3 ?hg (N := 28) ?hd (xs := ([15, 0, 1, 0] : List Int)) (inner := [.int .i64 15, .int .i64 0, .int .i64 1, .int .i64 0]) (ok := fun _ => True) (okp := fun _ => True) ?hr ?hp (fun _ hk => hk) trivial (Below.refl _ _) (Nat.le_refl _) (by simp) ?_; (case hd => rfl); (case hg => rfl); (case hr => first | (go_simp; done) | (go_simp; rfl)); (case hp => exact (Reps.one (show Kd.M (Kd.int .i64) _ _ _ 15 [.int .i64 15] from rfl) (Reps.one (show Kd.M (Kd.int .i64) _ _ _ 0 [.int .i64 0] from rfl) (Reps.one (show Kd.M (Kd.int .i64) _ _ _ 1 [.int .i64 1] from rfl) (Reps.one (show Kd.M (Kd.int .i64) _ _ _ 0 [.int .i64 0] from rfl) (Reps.none _ _)))))); intro v160 w42 ho43 hb hg_ hnew_; clear hg_ hnew_; (first | rw [← Ny159.out] at ho43 | (simp only [Int.reduceToNat] at ho43; rw [← Ny159.out] at ho43)); have n0_ := Aside0.mk (Kd.R_elder' (by exact HO131.out) (Kd.R_base ho43) hb); have n1_ := Aside0.mk (Kd.R_elder' (by exact HO134.out) (Kd.R_base ho43) hb); have n2_ := Aside0.mk (Kd.R_elder' (by exact HO137.out) (Kd.R_base ho43) hb); have n3_ := Aside0.mk (Kd.R_elder' (by exact HO140.out) (Kd.R_base ho43) hb); have n4_ := Aside0.mk (Kd.R_elder' (by exact HO143.out) (Kd.R_base ho43) hb); have n5_ := Aside0.mk (Kd.R_elder' (by exact HO147.out) (Kd.R_base ho43) hb); have n6_ := Aside0.mk (Kd.R_elder' (by exact HO150.out) (Kd.R_base ho43) hb); have n7_ := Aside0.mk (Kd.R_elder' (by exact HO154.out) (Kd.R_base ho43) hb); have n8_ := Aside0.mk (Kd.R_elder' (by exact HO158.out) (Kd.R_base ho43) hb); have n9_ := Aside0.mk (Kd.R_lower (Kd.R_new' (Kd.R_new' (Kd.R_new' (Kd.R_new' (Kd.R_new' (Kd.R_new' (Kd.R_new' (Kd.R_new' (Kd.R_new' ho43 (Kd.R_lt (by exact HO131.out))) (Kd.R_lt (by exact HO134.out))) (Kd.R_lt (by exact HO137.out))) (Kd.R_lt (by exact HO140.out))) (Kd.R_lt (by exact HO143.out))) (Kd.R_lt (by exact HO147.out))) (Kd.R_lt (by exact HO150.out))) (Kd.R_lt (by exact HO154.out))) (Kd.R_lt (by exact HO158.out))) (below_size HB.out)); have n10_ := Aside0.mk (below_step HB.out hb); clear HO131; clear HO134; clear HO137; clear HO140; clear HO143; clear HO147; clear HO150; clear HO154; clear HO158; clear HB; have HO131 := n0_; have HO134 := n1_; have HO137 := n2_; have HO140 := n3_; have HO143 := n4_; have HO147 := n5_; have HO150 := n6_; have HO154 := n7_; have HO158 := n8_; have HO161 := n9_; have HB := n10_; clear n0_ n1_ n2_ n3_ n4_ n5_ n6_ n7_ n8_ n9_ n10_; clear hb ho43; obtain ⟨Ao44, co44, eo44⟩ := Kd.R_slice HO140.out; subst eo44; obtain ⟨Ao45, co45, eo45⟩ := Kd.R_slice HO158.out; subst eo45; obtain ⟨Ao46, co46, eo46⟩ := Kd.R_slice HO161.out; subst eo46) | (go_at_call 39; (with_reducible refine (parquetrylaw11_is.calls k _ _ y138 0 _ _ y156 _ _ y159 true _ ?side1 ?side2 ?side3 ?side4 ?side5 ?side6 A7.out).mono ?_); (case side1 => repeat (first | exact (Kd.R_reads' HO140.out).2.2 | (with_reducible refine Kd.C_alloc ?_ _) | (with_reducible refine Kd.C_drewN ?_ _) | (with_reducible refine Kd.C_drew ?_))); (case side2 => exact (Kd.R_reads' HO140.out).2.1); (case side3 => repeat (first | exact (Kd.R_reads' HO158.out).2.2 | (with_reducible refine Kd.C_alloc ?_ _) | (with_reducible refine Kd.C_drewN ?_ _) | (with_reducible refine Kd.C_drew ?_))); (case side4 => exact (Kd.R_reads' HO158.out).2.1); (case side5 => repeat (first | exact (Kd.R_reads' HO161.out).2.2 | (with_reducible refine Kd.C_alloc ?_ _) | (with_reducible refine Kd.C_drewN ?_ _) | (with_reducible refine Kd.C_drew ?_))); (case side6 => exact (Kd.R_reads' HO161.out).2.1); rintro e w47 ⟨rfl, hb⟩; have n0_ := Aside0.mk (Kd.R_below (by exact HO131.out) hb); have n1_ := Aside0.mk (Kd.R_below (by exact HO134.out) hb); have n2_ := Aside0.mk (Kd.R_below (by exact HO137.out) hb); have n3_ := Aside0.mk (Kd.R_below (by exact HO140.out) hb); have n4_ := Aside0.mk (Kd.R_below (by exact HO143.out) hb); have n5_ := Aside0.mk (Kd.R_below (by exact HO147.out) hb); have n6_ := Aside0.mk (Kd.R_below (by exact HO150.out) hb); have n7_ := Aside0.mk (Kd.R_below (by exact HO154.out) hb); have n8_ := Aside0.mk (Kd.R_below (by exact HO158.out) hb); have n9_ := Aside0.mk (Kd.R_below (by exact HO161.out) hb); have n10_ := Aside0.mk (below_step HB.out hb); clear HO131; clear HO134; clear HO137; clear HO140; clear HO143; clear HO147; clear HO150; clear HO154; clear HO158; clear HO161; clear HB; have HO131 := n0_; have HO134 := n1_; have HO137 := n2_; have HO140 := n3_; have HO143 := n4_; have HO147 := n5_; have HO150 := n6_; have HO154 := n7_; have HO158 := n8_; have HO161 := n9_; have HB := n10_; clear n0_ n1_ n2_ n3_ n4_ n5_ n6_ n7_ n8_ n9_ n10_; (try clear hb); (try clear hb2); (try clear hk); (try clear hi)) | ((with_reducible refine gate_dst (N := 32) rfl ?_); (try (refine gate_guard (by rfl) ?_; dsimp only)); refine Kd.R_lit (Kd.int .i64) _ 3 ?hg (N := 32) ?hd (xs := ([0] : List Int)) (inner := [.int .i64 0]) (ok := fun _ => True) (okp := fun _ => True) ?hr ?hp (fun _ hk => hk) trivial (Below.refl _ _) (Nat.le_refl _) (by simp) ?_; (case hd => rfl); (case hg => rfl); (case hr => first | (go_simp; done) | (go_simp; rfl)); (case hp => exact (Reps.one (show Kd.M (Kd.int .i64) _ _ _ 0 [.int .i64 0] from rfl) (Reps.none _ _))); intro v164 w48 ho49 hb hg_ hnew_; clear hg_ hnew_; (first | rw [← Ny163.out] at ho49 | (simp only [Int.reduceToNat] at ho49; rw [← Ny163.out] at ho49)); have n0_ := Aside0.mk (Kd.R_elder' (by exact HO131.out) (Kd.R_base ho49) hb); have n1_ := Aside0.mk (Kd.R_elder' (by exact HO134.out) (Kd.R_base ho49) hb); have n2_ := Aside0.mk (Kd.R_elder' (by exact HO137.out) (Kd.R_base ho49) hb); have n3_ := Aside0.mk (Kd.R_elder' (by exact HO140.out) (Kd.R_base ho49) hb); have n4_ := Aside0.mk (Kd.R_elder' (by exact HO143.out) (Kd.R_base ho49) hb); have n5_ := Aside0.mk (Kd.R_elder' (by exact HO147.out) (Kd.R_base ho49) hb); have n6_ := Aside0.mk (Kd.R_elder' (by exact HO150.out) (Kd.R_base ho49) hb); have n7_ := Aside0.mk (Kd.R_elder' (by exact HO154.out) (Kd.R_base ho49) hb); have n8_ := Aside0.mk (Kd.R_elder' (by exact HO158.out) (Kd.R_base ho49) hb); have n9_ := Aside0.mk (Kd.R_elder' (by exact HO161.out) (Kd.R_base ho49) hb); have n10_ := Aside0.mk (Kd.R_lower (Kd.R_new' (Kd.R_new' (Kd.R_new' (Kd.R_new' (Kd.R_new' (Kd.R_new' (Kd.R_new' (Kd.R_new' (Kd.R_new' (Kd.R_new' ho49 (Kd.R_lt (by exact HO131.out))) (Kd.R_lt (by exact HO134.out))) (Kd.R_lt (by exact HO137.out))) (Kd.R_lt (by exact HO140.out))) (Kd.R_lt (by exact HO143.out))) (Kd.R_lt (by exact HO147.out))) (Kd.R_lt (by exact HO150.out))) (Kd.R_lt (by exact HO154.out))) (Kd.R_lt (by exact HO158.out))) (Kd.R_lt (by exact HO161.out))) (below_size HB.out)); have n11_ := Aside0.mk (below_step HB.out hb); clear HO131; clear HO134; clear HO137; clear HO140; clear HO143; clear HO147; clear HO150; clear HO154; clear HO158; clear HO161; clear HB; have HO131 := n0_; have HO134 := n1_; have HO137 := n2_; have HO140 := n3_; have HO143 := n4_; have HO147 := n5_; have HO150 := n6_; have HO154 := n7_; have HO158 := n8_; have HO161 := n9_; have HO165 := n10_; have HB := n11_; clear n0_ n1_ n2_ n3_ n4_ n5_ n6_ n7_ n8_ n9_ n10_ n11_; clear hb ho49; obtain ⟨Ao50, co50, eo50⟩ := Kd.R_slice HO165.out; subst eo50) | (go_at_call 39; (refine (parquetrylaw11_is.calls k _ _ y163 2 _ _ ([] : List Int) _ _ ([] : List Int) true _ ?side1 ?side2 ?side3 ?side4 ?side5 ?side6 A9.out).mono ?_); (case side1 => repeat (first | exact (Kd.R_reads' HO165.out).2.2 | (with_reducible refine Kd.C_alloc ?_ _) | (with_reducible refine Kd.C_drewN ?_ _) | (with_reducible refine Kd.C_drew ?_))); (case side2 => exact (Kd.R_reads' HO165.out).2.1); (case side3 => exact Kd.C_nil _ _); (case side4 => exact Nat.le_refl _); (case side5 => exact Kd.C_nil _ _); (case side6 => exact Nat.le_refl _); rintro e w51 ⟨rfl, hb⟩; have n0_ := Aside0.mk (Kd.R_below (by exact HO131.out) hb); have n1_ := Aside0.mk (Kd.R_below (by exact HO134.out) hb); have n2_ := Aside0.mk (Kd.R_below (by exact HO137.out) hb); have n3_ := Aside0.mk (Kd.R_below (by exact HO140.out) hb); have n4_ := Aside0.mk (Kd.R_below (by exact HO143.out) hb); have n5_ := Aside0.mk (Kd.R_below (by exact HO147.out) hb); have n6_ := Aside0.mk (Kd.R_below (by exact HO150.out) hb); have n7_ := Aside0.mk (Kd.R_below (by exact HO154.out) hb); have n8_ := Aside0.mk (Kd.R_below (by exact HO158.out) hb); have n9_ := Aside0.mk (Kd.R_below (by exact HO161.out) hb); have n10_ := Aside0.mk (Kd.R_below (by exact HO165.out) hb); have n11_ := Aside0.mk (below_step HB.out hb); clear HO131; clear HO134; clear HO137; clear HO140; clear HO143; clear HO147; clear HO150; clear HO154; clear HO158; clear HO161; clear HO165; clear HB; have HO131 := n0_; have HO134 := n1_; have HO137 := n2_; have HO140 := n3_; have HO143 := n4_; have HO147 := n5_; have HO150 := n6_; have HO154 := n7_; have HO158 := n8_; have HO161 := n9_; have HO165 := n10_; have HB := n11_; clear n0_ n1_ n2_ n3_ n4_ n5_ n6_ n7_ n8_ n9_ n10_ n11_; (try clear hb); (try clear hb2); (try clear hk); (try clear hi)) | (go_at_call 28; (with_reducible refine (level_Removed.calls 9 true _ A11.out).mono ?_); rintro e w' ⟨rfl, ⟨nd, rfl⟩⟩) | (go_at_call 28; (with_reducible refine (level_Removed.calls 22 t168 _ A13.out).mono ?_); rintro e w' ⟨rfl, ⟨nd, rfl⟩⟩))
       go_ret
       exact ⟨by first | rfl | (simp [errW_none, errW_some] <;> rfl) | (simp [*, errW_none, errW_some] <;> rfl), by repeat (first | (with_reducible first | exact HB.out | apply below_alloc | apply pw_below_drewN | apply below_drew1) | exact HB.out)⟩
      ·
       rw [if_neg c12] at H
       cases H
     ·
      rw [if_neg c10] at H
      cases H
    ·
     rw [if_neg c8] at H
     cases H
   ·
    rw [if_neg c6] at H
    cases H
  ·
   rw [if_neg c4] at H
   cases H
 ·
  rw [if_neg c2] at H
  cases H

/-! ### parquetryref11_Removed: function 29 -/
def parquetryref11_Removed.f (a0 : Int) : Option (Bool) := if a0 = 16 then (some true) else (if a0 = 14 then (some true) else (if a0 = 17 then (some true) else (if a0 = 15 then (some true) else (if a0 = 18 then (some true) else (some (a0 == 9))))))
set_option maxHeartbeats 8000000 in
set_option maxRecDepth 100000 in
theorem parquetryref11_Removed.calls (a0 : Int) (r : Bool) (w : World) (h : parquetryref11_Removed.f a0 = some r) :
  Calls Try.prog 29 #[.int .i64 a0] w fun e w' => e = .returned (.bool r) ∧ Drawn0 w w' := by
 have H : (if a0 = 16 then (some true) else (if a0 = 14 then (some true) else (if a0 = 17 then (some true) else (if a0 = 15 then (some true) else (if a0 = 18 then (some true) else (some (a0 == 9))))))) = some r := h
 clear h
 by_cases c2 : a0 = 16
 ·
  rw [if_pos c2] at H
  have c2b0 : (a0 == 16) = true := beq_iff_eq.mpr c2
  have c2b1 : (a0 != 16) = false := bne_eq_false_iff_eq.mpr c2
  clear c2
  obtain rfl := Option.some.inj H
  go_enter Try.func29, Try.ntmps29
  go_wp2
  go_ret
  exact ⟨by first | rfl | (simp; done) | (simp [*]; done), by repeat (first | exact Drawn0.refl _ | apply Drawn0.step)⟩
 ·
  rw [if_neg c2] at H
  have c2b0 : (a0 == 16) = false := beq_eq_false_iff_ne.mpr c2
  have c2b1 : (a0 != 16) = true := bne_iff_ne.mpr c2
  by_cases c3 : a0 = 14
  ·
   rw [if_pos c3] at H
   have c3b0 : (a0 == 14) = true := beq_iff_eq.mpr c3
   have c3b1 : (a0 != 14) = false := bne_eq_false_iff_eq.mpr c3
   clear c3
   obtain rfl := Option.some.inj H
   go_enter Try.func29, Try.ntmps29
   go_wp2
   go_ret
   exact ⟨by first | rfl | (simp; done) | (simp [*]; done), by repeat (first | exact Drawn0.refl _ | apply Drawn0.step)⟩
  ·
   rw [if_neg c3] at H
   have c3b0 : (a0 == 14) = false := beq_eq_false_iff_ne.mpr c3
   have c3b1 : (a0 != 14) = true := bne_iff_ne.mpr c3
   by_cases c4 : a0 = 17
   ·
    rw [if_pos c4] at H
    have c4b0 : (a0 == 17) = true := beq_iff_eq.mpr c4
    have c4b1 : (a0 != 17) = false := bne_eq_false_iff_eq.mpr c4
    clear c4
    obtain rfl := Option.some.inj H
    go_enter Try.func29, Try.ntmps29
    go_wp2
    go_ret
    exact ⟨by first | rfl | (simp; done) | (simp [*]; done), by repeat (first | exact Drawn0.refl _ | apply Drawn0.step)⟩
   ·
    rw [if_neg c4] at H
    have c4b0 : (a0 == 17) = false := beq_eq_false_iff_ne.mpr c4
    have c4b1 : (a0 != 17) = true := bne_iff_ne.mpr c4
    by_cases c5 : a0 = 15
    ·
     rw [if_pos c5] at H
     have c5b0 : (a0 == 15) = true := beq_iff_eq.mpr c5
     have c5b1 : (a0 != 15) = false := bne_eq_false_iff_eq.mpr c5
     clear c5
     obtain rfl := Option.some.inj H
     go_enter Try.func29, Try.ntmps29
     go_wp2
     go_ret
     exact ⟨by first | rfl | (simp; done) | (simp [*]; done), by repeat (first | exact Drawn0.refl _ | apply Drawn0.step)⟩
    ·
     rw [if_neg c5] at H
     have c5b0 : (a0 == 15) = false := beq_eq_false_iff_ne.mpr c5
     have c5b1 : (a0 != 15) = true := bne_iff_ne.mpr c5
     by_cases c6 : a0 = 18
     ·
      rw [if_pos c6] at H
      have c6b0 : (a0 == 18) = true := beq_iff_eq.mpr c6
      have c6b1 : (a0 != 18) = false := bne_eq_false_iff_eq.mpr c6
      clear c6
      obtain rfl := Option.some.inj H
      go_enter Try.func29, Try.ntmps29
      go_wp2
      go_ret
      exact ⟨by first | rfl | (simp; done) | (simp [*]; done), by repeat (first | exact Drawn0.refl _ | apply Drawn0.step)⟩
     ·
      rw [if_neg c6] at H
      have c6b0 : (a0 == 18) = false := beq_eq_false_iff_ne.mpr c6
      have c6b1 : (a0 != 18) = true := bne_iff_ne.mpr c6
      obtain rfl := Option.some.inj H
      go_enter Try.func29, Try.ntmps29
      go_wp2
      go_ret
      exact ⟨by first | rfl | (simp; done) | (simp [*]; done), by repeat (first | exact Drawn0.refl _ | apply Drawn0.step)⟩

end Go.Proofs.Ytekllnpmioinfaa.PC11
