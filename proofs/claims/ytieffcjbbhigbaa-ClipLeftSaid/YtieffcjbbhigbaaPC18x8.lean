/- For the laws of the group C18: the Lean functions that the Go functions compute, and proofs that they do. Written by wip/hprint.py of this repo over the kit's printer; nothing here is trusted: Lean checks it. -/
import Derived.Test.YtieffcjbbhigbaaPC18x0
import Derived.Test.YtieffcjbbhigbaaPC18x2
import Derived.Test.YtieffcjbbhigbaaPC18x6
import Derived.Test.YtieffcjbbhigbaaPC18x7
namespace Go.Proofs.Ytieffcjbbhigbaa.PC18
open Go.RowKit Go.Proofs.YtieffcjbbhigbaaW.PrintWords Go.Proofs.YtieffcjbbhigbaaW.PrintLast Go.Proofs.YtieffcjbbhigbaaW.PrintMore
attribute [local go_sem] max2_int min2_int max_two min_two max_three min_three max_four min_four   -- for this text's walks alone
set_option linter.unusedVariables false
set_option linter.unusedSimpArgs false

/-! ### parquetryref01_Split: function 50 -/
def parquetryref01_Split.l0 : Nat → ByteArray → List (S89) → Int → Option ((List (S89)))
  | 0, _, _, _ => none
  | k + 1, x0, x3, x4 => if x4 < (x0.size : Int) then (if 0 ≤ x4 then (if x4 ≤ (x0.size : Int) then ((parquetryref01_first.f k (x0.extract (x4 : Int).toNat x0.size)).bind fun bt217 => (if x3.length < 5864062014805 then (parquetryref01_Split.l0 k x0 (x3 ++ [(⟨x4, bt217.2, bt217.1⟩ : S89)]) (wrap64 (x4 + bt217.2))) else (none))) else (none)) else (none)) else (some x3)
def parquetryref01_Split.f (k : Nat) (a0 : ByteArray) : Option ((List (S89))) := parquetryref01_Split.l0 k a0 ([] : List (S89)) 0
theorem parquetryref01_Split.mono_l : ∀ k, (∀ y0 y1 y2, LeO (parquetryref01_Split.l0 k y0 y1 y2) (parquetryref01_Split.l0 (k + 1) y0 y1 y2))
  | 0 => fun _ _ _ r h => by simp [parquetryref01_Split.l0] at h
  | k + 1 => by
    have ih0 := parquetryref01_Split.mono_l k
    · intro y0 y1 y2
      unfold parquetryref01_Split.l0
      repeat' first
      | (with_reducible exact ih0 _ _ _)
      | (with_reducible exact parquetryref01_first.mono _ _)
      | (with_reducible exact LeO.refl _)
      | (with_reducible exact LeO.none _)
      | (with_reducible refine LeO.ite ?_ ?_)
      | (with_reducible refine LeO.bind ?_ (fun _ => ?_))
      | exact ih0 _ _ _
      | exact parquetryref01_first.mono _ _
      | exact LeO.none _
      | refine LeO.ite ?_ ?_
      | refine LeO.bind ?_ (fun _ => ?_)
theorem parquetryref01_Split.mono : ∀ a0 k, LeO (parquetryref01_Split.f k a0) (parquetryref01_Split.f (k + 1) a0) := by
  intro a0 k
  have ih0 := parquetryref01_Split.mono_l k
  unfold parquetryref01_Split.f
  repeat' first
      | (with_reducible exact ih0 _ _ _)
      | (with_reducible exact parquetryref01_first.mono _ _)
      | (with_reducible exact LeO.refl _)
      | (with_reducible exact LeO.none _)
      | (with_reducible refine LeO.ite ?_ ?_)
      | (with_reducible refine LeO.bind ?_ (fun _ => ?_))
      | exact ih0 _ _ _
      | exact parquetryref01_first.mono _ _
      | exact LeO.none _
      | refine LeO.ite ?_ ?_
      | refine LeO.bind ?_ (fun _ => ?_)
set_option maxHeartbeats 8000000 in
set_option maxRecDepth 100000 in
theorem parquetryref01_Split.calls (k : Nat) (a0 : ByteArray) (r : List (S89)) (w : World) (h : parquetryref01_Split.f k a0 = some r) :
    Calls Try.prog 50 #[.string a0] w fun e w' => ∃ v0_ : Value, e = .returned (v0_) ∧ Kd.R k89 89 w' w.heap.size (fun _ => True) v0_ r ∧ Below w.heap.size w w' := by
  have hu89 := Try.underlying89
  have HB := Aside0.mk (Below.refl w.heap.size w)
  have H : (parquetryref01_Split.l0 k a0 ([] : List (S89)) 0) = some r := h
  clear h
  have H' := Aside0.mk H
  clear H
  go_enter Try.func50, Try.ntmps50
  try dsimp only [List.append]
  go_wp2
  go_loopg [3, 4] k (fun kq v3 v4 w' => ∃ (x3_1 : List (S89)) (x4_1 : Int), v4 = .int .i64 x4_1 ∧ Aside0 (parquetryref01_Split.l0 kq a0 x3_1 x4_1 = some r) ∧ Aside0 (kq ≤ k) ∧ Aside0 (Kd.R k89 89 w' w.heap.size (fun _ => True) v3 x3_1) ∧ Aside0 (Below w.heap.size w w'))
  case atStart => exact ⟨(([] : List (S89))), (0), (by first | rfl | (simp; done) | (simp [*]; done)), H', ⟨Nat.le_refl _⟩, ⟨by first | exact Kd.R_nil _ _ _ _ _ | exact Kd.N_nil _ _ _ _ _ | exact Kd.V_nil _ _ _ _ _ | exact Kd.Q_nil _ _ _ _ _ | exact Kd.S_nil _ _ _ _ _⟩, ⟨by repeat (first | (with_reducible first | exact HB.out | apply below_alloc | apply pw_below_drewN | apply below_drew1) | exact HB.out)⟩⟩
  case round =>
    clear H'
    obtain ⟨x3_1, x4_1, rfl, HA, HK1, HO_3, HB⟩ := hrel
    cases gk with
    | zero => exact absurd HA.out (by simp [parquetryref01_Split.l0])
    | succ k1 =>
      have H := HA.out
      clear HA
      simp only [parquetryref01_Split.l0] at H
      by_cases c2 : x4_1 < (a0.size : Int)
      · rw [if_pos c2] at H
        have c2b0 : decide (x4_1 < (a0.size : Int)) = true := decide_eq_true c2
        clear c2
        by_cases c3 : 0 ≤ x4_1
        · rw [if_pos c3] at H
          have c3b0 := eq_true c3
          have c3b1 : decide (0 ≤ x4_1) = true := decide_eq_true c3
          clear c3
          by_cases c4 : x4_1 ≤ (a0.size : Int)
          · rw [if_pos c4] at H
            have c4b0 := eq_true c4
            have c4b1 : decide (x4_1 ≤ (a0.size : Int)) = true := decide_eq_true c4
            clear c4
            replace H := Option.bind_eq_some_iff.mp H
            obtain ⟨⟨t217, t218⟩, A50, H⟩ := H
            replace H : (if x3_1.length < 5864062014805 then (parquetryref01_Split.l0 k1 a0 (x3_1 ++ [(⟨x4_1, t218, t217⟩ : S89)]) (wrap64 (x4_1 + t218))) else (none)) = some r := H
            have A5 := Aside0.mk A50
            clear A50
            by_cases c6 : x3_1.length < 5864062014805
            · rw [if_pos c6] at H
              have LMc6 := Aside0.mk c6
              clear c6
              obtain ⟨y219, hy219⟩ : ∃ y_ : List (S89), y_ = (x3_1 ++ [(⟨x4_1, t218, t217⟩ : S89)]) := ⟨_, rfl⟩
              replace H : (parquetryref01_Split.l0 k1 a0 y219 (wrap64 (x4_1 + t218))) = some r := by first | (rw [hy219]; with_reducible exact H) | (have H2_ := (Option.bind_some _ _).symm.trans H; rw [hy219]; with_reducible exact H2_) | (have H2_ := (Option.bind_some _ _).symm.trans H; with_reducible exact H2_) | with_reducible exact H | (rw [hy219]; exact H) | exact H
              have Ny219 := Aside0.mk hy219
              clear hy219
              have H' := Aside0.mk H
              clear H
              go_wp2_with (first | ((with_reducible refine gate_callee (f := 56) rfl ?_); refine goesL_ (some 15) rfl rfl Try.func56 (by kernel_rfl) rfl #[.string (a0.extract (x4_1 : Int).toNat a0.size)] rfl (by (try simp only [List.map_toArray, List.map_cons, List.map_nil]); first | done | rfl | (simp only [List.length_drop, List.length_take]; rfl)) ?_; (with_reducible refine (parquetryref01_first.calls k1 (a0.extract (x4_1 : Int).toNat a0.size) t217 t218 _ A5.out).mono ?_); rintro e w7 ⟨rfl, hb⟩; refine ⟨_, rfl, ?_⟩; have n0_ := Aside0.mk (Kd.R_below (by (with_reducible repeat (first | apply Kd.R_alloc | apply Kd.R_drewN | apply Kd.R_drew)); exact HO_3.out) hb); have n1_ := Aside0.mk (below_step (by repeat (first | (with_reducible first | exact HB.out | apply below_alloc | apply pw_below_drewN | apply below_drew1) | exact HB.out)) hb); clear HO_3; clear HB; have HO_3 := n0_; have HB := n1_; clear n0_ n1_; (try clear hb); (try clear hb2); (try clear hk); (try clear hi)) | ((with_reducible refine gate_builtin (b := .append) (xs := #[.tmp 18, .tmp 23]) rfl ?_); at_builtin; refine Kd.R_append k89 (w0 := w) w.heap.size rfl (.tmp 18) (.tmp 23) 83 89 (.agg #[(.int .i64 0), (.int .i64 0), (.int .i64 0)]) 24 rfl Try.underlying83 info89 rfl (by decide) (by omega) u3 x3_1 (⟨x4_1, t218, t217⟩ : S89) [.int .i64 x4_1, .int .i64 t218, .int .i64 t217] (fun _ => True) (fun _ => False) rfl rfl ?aP (fun _ hk => hk.elim) ?aF ?aO ?aB ?aS ?aL ?_; (case aP => exact k89_mkM _ _ _ (⟨x4_1, t218, t217⟩ : S89)); (case aB => exact (by repeat (first | (with_reducible first | exact HB.out | apply below_alloc | apply pw_below_drewN | apply below_drew1) | exact HB.out))); (case aF => exact (fun _ _ => trivial)); (case aO => exact (by (with_reducible repeat (first | apply Kd.R_alloc | apply Kd.R_drewN | apply Kd.R_drew)); exact HO_3.out)); (case aS => exact (below_size (by repeat (first | (with_reducible first | exact HB.out | apply below_alloc | apply pw_below_drewN | apply below_drew1) | exact HB.out)))); (case aL => have := LMc6.out; omega); intro v220 w8 ho hb hg hat; rw [← Ny219.out] at ho; have n0_ := Aside0.mk (hb); have n1_ := Aside0.mk (ho); clear HB; clear HO_3; have HB := n0_; have HO221 := n1_; clear n0_ n1_; clear ho hb hg hat))
              go_roundg k1
              case measure => have := HK1.out; omega
              case rel => exact ⟨(y219), (wrap64 (x4_1 + t218)), (by first | rfl | (simp; done) | (simp [*]; done)), H', ⟨by have := HK1.out; omega⟩, ⟨by (with_reducible repeat (first | apply Kd.R_alloc | apply Kd.R_drewN | apply Kd.R_drew)); exact HO221.out⟩, ⟨by repeat (first | (with_reducible first | exact HB.out | apply below_alloc | apply pw_below_drewN | apply below_drew1) | exact HB.out)⟩⟩
            · rw [if_neg c6] at H
              exact absurd H (by simp)
          · rw [if_neg c4] at H
            exact absurd H (by simp)
        · rw [if_neg c3] at H
          exact absurd H (by simp)
      · rw [if_neg c2] at H
        have c2b0 : decide (x4_1 < (a0.size : Int)) = false := decide_eq_false c2
        clear c2
        obtain rfl := Option.some.inj H
        go_wp2
        go_ret
        exact ⟨_, by first | rfl | (simp [errW_none, errW_some] <;> rfl) | (simp [*, errW_none, errW_some] <;> rfl), by (with_reducible repeat (first | apply Kd.R_alloc | apply Kd.R_drewN | apply Kd.R_drew)); exact HO_3.out, by repeat (first | (with_reducible first | exact HB.out | apply below_alloc | apply pw_below_drewN | apply below_drew1) | exact HB.out)⟩

/-! ### parquetryref06_Split: function 41 -/
def parquetryref06_Split.f (k : Nat) (a0 : ByteArray) : Option ((List (S39))) := (parquetryref01_Split.f k a0).bind fun t222 => ((parquetryref06_Of.f k t222).bind fun t225 => (some t225))
theorem parquetryref06_Split.mono : ∀ a0 k, LeO (parquetryref06_Split.f k a0) (parquetryref06_Split.f (k + 1) a0) := by
  intro a0 k
  unfold parquetryref06_Split.f
  repeat' first
      | (with_reducible exact parquetryref01_Split.mono _ _)
      | (with_reducible exact parquetryref06_Of.mono _ _)
      | (with_reducible exact LeO.refl _)
      | (with_reducible exact LeO.none _)
      | (with_reducible refine LeO.ite ?_ ?_)
      | (with_reducible refine LeO.bind ?_ (fun _ => ?_))
      | exact parquetryref01_Split.mono _ _
      | exact parquetryref06_Of.mono _ _
      | exact LeO.none _
      | refine LeO.ite ?_ ?_
      | refine LeO.bind ?_ (fun _ => ?_)
set_option maxHeartbeats 8000000 in
set_option maxRecDepth 100000 in
theorem parquetryref06_Split.calls (k : Nat) (a0 : ByteArray) (r : List (S39)) (w : World) (h : parquetryref06_Split.f k a0 = some r) :
    Calls Try.prog 41 #[.string a0] w fun e w' => ∃ v0_ : Value, e = .returned (v0_) ∧ Kd.R k39 39 w' w.heap.size (fun _ => True) v0_ r ∧ Below w.heap.size w w' := by
  have HB := Aside0.mk (Below.refl w.heap.size w)
  have H : ((parquetryref01_Split.f k a0).bind fun t222 => ((parquetryref06_Of.f k t222).bind fun t225 => (some t225))) = some r := h
  clear h
  replace H := Option.bind_eq_some_iff.mp H
  obtain ⟨t222, A20, H⟩ := H
  replace H : ((parquetryref06_Of.f k t222).bind fun t225 => (some t225)) = some r := H
  have A2 := Aside0.mk A20
  clear A20
  replace H := Option.bind_eq_some_iff.mp H
  obtain ⟨t225, A30, H⟩ := H
  replace H : (some t225) = some r := H
  have A3 := Aside0.mk A30
  clear A30
  obtain rfl := Option.some.inj H
  go_enter Try.func41, Try.ntmps41
  go_wp2_with (first | ((with_reducible refine gate_callee (f := 50) rfl ?_); refine goesL_ (some 4) rfl rfl Try.func50 (by kernel_rfl) rfl #[.string a0] rfl (by (try simp only [List.map_toArray, List.map_cons, List.map_nil]); first | done | rfl | (simp only [List.length_drop, List.length_take]; rfl)) ?_; (with_reducible refine (parquetryref01_Split.calls k a0 t222 _ A2.out).mono ?_); rintro e w4 ⟨v223, rfl, ho0, hb⟩; refine ⟨_, rfl, ?_⟩; have n0_ := Aside0.mk (Kd.R_lower ho0 (below_size (by repeat (first | (with_reducible first | exact HB.out | apply below_alloc | apply pw_below_drewN | apply below_drew1) | exact HB.out)))); have n1_ := Aside0.mk (below_step (by repeat (first | (with_reducible first | exact HB.out | apply below_alloc | apply pw_below_drewN | apply below_drew1) | exact HB.out)) hb); clear HB; have HO224 := n0_; have HB := n1_; clear n0_ n1_; (try clear hb); (try clear hb2); (try clear hk); (try clear hi); (try clear ho0); obtain ⟨Ao5, co5, eo5⟩ := Kd.R_slice HO224.out; subst eo5) | ((with_reducible refine gate_callee (f := 49) rfl ?_); refine goesL_ (some 5) rfl rfl Try.func49 (by kernel_rfl) rfl #[.slice Ao5 t222.length co5] rfl (by (try simp only [List.map_toArray, List.map_cons, List.map_nil]); first | done | rfl | (simp only [List.length_drop, List.length_take]; rfl)) ?_; (with_reducible refine (parquetryref06_Of.calls k _ _ t222 t225 _ ?side1 ?side2 A3.out).mono ?_); (case side1 => repeat (first | exact (Kd.R_reads' HO224.out).2.2 | (with_reducible refine Kd.C_alloc ?_ _) | (with_reducible refine Kd.C_drewN ?_ _) | (with_reducible refine Kd.C_drew ?_))); (case side2 => exact (Kd.R_reads' HO224.out).2.1); rintro e w6 ⟨v226, rfl, ho0, hb⟩; refine ⟨_, rfl, ?_⟩; have n0_ := Aside0.mk (Kd.R_below (by (with_reducible repeat (first | apply Kd.R_alloc | apply Kd.R_drewN | apply Kd.R_drew)); exact HO224.out) hb); have n1_ := Aside0.mk (Kd.R_lower ho0 (below_size (by repeat (first | (with_reducible first | exact HB.out | apply below_alloc | apply pw_below_drewN | apply below_drew1) | exact HB.out)))); have n2_ := Aside0.mk (below_step (by repeat (first | (with_reducible first | exact HB.out | apply below_alloc | apply pw_below_drewN | apply below_drew1) | exact HB.out)) hb); clear HO224; clear HB; have HO224 := n0_; have HO227 := n1_; have HB := n2_; clear n0_ n1_ n2_; (try clear hb); (try clear hb2); (try clear hk); (try clear hi); (try clear ho0)))
  go_ret
  exact ⟨_, by first | rfl | (simp [errW_none, errW_some] <;> rfl) | (simp [*, errW_none, errW_some] <;> rfl), by (with_reducible repeat (first | apply Kd.R_alloc | apply Kd.R_drewN | apply Kd.R_drew)); exact HO227.out, by repeat (first | (with_reducible first | exact HB.out | apply below_alloc | apply pw_below_drewN | apply below_drew1) | exact HB.out)⟩

/-! ### parquetrylaw18_six: function 30 -/
def parquetrylaw18_six.f (k : Nat)  : Option ((List (S39)) × Int × Int × Int × Int × Int) := (parquetryref06_Split.f k (⟨#[97, 98, 99, 100, 101, 102]⟩ : ByteArray)).bind fun t229 => (some (t229, 0, 6, 6, 1, 0))
theorem parquetrylaw18_six.mono : ∀ k, LeO (parquetrylaw18_six.f k ) (parquetrylaw18_six.f (k + 1) ) := by
  intro  k
  unfold parquetrylaw18_six.f
  repeat' first
      | (with_reducible exact parquetryref06_Split.mono _ _)
      | (with_reducible exact LeO.refl _)
      | (with_reducible exact LeO.none _)
      | (with_reducible refine LeO.ite ?_ ?_)
      | (with_reducible refine LeO.bind ?_ (fun _ => ?_))
      | exact parquetryref06_Split.mono _ _
      | exact LeO.none _
      | refine LeO.ite ?_ ?_
      | refine LeO.bind ?_ (fun _ => ?_)
set_option maxHeartbeats 8000000 in
set_option maxRecDepth 100000 in
theorem parquetrylaw18_six.calls (k : Nat)  (r1 : List (S39)) (r2 : Int) (r3 : Int) (r4 : Int) (r5 : Int) (r6 : Int) (w : World) (h : parquetrylaw18_six.f k  = some (r1, r2, r3, r4, r5, r6)) :
    Calls Try.prog 30 #[] w fun e w' => ∃ v0_ : Value, e = .returned (.tuple #[v0_, .agg #[.int .i64 r2, .int .i64 r3, .int .i64 r4, .int .i64 r5, .int .i64 r6]]) ∧ Kd.R k39 39 w' w.heap.size (fun _ => True) v0_ r1 ∧ Below w.heap.size w w' := by
  have hu29 := Try.underlying29
  have HB := Aside0.mk (Below.refl w.heap.size w)
  have H : ((parquetryref06_Split.f k (⟨#[97, 98, 99, 100, 101, 102]⟩ : ByteArray)).bind fun t229 => (some (t229, 0, 6, 6, 1, 0))) = some (r1, r2, r3, r4, r5, r6) := h
  clear h
  replace H := Option.bind_eq_some_iff.mp H
  obtain ⟨t229, A10, H⟩ := H
  replace H : (some (t229, 0, 6, 6, 1, 0)) = some (r1, r2, r3, r4, r5, r6) := H
  have A1 := Aside0.mk A10
  clear A10
  simp only [Option.some.injEq, Prod.mk.injEq] at H
  obtain ⟨rfl, rfl, rfl, rfl, rfl, rfl⟩ := H
  go_enter Try.func30, Try.ntmps30
  go_wp2_with (first | ((with_reducible refine gate_dst (N := 1) rfl ?_); refine box_event ?hg (N := 1) ?hd (cs := #[.int .i64 0, .int .i64 0, .int .i64 0, .int .i64 0, .int .i64 0]) (t := 29) ?hr ?_; (case hd => rfl); (case hg => rfl); (case hr => first | (go_simp; done) | (go_simp; rfl)); intro gb228 hg w2 hbox hb; have n0_ := Aside0.mk (below_step (by repeat (first | (with_reducible first | exact HB.out | apply below_alloc | apply pw_below_drewN | apply below_drew1) | exact HB.out)) hb); have n1_ := Aside0.mk (hbox); have n2_ := Aside0.mk ((by rw [hg]; exact (below_size (by repeat (first | (with_reducible first | exact HB.out | apply below_alloc | apply pw_below_drewN | apply below_drew1) | exact HB.out))) : w.heap.size ≤ gb228)); have n3_ := Aside0.mk ((by rw [hg]; exact (below_size (by repeat (first | (with_reducible first | exact HB.out | apply below_alloc | apply pw_below_drewN | apply below_drew1) | exact HB.out))) : w.heap.size ≤ gb228)); clear HB; have HB := n0_; have BK228 := n1_; have GW228 := n2_; have GE228 := n3_; clear n0_ n1_ n2_ n3_; clear hb hbox hg) | ((with_reducible refine gate_callee (f := 41) rfl ?_); refine goesL_ (some 2) rfl rfl Try.func41 (by kernel_rfl) rfl #[.string (⟨#[97, 98, 99, 100, 101, 102]⟩ : ByteArray)] rfl (by (try simp only [List.map_toArray, List.map_cons, List.map_nil]); first | done | rfl | (simp only [List.length_drop, List.length_take]; rfl)) ?_; (with_reducible refine (parquetryref06_Split.calls k (⟨#[97, 98, 99, 100, 101, 102]⟩ : ByteArray) t229 _ A1.out).mono ?_); rintro e w3 ⟨v230, rfl, ho0, hb⟩; refine ⟨_, rfl, ?_⟩; have n0_ := Aside0.mk (Kd.R_lower ho0 (below_size (by repeat (first | (with_reducible first | exact HB.out | apply below_alloc | apply pw_below_drewN | apply below_drew1 | refine below_set ?_ GE228.out) | exact HB.out)))); have n1_ := Aside0.mk (blk_below (g := gb228) (o := .cells #[.int .i64 0, .int .i64 0, .int .i64 0, .int .i64 0, .int .i64 0] 29 (0, 0)) (by (with_reducible repeat (first | refine blk_drewN ?_ _ | refine blk_drew ?_ | refine blk_alloc ?_ _)); exact BK228.out) hb); have n2_ := Aside0.mk (below_step (by repeat (first | (with_reducible first | exact HB.out | apply below_alloc | apply pw_below_drewN | apply below_drew1 | refine below_set ?_ GE228.out) | exact HB.out)) hb); clear BK228; clear HB; have HO231 := n0_; have BK228 := n1_; have HB := n2_; clear n0_ n1_ n2_; (try clear hb); (try clear hb2); (try clear hk); (try clear hi); (try clear ho0); have hcz4_0 : w3.cell? ⟨gb228, 0, none⟩ = some (.int .i64 0) := (blk_cell BK228.out 0).trans rfl; have hcz4_1 : w3.cell? ⟨gb228, 1, none⟩ = some (.int .i64 0) := (blk_cell BK228.out 1).trans rfl; have hcz4_2 : w3.cell? ⟨gb228, 2, none⟩ = some (.int .i64 0) := (blk_cell BK228.out 2).trans rfl; have hcz4_3 : w3.cell? ⟨gb228, 3, none⟩ = some (.int .i64 0) := (blk_cell BK228.out 3).trans rfl; have hcz4_4 : w3.cell? ⟨gb228, 4, none⟩ = some (.int .i64 0) := (blk_cell BK228.out 4).trans rfl; have hfz4_0 := blk_frozen BK228.out 0; have hfz4_1 := blk_frozen BK228.out 1; have hfz4_2 := blk_frozen BK228.out 2; have hfz4_3 := blk_frozen BK228.out 3; have hfz4_4 := blk_frozen BK228.out 4))
  refine bodyPost_ret (results_tc rfl _ _ gb228 29 #[.int .i64 0, .int .i64 6, .int .i64 6, .int .i64 1, .int .i64 0] (0, 0) _ rfl (by (with_reducible repeat (first | refine blk_drewN ?_ _ | refine blk_drew ?_ | refine blk_alloc ?_ _)); refine blk_put (cs := #[.int .i64 0, .int .i64 6, .int .i64 6, .int .i64 1, .int .i64 0]) ?_ 4 _ rfl; (with_reducible repeat (first | refine blk_drewN ?_ _ | refine blk_drew ?_ | refine blk_alloc ?_ _)); refine blk_put (cs := #[.int .i64 0, .int .i64 6, .int .i64 6, .int .i64 0, .int .i64 0]) ?_ 3 _ rfl; (with_reducible repeat (first | refine blk_drewN ?_ _ | refine blk_drew ?_ | refine blk_alloc ?_ _)); refine blk_put (cs := #[.int .i64 0, .int .i64 6, .int .i64 0, .int .i64 0, .int .i64 0]) ?_ 2 _ rfl; (with_reducible repeat (first | refine blk_drewN ?_ _ | refine blk_drew ?_ | refine blk_alloc ?_ _)); refine blk_put (cs := #[.int .i64 0, .int .i64 0, .int .i64 0, .int .i64 0, .int .i64 0]) ?_ 1 _ rfl; (with_reducible repeat (first | refine blk_drewN ?_ _ | refine blk_drew ?_ | refine blk_alloc ?_ _)); refine blk_put (cs := #[.int .i64 0, .int .i64 0, .int .i64 0, .int .i64 0, .int .i64 0]) ?_ 0 _ rfl; (with_reducible repeat (first | refine blk_drewN ?_ _ | refine blk_drew ?_ | refine blk_alloc ?_ _)); exact BK228.out) Try.underlying29 rfl (by kernel_rfl)) rfl ?_
  exact ⟨_, by first | rfl | (simp [errW_none, errW_some] <;> rfl) | (simp [*, errW_none, errW_some] <;> rfl), by (with_reducible repeat (first | apply Kd.R_alloc | apply Kd.R_drewN | apply Kd.R_drew)); exact Kd.R_mono (Kd.R_far (p := ⟨gb228, 4, none⟩) (Kd.R_far (p := ⟨gb228, 3, none⟩) (Kd.R_far (p := ⟨gb228, 2, none⟩) (Kd.R_far (p := ⟨gb228, 1, none⟩) (Kd.R_far (p := ⟨gb228, 0, none⟩) (Kd.R_types HO231.out BK228.out (by decide)) (fun _ hk => hk.2) (.int .i64 0)) (fun _ hk => hk.2) (.int .i64 6)) (fun _ hk => hk.2) (.int .i64 6)) (fun _ hk => hk.2) (.int .i64 1)) (fun _ hk => hk.2) (.int .i64 0)) (fun _ hk => trivial), by repeat (first | (with_reducible first | exact HB.out | apply below_alloc | apply pw_below_drewN | apply below_drew1 | refine below_set ?_ GE228.out) | exact HB.out)⟩

/-! ### parquetrylaw18_is: function 31 -/
def parquetrylaw18_is.f (a0_0 : Int) (a0_1 : Int) (a0_2 : Int) (a0_3 : Int) (a0_4 : Int) (a1 : Int) (a2 : Int) (a3 : Int) : Option (Bool) := if a1 = 0 then (if a0_0 = 0 then (if a0_1 = 6 then (if a0_3 = 1 then (if a0_2 = a2 then (some (a0_4 == a3)) else (some false)) else (some false)) else (some false)) else (some false)) else (some false)
set_option maxHeartbeats 8000000 in
set_option maxRecDepth 100000 in
theorem parquetrylaw18_is.calls (a0_0 : Int) (a0_1 : Int) (a0_2 : Int) (a0_3 : Int) (a0_4 : Int) (a1 : Int) (a2 : Int) (a3 : Int) (r : Bool) (w : World) (h : parquetrylaw18_is.f a0_0 a0_1 a0_2 a0_3 a0_4 a1 a2 a3 = some r) :
    Calls Try.prog 31 #[.agg #[.int .i64 a0_0, .int .i64 a0_1, .int .i64 a0_2, .int .i64 a0_3, .int .i64 a0_4], .int .i64 a1, .int .i64 a2, .int .i64 a3] w fun e w' => e = .returned (.bool r) ∧ Below w.heap.size w w' := by
  have hu29 := Try.underlying29
  have HB := Aside0.mk (Below.refl w.heap.size w)
  have H : (if a1 = 0 then (if a0_0 = 0 then (if a0_1 = 6 then (if a0_3 = 1 then (if a0_2 = a2 then (some (a0_4 == a3)) else (some false)) else (some false)) else (some false)) else (some false)) else (some false)) = some r := h
  clear h
  by_cases c5 : a1 = 0
  · rw [if_pos c5] at H
    have c5b0 : (a1 == 0) = true := beq_iff_eq.mpr c5
    have c5b1 : (a1 != 0) = false := bne_eq_false_iff_eq.mpr c5
    clear c5
    by_cases c6 : a0_0 = 0
    · rw [if_pos c6] at H
      have c6b0 : (a0_0 == 0) = true := beq_iff_eq.mpr c6
      have c6b1 : (a0_0 != 0) = false := bne_eq_false_iff_eq.mpr c6
      clear c6
      by_cases c7 : a0_1 = 6
      · rw [if_pos c7] at H
        have c7b0 : (a0_1 == 6) = true := beq_iff_eq.mpr c7
        have c7b1 : (a0_1 != 6) = false := bne_eq_false_iff_eq.mpr c7
        clear c7
        by_cases c8 : a0_3 = 1
        · rw [if_pos c8] at H
          have c8b0 : (a0_3 == 1) = true := beq_iff_eq.mpr c8
          have c8b1 : (a0_3 != 1) = false := bne_eq_false_iff_eq.mpr c8
          clear c8
          by_cases c9 : a0_2 = a2
          · rw [if_pos c9] at H
            have c9b0 : (a0_2 == a2) = true := beq_iff_eq.mpr c9
            have c9b1 : (a0_2 != a2) = false := bne_eq_false_iff_eq.mpr c9
            clear c9
            obtain rfl := Option.some.inj H
            go_enter Try.func31, Try.ntmps31
            go_wp2_with (first | ((with_reducible refine gate_dst (N := 4) rfl ?_); refine box_event ?hg (N := 4) ?hd (cs := #[.int .i64 a0_0, .int .i64 a0_1, .int .i64 a0_2, .int .i64 a0_3, .int .i64 a0_4]) (t := 29) ?hr ?_; (case hd => rfl); (case hg => rfl); (case hr => first | (go_simp; done) | (go_simp; rfl)); intro gb232 hg w10 hbox hb; have n0_ := Aside0.mk (below_step (by repeat (first | (with_reducible first | exact HB.out | apply below_alloc | apply pw_below_drewN | apply below_drew1) | exact HB.out)) hb); have n1_ := Aside0.mk (hbox); have n2_ := Aside0.mk ((by rw [hg]; exact (below_size (by repeat (first | (with_reducible first | exact HB.out | apply below_alloc | apply pw_below_drewN | apply below_drew1) | exact HB.out))) : w.heap.size ≤ gb232)); have n3_ := Aside0.mk ((by rw [hg]; exact (below_size (by repeat (first | (with_reducible first | exact HB.out | apply below_alloc | apply pw_below_drewN | apply below_drew1) | exact HB.out))) : w.heap.size ≤ gb232)); clear HB; have HB := n0_; have BK232 := n1_; have GW232 := n2_; have GE232 := n3_; clear n0_ n1_ n2_ n3_; clear hb hbox hg; have hcz11_0 : w10.cell? ⟨gb232, 0, none⟩ = some (.int .i64 a0_0) := (blk_cell BK232.out 0).trans rfl; have hcz11_1 : w10.cell? ⟨gb232, 1, none⟩ = some (.int .i64 a0_1) := (blk_cell BK232.out 1).trans rfl; have hcz11_2 : w10.cell? ⟨gb232, 2, none⟩ = some (.int .i64 a0_2) := (blk_cell BK232.out 2).trans rfl; have hcz11_3 : w10.cell? ⟨gb232, 3, none⟩ = some (.int .i64 a0_3) := (blk_cell BK232.out 3).trans rfl; have hcz11_4 : w10.cell? ⟨gb232, 4, none⟩ = some (.int .i64 a0_4) := (blk_cell BK232.out 4).trans rfl; have hfz11_0 := blk_frozen BK232.out 0; have hfz11_1 := blk_frozen BK232.out 1; have hfz11_2 := blk_frozen BK232.out 2; have hfz11_3 := blk_frozen BK232.out 3; have hfz11_4 := blk_frozen BK232.out 4))
            go_ret
            exact ⟨by first | rfl | (simp [errW_none, errW_some] <;> rfl) | (simp [*, errW_none, errW_some] <;> rfl), by repeat (first | (with_reducible first | exact HB.out | apply below_alloc | apply pw_below_drewN | apply below_drew1 | refine below_set ?_ GE232.out) | exact HB.out)⟩
          · rw [if_neg c9] at H
            have c9b0 : (a0_2 == a2) = false := beq_eq_false_iff_ne.mpr c9
            have c9b1 : (a0_2 != a2) = true := bne_iff_ne.mpr c9
            obtain rfl := Option.some.inj H
            go_enter Try.func31, Try.ntmps31
            go_wp2_with (first | ((with_reducible refine gate_dst (N := 4) rfl ?_); refine box_event ?hg (N := 4) ?hd (cs := #[.int .i64 a0_0, .int .i64 a0_1, .int .i64 a0_2, .int .i64 a0_3, .int .i64 a0_4]) (t := 29) ?hr ?_; (case hd => rfl); (case hg => rfl); (case hr => first | (go_simp; done) | (go_simp; rfl)); intro gb232 hg w12 hbox hb; have n0_ := Aside0.mk (below_step (by repeat (first | (with_reducible first | exact HB.out | apply below_alloc | apply pw_below_drewN | apply below_drew1) | exact HB.out)) hb); have n1_ := Aside0.mk (hbox); have n2_ := Aside0.mk ((by rw [hg]; exact (below_size (by repeat (first | (with_reducible first | exact HB.out | apply below_alloc | apply pw_below_drewN | apply below_drew1) | exact HB.out))) : w.heap.size ≤ gb232)); have n3_ := Aside0.mk ((by rw [hg]; exact (below_size (by repeat (first | (with_reducible first | exact HB.out | apply below_alloc | apply pw_below_drewN | apply below_drew1) | exact HB.out))) : w.heap.size ≤ gb232)); clear HB; have HB := n0_; have BK232 := n1_; have GW232 := n2_; have GE232 := n3_; clear n0_ n1_ n2_ n3_; clear hb hbox hg; have hcz13_0 : w12.cell? ⟨gb232, 0, none⟩ = some (.int .i64 a0_0) := (blk_cell BK232.out 0).trans rfl; have hcz13_1 : w12.cell? ⟨gb232, 1, none⟩ = some (.int .i64 a0_1) := (blk_cell BK232.out 1).trans rfl; have hcz13_2 : w12.cell? ⟨gb232, 2, none⟩ = some (.int .i64 a0_2) := (blk_cell BK232.out 2).trans rfl; have hcz13_3 : w12.cell? ⟨gb232, 3, none⟩ = some (.int .i64 a0_3) := (blk_cell BK232.out 3).trans rfl; have hcz13_4 : w12.cell? ⟨gb232, 4, none⟩ = some (.int .i64 a0_4) := (blk_cell BK232.out 4).trans rfl; have hfz13_0 := blk_frozen BK232.out 0; have hfz13_1 := blk_frozen BK232.out 1; have hfz13_2 := blk_frozen BK232.out 2; have hfz13_3 := blk_frozen BK232.out 3; have hfz13_4 := blk_frozen BK232.out 4))
            go_ret
            exact ⟨by first | rfl | (simp [errW_none, errW_some] <;> rfl) | (simp [*, errW_none, errW_some] <;> rfl), by repeat (first | (with_reducible first | exact HB.out | apply below_alloc | apply pw_below_drewN | apply below_drew1 | refine below_set ?_ GE232.out) | exact HB.out)⟩
        · rw [if_neg c8] at H
          have c8b0 : (a0_3 == 1) = false := beq_eq_false_iff_ne.mpr c8
          have c8b1 : (a0_3 != 1) = true := bne_iff_ne.mpr c8
          obtain rfl := Option.some.inj H
          go_enter Try.func31, Try.ntmps31
          go_wp2_with (first | ((with_reducible refine gate_dst (N := 4) rfl ?_); refine box_event ?hg (N := 4) ?hd (cs := #[.int .i64 a0_0, .int .i64 a0_1, .int .i64 a0_2, .int .i64 a0_3, .int .i64 a0_4]) (t := 29) ?hr ?_; (case hd => rfl); (case hg => rfl); (case hr => first | (go_simp; done) | (go_simp; rfl)); intro gb232 hg w14 hbox hb; have n0_ := Aside0.mk (below_step (by repeat (first | (with_reducible first | exact HB.out | apply below_alloc | apply pw_below_drewN | apply below_drew1) | exact HB.out)) hb); have n1_ := Aside0.mk (hbox); have n2_ := Aside0.mk ((by rw [hg]; exact (below_size (by repeat (first | (with_reducible first | exact HB.out | apply below_alloc | apply pw_below_drewN | apply below_drew1) | exact HB.out))) : w.heap.size ≤ gb232)); have n3_ := Aside0.mk ((by rw [hg]; exact (below_size (by repeat (first | (with_reducible first | exact HB.out | apply below_alloc | apply pw_below_drewN | apply below_drew1) | exact HB.out))) : w.heap.size ≤ gb232)); clear HB; have HB := n0_; have BK232 := n1_; have GW232 := n2_; have GE232 := n3_; clear n0_ n1_ n2_ n3_; clear hb hbox hg; have hcz15_0 : w14.cell? ⟨gb232, 0, none⟩ = some (.int .i64 a0_0) := (blk_cell BK232.out 0).trans rfl; have hcz15_1 : w14.cell? ⟨gb232, 1, none⟩ = some (.int .i64 a0_1) := (blk_cell BK232.out 1).trans rfl; have hcz15_2 : w14.cell? ⟨gb232, 2, none⟩ = some (.int .i64 a0_2) := (blk_cell BK232.out 2).trans rfl; have hcz15_3 : w14.cell? ⟨gb232, 3, none⟩ = some (.int .i64 a0_3) := (blk_cell BK232.out 3).trans rfl; have hcz15_4 : w14.cell? ⟨gb232, 4, none⟩ = some (.int .i64 a0_4) := (blk_cell BK232.out 4).trans rfl; have hfz15_0 := blk_frozen BK232.out 0; have hfz15_1 := blk_frozen BK232.out 1; have hfz15_2 := blk_frozen BK232.out 2; have hfz15_3 := blk_frozen BK232.out 3; have hfz15_4 := blk_frozen BK232.out 4))
          go_ret
          exact ⟨by first | rfl | (simp [errW_none, errW_some] <;> rfl) | (simp [*, errW_none, errW_some] <;> rfl), by repeat (first | (with_reducible first | exact HB.out | apply below_alloc | apply pw_below_drewN | apply below_drew1 | refine below_set ?_ GE232.out) | exact HB.out)⟩
      · rw [if_neg c7] at H
        have c7b0 : (a0_1 == 6) = false := beq_eq_false_iff_ne.mpr c7
        have c7b1 : (a0_1 != 6) = true := bne_iff_ne.mpr c7
        obtain rfl := Option.some.inj H
        go_enter Try.func31, Try.ntmps31
        go_wp2_with (first | ((with_reducible refine gate_dst (N := 4) rfl ?_); refine box_event ?hg (N := 4) ?hd (cs := #[.int .i64 a0_0, .int .i64 a0_1, .int .i64 a0_2, .int .i64 a0_3, .int .i64 a0_4]) (t := 29) ?hr ?_; (case hd => rfl); (case hg => rfl); (case hr => first | (go_simp; done) | (go_simp; rfl)); intro gb232 hg w16 hbox hb; have n0_ := Aside0.mk (below_step (by repeat (first | (with_reducible first | exact HB.out | apply below_alloc | apply pw_below_drewN | apply below_drew1) | exact HB.out)) hb); have n1_ := Aside0.mk (hbox); have n2_ := Aside0.mk ((by rw [hg]; exact (below_size (by repeat (first | (with_reducible first | exact HB.out | apply below_alloc | apply pw_below_drewN | apply below_drew1) | exact HB.out))) : w.heap.size ≤ gb232)); have n3_ := Aside0.mk ((by rw [hg]; exact (below_size (by repeat (first | (with_reducible first | exact HB.out | apply below_alloc | apply pw_below_drewN | apply below_drew1) | exact HB.out))) : w.heap.size ≤ gb232)); clear HB; have HB := n0_; have BK232 := n1_; have GW232 := n2_; have GE232 := n3_; clear n0_ n1_ n2_ n3_; clear hb hbox hg; have hcz17_0 : w16.cell? ⟨gb232, 0, none⟩ = some (.int .i64 a0_0) := (blk_cell BK232.out 0).trans rfl; have hcz17_1 : w16.cell? ⟨gb232, 1, none⟩ = some (.int .i64 a0_1) := (blk_cell BK232.out 1).trans rfl; have hcz17_2 : w16.cell? ⟨gb232, 2, none⟩ = some (.int .i64 a0_2) := (blk_cell BK232.out 2).trans rfl; have hcz17_3 : w16.cell? ⟨gb232, 3, none⟩ = some (.int .i64 a0_3) := (blk_cell BK232.out 3).trans rfl; have hcz17_4 : w16.cell? ⟨gb232, 4, none⟩ = some (.int .i64 a0_4) := (blk_cell BK232.out 4).trans rfl; have hfz17_0 := blk_frozen BK232.out 0; have hfz17_1 := blk_frozen BK232.out 1; have hfz17_2 := blk_frozen BK232.out 2; have hfz17_3 := blk_frozen BK232.out 3; have hfz17_4 := blk_frozen BK232.out 4))
        go_ret
        exact ⟨by first | rfl | (simp [errW_none, errW_some] <;> rfl) | (simp [*, errW_none, errW_some] <;> rfl), by repeat (first | (with_reducible first | exact HB.out | apply below_alloc | apply pw_below_drewN | apply below_drew1 | refine below_set ?_ GE232.out) | exact HB.out)⟩
    · rw [if_neg c6] at H
      have c6b0 : (a0_0 == 0) = false := beq_eq_false_iff_ne.mpr c6
      have c6b1 : (a0_0 != 0) = true := bne_iff_ne.mpr c6
      obtain rfl := Option.some.inj H
      go_enter Try.func31, Try.ntmps31
      go_wp2_with (first | ((with_reducible refine gate_dst (N := 4) rfl ?_); refine box_event ?hg (N := 4) ?hd (cs := #[.int .i64 a0_0, .int .i64 a0_1, .int .i64 a0_2, .int .i64 a0_3, .int .i64 a0_4]) (t := 29) ?hr ?_; (case hd => rfl); (case hg => rfl); (case hr => first | (go_simp; done) | (go_simp; rfl)); intro gb232 hg w18 hbox hb; have n0_ := Aside0.mk (below_step (by repeat (first | (with_reducible first | exact HB.out | apply below_alloc | apply pw_below_drewN | apply below_drew1) | exact HB.out)) hb); have n1_ := Aside0.mk (hbox); have n2_ := Aside0.mk ((by rw [hg]; exact (below_size (by repeat (first | (with_reducible first | exact HB.out | apply below_alloc | apply pw_below_drewN | apply below_drew1) | exact HB.out))) : w.heap.size ≤ gb232)); have n3_ := Aside0.mk ((by rw [hg]; exact (below_size (by repeat (first | (with_reducible first | exact HB.out | apply below_alloc | apply pw_below_drewN | apply below_drew1) | exact HB.out))) : w.heap.size ≤ gb232)); clear HB; have HB := n0_; have BK232 := n1_; have GW232 := n2_; have GE232 := n3_; clear n0_ n1_ n2_ n3_; clear hb hbox hg; have hcz19_0 : w18.cell? ⟨gb232, 0, none⟩ = some (.int .i64 a0_0) := (blk_cell BK232.out 0).trans rfl; have hcz19_1 : w18.cell? ⟨gb232, 1, none⟩ = some (.int .i64 a0_1) := (blk_cell BK232.out 1).trans rfl; have hcz19_2 : w18.cell? ⟨gb232, 2, none⟩ = some (.int .i64 a0_2) := (blk_cell BK232.out 2).trans rfl; have hcz19_3 : w18.cell? ⟨gb232, 3, none⟩ = some (.int .i64 a0_3) := (blk_cell BK232.out 3).trans rfl; have hcz19_4 : w18.cell? ⟨gb232, 4, none⟩ = some (.int .i64 a0_4) := (blk_cell BK232.out 4).trans rfl; have hfz19_0 := blk_frozen BK232.out 0; have hfz19_1 := blk_frozen BK232.out 1; have hfz19_2 := blk_frozen BK232.out 2; have hfz19_3 := blk_frozen BK232.out 3; have hfz19_4 := blk_frozen BK232.out 4))
      go_ret
      exact ⟨by first | rfl | (simp [errW_none, errW_some] <;> rfl) | (simp [*, errW_none, errW_some] <;> rfl), by repeat (first | (with_reducible first | exact HB.out | apply below_alloc | apply pw_below_drewN | apply below_drew1 | refine below_set ?_ GE232.out) | exact HB.out)⟩
  · rw [if_neg c5] at H
    have c5b0 : (a1 == 0) = false := beq_eq_false_iff_ne.mpr c5
    have c5b1 : (a1 != 0) = true := bne_iff_ne.mpr c5
    obtain rfl := Option.some.inj H
    go_enter Try.func31, Try.ntmps31
    go_wp2_with (first | ((with_reducible refine gate_dst (N := 4) rfl ?_); refine box_event ?hg (N := 4) ?hd (cs := #[.int .i64 a0_0, .int .i64 a0_1, .int .i64 a0_2, .int .i64 a0_3, .int .i64 a0_4]) (t := 29) ?hr ?_; (case hd => rfl); (case hg => rfl); (case hr => first | (go_simp; done) | (go_simp; rfl)); intro gb232 hg w20 hbox hb; have n0_ := Aside0.mk (below_step (by repeat (first | (with_reducible first | exact HB.out | apply below_alloc | apply pw_below_drewN | apply below_drew1) | exact HB.out)) hb); have n1_ := Aside0.mk (hbox); have n2_ := Aside0.mk ((by rw [hg]; exact (below_size (by repeat (first | (with_reducible first | exact HB.out | apply below_alloc | apply pw_below_drewN | apply below_drew1) | exact HB.out))) : w.heap.size ≤ gb232)); have n3_ := Aside0.mk ((by rw [hg]; exact (below_size (by repeat (first | (with_reducible first | exact HB.out | apply below_alloc | apply pw_below_drewN | apply below_drew1) | exact HB.out))) : w.heap.size ≤ gb232)); clear HB; have HB := n0_; have BK232 := n1_; have GW232 := n2_; have GE232 := n3_; clear n0_ n1_ n2_ n3_; clear hb hbox hg))
    go_ret
    exact ⟨by first | rfl | (simp [errW_none, errW_some] <;> rfl) | (simp [*, errW_none, errW_some] <;> rfl), by repeat (first | (with_reducible first | exact HB.out | apply below_alloc | apply pw_below_drewN | apply below_drew1 | refine below_set ?_ GE232.out) | exact HB.out)⟩

/-! ### parquetrylaw18_awake: function 10: by hand -/
def parquetrylaw18_awake.f (k : Nat) : Option Bool := some true
theorem parquetrylaw18_awake.mono : ∀ k, LeO (parquetrylaw18_awake.f k) (parquetrylaw18_awake.f (k + 1)) := fun _ => LeO.refl _
def parquetrylaw18_awake.L : List S39 := [⟨0, 1, 0, 1, 1, 97⟩, ⟨1, 1, 1, 2, 1, 98⟩, ⟨2, 1, 2, 3, 1, 99⟩, ⟨3, 1, 3, 4, 1, 100⟩, ⟨4, 1, 4, 5, 1, 101⟩, ⟨5, 1, 5, 6, 1, 102⟩]
section
open Go.Proofs.YtieffcjbbhigbaaH
theorem parquetrylaw18_awake.six_at : parquetrylaw18_six.f 1000 = some (parquetrylaw18_awake.L, 0, 6, 6, 1, 0) := by kernel_rfl
theorem parquetrylaw18_awake.at0 : clip_Clip.f 40 parquetrylaw18_awake.L 0 6 6 1 0 6 = some (0, 6, 6, 1, 0, 0) := by kernel_rfl
theorem parquetrylaw18_awake.at1 : clip_Clip.f 40 parquetrylaw18_awake.L 0 6 6 1 0 5 = some (0, 6, 4, 1, 1, 0) := by kernel_rfl
theorem parquetrylaw18_awake.at2 : clip_Clip.f 40 parquetrylaw18_awake.L 0 6 6 1 0 1 = some (0, 6, 0, 1, 1, 0) := by kernel_rfl
theorem parquetrylaw18_awake.at3 : clip_Cut.f 40 parquetrylaw18_awake.L 0 6 6 1 0 6 = some (0, 6, 5, 1, 1, 0) := by kernel_rfl
theorem parquetrylaw18_awake.at4 : clip_Cut.f 40 parquetrylaw18_awake.L 0 6 6 1 0 9 = some (0, 6, 6, 1, 1, 0) := by kernel_rfl
theorem parquetrylaw18_awake.all_at : clip_All.f 40 parquetrylaw18_awake.L [⟨0, 6, 6, 1, 0⟩, ⟨0, 6, 6, 1, 0⟩] 9 1 = some ([⟨0, 6, 6, 1, 1⟩], 0) := by kernel_rfl
theorem parquetrylaw18_awake.blk5 {W : World} {g : Nat} {a b c d e : Value} (h : W.heap[g]? = some (.cells #[a, b, c, d, e] 29 (0, 0))) : W.cell? ⟨g, 0, none⟩ = some a ∧ W.cell? ⟨g, 1, none⟩ = some b ∧ W.cell? ⟨g, 2, none⟩ = some c ∧ W.cell? ⟨g, 3, none⟩ = some d ∧ W.cell? ⟨g, 4, none⟩ = some e := ⟨(blk_cell h 0).trans rfl, (blk_cell h 1).trans rfl, (blk_cell h 2).trans rfl, (blk_cell h 3).trans rfl, (blk_cell h 4).trans rfl⟩
theorem parquetrylaw18_awake.first {W : World} {base : Nat} {A : Option Addr} {n c : Nat} (h : Kd.R k29 29 W base (fun _ => True) (.slice A n c) [(⟨0, 6, 6, 1, 1⟩ : S29)]) : ∃ g, A = some ⟨g, 0, none⟩ ∧ W.cell? ⟨g, 0, none⟩ = some (.int .i64 0) ∧ W.cell? ⟨g, 1, none⟩ = some (.int .i64 6) ∧ W.cell? ⟨g, 2, none⟩ = some (.int .i64 6) ∧ W.cell? ⟨g, 3, none⟩ = some (.int .i64 1) ∧ W.cell? ⟨g, 4, none⟩ = some (.int .i64 1) := by
  obtain ⟨g, c', he, -, -, -⟩ := Kd.R_form h (by simp)
  injection he with hA hn hc
  subst hA
  obtain ⟨ad, hA, hcell⟩ := (Kd.R_reads' h).2.2.2.2 (by simp)
  injection hA with hA
  subst hA
  obtain ⟨cs, _, hK, hcc⟩ := hcell 0 _ rfl
  obtain rfl := k29_open hK
  have ea : ∀ m, (⟨g, 0, none⟩ : Addr).add m = ⟨g, m, none⟩ := fun m => by
    by_cases h0 : m = 0
    · rw [h0]; rfl
    · simp [Addr.add, h0]
  refine ⟨g, rfl, ?_, ?_, ?_, ?_, ?_⟩
  · have := hcc 0 _ rfl
    rw [ea] at this
    exact this
  · have := hcc 1 _ rfl
    rw [ea] at this
    exact this
  · have := hcc 2 _ rfl
    rw [ea] at this
    exact this
  · have := hcc 3 _ rfl
    rw [ea] at this
    exact this
  · have := hcc 4 _ rfl
    rw [ea] at this
    exact this
theorem parquetrylaw18_awake.block_load {P : Program} {ops : Array Oper} {rest : List Oper} {o : Oper} {a : Act} {Q : Exit → Act → World → Prop} {W : World} (hgd : o.guard = none) (t : TypeId) (p : Operand) (ho : o.op = .load t p) {g e : Nat} {cs : Array Value} (hp : a.eval p = .pointer (some ⟨g, 0, none⟩)) (hb : W.heap[g]? = some (.cells cs e (0, 0))) (d : TypeDesc)
    (hu : P.underlying t = some d) (hd : (match d with | .struct _ | .array _ _ => true | _ => false) = true) (hi : (P.info? t).map (·.size) = some cs.size) (hw : wpList P ops Q rest (a.put o.dst (.agg cs)) W) : wpList P ops Q (o :: rest) a W := by
  refine agg_load hgd t p ho ⟨g, 0, none⟩ hp cs.toList d hu hd (by rw [Array.length_toList]; exact hi) (fun j v hj => ?_) hw
  have e : (⟨g, 0, none⟩ : Addr).add j = ⟨g, j, none⟩ := by
    by_cases h0 : j = 0
    · rw [h0]; rfl
    · simp [Addr.add, h0]
  rw [e, blk_cell hb j]
  simpa using hj
theorem parquetrylaw18_awake.five_load {P : Program} {ops : Array Oper} {rest : List Oper} {o : Oper} {a : Act} {Q : Exit → Act → World → Prop} {W : World} (hgd : o.guard = none) (t : TypeId) (p : Operand) (ho : o.op = .load t p) {g : Nat} (hp : a.eval p = .pointer (some ⟨g, 0, none⟩)) {x0 x1 x2 x3 x4 : Value} (hb : W.cell? ⟨g, 0, none⟩ = some x0 ∧ W.cell? ⟨g, 1, none⟩ = some x1 ∧ W.cell? ⟨g, 2, none⟩ = some x2 ∧ W.cell? ⟨g, 3, none⟩ = some x3 ∧ W.cell? ⟨g, 4, none⟩ = some x4) (d : TypeDesc)
    (hu : P.underlying t = some d) (hd : (match d with | .struct _ | .array _ _ => true | _ => false) = true) (hi : (P.info? t).map (·.size) = some 5) (hw : wpList P ops Q rest (a.put o.dst (.agg #[x0, x1, x2, x3, x4])) W) : wpList P ops Q (o :: rest) a W := by
  refine agg_load hgd t p ho ⟨g, 0, none⟩ hp [x0, x1, x2, x3, x4] d hu hd hi (fun j v hj => ?_) hw
  have e : (⟨g, 0, none⟩ : Addr).add j = ⟨g, j, none⟩ := by
    by_cases h0 : j = 0
    · rw [h0]; rfl
    · simp [Addr.add, h0]
  rw [e]
  match j, hj with
  | 0, hj => obtain rfl := Option.some.inj hj; exact hb.1
  | 1, hj => obtain rfl := Option.some.inj hj; exact hb.2.1
  | 2, hj => obtain rfl := Option.some.inj hj; exact hb.2.2.1
  | 3, hj => obtain rfl := Option.some.inj hj; exact hb.2.2.2.1
  | 4, hj => obtain rfl := Option.some.inj hj; exact hb.2.2.2.2
  | n + 5, hj => simp at hj
theorem parquetrylaw18_awake.five_below {W W' : World} {g : Nat} {x0 x1 x2 x3 x4 : Value} (h : W.cell? ⟨g, 0, none⟩ = some x0 ∧ W.cell? ⟨g, 1, none⟩ = some x1 ∧ W.cell? ⟨g, 2, none⟩ = some x2 ∧ W.cell? ⟨g, 3, none⟩ = some x3 ∧ W.cell? ⟨g, 4, none⟩ = some x4) (hb : Below W.heap.size W W') : W'.cell? ⟨g, 0, none⟩ = some x0 ∧ W'.cell? ⟨g, 1, none⟩ = some x1 ∧ W'.cell? ⟨g, 2, none⟩ = some x2 ∧ W'.cell? ⟨g, 3, none⟩ = some x3 ∧ W'.cell? ⟨g, 4, none⟩ = some x4 :=
  ⟨pw_cell_below hb h.1, pw_cell_below hb h.2.1, pw_cell_below hb h.2.2.1, pw_cell_below hb h.2.2.2.1, pw_cell_below hb h.2.2.2.2⟩
set_option maxHeartbeats 8000000 in
set_option maxRecDepth 100000 in
theorem parquetrylaw18_awake.calls (k : Nat) (r : Bool) (w : World) (h : parquetrylaw18_awake.f k = some r) : Calls Try.prog 10 #[] w fun e w' => e = .returned (.bool r) ∧ Below w.heap.size w w' := by
  obtain rfl : true = r := Option.some.inj h
  clear h
  have HB := Aside0.mk (Below.refl w.heap.size w)
  go_enter Try.func10, Try.ntmps10
  go_upto_region 2 with (go_at_call 30; refine (parquetrylaw18_six.calls 1000 parquetrylaw18_awake.L 0 6 6 1 0 _ parquetrylaw18_awake.six_at).mono ?_; rintro e w1 ⟨v0, rfl, hO, hb1⟩; obtain ⟨A, c, rfl⟩ := Kd.R_slice hO; have HO := Aside0.mk hO; have n0_ := Aside0.mk (below_step HB.out hb1); clear HB hb1 hO; have HB := n0_; clear n0_)
  have m1_ := Aside0.mk (blk_new w1 (.cells #[.int .i64 0, .int .i64 6, .int .i64 6, .int .i64 1, .int .i64 0] 29 (0, 0)))
  have n0_ := Aside0.mk (below_alloc HB.out (.cells #[.int .i64 0, .int .i64 6, .int .i64 6, .int .i64 1, .int .i64 0] 29 (0, 0)))
  have n1_ := Aside0.mk (Kd.R_alloc HO.out (.cells #[.int .i64 0, .int .i64 6, .int .i64 6, .int .i64 1, .int .i64 0] 29 (0, 0)))
  clear HB HO 
  generalize hW_ : w1.alloc (.cells #[.int .i64 0, .int .i64 6, .int .i64 6, .int .i64 1, .int .i64 0] 29 (0, 0)) = wa0 at m1_ n0_ n1_  ⊢
  clear hW_
  have HB := n0_
  have HO := n1_
  have K1 := m1_
  clear n0_ n1_ m1_
  obtain ⟨x0, x1, x2, x3, x4⟩ := parquetrylaw18_awake.blk5 K1.out
  have hl := blk_lt K1.out
  go_upto_region 3 with (go_at_call 12; refine (clip_Clip.calls 40 A c parquetrylaw18_awake.L 0 6 6 1 0 6 0 6 6 1 0 0 _ (Kd.R_reads' HO.out).2.2 (Kd.R_reads' HO.out).2.1 parquetrylaw18_awake.at0).mono ?_; rintro e w2 ⟨rfl, hb⟩; have n0_ := Aside0.mk (below_step HB.out hb); have n1_ := Aside0.mk (Kd.R_below HO.out hb); have m1_ := Aside0.mk (blk_below K1.out hb); clear HB HO hb x0 x1 x2 x3 x4 hl K1; have HB := n0_; have HO := n1_; clear n0_ n1_; have K1 := m1_; clear m1_)
  have m1_ := Aside0.mk (blk_alloc K1.out (.cells #[.int .i64 0, .int .i64 6, .int .i64 6, .int .i64 1, .int .i64 0] 29 (0, 0)))
  have m2_ := Aside0.mk (blk_new w2 (.cells #[.int .i64 0, .int .i64 6, .int .i64 6, .int .i64 1, .int .i64 0] 29 (0, 0)))
  have n0_ := Aside0.mk (below_alloc HB.out (.cells #[.int .i64 0, .int .i64 6, .int .i64 6, .int .i64 1, .int .i64 0] 29 (0, 0)))
  have n1_ := Aside0.mk (Kd.R_alloc HO.out (.cells #[.int .i64 0, .int .i64 6, .int .i64 6, .int .i64 1, .int .i64 0] 29 (0, 0)))
  clear HB HO K1
  generalize hW_ : w2.alloc (.cells #[.int .i64 0, .int .i64 6, .int .i64 6, .int .i64 1, .int .i64 0] 29 (0, 0)) = wa1 at m2_ n0_ n1_ m1_ ⊢
  clear hW_
  have HB := n0_
  have HO := n1_
  have K1 := m1_
  have K2 := m2_
  clear n0_ n1_ m1_ m2_
  obtain ⟨x0, x1, x2, x3, x4⟩ := parquetrylaw18_awake.blk5 K1.out
  have hl := blk_lt K1.out
  go_upto_region 4 with (go_at_call 12; refine (clip_Clip.calls 40 A c parquetrylaw18_awake.L 0 6 6 1 0 5 0 6 4 1 1 0 _ (Kd.R_reads' HO.out).2.2 (Kd.R_reads' HO.out).2.1 parquetrylaw18_awake.at1).mono ?_; rintro e w3 ⟨rfl, hb⟩; have n0_ := Aside0.mk (below_step HB.out hb); have n1_ := Aside0.mk (Kd.R_below HO.out hb); have m1_ := Aside0.mk (blk_below K1.out hb); have m2_ := Aside0.mk (blk_below K2.out hb); clear HB HO hb x0 x1 x2 x3 x4 hl K1 K2; have HB := n0_; have HO := n1_; clear n0_ n1_; have K1 := m1_; clear m1_; have K2 := m2_; clear m2_)
  have m1_ := Aside0.mk (blk_alloc K1.out (.cells #[.int .i64 0, .int .i64 6, .int .i64 4, .int .i64 1, .int .i64 1] 29 (0, 0)))
  have m2_ := Aside0.mk (blk_alloc K2.out (.cells #[.int .i64 0, .int .i64 6, .int .i64 4, .int .i64 1, .int .i64 1] 29 (0, 0)))
  have m3_ := Aside0.mk (blk_new w3 (.cells #[.int .i64 0, .int .i64 6, .int .i64 4, .int .i64 1, .int .i64 1] 29 (0, 0)))
  have n0_ := Aside0.mk (below_alloc HB.out (.cells #[.int .i64 0, .int .i64 6, .int .i64 4, .int .i64 1, .int .i64 1] 29 (0, 0)))
  have n1_ := Aside0.mk (Kd.R_alloc HO.out (.cells #[.int .i64 0, .int .i64 6, .int .i64 4, .int .i64 1, .int .i64 1] 29 (0, 0)))
  clear HB HO K1 K2
  generalize hW_ : w3.alloc (.cells #[.int .i64 0, .int .i64 6, .int .i64 4, .int .i64 1, .int .i64 1] 29 (0, 0)) = wa2 at m3_ n0_ n1_ m1_ m2_ ⊢
  clear hW_
  have HB := n0_
  have HO := n1_
  have K1 := m1_
  have K2 := m2_
  have K3 := m3_
  clear n0_ n1_ m1_ m2_ m3_
  obtain ⟨x0, x1, x2, x3, x4⟩ := parquetrylaw18_awake.blk5 K1.out
  have hl := blk_lt K1.out
  go_upto_region 5 with (go_at_call 12; refine (clip_Clip.calls 40 A c parquetrylaw18_awake.L 0 6 6 1 0 1 0 6 0 1 1 0 _ (Kd.R_reads' HO.out).2.2 (Kd.R_reads' HO.out).2.1 parquetrylaw18_awake.at2).mono ?_; rintro e w4 ⟨rfl, hb⟩; have n0_ := Aside0.mk (below_step HB.out hb); have n1_ := Aside0.mk (Kd.R_below HO.out hb); have m1_ := Aside0.mk (blk_below K1.out hb); have m2_ := Aside0.mk (blk_below K2.out hb); have m3_ := Aside0.mk (blk_below K3.out hb); clear HB HO hb x0 x1 x2 x3 x4 hl K1 K2 K3; have HB := n0_; have HO := n1_; clear n0_ n1_; have K1 := m1_; clear m1_; have K2 := m2_; clear m2_; have K3 := m3_; clear m3_)
  have m1_ := Aside0.mk (blk_alloc K1.out (.cells #[.int .i64 0, .int .i64 6, .int .i64 0, .int .i64 1, .int .i64 1] 29 (0, 0)))
  have m2_ := Aside0.mk (blk_alloc K2.out (.cells #[.int .i64 0, .int .i64 6, .int .i64 0, .int .i64 1, .int .i64 1] 29 (0, 0)))
  have m3_ := Aside0.mk (blk_alloc K3.out (.cells #[.int .i64 0, .int .i64 6, .int .i64 0, .int .i64 1, .int .i64 1] 29 (0, 0)))
  have m4_ := Aside0.mk (blk_new w4 (.cells #[.int .i64 0, .int .i64 6, .int .i64 0, .int .i64 1, .int .i64 1] 29 (0, 0)))
  have n0_ := Aside0.mk (below_alloc HB.out (.cells #[.int .i64 0, .int .i64 6, .int .i64 0, .int .i64 1, .int .i64 1] 29 (0, 0)))
  have n1_ := Aside0.mk (Kd.R_alloc HO.out (.cells #[.int .i64 0, .int .i64 6, .int .i64 0, .int .i64 1, .int .i64 1] 29 (0, 0)))
  clear HB HO K1 K2 K3
  generalize hW_ : w4.alloc (.cells #[.int .i64 0, .int .i64 6, .int .i64 0, .int .i64 1, .int .i64 1] 29 (0, 0)) = wa3 at m4_ n0_ n1_ m1_ m2_ m3_ ⊢
  clear hW_
  have HB := n0_
  have HO := n1_
  have K1 := m1_
  have K2 := m2_
  have K3 := m3_
  have K4 := m4_
  clear n0_ n1_ m1_ m2_ m3_ m4_
  obtain ⟨x0, x1, x2, x3, x4⟩ := parquetrylaw18_awake.blk5 K1.out
  have hl := blk_lt K1.out
  go_upto_region 6 with (go_at_call 13; refine (clip_Cut.calls 40 A c parquetrylaw18_awake.L 0 6 6 1 0 6 0 6 5 1 1 0 _ (Kd.R_reads' HO.out).2.2 (Kd.R_reads' HO.out).2.1 parquetrylaw18_awake.at3).mono ?_; rintro e w5 ⟨rfl, hb⟩; have n0_ := Aside0.mk (below_step HB.out hb); have n1_ := Aside0.mk (Kd.R_below HO.out hb); have m1_ := Aside0.mk (blk_below K1.out hb); have m2_ := Aside0.mk (blk_below K2.out hb); have m3_ := Aside0.mk (blk_below K3.out hb); have m4_ := Aside0.mk (blk_below K4.out hb); clear HB HO hb x0 x1 x2 x3 x4 hl K1 K2 K3 K4; have HB := n0_; have HO := n1_; clear n0_ n1_; have K1 := m1_; clear m1_; have K2 := m2_; clear m2_; have K3 := m3_; clear m3_; have K4 := m4_; clear m4_)
  have m1_ := Aside0.mk (blk_alloc K1.out (.cells #[.int .i64 0, .int .i64 6, .int .i64 5, .int .i64 1, .int .i64 1] 29 (0, 0)))
  have m2_ := Aside0.mk (blk_alloc K2.out (.cells #[.int .i64 0, .int .i64 6, .int .i64 5, .int .i64 1, .int .i64 1] 29 (0, 0)))
  have m3_ := Aside0.mk (blk_alloc K3.out (.cells #[.int .i64 0, .int .i64 6, .int .i64 5, .int .i64 1, .int .i64 1] 29 (0, 0)))
  have m4_ := Aside0.mk (blk_alloc K4.out (.cells #[.int .i64 0, .int .i64 6, .int .i64 5, .int .i64 1, .int .i64 1] 29 (0, 0)))
  have m5_ := Aside0.mk (blk_new w5 (.cells #[.int .i64 0, .int .i64 6, .int .i64 5, .int .i64 1, .int .i64 1] 29 (0, 0)))
  have n0_ := Aside0.mk (below_alloc HB.out (.cells #[.int .i64 0, .int .i64 6, .int .i64 5, .int .i64 1, .int .i64 1] 29 (0, 0)))
  have n1_ := Aside0.mk (Kd.R_alloc HO.out (.cells #[.int .i64 0, .int .i64 6, .int .i64 5, .int .i64 1, .int .i64 1] 29 (0, 0)))
  clear HB HO K1 K2 K3 K4
  generalize hW_ : w5.alloc (.cells #[.int .i64 0, .int .i64 6, .int .i64 5, .int .i64 1, .int .i64 1] 29 (0, 0)) = wa4 at m5_ n0_ n1_ m1_ m2_ m3_ m4_ ⊢
  clear hW_
  have HB := n0_
  have HO := n1_
  have K1 := m1_
  have K2 := m2_
  have K3 := m3_
  have K4 := m4_
  have K5 := m5_
  clear n0_ n1_ m1_ m2_ m3_ m4_ m5_
  obtain ⟨x0, x1, x2, x3, x4⟩ := parquetrylaw18_awake.blk5 K1.out
  have hl := blk_lt K1.out
  go_upto_region 7 with (go_at_call 13; refine (clip_Cut.calls 40 A c parquetrylaw18_awake.L 0 6 6 1 0 9 0 6 6 1 1 0 _ (Kd.R_reads' HO.out).2.2 (Kd.R_reads' HO.out).2.1 parquetrylaw18_awake.at4).mono ?_; rintro e w6 ⟨rfl, hb⟩; have n0_ := Aside0.mk (below_step HB.out hb); have n1_ := Aside0.mk (Kd.R_below HO.out hb); have m1_ := Aside0.mk (blk_below K1.out hb); have m2_ := Aside0.mk (blk_below K2.out hb); have m3_ := Aside0.mk (blk_below K3.out hb); have m4_ := Aside0.mk (blk_below K4.out hb); have m5_ := Aside0.mk (blk_below K5.out hb); clear HB HO hb x0 x1 x2 x3 x4 hl K1 K2 K3 K4 K5; have HB := n0_; have HO := n1_; clear n0_ n1_; have K1 := m1_; clear m1_; have K2 := m2_; clear m2_; have K3 := m3_; clear m3_; have K4 := m4_; clear m4_; have K5 := m5_; clear m5_)
  have m1_ := Aside0.mk (blk_alloc K1.out (.cells #[.int .i64 0, .int .i64 6, .int .i64 6, .int .i64 1, .int .i64 1] 29 (0, 0)))
  have m2_ := Aside0.mk (blk_alloc K2.out (.cells #[.int .i64 0, .int .i64 6, .int .i64 6, .int .i64 1, .int .i64 1] 29 (0, 0)))
  have m3_ := Aside0.mk (blk_alloc K3.out (.cells #[.int .i64 0, .int .i64 6, .int .i64 6, .int .i64 1, .int .i64 1] 29 (0, 0)))
  have m4_ := Aside0.mk (blk_alloc K4.out (.cells #[.int .i64 0, .int .i64 6, .int .i64 6, .int .i64 1, .int .i64 1] 29 (0, 0)))
  have m5_ := Aside0.mk (blk_alloc K5.out (.cells #[.int .i64 0, .int .i64 6, .int .i64 6, .int .i64 1, .int .i64 1] 29 (0, 0)))
  have m6_ := Aside0.mk (blk_new w6 (.cells #[.int .i64 0, .int .i64 6, .int .i64 6, .int .i64 1, .int .i64 1] 29 (0, 0)))
  have n0_ := Aside0.mk (below_alloc HB.out (.cells #[.int .i64 0, .int .i64 6, .int .i64 6, .int .i64 1, .int .i64 1] 29 (0, 0)))
  have n1_ := Aside0.mk (Kd.R_alloc HO.out (.cells #[.int .i64 0, .int .i64 6, .int .i64 6, .int .i64 1, .int .i64 1] 29 (0, 0)))
  clear HB HO K1 K2 K3 K4 K5
  generalize hW_ : w6.alloc (.cells #[.int .i64 0, .int .i64 6, .int .i64 6, .int .i64 1, .int .i64 1] 29 (0, 0)) = wa5 at m6_ n0_ n1_ m1_ m2_ m3_ m4_ m5_ ⊢
  clear hW_
  have HB := n0_
  have HO := n1_
  have K1 := m1_
  have K2 := m2_
  have K3 := m3_
  have K4 := m4_
  have K5 := m5_
  have K6 := m6_
  clear n0_ n1_ m1_ m2_ m3_ m4_ m5_ m6_
  obtain ⟨x0, x1, x2, x3, x4⟩ := parquetrylaw18_awake.blk5 K1.out
  have hl := blk_lt K1.out
  go_upto_region 8 with (first | ((with_reducible refine gate_dst (N := 53) rfl ?_); refine Kd.R_lit k29 (w0 := wa5) wa5.heap.size 29 rfl (N := 53) rfl (xs := [(⟨0, 6, 6, 1, 0⟩ : S29), ⟨0, 6, 6, 1, 0⟩]) (inner := [.int .i64 0, .int .i64 6, .int .i64 6, .int .i64 1, .int .i64 0, .int .i64 0, .int .i64 6, .int .i64 6, .int .i64 1, .int .i64 0]) (ok := fun _ => True) (okp := fun _ => True) ?hr ?hp (fun _ hk => hk) trivial (Below.refl _ _) (Nat.le_refl _) (by simp) ?_; (case hr => first | (go_simp; done) | (go_simp; rfl)); (case hp => exact Reps.c5 (show Kd.M k29 _ _ _ (⟨0, 6, 6, 1, 0⟩ : S29) [.int .i64 0, .int .i64 6, .int .i64 6, .int .i64 1, .int .i64 0] from k29_mkM _ _ _ _) (Reps.c5 (show Kd.M k29 _ _ _ (⟨0, 6, 6, 1, 0⟩ : S29) [.int .i64 0, .int .i64 6, .int .i64 6, .int .i64 1, .int .i64 0] from k29_mkM _ _ _ _) (Reps.none _ _))); intro v9 w9 ho hb hg hat; obtain ⟨A9, c9, rfl⟩ := Kd.R_slice ho; have H9 := Aside0.mk ho; have n0_ := Aside0.mk (below_step HB.out hb); have n1_ := Aside0.mk (Kd.R_below HO.out hb); have m2_ := Aside0.mk (blk_below K2.out hb); have m3_ := Aside0.mk (blk_below K3.out hb); have m4_ := Aside0.mk (blk_below K4.out hb); have m5_ := Aside0.mk (blk_below K5.out hb); have m6_ := Aside0.mk (blk_below K6.out hb); clear HB HO hb K2 K3 K4 K5 K6; have HB := n0_; have HO := n1_; clear n0_ n1_; have K2 := m2_; clear m2_; have K3 := m3_; clear m3_; have K4 := m4_; clear m4_; have K5 := m5_; clear m5_; have K6 := m6_; clear m6_; clear ho hg hat x0 x1 x2 x3 x4 hl) | (go_at_call 11; refine (clip_All.calls 40 A c parquetrylaw18_awake.L A9 c9 [(⟨0, 6, 6, 1, 0⟩ : S29), ⟨0, 6, 6, 1, 0⟩] 9 1 [⟨0, 6, 6, 1, 1⟩] 0 _ (Kd.R_reads' HO.out).2.2 (Kd.R_reads' HO.out).2.1 (Kd.R_reads' H9.out).2.2 (Kd.R_reads' H9.out).2.1 parquetrylaw18_awake.all_at).mono ?_; rintro e w10 ⟨v10, rfl, ho, hb⟩; have H10 := Aside0.mk ho; have n0_ := Aside0.mk (below_step HB.out hb); have n1_ := Aside0.mk (Kd.R_below HO.out hb); have m2_ := Aside0.mk (blk_below K2.out hb); have m3_ := Aside0.mk (blk_below K3.out hb); have m4_ := Aside0.mk (blk_below K4.out hb); have m5_ := Aside0.mk (blk_below K5.out hb); have m6_ := Aside0.mk (blk_below K6.out hb); clear HB HO hb K2 K3 K4 K5 K6; have HB := n0_; have HO := n1_; clear n0_ n1_; have K2 := m2_; clear m2_; have K3 := m3_; clear m3_; have K4 := m4_; clear m4_; have K5 := m5_; clear m5_; have K6 := m6_; clear m6_; clear ho H9))
  obtain ⟨A10, c10, rfl⟩ := Kd.R_slice H10.out
  obtain ⟨gq, rfl, zz⟩ := parquetrylaw18_awake.first H10.out
  have Z := Aside0.mk zz
  clear zz K1
  refine wp_region_list ?_
  refine parquetrylaw18_awake.block_load rfl 29 (.tmp 3) rfl (by kernel_rfl) K2.out _ Try.underlying29 rfl (by kernel_rfl) ?_
  simp only [Act.put, List.setIfInBounds_toArray, List.set_cons_succ, List.set_cons_zero]
  refine Kd.event_run (w1 := w10) (v := .int .i64 0) rfl (by kernel_rfl) ?_
  simp only [Act.put, List.setIfInBounds_toArray, List.set_cons_succ, List.set_cons_zero]
  refine goesL_ (some 59) rfl rfl Try.func31 (by kernel_rfl) rfl #[.agg #[.int .i64 0, .int .i64 6, .int .i64 6, .int .i64 1, .int .i64 0], .int .i64 0, .int .i64 6, .int .i64 0] rfl (by kernel_rfl) ?_
  refine (parquetrylaw18_is.calls 0 6 6 1 0 0 6 0 true _ rfl).mono ?_
  rintro e w11 ⟨rfl, hb⟩
  refine ⟨_, rfl, ?_⟩
  simp only [Act.put, List.setIfInBounds_toArray, List.set_cons_succ, List.set_cons_zero]
  have n0_ := Aside0.mk (below_step HB.out hb)
  have n2_ := Aside0.mk (parquetrylaw18_awake.five_below Z.out hb)
  have m3_ := Aside0.mk (blk_below K3.out hb)
  have m4_ := Aside0.mk (blk_below K4.out hb)
  have m5_ := Aside0.mk (blk_below K5.out hb)
  have m6_ := Aside0.mk (blk_below K6.out hb)
  clear HB Z hb K3 K4 K5 K6
  have HB := n0_
  have Z := n2_
  clear n0_ n2_
  have K3 := m3_
  clear m3_
  have K4 := m4_
  clear m4_
  have K5 := m5_
  clear m5_
  have K6 := m6_
  clear m6_
  refine Kd.event_run (w1 := w11) (v := .bool true) rfl (by kernel_rfl) ?_
  simp only [Act.put, List.setIfInBounds_toArray, List.set_cons_succ, List.set_cons_zero]
  refine gate_guard (by kernel_rfl) ?_
  dsimp only
  refine parquetrylaw18_awake.block_load rfl 29 (.tmp 5) rfl (by kernel_rfl) K3.out _ Try.underlying29 rfl (by kernel_rfl) ?_
  simp only [Act.put, List.setIfInBounds_toArray, List.set_cons_succ, List.set_cons_zero]
  refine gate_guard (by kernel_rfl) ?_
  dsimp only
  refine Kd.event_run (w1 := w11) (v := .int .i64 0) rfl (by kernel_rfl) ?_
  simp only [Act.put, List.setIfInBounds_toArray, List.set_cons_succ, List.set_cons_zero]
  refine gate_guard (by kernel_rfl) ?_
  dsimp only
  refine goesL_ (some 63) rfl rfl Try.func31 (by kernel_rfl) rfl #[.agg #[.int .i64 0, .int .i64 6, .int .i64 4, .int .i64 1, .int .i64 1], .int .i64 0, .int .i64 4, .int .i64 1] rfl (by kernel_rfl) ?_
  refine (parquetrylaw18_is.calls 0 6 4 1 1 0 4 1 true _ rfl).mono ?_
  rintro e w12 ⟨rfl, hb⟩
  refine ⟨_, rfl, ?_⟩
  simp only [Act.put, List.setIfInBounds_toArray, List.set_cons_succ, List.set_cons_zero]
  have n0_ := Aside0.mk (below_step HB.out hb)
  have n2_ := Aside0.mk (parquetrylaw18_awake.five_below Z.out hb)
  have m4_ := Aside0.mk (blk_below K4.out hb)
  have m5_ := Aside0.mk (blk_below K5.out hb)
  have m6_ := Aside0.mk (blk_below K6.out hb)
  clear HB Z hb K4 K5 K6
  have HB := n0_
  have Z := n2_
  clear n0_ n2_
  have K4 := m4_
  clear m4_
  have K5 := m5_
  clear m5_
  have K6 := m6_
  clear m6_
  refine Kd.event_run (w1 := w12) (v := .bool true) rfl (by kernel_rfl) ?_
  simp only [Act.put, List.setIfInBounds_toArray, List.set_cons_succ, List.set_cons_zero]
  refine Kd.event_run (w1 := w12) (v := .bool true) rfl (by kernel_rfl) ?_
  simp only [Act.put, List.setIfInBounds_toArray, List.set_cons_succ, List.set_cons_zero]
  refine gate_guard (by kernel_rfl) ?_
  dsimp only
  refine parquetrylaw18_awake.block_load rfl 29 (.tmp 7) rfl (by kernel_rfl) K4.out _ Try.underlying29 rfl (by kernel_rfl) ?_
  simp only [Act.put, List.setIfInBounds_toArray, List.set_cons_succ, List.set_cons_zero]
  refine gate_guard (by kernel_rfl) ?_
  dsimp only
  refine Kd.event_run (w1 := w12) (v := .int .i64 0) rfl (by kernel_rfl) ?_
  simp only [Act.put, List.setIfInBounds_toArray, List.set_cons_succ, List.set_cons_zero]
  refine gate_guard (by kernel_rfl) ?_
  dsimp only
  refine goesL_ (some 68) rfl rfl Try.func31 (by kernel_rfl) rfl #[.agg #[.int .i64 0, .int .i64 6, .int .i64 0, .int .i64 1, .int .i64 1], .int .i64 0, .int .i64 0, .int .i64 1] rfl (by kernel_rfl) ?_
  refine (parquetrylaw18_is.calls 0 6 0 1 1 0 0 1 true _ rfl).mono ?_
  rintro e w13 ⟨rfl, hb⟩
  refine ⟨_, rfl, ?_⟩
  simp only [Act.put, List.setIfInBounds_toArray, List.set_cons_succ, List.set_cons_zero]
  have n0_ := Aside0.mk (below_step HB.out hb)
  have n2_ := Aside0.mk (parquetrylaw18_awake.five_below Z.out hb)
  have m5_ := Aside0.mk (blk_below K5.out hb)
  have m6_ := Aside0.mk (blk_below K6.out hb)
  clear HB Z hb K5 K6
  have HB := n0_
  have Z := n2_
  clear n0_ n2_
  have K5 := m5_
  clear m5_
  have K6 := m6_
  clear m6_
  refine Kd.event_run (w1 := w13) (v := .bool true) rfl (by kernel_rfl) ?_
  simp only [Act.put, List.setIfInBounds_toArray, List.set_cons_succ, List.set_cons_zero]
  refine Kd.event_run (w1 := w13) (v := .bool true) rfl (by kernel_rfl) ?_
  simp only [Act.put, List.setIfInBounds_toArray, List.set_cons_succ, List.set_cons_zero]
  refine gate_guard (by kernel_rfl) ?_
  dsimp only
  refine parquetrylaw18_awake.block_load rfl 29 (.tmp 9) rfl (by kernel_rfl) K5.out _ Try.underlying29 rfl (by kernel_rfl) ?_
  simp only [Act.put, List.setIfInBounds_toArray, List.set_cons_succ, List.set_cons_zero]
  refine gate_guard (by kernel_rfl) ?_
  dsimp only
  refine Kd.event_run (w1 := w13) (v := .int .i64 0) rfl (by kernel_rfl) ?_
  simp only [Act.put, List.setIfInBounds_toArray, List.set_cons_succ, List.set_cons_zero]
  refine gate_guard (by kernel_rfl) ?_
  dsimp only
  refine goesL_ (some 73) rfl rfl Try.func31 (by kernel_rfl) rfl #[.agg #[.int .i64 0, .int .i64 6, .int .i64 5, .int .i64 1, .int .i64 1], .int .i64 0, .int .i64 5, .int .i64 1] rfl (by kernel_rfl) ?_
  refine (parquetrylaw18_is.calls 0 6 5 1 1 0 5 1 true _ rfl).mono ?_
  rintro e w14 ⟨rfl, hb⟩
  refine ⟨_, rfl, ?_⟩
  simp only [Act.put, List.setIfInBounds_toArray, List.set_cons_succ, List.set_cons_zero]
  have n0_ := Aside0.mk (below_step HB.out hb)
  have n2_ := Aside0.mk (parquetrylaw18_awake.five_below Z.out hb)
  have m6_ := Aside0.mk (blk_below K6.out hb)
  clear HB Z hb K6
  have HB := n0_
  have Z := n2_
  clear n0_ n2_
  have K6 := m6_
  clear m6_
  refine Kd.event_run (w1 := w14) (v := .bool true) rfl (by kernel_rfl) ?_
  simp only [Act.put, List.setIfInBounds_toArray, List.set_cons_succ, List.set_cons_zero]
  refine Kd.event_run (w1 := w14) (v := .bool true) rfl (by kernel_rfl) ?_
  simp only [Act.put, List.setIfInBounds_toArray, List.set_cons_succ, List.set_cons_zero]
  refine gate_guard (by kernel_rfl) ?_
  dsimp only
  refine parquetrylaw18_awake.block_load rfl 29 (.tmp 11) rfl (by kernel_rfl) K6.out _ Try.underlying29 rfl (by kernel_rfl) ?_
  simp only [Act.put, List.setIfInBounds_toArray, List.set_cons_succ, List.set_cons_zero]
  refine gate_guard (by kernel_rfl) ?_
  dsimp only
  refine Kd.event_run (w1 := w14) (v := .int .i64 0) rfl (by kernel_rfl) ?_
  simp only [Act.put, List.setIfInBounds_toArray, List.set_cons_succ, List.set_cons_zero]
  refine gate_guard (by kernel_rfl) ?_
  dsimp only
  refine goesL_ (some 78) rfl rfl Try.func31 (by kernel_rfl) rfl #[.agg #[.int .i64 0, .int .i64 6, .int .i64 6, .int .i64 1, .int .i64 1], .int .i64 0, .int .i64 6, .int .i64 1] rfl (by kernel_rfl) ?_
  refine (parquetrylaw18_is.calls 0 6 6 1 1 0 6 1 true _ rfl).mono ?_
  rintro e w15 ⟨rfl, hb⟩
  refine ⟨_, rfl, ?_⟩
  simp only [Act.put, List.setIfInBounds_toArray, List.set_cons_succ, List.set_cons_zero]
  have n0_ := Aside0.mk (below_step HB.out hb)
  have n2_ := Aside0.mk (parquetrylaw18_awake.five_below Z.out hb)
  clear HB Z hb
  have HB := n0_
  have Z := n2_
  clear n0_ n2_
  refine Kd.event_run (w1 := w15) (v := .bool true) rfl (by kernel_rfl) ?_
  simp only [Act.put, List.setIfInBounds_toArray, List.set_cons_succ, List.set_cons_zero]
  refine Kd.event_run (w1 := w15) (v := .bool true) rfl (by kernel_rfl) ?_
  simp only [Act.put, List.setIfInBounds_toArray, List.set_cons_succ, List.set_cons_zero]
  refine gate_guard (by kernel_rfl) ?_
  dsimp only
  refine Kd.event_run (w1 := w15) (v := (.slice (some ⟨gq, 0, none⟩) 1 c10 : Value)) rfl (by kernel_rfl) ?_
  simp only [Act.put, List.setIfInBounds_toArray, List.set_cons_succ, List.set_cons_zero]
  refine gate_guard (by kernel_rfl) ?_
  dsimp only
  refine Kd.event_run (w1 := w15) (v := .int .i64 1) rfl (by kernel_rfl) ?_
  simp only [Act.put, List.setIfInBounds_toArray, List.set_cons_succ, List.set_cons_zero]
  refine gate_guard (by kernel_rfl) ?_
  dsimp only
  refine Kd.event_run (w1 := w15) (v := .bool true) rfl (by kernel_rfl) ?_
  simp only [Act.put, List.setIfInBounds_toArray, List.set_cons_succ, List.set_cons_zero]
  refine Kd.event_run (w1 := w15) (v := .bool true) rfl (by kernel_rfl) ?_
  simp only [Act.put, List.setIfInBounds_toArray, List.set_cons_succ, List.set_cons_zero]
  refine Kd.event_run (w1 := w15) (v := .bool true) rfl (by kernel_rfl) ?_
  simp only [Act.put, List.setIfInBounds_toArray, List.set_cons_succ, List.set_cons_zero]
  refine gate_guard (by kernel_rfl) ?_
  dsimp only
  refine Kd.event_run (w1 := w15) (v := (.slice (some ⟨gq, 0, none⟩) 1 c10 : Value)) rfl (by kernel_rfl) ?_
  simp only [Act.put, List.setIfInBounds_toArray, List.set_cons_succ, List.set_cons_zero]
  refine gate_guard (by kernel_rfl) ?_
  dsimp only
  refine Kd.event_run (w1 := w15) (v := .pointer (some ⟨gq, 0, none⟩)) rfl (by kernel_rfl) ?_
  simp only [Act.put, List.setIfInBounds_toArray, List.set_cons_succ, List.set_cons_zero]
  refine gate_guard (by kernel_rfl) ?_
  dsimp only
  refine parquetrylaw18_awake.five_load rfl 29 (.tmp 87) rfl (g := gq) (by kernel_rfl) Z.out _ Try.underlying29 rfl (by kernel_rfl) ?_
  simp only [Act.put, List.setIfInBounds_toArray, List.set_cons_succ, List.set_cons_zero]
  refine gate_guard (by kernel_rfl) ?_
  dsimp only
  refine Kd.event_run (w1 := w15) (v := .int .i64 0) rfl (by kernel_rfl) ?_
  simp only [Act.put, List.setIfInBounds_toArray, List.set_cons_succ, List.set_cons_zero]
  refine gate_guard (by kernel_rfl) ?_
  dsimp only
  refine goesL_ (some 90) rfl rfl Try.func31 (by kernel_rfl) rfl #[.agg #[.int .i64 0, .int .i64 6, .int .i64 6, .int .i64 1, .int .i64 1], .int .i64 0, .int .i64 6, .int .i64 1] rfl (by kernel_rfl) ?_
  refine (parquetrylaw18_is.calls 0 6 6 1 1 0 6 1 true _ rfl).mono ?_
  rintro e w16 ⟨rfl, hb⟩
  refine ⟨_, rfl, ?_⟩
  simp only [Act.put, List.setIfInBounds_toArray, List.set_cons_succ, List.set_cons_zero]
  have n0_ := Aside0.mk (below_step HB.out hb)
  have n2_ := Aside0.mk (parquetrylaw18_awake.five_below Z.out hb)
  clear HB Z hb
  have HB := n0_
  have Z := n2_
  clear n0_ n2_
  refine Kd.event_run (w1 := w16) (v := .bool true) rfl (by kernel_rfl) ?_
  simp only [Act.put, List.setIfInBounds_toArray, List.set_cons_succ, List.set_cons_zero]
  refine Kd.event_run (w1 := w16) (v := .bool true) rfl (by kernel_rfl) ?_
  simp only [Act.put, List.setIfInBounds_toArray, List.set_cons_succ, List.set_cons_zero]
  refine wpList_nil ?_
  go_wp2
  go_ret
  refine ⟨rfl, HB.out⟩
end


end Go.Proofs.Ytieffcjbbhigbaa.PC18
