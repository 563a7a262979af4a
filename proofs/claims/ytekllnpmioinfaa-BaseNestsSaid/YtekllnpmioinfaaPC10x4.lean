/- For the laws of the group C10: the Lean functions that the Go functions compute, and proofs that they do. Written by wip/hprint.py of this repo over the kit's printer; nothing here is trusted: Lean checks it. -/
import Derived.Test.YtekllnpmioinfaaPC10x0
import Derived.Test.YtekllnpmioinfaaPC10x2
import Derived.Test.YtekllnpmioinfaaPC10x3
namespace Go.Proofs.Ytekllnpmioinfaa.PC10
open Go.RowKit Go.Proofs.YtekllnpmioinfaaW.PrintWords Go.Proofs.YtekllnpmioinfaaW.PrintLast Go.Proofs.YtekllnpmioinfaaW.PrintMore
attribute [local go_sem] max2_int min2_int max_two min_two max_three min_three max_four min_four   -- for this text's walks alone
set_option linter.unusedVariables false
set_option linter.unusedSimpArgs false

/-! ### parquetrylaw10_BaseNests: function 6: by hand -/
def parquetrylaw10_BaseNests.opB (c : Int) : Bool := c == 19 || (c == 20 || c == 21)
theorem parquetrylaw10_BaseNests.op_eq (c : Int) : parquetrylaw10_opens.f c = some (parquetrylaw10_BaseNests.opB c) := by
  unfold parquetrylaw10_opens.f parquetrylaw10_BaseNests.opB
  by_cases h1 : c = 19
  · simp [h1]
  · by_cases h2 : c = 20
    · simp [h2]
    · rw [if_neg h1, if_neg h2, beq_eq_false_iff_ne.2 h1, beq_eq_false_iff_ne.2 h2]
      rfl
/-- What the statement asks of a place within an isolate. -/
def parquetrylaw10_BaseNests.inn (c m : List Int) (i k : Nat) : Prop := (i : Int) < (k : Int) → (k : Int) < rd m i → ((parquetrylaw10_BaseNests.opB (rd c k) = true → rd m k ≤ rd m i ∨ (c.length : Int) ≤ rd m i) ∧ (rd c k = 22 → (i : Int) < rd m k))
instance parquetrylaw10_BaseNests.innD (c m : List Int) (i k : Nat) : Decidable (parquetrylaw10_BaseNests.inn c m i k) := by unfold parquetrylaw10_BaseNests.inn; infer_instance
def parquetrylaw10_BaseNests.opn (c m : List Int) (i : Nat) : Prop := (i : Int) < rd m i ∧ rd m i ≤ (c.length : Int) ∧ (rd m i < (c.length : Int) → rd m (rd m i) = (i : Int) ∧ rd c (rd m i) = 22) ∧ ∀ k, k < c.length → parquetrylaw10_BaseNests.inn c m i k
instance parquetrylaw10_BaseNests.opnD (c m : List Int) (i : Nat) : Decidable (parquetrylaw10_BaseNests.opn c m i) := by unfold parquetrylaw10_BaseNests.opn; infer_instance
def parquetrylaw10_BaseNests.cls (c m : List Int) (i : Nat) : Prop := -1 ≤ rd m i ∧ rd m i < (i : Int) ∧ (0 ≤ rd m i → rd m (rd m i) = (i : Int))
instance parquetrylaw10_BaseNests.clsD (c m : List Int) (i : Nat) : Decidable (parquetrylaw10_BaseNests.cls c m i) := by unfold parquetrylaw10_BaseNests.cls; infer_instance
/-- What the statement asks of a place. -/
def parquetrylaw10_BaseNests.one (c m : List Int) (i : Nat) : Prop :=
  (parquetrylaw10_BaseNests.opB (rd c i) = false → rd c i ≠ 22 → rd m i = -1) ∧ (parquetrylaw10_BaseNests.opB (rd c i) = true → parquetrylaw10_BaseNests.opn c m i) ∧ (parquetrylaw10_BaseNests.opB (rd c i) = false → rd c i = 22 → parquetrylaw10_BaseNests.cls c m i)
instance parquetrylaw10_BaseNests.oneD (c m : List Int) (i : Nat) : Decidable (parquetrylaw10_BaseNests.one c m i) := by unfold parquetrylaw10_BaseNests.one; infer_instance
def parquetrylaw10_BaseNests.good (c m : List Int) : Prop := m.length = c.length ∧ ∀ i, i < c.length → parquetrylaw10_BaseNests.one c m i
instance parquetrylaw10_BaseNests.goodD (c m : List Int) : Decidable (parquetrylaw10_BaseNests.good c m) := by unfold parquetrylaw10_BaseNests.good; infer_instance
def parquetrylaw10_BaseNests.aw (k : Nat) : Option Bool := (parquetrylaw10_awake.f k).bind fun t => if t = true then some true else none
def parquetrylaw10_BaseNests.f (k : Nat) (l0 : List Int) : Option Bool := if (l0.length : Int) > 150 then parquetrylaw10_awake.f k else (base_Match.f k l0).bind fun m => if parquetrylaw10_BaseNests.good l0 m then parquetrylaw10_BaseNests.aw k else none
theorem parquetrylaw10_BaseNests.aw_mono (k : Nat) : LeO (parquetrylaw10_BaseNests.aw k) (parquetrylaw10_BaseNests.aw (k + 1)) := LeO.bind (parquetrylaw10_awake.mono k) (fun _ => LeO.refl _)
theorem parquetrylaw10_BaseNests.mono : ∀ a0 k, LeO (parquetrylaw10_BaseNests.f k a0) (parquetrylaw10_BaseNests.f (k + 1) a0) := by
  intro a0 k
  unfold parquetrylaw10_BaseNests.f
  exact LeO.ite (parquetrylaw10_awake.mono k) (LeO.bind (base_Match.mono _ _) (fun _ => LeO.ite (parquetrylaw10_BaseNests.aw_mono k) (LeO.refl _)))
theorem parquetrylaw10_BaseNests.aw_open {k : Nat} {r : Bool} (h : parquetrylaw10_BaseNests.aw k = some r) : r = true ∧ parquetrylaw10_awake.f k = some true := by
  obtain ⟨t, h1, h2⟩ := Option.bind_eq_some_iff.1 h
  cases t with
  | false => rw [if_neg (by decide)] at h2; cases h2
  | true =>
    rw [if_pos rfl] at h2
    exact ⟨(Option.some.inj h2).symm, h1⟩
section
open Go.Proofs.YtekllnpmioinfaaH
set_option maxHeartbeats 8000000 in
set_option maxRecDepth 100000 in
theorem parquetrylaw10_BaseNests.calls (k : Nat) (A0 : Option Addr) (c0 : Nat) (l0 : List Int) (r : Bool) (w : World) (hr0 : Kd.C (Kd.int .i64) w A0 l0.length l0) (hc0 : l0.length ≤ c0) (h : parquetrylaw10_BaseNests.f k l0 = some r) :
    Calls Try.prog 6 #[.slice A0 l0.length c0] w fun e w' => e = .returned (.bool r) ∧ Below w.heap.size w w' := by
  have HR0 := Aside0.mk hr0
  have HC0 := Aside0.mk hc0
  clear hr0 hc0
  unfold parquetrylaw10_BaseNests.f at h
  have HB := Aside0.mk (Below.refl w.heap.size w)
  by_cases hs : (l0.length : Int) > 150
  · rw [if_pos hs] at h
    have hsb := decide_eq_true hs
    have HA := Aside0.mk h
    clear h hs
    go_enter Try.func6, Try.ntmps6
    go_wp2_with (go_at_call 14; (with_reducible refine (parquetrylaw10_awake.calls k r _ HA.out).mono ?_); rintro e w1 ⟨rfl, hb⟩; have n0_ := Aside0.mk (below_step HB.out hb); clear HB hb; have HB := n0_; clear n0_)
    go_ret
    exact ⟨rfl, HB.out⟩
  · rw [if_neg hs] at h
    obtain ⟨m, hm, h⟩ := Option.bind_eq_some_iff.1 h
    by_cases hg : parquetrylaw10_BaseNests.good l0 m
    case neg =>
      rw [if_neg hg] at h
      cases h
    rw [if_pos hg] at h
    obtain ⟨rfl, haw⟩ := parquetrylaw10_BaseNests.aw_open h
    obtain ⟨g1, g2⟩ := hg
    have hsb := decide_eq_false hs
    have hn : (l0.length : Int) ≤ 150 := by omega
    have HA := Aside0.mk haw
    have HM := Aside0.mk hm
    have HG := Aside0.mk g2
    have e1 : ((m.length : Int) != (l0.length : Int)) = false := bne_eq_false_iff_eq.2 (by omega)
    have GL := Aside0.mk g1
    clear h haw hs hm g2 g1
    go_enter Try.func6, Try.ntmps6
    go_wp2_with (go_at_call 19; refine (base_Match.calls k _ _ _ m _ HR0.out HC0.out HM.out).mono ?_; rintro e w1 ⟨v1, rfl, hO, hb⟩; obtain ⟨A1, q1, rfl, hq1, hC1⟩ := Kd.R_reads hO; have HC1 := Aside0.mk hC1; have HR1 := Aside0.mk (Kd.C_below HR0.out hb); have n0_ := Aside0.mk (below_step HB.out hb); have HW := Aside0.mk (Below.refl w1.heap.size w1); clear HB HR0 hb hO hC1 hq1; have HB := n0_; clear n0_)
    go_loopg [5] l0.length (fun kq v5 w' => ∃ i : Nat, v5 = .int .i64 (i : Int) ∧ i ≤ l0.length ∧ l0.length - i ≤ kq ∧ Aside0 (Below w1.heap.size w1 w'))
    case atStart => exact ⟨0, rfl, Nat.zero_le _, by omega, HW⟩
    case round =>
      clear HW
      obtain ⟨i, rfl, hi, hq, HW⟩ := hrel
      by_cases hlt : i < l0.length
      · have h1 := HG.out i hlt
        obtain ⟨ii, hii⟩ : ∃ z : Int, z = (i : Int) := ⟨_, rfl⟩
        have hi0 : 0 ≤ ii := by omega
        have hi1 : ii < (l0.length : Int) := by omega
        have him : ii < (m.length : Int) := by have := GL.out; omega
        unfold parquetrylaw10_BaseNests.one parquetrylaw10_BaseNests.opn parquetrylaw10_BaseNests.cls parquetrylaw10_BaseNests.inn at h1
        rw [← hii] at h1 ⊢
        have HII := Aside0.mk hii
        clear hii
        obtain ⟨ad0, ea, hx⟩ := Kd.at_int HR1.out ii hi0 hi1
        cases ea
        obtain ⟨ad1, ea, hy⟩ := Kd.at_int HC1.out ii hi0 him
        cases ea
        have HXX := Aside0.mk (show ∀ j : Int, 0 ≤ j → j < (l0.length : Int) → w1.cell? (ad0.add j.toNat) = some (.int .i64 (rd l0 j)) from fun j j0 j1 => by
          obtain ⟨ad, ea, hz⟩ := Kd.at_int HR1.out j j0 j1
          cases ea
          exact hz)
        have HYY := Aside0.mk (show ∀ j : Int, 0 ≤ j → j < (m.length : Int) → w1.cell? (ad1.add j.toNat) = some (.int .i64 (rd m j)) from fun j j0 j1 => by
          obtain ⟨ad, ea, hz⟩ := Kd.at_int HC1.out j j0 j1
          cases ea
          exact hz)
        have HX1 := Aside0.mk hx
        replace hx := (HW.out.cell (World.block_lt_of_cell? w1 _ hx)).trans hx
        replace hy := (HW.out.cell (World.block_lt_of_cell? w1 _ hy)).trans hy
        have hi0e := eq_true hi0
        have hi1e := eq_true hi1
        have hime := eq_true him
        generalize rd l0 ii = c at *
        generalize rd m ii = a at *
        cases hop : parquetrylaw10_BaseNests.opB c with
        | false =>
          have HO := Aside0.mk (show parquetrylaw10_opens.f c = some false by rw [parquetrylaw10_BaseNests.op_eq, hop])
          by_cases h22 : c = 22
          · obtain ⟨a1, a2, a3⟩ := h1.2.2 hop h22
            subst h22
            have d1 := decide_eq_false (show ¬ a < -1 by omega)
            have d2 := decide_eq_false (show ¬ a ≥ ii by omega)
            clear h1 hop
            by_cases h0 : 0 ≤ a
            · have ham : a < (m.length : Int) := by omega
              have hz := HYY.out a h0 ham
              rw [a3 h0] at hz
              replace hz := (HW.out.cell (World.block_lt_of_cell? w1 _ hz)).trans hz
              have d3 := decide_eq_true (show a ≥ 0 from h0)
              have h0e := eq_true h0
              have hame := eq_true ham
              clear a3
              go_wp2_with (go_at_call 23; (with_reducible refine (parquetrylaw10_opens.calls _ false _ HO.out).mono ?_); rintro e wn ⟨rfl, ⟨nd, rfl⟩⟩)
              go_loopg [7] 1 (fun kq v7 w' => Aside0 (Below w1.heap.size w1 w'))
              case atStart => exact ⟨by repeat (first | exact HW.out | apply pw_below_drewN)⟩
              case round =>
                clear HW hx hy
                have HW := hrel
                have hx := (HW.out.cell (World.block_lt_of_cell? w1 _ HX1.out)).trans HX1.out
                go_wp2_with (go_at_call 23; (with_reducible refine (parquetrylaw10_opens.calls _ false _ HO.out).mono ?_); rintro e wn ⟨rfl, ⟨nd, rfl⟩⟩)
                go_roundg (l0.length - (i + 1))
                case measure => omega
                case rel => exact ⟨i + 1, by rw [HII.out]; go_num, by omega, Nat.le_refl _, ⟨by repeat (first | exact HW.out | apply pw_below_drewN)⟩⟩
            · have d3 := decide_eq_false (show ¬ a ≥ 0 from h0)
              clear a3
              go_wp2_with (go_at_call 23; (with_reducible refine (parquetrylaw10_opens.calls _ false _ HO.out).mono ?_); rintro e wn ⟨rfl, ⟨nd, rfl⟩⟩)
              go_loopg [7] 1 (fun kq v7 w' => Aside0 (Below w1.heap.size w1 w'))
              case atStart => exact ⟨by repeat (first | exact HW.out | apply pw_below_drewN)⟩
              case round =>
                clear HW hx hy
                have HW := hrel
                have hx := (HW.out.cell (World.block_lt_of_cell? w1 _ HX1.out)).trans HX1.out
                go_wp2_with (go_at_call 23; (with_reducible refine (parquetrylaw10_opens.calls _ false _ HO.out).mono ?_); rintro e wn ⟨rfl, ⟨nd, rfl⟩⟩)
                go_roundg (l0.length - (i + 1))
                case measure => omega
                case rel => exact ⟨i + 1, by rw [HII.out]; go_num, by omega, Nat.le_refl _, ⟨by repeat (first | exact HW.out | apply pw_below_drewN)⟩⟩
          · have ha := h1.1 hop h22
            subst ha
            have d1 : (c != 22) = true := bne_iff_ne.2 h22
            clear h1 hop h22
            go_wp2_with (go_at_call 23; (with_reducible refine (parquetrylaw10_opens.calls _ false _ HO.out).mono ?_); rintro e wn ⟨rfl, ⟨nd, rfl⟩⟩)
            go_roundg (l0.length - (i + 1))
            case measure => omega
            case rel => exact ⟨i + 1, by rw [HII.out]; go_num, by omega, Nat.le_refl _, ⟨by repeat (first | exact HW.out | apply pw_below_drewN)⟩⟩
        | true =>
          have HO := Aside0.mk (show parquetrylaw10_opens.f c = some true by rw [parquetrylaw10_BaseNests.op_eq, hop])
          obtain ⟨a1, a2, a3, a4⟩ := h1.2.1 hop
          have HALL := Aside0.mk a4
          have d1 := decide_eq_false (show ¬ a ≤ ii by omega)
          have d2 := decide_eq_false (show ¬ a > (l0.length : Int) by omega)
          clear h1 hop a4
          by_cases h0 : a < (l0.length : Int)
          · have ham : a < (m.length : Int) := by have := GL.out; omega
            have ha0 : 0 ≤ a := by omega
            obtain ⟨b1, b2⟩ := a3 h0
            have hz := HYY.out a ha0 ham
            rw [b1] at hz
            replace hz := (HW.out.cell (World.block_lt_of_cell? w1 _ hz)).trans hz
            have hz2 := HXX.out a ha0 h0
            rw [b2] at hz2
            replace hz2 := (HW.out.cell (World.block_lt_of_cell? w1 _ hz2)).trans hz2
            have d3 := decide_eq_true h0
            have h0e := eq_true h0
            have ha0e := eq_true ha0
            have hame := eq_true ham
            clear a3 b1 b2
            go_wp2_with (go_at_call 23; (with_reducible refine (parquetrylaw10_opens.calls _ true _ HO.out).mono ?_); rintro e wn ⟨rfl, ⟨nd, rfl⟩⟩)
            go_loopg [7] (a - (ii + 1)).toNat (fun kq v7 w' => ∃ kk : Int, v7 = .int .i64 kk ∧ ii + 1 ≤ kk ∧ kk ≤ a ∧ (a - kk).toNat ≤ kq ∧ Aside0 (Below w1.heap.size w1 w'))
            case atStart => exact ⟨ii + 1, rfl, Int.le_refl _, by omega, Nat.le_refl _, ⟨by repeat (first | exact HW.out | apply pw_below_drewN)⟩⟩
            case round =>
              clear HW hx hy hz hz2
              obtain ⟨kk, rfl, k0, k1, kq2, HW⟩ := hrel
              have hx := (HW.out.cell (World.block_lt_of_cell? w1 _ HX1.out)).trans HX1.out
              by_cases hk : kk < a
              · have kb := decide_eq_true hk
                have kk0 : 0 ≤ kk := by omega
                have kk1 : kk < (l0.length : Int) := by omega
                have kk2 : kk < (m.length : Int) := by have := GL.out; omega
                have q1 := HXX.out kk kk0 kk1
                have q2 := HYY.out kk kk0 kk2
                replace q1 := (HW.out.cell (World.block_lt_of_cell? w1 _ q1)).trans q1
                replace q2 := (HW.out.cell (World.block_lt_of_cell? w1 _ q2)).trans q2
                have hall := HALL.out kk.toNat (by omega) (by omega) (by omega)
                rw [Int.toNat_of_nonneg kk0] at hall
                have kk0e := eq_true kk0
                have kk1e := eq_true kk1
                have kk2e := eq_true kk2
                generalize rd l0 kk = ck at *
                generalize rd m kk = mk at *
                cases hop2 : parquetrylaw10_BaseNests.opB ck with
                | true =>
                  have HO2 := Aside0.mk (show parquetrylaw10_opens.f ck = some true by rw [parquetrylaw10_BaseNests.op_eq, hop2])
                  have z1 : (ck == 22) = false := beq_eq_false_iff_ne.2 (fun e => by rw [e] at hop2; revert hop2; decide)
                  have hh := hall.1 hop2
                  clear hall hop2
                  by_cases hmk : mk ≤ a
                  · have z2 := decide_eq_false (show ¬ mk > a by omega)
                    clear hh
                    go_wp2_with (first | (go_at_call 23; (with_reducible refine (parquetrylaw10_opens.calls _ true _ HO.out).mono ?_); rintro e wn ⟨rfl, ⟨nd, rfl⟩⟩) | (go_at_call 23; (with_reducible refine (parquetrylaw10_opens.calls _ _ _ HO2.out).mono ?_); rintro e wn ⟨rfl, ⟨nd, rfl⟩⟩))
                    go_roundg (a - (kk + 1)).toNat
                    case measure => omega
                    case rel => exact ⟨kk + 1, by go_num, by omega, by omega, by omega, ⟨by repeat (first | exact HW.out | apply pw_below_drewN)⟩⟩
                  · have z2 := decide_eq_true (show mk > a by omega)
                    have z3 : ¬ a < (l0.length : Int) := by omega
                    first
                    | exact absurd h0 z3
                    | (have z4 := decide_eq_false z3
                       clear hh
                       go_wp2_with (first | (go_at_call 23; (with_reducible refine (parquetrylaw10_opens.calls _ true _ HO.out).mono ?_); rintro e wn ⟨rfl, ⟨nd, rfl⟩⟩) | (go_at_call 23; (with_reducible refine (parquetrylaw10_opens.calls _ _ _ HO2.out).mono ?_); rintro e wn ⟨rfl, ⟨nd, rfl⟩⟩))
                       go_roundg (a - (kk + 1)).toNat
                       case measure => omega
                       case rel => exact ⟨kk + 1, by go_num, by omega, by omega, by omega, ⟨by repeat (first | exact HW.out | apply pw_below_drewN)⟩⟩)
                | false =>
                  have HO2 := Aside0.mk (show parquetrylaw10_opens.f ck = some false by rw [parquetrylaw10_BaseNests.op_eq, hop2])
                  by_cases h22 : ck = 22
                  · have hh := hall.2 h22
                    subst h22
                    have z2 := decide_eq_false (show ¬ mk ≤ ii by omega)
                    clear hall hop2
                    go_wp2_with (first | (go_at_call 23; (with_reducible refine (parquetrylaw10_opens.calls _ true _ HO.out).mono ?_); rintro e wn ⟨rfl, ⟨nd, rfl⟩⟩) | (go_at_call 23; (with_reducible refine (parquetrylaw10_opens.calls _ _ _ HO2.out).mono ?_); rintro e wn ⟨rfl, ⟨nd, rfl⟩⟩))
                    go_roundg (a - (kk + 1)).toNat
                    case measure => omega
                    case rel => exact ⟨kk + 1, by go_num, by omega, by omega, by omega, ⟨by repeat (first | exact HW.out | apply pw_below_drewN)⟩⟩
                  · have z1 : (ck == 22) = false := beq_eq_false_iff_ne.2 h22
                    clear hall hop2
                    go_wp2_with (first | (go_at_call 23; (with_reducible refine (parquetrylaw10_opens.calls _ true _ HO.out).mono ?_); rintro e wn ⟨rfl, ⟨nd, rfl⟩⟩) | (go_at_call 23; (with_reducible refine (parquetrylaw10_opens.calls _ _ _ HO2.out).mono ?_); rintro e wn ⟨rfl, ⟨nd, rfl⟩⟩))
                    go_roundg (a - (kk + 1)).toNat
                    case measure => omega
                    case rel => exact ⟨kk + 1, by go_num, by omega, by omega, by omega, ⟨by repeat (first | exact HW.out | apply pw_below_drewN)⟩⟩
              · obtain rfl : kk = a := by omega
                have kb := decide_eq_false hk
                go_wp2_with (go_at_call 23; (with_reducible refine (parquetrylaw10_opens.calls _ true _ HO.out).mono ?_); rintro e wn ⟨rfl, ⟨nd, rfl⟩⟩)
                go_roundg (l0.length - (i + 1))
                case measure => omega
                case rel => exact ⟨i + 1, by rw [HII.out]; go_num, by omega, Nat.le_refl _, ⟨by repeat (first | exact HW.out | apply pw_below_drewN)⟩⟩
          · have d3 := decide_eq_false h0
            clear a3
            go_wp2_with (go_at_call 23; (with_reducible refine (parquetrylaw10_opens.calls _ true _ HO.out).mono ?_); rintro e wn ⟨rfl, ⟨nd, rfl⟩⟩)
            go_loopg [7] (a - (ii + 1)).toNat (fun kq v7 w' => ∃ kk : Int, v7 = .int .i64 kk ∧ ii + 1 ≤ kk ∧ kk ≤ a ∧ (a - kk).toNat ≤ kq ∧ Aside0 (Below w1.heap.size w1 w'))
            case atStart => exact ⟨ii + 1, rfl, Int.le_refl _, by omega, Nat.le_refl _, ⟨by repeat (first | exact HW.out | apply pw_below_drewN)⟩⟩
            case round =>
              clear HW hx hy
              obtain ⟨kk, rfl, k0, k1, kq2, HW⟩ := hrel
              have hx := (HW.out.cell (World.block_lt_of_cell? w1 _ HX1.out)).trans HX1.out
              by_cases hk : kk < a
              · have kb := decide_eq_true hk
                have kk0 : 0 ≤ kk := by omega
                have kk1 : kk < (l0.length : Int) := by omega
                have kk2 : kk < (m.length : Int) := by have := GL.out; omega
                have q1 := HXX.out kk kk0 kk1
                have q2 := HYY.out kk kk0 kk2
                replace q1 := (HW.out.cell (World.block_lt_of_cell? w1 _ q1)).trans q1
                replace q2 := (HW.out.cell (World.block_lt_of_cell? w1 _ q2)).trans q2
                have hall := HALL.out kk.toNat (by omega) (by omega) (by omega)
                rw [Int.toNat_of_nonneg kk0] at hall
                have kk0e := eq_true kk0
                have kk1e := eq_true kk1
                have kk2e := eq_true kk2
                generalize rd l0 kk = ck at *
                generalize rd m kk = mk at *
                cases hop2 : parquetrylaw10_BaseNests.opB ck with
                | true =>
                  have HO2 := Aside0.mk (show parquetrylaw10_opens.f ck = some true by rw [parquetrylaw10_BaseNests.op_eq, hop2])
                  have z1 : (ck == 22) = false := beq_eq_false_iff_ne.2 (fun e => by rw [e] at hop2; revert hop2; decide)
                  have hh := hall.1 hop2
                  clear hall hop2
                  by_cases hmk : mk ≤ a
                  · have z2 := decide_eq_false (show ¬ mk > a by omega)
                    clear hh
                    go_wp2_with (first | (go_at_call 23; (with_reducible refine (parquetrylaw10_opens.calls _ true _ HO.out).mono ?_); rintro e wn ⟨rfl, ⟨nd, rfl⟩⟩) | (go_at_call 23; (with_reducible refine (parquetrylaw10_opens.calls _ _ _ HO2.out).mono ?_); rintro e wn ⟨rfl, ⟨nd, rfl⟩⟩))
                    go_roundg (a - (kk + 1)).toNat
                    case measure => omega
                    case rel => exact ⟨kk + 1, by go_num, by omega, by omega, by omega, ⟨by repeat (first | exact HW.out | apply pw_below_drewN)⟩⟩
                  · have z2 := decide_eq_true (show mk > a by omega)
                    have z3 : ¬ a < (l0.length : Int) := by omega
                    first
                    | exact absurd h0 z3
                    | (have z4 := decide_eq_false z3
                       clear hh
                       go_wp2_with (first | (go_at_call 23; (with_reducible refine (parquetrylaw10_opens.calls _ true _ HO.out).mono ?_); rintro e wn ⟨rfl, ⟨nd, rfl⟩⟩) | (go_at_call 23; (with_reducible refine (parquetrylaw10_opens.calls _ _ _ HO2.out).mono ?_); rintro e wn ⟨rfl, ⟨nd, rfl⟩⟩))
                       go_roundg (a - (kk + 1)).toNat
                       case measure => omega
                       case rel => exact ⟨kk + 1, by go_num, by omega, by omega, by omega, ⟨by repeat (first | exact HW.out | apply pw_below_drewN)⟩⟩)
                | false =>
                  have HO2 := Aside0.mk (show parquetrylaw10_opens.f ck = some false by rw [parquetrylaw10_BaseNests.op_eq, hop2])
                  by_cases h22 : ck = 22
                  · have hh := hall.2 h22
                    subst h22
                    have z2 := decide_eq_false (show ¬ mk ≤ ii by omega)
                    clear hall hop2
                    go_wp2_with (first | (go_at_call 23; (with_reducible refine (parquetrylaw10_opens.calls _ true _ HO.out).mono ?_); rintro e wn ⟨rfl, ⟨nd, rfl⟩⟩) | (go_at_call 23; (with_reducible refine (parquetrylaw10_opens.calls _ _ _ HO2.out).mono ?_); rintro e wn ⟨rfl, ⟨nd, rfl⟩⟩))
                    go_roundg (a - (kk + 1)).toNat
                    case measure => omega
                    case rel => exact ⟨kk + 1, by go_num, by omega, by omega, by omega, ⟨by repeat (first | exact HW.out | apply pw_below_drewN)⟩⟩
                  · have z1 : (ck == 22) = false := beq_eq_false_iff_ne.2 h22
                    clear hall hop2
                    go_wp2_with (first | (go_at_call 23; (with_reducible refine (parquetrylaw10_opens.calls _ true _ HO.out).mono ?_); rintro e wn ⟨rfl, ⟨nd, rfl⟩⟩) | (go_at_call 23; (with_reducible refine (parquetrylaw10_opens.calls _ _ _ HO2.out).mono ?_); rintro e wn ⟨rfl, ⟨nd, rfl⟩⟩))
                    go_roundg (a - (kk + 1)).toNat
                    case measure => omega
                    case rel => exact ⟨kk + 1, by go_num, by omega, by omega, by omega, ⟨by repeat (first | exact HW.out | apply pw_below_drewN)⟩⟩
              · obtain rfl : kk = a := by omega
                have kb := decide_eq_false hk
                go_wp2_with (go_at_call 23; (with_reducible refine (parquetrylaw10_opens.calls _ true _ HO.out).mono ?_); rintro e wn ⟨rfl, ⟨nd, rfl⟩⟩)
                go_roundg (l0.length - (i + 1))
                case measure => omega
                case rel => exact ⟨i + 1, by rw [HII.out]; go_num, by omega, Nat.le_refl _, ⟨by repeat (first | exact HW.out | apply pw_below_drewN)⟩⟩
      · obtain rfl : i = l0.length := by omega
        have HB2 := Aside0.mk (below_step HB.out HW.out)
        clear HB
        go_wp2_with (go_at_call 14; (with_reducible refine (parquetrylaw10_awake.calls k true _ HA.out).mono ?_); rintro e w11 ⟨rfl, hb⟩; have HB := Aside0.mk (below_step HB2.out hb); clear hb)
        go_ret
        exact ⟨rfl, HB.out⟩
end


/-- THE ONE PURE STATEMENT of parquetrylaw10_BaseNests: yours. -/
def parquetrylaw10_BaseNests.Pure : Prop := ∀ (l0 : List Int), l0.length ≤ maxLen → l0.length * 8 ≤ 140737488351232 → (∀ x ∈ l0, (Lit.int .i64 x).wf = true) → ∃ k, parquetrylaw10_BaseNests.f k l0 = some true
theorem parquetrylaw10_BaseNests.walk (P : parquetrylaw10_BaseNests.Pure) (a0 : Option Addr) (len0 cap0 : Nat) (z0 : List Int) (w : World) (w0 : (a0 = none ∧ len0 = 0 ∧ cap0 = 0 ∧ z0 = []) ∨ ∃ x, a0 = some x ∧ len0 ≤ cap0 ∧ cap0 ≤ maxLen ∧ z0.length = cap0 ∧ (∀ i, i < z0.length → w.cell? (x.add i) = some (.int .i64 (z0.getD i 0))) ∧ ∀ n ∈ z0, (Lit.int .i64 n).wf = true) (y0 : len0 * 8 ≤ 140737488351232) :
    Calls Try.prog 6 #[.slice a0 len0 cap0] w fun e w' => e = .returned (.bool true) ∧ Below w.heap.size w w' := by
  obtain ⟨l0, rfl, hr0, hm0, hw0, hc0⟩ := ReadsInt.ofRowC w0
  obtain ⟨k, h⟩ := P l0 hm0 y0 hw0
  refine (parquetrylaw10_BaseNests.calls k _ _ l0 true w (Kd.C_of_reads (d := (0 : Int)) (h1 := fun _ => rfl) hr0) hc0 h).mono ?_
  rintro e w' ⟨rfl, hd⟩
  exact ⟨rfl, hd⟩

end Go.Proofs.Ytekllnpmioinfaa.PC10
