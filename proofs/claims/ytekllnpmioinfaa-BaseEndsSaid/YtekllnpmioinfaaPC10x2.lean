/- For the laws of the group C10: the Lean functions that the Go functions compute, and proofs that they do. Written by wip/hprint.py of this repo over the kit's printer; nothing here is trusted: Lean checks it. -/
import Derived.Test.YtekllnpmioinfaaPC10x0
namespace Go.Proofs.Ytekllnpmioinfaa.PC10
open Go.RowKit Go.Proofs.YtekllnpmioinfaaW.PrintWords Go.Proofs.YtekllnpmioinfaaW.PrintLast Go.Proofs.YtekllnpmioinfaaW.PrintMore
attribute [local go_sem] max2_int min2_int max_two min_two max_three min_three max_four min_four   -- for this text's walks alone
set_option linter.unusedVariables false
set_option linter.unusedSimpArgs false

/-! ### parquetryref02_Same: function 15 -/
def parquetryref02_Same.l0 : Nat → List Int → List Int → Int → Option (Bool)
  | 0, _, _, _ => none
  | k + 1, x0, x1, x5 => if x5 < (x0.length : Int) then (if 0 ≤ x5 then (if x5 < (x1.length : Int) then (if (rd x0 x5) = (rd x1 x5) then (parquetryref02_Same.l0 k x0 x1 (wrap64 (x5 + 1))) else (some false)) else (none)) else (none)) else (some true)
def parquetryref02_Same.f (k : Nat) (l0 : List Int) (l1 : List Int) : Option (Bool) := if (l0.length : Int) = (l1.length : Int) then (parquetryref02_Same.l0 k l0 l1 0) else (some false)
theorem parquetryref02_Same.mono_l : ∀ k, (∀ y0 y1 y2, LeO (parquetryref02_Same.l0 k y0 y1 y2) (parquetryref02_Same.l0 (k + 1) y0 y1 y2))
  | 0 => fun _ _ _ r h => by simp [parquetryref02_Same.l0] at h
  | k + 1 => by
    have ih0 := parquetryref02_Same.mono_l k
    · intro y0 y1 y2
      unfold parquetryref02_Same.l0
      repeat' first
      | (with_reducible exact ih0 _ _ _)
      | (with_reducible exact LeO.refl _)
      | (with_reducible exact LeO.none _)
      | (with_reducible refine LeO.ite ?_ ?_)
      | (with_reducible refine LeO.bind ?_ (fun _ => ?_))
      | exact ih0 _ _ _
      | exact LeO.none _
      | refine LeO.ite ?_ ?_
      | refine LeO.bind ?_ (fun _ => ?_)
theorem parquetryref02_Same.mono : ∀ a0 a1 k, LeO (parquetryref02_Same.f k a0 a1) (parquetryref02_Same.f (k + 1) a0 a1) := by
  intro a0 a1 k
  have ih0 := parquetryref02_Same.mono_l k
  unfold parquetryref02_Same.f
  repeat' first
      | (with_reducible exact ih0 _ _ _)
      | (with_reducible exact LeO.refl _)
      | (with_reducible exact LeO.none _)
      | (with_reducible refine LeO.ite ?_ ?_)
      | (with_reducible refine LeO.bind ?_ (fun _ => ?_))
      | exact ih0 _ _ _
      | exact LeO.none _
      | refine LeO.ite ?_ ?_
      | refine LeO.bind ?_ (fun _ => ?_)
set_option maxHeartbeats 8000000 in
set_option maxRecDepth 100000 in
theorem parquetryref02_Same.calls (k : Nat) (A0 : Option Addr) (c0 : Nat) (l0 : List Int) (A1 : Option Addr) (c1 : Nat) (l1 : List Int) (r : Bool) (w : World) (hr0 : Kd.C (Kd.int .i64) w A0 l0.length l0) (hc0 : l0.length ≤ c0) (hr1 : Kd.C (Kd.int .i64) w A1 l1.length l1) (hc1 : l1.length ≤ c1) (h : parquetryref02_Same.f k l0 l1 = some r) :
    Calls Try.prog 15 #[.slice A0 l0.length c0, .slice A1 l1.length c1] w fun e w' => e = .returned (.bool r) ∧ Drawn0 w w' := by
  have HR0 := Aside0.mk hr0
  have HC0 := Aside0.mk hc0
  clear hr0 hc0
  have HR1 := Aside0.mk hr1
  have HC1 := Aside0.mk hc1
  clear hr1 hc1
  have H : (if (l0.length : Int) = (l1.length : Int) then (parquetryref02_Same.l0 k l0 l1 0) else (some false)) = some r := h
  clear h
  by_cases c3 : (l0.length : Int) = (l1.length : Int)
  · rw [if_pos c3] at H
    have c3b0 : ((l0.length : Int) == (l1.length : Int)) = true := beq_iff_eq.mpr c3
    have c3b1 : ((l0.length : Int) != (l1.length : Int)) = false := bne_eq_false_iff_eq.mpr c3
    have c3b2 : (l0.length == l1.length) = true := by first | simpa using c3 | (simp at c3 ⊢; omega)
    clear c3
    have H' := Aside0.mk H
    clear H
    go_enter Try.func15, Try.ntmps15
    go_wp2
    repeat (go_quiet (fail); try go_wp2)
    go_loopg [5] k (fun kq v5 w' => ∃ (x5_1 : Int), v5 = .int .i64 x5_1 ∧ Aside0 (parquetryref02_Same.l0 kq l0 l1 x5_1 = some r) ∧ Aside0 (kq ≤ k) ∧ Drawn0 w w')
    case atStart => exact ⟨(0), (by first | rfl | (simp; done) | (simp [*]; done)), H', ⟨Nat.le_refl _⟩, by repeat (first | exact Drawn0.refl _ | apply Drawn0.step)⟩
    case round =>
      clear H'
      try clear c1
      try clear p2
      try clear c3
      try clear c3b0
      try clear c3b1
      try clear c3b2
      obtain ⟨x5_1, rfl, HA, HK1, ⟨m1, rfl⟩⟩ := hrel
      cases gk with
      | zero => exact absurd HA.out (by simp [parquetryref02_Same.l0])
      | succ k1 =>
        have H := HA.out
        clear HA
        simp only [parquetryref02_Same.l0] at H
        by_cases c4 : x5_1 < (l0.length : Int)
        · rw [if_pos c4] at H
          have c4b0 : decide (x5_1 < (l0.length : Int)) = true := decide_eq_true c4
          clear c4
          by_cases c5 : 0 ≤ x5_1
          · rw [if_pos c5] at H
            have c5b0 : decide (0 ≤ x5_1) = true := decide_eq_true c5
            clear c5
            by_cases c6 : x5_1 < (l1.length : Int)
            · rw [if_pos c6] at H
              have c6b0 : decide (x5_1 < (l1.length : Int)) = true := decide_eq_true c6
              clear c6
              by_cases c7 : (rd l0 x5_1) = (rd l1 x5_1)
              · rw [if_pos c7] at H
                have c7b0 : ((rd l0 x5_1) == (rd l1 x5_1)) = true := beq_iff_eq.mpr c7
                have c7b1 : ((rd l0 x5_1) != (rd l1 x5_1)) = false := bne_eq_false_iff_eq.mpr c7
                clear c7
                have H' := Aside0.mk H
                clear H
                have p101 : 0 ≤ (x5_1 : Int) := of_decide_eq_true (by first | (with_reducible assumption) | assumption)
                have q101 : x5_1 < (l0.length : Int) := of_decide_eq_true (by first | (with_reducible assumption) | assumption)
                obtain ⟨ad101, e101, hx101_0⟩ := Kd.at_int HR0.out x5_1 p101 q101
                cases e101
                replace p101 := eq_true p101
                replace q101 := eq_true q101
                have p102 : 0 ≤ (x5_1 : Int) := of_decide_eq_true (by first | (with_reducible assumption) | assumption)
                have q102 : x5_1 < (l1.length : Int) := of_decide_eq_true (by first | (with_reducible assumption) | assumption)
                obtain ⟨ad102, e102, hx102_0⟩ := Kd.at_int HR1.out x5_1 p102 q102
                cases e102
                replace p102 := eq_true p102
                replace q102 := eq_true q102
                go_wp2
                repeat (go_quiet (fail); try go_wp2)
                go_roundg k1
                case measure => have := HK1.out; omega
                case rel => exact ⟨(wrap64 (x5_1 + 1)), (by first | rfl | (simp; done) | (simp [*]; done)), H', ⟨by have := HK1.out; omega⟩, by repeat (first | exact Drawn0.refl _ | apply Drawn0.step)⟩
              · rw [if_neg c7] at H
                have c7b0 : ((rd l0 x5_1) == (rd l1 x5_1)) = false := beq_eq_false_iff_ne.mpr c7
                have c7b1 : ((rd l0 x5_1) != (rd l1 x5_1)) = true := bne_iff_ne.mpr c7
                obtain rfl := Option.some.inj H
                have p101 : 0 ≤ (x5_1 : Int) := of_decide_eq_true (by first | (with_reducible assumption) | assumption)
                have q101 : x5_1 < (l0.length : Int) := of_decide_eq_true (by first | (with_reducible assumption) | assumption)
                obtain ⟨ad101, e101, hx101_0⟩ := Kd.at_int HR0.out x5_1 p101 q101
                cases e101
                replace p101 := eq_true p101
                replace q101 := eq_true q101
                have p102 : 0 ≤ (x5_1 : Int) := of_decide_eq_true (by first | (with_reducible assumption) | assumption)
                have q102 : x5_1 < (l1.length : Int) := of_decide_eq_true (by first | (with_reducible assumption) | assumption)
                obtain ⟨ad102, e102, hx102_0⟩ := Kd.at_int HR1.out x5_1 p102 q102
                cases e102
                replace p102 := eq_true p102
                replace q102 := eq_true q102
                go_wp2
                repeat (go_quiet (fail); try go_wp2)
                go_ret
                exact ⟨by first | rfl | (simp; done) | (simp [*]; done), by repeat (first | exact Drawn0.refl _ | apply Drawn0.step)⟩
            · rw [if_neg c6] at H
              exact absurd H (by simp)
          · rw [if_neg c5] at H
            exact absurd H (by simp)
        · rw [if_neg c4] at H
          have c4b0 : decide (x5_1 < (l0.length : Int)) = false := decide_eq_false c4
          clear c4
          obtain rfl := Option.some.inj H
          go_wp2
          repeat (go_quiet (fail); try go_wp2)
          go_ret
          exact ⟨by first | rfl | (simp; done) | (simp [*]; done), by repeat (first | exact Drawn0.refl _ | apply Drawn0.step)⟩
  · rw [if_neg c3] at H
    have c3b0 : ((l0.length : Int) == (l1.length : Int)) = false := beq_eq_false_iff_ne.mpr c3
    have c3b1 : ((l0.length : Int) != (l1.length : Int)) = true := bne_iff_ne.mpr c3
    have c3b2 : (l0.length == l1.length) = false := by first | simpa using c3 | (simp at c3 ⊢; omega)
    obtain rfl := Option.some.inj H
    go_enter Try.func15, Try.ntmps15
    go_wp2
    repeat (go_quiet (fail); try go_wp2)
    go_ret
    exact ⟨by first | rfl | (simp; done) | (simp [*]; done), by repeat (first | exact Drawn0.refl _ | apply Drawn0.step)⟩

/-! ### class_spans: function 49: by hand -/
def class_spans.L : List S69 := [(⟨0, 8, 9⟩ : S69), (⟨9, 9, 11⟩ : S69), (⟨10, 10, 10⟩ : S69), (⟨11, 11, 11⟩ : S69), (⟨12, 12, 12⟩ : S69), (⟨13, 13, 10⟩ : S69), (⟨14, 27, 9⟩ : S69), (⟨28, 30, 10⟩ : S69), (⟨31, 31, 11⟩ : S69), (⟨32, 32, 12⟩ : S69), (⟨33, 34, 13⟩ : S69), (⟨35, 37, 5⟩ : S69), (⟨38, 42, 13⟩ : S69), (⟨43, 43, 4⟩ : S69), (⟨44, 44, 7⟩ : S69), (⟨45, 45, 4⟩ : S69), (⟨46, 47, 7⟩ : S69), (⟨48, 57, 3⟩ : S69), (⟨58, 58, 7⟩ : S69), (⟨59, 64, 13⟩ : S69), (⟨91, 96, 13⟩ : S69), (⟨123, 126, 13⟩ : S69), (⟨127, 132, 9⟩ : S69), (⟨133, 133, 10⟩ : S69), (⟨134, 159, 9⟩ : S69), (⟨160, 160, 7⟩ : S69), (⟨161, 161, 13⟩ : S69), (⟨162, 165, 5⟩ : S69), (⟨166, 169, 13⟩ : S69), (⟨171, 172, 13⟩ : S69), (⟨173, 173, 9⟩ : S69), (⟨174, 175, 13⟩ : S69), (⟨176, 177, 5⟩ : S69), (⟨178, 179, 3⟩ : S69), (⟨180, 180, 13⟩ : S69), (⟨182, 184, 13⟩ : S69), (⟨185, 185, 3⟩ : S69), (⟨187, 191, 13⟩ : S69), (⟨215, 215, 13⟩ : S69), (⟨247, 247, 13⟩ : S69), (⟨768, 879, 8⟩ : S69), (⟨1155, 1161, 8⟩ : S69), (⟨1423, 1423, 5⟩ : S69), (⟨1424, 1424, 1⟩ : S69), (⟨1425, 1469, 8⟩ : S69), (⟨1470, 1470, 1⟩ : S69), (⟨1471, 1471, 8⟩ : S69), (⟨1472, 1472, 1⟩ : S69), (⟨1473, 1474, 8⟩ : S69), (⟨1475, 1475, 1⟩ : S69), (⟨1476, 1477, 8⟩ : S69), (⟨1478, 1478, 1⟩ : S69), (⟨1479, 1479, 8⟩ : S69), (⟨1480, 1535, 1⟩ : S69), (⟨1536, 1541, 6⟩ : S69), (⟨1542, 1543, 13⟩ : S69), (⟨1544, 1544, 2⟩ : S69), (⟨1545, 1546, 5⟩ : S69), (⟨1547, 1547, 2⟩ : S69), (⟨1548, 1548, 7⟩ : S69), (⟨1549, 1549, 2⟩ : S69), (⟨1550, 1551, 13⟩ : S69), (⟨1552, 1562, 8⟩ : S69), (⟨1563, 1610, 2⟩ : S69), (⟨1611, 1631, 8⟩ : S69), (⟨1632, 1641, 6⟩ : S69), (⟨1642, 1642, 5⟩ : S69), (⟨1643, 1644, 6⟩ : S69), (⟨1645, 1647, 2⟩ : S69), (⟨1648, 1648, 8⟩ : S69), (⟨1649, 1749, 2⟩ : S69), (⟨1750, 1756, 8⟩ : S69), (⟨1757, 1757, 6⟩ : S69), (⟨1758, 1758, 13⟩ : S69), (⟨1759, 1764, 8⟩ : S69), (⟨1765, 1766, 2⟩ : S69), (⟨1767, 1768, 8⟩ : S69), (⟨1769, 1769, 13⟩ : S69), (⟨1770, 1773, 8⟩ : S69), (⟨1774, 1775, 2⟩ : S69), (⟨1776, 1785, 3⟩ : S69), (⟨1786, 1791, 2⟩ : S69), (⟨1872, 1919, 2⟩ : S69), (⟨2274, 2274, 6⟩ : S69), (⟨2364, 2364, 8⟩ : S69), (⟨2369, 2376, 8⟩ : S69), (⟨2381, 2381, 8⟩ : S69), (⟨5760, 5760, 12⟩ : S69), (⟨8192, 8202, 12⟩ : S69), (⟨8203, 8205, 9⟩ : S69), (⟨8207, 8207, 1⟩ : S69), (⟨8208, 8231, 13⟩ : S69), (⟨8232, 8232, 12⟩ : S69), (⟨8233, 8233, 10⟩ : S69), (⟨8234, 8234, 14⟩ : S69), (⟨8235, 8235, 16⟩ : S69), (⟨8236, 8236, 18⟩ : S69), (⟨8237, 8237, 15⟩ : S69), (⟨8238, 8238, 17⟩ : S69), (⟨8239, 8239, 7⟩ : S69), (⟨8240, 8244, 5⟩ : S69), (⟨8245, 8259, 13⟩ : S69), (⟨8260, 8260, 7⟩ : S69), (⟨8261, 8286, 13⟩ : S69), (⟨8287, 8287, 12⟩ : S69), (⟨8288, 8293, 9⟩ : S69), (⟨8294, 8294, 19⟩ : S69), (⟨8295, 8295, 20⟩ : S69), (⟨8296, 8296, 21⟩ : S69), (⟨8297, 8297, 22⟩ : S69), (⟨8298, 8303, 9⟩ : S69), (⟨8304, 8304, 3⟩ : S69), (⟨8308, 8313, 3⟩ : S69), (⟨8314, 8315, 4⟩ : S69), (⟨8316, 8318, 13⟩ : S69), (⟨8320, 8329, 3⟩ : S69), (⟨8330, 8331, 4⟩ : S69), (⟨8332, 8334, 13⟩ : S69), (⟨8352, 8399, 5⟩ : S69), (⟨8400, 8432, 8⟩ : S69), (⟨8592, 8721, 13⟩ : S69), (⟨8722, 8722, 4⟩ : S69), (⟨8723, 8723, 5⟩ : S69), (⟨8724, 9013, 13⟩ : S69), (⟨9352, 9371, 3⟩ : S69), (⟨9472, 9899, 13⟩ : S69), (⟨9901, 10239, 13⟩ : S69), (⟨11904, 11929, 13⟩ : S69), (⟨12288, 12288, 12⟩ : S69), (⟨12289, 12292, 13⟩ : S69), (⟨12296, 12320, 13⟩ : S69), (⟨12330, 12333, 8⟩ : S69), (⟨12336, 12336, 13⟩ : S69), (⟨12441, 12442, 8⟩ : S69), (⟨64285, 64285, 1⟩ : S69), (⟨64286, 64286, 8⟩ : S69), (⟨64287, 64296, 1⟩ : S69), (⟨64297, 64297, 4⟩ : S69), (⟨64298, 64335, 1⟩ : S69), (⟨65024, 65039, 8⟩ : S69), (⟨65056, 65071, 8⟩ : S69), (⟨65104, 65104, 7⟩ : S69), (⟨65106, 65106, 7⟩ : S69), (⟨65109, 65109, 7⟩ : S69), (⟨65119, 65119, 5⟩ : S69), (⟨65122, 65123, 4⟩ : S69), (⟨65129, 65130, 5⟩ : S69), (⟨65136, 65278, 2⟩ : S69), (⟨65279, 65279, 9⟩ : S69), (⟨65281, 65282, 13⟩ : S69), (⟨65283, 65285, 5⟩ : S69), (⟨65286, 65290, 13⟩ : S69), (⟨65291, 65291, 4⟩ : S69), (⟨65292, 65292, 7⟩ : S69), (⟨65293, 65293, 4⟩ : S69), (⟨65294, 65295, 7⟩ : S69), (⟨65296, 65305, 3⟩ : S69), (⟨65306, 65306, 7⟩ : S69), (⟨65307, 65312, 13⟩ : S69), (⟨65339, 65344, 13⟩ : S69), (⟨65371, 65381, 13⟩ : S69), (⟨65504, 65505, 5⟩ : S69), (⟨65509, 65510, 5⟩ : S69), (⟨65529, 65533, 13⟩ : S69), (⟨127744, 128591, 13⟩ : S69), (⟨917760, 917999, 8⟩ : S69)]
def class_spans.f : Option (List S69) := some class_spans.L
def class_spans.vals : List Value := class_spans.L.map fun r => .agg #[.int .i64 r.f0, .int .i64 r.f1, .int .i64 r.f2]
section
open Go.Proofs.YtekllnpmioinfaaH
theorem class_spans.reps {M : S69 → List Value → Prop} (h : ∀ x : S69, M x [.int .i64 x.f0, .int .i64 x.f1, .int .i64 x.f2]) : ∀ l : List S69, Reps M 3 l ((l.map fun r => Value.agg #[.int .i64 r.f0, .int .i64 r.f1, .int .i64 r.f2]).flatMap fun v => v.cells.toList)
  | [] => Reps.none _ _
  | x :: l => Reps.c3 (h x) (class_spans.reps h l)
set_option maxHeartbeats 4000000 in
set_option maxRecDepth 100000 in
theorem class_spans.calls (r : List S69) (w : World) (h : class_spans.f = some r) :
    Calls Try.prog 49 #[] w fun e w' => ∃ v0_ : Value, e = .returned (v0_) ∧ Kd.R k69 69 w' w.heap.size (fun _ => True) v0_ r ∧ Below w.heap.size w w' := by
  obtain rfl : class_spans.L = r := Option.some.inj h
  clear h
  go_enter Try.func49, Try.ntmps49
  refine wp_seq (wp_region_list ?_)
  refine Kd.event_run (w1 := w) (v := .slice none 0 0) rfl rfl ?_
  refine wpList_nil (wp_seq (wp_region_list ?_))
  refine builds_slice 166 _ (o := _) (rest := _) rfl k69 w.heap.size 69 rfl (N := 167) rfl 65 166 _ rfl class_spans.vals class_spans.L 168 (by kernel_rfl) (by kernel_rfl) (by decide) rfl (by kernel_rfl) Try.underlying65 (by kernel_rfl) (by kernel_rfl) (by decide +kernel) (by decide +kernel) (by decide) (by decide) (by decide) (fun v hv => by unfold class_spans.vals at hv; obtain ⟨x, _, rfl⟩ := List.mem_map.1 hv; rfl) (class_spans.reps (fun x => k69_mkM _ _ _ x) _) (Below.refl _ _) (Nat.le_refl _) ?_
  intro b v1 w1 hsz hdf hR hB
  refine Kd.event_run (w1 := w1) (v := v1) rfl (by simp [execOp, put_eval b 167 v1 (by rw [hsz]; decide)]) ?_
  refine wpList_nil (wp_ret ?_)
  refine bodyPost_ret (v := v1) ((results_tmp rfl _ _ _).trans ?_) ?_ ⟨v1, rfl, hR, hB⟩
  · simp [Act.put, hsz]
  · simp [Act.put, hdf]
end


-- NOT PRINTED: function 50 (class_span_int)

end Go.Proofs.Ytekllnpmioinfaa.PC10
