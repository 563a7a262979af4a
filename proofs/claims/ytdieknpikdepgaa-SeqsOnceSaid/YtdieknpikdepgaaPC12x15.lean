/- For the laws of the group C12: the Lean functions that the Go functions compute, and proofs that they do. Written by wip/hprint.py of this repo over the kit's printer; nothing here is trusted: Lean checks it. -/
import Derived.Test.YtdieknpikdepgaaPC12x0
import Derived.Test.YtdieknpikdepgaaPC12x2
import Derived.Test.YtdieknpikdepgaaPC12x4
import Derived.Test.YtdieknpikdepgaaPC12x6
import Derived.Test.YtdieknpikdepgaaPC12x14
namespace Go.Proofs.Ytdieknpikdepgaa.PC12
open Go.RowKit Go.Proofs.YtdieknpikdepgaaW.PrintWords Go.Proofs.YtdieknpikdepgaaW.PrintLast Go.Proofs.YtdieknpikdepgaaW.PrintMore
attribute [local go_sem] max2_int min2_int max_two min_two max_three min_three max_four min_four   -- for this text's walks alone
set_option linter.unusedVariables false
set_option linter.unusedSimpArgs false

/-! ### parquetrylaw12_SeqsOnce: function 4: by hand -/
def parquetrylaw12_SeqsOnce.p1 (s : List S28) (e w : List Int) (i : Int) : Prop := (0 ≤ rd w i ↔ 0 ≤ rd e i) ∧ (0 ≤ rd w i → rd w i < (s.length : Int) ∧ (rd_T28 s (rd w i)).f0 = rd e i)
def parquetrylaw12_SeqsOnce.p2 (s : List S28) (i : Int) : Prop := 0 < (rd_T28 s i).f3.length ∧ (0 < i → 0 < (rd_T28 s (i - 1)).f3.length ∧ rd (rd_T28 s (i - 1)).f3 0 < rd (rd_T28 s i).f3 0) ∧ ((rd_T28 s i).f1 = 0 ∨ (rd_T28 s i).f1 = 1) ∧ ((rd_T28 s i).f2 = 0 ∨ (rd_T28 s i).f2 = 1)
instance (s : List S28) (e w : List Int) (i : Int) : Decidable (parquetrylaw12_SeqsOnce.p1 s e w i) := by unfold parquetrylaw12_SeqsOnce.p1; infer_instance
instance (s : List S28) (i : Int) : Decidable (parquetrylaw12_SeqsOnce.p2 s i) := by unfold parquetrylaw12_SeqsOnce.p2; infer_instance
def parquetrylaw12_SeqsOnce.good (n : Nat) (s : List S28) (e w : List Int) : Prop := w.length = n ∧ e.length = n ∧ n < 1000000 ∧ s.length < 1000000 ∧ (∀ i : Nat, i < n → parquetrylaw12_SeqsOnce.p1 s e w (i : Int)) ∧ ∀ i : Nat, i < s.length → parquetrylaw12_SeqsOnce.p2 s (i : Int)
instance (n : Nat) (s : List S28) (e w : List Int) : Decidable (parquetrylaw12_SeqsOnce.good n s e w) := by unfold parquetrylaw12_SeqsOnce.good; infer_instance
def parquetrylaw12_SeqsOnce.f (k : Nat) (l0 : List Int) (a1 : Int) : Option Bool :=
 if (l0.length : Int) > 500 then parquetrylaw12_awake.f k else
  (seqs_Sequences.f k l0 (Go.bits .and .i64 a1 1)).bind fun s => (level_Explicit.f k l0 (Go.bits .and .i64 a1 1)).bind fun e => (parquetrylaw12_where.f k s (l0.length : Int)).bind fun w => if parquetrylaw12_SeqsOnce.good l0.length s e.1 w then parquetrylaw12_awake.f k else none
theorem parquetrylaw12_SeqsOnce.mono : ∀ a0 a1 k, LeO (parquetrylaw12_SeqsOnce.f k a0 a1) (parquetrylaw12_SeqsOnce.f (k + 1) a0 a1) := by
 intro a0 a1 k
 unfold parquetrylaw12_SeqsOnce.f
 refine LeO.ite (parquetrylaw12_awake.mono _) ?_
 refine LeO.bind (seqs_Sequences.mono _ _ _) (fun _ => ?_)
 refine LeO.bind (level_Explicit.mono _ _ _) (fun _ => ?_)
 refine LeO.bind (parquetrylaw12_where.mono _ _ _) (fun _ => ?_)
 exact LeO.ite (parquetrylaw12_awake.mono _) (LeO.refl _)
section
open Go.Proofs.YtdieknpikdepgaaH
set_option maxHeartbeats 8000000 in
set_option maxRecDepth 100000 in
theorem parquetrylaw12_SeqsOnce.calls (k : Nat) (A0 : Option Addr) (c0 : Nat) (l0 : List Int) (a1 : Int) (r : Bool) (w : World) (hr0 : Kd.C (Kd.int .i64) w A0 l0.length l0) (hc0 : l0.length ≤ c0) (h : parquetrylaw12_SeqsOnce.f k l0 a1 = some r) :
  Calls Try.prog 4 #[.slice A0 l0.length c0, .int .i64 a1] w fun e w' => e = .returned (.bool r) ∧ Below w.heap.size w w' := by
 have HR0 := Aside0.mk hr0
 have HC0 := Aside0.mk hc0
 have HB := Aside0.mk (Below.refl w.heap.size w)
 clear hr0 hc0
 unfold parquetrylaw12_SeqsOnce.f at h
 by_cases hn : (l0.length : Int) > 500
 ·
  rw [if_pos hn] at h
  have hb := decide_eq_true hn
  have HH := Aside0.mk h
  clear h hn
  go_enter Try.func4, Try.ntmps4
  go_wp2_with (go_at_call 7; refine (parquetrylaw12_awake.calls k r _ HH.out).mono ?_; rintro e w1 ⟨rfl, hb1⟩; have n0_ := Aside0.mk hb1; clear hb1)
  go_ret
  exact ⟨rfl, n0_.out⟩
 ·
  rw [if_neg hn] at h
  have hb0 := decide_eq_false hn
  obtain ⟨s, hs, h⟩ := Option.bind_eq_some_iff.mp h
  obtain ⟨⟨lv, tl⟩, hlv, h⟩ := Option.bind_eq_some_iff.mp h
  obtain ⟨wh, hwh, h⟩ := Option.bind_eq_some_iff.mp h
  split at h
  rotate_left
  ·
   cases h
  rename_i hg
  dsimp only at hg
  obtain ⟨g1, g2, g3, g4, g5, g6⟩ := hg
  have HS := Aside0.mk hs
  have HL := Aside0.mk hlv
  have HW := Aside0.mk hwh
  have HH := Aside0.mk h
  have G5 := Aside0.mk g5
  have G6 := Aside0.mk g6
  have e1 : (((wh.length : Int)) != (l0.length : Int)) = false := by rw [g1]; simp
  have e2 : (((lv.length : Int)) != (l0.length : Int)) = false := by rw [g2]; simp
  clear hs hlv hwh h g5 g6 hn
  go_enter Try.func4, Try.ntmps4
  go_upto_region 8 with (first | (go_at_call 8; refine (seqs_Sequences.calls k A0 c0 l0 (Go.bits .and .i64 a1 1) s _ HR0.out HC0.out HS.out).mono ?_; rintro e w1 ⟨v1, rfl, hs1, hb1⟩; obtain ⟨A1, c1, rfl, hc1, hr1⟩ := Kd.S_reads hs1; have HR1 := Aside0.mk hr1; have HC1 := Aside0.mk hc1; have HB1 := Aside0.mk hb1; clear hs1 hb1 hr1 hc1) | (go_at_call 12; refine (level_Explicit.calls k A0 c0 l0 (Go.bits .and .i64 a1 1) lv tl _ (Kd.C_below HR0.out HB1.out) HC0.out HL.out).mono ?_; rintro e w2 ⟨v2, v3, rfl, hl2, hl3, hb2⟩; obtain ⟨A2, c2, rfl, hc2, hr2⟩ := Kd.R_reads hl2; have HR2 := Aside0.mk hr2; have HC2 := Aside0.mk hc2; have HB2 := Aside0.mk (below_step HB1.out hb2); have HR1b := Aside0.mk (Kd.C_below HR1.out hb2); clear hl2 hl3 hb2 hr2 hc2) | (go_at_call 13; refine (parquetrylaw12_where.calls k A1 c1 s (l0.length : Int) wh _ HR1b.out HC1.out HW.out).mono ?_; rintro e w3 ⟨v4, rfl, hw3, hb3⟩; obtain ⟨A3, c3, rfl, hc3, hr3⟩ := Kd.R_reads hw3; have HR3 := Aside0.mk hr3; have HC3 := Aside0.mk hc3; have HB3 := Aside0.mk (below_step HB2.out hb3); have HR2b := Aside0.mk (Kd.C_below HR2.out hb3); have HR1c := Aside0.mk (Kd.C_below HR1b.out hb3); clear hw3 hb3 hr3 hc3))
  clear HS HL HW HB HB1 HB2 HR1 HR1b HR2 e1 e2 hb0
  go_wp2
  go_loopg [9] l0.length (fun kx s9 wr => ∃ ii : Int, s9 = .int .i64 ii ∧ Aside0 (ii = (l0.length : Int) - kx) ∧ Aside0 (kx ≤ l0.length) ∧ Aside0 (Below w3.heap.size w3 wr))
  case atStart => exact ⟨0, rfl, ⟨by omega⟩, ⟨Nat.le_refl _⟩, ⟨Below.refl _ _⟩⟩
  case round =>
   obtain ⟨ii, rfl, HI, HK, HB⟩ := hrel
   cases gk with
   | zero =>
    have b1 : decide (ii < (l0.length : Int)) = false := decide_eq_false (by have := HI.out; omega)
    go_wp2
    have HB1 := HB
    clear HI HK HB b1
    generalize wr = W0 at HB1 ⊢
    have R1 := Aside0.mk (Kd.C_below HR1c.out HB1.out)
    go_loopg [10] s.length (fun kx s10 wr => ∃ ii : Int, s10 = .int .i64 ii ∧ Aside0 (ii = (s.length : Int) - kx) ∧ Aside0 (kx ≤ s.length) ∧ Aside0 (Below W0.heap.size W0 wr))
    case atStart => exact ⟨0, rfl, ⟨by omega⟩, ⟨Nat.le_refl _⟩, ⟨Below.refl _ _⟩⟩
    case round =>
     obtain ⟨ii, rfl, HI, HK, HB⟩ := hrel
     cases gk with
     | zero =>
      have b1 : decide (ii < (s.length : Int)) = false := decide_eq_false (by have := HI.out; omega)
      go_wp2_with (go_at_call 7; refine (parquetrylaw12_awake.calls k r _ HH.out).mono ?_; rintro e w9 ⟨rfl, hb9⟩; have n0_ := Aside0.mk (below_step (below_step (below_step HB3.out HB1.out) HB.out) hb9); clear hb9)
      go_ret
      exact ⟨rfl, n0_.out⟩
     | succ k1 =>
      have i0 : 0 ≤ ii := by have := HI.out; have := HK.out; omega
      have i1 : ii < (s.length : Int) := by have := HI.out; have := HK.out; omega
      have i2 : ii < 1000000 := by omega
      have b1 : decide (ii < (s.length : Int)) = true := decide_eq_true i1
      have p0 : (0 ≤ ii) = True := eq_true i0
      have p1 : (ii < (s.length : Int)) = True := eq_true i1
      have hp := G6.out ii.toNat (by omega)
      rw [Int.toNat_of_nonneg i0] at hp
      obtain ⟨ads, A9, c9, es, y0, y1, y2, y3, hc9, hr9⟩ := at_T28 R1.out ii i0 i1
      subst es
      have z0 := pw_cell_below HB.out y0
      have z1 := pw_cell_below HB.out y1
      have z2 := pw_cell_below HB.out y2
      have z3 := pw_cell_below HB.out y3
      clear y0 y1 y2 y3
      unfold parquetrylaw12_SeqsOnce.p2 at hp
      have HX := Aside0.mk hr9
      clear hr9
      generalize rd_T28 s ii = x at *
      obtain ⟨x0, x1, x2, x3⟩ := x
      dsimp only at *
      obtain ⟨q0, q1, q2, q3⟩ := hp
      go_upto_region 17 with (fail)
      obtain ⟨W1, hW1⟩ : ∃ W1, wr.alloc (.cells #[.int .i64 x0, .int .i64 x1, .int .i64 x2, .slice A9 x3.length c9] 28) = W1 := ⟨_, rfl⟩
      have BX : W1.heap[wr.heap.size]? = some (.cells #[.int .i64 x0, .int .i64 x1, .int .i64 x2, .slice A9 x3.length c9] 28 (0, 0)) := by rw [← hW1]; exact blk_new _ _
      have HB2 := Aside0.mk (show Below W0.heap.size W0 W1 by rw [← hW1]; exact below_alloc HB.out _)
      rw [hW1]
      have u1 : W1.cell? ⟨wr.heap.size, 1, none⟩ = some (.int .i64 x1) := (blk_cell BX 1).trans rfl
      have u2 : W1.cell? ⟨wr.heap.size, 2, none⟩ = some (.int .i64 x2) := (blk_cell BX 2).trans rfl
      have u3 : W1.cell? ⟨wr.heap.size, 3, none⟩ = some (.slice A9 x3.length c9) := (blk_cell BX 3).trans rfl
      clear hW1 BX HB z0 z1 z2 z3
      have b2 : ((x3.length : Int) == 0) = false := by rw [beq_eq_false_iff_ne]; omega
      have p4 : ((0 : Int) < (x3.length : Int)) = True := eq_true (by omega)
      have p9 : (0 < x3.length) = True := eq_true q0
      obtain ⟨ad4, e4, y4⟩ := Kd.at_int (Kd.C_below HX.out HB2.out) 0 (by omega) (by omega)
      subst e4
      have key : ∀ (P : Prop), (((x1 != 0) = false → P) ∧ ((x1 != 0) = true → (x1 != 1) = false → P)) → P := fun P hP => by
       rcases q2 with h | h
       ·
        exact hP.1 (by rw [h]; rfl)
       ·
        exact hP.2 (by rw [h]; rfl) (by rw [h]; rfl)
      have key2 : ∀ (P : Prop), (((x2 != 0) = false → P) ∧ ((x2 != 0) = true → (x2 != 1) = false → P)) → P := fun P hP => by
       rcases q3 with h | h
       ·
        exact hP.1 (by rw [h]; rfl)
       ·
        exact hP.2 (by rw [h]; rfl) (by rw [h]; rfl)
      clear q2 q3 q0
      by_cases hz : ii = 0
      ·
       have b3 : decide (ii > 0) = false := decide_eq_false (by omega)
       clear q1 hz
       refine key _ ⟨fun f1_ => ?_, fun f1_ f2_ => ?_⟩
       all_goals refine key2 _ ⟨fun f3_ => ?_, fun f3_ f4_ => ?_⟩
       all_goals (
        clear key key2
        go_quiet (fail)
        all_goals (try go_wp2)
        go_roundg k1
        case measure => exact Nat.lt_succ_self _
        case rel => exact ⟨ii + 1, rfl, ⟨by have := HI.out; have := HK.out; omega⟩, ⟨by have := HK.out; omega⟩, ⟨pw_below_drewN HB2.out _⟩⟩)
      ·
       have b3 : decide (ii > 0) = true := decide_eq_true (by omega)
       obtain ⟨q4, q5⟩ := q1 (by omega)
       have hwe : IntKind.i64.wrap (ii - 1) = ii - 1 := by rw [i64_w]; unfold wrap64; omega
       rw [← hwe] at q4 q5
       have j0 : 0 ≤ IntKind.i64.wrap (ii - 1) := by omega
       have j1 : IntKind.i64.wrap (ii - 1) < (s.length : Int) := by omega
       clear hwe
       have p5 : (0 ≤ IntKind.i64.wrap (ii - 1)) = True := eq_true j0
       have p6 : (IntKind.i64.wrap (ii - 1) < (s.length : Int)) = True := eq_true j1
       obtain ⟨ads', A8, c8, es', y0, y1, y2, y5, hc8, hr8⟩ := at_T28 (Kd.C_below R1.out HB2.out) (IntKind.i64.wrap (ii - 1)) j0 j1
       obtain rfl := Option.some.inj es'
       generalize (rd_T28 s (IntKind.i64.wrap (ii - 1))).f3 = y at *
       obtain ⟨ad6, e6, y6⟩ := Kd.at_int hr8 0 (by omega) (by omega)
       subst e6
       have b4 : decide (rd y 0 ≥ rd x3 0) = false := decide_eq_false (by omega)
       have p7 : ((0 : Int) < (y.length : Int)) = True := eq_true (by omega)
       have p8 : (0 < y.length) = True := eq_true (by omega)
       have a0 : ∀ a : Addr, a.add 0 = a := fun a => by simp [Addr.add]
       have y6b : W1.cell? ad6 = some (.int .i64 (rd y 0)) := (congrArg W1.cell? (a0 ad6)).symm.trans y6
       have y4b : W1.cell? ad4 = some (.int .i64 (rd x3 0)) := (congrArg W1.cell? (a0 ad4)).symm.trans y4
       clear q1 q4 q5 hz y0 y1 y2 hr8 hc8 es' j0 j1 a0
       refine key _ ⟨fun f1_ => ?_, fun f1_ f2_ => ?_⟩
       all_goals refine key2 _ ⟨fun f3_ => ?_, fun f3_ f4_ => ?_⟩
       all_goals (
        clear key key2
        go_quiet (fail)
        all_goals (try go_wp2)
        go_roundg k1
        case measure => exact Nat.lt_succ_self _
        case rel => exact ⟨ii + 1, rfl, ⟨by have := HI.out; have := HK.out; omega⟩, ⟨by have := HK.out; omega⟩, ⟨pw_below_drewN HB2.out _⟩⟩)
   | succ k1 =>
    have i0 : 0 ≤ ii := by have := HI.out; have := HK.out; omega
    have i1 : ii < (l0.length : Int) := by have := HI.out; have := HK.out; omega
    have i2 : ii < 1000000 := by omega
    have b1 : decide (ii < (l0.length : Int)) = true := decide_eq_true i1
    have p0 : (0 ≤ ii) = True := eq_true i0
    have p1 : (ii < (l0.length : Int)) = True := eq_true i1
    have hp := G5.out ii.toNat (by omega)
    rw [Int.toNat_of_nonneg i0] at hp
    obtain ⟨adw, ew, yw⟩ := Kd.at_int (Kd.C_below HR3.out HB.out) ii i0 (by rw [g1]; exact i1)
    obtain ⟨adl, el, yl⟩ := Kd.at_int (Kd.C_below HR2b.out HB.out) ii i0 (by rw [g2]; exact i1)
    subst ew el
    obtain ⟨q1, q2⟩ := hp
    generalize rd wh ii = v at q1 q2 yw
    generalize rd lv ii = u at q1 q2 yl
    by_cases hv : 0 ≤ v
    ·
     have hu : 0 ≤ u := q1.1 hv
     obtain ⟨q3, q4⟩ := q2 hv
     obtain ⟨ads, A9, c9, es, y0, y1, y2, y3, _, _⟩ := at_T28 (Kd.C_below HR1c.out HB.out) v hv q3
     subst es
     rw [q4] at y0
     have b2 : decide (v ≥ 0) = true := decide_eq_true hv
     have b3 : decide (u ≥ 0) = true := decide_eq_true hu
     have p2 : (0 ≤ v) = True := eq_true hv
     have p3 : (v < (s.length : Int)) = True := eq_true q3
     clear q1 q2 hv hu q3 q4 y1 y2 y3
     go_wp2
     go_quiet (fail)
     all_goals (try go_wp2)
     go_roundg k1
     case measure => exact Nat.lt_succ_self _
     case rel => exact ⟨ii + 1, rfl, ⟨by have := HI.out; have := HK.out; omega⟩, ⟨by have := HK.out; omega⟩, ⟨pw_below_drewN HB.out _⟩⟩
    ·
     have hu : ¬ 0 ≤ u := fun h => hv (q1.2 h)
     have b2 : decide (v ≥ 0) = false := decide_eq_false hv
     have b3 : decide (u ≥ 0) = false := decide_eq_false hu
     clear q1 q2 hv hu
     go_wp2
     go_quiet (fail)
     all_goals (try go_wp2)
     go_roundg k1
     case measure => exact Nat.lt_succ_self _
     case rel => exact ⟨ii + 1, rfl, ⟨by have := HI.out; have := HK.out; omega⟩, ⟨by have := HK.out; omega⟩, ⟨pw_below_drewN HB.out _⟩⟩
end


/-- THE ONE PURE STATEMENT of parquetrylaw12_SeqsOnce: yours. -/
def parquetrylaw12_SeqsOnce.Pure : Prop := ∀ (l0 : List Int) (a1 : Int), l0.length ≤ maxLen → l0.length * 8 ≤ 140737488351232 → (∀ x ∈ l0, (Lit.int .i64 x).wf = true) → (Lit.int .i64 a1).wf = true → ∃ k, parquetrylaw12_SeqsOnce.f k l0 a1 = some true
theorem parquetrylaw12_SeqsOnce.walk (P : parquetrylaw12_SeqsOnce.Pure) (a0 : Option Addr) (len0 cap0 : Nat) (z0 : List Int) (a1 : Int) (w : World) (w0 : (a0 = none ∧ len0 = 0 ∧ cap0 = 0 ∧ z0 = []) ∨ ∃ x, a0 = some x ∧ len0 ≤ cap0 ∧ cap0 ≤ maxLen ∧ z0.length = cap0 ∧ (∀ i, i < z0.length → w.cell? (x.add i) = some (.int .i64 (z0.getD i 0))) ∧ ∀ n ∈ z0, (Lit.int .i64 n).wf = true) (y0 : len0 * 8 ≤ 140737488351232) (w1 : (Lit.int .i64 a1).wf = true) :
  Calls Try.prog 4 #[.slice a0 len0 cap0, .int .i64 a1] w fun e w' => e = .returned (.bool true) ∧ Below w.heap.size w w' := by
 obtain ⟨l0, rfl, hr0, hm0, hw0, hc0⟩ := ReadsInt.ofRowC w0
 obtain ⟨k, h⟩ := P l0 a1 hm0 y0 hw0 w1
 refine (parquetrylaw12_SeqsOnce.calls k _ _ l0 a1 true w (Kd.C_of_reads (d := (0 : Int)) (h1 := fun _ => rfl) hr0) hc0 h).mono ?_
 rintro e w' ⟨rfl, hd⟩
 exact ⟨rfl, hd⟩

end Go.Proofs.Ytdieknpikdepgaa.PC12
