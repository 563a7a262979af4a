/- For the laws of the group C06: the Lean functions that the Go functions compute, and proofs that they do. Written by wip/hprint.py of this repo over the kit's printer; nothing here is trusted: Lean checks it. -/
import Derived.Test.YtgbkfjdkejjmpaaPC06x0
import Derived.Test.YtgbkfjdkejjmpaaPC06x5
import Derived.Test.YtgbkfjdkejjmpaaPC06x6
import Derived.Test.YtgbkfjdkejjmpaaPC06x16
namespace Go.Proofs.Ytgbkfjdkejjmpaa.PC06
open Go.RowKit Go.Proofs.YtgbkfjdkejjmpaaW.PrintWords Go.Proofs.YtgbkfjdkejjmpaaW.PrintLast Go.Proofs.YtgbkfjdkejjmpaaW.PrintMore
attribute [local go_sem] max2_int min2_int max_two min_two max_three min_three max_four min_four   -- for this text's walks alone
set_option linter.unusedVariables false
set_option linter.unusedSimpArgs false

/-! ### parquetrylaw06_ClusterWhole: function 15: by hand -/
/-- Where a cluster begins. -/
def parquetrylaw06_ClusterWhole.atp : List S39 → Nat → Int
  | _, 0 => 0
  | [], _ => 0
  | c :: r, n + 1 => c.f1 + parquetrylaw06_ClusterWhole.atp r n
def parquetrylaw06_ClusterWhole.cl (l : List S39) (i : Nat) : S39 := l.getD i z39
theorem parquetrylaw06_ClusterWhole.atp_0 (l : List S39) : parquetrylaw06_ClusterWhole.atp l 0 = 0 := by cases l <;> rfl
/-- What the statement asks of a cluster. -/
def parquetrylaw06_ClusterWhole.one (l : List S39) (i : Nat) : Prop :=
  (parquetrylaw06_ClusterWhole.cl l i).f0 = parquetrylaw06_ClusterWhole.atp l i ∧ 1 ≤ (parquetrylaw06_ClusterWhole.cl l i).f1 ∧ 0 ≤ (parquetrylaw06_ClusterWhole.cl l i).f4 ∧ (parquetrylaw06_ClusterWhole.cl l i).f4 ≤ 2 ∧ (parquetrylaw06_ClusterWhole.cl l i).f2 < (parquetrylaw06_ClusterWhole.cl l i).f3 ∧ (i = 0 → (parquetrylaw06_ClusterWhole.cl l i).f2 = 0) ∧ (0 < i → (parquetrylaw06_ClusterWhole.cl l i).f2 = (parquetrylaw06_ClusterWhole.cl l (i - 1)).f3) ∧
  parquetrylaw06_ClusterWhole.atp l (i + 1) = parquetrylaw06_ClusterWhole.atp l i + (parquetrylaw06_ClusterWhole.cl l i).f1 ∧ 0 ≤ parquetrylaw06_ClusterWhole.atp l i ∧ parquetrylaw06_ClusterWhole.atp l (i + 1) ≤ 1000000 ∧ ∀ k, k < (parquetrylaw06_ClusterWhole.cl l i).f1.toNat → cluster_Find.f l (parquetrylaw06_ClusterWhole.atp l i + (k : Int)) = some ((i : Int), true)
instance parquetrylaw06_ClusterWhole.oneD (l : List S39) (i : Nat) : Decidable (parquetrylaw06_ClusterWhole.one l i) := by unfold parquetrylaw06_ClusterWhole.one; infer_instance
def parquetrylaw06_ClusterWhole.good (n : Nat) (l : List S39) : Prop :=
  (∀ i, i < l.length → parquetrylaw06_ClusterWhole.one l i) ∧ l.length < 1000000 ∧ parquetrylaw06_ClusterWhole.atp l l.length = (n : Int) ∧ cluster_Find.f l (n : Int) = some (0, false) ∧ cluster_Find.f l (-1) = some (0, false)
instance parquetrylaw06_ClusterWhole.goodD (n : Nat) (l : List S39) : Decidable (parquetrylaw06_ClusterWhole.good n l) := by unfold parquetrylaw06_ClusterWhole.good; infer_instance
def parquetrylaw06_ClusterWhole.f (k : Nat) (a0 : ByteArray) : Option Bool := if (a0.size : Int) > 1000 then parquetrylaw06_awake.f k else (cluster_Split.f a0).bind fun l => if parquetrylaw06_ClusterWhole.good a0.size l then (parquetrylaw06_awake.f k).bind fun t => if t = true then some true else none else none
theorem parquetrylaw06_ClusterWhole.mono : ∀ a0 k, LeO (parquetrylaw06_ClusterWhole.f k a0) (parquetrylaw06_ClusterWhole.f (k + 1) a0) := by
  intro a0 k
  unfold parquetrylaw06_ClusterWhole.f
  exact LeO.ite (parquetrylaw06_awake.mono k) (LeO.bind (LeO.refl _) (fun _ => LeO.ite (LeO.bind (parquetrylaw06_awake.mono k) (fun _ => LeO.refl _)) (LeO.refl _)))
section
open Go.Proofs.YtgbkfjdkejjmpaaH
theorem parquetrylaw06_ClusterWhole.cells6 (a b c d e f : Int) : ∀ q ∈ (Value.agg #[.int .i64 a, .int .i64 b, .int .i64 c, .int .i64 d, .int .i64 e, .int .i64 f]).cells.toList, q.oneCell' = true := fun q hq => by
  have hq' : q ∈ [Value.int .i64 a, .int .i64 b, .int .i64 c, .int .i64 d, .int .i64 e, .int .i64 f] := hq
  simp only [List.mem_cons, List.not_mem_nil, or_false] at hq'
  rcases hq' with rfl | rfl | rfl | rfl | rfl | rfl <;> rfl
set_option maxHeartbeats 4000000 in
set_option maxRecDepth 100000 in
theorem parquetrylaw06_ClusterWhole.calls (k : Nat) (a0 : ByteArray) (r : Bool) (w : World) (h : parquetrylaw06_ClusterWhole.f k a0 = some r) : Calls Try.prog 15 #[.string a0] w fun e w' => e = .returned (.bool r) ∧ Below w.heap.size w w' := by
  have hu := Try.underlying39
  unfold parquetrylaw06_ClusterWhole.f at h
  have HB := Aside0.mk (Below.refl w.heap.size w)
  by_cases hs : (a0.size : Int) > 1000
  · rw [if_pos hs] at h
    have hsb := decide_eq_true hs
    have HA := Aside0.mk h
    clear h hs
    go_enter Try.func15, Try.ntmps15
    go_wp2_with (go_at_call 29; (with_reducible refine (parquetrylaw06_awake.calls k r _ HA.out).mono ?_); rintro e w1 ⟨rfl, hb⟩; have n0_ := Aside0.mk (below_step HB.out hb); clear HB hb; have HB := n0_; clear n0_)
    go_ret
    exact ⟨rfl, HB.out⟩
  · rw [if_neg hs] at h
    obtain ⟨l, hsp, h⟩ := Option.bind_eq_some_iff.1 h
    by_cases hg : parquetrylaw06_ClusterWhole.good a0.size l
    case neg =>
      rw [if_neg hg] at h
      cases h
    rw [if_pos hg] at h
    obtain ⟨t, haw, h⟩ := Option.bind_eq_some_iff.1 h
    by_cases ht : t = true
    case neg =>
      rw [if_neg ht] at h
      cases h
    rw [if_pos ht] at h
    subst ht
    obtain rfl : true = r := by simpa using h
    have hsb := decide_eq_false hs
    have HSP := Aside0.mk hsp
    have HA := Aside0.mk haw
    obtain ⟨hg1, hg2, hg3, hg4, hg5⟩ := hg
    have HG1 := Aside0.mk hg1
    have HG3 := Aside0.mk hg3
    have HG4 := Aside0.mk hg4
    have HG5 := Aside0.mk hg5
    clear h hs hsp haw hg1 hg3 hg4 hg5
    go_enter Try.func15, Try.ntmps15
    go_wp2_with (go_at_call 36; (with_reducible refine (cluster_Split.calls a0 l _ HSP.out).mono ?_); rintro e w1 ⟨v1, rfl, hO, hb⟩; obtain ⟨A1, q1, rfl, hq1, hC1⟩ := Kd.R_reads hO; have HC := Aside0.mk hC1; have HQ := Aside0.mk hq1; have n0_ := Aside0.mk (below_step HB.out hb); have HW := Aside0.mk (Below.refl w1.heap.size w1); clear HB hb hO hC1 hq1; have HB := n0_; clear n0_)
    go_loopg [4, 5] l.length (fun kq v4 v5 w' => ∃ i : Nat, v4 = .int .i64 (parquetrylaw06_ClusterWhole.atp l i) ∧ v5 = .int .i64 (i : Int) ∧ i ≤ l.length ∧ l.length - i ≤ kq ∧ Aside0 (Below w1.heap.size w1 w'))
    case atStart => exact ⟨0, by rw [parquetrylaw06_ClusterWhole.atp_0], rfl, Nat.zero_le _, by omega, HW⟩
    case round =>
      clear HW
      obtain ⟨i, rfl, rfl, hi, hq, HW⟩ := hrel
      by_cases hlt : i < l.length
      · have h1 := HG1.out i hlt
        obtain ⟨ii, hii⟩ : ∃ z : Int, z = (i : Int) := ⟨_, rfl⟩
        have hi0 : 0 ≤ ii := by omega
        have hi1 : ii < (l.length : Int) := by omega
        obtain ⟨ad, e1, hx0, hx1, hx2, hx3, hx4, hx5⟩ := at_T39 HC.out ii hi0 hi1
        cases e1
        have hrd : rd_T39 l ii = parquetrylaw06_ClusterWhole.cl l i := by unfold rd_T39 parquetrylaw06_ClusterWhole.cl; rw [hii, Int.toNat_natCast]
        rw [hrd] at hx0 hx1 hx2 hx3 hx4 hx5
        unfold parquetrylaw06_ClusterWhole.one at h1
        rw [← hii] at h1 ⊢
        have HII := Aside0.mk hii
        clear hii hrd
        have hX : ∀ j : Int, 0 ≤ j → j < (l.length : Int) → w1.cell? ⟨(ad.add (j.toNat * 6)).block, (ad.add (j.toNat * 6)).off + 3, none⟩ = some (.int .i64 (rd_T39 l j).f3) := by
          intro j g0 g1
          obtain ⟨ad2, e2, _, _, _, h3, _, _⟩ := at_T39 HC.out j g0 g1
          obtain rfl : ad = ad2 := by injection e2
          exact h3
        have HX := Aside0.mk hX
        clear hX
        replace hx0 := (HW.out.cell (World.block_lt_of_cell? w1 _ hx0)).trans hx0
        replace hx1 := (HW.out.cell (World.block_lt_of_cell? w1 _ hx1)).trans hx1
        replace hx2 := (HW.out.cell (World.block_lt_of_cell? w1 _ hx2)).trans hx2
        replace hx3 := (HW.out.cell (World.block_lt_of_cell? w1 _ hx3)).trans hx3
        replace hx4 := (HW.out.cell (World.block_lt_of_cell? w1 _ hx4)).trans hx4
        replace hx5 := (HW.out.cell (World.block_lt_of_cell? w1 _ hx5)).trans hx5
        generalize parquetrylaw06_ClusterWhole.cl l i = c at *
        obtain ⟨c0, c1, c2, c3, c4, c5⟩ := c
        obtain ⟨e0, b1, b4, b42, b23, bz, bp, bn, p0, p1, hfind⟩ := h1
        dsimp only at e0 b1 b4 b42 b23 bz bp bn p0 p1 hfind hx0 hx1 hx2 hx3 hx4 hx5
        subst e0
        rw [bn] at p1
        have HN := Aside0.mk bn
        have HFI := Aside0.mk hfind
        clear bn hfind
        generalize parquetrylaw06_ClusterWhole.atp l i = p at *
        have d1 := decide_eq_false (show ¬ c1 < 1 by omega)
        have d2 := decide_eq_false (show ¬ c4 < 0 by omega)
        have d3 := decide_eq_false (show ¬ c4 > 2 by omega)
        have d4 := decide_eq_false (show ¬ c2 ≥ c3 by omega)
        have hi0e := eq_true hi0
        have hi1e := eq_true hi1
        by_cases hz : i = 0
        · have z1 : (ii == 0) = true := beq_iff_eq.2 (by have := HII.out; omega)
          have z2 : (c2 != 0) = false := by rw [bz hz]; rfl
          have z3 := decide_eq_false (show ¬ ii > 0 by have := HII.out; omega)
          clear bz bp hz
          go_upto_region 9 with (first | ((with_reducible refine gate_dst (N := 6) rfl ?_); refine alloc_event rfl 39 rfl 6 (by kernel_rfl) ?_; intro g6 w2 cs6 hcs hg hb hbel hsz; have n0_ := Aside0.mk (below_step HW.out hbel); have G6 := Aside0.mk (show w1.heap.size ≤ g6 by rw [hg]; exact HW.out.size); have K6 := Aside0.mk hb; have C6 := Aside0.mk hcs; clear HW hcs hg hb hbel hsz hx0 hx1 hx2 hx3 hx4 hx5; have HW := n0_; clear n0_) | ((with_reducible refine gate_store (t := 39) (p := 6) (v := .tmp 29) rfl ?_); refine block_store rfl rfl 39 (.tmp 6) (.tmp 29) rfl rfl (.agg #[.int .i64 p, .int .i64 c1, .int .i64 c2, .int .i64 c3, .int .i64 c4, .int .i64 c5]) rfl K6.out (by rw [C6.out]; rfl) (by rw [C6.out]; kernel_rfl) (parquetrylaw06_ClusterWhole.cells6 p c1 c2 c3 c4 c5) ?_; intro w3 hb hk hs hB; have n0_ := Aside0.mk (hB _ _ HW.out G6.out); have n1_ := Aside0.mk hb; clear HW K6 C6 hb hk hs hB; have HW := n0_; have K6 := n1_; clear n0_ n1_))
          (try simp only [Act.put, List.setIfInBounds_toArray, List.set_cons_zero, List.set_cons_succ])
          have k0 := (blk_cell K6.out 0).trans rfl
          have k1 := (blk_cell K6.out 1).trans rfl
          have k2 := (blk_cell K6.out 2).trans rfl
          have k3 := (blk_cell K6.out 3).trans rfl
          have k4 := (blk_cell K6.out 4).trans rfl
          go_quiet (fail)
          all_goals (try go_wp2)
          have n0_ := Aside0.mk (pw_below_drewN HW.out nq)
          have n1_ := Aside0.mk (blk_drewN K6.out nq)
          clear HW K6 k0 k1 k2 k3 k4
          have HW := n0_
          have K6 := n1_
          clear n0_ n1_
          generalize w3.drewN nq = w5 at *
          go_loopg [7] c1.toNat (fun kq v7 w' => ∃ kk : Nat, v7 = .int .i64 (kk : Int) ∧ kk ≤ c1.toNat ∧ c1.toNat - kk ≤ kq ∧ Aside0 (Below w1.heap.size w1 w') ∧ Aside0 (w'.heap[g6]? = some (.cells #[.int .i64 p, .int .i64 c1, .int .i64 c2, .int .i64 c3, .int .i64 c4, .int .i64 c5] 39 (0, 0))))
          case atStart => exact ⟨0, rfl, Nat.zero_le _, by omega, HW, K6⟩
          case round =>
            clear HW K6
            obtain ⟨kk, rfl, hkk, hkq, HW, K6⟩ := hrel
            have k1 := (blk_cell K6.out 1).trans rfl
            by_cases hk : kk < c1.toNat
            · have kb := decide_eq_true (show (kk : Int) < c1 by omega)
              have HF := Aside0.mk (HFI.out kk hk)
              have kb2 : p + (kk : Int) ≤ 1000000 := by omega
              go_wp2_with (go_at_call 38; (with_reducible refine (cluster_Find.calls _ q1 l (p + (kk : Int)) ii true _ (Kd.C_below HC.out HW.out) HQ.out HF.out).mono ?_); rintro e w4 ⟨rfl, hb⟩; have n0_ := Aside0.mk (below_step HW.out hb); have n1_ := Aside0.mk (blk_below K6.out hb); clear K6; clear HW hb; have HW := n0_; have K6 := n1_; clear n1_; clear n0_)
              go_roundg (c1.toNat - (kk + 1))
              case measure => omega
              case rel => exact ⟨kk + 1, by go_num, by omega, Nat.le_refl _, HW, K6⟩
            · obtain rfl : kk = c1.toNat := by omega
              have kb := decide_eq_false (show ¬ ((c1.toNat : Nat) : Int) < c1 by omega)
              go_wp2
              go_roundg (l.length - (i + 1))
              case measure => omega
              case rel => exact ⟨i + 1, by rw [HN.out], by rw [HII.out]; go_num, by omega, Nat.le_refl _, HW⟩
        · have z1 : (ii == 0) = false := beq_eq_false_iff_ne.2 (by have := HII.out; omega)
          have z3 := decide_eq_true (show ii > 0 by have := HII.out; omega)
          have hpv : rd_T39 l (ii - 1) = parquetrylaw06_ClusterWhole.cl l (i - 1) := by unfold rd_T39 parquetrylaw06_ClusterWhole.cl; rw [show (ii - 1).toNat = i - 1 by have := HII.out; omega]
          have z2 : (c2 != (rd_T39 l (ii - 1)).f3) = false := by rw [hpv, ← bp (by omega)]; exact bne_self_eq_false _
          have hX1 := HX.out (ii - 1) (by have := HII.out; omega) (by omega)
          clear hpv bz bp
          generalize (rd_T39 l (ii - 1)).f3 = pf at *
          rw [show (ii - 1).toNat = ii.toNat - 1 by omega] at hX1
          have HX1 := Aside0.mk hX1
          clear hX1
          have hi3 : 1 ≤ ii := by have := HII.out; omega
          go_upto_region 9 with (first | ((with_reducible refine gate_dst (N := 6) rfl ?_); refine alloc_event rfl 39 rfl 6 (by kernel_rfl) ?_; intro g6 w2 cs6 hcs hg hb hbel hsz; have n0_ := Aside0.mk (below_step HW.out hbel); have G6 := Aside0.mk (show w1.heap.size ≤ g6 by rw [hg]; exact HW.out.size); have K6 := Aside0.mk hb; have C6 := Aside0.mk hcs; clear HW hcs hg hb hbel hsz hx0 hx1 hx2 hx3 hx4 hx5; have HW := n0_; clear n0_) | ((with_reducible refine gate_store (t := 39) (p := 6) (v := .tmp 29) rfl ?_); refine block_store rfl rfl 39 (.tmp 6) (.tmp 29) rfl rfl (.agg #[.int .i64 p, .int .i64 c1, .int .i64 c2, .int .i64 c3, .int .i64 c4, .int .i64 c5]) rfl K6.out (by rw [C6.out]; rfl) (by rw [C6.out]; kernel_rfl) (parquetrylaw06_ClusterWhole.cells6 p c1 c2 c3 c4 c5) ?_; intro w3 hb hk hs hB; have n0_ := Aside0.mk (hB _ _ HW.out G6.out); have n1_ := Aside0.mk hb; clear HW K6 C6 hb hk hs hB; have HW := n0_; have K6 := n1_; clear n0_ n1_))
          (try simp only [Act.put, List.setIfInBounds_toArray, List.set_cons_zero, List.set_cons_succ])
          have k0 := (blk_cell K6.out 0).trans rfl
          have k1 := (blk_cell K6.out 1).trans rfl
          have k2 := (blk_cell K6.out 2).trans rfl
          have k3 := (blk_cell K6.out 3).trans rfl
          have k4 := (blk_cell K6.out 4).trans rfl
          have hy := (HW.out.cell (World.block_lt_of_cell? w1 _ HX1.out)).trans HX1.out
          have hw9 : IntKind.i64.wrap (ii - 1) = ii - 1 := by rw [IntKind.wrap_i64]; omega
          have q0 := eq_true (show 0 ≤ ii - 1 by omega)
          have q1e := eq_true (show ii - 1 < (l.length : Int) by omega)
          go_quiet (fail)
          all_goals (try go_wp2)
          have n0_ := Aside0.mk (pw_below_drewN HW.out nq)
          have n1_ := Aside0.mk (blk_drewN K6.out nq)
          clear HW K6 k0 k1 k2 k3 k4 hy hw9 q0 q1e
          have HW := n0_
          have K6 := n1_
          clear n0_ n1_
          generalize w3.drewN nq = w5 at *
          go_loopg [7] c1.toNat (fun kq v7 w' => ∃ kk : Nat, v7 = .int .i64 (kk : Int) ∧ kk ≤ c1.toNat ∧ c1.toNat - kk ≤ kq ∧ Aside0 (Below w1.heap.size w1 w') ∧ Aside0 (w'.heap[g6]? = some (.cells #[.int .i64 p, .int .i64 c1, .int .i64 c2, .int .i64 c3, .int .i64 c4, .int .i64 c5] 39 (0, 0))))
          case atStart => exact ⟨0, rfl, Nat.zero_le _, by omega, HW, K6⟩
          case round =>
            clear HW K6
            obtain ⟨kk, rfl, hkk, hkq, HW, K6⟩ := hrel
            have k1 := (blk_cell K6.out 1).trans rfl
            by_cases hk : kk < c1.toNat
            · have kb := decide_eq_true (show (kk : Int) < c1 by omega)
              have HF := Aside0.mk (HFI.out kk hk)
              have kb2 : p + (kk : Int) ≤ 1000000 := by omega
              go_wp2_with (go_at_call 38; (with_reducible refine (cluster_Find.calls _ q1 l (p + (kk : Int)) ii true _ (Kd.C_below HC.out HW.out) HQ.out HF.out).mono ?_); rintro e w4 ⟨rfl, hb⟩; have n0_ := Aside0.mk (below_step HW.out hb); have n1_ := Aside0.mk (blk_below K6.out hb); clear K6; clear HW hb; have HW := n0_; have K6 := n1_; clear n1_; clear n0_)
              go_roundg (c1.toNat - (kk + 1))
              case measure => omega
              case rel => exact ⟨kk + 1, by go_num, by omega, Nat.le_refl _, HW, K6⟩
            · obtain rfl : kk = c1.toNat := by omega
              have kb := decide_eq_false (show ¬ ((c1.toNat : Nat) : Int) < c1 by omega)
              go_wp2
              go_roundg (l.length - (i + 1))
              case measure => omega
              case rel => exact ⟨i + 1, by rw [HN.out], by rw [HII.out]; go_num, by omega, Nat.le_refl _, HW⟩
      · obtain rfl : i = l.length := by omega
        rw [HG3.out]
        go_wp2_with (first | (go_at_call 38; (with_reducible refine (cluster_Find.calls _ q1 l (a0.size : Int) 0 false _ (Kd.C_below HC.out HW.out) HQ.out HG4.out).mono ?_); rintro e w4 ⟨rfl, hb⟩; have n0_ := Aside0.mk (below_step HW.out hb); clear HW hb; have HW := n0_; clear n0_) | (go_at_call 38; (with_reducible refine (cluster_Find.calls _ q1 l (-1) 0 false _ (Kd.C_below HC.out HW.out) HQ.out HG5.out).mono ?_); rintro e w4 ⟨rfl, hb⟩; have n0_ := Aside0.mk (below_step HW.out hb); clear HW hb; have HW := n0_; clear n0_) | (go_at_call 29; (with_reducible refine (parquetrylaw06_awake.calls k true _ HA.out).mono ?_); rintro e w6 ⟨rfl, hb⟩; have n0_ := Aside0.mk (below_step HW.out hb); clear HW hb; have HW := n0_; clear n0_))
        go_ret
        exact ⟨rfl, below_step HB.out HW.out⟩
end


/-- THE ONE PURE STATEMENT of parquetrylaw06_ClusterWhole: yours. -/
def parquetrylaw06_ClusterWhole.Pure : Prop := ∀ (a0 : ByteArray), a0.size ≤ 140737488351232 → ∃ k, parquetrylaw06_ClusterWhole.f k a0 = some true
theorem parquetrylaw06_ClusterWhole.walk (P : parquetrylaw06_ClusterWhole.Pure) (a0 : ByteArray) (w : World) (w0 : a0.size ≤ 140737488351232) :
    Calls Try.prog 15 #[.string a0] w fun e w' => e = .returned (.bool true) ∧ Below w.heap.size w w' := by
  obtain ⟨k, h⟩ := P a0 w0
  refine (parquetrylaw06_ClusterWhole.calls k a0 true w h).mono ?_
  rintro e w' ⟨rfl, hd⟩
  exact ⟨rfl, hd⟩

end Go.Proofs.Ytgbkfjdkejjmpaa.PC06
