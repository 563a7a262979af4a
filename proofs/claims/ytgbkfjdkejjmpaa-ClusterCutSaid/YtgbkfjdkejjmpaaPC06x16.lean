/- For the laws of the group C06: the Lean functions that the Go functions compute, and proofs that they do. Written by wip/hprint.py of this repo over the kit's printer; nothing here is trusted: Lean checks it. -/
import Derived.Test.YtgbkfjdkejjmpaaPC06x0
namespace Go.Proofs.Ytgbkfjdkejjmpaa.PC06
open Go.RowKit Go.Proofs.YtgbkfjdkejjmpaaW.PrintWords Go.Proofs.YtgbkfjdkejjmpaaW.PrintLast Go.Proofs.YtgbkfjdkejjmpaaW.PrintMore
attribute [local go_sem] max2_int min2_int max_two min_two max_three min_three max_four min_four   -- for this text's walks alone
set_option linter.unusedVariables false
set_option linter.unusedSimpArgs false

-- NOT PRINTED: function 63 (api_Cluster)

/-! ### cluster_Find: function 38: by hand -/
/-- Is a byte in a cluster? -/
def cluster_Find.hit (p : Int) (c : S39) : Bool := decide (c.f1 > 0) && (decide (c.f0 ≤ p) && decide (IntKind.u64.wrap (IntKind.u64.wrap p - IntKind.u64.wrap c.f0) < IntKind.u64.wrap c.f1))
/-- The first cluster in which it is. -/
def cluster_Find.ix (p : Int) : List S39 → Int → Int
  | [], _ => -1
  | c :: r, i => if cluster_Find.hit p c = true then i else cluster_Find.ix p r (i + 1)
def cluster_Find.f (l0 : List S39) (a1 : Int) : Option (Int × Bool) := some (if 0 ≤ cluster_Find.ix a1 l0 0 then (cluster_Find.ix a1 l0 0, true) else (0, false))
section
open Go.Proofs.YtgbkfjdkejjmpaaH
set_option maxHeartbeats 4000000 in
set_option maxRecDepth 100000 in
theorem cluster_Find.hit_calls (c0 c1 c2 c3 c4 c5 : Int) (g : Nat) (p : Int) (w : World) (hg : w.cell? ⟨g, 0, none⟩ = some (.int .i64 p)) :
    Calls Try.prog 64 #[.agg #[.int .i64 c0, .int .i64 c1, .int .i64 c2, .int .i64 c3, .int .i64 c4, .int .i64 c5], .pointer (some ⟨g, 0, none⟩)] w fun e w' => e = .returned (.bool (cluster_Find.hit p ⟨c0, c1, c2, c3, c4, c5⟩)) ∧ Below w.heap.size w w' := by
  have hu := Try.underlying39
  have hb := World.block_lt_of_cell? w _ hg
  have HG := Aside0.mk hg
  clear hg
  have HH := Aside0.mk (show cluster_Find.hit p ⟨c0, c1, c2, c3, c4, c5⟩ = (decide (c1 > 0) && (decide (c0 ≤ p) && decide (IntKind.u64.wrap (IntKind.u64.wrap p - IntKind.u64.wrap c0) < IntKind.u64.wrap c1))) from rfl)
  generalize cluster_Find.hit p ⟨c0, c1, c2, c3, c4, c5⟩ = r at *
  have HB := Aside0.mk (Below.refl w.heap.size w)
  have k0 := blk_new w (.cells #[.int .i64 c0, .int .i64 c1, .int .i64 c2, .int .i64 c3, .int .i64 c4, .int .i64 c5] 39)
  have hgc := ((below_alloc HB.out (.cells #[.int .i64 c0, .int .i64 c1, .int .i64 c2, .int .i64 c3, .int .i64 c4, .int .i64 c5] 39)).cell (p := ⟨g, 0, none⟩) hb).trans HG.out
  have hend := below_alloc HB.out (.cells #[.int .i64 c0, .int .i64 c1, .int .i64 c2, .int .i64 c3, .int .i64 c4, .int .i64 c5] 39)
  have HE := Aside0.mk hend
  clear hend
  by_cases h1 : c1 > 0
  · by_cases h2 : c0 ≤ p
    · have HR := Aside0.mk (show r = decide (IntKind.u64.wrap (IntKind.u64.wrap p - IntKind.u64.wrap c0) < IntKind.u64.wrap c1) by rw [HH.out, decide_eq_true h1, decide_eq_true h2]; rfl)
      have h1b := decide_eq_true h1
      have h2b := decide_eq_true h2
      clear h1 h2
      go_enter Try.func64, Try.ntmps64
      go_wp2
      go_ret
      exact ⟨by rw [HR.out]; rfl, HE.out⟩
    · have HR := Aside0.mk (show r = false by rw [HH.out, decide_eq_true h1, decide_eq_false h2]; rfl)
      have h1b := decide_eq_true h1
      have h2b := decide_eq_false h2
      clear h1 h2
      go_enter Try.func64, Try.ntmps64
      go_wp2
      go_ret
      exact ⟨by rw [HR.out]; rfl, HE.out⟩
  · have HR := Aside0.mk (show r = false by rw [HH.out, decide_eq_false h1]; rfl)
    have h1b := decide_eq_false h1
    clear h1
    go_enter Try.func64, Try.ntmps64
    go_wp2
    go_ret
    exact ⟨by rw [HR.out]; rfl, HE.out⟩
theorem cluster_Find.ix_step (p : Int) (l : List S39) (i : Nat) (h : i < l.length) : cluster_Find.ix p (l.drop i) (i : Int) = if cluster_Find.hit p (rd_T39 l (i : Int)) = true then (i : Int) else cluster_Find.ix p (l.drop (i + 1)) ((i + 1 : Nat) : Int) := by
  have e : rd_T39 l (i : Int) = l[i] := by
    unfold rd_T39
    simp [List.getD_eq_getElem?_getD, h]
  rw [e, List.drop_eq_getElem_cons h]
  rfl
set_option maxHeartbeats 4000000 in
set_option maxRecDepth 100000 in
theorem cluster_Find.index_calls (A0 : Option Addr) (c0 : Nat) (l0 : List S39) (g : Nat) (p : Int) (w : World) (hr0 : Kd.C k39 w A0 l0.length l0) (hc0 : l0.length ≤ c0) (hg : w.cell? ⟨g, 0, none⟩ = some (.int .i64 p)) :
    Calls Try.prog 63 #[.slice A0 l0.length c0, .func (.func 64) #[] #[.pointer (some ⟨g, 0, none⟩)]] w fun e w' => e = .returned (.int .i64 (cluster_Find.ix p l0 0)) ∧ Below w.heap.size w w' := by
  have hu := Try.underlying39
  have hn : l0.length ≤ 9223372036854775807 := hr0.2.1
  have eg : ∀ args w, (callFunc 64 args).run Try.prog w = .ok (.enter 64 args) w := enters_of Try.func64 (by kernel_rfl) rfl
  have hgb := World.block_lt_of_cell? w _ hg
  have HG := Aside0.mk (And.intro hg hgb)
  have HR0 := Aside0.mk hr0
  clear hg hgb hr0 hc0
  have HB := Aside0.mk (Below.refl w.heap.size w)
  obtain ⟨r, hr⟩ : ∃ r, r = cluster_Find.ix p l0 0 := ⟨_, rfl⟩
  rw [← hr]
  have HI := Aside0.mk hr
  clear hr
  go_enter Try.func63, Try.ntmps63
  go_wp2
  go_loopg [8] l0.length (fun kq v8 w' => ∃ i : Nat, v8 = .int .i64 (i : Int) ∧ i ≤ l0.length ∧ l0.length - i ≤ kq ∧ Aside0 (r = cluster_Find.ix p (l0.drop i) (i : Int)) ∧ Aside0 (Below w.heap.size w w'))
  case atStart => exact ⟨0, rfl, Nat.zero_le _, by omega, HI, HB⟩
  case round =>
    clear HI HB
    obtain ⟨i, rfl, hi, hq, HI, HB⟩ := hrel
    by_cases hlt : i < l0.length
    · have hi2 := HI.out
      rw [cluster_Find.ix_step p l0 i hlt] at hi2
      have HI2 := Aside0.mk hi2
      clear hi2 HI
      obtain ⟨ad, e1, hx0, hx1, hx2, hx3, hx4, hx5⟩ := at_T39 HR0.out (i : Int) (by omega) (by omega)
      cases e1
      simp only [Int.toNat_natCast] at hx0 hx1 hx2 hx3 hx4 hx5
      replace hx0 := (HB.out.cell (World.block_lt_of_cell? w _ hx0)).trans hx0
      replace hx1 := (HB.out.cell (World.block_lt_of_cell? w _ hx1)).trans hx1
      replace hx2 := (HB.out.cell (World.block_lt_of_cell? w _ hx2)).trans hx2
      replace hx3 := (HB.out.cell (World.block_lt_of_cell? w _ hx3)).trans hx3
      replace hx4 := (HB.out.cell (World.block_lt_of_cell? w _ hx4)).trans hx4
      replace hx5 := (HB.out.cell (World.block_lt_of_cell? w _ hx5)).trans hx5
      generalize rd_T39 l0 (i : Int) = c at *
      cases hh : cluster_Find.hit p c with
      | true =>
        rw [hh, if_pos rfl] at HI2
        have HH := Aside0.mk hh
        clear hh
        obtain ⟨c0, c1, c2, c3, c4, c5⟩ := c
        go_wp2_with (go_at_fn 64; refine (cluster_Find.hit_calls c0 c1 c2 c3 c4 c5 g p _ ((HB.out.cell (p := ⟨g, 0, none⟩) HG.out.2).trans HG.out.1)).mono ?_; rintro e w2 ⟨he, hb2⟩; rw [HH.out] at he; obtain rfl := he; have n0_ := Aside0.mk (below_step HB.out hb2); clear HB hb2; have HB := n0_; clear n0_)
        go_ret
        exact ⟨by rw [HI2.out]; rfl, HB.out⟩
      | false =>
        rw [hh, if_neg (by decide)] at HI2
        have HH := Aside0.mk hh
        clear hh
        obtain ⟨c0, c1, c2, c3, c4, c5⟩ := c
        go_wp2_with (go_at_fn 64; refine (cluster_Find.hit_calls c0 c1 c2 c3 c4 c5 g p _ ((HB.out.cell (p := ⟨g, 0, none⟩) HG.out.2).trans HG.out.1)).mono ?_; rintro e w2 ⟨he, hb2⟩; rw [HH.out] at he; obtain rfl := he; have n0_ := Aside0.mk (below_step HB.out hb2); clear HB hb2; have HB := n0_; clear n0_)
        go_roundg (l0.length - (i + 1))
        case measure => omega
        case rel => exact ⟨i + 1, by go_num, by omega, Nat.le_refl _, HI2, HB⟩
    · obtain rfl : i = l0.length := by omega
      have HI2 := Aside0.mk (show r = -1 by rw [HI.out, List.drop_length]; rfl)
      clear HI
      go_wp2
      go_ret
      exact ⟨by rw [HI2.out]; rfl, HB.out⟩
set_option maxHeartbeats 4000000 in
set_option maxRecDepth 100000 in
theorem cluster_Find.calls (A0 : Option Addr) (c0 : Nat) (l0 : List S39) (a1 : Int) (r1 : Int) (r2 : Bool) (w : World) (hr0 : Kd.C k39 w A0 l0.length l0) (hc0 : l0.length ≤ c0) (h : cluster_Find.f l0 a1 = some (r1, r2)) :
    Calls Try.prog 38 #[.slice A0 l0.length c0, .int .i64 a1] w fun e w' => e = .returned (.tuple #[.int .i64 r1, .bool r2]) ∧ Below w.heap.size w w' := by
  have HR0 := Aside0.mk hr0
  have HC0 := Aside0.mk hc0
  clear hr0 hc0
  have HB := Aside0.mk (Below.refl w.heap.size w)
  unfold cluster_Find.f at h
  by_cases h0 : 0 ≤ cluster_Find.ix a1 l0 0
  · rw [if_pos h0] at h
    obtain ⟨rfl, rfl⟩ : cluster_Find.ix a1 l0 0 = r1 ∧ true = r2 := by simpa using h
    generalize hk : cluster_Find.ix a1 l0 0 = k at *
    have HK := Aside0.mk hk
    have h0b := decide_eq_true h0
    have h0c : max k 0 = k := by omega
    clear hk h
    go_enter Try.func38, Try.ntmps38
    go_wp2_with (go_at_call 63; refine (cluster_Find.index_calls A0 c0 l0 w.heap.size a1 _ (Kd.C_alloc HR0.out _) HC0.out ((blk_cell (blk_new w (.cells #[.int .i64 a1] 3)) 0).trans rfl)).mono ?_; rintro e w2 ⟨he, hb2⟩; rw [HK.out] at he; obtain rfl := he; have n0_ := Aside0.mk (below_step (below_alloc HB.out _) hb2); clear HB hb2; have HB := n0_; clear n0_)
    go_ret2
    exact ⟨rfl, HB.out⟩
  · rw [if_neg h0] at h
    obtain ⟨rfl, rfl⟩ : 0 = r1 ∧ false = r2 := by simpa using h
    generalize hk : cluster_Find.ix a1 l0 0 = k at *
    have HK := Aside0.mk hk
    have h0b := decide_eq_false h0
    have h0c : max k 0 = 0 := by omega
    clear hk h
    go_enter Try.func38, Try.ntmps38
    go_wp2_with (go_at_call 63; refine (cluster_Find.index_calls A0 c0 l0 w.heap.size a1 _ (Kd.C_alloc HR0.out _) HC0.out ((blk_cell (blk_new w (.cells #[.int .i64 a1] 3)) 0).trans rfl)).mono ?_; rintro e w2 ⟨he, hb2⟩; rw [HK.out] at he; obtain rfl := he; have n0_ := Aside0.mk (below_step (below_alloc HB.out _) hb2); clear HB hb2; have HB := n0_; clear n0_)
    go_ret2
    exact ⟨rfl, HB.out⟩
end


/-! ### parquetryref06_Find: function 39 -/
mutual
def parquetryref06_Find.l0 : Nat → List (S39) → Int → Int → Option (Int)
  | 0, _, _, _ => none
  | k + 1, x0, x1, x5 => if x5 < (x0.length : Int) then (if 0 ≤ x5 then (if ((rd_T39 x0 x5).f1) < 1 then (parquetryref06_Find.j1 k x0 x1 x5 true ((rd_T39 x0 x5).f0) ((rd_T39 x0 x5).f1) ((rd_T39 x0 x5).f2) ((rd_T39 x0 x5).f3) ((rd_T39 x0 x5).f4) ((rd_T39 x0 x5).f5)) else (parquetryref06_Find.j1 k x0 x1 x5 (decide (((rd_T39 x0 x5).f0) > x1)) ((rd_T39 x0 x5).f0) ((rd_T39 x0 x5).f1) ((rd_T39 x0 x5).f2) ((rd_T39 x0 x5).f3) ((rd_T39 x0 x5).f4) ((rd_T39 x0 x5).f5))) else (none)) else (some (-1))
def parquetryref06_Find.j1 : Nat → List (S39) → Int → Int → Bool → Int → Int → Int → Int → Int → Int → Option (Int)
  | 0, _, _, _, _, _, _, _, _, _, _ => none
  | k + 1, x0, x1, x5, x25, x266000, x266001, x266002, x266003, x266004, x266005 => if x25 = true then (parquetryref06_Find.l0 k x0 x1 (wrap64 (x5 + 1))) else (if x266000 < 0 then (if x1 < (wrap64 (x266001 + x266000)) then (some x5) else (if x266000 ≥ 0 then (if (wrap64 (x1 - x266000)) < x266001 then (some x5) else (parquetryref06_Find.l0 k x0 x1 (wrap64 (x5 + 1)))) else (parquetryref06_Find.l0 k x0 x1 (wrap64 (x5 + 1))))) else (if x266000 ≥ 0 then (if (wrap64 (x1 - x266000)) < x266001 then (some x5) else (parquetryref06_Find.l0 k x0 x1 (wrap64 (x5 + 1)))) else (parquetryref06_Find.l0 k x0 x1 (wrap64 (x5 + 1)))))
end
def parquetryref06_Find.f (k : Nat) (l0 : List (S39)) (a1 : Int) : Option (Int) := parquetryref06_Find.l0 k l0 a1 0
theorem parquetryref06_Find.mono_l : ∀ k, (∀ y0 y1 y2, LeO (parquetryref06_Find.l0 k y0 y1 y2) (parquetryref06_Find.l0 (k + 1) y0 y1 y2)) ∧ (∀ y0 y1 y2 y3 y4 y5 y6 y7 y8 y9, LeO (parquetryref06_Find.j1 k y0 y1 y2 y3 y4 y5 y6 y7 y8 y9) (parquetryref06_Find.j1 (k + 1) y0 y1 y2 y3 y4 y5 y6 y7 y8 y9))
  | 0 => ⟨fun _ _ _ r h => by simp [parquetryref06_Find.l0] at h, fun _ _ _ _ _ _ _ _ _ _ r h => by simp [parquetryref06_Find.j1] at h⟩
  | k + 1 => by
    obtain ⟨ih0, ih1⟩ := parquetryref06_Find.mono_l k
    refine ⟨?_, ?_⟩
    · intro y0 y1 y2
      unfold parquetryref06_Find.l0
      repeat' first
      | (with_reducible exact ih0 _ _ _)
      | (with_reducible exact ih1 _ _ _ _ _ _ _ _ _ _)
      | (with_reducible exact LeO.refl _)
      | (with_reducible exact LeO.none _)
      | (with_reducible refine LeO.ite ?_ ?_)
      | (with_reducible refine LeO.bind ?_ (fun _ => ?_))
      | exact ih0 _ _ _
      | exact ih1 _ _ _ _ _ _ _ _ _ _
      | exact LeO.none _
      | refine LeO.ite ?_ ?_
      | refine LeO.bind ?_ (fun _ => ?_)
    · intro y0 y1 y2 y3 y4 y5 y6 y7 y8 y9
      unfold parquetryref06_Find.j1
      repeat' first
      | (with_reducible exact ih0 _ _ _)
      | (with_reducible exact ih1 _ _ _ _ _ _ _ _ _ _)
      | (with_reducible exact LeO.refl _)
      | (with_reducible exact LeO.none _)
      | (with_reducible refine LeO.ite ?_ ?_)
      | (with_reducible refine LeO.bind ?_ (fun _ => ?_))
      | exact ih0 _ _ _
      | exact ih1 _ _ _ _ _ _ _ _ _ _
      | exact LeO.none _
      | refine LeO.ite ?_ ?_
      | refine LeO.bind ?_ (fun _ => ?_)
theorem parquetryref06_Find.mono : ∀ a0 a1 k, LeO (parquetryref06_Find.f k a0 a1) (parquetryref06_Find.f (k + 1) a0 a1) := by
  intro a0 a1 k
  obtain ⟨ih0, ih1⟩ := parquetryref06_Find.mono_l k
  unfold parquetryref06_Find.f
  repeat' first
      | (with_reducible exact ih0 _ _ _)
      | (with_reducible exact ih1 _ _ _ _ _ _ _ _ _ _)
      | (with_reducible exact LeO.refl _)
      | (with_reducible exact LeO.none _)
      | (with_reducible refine LeO.ite ?_ ?_)
      | (with_reducible refine LeO.bind ?_ (fun _ => ?_))
      | exact ih0 _ _ _
      | exact ih1 _ _ _ _ _ _ _ _ _ _
      | exact LeO.none _
      | refine LeO.ite ?_ ?_
      | refine LeO.bind ?_ (fun _ => ?_)
set_option maxHeartbeats 8000000 in
set_option maxRecDepth 100000 in
theorem parquetryref06_Find.calls (k : Nat) (A0 : Option Addr) (c0 : Nat) (l0 : List (S39)) (a1 : Int) (r : Int) (w : World) (hr0 : Kd.C k39 w A0 l0.length l0) (hc0 : l0.length ≤ c0) (h : parquetryref06_Find.f k l0 a1 = some r) :
    Calls Try.prog 39 #[.slice A0 l0.length c0, .int .i64 a1] w fun e w' => e = .returned (.int .i64 r) ∧ Below w.heap.size w w' := by
  have hu39 := Try.underlying39
  have HR0 := Aside0.mk hr0
  have HC0 := Aside0.mk hc0
  clear hr0 hc0
  have HB := Aside0.mk (Below.refl w.heap.size w)
  have H : (parquetryref06_Find.l0 k l0 a1 0) = some r := h
  clear h
  have H' := Aside0.mk H
  clear H
  go_enter Try.func39, Try.ntmps39
  go_wp2
  go_loopg [5] k (fun kq v5 w' => ∃ (x5_1 : Int), v5 = .int .i64 x5_1 ∧ Aside0 (parquetryref06_Find.l0 kq l0 a1 x5_1 = some r) ∧ Aside0 (kq ≤ k) ∧ Aside0 (Below w.heap.size w w'))
  case atStart => exact ⟨(0), (by first | rfl | (simp; done) | (simp [*]; done)), H', ⟨Nat.le_refl _⟩, ⟨by repeat (first | (with_reducible first | exact HB.out | apply below_alloc | apply pw_below_drewN | apply below_drew1) | exact HB.out)⟩⟩
  case round =>
    clear H'
    try clear p2
    obtain ⟨x5_1, rfl, HA, HK1, HB⟩ := hrel
    cases gk with
    | zero => exact absurd HA.out (by simp [parquetryref06_Find.l0])
    | succ k1 =>
      have H := HA.out
      clear HA
      simp only [parquetryref06_Find.l0] at H
      by_cases c3 : x5_1 < (l0.length : Int)
      · rw [if_pos c3] at H
        have c3b0 : decide (x5_1 < (l0.length : Int)) = true := decide_eq_true c3
        clear c3
        by_cases c4 : 0 ≤ x5_1
        · rw [if_pos c4] at H
          have c4b0 : decide (0 ≤ x5_1) = true := decide_eq_true c4
          clear c4
          have HC5 := Aside0.mk H
          clear H
          have p264 : 0 ≤ (x5_1 : Int) := of_decide_eq_true (by first | (with_reducible assumption) | assumption)
          have q264 : x5_1 < (l0.length : Int) := of_decide_eq_true (by first | (with_reducible assumption) | assumption)
          obtain ⟨ad264, e264, hx264_0, hx264_1, hx264_2, hx264_3, hx264_4, hx264_5⟩ := at_T39 HR0.out x5_1 p264 q264
          cases e264
          replace hx264_0 := (HB.out.cell (World.block_lt_of_cell? w _ hx264_0)).trans hx264_0
          replace hx264_1 := (HB.out.cell (World.block_lt_of_cell? w _ hx264_1)).trans hx264_1
          replace hx264_2 := (HB.out.cell (World.block_lt_of_cell? w _ hx264_2)).trans hx264_2
          replace hx264_3 := (HB.out.cell (World.block_lt_of_cell? w _ hx264_3)).trans hx264_3
          replace hx264_4 := (HB.out.cell (World.block_lt_of_cell? w _ hx264_4)).trans hx264_4
          replace hx264_5 := (HB.out.cell (World.block_lt_of_cell? w _ hx264_5)).trans hx264_5
          replace p264 := eq_true p264
          replace q264 := eq_true q264
          go_upto_region 5 with (first | ((with_reducible refine gate_dst (N := 6) rfl ?_); refine box_event ?hg (N := 6) ?hd (cs := #[.int .i64 0, .int .i64 0, .int .i64 0, .int .i64 0, .int .i64 0, .int .i64 0]) (t := 39) ?hr ?_; (case hd => rfl); (case hg => rfl); (case hr => first | (go_simp; done) | (go_simp; rfl)); intro gb265 hg w6 hbox hb; have n0_ := Aside0.mk (below_step (by repeat (first | (with_reducible first | exact HB.out | apply below_alloc | apply pw_below_drewN | apply below_drew1) | exact HB.out)) hb); have n1_ := Aside0.mk (hbox); have n2_ := Aside0.mk ((by rw [hg]; exact (below_size (by repeat (first | (with_reducible first | exact HB.out | apply below_alloc | apply pw_below_drewN | apply below_drew1) | exact HB.out))) : w.heap.size ≤ gb265)); have n3_ := Aside0.mk ((by rw [hg]; exact (below_size (by repeat (first | (with_reducible first | exact HB.out | apply below_alloc | apply pw_below_drewN | apply below_drew1) | exact HB.out))) : w.heap.size ≤ gb265)); clear HB; have HB := n0_; have BK265 := n1_; have GW265 := n2_; have GE265 := n3_; clear n0_ n1_ n2_ n3_; clear hb hbox hg; have hcz7_0 : w6.cell? ⟨gb265, 0, none⟩ = some (.int .i64 0) := (blk_cell BK265.out 0).trans rfl; have hcz7_1 : w6.cell? ⟨gb265, 1, none⟩ = some (.int .i64 0) := (blk_cell BK265.out 1).trans rfl; have hcz7_2 : w6.cell? ⟨gb265, 2, none⟩ = some (.int .i64 0) := (blk_cell BK265.out 2).trans rfl; have hcz7_3 : w6.cell? ⟨gb265, 3, none⟩ = some (.int .i64 0) := (blk_cell BK265.out 3).trans rfl; have hcz7_4 : w6.cell? ⟨gb265, 4, none⟩ = some (.int .i64 0) := (blk_cell BK265.out 4).trans rfl; have hcz7_5 : w6.cell? ⟨gb265, 5, none⟩ = some (.int .i64 0) := (blk_cell BK265.out 5).trans rfl; have hfz7_0 := blk_frozen BK265.out 0; have hfz7_1 := blk_frozen BK265.out 1; have hfz7_2 := blk_frozen BK265.out 2; have hfz7_3 := blk_frozen BK265.out 3; have hfz7_4 := blk_frozen BK265.out 4; have hfz7_5 := blk_frozen BK265.out 5))
          (try simp only [Act.put, List.setIfInBounds_toArray, List.set_cons_zero, List.set_cons_succ])
          go_cut [25] (fun v25 wc => ∃ (kq : Nat) (x25_4 : Bool), v25 = .bool x25_4 ∧ Aside0 (parquetryref06_Find.j1 kq l0 a1 x5_1 x25_4 ((rd_T39 l0 x5_1).f0) ((rd_T39 l0 x5_1).f1) ((rd_T39 l0 x5_1).f2) ((rd_T39 l0 x5_1).f3) ((rd_T39 l0 x5_1).f4) ((rd_T39 l0 x5_1).f5) = some r) ∧ Aside0 (kq ≤ k1) ∧ Aside0 (wc.heap[gb265]? = some (.cells #[.int .i64 ((rd_T39 l0 x5_1).f0), .int .i64 ((rd_T39 l0 x5_1).f1), .int .i64 ((rd_T39 l0 x5_1).f2), .int .i64 ((rd_T39 l0 x5_1).f3), .int .i64 ((rd_T39 l0 x5_1).f4), .int .i64 ((rd_T39 l0 x5_1).f5)] 39 (0, 0))) ∧ Aside0 (Below w.heap.size w wc))
          case first =>
            have H := HC5.out
            clear HC5
            by_cases c8 : ((rd_T39 l0 x5_1).f1) < 1
            · rw [if_pos c8] at H
              have c8b0 : decide (((rd_T39 l0 x5_1).f1) < 1) = true := decide_eq_true c8
              clear c8
              (first | rw [c8b0] | (simp only [i64_w, i32_w]; rw [c8b0]) | skip)
              have H' := Aside0.mk H
              clear H
              have hcz9_0 : w6.cell? ⟨gb265, 0, none⟩ = some (.int .i64 0) := (blk_cell BK265.out 0).trans rfl
              have hcz9_1 : w6.cell? ⟨gb265, 1, none⟩ = some (.int .i64 0) := (blk_cell BK265.out 1).trans rfl
              have hcz9_2 : w6.cell? ⟨gb265, 2, none⟩ = some (.int .i64 0) := (blk_cell BK265.out 2).trans rfl
              have hcz9_3 : w6.cell? ⟨gb265, 3, none⟩ = some (.int .i64 0) := (blk_cell BK265.out 3).trans rfl
              have hcz9_4 : w6.cell? ⟨gb265, 4, none⟩ = some (.int .i64 0) := (blk_cell BK265.out 4).trans rfl
              have hcz9_5 : w6.cell? ⟨gb265, 5, none⟩ = some (.int .i64 0) := (blk_cell BK265.out 5).trans rfl
              have hfz9_0 := blk_frozen BK265.out 0
              have hfz9_1 := blk_frozen BK265.out 1
              have hfz9_2 := blk_frozen BK265.out 2
              have hfz9_3 := blk_frozen BK265.out 3
              have hfz9_4 := blk_frozen BK265.out 4
              have hfz9_5 := blk_frozen BK265.out 5
              go_wp2
              go_meet
              case rel => exact ⟨_, (true), (by first | rfl | (simp; done) | (simp [*]; done)), H', ⟨by have := HK1.out; first | omega | exact Nat.le_refl _⟩, ⟨by (with_reducible repeat (first | refine blk_drewN ?_ _ | refine blk_drew ?_ | refine blk_alloc ?_ _)); refine blk_put (cs := #[.int .i64 ((rd_T39 l0 x5_1).f0), .int .i64 ((rd_T39 l0 x5_1).f1), .int .i64 ((rd_T39 l0 x5_1).f2), .int .i64 ((rd_T39 l0 x5_1).f3), .int .i64 ((rd_T39 l0 x5_1).f4), .int .i64 0]) ?_ 5 _ rfl; (with_reducible repeat (first | refine blk_drewN ?_ _ | refine blk_drew ?_ | refine blk_alloc ?_ _)); refine blk_put (cs := #[.int .i64 ((rd_T39 l0 x5_1).f0), .int .i64 ((rd_T39 l0 x5_1).f1), .int .i64 ((rd_T39 l0 x5_1).f2), .int .i64 ((rd_T39 l0 x5_1).f3), .int .i64 0, .int .i64 0]) ?_ 4 _ rfl; (with_reducible repeat (first | refine blk_drewN ?_ _ | refine blk_drew ?_ | refine blk_alloc ?_ _)); refine blk_put (cs := #[.int .i64 ((rd_T39 l0 x5_1).f0), .int .i64 ((rd_T39 l0 x5_1).f1), .int .i64 ((rd_T39 l0 x5_1).f2), .int .i64 0, .int .i64 0, .int .i64 0]) ?_ 3 _ rfl; (with_reducible repeat (first | refine blk_drewN ?_ _ | refine blk_drew ?_ | refine blk_alloc ?_ _)); refine blk_put (cs := #[.int .i64 ((rd_T39 l0 x5_1).f0), .int .i64 ((rd_T39 l0 x5_1).f1), .int .i64 0, .int .i64 0, .int .i64 0, .int .i64 0]) ?_ 2 _ rfl; (with_reducible repeat (first | refine blk_drewN ?_ _ | refine blk_drew ?_ | refine blk_alloc ?_ _)); refine blk_put (cs := #[.int .i64 ((rd_T39 l0 x5_1).f0), .int .i64 0, .int .i64 0, .int .i64 0, .int .i64 0, .int .i64 0]) ?_ 1 _ rfl; (with_reducible repeat (first | refine blk_drewN ?_ _ | refine blk_drew ?_ | refine blk_alloc ?_ _)); refine blk_put (cs := #[.int .i64 0, .int .i64 0, .int .i64 0, .int .i64 0, .int .i64 0, .int .i64 0]) ?_ 0 _ rfl; (with_reducible repeat (first | refine blk_drewN ?_ _ | refine blk_drew ?_ | refine blk_alloc ?_ _)); exact BK265.out⟩, ⟨by repeat (first | (with_reducible first | exact HB.out | apply below_alloc | apply pw_below_drewN | apply below_drew1 | refine below_set ?_ GE265.out) | exact HB.out)⟩⟩
            · rw [if_neg c8] at H
              have c8b0 : decide (((rd_T39 l0 x5_1).f1) < 1) = false := decide_eq_false c8
              clear c8
              (first | rw [c8b0] | (simp only [i64_w, i32_w]; rw [c8b0]) | skip)
              have H' := Aside0.mk H
              clear H
              have hcz10_0 : w6.cell? ⟨gb265, 0, none⟩ = some (.int .i64 0) := (blk_cell BK265.out 0).trans rfl
              have hcz10_1 : w6.cell? ⟨gb265, 1, none⟩ = some (.int .i64 0) := (blk_cell BK265.out 1).trans rfl
              have hcz10_2 : w6.cell? ⟨gb265, 2, none⟩ = some (.int .i64 0) := (blk_cell BK265.out 2).trans rfl
              have hcz10_3 : w6.cell? ⟨gb265, 3, none⟩ = some (.int .i64 0) := (blk_cell BK265.out 3).trans rfl
              have hcz10_4 : w6.cell? ⟨gb265, 4, none⟩ = some (.int .i64 0) := (blk_cell BK265.out 4).trans rfl
              have hcz10_5 : w6.cell? ⟨gb265, 5, none⟩ = some (.int .i64 0) := (blk_cell BK265.out 5).trans rfl
              have hfz10_0 := blk_frozen BK265.out 0
              have hfz10_1 := blk_frozen BK265.out 1
              have hfz10_2 := blk_frozen BK265.out 2
              have hfz10_3 := blk_frozen BK265.out 3
              have hfz10_4 := blk_frozen BK265.out 4
              have hfz10_5 := blk_frozen BK265.out 5
              go_wp2
              go_meet
              case rel => exact ⟨_, (decide (((rd_T39 l0 x5_1).f0) > a1)), (by first | rfl | (simp; done) | (simp [*]; done)), H', ⟨by have := HK1.out; first | omega | exact Nat.le_refl _⟩, ⟨by (with_reducible repeat (first | refine blk_drewN ?_ _ | refine blk_drew ?_ | refine blk_alloc ?_ _)); refine blk_put (cs := #[.int .i64 ((rd_T39 l0 x5_1).f0), .int .i64 ((rd_T39 l0 x5_1).f1), .int .i64 ((rd_T39 l0 x5_1).f2), .int .i64 ((rd_T39 l0 x5_1).f3), .int .i64 ((rd_T39 l0 x5_1).f4), .int .i64 0]) ?_ 5 _ rfl; (with_reducible repeat (first | refine blk_drewN ?_ _ | refine blk_drew ?_ | refine blk_alloc ?_ _)); refine blk_put (cs := #[.int .i64 ((rd_T39 l0 x5_1).f0), .int .i64 ((rd_T39 l0 x5_1).f1), .int .i64 ((rd_T39 l0 x5_1).f2), .int .i64 ((rd_T39 l0 x5_1).f3), .int .i64 0, .int .i64 0]) ?_ 4 _ rfl; (with_reducible repeat (first | refine blk_drewN ?_ _ | refine blk_drew ?_ | refine blk_alloc ?_ _)); refine blk_put (cs := #[.int .i64 ((rd_T39 l0 x5_1).f0), .int .i64 ((rd_T39 l0 x5_1).f1), .int .i64 ((rd_T39 l0 x5_1).f2), .int .i64 0, .int .i64 0, .int .i64 0]) ?_ 3 _ rfl; (with_reducible repeat (first | refine blk_drewN ?_ _ | refine blk_drew ?_ | refine blk_alloc ?_ _)); refine blk_put (cs := #[.int .i64 ((rd_T39 l0 x5_1).f0), .int .i64 ((rd_T39 l0 x5_1).f1), .int .i64 0, .int .i64 0, .int .i64 0, .int .i64 0]) ?_ 2 _ rfl; (with_reducible repeat (first | refine blk_drewN ?_ _ | refine blk_drew ?_ | refine blk_alloc ?_ _)); refine blk_put (cs := #[.int .i64 ((rd_T39 l0 x5_1).f0), .int .i64 0, .int .i64 0, .int .i64 0, .int .i64 0, .int .i64 0]) ?_ 1 _ rfl; (with_reducible repeat (first | refine blk_drewN ?_ _ | refine blk_drew ?_ | refine blk_alloc ?_ _)); refine blk_put (cs := #[.int .i64 0, .int .i64 0, .int .i64 0, .int .i64 0, .int .i64 0, .int .i64 0]) ?_ 0 _ rfl; (with_reducible repeat (first | refine blk_drewN ?_ _ | refine blk_drew ?_ | refine blk_alloc ?_ _)); exact BK265.out⟩, ⟨by repeat (first | (with_reducible first | exact HB.out | apply below_alloc | apply pw_below_drewN | apply below_drew1 | refine below_set ?_ GE265.out) | exact HB.out)⟩⟩
          case rest =>
            clear HC5
            try clear p2
            try clear q2
            try clear hx2
            try clear c3
            try clear c3b0
            try clear c4
            try clear c4b0
            try clear c8
            try clear c8b0
            try clear hcz10_0
            try clear hcz10_1
            try clear hcz10_2
            try clear hcz10_3
            try clear hcz10_4
            try clear hcz10_5
            try clear hcz7_0
            try clear hcz7_1
            try clear hcz7_2
            try clear hcz7_3
            try clear hcz7_4
            try clear hcz7_5
            try clear hcz9_0
            try clear hcz9_1
            try clear hcz9_2
            try clear hcz9_3
            try clear hcz9_4
            try clear hcz9_5
            try clear hfz10_0
            try clear hfz10_1
            try clear hfz10_2
            try clear hfz10_3
            try clear hfz10_4
            try clear hfz10_5
            try clear hfz7_0
            try clear hfz7_1
            try clear hfz7_2
            try clear hfz7_3
            try clear hfz7_4
            try clear hfz7_5
            try clear hfz9_0
            try clear hfz9_1
            try clear hfz9_2
            try clear hfz9_3
            try clear hfz9_4
            try clear hfz9_5
            try clear hx264_0
            try clear hx264_1
            try clear hx264_2
            try clear hx264_3
            try clear hx264_4
            try clear hx264_5
            try clear p2
            try clear p264
            try clear q264
            obtain ⟨kq, x25_4, rfl, HA, HJ4, BK265, HB⟩ := hcut
            cases kq with
            | zero => exact absurd HA.out (by simp [parquetryref06_Find.j1])
            | succ kj4 =>
              have H := HA.out
              clear HA
              simp only [parquetryref06_Find.j1] at H
              by_cases c11 : x25_4 = true
              · subst c11
                have H1 : (parquetryref06_Find.l0 kj4 l0 a1 (wrap64 (x5_1 + 1))) = some r := by rw [if_pos rfl] at H; exact H
                clear H
                have H := H1
                clear H1
                have H' := Aside0.mk H
                clear H
                go_wp2
                go_roundg kj4
                case measure => have := HK1.out; have := HJ4.out; omega
                case rel => exact ⟨(wrap64 (x5_1 + 1)), (by first | rfl | (simp; done) | (simp [*]; done)), H', ⟨by have := HK1.out; have := HJ4.out; omega⟩, ⟨by repeat (first | (with_reducible first | exact HB.out | apply below_alloc | apply pw_below_drewN | apply below_drew1 | refine below_set ?_ GE265.out) | exact HB.out)⟩⟩
              · replace c11 := Bool.eq_false_iff.mpr c11
                subst c11
                have H1 : (if ((rd_T39 l0 x5_1).f0) < 0 then (if a1 < (wrap64 (((rd_T39 l0 x5_1).f1) + ((rd_T39 l0 x5_1).f0))) then (some x5_1) else (if ((rd_T39 l0 x5_1).f0) ≥ 0 then (if (wrap64 (a1 - ((rd_T39 l0 x5_1).f0))) < ((rd_T39 l0 x5_1).f1) then (some x5_1) else (parquetryref06_Find.l0 kj4 l0 a1 (wrap64 (x5_1 + 1)))) else (parquetryref06_Find.l0 kj4 l0 a1 (wrap64 (x5_1 + 1))))) else (if ((rd_T39 l0 x5_1).f0) ≥ 0 then (if (wrap64 (a1 - ((rd_T39 l0 x5_1).f0))) < ((rd_T39 l0 x5_1).f1) then (some x5_1) else (parquetryref06_Find.l0 kj4 l0 a1 (wrap64 (x5_1 + 1)))) else (parquetryref06_Find.l0 kj4 l0 a1 (wrap64 (x5_1 + 1))))) = some r := by rw [if_neg (show ¬ (false = true) by decide)] at H; exact H
                clear H
                have H := H1
                clear H1
                by_cases c12 : ((rd_T39 l0 x5_1).f0) < 0
                · rw [if_pos c12] at H
                  have c12b0 : decide (((rd_T39 l0 x5_1).f0) < 0) = true := decide_eq_true c12
                  clear c12
                  by_cases c13 : a1 < (wrap64 (((rd_T39 l0 x5_1).f1) + ((rd_T39 l0 x5_1).f0)))
                  · rw [if_pos c13] at H
                    have c13b0 : decide (a1 < (wrap64 (((rd_T39 l0 x5_1).f1) + ((rd_T39 l0 x5_1).f0)))) = true := decide_eq_true c13
                    clear c13
                    obtain rfl := Option.some.inj H
                    have hcz14_0 : wc.cell? ⟨gb265, 0, none⟩ = some (.int .i64 ((rd_T39 l0 x5_1).f0)) := (blk_cell BK265.out 0).trans rfl
                    have hcz14_1 : wc.cell? ⟨gb265, 1, none⟩ = some (.int .i64 ((rd_T39 l0 x5_1).f1)) := (blk_cell BK265.out 1).trans rfl
                    have hcz14_2 : wc.cell? ⟨gb265, 2, none⟩ = some (.int .i64 ((rd_T39 l0 x5_1).f2)) := (blk_cell BK265.out 2).trans rfl
                    have hcz14_3 : wc.cell? ⟨gb265, 3, none⟩ = some (.int .i64 ((rd_T39 l0 x5_1).f3)) := (blk_cell BK265.out 3).trans rfl
                    have hcz14_4 : wc.cell? ⟨gb265, 4, none⟩ = some (.int .i64 ((rd_T39 l0 x5_1).f4)) := (blk_cell BK265.out 4).trans rfl
                    have hcz14_5 : wc.cell? ⟨gb265, 5, none⟩ = some (.int .i64 ((rd_T39 l0 x5_1).f5)) := (blk_cell BK265.out 5).trans rfl
                    have hfz14_0 := blk_frozen BK265.out 0
                    have hfz14_1 := blk_frozen BK265.out 1
                    have hfz14_2 := blk_frozen BK265.out 2
                    have hfz14_3 := blk_frozen BK265.out 3
                    have hfz14_4 := blk_frozen BK265.out 4
                    have hfz14_5 := blk_frozen BK265.out 5
                    go_wp2
                    go_ret
                    exact ⟨by first | rfl | (simp [errW_none, errW_some] <;> rfl) | (simp [*, errW_none, errW_some] <;> rfl), by repeat (first | (with_reducible first | exact HB.out | apply below_alloc | apply pw_below_drewN | apply below_drew1 | refine below_set ?_ GE265.out) | exact HB.out)⟩
                  · rw [if_neg c13] at H
                    have c13b0 : decide (a1 < (wrap64 (((rd_T39 l0 x5_1).f1) + ((rd_T39 l0 x5_1).f0)))) = false := decide_eq_false c13
                    clear c13
                    by_cases c15 : ((rd_T39 l0 x5_1).f0) ≥ 0
                    · rw [if_pos c15] at H
                      have c15b0 : decide (0 ≤ ((rd_T39 l0 x5_1).f0)) = true := decide_eq_true c15
                      clear c15
                      by_cases c16 : (wrap64 (a1 - ((rd_T39 l0 x5_1).f0))) < ((rd_T39 l0 x5_1).f1)
                      · rw [if_pos c16] at H
                        have c16b0 : decide ((wrap64 (a1 - ((rd_T39 l0 x5_1).f0))) < ((rd_T39 l0 x5_1).f1)) = true := decide_eq_true c16
                        clear c16
                        obtain rfl := Option.some.inj H
                        have hcz17_0 : wc.cell? ⟨gb265, 0, none⟩ = some (.int .i64 ((rd_T39 l0 x5_1).f0)) := (blk_cell BK265.out 0).trans rfl
                        have hcz17_1 : wc.cell? ⟨gb265, 1, none⟩ = some (.int .i64 ((rd_T39 l0 x5_1).f1)) := (blk_cell BK265.out 1).trans rfl
                        have hcz17_2 : wc.cell? ⟨gb265, 2, none⟩ = some (.int .i64 ((rd_T39 l0 x5_1).f2)) := (blk_cell BK265.out 2).trans rfl
                        have hcz17_3 : wc.cell? ⟨gb265, 3, none⟩ = some (.int .i64 ((rd_T39 l0 x5_1).f3)) := (blk_cell BK265.out 3).trans rfl
                        have hcz17_4 : wc.cell? ⟨gb265, 4, none⟩ = some (.int .i64 ((rd_T39 l0 x5_1).f4)) := (blk_cell BK265.out 4).trans rfl
                        have hcz17_5 : wc.cell? ⟨gb265, 5, none⟩ = some (.int .i64 ((rd_T39 l0 x5_1).f5)) := (blk_cell BK265.out 5).trans rfl
                        have hfz17_0 := blk_frozen BK265.out 0
                        have hfz17_1 := blk_frozen BK265.out 1
                        have hfz17_2 := blk_frozen BK265.out 2
                        have hfz17_3 := blk_frozen BK265.out 3
                        have hfz17_4 := blk_frozen BK265.out 4
                        have hfz17_5 := blk_frozen BK265.out 5
                        go_wp2
                        go_ret
                        exact ⟨by first | rfl | (simp [errW_none, errW_some] <;> rfl) | (simp [*, errW_none, errW_some] <;> rfl), by repeat (first | (with_reducible first | exact HB.out | apply below_alloc | apply pw_below_drewN | apply below_drew1 | refine below_set ?_ GE265.out) | exact HB.out)⟩
                      · rw [if_neg c16] at H
                        have c16b0 : decide ((wrap64 (a1 - ((rd_T39 l0 x5_1).f0))) < ((rd_T39 l0 x5_1).f1)) = false := decide_eq_false c16
                        clear c16
                        have H' := Aside0.mk H
                        clear H
                        have hcz18_0 : wc.cell? ⟨gb265, 0, none⟩ = some (.int .i64 ((rd_T39 l0 x5_1).f0)) := (blk_cell BK265.out 0).trans rfl
                        have hcz18_1 : wc.cell? ⟨gb265, 1, none⟩ = some (.int .i64 ((rd_T39 l0 x5_1).f1)) := (blk_cell BK265.out 1).trans rfl
                        have hcz18_2 : wc.cell? ⟨gb265, 2, none⟩ = some (.int .i64 ((rd_T39 l0 x5_1).f2)) := (blk_cell BK265.out 2).trans rfl
                        have hcz18_3 : wc.cell? ⟨gb265, 3, none⟩ = some (.int .i64 ((rd_T39 l0 x5_1).f3)) := (blk_cell BK265.out 3).trans rfl
                        have hcz18_4 : wc.cell? ⟨gb265, 4, none⟩ = some (.int .i64 ((rd_T39 l0 x5_1).f4)) := (blk_cell BK265.out 4).trans rfl
                        have hcz18_5 : wc.cell? ⟨gb265, 5, none⟩ = some (.int .i64 ((rd_T39 l0 x5_1).f5)) := (blk_cell BK265.out 5).trans rfl
                        have hfz18_0 := blk_frozen BK265.out 0
                        have hfz18_1 := blk_frozen BK265.out 1
                        have hfz18_2 := blk_frozen BK265.out 2
                        have hfz18_3 := blk_frozen BK265.out 3
                        have hfz18_4 := blk_frozen BK265.out 4
                        have hfz18_5 := blk_frozen BK265.out 5
                        go_wp2
                        go_roundg kj4
                        case measure => have := HK1.out; have := HJ4.out; omega
                        case rel => exact ⟨(wrap64 (x5_1 + 1)), (by first | rfl | (simp; done) | (simp [*]; done)), H', ⟨by have := HK1.out; have := HJ4.out; omega⟩, ⟨by repeat (first | (with_reducible first | exact HB.out | apply below_alloc | apply pw_below_drewN | apply below_drew1 | refine below_set ?_ GE265.out) | exact HB.out)⟩⟩
                    · rw [if_neg c15] at H
                      have c15b0 : decide (0 ≤ ((rd_T39 l0 x5_1).f0)) = false := decide_eq_false c15
                      clear c15
                      have H' := Aside0.mk H
                      clear H
                      have hcz19_0 : wc.cell? ⟨gb265, 0, none⟩ = some (.int .i64 ((rd_T39 l0 x5_1).f0)) := (blk_cell BK265.out 0).trans rfl
                      have hcz19_1 : wc.cell? ⟨gb265, 1, none⟩ = some (.int .i64 ((rd_T39 l0 x5_1).f1)) := (blk_cell BK265.out 1).trans rfl
                      have hcz19_2 : wc.cell? ⟨gb265, 2, none⟩ = some (.int .i64 ((rd_T39 l0 x5_1).f2)) := (blk_cell BK265.out 2).trans rfl
                      have hcz19_3 : wc.cell? ⟨gb265, 3, none⟩ = some (.int .i64 ((rd_T39 l0 x5_1).f3)) := (blk_cell BK265.out 3).trans rfl
                      have hcz19_4 : wc.cell? ⟨gb265, 4, none⟩ = some (.int .i64 ((rd_T39 l0 x5_1).f4)) := (blk_cell BK265.out 4).trans rfl
                      have hcz19_5 : wc.cell? ⟨gb265, 5, none⟩ = some (.int .i64 ((rd_T39 l0 x5_1).f5)) := (blk_cell BK265.out 5).trans rfl
                      have hfz19_0 := blk_frozen BK265.out 0
                      have hfz19_1 := blk_frozen BK265.out 1
                      have hfz19_2 := blk_frozen BK265.out 2
                      have hfz19_3 := blk_frozen BK265.out 3
                      have hfz19_4 := blk_frozen BK265.out 4
                      have hfz19_5 := blk_frozen BK265.out 5
                      go_wp2
                      go_roundg kj4
                      case measure => have := HK1.out; have := HJ4.out; omega
                      case rel => exact ⟨(wrap64 (x5_1 + 1)), (by first | rfl | (simp; done) | (simp [*]; done)), H', ⟨by have := HK1.out; have := HJ4.out; omega⟩, ⟨by repeat (first | (with_reducible first | exact HB.out | apply below_alloc | apply pw_below_drewN | apply below_drew1 | refine below_set ?_ GE265.out) | exact HB.out)⟩⟩
                · rw [if_neg c12] at H
                  have c12b0 : decide (((rd_T39 l0 x5_1).f0) < 0) = false := decide_eq_false c12
                  clear c12
                  by_cases c20 : ((rd_T39 l0 x5_1).f0) ≥ 0
                  · rw [if_pos c20] at H
                    have c20b0 : decide (0 ≤ ((rd_T39 l0 x5_1).f0)) = true := decide_eq_true c20
                    clear c20
                    by_cases c21 : (wrap64 (a1 - ((rd_T39 l0 x5_1).f0))) < ((rd_T39 l0 x5_1).f1)
                    · rw [if_pos c21] at H
                      have c21b0 : decide ((wrap64 (a1 - ((rd_T39 l0 x5_1).f0))) < ((rd_T39 l0 x5_1).f1)) = true := decide_eq_true c21
                      clear c21
                      obtain rfl := Option.some.inj H
                      have hcz22_0 : wc.cell? ⟨gb265, 0, none⟩ = some (.int .i64 ((rd_T39 l0 x5_1).f0)) := (blk_cell BK265.out 0).trans rfl
                      have hcz22_1 : wc.cell? ⟨gb265, 1, none⟩ = some (.int .i64 ((rd_T39 l0 x5_1).f1)) := (blk_cell BK265.out 1).trans rfl
                      have hcz22_2 : wc.cell? ⟨gb265, 2, none⟩ = some (.int .i64 ((rd_T39 l0 x5_1).f2)) := (blk_cell BK265.out 2).trans rfl
                      have hcz22_3 : wc.cell? ⟨gb265, 3, none⟩ = some (.int .i64 ((rd_T39 l0 x5_1).f3)) := (blk_cell BK265.out 3).trans rfl
                      have hcz22_4 : wc.cell? ⟨gb265, 4, none⟩ = some (.int .i64 ((rd_T39 l0 x5_1).f4)) := (blk_cell BK265.out 4).trans rfl
                      have hcz22_5 : wc.cell? ⟨gb265, 5, none⟩ = some (.int .i64 ((rd_T39 l0 x5_1).f5)) := (blk_cell BK265.out 5).trans rfl
                      have hfz22_0 := blk_frozen BK265.out 0
                      have hfz22_1 := blk_frozen BK265.out 1
                      have hfz22_2 := blk_frozen BK265.out 2
                      have hfz22_3 := blk_frozen BK265.out 3
                      have hfz22_4 := blk_frozen BK265.out 4
                      have hfz22_5 := blk_frozen BK265.out 5
                      go_wp2
                      go_ret
                      exact ⟨by first | rfl | (simp [errW_none, errW_some] <;> rfl) | (simp [*, errW_none, errW_some] <;> rfl), by repeat (first | (with_reducible first | exact HB.out | apply below_alloc | apply pw_below_drewN | apply below_drew1 | refine below_set ?_ GE265.out) | exact HB.out)⟩
                    · rw [if_neg c21] at H
                      have c21b0 : decide ((wrap64 (a1 - ((rd_T39 l0 x5_1).f0))) < ((rd_T39 l0 x5_1).f1)) = false := decide_eq_false c21
                      clear c21
                      have H' := Aside0.mk H
                      clear H
                      have hcz23_0 : wc.cell? ⟨gb265, 0, none⟩ = some (.int .i64 ((rd_T39 l0 x5_1).f0)) := (blk_cell BK265.out 0).trans rfl
                      have hcz23_1 : wc.cell? ⟨gb265, 1, none⟩ = some (.int .i64 ((rd_T39 l0 x5_1).f1)) := (blk_cell BK265.out 1).trans rfl
                      have hcz23_2 : wc.cell? ⟨gb265, 2, none⟩ = some (.int .i64 ((rd_T39 l0 x5_1).f2)) := (blk_cell BK265.out 2).trans rfl
                      have hcz23_3 : wc.cell? ⟨gb265, 3, none⟩ = some (.int .i64 ((rd_T39 l0 x5_1).f3)) := (blk_cell BK265.out 3).trans rfl
                      have hcz23_4 : wc.cell? ⟨gb265, 4, none⟩ = some (.int .i64 ((rd_T39 l0 x5_1).f4)) := (blk_cell BK265.out 4).trans rfl
                      have hcz23_5 : wc.cell? ⟨gb265, 5, none⟩ = some (.int .i64 ((rd_T39 l0 x5_1).f5)) := (blk_cell BK265.out 5).trans rfl
                      have hfz23_0 := blk_frozen BK265.out 0
                      have hfz23_1 := blk_frozen BK265.out 1
                      have hfz23_2 := blk_frozen BK265.out 2
                      have hfz23_3 := blk_frozen BK265.out 3
                      have hfz23_4 := blk_frozen BK265.out 4
                      have hfz23_5 := blk_frozen BK265.out 5
                      go_wp2
                      go_roundg kj4
                      case measure => have := HK1.out; have := HJ4.out; omega
                      case rel => exact ⟨(wrap64 (x5_1 + 1)), (by first | rfl | (simp; done) | (simp [*]; done)), H', ⟨by have := HK1.out; have := HJ4.out; omega⟩, ⟨by repeat (first | (with_reducible first | exact HB.out | apply below_alloc | apply pw_below_drewN | apply below_drew1 | refine below_set ?_ GE265.out) | exact HB.out)⟩⟩
                  · rw [if_neg c20] at H
                    have c20b0 : decide (0 ≤ ((rd_T39 l0 x5_1).f0)) = false := decide_eq_false c20
                    clear c20
                    have H' := Aside0.mk H
                    clear H
                    have hcz24_0 : wc.cell? ⟨gb265, 0, none⟩ = some (.int .i64 ((rd_T39 l0 x5_1).f0)) := (blk_cell BK265.out 0).trans rfl
                    have hcz24_1 : wc.cell? ⟨gb265, 1, none⟩ = some (.int .i64 ((rd_T39 l0 x5_1).f1)) := (blk_cell BK265.out 1).trans rfl
                    have hcz24_2 : wc.cell? ⟨gb265, 2, none⟩ = some (.int .i64 ((rd_T39 l0 x5_1).f2)) := (blk_cell BK265.out 2).trans rfl
                    have hcz24_3 : wc.cell? ⟨gb265, 3, none⟩ = some (.int .i64 ((rd_T39 l0 x5_1).f3)) := (blk_cell BK265.out 3).trans rfl
                    have hcz24_4 : wc.cell? ⟨gb265, 4, none⟩ = some (.int .i64 ((rd_T39 l0 x5_1).f4)) := (blk_cell BK265.out 4).trans rfl
                    have hcz24_5 : wc.cell? ⟨gb265, 5, none⟩ = some (.int .i64 ((rd_T39 l0 x5_1).f5)) := (blk_cell BK265.out 5).trans rfl
                    have hfz24_0 := blk_frozen BK265.out 0
                    have hfz24_1 := blk_frozen BK265.out 1
                    have hfz24_2 := blk_frozen BK265.out 2
                    have hfz24_3 := blk_frozen BK265.out 3
                    have hfz24_4 := blk_frozen BK265.out 4
                    have hfz24_5 := blk_frozen BK265.out 5
                    go_wp2
                    go_roundg kj4
                    case measure => have := HK1.out; have := HJ4.out; omega
                    case rel => exact ⟨(wrap64 (x5_1 + 1)), (by first | rfl | (simp; done) | (simp [*]; done)), H', ⟨by have := HK1.out; have := HJ4.out; omega⟩, ⟨by repeat (first | (with_reducible first | exact HB.out | apply below_alloc | apply pw_below_drewN | apply below_drew1 | refine below_set ?_ GE265.out) | exact HB.out)⟩⟩
        · rw [if_neg c4] at H
          exact absurd H (by simp)
      · rw [if_neg c3] at H
        have c3b0 : decide (x5_1 < (l0.length : Int)) = false := decide_eq_false c3
        clear c3
        obtain rfl := Option.some.inj H
        go_wp2
        go_ret
        exact ⟨by first | rfl | (simp [errW_none, errW_some] <;> rfl) | (simp [*, errW_none, errW_some] <;> rfl), by repeat (first | (with_reducible first | exact HB.out | apply below_alloc | apply pw_below_drewN | apply below_drew1) | exact HB.out)⟩

end Go.Proofs.Ytgbkfjdkejjmpaa.PC06
