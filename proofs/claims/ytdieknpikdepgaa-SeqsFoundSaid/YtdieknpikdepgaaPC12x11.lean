/- For the laws of the group C12: the Lean functions that the Go functions compute, and proofs that they do. Written by wip/hprint.py of this repo over the kit's printer; nothing here is trusted: Lean checks it. -/
import Derived.Test.YtdieknpikdepgaaPC12x0
import Derived.Test.YtdieknpikdepgaaPC12x8
import Derived.Test.YtdieknpikdepgaaPC12x10
namespace Go.Proofs.Ytdieknpikdepgaa.PC12
open Go.RowKit Go.Proofs.YtdieknpikdepgaaW.PrintWords Go.Proofs.YtdieknpikdepgaaW.PrintLast Go.Proofs.YtdieknpikdepgaaW.PrintMore
attribute [local go_sem] max2_int min2_int max_two min_two max_three min_three max_four min_four   -- for this text's walks alone
set_option linter.unusedVariables false
set_option linter.unusedSimpArgs false

/-! ### parquetryref11_Explicit: function 22 -/
attribute [local go_sem] parquetryref11_State_Next.fld0 parquetryref11_State_Next.fld1 parquetryref11_State_Next.fld2
mutual
def parquetryref11_Explicit.j0 : Nat → List Int → Int → Bool → Option (List Int × List Int)
 | 0, _, _, _ => none
 | k + 1, x0, x1, x18 => if x18 = true then (some (([] : List Int), ([] : List Int))) else (parquetryref11_Explicit.l0 k x0 x1 ([] : List Int) ([] : List Int) 0 (([(⟨x1, (-1), 0⟩ : S71)] : List (S71))) 0 0 0)
def parquetryref11_Explicit.l0 : Nat → List Int → Int → List Int → List Int → Int → List (S71) → Int → Int → Int → Option (List Int × List Int)
 | 0, _, _, _, _, _, _, _, _, _ => none
 | k + 1, x0, x1, x6, x7, x9, x309000, x309001, x309002, x309003 => if x9 < (x0.length : Int) then (if 0 ≤ x9 then ((parquetryref11_Step.f k x309000 x309001 x309002 x309003 x0 x9).bind fun bt310 => ((parquetryref11_State_Top.f x309000 x309001 x309002 x309003).bind fun bt317 => (if (rd x0 x9) = 22 then ((parquetryref11_State_Top.f bt310.1 bt310.2.1 bt310.2.2.1 bt310.2.2.2).bind fun bt321 => (parquetryref11_Explicit.j2 k x0 x1 x6 x7 x9 (rd x0 x9) bt310.1 bt310.2.1 bt310.2.2.1 bt310.2.2.2 bt321.1 bt321.2.1 bt321.2.2)) else (parquetryref11_Explicit.j2 k x0 x1 x6 x7 x9 (rd x0 x9) bt310.1 bt310.2.1 bt310.2.2.1 bt310.2.2.2 bt317.1 bt317.2.1 bt317.2.2)))) else (none)) else (some (x6, x7))
def parquetryref11_Explicit.j2 : Nat → List Int → Int → List Int → List Int → Int → Int → List (S71) → Int → Int → Int → Int → Int → Int → Option (List Int × List Int)
 | 0, _, _, _, _, _, _, _, _, _, _, _, _, _ => none
 | k + 1, x0, x1, x6, x7, x9, x10, x317000, x317001, x317002, x317003, x321000, x321001, x321002 => (parquetryref11_Removed.f x10).bind fun t324 => (if t324 = true then (parquetryref11_Explicit.j3 k x0 x1 x6 x7 x9 x10 x317000 x317001 x317002 x317003 (-1) (-1) 0) else (parquetryref11_Explicit.j3 k x0 x1 x6 x7 x9 x10 x317000 x317001 x317002 x317003 x321000 x321001 x321002))
def parquetryref11_Explicit.j3 : Nat → List Int → Int → List Int → List Int → Int → Int → List (S71) → Int → Int → Int → Int → Int → Int → Option (List Int × List Int)
 | 0, _, _, _, _, _, _, _, _, _, _, _, _, _ => none
 | k + 1, x0, x1, x6, x7, x9, x10, x309000, x309001, x309002, x309003, x321000, x321001, x321002 => if x10 = 10 then (if x6.length < 17592186044416 then ((some (x6 ++ [x1] : List Int)).bind fun y325 => (if (-1) ≥ 0 then (if x7.length < 17592186044416 then (parquetryref11_Explicit.l0 k x0 x1 y325 (x7 ++ [(-1)]) (wrap64 (x9 + 1)) x309000 x309001 x309002 x309003) else (none)) else (if x7.length < 17592186044416 then (parquetryref11_Explicit.l0 k x0 x1 y325 (x7 ++ [x10]) (wrap64 (x9 + 1)) x309000 x309001 x309002 x309003) else (none)))) else (none)) else (if x6.length < 17592186044416 then ((some (x6 ++ [x321000] : List Int)).bind fun y334 => (if x321001 ≥ 0 then (if x7.length < 17592186044416 then (parquetryref11_Explicit.l0 k x0 x1 y334 (x7 ++ [x321001]) (wrap64 (x9 + 1)) x309000 x309001 x309002 x309003) else (none)) else (if x7.length < 17592186044416 then (parquetryref11_Explicit.l0 k x0 x1 y334 (x7 ++ [x10]) (wrap64 (x9 + 1)) x309000 x309001 x309002 x309003) else (none)))) else (none))
end
def parquetryref11_Explicit.f (k : Nat) (l0 : List Int) (a1 : Int) : Option (List Int × List Int) := if a1 < 0 then (parquetryref11_Explicit.j0 k l0 a1 true) else (parquetryref11_Explicit.j0 k l0 a1 (decide (a1 > 1)))
theorem parquetryref11_Explicit.mono_l : ∀ k, (∀ y0 y1 y2, LeO (parquetryref11_Explicit.j0 k y0 y1 y2) (parquetryref11_Explicit.j0 (k + 1) y0 y1 y2)) ∧ (∀ y0 y1 y2 y3 y4 y5 y6 y7 y8, LeO (parquetryref11_Explicit.l0 k y0 y1 y2 y3 y4 y5 y6 y7 y8) (parquetryref11_Explicit.l0 (k + 1) y0 y1 y2 y3 y4 y5 y6 y7 y8)) ∧ (∀ y0 y1 y2 y3 y4 y5 y6 y7 y8 y9 y10 y11 y12, LeO (parquetryref11_Explicit.j2 k y0 y1 y2 y3 y4 y5 y6 y7 y8 y9 y10 y11 y12) (parquetryref11_Explicit.j2 (k + 1) y0 y1 y2 y3 y4 y5 y6 y7 y8 y9 y10 y11 y12)) ∧ (∀ y0 y1 y2 y3 y4 y5 y6 y7 y8 y9 y10 y11 y12, LeO (parquetryref11_Explicit.j3 k y0 y1 y2 y3 y4 y5 y6 y7 y8 y9 y10 y11 y12) (parquetryref11_Explicit.j3 (k + 1) y0 y1 y2 y3 y4 y5 y6 y7 y8 y9 y10 y11 y12))
 | 0 => ⟨fun _ _ _ r h => by simp [parquetryref11_Explicit.j0] at h, fun _ _ _ _ _ _ _ _ _ r h => by simp [parquetryref11_Explicit.l0] at h, fun _ _ _ _ _ _ _ _ _ _ _ _ _ r h => by simp [parquetryref11_Explicit.j2] at h, fun _ _ _ _ _ _ _ _ _ _ _ _ _ r h => by simp [parquetryref11_Explicit.j3] at h⟩
 | k + 1 => by
  obtain ⟨ih0, ih1, ih2, ih3⟩ := parquetryref11_Explicit.mono_l k
  refine ⟨?_, ?_, ?_, ?_⟩
  ·
   intro y0 y1 y2
   unfold parquetryref11_Explicit.j0
   repeat' first
   | (with_reducible exact ih0 _ _ _)
   | (with_reducible exact ih1 _ _ _ _ _ _ _ _ _)
   | (with_reducible exact ih2 _ _ _ _ _ _ _ _ _ _ _ _ _)
   | (with_reducible exact ih3 _ _ _ _ _ _ _ _ _ _ _ _ _)
   | (with_reducible exact parquetryref11_Step.mono _ _ _ _ _ _ _)
   | (with_reducible exact LeO.refl _)
   | (with_reducible exact LeO.none _)
   | (with_reducible refine LeO.ite ?_ ?_)
   | (with_reducible refine LeO.bind ?_ (fun _ => ?_))
   | exact ih0 _ _ _
   | exact ih1 _ _ _ _ _ _ _ _ _
   | exact ih2 _ _ _ _ _ _ _ _ _ _ _ _ _
   | exact ih3 _ _ _ _ _ _ _ _ _ _ _ _ _
   | exact parquetryref11_Step.mono _ _ _ _ _ _ _
   | exact LeO.none _
   | refine LeO.ite ?_ ?_
   | refine LeO.bind ?_ (fun _ => ?_)
  ·
   intro y0 y1 y2 y3 y4 y5 y6 y7 y8
   unfold parquetryref11_Explicit.l0
   repeat' first
   | (with_reducible exact ih0 _ _ _)
   | (with_reducible exact ih1 _ _ _ _ _ _ _ _ _)
   | (with_reducible exact ih2 _ _ _ _ _ _ _ _ _ _ _ _ _)
   | (with_reducible exact ih3 _ _ _ _ _ _ _ _ _ _ _ _ _)
   | (with_reducible exact parquetryref11_Step.mono _ _ _ _ _ _ _)
   | (with_reducible exact LeO.refl _)
   | (with_reducible exact LeO.none _)
   | (with_reducible refine LeO.ite ?_ ?_)
   | (with_reducible refine LeO.bind ?_ (fun _ => ?_))
   | exact ih0 _ _ _
   | exact ih1 _ _ _ _ _ _ _ _ _
   | exact ih2 _ _ _ _ _ _ _ _ _ _ _ _ _
   | exact ih3 _ _ _ _ _ _ _ _ _ _ _ _ _
   | exact parquetryref11_Step.mono _ _ _ _ _ _ _
   | exact LeO.none _
   | refine LeO.ite ?_ ?_
   | refine LeO.bind ?_ (fun _ => ?_)
  ·
   intro y0 y1 y2 y3 y4 y5 y6 y7 y8 y9 y10 y11 y12
   unfold parquetryref11_Explicit.j2
   repeat' first
   | (with_reducible exact ih0 _ _ _)
   | (with_reducible exact ih1 _ _ _ _ _ _ _ _ _)
   | (with_reducible exact ih2 _ _ _ _ _ _ _ _ _ _ _ _ _)
   | (with_reducible exact ih3 _ _ _ _ _ _ _ _ _ _ _ _ _)
   | (with_reducible exact parquetryref11_Step.mono _ _ _ _ _ _ _)
   | (with_reducible exact LeO.refl _)
   | (with_reducible exact LeO.none _)
   | (with_reducible refine LeO.ite ?_ ?_)
   | (with_reducible refine LeO.bind ?_ (fun _ => ?_))
   | exact ih0 _ _ _
   | exact ih1 _ _ _ _ _ _ _ _ _
   | exact ih2 _ _ _ _ _ _ _ _ _ _ _ _ _
   | exact ih3 _ _ _ _ _ _ _ _ _ _ _ _ _
   | exact parquetryref11_Step.mono _ _ _ _ _ _ _
   | exact LeO.none _
   | refine LeO.ite ?_ ?_
   | refine LeO.bind ?_ (fun _ => ?_)
  ·
   intro y0 y1 y2 y3 y4 y5 y6 y7 y8 y9 y10 y11 y12
   unfold parquetryref11_Explicit.j3
   repeat' first
   | (with_reducible exact ih0 _ _ _)
   | (with_reducible exact ih1 _ _ _ _ _ _ _ _ _)
   | (with_reducible exact ih2 _ _ _ _ _ _ _ _ _ _ _ _ _)
   | (with_reducible exact ih3 _ _ _ _ _ _ _ _ _ _ _ _ _)
   | (with_reducible exact parquetryref11_Step.mono _ _ _ _ _ _ _)
   | (with_reducible exact LeO.refl _)
   | (with_reducible exact LeO.none _)
   | (with_reducible refine LeO.ite ?_ ?_)
   | (with_reducible refine LeO.bind ?_ (fun _ => ?_))
   | exact ih0 _ _ _
   | exact ih1 _ _ _ _ _ _ _ _ _
   | exact ih2 _ _ _ _ _ _ _ _ _ _ _ _ _
   | exact ih3 _ _ _ _ _ _ _ _ _ _ _ _ _
   | exact parquetryref11_Step.mono _ _ _ _ _ _ _
   | exact LeO.none _
   | refine LeO.ite ?_ ?_
   | refine LeO.bind ?_ (fun _ => ?_)
theorem parquetryref11_Explicit.mono : ∀ a0 a1 k, LeO (parquetryref11_Explicit.f k a0 a1) (parquetryref11_Explicit.f (k + 1) a0 a1) := by
 intro a0 a1 k
 obtain ⟨ih0, ih1, ih2, ih3⟩ := parquetryref11_Explicit.mono_l k
 unfold parquetryref11_Explicit.f
 repeat' first
   | (with_reducible exact ih0 _ _ _)
   | (with_reducible exact ih1 _ _ _ _ _ _ _ _ _)
   | (with_reducible exact ih2 _ _ _ _ _ _ _ _ _ _ _ _ _)
   | (with_reducible exact ih3 _ _ _ _ _ _ _ _ _ _ _ _ _)
   | (with_reducible exact parquetryref11_Step.mono _ _ _ _ _ _ _)
   | (with_reducible exact LeO.refl _)
   | (with_reducible exact LeO.none _)
   | (with_reducible refine LeO.ite ?_ ?_)
   | (with_reducible refine LeO.bind ?_ (fun _ => ?_))
   | exact ih0 _ _ _
   | exact ih1 _ _ _ _ _ _ _ _ _
   | exact ih2 _ _ _ _ _ _ _ _ _ _ _ _ _
   | exact ih3 _ _ _ _ _ _ _ _ _ _ _ _ _
   | exact parquetryref11_Step.mono _ _ _ _ _ _ _
   | exact LeO.none _
   | refine LeO.ite ?_ ?_
   | refine LeO.bind ?_ (fun _ => ?_)
set_option maxHeartbeats 8000000 in
set_option maxRecDepth 100000 in
theorem parquetryref11_Explicit.calls (k : Nat) (A0 : Option Addr) (c0 : Nat) (l0 : List Int) (a1 : Int) (r1 : List Int) (r2 : List Int) (w : World) (hr0 : Kd.C (Kd.int .i64) w A0 l0.length l0) (hc0 : l0.length ≤ c0) (h : parquetryref11_Explicit.f k l0 a1 = some (r1, r2)) :
  Calls Try.prog 22 #[.slice A0 l0.length c0, .int .i64 a1] w fun e w' => ∃ v0_ v1_ : Value, e = .returned (.tuple #[v0_, v1_]) ∧ Kd.R (Kd.int .i64) 3 w' w.heap.size (fun k_ => some k_ ≠ (v1_ : Value).ownBlock) v0_ r1 ∧ Kd.R (Kd.int .i64) 3 w' w.heap.size (fun k_ => some k_ ≠ (v0_ : Value).ownBlock) v1_ r2 ∧ Below w.heap.size w w' := by
 have hu71 := Try.underlying71
 have hu74 := Try.underlying74
 have HR0 := Aside0.mk hr0
 have HC0 := Aside0.mk hc0
 clear hr0 hc0
 have HB := Aside0.mk (Below.refl w.heap.size w)
 have H : (if a1 < 0 then (parquetryref11_Explicit.j0 k l0 a1 true) else (parquetryref11_Explicit.j0 k l0 a1 (decide (a1 > 1)))) = some (r1, r2) := h
 clear h
 have HC3 := Aside0.mk H
 clear H
 go_enter Try.func22, Try.ntmps22
 try dsimp only [List.append]
 go_upto_region 1 with (fail)
 go_cut [18] (fun v18 wc => ∃ (kq : Nat) (x18_2 : Bool), v18 = .bool x18_2 ∧ Aside0 (parquetryref11_Explicit.j0 kq l0 a1 x18_2 = some (r1, r2)) ∧ Aside0 (kq ≤ k) ∧ Aside0 (Below w.heap.size w wc))
 case first =>
  have H := HC3.out
  clear HC3
  by_cases c4 : a1 < 0
  ·
   rw [if_pos c4] at H
   have c4b0 : decide (a1 < 0) = true := decide_eq_true c4
   clear c4
   (first | rw [c4b0] | (simp only [i64_w, i32_w]; rw [c4b0]) | skip)
   have H' := Aside0.mk H
   clear H
   go_wp2
   go_meet
   case rel => exact ⟨_, (true), (by first | rfl | (simp; done) | (simp [*]; done)), H', ⟨by first | omega | exact Nat.le_refl _⟩, ⟨by repeat (first | (with_reducible first | exact HB.out | apply below_alloc | apply pw_below_drewN | apply below_drew1) | exact HB.out)⟩⟩
  ·
   rw [if_neg c4] at H
   have c4b0 : decide (a1 < 0) = false := decide_eq_false c4
   clear c4
   (first | rw [c4b0] | (simp only [i64_w, i32_w]; rw [c4b0]) | skip)
   have H' := Aside0.mk H
   clear H
   go_wp2
   go_meet
   case rel => exact ⟨_, (decide (a1 > 1)), (by first | rfl | (simp; done) | (simp [*]; done)), H', ⟨by first | omega | exact Nat.le_refl _⟩, ⟨by repeat (first | (with_reducible first | exact HB.out | apply below_alloc | apply pw_below_drewN | apply below_drew1) | exact HB.out)⟩⟩
 case rest =>
  clear HC3
  try clear c2
  try clear p2
  try clear c4
  try clear c4b0
  obtain ⟨kq, x18_2, rfl, HA, HJ2, HB⟩ := hcut
  cases kq with
  | zero => exact absurd HA.out (by simp [parquetryref11_Explicit.j0])
  | succ kj2 =>
   have H := HA.out
   clear HA
   simp only [parquetryref11_Explicit.j0] at H
   by_cases c5 : x18_2 = true
   ·
    subst c5
    have H1 : (some (([] : List Int), ([] : List Int))) = some (r1, r2) := by rw [if_pos rfl] at H; exact H
    clear H
    have H := H1
    clear H1
    simp only [Option.some.injEq, Prod.mk.injEq] at H
    obtain ⟨rfl, rfl⟩ := H
    go_wp2
    go_ret2
    exact ⟨_, _, by first | rfl | (simp [errW_none, errW_some] <;> rfl) | (simp [*, errW_none, errW_some] <;> rfl), by first | exact Kd.R_nil _ _ _ _ _ | exact Kd.N_nil _ _ _ _ _ | exact Kd.V_nil _ _ _ _ _ | exact Kd.Q_nil _ _ _ _ _ | exact Kd.S_nil _ _ _ _ _, by first | exact Kd.R_nil _ _ _ _ _ | exact Kd.N_nil _ _ _ _ _ | exact Kd.V_nil _ _ _ _ _ | exact Kd.Q_nil _ _ _ _ _ | exact Kd.S_nil _ _ _ _ _, by repeat (first | (with_reducible first | exact HB.out | apply below_alloc | apply pw_below_drewN | apply below_drew1) | exact HB.out)⟩
   ·
    replace c5 := Bool.eq_false_iff.mpr c5
    subst c5
    have H1 : (parquetryref11_Explicit.l0 kj2 l0 a1 ([] : List Int) ([] : List Int) 0 (([(⟨a1, (-1), 0⟩ : S71)] : List (S71))) 0 0 0) = some (r1, r2) := by rw [if_neg (show ¬ (false = true) by decide)] at H; exact H
    clear H
    have H := H1
    clear H1
    obtain ⟨y305, hy305⟩ : ∃ y_ : List (S71), y_ = (([(⟨a1, (-1), 0⟩ : S71)] : List (S71))) := ⟨_, rfl⟩
    replace H : (parquetryref11_Explicit.l0 kj2 l0 a1 ([] : List Int) ([] : List Int) 0 y305 0 0 0) = some (r1, r2) := by first | (rw [hy305]; with_reducible exact H) | (have H2_ := (Option.bind_some _ _).symm.trans H; rw [hy305]; with_reducible exact H2_) | (have H2_ := (Option.bind_some _ _).symm.trans H; with_reducible exact H2_) | with_reducible exact H | (rw [hy305]; exact H) | exact H
    have Ny305 := Aside0.mk hy305
    clear hy305
    have H' := Aside0.mk H
    clear H
    go_wp2_with (first | ((with_reducible refine gate_dst (N := 21) rfl ?_); refine Kd.R_lit k71 _ 71 ?hg (N := 21) ?hd (xs := ([(⟨a1, (-1), 0⟩ : S71)] : List (S71))) (inner := [.int .i64 a1, .int .i64 (-1), .int .i64 0]) (ok := fun _ => True) (okp := fun _ => True) ?hr ?hp (fun _ hk => hk) trivial (Below.refl _ _) (Nat.le_refl _) (by simp) ?_; (case hd => rfl); (case hg => rfl); (case hr => first | (go_simp; done) | (go_simp; rfl)); (case hp => exact (Reps.c3 (show Kd.M k71 _ _ _ (⟨a1, (-1), 0⟩ : S71) [.int .i64 a1, .int .i64 (-1), .int .i64 0] from (k71_mkM _ _ _ (⟨a1, (-1), 0⟩ : S71) )) (Reps.none _ _))); intro v306 w6 ho7 hb hg_ hnew_; clear hg_ hnew_; (first | rw [← Ny305.out] at ho7 | (simp only [Int.reduceToNat] at ho7; rw [← Ny305.out] at ho7)); have n0_ := Aside0.mk (Kd.R_lower ho7 (below_size HB.out)); have n1_ := Aside0.mk (below_step HB.out hb); clear HB; have HO307 := n0_; have HB := n1_; clear n0_ n1_; clear hb ho7; obtain ⟨Ao8, co8, eo8⟩ := Kd.R_slice HO307.out; subst eo8) | ((with_reducible refine gate_dst (N := 8) rfl ?_); refine box_event ?hg (N := 8) ?hd (cs := #[.slice none 0 0, .int .i64 0, .int .i64 0, .int .i64 0]) (t := 74) ?hr ?_; (case hd => rfl); (case hg => rfl); (case hr => first | (go_simp; done) | (go_simp; rfl)); intro gb308 hg w9 hbox hb; have n0_ := Aside0.mk (Kd.R_below (by exact HO307.out) hb); have n1_ := Aside0.mk (below_step HB.out hb); have n2_ := Aside0.mk (hbox); have n3_ := Aside0.mk ((by rw [hg]; exact (below_size HB.out) : w.heap.size ≤ gb308)); have n4_ := Aside0.mk ((by rw [hg]; exact (below_size HB.out) : w.heap.size ≤ gb308)); clear HO307; clear HB; have HO307 := n0_; have HB := n1_; have BK308 := n2_; have GW308 := n3_; have GE308 := n4_; clear n0_ n1_ n2_ n3_ n4_; clear hb hbox hg; have hcz10_0 : w9.cell? ⟨gb308, 0, none⟩ = some (.slice none 0 0) := (blk_cell BK308.out 0).trans rfl; have hcz10_1 : w9.cell? ⟨gb308, 1, none⟩ = some (.int .i64 0) := (blk_cell BK308.out 1).trans rfl; have hcz10_2 : w9.cell? ⟨gb308, 2, none⟩ = some (.int .i64 0) := (blk_cell BK308.out 2).trans rfl; have hcz10_3 : w9.cell? ⟨gb308, 3, none⟩ = some (.int .i64 0) := (blk_cell BK308.out 3).trans rfl; have hfz10_0 := blk_frozen BK308.out 0; have hfz10_1 := blk_frozen BK308.out 1; have hfz10_2 := blk_frozen BK308.out 2; have hfz10_3 := blk_frozen BK308.out 3))
    go_loopg [6, 7, 9] kj2 (fun kq v6 v7 v9 w' => ∃ (x6_2 : List Int) (x7_2 : List Int) (x9_2 : Int) (x309000_2 : List (S71)) (x309001_2 : Int) (x309002_2 : Int) (x309003_2 : Int) (u309000 : Value), v9 = .int .i64 x9_2 ∧ Aside0 (parquetryref11_Explicit.l0 kq l0 a1 x6_2 x7_2 x9_2 x309000_2 x309001_2 x309002_2 x309003_2 = some (r1, r2)) ∧ Aside0 (kq ≤ kj2) ∧ Aside0 (Kd.R (Kd.int .i64) 3 w' w.heap.size (fun k_ => some k_ ≠ (v7 : Value).ownBlock) v6 x6_2) ∧ Aside0 (Kd.R (Kd.int .i64) 3 w' w.heap.size (fun k_ => some k_ ≠ (v6 : Value).ownBlock) v7 x7_2) ∧ Aside0 (Kd.V k71 71 w' w.heap.size (fun k_ => some k_ ≠ (v6 : Value).ownBlock ∧ some k_ ≠ (v7 : Value).ownBlock ∧ k_ ≠ gb308) u309000 x309000_2) ∧ Aside0 (w'.heap[gb308]? = some (.cells #[u309000, .int .i64 x309001_2, .int .i64 x309002_2, .int .i64 x309003_2] 74 (0, 0))) ∧ Aside0 (Below w.heap.size w w'))
    case atStart => exact ⟨(([] : List Int)), (([] : List Int)), (0), (y305), (0), (0), (0), (.slice Ao8 y305.length co8), (by first | rfl | (simp; done) | (simp [*]; done)), H', ⟨Nat.le_refl _⟩, ⟨by first | exact Kd.R_nil _ _ _ _ _ | exact Kd.N_nil _ _ _ _ _ | exact Kd.V_nil _ _ _ _ _ | exact Kd.Q_nil _ _ _ _ _ | exact Kd.S_nil _ _ _ _ _⟩, ⟨by first | exact Kd.R_nil _ _ _ _ _ | exact Kd.N_nil _ _ _ _ _ | exact Kd.V_nil _ _ _ _ _ | exact Kd.Q_nil _ _ _ _ _ | exact Kd.S_nil _ _ _ _ _⟩, ⟨Kd.R_V (by exact Kd.R_mono (Kd.R_far (p := ⟨gb308, 3, none⟩) (Kd.R_far (p := ⟨gb308, 2, none⟩) (Kd.R_far (p := ⟨gb308, 1, none⟩) (Kd.R_far (p := ⟨gb308, 0, none⟩) (Kd.R_types (Kd.R_types HO307.out BK308.out (by decide)) BK308.out (by decide)) (fun _ hk => hk.2) (.slice Ao8 y305.length co8)) (fun _ hk => hk.2) (.int .i64 0)) (fun _ hk => hk.2) (.int .i64 0)) (fun _ hk => hk.2) (.int .i64 0)) (fun _ hk => ⟨(by simp [Value.ownBlock]), ⟨(by simp [Value.ownBlock]), hk.1.2⟩⟩))⟩, ⟨by refine blk_put (cs := #[.slice Ao8 y305.length co8, .int .i64 0, .int .i64 0, .int .i64 0]) ?_ 3 _ rfl; refine blk_put (cs := #[.slice Ao8 y305.length co8, .int .i64 0, .int .i64 0, .int .i64 0]) ?_ 2 _ rfl; refine blk_put (cs := #[.slice Ao8 y305.length co8, .int .i64 0, .int .i64 0, .int .i64 0]) ?_ 1 _ rfl; refine blk_put (cs := #[.slice none 0 0, .int .i64 0, .int .i64 0, .int .i64 0]) ?_ 0 _ rfl; exact BK308.out⟩, ⟨by repeat (first | (with_reducible first | exact HB.out | apply below_alloc | apply pw_below_drewN | apply below_drew1 | refine below_set ?_ GE308.out) | exact HB.out)⟩⟩
    case round =>
     clear H'
     try clear c3
     try clear c5
     try clear hcz10_0
     try clear hcz10_1
     try clear hcz10_2
     try clear hcz10_3
     try clear hfz10_0
     try clear hfz10_1
     try clear hfz10_2
     try clear hfz10_3
     obtain ⟨x6_2, x7_2, x9_2, x309000_2, x309001_2, x309002_2, x309003_2, u309000, rfl, HA, HK2, HO_6, HO_7, HO_309000, BK308, HB⟩ := hrel
     cases gk with
     | zero => exact absurd HA.out (by simp [parquetryref11_Explicit.l0])
     | succ k2 =>
      have H := HA.out
      clear HA
      simp only [parquetryref11_Explicit.l0] at H
      by_cases c11 : x9_2 < (l0.length : Int)
      ·
       rw [if_pos c11] at H
       have c11b0 : decide (x9_2 < (l0.length : Int)) = true := decide_eq_true c11
       clear c11
       by_cases c12 : 0 ≤ x9_2
       ·
        rw [if_pos c12] at H
        have c12b0 : decide (0 ≤ x9_2) = true := decide_eq_true c12
        clear c12
        replace H := Option.bind_eq_some_iff.mp H
        obtain ⟨⟨t310, t313, t314, t315⟩, A130, H⟩ := H
        replace H : ((parquetryref11_State_Top.f x309000_2 x309001_2 x309002_2 x309003_2).bind fun bt317 => (if (rd l0 x9_2) = 22 then ((parquetryref11_State_Top.f t310 t313 t314 t315).bind fun bt321 => (parquetryref11_Explicit.j2 k2 l0 a1 x6_2 x7_2 x9_2 (rd l0 x9_2) t310 t313 t314 t315 bt321.1 bt321.2.1 bt321.2.2)) else (parquetryref11_Explicit.j2 k2 l0 a1 x6_2 x7_2 x9_2 (rd l0 x9_2) t310 t313 t314 t315 bt317.1 bt317.2.1 bt317.2.2))) = some (r1, r2) := H
        have A13 := Aside0.mk A130
        clear A130
        replace H := Option.bind_eq_some_iff.mp H
        obtain ⟨⟨t317, t318, t319⟩, A140, H⟩ := H
        replace H : (if (rd l0 x9_2) = 22 then ((parquetryref11_State_Top.f t310 t313 t314 t315).bind fun bt321 => (parquetryref11_Explicit.j2 k2 l0 a1 x6_2 x7_2 x9_2 (rd l0 x9_2) t310 t313 t314 t315 bt321.1 bt321.2.1 bt321.2.2)) else (parquetryref11_Explicit.j2 k2 l0 a1 x6_2 x7_2 x9_2 (rd l0 x9_2) t310 t313 t314 t315 t317 t318 t319)) = some (r1, r2) := H
        have A14 := Aside0.mk A140
        clear A140
        have HC15 := Aside0.mk H
        clear H
        have p309 : 0 ≤ (x9_2 : Int) := of_decide_eq_true (by first | (with_reducible assumption) | assumption)
        have q309 : x9_2 < (l0.length : Int) := of_decide_eq_true (by first | (with_reducible assumption) | assumption)
        obtain ⟨ad309, e309, hx309_0⟩ := Kd.at_int HR0.out x9_2 p309 q309
        cases e309
        replace hx309_0 := (HB.out.cell (World.block_lt_of_cell? w _ hx309_0)).trans hx309_0
        replace p309 := eq_true p309
        replace q309 := eq_true q309
        have hcz16_0 : wr.cell? ⟨gb308, 0, none⟩ = some (u309000) := (blk_cell BK308.out 0).trans rfl
        have hcz16_1 : wr.cell? ⟨gb308, 1, none⟩ = some (.int .i64 x309001_2) := (blk_cell BK308.out 1).trans rfl
        have hcz16_2 : wr.cell? ⟨gb308, 2, none⟩ = some (.int .i64 x309002_2) := (blk_cell BK308.out 2).trans rfl
        have hcz16_3 : wr.cell? ⟨gb308, 3, none⟩ = some (.int .i64 x309003_2) := (blk_cell BK308.out 3).trans rfl
        have hfz16_0 := blk_frozen BK308.out 0
        have hfz16_1 := blk_frozen BK308.out 1
        have hfz16_2 := blk_frozen BK308.out 2
        have hfz16_3 := blk_frozen BK308.out 3
        obtain ⟨Ao17, co17, eo17⟩ := Kd.V_slice HO_309000.out
        subst eo17
        go_upto_if 40 with (first | ((with_reducible refine gate_callee (f := 41) rfl ?_); refine goesL_ (some 36) rfl rfl Try.func41 (by kernel_rfl) rfl #[.agg #[.slice Ao17 x309000_2.length co17, .int .i64 x309001_2, .int .i64 x309002_2, .int .i64 x309003_2], .slice (some ad309) l0.length c0, .int .i64 x9_2] rfl (by (try simp only [List.map_toArray, List.map_cons, List.map_nil]); first | done | rfl | (simp only [List.length_drop, List.length_take]; rfl)) ?_; (with_reducible refine (parquetryref11_Step.calls k2 (fun k_ => (some k_ ≠ (u6 : Value).ownBlock ∧ (some k_ ≠ (u7 : Value).ownBlock ∧ k_ ≠ gb308))) _ _ x309000_2 x309001_2 x309002_2 x309003_2 _ _ l0 x9_2 t310 t313 t314 t315 _ ?side1 ?side2 ?side3 A13.out).mono ?_); (case side1 => exact HO_309000.out); (case side2 => repeat (first | exact (Kd.C_below HR0.out HB.out) | (with_reducible refine Kd.C_alloc ?_ _) | (with_reducible refine Kd.C_drewN ?_ _) | (with_reducible refine Kd.C_drew ?_))); (case side3 => exact HC0.out); rintro e w18 ⟨v311, rfl, ho0, hb⟩; refine ⟨_, rfl, ?_⟩; have n0_ := Aside0.mk (Kd.R_below (by exact HO_6.out) hb); have n1_ := Aside0.mk (Kd.R_below (by exact HO_7.out) hb); have n2_ := Aside0.mk (Kd.V_below (by (with_reducible repeat (first | apply Kd.V_alloc | apply Kd.V_drewN | apply Kd.V_drew)); exact HO_309000.out) hb); have n3_ := Aside0.mk (Kd.V_lower (Kd.V_mono (ok' := fun k_ => some k_ ≠ (u6 : Value).ownBlock ∧ some k_ ≠ (u7 : Value).ownBlock ∧ k_ ≠ gb308) ho0 (fun k_ hk_ => ⟨Or.elim hk_ (fun hs_ => hs_.1) (fun hn_ => (Kd.fresh' (Kd.R_lt (by exact HO_6.out)) k_ hn_)), Or.elim hk_ (fun hs_ => hs_.2.1) (fun hn_ => (Kd.fresh' (Kd.R_lt (by exact HO_7.out)) k_ hn_)), Or.elim hk_ (fun hs_ => hs_.2.2) (fun hn_ => (Kd.freshB (g := gb308) (o := .cells #[.slice Ao17 x309000_2.length co17, .int .i64 x309001_2, .int .i64 x309002_2, .int .i64 x309003_2] 74 (0, 0)) (by exact BK308.out) k_ hn_))⟩)) (below_size (by repeat (first | (with_reducible first | exact HB.out | apply below_alloc | apply pw_below_drewN | apply below_drew1 | refine below_set ?_ GE308.out) | exact HB.out)))); have n4_ := Aside0.mk (blk_below (g := gb308) (o := .cells #[.slice Ao17 x309000_2.length co17, .int .i64 x309001_2, .int .i64 x309002_2, .int .i64 x309003_2] 74 (0, 0)) (by exact BK308.out) hb); have n5_ := Aside0.mk (below_step (by repeat (first | (with_reducible first | exact HB.out | apply below_alloc | apply pw_below_drewN | apply below_drew1 | refine below_set ?_ GE308.out) | exact HB.out)) hb); clear HO_6; clear HO_7; clear HO_309000; clear BK308; clear HB; have HO_6 := n0_; have HO_7 := n1_; have HO_309000 := n2_; have HO312 := n3_; have BK308 := n4_; have HB := n5_; clear n0_ n1_ n2_ n3_ n4_ n5_; (try clear hb); (try clear hb2); (try clear hk); (try clear hi); (try clear ho0)) | ((with_reducible refine gate_dst (N := 11) rfl ?_); refine box_event ?hg (N := 11) ?hd (cs := #[.slice none 0 0, .int .i64 0, .int .i64 0, .int .i64 0]) (t := 74) ?hr ?_; (case hd => rfl); (case hg => rfl); (case hr => first | (go_simp; done) | (go_simp; rfl)); intro gb316 hg w19 hbox hb; have n0_ := Aside0.mk (Kd.R_below (by exact HO_6.out) hb); have n1_ := Aside0.mk (Kd.R_below (by exact HO_7.out) hb); have n2_ := Aside0.mk (Kd.V_below (Kd.V_elderB (by exact HO_309000.out) gb316 (Nat.le_of_eq hg.symm)) hb); have n3_ := Aside0.mk (Kd.V_below (Kd.V_elderB (by exact HO312.out) gb316 (Nat.le_of_eq hg.symm)) hb); have n4_ := Aside0.mk (blk_below (g := gb308) (o := .cells #[.slice Ao17 x309000_2.length co17, .int .i64 x309001_2, .int .i64 x309002_2, .int .i64 x309003_2] 74 (0, 0)) (by exact BK308.out) hb); have n5_ := Aside0.mk (below_step (by repeat (first | (with_reducible first | exact HB.out | apply below_alloc | apply pw_below_drewN | apply below_drew1 | refine below_set ?_ GE308.out) | exact HB.out)) hb); have n6_ := Aside0.mk (hbox); have n7_ := Aside0.mk ((by rw [hg]; exact (below_size (by repeat (first | (with_reducible first | exact HB.out | apply below_alloc | apply pw_below_drewN | apply below_drew1 | refine below_set ?_ GE308.out) | exact HB.out))) : w.heap.size ≤ gb316)); have n8_ := Aside0.mk ((by rw [hg]; exact (below_size (by repeat (first | (with_reducible first | exact HB.out | apply below_alloc | apply pw_below_drewN | apply below_drew1 | refine below_set ?_ GE308.out) | exact HB.out))) : w.heap.size ≤ gb316)); have n9_ := Aside0.mk ((by rw [hg]; exact Nat.ne_of_lt (blk_lt (g := gb308) (o := .cells #[.slice Ao17 x309000_2.length co17, .int .i64 x309001_2, .int .i64 x309002_2, .int .i64 x309003_2] 74 (0, 0)) (by exact BK308.out)) : gb308 ≠ gb316)); have n10_ := Aside0.mk ((by rw [hg]; exact Nat.ne_of_gt (blk_lt (g := gb308) (o := .cells #[.slice Ao17 x309000_2.length co17, .int .i64 x309001_2, .int .i64 x309002_2, .int .i64 x309003_2] 74 (0, 0)) (by exact BK308.out)) : gb316 ≠ gb308)); clear HO_6; clear HO_7; clear HO_309000; clear HO312; clear BK308; clear HB; have HO_6 := n0_; have HO_7 := n1_; have HO_309000 := n2_; have HO312 := n3_; have BK308 := n4_; have HB := n5_; have BK316 := n6_; have GW316 := n7_; have GE316 := n8_; have NB308_316 := n9_; have NB316_308 := n10_; clear n0_ n1_ n2_ n3_ n4_ n5_ n6_ n7_ n8_ n9_ n10_; clear hb hbox hg; obtain ⟨Ao20, co20, eo20⟩ := Kd.V_slice HO312.out; subst eo20; have hnb21 := NB316_308.out; have hnc21 := NB308_316.out; have hcz22_0 : w19.cell? ⟨gb316, 0, none⟩ = some (.slice none 0 0) := (blk_cell BK316.out 0).trans rfl; have hcz22_1 : w19.cell? ⟨gb316, 1, none⟩ = some (.int .i64 0) := (blk_cell BK316.out 1).trans rfl; have hcz22_2 : w19.cell? ⟨gb316, 2, none⟩ = some (.int .i64 0) := (blk_cell BK316.out 2).trans rfl; have hcz22_3 : w19.cell? ⟨gb316, 3, none⟩ = some (.int .i64 0) := (blk_cell BK316.out 3).trans rfl; have hfz22_0 := blk_frozen BK316.out 0; have hfz22_1 := blk_frozen BK316.out 1; have hfz22_2 := blk_frozen BK316.out 2; have hfz22_3 := blk_frozen BK316.out 3; have hcz23_0 : w19.cell? ⟨gb308, 0, none⟩ = some (.slice Ao17 x309000_2.length co17) := (blk_cell BK308.out 0).trans rfl; have hcz23_1 : w19.cell? ⟨gb308, 1, none⟩ = some (.int .i64 x309001_2) := (blk_cell BK308.out 1).trans rfl; have hcz23_2 : w19.cell? ⟨gb308, 2, none⟩ = some (.int .i64 x309002_2) := (blk_cell BK308.out 2).trans rfl; have hcz23_3 : w19.cell? ⟨gb308, 3, none⟩ = some (.int .i64 x309003_2) := (blk_cell BK308.out 3).trans rfl; have hfz23_0 := blk_frozen BK308.out 0; have hfz23_1 := blk_frozen BK308.out 1; have hfz23_2 := blk_frozen BK308.out 2; have hfz23_3 := blk_frozen BK308.out 3) | ((with_reducible refine gate_callee (f := 42) rfl ?_); refine goesL_ (some 38) rfl rfl Try.func42 (by kernel_rfl) rfl #[.agg #[.slice Ao17 x309000_2.length co17, .int .i64 x309001_2, .int .i64 x309002_2, .int .i64 x309003_2]] rfl (by (try simp only [List.map_toArray, List.map_cons, List.map_nil]); first | done | rfl | (simp only [List.length_drop, List.length_take]; rfl)) ?_; (with_reducible refine (parquetryref11_State_Top.calls _ _ x309000_2 x309001_2 x309002_2 x309003_2 t317 t318 t319 _ ?side1 ?side2 A14.out).mono ?_); (case side1 => refine (Kd.V_reads' (e := 71) (base := w.heap.size) (ok := fun k_ => ((some k_ ≠ (u6 : Value).ownBlock ∧ (some k_ ≠ (u7 : Value).ownBlock ∧ k_ ≠ gb308)) ∧ k_ ≠ gb316)) (n := x309000_2.length) (c := co17) ?_).2.2; exact (by exact (Kd.V_mono (Kd.V_far (p := ⟨gb316, 3, none⟩) (Kd.V_far (p := ⟨gb316, 2, none⟩) (Kd.V_far (p := ⟨gb316, 1, none⟩) (Kd.V_far (p := ⟨gb316, 0, none⟩) (Kd.V_mono HO_309000.out (fun k_ hk => (⟨hk, hk.2⟩ : _ ∧ k_ ≠ gb316))) (fun _ hk => hk.2) (.slice Ao20 t310.length co20)) (fun _ hk => hk.2) (.int .i64 t313)) (fun _ hk => hk.2) (.int .i64 t314)) (fun _ hk => hk.2) (.int .i64 t315)) (fun _ h_ => h_.1)))); (case side2 => exact (Kd.V_reads' HO_309000.out).2.1); rintro e w24 ⟨rfl, hb⟩; refine ⟨_, rfl, ?_⟩; have n0_ := Aside0.mk (Kd.R_below (by exact (Kd.R_mono (Kd.R_far (p := ⟨gb316, 3, none⟩) (Kd.R_far (p := ⟨gb316, 2, none⟩) (Kd.R_far (p := ⟨gb316, 1, none⟩) (Kd.R_far (p := ⟨gb316, 0, none⟩) (Kd.R_types HO_6.out BK316.out (by decide)) (fun _ hk => hk.2) (.slice Ao20 t310.length co20)) (fun _ hk => hk.2) (.int .i64 t313)) (fun _ hk => hk.2) (.int .i64 t314)) (fun _ hk => hk.2) (.int .i64 t315)) (fun _ h_ => h_.1))) hb); have n1_ := Aside0.mk (Kd.R_below (by exact (Kd.R_mono (Kd.R_far (p := ⟨gb316, 3, none⟩) (Kd.R_far (p := ⟨gb316, 2, none⟩) (Kd.R_far (p := ⟨gb316, 1, none⟩) (Kd.R_far (p := ⟨gb316, 0, none⟩) (Kd.R_types HO_7.out BK316.out (by decide)) (fun _ hk => hk.2) (.slice Ao20 t310.length co20)) (fun _ hk => hk.2) (.int .i64 t313)) (fun _ hk => hk.2) (.int .i64 t314)) (fun _ hk => hk.2) (.int .i64 t315)) (fun _ h_ => h_.1))) hb); have n2_ := Aside0.mk (Kd.V_below (by exact (Kd.V_mono (Kd.V_far (p := ⟨gb316, 3, none⟩) (Kd.V_far (p := ⟨gb316, 2, none⟩) (Kd.V_far (p := ⟨gb316, 1, none⟩) (Kd.V_far (p := ⟨gb316, 0, none⟩) (Kd.V_mono HO_309000.out (fun k_ hk => (⟨hk, hk.2⟩ : _ ∧ k_ ≠ gb316))) (fun _ hk => hk.2) (.slice Ao20 t310.length co20)) (fun _ hk => hk.2) (.int .i64 t313)) (fun _ hk => hk.2) (.int .i64 t314)) (fun _ hk => hk.2) (.int .i64 t315)) (fun _ h_ => h_.1))) hb); have n3_ := Aside0.mk (Kd.V_below (by exact (Kd.V_mono (Kd.V_far (p := ⟨gb316, 3, none⟩) (Kd.V_far (p := ⟨gb316, 2, none⟩) (Kd.V_far (p := ⟨gb316, 1, none⟩) (Kd.V_far (p := ⟨gb316, 0, none⟩) (Kd.V_mono HO312.out (fun k_ hk => (⟨hk, hk.2⟩ : _ ∧ k_ ≠ gb316))) (fun _ hk => hk.2) (.slice Ao20 t310.length co20)) (fun _ hk => hk.2) (.int .i64 t313)) (fun _ hk => hk.2) (.int .i64 t314)) (fun _ hk => hk.2) (.int .i64 t315)) (fun _ h_ => h_.1))) hb); have n4_ := Aside0.mk (blk_below (g := gb308) (o := .cells #[.slice Ao17 x309000_2.length co17, .int .i64 x309001_2, .int .i64 x309002_2, .int .i64 x309003_2] 74 (0, 0)) (by refine blk_far ?_ NB308_316.out _; refine blk_far ?_ NB308_316.out _; refine blk_far ?_ NB308_316.out _; refine blk_far ?_ NB308_316.out _; exact BK308.out) hb); have n5_ := Aside0.mk (blk_below (g := gb316) (o := .cells #[.slice Ao20 t310.length co20, .int .i64 t313, .int .i64 t314, .int .i64 t315] 74 (0, 0)) (by refine blk_put (cs := #[.slice Ao20 t310.length co20, .int .i64 t313, .int .i64 t314, .int .i64 0]) ?_ 3 _ rfl; refine blk_put (cs := #[.slice Ao20 t310.length co20, .int .i64 t313, .int .i64 0, .int .i64 0]) ?_ 2 _ rfl; refine blk_put (cs := #[.slice Ao20 t310.length co20, .int .i64 0, .int .i64 0, .int .i64 0]) ?_ 1 _ rfl; refine blk_put (cs := #[.slice none 0 0, .int .i64 0, .int .i64 0, .int .i64 0]) ?_ 0 _ rfl; exact BK316.out) hb); have n6_ := Aside0.mk (below_step (by repeat (first | (with_reducible first | exact HB.out | apply below_alloc | apply pw_below_drewN | apply below_drew1 | refine below_set ?_ GE308.out | refine below_set ?_ GE316.out) | exact HB.out)) hb); clear HO_6; clear HO_7; clear HO_309000; clear HO312; clear BK308; clear BK316; clear HB; have HO_6 := n0_; have HO_7 := n1_; have HO_309000 := n2_; have HO312 := n3_; have BK308 := n4_; have BK316 := n5_; have HB := n6_; clear n0_ n1_ n2_ n3_ n4_ n5_ n6_; (try clear hb); (try clear hb2); (try clear hk); (try clear hi)) | ((with_reducible refine gate_dst (N := 12) rfl ?_); refine box_event ?hg (N := 12) ?hd (cs := #[.int .i64 0, .int .i64 0, .int .i64 0]) (t := 71) ?hr ?_; (case hd => rfl); (case hg => rfl); (case hr => first | (go_simp; done) | (go_simp; rfl)); intro gb320 hg w25 hbox hb; have n0_ := Aside0.mk (Kd.R_below (by exact HO_6.out) hb); have n1_ := Aside0.mk (Kd.R_below (by exact HO_7.out) hb); have n2_ := Aside0.mk (Kd.V_below (Kd.V_elderB (by exact HO_309000.out) gb320 (Nat.le_of_eq hg.symm)) hb); have n3_ := Aside0.mk (Kd.V_below (Kd.V_elderB (by exact HO312.out) gb320 (Nat.le_of_eq hg.symm)) hb); have n4_ := Aside0.mk (blk_below (g := gb308) (o := .cells #[.slice Ao17 x309000_2.length co17, .int .i64 x309001_2, .int .i64 x309002_2, .int .i64 x309003_2] 74 (0, 0)) (by exact BK308.out) hb); have n5_ := Aside0.mk (blk_below (g := gb316) (o := .cells #[.slice Ao20 t310.length co20, .int .i64 t313, .int .i64 t314, .int .i64 t315] 74 (0, 0)) (by exact BK316.out) hb); have n6_ := Aside0.mk (below_step (by repeat (first | (with_reducible first | exact HB.out | apply below_alloc | apply pw_below_drewN | apply below_drew1 | refine below_set ?_ GE308.out | refine below_set ?_ GE316.out) | exact HB.out)) hb); have n7_ := Aside0.mk (hbox); have n8_ := Aside0.mk ((by rw [hg]; exact (below_size (by repeat (first | (with_reducible first | exact HB.out | apply below_alloc | apply pw_below_drewN | apply below_drew1 | refine below_set ?_ GE308.out | refine below_set ?_ GE316.out) | exact HB.out))) : w.heap.size ≤ gb320)); have n9_ := Aside0.mk ((by rw [hg]; exact (below_size (by repeat (first | (with_reducible first | exact HB.out | apply below_alloc | apply pw_below_drewN | apply below_drew1 | refine below_set ?_ GE308.out | refine below_set ?_ GE316.out) | exact HB.out))) : w.heap.size ≤ gb320)); have n10_ := Aside0.mk ((by rw [hg]; exact Nat.ne_of_lt (blk_lt (g := gb308) (o := .cells #[.slice Ao17 x309000_2.length co17, .int .i64 x309001_2, .int .i64 x309002_2, .int .i64 x309003_2] 74 (0, 0)) (by exact BK308.out)) : gb308 ≠ gb320)); have n11_ := Aside0.mk ((by rw [hg]; exact Nat.ne_of_gt (blk_lt (g := gb308) (o := .cells #[.slice Ao17 x309000_2.length co17, .int .i64 x309001_2, .int .i64 x309002_2, .int .i64 x309003_2] 74 (0, 0)) (by exact BK308.out)) : gb320 ≠ gb308)); have n12_ := Aside0.mk ((by rw [hg]; exact Nat.ne_of_lt (blk_lt (g := gb316) (o := .cells #[.slice Ao20 t310.length co20, .int .i64 t313, .int .i64 t314, .int .i64 t315] 74 (0, 0)) (by exact BK316.out)) : gb316 ≠ gb320)); have n13_ := Aside0.mk ((by rw [hg]; exact Nat.ne_of_gt (blk_lt (g := gb316) (o := .cells #[.slice Ao20 t310.length co20, .int .i64 t313, .int .i64 t314, .int .i64 t315] 74 (0, 0)) (by exact BK316.out)) : gb320 ≠ gb316)); clear HO_6; clear HO_7; clear HO_309000; clear HO312; clear BK308; clear BK316; clear HB; have HO_6 := n0_; have HO_7 := n1_; have HO_309000 := n2_; have HO312 := n3_; have BK308 := n4_; have BK316 := n5_; have HB := n6_; have BK320 := n7_; have GW320 := n8_; have GE320 := n9_; have NB308_320 := n10_; have NB320_308 := n11_; have NB316_320 := n12_; have NB320_316 := n13_; clear n0_ n1_ n2_ n3_ n4_ n5_ n6_ n7_ n8_ n9_ n10_ n11_ n12_ n13_; clear hb hbox hg; have hnb26 := NB320_308.out; have hnc26 := NB308_320.out; have hnb27 := NB320_316.out; have hnc27 := NB316_320.out; have hcz28_0 : w25.cell? ⟨gb320, 0, none⟩ = some (.int .i64 0) := (blk_cell BK320.out 0).trans rfl; have hcz28_1 : w25.cell? ⟨gb320, 1, none⟩ = some (.int .i64 0) := (blk_cell BK320.out 1).trans rfl; have hcz28_2 : w25.cell? ⟨gb320, 2, none⟩ = some (.int .i64 0) := (blk_cell BK320.out 2).trans rfl; have hfz28_0 := blk_frozen BK320.out 0; have hfz28_1 := blk_frozen BK320.out 1; have hfz28_2 := blk_frozen BK320.out 2))
        (try simp only [Act.put, List.setIfInBounds_toArray, List.set_cons_zero, List.set_cons_succ])
        go_cut [] (fun wc => ∃ (kq : Nat) (x321000_14 : Int) (x321001_14 : Int) (x321002_14 : Int), Aside0 (parquetryref11_Explicit.j2 kq l0 a1 x6_2 x7_2 x9_2 (rd l0 x9_2) t310 t313 t314 t315 x321000_14 x321001_14 x321002_14 = some (r1, r2)) ∧ Aside0 (kq ≤ k2) ∧ Aside0 (Kd.R (Kd.int .i64) 3 wc w.heap.size (fun k_ => some k_ ≠ (u7 : Value).ownBlock) u6 x6_2) ∧ Aside0 (Kd.R (Kd.int .i64) 3 wc w.heap.size (fun k_ => some k_ ≠ (u6 : Value).ownBlock) u7 x7_2) ∧ Aside0 (Kd.V k71 71 wc w.heap.size (fun k_ => some k_ ≠ (u6 : Value).ownBlock ∧ some k_ ≠ (u7 : Value).ownBlock ∧ k_ ≠ gb308 ∧ k_ ≠ gb316 ∧ k_ ≠ gb320) (.slice Ao17 x309000_2.length co17) x309000_2) ∧ Aside0 (Kd.V k71 71 wc w.heap.size (fun k_ => some k_ ≠ (u6 : Value).ownBlock ∧ some k_ ≠ (u7 : Value).ownBlock ∧ k_ ≠ gb308 ∧ k_ ≠ gb316 ∧ k_ ≠ gb320) (.slice Ao20 t310.length co20) t310) ∧ Aside0 (wc.heap[gb308]? = some (.cells #[(.slice Ao17 x309000_2.length co17), .int .i64 x309001_2, .int .i64 x309002_2, .int .i64 x309003_2] 74 (0, 0))) ∧ Aside0 (wc.heap[gb316]? = some (.cells #[(.slice Ao20 t310.length co20), .int .i64 t313, .int .i64 t314, .int .i64 t315] 74 (0, 0))) ∧ Aside0 (wc.heap[gb320]? = some (.cells #[.int .i64 x321000_14, .int .i64 x321001_14, .int .i64 x321002_14] 71 (0, 0))) ∧ Aside0 (Below w.heap.size w wc))
        case first =>
         have H := HC15.out
         clear HC15
         by_cases c29 : (rd l0 x9_2) = 22
         ·
          rw [if_pos c29] at H
          have c29b0 : ((rd l0 x9_2) == 22) = true := beq_iff_eq.mpr c29
          have c29b1 : ((rd l0 x9_2) != 22) = false := bne_eq_false_iff_eq.mpr c29
          clear c29
          (first | rw [c29b0] | (simp only [i64_w, i32_w]; rw [c29b0]) | skip)
          replace H := Option.bind_eq_some_iff.mp H
          obtain ⟨⟨t321, t322, t323⟩, A300, H⟩ := H
          replace H : (parquetryref11_Explicit.j2 k2 l0 a1 x6_2 x7_2 x9_2 (rd l0 x9_2) t310 t313 t314 t315 t321 t322 t323) = some (r1, r2) := H
          have A30 := Aside0.mk A300
          clear A300
          have H' := Aside0.mk H
          clear H
          have hnb31 := NB316_308.out
          have hnc31 := NB308_316.out
          have hnb32 := NB316_320.out
          have hnc32 := NB320_316.out
          have hcz33_0 : w25.cell? ⟨gb316, 0, none⟩ = some (.slice Ao20 t310.length co20) := (blk_cell BK316.out 0).trans rfl
          have hcz33_1 : w25.cell? ⟨gb316, 1, none⟩ = some (.int .i64 t313) := (blk_cell BK316.out 1).trans rfl
          have hcz33_2 : w25.cell? ⟨gb316, 2, none⟩ = some (.int .i64 t314) := (blk_cell BK316.out 2).trans rfl
          have hcz33_3 : w25.cell? ⟨gb316, 3, none⟩ = some (.int .i64 t315) := (blk_cell BK316.out 3).trans rfl
          have hfz33_0 := blk_frozen BK316.out 0
          have hfz33_1 := blk_frozen BK316.out 1
          have hfz33_2 := blk_frozen BK316.out 2
          have hfz33_3 := blk_frozen BK316.out 3
          go_wp2_with (first | ((with_reducible refine gate_callee (f := 42) rfl ?_); refine goesL_ (some 42) rfl rfl Try.func42 (by kernel_rfl) rfl #[.agg #[.slice Ao20 t310.length co20, .int .i64 t313, .int .i64 t314, .int .i64 t315]] rfl (by (try simp only [List.map_toArray, List.map_cons, List.map_nil]); first | done | rfl | (simp only [List.length_drop, List.length_take]; rfl)) ?_; (with_reducible refine (parquetryref11_State_Top.calls _ _ t310 t313 t314 t315 t321 t322 t323 _ ?side1 ?side2 A30.out).mono ?_); (case side1 => refine (Kd.V_reads' (e := 71) (base := w.heap.size) (ok := fun k_ => (((some k_ ≠ (u6 : Value).ownBlock ∧ (some k_ ≠ (u7 : Value).ownBlock ∧ k_ ≠ gb308)) ∧ k_ ≠ gb316) ∧ k_ ≠ gb320)) (n := t310.length) (c := co20) ?_).2.2; exact (by exact (Kd.V_mono (Kd.V_far (p := ⟨gb320, 2, none⟩) (Kd.V_far (p := ⟨gb320, 1, none⟩) (Kd.V_far (p := ⟨gb320, 0, none⟩) (Kd.V_mono HO312.out (fun k_ hk => (⟨hk, hk.2⟩ : _ ∧ k_ ≠ gb320))) (fun _ hk => hk.2) (.int .i64 t317)) (fun _ hk => hk.2) (.int .i64 t318)) (fun _ hk => hk.2) (.int .i64 t319)) (fun _ h_ => h_.1)))); (case side2 => exact (Kd.V_reads' HO312.out).2.1); rintro e w34 ⟨rfl, hb⟩; refine ⟨_, rfl, ?_⟩; have n0_ := Aside0.mk (Kd.R_below (by exact (Kd.R_mono (Kd.R_far (p := ⟨gb320, 2, none⟩) (Kd.R_far (p := ⟨gb320, 1, none⟩) (Kd.R_far (p := ⟨gb320, 0, none⟩) (Kd.R_types HO_6.out BK320.out (by decide)) (fun _ hk => hk.2) (.int .i64 t317)) (fun _ hk => hk.2) (.int .i64 t318)) (fun _ hk => hk.2) (.int .i64 t319)) (fun _ h_ => h_.1))) hb); have n1_ := Aside0.mk (Kd.R_below (by exact (Kd.R_mono (Kd.R_far (p := ⟨gb320, 2, none⟩) (Kd.R_far (p := ⟨gb320, 1, none⟩) (Kd.R_far (p := ⟨gb320, 0, none⟩) (Kd.R_types HO_7.out BK320.out (by decide)) (fun _ hk => hk.2) (.int .i64 t317)) (fun _ hk => hk.2) (.int .i64 t318)) (fun _ hk => hk.2) (.int .i64 t319)) (fun _ h_ => h_.1))) hb); have n2_ := Aside0.mk (Kd.V_below (by exact (Kd.V_mono (Kd.V_far (p := ⟨gb320, 2, none⟩) (Kd.V_far (p := ⟨gb320, 1, none⟩) (Kd.V_far (p := ⟨gb320, 0, none⟩) (Kd.V_mono HO_309000.out (fun k_ hk => (⟨hk, hk.2⟩ : _ ∧ k_ ≠ gb320))) (fun _ hk => hk.2) (.int .i64 t317)) (fun _ hk => hk.2) (.int .i64 t318)) (fun _ hk => hk.2) (.int .i64 t319)) (fun _ h_ => h_.1))) hb); have n3_ := Aside0.mk (Kd.V_below (by exact (Kd.V_mono (Kd.V_far (p := ⟨gb320, 2, none⟩) (Kd.V_far (p := ⟨gb320, 1, none⟩) (Kd.V_far (p := ⟨gb320, 0, none⟩) (Kd.V_mono HO312.out (fun k_ hk => (⟨hk, hk.2⟩ : _ ∧ k_ ≠ gb320))) (fun _ hk => hk.2) (.int .i64 t317)) (fun _ hk => hk.2) (.int .i64 t318)) (fun _ hk => hk.2) (.int .i64 t319)) (fun _ h_ => h_.1))) hb); have n4_ := Aside0.mk (blk_below (g := gb308) (o := .cells #[.slice Ao17 x309000_2.length co17, .int .i64 x309001_2, .int .i64 x309002_2, .int .i64 x309003_2] 74 (0, 0)) (by refine blk_far ?_ NB308_320.out _; refine blk_far ?_ NB308_320.out _; refine blk_far ?_ NB308_320.out _; exact BK308.out) hb); have n5_ := Aside0.mk (blk_below (g := gb316) (o := .cells #[.slice Ao20 t310.length co20, .int .i64 t313, .int .i64 t314, .int .i64 t315] 74 (0, 0)) (by refine blk_far ?_ NB316_320.out _; refine blk_far ?_ NB316_320.out _; refine blk_far ?_ NB316_320.out _; exact BK316.out) hb); have n6_ := Aside0.mk (blk_below (g := gb320) (o := .cells #[.int .i64 t317, .int .i64 t318, .int .i64 t319] 71 (0, 0)) (by refine blk_put (cs := #[.int .i64 t317, .int .i64 t318, .int .i64 0]) ?_ 2 _ rfl; refine blk_put (cs := #[.int .i64 t317, .int .i64 0, .int .i64 0]) ?_ 1 _ rfl; refine blk_put (cs := #[.int .i64 0, .int .i64 0, .int .i64 0]) ?_ 0 _ rfl; exact BK320.out) hb); have n7_ := Aside0.mk (below_step (by repeat (first | (with_reducible first | exact HB.out | apply below_alloc | apply pw_below_drewN | apply below_drew1 | refine below_set ?_ GE308.out | refine below_set ?_ GE316.out | refine below_set ?_ GE320.out) | exact HB.out)) hb); clear HO_6; clear HO_7; clear HO_309000; clear HO312; clear BK308; clear BK316; clear BK320; clear HB; have HO_6 := n0_; have HO_7 := n1_; have HO_309000 := n2_; have HO312 := n3_; have BK308 := n4_; have BK316 := n5_; have BK320 := n6_; have HB := n7_; clear n0_ n1_ n2_ n3_ n4_ n5_ n6_ n7_; (try clear hb); (try clear hb2); (try clear hk); (try clear hi); have hnb35 := NB320_308.out; have hnc35 := NB308_320.out; have hcz36_0 : w34.cell? ⟨gb320, 0, none⟩ = some (.int .i64 t317) := (blk_cell BK320.out 0).trans rfl; have hcz36_1 : w34.cell? ⟨gb320, 1, none⟩ = some (.int .i64 t318) := (blk_cell BK320.out 1).trans rfl; have hcz36_2 : w34.cell? ⟨gb320, 2, none⟩ = some (.int .i64 t319) := (blk_cell BK320.out 2).trans rfl; have hfz36_0 := blk_frozen BK320.out 0; have hfz36_1 := blk_frozen BK320.out 1; have hfz36_2 := blk_frozen BK320.out 2))
          go_meet
          case rel => exact ⟨_, (t321), (t322), (t323), H', ⟨by have := HJ2.out; have := HK2.out; first | omega | exact Nat.le_refl _⟩, ⟨by exact Kd.R_mono (Kd.R_far (p := ⟨gb320, 2, none⟩) (Kd.R_far (p := ⟨gb320, 1, none⟩) (Kd.R_far (p := ⟨gb320, 0, none⟩) (Kd.R_types HO_6.out BK320.out (by decide)) (fun _ hk => hk.2) (.int .i64 t321)) (fun _ hk => hk.2) (.int .i64 t322)) (fun _ hk => hk.2) (.int .i64 t323)) (fun _ hk => hk.1)⟩, ⟨by exact Kd.R_mono (Kd.R_far (p := ⟨gb320, 2, none⟩) (Kd.R_far (p := ⟨gb320, 1, none⟩) (Kd.R_far (p := ⟨gb320, 0, none⟩) (Kd.R_types HO_7.out BK320.out (by decide)) (fun _ hk => hk.2) (.int .i64 t321)) (fun _ hk => hk.2) (.int .i64 t322)) (fun _ hk => hk.2) (.int .i64 t323)) (fun _ hk => hk.1)⟩, ⟨by exact Kd.V_mono (Kd.V_far (p := ⟨gb320, 2, none⟩) (Kd.V_far (p := ⟨gb320, 1, none⟩) (Kd.V_far (p := ⟨gb320, 0, none⟩) (Kd.V_mono HO_309000.out (fun k_ hk => (⟨hk, hk.2⟩ : _ ∧ k_ ≠ gb320))) (fun _ hk => hk.2) (.int .i64 t321)) (fun _ hk => hk.2) (.int .i64 t322)) (fun _ hk => hk.2) (.int .i64 t323)) (fun _ hk => ⟨hk.1.1.1.1, ⟨hk.1.1.1.2.1, ⟨hk.1.1.1.2.2, ⟨hk.1.1.2, hk.1.2⟩⟩⟩⟩)⟩, ⟨by exact Kd.V_mono (Kd.V_far (p := ⟨gb320, 2, none⟩) (Kd.V_far (p := ⟨gb320, 1, none⟩) (Kd.V_far (p := ⟨gb320, 0, none⟩) (Kd.V_mono HO312.out (fun k_ hk => (⟨hk, hk.2⟩ : _ ∧ k_ ≠ gb320))) (fun _ hk => hk.2) (.int .i64 t321)) (fun _ hk => hk.2) (.int .i64 t322)) (fun _ hk => hk.2) (.int .i64 t323)) (fun _ hk => ⟨hk.1.1.1.1, ⟨hk.1.1.1.2.1, ⟨hk.1.1.1.2.2, ⟨hk.1.1.2, hk.1.2⟩⟩⟩⟩)⟩, ⟨by refine blk_far ?_ NB308_320.out _; refine blk_far ?_ NB308_320.out _; refine blk_far ?_ NB308_320.out _; exact BK308.out⟩, ⟨by refine blk_far ?_ NB316_320.out _; refine blk_far ?_ NB316_320.out _; refine blk_far ?_ NB316_320.out _; exact BK316.out⟩, ⟨by refine blk_put (cs := #[.int .i64 t321, .int .i64 t322, .int .i64 t319]) ?_ 2 _ rfl; refine blk_put (cs := #[.int .i64 t321, .int .i64 t318, .int .i64 t319]) ?_ 1 _ rfl; refine blk_put (cs := #[.int .i64 t317, .int .i64 t318, .int .i64 t319]) ?_ 0 _ rfl; exact BK320.out⟩, ⟨by repeat (first | (with_reducible first | exact HB.out | apply below_alloc | apply pw_below_drewN | apply below_drew1 | refine below_set ?_ GE308.out | refine below_set ?_ GE316.out | refine below_set ?_ GE320.out) | exact HB.out)⟩⟩
         ·
          rw [if_neg c29] at H
          have c29b0 : ((rd l0 x9_2) == 22) = false := beq_eq_false_iff_ne.mpr c29
          have c29b1 : ((rd l0 x9_2) != 22) = true := bne_iff_ne.mpr c29
          (first | rw [c29b0] | (simp only [i64_w, i32_w]; rw [c29b0]) | skip)
          have H' := Aside0.mk H
          clear H
          go_wp2
          go_meet
          case rel => exact ⟨_, (t317), (t318), (t319), H', ⟨by have := HJ2.out; have := HK2.out; first | omega | exact Nat.le_refl _⟩, ⟨by exact Kd.R_mono (Kd.R_far (p := ⟨gb320, 2, none⟩) (Kd.R_far (p := ⟨gb320, 1, none⟩) (Kd.R_far (p := ⟨gb320, 0, none⟩) (Kd.R_types HO_6.out BK320.out (by decide)) (fun _ hk => hk.2) (.int .i64 t317)) (fun _ hk => hk.2) (.int .i64 t318)) (fun _ hk => hk.2) (.int .i64 t319)) (fun _ hk => hk.1)⟩, ⟨by exact Kd.R_mono (Kd.R_far (p := ⟨gb320, 2, none⟩) (Kd.R_far (p := ⟨gb320, 1, none⟩) (Kd.R_far (p := ⟨gb320, 0, none⟩) (Kd.R_types HO_7.out BK320.out (by decide)) (fun _ hk => hk.2) (.int .i64 t317)) (fun _ hk => hk.2) (.int .i64 t318)) (fun _ hk => hk.2) (.int .i64 t319)) (fun _ hk => hk.1)⟩, ⟨by exact Kd.V_mono (Kd.V_far (p := ⟨gb320, 2, none⟩) (Kd.V_far (p := ⟨gb320, 1, none⟩) (Kd.V_far (p := ⟨gb320, 0, none⟩) (Kd.V_mono HO_309000.out (fun k_ hk => (⟨hk, hk.2⟩ : _ ∧ k_ ≠ gb320))) (fun _ hk => hk.2) (.int .i64 t317)) (fun _ hk => hk.2) (.int .i64 t318)) (fun _ hk => hk.2) (.int .i64 t319)) (fun _ hk => ⟨hk.1.1.1.1, ⟨hk.1.1.1.2.1, ⟨hk.1.1.1.2.2, ⟨hk.1.1.2, hk.1.2⟩⟩⟩⟩)⟩, ⟨by exact Kd.V_mono (Kd.V_far (p := ⟨gb320, 2, none⟩) (Kd.V_far (p := ⟨gb320, 1, none⟩) (Kd.V_far (p := ⟨gb320, 0, none⟩) (Kd.V_mono HO312.out (fun k_ hk => (⟨hk, hk.2⟩ : _ ∧ k_ ≠ gb320))) (fun _ hk => hk.2) (.int .i64 t317)) (fun _ hk => hk.2) (.int .i64 t318)) (fun _ hk => hk.2) (.int .i64 t319)) (fun _ hk => ⟨hk.1.1.1.1, ⟨hk.1.1.1.2.1, ⟨hk.1.1.1.2.2, ⟨hk.1.1.2, hk.1.2⟩⟩⟩⟩)⟩, ⟨by refine blk_far ?_ NB308_320.out _; refine blk_far ?_ NB308_320.out _; refine blk_far ?_ NB308_320.out _; exact BK308.out⟩, ⟨by refine blk_far ?_ NB316_320.out _; refine blk_far ?_ NB316_320.out _; refine blk_far ?_ NB316_320.out _; exact BK316.out⟩, ⟨by refine blk_put (cs := #[.int .i64 t317, .int .i64 t318, .int .i64 0]) ?_ 2 _ rfl; refine blk_put (cs := #[.int .i64 t317, .int .i64 0, .int .i64 0]) ?_ 1 _ rfl; refine blk_put (cs := #[.int .i64 0, .int .i64 0, .int .i64 0]) ?_ 0 _ rfl; exact BK320.out⟩, ⟨by repeat (first | (with_reducible first | exact HB.out | apply below_alloc | apply pw_below_drewN | apply below_drew1 | refine below_set ?_ GE308.out | refine below_set ?_ GE316.out | refine below_set ?_ GE320.out) | exact HB.out)⟩⟩
        case rest =>
         clear HC15
         try clear c1
         try clear p3
         try clear q3
         try clear hx3
         try clear c11
         try clear c11b0
         try clear c12
         try clear c12b0
         try clear c21
         try clear c22
         try clear c26
         try clear c27
         try clear c29
         try clear c29b0
         try clear c29b1
         try clear p30
         try clear q30
         try clear hx30
         try clear c31
         try clear c32
         try clear c35
         try clear hcz16_0
         try clear hcz16_1
         try clear hcz16_2
         try clear hcz16_3
         try clear hcz22_0
         try clear hcz22_1
         try clear hcz22_2
         try clear hcz22_3
         try clear hcz23_0
         try clear hcz23_1
         try clear hcz23_2
         try clear hcz23_3
         try clear hcz28_0
         try clear hcz28_1
         try clear hcz28_2
         try clear hcz33_0
         try clear hcz33_1
         try clear hcz33_2
         try clear hcz33_3
         try clear hcz36_0
         try clear hcz36_1
         try clear hcz36_2
         try clear hfz16_0
         try clear hfz16_1
         try clear hfz16_2
         try clear hfz16_3
         try clear hfz22_0
         try clear hfz22_1
         try clear hfz22_2
         try clear hfz22_3
         try clear hfz23_0
         try clear hfz23_1
         try clear hfz23_2
         try clear hfz23_3
         try clear hfz28_0
         try clear hfz28_1
         try clear hfz28_2
         try clear hfz33_0
         try clear hfz33_1
         try clear hfz33_2
         try clear hfz33_3
         try clear hfz36_0
         try clear hfz36_1
         try clear hfz36_2
         try clear hx309_0
         try clear p309
         try clear q309
         obtain ⟨kq, x321000_14, x321001_14, x321002_14, HA, HJ14, HO_6, HO_7, HO_309000, HO_317000, BK308, BK316, BK320, HB⟩ := hcut
         cases kq with
         | zero => exact absurd HA.out (by simp [parquetryref11_Explicit.j2])
         | succ kj14 =>
          have H := HA.out
          clear HA
          simp only [parquetryref11_Explicit.j2] at H
          replace H := Option.bind_eq_some_iff.mp H
          obtain ⟨t324, A370, H⟩ := H
          replace H : (if t324 = true then (parquetryref11_Explicit.j3 kj14 l0 a1 x6_2 x7_2 x9_2 (rd l0 x9_2) t310 t313 t314 t315 (-1) (-1) 0) else (parquetryref11_Explicit.j3 kj14 l0 a1 x6_2 x7_2 x9_2 (rd l0 x9_2) t310 t313 t314 t315 x321000_14 x321001_14 x321002_14)) = some (r1, r2) := H
          have A37 := Aside0.mk A370
          clear A370
          have HC38 := Aside0.mk H
          clear H
          have hnb39 := NB316_308.out
          have hnc39 := NB308_316.out
          have hnb40 := NB316_320.out
          have hnc40 := NB320_316.out
          have hcz41_0 : wc.cell? ⟨gb316, 0, none⟩ = some (.slice Ao20 t310.length co20) := (blk_cell BK316.out 0).trans rfl
          have hcz41_1 : wc.cell? ⟨gb316, 1, none⟩ = some (.int .i64 t313) := (blk_cell BK316.out 1).trans rfl
          have hcz41_2 : wc.cell? ⟨gb316, 2, none⟩ = some (.int .i64 t314) := (blk_cell BK316.out 2).trans rfl
          have hcz41_3 : wc.cell? ⟨gb316, 3, none⟩ = some (.int .i64 t315) := (blk_cell BK316.out 3).trans rfl
          have hfz41_0 := blk_frozen BK316.out 0
          have hfz41_1 := blk_frozen BK316.out 1
          have hfz41_2 := blk_frozen BK316.out 2
          have hfz41_3 := blk_frozen BK316.out 3
          have hnb42 := NB308_320.out
          have hnc42 := NB320_308.out
          have hcz43_0 : wc.cell? ⟨gb308, 0, none⟩ = some (.slice Ao17 x309000_2.length co17) := (blk_cell BK308.out 0).trans rfl
          have hcz43_1 : wc.cell? ⟨gb308, 1, none⟩ = some (.int .i64 x309001_2) := (blk_cell BK308.out 1).trans rfl
          have hcz43_2 : wc.cell? ⟨gb308, 2, none⟩ = some (.int .i64 x309002_2) := (blk_cell BK308.out 2).trans rfl
          have hcz43_3 : wc.cell? ⟨gb308, 3, none⟩ = some (.int .i64 x309003_2) := (blk_cell BK308.out 3).trans rfl
          have hfz43_0 := blk_frozen BK308.out 0
          have hfz43_1 := blk_frozen BK308.out 1
          have hfz43_2 := blk_frozen BK308.out 2
          have hfz43_3 := blk_frozen BK308.out 3
          go_upto_if 45 with (first | ((with_reducible refine gate_callee (f := 43) rfl ?_); refine goesL_ (some 45) rfl rfl Try.func43 (by kernel_rfl) rfl #[.int .i64 (rd l0 x9_2)] rfl (by (try simp only [List.map_toArray, List.map_cons, List.map_nil]); first | done | rfl | (simp only [List.length_drop, List.length_take]; rfl)) ?_; (with_reducible refine (parquetryref11_Removed.calls (rd l0 x9_2) t324 _ A37.out).mono ?_); rintro e w' ⟨rfl, ⟨nd, rfl⟩⟩; refine ⟨_, rfl, ?_⟩))
          (try simp only [Act.put, List.setIfInBounds_toArray, List.set_cons_zero, List.set_cons_succ])
          go_cut [] (fun wc => ∃ (kq : Nat) (x321000_37 : Int) (x321001_37 : Int) (x321002_37 : Int), Aside0 (parquetryref11_Explicit.j3 kq l0 a1 x6_2 x7_2 x9_2 (rd l0 x9_2) t310 t313 t314 t315 x321000_37 x321001_37 x321002_37 = some (r1, r2)) ∧ Aside0 (kq ≤ kj14) ∧ Aside0 (Kd.R (Kd.int .i64) 3 wc w.heap.size (fun k_ => some k_ ≠ (u7 : Value).ownBlock) u6 x6_2) ∧ Aside0 (Kd.R (Kd.int .i64) 3 wc w.heap.size (fun k_ => some k_ ≠ (u6 : Value).ownBlock) u7 x7_2) ∧ Aside0 (Kd.V k71 71 wc w.heap.size (fun k_ => some k_ ≠ (u6 : Value).ownBlock ∧ some k_ ≠ (u7 : Value).ownBlock ∧ k_ ≠ gb308 ∧ k_ ≠ gb316 ∧ k_ ≠ gb320) (.slice Ao20 t310.length co20) t310) ∧ Aside0 (Kd.V k71 71 wc w.heap.size (fun k_ => some k_ ≠ (u6 : Value).ownBlock ∧ some k_ ≠ (u7 : Value).ownBlock ∧ k_ ≠ gb308 ∧ k_ ≠ gb316 ∧ k_ ≠ gb320) (.slice Ao20 t310.length co20) t310) ∧ Aside0 (wc.heap[gb308]? = some (.cells #[(.slice Ao20 t310.length co20), .int .i64 t313, .int .i64 t314, .int .i64 t315] 74 (0, 0))) ∧ Aside0 (wc.heap[gb316]? = some (.cells #[(.slice Ao20 t310.length co20), .int .i64 t313, .int .i64 t314, .int .i64 t315] 74 (0, 0))) ∧ Aside0 (wc.heap[gb320]? = some (.cells #[.int .i64 x321000_37, .int .i64 x321001_37, .int .i64 x321002_37] 71 (0, 0))) ∧ Aside0 (Below w.heap.size w wc))
          case first =>
           have H := HC38.out
           clear HC38
           by_cases c44 : t324 = true
           ·
            subst c44
            have H1 : (parquetryref11_Explicit.j3 kj14 l0 a1 x6_2 x7_2 x9_2 (rd l0 x9_2) t310 t313 t314 t315 (-1) (-1) 0) = some (r1, r2) := by rw [if_pos rfl] at H; exact H
            clear H
            have H := H1
            clear H1
            have H' := Aside0.mk H
            clear H
            have hnb45 := NB320_308.out
            have hnc45 := NB308_320.out
            have hnb46 := NB320_316.out
            have hnc46 := NB316_320.out
            have hcz47_0 : wc.cell? ⟨gb320, 0, none⟩ = some (.int .i64 x321000_14) := (blk_cell BK320.out 0).trans rfl
            have hcz47_1 : wc.cell? ⟨gb320, 1, none⟩ = some (.int .i64 x321001_14) := (blk_cell BK320.out 1).trans rfl
            have hcz47_2 : wc.cell? ⟨gb320, 2, none⟩ = some (.int .i64 x321002_14) := (blk_cell BK320.out 2).trans rfl
            have hfz47_0 := blk_frozen BK320.out 0
            have hfz47_1 := blk_frozen BK320.out 1
            have hfz47_2 := blk_frozen BK320.out 2
            go_wp2
            go_meet
            case rel => exact ⟨_, ((-1)), ((-1)), (0), H', ⟨by have := HJ2.out; have := HK2.out; have := HJ14.out; first | omega | exact Nat.le_refl _⟩, ⟨by exact Kd.R_mono (Kd.R_far (p := ⟨gb320, 2, none⟩) (Kd.R_far (p := ⟨gb320, 1, none⟩) (Kd.R_far (p := ⟨gb320, 0, none⟩) (Kd.R_far (p := ⟨gb308, 3, none⟩) (Kd.R_far (p := ⟨gb308, 2, none⟩) (Kd.R_far (p := ⟨gb308, 1, none⟩) (Kd.R_far (p := ⟨gb308, 0, none⟩) (Kd.R_types (Kd.R_types HO_6.out BK308.out (by decide)) BK320.out (by decide)) (fun _ hk => hk.1.2) (.slice Ao20 t310.length co20)) (fun _ hk => hk.1.2) (.int .i64 t313)) (fun _ hk => hk.1.2) (.int .i64 t314)) (fun _ hk => hk.1.2) (.int .i64 t315)) (fun _ hk => hk.2) (.int .i64 (-1))) (fun _ hk => hk.2) (.int .i64 (-1))) (fun _ hk => hk.2) (.int .i64 0)) (fun _ hk => hk.1.1)⟩, ⟨by exact Kd.R_mono (Kd.R_far (p := ⟨gb320, 2, none⟩) (Kd.R_far (p := ⟨gb320, 1, none⟩) (Kd.R_far (p := ⟨gb320, 0, none⟩) (Kd.R_far (p := ⟨gb308, 3, none⟩) (Kd.R_far (p := ⟨gb308, 2, none⟩) (Kd.R_far (p := ⟨gb308, 1, none⟩) (Kd.R_far (p := ⟨gb308, 0, none⟩) (Kd.R_types (Kd.R_types HO_7.out BK308.out (by decide)) BK320.out (by decide)) (fun _ hk => hk.1.2) (.slice Ao20 t310.length co20)) (fun _ hk => hk.1.2) (.int .i64 t313)) (fun _ hk => hk.1.2) (.int .i64 t314)) (fun _ hk => hk.1.2) (.int .i64 t315)) (fun _ hk => hk.2) (.int .i64 (-1))) (fun _ hk => hk.2) (.int .i64 (-1))) (fun _ hk => hk.2) (.int .i64 0)) (fun _ hk => hk.1.1)⟩, ⟨by exact Kd.V_mono (Kd.V_far (p := ⟨gb320, 2, none⟩) (Kd.V_far (p := ⟨gb320, 1, none⟩) (Kd.V_far (p := ⟨gb320, 0, none⟩) (Kd.V_far (p := ⟨gb308, 3, none⟩) (Kd.V_far (p := ⟨gb308, 2, none⟩) (Kd.V_far (p := ⟨gb308, 1, none⟩) (Kd.V_far (p := ⟨gb308, 0, none⟩) (Kd.V_mono (Kd.V_mono HO_317000.out (fun k_ hk => (⟨hk, hk.2.2.1⟩ : _ ∧ k_ ≠ gb308))) (fun k_ hk => (⟨hk, hk.1.2.2.2.2⟩ : _ ∧ k_ ≠ gb320))) (fun _ hk => hk.1.2) (.slice Ao20 t310.length co20)) (fun _ hk => hk.1.2) (.int .i64 t313)) (fun _ hk => hk.1.2) (.int .i64 t314)) (fun _ hk => hk.1.2) (.int .i64 t315)) (fun _ hk => hk.2) (.int .i64 (-1))) (fun _ hk => hk.2) (.int .i64 (-1))) (fun _ hk => hk.2) (.int .i64 0)) (fun _ hk => ⟨hk.1.1.1, ⟨hk.1.1.2.1, ⟨hk.1.1.2.2.1, ⟨hk.1.1.2.2.2.1, hk.1.1.2.2.2.2⟩⟩⟩⟩)⟩, ⟨by exact Kd.V_mono (Kd.V_far (p := ⟨gb320, 2, none⟩) (Kd.V_far (p := ⟨gb320, 1, none⟩) (Kd.V_far (p := ⟨gb320, 0, none⟩) (Kd.V_far (p := ⟨gb308, 3, none⟩) (Kd.V_far (p := ⟨gb308, 2, none⟩) (Kd.V_far (p := ⟨gb308, 1, none⟩) (Kd.V_far (p := ⟨gb308, 0, none⟩) (Kd.V_mono (Kd.V_mono HO_317000.out (fun k_ hk => (⟨hk, hk.2.2.1⟩ : _ ∧ k_ ≠ gb308))) (fun k_ hk => (⟨hk, hk.1.2.2.2.2⟩ : _ ∧ k_ ≠ gb320))) (fun _ hk => hk.1.2) (.slice Ao20 t310.length co20)) (fun _ hk => hk.1.2) (.int .i64 t313)) (fun _ hk => hk.1.2) (.int .i64 t314)) (fun _ hk => hk.1.2) (.int .i64 t315)) (fun _ hk => hk.2) (.int .i64 (-1))) (fun _ hk => hk.2) (.int .i64 (-1))) (fun _ hk => hk.2) (.int .i64 0)) (fun _ hk => ⟨hk.1.1.1, ⟨hk.1.1.2.1, ⟨hk.1.1.2.2.1, ⟨hk.1.1.2.2.2.1, hk.1.1.2.2.2.2⟩⟩⟩⟩)⟩, ⟨by refine blk_far ?_ NB308_320.out _; refine blk_far ?_ NB308_320.out _; refine blk_far ?_ NB308_320.out _; refine blk_put (cs := #[.slice Ao20 t310.length co20, .int .i64 t313, .int .i64 t314, .int .i64 x309003_2]) ?_ 3 _ rfl; refine blk_put (cs := #[.slice Ao20 t310.length co20, .int .i64 t313, .int .i64 x309002_2, .int .i64 x309003_2]) ?_ 2 _ rfl; refine blk_put (cs := #[.slice Ao20 t310.length co20, .int .i64 x309001_2, .int .i64 x309002_2, .int .i64 x309003_2]) ?_ 1 _ rfl; refine blk_put (cs := #[.slice Ao17 x309000_2.length co17, .int .i64 x309001_2, .int .i64 x309002_2, .int .i64 x309003_2]) ?_ 0 _ rfl; exact BK308.out⟩, ⟨by refine blk_far ?_ NB316_320.out _; refine blk_far ?_ NB316_320.out _; refine blk_far ?_ NB316_320.out _; refine blk_far ?_ NB316_308.out _; refine blk_far ?_ NB316_308.out _; refine blk_far ?_ NB316_308.out _; refine blk_far ?_ NB316_308.out _; exact BK316.out⟩, ⟨by refine blk_put (cs := #[.int .i64 (-1), .int .i64 (-1), .int .i64 x321002_14]) ?_ 2 _ rfl; refine blk_put (cs := #[.int .i64 (-1), .int .i64 x321001_14, .int .i64 x321002_14]) ?_ 1 _ rfl; refine blk_put (cs := #[.int .i64 x321000_14, .int .i64 x321001_14, .int .i64 x321002_14]) ?_ 0 _ rfl; refine blk_far ?_ NB320_308.out _; refine blk_far ?_ NB320_308.out _; refine blk_far ?_ NB320_308.out _; refine blk_far ?_ NB320_308.out _; exact BK320.out⟩, ⟨by repeat (first | (with_reducible first | exact HB.out | apply below_alloc | apply pw_below_drewN | apply below_drew1 | refine below_set ?_ GE308.out | refine below_set ?_ GE316.out | refine below_set ?_ GE320.out) | exact HB.out)⟩⟩
           ·
            replace c44 := Bool.eq_false_iff.mpr c44
            subst c44
            have H1 : (parquetryref11_Explicit.j3 kj14 l0 a1 x6_2 x7_2 x9_2 (rd l0 x9_2) t310 t313 t314 t315 x321000_14 x321001_14 x321002_14) = some (r1, r2) := by rw [if_neg (show ¬ (false = true) by decide)] at H; exact H
            clear H
            have H := H1
            clear H1
            have H' := Aside0.mk H
            clear H
            go_wp2
            go_meet
            case rel => exact ⟨_, (x321000_14), (x321001_14), (x321002_14), H', ⟨by have := HJ2.out; have := HK2.out; have := HJ14.out; first | omega | exact Nat.le_refl _⟩, ⟨by exact Kd.R_mono (Kd.R_far (p := ⟨gb308, 3, none⟩) (Kd.R_far (p := ⟨gb308, 2, none⟩) (Kd.R_far (p := ⟨gb308, 1, none⟩) (Kd.R_far (p := ⟨gb308, 0, none⟩) (Kd.R_types HO_6.out BK308.out (by decide)) (fun _ hk => hk.2) (.slice Ao20 t310.length co20)) (fun _ hk => hk.2) (.int .i64 t313)) (fun _ hk => hk.2) (.int .i64 t314)) (fun _ hk => hk.2) (.int .i64 t315)) (fun _ hk => hk.1)⟩, ⟨by exact Kd.R_mono (Kd.R_far (p := ⟨gb308, 3, none⟩) (Kd.R_far (p := ⟨gb308, 2, none⟩) (Kd.R_far (p := ⟨gb308, 1, none⟩) (Kd.R_far (p := ⟨gb308, 0, none⟩) (Kd.R_types HO_7.out BK308.out (by decide)) (fun _ hk => hk.2) (.slice Ao20 t310.length co20)) (fun _ hk => hk.2) (.int .i64 t313)) (fun _ hk => hk.2) (.int .i64 t314)) (fun _ hk => hk.2) (.int .i64 t315)) (fun _ hk => hk.1)⟩, ⟨by exact Kd.V_mono (Kd.V_far (p := ⟨gb308, 3, none⟩) (Kd.V_far (p := ⟨gb308, 2, none⟩) (Kd.V_far (p := ⟨gb308, 1, none⟩) (Kd.V_far (p := ⟨gb308, 0, none⟩) (Kd.V_mono HO_317000.out (fun k_ hk => (⟨hk, hk.2.2.1⟩ : _ ∧ k_ ≠ gb308))) (fun _ hk => hk.2) (.slice Ao20 t310.length co20)) (fun _ hk => hk.2) (.int .i64 t313)) (fun _ hk => hk.2) (.int .i64 t314)) (fun _ hk => hk.2) (.int .i64 t315)) (fun _ hk => ⟨hk.1.1, ⟨hk.1.2.1, ⟨hk.1.2.2.1, ⟨hk.1.2.2.2.1, hk.1.2.2.2.2⟩⟩⟩⟩)⟩, ⟨by exact Kd.V_mono (Kd.V_far (p := ⟨gb308, 3, none⟩) (Kd.V_far (p := ⟨gb308, 2, none⟩) (Kd.V_far (p := ⟨gb308, 1, none⟩) (Kd.V_far (p := ⟨gb308, 0, none⟩) (Kd.V_mono HO_317000.out (fun k_ hk => (⟨hk, hk.2.2.1⟩ : _ ∧ k_ ≠ gb308))) (fun _ hk => hk.2) (.slice Ao20 t310.length co20)) (fun _ hk => hk.2) (.int .i64 t313)) (fun _ hk => hk.2) (.int .i64 t314)) (fun _ hk => hk.2) (.int .i64 t315)) (fun _ hk => ⟨hk.1.1, ⟨hk.1.2.1, ⟨hk.1.2.2.1, ⟨hk.1.2.2.2.1, hk.1.2.2.2.2⟩⟩⟩⟩)⟩, ⟨by refine blk_put (cs := #[.slice Ao20 t310.length co20, .int .i64 t313, .int .i64 t314, .int .i64 x309003_2]) ?_ 3 _ rfl; refine blk_put (cs := #[.slice Ao20 t310.length co20, .int .i64 t313, .int .i64 x309002_2, .int .i64 x309003_2]) ?_ 2 _ rfl; refine blk_put (cs := #[.slice Ao20 t310.length co20, .int .i64 x309001_2, .int .i64 x309002_2, .int .i64 x309003_2]) ?_ 1 _ rfl; refine blk_put (cs := #[.slice Ao17 x309000_2.length co17, .int .i64 x309001_2, .int .i64 x309002_2, .int .i64 x309003_2]) ?_ 0 _ rfl; exact BK308.out⟩, ⟨by refine blk_far ?_ NB316_308.out _; refine blk_far ?_ NB316_308.out _; refine blk_far ?_ NB316_308.out _; refine blk_far ?_ NB316_308.out _; exact BK316.out⟩, ⟨by refine blk_far ?_ NB320_308.out _; refine blk_far ?_ NB320_308.out _; refine blk_far ?_ NB320_308.out _; refine blk_far ?_ NB320_308.out _; exact BK320.out⟩, ⟨by repeat (first | (with_reducible first | exact HB.out | apply below_alloc | apply pw_below_drewN | apply below_drew1 | refine below_set ?_ GE308.out | refine below_set ?_ GE316.out | refine below_set ?_ GE320.out) | exact HB.out)⟩⟩
          case rest =>
           clear HC38
           try clear c39
           try clear c40
           try clear c41
           try clear c42
           try clear c43
           try clear c44
           try clear c45
           try clear c46
           try clear hcz41_0
           try clear hcz41_1
           try clear hcz41_2
           try clear hcz41_3
           try clear hcz43_0
           try clear hcz43_1
           try clear hcz43_2
           try clear hcz43_3
           try clear hcz47_0
           try clear hcz47_1
           try clear hcz47_2
           try clear hfz41_0
           try clear hfz41_1
           try clear hfz41_2
           try clear hfz41_3
           try clear hfz43_0
           try clear hfz43_1
           try clear hfz43_2
           try clear hfz43_3
           try clear hfz47_0
           try clear hfz47_1
           try clear hfz47_2
           obtain ⟨kq, x321000_37, x321001_37, x321002_37, HA, HJ37, HO_6, HO_7, HO_309000, HO_317000, BK308, BK316, BK320, HB⟩ := hcut
           cases kq with
           | zero => exact absurd HA.out (by simp [parquetryref11_Explicit.j3])
           | succ kj37 =>
            have H := HA.out
            clear HA
            simp only [parquetryref11_Explicit.j3] at H
            by_cases c48 : (rd l0 x9_2) = 10
            ·
             rw [if_pos c48] at H
             have c48b0 : ((rd l0 x9_2) == 10) = true := beq_iff_eq.mpr c48
             have c48b1 : ((rd l0 x9_2) != 10) = false := bne_eq_false_iff_eq.mpr c48
             clear c48
             by_cases c49 : x6_2.length < 17592186044416
             ·
              rw [if_pos c49] at H
              have LMc49 := Aside0.mk c49
              clear c49
              obtain ⟨y325, hy325⟩ : ∃ y_ : List Int, y_ = (x6_2 ++ [a1]) := ⟨_, rfl⟩
              replace H : (if (-1) ≥ 0 then (if x7_2.length < 17592186044416 then (parquetryref11_Explicit.l0 kj37 l0 a1 y325 (x7_2 ++ [(-1)]) (wrap64 (x9_2 + 1)) t310 t313 t314 t315) else (none)) else (if x7_2.length < 17592186044416 then (parquetryref11_Explicit.l0 kj37 l0 a1 y325 (x7_2 ++ [(rd l0 x9_2)]) (wrap64 (x9_2 + 1)) t310 t313 t314 t315) else (none))) = some (r1, r2) := by first | (rw [hy325]; with_reducible exact H) | (have H2_ := (Option.bind_some _ _).symm.trans H; rw [hy325]; with_reducible exact H2_) | (have H2_ := (Option.bind_some _ _).symm.trans H; with_reducible exact H2_) | with_reducible exact H | (rw [hy325]; exact H) | exact H
              have Ny325 := Aside0.mk hy325
              clear hy325
              by_cases c50 : (-1) ≥ 0
              ·
               exact absurd c50 (by decide)
              ·
               rw [if_neg c50] at H
               have c50b0 : decide (0 ≤ (-1)) = false := decide_eq_false c50
               clear c50
               by_cases c58 : x7_2.length < 17592186044416
               ·
                rw [if_pos c58] at H
                have LMc58 := Aside0.mk c58
                clear c58
                obtain ⟨y331, hy331⟩ : ∃ y_ : List Int, y_ = (x7_2 ++ [(rd l0 x9_2)]) := ⟨_, rfl⟩
                replace H : (parquetryref11_Explicit.l0 kj37 l0 a1 y325 y331 (wrap64 (x9_2 + 1)) t310 t313 t314 t315) = some (r1, r2) := by first | (rw [hy331]; with_reducible exact H) | (have H2_ := (Option.bind_some _ _).symm.trans H; rw [hy331]; with_reducible exact H2_) | (have H2_ := (Option.bind_some _ _).symm.trans H; with_reducible exact H2_) | with_reducible exact H | (rw [hy331]; exact H) | exact H
                have Ny331 := Aside0.mk hy331
                clear hy331
                have H' := Aside0.mk H
                clear H
                have hnb59 := NB320_308.out
                have hnc59 := NB308_320.out
                have hnb60 := NB320_316.out
                have hnc60 := NB316_320.out
                have hcz61_0 : wc.cell? ⟨gb320, 0, none⟩ = some (.int .i64 x321000_37) := (blk_cell BK320.out 0).trans rfl
                have hcz61_1 : wc.cell? ⟨gb320, 1, none⟩ = some (.int .i64 x321001_37) := (blk_cell BK320.out 1).trans rfl
                have hcz61_2 : wc.cell? ⟨gb320, 2, none⟩ = some (.int .i64 x321002_37) := (blk_cell BK320.out 2).trans rfl
                have hfz61_0 := blk_frozen BK320.out 0
                have hfz61_1 := blk_frozen BK320.out 1
                have hfz61_2 := blk_frozen BK320.out 2
                go_wp2_with (first | ((with_reducible refine gate_builtin (b := .append) (xs := #[.tmp 51, .tmp 54]) rfl ?_); at_builtin; refine Kd.R_append (Kd.int .i64) (w0 := w) w.heap.size rfl (.tmp 51) (.tmp 54) 22 3 (.int .i64 0) 8 rfl Try.underlying22 info3 rfl (by decide) (by omega) u6 x6_2 a1 [.int .i64 a1] (fun k_ => some k_ ≠ (u7 : Value).ownBlock) (fun _ => False) rfl (by first | (go_simp; done) | (go_simp; rfl)) ?aP (fun _ hk => hk.elim) ?aF ?aO ?aB ?aS ?aL ?_; (case aP => exact rfl); (case aB => exact (by repeat (first | (with_reducible first | exact HB.out | apply below_alloc | apply pw_below_drewN | apply below_drew1 | refine below_set ?_ GE308.out | refine below_set ?_ GE316.out | refine below_set ?_ GE320.out) | exact HB.out))); (case aF => exact (fun k_ hk => Kd.fresh' (Kd.R_lt (by exact (Kd.R_mono (Kd.R_far (p := ⟨gb320, 2, none⟩) (Kd.R_far (p := ⟨gb320, 1, none⟩) (Kd.R_far (p := ⟨gb320, 0, none⟩) (Kd.R_types HO_7.out BK320.out (by decide)) (fun _ hk => hk.2) (.int .i64 a1)) (fun _ hk => hk.2) (.int .i64 (-1))) (fun _ hk => hk.2) (.int .i64 0)) (fun _ h_ => h_.1)))) k_ hk)); (case aO => exact (by exact Kd.R_mono (Kd.R_far (p := ⟨gb320, 2, none⟩) (Kd.R_far (p := ⟨gb320, 1, none⟩) (Kd.R_far (p := ⟨gb320, 0, none⟩) (Kd.R_types HO_6.out BK320.out (by decide)) (fun _ hk => hk.2) (.int .i64 a1)) (fun _ hk => hk.2) (.int .i64 (-1))) (fun _ hk => hk.2) (.int .i64 0)) (fun _ hk => hk.1))); (case aS => exact (below_size (by repeat (first | (with_reducible first | exact HB.out | apply below_alloc | apply pw_below_drewN | apply below_drew1 | refine below_set ?_ GE308.out | refine below_set ?_ GE316.out | refine below_set ?_ GE320.out) | exact HB.out)))); (case aL => have := LMc49.out; omega); intro v326 w62 ho hb hg hat; rw [← Ny325.out] at ho; have n0_ := Aside0.mk (Kd.R_after (ok := (fun _ => True)) (by exact Kd.R_mono (Kd.R_far (p := ⟨gb320, 2, none⟩) (Kd.R_far (p := ⟨gb320, 1, none⟩) (Kd.R_far (p := ⟨gb320, 0, none⟩) (Kd.R_types HO_7.out BK320.out (by decide)) (fun _ hk => hk.2) (.int .i64 a1)) (fun _ hk => hk.2) (.int .i64 (-1))) (fun _ hk => hk.2) (.int .i64 0)) (fun _ hk => ⟨trivial, hk.1⟩)) hg hat); have n1_ := Aside0.mk (Kd.V_afterv (ok := (fun k_ => some k_ ≠ (u7 : Value).ownBlock ∧ k_ ≠ gb308 ∧ k_ ≠ gb316 ∧ k_ ≠ gb320)) (by exact Kd.V_mono (Kd.V_far (p := ⟨gb320, 2, none⟩) (Kd.V_far (p := ⟨gb320, 1, none⟩) (Kd.V_far (p := ⟨gb320, 0, none⟩) (Kd.V_mono HO_309000.out (fun k_ hk => (⟨hk, hk.2.2.2.2⟩ : _ ∧ k_ ≠ gb320))) (fun _ hk => hk.2) (.int .i64 a1)) (fun _ hk => hk.2) (.int .i64 (-1))) (fun _ hk => hk.2) (.int .i64 0)) (fun _ hk => ⟨⟨hk.1.2.1, ⟨hk.1.2.2.1, ⟨hk.1.2.2.2.1, hk.1.2.2.2.2⟩⟩⟩, hk.1.1⟩)) hg hat); have n2_ := Aside0.mk (Kd.V_afterv (ok := (fun k_ => some k_ ≠ (u7 : Value).ownBlock ∧ k_ ≠ gb308 ∧ k_ ≠ gb316 ∧ k_ ≠ gb320)) (by exact Kd.V_mono (Kd.V_far (p := ⟨gb320, 2, none⟩) (Kd.V_far (p := ⟨gb320, 1, none⟩) (Kd.V_far (p := ⟨gb320, 0, none⟩) (Kd.V_mono HO_317000.out (fun k_ hk => (⟨hk, hk.2.2.2.2⟩ : _ ∧ k_ ≠ gb320))) (fun _ hk => hk.2) (.int .i64 a1)) (fun _ hk => hk.2) (.int .i64 (-1))) (fun _ hk => hk.2) (.int .i64 0)) (fun _ hk => ⟨⟨hk.1.2.1, ⟨hk.1.2.2.1, ⟨hk.1.2.2.2.1, hk.1.2.2.2.2⟩⟩⟩, hk.1.1⟩)) hg hat); have n3_ := Aside0.mk (blk_grown (g := gb308) (o := .cells #[.slice Ao20 t310.length co20, .int .i64 t313, .int .i64 t314, .int .i64 t315] 74 (0, 0)) (by refine blk_far ?_ NB308_320.out _; refine blk_far ?_ NB308_320.out _; refine blk_far ?_ NB308_320.out _; exact BK308.out) hg (Kd.R_ne HO_6.out BK308.out (by decide))); have n4_ := Aside0.mk (blk_grown (g := gb316) (o := .cells #[.slice Ao20 t310.length co20, .int .i64 t313, .int .i64 t314, .int .i64 t315] 74 (0, 0)) (by refine blk_far ?_ NB316_320.out _; refine blk_far ?_ NB316_320.out _; refine blk_far ?_ NB316_320.out _; exact BK316.out) hg (Kd.R_ne HO_6.out BK316.out (by decide))); have n5_ := Aside0.mk (blk_grown (g := gb320) (o := .cells #[.int .i64 a1, .int .i64 (-1), .int .i64 0] 71 (0, 0)) (by refine blk_put (cs := #[.int .i64 a1, .int .i64 (-1), .int .i64 x321002_37]) ?_ 2 _ rfl; refine blk_put (cs := #[.int .i64 a1, .int .i64 x321001_37, .int .i64 x321002_37]) ?_ 1 _ rfl; refine blk_put (cs := #[.int .i64 x321000_37, .int .i64 x321001_37, .int .i64 x321002_37]) ?_ 0 _ rfl; exact BK320.out) hg (Kd.R_ne HO_6.out BK320.out (by decide))); have n6_ := Aside0.mk (hb); have n7_ := Aside0.mk (ho); clear HO_7; clear HO_309000; clear HO_317000; clear BK308; clear BK316; clear BK320; clear HB; clear HO_6; have HO_7 := n0_; have HO_309000 := n1_; have HO_317000 := n2_; have BK308 := n3_; have BK316 := n4_; have BK320 := n5_; have HB := n6_; have HO327 := n7_; clear n0_ n1_ n2_ n3_ n4_ n5_ n6_ n7_; clear ho hb hg hat; have hcz63_0 : w62.cell? ⟨gb320, 0, none⟩ = some (.int .i64 a1) := (blk_cell BK320.out 0).trans rfl; have hcz63_1 : w62.cell? ⟨gb320, 1, none⟩ = some (.int .i64 (-1)) := (blk_cell BK320.out 1).trans rfl; have hcz63_2 : w62.cell? ⟨gb320, 2, none⟩ = some (.int .i64 0) := (blk_cell BK320.out 2).trans rfl; have hfz63_0 := blk_frozen BK320.out 0; have hfz63_1 := blk_frozen BK320.out 1; have hfz63_2 := blk_frozen BK320.out 2) | ((with_reducible refine gate_builtin (b := .append) (xs := #[.tmp 61, .tmp 63]) rfl ?_); at_builtin; refine Kd.R_append (Kd.int .i64) (w0 := w) w.heap.size rfl (.tmp 61) (.tmp 63) 22 3 (.int .i64 0) 8 rfl Try.underlying22 info3 rfl (by decide) (by omega) u7 x7_2 (rd l0 x9_2) [.int .i64 (rd l0 x9_2)] (fun k_ => some k_ ≠ (v326 : Value).ownBlock) (fun _ => False) rfl rfl ?aP (fun _ hk => hk.elim) ?aF ?aO ?aB ?aS ?aL ?_; (case aP => exact rfl); (case aB => exact (by repeat (first | (with_reducible first | exact HB.out | apply below_alloc | apply pw_below_drewN | apply below_drew1 | refine below_set ?_ GE308.out | refine below_set ?_ GE316.out | refine below_set ?_ GE320.out) | exact HB.out))); (case aF => exact (fun k_ hk => Kd.fresh' (Kd.R_lt (by exact HO327.out)) k_ hk)); (case aO => exact (by exact Kd.R_mono HO_7.out (fun _ hk => hk.2))); (case aS => exact (below_size (by repeat (first | (with_reducible first | exact HB.out | apply below_alloc | apply pw_below_drewN | apply below_drew1 | refine below_set ?_ GE308.out | refine below_set ?_ GE316.out | refine below_set ?_ GE320.out) | exact HB.out)))); (case aL => have := LMc58.out; omega); intro v332 w64 ho hb hg hat; rw [← Ny331.out] at ho; have n0_ := Aside0.mk (Kd.V_afterv (ok := (fun k_ => some k_ ≠ (v326 : Value).ownBlock ∧ k_ ≠ gb308 ∧ k_ ≠ gb316 ∧ k_ ≠ gb320)) (by exact Kd.V_mono HO_309000.out (fun _ hk => ⟨⟨hk.2, ⟨hk.1.2.1, ⟨hk.1.2.2.1, hk.1.2.2.2⟩⟩⟩, hk.1.1⟩)) hg hat); have n1_ := Aside0.mk (Kd.V_afterv (ok := (fun k_ => some k_ ≠ (v326 : Value).ownBlock ∧ k_ ≠ gb308 ∧ k_ ≠ gb316 ∧ k_ ≠ gb320)) (by exact Kd.V_mono HO_317000.out (fun _ hk => ⟨⟨hk.2, ⟨hk.1.2.1, ⟨hk.1.2.2.1, hk.1.2.2.2⟩⟩⟩, hk.1.1⟩)) hg hat); have n2_ := Aside0.mk (blk_grown (g := gb308) (o := .cells #[.slice Ao20 t310.length co20, .int .i64 t313, .int .i64 t314, .int .i64 t315] 74 (0, 0)) (by exact BK308.out) hg (Kd.R_ne HO_7.out BK308.out (by decide))); have n3_ := Aside0.mk (blk_grown (g := gb316) (o := .cells #[.slice Ao20 t310.length co20, .int .i64 t313, .int .i64 t314, .int .i64 t315] 74 (0, 0)) (by exact BK316.out) hg (Kd.R_ne HO_7.out BK316.out (by decide))); have n4_ := Aside0.mk (blk_grown (g := gb320) (o := .cells #[.int .i64 a1, .int .i64 (-1), .int .i64 0] 71 (0, 0)) (by exact BK320.out) hg (Kd.R_ne HO_7.out BK320.out (by decide))); have n5_ := Aside0.mk (Kd.R_after (ok := (fun _ => True)) (by exact Kd.R_mono HO327.out (fun _ hk => ⟨trivial, hk⟩)) hg hat); have n6_ := Aside0.mk (hb); have n7_ := Aside0.mk (ho); clear HO_309000; clear HO_317000; clear BK308; clear BK316; clear BK320; clear HO327; clear HB; clear HO_7; have HO_309000 := n0_; have HO_317000 := n1_; have BK308 := n2_; have BK316 := n3_; have BK320 := n4_; have HO327 := n5_; have HB := n6_; have HO333 := n7_; clear n0_ n1_ n2_ n3_ n4_ n5_ n6_ n7_; clear ho hb hg hat))
                go_roundg kj37
                case measure => have := HJ2.out; have := HK2.out; have := HJ14.out; have := HJ37.out; omega
                case rel => exact ⟨(y325), (y331), (wrap64 (x9_2 + 1)), (t310), (t313), (t314), (t315), (.slice Ao20 t310.length co20), (by first | rfl | (simp; done) | (simp [*]; done)), H', ⟨by have := HJ2.out; have := HK2.out; have := HJ14.out; have := HJ37.out; omega⟩, ⟨by exact Kd.R_mono HO327.out (fun _ hk => hk.2)⟩, ⟨by exact HO333.out⟩, ⟨by exact Kd.V_mono HO_309000.out (fun _ hk => ⟨hk.1.1, ⟨hk.2, hk.1.2.1⟩⟩)⟩, ⟨by exact BK308.out⟩, ⟨by repeat (first | (with_reducible first | exact HB.out | apply below_alloc | apply pw_below_drewN | apply below_drew1 | refine below_set ?_ GE308.out | refine below_set ?_ GE316.out | refine below_set ?_ GE320.out) | exact HB.out)⟩⟩
               ·
                rw [if_neg c58] at H
                exact absurd H (by simp)
             ·
              rw [if_neg c49] at H
              exact absurd H (by simp)
            ·
             rw [if_neg c48] at H
             have c48b0 : ((rd l0 x9_2) == 10) = false := beq_eq_false_iff_ne.mpr c48
             have c48b1 : ((rd l0 x9_2) != 10) = true := bne_iff_ne.mpr c48
             by_cases c65 : x6_2.length < 17592186044416
             ·
              rw [if_pos c65] at H
              have LMc65 := Aside0.mk c65
              clear c65
              obtain ⟨y334, hy334⟩ : ∃ y_ : List Int, y_ = (x6_2 ++ [x321000_37]) := ⟨_, rfl⟩
              replace H : (if x321001_37 ≥ 0 then (if x7_2.length < 17592186044416 then (parquetryref11_Explicit.l0 kj37 l0 a1 y334 (x7_2 ++ [x321001_37]) (wrap64 (x9_2 + 1)) t310 t313 t314 t315) else (none)) else (if x7_2.length < 17592186044416 then (parquetryref11_Explicit.l0 kj37 l0 a1 y334 (x7_2 ++ [(rd l0 x9_2)]) (wrap64 (x9_2 + 1)) t310 t313 t314 t315) else (none))) = some (r1, r2) := by first | (rw [hy334]; with_reducible exact H) | (have H2_ := (Option.bind_some _ _).symm.trans H; rw [hy334]; with_reducible exact H2_) | (have H2_ := (Option.bind_some _ _).symm.trans H; with_reducible exact H2_) | with_reducible exact H | (rw [hy334]; exact H) | exact H
              have Ny334 := Aside0.mk hy334
              clear hy334
              by_cases c66 : x321001_37 ≥ 0
              ·
               rw [if_pos c66] at H
               have c66b0 : decide (0 ≤ x321001_37) = true := decide_eq_true c66
               clear c66
               by_cases c67 : x7_2.length < 17592186044416
               ·
                rw [if_pos c67] at H
                have LMc67 := Aside0.mk c67
                clear c67
                obtain ⟨y337, hy337⟩ : ∃ y_ : List Int, y_ = (x7_2 ++ [x321001_37]) := ⟨_, rfl⟩
                replace H : (parquetryref11_Explicit.l0 kj37 l0 a1 y334 y337 (wrap64 (x9_2 + 1)) t310 t313 t314 t315) = some (r1, r2) := by first | (rw [hy337]; with_reducible exact H) | (have H2_ := (Option.bind_some _ _).symm.trans H; rw [hy337]; with_reducible exact H2_) | (have H2_ := (Option.bind_some _ _).symm.trans H; with_reducible exact H2_) | with_reducible exact H | (rw [hy337]; exact H) | exact H
                have Ny337 := Aside0.mk hy337
                clear hy337
                have H' := Aside0.mk H
                clear H
                have hnb68 := NB320_308.out
                have hnc68 := NB308_320.out
                have hnb69 := NB320_316.out
                have hnc69 := NB316_320.out
                have hcz70_0 : wc.cell? ⟨gb320, 0, none⟩ = some (.int .i64 x321000_37) := (blk_cell BK320.out 0).trans rfl
                have hcz70_1 : wc.cell? ⟨gb320, 1, none⟩ = some (.int .i64 x321001_37) := (blk_cell BK320.out 1).trans rfl
                have hcz70_2 : wc.cell? ⟨gb320, 2, none⟩ = some (.int .i64 x321002_37) := (blk_cell BK320.out 2).trans rfl
                have hfz70_0 := blk_frozen BK320.out 0
                have hfz70_1 := blk_frozen BK320.out 1
                have hfz70_2 := blk_frozen BK320.out 2
                go_wp2_with (first | ((with_reducible refine gate_builtin (b := .append) (xs := #[.tmp 51, .tmp 54]) rfl ?_); at_builtin; refine Kd.R_append (Kd.int .i64) (w0 := w) w.heap.size rfl (.tmp 51) (.tmp 54) 22 3 (.int .i64 0) 8 rfl Try.underlying22 info3 rfl (by decide) (by omega) u6 x6_2 x321000_37 [.int .i64 x321000_37] (fun k_ => some k_ ≠ (u7 : Value).ownBlock) (fun _ => False) rfl rfl ?aP (fun _ hk => hk.elim) ?aF ?aO ?aB ?aS ?aL ?_; (case aP => exact rfl); (case aB => exact (by repeat (first | (with_reducible first | exact HB.out | apply below_alloc | apply pw_below_drewN | apply below_drew1 | refine below_set ?_ GE308.out | refine below_set ?_ GE316.out | refine below_set ?_ GE320.out) | exact HB.out))); (case aF => exact (fun k_ hk => Kd.fresh' (Kd.R_lt (by exact HO_7.out)) k_ hk)); (case aO => exact (by exact HO_6.out)); (case aS => exact (below_size (by repeat (first | (with_reducible first | exact HB.out | apply below_alloc | apply pw_below_drewN | apply below_drew1 | refine below_set ?_ GE308.out | refine below_set ?_ GE316.out | refine below_set ?_ GE320.out) | exact HB.out)))); (case aL => have := LMc65.out; omega); intro v335 w71 ho hb hg hat; rw [← Ny334.out] at ho; have n0_ := Aside0.mk (Kd.R_after (ok := (fun _ => True)) (by exact Kd.R_mono HO_7.out (fun _ hk => ⟨trivial, hk⟩)) hg hat); have n1_ := Aside0.mk (Kd.V_afterv (ok := (fun k_ => some k_ ≠ (u7 : Value).ownBlock ∧ k_ ≠ gb308 ∧ k_ ≠ gb316 ∧ k_ ≠ gb320)) (by exact Kd.V_mono HO_309000.out (fun _ hk => ⟨⟨hk.2.1, ⟨hk.2.2.1, ⟨hk.2.2.2.1, hk.2.2.2.2⟩⟩⟩, hk.1⟩)) hg hat); have n2_ := Aside0.mk (Kd.V_afterv (ok := (fun k_ => some k_ ≠ (u7 : Value).ownBlock ∧ k_ ≠ gb308 ∧ k_ ≠ gb316 ∧ k_ ≠ gb320)) (by exact Kd.V_mono HO_317000.out (fun _ hk => ⟨⟨hk.2.1, ⟨hk.2.2.1, ⟨hk.2.2.2.1, hk.2.2.2.2⟩⟩⟩, hk.1⟩)) hg hat); have n3_ := Aside0.mk (blk_grown (g := gb308) (o := .cells #[.slice Ao20 t310.length co20, .int .i64 t313, .int .i64 t314, .int .i64 t315] 74 (0, 0)) (by exact BK308.out) hg (Kd.R_ne HO_6.out BK308.out (by decide))); have n4_ := Aside0.mk (blk_grown (g := gb316) (o := .cells #[.slice Ao20 t310.length co20, .int .i64 t313, .int .i64 t314, .int .i64 t315] 74 (0, 0)) (by exact BK316.out) hg (Kd.R_ne HO_6.out BK316.out (by decide))); have n5_ := Aside0.mk (blk_grown (g := gb320) (o := .cells #[.int .i64 x321000_37, .int .i64 x321001_37, .int .i64 x321002_37] 71 (0, 0)) (by exact BK320.out) hg (Kd.R_ne HO_6.out BK320.out (by decide))); have n6_ := Aside0.mk (hb); have n7_ := Aside0.mk (ho); clear HO_7; clear HO_309000; clear HO_317000; clear BK308; clear BK316; clear BK320; clear HB; clear HO_6; have HO_7 := n0_; have HO_309000 := n1_; have HO_317000 := n2_; have BK308 := n3_; have BK316 := n4_; have BK320 := n5_; have HB := n6_; have HO336 := n7_; clear n0_ n1_ n2_ n3_ n4_ n5_ n6_ n7_; clear ho hb hg hat; have hcz72_0 : w71.cell? ⟨gb320, 0, none⟩ = some (.int .i64 x321000_37) := (blk_cell BK320.out 0).trans rfl; have hcz72_1 : w71.cell? ⟨gb320, 1, none⟩ = some (.int .i64 x321001_37) := (blk_cell BK320.out 1).trans rfl; have hcz72_2 : w71.cell? ⟨gb320, 2, none⟩ = some (.int .i64 x321002_37) := (blk_cell BK320.out 2).trans rfl; have hfz72_0 := blk_frozen BK320.out 0; have hfz72_1 := blk_frozen BK320.out 1; have hfz72_2 := blk_frozen BK320.out 2) | ((with_reducible refine gate_builtin (b := .append) (xs := #[.tmp 61, .tmp 63]) rfl ?_); at_builtin; refine Kd.R_append (Kd.int .i64) (w0 := w) w.heap.size rfl (.tmp 61) (.tmp 63) 22 3 (.int .i64 0) 8 rfl Try.underlying22 info3 rfl (by decide) (by omega) u7 x7_2 x321001_37 [.int .i64 x321001_37] (fun k_ => some k_ ≠ (v335 : Value).ownBlock) (fun _ => False) rfl rfl ?aP (fun _ hk => hk.elim) ?aF ?aO ?aB ?aS ?aL ?_; (case aP => exact rfl); (case aB => exact (by repeat (first | (with_reducible first | exact HB.out | apply below_alloc | apply pw_below_drewN | apply below_drew1 | refine below_set ?_ GE308.out | refine below_set ?_ GE316.out | refine below_set ?_ GE320.out) | exact HB.out))); (case aF => exact (fun k_ hk => Kd.fresh' (Kd.R_lt (by exact HO336.out)) k_ hk)); (case aO => exact (by exact Kd.R_mono HO_7.out (fun _ hk => hk.2))); (case aS => exact (below_size (by repeat (first | (with_reducible first | exact HB.out | apply below_alloc | apply pw_below_drewN | apply below_drew1 | refine below_set ?_ GE308.out | refine below_set ?_ GE316.out | refine below_set ?_ GE320.out) | exact HB.out)))); (case aL => have := LMc67.out; omega); intro v338 w73 ho hb hg hat; rw [← Ny337.out] at ho; have n0_ := Aside0.mk (Kd.V_afterv (ok := (fun k_ => some k_ ≠ (v335 : Value).ownBlock ∧ k_ ≠ gb308 ∧ k_ ≠ gb316 ∧ k_ ≠ gb320)) (by exact Kd.V_mono HO_309000.out (fun _ hk => ⟨⟨hk.2, ⟨hk.1.2.1, ⟨hk.1.2.2.1, hk.1.2.2.2⟩⟩⟩, hk.1.1⟩)) hg hat); have n1_ := Aside0.mk (Kd.V_afterv (ok := (fun k_ => some k_ ≠ (v335 : Value).ownBlock ∧ k_ ≠ gb308 ∧ k_ ≠ gb316 ∧ k_ ≠ gb320)) (by exact Kd.V_mono HO_317000.out (fun _ hk => ⟨⟨hk.2, ⟨hk.1.2.1, ⟨hk.1.2.2.1, hk.1.2.2.2⟩⟩⟩, hk.1.1⟩)) hg hat); have n2_ := Aside0.mk (blk_grown (g := gb308) (o := .cells #[.slice Ao20 t310.length co20, .int .i64 t313, .int .i64 t314, .int .i64 t315] 74 (0, 0)) (by exact BK308.out) hg (Kd.R_ne HO_7.out BK308.out (by decide))); have n3_ := Aside0.mk (blk_grown (g := gb316) (o := .cells #[.slice Ao20 t310.length co20, .int .i64 t313, .int .i64 t314, .int .i64 t315] 74 (0, 0)) (by exact BK316.out) hg (Kd.R_ne HO_7.out BK316.out (by decide))); have n4_ := Aside0.mk (blk_grown (g := gb320) (o := .cells #[.int .i64 x321000_37, .int .i64 x321001_37, .int .i64 x321002_37] 71 (0, 0)) (by exact BK320.out) hg (Kd.R_ne HO_7.out BK320.out (by decide))); have n5_ := Aside0.mk (Kd.R_after (ok := (fun _ => True)) (by exact Kd.R_mono HO336.out (fun _ hk => ⟨trivial, hk⟩)) hg hat); have n6_ := Aside0.mk (hb); have n7_ := Aside0.mk (ho); clear HO_309000; clear HO_317000; clear BK308; clear BK316; clear BK320; clear HO336; clear HB; clear HO_7; have HO_309000 := n0_; have HO_317000 := n1_; have BK308 := n2_; have BK316 := n3_; have BK320 := n4_; have HO336 := n5_; have HB := n6_; have HO339 := n7_; clear n0_ n1_ n2_ n3_ n4_ n5_ n6_ n7_; clear ho hb hg hat))
                go_roundg kj37
                case measure => have := HJ2.out; have := HK2.out; have := HJ14.out; have := HJ37.out; omega
                case rel => exact ⟨(y334), (y337), (wrap64 (x9_2 + 1)), (t310), (t313), (t314), (t315), (.slice Ao20 t310.length co20), (by first | rfl | (simp; done) | (simp [*]; done)), H', ⟨by have := HJ2.out; have := HK2.out; have := HJ14.out; have := HJ37.out; omega⟩, ⟨by exact Kd.R_mono HO336.out (fun _ hk => hk.2)⟩, ⟨by exact HO339.out⟩, ⟨by exact Kd.V_mono HO_309000.out (fun _ hk => ⟨hk.1.1, ⟨hk.2, hk.1.2.1⟩⟩)⟩, ⟨by exact BK308.out⟩, ⟨by repeat (first | (with_reducible first | exact HB.out | apply below_alloc | apply pw_below_drewN | apply below_drew1 | refine below_set ?_ GE308.out | refine below_set ?_ GE316.out | refine below_set ?_ GE320.out) | exact HB.out)⟩⟩
               ·
                rw [if_neg c67] at H
                exact absurd H (by simp)
              ·
               rw [if_neg c66] at H
               have c66b0 : decide (0 ≤ x321001_37) = false := decide_eq_false c66
               clear c66
               by_cases c74 : x7_2.length < 17592186044416
               ·
                rw [if_pos c74] at H
                have LMc74 := Aside0.mk c74
                clear c74
                obtain ⟨y340, hy340⟩ : ∃ y_ : List Int, y_ = (x7_2 ++ [(rd l0 x9_2)]) := ⟨_, rfl⟩
                replace H : (parquetryref11_Explicit.l0 kj37 l0 a1 y334 y340 (wrap64 (x9_2 + 1)) t310 t313 t314 t315) = some (r1, r2) := by first | (rw [hy340]; with_reducible exact H) | (have H2_ := (Option.bind_some _ _).symm.trans H; rw [hy340]; with_reducible exact H2_) | (have H2_ := (Option.bind_some _ _).symm.trans H; with_reducible exact H2_) | with_reducible exact H | (rw [hy340]; exact H) | exact H
                have Ny340 := Aside0.mk hy340
                clear hy340
                have H' := Aside0.mk H
                clear H
                have hnb75 := NB320_308.out
                have hnc75 := NB308_320.out
                have hnb76 := NB320_316.out
                have hnc76 := NB316_320.out
                have hcz77_0 : wc.cell? ⟨gb320, 0, none⟩ = some (.int .i64 x321000_37) := (blk_cell BK320.out 0).trans rfl
                have hcz77_1 : wc.cell? ⟨gb320, 1, none⟩ = some (.int .i64 x321001_37) := (blk_cell BK320.out 1).trans rfl
                have hcz77_2 : wc.cell? ⟨gb320, 2, none⟩ = some (.int .i64 x321002_37) := (blk_cell BK320.out 2).trans rfl
                have hfz77_0 := blk_frozen BK320.out 0
                have hfz77_1 := blk_frozen BK320.out 1
                have hfz77_2 := blk_frozen BK320.out 2
                go_wp2_with (first | ((with_reducible refine gate_builtin (b := .append) (xs := #[.tmp 51, .tmp 54]) rfl ?_); at_builtin; refine Kd.R_append (Kd.int .i64) (w0 := w) w.heap.size rfl (.tmp 51) (.tmp 54) 22 3 (.int .i64 0) 8 rfl Try.underlying22 info3 rfl (by decide) (by omega) u6 x6_2 x321000_37 [.int .i64 x321000_37] (fun k_ => some k_ ≠ (u7 : Value).ownBlock) (fun _ => False) rfl rfl ?aP (fun _ hk => hk.elim) ?aF ?aO ?aB ?aS ?aL ?_; (case aP => exact rfl); (case aB => exact (by repeat (first | (with_reducible first | exact HB.out | apply below_alloc | apply pw_below_drewN | apply below_drew1 | refine below_set ?_ GE308.out | refine below_set ?_ GE316.out | refine below_set ?_ GE320.out) | exact HB.out))); (case aF => exact (fun k_ hk => Kd.fresh' (Kd.R_lt (by exact HO_7.out)) k_ hk)); (case aO => exact (by exact HO_6.out)); (case aS => exact (below_size (by repeat (first | (with_reducible first | exact HB.out | apply below_alloc | apply pw_below_drewN | apply below_drew1 | refine below_set ?_ GE308.out | refine below_set ?_ GE316.out | refine below_set ?_ GE320.out) | exact HB.out)))); (case aL => have := LMc65.out; omega); intro v335 w78 ho hb hg hat; rw [← Ny334.out] at ho; have n0_ := Aside0.mk (Kd.R_after (ok := (fun _ => True)) (by exact Kd.R_mono HO_7.out (fun _ hk => ⟨trivial, hk⟩)) hg hat); have n1_ := Aside0.mk (Kd.V_afterv (ok := (fun k_ => some k_ ≠ (u7 : Value).ownBlock ∧ k_ ≠ gb308 ∧ k_ ≠ gb316 ∧ k_ ≠ gb320)) (by exact Kd.V_mono HO_309000.out (fun _ hk => ⟨⟨hk.2.1, ⟨hk.2.2.1, ⟨hk.2.2.2.1, hk.2.2.2.2⟩⟩⟩, hk.1⟩)) hg hat); have n2_ := Aside0.mk (Kd.V_afterv (ok := (fun k_ => some k_ ≠ (u7 : Value).ownBlock ∧ k_ ≠ gb308 ∧ k_ ≠ gb316 ∧ k_ ≠ gb320)) (by exact Kd.V_mono HO_317000.out (fun _ hk => ⟨⟨hk.2.1, ⟨hk.2.2.1, ⟨hk.2.2.2.1, hk.2.2.2.2⟩⟩⟩, hk.1⟩)) hg hat); have n3_ := Aside0.mk (blk_grown (g := gb308) (o := .cells #[.slice Ao20 t310.length co20, .int .i64 t313, .int .i64 t314, .int .i64 t315] 74 (0, 0)) (by exact BK308.out) hg (Kd.R_ne HO_6.out BK308.out (by decide))); have n4_ := Aside0.mk (blk_grown (g := gb316) (o := .cells #[.slice Ao20 t310.length co20, .int .i64 t313, .int .i64 t314, .int .i64 t315] 74 (0, 0)) (by exact BK316.out) hg (Kd.R_ne HO_6.out BK316.out (by decide))); have n5_ := Aside0.mk (blk_grown (g := gb320) (o := .cells #[.int .i64 x321000_37, .int .i64 x321001_37, .int .i64 x321002_37] 71 (0, 0)) (by exact BK320.out) hg (Kd.R_ne HO_6.out BK320.out (by decide))); have n6_ := Aside0.mk (hb); have n7_ := Aside0.mk (ho); clear HO_7; clear HO_309000; clear HO_317000; clear BK308; clear BK316; clear BK320; clear HB; clear HO_6; have HO_7 := n0_; have HO_309000 := n1_; have HO_317000 := n2_; have BK308 := n3_; have BK316 := n4_; have BK320 := n5_; have HB := n6_; have HO336 := n7_; clear n0_ n1_ n2_ n3_ n4_ n5_ n6_ n7_; clear ho hb hg hat; have hcz79_0 : w78.cell? ⟨gb320, 0, none⟩ = some (.int .i64 x321000_37) := (blk_cell BK320.out 0).trans rfl; have hcz79_1 : w78.cell? ⟨gb320, 1, none⟩ = some (.int .i64 x321001_37) := (blk_cell BK320.out 1).trans rfl; have hcz79_2 : w78.cell? ⟨gb320, 2, none⟩ = some (.int .i64 x321002_37) := (blk_cell BK320.out 2).trans rfl; have hfz79_0 := blk_frozen BK320.out 0; have hfz79_1 := blk_frozen BK320.out 1; have hfz79_2 := blk_frozen BK320.out 2) | ((with_reducible refine gate_builtin (b := .append) (xs := #[.tmp 61, .tmp 63]) rfl ?_); at_builtin; refine Kd.R_append (Kd.int .i64) (w0 := w) w.heap.size rfl (.tmp 61) (.tmp 63) 22 3 (.int .i64 0) 8 rfl Try.underlying22 info3 rfl (by decide) (by omega) u7 x7_2 (rd l0 x9_2) [.int .i64 (rd l0 x9_2)] (fun k_ => some k_ ≠ (v335 : Value).ownBlock) (fun _ => False) rfl rfl ?aP (fun _ hk => hk.elim) ?aF ?aO ?aB ?aS ?aL ?_; (case aP => exact rfl); (case aB => exact (by repeat (first | (with_reducible first | exact HB.out | apply below_alloc | apply pw_below_drewN | apply below_drew1 | refine below_set ?_ GE308.out | refine below_set ?_ GE316.out | refine below_set ?_ GE320.out) | exact HB.out))); (case aF => exact (fun k_ hk => Kd.fresh' (Kd.R_lt (by exact HO336.out)) k_ hk)); (case aO => exact (by exact Kd.R_mono HO_7.out (fun _ hk => hk.2))); (case aS => exact (below_size (by repeat (first | (with_reducible first | exact HB.out | apply below_alloc | apply pw_below_drewN | apply below_drew1 | refine below_set ?_ GE308.out | refine below_set ?_ GE316.out | refine below_set ?_ GE320.out) | exact HB.out)))); (case aL => have := LMc74.out; omega); intro v341 w80 ho hb hg hat; rw [← Ny340.out] at ho; have n0_ := Aside0.mk (Kd.V_afterv (ok := (fun k_ => some k_ ≠ (v335 : Value).ownBlock ∧ k_ ≠ gb308 ∧ k_ ≠ gb316 ∧ k_ ≠ gb320)) (by exact Kd.V_mono HO_309000.out (fun _ hk => ⟨⟨hk.2, ⟨hk.1.2.1, ⟨hk.1.2.2.1, hk.1.2.2.2⟩⟩⟩, hk.1.1⟩)) hg hat); have n1_ := Aside0.mk (Kd.V_afterv (ok := (fun k_ => some k_ ≠ (v335 : Value).ownBlock ∧ k_ ≠ gb308 ∧ k_ ≠ gb316 ∧ k_ ≠ gb320)) (by exact Kd.V_mono HO_317000.out (fun _ hk => ⟨⟨hk.2, ⟨hk.1.2.1, ⟨hk.1.2.2.1, hk.1.2.2.2⟩⟩⟩, hk.1.1⟩)) hg hat); have n2_ := Aside0.mk (blk_grown (g := gb308) (o := .cells #[.slice Ao20 t310.length co20, .int .i64 t313, .int .i64 t314, .int .i64 t315] 74 (0, 0)) (by exact BK308.out) hg (Kd.R_ne HO_7.out BK308.out (by decide))); have n3_ := Aside0.mk (blk_grown (g := gb316) (o := .cells #[.slice Ao20 t310.length co20, .int .i64 t313, .int .i64 t314, .int .i64 t315] 74 (0, 0)) (by exact BK316.out) hg (Kd.R_ne HO_7.out BK316.out (by decide))); have n4_ := Aside0.mk (blk_grown (g := gb320) (o := .cells #[.int .i64 x321000_37, .int .i64 x321001_37, .int .i64 x321002_37] 71 (0, 0)) (by exact BK320.out) hg (Kd.R_ne HO_7.out BK320.out (by decide))); have n5_ := Aside0.mk (Kd.R_after (ok := (fun _ => True)) (by exact Kd.R_mono HO336.out (fun _ hk => ⟨trivial, hk⟩)) hg hat); have n6_ := Aside0.mk (hb); have n7_ := Aside0.mk (ho); clear HO_309000; clear HO_317000; clear BK308; clear BK316; clear BK320; clear HO336; clear HB; clear HO_7; have HO_309000 := n0_; have HO_317000 := n1_; have BK308 := n2_; have BK316 := n3_; have BK320 := n4_; have HO336 := n5_; have HB := n6_; have HO342 := n7_; clear n0_ n1_ n2_ n3_ n4_ n5_ n6_ n7_; clear ho hb hg hat))
                go_roundg kj37
                case measure => have := HJ2.out; have := HK2.out; have := HJ14.out; have := HJ37.out; omega
                case rel => exact ⟨(y334), (y340), (wrap64 (x9_2 + 1)), (t310), (t313), (t314), (t315), (.slice Ao20 t310.length co20), (by first | rfl | (simp; done) | (simp [*]; done)), H', ⟨by have := HJ2.out; have := HK2.out; have := HJ14.out; have := HJ37.out; omega⟩, ⟨by exact Kd.R_mono HO336.out (fun _ hk => hk.2)⟩, ⟨by exact HO342.out⟩, ⟨by exact Kd.V_mono HO_309000.out (fun _ hk => ⟨hk.1.1, ⟨hk.2, hk.1.2.1⟩⟩)⟩, ⟨by exact BK308.out⟩, ⟨by repeat (first | (with_reducible first | exact HB.out | apply below_alloc | apply pw_below_drewN | apply below_drew1 | refine below_set ?_ GE308.out | refine below_set ?_ GE316.out | refine below_set ?_ GE320.out) | exact HB.out)⟩⟩
               ·
                rw [if_neg c74] at H
                exact absurd H (by simp)
             ·
              rw [if_neg c65] at H
              exact absurd H (by simp)
       ·
        rw [if_neg c12] at H
        exact absurd H (by simp)
      ·
       rw [if_neg c11] at H
       have c11b0 : decide (x9_2 < (l0.length : Int)) = false := decide_eq_false c11
       clear c11
       simp only [Option.some.injEq, Prod.mk.injEq] at H
       obtain ⟨rfl, rfl⟩ := H
       go_wp2
       go_ret2
       exact ⟨_, _, by first | rfl | (simp [errW_none, errW_some] <;> rfl) | (simp [*, errW_none, errW_some] <;> rfl), by exact HO_6.out, by exact HO_7.out, by repeat (first | (with_reducible first | exact HB.out | apply below_alloc | apply pw_below_drewN | apply below_drew1 | refine below_set ?_ GE308.out) | exact HB.out)⟩

/-! ### parquetryref12_Near: function 26 -/
mutual
def parquetryref12_Near.l0 : Nat → List Int → Int → Int → Option (Int)
 | 0, _, _, _ => none
 | k + 1, x0, x2, x7 => if x7 ≥ 0 then (parquetryref12_Near.j1 k x0 x2 x7 (decide (x7 < (x0.length : Int)))) else (parquetryref12_Near.j1 k x0 x2 x7 false)
def parquetryref12_Near.j1 : Nat → List Int → Int → Int → Bool → Option (Int)
 | 0, _, _, _, _ => none
 | k + 1, x0, x2, x7, x16 => if x16 = true then (if 0 ≤ x7 then (if x7 < (x0.length : Int) then (if (rd x0 x7) ≥ 0 then (some x7) else (parquetryref12_Near.l0 k x0 x2 (wrap64 (x7 + x2)))) else (none)) else (none)) else (some (-1))
end
def parquetryref12_Near.f (k : Nat) (l0 : List Int) (a1 : Int) (a2 : Int) : Option (Int) := parquetryref12_Near.l0 k l0 a2 a1
theorem parquetryref12_Near.mono_l : ∀ k, (∀ y0 y1 y2, LeO (parquetryref12_Near.l0 k y0 y1 y2) (parquetryref12_Near.l0 (k + 1) y0 y1 y2)) ∧ (∀ y0 y1 y2 y3, LeO (parquetryref12_Near.j1 k y0 y1 y2 y3) (parquetryref12_Near.j1 (k + 1) y0 y1 y2 y3))
 | 0 => ⟨fun _ _ _ r h => by simp [parquetryref12_Near.l0] at h, fun _ _ _ _ r h => by simp [parquetryref12_Near.j1] at h⟩
 | k + 1 => by
  obtain ⟨ih0, ih1⟩ := parquetryref12_Near.mono_l k
  refine ⟨?_, ?_⟩
  ·
   intro y0 y1 y2
   unfold parquetryref12_Near.l0
   repeat' first
   | (with_reducible exact ih0 _ _ _)
   | (with_reducible exact ih1 _ _ _ _)
   | (with_reducible exact LeO.refl _)
   | (with_reducible exact LeO.none _)
   | (with_reducible refine LeO.ite ?_ ?_)
   | (with_reducible refine LeO.bind ?_ (fun _ => ?_))
   | exact ih0 _ _ _
   | exact ih1 _ _ _ _
   | exact LeO.none _
   | refine LeO.ite ?_ ?_
   | refine LeO.bind ?_ (fun _ => ?_)
  ·
   intro y0 y1 y2 y3
   unfold parquetryref12_Near.j1
   repeat' first
   | (with_reducible exact ih0 _ _ _)
   | (with_reducible exact ih1 _ _ _ _)
   | (with_reducible exact LeO.refl _)
   | (with_reducible exact LeO.none _)
   | (with_reducible refine LeO.ite ?_ ?_)
   | (with_reducible refine LeO.bind ?_ (fun _ => ?_))
   | exact ih0 _ _ _
   | exact ih1 _ _ _ _
   | exact LeO.none _
   | refine LeO.ite ?_ ?_
   | refine LeO.bind ?_ (fun _ => ?_)
theorem parquetryref12_Near.mono : ∀ a0 a1 a2 k, LeO (parquetryref12_Near.f k a0 a1 a2) (parquetryref12_Near.f (k + 1) a0 a1 a2) := by
 intro a0 a1 a2 k
 obtain ⟨ih0, ih1⟩ := parquetryref12_Near.mono_l k
 unfold parquetryref12_Near.f
 repeat' first
   | (with_reducible exact ih0 _ _ _)
   | (with_reducible exact ih1 _ _ _ _)
   | (with_reducible exact LeO.refl _)
   | (with_reducible exact LeO.none _)
   | (with_reducible refine LeO.ite ?_ ?_)
   | (with_reducible refine LeO.bind ?_ (fun _ => ?_))
   | exact ih0 _ _ _
   | exact ih1 _ _ _ _
   | exact LeO.none _
   | refine LeO.ite ?_ ?_
   | refine LeO.bind ?_ (fun _ => ?_)
set_option maxHeartbeats 8000000 in
set_option maxRecDepth 100000 in
theorem parquetryref12_Near.calls (k : Nat) (A0 : Option Addr) (c0 : Nat) (l0 : List Int) (a1 : Int) (a2 : Int) (r : Int) (w : World) (hr0 : Kd.C (Kd.int .i64) w A0 l0.length l0) (hc0 : l0.length ≤ c0) (h : parquetryref12_Near.f k l0 a1 a2 = some r) :
  Calls Try.prog 26 #[.slice A0 l0.length c0, .int .i64 a1, .int .i64 a2] w fun e w' => e = .returned (.int .i64 r) ∧ Drawn0 w w' := by
 have HR0 := Aside0.mk hr0
 have HC0 := Aside0.mk hc0
 clear hr0 hc0
 have H : (parquetryref12_Near.l0 k l0 a2 a1) = some r := h
 clear h
 have H' := Aside0.mk H
 clear H
 go_enter Try.func26, Try.ntmps26
 go_wp2
 go_loopg [7] k (fun kq v7 w' => ∃ (x7_1 : Int), v7 = .int .i64 x7_1 ∧ Aside0 (parquetryref12_Near.l0 kq l0 a2 x7_1 = some r) ∧ Aside0 (kq ≤ k) ∧ Drawn0 w w')
 case atStart => exact ⟨(a1), (by first | rfl | (simp; done) | (simp [*]; done)), H', ⟨Nat.le_refl _⟩, by repeat (first | exact Drawn0.refl _ | apply Drawn0.step)⟩
 case round =>
  clear H'
  try clear c2
  try clear p2
  obtain ⟨x7_1, rfl, HA, HK1, ⟨m1, rfl⟩⟩ := hrel
  cases gk with
  | zero => exact absurd HA.out (by simp [parquetryref12_Near.l0])
  | succ k1 =>
   have H := HA.out
   clear HA
   simp only [parquetryref12_Near.l0] at H
   have HC4 := Aside0.mk H
   clear H
   go_upto_region 2 with (fail)
   go_cut [16] (fun v16 wc => ∃ (kq : Nat) (x16_3 : Bool), v16 = .bool x16_3 ∧ Aside0 (parquetryref12_Near.j1 kq l0 a2 x7_1 x16_3 = some r) ∧ Aside0 (kq ≤ k1) ∧ Drawn0 w wc)
   case first =>
    have H := HC4.out
    clear HC4
    by_cases c5 : x7_1 ≥ 0
    ·
     rw [if_pos c5] at H
     have c5b0 : decide (0 ≤ x7_1) = true := decide_eq_true c5
     clear c5
     (first | rw [c5b0] | (simp only [i64_w, i32_w]; rw [c5b0]) | skip)
     have H' := Aside0.mk H
     clear H
     go_wp2
     go_meet
     case rel => exact ⟨_, (decide (x7_1 < (l0.length : Int))), (by first | rfl | (simp; done) | (simp [*]; done)), H', ⟨by have := HK1.out; first | omega | exact Nat.le_refl _⟩, by repeat (first | exact Drawn0.refl _ | apply Drawn0.step)⟩
    ·
     rw [if_neg c5] at H
     have c5b0 : decide (0 ≤ x7_1) = false := decide_eq_false c5
     clear c5
     (first | rw [c5b0] | (simp only [i64_w, i32_w]; rw [c5b0]) | skip)
     have H' := Aside0.mk H
     clear H
     go_wp2
     go_meet
     case rel => exact ⟨_, (false), (by first | rfl | (simp; done) | (simp [*]; done)), H', ⟨by have := HK1.out; first | omega | exact Nat.le_refl _⟩, by repeat (first | exact Drawn0.refl _ | apply Drawn0.step)⟩
   case rest =>
    clear HC4
    try clear c5
    try clear c5b0
    obtain ⟨kq, x16_3, rfl, HA, HJ3, ⟨mc3, rfl⟩⟩ := hcut
    cases kq with
    | zero => exact absurd HA.out (by simp [parquetryref12_Near.j1])
    | succ kj3 =>
     have H := HA.out
     clear HA
     simp only [parquetryref12_Near.j1] at H
     by_cases c6 : x16_3 = true
     ·
      subst c6
      have H1 : (if 0 ≤ x7_1 then (if x7_1 < (l0.length : Int) then (if (rd l0 x7_1) ≥ 0 then (some x7_1) else (parquetryref12_Near.l0 kj3 l0 a2 (wrap64 (x7_1 + a2)))) else (none)) else (none)) = some r := by rw [if_pos rfl] at H; exact H
      clear H
      have H := H1
      clear H1
      by_cases c7 : 0 ≤ x7_1
      ·
       rw [if_pos c7] at H
       have c7b0 : decide (0 ≤ x7_1) = true := decide_eq_true c7
       clear c7
       by_cases c8 : x7_1 < (l0.length : Int)
       ·
        rw [if_pos c8] at H
        have c8b0 : decide (x7_1 < (l0.length : Int)) = true := decide_eq_true c8
        clear c8
        by_cases c9 : (rd l0 x7_1) ≥ 0
        ·
         rw [if_pos c9] at H
         have c9b0 : decide (0 ≤ (rd l0 x7_1)) = true := decide_eq_true c9
         clear c9
         obtain rfl := Option.some.inj H
         have p343 : 0 ≤ (x7_1 : Int) := of_decide_eq_true (by first | (with_reducible assumption) | assumption)
         have q343 : x7_1 < (l0.length : Int) := of_decide_eq_true (by first | (with_reducible assumption) | assumption)
         obtain ⟨ad343, e343, hx343_0⟩ := Kd.at_int HR0.out x7_1 p343 q343
         cases e343
         replace p343 := eq_true p343
         replace q343 := eq_true q343
         go_wp2
         go_ret
         exact ⟨by first | rfl | (simp; done) | (simp [*]; done), by repeat (first | exact Drawn0.refl _ | apply Drawn0.step)⟩
        ·
         rw [if_neg c9] at H
         have c9b0 : decide (0 ≤ (rd l0 x7_1)) = false := decide_eq_false c9
         clear c9
         have H' := Aside0.mk H
         clear H
         have p343 : 0 ≤ (x7_1 : Int) := of_decide_eq_true (by first | (with_reducible assumption) | assumption)
         have q343 : x7_1 < (l0.length : Int) := of_decide_eq_true (by first | (with_reducible assumption) | assumption)
         obtain ⟨ad343, e343, hx343_0⟩ := Kd.at_int HR0.out x7_1 p343 q343
         cases e343
         replace p343 := eq_true p343
         replace q343 := eq_true q343
         go_wp2
         go_roundg kj3
         case measure => have := HK1.out; have := HJ3.out; omega
         case rel => exact ⟨(wrap64 (x7_1 + a2)), (by first | rfl | (simp; done) | (simp [*]; done)), H', ⟨by have := HK1.out; have := HJ3.out; omega⟩, by repeat (first | exact Drawn0.refl _ | apply Drawn0.step)⟩
       ·
        rw [if_neg c8] at H
        exact absurd H (by simp)
      ·
       rw [if_neg c7] at H
       exact absurd H (by simp)
     ·
      replace c6 := Bool.eq_false_iff.mpr c6
      subst c6
      have H1 : (some (-1)) = some r := by rw [if_neg (show ¬ (false = true) by decide)] at H; exact H
      clear H
      have H := H1
      clear H1
      obtain rfl := Option.some.inj H
      go_wp2
      go_ret
      exact ⟨by first | rfl | (simp; done) | (simp [*]; done), by repeat (first | exact Drawn0.refl _ | apply Drawn0.step)⟩

/-! ### parquetryref12_Begins: function 44 -/
def parquetryref12_Begins.f (k : Nat) (l0 : List Int) (a1 : Int) : Option (Bool) := (parquetryref12_Near.f k l0 (wrap64 (a1 - 1)) (-1)).bind fun t344 => (if t344 < 0 then (some true) else (if 0 ≤ t344 then (if t344 < (l0.length : Int) then (if 0 ≤ a1 then (if a1 < (l0.length : Int) then (some ((rd l0 t344) != (rd l0 a1))) else (none)) else (none)) else (none)) else (none)))
theorem parquetryref12_Begins.mono : ∀ a0 a1 k, LeO (parquetryref12_Begins.f k a0 a1) (parquetryref12_Begins.f (k + 1) a0 a1) := by
 intro a0 a1 k
 unfold parquetryref12_Begins.f
 repeat' first
   | (with_reducible exact parquetryref12_Near.mono _ _ _ _)
   | (with_reducible exact LeO.refl _)
   | (with_reducible exact LeO.none _)
   | (with_reducible refine LeO.ite ?_ ?_)
   | (with_reducible refine LeO.bind ?_ (fun _ => ?_))
   | exact parquetryref12_Near.mono _ _ _ _
   | exact LeO.none _
   | refine LeO.ite ?_ ?_
   | refine LeO.bind ?_ (fun _ => ?_)
set_option maxHeartbeats 8000000 in
set_option maxRecDepth 100000 in
theorem parquetryref12_Begins.calls (k : Nat) (A0 : Option Addr) (c0 : Nat) (l0 : List Int) (a1 : Int) (r : Bool) (w : World) (hr0 : Kd.C (Kd.int .i64) w A0 l0.length l0) (hc0 : l0.length ≤ c0) (h : parquetryref12_Begins.f k l0 a1 = some r) :
  Calls Try.prog 44 #[.slice A0 l0.length c0, .int .i64 a1] w fun e w' => e = .returned (.bool r) ∧ Drawn0 w w' := by
 have HR0 := Aside0.mk hr0
 have HC0 := Aside0.mk hc0
 clear hr0 hc0
 have H : ((parquetryref12_Near.f k l0 (wrap64 (a1 - 1)) (-1)).bind fun t344 => (if t344 < 0 then (some true) else (if 0 ≤ t344 then (if t344 < (l0.length : Int) then (if 0 ≤ a1 then (if a1 < (l0.length : Int) then (some ((rd l0 t344) != (rd l0 a1))) else (none)) else (none)) else (none)) else (none)))) = some r := h
 clear h
 replace H := Option.bind_eq_some_iff.mp H
 obtain ⟨t344, A30, H⟩ := H
 replace H : (if t344 < 0 then (some true) else (if 0 ≤ t344 then (if t344 < (l0.length : Int) then (if 0 ≤ a1 then (if a1 < (l0.length : Int) then (some ((rd l0 t344) != (rd l0 a1))) else (none)) else (none)) else (none)) else (none))) = some r := H
 have A3 := Aside0.mk A30
 clear A30
 by_cases c4 : t344 < 0
 ·
  rw [if_pos c4] at H
  have c4b0 : decide (t344 < 0) = true := decide_eq_true c4
  clear c4
  obtain rfl := Option.some.inj H
  go_enter Try.func44, Try.ntmps44
  go_wp2_with (first | (go_at_call 26; (with_reducible refine (parquetryref12_Near.calls k _ _ l0 (wrap64 (a1 - 1)) (-1) t344 _ ?side1 ?side2 A3.out).mono ?_); (case side1 => repeat (first | exact HR0.out | (with_reducible refine Kd.C_alloc ?_ _) | (with_reducible refine Kd.C_drewN ?_ _) | (with_reducible refine Kd.C_drew ?_))); (case side2 => exact HC0.out); rintro e w' ⟨rfl, ⟨nd, rfl⟩⟩; (try first | exact ⟨rfl, _, World.drewN_drewN _ _ _⟩ | exact ⟨rfl, _, Eq.trans (World.drewN_drewN _ _ _) (congrArg (World.drewN _) (Nat.add_assoc _ _ _))⟩)))
  repeat (go_quiet (first | (go_at_call 26; (with_reducible refine (parquetryref12_Near.calls k _ _ l0 (wrap64 (a1 - 1)) (-1) t344 _ ?side1 ?side2 A3.out).mono ?_); (case side1 => repeat (first | exact HR0.out | (with_reducible refine Kd.C_alloc ?_ _) | (with_reducible refine Kd.C_drewN ?_ _) | (with_reducible refine Kd.C_drew ?_))); (case side2 => exact HC0.out); rintro e w' ⟨rfl, ⟨nd, rfl⟩⟩; (try first | exact ⟨rfl, _, World.drewN_drewN _ _ _⟩ | exact ⟨rfl, _, Eq.trans (World.drewN_drewN _ _ _) (congrArg (World.drewN _) (Nat.add_assoc _ _ _))⟩))); try go_wp2_with (first | (go_at_call 26; (with_reducible refine (parquetryref12_Near.calls k _ _ l0 (wrap64 (a1 - 1)) (-1) t344 _ ?side1 ?side2 A3.out).mono ?_); (case side1 => repeat (first | exact HR0.out | (with_reducible refine Kd.C_alloc ?_ _) | (with_reducible refine Kd.C_drewN ?_ _) | (with_reducible refine Kd.C_drew ?_))); (case side2 => exact HC0.out); rintro e w' ⟨rfl, ⟨nd, rfl⟩⟩; (try first | exact ⟨rfl, _, World.drewN_drewN _ _ _⟩ | exact ⟨rfl, _, Eq.trans (World.drewN_drewN _ _ _) (congrArg (World.drewN _) (Nat.add_assoc _ _ _))⟩))))
  go_ret
  exact ⟨by first | rfl | (simp; done) | (simp [*]; done), by repeat (first | exact Drawn0.refl _ | apply Drawn0.step)⟩
 ·
  rw [if_neg c4] at H
  have c4b0 : decide (t344 < 0) = false := decide_eq_false c4
  clear c4
  by_cases c5 : 0 ≤ t344
  ·
   rw [if_pos c5] at H
   have c5b0 : decide (0 ≤ t344) = true := decide_eq_true c5
   clear c5
   by_cases c6 : t344 < (l0.length : Int)
   ·
    rw [if_pos c6] at H
    have c6b0 : decide (t344 < (l0.length : Int)) = true := decide_eq_true c6
    clear c6
    by_cases c7 : 0 ≤ a1
    ·
     rw [if_pos c7] at H
     have c7b0 : decide (0 ≤ a1) = true := decide_eq_true c7
     clear c7
     by_cases c8 : a1 < (l0.length : Int)
     ·
      rw [if_pos c8] at H
      have c8b0 : decide (a1 < (l0.length : Int)) = true := decide_eq_true c8
      clear c8
      obtain rfl := Option.some.inj H
      go_enter Try.func44, Try.ntmps44
      go_wp2_with (first | (go_at_call 26; (with_reducible refine (parquetryref12_Near.calls k _ _ l0 (wrap64 (a1 - 1)) (-1) t344 _ ?side1 ?side2 A3.out).mono ?_); (case side1 => repeat (first | exact HR0.out | (with_reducible refine Kd.C_alloc ?_ _) | (with_reducible refine Kd.C_drewN ?_ _) | (with_reducible refine Kd.C_drew ?_))); (case side2 => exact HC0.out); rintro e w' ⟨rfl, ⟨nd, rfl⟩⟩; (try first | exact ⟨rfl, _, World.drewN_drewN _ _ _⟩ | exact ⟨rfl, _, Eq.trans (World.drewN_drewN _ _ _) (congrArg (World.drewN _) (Nat.add_assoc _ _ _))⟩); have p345 : 0 ≤ (t344 : Int) := of_decide_eq_true (by first | (with_reducible assumption) | assumption); have q345 : t344 < (l0.length : Int) := of_decide_eq_true (by first | (with_reducible assumption) | assumption); obtain ⟨ad345, e345, hx345_0⟩ := Kd.at_int HR0.out t344 p345 q345; cases e345; replace p345 := eq_true p345; replace q345 := eq_true q345; have p346 : 0 ≤ (a1 : Int) := of_decide_eq_true (by first | (with_reducible assumption) | assumption); have q346 : a1 < (l0.length : Int) := of_decide_eq_true (by first | (with_reducible assumption) | assumption); obtain ⟨ad346, e346, hx346_0⟩ := Kd.at_int HR0.out a1 p346 q346; obtain rfl : ad345 = ad346 := (by injection e346); replace p346 := eq_true p346; replace q346 := eq_true q346))
      repeat (go_quiet (first | (go_at_call 26; (with_reducible refine (parquetryref12_Near.calls k _ _ l0 (wrap64 (a1 - 1)) (-1) t344 _ ?side1 ?side2 A3.out).mono ?_); (case side1 => repeat (first | exact HR0.out | (with_reducible refine Kd.C_alloc ?_ _) | (with_reducible refine Kd.C_drewN ?_ _) | (with_reducible refine Kd.C_drew ?_))); (case side2 => exact HC0.out); rintro e w' ⟨rfl, ⟨nd, rfl⟩⟩; (try first | exact ⟨rfl, _, World.drewN_drewN _ _ _⟩ | exact ⟨rfl, _, Eq.trans (World.drewN_drewN _ _ _) (congrArg (World.drewN _) (Nat.add_assoc _ _ _))⟩); have p345 : 0 ≤ (t344 : Int) := of_decide_eq_true (by first | (with_reducible assumption) | assumption); have q345 : t344 < (l0.length : Int) := of_decide_eq_true (by first | (with_reducible assumption) | assumption); obtain ⟨ad345, e345, hx345_0⟩ := Kd.at_int HR0.out t344 p345 q345; cases e345; replace p345 := eq_true p345; replace q345 := eq_true q345; have p346 : 0 ≤ (a1 : Int) := of_decide_eq_true (by first | (with_reducible assumption) | assumption); have q346 : a1 < (l0.length : Int) := of_decide_eq_true (by first | (with_reducible assumption) | assumption); obtain ⟨ad346, e346, hx346_0⟩ := Kd.at_int HR0.out a1 p346 q346; obtain rfl : ad345 = ad346 := (by injection e346); replace p346 := eq_true p346; replace q346 := eq_true q346)); try go_wp2_with (first | (go_at_call 26; (with_reducible refine (parquetryref12_Near.calls k _ _ l0 (wrap64 (a1 - 1)) (-1) t344 _ ?side1 ?side2 A3.out).mono ?_); (case side1 => repeat (first | exact HR0.out | (with_reducible refine Kd.C_alloc ?_ _) | (with_reducible refine Kd.C_drewN ?_ _) | (with_reducible refine Kd.C_drew ?_))); (case side2 => exact HC0.out); rintro e w' ⟨rfl, ⟨nd, rfl⟩⟩; (try first | exact ⟨rfl, _, World.drewN_drewN _ _ _⟩ | exact ⟨rfl, _, Eq.trans (World.drewN_drewN _ _ _) (congrArg (World.drewN _) (Nat.add_assoc _ _ _))⟩); have p345 : 0 ≤ (t344 : Int) := of_decide_eq_true (by first | (with_reducible assumption) | assumption); have q345 : t344 < (l0.length : Int) := of_decide_eq_true (by first | (with_reducible assumption) | assumption); obtain ⟨ad345, e345, hx345_0⟩ := Kd.at_int HR0.out t344 p345 q345; cases e345; replace p345 := eq_true p345; replace q345 := eq_true q345; have p346 : 0 ≤ (a1 : Int) := of_decide_eq_true (by first | (with_reducible assumption) | assumption); have q346 : a1 < (l0.length : Int) := of_decide_eq_true (by first | (with_reducible assumption) | assumption); obtain ⟨ad346, e346, hx346_0⟩ := Kd.at_int HR0.out a1 p346 q346; obtain rfl : ad345 = ad346 := (by injection e346); replace p346 := eq_true p346; replace q346 := eq_true q346)))
      go_ret
      exact ⟨by first | rfl | (simp; done) | (simp [*]; done), by repeat (first | exact Drawn0.refl _ | apply Drawn0.step)⟩
     ·
      rw [if_neg c8] at H
      exact absurd H (by simp)
    ·
     rw [if_neg c7] at H
     exact absurd H (by simp)
   ·
    rw [if_neg c6] at H
    exact absurd H (by simp)
  ·
   rw [if_neg c5] at H
   exact absurd H (by simp)

end Go.Proofs.Ytdieknpikdepgaa.PC12
