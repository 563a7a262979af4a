/- For the laws of the group C18: the Lean functions that the Go functions compute, and proofs that they do. Written by wip/hprint.py of this repo over the kit's printer; nothing here is trusted: Lean checks it. -/
import Derived.Test.YtieffcjbbhigbaaPC18x0
import Derived.Test.YtieffcjbbhigbaaPC18x2
import Derived.Test.YtieffcjbbhigbaaPC18x8
import Derived.Test.YtieffcjbbhigbaaPC18x10
namespace Go.Proofs.Ytieffcjbbhigbaa.PC18
open Go.RowKit Go.Proofs.YtieffcjbbhigbaaW.PrintWords Go.Proofs.YtieffcjbbhigbaaW.PrintLast Go.Proofs.YtieffcjbbhigbaaW.PrintMore
attribute [local go_sem] max2_int min2_int max_two min_two max_three min_three max_four min_four   -- for this text's walks alone
set_option linter.unusedVariables false
set_option linter.unusedSimpArgs false

/-! ### parquetrylaw18_ClipFits: function 4: by hand -/
theorem parquetrylaw18_ClipFits.eqA (d : Nat) (w : World) (x0 y0 : Int) (x1 y1 : Int) (x2 y2 : Int) (x3 y3 : Int) (x4 y4 : Int) :
    (Op.equalIn (d + 2) 29 (.agg #[.int .i64 x0, .int .i64 x1, .int .i64 x2, .int .i64 x3, .int .i64 x4]) (.agg #[.int .i64 y0, .int .i64 y1, .int .i64 y2, .int .i64 y3, .int .i64 y4])).run Try.prog w = .ok (x0 == y0 && (x1 == y1 && (x2 == y2 && (x3 == y3 && (x4 == y4))))) w := by
  refine eqA_of Try.underlying29 (by kernel_rfl) ?_
  refine eqf_cons (by rfl) (by go_simp; rfl) (by go_simp; rfl) (by go_simp) ?_
  refine eqf_cons (by rfl) (by go_simp; rfl) (by go_simp; rfl) (by go_simp) ?_
  refine eqf_cons (by rfl) (by go_simp; rfl) (by go_simp; rfl) (by go_simp) ?_
  refine eqf_cons (by rfl) (by go_simp; rfl) (by go_simp; rfl) (by go_simp) ?_
  exact eqf_last (by rfl) (by go_simp; rfl) (by go_simp; rfl) (by go_simp)
attribute [local go_sem high] parquetrylaw18_ClipFits.eqA
mutual
def parquetrylaw18_ClipFits.j0 : Nat → List (S39) → Int → Bool → Int → Int → Int → Int → Int → Option (Bool)
  | 0, _, _, _, _, _, _, _, _ => none
  | k + 1, x0, x2, x32, x246000, x246001, x246002, x246003, x246004 => if x32 = true then ((parquetrylaw18_awake.f k).bind fun t247 => (some t247)) else ((clip_Clip.f k x0 x246000 x246001 x246002 x246003 x246004 x2).bind fun bt248 => ((clip_Cut.f k x0 x246000 x246001 x246002 x246003 x246004 x2).bind fun bt255 => (if bt248.2.2.2.2.2 = 0 then (if bt255.2.2.2.2.2 = 0 then (if bt255.2.2.2.2.1 = 1 then (if bt248.2.2.2.2.1 = 1 then (parquetrylaw18_ClipFits.j1 k x0 x2 (!(bt248.1 == bt255.1) || (!(bt248.2.1 == bt255.2.1) || (!(bt248.2.2.1 == bt255.2.2.1) || (!(bt248.2.2.2.1 == bt255.2.2.2.1) || (!(bt248.2.2.2.2.1 == bt255.2.2.2.2.1)))))) x246000 x246001 x246002 x246003 x246004 bt248.1 bt248.2.1 bt248.2.2.1 bt248.2.2.2.1 bt248.2.2.2.2.1 bt255.1 bt255.2.1 bt255.2.2.1 bt255.2.2.2.1 bt255.2.2.2.2.1) else (parquetrylaw18_ClipFits.j1 k x0 x2 false x246000 x246001 x246002 x246003 x246004 bt248.1 bt248.2.1 bt248.2.2.1 bt248.2.2.2.1 bt248.2.2.2.2.1 bt255.1 bt255.2.1 bt255.2.2.1 bt255.2.2.2.1 bt255.2.2.2.2.1)) else (none)) else (none)) else (none))))
def parquetrylaw18_ClipFits.j1 : Nat → List (S39) → Int → Bool → Int → Int → Int → Int → Int → Int → Int → Int → Int → Int → Int → Int → Int → Int → Int → Option (Bool)
  | 0, _, _, _, _, _, _, _, _, _, _, _, _, _, _, _, _, _, _ => none
  | k + 1, x0, x2, x68, x246000, x246001, x246002, x246003, x246004, x255000, x255001, x255002, x255003, x255004, x262000, x262001, x262002, x262003, x262004 => if x68 = true then (none) else (parquetrylaw18_ClipFits.l0 k x0 x2 (([(⟨x255000, x255001, x255002, x255003, x255004⟩ : S29), (⟨x262000, x262001, x262002, x262003, x262004⟩ : S29)] : List (S29))) 0 x246000 x246001 x246002 x246003 x246004 x255000 x255001 x255002 x255003 x255004)
def parquetrylaw18_ClipFits.l0 : Nat → List (S39) → Int → List (S29) → Int → Int → Int → Int → Int → Int → Int → Int → Int → Int → Int → Option (Bool)
  | 0, _, _, _, _, _, _, _, _, _, _, _, _, _, _ => none
  | k + 1, x0, x2, x11, x12, x246000, x246001, x246002, x246003, x246004, x255000, x255001, x255002, x255003, x255004 => if x12 < (x11.length : Int) then (if 0 ≤ x12 then (if ((rd_T29 x11 x12).f0) = x246000 then (if ((rd_T29 x11 x12).f1) = x246001 then (if ((rd_T29 x11 x12).f3) = x246003 then (if ((rd_T29 x11 x12).f2) < ((rd_T29 x11 x12).f0) then (none) else (if ((rd_T29 x11 x12).f2) > x246002 then (none) else ((clip_Wide.f k x0 ((rd_T29 x11 x12).f0) ((rd_T29 x11 x12).f1) ((rd_T29 x11 x12).f2) ((rd_T29 x11 x12).f3) ((rd_T29 x11 x12).f4)).bind fun t276 => (parquetrylaw18_ClipFits.j3 k x0 x2 x11 x12 (decide (t276 > x2)) x246000 x246001 x246002 x246003 x246004 x255000 x255001 x255002 x255003 x255004 ((rd_T29 x11 x12).f0) ((rd_T29 x11 x12).f1) ((rd_T29 x11 x12).f2) ((rd_T29 x11 x12).f3) ((rd_T29 x11 x12).f4))))) else (none)) else (none)) else (none)) else (none)) else ((clip_Clip.f k x0 x255000 x255001 x255002 x255003 x255004 x2).bind fun bt265 => (if bt265.2.2.2.2.2 = 0 then (if x255004 = 1 then ((parquetrylaw18_awake.f k).bind fun t272 => (some t272)) else (if (bt265.1 == x255000 && (bt265.2.1 == x255001 && (bt265.2.2.1 == x255002 && (bt265.2.2.2.1 == x255003 && (bt265.2.2.2.2.1 == x255004))))) = true then ((parquetrylaw18_awake.f k).bind fun t273 => (some t273)) else (none))) else (none)))
def parquetrylaw18_ClipFits.j3 : Nat → List (S39) → Int → List (S29) → Int → Bool → Int → Int → Int → Int → Int → Int → Int → Int → Int → Int → Int → Int → Int → Int → Int → Option (Bool)
  | 0, _, _, _, _, _, _, _, _, _, _, _, _, _, _, _, _, _, _, _, _ => none
  | k + 1, x0, x2, x11, x12, x121, x246000, x246001, x246002, x246003, x246004, x255000, x255001, x255002, x255003, x255004, x276000, x276001, x276002, x276003, x276004 => if x121 = true then (none) else (if x276004 = 0 then (if x276002 = x246002 then (if x276004 = 1 then (none) else (parquetrylaw18_ClipFits.l0 k x0 x2 x11 (wrap64 (x12 + 1)) x246000 x246001 x246002 x246003 x246004 x255000 x255001 x255002 x255003 x255004)) else (none)) else (if x276004 = 1 then (if x276002 < x246002 then (if 0 ≤ x276000 then (if x276000 ≤ (wrap64 (x276002 + 1)) then (if (wrap64 (x276002 + 1)) ≤ (x0.length : Int) then ((parquetryref17_More.f k ((x0.take ((wrap64 (x276002 + 1)) : Int).toNat).drop (x276000 : Int).toNat) (wrap64 (x2 - 1))).bind fun t286 => (if t286 = true then (parquetrylaw18_ClipFits.l0 k x0 x2 x11 (wrap64 (x12 + 1)) x246000 x246001 x246002 x246003 x246004 x255000 x255001 x255002 x255003 x255004) else (none))) else (none)) else (none)) else (none)) else (parquetrylaw18_ClipFits.l0 k x0 x2 x11 (wrap64 (x12 + 1)) x246000 x246001 x246002 x246003 x246004 x255000 x255001 x255002 x255003 x255004)) else (parquetrylaw18_ClipFits.l0 k x0 x2 x11 (wrap64 (x12 + 1)) x246000 x246001 x246002 x246003 x246004 x255000 x255001 x255002 x255003 x255004)))
end
def parquetrylaw18_ClipFits.f (k : Nat) (l0 : List (S39)) (a1_0 : Int) (a1_1 : Int) (a1_2 : Int) (a1_3 : Int) (a1_4 : Int) (a2 : Int) : Option (Bool) := if (l0.length : Int) > 300 then (parquetrylaw18_ClipFits.j0 k l0 a2 true a1_0 a1_1 a1_2 a1_3 a1_4) else (if a2 < 1 then (parquetrylaw18_ClipFits.j0 k l0 a2 true a1_0 a1_1 a1_2 a1_3 a1_4) else (if a2 > 1073741824 then (parquetrylaw18_ClipFits.j0 k l0 a2 true a1_0 a1_1 a1_2 a1_3 a1_4) else ((clip_May.f l0 a1_0 a1_1 a1_2 a1_3 a1_4).bind fun t246 => (parquetrylaw18_ClipFits.j0 k l0 a2 (!t246) a1_0 a1_1 a1_2 a1_3 a1_4))))
theorem parquetrylaw18_ClipFits.mono_l : ∀ k, (∀ y0 y1 y2 y3 y4 y5 y6 y7, LeO (parquetrylaw18_ClipFits.j0 k y0 y1 y2 y3 y4 y5 y6 y7) (parquetrylaw18_ClipFits.j0 (k + 1) y0 y1 y2 y3 y4 y5 y6 y7)) ∧ (∀ y0 y1 y2 y3 y4 y5 y6 y7 y8 y9 y10 y11 y12 y13 y14 y15 y16 y17, LeO (parquetrylaw18_ClipFits.j1 k y0 y1 y2 y3 y4 y5 y6 y7 y8 y9 y10 y11 y12 y13 y14 y15 y16 y17) (parquetrylaw18_ClipFits.j1 (k + 1) y0 y1 y2 y3 y4 y5 y6 y7 y8 y9 y10 y11 y12 y13 y14 y15 y16 y17)) ∧ (∀ y0 y1 y2 y3 y4 y5 y6 y7 y8 y9 y10 y11 y12 y13, LeO (parquetrylaw18_ClipFits.l0 k y0 y1 y2 y3 y4 y5 y6 y7 y8 y9 y10 y11 y12 y13) (parquetrylaw18_ClipFits.l0 (k + 1) y0 y1 y2 y3 y4 y5 y6 y7 y8 y9 y10 y11 y12 y13)) ∧ (∀ y0 y1 y2 y3 y4 y5 y6 y7 y8 y9 y10 y11 y12 y13 y14 y15 y16 y17 y18 y19, LeO (parquetrylaw18_ClipFits.j3 k y0 y1 y2 y3 y4 y5 y6 y7 y8 y9 y10 y11 y12 y13 y14 y15 y16 y17 y18 y19) (parquetrylaw18_ClipFits.j3 (k + 1) y0 y1 y2 y3 y4 y5 y6 y7 y8 y9 y10 y11 y12 y13 y14 y15 y16 y17 y18 y19))
  | 0 => ⟨fun _ _ _ _ _ _ _ _ r h => by simp [parquetrylaw18_ClipFits.j0] at h, fun _ _ _ _ _ _ _ _ _ _ _ _ _ _ _ _ _ _ r h => by simp [parquetrylaw18_ClipFits.j1] at h, fun _ _ _ _ _ _ _ _ _ _ _ _ _ _ r h => by simp [parquetrylaw18_ClipFits.l0] at h, fun _ _ _ _ _ _ _ _ _ _ _ _ _ _ _ _ _ _ _ _ r h => by simp [parquetrylaw18_ClipFits.j3] at h⟩
  | k + 1 => by
    obtain ⟨ih0, ih1, ih2, ih3⟩ := parquetrylaw18_ClipFits.mono_l k
    refine ⟨?_, ?_, ?_, ?_⟩
    · intro y0 y1 y2 y3 y4 y5 y6 y7
      unfold parquetrylaw18_ClipFits.j0
      repeat' first
      | (with_reducible exact ih0 _ _ _ _ _ _ _ _)
      | (with_reducible exact ih1 _ _ _ _ _ _ _ _ _ _ _ _ _ _ _ _ _ _)
      | (with_reducible exact ih2 _ _ _ _ _ _ _ _ _ _ _ _ _ _)
      | (with_reducible exact ih3 _ _ _ _ _ _ _ _ _ _ _ _ _ _ _ _ _ _ _ _)
      | (with_reducible exact clip_Clip.mono _ _ _ _ _ _ _ _)
      | (with_reducible exact clip_Cut.mono _ _ _ _ _ _ _ _)
      | (with_reducible exact clip_Wide.mono _ _ _ _ _ _ _)
      | (with_reducible exact parquetrylaw18_awake.mono _)
      | (with_reducible exact parquetryref17_More.mono _ _ _)
      | (with_reducible exact LeO.refl _)
      | (with_reducible exact LeO.none _)
      | (with_reducible refine LeO.ite ?_ ?_)
      | (with_reducible refine LeO.bind ?_ (fun _ => ?_))
      | exact ih0 _ _ _ _ _ _ _ _
      | exact ih1 _ _ _ _ _ _ _ _ _ _ _ _ _ _ _ _ _ _
      | exact ih2 _ _ _ _ _ _ _ _ _ _ _ _ _ _
      | exact ih3 _ _ _ _ _ _ _ _ _ _ _ _ _ _ _ _ _ _ _ _
      | exact clip_Clip.mono _ _ _ _ _ _ _ _
      | exact clip_Cut.mono _ _ _ _ _ _ _ _
      | exact clip_Wide.mono _ _ _ _ _ _ _
      | exact parquetrylaw18_awake.mono _
      | exact parquetryref17_More.mono _ _ _
      | exact LeO.none _
      | refine LeO.ite ?_ ?_
      | refine LeO.bind ?_ (fun _ => ?_)
    · intro y0 y1 y2 y3 y4 y5 y6 y7 y8 y9 y10 y11 y12 y13 y14 y15 y16 y17
      unfold parquetrylaw18_ClipFits.j1
      repeat' first
      | (with_reducible exact ih0 _ _ _ _ _ _ _ _)
      | (with_reducible exact ih1 _ _ _ _ _ _ _ _ _ _ _ _ _ _ _ _ _ _)
      | (with_reducible exact ih2 _ _ _ _ _ _ _ _ _ _ _ _ _ _)
      | (with_reducible exact ih3 _ _ _ _ _ _ _ _ _ _ _ _ _ _ _ _ _ _ _ _)
      | (with_reducible exact clip_Clip.mono _ _ _ _ _ _ _ _)
      | (with_reducible exact clip_Cut.mono _ _ _ _ _ _ _ _)
      | (with_reducible exact clip_Wide.mono _ _ _ _ _ _ _)
      | (with_reducible exact parquetrylaw18_awake.mono _)
      | (with_reducible exact parquetryref17_More.mono _ _ _)
      | (with_reducible exact LeO.refl _)
      | (with_reducible exact LeO.none _)
      | (with_reducible refine LeO.ite ?_ ?_)
      | (with_reducible refine LeO.bind ?_ (fun _ => ?_))
      | exact ih0 _ _ _ _ _ _ _ _
      | exact ih1 _ _ _ _ _ _ _ _ _ _ _ _ _ _ _ _ _ _
      | exact ih2 _ _ _ _ _ _ _ _ _ _ _ _ _ _
      | exact ih3 _ _ _ _ _ _ _ _ _ _ _ _ _ _ _ _ _ _ _ _
      | exact clip_Clip.mono _ _ _ _ _ _ _ _
      | exact clip_Cut.mono _ _ _ _ _ _ _ _
      | exact clip_Wide.mono _ _ _ _ _ _ _
      | exact parquetrylaw18_awake.mono _
      | exact parquetryref17_More.mono _ _ _
      | exact LeO.none _
      | refine LeO.ite ?_ ?_
      | refine LeO.bind ?_ (fun _ => ?_)
    · intro y0 y1 y2 y3 y4 y5 y6 y7 y8 y9 y10 y11 y12 y13
      unfold parquetrylaw18_ClipFits.l0
      repeat' first
      | (with_reducible exact ih0 _ _ _ _ _ _ _ _)
      | (with_reducible exact ih1 _ _ _ _ _ _ _ _ _ _ _ _ _ _ _ _ _ _)
      | (with_reducible exact ih2 _ _ _ _ _ _ _ _ _ _ _ _ _ _)
      | (with_reducible exact ih3 _ _ _ _ _ _ _ _ _ _ _ _ _ _ _ _ _ _ _ _)
      | (with_reducible exact clip_Clip.mono _ _ _ _ _ _ _ _)
      | (with_reducible exact clip_Cut.mono _ _ _ _ _ _ _ _)
      | (with_reducible exact clip_Wide.mono _ _ _ _ _ _ _)
      | (with_reducible exact parquetrylaw18_awake.mono _)
      | (with_reducible exact parquetryref17_More.mono _ _ _)
      | (with_reducible exact LeO.refl _)
      | (with_reducible exact LeO.none _)
      | (with_reducible refine LeO.ite ?_ ?_)
      | (with_reducible refine LeO.bind ?_ (fun _ => ?_))
      | exact ih0 _ _ _ _ _ _ _ _
      | exact ih1 _ _ _ _ _ _ _ _ _ _ _ _ _ _ _ _ _ _
      | exact ih2 _ _ _ _ _ _ _ _ _ _ _ _ _ _
      | exact ih3 _ _ _ _ _ _ _ _ _ _ _ _ _ _ _ _ _ _ _ _
      | exact clip_Clip.mono _ _ _ _ _ _ _ _
      | exact clip_Cut.mono _ _ _ _ _ _ _ _
      | exact clip_Wide.mono _ _ _ _ _ _ _
      | exact parquetrylaw18_awake.mono _
      | exact parquetryref17_More.mono _ _ _
      | exact LeO.none _
      | refine LeO.ite ?_ ?_
      | refine LeO.bind ?_ (fun _ => ?_)
    · intro y0 y1 y2 y3 y4 y5 y6 y7 y8 y9 y10 y11 y12 y13 y14 y15 y16 y17 y18 y19
      unfold parquetrylaw18_ClipFits.j3
      repeat' first
      | (with_reducible exact ih0 _ _ _ _ _ _ _ _)
      | (with_reducible exact ih1 _ _ _ _ _ _ _ _ _ _ _ _ _ _ _ _ _ _)
      | (with_reducible exact ih2 _ _ _ _ _ _ _ _ _ _ _ _ _ _)
      | (with_reducible exact ih3 _ _ _ _ _ _ _ _ _ _ _ _ _ _ _ _ _ _ _ _)
      | (with_reducible exact clip_Clip.mono _ _ _ _ _ _ _ _)
      | (with_reducible exact clip_Cut.mono _ _ _ _ _ _ _ _)
      | (with_reducible exact clip_Wide.mono _ _ _ _ _ _ _)
      | (with_reducible exact parquetrylaw18_awake.mono _)
      | (with_reducible exact parquetryref17_More.mono _ _ _)
      | (with_reducible exact LeO.refl _)
      | (with_reducible exact LeO.none _)
      | (with_reducible refine LeO.ite ?_ ?_)
      | (with_reducible refine LeO.bind ?_ (fun _ => ?_))
      | exact ih0 _ _ _ _ _ _ _ _
      | exact ih1 _ _ _ _ _ _ _ _ _ _ _ _ _ _ _ _ _ _
      | exact ih2 _ _ _ _ _ _ _ _ _ _ _ _ _ _
      | exact ih3 _ _ _ _ _ _ _ _ _ _ _ _ _ _ _ _ _ _ _ _
      | exact clip_Clip.mono _ _ _ _ _ _ _ _
      | exact clip_Cut.mono _ _ _ _ _ _ _ _
      | exact clip_Wide.mono _ _ _ _ _ _ _
      | exact parquetrylaw18_awake.mono _
      | exact parquetryref17_More.mono _ _ _
      | exact LeO.none _
      | refine LeO.ite ?_ ?_
      | refine LeO.bind ?_ (fun _ => ?_)
theorem parquetrylaw18_ClipFits.mono : ∀ a0 a1 a2 a3 a4 a5 a6 k, LeO (parquetrylaw18_ClipFits.f k a0 a1 a2 a3 a4 a5 a6) (parquetrylaw18_ClipFits.f (k + 1) a0 a1 a2 a3 a4 a5 a6) := by
  intro a0 a1 a2 a3 a4 a5 a6 k
  obtain ⟨ih0, ih1, ih2, ih3⟩ := parquetrylaw18_ClipFits.mono_l k
  unfold parquetrylaw18_ClipFits.f
  repeat' first
      | (with_reducible exact ih0 _ _ _ _ _ _ _ _)
      | (with_reducible exact ih1 _ _ _ _ _ _ _ _ _ _ _ _ _ _ _ _ _ _)
      | (with_reducible exact ih2 _ _ _ _ _ _ _ _ _ _ _ _ _ _)
      | (with_reducible exact ih3 _ _ _ _ _ _ _ _ _ _ _ _ _ _ _ _ _ _ _ _)
      | (with_reducible exact clip_Clip.mono _ _ _ _ _ _ _ _)
      | (with_reducible exact clip_Cut.mono _ _ _ _ _ _ _ _)
      | (with_reducible exact clip_Wide.mono _ _ _ _ _ _ _)
      | (with_reducible exact parquetrylaw18_awake.mono _)
      | (with_reducible exact parquetryref17_More.mono _ _ _)
      | (with_reducible exact LeO.refl _)
      | (with_reducible exact LeO.none _)
      | (with_reducible refine LeO.ite ?_ ?_)
      | (with_reducible refine LeO.bind ?_ (fun _ => ?_))
      | exact ih0 _ _ _ _ _ _ _ _
      | exact ih1 _ _ _ _ _ _ _ _ _ _ _ _ _ _ _ _ _ _
      | exact ih2 _ _ _ _ _ _ _ _ _ _ _ _ _ _
      | exact ih3 _ _ _ _ _ _ _ _ _ _ _ _ _ _ _ _ _ _ _ _
      | exact clip_Clip.mono _ _ _ _ _ _ _ _
      | exact clip_Cut.mono _ _ _ _ _ _ _ _
      | exact clip_Wide.mono _ _ _ _ _ _ _
      | exact parquetrylaw18_awake.mono _
      | exact parquetryref17_More.mono _ _ _
      | exact LeO.none _
      | refine LeO.ite ?_ ?_
      | refine LeO.bind ?_ (fun _ => ?_)
set_option maxHeartbeats 8000000 in
set_option maxRecDepth 100000 in
theorem parquetrylaw18_ClipFits.calls (k : Nat) (A0 : Option Addr) (c0 : Nat) (l0 : List (S39)) (a1_0 : Int) (a1_1 : Int) (a1_2 : Int) (a1_3 : Int) (a1_4 : Int) (a2 : Int) (r : Bool) (w : World) (hr0 : Kd.C k39 w A0 l0.length l0) (hc0 : l0.length ≤ c0) (h : parquetrylaw18_ClipFits.f k l0 a1_0 a1_1 a1_2 a1_3 a1_4 a2 = some r) :
    Calls Try.prog 4 #[.slice A0 l0.length c0, .agg #[.int .i64 a1_0, .int .i64 a1_1, .int .i64 a1_2, .int .i64 a1_3, .int .i64 a1_4], .int .i64 a2] w fun e w' => e = .returned (.bool r) ∧ Below w.heap.size w w' := by
  have hu29 := Try.underlying29
  have HR0 := Aside0.mk hr0
  have HC0 := Aside0.mk hc0
  clear hr0 hc0
  have HB := Aside0.mk (Below.refl w.heap.size w)
  have H : (if (l0.length : Int) > 300 then (parquetrylaw18_ClipFits.j0 k l0 a2 true a1_0 a1_1 a1_2 a1_3 a1_4) else (if a2 < 1 then (parquetrylaw18_ClipFits.j0 k l0 a2 true a1_0 a1_1 a1_2 a1_3 a1_4) else (if a2 > 1073741824 then (parquetrylaw18_ClipFits.j0 k l0 a2 true a1_0 a1_1 a1_2 a1_3 a1_4) else ((clip_May.f l0 a1_0 a1_1 a1_2 a1_3 a1_4).bind fun t246 => (parquetrylaw18_ClipFits.j0 k l0 a2 (!t246) a1_0 a1_1 a1_2 a1_3 a1_4))))) = some r := h
  clear h
  have HC4 := Aside0.mk H
  clear H
  go_enter Try.func4, Try.ntmps4
  try dsimp only [List.append]
  go_upto_region 1 with (first | ((with_reducible refine gate_dst (N := 4) rfl ?_); refine box_event ?hg (N := 4) ?hd (cs := #[.int .i64 a1_0, .int .i64 a1_1, .int .i64 a1_2, .int .i64 a1_3, .int .i64 a1_4]) (t := 29) ?hr ?_; (case hd => rfl); (case hg => rfl); (case hr => first | (go_simp; done) | (go_simp; rfl)); intro gb245 hg w5 hbox hb; have n0_ := Aside0.mk (below_step (by repeat (first | (with_reducible first | exact HB.out | apply below_alloc | apply pw_below_drewN | apply below_drew1) | exact HB.out)) hb); have n1_ := Aside0.mk (hbox); have n2_ := Aside0.mk ((by rw [hg]; exact (below_size (by repeat (first | (with_reducible first | exact HB.out | apply below_alloc | apply pw_below_drewN | apply below_drew1) | exact HB.out))) : w.heap.size ≤ gb245)); have n3_ := Aside0.mk ((by rw [hg]; exact (below_size (by repeat (first | (with_reducible first | exact HB.out | apply below_alloc | apply pw_below_drewN | apply below_drew1) | exact HB.out))) : w.heap.size ≤ gb245)); clear HB; have HB := n0_; have BK245 := n1_; have GW245 := n2_; have GE245 := n3_; clear n0_ n1_ n2_ n3_; clear hb hbox hg))
  (try simp only [Act.put, List.setIfInBounds_toArray, List.set_cons_zero, List.set_cons_succ])
  go_cut [32] (fun v32 wc => ∃ (kq : Nat) (x32_3 : Bool), v32 = .bool x32_3 ∧ Aside0 (parquetrylaw18_ClipFits.j0 kq l0 a2 x32_3 a1_0 a1_1 a1_2 a1_3 a1_4 = some r) ∧ Aside0 (kq ≤ k) ∧ Aside0 (wc.heap[gb245]? = some (.cells #[.int .i64 a1_0, .int .i64 a1_1, .int .i64 a1_2, .int .i64 a1_3, .int .i64 a1_4] 29 (0, 0))) ∧ Aside0 (Below w.heap.size w wc))
  case first =>
    have H := HC4.out
    clear HC4
    by_cases c6 : (l0.length : Int) > 300
    · rw [if_pos c6] at H
      have c6b0 : decide (300 < (l0.length : Int)) = true := decide_eq_true c6
      have c6b1 : decide (300 < l0.length) = true := decide_eq_true (by omega)
      clear c6
      (first | rw [c6b0] | (simp only [i64_w, i32_w]; rw [c6b0]) | skip)
      have H' := Aside0.mk H
      clear H
      go_wp2
      go_meet
      case rel => exact ⟨_, (true), (by first | rfl | (simp; done) | (simp [*]; done)), H', ⟨by first | omega | exact Nat.le_refl _⟩, ⟨by exact BK245.out⟩, ⟨by repeat (first | (with_reducible first | exact HB.out | apply below_alloc | apply pw_below_drewN | apply below_drew1 | refine below_set ?_ GE245.out) | exact HB.out)⟩⟩
    · rw [if_neg c6] at H
      have c6b0 : decide (300 < (l0.length : Int)) = false := decide_eq_false c6
      have c6b1 : decide (300 < l0.length) = false := decide_eq_false (by omega)
      clear c6
      (first | rw [c6b0] | (simp only [i64_w, i32_w]; rw [c6b0]) | skip)
      by_cases c7 : a2 < 1
      · rw [if_pos c7] at H
        have c7b0 : decide (a2 < 1) = true := decide_eq_true c7
        clear c7
        have H' := Aside0.mk H
        clear H
        go_wp2
        go_meet
        case rel => exact ⟨_, (true), (by first | rfl | (simp; done) | (simp [*]; done)), H', ⟨by first | omega | exact Nat.le_refl _⟩, ⟨by exact BK245.out⟩, ⟨by repeat (first | (with_reducible first | exact HB.out | apply below_alloc | apply pw_below_drewN | apply below_drew1 | refine below_set ?_ GE245.out) | exact HB.out)⟩⟩
      · rw [if_neg c7] at H
        have c7b0 : decide (a2 < 1) = false := decide_eq_false c7
        clear c7
        by_cases c8 : a2 > 1073741824
        · rw [if_pos c8] at H
          have c8b0 : decide (1073741824 < a2) = true := decide_eq_true c8
          clear c8
          have H' := Aside0.mk H
          clear H
          go_wp2
          go_meet
          case rel => exact ⟨_, (true), (by first | rfl | (simp; done) | (simp [*]; done)), H', ⟨by first | omega | exact Nat.le_refl _⟩, ⟨by exact BK245.out⟩, ⟨by repeat (first | (with_reducible first | exact HB.out | apply below_alloc | apply pw_below_drewN | apply below_drew1 | refine below_set ?_ GE245.out) | exact HB.out)⟩⟩
        · rw [if_neg c8] at H
          have c8b0 : decide (1073741824 < a2) = false := decide_eq_false c8
          clear c8
          replace H := Option.bind_eq_some_iff.mp H
          obtain ⟨t246, A90, H⟩ := H
          replace H : (parquetrylaw18_ClipFits.j0 k l0 a2 (!t246) a1_0 a1_1 a1_2 a1_3 a1_4) = some r := H
          have A9 := Aside0.mk A90
          clear A90
          have H' := Aside0.mk H
          clear H
          have hcz10_0 : w5.cell? ⟨gb245, 0, none⟩ = some (.int .i64 a1_0) := (blk_cell BK245.out 0).trans rfl
          have hcz10_1 : w5.cell? ⟨gb245, 1, none⟩ = some (.int .i64 a1_1) := (blk_cell BK245.out 1).trans rfl
          have hcz10_2 : w5.cell? ⟨gb245, 2, none⟩ = some (.int .i64 a1_2) := (blk_cell BK245.out 2).trans rfl
          have hcz10_3 : w5.cell? ⟨gb245, 3, none⟩ = some (.int .i64 a1_3) := (blk_cell BK245.out 3).trans rfl
          have hcz10_4 : w5.cell? ⟨gb245, 4, none⟩ = some (.int .i64 a1_4) := (blk_cell BK245.out 4).trans rfl
          have hfz10_0 := blk_frozen BK245.out 0
          have hfz10_1 := blk_frozen BK245.out 1
          have hfz10_2 := blk_frozen BK245.out 2
          have hfz10_3 := blk_frozen BK245.out 3
          have hfz10_4 := blk_frozen BK245.out 4
          go_wp2_with (first | (go_at_call 14; (with_reducible refine (clip_May.calls _ _ l0 a1_0 a1_1 a1_2 a1_3 a1_4 t246 _ ?side1 ?side2 A9.out).mono ?_); (case side1 => repeat (first | exact (Kd.C_below HR0.out HB.out) | (with_reducible refine Kd.C_alloc ?_ _) | (with_reducible refine Kd.C_drewN ?_ _) | (with_reducible refine Kd.C_drew ?_))); (case side2 => exact HC0.out); rintro e w11 ⟨rfl, hb⟩; have n0_ := Aside0.mk (blk_below (g := gb245) (o := .cells #[.int .i64 a1_0, .int .i64 a1_1, .int .i64 a1_2, .int .i64 a1_3, .int .i64 a1_4] 29 (0, 0)) (by exact BK245.out) hb); have n1_ := Aside0.mk (below_step (by repeat (first | (with_reducible first | exact HB.out | apply below_alloc | apply pw_below_drewN | apply below_drew1 | refine below_set ?_ GE245.out) | exact HB.out)) hb); clear BK245; clear HB; have BK245 := n0_; have HB := n1_; clear n0_ n1_; (try clear hb); (try clear hb2); (try clear hk); (try clear hi)))
          go_meet
          case rel => exact ⟨_, (!t246), (by first | rfl | (simp; done) | (simp [*]; done)), H', ⟨by first | omega | exact Nat.le_refl _⟩, ⟨by exact BK245.out⟩, ⟨by repeat (first | (with_reducible first | exact HB.out | apply below_alloc | apply pw_below_drewN | apply below_drew1 | refine below_set ?_ GE245.out) | exact HB.out)⟩⟩
  case rest =>
    clear HC4
    try clear p2
    try clear c4
    try clear c6
    try clear c6b0
    try clear c6b1
    try clear c7
    try clear c7b0
    try clear c8
    try clear c8b0
    try clear hcz10_0
    try clear hcz10_1
    try clear hcz10_2
    try clear hcz10_3
    try clear hcz10_4
    try clear hfz10_0
    try clear hfz10_1
    try clear hfz10_2
    try clear hfz10_3
    try clear hfz10_4
    obtain ⟨kq, x32_3, rfl, HA, HJ3, BK245, HB⟩ := hcut
    cases kq with
    | zero => exact absurd HA.out (by simp [parquetrylaw18_ClipFits.j0])
    | succ kj3 =>
      have H := HA.out
      clear HA
      simp only [parquetrylaw18_ClipFits.j0] at H
      by_cases c12 : x32_3 = true
      · subst c12
        have H1 : ((parquetrylaw18_awake.f kj3).bind fun t247 => (some t247)) = some r := by rw [if_pos rfl] at H; exact H
        clear H
        have H := H1
        clear H1
        replace H := Option.bind_eq_some_iff.mp H
        obtain ⟨t247, A130, H⟩ := H
        replace H : (some t247) = some r := H
        have A13 := Aside0.mk A130
        clear A130
        obtain rfl := Option.some.inj H
        go_wp2_with (first | ((with_reducible refine gate_callee (f := 10) rfl ?_); refine goesL_ (some 33) rfl rfl Try.func10 (by kernel_rfl) rfl #[] rfl (by (try simp only [List.map_toArray, List.map_cons, List.map_nil]); first | done | rfl | (simp only [List.length_drop, List.length_take]; rfl)) ?_; (with_reducible refine (parquetrylaw18_awake.calls kj3  t247 _ A13.out).mono ?_); rintro e w14 ⟨rfl, hb⟩; refine ⟨_, rfl, ?_⟩; have n0_ := Aside0.mk (blk_below (g := gb245) (o := .cells #[.int .i64 a1_0, .int .i64 a1_1, .int .i64 a1_2, .int .i64 a1_3, .int .i64 a1_4] 29 (0, 0)) (by exact BK245.out) hb); have n1_ := Aside0.mk (below_step (by repeat (first | (with_reducible first | exact HB.out | apply below_alloc | apply pw_below_drewN | apply below_drew1 | refine below_set ?_ GE245.out) | exact HB.out)) hb); clear BK245; clear HB; have BK245 := n0_; have HB := n1_; clear n0_ n1_; (try clear hb); (try clear hb2); (try clear hk); (try clear hi)))
        go_ret
        exact ⟨by first | rfl | (simp [errW_none, errW_some] <;> rfl) | (simp [*, errW_none, errW_some] <;> rfl), by repeat (first | (with_reducible first | exact HB.out | apply below_alloc | apply pw_below_drewN | apply below_drew1 | refine below_set ?_ GE245.out) | exact HB.out)⟩
      · replace c12 := Bool.eq_false_iff.mpr c12
        subst c12
        have H1 : ((clip_Clip.f kj3 l0 a1_0 a1_1 a1_2 a1_3 a1_4 a2).bind fun bt248 => ((clip_Cut.f kj3 l0 a1_0 a1_1 a1_2 a1_3 a1_4 a2).bind fun bt255 => (if bt248.2.2.2.2.2 = 0 then (if bt255.2.2.2.2.2 = 0 then (if bt255.2.2.2.2.1 = 1 then (if bt248.2.2.2.2.1 = 1 then (parquetrylaw18_ClipFits.j1 kj3 l0 a2 (!(bt248.1 == bt255.1) || (!(bt248.2.1 == bt255.2.1) || (!(bt248.2.2.1 == bt255.2.2.1) || (!(bt248.2.2.2.1 == bt255.2.2.2.1) || (!(bt248.2.2.2.2.1 == bt255.2.2.2.2.1)))))) a1_0 a1_1 a1_2 a1_3 a1_4 bt248.1 bt248.2.1 bt248.2.2.1 bt248.2.2.2.1 bt248.2.2.2.2.1 bt255.1 bt255.2.1 bt255.2.2.1 bt255.2.2.2.1 bt255.2.2.2.2.1) else (parquetrylaw18_ClipFits.j1 kj3 l0 a2 false a1_0 a1_1 a1_2 a1_3 a1_4 bt248.1 bt248.2.1 bt248.2.2.1 bt248.2.2.2.1 bt248.2.2.2.2.1 bt255.1 bt255.2.1 bt255.2.2.1 bt255.2.2.2.1 bt255.2.2.2.2.1)) else (none)) else (none)) else (none)))) = some r := by rw [if_neg (show ¬ (false = true) by decide)] at H; exact H
        clear H
        have H := H1
        clear H1
        replace H := Option.bind_eq_some_iff.mp H
        obtain ⟨⟨t248, t249, t250, t251, t252, t253⟩, A150, H⟩ := H
        replace H : ((clip_Cut.f kj3 l0 a1_0 a1_1 a1_2 a1_3 a1_4 a2).bind fun bt255 => (if t253 = 0 then (if bt255.2.2.2.2.2 = 0 then (if bt255.2.2.2.2.1 = 1 then (if t252 = 1 then (parquetrylaw18_ClipFits.j1 kj3 l0 a2 (!(t248 == bt255.1) || (!(t249 == bt255.2.1) || (!(t250 == bt255.2.2.1) || (!(t251 == bt255.2.2.2.1) || (!(t252 == bt255.2.2.2.2.1)))))) a1_0 a1_1 a1_2 a1_3 a1_4 t248 t249 t250 t251 t252 bt255.1 bt255.2.1 bt255.2.2.1 bt255.2.2.2.1 bt255.2.2.2.2.1) else (parquetrylaw18_ClipFits.j1 kj3 l0 a2 false a1_0 a1_1 a1_2 a1_3 a1_4 t248 t249 t250 t251 t252 bt255.1 bt255.2.1 bt255.2.2.1 bt255.2.2.2.1 bt255.2.2.2.2.1)) else (none)) else (none)) else (none))) = some r := H
        have A15 := Aside0.mk A150
        clear A150
        replace H := Option.bind_eq_some_iff.mp H
        obtain ⟨⟨t255, t256, t257, t258, t259, t260⟩, A160, H⟩ := H
        replace H : (if t253 = 0 then (if t260 = 0 then (if t259 = 1 then (if t252 = 1 then (parquetrylaw18_ClipFits.j1 kj3 l0 a2 (!(t248 == t255) || (!(t249 == t256) || (!(t250 == t257) || (!(t251 == t258) || (!(t252 == t259)))))) a1_0 a1_1 a1_2 a1_3 a1_4 t248 t249 t250 t251 t252 t255 t256 t257 t258 t259) else (parquetrylaw18_ClipFits.j1 kj3 l0 a2 false a1_0 a1_1 a1_2 a1_3 a1_4 t248 t249 t250 t251 t252 t255 t256 t257 t258 t259)) else (none)) else (none)) else (none)) = some r := H
        have A16 := Aside0.mk A160
        clear A160
        have HC17 := Aside0.mk H
        clear H
        have hcz18_0 : wc.cell? ⟨gb245, 0, none⟩ = some (.int .i64 a1_0) := (blk_cell BK245.out 0).trans rfl
        have hcz18_1 : wc.cell? ⟨gb245, 1, none⟩ = some (.int .i64 a1_1) := (blk_cell BK245.out 1).trans rfl
        have hcz18_2 : wc.cell? ⟨gb245, 2, none⟩ = some (.int .i64 a1_2) := (blk_cell BK245.out 2).trans rfl
        have hcz18_3 : wc.cell? ⟨gb245, 3, none⟩ = some (.int .i64 a1_3) := (blk_cell BK245.out 3).trans rfl
        have hcz18_4 : wc.cell? ⟨gb245, 4, none⟩ = some (.int .i64 a1_4) := (blk_cell BK245.out 4).trans rfl
        have hfz18_0 := blk_frozen BK245.out 0
        have hfz18_1 := blk_frozen BK245.out 1
        have hfz18_2 := blk_frozen BK245.out 2
        have hfz18_3 := blk_frozen BK245.out 3
        have hfz18_4 := blk_frozen BK245.out 4
        go_upto_region 5 with (first | ((with_reducible refine gate_callee (f := 12) rfl ?_); refine goesL_ (some 38) rfl rfl Try.func12 (by kernel_rfl) rfl #[.slice A0 l0.length c0, .agg #[.int .i64 a1_0, .int .i64 a1_1, .int .i64 a1_2, .int .i64 a1_3, .int .i64 a1_4], .int .i64 a2] rfl (by (try simp only [List.map_toArray, List.map_cons, List.map_nil]); first | done | rfl | (simp only [List.length_drop, List.length_take]; rfl)) ?_; (with_reducible refine (clip_Clip.calls kj3 _ _ l0 a1_0 a1_1 a1_2 a1_3 a1_4 a2 t248 t249 t250 t251 t252 t253 _ ?side1 ?side2 A15.out).mono ?_); (case side1 => repeat (first | exact (Kd.C_below HR0.out HB.out) | (with_reducible refine Kd.C_alloc ?_ _) | (with_reducible refine Kd.C_drewN ?_ _) | (with_reducible refine Kd.C_drew ?_))); (case side2 => exact HC0.out); rintro e w19 ⟨rfl, hb⟩; refine ⟨_, rfl, ?_⟩; have n0_ := Aside0.mk (blk_below (g := gb245) (o := .cells #[.int .i64 a1_0, .int .i64 a1_1, .int .i64 a1_2, .int .i64 a1_3, .int .i64 a1_4] 29 (0, 0)) (by exact BK245.out) hb); have n1_ := Aside0.mk (below_step (by repeat (first | (with_reducible first | exact HB.out | apply below_alloc | apply pw_below_drewN | apply below_drew1 | refine below_set ?_ GE245.out) | exact HB.out)) hb); clear BK245; clear HB; have BK245 := n0_; have HB := n1_; clear n0_ n1_; (try clear hb); (try clear hb2); (try clear hk); (try clear hi)) | ((with_reducible refine gate_dst (N := 7) rfl ?_); refine box_event ?hg (N := 7) ?hd (cs := #[.int .i64 0, .int .i64 0, .int .i64 0, .int .i64 0, .int .i64 0]) (t := 29) ?hr ?_; (case hd => rfl); (case hg => rfl); (case hr => first | (go_simp; done) | (go_simp; rfl)); intro gb254 hg w20 hbox hb; have n0_ := Aside0.mk (blk_below (g := gb245) (o := .cells #[.int .i64 a1_0, .int .i64 a1_1, .int .i64 a1_2, .int .i64 a1_3, .int .i64 a1_4] 29 (0, 0)) (by exact BK245.out) hb); have n1_ := Aside0.mk (below_step (by repeat (first | (with_reducible first | exact HB.out | apply below_alloc | apply pw_below_drewN | apply below_drew1 | refine below_set ?_ GE245.out) | exact HB.out)) hb); have n2_ := Aside0.mk (hbox); have n3_ := Aside0.mk ((by rw [hg]; exact (below_size (by repeat (first | (with_reducible first | exact HB.out | apply below_alloc | apply pw_below_drewN | apply below_drew1 | refine below_set ?_ GE245.out) | exact HB.out))) : w.heap.size ≤ gb254)); have n4_ := Aside0.mk ((by rw [hg]; exact (below_size (by repeat (first | (with_reducible first | exact HB.out | apply below_alloc | apply pw_below_drewN | apply below_drew1 | refine below_set ?_ GE245.out) | exact HB.out))) : w.heap.size ≤ gb254)); have n5_ := Aside0.mk ((by rw [hg]; exact Nat.ne_of_lt (blk_lt (g := gb245) (o := .cells #[.int .i64 a1_0, .int .i64 a1_1, .int .i64 a1_2, .int .i64 a1_3, .int .i64 a1_4] 29 (0, 0)) (by exact BK245.out)) : gb245 ≠ gb254)); have n6_ := Aside0.mk ((by rw [hg]; exact Nat.ne_of_gt (blk_lt (g := gb245) (o := .cells #[.int .i64 a1_0, .int .i64 a1_1, .int .i64 a1_2, .int .i64 a1_3, .int .i64 a1_4] 29 (0, 0)) (by exact BK245.out)) : gb254 ≠ gb245)); clear BK245; clear HB; have BK245 := n0_; have HB := n1_; have BK254 := n2_; have GW254 := n3_; have GE254 := n4_; have NB245_254 := n5_; have NB254_245 := n6_; clear n0_ n1_ n2_ n3_ n4_ n5_ n6_; clear hb hbox hg; have hnb21 := NB254_245.out; have hnc21 := NB245_254.out; have hcz22_0 : w20.cell? ⟨gb254, 0, none⟩ = some (.int .i64 0) := (blk_cell BK254.out 0).trans rfl; have hcz22_1 : w20.cell? ⟨gb254, 1, none⟩ = some (.int .i64 0) := (blk_cell BK254.out 1).trans rfl; have hcz22_2 : w20.cell? ⟨gb254, 2, none⟩ = some (.int .i64 0) := (blk_cell BK254.out 2).trans rfl; have hcz22_3 : w20.cell? ⟨gb254, 3, none⟩ = some (.int .i64 0) := (blk_cell BK254.out 3).trans rfl; have hcz22_4 : w20.cell? ⟨gb254, 4, none⟩ = some (.int .i64 0) := (blk_cell BK254.out 4).trans rfl; have hfz22_0 := blk_frozen BK254.out 0; have hfz22_1 := blk_frozen BK254.out 1; have hfz22_2 := blk_frozen BK254.out 2; have hfz22_3 := blk_frozen BK254.out 3; have hfz22_4 := blk_frozen BK254.out 4; have hcz23_0 : w20.cell? ⟨gb245, 0, none⟩ = some (.int .i64 a1_0) := (blk_cell BK245.out 0).trans rfl; have hcz23_1 : w20.cell? ⟨gb245, 1, none⟩ = some (.int .i64 a1_1) := (blk_cell BK245.out 1).trans rfl; have hcz23_2 : w20.cell? ⟨gb245, 2, none⟩ = some (.int .i64 a1_2) := (blk_cell BK245.out 2).trans rfl; have hcz23_3 : w20.cell? ⟨gb245, 3, none⟩ = some (.int .i64 a1_3) := (blk_cell BK245.out 3).trans rfl; have hcz23_4 : w20.cell? ⟨gb245, 4, none⟩ = some (.int .i64 a1_4) := (blk_cell BK245.out 4).trans rfl; have hfz23_0 := blk_frozen BK245.out 0; have hfz23_1 := blk_frozen BK245.out 1; have hfz23_2 := blk_frozen BK245.out 2; have hfz23_3 := blk_frozen BK245.out 3; have hfz23_4 := blk_frozen BK245.out 4) | ((with_reducible refine gate_callee (f := 13) rfl ?_); refine goesL_ (some 45) rfl rfl Try.func13 (by kernel_rfl) rfl #[.slice A0 l0.length c0, .agg #[.int .i64 a1_0, .int .i64 a1_1, .int .i64 a1_2, .int .i64 a1_3, .int .i64 a1_4], .int .i64 a2] rfl (by (try simp only [List.map_toArray, List.map_cons, List.map_nil]); first | done | rfl | (simp only [List.length_drop, List.length_take]; rfl)) ?_; (with_reducible refine (clip_Cut.calls kj3 _ _ l0 a1_0 a1_1 a1_2 a1_3 a1_4 a2 t255 t256 t257 t258 t259 t260 _ ?side1 ?side2 A16.out).mono ?_); (case side1 => exact Kd.C_below HR0.out (by repeat (first | (with_reducible first | exact HB.out | apply below_alloc | apply pw_below_drewN | apply below_drew1 | refine below_set ?_ GE245.out | refine below_set ?_ GE254.out) | exact HB.out))); (case side2 => exact HC0.out); rintro e w24 ⟨rfl, hb⟩; refine ⟨_, rfl, ?_⟩; have n0_ := Aside0.mk (blk_below (g := gb245) (o := .cells #[.int .i64 a1_0, .int .i64 a1_1, .int .i64 a1_2, .int .i64 a1_3, .int .i64 a1_4] 29 (0, 0)) (by (with_reducible repeat (first | refine blk_drewN ?_ _ | refine blk_drew ?_ | refine blk_alloc ?_ _)); refine blk_far ?_ NB245_254.out _; (with_reducible repeat (first | refine blk_drewN ?_ _ | refine blk_drew ?_ | refine blk_alloc ?_ _)); refine blk_far ?_ NB245_254.out _; (with_reducible repeat (first | refine blk_drewN ?_ _ | refine blk_drew ?_ | refine blk_alloc ?_ _)); refine blk_far ?_ NB245_254.out _; (with_reducible repeat (first | refine blk_drewN ?_ _ | refine blk_drew ?_ | refine blk_alloc ?_ _)); refine blk_far ?_ NB245_254.out _; (with_reducible repeat (first | refine blk_drewN ?_ _ | refine blk_drew ?_ | refine blk_alloc ?_ _)); refine blk_far ?_ NB245_254.out _; exact BK245.out) hb); have n1_ := Aside0.mk (blk_below (g := gb254) (o := .cells #[.int .i64 t248, .int .i64 t249, .int .i64 t250, .int .i64 t251, .int .i64 t252] 29 (0, 0)) (by (with_reducible repeat (first | refine blk_drewN ?_ _ | refine blk_drew ?_ | refine blk_alloc ?_ _)); refine blk_put (cs := #[.int .i64 t248, .int .i64 t249, .int .i64 t250, .int .i64 t251, .int .i64 0]) ?_ 4 _ rfl; (with_reducible repeat (first | refine blk_drewN ?_ _ | refine blk_drew ?_ | refine blk_alloc ?_ _)); refine blk_put (cs := #[.int .i64 t248, .int .i64 t249, .int .i64 t250, .int .i64 0, .int .i64 0]) ?_ 3 _ rfl; (with_reducible repeat (first | refine blk_drewN ?_ _ | refine blk_drew ?_ | refine blk_alloc ?_ _)); refine blk_put (cs := #[.int .i64 t248, .int .i64 t249, .int .i64 0, .int .i64 0, .int .i64 0]) ?_ 2 _ rfl; (with_reducible repeat (first | refine blk_drewN ?_ _ | refine blk_drew ?_ | refine blk_alloc ?_ _)); refine blk_put (cs := #[.int .i64 t248, .int .i64 0, .int .i64 0, .int .i64 0, .int .i64 0]) ?_ 1 _ rfl; (with_reducible repeat (first | refine blk_drewN ?_ _ | refine blk_drew ?_ | refine blk_alloc ?_ _)); refine blk_put (cs := #[.int .i64 0, .int .i64 0, .int .i64 0, .int .i64 0, .int .i64 0]) ?_ 0 _ rfl; exact BK254.out) hb); have n2_ := Aside0.mk (below_step (by repeat (first | (with_reducible first | exact HB.out | apply below_alloc | apply pw_below_drewN | apply below_drew1 | refine below_set ?_ GE245.out | refine below_set ?_ GE254.out) | exact HB.out)) hb); clear BK245; clear BK254; clear HB; have BK245 := n0_; have BK254 := n1_; have HB := n2_; clear n0_ n1_ n2_; (try clear hb); (try clear hb2); (try clear hk); (try clear hi)) | ((with_reducible refine gate_dst (N := 9) rfl ?_); refine box_event ?hg (N := 9) ?hd (cs := #[.int .i64 0, .int .i64 0, .int .i64 0, .int .i64 0, .int .i64 0]) (t := 29) ?hr ?_; (case hd => rfl); (case hg => rfl); (case hr => first | (go_simp; done) | (go_simp; rfl)); intro gb261 hg w25 hbox hb; have n0_ := Aside0.mk (blk_below (g := gb245) (o := .cells #[.int .i64 a1_0, .int .i64 a1_1, .int .i64 a1_2, .int .i64 a1_3, .int .i64 a1_4] 29 (0, 0)) (by exact BK245.out) hb); have n1_ := Aside0.mk (blk_below (g := gb254) (o := .cells #[.int .i64 t248, .int .i64 t249, .int .i64 t250, .int .i64 t251, .int .i64 t252] 29 (0, 0)) (by exact BK254.out) hb); have n2_ := Aside0.mk (below_step (by repeat (first | (with_reducible first | exact HB.out | apply below_alloc | apply pw_below_drewN | apply below_drew1 | refine below_set ?_ GE245.out | refine below_set ?_ GE254.out) | exact HB.out)) hb); have n3_ := Aside0.mk (hbox); have n4_ := Aside0.mk ((by rw [hg]; exact (below_size (by repeat (first | (with_reducible first | exact HB.out | apply below_alloc | apply pw_below_drewN | apply below_drew1 | refine below_set ?_ GE245.out | refine below_set ?_ GE254.out) | exact HB.out))) : w.heap.size ≤ gb261)); have n5_ := Aside0.mk ((by rw [hg]; exact (below_size (by repeat (first | (with_reducible first | exact HB.out | apply below_alloc | apply pw_below_drewN | apply below_drew1 | refine below_set ?_ GE245.out | refine below_set ?_ GE254.out) | exact HB.out))) : w.heap.size ≤ gb261)); have n6_ := Aside0.mk ((by rw [hg]; exact Nat.ne_of_lt (blk_lt (g := gb245) (o := .cells #[.int .i64 a1_0, .int .i64 a1_1, .int .i64 a1_2, .int .i64 a1_3, .int .i64 a1_4] 29 (0, 0)) (by exact BK245.out)) : gb245 ≠ gb261)); have n7_ := Aside0.mk ((by rw [hg]; exact Nat.ne_of_gt (blk_lt (g := gb245) (o := .cells #[.int .i64 a1_0, .int .i64 a1_1, .int .i64 a1_2, .int .i64 a1_3, .int .i64 a1_4] 29 (0, 0)) (by exact BK245.out)) : gb261 ≠ gb245)); have n8_ := Aside0.mk ((by rw [hg]; exact Nat.ne_of_lt (blk_lt (g := gb254) (o := .cells #[.int .i64 t248, .int .i64 t249, .int .i64 t250, .int .i64 t251, .int .i64 t252] 29 (0, 0)) (by exact BK254.out)) : gb254 ≠ gb261)); have n9_ := Aside0.mk ((by rw [hg]; exact Nat.ne_of_gt (blk_lt (g := gb254) (o := .cells #[.int .i64 t248, .int .i64 t249, .int .i64 t250, .int .i64 t251, .int .i64 t252] 29 (0, 0)) (by exact BK254.out)) : gb261 ≠ gb254)); clear BK245; clear BK254; clear HB; have BK245 := n0_; have BK254 := n1_; have HB := n2_; have BK261 := n3_; have GW261 := n4_; have GE261 := n5_; have NB245_261 := n6_; have NB261_245 := n7_; have NB254_261 := n8_; have NB261_254 := n9_; clear n0_ n1_ n2_ n3_ n4_ n5_ n6_ n7_ n8_ n9_; clear hb hbox hg; have hnb26 := NB261_245.out; have hnc26 := NB245_261.out; have hnb27 := NB261_254.out; have hnc27 := NB254_261.out; have hcz28_0 : w25.cell? ⟨gb261, 0, none⟩ = some (.int .i64 0) := (blk_cell BK261.out 0).trans rfl; have hcz28_1 : w25.cell? ⟨gb261, 1, none⟩ = some (.int .i64 0) := (blk_cell BK261.out 1).trans rfl; have hcz28_2 : w25.cell? ⟨gb261, 2, none⟩ = some (.int .i64 0) := (blk_cell BK261.out 2).trans rfl; have hcz28_3 : w25.cell? ⟨gb261, 3, none⟩ = some (.int .i64 0) := (blk_cell BK261.out 3).trans rfl; have hcz28_4 : w25.cell? ⟨gb261, 4, none⟩ = some (.int .i64 0) := (blk_cell BK261.out 4).trans rfl; have hfz28_0 := blk_frozen BK261.out 0; have hfz28_1 := blk_frozen BK261.out 1; have hfz28_2 := blk_frozen BK261.out 2; have hfz28_3 := blk_frozen BK261.out 3; have hfz28_4 := blk_frozen BK261.out 4))
        (try simp only [Act.put, List.setIfInBounds_toArray, List.set_cons_zero, List.set_cons_succ])
        go_cut [68] (fun v68 wc => ∃ (kq : Nat) (x68_16 : Bool), v68 = .bool x68_16 ∧ Aside0 (parquetrylaw18_ClipFits.j1 kq l0 a2 x68_16 a1_0 a1_1 a1_2 a1_3 a1_4 t248 t249 t250 t251 t252 t255 t256 t257 t258 t259 = some r) ∧ Aside0 (kq ≤ kj3) ∧ Aside0 (wc.heap[gb245]? = some (.cells #[.int .i64 a1_0, .int .i64 a1_1, .int .i64 a1_2, .int .i64 a1_3, .int .i64 a1_4] 29 (0, 0))) ∧ Aside0 (wc.heap[gb254]? = some (.cells #[.int .i64 t248, .int .i64 t249, .int .i64 t250, .int .i64 t251, .int .i64 t252] 29 (0, 0))) ∧ Aside0 (wc.heap[gb261]? = some (.cells #[.int .i64 t255, .int .i64 t256, .int .i64 t257, .int .i64 t258, .int .i64 t259] 29 (0, 0))) ∧ Aside0 (Below w.heap.size w wc))
        case first =>
          have H := HC17.out
          clear HC17
          by_cases c29 : t253 = 0
          · rw [if_pos c29] at H
            have c29b0 : (t253 == 0) = true := beq_iff_eq.mpr c29
            have c29b1 : (t253 != 0) = false := bne_eq_false_iff_eq.mpr c29
            clear c29
            (first | rw [c29b0] | (simp only [i64_w, i32_w]; rw [c29b0]) | skip)
            by_cases c30 : t260 = 0
            · rw [if_pos c30] at H
              have c30b0 : (t260 == 0) = true := beq_iff_eq.mpr c30
              have c30b1 : (t260 != 0) = false := bne_eq_false_iff_eq.mpr c30
              clear c30
              by_cases c31 : t259 = 1
              · rw [if_pos c31] at H
                have c31b0 : (t259 == 1) = true := beq_iff_eq.mpr c31
                have c31b1 : (t259 != 1) = false := bne_eq_false_iff_eq.mpr c31
                clear c31
                by_cases c32 : t252 = 1
                · rw [if_pos c32] at H
                  have c32b0 : (t252 == 1) = true := beq_iff_eq.mpr c32
                  have c32b1 : (t252 != 1) = false := bne_eq_false_iff_eq.mpr c32
                  clear c32
                  have H' := Aside0.mk H
                  clear H
                  have hnb33 := NB261_245.out
                  have hnc33 := NB245_261.out
                  have hnb34 := NB261_254.out
                  have hnc34 := NB254_261.out
                  have hcz35_0 : w25.cell? ⟨gb261, 0, none⟩ = some (.int .i64 0) := (blk_cell BK261.out 0).trans rfl
                  have hcz35_1 : w25.cell? ⟨gb261, 1, none⟩ = some (.int .i64 0) := (blk_cell BK261.out 1).trans rfl
                  have hcz35_2 : w25.cell? ⟨gb261, 2, none⟩ = some (.int .i64 0) := (blk_cell BK261.out 2).trans rfl
                  have hcz35_3 : w25.cell? ⟨gb261, 3, none⟩ = some (.int .i64 0) := (blk_cell BK261.out 3).trans rfl
                  have hcz35_4 : w25.cell? ⟨gb261, 4, none⟩ = some (.int .i64 0) := (blk_cell BK261.out 4).trans rfl
                  have hfz35_0 := blk_frozen BK261.out 0
                  have hfz35_1 := blk_frozen BK261.out 1
                  have hfz35_2 := blk_frozen BK261.out 2
                  have hfz35_3 := blk_frozen BK261.out 3
                  have hfz35_4 := blk_frozen BK261.out 4
                  have hnb36 := NB254_245.out
                  have hnc36 := NB245_254.out
                  have hcz37_0 : w25.cell? ⟨gb254, 0, none⟩ = some (.int .i64 t248) := (blk_cell BK254.out 0).trans rfl
                  have hcz37_1 : w25.cell? ⟨gb254, 1, none⟩ = some (.int .i64 t249) := (blk_cell BK254.out 1).trans rfl
                  have hcz37_2 : w25.cell? ⟨gb254, 2, none⟩ = some (.int .i64 t250) := (blk_cell BK254.out 2).trans rfl
                  have hcz37_3 : w25.cell? ⟨gb254, 3, none⟩ = some (.int .i64 t251) := (blk_cell BK254.out 3).trans rfl
                  have hcz37_4 : w25.cell? ⟨gb254, 4, none⟩ = some (.int .i64 t252) := (blk_cell BK254.out 4).trans rfl
                  have hfz37_0 := blk_frozen BK254.out 0
                  have hfz37_1 := blk_frozen BK254.out 1
                  have hfz37_2 := blk_frozen BK254.out 2
                  have hfz37_3 := blk_frozen BK254.out 3
                  have hfz37_4 := blk_frozen BK254.out 4
                  go_wp2
                  go_meet
                  case rel => exact ⟨_, ((!(t248 == t255) || (!(t249 == t256) || (!(t250 == t257) || (!(t251 == t258) || (!(t252 == t259))))))), (by first | rfl | (simp; done) | (simp [*]; done)), H', ⟨by have := HJ3.out; first | omega | exact Nat.le_refl _⟩, ⟨by (with_reducible repeat (first | refine blk_drewN ?_ _ | refine blk_drew ?_ | refine blk_alloc ?_ _)); refine blk_far ?_ NB245_261.out _; (with_reducible repeat (first | refine blk_drewN ?_ _ | refine blk_drew ?_ | refine blk_alloc ?_ _)); refine blk_far ?_ NB245_261.out _; (with_reducible repeat (first | refine blk_drewN ?_ _ | refine blk_drew ?_ | refine blk_alloc ?_ _)); refine blk_far ?_ NB245_261.out _; (with_reducible repeat (first | refine blk_drewN ?_ _ | refine blk_drew ?_ | refine blk_alloc ?_ _)); refine blk_far ?_ NB245_261.out _; (with_reducible repeat (first | refine blk_drewN ?_ _ | refine blk_drew ?_ | refine blk_alloc ?_ _)); refine blk_far ?_ NB245_261.out _; exact BK245.out⟩, ⟨by (with_reducible repeat (first | refine blk_drewN ?_ _ | refine blk_drew ?_ | refine blk_alloc ?_ _)); refine blk_far ?_ NB254_261.out _; (with_reducible repeat (first | refine blk_drewN ?_ _ | refine blk_drew ?_ | refine blk_alloc ?_ _)); refine blk_far ?_ NB254_261.out _; (with_reducible repeat (first | refine blk_drewN ?_ _ | refine blk_drew ?_ | refine blk_alloc ?_ _)); refine blk_far ?_ NB254_261.out _; (with_reducible repeat (first | refine blk_drewN ?_ _ | refine blk_drew ?_ | refine blk_alloc ?_ _)); refine blk_far ?_ NB254_261.out _; (with_reducible repeat (first | refine blk_drewN ?_ _ | refine blk_drew ?_ | refine blk_alloc ?_ _)); refine blk_far ?_ NB254_261.out _; exact BK254.out⟩, ⟨by (with_reducible repeat (first | refine blk_drewN ?_ _ | refine blk_drew ?_ | refine blk_alloc ?_ _)); refine blk_put (cs := #[.int .i64 t255, .int .i64 t256, .int .i64 t257, .int .i64 t258, .int .i64 0]) ?_ 4 _ rfl; (with_reducible repeat (first | refine blk_drewN ?_ _ | refine blk_drew ?_ | refine blk_alloc ?_ _)); refine blk_put (cs := #[.int .i64 t255, .int .i64 t256, .int .i64 t257, .int .i64 0, .int .i64 0]) ?_ 3 _ rfl; (with_reducible repeat (first | refine blk_drewN ?_ _ | refine blk_drew ?_ | refine blk_alloc ?_ _)); refine blk_put (cs := #[.int .i64 t255, .int .i64 t256, .int .i64 0, .int .i64 0, .int .i64 0]) ?_ 2 _ rfl; (with_reducible repeat (first | refine blk_drewN ?_ _ | refine blk_drew ?_ | refine blk_alloc ?_ _)); refine blk_put (cs := #[.int .i64 t255, .int .i64 0, .int .i64 0, .int .i64 0, .int .i64 0]) ?_ 1 _ rfl; (with_reducible repeat (first | refine blk_drewN ?_ _ | refine blk_drew ?_ | refine blk_alloc ?_ _)); refine blk_put (cs := #[.int .i64 0, .int .i64 0, .int .i64 0, .int .i64 0, .int .i64 0]) ?_ 0 _ rfl; exact BK261.out⟩, ⟨by repeat (first | (with_reducible first | exact HB.out | apply below_alloc | apply pw_below_drewN | apply below_drew1 | refine below_set ?_ GE245.out | refine below_set ?_ GE254.out | refine below_set ?_ GE261.out) | exact HB.out)⟩⟩
                · rw [if_neg c32] at H
                  have c32b0 : (t252 == 1) = false := beq_eq_false_iff_ne.mpr c32
                  have c32b1 : (t252 != 1) = true := bne_iff_ne.mpr c32
                  have H' := Aside0.mk H
                  clear H
                  have hnb38 := NB261_245.out
                  have hnc38 := NB245_261.out
                  have hnb39 := NB261_254.out
                  have hnc39 := NB254_261.out
                  have hcz40_0 : w25.cell? ⟨gb261, 0, none⟩ = some (.int .i64 0) := (blk_cell BK261.out 0).trans rfl
                  have hcz40_1 : w25.cell? ⟨gb261, 1, none⟩ = some (.int .i64 0) := (blk_cell BK261.out 1).trans rfl
                  have hcz40_2 : w25.cell? ⟨gb261, 2, none⟩ = some (.int .i64 0) := (blk_cell BK261.out 2).trans rfl
                  have hcz40_3 : w25.cell? ⟨gb261, 3, none⟩ = some (.int .i64 0) := (blk_cell BK261.out 3).trans rfl
                  have hcz40_4 : w25.cell? ⟨gb261, 4, none⟩ = some (.int .i64 0) := (blk_cell BK261.out 4).trans rfl
                  have hfz40_0 := blk_frozen BK261.out 0
                  have hfz40_1 := blk_frozen BK261.out 1
                  have hfz40_2 := blk_frozen BK261.out 2
                  have hfz40_3 := blk_frozen BK261.out 3
                  have hfz40_4 := blk_frozen BK261.out 4
                  have hnb41 := NB254_245.out
                  have hnc41 := NB245_254.out
                  have hcz42_0 : w25.cell? ⟨gb254, 0, none⟩ = some (.int .i64 t248) := (blk_cell BK254.out 0).trans rfl
                  have hcz42_1 : w25.cell? ⟨gb254, 1, none⟩ = some (.int .i64 t249) := (blk_cell BK254.out 1).trans rfl
                  have hcz42_2 : w25.cell? ⟨gb254, 2, none⟩ = some (.int .i64 t250) := (blk_cell BK254.out 2).trans rfl
                  have hcz42_3 : w25.cell? ⟨gb254, 3, none⟩ = some (.int .i64 t251) := (blk_cell BK254.out 3).trans rfl
                  have hcz42_4 : w25.cell? ⟨gb254, 4, none⟩ = some (.int .i64 t252) := (blk_cell BK254.out 4).trans rfl
                  have hfz42_0 := blk_frozen BK254.out 0
                  have hfz42_1 := blk_frozen BK254.out 1
                  have hfz42_2 := blk_frozen BK254.out 2
                  have hfz42_3 := blk_frozen BK254.out 3
                  have hfz42_4 := blk_frozen BK254.out 4
                  go_wp2
                  go_meet
                  case rel => exact ⟨_, (false), (by first | rfl | (simp; done) | (simp [*]; done)), H', ⟨by have := HJ3.out; first | omega | exact Nat.le_refl _⟩, ⟨by (with_reducible repeat (first | refine blk_drewN ?_ _ | refine blk_drew ?_ | refine blk_alloc ?_ _)); refine blk_far ?_ NB245_261.out _; (with_reducible repeat (first | refine blk_drewN ?_ _ | refine blk_drew ?_ | refine blk_alloc ?_ _)); refine blk_far ?_ NB245_261.out _; (with_reducible repeat (first | refine blk_drewN ?_ _ | refine blk_drew ?_ | refine blk_alloc ?_ _)); refine blk_far ?_ NB245_261.out _; (with_reducible repeat (first | refine blk_drewN ?_ _ | refine blk_drew ?_ | refine blk_alloc ?_ _)); refine blk_far ?_ NB245_261.out _; (with_reducible repeat (first | refine blk_drewN ?_ _ | refine blk_drew ?_ | refine blk_alloc ?_ _)); refine blk_far ?_ NB245_261.out _; exact BK245.out⟩, ⟨by (with_reducible repeat (first | refine blk_drewN ?_ _ | refine blk_drew ?_ | refine blk_alloc ?_ _)); refine blk_far ?_ NB254_261.out _; (with_reducible repeat (first | refine blk_drewN ?_ _ | refine blk_drew ?_ | refine blk_alloc ?_ _)); refine blk_far ?_ NB254_261.out _; (with_reducible repeat (first | refine blk_drewN ?_ _ | refine blk_drew ?_ | refine blk_alloc ?_ _)); refine blk_far ?_ NB254_261.out _; (with_reducible repeat (first | refine blk_drewN ?_ _ | refine blk_drew ?_ | refine blk_alloc ?_ _)); refine blk_far ?_ NB254_261.out _; (with_reducible repeat (first | refine blk_drewN ?_ _ | refine blk_drew ?_ | refine blk_alloc ?_ _)); refine blk_far ?_ NB254_261.out _; exact BK254.out⟩, ⟨by (with_reducible repeat (first | refine blk_drewN ?_ _ | refine blk_drew ?_ | refine blk_alloc ?_ _)); refine blk_put (cs := #[.int .i64 t255, .int .i64 t256, .int .i64 t257, .int .i64 t258, .int .i64 0]) ?_ 4 _ rfl; (with_reducible repeat (first | refine blk_drewN ?_ _ | refine blk_drew ?_ | refine blk_alloc ?_ _)); refine blk_put (cs := #[.int .i64 t255, .int .i64 t256, .int .i64 t257, .int .i64 0, .int .i64 0]) ?_ 3 _ rfl; (with_reducible repeat (first | refine blk_drewN ?_ _ | refine blk_drew ?_ | refine blk_alloc ?_ _)); refine blk_put (cs := #[.int .i64 t255, .int .i64 t256, .int .i64 0, .int .i64 0, .int .i64 0]) ?_ 2 _ rfl; (with_reducible repeat (first | refine blk_drewN ?_ _ | refine blk_drew ?_ | refine blk_alloc ?_ _)); refine blk_put (cs := #[.int .i64 t255, .int .i64 0, .int .i64 0, .int .i64 0, .int .i64 0]) ?_ 1 _ rfl; (with_reducible repeat (first | refine blk_drewN ?_ _ | refine blk_drew ?_ | refine blk_alloc ?_ _)); refine blk_put (cs := #[.int .i64 0, .int .i64 0, .int .i64 0, .int .i64 0, .int .i64 0]) ?_ 0 _ rfl; exact BK261.out⟩, ⟨by repeat (first | (with_reducible first | exact HB.out | apply below_alloc | apply pw_below_drewN | apply below_drew1 | refine below_set ?_ GE245.out | refine below_set ?_ GE254.out | refine below_set ?_ GE261.out) | exact HB.out)⟩⟩
              · rw [if_neg c31] at H
                exact absurd H (by simp)
            · rw [if_neg c30] at H
              exact absurd H (by simp)
          · rw [if_neg c29] at H
            exact absurd H (by simp)
        case rest =>
          clear HC17
          try clear c1
          try clear c2
          try clear p2
          try clear c3
          try clear c4
          try clear c6
          try clear c6b0
          try clear c6b1
          try clear c7
          try clear c7b0
          try clear c8
          try clear c8b0
          try clear c10
          try clear c12
          try clear c13
          try clear c21
          try clear c26
          try clear c27
          try clear c29
          try clear c29b0
          try clear c29b1
          try clear c30
          try clear c30b0
          try clear c30b1
          try clear c31
          try clear c31b0
          try clear c31b1
          try clear c32
          try clear c32b0
          try clear c32b1
          try clear c33
          try clear c34
          try clear c36
          try clear c38
          try clear c39
          try clear c41
          try clear c43
          try clear c44
          try clear hcz10_0
          try clear hcz10_1
          try clear hcz10_2
          try clear hcz10_3
          try clear hcz10_4
          try clear hcz18_0
          try clear hcz18_1
          try clear hcz18_2
          try clear hcz18_3
          try clear hcz18_4
          try clear hcz22_0
          try clear hcz22_1
          try clear hcz22_2
          try clear hcz22_3
          try clear hcz22_4
          try clear hcz23_0
          try clear hcz23_1
          try clear hcz23_2
          try clear hcz23_3
          try clear hcz23_4
          try clear hcz28_0
          try clear hcz28_1
          try clear hcz28_2
          try clear hcz28_3
          try clear hcz28_4
          try clear hcz35_0
          try clear hcz35_1
          try clear hcz35_2
          try clear hcz35_3
          try clear hcz35_4
          try clear hcz37_0
          try clear hcz37_1
          try clear hcz37_2
          try clear hcz37_3
          try clear hcz37_4
          try clear hcz40_0
          try clear hcz40_1
          try clear hcz40_2
          try clear hcz40_3
          try clear hcz40_4
          try clear hcz42_0
          try clear hcz42_1
          try clear hcz42_2
          try clear hcz42_3
          try clear hcz42_4
          try clear hcz45_0
          try clear hcz45_1
          try clear hcz45_2
          try clear hcz45_3
          try clear hcz45_4
          try clear hfz10_0
          try clear hfz10_1
          try clear hfz10_2
          try clear hfz10_3
          try clear hfz10_4
          try clear hfz18_0
          try clear hfz18_1
          try clear hfz18_2
          try clear hfz18_3
          try clear hfz18_4
          try clear hfz22_0
          try clear hfz22_1
          try clear hfz22_2
          try clear hfz22_3
          try clear hfz22_4
          try clear hfz23_0
          try clear hfz23_1
          try clear hfz23_2
          try clear hfz23_3
          try clear hfz23_4
          try clear hfz28_0
          try clear hfz28_1
          try clear hfz28_2
          try clear hfz28_3
          try clear hfz28_4
          try clear hfz35_0
          try clear hfz35_1
          try clear hfz35_2
          try clear hfz35_3
          try clear hfz35_4
          try clear hfz37_0
          try clear hfz37_1
          try clear hfz37_2
          try clear hfz37_3
          try clear hfz37_4
          try clear hfz40_0
          try clear hfz40_1
          try clear hfz40_2
          try clear hfz40_3
          try clear hfz40_4
          try clear hfz42_0
          try clear hfz42_1
          try clear hfz42_2
          try clear hfz42_3
          try clear hfz42_4
          try clear hfz45_0
          try clear hfz45_1
          try clear hfz45_2
          try clear hfz45_3
          try clear hfz45_4
          try clear p2
          obtain ⟨kq, x68_16, rfl, HA, HJ16, BK245, BK254, BK261, HB⟩ := hcut
          cases kq with
          | zero => exact absurd HA.out (by simp [parquetrylaw18_ClipFits.j1])
          | succ kj16 =>
            have H := HA.out
            clear HA
            simp only [parquetrylaw18_ClipFits.j1] at H
            by_cases c46 : x68_16 = true
            · subst c46
              have H1 : (none) = some r := by rw [if_pos rfl] at H; exact H
              clear H
              have H := H1
              clear H1
              exact absurd H (by simp)
            · replace c46 := Bool.eq_false_iff.mpr c46
              subst c46
              have H1 : (parquetrylaw18_ClipFits.l0 kj16 l0 a2 (([(⟨t248, t249, t250, t251, t252⟩ : S29), (⟨t255, t256, t257, t258, t259⟩ : S29)] : List (S29))) 0 a1_0 a1_1 a1_2 a1_3 a1_4 t248 t249 t250 t251 t252) = some r := by rw [if_neg (show ¬ (false = true) by decide)] at H; exact H
              clear H
              have H := H1
              clear H1
              obtain ⟨y262, hy262⟩ : ∃ y_ : List (S29), y_ = (([(⟨t248, t249, t250, t251, t252⟩ : S29), (⟨t255, t256, t257, t258, t259⟩ : S29)] : List (S29))) := ⟨_, rfl⟩
              replace H : (parquetrylaw18_ClipFits.l0 kj16 l0 a2 y262 0 a1_0 a1_1 a1_2 a1_3 a1_4 t248 t249 t250 t251 t252) = some r := by first | (rw [hy262]; with_reducible exact H) | (have H2_ := (Option.bind_some _ _).symm.trans H; rw [hy262]; with_reducible exact H2_) | (have H2_ := (Option.bind_some _ _).symm.trans H; with_reducible exact H2_) | with_reducible exact H | (rw [hy262]; exact H) | exact H
              have Ny262 := Aside0.mk hy262
              clear hy262
              have H' := Aside0.mk H
              clear H
              have hnb47 := NB254_245.out
              have hnc47 := NB245_254.out
              have hnb48 := NB254_261.out
              have hnc48 := NB261_254.out
              have hcz49_0 : wc.cell? ⟨gb254, 0, none⟩ = some (.int .i64 t248) := (blk_cell BK254.out 0).trans rfl
              have hcz49_1 : wc.cell? ⟨gb254, 1, none⟩ = some (.int .i64 t249) := (blk_cell BK254.out 1).trans rfl
              have hcz49_2 : wc.cell? ⟨gb254, 2, none⟩ = some (.int .i64 t250) := (blk_cell BK254.out 2).trans rfl
              have hcz49_3 : wc.cell? ⟨gb254, 3, none⟩ = some (.int .i64 t251) := (blk_cell BK254.out 3).trans rfl
              have hcz49_4 : wc.cell? ⟨gb254, 4, none⟩ = some (.int .i64 t252) := (blk_cell BK254.out 4).trans rfl
              have hfz49_0 := blk_frozen BK254.out 0
              have hfz49_1 := blk_frozen BK254.out 1
              have hfz49_2 := blk_frozen BK254.out 2
              have hfz49_3 := blk_frozen BK254.out 3
              have hfz49_4 := blk_frozen BK254.out 4
              have hnb50 := NB261_245.out
              have hnc50 := NB245_261.out
              have hcz51_0 : wc.cell? ⟨gb261, 0, none⟩ = some (.int .i64 t255) := (blk_cell BK261.out 0).trans rfl
              have hcz51_1 : wc.cell? ⟨gb261, 1, none⟩ = some (.int .i64 t256) := (blk_cell BK261.out 1).trans rfl
              have hcz51_2 : wc.cell? ⟨gb261, 2, none⟩ = some (.int .i64 t257) := (blk_cell BK261.out 2).trans rfl
              have hcz51_3 : wc.cell? ⟨gb261, 3, none⟩ = some (.int .i64 t258) := (blk_cell BK261.out 3).trans rfl
              have hcz51_4 : wc.cell? ⟨gb261, 4, none⟩ = some (.int .i64 t259) := (blk_cell BK261.out 4).trans rfl
              have hfz51_0 := blk_frozen BK261.out 0
              have hfz51_1 := blk_frozen BK261.out 1
              have hfz51_2 := blk_frozen BK261.out 2
              have hfz51_3 := blk_frozen BK261.out 3
              have hfz51_4 := blk_frozen BK261.out 4
              go_wp2_with (first | ((with_reducible refine gate_dst (N := 71) rfl ?_); refine Kd.R_lit k29 _ 29 ?hg (N := 71) ?hd (xs := ([(⟨t248, t249, t250, t251, t252⟩ : S29), (⟨t255, t256, t257, t258, t259⟩ : S29)] : List (S29))) (inner := [.int .i64 t248, .int .i64 t249, .int .i64 t250, .int .i64 t251, .int .i64 t252, .int .i64 t255, .int .i64 t256, .int .i64 t257, .int .i64 t258, .int .i64 t259]) (ok := fun _ => True) (okp := fun _ => True) ?hr ?hp (fun _ hk => hk) trivial (Below.refl _ _) (Nat.le_refl _) (by simp) ?_; (case hd => rfl); (case hg => rfl); (case hr => first | (go_simp; done) | (go_simp; rfl)); (case hp => exact (Reps.c5 (show Kd.M k29 _ _ _ (⟨t248, t249, t250, t251, t252⟩ : S29) [.int .i64 t248, .int .i64 t249, .int .i64 t250, .int .i64 t251, .int .i64 t252] from (k29_mkM _ _ _ (⟨t248, t249, t250, t251, t252⟩ : S29) )) (Reps.c5 (show Kd.M k29 _ _ _ (⟨t255, t256, t257, t258, t259⟩ : S29) [.int .i64 t255, .int .i64 t256, .int .i64 t257, .int .i64 t258, .int .i64 t259] from (k29_mkM _ _ _ (⟨t255, t256, t257, t258, t259⟩ : S29) )) (Reps.none _ _)))); intro v263 w52 ho53 hb hg_ hnew_; clear hg_ hnew_; (first | rw [← Ny262.out] at ho53 | (simp only [Int.reduceToNat] at ho53; rw [← Ny262.out] at ho53)); have n0_ := Aside0.mk (Kd.R_lower (Kd.R_newB (Kd.R_newB (Kd.R_newB ho53 (g := gb245) (o := .cells #[.int .i64 a1_0, .int .i64 a1_1, .int .i64 a1_2, .int .i64 a1_3, .int .i64 a1_4] 29 (0, 0)) (by exact BK245.out)) (g := gb254) (o := .cells #[.int .i64 t248, .int .i64 t249, .int .i64 t250, .int .i64 t251, .int .i64 t252] 29 (0, 0)) (by exact BK254.out)) (g := gb261) (o := .cells #[.int .i64 t255, .int .i64 t256, .int .i64 t257, .int .i64 t258, .int .i64 t259] 29 (0, 0)) (by exact BK261.out)) (below_size (by repeat (first | (with_reducible first | exact HB.out | apply below_alloc | apply pw_below_drewN | apply below_drew1 | refine below_set ?_ GE245.out | refine below_set ?_ GE254.out | refine below_set ?_ GE261.out) | exact HB.out)))); have n1_ := Aside0.mk (blk_below (g := gb245) (o := .cells #[.int .i64 a1_0, .int .i64 a1_1, .int .i64 a1_2, .int .i64 a1_3, .int .i64 a1_4] 29 (0, 0)) (by exact BK245.out) hb); have n2_ := Aside0.mk (blk_below (g := gb254) (o := .cells #[.int .i64 t248, .int .i64 t249, .int .i64 t250, .int .i64 t251, .int .i64 t252] 29 (0, 0)) (by exact BK254.out) hb); have n3_ := Aside0.mk (blk_below (g := gb261) (o := .cells #[.int .i64 t255, .int .i64 t256, .int .i64 t257, .int .i64 t258, .int .i64 t259] 29 (0, 0)) (by exact BK261.out) hb); have n4_ := Aside0.mk (below_step (by repeat (first | (with_reducible first | exact HB.out | apply below_alloc | apply pw_below_drewN | apply below_drew1 | refine below_set ?_ GE245.out | refine below_set ?_ GE254.out | refine below_set ?_ GE261.out) | exact HB.out)) hb); clear BK245; clear BK254; clear BK261; clear HB; have HO264 := n0_; have BK245 := n1_; have BK254 := n2_; have BK261 := n3_; have HB := n4_; clear n0_ n1_ n2_ n3_ n4_; clear hb ho53))
              go_loopg [12] kj16 (fun kq v12 w' => ∃ (x12_3 : Int), v12 = .int .i64 x12_3 ∧ Aside0 (parquetrylaw18_ClipFits.l0 kq l0 a2 y262 x12_3 a1_0 a1_1 a1_2 a1_3 a1_4 t248 t249 t250 t251 t252 = some r) ∧ Aside0 (kq ≤ kj16) ∧ Aside0 (Kd.R k29 29 w' w.heap.size (fun k_ => k_ ≠ gb245 ∧ k_ ≠ gb254 ∧ k_ ≠ gb261) v263 y262) ∧ Aside0 (w'.heap[gb245]? = some (.cells #[.int .i64 a1_0, .int .i64 a1_1, .int .i64 a1_2, .int .i64 a1_3, .int .i64 a1_4] 29 (0, 0))) ∧ Aside0 (w'.heap[gb254]? = some (.cells #[.int .i64 t248, .int .i64 t249, .int .i64 t250, .int .i64 t251, .int .i64 t252] 29 (0, 0))) ∧ Aside0 (w'.heap[gb261]? = some (.cells #[.int .i64 t255, .int .i64 t256, .int .i64 t257, .int .i64 t258, .int .i64 t259] 29 (0, 0))) ∧ Aside0 (Below w.heap.size w w'))
              case atStart => exact ⟨(0), (by first | rfl | (simp; done) | (simp [*]; done)), H', ⟨Nat.le_refl _⟩, ⟨by (with_reducible repeat (first | apply Kd.R_alloc | apply Kd.R_drewN | apply Kd.R_drew)); exact Kd.R_mono HO264.out (fun _ hk => ⟨hk.1.1.2, ⟨hk.1.2, hk.2⟩⟩)⟩, ⟨by exact BK245.out⟩, ⟨by exact BK254.out⟩, ⟨by exact BK261.out⟩, ⟨by repeat (first | (with_reducible first | exact HB.out | apply below_alloc | apply pw_below_drewN | apply below_drew1 | refine below_set ?_ GE245.out | refine below_set ?_ GE254.out | refine below_set ?_ GE261.out) | exact HB.out)⟩⟩
              case round =>
                clear H'
                try clear c1
                try clear c2
                try clear p2
                try clear c3
                try clear c4
                try clear c5
                try clear c6
                try clear c6b0
                try clear c6b1
                try clear c7
                try clear c7b0
                try clear c8
                try clear c8b0
                try clear c10
                try clear c12
                try clear c13
                try clear c21
                try clear c26
                try clear c27
                try clear c29
                try clear c29b0
                try clear c29b1
                try clear c30
                try clear c30b0
                try clear c30b1
                try clear c31
                try clear c31b0
                try clear c31b1
                try clear c32
                try clear c32b0
                try clear c32b1
                try clear c33
                try clear c34
                try clear c36
                try clear c38
                try clear c39
                try clear c41
                try clear c43
                try clear c44
                try clear c46
                try clear c47
                try clear c48
                try clear c50
                try clear hcz10_0
                try clear hcz10_1
                try clear hcz10_2
                try clear hcz10_3
                try clear hcz10_4
                try clear hcz18_0
                try clear hcz18_1
                try clear hcz18_2
                try clear hcz18_3
                try clear hcz18_4
                try clear hcz22_0
                try clear hcz22_1
                try clear hcz22_2
                try clear hcz22_3
                try clear hcz22_4
                try clear hcz23_0
                try clear hcz23_1
                try clear hcz23_2
                try clear hcz23_3
                try clear hcz23_4
                try clear hcz28_0
                try clear hcz28_1
                try clear hcz28_2
                try clear hcz28_3
                try clear hcz28_4
                try clear hcz35_0
                try clear hcz35_1
                try clear hcz35_2
                try clear hcz35_3
                try clear hcz35_4
                try clear hcz37_0
                try clear hcz37_1
                try clear hcz37_2
                try clear hcz37_3
                try clear hcz37_4
                try clear hcz40_0
                try clear hcz40_1
                try clear hcz40_2
                try clear hcz40_3
                try clear hcz40_4
                try clear hcz42_0
                try clear hcz42_1
                try clear hcz42_2
                try clear hcz42_3
                try clear hcz42_4
                try clear hcz45_0
                try clear hcz45_1
                try clear hcz45_2
                try clear hcz45_3
                try clear hcz45_4
                try clear hcz49_0
                try clear hcz49_1
                try clear hcz49_2
                try clear hcz49_3
                try clear hcz49_4
                try clear hcz51_0
                try clear hcz51_1
                try clear hcz51_2
                try clear hcz51_3
                try clear hcz51_4
                try clear hfz10_0
                try clear hfz10_1
                try clear hfz10_2
                try clear hfz10_3
                try clear hfz10_4
                try clear hfz18_0
                try clear hfz18_1
                try clear hfz18_2
                try clear hfz18_3
                try clear hfz18_4
                try clear hfz22_0
                try clear hfz22_1
                try clear hfz22_2
                try clear hfz22_3
                try clear hfz22_4
                try clear hfz23_0
                try clear hfz23_1
                try clear hfz23_2
                try clear hfz23_3
                try clear hfz23_4
                try clear hfz28_0
                try clear hfz28_1
                try clear hfz28_2
                try clear hfz28_3
                try clear hfz28_4
                try clear hfz35_0
                try clear hfz35_1
                try clear hfz35_2
                try clear hfz35_3
                try clear hfz35_4
                try clear hfz37_0
                try clear hfz37_1
                try clear hfz37_2
                try clear hfz37_3
                try clear hfz37_4
                try clear hfz40_0
                try clear hfz40_1
                try clear hfz40_2
                try clear hfz40_3
                try clear hfz40_4
                try clear hfz42_0
                try clear hfz42_1
                try clear hfz42_2
                try clear hfz42_3
                try clear hfz42_4
                try clear hfz45_0
                try clear hfz45_1
                try clear hfz45_2
                try clear hfz45_3
                try clear hfz45_4
                try clear hfz49_0
                try clear hfz49_1
                try clear hfz49_2
                try clear hfz49_3
                try clear hfz49_4
                try clear hfz51_0
                try clear hfz51_1
                try clear hfz51_2
                try clear hfz51_3
                try clear hfz51_4
                try clear p2
                obtain ⟨x12_3, rfl, HA, HK3, HO_11, BK245, BK254, BK261, HB⟩ := hrel
                cases gk with
                | zero => exact absurd HA.out (by simp [parquetrylaw18_ClipFits.l0])
                | succ k3 =>
                  have H := HA.out
                  clear HA
                  simp only [parquetrylaw18_ClipFits.l0] at H
                  by_cases c54 : x12_3 < (y262.length : Int)
                  · rw [if_pos c54] at H
                    have c54b0 : decide (x12_3 < (y262.length : Int)) = true := decide_eq_true c54
                    clear c54
                    by_cases c55 : 0 ≤ x12_3
                    · rw [if_pos c55] at H
                      have c55b0 : decide (0 ≤ x12_3) = true := decide_eq_true c55
                      clear c55
                      have HC56 := Aside0.mk H
                      clear H
                      obtain ⟨Ao57, co57, eo57⟩ := Kd.R_slice HO_11.out
                      subst eo57
                      have p274 : 0 ≤ (x12_3 : Int) := of_decide_eq_true (by first | (with_reducible assumption) | assumption)
                      have q274 : x12_3 < (y262.length : Int) := of_decide_eq_true (by first | (with_reducible assumption) | assumption)
                      obtain ⟨ad274, e274, hx274_0, hx274_1, hx274_2, hx274_3, hx274_4⟩ := at_T29 (Kd.R_reads' HO_11.out).2.2 x12_3 p274 q274
                      cases e274
                      replace p274 := eq_true p274
                      replace q274 := eq_true q274
                      go_upto_region 12 with (first | ((with_reducible refine gate_dst (N := 13) rfl ?_); refine box_event ?hg (N := 13) ?hd (cs := #[.int .i64 0, .int .i64 0, .int .i64 0, .int .i64 0, .int .i64 0]) (t := 29) ?hr ?_; (case hd => rfl); (case hg => rfl); (case hr => first | (go_simp; done) | (go_simp; rfl)); intro gb275 hg w58 hbox hb; have n0_ := Aside0.mk (Kd.R_below (Kd.R_elderB (by (with_reducible repeat (first | apply Kd.R_alloc | apply Kd.R_drewN | apply Kd.R_drew)); exact HO_11.out) gb275 (Nat.le_of_eq hg.symm)) hb); have n1_ := Aside0.mk (blk_below (g := gb245) (o := .cells #[.int .i64 a1_0, .int .i64 a1_1, .int .i64 a1_2, .int .i64 a1_3, .int .i64 a1_4] 29 (0, 0)) (by exact BK245.out) hb); have n2_ := Aside0.mk (blk_below (g := gb254) (o := .cells #[.int .i64 t248, .int .i64 t249, .int .i64 t250, .int .i64 t251, .int .i64 t252] 29 (0, 0)) (by exact BK254.out) hb); have n3_ := Aside0.mk (blk_below (g := gb261) (o := .cells #[.int .i64 t255, .int .i64 t256, .int .i64 t257, .int .i64 t258, .int .i64 t259] 29 (0, 0)) (by exact BK261.out) hb); have n4_ := Aside0.mk (below_step (by repeat (first | (with_reducible first | exact HB.out | apply below_alloc | apply pw_below_drewN | apply below_drew1 | refine below_set ?_ GE245.out | refine below_set ?_ GE254.out | refine below_set ?_ GE261.out) | exact HB.out)) hb); have n5_ := Aside0.mk (hbox); have n6_ := Aside0.mk ((by rw [hg]; exact (below_size (by repeat (first | (with_reducible first | exact HB.out | apply below_alloc | apply pw_below_drewN | apply below_drew1 | refine below_set ?_ GE245.out | refine below_set ?_ GE254.out | refine below_set ?_ GE261.out) | exact HB.out))) : w.heap.size ≤ gb275)); have n7_ := Aside0.mk ((by rw [hg]; exact (below_size (by repeat (first | (with_reducible first | exact HB.out | apply below_alloc | apply pw_below_drewN | apply below_drew1 | refine below_set ?_ GE245.out | refine below_set ?_ GE254.out | refine below_set ?_ GE261.out) | exact HB.out))) : w.heap.size ≤ gb275)); have n8_ := Aside0.mk ((by rw [hg]; exact Nat.ne_of_lt (blk_lt (g := gb245) (o := .cells #[.int .i64 a1_0, .int .i64 a1_1, .int .i64 a1_2, .int .i64 a1_3, .int .i64 a1_4] 29 (0, 0)) (by exact BK245.out)) : gb245 ≠ gb275)); have n9_ := Aside0.mk ((by rw [hg]; exact Nat.ne_of_gt (blk_lt (g := gb245) (o := .cells #[.int .i64 a1_0, .int .i64 a1_1, .int .i64 a1_2, .int .i64 a1_3, .int .i64 a1_4] 29 (0, 0)) (by exact BK245.out)) : gb275 ≠ gb245)); have n10_ := Aside0.mk ((by rw [hg]; exact Nat.ne_of_lt (blk_lt (g := gb254) (o := .cells #[.int .i64 t248, .int .i64 t249, .int .i64 t250, .int .i64 t251, .int .i64 t252] 29 (0, 0)) (by exact BK254.out)) : gb254 ≠ gb275)); have n11_ := Aside0.mk ((by rw [hg]; exact Nat.ne_of_gt (blk_lt (g := gb254) (o := .cells #[.int .i64 t248, .int .i64 t249, .int .i64 t250, .int .i64 t251, .int .i64 t252] 29 (0, 0)) (by exact BK254.out)) : gb275 ≠ gb254)); have n12_ := Aside0.mk ((by rw [hg]; exact Nat.ne_of_lt (blk_lt (g := gb261) (o := .cells #[.int .i64 t255, .int .i64 t256, .int .i64 t257, .int .i64 t258, .int .i64 t259] 29 (0, 0)) (by exact BK261.out)) : gb261 ≠ gb275)); have n13_ := Aside0.mk ((by rw [hg]; exact Nat.ne_of_gt (blk_lt (g := gb261) (o := .cells #[.int .i64 t255, .int .i64 t256, .int .i64 t257, .int .i64 t258, .int .i64 t259] 29 (0, 0)) (by exact BK261.out)) : gb275 ≠ gb261)); clear HO_11; clear BK245; clear BK254; clear BK261; clear HB; have HO_11 := n0_; have BK245 := n1_; have BK254 := n2_; have BK261 := n3_; have HB := n4_; have BK275 := n5_; have GW275 := n6_; have GE275 := n7_; have NB245_275 := n8_; have NB275_245 := n9_; have NB254_275 := n10_; have NB275_254 := n11_; have NB261_275 := n12_; have NB275_261 := n13_; clear n0_ n1_ n2_ n3_ n4_ n5_ n6_ n7_ n8_ n9_ n10_ n11_ n12_ n13_; clear hb hbox hg; have hnb59 := NB275_245.out; have hnc59 := NB245_275.out; have hnb60 := NB275_254.out; have hnc60 := NB254_275.out; have hnb61 := NB275_261.out; have hnc61 := NB261_275.out; have hcz62_0 : w58.cell? ⟨gb275, 0, none⟩ = some (.int .i64 0) := (blk_cell BK275.out 0).trans rfl; have hcz62_1 : w58.cell? ⟨gb275, 1, none⟩ = some (.int .i64 0) := (blk_cell BK275.out 1).trans rfl; have hcz62_2 : w58.cell? ⟨gb275, 2, none⟩ = some (.int .i64 0) := (blk_cell BK275.out 2).trans rfl; have hcz62_3 : w58.cell? ⟨gb275, 3, none⟩ = some (.int .i64 0) := (blk_cell BK275.out 3).trans rfl; have hcz62_4 : w58.cell? ⟨gb275, 4, none⟩ = some (.int .i64 0) := (blk_cell BK275.out 4).trans rfl; have hfz62_0 := blk_frozen BK275.out 0; have hfz62_1 := blk_frozen BK275.out 1; have hfz62_2 := blk_frozen BK275.out 2; have hfz62_3 := blk_frozen BK275.out 3; have hfz62_4 := blk_frozen BK275.out 4))
                      (try simp only [Act.put, List.setIfInBounds_toArray, List.set_cons_zero, List.set_cons_succ])
                      go_cut [121] (fun v121 wc => ∃ (kq : Nat) (x121_55 : Bool), v121 = .bool x121_55 ∧ Aside0 (parquetrylaw18_ClipFits.j3 kq l0 a2 y262 x12_3 x121_55 a1_0 a1_1 a1_2 a1_3 a1_4 t248 t249 t250 t251 t252 ((rd_T29 y262 x12_3).f0) ((rd_T29 y262 x12_3).f1) ((rd_T29 y262 x12_3).f2) ((rd_T29 y262 x12_3).f3) ((rd_T29 y262 x12_3).f4) = some r) ∧ Aside0 (kq ≤ k3) ∧ Aside0 (Kd.R k29 29 wc w.heap.size (fun k_ => k_ ≠ gb245 ∧ k_ ≠ gb254 ∧ k_ ≠ gb261 ∧ k_ ≠ gb275) (.slice (some ad274) y262.length co57) y262) ∧ Aside0 (wc.heap[gb245]? = some (.cells #[.int .i64 a1_0, .int .i64 a1_1, .int .i64 a1_2, .int .i64 a1_3, .int .i64 a1_4] 29 (0, 0))) ∧ Aside0 (wc.heap[gb254]? = some (.cells #[.int .i64 t248, .int .i64 t249, .int .i64 t250, .int .i64 t251, .int .i64 t252] 29 (0, 0))) ∧ Aside0 (wc.heap[gb261]? = some (.cells #[.int .i64 t255, .int .i64 t256, .int .i64 t257, .int .i64 t258, .int .i64 t259] 29 (0, 0))) ∧ Aside0 (wc.heap[gb275]? = some (.cells #[.int .i64 ((rd_T29 y262 x12_3).f0), .int .i64 ((rd_T29 y262 x12_3).f1), .int .i64 ((rd_T29 y262 x12_3).f2), .int .i64 ((rd_T29 y262 x12_3).f3), .int .i64 ((rd_T29 y262 x12_3).f4)] 29 (0, 0))) ∧ Aside0 (Below w.heap.size w wc))
                      case first =>
                        have H := HC56.out
                        clear HC56
                        by_cases c63 : ((rd_T29 y262 x12_3).f0) = a1_0
                        · rw [if_pos c63] at H
                          have c63b0 : (((rd_T29 y262 x12_3).f0) == a1_0) = true := beq_iff_eq.mpr c63
                          have c63b1 : (((rd_T29 y262 x12_3).f0) != a1_0) = false := bne_eq_false_iff_eq.mpr c63
                          clear c63
                          (first | rw [c63b0] | (simp only [i64_w, i32_w]; rw [c63b0]) | skip)
                          by_cases c64 : ((rd_T29 y262 x12_3).f1) = a1_1
                          · rw [if_pos c64] at H
                            have c64b0 : (((rd_T29 y262 x12_3).f1) == a1_1) = true := beq_iff_eq.mpr c64
                            have c64b1 : (((rd_T29 y262 x12_3).f1) != a1_1) = false := bne_eq_false_iff_eq.mpr c64
                            clear c64
                            by_cases c65 : ((rd_T29 y262 x12_3).f3) = a1_3
                            · rw [if_pos c65] at H
                              have c65b0 : (((rd_T29 y262 x12_3).f3) == a1_3) = true := beq_iff_eq.mpr c65
                              have c65b1 : (((rd_T29 y262 x12_3).f3) != a1_3) = false := bne_eq_false_iff_eq.mpr c65
                              clear c65
                              by_cases c66 : ((rd_T29 y262 x12_3).f2) < ((rd_T29 y262 x12_3).f0)
                              · rw [if_pos c66] at H
                                exact absurd H (by simp)
                              · rw [if_neg c66] at H
                                have c66b0 : decide (((rd_T29 y262 x12_3).f2) < ((rd_T29 y262 x12_3).f0)) = false := decide_eq_false c66
                                clear c66
                                by_cases c74 : ((rd_T29 y262 x12_3).f2) > a1_2
                                · rw [if_pos c74] at H
                                  exact absurd H (by simp)
                                · rw [if_neg c74] at H
                                  have c74b0 : decide (a1_2 < ((rd_T29 y262 x12_3).f2)) = false := decide_eq_false c74
                                  clear c74
                                  replace H := Option.bind_eq_some_iff.mp H
                                  obtain ⟨t276, A820, H⟩ := H
                                  replace H : (parquetrylaw18_ClipFits.j3 k3 l0 a2 y262 x12_3 (decide (t276 > a2)) a1_0 a1_1 a1_2 a1_3 a1_4 t248 t249 t250 t251 t252 ((rd_T29 y262 x12_3).f0) ((rd_T29 y262 x12_3).f1) ((rd_T29 y262 x12_3).f2) ((rd_T29 y262 x12_3).f3) ((rd_T29 y262 x12_3).f4)) = some r := H
                                  have A82 := Aside0.mk A820
                                  clear A820
                                  have H' := Aside0.mk H
                                  clear H
                                  have hnb83 := NB275_245.out
                                  have hnc83 := NB245_275.out
                                  have hnb84 := NB275_254.out
                                  have hnc84 := NB254_275.out
                                  have hnb85 := NB275_261.out
                                  have hnc85 := NB261_275.out
                                  have hcz86_0 : w58.cell? ⟨gb275, 0, none⟩ = some (.int .i64 0) := (blk_cell BK275.out 0).trans rfl
                                  have hcz86_1 : w58.cell? ⟨gb275, 1, none⟩ = some (.int .i64 0) := (blk_cell BK275.out 1).trans rfl
                                  have hcz86_2 : w58.cell? ⟨gb275, 2, none⟩ = some (.int .i64 0) := (blk_cell BK275.out 2).trans rfl
                                  have hcz86_3 : w58.cell? ⟨gb275, 3, none⟩ = some (.int .i64 0) := (blk_cell BK275.out 3).trans rfl
                                  have hcz86_4 : w58.cell? ⟨gb275, 4, none⟩ = some (.int .i64 0) := (blk_cell BK275.out 4).trans rfl
                                  have hfz86_0 := blk_frozen BK275.out 0
                                  have hfz86_1 := blk_frozen BK275.out 1
                                  have hfz86_2 := blk_frozen BK275.out 2
                                  have hfz86_3 := blk_frozen BK275.out 3
                                  have hfz86_4 := blk_frozen BK275.out 4
                                  have hnb87 := NB245_254.out
                                  have hnc87 := NB254_245.out
                                  have hnb88 := NB245_261.out
                                  have hnc88 := NB261_245.out
                                  have hcz89_0 : w58.cell? ⟨gb245, 0, none⟩ = some (.int .i64 a1_0) := (blk_cell BK245.out 0).trans rfl
                                  have hcz89_1 : w58.cell? ⟨gb245, 1, none⟩ = some (.int .i64 a1_1) := (blk_cell BK245.out 1).trans rfl
                                  have hcz89_2 : w58.cell? ⟨gb245, 2, none⟩ = some (.int .i64 a1_2) := (blk_cell BK245.out 2).trans rfl
                                  have hcz89_3 : w58.cell? ⟨gb245, 3, none⟩ = some (.int .i64 a1_3) := (blk_cell BK245.out 3).trans rfl
                                  have hcz89_4 : w58.cell? ⟨gb245, 4, none⟩ = some (.int .i64 a1_4) := (blk_cell BK245.out 4).trans rfl
                                  have hfz89_0 := blk_frozen BK245.out 0
                                  have hfz89_1 := blk_frozen BK245.out 1
                                  have hfz89_2 := blk_frozen BK245.out 2
                                  have hfz89_3 := blk_frozen BK245.out 3
                                  have hfz89_4 := blk_frozen BK245.out 4
                                  go_wp2_with (first | (go_at_call 15; (with_reducible refine (clip_Wide.calls k3 _ _ l0 ((rd_T29 y262 x12_3).f0) ((rd_T29 y262 x12_3).f1) ((rd_T29 y262 x12_3).f2) ((rd_T29 y262 x12_3).f3) ((rd_T29 y262 x12_3).f4) t276 _ ?side1 ?side2 A82.out).mono ?_); (case side1 => exact Kd.C_below HR0.out (by repeat (first | (with_reducible first | exact HB.out | apply below_alloc | apply pw_below_drewN | apply below_drew1 | refine below_set ?_ GE245.out | refine below_set ?_ GE254.out | refine below_set ?_ GE261.out | refine below_set ?_ GE275.out) | exact HB.out))); (case side2 => exact HC0.out); rintro e w90 ⟨rfl, hb⟩; have n0_ := Aside0.mk (Kd.R_below (by (with_reducible repeat (first | apply Kd.R_alloc | apply Kd.R_drewN | apply Kd.R_drew)); exact (Kd.R_mono (Kd.R_far (p := ⟨gb275, 4, none⟩) (Kd.R_far (p := ⟨gb275, 3, none⟩) (Kd.R_far (p := ⟨gb275, 2, none⟩) (Kd.R_far (p := ⟨gb275, 1, none⟩) (Kd.R_far (p := ⟨gb275, 0, none⟩) (Kd.R_mono HO_11.out (fun k_ hk => (⟨hk, hk.2⟩ : _ ∧ k_ ≠ gb275))) (fun _ hk => hk.2) (.int .i64 ((rd_T29 y262 x12_3).f0))) (fun _ hk => hk.2) (.int .i64 ((rd_T29 y262 x12_3).f1))) (fun _ hk => hk.2) (.int .i64 ((rd_T29 y262 x12_3).f2))) (fun _ hk => hk.2) (.int .i64 ((rd_T29 y262 x12_3).f3))) (fun _ hk => hk.2) (.int .i64 ((rd_T29 y262 x12_3).f4))) (fun _ h_ => h_.1))) hb); have n1_ := Aside0.mk (blk_below (g := gb245) (o := .cells #[.int .i64 a1_0, .int .i64 a1_1, .int .i64 a1_2, .int .i64 a1_3, .int .i64 a1_4] 29 (0, 0)) (by (with_reducible repeat (first | refine blk_drewN ?_ _ | refine blk_drew ?_ | refine blk_alloc ?_ _)); refine blk_far ?_ NB245_275.out _; (with_reducible repeat (first | refine blk_drewN ?_ _ | refine blk_drew ?_ | refine blk_alloc ?_ _)); refine blk_far ?_ NB245_275.out _; (with_reducible repeat (first | refine blk_drewN ?_ _ | refine blk_drew ?_ | refine blk_alloc ?_ _)); refine blk_far ?_ NB245_275.out _; (with_reducible repeat (first | refine blk_drewN ?_ _ | refine blk_drew ?_ | refine blk_alloc ?_ _)); refine blk_far ?_ NB245_275.out _; (with_reducible repeat (first | refine blk_drewN ?_ _ | refine blk_drew ?_ | refine blk_alloc ?_ _)); refine blk_far ?_ NB245_275.out _; exact BK245.out) hb); have n2_ := Aside0.mk (blk_below (g := gb254) (o := .cells #[.int .i64 t248, .int .i64 t249, .int .i64 t250, .int .i64 t251, .int .i64 t252] 29 (0, 0)) (by (with_reducible repeat (first | refine blk_drewN ?_ _ | refine blk_drew ?_ | refine blk_alloc ?_ _)); refine blk_far ?_ NB254_275.out _; (with_reducible repeat (first | refine blk_drewN ?_ _ | refine blk_drew ?_ | refine blk_alloc ?_ _)); refine blk_far ?_ NB254_275.out _; (with_reducible repeat (first | refine blk_drewN ?_ _ | refine blk_drew ?_ | refine blk_alloc ?_ _)); refine blk_far ?_ NB254_275.out _; (with_reducible repeat (first | refine blk_drewN ?_ _ | refine blk_drew ?_ | refine blk_alloc ?_ _)); refine blk_far ?_ NB254_275.out _; (with_reducible repeat (first | refine blk_drewN ?_ _ | refine blk_drew ?_ | refine blk_alloc ?_ _)); refine blk_far ?_ NB254_275.out _; exact BK254.out) hb); have n3_ := Aside0.mk (blk_below (g := gb261) (o := .cells #[.int .i64 t255, .int .i64 t256, .int .i64 t257, .int .i64 t258, .int .i64 t259] 29 (0, 0)) (by (with_reducible repeat (first | refine blk_drewN ?_ _ | refine blk_drew ?_ | refine blk_alloc ?_ _)); refine blk_far ?_ NB261_275.out _; (with_reducible repeat (first | refine blk_drewN ?_ _ | refine blk_drew ?_ | refine blk_alloc ?_ _)); refine blk_far ?_ NB261_275.out _; (with_reducible repeat (first | refine blk_drewN ?_ _ | refine blk_drew ?_ | refine blk_alloc ?_ _)); refine blk_far ?_ NB261_275.out _; (with_reducible repeat (first | refine blk_drewN ?_ _ | refine blk_drew ?_ | refine blk_alloc ?_ _)); refine blk_far ?_ NB261_275.out _; (with_reducible repeat (first | refine blk_drewN ?_ _ | refine blk_drew ?_ | refine blk_alloc ?_ _)); refine blk_far ?_ NB261_275.out _; exact BK261.out) hb); have n4_ := Aside0.mk (blk_below (g := gb275) (o := .cells #[.int .i64 ((rd_T29 y262 x12_3).f0), .int .i64 ((rd_T29 y262 x12_3).f1), .int .i64 ((rd_T29 y262 x12_3).f2), .int .i64 ((rd_T29 y262 x12_3).f3), .int .i64 ((rd_T29 y262 x12_3).f4)] 29 (0, 0)) (by (with_reducible repeat (first | refine blk_drewN ?_ _ | refine blk_drew ?_ | refine blk_alloc ?_ _)); refine blk_put (cs := #[.int .i64 ((rd_T29 y262 x12_3).f0), .int .i64 ((rd_T29 y262 x12_3).f1), .int .i64 ((rd_T29 y262 x12_3).f2), .int .i64 ((rd_T29 y262 x12_3).f3), .int .i64 0]) ?_ 4 _ rfl; (with_reducible repeat (first | refine blk_drewN ?_ _ | refine blk_drew ?_ | refine blk_alloc ?_ _)); refine blk_put (cs := #[.int .i64 ((rd_T29 y262 x12_3).f0), .int .i64 ((rd_T29 y262 x12_3).f1), .int .i64 ((rd_T29 y262 x12_3).f2), .int .i64 0, .int .i64 0]) ?_ 3 _ rfl; (with_reducible repeat (first | refine blk_drewN ?_ _ | refine blk_drew ?_ | refine blk_alloc ?_ _)); refine blk_put (cs := #[.int .i64 ((rd_T29 y262 x12_3).f0), .int .i64 ((rd_T29 y262 x12_3).f1), .int .i64 0, .int .i64 0, .int .i64 0]) ?_ 2 _ rfl; (with_reducible repeat (first | refine blk_drewN ?_ _ | refine blk_drew ?_ | refine blk_alloc ?_ _)); refine blk_put (cs := #[.int .i64 ((rd_T29 y262 x12_3).f0), .int .i64 0, .int .i64 0, .int .i64 0, .int .i64 0]) ?_ 1 _ rfl; (with_reducible repeat (first | refine blk_drewN ?_ _ | refine blk_drew ?_ | refine blk_alloc ?_ _)); refine blk_put (cs := #[.int .i64 0, .int .i64 0, .int .i64 0, .int .i64 0, .int .i64 0]) ?_ 0 _ rfl; exact BK275.out) hb); have n5_ := Aside0.mk (below_step (by repeat (first | (with_reducible first | exact HB.out | apply below_alloc | apply pw_below_drewN | apply below_drew1 | refine below_set ?_ GE245.out | refine below_set ?_ GE254.out | refine below_set ?_ GE261.out | refine below_set ?_ GE275.out) | exact HB.out)) hb); clear HO_11; clear BK245; clear BK254; clear BK261; clear BK275; clear HB; have HO_11 := n0_; have BK245 := n1_; have BK254 := n2_; have BK261 := n3_; have BK275 := n4_; have HB := n5_; clear n0_ n1_ n2_ n3_ n4_ n5_; (try clear hb); (try clear hb2); (try clear hk); (try clear hi)))
                                  go_meet
                                  case rel => exact ⟨_, (decide (t276 > a2)), (by first | rfl | (simp; done) | (simp [*]; done)), H', ⟨by have := HJ3.out; have := HJ16.out; have := HK3.out; first | omega | exact Nat.le_refl _⟩, ⟨by (with_reducible repeat (first | apply Kd.R_alloc | apply Kd.R_drewN | apply Kd.R_drew)); exact Kd.R_mono HO_11.out (fun _ hk => ⟨hk.1.1, ⟨hk.1.2.1, ⟨hk.1.2.2, hk.2⟩⟩⟩)⟩, ⟨by exact BK245.out⟩, ⟨by exact BK254.out⟩, ⟨by exact BK261.out⟩, ⟨by exact BK275.out⟩, ⟨by repeat (first | (with_reducible first | exact HB.out | apply below_alloc | apply pw_below_drewN | apply below_drew1 | refine below_set ?_ GE245.out | refine below_set ?_ GE254.out | refine below_set ?_ GE261.out | refine below_set ?_ GE275.out) | exact HB.out)⟩⟩
                            · rw [if_neg c65] at H
                              exact absurd H (by simp)
                          · rw [if_neg c64] at H
                            exact absurd H (by simp)
                        · rw [if_neg c63] at H
                          exact absurd H (by simp)
                      case rest =>
                        clear HC56
                        try clear c1
                        try clear c2
                        try clear p2
                        try clear q2
                        try clear hx2
                        try clear c3
                        try clear c4
                        try clear c5
                        try clear c6
                        try clear c6b0
                        try clear c6b1
                        try clear c7
                        try clear c7b0
                        try clear c8
                        try clear c8b0
                        try clear c9
                        try clear c10
                        try clear c11
                        try clear c12
                        try clear c13
                        try clear c21
                        try clear c26
                        try clear c27
                        try clear p27
                        try clear q27
                        try clear hx27
                        try clear c29
                        try clear c29b0
                        try clear c29b1
                        try clear c30
                        try clear c30b0
                        try clear c30b1
                        try clear c31
                        try clear c31b0
                        try clear c31b1
                        try clear c32
                        try clear c32b0
                        try clear c32b1
                        try clear c33
                        try clear c34
                        try clear c36
                        try clear c38
                        try clear c39
                        try clear c41
                        try clear c43
                        try clear c44
                        try clear c46
                        try clear c47
                        try clear c48
                        try clear c50
                        try clear c54
                        try clear c54b0
                        try clear c55
                        try clear c55b0
                        try clear c59
                        try clear c60
                        try clear c61
                        try clear c63
                        try clear c63b0
                        try clear c63b1
                        try clear c64
                        try clear c64b0
                        try clear c64b1
                        try clear c65
                        try clear c65b0
                        try clear c65b1
                        try clear c66
                        try clear c66b0
                        try clear c67
                        try clear c68
                        try clear c69
                        try clear c71
                        try clear c72
                        try clear c74
                        try clear c74b0
                        try clear c75
                        try clear c76
                        try clear c77
                        try clear c79
                        try clear c80
                        try clear c83
                        try clear c84
                        try clear c85
                        try clear c87
                        try clear c88
                        try clear c91
                        try clear c92
                        try clear c93
                        try clear c95
                        try clear c96
                        try clear c98
                        try clear c99
                        try clear c100
                        try clear c102
                        try clear c103
                        try clear c105
                        try clear c106
                        try clear c107
                        try clear c109
                        try clear c110
                        try clear hcz101_0
                        try clear hcz101_1
                        try clear hcz101_2
                        try clear hcz101_3
                        try clear hcz101_4
                        try clear hcz104_0
                        try clear hcz104_1
                        try clear hcz104_2
                        try clear hcz104_3
                        try clear hcz104_4
                        try clear hcz108_0
                        try clear hcz108_1
                        try clear hcz108_2
                        try clear hcz108_3
                        try clear hcz108_4
                        try clear hcz10_0
                        try clear hcz10_1
                        try clear hcz10_2
                        try clear hcz10_3
                        try clear hcz10_4
                        try clear hcz111_0
                        try clear hcz111_1
                        try clear hcz111_2
                        try clear hcz111_3
                        try clear hcz111_4
                        try clear hcz18_0
                        try clear hcz18_1
                        try clear hcz18_2
                        try clear hcz18_3
                        try clear hcz18_4
                        try clear hcz22_0
                        try clear hcz22_1
                        try clear hcz22_2
                        try clear hcz22_3
                        try clear hcz22_4
                        try clear hcz23_0
                        try clear hcz23_1
                        try clear hcz23_2
                        try clear hcz23_3
                        try clear hcz23_4
                        try clear hcz28_0
                        try clear hcz28_1
                        try clear hcz28_2
                        try clear hcz28_3
                        try clear hcz28_4
                        try clear hcz35_0
                        try clear hcz35_1
                        try clear hcz35_2
                        try clear hcz35_3
                        try clear hcz35_4
                        try clear hcz37_0
                        try clear hcz37_1
                        try clear hcz37_2
                        try clear hcz37_3
                        try clear hcz37_4
                        try clear hcz40_0
                        try clear hcz40_1
                        try clear hcz40_2
                        try clear hcz40_3
                        try clear hcz40_4
                        try clear hcz42_0
                        try clear hcz42_1
                        try clear hcz42_2
                        try clear hcz42_3
                        try clear hcz42_4
                        try clear hcz45_0
                        try clear hcz45_1
                        try clear hcz45_2
                        try clear hcz45_3
                        try clear hcz45_4
                        try clear hcz49_0
                        try clear hcz49_1
                        try clear hcz49_2
                        try clear hcz49_3
                        try clear hcz49_4
                        try clear hcz51_0
                        try clear hcz51_1
                        try clear hcz51_2
                        try clear hcz51_3
                        try clear hcz51_4
                        try clear hcz62_0
                        try clear hcz62_1
                        try clear hcz62_2
                        try clear hcz62_3
                        try clear hcz62_4
                        try clear hcz70_0
                        try clear hcz70_1
                        try clear hcz70_2
                        try clear hcz70_3
                        try clear hcz70_4
                        try clear hcz73_0
                        try clear hcz73_1
                        try clear hcz73_2
                        try clear hcz73_3
                        try clear hcz73_4
                        try clear hcz78_0
                        try clear hcz78_1
                        try clear hcz78_2
                        try clear hcz78_3
                        try clear hcz78_4
                        try clear hcz81_0
                        try clear hcz81_1
                        try clear hcz81_2
                        try clear hcz81_3
                        try clear hcz81_4
                        try clear hcz86_0
                        try clear hcz86_1
                        try clear hcz86_2
                        try clear hcz86_3
                        try clear hcz86_4
                        try clear hcz89_0
                        try clear hcz89_1
                        try clear hcz89_2
                        try clear hcz89_3
                        try clear hcz89_4
                        try clear hcz94_0
                        try clear hcz94_1
                        try clear hcz94_2
                        try clear hcz94_3
                        try clear hcz94_4
                        try clear hcz97_0
                        try clear hcz97_1
                        try clear hcz97_2
                        try clear hcz97_3
                        try clear hcz97_4
                        try clear hfz101_0
                        try clear hfz101_1
                        try clear hfz101_2
                        try clear hfz101_3
                        try clear hfz101_4
                        try clear hfz104_0
                        try clear hfz104_1
                        try clear hfz104_2
                        try clear hfz104_3
                        try clear hfz104_4
                        try clear hfz108_0
                        try clear hfz108_1
                        try clear hfz108_2
                        try clear hfz108_3
                        try clear hfz108_4
                        try clear hfz10_0
                        try clear hfz10_1
                        try clear hfz10_2
                        try clear hfz10_3
                        try clear hfz10_4
                        try clear hfz111_0
                        try clear hfz111_1
                        try clear hfz111_2
                        try clear hfz111_3
                        try clear hfz111_4
                        try clear hfz18_0
                        try clear hfz18_1
                        try clear hfz18_2
                        try clear hfz18_3
                        try clear hfz18_4
                        try clear hfz22_0
                        try clear hfz22_1
                        try clear hfz22_2
                        try clear hfz22_3
                        try clear hfz22_4
                        try clear hfz23_0
                        try clear hfz23_1
                        try clear hfz23_2
                        try clear hfz23_3
                        try clear hfz23_4
                        try clear hfz28_0
                        try clear hfz28_1
                        try clear hfz28_2
                        try clear hfz28_3
                        try clear hfz28_4
                        try clear hfz35_0
                        try clear hfz35_1
                        try clear hfz35_2
                        try clear hfz35_3
                        try clear hfz35_4
                        try clear hfz37_0
                        try clear hfz37_1
                        try clear hfz37_2
                        try clear hfz37_3
                        try clear hfz37_4
                        try clear hfz40_0
                        try clear hfz40_1
                        try clear hfz40_2
                        try clear hfz40_3
                        try clear hfz40_4
                        try clear hfz42_0
                        try clear hfz42_1
                        try clear hfz42_2
                        try clear hfz42_3
                        try clear hfz42_4
                        try clear hfz45_0
                        try clear hfz45_1
                        try clear hfz45_2
                        try clear hfz45_3
                        try clear hfz45_4
                        try clear hfz49_0
                        try clear hfz49_1
                        try clear hfz49_2
                        try clear hfz49_3
                        try clear hfz49_4
                        try clear hfz51_0
                        try clear hfz51_1
                        try clear hfz51_2
                        try clear hfz51_3
                        try clear hfz51_4
                        try clear hfz62_0
                        try clear hfz62_1
                        try clear hfz62_2
                        try clear hfz62_3
                        try clear hfz62_4
                        try clear hfz70_0
                        try clear hfz70_1
                        try clear hfz70_2
                        try clear hfz70_3
                        try clear hfz70_4
                        try clear hfz73_0
                        try clear hfz73_1
                        try clear hfz73_2
                        try clear hfz73_3
                        try clear hfz73_4
                        try clear hfz78_0
                        try clear hfz78_1
                        try clear hfz78_2
                        try clear hfz78_3
                        try clear hfz78_4
                        try clear hfz81_0
                        try clear hfz81_1
                        try clear hfz81_2
                        try clear hfz81_3
                        try clear hfz81_4
                        try clear hfz86_0
                        try clear hfz86_1
                        try clear hfz86_2
                        try clear hfz86_3
                        try clear hfz86_4
                        try clear hfz89_0
                        try clear hfz89_1
                        try clear hfz89_2
                        try clear hfz89_3
                        try clear hfz89_4
                        try clear hfz94_0
                        try clear hfz94_1
                        try clear hfz94_2
                        try clear hfz94_3
                        try clear hfz94_4
                        try clear hfz97_0
                        try clear hfz97_1
                        try clear hfz97_2
                        try clear hfz97_3
                        try clear hfz97_4
                        try clear hx274_0
                        try clear hx274_1
                        try clear hx274_2
                        try clear hx274_3
                        try clear hx274_4
                        try clear p2
                        try clear p274
                        try clear q274
                        obtain ⟨kq, x121_55, rfl, HA, HJ55, HO_11, BK245, BK254, BK261, BK275, HB⟩ := hcut
                        cases kq with
                        | zero => exact absurd HA.out (by simp [parquetrylaw18_ClipFits.j3])
                        | succ kj55 =>
                          have H := HA.out
                          clear HA
                          simp only [parquetrylaw18_ClipFits.j3] at H
                          by_cases c112 : x121_55 = true
                          · subst c112
                            have H1 : (none) = some r := by rw [if_pos rfl] at H; exact H
                            clear H
                            have H := H1
                            clear H1
                            exact absurd H (by simp)
                          · replace c112 := Bool.eq_false_iff.mpr c112
                            subst c112
                            have H1 : (if ((rd_T29 y262 x12_3).f4) = 0 then (if ((rd_T29 y262 x12_3).f2) = a1_2 then (if ((rd_T29 y262 x12_3).f4) = 1 then (none) else (parquetrylaw18_ClipFits.l0 kj55 l0 a2 y262 (wrap64 (x12_3 + 1)) a1_0 a1_1 a1_2 a1_3 a1_4 t248 t249 t250 t251 t252)) else (none)) else (if ((rd_T29 y262 x12_3).f4) = 1 then (if ((rd_T29 y262 x12_3).f2) < a1_2 then (if 0 ≤ ((rd_T29 y262 x12_3).f0) then (if ((rd_T29 y262 x12_3).f0) ≤ (wrap64 (((rd_T29 y262 x12_3).f2) + 1)) then (if (wrap64 (((rd_T29 y262 x12_3).f2) + 1)) ≤ (l0.length : Int) then ((parquetryref17_More.f kj55 ((l0.take ((wrap64 (((rd_T29 y262 x12_3).f2) + 1)) : Int).toNat).drop (((rd_T29 y262 x12_3).f0) : Int).toNat) (wrap64 (a2 - 1))).bind fun t286 => (if t286 = true then (parquetrylaw18_ClipFits.l0 kj55 l0 a2 y262 (wrap64 (x12_3 + 1)) a1_0 a1_1 a1_2 a1_3 a1_4 t248 t249 t250 t251 t252) else (none))) else (none)) else (none)) else (none)) else (parquetrylaw18_ClipFits.l0 kj55 l0 a2 y262 (wrap64 (x12_3 + 1)) a1_0 a1_1 a1_2 a1_3 a1_4 t248 t249 t250 t251 t252)) else (parquetrylaw18_ClipFits.l0 kj55 l0 a2 y262 (wrap64 (x12_3 + 1)) a1_0 a1_1 a1_2 a1_3 a1_4 t248 t249 t250 t251 t252))) = some r := by rw [if_neg (show ¬ (false = true) by decide)] at H; exact H
                            clear H
                            have H := H1
                            clear H1
                            by_cases c113 : ((rd_T29 y262 x12_3).f4) = 0
                            · rw [if_pos c113] at H
                              have c113b0 : (((rd_T29 y262 x12_3).f4) == 0) = true := beq_iff_eq.mpr c113
                              have c113b1 : (((rd_T29 y262 x12_3).f4) != 0) = false := bne_eq_false_iff_eq.mpr c113
                              clear c113
                              by_cases c114 : ((rd_T29 y262 x12_3).f2) = a1_2
                              · rw [if_pos c114] at H
                                have c114b0 : (((rd_T29 y262 x12_3).f2) == a1_2) = true := beq_iff_eq.mpr c114
                                have c114b1 : (((rd_T29 y262 x12_3).f2) != a1_2) = false := bne_eq_false_iff_eq.mpr c114
                                clear c114
                                by_cases c115 : ((rd_T29 y262 x12_3).f4) = 1
                                · rw [if_pos c115] at H
                                  exact absurd H (by simp)
                                · rw [if_neg c115] at H
                                  have c115b0 : (((rd_T29 y262 x12_3).f4) == 1) = false := beq_eq_false_iff_ne.mpr c115
                                  have c115b1 : (((rd_T29 y262 x12_3).f4) != 1) = true := bne_iff_ne.mpr c115
                                  have H' := Aside0.mk H
                                  clear H
                                  have hnb147 := NB275_245.out
                                  have hnc147 := NB245_275.out
                                  have hnb148 := NB275_254.out
                                  have hnc148 := NB254_275.out
                                  have hnb149 := NB275_261.out
                                  have hnc149 := NB261_275.out
                                  have hcz150_0 : wc.cell? ⟨gb275, 0, none⟩ = some (.int .i64 ((rd_T29 y262 x12_3).f0)) := (blk_cell BK275.out 0).trans rfl
                                  have hcz150_1 : wc.cell? ⟨gb275, 1, none⟩ = some (.int .i64 ((rd_T29 y262 x12_3).f1)) := (blk_cell BK275.out 1).trans rfl
                                  have hcz150_2 : wc.cell? ⟨gb275, 2, none⟩ = some (.int .i64 ((rd_T29 y262 x12_3).f2)) := (blk_cell BK275.out 2).trans rfl
                                  have hcz150_3 : wc.cell? ⟨gb275, 3, none⟩ = some (.int .i64 ((rd_T29 y262 x12_3).f3)) := (blk_cell BK275.out 3).trans rfl
                                  have hcz150_4 : wc.cell? ⟨gb275, 4, none⟩ = some (.int .i64 ((rd_T29 y262 x12_3).f4)) := (blk_cell BK275.out 4).trans rfl
                                  have hfz150_0 := blk_frozen BK275.out 0
                                  have hfz150_1 := blk_frozen BK275.out 1
                                  have hfz150_2 := blk_frozen BK275.out 2
                                  have hfz150_3 := blk_frozen BK275.out 3
                                  have hfz150_4 := blk_frozen BK275.out 4
                                  have hnb151 := NB245_254.out
                                  have hnc151 := NB254_245.out
                                  have hnb152 := NB245_261.out
                                  have hnc152 := NB261_245.out
                                  have hcz153_0 : wc.cell? ⟨gb245, 0, none⟩ = some (.int .i64 a1_0) := (blk_cell BK245.out 0).trans rfl
                                  have hcz153_1 : wc.cell? ⟨gb245, 1, none⟩ = some (.int .i64 a1_1) := (blk_cell BK245.out 1).trans rfl
                                  have hcz153_2 : wc.cell? ⟨gb245, 2, none⟩ = some (.int .i64 a1_2) := (blk_cell BK245.out 2).trans rfl
                                  have hcz153_3 : wc.cell? ⟨gb245, 3, none⟩ = some (.int .i64 a1_3) := (blk_cell BK245.out 3).trans rfl
                                  have hcz153_4 : wc.cell? ⟨gb245, 4, none⟩ = some (.int .i64 a1_4) := (blk_cell BK245.out 4).trans rfl
                                  have hfz153_0 := blk_frozen BK245.out 0
                                  have hfz153_1 := blk_frozen BK245.out 1
                                  have hfz153_2 := blk_frozen BK245.out 2
                                  have hfz153_3 := blk_frozen BK245.out 3
                                  have hfz153_4 := blk_frozen BK245.out 4
                                  go_wp2
                                  go_roundg kj55
                                  case measure => have := HJ3.out; have := HJ16.out; have := HK3.out; have := HJ55.out; omega
                                  case rel => exact ⟨(wrap64 (x12_3 + 1)), (by first | rfl | (simp; done) | (simp [*]; done)), H', ⟨by have := HJ3.out; have := HJ16.out; have := HK3.out; have := HJ55.out; omega⟩, ⟨by (with_reducible repeat (first | apply Kd.R_alloc | apply Kd.R_drewN | apply Kd.R_drew)); exact Kd.R_mono HO_11.out (fun _ hk => ⟨hk.1, ⟨hk.2.1, hk.2.2.1⟩⟩)⟩, ⟨by exact BK245.out⟩, ⟨by exact BK254.out⟩, ⟨by exact BK261.out⟩, ⟨by repeat (first | (with_reducible first | exact HB.out | apply below_alloc | apply pw_below_drewN | apply below_drew1 | refine below_set ?_ GE245.out | refine below_set ?_ GE254.out | refine below_set ?_ GE261.out | refine below_set ?_ GE275.out) | exact HB.out)⟩⟩
                              · rw [if_neg c114] at H
                                exact absurd H (by simp)
                            · rw [if_neg c113] at H
                              have c113b0 : (((rd_T29 y262 x12_3).f4) == 0) = false := beq_eq_false_iff_ne.mpr c113
                              have c113b1 : (((rd_T29 y262 x12_3).f4) != 0) = true := bne_iff_ne.mpr c113
                              by_cases c161 : ((rd_T29 y262 x12_3).f4) = 1
                              · rw [if_pos c161] at H
                                have c161b0 : (((rd_T29 y262 x12_3).f4) == 1) = true := beq_iff_eq.mpr c161
                                have c161b1 : (((rd_T29 y262 x12_3).f4) != 1) = false := bne_eq_false_iff_eq.mpr c161
                                clear c161
                                by_cases c162 : ((rd_T29 y262 x12_3).f2) < a1_2
                                · rw [if_pos c162] at H
                                  have c162b0 : decide (((rd_T29 y262 x12_3).f2) < a1_2) = true := decide_eq_true c162
                                  clear c162
                                  by_cases c163 : 0 ≤ ((rd_T29 y262 x12_3).f0)
                                  · rw [if_pos c163] at H
                                    have c163b0 := eq_true c163
                                    have c163b1 : decide (0 ≤ ((rd_T29 y262 x12_3).f0)) = true := decide_eq_true c163
                                    clear c163
                                    by_cases c164 : ((rd_T29 y262 x12_3).f0) ≤ (wrap64 (((rd_T29 y262 x12_3).f2) + 1))
                                    · rw [if_pos c164] at H
                                      have c164b0 := eq_true c164
                                      have c164b1 : decide (((rd_T29 y262 x12_3).f0) ≤ (wrap64 (((rd_T29 y262 x12_3).f2) + 1))) = true := decide_eq_true c164
                                      by_cases c165 : (wrap64 (((rd_T29 y262 x12_3).f2) + 1)) ≤ (l0.length : Int)
                                      · rw [if_pos c165] at H
                                        have c165b0 := eq_true c165
                                        have c165b1 : decide ((wrap64 (((rd_T29 y262 x12_3).f2) + 1)) ≤ (l0.length : Int)) = true := decide_eq_true c165
                                        obtain ⟨y282, hy282⟩ : ∃ y_ : List (S39), y_ = ((l0.take ((wrap64 (((rd_T29 y262 x12_3).f2) + 1)) : Int).toNat).drop (((rd_T29 y262 x12_3).f0) : Int).toNat) := ⟨_, rfl⟩
                                        replace H : ((parquetryref17_More.f kj55 y282 (wrap64 (a2 - 1))).bind fun t286 => (if t286 = true then (parquetrylaw18_ClipFits.l0 kj55 l0 a2 y262 (wrap64 (x12_3 + 1)) a1_0 a1_1 a1_2 a1_3 a1_4 t248 t249 t250 t251 t252) else (none))) = some r := by first | (rw [hy282]; with_reducible exact H) | (have H2_ := (Option.bind_some _ _).symm.trans H; rw [hy282]; with_reducible exact H2_) | (have H2_ := (Option.bind_some _ _).symm.trans H; with_reducible exact H2_) | with_reducible exact H | (rw [hy282]; exact H) | exact H
                                        have Ny282 := Aside0.mk hy282
                                        clear hy282
                                        replace H := Option.bind_eq_some_iff.mp H
                                        obtain ⟨t286, A1660, H⟩ := H
                                        replace H : (if t286 = true then (parquetrylaw18_ClipFits.l0 kj55 l0 a2 y262 (wrap64 (x12_3 + 1)) a1_0 a1_1 a1_2 a1_3 a1_4 t248 t249 t250 t251 t252) else (none)) = some r := H
                                        have A166 := Aside0.mk A1660
                                        clear A1660
                                        by_cases c167 : t286 = true
                                        · subst c167
                                          have H1 : (parquetrylaw18_ClipFits.l0 kj55 l0 a2 y262 (wrap64 (x12_3 + 1)) a1_0 a1_1 a1_2 a1_3 a1_4 t248 t249 t250 t251 t252) = some r := by rw [if_pos rfl] at H; exact H
                                          clear H
                                          have H := H1
                                          clear H1
                                          have H' := Aside0.mk H
                                          clear H
                                          have hnb168 := NB275_245.out
                                          have hnc168 := NB245_275.out
                                          have hnb169 := NB275_254.out
                                          have hnc169 := NB254_275.out
                                          have hnb170 := NB275_261.out
                                          have hnc170 := NB261_275.out
                                          have hcz171_0 : wc.cell? ⟨gb275, 0, none⟩ = some (.int .i64 ((rd_T29 y262 x12_3).f0)) := (blk_cell BK275.out 0).trans rfl
                                          have hcz171_1 : wc.cell? ⟨gb275, 1, none⟩ = some (.int .i64 ((rd_T29 y262 x12_3).f1)) := (blk_cell BK275.out 1).trans rfl
                                          have hcz171_2 : wc.cell? ⟨gb275, 2, none⟩ = some (.int .i64 ((rd_T29 y262 x12_3).f2)) := (blk_cell BK275.out 2).trans rfl
                                          have hcz171_3 : wc.cell? ⟨gb275, 3, none⟩ = some (.int .i64 ((rd_T29 y262 x12_3).f3)) := (blk_cell BK275.out 3).trans rfl
                                          have hcz171_4 : wc.cell? ⟨gb275, 4, none⟩ = some (.int .i64 ((rd_T29 y262 x12_3).f4)) := (blk_cell BK275.out 4).trans rfl
                                          have hfz171_0 := blk_frozen BK275.out 0
                                          have hfz171_1 := blk_frozen BK275.out 1
                                          have hfz171_2 := blk_frozen BK275.out 2
                                          have hfz171_3 := blk_frozen BK275.out 3
                                          have hfz171_4 := blk_frozen BK275.out 4
                                          have hnb172 := NB245_254.out
                                          have hnc172 := NB254_245.out
                                          have hnb173 := NB245_261.out
                                          have hnc173 := NB261_245.out
                                          have hcz174_0 : wc.cell? ⟨gb245, 0, none⟩ = some (.int .i64 a1_0) := (blk_cell BK245.out 0).trans rfl
                                          have hcz174_1 : wc.cell? ⟨gb245, 1, none⟩ = some (.int .i64 a1_1) := (blk_cell BK245.out 1).trans rfl
                                          have hcz174_2 : wc.cell? ⟨gb245, 2, none⟩ = some (.int .i64 a1_2) := (blk_cell BK245.out 2).trans rfl
                                          have hcz174_3 : wc.cell? ⟨gb245, 3, none⟩ = some (.int .i64 a1_3) := (blk_cell BK245.out 3).trans rfl
                                          have hcz174_4 : wc.cell? ⟨gb245, 4, none⟩ = some (.int .i64 a1_4) := (blk_cell BK245.out 4).trans rfl
                                          have hfz174_0 := blk_frozen BK245.out 0
                                          have hfz174_1 := blk_frozen BK245.out 1
                                          have hfz174_2 := blk_frozen BK245.out 2
                                          have hfz174_3 := blk_frozen BK245.out 3
                                          have hfz174_4 := blk_frozen BK245.out 4
                                          have q175 : ((wrap64 (((rd_T29 y262 x12_3).f2) + 1)) : Int) ≤ ((l0.length : Int) : Int) := of_decide_eq_true (by first | (with_reducible assumption) | assumption)
                                          obtain ⟨i0175, hi0175, _, hsz175, _⟩ := info_parts info39
                                          have hroom175 : l0.length ≤ c0 := HC0.out
                                          have hC175 : Kd.C k39 _ A0 l0.length l0 := HR0.out
                                          have ql175 : (((rd_T29 y262 x12_3).f0) : Int) ≤ ((wrap64 (((rd_T29 y262 x12_3).f2) + 1)) : Int) := of_decide_eq_true (by first | (with_reducible assumption) | assumption)
                                          have q0175 : (0 : Int) ≤ (((rd_T29 y262 x12_3).f0) : Int) := of_decide_eq_true (by first | (with_reducible assumption) | assumption)
                                          have hcut175 := cut_mid (P := Try.prog) 22 39 .i64 .i64 Try.underlying22 hi0175 6 hsz175 A0 l0.length c0 ((rd_T29 y262 x12_3).f0) (wrap64 (((rd_T29 y262 x12_3).f2) + 1)) q0175 ql175 q175 hroom175
                                          have hr175 := Kd.C_mid (lo := (((rd_T29 y262 x12_3).f0) : Int).toNat) (hi := ((wrap64 (((rd_T29 y262 x12_3).f2) + 1)) : Int).toNat) (c := c0) hC175 (by omega) (by omega) hroom175
                                          obtain ⟨A175, hA175⟩ : ∃ A1, A1 = (if c0 = (((rd_T29 y262 x12_3).f0) : Int).toNat then A0 else (A0 : Option Addr).map (·.add ((((rd_T29 y262 x12_3).f0) : Int).toNat * 6))) := ⟨_, rfl⟩
                                          obtain ⟨c175, hc175⟩ : ∃ c1, c1 = c0 - (((rd_T29 y262 x12_3).f0) : Int).toNat := ⟨_, rfl⟩
                                          have hy175 : y282.length = ((wrap64 (((rd_T29 y262 x12_3).f2) + 1)) : Int).toNat - (((rd_T29 y262 x12_3).f0) : Int).toNat := (by rw [Ny282.out, List.length_drop, List.length_take] <;> omega)
                                          rw [show ((l0).take ((wrap64 (((rd_T29 y262 x12_3).f2) + 1)) : Int).toNat).drop (((rd_T29 y262 x12_3).f0) : Int).toNat = y282 from Ny282.out.symm] at hr175
                                          replace hr175 : Kd.C k39 _ A175 y282.length y282 := (by rw [hA175]; exact hr175)
                                          rw [← hy175, ← hA175, ← hc175] at hcut175
                                          have HR285 := Aside0.mk hr175
                                          have HC285 := Aside0.mk (show y282.length ≤ c175 from by rw [hy175, hc175]; exact Nat.sub_le_sub_right (Nat.le_trans (by omega) hroom175) _)
                                          clear hr175 hC175 hroom175 hi0175 hsz175 hc175
                                          have KY175 := Aside0.mk hy175
                                          have KA175 := Aside0.mk hA175
                                          clear hy175 hA175
                                          replace q175 := eq_true q175
                                          go_wp2_with (first | (go_at_call 16; (with_reducible refine (parquetryref17_More.calls kj55 _ _ y282 (wrap64 (a2 - 1)) true _ ?side1 ?side2 A166.out).mono ?_); (case side1 => repeat (first | exact (Kd.C_below HR285.out HB.out) | (with_reducible refine Kd.C_alloc ?_ _) | (with_reducible refine Kd.C_drewN ?_ _) | (with_reducible refine Kd.C_drew ?_))); (case side2 => exact HC285.out); rintro e w176 ⟨rfl, hb⟩; have n0_ := Aside0.mk (Kd.R_below (by (with_reducible repeat (first | apply Kd.R_alloc | apply Kd.R_drewN | apply Kd.R_drew)); exact HO_11.out) hb); have n1_ := Aside0.mk (blk_below (g := gb245) (o := .cells #[.int .i64 a1_0, .int .i64 a1_1, .int .i64 a1_2, .int .i64 a1_3, .int .i64 a1_4] 29 (0, 0)) (by exact BK245.out) hb); have n2_ := Aside0.mk (blk_below (g := gb254) (o := .cells #[.int .i64 t248, .int .i64 t249, .int .i64 t250, .int .i64 t251, .int .i64 t252] 29 (0, 0)) (by exact BK254.out) hb); have n3_ := Aside0.mk (blk_below (g := gb261) (o := .cells #[.int .i64 t255, .int .i64 t256, .int .i64 t257, .int .i64 t258, .int .i64 t259] 29 (0, 0)) (by exact BK261.out) hb); have n4_ := Aside0.mk (blk_below (g := gb275) (o := .cells #[.int .i64 ((rd_T29 y262 x12_3).f0), .int .i64 ((rd_T29 y262 x12_3).f1), .int .i64 ((rd_T29 y262 x12_3).f2), .int .i64 ((rd_T29 y262 x12_3).f3), .int .i64 ((rd_T29 y262 x12_3).f4)] 29 (0, 0)) (by exact BK275.out) hb); have n5_ := Aside0.mk (below_step (by repeat (first | (with_reducible first | exact HB.out | apply below_alloc | apply pw_below_drewN | apply below_drew1 | refine below_set ?_ GE245.out | refine below_set ?_ GE254.out | refine below_set ?_ GE261.out | refine below_set ?_ GE275.out) | exact HB.out)) hb); clear HO_11; clear BK245; clear BK254; clear BK261; clear BK275; clear HB; have HO_11 := n0_; have BK245 := n1_; have BK254 := n2_; have BK261 := n3_; have BK275 := n4_; have HB := n5_; clear n0_ n1_ n2_ n3_ n4_ n5_; (try clear hb); (try clear hb2); (try clear hk); (try clear hi)))
                                          go_roundg kj55
                                          case measure => have := HJ3.out; have := HJ16.out; have := HK3.out; have := HJ55.out; omega
                                          case rel => exact ⟨(wrap64 (x12_3 + 1)), (by first | rfl | (simp; done) | (simp [*]; done)), H', ⟨by have := HJ3.out; have := HJ16.out; have := HK3.out; have := HJ55.out; omega⟩, ⟨by (with_reducible repeat (first | apply Kd.R_alloc | apply Kd.R_drewN | apply Kd.R_drew)); exact Kd.R_mono HO_11.out (fun _ hk => ⟨hk.1, ⟨hk.2.1, hk.2.2.1⟩⟩)⟩, ⟨by exact BK245.out⟩, ⟨by exact BK254.out⟩, ⟨by exact BK261.out⟩, ⟨by repeat (first | (with_reducible first | exact HB.out | apply below_alloc | apply pw_below_drewN | apply below_drew1 | refine below_set ?_ GE245.out | refine below_set ?_ GE254.out | refine below_set ?_ GE261.out | refine below_set ?_ GE275.out) | exact HB.out)⟩⟩
                                        · replace c167 := Bool.eq_false_iff.mpr c167
                                          subst c167
                                          have H1 : (none) = some r := by rw [if_neg (show ¬ (false = true) by decide)] at H; exact H
                                          clear H
                                          have H := H1
                                          clear H1
                                          exact absurd H (by simp)
                                      · rw [if_neg c165] at H
                                        exact absurd H (by simp)
                                    · rw [if_neg c164] at H
                                      exact absurd H (by simp)
                                  · rw [if_neg c163] at H
                                    exact absurd H (by simp)
                                · rw [if_neg c162] at H
                                  have c162b0 : decide (((rd_T29 y262 x12_3).f2) < a1_2) = false := decide_eq_false c162
                                  clear c162
                                  have H' := Aside0.mk H
                                  clear H
                                  have hnb186 := NB275_245.out
                                  have hnc186 := NB245_275.out
                                  have hnb187 := NB275_254.out
                                  have hnc187 := NB254_275.out
                                  have hnb188 := NB275_261.out
                                  have hnc188 := NB261_275.out
                                  have hcz189_0 : wc.cell? ⟨gb275, 0, none⟩ = some (.int .i64 ((rd_T29 y262 x12_3).f0)) := (blk_cell BK275.out 0).trans rfl
                                  have hcz189_1 : wc.cell? ⟨gb275, 1, none⟩ = some (.int .i64 ((rd_T29 y262 x12_3).f1)) := (blk_cell BK275.out 1).trans rfl
                                  have hcz189_2 : wc.cell? ⟨gb275, 2, none⟩ = some (.int .i64 ((rd_T29 y262 x12_3).f2)) := (blk_cell BK275.out 2).trans rfl
                                  have hcz189_3 : wc.cell? ⟨gb275, 3, none⟩ = some (.int .i64 ((rd_T29 y262 x12_3).f3)) := (blk_cell BK275.out 3).trans rfl
                                  have hcz189_4 : wc.cell? ⟨gb275, 4, none⟩ = some (.int .i64 ((rd_T29 y262 x12_3).f4)) := (blk_cell BK275.out 4).trans rfl
                                  have hfz189_0 := blk_frozen BK275.out 0
                                  have hfz189_1 := blk_frozen BK275.out 1
                                  have hfz189_2 := blk_frozen BK275.out 2
                                  have hfz189_3 := blk_frozen BK275.out 3
                                  have hfz189_4 := blk_frozen BK275.out 4
                                  have hnb190 := NB245_254.out
                                  have hnc190 := NB254_245.out
                                  have hnb191 := NB245_261.out
                                  have hnc191 := NB261_245.out
                                  have hcz192_0 : wc.cell? ⟨gb245, 0, none⟩ = some (.int .i64 a1_0) := (blk_cell BK245.out 0).trans rfl
                                  have hcz192_1 : wc.cell? ⟨gb245, 1, none⟩ = some (.int .i64 a1_1) := (blk_cell BK245.out 1).trans rfl
                                  have hcz192_2 : wc.cell? ⟨gb245, 2, none⟩ = some (.int .i64 a1_2) := (blk_cell BK245.out 2).trans rfl
                                  have hcz192_3 : wc.cell? ⟨gb245, 3, none⟩ = some (.int .i64 a1_3) := (blk_cell BK245.out 3).trans rfl
                                  have hcz192_4 : wc.cell? ⟨gb245, 4, none⟩ = some (.int .i64 a1_4) := (blk_cell BK245.out 4).trans rfl
                                  have hfz192_0 := blk_frozen BK245.out 0
                                  have hfz192_1 := blk_frozen BK245.out 1
                                  have hfz192_2 := blk_frozen BK245.out 2
                                  have hfz192_3 := blk_frozen BK245.out 3
                                  have hfz192_4 := blk_frozen BK245.out 4
                                  go_wp2
                                  go_roundg kj55
                                  case measure => have := HJ3.out; have := HJ16.out; have := HK3.out; have := HJ55.out; omega
                                  case rel => exact ⟨(wrap64 (x12_3 + 1)), (by first | rfl | (simp; done) | (simp [*]; done)), H', ⟨by have := HJ3.out; have := HJ16.out; have := HK3.out; have := HJ55.out; omega⟩, ⟨by (with_reducible repeat (first | apply Kd.R_alloc | apply Kd.R_drewN | apply Kd.R_drew)); exact Kd.R_mono HO_11.out (fun _ hk => ⟨hk.1, ⟨hk.2.1, hk.2.2.1⟩⟩)⟩, ⟨by exact BK245.out⟩, ⟨by exact BK254.out⟩, ⟨by exact BK261.out⟩, ⟨by repeat (first | (with_reducible first | exact HB.out | apply below_alloc | apply pw_below_drewN | apply below_drew1 | refine below_set ?_ GE245.out | refine below_set ?_ GE254.out | refine below_set ?_ GE261.out | refine below_set ?_ GE275.out) | exact HB.out)⟩⟩
                              · rw [if_neg c161] at H
                                have c161b0 : (((rd_T29 y262 x12_3).f4) == 1) = false := beq_eq_false_iff_ne.mpr c161
                                have c161b1 : (((rd_T29 y262 x12_3).f4) != 1) = true := bne_iff_ne.mpr c161
                                have H' := Aside0.mk H
                                clear H
                                have hnb193 := NB275_245.out
                                have hnc193 := NB245_275.out
                                have hnb194 := NB275_254.out
                                have hnc194 := NB254_275.out
                                have hnb195 := NB275_261.out
                                have hnc195 := NB261_275.out
                                have hcz196_0 : wc.cell? ⟨gb275, 0, none⟩ = some (.int .i64 ((rd_T29 y262 x12_3).f0)) := (blk_cell BK275.out 0).trans rfl
                                have hcz196_1 : wc.cell? ⟨gb275, 1, none⟩ = some (.int .i64 ((rd_T29 y262 x12_3).f1)) := (blk_cell BK275.out 1).trans rfl
                                have hcz196_2 : wc.cell? ⟨gb275, 2, none⟩ = some (.int .i64 ((rd_T29 y262 x12_3).f2)) := (blk_cell BK275.out 2).trans rfl
                                have hcz196_3 : wc.cell? ⟨gb275, 3, none⟩ = some (.int .i64 ((rd_T29 y262 x12_3).f3)) := (blk_cell BK275.out 3).trans rfl
                                have hcz196_4 : wc.cell? ⟨gb275, 4, none⟩ = some (.int .i64 ((rd_T29 y262 x12_3).f4)) := (blk_cell BK275.out 4).trans rfl
                                have hfz196_0 := blk_frozen BK275.out 0
                                have hfz196_1 := blk_frozen BK275.out 1
                                have hfz196_2 := blk_frozen BK275.out 2
                                have hfz196_3 := blk_frozen BK275.out 3
                                have hfz196_4 := blk_frozen BK275.out 4
                                go_wp2
                                go_roundg kj55
                                case measure => have := HJ3.out; have := HJ16.out; have := HK3.out; have := HJ55.out; omega
                                case rel => exact ⟨(wrap64 (x12_3 + 1)), (by first | rfl | (simp; done) | (simp [*]; done)), H', ⟨by have := HJ3.out; have := HJ16.out; have := HK3.out; have := HJ55.out; omega⟩, ⟨by (with_reducible repeat (first | apply Kd.R_alloc | apply Kd.R_drewN | apply Kd.R_drew)); exact Kd.R_mono HO_11.out (fun _ hk => ⟨hk.1, ⟨hk.2.1, hk.2.2.1⟩⟩)⟩, ⟨by exact BK245.out⟩, ⟨by exact BK254.out⟩, ⟨by exact BK261.out⟩, ⟨by repeat (first | (with_reducible first | exact HB.out | apply below_alloc | apply pw_below_drewN | apply below_drew1 | refine below_set ?_ GE245.out | refine below_set ?_ GE254.out | refine below_set ?_ GE261.out | refine below_set ?_ GE275.out) | exact HB.out)⟩⟩
                    · rw [if_neg c55] at H
                      exact absurd H (by simp)
                  · rw [if_neg c54] at H
                    have c54b0 : decide (x12_3 < (y262.length : Int)) = false := decide_eq_false c54
                    clear c54
                    replace H := Option.bind_eq_some_iff.mp H
                    obtain ⟨⟨t265, t266, t267, t268, t269, t270⟩, A1970, H⟩ := H
                    replace H : (if t270 = 0 then (if t252 = 1 then ((parquetrylaw18_awake.f k3).bind fun t272 => (some t272)) else (if (t265 == t248 && (t266 == t249 && (t267 == t250 && (t268 == t251 && (t269 == t252))))) = true then ((parquetrylaw18_awake.f k3).bind fun t273 => (some t273)) else (none))) else (none)) = some r := H
                    have A197 := Aside0.mk A1970
                    clear A1970
                    by_cases c198 : t270 = 0
                    · rw [if_pos c198] at H
                      have c198b0 : (t270 == 0) = true := beq_iff_eq.mpr c198
                      have c198b1 : (t270 != 0) = false := bne_eq_false_iff_eq.mpr c198
                      clear c198
                      by_cases c199 : t252 = 1
                      · rw [if_pos c199] at H
                        have c199b0 : (t252 == 1) = true := beq_iff_eq.mpr c199
                        have c199b1 : (t252 != 1) = false := bne_eq_false_iff_eq.mpr c199
                        clear c199
                        replace H := Option.bind_eq_some_iff.mp H
                        obtain ⟨t272, A2000, H⟩ := H
                        replace H : (some t272) = some r := H
                        have A200 := Aside0.mk A2000
                        clear A2000
                        obtain rfl := Option.some.inj H
                        obtain ⟨Ao201, co201, eo201⟩ := Kd.R_slice HO_11.out
                        subst eo201
                        have hnb202 := NB254_245.out
                        have hnc202 := NB245_254.out
                        have hnb203 := NB254_261.out
                        have hnc203 := NB261_254.out
                        have hcz204_0 : wr.cell? ⟨gb254, 0, none⟩ = some (.int .i64 t248) := (blk_cell BK254.out 0).trans rfl
                        have hcz204_1 : wr.cell? ⟨gb254, 1, none⟩ = some (.int .i64 t249) := (blk_cell BK254.out 1).trans rfl
                        have hcz204_2 : wr.cell? ⟨gb254, 2, none⟩ = some (.int .i64 t250) := (blk_cell BK254.out 2).trans rfl
                        have hcz204_3 : wr.cell? ⟨gb254, 3, none⟩ = some (.int .i64 t251) := (blk_cell BK254.out 3).trans rfl
                        have hcz204_4 : wr.cell? ⟨gb254, 4, none⟩ = some (.int .i64 t252) := (blk_cell BK254.out 4).trans rfl
                        have hfz204_0 := blk_frozen BK254.out 0
                        have hfz204_1 := blk_frozen BK254.out 1
                        have hfz204_2 := blk_frozen BK254.out 2
                        have hfz204_3 := blk_frozen BK254.out 3
                        have hfz204_4 := blk_frozen BK254.out 4
                        go_wp2_with (first | ((with_reducible refine gate_callee (f := 12) rfl ?_); refine goesL_ (some 161) rfl rfl Try.func12 (by kernel_rfl) rfl #[.slice A0 l0.length c0, .agg #[.int .i64 t248, .int .i64 t249, .int .i64 t250, .int .i64 t251, .int .i64 t252], .int .i64 a2] rfl (by (try simp only [List.map_toArray, List.map_cons, List.map_nil]); first | done | rfl | (simp only [List.length_drop, List.length_take]; rfl)) ?_; (with_reducible refine (clip_Clip.calls k3 _ _ l0 t248 t249 t250 t251 t252 a2 t265 t266 t267 t268 t269 t270 _ ?side1 ?side2 A197.out).mono ?_); (case side1 => repeat (first | exact (Kd.C_below HR0.out HB.out) | (with_reducible refine Kd.C_alloc ?_ _) | (with_reducible refine Kd.C_drewN ?_ _) | (with_reducible refine Kd.C_drew ?_))); (case side2 => exact HC0.out); rintro e w205 ⟨rfl, hb⟩; refine ⟨_, rfl, ?_⟩; have n0_ := Aside0.mk (Kd.R_below (by (with_reducible repeat (first | apply Kd.R_alloc | apply Kd.R_drewN | apply Kd.R_drew)); exact HO_11.out) hb); have n1_ := Aside0.mk (blk_below (g := gb245) (o := .cells #[.int .i64 a1_0, .int .i64 a1_1, .int .i64 a1_2, .int .i64 a1_3, .int .i64 a1_4] 29 (0, 0)) (by exact BK245.out) hb); have n2_ := Aside0.mk (blk_below (g := gb254) (o := .cells #[.int .i64 t248, .int .i64 t249, .int .i64 t250, .int .i64 t251, .int .i64 t252] 29 (0, 0)) (by exact BK254.out) hb); have n3_ := Aside0.mk (blk_below (g := gb261) (o := .cells #[.int .i64 t255, .int .i64 t256, .int .i64 t257, .int .i64 t258, .int .i64 t259] 29 (0, 0)) (by exact BK261.out) hb); have n4_ := Aside0.mk (below_step (by repeat (first | (with_reducible first | exact HB.out | apply below_alloc | apply pw_below_drewN | apply below_drew1 | refine below_set ?_ GE245.out | refine below_set ?_ GE254.out | refine below_set ?_ GE261.out) | exact HB.out)) hb); clear HO_11; clear BK245; clear BK254; clear BK261; clear HB; have HO_11 := n0_; have BK245 := n1_; have BK254 := n2_; have BK261 := n3_; have HB := n4_; clear n0_ n1_ n2_ n3_ n4_; (try clear hb); (try clear hb2); (try clear hk); (try clear hi)) | ((with_reducible refine gate_dst (N := 14) rfl ?_); refine box_event ?hg (N := 14) ?hd (cs := #[.int .i64 0, .int .i64 0, .int .i64 0, .int .i64 0, .int .i64 0]) (t := 29) ?hr ?_; (case hd => rfl); (case hg => rfl); (case hr => first | (go_simp; done) | (go_simp; rfl)); intro gb271 hg w206 hbox hb; have n0_ := Aside0.mk (Kd.R_below (Kd.R_elderB (by (with_reducible repeat (first | apply Kd.R_alloc | apply Kd.R_drewN | apply Kd.R_drew)); exact HO_11.out) gb271 (Nat.le_of_eq hg.symm)) hb); have n1_ := Aside0.mk (blk_below (g := gb245) (o := .cells #[.int .i64 a1_0, .int .i64 a1_1, .int .i64 a1_2, .int .i64 a1_3, .int .i64 a1_4] 29 (0, 0)) (by exact BK245.out) hb); have n2_ := Aside0.mk (blk_below (g := gb254) (o := .cells #[.int .i64 t248, .int .i64 t249, .int .i64 t250, .int .i64 t251, .int .i64 t252] 29 (0, 0)) (by exact BK254.out) hb); have n3_ := Aside0.mk (blk_below (g := gb261) (o := .cells #[.int .i64 t255, .int .i64 t256, .int .i64 t257, .int .i64 t258, .int .i64 t259] 29 (0, 0)) (by exact BK261.out) hb); have n4_ := Aside0.mk (below_step (by repeat (first | (with_reducible first | exact HB.out | apply below_alloc | apply pw_below_drewN | apply below_drew1 | refine below_set ?_ GE245.out | refine below_set ?_ GE254.out | refine below_set ?_ GE261.out) | exact HB.out)) hb); have n5_ := Aside0.mk (hbox); have n6_ := Aside0.mk ((by rw [hg]; exact (below_size (by repeat (first | (with_reducible first | exact HB.out | apply below_alloc | apply pw_below_drewN | apply below_drew1 | refine below_set ?_ GE245.out | refine below_set ?_ GE254.out | refine below_set ?_ GE261.out) | exact HB.out))) : w.heap.size ≤ gb271)); have n7_ := Aside0.mk ((by rw [hg]; exact (below_size (by repeat (first | (with_reducible first | exact HB.out | apply below_alloc | apply pw_below_drewN | apply below_drew1 | refine below_set ?_ GE245.out | refine below_set ?_ GE254.out | refine below_set ?_ GE261.out) | exact HB.out))) : w.heap.size ≤ gb271)); have n8_ := Aside0.mk ((by rw [hg]; exact Nat.ne_of_lt (blk_lt (g := gb245) (o := .cells #[.int .i64 a1_0, .int .i64 a1_1, .int .i64 a1_2, .int .i64 a1_3, .int .i64 a1_4] 29 (0, 0)) (by exact BK245.out)) : gb245 ≠ gb271)); have n9_ := Aside0.mk ((by rw [hg]; exact Nat.ne_of_gt (blk_lt (g := gb245) (o := .cells #[.int .i64 a1_0, .int .i64 a1_1, .int .i64 a1_2, .int .i64 a1_3, .int .i64 a1_4] 29 (0, 0)) (by exact BK245.out)) : gb271 ≠ gb245)); have n10_ := Aside0.mk ((by rw [hg]; exact Nat.ne_of_lt (blk_lt (g := gb254) (o := .cells #[.int .i64 t248, .int .i64 t249, .int .i64 t250, .int .i64 t251, .int .i64 t252] 29 (0, 0)) (by exact BK254.out)) : gb254 ≠ gb271)); have n11_ := Aside0.mk ((by rw [hg]; exact Nat.ne_of_gt (blk_lt (g := gb254) (o := .cells #[.int .i64 t248, .int .i64 t249, .int .i64 t250, .int .i64 t251, .int .i64 t252] 29 (0, 0)) (by exact BK254.out)) : gb271 ≠ gb254)); have n12_ := Aside0.mk ((by rw [hg]; exact Nat.ne_of_lt (blk_lt (g := gb261) (o := .cells #[.int .i64 t255, .int .i64 t256, .int .i64 t257, .int .i64 t258, .int .i64 t259] 29 (0, 0)) (by exact BK261.out)) : gb261 ≠ gb271)); have n13_ := Aside0.mk ((by rw [hg]; exact Nat.ne_of_gt (blk_lt (g := gb261) (o := .cells #[.int .i64 t255, .int .i64 t256, .int .i64 t257, .int .i64 t258, .int .i64 t259] 29 (0, 0)) (by exact BK261.out)) : gb271 ≠ gb261)); clear HO_11; clear BK245; clear BK254; clear BK261; clear HB; have HO_11 := n0_; have BK245 := n1_; have BK254 := n2_; have BK261 := n3_; have HB := n4_; have BK271 := n5_; have GW271 := n6_; have GE271 := n7_; have NB245_271 := n8_; have NB271_245 := n9_; have NB254_271 := n10_; have NB271_254 := n11_; have NB261_271 := n12_; have NB271_261 := n13_; clear n0_ n1_ n2_ n3_ n4_ n5_ n6_ n7_ n8_ n9_ n10_ n11_ n12_ n13_; clear hb hbox hg; have hnb207 := NB271_245.out; have hnc207 := NB245_271.out; have hnb208 := NB271_254.out; have hnc208 := NB254_271.out; have hnb209 := NB271_261.out; have hnc209 := NB261_271.out; have hcz210_0 : w206.cell? ⟨gb271, 0, none⟩ = some (.int .i64 0) := (blk_cell BK271.out 0).trans rfl; have hcz210_1 : w206.cell? ⟨gb271, 1, none⟩ = some (.int .i64 0) := (blk_cell BK271.out 1).trans rfl; have hcz210_2 : w206.cell? ⟨gb271, 2, none⟩ = some (.int .i64 0) := (blk_cell BK271.out 2).trans rfl; have hcz210_3 : w206.cell? ⟨gb271, 3, none⟩ = some (.int .i64 0) := (blk_cell BK271.out 3).trans rfl; have hcz210_4 : w206.cell? ⟨gb271, 4, none⟩ = some (.int .i64 0) := (blk_cell BK271.out 4).trans rfl; have hfz210_0 := blk_frozen BK271.out 0; have hfz210_1 := blk_frozen BK271.out 1; have hfz210_2 := blk_frozen BK271.out 2; have hfz210_3 := blk_frozen BK271.out 3; have hfz210_4 := blk_frozen BK271.out 4; have hcz211_0 : w206.cell? ⟨gb254, 0, none⟩ = some (.int .i64 t248) := (blk_cell BK254.out 0).trans rfl; have hcz211_1 : w206.cell? ⟨gb254, 1, none⟩ = some (.int .i64 t249) := (blk_cell BK254.out 1).trans rfl; have hcz211_2 : w206.cell? ⟨gb254, 2, none⟩ = some (.int .i64 t250) := (blk_cell BK254.out 2).trans rfl; have hcz211_3 : w206.cell? ⟨gb254, 3, none⟩ = some (.int .i64 t251) := (blk_cell BK254.out 3).trans rfl; have hcz211_4 : w206.cell? ⟨gb254, 4, none⟩ = some (.int .i64 t252) := (blk_cell BK254.out 4).trans rfl; have hfz211_0 := blk_frozen BK254.out 0; have hfz211_1 := blk_frozen BK254.out 1; have hfz211_2 := blk_frozen BK254.out 2; have hfz211_3 := blk_frozen BK254.out 3; have hfz211_4 := blk_frozen BK254.out 4) | (go_at_call 10; (with_reducible refine (parquetrylaw18_awake.calls k3  t272 _ A200.out).mono ?_); rintro e w212 ⟨rfl, hb⟩; have n0_ := Aside0.mk (Kd.R_below (by (with_reducible repeat (first | apply Kd.R_alloc | apply Kd.R_drewN | apply Kd.R_drew)); exact (Kd.R_mono (Kd.R_far (p := ⟨gb271, 4, none⟩) (Kd.R_far (p := ⟨gb271, 3, none⟩) (Kd.R_far (p := ⟨gb271, 2, none⟩) (Kd.R_far (p := ⟨gb271, 1, none⟩) (Kd.R_far (p := ⟨gb271, 0, none⟩) (Kd.R_mono HO_11.out (fun k_ hk => (⟨hk, hk.2⟩ : _ ∧ k_ ≠ gb271))) (fun _ hk => hk.2) (.int .i64 t265)) (fun _ hk => hk.2) (.int .i64 t266)) (fun _ hk => hk.2) (.int .i64 t267)) (fun _ hk => hk.2) (.int .i64 t268)) (fun _ hk => hk.2) (.int .i64 t269)) (fun _ h_ => h_.1))) hb); have n1_ := Aside0.mk (blk_below (g := gb245) (o := .cells #[.int .i64 a1_0, .int .i64 a1_1, .int .i64 a1_2, .int .i64 a1_3, .int .i64 a1_4] 29 (0, 0)) (by (with_reducible repeat (first | refine blk_drewN ?_ _ | refine blk_drew ?_ | refine blk_alloc ?_ _)); refine blk_far ?_ NB245_271.out _; (with_reducible repeat (first | refine blk_drewN ?_ _ | refine blk_drew ?_ | refine blk_alloc ?_ _)); refine blk_far ?_ NB245_271.out _; (with_reducible repeat (first | refine blk_drewN ?_ _ | refine blk_drew ?_ | refine blk_alloc ?_ _)); refine blk_far ?_ NB245_271.out _; (with_reducible repeat (first | refine blk_drewN ?_ _ | refine blk_drew ?_ | refine blk_alloc ?_ _)); refine blk_far ?_ NB245_271.out _; (with_reducible repeat (first | refine blk_drewN ?_ _ | refine blk_drew ?_ | refine blk_alloc ?_ _)); refine blk_far ?_ NB245_271.out _; exact BK245.out) hb); have n2_ := Aside0.mk (blk_below (g := gb254) (o := .cells #[.int .i64 t248, .int .i64 t249, .int .i64 t250, .int .i64 t251, .int .i64 t252] 29 (0, 0)) (by (with_reducible repeat (first | refine blk_drewN ?_ _ | refine blk_drew ?_ | refine blk_alloc ?_ _)); refine blk_far ?_ NB254_271.out _; (with_reducible repeat (first | refine blk_drewN ?_ _ | refine blk_drew ?_ | refine blk_alloc ?_ _)); refine blk_far ?_ NB254_271.out _; (with_reducible repeat (first | refine blk_drewN ?_ _ | refine blk_drew ?_ | refine blk_alloc ?_ _)); refine blk_far ?_ NB254_271.out _; (with_reducible repeat (first | refine blk_drewN ?_ _ | refine blk_drew ?_ | refine blk_alloc ?_ _)); refine blk_far ?_ NB254_271.out _; (with_reducible repeat (first | refine blk_drewN ?_ _ | refine blk_drew ?_ | refine blk_alloc ?_ _)); refine blk_far ?_ NB254_271.out _; exact BK254.out) hb); have n3_ := Aside0.mk (blk_below (g := gb261) (o := .cells #[.int .i64 t255, .int .i64 t256, .int .i64 t257, .int .i64 t258, .int .i64 t259] 29 (0, 0)) (by (with_reducible repeat (first | refine blk_drewN ?_ _ | refine blk_drew ?_ | refine blk_alloc ?_ _)); refine blk_far ?_ NB261_271.out _; (with_reducible repeat (first | refine blk_drewN ?_ _ | refine blk_drew ?_ | refine blk_alloc ?_ _)); refine blk_far ?_ NB261_271.out _; (with_reducible repeat (first | refine blk_drewN ?_ _ | refine blk_drew ?_ | refine blk_alloc ?_ _)); refine blk_far ?_ NB261_271.out _; (with_reducible repeat (first | refine blk_drewN ?_ _ | refine blk_drew ?_ | refine blk_alloc ?_ _)); refine blk_far ?_ NB261_271.out _; (with_reducible repeat (first | refine blk_drewN ?_ _ | refine blk_drew ?_ | refine blk_alloc ?_ _)); refine blk_far ?_ NB261_271.out _; exact BK261.out) hb); have n4_ := Aside0.mk (blk_below (g := gb271) (o := .cells #[.int .i64 t265, .int .i64 t266, .int .i64 t267, .int .i64 t268, .int .i64 t269] 29 (0, 0)) (by (with_reducible repeat (first | refine blk_drewN ?_ _ | refine blk_drew ?_ | refine blk_alloc ?_ _)); refine blk_put (cs := #[.int .i64 t265, .int .i64 t266, .int .i64 t267, .int .i64 t268, .int .i64 0]) ?_ 4 _ rfl; (with_reducible repeat (first | refine blk_drewN ?_ _ | refine blk_drew ?_ | refine blk_alloc ?_ _)); refine blk_put (cs := #[.int .i64 t265, .int .i64 t266, .int .i64 t267, .int .i64 0, .int .i64 0]) ?_ 3 _ rfl; (with_reducible repeat (first | refine blk_drewN ?_ _ | refine blk_drew ?_ | refine blk_alloc ?_ _)); refine blk_put (cs := #[.int .i64 t265, .int .i64 t266, .int .i64 0, .int .i64 0, .int .i64 0]) ?_ 2 _ rfl; (with_reducible repeat (first | refine blk_drewN ?_ _ | refine blk_drew ?_ | refine blk_alloc ?_ _)); refine blk_put (cs := #[.int .i64 t265, .int .i64 0, .int .i64 0, .int .i64 0, .int .i64 0]) ?_ 1 _ rfl; (with_reducible repeat (first | refine blk_drewN ?_ _ | refine blk_drew ?_ | refine blk_alloc ?_ _)); refine blk_put (cs := #[.int .i64 0, .int .i64 0, .int .i64 0, .int .i64 0, .int .i64 0]) ?_ 0 _ rfl; exact BK271.out) hb); have n5_ := Aside0.mk (below_step (by repeat (first | (with_reducible first | exact HB.out | apply below_alloc | apply pw_below_drewN | apply below_drew1 | refine below_set ?_ GE245.out | refine below_set ?_ GE254.out | refine below_set ?_ GE261.out | refine below_set ?_ GE271.out) | exact HB.out)) hb); clear HO_11; clear BK245; clear BK254; clear BK261; clear BK271; clear HB; have HO_11 := n0_; have BK245 := n1_; have BK254 := n2_; have BK261 := n3_; have BK271 := n4_; have HB := n5_; clear n0_ n1_ n2_ n3_ n4_ n5_; (try clear hb); (try clear hb2); (try clear hk); (try clear hi)))
                        go_ret
                        exact ⟨by first | rfl | (simp [errW_none, errW_some] <;> rfl) | (simp [*, errW_none, errW_some] <;> rfl), by repeat (first | (with_reducible first | exact HB.out | apply below_alloc | apply pw_below_drewN | apply below_drew1 | refine below_set ?_ GE245.out | refine below_set ?_ GE254.out | refine below_set ?_ GE261.out | refine below_set ?_ GE271.out) | exact HB.out)⟩
                      · rw [if_neg c199] at H
                        have c199b0 : (t252 == 1) = false := beq_eq_false_iff_ne.mpr c199
                        have c199b1 : (t252 != 1) = true := bne_iff_ne.mpr c199
                        by_cases c213 : (t265 == t248 && (t266 == t249 && (t267 == t250 && (t268 == t251 && (t269 == t252))))) = true
                        · rw [if_pos c213] at H
                          have c213b0 : (t265 == t248 && (t266 == t249 && (t267 == t250 && (t268 == t251 && (t269 == t252))))) = true := c213
                          (try (have c213b1 : decide (t265 = t248 && (t266 == t249 && (t267 == t250 && (t268 == t251 && (t269 == t252))))) = true := by simpa using c213))
                          (try (have c213b2 : (t265 == t248 && (t266 == t249 && (t267 == t250 && (t268 == t251 && (t269 == t252))))) = true := by simpa using c213))
                          clear c213
                          replace H := Option.bind_eq_some_iff.mp H
                          obtain ⟨t273, A2140, H⟩ := H
                          replace H : (some t273) = some r := H
                          have A214 := Aside0.mk A2140
                          clear A2140
                          obtain rfl := Option.some.inj H
                          obtain ⟨Ao215, co215, eo215⟩ := Kd.R_slice HO_11.out
                          subst eo215
                          have hnb216 := NB254_245.out
                          have hnc216 := NB245_254.out
                          have hnb217 := NB254_261.out
                          have hnc217 := NB261_254.out
                          have hcz218_0 : wr.cell? ⟨gb254, 0, none⟩ = some (.int .i64 t248) := (blk_cell BK254.out 0).trans rfl
                          have hcz218_1 : wr.cell? ⟨gb254, 1, none⟩ = some (.int .i64 t249) := (blk_cell BK254.out 1).trans rfl
                          have hcz218_2 : wr.cell? ⟨gb254, 2, none⟩ = some (.int .i64 t250) := (blk_cell BK254.out 2).trans rfl
                          have hcz218_3 : wr.cell? ⟨gb254, 3, none⟩ = some (.int .i64 t251) := (blk_cell BK254.out 3).trans rfl
                          have hcz218_4 : wr.cell? ⟨gb254, 4, none⟩ = some (.int .i64 t252) := (blk_cell BK254.out 4).trans rfl
                          have hfz218_0 := blk_frozen BK254.out 0
                          have hfz218_1 := blk_frozen BK254.out 1
                          have hfz218_2 := blk_frozen BK254.out 2
                          have hfz218_3 := blk_frozen BK254.out 3
                          have hfz218_4 := blk_frozen BK254.out 4
                          go_wp2_with (first | ((with_reducible refine gate_callee (f := 12) rfl ?_); refine goesL_ (some 161) rfl rfl Try.func12 (by kernel_rfl) rfl #[.slice A0 l0.length c0, .agg #[.int .i64 t248, .int .i64 t249, .int .i64 t250, .int .i64 t251, .int .i64 t252], .int .i64 a2] rfl (by (try simp only [List.map_toArray, List.map_cons, List.map_nil]); first | done | rfl | (simp only [List.length_drop, List.length_take]; rfl)) ?_; (with_reducible refine (clip_Clip.calls k3 _ _ l0 t248 t249 t250 t251 t252 a2 t265 t266 t267 t268 t269 t270 _ ?side1 ?side2 A197.out).mono ?_); (case side1 => repeat (first | exact (Kd.C_below HR0.out HB.out) | (with_reducible refine Kd.C_alloc ?_ _) | (with_reducible refine Kd.C_drewN ?_ _) | (with_reducible refine Kd.C_drew ?_))); (case side2 => exact HC0.out); rintro e w219 ⟨rfl, hb⟩; refine ⟨_, rfl, ?_⟩; have n0_ := Aside0.mk (Kd.R_below (by (with_reducible repeat (first | apply Kd.R_alloc | apply Kd.R_drewN | apply Kd.R_drew)); exact HO_11.out) hb); have n1_ := Aside0.mk (blk_below (g := gb245) (o := .cells #[.int .i64 a1_0, .int .i64 a1_1, .int .i64 a1_2, .int .i64 a1_3, .int .i64 a1_4] 29 (0, 0)) (by exact BK245.out) hb); have n2_ := Aside0.mk (blk_below (g := gb254) (o := .cells #[.int .i64 t248, .int .i64 t249, .int .i64 t250, .int .i64 t251, .int .i64 t252] 29 (0, 0)) (by exact BK254.out) hb); have n3_ := Aside0.mk (blk_below (g := gb261) (o := .cells #[.int .i64 t255, .int .i64 t256, .int .i64 t257, .int .i64 t258, .int .i64 t259] 29 (0, 0)) (by exact BK261.out) hb); have n4_ := Aside0.mk (below_step (by repeat (first | (with_reducible first | exact HB.out | apply below_alloc | apply pw_below_drewN | apply below_drew1 | refine below_set ?_ GE245.out | refine below_set ?_ GE254.out | refine below_set ?_ GE261.out) | exact HB.out)) hb); clear HO_11; clear BK245; clear BK254; clear BK261; clear HB; have HO_11 := n0_; have BK245 := n1_; have BK254 := n2_; have BK261 := n3_; have HB := n4_; clear n0_ n1_ n2_ n3_ n4_; (try clear hb); (try clear hb2); (try clear hk); (try clear hi)) | ((with_reducible refine gate_dst (N := 14) rfl ?_); refine box_event ?hg (N := 14) ?hd (cs := #[.int .i64 0, .int .i64 0, .int .i64 0, .int .i64 0, .int .i64 0]) (t := 29) ?hr ?_; (case hd => rfl); (case hg => rfl); (case hr => first | (go_simp; done) | (go_simp; rfl)); intro gb271 hg w220 hbox hb; have n0_ := Aside0.mk (Kd.R_below (Kd.R_elderB (by (with_reducible repeat (first | apply Kd.R_alloc | apply Kd.R_drewN | apply Kd.R_drew)); exact HO_11.out) gb271 (Nat.le_of_eq hg.symm)) hb); have n1_ := Aside0.mk (blk_below (g := gb245) (o := .cells #[.int .i64 a1_0, .int .i64 a1_1, .int .i64 a1_2, .int .i64 a1_3, .int .i64 a1_4] 29 (0, 0)) (by exact BK245.out) hb); have n2_ := Aside0.mk (blk_below (g := gb254) (o := .cells #[.int .i64 t248, .int .i64 t249, .int .i64 t250, .int .i64 t251, .int .i64 t252] 29 (0, 0)) (by exact BK254.out) hb); have n3_ := Aside0.mk (blk_below (g := gb261) (o := .cells #[.int .i64 t255, .int .i64 t256, .int .i64 t257, .int .i64 t258, .int .i64 t259] 29 (0, 0)) (by exact BK261.out) hb); have n4_ := Aside0.mk (below_step (by repeat (first | (with_reducible first | exact HB.out | apply below_alloc | apply pw_below_drewN | apply below_drew1 | refine below_set ?_ GE245.out | refine below_set ?_ GE254.out | refine below_set ?_ GE261.out) | exact HB.out)) hb); have n5_ := Aside0.mk (hbox); have n6_ := Aside0.mk ((by rw [hg]; exact (below_size (by repeat (first | (with_reducible first | exact HB.out | apply below_alloc | apply pw_below_drewN | apply below_drew1 | refine below_set ?_ GE245.out | refine below_set ?_ GE254.out | refine below_set ?_ GE261.out) | exact HB.out))) : w.heap.size ≤ gb271)); have n7_ := Aside0.mk ((by rw [hg]; exact (below_size (by repeat (first | (with_reducible first | exact HB.out | apply below_alloc | apply pw_below_drewN | apply below_drew1 | refine below_set ?_ GE245.out | refine below_set ?_ GE254.out | refine below_set ?_ GE261.out) | exact HB.out))) : w.heap.size ≤ gb271)); have n8_ := Aside0.mk ((by rw [hg]; exact Nat.ne_of_lt (blk_lt (g := gb245) (o := .cells #[.int .i64 a1_0, .int .i64 a1_1, .int .i64 a1_2, .int .i64 a1_3, .int .i64 a1_4] 29 (0, 0)) (by exact BK245.out)) : gb245 ≠ gb271)); have n9_ := Aside0.mk ((by rw [hg]; exact Nat.ne_of_gt (blk_lt (g := gb245) (o := .cells #[.int .i64 a1_0, .int .i64 a1_1, .int .i64 a1_2, .int .i64 a1_3, .int .i64 a1_4] 29 (0, 0)) (by exact BK245.out)) : gb271 ≠ gb245)); have n10_ := Aside0.mk ((by rw [hg]; exact Nat.ne_of_lt (blk_lt (g := gb254) (o := .cells #[.int .i64 t248, .int .i64 t249, .int .i64 t250, .int .i64 t251, .int .i64 t252] 29 (0, 0)) (by exact BK254.out)) : gb254 ≠ gb271)); have n11_ := Aside0.mk ((by rw [hg]; exact Nat.ne_of_gt (blk_lt (g := gb254) (o := .cells #[.int .i64 t248, .int .i64 t249, .int .i64 t250, .int .i64 t251, .int .i64 t252] 29 (0, 0)) (by exact BK254.out)) : gb271 ≠ gb254)); have n12_ := Aside0.mk ((by rw [hg]; exact Nat.ne_of_lt (blk_lt (g := gb261) (o := .cells #[.int .i64 t255, .int .i64 t256, .int .i64 t257, .int .i64 t258, .int .i64 t259] 29 (0, 0)) (by exact BK261.out)) : gb261 ≠ gb271)); have n13_ := Aside0.mk ((by rw [hg]; exact Nat.ne_of_gt (blk_lt (g := gb261) (o := .cells #[.int .i64 t255, .int .i64 t256, .int .i64 t257, .int .i64 t258, .int .i64 t259] 29 (0, 0)) (by exact BK261.out)) : gb271 ≠ gb261)); clear HO_11; clear BK245; clear BK254; clear BK261; clear HB; have HO_11 := n0_; have BK245 := n1_; have BK254 := n2_; have BK261 := n3_; have HB := n4_; have BK271 := n5_; have GW271 := n6_; have GE271 := n7_; have NB245_271 := n8_; have NB271_245 := n9_; have NB254_271 := n10_; have NB271_254 := n11_; have NB261_271 := n12_; have NB271_261 := n13_; clear n0_ n1_ n2_ n3_ n4_ n5_ n6_ n7_ n8_ n9_ n10_ n11_ n12_ n13_; clear hb hbox hg; have hnb221 := NB271_245.out; have hnc221 := NB245_271.out; have hnb222 := NB271_254.out; have hnc222 := NB254_271.out; have hnb223 := NB271_261.out; have hnc223 := NB261_271.out; have hcz224_0 : w220.cell? ⟨gb271, 0, none⟩ = some (.int .i64 0) := (blk_cell BK271.out 0).trans rfl; have hcz224_1 : w220.cell? ⟨gb271, 1, none⟩ = some (.int .i64 0) := (blk_cell BK271.out 1).trans rfl; have hcz224_2 : w220.cell? ⟨gb271, 2, none⟩ = some (.int .i64 0) := (blk_cell BK271.out 2).trans rfl; have hcz224_3 : w220.cell? ⟨gb271, 3, none⟩ = some (.int .i64 0) := (blk_cell BK271.out 3).trans rfl; have hcz224_4 : w220.cell? ⟨gb271, 4, none⟩ = some (.int .i64 0) := (blk_cell BK271.out 4).trans rfl; have hfz224_0 := blk_frozen BK271.out 0; have hfz224_1 := blk_frozen BK271.out 1; have hfz224_2 := blk_frozen BK271.out 2; have hfz224_3 := blk_frozen BK271.out 3; have hfz224_4 := blk_frozen BK271.out 4; have hcz225_0 : w220.cell? ⟨gb254, 0, none⟩ = some (.int .i64 t248) := (blk_cell BK254.out 0).trans rfl; have hcz225_1 : w220.cell? ⟨gb254, 1, none⟩ = some (.int .i64 t249) := (blk_cell BK254.out 1).trans rfl; have hcz225_2 : w220.cell? ⟨gb254, 2, none⟩ = some (.int .i64 t250) := (blk_cell BK254.out 2).trans rfl; have hcz225_3 : w220.cell? ⟨gb254, 3, none⟩ = some (.int .i64 t251) := (blk_cell BK254.out 3).trans rfl; have hcz225_4 : w220.cell? ⟨gb254, 4, none⟩ = some (.int .i64 t252) := (blk_cell BK254.out 4).trans rfl; have hfz225_0 := blk_frozen BK254.out 0; have hfz225_1 := blk_frozen BK254.out 1; have hfz225_2 := blk_frozen BK254.out 2; have hfz225_3 := blk_frozen BK254.out 3; have hfz225_4 := blk_frozen BK254.out 4) | (go_at_call 10; (with_reducible refine (parquetrylaw18_awake.calls k3  t273 _ A214.out).mono ?_); rintro e w226 ⟨rfl, hb⟩; have n0_ := Aside0.mk (Kd.R_below (by (with_reducible repeat (first | apply Kd.R_alloc | apply Kd.R_drewN | apply Kd.R_drew)); exact (Kd.R_mono (Kd.R_far (p := ⟨gb271, 4, none⟩) (Kd.R_far (p := ⟨gb271, 3, none⟩) (Kd.R_far (p := ⟨gb271, 2, none⟩) (Kd.R_far (p := ⟨gb271, 1, none⟩) (Kd.R_far (p := ⟨gb271, 0, none⟩) (Kd.R_mono HO_11.out (fun k_ hk => (⟨hk, hk.2⟩ : _ ∧ k_ ≠ gb271))) (fun _ hk => hk.2) (.int .i64 t265)) (fun _ hk => hk.2) (.int .i64 t266)) (fun _ hk => hk.2) (.int .i64 t267)) (fun _ hk => hk.2) (.int .i64 t268)) (fun _ hk => hk.2) (.int .i64 t269)) (fun _ h_ => h_.1))) hb); have n1_ := Aside0.mk (blk_below (g := gb245) (o := .cells #[.int .i64 a1_0, .int .i64 a1_1, .int .i64 a1_2, .int .i64 a1_3, .int .i64 a1_4] 29 (0, 0)) (by (with_reducible repeat (first | refine blk_drewN ?_ _ | refine blk_drew ?_ | refine blk_alloc ?_ _)); refine blk_far ?_ NB245_271.out _; (with_reducible repeat (first | refine blk_drewN ?_ _ | refine blk_drew ?_ | refine blk_alloc ?_ _)); refine blk_far ?_ NB245_271.out _; (with_reducible repeat (first | refine blk_drewN ?_ _ | refine blk_drew ?_ | refine blk_alloc ?_ _)); refine blk_far ?_ NB245_271.out _; (with_reducible repeat (first | refine blk_drewN ?_ _ | refine blk_drew ?_ | refine blk_alloc ?_ _)); refine blk_far ?_ NB245_271.out _; (with_reducible repeat (first | refine blk_drewN ?_ _ | refine blk_drew ?_ | refine blk_alloc ?_ _)); refine blk_far ?_ NB245_271.out _; exact BK245.out) hb); have n2_ := Aside0.mk (blk_below (g := gb254) (o := .cells #[.int .i64 t248, .int .i64 t249, .int .i64 t250, .int .i64 t251, .int .i64 t252] 29 (0, 0)) (by (with_reducible repeat (first | refine blk_drewN ?_ _ | refine blk_drew ?_ | refine blk_alloc ?_ _)); refine blk_far ?_ NB254_271.out _; (with_reducible repeat (first | refine blk_drewN ?_ _ | refine blk_drew ?_ | refine blk_alloc ?_ _)); refine blk_far ?_ NB254_271.out _; (with_reducible repeat (first | refine blk_drewN ?_ _ | refine blk_drew ?_ | refine blk_alloc ?_ _)); refine blk_far ?_ NB254_271.out _; (with_reducible repeat (first | refine blk_drewN ?_ _ | refine blk_drew ?_ | refine blk_alloc ?_ _)); refine blk_far ?_ NB254_271.out _; (with_reducible repeat (first | refine blk_drewN ?_ _ | refine blk_drew ?_ | refine blk_alloc ?_ _)); refine blk_far ?_ NB254_271.out _; exact BK254.out) hb); have n3_ := Aside0.mk (blk_below (g := gb261) (o := .cells #[.int .i64 t255, .int .i64 t256, .int .i64 t257, .int .i64 t258, .int .i64 t259] 29 (0, 0)) (by (with_reducible repeat (first | refine blk_drewN ?_ _ | refine blk_drew ?_ | refine blk_alloc ?_ _)); refine blk_far ?_ NB261_271.out _; (with_reducible repeat (first | refine blk_drewN ?_ _ | refine blk_drew ?_ | refine blk_alloc ?_ _)); refine blk_far ?_ NB261_271.out _; (with_reducible repeat (first | refine blk_drewN ?_ _ | refine blk_drew ?_ | refine blk_alloc ?_ _)); refine blk_far ?_ NB261_271.out _; (with_reducible repeat (first | refine blk_drewN ?_ _ | refine blk_drew ?_ | refine blk_alloc ?_ _)); refine blk_far ?_ NB261_271.out _; (with_reducible repeat (first | refine blk_drewN ?_ _ | refine blk_drew ?_ | refine blk_alloc ?_ _)); refine blk_far ?_ NB261_271.out _; exact BK261.out) hb); have n4_ := Aside0.mk (blk_below (g := gb271) (o := .cells #[.int .i64 t265, .int .i64 t266, .int .i64 t267, .int .i64 t268, .int .i64 t269] 29 (0, 0)) (by (with_reducible repeat (first | refine blk_drewN ?_ _ | refine blk_drew ?_ | refine blk_alloc ?_ _)); refine blk_put (cs := #[.int .i64 t265, .int .i64 t266, .int .i64 t267, .int .i64 t268, .int .i64 0]) ?_ 4 _ rfl; (with_reducible repeat (first | refine blk_drewN ?_ _ | refine blk_drew ?_ | refine blk_alloc ?_ _)); refine blk_put (cs := #[.int .i64 t265, .int .i64 t266, .int .i64 t267, .int .i64 0, .int .i64 0]) ?_ 3 _ rfl; (with_reducible repeat (first | refine blk_drewN ?_ _ | refine blk_drew ?_ | refine blk_alloc ?_ _)); refine blk_put (cs := #[.int .i64 t265, .int .i64 t266, .int .i64 0, .int .i64 0, .int .i64 0]) ?_ 2 _ rfl; (with_reducible repeat (first | refine blk_drewN ?_ _ | refine blk_drew ?_ | refine blk_alloc ?_ _)); refine blk_put (cs := #[.int .i64 t265, .int .i64 0, .int .i64 0, .int .i64 0, .int .i64 0]) ?_ 1 _ rfl; (with_reducible repeat (first | refine blk_drewN ?_ _ | refine blk_drew ?_ | refine blk_alloc ?_ _)); refine blk_put (cs := #[.int .i64 0, .int .i64 0, .int .i64 0, .int .i64 0, .int .i64 0]) ?_ 0 _ rfl; exact BK271.out) hb); have n5_ := Aside0.mk (below_step (by repeat (first | (with_reducible first | exact HB.out | apply below_alloc | apply pw_below_drewN | apply below_drew1 | refine below_set ?_ GE245.out | refine below_set ?_ GE254.out | refine below_set ?_ GE261.out | refine below_set ?_ GE271.out) | exact HB.out)) hb); clear HO_11; clear BK245; clear BK254; clear BK261; clear BK271; clear HB; have HO_11 := n0_; have BK245 := n1_; have BK254 := n2_; have BK261 := n3_; have BK271 := n4_; have HB := n5_; clear n0_ n1_ n2_ n3_ n4_ n5_; (try clear hb); (try clear hb2); (try clear hk); (try clear hi)))
                          go_ret
                          exact ⟨by first | rfl | (simp [errW_none, errW_some] <;> rfl) | (simp [*, errW_none, errW_some] <;> rfl), by repeat (first | (with_reducible first | exact HB.out | apply below_alloc | apply pw_below_drewN | apply below_drew1 | refine below_set ?_ GE245.out | refine below_set ?_ GE254.out | refine below_set ?_ GE261.out | refine below_set ?_ GE271.out) | exact HB.out)⟩
                        · rw [if_neg c213] at H
                          exact absurd H (by simp)
                    · rw [if_neg c198] at H
                      exact absurd H (by simp)


/-- THE ONE PURE STATEMENT of parquetrylaw18_ClipFits: yours. -/
def parquetrylaw18_ClipFits.Pure : Prop := ∀ (l0 : List (S39)) (a1_0 : Int) (a1_1 : Int) (a1_2 : Int) (a1_3 : Int) (a1_4 : Int) (a2 : Int), l0.length ≤ maxLen → l0.length * 48 ≤ 140737488351232 → (∀ x ∈ l0, (Lit.int .i64 x.f0).wf = true ∧ (Lit.int .i64 x.f1).wf = true ∧ (Lit.int .i64 x.f2).wf = true ∧ (Lit.int .i64 x.f3).wf = true ∧ (Lit.int .i64 x.f4).wf = true ∧ (Lit.int .i64 x.f5).wf = true) → (Lit.int .i64 a1_0).wf = true → (Lit.int .i64 a1_1).wf = true → (Lit.int .i64 a1_2).wf = true → (Lit.int .i64 a1_3).wf = true → (Lit.int .i64 a1_4).wf = true → (Lit.int .i64 a2).wf = true → ∃ k, parquetrylaw18_ClipFits.f k l0 a1_0 a1_1 a1_2 a1_3 a1_4 a2 = some true
theorem parquetrylaw18_ClipFits.walk (P : parquetrylaw18_ClipFits.Pure) (a0 : Option Addr) (cap0 : Nat) (l0 : List (S39)) (a1_0 : Int) (a1_1 : Int) (a1_2 : Int) (a1_3 : Int) (a1_4 : Int) (a2 : Int) (w : World) (hr0 : Kd.C k39 w a0 l0.length l0) (hc0 : l0.length ≤ cap0) (hm0 : l0.length ≤ maxLen) (y0 : l0.length * 48 ≤ 140737488351232) (hw0 : ∀ x ∈ l0, (Lit.int .i64 x.f0).wf = true ∧ (Lit.int .i64 x.f1).wf = true ∧ (Lit.int .i64 x.f2).wf = true ∧ (Lit.int .i64 x.f3).wf = true ∧ (Lit.int .i64 x.f4).wf = true ∧ (Lit.int .i64 x.f5).wf = true) (w1_0 : (Lit.int .i64 a1_0).wf = true) (w1_1 : (Lit.int .i64 a1_1).wf = true) (w1_2 : (Lit.int .i64 a1_2).wf = true) (w1_3 : (Lit.int .i64 a1_3).wf = true) (w1_4 : (Lit.int .i64 a1_4).wf = true) (w2 : (Lit.int .i64 a2).wf = true) :
    Calls Try.prog 4 #[.slice a0 l0.length cap0, .agg #[.int .i64 a1_0, .int .i64 a1_1, .int .i64 a1_2, .int .i64 a1_3, .int .i64 a1_4], .int .i64 a2] w fun e w' => e = .returned (.bool true) ∧ Below w.heap.size w w' := by
  obtain ⟨k, h⟩ := P l0 a1_0 a1_1 a1_2 a1_3 a1_4 a2 hm0 y0 hw0 w1_0 w1_1 w1_2 w1_3 w1_4 w2
  refine (parquetrylaw18_ClipFits.calls k _ _ l0 a1_0 a1_1 a1_2 a1_3 a1_4 a2 true w hr0 hc0 h).mono ?_
  rintro e w' ⟨rfl, hd⟩
  exact ⟨rfl, hd⟩

end Go.Proofs.Ytieffcjbbhigbaa.PC18
